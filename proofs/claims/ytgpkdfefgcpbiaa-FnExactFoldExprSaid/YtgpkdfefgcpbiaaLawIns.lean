/-
  The laws' helpers on slices of instructions, a contract each. Conditions: the arguments are slices of instructions.
-/
import Derived.Test.YtgpkdfefgcpbiaaLawInt
import Derived.Test.YtgpkdfefgcpbiaaPure0
import Derived.StillTailTactics
namespace Go.Proofs.Ytgpkdfefgcpbiaa
set_option linter.unusedVariables false
set_option linter.unusedSimpArgs false
open Go Go.RowKit

theorem insTake (l : List LIns) (k : Nat) (h : k < l.length) : (ints (insF l)).take (k * 5 + 5) = (ints (insF l)).take (k * 5) ++ [.int .i64 l[k].op, .int .i64 l[k].a, .int .i64 l[k].b, .int .i64 l[k].c, .int .i64 l[k].d] := by
  have e := insF_take l (k + 1)
  rw [take_succ_get l k h, insF_append, insF_take, Nat.succ_mul] at e
  have e2 := congrArg (List.map (Value.int .i64)) e
  simp only [ints, List.map_take, List.map_append] at e2 ⊢
  rw [← e2]
  rfl
abbrev InsRow (w : World) (v : Value) (l : List LIns) : Prop := Row w v l.length 5 (ints (insF l))

theorem Row.ins {w : World} {v : Value} {l : List LIns} (h : InsRow w v l) : ∃ a cap, v = .slice a l.length cap ∧ l.length ≤ cap ∧ l.length ≤ 9223372036854775807 ∧ cap ≤ 9223372036854775807 ∧
    ∀ i (hi : i < l.length), ∃ b off, a = some ⟨b, off, none⟩ ∧ b < w.heap.size ∧ w.cell? ⟨b, off + i * 5, none⟩ = some (.int .i64 l[i].op) ∧ w.cell? ⟨b, off + i * 5 + 1, none⟩ = some (.int .i64 l[i].a) ∧
      w.cell? ⟨b, off + i * 5 + 2, none⟩ = some (.int .i64 l[i].b) ∧ w.cell? ⟨b, off + i * 5 + 3, none⟩ = some (.int .i64 l[i].c) ∧ w.cell? ⟨b, off + i * 5 + 4, none⟩ = some (.int .i64 l[i].d) := by
  obtain ⟨a, cap, h0, h1, h2, h3, h4⟩ := h.open
  refine ⟨a, cap, h0, h1, h2, h3, fun i hi => ?_⟩
  obtain ⟨b, off, e, hb, hc⟩ := h4 i hi
  obtain ⟨g0, g1, g2, g3, g4⟩ := insF_get l i hi
  have c0 := hc 0 (by omega)
  have c1 := hc 1 (by omega)
  have c2 := hc 2 (by omega)
  have c3 := hc 3 (by omega)
  have c4 := hc 4 (by omega)
  simp only [Nat.add_zero, List.getElem?_map, g0, g1, g2, g3, g4, Option.map_some] at c0 c1 c2 c3 c4
  exact ⟨b, off, e, hb, c0, c1, c2, c3, c4⟩

abbrev LIns.v (x : LIns) : Value := .agg #[.int .i64 x.op, .int .i64 x.a, .int .i64 x.b, .int .i64 x.c, .int .i64 x.d]

theorem infoN : (Try.prog.info? 153).map (fun i => (i.zero, i.size, i.bytes)) = some (some (.agg #[.int .i64 0, .int .i64 0, .int .i64 0, .int .i64 0, .int .i64 0]), 5, 40) := by kernel_rfl

set_option maxHeartbeats 400000 in
theorem eqInstr_any (x y : LIns) (w : World) :
    Calls Try.prog 166 #[x.v, y.v] w fun e w' => e = .returned (.bool (decide (x.l = y.l))) ∧ Below w.heap.size w w' := by
  obtain ⟨x0, x1, x2, x3, x4⟩ := x
  obtain ⟨y0, y1, y2, y3, y4⟩ := y
  go_enter Try.func166, Try.ntmps166
  go_wp2
  all_goals go_ret
  all_goals refine ⟨ret_bool ?_, by go_grown⟩
  all_goals simp_all [LIns.l]



set_option maxHeartbeats 400000 in
set_option maxRecDepth 100000 in
theorem eqInstrS_any (v1 v2 : Value) (xs ys : List LIns) (w : World) (h1 : InsRow w v1 xs) (h2 : InsRow w v2 ys) :
    Calls Try.prog 115 #[v1, v2] w fun e w' => e = .returned (.bool (decide (insF xs = insF ys))) ∧ Below w.heap.size w w' := by
  obtain ⟨a1, c1, rfl, -, hm1, -, hc1⟩ := h1.ins
  obtain ⟨a2, c2, rfl, -, hm2, -, hc2⟩ := h2.ins
  by_cases hl : xs.length = ys.length
  · rw [← hl]
    clear h1 h2 hm2
    have HL : Hid (xs.length = ys.length) := hl
    clear hl
    go_enter Try.func115, Try.ntmps115
    go_wp2_with fail
    go_loopw [5] (fun i wr => ∃ k : Nat, k ≤ xs.length ∧ i = .int .i64 k ∧ xs.take k = ys.take k ∧ Below w.heap.size w wr) (fun i _ => xs.length - (intOf i).toNat)
    case atStart => exact ⟨0, Nat.zero_le _, rfl, rfl, Below.refl _ _⟩
    case round =>
      obtain ⟨k, hk, rfl, ht, hb⟩ := hrel
      have HT : Hid (xs.take k = ys.take k) := ht
      clear ht
      by_cases hlt : k < xs.length
      · have hlt2 : k < ys.length := by have := HL.out; omega
        obtain ⟨b1, o1, rfl, hb1, x0, x1, x2, x3, x4⟩ := hc1 k hlt
        obtain ⟨b2, o2, rfl, hb2, y0, y1, y2, y3, y4⟩ := hc2 k hlt2
        rw [← (bcell hb).1 _ _ hb1] at x0 x1 x2 x3 x4
        rw [← (bcell hb).1 _ _ hb2] at y0 y1 y2 y3 y4
        clear hc1 hc2
        go_wp2_with fail
        go_still_tail 8, (by kernel_rfl)
        change wpList _ _ _ _ _ wr.drew
        go_wp2_with (go_at_call 166; refine (eqInstr_any xs[k] ys[k] _).mono ?_; rintro e w1 ⟨rfl, hb1⟩)
        · rename_i hd
          go_ret
          exact ⟨ret_bool (by symm; simp; intro h; have := insF_inj h; subst this; simp at hd), (hb.drew).trans (hb1.mono hb.size)⟩
        · rename_i hd
          refine ⟨⟨k + 1, by omega, by go_num, take_eq_succ HT.out hlt hlt2 (LIns.ext' (by simpa using hd)), (hb.drew).trans (hb1.mono hb.size)⟩, by simp [intOf]; omega⟩
      · go_wp2
        go_ret
        exact ⟨ret_bool (by symm; simp; rw [take_eq_all HT.out (by omega) (by have := HL.out; omega)]), hb⟩
  · have hne : ((xs.length : Int) == (ys.length : Int)) = false := by simp; omega
    clear hc1 hc2
    go_enter Try.func115, Try.ntmps115
    go_wp2_with fail
    go_ret
    exact ⟨ret_bool (by symm; simp; intro h; exact hl (by rw [insF_inj h])), Below.refl _ _⟩


theorem ints_take5 (l : List Int) (p : Nat) (h : p + 5 ≤ l.length) : (ints l).take (p + 5) = (ints l).take p ++ [.int .i64 (l[p]'(by omega)), .int .i64 (l[p + 1]'(by omega)), .int .i64 (l[p + 2]'(by omega)), .int .i64 (l[p + 3]'(by omega)), .int .i64 (l[p + 4]'(by omega))] := by
  have hl : (ints l).length = l.length := by simp
  rw [take_succ_get (ints l) (p + 4) (by omega), take_succ_get (ints l) (p + 3) (by omega), take_succ_get (ints l) (p + 2) (by omega), take_succ_get (ints l) (p + 1) (by omega), take_succ_get (ints l) p (by omega)]
  simp

set_option maxHeartbeats 1000000 in
theorem markInstrS_any (v : Value) (n : Nat) (xs : List Value) (K lo hi : Nat) (w : World) (h : Own w lo hi 153 5 v n xs) (hK : K + n * 5 ≤ 9000000000000000000) :
    Calls Try.prog 116 #[v, .int .i64 K] w fun e w' => e = .returned (.int .i64 (K + n * 5 : Nat)) ∧ Own w' lo hi 153 5 v n (ints (marksI K (n * 5))) ∧ Out lo hi w w' := by
  obtain ⟨a1, c1, rfl, -, hm1, -, -⟩ := h.row.open
  go_enter Try.func116, Try.ntmps116
  go_wp2_with fail
  go_loopw [1, 5] (fun q i wr => ∃ (k : Nat) (ys : List Value), k ≤ n ∧ q = .int .i64 ((K + k * 5 : Nat) : Int) ∧ i = .int .i64 k ∧ Own wr lo hi 153 5 (.slice a1 n c1) n ys ∧ ys.take (k * 5) = (ints (marksI K (n * 5))).take (k * 5) ∧ Out lo hi w wr) (fun _ i _ => n - (intOf i).toNat)
  case atStart => exact ⟨0, _, Nat.zero_le _, rfl, rfl, h, rfl, Out.refl _ _ _⟩
  case round =>
    obtain ⟨k, ys, hk, rfl, rfl, ho, ht, hbw⟩ := hrel
    have HT : Hid (ys.take (k * 5) = (ints (marksI K (n * 5))).take (k * 5)) := ht
    clear ht h
    by_cases hlt : k < n
    · have HY := show Hid (ys.length = n * 5) from ho.1.1
      have hin : ∀ j, j < 5 → k * 5 + j < ys.length := fun j hj => by rw [HY.out]; omega
      obtain ⟨g, cap, hv, hg1, hg2, hg3, f0, u0, y0⟩ := ho.at (hin 0 (by omega))
      cases hv
      obtain ⟨g, cap, hv, -, -, -, f1, u1, y1⟩ := ho.at (hin 1 (by omega))
      cases hv
      obtain ⟨g, cap, hv, -, -, -, f2, u2, y2⟩ := ho.at (hin 2 (by omega))
      cases hv
      obtain ⟨g, cap, hv, -, -, -, f3, u3, y3⟩ := ho.at (hin 3 (by omega))
      cases hv
      obtain ⟨g, cap, hv, -, -, -, f4, u4, y4⟩ := ho.at (hin 4 (by omega))
      cases hv
      simp only [Nat.add_zero] at f0 y0
      clear hin
      have hb5 : (K : Int) + k * 5 + 5 ≤ 9000000000000000000 := by have := hK; omega
      go_wp2_with fail
      refine ⟨⟨k + 1, _, by omega, ?_, by go_num, ho.setFrom [.int .i64 ((K + k * 5 : Nat) : Int), .int .i64 (((K + k * 5 : Nat) : Int) + 1), .int .i64 (((K + k * 5 : Nat) : Int) + 1 + 1), .int .i64 (((K + k * 5 : Nat) : Int) + 1 + 1 + 1), .int .i64 (((K + k * 5 : Nat) : Int) + 1 + 1 + 1 + 1)] (by simp; rw [HY.out]; omega), ?_, Out.setFrom [_, _, _, _, _] hbw hg1 hg2⟩, by simp [intOf]; omega⟩
      · congr 1; omega
      · rw [Nat.succ_mul, ints_take5 _ _ (by rw [marksI_len]; omega), ← HT.out]
        refine Eq.trans (setFrom_take [_, _, _, _, _] _ _ (by simp; rw [HY.out]; omega)) ?_
        simp only [marksI_get]
        rw [List.append_cancel_left_eq]
        simp only [List.cons.injEq, Value.int.injEq, true_and, and_true]
        omega
    · go_wp2_with fail
      go_ret
      obtain rfl : k = n := by omega
      have he : ys = ints (marksI K (k * 5)) := take_eq_all HT.out (by rw [ho.1.1]; omega) (by simp [marksI])
      subst he
      exact ⟨rfl, ho, hbw⟩

set_option maxHeartbeats 1000000 in
theorem heldInstrS_any (v : Value) (n K : Nat) (w : World) (h : Row w v n 5 (ints (marksI K (n * 5)))) (hK : K + n * 5 ≤ 9000000000000000000) :
    Calls Try.prog 117 #[v, .int .i64 K] w fun e w' => e = .returned (.int .i64 (K + n * 5 : Nat)) ∧ ∃ m, w' = w.drewN m := by
  obtain ⟨a1, c1, rfl, -, hm1, -, hc1⟩ := h.open
  clear h
  go_enter Try.func117, Try.ntmps117
  go_wp2_with fail
  go_loopw [1, 5] (fun q i wr => ∃ (k : Nat), k ≤ n ∧ q = .int .i64 ((K + k * 5 : Nat) : Int) ∧ i = .int .i64 k ∧ ∃ m, wr = w.drewN m) (fun _ i _ => n - (intOf i).toNat)
  case atStart => exact ⟨0, Nat.zero_le _, rfl, rfl, 0, rfl⟩
  case round =>
    obtain ⟨k, hk, rfl, rfl, nd, rfl⟩ := hrel
    by_cases hlt : k < n
    · obtain ⟨b1, o1, rfl, hb1, hx⟩ := hc1 k hlt
      have hget : ∀ j, j < 5 → w.cell? ⟨b1, o1 + k * 5 + j, none⟩ = some (.int .i64 ((K : Int) + ((k * 5 + j : Nat) : Int))) := fun j hj => by
        rw [hx j hj, ints_get _ _ (by rw [marksI_len]; omega), marksI_get]
      have e : (K : Int) + ((k * 5 : Nat) : Int) = ((K + k * 5 : Nat) : Int) := by omega
      have y0 := hget 0 (by omega)
      have y1 := hget 1 (by omega)
      have y2 := hget 2 (by omega)
      have y3 := hget 3 (by omega)
      have y4 := hget 4 (by omega)
      rw [Nat.add_zero, Nat.add_zero, e] at y0
      rw [show (K : Int) + ((k * 5 + 1 : Nat) : Int) = ((K + k * 5 : Nat) : Int) + 1 by omega] at y1
      rw [show (K : Int) + ((k * 5 + 2 : Nat) : Int) = ((K + k * 5 : Nat) : Int) + 1 + 1 by omega] at y2
      rw [show (K : Int) + ((k * 5 + 3 : Nat) : Int) = ((K + k * 5 : Nat) : Int) + 1 + 1 + 1 by omega] at y3
      rw [show (K : Int) + ((k * 5 + 4 : Nat) : Int) = ((K + k * 5 : Nat) : Int) + 1 + 1 + 1 + 1 by omega] at y4
      clear hc1 hx hget e
      have hb5 : (K : Int) + k * 5 + 5 ≤ 9000000000000000000 := by have := hK; omega
      go_wp2_with fail
      refine ⟨⟨k + 1, by omega, ?_, by go_num, _, rfl⟩, by simp [intOf]; omega⟩
      congr 1; omega
    · go_wp2_with fail
      go_ret
      obtain rfl : k = n := by omega
      exact ⟨rfl, _, rfl⟩

end Go.Proofs.Ytgpkdfefgcpbiaa
