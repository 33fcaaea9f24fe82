/-
  The laws' helpers on slices of slices of bools, a contract each. Conditions: the arguments are such slices.
-/
import Derived.Test.YtooifghhgnlcoaaDoorLawBool
import Derived.StillTailTactics
namespace Go.Proofs.YtooifghhgnlcoaaDoor
set_option linter.unusedVariables false
set_option linter.unusedSimpArgs false
open Go Go.RowKit

theorem infoBS : (Tryd.prog.info? 30).map (fun i => (i.zero, i.size, i.bytes)) = some (some (.slice none 0 0), 1, 24) := by kernel_rfl

/-- A slice of slices of bools. -/
def MatRow (w : World) (v : Value) (m : List (List Bool)) : Prop :=
  ∃ vs : List Value, Row w v m.length 1 vs ∧ ∀ (i : Nat) (u : Value) (r : List Bool), vs[i]? = some u → m[i]? = some r → Row w u r.length 1 (bools r)

def MatOwn (w : World) (lo hi : Nat) (v : Value) (m : List (List Bool)) : Prop :=
  ∃ vs : List Value, Own w lo hi 30 1 v m.length vs ∧ (∀ (i : Nat) (u : Value) (r : List Bool), vs[i]? = some u → m[i]? = some r → Own w lo hi 4 1 u r.length (bools r)) ∧
    (∀ (i j : Nat) (u u' : Value), i < j → vs[i]? = some u → vs[j]? = some u' → Disj u u') ∧ ∀ (i : Nat) (u : Value), vs[i]? = some u → Disj u v

theorem MatRow.below {w w' : World} {v : Value} {m : List (List Bool)} (h : MatRow w v m) (hb : Below w.heap.size w w') : MatRow w' v m := by
  obtain ⟨vs, h1, h2⟩ := h
  exact ⟨vs, h1.below hb, fun i u r a b => (h2 i u r a b).below hb⟩
theorem MatOwn.row {w : World} {lo hi : Nat} {v : Value} {m : List (List Bool)} (h : MatOwn w lo hi v m) : MatRow w v m := by
  obtain ⟨vs, h1, h2, _⟩ := h
  exact ⟨vs, h1.row, fun i u r a b => (h2 i u r a b).row⟩
theorem MatOwn.keep {w w' : World} {lo hi B : Nat} {v : Value} {m : List (List Bool)} (h : MatOwn w lo hi v m) (hb : Below B w w') (hB : hi ≤ B) : MatOwn w' lo hi v m := by
  obtain ⟨vs, h1, h2, hd⟩ := h
  exact ⟨vs, h1.keep hb hB, fun i u r a b => (h2 i u r a b).keep hb hB, hd⟩
theorem MatOwn.out {w w' : World} {lo hi lo' hi' : Nat} {v : Value} {m : List (List Bool)} (h : MatOwn w lo hi v m) (hb : Out lo' hi' w w') (hB : hi ≤ lo' ∨ hi' ≤ lo) : MatOwn w' lo hi v m := by
  obtain ⟨vs, h1, h2, hd⟩ := h
  exact ⟨vs, h1.out hb hB, fun i u r a b => (h2 i u r a b).out hb hB, hd⟩
theorem MatOwn.wide {w : World} {lo hi lo' hi' : Nat} {v : Value} {m : List (List Bool)} (h : MatOwn w lo hi v m) (g1 : lo' ≤ lo) (g2 : hi ≤ hi') : MatOwn w lo' hi' v m := by
  obtain ⟨vs, h1, h2, hd⟩ := h
  exact ⟨vs, h1.wide g1 g2, fun i u r a b => (h2 i u r a b).wide g1 g2, hd⟩

/-- The row at an index: the cell that holds it, and what it holds. -/
theorem MatRow.open {w : World} {v : Value} {m : List (List Bool)} (h : MatRow w v m) : ∃ a cap, v = .slice a m.length cap ∧ m.length ≤ 9223372036854775807 ∧
    ∀ i (hi : i < m.length), ∃ b off a' c', a = some ⟨b, off, none⟩ ∧ b < w.heap.size ∧ w.cell? ⟨b, off + i, none⟩ = some (.slice a' m[i].length c') ∧ Row w (.slice a' m[i].length c') m[i].length 1 (bools m[i]) := by
  obtain ⟨vs, h1, h2⟩ := h
  obtain ⟨a, cap, hv, hc, hm, hm2, hcell⟩ := h1.open1
  refine ⟨a, cap, hv, hm, fun i hi => ?_⟩
  obtain ⟨b, off, ha, hb, hx⟩ := hcell i hi
  have hl : i < vs.length := by rw [h1.1]; omega
  rw [List.getElem?_eq_getElem hl] at hx
  have hr := h2 i _ _ (List.getElem?_eq_getElem hl) (List.getElem?_eq_getElem hi)
  obtain ⟨a', c', hs⟩ := hr.form
  rw [hs] at hx hr
  exact ⟨b, off, a', c', ha, hb, hx, hr⟩

def rowSum (m : List (List Bool)) : Nat := (m.map List.length).sum
def matSize (m : List (List Bool)) : Nat := m.length + rowSum m
theorem rowSum_take (m : List (List Bool)) (k : Nat) (h : k < m.length) : rowSum (m.take (k + 1)) = rowSum (m.take k) + m[k].length := by
  unfold rowSum
  rw [take_succ_get _ _ h, List.map_append, List.sum_append]
  simp only [List.map_cons, List.map_nil, List.sum_cons, List.sum_nil, Nat.add_zero]
theorem rowSum_le (m : List (List Bool)) (k : Nat) : rowSum (m.take k) ≤ rowSum m := by
  have := congrArg rowSum (List.take_append_drop k m)
  simp only [rowSum, List.map_append, List.sum_append] at this ⊢
  omega
theorem row_le (m : List (List Bool)) (k : Nat) (h : k < m.length) : m[k].length ≤ rowSum m := by
  have h1 := rowSum_take m k h
  have h2 := rowSum_le m (k + 1)
  omega


set_option maxHeartbeats 1000000 in
set_option maxRecDepth 100000 in
theorem eqBoolSS_any (v1 v2 : Value) (xs ys : List (List Bool)) (w : World) (h1 : MatRow w v1 xs) (h2 : MatRow w v2 ys) :
    Calls Tryd.prog 6 #[v1, v2] w fun e w' => e = .returned (.bool (decide (xs = ys))) ∧ Below w.heap.size w w' := by
  obtain ⟨a1, c1, rfl, hm1, hc1⟩ := h1.open
  obtain ⟨a2, c2, rfl, hm2, hc2⟩ := h2.open
  by_cases hl : xs.length = ys.length
  · rw [← hl]
    clear h1 h2 hm2
    have HL : Hid (xs.length = ys.length) := hl
    clear hl
    go_enter Tryd.func6, Tryd.ntmps6
    go_wp2_with fail
    go_loopw [5] (fun i wr => ∃ k : Nat, k ≤ xs.length ∧ i = .int .i64 k ∧ xs.take k = ys.take k ∧ Below w.heap.size w wr) (fun i _ => xs.length - (intOf i).toNat)
    case atStart => exact ⟨0, Nat.zero_le _, rfl, rfl, Below.refl _ _⟩
    case round =>
      obtain ⟨k, hk, rfl, ht, hb⟩ := hrel
      have HT : Hid (xs.take k = ys.take k) := ht
      clear ht
      by_cases hlt : k < xs.length
      · have hlt2 : k < ys.length := by have := HL.out; omega
        obtain ⟨b1, o1, a1', c1', rfl, hb1, hx, hr1⟩ := hc1 k hlt
        obtain ⟨b2, o2, a2', c2', rfl, hb2, hy, hr2⟩ := hc2 k hlt2
        rw [← (bcell hb).1 _ _ hb1] at hx
        rw [← (bcell hb).1 _ _ hb2] at hy
        clear hc1 hc2
        go_wp2_with fail
        go_still_tail 8, (by kernel_rfl)
        change wpList _ _ _ _ _ wr.drew
        go_wp2_with (go_at_call 14; refine (eqBoolS_any _ _ xs[k] ys[k] _ (hr1.below hb.drew) (hr2.below hb.drew)).mono ?_; rintro e w1 ⟨rfl, n1, rfl⟩)
        · rename_i hd
          go_ret
          exact ⟨ret_bool (by symm; simp; intro h; subst h; simp at hd), below_drewN hb _⟩
        · rename_i hd
          exact ⟨⟨k + 1, by omega, by go_num, take_eq_succ HT.out hlt hlt2 (by simpa using hd), below_drewN hb _⟩, by simp [intOf]; omega⟩
      · go_wp2_with fail
        go_ret
        exact ⟨ret_bool (by symm; simp; exact take_eq_all HT.out (by omega) (by have := HL.out; omega)), hb⟩
  · have hne : ((xs.length : Int) == (ys.length : Int)) = false := by simp; omega
    clear hc1 hc2
    go_enter Tryd.func6, Tryd.ntmps6
    go_wp2_with fail
    go_ret
    exact ⟨ret_bool (by symm; simp; intro h; exact hl (by rw [h])), Below.refl _ _⟩



end Go.Proofs.YtooifghhgnlcoaaDoor
