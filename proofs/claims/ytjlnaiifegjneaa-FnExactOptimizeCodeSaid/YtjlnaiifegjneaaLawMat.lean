/-
  The laws' helpers on slices of slices of bools, a contract each. Conditions: the arguments are such slices.
-/
import Derived.Test.YtjlnaiifegjneaaLawBool
import Derived.StillTailTactics
namespace Go.Proofs.Ytjlnaiifegjneaa
open Go Go.RowKit

theorem infoBS : (Try.prog.info? 40).map (fun i => (i.zero, i.size, i.bytes)) = some (some (.slice none 0 0), 1, 24) := by kernel_rfl

/-- A slice of slices of bools. -/
def MatRow (w : World) (v : Value) (m : List (List Bool)) : Prop :=
  ∃ vs : List Value, Row w v m.length 1 vs ∧ ∀ (i : Nat) (u : Value) (r : List Bool), vs[i]? = some u → m[i]? = some r → Row w u r.length 1 (bools r)

def MatOwn (w : World) (lo hi : Nat) (v : Value) (m : List (List Bool)) : Prop :=
  ∃ vs : List Value, Own w lo hi 40 1 v m.length vs ∧ (∀ (i : Nat) (u : Value) (r : List Bool), vs[i]? = some u → m[i]? = some r → Own w lo hi 4 1 u r.length (bools r)) ∧
    (∀ (i j : Nat) (u u' : Value), i < j → vs[i]? = some u → vs[j]? = some u' → Disj u u') ∧ ∀ (i : Nat) (u : Value), vs[i]? = some u → Disj u v

theorem MatRow.below {w w' : World} {v : Value} {m : List (List Bool)} (h : MatRow w v m) (hb : Below w.heap.size w w') : MatRow w' v m := by
  obtain ⟨vs, h1, h2⟩ := h
  exact ⟨vs, h1.below hb, fun i u r a b => (h2 i u r a b).below hb⟩
theorem MatOwn.row {w : World} {lo hi : Nat} {v : Value} {m : List (List Bool)} (h : MatOwn w lo hi v m) : MatRow w v m := by
  obtain ⟨vs, h1, h2, _⟩ := h
  exact ⟨vs, h1.row, fun i u r a b => (h2 i u r a b).row⟩
theorem MatOwn.keep {w w' : World} {lo hi B : Nat} {v : Value} {m : List (List Bool)} (h : MatOwn w lo hi v m) (hb : Below B w w') (hB : hi ≤ B) : MatOwn w' lo hi v m := by
  obtain ⟨vs, h1, h2, hd⟩ := h
  exact ⟨vs, h1.keep hb hB, fun i u r a b => (h2 i u r a b).keep hb hB, hd⟩
theorem MatOwn.out {w w' : World} {lo hi lo' hi' : Nat} {v : Value} {m : List (List Bool)} (h : MatOwn w lo hi v m) (hb : Out lo' hi' w w') (hB : hi ≤ lo' ∨ hi' ≤ lo) : MatOwn w' lo hi v m := by
  obtain ⟨vs, h1, h2, hd⟩ := h
  exact ⟨vs, h1.out hb hB, fun i u r a b => (h2 i u r a b).out hb hB, hd⟩
theorem MatOwn.wide {w : World} {lo hi lo' hi' : Nat} {v : Value} {m : List (List Bool)} (h : MatOwn w lo hi v m) (g1 : lo' ≤ lo) (g2 : hi ≤ hi') : MatOwn w lo' hi' v m := by
  obtain ⟨vs, h1, h2, hd⟩ := h
  exact ⟨vs, h1.wide g1 g2, fun i u r a b => (h2 i u r a b).wide g1 g2, hd⟩

/-- The row at an index: the cell that holds it, and what it holds. -/
theorem MatRow.open {w : World} {v : Value} {m : List (List Bool)} (h : MatRow w v m) : ∃ a cap, v = .slice a m.length cap ∧ m.length ≤ 9223372036854775807 ∧
    ∀ i (hi : i < m.length), ∃ b off a' c', a = some ⟨b, off, none⟩ ∧ b < w.heap.size ∧ w.cell? ⟨b, off + i, none⟩ = some (.slice a' m[i].length c') ∧ Row w (.slice a' m[i].length c') m[i].length 1 (bools m[i]) := by
  obtain ⟨vs, h1, h2⟩ := h
  obtain ⟨a, cap, hv, hc, hm, hm2, hcell⟩ := h1.open1
  refine ⟨a, cap, hv, hm, fun i hi => ?_⟩
  obtain ⟨b, off, ha, hb, hx⟩ := hcell i hi
  have hl : i < vs.length := by rw [h1.1]; omega
  rw [List.getElem?_eq_getElem hl] at hx
  have hr := h2 i _ _ (List.getElem?_eq_getElem hl) (List.getElem?_eq_getElem hi)
  obtain ⟨a', c', hs⟩ := hr.form
  rw [hs] at hx hr
  exact ⟨b, off, a', c', ha, hb, hx, hr⟩

def rowSum (m : List (List Bool)) : Nat := (m.map List.length).sum
def matSize (m : List (List Bool)) : Nat := m.length + rowSum m
theorem rowSum_take (m : List (List Bool)) (k : Nat) (h : k < m.length) : rowSum (m.take (k + 1)) = rowSum (m.take k) + m[k].length := by
  unfold rowSum
  rw [take_succ_get _ _ h, List.map_append, List.sum_append]
  simp only [List.map_cons, List.map_nil, List.sum_cons, List.sum_nil, Nat.add_zero]
theorem rowSum_le (m : List (List Bool)) (k : Nat) : rowSum (m.take k) ≤ rowSum m := by
  have := congrArg rowSum (List.take_append_drop k m)
  simp only [rowSum, List.map_append, List.sum_append] at this ⊢
  omega
theorem row_le (m : List (List Bool)) (k : Nat) (h : k < m.length) : m[k].length ≤ rowSum m := by
  have h1 := rowSum_take m k h
  have h2 := rowSum_le m (k + 1)
  omega

set_option maxHeartbeats 1000000 in
theorem szBoolSS_any (v : Value) (m : List (List Bool)) (q : Int) (w : World) (h : MatRow w v m) (hm : 0 ≤ q) (hm2 : q ≤ 1048576) :
    Calls Try.prog 12 #[v, .int .i64 q] w fun e w' => e = .returned (.int .i64 (szRes q (matSize m))) ∧ Below w.heap.size w w' := by
  obtain ⟨a, cap, rfl, hl, hc⟩ := h.open
  by_cases c1 : q - m.length < 0
  · clear hc
    go_enter Try.func12, Try.ntmps12
    go_wp2_with fail
    go_ret
    exact ⟨ret_int (szRes_neg (by unfold matSize; omega)).symm, Below.refl _ _⟩
  · go_enter Try.func12, Try.ntmps12
    go_wp2_with fail
    go_loopw [1, 5] (fun z i wr => ∃ (k : Nat) (y : Int), k ≤ m.length ∧ z = .int .i64 y ∧ 0 ≤ y ∧ y = q - m.length - rowSum (m.take k) ∧ i = .int .i64 k ∧ w = wr) (fun _ i _ => m.length - (intOf i).toNat)
    case atStart => exact ⟨0, _, Nat.zero_le _, rfl, by omega, by simp [rowSum], rfl, rfl⟩
    case round =>
      obtain ⟨k, y, hk, rfl, hy, hyy, rfl, rfl⟩ := hrel
      have HY := show Hid _ from hyy
      have hy2 : y ≤ 1048576 := by omega
      clear hyy
      by_cases hlt : k < m.length
      · obtain ⟨b, off, a', c', rfl, hb, hx, hr⟩ := hc k hlt
        clear hc
        go_wp2_with fail
        refine (szBoolS_any _ _ _ y _ hr hy hy2).mono ?_
        rintro e w1 ⟨rfl, rfl⟩
        by_cases c2 : y < (m[k].length : Int)
        · rw [szRes_neg c2]
          go_wp2_with fail
          go_ret
          refine ⟨ret_int (szRes_neg ?_).symm, Below.refl _ _⟩
          have := HY.out
          have := rowSum_take m k hlt
          have := rowSum_le m (k + 1)
          unfold matSize
          omega
        · rw [szRes_pos c2]
          go_wp2_with fail
          refine ⟨⟨k + 1, _, by omega, rfl, by omega, ?_, by go_num, trivial⟩, by simp [intOf]; omega⟩
          rw [rowSum_take m k hlt, HY.out]
          omega
      · go_wp2_with fail
        go_ret
        refine ⟨ret_int ?_, Below.refl _ _⟩
        have h1 := HY.out
        rw [List.take_of_length_le (by omega)] at h1
        unfold matSize
        rw [szRes_pos (by omega)]
        omega

set_option maxHeartbeats 1000000 in
set_option maxRecDepth 100000 in
theorem eqBoolSS_any (v1 v2 : Value) (xs ys : List (List Bool)) (w : World) (h1 : MatRow w v1 xs) (h2 : MatRow w v2 ys) :
    Calls Try.prog 16 #[v1, v2] w fun e w' => e = .returned (.bool (decide (xs = ys))) ∧ Below w.heap.size w w' := by
  obtain ⟨a1, c1, rfl, hm1, hc1⟩ := h1.open
  obtain ⟨a2, c2, rfl, hm2, hc2⟩ := h2.open
  by_cases hl : xs.length = ys.length
  · rw [← hl]
    clear h1 h2 hm2
    have HL : Hid (xs.length = ys.length) := hl
    clear hl
    go_enter Try.func16, Try.ntmps16
    go_wp2_with fail
    go_loopw [5] (fun i wr => ∃ k : Nat, k ≤ xs.length ∧ i = .int .i64 k ∧ xs.take k = ys.take k ∧ Below w.heap.size w wr) (fun i _ => xs.length - (intOf i).toNat)
    case atStart => exact ⟨0, Nat.zero_le _, rfl, rfl, Below.refl _ _⟩
    case round =>
      obtain ⟨k, hk, rfl, ht, hb⟩ := hrel
      have HT : Hid (xs.take k = ys.take k) := ht
      clear ht
      by_cases hlt : k < xs.length
      · have hlt2 : k < ys.length := by have := HL.out; omega
        obtain ⟨b1, o1, a1', c1', rfl, hb1, hx, hr1⟩ := hc1 k hlt
        obtain ⟨b2, o2, a2', c2', rfl, hb2, hy, hr2⟩ := hc2 k hlt2
        rw [← (bcell hb).1 _ _ hb1] at hx
        rw [← (bcell hb).1 _ _ hb2] at hy
        clear hc1 hc2
        go_wp2_with fail
        go_still_tail 8, (by kernel_rfl)
        change wpList _ _ _ _ _ wr.drew
        go_wp2_with (go_at_call 24; refine (eqBoolS_any _ _ xs[k] ys[k] _ (hr1.below hb.drew) (hr2.below hb.drew)).mono ?_; rintro e w1 ⟨rfl, n1, rfl⟩)
        · rename_i hd
          go_ret
          exact ⟨ret_bool (by symm; simp; intro h; subst h; simp at hd), below_drewN hb _⟩
        · rename_i hd
          exact ⟨⟨k + 1, by omega, by go_num, take_eq_succ HT.out hlt hlt2 (by simpa using hd), below_drewN hb _⟩, by simp [intOf]; omega⟩
      · go_wp2_with fail
        go_ret
        exact ⟨ret_bool (by symm; simp; exact take_eq_all HT.out (by omega) (by have := HL.out; omega)), hb⟩
  · have hne : ((xs.length : Int) == (ys.length : Int)) = false := by simp; omega
    clear hc1 hc2
    go_enter Try.func16, Try.ntmps16
    go_wp2_with fail
    go_ret
    exact ⟨ret_bool (by symm; simp; intro h; exact hl (by rw [h])), Below.refl _ _⟩


set_option maxHeartbeats 1000000 in
theorem toBoolSS_any (v : Value) (m : List (List Bool)) (w : World) (h : MatRow w v m) (hb : matSize m ≤ 1048576) :
    Calls Try.prog 14 #[v] w fun e w' => ∃ u, e = .returned u ∧ MatOwn w' w.heap.size w'.heap.size u m ∧ Below w.heap.size w w' := by
  obtain ⟨a1, c1, rfl, hm1, hc1⟩ := h.open
  clear h
  have hm2 : m.length ≤ 1048576 := by unfold matSize at hb; omega
  have hmk := make_run (P := Try.prog) (t := 22) Try.underlying22 infoBS rfl (by omega) m.length (by omega) hm1
  have hown := own_made w (Value.slice none 0 0).cells.toList m.length 1 40 rfl hm1
  go_enter Try.func14, Try.ntmps14
  go_wp2_with fail
  clear hmk
  go_loopw [4] (fun i wr => ∃ (k : Nat) (vs : List Value), k ≤ m.length ∧ i = .int .i64 k ∧ Own wr w.heap.size (w.heap.size + 1) 40 1 (.slice (some ⟨w.heap.size, 0, none⟩) m.length m.length) m.length vs ∧
      (∀ (i : Nat) (u : Value) (r : List Bool), i < k → vs[i]? = some u → m[i]? = some r → Own wr (w.heap.size + 1) wr.heap.size 4 1 u r.length (bools r)) ∧
      (∀ (i j : Nat) (u u' : Value), i < j → j < k → vs[i]? = some u → vs[j]? = some u' → Disj u u') ∧ Below w.heap.size w wr) (fun i _ => m.length - (intOf i).toNat)
  case atStart => exact ⟨0, _, Nat.zero_le _, rfl, hown, fun i u r h => by omega, fun i j u u' _ h => by omega, (Below.refl _ _).alloc (Nat.le_refl _) _⟩
  case round =>
    obtain ⟨k, vs, hk, rfl, ho, hrow, hdis, hbw⟩ := hrel
    clear hown
    by_cases hlt : k < m.length
    · obtain ⟨b1, o1, a', c', rfl, hb1, hx, hr⟩ := hc1 k hlt
      rw [← (bcell hbw).1 _ _ hb1] at hx
      have HY := show Hid (vs.length = m.length) from by have := ho.1.1; unfold Hid; omega
      have hrl := row_le m k hlt
      have hrl2 : m[k].length ≤ 1048576 := by unfold matSize at hb; omega
      have HR := show Hid _ from hrow
      have HD := show Hid _ from hdis
      clear hrl hc1 hrow hdis
      go_wp2_with fail
      refine (toBoolS_any _ m[k] _ (hr.below hbw) (by omega)).mono ?_
      rintro e w1 ⟨u1, rfl, o1, b1⟩
      obtain ⟨a2, k2, rfl⟩ := o1.form
      have hs : w.heap.size < wr.heap.size := (ho.lt _ rfl).2.2
      have ho1 := ho.keep b1 (by omega)
      obtain ⟨g, cap, hv, hg1, hg2, hg3, f0, u0, y0⟩ := ho1.at (j := k) (by have := HY.out; omega)
      cases hv
      go_wp2_with fail
      have hs1 := b1.size
      refine ⟨⟨k + 1, vs.set k (.slice a2 m[k].length k2), by omega, by go_num, ho1.setCell (by have := HY.out; omega) _, ?_, ?_, (hbw.trans (b1.mono hbw.size)).setCell (Nat.le_refl _) _⟩, by simp [intOf]; omega⟩
      · intro i u r hi hu hr'
        by_cases hik : i = k
        · subst hik
          rw [List.getElem?_set_self (by have := HY.out; omega)] at hu
          cases hu
          rw [List.getElem?_eq_getElem hlt] at hr'
          cases hr'
          exact (o1.other (b := w.heap.size) (by omega) _ _).wide (by omega) (by simp)
        · rw [List.getElem?_set_ne (by omega)] at hu
          exact (((HR.out i u r (by omega) hu hr').keep b1 (Nat.le_refl _)).other (b := w.heap.size) (by omega) _ _).wide (Nat.le_refl _) (by simpa using hs1)
      · intro i j u u' hij hj hu hu'
        rw [List.getElem?_set_ne (by omega)] at hu
        by_cases hjk : j = k
        · subst hjk
          rw [List.getElem?_set_self (by have := HY.out; omega)] at hu'
          cases hu'
          exact disj_of (HR.out i u _ (by omega) hu (List.getElem?_eq_getElem (by omega))) o1 (by omega)
        · rw [List.getElem?_set_ne (by omega)] at hu'
          exact HD.out i j u u' hij (by omega) hu hu'
    · go_wp2_with fail
      go_ret
      obtain rfl : k = m.length := by omega
      have hs : w.heap.size < wr.heap.size := (ho.lt _ rfl).2.2
      have hl : ∀ (i : Nat) (u : Value), vs[i]? = some u → i < m.length := fun i u h => by
        have := (List.getElem?_eq_some_iff.1 h).1
        have := ho.1.1
        omega
      refine ⟨_, rfl, ⟨vs, ho.wide (Nat.le_refl _) (by omega), fun i u r hu hr => (hrow i u r (hl i u hu) hu hr).wide (by omega) (Nat.le_refl _), fun i j u u' hij hu hu' => hdis i j u u' hij (hl j u' hu') hu hu', fun i u hu => ?_⟩, hbw⟩
      exact disj_of (hrow i u _ (hl i u hu) hu (List.getElem?_eq_getElem (hl i u hu))) ho (by omega)

end Go.Proofs.Ytjlnaiifegjneaa
