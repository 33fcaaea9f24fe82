/-
  The join of a row of bits to a row of a taint map, the reference's. Conditions: rows of 14 bits, the first may be empty.
-/
import Derived.Test.YtjlnaiifegjneaaMatMem
import Derived.Test.YtjlnaiifegjneaaClone
namespace Go.Proofs.Ytjlnaiifegjneaa
open Go Go.RowKit

theorem repl_arr (n : Nat) (v : Value) : (zeroRow [v] n).toArray = Array.replicate n v := by rw [zeroRow_one]; simp

/-- A map fresh from make, its first row put in. -/
theorem mat_start (W : World) (n : Nat) (hn : 1 ≤ n) (hm : n ≤ 9223372036854775807) :
    let W2 := (W.alloc (.cells (Array.replicate n (.slice none 0 0)) 40)).alloc (.cells (Array.replicate 14 (.bool false)) 4)
    W2.frozen? ⟨W.heap.size, 0, none⟩ = false ∧ (∃ u, W2.cell? ⟨W.heap.size, 0, none⟩ = some u) ∧
    MatS (W2.setCell ⟨W.heap.size, 0, none⟩ (.slice (some ⟨W.heap.size + 1, 0, none⟩) 14 14)) W.heap.size (W.heap.size + 1 + 1) W.heap.size ((List.replicate n ([] : List Bool)).set 0 (List.replicate 14 false)) := by
  intro W2
  have h0 := own_made W [.slice none 0 0] n 1 40 rfl hm
  rw [repl_arr, zeroRow_one] at h0
  have k0 : Below (W.heap.size + 1) (W.alloc (.cells (Array.replicate n (.slice none 0 0)) 40)) W2 := by
    have := (Below.refl (W.heap.size + 1) (W.alloc (.cells (Array.replicate n (.slice none 0 0)) 40))).alloc (by simp) (.cells (Array.replicate 14 (.bool false)) 4)
    exact this
  have h1 := h0.keep k0 (Nat.le_refl _)
  have hS : MatS W2 W.heap.size (W.heap.size + 1) W.heap.size (List.replicate n ([] : List Bool)) := by
    refine ⟨⟨List.replicate n (.slice none 0 0), by rw [List.length_replicate]; exact h1, fun i u r hu hr => ?_, fun i j a b _ ha _ => ?_, fun i u hu => ?_⟩, fun i hi _ => ?_⟩
    · rw [List.getElem?_replicate] at hu hr
      split at hu
      · rename_i hi
        rw [if_pos hi] at hr
        cases hu; cases hr
        exact ⟨World.ownsRow_nil _ _ _ _, fun g hg => by cases hg⟩
      · cases hu
    · rw [List.getElem?_replicate] at ha
      split at ha
      · cases ha; intro g hg; cases hg
      · cases ha
    · rw [List.getElem?_replicate] at hu
      split at hu
      · cases hu; intro g hg; cases hg
      · cases hu
    · rw [List.length_replicate] at hi
      obtain ⟨g, cap, hv, -, -, -, -, -, -, hcc⟩ := h1.open (by omega)
      cases hv
      exact hcc i _ (by rw [List.getElem?_replicate, if_pos hi])
  have hr : Own W2 (W.heap.size + 1) (W.heap.size + 1 + 1) 4 1 (.slice (some ⟨W.heap.size + 1, 0, none⟩) 14 14) 14 (bools (List.replicate 14 false)) := by
    have := own_built (W.alloc (.cells (Array.replicate n (.slice none 0 0)) 40)) (g := W.heap.size + 1) (Array.replicate 14 (.bool false)) 14 1 4 (by simp) (by simp) (by omega)
    rw [show (Array.replicate 14 (Value.bool false)).toList = bools (List.replicate 14 false) by simp [bools]] at this
    simpa using this
  have hl : 0 < (List.replicate n ([] : List Bool)).length := by rw [List.length_replicate]; omega
  obtain ⟨hf, u, hc, -⟩ := hS.at hl
  exact ⟨hf, ⟨u, hc⟩, (hS.setRow hl (by simp) hr (Nat.le_refl _) (by omega))⟩

/-- A row fresh from make is put in. -/
theorem mat_fresh {w : World} {lo g y : Nat} {m : List (List Bool)} (h : MatS w lo w.heap.size g m) (hy : y < m.length) :
    (w.alloc (.cells (Array.replicate 14 (.bool false)) 4)).frozen? ⟨g, y, none⟩ = false ∧ (∃ u, (w.alloc (.cells (Array.replicate 14 (.bool false)) 4)).cell? ⟨g, y, none⟩ = some u) ∧
    MatS ((w.setCell ⟨g, y, none⟩ (.slice (some ⟨w.heap.size, 0, none⟩) 14 14)).alloc (.cells (Array.replicate 14 (.bool false)) 4)) lo (w.heap.size + 1) g (m.set y (List.replicate 14 false)) ∧
    ∀ v : Value, Apart w g m v → (∀ b, v.ownBlock = some b → b < w.heap.size) → Apart ((w.setCell ⟨g, y, none⟩ (.slice (some ⟨w.heap.size, 0, none⟩) 14 14)).alloc (.cells (Array.replicate 14 (.bool false)) 4)) g (m.set y (List.replicate 14 false)) v := by
  have hlt := h.lt
  have ba : Below w.heap.size w (w.alloc (.cells (Array.replicate 14 (.bool false)) 4)) := by go_grown
  have h1 := (h.next ba).1
  have hr := own_built w (g := w.heap.size) (Array.replicate 14 (.bool false)) 14 1 4 rfl (by simp) (by omega)
  rw [show (Array.replicate 14 (Value.bool false)).toList = bools (List.replicate 14 false) by simp [bools]] at hr
  have h2 := h1.setRow hy (by simp) hr (Nat.le_refl _) (by omega)
  have e := World.setCell_alloc_past (w := w) (.cells (Array.replicate 14 (.bool false)) 4) g y (.slice (some ⟨w.heap.size, 0, none⟩) 14 14) hlt.2.2
  rw [e] at h2
  obtain ⟨f, u, cu, -⟩ := h1.at hy
  refine ⟨f, ⟨u, cu⟩, h2, fun v hv hb => ?_⟩
  have h3 := (hv.next h ba).setRow (u := .slice (some ⟨w.heap.size, 0, none⟩) 14 14) (r := List.replicate 14 false) h1 hy (fun b e1 e2 => by have := hb b e1; cases e2; exact absurd this (Nat.lt_irrefl _))
  rw [e] at h3
  exact h3

set_option maxHeartbeats 2000000 in
theorem spec_l9Join (v u : Value) (row t : List Bool) (w : World) (h1 : Row w v row.length 1 (bools row)) (h2 : Row w u 14 1 (bools t)) (ht : t.length = 14) (hr : row.length = 0 ∨ row.length = 14) :
    Calls Try.prog 100 #[v, u] w fun e w' => ∃ z, e = .returned (.tuple #[z, .bool (!covF t row)]) ∧ Own w' w.heap.size w'.heap.size 4 1 z 14 (bools (joinF row t)) ∧ Below w.heap.size w w' := by
  obtain ⟨a1, c1, rfl, -, hm1, -, hc1⟩ := h1.open1
  obtain ⟨a2, c2, rfl, -, hm2, -, hc2⟩ := h2.open1
  have hfc : Hid (covF t row = (decide (0 < row.length) && covUpto t row t.length)) := rfl
  by_cases h0 : row.length = 0
  · have q0 : ((row.length : Int) == 0) = true := by simp [h0]
    have HJ := show Hid (joinF row t = t) from by simp [Hid, joinF, h0]
    have HC := show Hid (covF t row = false) from by unfold Hid; rw [hfc.out]; simp [h0]
    clear hc1 hc2 hfc
    go_enter Try.func100, Try.ntmps100
    go_wp2_with (at_builtin; refine wpList_app rfl _ _ rfl Try.underlying40 infoB rfl (by omega) rfl (own_built w #[] 0 1 _ (by simp) rfl (by omega)).1 rfl (h2.below (by go_grown)) bools_one (by omega) (by omega) (by simp) ?_; rintro a4 q4 w1 o4 b4 - -)
    go_ret2
    have e : (#[] : Array Value).toList ++ bools t = bools t := by simp
    rw [Nat.zero_add] at o4
    refine ⟨_, by rw [HC.out]; rfl, ?_, ?_⟩
    · rw [HJ.out]; exact Own.mk' (by simpa using o4)
    · exact ((Below.refl w.heap.size w).alloc (Nat.le_refl _) _).trans (by simpa using b4)
  · have q0 : ((row.length : Int) == 0) = false := by simp; intro e; rw [e] at h0; exact h0 rfl
    have h14 : row.length = 14 := by omega
    have hr1 : Row w (.slice a1 row.length c1) 14 1 (bools row) := by rw [h14] at h1 ⊢; exact h1
    have hl14 : row.length ≤ 14 := by omega
    have HC := show Hid (covF t row = covUpto t row 14) from by unfold Hid; rw [hfc.out, decide_eq_true (by omega), ht]; rfl
    have HJ := show Hid (joinF row t = joinUpto row t 14) from by unfold Hid joinF; rw [if_neg h0, ht]
    have HT := show Hid _ from ht
    have HR := show Hid _ from h14
    clear hfc hr ht h0 h14 h1 hc1
    go_enter Try.func100, Try.ntmps100
    go_wp2_with (at_builtin; refine wpList_app rfl _ _ rfl Try.underlying40 infoB rfl (by omega) rfl (own_built w #[] 0 1 _ (by simp) rfl (by omega)).1 rfl (hr1.below (by go_grown)) bools_one (by omega) (by omega) (by simp) ?_; rintro a4 q4 w1 o4 b4 - -)
    have o1 : Own w1 w.heap.size w1.heap.size 4 1 (.slice a4 14 q4) 14 (bools row) := Own.mk' (by simpa using o4)
    have b1 : Below w.heap.size w w1 := ((Below.refl w.heap.size w).alloc (Nat.le_refl _) _).trans (by simpa using b4)
    clear o4 b4
    obtain ⟨g, cap, hv, g1, g2, g3, g4, g5, g6, g7⟩ := o1.open (by omega)
    cases hv
    clear g7
    go_loopw [7, 8] (fun b i wr => ∃ k : Nat, k ≤ 14 ∧ i = .int .i64 k ∧ b = .bool (!covUpto t row k) ∧ Own wr w.heap.size w1.heap.size 4 1 (.slice (some ⟨g, 0, none⟩) 14 q4) 14 (bools (joinUpto row t k)) ∧ Below w.heap.size w wr ∧ w1.heap.size ≤ wr.heap.size) (fun _ i _ => 14 - (intOf i).toNat)
    case atStart => exact ⟨0, Nat.zero_le _, rfl, rfl, by rw [joinUpto_zero]; exact o1, b1, Nat.le_refl _⟩
    case round =>
      obtain ⟨k, hk, rfl, rfl, ho, hb, hsz⟩ := hrel
      have HS := show Hid _ from covUpto_succ t row k
      clear o1 b1 g4
      by_cases hlt : k < 14
      · obtain ⟨b2, o2, rfl, hb2, hy⟩ := hc2 k hlt
        rw [bools_get _ _ (by rw [HT.out]; exact hlt), ← (bcell hb).1 _ _ hb2] at hy
        clear hc2
        have hjl : (joinUpto row t k).length = 14 := by rw [joinUpto_len, HR.out]
        obtain ⟨g', cap', hv, -, -, g3', -, -, gf, gc⟩ := ho.open (by omega)
        cases hv
        have hx := gc k _ (bools_get _ k (by omega))
        have hxe : (joinUpto row t k)[k] = row.getD k false := by
          have := joinUpto_getD row t k k (by rw [HR.out]; exact hlt)
          rw [decide_eq_false (Nat.lt_irrefl _)] at this
          simpa [hjl, hlt] using this
        have hye : t[k]'(by rw [HT.out]; exact hlt) = t.getD k false := by have := HT.out; simp [this, hlt]
        rw [hxe] at hx
        rw [hye] at hy
        have hfk := gf k
        have HP := show Hid (t.getD k false = true → joinUpto row t (k + 1) = (joinUpto row t k).set k true) from fun h => joinUpto_put (by rw [HR.out]; exact hlt) h
        have HK := show Hid ((t.getD k false && !row.getD k false) = false → joinUpto row t (k + 1) = joinUpto row t k) from fun h => joinUpto_keep h
        clear hxe hye gc gf
        cases ht : t.getD k false
        · have HN := show Hid (joinUpto row t (k + 1) = joinUpto row t k) from HK.out (by rw [ht]; rfl)
          have HN2 := show Hid (covUpto t row (k + 1) = covUpto t row k) from by unfold Hid; rw [HS.out, ht]; simp
          rw [ht] at hy
          clear ht
          go_wp2_with fail
          exact ⟨⟨k + 1, by omega, by go_num, by rw [HN2.out], by rw [HN.out]; exact ho, hb, hsz⟩, by simp [intOf]; omega⟩
        · cases hw : row.getD k false
          · have HN := show Hid (joinUpto row t (k + 1) = (joinUpto row t k).set k true) from HP.out ht
            have HN2 := show Hid (covUpto t row (k + 1) = false) from by unfold Hid; rw [HS.out, ht, hw]; simp
            rw [ht] at hy; rw [hw] at hx
            clear ht hw
            go_wp2_with fail
            refine ⟨⟨k + 1, by omega, by go_num, by rw [HN2.out]; rfl, ?_, hb.setCell (p := ⟨g, k, none⟩) g1 _, by simpa [World.setCell] using hsz⟩, by simp [intOf]; omega⟩
            rw [HN.out, show bools ((joinUpto row t k).set k true) = (bools (joinUpto row t k)).set k (.bool true) by simp [bools, List.map_set]]
            exact ho.setCell (by simp [bools]; omega) _
          · have HN := show Hid (joinUpto row t (k + 1) = joinUpto row t k) from HK.out (by rw [hw]; simp)
            have HN2 := show Hid (covUpto t row (k + 1) = covUpto t row k) from by unfold Hid; rw [HS.out, hw]; simp
            rw [ht] at hy; rw [hw] at hx
            clear ht hw
            go_wp2_with fail
            exact ⟨⟨k + 1, by omega, by go_num, by rw [HN2.out], by rw [HN.out]; exact ho, hb, hsz⟩, by simp [intOf]; omega⟩
      · have e : k = 14 := by omega
        subst e
        clear hc2
        go_wp2_with fail
        go_ret2
        exact ⟨_, by rw [HC.out]; rfl, by rw [HJ.out]; exact ho.wide (Nat.le_refl _) hsz, hb⟩

end Go.Proofs.Ytjlnaiifegjneaa
