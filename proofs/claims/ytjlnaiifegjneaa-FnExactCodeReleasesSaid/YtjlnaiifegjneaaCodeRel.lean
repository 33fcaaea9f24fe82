/-
  CodeReleases of both sides. Conditions: the argument is code.
-/
import Derived.Test.YtjlnaiifegjneaaSpecCode2
import Derived.Test.YtjlnaiifegjneaaImplCode3
namespace Go.Proofs.Ytjlnaiifegjneaa
open Go Go.RowKit

def relOk (c : LCode) : Bool := codeOk c && c.list.any fun x => decide (x.op = 11)

theorem take_any_false {α : Type} {p : α → Bool} {l : List α} {k : Nat} (h : (l.take k).any p = false) (hk : k < l.length) (hp : p l[k] = false) : (l.take (k + 1)).any p = false := by
  rw [take_succ_get _ _ hk, List.any_append, h]; simp [hp]

set_option maxHeartbeats 1000000 in
theorem spec_CodeReleases (v : Value) (c : LCode) (w : World) (h : CodeRow w v c) :
    Calls Try.prog 18 #[v] w fun e w' => e = .returned (.bool (relOk c)) ∧ Below w.heap.size w w' := by
  have hrow := h
  obtain ⟨v1, v2, v3, rfl, h1, h2, h3⟩ := h
  have HT : Hid (relOk c = (codeOk c && c.list.any fun x => decide (x.op = 11))) := rfl
  obtain ⟨W, hW⟩ : ∃ W, W = w.alloc (.cells #[v1, v2, v3] 36) := ⟨_, rfl⟩
  have B0 : Below w.heap.size w W := by rw [hW]; go_grown
  have L1 : Blk W w.heap.size [v1, v2, v3] := by rw [hW]; exact (Blk.new w [v1, v2, v3] _)
  obtain ⟨a3, k3, rfl, hk3, hm3, -, hc3⟩ := h3.ins
  go_enter Try.func18, Try.ntmps18
  go_wp2_with fail
  rw [← hW]
  clear hW
  refine (spec_CodeValid _ c _ (hrow.below B0)).mono ?_
  rintro e w1 ⟨rfl, b1⟩
  replace L1 := L1.below b1 L1.lt
  have B1 := B0.trans (b1.mono B0.size)
  cases hh : codeOk c
  · have HH := show Hid _ from hh
    clear hh hc3
    go_wp2_with fail
    go_ret
    exact ⟨ret_bool (by rw [HT.out, HH.out]; rfl), B1⟩
  · have HH := show Hid _ from hh
    clear hh
    have x2 := L1.cell 2
    simp only [List.getElem?_cons_zero, List.getElem?_cons_succ] at x2
    go_wp2_with fail
    go_loop [3] (fun i => ∃ k : Nat, k ≤ c.list.length ∧ i = .int .i64 k ∧ (c.list.take k).any (fun x => decide (x.op = 11)) = false) (fun i => c.list.length - (intOf i).toNat)
    case atStart => exact ⟨0, Nat.zero_le _, rfl, rfl⟩
    case round =>
      obtain ⟨k, hk, rfl, ha⟩ := hrel
      have HA := show Hid _ from ha
      clear ha
      by_cases hlt : k < c.list.length
      · obtain ⟨b, off, rfl, hb3, i0, i1, i2, i3, i4⟩ := hc3 k hlt
        rw [← (bcell B1).1 _ _ hb3] at i0
        clear hc3 i1 i2 i3 i4
        by_cases hp : c.list[k].op = 11
        · have hp1 : (c.list[k].op == 11) = true := by simp [hp]
          have HP := show Hid _ from hp
          clear hp
          go_wp2_with fail
          go_ret
          exact ⟨ret_bool (by rw [HT.out, HH.out]; symm; rw [Bool.true_and, List.any_eq_true]; exact ⟨_, List.getElem_mem hlt, by simp [HP.out]⟩), B1⟩
        · have hp1 : (c.list[k].op == 11) = false := by simp [hp]
          have HP := show Hid (¬ c.list[k].op = 11) from hp
          clear hp
          go_wp2_with fail
          exact ⟨⟨k + 1, by omega, by go_num, take_any_false HA.out hlt (by simp [HP.out])⟩, by simp [intOf]; omega⟩
      · go_wp2_with fail
        go_ret
        have := HA.out
        rw [List.take_of_length_le (by omega)] at this
        exact ⟨ret_bool (by rw [HT.out, HH.out, this]; rfl), B1⟩

theorem impl_CodeReleases1 (x : LIns) (w : World) :
    Calls Try.prog 55 #[x.v] w fun e w' => e = .returned (.bool (decide (x.op = 11))) ∧ Below w.heap.size w w' := by
  obtain ⟨x0, x1, x2, x3, x4⟩ := x
  go_enter Try.func55, Try.ntmps55
  go_wp2_with fail
  go_ret
  exact ⟨ret_bool (by rw [Bool.eq_iff_iff]; simp), by go_grown⟩

theorem impl_CodeReleases (v : Value) (c : LCode) (w : World) (h : CodeRow w v c) :
    Calls Try.prog 20 #[v] w fun e w' => e = .returned (.bool (relOk c)) ∧ Below w.heap.size w w' := by
  have hrow := h
  obtain ⟨v1, v2, v3, rfl, h1, h2, h3⟩ := h
  have HT : Hid (relOk c = (codeOk c && c.list.any fun x => decide (x.op = 11))) := rfl
  obtain ⟨W, hW⟩ : ∃ W, W = w.alloc (.cells #[v1, v2, v3] 36) := ⟨_, rfl⟩
  have B0 : Below w.heap.size w W := by rw [hW]; go_grown
  have L1 : Blk W w.heap.size [v1, v2, v3] := by rw [hW]; exact (Blk.new w [v1, v2, v3] _)
  go_enter Try.func20, Try.ntmps20
  go_wp2_with fail
  rw [← hW]
  clear hW
  refine (impl_CodeValid _ c _ (hrow.below B0)).mono ?_
  rintro e w1 ⟨rfl, b1⟩
  replace L1 := L1.below b1 L1.lt
  have B1 := B0.trans (b1.mono B0.size)
  cases hh : codeOk c
  · have HH := show Hid _ from hh
    clear hh
    go_wp2_with fail
    go_ret
    exact ⟨ret_bool (by rw [HT.out, HH.out]; rfl), B1⟩
  · have HH := show Hid _ from hh
    clear hh
    obtain ⟨a3, k3, rfl, -⟩ := h3.open
    have x2 := L1.cell 2
    simp only [List.getElem?_cons_zero, List.getElem?_cons_succ] at x2
    go_wp2_with fail
    refine (containsFunc_ins0 (fun x => decide (x.op = 11)) 55 _ c.list _ (h3.below B1) (enters_of Try.func55 (by kernel_rfl) rfl) (fun x w' _ => impl_CodeReleases1 x w')).mono ?_
    rintro e w2 ⟨rfl, b2⟩
    go_wp2_with fail
    go_ret
    exact ⟨ret_bool (by rw [HT.out, HH.out]; rfl), B1.trans (b2.mono B1.size)⟩

end Go.Proofs.Ytjlnaiifegjneaa
