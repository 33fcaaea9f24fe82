/-
  slices.Clone of bools. Conditions: a row.
-/
import Derived.Test.YtjlnaiifegjneaaApp
import Derived.Test.YtjlnaiifegjneaaLawBool
import Derived.WalkSpells
import Derived.Lib.SliceRun
namespace Go.Proofs.Ytjlnaiifegjneaa
open Go Go.RowKit

theorem bools_one {l : List Bool} : ∀ u ∈ bools l, u.oneCell' = true := by
  intro u hu
  obtain ⟨x, _, rfl⟩ := List.mem_map.1 hu
  rfl

set_option maxRecDepth 100000 in
theorem clone_bool (v : Value) (t : List Bool) (w : World) (h : Row w v t.length 1 (bools t)) (hb : t.length ≤ 100000000000000) :
    Calls Try.prog 104 #[v] w fun e w' => ∃ u, e = .returned u ∧ Own w' w.heap.size w'.heap.size 4 1 u t.length (bools t) ∧ Below w.heap.size w w' := by
  obtain ⟨a, cap, rfl, hc1, hc2, hc3, -⟩ := h.open
  have hnil := fun w => Lib.run_eql_slice_nil (P := Try.prog) w 40 4 a t.length cap 0 0 Try.underlying40
  rcases a with _ | a
  · have hn : t.length = 0 := by
      rcases Nat.eq_zero_or_pos t.length with h0 | h0
      · exact h0
      · obtain ⟨_, a, c, he, _, _, hx⟩ := h
        cases he
        obtain ⟨_, _, he, _⟩ := hx h0
        cases he
    have ht : t = [] := List.eq_nil_of_length_eq_zero hn
    subst ht
    simp only [List.length_nil, Option.isNone_none] at hnil
    go_enter Try.func104, Try.ntmps104
    go_wp2_with fail
    go_ret
    exact ⟨_, rfl, ⟨World.ownsRow_nil _ _ _ _, fun g hg => by cases hg⟩, Below.refl _ _⟩
  · go_enter Try.func104, Try.ntmps104
    simp only [Option.isNone_some] at hnil
    have ba := (Below.refl w.heap.size w).alloc (Nat.le_refl _) (.cells #[] 4)
    go_wp2_with (at_builtin; refine wpList_app rfl _ _ rfl Try.underlying40 infoB rfl (by omega) rfl (own_built w #[] 0 1 _ rfl rfl (by omega)).1 rfl (h.below ba) bools_one (by omega) (by omega) (by simp) ?_; rintro a4 q4 w4 o4 b4 - -)
    go_ret
    refine ⟨_, rfl, Own.mk' (by simpa using o4), ba.trans b4⟩

end Go.Proofs.Ytjlnaiifegjneaa
