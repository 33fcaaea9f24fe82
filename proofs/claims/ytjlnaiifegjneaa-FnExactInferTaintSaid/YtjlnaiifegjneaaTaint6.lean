/-
  Taint: the first result of code with a taint map, the program's. Conditions: valid code; a row of 14 bits, or none, for each instruction.
-/
import Derived.Test.YtjlnaiifegjneaaTaint2
import Derived.Test.YtjlnaiifegjneaaTaint5
import Derived.Test.YtjlnaiifegjneaaBox
namespace Go.Proofs.Ytjlnaiifegjneaa
open Go Go.RowKit

theorem rowAt_row {w : World} {v : Value} {m : List (List Bool)} (h : MatRow w v m) : ∃ a cap, v = .slice a m.length cap ∧ m.length ≤ 9223372036854775807 ∧
    ∀ i, i < m.length → ∃ b off a' c', a = some ⟨b, off, none⟩ ∧ b < w.heap.size ∧ w.cell? ⟨b, off + i, none⟩ = some (.slice a' (rowAt m i).length c') ∧ Row w (.slice a' (rowAt m i).length c') (rowAt m i).length 1 (bools (rowAt m i)) := by
  obtain ⟨a, cap, h1, h2, h3⟩ := h.open
  refine ⟨a, cap, h1, h2, fun i hi => ?_⟩
  rw [rowAt_nat hi]
  exact h3 i hi

set_option maxHeartbeats 2000000 in
theorem impl_firstFound (v u : Value) (c : LCode) (m : List (List Bool)) (w : World) (hc : codeOk c = true) (h : CodeRow w v c) (hm : MatRow w u m) (hl : m.length = c.list.length) (hr : m.all rowOk = true) :
    Calls Try.prog 68 #[v, u] w fun e w' => e = .returned (.tuple #[.int .i64 (firstF c m).1, .int .i64 (firstF c m).2]) ∧ Below w.heap.size w w' := by
  have hrow := h
  obtain ⟨v1, v2, v3, rfl, h1, h2, h3⟩ := h
  obtain ⟨W, hW⟩ : ∃ W, W = w.alloc (.cells #[v1, v2, v3] 36) := ⟨_, rfl⟩
  have B0 : Below w.heap.size w W := by rw [hW]; go_grown
  have L1 : Blk W w.heap.size [v1, v2, v3] := by rw [hW]; exact (Blk.new w [v1, v2, v3] _)
  obtain ⟨a3, k3, rfl, hk3, hm3, -, hc3⟩ := h3.ins
  obtain ⟨am, km, rfl, hmm, hmc⟩ := rowAt_row hm
  have hn4 := (codeOk_parts hc).2.2.1
  go_enter Try.func68, Try.ntmps68
  go_wp2_with fail
  rw [← hW]
  clear hW
  go_loopw [6, 7, 8, 11] (fun _ _ _ i wr => ∃ k : Nat, k ≤ m.length ∧ i = .int .i64 k ∧ badPre c m k = false ∧ Below W.heap.size W wr) (fun _ _ _ i _ => m.length - (intOf i).toNat)
  case atStart => exact ⟨0, Nat.zero_le _, rfl, rfl, Below.refl _ _⟩
  case round =>
    obtain ⟨k, hk, rfl, ha, hb⟩ := hrel
    have HA := show Hid _ from ha
    clear ha
    replace L1 := L1.below hb L1.lt
    have BW := B0.trans (hb.mono B0.size)
    by_cases hlt : k < m.length
    · have hltc : k < c.list.length := by omega
      obtain ⟨b, off, rfl, hb3, i0, i1, i2, i3, i4⟩ := hc3 k hltc
      obtain ⟨bm, om, a', c', rfl, hbm, xm, hrm⟩ := hmc k hlt
      have hx := (codeOk_parts hc).2.2.2.1 k hltc
      have HB : Hid (badAt c m k = (decide (0 < (rowAt m k).length) && decide (ownF c (insAt c k) (rowAt m k) ≠ 0))) := rfl
      rw [insAt_get hltc] at HB
      have HF := show Hid (badPre c m k = false → badAt c m k = true → firstF c m = (ownF c (insAt c k) (rowAt m k), (k : Int))) from fun g1 g2 => firstF_some hlt g1 g2
      rw [insAt_get hltc] at HF
      have HS := show Hid _ from badPre_succ c m k
      have hlr := rowOk_len hr k
      rw [← (bcell BW).1 _ _ hb3] at i0 i1 i2 i3 i4
      rw [← (bcell BW).1 _ _ hbm] at xm
      replace hrm := hrm.below BW
      generalize rowAt m k = r at *
      generalize c.list[k] = x at *
      clear hc3 hmc hr
      have x0 := L1.cell 0
      have x1 := L1.cell 1
      have x2 := L1.cell 2
      simp only [List.getElem?_cons_zero, List.getElem?_cons_succ] at x0 x1 x2
      by_cases h0 : r.length = 0
      · have q0 : ((r.length : Int) == 0) = true := by simp [h0]
        have HN := show Hid (badPre c m (k + 1) = false) from by unfold Hid; rw [HS.out, HA.out, HB.out]; simp [h0]
        clear HF HB hlr h0
        go_wp2_with fail
        exact ⟨⟨k + 1, by omega, by go_num, HN.out, hb⟩, by simp [intOf]; omega⟩
      · have h14 : r.length = 14 := by omega
        have q0 : ((r.length : Int) == 0) = false := by rw [h14]; rfl
        have hrr : Row wr (.slice a' r.length c') 14 1 (bools r) := by rw [h14] at hrm ⊢; exact hrm
        have z0 := fun X => ext_cell x0 X
        have z1 := fun X => ext_cell x1 X
        have z2 := fun X => ext_cell x2 X
        have j0 := fun X => ext_cell i0 X
        have j1 := fun X => ext_cell i1 X
        have j2 := fun X => ext_cell i2 X
        have j3 := fun X => ext_cell i3 X
        have j4 := fun X => ext_cell i4 X
        have hl14 : (r.length : Int) ≤ 14 := by omega
        have HC : Hid (∀ X, Calls Try.prog 102 #[.agg #[v1, v2, .slice (some ⟨b, off, none⟩) c.list.length k3], x.v, .slice a' r.length c'] (wr.ext X) fun e w'' => e = .returned (.int .i64 (ownF c x r)) ∧ ∃ Y, w'' = wr.ext Y) :=
          fun X => Calls.ext_of' (impl_found _ _ c x r _ ((hrow.below BW).below (ext_below _ X)) hx (hrr.below (ext_below _ X)))
        by_cases ho : ownF c x r = 0
        · have qo : (ownF c x r != 0) = false := by simp [ho]
          have HN := show Hid (badPre c m (k + 1) = false) from by unfold Hid; rw [HS.out, HA.out, HB.out]; simp [ho]
          clear HF HB hlr h0 ho hrr hrm h14 x0 x1 x2 i0 i1 i2 i3 i4
          go_wp2_with fail
          refine wp_region_ext (by kernel_rfl) (by kernel_rfl) ?_
          repeat (any_goals (first | go_big_quiet_step ((go_at_call 102; exact HC.out _)) | quiet_step ((go_at_call 102; exact HC.out _))))
          refine wpQuiet_nil ?_
          rintro _ ⟨X, rfl⟩
          have hbX := hb.trans ((ext_below wr X).mono hb.size)
          go_wp2_with fail
          exact ⟨⟨k + 1, by omega, by go_num, HN.out, hbX⟩, by simp [intOf]; omega⟩
        · have qo : (ownF c x r != 0) = true := by simp [ho]
          have HN := show Hid (firstF c m = (ownF c x r, (k : Int))) from HF.out HA.out (by rw [HB.out]; simp [ho]; omega)
          clear HF HB hlr h0 ho hrr hrm h14 x0 x1 x2 i0 i1 i2 i3 i4
          go_wp2_with fail
          refine wp_region_ext (by kernel_rfl) (by kernel_rfl) ?_
          repeat (any_goals (first | go_big_quiet_step ((go_at_call 102; exact HC.out _)) | quiet_step ((go_at_call 102; exact HC.out _))))
          refine wpQuiet_nil ?_
          rintro _ ⟨X, rfl⟩
          have hbX := hb.trans ((ext_below wr X).mono hb.size)
          go_wp2_with fail
          go_ret2
          exact ⟨by rw [HN.out]; rfl, B0.trans (hbX.mono B0.size)⟩
    · have e : k = m.length := by omega
      subst e
      have HN := show Hid _ from firstF_none HA.out
      clear hc3 hmc
      go_wp2_with fail
      go_ret2
      exact ⟨by rw [HN.out]; rfl, BW⟩

end Go.Proofs.Ytjlnaiifegjneaa
