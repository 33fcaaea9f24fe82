/-
  CheckCode and InferTaint, the reference's and the program's. Conditions: the argument is code.
-/
import Derived.Test.YtjlnaiifegjneaaInfer2
import Derived.Test.YtjlnaiifegjneaaInfer3
namespace Go.Proofs.Ytjlnaiifegjneaa
open Go Go.RowKit

noncomputable def leastT (c : LCode) : List (List Bool) := open Classical in if h : ∃ m, isLeast c m then h.choose else []
theorem least_eq {c : LCode} {m : List (List Bool)} (h : isLeast c m) : m = leastT c := by
  have hx : ∃ m, isLeast c m := ⟨m, h⟩
  unfold leastT
  rw [dif_pos hx]
  exact least_unique h hx.choose_spec
/-- What CheckCode hands back. -/
noncomputable def chkC (c : LCode) : Int × Int := if codeOk c = true then firstF c (leastT c) else (5, -1)

set_option maxHeartbeats 2000000 in
theorem spec_CheckCode (v : Value) (c : LCode) (w : World) (h : CodeRow w v c) :
    Calls Try.prog 31 #[v] w fun e w' => e = .returned (.tuple #[.int .i64 (chkC c).1, .int .i64 (chkC c).2]) ∧ Below w.heap.size w w' := by
  have hrow := h
  obtain ⟨v1, v2, v3, rfl, h1, h2, h3⟩ := h
  obtain ⟨W, hW⟩ : ∃ W, W = w.alloc (.cells #[v1, v2, v3] 36) := ⟨_, rfl⟩
  have B0 : Below w.heap.size w W := by rw [hW]; go_grown
  have L1 : Blk W w.heap.size [v1, v2, v3] := by rw [hW]; exact (Blk.new w [v1, v2, v3] _)
  obtain ⟨a3, k3, rfl, hk3, hm3, -, hc3⟩ := h3.ins
  have HT : Hid (chkC c = if codeOk c = true then firstF c (leastT c) else (5, -1)) := rfl
  have x0 := L1.cell 0
  have x1 := L1.cell 1
  have x2 := L1.cell 2
  simp only [List.getElem?_cons_zero, List.getElem?_cons_succ] at x0 x1 x2
  rw [hW] at x0 x1 x2
  go_enter Try.func31, Try.ntmps31
  go_wp2_with fail
  rw [← hW]
  clear hW x0 x1 x2
  refine (spec_CodeValid _ c _ (hrow.below B0)).mono ?_
  rintro e w1 ⟨rfl, b1⟩
  replace L1 := L1.below b1 L1.lt
  have B1 := B0.trans (b1.mono B0.size)
  clear b1 B0
  have x0 := L1.cell 0
  have x1 := L1.cell 1
  have x2 := L1.cell 2
  simp only [List.getElem?_cons_zero, List.getElem?_cons_succ] at x0 x1 x2
  cases hc : codeOk c
  · have HC := show Hid (chkC c = (5, -1)) from by unfold Hid; rw [HT.out, hc]; simp
    clear hc hc3 HT
    go_wp2_with fail
    go_ret2
    exact ⟨by rw [HC.out]; rfl, B1⟩
  have HC := show Hid _ from hc
  have HT' := show Hid (chkC c = firstF c (leastT c)) from by unfold Hid; rw [HT.out, hc]; simp
  have hn4 := (codeOk_parts hc).2.2.1
  clear hc HT
  go_wp2_with fail
  refine (spec_l9Infer _ c HC.out _ (hrow.below B1)).mono ?_
  rintro e w2 ⟨G, m, rfl, hlm, hS, b2⟩
  have hme := least_eq hlm
  rw [← hme] at HT'
  have hl : m.length = c.list.length := hlm.1.1
  have hr := hlm.1.2.1
  obtain ⟨am, km, hv, hmm, hmc⟩ := rowAt_row hS.1.row
  cases hv
  have B2 := B1.trans (b2.mono B1.size)
  replace L1 := L1.below b2 L1.lt
  clear b2 x0 x1 x2 hme hlm
  rw [hl]
  have HL := show Hid _ from hl
  go_wp2_with fail
  go_loopw [5, 6] (fun i _ wr => ∃ k : Nat, k ≤ c.list.length ∧ i = .int .i64 k ∧ badPre c m k = false ∧ Below w2.heap.size w2 wr) (fun i _ _ => c.list.length - (intOf i).toNat)
  case atStart => exact ⟨0, Nat.zero_le _, rfl, rfl, Below.refl _ _⟩
  case round =>
    obtain ⟨k, hk, rfl, ha, hb⟩ := hrel
    have HA := show Hid _ from ha
    clear ha
    replace L1 := L1.below hb L1.lt
    have BW := B2.trans (hb.mono B2.size)
    have x0 := L1.cell 0
    have x1 := L1.cell 1
    have x2 := L1.cell 2
    simp only [List.getElem?_cons_zero, List.getElem?_cons_succ] at x0 x1 x2
    by_cases hltc : k < c.list.length
    · have hlt : k < m.length := by omega
      obtain ⟨b, off, rfl, hb3, i0, i1, i2, i3, i4⟩ := hc3 k hltc
      obtain ⟨bm, om, a', c', hv, hbm, xm, hrm⟩ := hmc k hlt
      cases hv
      have hx := (codeOk_parts HC.out).2.2.2.1 k hltc
      have HB : Hid (badAt c m k = (decide (0 < (rowAt m k).length) && decide (ownF c (insAt c k) (rowAt m k) ≠ 0))) := rfl
      rw [insAt_get hltc] at HB
      have HF := show Hid (badPre c m k = false → badAt c m k = true → firstF c m = (ownF c (insAt c k) (rowAt m k), (k : Int))) from fun g1 g2 => firstF_some hlt g1 g2
      rw [insAt_get hltc] at HF
      have HS := show Hid _ from badPre_succ c m k
      have hlr := rowOk_len hr k
      rw [← (bcell BW).1 _ _ hb3] at i0 i1 i2 i3 i4
      rw [← (bcell hb).1 _ _ hbm] at xm
      simp only [Nat.zero_add] at xm
      replace hrm := hrm.below hb
      generalize rowAt m k = r at *
      generalize c.list[k] = x at *
      clear hc3 hmc hr
      by_cases h0 : r.length = 0
      · have q0 : decide ((0 : Int) < (r.length : Int)) = false := by simp [h0]
        have q0' : ¬ ((0 : Int) < (r.length : Int)) := by omega
        have HN := show Hid (badPre c m (k + 1) = false) from by unfold Hid; rw [HS.out, HA.out, HB.out]; simp [h0]
        clear HF HB hlr h0
        go_wp2_with fail
        exact ⟨⟨k + 1, by omega, by go_num, HN.out, hb⟩, by simp [intOf]; omega⟩
      · have h14 : r.length = 14 := by omega
        have q0' : (0 : Int) < (r.length : Int) := by omega
        have hrr : Row wr (.slice a' r.length c') 14 1 (bools r) := by rw [h14] at hrm ⊢; exact hrm
        have z0 := fun X => ext_cell x0 X
        have z1 := fun X => ext_cell x1 X
        have z2 := fun X => ext_cell x2 X
        have j0 := fun X => ext_cell i0 X
        have j1 := fun X => ext_cell i1 X
        have j2 := fun X => ext_cell i2 X
        have j3 := fun X => ext_cell i3 X
        have j4 := fun X => ext_cell i4 X
        have jm := fun X => ext_cell xm X
        have hl14 : (r.length : Int) ≤ 14 := by omega
        have hki : (k : Int) < c.list.length := by omega
        have HCALL : Hid (∀ X, Calls Try.prog 67 #[.agg #[v1, v2, .slice (some ⟨b, off, none⟩) c.list.length k3], x.v, .slice a' r.length c'] (wr.ext X) fun e w'' => e = .returned (.int .i64 (ownF c x r)) ∧ ∃ Y, w'' = wr.ext Y) :=
          fun X => Calls.ext_of' (spec_l9Own _ _ c x r _ ((hrow.below BW).below (ext_below _ X)) hx (hrr.below (ext_below _ X)))
        by_cases ho : ownF c x r = 0
        · have qo : (ownF c x r != 0) = false := by simp [ho]
          have HN := show Hid (badPre c m (k + 1) = false) from by unfold Hid; rw [HS.out, HA.out, HB.out]; simp [ho]
          clear HF HB hlr h0 ho hrr hrm h14 i0 i1 i2 i3 i4
          go_wp2_with fail
          clear xm
          refine wp_region_ext (by kernel_rfl) (by kernel_rfl) ?_
          repeat (any_goals (first | go_big_quiet_step ((go_at_call 67; exact HCALL.out _)) | quiet_step ((go_at_call 67; exact HCALL.out _))))
          refine wpQuiet_nil ?_
          rintro _ ⟨X, rfl⟩
          have hbX := hb.trans ((ext_below wr X).mono hb.size)
          go_wp2_with fail
          exact ⟨⟨k + 1, by omega, by go_num, HN.out, hbX⟩, by simp [intOf]; omega⟩
        · have qo : (ownF c x r != 0) = true := by simp [ho]
          have HN := show Hid (firstF c m = (ownF c x r, (k : Int))) from HF.out HA.out (by rw [HB.out]; simp [ho]; omega)
          clear HF HB hlr h0 ho hrr hrm h14 i0 i1 i2 i3 i4
          go_wp2_with fail
          clear xm
          refine wp_region_ext (by kernel_rfl) (by kernel_rfl) ?_
          repeat (any_goals (first | go_big_quiet_step ((go_at_call 67; exact HCALL.out _)) | quiet_step ((go_at_call 67; exact HCALL.out _))))
          refine wpQuiet_nil ?_
          rintro _ ⟨X, rfl⟩
          have hbX := hb.trans ((ext_below wr X).mono hb.size)
          go_wp2_with fail
          go_ret2
          exact ⟨by rw [HT'.out, HN.out]; rfl, B2.trans (hbX.mono B2.size)⟩
    · have e : k = c.list.length := by omega
      subst e
      have HN := show Hid (firstF c m = (0, -1)) from firstF_none (by rw [HL.out]; exact HA.out)
      clear hc3 hmc
      go_wp2_with fail
      go_ret2
      exact ⟨by rw [HT'.out, HN.out]; rfl, BW⟩

set_option maxHeartbeats 2000000 in
theorem impl_CheckCode (v : Value) (c : LCode) (w : World) (h : CodeRow w v c) :
    Calls Try.prog 32 #[v] w fun e w' => e = .returned (.tuple #[.int .i64 (chkC c).1, .int .i64 (chkC c).2]) ∧ Below w.heap.size w w' := by
  have hrow := h
  obtain ⟨v1, v2, v3, rfl, h1, h2, h3⟩ := h
  obtain ⟨W, hW⟩ : ∃ W, W = w.alloc (.cells #[v1, v2, v3] 36) := ⟨_, rfl⟩
  have B0 : Below w.heap.size w W := by rw [hW]; go_grown
  have L1 : Blk W w.heap.size [v1, v2, v3] := by rw [hW]; exact (Blk.new w [v1, v2, v3] _)
  have HT : Hid (chkC c = if codeOk c = true then firstF c (leastT c) else (5, -1)) := rfl
  have x0 := L1.cell 0
  have x1 := L1.cell 1
  have x2 := L1.cell 2
  simp only [List.getElem?_cons_zero, List.getElem?_cons_succ] at x0 x1 x2
  rw [hW] at x0 x1 x2
  go_enter Try.func32, Try.ntmps32
  go_wp2_with fail
  rw [← hW]
  clear hW x0 x1 x2
  refine (impl_CodeValid _ c _ (hrow.below B0)).mono ?_
  rintro e w1 ⟨rfl, b1⟩
  replace L1 := L1.below b1 L1.lt
  have B1 := B0.trans (b1.mono B0.size)
  clear b1 B0
  cases hc : codeOk c
  · have HC := show Hid (chkC c = (5, -1)) from by unfold Hid; rw [HT.out, hc]; simp
    clear hc HT
    go_wp2_with fail
    go_ret2
    exact ⟨by rw [HC.out]; rfl, B1⟩
  have HC := show Hid _ from hc
  have HT' := show Hid (chkC c = firstF c (leastT c)) from by unfold Hid; rw [HT.out, hc]; simp
  clear hc HT
  have hS : ∀ W', Below w1.heap.size w1 W' → Below w1.heap.size w1 W' ∧ (W'.cell? ⟨w.heap.size, 0, none⟩ = some v1 ∧ W'.cell? ⟨w.heap.size, 1, none⟩ = some v2 ∧ W'.cell? ⟨w.heap.size, 2, none⟩ = some v3) :=
    fun W' hb => ⟨hb, cells3 L1 W' hb⟩
  have HS := show Hid _ from hS
  have hb0 := (Below.refl w1.heap.size w1).drew
  clear hS
  go_wp2_with fail
  go_region_held3 (fun W' => Below w1.heap.size w1 W' ∧ (W'.cell? ⟨w.heap.size, 0, none⟩ = some v1 ∧ W'.cell? ⟨w.heap.size, 1, none⟩ = some v2 ∧ W'.cell? ⟨w.heap.size, 2, none⟩ = some v3))
    (exact HS.out _ (by assumption))
    (first | (go_at_call 69; refine (impl_leastTaint _ c HC.out _ (hrow.below (below_step (by assumption) B1 (Nat.le_refl _)))).mono ?_; rintro e w7 ⟨G, m, rfl, hlm, hM, b7⟩; have q7 := below_step b7 hb0 (Nat.le_refl _)) | (go_at_call 68; refine (impl_firstFound _ _ c m _ HC.out (hrow.below (below_step (by assumption) B1 (Nat.le_refl _))) hM.1.row hlm.1.1 hlm.1.2.1).mono ?_; rintro e w8 ⟨rfl, b8⟩; have q8 := below_step b8 q7 (Nat.le_refl _)))
  all_goals go_wp2_with fail
  all_goals go_ret2
  all_goals exact ⟨by rw [HT'.out, ← least_eq hlm]; rfl, B1.trans (q8.mono B1.size)⟩

end Go.Proofs.Ytjlnaiifegjneaa
