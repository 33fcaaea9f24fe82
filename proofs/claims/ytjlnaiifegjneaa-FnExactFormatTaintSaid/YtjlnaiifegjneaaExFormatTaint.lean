/-
  FormatTaint: the program's function returns what the reference's returns, whatever the argument. Conditions: none beyond the statement's own.
-/
import Derived.Test.YtjlnaiifegjneaaFmtTaint
import Derived.Test.YtjlnaiifegjneaaOpenMat
namespace Go.Proofs.Ytjlnaiifegjneaa.exFormatTaint
open Go Go.RowKit Go.ChangeShapes Go.WideShapes Go.ChangeAt Go.Proofs.Ytjlnaiifegjneaa

set_option maxHeartbeats 1000000 in
theorem walk (v : Value) (m : List (List Bool)) (w : World) (h : MatRow w v m) :
    Calls Try.prog 3 #[v] w fun e w' => e = .returned (.bool true) ∧ Below w.heap.size w w' := by
  obtain ⟨a, cap, rfl, -, -⟩ := h.open
  go_enter Try.func3, Try.ntmps3
  go_wp2_with fail
  refine (szBoolSS_any _ m 1048576 _ h (by omega) (by omega)).mono ?_
  rintro e w1 ⟨rfl, b1⟩
  by_cases c : (1048576 : Int) < matSize m
  · rw [szRes_neg c]
    go_wp2_with fail
    go_ret
    exact ⟨rfl, b1⟩
  · rw [szRes_pos c]
    have hm : matSize m ≤ 1048576 := by omega
    have s1 := b1.size
    go_wp2_with fail
    refine (toBoolSS_any _ m _ (h.below b1) hm).mono ?_
    rintro e w2 ⟨u1, rfl, o1, b2⟩
    have s2 := b2.size
    have B2 := b1.trans (b2.mono s1)
    go_wp2_with fail
    refine (spec_FormatTaint _ m _ o1.row hm).mono ?_
    rintro e w3 ⟨rfl, b3⟩
    have s3 := b3.size
    have B3 := B2.trans (b3.mono (by omega))
    go_wp2_with fail
    refine (toBoolSS_any _ m _ (h.below B3) hm).mono ?_
    rintro e w4 ⟨u2, rfl, o2, b4⟩
    have s4 := b4.size
    have B4 := B3.trans (b4.mono (by omega))
    go_wp2_with fail
    refine (impl_FormatTaint _ m _ o2.row hm).mono ?_
    rintro e w5 ⟨rfl, b5⟩
    have s5 := b5.size
    have B5 := B4.trans (b5.mono (by omega))
    go_wp2_with fail
    refine (toBoolSS_any _ m _ (h.below B5) hm).mono ?_
    rintro e w6 ⟨u3, rfl, o3, b6⟩
    have s6 := b6.size
    have B6 := B5.trans (b6.mono (by omega))
    go_wp2_with fail
    refine (eqBoolSS_any _ _ m m _ ((o2.row.below b5).below b6) o3.row).mono ?_
    rintro e w7 ⟨rfl, b7⟩
    rw [decide_eq_true rfl]
    go_wp2_with fail
    go_ret
    exact ⟨rfl, B6.trans (b7.mono (by omega))⟩

set_option maxRecDepth 100000 in
theorem lifted (os : Os) (started : os.Started) (H : Type) (enc : TypeId × Value → H) :
    ReturnsInHanded {} Try.checked os 3 .any (Rows.fnExactFormatTaintSpec.pre6 enc Try.prog Try.f3 Rows.fnExactFormatTaintRow.domain false) (Rows.fnExactFormatTaintSpec.post enc Try.prog Try.f3 false true false false) := by
  refine returnsInHanded_of_change (C := Try.checked) own started (by kernel_rfl) Try.func3
    (ChangeSpec.witness6 (enc := enc) (C := Try.checked) false ⟨#[], #[.slice none 0 0], []⟩ 8 (by kernel_rfl) (by kernel_rfl) (by kernel_rfl) (by kernel_rfl)) ?_
  intro W base args ds gs before hval0 hW hcnd _
  have hval : ∀ (j : Nat) t v, Try.f3.params[j]? = some t → args[j]? = some v → Value.okWide Try.prog W .any base t v := hval0
  have hW' := hW
  obtain ⟨p, q, hA0, hV, rfl, hfz, hnd⟩ := hW
  have hA : DataW.TrodAll enc Try.prog W 0 (fun _ => true) true Try.f3.params.toList args.toList ds p := hA0
  rw [Try.params3] at hA hval
  obtain ⟨v0, vs0, d0, ds0, p0, q0, hargs, rfl, rfl, h0, r0⟩ := trodAll_cons hA
  obtain ⟨rfl, rfl, rfl⟩ := trodAll_nil r0
  obtain rfl : args = #[v0] := by cases args; simp_all
  obtain ⟨rfl, rfl⟩ := trodVars_none hV
  have k0 := h0
  have lt0 : ∀ x ∈ p0, x.block < W.heap.size := by obtain ⟨m, hm⟩ := k0; exact DataW.trod_lt m _ _ _ hm
  obtain ⟨a0, len0, cap0, rfl⟩ := okWide_slice Try.underlying22 (hval 0 22 v0 rfl rfl)
  obtain ⟨m, hm⟩ : ∃ m, MatRow W (.slice a0 len0 cap0) m := by
    obtain ⟨fuel, hf⟩ := h0
    exact mat_of_trod Try.underlying22 hf
  clear hA0 hval0
  refine (walk _ m W hm).mono fun e W' ⟨he, bel⟩ => ?_
  subst he
  exact ⟨_, rfl, _, _, _, [], _, [], hW', trodAll_mk1 (shut_bool Try.underlying4 _), (trodAll_cons_mk (Below.trod laidOut (by kernel_rfl) (of_decide_eq_true (by kernel_rfl)) k0 bel lt0) trodAll_mk0), rfl, bel.frame _, fun h => by cases h⟩

theorem over : Rows.fnExactFormatTaintRow.holds Try.pinned (OpenSpec.ofChange Rows.fnExactFormatTaintSpec) :=
  OpenClaim.holds_of_wide 3 Try.f3 rfl rfl rfl rfl rfl rfl rfl ⟨rfl, rfl, rfl, rfl, rfl⟩ rfl rfl rfl rfl rfl (by kernel_rfl) Try.func3 (by kernel_rfl)
    (of_decide_eq_true (by kernel_rfl)) (by unfold Func.isWrapper; first | (rw [if_pos (by decide +kernel)]; kernel_rfl) | (rw [if_neg (by decide +kernel)]; exact ⟨rfl, rfl⟩))
    (fun os started H enc _ => lifted os started H enc)

theorem proved : Rows.FnExactFormatTaintSaid := over
end Go.Proofs.Ytjlnaiifegjneaa.exFormatTaint
