/-
  FormatProgram: the statement, whatever the argument. Conditions: none beyond the statement's own.
-/
import Derived.Test.YtcahndjigkledaaDoorCards
import Derived.Test.YtcahndjigkledaaDoorTie
import Derived.ProofKit
import Derived.OpenShut
import Derived.LaidMore
import Derived.Lay
import Derived.SevenTiedAt
import Derived.Stop.Joined
import Derived.ChangeMaps5
import Derived.Test.YtcahndjigkledaaDoorK1
import Derived.Test.YtcahndjigkledaaDoorK2
import Derived.Test.YtcahndjigkledaaDoorK3
import Derived.Test.YtcahndjigkledaaDoorK4
import Derived.Test.YtcahndjigkledaaDoorK5
import Derived.Test.YtcahndjigkledaaDoorEnter1M
import Derived.Test.YtcahndjigkledaaDoorEnter2M
import Derived.Test.YtcahndjigkledaaDoorEnter3M
set_option maxRecDepth 100000
set_option maxHeartbeats 16000000
set_option linter.unusedVariables false
set_option linter.unusedSimpArgs false
open List renaming all_eq_true → a19
namespace Go.Proofs.YtcahndjigkledaaDoor.exFormatProgram
open Go Go.RowKit Go.Proofs.YtcahndjigkledaaDoor
theorem aQ4 {p : p8} (h : ¬ (E0 1048576 p.size < 0)) : p.size <= 1048576 := by
 by_cases h1 : (1048576 : Int) < p.size
 ·rw [s7 h1] at h; omega
 omega
theorem aW7 {p : p8} (h : ¬ (E0 1048576 p.size < 0)) : t7 p.body <= 1048576 := by
 have := aQ4 h
 unfold p8.size at this; omega
theorem aE9 (p : p8) : p.same p = true := p8.same_eq.2 rfl
theorem aE6 (s : ByteArray) : (s.toList == s.toList) = true := by simp
theorem aX0 (p : p8) : B5.ok Tryd.prog (N9 3 [pA 0] (pS p) (bA true)) := by
 refine Y9 27 Tryd.func3 [dI p.vars, dI p.arrays, dT p.body] [(0, pA 0)] fun G => ?_; have hself : p.same p = true := aE9 p; have htext := aE6 (m0 (N1 p)); refine wp_seq (H0 G s3 (rg 4) [dI p.vars, dI p.arrays, dT p.body, .box (pL 0)] [(1, .ptr 3 0), (2, bA false)] fun G => b7 (wp_seq (t8 G s3 [(3, iA 1048576)] fun G => b7 (wp_seq (t8 G (hhC 2 [0, 1, 2] (av6 p 1048576 (by omega) (by omega))) [(3, iA (E0 1048576 p.size))] fun G => b7 (wp_seq (wp_seq (t8 G s3 [(11, bA (decide (E0 1048576 p.size < 0)))] fun G => b7 (rcD G (fun h0 q0 => ?_) fun h0 q0 => ?_)))))))))
 ·refine wp_skip (b7 (wp_seq (t8 G (E8 (A1 1 [0, 1, 2] (U5 p (aQ4 (by assumption))) (A1 2 [12, 13, 14] (af5 p (aW7 (by assumption))) E7)) fz []) [(4, .v (.string (m0 (N1 p))))] fun G => b7 (wp_seq (H0 G (hhC 1 [0, 1, 2] (U5 p (aQ4 (by assumption)))) [0, 1, 2, 3, 12, 13, 14, 20] [dI p.vars, dI p.arrays, dT p.body, .box (pL 0), dI p.vars, dI p.arrays, dT p.body, .box (pL 4)] [(1, .ptr 3 0), (2, bA false), (4, .v (.string (m0 (N1 p)))), (5, .ptr 7 0)] fun G => b7 (wp_seq (t8 G (hhC 1 [4, 5, 6] (ad1 p)) [(6, .v (.string (m0 (N1 p))))] fun G => b7 (wp_seq (wp_seq (t8 G s3 [(21, .v (.bool !(m0 (N1 p)).toList == (m0 (N1 p)).toList))] fun G => b7 (rF G (!(m0 (N1 p)).toList == (m0 (N1 p)).toList) (by rw [htext]; rfl) (wp_skip (b7 (wp_seq (wp_seq (aY1 G (E8 (A1 2 [0, 1, 2] (U5 p (aQ4 (by assumption))) (A1 3 [4, 5, 6, 24, 25, 26] (aw0 p p) E7)) fz []) [0, 0, 2, 7, 15] [0, 1, 2] [dI p.vars, dI p.arrays, dT p.body] [(2, bA false), (26, .v (.bool !p.same p))] fun G => b7 (rF G (!p.same p) (by rw [hself]; rfl) (wp_skip (b7 (wp_seq (t8 G s3 [(2, bA true)] fun G => b7 (wp_ret ?_)))))))))))))))))))))); exact rxr G [0, 1, 2]
 refine wp_seq (t8 G s3 [(2, bA true)] fun G => b7 (wp_ret (s9 ?_))); exact rxr G [0, 1, 2]
theorem aX4 (u : Value) (p : p8) (w : World) (hp : U9 w (fun _ => True) u p) (he : aN1 (fun _ => True) w) : Calls Tryd.prog 3 #[u] w fun e w' => e = .returned (.bool true) /\ Below w.heap.size w w' := aJ9 (aX0 p) u w hp he
end Go.Proofs.YtcahndjigkledaaDoor.exFormatProgram

namespace Go.Proofs.YtcahndjigkledaaDoor.exFormatProgram
open Go Go.RowKit Go.ChangeShapes Go.WideShapes Go.ChangeAt Go.Proofs.YtcahndjigkledaaDoor
theorem ownk : ownKnob Tryd.prog.godebug = none := by kernel_rfl
theorem lifted (os : Os) (started : os.Started) (H : Type) (enc : TypeId × Value -> H) :
  ReturnsInHanded {} Tryd.checked os 3 .any (fun w args => (Rows.fnExactFormatProgramSpec.pre enc Tryd.prog Tryd.f3 Rows.fnExactFormatProgramRow.domain false w args /\ laidMetH Tryd.prog Rows.fnExactFormatProgramRow.laid w) /\ sizedMet enc Tryd.prog Tryd.f3 (OpenSpec.ofChange Rows.fnExactFormatProgramSpec) false w args)
   (Rows.fnExactFormatProgramSpec.post enc Tryd.prog Tryd.f3 false true false false) := by
 refine returnsInHanded_of_change_and (C := Tryd.checked) (X := fun w _ => laidMetH Tryd.prog Rows.fnExactFormatProgramRow.laid w) (fun _ _ _ hh h => h.of_heap hh) ownk started (by kernel_rfl) Tryd.func3
  (ChangeSpec.witness_shaped (enc := enc) (C := Tryd.checked) (os := os) (X := fun w _ => laidMetH Tryd.prog Rows.fnExactFormatProgramRow.laid w) false (World.laidAll Tryd.prog os Rows.fnExactFormatProgramRow.laid) #[.agg #[.slice none 0 0, .slice none 0 0, .slice none 0 0]] 8 (World.laidAll_os _ _ _)
   (World.shaped_of_ZipB (by kernel_rfl) (by kernel_rfl)) (by kernel_rfl) (by kernel_rfl) (by kernel_rfl)
   (by rw [MakeChecks.laidMetH_plain _ _ _ (by kernel_rfl)]; exact laidMet_laidAll _ (by kernel_rfl) (by kernel_rfl))) ?_
 intro W base args ds gs before hval0 hW hcnd _ hL _
 have hval : ∀ (j : Nat) t v, Tryd.f3.params[j]? = some t -> args[j]? = some v -> Value.okWide Tryd.prog W .any base t v := hval0
 have hW' := hW
 obtain ⟨p, q, hA0, hV, rfl, hfz, hnd⟩ := hW
 have hA : DataW.TrodAll enc Tryd.prog W 0 (fun _ => true) true Tryd.f3.params.toList args.toList ds p := hA0
 rw [Tryd.params3] at hA hval
 obtain ⟨v0, vs0, d0, ds0, p0, q0, hargs, rfl, rfl, h0, r0⟩ := trodAll_cons hA
 obtain ⟨rfl, rfl, rfl⟩ := trodAll_nil r0
 obtain rfl : args = #[v0] := by cases args; simp_all
 obtain ⟨rfl, rfl⟩ := trodVars_none hV
 have k0 := h0
 have lt0 : ∀ x ∈ p0, x.block < W.heap.size := by obtain ⟨m, hm⟩ := k0; exact DataW.trod_lt m _ _ _ hm
 obtain ⟨x0, hx0⟩ := ap6 (hval 0 25 v0 rfl rfl) h0
 clear hA0 hval0
 refine (aX4 _ x0 W hx0 (aL8 hL)).mono fun e W' ⟨he, bel⟩ => ?_
 subst he
 exact ⟨_, rfl, _, _, _, [], _, [], hW', trodAll_mk1 (shut_bool Tryd.underlying4 _), (trodAll_cons_mk (Below.trod aQ1 (by kernel_rfl) (of_decide_eq_true (by kernel_rfl)) k0 bel lt0) trodAll_mk0), rfl, bel.frame _, fun h => by cases h⟩
theorem facts : joinedFacts Tryd.pinned.checked.prog 3 Tryd.f3 Rows.fnExactFormatProgramSpec Rows.fnExactFormatProgramRow = true := by
 unfold joinedFacts
 rw [may_enter, lifts_final, make_is]
 kernel_rfl
theorem over : Rows.fnExactFormatProgramRow.holds Tryd.pinned (OpenSpec.ofChange Rows.fnExactFormatProgramSpec) :=
 OpenClaim.holds_of_wide 3 Tryd.f3 rfl rfl rfl rfl rfl rfl rfl ⟨rfl, rfl, rfl, rfl, rfl⟩ rfl rfl rfl rfl rfl (by kernel_rfl) Tryd.func3 facts
  (of_decide_eq_true (by kernel_rfl)) (by unfold Func.isWrapper; first | (rw [if_pos (by decide +kernel)]; kernel_rfl) | (rw [if_neg (by decide +kernel)]; exact ⟨rfl, rfl⟩))
  (fun os started H enc _ => lifted os started H enc)
theorem proved : Rows.FnExactFormatProgramCardSaid :=
 Claim7.holds_tied_plain_at .later [] [.data, .data, .data] true (true, "29c6cfba1d915074d8b16d7b64f223592a1f45a26570abc5ee25fe8821f5d638") false over (fun _ h => by cases h) (by kernel_rfl) (fun _ h => by cases h) fnExactFormatProgram_row_tie rfl ⟨rfl, rfl⟩ (by kernel_rfl) rfl
  (fun f fn hf hfn => by
   obtain rfl : f = 3 := Option.some.inj ((show Tryd.prog.funcNamed "loop.example/constanttime/laws.FnExactFormatProgram" = some 3 by kernel_rfl).symm.trans hf) |>.symm
   obtain rfl : fn = Tryd.f3 := (Option.some.inj (Tryd.func3.symm.trans hfn)).symm
   exact ⟨by kernel_rfl, fun j t ht => by
    rw [Tryd.params3] at ht
    have hm : t ∈ [25] := by simpa using Array.mem_of_getElem? ht
    have hall : ([25].all fun u => !Tryd.prog.wantsStandIn u) = true := by kernel_rfl
    exact (show Tryd.prog.wantsStandIn t = false by simpa using a19.1 hall t hm)⟩)
  (by kernel_rfl)
end Go.Proofs.YtcahndjigkledaaDoor.exFormatProgram
