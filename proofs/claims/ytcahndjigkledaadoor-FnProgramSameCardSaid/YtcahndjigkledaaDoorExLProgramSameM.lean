/-
  LProgramSame: the statement, whatever the argument. Conditions: none beyond the statement's own.
-/
import Derived.Test.YtcahndjigkledaaDoorCards
import Derived.Test.YtcahndjigkledaaDoorTie
import Derived.ProofKit
import Derived.OpenShut
import Derived.LaidMore
import Derived.Lay
import Derived.SevenTiedAt
import Derived.Stop.Joined
import Derived.ChangeMaps5
import Derived.Test.YtcahndjigkledaaDoorK1
import Derived.Test.YtcahndjigkledaaDoorK2
import Derived.Test.YtcahndjigkledaaDoorK3
import Derived.Test.YtcahndjigkledaaDoorK4
import Derived.Test.YtcahndjigkledaaDoorK5
import Derived.Test.YtcahndjigkledaaDoorEnter1M
import Derived.Test.YtcahndjigkledaaDoorEnter2M
import Derived.Test.YtcahndjigkledaaDoorEnter3M
set_option maxRecDepth 100000
set_option maxHeartbeats 16000000
set_option linter.unusedVariables false
set_option linter.unusedSimpArgs false
open List renaming all_eq_true → bk6
namespace Go.Proofs.YtcahndjigkledaaDoor.exLProgramSame
open Go Go.RowKit Go.Proofs.YtcahndjigkledaaDoor
theorem aU3 (c : List UInt8) : ∃ p q : c9, f6.ok Tryd.prog (psC c p q) := by
 have hb := bd0 (bsD c)
 have h0 := aL4 c
 have h1 := ad4 (bsD c) 0 (by omega) (by omega)
 have hp : (pgD (bsD c) 0).size <= 160000 := a57 (bsD c) (by omega) (by omega)
 unfold pgC at h1
 generalize pgD (bsD c) 0 = p at *
 generalize hj : (bdD (bsD c) 0).2 = j at *
 by_cases e0 : pk (bsD c) j 2 = 0
 ·exact ⟨_, _, ba5 c (bsD c) p _ j _ e0 (by omega) (by omega) h0 h1 (ad4 (bsD c) (j + 1) (by omega) (by omega))⟩
 have z1 := aQ6 (bsD c) p (j + 1)
 have z2 := aQ6 (bsD c) (Y1 (bsD c) p (j + 1)).1 (Y1 (bsD c) p (j + 1)).2
 exact ⟨_, _, ba4 c (bsD c) p _ _ _ j _ _ _ e0 (by omega) (by omega) h0 h1 (V3 (bsD c) p (j + 1) (by omega) (by omega) (by omega)) (V3 (bsD c) _ _ (by omega) (by omega) (by omega)) (V3 (bsD c) _ _ (by omega) (by omega) (by omega))⟩
theorem bj7 {x : Bool} (h : (!x == x) = true) : False := by cases x <;> simp at h
theorem ba6 (c x y : List UInt8) (p q : c9) (m : Bool) (hm : x ≠ [] -> y ≠ [] -> m = ((j9 x).toList == (j9 y).toList)) (r0 : f6.ok Tryd.prog (psC c p q))
    (r1 : f6.ok Tryd.prog (D8 18 [pA 0, pA 3] (pS p ++ pS q) (bA m))) (r2 : f6.ok Tryd.prog (D8 19 [pA 0, pA 3] (pS p ++ pS q) (bA m)))
    (r3 : f6.ok Tryd.prog (D8 18 [pA 0, pA 3] (pS q ++ pS p) (bA m))) (r4 : f6.ok Tryd.prog (D8 18 [pA 0, pA 0] (pS p) (bA true)))
    (r5 : f6.ok Tryd.prog (D8 9 [pA 0] (pS p) (tA x))) (r6 : f6.ok Tryd.prog (D8 9 [pA 0] (pS q) (tA y))) : f6.ok Tryd.prog ⟨5, [.ref 0], [dY c], [dY c], bA true⟩ := by
  have hA0 := r0; have hA1 := r1; have hA2 := r2; have hA3 := r3; have hA4 := r4; have hA5 := r5; have hA6 := r6; refine F0 54 Tryd.func5 [dY c] [(0, .ref 0)] fun G => ?_; refine wp_seq (f9 G b9 [(2, bA false)] fun G => b0 (wp_seq (wp_seq (f9 G b9 [(10, bA (decide ((c.length : Int) > 1048576)))] fun G => b0 (V5 G (fun h0 q0 => ?_) fun h0 q0 => ?_)))))
  ·
   refine wp_skip (b0 (wp_seq (j5 G (B3 1 [0] hA0) [0, 9, 10, 11, 12, 13, 14, 41, 49] [dY c, dI p.vars, dI p.arrays, dT p.body, dI q.vars, dI q.arrays, dT q.body, .box (pL 1), .box (pL 4)] [(2, bA false), (3, .ptr 7 0), (4, .ptr 8 0)] fun G => b0 (wp_seq (f9 G (B3 2 [1, 2, 3, 4, 5, 6] hA1) [(5, bA m)] fun G => b0 (wp_seq (wp_seq (f9 G (s8 (k6 3 [1, 2, 3, 4, 5, 6] hA2 (k6 9 [4, 5, 6, 1, 2, 3] hA3 (k6 15 [1, 2, 3] hA4 s7))) (fc (a := !m == m) (b := false) (by simp [h0]) fz) (us [(6, 10, 0), (1011, 1011, 0), (13, 16, 0), (1017, 1017, 0)])) [(36, bA false)] fun G => b0 (rF G false (by kernel_rfl) (wp_skip (b0 (wp_seq (j5 G (B3 1 [1, 2, 3] hA5) [0, 4, 5, 6, 8] [dY c, dI q.vars, dI q.arrays, dT q.body, .box (pL 1)] [(2, bA false), (4, .ptr 4 0), (5, bA m), (6, .v (.string (j9 x)))] fun G => b0 (wp_seq (j5 G (B3 1 [1, 2, 3] hA6) [0] [dY c] [(2, bA false), (5, bA m), (6, .v (.string (j9 x))), (7, .v (.string (j9 y)))] fun G => b0 (wp_seq ?_)))))))))))))))); cases h1 : ((j9 x).toList == (ByteArray.mk #[]).toList)
   ·
    cases h2 : ((j9 y).toList == (ByteArray.mk #[]).toList)
    · refine f9 G (B9 (fc h1 (fc h2 fz)) (us [(3, 4, 0), (1005, 1005, 0), (7, 11, 1), (1012, 1012, 1)])) [(2, bA (m == ((j9 x).toList == (j9 y).toList)))] fun G => b0 (wp_ret ?_); exact n5 (m == ((j9 x).toList == (j9 y).toList)) G [0] (by rw [hm (ah5 (by with_reducible assumption)) (ah5 (by with_reducible assumption))]; simp)
    refine f9 G (B9 (fc h1 (fc h2 fz)) (us [(3, 4, 0), (1005, 1005, 0), (7, 11, 1), (1012, 1012, 1)])) [(2, bA true)] fun G => b0 (wp_ret ?_); exact K9 G [0]
   refine f9 G (B9 (fc h1 (fc (b := true) rfl fz)) (us [(3, 4, 0), (1005, 1005, 0), (7, 11, 1), (1012, 1012, 1)])) [(2, bA true)] fun G => b0 (wp_ret ?_); exact K9 G [0]
  refine wp_seq (f9 G b9 [(2, bA true)] fun G => b0 (wp_ret (f7 ?_))); exact K9 G [0]
theorem be2 (c : List UInt8) : f6.ok Tryd.prog ⟨5, [.ref 0], [dY c], [dY c], bA true⟩ := by
 obtain ⟨p, q, h⟩ := aU3 c
 refine ba6 c _ _ p q (ao4 p q) a47 h (aU7 p q) (be1 p q) ?_ (be0 p) (M5 p) (M5 q)
 have h2 := aU7 q p
 rwa [aJ1] at h2
theorem bf2 (u : Value) (c : List UInt8) (w : World) (hp : L0 w u c.length 1 (u8s c)) (he : aM3 (fun _ => True) w) : Calls Tryd.prog 5 #[u] w fun e w' => e = .returned (.bool true) /\ Below w.heap.size w w' :=
 aL5 (be2 c) u w (hp.rowF fun _ _ => trivial) he
end Go.Proofs.YtcahndjigkledaaDoor.exLProgramSame

namespace Go.Proofs.YtcahndjigkledaaDoor.exLProgramSame
open Go Go.RowKit Go.ChangeShapes Go.WideShapes Go.ChangeAt Go.Proofs.YtcahndjigkledaaDoor
theorem ownk : ownKnob Tryd.prog.godebug = none := by kernel_rfl
theorem lifted (os : Os) (started : os.Started) (H : Type) (enc : TypeId × Value -> H) :
  ReturnsInHanded {} Tryd.checked os 5 .any (fun w args => (Rows.fnProgramSameSpec.pre enc Tryd.prog Tryd.f5 Rows.fnProgramSameRow.domain false w args /\ laidMetH Tryd.prog Rows.fnProgramSameRow.laid w) /\ sizedMet enc Tryd.prog Tryd.f5 (OpenSpec.ofChange Rows.fnProgramSameSpec) false w args)
   (Rows.fnProgramSameSpec.post enc Tryd.prog Tryd.f5 false true false false) := by
 refine returnsInHanded_of_change_and (C := Tryd.checked) (X := fun w _ => laidMetH Tryd.prog Rows.fnProgramSameRow.laid w) (fun _ _ _ hh h => h.of_heap hh) ownk started (by kernel_rfl) Tryd.func5
  (ChangeSpec.witness_shaped (enc := enc) (C := Tryd.checked) (os := os) (X := fun w _ => laidMetH Tryd.prog Rows.fnProgramSameRow.laid w) false (World.laidAll Tryd.prog os Rows.fnProgramSameRow.laid) #[.slice none 0 0] 8 (World.laidAll_os _ _ _)
   (World.shaped_of_ZipB (by kernel_rfl) (by kernel_rfl)) (by kernel_rfl) (by kernel_rfl) (by kernel_rfl)
   (by rw [MakeChecks.laidMetH_plain _ _ _ (by kernel_rfl)]; exact laidMet_laidAll _ (by kernel_rfl) (by kernel_rfl))) ?_
 intro W base args ds gs before hval0 hW hcnd _ hL _
 have hval : ∀ (j : Nat) t v, Tryd.f5.params[j]? = some t -> args[j]? = some v -> Value.okWide Tryd.prog W .any base t v := hval0
 have hW' := hW
 obtain ⟨p, q, hA0, hV, rfl, hfz, hnd⟩ := hW
 have hA : DataW.TrodAll enc Tryd.prog W 0 (fun _ => true) true Tryd.f5.params.toList args.toList ds p := hA0
 rw [Tryd.params5] at hA hval
 obtain ⟨v0, vs0, d0, ds0, p0, q0, hargs, rfl, rfl, h0, r0⟩ := trodAll_cons hA
 obtain ⟨rfl, rfl, rfl⟩ := trodAll_nil r0
 obtain rfl : args = #[v0] := by cases args; simp_all
 obtain ⟨rfl, rfl⟩ := trodVars_none hV
 have k0 := h0
 have lt0 : ∀ x ∈ p0, x.block < W.heap.size := by obtain ⟨m, hm⟩ := k0; exact DataW.trod_lt m _ _ _ hm
 obtain ⟨a0, len0, cap0, rfl⟩ := okWide_slice Tryd.underlying34 (hval 0 34 v0 rfl rfl)
 obtain ⟨x0, hx0⟩ : ∃ l : List UInt8, L0 W (.slice a0 len0 cap0) l.length 1 (u8s l) := by
  obtain ⟨fuel, hf⟩ := h0
  exact al1 Tryd.underlying34 hf
 clear hA0 hval0
 refine (bf2 _ x0 W hx0 (aT1 hL)).mono fun e W' ⟨he, bel⟩ => ?_
 subst he
 exact ⟨_, rfl, _, _, _, [], _, [], hW', trodAll_mk1 (shut_bool Tryd.underlying4 _), (trodAll_cons_mk (Below.trod aZ4 (by kernel_rfl) (of_decide_eq_true (by kernel_rfl)) k0 bel lt0) trodAll_mk0), rfl, bel.frame _, fun h => by cases h⟩
theorem facts : joinedFacts Tryd.pinned.checked.prog 5 Tryd.f5 Rows.fnProgramSameSpec Rows.fnProgramSameRow = true := by
 unfold joinedFacts
 rw [may_enter, lifts_final, make_is]
 kernel_rfl
theorem over : Rows.fnProgramSameRow.holds Tryd.pinned (OpenSpec.ofChange Rows.fnProgramSameSpec) :=
 OpenClaim.holds_of_wide 5 Tryd.f5 rfl rfl rfl rfl rfl rfl rfl ⟨rfl, rfl, rfl, rfl, rfl⟩ rfl rfl rfl rfl rfl (by kernel_rfl) Tryd.func5 facts
  (of_decide_eq_true (by kernel_rfl)) (by unfold Func.isWrapper; first | (rw [if_pos (by decide +kernel)]; kernel_rfl) | (rw [if_neg (by decide +kernel)]; exact ⟨rfl, rfl⟩))
  (fun os started H enc _ => lifted os started H enc)
theorem proved : Rows.FnProgramSameCardSaid :=
 Claim7.holds_tied_plain_at .later [] [.data, .data, .data] true (true, "29c6cfba1d915074d8b16d7b64f223592a1f45a26570abc5ee25fe8821f5d638") false over (fun _ h => by cases h) (by kernel_rfl) (fun _ h => by cases h) fnProgramSame_row_tie rfl ⟨rfl, rfl⟩ (by kernel_rfl) rfl
  (fun f fn hf hfn => by
   obtain rfl : f = 5 := Option.some.inj ((show Tryd.prog.funcNamed "loop.example/constanttime/laws.FnProgramSame" = some 5 by kernel_rfl).symm.trans hf) |>.symm
   obtain rfl : fn = Tryd.f5 := (Option.some.inj (Tryd.func5.symm.trans hfn)).symm
   exact ⟨by kernel_rfl, fun j t ht => by
    rw [Tryd.params5] at ht
    have hm : t ∈ [34] := by simpa using Array.mem_of_getElem? ht
    have hall : ([34].all fun u => !Tryd.prog.wantsStandIn u) = true := by kernel_rfl
    exact (show Tryd.prog.wantsStandIn t = false by simpa using bk6.1 hall t hm)⟩)
  (by kernel_rfl)
end Go.Proofs.YtcahndjigkledaaDoor.exLProgramSame
