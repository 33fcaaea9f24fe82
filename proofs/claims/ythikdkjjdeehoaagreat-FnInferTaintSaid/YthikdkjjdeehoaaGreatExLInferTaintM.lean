/-
  LInferTaint: the statement, whatever the argument. Conditions: none beyond the statement's own.
-/
import Derived.Test.YthikdkjjdeehoaaGreatK1
import Derived.Test.YthikdkjjdeehoaaGreatK2
import Derived.Test.YthikdkjjdeehoaaGreatK3
import Derived.Test.YthikdkjjdeehoaaGreatK4
import Derived.Test.YthikdkjjdeehoaaGreatK5
import Derived.Test.YthikdkjjdeehoaaGreatK6
import Derived.Test.YthikdkjjdeehoaaGreatK7
import Derived.Test.YthikdkjjdeehoaaGreatEnter1M
import Derived.Test.YthikdkjjdeehoaaGreatEnter2M
import Derived.Test.YthikdkjjdeehoaaGreatEnter3M
set_option maxRecDepth 100000
set_option maxHeartbeats 16000000
set_option linter.unusedVariables false
set_option linter.unusedSimpArgs false
open Bool renaming not_eq_false' → ck2, not_eq_true' → cj4
open True renaming intro → ci7
namespace Go.Proofs.YthikdkjjdeehoaaGreat.exLInferTaint
open Go Go.RowKit Go.Proofs.YthikdkjjdeehoaaGreat
theorem cg8 : ¬ ((!true) = true) := by decide
theorem bX7 {c : f8} (h : (aa1 c == ((D6 c).1 == 0)) = false) : False := by rw [← bM3] at h; cases h
section
variable (c : f8)
abbrev cdS : List It := [dI c.vars, dI c.arrays, .dat (.instrs c.list)]
theorem b01 : j9.ok Tryz.prog ⟨46, [pA 0], cdS c, cdS c ++ [.dat (.brows (an9 c))], .tup [.ref 3, bA (aa1 c)]⟩ := bA9 fun u w h => aC0 u _ w h
theorem bZ9 : j9.ok Tryz.prog ⟨47, [pA 0], cdS c, cdS c ++ [.dat (.brows (an9 c))], .tup [.ref 3, bA (aa1 c)]⟩ := bA9 fun u w h => aB4 u _ w h
theorem bf3 {φ : Nat → Prop} {w : World} {ρ : Nat → Value} {S : List It} (h : ∀ i d, s6 (cdS c ++ S) i = .dat d → RD w φ d (ρ i)) : v7 w (.agg #[ρ 0, ρ 1, ρ 2]) c := ⟨ρ 0, ρ 1, ρ 2, rfl, A2.row (h 0 _ rfl), A2.row (h 1 _ rfl), A2.row (h 2 _ rfl)⟩
theorem b03 (m : List (List Bool)) : j9.ok Tryz.prog (T5 50 [pA 0, .ref 3] (cdS c ++ [.dat (.brows m)]) (bA (aN6 c m))) := aV9 fun φ w ρ h => aC2 _ _ c m w (bf3 c h) (bV1 (h 3 _ rfl))
theorem b02 : j9.ok Tryz.prog (T5 25 [pA 0] (cdS c) (.tup [iA (D6 c).1, iA (D6 c).2])) := bk9 fun φ w ρ h => ak4 _ c w (bf3 (S := []) c h)
theorem b00 : j9.ok Tryz.prog (T5 42 [pA 0] (cdS c) (.tup [iA (D6 c).1, iA (D6 c).2])) := bk9 fun φ w ρ h => ai5 _ c w (bf3 (S := []) c h)
end
theorem bt5 (xs : List Bool) : j9.ok Tryz.prog (T5 106 [.ref 0, .ref 1] [.dat (.bools xs), .dat (.bools xs)] (bA true)) := by
 refine E9 26 Tryz.func106 [dB xs, dB xs] [(0, .ref 0), (1, .ref 1)] fun G => ?_; have hl : xs.length ≤ 9223372036854775807 := G.len 0 (d := .bools xs) (by kernel_rfl); refine wp_seq (D2 G d9 [(0, .ref 0), (1, .ref 1), (4, bA false)] fun G => b6 (wp_seq (wp_seq (k8 G d9 [(10, bA ((xs.length : Int) != (xs.length : Int)))] fun G => b6 (rF G ((xs.length : Int) != (xs.length : Int)) (by simp) (wp_skip (b6 (wp_seq (wp_seq (D2 G d9 [(0, .ref 0), (1, .ref 1), (4, bA false), (5, iA 0)] fun G => b6 (wp_block ?_))))))))))); refine t0 (κ := Nat) (fun k => k ≤ xs.length) (fun k => xs.length - k) (fun k => [dB xs, dB xs]) (fun k => [(0, .ref 0), (1, .ref 1), (4, bA false), (5, iA k)]) 0 (by omega) (t7.at G _ _) ?_; clear G; intro k ρ a w hp G; refine wp_seq (wp_seq (k8 G d9 [(14, bA (decide ((k : Int) < xs.length)))] fun G => b6 (rcD G (fun h0 q0 => ?_) fun h0 q0 => ?_)))
 ·refine wp_exit (s7 (s7 (r8 (b6 (wp_seq (k8 G d9 [(4, bA true)] fun G => b6 (wp_ret ?_))))))); exact K8 G [0, 1]
 ·refine wp_skip (b6 (wp_seq (wp_block (wp_seq (ac8 G d9 [0, 0, 3, 7, 0, 0, 48, 112, 255] [(25, .v (.bool !xs.getD k false == xs.getD k false))] (iX k k xs.length (iX k k xs.length [])) (iK (by omega) (iK (by omega) ci7)) fun G => b6 (rF G (!xs.getD k false == xs.getD k false) (by simp [h0]) (wp_skip (l0 (b6 (E0 G d9 [(5, iA ((k : Int) + 1))] [wO ((k : Int) + 1)] (o1 (by omega)) fun G => b6 ?_)))))))))); exact I9 G (k + 1) (by omega) (by omega) [0, 1]
theorem a82 (m : List (List Bool)) : j9.ok Tryz.prog (T5 48 [.ref 0, .ref 1] [.dat (.brows m), .dat (.brows m)] (bA true)) := by
 refine E9 27 Tryz.func48 [.dat (D.brows m), .dat (D.brows m)] [(0, .ref 0), (1, .ref 1)] fun G => ?_; have hl : m.length ≤ 9223372036854775807 := G.len 0 (d := .brows m) (by kernel_rfl); refine wp_seq (D2 G d9 [(0, .ref 0), (1, .ref 1), (4, bA false)] fun G => b6 (wp_seq (wp_seq (k8 G d9 [(10, bA ((m.length : Int) != (m.length : Int)))] fun G => b6 (rF G ((m.length : Int) != (m.length : Int)) (by simp) (wp_skip (b6 (wp_seq (wp_seq (D2 G d9 [(0, .ref 0), (1, .ref 1), (4, bA false), (5, iA 0)] fun G => b6 (wp_block ?_))))))))))); refine t0 (κ := Nat) (fun k => k ≤ m.length) (fun k => m.length - k) (fun k => [.dat (D.brows m), .dat (D.brows m)]) (fun k => [(0, .ref 0), (1, .ref 1), (4, bA false), (5, iA k)]) 0 (by omega) (t7.at G _ _) ?_; clear G; intro k ρ a w hp G; refine wp_seq (wp_seq (k8 G d9 [(14, bA (decide ((k : Int) < m.length)))] fun G => b6 (rcD G (fun h0 q0 => ?_) fun h0 q0 => ?_)))
 ·refine wp_exit (s7 (s7 (r8 (b6 (wp_seq (k8 G d9 [(4, bA true)] fun G => b6 (wp_ret ?_))))))); exact K8 G [0, 1]
 ·refine wp_skip (b6 (wp_seq (wp_block (wp_seq (ac8 G (s8 8 [26, 58] (bt5 (m.getD k []))) [0, 0, 3, 7, 0, 0, 48, 112, 255, 511] [(26, bA false)] (iX k k m.length (iX k k m.length [])) (iK (by omega) (iK (by omega) ci7)) fun G => b6 (rF G false (by kernel_rfl) (wp_skip (l0 (b6 (E0 G d9 [(5, iA ((k : Int) + 1))] [wO ((k : Int) + 1)] (o1 (by omega)) fun G => b6 ?_)))))))))); exact I9 G (k + 1) (by omega) (by omega) [0, 1]
theorem ca5 (c : List UInt8) : j9.ok Tryz.prog ⟨12, [.ref 0], [dY c], [dY c], bA true⟩ := by
  refine E9 70 Tryz.func12 [dY c] [(0, .ref 0)] fun G => ?_; have hsz := bY8 c; refine wp_seq (k8 G d9 [(2, bA false)] fun G => b6 (wp_seq (wp_seq (k8 G d9 [(14, bA (decide ((c.length : Int) > 1048576)))] fun G => b6 (rcD G (fun h0 q0 => ?_) fun h0 q0 => ?_)))))
  ·
   refine wp_skip (b6 (wp_seq (j8 G (s8 1 [0] (bG6 c)) [0, 9, 10, 11, 17] [dY c, .row 3 (D.ints (x7 c).vars), .row 3 (D.ints (x7 c).arrays), .row 86 (D.instrs (x7 c).list), .box (pL 1)] [(2, bA false), (3, .ptr 4 0)] fun G => b6 (wp_seq ?_)))); obtain ⟨ρ, G⟩ := G.frz [.no, .row 3, .row 3, .row 86] [dY c, dI (x7 c).vars, dI (x7 c).arrays, dN (x7 c).list, .box (pL 1)] [(2, bA false), (3, .ptr 4 0)]; refine j8 G (s8 1 [1, 2, 3] (b01 (x7 c))) [0, 1, 2, 3, 4, 13] [dY c, dI (x7 c).vars, dI (x7 c).arrays, dN (x7 c).list, .box (pL 1), .dat (D.brows (an9 (x7 c)))] [(2, bA false), (3, .ptr 4 0), (4, .ref 5), (5, bA (aa1 (x7 c)))] fun G => b6 (wp_seq (j8 G (s8 1 [1, 2, 3] (bZ9 (x7 c))) [0, 1, 2, 3, 4, 5, 14] [dY c, dI (x7 c).vars, dI (x7 c).arrays, dN (x7 c).list, .box (pL 1), .dat (D.brows (an9 (x7 c))), .dat (D.brows (an9 (x7 c)))] [(2, bA false), (3, .ptr 4 0), (4, .ref 5), (5, bA (aa1 (x7 c))), (6, .ref 6), (7, bA (aa1 (x7 c)))] fun G => b6 (wp_seq (k8 G (s8 1 [1, 2, 3] (b02 (x7 c))) [(8, iA (D6 (x7 c)).fst), (9, iA (D6 (x7 c)).snd)] fun G => b6 (wp_seq (D2 G (s8 1 [1, 2, 3] (b00 (x7 c))) [(2, bA false), (3, .ptr 4 0), (4, .ref 5), (5, bA (aa1 (x7 c))), (6, .ref 6), (7, bA (aa1 (x7 c))), (8, iA (D6 (x7 c)).fst), (9, iA (D6 (x7 c)).snd), (10, iA (D6 (x7 c)).fst), (11, iA (D6 (x7 c)).snd)] fun G => b6 (wp_seq ?_))))))); cases h1 : (aa1 (x7 c) == ((D6 (x7 c)).fst == 0))
   · exact False.elim (bX7 (by with_reducible assumption))
   ·
    cases h2 : (!aa1 (x7 c))
    · have q2 : (aa1 (x7 c)) = true := (Eq.mp (ck2 _) h2); refine j8 G (F9 (t4 6 [5, 6] (a82 (an9 (x7 c))) (t4 30 [1, 2, 3, 5] (b03 (x7 c) (an9 (x7 c))) F8)) (fc (a := aa1 (x7 c) == aa1 (x7 c)) (b := true) (by assumption) (fc (b := true) rfl (fc (a := (D6 (x7 c)).fst == (D6 (x7 c)).fst) (b := true) (by simp [h0, h1, h2, q2]) (fc (a := (D6 (x7 c)).snd == (D6 (x7 c)).snd) (b := true) (by simp [h0, h1, h2, q2]) (fc h1 (fc h2 fz)))))) (us [(4, 6, 0), (1007, 1007, 0), (9, 11, 1), (1012, 1012, 1), (14, 16, 2), (1017, 1017, 2), (19, 22, 3), (1023, 1023, 3), (25, 27, 4), (28, 30, 5), (31, 31, 4), (1031, 1031, 5), (1032, 1032, 4)])) [0] [dY c] [(2, bA (aN6 (x7 c) (an9 (x7 c))))] fun G => b6 (wp_ret ?_); exact J6 (aN6 (x7 c) (an9 (x7 c))) G [0] ((bM6 (by with_reducible assumption)).symm)
    · have q2 : (aa1 (x7 c)) = false := (Eq.mp (cj4 _) h2); refine j8 G (F9 (t4 6 [5, 6] (a82 (an9 (x7 c))) F8) (fc (a := aa1 (x7 c) == aa1 (x7 c)) (b := true) (by assumption) (fc (b := true) rfl (fc (a := (D6 (x7 c)).fst == (D6 (x7 c)).fst) (b := true) (by simp [h0, h1, h2, q2]) (fc (a := (D6 (x7 c)).snd == (D6 (x7 c)).snd) (b := true) (by simp [h0, h1, h2, q2]) (fc h1 (fc h2 fz)))))) (us [(4, 6, 0), (1007, 1007, 0), (9, 11, 1), (1012, 1012, 1), (14, 16, 2), (1017, 1017, 2), (19, 22, 3), (1023, 1023, 3), (25, 27, 4), (28, 30, 5), (31, 31, 4), (1031, 1031, 5), (1032, 1032, 4)])) [0] [dY c] [(2, bA true)] fun G => b6 (wp_ret ?_); exact K8 G [0]
  · refine wp_seq (k8 G d9 [(2, bA true)] fun G => b6 (wp_ret (l6 ?_))); exact K8 G [0]
theorem cb5 (u : Value) (c : List UInt8) (w : World) (hp : I2 w u c.length 1 (u8s c)) : Calls Tryz.prog 12 #[u] w fun e w' => e = .returned (.bool true) ∧ Below w.heap.size w w' :=
 bt6 (ca5 c) u w (hp.rowF fun _ _ => trivial)
end Go.Proofs.YthikdkjjdeehoaaGreat.exLInferTaint

namespace Go.Proofs.YthikdkjjdeehoaaGreat.exLInferTaint
open Go Go.RowKit Go.ChangeShapes Go.WideShapes Go.ChangeAt Go.Proofs.YthikdkjjdeehoaaGreat
theorem lifted (os : Os) (started : os.Started) (H : Type) (enc : TypeId × Value → H) :
  ReturnsInHanded {} Tryz.checked os 12 .any (Rows.fnInferTaintSpec.pre6 enc Tryz.prog Tryz.f12 Rows.fnInferTaintRow.domain false) (Rows.fnInferTaintSpec.post enc Tryz.prog Tryz.f12 false true false false) := by
 refine returnsInHanded_of_change (C := Tryz.checked) own started (by kernel_rfl) Tryz.func12
  (ChangeSpec.witness6 (enc := enc) (C := Tryz.checked) false ⟨#[], #[.slice none 0 0], []⟩ 8 (by kernel_rfl) (by kernel_rfl) (by kernel_rfl) (by kernel_rfl)) ?_
 intro W base args ds gs before hval0 hW hcnd _
 have hval : ∀ (j : Nat) t v, Tryz.f12.params[j]? = some t → args[j]? = some v → Value.okWide Tryz.prog W .any base t v := hval0
 have hW' := hW
 obtain ⟨p, q, hA0, hV, rfl, hfz, hnd⟩ := hW
 have hA : DataW.TrodAll enc Tryz.prog W 0 (fun _ => true) true Tryz.f12.params.toList args.toList ds p := hA0
 rw [Tryz.params12] at hA hval
 obtain ⟨v0, vs0, d0, ds0, p0, q0, hargs, rfl, rfl, h0, r0⟩ := trodAll_cons hA
 obtain ⟨rfl, rfl, rfl⟩ := trodAll_nil r0
 obtain rfl : args = #[v0] := by cases args; simp_all
 obtain ⟨rfl, rfl⟩ := trodVars_none hV
 have k0 := h0
 have lt0 : ∀ x ∈ p0, x.block < W.heap.size := by obtain ⟨m, hm⟩ := k0; exact DataW.trod_lt m _ _ _ hm
 obtain ⟨a0, len0, cap0, rfl⟩ := okWide_slice Tryz.underlying22 (hval 0 22 v0 rfl rfl)
 obtain ⟨x0, hx0⟩ : ∃ l : List UInt8, I2 W (.slice a0 len0 cap0) l.length 1 (u8s l) := by
  obtain ⟨fuel, hf⟩ := h0
  exact aN9 Tryz.underlying22 hf
 clear hA0 hval0
 refine (cb5 _ x0 W hx0).mono fun e W' ⟨he, bel⟩ => ?_
 subst he
 exact ⟨_, rfl, _, _, _, [], _, [], hW', trodAll_mk1 (shut_bool Tryz.underlying4 _), (trodAll_cons_mk (Below.trod bM1 (by kernel_rfl) (of_decide_eq_true (by kernel_rfl)) k0 bel lt0) trodAll_mk0), rfl, bel.frame _, fun h => by cases h⟩
theorem facts : joinedFacts Tryz.pinned.checked.prog 12 Tryz.f12 Rows.fnInferTaintSpec Rows.fnInferTaintRow = true := by
 unfold joinedFacts
 rw [may_enter, lifts_final, make_is]
 kernel_rfl
theorem over : Rows.fnInferTaintRow.holds Tryz.pinned (OpenSpec.ofChange Rows.fnInferTaintSpec) :=
 OpenClaim.holds_of_wide 12 Tryz.f12 rfl rfl rfl rfl rfl rfl rfl ⟨rfl, rfl, rfl, rfl, rfl⟩ rfl rfl rfl rfl rfl (by kernel_rfl) Tryz.func12 facts
  (of_decide_eq_true (by kernel_rfl)) (by unfold Func.isWrapper; first | (rw [if_pos (by decide +kernel)]; kernel_rfl) | (rw [if_neg (by decide +kernel)]; exact ⟨rfl, rfl⟩))
  (fun os started H enc _ => lifted os started H enc)
theorem proved : Rows.FnInferTaintSaid := over
end Go.Proofs.YthikdkjjdeehoaaGreat.exLInferTaint
