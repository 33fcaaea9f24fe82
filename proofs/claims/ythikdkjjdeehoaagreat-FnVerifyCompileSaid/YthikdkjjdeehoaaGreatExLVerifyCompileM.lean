/-
  LVerifyCompile: the statement, whatever the argument. Conditions: none beyond the statement's own.
-/
import Derived.Test.YthikdkjjdeehoaaGreatK6
import Derived.Test.YthikdkjjdeehoaaGreatEnter1M
import Derived.Test.YthikdkjjdeehoaaGreatEnter2M
import Derived.Test.YthikdkjjdeehoaaGreatEnter3M
set_option maxRecDepth 100000
set_option maxHeartbeats 16000000
open Bool renaming and_eq_true → b85, not_eq_false' → ca0, not_eq_true' → b99
open Nat renaming le_trans → cb5
open True renaming intro → b91
namespace Go.Proofs.YthikdkjjdeehoaaGreat.exLVerifyCompile
set_option linter.unusedVariables false
set_option linter.unusedSimpArgs false
open Go Go.RowKit Go.Proofs.YthikdkjjdeehoaaGreat
theorem b77 : ¬ ((!true) = true) := by decide
theorem bu0 {p : f7} (h : W0 p = true) (hc : (ctR p).1 = 0) : (aE0 ⟨cvP p, caP p, (J5 p).1⟩).1 = 0 := by
 rw [bV4 h, bW1 h, a01 h]
 unfold aE0
 rw [if_pos (bF1 h)]
 obtain ⟨m, hm⟩ := bC1 (bF1 h)
 rw [← a56 hm]
 have hp : n4 p = true := by unfold W0 at h; simp only [b85] at h; exact h.1
 exact (bw6 hm).2 (bN7 hp hc)
abbrev O3 (c : List UInt8) (r0 : List It) : List It := dY c :: .row 3 (D.ints (K2 c).vars) :: .row 3 (D.ints (K2 c).arrays) :: .tree (D.stmts (K2 c).body) :: .box [.ref 1, .ref 2, .tref 3] :: .row 3 (D.ints (cvP (K2 c))) :: .row 3 (D.ints (caP (K2 c))) :: .row 86 (D.instrs (J5 (K2 c)).fst) :: .box (pL 5) :: r0
theorem b26 (c : List UInt8) : m7.ok Tryz.prog ⟨4, [.ref 0], [dY c], [dY c], bA true⟩ := by
  refine H8 64 Tryz.func4 [dY c] [(0, .ref 0)] fun G => ?_; have hsz := bV0 c
  have hb : p7 (K2 c).body ≤ 1048576 := by unfold f7.size at hsz; omega
  refine wp_seq (l8 G i7 [(2, bA false)] fun G => b0 (wp_seq (wp_seq (l8 G i7 [(14, bA (decide ((c.length : Int) > 1048576)))] fun G => b0 (rcD G (fun h0 q0 => ?_) fun h0 q0 => ?_)))))
  ·
   refine wp_skip (b0 (wp_seq (m5 G (t5 1 [0] (bH2 c)) [0, 9, 10, 11, 17] [dY c, .row 3 (D.ints (K2 c).vars), .row 3 (D.ints (K2 c).arrays), .tree (D.stmts (K2 c).body), .box [.ref 1, .ref 2, .tref 3]] [(2, bA false), (3, .ptr 4 0)] fun G => b0 (wp_seq (m5 G (t5 1 [1, 2, 3] (m7.lend (aw6 (K2 c) (cb5 hsz (by omega))) [.row 3, .row 3, .tree])) [0, 1, 2, 3, 4, 13, 14, 15, 45] (O3 c []) [(2, bA false), (3, .ptr 4 0), (4, .ptr 8 0), (5, bA (W0 (K2 c)))] fun G => b0 (wp_seq (m5 G (t5 1 [1, 2, 3] (m7.lend (aA2 (K2 c) (cb5 hsz (by omega))) [.row 3, .row 3, .tree])) [0, 1, 2, 3, 4, 5, 6, 7, 8, 17, 18, 19, 49] (O3 c [.row 3 (D.ints (cvP (K2 c))), .row 3 (D.ints (caP (K2 c))), .row 86 (D.instrs (J5 (K2 c)).fst), .box (pL 9)]) [(2, bA false), (3, .ptr 4 0), (4, .ptr 8 0), (5, bA (W0 (K2 c))), (6, .ptr 12 0), (7, bA (W0 (K2 c)))] fun G => b0 (wp_seq (wp_seq (K8 G (B8 ⟨[(6, _, [5, 6, 7, 9, 10, 11])], [(!W0 (K2 c) == W0 (K2 c), false), (false, false)], us [(4, 7, 0), (1008, 1008, 0), (10, 11, 1), (1012, 1012, 1)]⟩ (b9 (m7.lend (aC4 (cvP (K2 c)) (caP (K2 c)) ((J5 (K2 c)).fst)) [.row 3, .row 3, .row 86, .row 3, .row 3, .row 86]) d8) ⟨(by simp [h0]), (by kernel_rfl), b91⟩) [(2, bA false), (3, .ptr 4 0), (4, .ptr 8 0), (5, bA (W0 (K2 c))), (6, .ptr 12 0), (7, bA (W0 (K2 c))), (39, .v (.bool !W0 (K2 c)))] fun G => b0 ?_)))))))))); cases h1 : (!W0 (K2 c))
   ·
    have q1 : (W0 (K2 c)) = true := (Eq.mp (ca0 _) h1)
    have hok : W0 (K2 c) = true := by with_reducible assumption
    have hcf := bu0 (p := K2 c) hok; refine rF G _ h1 (wp_skip (b0 (wp_seq (m5 G (t5 1 [1, 2, 3] (m7.lend (bG6 ((K2 c).vars) ((K2 c).arrays) ((K2 c).body) (by assumption)) [.row 3, .row 3, .tree])) [0, 5, 6, 7, 8] [dY c, .row 3 (D.ints (cvP (K2 c))), .row 3 (D.ints (caP (K2 c))), .row 86 (D.instrs (J5 (K2 c)).fst), .box (pL 1)] [(2, bA false), (4, .ptr 4 0), (8, iA (ctR (f7.mk (K2 c).vars (K2 c).arrays (K2 c).body)).fst)] fun G => b0 (wp_seq (m5 G (t5 1 [1, 2, 3] (m7.lend (a07 (cvP (K2 c)) (caP (K2 c)) ((J5 (K2 c)).fst)) [.row 3, .row 3, .row 86])) [0] [dY c] [(2, bA false), (8, iA (ctR (f7.mk (K2 c).vars (K2 c).arrays (K2 c).body)).fst), (10, iA (aE0 (i8.mk (cvP (K2 c)) (caP (K2 c)) (J5 (K2 c)).fst)).fst)] fun G => b0 (wp_seq ?_))))))); cases h2 : ((ctR (f7.mk (K2 c).vars (K2 c).arrays (K2 c).body)).fst != 0)
    · have q2 := bne_eq_false_iff_eq.1 h2; refine l8 G (X3 (fc h2 fz) [(3, 0), (4, 0), (1005, 0)]) [(2, bA ((aE0 (i8.mk (cvP (K2 c)) (caP (K2 c)) (J5 (K2 c)).fst)).fst == 0))] fun G => b0 (wp_ret ?_); exact H6 ((aE0 (i8.mk (cvP (K2 c)) (caP (K2 c)) (J5 (K2 c)).fst)).fst == 0) G [0] (by have h9 := hcf (by omega); rw [h9]; rfl)
    · have q2 := bne_iff_ne.1 h2; refine l8 G (X3 (fc h2 fz) [(3, 0), (4, 0), (1005, 0)]) [(2, bA true)] fun G => b0 (wp_ret ?_); exact Q9 G [0]
   · have q1 : (W0 (K2 c)) = false := (Eq.mp (b99 _) h1); refine rT G _ h1 (wp_seq (m5 G (B8 ⟨[(6, _, [5, 6, 7, 9, 10, 11])], [(W0 (K2 c) == W0 (K2 c), true)], [(4, 0), (5, 0), (6, 0), (1007, 0)]⟩ (b9 (m7.lend (aC4 (cvP (K2 c)) (caP (K2 c)) ((J5 (K2 c)).fst)) [.row 3, .row 3, .row 86, .row 3, .row 3, .row 86]) d8) ⟨(by rw [q1]; rfl), b91⟩) (rg 9) (O3 c []) [(2, bA true), (3, .ptr 4 0), (4, .ptr 8 0)] fun G => b0 (wp_ret (m8 ?_)))); exact Q9 G [0]
  · refine wp_seq (l8 G i7 [(2, bA true)] fun G => b0 (wp_ret (m8 ?_))); exact Q9 G [0]
theorem b34 (u : Value) (c : List UInt8) (w : World) (hp : N3 w u c.length 1 (u8s c)) : Calls Tryz.prog 4 #[u] w fun e w' => e = .returned (.bool true) ∧ Below w.heap.size w w' :=
 bu9 (b26 c) u w (hp.rowF fun _ _ => trivial)
end Go.Proofs.YthikdkjjdeehoaaGreat.exLVerifyCompile

namespace Go.Proofs.YthikdkjjdeehoaaGreat.exLVerifyCompile
set_option linter.unusedVariables false
set_option linter.unusedSimpArgs false
open Go Go.RowKit Go.ChangeShapes Go.WideShapes Go.ChangeAt Go.Proofs.YthikdkjjdeehoaaGreat
theorem lifted (os : Os) (started : os.Started) (H : Type) (enc : TypeId × Value → H) :
  ReturnsInHanded {} Tryz.checked os 4 .any (Rows.fnVerifyCompileSpec.pre6 enc Tryz.prog Tryz.f4 Rows.fnVerifyCompileRow.domain false) (Rows.fnVerifyCompileSpec.post enc Tryz.prog Tryz.f4 false true false false) := by
 refine returnsInHanded_of_change (C := Tryz.checked) own started (by kernel_rfl) Tryz.func4
  (ChangeSpec.witness6 (enc := enc) (C := Tryz.checked) false ⟨#[], #[.slice none 0 0], []⟩ 8 (by kernel_rfl) (by kernel_rfl) (by kernel_rfl) (by kernel_rfl)) ?_
 intro W base args ds gs before hval0 hW hcnd _
 have hval : ∀ (j : Nat) t v, Tryz.f4.params[j]? = some t → args[j]? = some v → Value.okWide Tryz.prog W .any base t v := hval0
 have hW' := hW
 obtain ⟨p, q, hA0, hV, rfl, hfz, hnd⟩ := hW
 have hA : DataW.TrodAll enc Tryz.prog W 0 (fun _ => true) true Tryz.f4.params.toList args.toList ds p := hA0
 rw [Tryz.params4] at hA hval
 obtain ⟨v0, vs0, d0, ds0, p0, q0, hargs, rfl, rfl, h0, r0⟩ := trodAll_cons hA
 obtain ⟨rfl, rfl, rfl⟩ := trodAll_nil r0
 obtain rfl : args = #[v0] := by cases args; simp_all
 obtain ⟨rfl, rfl⟩ := trodVars_none hV
 have k0 := h0
 have lt0 : ∀ x ∈ p0, x.block < W.heap.size := by obtain ⟨m, hm⟩ := k0; exact DataW.trod_lt m _ _ _ hm
 obtain ⟨a0, len0, cap0, rfl⟩ := okWide_slice Tryz.underlying22 (hval 0 22 v0 rfl rfl)
 obtain ⟨x0, hx0⟩ : ∃ l : List UInt8, N3 W (.slice a0 len0 cap0) l.length 1 (u8s l) := by
  obtain ⟨fuel, hf⟩ := h0
  exact aQ5 Tryz.underlying22 hf
 clear hA0 hval0
 refine (b34 _ x0 W hx0).mono fun e W' ⟨he, bel⟩ => ?_
 subst he
 exact ⟨_, rfl, _, _, _, [], _, [], hW', trodAll_mk1 (shut_bool Tryz.underlying4 _), (trodAll_cons_mk (Below.trod bL9 (by kernel_rfl) (of_decide_eq_true (by kernel_rfl)) k0 bel lt0) trodAll_mk0), rfl, bel.frame _, fun h => by cases h⟩
theorem facts : joinedFacts Tryz.pinned.checked.prog 4 Tryz.f4 Rows.fnVerifyCompileSpec Rows.fnVerifyCompileRow = true := by
 unfold joinedFacts
 rw [may_enter, lifts_final, make_is]
 kernel_rfl
theorem over : Rows.fnVerifyCompileRow.holds Tryz.pinned (OpenSpec.ofChange Rows.fnVerifyCompileSpec) :=
 OpenClaim.holds_of_wide 4 Tryz.f4 rfl rfl rfl rfl rfl rfl rfl ⟨rfl, rfl, rfl, rfl, rfl⟩ rfl rfl rfl rfl rfl (by kernel_rfl) Tryz.func4 facts
  (of_decide_eq_true (by kernel_rfl)) (by unfold Func.isWrapper; first | (rw [if_pos (by decide +kernel)]; kernel_rfl) | (rw [if_neg (by decide +kernel)]; exact ⟨rfl, rfl⟩))
  (fun os started H enc _ => lifted os started H enc)
theorem proved : Rows.FnVerifyCompileSaid := over
end Go.Proofs.YthikdkjjdeehoaaGreat.exLVerifyCompile
