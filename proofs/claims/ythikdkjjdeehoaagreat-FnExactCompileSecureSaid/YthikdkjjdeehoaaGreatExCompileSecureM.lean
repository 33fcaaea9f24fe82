/-
  CompileSecure: the statement, whatever the argument. Conditions: none beyond the statement's own.
-/
import Derived.Test.YthikdkjjdeehoaaGreatK6
import Derived.Test.YthikdkjjdeehoaaGreatEnter1M
import Derived.Test.YthikdkjjdeehoaaGreatEnter2M
import Derived.Test.YthikdkjjdeehoaaGreatEnter3M
set_option maxRecDepth 100000
set_option maxHeartbeats 16000000
open Bool renaming not_eq_false' → bW8, not_eq_true' → bW7
open List renaming length_append → bV4, length_cons → bV6, length_nil → bV7
open Nat renaming le_refl → bW6
namespace Go.Proofs.YthikdkjjdeehoaaGreat.exCompileSecure
set_option linter.unusedVariables false
set_option linter.unusedSimpArgs false
open Go Go.RowKit Go.Proofs.YthikdkjjdeehoaaGreat
theorem a39 {p : k6} (h : ¬ (L0 1048576 p.size < 0)) : p.size ≤ 1048576 := by
 by_cases h1 : (1048576 : Int) < p.size
 ·rw [A7 h1] at h; omega
 ·omega
theorem aO7 (p : k6) : p.same p = true := k6.same_eq.2 rfl
theorem bl0 {p : k6} {n : Nat} (h : p.size ≤ n) (hn : n ≤ 1048576) : ((1 : Nat) : Int) + aC2 p ≤ 9000000000000000000 := by
 unfold aC2
 unfold k6.size at h
 have := (J6 p.body).2
 omega
theorem bz9 (q : k6) : ¬ ((!q.same q) = true) := by rw [aO7]; decide
theorem bK5 (p : k6) : ¬ (decide ((1 : Int) + aC2 p < (0 : Int)) = true) := by
 have := (J6 p.body).1
 unfold aC2
 simp only [decide_eq_true_eq]; omega
theorem bx1 {p : k6} (hb : l8 p.body ≤ 1048576) : (G0 p).1.length ≤ 5000010 := by
 unfold G0 X0
 have := aA1 p hb
 split
 ·simp only [bV4, bV6, bV7]; omega
 ·simp
theorem bw9 (p : k6) : (cvP p).length ≤ p.vars.length := by unfold cvP; split <;> simp
theorem bM5 (p : k6) : (caP p).length ≤ p.arrays.length := by unfold caP; split <;> simp
theorem aA2 (p : k6) : (1 : Int) + (cvP (B7 p)).length + (caP (B7 p)).length + 5 * (G0 (B7 p)).1.length ≤ 8000000000000000000 := by
 have h := bb1 p
 have h1 := bw9 (B7 p)
 have h2 := bM5 (B7 p)
 have h3 := bx1 (p := B7 p) (by unfold k6.size at h; omega)
 unfold k6.size at h
 omega
abbrev D2 (p : k6) : AV := iA (1 + ((cvP (B7 p)).length : Int) + ((caP (B7 p)).length : Int) + 5 * ((G0 (B7 p)).fst.length : Int))
abbrev ac9 (p : k6) : AV := bA (1 + ((cvP (B7 p)).length : Int) + ((caP (B7 p)).length : Int) + 5 * ((G0 (B7 p)).fst.length : Int) != 1 + ((cvP (B7 p)).length : Int) + ((caP (B7 p)).length : Int) + 5 * ((G0 (B7 p)).fst.length : Int))
abbrev as9 (p : k6) : It := .row 86 (D.instrs (mkZ (1 + ((cvP (B7 p)).length : Int) + ((caP (B7 p)).length : Int)) (G0 (B7 p)).fst.length))
abbrev I7 (p : k6) : It := .row 86 (D.instrs (G0 (B7 p)).fst)
abbrev I6 (p : k6) (r0 : List It) : List It := dI p.vars :: dI p.arrays :: dT p.body :: .box (pL 0) :: .row 3 (D.ints (cvP (B7 p))) :: .row 3 (D.ints (caP (B7 p))) :: I7 p :: .box (pL 4) :: r0
abbrev S8 (p : k6) (r0 : List It) : List It := .row 3 (D.ints (X2 1 (cvP (B7 p)).length)) :: .row 3 (D.ints (X2 (1 + ((cvP (B7 p)).length : Int)) (caP (B7 p)).length)) :: as9 p :: r0
theorem bS4 (p : k6) : p6.ok Tryz.prog ⟨6, [pA 0], pS p, pS p, bA true⟩ := by
  have hto := aZ1 p; refine H9 96 Tryz.func6 [dI p.vars, dI p.arrays, dT p.body] [(0, pA 0)] fun G => ?_; have hself : ∀ q : k6, q.same q = true := aO7; refine wp_seq (s4 G l6 (rg 4) [dI p.vars, dI p.arrays, dT p.body, .box (pL 0)] [(1, .ptr 3 0), (2, bA false)] fun G => b7 (wp_seq (n9 G l6 [(3, iA 1048576)] fun G => b7 (wp_seq (n9 G (B5 2 [0, 1, 2] (a49 p 1048576 (by omega) (by omega))) [(3, iA (L0 1048576 p.size))] fun G => b7 (wp_seq (wp_seq (n9 G l6 [(18, bA (decide (L0 1048576 p.size < 0)))] fun G => b7 (rcD G (fun h0 q0 => ?_) fun h0 q0 => ?_)))))))))
  ·
   refine wp_skip (b7 (wp_seq (s4 G (E5 (t4 1 [0, 1, 2] (hto (a39 (by assumption))) (t4 2 [12, 13, 14] (p6.lend (aC7 p (a39 (by assumption))) [.row 3, .row 3, .tree]) E4)) fz []) [0, 1, 2, 3, 20, 21, 22, 52] (I6 p []) [(1, .ptr 3 0), (2, bA false), (4, .ptr 7 0), (5, bA (Q6 (B7 p)))] fun G => b7 (wp_seq (s4 G (B5 1 [0, 1, 2] (hto (a39 (by assumption)))) [0, 1, 2, 3, 4, 5, 6, 7, 16, 17, 18, 24] (I6 p [.row 3 (D.ints p.vars), .row 3 (D.ints p.arrays), .tree (D.stmts p.body), .box [.ref 8, .ref 9, .tref 10]]) [(1, .ptr 3 0), (2, bA false), (4, .ptr 7 0), (5, bA (Q6 (B7 p))), (6, .ptr 11 0)] fun G => b7 (wp_seq (s4 G (B5 1 [8, 9, 10] (p6.lend (ag1 p (a39 (by assumption))) [.row 3, .row 3, .tree])) [0, 1, 2, 3, 4, 5, 6, 7, 8, 9, 10, 11, 20, 21, 22, 52] (I6 p [.row 3 (D.ints p.vars), .row 3 (D.ints p.arrays), .tree (D.stmts p.body), .box [.ref 8, .ref 9, .tref 10], .row 3 (D.ints (cvP (B7 p))), .row 3 (D.ints (caP (B7 p))), I7 p, .box (pL 12)]) [(1, .ptr 3 0), (2, bA false), (4, .ptr 7 0), (5, bA (Q6 (B7 p))), (6, .ptr 11 0), (7, .ptr 15 0), (8, bA (Q6 (B7 p)))] fun G => b7 (wp_seq (wp_seq (n9 G (E5 (t4 2 [12, 13, 14, 4, 5, 6] (p6.lend (aL5 (cvP (B7 p)) (caP (B7 p)) ((G0 (B7 p)).fst)) [.row 3, .row 3, .row 86, .row 3, .row 3, .row 86]) E4) (fc (b := false) rfl fz) [(5, 0), (6, 0), (7, 0), (1008, 0)]) [(40, .v (.bool !Q6 (B7 p) == Q6 (B7 p)))] fun G => b7 (rF G (!Q6 (B7 p) == Q6 (B7 p)) (by simp [h0]) (wp_skip (b7 (wp_seq (wp_seq (a07 G (E5 (t4 2 [0, 1, 2] (hto (a39 (by assumption))) (t4 3 [8, 9, 10, 32, 33, 34] (p6.lend (a59 p p) [.row 3, .row 3, .tree, .row 3, .row 3, .tree]) E4)) fz []) [0, 0, 2, 7, 15] [(45, .v (.bool !p.same p))] fun G => b7 ?_)))))))))))))))); cases h1 : (!p.same p)
   ·
    have q1 : (p.same p) = true := (Eq.mp (bW8 _) h1); refine rF G _ h1 (wp_skip (b7 (wp_seq (n9 G l6 [(9, iA 1)] fun G => b7 (wp_seq (s4 G (B5 2 [8, 9, 10] (aN5 p 1 (bl0 (a39 (by assumption)) (bW6 _)))) [0, 1, 2, 3, 4, 5, 6, 7, 12, 13, 14, 15] (I6 p [.row 3 (D.ints (cvP (B7 p))), .row 3 (D.ints (caP (B7 p))), I7 p, .box (pL 8)]) [(1, .ptr 3 0), (2, bA false), (4, .ptr 7 0), (5, bA (Q6 (B7 p))), (7, .ptr 11 0), (8, bA (Q6 (B7 p))), (9, iA ((1 : Int) + aC2 p))] fun G => b7 (wp_seq (wp_seq ?_)))))))); cases h2 : (decide ((1 : Int) + aC2 p < 0))
    ·
     have q2 := dFf h2; refine n9 G (E5 (t4 5 [8, 9, 10, 4, 5, 6] (p6.lend (aL5 (cvP (B7 p)) (caP (B7 p)) ((G0 (B7 p)).fst)) [.row 3, .row 3, .row 86, .row 3, .row 3, .row 86]) E4) (fc h2 (fc (b := false) rfl fz)) (us [(3, 6, 0), (1007, 1007, 0), (9, 11, 1), (1012, 1012, 1)])) [(61, .v (.bool !Q6 (B7 p) == Q6 (B7 p)))] fun G => b7 (rF G (!Q6 (B7 p) == Q6 (B7 p)) (by simp [h0, h1, q1, h2]) (wp_skip (b7 (wp_seq (n9 G l6 [(10, iA 1)] fun G => b7 (wp_seq (s4 G (B5 2 [8, 9, 10] (bd1 (cvP (B7 p)) (caP (B7 p)) ((G0 (B7 p)).fst) 1 (by simp [h0, h1, q1, h2]) (aA2 p))) (rg 12) (I6 p (S8 p [.box (pL 8)])) [(1, .ptr 3 0), (2, bA false), (4, .ptr 7 0), (5, bA (Q6 (B7 p))), (7, .ptr 11 0), (10, D2 p)] fun G => b7 (wp_seq (n9 G l6 [(11, iA 1)] fun G => b7 (wp_seq (n9 G (B5 2 [8, 9, 10] (p6.lend (aL4 ((cvP (B7 p)).length) ((caP (B7 p)).length) ((G0 (B7 p)).fst.length) 1 (by simp [h0, h1, q1, h2]) (aA2 p)) [.row 3, .row 3, .row 86])) [(11, D2 p)] fun G => b7 (wp_seq (wp_seq (n9 G l6 [(69, bA false)] fun G => b7 (rF G false (by kernel_rfl) (wp_skip (b7 (wp_seq (wp_seq (n9 G l6 [(72, ac9 p)] fun G => b7 (rF G ((1 : Int) + ((cvP (B7 p)).length : Int) + ((caP (B7 p)).length : Int) + 5 * ((G0 (B7 p)).fst.length : Int) != 1 + ((cvP (B7 p)).length : Int) + ((caP (B7 p)).length : Int) + 5 * ((G0 (B7 p)).fst.length : Int)) (by simp [h0, h1, q1, h2]) (wp_skip (b7 (wp_seq (s4 G (E5 (t4 1 [0, 1, 2] (hto (a39 (by assumption))) (t4 2 [20, 21, 22] (p6.lend (ag1 p (a39 (by assumption))) [.row 3, .row 3, .tree]) E4)) fz []) [0, 1, 2, 4, 5, 6, 7, 8, 9, 10, 11, 28, 29, 30, 60] (dI p.vars :: dI p.arrays :: dT p.body :: .row 3 (D.ints (cvP (B7 p))) :: .row 3 (D.ints (caP (B7 p))) :: I7 p :: .box (pL 3) :: (S8 p [.box (pL 7), .row 3 (D.ints (cvP (B7 p))), .row 3 (D.ints (caP (B7 p))), I7 p, .box (pL 11)])) [(2, bA false), (4, .ptr 6 0), (5, bA (Q6 (B7 p))), (7, .ptr 10 0), (10, D2 p), (11, D2 p), (12, .ptr 14 0), (13, bA (Q6 (B7 p)))] fun G => b7 (wp_seq (wp_seq (s4 G (E5 (t4 2 [11, 12, 13, 3, 4, 5] (p6.lend (aL5 (cvP (B7 p)) (caP (B7 p)) ((G0 (B7 p)).fst)) [.row 3, .row 3, .row 86, .row 3, .row 3, .row 86]) E4) (fc (b := false) rfl fz) [(5, 0), (6, 0), (7, 0), (1008, 0)]) [0, 1, 2, 7, 8, 9, 10] (dI p.vars :: dI p.arrays :: dT p.body :: (S8 p [.box (pL 3)])) [(2, bA false), (7, .ptr 6 0), (10, D2 p), (11, D2 p), (87, .v (.bool !Q6 (B7 p) == Q6 (B7 p)))] fun G => ?_))))))))))))))))))))))))))))
     refine b7 (rF G (!Q6 (B7 p) == Q6 (B7 p)) (by simp [h0, h1, q1, h2]) (wp_skip (b7 (wp_seq (n9 G l6 [(11, iA 1)] fun G => b7 (wp_seq (s4 G (B5 2 [3, 4, 5] (p6.lend (aL4 ((cvP (B7 p)).length) ((caP (B7 p)).length) ((G0 (B7 p)).fst.length) 1 (by simp [h0, h1, q1, h2]) (aA2 p)) [.row 3, .row 3, .row 86])) [0, 1, 2] [dI p.vars, dI p.arrays, dT p.body] [(2, bA false), (10, D2 p), (11, D2 p)] fun G => b7 (wp_seq (wp_seq (n9 G l6 [(92, bA false)] fun G => b7 (rF G false (by kernel_rfl) (wp_skip (b7 (wp_seq (wp_seq (n9 G l6 [(95, ac9 p)] fun G => b7 (rF G ((1 : Int) + ((cvP (B7 p)).length : Int) + ((caP (B7 p)).length : Int) + 5 * ((G0 (B7 p)).fst.length : Int) != 1 + ((cvP (B7 p)).length : Int) + ((caP (B7 p)).length : Int) + 5 * ((G0 (B7 p)).fst.length : Int)) (by simp [h0, h1, q1, h2]) (wp_skip (b7 (wp_seq (n9 G l6 [(2, bA true)] fun G => b7 (wp_ret ?_)))))))))))))))))))))); exact O9 G [0, 1, 2]
    · have q2 := dTt h2; refine n9 G (hhF (fc h2 (fc (b := true) rfl fz)) (us [(3, 6, 0), (1007, 1007, 0), (9, 11, 1), (1012, 1012, 1)])) [(61, bA true)] fun G => b7 (rT G true (by kernel_rfl) (wp_seq (n9 G l6 [] fun G => b7 (wp_ret (t6 ?_))))); exact S6 false G [0, 1, 2] (by exact absurd (by with_reducible assumption) (bK5 p))
   · have q1 : (p.same p) = false := (Eq.mp (bW7 _) h1); refine rT G _ h1 (wp_seq (n9 G l6 [] fun G => b7 (wp_ret (t6 ?_)))); exact S6 false G [0, 1, 2] (by exact absurd (by with_reducible assumption) (bz9 p))
  · refine wp_seq (n9 G l6 [(2, bA true)] fun G => b7 (wp_ret (t6 ?_))); exact O9 G [0, 1, 2]
theorem bS9 (u : Value) (p : k6) (w : World) (hp : ap5 w (fun _ => True) u p) : Calls Tryz.prog 6 #[u] w fun e w' => e = .returned (.bool true) ∧ Below w.heap.size w w' := br9 (bS4 p) u w hp
end Go.Proofs.YthikdkjjdeehoaaGreat.exCompileSecure

namespace Go.Proofs.YthikdkjjdeehoaaGreat.exCompileSecure
set_option linter.unusedVariables false
set_option linter.unusedSimpArgs false
open Go Go.RowKit Go.ChangeShapes Go.WideShapes Go.ChangeAt Go.Proofs.YthikdkjjdeehoaaGreat
theorem lifted (os : Os) (started : os.Started) (H : Type) (enc : TypeId × Value → H) :
  ReturnsInHanded {} Tryz.checked os 6 .any (Rows.fnExactCompileSecureSpec.pre6 enc Tryz.prog Tryz.f6 Rows.fnExactCompileSecureRow.domain false) (Rows.fnExactCompileSecureSpec.post enc Tryz.prog Tryz.f6 false true false false) := by
 refine returnsInHanded_of_change (C := Tryz.checked) own started (by kernel_rfl) Tryz.func6
  (ChangeSpec.witness6 (enc := enc) (C := Tryz.checked) false ⟨#[], #[.agg #[.slice none 0 0, .slice none 0 0, .slice none 0 0]], []⟩ 8 (by kernel_rfl) (by kernel_rfl) (by kernel_rfl) (by kernel_rfl)) ?_
 intro W base args ds gs before hval0 hW hcnd _
 have hval : ∀ (j : Nat) t v, Tryz.f6.params[j]? = some t → args[j]? = some v → Value.okWide Tryz.prog W .any base t v := hval0
 have hW' := hW
 obtain ⟨p, q, hA0, hV, rfl, hfz, hnd⟩ := hW
 have hA : DataW.TrodAll enc Tryz.prog W 0 (fun _ => true) true Tryz.f6.params.toList args.toList ds p := hA0
 rw [Tryz.params6] at hA hval
 obtain ⟨v0, vs0, d0, ds0, p0, q0, hargs, rfl, rfl, h0, r0⟩ := trodAll_cons hA
 obtain ⟨rfl, rfl, rfl⟩ := trodAll_nil r0
 obtain rfl : args = #[v0] := by cases args; simp_all
 obtain ⟨rfl, rfl⟩ := trodVars_none hV
 have k0 := h0
 have lt0 : ∀ x ∈ p0, x.block < W.heap.size := by obtain ⟨m, hm⟩ := k0; exact DataW.trod_lt m _ _ _ hm
 obtain ⟨x0, hx0⟩ := aU7 (hval 0 43 v0 rfl rfl) h0
 clear hA0 hval0
 refine (bS9 _ x0 W hx0).mono fun e W' ⟨he, bel⟩ => ?_
 subst he
 exact ⟨_, rfl, _, _, _, [], _, [], hW', trodAll_mk1 (shut_bool Tryz.underlying4 _), (trodAll_cons_mk (Below.trod bC6 (by kernel_rfl) (of_decide_eq_true (by kernel_rfl)) k0 bel lt0) trodAll_mk0), rfl, bel.frame _, fun h => by cases h⟩
theorem facts : joinedFacts Tryz.pinned.checked.prog 6 Tryz.f6 Rows.fnExactCompileSecureSpec Rows.fnExactCompileSecureRow = true := by
 unfold joinedFacts
 rw [may_enter, lifts_final, make_is]
 kernel_rfl
theorem over : Rows.fnExactCompileSecureRow.holds Tryz.pinned (OpenSpec.ofChange Rows.fnExactCompileSecureSpec) :=
 OpenClaim.holds_of_wide 6 Tryz.f6 rfl rfl rfl rfl rfl rfl rfl ⟨rfl, rfl, rfl, rfl, rfl⟩ rfl rfl rfl rfl rfl (by kernel_rfl) Tryz.func6 facts
  (of_decide_eq_true (by kernel_rfl)) (by unfold Func.isWrapper; first | (rw [if_pos (by decide +kernel)]; kernel_rfl) | (rw [if_neg (by decide +kernel)]; exact ⟨rfl, rfl⟩))
  (fun os started H enc _ => lifted os started H enc)
theorem proved : Rows.FnExactCompileSecureSaid := over
end Go.Proofs.YthikdkjjdeehoaaGreat.exCompileSecure
