/-
  LLinearize: the statement, whatever the argument. Conditions: none beyond the statement's own.
-/
import Derived.Test.YthikdkjjdeehoaaGreatK6
import Derived.Test.YthikdkjjdeehoaaGreatEnter1M
import Derived.Test.YthikdkjjdeehoaaGreatEnter2M
import Derived.Test.YthikdkjjdeehoaaGreatEnter3M
set_option maxRecDepth 100000
set_option maxHeartbeats 16000000
open Bool renaming and_eq_false_iff → cd2, and_eq_true → cb3, and_eq_true_iff → cd5, not_eq_false' → cc4, not_eq_true' → cc3
open Nat renaming le_trans → cd3
namespace Go.Proofs.YthikdkjjdeehoaaGreat.exLLinearize
set_option linter.unusedVariables false
set_option linter.unusedSimpArgs false
open Go Go.RowKit Go.Proofs.YthikdkjjdeehoaaGreat
theorem cb0 : ¬ ((!true) = true) := by decide
theorem bq6 {p : d7} (h : Z9 p = true) : (ctR (A1 p)).1 = 0 ∧ l5 p = true ∧ l5 (A1 p) = true ∧ p.vars.length ≤ (A1 p).vars.length ∧ ((A1 p).vars.take p.vars.length).drop 0 = p.vars ∧ (A1 p).arrays = p.arrays ∧ T8 (A1 p) = T8 p := by
 have h1 := bV9 h
 have h4 := bB2 h
 rw [← aQ7 h] at h1 h4
 have h0 := h
 unfold Z9 at h0
 simp only [cb3, decide_eq_true_eq] at h0
 have hx : V1 p.vars (A1 p).vars := by rw [aQ7 h]; exact D5 p.arrays p.body (-1) 0 (p.vars, [])
 exact ⟨h1, G6 h0.1, by rw [aQ7 h]; exact h0.2, hx.1, by7 hx, by rw [aQ7 h]; rfl, h4⟩
theorem aZ6 (vs ars ars' ws : List Int) (bd bx : List b6) (e : ars' = ars) (g1 : l5 ⟨vs, ars, bd⟩ = true) (g2 : l5 ⟨ws, ars', bx⟩ = true) (g3 : vs.length ≤ ws.length) (g4 : (ws.take vs.length).drop 0 = vs) : i9.ok Tryz.prog (E1 39 [pA 0, pA 3] [dI vs, dI ars, dT bd, dI ws, dI ars', dT bx] (bA true)) := by
 subst e
 exact a79 vs ars' ws bd bx g1 g2 g3 g4
theorem bM4 {a b : Bool} (h : b = a) : true = (a == b) := by subst h; simp
theorem bj3 (p : d7) : (decide (p.vars = p.vars) && (decide (p.arrays = p.arrays) && p6 p.body p.body)) = true := by
 rw [(F2 _ _).2 rfl]; simp
theorem b10 (p : d7) : ¬ ((!(decide (p.vars = p.vars) && (decide (p.arrays = p.arrays) && p6 p.body p.body))) = true) := by
 rw [bj3]; decide
abbrev C0 (c : List UInt8) (r0 : List It) : List It := .row 3 (D.ints (A1 (m0 c)).vars) :: .row 3 (D.ints (A1 (m0 c)).arrays) :: .tree (D.stmts (A1 (m0 c)).body) :: .box [.ref 5, .ref 6, .tref 7] :: r0
abbrev E6 (c : List UInt8) (r0 : List (Nat × AV)) : List (Nat × AV) := (2, bA false) :: (3, .ptr 4 0) :: (4, .ptr 8 0) :: (5, bA (Z9 (m0 c))) :: r0
theorem b63 (c : List UInt8) : i9.ok Tryz.prog ⟨7, [.ref 0], [dY c], [dY c], bA true⟩ := by
  refine z7 65 Tryz.func7 [dY c] [(0, .ref 0)] fun G => ?_; have hsz := bM9 c
  have hb : i5 (m0 c).body ≤ 1048576 := by unfold d7.size at hsz; omega
  have hlz := bV8 (m0 c)
  have hlb : i5 (A1 (m0 c)).body ≤ 1048576 := by unfold d7.size at hlz; omega
  refine wp_seq (l0 G d9 [(2, bA false)] fun G => b7 (wp_seq (wp_seq (l0 G d9 [(12, bA (decide ((c.length : Int) > 1048576)))] fun G => b7 (N4 G (fun h0 q0 => ?_) fun h0 q0 => ?_)))))
  ·
   refine wp_skip (b7 (wp_seq (k8 G (s4 1 [0] (aB1 c)) [0, 9, 10, 11, 17] [dY c, .row 3 (D.ints (m0 c).vars), .row 3 (D.ints (m0 c).arrays), .tree (D.stmts (m0 c).body), .box [.ref 1, .ref 2, .tref 3]] [(2, bA false), (3, .ptr 4 0)] fun G => b7 (wp_seq (k8 G (s4 1 [1, 2, 3] (i9.lend (aZ5 (m0 c) (cd3 hsz (by omega))) [.row 3, .row 3, .tree])) [0, 1, 2, 3, 4, 13, 14, 15, 45] (dY c :: .row 3 (D.ints (m0 c).vars) :: .row 3 (D.ints (m0 c).arrays) :: .tree (D.stmts (m0 c).body) :: .box [.ref 1, .ref 2, .tref 3] :: (C0 c [])) (E6 c []) fun G => b7 (wp_seq ?_)))))); obtain ⟨ρ, G⟩ := G.frz [.no, .row 3] (dY c :: dI (m0 c).vars :: .row 3 (D.ints (m0 c).arrays) :: .tree (D.stmts (m0 c).body) :: .box [.ref 1, .ref 2, .tref 3] :: (C0 c [])) (E6 c []); obtain ⟨ρ, G⟩ := G.frz [.no, .no, .row 3] (dY c :: dI (m0 c).vars :: dI (m0 c).arrays :: .tree (D.stmts (m0 c).body) :: .box [.ref 1, .ref 2, .tref 3] :: (C0 c [])) (E6 c []); obtain ⟨ρ, G⟩ := G.frz [.no, .no, .no, .tree] (dY c :: dI (m0 c).vars :: dI (m0 c).arrays :: dT (m0 c).body :: .box (pL 1) :: (C0 c [])) (E6 c []); refine k8 G (s4 1 [1, 2, 3] (a85 (m0 c) (cd3 hsz (by omega)))) [0, 1, 2, 3, 4, 5, 6, 7, 8, 17, 18, 19, 49] (dY c :: dI (m0 c).vars :: dI (m0 c).arrays :: dT (m0 c).body :: .box (pL 1) :: (C0 c [dI (A1 (m0 c)).vars, dI (A1 (m0 c)).arrays, dT (A1 (m0 c)).body, .box (pL 9)])) (E6 c [(6, .ptr 12 0), (7, bA (Z9 (m0 c)))]) fun G => b7 (wp_seq (wp_seq ?_)); cases h1 : (!(decide ((A1 (m0 c)).vars = (A1 (m0 c)).vars) && (decide ((A1 (m0 c)).arrays = (A1 (m0 c)).arrays) && p6 (A1 (m0 c)).body (A1 (m0 c)).body)))
   ·
    have q1 : ((A1 (m0 c)).vars = (A1 (m0 c)).vars) ∧ (((A1 (m0 c)).arrays = (A1 (m0 c)).arrays) ∧ ((p6 (A1 (m0 c)).body (A1 (m0 c)).body) = true)) := (fun hq => And.imp (fun hq => of_decide_eq_true hq) (fun hq => And.imp (fun hq => of_decide_eq_true hq) (fun hq => (hq)) (cd5.1 hq)) (cd5.1 hq)) (Eq.mp (cc4 _) h1); refine C9 G (t4 (l8 6 [5, 6, 7, 9, 10, 11] (i9.lend (aj7 ((A1 (m0 c)).vars) ((A1 (m0 c)).arrays) ((A1 (m0 c)).body) ((A1 (m0 c)).vars) ((A1 (m0 c)).arrays) ((A1 (m0 c)).body)) [.row 3, .row 3, .tree]) t3) (fc (a := !Z9 (m0 c) == Z9 (m0 c)) (b := false) (by simp [h0, h1]) (fc h1 fz)) (us [(4, 7, 0), (1008, 1008, 0), (10, 11, 1), (1012, 1012, 1)])) (E6 c [(6, .ptr 12 0), (7, bA (Z9 (m0 c))), (37, .v (.bool !Z9 (m0 c)))]) fun G => b7 ?_; cases h2 : (!Z9 (m0 c))
    ·
     have q2 : (Z9 (m0 c)) = true := (Eq.mp (cc4 _) h2)
     have hok : Z9 (m0 c) = true := by with_reducible assumption
     have hlf := bq6 hok; have hc9 : (ctR ⟨(A1 (m0 c)).vars, (A1 (m0 c)).arrays, (A1 (m0 c)).body⟩).1 = 0 := hlf.1; refine rF G _ h2 (wp_skip (b7 (wp_seq (k8 G (s4 1 [5, 6, 7] (i9.lend (bG5 ((A1 (m0 c)).vars) ((A1 (m0 c)).arrays) ((A1 (m0 c)).body) (by assumption)) [.row 3, .row 3, .tree])) (rg 9) (dY c :: dI (m0 c).vars :: dI (m0 c).arrays :: dT (m0 c).body :: .box (pL 1) :: (C0 c [])) [(2, bA false), (3, .ptr 4 0), (4, .ptr 8 0), (8, iA (ctR (d7.mk (A1 (m0 c)).vars (A1 (m0 c)).arrays (A1 (m0 c)).body)).fst)] fun G => b7 (wp_seq ?_))))); cases h3 : ((ctR (d7.mk (A1 (m0 c)).vars (A1 (m0 c)).arrays (A1 (m0 c)).body)).fst == 0)
     · have q3 := ne_of_beq_false h3; exact False.elim (by have h9 := hc9; omega)
     · have q3 := eq_of_beq h3; refine N3 G (t4 (l8 2 [1, 2, 3, 5, 6, 7] (i9.lend (aZ6 ((m0 c).vars) ((m0 c).arrays) ((A1 (m0 c)).arrays) ((A1 (m0 c)).vars) ((m0 c).body) ((A1 (m0 c)).body) hlf.2.2.2.2.2.1 hlf.2.1 hlf.2.2.1 hlf.2.2.2.1 hlf.2.2.2.2.1) [.no, .no, .no, .row 3, .row 3, .tree]) (l8 9 [1, 2, 3] (a78 ((m0 c).vars) ((m0 c).arrays) ((m0 c).body) (by assumption)) (l8 11 [5, 6, 7] (i9.lend (a78 ((A1 (m0 c)).vars) ((A1 (m0 c)).arrays) ((A1 (m0 c)).body) (by assumption)) [.row 3, .row 3, .tree]) t3))) (fc (b := true) rfl (fc h3 fz)) (us [(4, 5, 0), (1006, 1006, 0), (8, 12, 1), (1013, 1013, 1)])) [0, 0, 3, 7, 15, 31, 63, 127, 255, 511, 255, 2047, 4095, 8191, 16383] [0] [dY c] [(2, bA (T8 (d7.mk (m0 c).vars (m0 c).arrays (m0 c).body) == T8 (d7.mk (A1 (m0 c)).vars (A1 (m0 c)).arrays (A1 (m0 c)).body)))] fun G => b7 (wp_ret ?_); exact A8 (T8 (d7.mk (m0 c).vars (m0 c).arrays (m0 c).body) == T8 (d7.mk (A1 (m0 c)).vars (A1 (m0 c)).arrays (A1 (m0 c)).body)) G [0] (bM4 hlf.2.2.2.2.2.2)
    · have q2 : (Z9 (m0 c)) = false := (Eq.mp (cc3 _) h2); refine rT G _ h2 (wp_seq (k8 G (t4 (l8 6 [5, 6, 7, 9, 10, 11] (i9.lend (aj7 ((A1 (m0 c)).vars) ((A1 (m0 c)).arrays) ((A1 (m0 c)).body) ((A1 (m0 c)).vars) ((A1 (m0 c)).arrays) ((A1 (m0 c)).body)) [.row 3, .row 3, .tree]) t3) (fc (a := Z9 (m0 c) == Z9 (m0 c)) (b := true) (by rw [q2]; rfl) fz) [(4, 0), (5, 0), (6, 0), (1007, 0)]) (rg 9) (dY c :: dI (m0 c).vars :: dI (m0 c).arrays :: dT (m0 c).body :: .box (pL 1) :: (C0 c [])) [(2, bA (decide ((A1 (m0 c)).vars = (A1 (m0 c)).vars) && (decide ((A1 (m0 c)).arrays = (A1 (m0 c)).arrays) && p6 (A1 (m0 c)).body (A1 (m0 c)).body))), (3, .ptr 4 0), (4, .ptr 8 0)] fun G => b7 (wp_ret (l7 ?_)))); exact A8 (decide ((A1 (m0 c)).vars = (A1 (m0 c)).vars) && (decide ((A1 (m0 c)).arrays = (A1 (m0 c)).arrays) && p6 (A1 (m0 c)).body (A1 (m0 c)).body)) G [0] ((bj3 _).symm)
   · have q1 : (¬ ((A1 (m0 c)).vars = (A1 (m0 c)).vars)) ∨ ((¬ ((A1 (m0 c)).arrays = (A1 (m0 c)).arrays)) ∨ ((p6 (A1 (m0 c)).body (A1 (m0 c)).body) = false)) := (fun hq => Or.imp (fun hq => of_decide_eq_false hq) (fun hq => Or.imp (fun hq => of_decide_eq_false hq) (fun hq => (hq)) (cd2.1 hq)) (cd2.1 hq)) (Eq.mp (cc3 _) h1); exact False.elim (b10 _ (by with_reducible assumption))
  · refine wp_seq (l0 G d9 [(2, bA true)] fun G => b7 (wp_ret (l7 ?_))); exact F6 G [0]
theorem b72 (u : Value) (c : List UInt8) (w : World) (hp : Row w u c.length 1 (u8s c)) : Calls Tryz.prog 7 #[u] w fun e w' => e = .returned (.bool true) ∧ Below w.heap.size w w' :=
 bt0 (b63 c) u w (hp.rowF fun _ _ => trivial)
end Go.Proofs.YthikdkjjdeehoaaGreat.exLLinearize

namespace Go.Proofs.YthikdkjjdeehoaaGreat.exLLinearize
set_option linter.unusedVariables false
set_option linter.unusedSimpArgs false
open Go Go.RowKit Go.ChangeShapes Go.WideShapes Go.ChangeAt Go.Proofs.YthikdkjjdeehoaaGreat
theorem lifted (os : Os) (started : os.Started) (H : Type) (enc : TypeId × Value → H) :
  ReturnsInHanded {} Tryz.checked os 7 .any (Rows.fnLinearizeSpec.pre6 enc Tryz.prog Tryz.f7 Rows.fnLinearizeRow.domain false) (Rows.fnLinearizeSpec.post enc Tryz.prog Tryz.f7 false true false false) := by
 refine returnsInHanded_of_change (C := Tryz.checked) own started (by kernel_rfl) Tryz.func7
  (ChangeSpec.witness6 (enc := enc) (C := Tryz.checked) false ⟨#[], #[.slice none 0 0], []⟩ 8 (by kernel_rfl) (by kernel_rfl) (by kernel_rfl) (by kernel_rfl)) ?_
 intro W base args ds gs before hval0 hW hcnd _
 have hval : ∀ (j : Nat) t v, Tryz.f7.params[j]? = some t → args[j]? = some v → Value.okWide Tryz.prog W .any base t v := hval0
 have hW' := hW
 obtain ⟨p, q, hA0, hV, rfl, hfz, hnd⟩ := hW
 have hA : DataW.TrodAll enc Tryz.prog W 0 (fun _ => true) true Tryz.f7.params.toList args.toList ds p := hA0
 rw [Tryz.params7] at hA hval
 obtain ⟨v0, vs0, d0, ds0, p0, q0, hargs, rfl, rfl, h0, r0⟩ := trodAll_cons hA
 obtain ⟨rfl, rfl, rfl⟩ := trodAll_nil r0
 obtain rfl : args = #[v0] := by cases args; simp_all
 obtain ⟨rfl, rfl⟩ := trodVars_none hV
 have k0 := h0
 have lt0 : ∀ x ∈ p0, x.block < W.heap.size := by obtain ⟨m, hm⟩ := k0; exact DataW.trod_lt m _ _ _ hm
 obtain ⟨a0, len0, cap0, rfl⟩ := okWide_slice Tryz.underlying22 (hval 0 22 v0 rfl rfl)
 obtain ⟨x0, hx0⟩ : ∃ l : List UInt8, Row W (.slice a0 len0 cap0) l.length 1 (u8s l) := by
  obtain ⟨fuel, hf⟩ := h0
  exact aN8 Tryz.underlying22 hf
 clear hA0 hval0
 refine (b72 _ x0 W hx0).mono fun e W' ⟨he, bel⟩ => ?_
 subst he
 exact ⟨_, rfl, _, _, _, [], _, [], hW', trodAll_mk1 (shut_bool Tryz.underlying4 _), (trodAll_cons_mk (Below.trod bL0 (by kernel_rfl) (of_decide_eq_true (by kernel_rfl)) k0 bel lt0) trodAll_mk0), rfl, bel.frame _, fun h => by cases h⟩
theorem facts : joinedFacts Tryz.pinned.checked.prog 7 Tryz.f7 Rows.fnLinearizeSpec Rows.fnLinearizeRow = true := by
 unfold joinedFacts
 rw [may_enter, lifts_final, make_is]
 kernel_rfl
theorem over : Rows.fnLinearizeRow.holds Tryz.pinned (OpenSpec.ofChange Rows.fnLinearizeSpec) :=
 OpenClaim.holds_of_wide 7 Tryz.f7 rfl rfl rfl rfl rfl rfl rfl ⟨rfl, rfl, rfl, rfl, rfl⟩ rfl rfl rfl rfl rfl (by kernel_rfl) Tryz.func7 facts
  (of_decide_eq_true (by kernel_rfl)) (by unfold Func.isWrapper; first | (rw [if_pos (by decide +kernel)]; kernel_rfl) | (rw [if_neg (by decide +kernel)]; exact ⟨rfl, rfl⟩))
  (fun os started H enc _ => lifted os started H enc)
theorem proved : Rows.FnLinearizeSaid := over
end Go.Proofs.YthikdkjjdeehoaaGreat.exLLinearize
