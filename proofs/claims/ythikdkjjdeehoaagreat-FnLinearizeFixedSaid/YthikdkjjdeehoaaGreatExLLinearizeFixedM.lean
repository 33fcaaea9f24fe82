/-
  LLinearizeFixed: the statement, whatever the argument. Conditions: none beyond the statement's own.
-/
import Derived.Test.YthikdkjjdeehoaaGreatK6
import Derived.Test.YthikdkjjdeehoaaGreatEnter1M
import Derived.Test.YthikdkjjdeehoaaGreatEnter2M
import Derived.Test.YthikdkjjdeehoaaGreatEnter3M
set_option maxRecDepth 100000
set_option maxHeartbeats 16000000
open Bool renaming and_eq_false_iff → ca4, and_eq_true_iff → ca6, not_eq_false' → b97, not_eq_true' → b95
open Nat renaming le_trans → ca7
namespace Go.Proofs.YthikdkjjdeehoaaGreat.exLLinearizeFixed
set_option linter.unusedVariables false
set_option linter.unusedSimpArgs false
open Go Go.RowKit Go.Proofs.YthikdkjjdeehoaaGreat
theorem bfl {b : Bool} (h : b = true) (h' : b = false) : False := by rw [h] at h'; cases h'
theorem b83 : ¬ ((!true) = true) := by decide
abbrev smB (p q : d7) : Bool := decide (p.vars = q.vars) && (decide (p.arrays = q.arrays) && n4 p.body q.body)
theorem bh6 (p : d7) : smB p p = true := by
 unfold smB
 rw [(E9 _ _).2 rfl]; simp
theorem bO3 (p : d7) : ¬ ((!smB p p) = true) := by
 rw [bh6]; decide
theorem bY3 {p q : d7} (h : p = q) : ¬ ((!smB p q) = true) := by rw [h]; exact bO3 q
theorem bu7 {p q : d7} (h : p = q) : true = smB p q := by rw [h]; exact (bh6 q).symm
abbrev S5 (c : List UInt8) : AV := bA (decide ((t3 (t3 (l0 c))).vars = (t3 (l0 c)).vars) && (decide ((t3 (t3 (l0 c))).arrays = (t3 (l0 c)).arrays) && n4 (t3 (t3 (l0 c))).body (t3 (l0 c)).body))
abbrev r8 (c : List UInt8) (r0 : List It) : List It := .row 3 (D.ints (t3 (l0 c)).vars) :: .row 3 (D.ints (t3 (l0 c)).arrays) :: .tree (D.stmts (t3 (l0 c)).body) :: r0
abbrev w3 (c : List UInt8) (r0 : List (Nat × AV)) : List (Nat × AV) := (2, bA false) :: (3, .ptr 4 0) :: (4, .ptr 8 0) :: (5, bA (Q9 (l0 c))) :: r0
theorem b36 (c : List UInt8) : k6.ok Tryz.prog ⟨8, [.ref 0], [dY c], [dY c], bA true⟩ := by
  refine A2 68 Tryz.func8 [dY c] [(0, .ref 0)] fun G => ?_; have hsz := bK6 c
  have hb : i5 (l0 c).body ≤ 1048576 := by unfold d7.size at hsz; omega
  have hlz := bT2 (l0 c)
  have hlb : i5 (t3 (l0 c)).body ≤ 1048576 := by unfold d7.size at hlz; omega
  have hA : (ctR (l0 c)).1 = 0 → Q9 (l0 c) = true ∧ t3 (l0 c) = l0 c := aJ0; have hA2 : (ctR ⟨(l0 c).vars, (l0 c).arrays, (l0 c).body⟩).1 = 0 → Q9 (l0 c) = true ∧ t3 (l0 c) = l0 c := aJ0; have hT : Q9 (l0 c) = true → Q9 (t3 (l0 c)) = true ∧ t3 (t3 (l0 c)) = t3 (l0 c) := bo7; refine wp_seq (l5 G d9 [(2, bA false)] fun G => b7 (wp_seq (wp_seq (l5 G d9 [(14, bA (decide ((c.length : Int) > 1048576)))] fun G => b7 (O0 G (fun h0 q0 => ?_) fun h0 q0 => ?_)))))
  ·
   refine wp_skip (b7 (wp_seq (k8 G (s6 1 [0] (aA8 c)) [0, 9, 10, 11, 17] [dY c, .row 3 (D.ints (l0 c).vars), .row 3 (D.ints (l0 c).arrays), .tree (D.stmts (l0 c).body), .box [.ref 1, .ref 2, .tref 3]] [(2, bA false), (3, .ptr 4 0)] fun G => b7 (wp_seq (k8 G (s6 1 [1, 2, 3] (k6.lend (ae5 (l0 c) (ca7 hsz (by omega))) [.row 3, .row 3, .tree])) [0, 1, 2, 3, 4, 13, 14, 15, 45] (dY c :: .row 3 (D.ints (l0 c).vars) :: .row 3 (D.ints (l0 c).arrays) :: .tree (D.stmts (l0 c).body) :: .box [.ref 1, .ref 2, .tref 3] :: (r8 c [.box [.ref 5, .ref 6, .tref 7]])) (w3 c []) fun G => b7 (wp_seq ?_)))))); obtain ⟨ρ, G⟩ := G.frz [.no, .row 3] (dY c :: dI (l0 c).vars :: .row 3 (D.ints (l0 c).arrays) :: .tree (D.stmts (l0 c).body) :: .box [.ref 1, .ref 2, .tref 3] :: (r8 c [.box [.ref 5, .ref 6, .tref 7]])) (w3 c []); obtain ⟨ρ, G⟩ := G.frz [.no, .no, .row 3] (dY c :: dI (l0 c).vars :: dI (l0 c).arrays :: .tree (D.stmts (l0 c).body) :: .box [.ref 1, .ref 2, .tref 3] :: (r8 c [.box [.ref 5, .ref 6, .tref 7]])) (w3 c []); obtain ⟨ρ, G⟩ := G.frz [.no, .no, .no, .tree] (dY c :: dI (l0 c).vars :: dI (l0 c).arrays :: dT (l0 c).body :: .box (pL 1) :: (r8 c [.box [.ref 5, .ref 6, .tref 7]])) (w3 c []); refine k8 G (s6 1 [1, 2, 3] (a69 (l0 c) (ca7 hsz (by omega)))) [0, 1, 2, 3, 4, 5, 6, 7, 8, 17, 18, 19, 49] (dY c :: dI (l0 c).vars :: dI (l0 c).arrays :: dT (l0 c).body :: .box (pL 1) :: (r8 c [.box [.ref 5, .ref 6, .tref 7], dI (t3 (l0 c)).vars, dI (t3 (l0 c)).arrays, dT (t3 (l0 c)).body, .box (pL 9)])) (w3 c [(6, .ptr 12 0), (7, bA (Q9 (l0 c)))]) fun G => b7 (wp_seq (wp_seq (k8 G (t6 (l8 6 [5, 6, 7, 9, 10, 11] (k6.lend (N6 ((t3 (l0 c)).vars) ((t3 (l0 c)).arrays) ((t3 (l0 c)).body) ((t3 (l0 c)).vars) ((t3 (l0 c)).arrays) ((t3 (l0 c)).body)) [.row 3, .row 3, .tree]) t5) (fc (a := !Q9 (l0 c) == Q9 (l0 c)) (b := false) (by simp [h0]) fz) (us [(4, 7, 0), (1008, 1008, 0)])) (rg 9) (dY c :: dI (l0 c).vars :: dI (l0 c).arrays :: dT (l0 c).body :: .box (pL 1) :: (r8 c [.box [.ref 5, .ref 6, .tref 7]])) (w3 c [(35, .v (.bool !(decide ((t3 (l0 c)).vars = (t3 (l0 c)).vars) && (decide ((t3 (l0 c)).arrays = (t3 (l0 c)).arrays) && n4 (t3 (l0 c)).body (t3 (l0 c)).body))))]) fun G => b7 ?_))); cases h1 : (!(decide ((t3 (l0 c)).vars = (t3 (l0 c)).vars) && (decide ((t3 (l0 c)).arrays = (t3 (l0 c)).arrays) && n4 (t3 (l0 c)).body (t3 (l0 c)).body)))
   ·
    have q1 : ((t3 (l0 c)).vars = (t3 (l0 c)).vars) ∧ (((t3 (l0 c)).arrays = (t3 (l0 c)).arrays) ∧ ((n4 (t3 (l0 c)).body (t3 (l0 c)).body) = true)) := (fun hq => And.imp (fun hq => of_decide_eq_true hq) (fun hq => And.imp (fun hq => of_decide_eq_true hq) (fun hq => (hq)) (ca6.1 hq)) (ca6.1 hq)) (Eq.mp (b97 _) h1); refine rF G _ h1 (wp_skip (b7 (wp_seq (C9 G (s6 1 [1, 2, 3] (bE6 ((l0 c).vars) ((l0 c).arrays) ((l0 c).body) (by assumption))) (w3 c [(8, iA (ctR (d7.mk (l0 c).vars (l0 c).arrays (l0 c).body)).fst)]) fun G => b7 (wp_seq (wp_seq ?_)))))); cases h2 : ((ctR (d7.mk (l0 c).vars (l0 c).arrays (l0 c).body)).fst == 0)
    ·
     have q2 := ne_of_beq_false h2; refine k8 G (O2 (fc h2 fz) [(3, 0), (4, 0), (5, 0), (10, 0), (1011, 0)]) [0, 5, 6, 7, 8] (dY c :: (r8 c [.box [.ref 1, .ref 2, .tref 3]])) [(2, bA false), (4, .ptr 4 0), (5, bA (Q9 (l0 c))), (52, bA false)] fun G => b7 (rF G false (by kernel_rfl) (wp_skip (b7 (wp_seq (k8 G (s6 1 [1, 2, 3] (k6.lend (ae5 (t3 (l0 c)) (ca7 hlz (by omega))) [.row 3, .row 3, .tree])) [0, 1, 2, 3, 4, 13, 14, 15, 45] (dY c :: (r8 c [.box [.ref 1, .ref 2, .tref 3], .row 3 (D.ints (t3 (t3 (l0 c))).vars), .row 3 (D.ints (t3 (t3 (l0 c))).arrays), .tree (D.stmts (t3 (t3 (l0 c))).body), .box [.ref 5, .ref 6, .tref 7]])) [(2, bA false), (4, .ptr 4 0), (5, bA (Q9 (l0 c))), (10, .ptr 8 0), (11, bA (Q9 (t3 (l0 c))))] fun G => b7 (wp_seq ?_)))))); cases h3 : (!Q9 (l0 c))
     ·
      have q3 : (Q9 (l0 c)) = true := (Eq.mp (b97 _) h3); cases h4 : (Q9 (t3 (l0 c)))
      · exact False.elim (bfl (hT (by with_reducible assumption)).1 (by with_reducible assumption))
      · refine k8 G (t6 (l8 7 [5, 6, 7, 1, 2, 3] (k6.lend (N6 ((t3 (t3 (l0 c))).vars) ((t3 (t3 (l0 c))).arrays) ((t3 (t3 (l0 c))).body) ((t3 (l0 c)).vars) ((t3 (l0 c)).arrays) ((t3 (l0 c)).body)) [.row 3, .row 3, .tree, .row 3, .row 3, .tree]) t5) (fc h3 (fc h4 fz)) [(3, 0), (4, 0), (5, 1), (6, 1), (7, 1), (8, 0), (1008, 1), (1009, 0)]) [0] [dY c] [(2, S5 c)] fun G => b7 (wp_ret ?_); exact B5 (decide ((t3 (t3 (l0 c))).vars = (t3 (l0 c)).vars) && (decide ((t3 (t3 (l0 c))).arrays = (t3 (l0 c)).arrays) && n4 (t3 (t3 (l0 c))).body (t3 (l0 c)).body)) G [0] (bu7 (hT (by with_reducible assumption)).2)
     · have q3 : (Q9 (l0 c)) = false := (Eq.mp (b95 _) h3); refine k8 G (O2 (fc h3 fz) [(3, 0), (4, 0), (8, 0), (1009, 0)]) [0] [dY c] [(2, bA true)] fun G => b7 (wp_ret ?_); exact F2 G [0]
    ·
     have q2 := eq_of_beq h2; cases h5 : (!Q9 (l0 c))
     ·
      have q5 : (Q9 (l0 c)) = true := (Eq.mp (b97 _) h5); refine k8 G (t6 (l8 8 [5, 6, 7, 1, 2, 3] (k6.lend (N6 ((t3 (l0 c)).vars) ((t3 (l0 c)).arrays) ((t3 (l0 c)).body) ((l0 c).vars) ((l0 c).arrays) ((l0 c).body)) [.row 3, .row 3, .tree]) t5) (fc h2 (fc h5 fz)) (us [(3, 5, 0), (6, 9, 1), (10, 10, 0), (1010, 1010, 1), (1011, 1011, 0)])) [0, 5, 6, 7, 8] (dY c :: (r8 c [.box [.ref 1, .ref 2, .tref 3]])) [(2, bA false), (4, .ptr 4 0), (5, bA (Q9 (l0 c))), (52, .v (.bool !(decide ((t3 (l0 c)).vars = (l0 c).vars) && (decide ((t3 (l0 c)).arrays = (l0 c).arrays) && n4 (t3 (l0 c)).body (l0 c).body))))] fun G => b7 ?_; cases h6 : (!(decide ((t3 (l0 c)).vars = (l0 c).vars) && (decide ((t3 (l0 c)).arrays = (l0 c).arrays) && n4 (t3 (l0 c)).body (l0 c).body)))
      ·
       have q6 : ((t3 (l0 c)).vars = (l0 c).vars) ∧ (((t3 (l0 c)).arrays = (l0 c).arrays) ∧ ((n4 (t3 (l0 c)).body (l0 c).body) = true)) := (fun hq => And.imp (fun hq => of_decide_eq_true hq) (fun hq => And.imp (fun hq => of_decide_eq_true hq) (fun hq => (hq)) (ca6.1 hq)) (ca6.1 hq)) (Eq.mp (b97 _) h6); refine rF G _ h6 (wp_skip (b7 (wp_seq (k8 G (s6 1 [1, 2, 3] (k6.lend (ae5 (t3 (l0 c)) (ca7 hlz (by omega))) [.row 3, .row 3, .tree])) [0, 1, 2, 3, 4, 13, 14, 15, 45] (dY c :: (r8 c [.box [.ref 1, .ref 2, .tref 3], .row 3 (D.ints (t3 (t3 (l0 c))).vars), .row 3 (D.ints (t3 (t3 (l0 c))).arrays), .tree (D.stmts (t3 (t3 (l0 c))).body), .box [.ref 5, .ref 6, .tref 7]])) [(2, bA false), (4, .ptr 4 0), (5, bA (Q9 (l0 c))), (10, .ptr 8 0), (11, bA (Q9 (t3 (l0 c))))] fun G => b7 (wp_seq ?_))))); cases h7 : (Q9 (t3 (l0 c)))
       · exact False.elim (bfl (hT (hA2 (by omega)).1).1 (by with_reducible assumption))
       · refine k8 G (t6 (l8 7 [5, 6, 7, 1, 2, 3] (k6.lend (N6 ((t3 (t3 (l0 c))).vars) ((t3 (t3 (l0 c))).arrays) ((t3 (t3 (l0 c))).body) ((t3 (l0 c)).vars) ((t3 (l0 c)).arrays) ((t3 (l0 c)).body)) [.row 3, .row 3, .tree, .row 3, .row 3, .tree]) t5) (fc h5 (fc h7 fz)) [(3, 0), (4, 0), (5, 1), (6, 1), (7, 1), (8, 0), (1008, 1), (1009, 0)]) [0] [dY c] [(2, S5 c)] fun G => b7 (wp_ret ?_); exact B5 (decide ((t3 (t3 (l0 c))).vars = (t3 (l0 c)).vars) && (decide ((t3 (t3 (l0 c))).arrays = (t3 (l0 c)).arrays) && n4 (t3 (t3 (l0 c))).body (t3 (l0 c)).body)) G [0] (bu7 (hT (by with_reducible assumption)).2)
      · have q6 : (¬ ((t3 (l0 c)).vars = (l0 c).vars)) ∨ ((¬ ((t3 (l0 c)).arrays = (l0 c).arrays)) ∨ ((n4 (t3 (l0 c)).body (l0 c).body) = false)) := (fun hq => Or.imp (fun hq => of_decide_eq_false hq) (fun hq => Or.imp (fun hq => of_decide_eq_false hq) (fun hq => (hq)) (ca4.1 hq)) (ca4.1 hq)) (Eq.mp (b95 _) h6); exact False.elim (bY3 (hA2 (by omega)).2 (by with_reducible assumption))
     · have q5 : (Q9 (l0 c)) = false := (Eq.mp (b95 _) h5); exact False.elim (bfl (hA2 (by omega)).1 (by with_reducible assumption))
   · have q1 : (¬ ((t3 (l0 c)).vars = (t3 (l0 c)).vars)) ∨ ((¬ ((t3 (l0 c)).arrays = (t3 (l0 c)).arrays)) ∨ ((n4 (t3 (l0 c)).body (t3 (l0 c)).body) = false)) := (fun hq => Or.imp (fun hq => of_decide_eq_false hq) (fun hq => Or.imp (fun hq => of_decide_eq_false hq) (fun hq => (hq)) (ca4.1 hq)) (ca4.1 hq)) (Eq.mp (b95 _) h1); exact False.elim (bO3 _ (by with_reducible assumption))
  · refine wp_seq (l5 G d9 [(2, bA true)] fun G => b7 (wp_ret (l7 ?_))); exact F2 G [0]
theorem b45 (u : Value) (c : List UInt8) (w : World) (hp : Z9 w u c.length 1 (u8s c)) : Calls Tryz.prog 8 #[u] w fun e w' => e = .returned (.bool true) ∧ Below w.heap.size w w' :=
 br1 (b36 c) u w (hp.rowF fun _ _ => trivial)
end Go.Proofs.YthikdkjjdeehoaaGreat.exLLinearizeFixed

namespace Go.Proofs.YthikdkjjdeehoaaGreat.exLLinearizeFixed
set_option linter.unusedVariables false
set_option linter.unusedSimpArgs false
open Go Go.RowKit Go.ChangeShapes Go.WideShapes Go.ChangeAt Go.Proofs.YthikdkjjdeehoaaGreat
theorem lifted (os : Os) (started : os.Started) (H : Type) (enc : TypeId × Value → H) :
  ReturnsInHanded {} Tryz.checked os 8 .any (Rows.fnLinearizeFixedSpec.pre6 enc Tryz.prog Tryz.f8 Rows.fnLinearizeFixedRow.domain false) (Rows.fnLinearizeFixedSpec.post enc Tryz.prog Tryz.f8 false true false false) := by
 refine returnsInHanded_of_change (C := Tryz.checked) own started (by kernel_rfl) Tryz.func8
  (ChangeSpec.witness6 (enc := enc) (C := Tryz.checked) false ⟨#[], #[.slice none 0 0], []⟩ 8 (by kernel_rfl) (by kernel_rfl) (by kernel_rfl) (by kernel_rfl)) ?_
 intro W base args ds gs before hval0 hW hcnd _
 have hval : ∀ (j : Nat) t v, Tryz.f8.params[j]? = some t → args[j]? = some v → Value.okWide Tryz.prog W .any base t v := hval0
 have hW' := hW
 obtain ⟨p, q, hA0, hV, rfl, hfz, hnd⟩ := hW
 have hA : DataW.TrodAll enc Tryz.prog W 0 (fun _ => true) true Tryz.f8.params.toList args.toList ds p := hA0
 rw [Tryz.params8] at hA hval
 obtain ⟨v0, vs0, d0, ds0, p0, q0, hargs, rfl, rfl, h0, r0⟩ := trodAll_cons hA
 obtain ⟨rfl, rfl, rfl⟩ := trodAll_nil r0
 obtain rfl : args = #[v0] := by cases args; simp_all
 obtain ⟨rfl, rfl⟩ := trodVars_none hV
 have k0 := h0
 have lt0 : ∀ x ∈ p0, x.block < W.heap.size := by obtain ⟨m, hm⟩ := k0; exact DataW.trod_lt m _ _ _ hm
 obtain ⟨a0, len0, cap0, rfl⟩ := okWide_slice Tryz.underlying22 (hval 0 22 v0 rfl rfl)
 obtain ⟨x0, hx0⟩ : ∃ l : List UInt8, Z9 W (.slice a0 len0 cap0) l.length 1 (u8s l) := by
  obtain ⟨fuel, hf⟩ := h0
  exact aN2 Tryz.underlying22 hf
 clear hA0 hval0
 refine (b45 _ x0 W hx0).mono fun e W' ⟨he, bel⟩ => ?_
 subst he
 exact ⟨_, rfl, _, _, _, [], _, [], hW', trodAll_mk1 (shut_bool Tryz.underlying4 _), (trodAll_cons_mk (Below.trod bJ0 (by kernel_rfl) (of_decide_eq_true (by kernel_rfl)) k0 bel lt0) trodAll_mk0), rfl, bel.frame _, fun h => by cases h⟩
theorem facts : joinedFacts Tryz.pinned.checked.prog 8 Tryz.f8 Rows.fnLinearizeFixedSpec Rows.fnLinearizeFixedRow = true := by
 unfold joinedFacts
 rw [may_enter, lifts_final, make_is]
 kernel_rfl
theorem over : Rows.fnLinearizeFixedRow.holds Tryz.pinned (OpenSpec.ofChange Rows.fnLinearizeFixedSpec) :=
 OpenClaim.holds_of_wide 8 Tryz.f8 rfl rfl rfl rfl rfl rfl rfl ⟨rfl, rfl, rfl, rfl, rfl⟩ rfl rfl rfl rfl rfl (by kernel_rfl) Tryz.func8 facts
  (of_decide_eq_true (by kernel_rfl)) (by unfold Func.isWrapper; first | (rw [if_pos (by decide +kernel)]; kernel_rfl) | (rw [if_neg (by decide +kernel)]; exact ⟨rfl, rfl⟩))
  (fun os started H enc _ => lifted os started H enc)
theorem proved : Rows.FnLinearizeFixedSaid := over
end Go.Proofs.YthikdkjjdeehoaaGreat.exLLinearizeFixed
