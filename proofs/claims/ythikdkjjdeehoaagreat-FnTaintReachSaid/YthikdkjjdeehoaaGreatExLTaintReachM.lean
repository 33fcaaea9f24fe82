/-
  LTaintReach: the statement, whatever the argument. Conditions: none beyond the statement's own.
-/
import Derived.Test.YthikdkjjdeehoaaGreatK1
import Derived.Test.YthikdkjjdeehoaaGreatK2
import Derived.Test.YthikdkjjdeehoaaGreatK3
import Derived.Test.YthikdkjjdeehoaaGreatK4
import Derived.Test.YthikdkjjdeehoaaGreatK5
import Derived.Test.YthikdkjjdeehoaaGreatK6
import Derived.Test.YthikdkjjdeehoaaGreatK7
import Derived.Test.YthikdkjjdeehoaaGreatEnter1M
import Derived.Test.YthikdkjjdeehoaaGreatEnter2M
import Derived.Test.YthikdkjjdeehoaaGreatEnter3M
set_option maxRecDepth 100000
set_option maxHeartbeats 16000000
set_option linter.unusedVariables false
set_option linter.unusedSimpArgs false
open Bool renaming not_eq_false' → cj6, not_eq_true' → ci9
open True renaming intro → ci3
namespace Go.Proofs.YthikdkjjdeehoaaGreat.exLTaintReach
open Go Go.RowKit Go.Proofs.YthikdkjjdeehoaaGreat
noncomputable section
theorem cg4 : ¬ ((!true) = true) := by decide
theorem cb3 {c : f7} (h : X8 c = true) : (J3 c).length = c.list.length ∧ (H3 c).length = c.list.length := ⟨ba1 h, bH9 h⟩
theorem b19 {c : f7} {k : Nat} (h : X8 c = true) (h3 : (!(H3 c).getD k false == decide ((((J3 c).getD k []).length : Int) > 0)) = true) (hk : k < (J3 c).length) : False := by
 rw [b20 h hk] at h3
 simp at h3
theorem cb4 {c : f7} (h : X8 c = true) : true = (((J3 c).length : Int) == (c.list.length : Int)) := by
 rw [ba1 h]; simp
section
variable (c : f7)
abbrev cdS : List It := [dI c.vars, dI c.arrays, .dat (.instrs c.list)]
theorem bZ5 : j8.ok Tryz.prog ⟨46, [pA 0], cdS c, cdS c ++ [.dat (.brows (J3 c))], .tup [.ref 3, bA (X8 c)]⟩ := bA6 fun u w h => aB7 u _ w h
theorem bZ4 : j8.ok Tryz.prog ⟨47, [pA 0], cdS c, cdS c ++ [.dat (.brows (J3 c))], .tup [.ref 3, bA (X8 c)]⟩ := bA6 fun u w h => aA9 u _ w h
theorem bG3 : j8.ok Tryz.prog ⟨49, [pA 0], cdS c, cdS c ++ [.dat (.bools (H3 c))], .ref 3⟩ := bG8 fun u w h => aq0 u _ w h
end
theorem bt1 (xs : List Bool) : j8.ok Tryz.prog (V8 106 [.ref 0, .ref 1] [.dat (.bools xs), .dat (.bools xs)] (bA true)) := by
 refine E2 26 Tryz.func106 [dB xs, dB xs] [(0, .ref 0), (1, .ref 1)] fun G => ?_; have hl : xs.length ≤ 9223372036854775807 := G.len 0 (d := .bools xs) (by kernel_rfl); refine wp_seq (C6 G d9 [(0, .ref 0), (1, .ref 1), (4, bA false)] fun G => b6 (wp_seq (wp_seq (k8 G d9 [(10, bA ((xs.length : Int) != (xs.length : Int)))] fun G => b6 (rF G ((xs.length : Int) != (xs.length : Int)) (by simp) (wp_skip (b6 (wp_seq (wp_seq (C6 G d9 [(0, .ref 0), (1, .ref 1), (4, bA false), (5, iA 0)] fun G => b6 (wp_block ?_))))))))))); refine s6 (κ := Nat) (fun k => k ≤ xs.length) (fun k => xs.length - k) (fun k => [dB xs, dB xs]) (fun k => [(0, .ref 0), (1, .ref 1), (4, bA false), (5, iA k)]) 0 (by omega) (t4.at G _ _) ?_; clear G; intro k ρ a w hp G; refine wp_seq (wp_seq (k8 G d9 [(14, bA (decide ((k : Int) < xs.length)))] fun G => b6 (Z6 G (fun h0 q0 => ?_) fun h0 q0 => ?_)))
 ·refine wp_exit (r7 (r7 (p6 (b6 (wp_seq (k8 G d9 [(4, bA true)] fun G => b6 (wp_ret ?_))))))); exact K2 G [0, 1]
 ·refine wp_skip (b6 (wp_seq (wp_block (wp_seq (ac9 G d9 [0, 0, 3, 7, 0, 0, 48, 112, 255] [(25, .v (.bool !xs.getD k false == xs.getD k false))] (iX k k xs.length (iX k k xs.length [])) (iK (by omega) (iK (by omega) ci3)) fun G => b6 (rF G (!xs.getD k false == xs.getD k false) (by simp [h0]) (wp_skip (k6 (b6 (D0 G d9 [(5, iA ((k : Int) + 1))] [wO ((k : Int) + 1)] (o1 (by omega)) fun G => b6 ?_)))))))))); exact H9 G (k + 1) (by omega) (by omega) [0, 1]
theorem a82 (m : List (List Bool)) : j8.ok Tryz.prog (V8 48 [.ref 0, .ref 1] [.dat (.brows m), .dat (.brows m)] (bA true)) := by
 refine E2 27 Tryz.func48 [.dat (D.brows m), .dat (D.brows m)] [(0, .ref 0), (1, .ref 1)] fun G => ?_; have hl : m.length ≤ 9223372036854775807 := G.len 0 (d := .brows m) (by kernel_rfl); refine wp_seq (C6 G d9 [(0, .ref 0), (1, .ref 1), (4, bA false)] fun G => b6 (wp_seq (wp_seq (k8 G d9 [(10, bA ((m.length : Int) != (m.length : Int)))] fun G => b6 (rF G ((m.length : Int) != (m.length : Int)) (by simp) (wp_skip (b6 (wp_seq (wp_seq (C6 G d9 [(0, .ref 0), (1, .ref 1), (4, bA false), (5, iA 0)] fun G => b6 (wp_block ?_))))))))))); refine s6 (κ := Nat) (fun k => k ≤ m.length) (fun k => m.length - k) (fun k => [.dat (D.brows m), .dat (D.brows m)]) (fun k => [(0, .ref 0), (1, .ref 1), (4, bA false), (5, iA k)]) 0 (by omega) (t4.at G _ _) ?_; clear G; intro k ρ a w hp G; refine wp_seq (wp_seq (k8 G d9 [(14, bA (decide ((k : Int) < m.length)))] fun G => b6 (Z6 G (fun h0 q0 => ?_) fun h0 q0 => ?_)))
 ·refine wp_exit (r7 (r7 (p6 (b6 (wp_seq (k8 G d9 [(4, bA true)] fun G => b6 (wp_ret ?_))))))); exact K2 G [0, 1]
 ·refine wp_skip (b6 (wp_seq (wp_block (wp_seq (ac9 G (s7 8 [26, 58] (bt1 (m.getD k []))) [0, 0, 3, 7, 0, 0, 48, 112, 255, 511] [(26, bA false)] (iX k k m.length (iX k k m.length [])) (iK (by omega) (iK (by omega) ci3)) fun G => b6 (rF G false (by kernel_rfl) (wp_skip (k6 (b6 (D0 G d9 [(5, iA ((k : Int) + 1))] [wO ((k : Int) + 1)] (o1 (by omega)) fun G => b6 ?_)))))))))); exact H9 G (k + 1) (by omega) (by omega) [0, 1]
abbrev H7 (c : List UInt8) (r0 : List It) : List It := dY c :: dI (y9 c).vars :: dI (y9 c).arrays :: dN (y9 c).list :: .box (pL 1) :: .dat (D.brows (J3 (y9 c))) :: r0
theorem b99 (c : List UInt8) : j8.ok Tryz.prog ⟨11, [.ref 0], [dY c], [dY c], bA true⟩ := by
  refine E2 71 Tryz.func11 [dY c] [(0, .ref 0)] fun G => ?_; have hsz := bY3 c; refine wp_seq (k8 G d9 [(2, bA false)] fun G => b6 (wp_seq (wp_seq (k8 G d9 [(12, bA (decide ((c.length : Int) > 1048576)))] fun G => b6 (Z6 G (fun h0 q0 => ?_) fun h0 q0 => ?_)))))
  ·
   refine wp_skip (b6 (wp_seq (j7 G (s7 1 [0] (bG5 c)) [0, 9, 10, 11, 17] [dY c, .row 3 (D.ints (y9 c).vars), .row 3 (D.ints (y9 c).arrays), .row 86 (D.instrs (y9 c).list), .box (pL 1)] [(2, bA false), (3, .ptr 4 0)] fun G => b6 (wp_seq ?_)))); obtain ⟨ρ, G⟩ := G.frz [.no, .row 3, .row 3, .row 86] [dY c, dI (y9 c).vars, dI (y9 c).arrays, dN (y9 c).list, .box (pL 1)] [(2, bA false), (3, .ptr 4 0)]; refine j7 G (s7 1 [1, 2, 3] (bZ5 (y9 c))) [0, 1, 2, 3, 4, 13] (H7 c []) [(2, bA false), (3, .ptr 4 0), (4, .ref 5), (5, bA (X8 (y9 c)))] fun G => b6 (wp_seq (j7 G (s7 1 [1, 2, 3] (bZ4 (y9 c))) [0, 1, 2, 3, 4, 5, 14] (H7 c [.dat (D.brows (J3 (y9 c)))]) [(2, bA false), (3, .ptr 4 0), (4, .ref 5), (5, bA (X8 (y9 c))), (6, .ref 6), (7, bA (X8 (y9 c)))] fun G => b6 (wp_seq (wp_seq (k8 G (E9 (t3 6 [5, 6] (a82 (J3 (y9 c))) E8) (fc (a := !X8 (y9 c) == X8 (y9 c)) (b := false) (by simp [h0]) (fc (b := false) rfl fz)) (us [(4, 7, 0), (1008, 1008, 0), (10, 11, 1), (1012, 1012, 1)])) [(37, .v (.bool !X8 (y9 c)))] fun G => b6 ?_))))); cases h1 : (!X8 (y9 c))
   ·
    have q1 : (X8 (y9 c)) = true := (Eq.mp (cj6 _) h1); refine rF G _ h1 (wp_skip (b6 (wp_seq (j7 G (s7 1 [1, 2, 3] (bG3 (y9 c))) [0, 1, 2, 3, 4, 5, 15] (H7 c [dB (H3 (y9 c))]) [(2, bA false), (3, .ptr 4 0), (4, .ref 5), (8, .ref 6)] fun G => b6 (wp_seq (wp_seq (C6 G d9 [(2, bA false), (3, .ptr 4 0), (4, .ref 5), (8, .ref 6), (9, iA 0)] fun G => b6 (wp_block ?_)))))))); refine s6 (κ := Nat) (fun k => k ≤ (J3 (y9 c)).length) (fun k => (J3 (y9 c)).length - k) (fun k => (H7 c [dB (H3 (y9 c))])) (fun k => [(2, bA false), (3, .ptr 4 0), (4, .ref 5), (8, .ref 6), (9, iA k)]) 0 (by omega) (t4.at G _ _) ?_; clear G; intro k ρ a w hp G; have hq := cb3 (c := y9 c) (by assumption); have hq3 := b18 (c := y9 c); refine wp_seq (wp_seq (k8 G d9 [(51, bA (decide ((k : Int) < ((J3 (y9 c)).length : Int))))] fun G => b6 (Z6 G (fun h2 q2 => ?_) fun h2 q2 => ?_)))
    · refine wp_exit (r7 (r7 (p6 (b6 (wp_seq (j7 G d9 [0] [dY c] [(2, bA (((J3 (y9 c)).length : Int) == ((y9 c).list.length : Int)))] fun G => b6 (wp_ret ?_))))))); exact J0 (((J3 (y9 c)).length : Int) == ((y9 c).list.length : Int)) G [0] (cb4 (by with_reducible assumption))
    ·
     refine wp_skip (b6 (wp_seq (wp_block (wp_seq (bU7 G d9 [0, 0, 3, 7, 0, 0, 48, 112, 240, 496, 1023] [(2, bA false), (3, .ptr 4 0), (4, .ref 5), (8, .ref 6), (9, iA k), (64, .v (.bool !(H3 (y9 c)).getD k false == decide ((((J3 (y9 c)).getD k []).length : Int) > 0)))] (iX k k ((H3 (y9 c)).length) (iX k k ((J3 (y9 c)).length) [])) (iK (by omega) (iK (by omega) ci3)) fun G => b6 ?_))))); cases h3 : (!(H3 (y9 c)).getD k false == decide ((((J3 (y9 c)).getD k []).length : Int) > 0))
     · have q3 : ((H3 (y9 c)).getD k false == decide ((((J3 (y9 c)).getD k []).length : Int) > 0)) = true := (Eq.mp (cj6 _) h3); refine rF G _ h3 (wp_skip (k6 (b6 (D0 G d9 [(9, iA ((k : Int) + 1))] [wO ((k : Int) + 1)] (o1 (by omega)) fun G => b6 ?_)))); exact H9 G (k + 1) (by omega) (by omega) (rg 7)
     · have q3 : ((H3 (y9 c)).getD k false == decide ((((J3 (y9 c)).getD k []).length : Int) > 0)) = false := (Eq.mp (ci9 _) h3); exact False.elim (b19 (by with_reducible assumption) (by with_reducible assumption) (by omega))
   · have q1 : (X8 (y9 c)) = false := (Eq.mp (ci9 _) h1); refine rT G _ h1 (wp_seq (j7 G (E9 (t3 6 [5, 6] (a82 (J3 (y9 c))) E8) (fc (a := X8 (y9 c) == X8 (y9 c)) (b := true) (by rw [q1]; rfl) fz) [(4, 0), (5, 0), (6, 0), (1007, 0)]) (rg 6) (H7 c []) [(2, bA true), (3, .ptr 4 0), (4, .ref 5)] fun G => b6 (wp_ret (l4 ?_)))); exact K2 G [0]
  · refine wp_seq (k8 G d9 [(2, bA true)] fun G => b6 (wp_ret (l4 ?_))); exact K2 G [0]
theorem ca9 (u : Value) (c : List UInt8) (w : World) (hp : K3 w u c.length 1 (u8s c)) : Calls Tryz.prog 11 #[u] w fun e w' => e = .returned (.bool true) ∧ Below w.heap.size w w' :=
 bt2 (b99 c) u w (hp.rowF fun _ _ => trivial)
end
end Go.Proofs.YthikdkjjdeehoaaGreat.exLTaintReach

namespace Go.Proofs.YthikdkjjdeehoaaGreat.exLTaintReach
open Go Go.RowKit Go.ChangeShapes Go.WideShapes Go.ChangeAt Go.Proofs.YthikdkjjdeehoaaGreat
theorem lifted (os : Os) (started : os.Started) (H : Type) (enc : TypeId × Value → H) :
  ReturnsInHanded {} Tryz.checked os 11 .any (Rows.fnTaintReachSpec.pre6 enc Tryz.prog Tryz.f11 Rows.fnTaintReachRow.domain false) (Rows.fnTaintReachSpec.post enc Tryz.prog Tryz.f11 false true false false) := by
 refine returnsInHanded_of_change (C := Tryz.checked) own started (by kernel_rfl) Tryz.func11
  (ChangeSpec.witness6 (enc := enc) (C := Tryz.checked) false ⟨#[], #[.slice none 0 0], []⟩ 8 (by kernel_rfl) (by kernel_rfl) (by kernel_rfl) (by kernel_rfl)) ?_
 intro W base args ds gs before hval0 hW hcnd _
 have hval : ∀ (j : Nat) t v, Tryz.f11.params[j]? = some t → args[j]? = some v → Value.okWide Tryz.prog W .any base t v := hval0
 have hW' := hW
 obtain ⟨p, q, hA0, hV, rfl, hfz, hnd⟩ := hW
 have hA : DataW.TrodAll enc Tryz.prog W 0 (fun _ => true) true Tryz.f11.params.toList args.toList ds p := hA0
 rw [Tryz.params11] at hA hval
 obtain ⟨v0, vs0, d0, ds0, p0, q0, hargs, rfl, rfl, h0, r0⟩ := trodAll_cons hA
 obtain ⟨rfl, rfl, rfl⟩ := trodAll_nil r0
 obtain rfl : args = #[v0] := by cases args; simp_all
 obtain ⟨rfl, rfl⟩ := trodVars_none hV
 have k0 := h0
 have lt0 : ∀ x ∈ p0, x.block < W.heap.size := by obtain ⟨m, hm⟩ := k0; exact DataW.trod_lt m _ _ _ hm
 obtain ⟨a0, len0, cap0, rfl⟩ := okWide_slice Tryz.underlying22 (hval 0 22 v0 rfl rfl)
 obtain ⟨x0, hx0⟩ : ∃ l : List UInt8, K3 W (.slice a0 len0 cap0) l.length 1 (u8s l) := by
  obtain ⟨fuel, hf⟩ := h0
  exact aO3 Tryz.underlying22 hf
 clear hA0 hval0
 refine (ca9 _ x0 W hx0).mono fun e W' ⟨he, bel⟩ => ?_
 subst he
 exact ⟨_, rfl, _, _, _, [], _, [], hW', trodAll_mk1 (shut_bool Tryz.underlying4 _), (trodAll_cons_mk (Below.trod bM1 (by kernel_rfl) (of_decide_eq_true (by kernel_rfl)) k0 bel lt0) trodAll_mk0), rfl, bel.frame _, fun h => by cases h⟩
theorem facts : joinedFacts Tryz.pinned.checked.prog 11 Tryz.f11 Rows.fnTaintReachSpec Rows.fnTaintReachRow = true := by
 unfold joinedFacts
 rw [may_enter, lifts_final, make_is]
 kernel_rfl
theorem over : Rows.fnTaintReachRow.holds Tryz.pinned (OpenSpec.ofChange Rows.fnTaintReachSpec) :=
 OpenClaim.holds_of_wide 11 Tryz.f11 rfl rfl rfl rfl rfl rfl rfl ⟨rfl, rfl, rfl, rfl, rfl⟩ rfl rfl rfl rfl rfl (by kernel_rfl) Tryz.func11 facts
  (of_decide_eq_true (by kernel_rfl)) (by unfold Func.isWrapper; first | (rw [if_pos (by decide +kernel)]; kernel_rfl) | (rw [if_neg (by decide +kernel)]; exact ⟨rfl, rfl⟩))
  (fun os started H enc _ => lifted os started H enc)
theorem proved : Rows.FnTaintReachSaid := over
end Go.Proofs.YthikdkjjdeehoaaGreat.exLTaintReach
