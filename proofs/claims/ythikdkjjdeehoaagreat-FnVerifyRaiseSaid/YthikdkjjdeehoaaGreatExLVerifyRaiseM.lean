/-
  LVerifyRaise: the statement, whatever the argument. Conditions: none beyond the statement's own.
-/
import Derived.Test.YthikdkjjdeehoaaGreatK1
import Derived.Test.YthikdkjjdeehoaaGreatK2
import Derived.Test.YthikdkjjdeehoaaGreatK3
import Derived.Test.YthikdkjjdeehoaaGreatK4
import Derived.Test.YthikdkjjdeehoaaGreatK5
import Derived.Test.YthikdkjjdeehoaaGreatK6
import Derived.Test.YthikdkjjdeehoaaGreatK7
import Derived.Test.YthikdkjjdeehoaaGreatEnter1M
import Derived.Test.YthikdkjjdeehoaaGreatEnter2M
import Derived.Test.YthikdkjjdeehoaaGreatEnter3M
set_option maxRecDepth 100000
set_option maxHeartbeats 16000000
set_option linter.unusedVariables false
set_option linter.unusedSimpArgs false
open List renaming replicate → cg8
open True renaming intro → ci2
namespace Go.Proofs.YthikdkjjdeehoaaGreat.exLVerifyRaise
open Go Go.RowKit Go.Proofs.YthikdkjjdeehoaaGreat
theorem cg3 : ¬ ((!true) = true) := by decide
theorem aP3 (c : f7) : true = (((P4 (bq6 c)).1 == 0) == t6 (bq6 c)) := by
 cases h : t6 (bq6 c)
 ·rw [bZ4 h]; rfl
 ·obtain ⟨m, hm, e⟩ := bZ5 h
  rw [e, bz1 h hm]; rfl
theorem bb6 (v ar : List Int) (l : List d7) : true = (((P4 ⟨cg8 v.length 0, cg8 ar.length 0, l⟩).1 == 0) == t6 ⟨cg8 v.length 0, cg8 ar.length 0, l⟩) := aP3 ⟨v, ar, l⟩
abbrev C2 (c : List UInt8) := f7.mk (cg8 (A7 c).vars.length 0) (cg8 (A7 c).arrays.length 0) (A7 c).list
theorem b99 (c : List UInt8) : j8.ok Tryz.prog ⟨9, [.ref 0], [dY c], [dY c], bA true⟩ := by
 refine F5 50 Tryz.func9 [dY c] [(0, .ref 0)] fun G => ?_; have hsz := bY5 c; refine wp_seq (l0 G d9 [(2, bA false)] fun G => b6 (wp_seq (wp_seq (l0 G d9 [(11, bA (decide ((c.length : Int) > 1048576)))] fun G => b6 (rcD G (fun h0 q0 => ?_) fun h0 q0 => ?_)))))
 ·refine wp_skip (b6 (wp_seq (j7 G (r9 1 [0] (bH2 c)) [0, 9, 10, 11, 17] [dY c, .row 3 (D.ints (A7 c).vars), .row 3 (D.ints (A7 c).arrays), .row 86 (D.instrs (A7 c).list), .box (pL 1)] [(2, bA false), (3, .ptr 4 0)] fun G => b6 (wp_seq (N3 G d9 [0, 1, 3, 7, 0, 16, 48, 112, 0, 256, 1023, 0, 4095] [0, 3, 29, 61, 93] [dY c, .row 86 (D.instrs (A7 c).list), .row 3 (D.ints (cg8 (A7 c).vars.length 0)), .row 3 (D.ints (cg8 (A7 c).arrays.length 0)), .box [.ref 2, .ref 3, .ref 1]] [(2, bA false), (4, .ptr 4 0)] [((A7 c).vars.length : Int) = ((A7 c).vars.length : Int), (0 : Int) ≤ ((A7 c).vars.length : Int), (↑(8 : Nat) : Int) * ((A7 c).vars.length : Int) ≤ 281474976710656, ((A7 c).vars.length : Int) ≤ 9223372036854775807, ((.int .i64 (0 : Int)) : Value) = (.int .i64 (0 : Int)), ((A7 c).arrays.length : Int) = ((A7 c).arrays.length : Int), (0 : Int) ≤ ((A7 c).arrays.length : Int), (↑(8 : Nat) : Int) * ((A7 c).arrays.length : Int) ≤ 281474976710656, ((A7 c).arrays.length : Int) ≤ 9223372036854775807, ((.int .i64 (0 : Int)) : Value) = (.int .i64 (0 : Int))] ⟨(by kernel_rfl), (by omega), (by omega), (by omega), (by kernel_rfl), (by kernel_rfl), (by omega), (by omega), (by omega), (by kernel_rfl), ci2⟩ fun G => b6 (wp_seq (l0 G (r9 1 [2, 3, 1] (j8.lend (aX9 (cg8 (A7 c).vars.length 0) (cg8 (A7 c).arrays.length 0) ((A7 c).list)) [.row 3, .row 3, .row 86])) [(5, iA (P4 (C2 c)).fst), (6, iA (P4 (C2 c)).snd)] fun G => b6 (wp_seq (l0 G (r9 1 [2, 3, 1] (j8.lend (a78 (cg8 (A7 c).vars.length 0) (cg8 (A7 c).arrays.length 0) ((A7 c).list)) [.row 3, .row 3, .row 86])) [(7, iA (P4 (C2 c)).fst), (8, iA (P4 (C2 c)).snd)] fun G => b6 (wp_seq (j7 G (F4 (t3 12 [2, 3, 1] (j8.lend (aM6 (cg8 (A7 c).vars.length 0) (cg8 (A7 c).arrays.length 0) ((A7 c).list)) [.row 3, .row 3, .row 86]) F3) (fc (a := (P4 (f7.mk (cg8 (A7 c).vars.length (0 : Int)) (cg8 (A7 c).arrays.length (0 : Int)) (A7 c).list)).fst == (P4 (f7.mk (cg8 (A7 c).vars.length (0 : Int)) (cg8 (A7 c).arrays.length (0 : Int)) (A7 c).list)).fst) (b := true) (by simp [h0]) (fc (a := (P4 (f7.mk (cg8 (A7 c).vars.length (0 : Int)) (cg8 (A7 c).arrays.length (0 : Int)) (A7 c).list)).snd == (P4 (f7.mk (cg8 (A7 c).vars.length (0 : Int)) (cg8 (A7 c).arrays.length (0 : Int)) (A7 c).list)).snd) (b := true) (by simp [h0]) fz)) (us [(4, 6, 0), (1007, 1007, 0), (9, 13, 1), (1014, 1014, 1)])) [0] [dY c] [(2, bA (((P4 (C2 c)).fst == 0) == t6 (C2 c)))] fun G => b6 (wp_ret ?_)))))))))))); exact J1 (((P4 (f7.mk (cg8 (A7 c).vars.length 0) (cg8 (A7 c).arrays.length 0) (A7 c).list)).fst == 0) == t6 (f7.mk (cg8 (A7 c).vars.length 0) (cg8 (A7 c).arrays.length 0) (A7 c).list)) G [0] (bb6 _ _ _)
 ·refine wp_seq (l0 G d9 [(2, bA true)] fun G => b6 (wp_ret (l4 ?_))); exact N1 G [0]
theorem ca9 (u : Value) (c : List UInt8) (w : World) (hp : M0 w u c.length 1 (u8s c)) : Calls Tryz.prog 9 #[u] w fun e w' => e = .returned (.bool true) ∧ Below w.heap.size w w' :=
 bt7 (b99 c) u w (hp.rowF fun _ _ => trivial)
end Go.Proofs.YthikdkjjdeehoaaGreat.exLVerifyRaise

namespace Go.Proofs.YthikdkjjdeehoaaGreat.exLVerifyRaise
open Go Go.RowKit Go.ChangeShapes Go.WideShapes Go.ChangeAt Go.Proofs.YthikdkjjdeehoaaGreat
theorem lifted (os : Os) (started : os.Started) (H : Type) (enc : TypeId × Value → H) :
  ReturnsInHanded {} Tryz.checked os 9 .any (Rows.fnVerifyRaiseSpec.pre6 enc Tryz.prog Tryz.f9 Rows.fnVerifyRaiseRow.domain false) (Rows.fnVerifyRaiseSpec.post enc Tryz.prog Tryz.f9 false true false false) := by
 refine returnsInHanded_of_change (C := Tryz.checked) own started (by kernel_rfl) Tryz.func9
  (ChangeSpec.witness6 (enc := enc) (C := Tryz.checked) false ⟨#[], #[.slice none 0 0], []⟩ 8 (by kernel_rfl) (by kernel_rfl) (by kernel_rfl) (by kernel_rfl)) ?_
 intro W base args ds gs before hval0 hW hcnd _
 have hval : ∀ (j : Nat) t v, Tryz.f9.params[j]? = some t → args[j]? = some v → Value.okWide Tryz.prog W .any base t v := hval0
 have hW' := hW
 obtain ⟨p, q, hA0, hV, rfl, hfz, hnd⟩ := hW
 have hA : DataW.TrodAll enc Tryz.prog W 0 (fun _ => true) true Tryz.f9.params.toList args.toList ds p := hA0
 rw [Tryz.params9] at hA hval
 obtain ⟨v0, vs0, d0, ds0, p0, q0, hargs, rfl, rfl, h0, r0⟩ := trodAll_cons hA
 obtain ⟨rfl, rfl, rfl⟩ := trodAll_nil r0
 obtain rfl : args = #[v0] := by cases args; simp_all
 obtain ⟨rfl, rfl⟩ := trodVars_none hV
 have k0 := h0
 have lt0 : ∀ x ∈ p0, x.block < W.heap.size := by obtain ⟨m, hm⟩ := k0; exact DataW.trod_lt m _ _ _ hm
 obtain ⟨a0, len0, cap0, rfl⟩ := okWide_slice Tryz.underlying22 (hval 0 22 v0 rfl rfl)
 obtain ⟨x0, hx0⟩ : ∃ l : List UInt8, M0 W (.slice a0 len0 cap0) l.length 1 (u8s l) := by
  obtain ⟨fuel, hf⟩ := h0
  exact aM9 Tryz.underlying22 hf
 clear hA0 hval0
 refine (ca9 _ x0 W hx0).mono fun e W' ⟨he, bel⟩ => ?_
 subst he
 exact ⟨_, rfl, _, _, _, [], _, [], hW', trodAll_mk1 (shut_bool Tryz.underlying4 _), (trodAll_cons_mk (Below.trod bM4 (by kernel_rfl) (of_decide_eq_true (by kernel_rfl)) k0 bel lt0) trodAll_mk0), rfl, bel.frame _, fun h => by cases h⟩
theorem facts : joinedFacts Tryz.pinned.checked.prog 9 Tryz.f9 Rows.fnVerifyRaiseSpec Rows.fnVerifyRaiseRow = true := by
 unfold joinedFacts
 rw [may_enter, lifts_final, make_is]
 kernel_rfl
theorem over : Rows.fnVerifyRaiseRow.holds Tryz.pinned (OpenSpec.ofChange Rows.fnVerifyRaiseSpec) :=
 OpenClaim.holds_of_wide 9 Tryz.f9 rfl rfl rfl rfl rfl rfl rfl ⟨rfl, rfl, rfl, rfl, rfl⟩ rfl rfl rfl rfl rfl (by kernel_rfl) Tryz.func9 facts
  (of_decide_eq_true (by kernel_rfl)) (by unfold Func.isWrapper; first | (rw [if_pos (by decide +kernel)]; kernel_rfl) | (rw [if_neg (by decide +kernel)]; exact ⟨rfl, rfl⟩))
  (fun os started H enc _ => lifted os started H enc)
theorem proved : Rows.FnVerifyRaiseSaid := over
end Go.Proofs.YthikdkjjdeehoaaGreat.exLVerifyRaise
