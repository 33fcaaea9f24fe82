/-
  LReachableRun: the statement, whatever the argument. Conditions: none beyond the statement's own.
-/
import Derived.Test.YtmokkddidcmglaaK1
import Derived.Test.YtmokkddidcmglaaK2
import Derived.Test.YtmokkddidcmglaaK3
import Derived.Test.YtmokkddidcmglaaK4
import Derived.Test.YtmokkddidcmglaaK5
import Derived.Test.YtmokkddidcmglaaK6
import Derived.Test.YtmokkddidcmglaaEnter1M
import Derived.Test.YtmokkddidcmglaaEnter2M
import Derived.Test.YtmokkddidcmglaaEnter3M
set_option maxRecDepth 100000
set_option maxHeartbeats 16000000
set_option linter.unusedVariables false
set_option linter.unusedSimpArgs false
open Bool renaming not_eq_false' → bV2, not_eq_true' → bT6
open List renaming all_eq_true → bS2, getElem_mem → bS9
open True renaming intro → bS4
namespace Go.Proofs.Ytmokkddidcmglaa.exLReachableRun
open Go Go.RowKit Go.Proofs.Ytmokkddidcmglaa
noncomputable section
section
variable {k : d7} {m x : o8} {v : List (Int × Int)} {b : Bool}
theorem bt4 (h : av7 k m x v b) (hb : b = true) {i : Nat} (hi : i < v.length) (h5 : (v.getD i (0, 0)).1 = 5) : (0 ≤ (v.getD i (0, 0)).2 ∧ (v.getD i (0, 0)).2 < (i5 k).length) ∧ (i5 k).getD (v.getD i (0, 0)).2.toNat false = true := by
 rcases h with ⟨_, hc, hm, n, _, _, hv⟩ | ⟨h, _⟩
 ·have hin : v.getD i (0, 0) ∈ bw8 k m n := by rw [← hv, o5 hi]; exact bS9 hi
  have := aY7 hc hm (n + 1) _ hin h5
  exact ⟨⟨this.2.1, by rw [bc6 hc]; exact this.2.2⟩, (aZ0 hc this.2.1 this.2.2).2 this.1⟩
 ·rw [h] at hb; cases hb
theorem bD9 (h : av7 k m x v b) (hb : b = true) {i : Nat} (hi : i < v.length) (h5 : (v.getD i (0, 0)).1 = 5) (h2 : (i5 k).getD (v.getD i (0, 0)).2.toNat false = false) : False := by
 rw [(bt4 h hb hi h5).2] at h2; cases h2
end
theorem av0 (k : d7) : j5.ok Try.prog ⟨17, [pA 0], X3 k, X3 k ++ [.dat (.bools (i5 k))], .ref 3⟩ := ah5 fun u w h => Q8 u _ w h
theorem au5 (k : d7) : j5.ok Try.prog ⟨19, [pA 0], X3 k, X3 k ++ [.dat (.bools (i5 k))], .ref 3⟩ := ah5 fun u w h => P8 u _ w h
theorem P6 (xs : List Bool) : j5.ok Try.prog (X8 18 [.ref 0, .ref 1] [.dat (.bools xs), .dat (.bools xs)] (bA true)) := by
 refine F5 26 Try.func18 [dB xs, dB xs] [(0, .ref 0), (1, .ref 1)] fun G => ?_; have hl : xs.length ≤ 9223372036854775807 := G.len 0 (d := .bools xs) (by kernel_rfl); refine wp_seq (D6 G d8 [(0, .ref 0), (1, .ref 1), (4, bA false)] fun G => b0 (wp_seq (wp_seq (j7 G d8 [(10, bA ((xs.length : Int) != (xs.length : Int)))] fun G => b0 (rF G ((xs.length : Int) != (xs.length : Int)) (by simp) (wp_skip (b0 (wp_seq (wp_seq (D6 G d8 [(0, .ref 0), (1, .ref 1), (4, bA false), (5, iA 0)] fun G => b0 (wp_block ?_))))))))))); refine t6 (κ := Nat) (fun k => k ≤ xs.length) (fun k => xs.length - k) (fun k => [dB xs, dB xs]) (fun k => [(0, .ref 0), (1, .ref 1), (4, bA false), (5, iA k)]) 0 (by omega) (s5.at G _ _) ?_; clear G; intro k ρ a w hp G; refine wp_seq (wp_seq (j7 G d8 [(14, bA (decide ((k : Int) < xs.length)))] fun G => b0 (rcD G (fun h0 q0 => ?_) fun h0 q0 => ?_)))
 ·refine wp_exit (t3 (t3 (t2 (b0 (wp_seq (j7 G d8 [(4, bA true)] fun G => b0 (wp_ret ?_))))))); exact D8 G [0, 1]
 ·refine wp_skip (b0 (wp_seq (wp_block (wp_seq (aQ8 G d8 [0, 0, 3, 7, 0, 0, 48, 112, 255] [(25, .v (.bool !xs.getD k false == xs.getD k false))] (iX k k xs.length (iX k k xs.length [])) (iK (by omega) (iK (by omega) bS4)) fun G => b0 (rF G (!xs.getD k false == xs.getD k false) (by simp [h0]) (wp_skip (i8 (b0 (A0 G d8 [(5, iA ((k : Int) + 1))] [wO ((k : Int) + 1)] (o1 (by omega)) fun G => b0 ?_)))))))))); exact H9 G (k + 1) (by omega) (by omega) [0, 1]
theorem bb3 (c : List UInt8) (k : d7) (m m2 x : o8) (v : List (Int × Int)) (b : Bool) (hk : k.list.length ≤ 400) (hR : av7 k m x v b)
    (hd : j5.ok Try.prog (crC 21 c k m m2))
    (hrc : j5.ok Try.prog (rcC k m x v b)) : j5.ok Try.prog ⟨5, [.ref 0], [dY c], [dY c], bA true⟩ := by
  have hdr := hd; have hir := av0 k; have hsr := au5 k; have hrn := hrc; refine F5 65 Try.func5 [dY c] [(0, .ref 0)] fun G => ?_; have hrl := bt3 (k := k); have hvl := bw6 hR; refine wp_seq (j7 G d8 [(2, bA false)] fun G => b0 (wp_seq (wp_seq (j7 G d8 [(13, bA (decide ((c.length : Int) > 1048576)))] fun G => b0 (rcD G (fun h0 q0 => ?_) fun h0 q0 => ?_)))))
  ·
   refine wp_skip (b0 (wp_seq (i7 G (r7 1 [0] hdr) [0, 9, 10, 11, 12, 13, 49, 57] [dY c, dI k.vars, dI k.arrays, dN k.list, dI m.vals, dR m.arrs, .box (pL 1), .box [.ref 4, .ref 5]] [(2, bA false), (3, .ptr 6 0), (4, .ptr 7 0)] fun G => b0 (wp_seq (i7 G (r7 1 [1, 2, 3] hir) [0, 1, 2, 3, 4, 5, 6, 7, 16] [dY c, dI k.vars, dI k.arrays, dN k.list, dI m.vals, dR m.arrs, .box (pL 1), .box [.ref 4, .ref 5], dB (i5 k)] [(2, bA false), (3, .ptr 6 0), (4, .ptr 7 0), (6, .ref 8)] fun G => b0 (wp_seq (i7 G (r7 2 [1, 2, 3, 4, 5] hrn) [0, 1, 2, 3, 6, 8, 27] [dY c, dI k.vars, dI k.arrays, dN k.list, .box (pL 1), dB (i5 k), .row 65 (D.events v)] [(2, bA false), (3, .ptr 4 0), (6, .ref 5), (8, .ref 6), (9, bA b)] fun G => b0 (wp_seq (wp_seq (j7 G (K9 (A2 2 [1, 2, 3] hsr (A2 3 [5, 23] (P6 (i5 k)) K8)) (fc (b := false) rfl fz) [(6, 0), (7, 0), (1008, 0)]) [(37, bA !b)] fun G => b0 ?_)))))))))); cases h1 : (!b)
   ·
    have q1 : (b) = true := (Eq.mp (bV2 _) h1); refine rF G _ h1 (wp_skip (b0 (wp_seq (wp_seq (i7 G d8 [0, 5, 6] [dY c, dB (i5 k), .row 65 (D.events v)] [(2, bA false), (6, .ref 1), (8, .ref 2), (10, iA 0)] fun G => b0 (wp_block ?_)))))); refine t6 (κ := Nat) (fun i => i ≤ v.length) (fun i => v.length - i) (fun i => [dY c, dB (i5 k), .row 65 (D.events v)]) (fun i => [(2, bA false), (6, .ref 1), (8, .ref 2), (10, iA i)]) 0 (by omega) (s5.at G _ _) ?_; clear G; intro i ρ a w hp G; refine wp_seq (wp_seq (D6 G d8 [(2, bA false), (6, .ref 1), (8, .ref 2), (10, iA i), (45, bA (decide ((i : Int) < v.length)))] fun G => b0 (rcD G (fun h2 q2 => ?_) fun h2 q2 => ?_)))
    · refine wp_exit (t3 (t3 (t2 (b0 (wp_seq (i7 G d8 [0] [dY c] [(2, bA true)] fun G => b0 (wp_ret ?_))))))); exact D8 G [0]
    ·
     refine wp_skip (b0 (wp_seq (wp_block (wp_seq ?_)))); cases h3 : ((v.getD i ((0 : Int), (0 : Int))).fst == 5)
     · have q3 := ne_of_beq_false h3; refine A0 G (E7 (fc h3 fz) (us [(7, 15, 0), (1016, 1016, 0)])) [(64, bA false)] (iX i i v.length []) (iK (by omega) bS4) fun G => b0 (rF G false (by kernel_rfl) (wp_skip (i8 (b0 (A0 G d8 [(10, iA ((i : Int) + 1))] [wO ((i : Int) + 1)] (o1 (by omega)) fun G => b0 ?_))))); exact H9 G (i + 1) (by omega) (by omega) [0, 1, 2]
     ·
      have q3 := eq_of_beq h3; have hix := bt4 hR (by with_reducible assumption) (i := i) (by omega) (by with_reducible assumption); refine rB1 G (E7 (fc h3 fz) (us [(7, 15, 0), (1016, 1016, 0)])) [(2, bA false), (6, .ref 1), (8, .ref 2), (10, iA i), (64, .v (.bool !(i5 k).getD (v.getD i (0, 0)).snd.toNat false))] (iX i i v.length (iX i i v.length (iX ((v.getD i ((0 : Int), (0 : Int))).snd) ((v.getD i ((0 : Int), (0 : Int))).snd.toNat) ((i5 k).length) []))) (iK (by omega) (iK (by omega) (iK (by omega) bS4))) fun G => b0 ?_; cases h4 : (!(i5 k).getD (v.getD i ((0 : Int), (0 : Int))).snd.toNat false)
      · have q4 : ((i5 k).getD (v.getD i (0, 0)).snd.toNat false) = true := (Eq.mp (bV2 _) h4); refine rF G _ h4 (wp_skip (i8 (b0 (A0 G d8 [(10, iA ((i : Int) + 1))] [wO ((i : Int) + 1)] (o1 (by omega)) fun G => b0 ?_)))); exact H9 G (i + 1) (by omega) (by omega) [0, 1, 2]
      · have q4 : ((i5 k).getD (v.getD i (0, 0)).snd.toNat false) = false := (Eq.mp (bT6 _) h4); exact False.elim (bD9 hR (i := i) (by with_reducible assumption) (by omega) (by with_reducible assumption) (by with_reducible assumption))
   · have q1 : (b) = false := (Eq.mp (bT6 _) h1); refine rT G _ h1 (wp_seq (i7 G (K9 (A2 2 [1, 2, 3] hsr (A2 3 [5, 23] (P6 (i5 k)) K8)) fz []) [0, 5, 6] [dY c, dB (i5 k), .row 65 (D.events v)] [(2, bA true), (6, .ref 1), (8, .ref 2)] fun G => b0 (wp_ret (n8 ?_)))); exact D8 G [0]
  · refine wp_seq (j7 G d8 [(2, bA true)] fun G => b0 (wp_ret (n8 ?_))); exact D8 G [0]
theorem bi3 (c : List UInt8) : j5.ok Try.prog ⟨5, [.ref 0], [dY c], [dY c], bA true⟩ := by
 obtain ⟨k, m, m2, h1, h2, h3, h4⟩ := bh1 c
 obtain ⟨f1, f2, f3, f4⟩ := at4 h2
 obtain ⟨x, v, b, h5, h6⟩ := a67 k m (by omega) (by omega) fun r hr => by
  have := (bj6 (bS2.1 f4 r hr)).1
  omega
 exact bb3 c k m m2 x v b h1.2.2 h5 h4 h6
theorem bv1 (u : Value) (c : List UInt8) (w : World) (hp : H4 w u c.length 1 (u8s c)) : Calls Try.prog 5 #[u] w fun e w' => e = .returned (.bool true) ∧ Below w.heap.size w w' :=
 aA3 (bi3 c) u w (hp.rowF fun _ _ => trivial)
end
end Go.Proofs.Ytmokkddidcmglaa.exLReachableRun

namespace Go.Proofs.Ytmokkddidcmglaa.exLReachableRun
open Go Go.RowKit Go.ChangeShapes Go.WideShapes Go.ChangeAt Go.Proofs.Ytmokkddidcmglaa
theorem lifted (os : Os) (started : os.Started) (H : Type) (enc : TypeId × Value → H) :
  ReturnsInHanded {} Try.checked os 5 .any (Rows.fnReachableRunSpec.pre6 enc Try.prog Try.f5 Rows.fnReachableRunRow.domain false) (Rows.fnReachableRunSpec.post enc Try.prog Try.f5 false true false false) := by
 refine returnsInHanded_of_change (C := Try.checked) own started (by kernel_rfl) Try.func5
  (ChangeSpec.witness6 (enc := enc) (C := Try.checked) false ⟨#[], #[.slice none 0 0], []⟩ 8 (by kernel_rfl) (by kernel_rfl) (by kernel_rfl) (by kernel_rfl)) ?_
 intro W base args ds gs before hval0 hW hcnd _
 have hval : ∀ (j : Nat) t v, Try.f5.params[j]? = some t → args[j]? = some v → Value.okWide Try.prog W .any base t v := hval0
 have hW' := hW
 obtain ⟨p, q, hA0, hV, rfl, hfz, hnd⟩ := hW
 have hA : DataW.TrodAll enc Try.prog W 0 (fun _ => true) true Try.f5.params.toList args.toList ds p := hA0
 rw [Try.params5] at hA hval
 obtain ⟨v0, vs0, d0, ds0, p0, q0, hargs, rfl, rfl, h0, r0⟩ := trodAll_cons hA
 obtain ⟨rfl, rfl, rfl⟩ := trodAll_nil r0
 obtain rfl : args = #[v0] := by cases args; simp_all
 obtain ⟨rfl, rfl⟩ := trodVars_none hV
 have k0 := h0
 have lt0 : ∀ x ∈ p0, x.block < W.heap.size := by obtain ⟨m, hm⟩ := k0; exact DataW.trod_lt m _ _ _ hm
 obtain ⟨a0, len0, cap0, rfl⟩ := okWide_slice Try.underlying22 (hval 0 22 v0 rfl rfl)
 obtain ⟨x0, hx0⟩ : ∃ l : List UInt8, H4 W (.slice a0 len0 cap0) l.length 1 (u8s l) := by
  obtain ⟨fuel, hf⟩ := h0
  exact ac6 Try.underlying22 hf
 clear hA0 hval0
 refine (bv1 _ x0 W hx0).mono fun e W' ⟨he, bel⟩ => ?_
 subst he
 exact ⟨_, rfl, _, _, _, [], _, [], hW', trodAll_mk1 (shut_bool Try.underlying4 _), (trodAll_cons_mk (Below.trod a03 (by kernel_rfl) (of_decide_eq_true (by kernel_rfl)) k0 bel lt0) trodAll_mk0), rfl, bel.frame _, fun h => by cases h⟩
theorem facts : joinedFacts Try.pinned.checked.prog 5 Try.f5 Rows.fnReachableRunSpec Rows.fnReachableRunRow = true := by
 unfold joinedFacts
 rw [may_enter, lifts_final, make_is]
 kernel_rfl
theorem over : Rows.fnReachableRunRow.holds Try.pinned (OpenSpec.ofChange Rows.fnReachableRunSpec) :=
 OpenClaim.holds_of_wide 5 Try.f5 rfl rfl rfl rfl rfl rfl rfl ⟨rfl, rfl, rfl, rfl, rfl⟩ rfl rfl rfl rfl rfl (by kernel_rfl) Try.func5 facts
  (of_decide_eq_true (by kernel_rfl)) (by unfold Func.isWrapper; first | (rw [if_pos (by decide +kernel)]; kernel_rfl) | (rw [if_neg (by decide +kernel)]; exact ⟨rfl, rfl⟩))
  (fun os started H enc _ => lifted os started H enc)
theorem proved : Rows.FnReachableRunSaid := over
end Go.Proofs.Ytmokkddidcmglaa.exLReachableRun
