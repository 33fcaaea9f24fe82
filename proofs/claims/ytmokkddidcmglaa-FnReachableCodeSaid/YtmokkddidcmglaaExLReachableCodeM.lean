/-
  LReachableCode: the statement, whatever the argument. Conditions: none beyond the statement's own.
-/
import Derived.Test.YtmokkddidcmglaaK1
import Derived.Test.YtmokkddidcmglaaK2
import Derived.Test.YtmokkddidcmglaaK3
import Derived.Test.YtmokkddidcmglaaK4
import Derived.Test.YtmokkddidcmglaaK5
import Derived.Test.YtmokkddidcmglaaK6
import Derived.Test.YtmokkddidcmglaaEnter1M
import Derived.Test.YtmokkddidcmglaaEnter2M
import Derived.Test.YtmokkddidcmglaaEnter3M
set_option maxRecDepth 100000
set_option maxHeartbeats 16000000
set_option linter.unusedVariables false
set_option linter.unusedSimpArgs false
open Bool renaming not_eq_false' → bV2, not_eq_true' → bT6
open True renaming intro → bS4
namespace Go.Proofs.Ytmokkddidcmglaa.exLReachableCode
open Go Go.RowKit Go.Proofs.Ytmokkddidcmglaa
noncomputable section
section
variable {k : d7} {s : i9}
theorem bC1 (h : mcB k s = true) : 0 ≤ s.pc ∧ s.pc < (i5 k).length ∧ 0 ≤ (msD k s).1.pc ∧ (msD k s).1.pc < (i5 k).length := by
 obtain ⟨hc, hs⟩ := a01 h
 obtain ⟨h1, h2, -⟩ := N0 hs
 obtain ⟨h3, h4, -⟩ := N0 (aB7 hc hs)
 rw [aS1 h, bc6 hc]
 exact ⟨h1, h2, h3, h4⟩
theorem bs3 (h : mcB k s = true) (h1 : (i5 k).getD s.pc.toNat false = true) : (i5 k).getD (msD k s).1.pc.toNat false = true := by
 obtain ⟨hc, hs⟩ := a01 h
 obtain ⟨a1, a2, -⟩ := N0 hs
 obtain ⟨a3, a4, -⟩ := N0 (aB7 hc hs)
 rw [aS1 h]
 exact (aZ0 hc a3 a4).2 (aX7 hc a1 a2 ((aZ0 hc a1 a2).1 h1))
theorem bR1 {T : i9} (hT : (msD k s).1 = T) (h : mcB k s = true) (h1 : (i5 k).getD s.pc.toNat false = true) (h2 : (i5 k).getD T.pc.toNat false = false) : False := by
 rw [← hT, bs3 h h1] at h2; cases h2
theorem bv6 {T : i9} (hT : (msD k s).1 = T) (h : mcB k s = true) (h1 : (i5 k).getD s.pc.toNat false = true) : (i5 k).getD T.pc.toNat false = true := hT ▸ bs3 h h1
theorem bv7 {T : i9} (hT : (msD k s).1 = T) (h : mcB k s = true) : 0 ≤ s.pc ∧ s.pc < (i5 k).length ∧ 0 ≤ T.pc ∧ T.pc < (i5 k).length := hT ▸ bC1 h
theorem bE0 (h : ¬ ((i5 k).length : Int) = 0) (h2 : (i5 k).getD 0 false = false) : False := by rw [bM2 h] at h2; cases h2
end
theorem av0 (k : d7) : j5.ok Try.prog ⟨17, [pA 0], X3 k, X3 k ++ [.dat (.bools (i5 k))], .ref 3⟩ := ah5 fun u w h => Q8 u _ w h
theorem au5 (k : d7) : j5.ok Try.prog ⟨19, [pA 0], X3 k, X3 k ++ [.dat (.bools (i5 k))], .ref 3⟩ := ah5 fun u w h => P8 u _ w h
theorem bR2 {b : Bool} (h : b = false) (h2 : b = true) : False := by rw [h] at h2; cases h2
theorem P6 (xs : List Bool) : j5.ok Try.prog (X8 18 [.ref 0, .ref 1] [.dat (.bools xs), .dat (.bools xs)] (bA true)) := by
 refine F5 26 Try.func18 [dB xs, dB xs] [(0, .ref 0), (1, .ref 1)] fun G => ?_; have hl : xs.length ≤ 9223372036854775807 := G.len 0 (d := .bools xs) (by kernel_rfl); refine wp_seq (D6 G d8 [(0, .ref 0), (1, .ref 1), (4, bA false)] fun G => b0 (wp_seq (wp_seq (j7 G d8 [(10, bA ((xs.length : Int) != (xs.length : Int)))] fun G => b0 (rF G ((xs.length : Int) != (xs.length : Int)) (by simp) (wp_skip (b0 (wp_seq (wp_seq (D6 G d8 [(0, .ref 0), (1, .ref 1), (4, bA false), (5, iA 0)] fun G => b0 (wp_block ?_))))))))))); refine t6 (κ := Nat) (fun k => k ≤ xs.length) (fun k => xs.length - k) (fun k => [dB xs, dB xs]) (fun k => [(0, .ref 0), (1, .ref 1), (4, bA false), (5, iA k)]) 0 (by omega) (s5.at G _ _) ?_; clear G; intro k ρ a w hp G; refine wp_seq (wp_seq (j7 G d8 [(14, bA (decide ((k : Int) < xs.length)))] fun G => b0 (rcD G (fun h0 q0 => ?_) fun h0 q0 => ?_)))
 ·refine wp_exit (t3 (t3 (t2 (b0 (wp_seq (j7 G d8 [(4, bA true)] fun G => b0 (wp_ret ?_))))))); exact D8 G [0, 1]
 ·refine wp_skip (b0 (wp_seq (wp_block (wp_seq (aQ8 G d8 [0, 0, 3, 7, 0, 0, 48, 112, 255] [(25, .v (.bool !xs.getD k false == xs.getD k false))] (iX k k xs.length (iX k k xs.length [])) (iK (by omega) (iK (by omega) bS4)) fun G => b0 (rF G (!xs.getD k false == xs.getD k false) (by simp [h0]) (wp_skip (i8 (b0 (A0 G d8 [(5, iA ((k : Int) + 1))] [wO ((k : Int) + 1)] (o1 (by omega)) fun G => b0 ?_)))))))))); exact H9 G (k + 1) (by omega) (by omega) [0, 1]
theorem bb3 (c : List UInt8) (k : d7) (s T : i9) (E : List (Int × Int)) (hk : k.list.length ≤ 400) (hT : (msD k s).1 = T)
    (hd : j5.ok Try.prog (dmC 16 c k s))
    (hst : j5.ok Try.prog ⟨20, [pA 0, smA s 3], X3 k ++ smS s, X3 k ++ smS s ++ smO T ++ [.row 65 (.events E)], .tup [.agg [iA T.pc, .ref 6, .ref 7, .tref 8], .ref 9, bA (mcB k s)]⟩) : j5.ok Try.prog ⟨4, [.ref 0], [dY c], [dY c], bA true⟩ := by
  have hdr := hd; have hir := av0 k; have hsr := au5 k; have hsm := hst; refine F5 73 Try.func4 [dY c] [(0, .ref 0)] fun G => ?_; have hrl := bt3 (k := k); refine wp_seq (j7 G d8 [(2, bA false)] fun G => b0 (wp_seq (wp_seq (j7 G d8 [(11, bA (decide ((c.length : Int) > 1048576)))] fun G => b0 (rcD G (fun h0 q0 => ?_) fun h0 q0 => ?_)))))
  ·
   refine wp_skip (b0 (wp_seq (i7 G (r7 1 [0] hdr) [0, 9, 10, 11, 12, 13, 14, 41, 49] [dY c, dI k.vars, dI k.arrays, dN k.list, dI s.regs, dI s.mem.vals, dR s.mem.arrs, .box (pL 1), .box [iA s.pc, .ref 4, .ref 5, .ref 6]] [(2, bA false), (3, .ptr 7 0), (4, .ptr 8 0)] fun G => b0 (wp_seq (i7 G (r7 1 [1, 2, 3] hir) [0, 1, 2, 3, 4, 5, 6, 7, 8, 17] [dY c, dI k.vars, dI k.arrays, dN k.list, dI s.regs, dI s.mem.vals, dR s.mem.arrs, .box (pL 1), .box [iA s.pc, .ref 4, .ref 5, .ref 6], dB (i5 k)] [(2, bA false), (3, .ptr 7 0), (4, .ptr 8 0), (5, .ref 9)] fun G => b0 (wp_seq (wp_seq ?_))))))); cases h1 : (((i5 k).length : Int) == 0)
   ·
    have q1 := ne_of_beq_false h1; refine rB1 G (K9 (A2 2 [1, 2, 3] hsr (A2 3 [9, 26] (P6 (i5 k)) K8)) (fc (b := false) rfl (fc h1 fz)) (us [(6, 8, 0), (1009, 1009, 0), (11, 14, 1), (1015, 1015, 1)])) [(2, bA false), (3, .ptr 7 0), (4, .ptr 8 0), (5, .ref 9), (34, .v (.bool !(i5 k).getD 0 false))] (iX 0 0 ((i5 k).length) []) (iK (by omega) bS4) fun G => b0 ?_; cases h2 : (!(i5 k).getD (0 : Nat) false)
    ·
     have q2 : ((i5 k).getD 0 false) = true := (Eq.mp (bV2 _) h2); refine rF G _ h2 (wp_skip (b0 (wp_seq (i7 G (r7 2 [1, 2, 3, 4, 5, 6] hsm) [0, 4, 5, 6, 8, 9, 26, 27, 28, 66] [dY c, dI s.regs, dI s.mem.vals, dR s.mem.arrs, .box [iA s.pc, .ref 1, .ref 2, .ref 3], dB (i5 k), .row 3 (D.ints T.regs), .row 3 (D.ints T.mem.vals), .tree (D.rows T.mem.arrs), .box [iA T.pc, .ref 6, .ref 7, .tref 8]] [(2, bA false), (4, .ptr 4 0), (5, .ref 5), (6, .ptr 9 0), (8, bA (mcB k s))] fun G => b0 (wp_seq ?_))))); cases h3 : (!mcB k s)
     ·
      have q3 : (mcB k s) = true := (Eq.mp (bV2 _) h3); have hix := bv7 hT (by with_reducible assumption); cases h4 : (!(i5 k).getD s.pc.toNat false)
      · have q4 : ((i5 k).getD s.pc.toNat false) = true := (Eq.mp (bV2 _) h4); refine G4 G (E7 (fc h3 (fc h4 fz)) (us [(3, 8, 0), (1009, 1009, 0), (11, 15, 1), (1016, 1016, 1)])) [0] [dY c] [(2, bA ((i5 k).getD T.pc.toNat false))] (iX s.pc s.pc.toNat ((i5 k).length) (iX T.pc T.pc.toNat ((i5 k).length) [])) (iK (by omega) (iK (by omega) bS4)) fun G => b0 (wp_ret ?_); exact I6 ((i5 k).getD T.pc.toNat false) G [0] ((bv6 hT (by with_reducible assumption) (by with_reducible assumption)).symm)
      · have q4 : ((i5 k).getD s.pc.toNat false) = false := (Eq.mp (bT6 _) h4); refine G4 G (E7 (fc h3 (fc h4 fz)) (us [(3, 8, 0), (1009, 1009, 0), (11, 15, 1), (1016, 1016, 1)])) [0] [dY c] [(2, bA true)] (iX s.pc s.pc.toNat ((i5 k).length) []) (iK (by omega) bS4) fun G => b0 (wp_ret ?_); exact D8 G [0]
     · have q3 : (mcB k s) = false := (Eq.mp (bT6 _) h3); refine i7 G (E7 (fc h3 (fc (b := true) rfl fz)) (us [(3, 8, 0), (1009, 1009, 0), (11, 15, 1), (1016, 1016, 1)])) [0] [dY c] [(2, bA true)] fun G => b0 (wp_ret ?_); exact D8 G [0]
    · have q2 : ((i5 k).getD 0 false) = false := (Eq.mp (bT6 _) h2); exact False.elim (bE0 (by omega) (by with_reducible assumption))
   · have q1 := eq_of_beq h1; refine j7 G (K9 (A2 2 [1, 2, 3] hsr (A2 3 [9, 26] (P6 (i5 k)) K8)) (fc (b := false) rfl (fc h1 fz)) (us [(6, 8, 0), (1009, 1009, 0), (11, 14, 1), (1015, 1015, 1)])) [(34, bA true)] fun G => b0 (rT G true (by kernel_rfl) (wp_seq (j7 G (K9 (A2 2 [1, 2, 3] hsr (A2 3 [9, 26] (P6 (i5 k)) K8)) (fc (b := true) rfl (fc h1 fz)) (us [(5, 8, 0), (9, 11, 1), (12, 12, 0), (1012, 1012, 1), (1013, 1013, 0)])) [(2, bA true)] fun G => b0 (wp_ret (n8 ?_))))); exact D8 G [0]
  · refine wp_seq (j7 G d8 [(2, bA true)] fun G => b0 (wp_ret (n8 ?_))); exact D8 G [0]
theorem bi3 (c : List UInt8) : j5.ok Try.prog ⟨4, [.ref 0], [dY c], [dY c], bA true⟩ := by
 obtain ⟨k, s, h1, h2, h3⟩ := bh0 c
 exact bb3 c k s _ _ h1.2.2 rfl h3 (av9 k s h2.1 h2.2.1 h2.2.2.1 h2.2.2.2)
theorem bv1 (u : Value) (c : List UInt8) (w : World) (hp : H4 w u c.length 1 (u8s c)) : Calls Try.prog 4 #[u] w fun e w' => e = .returned (.bool true) ∧ Below w.heap.size w w' :=
 aA3 (bi3 c) u w (hp.rowF fun _ _ => trivial)
end
end Go.Proofs.Ytmokkddidcmglaa.exLReachableCode

namespace Go.Proofs.Ytmokkddidcmglaa.exLReachableCode
open Go Go.RowKit Go.ChangeShapes Go.WideShapes Go.ChangeAt Go.Proofs.Ytmokkddidcmglaa
theorem lifted (os : Os) (started : os.Started) (H : Type) (enc : TypeId × Value → H) :
  ReturnsInHanded {} Try.checked os 4 .any (Rows.fnReachableCodeSpec.pre6 enc Try.prog Try.f4 Rows.fnReachableCodeRow.domain false) (Rows.fnReachableCodeSpec.post enc Try.prog Try.f4 false true false false) := by
 refine returnsInHanded_of_change (C := Try.checked) own started (by kernel_rfl) Try.func4
  (ChangeSpec.witness6 (enc := enc) (C := Try.checked) false ⟨#[], #[.slice none 0 0], []⟩ 8 (by kernel_rfl) (by kernel_rfl) (by kernel_rfl) (by kernel_rfl)) ?_
 intro W base args ds gs before hval0 hW hcnd _
 have hval : ∀ (j : Nat) t v, Try.f4.params[j]? = some t → args[j]? = some v → Value.okWide Try.prog W .any base t v := hval0
 have hW' := hW
 obtain ⟨p, q, hA0, hV, rfl, hfz, hnd⟩ := hW
 have hA : DataW.TrodAll enc Try.prog W 0 (fun _ => true) true Try.f4.params.toList args.toList ds p := hA0
 rw [Try.params4] at hA hval
 obtain ⟨v0, vs0, d0, ds0, p0, q0, hargs, rfl, rfl, h0, r0⟩ := trodAll_cons hA
 obtain ⟨rfl, rfl, rfl⟩ := trodAll_nil r0
 obtain rfl : args = #[v0] := by cases args; simp_all
 obtain ⟨rfl, rfl⟩ := trodVars_none hV
 have k0 := h0
 have lt0 : ∀ x ∈ p0, x.block < W.heap.size := by obtain ⟨m, hm⟩ := k0; exact DataW.trod_lt m _ _ _ hm
 obtain ⟨a0, len0, cap0, rfl⟩ := okWide_slice Try.underlying22 (hval 0 22 v0 rfl rfl)
 obtain ⟨x0, hx0⟩ : ∃ l : List UInt8, H4 W (.slice a0 len0 cap0) l.length 1 (u8s l) := by
  obtain ⟨fuel, hf⟩ := h0
  exact ac6 Try.underlying22 hf
 clear hA0 hval0
 refine (bv1 _ x0 W hx0).mono fun e W' ⟨he, bel⟩ => ?_
 subst he
 exact ⟨_, rfl, _, _, _, [], _, [], hW', trodAll_mk1 (shut_bool Try.underlying4 _), (trodAll_cons_mk (Below.trod a03 (by kernel_rfl) (of_decide_eq_true (by kernel_rfl)) k0 bel lt0) trodAll_mk0), rfl, bel.frame _, fun h => by cases h⟩
theorem facts : joinedFacts Try.pinned.checked.prog 4 Try.f4 Rows.fnReachableCodeSpec Rows.fnReachableCodeRow = true := by
 unfold joinedFacts
 rw [may_enter, lifts_final, make_is]
 kernel_rfl
theorem over : Rows.fnReachableCodeRow.holds Try.pinned (OpenSpec.ofChange Rows.fnReachableCodeSpec) :=
 OpenClaim.holds_of_wide 4 Try.f4 rfl rfl rfl rfl rfl rfl rfl ⟨rfl, rfl, rfl, rfl, rfl⟩ rfl rfl rfl rfl rfl (by kernel_rfl) Try.func4 facts
  (of_decide_eq_true (by kernel_rfl)) (by unfold Func.isWrapper; first | (rw [if_pos (by decide +kernel)]; kernel_rfl) | (rw [if_neg (by decide +kernel)]; exact ⟨rfl, rfl⟩))
  (fun os started H enc _ => lifted os started H enc)
theorem proved : Rows.FnReachableCodeSaid := over
end Go.Proofs.Ytmokkddidcmglaa.exLReachableCode
