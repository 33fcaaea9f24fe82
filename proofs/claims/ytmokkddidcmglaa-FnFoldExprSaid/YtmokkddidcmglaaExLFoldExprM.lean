/-
  LFoldExpr: the statement, whatever the argument. Conditions: none beyond the statement's own.
-/
import Derived.Test.YtmokkddidcmglaaK1
import Derived.Test.YtmokkddidcmglaaK2
import Derived.Test.YtmokkddidcmglaaK3
import Derived.Test.YtmokkddidcmglaaK4
import Derived.Test.YtmokkddidcmglaaK5
import Derived.Test.YtmokkddidcmglaaK6
import Derived.Test.YtmokkddidcmglaaEnter1M
import Derived.Test.YtmokkddidcmglaaEnter2M
import Derived.Test.YtmokkddidcmglaaEnter3M
set_option maxRecDepth 100000
set_option maxHeartbeats 16000000
set_option linter.unusedVariables false
set_option linter.unusedSimpArgs false
open Bool renaming and_eq_true → bE8, not_eq_false' → bG2, not_eq_true' → bF8
namespace Go.Proofs.Ytmokkddidcmglaa.exLFoldExpr
open Go Go.RowKit Go.Proofs.Ytmokkddidcmglaa
theorem a57 (c : List UInt8) (p : f5) (m : w4) (h1 : i6.ok Try.prog (rpC 33 c p m)) : i6.ok Try.prog (rpC 7 c p m) := by
 have hev := h1; refine E2 8 Try.func7 [dY c] [(0, .ref 0)] fun G => ?_; refine wp_seq (j7 G f7 [0, 1, 9] [dY c, .box [.v (.slice none 0 0), .v (.slice none 0 0), .v (.slice none 0 0)], .box [.v (.slice none 0 0), .v (.slice none 0 0)]] [(0, .ref 0), (2, .ptr 1 0), (3, .ptr 2 0)] fun G => b6 (wp_seq (j7 G (t8 1 [0] hev) [0, 1, 2, 11, 12, 13, 14, 15] [dY c, .box (pL 3), .box [.ref 6, .ref 7], dI p.vars, dI p.arrays, dT p.body, dI m.vals, dR m.arrs] [(2, .ptr 1 0), (3, .ptr 2 0)] fun G => b6 (wp_ret ?_)))); exact I7 G [0, 3, 4, 5, 6, 7]
theorem bx7 (p : f5) (m : w4) (e : b5) (h : l0 p e = true) : i6.ok Try.prog ⟨11, [pA 0, mA 3, eA (b9 e) 5], pS p ++ mS m ++ eS (b9 e), pS p ++ mS m ++ eS (b9 e) ++ [.row 65 (.events (E3 p m e).2)], .tup [iA (E3 p m e).1, .ref 6, bA (I2 p m e)]⟩ := by
 have := al0 p m (b9 e)
 rw [(bn0 h).1, (bn0 h).2] at this
 exact this
theorem bo3 (e : b5) : J0 e e = true := (X2 e e).2 rfl
abbrev A6 (c : List UInt8) (p : f5) (e : b5) (r0 : List It) : List It := dY c :: dI p.vars :: dI p.arrays :: dT p.body :: dE e.kids :: .box (pL 1) :: .box (eL e 4) :: r0
theorem bt4 (c : List UInt8) (p q : f5) (m : w4) (e f : b5) (hd : i6.ok Try.prog (feD c p e)) (hm : i6.ok Try.prog (rpC 7 c q m)) (hf : feX p e = f)
    (hi : i6.ok Try.prog ⟨8, [pA 0, eA e 3], pS p ++ eS e, pS p ++ eS e ++ [dE f.kids], .tup [.agg [iA f.kind, iA f.value, .ref 4], bA (l0 p e)]⟩)
    (hs : i6.ok Try.prog ⟨9, [pA 0, eA e 3], pS p ++ eS e, pS p ++ eS e ++ [dE f.kids], .tup [.agg [iA f.kind, iA f.value, .ref 4], bA (l0 p e)]⟩)
    (h2 : l0 p e = true → i6.ok Try.prog ⟨8, [pA 0, eA f 3], pS p ++ eS f, pS p ++ eS f ++ [dE f.kids], .tup [.agg [iA f.kind, iA f.value, .ref 4], bA true]⟩)
    (h3 : l0 p e = true → i6.ok Try.prog ⟨11, [pA 0, mA 3, eA f 5], pS p ++ mS m ++ eS f, pS p ++ mS m ++ eS f ++ [.row 65 (.events (E3 p m e).2)], .tup [iA (E3 p m e).1, .ref 6, bA (I2 p m e)]⟩)
    (h4 : l0 p e = true → i6.ok Try.prog (J3 12 [pA 0, eA f 3] (pS p ++ eS f) (bA true)))
    (h5 : i6.ok Try.prog (J3 10 [eA f 0, eA f 1] [dE f.kids, dE f.kids] (bA true)))
    (h6 : l0 p e = true → flB (xlD p f) (xlD p e) = true)
    (h7 : i6.ok Try.prog (J3 13 [.ref 0, .ref 1] [.dat (.events (E3 p m e).2), .dat (.events (E3 p m e).2)] (bA true))) : i6.ok Try.prog ⟨3, [.ref 0], [dY c], [dY c], bA true⟩ := by
  have hdr := hd; have hdm := hm; have hfi := hi; have hfs := hs; have hf2 := h2; have hev := al0 p m e; have hew := h3; have hvl := h4; have hsm := h5; have hts := h7; refine E2 122 Try.func3 [dY c] [(0, .ref 0)] fun G => ?_; refine wp_seq (l5 G f7 [(2, bA false)] fun G => b6 (wp_seq (wp_seq (l5 G f7 [(21, bA (decide ((c.length : Int) > 1048576)))] fun G => b6 (rcD G (fun h0 q0 => ?_) fun h0 q0 => ?_)))))
  ·
   refine wp_skip (b6 (wp_seq (j7 G (t8 1 [0] hdr) [0, 9, 10, 11, 12, 41, 49] (A6 c p e []) [(0, .ref 0), (2, bA false), (3, .ptr 5 0), (4, .ptr 6 0)] fun G => b6 (wp_seq (j7 G (t8 1 [0] hdm) [0, 1, 2, 3, 4, 5, 6, 18, 19, 55] (A6 c p e [dI m.vals, dR m.arrs, .box [.ref 7, .ref 8]]) [(2, bA false), (3, .ptr 5 0), (4, .ptr 6 0), (6, .ptr 9 0)] fun G => b6 (wp_seq (j7 G (t8 2 [1, 2, 3, 4] hfi) [0, 1, 2, 3, 4, 5, 6, 7, 8, 9, 26, 58] (A6 c p e [dI m.vals, dR m.arrs, .box [.ref 7, .ref 8], dE f.kids, .box (eL f 10)]) [(2, bA false), (3, .ptr 5 0), (4, .ptr 6 0), (6, .ptr 9 0), (7, .ptr 11 0), (8, bA (l0 p e))] fun G => b6 (wp_seq (j7 G (t8 2 [1, 2, 3, 4] hfs) [0, 1, 2, 3, 4, 5, 6, 7, 8, 9, 10, 11, 28, 60] (A6 c p e [dI m.vals, dR m.arrs, .box [.ref 7, .ref 8], dE f.kids, .box (eL f 10), dE f.kids, .box (eL f 12)]) [(2, bA false), (3, .ptr 5 0), (4, .ptr 6 0), (6, .ptr 9 0), (7, .ptr 11 0), (8, bA (l0 p e)), (9, .ptr 13 0), (10, bA (l0 p e))] fun G => b6 (wp_seq (wp_seq (l5 G (y9 (m9 6 [10, 12] hsm y8) (fc (a := !l0 p e == l0 p e) (b := false) (by simp [h0]) (fc (b := false) rfl fz)) (us [(4, 7, 0), (1008, 1008, 0), (10, 11, 1), (1012, 1012, 1)])) [(56, .v (.bool !l0 p e))] fun G => b6 ?_)))))))))))); cases h1 : (!l0 p e)
   ·
    have q1 : (l0 p e) = true := (Eq.mp (bG2 _) h1); refine rF G _ h1 (wp_skip (b6 (wp_seq (j7 G (t8 3 [1, 2, 3, 7, 8, 4] hev) [0, 1, 2, 3, 4, 5, 6, 7, 8, 9, 10, 11, 38] (A6 c p e [dI m.vals, dR m.arrs, .box [.ref 7, .ref 8], dE f.kids, .box (eL f 10), .row 65 (D.events (E3 p m e).snd)]) [(2, bA false), (3, .ptr 5 0), (4, .ptr 6 0), (6, .ptr 9 0), (7, .ptr 11 0), (11, iA (E3 p m e).fst), (12, .ref 12), (13, bA (I2 p m e))] fun G => b6 (wp_seq (j7 G (t8 3 [1, 2, 3, 7, 8, 10] (hew (by assumption))) [0, 1, 2, 3, 4, 5, 6, 10, 11, 12, 37] (A6 c p e [dE f.kids, .box (eL f 7), .row 65 (D.events (E3 p m e).snd), .row 65 (D.events (E3 p m e).snd)]) [(2, bA false), (3, .ptr 5 0), (4, .ptr 6 0), (7, .ptr 8 0), (11, iA (E3 p m e).fst), (12, .ref 9), (13, bA (I2 p m e)), (14, iA (E3 p m e).fst), (15, .ref 10), (16, bA (I2 p m e))] fun G => b6 (wp_seq (j7 G (t8 2 [1, 2, 3, 7] (hf2 (by assumption))) [0, 1, 2, 3, 4, 5, 6, 7, 8, 9, 10, 27, 59] (A6 c p e [dE f.kids, .box (eL f 7), .row 65 (D.events (E3 p m e).snd), .row 65 (D.events (E3 p m e).snd), dE f.kids, .box (eL f 11)]) [(2, bA false), (3, .ptr 5 0), (4, .ptr 6 0), (7, .ptr 8 0), (11, iA (E3 p m e).fst), (12, .ref 9), (13, bA (I2 p m e)), (14, iA (E3 p m e).fst), (15, .ref 10), (16, bA (I2 p m e)), (17, .ptr 12 0), (18, bA true)] fun G => b6 (wp_seq ?_))))))))); cases h2 : (flB (xlD p f) (xlD p e))
    · exact False.elim (bd2 (h6 (by with_reducible assumption)) (by with_reducible assumption))
    · refine O3 G (y9 (m9 2 [1, 2, 3, 7] (hvl (by assumption)) (m9 16 [9, 10] (i6.lend hts [.row 65, .row 65]) (m9 21 [1, 2, 3, 7] (bn4 p f) (m9 24 [1, 2, 3, 4] (bn4 p e) (m9 25 [] (av0 (xlD p f) (xlD p e)) (m9 33 [11, 7] hsm y8)))))) (fc (b := true) rfl (fc (a := I2 p m e == I2 p m e) (b := true) (by simp [h0, h1, q1, h2]) (fc (a := (E3 p m e).fst == (E3 p m e).fst) (b := true) (by simp [h0, h1, q1, h2]) (fc h2 fz)))) (us [(4, 6, 0), (1007, 1007, 0), (9, 11, 1), (1012, 1012, 1), (14, 16, 2), (1017, 1017, 2), (19, 25, 0), (1026, 1026, 0), (28, 28, 3), (1029, 1029, 3), (31, 33, 0), (1034, 1034, 0)])) [0, 0, 3, 7, 15, 15, 63, 127, 255, 511, 511, 2047, 4095, 8191, 16383, 16383, 65535, 131071, 262143, 524287, 524287, 2097151, 524287, 524287, 16777215, 33554431, 67108863, 134217727, 268435455, 536870911, 1073741823, 2147483647, 2147483647, 8589934591, 17179869183, 34359738367] [0] [dY c] [(2, bA true)] fun G => b6 (wp_ret ?_); exact I7 G [0]
   · have q1 : (l0 p e) = false := (Eq.mp (bF8 _) h1); refine rT G _ h1 (wp_seq (j7 G (y9 (m9 6 [10, 12] hsm y8) (fc (a := l0 p e == l0 p e) (b := true) (by rw [q1]; rfl) fz) [(4, 0), (5, 0), (6, 0), (1007, 0)]) (rg 12) (A6 c p e [dI m.vals, dR m.arrs, .box [.ref 7, .ref 8], dE f.kids, .box (eL f 10)]) [(2, bA true), (3, .ptr 5 0), (4, .ptr 6 0), (6, .ptr 9 0), (7, .ptr 11 0)] fun G => b6 (wp_ret (j8 ?_)))); exact I7 G [0]
  · refine wp_seq (l5 G f7 [(2, bA true)] fun G => b6 (wp_ret (j8 ?_))); exact I7 G [0]
theorem bi5 {x : Int} (h : m8 x = true) : flB x x = true := by
 unfold m8 at h
 simp only [bE8, decide_eq_true_eq] at h
 have h' : x = 0 ∨ x = 1 ∨ x = 2 ∨ x = 3 := by omega
 rcases h' with rfl | rfl | rfl | rfl <;> decide +kernel
theorem bi6 {p : f5} {e : b5} (h : l0 p e = true) : flB (xlD p (feX p e)) (xlD p e) = true := by
 rw [au9 h, bn7 (aW3 h), bn7 h]
 have hh : A5 p.vars p.arrays = true := by
  unfold l0 at h
  rw [bE8] at h
  exact h.1
 unfold A5 at hh
 simp only [bE8, decide_eq_true_eq] at hh
 have hl := fun e => a85 hh.1.1.1.1 hh.1.1.1.2 5 e
 exact bi7 (bi5 (hl e)) (hl (b9 e)) (af8 p.vars p.arrays _ _ 5 e (aT9 h)).2.1
theorem aQ9 {p : f5} {e : b5} (h : l0 p e = true) : feX p (feX p e) = feX p e ∧ l0 p (feX p e) = true := by
 have h2 := aW3 h
 rw [au9 h]
 exact ⟨(au9 h2).trans (aQ5 e), h2⟩
theorem by2 (c : List UInt8) : i6.ok Try.prog ⟨3, [.ref 0], [dY c], [dY c], bA true⟩ := by
 obtain ⟨p, e, hd⟩ := bb9 c
 obtain ⟨q, m, hm⟩ := bb8 c
 refine bt4 c p q m e (feX p e) hd (a57 c q m hm) rfl (bn5 p e) (by0 p e) (fun h => ?_) (fun h => ?_) (fun h => ?_) ?_ (fun h => bi6 h) ?_
 ·have := bn5 p (feX p e)
  unfold feC at this
  rw [(aQ9 h).1, (aQ9 h).2] at this
  exact this
 ·rw [au9 h]; exact bx7 p m e h
 ·have := bc9 p (feX p e)
  rw [(aQ9 h).2] at this
  exact this
 ·have := by4 (feX p e) (feX p e)
  unfold ixS at this
  rw [bo3] at this
  exact this
 ·have := by6 (E3 p m e).2 (E3 p m e).2
  rw [decide_eq_true rfl] at this
  exact this
theorem bz8 (u : Value) (c : List UInt8) (w : World) (hp : K9 w u c.length 1 (u8s c)) : Calls Try.prog 3 #[u] w fun e w' => e = .returned (.bool true) ∧ Below w.heap.size w w' :=
 a12 (by2 c) u w (hp.rowF fun _ _ => trivial)
end Go.Proofs.Ytmokkddidcmglaa.exLFoldExpr

namespace Go.Proofs.Ytmokkddidcmglaa.exLFoldExpr
open Go Go.RowKit Go.ChangeShapes Go.WideShapes Go.ChangeAt Go.Proofs.Ytmokkddidcmglaa
theorem lifted (os : Os) (started : os.Started) (H : Type) (enc : TypeId × Value → H) :
  ReturnsInHanded {} Try.checked os 3 .any (Rows.fnFoldExprSpec.pre6 enc Try.prog Try.f3 Rows.fnFoldExprRow.domain false) (Rows.fnFoldExprSpec.post enc Try.prog Try.f3 false true false false) := by
 refine returnsInHanded_of_change (C := Try.checked) own started (by kernel_rfl) Try.func3
  (ChangeSpec.witness6 (enc := enc) (C := Try.checked) false ⟨#[], #[.slice none 0 0], []⟩ 8 (by kernel_rfl) (by kernel_rfl) (by kernel_rfl) (by kernel_rfl)) ?_
 intro W base args ds gs before hval0 hW hcnd _
 have hval : ∀ (j : Nat) t v, Try.f3.params[j]? = some t → args[j]? = some v → Value.okWide Try.prog W .any base t v := hval0
 have hW' := hW
 obtain ⟨p, q, hA0, hV, rfl, hfz, hnd⟩ := hW
 have hA : DataW.TrodAll enc Try.prog W 0 (fun _ => true) true Try.f3.params.toList args.toList ds p := hA0
 rw [Try.params3] at hA hval
 obtain ⟨v0, vs0, d0, ds0, p0, q0, hargs, rfl, rfl, h0, r0⟩ := trodAll_cons hA
 obtain ⟨rfl, rfl, rfl⟩ := trodAll_nil r0
 obtain rfl : args = #[v0] := by cases args; simp_all
 obtain ⟨rfl, rfl⟩ := trodVars_none hV
 have k0 := h0
 have lt0 : ∀ x ∈ p0, x.block < W.heap.size := by obtain ⟨m, hm⟩ := k0; exact DataW.trod_lt m _ _ _ hm
 obtain ⟨a0, len0, cap0, rfl⟩ := okWide_slice Try.underlying22 (hval 0 22 v0 rfl rfl)
 obtain ⟨x0, hx0⟩ : ∃ l : List UInt8, K9 W (.slice a0 len0 cap0) l.length 1 (u8s l) := by
  obtain ⟨fuel, hf⟩ := h0
  exact av1 Try.underlying22 hf
 clear hA0 hval0
 refine (bz8 _ x0 W hx0).mono fun e W' ⟨he, bel⟩ => ?_
 subst he
 exact ⟨_, rfl, _, _, _, [], _, [], hW', trodAll_mk1 (shut_bool Try.underlying4 _), (trodAll_cons_mk (Below.trod bi3 (by kernel_rfl) (of_decide_eq_true (by kernel_rfl)) k0 bel lt0) trodAll_mk0), rfl, bel.frame _, fun h => by cases h⟩
theorem facts : joinedFacts Try.pinned.checked.prog 3 Try.f3 Rows.fnFoldExprSpec Rows.fnFoldExprRow = true := by
 unfold joinedFacts
 rw [may_enter, lifts_final, make_is]
 kernel_rfl
theorem over : Rows.fnFoldExprRow.holds Try.pinned (OpenSpec.ofChange Rows.fnFoldExprSpec) :=
 OpenClaim.holds_of_wide 3 Try.f3 rfl rfl rfl rfl rfl rfl rfl ⟨rfl, rfl, rfl, rfl, rfl⟩ rfl rfl rfl rfl rfl (by kernel_rfl) Try.func3 facts
  (of_decide_eq_true (by kernel_rfl)) (by unfold Func.isWrapper; first | (rw [if_pos (by decide +kernel)]; kernel_rfl) | (rw [if_neg (by decide +kernel)]; exact ⟨rfl, rfl⟩))
  (fun os started H enc _ => lifted os started H enc)
theorem proved : Rows.FnFoldExprSaid := over
end Go.Proofs.Ytmokkddidcmglaa.exLFoldExpr
