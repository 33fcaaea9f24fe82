/- Part 7: functions on the way, plain laws. Conditions: as said. -/
import Derived.Test.YtgmhmijcnlfmfaaGreatK4
import Derived.Test.YtgmhmijcnlfmfaaGreatK5
import Derived.Test.YtgmhmijcnlfmfaaGreatK6
set_option maxRecDepth 100000
set_option maxHeartbeats 16000000
set_option linter.unusedVariables false
set_option linter.unusedSimpArgs false
open Bool renaming not_eq_false' → bW7, not_eq_true' → bW6
open List renaming all_eq_true → bX0, getD_eq_getElem?_getD → bW3, getElem?_eq_getElem → bW4, getElem?_eq_none → bY2, getElem?_eq_some_iff → bX1, getElem_mem → bX7, replicate → bW8, take → bW9, take_of_length_le → bX3
open Nat renaming le_refl → bX4, le_trans → bX9
open True renaming intro → bX6

namespace Go.Proofs.YtgmhmijcnlfmfaaGreat
open Go Go.RowKit
theorem bi0 {ars vs : List Int} {m pc : Int} {ss : List b6} (h : d8.ok Tryz.prog (lbC ars m pc vs [] ss)) : d8.ok Tryz.prog (lnC ars m pc vs ss) :=
 d8.nilArg (pre := [qI vs, dI ars, dT ss]) h 10 [0, 1, 2, 4, 5] rfl rfl rfl rfl rfl
theorem av5 (ars : List Int) (nv : Nat) : ∀ (dd : Nat) (tt : List b6) (m pc : Int) (vs : List Int) (bd : List b6), tt.all (d7 nv ars.length dd) = true → nv ≤ vs.length → vs.length + 4 * c9 tt ≤ 90000 → c9 bd + 130 * c9 tt ≤ 600000 → d8.ok Tryz.prog (lbC ars m pc vs bd tt)
 | 0, tt, m, pc, vs, bd, hs, hv, r1, r2 => by
  have h0 : tt = [] := by
   cases tt with
   | nil => rfl
   | cons a r => simp [d7] at hs
  subst h0
  exact aC3 ars nv 0 [] rfl (fun _ _ _ _ _ h => absurd h (by simp)) (fun _ _ _ _ _ _ h => absurd h (by simp)) m pc vs bd hv r1 r2
 | dd + 1, tt, m, pc, vs, bd, hs, hv, r1, r2 => by
  have hB := av5 ars nv dd
  have hI : ∀ (tt : List b6) (m pc : Int) (vs : List Int) (bd : List b6), tt.all (d7 nv ars.length dd) = true → nv ≤ vs.length → vs.length + 4 * c9 tt ≤ 90000 → 130 * c9 tt ≤ 600000 → d8.ok Tryz.prog (bs1 ars m pc vs bd tt) := fun tt m pc vs bd h1 h2 h3 h4 => a74 ars m pc vs bd tt (bi0 (hB tt m pc vs [] h1 h2 h3 (by simpa [c9] using h4)))
  exact aC3 ars nv dd tt hs (fun t k3 hh hbb hbe _ m pc vs bd hv r1 r2 => bB1 ars nv dd t k3 hh hbb hbe hB hI m pc vs bd hv r1 r2) (fun tt m pc vs bd h1 _ h2 h3 h4 => hI tt m pc vs bd h1 h2 h3 h4) m pc vs bd hv r1 r2
abbrev bf9 (p : b8) : b8 := ⟨(i6 p.arrays p.body (-1) 0 (p.vars, [])).1, p.arrays, (i6 p.arrays p.body (-1) 0 (p.vars, [])).2⟩
theorem bC2 {p : b8} (h : (J2 p false).1 = 0) (h2 : e6 (bf9 p) = true) : okL p = true := bx6 h h2
theorem bC1 {p : b8} (h2 : e6 (bf9 p) = false) : okL p = false := bx7 h2
theorem bC9 {p : b8} (h : (J2 p false).1 = 0) (h2 : e6 (bf9 p) = true) : T5 p = bf9 p := bx8 (bx6 h h2)
theorem bC8 {p : b8} (h2 : e6 (bf9 p) = false) : T5 p = ⟨[], [], []⟩ := bh9 (bx7 h2)
theorem bl2 (p : b8) (hp : e6 p = true) : d8.ok Tryz.prog (lnC p.arrays (-1) 0 p.vars p.body) := by
 have h := ag8 hp
 exact bi0 (av5 p.arrays p.vars.length 5 p.body (-1) 0 p.vars [] (aC9 hp).2.2.2 (bX4 _) (by omega) (by simp only [c9]; omega))
abbrev ad5 (r0 : List (Nat × AV)) : List (Nat × AV) := (1, .ptr 3 0) :: (2, .ptr 4 0) :: (3, bA false) :: r0
theorem aH0 (p : b8) (hb : p.size ≤ 1048576) (hp : ¬ (J2 p false).1 = 0) : d8.ok Tryz.prog ⟨29, [pA 0], pS p, pS p ++ pS (T5 p), .tup [pA 3, bA (okL p)]⟩ := by
 refine t8 43 Tryz.func29 [dI p.vars, dI p.arrays, dT p.body] [(0, pA 0)] fun G => ?_; have hno := bK3 hp
 have hb1 : c9 p.body ≤ 1048576 := by unfold b8.size at hb; omega
 refine wp_seq (e5 G c3 [0, 1, 2, 3, 11] [dI p.vars, dI p.arrays, dT p.body, .box (pL 0), .box [.v (.slice none 0 0), .v (.slice none 0 0), .v (.slice none 0 0)]] (ad5 []) fun G => b5 (wp_seq (d9 G (n5 1 [0, 1, 2] (P8 p (by assumption))) [(4, iA (J2 p false).fst)] fun G => b5 (wp_seq (wp_seq (w3 G c3 (ad5 [(15, bA ((J2 p false).fst != 0))]) fun G => b5 ?_)))))); cases h0 : ((J2 p false).fst != 0)
 ·have q0 := bne_eq_false_iff_eq.1 h0; exact False.elim (hp (by with_reducible assumption))
 ·have q0 := bne_iff_ne.1 h0; refine rT G _ h0 (wp_seq (w3 G c3 (ad5 []) fun G => b5 (wp_ret (c8 ?_)))); obtain ⟨ρ, G⟩ := G.nil 5 0 (.ints []) 1 [dI p.vars, dI p.arrays, dT p.body, .box (pL 0), .box [.ref 5, .v (.slice none 0 0), .v (.slice none 0 0)]] (ad5 []); obtain ⟨ρ, G⟩ := G.nil 6 0 (.ints []) 1 [dI p.vars, dI p.arrays, dT p.body, .box (pL 0), .box [.ref 5, .ref 6, .v (.slice none 0 0)], .row 0 (D.ints [])] (ad5 []); obtain ⟨ρ, G⟩ := G.nil 7 0 (.stmts []) 10 [dI p.vars, dI p.arrays, dT p.body, .box (pL 0), .box (pL 5), .row 0 (D.ints []), .row 0 (D.ints [])] (ad5 []); obtain ⟨ρ, G⟩ := G.frz [.no, .no, .no, .no, .no, .row 0, .row 0, .row 0] [dI p.vars, dI p.arrays, dT p.body, .box (pL 0), .box (pL 5), dI [], dI [], dT []] (ad5 []); exact M0 (.tup [pA 5, bA false]) G [0, 1, 2, 5, 6, 7] (by have e1 : (okL p : Bool) = (false) := (by assumption); (first | rw [e1] | simp only [e1]) <;> rfl) (by show _ = mR [0, 1, 2, 5, 6, 7] [dI p.vars, dI p.arrays, dT p.body, dI (T5 p).vars, dI (T5 p).arrays, dT (T5 p).body]; rw [bh9 hno] <;> rfl)
abbrev aE8 : It := .box [.v (.slice none 0 0), .v (.slice none 0 0), .v (.slice none 0 0)]
abbrev ak2 (p : b8) (r0 : List It) : List It := .row 3 (D.ints (i6 p.arrays p.body (-1) 0 (p.vars, [])).fst) :: .row 3 (D.ints p.arrays) :: .tree (D.stmts (i6 p.arrays p.body (-1) 0 (p.vars, [])).snd) :: r0
abbrev C2 (p : b8) (r0 : List It) : List It := dI p.vars :: dI p.arrays :: dT p.body :: r0
theorem aG9 (p : b8) (hb : p.size ≤ 1048576) (hf : (J2 p false).1 = 0) : d8.ok Tryz.prog ⟨29, [pA 0], pS p, pS p ++ pS (T5 p), .tup [pA 3, bA (okL p)]⟩ := by
  have hpv := U7 hf; have hB := bl2 p hpv; refine t8 43 Tryz.func29 (C2 p []) [(0, pA 0)] fun G => ?_; have hz := a41 (U7 hf); have hv := ag8 (U7 hf)
  have hzb : c9 (av6 p).2 ≤ 1048576 := by omega
  have hsum : (av6 p).1.length + p.arrays.length + c9 (av6 p).2 ≤ 1048576 := by omega
  refine wp_seq (e5 G c3 [0, 1, 2, 3, 11] (C2 p [.box (pL 0), aE8]) [(1, .ptr 3 0), (2, .ptr 4 0), (3, bA false)] fun G => b5 (wp_seq (d9 G (n5 1 [0, 1, 2] (P8 p (by omega))) [(4, iA (J2 p false).fst)] fun G => b5 (wp_seq (wp_seq (w3 G c3 [(1, .ptr 3 0), (2, .ptr 4 0), (3, bA false), (15, bA ((J2 p false).fst != 0))] fun G => b5 ?_)))))); cases h0 : ((J2 p false).fst != 0)
  ·
   have q0 := bne_eq_false_iff_eq.1 h0; refine rF G _ h0 (wp_skip (b5 (wp_seq (e5 G (n5 1 [0, 1, 2] (S9 p.vars p.arrays p.body (by assumption))) [0, 1, 2, 4, 13, 14, 15, 21] (C2 p [aE8, .row 3 (D.ints p.vars), .row 3 (D.ints p.arrays), .tree (D.stmts p.body), .box [.ref 4, .ref 5, .tref 6]]) [(2, .ptr 3 0), (3, bA false), (6, .ptr 7 0)] fun G => b5 (wp_seq ?_))))); obtain ⟨ρ, G⟩ := G.frz [.no, .no, .no, .no, .no, .row 3] (C2 p [.box [.v (.slice none 0 0), .v (.slice none 0 0), .v (.slice none 0 0)], .row 3 (D.ints p.vars), dI p.arrays, .tree (D.stmts p.body), .box [.ref 4, .ref 5, .tref 6]]) [(2, .ptr 3 0), (3, bA false), (6, .ptr 7 0)]; obtain ⟨ρ, G⟩ := G.frz [.no, .no, .no, .no, .no, .no, .tree] (C2 p [.box [.v (.slice none 0 0), .v (.slice none 0 0), .v (.slice none 0 0)], .row 3 (D.ints p.vars), dI p.arrays, dT p.body, .box (pL 4)]) [(2, .ptr 3 0), (3, bA false), (6, .ptr 7 0)]; refine e5 G (n5 8 [4, 5, 6] hB) [0, 1, 2, 3, 5, 72, 73, 80] (C2 p [aE8, dI p.arrays, .row 3 (D.ints (i6 p.arrays p.body (-1) 0 (p.vars, [])).fst), .row 75 (D.stmts (i6 p.arrays p.body (-1) 0 (p.vars, [])).snd), .box [.ref 5, .ref 4, .v (.slice none 0 0), .ref 6]]) [(2, .ptr 3 0), (3, bA false), (7, .ptr 7 0)] fun G => b5 (wp_seq ?_); obtain ⟨ρ, G⟩ := G.frz [.no, .no, .no, .no, .no, .row 3] (C2 p [.box [.v (.slice none 0 0), .v (.slice none 0 0), .v (.slice none 0 0)], dI p.arrays, dI (i6 p.arrays p.body (-1) 0 (p.vars, [])).fst, .row 75 (D.stmts (i6 p.arrays p.body (-1) 0 (p.vars, [])).snd), .box [.ref 5, .ref 4, .v (.slice none 0 0), .ref 6]]) [(2, .ptr 3 0), (3, bA false), (7, .ptr 7 0)]; obtain ⟨ρ, G⟩ := G.frz [.no, .no, .no, .no, .no, .no, .row 75] (C2 p [.box [.v (.slice none 0 0), .v (.slice none 0 0), .v (.slice none 0 0)], dI p.arrays, dI (i6 p.arrays p.body (-1) 0 (p.vars, [])).fst, dT (i6 p.arrays p.body (-1) 0 (p.vars, [])).snd, .box [.ref 5, .ref 4, .v (.slice none 0 0), .ref 6]]) [(2, .ptr 3 0), (3, bA false), (7, .ptr 7 0)]; refine e5 G (n5 9 [5, 4, 6] (S9 ((i6 p.arrays p.body (-1) 0 (p.vars, [])).fst) p.arrays ((i6 p.arrays p.body (-1) 0 (p.vars, [])).snd) (by assumption))) [0, 1, 2, 3, 80, 81, 82, 88] (C2 p (aE8 :: (ak2 p [.box [.ref 4, .ref 5, .tref 6]]))) [(2, .ptr 3 0), (3, bA false), (8, .ptr 7 0)] fun G => b5 (wp_seq (wp_seq (d9 G (n5 1 [4, 5, 6] (d8.lend (m0 ((i6 p.arrays p.body (-1) 0 (p.vars, [])).fst) p.arrays ((i6 p.arrays p.body (-1) 0 (p.vars, [])).snd) (by assumption)) [.row 3, .row 3, .tree])) [(40, .v (.bool !e6 (b8.mk (i6 p.arrays p.body (-1) 0 (p.vars, [])).fst p.arrays (i6 p.arrays p.body (-1) 0 (p.vars, [])).snd)))] fun G => b5 ?_))); cases h1 : (!e6 (b8.mk (i6 p.arrays p.body (-1 : Int) (0 : Int) (p.vars, [])).fst p.arrays (i6 p.arrays p.body (-1 : Int) (0 : Int) (p.vars, [])).snd))
   · have q1 : (e6 (b8.mk (i6 p.arrays p.body (-1) 0 (p.vars, [])).fst p.arrays (i6 p.arrays p.body (-1) 0 (p.vars, [])).snd)) = true := (Eq.mp (bW7 _) h1); refine rF G _ h1 (wp_skip (b5 (wp_seq (e5 G c3 (rg 7) (C2 p (.box [.ref 4, .ref 5, .tref 6] :: (ak2 p []))) [(2, .ptr 3 0), (3, bA true)] fun G => b5 (wp_ret ?_))))); obtain ⟨ρ, G⟩ := G.frz [.no, .no, .no, .no, .row 3, .row 3, .tree] (C2 p [.box (pL 4), dI (i6 p.arrays p.body (-1) 0 (p.vars, [])).fst, dI p.arrays, dT (i6 p.arrays p.body (-1) 0 (p.vars, [])).snd]) [(2, .ptr 3 0), (3, bA true)]; exact M0 (.tup [pA 4, bA true]) G [0, 1, 2, 4, 5, 6] (by have e1 : (okL p : Bool) = (true) := (bC2 hf (by with_reducible assumption)); (first | rw [e1] | simp only [e1]) <;> rfl) (by show _ = mR [0, 1, 2, 4, 5, 6] (C2 p [dI (T5 p).vars, dI (T5 p).arrays, dT (T5 p).body]); rw [bC9 hf (by with_reducible assumption)] <;> rfl)
   · have q1 : (e6 (b8.mk (i6 p.arrays p.body (-1) 0 (p.vars, [])).fst p.arrays (i6 p.arrays p.body (-1) 0 (p.vars, [])).snd)) = false := (Eq.mp (bW6 _) h1); refine rT G _ h1 (wp_seq (w3 G c3 [(2, .ptr 3 0), (3, bA false), (8, .ptr 7 0)] fun G => b5 (wp_ret (c8 ?_)))); obtain ⟨ρ, G⟩ := G.nil 8 0 (.ints []) 1 (C2 p (.box [.ref 8, .v (.slice none 0 0), .v (.slice none 0 0)] :: (ak2 p [.box [.ref 4, .ref 5, .tref 6]]))) [(2, .ptr 3 0), (3, bA false), (8, .ptr 7 0)]; obtain ⟨ρ, G⟩ := G.nil 9 0 (.ints []) 1 (C2 p (.box [.ref 8, .ref 9, .v (.slice none 0 0)] :: (ak2 p [.box [.ref 4, .ref 5, .tref 6], .row 0 (D.ints [])]))) [(2, .ptr 3 0), (3, bA false), (8, .ptr 7 0)]; obtain ⟨ρ, G⟩ := G.nil 10 0 (.stmts []) 10 (C2 p (.box (pL 8) :: (ak2 p [.box [.ref 4, .ref 5, .tref 6], .row 0 (D.ints []), .row 0 (D.ints [])]))) [(2, .ptr 3 0), (3, bA false), (8, .ptr 7 0)]; obtain ⟨ρ, G⟩ := G.frz [.no, .no, .no, .no, .no, .no, .no, .no, .row 0, .row 0, .row 0] (C2 p (.box (pL 8) :: (ak2 p [.box [.ref 4, .ref 5, .tref 6], dI [], dI [], dT []]))) [(2, .ptr 3 0), (3, bA false), (8, .ptr 7 0)]; exact M0 (.tup [pA 8, bA false]) G [0, 1, 2, 8, 9, 10] (by have e1 : (okL p : Bool) = (false) := (bC1 (by with_reducible assumption)); (first | rw [e1] | simp only [e1]) <;> rfl) (by show _ = mR [0, 1, 2, 8, 9, 10] (C2 p [dI (T5 p).vars, dI (T5 p).arrays, dT (T5 p).body]); rw [bC8 (by with_reducible assumption)] <;> rfl)
  · have q0 := bne_iff_ne.1 h0; exact False.elim (by exact absurd hf (by omega))
theorem aS1 (p : b8) (hb : p.size ≤ 1048576) : d8.ok Tryz.prog ⟨29, [pA 0], pS p, pS p ++ pS (T5 p), .tup [pA 3, bA (okL p)]⟩ := by
 by_cases hf : (J2 p false).1 = 0
 ·exact aG9 p hb hf
 ·exact aH0 p hb hf
theorem d8.twice {P : Program} {f : FuncId} {args : List AV} {pre S : List It} {d : D} {res : AV} {i : Nat} (hc : d8.ok P ⟨f, args, pre, S, res⟩) (S1 : List It) (hi : S[i]? = some (.dat d)) (hl : pre.length ≤ S.length)
  (hS : S.all (fun x => J0 S.length x.ids) = true) (hg : J0 S.length res.ids = true) (hl1 : S1.length = S.length + 1) (hd : j0 S1 S.length = .dat d) (h2 : ∀ ρ : Nat → Value, ρ S.length = ρ i → ∀ j, j < S.length → (j0 S1 j).res ρ j = (j0 S j).res ρ j) : d8.ok P ⟨f, args, pre, S1, res⟩ := by
 intro ι φ ψ w0 w F ρ M
 refine (hc ι φ ψ w0 w F ρ M).mono ?_
 rintro x w' ⟨ρ1, h1, rfl, M1⟩
 have hi' : j0 S i = .dat d := by simp [j0, hi]
 have hlt : i < S.length := (bX1.1 hi).1
 have hinv : Inv (j0 S) ρ1 [S.length] := fun ρ' h j => by
  by_cases hj : j < S.length
  ·refine It.res_congr _ (fun k hk => h k ?_) (.inr (.inr (h j (by simp; omega))))
   have h1 := t4 (bX0.1 hS (S[j]) (bX7 hj)) k (by simpa [j0, bW3, bW4 hj] using hk)
   simp; omega
  ·rw [show j0 S j = .none by simp only [j0, bW3, bY2 (Nat.le_of_not_lt hj)]; rfl]; rfl
 obtain ⟨ρ2, h3, M2, h4⟩ := M1.newDat (id := S.length) (by simp [j0]) hinv (M1.datAt hi')
 have hρ : ρ2 i = ρ1 i := h3 i (by simp; omega)
 have e : j1 F ρ2 (i8 (j0 S) [(S.length, .dat d)]) = j1 F ρ2 (j0 S1) := by
  funext k
  cases k with
  | inl q => rfl
  | inr j =>
   simp only [j1, i8]
   by_cases hj : j = S.length
   ·subst hj; rw [if_pos rfl, hd]
   ·rw [if_neg hj]
    by_cases hj2 : j < S.length
    ·exact (h2 ρ2 (by rw [← h4, hρ]) j hj2).symm
    ·rw [l6 (by omega), l6 (by omega)]
 rw [e] at M2
 refine ⟨ρ2, fun k hk => by
  have hk : k < pre.length := hk
  rw [h3 k (by simp; omega)]; exact h1 k hk, ?_, M2⟩
 exact congrArg _ (AV.val_congr res fun k hk => by
  have := t4 hg k hk
  exact h3 k (by simp; omega)).symm
theorem ba4 (c : List UInt8) : d8.ok Tryz.prog ⟨15, [.ref 0], [dY c], [dY c, .box [.ref 2, iA 0], dY (bsD c)], .ptr 1 0⟩ := by
 by_cases h : c.length ≤ 2000
 ·have e : bsD c = c := bX3 h
  rw [e]
  refine d8.twice (aZ1 c h) (i := 0) _ rfl (by show (1 : Nat) ≤ 2; omega) rfl rfl rfl rfl fun ρ hρ j hj => ?_
  have hj : j < 2 := hj
  match j, hj with
  | 0, _ => rfl
  | 1, _ =>
   have hρ : ρ 2 = ρ 0 := hρ
   simp only [j0, bW3, List.getElem?_cons_succ, List.getElem?_cons_zero, Option.getD_some, It.res, AV.vals, AV.val, hρ]
 ·exact aZ0 c (by omega)
abbrev prC (b : List UInt8) (j : Int) (p q : b8) (k : Int) : d8 := ⟨16, [.ptr 0 0], [.box [.ref 1, iA j], dY b], [.box [.ref 1, iA k], dY b] ++ pS p ++ pS q, .tup [pA 2, pA 5]⟩
theorem bh8 {p : b8} {x : Bool} (hb : p.size ≤ 1048576) (h : okL p = x) : d8.ok Tryz.prog ⟨29, [pA 0], pS p, pS p ++ pS (T5 p), .tup [pA 3, bA x]⟩ := h ▸ aS1 p hb
theorem bL9 {b : List UInt8} {j : Int} {p : b8} {q : Int} (h : F9 b 3 j = (p, q)) (r0 : 0 ≤ j) (r1 : j ≤ 1000000) : d8.ok Tryz.prog ⟨28, [.ptr 0 0], [.box [.ref 1, iA j], dY b], [.box [.ref 1, iA q], dY b] ++ oP p, oA 2⟩ := by
 have := aR2 b j r0 (by omega)
 unfold fpC at this
 rw [h] at this; exact this
theorem a37 {b : List UInt8} {j k : Int} {p q : b8} (h : Q7 b p j = (q, k)) (hb : p.size ≤ 1000000) (r0 : 0 ≤ j) (r1 : j ≤ 100000000) : d8.ok Tryz.prog ⟨31, [.ptr 0 0, pA 2], [.box [.ref 1, iA j], dY b] ++ pS p, [.box [.ref 1, iA k], dY b] ++ pS p ++ oP q, oA 5⟩ := by
 have := aY8 b p j hb r0 r1
 unfold mtC at this
 rw [h] at this; exact this
abbrev an6 : It := .box [.v (.slice none 0 0), .v (.slice none 0 0), .v (.slice none 0 0)]
abbrev bb7 (b : List UInt8) (q : Int) (p : b8) (r0 : List It) : List It := .box [.ref 1, iA q] :: dY b :: .box [.v (.slice none 0 0), .v (.slice none 0 0), .v (.slice none 0 0)] :: .box [.v (.slice none 0 0), .v (.slice none 0 0), .v (.slice none 0 0)] :: dI p.vars :: r0
abbrev aK8 (r0 : List (Nat × AV)) : List (Nat × AV) := (0, .ptr 0 0) :: (2, .ptr 2 0) :: (3, .ptr 3 0) :: (4, .ptr 7 0) :: r0
theorem bI8 (b : List UInt8) (j q k k2 : Int) (p p1 p2 : b8) (ho : okL p = false) (hb : p.size ≤ 1000000) (r0 : 0 ≤ j) (r1 : j ≤ 10000000) (r2 : 0 ≤ q ∧ q ≤ 10000000)
  (h1 : d8.ok Tryz.prog ⟨28, [.ptr 0 0], [.box [.ref 1, iA j], dY b], [.box [.ref 1, iA q], dY b] ++ oP p, oA 2⟩)
  (h2 : d8.ok Tryz.prog ⟨31, [.ptr 0 0, pA 2], [.box [.ref 1, iA q], dY b] ++ pS p, [.box [.ref 1, iA k], dY b] ++ pS p ++ oP p1, oA 5⟩)
  (h3 : d8.ok Tryz.prog ⟨31, [.ptr 0 0, pA 2], [.box [.ref 1, iA k], dY b] ++ pS p1, [.box [.ref 1, iA k2], dY b] ++ pS p1 ++ oP p2, oA 5⟩) : d8.ok Tryz.prog (prC b j p p2 k2) := by
 have hl5 := h1; have hm1 := h2; have hm2 := h3; have hln := bh8 (show p.size ≤ 1048576 by omega) ho; refine t8 28 Tryz.func16 [.box [.ref 1, iA j], dY b] [(0, .ptr 0 0)] fun G => ?_; refine wp_seq (e5 G c3 [0, 1, 2, 10] [.box [.ref 1, iA j], dY b, an6, an6] [(0, .ptr 0 0), (2, .ptr 2 0), (3, .ptr 3 0)] fun G => b5 (wp_seq (e5 G (n5 1 [0, 1] hl5) [0, 1, 2, 3, 12, 13, 14, 20] [.box [.ref 1, iA q], dY b, an6, an6, .row 3 (D.ints p.vars), .row 3 (D.ints p.arrays), .tree (D.stmts p.body), .box [.ref 4, .ref 5, .tref 6]] (aK8 []) fun G => b5 (wp_seq ?_)))); obtain ⟨ρ, G⟩ := G.frz [.no, .no, .no, .no, .row 3] (bb7 b q p [.row 3 (D.ints p.arrays), .tree (D.stmts p.body), .box [.ref 4, .ref 5, .tref 6]]) (aK8 []); obtain ⟨ρ, G⟩ := G.frz [.no, .no, .no, .no, .no, .row 3] (bb7 b q p [dI p.arrays, .tree (D.stmts p.body), .box [.ref 4, .ref 5, .tref 6]]) (aK8 []); obtain ⟨ρ, G⟩ := G.frz [.no, .no, .no, .no, .no, .no, .tree] (bb7 b q p [dI p.arrays, dT p.body, .box (pL 4)]) (aK8 []); refine e5 G (n5 1 [4, 5, 6] hln) [0, 1, 2, 3, 4, 5, 6, 7, 16, 17, 18, 48] [.box [.ref 1, iA q], dY b, an6, an6, dI p.vars, dI p.arrays, dT p.body, .box (pL 4), dI (T5 p).vars, dI (T5 p).arrays, dT (T5 p).body, .box (pL 8)] (aK8 [(5, .ptr 11 0), (6, bA false)]) fun G => b5 (wp_seq (wp_seq (d9 G (z4 (fc (b := true) rfl fz) [(3, 0), (4, 0), (5, 0), (1006, 0)]) [(20, bA true)] fun G => b5 (rT G true (by kernel_rfl) (e5 G (l9 (f6 3 [0, 1, 4, 5, 6] hm1 (f6 4 [0, 1, 36, 37, 38] (d8.lend hm2 [.no, .no, .row 3, .row 3, .tree]) l8)) fz []) [0, 1, 2, 3, 4, 5, 6, 7, 11, 44, 45, 46] [.box [.ref 1, iA k2], dY b, an6, an6, dI p.vars, dI p.arrays, dT p.body, .box (pL 4), .box [.ref 9, .ref 10, .tref 11], .row 3 (D.ints p2.vars), .row 3 (D.ints p2.arrays), .tree (D.stmts p2.body)] [(2, .ptr 2 0), (3, .ptr 3 0), (4, .ptr 7 0), (5, .ptr 8 0)] fun G => b5 (wp_seq (F6 G c3 [0, 0, 1, 7] [0, 1, 2, 3, 4, 5, 6, 9, 10, 11] [.box [.ref 1, iA k2], dY b, .box (pL 4), .box [.ref 7, .ref 8, .tref 9], dI p.vars, dI p.arrays, dT p.body, .row 3 (D.ints p2.vars), .row 3 (D.ints p2.arrays), .tree (D.stmts p2.body)] [(2, .ptr 2 0), (3, .ptr 3 0)] fun G => b5 (wp_ret ?_)))))))); obtain ⟨ρ, G⟩ := G.frz [.no, .no, .no, .no, .no, .no, .no, .row 3, .row 3, .tree] [.box [.ref 1, iA k2], dY b, .box (pL 4), .box (pL 7), dI p.vars, dI p.arrays, dT p.body, dI p2.vars, dI p2.arrays, dT p2.body] [(2, .ptr 2 0), (3, .ptr 3 0)]; exact A3 G [0, 1, 4, 5, 6, 7, 8, 9]
abbrev ac8 : It := .box [.v (.slice none 0 0), .v (.slice none 0 0), .v (.slice none 0 0)]
abbrev bb6 (b : List UInt8) (q : Int) (p : b8) (r0 : List It) : List It := .box [.ref 1, iA q] :: dY b :: .box [.v (.slice none 0 0), .v (.slice none 0 0), .v (.slice none 0 0)] :: .box [.v (.slice none 0 0), .v (.slice none 0 0), .v (.slice none 0 0)] :: dI p.vars :: r0
abbrev aA5 (r0 : List (Nat × AV)) : List (Nat × AV) := (0, .ptr 0 0) :: (2, .ptr 2 0) :: (3, .ptr 3 0) :: (4, .ptr 7 0) :: r0
theorem bI7 (b : List UInt8) (j q k k2 : Int) (p p1 p2 : b8) (ho : okL p = true) (hk : pk b q 8 = 0) (hb : p.size ≤ 1000000) (r0 : 0 ≤ j) (r1 : j ≤ 10000000) (r2 : 0 ≤ q ∧ q ≤ 10000000)
  (h1 : d8.ok Tryz.prog ⟨28, [.ptr 0 0], [.box [.ref 1, iA j], dY b], [.box [.ref 1, iA q], dY b] ++ oP p, oA 2⟩)
  (h2 : d8.ok Tryz.prog ⟨31, [.ptr 0 0, pA 2], [.box [.ref 1, iA (q + 1)], dY b] ++ pS p, [.box [.ref 1, iA k], dY b] ++ pS p ++ oP p1, oA 5⟩)
  (h3 : d8.ok Tryz.prog ⟨31, [.ptr 0 0, pA 2], [.box [.ref 1, iA k], dY b] ++ pS p1, [.box [.ref 1, iA k2], dY b] ++ pS p1 ++ oP p2, oA 5⟩) : d8.ok Tryz.prog (prC b j p p2 k2) := by
 have hl5 := h1; have hm1 := h2; have hm2 := h3; have hln := bh8 (show p.size ≤ 1048576 by omega) ho; refine t8 28 Tryz.func16 [.box [.ref 1, iA j], dY b] [(0, .ptr 0 0)] fun G => ?_; refine wp_seq (e5 G c3 [0, 1, 2, 10] [.box [.ref 1, iA j], dY b, ac8, ac8] [(0, .ptr 0 0), (2, .ptr 2 0), (3, .ptr 3 0)] fun G => b5 (wp_seq (e5 G (n5 1 [0, 1] hl5) [0, 1, 2, 3, 12, 13, 14, 20] [.box [.ref 1, iA q], dY b, ac8, ac8, .row 3 (D.ints p.vars), .row 3 (D.ints p.arrays), .tree (D.stmts p.body), .box [.ref 4, .ref 5, .tref 6]] (aA5 []) fun G => b5 (wp_seq ?_)))); obtain ⟨ρ, G⟩ := G.frz [.no, .no, .no, .no, .row 3] (bb6 b q p [.row 3 (D.ints p.arrays), .tree (D.stmts p.body), .box [.ref 4, .ref 5, .tref 6]]) (aA5 []); obtain ⟨ρ, G⟩ := G.frz [.no, .no, .no, .no, .no, .row 3] (bb6 b q p [dI p.arrays, .tree (D.stmts p.body), .box [.ref 4, .ref 5, .tref 6]]) (aA5 []); obtain ⟨ρ, G⟩ := G.frz [.no, .no, .no, .no, .no, .no, .tree] (bb6 b q p [dI p.arrays, dT p.body, .box (pL 4)]) (aA5 []); refine e5 G (n5 1 [4, 5, 6] hln) [0, 1, 2, 3, 4, 5, 6, 7, 16, 17, 18, 48] [.box [.ref 1, iA q], dY b, ac8, ac8, dI p.vars, dI p.arrays, dT p.body, .box (pL 4), dI (T5 p).vars, dI (T5 p).arrays, dT (T5 p).body, .box (pL 8)] (aA5 [(5, .ptr 11 0), (6, bA true)]) fun G => b5 (wp_seq (wp_seq (e5 G (l9 (f6 4 [0, 1] (B3 b q 8 (by omega) (by omega)) l8) (fc (b := false) rfl fz) [(3, 0), (4, 0), (5, 0), (1006, 0)]) (rg 12) [.box [.ref 1, iA (q + 1)], dY b, ac8, ac8, dI p.vars, dI p.arrays, dT p.body, .box (pL 4), dI (T5 p).vars, dI (T5 p).arrays, dT (T5 p).body, .box (pL 8)] (aA5 [(5, .ptr 11 0), (20, bA (pk b q 8 == 0))]) fun G => b5 ?_))); cases h0 : (pk b q (8 : Int) == 0)
 ·have q0 := ne_of_beq_false h0; exact False.elim (by omega)
 ·have q0 := eq_of_beq h0; refine rT G _ h0 (e5 G (l9 (f6 3 [0, 1, 4, 5, 6] hm1 (f6 4 [0, 1, 36, 37, 38] (d8.lend hm2 [.no, .no, .row 3, .row 3, .tree]) l8)) fz []) [0, 1, 2, 3, 4, 5, 6, 7, 11, 44, 45, 46] [.box [.ref 1, iA k2], dY b, ac8, ac8, dI p.vars, dI p.arrays, dT p.body, .box (pL 4), .box [.ref 9, .ref 10, .tref 11], .row 3 (D.ints p2.vars), .row 3 (D.ints p2.arrays), .tree (D.stmts p2.body)] [(2, .ptr 2 0), (3, .ptr 3 0), (4, .ptr 7 0), (5, .ptr 8 0)] fun G => b5 (wp_seq (F6 G c3 [0, 0, 1, 7] [0, 1, 2, 3, 4, 5, 6, 9, 10, 11] [.box [.ref 1, iA k2], dY b, .box (pL 4), .box [.ref 7, .ref 8, .tref 9], dI p.vars, dI p.arrays, dT p.body, .row 3 (D.ints p2.vars), .row 3 (D.ints p2.arrays), .tree (D.stmts p2.body)] [(2, .ptr 2 0), (3, .ptr 3 0)] fun G => b5 (wp_ret ?_)))); obtain ⟨ρ, G⟩ := G.frz [.no, .no, .no, .no, .no, .no, .no, .row 3, .row 3, .tree] [.box [.ref 1, iA k2], dY b, .box (pL 4), .box (pL 7), dI p.vars, dI p.arrays, dT p.body, dI p2.vars, dI p2.arrays, dT p2.body] [(2, .ptr 2 0), (3, .ptr 3 0)]; exact A3 G [0, 1, 4, 5, 6, 7, 8, 9]
abbrev an5 : It := .box [.v (.slice none 0 0), .v (.slice none 0 0), .v (.slice none 0 0)]
abbrev bb5 (b : List UInt8) (q : Int) (p : b8) (r0 : List It) : List It := .box [.ref 1, iA q] :: dY b :: .box [.v (.slice none 0 0), .v (.slice none 0 0), .v (.slice none 0 0)] :: .box [.v (.slice none 0 0), .v (.slice none 0 0), .v (.slice none 0 0)] :: dI p.vars :: r0
abbrev aA4 (r0 : List (Nat × AV)) : List (Nat × AV) := (0, .ptr 0 0) :: (2, .ptr 2 0) :: (3, .ptr 3 0) :: (4, .ptr 7 0) :: r0
theorem bI6 (b : List UInt8) (j q : Int) (p : b8) (ho : okL p = true) (hk : ¬ pk b q 8 = 0) (hb : p.size ≤ 1000000) (r0 : 0 ≤ j) (r1 : j ≤ 10000000) (r2 : 0 ≤ q ∧ q ≤ 10000000)
  (h1 : d8.ok Tryz.prog ⟨28, [.ptr 0 0], [.box [.ref 1, iA j], dY b], [.box [.ref 1, iA q], dY b] ++ oP p, oA 2⟩) : d8.ok Tryz.prog (prC b j p (T5 p) (q + 1)) := by
 have hl5 := h1; have hln := bh8 (show p.size ≤ 1048576 by omega) ho; refine t8 28 Tryz.func16 [.box [.ref 1, iA j], dY b] [(0, .ptr 0 0)] fun G => ?_; refine wp_seq (e5 G c3 [0, 1, 2, 10] [.box [.ref 1, iA j], dY b, an5, an5] [(0, .ptr 0 0), (2, .ptr 2 0), (3, .ptr 3 0)] fun G => b5 (wp_seq (e5 G (n5 1 [0, 1] hl5) [0, 1, 2, 3, 12, 13, 14, 20] [.box [.ref 1, iA q], dY b, an5, an5, .row 3 (D.ints p.vars), .row 3 (D.ints p.arrays), .tree (D.stmts p.body), .box [.ref 4, .ref 5, .tref 6]] (aA4 []) fun G => b5 (wp_seq ?_)))); obtain ⟨ρ, G⟩ := G.frz [.no, .no, .no, .no, .row 3] (bb5 b q p [.row 3 (D.ints p.arrays), .tree (D.stmts p.body), .box [.ref 4, .ref 5, .tref 6]]) (aA4 []); obtain ⟨ρ, G⟩ := G.frz [.no, .no, .no, .no, .no, .row 3] (bb5 b q p [dI p.arrays, .tree (D.stmts p.body), .box [.ref 4, .ref 5, .tref 6]]) (aA4 []); obtain ⟨ρ, G⟩ := G.frz [.no, .no, .no, .no, .no, .no, .tree] (bb5 b q p [dI p.arrays, dT p.body, .box (pL 4)]) (aA4 []); refine e5 G (n5 1 [4, 5, 6] hln) [0, 1, 2, 3, 4, 5, 6, 7, 16, 17, 18, 48] [.box [.ref 1, iA q], dY b, an5, an5, dI p.vars, dI p.arrays, dT p.body, .box (pL 4), dI (T5 p).vars, dI (T5 p).arrays, dT (T5 p).body, .box (pL 8)] (aA4 [(5, .ptr 11 0), (6, bA true)]) fun G => b5 (wp_seq (wp_seq (e5 G (l9 (f6 4 [0, 1] (B3 b q 8 (by omega) (by omega)) l8) (fc (b := false) rfl fz) [(3, 0), (4, 0), (5, 0), (1006, 0)]) (rg 12) [.box [.ref 1, iA (q + 1)], dY b, an5, an5, dI p.vars, dI p.arrays, dT p.body, .box (pL 4), dI (T5 p).vars, dI (T5 p).arrays, dT (T5 p).body, .box (pL 8)] (aA4 [(5, .ptr 11 0), (20, bA (pk b q 8 == 0))]) fun G => b5 ?_))); cases h0 : (pk b q (8 : Int) == 0)
 ·have q0 := ne_of_beq_false h0; refine rF G _ h0 (wp_skip (b5 (wp_seq (F6 G c3 [0, 0, 1, 7] [0, 1, 2, 3, 4, 5, 6, 8, 9, 10] [.box [.ref 1, iA (q + 1)], dY b, .box (pL 4), .box (pL 7), dI p.vars, dI p.arrays, dT p.body, dI (T5 p).vars, dI (T5 p).arrays, dT (T5 p).body] [(2, .ptr 2 0), (3, .ptr 3 0)] fun G => b5 (wp_ret ?_))))); exact A3 G [0, 1, 4, 5, 6, 7, 8, 9]
 ·have q0 := eq_of_beq h0; exact False.elim (by omega)
theorem bl9 (b : List UInt8) (j : Int) (r0 : 0 ≤ j) (r1 : j ≤ 1000000) : d8.ok Tryz.prog (prC b j (prD b j).1 (prD b j).2.1 (prD b j).2.2) := by
 have hfi := bE0 b 3 j (bX4 _) r0 (by omega)
 unfold prD
 obtain ⟨⟨p, q⟩, hf⟩ : ∃ x, x = F9 b 3 j := ⟨_, rfl⟩
 rw [← hf] at hfi ⊢
 have hl := bL9 hf.symm r0 r1
 dsimp only at hfi ⊢
 split
 ·rename_i ho
  split
  ·rename_i hk
   have hm := aI0 b p (q + 1)
   obtain ⟨⟨p1, k⟩, hx⟩ : ∃ x, x = Q7 b p (q + 1) := ⟨_, rfl⟩
   obtain ⟨⟨p2, k2⟩, hy⟩ : ∃ x, x = Q7 b p1 k := ⟨_, rfl⟩
   have e : m2D b p (q + 1) = (p2, k2) := by show Q7 b (Q7 b p (q + 1)).1 (Q7 b p (q + 1)).2 = _; rw [← hx]; exact hy.symm
   rw [e]
   rw [← hx] at hm
   dsimp only at hm
   exact bI7 b j q k k2 p p1 p2 ho hk (by omega) r0 (by omega) (by omega) hl (a37 hx.symm (by omega) (by omega) (by omega)) (a37 hy.symm (by omega) (by omega) (by omega))
  ·rename_i hk; exact bI6 b j q p ho hk (by omega) r0 (by omega) (by omega) hl
 ·rename_i ho
  have hm := aI0 b p q
  obtain ⟨⟨p1, k⟩, hx⟩ : ∃ x, x = Q7 b p q := ⟨_, rfl⟩
  obtain ⟨⟨p2, k2⟩, hy⟩ : ∃ x, x = Q7 b p1 k := ⟨_, rfl⟩
  have e : m2D b p q = (p2, k2) := by show Q7 b (Q7 b p q).1 (Q7 b p q).2 = _; rw [← hx]; exact hy.symm
  rw [e]
  rw [← hx] at hm
  dsimp only at hm
  exact bI8 b j q k k2 p p1 p2 (by simpa using ho) (by omega) r0 (by omega) (by omega) hl (a37 hx.symm (by omega) (by omega) (by omega)) (a37 hy.symm (by omega) (by omega) (by omega))
theorem a64 (l : List Int) (k : Nat) : l ++ bW8 (k + 1) 0 = (l ++ bW8 k 0) ++ [0] := by rw [List.replicate_succ', List.append_assoc]
abbrev mRw (m : s4) : List It := [.row 3 (.ints m.vals), .row 23 (.rows m.arrs)]
theorem be3 (l : List (List Int)) (i : Nat) : l.set i (l.getD i []) = l := by
 apply List.ext_getElem?
 intro j
 rw [List.getElem?_set]
 by_cases h : i = j
 ·subst h
  rw [if_pos rfl]
  by_cases h2 : i < l.length
  ·simp [h2]
  ·simp [h2]
 ·rw [if_neg h]
abbrev a04 : It := .box [.v (.slice none 0 0), .v (.slice none 0 0)]
theorem bl8 (xs : List Int) (rs : List (List Int)) (hx : xs.length ≤ 1000000) (hr : rs.length ≤ 1000000) (hi : ∀ l ∈ rs, l.length ≤ 1000) : d8.ok Tryz.prog ⟨20, [mA 0], [dI xs, dR rs], [dI xs, dR rs] ++ mRw ⟨xs, rs⟩, mA 2⟩ := by
 have hc1 := ao2 xs (by omega)
 have hc2 := fun (k : Nat) (hk : k < rs.length) => aj5 (rs.getD k []) (bX9 (hi _ (by rw [f8 hk]; exact bX7 hk)) (by decide))
 have hc3 := aS0 rs (by omega); refine t8 29 Tryz.func20 [dI xs, dR rs] [(0, .agg [.ref 0, .ref 1])] fun G => ?_; refine wp_seq (e5 G c3 [0, 1, 2, 10] [dI xs, dR rs, .box [.ref 0, .ref 1], a04] [(1, .ptr 2 0), (2, .ptr 3 0)] fun G => b5 (wp_seq (F6 G (l9 (f6 2 [0] hc1 (f6 5 [1] hc3 l8)) fz []) [0, 1, 3, 0, 8, 31, 31, 127, 255, 511] [0, 1, 2, 3, 20, 44] [dI xs, dR rs, .box [.ref 4, .ref 5], a04, .row 3 (D.ints xs), .row 23 (D.rows rs)] [(1, .ptr 2 0), (2, .ptr 3 0)] fun G => b5 (wp_seq (wp_seq (w3 G c3 [(1, .ptr 2 0), (2, .ptr 3 0), (14, .ref 5), (15, iA (rs.length : Int)), (16, iA 0)] fun G => b5 (wp_block ?_))))))); refine k8 (κ := Nat) (fun k => k ≤ rs.length) (fun k => rs.length - k) (fun k => [dI xs, dR rs, .box [.ref 4, .ref 5], .box [.v (.slice none 0 0), .v (.slice none 0 0)], .row 3 (D.ints xs), .row 23 (D.rows rs)]) (fun k => [(1, .ptr 2 0), (2, .ptr 3 0), (14, .ref 5), (15, iA (rs.length : Int)), (16, iA k)]) 0 (by omega) (l7.at G _ _) ?_; clear G; intro k ρ a w hp G; refine wp_seq (d9 G c3 [(17, bA (decide ((k : Int) < rs.length)))] fun G => b5 (wp_seq (I2 G (fun h0 q0 => ?_) fun h0 q0 => ?_)))
 ·refine wp_exit (j9 (j9 (j7 (b5 (wp_seq (e5 G c3 [0, 1, 3, 4, 5] [dI xs, dR rs, .box [.ref 3, .ref 4], .row 3 (D.ints xs), .row 23 (D.rows rs)] [(2, .ptr 2 0)] fun G => b5 (wp_ret ?_))))))); exact A3 G [0, 1, 3, 4]
 ·refine wp_skip (b5 (wp_seq (wp_block (wp_seq (L6 G c3 [0, 1, 2, 3, 4, 5, 22] [dI xs, dR rs, .box [.ref 4, .ref 5], a04, .row 3 (D.ints xs), .row 23 (D.rows rs), dI (rs.getD k [])] [(1, .ptr 2 0), (2, .ptr 3 0), (3, iA k), (4, .ref 6), (14, .ref 5), (15, iA (rs.length : Int)), (16, iA k)] (iX k k rs.length []) (iK (by omega) bX6) fun G => b5 (F0 G (n5 4 [6] (hc2 k (by omega))) [0, 1, 0, 0, 8, 31, 63] (rg 6) [dI xs, dR rs, .box [.ref 4, .ref 5], a04, .row 3 (D.ints xs), .row 23 (D.rows (rs.set k (rs.getD k [])))] [(1, .ptr 2 0), (2, .ptr 3 0), (14, .ref 5), (15, iA (rs.length : Int)), (16, iA k)] (iX k k rs.length []) (iK (by omega) bX6) fun G => i9 (b5 (z5 G c3 [(16, iA ((k : Int) + 1))] [wO ((k : Int) + 1)] (o1 (by omega)) fun G => b5 ?_)))))))); exact H3 G (k + 1) (by omega) (by omega) (rg 6) (by have e1 : (rs.set k (rs.getD k []) : List (List Int)) = (rs) := (be3 _ _); (first | rw [e1] | simp only [e1]) <;> rfl)
abbrev aB2 (p : b8) (q : b8) (m : s4) : List It := [dI p.vars, dI p.arrays, dT p.body, dI q.vars, dI q.arrays, dT q.body, dI m.vals, dR m.arrs, dI (rmD p q m).vals, dR (rmD p q m).arrs]
abbrev aL1 : It := .box [.v (.slice none 0 0), .v (.slice none 0 0)]
abbrev O8 (p : b8) (q : b8) (m : s4) (r0 : List It) : List It := dI p.vars :: dI p.arrays :: dT p.body :: dI q.vars :: dI q.arrays :: dT q.body :: dI m.vals :: dR m.arrs :: r0
abbrev ac1 (r0 : List (Nat × AV)) : List (Nat × AV) := (3, .ptr 8 0) :: (5, .ptr 9 0) :: (6, .ptr 10 0) :: (7, bA false) :: r0
theorem aj4 (p q : b8) (m : s4) (hx : m.vals.length ≤ 1000000) (hr : m.arrs.length ≤ 1000000) (hi : ∀ l ∈ m.arrs, l.length ≤ 1000) : d8.ok Tryz.prog ⟨6, [pA 0, pA 3, mA 6], pS p ++ pS q ++ mS m, pS p ++ pS q ++ mS m ++ mS (rmD p q m), .tup [mA 8, bA (rmB p q m)]⟩ := by
  refine t8 34 Tryz.func6 (O8 p q m []) [(0, pA 0), (1, pA 3), (2, .agg [.ref 6, .ref 7])] fun G => ?_; refine wp_seq (e5 G c3 [0, 1, 2, 3, 4, 5, 6, 7, 8, 16, 24, 32] (O8 p q m [.box (pL 0), .box (pL 3), .box [.ref 6, .ref 7], aL1]) [(3, .ptr 8 0), (4, .ptr 9 0), (5, .ptr 10 0), (6, .ptr 11 0), (7, bA false)] fun G => b5 (wp_seq (wp_seq ?_))); cases h0 : (!W9 p q)
  ·
   have q0 : (W9 p q) = true := (Eq.mp (bW7 _) h0); have hex := aq2 (p := p) (q := q) (by with_reducible assumption); refine e5 G (l9 (f6 2 (rg 6) (N9 p q) (f6 10 [3, 4, 6, 7] (af8 q.vars q.arrays m.vals m.arrs) l8)) (fc h0 fz) (us [(5, 11, 0), (1012, 1012, 0)])) [0, 1, 2, 3, 4, 5, 6, 7, 8, 10, 11] (O8 p q m [.box (pL 0), .box [.ref 6, .ref 7], aL1]) (ac1 [(21, .v (.bool !L7 q.vars.length q.arrays.length (s4.mk m.vals m.arrs)))]) fun G => b5 ?_; cases h1 : (!L7 q.vars.length q.arrays.length (s4.mk m.vals m.arrs))
   · have q1 : (L7 q.vars.length q.arrays.length (s4.mk m.vals m.arrs)) = true := (Eq.mp (bW7 _) h1); have hfi := ax1 (m := m) (nv := q.vars.length) (na := q.arrays.length) (by with_reducible assumption); refine rF G _ h1 (wp_skip (b5 (wp_seq (e5 G (n5 1 [6, 7] (bl8 m.vals m.arrs (by assumption) (by assumption) (by assumption))) [0, 1, 2, 3, 4, 5, 6, 7, 8, 10, 19, 20, 27] (O8 p q m [.box (pL 0), aL1, .row 3 (D.ints m.vals), .row 23 (D.rows m.arrs), .box [.ref 10, .ref 11]]) [(3, .ptr 8 0), (6, .ptr 9 0), (7, bA false), (8, .ptr 12 0)] fun G => b5 (wp_seq (L6 G (n5 6 [53] (aj5 (List.drop 0 (bW9 p.vars.length m.vals)) (by simp; omega))) [0, 1, 2, 3, 4, 5, 6, 7, 9, 11, 12, 61] (O8 p q m [aL1, .row 23 (D.rows m.arrs), .box [.ref 11, .ref 9], dI (List.drop 0 (bW9 p.vars.length m.vals))]) [(6, .ptr 8 0), (7, bA false), (8, .ptr 10 0)] [(0 : Int) ≤ p.vars.length, (p.vars.length : Int) ≤ m.vals.length] ⟨(by omega), (by omega), bX6⟩ fun G => b5 (wp_seq (e5 G c3 [0, 1, 2, 3, 4, 5, 6, 7, 8, 9, 11] (O8 p q m [.box [.ref 10, .ref 9], .row 23 (D.rows m.arrs), dI (List.drop 0 (bW9 p.vars.length m.vals))]) [(6, .ptr 8 0), (7, bA true)] fun G => b5 (wp_ret ?_))))))))); obtain ⟨ρ, G⟩ := G.frz [.no, .no, .no, .no, .no, .no, .no, .no, .no, .row 23] (O8 p q m [.box [.ref 10, .ref 9], dR m.arrs, dI (List.drop 0 (bW9 p.vars.length m.vals))]) [(6, .ptr 8 0), (7, bA true)]; exact M0 (.tup [.agg [.ref 10, .ref 9], bA true]) G [0, 1, 2, 3, 4, 5, 6, 7, 10, 9] (by have e1 : (rmB p q m : Bool) = (true) := ((bq8 (by with_reducible assumption) (by with_reducible assumption)).2); (first | rw [e1] | simp only [e1]) <;> rfl) (by show _ = mR [0, 1, 2, 3, 4, 5, 6, 7, 10, 9] (aB2 p q m); unfold aB2; rw [(bq8 (by with_reducible assumption) (by with_reducible assumption)).1] <;> rfl)
   · have q1 : (L7 q.vars.length q.arrays.length (s4.mk m.vals m.arrs)) = false := (Eq.mp (bW6 _) h1); refine rT G _ h1 (wp_seq (w3 G c3 (ac1 []) fun G => b5 (wp_ret (c8 ?_)))); obtain ⟨ρ, G⟩ := G.nil 11 0 (.ints []) 1 (O8 p q m [.box (pL 0), .box [.ref 6, .ref 7], .box [.ref 11, .v (.slice none 0 0)]]) (ac1 []); obtain ⟨ρ, G⟩ := G.nil 12 0 (.rows []) 7 (O8 p q m [.box (pL 0), .box [.ref 6, .ref 7], .box [.ref 11, .ref 12], .row 0 (D.ints [])]) (ac1 []); obtain ⟨ρ, G⟩ := G.frz [.no, .no, .no, .no, .no, .no, .no, .no, .no, .no, .no, .row 0, .row 0] (O8 p q m [.box (pL 0), .box [.ref 6, .ref 7], .box [.ref 11, .ref 12], dI [], dR []]) (ac1 []); exact M0 (.tup [.agg [.ref 11, .ref 12], bA false]) G [0, 1, 2, 3, 4, 5, 6, 7, 11, 12] (by have e1 : (rmB p q m : Bool) = (false) := ((bx3 (by with_reducible assumption)).2); (first | rw [e1] | simp only [e1]) <;> rfl) (by show _ = mR [0, 1, 2, 3, 4, 5, 6, 7, 11, 12] (aB2 p q m); unfold aB2; rw [(bx3 (by with_reducible assumption)).1] <;> rfl)
  · have q0 : (W9 p q) = false := (Eq.mp (bW6 _) h0); refine e5 G (l9 (f6 2 (rg 6) (N9 p q) l8) (fc h0 fz) (us [(5, 11, 0), (1012, 1012, 0)])) [0, 1, 2, 3, 4, 5, 6, 7, 8, 10, 11] (O8 p q m [.box (pL 0), .box [.ref 6, .ref 7], aL1]) (ac1 [(21, bA true)]) fun G => b5 (rT G true (by kernel_rfl) (wp_seq (w3 G c3 (ac1 []) fun G => b5 (wp_ret (c8 ?_))))); obtain ⟨ρ, G⟩ := G.nil 11 0 (.ints []) 1 (O8 p q m [.box (pL 0), .box [.ref 6, .ref 7], .box [.ref 11, .v (.slice none 0 0)]]) (ac1 []); obtain ⟨ρ, G⟩ := G.nil 12 0 (.rows []) 7 (O8 p q m [.box (pL 0), .box [.ref 6, .ref 7], .box [.ref 11, .ref 12], .row 0 (D.ints [])]) (ac1 []); obtain ⟨ρ, G⟩ := G.frz [.no, .no, .no, .no, .no, .no, .no, .no, .no, .no, .no, .row 0, .row 0] (O8 p q m [.box (pL 0), .box [.ref 6, .ref 7], .box [.ref 11, .ref 12], dI [], dR []]) (ac1 []); exact M0 (.tup [.agg [.ref 11, .ref 12], bA false]) G [0, 1, 2, 3, 4, 5, 6, 7, 11, 12] (by have e1 : (rmB p q m : Bool) = (false) := ((bx4 (by with_reducible assumption)).2); (first | rw [e1] | simp only [e1]) <;> rfl) (by show _ = mR [0, 1, 2, 3, 4, 5, 6, 7, 11, 12] (aB2 p q m); unfold aB2; rw [(bx4 (by with_reducible assumption)).1] <;> rfl)
abbrev aB1 (p : b8) (q : b8) (m : s4) : List It := [dI p.vars, dI p.arrays, dT p.body, dI q.vars, dI q.arrays, dT q.body, dI m.vals, dR m.arrs, dI (y6 p q m).vals, dR (y6 p q m).arrs]
abbrev aB0 : It := .box [.v (.slice none 0 0), .v (.slice none 0 0)]
abbrev K4 (p : b8) (q : b8) (m : s4) (r0 : List It) : List It := dI p.vars :: dI p.arrays :: dT p.body :: dI q.vars :: dI q.arrays :: dT q.body :: dI m.vals :: dR m.arrs :: r0
abbrev ac0 (r0 : List (Nat × AV)) : List (Nat × AV) := (4, .ptr 8 0) :: (5, .ptr 9 0) :: (6, .ptr 10 0) :: (7, bA false) :: r0
abbrev ag3 (r0 : List It) : List It := .box (pL 3) :: .box [.ref 6, .ref 7] :: r0
theorem ap1 (p q : b8) (m : s4) (hb : c9 p.body ≤ 1048576) (hq : c9 q.body ≤ 1048576) (hx : m.vals.length ≤ 1000000) (hr : m.arrs.length ≤ 1000000) (hi : ∀ l ∈ m.arrs, l.length ≤ 1000) (hqv : q.vars.length ≤ 1000000) : d8.ok Tryz.prog ⟨13, [pA 0, pA 3, mA 6], pS p ++ pS q ++ mS m, pS p ++ pS q ++ mS m ++ mS (y6 p q m), .tup [mA 8, bA (emB p q m)]⟩ := by
  refine t8 35 Tryz.func13 (K4 p q m []) [(0, pA 0), (1, pA 3), (2, .agg [.ref 6, .ref 7])] fun G => ?_; refine wp_seq (e5 G c3 [0, 1, 2, 3, 4, 5, 6, 7, 8, 16, 24, 32] (K4 p q m (.box (pL 0) :: (ag3 [aB0]))) [(3, .ptr 8 0), (4, .ptr 9 0), (5, .ptr 10 0), (6, .ptr 11 0), (7, bA false)] fun G => b5 (wp_seq (wp_seq ?_))); cases h0 : (!W9 p q)
  ·
   have q0 : (W9 p q) = true := (Eq.mp (bW7 _) h0); have hex := aq2 (p := p) (q := q) (by with_reducible assumption); refine e5 G (l9 (f6 2 (rg 6) (ax7 p q (by assumption) (by assumption)) (f6 7 [0, 1, 2, 6, 7] (bm1 p.vars p.arrays p.body m.vals m.arrs) l8)) (fc h0 fz) (us [(5, 8, 0), (1009, 1009, 0)])) [0, 1, 2, 3, 4, 5, 6, 7, 9, 10, 11] (K4 p q m (ag3 [aB0])) (ac0 [(18, .v (.bool !L7 p.vars.length p.arrays.length (s4.mk m.vals m.arrs)))]) fun G => b5 ?_; cases h1 : (!L7 p.vars.length p.arrays.length (s4.mk m.vals m.arrs))
   ·
    have q1 : (L7 p.vars.length p.arrays.length (s4.mk m.vals m.arrs)) = true := (Eq.mp (bW7 _) h1); have hfi := ax1 (m := m) (nv := p.vars.length) (na := p.arrays.length) (by with_reducible assumption); refine rF G _ h1 (wp_skip (b5 (wp_seq (e5 G (n5 1 [6, 7] (aR6 m.vals m.arrs (by omega) (by omega) (fun l hl => bX9 (hi l hl) (by decide)))) [0, 1, 2, 3, 4, 5, 6, 7, 8, 10, 19, 20, 27] (K4 p q m [.box (pL 3), aB0, .row 3 (D.ints m.vals), .tree (D.rows m.arrs), .box [.ref 10, .tref 11]]) [(4, .ptr 8 0), (6, .ptr 9 0), (7, bA false), (8, .ptr 12 0)] fun G => b5 (wp_seq (wp_block ?_)))))); replace G := G.as (K4 p q m [.box (pL 3), .box [.v (.slice none 0 0), .v (.slice none 0 0)], .row 3 (D.ints (m.vals ++ bW8 0 0)), .tree (D.rows m.arrs), .box [.ref 10, .tref 11]]) [(4, .ptr 8 0), (6, .ptr 9 0), (7, bA false), (8, .ptr 12 0)] (by have e1 : (m.vals ++ bW8 0 0 : List Int) = (m.vals) := (by simp [h0, q0, h1, q1]); (first | rw [e1] | simp only [e1]) <;> rfl) (by kernel_rfl); refine k8 (κ := Nat) (fun k => k ≤ q.vars.length - m.vals.length) (fun k => q.vars.length - m.vals.length - k) (fun k => [dI p.vars, dI p.arrays, dT p.body, dI q.vars, dI q.arrays, dT q.body, dI m.vals, dR m.arrs, .box (pL 3), .box [.v (.slice none 0 0), .v (.slice none 0 0)], .row 3 (.ints (m.vals ++ bW8 k 0)), .tree (D.rows m.arrs), .box [.ref 10, .tref 11]]) (fun k => [(4, .ptr 8 0), (6, .ptr 9 0), (7, bA false), (8, .ptr 12 0)]) 0 (by omega) (l7.at G _ _) ?_; clear G; intro k ρ a w hp G; replace G := l7.at G (K4 p q m [.box (pL 3), aB0, .row 3 (D.ints (m.vals ++ bW8 k 0)), .tree (D.rows m.arrs), .box [.ref 10, .tref 11]]) [(4, .ptr 8 0), (6, .ptr 9 0), (7, bA false), (8, .ptr 12 0)]
    have hal : (m.vals ++ bW8 k (0 : Int)).length = m.vals.length + k := by simp
    refine wp_seq (wp_seq (w3 G c3 [(4, .ptr 8 0), (6, .ptr 9 0), (7, bA false), (8, .ptr 12 0), (28, bA (decide (((m.vals ++ bW8 k 0).length : Int) < q.vars.length)))] fun G => b5 ?_)); cases h2 : (decide (((m.vals ++ bW8 k (0 : Int)).length : Int) < q.vars.length))
    ·
     have q2 := O4 h2
     obtain rfl : k = q.vars.length - m.vals.length := by omega
     refine rF G (decide (((m.vals ++ bW8 (q.vars.length - m.vals.length) (0 : Int)).length : Int) < q.vars.length)) (by assumption) (wp_exit (j9 (j9 (j7 (b5 (wp_seq (e5 G c3 [0, 1, 2, 3, 4, 5, 6, 7, 9, 10, 11] (K4 p q m [.box [.ref 9, .tref 10], .row 3 (D.ints (m.vals ++ bW8 (q.vars.length - m.vals.length) 0)), .tree (D.rows m.arrs)]) [(6, .ptr 8 0), (7, bA true)] fun G => b5 (wp_ret ?_)))))))); obtain ⟨ρ, G⟩ := G.frz [.no, .no, .no, .no, .no, .no, .no, .no, .no, .row 3, .tree] (K4 p q m [.box [.ref 9, .ref 10], dI (m.vals ++ bW8 (q.vars.length - m.vals.length) 0), dR m.arrs]) [(6, .ptr 8 0), (7, bA true)]; exact M0 (.tup [.agg [.ref 9, .ref 10], bA true]) G [0, 1, 2, 3, 4, 5, 6, 7, 9, 10] (by have e1 : (emB p q m : Bool) = (true) := ((a91 (by with_reducible assumption) (by with_reducible assumption)).2); (first | rw [e1] | simp only [e1]) <;> rfl) (by show _ = mR [0, 1, 2, 3, 4, 5, 6, 7, 9, 10] (aB1 p q m); unfold aB1; rw [(a91 (by with_reducible assumption) (by with_reducible assumption)).1] <;> rfl)
    · have q2 := O3 h2; refine rT G _ h2 (wp_skip (b5 (wp_block (L6 G c3 [0, 1, 2, 3, 4, 5, 6, 7, 8, 9, 11, 12, 37] (K4 p q m [.box (pL 3), aB0, .tree (D.rows m.arrs), .box [.ref 12, .tref 10], .row 3 (D.ints (m.vals ++ bW8 k 0 ++ ([0] ++ [])))]) [(4, .ptr 8 0), (6, .ptr 9 0), (7, bA false), (8, .ptr 11 0)] (aP ((m.vals ++ bW8 k (0 : Int)).length + ([(0 : Int)] ++ []).length) 8 []) (aK (by simp; omega) bX6) fun G => i9 (b5 ?_))))); exact H3 G (k + 1) (by omega) (by omega) [0, 1, 2, 3, 4, 5, 6, 7, 8, 9, 12, 10, 11] (by have e1 : (m.vals ++ bW8 (k + 1) 0 : List Int) = (m.vals ++ bW8 k 0 ++ ([0] ++ [])) := (a64 _ _); (first | rw [e1] | simp only [e1]) <;> rfl)
   · have q1 : (L7 p.vars.length p.arrays.length (s4.mk m.vals m.arrs)) = false := (Eq.mp (bW6 _) h1); refine rT G _ h1 (wp_seq (w3 G c3 (ac0 []) fun G => b5 (wp_ret (c8 ?_)))); obtain ⟨ρ, G⟩ := G.nil 11 0 (.ints []) 1 (K4 p q m (ag3 [.box [.ref 11, .v (.slice none 0 0)]])) (ac0 []); obtain ⟨ρ, G⟩ := G.nil 12 0 (.rows []) 7 (K4 p q m (ag3 [.box [.ref 11, .ref 12], .row 0 (D.ints [])])) (ac0 []); obtain ⟨ρ, G⟩ := G.frz [.no, .no, .no, .no, .no, .no, .no, .no, .no, .no, .no, .row 0, .row 0] (K4 p q m (ag3 [.box [.ref 11, .ref 12], dI [], dR []])) (ac0 []); exact M0 (.tup [.agg [.ref 11, .ref 12], bA false]) G [0, 1, 2, 3, 4, 5, 6, 7, 11, 12] (by have e1 : (emB p q m : Bool) = (false) := ((a54 (by with_reducible assumption)).2); (first | rw [e1] | simp only [e1]) <;> rfl) (by show _ = mR [0, 1, 2, 3, 4, 5, 6, 7, 11, 12] (aB1 p q m); unfold aB1; rw [(a54 (by with_reducible assumption)).1] <;> rfl)
  · have q0 : (W9 p q) = false := (Eq.mp (bW6 _) h0); refine e5 G (l9 (f6 2 (rg 6) (ax7 p q (by assumption) (by assumption)) l8) (fc h0 fz) (us [(5, 8, 0), (1009, 1009, 0)])) [0, 1, 2, 3, 4, 5, 6, 7, 9, 10, 11] (K4 p q m (ag3 [aB0])) (ac0 [(18, bA true)]) fun G => b5 (rT G true (by kernel_rfl) (wp_seq (w3 G c3 (ac0 []) fun G => b5 (wp_ret (c8 ?_))))); obtain ⟨ρ, G⟩ := G.nil 11 0 (.ints []) 1 (K4 p q m (ag3 [.box [.ref 11, .v (.slice none 0 0)]])) (ac0 []); obtain ⟨ρ, G⟩ := G.nil 12 0 (.rows []) 7 (K4 p q m (ag3 [.box [.ref 11, .ref 12], .row 0 (D.ints [])])) (ac0 []); obtain ⟨ρ, G⟩ := G.frz [.no, .no, .no, .no, .no, .no, .no, .no, .no, .no, .no, .row 0, .row 0] (K4 p q m (ag3 [.box [.ref 11, .ref 12], dI [], dR []])) (ac0 []); exact M0 (.tup [.agg [.ref 11, .ref 12], bA false]) G [0, 1, 2, 3, 4, 5, 6, 7, 11, 12] (by have e1 : (emB p q m : Bool) = (false) := ((a55 (by with_reducible assumption)).2); (first | rw [e1] | simp only [e1]) <;> rfl) (by show _ = mR [0, 1, 2, 3, 4, 5, 6, 7, 11, 12] (aB1 p q m); unfold aB1; rw [(a55 (by with_reducible assumption)).1] <;> rfl)
abbrev aA9 (p : b8) (q : b8) (m : s4) : List It := [dI p.vars, dI p.arrays, dT p.body, dI q.vars, dI q.arrays, dT q.body, dI m.vals, dR m.arrs, dI (y6 p q m).vals, dR (y6 p q m).arrs]
abbrev aA8 : It := .box [.v (.slice none 0 0), .v (.slice none 0 0)]
abbrev K3 (p : b8) (q : b8) (m : s4) (r0 : List It) : List It := dI p.vars :: dI p.arrays :: dT p.body :: dI q.vars :: dI q.arrays :: dT q.body :: dI m.vals :: dR m.arrs :: r0
abbrev ab9 (r0 : List (Nat × AV)) : List (Nat × AV) := (4, .ptr 8 0) :: (5, .ptr 9 0) :: (6, .ptr 10 0) :: (7, bA false) :: r0
abbrev ag2 (r0 : List It) : List It := .box (pL 3) :: .box [.ref 6, .ref 7] :: r0
theorem ap2 (p q : b8) (m : s4) (hx : m.vals.length ≤ 1000000) (hr : m.arrs.length ≤ 1000000) (hi : ∀ l ∈ m.arrs, l.length ≤ 1000) (hqv : q.vars.length ≤ 1000000) : d8.ok Tryz.prog ⟨12, [pA 0, pA 3, mA 6], pS p ++ pS q ++ mS m, pS p ++ pS q ++ mS m ++ mS (y6 p q m), .tup [mA 8, bA (emB p q m)]⟩ := by
  refine t8 38 Tryz.func12 (K3 p q m []) [(0, pA 0), (1, pA 3), (2, .agg [.ref 6, .ref 7])] fun G => ?_; refine wp_seq (e5 G c3 [0, 1, 2, 3, 4, 5, 6, 7, 8, 16, 24, 32] (K3 p q m (.box (pL 0) :: (ag2 [aA8]))) [(3, .ptr 8 0), (4, .ptr 9 0), (5, .ptr 10 0), (6, .ptr 11 0), (7, bA false)] fun G => b5 (wp_seq (wp_seq ?_))); cases h0 : (!W9 p q)
  ·
   have q0 : (W9 p q) = true := (Eq.mp (bW7 _) h0); have hex := aq2 (p := p) (q := q) (by with_reducible assumption); refine e5 G (l9 (f6 2 (rg 6) (N9 p q) (f6 10 [0, 1, 6, 7] (af8 p.vars p.arrays m.vals m.arrs) l8)) (fc h0 fz) (us [(5, 11, 0), (1012, 1012, 0)])) [0, 1, 2, 3, 4, 5, 6, 7, 9, 10, 11] (K3 p q m (ag2 [aA8])) (ab9 [(21, .v (.bool !L7 p.vars.length p.arrays.length (s4.mk m.vals m.arrs)))]) fun G => b5 ?_; cases h1 : (!L7 p.vars.length p.arrays.length (s4.mk m.vals m.arrs))
   ·
    have q1 : (L7 p.vars.length p.arrays.length (s4.mk m.vals m.arrs)) = true := (Eq.mp (bW7 _) h1); have hfi := ax1 (m := m) (nv := p.vars.length) (na := p.arrays.length) (by with_reducible assumption); refine rF G _ h1 (wp_skip (b5 (wp_seq (e5 G (n5 1 [6, 7] (bl8 m.vals m.arrs (by assumption) (by assumption) (by assumption))) [0, 1, 2, 3, 4, 5, 6, 7, 8, 10, 19, 20, 27] (K3 p q m [.box (pL 3), aA8, .row 3 (D.ints m.vals), .row 23 (D.rows m.arrs), .box [.ref 10, .ref 11]]) [(4, .ptr 8 0), (6, .ptr 9 0), (7, bA false), (8, .ptr 12 0)] fun G => b5 (wp_seq (wp_block ?_)))))); replace G := G.as (K3 p q m [.box (pL 3), .box [.v (.slice none 0 0), .v (.slice none 0 0)], .row 3 (D.ints (m.vals ++ bW8 0 0)), .row 23 (D.rows m.arrs), .box [.ref 10, .ref 11]]) [(4, .ptr 8 0), (6, .ptr 9 0), (7, bA false), (8, .ptr 12 0)] (by have e1 : (m.vals ++ bW8 0 0 : List Int) = (m.vals) := (by simp [h0, q0, h1, q1]); (first | rw [e1] | simp only [e1]) <;> rfl) (by kernel_rfl); refine k8 (κ := Nat) (fun k => k ≤ q.vars.length - m.vals.length) (fun k => q.vars.length - m.vals.length - k) (fun k => [dI p.vars, dI p.arrays, dT p.body, dI q.vars, dI q.arrays, dT q.body, dI m.vals, dR m.arrs, .box (pL 3), .box [.v (.slice none 0 0), .v (.slice none 0 0)], .row 3 (.ints (m.vals ++ bW8 k 0)), .row 23 (D.rows m.arrs), .box [.ref 10, .ref 11]]) (fun k => [(4, .ptr 8 0), (6, .ptr 9 0), (7, bA false), (8, .ptr 12 0)]) 0 (by omega) (l7.at G _ _) ?_; clear G; intro k ρ a w hp G; replace G := l7.at G (K3 p q m [.box (pL 3), aA8, .row 3 (D.ints (m.vals ++ bW8 k 0)), .row 23 (D.rows m.arrs), .box [.ref 10, .ref 11]]) [(4, .ptr 8 0), (6, .ptr 9 0), (7, bA false), (8, .ptr 12 0)]
    have hal : (m.vals ++ bW8 k (0 : Int)).length = m.vals.length + k := by simp
    refine wp_seq (wp_seq (w3 G c3 [(4, .ptr 8 0), (6, .ptr 9 0), (7, bA false), (8, .ptr 12 0), (31, bA (decide (((m.vals ++ bW8 k 0).length : Int) < q.vars.length)))] fun G => b5 ?_)); cases h2 : (decide (((m.vals ++ bW8 k (0 : Int)).length : Int) < q.vars.length))
    ·
     have q2 := O4 h2
     obtain rfl : k = q.vars.length - m.vals.length := by omega
     refine rF G (decide (((m.vals ++ bW8 (q.vars.length - m.vals.length) (0 : Int)).length : Int) < q.vars.length)) (by assumption) (wp_exit (j9 (j9 (j7 (b5 (wp_seq (e5 G c3 [0, 1, 2, 3, 4, 5, 6, 7, 9, 10, 11] (K3 p q m [.box [.ref 9, .ref 10], .row 3 (D.ints (m.vals ++ bW8 (q.vars.length - m.vals.length) 0)), .row 23 (D.rows m.arrs)]) [(6, .ptr 8 0), (7, bA true)] fun G => b5 (wp_ret ?_)))))))); obtain ⟨ρ, G⟩ := G.frz [.no, .no, .no, .no, .no, .no, .no, .no, .no, .row 3, .row 23] (K3 p q m [.box [.ref 9, .ref 10], dI (m.vals ++ bW8 (q.vars.length - m.vals.length) 0), dR m.arrs]) [(6, .ptr 8 0), (7, bA true)]; exact M0 (.tup [.agg [.ref 9, .ref 10], bA true]) G [0, 1, 2, 3, 4, 5, 6, 7, 9, 10] (by have e1 : (emB p q m : Bool) = (true) := ((a91 (by with_reducible assumption) (by with_reducible assumption)).2); (first | rw [e1] | simp only [e1]) <;> rfl) (by show _ = mR [0, 1, 2, 3, 4, 5, 6, 7, 9, 10] (aA9 p q m); unfold aA9; rw [(a91 (by with_reducible assumption) (by with_reducible assumption)).1] <;> rfl)
    · have q2 := O3 h2; refine rT G _ h2 (wp_skip (b5 (wp_block (L6 G c3 [0, 1, 2, 3, 4, 5, 6, 7, 8, 9, 11, 12, 37] (K3 p q m [.box (pL 3), aA8, .row 23 (D.rows m.arrs), .box [.ref 12, .ref 10], .row 3 (D.ints (m.vals ++ bW8 k 0 ++ ([0] ++ [])))]) [(4, .ptr 8 0), (6, .ptr 9 0), (7, bA false), (8, .ptr 11 0)] (aP ((m.vals ++ bW8 k (0 : Int)).length + ([(0 : Int)] ++ []).length) 8 []) (aK (by simp; omega) bX6) fun G => i9 (b5 ?_))))); exact H3 G (k + 1) (by omega) (by omega) [0, 1, 2, 3, 4, 5, 6, 7, 8, 9, 12, 10, 11] (by have e1 : (m.vals ++ bW8 (k + 1) 0 : List Int) = (m.vals ++ bW8 k 0 ++ ([0] ++ [])) := (a64 _ _); (first | rw [e1] | simp only [e1]) <;> rfl)
   · have q1 : (L7 p.vars.length p.arrays.length (s4.mk m.vals m.arrs)) = false := (Eq.mp (bW6 _) h1); refine rT G _ h1 (wp_seq (w3 G c3 (ab9 []) fun G => b5 (wp_ret (c8 ?_)))); obtain ⟨ρ, G⟩ := G.nil 11 0 (.ints []) 1 (K3 p q m (ag2 [.box [.ref 11, .v (.slice none 0 0)]])) (ab9 []); obtain ⟨ρ, G⟩ := G.nil 12 0 (.rows []) 7 (K3 p q m (ag2 [.box [.ref 11, .ref 12], .row 0 (D.ints [])])) (ab9 []); obtain ⟨ρ, G⟩ := G.frz [.no, .no, .no, .no, .no, .no, .no, .no, .no, .no, .no, .row 0, .row 0] (K3 p q m (ag2 [.box [.ref 11, .ref 12], dI [], dR []])) (ab9 []); exact M0 (.tup [.agg [.ref 11, .ref 12], bA false]) G [0, 1, 2, 3, 4, 5, 6, 7, 11, 12] (by have e1 : (emB p q m : Bool) = (false) := ((a54 (by with_reducible assumption)).2); (first | rw [e1] | simp only [e1]) <;> rfl) (by show _ = mR [0, 1, 2, 3, 4, 5, 6, 7, 11, 12] (aA9 p q m); unfold aA9; rw [(a54 (by with_reducible assumption)).1] <;> rfl)
  · have q0 : (W9 p q) = false := (Eq.mp (bW6 _) h0); refine e5 G (l9 (f6 2 (rg 6) (N9 p q) l8) (fc h0 fz) (us [(5, 11, 0), (1012, 1012, 0)])) [0, 1, 2, 3, 4, 5, 6, 7, 9, 10, 11] (K3 p q m (ag2 [aA8])) (ab9 [(21, bA true)]) fun G => b5 (rT G true (by kernel_rfl) (wp_seq (w3 G c3 (ab9 []) fun G => b5 (wp_ret (c8 ?_))))); obtain ⟨ρ, G⟩ := G.nil 11 0 (.ints []) 1 (K3 p q m (ag2 [.box [.ref 11, .v (.slice none 0 0)]])) (ab9 []); obtain ⟨ρ, G⟩ := G.nil 12 0 (.rows []) 7 (K3 p q m (ag2 [.box [.ref 11, .ref 12], .row 0 (D.ints [])])) (ab9 []); obtain ⟨ρ, G⟩ := G.frz [.no, .no, .no, .no, .no, .no, .no, .no, .no, .no, .no, .row 0, .row 0] (K3 p q m (ag2 [.box [.ref 11, .ref 12], dI [], dR []])) (ab9 []); exact M0 (.tup [.agg [.ref 11, .ref 12], bA false]) G [0, 1, 2, 3, 4, 5, 6, 7, 11, 12] (by have e1 : (emB p q m : Bool) = (false) := ((a55 (by with_reducible assumption)).2); (first | rw [e1] | simp only [e1]) <;> rfl) (by show _ = mR [0, 1, 2, 3, 4, 5, 6, 7, 11, 12] (aA9 p q m); unfold aA9; rw [(a55 (by with_reducible assumption)).1] <;> rfl)
theorem a84 (w : World) : e7 (fun _ => True) (fun _ => True) w w (j1 (fun _ : Empty => Rs.none) (fun _ => undef) (j0 [])) := by
 refine (e7.start (ι := Empty ⊕ Nat) (w0 := w) (φ := fun _ => True) (ψ := fun _ => True) fun _ _ => trivial).map (fun k => some k) (fun k k' i a b => by cases a; cases b; rfl) fun k => ?_
 cases k with
 | inl e => exact e.elim
 | inr j => exact .inr rfl
theorem bb3 (w : World) : W8 (fun _ => True) (O7 (fun _ => True) (j1 (fun _ : Empty => Rs.none) (fun _ => undef) (j0 []))) w w := W8.mono fun b _ _ => ⟨bX6, fun i => by
 cases i with
 | inl e => exact e.elim
 | inr j => exact fun h => h.elim⟩
abbrev u8s (c : List UInt8) : List Value := c.map fun b => Value.int .u8 (b.toNat : Int)
theorem ba6 {P : Program} {f : FuncId} {x : Value} {c : List UInt8} {post : List It} (hc : d8.ok P ⟨f, [.ref 0], [dY c], post, .v x⟩) (u : Value) (w : World) (hp : r9 w (fun _ => True) u c.length 1 (u8s c)) :
  Calls P f #[u] w fun e w' => e = .returned x ∧ Below w.heap.size w w' := by
 obtain ⟨ρ', g1, M2, g2⟩ := e7.dats [.sl (.bytes c)] [u] 0 (a84 w) ⟨RD.nice (.bytes c) _ _ _ _ _ (bb3 w) hp, bX6⟩ (fun _ _ => rfl) (fun _ _ _ => rfl)
 have e : i8 (j0 []) (J6 [.sl (.bytes c)] 0) = j0 [dY c] := by
  funext j
  match j with
  | 0 => rfl
  | j + 1 => simp [J6, i8, j0]
 rw [e] at M2
 simp only [xav, AV.vals, AV.val, List.cons.injEq, and_true] at g2
 subst g2
 refine (hc Empty _ _ w w _ ρ' M2).mono ?_
 rintro e w' ⟨ρ2, -, rfl, M3⟩
 exact ⟨rfl, M3.below fun _ _ => trivial⟩
def bmD (b : List UInt8) (j : Int) (nv na : Nat) : s4 × Int := beD b (j + nv + 4 * na) (mmD b j nv na)
theorem bV7 (b : List UInt8) (j : Int) (nv na : Nat) : (bmD b j nv na).1.vals.length ≤ nv + 1 ∧ (bmD b j nv na).1.arrs.length ≤ na ∧ (∀ l ∈ (bmD b j nv na).1.arrs, l.length ≤ 4) ∧ j + nv + 4 * na + 1 ≤ (bmD b j nv na).2 ∧ (bmD b j nv na).2 ≤ j + nv + 4 * na + 2 := by
 have h1 := bV8 b (j + nv + 4 * na) (mmD b j nv na)
 have h2 : (mmD b j nv na).vals.length = nv := as7 _ _ _
 have h3 : (mmD b j nv na).arrs.length = na := aZ5 _ _ _
 rw [h2, h3] at h1
 exact ⟨h1.1, h1.2.1, bQ0 b _ _ 4 fun l hl => Nat.le_of_eq (bn7 _ _ _ l hl), h1.2.2⟩
theorem bU7 (b : List UInt8) (j : Int) (nv na : Nat) (h : 0 < (mmD b j nv na).arrs.length) : 3 ≤ ((mmD b j nv na).arrs.getD 0 []).length := by
 have := bn7 b (j + nv) na ((mmD b j nv na).arrs.getD 0 []) (by rw [f8 h]; exact bX7 h)
 omega
theorem bv3 {b : List UInt8} {j : Int} {nv na : Nat} {m : s4} {k : Int} (h : bmD b j nv na = (m, k)) (h1 : nv ≤ 1000000) (h2 : na ≤ 1000000) (r0 : 0 ≤ j) (r1 : j ≤ 10000000) :
  d8.ok Tryz.prog (beC b (j + nv + 4 * na) (mmD b j nv na).vals (mmD b j nv na).arrs m k) :=
 be6 b _ _ _ m k h (by rw [show (mmD b j nv na).vals.length = nv from as7 _ _ _]; exact h1) (by rw [show (mmD b j nv na).arrs.length = na from aZ5 _ _ _]; exact h2) (fun l hl => Nat.le_of_eq (bn7 _ _ _ l hl)) (bU7 b j nv na) (by omega) (by omega)
abbrev bE3 (f : FuncId) (c : List UInt8) (p q : b8) (m : s4) : d8 := ⟨f, [.ref 0], [dY c], [dY c] ++ pS p ++ pS q ++ mS m, .tup [pA 1, pA 4, mA 7]⟩
abbrev aA7 : It := .box [.v (.slice none 0 0), .v (.slice none 0 0), .v (.slice none 0 0)]
theorem be9 (c : List UInt8) (p q : b8) (vs : List Int) (rs : List (List Int)) (m : s4) (j k : Int) (r0 : 0 ≤ j) (r1 : j ≤ 10000000) (hq : p.vars.length ≤ 1000000) (hq2 : p.arrays.length ≤ 1000000)
  (h1 : d8.ok Tryz.prog (prC (bsD c) 0 p q j))
  (h2 : d8.ok Tryz.prog ⟨18, [.ptr 0 0, pA 2], [.box [.ref 1, iA j], dY (bsD c), dI p.vars, dI p.arrays, dT p.body], [.box [.ref 1, iA (j + p.vars.length + 4 * p.arrays.length)], dY (bsD c), dI p.vars, dI p.arrays, dT p.body] ++ mS ⟨vs, rs⟩, mA 5⟩)
  (h3 : d8.ok Tryz.prog (beC (bsD c) (j + p.vars.length + 4 * p.arrays.length) vs rs m k)) : d8.ok Tryz.prog (bE3 11 c p q m) := by
 have ho := ba4 c; have hpr := h1; have hmm := h2; have hbe := h3; refine t8 22 Tryz.func11 [dY c] [(0, .ref 0)] fun G => ?_; refine wp_seq (e5 G c3 [0, 1, 9, 17] [dY c, aA7, aA7, .box [.v (.slice none 0 0), .v (.slice none 0 0)]] [(0, .ref 0), (2, .ptr 1 0), (3, .ptr 2 0), (4, .ptr 3 0)] fun G => b5 (wp_seq (e5 G (n5 1 [0] ho) [0, 1, 2, 3, 12, 13] [dY c, aA7, aA7, .box [.v (.slice none 0 0), .v (.slice none 0 0)], .box [.ref 5, iA 0], dY (bsD c)] [(2, .ptr 1 0), (3, .ptr 2 0), (4, .ptr 3 0), (5, .ptr 4 0)] fun G => b5 (wp_seq (e5 G (n5 1 [4, 5] hpr) [0, 1, 2, 3, 4, 5, 14, 15, 16, 17, 18, 19, 46, 54] [dY c, aA7, aA7, .box [.v (.slice none 0 0), .v (.slice none 0 0)], .box [.ref 5, iA j], dY (bsD c), dI p.vars, dI p.arrays, dT p.body, dI q.vars, dI q.arrays, dT q.body, .box (pL 6), .box (pL 9)] [(2, .ptr 1 0), (3, .ptr 2 0), (4, .ptr 3 0), (5, .ptr 4 0), (6, .ptr 12 0), (7, .ptr 13 0)] fun G => b5 (wp_seq (F6 G (l9 (f6 5 [4, 5, 6, 7, 8] hmm (f6 6 [4, 5, 54, 55] hbe l8)) fz []) [0, 0, 0, 0, 0, 24, 60, 125, 255, 511] [0, 1, 2, 3, 6, 7, 8, 9, 10, 11, 62, 63] [dY c, .box (pL 4), .box (pL 7), .box [.ref 10, .ref 11], dI p.vars, dI p.arrays, dT p.body, dI q.vars, dI q.arrays, dT q.body, dI m.vals, dR m.arrs] [(2, .ptr 1 0), (3, .ptr 2 0), (4, .ptr 3 0)] fun G => b5 (wp_ret ?_)))))))); exact A3 G [0, 4, 5, 6, 7, 8, 9, 10, 11]
theorem br1 (b : List UInt8) : (prD b 0).1.vars.length ≤ 1000000 ∧ (prD b 0).1.arrays.length ≤ 1000000 ∧ (prD b 0).2.1.vars.length ≤ 1000000 ∧ (prD b 0).2.1.arrays.length ≤ 1000000 ∧ 0 ≤ (prD b 0).2.2 ∧ (prD b 0).2.2 ≤ 700000 := by
 have h := bJ5 b (j := 0) (by omega) (by omega)
 unfold b8.size at h
 omega
def aQ3 (c : List UInt8) : b8 × b8 × s4 := ((prD (bsD c) 0).1, (prD (bsD c) 0).2.1, (bmD (bsD c) (prD (bsD c) 0).2.2 (prD (bsD c) 0).1.vars.length (prD (bsD c) 0).1.arrays.length).1)
theorem bl3 (c : List UInt8) : d8.ok Tryz.prog (bE3 11 c (aQ3 c).1 (aQ3 c).2.1 (aQ3 c).2.2) := by
 obtain ⟨a1, a2, -, -, a5, a6⟩ := br1 (bsD c)
 have h1 := bl9 (bsD c) 0 (by omega) (by omega)
 unfold aQ3
 generalize prD (bsD c) 0 = x at *
 obtain ⟨p, q, j⟩ := x
 dsimp only at *
 obtain ⟨⟨m, k⟩, hm⟩ : ∃ x, x = bmD (bsD c) j p.vars.length p.arrays.length := ⟨_, rfl⟩
 rw [← hm]
 exact be9 c p q _ _ m j k a5 (by omega) a1 a2 h1 (aY4 (bsD c) j p.vars p.arrays p.body a1 a2 a5 (by omega)) (bv3 hm.symm a1 a2 a5 (by omega))
structure Okd (p q : b8) (m : s4) : Prop where
 bp : c9 p.body ≤ 1048576
 bq : c9 q.body ≤ 1048576
 qv : q.vars.length ≤ 1000000
 mv : m.vals.length ≤ 1000000
 ma : m.arrs.length ≤ 1000000
 mi : ∀ l ∈ m.arrs, l.length ≤ 1000
theorem bK0 (c : List UInt8) : Okd (aQ3 c).1 (aQ3 c).2.1 (aQ3 c).2.2 := by
 have h := bJ5 (bsD c) (j := 0) (by omega) (by omega)
 have h2 := bV7 (bsD c) (prD (bsD c) 0).2.2 (prD (bsD c) 0).1.vars.length (prD (bsD c) 0).1.arrays.length
 unfold b8.size at h
 unfold aQ3
 refine ⟨?_, ?_, ?_, ?_, ?_, fun l hl => bX9 (h2.2.2.1 l hl) (by decide)⟩ <;> dsimp only <;> omega
end Go.Proofs.YtgmhmijcnlfmfaaGreat
