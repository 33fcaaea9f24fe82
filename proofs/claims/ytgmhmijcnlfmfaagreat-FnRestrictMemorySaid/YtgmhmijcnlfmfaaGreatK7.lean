/- Part 7: functions on the way, plain laws. Conditions: as said. -/
import Derived.Test.YtgmhmijcnlfmfaaGreatK4
import Derived.Test.YtgmhmijcnlfmfaaGreatK5
import Derived.Test.YtgmhmijcnlfmfaaGreatK6
set_option maxRecDepth 100000
set_option maxHeartbeats 16000000
set_option linter.unusedVariables false
set_option linter.unusedSimpArgs false
open Bool renaming not_eq_false' → bV5, not_eq_true' → bV2
open List renaming all_eq_true → bV4, getD_eq_getElem?_getD → bU9, getElem?_eq_getElem → bV0, getElem?_eq_none → bW7, getElem?_eq_some_iff → bV6, getElem_mem → bW2, take → bV3, take_of_length_le → bV8
open Nat renaming le_refl → bV9, le_trans → bW4
open True renaming intro → bW1

namespace Go.Proofs.YtgmhmijcnlfmfaaGreat
open Go Go.RowKit
theorem bh3 {ars vs : List Int} {m pc : Int} {ss : List b6} (h : d9.ok Tryz.prog (lbC ars m pc vs [] ss)) : d9.ok Tryz.prog (lnC ars m pc vs ss) :=
 d9.nilArg (pre := [qI vs, dI ars, dT ss]) h 10 [0, 1, 2, 4, 5] rfl rfl rfl rfl rfl
theorem au4 (ars : List Int) (nv : Nat) : ∀ (dd : Nat) (tt : List b6) (m pc : Int) (vs : List Int) (bd : List b6), tt.all (d7 nv ars.length dd) = true → nv ≤ vs.length → vs.length + 4 * c9 tt ≤ 90000 → c9 bd + 130 * c9 tt ≤ 600000 → d9.ok Tryz.prog (lbC ars m pc vs bd tt)
 | 0, tt, m, pc, vs, bd, hs, hv, r1, r2 => by
  have h0 : tt = [] := by
   cases tt with
   | nil => rfl
   | cons a r => simp [d7] at hs
  subst h0
  exact aB0 ars nv 0 [] rfl (fun _ _ _ _ _ h => absurd h (by simp)) (fun _ _ _ _ _ _ h => absurd h (by simp)) m pc vs bd hv r1 r2
 | dd + 1, tt, m, pc, vs, bd, hs, hv, r1, r2 => by
  have hB := au4 ars nv dd
  have hI : ∀ (tt : List b6) (m pc : Int) (vs : List Int) (bd : List b6), tt.all (d7 nv ars.length dd) = true → nv ≤ vs.length → vs.length + 4 * c9 tt ≤ 90000 → 130 * c9 tt ≤ 600000 → d9.ok Tryz.prog (br2 ars m pc vs bd tt) := fun tt m pc vs bd h1 h2 h3 h4 => a64 ars m pc vs bd tt (bh3 (hB tt m pc vs [] h1 h2 h3 (by simpa [c9] using h4)))
  exact aB0 ars nv dd tt hs (fun t k3 hh hbb hbe _ m pc vs bd hv r1 r2 => bz9 ars nv dd t k3 hh hbb hbe hB hI m pc vs bd hv r1 r2) (fun tt m pc vs bd h1 _ h2 h3 h4 => hI tt m pc vs bd h1 h2 h3 h4) m pc vs bd hv r1 r2
abbrev bf2 (p : b8) : b8 := ⟨(i6 p.arrays p.body (-1) 0 (p.vars, [])).1, p.arrays, (i6 p.arrays p.body (-1) 0 (p.vars, [])).2⟩
theorem bB0 {p : b8} (h : (J1 p false).1 = 0) (h2 : e6 (bf2 p) = true) : okL p = true := bw4 h h2
theorem bA9 {p : b8} (h2 : e6 (bf2 p) = false) : okL p = false := bw5 h2
theorem bB8 {p : b8} (h : (J1 p false).1 = 0) (h2 : e6 (bf2 p) = true) : T2 p = bf2 p := bw6 (bw4 h h2)
theorem bB7 {p : b8} (h2 : e6 (bf2 p) = false) : T2 p = ⟨[], [], []⟩ := bh2 (bw5 h2)
theorem bk5 (p : b8) (hp : e6 p = true) : d9.ok Tryz.prog (lnC p.arrays (-1) 0 p.vars p.body) := by
 have h := ag0 hp
 exact bh3 (au4 p.arrays p.vars.length 5 p.body (-1) 0 p.vars [] (aB6 hp).2.2.2 (bV9 _) (by omega) (by simp only [c9]; omega))
abbrev ad0 (r0 : List (Nat × AV)) : List (Nat × AV) := (1, .ptr 3 0) :: (2, .ptr 4 0) :: (3, bA false) :: r0
theorem aF7 (p : b8) (hb : p.size ≤ 1048576) (hp : ¬ (J1 p false).1 = 0) : d9.ok Tryz.prog ⟨29, [pA 0], pS p, pS p ++ pS (T2 p), .tup [pA 3, bA (okL p)]⟩ := by
 refine t8 43 Tryz.func29 [dI p.vars, dI p.arrays, dT p.body] [(0, pA 0)] fun G => ?_; have hno := bJ0 hp
 have hb1 : c9 p.body ≤ 1048576 := by unfold b8.size at hb; omega
 refine wp_seq (e5 G c3 [0, 1, 2, 3, 11] [dI p.vars, dI p.arrays, dT p.body, .box (pL 0), .box [.v (.slice none 0 0), .v (.slice none 0 0), .v (.slice none 0 0)]] (ad0 []) fun G => b5 (wp_seq (d8 G (n7 1 [0, 1, 2] (P4 p (by assumption))) [(4, iA (J1 p false).fst)] fun G => b5 (wp_seq (wp_seq (w5 G c3 (ad0 [(15, bA ((J1 p false).fst != 0))]) fun G => b5 ?_)))))); cases h0 : ((J1 p false).fst != 0)
 ·have q0 := bne_eq_false_iff_eq.1 h0; exact False.elim (hp (by with_reducible assumption))
 ·have q0 := bne_iff_ne.1 h0; refine rT G _ h0 (wp_seq (w5 G c3 (ad0 []) fun G => b5 (wp_ret (c8 ?_)))); obtain ⟨ρ, G⟩ := G.nil 5 0 (.ints []) 1 [dI p.vars, dI p.arrays, dT p.body, .box (pL 0), .box [.ref 5, .v (.slice none 0 0), .v (.slice none 0 0)]] (ad0 []); obtain ⟨ρ, G⟩ := G.nil 6 0 (.ints []) 1 [dI p.vars, dI p.arrays, dT p.body, .box (pL 0), .box [.ref 5, .ref 6, .v (.slice none 0 0)], .row 0 (D.ints [])] (ad0 []); obtain ⟨ρ, G⟩ := G.nil 7 0 (.stmts []) 10 [dI p.vars, dI p.arrays, dT p.body, .box (pL 0), .box (pL 5), .row 0 (D.ints []), .row 0 (D.ints [])] (ad0 []); obtain ⟨ρ, G⟩ := G.frz [.no, .no, .no, .no, .no, .row 0, .row 0, .row 0] [dI p.vars, dI p.arrays, dT p.body, .box (pL 0), .box (pL 5), dI [], dI [], dT []] (ad0 []); exact N7 (.tup [pA 5, bA false]) G [0, 1, 2, 5, 6, 7] (by have e1 : (okL p : Bool) = (false) := (by assumption); (first | rw [e1] | simp only [e1]) <;> rfl) (by show _ = mR [0, 1, 2, 5, 6, 7] [dI p.vars, dI p.arrays, dT p.body, dI (T2 p).vars, dI (T2 p).arrays, dT (T2 p).body]; rw [bh2 hno] <;> rfl)
abbrev aD5 : It := .box [.v (.slice none 0 0), .v (.slice none 0 0), .v (.slice none 0 0)]
abbrev aj5 (p : b8) (r0 : List It) : List It := .row 3 (D.ints (i6 p.arrays p.body (-1) 0 (p.vars, [])).fst) :: .row 3 (D.ints p.arrays) :: .tree (D.stmts (i6 p.arrays p.body (-1) 0 (p.vars, [])).snd) :: r0
abbrev C1 (p : b8) (r0 : List It) : List It := dI p.vars :: dI p.arrays :: dT p.body :: r0
theorem aF6 (p : b8) (hb : p.size ≤ 1048576) (hf : (J1 p false).1 = 0) : d9.ok Tryz.prog ⟨29, [pA 0], pS p, pS p ++ pS (T2 p), .tup [pA 3, bA (okL p)]⟩ := by
  have hpv := U3 hf; have hB := bk5 p hpv; refine t8 43 Tryz.func29 (C1 p []) [(0, pA 0)] fun G => ?_; have hz := a34 (U3 hf); have hv := ag0 (U3 hf)
  have hzb : c9 (au5 p).2 ≤ 1048576 := by omega
  have hsum : (au5 p).1.length + p.arrays.length + c9 (au5 p).2 ≤ 1048576 := by omega
  refine wp_seq (e5 G c3 [0, 1, 2, 3, 11] (C1 p [.box (pL 0), aD5]) [(1, .ptr 3 0), (2, .ptr 4 0), (3, bA false)] fun G => b5 (wp_seq (d8 G (n7 1 [0, 1, 2] (P4 p (by omega))) [(4, iA (J1 p false).fst)] fun G => b5 (wp_seq (wp_seq (w5 G c3 [(1, .ptr 3 0), (2, .ptr 4 0), (3, bA false), (15, bA ((J1 p false).fst != 0))] fun G => b5 ?_)))))); cases h0 : ((J1 p false).fst != 0)
  ·
   have q0 := bne_eq_false_iff_eq.1 h0; refine rF G _ h0 (wp_skip (b5 (wp_seq (e5 G (n7 1 [0, 1, 2] (S5 p.vars p.arrays p.body (by assumption))) [0, 1, 2, 4, 13, 14, 15, 21] (C1 p [aD5, .row 3 (D.ints p.vars), .row 3 (D.ints p.arrays), .tree (D.stmts p.body), .box [.ref 4, .ref 5, .tref 6]]) [(2, .ptr 3 0), (3, bA false), (6, .ptr 7 0)] fun G => b5 (wp_seq ?_))))); obtain ⟨ρ, G⟩ := G.frz [.no, .no, .no, .no, .no, .row 3] (C1 p [.box [.v (.slice none 0 0), .v (.slice none 0 0), .v (.slice none 0 0)], .row 3 (D.ints p.vars), dI p.arrays, .tree (D.stmts p.body), .box [.ref 4, .ref 5, .tref 6]]) [(2, .ptr 3 0), (3, bA false), (6, .ptr 7 0)]; obtain ⟨ρ, G⟩ := G.frz [.no, .no, .no, .no, .no, .no, .tree] (C1 p [.box [.v (.slice none 0 0), .v (.slice none 0 0), .v (.slice none 0 0)], .row 3 (D.ints p.vars), dI p.arrays, dT p.body, .box (pL 4)]) [(2, .ptr 3 0), (3, bA false), (6, .ptr 7 0)]; refine e5 G (n7 8 [4, 5, 6] hB) [0, 1, 2, 3, 5, 72, 73, 80] (C1 p [aD5, dI p.arrays, .row 3 (D.ints (i6 p.arrays p.body (-1) 0 (p.vars, [])).fst), .row 75 (D.stmts (i6 p.arrays p.body (-1) 0 (p.vars, [])).snd), .box [.ref 5, .ref 4, .v (.slice none 0 0), .ref 6]]) [(2, .ptr 3 0), (3, bA false), (7, .ptr 7 0)] fun G => b5 (wp_seq ?_); obtain ⟨ρ, G⟩ := G.frz [.no, .no, .no, .no, .no, .row 3] (C1 p [.box [.v (.slice none 0 0), .v (.slice none 0 0), .v (.slice none 0 0)], dI p.arrays, dI (i6 p.arrays p.body (-1) 0 (p.vars, [])).fst, .row 75 (D.stmts (i6 p.arrays p.body (-1) 0 (p.vars, [])).snd), .box [.ref 5, .ref 4, .v (.slice none 0 0), .ref 6]]) [(2, .ptr 3 0), (3, bA false), (7, .ptr 7 0)]; obtain ⟨ρ, G⟩ := G.frz [.no, .no, .no, .no, .no, .no, .row 75] (C1 p [.box [.v (.slice none 0 0), .v (.slice none 0 0), .v (.slice none 0 0)], dI p.arrays, dI (i6 p.arrays p.body (-1) 0 (p.vars, [])).fst, dT (i6 p.arrays p.body (-1) 0 (p.vars, [])).snd, .box [.ref 5, .ref 4, .v (.slice none 0 0), .ref 6]]) [(2, .ptr 3 0), (3, bA false), (7, .ptr 7 0)]; refine e5 G (n7 9 [5, 4, 6] (S5 ((i6 p.arrays p.body (-1) 0 (p.vars, [])).fst) p.arrays ((i6 p.arrays p.body (-1) 0 (p.vars, [])).snd) (by assumption))) [0, 1, 2, 3, 80, 81, 82, 88] (C1 p (aD5 :: (aj5 p [.box [.ref 4, .ref 5, .tref 6]]))) [(2, .ptr 3 0), (3, bA false), (8, .ptr 7 0)] fun G => b5 (wp_seq (wp_seq (d8 G (n7 1 [4, 5, 6] (d9.lend (l8 ((i6 p.arrays p.body (-1) 0 (p.vars, [])).fst) p.arrays ((i6 p.arrays p.body (-1) 0 (p.vars, [])).snd) (by assumption)) [.row 3, .row 3, .tree])) [(40, .v (.bool !e6 (b8.mk (i6 p.arrays p.body (-1) 0 (p.vars, [])).fst p.arrays (i6 p.arrays p.body (-1) 0 (p.vars, [])).snd)))] fun G => b5 ?_))); cases h1 : (!e6 (b8.mk (i6 p.arrays p.body (-1 : Int) (0 : Int) (p.vars, [])).fst p.arrays (i6 p.arrays p.body (-1 : Int) (0 : Int) (p.vars, [])).snd))
   · have q1 : (e6 (b8.mk (i6 p.arrays p.body (-1) 0 (p.vars, [])).fst p.arrays (i6 p.arrays p.body (-1) 0 (p.vars, [])).snd)) = true := (Eq.mp (bV5 _) h1); refine rF G _ h1 (wp_skip (b5 (wp_seq (e5 G c3 (rg 7) (C1 p (.box [.ref 4, .ref 5, .tref 6] :: (aj5 p []))) [(2, .ptr 3 0), (3, bA true)] fun G => b5 (wp_ret ?_))))); obtain ⟨ρ, G⟩ := G.frz [.no, .no, .no, .no, .row 3, .row 3, .tree] (C1 p [.box (pL 4), dI (i6 p.arrays p.body (-1) 0 (p.vars, [])).fst, dI p.arrays, dT (i6 p.arrays p.body (-1) 0 (p.vars, [])).snd]) [(2, .ptr 3 0), (3, bA true)]; exact N7 (.tup [pA 4, bA true]) G [0, 1, 2, 4, 5, 6] (by have e1 : (okL p : Bool) = (true) := (bB0 hf (by with_reducible assumption)); (first | rw [e1] | simp only [e1]) <;> rfl) (by show _ = mR [0, 1, 2, 4, 5, 6] (C1 p [dI (T2 p).vars, dI (T2 p).arrays, dT (T2 p).body]); rw [bB8 hf (by with_reducible assumption)] <;> rfl)
   · have q1 : (e6 (b8.mk (i6 p.arrays p.body (-1) 0 (p.vars, [])).fst p.arrays (i6 p.arrays p.body (-1) 0 (p.vars, [])).snd)) = false := (Eq.mp (bV2 _) h1); refine rT G _ h1 (wp_seq (w5 G c3 [(2, .ptr 3 0), (3, bA false), (8, .ptr 7 0)] fun G => b5 (wp_ret (c8 ?_)))); obtain ⟨ρ, G⟩ := G.nil 8 0 (.ints []) 1 (C1 p (.box [.ref 8, .v (.slice none 0 0), .v (.slice none 0 0)] :: (aj5 p [.box [.ref 4, .ref 5, .tref 6]]))) [(2, .ptr 3 0), (3, bA false), (8, .ptr 7 0)]; obtain ⟨ρ, G⟩ := G.nil 9 0 (.ints []) 1 (C1 p (.box [.ref 8, .ref 9, .v (.slice none 0 0)] :: (aj5 p [.box [.ref 4, .ref 5, .tref 6], .row 0 (D.ints [])]))) [(2, .ptr 3 0), (3, bA false), (8, .ptr 7 0)]; obtain ⟨ρ, G⟩ := G.nil 10 0 (.stmts []) 10 (C1 p (.box (pL 8) :: (aj5 p [.box [.ref 4, .ref 5, .tref 6], .row 0 (D.ints []), .row 0 (D.ints [])]))) [(2, .ptr 3 0), (3, bA false), (8, .ptr 7 0)]; obtain ⟨ρ, G⟩ := G.frz [.no, .no, .no, .no, .no, .no, .no, .no, .row 0, .row 0, .row 0] (C1 p (.box (pL 8) :: (aj5 p [.box [.ref 4, .ref 5, .tref 6], dI [], dI [], dT []]))) [(2, .ptr 3 0), (3, bA false), (8, .ptr 7 0)]; exact N7 (.tup [pA 8, bA false]) G [0, 1, 2, 8, 9, 10] (by have e1 : (okL p : Bool) = (false) := (bA9 (by with_reducible assumption)); (first | rw [e1] | simp only [e1]) <;> rfl) (by show _ = mR [0, 1, 2, 8, 9, 10] (C1 p [dI (T2 p).vars, dI (T2 p).arrays, dT (T2 p).body]); rw [bB7 (by with_reducible assumption)] <;> rfl)
  · have q0 := bne_iff_ne.1 h0; exact False.elim (by exact absurd hf (by omega))
theorem aR2 (p : b8) (hb : p.size ≤ 1048576) : d9.ok Tryz.prog ⟨29, [pA 0], pS p, pS p ++ pS (T2 p), .tup [pA 3, bA (okL p)]⟩ := by
 by_cases hf : (J1 p false).1 = 0
 ·exact aF6 p hb hf
 ·exact aF7 p hb hf
theorem d9.twice {P : Program} {f : FuncId} {args : List AV} {pre S : List It} {d : D} {res : AV} {i : Nat} (hc : d9.ok P ⟨f, args, pre, S, res⟩) (S1 : List It) (hi : S[i]? = some (.dat d)) (hl : pre.length ≤ S.length)
  (hS : S.all (fun x => I9 S.length x.ids) = true) (hg : I9 S.length res.ids = true) (hl1 : S1.length = S.length + 1) (hd : i9 S1 S.length = .dat d) (h2 : ∀ ρ : Nat → Value, ρ S.length = ρ i → ∀ j, j < S.length → (i9 S1 j).res ρ j = (i9 S j).res ρ j) : d9.ok P ⟨f, args, pre, S1, res⟩ := by
 intro ι φ ψ w0 w F ρ M
 refine (hc ι φ ψ w0 w F ρ M).mono ?_
 rintro x w' ⟨ρ1, h1, rfl, M1⟩
 have hi' : i9 S i = .dat d := by simp [i9, hi]
 have hlt : i < S.length := (bV6.1 hi).1
 have hinv : Inv (i9 S) ρ1 [S.length] := fun ρ' h j => by
  by_cases hj : j < S.length
  ·refine It.res_congr _ (fun k hk => h k ?_) (.inr (.inr (h j (by simp; omega))))
   have h1 := t3 (bV4.1 hS (S[j]) (bW2 hj)) k (by simpa [i9, bU9, bV0 hj] using hk)
   simp; omega
  ·rw [show i9 S j = .none by simp only [i9, bU9, bW7 (Nat.le_of_not_lt hj)]; rfl]; rfl
 obtain ⟨ρ2, h3, M2, h4⟩ := M1.newDat (id := S.length) (by simp [i9]) hinv (M1.datAt hi')
 have hρ : ρ2 i = ρ1 i := h3 i (by simp; omega)
 have e : j1 F ρ2 (i8 (i9 S) [(S.length, .dat d)]) = j1 F ρ2 (i9 S1) := by
  funext k
  cases k with
  | inl q => rfl
  | inr j =>
   simp only [j1, i8]
   by_cases hj : j = S.length
   ·subst hj; rw [if_pos rfl, hd]
   ·rw [if_neg hj]
    by_cases hj2 : j < S.length
    ·exact (h2 ρ2 (by rw [← h4, hρ]) j hj2).symm
    ·rw [l6 (by omega), l6 (by omega)]
 rw [e] at M2
 refine ⟨ρ2, fun k hk => by
  have hk : k < pre.length := hk
  rw [h3 k (by simp; omega)]; exact h1 k hk, ?_, M2⟩
 exact congrArg _ (AV.val_congr res fun k hk => by
  have := t3 hg k hk
  exact h3 k (by simp; omega)).symm
theorem a93 (c : List UInt8) : d9.ok Tryz.prog ⟨15, [.ref 0], [dY c], [dY c, .box [.ref 2, iA 0], dY (bsD c)], .ptr 1 0⟩ := by
 by_cases h : c.length ≤ 2000
 ·have e : bsD c = c := bV8 h
  rw [e]
  refine d9.twice (aY2 c h) (i := 0) _ rfl (by show (1 : Nat) ≤ 2; omega) rfl rfl rfl rfl fun ρ hρ j hj => ?_
  have hj : j < 2 := hj
  match j, hj with
  | 0, _ => rfl
  | 1, _ =>
   have hρ : ρ 2 = ρ 0 := hρ
   simp only [i9, bU9, List.getElem?_cons_succ, List.getElem?_cons_zero, Option.getD_some, It.res, AV.vals, AV.val, hρ]
 ·exact aY1 c (by omega)
abbrev prC (b : List UInt8) (j : Int) (p q : b8) (k : Int) : d9 := ⟨16, [.ptr 0 0], [.box [.ref 1, iA j], dY b], [.box [.ref 1, iA k], dY b] ++ pS p ++ pS q, .tup [pA 2, pA 5]⟩
theorem bh1 {p : b8} {x : Bool} (hb : p.size ≤ 1048576) (h : okL p = x) : d9.ok Tryz.prog ⟨29, [pA 0], pS p, pS p ++ pS (T2 p), .tup [pA 3, bA x]⟩ := h ▸ aR2 p hb
theorem bK6 {b : List UInt8} {j : Int} {p : b8} {q : Int} (h : F8 b 3 j = (p, q)) (r0 : 0 ≤ j) (r1 : j ≤ 1000000) : d9.ok Tryz.prog ⟨28, [.ptr 0 0], [.box [.ref 1, iA j], dY b], [.box [.ref 1, iA q], dY b] ++ oP p, oA 2⟩ := by
 have := aQ3 b j r0 (by omega)
 unfold fpC at this
 rw [h] at this; exact this
theorem a30 {b : List UInt8} {j k : Int} {p q : b8} (h : Q3 b p j = (q, k)) (hb : p.size ≤ 1000000) (r0 : 0 ≤ j) (r1 : j ≤ 100000000) : d9.ok Tryz.prog ⟨31, [.ptr 0 0, pA 2], [.box [.ref 1, iA j], dY b] ++ pS p, [.box [.ref 1, iA k], dY b] ++ pS p ++ oP q, oA 5⟩ := by
 have := aX9 b p j hb r0 r1
 unfold mtC at this
 rw [h] at this; exact this
abbrev am8 : It := .box [.v (.slice none 0 0), .v (.slice none 0 0), .v (.slice none 0 0)]
abbrev ba8 (b : List UInt8) (q : Int) (p : b8) (r0 : List It) : List It := .box [.ref 1, iA q] :: dY b :: .box [.v (.slice none 0 0), .v (.slice none 0 0), .v (.slice none 0 0)] :: .box [.v (.slice none 0 0), .v (.slice none 0 0), .v (.slice none 0 0)] :: dI p.vars :: r0
abbrev aJ8 (r0 : List (Nat × AV)) : List (Nat × AV) := (0, .ptr 0 0) :: (2, .ptr 2 0) :: (3, .ptr 3 0) :: (4, .ptr 7 0) :: r0
theorem bH7 (b : List UInt8) (j q k k2 : Int) (p p1 p2 : b8) (ho : okL p = false) (hb : p.size ≤ 1000000) (r0 : 0 ≤ j) (r1 : j ≤ 10000000) (r2 : 0 ≤ q ∧ q ≤ 10000000)
  (h1 : d9.ok Tryz.prog ⟨28, [.ptr 0 0], [.box [.ref 1, iA j], dY b], [.box [.ref 1, iA q], dY b] ++ oP p, oA 2⟩)
  (h2 : d9.ok Tryz.prog ⟨31, [.ptr 0 0, pA 2], [.box [.ref 1, iA q], dY b] ++ pS p, [.box [.ref 1, iA k], dY b] ++ pS p ++ oP p1, oA 5⟩)
  (h3 : d9.ok Tryz.prog ⟨31, [.ptr 0 0, pA 2], [.box [.ref 1, iA k], dY b] ++ pS p1, [.box [.ref 1, iA k2], dY b] ++ pS p1 ++ oP p2, oA 5⟩) : d9.ok Tryz.prog (prC b j p p2 k2) := by
 have hl5 := h1; have hm1 := h2; have hm2 := h3; have hln := bh1 (show p.size ≤ 1048576 by omega) ho; refine t8 28 Tryz.func16 [.box [.ref 1, iA j], dY b] [(0, .ptr 0 0)] fun G => ?_; refine wp_seq (e5 G c3 [0, 1, 2, 10] [.box [.ref 1, iA j], dY b, am8, am8] [(0, .ptr 0 0), (2, .ptr 2 0), (3, .ptr 3 0)] fun G => b5 (wp_seq (e5 G (n7 1 [0, 1] hl5) [0, 1, 2, 3, 12, 13, 14, 20] [.box [.ref 1, iA q], dY b, am8, am8, .row 3 (D.ints p.vars), .row 3 (D.ints p.arrays), .tree (D.stmts p.body), .box [.ref 4, .ref 5, .tref 6]] (aJ8 []) fun G => b5 (wp_seq ?_)))); obtain ⟨ρ, G⟩ := G.frz [.no, .no, .no, .no, .row 3] (ba8 b q p [.row 3 (D.ints p.arrays), .tree (D.stmts p.body), .box [.ref 4, .ref 5, .tref 6]]) (aJ8 []); obtain ⟨ρ, G⟩ := G.frz [.no, .no, .no, .no, .no, .row 3] (ba8 b q p [dI p.arrays, .tree (D.stmts p.body), .box [.ref 4, .ref 5, .tref 6]]) (aJ8 []); obtain ⟨ρ, G⟩ := G.frz [.no, .no, .no, .no, .no, .no, .tree] (ba8 b q p [dI p.arrays, dT p.body, .box (pL 4)]) (aJ8 []); refine e5 G (n7 1 [4, 5, 6] hln) [0, 1, 2, 3, 4, 5, 6, 7, 16, 17, 18, 48] [.box [.ref 1, iA q], dY b, am8, am8, dI p.vars, dI p.arrays, dT p.body, .box (pL 4), dI (T2 p).vars, dI (T2 p).arrays, dT (T2 p).body, .box (pL 8)] (aJ8 [(5, .ptr 11 0), (6, bA false)]) fun G => b5 (wp_seq (wp_seq (d8 G (z4 (fc (b := true) rfl fz) [(3, 0), (4, 0), (5, 0), (1006, 0)]) [(20, bA true)] fun G => b5 (rT G true (by kernel_rfl) (e5 G (m5 (f6 3 [0, 1, 4, 5, 6] hm1 (f6 4 [0, 1, 36, 37, 38] (d9.lend hm2 [.no, .no, .row 3, .row 3, .tree]) m0)) fz []) [0, 1, 2, 3, 4, 5, 6, 7, 11, 44, 45, 46] [.box [.ref 1, iA k2], dY b, am8, am8, dI p.vars, dI p.arrays, dT p.body, .box (pL 4), .box [.ref 9, .ref 10, .tref 11], .row 3 (D.ints p2.vars), .row 3 (D.ints p2.arrays), .tree (D.stmts p2.body)] [(2, .ptr 2 0), (3, .ptr 3 0), (4, .ptr 7 0), (5, .ptr 8 0)] fun G => b5 (wp_seq (F5 G c3 [0, 0, 1, 7] [0, 1, 2, 3, 4, 5, 6, 9, 10, 11] [.box [.ref 1, iA k2], dY b, .box (pL 4), .box [.ref 7, .ref 8, .tref 9], dI p.vars, dI p.arrays, dT p.body, .row 3 (D.ints p2.vars), .row 3 (D.ints p2.arrays), .tree (D.stmts p2.body)] [(2, .ptr 2 0), (3, .ptr 3 0)] fun G => b5 (wp_ret ?_)))))))); obtain ⟨ρ, G⟩ := G.frz [.no, .no, .no, .no, .no, .no, .no, .row 3, .row 3, .tree] [.box [.ref 1, iA k2], dY b, .box (pL 4), .box (pL 7), dI p.vars, dI p.arrays, dT p.body, dI p2.vars, dI p2.arrays, dT p2.body] [(2, .ptr 2 0), (3, .ptr 3 0)]; exact A0 G [0, 1, 4, 5, 6, 7, 8, 9]
abbrev ac2 : It := .box [.v (.slice none 0 0), .v (.slice none 0 0), .v (.slice none 0 0)]
abbrev ba7 (b : List UInt8) (q : Int) (p : b8) (r0 : List It) : List It := .box [.ref 1, iA q] :: dY b :: .box [.v (.slice none 0 0), .v (.slice none 0 0), .v (.slice none 0 0)] :: .box [.v (.slice none 0 0), .v (.slice none 0 0), .v (.slice none 0 0)] :: dI p.vars :: r0
abbrev az5 (r0 : List (Nat × AV)) : List (Nat × AV) := (0, .ptr 0 0) :: (2, .ptr 2 0) :: (3, .ptr 3 0) :: (4, .ptr 7 0) :: r0
theorem bH6 (b : List UInt8) (j q k k2 : Int) (p p1 p2 : b8) (ho : okL p = true) (hk : pk b q 8 = 0) (hb : p.size ≤ 1000000) (r0 : 0 ≤ j) (r1 : j ≤ 10000000) (r2 : 0 ≤ q ∧ q ≤ 10000000)
  (h1 : d9.ok Tryz.prog ⟨28, [.ptr 0 0], [.box [.ref 1, iA j], dY b], [.box [.ref 1, iA q], dY b] ++ oP p, oA 2⟩)
  (h2 : d9.ok Tryz.prog ⟨31, [.ptr 0 0, pA 2], [.box [.ref 1, iA (q + 1)], dY b] ++ pS p, [.box [.ref 1, iA k], dY b] ++ pS p ++ oP p1, oA 5⟩)
  (h3 : d9.ok Tryz.prog ⟨31, [.ptr 0 0, pA 2], [.box [.ref 1, iA k], dY b] ++ pS p1, [.box [.ref 1, iA k2], dY b] ++ pS p1 ++ oP p2, oA 5⟩) : d9.ok Tryz.prog (prC b j p p2 k2) := by
 have hl5 := h1; have hm1 := h2; have hm2 := h3; have hln := bh1 (show p.size ≤ 1048576 by omega) ho; refine t8 28 Tryz.func16 [.box [.ref 1, iA j], dY b] [(0, .ptr 0 0)] fun G => ?_; refine wp_seq (e5 G c3 [0, 1, 2, 10] [.box [.ref 1, iA j], dY b, ac2, ac2] [(0, .ptr 0 0), (2, .ptr 2 0), (3, .ptr 3 0)] fun G => b5 (wp_seq (e5 G (n7 1 [0, 1] hl5) [0, 1, 2, 3, 12, 13, 14, 20] [.box [.ref 1, iA q], dY b, ac2, ac2, .row 3 (D.ints p.vars), .row 3 (D.ints p.arrays), .tree (D.stmts p.body), .box [.ref 4, .ref 5, .tref 6]] (az5 []) fun G => b5 (wp_seq ?_)))); obtain ⟨ρ, G⟩ := G.frz [.no, .no, .no, .no, .row 3] (ba7 b q p [.row 3 (D.ints p.arrays), .tree (D.stmts p.body), .box [.ref 4, .ref 5, .tref 6]]) (az5 []); obtain ⟨ρ, G⟩ := G.frz [.no, .no, .no, .no, .no, .row 3] (ba7 b q p [dI p.arrays, .tree (D.stmts p.body), .box [.ref 4, .ref 5, .tref 6]]) (az5 []); obtain ⟨ρ, G⟩ := G.frz [.no, .no, .no, .no, .no, .no, .tree] (ba7 b q p [dI p.arrays, dT p.body, .box (pL 4)]) (az5 []); refine e5 G (n7 1 [4, 5, 6] hln) [0, 1, 2, 3, 4, 5, 6, 7, 16, 17, 18, 48] [.box [.ref 1, iA q], dY b, ac2, ac2, dI p.vars, dI p.arrays, dT p.body, .box (pL 4), dI (T2 p).vars, dI (T2 p).arrays, dT (T2 p).body, .box (pL 8)] (az5 [(5, .ptr 11 0), (6, bA true)]) fun G => b5 (wp_seq (wp_seq (e5 G (m5 (f6 4 [0, 1] (B2 b q 8 (by omega) (by omega)) m0) (fc (b := false) rfl fz) [(3, 0), (4, 0), (5, 0), (1006, 0)]) (rg 12) [.box [.ref 1, iA (q + 1)], dY b, ac2, ac2, dI p.vars, dI p.arrays, dT p.body, .box (pL 4), dI (T2 p).vars, dI (T2 p).arrays, dT (T2 p).body, .box (pL 8)] (az5 [(5, .ptr 11 0), (20, bA (pk b q 8 == 0))]) fun G => b5 ?_))); cases h0 : (pk b q (8 : Int) == 0)
 ·have q0 := ne_of_beq_false h0; exact False.elim (by omega)
 ·have q0 := eq_of_beq h0; refine rT G _ h0 (e5 G (m5 (f6 3 [0, 1, 4, 5, 6] hm1 (f6 4 [0, 1, 36, 37, 38] (d9.lend hm2 [.no, .no, .row 3, .row 3, .tree]) m0)) fz []) [0, 1, 2, 3, 4, 5, 6, 7, 11, 44, 45, 46] [.box [.ref 1, iA k2], dY b, ac2, ac2, dI p.vars, dI p.arrays, dT p.body, .box (pL 4), .box [.ref 9, .ref 10, .tref 11], .row 3 (D.ints p2.vars), .row 3 (D.ints p2.arrays), .tree (D.stmts p2.body)] [(2, .ptr 2 0), (3, .ptr 3 0), (4, .ptr 7 0), (5, .ptr 8 0)] fun G => b5 (wp_seq (F5 G c3 [0, 0, 1, 7] [0, 1, 2, 3, 4, 5, 6, 9, 10, 11] [.box [.ref 1, iA k2], dY b, .box (pL 4), .box [.ref 7, .ref 8, .tref 9], dI p.vars, dI p.arrays, dT p.body, .row 3 (D.ints p2.vars), .row 3 (D.ints p2.arrays), .tree (D.stmts p2.body)] [(2, .ptr 2 0), (3, .ptr 3 0)] fun G => b5 (wp_ret ?_)))); obtain ⟨ρ, G⟩ := G.frz [.no, .no, .no, .no, .no, .no, .no, .row 3, .row 3, .tree] [.box [.ref 1, iA k2], dY b, .box (pL 4), .box (pL 7), dI p.vars, dI p.arrays, dT p.body, dI p2.vars, dI p2.arrays, dT p2.body] [(2, .ptr 2 0), (3, .ptr 3 0)]; exact A0 G [0, 1, 4, 5, 6, 7, 8, 9]
abbrev am7 : It := .box [.v (.slice none 0 0), .v (.slice none 0 0), .v (.slice none 0 0)]
abbrev ba6 (b : List UInt8) (q : Int) (p : b8) (r0 : List It) : List It := .box [.ref 1, iA q] :: dY b :: .box [.v (.slice none 0 0), .v (.slice none 0 0), .v (.slice none 0 0)] :: .box [.v (.slice none 0 0), .v (.slice none 0 0), .v (.slice none 0 0)] :: dI p.vars :: r0
abbrev az4 (r0 : List (Nat × AV)) : List (Nat × AV) := (0, .ptr 0 0) :: (2, .ptr 2 0) :: (3, .ptr 3 0) :: (4, .ptr 7 0) :: r0
theorem bH5 (b : List UInt8) (j q : Int) (p : b8) (ho : okL p = true) (hk : ¬ pk b q 8 = 0) (hb : p.size ≤ 1000000) (r0 : 0 ≤ j) (r1 : j ≤ 10000000) (r2 : 0 ≤ q ∧ q ≤ 10000000)
  (h1 : d9.ok Tryz.prog ⟨28, [.ptr 0 0], [.box [.ref 1, iA j], dY b], [.box [.ref 1, iA q], dY b] ++ oP p, oA 2⟩) : d9.ok Tryz.prog (prC b j p (T2 p) (q + 1)) := by
 have hl5 := h1; have hln := bh1 (show p.size ≤ 1048576 by omega) ho; refine t8 28 Tryz.func16 [.box [.ref 1, iA j], dY b] [(0, .ptr 0 0)] fun G => ?_; refine wp_seq (e5 G c3 [0, 1, 2, 10] [.box [.ref 1, iA j], dY b, am7, am7] [(0, .ptr 0 0), (2, .ptr 2 0), (3, .ptr 3 0)] fun G => b5 (wp_seq (e5 G (n7 1 [0, 1] hl5) [0, 1, 2, 3, 12, 13, 14, 20] [.box [.ref 1, iA q], dY b, am7, am7, .row 3 (D.ints p.vars), .row 3 (D.ints p.arrays), .tree (D.stmts p.body), .box [.ref 4, .ref 5, .tref 6]] (az4 []) fun G => b5 (wp_seq ?_)))); obtain ⟨ρ, G⟩ := G.frz [.no, .no, .no, .no, .row 3] (ba6 b q p [.row 3 (D.ints p.arrays), .tree (D.stmts p.body), .box [.ref 4, .ref 5, .tref 6]]) (az4 []); obtain ⟨ρ, G⟩ := G.frz [.no, .no, .no, .no, .no, .row 3] (ba6 b q p [dI p.arrays, .tree (D.stmts p.body), .box [.ref 4, .ref 5, .tref 6]]) (az4 []); obtain ⟨ρ, G⟩ := G.frz [.no, .no, .no, .no, .no, .no, .tree] (ba6 b q p [dI p.arrays, dT p.body, .box (pL 4)]) (az4 []); refine e5 G (n7 1 [4, 5, 6] hln) [0, 1, 2, 3, 4, 5, 6, 7, 16, 17, 18, 48] [.box [.ref 1, iA q], dY b, am7, am7, dI p.vars, dI p.arrays, dT p.body, .box (pL 4), dI (T2 p).vars, dI (T2 p).arrays, dT (T2 p).body, .box (pL 8)] (az4 [(5, .ptr 11 0), (6, bA true)]) fun G => b5 (wp_seq (wp_seq (e5 G (m5 (f6 4 [0, 1] (B2 b q 8 (by omega) (by omega)) m0) (fc (b := false) rfl fz) [(3, 0), (4, 0), (5, 0), (1006, 0)]) (rg 12) [.box [.ref 1, iA (q + 1)], dY b, am7, am7, dI p.vars, dI p.arrays, dT p.body, .box (pL 4), dI (T2 p).vars, dI (T2 p).arrays, dT (T2 p).body, .box (pL 8)] (az4 [(5, .ptr 11 0), (20, bA (pk b q 8 == 0))]) fun G => b5 ?_))); cases h0 : (pk b q (8 : Int) == 0)
 ·have q0 := ne_of_beq_false h0; refine rF G _ h0 (wp_skip (b5 (wp_seq (F5 G c3 [0, 0, 1, 7] [0, 1, 2, 3, 4, 5, 6, 8, 9, 10] [.box [.ref 1, iA (q + 1)], dY b, .box (pL 4), .box (pL 7), dI p.vars, dI p.arrays, dT p.body, dI (T2 p).vars, dI (T2 p).arrays, dT (T2 p).body] [(2, .ptr 2 0), (3, .ptr 3 0)] fun G => b5 (wp_ret ?_))))); exact A0 G [0, 1, 4, 5, 6, 7, 8, 9]
 ·have q0 := eq_of_beq h0; exact False.elim (by omega)
theorem bl1 (b : List UInt8) (j : Int) (r0 : 0 ≤ j) (r1 : j ≤ 1000000) : d9.ok Tryz.prog (prC b j (prD b j).1 (prD b j).2.1 (prD b j).2.2) := by
 have hfi := bC9 b 3 j (bV9 _) r0 (by omega)
 unfold prD
 obtain ⟨⟨p, q⟩, hf⟩ : ∃ x, x = F8 b 3 j := ⟨_, rfl⟩
 rw [← hf] at hfi ⊢
 have hl := bK6 hf.symm r0 r1
 dsimp only at hfi ⊢
 split
 ·rename_i ho
  split
  ·rename_i hk
   have hm := aG8 b p (q + 1)
   obtain ⟨⟨p1, k⟩, hx⟩ : ∃ x, x = Q3 b p (q + 1) := ⟨_, rfl⟩
   obtain ⟨⟨p2, k2⟩, hy⟩ : ∃ x, x = Q3 b p1 k := ⟨_, rfl⟩
   have e : m2D b p (q + 1) = (p2, k2) := by show Q3 b (Q3 b p (q + 1)).1 (Q3 b p (q + 1)).2 = _; rw [← hx]; exact hy.symm
   rw [e]
   rw [← hx] at hm
   dsimp only at hm
   exact bH6 b j q k k2 p p1 p2 ho hk (by omega) r0 (by omega) (by omega) hl (a30 hx.symm (by omega) (by omega) (by omega)) (a30 hy.symm (by omega) (by omega) (by omega))
  ·rename_i hk; exact bH5 b j q p ho hk (by omega) r0 (by omega) (by omega) hl
 ·rename_i ho
  have hm := aG8 b p q
  obtain ⟨⟨p1, k⟩, hx⟩ : ∃ x, x = Q3 b p q := ⟨_, rfl⟩
  obtain ⟨⟨p2, k2⟩, hy⟩ : ∃ x, x = Q3 b p1 k := ⟨_, rfl⟩
  have e : m2D b p q = (p2, k2) := by show Q3 b (Q3 b p q).1 (Q3 b p q).2 = _; rw [← hx]; exact hy.symm
  rw [e]
  rw [← hx] at hm
  dsimp only at hm
  exact bH7 b j q k k2 p p1 p2 (by simpa using ho) (by omega) r0 (by omega) (by omega) hl (a30 hx.symm (by omega) (by omega) (by omega)) (a30 hy.symm (by omega) (by omega) (by omega))
abbrev mRw (m : t4) : List It := [.row 3 (.ints m.vals), .row 23 (.rows m.arrs)]
theorem bd5 (l : List (List Int)) (i : Nat) : l.set i (l.getD i []) = l := by
 apply List.ext_getElem?
 intro j
 rw [List.getElem?_set]
 by_cases h : i = j
 ·subst h
  rw [if_pos rfl]
  by_cases h2 : i < l.length
  ·simp [h2]
  ·simp [h2]
 ·rw [if_neg h]
abbrev aZ5 : It := .box [.v (.slice none 0 0), .v (.slice none 0 0)]
theorem bD7 (xs : List Int) (rs : List (List Int)) (hx : xs.length ≤ 1000000) (hr : rs.length ≤ 1000000) (hi : ∀ l ∈ rs, l.length ≤ 1000) : d9.ok Tryz.prog ⟨20, [mA 0], [dI xs, dR rs], [dI xs, dR rs] ++ mRw ⟨xs, rs⟩, mA 2⟩ := by
 have hc1 := an4 xs (by omega)
 have hc2 := fun (k : Nat) (hk : k < rs.length) => ai8 (rs.getD k []) (bW4 (hi _ (by rw [f8 hk]; exact bW2 hk)) (by decide))
 have hc3 := aR1 rs (by omega); refine t8 29 Tryz.func20 [dI xs, dR rs] [(0, .agg [.ref 0, .ref 1])] fun G => ?_; refine wp_seq (e5 G c3 [0, 1, 2, 10] [dI xs, dR rs, .box [.ref 0, .ref 1], aZ5] [(1, .ptr 2 0), (2, .ptr 3 0)] fun G => b5 (wp_seq (F5 G (m5 (f6 2 [0] hc1 (f6 5 [1] hc3 m0)) fz []) [0, 1, 3, 0, 8, 31, 31, 127, 255, 511] [0, 1, 2, 3, 20, 44] [dI xs, dR rs, .box [.ref 4, .ref 5], aZ5, .row 3 (D.ints xs), .row 23 (D.rows rs)] [(1, .ptr 2 0), (2, .ptr 3 0)] fun G => b5 (wp_seq (wp_seq (w5 G c3 [(1, .ptr 2 0), (2, .ptr 3 0), (14, .ref 5), (15, iA (rs.length : Int)), (16, iA 0)] fun G => b5 (wp_block ?_))))))); refine l0 (κ := Nat) (fun k => k ≤ rs.length) (fun k => rs.length - k) (fun k => [dI xs, dR rs, .box [.ref 4, .ref 5], .box [.v (.slice none 0 0), .v (.slice none 0 0)], .row 3 (D.ints xs), .row 23 (D.rows rs)]) (fun k => [(1, .ptr 2 0), (2, .ptr 3 0), (14, .ref 5), (15, iA (rs.length : Int)), (16, iA k)]) 0 (by omega) (l7.at G _ _) ?_; clear G; intro k ρ a w hp G; refine wp_seq (d8 G c3 [(17, bA (decide ((k : Int) < rs.length)))] fun G => b5 (wp_seq (H2 G (fun h0 q0 => ?_) fun h0 q0 => ?_)))
 ·refine wp_exit (k6 (k6 (j8 (b5 (wp_seq (e5 G c3 [0, 1, 3, 4, 5] [dI xs, dR rs, .box [.ref 3, .ref 4], .row 3 (D.ints xs), .row 23 (D.rows rs)] [(2, .ptr 2 0)] fun G => b5 (wp_ret ?_))))))); exact A0 G [0, 1, 3, 4]
 ·refine wp_skip (b5 (wp_seq (wp_block (wp_seq (L5 G c3 [0, 1, 2, 3, 4, 5, 22] [dI xs, dR rs, .box [.ref 4, .ref 5], aZ5, .row 3 (D.ints xs), .row 23 (D.rows rs), dI (rs.getD k [])] [(1, .ptr 2 0), (2, .ptr 3 0), (3, iA k), (4, .ref 6), (14, .ref 5), (15, iA (rs.length : Int)), (16, iA k)] (iX k k rs.length []) (iK (by omega) bW1) fun G => b5 (E1 G (n7 4 [6] (hc2 k (by omega))) [0, 1, 0, 0, 8, 31, 63] (rg 6) [dI xs, dR rs, .box [.ref 4, .ref 5], aZ5, .row 3 (D.ints xs), .row 23 (D.rows (rs.set k (rs.getD k [])))] [(1, .ptr 2 0), (2, .ptr 3 0), (14, .ref 5), (15, iA (rs.length : Int)), (16, iA k)] (iX k k rs.length []) (iK (by omega) bW1) fun G => j0 (b5 (z3 G c3 [(16, iA ((k : Int) + 1))] [wO ((k : Int) + 1)] (o1 (by omega)) fun G => b5 ?_)))))))); exact H9 G (k + 1) (by omega) (by omega) (rg 6) (by have e1 : (rs.set k (rs.getD k []) : List (List Int)) = (rs) := (bd5 _ _); (first | rw [e1] | simp only [e1]) <;> rfl)
abbrev az9 (p : b8) (q : b8) (m : t4) : List It := [dI p.vars, dI p.arrays, dT p.body, dI q.vars, dI q.arrays, dT q.body, dI m.vals, dR m.arrs, dI (D2 p q m).vals, dR (D2 p q m).arrs]
abbrev aK2 : It := .box [.v (.slice none 0 0), .v (.slice none 0 0)]
abbrev O2 (p : b8) (q : b8) (m : t4) (r0 : List It) : List It := dI p.vars :: dI p.arrays :: dT p.body :: dI q.vars :: dI q.arrays :: dT q.body :: dI m.vals :: dR m.arrs :: r0
abbrev ab5 (r0 : List (Nat × AV)) : List (Nat × AV) := (3, .ptr 8 0) :: (5, .ptr 9 0) :: (6, .ptr 10 0) :: (7, bA false) :: r0
theorem ai5 (p q : b8) (m : t4) (hb : c9 p.body ≤ 1048576) (hq : c9 q.body ≤ 1048576) (hx : m.vals.length ≤ 1000000) (hr : m.arrs.length ≤ 1000000) (hi : ∀ l ∈ m.arrs, l.length ≤ 1000) : d9.ok Tryz.prog ⟨7, [pA 0, pA 3, mA 6], pS p ++ pS q ++ mS m, pS p ++ pS q ++ mS m ++ mS (D2 p q m), .tup [mA 8, bA (rmB p q m)]⟩ := by
  refine t8 32 Tryz.func7 (O2 p q m []) [(0, pA 0), (1, pA 3), (2, .agg [.ref 6, .ref 7])] fun G => ?_; refine wp_seq (e5 G c3 [0, 1, 2, 3, 4, 5, 6, 7, 8, 16, 24, 32] (O2 p q m [.box (pL 0), .box (pL 3), .box [.ref 6, .ref 7], aK2]) [(3, .ptr 8 0), (4, .ptr 9 0), (5, .ptr 10 0), (6, .ptr 11 0), (7, bA false)] fun G => b5 (wp_seq (wp_seq ?_))); cases h0 : (!exB p q)
  ·
   have q0 : (exB p q) = true := (Eq.mp (bV5 _) h0); have hex := aH9 (p := p) (q := q) (by with_reducible assumption); refine e5 G (m5 (f6 2 (rg 6) (aw5 p q (by assumption) (by assumption)) (f6 7 [3, 4, 5, 6, 7] (bl3 q.vars q.arrays q.body m.vals m.arrs) m0)) (fc h0 fz) (us [(5, 8, 0), (1009, 1009, 0)])) [0, 1, 2, 3, 4, 5, 6, 7, 8, 10, 11] (O2 p q m [.box (pL 0), .box [.ref 6, .ref 7], aK2]) (ab5 [(18, .v (.bool !T1 q.vars.length q.arrays.length (t4.mk m.vals m.arrs)))]) fun G => b5 ?_; cases h1 : (!T1 q.vars.length q.arrays.length (t4.mk m.vals m.arrs))
   · have q1 : (T1 q.vars.length q.arrays.length (t4.mk m.vals m.arrs)) = true := (Eq.mp (bV5 _) h1); have hfi := aH8 (m := m) (nv := q.vars.length) (na := q.arrays.length) (by with_reducible assumption); refine rF G _ h1 (wp_skip (b5 (wp_seq (e5 G (n7 1 [6, 7] (aQ7 m.vals m.arrs (by omega) (by omega) (fun l hl => bW4 (hi l hl) (by decide)))) [0, 1, 2, 3, 4, 5, 6, 7, 8, 10, 19, 20, 27] (O2 p q m [.box (pL 0), aK2, .row 3 (D.ints m.vals), .tree (D.rows m.arrs), .box [.ref 10, .tref 11]]) [(3, .ptr 8 0), (6, .ptr 9 0), (7, bA false), (8, .ptr 12 0)] fun G => b5 (wp_seq (L5 G c3 [0, 1, 2, 3, 4, 5, 6, 7, 9, 11, 12, 69] (O2 p q m [aK2, .tree (D.rows m.arrs), .box [.ref 11, .tref 9], .row 3 (D.ints ([] ++ List.drop 0 (bV3 p.vars.length m.vals)))]) [(6, .ptr 8 0), (7, bA false), (8, .ptr 10 0)] (((0 : Int) ≤ p.vars.length) :: (((p.vars.length : Int) ≤ m.vals.length) :: (aP ((0 : Nat) + (List.drop (0 : Nat) (bV3 p.vars.length m.vals)).length) 8 []))) ⟨(by omega), ⟨(by omega), (aK (by simp; omega) bW1)⟩⟩ fun G => b5 (wp_seq (e5 G c3 [0, 1, 2, 3, 4, 5, 6, 7, 8, 9, 11] (O2 p q m [.box [.ref 10, .tref 9], .tree (D.rows m.arrs), .row 3 (D.ints ([] ++ List.drop 0 (bV3 p.vars.length m.vals)))]) [(6, .ptr 8 0), (7, bA true)] fun G => b5 (wp_ret ?_))))))))); obtain ⟨ρ, G⟩ := G.frz [.no, .no, .no, .no, .no, .no, .no, .no, .no, .tree, .row 3] (O2 p q m [.box [.ref 10, .ref 9], dR m.arrs, dI ([] ++ List.drop 0 (bV3 p.vars.length m.vals))]) [(6, .ptr 8 0), (7, bA true)]; exact N7 (.tup [.agg [.ref 10, .ref 9], bA true]) G [0, 1, 2, 3, 4, 5, 6, 7, 10, 9] (by have e1 : (rmB p q m : Bool) = (true) := ((be9 (by with_reducible assumption) (by with_reducible assumption)).2); (first | rw [e1] | simp only [e1]) <;> rfl) (by show _ = mR [0, 1, 2, 3, 4, 5, 6, 7, 10, 9] (az9 p q m); unfold az9; rw [(be9 (by with_reducible assumption) (by with_reducible assumption)).1] <;> rfl)
   · have q1 : (T1 q.vars.length q.arrays.length (t4.mk m.vals m.arrs)) = false := (Eq.mp (bV2 _) h1); refine rT G _ h1 (wp_seq (w5 G c3 (ab5 []) fun G => b5 (wp_ret (c8 ?_)))); obtain ⟨ρ, G⟩ := G.nil 11 0 (.ints []) 1 (O2 p q m [.box (pL 0), .box [.ref 6, .ref 7], .box [.ref 11, .v (.slice none 0 0)]]) (ab5 []); obtain ⟨ρ, G⟩ := G.nil 12 0 (.rows []) 7 (O2 p q m [.box (pL 0), .box [.ref 6, .ref 7], .box [.ref 11, .ref 12], .row 0 (D.ints [])]) (ab5 []); obtain ⟨ρ, G⟩ := G.frz [.no, .no, .no, .no, .no, .no, .no, .no, .no, .no, .no, .row 0, .row 0] (O2 p q m [.box (pL 0), .box [.ref 6, .ref 7], .box [.ref 11, .ref 12], dI [], dR []]) (ab5 []); exact N7 (.tup [.agg [.ref 11, .ref 12], bA false]) G [0, 1, 2, 3, 4, 5, 6, 7, 11, 12] (by have e1 : (rmB p q m : Bool) = (false) := ((a20 (by with_reducible assumption)).2); (first | rw [e1] | simp only [e1]) <;> rfl) (by show _ = mR [0, 1, 2, 3, 4, 5, 6, 7, 11, 12] (az9 p q m); unfold az9; rw [(a20 (by with_reducible assumption)).1] <;> rfl)
  · have q0 : (exB p q) = false := (Eq.mp (bV2 _) h0); refine e5 G (m5 (f6 2 (rg 6) (aw5 p q (by assumption) (by assumption)) m0) (fc h0 fz) (us [(5, 8, 0), (1009, 1009, 0)])) [0, 1, 2, 3, 4, 5, 6, 7, 8, 10, 11] (O2 p q m [.box (pL 0), .box [.ref 6, .ref 7], aK2]) (ab5 [(18, bA true)]) fun G => b5 (rT G true (by kernel_rfl) (wp_seq (w5 G c3 (ab5 []) fun G => b5 (wp_ret (c8 ?_))))); obtain ⟨ρ, G⟩ := G.nil 11 0 (.ints []) 1 (O2 p q m [.box (pL 0), .box [.ref 6, .ref 7], .box [.ref 11, .v (.slice none 0 0)]]) (ab5 []); obtain ⟨ρ, G⟩ := G.nil 12 0 (.rows []) 7 (O2 p q m [.box (pL 0), .box [.ref 6, .ref 7], .box [.ref 11, .ref 12], .row 0 (D.ints [])]) (ab5 []); obtain ⟨ρ, G⟩ := G.frz [.no, .no, .no, .no, .no, .no, .no, .no, .no, .no, .no, .row 0, .row 0] (O2 p q m [.box (pL 0), .box [.ref 6, .ref 7], .box [.ref 11, .ref 12], dI [], dR []]) (ab5 []); exact N7 (.tup [.agg [.ref 11, .ref 12], bA false]) G [0, 1, 2, 3, 4, 5, 6, 7, 11, 12] (by have e1 : (rmB p q m : Bool) = (false) := ((a21 (by with_reducible assumption)).2); (first | rw [e1] | simp only [e1]) <;> rfl) (by show _ = mR [0, 1, 2, 3, 4, 5, 6, 7, 11, 12] (az9 p q m); unfold az9; rw [(a21 (by with_reducible assumption)).1] <;> rfl)
abbrev az8 (p : b8) (q : b8) (m : t4) : List It := [dI p.vars, dI p.arrays, dT p.body, dI q.vars, dI q.arrays, dT q.body, dI m.vals, dR m.arrs, dI (D2 p q m).vals, dR (D2 p q m).arrs]
abbrev aK1 : It := .box [.v (.slice none 0 0), .v (.slice none 0 0)]
abbrev O1 (p : b8) (q : b8) (m : t4) (r0 : List It) : List It := dI p.vars :: dI p.arrays :: dT p.body :: dI q.vars :: dI q.arrays :: dT q.body :: dI m.vals :: dR m.arrs :: r0
abbrev ab4 (r0 : List (Nat × AV)) : List (Nat × AV) := (3, .ptr 8 0) :: (5, .ptr 9 0) :: (6, .ptr 10 0) :: (7, bA false) :: r0
theorem ai7 (p q : b8) (m : t4) (hx : m.vals.length ≤ 1000000) (hr : m.arrs.length ≤ 1000000) (hi : ∀ l ∈ m.arrs, l.length ≤ 1000) : d9.ok Tryz.prog ⟨6, [pA 0, pA 3, mA 6], pS p ++ pS q ++ mS m, pS p ++ pS q ++ mS m ++ mS (D2 p q m), .tup [mA 8, bA (rmB p q m)]⟩ := by
  refine t8 34 Tryz.func6 (O1 p q m []) [(0, pA 0), (1, pA 3), (2, .agg [.ref 6, .ref 7])] fun G => ?_; refine wp_seq (e5 G c3 [0, 1, 2, 3, 4, 5, 6, 7, 8, 16, 24, 32] (O1 p q m [.box (pL 0), .box (pL 3), .box [.ref 6, .ref 7], aK1]) [(3, .ptr 8 0), (4, .ptr 9 0), (5, .ptr 10 0), (6, .ptr 11 0), (7, bA false)] fun G => b5 (wp_seq (wp_seq ?_))); cases h0 : (!exB p q)
  ·
   have q0 : (exB p q) = true := (Eq.mp (bV5 _) h0); have hex := aH9 (p := p) (q := q) (by with_reducible assumption); refine e5 G (m5 (f6 2 (rg 6) (ax2 p q) (f6 10 [3, 4, 6, 7] (ax0 q.vars q.arrays m.vals m.arrs) m0)) (fc h0 fz) (us [(5, 11, 0), (1012, 1012, 0)])) [0, 1, 2, 3, 4, 5, 6, 7, 8, 10, 11] (O1 p q m [.box (pL 0), .box [.ref 6, .ref 7], aK1]) (ab4 [(21, .v (.bool !T1 q.vars.length q.arrays.length (t4.mk m.vals m.arrs)))]) fun G => b5 ?_; cases h1 : (!T1 q.vars.length q.arrays.length (t4.mk m.vals m.arrs))
   · have q1 : (T1 q.vars.length q.arrays.length (t4.mk m.vals m.arrs)) = true := (Eq.mp (bV5 _) h1); have hfi := aH8 (m := m) (nv := q.vars.length) (na := q.arrays.length) (by with_reducible assumption); refine rF G _ h1 (wp_skip (b5 (wp_seq (e5 G (n7 1 [6, 7] (bD7 m.vals m.arrs (by assumption) (by assumption) (by assumption))) [0, 1, 2, 3, 4, 5, 6, 7, 8, 10, 19, 20, 27] (O1 p q m [.box (pL 0), aK1, .row 3 (D.ints m.vals), .row 23 (D.rows m.arrs), .box [.ref 10, .ref 11]]) [(3, .ptr 8 0), (6, .ptr 9 0), (7, bA false), (8, .ptr 12 0)] fun G => b5 (wp_seq (L5 G (n7 6 [53] (ai8 (List.drop 0 (bV3 p.vars.length m.vals)) (by simp; omega))) [0, 1, 2, 3, 4, 5, 6, 7, 9, 11, 12, 61] (O1 p q m [aK1, .row 23 (D.rows m.arrs), .box [.ref 11, .ref 9], dI (List.drop 0 (bV3 p.vars.length m.vals))]) [(6, .ptr 8 0), (7, bA false), (8, .ptr 10 0)] [(0 : Int) ≤ p.vars.length, (p.vars.length : Int) ≤ m.vals.length] ⟨(by omega), (by omega), bW1⟩ fun G => b5 (wp_seq (e5 G c3 [0, 1, 2, 3, 4, 5, 6, 7, 8, 9, 11] (O1 p q m [.box [.ref 10, .ref 9], .row 23 (D.rows m.arrs), dI (List.drop 0 (bV3 p.vars.length m.vals))]) [(6, .ptr 8 0), (7, bA true)] fun G => b5 (wp_ret ?_))))))))); obtain ⟨ρ, G⟩ := G.frz [.no, .no, .no, .no, .no, .no, .no, .no, .no, .row 23] (O1 p q m [.box [.ref 10, .ref 9], dR m.arrs, dI (List.drop 0 (bV3 p.vars.length m.vals))]) [(6, .ptr 8 0), (7, bA true)]; exact N7 (.tup [.agg [.ref 10, .ref 9], bA true]) G [0, 1, 2, 3, 4, 5, 6, 7, 10, 9] (by have e1 : (rmB p q m : Bool) = (true) := ((be9 (by with_reducible assumption) (by with_reducible assumption)).2); (first | rw [e1] | simp only [e1]) <;> rfl) (by show _ = mR [0, 1, 2, 3, 4, 5, 6, 7, 10, 9] (az8 p q m); unfold az8; rw [(be9 (by with_reducible assumption) (by with_reducible assumption)).1] <;> rfl)
   · have q1 : (T1 q.vars.length q.arrays.length (t4.mk m.vals m.arrs)) = false := (Eq.mp (bV2 _) h1); refine rT G _ h1 (wp_seq (w5 G c3 (ab4 []) fun G => b5 (wp_ret (c8 ?_)))); obtain ⟨ρ, G⟩ := G.nil 11 0 (.ints []) 1 (O1 p q m [.box (pL 0), .box [.ref 6, .ref 7], .box [.ref 11, .v (.slice none 0 0)]]) (ab4 []); obtain ⟨ρ, G⟩ := G.nil 12 0 (.rows []) 7 (O1 p q m [.box (pL 0), .box [.ref 6, .ref 7], .box [.ref 11, .ref 12], .row 0 (D.ints [])]) (ab4 []); obtain ⟨ρ, G⟩ := G.frz [.no, .no, .no, .no, .no, .no, .no, .no, .no, .no, .no, .row 0, .row 0] (O1 p q m [.box (pL 0), .box [.ref 6, .ref 7], .box [.ref 11, .ref 12], dI [], dR []]) (ab4 []); exact N7 (.tup [.agg [.ref 11, .ref 12], bA false]) G [0, 1, 2, 3, 4, 5, 6, 7, 11, 12] (by have e1 : (rmB p q m : Bool) = (false) := ((a20 (by with_reducible assumption)).2); (first | rw [e1] | simp only [e1]) <;> rfl) (by show _ = mR [0, 1, 2, 3, 4, 5, 6, 7, 11, 12] (az8 p q m); unfold az8; rw [(a20 (by with_reducible assumption)).1] <;> rfl)
  · have q0 : (exB p q) = false := (Eq.mp (bV2 _) h0); refine e5 G (m5 (f6 2 (rg 6) (ax2 p q) m0) (fc h0 fz) (us [(5, 11, 0), (1012, 1012, 0)])) [0, 1, 2, 3, 4, 5, 6, 7, 8, 10, 11] (O1 p q m [.box (pL 0), .box [.ref 6, .ref 7], aK1]) (ab4 [(21, bA true)]) fun G => b5 (rT G true (by kernel_rfl) (wp_seq (w5 G c3 (ab4 []) fun G => b5 (wp_ret (c8 ?_))))); obtain ⟨ρ, G⟩ := G.nil 11 0 (.ints []) 1 (O1 p q m [.box (pL 0), .box [.ref 6, .ref 7], .box [.ref 11, .v (.slice none 0 0)]]) (ab4 []); obtain ⟨ρ, G⟩ := G.nil 12 0 (.rows []) 7 (O1 p q m [.box (pL 0), .box [.ref 6, .ref 7], .box [.ref 11, .ref 12], .row 0 (D.ints [])]) (ab4 []); obtain ⟨ρ, G⟩ := G.frz [.no, .no, .no, .no, .no, .no, .no, .no, .no, .no, .no, .row 0, .row 0] (O1 p q m [.box (pL 0), .box [.ref 6, .ref 7], .box [.ref 11, .ref 12], dI [], dR []]) (ab4 []); exact N7 (.tup [.agg [.ref 11, .ref 12], bA false]) G [0, 1, 2, 3, 4, 5, 6, 7, 11, 12] (by have e1 : (rmB p q m : Bool) = (false) := ((a21 (by with_reducible assumption)).2); (first | rw [e1] | simp only [e1]) <;> rfl) (by show _ = mR [0, 1, 2, 3, 4, 5, 6, 7, 11, 12] (az8 p q m); unfold az8; rw [(a21 (by with_reducible assumption)).1] <;> rfl)
theorem a74 (w : World) : e7 (fun _ => True) (fun _ => True) w w (j1 (fun _ : Empty => Rs.none) (fun _ => undef) (i9 [])) := by
 refine (e7.start (ι := Empty ⊕ Nat) (w0 := w) (φ := fun _ => True) (ψ := fun _ => True) fun _ _ => trivial).map (fun k => some k) (fun k k' i a b => by cases a; cases b; rfl) fun k => ?_
 cases k with
 | inl e => exact e.elim
 | inr j => exact .inr rfl
theorem ba4 (w : World) : W4 (fun _ => True) (O0 (fun _ => True) (j1 (fun _ : Empty => Rs.none) (fun _ => undef) (i9 []))) w w := W4.mono fun b _ _ => ⟨bW1, fun i => by
 cases i with
 | inl e => exact e.elim
 | inr j => exact fun h => h.elim⟩
abbrev u8s (c : List UInt8) : List Value := c.map fun b => Value.int .u8 (b.toNat : Int)
theorem a97 {P : Program} {f : FuncId} {x : Value} {c : List UInt8} {post : List It} (hc : d9.ok P ⟨f, [.ref 0], [dY c], post, .v x⟩) (u : Value) (w : World) (hp : r9 w (fun _ => True) u c.length 1 (u8s c)) :
  Calls P f #[u] w fun e w' => e = .returned x ∧ Below w.heap.size w w' := by
 obtain ⟨ρ', g1, M2, g2⟩ := e7.dats [.sl (.bytes c)] [u] 0 (a74 w) ⟨RD.nice (.bytes c) _ _ _ _ _ (ba4 w) hp, bW1⟩ (fun _ _ => rfl) (fun _ _ _ => rfl)
 have e : i8 (i9 []) (J5 [.sl (.bytes c)] 0) = i9 [dY c] := by
  funext j
  match j with
  | 0 => rfl
  | j + 1 => simp [J5, i8, i9]
 rw [e] at M2
 simp only [xav, AV.vals, AV.val, List.cons.injEq, and_true] at g2
 subst g2
 refine (hc Empty _ _ w w _ ρ' M2).mono ?_
 rintro e w' ⟨ρ2, -, rfl, M3⟩
 exact ⟨rfl, M3.below fun _ _ => trivial⟩
def bmD (b : List UInt8) (j : Int) (nv na : Nat) : t4 × Int := beD b (j + nv + 4 * na) (mmD b j nv na)
theorem bU3 (b : List UInt8) (j : Int) (nv na : Nat) : (bmD b j nv na).1.vals.length ≤ nv + 1 ∧ (bmD b j nv na).1.arrs.length ≤ na ∧ (∀ l ∈ (bmD b j nv na).1.arrs, l.length ≤ 4) ∧ j + nv + 4 * na + 1 ≤ (bmD b j nv na).2 ∧ (bmD b j nv na).2 ≤ j + nv + 4 * na + 2 := by
 have h1 := bU4 b (j + nv + 4 * na) (mmD b j nv na)
 have h2 : (mmD b j nv na).vals.length = nv := ar6 _ _ _
 have h3 : (mmD b j nv na).arrs.length = na := aY6 _ _ _
 rw [h2, h3] at h1
 exact ⟨h1.1, h1.2.1, bO6 b _ _ 4 fun l hl => Nat.le_of_eq (bm9 _ _ _ l hl), h1.2.2⟩
theorem bT4 (b : List UInt8) (j : Int) (nv na : Nat) (h : 0 < (mmD b j nv na).arrs.length) : 3 ≤ ((mmD b j nv na).arrs.getD 0 []).length := by
 have := bm9 b (j + nv) na ((mmD b j nv na).arrs.getD 0 []) (by rw [f8 h]; exact bW2 h)
 omega
theorem bu3 {b : List UInt8} {j : Int} {nv na : Nat} {m : t4} {k : Int} (h : bmD b j nv na = (m, k)) (h1 : nv ≤ 1000000) (h2 : na ≤ 1000000) (r0 : 0 ≤ j) (r1 : j ≤ 10000000) :
  d9.ok Tryz.prog (beC b (j + nv + 4 * na) (mmD b j nv na).vals (mmD b j nv na).arrs m k) :=
 bd8 b _ _ _ m k h (by rw [show (mmD b j nv na).vals.length = nv from ar6 _ _ _]; exact h1) (by rw [show (mmD b j nv na).arrs.length = na from aY6 _ _ _]; exact h2) (fun l hl => Nat.le_of_eq (bm9 _ _ _ l hl)) (bT4 b j nv na) (by omega) (by omega)
abbrev bD1 (f : FuncId) (c : List UInt8) (p q : b8) (m : t4) : d9 := ⟨f, [.ref 0], [dY c], [dY c] ++ pS p ++ pS q ++ mS m, .tup [pA 1, pA 4, mA 7]⟩
abbrev az7 : It := .box [.v (.slice none 0 0), .v (.slice none 0 0), .v (.slice none 0 0)]
theorem be1 (c : List UInt8) (p q : b8) (vs : List Int) (rs : List (List Int)) (m : t4) (j k : Int) (r0 : 0 ≤ j) (r1 : j ≤ 10000000) (hq : q.vars.length ≤ 1000000) (hq2 : q.arrays.length ≤ 1000000)
  (h1 : d9.ok Tryz.prog (prC (bsD c) 0 p q j))
  (h2 : d9.ok Tryz.prog ⟨18, [.ptr 0 0, pA 2], [.box [.ref 1, iA j], dY (bsD c), dI q.vars, dI q.arrays, dT q.body], [.box [.ref 1, iA (j + q.vars.length + 4 * q.arrays.length)], dY (bsD c), dI q.vars, dI q.arrays, dT q.body] ++ mS ⟨vs, rs⟩, mA 5⟩)
  (h3 : d9.ok Tryz.prog (beC (bsD c) (j + q.vars.length + 4 * q.arrays.length) vs rs m k)) : d9.ok Tryz.prog (bD1 5 c p q m) := by
 have ho := a93 c; have hpr := h1; have hmm := h2; have hbe := h3; refine t8 22 Tryz.func5 [dY c] [(0, .ref 0)] fun G => ?_; refine wp_seq (e5 G c3 [0, 1, 9, 17] [dY c, az7, az7, .box [.v (.slice none 0 0), .v (.slice none 0 0)]] [(0, .ref 0), (2, .ptr 1 0), (3, .ptr 2 0), (4, .ptr 3 0)] fun G => b5 (wp_seq (e5 G (n7 1 [0] ho) [0, 1, 2, 3, 12, 13] [dY c, az7, az7, .box [.v (.slice none 0 0), .v (.slice none 0 0)], .box [.ref 5, iA 0], dY (bsD c)] [(2, .ptr 1 0), (3, .ptr 2 0), (4, .ptr 3 0), (5, .ptr 4 0)] fun G => b5 (wp_seq (e5 G (n7 1 [4, 5] hpr) [0, 1, 2, 3, 4, 5, 14, 15, 16, 17, 18, 19, 46, 54] [dY c, az7, az7, .box [.v (.slice none 0 0), .v (.slice none 0 0)], .box [.ref 5, iA j], dY (bsD c), dI p.vars, dI p.arrays, dT p.body, dI q.vars, dI q.arrays, dT q.body, .box (pL 6), .box (pL 9)] [(2, .ptr 1 0), (3, .ptr 2 0), (4, .ptr 3 0), (5, .ptr 4 0), (6, .ptr 12 0), (7, .ptr 13 0)] fun G => b5 (wp_seq (F5 G (m5 (f6 5 [4, 5, 9, 10, 11] hmm (f6 6 [4, 5, 54, 55] hbe m0)) fz []) [0, 0, 0, 0, 0, 24, 60, 125, 255, 511] [0, 1, 2, 3, 6, 7, 8, 9, 10, 11, 62, 63] [dY c, .box (pL 4), .box (pL 7), .box [.ref 10, .ref 11], dI p.vars, dI p.arrays, dT p.body, dI q.vars, dI q.arrays, dT q.body, dI m.vals, dR m.arrs] [(2, .ptr 1 0), (3, .ptr 2 0), (4, .ptr 3 0)] fun G => b5 (wp_ret ?_)))))))); exact A0 G [0, 4, 5, 6, 7, 8, 9, 10, 11]
theorem bq2 (b : List UInt8) : (prD b 0).1.vars.length ≤ 1000000 ∧ (prD b 0).1.arrays.length ≤ 1000000 ∧ (prD b 0).2.1.vars.length ≤ 1000000 ∧ (prD b 0).2.1.arrays.length ≤ 1000000 ∧ 0 ≤ (prD b 0).2.2 ∧ (prD b 0).2.2 ≤ 700000 := by
 have h := bI2 b (j := 0) (by omega) (by omega)
 unfold b8.size at h
 omega
def aP4 (c : List UInt8) : b8 × b8 × t4 := ((prD (bsD c) 0).1, (prD (bsD c) 0).2.1, (bmD (bsD c) (prD (bsD c) 0).2.2 (prD (bsD c) 0).2.1.vars.length (prD (bsD c) 0).2.1.arrays.length).1)
theorem bk6 (c : List UInt8) : d9.ok Tryz.prog (bD1 5 c (aP4 c).1 (aP4 c).2.1 (aP4 c).2.2) := by
 obtain ⟨-, -, a3, a4, a5, a6⟩ := bq2 (bsD c)
 have h1 := bl1 (bsD c) 0 (by omega) (by omega)
 unfold aP4
 generalize prD (bsD c) 0 = x at *
 obtain ⟨p, q, j⟩ := x
 dsimp only at *
 obtain ⟨⟨m, k⟩, hm⟩ : ∃ x, x = bmD (bsD c) j q.vars.length q.arrays.length := ⟨_, rfl⟩
 rw [← hm]
 exact be1 c p q _ _ m j k a5 (by omega) a3 a4 h1 (aX5 (bsD c) j q.vars q.arrays q.body a3 a4 a5 (by omega)) (bu3 hm.symm a3 a4 a5 (by omega))
structure Okd (p q : b8) (m : t4) : Prop where
 bp : c9 p.body ≤ 1048576
 bq : c9 q.body ≤ 1048576
 qv : q.vars.length ≤ 1000000
 mv : m.vals.length ≤ 1000000
 ma : m.arrs.length ≤ 1000000
 mi : ∀ l ∈ m.arrs, l.length ≤ 1000
theorem bI7 (c : List UInt8) : Okd (aP4 c).1 (aP4 c).2.1 (aP4 c).2.2 := by
 have h := bI2 (bsD c) (j := 0) (by omega) (by omega)
 have h2 := bU3 (bsD c) (prD (bsD c) 0).2.2 (prD (bsD c) 0).2.1.vars.length (prD (bsD c) 0).2.1.arrays.length
 unfold b8.size at h
 unfold aP4
 refine ⟨?_, ?_, ?_, ?_, ?_, fun l hl => bW4 (h2.2.2.1 l hl) (by decide)⟩ <;> dsimp only <;> omega
theorem a95 (xs : List Int) : d9.ok Tryz.prog (C0 10 [.ref 0, .ref 1] [dI xs, dI xs] (bA true)) := by
 refine t8 26 Tryz.func10 [dI xs, dI xs] [(0, .ref 0), (1, .ref 1)] fun G => ?_; have hl : xs.length ≤ 9223372036854775807 := G.len 0 (d := .ints xs) (by kernel_rfl); refine wp_seq (w5 G c3 [(0, .ref 0), (1, .ref 1), (4, bA false)] fun G => b5 (wp_seq (wp_seq (d8 G c3 [(10, bA ((xs.length : Int) != (xs.length : Int)))] fun G => b5 (rF G ((xs.length : Int) != (xs.length : Int)) (by simp) (wp_skip (b5 (wp_seq (wp_seq (w5 G c3 [(0, .ref 0), (1, .ref 1), (4, bA false), (5, iA 0)] fun G => b5 (wp_block ?_))))))))))); refine l0 (κ := Nat) (fun k => k ≤ xs.length) (fun k => xs.length - k) (fun k => [dI xs, dI xs]) (fun k => [(0, .ref 0), (1, .ref 1), (4, bA false), (5, iA k)]) 0 (by omega) (l7.at G _ _) ?_; clear G; intro k ρ a w hp G; refine wp_seq (wp_seq (d8 G c3 [(14, bA (decide ((k : Int) < xs.length)))] fun G => b5 (H2 G (fun h0 q0 => ?_) fun h0 q0 => ?_)))
 ·refine wp_exit (k6 (k6 (j8 (b5 (wp_seq (d8 G c3 [(4, bA true)] fun G => b5 (wp_ret ?_))))))); exact A0 G [0, 1]
 ·refine wp_skip (b5 (wp_seq (wp_block (wp_seq (R5 G c3 [0, 0, 3, 7, 0, 0, 48, 112, 255] [(25, bA (xs.getD k 0 != xs.getD k 0))] (iX k k xs.length (iX k k xs.length [])) (iK (by omega) (iK (by omega) bW1)) fun G => b5 (rF G (xs.getD k (0 : Int) != xs.getD k (0 : Int)) (by simp [h0]) (wp_skip (j0 (b5 (z3 G c3 [(5, iA ((k : Int) + 1))] [wO ((k : Int) + 1)] (o1 (by omega)) fun G => b5 ?_)))))))))); exact H9 G (k + 1) (by omega) (by omega) [0, 1]
end Go.Proofs.YtgmhmijcnlfmfaaGreat
