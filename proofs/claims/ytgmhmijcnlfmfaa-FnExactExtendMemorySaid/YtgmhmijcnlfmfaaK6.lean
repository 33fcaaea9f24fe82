/- Part 6: functions on the way, plain laws. Conditions: as said. -/
import Derived.Deep.RegionWith
import Derived.Test.YtgmhmijcnlfmfaaK1
import Derived.Test.YtgmhmijcnlfmfaaK3
import Derived.Test.YtgmhmijcnlfmfaaK4
import Derived.Test.YtgmhmijcnlfmfaaK5
set_option maxRecDepth 100000
set_option maxHeartbeats 16000000
set_option linter.unusedVariables false
set_option linter.unusedSimpArgs false
open Bool renaming and_eq_true → ba1, not_eq_false' → bb1, not_eq_true' → bb0
open List renaming eq_nil_of_length_eq_zero → bd4, getD_eq_getElem?_getD → ba6, getElem?_append_right → bc5, getElem?_eq_getElem → ba0, getElem?_eq_some_iff → ba3, getElem?_set_ne → bd5, getElem_mem → bb6, map_cons → bc1, range → bb2, replicate → ba7, take → bd2, take_of_length_le → ba5
open Nat renaming add_zero → bc7, le_refl → ba4, le_trans → bc3, zero_le → bb4
open True renaming intro → ba8

namespace Go.Proofs.Ytgmhmijcnlfmfaa
open Go Go.RowKit
abbrev mA (r : Nat) : AV := .agg [.ref r, .ref (r + 1)]
abbrev mT (r : Nat) : AV := .agg [.ref r, .tref (r + 1)]
abbrev mS (m : D6) : List It := [dI m.vals, dR m.arrs]
abbrev mO (m : D6) : List It := [.row 3 (.ints m.vals), .tree (.rows m.arrs)]
theorem an4 (l : List Int) : t8.ok Try.prog (O2 177 [.ref 0] [dI l] (bA (H2 l))) := by
  refine N0 22 Try.func177 [dI l] [(0, .ref 0)] fun G => ?_; have hl : l.length ≤ 9223372036854775807 := G.len 0 (d := .ints l) (by kernel_rfl); refine wp_seq (R2 G l6 [(0, .ref 0), (2, bA false)] fun G => b5 (wp_seq (wp_seq (R2 G l6 [(0, .ref 0), (2, bA false), (3, iA 0)] fun G => b5 (wp_block ?_))))); refine D5 (κ := Nat) (fun k => k ≤ l.length ∧ (l.take k).all (fun n => decide (0 ≤ n) && decide (n ≤ 255)) = true) (fun k => l.length - k) (fun k => [dI l]) (fun k => [(0, .ref 0), (2, bA false), (3, iA k)]) 0 (⟨bb4 _, rfl⟩) (B2.at G _ _) ?_; clear G; intro k ρ a w hp G; refine wp_seq (wp_seq (m7 G l6 [(7, bA (decide ((k : Int) < l.length)))] fun G => b5 (rcD G (fun h0 q0 => ?_) fun h0 q0 => ?_)))
  · refine wp_exit (D3 (D3 (C9 (b5 (wp_seq (m7 G l6 [(2, bA true)] fun G => b5 (wp_ret ?_))))))); exact A5 true G [0] (aU6 hp.2 (by omega))
  ·
   refine wp_skip (b5 (wp_seq (wp_block (wp_seq ?_)))); cases h1 : (decide (l.getD k (0 : Int) < 0))
   ·
    have q1 := X3 h1; refine O0 G (M5 (fc h1 fz) (us [(6, 10, 0), (1011, 1011, 0)])) [(21, bA (decide (l.getD k 0 > 255)))] (iX k k l.length (iX k k l.length [])) (iK (by omega) (iK (by omega) ba8)) fun G => b5 (rcD G (fun h2 q2 => ?_) fun h2 q2 => ?_)
    · refine wp_skip (I9 (b5 (O0 G l6 [(3, iA ((k : Int) + 1))] [wO ((k : Int) + 1)] (o1 (by omega)) fun G => b5 ?_))); exact rxn G (k + 1) (⟨by omega, aN5 hp.2 (by omega) (by omega) (by omega)⟩) (by omega) [0]
    · refine wp_seq (m7 G l6 [] fun G => b5 (wp_ret (C4 (l9 (l9 (C4 (l9 ?_))))))); exact A5 false G [0] (aN4 (k := k) (by omega) (by omega))
   · have q1 := X2 h1; refine O0 G (M5 (fc h1 fz) (us [(6, 10, 0), (1011, 1011, 0)])) [(21, bA true)] (iX k k l.length []) (iK (by omega) ba8) fun G => b5 (rT G true (by kernel_rfl) (wp_seq (m7 G l6 [] fun G => b5 (wp_ret (C4 (l9 (l9 (C4 (l9 ?_))))))))); exact A5 false G [0] (aN4 (k := k) (by omega) (by omega))
theorem aT7 (vs ars : List Int) (bd : List b6) (xs : List Int) (rs : List (List Int)) : t8.ok Try.prog (O2 111 [pA 0, mA 3] [dI vs, dI ars, dT bd, dI xs, dR rs] (bA (mfB vs.length ars.length ⟨xs, rs⟩))) := by
  refine N0 51 Try.func111 [dI vs, dI ars, dT bd, dI xs, dR rs] [(0, pA 0), (1, .agg [.ref 3, .ref 4])] fun G => ?_; have hl : rs.length ≤ 9223372036854775807 := G.len 4 (d := .rows rs) (by kernel_rfl); refine wp_seq (B8 G l6 [0, 1, 2, 3, 4, 5, 13] [dI vs, dI ars, dT bd, dI xs, dR rs, .box (pL 0), .box [.ref 3, .ref 4]] [(2, .ptr 5 0), (3, .ptr 6 0), (4, bA false)] fun G => b5 (wp_seq (wp_seq ?_))); cases h0 : ((xs.length : Int) != (vs.length : Int))
  ·
   have q0 := bne_eq_false_iff_eq.1 h0; cases h1 : ((rs.length : Int) != (ars.length : Int))
   ·
    have q1 := bne_eq_false_iff_eq.1 h1; refine B8 G (D2 (t6 19 [3] (an4 xs) D0) (fc h0 (fc h1 fz)) (us [(8, 14, 0), (1015, 1015, 0), (17, 20, 1), (1021, 1021, 1)])) [0, 1, 2, 3, 4, 6] [dI vs, dI ars, dT bd, dI xs, dR rs, .box [.ref 3, .ref 4]] [(3, .ptr 5 0), (4, bA false), (27, .v (.bool !H2 xs))] fun G => b5 ?_; cases h2 : (!H2 xs)
    ·
     have q2 : (H2 xs) = true := (Eq.mp (bb1 _) h2); refine rF G _ h2 (wp_skip (b5 (wp_seq (wp_seq (R2 G l6 [(3, .ptr 5 0), (4, bA false), (5, iA 0)] fun G => b5 (wp_block ?_)))))); refine D5 (κ := Nat) (fun k => k ≤ rs.length ∧ (rs.take k).all X6 = true) (fun k => rs.length - k) (fun k => [dI vs, dI ars, dT bd, dI xs, dR rs, .box [.ref 3, .ref 4]]) (fun k => [(3, .ptr 5 0), (4, bA false), (5, iA k)]) 0 (by simp [h0, h1, h2, q2]) (B2.at G _ _) ?_; clear G; intro k ρ a w hp G; refine wp_seq (wp_seq (m7 G l6 [(32, bA (decide ((k : Int) < rs.length)))] fun G => b5 (rcD G (fun h3 q3 => ?_) fun h3 q3 => ?_)))
     · refine wp_exit (D3 (D3 (C9 (b5 (wp_seq (B8 G l6 (rg 5) [dI vs, dI ars, dT bd, dI xs, dR rs] [(4, bA true)] fun G => b5 (wp_ret ?_))))))); exact A5 true G (rg 5) (a62 (by dsimp only; omega) (by dsimp only; omega) (by with_reducible assumption) (aZ6 (l := rs) hp.2 (by omega)))
     ·
      refine wp_skip (b5 (wp_seq (wp_block (wp_seq ?_)))); cases h4 : (((rs.getD k []).length : Int) != 4)
      ·
       have q4 := bne_eq_false_iff_eq.1 h4; refine O0 G (D2 (t6 13 [102] (an4 (rs.getD k [])) D0) (fc h4 fz) (us [(8, 14, 0), (1015, 1015, 0)])) [(50, .v (.bool !H2 (rs.getD k [])))] (iX k k rs.length (iX k k rs.length [])) (iK (by omega) (iK (by omega) ba8)) fun G => b5 ?_; cases h5 : (!H2 (rs.getD k []))
       · have q5 : (H2 (rs.getD k [])) = true := (Eq.mp (bb1 _) h5); refine rF G _ h5 (wp_skip (I9 (b5 (O0 G l6 [(5, iA ((k : Int) + 1))] [wO ((k : Int) + 1)] (o1 (by omega)) fun G => b5 ?_)))); exact rxn G (k + 1) (⟨by omega, aU2 hp.2 (by omega) (by omega) (by with_reducible assumption)⟩) (by omega) (rg 6)
       · have q5 : (H2 (rs.getD k [])) = false := (Eq.mp (bb0 _) h5); refine rT G _ h5 (wp_seq (m7 G l6 [] fun G => b5 (wp_ret (C4 (l9 (l9 (C4 (l9 ?_)))))))); exact A5 false G (rg 5) (a09 (aU1 (l := rs) (k := k) (by omega) (.inr (by with_reducible assumption))))
      · have q4 := bne_iff_ne.1 h4; refine O0 G (M5 (fc h4 fz) (us [(8, 14, 0), (1015, 1015, 0)])) [(50, bA true)] (iX k k rs.length []) (iK (by omega) ba8) fun G => b5 (rT G true (by kernel_rfl) (wp_seq (m7 G l6 [] fun G => b5 (wp_ret (C4 (l9 (l9 (C4 (l9 ?_))))))))); exact A5 false G (rg 5) (a09 (aU1 (l := rs) (k := k) (by omega) (.inl (by omega))))
    · have q2 : (H2 xs) = false := (Eq.mp (bb0 _) h2); refine rT G _ h2 (wp_seq (m7 G l6 [] fun G => b5 (wp_ret (l9 ?_)))); exact A5 false G (rg 5) (a11 (by with_reducible assumption))
   · have q1 := bne_iff_ne.1 h1; refine B8 G (M5 (fc h0 (fc h1 fz)) (us [(8, 14, 0), (1015, 1015, 0), (17, 20, 1), (1021, 1021, 1)])) [0, 1, 2, 3, 4, 6] [dI vs, dI ars, dT bd, dI xs, dR rs, .box [.ref 3, .ref 4]] [(3, .ptr 5 0), (4, bA false), (27, bA true)] fun G => b5 (rT G true (by kernel_rfl) (wp_seq (m7 G l6 [] fun G => b5 (wp_ret (l9 ?_))))); exact A5 false G (rg 5) (a12 (by dsimp only; omega))
  · have q0 := bne_iff_ne.1 h0; refine B8 G (M5 (fc h0 (fc (b := true) rfl fz)) (us [(8, 14, 0), (1015, 1015, 0), (17, 20, 1), (1021, 1021, 1)])) [0, 1, 2, 3, 4, 6] [dI vs, dI ars, dT bd, dI xs, dR rs, .box [.ref 3, .ref 4]] [(3, .ptr 5 0), (4, bA false), (27, bA true)] fun G => b5 (rT G true (by kernel_rfl) (wp_seq (m7 G l6 [] fun G => b5 (wp_ret (l9 ?_))))); exact A5 false G (rg 5) (a13 (by dsimp only; omega))
theorem aU8 {l : List (List Int)} {k : Nat} (h : k < l.length) : l.take (k + 1) = l.take k ++ [l.getD k []] := by
 rw [m9 _ _ h, v5 h]
theorem aw3 {l : List (List Int)} {k : Nat} (h : l.length ≤ k) : l.take k = l := ba5 h
abbrev aG7 : It := .box [.v (.slice none 0 0), .v (.slice none 0 0)]
theorem aT8 (xs : List Int) (rs : List (List Int)) (hx : xs.length ≤ 1048576) (hr : rs.length ≤ 1048576) (hi : ∀ a ∈ rs, a.length ≤ 1048576) : t8.ok Try.prog ⟨112, [mA 0], [dI xs, dR rs], [dI xs, dR rs, .row 3 (.ints xs), .tree (.rows rs)], mT 2⟩ := by
 refine N0 30 Try.func112 [dI xs, dR rs] [(0, .agg [.ref 0, .ref 1])] fun G => ?_; refine wp_seq (B8 G l6 [0, 1, 2, 10] [dI xs, dR rs, .box [.ref 0, .ref 1], aG7] [(1, .ptr 2 0), (2, .ptr 3 0)] fun G => b5 (wp_seq (rA1 G l6 [0, 1, 2, 3, 28, 44] [dI xs, dR rs, .box [.ref 0, .ref 1], aG7, .row 3 (D.ints ([] ++ xs)), .box [.ref 4, .v (.slice none 0 0)]] [(1, .ptr 2 0), (2, .ptr 3 0), (3, .ptr 5 0)] (aP ((0 : Nat) + xs.length) 8 []) (aK (by omega) ba8) fun G => b5 (wp_seq (wp_seq (R2 G l6 [(1, .ptr 2 0), (2, .ptr 3 0), (3, .ptr 5 0), (4, iA 0)] fun G => b5 (wp_block ?_))))))); obtain ⟨ρ, G⟩ := G.nilT 6 (.rows []) [dI xs, dR rs, .box [.ref 0, .ref 1], .box [.v (.slice none 0 0), .v (.slice none 0 0)], .row 3 (D.ints ([] ++ xs)), .box [.ref 4, .tref 6]] [(1, .ptr 2 0), (2, .ptr 3 0), (3, .ptr 5 0), (4, iA 0)]; refine D5 (κ := Nat) (fun k => k ≤ rs.length) (fun k => rs.length - k) (fun k => [dI xs, dR rs, .box [.ref 0, .ref 1], .box [.v (.slice none 0 0), .v (.slice none 0 0)], .row 3 (D.ints ([] ++ xs)), .box [.ref 4, .tref 6], .tree (.rows (rs.take k))]) (fun k => [(1, .ptr 2 0), (2, .ptr 3 0), (3, .ptr 5 0), (4, iA k)]) 0 (by omega) (B2.at G _ _) ?_; clear G; intro k ρ a w hp G; replace G := B2.at G [dI xs, dR rs, .box [.ref 0, .ref 1], aG7, .row 3 (D.ints ([] ++ xs)), .box [.ref 4, .tref 6], .tree (D.rows (bd2 k rs))] [(1, .ptr 2 0), (2, .ptr 3 0), (3, .ptr 5 0), (4, iA k)]; refine wp_seq (wp_seq (m7 G l6 [(14, bA (decide ((k : Int) < rs.length)))] fun G => b5 (rcD G (fun h0 q0 => ?_) fun h0 q0 => ?_)))
 ·refine wp_exit (D3 (D3 (C9 (b5 (wp_seq (B8 G l6 [0, 1, 3, 4, 6] [dI xs, dR rs, .box [.ref 3, .tref 4], .row 3 (D.ints ([] ++ xs)), .tree (D.rows (bd2 k rs))] [(2, .ptr 2 0)] fun G => b5 (wp_ret ?_))))))); exact rxr G [0, 1, 3, 4] (by show _ = mR [0, 1, 3, 4] [dI xs, dR rs, .row 3 (D.ints xs), .tree (D.rows rs)]; have e1 : (bd2 k rs : List (List Int)) = (rs) := (aw3 (by omega)); (first | rw [e1] | simp only [e1]) <;> rfl)
 ·refine wp_skip (b5 (wp_seq (wp_block (aK8 G l6 [0, 1, 0, 0, 8, 0, 56, 120, 252, 508, 1023, 2047, 4095] [0, 1, 2, 3, 4, 5, 87] [dI xs, dR rs, .box [.ref 0, .ref 1], aG7, .row 3 (D.ints ([] ++ xs)), .box [.ref 4, .tref 6], .tree (D.rows (bd2 k rs ++ [[] ++ rs.getD k []]))] [(1, .ptr 2 0), (2, .ptr 3 0), (3, .ptr 5 0), (4, iA k)] (iX k k rs.length (aP ((0 : Nat) + (rs.getD k []).length) 8 (aP ((bd2 k rs).length + [[] ++ rs.getD k []].length) 24 []))) (iK (by omega) (aK (by have h9 := hi (rs.getD k []) (by rw [v5 (by omega)]; exact bb6 _); omega) (aK (by simp; omega) ba8))) fun G => I9 (b5 (O0 G l6 [(4, iA ((k : Int) + 1))] [wO ((k : Int) + 1)] (o1 (by omega)) fun G => b5 ?_)))))); exact rxn G (k + 1) (by omega) (by omega) (rg 7) (by have e1 : (bd2 (k + 1) rs : List (List Int)) = (bd2 k rs ++ [[] ++ rs.getD k []]) := (aU8 (by omega)); (first | rw [e1] | simp only [e1]) <;> rfl)
theorem ao1 (xs ys : List Int) : t8.ok Try.prog (O2 66 [.ref 0, .ref 1] [dI xs, dI ys] (bA (decide (xs = ys)))) := by
  refine N0 26 Try.func66 [dI xs, dI ys] [(0, .ref 0), (1, .ref 1)] fun G => ?_; have hl : xs.length ≤ 9223372036854775807 := G.len 0 (d := .ints xs) (by kernel_rfl); refine wp_seq (R2 G l6 [(0, .ref 0), (1, .ref 1), (4, bA false)] fun G => b5 (wp_seq (wp_seq (m7 G l6 [(10, bA ((xs.length : Int) != (ys.length : Int)))] fun G => b5 (rcN G (fun h0 q0 => ?_) fun h0 q0 => ?_)))))
  ·
   refine wp_skip (b5 (wp_seq (wp_seq (R2 G l6 [(0, .ref 0), (1, .ref 1), (4, bA false), (12, iA (xs.length : Int)), (13, iA 0)] fun G => b5 (wp_block ?_))))); refine D5 (κ := Nat) (fun k => k ≤ xs.length ∧ xs.take k = ys.take k) (fun k => xs.length - k) (fun k => [dI xs, dI ys]) (fun k => [(0, .ref 0), (1, .ref 1), (4, bA false), (12, iA (xs.length : Int)), (13, iA k)]) 0 (by simp [h0]) (B2.at G _ _) ?_; clear G; intro k ρ a w hp G; refine wp_seq (m7 G l6 [(14, bA (decide ((k : Int) < xs.length)))] fun G => b5 (wp_seq (rcD G (fun h1 q1 => ?_) fun h1 q1 => ?_)))
   · refine wp_exit (D3 (D3 (C9 (b5 (wp_seq (m7 G l6 [(4, bA true)] fun G => b5 (wp_ret ?_))))))); exact A5 true G [0, 1] (decide_eq_true (aw4 hp.2 (by omega) (by omega)))
   ·
    refine wp_skip (b5 (wp_seq (wp_block (wp_seq (m7 G l6 [(5, iA k)] fun G => b5 (wp_seq (ax5 G l6 [0, 0, 3, 7, 0, 0, 48, 112, 255] [(24, bA (xs.getD k 0 != ys.getD k 0))] (iX k k xs.length (iX k k ys.length [])) (iK (by omega) (iK (by omega) ba8)) fun G => b5 (rcN G (fun h2 q2 => ?_) fun h2 q2 => ?_))))))))
    · refine wp_skip (I9 (b5 (O0 G l6 [(13, iA ((k : Int) + 1))] [wO ((k : Int) + 1)] (o1 (by omega)) fun G => b5 ?_))); exact rxn G (k + 1) (⟨by omega, aq3 hp.2 (by omega) (by omega) (by omega)⟩) (by omega) [0, 1]
    · refine wp_seq (m7 G l6 [] fun G => b5 (wp_ret (C4 (l9 (l9 (C4 (l9 ?_))))))); exact A5 false G [0, 1] (by exact decide_eq_false fun e => by subst e; omega)
  · refine wp_seq (m7 G l6 [] fun G => b5 (wp_ret (l9 ?_))); exact A5 false G [0, 1] (by exact decide_eq_false fun e => by subst e; omega)
section
variable {vs ars : List Int} {l : Int} {s : b6} {pc pd : Int}
end
section
variable (vs ars : List Int) (bd : List b6)
theorem H0 : t8.ok Try.prog (O2 16 [pA 0] [dI vs, dI ars, dT bd] (bA (F0 ⟨vs, ars, bd⟩))) := ai4 ⟨vs, ars, bd⟩
end
abbrev nvB (n : Int) : Bool := !(decide (0 ≤ n) && decide (n ≤ 255))
theorem aZ4 (n : Int) : t8.ok Try.prog (O2 202 [iA n] [] (bA (nvB n))) := by
 refine N0 6 Try.func202 [] [(0, iA n)] fun G => ?_; refine wp_seq (m7 G l6 [(2, bA false)] fun G => b5 (wp_seq (m7 G (T4 1 [] (A3 n 0 255)) [(2, .v (.bool !(decide (0 ≤ n) && decide (n ≤ 255))))] fun G => b5 (wp_ret ?_)))); exact rxr G []
theorem a71 (l : List Int) : t8.ok Try.prog (O2 231 [.ref 0, .fn 202 []] [dI l] (iA (V4 nvB l))) := by
  refine N0 19 Try.func231 [dI l] [(0, .ref 0), (1, .fn 202 [])] fun G => ?_; have hl : l.length ≤ 9223372036854775807 := G.len 0 (d := .ints l) (by kernel_rfl); refine wp_seq (R2 G l6 [(0, .ref 0), (1, .fn 202 []), (4, iA 0)] fun G => b5 (wp_seq (wp_seq (R2 G l6 [(0, .ref 0), (1, .fn 202 []), (4, iA 0), (7, iA (l.length : Int)), (8, iA 0)] fun G => b5 (wp_block ?_))))); refine D5 (κ := Nat) (fun k => k ≤ l.length ∧ (l.take k).any nvB = false) (fun k => l.length - k) (fun k => [dI l]) (fun k => [(0, .ref 0), (1, .fn 202 []), (4, iA 0), (7, iA (l.length : Int)), (8, iA k)]) 0 (⟨bb4 _, rfl⟩) (B2.at G _ _) ?_; clear G; intro k ρ a w hp G; refine wp_seq (m7 G l6 [(9, bA (decide ((k : Int) < l.length)))] fun G => b5 (wp_seq (rcD G (fun h0 q0 => ?_) fun h0 q0 => ?_)))
  · refine wp_exit (D3 (D3 (C9 (b5 (wp_seq (m7 G l6 [(4, iA (-1))] fun G => b5 (wp_ret ?_))))))); exact Z4 (-1) G [0] (am5 (aB5 hp.2 (by omega)))
  ·
   refine wp_skip (b5 (wp_seq (wp_block (wp_seq (m7 G l6 [(5, iA k)] fun G => b5 (wp_seq (O0 G (T4 5 [] (aZ4 (l.getD k 0))) [(16, bA (nvB (l.getD k 0)))] (iX k k l.length []) (iK (by omega) ba8) fun G => b5 (rcB G (fun h1 => ?_) fun h1 => ?_))))))))
   · refine wp_skip (I9 (b5 (O0 G l6 [(8, iA ((k : Int) + 1))] [wO ((k : Int) + 1)] (o1 (by omega)) fun G => b5 ?_))); exact rxn G (k + 1) (⟨by omega, aB4 (z := 0) hp.2 (by omega) (by assumption)⟩) (by omega) [0]
   · refine wp_seq (m7 G l6 [(4, iA k)] fun G => b5 (wp_ret (C4 (l9 (l9 (C4 (l9 ?_))))))); exact Z4 ((k : Int)) G [0] (ar3 (z := 0) (by omega) hp.2 (by assumption))
theorem a73 (l : List Int) : t8.ok Try.prog (O2 189 [.ref 0, .fn 202 []] [dI l] (bA (l.any nvB))) := by
 refine N0 9 Try.func189 [dI l] [(0, .ref 0), (1, .fn 202 [])] fun G => ?_; refine wp_seq (m7 G l6 [(4, bA false)] fun G => b5 (wp_seq (m7 G (T4 2 [0] (a71 l)) [(4, bA (decide (V4 nvB l ≥ 0)))] fun G => b5 (wp_ret ?_)))); exact A5 (decide (V4 nvB l ≥ 0)) G [0] ((ar4 _ _).symm)
theorem aN6 (l : List Int) : (!l.any nvB) = H2 l := by
 unfold H2
 rw [List.all_eq_not_any_not]
theorem ah6 (l : List Int) : t8.ok Try.prog (O2 154 [.ref 0] [dI l] (bA (H2 l))) := by
 refine N0 6 Try.func154 [dI l] [(0, .ref 0)] fun G => ?_; refine wp_seq (m7 G l6 [(2, bA false)] fun G => b5 (wp_seq (m7 G (T4 1 [0] (a73 l)) [(2, .v (.bool !l.any nvB))] fun G => b5 (wp_ret ?_)))); exact rxv (.v (.bool !l.any nvB)) G [0] (by have e1 : (H2 l : Bool) = (!l.any nvB) := ((aN6 l).symm); (first | rw [e1] | simp only [e1]) <;> rfl)
abbrev naB (a : List Int) : Bool := !(X6 a)
theorem a97 {a : List Int} (h : ¬ (a.length : Int) = 4) : naB a = true := by unfold naB X6; rw [decide_eq_false (p := a.length = 4) (by omega)]; rfl
theorem a96 {a : List Int} (h : (a.length : Int) = 4) : naB a = !(H2 a) := by unfold naB X6; rw [decide_eq_true (p := a.length = 4) (by omega)]; rfl
theorem a38 (l : List Int) : t8.ok Try.prog (O2 180 [.ref 0] [dI l] (bA (naB l))) := by
 refine N0 11 Try.func180 [dI l] [(0, .ref 0)] fun G => ?_; refine wp_seq (m7 G l6 [(2, bA false)] fun G => b5 (wp_seq ?_)); cases h0 : ((l.length : Int) != 4)
 ·have q0 := bne_eq_false_iff_eq.1 h0; refine m7 G (D2 (t6 5 [0] (ah6 l) D0) (fc h0 fz) [(4, 0), (5, 0), (6, 0), (1007, 0)]) [(2, .v (.bool !H2 l))] fun G => b5 (wp_ret ?_); exact rxv (.v (.bool !H2 l)) G [0] (by have e1 : (naB l : Bool) = (!H2 l) := (a96 (by omega)); (first | rw [e1] | simp only [e1]) <;> rfl)
 ·have q0 := bne_iff_ne.1 h0; refine m7 G (M5 (fc h0 fz) [(4, 0), (5, 0), (6, 0), (1007, 0)]) [(2, bA true)] fun G => b5 (wp_ret ?_); exact A5 true G [0] (a97 (by omega))
theorem a72 (l : List (List Int)) : t8.ok Try.prog (O2 217 [.ref 0, .fn 180 []] [dR l] (iA (V4 naB l))) := by
  refine N0 19 Try.func217 [dR l] [(0, .ref 0), (1, .fn 180 [])] fun G => ?_; have hl : l.length ≤ 9223372036854775807 := G.len 0 (d := .rows l) (by kernel_rfl); refine wp_seq (R2 G l6 [(0, .ref 0), (1, .fn 180 []), (4, iA 0)] fun G => b5 (wp_seq (wp_seq (R2 G l6 [(0, .ref 0), (1, .fn 180 []), (4, iA 0), (7, iA (l.length : Int)), (8, iA 0)] fun G => b5 (wp_block ?_))))); refine D5 (κ := Nat) (fun k => k ≤ l.length ∧ (l.take k).any naB = false) (fun k => l.length - k) (fun k => [dR l]) (fun k => [(0, .ref 0), (1, .fn 180 []), (4, iA 0), (7, iA (l.length : Int)), (8, iA k)]) 0 (⟨bb4 _, rfl⟩) (B2.at G _ _) ?_; clear G; intro k ρ a w hp G; refine wp_seq (m7 G l6 [(9, bA (decide ((k : Int) < l.length)))] fun G => b5 (wp_seq (rcD G (fun h0 q0 => ?_) fun h0 q0 => ?_)))
  · refine wp_exit (D3 (D3 (C9 (b5 (wp_seq (m7 G l6 [(4, iA (-1))] fun G => b5 (wp_ret ?_))))))); exact Z4 (-1) G [0] (am5 (aB5 hp.2 (by omega)))
  ·
   refine wp_skip (b5 (wp_seq (wp_block (wp_seq (m7 G l6 [(5, iA k)] fun G => b5 (wp_seq (O0 G (T4 5 [33] (a38 (l.getD k []))) [(16, bA (naB (l.getD k [])))] (iX k k l.length []) (iK (by omega) ba8) fun G => b5 (rcB G (fun h1 => ?_) fun h1 => ?_))))))))
   · refine wp_skip (I9 (b5 (O0 G l6 [(8, iA ((k : Int) + 1))] [wO ((k : Int) + 1)] (o1 (by omega)) fun G => b5 ?_))); exact rxn G (k + 1) (⟨by omega, aB4 (z := []) hp.2 (by omega) (by assumption)⟩) (by omega) [0]
   · refine wp_seq (m7 G l6 [(4, iA k)] fun G => b5 (wp_ret (C4 (l9 (l9 (C4 (l9 ?_))))))); exact Z4 ((k : Int)) G [0] (ar3 (z := []) (by omega) hp.2 (by assumption))
theorem a74 (l : List (List Int)) : t8.ok Try.prog (O2 179 [.ref 0, .fn 180 []] [dR l] (bA (l.any naB))) := by
 refine N0 9 Try.func179 [dR l] [(0, .ref 0), (1, .fn 180 [])] fun G => ?_; refine wp_seq (m7 G l6 [(4, bA false)] fun G => b5 (wp_seq (m7 G (T4 2 [0] (a72 l)) [(4, bA (decide (V4 naB l ≥ 0)))] fun G => b5 (wp_ret ?_)))); exact A5 (decide (V4 naB l ≥ 0)) G [0] ((ar4 _ _).symm)
theorem aZ5 (l : List (List Int)) : (!l.any naB) = l.all X6 := by
 rw [List.all_eq_not_any_not]
theorem a60 {nv na : Nat} {m : D6} (h1 : (m.vals.length : Int) = nv) (h2 : (m.arrs.length : Int) = na) (h3 : H2 m.vals = true) : (!m.arrs.any naB) = mfB nv na m := by
 rw [a61 h1 h2 h3]; exact aZ5 _
theorem aG3 (vs ars xs : List Int) (rs : List (List Int)) : t8.ok Try.prog (O2 116 [.ref 0, .ref 1, mA 2] [dI vs, dI ars, dI xs, dR rs] (bA (mfB vs.length ars.length ⟨xs, rs⟩))) := by
  refine N0 31 Try.func116 [dI vs, dI ars, dI xs, dR rs] [(0, .ref 0), (1, .ref 1), (2, .agg [.ref 2, .ref 3])] fun G => ?_; refine wp_seq (B8 G l6 (rg 5) [dI vs, dI ars, dI xs, dR rs, .box [.ref 2, .ref 3]] [(0, .ref 0), (1, .ref 1), (5, .ptr 4 0), (6, bA false)] fun G => b5 (wp_seq (wp_seq ?_))); cases h0 : ((xs.length : Int) != (vs.length : Int))
  ·
   have q0 := bne_eq_false_iff_eq.1 h0; cases h1 : ((rs.length : Int) != (ars.length : Int))
   ·
    have q1 := bne_eq_false_iff_eq.1 h1; refine m7 G (D2 (t6 17 [2] (ah6 xs) D0) (fc h0 (fc h1 fz)) (us [(7, 12, 0), (1013, 1013, 0), (15, 18, 1), (1019, 1019, 1)])) [(26, .v (.bool !H2 xs))] fun G => b5 ?_; cases h2 : (!H2 xs)
    · have q2 : (H2 xs) = true := (Eq.mp (bb1 _) h2); refine rF G _ h2 (wp_skip (b5 (wp_seq (B8 G (T4 2 [3] (a74 rs)) (rg 4) [dI vs, dI ars, dI xs, dR rs] [(6, .v (.bool !rs.any naB))] fun G => b5 (wp_ret ?_))))); exact rxv (.v (.bool !rs.any naB)) G (rg 4) (by have e1 : (mfB vs.length ars.length (D6.mk xs rs) : Bool) = (!rs.any naB) := ((a60 (m := ⟨xs, rs⟩) (by dsimp only; omega) (by dsimp only; omega) (by with_reducible assumption)).symm); (first | rw [e1] | simp only [e1]) <;> rfl)
    · have q2 : (H2 xs) = false := (Eq.mp (bb0 _) h2); refine rT G _ h2 (wp_seq (m7 G l6 [] fun G => b5 (wp_ret (l9 ?_)))); exact A5 false G (rg 4) (a11 (by with_reducible assumption))
   · have q1 := bne_iff_ne.1 h1; refine m7 G (M5 (fc h0 (fc h1 fz)) (us [(7, 12, 0), (1013, 1013, 0), (15, 18, 1), (1019, 1019, 1)])) [(26, bA true)] fun G => b5 (rT G true (by kernel_rfl) (wp_seq (m7 G l6 [] fun G => b5 (wp_ret (l9 ?_))))); exact A5 false G (rg 4) (a12 (by dsimp only; omega))
  · have q0 := bne_iff_ne.1 h0; refine m7 G (M5 (fc h0 (fc (b := true) rfl fz)) (us [(7, 12, 0), (1013, 1013, 0), (15, 18, 1), (1019, 1019, 1)])) [(26, bA true)] fun G => b5 (rT G true (by kernel_rfl) (wp_seq (m7 G l6 [] fun G => b5 (wp_ret (l9 ?_))))); exact A5 false G (rg 4) (a13 (by dsimp only; omega))
abbrev LnS : Type := List Int × List b6
section
variable {ars : List Int} {s : b6} {m pc : Int} {x : LnS}
end
structure Grw (nv na d : Nat) (sz : Nat) (s : LnS) (r : LnS) : Prop where
 lo : s.1.length ≤ r.1.length
 hi : r.1.length ≤ s.1.length + sz
 st : s5 r.2 ≤ s5 s.2 + 40 * sz
 len : s.2.length ≤ r.2.length
section
variable {p : k8} {l k : Int} (h : F0 p = true) (hl : F6 l = true)
include h hl
end
section
variable {p : k8} {l : Int}
end
def exB (p q : k8) : Bool := F0 p && (F0 q && (decide (p.vars.length ≤ q.vars.length) && (decide (p.vars = q.vars.take p.vars.length) && decide (p.arrays = q.arrays))))
def J0 (p q : k8) (m : D6) : D6 := if exB p q = true ∧ mfB p.vars.length p.arrays.length m = true then ⟨m.vals ++ ba7 (q.vars.length - m.vals.length) 0, m.arrs⟩ else ⟨[], []⟩
def X1 (p q : k8) (m : D6) : Bool := exB p q && mfB p.vars.length p.arrays.length m
section
variable {p q : k8} {m : D6}
theorem aJ2 (h : exB p q = false) : J0 p q m = ⟨[], []⟩ ∧ X1 p q m = false := by unfold J0 X1; rw [h]; exact ⟨if_neg (by simp), rfl⟩
theorem aJ1 (h : mfB p.vars.length p.arrays.length m = false) : J0 p q m = ⟨[], []⟩ ∧ X1 p q m = false := by unfold J0 X1; rw [h]; exact ⟨if_neg (by simp), by simp⟩
theorem aY9 (h : exB p q = true) (h2 : mfB p.vars.length p.arrays.length m = true) : J0 p q m = ⟨m.vals ++ ba7 (q.vars.length - m.vals.length) 0, m.arrs⟩ ∧ X1 p q m = true := by unfold J0 X1; exact ⟨if_pos ⟨h, h2⟩, by rw [h, h2]; rfl⟩
theorem aJ0 (h : exB p q = true) : F0 p = true ∧ F0 q = true ∧ p.vars.length ≤ q.vars.length ∧ p.arrays = q.arrays := by
 unfold exB at h
 simp only [ba1, decide_eq_true_eq] at h
 exact ⟨h.1, h.2.1, h.2.2.1, h.2.2.2.2⟩
end
theorem aF8 (v : Value) (n : Nat) (t : List Value) (w : World) (h : H8 w v n 1 t) (h1 : ∀ u ∈ t, u.oneCell' = true) (hb : n ≤ 1000000000000) :
  Calls Try.prog 181 #[v] w fun e w' => ∃ u, e = .returned u ∧ E9 w' w.heap.size w'.heap.size 23 1 u n t ∧ Below w.heap.size w w' := by
 obtain ⟨a, cap, rfl, hc1, hc2, hc3, -⟩ := h.open
 have hnil := fun w => Lib.run_eql_slice_nil (P := Try.prog) w 35 23 a n cap 0 0 Try.underlying35
 rcases a with _ | a
 ·have hn : n = 0 := by
   rcases Nat.eq_zero_or_pos n with h0 | h0
   ·exact h0
   ·obtain ⟨_, a, c, he, _, _, hx⟩ := h
    cases he
    obtain ⟨_, _, he, _⟩ := hx h0
    cases he
  subst hn
  have ht : t = [] := bd4 (by have := h.1; omega)
  subst ht
  simp only [Option.isNone_none] at hnil
  go_enter Try.func181, Try.ntmps181
  go_wp2_with fail
  go_ret
  exact ⟨_, rfl, ⟨World.ownsRow_nil _ _ _ _, fun g hg => by cases hg⟩, Below.refl _ _⟩
 ·go_enter Try.func181, Try.ntmps181
  simp only [Option.isNone_some] at hnil
  have ba := (Below.refl w.heap.size w).alloc (ba4 _) (.cells #[] 23)
  go_wp2_with (at_builtin; refine aj6 rfl _ _ rfl Try.underlying35 aI4 rfl (by omega) rfl (T1 w #[] 0 1 _ rfl rfl (by omega)).1 rfl (h.below ba) h1 (by omega) (by omega) (by simp) ?_; rintro a4 q4 w4 o4 b4 - -)
  go_ret
  refine ⟨_, rfl, E9.mk' (by simpa using o4), ba.trans b4⟩
theorem a67 {p q : k8} (h : F0 p = false) : exB p q = false := by unfold exB; rw [h]; rfl
theorem a66 {p q : k8} (h : F0 q = false) : exB p q = false := by unfold exB; rw [h]; simp
theorem a65 {p q : k8} (h : ¬ (p.vars.length : Int) ≤ (q.vars.length : Int)) : exB p q = false := by
 unfold exB
 rw [decide_eq_false (p := p.vars.length ≤ q.vars.length) (by omega)]
 simp
theorem a98 {p q : k8} (h1 : F0 p = true) (h2 : F0 q = true) (h : (p.vars.length : Int) ≤ (q.vars.length : Int)) : exB p q = (decide (p.vars = (q.vars.take p.vars.length).drop 0) && decide (p.arrays = q.arrays)) := by
 unfold exB
 rw [h1, h2, decide_eq_true (p := p.vars.length ≤ q.vars.length) (by omega), List.drop_zero]
 simp
theorem a64 {p q : k8} (h : ¬ p.vars = (q.vars.take p.vars.length).drop 0) : exB p q = false := by
 unfold exB
 rw [List.drop_zero] at h
 rw [decide_eq_false h]
 simp
theorem a63 {p q : k8} (h1 : F0 p = true) (h2 : F0 q = true) (h : (p.vars.length : Int) ≤ (q.vars.length : Int)) (h3 : p.vars = (q.vars.take p.vars.length).drop 0) : exB p q = decide (p.arrays = q.arrays) := by
 rw [a98 h1 h2 h, decide_eq_true h3]; rfl
abbrev aa0 (p : k8) (q : k8) (r0 : List It) : List It := dI p.vars :: dI p.arrays :: dT p.body :: dI q.vars :: dI q.arrays :: dT q.body :: r0
theorem an8 (p q : k8) : t8.ok Try.prog (O2 14 [pA 0, pA 3] (pS p ++ pS q) (bA (exB p q))) := by
  refine N0 38 Try.func14 (aa0 p q []) [(0, pA 0), (1, pA 3)] fun G => ?_; refine wp_seq (B8 G l6 [0, 1, 2, 3, 4, 5, 6, 14] (aa0 p q [.box (pL 0), .box (pL 3)]) [(2, .ptr 6 0), (3, .ptr 7 0), (4, bA false)] fun G => b5 (wp_seq ?_)); cases h0 : (F0 (k8.mk p.vars p.arrays p.body))
  · refine ax6 G (D2 (t6 1 [0, 1, 2] (H0 p.vars p.arrays p.body) D0) (fc h0 (fc (b := false) rfl fz)) (us [(3, 4, 0), (1005, 1005, 0), (7, 13, 1), (1014, 1014, 1), (16, 24, 1), (1025, 1025, 1), (27, 31, 1), (1032, 1032, 1)])) [0, 1, 3, 7, 15, 31, 63, 127, 255, 511, 127, 1151, 3199, 8191, 16383, 32767, 65535, 131071, 65535, 327679, 65535, 1114111, 3211263, 8191999, 16777215, 33554431, 67108863, 134217727, 268435455, 134217727, 671088639, 2147483647, 4294967295, 8589934591] (rg 6) (aa0 p q []) [(4, bA false)] fun G => b5 (wp_ret ?_); exact A5 false G (rg 6) (a67 (by assumption))
  ·
   cases h1 : (F0 (k8.mk q.vars q.arrays q.body))
   · refine ax6 G (D2 (t6 1 [0, 1, 2] (H0 p.vars p.arrays p.body) (t6 4 [3, 4, 5] (H0 q.vars q.arrays q.body) D0)) (fc h0 (fc h1 (fc (b := false) rfl fz))) (us [(3, 4, 0), (1005, 1005, 0), (7, 13, 1), (1014, 1014, 1), (16, 24, 2), (1025, 1025, 2), (27, 31, 2), (1032, 1032, 2)])) [0, 1, 3, 7, 15, 31, 63, 127, 255, 511, 127, 1151, 3199, 8191, 16383, 32767, 65535, 131071, 65535, 327679, 65535, 1114111, 3211263, 8191999, 16777215, 33554431, 67108863, 134217727, 268435455, 134217727, 671088639, 2147483647, 4294967295, 8589934591] (rg 6) (aa0 p q []) [(4, bA false)] fun G => b5 (wp_ret ?_); exact A5 false G (rg 6) (a66 (by assumption))
   ·
    cases h2 : (decide ((p.vars.length : Int) ≤ q.vars.length))
    · have q2 := X3 h2; refine ax6 G (D2 (t6 1 [0, 1, 2] (H0 p.vars p.arrays p.body) (t6 4 [3, 4, 5] (H0 q.vars q.arrays q.body) D0)) (fc h0 (fc h1 (fc h2 (fc (b := false) rfl fz)))) (us [(3, 4, 0), (1005, 1005, 0), (7, 13, 1), (1014, 1014, 1), (16, 24, 2), (1025, 1025, 2), (27, 31, 3), (1032, 1032, 3)])) [0, 1, 3, 7, 15, 31, 63, 127, 255, 511, 127, 1151, 3199, 8191, 16383, 32767, 65535, 131071, 65535, 327679, 65535, 1114111, 3211263, 8191999, 16777215, 33554431, 67108863, 134217727, 268435455, 134217727, 671088639, 2147483647, 4294967295, 8589934591] (rg 6) (aa0 p q []) [(4, bA false)] fun G => b5 (wp_ret ?_); exact A5 false G (rg 6) (a65 (by assumption))
    ·
     have q2 := X2 h2; cases h3 : (decide (p.vars = List.drop (0 : Nat) (bd2 p.vars.length q.vars)))
     · have q3 := X3 h3; refine aK8 G (D2 (t6 1 [0, 1, 2] (H0 p.vars p.arrays p.body) (t6 4 [3, 4, 5] (H0 q.vars q.arrays q.body) (t6 24 [0, 192] (ao1 p.vars (List.drop 0 (bd2 p.vars.length q.vars))) D0))) (fc h0 (fc h1 (fc h2 (fc h3 fz)))) (us [(3, 4, 0), (1005, 1005, 0), (7, 13, 1), (1014, 1014, 1), (16, 24, 2), (1025, 1025, 2), (27, 31, 3), (1032, 1032, 3)])) [0, 1, 3, 7, 15, 31, 63, 127, 255, 511, 127, 1151, 3199, 8191, 16383, 32767, 65535, 131071, 65535, 327679, 65535, 1114111, 3211263, 8191999, 16777215, 33554431, 67108863, 134217727, 268435455, 134217727, 671088639, 2147483647, 4294967295, 8589934591] (rg 6) (aa0 p q []) [(4, bA false)] [(0 : Int) ≤ p.vars.length, (p.vars.length : Int) ≤ q.vars.length] ⟨(by omega), (by assumption), ba8⟩ fun G => b5 (wp_ret ?_); exact A5 false G (rg 6) (a64 (by assumption))
     · have q3 := X2 h3; refine aK8 G (D2 (t6 1 [0, 1, 2] (H0 p.vars p.arrays p.body) (t6 4 [3, 4, 5] (H0 q.vars q.arrays q.body) (t6 24 [0, 192] (ao1 p.vars (List.drop 0 (bd2 p.vars.length q.vars))) (t6 31 [1, 4] (ao1 p.arrays q.arrays) D0)))) (fc h0 (fc h1 (fc h2 (fc h3 fz)))) (us [(3, 4, 0), (1005, 1005, 0), (7, 13, 1), (1014, 1014, 1), (16, 24, 2), (1025, 1025, 2), (27, 31, 3), (1032, 1032, 3)])) [0, 1, 3, 7, 15, 31, 63, 127, 255, 511, 127, 1151, 3199, 8191, 16383, 32767, 65535, 131071, 65535, 327679, 65535, 1114111, 3211263, 8191999, 16777215, 33554431, 67108863, 134217727, 268435455, 134217727, 671088639, 2147483647, 4294967295, 8589934591] (rg 6) (aa0 p q []) [(4, bA (decide (p.arrays = q.arrays)))] [(0 : Int) ≤ p.vars.length, (p.vars.length : Int) ≤ q.vars.length] ⟨(by omega), (by assumption), ba8⟩ fun G => b5 (wp_ret ?_); exact A5 (decide (p.arrays = q.arrays)) G (rg 6) (a63 (by assumption) (by assumption) (by assumption) (by assumption))
abbrev Z9 (p : k8) (q : k8) (r0 : List It) : List It := dI p.vars :: dI p.arrays :: dT p.body :: dI q.vars :: dI q.arrays :: dT q.body :: r0
theorem an2 (p q : k8) (hb : s5 p.body ≤ 1048576) (hq : s5 q.body ≤ 1048576) : t8.ok Try.prog (O2 15 [pA 0, pA 3] (pS p ++ pS q) (bA (exB p q))) := by
  refine N0 38 Try.func15 (Z9 p q []) [(0, pA 0), (1, pA 3)] fun G => ?_; refine wp_seq (B8 G l6 [0, 1, 2, 3, 4, 5, 6, 14] (Z9 p q [.box (pL 0), .box (pL 3)]) [(2, .ptr 6 0), (3, .ptr 7 0), (4, bA false)] fun G => b5 (wp_seq ?_)); cases h0 : (F0 p)
  · refine ax6 G (D2 (t6 1 [0, 1, 2] (A8 p (by assumption)) D0) (fc h0 (fc (b := false) rfl fz)) (us [(3, 4, 0), (1005, 1005, 0), (7, 13, 1), (1014, 1014, 1), (16, 24, 1), (1025, 1025, 1), (27, 31, 1), (1032, 1032, 1)])) [0, 1, 3, 7, 15, 31, 63, 127, 255, 511, 127, 1151, 3199, 8191, 16383, 32767, 65535, 131071, 65535, 327679, 65535, 1114111, 3211263, 8191999, 16777215, 33554431, 67108863, 134217727, 268435455, 134217727, 671088639, 2147483647, 4294967295, 8589934591] (rg 6) (Z9 p q []) [(4, bA false)] fun G => b5 (wp_ret ?_); exact A5 false G (rg 6) (a67 (by assumption))
  ·
   cases h1 : (F0 q)
   · refine ax6 G (D2 (t6 1 [0, 1, 2] (A8 p (by assumption)) (t6 4 [3, 4, 5] (A8 q (by assumption)) D0)) (fc h0 (fc h1 (fc (b := false) rfl fz))) (us [(3, 4, 0), (1005, 1005, 0), (7, 13, 1), (1014, 1014, 1), (16, 24, 2), (1025, 1025, 2), (27, 31, 2), (1032, 1032, 2)])) [0, 1, 3, 7, 15, 31, 63, 127, 255, 511, 127, 1151, 3199, 8191, 16383, 32767, 65535, 131071, 65535, 327679, 65535, 1114111, 3211263, 8191999, 16777215, 33554431, 67108863, 134217727, 268435455, 134217727, 671088639, 2147483647, 4294967295, 8589934591] (rg 6) (Z9 p q []) [(4, bA false)] fun G => b5 (wp_ret ?_); exact A5 false G (rg 6) (a66 (by assumption))
   ·
    cases h2 : (decide ((p.vars.length : Int) ≤ q.vars.length))
    · have q2 := X3 h2; refine ax6 G (D2 (t6 1 [0, 1, 2] (A8 p (by assumption)) (t6 4 [3, 4, 5] (A8 q (by assumption)) D0)) (fc h0 (fc h1 (fc h2 (fc (b := false) rfl fz)))) (us [(3, 4, 0), (1005, 1005, 0), (7, 13, 1), (1014, 1014, 1), (16, 24, 2), (1025, 1025, 2), (27, 31, 3), (1032, 1032, 3)])) [0, 1, 3, 7, 15, 31, 63, 127, 255, 511, 127, 1151, 3199, 8191, 16383, 32767, 65535, 131071, 65535, 327679, 65535, 1114111, 3211263, 8191999, 16777215, 33554431, 67108863, 134217727, 268435455, 134217727, 671088639, 2147483647, 4294967295, 8589934591] (rg 6) (Z9 p q []) [(4, bA false)] fun G => b5 (wp_ret ?_); exact A5 false G (rg 6) (a65 (by assumption))
    ·
     have q2 := X2 h2; cases h3 : (decide (p.vars = List.drop (0 : Nat) (bd2 p.vars.length q.vars)))
     · have q3 := X3 h3; refine aK8 G (D2 (t6 1 [0, 1, 2] (A8 p (by assumption)) (t6 4 [3, 4, 5] (A8 q (by assumption)) (t6 24 [0, 192] (an6 p.vars (List.drop 0 (bd2 p.vars.length q.vars))) D0))) (fc h0 (fc h1 (fc h2 (fc h3 fz)))) (us [(3, 4, 0), (1005, 1005, 0), (7, 13, 1), (1014, 1014, 1), (16, 24, 2), (1025, 1025, 2), (27, 31, 3), (1032, 1032, 3)])) [0, 1, 3, 7, 15, 31, 63, 127, 255, 511, 127, 1151, 3199, 8191, 16383, 32767, 65535, 131071, 65535, 327679, 65535, 1114111, 3211263, 8191999, 16777215, 33554431, 67108863, 134217727, 268435455, 134217727, 671088639, 2147483647, 4294967295, 8589934591] (rg 6) (Z9 p q []) [(4, bA false)] [(0 : Int) ≤ p.vars.length, (p.vars.length : Int) ≤ q.vars.length] ⟨(by omega), (by assumption), ba8⟩ fun G => b5 (wp_ret ?_); exact A5 false G (rg 6) (a64 (by assumption))
     · have q3 := X2 h3; refine aK8 G (D2 (t6 1 [0, 1, 2] (A8 p (by assumption)) (t6 4 [3, 4, 5] (A8 q (by assumption)) (t6 24 [0, 192] (an6 p.vars (List.drop 0 (bd2 p.vars.length q.vars))) (t6 31 [1, 4] (an6 p.arrays q.arrays) D0)))) (fc h0 (fc h1 (fc h2 (fc h3 fz)))) (us [(3, 4, 0), (1005, 1005, 0), (7, 13, 1), (1014, 1014, 1), (16, 24, 2), (1025, 1025, 2), (27, 31, 3), (1032, 1032, 3)])) [0, 1, 3, 7, 15, 31, 63, 127, 255, 511, 127, 1151, 3199, 8191, 16383, 32767, 65535, 131071, 65535, 327679, 65535, 1114111, 3211263, 8191999, 16777215, 33554431, 67108863, 134217727, 268435455, 134217727, 671088639, 2147483647, 4294967295, 8589934591] (rg 6) (Z9 p q []) [(4, bA (decide (p.arrays = q.arrays)))] [(0 : Int) ≤ p.vars.length, (p.vars.length : Int) ≤ q.vars.length] ⟨(by omega), (by assumption), ba8⟩ fun G => b5 (wp_ret ?_); exact A5 (decide (p.arrays = q.arrays)) G (rg 6) (a63 (by assumption) (by assumption) (by assumption) (by assumption))
section
variable {b : List UInt8} {j : Int} {m : D6}
end
theorem aJ7 (l : List Int) (k : Nat) : l ++ ba7 (k + 1) 0 = (l ++ ba7 k 0) ++ [0] := by rw [List.replicate_succ', List.append_assoc]
theorem aY4 (v1 v2 : Value) (xs : List Int) (rs : List (List Int)) (w : World) (h1 : H8 w v1 xs.length 1 (ints xs)) (h2 : O4 w v2 rs) (hx : xs.length ≤ 1048576) (hr : rs.length ≤ 1048576) (hi : ∀ r ∈ rs, r.length ≤ 1048576) :
  Calls Try.prog 117 #[.agg #[v1, v2]] w fun e w' => ∃ u1 u2 mid, w.heap.size ≤ mid ∧ e = .returned (.agg #[u1, u2]) ∧ E9 w' w.heap.size mid 3 1 u1 xs.length (ints xs) ∧ G4 w' mid w'.heap.size u2 rs ∧ Below w.heap.size w w' := by
 obtain ⟨vs, hv, hrows⟩ := h2
 have hvl : vs.length = rs.length := by have := hv.1; omega
 have hone : ∀ u ∈ vs, u.oneCell' = true := by
  intro u hu
  obtain ⟨i, hi, rfl⟩ := List.mem_iff_getElem.1 hu
  obtain ⟨a', c', e⟩ := (hrows i _ _ (ba0 hi) (ba0 (by omega))).form
  rw [e]; rfl
 obtain ⟨n, hn⟩ : ∃ n, n = w.heap.size := ⟨_, rfl⟩
 obtain ⟨W, hW⟩ : ∃ W, W = (w.alloc (.cells #[v1, v2] 37)).alloc (.cells #[.slice none 0 0, .slice none 0 0] 37) := ⟨_, rfl⟩
 have B0 : Below n w W := by rw [hW, hn]; go_grown
 have sW : W.heap.size = n + 1 + 1 := by rw [hW, hn]; simp
 have L1 : J1 W n [v1, v2] := by rw [hW, hn]; exact (J1.new w [v1, v2] _).alloc _
 have L2 : J1 W (n + 1) [.slice none 0 0, .slice none 0 0] := by rw [hW, hn]; exact J1.new' (w.alloc _) [.slice none 0 0, .slice none 0 0] _ (by simp)
 have HR1 := show Hid (∀ W', Below n w W' → H8 W' v1 xs.length 1 (ints xs)) from fun W' g => h1.below (by rw [← hn]; exact g)
 have HR2 := show Hid (∀ W', Below n w W' → H8 W' v2 rs.length 1 vs) from fun W' g => hv.below (by rw [← hn]; exact g)
 have HR3 := show Hid (∀ W', Below n w W' → ∀ (i : Nat) (u : Value) (r : List Int), vs[i]? = some u → rs[i]? = some r → H8 W' u r.length 1 (ints r)) from fun W' g i u r a b => (hrows i u r a b).below (by rw [← hn]; exact g)
 have HA := show Hid (∀ W', Below (n + 1 + 1) W W' → Below n w W') from fun W' g => B0.trans (g.mono (by omega))
 have HT := show Hid (∀ W', Below (n + 1 + 1) W W' → W'.cell? ⟨n, 0, none⟩ = some v1 ∧ W'.cell? ⟨n, 1, none⟩ = some v2 ∧ W'.frozen? ⟨n, 0, none⟩ = false ∧ W'.frozen? ⟨n, 1, none⟩ = false) from by
  intro W' hb
  have L' := L1.below hb (by omega)
  exact ⟨by simpa using L'.cell 0, by simpa using L'.cell 1, L'.free 0, L'.free 1⟩
 have HQ := show Hid (∀ W' W'', Below (n + 1 + 1) W W' → Below W'.heap.size W' W'' → Below (n + 1 + 1) W W'') from fun W' W'' g k => g.trans (k.mono (by have := g.size; omega))
 have hb0 : Below (n + 1 + 1) W W.drew := (Below.refl _ W).drew
 obtain ⟨c0, c1, f0, f1⟩ := HT.out _ hb0
 have HN := show Hid (n = w.heap.size) from hn
 have HB0 := show Hid _ from B0
 have HL2 := show Hid _ from L2
 have HL1 := show Hid _ from L1
 have HO := show Hid _ from hone
 have HVL := show Hid _ from hvl
 clear h1 hv hrows B0 L1 L2 hone hvl
 go_enter Try.func117, Try.ntmps117
 go_wp2_with fail
 rw [← HN.out]
 rw [← hW]
 clear hn hW
 go_region_with (first
  | (go_at_call 118; refine (am9 v1 xs _ (HR1.out _ (HA.out _ hb0)) (by omega)).mono ?_; rintro e w7 ⟨u1, rfl, o1, b7⟩; obtain ⟨x1, k1, rfl⟩ := o1.form; have q7 := HQ.out _ _ hb0 b7; obtain ⟨c2, c3, f2, f3⟩ := HT.out _ q7)
  | (go_at_call 181; refine (aF8 v2 rs.length vs _ (HR2.out _ (HA.out _ q7)) HO.out (by omega)).mono ?_; rintro e w8 ⟨u2, rfl, o2, b8⟩; obtain ⟨x2, k2, rfl⟩ := o2.form; have q8 := HQ.out _ _ q7 b8; obtain ⟨c4, c5, f4, f5⟩ := HT.out _ q8))
 all_goals
  have s7 := b7.size
  have s8 := b8.size
  have sd : W.drew.heap.size = n + 1 + 1 := sW
  have LX := ((J1.below HL1.out q8 (by omega)).set (j := 0) (.slice x1 xs.length k1)).set (j := 1) (.slice x2 rs.length k2)
  have MX := ((J1.below HL2.out q8 (by omega)).other (p := ⟨n, 0, none⟩) (by show n + 1 ≠ n; omega) (.slice x1 xs.length k1)).other (p := ⟨n, 1, none⟩) (by show n + 1 ≠ n; omega) (.slice x2 rs.length k2)
  have OX := ((o1.keep b8 (ba4 _)).other (b := n) (by omega) 0 (.slice x1 xs.length k1)).other (b := n) (by omega) 1 (.slice x2 rs.length k2)
  have PX := (o2.other (b := n) (by omega) 0 (.slice x1 xs.length k1)).other (b := n) (by omega) 1 (.slice x2 rs.length k2)
  have BX := ((HB0.out.trans (q8.mono (by omega))).setCell (p := ⟨n, 0, none⟩) (ba4 _) (.slice x1 xs.length k1)).setCell (p := ⟨n, 1, none⟩) (ba4 _) (.slice x2 rs.length k2)
  have SX : ((w8.setCell ⟨n, 0, none⟩ (.slice x1 xs.length k1)).setCell ⟨n, 1, none⟩ (.slice x2 rs.length k2)).heap.size = w8.heap.size := by simp
  generalize (w8.setCell ⟨n, 0, none⟩ (.slice x1 xs.length k1)).setCell ⟨n, 1, none⟩ (.slice x2 rs.length k2) = wX at *
  clear c0 c1 c2 c3 c4 c5 f0 f1 f2 f3 f4 f5 hb0 q7 q8 HQ HT HA HL1 HL2 HB0 b7 b8 o1 o2
  have r0 := LX.cell 0
  have r1 := LX.cell 1
  simp at r0 r1
  obtain ⟨A, hA⟩ : ∃ A, A = w7.heap.size := ⟨_, rfl⟩
  obtain ⟨B, hB⟩ : ∃ B, B = w8.heap.size := ⟨_, rfl⟩
  rw [← hA] at OX PX s7 s8
  rw [← hB] at PX s8 SX
  rw [sd] at OX s7
  have HLX := show Hid _ from LX
  have HMX := show Hid _ from MX
  clear hA hB LX MX sd sW
  go_wp2_with fail
  clear r0 r1
  go_loopw [3, 4, 16] (fun _ _ i wr => ∃ (k : Nat) (cs : List Value), k ≤ rs.length ∧ i = .int .i64 k ∧ E9 wr A B 23 1 (.slice x2 rs.length k2) rs.length cs ∧ (∀ (i : Nat) (u : Value) (r : List Int), i < k → cs[i]? = some u → rs[i]? = some r → E9 wr B wr.heap.size 3 1 u r.length (ints r)) ∧
    (∀ (i j : Nat) (u u' : Value), i < j → j < k → cs[i]? = some u → cs[j]? = some u' → ao7 u u') ∧ (∀ i, k ≤ i → cs[i]? = vs[i]?) ∧ E9 wr (n + 1 + 1) A 3 1 (.slice x1 xs.length k1) xs.length (ints xs) ∧ J1 wr n [.slice x1 xs.length k1, .slice x2 rs.length k2] ∧ J1 wr (n + 1) [.slice none 0 0, .slice none 0 0] ∧ Below n w wr ∧ B ≤ wr.heap.size) (fun _ _ i _ => rs.length - (intOf i).toNat)
  case atStart => exact ⟨0, vs, bb4 _, rfl, PX, fun i u r h => by omega, fun i j u u' _ h => by omega, fun i _ => rfl, OX, HLX.out, HMX.out, BX, Nat.le_of_eq SX.symm⟩
  case round =>
   obtain ⟨k, cs, hk, rfl, ho, hrow, hdis, hrest, hvals, hL, hM, hb, hsz⟩ := hrel
   have HROW := show Hid _ from hrow
   have HDIS := show Hid _ from hdis
   have HREST := show Hid _ from hrest
   have HLL := show Hid _ from hL
   have HMM := show Hid _ from hM
   have hcl : cs.length = rs.length := by have := ho.1.1; omega
   clear hrow hdis hrest OX PX BX SX HLX HMX
   have r1 := hL.cell 1
   simp at r1
   by_cases hlt : k < rs.length
   ·obtain ⟨g, cap, hv, hg1, hg2, hg3, -, -, hfz, hcc⟩ := ho.open (by omega)
    cases hv
    have hkc : k < cs.length := by omega
    obtain ⟨u0, hu0⟩ : ∃ u0, u0 = cs[k] := ⟨_, rfl⟩
    have hcu : cs[k]? = some u0 := by rw [hu0]; exact ba0 hkc
    have hvu : vs[k]? = some u0 := by rw [← HREST.out k (ba4 _)]; exact hcu
    have hrk : rs[k]? = some rs[k] := ba0 hlt
    have hrow := HR3.out wr hb k u0 rs[k] hvu hrk
    obtain ⟨au, cu, rfl⟩ := hrow.form
    have hx := hcc k _ hcu
    have f0 := hfz k
    have hlen := hi rs[k] (bb6 hlt)
    have HCU := show Hid _ from hcu
    have HHR := show Hid _ from hrow
    have HHO := show Hid _ from ho
    have HVA := show Hid _ from hvals
    have HB := show Hid _ from hb
    have HRK := show Hid _ from hrk
    have hm1 : rs.length ≤ 9223372036854775807 := by omega
    have HRR := show Hid (H8 wr.drew (.slice au rs[k].length cu) rs[k].length 1 (ints rs[k])) from HR3.out wr.drew hb.drew k _ rs[k] hvu hrk
    have h0g : n + 1 < g := by omega
    clear hu0 hcc hfz hcu hvu hrow ho hvals hb hL hM hrk
    go_wp2_with fail
    go_region_with (go_at_call 118; refine (am9 _ rs[k] _ HRR.out (by omega)).mono ?_; rintro e w9 ⟨u9, rfl, o9, b9⟩; obtain ⟨x9, k9, rfl⟩ := o9.form; have q9 := aG4 b9 (Below.refl _ wr).drew (ba4 _); have f9 := ((P6 q9).2 g k hg3).trans f0; have c9 := ((P6 q9).1 g k hg3).trans hx; have r9 := ((P6 q9).1 n 1 (by omega)).trans r1)
    all_goals
     have s9 := q9.size
     have sz9 : wr.drew.heap.size = wr.heap.size := rfl
     rw [sz9] at o9 b9
     clear f0 hx r1 f9 c9 r9 HRR
     go_wp2_with fail
     refine ⟨⟨k + 1, cs.set k (.slice x9 rs[k].length k9), by omega, by go_num, E9.setCell (E9.keep HHO.out q9 (by omega)) hkc _, ?_, ?_, ?_, (E9.other (E9.keep HVA.out q9 (by omega)) (b := g) (by omega) _ _), (J1.other (J1.below HLL.out q9 (by omega)) (p := ⟨g, k, none⟩) (by show n ≠ g; omega) _), (J1.other (J1.below HMM.out q9 (by omega)) (p := ⟨g, k, none⟩) (by show n + 1 ≠ g; omega) _), (HB.out.trans (q9.mono (by omega))).setCell (p := ⟨g, k, none⟩) (by show n ≤ g; omega) _, by simp; omega⟩, by simp [intOf]; omega⟩
     ·intro i u r hik hu hr'
      by_cases e : i = k
      ·subst e
       rw [List.getElem?_set_self hkc] at hu
       cases hu
       rw [HRK.out] at hr'
       cases hr'
       exact (o9.other (b := g) (by omega) _ _).wide (by omega) (by simp)
      ·rw [bd5 (by omega)] at hu
       exact (((HROW.out i u r (by omega) hu hr').keep q9 (ba4 _)).other (b := g) (by omega) _ _).wide (ba4 _) (by simpa using s9)
     ·intro i j u u' hij hj hu hu'
      rw [bd5 (by omega)] at hu
      by_cases e : j = k
      ·subst e
       rw [List.getElem?_set_self hkc] at hu'
       cases hu'
       exact ai8 (HROW.out i u _ (by omega) hu (ba0 (by omega))) o9 (by omega)
      ·rw [bd5 (by omega)] at hu'
       exact HDIS.out i j u u' hij (by omega) hu hu'
     ·intro i hik
      rw [bd5 (by omega)]
      exact HREST.out i (by omega)
   ·have hke : k = rs.length := by omega
    subst hke
    have r0 := hL.cell 0
    have m0 := hM.cell 0
    have m1 := hM.cell 1
    have fm0 := hM.free 0
    have fm1 := hM.free 1
    simp at r0 m0 m1
    have hF := ((hM.set (j := 0) (.slice x1 xs.length k1)).set (j := 1) (.slice x2 rs.length k2))
    have BF := (hb.setCell (p := ⟨n + 1, 0, none⟩) (by show n ≤ n + 1; omega) (.slice x1 xs.length k1)).setCell (p := ⟨n + 1, 1, none⟩) (by show n ≤ n + 1; omega) (.slice x2 rs.length k2)
    have OF := (hvals.other (b := n + 1) (by omega) 0 (.slice x1 xs.length k1)).other (b := n + 1) (by omega) 1 (.slice x2 rs.length k2)
    have PF := (ho.other (b := n + 1) (by omega) 0 (.slice x1 xs.length k1)).other (b := n + 1) (by omega) 1 (.slice x2 rs.length k2)
    have HRF := show Hid (∀ (i : Nat) (u : Value) (r : List Int), cs[i]? = some u → rs[i]? = some r → E9 ((wr.setCell ⟨n + 1, 0, none⟩ (.slice x1 xs.length k1)).setCell ⟨n + 1, 1, none⟩ (.slice x2 rs.length k2)) B wr.heap.size 3 1 u r.length (ints r)) from fun i u r hu hr' =>
     ((HROW.out i u r (by have := (ba3.1 hr').1; omega) hu hr').other (b := n + 1) (by omega) 0 _).other (b := n + 1) (by omega) 1 _
    have zF : ((wr.setCell ⟨n + 1, 0, none⟩ (.slice x1 xs.length k1)).setCell ⟨n + 1, 1, none⟩ (.slice x2 rs.length k2)).heap.size = wr.heap.size := by simp
    have y0 := hF.cell 0
    have y1 := hF.cell 1
    simp at y0 y1
    have HBF := show Hid _ from BF
    have HOF := show Hid _ from OF
    have HPF := show Hid _ from PF
    have HZF := show Hid _ from zF
    clear hF BF OF PF zF ho hvals hL hM hb
    go_wp2_with fail
    refine bodyPost_ret (v := .agg #[.slice x1 xs.length k1, .slice x2 rs.length k2]) (by simp [results, Try.results117, go_sem, y0, y1]) rfl ⟨_, _, A, by rw [← HN.out]; omega, rfl, ?_, ⟨cs, ?_, ?_, ?_, ?_⟩, ?_⟩
    ·rw [← HN.out]; exact E9.wide HOF.out (by omega) (ba4 _)
    ·exact E9.wide HPF.out (ba4 _) (by rw [HZF.out]; omega)
    ·intro i u r hu hr'
     exact (HRF.out i u r hu hr').wide (by omega) (by rw [HZF.out]; exact ba4 _)
    ·intro i j u u' hij hu hu'
     exact HDIS.out i j u u' hij (by have := (ba3.1 hu').1; omega) hu hu'
    ·intro i u hu
     have hil : i < rs.length := by have := (ba3.1 hu).1; omega
     exact ai8 (HRF.out i u _ hu (ba0 hil)) HPF.out (by omega)
    ·rw [← HN.out]; exact HBF.out
theorem aH5 {w : World} {φ : Nat → Prop} {v : Value} {m : List (List Int)} (h : RD w φ (.rows m) v) : O4 w v m := by
 obtain ⟨vs, h1, h2⟩ := h
 refine ⟨vs, A7.row h1, fun i u r hu hr => ?_⟩
 have hi : i < m.length := (ba3.1 hr).1
 obtain ⟨u', a, b⟩ := h2 i hi
 rw [hu] at a; cases a
 rw [ba0 hi] at hr; cases hr
 exact A7.row b
theorem ay7 {w : World} {lo hi : Nat} {v : Value} {m : List (List Int)} (h : G4 w lo hi v m) : A9 w (fun b => lo ≤ b ∧ b < hi) (.rows m) v := by
 obtain ⟨vs, h1, h2, h3, h4⟩ := h
 have hl : vs.length = m.length := by have := h1.1.1; omega
 refine ⟨_, vs, fun b => ∃ (i : Nat) (u : Value), vs[i]? = some u ∧ u.ownBlock = some b, rfl, C0 h1.1 (bb4 _), fun g hg => ⟨⟨(h1.lt g hg).1, (h1.lt g hg).2.1⟩, ?_⟩, ?_, ao6.tree ⟨hl, fun i hi' => ?_, fun i j u u' hij hu hu' g hg => ?_⟩⟩
 ·rintro ⟨i, u, hu, hb⟩
  exact h4 i u hu g hb hg
 ·rintro b ⟨i, u, hu, hb⟩
  have hi' : i < m.length := by have := (ba3.1 hu).1; omega
  have := (h2 i u _ hu (ba0 hi')).lt b hb
  exact ⟨this.1, this.2.1⟩
 ·have hv : i < vs.length := by omega
  exact ⟨vs[i], ba0 hv, fun _ => C0 (h2 i _ _ (ba0 hv) (ba0 hi')).1 (bb4 _), fun g hg => ⟨i, _, ba0 hv, hg⟩⟩
 ·exact h3 i j u u' hij hu hu' g hg
theorem a42 (m : D6) (hx : m.vals.length ≤ 1048576) (hr : m.arrs.length ≤ 1048576) (hi : ∀ r ∈ m.arrs, r.length ≤ 1048576) : t8.ok Try.prog ⟨117, [mA 0], mS m, mS m ++ mO m, mT 2⟩ := by
 intro ι φ ψ w0 w F ρ M
 have r1 := M.datAt (id := 0) (d := .ints m.vals) rfl
 have r2 := M.datAt (id := 1) (d := .rows m.arrs) rfl
 refine (aY4 (ρ 0) (ρ 1) m.vals m.arrs w (A7.row r1) (aH5 r2) hx hr hi).mono ?_
 rintro e w' ⟨u1, u2, mid, hmid, rfl, o1, o2, hbl⟩
 obtain ⟨z, hz1, hz2⟩ := P5 u2 (fun b => mid ≤ b ∧ b < w'.heap.size) w'.heap.size fun b h => h.2
 refine ⟨fun i => if i = 2 then u1 else if i = 3 then z else ρ i, fun i hi => ?_, by simp [AV.val, AV.vals, hz1], ?_⟩
 ·have : i < 2 := hi
  simp only [if_neg (show ¬ i = 2 by omega), if_neg (show ¬ i = 3 by omega)]
 ·refine M.grow hbl (fun k => k = .inr 2 ∨ k = .inr 3) (fun k hk => ?_) ?_ ?_ ?_
  ·cases k with
   | inl i => rfl
   | inr j =>
    match j, hk with
    | 0, _ => rfl
    | 1, _ => rfl
    | 2, h => exact absurd (.inl rfl) h
    | 3, h => exact absurd (.inr rfl) h
    | j + 4, _ => rfl
  ·rintro k (rfl | rfl) b hb
   ·exact (o1.lt b hb).1
   ·exact bc3 hmid ((hz2 b).1 hb).1
  ·rintro j k b hjk (rfl | rfl) (rfl | rfl) hj hk
   ·exact hjk rfl
   ·have h1 := (o1.lt b hj).2.1
    have h2 := ((hz2 b).1 hk).1
    omega
   ·have h1 := (o1.lt b hk).2.1
    have h2 := ((hz2 b).1 hj).1
    omega
   ·exact hjk rfl
  ·rintro k (rfl | rfl)
   ·exact O6 (C0 o1.1 (bb4 _))
   ·have e : t3 z = fun b => mid ≤ b ∧ b < w'.heap.size := funext fun b => propext (hz2 b)
    show (Rs.own (t3 z) fun w => A9 w (t3 z) (.rows m.arrs) (D4 z)).holds _ _
    rw [hz1, e]
    exact ⟨fun _ _ h hs => h.same hs, ay7 o2, fun b hb => hb.2⟩
abbrev aq2 (p : k8) (q : k8) (m : D6) : List It := [dI p.vars, dI p.arrays, dT p.body, dI q.vars, dI q.arrays, dT q.body, dI m.vals, dR m.arrs, .row 3 (D.ints (J0 p q m).vals), .tree (D.rows (J0 p q m).arrs)]
abbrev aq1 : It := .box [.v (.slice none 0 0), .v (.slice none 0 0)]
abbrev S0 (p : k8) (q : k8) (m : D6) (r0 : List It) : List It := dI p.vars :: dI p.arrays :: dT p.body :: dI q.vars :: dI q.arrays :: dT q.body :: dI m.vals :: dR m.arrs :: r0
abbrev ag6 (r0 : List (Nat × AV)) : List (Nat × AV) := (4, .ptr 8 0) :: (5, .ptr 9 0) :: (6, .ptr 10 0) :: (7, bA false) :: r0
theorem ah7 (p q : k8) (m : D6) (hb : s5 p.body ≤ 1048576) (hq : s5 q.body ≤ 1048576) (hx : m.vals.length ≤ 1048576) (hr : m.arrs.length ≤ 1048576) (hi : ∀ l ∈ m.arrs, l.length ≤ 1048576) (hqv : q.vars.length ≤ 1048576) : t8.ok Try.prog ⟨49, [pA 0, pA 3, mA 6], pS p ++ pS q ++ mS m, pS p ++ pS q ++ mS m ++ mO (J0 p q m), .tup [mT 8, bA (X1 p q m)]⟩ := by
  refine N0 35 Try.func49 (S0 p q m []) [(0, pA 0), (1, pA 3), (2, .agg [.ref 6, .ref 7])] fun G => ?_; refine wp_seq (B8 G l6 [0, 1, 2, 3, 4, 5, 6, 7, 8, 16, 24, 32] (S0 p q m [.box (pL 0), .box (pL 3), .box [.ref 6, .ref 7], aq1]) [(3, .ptr 8 0), (4, .ptr 9 0), (5, .ptr 10 0), (6, .ptr 11 0), (7, bA false)] fun G => b5 (wp_seq (wp_seq ?_))); cases h0 : (!exB p q)
  ·
   have q0 : (exB p q) = true := (Eq.mp (bb1 _) h0); have hex := aJ0 (p := p) (q := q) (by with_reducible assumption); refine B8 G (D2 (t6 2 (rg 6) (an2 p q (by assumption) (by assumption)) (t6 7 [0, 1, 2, 6, 7] (aT7 p.vars p.arrays p.body m.vals m.arrs) D0)) (fc h0 fz) (us [(5, 8, 0), (1009, 1009, 0)])) [0, 1, 2, 3, 4, 5, 6, 7, 9, 10, 11] (S0 p q m [.box (pL 3), .box [.ref 6, .ref 7], aq1]) (ag6 [(18, .v (.bool !mfB p.vars.length p.arrays.length (D6.mk m.vals m.arrs)))]) fun G => b5 ?_; cases h1 : (!mfB p.vars.length p.arrays.length (D6.mk m.vals m.arrs))
   ·
    have q1 : (mfB p.vars.length p.arrays.length (D6.mk m.vals m.arrs)) = true := (Eq.mp (bb1 _) h1); have hfi := aS9 (m := m) (nv := p.vars.length) (na := p.arrays.length) (by with_reducible assumption); refine rF G _ h1 (wp_skip (b5 (wp_seq (B8 G (T4 1 [6, 7] (aT8 m.vals m.arrs (by assumption) (by assumption) (by assumption))) [0, 1, 2, 3, 4, 5, 6, 7, 8, 10, 19, 20, 27] (S0 p q m [.box (pL 3), aq1, .row 3 (D.ints m.vals), .tree (D.rows m.arrs), .box [.ref 10, .tref 11]]) [(4, .ptr 8 0), (6, .ptr 9 0), (7, bA false), (8, .ptr 12 0)] fun G => b5 (wp_seq (wp_block ?_)))))); replace G := G.as (S0 p q m [.box (pL 3), .box [.v (.slice none 0 0), .v (.slice none 0 0)], .row 3 (D.ints (m.vals ++ ba7 0 0)), .tree (D.rows m.arrs), .box [.ref 10, .tref 11]]) [(4, .ptr 8 0), (6, .ptr 9 0), (7, bA false), (8, .ptr 12 0)] (by have e1 : (m.vals ++ ba7 0 0 : List Int) = (m.vals) := (by simp [h0, q0, h1, q1]); (first | rw [e1] | simp only [e1]) <;> rfl) (by kernel_rfl); refine D5 (κ := Nat) (fun k => k ≤ q.vars.length - m.vals.length) (fun k => q.vars.length - m.vals.length - k) (fun k => [dI p.vars, dI p.arrays, dT p.body, dI q.vars, dI q.arrays, dT q.body, dI m.vals, dR m.arrs, .box (pL 3), .box [.v (.slice none 0 0), .v (.slice none 0 0)], .row 3 (.ints (m.vals ++ ba7 k 0)), .tree (D.rows m.arrs), .box [.ref 10, .tref 11]]) (fun k => [(4, .ptr 8 0), (6, .ptr 9 0), (7, bA false), (8, .ptr 12 0)]) 0 (by omega) (B2.at G _ _) ?_; clear G; intro k ρ a w hp G; replace G := B2.at G (S0 p q m [.box (pL 3), aq1, .row 3 (D.ints (m.vals ++ ba7 k 0)), .tree (D.rows m.arrs), .box [.ref 10, .tref 11]]) [(4, .ptr 8 0), (6, .ptr 9 0), (7, bA false), (8, .ptr 12 0)]
    have hal : (m.vals ++ ba7 k (0 : Int)).length = m.vals.length + k := by simp
    refine wp_seq (wp_seq (R2 G l6 [(4, .ptr 8 0), (6, .ptr 9 0), (7, bA false), (8, .ptr 12 0), (28, bA (decide (((m.vals ++ ba7 k 0).length : Int) < q.vars.length)))] fun G => b5 ?_)); cases h2 : (decide (((m.vals ++ ba7 k (0 : Int)).length : Int) < q.vars.length))
    ·
     have q2 := X3 h2
     obtain rfl : k = q.vars.length - m.vals.length := by omega
     refine rF G (decide (((m.vals ++ ba7 (q.vars.length - m.vals.length) (0 : Int)).length : Int) < q.vars.length)) (by assumption) (wp_exit (D3 (D3 (C9 (b5 (wp_seq (B8 G l6 [0, 1, 2, 3, 4, 5, 6, 7, 9, 10, 11] (S0 p q m [.box [.ref 9, .tref 10], .row 3 (D.ints (m.vals ++ ba7 (q.vars.length - m.vals.length) 0)), .tree (D.rows m.arrs)]) [(6, .ptr 8 0), (7, bA true)] fun G => b5 (wp_ret ?_)))))))); exact rxv (.tup [.agg [.ref 9, .tref 10], bA true]) G [0, 1, 2, 3, 4, 5, 6, 7, 9, 10] (by have e1 : (X1 p q m : Bool) = (true) := ((aY9 (by with_reducible assumption) (by with_reducible assumption)).2); (first | rw [e1] | simp only [e1]) <;> rfl) (by show _ = mR [0, 1, 2, 3, 4, 5, 6, 7, 9, 10] (aq2 p q m); unfold aq2; rw [(aY9 (by with_reducible assumption) (by with_reducible assumption)).1] <;> rfl)
    · have q2 := X2 h2; refine rT G _ h2 (wp_skip (b5 (wp_block (rA1 G l6 [0, 1, 2, 3, 4, 5, 6, 7, 8, 9, 11, 12, 37] (S0 p q m [.box (pL 3), aq1, .tree (D.rows m.arrs), .box [.ref 12, .tref 10], .row 3 (D.ints (m.vals ++ ba7 k 0 ++ ([0] ++ [])))]) [(4, .ptr 8 0), (6, .ptr 9 0), (7, bA false), (8, .ptr 11 0)] (aP ((m.vals ++ ba7 k (0 : Int)).length + ([(0 : Int)] ++ []).length) 8 []) (aK (by simp; omega) ba8) fun G => I9 (b5 ?_))))); exact rxn G (k + 1) (by omega) (by omega) [0, 1, 2, 3, 4, 5, 6, 7, 8, 9, 12, 10, 11] (by have e1 : (m.vals ++ ba7 (k + 1) 0 : List Int) = (m.vals ++ ba7 k 0 ++ ([0] ++ [])) := (aJ7 _ _); (first | rw [e1] | simp only [e1]) <;> rfl)
   · have q1 : (mfB p.vars.length p.arrays.length (D6.mk m.vals m.arrs)) = false := (Eq.mp (bb0 _) h1); refine rT G _ h1 (wp_seq (R2 G l6 (ag6 []) fun G => b5 (wp_ret (l9 ?_)))); obtain ⟨ρ, G⟩ := G.nil 11 3 (.ints []) 1 (S0 p q m [.box (pL 3), .box [.ref 6, .ref 7], .box [.ref 11, .v (.slice none 0 0)]]) (ag6 []); obtain ⟨ρ, G⟩ := G.nilT 12 (.rows []) (S0 p q m [.box (pL 3), .box [.ref 6, .ref 7], .box [.ref 11, .tref 12], .row 3 (D.ints [])]) (ag6 []); exact rxv (.tup [.agg [.ref 11, .tref 12], bA false]) G [0, 1, 2, 3, 4, 5, 6, 7, 11, 12] (by have e1 : (X1 p q m : Bool) = (false) := ((aJ1 (by with_reducible assumption)).2); (first | rw [e1] | simp only [e1]) <;> rfl) (by show _ = mR [0, 1, 2, 3, 4, 5, 6, 7, 11, 12] (aq2 p q m); unfold aq2; rw [(aJ1 (by with_reducible assumption)).1] <;> rfl)
  · have q0 : (exB p q) = false := (Eq.mp (bb0 _) h0); refine B8 G (D2 (t6 2 (rg 6) (an2 p q (by assumption) (by assumption)) D0) (fc h0 fz) (us [(5, 8, 0), (1009, 1009, 0)])) [0, 1, 2, 3, 4, 5, 6, 7, 9, 10, 11] (S0 p q m [.box (pL 3), .box [.ref 6, .ref 7], aq1]) (ag6 [(18, bA true)]) fun G => b5 (rT G true (by kernel_rfl) (wp_seq (R2 G l6 (ag6 []) fun G => b5 (wp_ret (l9 ?_))))); obtain ⟨ρ, G⟩ := G.nil 11 3 (.ints []) 1 (S0 p q m [.box (pL 3), .box [.ref 6, .ref 7], .box [.ref 11, .v (.slice none 0 0)]]) (ag6 []); obtain ⟨ρ, G⟩ := G.nilT 12 (.rows []) (S0 p q m [.box (pL 3), .box [.ref 6, .ref 7], .box [.ref 11, .tref 12], .row 3 (D.ints [])]) (ag6 []); exact rxv (.tup [.agg [.ref 11, .tref 12], bA false]) G [0, 1, 2, 3, 4, 5, 6, 7, 11, 12] (by have e1 : (X1 p q m : Bool) = (false) := ((aJ2 (by with_reducible assumption)).2); (first | rw [e1] | simp only [e1]) <;> rfl) (by show _ = mR [0, 1, 2, 3, 4, 5, 6, 7, 11, 12] (aq2 p q m); unfold aq2; rw [(aJ2 (by with_reducible assumption)).1] <;> rfl)
abbrev aq0 (p : k8) (q : k8) (m : D6) : List It := [dI p.vars, dI p.arrays, dT p.body, dI q.vars, dI q.arrays, dT q.body, dI m.vals, dR m.arrs, .row 3 (D.ints (J0 p q m).vals), .tree (D.rows (J0 p q m).arrs)]
abbrev ap9 : It := .box [.v (.slice none 0 0), .v (.slice none 0 0)]
abbrev R9 (p : k8) (q : k8) (m : D6) (r0 : List It) : List It := dI p.vars :: dI p.arrays :: dT p.body :: dI q.vars :: dI q.arrays :: dT q.body :: dI m.vals :: dR m.arrs :: r0
abbrev ag5 (r0 : List (Nat × AV)) : List (Nat × AV) := (4, .ptr 8 0) :: (5, .ptr 9 0) :: (6, .ptr 10 0) :: (7, bA false) :: r0
theorem ah8 (p q : k8) (m : D6) (hx : m.vals.length ≤ 1048576) (hr : m.arrs.length ≤ 1048576) (hi : ∀ l ∈ m.arrs, l.length ≤ 1048576) (hqv : q.vars.length ≤ 1048576) : t8.ok Try.prog ⟨50, [pA 0, pA 3, mA 6], pS p ++ pS q ++ mS m, pS p ++ pS q ++ mS m ++ mO (J0 p q m), .tup [mT 8, bA (X1 p q m)]⟩ := by
  have how := a42 m (by omega) (by omega) hi; refine N0 38 Try.func50 (R9 p q m []) [(0, pA 0), (1, pA 3), (2, .agg [.ref 6, .ref 7])] fun G => ?_; refine wp_seq (B8 G l6 [0, 1, 2, 3, 4, 5, 6, 7, 8, 16, 24, 32] (R9 p q m [.box (pL 0), .box (pL 3), .box [.ref 6, .ref 7], ap9]) [(3, .ptr 8 0), (4, .ptr 9 0), (5, .ptr 10 0), (6, .ptr 11 0), (7, bA false)] fun G => b5 (wp_seq (wp_seq ?_))); cases h0 : (!exB p q)
  ·
   have q0 : (exB p q) = true := (Eq.mp (bb1 _) h0); have hex := aJ0 (p := p) (q := q) (by with_reducible assumption); refine B8 G (D2 (t6 2 (rg 6) (an8 p q) (t6 10 [0, 1, 6, 7] (aG3 p.vars p.arrays m.vals m.arrs) D0)) (fc h0 fz) (us [(5, 11, 0), (1012, 1012, 0)])) [0, 1, 2, 3, 4, 5, 6, 7, 9, 10, 11] (R9 p q m [.box (pL 3), .box [.ref 6, .ref 7], ap9]) (ag5 [(21, .v (.bool !mfB p.vars.length p.arrays.length (D6.mk m.vals m.arrs)))]) fun G => b5 ?_; cases h1 : (!mfB p.vars.length p.arrays.length (D6.mk m.vals m.arrs))
   ·
    have q1 : (mfB p.vars.length p.arrays.length (D6.mk m.vals m.arrs)) = true := (Eq.mp (bb1 _) h1); have hfi := aS9 (m := m) (nv := p.vars.length) (na := p.arrays.length) (by with_reducible assumption); refine rF G _ h1 (wp_skip (b5 (wp_seq (B8 G (T4 1 [6, 7] how) [0, 1, 2, 3, 4, 5, 6, 7, 8, 10, 19, 20, 27] (R9 p q m [.box (pL 3), ap9, .row 3 (D.ints m.vals), .tree (D.rows m.arrs), .box [.ref 10, .tref 11]]) [(4, .ptr 8 0), (6, .ptr 9 0), (7, bA false), (8, .ptr 12 0)] fun G => b5 (wp_seq (wp_block ?_)))))); replace G := G.as (R9 p q m [.box (pL 3), .box [.v (.slice none 0 0), .v (.slice none 0 0)], .row 3 (D.ints (m.vals ++ ba7 0 0)), .tree (D.rows m.arrs), .box [.ref 10, .tref 11]]) [(4, .ptr 8 0), (6, .ptr 9 0), (7, bA false), (8, .ptr 12 0)] (by have e1 : (m.vals ++ ba7 0 0 : List Int) = (m.vals) := (by simp [h0, q0, h1, q1]); (first | rw [e1] | simp only [e1]) <;> rfl) (by kernel_rfl); refine D5 (κ := Nat) (fun k => k ≤ q.vars.length - m.vals.length) (fun k => q.vars.length - m.vals.length - k) (fun k => [dI p.vars, dI p.arrays, dT p.body, dI q.vars, dI q.arrays, dT q.body, dI m.vals, dR m.arrs, .box (pL 3), .box [.v (.slice none 0 0), .v (.slice none 0 0)], .row 3 (.ints (m.vals ++ ba7 k 0)), .tree (D.rows m.arrs), .box [.ref 10, .tref 11]]) (fun k => [(4, .ptr 8 0), (6, .ptr 9 0), (7, bA false), (8, .ptr 12 0)]) 0 (by omega) (B2.at G _ _) ?_; clear G; intro k ρ a w hp G; replace G := B2.at G (R9 p q m [.box (pL 3), ap9, .row 3 (D.ints (m.vals ++ ba7 k 0)), .tree (D.rows m.arrs), .box [.ref 10, .tref 11]]) [(4, .ptr 8 0), (6, .ptr 9 0), (7, bA false), (8, .ptr 12 0)]
    have hal : (m.vals ++ ba7 k (0 : Int)).length = m.vals.length + k := by simp
    refine wp_seq (wp_seq (R2 G l6 [(4, .ptr 8 0), (6, .ptr 9 0), (7, bA false), (8, .ptr 12 0), (31, bA (decide (((m.vals ++ ba7 k 0).length : Int) < q.vars.length)))] fun G => b5 ?_)); cases h2 : (decide (((m.vals ++ ba7 k (0 : Int)).length : Int) < q.vars.length))
    ·
     have q2 := X3 h2
     obtain rfl : k = q.vars.length - m.vals.length := by omega
     refine rF G (decide (((m.vals ++ ba7 (q.vars.length - m.vals.length) (0 : Int)).length : Int) < q.vars.length)) (by assumption) (wp_exit (D3 (D3 (C9 (b5 (wp_seq (B8 G l6 [0, 1, 2, 3, 4, 5, 6, 7, 9, 10, 11] (R9 p q m [.box [.ref 9, .tref 10], .row 3 (D.ints (m.vals ++ ba7 (q.vars.length - m.vals.length) 0)), .tree (D.rows m.arrs)]) [(6, .ptr 8 0), (7, bA true)] fun G => b5 (wp_ret ?_)))))))); exact rxv (.tup [.agg [.ref 9, .tref 10], bA true]) G [0, 1, 2, 3, 4, 5, 6, 7, 9, 10] (by have e1 : (X1 p q m : Bool) = (true) := ((aY9 (by with_reducible assumption) (by with_reducible assumption)).2); (first | rw [e1] | simp only [e1]) <;> rfl) (by show _ = mR [0, 1, 2, 3, 4, 5, 6, 7, 9, 10] (aq0 p q m); unfold aq0; rw [(aY9 (by with_reducible assumption) (by with_reducible assumption)).1] <;> rfl)
    · have q2 := X2 h2; refine rT G _ h2 (wp_skip (b5 (wp_block (rA1 G l6 [0, 1, 2, 3, 4, 5, 6, 7, 8, 9, 11, 12, 37] (R9 p q m [.box (pL 3), ap9, .tree (D.rows m.arrs), .box [.ref 12, .tref 10], .row 3 (D.ints (m.vals ++ ba7 k 0 ++ ([0] ++ [])))]) [(4, .ptr 8 0), (6, .ptr 9 0), (7, bA false), (8, .ptr 11 0)] (aP ((m.vals ++ ba7 k (0 : Int)).length + ([(0 : Int)] ++ []).length) 8 []) (aK (by simp; omega) ba8) fun G => I9 (b5 ?_))))); exact rxn G (k + 1) (by omega) (by omega) [0, 1, 2, 3, 4, 5, 6, 7, 8, 9, 12, 10, 11] (by have e1 : (m.vals ++ ba7 (k + 1) 0 : List Int) = (m.vals ++ ba7 k 0 ++ ([0] ++ [])) := (aJ7 _ _); (first | rw [e1] | simp only [e1]) <;> rfl)
   · have q1 : (mfB p.vars.length p.arrays.length (D6.mk m.vals m.arrs)) = false := (Eq.mp (bb0 _) h1); refine rT G _ h1 (wp_seq (R2 G l6 (ag5 []) fun G => b5 (wp_ret (l9 ?_)))); obtain ⟨ρ, G⟩ := G.nil 11 3 (.ints []) 1 (R9 p q m [.box (pL 3), .box [.ref 6, .ref 7], .box [.ref 11, .v (.slice none 0 0)]]) (ag5 []); obtain ⟨ρ, G⟩ := G.nilT 12 (.rows []) (R9 p q m [.box (pL 3), .box [.ref 6, .ref 7], .box [.ref 11, .tref 12], .row 3 (D.ints [])]) (ag5 []); exact rxv (.tup [.agg [.ref 11, .tref 12], bA false]) G [0, 1, 2, 3, 4, 5, 6, 7, 11, 12] (by have e1 : (X1 p q m : Bool) = (false) := ((aJ1 (by with_reducible assumption)).2); (first | rw [e1] | simp only [e1]) <;> rfl) (by show _ = mR [0, 1, 2, 3, 4, 5, 6, 7, 11, 12] (aq0 p q m); unfold aq0; rw [(aJ1 (by with_reducible assumption)).1] <;> rfl)
  · have q0 : (exB p q) = false := (Eq.mp (bb0 _) h0); refine B8 G (D2 (t6 2 (rg 6) (an8 p q) D0) (fc h0 fz) (us [(5, 11, 0), (1012, 1012, 0)])) [0, 1, 2, 3, 4, 5, 6, 7, 9, 10, 11] (R9 p q m [.box (pL 3), .box [.ref 6, .ref 7], ap9]) (ag5 [(21, bA true)]) fun G => b5 (rT G true (by kernel_rfl) (wp_seq (R2 G l6 (ag5 []) fun G => b5 (wp_ret (l9 ?_))))); obtain ⟨ρ, G⟩ := G.nil 11 3 (.ints []) 1 (R9 p q m [.box (pL 3), .box [.ref 6, .ref 7], .box [.ref 11, .v (.slice none 0 0)]]) (ag5 []); obtain ⟨ρ, G⟩ := G.nilT 12 (.rows []) (R9 p q m [.box (pL 3), .box [.ref 6, .ref 7], .box [.ref 11, .tref 12], .row 3 (D.ints [])]) (ag5 []); exact rxv (.tup [.agg [.ref 11, .tref 12], bA false]) G [0, 1, 2, 3, 4, 5, 6, 7, 11, 12] (by have e1 : (X1 p q m : Bool) = (false) := ((aJ2 (by with_reducible assumption)).2); (first | rw [e1] | simp only [e1]) <;> rfl) (by show _ = mR [0, 1, 2, 3, 4, 5, 6, 7, 11, 12] (aq0 p q m); unfold aq0; rw [(aJ2 (by with_reducible assumption)).1] <;> rfl)
def P2 (x : Int) (n : Nat) : List Int := (bb2 n).map fun (i : Nat) => x + (i : Int)
theorem au2 (x : Int) (n : Nat) : (P2 x n).length = n := by simp [P2]
theorem a35 {x : Int} {n j : Nat} (h : j < n) : (P2 x n).getD j 0 = x + (j : Int) := by simp [P2, ba6, h]
theorem aR3 (x : Int) (n : Nat) : P2 x (n + 1) = P2 x n ++ [x + (n : Int)] := by unfold P2; rw [List.range_succ, List.map_append]; rfl
theorem a34 {α : Type} {l m : List α} {j : Nat} {y : α} (hl : l.length = j) (hj : j < m.length) : (l ++ m.drop j).set j y = (l ++ [y]) ++ m.drop (j + 1) := by
 rw [List.set_append_right _ _ (by omega), hl, Nat.sub_self, List.drop_eq_getElem_cons hj, List.set_cons_zero, List.append_assoc]
 rfl
theorem aY1 {l : List Int} {x : Int} {j : Nat} (hj : (j : Int) < l.length) : (P2 x j ++ l.drop j).set j (x + (j : Int)) = P2 x (j + 1) ++ l.drop (j + 1) := by
 rw [a34 (au2 x j) (by omega), aR3]
theorem aY3 {l : List Int} {x : Int} {j : Nat} (hj : l.length ≤ j) (h2 : j ≤ l.length) : P2 x j ++ l.drop j = P2 x l.length := by
 rw [List.drop_eq_nil_of_le hj, List.append_nil, Nat.le_antisymm h2 hj]
theorem aR5 {l : List Int} {x : Int} {j : Nat} (hj : l.length ≤ j) (h2 : j ≤ l.length) : P2 x l.length = P2 x j ++ l.drop j := (aY3 hj h2).symm
theorem aY2 {l : List Int} {x : Int} {j : Nat} (h2 : j ≤ l.length) : (P2 x j ++ l.drop j).length = l.length := by simp [au2]; omega
theorem aA9 (xs : List Int) : t8.ok Try.prog (O2 119 [.ref 0, .ref 1] [dI xs, dI xs] (bA true)) := by
 refine N0 26 Try.func119 [dI xs, dI xs] [(0, .ref 0), (1, .ref 1)] fun G => ?_; have hl : xs.length ≤ 9223372036854775807 := G.len 0 (d := .ints xs) (by kernel_rfl); refine wp_seq (R2 G l6 [(0, .ref 0), (1, .ref 1), (4, bA false)] fun G => b5 (wp_seq (wp_seq (m7 G l6 [(10, bA ((xs.length : Int) != (xs.length : Int)))] fun G => b5 (rF G ((xs.length : Int) != (xs.length : Int)) (by simp) (wp_skip (b5 (wp_seq (wp_seq (R2 G l6 [(0, .ref 0), (1, .ref 1), (4, bA false), (5, iA 0)] fun G => b5 (wp_block ?_))))))))))); refine D5 (κ := Nat) (fun k => k ≤ xs.length) (fun k => xs.length - k) (fun k => [dI xs, dI xs]) (fun k => [(0, .ref 0), (1, .ref 1), (4, bA false), (5, iA k)]) 0 (by omega) (B2.at G _ _) ?_; clear G; intro k ρ a w hp G; refine wp_seq (wp_seq (m7 G l6 [(14, bA (decide ((k : Int) < xs.length)))] fun G => b5 (rcD G (fun h0 q0 => ?_) fun h0 q0 => ?_)))
 ·refine wp_exit (D3 (D3 (C9 (b5 (wp_seq (m7 G l6 [(4, bA true)] fun G => b5 (wp_ret ?_))))))); exact rxr G [0, 1]
 ·refine wp_skip (b5 (wp_seq (wp_block (wp_seq (ax5 G l6 [0, 0, 3, 7, 0, 0, 48, 112, 255] [(25, bA (xs.getD k 0 != xs.getD k 0))] (iX k k xs.length (iX k k xs.length [])) (iK (by omega) (iK (by omega) ba8)) fun G => b5 (rF G (xs.getD k (0 : Int) != xs.getD k (0 : Int)) (by simp [h0]) (wp_skip (I9 (b5 (O0 G l6 [(5, iA ((k : Int) + 1))] [wO ((k : Int) + 1)] (o1 (by omega)) fun G => b5 ?_)))))))))); exact rxn G (k + 1) (by omega) (by omega) [0, 1]
theorem aR4 {l : List Int} {x y : Int} {j : Nat} (hy : y = x + (j : Int)) (hj : (j : Int) < l.length) : P2 x (j + 1) ++ l.drop (j + 1) = (P2 x j ++ l.drop j).set j y := by rw [hy, aY1 hj]
theorem an3 (l : List Int) (x : Int) (r0 : 0 ≤ x) (r1 : x + l.length ≤ 9000000000000000000) : t8.ok Try.prog ⟨122, [.ref 0, iA x], [.row 3 (.ints l)], [.row 3 (.ints (P2 x l.length))], iA (x + l.length)⟩ := by
 refine N0 19 Try.func122 [.row 3 (D.ints l)] [(0, .ref 0), (1, iA x)] fun G => ?_; refine wp_seq (m7 G l6 [(4, iA 0)] fun G => b5 (wp_seq (wp_seq (R2 G l6 [(0, .ref 0), (1, iA x), (4, iA 0), (5, iA 0)] fun G => b5 (wp_block ?_))))); refine D5 (κ := Nat × Int) (fun k => k.2 = x + (k.1 : Int) ∧ k.1 ≤ l.length) (fun k => l.length - k.1) (fun k => [.row 3 (.ints (P2 x k.1 ++ l.drop k.1))]) (fun k => [(0, .ref 0), (1, iA k.2), (4, iA 0), (5, iA k.1)]) ((0, x)) (by omega) (B2.at G _ _) ?_; clear G; intro k ρ a w hp G; replace G := B2.at G [.row 3 (D.ints (P2 x k.fst ++ List.drop k.fst l))] [(0, .ref 0), (1, iA k.snd), (4, iA 0), (5, iA (k.fst : Int))]; have hrl := aY2 (l := l) (x := x) hp.2; refine wp_seq (wp_seq (m7 G l6 [(9, bA (decide ((k.fst : Int) < ((P2 x k.fst ++ List.drop k.fst l).length : Int))))] fun G => b5 (rcD G (fun h0 q0 => ?_) fun h0 q0 => ?_)))
 ·refine wp_exit (D3 (D3 (C9 (b5 (wp_seq (m7 G l6 [(4, iA k.snd)] fun G => b5 (wp_ret ?_))))))); exact Z4 k.snd G [0] (by omega) (by show _ = mR [0] [.row 3 (D.ints (P2 x l.length))]; have e1 : (P2 x l.length : List Int) = (P2 x k.fst ++ List.drop k.fst l) := (by have h2 := hp.2; exact aR5 (by omega) (by omega)); (first | rw [e1] | simp only [e1]) <;> rfl)
 ·refine wp_skip (b5 (wp_seq (wp_block (wp_seq (rA1 G l6 [0] [.row 3 (D.ints ((P2 x k.fst ++ List.drop k.fst l).set k.fst k.snd))] [(0, .ref 0), (1, iA k.snd), (4, iA 0), (5, iA (k.fst : Int))] (iX k.fst k.fst ((P2 x k.fst ++ List.drop k.fst l).length) []) (iK (by omega) ba8) fun G => b5 (O0 G l6 [(1, iA (k.snd + 1))] [wO (k.snd + 1)] (o1 (by omega)) fun G => I9 (b5 (O0 G l6 [(5, iA ((k.fst : Int) + 1))] [wO ((k.fst : Int) + 1)] (o1 (by omega)) fun G => b5 ?_)))))))); exact rxn G ((k.1 + 1, k.2 + 1)) (by omega) (by omega) [0] (by have e1 : (P2 x (k.fst + 1) ++ List.drop (k.fst + 1) l : List Int) = ((P2 x k.fst ++ List.drop k.fst l).set k.fst k.snd) := (aR4 hp.1 (by omega)); (first | rw [e1] | simp only [e1]) <;> rfl)
theorem an9 (n : Nat) (x : Int) (r0 : 0 ≤ x) (r1 : x + n ≤ 9000000000000000000) : t8.ok Try.prog (O2 125 [.ref 0, iA x] [dI (P2 x n)] (iA (x + n))) := by
  refine N0 21 Try.func125 [dI (P2 x n)] [(0, .ref 0), (1, iA x)] fun G => ?_; have hnl := au2 x n; refine wp_seq (m7 G l6 [(4, iA 0)] fun G => b5 (wp_seq (wp_seq (R2 G l6 [(0, .ref 0), (1, iA x), (4, iA 0), (5, iA 0)] fun G => b5 (wp_block ?_))))); refine D5 (κ := Nat × Int) (fun k => k.2 = x + (k.1 : Int) ∧ k.1 ≤ n) (fun k => n - k.1) (fun k => [dI (P2 x n)]) (fun k => [(0, .ref 0), (1, iA k.2), (4, iA 0), (5, iA k.1)]) ((0, x)) (by omega) (B2.at G _ _) ?_; clear G; intro k ρ a w hp G; replace G := B2.at G [dI (P2 x n)] [(0, .ref 0), (1, iA k.snd), (4, iA 0), (5, iA (k.fst : Int))]; refine wp_seq (wp_seq (m7 G l6 [(9, bA (decide ((k.fst : Int) < ((P2 x n).length : Int))))] fun G => b5 (rcD G (fun h0 q0 => ?_) fun h0 q0 => ?_)))
  · refine wp_exit (D3 (D3 (C9 (b5 (wp_seq (m7 G l6 [(4, iA k.snd)] fun G => b5 (wp_ret ?_))))))); exact Z4 k.snd G [0] (by omega)
  ·
   refine wp_skip (b5 (wp_seq (wp_block (wp_seq (wp_seq (rB1 G l6 [(0, .ref 0), (1, iA k.snd), (4, iA 0), (5, iA (k.fst : Int)), (17, bA ((P2 x n).getD k.fst 0 != k.snd))] (iX k.fst k.fst ((P2 x n).length) []) (iK (by omega) ba8) fun G => b5 ?_)))))); cases h1 : ((P2 x n).getD k.fst (0 : Int) != k.snd)
   · have q1 := bne_eq_false_iff_eq.1 h1; refine rF G _ h1 (wp_skip (b5 (O0 G l6 [(1, iA (k.snd + 1))] [wO (k.snd + 1)] (o1 (by omega)) fun G => I9 (b5 (O0 G l6 [(5, iA ((k.fst : Int) + 1))] [wO ((k.fst : Int) + 1)] (o1 (by omega)) fun G => b5 ?_))))); exact rxn G ((k.1 + 1, k.2 + 1)) (by omega) (by omega) [0]
   · have q1 := bne_iff_ne.1 h1; exact False.elim (by have h1 := hp.1; have h2 := a35 (x := x) (n := n) (j := k.1) (by omega); omega)
def K2 (m : List (List Int)) : Nat := (m.map List.length).sum
theorem S9 {m : List (List Int)} {k : Nat} (h : k < m.length) : K2 (m.take (k + 1)) = K2 (m.take k) + (m.getD k []).length := by
 unfold K2
 rw [m9 _ _ h, List.map_append, List.sum_append, v5 h]
 simp only [bc1, List.map_nil, List.sum_cons, List.sum_nil, bc7]
theorem aD2 (m : List (List Int)) (k : Nat) : K2 (m.take k) ≤ K2 m := by
 have := congrArg K2 (List.take_append_drop k m)
 simp only [K2, List.map_append, List.sum_append] at this ⊢
 omega
theorem aW3 {m : List (List Int)} {k : Nat} (h : k < m.length) : (m.getD k []).length ≤ K2 m := by
 have h1 := S9 h
 have h2 := aD2 m (k + 1)
 omega
theorem at3 {m : List (List Int)} {k : Nat} (h : m.length ≤ k) : K2 (m.take k) = K2 m := by rw [ba5 h]
def mkR : Int → List (List Int) → List (List Int)
 | _, [] => []
 | x, r :: m => P2 x r.length :: mkR (x + r.length) m
theorem Y1 : ∀ (x : Int) (m : List (List Int)), (mkR x m).length = m.length
 | _, [] => rfl
 | x, r :: m => by simp [mkR, Y1]
theorem aE7 : ∀ (x : Int) (m : List (List Int)) (k : Nat), k < m.length → (mkR x m).getD k [] = P2 (x + K2 (m.take k)) (m.getD k []).length
 | _, [], k, h => by simp at h
 | x, r :: m, 0, _ => by simp [mkR, K2]
 | x, r :: m, k + 1, h => by
  have := aE7 (x + r.length) m k (by simpa using h)
  simp only [mkR, List.getD_cons_succ, List.take_succ_cons]
  rw [this]
  simp [K2, Int.add_assoc]
def Z5 (x : Int) (m : List (List Int)) (k : Nat) : List (List Int) := (mkR x m).take k ++ m.drop k
theorem aX6 (x : Int) (m : List (List Int)) (k : Nat) : (Z5 x m k).length = m.length := by
 unfold Z5
 rw [List.length_append, List.length_take, List.length_drop, Y1]
 omega
theorem aX7 {x : Int} {m : List (List Int)} {k : Nat} (h : m.length ≤ k) : Z5 x m k = mkR x m := by
 unfold Z5
 rw [ba5 (by rw [Y1]; exact h), List.drop_eq_nil_of_le h, List.append_nil]
theorem aE6 {x : Int} {m : List (List Int)} {k : Nat} (h : k < m.length) : (Z5 x m k).getD k [] = m.getD k [] := by
 unfold Z5
 rw [ba6, bc5 (by rw [List.length_take]; omega), List.length_take, Y1, Nat.min_eq_left (by omega), Nat.sub_self, List.getElem?_drop, bc7, ← ba6]
theorem aQ8 {x : Int} {m : List (List Int)} {k : Nat} (h : k < m.length) : Z5 x m (k + 1) = (Z5 x m k).set k (P2 (x + K2 (m.take k)) (m.getD k []).length) := by
 have hk : k < (mkR x m).length := by rw [Y1]; exact h
 have hl : ((mkR x m).take k).length = k := by rw [List.length_take]; omega
 have hat := aE7 x m k h
 rw [v5 hk] at hat
 unfold Z5
 rw [List.set_append_right _ _ (by omega), hl, Nat.sub_self, List.drop_eq_getElem_cons h, List.set_cons_zero, m9 _ _ hk, hat]
 simp
theorem aQ4 {ι : Type} {φ ψ : Nat → Prop} {w0 w w' : World} {F : ι → Rs} {ρ : Nat → Value} {d0 d : D} {u : Value} {T : Nat → Prop} (M : l8 φ ψ w0 w (p7 F ρ (t7 [.dat d0]))) (hbl : Below w.heap.size w w') (hT : A9 w' T d u) (hg : ∀ b, T b → w.heap.size ≤ b) :
  ∃ ρ', (∀ i, i < [It.dat d0].length → ρ' i = ρ i) ∧ Ending.returned u = .returned ((AV.tref 1).val ρ') ∧ l8 φ ψ w0 w' (p7 F ρ' (t7 [.dat d0, .tree d])) := by
 obtain ⟨z, hz1, hz2⟩ := P5 u (fun b => T b ∧ b < w'.heap.size) w'.heap.size fun b h => h.2
 refine ⟨fun i => if i = 1 then z else ρ i, fun i hi => if_neg (show ¬ i = 1 by have : i < 1 := hi; omega), by simp [AV.val, hz1], ?_⟩
 refine M.grow hbl (fun k => k = .inr 1) (fun k hk => ?_) ?_ ?_ ?_
 ·cases k with
  | inl i => rfl
  | inr j =>
   match j, hk with
   | 0, _ => rfl
   | 1, h => exact absurd rfl h
   | j + 2, _ => rfl
 ·rintro k rfl b hb; exact hg b ((hz2 b).1 hb).1
 ·rintro j k b hjk rfl rfl; exact absurd rfl hjk
 ·rintro k rfl
  have e : t3 z = fun b => T b ∧ b < w'.heap.size := funext fun b => propext (hz2 b)
  show (Rs.own (t3 z) fun w => A9 w (t3 z) d (D4 z)).holds _ _
  rw [hz1, e]
  exact ⟨fun _ _ h hs => h.same hs, hT.cut, fun b hb => hb.2⟩
theorem aQ5 {ι : Type} {φ ψ : Nat → Prop} {w0 w w' : World} {F : ι → Rs} {ρ : Nat → Value} {d0 : D} {u : Value} {l : List Int} {hi : Nat} (M : l8 φ ψ w0 w (p7 F ρ (t7 [.dat d0]))) (hbl : Below w.heap.size w w') (ho : E9 w' w.heap.size hi 3 1 u l.length (ints l)) :
  ∃ ρ', (∀ i, i < [It.dat d0].length → ρ' i = ρ i) ∧ Ending.returned u = .returned ((AV.ref 1).val ρ') ∧ l8 φ ψ w0 w' (p7 F ρ' (t7 [.dat d0, .row 3 (.ints l)])) := by
 refine ⟨fun i => if i = 1 then u else ρ i, fun i hi => if_neg (show ¬ i = 1 by have : i < 1 := hi; omega), by simp [AV.val], ?_⟩
 refine M.grow hbl (fun k => k = .inr 1) (fun k hk => ?_) ?_ ?_ ?_
 ·cases k with
  | inl i => rfl
  | inr j =>
   match j, hk with
   | 0, _ => rfl
   | 1, h => exact absurd rfl h
   | j + 2, _ => rfl
 ·rintro k rfl b hb; exact (World.ownsRow.lt ho.1 b hb).1
 ·rintro j k b hjk rfl rfl; exact absurd rfl hjk
 ·rintro k rfl; exact O6 (C0 ho.1 (bb4 _))
theorem aN8 (l : List Int) (hb : l.length ≤ 1048576) : t8.ok Try.prog ⟨113, [.ref 0], [dI l], [dI l, .row 3 (.ints l)], .ref 1⟩ := by
 intro ι φ ψ w0 w F ρ M
 have hr := M.datAt (id := 0) (d := .ints l) rfl
 refine (T7 (ρ 0) l w (A7.row hr) (by omega)).mono ?_
 rintro e w' ⟨u, rfl, ho, hbl⟩
 exact aQ5 M hbl ho
theorem aK2 (m : List (List Int)) (hb : m.length + K2 m ≤ 1048576) : t8.ok Try.prog ⟨115, [.ref 0], [dR m], [dR m, .tree (.rows m)], .tref 1⟩ := by
 intro ι φ ψ w0 w F ρ M
 have hr := M.datAt (id := 0) (d := .rows m) rfl
 refine (aw2 (ρ 0) m w (aH5 hr) hb).mono ?_
 rintro e w' ⟨u, rfl, ho, hbl⟩
 exact aQ4 M hbl (ay7 ho) fun b h => h.1
theorem aA3 (l : List Int) (q : Int) (h0 : 0 ≤ q) (h1 : q ≤ 1048576) : t8.ok Try.prog (O2 108 [.ref 0, iA q] [dI l] (iA (m5 q l.length))) :=
 W4 fun φ w ρ h => (aa5 (ρ 0) l.length (ints l) q w (A7.row (h 0 (.ints l) rfl)) h0 h1).mono fun e w' ⟨h1, h2⟩ => ⟨h1, h2 ▸ Below.refl _ _⟩
theorem a17 {q : Int} {n : Nat} (h : m5 q n < 0) (h0 : 0 ≤ q) : q < n := by
 rcases Int.lt_or_le q n with h1 | h1
 ·exact h1
 ·rw [t9 (by omega)] at h; omega
theorem aN9 {q : Int} {n : Nat} (h : ¬ m5 q n < 0) : ¬ q < n ∧ m5 q n = q - n := by
 by_cases h1 : q < n
 ·rw [p8 h1] at h; omega
 ·exact ⟨h1, t9 h1⟩
theorem aL8 (m : List (List Int)) (q : Int) (r0 : 0 ≤ q) (r1 : q ≤ 1048576) : t8.ok Try.prog (O2 110 [.ref 0, iA q] [dR m] (iA (m5 q (m.length + K2 m)))) := by
  refine N0 27 Try.func110 [dR m] [(0, .ref 0), (1, iA q)] fun G => ?_; have hl : m.length ≤ 9223372036854775807 := G.len 0 (d := .rows m) (by kernel_rfl); refine wp_seq (R2 G l6 [(0, .ref 0), (1, iA q), (4, iA 0)] fun G => b5 (wp_seq (O0 G l6 [(1, iA (q - (m.length : Int)))] [wO (q - (m.length : Int))] (o1 (by omega)) fun G => b5 (wp_seq (wp_seq (m7 G l6 [(11, bA (decide (q - (m.length : Int) < 0)))] fun G => b5 (rcD G (fun h0 q0 => ?_) fun h0 q0 => ?_)))))))
  ·
   refine wp_skip (b5 (wp_seq (wp_seq (R2 G l6 [(0, .ref 0), (1, iA (q - (m.length : Int))), (4, iA 0), (5, iA 0)] fun G => b5 (wp_block ?_))))); refine D5 (κ := Nat × Int) (fun k => k.2 = q - m.length - K2 (m.take k.1) ∧ k.1 ≤ m.length ∧ 0 ≤ k.2) (fun k => m.length - k.1) (fun k => [dR m]) (fun k => [(0, .ref 0), (1, iA k.2), (4, iA 0), (5, iA k.1)]) ((0, q - m.length)) (⟨by simp [K2], bb4 _, by omega⟩) (B2.at G _ _) ?_; clear G; intro k ρ a w hp G; replace G := B2.at G [dR m] [(0, .ref 0), (1, iA k.snd), (4, iA 0), (5, iA (k.fst : Int))]; refine wp_seq (wp_seq (m7 G l6 [(15, bA (decide ((k.fst : Int) < m.length)))] fun G => b5 (rcD G (fun h1 q1 => ?_) fun h1 q1 => ?_)))
   · refine wp_exit (D3 (D3 (C9 (b5 (wp_seq (m7 G l6 [(4, iA k.snd)] fun G => b5 (wp_ret ?_))))))); exact Z4 k.snd G [0] (by have h9 := at3 (m := m) (k := k.1) (by omega); have h8 := hp.1; have h7 := hp.2.2; rw [t9 (by omega)]; omega)
   ·
    refine wp_skip (b5 (wp_seq (wp_block (wp_seq (O0 G (T4 5 [25] (aA3 (m.getD k.fst []) k.snd (by omega) (by omega))) [(1, iA (m5 k.snd (m.getD k.fst []).length))] (iX k.fst k.fst m.length []) (iK (by omega) ba8) fun G => b5 (wp_seq (m7 G l6 [(25, bA (decide (m5 k.snd (m.getD k.fst []).length < 0)))] fun G => b5 (rcD G (fun h2 q2 => ?_) fun h2 q2 => ?_))))))))
    · refine wp_skip (I9 (b5 (O0 G l6 [(5, iA ((k.fst : Int) + 1))] [wO ((k.fst : Int) + 1)] (o1 (by omega)) fun G => b5 ?_))); exact rxn G ((k.1 + 1, k.2 - ((m.getD k.1 []).length : Int))) (by have h9 := aN9 (q := k.2) (n := (m.getD k.1 []).length) (by omega); exact ⟨by have h1 := hp.1; have h2 := S9 (m := m) (k := k.1) (by omega); show k.2 - _ = q - _ - ((K2 (m.take (k.1 + 1)) : Nat) : Int); omega, by have h1 := hp.2.1; show k.1 + 1 ≤ _; omega, by show 0 ≤ k.2 - _; omega⟩) (by omega) [0] (ht := by have e1 : (k.snd - ((m.getD k.fst []).length : Int) : Int) = (m5 k.snd (m.getD k.fst []).length) := ((aN9 (by omega)).2.symm); (first | rw [e1] | simp only [e1]) <;> rfl)
    · refine wp_seq (m7 G l6 [(4, iA (-1))] fun G => b5 (wp_ret (C4 (l9 (l9 (C4 (l9 ?_))))))); exact Z4 (-1) G [0] (by have h9 := a17 (q := k.2) (n := (m.getD k.1 []).length) (by omega) hp.2.2; have h8 := S9 (m := m) (k := k.1) (by omega); have h7 := aD2 m (k.1 + 1); have h6 := hp.1; exact p8 (by omega))
  · refine wp_seq (m7 G l6 [(4, iA (-1))] fun G => b5 (wp_ret (l9 ?_))); exact Z4 (-1) G [0] (p8 (by omega))
abbrev mZ (m : D6) : Nat := m.vals.length + (m.arrs.length + K2 m.arrs)
theorem aO0 (q : Int) (a b : Nat) (h : ¬ m5 q a < 0) (h0 : 0 ≤ q) : m5 (m5 q a) b = m5 q (a + b) := by
 obtain ⟨h1, h2⟩ := aN9 h
 rw [h2]
 by_cases h3 : q - (a : Int) < b
 ·rw [p8 h3, p8 (by omega)]
 ·rw [t9 h3, t9 (by omega)]; omega
theorem a18 (q : Int) (a b : Nat) (h : m5 q a < 0) (h0 : 0 ≤ q) : -1 = m5 q (a + b) := by
 have := a17 h h0
 rw [p8 (by omega)]
theorem aV0 (q : Int) (a b : Nat) (h : ¬ m5 q a < 0) (h2 : m5 (m5 q a) b < 0) (h0 : 0 ≤ q) : -1 = m5 q (a + b) := by
 rw [← aO0 q a b h h0]
 have := a17 h2 (by omega)
 rw [p8 this]
theorem aF9 (m : D6) (q : Int) (r0 : 0 ≤ q) (r1 : q ≤ 1048576) : t8.ok Try.prog (O2 39 [mA 0, iA q] (mS m) (iA (m5 q (mZ m)))) := by
  refine N0 18 Try.func39 [dI m.vals, dR m.arrs] [(0, .agg [.ref 0, .ref 1]), (1, iA q)] fun G => ?_; refine wp_seq (B8 G l6 [0, 1, 2] [dI m.vals, dR m.arrs, .box [.ref 0, .ref 1]] [(1, iA q), (2, .ptr 2 0), (4, iA 0)] fun G => b5 (wp_seq (m7 G (T4 3 [0] (aA3 m.vals q (by assumption) (by assumption))) [(1, iA (m5 q m.vals.length))] fun G => b5 (wp_seq (wp_seq (m7 G l6 [(10, bA (decide (m5 q m.vals.length < 0)))] fun G => b5 (rcD G (fun h0 q0 => ?_) fun h0 q0 => ?_)))))))
  ·
   refine wp_skip (b5 (wp_seq (B8 G (T4 3 [1] (aL8 m.arrs (m5 q m.vals.length) (by omega) (by have h9 := aN9 (q := q) (n := m.vals.length) (by omega); omega))) [0, 1] [dI m.vals, dR m.arrs] [(1, iA (m5 (m5 q m.vals.length) (m.arrs.length + K2 m.arrs))), (4, iA 0)] fun G => b5 (wp_seq (wp_seq (m7 G l6 [(16, bA (decide (m5 (m5 q m.vals.length) (m.arrs.length + K2 m.arrs) < 0)))] fun G => b5 (rcD G (fun h1 q1 => ?_) fun h1 q1 => ?_)))))))
   · refine wp_skip (b5 (wp_seq (m7 G l6 [(4, iA (m5 (m5 q m.vals.length) (m.arrs.length + K2 m.arrs)))] fun G => b5 (wp_ret ?_)))); exact Z4 (m5 (m5 q m.vals.length) (m.arrs.length + K2 m.arrs)) G [0, 1] ((aO0 _ _ _ (by omega) r0).symm)
   · refine wp_seq (m7 G l6 [(4, iA (-1))] fun G => b5 (wp_ret (l9 ?_))); exact Z4 (-1) G [0, 1] ((aV0 _ _ _ (by omega) (by omega) r0).symm)
  · refine wp_seq (m7 G l6 [(4, iA (-1))] fun G => b5 (wp_ret (l9 ?_))); exact Z4 (-1) G [0, 1] ((a18 _ _ _ (by omega) r0).symm)
abbrev av9 : It := .box [.v (.slice none 0 0), .v (.slice none 0 0)]
theorem aC1 (m : D6) (hb : mZ m ≤ 1048576) : t8.ok Try.prog ⟨42, [mA 0], mS m, mS m ++ mO m, mT 2⟩ := by
 have hb2 : m.vals.length + (m.arrs.length + K2 m.arrs) ≤ 1048576 := hb; have ha := aN8 m.vals (by omega); have hc := aK2 m.arrs (by omega); refine N0 13 Try.func42 [dI m.vals, dR m.arrs] [(0, .agg [.ref 0, .ref 1])] fun G => ?_; refine wp_seq (B8 G l6 [0, 1, 2, 10] [dI m.vals, dR m.arrs, .box [.ref 0, .ref 1], av9] [(1, .ptr 2 0), (2, .ptr 3 0)] fun G => b5 (wp_seq (B8 G l6 (rg 5) [dI m.vals, dR m.arrs, .box [.ref 0, .ref 1], av9, av9] [(1, .ptr 2 0), (2, .ptr 3 0), (3, .ptr 4 0)] fun G => b5 (wp_seq (B8 G (T4 2 [0] ha) [0, 1, 2, 3, 4, 21] [dI m.vals, dR m.arrs, .box [.ref 0, .ref 1], av9, .box [.ref 5, .v (.slice none 0 0)], .row 3 (D.ints m.vals)] [(1, .ptr 2 0), (2, .ptr 3 0), (3, .ptr 4 0)] fun G => b5 (wp_seq (B8 G (T4 2 [1] hc) [0, 1, 3, 4, 5, 22] [dI m.vals, dR m.arrs, av9, .box [.ref 4, .tref 5], .row 3 (D.ints m.vals), .tree (D.rows m.arrs)] [(2, .ptr 2 0), (3, .ptr 3 0)] fun G => b5 (wp_seq (B8 G l6 [0, 1, 2, 4, 5] [dI m.vals, dR m.arrs, .box [.ref 3, .tref 4], .row 3 (D.ints m.vals), .tree (D.rows m.arrs)] [(2, .ptr 2 0)] fun G => b5 (wp_ret ?_)))))))))); exact rxr G [0, 1, 3, 4]
theorem aM5 (xs : List (List Int)) : t8.ok Try.prog (O2 120 [.ref 0, .ref 1] [dR xs, dR xs] (bA true)) := by
 refine N0 27 Try.func120 [dR xs, dR xs] [(0, .ref 0), (1, .ref 1)] fun G => ?_; have hl : xs.length ≤ 9223372036854775807 := G.len 0 (d := .rows xs) (by kernel_rfl); refine wp_seq (R2 G l6 [(0, .ref 0), (1, .ref 1), (4, bA false)] fun G => b5 (wp_seq (wp_seq (m7 G l6 [(10, bA ((xs.length : Int) != (xs.length : Int)))] fun G => b5 (rF G ((xs.length : Int) != (xs.length : Int)) (by simp) (wp_skip (b5 (wp_seq (wp_seq (R2 G l6 [(0, .ref 0), (1, .ref 1), (4, bA false), (5, iA 0)] fun G => b5 (wp_block ?_))))))))))); refine D5 (κ := Nat) (fun k => k ≤ xs.length) (fun k => xs.length - k) (fun k => [dR xs, dR xs]) (fun k => [(0, .ref 0), (1, .ref 1), (4, bA false), (5, iA k)]) 0 (by omega) (B2.at G _ _) ?_; clear G; intro k ρ a w hp G; refine wp_seq (wp_seq (m7 G l6 [(14, bA (decide ((k : Int) < xs.length)))] fun G => b5 (rcD G (fun h0 q0 => ?_) fun h0 q0 => ?_)))
 ·refine wp_exit (D3 (D3 (C9 (b5 (wp_seq (m7 G l6 [(4, bA true)] fun G => b5 (wp_ret ?_))))))); exact rxr G [0, 1]
 ·refine wp_skip (b5 (wp_seq (wp_block (wp_seq (ax5 G (T4 8 [26, 58] (aA9 (xs.getD k []))) [0, 0, 3, 7, 0, 0, 48, 112, 255, 511] [(26, bA false)] (iX k k xs.length (iX k k xs.length [])) (iK (by omega) (iK (by omega) ba8)) fun G => b5 (rF G false (by kernel_rfl) (wp_skip (I9 (b5 (O0 G l6 [(5, iA ((k : Int) + 1))] [wO ((k : Int) + 1)] (o1 (by omega)) fun G => b5 ?_)))))))))); exact rxn G (k + 1) (by omega) (by omega) [0, 1]
theorem U9 (m : D6) : t8.ok Try.prog (O2 44 [mA 0, mA 2] (mS m ++ mS m) (bA true)) := by
 refine N0 17 Try.func44 [dI m.vals, dR m.arrs, dI m.vals, dR m.arrs] [(0, .agg [.ref 0, .ref 1]), (1, .agg [.ref 2, .ref 3])] fun G => ?_; refine wp_seq (B8 G l6 [0, 1, 2, 3, 4, 12] [dI m.vals, dR m.arrs, dI m.vals, dR m.arrs, .box [.ref 0, .ref 1], .box [.ref 2, .ref 3]] [(2, .ptr 4 0), (3, .ptr 5 0), (4, bA false)] fun G => b5 (wp_seq (wp_seq (m7 G (T4 4 [0, 2] (aA9 m.vals)) [(10, bA false)] fun G => b5 (rF G false (by kernel_rfl) (wp_skip (b5 (wp_seq (wp_seq (B8 G (T4 4 [1, 3] (aM5 m.arrs)) (rg 4) [dI m.vals, dR m.arrs, dI m.vals, dR m.arrs] [(4, bA false), (16, bA false)] fun G => b5 (rF G false (by kernel_rfl) (wp_skip (b5 (wp_seq (m7 G l6 [(4, bA true)] fun G => b5 (wp_ret ?_)))))))))))))))); exact rxr G (rg 4)
theorem aP3 {m : List (List Int)} {x : Int} {k : Nat × Int} (hk : k.1 < m.length) (h1 : k.2 = x + (K2 (m.take k.1) : Nat)) (r1 : x + K2 m ≤ 9000000000000000000) : k.2 + (m.getD k.1 []).length ≤ 9000000000000000000 := by
 have h2 := S9 hk
 have h3 := aD2 m (k.1 + 1)
 omega
theorem aX3 {m : List (List Int)} {x : Int} {k : Nat × Int} (hk : k.1 < m.length) (h1 : k.2 = x + (K2 (m.take k.1) : Nat)) : Z5 x m (k.1 + 1) = (Z5 x m k.1).set k.1 (P2 k.2 ((Z5 x m k.1).getD k.1 []).length) := by
 rw [aE6 hk, aQ8 hk, h1]
theorem aA6 (m : List (List Int)) (x : Int) (r0 : 0 ≤ x) (r1 : x + K2 m ≤ 9000000000000000000) (r2 : m.length ≤ 1048576) : t8.ok Try.prog ⟨124, [.tref 0, iA x], [.tree (.rows m)], [.tree (.rows (mkR x m))], iA (x + K2 m)⟩ := by
 refine N0 19 Try.func124 [.tree (D.rows m)] [(0, .tref 0), (1, iA x)] fun G => ?_; refine wp_seq (m7 G l6 [(4, iA 0)] fun G => b5 (wp_seq (wp_seq (R2 G l6 [(0, .tref 0), (1, iA x), (4, iA 0), (5, iA 0)] fun G => b5 (wp_block ?_))))); refine D5 (κ := Nat × Int) (fun k => k.2 = x + (K2 (m.take k.1) : Nat) ∧ k.1 ≤ m.length) (fun k => m.length - k.1) (fun k => [.tree (.rows (Z5 x m k.1))]) (fun k => [(0, .tref 0), (1, iA k.2), (4, iA 0), (5, iA k.1)]) ((0, x)) (⟨by simp [K2], bb4 _⟩) (B2.at G _ _) ?_; clear G; intro k ρ a w hp G; replace G := B2.at G [.tree (D.rows (Z5 x m k.fst))] [(0, .tref 0), (1, iA k.snd), (4, iA 0), (5, iA (k.fst : Int))]; have hrl := aX6 x m k.1; refine wp_seq (wp_seq (m7 G l6 [(9, bA (decide ((k.fst : Int) < ((Z5 x m k.fst).length : Int))))] fun G => b5 (rcD G (fun h0 q0 => ?_) fun h0 q0 => ?_)))
 ·refine wp_exit (D3 (D3 (C9 (b5 (wp_seq (m7 G l6 [(4, iA k.snd)] fun G => b5 (wp_ret ?_))))))); exact Z4 k.snd G [0] (by have h9 := at3 (m := m) (k := k.1) (by omega); have h1 := hp.1; omega) (by show _ = mR [0] [.tree (D.rows (mkR x m))]; have e1 : (mkR x m : List (List Int)) = (Z5 x m k.fst) := ((aX7 (by have h1 := hp.2; omega)).symm); (first | rw [e1] | simp only [e1]) <;> rfl)
 ·refine wp_skip (b5 (wp_seq (wp_block (rA1 G (T4 5 [25] (an3 ((Z5 x m k.fst).getD k.fst []) k.snd (by omega) (by rw [aE6 (by omega)]; exact aP3 (by omega) hp.1 r1))) [0, 25] [.hole 1 k.fst (Z5 x m k.fst), .row 3 (D.ints (P2 k.snd ((Z5 x m k.fst).getD k.fst []).length))] [(0, .tref 0), (1, iA (k.snd + (((Z5 x m k.fst).getD k.fst []).length : Int))), (4, iA 0), (5, iA (k.fst : Int))] (iX k.fst k.fst ((Z5 x m k.fst).length) []) (iK (by omega) ba8) fun G => ?_)))); replace G := G.heal 0 1 k.fst (Z5 x m k.fst) (P2 k.snd ((Z5 x m k.fst).getD k.fst []).length) [.tree (D.rows ((Z5 x m k.fst).set k.fst (P2 k.snd ((Z5 x m k.fst).getD k.fst []).length))), .dead]; refine I9 (b5 (rA1 G l6 [0] [.tree (D.rows ((Z5 x m k.fst).set k.fst (P2 k.snd ((Z5 x m k.fst).getD k.fst []).length)))] [(0, .tref 0), (1, iA (k.snd + (((Z5 x m k.fst).getD k.fst []).length : Int))), (4, iA 0), (5, iA ((k.fst : Int) + 1))] [wO ((k.fst : Int) + 1)] (o1 (by omega)) fun G => b5 ?_)); exact rxn G ((k.1 + 1, k.2 + ((m.getD k.1 []).length : Int))) (⟨by have h1 := hp.1; have h2 := S9 (m := m) (k := k.1) (by omega); show k.2 + _ = x + ((K2 (m.take (k.1 + 1)) : Nat) : Int); omega, by have h1 := hp.2; show k.1 + 1 ≤ _; omega⟩) (by omega) [0] (by have e1 : (Z5 x m (k.fst + 1) : List (List Int)) = ((Z5 x m k.fst).set k.fst (P2 k.snd ((Z5 x m k.fst).getD k.fst []).length)) := (aX3 (by omega) hp.1); (first | rw [e1] | simp only [e1]) <;> rfl) (ht := by have e1 : (k.snd + ((m.getD k.fst []).length : Int) : Int) = (k.snd + (((Z5 x m k.fst).getD k.fst []).length : Int)) := (by rw [aE6 (by omega)]); (first | rw [e1] | simp only [e1]) <;> rfl)
theorem a37 {m : List (List Int)} {x : Int} (r0 : 0 ≤ x) (r1 : x + K2 m ≤ 9000000000000000000) (k : Nat × Int) (hk : k.1 < m.length) (h1 : k.2 = x + (K2 (m.take k.1) : Nat)) : t8.ok Try.prog (O2 125 [.ref 0, iA k.2] [dI ((mkR x m).getD k.1 [])] (iA (k.2 + (m.getD k.1 []).length))) := by
 rw [aE7 x m k.1 hk, ← h1]
 have := aP3 hk h1 r1
 exact an9 _ _ (by omega) this
theorem aA8 (m : List (List Int)) (x : Int) (r0 : 0 ≤ x) (r1 : x + K2 m ≤ 9000000000000000000) (r2 : m.length ≤ 1048576) : t8.ok Try.prog (O2 126 [.ref 0, iA x] [dR (mkR x m)] (iA (x + K2 m))) := by
  have hdh := a37 r0 r1; refine N0 21 Try.func126 [dR (mkR x m)] [(0, .ref 0), (1, iA x)] fun G => ?_; have hrl := Y1 x m; refine wp_seq (m7 G l6 [(4, iA 0)] fun G => b5 (wp_seq (wp_seq (R2 G l6 [(0, .ref 0), (1, iA x), (4, iA 0), (5, iA 0)] fun G => b5 (wp_block ?_))))); refine D5 (κ := Nat × Int) (fun k => k.2 = x + (K2 (m.take k.1) : Nat) ∧ k.1 ≤ m.length) (fun k => m.length - k.1) (fun k => [dR (mkR x m)]) (fun k => [(0, .ref 0), (1, iA k.2), (4, iA 0), (5, iA k.1)]) ((0, x)) (⟨by simp [K2], bb4 _⟩) (B2.at G _ _) ?_; clear G; intro k ρ a w hp G; replace G := B2.at G [dR (mkR x m)] [(0, .ref 0), (1, iA k.snd), (4, iA 0), (5, iA (k.fst : Int))]; refine wp_seq (wp_seq (m7 G l6 [(9, bA (decide ((k.fst : Int) < ((mkR x m).length : Int))))] fun G => b5 (rcD G (fun h0 q0 => ?_) fun h0 q0 => ?_)))
  · refine wp_exit (D3 (D3 (C9 (b5 (wp_seq (m7 G l6 [(4, iA k.snd)] fun G => b5 (wp_ret ?_))))))); exact Z4 k.snd G [0] (by have h9 := at3 (m := m) (k := k.1) (by omega); have h1 := hp.1; omega)
  ·
   refine wp_skip (b5 (wp_seq (wp_block (wp_seq (O0 G (T4 5 [25] (hdh k (by omega) (by omega))) [(1, iA (k.snd + ((m.getD k.fst []).length : Int)))] (iX k.fst k.fst ((mkR x m).length) []) (iK (by omega) ba8) fun G => b5 (wp_seq (m7 G l6 [(19, bA (decide (k.snd + ((m.getD k.fst []).length : Int) < 0)))] fun G => b5 (rcD G (fun h1 q1 => ?_) fun h1 q1 => ?_))))))))
   · refine wp_skip (I9 (b5 (O0 G l6 [(5, iA ((k.fst : Int) + 1))] [wO ((k.fst : Int) + 1)] (o1 (by omega)) fun G => b5 ?_))); exact rxn G ((k.1 + 1, k.2 + ((m.getD k.1 []).length : Int))) (⟨by have h1 := hp.1; have h2 := S9 (m := m) (k := k.1) (by omega); show k.2 + _ = x + ((K2 (m.take (k.1 + 1)) : Nat) : Int); omega, by have h1 := hp.2; show k.1 + 1 ≤ _; omega⟩) (by omega) [0]
   · refine wp_seq (m7 G l6 [(4, iA (-1))] fun G => b5 (wp_ret (C4 (l9 (l9 (C4 (l9 ?_))))))); exact Z4 (-1) G [0] (by omega)
def mkM (m : D6) (x : Int) : D6 := ⟨P2 x m.vals.length, mkR (x + m.vals.length) m.arrs⟩
def J7 (m : D6) : Nat := m.vals.length + K2 m.arrs
theorem ad9 (m : D6) (x : Int) (r0 : 0 ≤ x) (r1 : x + J7 m ≤ 9000000000000000000) (r2 : m.arrs.length ≤ 1048576) : t8.ok Try.prog ⟨47, [mT 0, iA x], mO m, mO (mkM m x), iA (x + J7 m)⟩ := by
 refine N0 14 Try.func47 [.row 3 (D.ints m.vals), .tree (D.rows m.arrs)] [(0, .agg [.ref 0, .tref 1]), (1, iA x)] fun G => ?_
 have hmn : (J7 m : Int) = m.vals.length + K2 m.arrs := by unfold J7; omega
 refine wp_seq (B8 G l6 [0, 1, 2] [.row 3 (D.ints m.vals), .tree (D.rows m.arrs), .box [.ref 0, .tref 1]] [(1, iA x), (2, .ptr 2 0), (4, iA 0)] fun G => b5 (wp_seq (B8 G (T4 3 [0] (an3 m.vals x (by assumption) (by omega))) [0, 1, 2] [.row 3 (D.ints (P2 x m.vals.length)), .tree (D.rows m.arrs), .box [.ref 0, .tref 1]] [(1, iA (x + (m.vals.length : Int))), (2, .ptr 2 0), (4, iA 0)] fun G => b5 (wp_seq (B8 G (T4 3 [1] (aA6 m.arrs (x + (m.vals.length : Int)) (by omega) (by omega) (by assumption))) [0, 1] [.row 3 (D.ints (P2 x m.vals.length)), .tree (D.rows (mkR (x + (m.vals.length : Int)) m.arrs))] [(1, iA (x + (m.vals.length : Int) + (↑(K2 m.arrs) : Int))), (4, iA 0)] fun G => b5 (wp_seq (m7 G l6 [(4, iA (x + (m.vals.length : Int) + (↑(K2 m.arrs) : Int)))] fun G => b5 (wp_ret ?_)))))))); exact Z4 (x + (m.vals.length : Int) + (↑(K2 m.arrs) : Int)) G [0, 1] (by omega)
theorem ae0 (m : D6) (x : Int) (r0 : 0 ≤ x) (r1 : x + J7 m ≤ 9000000000000000000) (r2 : m.arrs.length ≤ 1048576) : t8.ok Try.prog (O2 48 [mA 0, iA x] (mS (mkM m x)) (iA (x + J7 m))) := by
  refine N0 18 Try.func48 [dI (mkM m x).vals, dR (mkM m x).arrs] [(0, .agg [.ref 0, .ref 1]), (1, iA x)] fun G => ?_
  have hmn : (J7 m : Int) = m.vals.length + K2 m.arrs := by unfold J7; omega
  refine wp_seq (B8 G l6 [0, 1, 2] [dI (mkM m x).vals, dR (mkM m x).arrs, .box [.ref 0, .ref 1]] [(1, iA x), (2, .ptr 2 0), (4, iA 0)] fun G => b5 (wp_seq (m7 G (T4 3 [0] (an9 m.vals.length x (by assumption) (by omega))) [(1, iA (x + (m.vals.length : Int)))] fun G => b5 (wp_seq (wp_seq (m7 G l6 [(10, bA (decide (x + (m.vals.length : Int) < 0)))] fun G => b5 (rcD G (fun h0 q0 => ?_) fun h0 q0 => ?_)))))))
  ·
   refine wp_skip (b5 (wp_seq (B8 G (T4 3 [1] (aA8 m.arrs (x + (m.vals.length : Int)) (by omega) (by omega) (by assumption))) [0, 1] [dI (mkM m x).vals, dR (mkM m x).arrs] [(1, iA (x + (m.vals.length : Int) + (↑(K2 m.arrs) : Int))), (4, iA 0)] fun G => b5 (wp_seq (wp_seq (m7 G l6 [(16, bA (decide (x + (m.vals.length : Int) + (↑(K2 m.arrs) : Int) < 0)))] fun G => b5 (rcD G (fun h1 q1 => ?_) fun h1 q1 => ?_)))))))
   · refine wp_skip (b5 (wp_seq (m7 G l6 [(4, iA (x + (m.vals.length : Int) + (↑(K2 m.arrs) : Int)))] fun G => b5 (wp_ret ?_)))); exact Z4 (x + (m.vals.length : Int) + (↑(K2 m.arrs) : Int)) G [0, 1] (by omega)
   · refine wp_seq (m7 G l6 [(4, iA (-1))] fun G => b5 (wp_ret (l9 ?_))); exact Z4 (-1) G [0, 1] (by omega)
  · refine wp_seq (m7 G l6 [(4, iA (-1))] fun G => b5 (wp_ret (l9 ?_))); exact Z4 (-1) G [0, 1] (by omega)
end Go.Proofs.Ytgmhmijcnlfmfaa

namespace Go.Proofs.Ytgmhmijcnlfmfaa
open Go Go.RowKit Go.ChangeShapes Go.WideShapes Go.Deep
def a79 (w : World) (φ : Nat → Prop) (v : Value) (m : D6) : Prop := ∃ v1 v2, v = .agg #[v1, v2] ∧ RD w φ (.ints m.vals) v1 ∧ RD w φ (.rows m.arrs) v2
section
variable {H : Type} {enc : TypeId × Value → H} {W : World}
theorem at4 {fuel : Nat} {t : TypeId} {v : Value} {x : DataW H × List MemPlace} (ht : Try.prog.underlying t = some (.slice 23))
  (h : DataW.trod enc Try.prog W 0 (fun _ => true) true fuel t [v] = some x) : ∃ m : List (List Int), RD W (fun _ => True) (.rows m) v := by
 obtain ⟨n, q, C, hr, hC, hx⟩ := ah2 ht (sz := 1) (by kernel_rfl) (by omega) h
 obtain ⟨g, hg⟩ := choose_lt (α := Value × List Int) (n := n) (p := fun i p => C i = [p.1] ∧ H8 W p.1 p.2.length 1 (ints p.2)) (fun i hi => by
  obtain ⟨y, hy⟩ := hx i hi
  obtain ⟨u, hu⟩ : ∃ u, C i = [u] := by
   have := hC i
   match hci : C i, this with
   | [u], _ => exact ⟨u, rfl⟩
  rw [hu] at hy
  obtain ⟨l, hl⟩ := O1 Try.underlying23 hy
  exact ⟨(u, l), hu, hl⟩)
 refine ⟨(bb2 n).map fun i => (g i).2, (bb2 n).map fun i => (g i).1, ?_, ?_⟩
 ·rw [List.length_map, List.length_range]
  have := W8 n C id (fun i => (g i).1) (fun i hi => (hg i hi).1)
  rw [List.map_id] at this
  rw [← this]
  exact hr.rowF fun _ _ => trivial
 ·intro i hi
  have hi' : i < n := by simpa using hi
  refine ⟨(g i).1, by simp [hi'], ?_⟩
  have := (hg i hi').2
  simp only [List.getElem_map, List.getElem_range]
  exact this.rowF fun _ _ => trivial
theorem ay6 {r : Reach} {b0 : Nat} {v : Value} {d : DataW H} {p : List MemPlace} (hv : Value.okWide Try.prog W r b0 77 v)
  (h : DataW.Trod enc Try.prog W 0 (fun _ => true) true 77 v d p) : ∃ c : D6, a79 W (fun _ => True) v c := by
 obtain ⟨v0, v1, y0, y1, n, rfl, -, -, h0, h1⟩ := Joins.open_agg2 Try.underlying77 (by kernel_rfl) (by kernel_rfl) hv h
 obtain ⟨l0, r0⟩ := O1 Try.underlying23 h0
 obtain ⟨l1, r1⟩ := at4 Try.underlying35 h1
 exact ⟨⟨l0, l1⟩, _, _, rfl, r0.rowF fun _ _ => trivial, r1⟩
end
end Go.Proofs.Ytgmhmijcnlfmfaa

namespace Go.Proofs.Ytgmhmijcnlfmfaa
open Go Go.RowKit
theorem aG8 : ∀ (ds : List D) (n j : Nat), p6 (t7 []) (K6 (ds.map X.sl) n) j = if n ≤ j then t7 (ds.map It.dat) (j - n) else .none
 | [], n, j => by simp [K6, p6, t7]
 | d :: r, n, j => by
  simp only [bc1, K6, p6]
  by_cases e : j = n
  ·subst e; simp [t7]
  ·rw [if_neg e, aG8 r (n + 1) j]
   by_cases h : n + 1 ≤ j
   ·rw [if_pos h, if_pos (by omega), show j - n = (j - (n + 1)) + 1 by omega]; simp [t7]
   ·rw [if_neg h, if_neg (by omega)]
theorem aN2 : ∀ (ds : List D) (n : Nat) (ρ : Nat → Value) (vs : List Value), vs = AV.vals ρ (xav (ds.map X.sl) n) → vs.length = ds.length ∧ ∀ i, i < ds.length → ρ (n + i) = vs.getD i undef
 | [], _, _, vs, h => by simp only [List.map_nil, xav, AV.vals] at h; subst h; exact ⟨rfl, fun i hi => by simp at hi⟩
 | d :: r, n, ρ, vs, h => by
  simp only [bc1, xav, AV.vals, AV.val] at h
  subst h
  obtain ⟨h1, h2⟩ := aN2 r (n + 1) ρ _ rfl
  refine ⟨by simp [h1], fun i hi => ?_⟩
  cases i with
  | zero => simp
  | succ i =>
   have := h2 i (by simpa using hi)
   rw [show n + (i + 1) = n + 1 + i by omega, this]; simp
theorem aU3 {P : Program} {f : FuncId} {args : List AV} {x : Value} {post : List It} (ds : List D) (vs : List Value) (hc : t8.ok P ⟨f, args, ds.map It.dat, post, .v x⟩) (hi : ∀ id ∈ AV.idsL args, id < ds.length) (w : World) (h : XHs w (fun _ => True) (ds.map X.sl) vs) :
  Calls P f (AV.vals (fun i => vs.getD i undef) args).toArray w fun e w' => e = .returned x ∧ Below w.heap.size w w' := by
 have M0 : l8 (fun _ => True) (fun _ => True) w w (p7 (fun _ : Empty => Rs.none) (fun _ => undef) (t7 [])) := by
  refine (l8.start (ι := Empty ⊕ Nat) (w0 := w) (φ := fun _ => True) (ψ := fun _ => True) fun _ _ => trivial).map (fun k => some k) (fun k k' i a b => by cases a; cases b; rfl) fun k => ?_
  cases k with
  | inl e => exact e.elim
  | inr j => exact .inr rfl
 have ha : H9 (fun _ => True) (R6 (fun _ => True) (p7 (fun _ : Empty => Rs.none) (fun _ => undef) (t7 []))) w w := H9.mono fun b _ _ => ⟨ba8, fun i => by
  cases i with
  | inl e => exact e.elim
  | inr j => exact fun h => h.elim⟩
 obtain ⟨ρ', g1, M2, g2⟩ := l8.dats (ds.map X.sl) vs 0 M0 (XHs.agr ha h) (fun _ _ => rfl) (fun _ _ _ => rfl)
 have e : p6 (t7 []) (K6 (ds.map X.sl) 0) = t7 (ds.map It.dat) := by
  funext j
  rw [aG8]; simp
 rw [e] at M2
 obtain ⟨h1, h2⟩ := aN2 ds 0 ρ' vs g2
 have hv : AV.vals ρ' args = AV.vals (fun i => vs.getD i undef) args := AV.vals_congr args fun id hid => by
  have := h2 id (hi id hid)
  simpa using this
 rw [← hv]
 refine (hc Empty _ _ w w _ ρ' M2).mono ?_
 rintro e w' ⟨ρ2, -, rfl, M3⟩
 exact ⟨rfl, M3.below fun _ _ => trivial⟩
theorem fzq {q : Int} {n : Nat} (h : ¬ m5 q n < 0) (h0 : 0 ≤ q) : (n : Int) ≤ q ∧ m5 q n = q - n := by
 obtain ⟨h1, h2⟩ := aN9 h
 exact ⟨by omega, h2⟩
theorem ak8 (p : k8) : s5 p.body ≤ p.size ∧ p.vars.length ≤ p.size ∧ p.arrays.length ≤ p.size ∧ 0 ≤ R3 p ∧ R3 p ≤ 7 * p.size := by
 have h := F5 p.body
 unfold k8.size R3
 omega
theorem aW4 {m : List (List Int)} : ∀ l ∈ m, l.length ≤ K2 m := by
 intro l hl
 obtain ⟨i, hi, rfl⟩ := List.mem_iff_getElem.1 hl
 have := aW3 hi
 rwa [v5 hi] at this
theorem af1 (m : D6) : m.vals.length ≤ mZ m ∧ m.arrs.length ≤ mZ m ∧ K2 m.arrs ≤ mZ m ∧ (J7 m : Int) ≤ mZ m := by
 have e : mZ m = m.vals.length + (m.arrs.length + K2 m.arrs) := rfl
 have e2 : J7 m = m.vals.length + K2 m.arrs := rfl
 generalize mZ m = z at *
 generalize J7 m = y at *
 omega
theorem aE8 {m : D6} {n : Nat} (h : mZ m ≤ n) : ∀ l ∈ m.arrs, l.length ≤ n := fun l hl => by
 have h1 := aW4 l hl
 have h2 := (af1 m).2.2.1
 omega
theorem aU9 (p : k8) (x : Int) (r0 : 0 ≤ x) (r1 : x + R3 p ≤ 9000000000000000000) : t8.ok Try.prog ⟨46, [oA 0, iA x], oP p, oP (mkP p x.toNat), iA (x + R3 p)⟩ := by
 obtain ⟨k, rfl⟩ := Int.eq_ofNat_of_zero_le r0
 exact ap7 p k r1
theorem aC9 (p : k8) : p.same p = true := k8.same_eq.2 rfl
theorem ax1 (q : k8) : ¬ ((!q.same q) = true) := by rw [aC9]; decide
end Go.Proofs.Ytgmhmijcnlfmfaa
