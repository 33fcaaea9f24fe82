/-
  TrustedPart: the statement, whatever the argument. Conditions: none beyond the statement's own.
-/
import Derived.Test.YtgmhmijcnlfmfaaK1
import Derived.Test.YtgmhmijcnlfmfaaK2
import Derived.Test.YtgmhmijcnlfmfaaK3
import Derived.Test.YtgmhmijcnlfmfaaK4
import Derived.Test.YtgmhmijcnlfmfaaK5
import Derived.Test.YtgmhmijcnlfmfaaK6
import Derived.Test.YtgmhmijcnlfmfaaEnter1M
import Derived.Test.YtgmhmijcnlfmfaaEnter2M
import Derived.Test.YtgmhmijcnlfmfaaEnter3M
set_option maxRecDepth 100000
set_option maxHeartbeats 16000000
set_option linter.unusedVariables false
set_option linter.unusedSimpArgs false
open Bool renaming not_eq_false' → bc8, not_eq_true' → bc6
open True renaming intro → bc4
namespace Go.Proofs.Ytgmhmijcnlfmfaa.exTrustedPart
open Go Go.RowKit Go.Proofs.Ytgmhmijcnlfmfaa
theorem a68 (bit : Int) (ls : List Int) (rs : List (List Int)) (k : Nat) : I7 (zR bit ls rs k) = I7 rs := by
 unfold I7
 have : (zR bit ls rs k).map List.length = rs.map List.length := by
  apply List.ext_getElem (by simp [zR])
  intro i h1 h2
  have hi : i < rs.length := by simpa using h2
  simp only [zR, List.map_map, List.getElem_map, List.getElem_range, Function.comp]
  split
  ·rw [List.length_replicate, t2 hi]
  ·rw [t2 hi]
 rw [this]
theorem a32 (p : l6) (m : D9) : mZ (B3 2 p m) ≤ mZ m := by
 show (B3 2 p m).vals.length + ((B3 2 p m).arrs.length + I7 (B3 2 p m).arrs) ≤ m.vals.length + (m.arrs.length + I7 m.arrs)
 unfold B3; split
 ·unfold ae9; simp only [aA7, Z7, a68]; omega
 ·simp [I7]
abbrev C3 (p : l6) (m : D9) (r0 : List It) : List It := dI p.vars :: dI p.arrays :: dT p.body :: dI m.vals :: dR m.arrs :: .box (pL 0) :: .box [.ref 3, .ref 4] :: .row 3 (D.ints (B3 2 p m).vals) :: .tree (D.rows (B3 2 p m).arrs) :: .box [.ref 7, .tref 8] :: r0
abbrev A7 (p : l6) (m : D9) (r0 : List (Nat × AV)) : List (Nat × AV) := (2, .ptr 5 0) :: (3, .ptr 6 0) :: (4, bA false) :: (6, .ptr 9 0) :: (7, bA (Q7 p m)) :: r0
theorem a85 (p : l6) (m : D9) : t7.ok Try.prog ⟨11, [pA 0, mA 3], pS p ++ mS m, pS p ++ mS m, bA true⟩ := by
  have htp := av4 p; have htm := aB1 m; have hsr := aj4 p m; have hir := aj5 p m; have hmp := aU8; refine L8 119 Try.func11 [dI p.vars, dI p.arrays, dT p.body, dI m.vals, dR m.arrs] [(0, pA 0), (1, .agg [.ref 3, .ref 4])] fun G => ?_; have hpp := aD0 p; have hmm := af0 m; have hrm := a32 p m; have hrp := af0 (B3 2 p m); refine wp_seq (B5 G l5 [0, 1, 2, 3, 4, 5, 13] [dI p.vars, dI p.arrays, dT p.body, dI m.vals, dR m.arrs, .box (pL 0), .box [.ref 3, .ref 4]] [(2, .ptr 5 0), (3, .ptr 6 0), (4, bA false)] fun G => b5 (wp_seq (m6 G l5 [(5, iA 1048576)] fun G => b5 (wp_seq (m6 G (P4 2 [0, 1, 2] (az0 p 1048576 (by omega) (by omega))) [(5, iA (p9 1048576 p.size))] fun G => b5 (wp_seq (wp_seq (Q3 G l5 [(2, .ptr 5 0), (3, .ptr 6 0), (4, bA false), (5, iA (p9 1048576 p.size)), (21, bA (decide (p9 1048576 p.size < 0)))] fun G => b5 ?_)))))))); cases h0 : (decide (p9 (1048576 : Int) p.size < 0))
  ·
   have q0 := Y7 h0; have hz1 := fzq (q := 1048576) (n := p.size) (by omega) (by omega); refine rF G _ h0 (wp_skip (b5 (wp_seq (m6 G (P4 2 [3, 4] (aF1 m (p9 1048576 p.size) (by omega) (by omega))) [(5, iA (p9 (p9 1048576 p.size) (mZ m)))] fun G => b5 (wp_seq (wp_seq (Q3 G l5 [(2, .ptr 5 0), (3, .ptr 6 0), (4, bA false), (26, bA (decide (p9 (p9 1048576 p.size) (mZ m) < 0)))] fun G => b5 ?_))))))); cases h1 : (decide (p9 (p9 (1048576 : Int) p.size) (mZ m) < 0))
   ·
    have q1 := Y7 h1; have hz3 := fzq (q := p9 1048576 p.size) (n := mZ m) (by omega) (by omega); refine rF G _ h1 (wp_skip (b5 (wp_seq (a70 G (E4 (A3 1 [0, 1, 2] (htp (by omega)) (A3 3 [3, 4] (htm (by omega)) (A3 4 [15, 16, 17, 31, 32] (t7.lend (hsr (by omega) (by omega) (by omega) (aE0 (by omega))) [.row 3, .row 3, .tree, .row 3, .tree]) E3))) fz []) [0, 1, 0, 7, 15, 31, 63, 63, 0, 383, 1023] [0, 1, 2, 3, 4, 5, 6, 39, 40, 71] (C3 p m []) (A7 p m []) fun G => b5 (wp_seq (B5 G (P4 1 [0, 1, 2] (htp (by omega))) [0, 1, 2, 3, 4, 5, 6, 7, 8, 9, 18, 19, 20, 26] (C3 p m [.row 3 (D.ints p.vars), .row 3 (D.ints p.arrays), .tree (D.stmts p.body), .box [.ref 10, .ref 11, .tref 12]]) (A7 p m [(8, .ptr 13 0)]) fun G => b5 (wp_seq (B5 G (P4 1 [3, 4] (htm (by omega))) [0, 1, 2, 3, 4, 5, 6, 7, 8, 9, 10, 11, 12, 13, 22, 23, 30] (C3 p m [.row 3 (D.ints p.vars), .row 3 (D.ints p.arrays), .tree (D.stmts p.body), .box [.ref 10, .ref 11, .tref 12], .row 3 (D.ints m.vals), .tree (D.rows m.arrs), .box [.ref 14, .tref 15]]) (A7 p m [(8, .ptr 13 0), (9, .ptr 16 0)]) fun G => b5 (wp_seq (B5 G (P4 2 [10, 11, 12, 14, 15] (t7.lend (hir (by omega) (by omega) (aE0 (by omega))) [.row 3, .row 3, .tree, .row 3, .tree])) [0, 1, 2, 3, 4, 5, 6, 7, 8, 9, 10, 11, 12, 13, 14, 15, 16, 33, 34, 65] (C3 p m [.row 3 (D.ints p.vars), .row 3 (D.ints p.arrays), .tree (D.stmts p.body), .box [.ref 10, .ref 11, .tref 12], .row 3 (D.ints m.vals), .tree (D.rows m.arrs), .box [.ref 14, .tref 15], .row 3 (D.ints (B3 2 p m).vals), .tree (D.rows (B3 2 p m).arrs), .box [.ref 17, .tref 18]]) (A7 p m [(8, .ptr 13 0), (9, .ptr 16 0), (10, .ptr 19 0), (11, bA (Q7 p m))]) fun G => b5 (wp_seq (wp_seq (m6 G (E4 (A3 2 [17, 18, 7, 8] (t7.lend (U6 (B3 2 p m)) [.row 3, .tree, .row 3, .tree]) E3) (fc (b := false) rfl fz) [(5, 0), (6, 0), (7, 0), (1008, 0)]) [(53, .v (.bool !Q7 p m == Q7 p m))] fun G => b5 (rF G (!Q7 p m == Q7 p m) (by simp [h0, h1]) (wp_skip (b5 (wp_seq (wp_seq (ba6 G (E4 (A3 2 [0, 1, 2] (htp (by omega)) (A3 3 [10, 11, 12, 36, 37, 38] (t7.lend (az7 p p) [.row 3, .row 3, .tree, .row 3, .row 3, .tree]) E3)) fz []) [0, 0, 2, 7, 15] (A7 p m [(8, .ptr 13 0), (9, .ptr 16 0), (10, .ptr 19 0), (11, bA (Q7 p m)), (58, .v (.bool !p.same p))]) fun G => ?_)))))))))))))))))))
    refine b5 ?_; cases h2 : (!p.same p)
    ·
     have q2 : (p.same p) = true := (Eq.mp (bc8 _) h2); refine rF G _ h2 (wp_skip (b5 (wp_seq (wp_seq (aP6 G (E4 (A3 2 [3, 4] (htm (by omega)) (A3 3 [14, 15, 36, 37] (t7.lend (U6 m) [.row 3, .tree, .row 3, .tree]) E3)) fz []) [0, 0, 2, 7, 15] [(63, bA false)] fun G => b5 (rF G false (by kernel_rfl) (wp_skip (b5 (wp_seq (m6 G l5 [(12, iA 1)] fun G => b5 (wp_seq (B5 G (P4 2 [10, 11, 12] (hmp p 1 (by omega) (by omega))) [0, 1, 2, 3, 4, 5, 6, 7, 8, 9, 14, 15, 16, 17, 18, 19] (C3 p m [.row 3 (D.ints m.vals), .tree (D.rows m.arrs), .box [.ref 10, .tref 11], .row 3 (D.ints (B3 2 p m).vals), .tree (D.rows (B3 2 p m).arrs), .box [.ref 13, .tref 14]]) (A7 p m [(9, .ptr 12 0), (10, .ptr 15 0), (11, bA (Q7 p m)), (12, iA (1 + aa6 p))]) fun G => b5 (wp_seq (B5 G (P4 2 [10, 11] (ad6 m (1 + aa6 p) (by omega) (by omega) (by omega))) [0, 1, 2, 3, 4, 5, 6, 7, 8, 9, 13, 14, 15] (C3 p m [.row 3 (D.ints (B3 2 p m).vals), .tree (D.rows (B3 2 p m).arrs), .box [.ref 10, .tref 11]]) (A7 p m [(10, .ptr 12 0), (11, bA (Q7 p m)), (12, iA (1 + aa6 p + (↑(J4 m) : Int)))]) fun G => b5 (wp_seq (wp_seq ?_)))))))))))))))); cases h3 : (decide ((1 : Int) + aa6 p + (↑(J4 m) : Int) < 0))
     ·
      have q3 := Y7 h3; refine m6 G (E4 (A3 5 [10, 11, 7, 8] (t7.lend (U6 (B3 2 p m)) [.row 3, .tree, .row 3, .tree]) E3) (fc h3 (fc (b := false) rfl fz)) (us [(3, 6, 0), (1007, 1007, 0), (9, 11, 1), (1012, 1012, 1)])) [(82, .v (.bool !Q7 p m == Q7 p m))] fun G => b5 (rF G (!Q7 p m == Q7 p m) (by simp [h0, h1, h2, q2, h3]) (wp_skip (b5 (wp_seq (m6 G l5 [(13, iA 1)] fun G => b5 (wp_seq (B5 G (P4 2 [10, 11] (ad6 (B3 2 p m) 1 (by omega) (by omega) (by omega))) (rg 13) (C3 p m [.row 3 (D.ints (mkM (B3 2 p m) 1).vals), .tree (D.rows (mkM (B3 2 p m) 1).arrs), .box [.ref 10, .tref 11]]) (A7 p m [(10, .ptr 12 0), (13, iA (1 + (↑(J4 (B3 2 p m)) : Int)))]) fun G => b5 (wp_seq (m6 G l5 [(14, iA 1)] fun G => b5 (wp_seq (m6 G (P4 2 [10, 11] (t7.lend (ad7 (B3 2 p m) 1 (by omega) (by omega) (by omega)) [.row 3, .tree])) [(14, iA (1 + (↑(J4 (B3 2 p m)) : Int)))] fun G => b5 (wp_seq (wp_seq (m6 G l5 [(90, bA false)] fun G => b5 (rF G false (by kernel_rfl) (wp_skip (b5 (wp_seq (wp_seq (m6 G l5 [(93, bA (1 + (↑(J4 (B3 2 p m)) : Int) != 1 + (↑(J4 (B3 2 p m)) : Int)))] fun G => b5 (rF G ((1 : Int) + (↑(J4 (B3 (2 : Int) p m)) : Int) != 1 + (↑(J4 (B3 (2 : Int) p m)) : Int)) (by simp [h0, h1, h2, q2, h3]) (wp_skip (b5 (wp_seq (a70 G (E4 (A3 1 [0, 1, 2] (htp (by omega)) (A3 3 [3, 4] (htm (by omega)) (A3 4 [21, 22, 23, 37, 38] (t7.lend (hir (by omega) (by omega) (aE0 (by omega))) [.row 3, .row 3, .tree, .row 3, .tree]) E3))) fz []) [0, 1, 0, 7, 15, 31, 63, 63, 0, 383, 1023] [0, 1, 2, 3, 4, 7, 8, 9, 10, 11, 12, 45, 46, 77] [dI p.vars, dI p.arrays, dT p.body, dI m.vals, dR m.arrs, .row 3 (D.ints (B3 2 p m).vals), .tree (D.rows (B3 2 p m).arrs), .box [.ref 5, .tref 6], .row 3 (D.ints (mkM (B3 2 p m) 1).vals), .tree (D.rows (mkM (B3 2 p m) 1).arrs), .box [.ref 8, .tref 9], .row 3 (D.ints (B3 2 p m).vals), .tree (D.rows (B3 2 p m).arrs), .box [.ref 11, .tref 12]] [(4, bA false), (6, .ptr 7 0), (7, bA (Q7 p m)), (10, .ptr 10 0), (13, iA (1 + (↑(J4 (B3 2 p m)) : Int))), (14, iA (1 + (↑(J4 (B3 2 p m)) : Int))), (15, .ptr 13 0), (16, bA (Q7 p m))] fun G => b5 (wp_seq (wp_seq (B5 G (E4 (A3 2 [11, 12, 5, 6] (t7.lend (U6 (B3 2 p m)) [.row 3, .tree, .row 3, .tree]) E3) (fc (b := false) rfl fz) [(5, 0), (6, 0), (7, 0), (1008, 0)]) [0, 1, 2, 3, 4, 8, 9, 10] [dI p.vars, dI p.arrays, dT p.body, dI m.vals, dR m.arrs, .row 3 (D.ints (mkM (B3 2 p m) 1).vals), .tree (D.rows (mkM (B3 2 p m) 1).arrs), .box [.ref 5, .tref 6]] [(4, bA false), (10, .ptr 7 0), (13, iA (1 + (↑(J4 (B3 2 p m)) : Int))), (14, iA (1 + (↑(J4 (B3 2 p m)) : Int))), (110, .v (.bool !Q7 p m == Q7 p m))] fun G => b5 ?_))))))))))))))))))))))))))))
      refine rF G (!Q7 p m == Q7 p m) (by simp [h0, h1, h2, q2, h3]) (wp_skip (b5 (wp_seq (m6 G l5 [(14, iA 1)] fun G => b5 (wp_seq (B5 G (P4 2 [5, 6] (t7.lend (ad7 (B3 2 p m) 1 (by omega) (by omega) (by omega)) [.row 3, .tree])) (rg 5) [dI p.vars, dI p.arrays, dT p.body, dI m.vals, dR m.arrs] [(4, bA false), (13, iA (1 + (↑(J4 (B3 2 p m)) : Int))), (14, iA (1 + (↑(J4 (B3 2 p m)) : Int)))] fun G => b5 (wp_seq (wp_seq (m6 G l5 [(115, bA false)] fun G => b5 (rF G false (by kernel_rfl) (wp_skip (b5 (wp_seq (wp_seq (m6 G l5 [(118, bA (1 + (↑(J4 (B3 2 p m)) : Int) != 1 + (↑(J4 (B3 2 p m)) : Int)))] fun G => b5 (rF G ((1 : Int) + (↑(J4 (B3 (2 : Int) p m)) : Int) != 1 + (↑(J4 (B3 (2 : Int) p m)) : Int)) (by simp [h0, h1, h2, q2, h3]) (wp_skip (b5 (wp_seq (m6 G l5 [(4, bA true)] fun G => b5 (wp_ret ?_))))))))))))))))))))); exact rxr G (rg 5)
     · have q3 := Y6 h3; exact False.elim (by omega)
    · have q2 : (p.same p) = false := (Eq.mp (bc6 _) h2); exact False.elim (aO7 _ (by with_reducible assumption))
   · have q1 := Y6 h1; refine rT G _ h1 (wp_seq (m6 G l5 [(4, bA true)] fun G => b5 (wp_ret (m5 ?_)))); exact rxr G (rg 5)
  · have q0 := Y6 h0; refine rT G _ h0 (wp_seq (m6 G l5 [(4, bA true)] fun G => b5 (wp_ret (m5 ?_)))); exact rxr G (rg 5)
theorem a98 (u1 : Value) (p : l6) (u3 : Value) (m : D9) (w : World) (h1 : ae0 w (fun _ => True) u1 p) (h3 : a94 w (fun _ => True) u3 m) : Calls Try.prog 11 #[u1, u3] w fun e w' => e = .returned (.bool true) ∧ Below w.heap.size w w' := by
 obtain ⟨a1, a2, a3, rfl, x1, x2, x3⟩ := h1
 obtain ⟨c1, c2, rfl, z1, z2⟩ := h3
 exact aU2 [.ints p.vars, .ints p.arrays, .stmts p.body, .ints m.vals, .rows m.arrs] [a1, a2, a3, c1, c2] (a85 p m) (by simp [AV.ids, AV.idsL]) w ⟨x1, x2, x3, z1, z2, bc4⟩
end Go.Proofs.Ytgmhmijcnlfmfaa.exTrustedPart

namespace Go.Proofs.Ytgmhmijcnlfmfaa.exTrustedPart
open Go Go.RowKit Go.ChangeShapes Go.WideShapes Go.ChangeAt Go.Proofs.Ytgmhmijcnlfmfaa
theorem lifted (os : Os) (started : os.Started) (H : Type) (enc : TypeId × Value → H) :
  ReturnsInHanded {} Try.checked os 11 .any (Rows.fnExactTrustedPartSpec.pre6 enc Try.prog Try.f11 Rows.fnExactTrustedPartRow.domain false) (Rows.fnExactTrustedPartSpec.post enc Try.prog Try.f11 false true false false) := by
 refine returnsInHanded_of_change (C := Try.checked) own started (by kernel_rfl) Try.func11
  (ChangeSpec.witness6 (enc := enc) (C := Try.checked) false ⟨#[], #[.agg #[.slice none 0 0, .slice none 0 0, .slice none 0 0], .agg #[.slice none 0 0, .slice none 0 0]], []⟩ 8 (by kernel_rfl) (by kernel_rfl) (by kernel_rfl) (by kernel_rfl)) ?_
 intro W base args ds gs before hval0 hW hcnd _
 have hval : ∀ (j : Nat) t v, Try.f11.params[j]? = some t → args[j]? = some v → Value.okWide Try.prog W .any base t v := hval0
 have hW' := hW
 obtain ⟨p, q, hA0, hV, rfl, hfz, hnd⟩ := hW
 have hA : DataW.TrodAll enc Try.prog W 0 (fun _ => true) true Try.f11.params.toList args.toList ds p := hA0
 rw [Try.params11] at hA hval
 obtain ⟨v0, vs0, d0, ds0, p0, q0, hargs, rfl, rfl, h0, r0⟩ := trodAll_cons hA
 obtain ⟨v1, vs1, d1, ds1, p1, q1, rfl, rfl, rfl, h1, r1⟩ := trodAll_cons r0
 obtain ⟨rfl, rfl, rfl⟩ := trodAll_nil r1
 obtain rfl : args = #[v0, v1] := by cases args; simp_all
 obtain ⟨rfl, rfl⟩ := trodVars_none hV
 have k0 := h0
 have lt0 : ∀ x ∈ p0, x.block < W.heap.size := by obtain ⟨m, hm⟩ := k0; exact DataW.trod_lt m _ _ _ hm
 obtain ⟨x0, hx0⟩ := as5 (hval 0 76 v0 rfl rfl) h0
 have k1 := h1
 have lt1 : ∀ x ∈ p1, x.block < W.heap.size := by obtain ⟨m, hm⟩ := k1; exact DataW.trod_lt m _ _ _ hm
 obtain ⟨x1, hx1⟩ := ax3 (hval 1 77 v1 rfl rfl) h1
 clear hA0 hval0
 refine (a98 _ x0 _ x1 W hx0 hx1).mono fun e W' ⟨he, bel⟩ => ?_
 subst he
 exact ⟨_, rfl, _, _, _, [], _, [], hW', trodAll_mk1 (shut_bool Try.underlying4 _), (trodAll_cons_mk (Below.trod aI0 (by kernel_rfl) (of_decide_eq_true (by kernel_rfl)) k0 bel lt0) (trodAll_cons_mk (Below.trod aI0 (by kernel_rfl) (of_decide_eq_true (by kernel_rfl)) k1 bel lt1) trodAll_mk0)), rfl, bel.frame _, fun h => by cases h⟩
theorem facts : joinedFacts Try.pinned.checked.prog 11 Try.f11 Rows.fnExactTrustedPartSpec Rows.fnExactTrustedPartRow = true := by
 unfold joinedFacts
 rw [may_enter, lifts_final, make_is]
 kernel_rfl
theorem over : Rows.fnExactTrustedPartRow.holds Try.pinned (OpenSpec.ofChange Rows.fnExactTrustedPartSpec) :=
 OpenClaim.holds_of_wide 11 Try.f11 rfl rfl rfl rfl rfl rfl rfl ⟨rfl, rfl, rfl, rfl, rfl⟩ rfl rfl rfl rfl rfl (by kernel_rfl) Try.func11 facts
  (of_decide_eq_true (by kernel_rfl)) (by unfold Func.isWrapper; first | (rw [if_pos (by decide +kernel)]; kernel_rfl) | (rw [if_neg (by decide +kernel)]; exact ⟨rfl, rfl⟩))
  (fun os started H enc _ => lifted os started H enc)
theorem proved : Rows.FnExactTrustedPartSaid := over
end Go.Proofs.Ytgmhmijcnlfmfaa.exTrustedPart
