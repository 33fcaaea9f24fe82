/-
  ExtendMemory: the statement, whatever the argument. Conditions: none beyond the statement's own.
-/
import Derived.Test.YtgmhmijcnlfmfaaK1
import Derived.Test.YtgmhmijcnlfmfaaK2
import Derived.Test.YtgmhmijcnlfmfaaK3
import Derived.Test.YtgmhmijcnlfmfaaK4
import Derived.Test.YtgmhmijcnlfmfaaK5
import Derived.Test.YtgmhmijcnlfmfaaK6
import Derived.Test.YtgmhmijcnlfmfaaEnter1M
import Derived.Test.YtgmhmijcnlfmfaaEnter2M
import Derived.Test.YtgmhmijcnlfmfaaEnter3M
set_option maxRecDepth 100000
set_option maxHeartbeats 16000000
set_option linter.unusedVariables false
set_option linter.unusedSimpArgs false
open Bool renaming not_eq_false' → bb1, not_eq_true' → bb0
open True renaming intro → ba8
namespace Go.Proofs.Ytgmhmijcnlfmfaa.exExtendMemory
open Go Go.RowKit Go.Proofs.Ytgmhmijcnlfmfaa
theorem a24 (p q : k8) (m : D6) : mZ (J0 p q m) ≤ mZ m + q.vars.length := by
 show (J0 p q m).vals.length + ((J0 p q m).arrs.length + K2 (J0 p q m).arrs) ≤ m.vals.length + (m.arrs.length + K2 m.arrs) + q.vars.length
 unfold J0; split
 ·simp only [List.length_append, List.length_replicate]; omega
 ·simp [K2]
abbrev v7 (p : k8) (q : k8) (m : D6) (r0 : List It) : List It := dI p.vars :: dI p.arrays :: dT p.body :: dI q.vars :: dI q.arrays :: dT q.body :: dI m.vals :: dR m.arrs :: .box (pL 0) :: .box (pL 3) :: .box [.ref 6, .ref 7] :: .row 3 (D.ints (J0 p q m).vals) :: .tree (D.rows (J0 p q m).arrs) :: .box [.ref 11, .tref 12] :: r0
abbrev t0 (p : k8) (q : k8) (m : D6) (r0 : List (Nat × AV)) : List (Nat × AV) := (3, .ptr 8 0) :: (4, .ptr 9 0) :: (5, .ptr 10 0) :: (6, bA false) :: (8, .ptr 13 0) :: (9, bA (X1 p q m)) :: r0
abbrev K5 (p : k8) (q : k8) (r0 : List It) : List It := .row 3 (D.ints p.vars) :: .row 3 (D.ints p.arrays) :: .tree (D.stmts p.body) :: .box [.ref 14, .ref 15, .tref 16] :: .row 3 (D.ints q.vars) :: .row 3 (D.ints q.arrays) :: .tree (D.stmts q.body) :: .box [.ref 18, .ref 19, .tref 20] :: r0
abbrev E4 (p : k8) (q : k8) (m : D6) (r0 : List It) : List It := dI p.vars :: dI p.arrays :: dT p.body :: dI q.vars :: dI q.arrays :: dT q.body :: dI m.vals :: dR m.arrs :: r0
theorem a70 (p q : k8) (m : D6) : t8.ok Try.prog ⟨9, [pA 0, pA 3, mA 6], pS p ++ pS q ++ mS m, pS p ++ pS q ++ mS m, bA true⟩ := by
  have htp := ah0 p; have htq := ah0 q; have htm := aC1 m; have hsr := ah7 p q m; have hir := ah8 p q m; have hmp := aU9; refine N0 142 Try.func9 (E4 p q m []) [(0, pA 0), (1, pA 3), (2, .agg [.ref 6, .ref 7])] fun G => ?_; have hpp := ak8 p; have hqq := ak8 q; have hmm := af1 m; have hrm := a24 p q m; have hrp := af1 (J0 p q m); refine wp_seq (B8 G l6 [0, 1, 2, 3, 4, 5, 6, 7, 8, 16, 24] (E4 p q m [.box (pL 0), .box (pL 3), .box [.ref 6, .ref 7]]) [(3, .ptr 8 0), (4, .ptr 9 0), (5, .ptr 10 0), (6, bA false)] fun G => b5 (wp_seq (m7 G l6 [(7, iA 1048576)] fun G => b5 (wp_seq (m7 G (T4 2 [0, 1, 2] (ah4 p 1048576 (by omega) (by omega))) [(7, iA (m5 1048576 p.size))] fun G => b5 (wp_seq (wp_seq (R2 G l6 [(3, .ptr 8 0), (4, .ptr 9 0), (5, .ptr 10 0), (6, bA false), (7, iA (m5 1048576 p.size)), (24, bA (decide (m5 1048576 p.size < 0)))] fun G => b5 ?_)))))))); cases h0 : (decide (m5 (1048576 : Int) p.size < 0))
  ·
   have q0 := X3 h0; have hz1 := fzq (q := 1048576) (n := p.size) (by omega) (by omega); refine rF G _ h0 (wp_skip (b5 (wp_seq (m7 G (T4 2 [3, 4, 5] (ah4 q (m5 1048576 p.size) (by omega) (by omega))) [(7, iA (m5 (m5 1048576 p.size) q.size))] fun G => b5 (wp_seq (wp_seq (R2 G l6 [(3, .ptr 8 0), (4, .ptr 9 0), (5, .ptr 10 0), (6, bA false), (7, iA (m5 (m5 1048576 p.size) q.size)), (29, bA (decide (m5 (m5 1048576 p.size) q.size < 0)))] fun G => b5 ?_))))))); cases h1 : (decide (m5 (m5 (1048576 : Int) p.size) q.size < 0))
   ·
    have q1 := X3 h1; have hz2 := fzq (q := m5 1048576 p.size) (n := q.size) (by omega) (by omega); refine rF G _ h1 (wp_skip (b5 (wp_seq (m7 G (T4 2 [6, 7] (aF9 m (m5 (m5 1048576 p.size) q.size) (by omega) (by omega))) [(7, iA (m5 (m5 (m5 1048576 p.size) q.size) (mZ m)))] fun G => b5 (wp_seq (wp_seq (R2 G l6 [(3, .ptr 8 0), (4, .ptr 9 0), (5, .ptr 10 0), (6, bA false), (34, bA (decide (m5 (m5 (m5 1048576 p.size) q.size) (mZ m) < 0)))] fun G => b5 ?_))))))); cases h2 : (decide (m5 (m5 (m5 (1048576 : Int) p.size) q.size) (mZ m) < 0))
    ·
     have q2 := X3 h2; have hz3 := fzq (q := m5 (m5 1048576 p.size) q.size) (n := mZ m) (by omega) (by omega); refine rF G _ h2 (wp_skip (b5 (wp_seq (ax6 G (D2 (t6 1 [0, 1, 2] (htp (by omega)) (t6 3 [3, 4, 5] (htq (by omega)) (t6 5 [6, 7] (htm (by omega)) (t6 6 [19, 20, 21, 35, 36, 37, 51, 52] (t8.lend (hsr (by omega) (by omega) (by omega) (by omega) (aE8 (by omega)) (by omega)) [.row 3, .row 3, .tree, .row 3, .row 3, .tree, .row 3, .tree]) D0)))) fz []) [0, 1, 0, 7, 0, 31, 63, 127, 255, 255, 0, 1535, 4095] [0, 1, 2, 3, 4, 5, 6, 7, 8, 9, 10, 59, 60, 91] (v7 p q m []) (t0 p q m []) fun G => b5 (wp_seq (B8 G (T4 1 [0, 1, 2] (htp (by omega))) [0, 1, 2, 3, 4, 5, 6, 7, 8, 9, 10, 11, 12, 13, 22, 23, 24, 30] (v7 p q m [.row 3 (D.ints p.vars), .row 3 (D.ints p.arrays), .tree (D.stmts p.body), .box [.ref 14, .ref 15, .tref 16]]) (t0 p q m [(10, .ptr 17 0)]) fun G => b5 (wp_seq (B8 G (T4 1 [3, 4, 5] (htq (by omega))) [0, 1, 2, 3, 4, 5, 6, 7, 8, 9, 10, 11, 12, 13, 14, 15, 16, 17, 26, 27, 28, 34] (v7 p q m (K5 p q [])) (t0 p q m [(10, .ptr 17 0), (11, .ptr 21 0)]) fun G => b5 (wp_seq (B8 G (T4 1 [6, 7] (htm (by omega))) [0, 1, 2, 3, 4, 5, 6, 7, 8, 9, 10, 11, 12, 13, 14, 15, 16, 17, 18, 19, 20, 21, 30, 31, 38] (v7 p q m (K5 p q [.row 3 (D.ints m.vals), .tree (D.rows m.arrs), .box [.ref 22, .tref 23]])) (t0 p q m [(10, .ptr 17 0), (11, .ptr 21 0), (12, .ptr 24 0)]) fun G => b5 (wp_seq (B8 G (T4 3 [14, 15, 16, 18, 19, 20, 22, 23] (t8.lend (hir (by omega) (by omega) (aE8 (by omega)) (by omega)) [.row 3, .row 3, .tree, .row 3, .row 3, .tree, .row 3, .tree])) [0, 1, 2, 3, 4, 5, 6, 7, 8, 9, 10, 11, 12, 13, 14, 15, 16, 17, 18, 19, 20, 21, 22, 23, 24, 49, 50, 81] (v7 p q m (K5 p q [.row 3 (D.ints m.vals), .tree (D.rows m.arrs), .box [.ref 22, .tref 23], .row 3 (D.ints (J0 p q m).vals), .tree (D.rows (J0 p q m).arrs), .box [.ref 25, .tref 26]])) (t0 p q m [(10, .ptr 17 0), (11, .ptr 21 0), (12, .ptr 24 0), (13, .ptr 27 0), (14, bA (X1 p q m))]) fun G => ?_))))))))))))
     refine b5 (wp_seq (wp_seq (m7 G (D2 (t6 2 [25, 26, 11, 12] (t8.lend (U9 (J0 p q m)) [.row 3, .tree, .row 3, .tree]) D0) (fc (b := false) rfl fz) [(5, 0), (6, 0), (7, 0), (1008, 0)]) [(66, .v (.bool !X1 p q m == X1 p q m))] fun G => b5 (rF G (!X1 p q m == X1 p q m) (by simp [h0, h1, h2]) (wp_skip (b5 (wp_seq (wp_seq (a51 G (D2 (t6 2 [0, 1, 2] (htp (by omega)) (t6 3 [14, 15, 16, 44, 45, 46] (t8.lend (ah5 p p) [.row 3, .row 3, .tree, .row 3, .row 3, .tree]) D0)) fz []) [0, 0, 2, 7, 15] (t0 p q m [(10, .ptr 17 0), (11, .ptr 21 0), (12, .ptr 24 0), (13, .ptr 27 0), (14, bA (X1 p q m)), (71, .v (.bool !p.same p))]) fun G => b5 ?_))))))))); cases h3 : (!p.same p)
     ·
      have q3 : (p.same p) = true := (Eq.mp (bb1 _) h3); refine rF G _ h3 (wp_skip (b5 (wp_seq (wp_seq (a51 G (D2 (t6 2 [3, 4, 5] (htq (by omega)) (t6 3 [18, 19, 20, 44, 45, 46] (t8.lend (ah5 q q) [.row 3, .row 3, .tree, .row 3, .row 3, .tree]) D0)) fz []) [0, 0, 2, 7, 15] (t0 p q m [(10, .ptr 17 0), (11, .ptr 21 0), (12, .ptr 24 0), (13, .ptr 27 0), (14, bA (X1 p q m)), (76, .v (.bool !q.same q))]) fun G => b5 ?_))))); cases h4 : (!q.same q)
      ·
       have q4 : (q.same q) = true := (Eq.mp (bb1 _) h4); refine rF G _ h4 (wp_skip (b5 (wp_seq (wp_seq (aP7 G (D2 (t6 2 [6, 7] (htm (by omega)) (t6 3 [22, 23, 44, 45] (t8.lend (U9 m) [.row 3, .tree, .row 3, .tree]) D0)) fz []) [0, 0, 2, 7, 15] [(81, bA false)] fun G => b5 (rF G false (by kernel_rfl) (wp_skip (b5 (wp_seq (m7 G l6 [(15, iA 1)] fun G => b5 (wp_seq (B8 G (T4 2 [14, 15, 16] (hmp p 1 (by omega) (by omega))) [0, 1, 2, 3, 4, 5, 6, 7, 8, 9, 10, 11, 12, 13, 18, 19, 20, 21, 22, 23, 24, 25, 26, 27] (v7 p q m [.row 3 (D.ints q.vars), .row 3 (D.ints q.arrays), .tree (D.stmts q.body), .box [.ref 14, .ref 15, .tref 16], .row 3 (D.ints m.vals), .tree (D.rows m.arrs), .box [.ref 18, .tref 19], .row 3 (D.ints (J0 p q m).vals), .tree (D.rows (J0 p q m).arrs), .box [.ref 21, .tref 22]]) (t0 p q m [(11, .ptr 17 0), (12, .ptr 20 0), (13, .ptr 23 0), (14, bA (X1 p q m)), (15, iA (1 + R3 p))]) fun G => b5 (wp_seq (B8 G (T4 2 [14, 15, 16] (hmp q (1 + R3 p) (by omega) (by omega))) [0, 1, 2, 3, 4, 5, 6, 7, 8, 9, 10, 11, 12, 13, 18, 19, 20, 21, 22, 23] (v7 p q m [.row 3 (D.ints m.vals), .tree (D.rows m.arrs), .box [.ref 14, .tref 15], .row 3 (D.ints (J0 p q m).vals), .tree (D.rows (J0 p q m).arrs), .box [.ref 17, .tref 18]]) (t0 p q m [(12, .ptr 16 0), (13, .ptr 19 0), (14, bA (X1 p q m)), (15, iA (1 + R3 p + R3 q))]) fun G => b5 (wp_seq (B8 G (T4 2 [14, 15] (ad9 m (1 + R3 p + R3 q) (by omega) (by omega) (by omega))) [0, 1, 2, 3, 4, 5, 6, 7, 8, 9, 10, 11, 12, 13, 17, 18, 19] (v7 p q m [.row 3 (D.ints (J0 p q m).vals), .tree (D.rows (J0 p q m).arrs), .box [.ref 14, .tref 15]]) (t0 p q m [(13, .ptr 16 0), (14, bA (X1 p q m)), (15, iA (1 + R3 p + R3 q + (↑(J7 m) : Int)))]) fun G => b5 (wp_seq (wp_seq ?_)))))))))))))))))); cases h5 : (decide ((1 : Int) + R3 p + R3 q + (↑(J7 m) : Int) < 0))
       ·
        have q5 := X3 h5; refine m7 G (D2 (t6 5 [14, 15, 11, 12] (t8.lend (U9 (J0 p q m)) [.row 3, .tree, .row 3, .tree]) D0) (fc h5 (fc (b := false) rfl fz)) (us [(3, 6, 0), (1007, 1007, 0), (9, 11, 1), (1012, 1012, 1)])) [(103, .v (.bool !X1 p q m == X1 p q m))] fun G => b5 (rF G (!X1 p q m == X1 p q m) (by simp [h0, h1, h2, h3, q3, h4, q4, h5]) (wp_skip (b5 (wp_seq (m7 G l6 [(16, iA 1)] fun G => b5 (wp_seq (B8 G (T4 2 [14, 15] (ad9 (J0 p q m) 1 (by omega) (by omega) (by omega))) (rg 17) (v7 p q m [.row 3 (D.ints (mkM (J0 p q m) 1).vals), .tree (D.rows (mkM (J0 p q m) 1).arrs), .box [.ref 14, .tref 15]]) (t0 p q m [(13, .ptr 16 0), (16, iA (1 + (↑(J7 (J0 p q m)) : Int)))]) fun G => b5 (wp_seq (m7 G l6 [(17, iA 1)] fun G => b5 (wp_seq (m7 G (T4 2 [14, 15] (t8.lend (ae0 (J0 p q m) 1 (by omega) (by omega) (by omega)) [.row 3, .tree])) [(17, iA (1 + (↑(J7 (J0 p q m)) : Int)))] fun G => b5 (wp_seq (wp_seq (m7 G l6 [(111, bA false)] fun G => b5 (rF G false (by kernel_rfl) (wp_skip (b5 (wp_seq (wp_seq (m7 G l6 [(114, bA (1 + (↑(J7 (J0 p q m)) : Int) != 1 + (↑(J7 (J0 p q m)) : Int)))] fun G => b5 (rF G ((1 : Int) + (↑(J7 (J0 p q m)) : Int) != 1 + (↑(J7 (J0 p q m)) : Int)) (by simp [h0, h1, h2, h3, q3, h4, q4, h5]) (wp_skip (b5 (wp_seq (ax6 G (D2 (t6 1 [0, 1, 2] (htp (by omega)) (t6 3 [3, 4, 5] (htq (by omega)) (t6 5 [6, 7] (htm (by omega)) (t6 6 [25, 26, 27, 41, 42, 43, 57, 58] (t8.lend (hir (by omega) (by omega) (aE8 (by omega)) (by omega)) [.row 3, .row 3, .tree, .row 3, .row 3, .tree, .row 3, .tree]) D0)))) fz []) [0, 1, 0, 7, 0, 31, 63, 127, 255, 255, 0, 1535, 4095] [0, 1, 2, 3, 4, 5, 6, 7, 11, 12, 13, 14, 15, 16, 65, 66, 97] (E4 p q m [.row 3 (D.ints (J0 p q m).vals), .tree (D.rows (J0 p q m).arrs), .box [.ref 8, .tref 9], .row 3 (D.ints (mkM (J0 p q m) 1).vals), .tree (D.rows (mkM (J0 p q m) 1).arrs), .box [.ref 11, .tref 12], .row 3 (D.ints (J0 p q m).vals), .tree (D.rows (J0 p q m).arrs), .box [.ref 14, .tref 15]]) [(6, bA false), (8, .ptr 10 0), (9, bA (X1 p q m)), (13, .ptr 13 0), (16, iA (1 + (↑(J7 (J0 p q m)) : Int))), (17, iA (1 + (↑(J7 (J0 p q m)) : Int))), (18, .ptr 16 0), (19, bA (X1 p q m))] fun G => b5 (wp_seq (wp_seq (B8 G (D2 (t6 2 [14, 15, 8, 9] (t8.lend (U9 (J0 p q m)) [.row 3, .tree, .row 3, .tree]) D0) (fc (b := false) rfl fz) [(5, 0), (6, 0), (7, 0), (1008, 0)]) [0, 1, 2, 3, 4, 5, 6, 7, 11, 12, 13] (E4 p q m [.row 3 (D.ints (mkM (J0 p q m) 1).vals), .tree (D.rows (mkM (J0 p q m) 1).arrs), .box [.ref 8, .tref 9]]) [(6, bA false), (13, .ptr 10 0), (16, iA (1 + (↑(J7 (J0 p q m)) : Int))), (17, iA (1 + (↑(J7 (J0 p q m)) : Int))), (133, .v (.bool !X1 p q m == X1 p q m))] fun G => ?_))))))))))))))))))))))))))))
        refine b5 (rF G (!X1 p q m == X1 p q m) (by simp [h0, h1, h2, h3, q3, h4, q4, h5]) (wp_skip (b5 (wp_seq (m7 G l6 [(17, iA 1)] fun G => b5 (wp_seq (B8 G (T4 2 [8, 9] (t8.lend (ae0 (J0 p q m) 1 (by omega) (by omega) (by omega)) [.row 3, .tree])) (rg 8) (E4 p q m []) [(6, bA false), (16, iA (1 + (↑(J7 (J0 p q m)) : Int))), (17, iA (1 + (↑(J7 (J0 p q m)) : Int)))] fun G => b5 (wp_seq (wp_seq (m7 G l6 [(138, bA false)] fun G => b5 (rF G false (by kernel_rfl) (wp_skip (b5 (wp_seq (wp_seq (m7 G l6 [(141, bA (1 + (↑(J7 (J0 p q m)) : Int) != 1 + (↑(J7 (J0 p q m)) : Int)))] fun G => b5 (rF G ((1 : Int) + (↑(J7 (J0 p q m)) : Int) != 1 + (↑(J7 (J0 p q m)) : Int)) (by simp [h0, h1, h2, h3, q3, h4, q4, h5]) (wp_skip (b5 (wp_seq (m7 G l6 [(6, bA true)] fun G => b5 (wp_ret ?_)))))))))))))))))))))); exact rxr G (rg 8)
       · have q5 := X2 h5; exact False.elim (by omega)
      · have q4 : (q.same q) = false := (Eq.mp (bb0 _) h4); exact False.elim (ax1 _ (by with_reducible assumption))
     · have q3 : (p.same p) = false := (Eq.mp (bb0 _) h3); exact False.elim (ax1 _ (by with_reducible assumption))
    · have q2 := X2 h2; refine rT G _ h2 (wp_seq (m7 G l6 [(6, bA true)] fun G => b5 (wp_ret (l9 ?_)))); exact rxr G (rg 8)
   · have q1 := X2 h1; refine rT G _ h1 (wp_seq (m7 G l6 [(6, bA true)] fun G => b5 (wp_ret (l9 ?_)))); exact rxr G (rg 8)
  · have q0 := X2 h0; refine rT G _ h0 (wp_seq (m7 G l6 [(6, bA true)] fun G => b5 (wp_ret (l9 ?_)))); exact rxr G (rg 8)
theorem a81 (u1 : Value) (p : k8) (u2 : Value) (q : k8) (u3 : Value) (m : D6) (w : World) (h1 : Z8 w (fun _ => True) u1 p) (h2 : Z8 w (fun _ => True) u2 q) (h3 : a79 w (fun _ => True) u3 m) : Calls Try.prog 9 #[u1, u2, u3] w fun e w' => e = .returned (.bool true) ∧ Below w.heap.size w w' := by
 obtain ⟨a1, a2, a3, rfl, x1, x2, x3⟩ := h1
 obtain ⟨b1, b2, b3, rfl, y1, y2, y3⟩ := h2
 obtain ⟨c1, c2, rfl, z1, z2⟩ := h3
 exact aU3 [.ints p.vars, .ints p.arrays, .stmts p.body, .ints q.vars, .ints q.arrays, .stmts q.body, .ints m.vals, .rows m.arrs] [a1, a2, a3, b1, b2, b3, c1, c2] (a70 p q m) (by simp [AV.ids, AV.idsL]) w ⟨x1, x2, x3, y1, y2, y3, z1, z2, ba8⟩
end Go.Proofs.Ytgmhmijcnlfmfaa.exExtendMemory

namespace Go.Proofs.Ytgmhmijcnlfmfaa.exExtendMemory
open Go Go.RowKit Go.ChangeShapes Go.WideShapes Go.ChangeAt Go.Proofs.Ytgmhmijcnlfmfaa
theorem lifted (os : Os) (started : os.Started) (H : Type) (enc : TypeId × Value → H) :
  ReturnsInHanded {} Try.checked os 9 .any (Rows.fnExactExtendMemorySpec.pre6 enc Try.prog Try.f9 Rows.fnExactExtendMemoryRow.domain false) (Rows.fnExactExtendMemorySpec.post enc Try.prog Try.f9 false true false false) := by
 refine returnsInHanded_of_change (C := Try.checked) own started (by kernel_rfl) Try.func9
  (ChangeSpec.witness6 (enc := enc) (C := Try.checked) false ⟨#[], #[.agg #[.slice none 0 0, .slice none 0 0, .slice none 0 0], .agg #[.slice none 0 0, .slice none 0 0, .slice none 0 0], .agg #[.slice none 0 0, .slice none 0 0]], []⟩ 8 (by kernel_rfl) (by kernel_rfl) (by kernel_rfl) (by kernel_rfl)) ?_
 intro W base args ds gs before hval0 hW hcnd _
 have hval : ∀ (j : Nat) t v, Try.f9.params[j]? = some t → args[j]? = some v → Value.okWide Try.prog W .any base t v := hval0
 have hW' := hW
 obtain ⟨p, q, hA0, hV, rfl, hfz, hnd⟩ := hW
 have hA : DataW.TrodAll enc Try.prog W 0 (fun _ => true) true Try.f9.params.toList args.toList ds p := hA0
 rw [Try.params9] at hA hval
 obtain ⟨v0, vs0, d0, ds0, p0, q0, hargs, rfl, rfl, h0, r0⟩ := trodAll_cons hA
 obtain ⟨v1, vs1, d1, ds1, p1, q1, rfl, rfl, rfl, h1, r1⟩ := trodAll_cons r0
 obtain ⟨v2, vs2, d2, ds2, p2, q2, rfl, rfl, rfl, h2, r2⟩ := trodAll_cons r1
 obtain ⟨rfl, rfl, rfl⟩ := trodAll_nil r2
 obtain rfl : args = #[v0, v1, v2] := by cases args; simp_all
 obtain ⟨rfl, rfl⟩ := trodVars_none hV
 have k0 := h0
 have lt0 : ∀ x ∈ p0, x.block < W.heap.size := by obtain ⟨m, hm⟩ := k0; exact DataW.trod_lt m _ _ _ hm
 obtain ⟨x0, hx0⟩ := ac4 (hval 0 76 v0 rfl rfl) h0
 have k1 := h1
 have lt1 : ∀ x ∈ p1, x.block < W.heap.size := by obtain ⟨m, hm⟩ := k1; exact DataW.trod_lt m _ _ _ hm
 obtain ⟨x1, hx1⟩ := ac4 (hval 1 76 v1 rfl rfl) h1
 have k2 := h2
 have lt2 : ∀ x ∈ p2, x.block < W.heap.size := by obtain ⟨m, hm⟩ := k2; exact DataW.trod_lt m _ _ _ hm
 obtain ⟨x2, hx2⟩ := ay6 (hval 2 77 v2 rfl rfl) h2
 clear hA0 hval0
 refine (a81 _ x0 _ x1 _ x2 W hx0 hx1 hx2).mono fun e W' ⟨he, bel⟩ => ?_
 subst he
 exact ⟨_, rfl, _, _, _, [], _, [], hW', trodAll_mk1 (shut_bool Try.underlying4 _), (trodAll_cons_mk (Below.trod au8 (by kernel_rfl) (of_decide_eq_true (by kernel_rfl)) k0 bel lt0) (trodAll_cons_mk (Below.trod au8 (by kernel_rfl) (of_decide_eq_true (by kernel_rfl)) k1 bel lt1) (trodAll_cons_mk (Below.trod au8 (by kernel_rfl) (of_decide_eq_true (by kernel_rfl)) k2 bel lt2) trodAll_mk0))), rfl, bel.frame _, fun h => by cases h⟩
theorem facts : joinedFacts Try.pinned.checked.prog 9 Try.f9 Rows.fnExactExtendMemorySpec Rows.fnExactExtendMemoryRow = true := by
 unfold joinedFacts
 rw [may_enter, lifts_final, make_is]
 kernel_rfl
theorem over : Rows.fnExactExtendMemoryRow.holds Try.pinned (OpenSpec.ofChange Rows.fnExactExtendMemorySpec) :=
 OpenClaim.holds_of_wide 9 Try.f9 rfl rfl rfl rfl rfl rfl rfl ⟨rfl, rfl, rfl, rfl, rfl⟩ rfl rfl rfl rfl rfl (by kernel_rfl) Try.func9 facts
  (of_decide_eq_true (by kernel_rfl)) (by unfold Func.isWrapper; first | (rw [if_pos (by decide +kernel)]; kernel_rfl) | (rw [if_neg (by decide +kernel)]; exact ⟨rfl, rfl⟩))
  (fun os started H enc _ => lifted os started H enc)
theorem proved : Rows.FnExactExtendMemorySaid := over
end Go.Proofs.Ytgmhmijcnlfmfaa.exExtendMemory
