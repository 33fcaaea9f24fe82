/-
  EvalExpr: the statement, whatever the argument. Conditions: none beyond the statement's own.
-/
import Derived.Test.YtgmhmijcnlfmfaaK1
import Derived.Test.YtgmhmijcnlfmfaaK2
import Derived.Test.YtgmhmijcnlfmfaaK3
import Derived.Test.YtgmhmijcnlfmfaaK4
import Derived.Test.YtgmhmijcnlfmfaaK5
import Derived.Test.YtgmhmijcnlfmfaaK6
import Derived.Test.YtgmhmijcnlfmfaaEnter1M
import Derived.Test.YtgmhmijcnlfmfaaEnter2M
import Derived.Test.YtgmhmijcnlfmfaaEnter3M
set_option maxRecDepth 100000
set_option maxHeartbeats 16000000
set_option linter.unusedVariables false
set_option linter.unusedSimpArgs false
open Bool renaming not_eq_false' → bg1, not_eq_true' → bf8
open True renaming intro → bf4
namespace Go.Proofs.Ytgmhmijcnlfmfaa.exEvalExpr
open Go Go.RowKit Go.Proofs.Ytgmhmijcnlfmfaa
theorem a82 (p : l9) (m : A6) (e : b7) : (A9 p m e).2.length ≤ B9 e + 1 := by
 unfold A9; split
 ·exact aK4 m e
 ·simp
theorem aZ1 (e : b7) : J1 e e = true := (S7 e e).2 rfl
theorem a98 (e : b7) : ¬ ((!J1 e e) = true) := by rw [aZ1]; decide
abbrev F6 (p : l9) (m : A6) (e : b7) : It := .row 54 (D.events (A9 p m e).snd)
abbrev D7 (p : l9) (m : A6) (e : b7) : AV := iA (1 + 2 * ((A9 p m e).snd.length : Int))
abbrev A8 (p : l9) (m : A6) (e : b7) (r0 : List (Nat × AV)) : List (Nat × AV) := (3, .ptr 6 0) :: (4, .ptr 7 0) :: (5, .ptr 8 0) :: (6, bA false) :: (8, iA (A9 p m e).fst) :: (9, .ref 9) :: (10, bA (F9 p m e)) :: r0
abbrev C9 (p : l9) (m : A6) (e : b7) (r0 : List It) : List It := dI p.vars :: dI p.arrays :: dT p.body :: dI m.vals :: dR m.arrs :: dE e.kids :: .box (pL 0) :: .box [.ref 3, .ref 4] :: .box (eL e 5) :: F6 p m e :: r0
abbrev T7 (p : l9) (m : A6) (r0 : List It) : List It := .row 3 (D.ints p.vars) :: .row 3 (D.ints p.arrays) :: .tree (D.stmts p.body) :: .box [.ref 10, .ref 11, .tref 12] :: .row 3 (D.ints m.vals) :: .tree (D.rows m.arrs) :: .box [.ref 14, .tref 15] :: r0
theorem bb6 (p : l9) (m : A6) (e : b7) : t6.ok Try.prog ⟨12, [pA 0, mA 3, eA e 5], pS p ++ mS m ++ eS e, pS p ++ mS m ++ eS e, bA true⟩ := by
  have htp := ax5 p; have htm := aD7 m; have hte := aQ0 e; have hsr := ax6 p m e; have hir := ax7 p m e; have hmp := aX8; have hme := aX9; refine M7 163 Try.func12 [dI p.vars, dI p.arrays, dT p.body, dI m.vals, dR m.arrs, dE e.kids] [(0, pA 0), (1, .agg [.ref 3, .ref 4]), (2, eA e 5)] fun G => ?_; have hpp := aF4 p; have hmm := aM6 m; have hxl := a82 p m e; have hek : m6 e.kids = B9 e := (G0 e).symm; refine wp_seq (B6 G l6 [0, 1, 2, 3, 4, 5, 6, 14, 22] [dI p.vars, dI p.arrays, dT p.body, dI m.vals, dR m.arrs, dE e.kids, .box (pL 0), .box [.ref 3, .ref 4], .box (eL e 5)] [(3, .ptr 6 0), (4, .ptr 7 0), (5, .ptr 8 0), (6, bA false)] fun G => b5 (wp_seq (n6 G l6 [(7, iA 1048576)] fun G => b5 (wp_seq (n6 G (Q6 2 [0, 1, 2] (aB6 p 1048576 (by omega) (by omega))) [(7, iA (m8 1048576 p.size))] fun G => b5 (wp_seq (wp_seq (O5 G l6 [(3, .ptr 6 0), (4, .ptr 7 0), (5, .ptr 8 0), (6, bA false), (7, iA (m8 1048576 p.size)), (27, bA (decide (m8 1048576 p.size < 0)))] fun G => b5 ?_)))))))); cases h0 : (decide (m8 (1048576 : Int) p.size < 0))
  ·
   have q0 := dFf h0; have hz1 := fzq (q := 1048576) (n := p.size) (by omega) (by omega); refine rF G _ h0 (wp_skip (b5 (wp_seq (n6 G (Q6 2 [3, 4] (aH2 m (m8 1048576 p.size) (by omega) (by omega))) [(7, iA (m8 (m8 1048576 p.size) (mZ m)))] fun G => b5 (wp_seq (wp_seq (O5 G l6 [(3, .ptr 6 0), (4, .ptr 7 0), (5, .ptr 8 0), (6, bA false), (7, iA (m8 (m8 1048576 p.size) (mZ m))), (32, bA (decide (m8 (m8 1048576 p.size) (mZ m) < 0)))] fun G => b5 ?_))))))); cases h1 : (decide (m8 (m8 (1048576 : Int) p.size) (mZ m) < 0))
   ·
    have q1 := dFf h1; have hz2 := fzq (q := m8 1048576 p.size) (n := mZ m) (by omega) (by omega); refine rF G _ h1 (wp_skip (b5 (wp_seq (n6 G (Q6 2 [5] (aW5 e (m8 (m8 1048576 p.size) (mZ m)) (by omega) (by omega))) [(7, iA (m8 (m8 (m8 1048576 p.size) (mZ m)) (B9 e)))] fun G => b5 (wp_seq (wp_seq (O5 G l6 [(3, .ptr 6 0), (4, .ptr 7 0), (5, .ptr 8 0), (6, bA false), (37, bA (decide (m8 (m8 (m8 1048576 p.size) (mZ m)) (B9 e) < 0)))] fun G => b5 ?_))))))); cases h2 : (decide (m8 (m8 (m8 (1048576 : Int) p.size) (mZ m)) (B9 e) < 0))
    ·
     have q2 := dFf h2; have hz3 := fzq (q := m8 (m8 1048576 p.size) (mZ m)) (n := B9 e) (by omega) (by omega); refine rF G _ h2 (wp_skip (b5 (wp_seq (a70 G (E3 (A1 1 [0, 1, 2] (htp (by omega)) (A1 3 [3, 4] (htm (by omega)) (A1 5 [5] (hte (by omega)) (A1 6 [17, 18, 19, 33, 34, 49] (t6.lend (hsr (by omega)) [.row 3, .row 3, .tree, .row 3, .tree, .tree]) E2)))) fz []) [0, 1, 0, 7, 0, 31, 63, 127, 255, 255, 255, 511, 3071, 8191] [0, 1, 2, 3, 4, 5, 6, 7, 8, 57] (C9 p m e []) (A8 p m e []) fun G => b5 (wp_seq (B6 G (Q6 1 [0, 1, 2] (htp (by omega))) [0, 1, 2, 3, 4, 5, 6, 7, 8, 9, 18, 19, 20, 26] (C9 p m e [.row 3 (D.ints p.vars), .row 3 (D.ints p.arrays), .tree (D.stmts p.body), .box [.ref 10, .ref 11, .tref 12]]) (A8 p m e [(11, .ptr 13 0)]) fun G => b5 (wp_seq (B6 G (Q6 1 [3, 4] (htm (by omega))) [0, 1, 2, 3, 4, 5, 6, 7, 8, 9, 10, 11, 12, 13, 22, 23, 30] (C9 p m e (T7 p m [])) (A8 p m e [(11, .ptr 13 0), (12, .ptr 16 0)]) fun G => b5 (wp_seq (B6 G (Q6 1 [5] (hte (by omega))) [0, 1, 2, 3, 4, 5, 6, 7, 8, 9, 10, 11, 12, 13, 14, 15, 16, 25, 33] (C9 p m e (T7 p m [.tree (D.exprs e.kids), .box [iA e.kind, iA e.value, .tref 17]])) (A8 p m e [(11, .ptr 13 0), (12, .ptr 16 0), (13, .ptr 18 0)]) fun G => b5 (wp_seq (B6 G (Q6 3 [10, 11, 12, 14, 15, 17] (t6.lend hir [.row 3, .row 3, .tree, .row 3, .tree, .tree])) [0, 1, 2, 3, 4, 5, 6, 7, 8, 9, 10, 11, 12, 13, 14, 15, 16, 17, 18, 43] (C9 p m e (T7 p m [.tree (D.exprs e.kids), .box [iA e.kind, iA e.value, .tref 17], F6 p m e])) (A8 p m e [(11, .ptr 13 0), (12, .ptr 16 0), (13, .ptr 18 0), (14, iA (A9 p m e).fst), (15, .ref 19), (16, bA (F9 p m e))]) fun G => ?_))))))))))))
     refine b5 (wp_seq (wp_seq (n6 G (E3 (A1 6 [19, 9] (t6.lend (ac1 ((A9 p m e).snd)) [.row 54, .row 54]) E2) (fc (a := (A9 p m e).fst != (A9 p m e).fst) (b := false) (by simp [h0, h1, h2]) (fc (b := false) rfl fz)) (us [(4, 7, 0), (1008, 1008, 0), (10, 12, 1), (1013, 1013, 1)])) [(76, .v (.bool !F9 p m e == F9 p m e))] fun G => b5 (rF G (!F9 p m e == F9 p m e) (by simp [h0, h1, h2]) (wp_skip (b5 (wp_seq (wp_seq (ba0 G (E3 (A1 2 [0, 1, 2] (htp (by omega)) (A1 3 [10, 11, 12, 36, 37, 38] (t6.lend (aC3 p p) [.row 3, .row 3, .tree, .row 3, .row 3, .tree]) E2)) fz []) [0, 0, 2, 7, 15] (A8 p m e [(11, .ptr 13 0), (12, .ptr 16 0), (13, .ptr 18 0), (14, iA (A9 p m e).fst), (15, .ref 19), (16, bA (F9 p m e)), (81, .v (.bool !p.same p))]) fun G => b5 ?_))))))))); cases h3 : (!p.same p)
     ·
      have q3 : (p.same p) = true := (Eq.mp (bg1 _) h3); refine rF G _ h3 (wp_skip (b5 (wp_seq (wp_seq (aS1 G (E3 (A1 2 [3, 4] (htm (by omega)) (A1 3 [14, 15, 36, 37] (t6.lend (aH8 m) [.row 3, .tree, .row 3, .tree]) E2)) fz []) [0, 0, 2, 7, 15] [(86, bA false)] fun G => b5 (rF G false (by kernel_rfl) (wp_skip (b5 (wp_seq (wp_seq (ba0 G (E3 (A1 2 [5] (hte (by omega)) (A1 3 [17, 36] (t6.lend (aW9 e) [.tree, .tree]) E2)) fz []) [0, 0, 2, 7, 15] (A8 p m e [(11, .ptr 13 0), (12, .ptr 16 0), (13, .ptr 18 0), (14, iA (A9 p m e).fst), (15, .ref 19), (16, bA (F9 p m e)), (91, .v (.bool !J1 e e))]) fun G => b5 ?_))))))))))); cases h4 : (!J1 e e)
      ·
       have q4 : (J1 e e) = true := (Eq.mp (bg1 _) h4); refine rF G _ h4 (wp_skip (b5 (wp_seq (n6 G l6 [(17, iA 1)] fun G => b5 (wp_seq (B6 G (Q6 2 [10, 11, 12] (hmp p 1 (by omega) (by omega))) [0, 1, 2, 3, 4, 5, 6, 7, 8, 9, 14, 15, 16, 17, 18, 19] (C9 p m e [.row 3 (D.ints m.vals), .tree (D.rows m.arrs), .box [.ref 10, .tref 11], .tree (D.exprs e.kids), .box [iA e.kind, iA e.value, .tref 13], F6 p m e]) (A8 p m e [(12, .ptr 12 0), (13, .ptr 14 0), (14, iA (A9 p m e).fst), (15, .ref 15), (16, bA (F9 p m e)), (17, iA (1 + X3 p))]) fun G => b5 (wp_seq (B6 G (Q6 2 [10, 11] (aw4 m (1 + X3 p) (by omega) (by omega) (by omega))) [0, 1, 2, 3, 4, 5, 6, 7, 8, 9, 13, 14, 15] (C9 p m e [.tree (D.exprs e.kids), .box [iA e.kind, iA e.value, .tref 10], F6 p m e]) (A8 p m e [(13, .ptr 11 0), (14, iA (A9 p m e).fst), (15, .ref 12), (16, bA (F9 p m e)), (17, iA (1 + X3 p + (↑(al6 m) : Int)))]) fun G => b5 (wp_seq (B6 G (Q6 2 [10] (hme e.kind e.value e.kids (1 + X3 p + (↑(al6 m) : Int)) (by omega) (by omega))) [0, 1, 2, 3, 4, 5, 6, 7, 8, 9, 12] (C9 p m e [F6 p m e]) (A8 p m e [(14, iA (A9 p m e).fst), (15, .ref 10), (16, bA (F9 p m e)), (17, iA (1 + X3 p + (↑(al6 m) : Int) + 2 * (↑(m6 e.kids) : Int)))]) fun G => b5 (wp_seq (wp_seq ?_)))))))))))); cases h5 : (decide ((1 : Int) + X3 p + (↑(al6 m) : Int) + 2 * (↑(m6 e.kids) : Int) < 0))
       ·
        have q5 := dFf h5; refine n6 G (E3 (A1 10 [10, 9] (t6.lend (ac1 ((A9 p m e).snd)) [.row 54, .row 54]) E2) (fc h5 (fc (a := (A9 p m e).fst != (A9 p m e).fst) (b := false) (by simp [h0, h1, h2, h3, q3, h4, q4, h5]) (fc (b := false) rfl fz))) (us [(3, 5, 0), (1006, 1006, 0), (8, 11, 1), (1012, 1012, 1), (14, 16, 2), (1017, 1017, 2)])) [(118, .v (.bool !F9 p m e == F9 p m e))] fun G => b5 (rF G (!F9 p m e == F9 p m e) (by simp [h0, h1, h2, h3, q3, h4, q4, h5]) (wp_skip (b5 (wp_seq (n6 G l6 [(18, iA 1)] fun G => b5 (wp_seq (B6 G (Q6 2 [10] (aw5 ((A9 p m e).snd) 1 (by omega) (by omega))) (rg 11) (C9 p m e [.row 54 (D.events (N5 1 (A9 p m e).snd.length))]) (A8 p m e [(15, .ref 10), (18, D7 p m e)]) fun G => b5 (wp_seq (n6 G l6 [(19, iA 1)] fun G => b5 (wp_seq (n6 G (Q6 2 [10] (t6.lend (ae3 ((A9 p m e).snd.length) 1 (by omega) (by omega)) [.row 54])) [(19, D7 p m e)] fun G => b5 (wp_seq (wp_seq (n6 G l6 [(126, bA false)] fun G => b5 (rF G false (by kernel_rfl) (wp_skip (b5 (wp_seq (wp_seq (n6 G l6 [(129, bA (1 + 2 * ((A9 p m e).snd.length : Int) != 1 + 2 * ((A9 p m e).snd.length : Int)))] fun G => b5 (rF G ((1 : Int) + 2 * ((A9 p m e).snd.length : Int) != 1 + 2 * ((A9 p m e).snd.length : Int)) (by simp [h0, h1, h2, h3, q3, h4, q4, h5]) (wp_skip (b5 (wp_seq (a70 G (E3 (A1 1 [0, 1, 2] (htp (by omega)) (A1 3 [3, 4] (htm (by omega)) (A1 5 [5] (hte (by omega)) (A1 6 [19, 20, 21, 35, 36, 51] (t6.lend hir [.row 3, .row 3, .tree, .row 3, .tree, .tree]) E2)))) fz []) [0, 1, 0, 7, 0, 31, 63, 127, 255, 255, 255, 511, 3071, 8191] [0, 1, 2, 3, 4, 5, 9, 10, 59] [dI p.vars, dI p.arrays, dT p.body, dI m.vals, dR m.arrs, dE e.kids, F6 p m e, .row 54 (D.events (N5 1 (A9 p m e).snd.length)), F6 p m e] [(6, bA false), (8, iA (A9 p m e).fst), (9, .ref 6), (10, bA (F9 p m e)), (15, .ref 7), (18, D7 p m e), (19, D7 p m e), (20, iA (A9 p m e).fst), (21, .ref 8), (22, bA (F9 p m e))] fun G => b5 (wp_seq (wp_seq (B6 G (E3 (A1 6 [8, 6] (t6.lend (ac1 ((A9 p m e).snd)) [.row 54, .row 54]) E2) (fc (a := (A9 p m e).fst != (A9 p m e).fst) (b := false) (by simp [h0, h1, h2, h3, q3, h4, q4, h5]) (fc (b := false) rfl fz)) (us [(4, 7, 0), (1008, 1008, 0), (10, 12, 1), (1013, 1013, 1)])) [0, 1, 2, 3, 4, 5, 7] [dI p.vars, dI p.arrays, dT p.body, dI m.vals, dR m.arrs, dE e.kids, .row 54 (D.events (N5 1 (A9 p m e).snd.length))] [(6, bA false), (15, .ref 6), (18, D7 p m e), (19, D7 p m e), (154, .v (.bool !F9 p m e == F9 p m e))] fun G => b5 (rF G (!F9 p m e == F9 p m e) (by simp [h0, h1, h2, h3, q3, h4, q4, h5]) ?_)))))))))))))))))))))))))))))
        refine wp_skip (b5 (wp_seq (n6 G l6 [(19, iA 1)] fun G => b5 (wp_seq (B6 G (Q6 2 [6] (t6.lend (ae3 ((A9 p m e).snd.length) 1 (by omega) (by omega)) [.row 54])) (rg 6) [dI p.vars, dI p.arrays, dT p.body, dI m.vals, dR m.arrs, dE e.kids] [(6, bA false), (18, D7 p m e), (19, D7 p m e)] fun G => b5 (wp_seq (wp_seq (n6 G l6 [(159, bA false)] fun G => b5 (rF G false (by kernel_rfl) (wp_skip (b5 (wp_seq (wp_seq (n6 G l6 [(162, bA (1 + 2 * ((A9 p m e).snd.length : Int) != 1 + 2 * ((A9 p m e).snd.length : Int)))] fun G => b5 (rF G ((1 : Int) + 2 * ((A9 p m e).snd.length : Int) != 1 + 2 * ((A9 p m e).snd.length : Int)) (by simp [h0, h1, h2, h3, q3, h4, q4, h5]) (wp_skip (b5 (wp_seq (n6 G l6 [(6, bA true)] fun G => b5 (wp_ret ?_)))))))))))))))))))); exact rxr G (rg 6)
       · have q5 := dTt h5; exact False.elim (by omega)
      · have q4 : (J1 e e) = false := (Eq.mp (bf8 _) h4); exact False.elim (a98 _ (by with_reducible assumption))
     · have q3 : (p.same p) = false := (Eq.mp (bf8 _) h3); exact False.elim (aR2 _ (by with_reducible assumption))
    · have q2 := dTt h2; refine rT G _ h2 (wp_seq (n6 G l6 [(6, bA true)] fun G => b5 (wp_ret (m7 ?_)))); exact rxr G (rg 6)
   · have q1 := dTt h1; refine rT G _ h1 (wp_seq (n6 G l6 [(6, bA true)] fun G => b5 (wp_ret (m7 ?_)))); exact rxr G (rg 6)
  · have q0 := dTt h0; refine rT G _ h0 (wp_seq (n6 G l6 [(6, bA true)] fun G => b5 (wp_ret (m7 ?_)))); exact rxr G (rg 6)
theorem bc7 (u1 : Value) (p : l9) (u2 : Value) (m : A6) (u3 : Value) (e : b7) (w : World) (h1 : ae8 w (fun _ => True) u1 p) (h2 : bc5 w (fun _ => True) u2 m) (h3 : I4 w (fun _ => True) u3 e) : Calls Try.prog 12 #[u1, u2, u3] w fun e w' => e = .returned (.bool true) ∧ Below w.heap.size w w' := by
 obtain ⟨a1, a2, a3, rfl, x1, x2, x3⟩ := h1
 obtain ⟨c1, c2, rfl, z1, z2⟩ := h2
 obtain ⟨k1, rfl, y1⟩ := h3
 exact aX3 [.ints p.vars, .ints p.arrays, .stmts p.body, .ints m.vals, .rows m.arrs, .exprs e.kids] [a1, a2, a3, c1, c2, k1] (bb6 p m e) (by simp [AV.ids, AV.idsL]) w ⟨x1, x2, x3, z1, z2, y1, bf4⟩
end Go.Proofs.Ytgmhmijcnlfmfaa.exEvalExpr

namespace Go.Proofs.Ytgmhmijcnlfmfaa.exEvalExpr
open Go Go.RowKit Go.ChangeShapes Go.WideShapes Go.ChangeAt Go.Proofs.Ytgmhmijcnlfmfaa
theorem lifted (os : Os) (started : os.Started) (H : Type) (enc : TypeId × Value → H) :
  ReturnsInHanded {} Try.checked os 12 .any (Rows.fnExactEvalExprSpec.pre6 enc Try.prog Try.f12 Rows.fnExactEvalExprRow.domain false) (Rows.fnExactEvalExprSpec.post enc Try.prog Try.f12 false true false false) := by
 refine returnsInHanded_of_change (C := Try.checked) own started (by kernel_rfl) Try.func12
  (ChangeSpec.witness6 (enc := enc) (C := Try.checked) false ⟨#[], #[.agg #[.slice none 0 0, .slice none 0 0, .slice none 0 0], .agg #[.slice none 0 0, .slice none 0 0], .agg #[.int .i64 0, .int .i64 0, .slice none 0 0]], []⟩ 8 (by kernel_rfl) (by kernel_rfl) (by kernel_rfl) (by kernel_rfl)) ?_
 intro W base args ds gs before hval0 hW hcnd _
 have hval : ∀ (j : Nat) t v, Try.f12.params[j]? = some t → args[j]? = some v → Value.okWide Try.prog W .any base t v := hval0
 have hW' := hW
 obtain ⟨p, q, hA0, hV, rfl, hfz, hnd⟩ := hW
 have hA : DataW.TrodAll enc Try.prog W 0 (fun _ => true) true Try.f12.params.toList args.toList ds p := hA0
 rw [Try.params12] at hA hval
 obtain ⟨v0, vs0, d0, ds0, p0, q0, hargs, rfl, rfl, h0, r0⟩ := trodAll_cons hA
 obtain ⟨v1, vs1, d1, ds1, p1, q1, rfl, rfl, rfl, h1, r1⟩ := trodAll_cons r0
 obtain ⟨v2, vs2, d2, ds2, p2, q2, rfl, rfl, rfl, h2, r2⟩ := trodAll_cons r1
 obtain ⟨rfl, rfl, rfl⟩ := trodAll_nil r2
 obtain rfl : args = #[v0, v1, v2] := by cases args; simp_all
 obtain ⟨rfl, rfl⟩ := trodVars_none hV
 have k0 := h0
 have lt0 : ∀ x ∈ p0, x.block < W.heap.size := by obtain ⟨m, hm⟩ := k0; exact DataW.trod_lt m _ _ _ hm
 obtain ⟨x0, hx0⟩ := at7 (hval 0 76 v0 rfl rfl) h0
 have k1 := h1
 have lt1 : ∀ x ∈ p1, x.block < W.heap.size := by obtain ⟨m, hm⟩ := k1; exact DataW.trod_lt m _ _ _ hm
 obtain ⟨x1, hx1⟩ := az8 (hval 1 77 v1 rfl rfl) h1
 have k2 := h2
 have lt2 : ∀ x ∈ p2, x.block < W.heap.size := by obtain ⟨m, hm⟩ := k2; exact DataW.trod_lt m _ _ _ hm
 obtain ⟨x2, hx2⟩ := ap5 (hval 2 92 v2 rfl rfl) h2
 clear hA0 hval0
 refine (bc7 _ x0 _ x1 _ x2 W hx0 hx1 hx2).mono fun e W' ⟨he, bel⟩ => ?_
 subst he
 exact ⟨_, rfl, _, _, _, [], _, [], hW', trodAll_mk1 (shut_bool Try.underlying4 _), (trodAll_cons_mk (Below.trod av1 (by kernel_rfl) (of_decide_eq_true (by kernel_rfl)) k0 bel lt0) (trodAll_cons_mk (Below.trod av1 (by kernel_rfl) (of_decide_eq_true (by kernel_rfl)) k1 bel lt1) (trodAll_cons_mk (Below.trod av1 (by kernel_rfl) (of_decide_eq_true (by kernel_rfl)) k2 bel lt2) trodAll_mk0))), rfl, bel.frame _, fun h => by cases h⟩
theorem facts : joinedFacts Try.pinned.checked.prog 12 Try.f12 Rows.fnExactEvalExprSpec Rows.fnExactEvalExprRow = true := by
 unfold joinedFacts
 rw [may_enter, lifts_final, make_is]
 kernel_rfl
theorem over : Rows.fnExactEvalExprRow.holds Try.pinned (OpenSpec.ofChange Rows.fnExactEvalExprSpec) :=
 OpenClaim.holds_of_wide 12 Try.f12 rfl rfl rfl rfl rfl rfl rfl ⟨rfl, rfl, rfl, rfl, rfl⟩ rfl rfl rfl rfl rfl (by kernel_rfl) Try.func12 facts
  (of_decide_eq_true (by kernel_rfl)) (by unfold Func.isWrapper; first | (rw [if_pos (by decide +kernel)]; kernel_rfl) | (rw [if_neg (by decide +kernel)]; exact ⟨rfl, rfl⟩))
  (fun os started H enc _ => lifted os started H enc)
theorem proved : Rows.FnExactEvalExprSaid := over
end Go.Proofs.Ytgmhmijcnlfmfaa.exEvalExpr
