/-
  Texts of this claim, part 5: what the functions on the way do, and plain laws. Conditions: as each statement says.
-/
import Derived.Test.YthikdkjjdeehoaaRows
import Derived.Deep.QuietTactic
import Derived.BigQuiet
import Derived.WalkSpells
import Derived.Lib.SliceRun
import Derived.Deep.RegionHeld3
import Derived.StillTailTactics
import Derived.Laws.StructEq
import Derived.Test.YthikdkjjdeehoaaK4
set_option maxRecDepth 100000
set_option maxHeartbeats 16000000

namespace Go.Proofs.Ythikdkjjdeehoaa
set_option linter.unusedVariables false
set_option linter.unusedSimpArgs false
open Go Go.RowKit
theorem ba8 {b : List UInt8} {vs ars : List Int} {l : List d8} {q : Int} {k : Nat} (h : l.length ≤ 40) (hk : k = l.length - 1) : T2 b ⟨vs, ars, l⟩ q = (⟨vs, ars, (o8 b l.length (l, q) k).1⟩, (o8 b l.length (l, q) k).2) := aM8 (c := ⟨vs, ars, l⟩) h hk
theorem ba9 {b : List UInt8} {vs ars : List Int} {l : List d8} {q : Int} (h : ¬ l.length ≤ 40) : T2 b ⟨vs, ars, l⟩ q = (⟨vs, ars, l⟩, q) := bf9 (c := ⟨vs, ars, l⟩) h
abbrev P6 (b : List UInt8) (j : Int) (k : Nat) := o8 b (↑(i8 (m5 b ((f6 b j).snd + 1))).fst.length : Int) ((i8 (m5 b ((f6 b j).snd + 1))).fst, (r9 b ((f6 b j).snd + 1)).snd) k
abbrev aP3 (b : List UInt8) (j : Int) : List It := [.box [.ref 1, iA (T2 b (f7.mk (cvP (m5 b ((f6 b j).snd + 1))) (caP (m5 b ((f6 b j).snd + 1))) (i8 (m5 b ((f6 b j).snd + 1))).fst) (r9 b ((f6 b j).snd + 1)).snd).snd], dY b, .row 3 (D.ints (T2 b (f7.mk (cvP (m5 b ((f6 b j).snd + 1))) (caP (m5 b ((f6 b j).snd + 1))) (i8 (m5 b ((f6 b j).snd + 1))).fst) (r9 b ((f6 b j).snd + 1)).snd).fst.vars), .row 3 (D.ints (T2 b (f7.mk (cvP (m5 b ((f6 b j).snd + 1))) (caP (m5 b ((f6 b j).snd + 1))) (i8 (m5 b ((f6 b j).snd + 1))).fst) (r9 b ((f6 b j).snd + 1)).snd).fst.arrays), .row 38 (D.instrs (T2 b (f7.mk (cvP (m5 b ((f6 b j).snd + 1))) (caP (m5 b ((f6 b j).snd + 1))) (i8 (m5 b ((f6 b j).snd + 1))).fst) (r9 b ((f6 b j).snd + 1)).snd).fst.list)]
abbrev P5 (b : List UInt8) (j : Int) : AV := iA (↑(i8 (m5 b ((f6 b j).snd + 1))).fst.length : Int)
abbrev ap2 : It := .box [.v (.slice none 0 0), .v (.slice none 0 0), .v (.slice none 0 0)]
abbrev al6 (b : List UInt8) (j : Int) : It := .row 3 (D.ints (cvP (m5 b ((f6 b j).snd + 1))))
abbrev al5 (b : List UInt8) (j : Int) : It := .row 3 (D.ints (caP (m5 b ((f6 b j).snd + 1))))
abbrev aO9 (b : List UInt8) (j : Int) (r0 : List (Nat × AV)) : List (Nat × AV) := (0, .ptr 0 0) :: (2, .ptr 2 0) :: (3, .ptr 3 0) :: (6, P5 b j) :: r0
abbrev J3 (b : List UInt8) (j : Int) (r0 : List It) : List It := dY b :: ap2 :: .row 3 (D.ints (f6 b j).fst.vars) :: .row 3 (D.ints (f6 b j).fst.arrays) :: .row 38 (D.instrs (f6 b j).fst.list) :: .box (pL 3) :: r0
theorem a00 (b : List UInt8) (j : Int) (hpk : pk b (f6 b j).2 2 = 0) (hok : Y4 (m5 b ((f6 b j).2 + 1)) = true) (r0 : 0 ≤ j) (r1 : j ≤ 1000000) : p7.ok Try.prog (jpC b j (⟨cvP (m5 b ((f6 b j).2 + 1)), caP (m5 b ((f6 b j).2 + 1)), (i8 (m5 b ((f6 b j).2 + 1))).1⟩ : f7) ((r9 b ((f6 b j).2 + 1)).2)) := by
  have hcd := bb6 b r0 (show j ≤ 10000000 by omega); have hbd := a65 b (j := (f6 b j).2 + 1) (by omega) (by omega); have hsz : (m5 b ((f6 b j).2 + 1)).size ≤ 1048576 := Nat.le_trans (a16 (b := b) (k := (f6 b j).2 + 1) (by omega) (by omega)) (by omega); have hcp := bd4 hsz hok; refine m8 70 Try.func17 (by rfl) (by kernel_rfl) (by kernel_rfl) ?_; intro ι φ ψ w0 w F ρ0 ρ a G; replace G := p6.at G [.box [.ref 1, iA j], dY b] [(0, .ptr 0 0)]; refine wp_seq ?_; refine D8 G [0, 1, 2] [.box [.ref 1, iA j], dY b, ap2] [(0, .ptr 0 0), (2, .ptr 2 0)] fun ρ a w G => b9 (wp_seq ?_); refine v5 (dk := p5) G ⟨[(1, _, [0, 1])], [], []⟩ (b6 (au0 (b) (j) (by assumption) (by omega)) b0) trivial [0, 1, 2, 11, 12, 13, 19] (.box [.ref 1, iA (f6 b j).snd] :: (J3 b j [])) [(0, .ptr 0 0), (2, .ptr 2 0), (3, .ptr 6 0)] [] trivial fun ρ a w G => b9 (wp_seq (wp_seq ?_)); refine v5 (dk := p5) G ⟨[(1, _, [0, 1])], [], []⟩ (b6 (o0 (b) ((f6 b j).snd) (2) (by omega) (by omega)) b0) trivial (rg 7) (.box [.ref 1, iA ((f6 b j).snd + 1)] :: (J3 b j [])) [(0, .ptr 0 0), (2, .ptr 2 0), (3, .ptr 6 0), (12, bA (pk b (f6 b j).snd 2 == 0))] [] trivial fun ρ a w G => b9 ?_; cases h0 : (pk b (f6 b j).snd (2 : Int) == (0 : Int))
  · have q0 := ne_of_beq_false h0; exact False.elim (by omega)
  ·
   have q0 := eq_of_beq h0; refine rT G _ h0 ?_; refine wp_seq ?_; refine v5 (dk := p5) G ⟨[(1, _, [0, 1]), (2, _, [15, 16, 17])], [], []⟩ (b6 (Z3 (b) ((f6 b j).snd + 1) (by omega) (by omega)) (b6 (p7.lend (hcp) [.row 3, .row 3, .tree]) b0)) trivial [0, 1, 2, 3, 4, 5, 6, 23, 24, 25, 55] (.box [.ref 1, iA (r9 b ((f6 b j).snd + 1)).snd] :: (J3 b j [al6 b j, al5 b j, .row 38 (D.instrs (i8 (m5 b ((f6 b j).snd + 1))).fst), .box (pL 7)])) [(0, .ptr 0 0), (2, .ptr 2 0), (3, .ptr 6 0), (4, .ptr 10 0), (5, bA true)] [] trivial fun ρ a w G => b9 (wp_seq ?_); refine l0 G [(0, .ptr 0 0), (2, .ptr 2 0), (3, .ptr 6 0), (4, .ptr 10 0), (19, bA true)] fun ρ a w G => b9 ?_; refine rT G (true) (by kernel_rfl) ?_; refine D8 G [0, 1, 2, 6, 7, 8, 9] [.box [.ref 1, iA (r9 b ((f6 b j).snd + 1)).snd], dY b, ap2, .box (pL 4), al6 b j, al5 b j, .row 38 (D.instrs (i8 (m5 b ((f6 b j).snd + 1))).fst)] [(0, .ptr 0 0), (2, .ptr 2 0), (3, .ptr 3 0)] fun ρ a w G => b9 (wp_seq ?_); refine l0 G (aO9 b j []) fun ρ a w G => b9 (wp_seq (wp_seq ?_)); refine l0 G (aO9 b j [(7, iA 0)]) fun ρ a w G => b9 (wp_block ?_); refine F4 (κ := Nat) (fun k => (k = 0 ∨ (k + 1 ≤ (i8 (m5 b ((f6 b j).2 + 1))).1.length ∧ (i8 (m5 b ((f6 b j).2 + 1))).1.length ≤ 40))) (fun k => (i8 (m5 b ((f6 b j).2 + 1))).1.length - k) (fun k => [.box [.ref 1, iA (o8 b (i8 (m5 b ((f6 b j).2 + 1))).1.length ((i8 (m5 b ((f6 b j).2 + 1))).1, (r9 b ((f6 b j).2 + 1)).2) k).2], dY b, ap2, .box (pL 4), al6 b j, al5 b j, .row 38 (.instrs (o8 b (i8 (m5 b ((f6 b j).2 + 1))).1.length ((i8 (m5 b ((f6 b j).2 + 1))).1, (r9 b ((f6 b j).2 + 1)).2) k).1)]) (fun k => [(0, .ptr 0 0), (2, .ptr 2 0), (3, .ptr 3 0), (6, P5 b j), (7, iA k)]) (0) (by simp [hok, h0]) (p6.at G _ _) ?_; clear G; intro k ρ a w hp G; replace G := p6.at G [.box [.ref 1, iA (P6 b j k).snd], dY b, ap2, .box (pL 4), al6 b j, al5 b j, .row 38 (D.instrs (P6 b j k).fst)] (aO9 b j [(7, iA (↑k : Int))]); have hjm := bg0 b (i8 (m5 b ((f6 b j).2 + 1))).1.length ((i8 (m5 b ((f6 b j).2 + 1))).1) ((r9 b ((f6 b j).2 + 1)).2) k; refine wp_seq (wp_seq ?_); cases h1 : (decide ((↑k : Int) + (1 : Int) < (↑(i8 (m5 b ((f6 b j).snd + (1 : Int)))).fst.length : Int)))
   · have q1 := Y9 h1; refine m9 G ⟨[], [(decide ((↑k : Int) + (1 : Int) < (↑(i8 (m5 b ((f6 b j).snd + (1 : Int)))).fst.length : Int)), false)], [(5, 0), (6, 0), (1007, 0)]⟩ b0 ⟨(by assumption), trivial⟩ (aO9 b j [(7, iA (↑k : Int)), (31, bA false)]) [IntKind.i64.wrap ((↑k : Int) + (1 : Int)) = (↑k : Int) + (1 : Int)] ⟨(by exact w6 (by omega) (by omega)), trivial⟩ fun ρ a w G => b9 ?_; refine rF G (false) (by kernel_rfl) ?_; refine wp_exit (D9 (D9 (D7 (b9 (wp_seq ?_))))); refine D8 G [0, 1, 2, 4, 5, 6] [.box [.ref 1, iA (P6 b j k).snd], dY b, .box (pL 3), al6 b j, al5 b j, .row 38 (D.instrs (P6 b j k).fst)] [(2, .ptr 2 0)] fun ρ a w G => b9 (wp_ret ?_); exact i7 (v := pA 3) G [0, 1, 3, 4, 5] (by kernel_rfl) (by kernel_rfl) (by show _ = List.map (It.ren (nth [0, 1, 3, 4, 5])) (aP3 b j); unfold aP3; have e2 : ((T2 b (f7.mk (cvP (m5 b ((f6 b j).snd + 1))) (caP (m5 b ((f6 b j).snd + 1))) (i8 (m5 b ((f6 b j).snd + 1))).fst) (r9 b ((f6 b j).snd + 1)).snd).fst.vars : List Int) = (cvP (m5 b ((f6 b j).snd + 1))) := (by exact (ag4 b _ _).2.1); have e3 : ((T2 b (f7.mk (cvP (m5 b ((f6 b j).snd + 1))) (caP (m5 b ((f6 b j).snd + 1))) (i8 (m5 b ((f6 b j).snd + 1))).fst) (r9 b ((f6 b j).snd + 1)).snd).fst.arrays : List Int) = (caP (m5 b ((f6 b j).snd + 1))) := (by exact (ag4 b _ _).2.2.1); rw [e2, e3]; rw [ba8 (k := k) (by omega) (by omega)] <;> rfl) (by kernel_rfl)
   ·
    have q1 := Y8 h1; refine m9 G ⟨[], [(decide ((↑k : Int) + (1 : Int) < (↑(i8 (m5 b ((f6 b j).snd + (1 : Int)))).fst.length : Int)), true)], [(5, 0), (6, 0), (1007, 0)]⟩ b0 ⟨(by assumption), trivial⟩ (aO9 b j [(7, iA (↑k : Int)), (31, bA (decide ((↑(i8 (m5 b ((f6 b j).snd + 1))).fst.length : Int) ≤ 40)))]) [IntKind.i64.wrap ((↑k : Int) + (1 : Int)) = (↑k : Int) + (1 : Int)] ⟨(by exact w6 (by omega) (by omega)), trivial⟩ fun ρ a w G => b9 ?_; cases h2 : (decide ((↑(i8 (m5 b ((f6 b j).snd + (1 : Int)))).fst.length : Int) ≤ (40 : Int)))
    · have q2 := Y9 h2; refine rF G _ h2 ?_; refine wp_exit (D9 (D9 (D7 (b9 (wp_seq ?_))))); refine D8 G [0, 1, 2, 4, 5, 6] [.box [.ref 1, iA (P6 b j k).snd], dY b, .box (pL 3), al6 b j, al5 b j, .row 38 (D.instrs (P6 b j k).fst)] [(2, .ptr 2 0)] fun ρ a w G => b9 (wp_ret ?_); exact i7 (v := pA 3) G [0, 1, 3, 4, 5] (by kernel_rfl) (by kernel_rfl) (by show _ = List.map (It.ren (nth [0, 1, 3, 4, 5])) (aP3 b j); unfold aP3; have e2 : ((T2 b (f7.mk (cvP (m5 b ((f6 b j).snd + 1))) (caP (m5 b ((f6 b j).snd + 1))) (i8 (m5 b ((f6 b j).snd + 1))).fst) (r9 b ((f6 b j).snd + 1)).snd).fst.vars : List Int) = (cvP (m5 b ((f6 b j).snd + 1))) := (by exact (ag4 b _ _).2.1); have e3 : ((T2 b (f7.mk (cvP (m5 b ((f6 b j).snd + 1))) (caP (m5 b ((f6 b j).snd + 1))) (i8 (m5 b ((f6 b j).snd + 1))).fst) (r9 b ((f6 b j).snd + 1)).snd).fst.arrays : List Int) = (caP (m5 b ((f6 b j).snd + 1))) := (by exact (ag4 b _ _).2.2.1); rw [e2, e3]; rw [ba9 (by omega), show k = 0 by omega] <;> rfl) (by kernel_rfl)
    ·
     have q2 := Y8 h2; refine rT G _ h2 ?_; refine wp_skip (b9 (wp_seq (wp_block (wp_seq ?_)))); cases h3 : (((o8 b (↑(i8 (m5 b ((f6 b j).snd + (1 : Int)))).fst.length : Int) ((i8 (m5 b ((f6 b j).snd + (1 : Int)))).fst, (r9 b ((f6 b j).snd + (1 : Int))).snd) k).fst.getD k default).op != (10 : Int))
     · have q3 := bne_eq_false_iff_eq.1 h3; refine m9 G ⟨[], [(((o8 b (↑(i8 (m5 b ((f6 b j).snd + (1 : Int)))).fst.length : Int) ((i8 (m5 b ((f6 b j).snd + (1 : Int)))).fst, (r9 b ((f6 b j).snd + (1 : Int))).snd) k).fst.getD k default).op != (10 : Int), false), (false, false)], us [(8, 14, 0), (1015, 1015, 0), (17, 19, 1), (1020, 1020, 1)]⟩ b0 ⟨(by assumption), (by kernel_rfl), trivial⟩ (aO9 b j [(7, iA (↑k : Int)), (54, bA false)]) [(0 : Int) ≤ (↑k : Int), (↑k : Int) < (↑(o8 b (↑(i8 (m5 b ((f6 b j).snd + (1 : Int)))).fst.length : Int) ((i8 (m5 b ((f6 b j).snd + (1 : Int)))).fst, (r9 b ((f6 b j).snd + (1 : Int))).snd) k).fst.length : Int), k < (o8 b (↑(i8 (m5 b ((f6 b j).snd + (1 : Int)))).fst.length : Int) ((i8 (m5 b ((f6 b j).snd + (1 : Int)))).fst, (r9 b ((f6 b j).snd + (1 : Int))).snd) k).fst.length] ⟨(by simp [hok, h0, h1, h2, h3]), (by omega), (by omega), trivial⟩ fun ρ a w G => b9 ?_; refine rF G (false) (by kernel_rfl) ?_; refine wp_skip ?_; refine o5 ?_; refine b9 ?_; refine m9 G ⟨[], [], []⟩ b0 trivial (aO9 b j [(7, iA ((↑k : Int) + 1))]) [IntKind.i64.wrap ((↑k : Int) + (1 : Int)) = (↑k : Int) + (1 : Int)] ⟨(by exact w6 (by omega) (by omega)), trivial⟩ fun ρ a w G => b9 ?_; exact m0 G (k + 1) (by omega) (by omega) (rg 7) [.box [.ref 1, iA (o8 b (↑(i8 (m5 b ((f6 b j).snd + 1))).fst.length : Int) ((i8 (m5 b ((f6 b j).snd + 1))).fst, (r9 b ((f6 b j).snd + 1)).snd) (k + 1)).snd], dY b, .box [.v (.slice none 0 0), .v (.slice none 0 0), .v (.slice none 0 0)], .box (pL 4), .row 3 (D.ints (cvP (m5 b ((f6 b j).snd + 1)))), .row 3 (D.ints (caP (m5 b ((f6 b j).snd + 1)))), .row 38 (D.instrs (o8 b (↑(i8 (m5 b ((f6 b j).snd + 1))).fst.length : Int) ((i8 (m5 b ((f6 b j).snd + 1))).fst, (r9 b ((f6 b j).snd + 1)).snd) (k + 1)).fst)] [(0, .ptr 0 0), (2, .ptr 2 0), (3, .ptr 3 0), (6, iA (↑(i8 (m5 b ((f6 b j).snd + 1))).fst.length : Int)), (7, iA (↑(k + 1) : Int))] (by kernel_rfl) (by kernel_rfl) (by kernel_rfl) (by have e1 : ((o8 b (↑(i8 (m5 b ((f6 b j).snd + 1))).fst.length : Int) ((i8 (m5 b ((f6 b j).snd + 1))).fst, (r9 b ((f6 b j).snd + 1)).snd) (k + 1)).snd : Int) = ((o8 b (↑(i8 (m5 b ((f6 b j).snd + 1))).fst.length : Int) ((i8 (m5 b ((f6 b j).snd + 1))).fst, (r9 b ((f6 b j).snd + 1)).snd) k).snd) := (by rw [an3 (by omega)]; done); have e2 : ((o8 b (↑(i8 (m5 b ((f6 b j).snd + 1))).fst.length : Int) ((i8 (m5 b ((f6 b j).snd + 1))).fst, (r9 b ((f6 b j).snd + 1)).snd) (k + 1)).fst : List d8) = ((o8 b (↑(i8 (m5 b ((f6 b j).snd + 1))).fst.length : Int) ((i8 (m5 b ((f6 b j).snd + 1))).fst, (r9 b ((f6 b j).snd + 1)).snd) k).fst) := (by rw [an3 (by omega)]; done); (first | rw [e1, e2] | simp only [e1, e2]) <;> rfl) (by kernel_rfl)
     ·
      have q3 := bne_iff_ne.1 h3; cases h4 : (((o8 b (↑(i8 (m5 b ((f6 b j).snd + (1 : Int)))).fst.length : Int) ((i8 (m5 b ((f6 b j).snd + (1 : Int)))).fst, (r9 b ((f6 b j).snd + (1 : Int))).snd) k).fst.getD k default).op != (1 : Int))
      · have q4 := bne_eq_false_iff_eq.1 h4; refine m9 G ⟨[], [(((o8 b (↑(i8 (m5 b ((f6 b j).snd + (1 : Int)))).fst.length : Int) ((i8 (m5 b ((f6 b j).snd + (1 : Int)))).fst, (r9 b ((f6 b j).snd + (1 : Int))).snd) k).fst.getD k default).op != (10 : Int), true), (((o8 b (↑(i8 (m5 b ((f6 b j).snd + (1 : Int)))).fst.length : Int) ((i8 (m5 b ((f6 b j).snd + (1 : Int)))).fst, (r9 b ((f6 b j).snd + (1 : Int))).snd) k).fst.getD k default).op != (1 : Int), false)], us [(8, 14, 0), (1015, 1015, 0), (17, 19, 1), (1020, 1020, 1)]⟩ b0 ⟨(by assumption), (by assumption), trivial⟩ (aO9 b j [(7, iA (↑k : Int)), (54, bA false)]) [(0 : Int) ≤ (↑k : Int), (↑k : Int) < (↑(o8 b (↑(i8 (m5 b ((f6 b j).snd + (1 : Int)))).fst.length : Int) ((i8 (m5 b ((f6 b j).snd + (1 : Int)))).fst, (r9 b ((f6 b j).snd + (1 : Int))).snd) k).fst.length : Int), k < (o8 b (↑(i8 (m5 b ((f6 b j).snd + (1 : Int)))).fst.length : Int) ((i8 (m5 b ((f6 b j).snd + (1 : Int)))).fst, (r9 b ((f6 b j).snd + (1 : Int))).snd) k).fst.length, (0 : Int) ≤ (↑k : Int), (↑k : Int) < (↑(o8 b (↑(i8 (m5 b ((f6 b j).snd + (1 : Int)))).fst.length : Int) ((i8 (m5 b ((f6 b j).snd + (1 : Int)))).fst, (r9 b ((f6 b j).snd + (1 : Int))).snd) k).fst.length : Int), k < (o8 b (↑(i8 (m5 b ((f6 b j).snd + (1 : Int)))).fst.length : Int) ((i8 (m5 b ((f6 b j).snd + (1 : Int)))).fst, (r9 b ((f6 b j).snd + (1 : Int))).snd) k).fst.length] ⟨(by simp [hok, h0, h1, h2, h3, h4]), (by omega), (by omega), (by simp [hok, h0, h1, h2, h3, h4]), (by omega), (by omega), trivial⟩ fun ρ a w G => b9 ?_; refine rF G (false) (by kernel_rfl) ?_; refine wp_skip ?_; refine o5 ?_; refine b9 ?_; refine m9 G ⟨[], [], []⟩ b0 trivial (aO9 b j [(7, iA ((↑k : Int) + 1))]) [IntKind.i64.wrap ((↑k : Int) + (1 : Int)) = (↑k : Int) + (1 : Int)] ⟨(by exact w6 (by omega) (by omega)), trivial⟩ fun ρ a w G => b9 ?_; exact m0 G (k + 1) (by omega) (by omega) (rg 7) [.box [.ref 1, iA (o8 b (↑(i8 (m5 b ((f6 b j).snd + 1))).fst.length : Int) ((i8 (m5 b ((f6 b j).snd + 1))).fst, (r9 b ((f6 b j).snd + 1)).snd) (k + 1)).snd], dY b, .box [.v (.slice none 0 0), .v (.slice none 0 0), .v (.slice none 0 0)], .box (pL 4), .row 3 (D.ints (cvP (m5 b ((f6 b j).snd + 1)))), .row 3 (D.ints (caP (m5 b ((f6 b j).snd + 1)))), .row 38 (D.instrs (o8 b (↑(i8 (m5 b ((f6 b j).snd + 1))).fst.length : Int) ((i8 (m5 b ((f6 b j).snd + 1))).fst, (r9 b ((f6 b j).snd + 1)).snd) (k + 1)).fst)] [(0, .ptr 0 0), (2, .ptr 2 0), (3, .ptr 3 0), (6, iA (↑(i8 (m5 b ((f6 b j).snd + 1))).fst.length : Int)), (7, iA (↑(k + 1) : Int))] (by kernel_rfl) (by kernel_rfl) (by kernel_rfl) (by have e1 : ((o8 b (↑(i8 (m5 b ((f6 b j).snd + 1))).fst.length : Int) ((i8 (m5 b ((f6 b j).snd + 1))).fst, (r9 b ((f6 b j).snd + 1)).snd) (k + 1)).snd : Int) = ((o8 b (↑(i8 (m5 b ((f6 b j).snd + 1))).fst.length : Int) ((i8 (m5 b ((f6 b j).snd + 1))).fst, (r9 b ((f6 b j).snd + 1)).snd) k).snd) := (by rw [an3 (by omega)]; done); have e2 : ((o8 b (↑(i8 (m5 b ((f6 b j).snd + 1))).fst.length : Int) ((i8 (m5 b ((f6 b j).snd + 1))).fst, (r9 b ((f6 b j).snd + 1)).snd) (k + 1)).fst : List d8) = ((o8 b (↑(i8 (m5 b ((f6 b j).snd + 1))).fst.length : Int) ((i8 (m5 b ((f6 b j).snd + 1))).fst, (r9 b ((f6 b j).snd + 1)).snd) k).fst) := (by rw [an3 (by omega)]; done); (first | rw [e1, e2] | simp only [e1, e2]) <;> rfl) (by kernel_rfl)
      ·
       have q4 := bne_iff_ne.1 h4; refine v5 (dk := p5) G ⟨[(18, _, [0, 1])], [(((o8 b (↑(i8 (m5 b ((f6 b j).snd + (1 : Int)))).fst.length : Int) ((i8 (m5 b ((f6 b j).snd + (1 : Int)))).fst, (r9 b ((f6 b j).snd + (1 : Int))).snd) k).fst.getD k default).op != (10 : Int), true), (((o8 b (↑(i8 (m5 b ((f6 b j).snd + (1 : Int)))).fst.length : Int) ((i8 (m5 b ((f6 b j).snd + (1 : Int)))).fst, (r9 b ((f6 b j).snd + (1 : Int))).snd) k).fst.getD k default).op != (1 : Int), true)], us [(8, 14, 0), (1015, 1015, 0), (17, 19, 1), (1020, 1020, 1)]⟩ (b6 (o0 (b) ((o8 b (↑(i8 (m5 b ((f6 b j).snd + 1))).fst.length : Int) ((i8 (m5 b ((f6 b j).snd + 1))).fst, (r9 b ((f6 b j).snd + 1)).snd) k).snd) (4) (by omega) (by omega)) b0) ⟨(by assumption), (by assumption), trivial⟩ (rg 7) [.box [.ref 1, iA ((P6 b j k).snd + 1)], dY b, ap2, .box (pL 4), al6 b j, al5 b j, .row 38 (D.instrs (P6 b j k).fst)] (aO9 b j [(7, iA (↑k : Int)), (54, bA (pk b (P6 b j k).snd 4 == 0))]) [(0 : Int) ≤ (↑k : Int), (↑k : Int) < (↑(o8 b (↑(i8 (m5 b ((f6 b j).snd + (1 : Int)))).fst.length : Int) ((i8 (m5 b ((f6 b j).snd + (1 : Int)))).fst, (r9 b ((f6 b j).snd + (1 : Int))).snd) k).fst.length : Int), k < (o8 b (↑(i8 (m5 b ((f6 b j).snd + (1 : Int)))).fst.length : Int) ((i8 (m5 b ((f6 b j).snd + (1 : Int)))).fst, (r9 b ((f6 b j).snd + (1 : Int))).snd) k).fst.length, (0 : Int) ≤ (↑k : Int), (↑k : Int) < (↑(o8 b (↑(i8 (m5 b ((f6 b j).snd + (1 : Int)))).fst.length : Int) ((i8 (m5 b ((f6 b j).snd + (1 : Int)))).fst, (r9 b ((f6 b j).snd + (1 : Int))).snd) k).fst.length : Int), k < (o8 b (↑(i8 (m5 b ((f6 b j).snd + (1 : Int)))).fst.length : Int) ((i8 (m5 b ((f6 b j).snd + (1 : Int)))).fst, (r9 b ((f6 b j).snd + (1 : Int))).snd) k).fst.length] ⟨(by simp [hok, h0, h1, h2, h3, h4]), (by omega), (by omega), (by simp [hok, h0, h1, h2, h3, h4]), (by omega), (by omega), trivial⟩ fun ρ a w G => b9 ?_; cases h5 : (pk b (o8 b (↑(i8 (m5 b ((f6 b j).snd + (1 : Int)))).fst.length : Int) ((i8 (m5 b ((f6 b j).snd + (1 : Int)))).fst, (r9 b ((f6 b j).snd + (1 : Int))).snd) k).snd (4 : Int) == (0 : Int))
       · have q5 := ne_of_beq_false h5; refine rF G _ h5 ?_; refine wp_skip ?_; refine o5 ?_; refine b9 ?_; refine m9 G ⟨[], [], []⟩ b0 trivial (aO9 b j [(7, iA ((↑k : Int) + 1))]) [IntKind.i64.wrap ((↑k : Int) + (1 : Int)) = (↑k : Int) + (1 : Int)] ⟨(by exact w6 (by omega) (by omega)), trivial⟩ fun ρ a w G => b9 ?_; exact m0 G (k + 1) (by omega) (by omega) (rg 7) [.box [.ref 1, iA (o8 b (↑(i8 (m5 b ((f6 b j).snd + 1))).fst.length : Int) ((i8 (m5 b ((f6 b j).snd + 1))).fst, (r9 b ((f6 b j).snd + 1)).snd) (k + 1)).snd], dY b, .box [.v (.slice none 0 0), .v (.slice none 0 0), .v (.slice none 0 0)], .box (pL 4), .row 3 (D.ints (cvP (m5 b ((f6 b j).snd + 1)))), .row 3 (D.ints (caP (m5 b ((f6 b j).snd + 1)))), .row 38 (D.instrs (o8 b (↑(i8 (m5 b ((f6 b j).snd + 1))).fst.length : Int) ((i8 (m5 b ((f6 b j).snd + 1))).fst, (r9 b ((f6 b j).snd + 1)).snd) (k + 1)).fst)] [(0, .ptr 0 0), (2, .ptr 2 0), (3, .ptr 3 0), (6, iA (↑(i8 (m5 b ((f6 b j).snd + 1))).fst.length : Int)), (7, iA (↑(k + 1) : Int))] (by kernel_rfl) (by kernel_rfl) (by kernel_rfl) (by have e1 : ((o8 b (↑(i8 (m5 b ((f6 b j).snd + 1))).fst.length : Int) ((i8 (m5 b ((f6 b j).snd + 1))).fst, (r9 b ((f6 b j).snd + 1)).snd) (k + 1)).snd : Int) = ((o8 b (↑(i8 (m5 b ((f6 b j).snd + 1))).fst.length : Int) ((i8 (m5 b ((f6 b j).snd + 1))).fst, (r9 b ((f6 b j).snd + 1)).snd) k).snd + 1) := (by rw [aU1 (by omega) (by omega) (by omega)]; done); have e2 : ((o8 b (↑(i8 (m5 b ((f6 b j).snd + 1))).fst.length : Int) ((i8 (m5 b ((f6 b j).snd + 1))).fst, (r9 b ((f6 b j).snd + 1)).snd) (k + 1)).fst : List d8) = ((o8 b (↑(i8 (m5 b ((f6 b j).snd + 1))).fst.length : Int) ((i8 (m5 b ((f6 b j).snd + 1))).fst, (r9 b ((f6 b j).snd + 1)).snd) k).fst) := (by rw [aU1 (by omega) (by omega) (by omega)]; done); (first | rw [e1, e2] | simp only [e1, e2]) <;> rfl) (by kernel_rfl)
       · have q5 := eq_of_beq h5; refine rT G _ h5 ?_; refine rd1 (dk := p5) G ⟨[(10, _, [0, 1])], [], []⟩ (b6 (o0 (b) ((o8 b (↑(i8 (m5 b ((f6 b j).snd + 1))).fst.length : Int) ((i8 (m5 b ((f6 b j).snd + 1))).fst, (r9 b ((f6 b j).snd + 1)).snd) k).snd + 1) ((↑(i8 (m5 b ((f6 b j).snd + 1))).fst.length : Int) - (↑k : Int) - 1) (by omega) (by omega)) b0) trivial [0, 1, 0, 0, 8, 0, 0, 0, 192, 448, 992, 2040, 4088, 8191, 16383] (rg 7) [.box [.ref 1, iA ((P6 b j k).snd + 1 + 1)], dY b, ap2, .box (pL 4), al6 b j, al5 b j, .row 38 (D.instrs ((P6 b j k).fst.set k (d8.mk 8 ((↑k : Int) + 1 + pk b ((P6 b j k).snd + 1) ((↑(i8 (m5 b ((f6 b j).snd + 1))).fst.length : Int) - (↑k : Int) - 1)) 0 0 0)))] (aO9 b j [(7, iA (↑k : Int))]) [IntKind.i64.wrap ((↑k : Int) + (1 : Int)) = (↑k : Int) + (1 : Int), IntKind.i64.wrap ((↑(i8 (m5 b ((f6 b j).snd + (1 : Int)))).fst.length : Int) - (↑k : Int)) = (↑(i8 (m5 b ((f6 b j).snd + (1 : Int)))).fst.length : Int) - (↑k : Int), IntKind.i64.wrap ((↑(i8 (m5 b ((f6 b j).snd + (1 : Int)))).fst.length : Int) - (↑k : Int) - (1 : Int)) = (↑(i8 (m5 b ((f6 b j).snd + (1 : Int)))).fst.length : Int) - (↑k : Int) - (1 : Int), IntKind.i64.wrap ((↑k : Int) + (1 : Int) + pk b ((o8 b (↑(i8 (m5 b ((f6 b j).snd + (1 : Int)))).fst.length : Int) ((i8 (m5 b ((f6 b j).snd + (1 : Int)))).fst, (r9 b ((f6 b j).snd + (1 : Int))).snd) k).snd + (1 : Int)) ((↑(i8 (m5 b ((f6 b j).snd + (1 : Int)))).fst.length : Int) - (↑k : Int) - (1 : Int))) = (↑k : Int) + (1 : Int) + pk b ((o8 b (↑(i8 (m5 b ((f6 b j).snd + (1 : Int)))).fst.length : Int) ((i8 (m5 b ((f6 b j).snd + (1 : Int)))).fst, (r9 b ((f6 b j).snd + (1 : Int))).snd) k).snd + (1 : Int)) ((↑(i8 (m5 b ((f6 b j).snd + (1 : Int)))).fst.length : Int) - (↑k : Int) - (1 : Int)), (0 : Int) ≤ (↑k : Int), (↑k : Int) < (↑(o8 b (↑(i8 (m5 b ((f6 b j).snd + (1 : Int)))).fst.length : Int) ((i8 (m5 b ((f6 b j).snd + (1 : Int)))).fst, (r9 b ((f6 b j).snd + (1 : Int))).snd) k).fst.length : Int), k < (o8 b (↑(i8 (m5 b ((f6 b j).snd + (1 : Int)))).fst.length : Int) ((i8 (m5 b ((f6 b j).snd + (1 : Int)))).fst, (r9 b ((f6 b j).snd + (1 : Int))).snd) k).fst.length] ⟨(by exact w6 (by omega) (by omega)), (by exact w6 (by omega) (by omega)), (by exact w6 (by omega) (by omega)), (by exact a36 (by omega) (by omega) (by omega) (by omega)), (by simp [hok, h0, h1, h2, h3, h4, h5]), (by omega), (by omega), trivial⟩ ?_; intro ρ a w G; refine o5 ?_; refine b9 ?_; refine m9 G ⟨[], [], []⟩ b0 trivial (aO9 b j [(7, iA ((↑k : Int) + 1))]) [IntKind.i64.wrap ((↑k : Int) + (1 : Int)) = (↑k : Int) + (1 : Int)] ⟨(by exact w6 (by omega) (by omega)), trivial⟩ fun ρ a w G => b9 ?_; exact m0 G (k + 1) (by omega) (by omega) (rg 7) [.box [.ref 1, iA (o8 b (↑(i8 (m5 b ((f6 b j).snd + 1))).fst.length : Int) ((i8 (m5 b ((f6 b j).snd + 1))).fst, (r9 b ((f6 b j).snd + 1)).snd) (k + 1)).snd], dY b, .box [.v (.slice none 0 0), .v (.slice none 0 0), .v (.slice none 0 0)], .box (pL 4), .row 3 (D.ints (cvP (m5 b ((f6 b j).snd + 1)))), .row 3 (D.ints (caP (m5 b ((f6 b j).snd + 1)))), .row 38 (D.instrs (o8 b (↑(i8 (m5 b ((f6 b j).snd + 1))).fst.length : Int) ((i8 (m5 b ((f6 b j).snd + 1))).fst, (r9 b ((f6 b j).snd + 1)).snd) (k + 1)).fst)] [(0, .ptr 0 0), (2, .ptr 2 0), (3, .ptr 3 0), (6, iA (↑(i8 (m5 b ((f6 b j).snd + 1))).fst.length : Int)), (7, iA (↑(k + 1) : Int))] (by kernel_rfl) (by kernel_rfl) (by kernel_rfl) (by have e1 : ((o8 b (↑(i8 (m5 b ((f6 b j).snd + 1))).fst.length : Int) ((i8 (m5 b ((f6 b j).snd + 1))).fst, (r9 b ((f6 b j).snd + 1)).snd) (k + 1)).snd : Int) = ((o8 b (↑(i8 (m5 b ((f6 b j).snd + 1))).fst.length : Int) ((i8 (m5 b ((f6 b j).snd + 1))).fst, (r9 b ((f6 b j).snd + 1)).snd) k).snd + 1 + 1) := (by rw [aU0 (by omega) (by omega) (by omega)]; done); have e2 : ((o8 b (↑(i8 (m5 b ((f6 b j).snd + 1))).fst.length : Int) ((i8 (m5 b ((f6 b j).snd + 1))).fst, (r9 b ((f6 b j).snd + 1)).snd) (k + 1)).fst : List d8) = ((o8 b (↑(i8 (m5 b ((f6 b j).snd + 1))).fst.length : Int) ((i8 (m5 b ((f6 b j).snd + 1))).fst, (r9 b ((f6 b j).snd + 1)).snd) k).fst.set k (d8.mk 8 ((↑k : Int) + 1 + pk b ((o8 b (↑(i8 (m5 b ((f6 b j).snd + 1))).fst.length : Int) ((i8 (m5 b ((f6 b j).snd + 1))).fst, (r9 b ((f6 b j).snd + 1)).snd) k).snd + 1) ((↑(i8 (m5 b ((f6 b j).snd + 1))).fst.length : Int) - (↑k : Int) - 1)) 0 0 0)) := (by rw [aU0 (by omega) (by omega) (by omega)]; done); (first | rw [e1, e2] | simp only [e1, e2]) <;> rfl) (by kernel_rfl)
theorem ay0 (b : List UInt8) (j : Int) (r0 : 0 ≤ j) (r1 : j ≤ 1000000) : p7.ok Try.prog ⟨17, [.ptr 0 0], [.box [.ref 1, iA j], dY b], [.box [.ref 1, iA (R8 b j).2], dY b, rI (R8 b j).1.vars, rI (R8 b j).1.arrays, rN (R8 b j).1.list], .agg [.ref 2, .ref 3, .ref 4]⟩ := by
 by_cases h : pk b (f6 b j).2 2 = 0
 ·cases h2 : Y4 (m5 b ((f6 b j).2 + 1)) with
  | true => rw [bp6 h h2]; exact a00 b j h h2 r0 r1
  | false => rw [bp8 h h2]; exact a02 b j h h2 r0 r1
 ·rw [bp7 h]; exact a01 b j h r0 r1
def drX (b : List UInt8) : f7 := (muD b (R8 b 0).2 (R8 b 0).1).1
def Q7 (c : List UInt8) : f7 := drX (bsD c)
theorem jp0 (b : List UInt8) : 0 ≤ (R8 b 0).2 ∧ (R8 b 0).2 ≤ 1000000 ∧ (R8 b 0).1.list.length ≤ 400 ∧ (R8 b 0).1.vars.length ≤ 1000 ∧ (R8 b 0).1.arrays.length ≤ 1000 := by
 obtain ⟨h1, h2, h3, h4, h5⟩ := bk3 b (j := 0) (by omega) (by omega)
 obtain ⟨g1, g2, g3, g4, g5⟩ := ag4 b (jpE b 0).1 (jpE b 0).2
 unfold R8
 rw [g1, g2, g3]
 omega
theorem a86 (c : List UInt8) (hc : c.length ≤ 2000) : p7.ok Try.prog ⟨8, [.ref 0], [dY c], [dY c, rI (drX c).vars, rI (drX c).arrays, rN (drX c).list], .agg [.ref 1, .ref 2, .ref 3]⟩ := by
 refine m8 10 Try.func8 (by rfl) (by kernel_rfl) (by kernel_rfl) ?_; intro ι φ ψ w0 w F ρ0 ρ a G; replace G := p6.at G [dY c] [(0, .ref 0)]; have hjp := jp0 c; refine wp_seq ?_; refine D8 G [0, 1] [dY c, .box [.v (.slice none 0 0), .v (.slice none 0 0), .v (.slice none 0 0)]] [(0, .ref 0), (2, .ptr 1 0)] fun ρ a w G => b9 (wp_seq ?_); refine v5 (dk := p5) G ⟨[(1, _, [0])], [], []⟩ (b6 (aO6 (c) (by assumption)) b0) trivial [0, 1, 10] [dY c, .box [.v (.slice none 0 0), .v (.slice none 0 0), .v (.slice none 0 0)], .box [.ref 0, iA 0]] [(2, .ptr 1 0), (3, .ptr 2 0)] [] trivial fun ρ a w G => b9 (wp_seq ?_); refine v5 (dk := p5) G ⟨[(2, _, [2, 0]), (3, _, [2, 0, 19, 20, 21])], [], []⟩ (b6 (ay0 (c) (0) (by omega) (by omega)) (b6 (p7.lend (at9 (c) ((R8 c 0).snd) ((R8 c 0).fst.vars) ((R8 c 0).fst.arrays) ((R8 c 0).fst.list) (by exact ⟨by omega, by omega, by omega⟩) (by omega) (by omega)) [.no, .no, .row 3, .row 3, .row 38]) b0)) trivial [0, 1, 27, 28, 29] [dY c, .box (pL 2), .row 3 (D.ints (muD c (R8 c 0).snd (f7.mk (R8 c 0).fst.vars (R8 c 0).fst.arrays (R8 c 0).fst.list)).fst.vars), .row 3 (D.ints (muD c (R8 c 0).snd (f7.mk (R8 c 0).fst.vars (R8 c 0).fst.arrays (R8 c 0).fst.list)).fst.arrays), .row 38 (D.instrs (muD c (R8 c 0).snd (f7.mk (R8 c 0).fst.vars (R8 c 0).fst.arrays (R8 c 0).fst.list)).fst.list)] [(2, .ptr 1 0)] [] trivial fun ρ a w G => b9 (wp_ret ?_); exact i7 (v := pA 2) G [0, 2, 3, 4] (by kernel_rfl) (by kernel_rfl) (by kernel_rfl) (by kernel_rfl)
abbrev aX6 (c : List UInt8) := muD (List.drop 0 (List.take 2000 c)) (R8 (List.drop 0 (List.take 2000 c)) 0).snd (f7.mk (R8 (List.drop 0 (List.take 2000 c)) 0).fst.vars (R8 (List.drop 0 (List.take 2000 c)) 0).fst.arrays (R8 (List.drop 0 (List.take 2000 c)) 0).fst.list)
theorem a85 (c : List UInt8) (hc : 2000 < c.length) : p7.ok Try.prog ⟨8, [.ref 0], [dY c], [dY c, rI (drX ((c.take 2000).drop 0)).vars, rI (drX ((c.take 2000).drop 0)).arrays, rN (drX ((c.take 2000).drop 0)).list], .agg [.ref 1, .ref 2, .ref 3]⟩ := by
 refine m8 10 Try.func8 (by rfl) (by kernel_rfl) (by kernel_rfl) ?_; intro ι φ ψ w0 w F ρ0 ρ a G; replace G := p6.at G [dY c] [(0, .ref 0)]; have hjp := jp0 ((c.take 2000).drop 0); refine wp_seq ?_; refine D8 G [0, 1] [dY c, .box [.v (.slice none 0 0), .v (.slice none 0 0), .v (.slice none 0 0)]] [(0, .ref 0), (2, .ptr 1 0)] fun ρ a w G => b9 (wp_seq ?_); refine v5 (dk := p5) G ⟨[(1, _, [0])], [], []⟩ (b6 (aO5 (c) (by assumption)) b0) trivial [0, 1, 10, 11] [dY c, .box [.v (.slice none 0 0), .v (.slice none 0 0), .v (.slice none 0 0)], .box [.ref 3, iA 0], dY (List.drop 0 (List.take 2000 c))] [(2, .ptr 1 0), (3, .ptr 2 0)] [] trivial fun ρ a w G => b9 (wp_seq ?_); refine v5 (dk := p5) G ⟨[(2, _, [2, 3]), (3, _, [2, 3, 20, 21, 22])], [], []⟩ (b6 (ay0 (List.drop 0 (List.take 2000 c)) (0) (by omega) (by omega)) (b6 (p7.lend (at9 (List.drop 0 (List.take 2000 c)) ((R8 (List.drop 0 (List.take 2000 c)) 0).snd) ((R8 (List.drop 0 (List.take 2000 c)) 0).fst.vars) ((R8 (List.drop 0 (List.take 2000 c)) 0).fst.arrays) ((R8 (List.drop 0 (List.take 2000 c)) 0).fst.list) (by exact ⟨by omega, by omega, by omega⟩) (by omega) (by omega)) [.no, .no, .row 3, .row 3, .row 38]) b0)) trivial [0, 1, 28, 29, 30] [dY c, .box (pL 2), .row 3 (D.ints (aX6 c).fst.vars), .row 3 (D.ints (aX6 c).fst.arrays), .row 38 (D.instrs (aX6 c).fst.list)] [(2, .ptr 1 0)] [] trivial fun ρ a w G => b9 (wp_ret ?_); exact i7 (v := pA 2) G [0, 2, 3, 4] (by kernel_rfl) (by kernel_rfl) (by kernel_rfl) (by kernel_rfl)
theorem aI9 (c : List UInt8) : p7.ok Try.prog ⟨8, [.ref 0], [dY c], [dY c, rI (Q7 c).vars, rI (Q7 c).arrays, rN (Q7 c).list], .agg [.ref 1, .ref 2, .ref 3]⟩ := by
 by_cases h : c.length ≤ 2000
 ·have e : Q7 c = drX c := by unfold Q7 bsD; rw [List.take_of_length_le h]
  rw [e]; exact a86 c h
 ·exact a85 c (by omega)
theorem ag8 (c : List UInt8) : p7.ok Try.prog ⟨4, [.ref 0], [dY c], [dY c, rI (Q7 c).vars, rI (Q7 c).arrays, rN (Q7 c).list], .agg [.ref 1, .ref 2, .ref 3]⟩ := by
 refine m8 5 Try.func4 (by rfl) (by kernel_rfl) (by kernel_rfl) ?_; intro ι φ ψ w0 w F ρ0 ρ a G; replace G := p6.at G [dY c] [(0, .ref 0)]; refine wp_seq ?_; refine D8 G [0, 1] [dY c, .box [.v (.slice none 0 0), .v (.slice none 0 0), .v (.slice none 0 0)]] [(0, .ref 0), (2, .ptr 1 0)] fun ρ a w G => b9 (wp_seq ?_); refine v5 (dk := p5) G ⟨[(1, _, [0])], [], []⟩ (b6 (aI9 (c)) b0) trivial [0, 1, 10, 11, 12] [dY c, .box (pL 2), .row 3 (D.ints (Q7 c).vars), .row 3 (D.ints (Q7 c).arrays), .row 38 (D.instrs (Q7 c).list)] [(2, .ptr 1 0)] [] trivial fun ρ a w G => b9 (wp_ret ?_); exact i7 (v := pA 2) G [0, 2, 3, 4] (by kernel_rfl) (by kernel_rfl) (by kernel_rfl) (by kernel_rfl)
theorem aL0 {w : World} {φ : Nat → Prop} {v : Value} {l : List d8} (h : w.ownsRow 0 38 5 v l.length (ints (A4 l))) : (Rs.row 38 (D.instrs l).sz v (D.instrs l).len fun xs w φ => RW w φ (.instrs l) xs).holds w φ := by
 refine ⟨fun xs => RW.nice (.instrs l) xs, ints (A4 l), h, fun i hi j x hx => ?_⟩
 have hi' : i < l.length := hi
 obtain ⟨y, rfl, hy⟩ := a46 l hi' hx
 exact ⟨y, hy, rfl⟩
theorem aR9 {f : FuncId} {c d : f7} {b : Bool} (h : ∀ (v : Value) (w : World), z9 w v c → Calls Try.prog f #[v] w fun e w' => ∃ u, e = .returned (.tuple #[u, .bool b]) ∧ y6 w' w.heap.size w'.heap.size u d ∧ Below w.heap.size w w') : p7.ok Try.prog ⟨f, [.agg [.ref 0, .ref 1, .ref 2]], [.dat (.ints c.vars), .dat (.ints c.arrays), .dat (.instrs c.list)], [.dat (.ints c.vars), .dat (.ints c.arrays), .dat (.instrs c.list), .row 3 (.ints d.vars), .row 3 (.ints d.arrays), .row 38 (.instrs d.list)], .tup [.agg [.ref 3, .ref 4, .ref 5], .v (.bool b)]⟩ := by
 intro ι φ ψ w0 w F ρ M
 have r0 := M.datAt (id := 0) (d := .ints c.vars) rfl
 have r1 := M.datAt (id := 1) (d := .ints c.arrays) rfl
 have r2 := M.datAt (id := 2) (d := .instrs c.list) rfl
 refine (h (.agg #[ρ 0, ρ 1, ρ 2]) w ⟨_, _, _, rfl, t8.row r0, t8.row r1, t8.row r2⟩).mono ?_
 rintro e w' ⟨u, rfl, ⟨v1, v2, v3, rfl, ⟨o1, g1⟩, ⟨o2, g2⟩, ⟨o3, g3⟩, d12, d13, d23⟩, hbl⟩
 refine ⟨fun i => if i = 3 then v1 else if i = 4 then v2 else if i = 5 then v3 else ρ i, fun i hi => ?_, by simp [AV.val, AV.vals], ?_⟩
 ·have hi' : i < 3 := hi
  simp only [if_neg (show ¬ i = 3 by omega), if_neg (show ¬ i = 4 by omega), if_neg (show ¬ i = 5 by omega)]
 ·refine M.grow hbl (fun k => k = .inr 3 ∨ k = .inr 4 ∨ k = .inr 5) (fun k hk => ?_) ?_ ?_ ?_
  ·cases k with
   | inl i => rfl
   | inr j =>
    match j, hk with
    | 0, _ => rfl
    | 1, _ => rfl
    | 2, _ => rfl
    | 3, h => exact absurd (.inl rfl) h
    | 4, h => exact absurd (.inr (.inl rfl)) h
    | 5, h => exact absurd (.inr (.inr rfl)) h
    | j + 6, _ => rfl
  ·rintro k (rfl | rfl | rfl) b hb
   ·exact (World.ownsRow.lt o1 b hb).1
   ·exact (World.ownsRow.lt o2 b hb).1
   ·exact (World.ownsRow.lt o3 b hb).1
  ·rintro j k b hjk (rfl | rfl | rfl) (rfl | rfl | rfl) h1 h2
   ·exact absurd rfl hjk
   ·exact d12 b h1 h2
   ·exact d13 b h1 h2
   ·exact d12 b h2 h1
   ·exact absurd rfl hjk
   ·exact d23 b h1 h2
   ·exact d13 b h2 h1
   ·exact d23 b h2 h1
   ·exact absurd rfl hjk
  ·rintro k (rfl | rfl | rfl)
   ·exact ax0 (B5 o1 (Nat.zero_le _))
   ·exact ax0 (B5 o2 (Nat.zero_le _))
   ·exact aL0 (B5 o3 (Nat.zero_le _))
abbrev bools (l : List Bool) : List Value := l.map Value.bool
end Go.Proofs.Ythikdkjjdeehoaa

namespace Go.Proofs.Ythikdkjjdeehoaa
set_option linter.unusedVariables false
set_option linter.unusedSimpArgs false
open Go Go.RowKit
theorem Code.rowOf {w : World} {lo hi : Nat} {v1 v2 v3 : Value} {c : f7} (h : y6 w lo hi (.agg #[v1, v2, v3]) c) : ∃ a1 k1 a2 k2 a3 k3, v1 = .slice a1 c.vars.length k1 ∧ v2 = .slice a2 c.arrays.length k2 ∧ v3 = .slice a3 c.list.length k3 := by
 obtain ⟨u1, u2, u3, he, h1, h2, h3, -⟩ := h
 simp only [Value.agg.injEq, Array.mk.injEq, List.cons.injEq, and_true] at he
 obtain ⟨rfl, rfl, rfl⟩ := he
 obtain ⟨a1, k1, e1⟩ := h1.form
 obtain ⟨a2, k2, e2⟩ := h2.form
 obtain ⟨a3, k3, e3⟩ := h3.form
 exact ⟨a1, k1, a2, k2, a3, k3, e1, e2, e3⟩
theorem ax9 (v : Value) (t : List Int) (w : World) (h : H8 w v t.length 1 (ints t)) (hb : t.length ≤ 1000000000000) :
  Calls Try.prog 43 #[v] w fun e w' => ∃ u, e = .returned u ∧ I5 w' w.heap.size w'.heap.size 3 1 u t.length (ints t) ∧ Below w.heap.size w w' := by
 obtain ⟨a, cap, rfl, hc1, hc2, hc3, -⟩ := h.open
 have hnil := fun w => Lib.run_eql_slice_nil (P := Try.prog) w 23 3 a t.length cap 0 0 Try.underlying23
 rcases a with _ | a
 ·have hn : t.length = 0 := by
   rcases Nat.eq_zero_or_pos t.length with h0 | h0
   ·exact h0
   ·obtain ⟨_, a, c, he, _, _, hx⟩ := h
    cases he
    obtain ⟨_, _, he, _⟩ := hx h0
    cases he
  have ht : t = [] := List.eq_nil_of_length_eq_zero hn
  subst ht
  simp only [List.length_nil, Option.isNone_none] at hnil
  go_enter Try.func43, Try.ntmps43
  go_wp2_with fail
  go_ret
  exact ⟨_, rfl, ⟨World.ownsRow_nil _ _ _ _, fun g hg => by cases hg⟩, Below.refl _ _⟩
 ·go_enter Try.func43, Try.ntmps43
  simp only [Option.isNone_some] at hnil
  have ba := (Below.refl w.heap.size w).alloc (Nat.le_refl _) (.cells #[] 3)
  go_wp2_with (at_builtin; refine ap9 rfl _ _ rfl Try.underlying23 a40 rfl (by omega) rfl (E1 w #[] 0 1 _ rfl rfl (by omega)).1 rfl (h.below ba) aG5 (by omega) (by omega) (by simp) ?_; rintro a4 q4 w4 o4 b4 - -)
  go_ret
  refine ⟨_, rfl, I5.mk' (by simpa using o4), ba.trans b4⟩
theorem aU9 (v : Value) (t : List d8) (w : World) (h : L6 w v t) (hb : t.length ≤ 1000000000000) :
  Calls Try.prog 44 #[v] w fun e w' => ∃ u, e = .returned u ∧ I5 w' w.heap.size w'.heap.size 38 5 u t.length (ints (A4 t)) ∧ Below w.heap.size w w' := by
 obtain ⟨a, cap, rfl, hc1, hc2, hc3, -⟩ := h.open
 have hnil := fun w => Lib.run_eql_slice_nil (P := Try.prog) w 24 38 a t.length cap 0 0 Try.underlying24
 rcases a with _ | a
 ·have hn : t.length = 0 := by
   rcases Nat.eq_zero_or_pos t.length with h0 | h0
   ·exact h0
   ·obtain ⟨_, a, c, he, _, _, hx⟩ := h
    cases he
    obtain ⟨_, _, he, _⟩ := hx h0
    cases he
  have ht : t = [] := List.eq_nil_of_length_eq_zero hn
  subst ht
  simp only [List.length_nil, Option.isNone_none] at hnil
  go_enter Try.func44, Try.ntmps44
  go_wp2_with fail
  go_ret
  exact ⟨_, rfl, ⟨World.ownsRow_nil _ _ _ _, fun g hg => by cases hg⟩, Below.refl _ _⟩
 ·go_enter Try.func44, Try.ntmps44
  simp only [Option.isNone_some] at hnil
  have ba := (Below.refl w.heap.size w).alloc (Nat.le_refl _) (.cells #[] 38)
  go_wp2_with (at_builtin; refine ap9 rfl _ _ rfl Try.underlying24 bd0 rfl (by omega) rfl (E1 w #[] 0 5 _ rfl rfl (by omega)).1 rfl (h.below ba) aG5 (by omega) (by omega) (by simp) ?_; rintro a4 q4 w4 o4 b4 - -)
  go_ret
  refine ⟨_, rfl, I5.mk' (by simpa using o4), ba.trans b4⟩
theorem a41 (v : Value) (c : f7) (w : World) (h : z9 w v c) (hs : c.size ≤ 1048576) :
  Calls Try.prog 23 #[v] w fun e w' => ∃ u, e = .returned u ∧ y6 w' w.heap.size w'.heap.size u c ∧ Below w.heap.size w w' := by
 obtain ⟨v1, v2, v3, rfl, h1, h2, h3⟩ := h
 unfold f7.size at hs
 obtain ⟨n, hn⟩ : ∃ n, n = w.heap.size := ⟨_, rfl⟩
 obtain ⟨W, hW⟩ : ∃ W, W = (w.alloc (.cells #[v1, v2, v3] 26)).alloc (.cells #[.slice none 0 0, .slice none 0 0, .slice none 0 0] 26) := ⟨_, rfl⟩
 have B0 : Below n w W := by rw [hW, hn]; go_grown
 have sW : W.heap.size = n + 1 + 1 := by rw [hW, hn]; simp
 have L1 : y8 W n [v1, v2, v3] := by rw [hW, hn]; exact (y8.new w [v1, v2, v3] _).alloc _
 have L2 : y8 W (n + 1) [.slice none 0 0, .slice none 0 0, .slice none 0 0] := by rw [hW, hn]; exact y8.new' (w.alloc _) [.slice none 0 0, .slice none 0 0, .slice none 0 0] _ (by simp)
 have hS : ∀ W', Below (n + 1) W W' → Below (n + 1) W W' ∧ (W'.cell? ⟨n, 0, none⟩ = some v1 ∧ W'.cell? ⟨n, 1, none⟩ = some v2 ∧ W'.cell? ⟨n, 2, none⟩ = some v3) := by
  intro W' hb
  have L' := L1.below hb (by omega)
  exact ⟨hb, by simpa using L'.cell 0, by simpa using L'.cell 1, by simpa using L'.cell 2⟩
 have hQ : ∀ W' W'', Below (n + 1 + 1) W W' → Below W'.heap.size W' W'' → Below (n + 1 + 1) W W'' := fun W' W'' g k => g.trans (k.mono (by have := g.size; omega))
 have hT : ∀ W', Below (n + 1 + 1) W W' → (W'.frozen? ⟨n + 1, 0, none⟩ = false ∧ W'.frozen? ⟨n + 1, 1, none⟩ = false ∧ W'.frozen? ⟨n + 1, 2, none⟩ = false) ∧ W'.cell? ⟨n + 1, 0, none⟩ = some (.slice none 0 0) ∧ W'.cell? ⟨n + 1, 1, none⟩ = some (.slice none 0 0) ∧ W'.cell? ⟨n + 1, 2, none⟩ = some (.slice none 0 0) := by
  intro W' hb
  have L' := L2.below hb (by omega)
  exact ⟨⟨L'.free 0, L'.free 1, L'.free 2⟩, by simpa using L'.cell 0, by simpa using L'.cell 1, by simpa using L'.cell 2⟩
 have hA : ∀ W', Below (n + 1 + 1) W W' → Below n w W' := fun W' g => B0.trans (g.mono (by omega))
 have HA1 := show Hid (∀ W', Below (n + 1 + 1) W W' → H8 W' v1 c.vars.length 1 (ints c.vars)) from fun W' g => h1.below (by rw [← hn]; exact hA _ g)
 have HA2 := show Hid (∀ W', Below (n + 1 + 1) W W' → H8 W' v2 c.arrays.length 1 (ints c.arrays)) from fun W' g => h2.below (by rw [← hn]; exact hA _ g)
 have HA3 := show Hid (∀ W', Below (n + 1 + 1) W W' → L6 W' v3 c.list) from fun W' g => h3.below (by rw [← hn]; exact hA _ g)
 have HA := show Hid _ from hA
 have HS := show Hid _ from hS
 have HQ := show Hid _ from hQ
 have HT := show Hid _ from hT
 have hb0 : Below (n + 1 + 1) W W.drew := (Below.refl _ W).drew
 have hb1 : Below (n + 1) W W.drew := (Below.refl _ W).drew
 have HN := show Hid (n = w.heap.size) from hn
 have HL2 := show Hid _ from L2
 have zd : W.drew.heap.size = n + 1 + 1 := sW
 have HB0 := show Hid _ from B0
 clear hS hQ hT hA h1 h2 h3 L1
 go_enter Try.func23, Try.ntmps23
 go_wp2_with fail
 rw [← HN.out]
 rw [← hW]
 clear hn hW B0 L2
 go_region_held3 (fun W' => Below (n + 1) W W' ∧ (W'.cell? ⟨n, 0, none⟩ = some v1 ∧ W'.cell? ⟨n, 1, none⟩ = some v2 ∧ W'.cell? ⟨n, 2, none⟩ = some v3))
  (first | exact HS.out _ (by assumption) | exact HS.out _ ((by assumption : Below (n + 1 + 1) W _).mono (Nat.le_succ _)) | exact HS.out _ (((((by assumption : Below (n + 1 + 1) W _).mono (Nat.le_succ _)).setCell (Nat.le_refl _) _).setCell (Nat.le_refl _) _).setCell (Nat.le_refl _) _))
  (first
   | (go_at_call 43; refine (ax9 v1 c.vars _ (HA1.out _ (by assumption)) (by omega)).mono ?_; rintro e w7 ⟨u1, rfl, o1, b7⟩; obtain ⟨x1, k1, rfl⟩ := o1.form; have s7 := b7.size; (try replace o2 := o2.keep b7 (by omega)); (try replace o3 := o3.keep b7 (by omega)); have q7 := HQ.out _ _ (by assumption) b7; have z7 := q7.size; obtain ⟨⟨f0, f1, f2⟩, c0, c1, c2⟩ := HT.out _ q7)
   | (go_at_call 43; refine (ax9 v2 c.arrays _ (HA2.out _ (by assumption)) (by omega)).mono ?_; rintro e w7 ⟨u2, rfl, o2, b7⟩; obtain ⟨x2, k2, rfl⟩ := o2.form; have s7 := b7.size; (try replace o1 := o1.keep b7 (by omega)); (try replace o3 := o3.keep b7 (by omega)); have q7 := HQ.out _ _ (by assumption) b7; have z7 := q7.size; obtain ⟨⟨f0, f1, f2⟩, c0, c1, c2⟩ := HT.out _ q7)
   | (go_at_call 44; refine (aU9 v3 c.list _ (HA3.out _ (by assumption)) (by omega)).mono ?_; rintro e w7 ⟨u3, rfl, o3, b7⟩; obtain ⟨x3, k3, rfl⟩ := o3.form; have s7 := b7.size; (try replace o1 := o1.keep b7 (by omega)); (try replace o2 := o2.keep b7 (by omega)); have q7 := HQ.out _ _ (by assumption) b7; have z7 := q7.size; obtain ⟨⟨f0, f1, f2⟩, c0, c1, c2⟩ := HT.out _ q7))
 have L2 := y8.below HL2.out q7 (by omega)
 have L3 := ((L2.set (j := 0) (.slice x1 c.vars.length k1)).set (j := 1) (.slice x2 c.arrays.length k2)).set (j := 2) (.slice x3 c.list.length k3)
 replace o1 := (((o1.other (b := n + 1) (by omega) 0 (.slice x1 c.vars.length k1)).other (b := n + 1) (by omega) 1 (.slice x2 c.arrays.length k2)).other (b := n + 1) (by omega) 2 (.slice x3 c.list.length k3))
 replace o2 := (((o2.other (b := n + 1) (by omega) 0 (.slice x1 c.vars.length k1)).other (b := n + 1) (by omega) 1 (.slice x2 c.arrays.length k2)).other (b := n + 1) (by omega) 2 (.slice x3 c.list.length k3))
 replace o3 := (((o3.other (b := n + 1) (by omega) 0 (.slice x1 c.vars.length k1)).other (b := n + 1) (by omega) 1 (.slice x2 c.arrays.length k2)).other (b := n + 1) (by omega) 2 (.slice x3 c.list.length k3))
 have BF := (((HB0.out.trans (q7.mono (by omega))).setCell (p := ⟨n + 1, 0, none⟩) (by show n ≤ n + 1; omega) (.slice x1 c.vars.length k1)).setCell (p := ⟨n + 1, 1, none⟩) (by show n ≤ n + 1; omega) (.slice x2 c.arrays.length k2)).setCell (p := ⟨n + 1, 2, none⟩) (by show n ≤ n + 1; omega) (.slice x3 c.list.length k3)
 have zF : (((w7.setCell ⟨n + 1, 0, none⟩ (.slice x1 c.vars.length k1)).setCell ⟨n + 1, 1, none⟩ (.slice x2 c.arrays.length k2)).setCell ⟨n + 1, 2, none⟩ (.slice x3 c.list.length k3)).heap.size = w7.heap.size := by simp
 generalize ((w7.setCell ⟨n + 1, 0, none⟩ (.slice x1 c.vars.length k1)).setCell ⟨n + 1, 1, none⟩ (.slice x2 c.arrays.length k2)).setCell ⟨n + 1, 2, none⟩ (.slice x3 c.list.length k3) = WF at *
 have r0 := L3.cell 0
 have r1 := L3.cell 1
 have r2 := L3.cell 2
 simp at r0 r1 r2
 have hn' := HN.out
 clear f0 f1 f2 c0 c1 c2 L2 HS HQ HT HA HA1 HA2 HA3 HL2 HB0 hb0 hb1 HN
 go_wp2_with fail
 refine bodyPost_ret (v := .agg #[.slice x1 c.vars.length k1, .slice x2 c.arrays.length k2, .slice x3 c.list.length k3]) (by simp [results, Try.results23, go_sem, r0, r1, r2]) rfl ⟨_, rfl, ⟨_, _, _, rfl, o1.wide (by omega) (by omega), o2.wide (by omega) (by omega), o3.wide (by omega) (by omega), aC0 o1 o2 (by omega), aC0 o1 o3 (by omega), aC0 o2 o3 (by omega)⟩, by rw [← hn']; exact BF⟩
theorem X5 {P : Program} {w : World} {ops : Array Oper} {rest : List Oper} {o : Oper} {a : Act} {Q : Exit → Act → World → Prop} {t e : TypeId} {z : Value} {size bytes lo : Nat} {u v : Value} {m : Nat} {news : List Value}
  (hgd : o.guard = none) (s x : Operand) (ho : o.op = .call { callee := .builtin .append, args := #[s, x], argTypes := #[t, t] })
  (ht : P.underlying t = some (.slice e)) (hi : (P.info? e).map (fun i => (i.zero, i.size, i.bytes)) = some (some z, size, bytes))
  (hzs : z.cells.size = size) (hsz : 0 < size) (hv : ∃ b, v = .slice (some b) 0 0) (hown : w.ownsRow lo e size v 0 []) (hs : a.eval s = v) (hx : a.eval x = u) (hr : H8 w u m size news) (hbytes : m * bytes ≤ 140737488355328) (hlo : lo ≤ w.heap.size)
  (h : ∀ x w', w'.ownsRow lo e size x m news → Below w.heap.size w w' → (x = v ∨ ∀ g, x.ownBlock = some g → w.heap.size ≤ g) → wpList P ops Q rest (a.put o.dst x) w') : wpList P ops Q (o :: rest) a w := by
 obtain ⟨b, rfl⟩ := hv
 refine wpList_plain hgd fun K hK => ?_
 have hrun : ∃ x w', (Builtin.append_ #[t, t] o.type #[.slice (some b) 0 0, u]).run P w = .ok x w' ∧ w'.ownsRow lo e size x m news ∧ Below w.heap.size w w' ∧ (x = .slice (some b) 0 0 ∨ ∀ g, x.ownBlock = some g → w.heap.size ≤ g) := by
  obtain ⟨i, g1, g2, g3, g4⟩ := info_parts hi
  obtain ⟨hl, A, c, rfl, hmc, hc, hA⟩ := hr
  rcases Nat.eq_zero_or_pos m with h0 | h0
  ·subst h0
   have hn : news = [] := List.eq_nil_of_length_eq_zero (by simpa using hl)
   subst hn
   refine ⟨.slice (some b) 0 0, w, ?_, hown, Below.refl _ _, .inl rfl⟩
   have hz : ∀ a' : Addr, (loadCells a' 0).run P w = .ok #[] w := fun a' => by simpa using run_loadCells_list (P := P) w a' [] (by simp)
   cases A <;> simp [Builtin.append_, run_underlying ht, sizeOf, typeInfo, g1, Builtin.lenOf, Builtin.firstCells, storeCells, hz]
  ·obtain ⟨bk, off, rfl, hbk, hx⟩ := hA h0
   obtain ⟨v', w', h1, h2, h3⟩ := run_append_arg_grows (P := P) (w := w) t o.type e i z size bytes ht g1 g2 g3 g4 hzs hsz b 0 0 [] (by simp) (by simp) ⟨bk, off, none⟩ m c news hl
    (fun j u hj => by
     have hadd : (⟨bk, off, none⟩ : Addr).add j = ⟨bk, off + j, none⟩ := by unfold Addr.add; split <;> simp_all
     rw [hadd]; exact hx j u hj) (by omega) (by omega) (by simpa using hbytes)
   refine ⟨v', w', h1, B5 (by simpa using h2) hlo, ⟨h3.os, h3.tape, h3.output, h3.size, fun k hk => h3.block k hk (by simp)⟩, .inr fun g hg => (h2.lt g hg).1⟩
 obtain ⟨y, w', hrun, h2, h3, h4⟩ := hrun
 unfold Oper.wp execOp
 simp only [ho, resolve, invoke, builtin, Sem.run_bind, Sem.run_pure, Result.andThen_ok, List.map_toArray, List.map_cons, List.map_nil, hs, hx, hrun]
 exact hK _ _ (h y w' h2 h3 h4)
def G6 (i : Nat) : Prop := i % 4 = 0 ∨ i % 4 = 3
def Pv (n : Nat) (v1 v2 v3 : Value) (c : f7) (i : Nat) (x : Value) (w : World) : Prop :=
 match i with
 | 0 => (∃ b, x = .slice (some b) 0 0) ∧ w.ownsRow (n + 1 + 1) 3 1 x 0 []
 | 1 => x = .pointer (some ⟨n, 0, none⟩)
 | 2 => x = v1
 | 3 => w.ownsRow (n + 1 + 1) 3 1 x c.vars.length (ints c.vars)
 | 4 => (∃ b, x = .slice (some b) 0 0) ∧ w.ownsRow (n + 1 + 1) 3 1 x 0 []
 | 5 => x = .pointer (some ⟨n, 1, none⟩)
 | 6 => x = v2
 | 7 => w.ownsRow (n + 1 + 1) 3 1 x c.arrays.length (ints c.arrays)
 | 8 => (∃ b, x = .slice (some b) 0 0) ∧ w.ownsRow (n + 1 + 1) 38 5 x 0 []
 | 9 => x = .pointer (some ⟨n, 2, none⟩)
 | 10 => x = v3
 | 11 => w.ownsRow (n + 1 + 1) 38 5 x c.list.length (ints (A4 c.list))
 | 12 => ∃ y1 y2 y3, x = .agg #[y1, y2, y3] ∧ w.ownsRow (n + 1 + 1) 3 1 y1 c.vars.length (ints c.vars) ∧ w.ownsRow (n + 1 + 1) 3 1 y2 c.arrays.length (ints c.arrays) ∧ w.ownsRow (n + 1 + 1) 38 5 y3 c.list.length (ints (A4 c.list)) ∧ T1 y1 y2 ∧ T1 y1 y3 ∧ T1 y2 y3
 | _ => True
theorem Pv.next {n : Nat} {v1 v2 v3 : Value} {c : f7} {i : Nat} {x : Value} {w w' : World} (h : Pv n v1 v2 v3 c i x w) (hb : Below w.heap.size w w') : Pv n v1 v2 v3 c i x w' := by
 have k := fun {e : TypeId} {sz : Nat} {v : Value} {m : Nat} {xs : List Value} (g : w.ownsRow (n + 1 + 1) e sz v m xs) => T9 g hb (Nat.le_refl _)
 unfold Pv at *
 split at h <;> first | exact h | exact k h | exact ⟨h.1, k h.2⟩ | (obtain ⟨y1, y2, y3, e, g1, g2, g3, d⟩ := h; exact ⟨y1, y2, y3, e, k g1, k g2, k g3, d⟩)
theorem Pv.lt {n : Nat} {v1 v2 v3 : Value} {c : f7} {i : Nat} {x : Value} {w : World} (h : Pv n v1 v2 v3 c i x w) (hi : i < 12) (ho : G6 i) : ∀ g, x.ownBlock = some g → g < w.heap.size := by
 intro g hg
 unfold G6 at ho
 have : i = 0 ∨ i = 3 ∨ i = 4 ∨ i = 7 ∨ i = 8 ∨ i = 11 := by omega
 rcases this with rfl | rfl | rfl | rfl | rfl | rfl
 ·exact (h.2.lt g hg).2
 ·exact (World.ownsRow.lt h g hg).2
 ·exact (h.2.lt g hg).2
 ·exact (World.ownsRow.lt h g hg).2
 ·exact (h.2.lt g hg).2
 ·exact (World.ownsRow.lt h g hg).2
def K6 (v : Value) (n : Nat) (f : Nat → Value) : Act := ⟨#[v, .pointer (some ⟨n, 0, none⟩), .pointer (some ⟨n + 1, 0, none⟩), f 0, f 1, f 2, f 3, f 4, f 5, f 6, f 7, f 8, f 9, f 10, f 11, f 12], []⟩
structure ah1 (n : Nat) (v1 v2 v3 : Value) (c : f7) (W : World) (listed : Array Bool) (f : Nat → Value) (w : World) : Prop where
 size : listed.size = 14
 val : ∀ i, i < 13 → listed.getD i false = true → Pv n v1 v2 v3 c i (f i) w
 dis : ∀ i j, i < 12 → j < 12 → G6 i → G6 j → i / 4 ≠ j / 4 → listed.getD i false = true → listed.getD j false = true → T1 (f i) (f j)
 box : Below (n + 1) W w
 big : n + 1 + 1 ≤ w.heap.size
 pre : listed.getD 13 false = false → Below (n + 1 + 1) W w
 post : listed.getD 13 false = true → ∃ y1 y2 y3, y8 w (n + 1) [y1, y2, y3] ∧ w.ownsRow (n + 1 + 1) 3 1 y1 c.vars.length (ints c.vars) ∧ w.ownsRow (n + 1 + 1) 3 1 y2 c.arrays.length (ints c.arrays) ∧ w.ownsRow (n + 1 + 1) 38 5 y3 c.list.length (ints (A4 c.list)) ∧ T1 y1 y2 ∧ T1 y1 y3 ∧ T1 y2 y3
def bh4 (n : Nat) (v1 v2 v3 : Value) (c : f7) (W : World) (listed : Array Bool) (a : Act) (w : World) : Prop := ∃ f : Nat → Value, a = K6 (.agg #[v1, v2, v3]) n f ∧ ah1 n v1 v2 v3 c W listed f w
theorem ah1.step {n : Nat} {v1 v2 v3 : Value} {c : f7} {W : World} {listed : Array Bool} {f : Nat → Value} {w w' : World} (h : ah1 n v1 v2 v3 c W listed f w) {i : Nat} (hi : i < 13) {x : Value} (hb : Below w.heap.size w w') (hx : Pv n v1 v2 v3 c i x w')
  (hd : G6 i → ∀ j, j < 12 → G6 j → i / 4 ≠ j / 4 → listed.getD j false = true → T1 x (f j)) : ah1 n v1 v2 v3 c W (listed.setIfInBounds i true) (fun k => if k = i then x else f k) w' := by
 have hs := hb.size
 have hbig := h.big
 have get : ∀ j, j ≠ i → (listed.setIfInBounds i true).getD j false = true → listed.getD j false = true := fun j hj g => by rwa [getD_set_ne false (fun e => hj e.symm)] at g
 refine ⟨by simpa using h.size, fun j hj g => ?_, fun j k hj hk oj ok hjk gj gk => ?_, h.box.trans (hb.mono (by omega)), by omega, fun g => ?_, fun g => ?_⟩
 ·by_cases e : j = i
  ·subst e; simpa using hx
  ·simp only [if_neg e]; exact (h.val j hj (get j e g)).next hb
 ·by_cases e1 : j = i
  ·subst e1
   have e2 : k ≠ j := fun e => hjk (by rw [e])
   simp only [if_pos, if_neg e2]
   exact hd oj k hk ok hjk (get k e2 gk)
  ·by_cases e2 : k = i
   ·subst e2
    simp only [if_pos, if_neg e1]
    exact (hd ok j hj oj (fun e => hjk e.symm) (get j e1 gj)).symm
   ·simp only [if_neg e1, if_neg e2]
    exact h.dis j k hj hk oj ok hjk (get j e1 gj) (get k e2 gk)
 ·rw [getD_set_ne false (by omega)] at g
  exact (h.pre g).trans (hb.mono (by omega))
 ·rw [getD_set_ne false (by omega)] at g
  obtain ⟨y1, y2, y3, k0, k1, k2, k3, k4⟩ := h.post g
  exact ⟨y1, y2, y3, k0.below hb k0.lt, T9 k1 hb (Nat.le_refl _), T9 k2 hb (Nat.le_refl _), T9 k3 hb (Nat.le_refl _), k4⟩
theorem ah1.new {n : Nat} {v1 v2 v3 : Value} {c : f7} {W : World} {listed : Array Bool} {f : Nat → Value} {w : World} (h : ah1 n v1 v2 v3 c W listed f w) {x : Value} (hx : ∀ g, x.ownBlock = some g → w.heap.size ≤ g) : ∀ j, j < 12 → G6 j → listed.getD j false = true → T1 x (f j) := by
 intro j hj oj gj g h1 h2
 have := hx g h1
 have := (h.val j (by omega) gj).lt hj oj g h2
 omega
theorem ag0 {w : World} {base : Nat} {e : TypeId} {sz : Nat} {v : Value} {m : Nat} {xs : List Value} (h : w.ownsRow base e sz v m xs) {b : Nat} (hb : b < base) (j : Nat) (u : Value) : (w.setCell ⟨b, j, none⟩ u).ownsRow base e sz v m xs :=
 ((I5.mk' h).other (b := b) (.inl hb) j u).1
theorem Pv.store {n : Nat} {v1 v2 v3 : Value} {c : f7} {i : Nat} {x : Value} {w : World} (h : Pv n v1 v2 v3 c i x w) (j : Nat) (u : Value) : Pv n v1 v2 v3 c i x (w.setCell ⟨n + 1, j, none⟩ u) := by
 have k := fun {e : TypeId} {sz : Nat} {v : Value} {m : Nat} {xs : List Value} (g : w.ownsRow (n + 1 + 1) e sz v m xs) => ag0 g (Nat.lt_succ_self (n + 1)) j u
 unfold Pv at *
 split at h <;> first | exact h | exact k h | exact ⟨h.1, k h.2⟩ | (obtain ⟨y1, y2, y3, e, g1, g2, g3, d⟩ := h; exact ⟨y1, y2, y3, e, k g1, k g2, k g3, d⟩)
theorem ah1.stored {n : Nat} {v1 v2 v3 : Value} {c : f7} {W : World} {listed : Array Bool} {f : Nat → Value} {w : World} (h : ah1 n v1 v2 v3 c W listed f w) {u0 u1 u2 : Value}
  (L : y8 (((w.setCell ⟨n + 1, 0, none⟩ u0).setCell ⟨n + 1, 1, none⟩ u1).setCell ⟨n + 1, 2, none⟩ u2) (n + 1) [u0, u1, u2]) (g1 : w.ownsRow (n + 1 + 1) 3 1 u0 c.vars.length (ints c.vars)) (g2 : w.ownsRow (n + 1 + 1) 3 1 u1 c.arrays.length (ints c.arrays)) (g3 : w.ownsRow (n + 1 + 1) 38 5 u2 c.list.length (ints (A4 c.list))) (dd : T1 u0 u1 ∧ T1 u0 u2 ∧ T1 u1 u2) :
  ah1 n v1 v2 v3 c W (listed.setIfInBounds 13 true) f (((w.setCell ⟨n + 1, 0, none⟩ u0).setCell ⟨n + 1, 1, none⟩ u1).setCell ⟨n + 1, 2, none⟩ u2) := by
 have get : ∀ j, j < 13 → (listed.setIfInBounds 13 true).getD j false = true → listed.getD j false = true := fun j hj g => by rwa [getD_set_ne false (by omega)] at g
 have hsz : (((w.setCell ⟨n + 1, 0, none⟩ u0).setCell ⟨n + 1, 1, none⟩ u1).setCell ⟨n + 1, 2, none⟩ u2).heap.size = w.heap.size := by simp
 have k := fun {e : TypeId} {sz : Nat} {v : Value} {m : Nat} {xs : List Value} (g : w.ownsRow (n + 1 + 1) e sz v m xs) => ag0 (ag0 (ag0 g (Nat.lt_succ_self (n + 1)) 0 u0) (Nat.lt_succ_self (n + 1)) 1 u1) (Nat.lt_succ_self (n + 1)) 2 u2
 refine ⟨by simpa using h.size, fun j hj g => (((h.val j hj (get j hj g)).store 0 u0).store 1 u1).store 2 u2, fun i j hi hj oi oj hij gi gj => h.dis i j hi hj oi oj hij (get i (by omega) gi) (get j (by omega) gj), ?_, by rw [hsz]; exact h.big, fun g => ?_, fun _ => ⟨u0, u1, u2, L, k g1, k g2, k g3, dd⟩⟩
 ·exact ((h.box.setCell (p := ⟨n + 1, 0, none⟩) (Nat.le_refl _) u0).setCell (p := ⟨n + 1, 1, none⟩) (Nat.le_refl _) u1).setCell (p := ⟨n + 1, 2, none⟩) (Nat.le_refl _) u2
 ·have h14 := h.size
  simp [h14] at g
theorem aE1 (v : Value) (c : f7) (w : World) (h : z9 w v c) (hs : c.size ≤ 1048576) :
  Calls Try.prog 29 #[v] w fun e w' => ∃ u, e = .returned u ∧ y6 w' w.heap.size w'.heap.size u c ∧ Below w.heap.size w w' := by
 obtain ⟨v1, v2, v3, rfl, h1, h2, h3⟩ := h
 unfold f7.size at hs
 obtain ⟨n, hn⟩ : ∃ n, n = w.heap.size := ⟨_, rfl⟩
 obtain ⟨W, hW⟩ : ∃ W, W = (w.alloc (.cells #[v1, v2, v3] 26)).alloc (.cells #[.slice none 0 0, .slice none 0 0, .slice none 0 0] 26) := ⟨_, rfl⟩
 have B0 : Below n w W := by rw [hW, hn]; go_grown
 have sW : W.heap.size = n + 1 + 1 := by rw [hW, hn]; simp
 have L1 : y8 W n [v1, v2, v3] := by rw [hW, hn]; exact (y8.new w [v1, v2, v3] _).alloc _
 have L2 : y8 W (n + 1) [.slice none 0 0, .slice none 0 0, .slice none 0 0] := by rw [hW, hn]; exact y8.new' (w.alloc _) [.slice none 0 0, .slice none 0 0, .slice none 0 0] _ (by simp)
 have HB := show Hid (∀ W', Below (n + 1) W W' → (W'.cell? ⟨n, 0, none⟩ = some v1 ∧ W'.cell? ⟨n, 1, none⟩ = some v2 ∧ W'.cell? ⟨n, 2, none⟩ = some v3)) from by
  intro W' hb
  have L' := L1.below hb (by omega)
  exact ⟨by simpa using L'.cell 0, by simpa using L'.cell 1, by simpa using L'.cell 2⟩
 have hA : ∀ W', Below (n + 1) W W' → Below n w W' := fun W' g => B0.trans (g.mono (by omega))
 have HR1 := show Hid (∀ W', Below (n + 1) W W' → H8 W' v1 c.vars.length 1 (ints c.vars)) from fun W' g => h1.below (by rw [← hn]; exact hA _ g)
 have HR2 := show Hid (∀ W', Below (n + 1) W W' → H8 W' v2 c.arrays.length 1 (ints c.arrays)) from fun W' g => h2.below (by rw [← hn]; exact hA _ g)
 have HR3 := show Hid (∀ W', Below (n + 1) W W' → L6 W' v3 c.list) from fun W' g => h3.below (by rw [← hn]; exact hA _ g)
 have HA := show Hid _ from hA
 have HL2 := show Hid _ from L2
 have HN := show Hid (n = w.heap.size) from hn
 clear hA h1 h2 h3 L1 L2
 go_enter Try.func29, Try.ntmps29
 go_wp2_with fail
 rw [← HN.out]
 rw [← hW]
 clear hn hW B0
 refine au6 (bh4 n v1 v2 v3 c W) (by kernel_rfl) (by kernel_rfl) ?_ ?_ ?_
 ·refine ⟨fun _ => undef, rfl, ⟨by simp, fun i hi g => ?_, fun i j _ _ _ _ _ g => ?_, (Below.refl _ _).drew, ?_, fun _ => (Below.refl _ _).drew, fun g => ?_⟩⟩
  ·rw [getD_replicate_false] at g; cases g
  ·rw [getD_replicate_false] at g; cases g
  ·exact Nat.le_of_eq sW.symm
  ·rw [getD_replicate_false] at g; cases g
 ·rintro listed a w ⟨f, rfl, hI⟩ i o ho hun hdep Q' hQ
  have HQ := show Hid _ from hQ
  clear hQ
  have hi : i < 14 := by simpa using (List.getElem?_eq_some_iff.1 ho).1
  have hc : i = 0 ∨ i = 1 ∨ i = 2 ∨ i = 3 ∨ i = 4 ∨ i = 5 ∨ i = 6 ∨ i = 7 ∨ i = 8 ∨ i = 9 ∨ i = 10 ∨ i = 11 ∨ i = 12 ∨ i = 13 := by omega
  rcases hc with rfl | rfl | rfl | rfl | rfl | rfl | rfl | rfl | rfl | rfl | rfl | rfl | rfl | rfl
  ·simp only [List.getElem?_cons_zero, Option.some.injEq] at ho
   subst ho
   unfold K6
   go_wp2_with fail
   exact HQ.out _ _ ⟨_, rfl, hI.step (i := 0) (by omega) (by go_grown) ⟨⟨_, rfl⟩, B5 (E1 w #[] 0 1 3 rfl rfl (by omega)).1 hI.big⟩ fun _ j hj oj _ gj => hI.new (fun g hg => by cases hg; exact Nat.le_refl _) j hj oj gj⟩
  ·simp only [List.getElem?_cons_zero, List.getElem?_cons_succ, Option.some.injEq] at ho
   subst ho
   unfold K6
   go_wp2_with fail
   exact HQ.out _ _ ⟨_, rfl, hI.step (i := 1) (by omega) (Below.refl _ _) rfl fun h => absurd h (by unfold G6; omega)⟩
  ·simp only [List.getElem?_cons_zero, List.getElem?_cons_succ, Option.some.injEq] at ho
   subst ho
   have e1 : f 1 = .pointer (some ⟨n, 0, none⟩) := hI.val 1 (by omega) (hdep { on := 1, ground := .data } (by simp) (by kernel_rfl))
   have cc := (HB.out w hI.box).1
   unfold K6
   go_wp2_with fail
   exact HQ.out _ _ ⟨_, by simp [K6, e1], hI.step (i := 2) (by omega) (Below.refl _ _) rfl fun h => absurd h (by unfold G6; omega)⟩
  ·simp only [List.getElem?_cons_zero, List.getElem?_cons_succ, Option.some.injEq] at ho
   subst ho
   have d0 : listed.getD 0 false = true := hdep { on := 0, ground := .data } (by simp) (by kernel_rfl)
   have e0 := hI.val 0 (by omega) d0
   have e2 : f 2 = v1 := hI.val 2 (by omega) (hdep { on := 2, ground := .data } (by simp) (by kernel_rfl))
   refine X5 rfl _ _ rfl Try.underlying23 a40 rfl (by omega) e0.1 e0.2 rfl e2 (HR1.out w hI.box) (by omega) hI.big ?_
   intro x w' ox bx hx
   refine wpList_nil (HQ.out _ _ ⟨_, rfl, hI.step (i := 3) (by omega) bx ox fun _ j hj oj hjk gj => ?_⟩)
   rcases hx with rfl | hx
   ·exact hI.dis 0 j (by omega) hj (.inl rfl) oj hjk d0 gj
   ·exact hI.new hx j hj oj gj
  ·simp only [List.getElem?_cons_zero, List.getElem?_cons_succ, Option.some.injEq] at ho
   subst ho
   unfold K6
   go_wp2_with fail
   exact HQ.out _ _ ⟨_, rfl, hI.step (i := 4) (by omega) (by go_grown) ⟨⟨_, rfl⟩, B5 (E1 w #[] 0 1 3 rfl rfl (by omega)).1 hI.big⟩ fun _ j hj oj _ gj => hI.new (fun g hg => by cases hg; exact Nat.le_refl _) j hj oj gj⟩
  ·simp only [List.getElem?_cons_zero, List.getElem?_cons_succ, Option.some.injEq] at ho
   subst ho
   unfold K6
   go_wp2_with fail
   exact HQ.out _ _ ⟨_, rfl, hI.step (i := 5) (by omega) (Below.refl _ _) rfl fun h => absurd h (by unfold G6; omega)⟩
  ·simp only [List.getElem?_cons_zero, List.getElem?_cons_succ, Option.some.injEq] at ho
   subst ho
   have e1 : f 5 = .pointer (some ⟨n, 1, none⟩) := hI.val 5 (by omega) (hdep { on := 5, ground := .data } (by simp) (by kernel_rfl))
   have cc := (HB.out w hI.box).2.1
   unfold K6
   go_wp2_with fail
   exact HQ.out _ _ ⟨_, by simp [K6, e1], hI.step (i := 6) (by omega) (Below.refl _ _) rfl fun h => absurd h (by unfold G6; omega)⟩
  ·simp only [List.getElem?_cons_zero, List.getElem?_cons_succ, Option.some.injEq] at ho
   subst ho
   have d0 : listed.getD 4 false = true := hdep { on := 4, ground := .data } (by simp) (by kernel_rfl)
   have e0 := hI.val 4 (by omega) d0
   have e2 : f 6 = v2 := hI.val 6 (by omega) (hdep { on := 6, ground := .data } (by simp) (by kernel_rfl))
   refine X5 rfl _ _ rfl Try.underlying23 a40 rfl (by omega) e0.1 e0.2 rfl e2 (HR2.out w hI.box) (by omega) hI.big ?_
   intro x w' ox bx hx
   refine wpList_nil (HQ.out _ _ ⟨_, rfl, hI.step (i := 7) (by omega) bx ox fun _ j hj oj hjk gj => ?_⟩)
   rcases hx with rfl | hx
   ·exact hI.dis 4 j (by omega) hj (.inl rfl) oj hjk d0 gj
   ·exact hI.new hx j hj oj gj
  ·simp only [List.getElem?_cons_zero, List.getElem?_cons_succ, Option.some.injEq] at ho
   subst ho
   unfold K6
   go_wp2_with fail
   exact HQ.out _ _ ⟨_, rfl, hI.step (i := 8) (by omega) (by go_grown) ⟨⟨_, rfl⟩, B5 (E1 w #[] 0 5 38 rfl rfl (by omega)).1 hI.big⟩ fun _ j hj oj _ gj => hI.new (fun g hg => by cases hg; exact Nat.le_refl _) j hj oj gj⟩
  ·simp only [List.getElem?_cons_zero, List.getElem?_cons_succ, Option.some.injEq] at ho
   subst ho
   unfold K6
   go_wp2_with fail
   exact HQ.out _ _ ⟨_, rfl, hI.step (i := 9) (by omega) (Below.refl _ _) rfl fun h => absurd h (by unfold G6; omega)⟩
  ·simp only [List.getElem?_cons_zero, List.getElem?_cons_succ, Option.some.injEq] at ho
   subst ho
   have e1 : f 9 = .pointer (some ⟨n, 2, none⟩) := hI.val 9 (by omega) (hdep { on := 9, ground := .data } (by simp) (by kernel_rfl))
   have cc := (HB.out w hI.box).2.2
   unfold K6
   go_wp2_with fail
   exact HQ.out _ _ ⟨_, by simp [K6, e1], hI.step (i := 10) (by omega) (Below.refl _ _) rfl fun h => absurd h (by unfold G6; omega)⟩
  ·simp only [List.getElem?_cons_zero, List.getElem?_cons_succ, Option.some.injEq] at ho
   subst ho
   have d0 : listed.getD 8 false = true := hdep { on := 8, ground := .data } (by simp) (by kernel_rfl)
   have e0 := hI.val 8 (by omega) d0
   have e2 : f 10 = v3 := hI.val 10 (by omega) (hdep { on := 10, ground := .data } (by simp) (by kernel_rfl))
   refine X5 rfl _ _ rfl Try.underlying24 bd0 rfl (by omega) e0.1 e0.2 rfl e2 (HR3.out w hI.box) (by omega) hI.big ?_
   intro x w' ox bx hx
   refine wpList_nil (HQ.out _ _ ⟨_, rfl, hI.step (i := 11) (by omega) bx ox fun _ j hj oj hjk gj => ?_⟩)
   rcases hx with rfl | hx
   ·exact hI.dis 8 j (by omega) hj (.inl rfl) oj hjk d0 gj
   ·exact hI.new hx j hj oj gj
  ·simp only [List.getElem?_cons_zero, List.getElem?_cons_succ, Option.some.injEq] at ho
   subst ho
   have d3 : listed.getD 3 false = true := hdep { on := 3, ground := .data } (by simp) (by kernel_rfl)
   have d7 : listed.getD 7 false = true := hdep { on := 7, ground := .data } (by simp) (by kernel_rfl)
   have d11 : listed.getD 11 false = true := hdep { on := 11, ground := .data } (by simp) (by kernel_rfl)
   have g3 : w.ownsRow (n + 1 + 1) 3 1 (f 3) c.vars.length (ints c.vars) := hI.val 3 (by omega) d3
   have g7 : w.ownsRow (n + 1 + 1) 3 1 (f 7) c.arrays.length (ints c.arrays) := hI.val 7 (by omega) d7
   have g11 : w.ownsRow (n + 1 + 1) 38 5 (f 11) c.list.length (ints (A4 c.list)) := hI.val 11 (by omega) d11
   have hD := show Pv n v1 v2 v3 c 12 (.agg #[f 3, f 7, f 11]) w from ⟨_, _, _, rfl, g3, g7, g11, hI.dis 3 7 (by omega) (by omega) (.inr rfl) (.inr rfl) (by omega) d3 d7, hI.dis 3 11 (by omega) (by omega) (.inr rfl) (.inr rfl) (by omega) d3 d11, hI.dis 7 11 (by omega) (by omega) (.inr rfl) (.inr rfl) (by omega) d7 d11⟩
   obtain ⟨a3, k3, e3⟩ := C7 g3
   obtain ⟨a7, k7, e7⟩ := C7 g7
   obtain ⟨a11, k11, e11⟩ := C7 g11
   rw [e3, e7, e11] at hD
   clear g3 g7 g11
   unfold K6
   go_wp2_with fail
   exact HQ.out _ _ ⟨_, by simp [K6, e3, e7, e11], hI.step (i := 12) (by omega) (Below.refl _ _) hD fun _ j _ _ _ _ g hg => by cases hg⟩
  ·simp only [List.getElem?_cons_zero, List.getElem?_cons_succ, Option.some.injEq] at ho
   subst ho
   obtain ⟨y1, y2, y3, e12, g1, g2, g3, dd⟩ : Pv n v1 v2 v3 c 12 (f 12) w := hI.val 12 (by omega) (hdep { on := 12, ground := .data } (by simp) (by kernel_rfl))
   have hpre := hI.pre (by have h14 := hI.size; simp [h14] at hun ⊢; exact hun)
   have L2 := y8.below HL2.out hpre (by omega)
   have c0 := L2.cell 0
   have c1 := L2.cell 1
   have c2 := L2.cell 2
   have f0 := L2.free 0
   have f1 := L2.free 1
   have f2 := L2.free 2
   simp only [List.getElem?_cons_zero, List.getElem?_cons_succ] at c0 c1 c2
   obtain ⟨a1, k1, rfl⟩ := C7 g1
   obtain ⟨a2, k2, rfl⟩ := C7 g2
   obtain ⟨a3, k3, rfl⟩ := C7 g3
   have L3 := ((L2.set (j := 0) (.slice a1 c.vars.length k1)).set (j := 1) (.slice a2 c.arrays.length k2)).set (j := 2) (.slice a3 c.list.length k3)
   have hst := hI.stored (u0 := .slice a1 c.vars.length k1) (u1 := .slice a2 c.arrays.length k2) (u2 := .slice a3 c.list.length k3) L3 g1 g2 g3 dd
   clear g1 g2 g3 L3 L2 hpre
   unfold K6
   go_wp2_with fail
   exact HQ.out _ _ ⟨_, by simp [K6, e12], hst⟩
 ·rintro listed a w ⟨f, rfl, hI⟩ hall
  obtain ⟨y1, y2, y3, L, g1, g2, g3, d12, d13, d23⟩ := hI.post (by have := hall 13 (by simp); have h14 := hI.size; simp [h14] at this ⊢; exact this)
  have BF := HA.out w hI.box
  have hbig := hI.big
  have r0 := L.cell 0
  have r1 := L.cell 1
  have r2 := L.cell 2
  simp only [List.getElem?_cons_zero, List.getElem?_cons_succ] at r0 r1 r2
  obtain ⟨a1, k1, rfl⟩ := C7 g1
  obtain ⟨a2, k2, rfl⟩ := C7 g2
  obtain ⟨a3, k3, rfl⟩ := C7 g3
  have hn' := HN.out
  unfold K6
  go_wp2_with fail
  refine bodyPost_ret (v := .agg #[.slice a1 c.vars.length k1, .slice a2 c.arrays.length k2, .slice a3 c.list.length k3]) (by simp [results, Try.results29, go_sem, r0, r1, r2]) rfl ⟨_, rfl, ⟨_, _, _, rfl, (I5.mk' g1).wide (by omega) (Nat.le_refl _), (I5.mk' g2).wide (by omega) (Nat.le_refl _), (I5.mk' g3).wide (by omega) (Nat.le_refl _), d12, d13, d23⟩, by rw [← hn']; exact BF⟩
theorem am2 (x : d8) (w : World) :
  Calls Try.prog 24 #[x.v] w fun e w' => e = .returned (.int .i64 (m7 x)) ∧ Below w.heap.size w w' := by
 obtain ⟨x0, x1, x2, x3, x4⟩ := x
 by_cases h8 : x0 = 8
 ·have HN := show Hid (m7 ⟨x0, x1, x2, x3, x4⟩ = x1) from by simp [Hid, m7, h8]
  have q8 : (x0 == 8) = true := by simp [h8]
  clear h8
  go_enter Try.func24, Try.ntmps24
  go_wp2_with fail
  go_ret
  exact ⟨H7 HN.out.symm, by go_grown⟩
 ·have q8 : (x0 == 8) = false := by simp [h8]
  by_cases h9 : x0 = 9 ∨ x0 = 10
  ·have HN := show Hid (m7 ⟨x0, x1, x2, x3, x4⟩ = x2) from by simp [Hid, m7, h8, h9]
   have h9' : (x0 == 9) = true ∨ ((x0 == 9) = false ∧ (x0 == 10) = true) := by
    rcases h9 with h9 | h9
    ·left; simp [h9]
    ·right; simp [h9]
   clear h8 h9
   rcases h9' with q9 | ⟨q9, q10⟩
   all_goals
    go_enter Try.func24, Try.ntmps24
    go_wp2_with fail
    go_ret
    exact ⟨H7 HN.out.symm, by go_grown⟩
  ·have HN := show Hid (m7 ⟨x0, x1, x2, x3, x4⟩ = -1) from by simp [Hid, m7, h8, h9]
   have q9 : (x0 == 9) = false := by simp; omega
   have q10 : (x0 == 10) = false := by simp; omega
   clear h8 h9
   go_enter Try.func24, Try.ntmps24
   go_wp2_with fail
   go_ret
   exact ⟨H7 HN.out.symm, by go_grown⟩
end Go.Proofs.Ythikdkjjdeehoaa

namespace Go.Proofs.Ythikdkjjdeehoaa
set_option linter.unusedVariables false
set_option linter.unusedSimpArgs false
def scB (l : Int) : Bool := C9 l && decide (l = 1 ∨ l = 3)
def bAt (t : List Bool) (k : Int) : Bool := t.getD k.toNat false
def iAt (t : List Int) (k : Int) : Int := t.getD k.toNat 0
def S9 (c : f7) (x : d8) (t : List Bool) : Option Bool :=
 if x.op = 1 ∨ x.op = 11 then some false
 else if x.op = 2 then some (scB (iAt c.vars x.b))
 else if x.op = 4 then some (scB (iAt c.arrays x.b) || bAt t x.c)
 else if x.op = 6 then some (bAt t x.c || bAt t x.d)
 else if x.op = 7 then some (bAt t x.b || bAt t x.c || bAt t x.d)
 else none
def au5 (c : f7) (x : d8) (t : List Bool) : List Bool := match S9 c x t with | some b => t.set x.a.toNat b | none => t
def bg8 (t row : List Bool) : Bool := decide (0 < row.length) && (List.range t.length).all fun k => !(t.getD k false && !row.getD k false)
def aF2 (r : List Bool) : Bool := decide (r.length = 0) || decide (r.length = 14)
def aC4 (t row : List Bool) (k : Nat) : Bool := (List.range k).all fun j => !(t.getD j false && !row.getD j false)
def rowAt (m : List (List Bool)) (i : Int) : List Bool := m.getD i.toNat []
def z6 (c : f7) (i : Nat) : d8 := c.list.getD i ⟨0, 0, 0, 0, 0⟩
theorem S6 {c : f7} {i : Nat} (h : i < c.list.length) : z6 c i = c.list[i] := by simp [z6, h]
def bd5 (c : f7) (m : List (List Bool)) (i : Nat) : Bool := decide ((rowAt m i).length = 0) || (nx c i).all fun t => bg8 (au5 c (z6 c i) (rowAt m i)) (rowAt m t)
theorem aT1 {m : List (List Bool)} (h : m.all aF2 = true) (i : Int) : (rowAt m i).length = 0 ∨ (rowAt m i).length = 14 := by
 unfold rowAt
 rcases Nat.lt_or_ge i.toNat m.length with h1 | h1
 ·have := List.all_eq_true.1 h _ (List.getElem_mem h1)
  simp only [aF2, Bool.or_eq_true, decide_eq_true_eq] at this
  simpa [h1] using this
 ·left; simp [h1]
def U3 (c : f7) (x : Int) : Bool := decide ((z6 c x.toNat).op = 8)
def p8 (c : f7) : Nat → Int → Int
 | 0, x => x
 | k + 1, x => if U3 c x = true then p8 c k (z6 c x.toNat).a else x
def x7 (c : f7) (t : Int) : Int := if U3 c (p8 c c.list.length t) = true then t else p8 c c.list.length t
theorem I4 {c : f7} {k : Nat} {x : Int} (h : U3 c x = true) : p8 c (k + 1) x = p8 c k (z6 c x.toNat).a := by rw [p8, if_pos h]
theorem F6 {c : f7} {x : Int} (h : U3 c x = false) : ∀ k, p8 c k x = x
 | 0 => rfl
 | k + 1 => by rw [p8, if_neg (by rw [h]; simp)]
def G9 (x : d8) (t : Int) : d8 := if x.op = 8 then { x with a := t } else if x.op = 9 ∨ x.op = 10 then { x with b := t } else x
def K9 (c : f7) (x : d8) : d8 := if 0 ≤ m7 x then G9 x (x7 c (m7 x)) else x
def s4 (c : f7) : f7 := { c with list := c.list.map (K9 c) }
theorem aa0 {c : f7} {x : d8} (h : y5 c x = true) (h0 : 0 ≤ m7 x) : m7 x < c.list.length := by
 by_cases ho : x.op = 8 ∨ x.op = 9 ∨ x.op = 10
 ·exact (aY3 h ho).2
 ·unfold m7 at h0
  rw [if_neg (by omega), if_neg (by omega)] at h0
  omega
def B8 (c : f7) (x : Int) : Prop := 0 ≤ x ∧ x < c.list.length
theorem ao4 {c : f7} (h : n9 c = true) {x : Int} (hx : B8 c x) (hj : U3 c x = true) : B8 c (z6 c x.toNat).a := by
 have hl : x.toNat < c.list.length := by have := hx.1; have := hx.2; omega
 have hi := (w8 h).2.2.2.1 x.toNat hl
 unfold U3 at hj
 rw [decide_eq_true_eq] at hj
 rw [S6 hl] at hj ⊢
 have := aY3 hi (.inl hj)
 unfold m7 at this
 rw [if_pos hj] at this
 exact this
end Go.Proofs.Ythikdkjjdeehoaa

namespace Go.Proofs.Ythikdkjjdeehoaa
set_option linter.unusedVariables false
set_option linter.unusedSimpArgs false
open Go Go.RowKit
theorem ab9 (x : d8) (w : World) :
  Calls Try.prog 30 #[x.v] w fun e w' => e = .returned (.int .i64 (m7 x)) ∧ Below w.heap.size w w' := by
 obtain ⟨x0, x1, x2, x3, x4⟩ := x
 by_cases h8 : x0 = 8
 ·have HN := show Hid (m7 ⟨x0, x1, x2, x3, x4⟩ = x1) from by simp [Hid, m7, h8]
  have q8 : (x0 == 8) = true := by simp [h8]
  clear h8
  go_enter Try.func30, Try.ntmps30
  go_wp2_with fail
  go_ret
  exact ⟨H7 HN.out.symm, by go_grown⟩
 ·have q8 : (x0 == 8) = false := by simp [h8]
  by_cases h9 : x0 = 9 ∨ x0 = 10
  ·have HN := show Hid (m7 ⟨x0, x1, x2, x3, x4⟩ = x2) from by simp [Hid, m7, h8, h9]
   have h9' : (x0 == 9) = true ∨ ((x0 == 9) = false ∧ (x0 == 10) = true) := by
    rcases h9 with h9 | h9
    ·left; simp [h9]
    ·right; simp [h9]
   clear h8 h9
   rcases h9' with q9 | ⟨q9, q10⟩
   all_goals
    go_enter Try.func30, Try.ntmps30
    go_wp2_with fail
    go_ret
    exact ⟨H7 HN.out.symm, by go_grown⟩
  ·have HN := show Hid (m7 ⟨x0, x1, x2, x3, x4⟩ = -1) from by simp [Hid, m7, h8, h9]
   have q9 : (x0 == 9) = false := by simp; omega
   have q10 : (x0 == 10) = false := by simp; omega
   clear h8 h9
   go_enter Try.func30, Try.ntmps30
   go_wp2_with fail
   go_ret
   exact ⟨H7 HN.out.symm, by go_grown⟩
theorem aK5 (x : d8) (t : Int) (w : World) :
  Calls Try.prog 31 #[x.v, .int .i64 t] w fun e w' => e = .returned (G9 x t).v ∧ Below w.heap.size w w' := by
 obtain ⟨x0, x1, x2, x3, x4⟩ := x
 by_cases h8 : x0 = 8
 ·have HN := show Hid (G9 ⟨x0, x1, x2, x3, x4⟩ t = ⟨x0, t, x2, x3, x4⟩) from by simp [Hid, G9, h8]
  have q8 : (x0 == 8) = true := by simp [h8]
  have q9 : (x0 == 9) = false := by simp [h8]
  have q10 : (x0 == 10) = false := by simp [h8]
  clear h8
  go_enter Try.func31, Try.ntmps31
  go_wp2_with fail
  refine bodyPost_ret (v := .agg #[.int .i64 x0, .int .i64 t, .int .i64 x2, .int .i64 x3, .int .i64 x4]) (by simp [results, Try.results31, go_sem]) rfl ⟨by rw [HN.out], by go_grown⟩
 ·have q8 : (x0 == 8) = false := by simp [h8]
  by_cases h9 : x0 = 9 ∨ x0 = 10
  ·have HN := show Hid (G9 ⟨x0, x1, x2, x3, x4⟩ t = ⟨x0, x1, t, x3, x4⟩) from by simp [Hid, G9, h8, h9]
   have h9' : (x0 == 9) = true ∨ ((x0 == 9) = false ∧ (x0 == 10) = true) := by
    rcases h9 with h9 | h9
    ·left; simp [h9]
    ·right; simp [h9]
   clear h8 h9
   rcases h9' with q9 | ⟨q9, q10⟩
   all_goals
    go_enter Try.func31, Try.ntmps31
    go_wp2_with fail
    refine bodyPost_ret (v := .agg #[.int .i64 x0, .int .i64 x1, .int .i64 t, .int .i64 x3, .int .i64 x4]) (by simp [results, Try.results31, go_sem]) rfl ⟨by rw [HN.out], by go_grown⟩
  ·have HN := show Hid (G9 ⟨x0, x1, x2, x3, x4⟩ t = ⟨x0, x1, x2, x3, x4⟩) from by simp [Hid, G9, h8, h9]
   have q9 : (x0 == 9) = false := by simp; omega
   have q10 : (x0 == 10) = false := by simp; omega
   clear h8 h9
   go_enter Try.func31, Try.ntmps31
   go_wp2_with fail
   refine bodyPost_ret (v := .agg #[.int .i64 x0, .int .i64 x1, .int .i64 x2, .int .i64 x3, .int .i64 x4]) (by simp [results, Try.results31, go_sem]) rfl ⟨by rw [HN.out], by go_grown⟩
theorem aR2 (x : d8) (t : Int) (w : World) (h : 0 ≤ m7 x) :
  Calls Try.prog 25 #[x.v, .int .i64 t] w fun e w' => e = .returned (G9 x t).v ∧ Below w.heap.size w w' := by
 obtain ⟨x0, x1, x2, x3, x4⟩ := x
 by_cases h8 : x0 = 8
 ·have HN := show Hid (G9 ⟨x0, x1, x2, x3, x4⟩ t = ⟨x0, t, x2, x3, x4⟩) from by simp [Hid, G9, h8]
  have q8 : (x0 == 8) = true := by simp [h8]
  clear h8 h
  go_enter Try.func25, Try.ntmps25
  go_wp2_with fail
  refine bodyPost_ret (v := .agg #[.int .i64 x0, .int .i64 t, .int .i64 x2, .int .i64 x3, .int .i64 x4]) (by simp [results, Try.results25, go_sem]) rfl ⟨by rw [HN.out], by go_grown⟩
 ·have q8 : (x0 == 8) = false := by simp [h8]
  have h9 : x0 = 9 ∨ x0 = 10 := by
   unfold m7 at h
   simp only at h
   rw [if_neg h8] at h
   split at h
   ·assumption
   ·omega
  have HN := show Hid (G9 ⟨x0, x1, x2, x3, x4⟩ t = ⟨x0, x1, t, x3, x4⟩) from by simp [Hid, G9, h8, h9]
  clear h8 h9 h
  go_enter Try.func25, Try.ntmps25
  go_wp2_with fail
  refine bodyPost_ret (v := .agg #[.int .i64 x0, .int .i64 x1, .int .i64 t, .int .i64 x3, .int .i64 x4]) (by simp [results, Try.results25, go_sem]) rfl ⟨by rw [HN.out], by go_grown⟩
theorem az2 (v : Value) (c : f7) (hc : n9 c = true) (t : Int) (ht : B8 c t) (w : World) (h : z9 w v c) :
  Calls Try.prog 32 #[v, .int .i64 t] w fun e w' => e = .returned (.int .i64 (x7 c t)) ∧ Below w.heap.size w w' := by
 obtain ⟨v1, v2, v3, rfl, h1, h2, h3⟩ := h
 obtain ⟨a3, k3, rfl, hk3, hm3, -, hc3⟩ := h3.ins
 obtain ⟨W, hW⟩ : ∃ W, W = w.alloc (.cells #[v1, v2, .slice a3 c.list.length k3] 26) := ⟨_, rfl⟩
 have B0 : Below w.heap.size w W := by rw [hW]; go_grown
 have L1 : y8 W w.heap.size [v1, v2, .slice a3 c.list.length k3] := by rw [hW]; exact (y8.new w [v1, v2, .slice a3 c.list.length k3] _)
 have hn4 := (w8 hc).2.2.1
 have HF : Hid (x7 c t = if U3 c (p8 c c.list.length t) = true then t else p8 c c.list.length t) := rfl
 have hcell : ∀ i, i < c.list.length → ∃ b off, a3 = some ⟨b, off, none⟩ ∧ W.cell? ⟨b, off + i * 5, none⟩ = some (.int .i64 (z6 c i).op) ∧ W.cell? ⟨b, off + i * 5 + 1, none⟩ = some (.int .i64 (z6 c i).a) := by
  intro i hi
  obtain ⟨b, off, e, hb, i0, i1, -⟩ := hc3 i hi
  rw [← (K5 B0).1 _ _ hb] at i0 i1
  rw [S6 hi]
  exact ⟨b, off, e, i0, i1⟩
 have HCELL := show Hid _ from hcell
 have x2 := L1.cell 2
 simp only [List.getElem?_cons_zero, List.getElem?_cons_succ] at x2
 clear hcell hc3 h1 h2 h3
 go_enter Try.func32, Try.ntmps32
 go_wp2_with fail
 rw [← hW]
 clear hW
 go_loop [5, 6] (fun x i => ∃ (y : Nat) (k : Nat), x = .int .i64 y ∧ i = .int .i64 k ∧ k ≤ c.list.length ∧ y < c.list.length ∧ p8 c (c.list.length - k) y = p8 c c.list.length t) (fun _ i => c.list.length - (intOf i).toNat)
 case atStart => exact ⟨t.toNat, 0, by rw [Int.toNat_of_nonneg ht.1], rfl, Nat.zero_le _, by have := ht.1; have := ht.2; omega, by rw [Int.toNat_of_nonneg ht.1]; rfl⟩
 case round =>
  obtain ⟨y, k, rfl, rfl, hk, hy, hch⟩ := hrel
  have HCH := show Hid _ from hch
  clear hch
  obtain ⟨b, off, rfl, i0, i1⟩ := HCELL.out y hy
  have HJ : Hid (U3 c y = decide ((z6 c y).op = 8)) := by unfold Hid U3; rw [Int.toNat_natCast]
  have HST : Hid (∀ k, U3 c y = true → p8 c (k + 1) y = p8 c k (z6 c y).a) := fun k h => by have := I4 (k := k) h; rw [Int.toNat_natCast] at this; exact this
  have HPL := show Hid (U3 c y = true → B8 c (z6 c y).a) from fun h => by have := ao4 hc (x := (y : Int)) ⟨by omega, by omega⟩ h; rw [Int.toNat_natCast] at this; exact this
  have hyi : (y : Int) < c.list.length := by omega
  generalize z6 c y = z at *
  by_cases h8 : z.op = 8
  ·have q8 : (z.op == 8) = true := by simp [h8]
   have hj : U3 c y = true := by rw [HJ.out]; exact decide_eq_true h8
   by_cases hlt : k < c.list.length
   ·obtain ⟨hp0, hp1⟩ := HPL.out hj
    have hst := HST.out (c.list.length - (k + 1)) hj
    rw [show c.list.length - (k + 1) + 1 = c.list.length - k by omega, HCH.out] at hst
    have HS := show Hid _ from hst
    clear hst h8 hj
    go_wp2_with fail
    go_round
    case rel => exact ⟨z.a.toNat, k + 1, by rw [Int.toNat_of_nonneg hp0], by go_num, by omega, by omega, by rw [Int.toNat_of_nonneg hp0]; exact HS.out.symm⟩
    case measure => simp [intOf]; omega
   ·have hkn : k = c.list.length := by omega
    have hch := HCH.out
    rw [hkn, Nat.sub_self, show p8 c 0 (y : Int) = y from rfl] at hch
    have HR := show Hid (x7 c t = t) from by unfold Hid; rw [HF.out, ← hch, hj]; rfl
    subst hkn
    clear hch h8 hj
    go_wp2_with fail
    go_ret
    exact ⟨H7 HR.out.symm, B0⟩
  ·have q8 : (z.op == 8) = false := by simp [h8]
   have hj : U3 c y = false := by rw [HJ.out]; exact decide_eq_false h8
   have hch := HCH.out
   rw [F6 hj] at hch
   have HR := show Hid (x7 c t = y) from by unfold Hid; rw [HF.out, ← hch, hj]; rfl
   clear hch h8 hj
   by_cases hlt : k < c.list.length
   ·go_wp2_with fail
    go_ret
    exact ⟨H7 HR.out.symm, B0⟩
   ·go_wp2_with fail
    go_ret
    exact ⟨H7 HR.out.symm, B0⟩
end Go.Proofs.Ythikdkjjdeehoaa

namespace Go.Proofs.Ythikdkjjdeehoaa
set_option linter.unusedVariables false
set_option linter.unusedSimpArgs false
def J1 (c : f7) (k : Nat) : List d8 := (c.list.map (K9 c)).take k ++ c.list.drop k
theorem ag2 (c : f7) (k : Nat) : (J1 c k).length = c.list.length := by
 unfold J1
 rw [List.length_append, List.length_take, List.length_drop, List.length_map]
 omega
theorem aa5 (c : f7) : J1 c 0 = c.list := by simp [J1]
theorem aG1 (c : f7) : J1 c c.list.length = (s4 c).list := by
 unfold J1 s4
 rw [List.drop_length, List.append_nil, List.take_of_length_le (by simp)]
theorem aj0 (c : f7) (k : Nat) (h : k < c.list.length) : J1 c (k + 1) = (J1 c k).set k (K9 c c.list[k]) := by
 have hk : k < (c.list.map (K9 c)).length := by simpa using h
 have hl : ((c.list.map (K9 c)).take k).length = k := by rw [List.length_take]; omega
 unfold J1
 rw [List.set_append_right _ _ (by omega), hl, Nat.sub_self, List.drop_eq_getElem_cons h, List.set_cons_zero, M5 _ _ hk]
 simp
theorem ba2 (c : f7) (k : Nat) (h : k < c.list.length) : (J1 c k)[k]? = some c.list[k] := by
 unfold J1
 rw [List.getElem?_append_right (by rw [List.length_take]; omega), List.length_take, List.length_map, Nat.min_eq_left (by omega), Nat.sub_self, List.getElem?_drop, Nat.add_zero, List.getElem?_eq_getElem h]
theorem ax5 (c : f7) (k : Nat) (h : k < c.list.length) (he : K9 c c.list[k] = c.list[k]) : J1 c (k + 1) = J1 c k := by
 rw [aj0 c k h, he]
 apply List.ext_getElem?
 intro i
 rw [List.getElem?_set]
 split
 ·rename_i e
  subst e
  rw [ba2 c k h]
  simp [ag2, h]
 ·rfl
theorem am5 {c : f7} (h : n9 c = true) : c.size ≤ 1048576 := by
 obtain ⟨h1, -, h2, -, -⟩ := w8 h
 unfold A6 at h1
 simp only [Bool.and_eq_true, decide_eq_true_eq] at h1
 unfold f7.size
 omega
end Go.Proofs.Ythikdkjjdeehoaa

namespace Go.Proofs.Ythikdkjjdeehoaa
set_option linter.unusedVariables false
set_option linter.unusedSimpArgs false
open Go Go.RowKit
def ak6 (w : World) (v : Value) (m : List (List Bool)) : Prop :=
 ∃ vs : List Value, H8 w v m.length 1 vs ∧ ∀ (i : Nat) (u : Value) (r : List Bool), vs[i]? = some u → m[i]? = some r → H8 w u r.length 1 (bools r)
theorem ak6.below {w w' : World} {v : Value} {m : List (List Bool)} (h : ak6 w v m) (hb : Below w.heap.size w w') : ak6 w' v m := by
 obtain ⟨vs, h1, h2⟩ := h
 exact ⟨vs, h1.below hb, fun i u r a b => (h2 i u r a b).below hb⟩
theorem ak6.open {w : World} {v : Value} {m : List (List Bool)} (h : ak6 w v m) : ∃ a cap, v = .slice a m.length cap ∧ m.length ≤ 9223372036854775807 ∧
  ∀ i (hi : i < m.length), ∃ b off a' c', a = some ⟨b, off, none⟩ ∧ b < w.heap.size ∧ w.cell? ⟨b, off + i, none⟩ = some (.slice a' m[i].length c') ∧ H8 w (.slice a' m[i].length c') m[i].length 1 (bools m[i]) := by
 obtain ⟨vs, h1, h2⟩ := h
 obtain ⟨a, cap, hv, hc, hm, hm2, hcell⟩ := h1.open1
 refine ⟨a, cap, hv, hm, fun i hi => ?_⟩
 obtain ⟨b, off, ha, hb, hx⟩ := hcell i hi
 have hl : i < vs.length := by rw [h1.1]; omega
 rw [List.getElem?_eq_getElem hl] at hx
 have hr := h2 i _ _ (List.getElem?_eq_getElem hl) (List.getElem?_eq_getElem hi)
 obtain ⟨a', c', hs⟩ := hr.form
 rw [hs] at hx hr
 exact ⟨b, off, a', c', ha, hb, hx, hr⟩
end Go.Proofs.Ythikdkjjdeehoaa

namespace Go.Proofs.Ythikdkjjdeehoaa
set_option linter.unusedVariables false
set_option linter.unusedSimpArgs false
open Go Go.RowKit Go.ChangeShapes Go.WideShapes Go.Deep
section
variable {H : Type} {enc : TypeId × Value → H} {W : World}
end
end Go.Proofs.Ythikdkjjdeehoaa

namespace Go.Proofs.Ythikdkjjdeehoaa
set_option linter.unusedVariables false
set_option linter.unusedSimpArgs false
def rle (t u : List Bool) : Prop := ∀ k : Nat, t.getD k false = true → u.getD k false = true
theorem rle.refl (t : List Bool) : rle t t := fun _ h => h
theorem rle.trans {a b c : List Bool} (h : rle a b) (g : rle b c) : rle a c := fun k x => g k (h k x)
theorem aI3 (t row : List Bool) : aC4 t row t.length = true ↔ rle t row := by
 unfold aC4 rle
 rw [List.all_eq_true]
 constructor
 ·intro h k hk
  rcases Nat.lt_or_ge k t.length with h1 | h1
  ·have := h k (List.mem_range.2 h1)
   rw [hk] at this
   simpa using this
  ·simp [h1] at hk
 ·intro h k _
  cases hk : t.getD k false
  ·rfl
  ·rw [h k hk]; rfl
theorem a56 (t row : List Bool) : bg8 t row = true ↔ 0 < row.length ∧ rle t row := by
 have : bg8 t row = (decide (0 < row.length) && aC4 t row t.length) := rfl
 rw [this, Bool.and_eq_true, decide_eq_true_eq, aI3]
theorem aH2 (t : List Bool) (a k : Nat) (b : Bool) : (t.set a b).getD k false = if k = a ∧ a < t.length then b else t.getD k false := by
 simp only [List.getD_eq_getElem?_getD, List.getElem?_set]
 by_cases h : a = k
 ·subst h
  by_cases h2 : a < t.length
  ·simp [h2]
  ·simp [h2]
 ·rw [if_neg h, if_neg (fun x => h x.1.symm)]
theorem a67 {t u : List Bool} (h : rle t u) (k : Int) : bAt t k = true → bAt u k = true := h k.toNat
theorem av8 {c : f7} {x : d8} {t u : List Bool} (h : rle t u) : (S9 c x t = none ∧ S9 c x u = none) ∨ ∃ p q, S9 c x t = some p ∧ S9 c x u = some q ∧ (p = true → q = true) := by
 have hb := a67 h
 unfold S9
 by_cases h1 : x.op = 1 ∨ x.op = 11
 ·rw [if_pos h1, if_pos h1]; exact .inr ⟨_, _, rfl, rfl, id⟩
 rw [if_neg h1, if_neg h1]
 by_cases h2 : x.op = 2
 ·rw [if_pos h2, if_pos h2]; exact .inr ⟨_, _, rfl, rfl, id⟩
 rw [if_neg h2, if_neg h2]
 by_cases h4 : x.op = 4
 ·rw [if_pos h4, if_pos h4]; refine .inr ⟨_, _, rfl, rfl, fun g => ?_⟩
  simp only [Bool.or_eq_true] at g ⊢
  rcases g with g | g
  ·exact .inl g
  ·exact .inr (hb _ g)
 rw [if_neg h4, if_neg h4]
 by_cases h6 : x.op = 6
 ·rw [if_pos h6, if_pos h6]; refine .inr ⟨_, _, rfl, rfl, fun g => ?_⟩
  simp only [Bool.or_eq_true] at g ⊢
  rcases g with g | g
  ·exact .inl (hb _ g)
  ·exact .inr (hb _ g)
 rw [if_neg h6, if_neg h6]
 by_cases h7 : x.op = 7
 ·rw [if_pos h7, if_pos h7]; refine .inr ⟨_, _, rfl, rfl, fun g => ?_⟩
  simp only [Bool.or_eq_true] at g ⊢
  rcases g with (g | g) | g
  ·exact .inl (.inl (hb _ g))
  ·exact .inl (.inr (hb _ g))
  ·exact .inr (hb _ g)
 rw [if_neg h7, if_neg h7]
 exact .inl ⟨rfl, rfl⟩
theorem aJ6 {c : f7} {x : d8} {t u : List Bool} (hl : t.length = u.length) (h : rle t u) : rle (au5 c x t) (au5 c x u) := by
 unfold au5
 rcases av8 (c := c) (x := x) h with ⟨e1, e2⟩ | ⟨p, q, e1, e2, hpq⟩
 ·rw [e1, e2]; exact h
 ·rw [e1, e2]
  intro k
  rw [aH2, aH2, hl]
  split
  ·exact hpq
  ·exact h k
def mle (m p : List (List Bool)) : Prop := ∀ i : Nat, (rowAt m i).length = 0 ∨ ((rowAt p i).length ≠ 0 ∧ rle (rowAt m i) (rowAt p i))
def a37 (c : f7) (m : List (List Bool)) : Prop := m.length = c.list.length ∧ m.all aF2 = true ∧ (rowAt m 0).length ≠ 0 ∧ ∀ i : Nat, i < m.length → bd5 c m i = true
structure Low (c : f7) (m : List (List Bool)) : Prop where
 len : m.length = c.list.length
 ok : m.all aF2 = true
 first : (rowAt m 0).length ≠ 0
 low : ∀ p, a37 c p → mle m p
theorem aa3 {m : List (List Bool)} {y : Nat} (r : List Bool) (i : Int) (hy : y < m.length) : rowAt (m.set y r) i = if i.toNat = y then r else rowAt m i := by
 unfold rowAt
 simp only [List.getD_eq_getElem?_getD, List.getElem?_set]
 by_cases h : y = i.toNat
 ·rw [if_pos h, if_pos h.symm]; subst h; simp [hy]
 ·rw [if_neg h, if_neg (Ne.symm h)]
theorem Low.start {c : f7} (hn : 1 ≤ c.list.length) : Low c ((List.replicate c.list.length ([] : List Bool)).set 0 (List.replicate 14 false)) := by
 have hl : 0 < (List.replicate c.list.length ([] : List Bool)).length := by rw [List.length_replicate]; omega
 refine ⟨by simp, ?_, ?_, fun p hp i => ?_⟩
 ·rw [List.all_eq_true]
  intro r hr
  rcases List.mem_or_eq_of_mem_set hr with h | h
  ·rw [(List.mem_replicate.1 h).2]; rfl
  ·rw [h]; rfl
 ·rw [aa3 _ _ hl]; simp
 ·rw [aa3 _ _ hl]
  by_cases hi : i = 0
  ·subst hi
   right
   refine ⟨hp.2.2.1, fun k hk => ?_⟩
   exfalso
   rw [if_pos (by simp)] at hk
   simp only [List.getD_eq_getElem?_getD, List.getElem?_replicate] at hk
   split at hk <;> simp at hk
  ·left
   rw [if_neg (by simpa using hi)]
   unfold rowAt
   simp only [List.getD_eq_getElem?_getD, List.getElem?_replicate]
   split <;> simp
theorem Low.set {c : f7} {m : List (List Bool)} (h : Low c m) {y : Nat} (hy : y < m.length) {r : List Bool} (hr : r.length = 14) (hp : ∀ p, a37 c p → (rowAt p y).length ≠ 0 ∧ rle r (rowAt p y)) : Low c (m.set y r) := by
 refine ⟨by simpa using h.len, ?_, ?_, fun p g i => ?_⟩
 ·rw [List.all_eq_true]
  intro r' hr'
  rcases List.mem_or_eq_of_mem_set hr' with h' | h'
  ·exact List.all_eq_true.1 h.ok _ h'
  ·rw [h']; simp [aF2, hr]
 ·rw [aa3 _ _ hy]
  split
  ·omega
  ·exact h.first
 ·rw [aa3 _ _ hy]
  split
  ·rename_i e
   have e : i = y := by simpa using e
   subst e
   exact .inr (hp p g)
  ·exact h.low p g i
theorem Low.after {c : f7} {m : List (List Bool)} (h : Low c m) {i : Nat} (hi : i < m.length) (h14 : (rowAt m i).length = 14) : ∀ p, a37 c p → ∀ t ∈ nx c i, (rowAt p t).length ≠ 0 ∧ rle (au5 c (z6 c i) (rowAt m i)) (rowAt p t) := by
 intro p hp t ht
 have hpi : i < p.length := by rw [hp.1, ← h.len]; exact hi
 rcases h.low p hp i with h0 | ⟨hn, hr⟩
 ·omega
 ·have hc := hp.2.2.2 i hpi
  unfold bd5 at hc
  rw [Bool.or_eq_true, decide_eq_true_eq] at hc
  rcases hc with hc | hc
  ·exact absurd hc hn
  ·have := List.all_eq_true.1 hc t ht
   rw [a56] at this
   have h2 := aT1 hp.2.1 i
   exact ⟨by omega, (aJ6 (by omega) hr).trans this.2⟩
def bn6 (r : List Bool) : Nat := if r.length = 0 then 15 else r.count false
def pot (m : List (List Bool)) : Nat := (m.map bn6).sum
end Go.Proofs.Ythikdkjjdeehoaa

namespace Go.Proofs.Ythikdkjjdeehoaa
set_option linter.unusedVariables false
set_option linter.unusedSimpArgs false
open Go Go.RowKit
noncomputable def bq5 (w : World) (v : Value) : Nat := open Classical in if h : ∃ m, ak6 w v m then pot h.choose else 0
theorem au8 (us : List Value) : ∀ (y : Value) (ys : List Value) (p : Nat), setFrom (y :: ys) (p + 1) us = y :: setFrom ys p us := by
 induction us with
 | nil => intro y ys p; rfl
 | cons u r ih => intro y ys p; simp only [setFrom, List.set_cons_succ]; exact ih _ _ _
theorem ao5 (x : d8) : ∀ (l : List d8) (k : Nat), k < l.length → setFrom (ints (A4 l)) (k * 5) [.int .i64 x.op, .int .i64 x.a, .int .i64 x.b, .int .i64 x.c, .int .i64 x.d] = ints (A4 (l.set k x))
 | [], k, h => by simp at h
 | y :: l, 0, _ => by simp [setFrom, A4, ints]
 | y :: l, k + 1, h => by
  have ih := ao5 x l k (by simpa using h)
  have e : (k + 1) * 5 = k * 5 + 1 + 1 + 1 + 1 + 1 := by omega
  rw [e]
  simp only [A4, ints, List.map_cons, List.set_cons_succ, au8]
  simp only [ints] at ih
  rw [ih]
theorem au7 (v : Value) (c : f7) (hc : n9 c = true) (w : World) (h : z9 w v c) :
  Calls Try.prog 12 #[v] w fun e w' => ∃ u, e = .returned u ∧ y6 w' w.heap.size w'.heap.size u (s4 c) ∧ Below w.heap.size w w' := by
 have hrow := h
 obtain ⟨v1, v2, v3, rfl, h1, h2, h3⟩ := h
 obtain ⟨a3, k3, rfl, -, hm3, -, hc3⟩ := h3.ins
 have hn4 := (w8 hc).2.2.1
 obtain ⟨n, hn⟩ : ∃ n, n = w.heap.size := ⟨_, rfl⟩
 obtain ⟨W, hW⟩ : ∃ W, W = (w.alloc (.cells #[v1, v2, .slice a3 c.list.length k3] 26)).alloc (.cells #[.slice none 0 0, .slice none 0 0, .slice none 0 0] 26) := ⟨_, rfl⟩
 have B0 : Below w.heap.size w W := by rw [hW]; go_grown
 have sW : W.heap.size = n + 1 + 1 := by rw [hW, hn]; simp
 have L1 : y8 W n [v1, v2, .slice a3 c.list.length k3] := by rw [hW, hn]; exact (y8.new w [v1, v2, .slice a3 c.list.length k3] _).alloc _
 have L2 : y8 W (n + 1) [.slice none 0 0, .slice none 0 0, .slice none 0 0] := by rw [hW, hn]; exact y8.new' (w.alloc _) [.slice none 0 0, .slice none 0 0, .slice none 0 0] _ (by simp)
 have x0 := L1.cell 0
 have x1 := L1.cell 1
 have x2 := L1.cell 2
 simp only [List.getElem?_cons_zero, List.getElem?_cons_succ] at x0 x1 x2
 rw [hW, hn] at x0 x1 x2
 go_enter Try.func12, Try.ntmps12
 go_wp2_with fail
 rw [← hW]
 clear hW x0 x1 x2
 refine (aE1 _ c _ (hrow.below B0) (am5 hc)).mono ?_
 rintro e w1 ⟨u, rfl, ou, b1⟩
 obtain ⟨y1, y2, y3, rfl, -⟩ := id ou
 obtain ⟨p1, q1, p2, q2, p3, q3, rfl, rfl, rfl⟩ := Code.rowOf ou
 obtain ⟨z1, z2, z3, hz, o1, o2, o3, d12, d13, d23⟩ := ou
 simp only [Value.agg.injEq, Array.mk.injEq, List.cons.injEq, and_true] at hz
 obtain ⟨rfl, rfl, rfl⟩ := hz
 have B1 := B0.trans (b1.mono B0.size)
 have s1 := b1.size
 replace L1 := L1.below b1 L1.lt
 replace L2 := L2.below b1 L2.lt
 go_wp2_with fail
 obtain ⟨T, hT⟩ : ∃ T, T = w1.heap.size := ⟨_, rfl⟩
 obtain ⟨w2, hw2⟩ : ∃ w2, w2 = w1.alloc (.cells #[.slice p1 c.vars.length q1, .slice p2 c.arrays.length q2, .slice p3 c.list.length q3] 26) := ⟨_, rfl⟩
 have L3 : y8 w2 T [.slice p1 c.vars.length q1, .slice p2 c.arrays.length q2, .slice p3 c.list.length q3] := by rw [hw2]; exact y8.new' w1 _ _ hT
 have b2 : Below w1.heap.size w1 w2 := by rw [hw2]; go_grown
 have s2 : w2.heap.size = T + 1 := by rw [hw2, hT]; simp
 rw [← hw2, ← hT]
 have B2 := B1.trans (b2.mono B1.size)
 replace L1 := L1.below b2 L1.lt
 replace L2 := L2.below b2 L2.lt
 replace o1 := (o1.keep b2 (Nat.le_refl _)).wide (show n + 1 + 1 ≤ W.heap.size by omega) (show w1.heap.size ≤ T by omega)
 replace o2 := (o2.keep b2 (Nat.le_refl _)).wide (show n + 1 + 1 ≤ W.heap.size by omega) (show w1.heap.size ≤ T by omega)
 replace o3 := (o3.keep b2 (Nat.le_refl _)).wide (show n + 1 + 1 ≤ W.heap.size by omega) (show w1.heap.size ≤ T by omega)
 have HT := show Hid (n + 1 + 1 ≤ T) from by unfold Hid; omega
 have HN := show Hid (n = w.heap.size) from hn
 have HD := show Hid _ from And.intro d12 (And.intro d13 d23)
 have HI := show Hid _ from hc3
 rw [← hn]
 clear hw2 hT b1 b2 B0 B1 sW s1 hc3 d12 d13 d23 hn
 rw [← aa5 c] at o3
 go_loopw [4] (fun i wr => ∃ k : Nat, k ≤ c.list.length ∧ i = .int .i64 k ∧ y8 wr n [v1, v2, .slice a3 c.list.length k3] ∧ y8 wr (n + 1) [.slice none 0 0, .slice none 0 0, .slice none 0 0] ∧ y8 wr T [.slice p1 c.vars.length q1, .slice p2 c.arrays.length q2, .slice p3 c.list.length q3] ∧
   I5 wr (n + 1 + 1) T 3 1 (.slice p1 c.vars.length q1) c.vars.length (ints c.vars) ∧ I5 wr (n + 1 + 1) T 3 1 (.slice p2 c.arrays.length q2) c.arrays.length (ints c.arrays) ∧ I5 wr (n + 1 + 1) T 38 5 (.slice p3 c.list.length q3) c.list.length (ints (A4 (J1 c k))) ∧ Below w.heap.size w wr) (fun i _ => c.list.length - (intOf i).toNat)
 case atStart => exact ⟨0, Nat.zero_le _, rfl, L1, L2, L3, o1, o2, by have := o3; simp only [aa5] at this ⊢; exact this, B2⟩
 case round =>
  obtain ⟨k, hk, rfl, hL1, hL2, hL3, ho1, ho2, ho3, hb⟩ := hrel
  clear L1 L2 L3 o1 o2 o3 B2
  have y2 := hL3.cell 2
  have x0 := hL1.cell 0
  have x1 := hL1.cell 1
  have x2 := hL1.cell 2
  simp only [List.getElem?_cons_zero, List.getElem?_cons_succ] at x0 x1 x2 y2
  by_cases hlt : k < c.list.length
  ·obtain ⟨b, off, rfl, hb3, i0, i1, i2, i3, i4⟩ := HI.out k hlt
   have hins := (w8 hc).2.2.2.1 k hlt
   rw [← (K5 hb).1 _ _ hb3] at i0 i1 i2 i3 i4
   have hbw : b < wr.heap.size := Nat.lt_of_lt_of_le hb3 hb.size
   have HTH : Hid (K9 c c.list[k] = if 0 ≤ m7 c.list[k] then G9 c.list[k] (x7 c (m7 c.list[k])) else c.list[k]) := rfl
   have HTG := show Hid (0 ≤ m7 c.list[k] → B8 c (m7 c.list[k])) from fun g => ⟨g, aa0 hins g⟩
   have HM := show Hid _ from aj0 c k hlt
   have HK := show Hid _ from ax5 c k hlt
   obtain ⟨x, hx⟩ : ∃ x, x = c.list[k] := ⟨_, rfl⟩
   rw [← hx] at i0 i1 i2 i3 i4 HTH HTG HM HK
   clear hins hx
   have hki : (k : Int) < c.list.length := by omega
   go_wp2_with fail
   refine (ab9 x _).mono ?_
   rintro e w3 ⟨rfl, b3⟩
   have ho3x := ho3.keep b3 (by have := hL3.lt; omega)
   have ho1x := ho1.keep b3 (by have := hL3.lt; omega)
   have ho2x := ho2.keep b3 (by have := hL3.lt; omega)
   have hL1x := hL1.below b3 hL1.lt
   have hL2x := hL2.below b3 hL2.lt
   have hL3x := hL3.below b3 hL3.lt
   have hb3x := hb.trans (b3.mono hb.size)
   have e3 := (K5 b3).1
   rw [← e3 _ _ hbw] at i0 i1 i2 i3 i4
   clear x0 x1 x2 y2 hL1 hL2 ho1 ho2 ho3 e3
   by_cases ht : 0 ≤ m7 x
   ·have hpl := HTG.out ht
    have hth := HTH.out
    rw [if_pos ht] at hth
    have HTR := show Hid _ from hth
    have HT0 := show Hid _ from ht
    obtain ⟨t, htt⟩ : ∃ t, t = m7 x := ⟨_, rfl⟩
    obtain ⟨fz, hfz⟩ : ∃ fz, fz = x7 c t := ⟨_, rfl⟩
    rw [← htt] at hpl ht ⊢
    have hT0 : Hid (m7 x = t) := htt.symm
    have hF0 : Hid (x7 c t = fz) := hfz.symm
    have HTR' := show Hid (K9 c x = G9 x fz) from by unfold Hid; rw [HTR.out, hT0.out, hF0.out]
    have HC1 : Hid (∀ X, Calls Try.prog 30 #[x.v] (w3.ext X) fun e w'' => e = .returned (.int .i64 t) ∧ ∃ Y, w'' = w3.ext Y) := fun X => Calls.ext_of' ((ab9 x _).mono fun e w' h => by rw [hT0.out] at h; exact h)
    have HC2 : Hid (∀ X, Calls Try.prog 32 #[.agg #[v1, v2, .slice (some ⟨b, off, none⟩) c.list.length k3], .int .i64 t] (w3.ext X) fun e w'' => e = .returned (.int .i64 fz) ∧ ∃ Y, w'' = w3.ext Y) :=
     fun X => Calls.ext_of' ((az2 _ c hc t hpl _ ((hrow.below hb3x).below (l8 _ X))).mono fun e w' h => by rw [hF0.out] at h; exact h)
    obtain ⟨q, hq⟩ : ∃ q, q = G9 x fz := ⟨_, rfl⟩
    have HC3 : Hid (∀ X, Calls Try.prog 31 #[x.v, .int .i64 fz] (w3.ext X) fun e w'' => e = .returned (.agg #[.int .i64 q.op, .int .i64 q.a, .int .i64 q.b, .int .i64 q.c, .int .i64 q.d]) ∧ ∃ Y, w'' = w3.ext Y) := fun X => Calls.ext_of' ((aK5 x fz _).mono fun e w' h => by rw [← hq] at h; exact h)
    have HM2 := show Hid (J1 c (k + 1) = (J1 c k).set k q) from by unfold Hid; rw [HM.out, HTR'.out, hq]
    obtain ⟨g3, hv3, hg1, hg2, hg3, hfr, hcl⟩ : ∃ g3, p3 = some ⟨g3, 0, none⟩ ∧ n + 1 + 1 ≤ g3 ∧ g3 < T ∧ g3 < w3.heap.size ∧ (∀ o, w3.frozen? ⟨g3, o, none⟩ = false) ∧ ∀ j, j < 5 → ∃ u, w3.cell? ⟨g3, k * 5 + j, none⟩ = some u := by
     obtain ⟨g, cap, hv, q1, q2, q3, -, -, q6, q7⟩ := ho3x.open (by omega)
     cases hv
     have hl : (ints (A4 (J1 c k))).length = c.list.length * 5 := ho3x.1.1
     exact ⟨g, rfl, q1, q2, q3, q6, fun j hj => ⟨_, q7 _ _ (List.getElem?_eq_getElem (by omega))⟩⟩
    subst hv3
    obtain ⟨c0, w0⟩ := hcl 0 (by omega)
    obtain ⟨c1, w1'⟩ := hcl 1 (by omega)
    obtain ⟨c2, w2'⟩ := hcl 2 (by omega)
    obtain ⟨c3, w3'⟩ := hcl 3 (by omega)
    obtain ⟨c4, w4'⟩ := hcl 4 (by omega)
    simp only [Nat.add_zero] at w0
    have x0 := hL1x.cell 0
    have x1 := hL1x.cell 1
    have x2 := hL1x.cell 2
    have y2 := hL3x.cell 2
    simp only [List.getElem?_cons_zero, List.getElem?_cons_succ] at x0 x1 x2 y2
    have ZX0 := fun X => f9 x0 X
    have ZX1 := fun X => f9 x1 X
    have ZX2 := fun X => f9 x2 X
    have ZY2 := fun X => f9 y2 X
    have j0 := fun X => f9 i0 X
    have j1 := fun X => f9 i1 X
    have j2 := fun X => f9 i2 X
    have j3 := fun X => f9 i3 X
    have j4 := fun X => f9 i4 X
    have d0 := fun X => f9 w0 X
    have d1 := fun X => f9 w1' X
    have d2 := fun X => f9 w2' X
    have d3 := fun X => f9 w3' X
    have d4 := fun X => f9 w4' X
    have ff0 := fun X => t7 hg3 (hfr (k * 5)) X
    have ff1 := fun X => t7 hg3 (hfr (k * 5 + 1)) X
    have ff2 := fun X => t7 hg3 (hfr (k * 5 + 2)) X
    have ff3 := fun X => t7 hg3 (hfr (k * 5 + 3)) X
    have ff4 := fun X => t7 hg3 (hfr (k * 5 + 4)) X
    have hsz3 : (ints (A4 (J1 c k))).length = c.list.length * 5 := ho3x.1.1
    have HSZ := show Hid _ from hsz3
    have hT3 := hL3x.lt
    clear i0 i1 i2 i3 i4 w0 w1' w2' w3' w4' hcl hfr htt hfz hth hsz3 hpl HTG HTH HT0 HTR HK hq HTR' HM
    go_wp2_with fail
    clear x0 x1 x2 y2
    refine O5 18 _ rfl (by kernel_rfl) (by kernel_rfl) ?_
    simp only [List.set_cons_succ, List.set_cons_zero, S7]
    repeat (any_goals (first | go_big_quiet_step ((first | (go_at_call 30; exact HC1.out _) | (go_at_call 32; exact HC2.out _) | (go_at_call 31; exact HC3.out _))) | quiet_step ((first | (go_at_call 30; exact HC1.out _) | (go_at_call 32; exact HC2.out _) | (go_at_call 31; exact HC3.out _)))))
    refine wpQuiet_nil ?_
    rintro _ ⟨X, rfl⟩
    go_wp2_with fail
    have bX := l8 w3 X
    have ho1X := ho1x.keep bX (by omega)
    have ho2X := ho2x.keep bX (by omega)
    have ho3X := ho3x.keep bX (by omega)
    have hL1X := hL1x.below bX hL1x.lt
    have hL2X := hL2x.below bX hL2x.lt
    have hL3X := hL3x.below bX hL3x.lt
    have hbX := hb3x.trans (bX.mono hb3x.size)
    have hO := R9.setFrom (lo := g3) (hi := g3 + 1) (p := k * 5) [.int .i64 q.op, .int .i64 q.a, .int .i64 q.b, .int .i64 q.c, .int .i64 q.d] (R9.refl g3 (g3 + 1) (w3.ext X)) (Nat.le_refl g3) (Nat.lt_succ_self g3)
    have hS3 := ho3X.setFrom (p := k * 5) [.int .i64 q.op, .int .i64 q.a, .int .i64 q.b, .int .i64 q.c, .int .i64 q.d] (by rw [HSZ.out]; simp; omega)
    rw [ao5 q (J1 c k) k (by rw [ag2]; exact hlt), ← HM2.out] at hS3
    have htt : ∀ g, g3 ≤ g → g < g3 + 1 → (Value.slice (some ⟨g3, 0, none⟩) c.list.length q3).ownBlock = some g := fun g e1 e2 => by rw [show g = g3 by omega]; rfl
    refine ⟨⟨k + 1, by omega, by go_num, hL1X.out hO (by omega), hL2X.out hO (by omega), hL3X.out hO (by omega), ho1X.disj hO htt HD.out.2.1.symm, ho2X.disj hO htt HD.out.2.2.symm, hS3, ?_⟩, by simp [intOf]; omega⟩
    exact R5 (g := g3) (p := k * 5) [.int .i64 q.op, .int .i64 q.a, .int .i64 q.b, .int .i64 q.c, .int .i64 q.d] hbX (by have := HN.out; omega)
   ·have hth := HTH.out
    rw [if_neg ht] at hth
    have HN2 := show Hid _ from HK.out hth
    have ht' : m7 x < 0 := by omega
    clear hth ht HTH HTG HK HM i0 i1 i2 i3 i4
    go_wp2_with fail
    exact ⟨⟨k + 1, by omega, by go_num, hL1x, hL2x, hL3x, ho1x, ho2x, by rw [HN2.out]; exact ho3x, hb3x⟩, by simp [intOf]; omega⟩
  ·have hkn : k = c.list.length := by omega
   subst hkn
   have y0 := hL3.cell 0
   have y1 := hL3.cell 1
   have z0 := hL2.cell 0
   have z1 := hL2.cell 1
   have z2 := hL2.cell 2
   simp only [List.getElem?_cons_zero, List.getElem?_cons_succ] at y0 y1 z0 z1 z2
   have f0 := hL2.free 0
   have f1 := hL2.free 1
   have f2 := hL2.free 2
   go_wp2_with fail
   have hn' := HN.out
   have hT' := HT.out
   have L4 := ((hL2.set (j := 0) (.slice p1 c.vars.length q1)).set (j := 1) (.slice p2 c.arrays.length q2)).set (j := 2) (.slice p3 c.list.length q3)
   have hO : R9 (n + 1) (n + 1 + 1) wr (((wr.setCell ⟨n + 1, 0, none⟩ (.slice p1 c.vars.length q1)).setCell ⟨n + 1, 1, none⟩ (.slice p2 c.arrays.length q2)).setCell ⟨n + 1, 2, none⟩ (.slice p3 c.list.length q3)) :=
    (((R9.refl (n + 1) (n + 1 + 1) wr).setCell (p := ⟨n + 1, 0, none⟩) (Nat.le_refl _) (Nat.lt_succ_self _) _).setCell (p := ⟨n + 1, 1, none⟩) (Nat.le_refl _) (Nat.lt_succ_self _) _).setCell (p := ⟨n + 1, 2, none⟩) (Nat.le_refl _) (Nat.lt_succ_self _) _
   replace ho1 := ho1.out hO (.inr (Nat.le_refl _))
   replace ho2 := ho2.out hO (.inr (Nat.le_refl _))
   replace ho3 := ho3.out hO (.inr (Nat.le_refl _))
   rw [aG1] at ho3
   have hTs := hL3.lt
   have zF : (((wr.setCell ⟨n + 1, 0, none⟩ (.slice p1 c.vars.length q1)).setCell ⟨n + 1, 1, none⟩ (.slice p2 c.arrays.length q2)).setCell ⟨n + 1, 2, none⟩ (.slice p3 c.list.length q3)).heap.size = wr.heap.size := by simp
   have hll : (s4 c).list.length = c.list.length := by simp [s4]
   have BF := ((hb.setCell (p := ⟨n + 1, 0, none⟩) (by show w.heap.size ≤ n + 1; omega) (.slice p1 c.vars.length q1)).setCell (p := ⟨n + 1, 1, none⟩) (by show w.heap.size ≤ n + 1; omega) (.slice p2 c.arrays.length q2)).setCell (p := ⟨n + 1, 2, none⟩) (by show w.heap.size ≤ n + 1; omega) (.slice p3 c.list.length q3)
   have r0 := L4.cell 0
   have r1 := L4.cell 1
   have r2 := L4.cell 2
   simp only [List.getElem?_cons_zero, List.getElem?_cons_succ, List.set_cons_zero, List.set_cons_succ] at r0 r1 r2
   generalize ((wr.setCell ⟨n + 1, 0, none⟩ (.slice p1 c.vars.length q1)).setCell ⟨n + 1, 1, none⟩ (.slice p2 c.arrays.length q2)).setCell ⟨n + 1, 2, none⟩ (.slice p3 c.list.length q3) = WF at *
   refine bodyPost_ret (v := .agg #[.slice p1 c.vars.length q1, .slice p2 c.arrays.length q2, .slice p3 c.list.length q3]) (by simp [results, Try.results12, go_sem, r0, r1, r2]) rfl ⟨_, rfl, ⟨_, _, _, rfl, ho1.wide (by omega) (by omega), ho2.wide (by omega) (by omega), ?_, HD.out.1, HD.out.2.1, HD.out.2.2⟩, BF⟩
   rw [hll]
   exact ho3.wide (by omega) (by omega)
theorem av3 (v : Value) (c : f7) (hc : n9 c = true) (w : World) (h : z9 w v c) :
  Calls Try.prog 10 #[v] w fun e w' => ∃ u, e = .returned u ∧ y6 w' w.heap.size w'.heap.size u (s4 c) ∧ Below w.heap.size w w' := by
 have hrow := h
 obtain ⟨v1, v2, v3, rfl, h1, h2, h3⟩ := h
 obtain ⟨a3, k3, rfl, -, hm3, -, hc3⟩ := h3.ins
 have hn4 := (w8 hc).2.2.1
 obtain ⟨n, hn⟩ : ∃ n, n = w.heap.size := ⟨_, rfl⟩
 obtain ⟨W, hW⟩ : ∃ W, W = (w.alloc (.cells #[v1, v2, .slice a3 c.list.length k3] 26)).alloc (.cells #[.slice none 0 0, .slice none 0 0, .slice none 0 0] 26) := ⟨_, rfl⟩
 have B0 : Below w.heap.size w W := by rw [hW]; go_grown
 have sW : W.heap.size = n + 1 + 1 := by rw [hW, hn]; simp
 have L1 : y8 W n [v1, v2, .slice a3 c.list.length k3] := by rw [hW, hn]; exact (y8.new w [v1, v2, .slice a3 c.list.length k3] _).alloc _
 have L2 : y8 W (n + 1) [.slice none 0 0, .slice none 0 0, .slice none 0 0] := by rw [hW, hn]; exact y8.new' (w.alloc _) [.slice none 0 0, .slice none 0 0, .slice none 0 0] _ (by simp)
 have x0 := L1.cell 0
 have x1 := L1.cell 1
 have x2 := L1.cell 2
 simp only [List.getElem?_cons_zero, List.getElem?_cons_succ] at x0 x1 x2
 rw [hW, hn] at x0 x1 x2
 go_enter Try.func10, Try.ntmps10
 go_wp2_with fail
 rw [← hW]
 clear hW x0 x1 x2
 refine (a41 _ c _ (hrow.below B0) (am5 hc)).mono ?_
 rintro e w1 ⟨u, rfl, ou, b1⟩
 obtain ⟨y1, y2, y3, rfl, -⟩ := id ou
 obtain ⟨p1, q1, p2, q2, p3, q3, rfl, rfl, rfl⟩ := Code.rowOf ou
 obtain ⟨z1, z2, z3, hz, o1, o2, o3, d12, d13, d23⟩ := ou
 simp only [Value.agg.injEq, Array.mk.injEq, List.cons.injEq, and_true] at hz
 obtain ⟨rfl, rfl, rfl⟩ := hz
 have B1 := B0.trans (b1.mono B0.size)
 have s1 := b1.size
 replace L1 := L1.below b1 L1.lt
 replace L2 := L2.below b1 L2.lt
 have x2 : (w1.alloc (.cells #[.slice p1 c.vars.length q1, .slice p2 c.arrays.length q2, .slice p3 c.list.length q3] 26)).cell? ⟨w.heap.size, 2, none⟩ = some (.slice a3 c.list.length k3) := by
  have := (L1.alloc (.cells #[.slice p1 c.vars.length q1, .slice p2 c.arrays.length q2, .slice p3 c.list.length q3] 26)).cell 2
  rw [← hn]
  simpa using this
 go_wp2_with fail
 clear x2
 obtain ⟨T, hT⟩ : ∃ T, T = w1.heap.size := ⟨_, rfl⟩
 obtain ⟨w2, hw2⟩ : ∃ w2, w2 = w1.alloc (.cells #[.slice p1 c.vars.length q1, .slice p2 c.arrays.length q2, .slice p3 c.list.length q3] 26) := ⟨_, rfl⟩
 have L3 : y8 w2 T [.slice p1 c.vars.length q1, .slice p2 c.arrays.length q2, .slice p3 c.list.length q3] := by rw [hw2]; exact y8.new' w1 _ _ hT
 have b2 : Below w1.heap.size w1 w2 := by rw [hw2]; go_grown
 have s2 : w2.heap.size = T + 1 := by rw [hw2, hT]; simp
 rw [← hw2, ← hT]
 have B2 := B1.trans (b2.mono B1.size)
 replace L1 := L1.below b2 L1.lt
 replace L2 := L2.below b2 L2.lt
 replace o1 := (o1.keep b2 (Nat.le_refl _)).wide (show n + 1 + 1 ≤ W.heap.size by omega) (show w1.heap.size ≤ T by omega)
 replace o2 := (o2.keep b2 (Nat.le_refl _)).wide (show n + 1 + 1 ≤ W.heap.size by omega) (show w1.heap.size ≤ T by omega)
 replace o3 := (o3.keep b2 (Nat.le_refl _)).wide (show n + 1 + 1 ≤ W.heap.size by omega) (show w1.heap.size ≤ T by omega)
 have HT := show Hid (n + 1 + 1 ≤ T) from by unfold Hid; omega
 have HN := show Hid (n = w.heap.size) from hn
 have HD := show Hid _ from And.intro d12 (And.intro d13 d23)
 have HI := show Hid _ from hc3
 rw [← hn]
 clear hw2 hT b1 b2 B0 B1 sW s1 hc3 d12 d13 d23 hn
 rw [← aa5 c] at o3
 go_loopw [4, 5, 6, 7, 13] (fun _ _ _ _ i wr => ∃ k : Nat, k ≤ c.list.length ∧ i = .int .i64 k ∧ y8 wr n [v1, v2, .slice a3 c.list.length k3] ∧ y8 wr (n + 1) [.slice none 0 0, .slice none 0 0, .slice none 0 0] ∧ y8 wr T [.slice p1 c.vars.length q1, .slice p2 c.arrays.length q2, .slice p3 c.list.length q3] ∧
   I5 wr (n + 1 + 1) T 3 1 (.slice p1 c.vars.length q1) c.vars.length (ints c.vars) ∧ I5 wr (n + 1 + 1) T 3 1 (.slice p2 c.arrays.length q2) c.arrays.length (ints c.arrays) ∧ I5 wr (n + 1 + 1) T 38 5 (.slice p3 c.list.length q3) c.list.length (ints (A4 (J1 c k))) ∧ Below w.heap.size w wr) (fun _ _ _ _ i _ => c.list.length - (intOf i).toNat)
 case atStart => exact ⟨0, Nat.zero_le _, rfl, L1, L2, L3, o1, o2, by have := o3; simp only [aa5] at this ⊢; exact this, B2⟩
 case round =>
  obtain ⟨k, hk, rfl, hL1, hL2, hL3, ho1, ho2, ho3, hb⟩ := hrel
  clear L1 L2 L3 o1 o2 o3 B2
  by_cases hlt : k < c.list.length
  ·obtain ⟨b, off, he3, hb3, i0, i1, i2, i3, i4⟩ := HI.out k hlt
   have hins := (w8 hc).2.2.2.1 k hlt
   rw [← (K5 hb).1 _ _ hb3] at i0 i1 i2 i3 i4
   have HTH : Hid (K9 c c.list[k] = if 0 ≤ m7 c.list[k] then G9 c.list[k] (x7 c (m7 c.list[k])) else c.list[k]) := rfl
   have HTG := show Hid (0 ≤ m7 c.list[k] → B8 c (m7 c.list[k])) from fun g => ⟨g, aa0 hins g⟩
   have HM := show Hid _ from aj0 c k hlt
   have HK := show Hid _ from ax5 c k hlt
   obtain ⟨x, hx⟩ : ∃ x, x = c.list[k] := ⟨_, rfl⟩
   rw [← hx] at i0 i1 i2 i3 i4 HTH HTG HM HK
   clear hins hx
   subst he3
   have hki : (k : Int) < c.list.length := by omega
   go_wp2_with fail
   obtain ⟨w4, hw4⟩ : ∃ w4, w4 = wr.alloc (.cells #[.int .i64 x.op, .int .i64 x.a, .int .i64 x.b, .int .i64 x.c, .int .i64 x.d] 38) := ⟨_, rfl⟩
   have LX : y8 w4 wr.heap.size [.int .i64 x.op, .int .i64 x.a, .int .i64 x.b, .int .i64 x.c, .int .i64 x.d] := by rw [hw4]; exact y8.new wr _ _
   have b4 : Below wr.heap.size wr w4 := by rw [hw4]; go_grown
   rw [← hw4]
   refine (am2 x _).mono ?_
   rintro e w3 ⟨rfl, b3'⟩
   have b3 := b4.trans (b3'.mono b4.size)
   have hTl := hL3.lt
   have ho3x := ho3.keep b3 (by omega)
   have ho1x := ho1.keep b3 (by omega)
   have ho2x := ho2.keep b3 (by omega)
   have hL1x := hL1.below b3 hL1.lt
   have hL2x := hL2.below b3 hL2.lt
   have hL3x := hL3.below b3 hL3.lt
   have LXx := LX.below b3' LX.lt
   have hb3x := hb.trans (b3.mono hb.size)
   have hXs : T < wr.heap.size := hTl
   have hX3 := LXx.lt
   obtain ⟨X0, hX0⟩ : ∃ X0, X0 = wr.heap.size := ⟨_, rfl⟩
   rw [← hX0] at LXx hXs hX3 ⊢
   clear hL1 hL2 hL3 ho1 ho2 ho3 i0 i1 i2 i3 i4 hw4 b4 b3' LX b3 hX0 hTl
   have x2 := hL1x.cell 2
   simp only [List.getElem?_cons_zero, List.getElem?_cons_succ] at x2
   by_cases ht : 0 ≤ m7 x
   case neg =>
    have hth := HTH.out
    rw [if_neg ht] at hth
    have HN2 := show Hid _ from HK.out hth
    have ht' : m7 x < 0 := by omega
    clear hth ht HTH HTG HK HM
    generalize m7 x = tg at *
    go_wp2_with fail
    go_loop [6, 7] (fun t _ => t = .int .i64 tg) (fun _ _ => 0)
    case atStart => exact rfl
    case round =>
     obtain rfl := hrel
     go_wp2_with fail
     exact ⟨⟨k + 1, by omega, by go_num, hL1x, hL2x, hL3x, ho1x, ho2x, by rw [HN2.out]; exact ho3x, hb3x⟩, by simp [intOf]; omega⟩
   case pos =>
    have hpl := HTG.out ht
    have HT0 := show Hid _ from ht
    have HPT := show Hid _ from hpl
    have HF : Hid (x7 c (m7 x) = if U3 c (p8 c c.list.length (m7 x)) = true then m7 x else p8 c c.list.length (m7 x)) := rfl
    have HCELL := show Hid (∀ i, i < c.list.length → w3.cell? ⟨b, off + i * 5, none⟩ = some (.int .i64 (z6 c i).op) ∧ w3.cell? ⟨b, off + i * 5 + 1, none⟩ = some (.int .i64 (z6 c i).a)) from by
     intro i hi
     obtain ⟨b', off', e, hb', i0, i1, -⟩ := HI.out i hi
     cases e
     rw [← (K5 hb3x).1 _ _ hb'] at i0 i1
     rw [S6 hi]
     exact ⟨i0, i1⟩
    have hw30 := LXx.cell 0
    have hw31 := LXx.cell 1
    have hw32 := LXx.cell 2
    have hw33 := LXx.cell 3
    have hw34 := LXx.cell 4
    simp only [List.getElem?_cons_zero, List.getElem?_cons_succ] at hw30 hw31 hw32 hw33 hw34
    clear HTG HK hpl
    go_wp2_with fail
    go_loop [6, 7] (fun t i => ∃ (y : Nat) (m : Nat), t = .int .i64 y ∧ i = .int .i64 m ∧ m ≤ c.list.length ∧ y < c.list.length ∧ p8 c (c.list.length - m) y = p8 c c.list.length (m7 x)) (fun _ i => c.list.length - (intOf i).toNat)
    case atStart => exact ⟨(m7 x).toNat, 0, by rw [Int.toNat_of_nonneg HPT.out.1], rfl, Nat.zero_le _, by have := HPT.out.1; have := HPT.out.2; omega, by rw [Int.toNat_of_nonneg HPT.out.1]; rfl⟩
    case round =>
     obtain ⟨y, m, rfl, rfl, hm, hy, hch⟩ := hrel
     have HCH := show Hid _ from hch
     clear hch
     obtain ⟨i0, i1⟩ := HCELL.out y hy
     have HJ : Hid (U3 c y = decide ((z6 c y).op = 8)) := by unfold Hid U3; rw [Int.toNat_natCast]
     have HST : Hid (∀ k, U3 c y = true → p8 c (k + 1) y = p8 c k (z6 c y).a) := fun k h => by have := I4 (k := k) h; rw [Int.toNat_natCast] at this; exact this
     have HPL := show Hid (U3 c y = true → B8 c (z6 c y).a) from fun h => by have := ao4 hc (x := (y : Int)) ⟨by omega, by omega⟩ h; rw [Int.toNat_natCast] at this; exact this
     have hyi : (y : Int) < c.list.length := by omega
     generalize z6 c y = z at *
     by_cases h8 : z.op = 8
     ·have q8 : (z.op == 8) = true := by simp [h8]
      have hj : U3 c y = true := by rw [HJ.out]; exact decide_eq_true h8
      by_cases hml : m < c.list.length
      ·obtain ⟨hp0, hp1⟩ := HPL.out hj
       have hst := HST.out (c.list.length - (m + 1)) hj
       rw [show c.list.length - (m + 1) + 1 = c.list.length - m by omega, HCH.out] at hst
       have HS := show Hid _ from hst
       have qm : ((m : Int) == c.list.length) = false := by simp; omega
       clear hst h8 hj ht
       go_wp2_with fail
       go_round
       case rel => exact ⟨z.a.toNat, m + 1, by rw [Int.toNat_of_nonneg hp0], by go_num, by omega, by omega, by rw [Int.toNat_of_nonneg hp0]; exact HS.out.symm⟩
       case measure => simp [intOf]; omega
      ·have hmn : m = c.list.length := by omega
       have hch := HCH.out
       rw [hmn, Nat.sub_self, show p8 c 0 (y : Int) = y from rfl] at hch
       have HFZ := show Hid (x7 c (m7 x) = m7 x) from by unfold Hid; rw [HF.out, ← hch, hj]; rfl
       subst hmn
       clear hch h8 hj
       go_wp2_with fail
       refine (am2 x _).mono ?_
       rintro e w5 ⟨rfl, bw5⟩
       clear hw30 hw31 hw32 hw33 hw34 i0 i1 x2
       go_wp2_with fail
       have hth := HTH.out
       rw [if_pos HT0.out, HFZ.out] at hth
       have HTR' := show Hid (K9 c x = G9 x (m7 x)) from hth
       obtain ⟨q, hq⟩ : ∃ q, q = G9 x (m7 x) := ⟨_, rfl⟩
       have HC3 : Hid (∀ X, Calls Try.prog 25 #[x.v, .int .i64 (m7 x)] (w5.ext X) fun e w'' => e = .returned (.agg #[.int .i64 q.op, .int .i64 q.a, .int .i64 q.b, .int .i64 q.c, .int .i64 q.d]) ∧ ∃ Y, w'' = w5.ext Y) := fun X => Calls.ext_of' ((aR2 x _ _ HT0.out).mono fun e w' h => by rw [← hq] at h; exact h)
       have HM2 := show Hid (J1 c (k + 1) = (J1 c k).set k q) from by unfold Hid; rw [HM.out, HTR'.out, hq]
       have z5 := bw5.size
       have ho3y := ho3x.keep bw5 (by omega)
       have ho1y := ho1x.keep bw5 (by omega)
       have ho2y := ho2x.keep bw5 (by omega)
       have hL1y := hL1x.below bw5 hL1x.lt
       have hL2y := hL2x.below bw5 hL2x.lt
       have hL3y := hL3x.below bw5 hL3x.lt
       have LXy := LXx.below bw5 LXx.lt
       have hb5 := hb3x.trans (bw5.mono hb3x.size)
       obtain ⟨g3, hv3, hg1, hg2, hg3, hfr, hcl⟩ : ∃ g3, p3 = some ⟨g3, 0, none⟩ ∧ n + 1 + 1 ≤ g3 ∧ g3 < T ∧ g3 < w5.heap.size ∧ (∀ o, w5.frozen? ⟨g3, o, none⟩ = false) ∧ ∀ j, j < 5 → ∃ u, w5.cell? ⟨g3, k * 5 + j, none⟩ = some u := by
        obtain ⟨g, cap, hv, q1, q2, q3, -, -, q6, q7⟩ := ho3y.open (by omega)
        cases hv
        have hl : (ints (A4 (J1 c k))).length = c.list.length * 5 := ho3y.1.1
        exact ⟨g, rfl, q1, q2, q3, q6, fun j hj => ⟨_, q7 _ _ (List.getElem?_eq_getElem (by omega))⟩⟩
       subst hv3
       obtain ⟨c0, w0⟩ := hcl 0 (by omega)
       obtain ⟨c1, w1'⟩ := hcl 1 (by omega)
       obtain ⟨c2, w2'⟩ := hcl 2 (by omega)
       obtain ⟨c3, w3'⟩ := hcl 3 (by omega)
       obtain ⟨c4, w4'⟩ := hcl 4 (by omega)
       simp only [Nat.add_zero] at w0
       have y2 := hL3y.cell 2
       have i0 := LXy.cell 0
       have i1 := LXy.cell 1
       have i2 := LXy.cell 2
       have i3 := LXy.cell 3
       have i4 := LXy.cell 4
       simp only [List.getElem?_cons_zero, List.getElem?_cons_succ] at y2 i0 i1 i2 i3 i4
       have ZY2 := fun X => f9 y2 X
       have j0 := fun X => f9 i0 X
       have j1 := fun X => f9 i1 X
       have j2 := fun X => f9 i2 X
       have j3 := fun X => f9 i3 X
       have j4 := fun X => f9 i4 X
       have d0 := fun X => f9 w0 X
       have d1 := fun X => f9 w1' X
       have d2 := fun X => f9 w2' X
       have d3 := fun X => f9 w3' X
       have d4 := fun X => f9 w4' X
       have ff0 := fun X => t7 hg3 (hfr (k * 5)) X
       have ff1 := fun X => t7 hg3 (hfr (k * 5 + 1)) X
       have ff2 := fun X => t7 hg3 (hfr (k * 5 + 2)) X
       have ff3 := fun X => t7 hg3 (hfr (k * 5 + 3)) X
       have ff4 := fun X => t7 hg3 (hfr (k * 5 + 4)) X
       have hsz3 : (ints (A4 (J1 c k))).length = c.list.length * 5 := ho3y.1.1
       have HSZ := show Hid _ from hsz3
       have hT3 := hL3y.lt
       clear y2 i0 i1 i2 i3 i4 w0 w1' w2' w3' w4' hcl hfr hth hsz3 hq HTR' HM
       refine O5 7 _ rfl (by kernel_rfl) (by kernel_rfl) ?_
       simp only [List.set_cons_succ, List.set_cons_zero, S7]
       repeat (any_goals (first | go_big_quiet_step ((go_at_call 25; exact HC3.out _)) | quiet_step ((go_at_call 25; exact HC3.out _))))
       refine wpQuiet_nil ?_
       rintro _ ⟨X, rfl⟩
       go_wp2_with fail
       have bX := l8 w5 X
       have ho1X := ho1y.keep bX (by omega)
       have ho2X := ho2y.keep bX (by omega)
       have ho3X := ho3y.keep bX (by omega)
       have hL1X := hL1y.below bX hL1y.lt
       have hL2X := hL2y.below bX hL2y.lt
       have hL3X := hL3y.below bX hL3y.lt
       have hbX := hb5.trans (bX.mono hb5.size)
       have hO := R9.setFrom (lo := g3) (hi := g3 + 1) (p := k * 5) [.int .i64 q.op, .int .i64 q.a, .int .i64 q.b, .int .i64 q.c, .int .i64 q.d] (R9.refl g3 (g3 + 1) (w5.ext X)) (Nat.le_refl g3) (Nat.lt_succ_self g3)
       have hS3 := ho3X.setFrom (p := k * 5) [.int .i64 q.op, .int .i64 q.a, .int .i64 q.b, .int .i64 q.c, .int .i64 q.d] (by rw [HSZ.out]; simp; omega)
       rw [ao5 q (J1 c k) k (by rw [ag2]; exact hlt), ← HM2.out] at hS3
       have htt : ∀ g, g3 ≤ g → g < g3 + 1 → (Value.slice (some ⟨g3, 0, none⟩) c.list.length q3).ownBlock = some g := fun g e1 e2 => by rw [show g = g3 by omega]; rfl
       refine ⟨⟨k + 1, by omega, by go_num, hL1X.out hO (by omega), hL2X.out hO (by omega), hL3X.out hO (by omega), ho1X.disj hO htt HD.out.2.1.symm, ho2X.disj hO htt HD.out.2.2.symm, hS3, ?_⟩, by simp [intOf]; omega⟩
       exact R5 (g := g3) (p := k * 5) [.int .i64 q.op, .int .i64 q.a, .int .i64 q.b, .int .i64 q.c, .int .i64 q.d] hbX (by have := HN.out; omega)
     ·have q8 : (z.op == 8) = false := by simp [h8]
      have hj : U3 c y = false := by rw [HJ.out]; exact decide_eq_false h8
      have hch := HCH.out
      rw [F6 hj] at hch
      have HFZ := show Hid (x7 c (m7 x) = (y : Int)) from by unfold Hid; rw [HF.out, ← hch, hj]; rfl
      clear hch h8 hj ht
      go_wp2_with fail
      clear hw30 hw31 hw32 hw33 hw34 i0 i1 x2
      have bw5 := Below.refl w3.heap.size w3
      obtain ⟨w5, hw5⟩ : ∃ w5, w5 = w3 := ⟨_, rfl⟩
      rw [← hw5]
      have bw5 : Below w3.heap.size w3 w5 := by rw [hw5]; exact Below.refl _ _
      clear hw5
      have hth := HTH.out
      rw [if_pos HT0.out, HFZ.out] at hth
      have HTR' := show Hid (K9 c x = G9 x (y : Int)) from hth
      obtain ⟨q, hq⟩ : ∃ q, q = G9 x (y : Int) := ⟨_, rfl⟩
      have HC3 : Hid (∀ X, Calls Try.prog 25 #[x.v, .int .i64 (y : Int)] (w5.ext X) fun e w'' => e = .returned (.agg #[.int .i64 q.op, .int .i64 q.a, .int .i64 q.b, .int .i64 q.c, .int .i64 q.d]) ∧ ∃ Y, w'' = w5.ext Y) := fun X => Calls.ext_of' ((aR2 x _ _ HT0.out).mono fun e w' h => by rw [← hq] at h; exact h)
      have HM2 := show Hid (J1 c (k + 1) = (J1 c k).set k q) from by unfold Hid; rw [HM.out, HTR'.out, hq]
      have z5 := bw5.size
      have ho3y := ho3x.keep bw5 (by omega)
      have ho1y := ho1x.keep bw5 (by omega)
      have ho2y := ho2x.keep bw5 (by omega)
      have hL1y := hL1x.below bw5 hL1x.lt
      have hL2y := hL2x.below bw5 hL2x.lt
      have hL3y := hL3x.below bw5 hL3x.lt
      have LXy := LXx.below bw5 LXx.lt
      have hb5 := hb3x.trans (bw5.mono hb3x.size)
      obtain ⟨g3, hv3, hg1, hg2, hg3, hfr, hcl⟩ : ∃ g3, p3 = some ⟨g3, 0, none⟩ ∧ n + 1 + 1 ≤ g3 ∧ g3 < T ∧ g3 < w5.heap.size ∧ (∀ o, w5.frozen? ⟨g3, o, none⟩ = false) ∧ ∀ j, j < 5 → ∃ u, w5.cell? ⟨g3, k * 5 + j, none⟩ = some u := by
       obtain ⟨g, cap, hv, q1, q2, q3, -, -, q6, q7⟩ := ho3y.open (by omega)
       cases hv
       have hl : (ints (A4 (J1 c k))).length = c.list.length * 5 := ho3y.1.1
       exact ⟨g, rfl, q1, q2, q3, q6, fun j hj => ⟨_, q7 _ _ (List.getElem?_eq_getElem (by omega))⟩⟩
      subst hv3
      obtain ⟨c0, w0⟩ := hcl 0 (by omega)
      obtain ⟨c1, w1'⟩ := hcl 1 (by omega)
      obtain ⟨c2, w2'⟩ := hcl 2 (by omega)
      obtain ⟨c3, w3'⟩ := hcl 3 (by omega)
      obtain ⟨c4, w4'⟩ := hcl 4 (by omega)
      simp only [Nat.add_zero] at w0
      have y2 := hL3y.cell 2
      have i0 := LXy.cell 0
      have i1 := LXy.cell 1
      have i2 := LXy.cell 2
      have i3 := LXy.cell 3
      have i4 := LXy.cell 4
      simp only [List.getElem?_cons_zero, List.getElem?_cons_succ] at y2 i0 i1 i2 i3 i4
      have ZY2 := fun X => f9 y2 X
      have j0 := fun X => f9 i0 X
      have j1 := fun X => f9 i1 X
      have j2 := fun X => f9 i2 X
      have j3 := fun X => f9 i3 X
      have j4 := fun X => f9 i4 X
      have d0 := fun X => f9 w0 X
      have d1 := fun X => f9 w1' X
      have d2 := fun X => f9 w2' X
      have d3 := fun X => f9 w3' X
      have d4 := fun X => f9 w4' X
      have ff0 := fun X => t7 hg3 (hfr (k * 5)) X
      have ff1 := fun X => t7 hg3 (hfr (k * 5 + 1)) X
      have ff2 := fun X => t7 hg3 (hfr (k * 5 + 2)) X
      have ff3 := fun X => t7 hg3 (hfr (k * 5 + 3)) X
      have ff4 := fun X => t7 hg3 (hfr (k * 5 + 4)) X
      have hsz3 : (ints (A4 (J1 c k))).length = c.list.length * 5 := ho3y.1.1
      have HSZ := show Hid _ from hsz3
      have hT3 := hL3y.lt
      clear y2 i0 i1 i2 i3 i4 w0 w1' w2' w3' w4' hcl hfr hth hsz3 hq HTR' HM
      refine O5 7 _ rfl (by kernel_rfl) (by kernel_rfl) ?_
      simp only [List.set_cons_succ, List.set_cons_zero, S7]
      repeat (any_goals (first | go_big_quiet_step ((go_at_call 25; exact HC3.out _)) | quiet_step ((go_at_call 25; exact HC3.out _))))
      refine wpQuiet_nil ?_
      rintro _ ⟨X, rfl⟩
      go_wp2_with fail
      have bX := l8 w5 X
      have ho1X := ho1y.keep bX (by omega)
      have ho2X := ho2y.keep bX (by omega)
      have ho3X := ho3y.keep bX (by omega)
      have hL1X := hL1y.below bX hL1y.lt
      have hL2X := hL2y.below bX hL2y.lt
      have hL3X := hL3y.below bX hL3y.lt
      have hbX := hb5.trans (bX.mono hb5.size)
      have hO := R9.setFrom (lo := g3) (hi := g3 + 1) (p := k * 5) [.int .i64 q.op, .int .i64 q.a, .int .i64 q.b, .int .i64 q.c, .int .i64 q.d] (R9.refl g3 (g3 + 1) (w5.ext X)) (Nat.le_refl g3) (Nat.lt_succ_self g3)
      have hS3 := ho3X.setFrom (p := k * 5) [.int .i64 q.op, .int .i64 q.a, .int .i64 q.b, .int .i64 q.c, .int .i64 q.d] (by rw [HSZ.out]; simp; omega)
      rw [ao5 q (J1 c k) k (by rw [ag2]; exact hlt), ← HM2.out] at hS3
      have htt : ∀ g, g3 ≤ g → g < g3 + 1 → (Value.slice (some ⟨g3, 0, none⟩) c.list.length q3).ownBlock = some g := fun g e1 e2 => by rw [show g = g3 by omega]; rfl
      refine ⟨⟨k + 1, by omega, by go_num, hL1X.out hO (by omega), hL2X.out hO (by omega), hL3X.out hO (by omega), ho1X.disj hO htt HD.out.2.1.symm, ho2X.disj hO htt HD.out.2.2.symm, hS3, ?_⟩, by simp [intOf]; omega⟩
      exact R5 (g := g3) (p := k * 5) [.int .i64 q.op, .int .i64 q.a, .int .i64 q.b, .int .i64 q.c, .int .i64 q.d] hbX (by have := HN.out; omega)
  ·have hkn : k = c.list.length := by omega
   subst hkn
   have y0 := hL3.cell 0
   have y1 := hL3.cell 1
   have y2 := hL3.cell 2
   have z0 := hL2.cell 0
   have z1 := hL2.cell 1
   have z2 := hL2.cell 2
   simp only [List.getElem?_cons_zero, List.getElem?_cons_succ] at y0 y1 y2 z0 z1 z2
   have f0 := hL2.free 0
   have f1 := hL2.free 1
   have f2 := hL2.free 2
   go_wp2_with fail
   have hn' := HN.out
   have hT' := HT.out
   have L4 := ((hL2.set (j := 0) (.slice p1 c.vars.length q1)).set (j := 1) (.slice p2 c.arrays.length q2)).set (j := 2) (.slice p3 c.list.length q3)
   have hO : R9 (n + 1) (n + 1 + 1) wr (((wr.setCell ⟨n + 1, 0, none⟩ (.slice p1 c.vars.length q1)).setCell ⟨n + 1, 1, none⟩ (.slice p2 c.arrays.length q2)).setCell ⟨n + 1, 2, none⟩ (.slice p3 c.list.length q3)) :=
    (((R9.refl (n + 1) (n + 1 + 1) wr).setCell (p := ⟨n + 1, 0, none⟩) (Nat.le_refl _) (Nat.lt_succ_self _) _).setCell (p := ⟨n + 1, 1, none⟩) (Nat.le_refl _) (Nat.lt_succ_self _) _).setCell (p := ⟨n + 1, 2, none⟩) (Nat.le_refl _) (Nat.lt_succ_self _) _
   replace ho1 := ho1.out hO (.inr (Nat.le_refl _))
   replace ho2 := ho2.out hO (.inr (Nat.le_refl _))
   replace ho3 := ho3.out hO (.inr (Nat.le_refl _))
   rw [aG1] at ho3
   have hTs := hL3.lt
   have zF : (((wr.setCell ⟨n + 1, 0, none⟩ (.slice p1 c.vars.length q1)).setCell ⟨n + 1, 1, none⟩ (.slice p2 c.arrays.length q2)).setCell ⟨n + 1, 2, none⟩ (.slice p3 c.list.length q3)).heap.size = wr.heap.size := by simp
   have hll : (s4 c).list.length = c.list.length := by simp [s4]
   have BF := ((hb.setCell (p := ⟨n + 1, 0, none⟩) (by show w.heap.size ≤ n + 1; omega) (.slice p1 c.vars.length q1)).setCell (p := ⟨n + 1, 1, none⟩) (by show w.heap.size ≤ n + 1; omega) (.slice p2 c.arrays.length q2)).setCell (p := ⟨n + 1, 2, none⟩) (by show w.heap.size ≤ n + 1; omega) (.slice p3 c.list.length q3)
   have r0 := L4.cell 0
   have r1 := L4.cell 1
   have r2 := L4.cell 2
   simp only [List.getElem?_cons_zero, List.getElem?_cons_succ, List.set_cons_zero, List.set_cons_succ] at r0 r1 r2
   generalize ((wr.setCell ⟨n + 1, 0, none⟩ (.slice p1 c.vars.length q1)).setCell ⟨n + 1, 1, none⟩ (.slice p2 c.arrays.length q2)).setCell ⟨n + 1, 2, none⟩ (.slice p3 c.list.length q3) = WF at *
   refine bodyPost_ret (v := .agg #[.slice p1 c.vars.length q1, .slice p2 c.arrays.length q2, .slice p3 c.list.length q3]) (by simp [results, Try.results10, go_sem, r0, r1, r2]) rfl ⟨_, rfl, ⟨_, _, _, rfl, ho1.wide (by omega) (by omega), ho2.wide (by omega) (by omega), ?_, HD.out.1, HD.out.2.1, HD.out.2.2⟩, BF⟩
   rw [hll]
   exact ho3.wide (by omega) (by omega)
theorem az5 (v : Value) (c : f7) (x : d8) (w : World) (h : z9 w v c) :
  Calls Try.prog 28 #[v, x.v] w fun e w' => e = .returned (.bool (y5 c x)) ∧ Below w.heap.size w w' := by
 obtain ⟨v1, v2, v3, rfl, h1, h2, h3⟩ := h
 have HT : Hid (y5 c x = (decide (1 ≤ x.op) && decide (x.op ≤ 13) && Y1 c (b8 x.op) [x.a, x.b, x.c, x.d] 4)) := by
  unfold Hid y5; rw [aL7]
 by_cases hop : 1 ≤ x.op ∧ x.op ≤ 13
 ·obtain ⟨hop1, hop2⟩ := hop
  have hR : Hid (y5 c x = Y1 c (b8 x.op) [x.a, x.b, x.c, x.d] 4) := by
   unfold Hid; rw [HT.out, decide_eq_true hop1, decide_eq_true hop2]; rfl
  clear HT
  obtain ⟨W, hW⟩ : ∃ W, W = ((w.alloc (.cells #[v1, v2, v3] 26)).alloc (.cells #[.int .i64 x.op, .int .i64 x.a, .int .i64 x.b, .int .i64 x.c, .int .i64 x.d] 38)) := ⟨_, rfl⟩
  have B0 : Below w.heap.size w W := by rw [hW]; go_grown
  have L1 : y8 W w.heap.size [v1, v2, v3] := by rw [hW]; exact (y8.new w [v1, v2, v3] _).alloc _
  have L2 : y8 W (w.heap.size + 1) [.int .i64 x.op, .int .i64 x.a, .int .i64 x.b, .int .i64 x.c, .int .i64 x.d] := by rw [hW]; exact y8.new' (w.alloc _) [.int .i64 x.op, .int .i64 x.a, .int .i64 x.b, .int .i64 x.c, .int .i64 x.d] _ (by simp)
  go_enter Try.func28, Try.ntmps28
  go_wp2_with fail
  rw [← hW]
  clear hW
  refine (ac0 x.op W hop1 hop2).mono ?_
  rintro e w1 ⟨rfl, b1⟩
  replace L1 := L1.below b1 L1.lt
  replace L2 := L2.below b1 L2.lt
  have y0 := L2.cell 0
  have y1 := L2.cell 1
  have y2 := L2.cell 2
  have y3 := L2.cell 3
  have y4 := L2.cell 4
  simp at y0 y1 y2 y3 y4
  go_wp2_with fail
  refine (az4 x _).mono ?_
  rintro e w2 ⟨u, rfl, o2, b2⟩
  replace L1 := L1.below b2 L1.lt
  have B2 := (B0.trans (b1.mono B0.size)).trans (b2.mono (by have := B0.size; have := b1.size; omega))
  obtain ⟨g, cap, rfl, -, -, hg, -, -, -, hp⟩ := o2.open (by omega)
  have hkl := L0 x.op
  obtain ⟨kinds, hkinds⟩ : ∃ kinds, kinds = b8 x.op := ⟨_, rfl⟩
  obtain ⟨parts, hparts⟩ : ∃ parts, parts = [x.a, x.b, x.c, x.d] := ⟨_, rfl⟩
  rw [← hkinds] at hkl ⊢
  rw [← hkinds] at hR
  rw [← hparts] at hR hp
  have hpl : parts.length = 4 := by rw [hparts]; rfl
  clear hkinds hparts y0 y1 y2 y3 y4 L2 o2
  have HPL := show Hid _ from hpl
  clear hpl
  go_wp2_with fail
  go_loopw [7] (fun i wr => ∃ k : Nat, k ≤ 4 ∧ i = .int .i64 k ∧ Y1 c kinds parts k = true ∧ Below w2.heap.size w2 wr) (fun i _ => 4 - (intOf i).toNat)
  case atStart => exact ⟨0, by omega, rfl, rfl, Below.refl _ _⟩
  case round =>
   obtain ⟨k, hk, rfl, ha, hb⟩ := hrel
   have HA := show Hid _ from ha
   clear ha
   replace L1 := L1.below hb L1.lt
   by_cases hlt : k < 4
   ·have x0 := L1.cell 0
    have x1 := L1.cell 1
    have x2 := L1.cell 2
    simp only [List.getElem?_cons_zero, List.getElem?_cons_succ] at x0 x1 x2
    have z0 := fun X => f9 x0 X
    have z1 := fun X => f9 x1 X
    have z2 := fun X => f9 x2 X
    have hpk : k < parts.length := by rw [HPL.out]; exact hlt
    have p0 : wr.cell? ⟨g, k, none⟩ = some (.int .i64 parts[k]) := by
     rw [(K5 hb).1 _ _ hg]; exact hp k _ (by simp [hpk])
    have pX := fun X => f9 p0 X
    have HS := show Hid _ from aq9 c kinds parts k
    have hgd : parts.getD k 0 = parts[k] := by simp [hpk]
    have HG := show Hid _ from hgd
    have BW := B2.trans (hb.mono B2.size)
    clear x0 x1 x2 p0 hp hgd
    by_cases hkk : k < kinds.length
    ·have hpo : C3 c kinds k parts[k] = J7 c kinds[k] parts[k] := by simp [C3, hkk]
     have HPO := show Hid _ from hpo
     clear hpo
     have hd1 : decide (kinds.length ≤ k) = false := by simp; omega
     have hd2 : decide ((kinds.length : Int) ≤ (k : Int)) = false := by simp; omega
     cases hr : J7 c kinds[k] parts[k]
     all_goals
      have HR := show Hid _ from hr
      clear hr
      have HC : Hid (∀ X, Calls Try.prog 48 #[.agg #[v1, v2, v3], .int .u8 kinds[k].toNat, .int .i64 parts[k]] (wr.ext X) fun e w'' => e = .returned (.bool _) ∧ ∃ Y, w'' = wr.ext Y) :=
       fun X => Calls.ext_of' ((az3 v1 v2 v3 c kinds[k] parts[k] _ ((h1.below BW).below (l8 _ X)) ((h2.below BW).below (l8 _ X)) ((h3.below BW).below (l8 _ X))).mono fun e w' h => by rw [HR.out] at h; exact h)
      go_wp2_with fail
      refine o7 (by kernel_rfl) (by kernel_rfl) ?_
      repeat (any_goals (first | go_big_quiet_step ((go_at_call 48; exact HC.out _)) | quiet_step ((go_at_call 48; exact HC.out _))))
      refine wpQuiet_nil ?_
      rintro w' ⟨X, rfl⟩
      have hbX := hb.trans ((l8 wr X).mono hb.size)
      go_wp2_with fail
     ·go_ret
      exact ⟨f8 (by rw [hR.out, ar0 4 hlt (by rw [HG.out, HPO.out, HR.out])]), B2.trans (hbX.mono B2.size)⟩
     ·exact ⟨⟨k + 1, by omega, by go_num, by rw [HS.out, HA.out, HG.out, HPO.out, HR.out]; rfl, hbX⟩, by simp [intOf]; omega⟩
    ·have hpo : C3 c kinds k parts[k] = decide (parts[k] = 0) := by simp [C3, hkk]
     have HPO := show Hid _ from hpo
     clear hpo
     have hd1 : decide (kinds.length ≤ k) = true := by simp; omega
     have hd2 : decide ((kinds.length : Int) ≤ (k : Int)) = true := by simp; omega
     have hd3 : decide (k < kinds.length) = false := by simp; omega
     have hd4 : decide ((k : Int) < (kinds.length : Int)) = false := by simp; omega
     by_cases hz : parts[k] = 0
     ·have hz1 : (parts[k] != 0) = false := by simp [hz]
      have HZ := show Hid _ from hz
      clear hz
      go_wp2_with fail
      refine o7 (by kernel_rfl) (by kernel_rfl) ?_
      repeat (any_goals (first | go_big_quiet_step (fail) | quiet_step (fail)))
      refine wpQuiet_nil ?_
      rintro w' ⟨X, rfl⟩
      have hbX := hb.trans ((l8 wr X).mono hb.size)
      go_wp2_with fail
      exact ⟨⟨k + 1, by omega, by go_num, by rw [HS.out, HA.out, HG.out, HPO.out, HZ.out]; rfl, hbX⟩, by simp [intOf]; omega⟩
     ·have hz1 : (parts[k] != 0) = true := by simp [hz]
      have HZ := show Hid (¬ parts[k] = 0) from hz
      clear hz
      go_wp2_with fail
      refine o7 (by kernel_rfl) (by kernel_rfl) ?_
      repeat (any_goals (first | go_big_quiet_step (fail) | quiet_step (fail)))
      refine wpQuiet_nil ?_
      rintro w' ⟨X, rfl⟩
      have hbX := hb.trans ((l8 wr X).mono hb.size)
      go_wp2_with fail
      go_ret
      exact ⟨f8 (by rw [hR.out, ar0 4 hlt (by rw [HG.out, HPO.out, decide_eq_false HZ.out])]), B2.trans (hbX.mono B2.size)⟩
   ·go_wp2_with fail
    go_ret
    obtain rfl : k = 4 := by omega
    exact ⟨f8 (by rw [hR.out, HA.out]), B2.trans (hb.mono B2.size)⟩
 ·have hR : Hid (y5 c x = false) := by
   unfold Hid; rw [HT.out]
   rcases Classical.not_and_iff_not_or_not.1 hop with h | h
   ·rw [decide_eq_false h]; rfl
   ·rw [decide_eq_false h]; simp
  clear HT h1 h2 h3
  have hcase : x.op < 1 ∨ (¬ x.op < 1 ∧ 13 < x.op) := by omega
  clear hop
  rcases hcase with hop | ⟨hop, hop2⟩
  all_goals
   go_enter Try.func28, Try.ntmps28
   go_wp2_with fail
   go_ret
   exact ⟨f8 hR.out.symm, by go_grown⟩
theorem aq5 (v : Value) (c : f7) (w : World) (h : z9 w v c) :
  Calls Try.prog 11 #[v] w fun e w' => e = .returned (.bool (n9 c)) ∧ Below w.heap.size w w' := by
 have hrow := h
 obtain ⟨v1, v2, v3, rfl, h1, h2, h3⟩ := h
 have HT : Hid (n9 c = (A6 c.vars c.arrays && decide (1 ≤ c.list.length) && decide (c.list.length ≤ 400) && c.list.all (y5 c) && U1 c)) := rfl
 obtain ⟨W, hW⟩ : ∃ W, W = w.alloc (.cells #[v1, v2, v3] 26) := ⟨_, rfl⟩
 have B0 : Below w.heap.size w W := by rw [hW]; go_grown
 have L1 : y8 W w.heap.size [v1, v2, v3] := by rw [hW]; exact (y8.new w [v1, v2, v3] _)
 obtain ⟨a3, k3, rfl, hk3, hm3, -, hc3⟩ := h3.ins
 go_enter Try.func11, Try.ntmps11
 go_wp2_with fail
 rw [← hW]
 clear hW
 refine (az6 _ _ _ _ _ _ _ _ (h1.below B0) (h2.below B0)).mono ?_
 rintro e w1 ⟨rfl, b1⟩
 replace L1 := L1.below b1 L1.lt
 have B1 := B0.trans (b1.mono B0.size)
 go_wp2_with fail
 refine (af3 _ _ _ c.vars c.arrays _ (h1.below B1) (h2.below B1)).mono ?_
 rintro e w2 ⟨rfl, b2⟩
 replace L1 := L1.below b2 L1.lt
 have B2 := B1.trans (b2.mono B1.size)
 cases hh : A6 c.vars c.arrays
 ·have HH := show Hid _ from hh
  clear hh hc3
  go_wp2_with fail
  go_ret
  exact ⟨f8 (by rw [HT.out, HH.out]; rfl), B2⟩
 ·have HH := show Hid _ from hh
  clear hh
  by_cases hn : 1 ≤ c.list.length ∧ c.list.length ≤ 400
  ·obtain ⟨hn1, hn2⟩ := hn
   have x0 := L1.cell 0
   have x1 := L1.cell 1
   have x2 := L1.cell 2
   simp at x0 x1 x2
   go_wp2_with fail
   go_loopw [4] (fun i wr => ∃ k : Nat, k ≤ c.list.length ∧ i = .int .i64 k ∧ (c.list.take k).all (y5 c) = true ∧ Below w2.heap.size w2 wr) (fun i _ => c.list.length - (intOf i).toNat)
   case atStart => exact ⟨0, by omega, rfl, rfl, Below.refl _ _⟩
   case round =>
    obtain ⟨k, hk, rfl, ha, hb⟩ := hrel
    have HA := show Hid _ from ha
    clear ha x0 x1 x2
    replace L1 := L1.below hb L1.lt
    have BW := B2.trans (hb.mono B2.size)
    by_cases hlt : k < c.list.length
    ·obtain ⟨b, off, rfl, hb3, i0, i1, i2, i3, i4⟩ := hc3 k hlt
     rw [← (K5 BW).1 _ _ hb3] at i0 i1 i2 i3 i4
     have x0 := L1.cell 0
     have x1 := L1.cell 1
     have x2 := L1.cell 2
     simp only [List.getElem?_cons_zero, List.getElem?_cons_succ] at x0 x1 x2
     have z0 := fun X => f9 x0 X
     have z1 := fun X => f9 x1 X
     have z2 := fun X => f9 x2 X
     have j0 := fun X => f9 i0 X
     have j1 := fun X => f9 i1 X
     have j2 := fun X => f9 i2 X
     have j3 := fun X => f9 i3 X
     have j4 := fun X => f9 i4 X
     have HS := show Hid _ from R6 (y5 c) c.list k hlt
     clear x0 x1 x2 i0 i1 i2 i3 i4 hc3
     cases hi : y5 c c.list[k]
     all_goals
      have HI := show Hid _ from hi
      clear hi
      have HC : Hid (∀ X, Calls Try.prog 28 #[.agg #[v1, v2, .slice (some ⟨b, off, none⟩) c.list.length k3], c.list[k].v] (wr.ext X) fun e w'' => e = .returned (.bool _) ∧ ∃ Y, w'' = wr.ext Y) :=
       fun X => Calls.ext_of' ((az5 _ c c.list[k] _ ((hrow.below BW).below (l8 _ X))).mono fun e w' h => by rw [HI.out] at h; exact h)
      go_wp2_with fail
      refine o7 (by kernel_rfl) (by kernel_rfl) ?_
      repeat (any_goals (first | go_big_quiet_step ((go_at_call 28; exact HC.out _)) | quiet_step ((go_at_call 28; exact HC.out _))))
      refine wpQuiet_nil ?_
      rintro _ ⟨X, rfl⟩
      have hbX := hb.trans ((l8 wr X).mono hb.size)
      go_wp2_with fail
     ·go_ret
      exact ⟨f8 (by rw [HT.out, aA7 hlt HI.out]; simp), B2.trans (hbX.mono B2.size)⟩
     ·exact ⟨⟨k + 1, by omega, by go_num, by rw [HS.out, HA.out, HI.out]; rfl, hbX⟩, by simp [intOf]; omega⟩
    ·have hl : c.list.length - 1 < c.list.length := by omega
     obtain ⟨b, off, rfl, hb3, i0, i1, i2, i3, i4⟩ := hc3 _ hl
     rw [← (K5 BW).1 _ _ hb3] at i0
     have x2 := L1.cell 2
     simp only [List.getElem?_cons_zero, List.getElem?_cons_succ] at x2
     have ec : ((c.list.length : Int) - 1) = ((c.list.length - 1 : Nat) : Int) := by omega
     have EC := show Hid _ from ec
     have HL : Hid (U1 c = (decide (c.list[c.list.length - 1].op = 13) || decide (c.list[c.list.length - 1].op = 8))) := by
      unfold Hid U1
      rw [List.getLast?_eq_getElem?, List.getElem?_eq_getElem hl]
     clear hc3 ec i1 i2 i3 i4
     have HA' := show Hid (c.list.all (y5 c) = true) from by have := HA.out; rwa [List.take_of_length_le (by omega)] at this
     have hF : Hid (n9 c = (decide (c.list[c.list.length - 1].op = 13) || decide (c.list[c.list.length - 1].op = 8))) := by
      unfold Hid; rw [HT.out, HH.out, HA'.out, HL.out, decide_eq_true hn1, decide_eq_true hn2]; rfl
     go_wp2_with fail
     all_goals go_ret
     all_goals exact ⟨f8 (by rw [hF.out, Bool.eq_iff_iff]; simp_all), BW⟩
  ·have hF : Hid (n9 c = false) := by
    unfold Hid; rw [HT.out]
    rcases Classical.not_and_iff_not_or_not.1 hn with h | h
    ·rw [decide_eq_false h]; simp
    ·rw [decide_eq_false h]; simp
   have hcase : c.list.length < 1 ∨ (¬ c.list.length < 1 ∧ 400 < c.list.length) := by omega
   clear hn hc3 HT
   rcases hcase with hn | ⟨hn, hn2⟩
   all_goals
    go_wp2_with fail
    go_ret
    exact ⟨f8 hF.out.symm, B2⟩
theorem as7 (p : d8 → Bool) (f : FuncId) (q : Value) (v : Value) (xs : List d8) (w : World) (h : L6 w v xs) (he : ∀ args w, (callFunc f args).run Try.prog w = .ok (.enter f args) w)
  (hf : ∀ x w', Below w.heap.size w w' → Calls Try.prog f #[x.v, q] w' fun e w'' => e = .returned (.bool (p x)) ∧ Below w'.heap.size w' w'') :
  Calls Try.prog 39 #[v, .func (.func f) #[] #[q]] w fun e w' => ∃ r : Int, e = .returned (.int .i64 r) ∧ decide (0 ≤ r) = xs.any p ∧ Below w.heap.size w w' := by
 obtain ⟨a1, c1, rfl, -, hm1, -, hc1⟩ := h.ins
 have HF := show Hid _ from hf
 clear h hf
 go_enter Try.func39, Try.ntmps39
 go_wp2_with fail
 go_loopw [5, 8] (fun _ i wr => ∃ k : Nat, k ≤ xs.length ∧ i = .int .i64 k ∧ (xs.take k).any p = false ∧ Below w.heap.size w wr) (fun _ i _ => xs.length - (intOf i).toNat)
 case atStart => exact ⟨0, Nat.zero_le _, rfl, rfl, Below.refl _ _⟩
 case round =>
  obtain ⟨k, hk, rfl, ha, hb⟩ := hrel
  have HA := show Hid _ from ha
  clear ha
  by_cases hlt : k < xs.length
  ·obtain ⟨b1, o1, rfl, hb1, i0, i1, i2, i3, i4⟩ := hc1 k hlt
   rw [← (K5 hb).1 _ _ hb1] at i0 i1 i2 i3 i4
   clear hc1
   cases hp : p xs[k]
   all_goals
    have HP := show Hid _ from hp
    clear hp
    go_wp2_with fail
    refine (HF.out xs[k] _ hb).mono ?_
    rintro e w1 ⟨rfl, hb2⟩
    rw [HP.out]
    go_wp2_with fail
   ·go_roundw
    case rel => exact ⟨k + 1, by omega, by go_num, by rw [t6 _ _ hlt, List.any_append, HA.out]; simp [HP.out], hb.trans (hb2.mono hb.size)⟩
    case measure => simp [intOf]; omega
   ·go_ret
    exact ⟨_, rfl, by rw [decide_eq_true (by omega)]; symm; rw [List.any_eq_true]; exact ⟨_, List.getElem_mem hlt, HP.out⟩, hb.trans (hb2.mono hb.size)⟩
  ·go_wp2_with fail
   go_ret
   refine ⟨_, rfl, ?_, hb⟩
   have := HA.out
   rw [List.take_of_length_le (by omega)] at this
   rw [this]; rfl
theorem ag7 (p : d8 → Bool) (f : FuncId) (q : Value) (v : Value) (xs : List d8) (w : World) (h : L6 w v xs) (he : ∀ args w, (callFunc f args).run Try.prog w = .ok (.enter f args) w)
  (hf : ∀ x w', Below w.heap.size w w' → Calls Try.prog f #[x.v, q] w' fun e w'' => e = .returned (.bool (p x)) ∧ Below w'.heap.size w' w'') :
  Calls Try.prog 20 #[v, .func (.func f) #[] #[q]] w fun e w' => e = .returned (.bool (xs.any p)) ∧ Below w.heap.size w w' := by
 obtain ⟨a1, c1, rfl, -⟩ := h.open
 have HF := show Hid _ from hf
 have HE := show Hid _ from he
 clear hf he
 go_enter Try.func20, Try.ntmps20
 go_wp2_with fail
 refine (as7 p f q _ xs _ h HE.out HF.out).mono ?_
 rintro e w1 ⟨r, rfl, hr, hb⟩
 have HR := show Hid _ from hr
 clear hr
 go_wp2_with fail
 go_ret
 exact ⟨f8 HR.out, hb⟩
theorem aN1 (op : Int) (w : World) :
  Calls Try.prog 40 #[.int .i64 op] w fun e w' => e = .returned (.string ⟨(I1 op).toArray⟩) ∧ Below w.heap.size w w' := by
 by_cases h : 1 ≤ op ∧ op ≤ 13
 ·obtain ⟨h1, h2⟩ := h
  have h : op = 1 ∨ op = 2 ∨ op = 3 ∨ op = 4 ∨ op = 5 ∨ op = 6 ∨ op = 7 ∨ op = 8 ∨ op = 9 ∨ op = 10 ∨ op = 11 ∨ op = 12 ∨ op = 13 := by omega
  clear h1 h2
  rcases h with rfl | rfl | rfl | rfl | rfl | rfl | rfl | rfl | rfl | rfl | rfl | rfl | rfl
  all_goals
   go_enter Try.func40, Try.ntmps40
   go_wp2_with fail
   refine (C0 _ 1 13 _).mono ?_
   rintro e w1 ⟨rfl, rfl⟩
   go_wp2_with fail
   go_ret
   exact ⟨by simp [I1], by go_grown⟩
 ·have hF : Hid (I1 op = []) := aw6 h
  have hb : (decide ((1 : Int) ≤ op) && decide (op ≤ 13)) = false := by
   rw [Bool.eq_false_iff]; simp only [ne_eq, Bool.and_eq_true, decide_eq_true_eq]; exact h
  have HB := show Hid _ from hb
  clear h hb
  go_enter Try.func40, Try.ntmps40
  go_wp2_with fail
  refine (C0 _ 1 13 _).mono ?_
  rintro e w1 ⟨rfl, rfl⟩
  rw [HB.out]
  go_wp2_with fail
  go_ret
  exact ⟨by rw [hF.out]; rfl, Below.refl _ _⟩
theorem aG9 (x : d8) (w : World) :
  Calls Try.prog 41 #[x.v] w fun e w' => ∃ u, e = .returned u ∧ I5 w' w.heap.size w'.heap.size 3 1 u 4 (ints [x.a, x.b, x.c, x.d]) ∧ Below w.heap.size w w' := by
 obtain ⟨x0, x1, x2, x3, x4⟩ := x
 go_enter Try.func41, Try.ntmps41
 go_wp2_with fail
 go_ret
 refine ⟨_, rfl, (E1 _ #[.int .i64 x1, .int .i64 x2, .int .i64 x3, .int .i64 x4] 4 1 _ (by simp) rfl (by omega)).wide (by simp) (by simp), by go_grown⟩
theorem aB6 (v1 v2 v3 : Value) (c : f7) (kd : UInt8) (n : Int) (w : World) (h1 : H8 w v1 c.vars.length 1 (ints c.vars)) (h2 : H8 w v2 c.arrays.length 1 (ints c.arrays)) (h3 : L6 w v3 c.list) :
  Calls Try.prog 42 #[.agg #[v1, v2, v3], .int .u8 kd.toNat, .int .i64 n] w fun e w' => e = .returned (.bool (F5 c kd n)) ∧ Below w.heap.size w w' := by
 obtain ⟨a1, k1, rfl, -, q1, -, -⟩ := h1.open1
 obtain ⟨a2, k2, rfl, -, q2, -, -⟩ := h2.open1
 obtain ⟨a3, k3, rfl, -, q3, -, -⟩ := h3.open
 have hk : kd.toNat < 256 := kd.toNat_lt
 have HK : Hid (∀ m : UInt8, (kd = m) = ((kd.toNat : Int) = (m.toNat : Int))) := fun m => by
  rw [eq_iff_iff]
  constructor
  ·rintro rfl; rfl
  ·intro h; exact UInt8.toNat_inj.1 (by omega)
 clear h1 h2 h3
 obtain ⟨z, hz⟩ : ∃ z, z = kd.toNat := ⟨_, rfl⟩
 rw [← hz] at hk ⊢
 have HZ := show Hid _ from hz
 clear hz
 go_enter Try.func42, Try.ntmps42
 go_wp2_with (go_at_call 19; refine (C0 _ _ _ _).mono ?_; rintro e w1 ⟨rfl, rfl⟩)
 all_goals go_ret
 all_goals refine ⟨f8 ?_, by go_grown⟩
 all_goals unfold F5
 all_goals simp only [HK.out, ← HZ.out, show (UInt8.toNat 114) = 114 from rfl, show (UInt8.toNat 110) = 110 from rfl, show (UInt8.toNat 118) = 118 from rfl, show (UInt8.toNat 97) = 97 from rfl, show (UInt8.toNat 111) = 111 from rfl, show (UInt8.toNat 105) = 105 from rfl]
 all_goals clear HK HZ hk q1 q2 q3
 all_goals simp_all
 all_goals (rw [Bool.eq_iff_iff]; simp)
theorem aB5 (v : Value) (c : f7) (x : d8) (w : World) (h : z9 w v c) :
  Calls Try.prog 22 #[v, x.v] w fun e w' => e = .returned (.bool (y5 c x)) ∧ Below w.heap.size w w' := by
 obtain ⟨v1, v2, v3, rfl, h1, h2, h3⟩ := h
 obtain ⟨W, hW⟩ : ∃ W, W = ((w.alloc (.cells #[v1, v2, v3] 26)).alloc (.cells #[.int .i64 x.op, .int .i64 x.a, .int .i64 x.b, .int .i64 x.c, .int .i64 x.d] 38)) := ⟨_, rfl⟩
 have B0 : Below w.heap.size w W := by rw [hW]; go_grown
 have L1 : y8 W w.heap.size [v1, v2, v3] := by rw [hW]; exact (y8.new w [v1, v2, v3] _).alloc _
 have L2 : y8 W (w.heap.size + 1) [.int .i64 x.op, .int .i64 x.a, .int .i64 x.b, .int .i64 x.c, .int .i64 x.d] := by rw [hW]; exact y8.new' (w.alloc _) [.int .i64 x.op, .int .i64 x.a, .int .i64 x.b, .int .i64 x.c, .int .i64 x.d] _ (by simp)
 go_enter Try.func22, Try.ntmps22
 go_wp2_with fail
 rw [← hW]
 clear hW
 refine (aN1 x.op W).mono ?_
 rintro e w1 ⟨rfl, b1⟩
 replace L1 := L1.below b1 L1.lt
 replace L2 := L2.below b1 L2.lt
 have y0 := L2.cell 0
 have y1 := L2.cell 1
 have y2 := L2.cell 2
 have y3 := L2.cell 3
 have y4 := L2.cell 4
 simp at y0 y1 y2 y3 y4
 go_wp2_with fail
 refine (aG9 x _).mono ?_
 rintro e w2 ⟨u, rfl, o2, b2⟩
 replace L1 := L1.below b2 L1.lt
 have B2 := (B0.trans (b1.mono B0.size)).trans (b2.mono (by have := B0.size; have := b1.size; omega))
 obtain ⟨g, cap, rfl, -, -, hg, -, -, -, hp⟩ := o2.open (by omega)
 clear y0 y1 y2 y3 y4 L2 o2
 by_cases hop : 1 ≤ x.op ∧ x.op ≤ 13
 ·have hR : Hid (y5 c x = ar1 c (I1 x.op) [x.a, x.b, x.c, x.d] 4) := aN0 c x hop
  have hkl := a82 hop
  obtain ⟨kinds, hkinds⟩ : ∃ kinds, kinds = I1 x.op := ⟨_, rfl⟩
  obtain ⟨parts, hparts⟩ : ∃ parts, parts = [x.a, x.b, x.c, x.d] := ⟨_, rfl⟩
  rw [← hkinds] at hkl ⊢
  rw [← hkinds] at hR
  rw [← hparts] at hR hp
  have hpl : parts.length = 4 := by rw [hparts]; rfl
  clear hkinds hparts hop
  have HPL := show Hid _ from hpl
  clear hpl
  have hne : kinds.isEmpty = false := by
   rw [List.isEmpty_eq_false_iff]; intro h; rw [h] at hkl; simp at hkl
  go_wp2_with fail
  go_loopw [14] (fun i wr => ∃ k : Nat, k ≤ 4 ∧ i = .int .i64 k ∧ ar1 c kinds parts k = true ∧ Below w2.heap.size w2 wr) (fun i _ => 4 - (intOf i).toNat)
  case atStart => exact ⟨0, by omega, rfl, rfl, Below.refl _ _⟩
  case round =>
   obtain ⟨k, hk, rfl, ha, hb⟩ := hrel
   have HA := show Hid _ from ha
   clear ha
   replace L1 := L1.below hb L1.lt
   by_cases hlt : k < 4
   ·have x0 := L1.cell 0
    have x1 := L1.cell 1
    have x2 := L1.cell 2
    simp only [List.getElem?_cons_zero, List.getElem?_cons_succ] at x0 x1 x2
    have z0 := fun X => f9 x0 X
    have z1 := fun X => f9 x1 X
    have z2 := fun X => f9 x2 X
    have hpk : k < parts.length := by rw [HPL.out]; exact hlt
    have p0 : wr.cell? ⟨g, k, none⟩ = some (.int .i64 parts[k]) := by
     rw [(K5 hb).1 _ _ hg]; exact hp k _ (by simp [hpk])
    have hkk : k < kinds.length := by rw [hkl]; exact hlt
    have HS := show Hid _ from ax4 c kinds parts k
    have HG := show Hid (parts.getD k 0 = parts[k]) from by simp [Hid, hpk]
    have HKD := show Hid (kinds.getD k 0 = kinds[k]) from by simp [Hid, hkk]
    have BW := B2.trans (hb.mono B2.size)
    clear x0 x1 x2 hp
    cases hr : F5 c kinds[k] parts[k]
    all_goals
     have HR := show Hid _ from hr
     clear hr
     have HC : Hid (∀ X, Calls Try.prog 42 #[.agg #[v1, v2, v3], .int .u8 kinds[k].toNat, .int .i64 parts[k]] (wr.ext X) fun e w'' => e = .returned (.bool _) ∧ ∃ Y, w'' = wr.ext Y) :=
      fun X => Calls.ext_of' ((aB6 v1 v2 v3 c kinds[k] parts[k] _ ((h1.below BW).below (l8 _ X)) ((h2.below BW).below (l8 _ X)) ((h3.below BW).below (l8 _ X))).mono fun e w' h => by rw [HR.out] at h; exact h)
     go_wp2_with fail
     refine o7 (by kernel_rfl) (by kernel_rfl) ?_
     repeat (any_goals (first | go_big_quiet_step ((go_at_call 42; exact HC.out _)) | quiet_step ((go_at_call 42; exact HC.out _))))
     refine wpQuiet_nil ?_
     rintro _ ⟨X, rfl⟩
     have hbX := hb.trans ((l8 wr X).mono hb.size)
     go_wp2_with fail
    ·go_ret
     exact ⟨f8 (by rw [hR.out, aT4 4 hlt (by rw [HG.out, HKD.out, HR.out])]), B2.trans (hbX.mono B2.size)⟩
    ·exact ⟨⟨k + 1, by omega, by go_num, by rw [HS.out, HA.out, HG.out, HKD.out, HR.out]; rfl, hbX⟩, by simp [intOf]; omega⟩
   ·go_wp2_with fail
    go_ret
    obtain rfl : k = 4 := by omega
    exact ⟨f8 (by rw [hR.out, HA.out]), B2.trans (hb.mono B2.size)⟩
 ·have hR : Hid (y5 c x = false) := by
   unfold Hid y5
   rcases Classical.not_and_iff_not_or_not.1 hop with h | h
   ·rw [decide_eq_false h]; rfl
   ·rw [decide_eq_false h]; simp
  rw [aw6 hop]
  have p0 := hp 0 (.int .i64 x.a) (by simp)
  clear hop hp h1 h2 h3
  go_wp2_with fail
  go_loopw [14] (fun i wr => i = .int .i64 0 ∧ w2 = wr) (fun i _ => 0)
  case atStart => exact ⟨rfl, rfl⟩
  case round =>
   obtain ⟨rfl, rfl⟩ := hrel
   go_wp2_with fail
   refine o7 (by kernel_rfl) (by kernel_rfl) ?_
   repeat (any_goals (first | go_big_quiet_step ((fail)) | quiet_step ((fail))))
   refine wpQuiet_nil ?_
   rintro _ ⟨X, rfl⟩
   have hbX := B2.trans ((l8 w2 X).mono B2.size)
   go_wp2_with fail
   go_ret
   exact ⟨f8 hR.out.symm, hbX⟩
theorem an6 (v : Value) (c : f7) (x : d8) (b : Nat) (v1 v2 v3 : Value) (w : World) (hv : v = .agg #[v1, v2, v3]) (h : z9 w v c) (hb : y8 w b [v1, v2, v3]) :
  Calls Try.prog 21 #[x.v, .pointer (some ⟨b, 0, none⟩)] w fun e w' => e = .returned (.bool (!y5 c x)) ∧ Below w.heap.size w w' := by
 subst hv
 obtain ⟨W, hW⟩ : ∃ W, W = (w.alloc (.cells #[.int .i64 x.op, .int .i64 x.a, .int .i64 x.b, .int .i64 x.c, .int .i64 x.d] 38)) := ⟨_, rfl⟩
 have B0 : Below w.heap.size w W := by rw [hW]; go_grown
 have L1 : y8 W b [v1, v2, v3] := hb.below B0 hb.lt
 have L2 : y8 W w.heap.size [.int .i64 x.op, .int .i64 x.a, .int .i64 x.b, .int .i64 x.c, .int .i64 x.d] := by rw [hW]; exact y8.new w [.int .i64 x.op, .int .i64 x.a, .int .i64 x.b, .int .i64 x.c, .int .i64 x.d] _
 have x0 := L1.cell 0
 have x1 := L1.cell 1
 have x2 := L1.cell 2
 have y0 := L2.cell 0
 have y1 := L2.cell 1
 have y2 := L2.cell 2
 have y3 := L2.cell 3
 have y4 := L2.cell 4
 simp at x0 x1 x2 y0 y1 y2 y3 y4
 rw [hW] at x0 x1 x2 y0 y1 y2 y3 y4
 go_enter Try.func21, Try.ntmps21
 go_wp2_with fail
 rw [← hW]
 refine (aB5 _ c x _ (h.below B0)).mono ?_
 rintro e w1 ⟨rfl, b1⟩
 clear x0 x1 x2 y0 y1 y2 y3 y4 hW
 go_wp2_with fail
 go_ret
 exact ⟨rfl, B0.trans (b1.mono B0.size)⟩
theorem aO8 (xs : List d8) (c : f7) : (xs.any fun l => !y5 c l) = !xs.all (y5 c) := by
 induction xs with
 | nil => rfl
 | cons x r ih => simp only [List.any_cons, List.all_cons, ih]; cases y5 c x <;> simp
theorem as8 (v : Value) (c : f7) (w : World) (h : z9 w v c) :
  Calls Try.prog 9 #[v] w fun e w' => e = .returned (.bool (n9 c)) ∧ Below w.heap.size w w' := by
 have hrow := h
 obtain ⟨v1, v2, v3, rfl, h1, h2, h3⟩ := h
 have HT : Hid (n9 c = (A6 c.vars c.arrays && decide (1 ≤ c.list.length) && decide (c.list.length ≤ 400) && c.list.all (y5 c) && U1 c)) := rfl
 obtain ⟨W, hW⟩ : ∃ W, W = w.alloc (.cells #[v1, v2, v3] 26) := ⟨_, rfl⟩
 have B0 : Below w.heap.size w W := by rw [hW]; go_grown
 have L1 : y8 W w.heap.size [v1, v2, v3] := by rw [hW]; exact (y8.new w [v1, v2, v3] _)
 have hmf : ∀ fn first cap w, (Instr.makeFunc fn first cap).run Try.prog w = .ok (.func fn first cap) w := fun _ _ _ _ => rfl
 obtain ⟨a3, k3, rfl, hk3, hm3, -, hc3⟩ := h3.ins
 have x0 := L1.cell 0
 have x1 := L1.cell 1
 have x2 := L1.cell 2
 simp at x0 x1 x2
 rw [hW] at x0 x1 x2
 go_enter Try.func9, Try.ntmps9
 go_wp2_with fail
 rw [← hW] at x0 x1 x2 ⊢
 clear hW
 refine (av4 _ _ c.vars c.arrays _ (h1.below B0) (h2.below B0)).mono ?_
 rintro e w1 ⟨rfl, rfl⟩
 cases hh : A6 c.vars c.arrays
 ·have HH := show Hid _ from hh
  clear hh hc3
  go_wp2_with fail
  go_ret
  exact ⟨f8 (by rw [HT.out, HH.out]; rfl), B0⟩
 ·have HH := show Hid _ from hh
  clear hh
  go_wp2_with fail
  refine (C0 _ 1 400 _).mono ?_
  rintro e w1 ⟨rfl, rfl⟩
  by_cases hn : (1 : Int) ≤ (c.list.length : Int) ∧ (c.list.length : Int) ≤ 400
  ·have hn' : (decide ((1 : Int) ≤ (c.list.length : Int)) && decide ((c.list.length : Int) ≤ 400)) = true := by simpa using hn
   have HN := show Hid _ from hn
   rw [hn']
   clear hn hn'
   go_wp2_with fail
   refine (ag7 (fun l => !y5 c l) 21 _ _ c.list _ (h3.below B0) (aj4 Try.func21 (by kernel_rfl) rfl) (fun x w' hb => an6 _ c x _ _ _ _ w' rfl ((hrow.below B0).below hb) (L1.below hb L1.lt))).mono ?_
   rintro e w1 ⟨rfl, b1⟩
   rw [aO8]
   have BW := B0.trans (b1.mono B0.size)
   replace L1 := L1.below b1 L1.lt
   clear x0 x1 x2
   cases ha : c.list.all (y5 c)
   ·have HA := show Hid _ from ha
    clear ha hc3
    go_wp2_with fail
    go_ret
    exact ⟨f8 (by rw [HT.out, HA.out]; simp), BW⟩
   ·have HA := show Hid _ from ha
    clear ha
    have hl : c.list.length - 1 < c.list.length := by have := HN.out; omega
    obtain ⟨b, off, rfl, hb3, i0, i1, i2, i3, i4⟩ := hc3 _ hl
    rw [← (K5 BW).1 _ _ hb3] at i0
    have x2 := L1.cell 2
    simp only [List.getElem?_cons_zero, List.getElem?_cons_succ] at x2
    have hn1 : 1 ≤ c.list.length := by omega
    have hn2 : c.list.length ≤ 400 := by have := HN.out; omega
    have HL : Hid (U1 c = (decide (c.list[c.list.length - 1].op = 13) || decide (c.list[c.list.length - 1].op = 8))) := by
     unfold Hid U1
     rw [List.getLast?_eq_getElem?, List.getElem?_eq_getElem hl]
    clear hc3 i1 i2 i3 i4
    have hF : Hid (n9 c = (decide (c.list[c.list.length - 1].op = 13) || decide (c.list[c.list.length - 1].op = 8))) := by
     unfold Hid; rw [HT.out, HH.out, HA.out, HL.out, decide_eq_true hn1, decide_eq_true hn2]; rfl
    go_wp2_with fail
    all_goals go_ret
    all_goals exact ⟨f8 (by rw [hF.out, Bool.eq_iff_iff]; simp_all), BW⟩
  ·have hn' : (decide ((1 : Int) ≤ (c.list.length : Int)) && decide ((c.list.length : Int) ≤ 400)) = false := by
    rw [Bool.eq_false_iff]; simp only [ne_eq, Bool.and_eq_true, decide_eq_true_eq]; exact hn
   have hF : Hid (n9 c = false) := by
    unfold Hid; rw [HT.out]
    rcases Classical.not_and_iff_not_or_not.1 hn with h | h
    ·rw [decide_eq_false (show ¬ 1 ≤ c.list.length by omega)]; simp
    ·rw [decide_eq_false (show ¬ c.list.length ≤ 400 by omega)]; simp
   rw [hn']
   clear hn hn' hc3
   go_wp2_with fail
   go_ret
   exact ⟨f8 hF.out.symm, B0⟩
def B3 (c : f7) : f7 := if n9 c = true then s4 c else ⟨[], [], []⟩
theorem ax8 (w : World) (lo hi : Nat) : y6 w lo hi (.agg #[.slice none 0 0, .slice none 0 0, .slice none 0 0]) ⟨[], [], []⟩ :=
 ⟨_, _, _, rfl, ⟨World.ownsRow_nil _ _ _ _, (fun g hg => by cases hg)⟩, ⟨World.ownsRow_nil _ _ _ _, (fun g hg => by cases hg)⟩, ⟨World.ownsRow_nil _ _ _ _, (fun g hg => by cases hg)⟩, (fun g hg => by cases hg), (fun g hg => by cases hg), (fun g hg => by cases hg)⟩
theorem ai7 (v : Value) (c : f7) (w : World) (h : z9 w v c) :
  Calls Try.prog 6 #[v] w fun e w' => ∃ u, e = .returned (.tuple #[u, .bool (n9 c)]) ∧ y6 w' w.heap.size w'.heap.size u (B3 c) ∧ Below w.heap.size w w' := by
 have hrow := h
 obtain ⟨v1, v2, v3, rfl, h1, h2, h3⟩ := h
 obtain ⟨n, hn⟩ : ∃ n, n = w.heap.size := ⟨_, rfl⟩
 obtain ⟨W, hW⟩ : ∃ W, W = (w.alloc (.cells #[v1, v2, v3] 26)).alloc (.cells #[.slice none 0 0, .slice none 0 0, .slice none 0 0] 26) := ⟨_, rfl⟩
 have B0 : Below w.heap.size w W := by rw [hW]; go_grown
 have sW : W.heap.size = n + 1 + 1 := by rw [hW, hn]; simp
 have L1 : y8 W n [v1, v2, v3] := by rw [hW, hn]; exact (y8.new w [v1, v2, v3] _).alloc _
 have L2 : y8 W (n + 1) [.slice none 0 0, .slice none 0 0, .slice none 0 0] := by rw [hW, hn]; exact y8.new' (w.alloc _) [.slice none 0 0, .slice none 0 0, .slice none 0 0] _ (by simp)
 have HT : Hid (B3 c = if n9 c = true then s4 c else ⟨[], [], []⟩) := rfl
 have x0 := L1.cell 0
 have x1 := L1.cell 1
 have x2 := L1.cell 2
 simp only [List.getElem?_cons_zero, List.getElem?_cons_succ] at x0 x1 x2
 rw [hW, hn] at x0 x1 x2
 go_enter Try.func6, Try.ntmps6
 go_wp2_with fail
 rw [← hW, ← hn]
 clear hW x0 x1 x2
 refine (aq5 _ c _ (hrow.below B0)).mono ?_
 rintro e w1 ⟨rfl, b1⟩
 replace L1 := L1.below b1 L1.lt
 replace L2 := L2.below b1 L2.lt
 have B1 := B0.trans (b1.mono B0.size)
 have s1 := b1.size
 have HN := show Hid (n = w.heap.size) from hn
 clear b1 B0 hn
 have x0 := L1.cell 0
 have x1 := L1.cell 1
 have x2 := L1.cell 2
 simp only [List.getElem?_cons_zero, List.getElem?_cons_succ] at x0 x1 x2
 cases hc : n9 c
 ·have HC := show Hid (B3 c = ⟨[], [], []⟩) from by unfold Hid; rw [HT.out, hc]; simp
  have z0 := L2.cell 0
  have z1 := L2.cell 1
  have z2 := L2.cell 2
  simp only [List.getElem?_cons_zero, List.getElem?_cons_succ] at z0 z1 z2
  have f0 := L2.free 0
  have f1 := L2.free 1
  have f2 := L2.free 2
  have HO := show Hid _ from hc
  clear hc
  go_wp2_with fail
  have hn := HN.out
  have L3 := ((L2.set (j := 0) (.slice none 0 0)).set (j := 1) (.slice none 0 0)).set (j := 2) (.slice none 0 0)
  have BF := ((B1.setCell (p := ⟨n + 1, 0, none⟩) (by show w.heap.size ≤ n + 1; omega) (.slice none 0 0)).setCell (p := ⟨n + 1, 1, none⟩) (by show w.heap.size ≤ n + 1; omega) (.slice none 0 0)).setCell (p := ⟨n + 1, 2, none⟩) (by show w.heap.size ≤ n + 1; omega) (.slice none 0 0)
  have r0 := L3.cell 0
  have r1 := L3.cell 1
  have r2 := L3.cell 2
  simp only [List.getElem?_cons_zero, List.getElem?_cons_succ, List.set_cons_zero, List.set_cons_succ] at r0 r1 r2
  generalize ((w1.setCell ⟨n + 1, 0, none⟩ (.slice none 0 0)).setCell ⟨n + 1, 1, none⟩ (.slice none 0 0)).setCell ⟨n + 1, 2, none⟩ (.slice none 0 0) = WF at *
  exact bodyPost_ret (v := .tuple #[.agg #[.slice none 0 0, .slice none 0 0, .slice none 0 0], .bool false]) (by simp [results, Try.results6, go_sem, r0, r1, r2]) rfl ⟨_, by rw [HO.out], by rw [HC.out]; exact ax8 _ _ _, BF⟩
 ·have HC := show Hid (B3 c = s4 c) from by unfold Hid; rw [HT.out, hc]; simp
  have HO := show Hid _ from hc
  clear hc
  go_wp2_with fail
  refine (au7 _ c HO.out _ (hrow.below B1)).mono ?_
  rintro e w2 ⟨u, rfl, ou, b2⟩
  obtain ⟨y1, y2, y3, rfl, -⟩ := id ou
  obtain ⟨p1, q1, p2, q2, p3, q3, rfl, rfl, rfl⟩ := Code.rowOf ou
  have B2 := B1.trans (b2.mono B1.size)
  replace L2 := L2.below b2 L2.lt
  have s2 := b2.size
  clear x0 x1 x2
  have z0 := L2.cell 0
  have z1 := L2.cell 1
  have z2 := L2.cell 2
  simp only [List.getElem?_cons_zero, List.getElem?_cons_succ] at z0 z1 z2
  have f0 := L2.free 0
  have f1 := L2.free 1
  have f2 := L2.free 2
  go_wp2_with fail
  have hn := HN.out
  have L3 := ((L2.set (j := 0) (.slice p1 (s4 c).vars.length q1)).set (j := 1) (.slice p2 (s4 c).arrays.length q2)).set (j := 2) (.slice p3 (s4 c).list.length q3)
  have hO : R9 (n + 1) (n + 1 + 1) w2 (((w2.setCell ⟨n + 1, 0, none⟩ (.slice p1 (s4 c).vars.length q1)).setCell ⟨n + 1, 1, none⟩ (.slice p2 (s4 c).arrays.length q2)).setCell ⟨n + 1, 2, none⟩ (.slice p3 (s4 c).list.length q3)) :=
   (((R9.refl (n + 1) (n + 1 + 1) w2).setCell (p := ⟨n + 1, 0, none⟩) (Nat.le_refl _) (Nat.lt_succ_self _) _).setCell (p := ⟨n + 1, 1, none⟩) (Nat.le_refl _) (Nat.lt_succ_self _) _).setCell (p := ⟨n + 1, 2, none⟩) (Nat.le_refl _) (Nat.lt_succ_self _) _
  have oF := ou.out hO (.inr (by omega))
  have zF : (((w2.setCell ⟨n + 1, 0, none⟩ (.slice p1 (s4 c).vars.length q1)).setCell ⟨n + 1, 1, none⟩ (.slice p2 (s4 c).arrays.length q2)).setCell ⟨n + 1, 2, none⟩ (.slice p3 (s4 c).list.length q3)).heap.size = w2.heap.size := by simp
  have BF := ((B2.setCell (p := ⟨n + 1, 0, none⟩) (by show w.heap.size ≤ n + 1; omega) (.slice p1 (s4 c).vars.length q1)).setCell (p := ⟨n + 1, 1, none⟩) (by show w.heap.size ≤ n + 1; omega) (.slice p2 (s4 c).arrays.length q2)).setCell (p := ⟨n + 1, 2, none⟩) (by show w.heap.size ≤ n + 1; omega) (.slice p3 (s4 c).list.length q3)
  have r0 := L3.cell 0
  have r1 := L3.cell 1
  have r2 := L3.cell 2
  simp only [List.getElem?_cons_zero, List.getElem?_cons_succ, List.set_cons_zero, List.set_cons_succ] at r0 r1 r2
  generalize ((w2.setCell ⟨n + 1, 0, none⟩ (.slice p1 (s4 c).vars.length q1)).setCell ⟨n + 1, 1, none⟩ (.slice p2 (s4 c).arrays.length q2)).setCell ⟨n + 1, 2, none⟩ (.slice p3 (s4 c).list.length q3) = WF at *
  exact bodyPost_ret (v := .tuple #[.agg #[.slice p1 (s4 c).vars.length q1, .slice p2 (s4 c).arrays.length q2, .slice p3 (s4 c).list.length q3], .bool true]) (by simp [results, Try.results6, go_sem, r0, r1, r2]) rfl ⟨_, by rw [HO.out], by rw [HC.out]; exact oF.wide (by omega) (by omega), BF⟩
theorem aj2 (v : Value) (c : f7) (w : World) (h : z9 w v c) :
  Calls Try.prog 5 #[v] w fun e w' => ∃ u, e = .returned (.tuple #[u, .bool (n9 c)]) ∧ y6 w' w.heap.size w'.heap.size u (B3 c) ∧ Below w.heap.size w w' := by
 have hrow := h
 obtain ⟨v1, v2, v3, rfl, h1, h2, h3⟩ := h
 obtain ⟨n, hn⟩ : ∃ n, n = w.heap.size := ⟨_, rfl⟩
 obtain ⟨W, hW⟩ : ∃ W, W = (w.alloc (.cells #[v1, v2, v3] 26)).alloc (.cells #[.slice none 0 0, .slice none 0 0, .slice none 0 0] 26) := ⟨_, rfl⟩
 have B0 : Below w.heap.size w W := by rw [hW]; go_grown
 have sW : W.heap.size = n + 1 + 1 := by rw [hW, hn]; simp
 have L1 : y8 W n [v1, v2, v3] := by rw [hW, hn]; exact (y8.new w [v1, v2, v3] _).alloc _
 have L2 : y8 W (n + 1) [.slice none 0 0, .slice none 0 0, .slice none 0 0] := by rw [hW, hn]; exact y8.new' (w.alloc _) [.slice none 0 0, .slice none 0 0, .slice none 0 0] _ (by simp)
 have HT : Hid (B3 c = if n9 c = true then s4 c else ⟨[], [], []⟩) := rfl
 have x0 := L1.cell 0
 have x1 := L1.cell 1
 have x2 := L1.cell 2
 simp only [List.getElem?_cons_zero, List.getElem?_cons_succ] at x0 x1 x2
 rw [hW, hn] at x0 x1 x2
 go_enter Try.func5, Try.ntmps5
 go_wp2_with fail
 rw [← hW, ← hn]
 clear hW x0 x1 x2
 refine (as8 _ c _ (hrow.below B0)).mono ?_
 rintro e w1 ⟨rfl, b1⟩
 replace L1 := L1.below b1 L1.lt
 replace L2 := L2.below b1 L2.lt
 have B1 := B0.trans (b1.mono B0.size)
 have s1 := b1.size
 have HN := show Hid (n = w.heap.size) from hn
 clear b1 B0 hn
 have x0 := L1.cell 0
 have x1 := L1.cell 1
 have x2 := L1.cell 2
 simp only [List.getElem?_cons_zero, List.getElem?_cons_succ] at x0 x1 x2
 cases hc : n9 c
 ·have HC := show Hid (B3 c = ⟨[], [], []⟩) from by unfold Hid; rw [HT.out, hc]; simp
  have z0 := L2.cell 0
  have z1 := L2.cell 1
  have z2 := L2.cell 2
  simp only [List.getElem?_cons_zero, List.getElem?_cons_succ] at z0 z1 z2
  have f0 := L2.free 0
  have f1 := L2.free 1
  have f2 := L2.free 2
  have HO := show Hid _ from hc
  clear hc
  go_wp2_with fail
  have hn := HN.out
  have L3 := ((L2.set (j := 0) (.slice none 0 0)).set (j := 1) (.slice none 0 0)).set (j := 2) (.slice none 0 0)
  have BF := ((B1.setCell (p := ⟨n + 1, 0, none⟩) (by show w.heap.size ≤ n + 1; omega) (.slice none 0 0)).setCell (p := ⟨n + 1, 1, none⟩) (by show w.heap.size ≤ n + 1; omega) (.slice none 0 0)).setCell (p := ⟨n + 1, 2, none⟩) (by show w.heap.size ≤ n + 1; omega) (.slice none 0 0)
  have r0 := L3.cell 0
  have r1 := L3.cell 1
  have r2 := L3.cell 2
  simp only [List.getElem?_cons_zero, List.getElem?_cons_succ, List.set_cons_zero, List.set_cons_succ] at r0 r1 r2
  generalize ((w1.setCell ⟨n + 1, 0, none⟩ (.slice none 0 0)).setCell ⟨n + 1, 1, none⟩ (.slice none 0 0)).setCell ⟨n + 1, 2, none⟩ (.slice none 0 0) = WF at *
  exact bodyPost_ret (v := .tuple #[.agg #[.slice none 0 0, .slice none 0 0, .slice none 0 0], .bool false]) (by simp [results, Try.results5, go_sem, r0, r1, r2]) rfl ⟨_, by rw [HO.out], by rw [HC.out]; exact ax8 _ _ _, BF⟩
 ·have HC := show Hid (B3 c = s4 c) from by unfold Hid; rw [HT.out, hc]; simp
  have HO := show Hid _ from hc
  clear hc
  go_wp2_with fail
  refine (av3 _ c HO.out _ (hrow.below B1)).mono ?_
  rintro e w2 ⟨u, rfl, ou, b2⟩
  obtain ⟨y1, y2, y3, rfl, -⟩ := id ou
  obtain ⟨p1, q1, p2, q2, p3, q3, rfl, rfl, rfl⟩ := Code.rowOf ou
  have B2 := B1.trans (b2.mono B1.size)
  replace L2 := L2.below b2 L2.lt
  have s2 := b2.size
  clear x0 x1 x2
  have z0 := L2.cell 0
  have z1 := L2.cell 1
  have z2 := L2.cell 2
  simp only [List.getElem?_cons_zero, List.getElem?_cons_succ] at z0 z1 z2
  have f0 := L2.free 0
  have f1 := L2.free 1
  have f2 := L2.free 2
  go_wp2_with fail
  have hn := HN.out
  have L3 := ((L2.set (j := 0) (.slice p1 (s4 c).vars.length q1)).set (j := 1) (.slice p2 (s4 c).arrays.length q2)).set (j := 2) (.slice p3 (s4 c).list.length q3)
  have hO : R9 (n + 1) (n + 1 + 1) w2 (((w2.setCell ⟨n + 1, 0, none⟩ (.slice p1 (s4 c).vars.length q1)).setCell ⟨n + 1, 1, none⟩ (.slice p2 (s4 c).arrays.length q2)).setCell ⟨n + 1, 2, none⟩ (.slice p3 (s4 c).list.length q3)) :=
   (((R9.refl (n + 1) (n + 1 + 1) w2).setCell (p := ⟨n + 1, 0, none⟩) (Nat.le_refl _) (Nat.lt_succ_self _) _).setCell (p := ⟨n + 1, 1, none⟩) (Nat.le_refl _) (Nat.lt_succ_self _) _).setCell (p := ⟨n + 1, 2, none⟩) (Nat.le_refl _) (Nat.lt_succ_self _) _
  have oF := ou.out hO (.inr (by omega))
  have zF : (((w2.setCell ⟨n + 1, 0, none⟩ (.slice p1 (s4 c).vars.length q1)).setCell ⟨n + 1, 1, none⟩ (.slice p2 (s4 c).arrays.length q2)).setCell ⟨n + 1, 2, none⟩ (.slice p3 (s4 c).list.length q3)).heap.size = w2.heap.size := by simp
  have BF := ((B2.setCell (p := ⟨n + 1, 0, none⟩) (by show w.heap.size ≤ n + 1; omega) (.slice p1 (s4 c).vars.length q1)).setCell (p := ⟨n + 1, 1, none⟩) (by show w.heap.size ≤ n + 1; omega) (.slice p2 (s4 c).arrays.length q2)).setCell (p := ⟨n + 1, 2, none⟩) (by show w.heap.size ≤ n + 1; omega) (.slice p3 (s4 c).list.length q3)
  have r0 := L3.cell 0
  have r1 := L3.cell 1
  have r2 := L3.cell 2
  simp only [List.getElem?_cons_zero, List.getElem?_cons_succ, List.set_cons_zero, List.set_cons_succ] at r0 r1 r2
  generalize ((w2.setCell ⟨n + 1, 0, none⟩ (.slice p1 (s4 c).vars.length q1)).setCell ⟨n + 1, 1, none⟩ (.slice p2 (s4 c).arrays.length q2)).setCell ⟨n + 1, 2, none⟩ (.slice p3 (s4 c).list.length q3) = WF at *
  exact bodyPost_ret (v := .tuple #[.agg #[.slice p1 (s4 c).vars.length q1, .slice p2 (s4 c).arrays.length q2, .slice p3 (s4 c).list.length q3], .bool true]) (by simp [results, Try.results5, go_sem, r0, r1, r2]) rfl ⟨_, by rw [HO.out], by rw [HC.out]; exact oF.wide (by omega) (by omega), BF⟩
end Go.Proofs.Ythikdkjjdeehoaa

namespace Go.Proofs.Ythikdkjjdeehoaa
set_option linter.unusedVariables false
set_option linter.unusedSimpArgs false
def bk6 (c : f7) (i : Nat) : Bool := decide ((z6 c i).op = 8) && decide ((z6 c i).a = (i : Int) + 1)
noncomputable def kpB (c : f7) (i : Nat) : Bool := (a08 c).getD i false && !bk6 c i
noncomputable def kpL (c : f7) : List Bool := (List.range c.list.length).map (kpB c)
noncomputable def bn3 (c : f7) (k : Nat) : List Bool := (List.range c.list.length).map fun i => (a08 c).getD i false && !(decide (i < k) && bk6 c i)
def plc (ks : List Bool) (k : Nat) : Nat := (ks.take k).count true
def trI (ks : List Bool) (x : d8) : d8 := if 0 ≤ m7 x then G9 x (plc ks (m7 x).toNat : Int) else x
def bh7 (c : f7) (ks : List Bool) (k : Nat) : List d8 := (List.range k).flatMap fun i => if ks.getD i false = true then [trI ks (z6 c i)] else []
noncomputable def bh8 (c : f7) : f7 := { c with list := bh7 c (kpL c) c.list.length }
theorem a70 (x : d8) (t : Int) : (G9 x t).op = x.op := by unfold G9; split <;> (try split) <;> rfl
theorem bc1 (x : d8) (t u : Int) : G9 (G9 x t) u = G9 x u := by
 unfold G9
 by_cases h8 : x.op = 8
 ·simp [h8]
 ·by_cases h9 : x.op = 9 ∨ x.op = 10
  ·simp only [if_neg h8, if_pos h9]
  ·simp only [if_neg h8, if_neg h9]
theorem bc0 {x : d8} (h : 0 ≤ m7 x) (t : Int) : m7 (G9 x t) = t := by
 unfold m7 at h
 unfold m7 G9
 by_cases h8 : x.op = 8
 ·simp [h8]
 ·by_cases h9 : x.op = 9 ∨ x.op = 10
  ·simp only [if_neg h8, if_pos h9]
  ·rw [if_neg h8, if_neg h9] at h; omega
theorem aF8 {x : d8} (h1 : 1 ≤ x.op) (h2 : x.op ≤ 13) : x.op = 1 ∨ x.op = 2 ∨ x.op = 3 ∨ x.op = 4 ∨ x.op = 5 ∨ x.op = 6 ∨ x.op = 7 ∨ x.op = 8 ∨ x.op = 9 ∨ x.op = 10 ∨ x.op = 11 ∨ x.op = 12 ∨ x.op = 13 := by omega
theorem aU2 {c d : f7} {x : d8} (h : y5 c x = true) (_hv : d.vars = c.vars) (_ha : d.arrays = c.arrays) {t : Int} (hx : 0 ≤ m7 x) (h0 : 0 ≤ t) (h1 : t < d.list.length) : y5 d (G9 x t) = true := by
 have h' := h
 unfold y5 at h ⊢
 simp only [Bool.and_eq_true, decide_eq_true_eq] at h
 obtain ⟨⟨ho1, ho2⟩, hp⟩ := h
 rw [a70]
 cases x with
 | mk op a b c' d' =>
 simp only at *
 rcases aF8 (x := ⟨op, a, b, c', d'⟩) ho1 ho2 with e | e | e | e | e | e | e | e | e | e | e | e | e <;> simp only at e <;> subst e <;>
  simp [b8, C3, J7, G9, m7] at hp hx ⊢ <;> simp_all
theorem aG7 {c d : f7} {x : d8} (h : y5 c x = true) (_hv : d.vars = c.vars) (_ha : d.arrays = c.arrays) (hx : m7 x < 0) : y5 d x = true := by
 unfold y5 at h ⊢
 simp only [Bool.and_eq_true, decide_eq_true_eq] at h
 obtain ⟨⟨ho1, ho2⟩, hp⟩ := h
 cases x with
 | mk op a b c' d' =>
 simp only at *
 rcases aF8 (x := ⟨op, a, b, c', d'⟩) ho1 ho2 with e | e | e | e | e | e | e | e | e | e | e | e | e <;> simp only at e <;> subst e <;>
  simp [b8, C3, J7, m7] at hp hx ⊢ <;> simp_all <;> omega
theorem Q8 {c : f7} (hc : n9 c = true) : ∀ (k : Nat) (x : Int), B8 c x → B8 c (p8 c k x)
 | 0, _, h => h
 | k + 1, x, h => by
  cases hj : U3 c x
  ·rw [F6 hj]; exact h
  ·rw [I4 hj]; exact Q8 hc k _ (ao4 hc h hj)
theorem am4 {c : f7} (hc : n9 c = true) {x : Int} (h : B8 c x) : B8 c (x7 c x) := by
 unfold x7; split
 ·exact h
 ·exact Q8 hc _ _ h
theorem aY0 (c : f7) (x : d8) : (K9 c x).op = x.op := by unfold K9; split; exact a70 _ _; rfl
theorem an9 (c : f7) : (s4 c).list.length = c.list.length := by simp [s4]
theorem aY1 {c : f7} (hc : n9 c = true) : n9 (s4 c) = true := by
 obtain ⟨h1, h2, h3, h4, h5⟩ := w8 hc
 unfold n9
 simp only [Bool.and_eq_true, decide_eq_true_eq, List.all_eq_true]
 refine ⟨⟨⟨⟨h1, by rw [an9]; exact h2⟩, by rw [an9]; exact h3⟩, ?_⟩, ?_⟩
 ·intro x hx
  obtain ⟨y, hy, rfl⟩ := List.mem_map.1 hx
  obtain ⟨i, hi, rfl⟩ := List.getElem_of_mem hy
  unfold K9
  split
  ·rename_i ht
   have hp := am4 hc ⟨ht, aa0 (h4 i hi) ht⟩
   exact aU2 (d := s4 c) (h4 i hi) rfl rfl ht hp.1 (by rw [an9]; exact hp.2)
  ·exact aG7 (d := s4 c) (h4 i hi) rfl rfl (by omega)
 ·unfold U1 at h5 ⊢
  show (match (c.list.map (K9 c)).getLast? with | some x => decide (x.op = 13) || decide (x.op = 8) | none => false) = true
  rw [List.getLast?_map]
  cases hl : c.list.getLast? with
  | none => rw [hl] at h5; cases h5
  | some x => rw [hl] at h5; simpa [aY0] using h5
theorem ab0 (c : f7) : ∀ (a b : Nat) (x : Int), p8 c (a + b) x = p8 c b (p8 c a x)
 | 0, b, x => by simp [p8]
 | a + 1, b, x => by
  rw [show a + 1 + b = (a + b) + 1 by omega]
  cases hj : U3 c x
  ·rw [F6 hj, F6 hj, F6 hj]
  ·rw [I4 hj, I4 hj, ab0 c a b]
theorem at8 {c : f7} {x : Int} {k : Nat} (h : U3 c (p8 c k x) = true) : ∀ j, j ≤ k → U3 c (p8 c j x) = true := by
 intro j hj
 cases hf : U3 c (p8 c j x)
 ·have := ab0 c j (k - j) x
  rw [show j + (k - j) = k by omega, F6 hf] at this
  rw [this, hf] at h; cases h
 ·rfl
theorem aO0 {c : f7} {x : Int} {i j : Nat} (hij : i < j) (he : p8 c i x = p8 c j x) (hj : U3 c (p8 c j x) = true) : ∀ k, U3 c (p8 c k x) = true := by
 have hall := at8 hj
 intro k
 induction k using Nat.strongRecOn with
 | _ k ih =>
  rcases Nat.lt_or_ge k (j + 1) with h | h
  ·exact hall k (by omega)
  ·have h1 := ab0 c j (k - j) x
   have h2 := ab0 c i (k - j) x
   rw [← he, ← h2, show j + (k - j) = k by omega] at h1
   rw [h1]
   exact ih _ (by omega)
theorem aI4 {c : f7} (hc : n9 c = true) {x : Int} (hx : B8 c x) : ∀ m, (∀ i j, i < j → j < m → p8 c i x ≠ p8 c j x) →
  ∃ bs : List Bool, bs.length = c.list.length ∧ bs.count false + m = c.list.length ∧ ∀ p : Nat, bs[p]? = some true → ∃ i, i < m ∧ p8 c i x = p := by
 intro m
 induction m with
 | zero => intro _; exact ⟨List.replicate c.list.length false, by simp, by simp, fun p hp => by simp [List.getElem?_replicate] at hp⟩
 | succ m ih =>
  intro hd
  obtain ⟨bs, h1, h2, h3⟩ := ih fun i j a b => hd i j a (by omega)
  have hp := Q8 hc m x hx
  obtain ⟨p, hpe⟩ : ∃ p : Nat, p8 c m x = p := ⟨(p8 c m x).toNat, by have := hp.1; omega⟩
  have hpl : p < bs.length := by have := hp.2; rw [hpe] at this; omega
  have hb : bs[p]? = some false := by
   rw [List.getElem?_eq_getElem hpl]
   cases hb : bs[p]
   ·rfl
   ·obtain ⟨i, a, b⟩ := h3 p (by rw [List.getElem?_eq_getElem hpl, hb])
    exact absurd (b.trans hpe.symm) (hd i m a (by omega))
  refine ⟨bs.set p true, by simpa using h1, by have := aj8 hb; omega, fun q hq => ?_⟩
  rcases af4 hq with rfl | hq
  ·exact ⟨m, by omega, hpe⟩
  ·obtain ⟨i, a, b⟩ := h3 q hq
   exact ⟨i, by omega, b⟩
theorem aO1 {c : f7} (hc : n9 c = true) {x : Int} (hx : B8 c x) (h : U3 c (p8 c c.list.length x) = true) : ∀ k, U3 c (p8 c k x) = true := by
 by_cases hd : ∀ i j, i < j → j < c.list.length + 1 → p8 c i x ≠ p8 c j x
 ·obtain ⟨bs, h1, h2, h3⟩ := aI4 hc hx _ hd
  omega
 ·have : ∃ i j, i < j ∧ j < c.list.length + 1 ∧ p8 c i x = p8 c j x := by
   apply Classical.byContradiction
   intro hn
   exact hd fun i j a b e => hn ⟨i, j, a, b, e⟩
  obtain ⟨i, j, a, b, e⟩ := this
  exact aO0 a e (at8 h j (by omega))
theorem aR1 {c : f7} {i : Nat} (h : i < c.list.length) : z6 (s4 c) i = K9 c (z6 c i) := by
 rw [S6 h, S6 (by rw [an9]; exact h)]
 simp [s4]
theorem aB4 {c : f7} {x : Int} (h : B8 c x) : U3 (s4 c) x = U3 c x := by
 unfold U3
 rw [aR1 (by have := h.1; have := h.2; omega), aY0]
theorem aH7 {c : f7} (hc : n9 c = true) {t : Int} (ht : B8 c t) : x7 (s4 c) (x7 c t) = x7 c t := by
 cases hj : U3 c (p8 c c.list.length t)
 ·have e : x7 c t = p8 c c.list.length t := by unfold x7; rw [hj]; simp
  rw [e]
  have hf : U3 (s4 c) (p8 c c.list.length t) = false := by rw [aB4 (Q8 hc _ _ ht)]; exact hj
  unfold x7
  rw [F6 hf, hf]; simp
 ·have e : x7 c t = t := by unfold x7; rw [hj]; simp
  rw [e]
  have key : ∀ (k : Nat) (x : Int), B8 c x → (∀ m, U3 c (p8 c m x) = true) → U3 (s4 c) (p8 (s4 c) k x) = true := by
   intro k
   induction k with
   | zero => intro x hx hv; rw [p8, aB4 hx]; exact hv 0
   | succ k ih =>
    intro x hx hv
    have hj0 : U3 c x = true := hv 0
    have hxl : x.toNat < c.list.length := by have := hx.1; have := hx.2; omega
    rw [I4 (by rw [aB4 hx]; exact hj0), aR1 hxl]
    have hop : (z6 c x.toNat).op = 8 := by unfold U3 at hj0; simpa using hj0
    have hpl := ao4 hc hx hj0
    have htg : m7 (z6 c x.toNat) = (z6 c x.toNat).a := by unfold m7; rw [if_pos hop]
    have hv1 : ∀ m, U3 c (p8 c m (z6 c x.toNat).a) = true := fun m => by have := hv (m + 1); rwa [I4 hj0] at this
    have hfin : x7 c (z6 c x.toNat).a = (z6 c x.toNat).a := by unfold x7; rw [hv1]; simp
    have ha : (K9 c (z6 c x.toNat)).a = (z6 c x.toNat).a := by
     unfold K9
     rw [htg, if_pos hpl.1, hfin]
     unfold G9; rw [if_pos hop]
    rw [ha]
    exact ih _ hpl hv1
  have := key (s4 c).list.length t ht (aO1 hc ht hj)
  unfold x7
  rw [this]; simp
theorem a76 {c : f7} (hc : n9 c = true) : s4 (s4 c) = s4 c := by
 unfold s4
 simp only [f7.mk.injEq, true_and, List.map_map]
 apply List.map_congr_left
 intro x hx
 obtain ⟨i, hi, rfl⟩ := List.getElem_of_mem hx
 have hok := (w8 hc).2.2.2.1 i hi
 show K9 (s4 c) (K9 c c.list[i]) = K9 c c.list[i]
 by_cases ht : 0 ≤ m7 c.list[i]
 ·have hp : B8 c (m7 c.list[i]) := ⟨ht, aa0 hok ht⟩
  have e : K9 c c.list[i] = G9 c.list[i] (x7 c (m7 c.list[i])) := by unfold K9; rw [if_pos ht]
  rw [e]
  unfold K9
  rw [bc0 ht, if_pos (am4 hc hp).1, bc1, aH7 hc hp]
 ·have e : K9 c c.list[i] = c.list[i] := by unfold K9; rw [if_neg ht]
  rw [e]
  unfold K9; rw [if_neg ht]
noncomputable def be9 (c : f7) : f7 := bh8 (s4 c)
inductive Opt : f7 → f7 → Prop
 | stop {c : f7} : be9 c = c → Opt c c
 | step {c r : f7} : be9 c ≠ c → Opt (be9 c) r → Opt c r
open Classical in
noncomputable def bq6 (c : f7) : Nat := 2 * c.list.length + (if s4 c = c then 0 else 1)
open Classical in
noncomputable def bq7 (c : f7) : f7 := if h : ∃ r, Opt c r then Classical.choose h else c
end Go.Proofs.Ythikdkjjdeehoaa

namespace Go.Proofs.Ythikdkjjdeehoaa
set_option linter.unusedVariables false
set_option linter.unusedSimpArgs false
open Go Go.RowKit
theorem bb0 (x y : d8) (w : World) : (binOp .neq 38 (.agg #[.int .i64 x.op, .int .i64 x.a, .int .i64 x.b, .int .i64 x.c, .int .i64 x.d]) (.agg #[.int .i64 y.op, .int .i64 y.a, .int .i64 y.b, .int .i64 y.c, .int .i64 y.d])).run Try.prog w = .ok (.bool (!decide (x.l = y.l))) w := by
 rw [run_neq_struct, run_equalIn_struct _ _ _ _ _ (by kernel_rfl) (by kernel_rfl)]
 rw [show (Try.prog.fieldsOf 38).toList = [⟨"Op", 3, 0, false, "", "", 0⟩, ⟨"A", 3, 1, false, "", "", 8⟩, ⟨"B", 3, 2, false, "", "", 16⟩, ⟨"C", 3, 3, false, "", "", 24⟩, ⟨"D", 3, 4, false, "", "", 32⟩] from by kernel_rfl]
 simp only [d8.l, List.cons.injEq, and_true]
 simp [go_sem, Op.eqFields]
 (repeat' split) <;> simp_all
theorem at3 (v1 v2 : Value) (xs ys : List Int) (w : World) (h1 : H8 w v1 xs.length 1 (ints xs)) (h2 : H8 w v2 ys.length 1 (ints ys)) :
  Calls Try.prog 13 #[v1, v2] w fun e w' => e = .returned (.bool (decide (xs = ys))) ∧ ∃ n, w' = w.drewN n := by
 obtain ⟨a1, c1, rfl, -, hm1, -, hc1⟩ := h1.open1
 obtain ⟨a2, c2, rfl, -, hm2, -, hc2⟩ := h2.open1
 by_cases hl : xs.length = ys.length
 ·have heq : ((xs.length : Int) == (ys.length : Int)) = true := by simp; omega
  have HL : Hid (xs.length = ys.length) := hl
  clear h1 h2 hl
  go_enter Try.func13, Try.ntmps13
  go_wp2
  go_loopw [5, 13] (fun _ i wr => ∃ k : Nat, k ≤ xs.length ∧ i = .int .i64 k ∧ xs.take k = ys.take k ∧ ∃ n, wr = w.drewN n) (fun _ i _ => xs.length - (intOf i).toNat)
  case atStart => exact ⟨0, Nat.zero_le _, rfl, rfl, 0, rfl⟩
  case round =>
   obtain ⟨k, hk, rfl, ht, nd, rfl⟩ := hrel
   have HT : Hid (xs.take k = ys.take k) := ht
   clear ht
   by_cases hlt : k < xs.length
   ·have hlt2 : k < ys.length := by have := HL.out; omega
    obtain ⟨b1, o1, rfl, hb1, hx⟩ := hc1 k hlt
    obtain ⟨b2, o2, rfl, hb2, hy⟩ := hc2 k hlt2
    rw [Y7 _ _ hlt] at hx
    rw [Y7 _ _ hlt2] at hy
    clear hc1 hc2
    go_wp2
    go_quiet (fail)
    go_wp2
    ·rename_i hd
     go_ret
     exact ⟨f8 (by symm; simp; intro h; subst h; simp at hd), _, by first | rfl | exact World.drewN_drewN _ _ _⟩
    ·rename_i hd
     refine ⟨⟨k + 1, by omega, by go_num, ae9 HT.out hlt hlt2 (by simpa using hd), _, by first | rfl | exact World.drewN_drewN _ _ _⟩, by simp [intOf]; omega⟩
   ·have hge : decide ((k : Int) < (xs.length : Int)) = false := by simp; omega
    go_wp2
    go_ret
    exact ⟨f8 (by symm; simp; exact al8 HT.out (by omega) (by have := HL.out; omega)), _, rfl⟩
 ·have hne : ((xs.length : Int) == (ys.length : Int)) = false := by simp; omega
  clear hc1 hc2
  go_enter Try.func13, Try.ntmps13
  go_wp2
  go_ret
  exact ⟨f8 (by symm; simp; intro h; exact hl (by rw [h])), 0, rfl⟩
theorem aU3 (v1 v2 : Value) (xs ys : List d8) (w : World) (h1 : L6 w v1 xs) (h2 : L6 w v2 ys) :
  Calls Try.prog 14 #[v1, v2] w fun e w' => e = .returned (.bool (decide (A4 xs = A4 ys))) ∧ ∃ n, w' = w.drewN n := by
 obtain ⟨a1, c1, rfl, -, hm1, -, hc1⟩ := h1.ins
 obtain ⟨a2, c2, rfl, -, hm2, -, hc2⟩ := h2.ins
 by_cases hl : xs.length = ys.length
 ·have heq : ((xs.length : Int) == (ys.length : Int)) = true := by simp; omega
  have HL : Hid (xs.length = ys.length) := hl
  clear h1 h2 hl
  go_enter Try.func14, Try.ntmps14
  go_wp2
  go_loopw [5, 13] (fun _ i wr => ∃ k : Nat, k ≤ xs.length ∧ i = .int .i64 k ∧ xs.take k = ys.take k ∧ ∃ n, wr = w.drewN n) (fun _ i _ => xs.length - (intOf i).toNat)
  case atStart => exact ⟨0, Nat.zero_le _, rfl, rfl, 0, rfl⟩
  case round =>
   obtain ⟨k, hk, rfl, ht, nd, rfl⟩ := hrel
   have HT : Hid (xs.take k = ys.take k) := ht
   clear ht
   by_cases hlt : k < xs.length
   ·have hlt2 : k < ys.length := by have := HL.out; omega
    obtain ⟨b1, o1, e1, hb1, i0, i1, i2, i3, i4⟩ := hc1 k hlt
    obtain ⟨b2, o2, e2, hb2, j0, j1, j2, j3, j4⟩ := hc2 k hlt2
    have hq := fun w => bb0 xs[k] ys[k] w
    have HE := show Hid _ from (fun (h : xs[k].l = ys[k].l) => ae9 HT.out hlt hlt2 (d8.ext' h))
    obtain ⟨q, hq0⟩ : ∃ q, q = !decide (xs[k].l = ys[k].l) := ⟨_, rfl⟩
    rw [← hq0] at hq
    have HQ0 := show Hid _ from hq0
    obtain ⟨x, hx⟩ : ∃ x, x = xs[k] := ⟨_, rfl⟩
    obtain ⟨y, hy⟩ : ∃ y, y = ys[k] := ⟨_, rfl⟩
    rw [← hx] at i0 i1 i2 i3 i4
    rw [← hy] at j0 j1 j2 j3 j4
    simp only [← hx, ← hy] at hq
    subst e1 e2
    clear hc1 hc2 hq0 hx hy
    cases q
    ·go_wp2
     go_quiet (fail)
     go_wp2
     refine ⟨⟨k + 1, by omega, by go_num, HE.out (by have := HQ0.out; simpa using this), _, by first | rfl | exact World.drewN_drewN _ _ _⟩, by simp [intOf]; omega⟩
    ·go_wp2
     go_quiet (fail)
     go_wp2
     go_ret
     exact ⟨f8 (by symm; simp; intro h; have := ag5 h; subst this; simpa using HQ0.out), _, by first | rfl | exact World.drewN_drewN _ _ _⟩
   ·go_wp2
    go_ret
    exact ⟨f8 (by symm; simp; exact congrArg A4 (al8 HT.out (by omega) (by have := HL.out; omega))), _, rfl⟩
 ·have hne : ((xs.length : Int) == (ys.length : Int)) = false := by simp; omega
  clear hc1 hc2
  go_enter Try.func14, Try.ntmps14
  go_wp2
  go_ret
  exact ⟨f8 (by symm; simp; intro h; exact hl (by rw [ag5 h])), 0, rfl⟩
theorem av5 (v u : Value) (c d : f7) (w : World) (h : z9 w v c) (h' : z9 w u d) :
  Calls Try.prog 7 #[v, u] w fun e w' => e = .returned (.bool (c.same d)) ∧ Below w.heap.size w w' := by
 obtain ⟨v1, v2, v3, rfl, h1, h2, h3⟩ := h
 obtain ⟨u1, u2, u3, rfl, g1, g2, g3⟩ := h'
 obtain ⟨W, hW, M⟩ : ∃ W, W = ((w.alloc (.cells #[v1, v2, v3] 26)).alloc (.cells #[u1, u2, u3] 26)) ∧ C1 (fun _ => True) (fun _ => True) w W [.box w.heap.size [v1, v2, v3], .box (w.heap.size + 1) [u1, u2, u3]] :=
  ⟨_, rfl, ((C1.start fun _ _ => trivial).box _ _).box' _ _ (by simp)⟩
 have hs : Hid (c.same d = (decide (c.vars = d.vars) && decide (c.arrays = d.arrays) && decide (A4 c.list = A4 d.list))) := rfl
 have HR := show Hid (∀ W', Below W.heap.size W W' → (H8 W' v1 c.vars.length 1 (ints c.vars) ∧ H8 W' v2 c.arrays.length 1 (ints c.arrays) ∧ L6 W' v3 c.list) ∧ H8 W' u1 d.vars.length 1 (ints d.vars) ∧ H8 W' u2 d.arrays.length 1 (ints d.arrays) ∧ L6 W' u3 d.list) from fun W' k => by
  have bb := (M.call k).below fun _ _ => trivial
  exact ⟨⟨h1.below bb, h2.below bb, h3.below bb⟩, g1.below bb, g2.below bb, g3.below bb⟩
 have HB := show Hid (∀ n, Below w.heap.size w (W.drewN n)) from fun n => (M.call (below_drewN (Below.refl _ _) n)).below fun _ _ => trivial
 have x0 := M.c 0 0 rfl rfl
 have x1 := M.c 0 1 rfl rfl
 have x2 := M.c 0 2 rfl rfl
 have y0 := M.c 1 0 rfl rfl
 have y1 := M.c 1 1 rfl rfl
 have y2 := M.c 1 2 rfl rfl
 rw [hW] at x0 x1 x2 y0 y1 y2
 clear h1 h2 h3 g1 g2 g3 M
 go_enter Try.func7, Try.ntmps7
 go_wp2_with fail
 rw [← hW] at x0 x1 x2 y0 y1 y2 ⊢
 clear hW
 refine (at3 _ _ c.vars d.vars _ (HR.out _ (Below.refl _ _)).1.1 (HR.out _ (Below.refl _ _)).2.1).mono ?_
 rintro e w1 ⟨rfl, n1, rfl⟩
 by_cases q1 : c.vars = d.vars
 ·rw [decide_eq_true q1]
  have Q1 := show Hid _ from q1
  clear q1
  go_wp2_with fail
  refine (at3 _ _ c.arrays d.arrays _ (HR.out _ (below_drewN (Below.refl _ _) n1)).1.2.1 (HR.out _ (below_drewN (Below.refl _ _) n1)).2.2.1).mono ?_
  rintro e w1 ⟨rfl, n2, rfl⟩
  by_cases q2 : c.arrays = d.arrays
  ·rw [decide_eq_true q2]
   have Q2 := show Hid _ from q2
   clear q2
   go_wp2_with fail
   refine (aU3 _ _ c.list d.list _ (HR.out _ (below_drewN (Below.refl _ _) (n1 + n2))).1.2.2 (HR.out _ (below_drewN (Below.refl _ _) (n1 + n2))).2.2.2).mono ?_
   rintro e w1 ⟨rfl, n3, rfl⟩
   obtain ⟨q, hq⟩ : ∃ q, q = decide (A4 c.list = A4 d.list) := ⟨_, rfl⟩
   rw [← hq]
   have HQ := show Hid _ from hq
   clear hq
   go_wp2_with fail
   go_ret
   exact ⟨f8 (by rw [hs.out, decide_eq_true Q1.out, decide_eq_true Q2.out, HQ.out]; rfl), HB.out _⟩
  ·rw [decide_eq_false q2]
   go_wp2_with fail
   go_ret
   exact ⟨f8 (by rw [hs.out, decide_eq_false q2]; simp), HB.out _⟩
 ·rw [decide_eq_false q1]
  go_wp2_with fail
  go_ret
  exact ⟨f8 (by rw [hs.out, decide_eq_false q1]; simp), HB.out _⟩
theorem Z4 (v ar : List Int) (l : List d8) : p7.ok Try.prog (fnC 7 [.agg [.ref 0, .ref 1, .ref 2], .agg [.ref 3, .ref 4, .ref 5]] [.dat (.ints v), .dat (.ints ar), .dat (.instrs l), .dat (.ints v), .dat (.ints ar), .dat (.instrs l)] (bA true)) :=
 ar4 fun φ w ρ h => (av5 _ _ ⟨v, ar, l⟩ ⟨v, ar, l⟩ w ⟨ρ 0, ρ 1, ρ 2, rfl, t8.row (h 0 _ rfl), t8.row (h 1 _ rfl), t8.row (h 2 _ rfl)⟩ ⟨ρ 3, ρ 4, ρ 5, rfl, t8.row (h 3 _ rfl), t8.row (h 4 _ rfl), t8.row (h 5 _ rfl)⟩).mono fun e w' h => ⟨by rw [h.1, f7.same_refl], h.2⟩
theorem aT7 (w : World) : l5 (fun _ => True) (fun _ => True) w w (o6 (fun _ : Empty => Rs.none) (fun _ => undef) (s9 [])) := by
 refine (l5.start (ι := Empty ⊕ Nat) (w0 := w) (φ := fun _ => True) (ψ := fun _ => True) fun _ _ => trivial).map (fun k => some k) (fun k k' i a b => by cases a; cases b; rfl) fun k => ?_
 cases k with
 | inl e => exact e.elim
 | inr j => exact .inr rfl
theorem aW6 (w : World) : W6 (fun _ => True) (W5 (fun _ => True) (o6 (fun _ : Empty => Rs.none) (fun _ => undef) (s9 []))) w w := W6.mono fun b _ _ => ⟨trivial, fun i => by
 cases i with
 | inl e => exact e.elim
 | inr j => exact fun h => h.elim⟩
abbrev u8s (c : List UInt8) : List Value := c.map fun b => Value.int .u8 (b.toNat : Int)
theorem aV9 {P : Program} {f : FuncId} {x : Value} {c : List UInt8} {post : List It} (hc : p7.ok P ⟨f, [.ref 0], [dY c], post, .v x⟩) (u : Value) (w : World) (hp : t8 w (fun _ => True) u c.length 1 (u8s c)) :
  Calls P f #[u] w fun e w' => e = .returned x ∧ Below w.heap.size w w' := by
 obtain ⟨ρ', g1, M2, g2⟩ := l5.dats [.sl (.bytes c)] [u] 0 (aT7 w) ⟨RD.nice (.bytes c) _ _ _ _ _ (aW6 w) hp, trivial⟩ (fun _ _ => rfl) (fun _ _ _ => rfl)
 have e : n6 (s9 []) (M8 [.sl (.bytes c)] 0) = s9 [dY c] := by
  funext j
  match j with
  | 0 => rfl
  | j + 1 => simp [M8, n6, s9]
 rw [e] at M2
 simp only [xav, AV.vals, AV.val, List.cons.injEq, and_true] at g2
 subst g2
 refine (hc Empty _ _ w w _ ρ' M2).mono ?_
 rintro e w' ⟨ρ2, -, rfl, M3⟩
 exact ⟨rfl, M3.below fun _ _ => trivial⟩
end Go.Proofs.Ythikdkjjdeehoaa

namespace Go.Proofs.Ythikdkjjdeehoaa
set_option linter.unusedVariables false
set_option linter.unusedSimpArgs false
open Go Go.RowKit Go.ChangeShapes Go.WideShapes Go.Deep
section
variable {H : Type} {enc : TypeId × Value → H} {W : World}
theorem av7 {fuel : Nat} {t : TypeId} {v : Value} {x : DataW H × List MemPlace} (ht : Try.prog.underlying t = some (.slice 5))
  (h : DataW.trod enc Try.prog W 0 (fun _ => true) true fuel t [v] = some x) : ∃ l : List UInt8, H8 W v l.length 1 (l.map fun b => Value.int .u8 (b.toNat : Int)) := by
 obtain ⟨n, m, C, hr, hC, hx⟩ := aF1 ht (sz := 1) (by kernel_rfl) (by omega) h
 obtain ⟨g, hg⟩ := choose_lt (α := UInt8) (n := n) (p := fun i b => C i = [.int .u8 (b.toNat : Int)]) (fun i hi => by
  obtain ⟨y, hy⟩ := hx i hi
  obtain ⟨z, hz, _, hw⟩ := DataW.trod_int Try.underlying5 hy
  simp only [Lit.wf, Bool.and_eq_true, decide_eq_true_eq] at hw
  have h0 : (0 : Int) ≤ z := hw.1
  have h1 : z ≤ 255 := hw.2
  refine ⟨UInt8.ofNat z.toNat, ?_⟩
  rw [hz]
  have e : (UInt8.ofNat z.toNat).toNat = z.toNat := by
   rw [UInt8.toNat_ofNat']; omega
  rw [e, Int.toNat_of_nonneg h0])
 refine ⟨(List.range n).map g, ?_⟩
 rw [List.length_map, List.length_range, ← ar8 n C (fun b => Value.int .u8 (b.toNat : Int)) g hg]
 exact hr
end
end Go.Proofs.Ythikdkjjdeehoaa
