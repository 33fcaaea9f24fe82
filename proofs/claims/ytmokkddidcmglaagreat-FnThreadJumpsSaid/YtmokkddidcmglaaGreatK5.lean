/- Part 5: functions on the way, plain laws. Conditions: as said. -/
import Derived.Test.YtmokkddidcmglaaGreatK1
import Derived.Test.YtmokkddidcmglaaGreatK2
import Derived.Test.YtmokkddidcmglaaGreatK4
set_option maxRecDepth 100000
set_option maxHeartbeats 16000000
set_option linter.unusedVariables false
set_option linter.unusedSimpArgs false
open Bool renaming and_eq_true → bX0, not_eq_true' → b03
open Inhabited renaming default → bW7
open List renaming all_eq_true → bX9, append_assoc → b12, eq_nil_of_length_eq_zero → bZ3, getD_eq_getElem?_getD → bX2, getElem?_append_left → b04, getElem?_append_right → b15, getElem?_cons_succ → bX6, getElem?_cons_zero → bX3, getElem?_eq_getElem → bW9, getElem?_eq_none → bZ1, getElem?_eq_some_iff → bX7, getElem_mem → bZ0, length_append → bX1, length_cons → bX8, length_nil → bY2, length_replicate → bY6, length_set → bY9, map_cons → bZ5, mem_append → bY7, mem_cons_of_mem → b00, mem_cons_self → b01, mem_singleton → bZ2, replicate → bW8, take → bY0, take_of_length_le → bY3
open Nat renaming le_refl → bX4, le_trans → bZ6, lt_or_ge → bY8, zero_add → b06, zero_le → bZ4
open True renaming intro → bY1

namespace Go.Proofs.YtmokkddidcmglaaGreat
open Go Go.RowKit
abbrev stO (s : c6) : List It := [.tree (.exprs s.index.kids), .tree (.exprs s.value.kids), .tree (.stmts s.body), .tree (.stmts s.els)]
abbrev stA (s : c6) (r : Nat) : AV := .agg [iA s.kind, iA s.target, iA s.index.kind, iA s.index.value, .tref r, iA s.value.kind, iA s.value.value, .tref (r + 1), iA s.count, .tref (r + 2), .tref (r + 3)]
abbrev dsC (b : List UInt8) (vs ars : List Int) (bd : List c6) (d : Nat) (j n : Int) : j8 := ⟨92, [.ptr 0 0, pA 2, iA n], dwS b j vs ars bd, dwS b (A1 b vs.length ars.length d j).2 vs ars bd ++ stO (A1 b vs.length ars.length d j).1, stA (A1 b vs.length ars.length d j).1 5⟩
abbrev dbC (b : List UInt8) (vs ars : List Int) (bd : List c6) (d : Nat) (m : Nat) (j n c : Int) : j8 := ⟨76, [.ptr 0 0, pA 2, iA n, iA c], dwS b j vs ars bd, dwS b (E4 (A1 b vs.length ars.length d) m j).2 vs ars bd ++ [.tree (.stmts (E4 (A1 b vs.length ars.length d) m j).1)], .tref 5⟩
section
variable {b : List UInt8} {nv na d : Nat} {j : Int}
theorem be8 (h : nm b j H9 = 2) (h1 : 0 < (na : Int)) : A1 b nv na d j = soS b nv na (j + 1) := by
 cases d <;> (rw [A1, if_pos ⟨h, by omega⟩])
theorem bH9 (h : nm b j H9 = 3) (h1 : 0 < d) : A1 b nv na (d + 1) j = ifS b nv na (A1 b nv na d) (j + 1) := by
 rw [A1, if_neg (by omega), if_pos ⟨h, by omega⟩]
theorem bH8 (h : nm b j H9 = 4) (h1 : 0 < d) : A1 b nv na (d + 1) j = rpS b (A1 b nv na d) (j + 1) := by
 rw [A1, if_neg (by omega), if_neg (by omega), if_pos ⟨h, by omega⟩]
theorem aa2 (h : ¬ (nm b j H9 = 2 ∧ 0 < (na : Int))) (h1 : d < 2 ∨ (¬ nm b j H9 = 3 ∧ ¬ nm b j H9 = 4)) : A1 b nv na d j = dfS b nv na (nm b j H9) (j + 1) := by
 match d, h1 with
 | 0, _ => rw [A1, if_neg (by omega)]
 | d + 1, h1 => rw [A1, if_neg (by omega), if_neg (by omega), if_neg (by omega)]
theorem bF4 {kd : Int} (h : kd = 5) : dfS b nv na kd j = (⟨5, pk b j nv, noE, (t5 b nv na (j + 1)).1, 0, [], []⟩, (t5 b nv na (j + 1)).2) := by rw [dfS, if_pos h]
theorem aR4 {kd : Int} (h : ¬ kd = 5) : dfS b nv na kd j = (⟨1, pk b j nv, noE, (t5 b nv na (j + 1)).1, 0, [], []⟩, (t5 b nv na (j + 1)).2) := by rw [dfS, if_neg h]
end
section
variable (b : List UInt8) {j : Int}
theorem bV7 (r0 : 0 ≤ j) (r1 : j ≤ 1000000000) : 0 ≤ nm b j ibL ∧ nm b j ibL ≤ 2 := aC7 b (by simp) aY4 r0 r1
theorem bV6 (r0 : 0 ≤ j) (r1 : j ≤ 1000000000) : 0 ≤ nm b j ieL ∧ nm b j ieL ≤ 2 := aC7 b (by simp) aY2 r0 r1
theorem bS1 (r0 : 0 ≤ j) (r1 : j ≤ 1000000000) : 0 ≤ nm b j rbL ∧ nm b j rbL ≤ 2 := aC7 b (by simp) aW0 r0 r1
theorem bx0 (d : Nat) : (d = 0 ∧ cS (d - 1) = 402 ∧ cS d ≤ 2010) ∨ cS d = 402 + 4 * cS (d - 1) := by
 cases d with
 | zero => exact .inl ⟨rfl, rfl, by decide⟩
 | succ d => exact .inr rfl
end
section
variable {b : List UInt8} {nv na d : Nat} {j : Int}
theorem aU6 (h : nm b j H9 = 3) (h1 : 1 < d) : A1 b nv na d j = ifS b nv na (A1 b nv na (d - 1)) (j + 1) := by
 match d, h1 with
 | d + 1, h1 => exact bH9 h (by omega)
theorem aU5 (h : nm b j H9 = 4) (h1 : 1 < d) : A1 b nv na d j = rpS b (A1 b nv na (d - 1)) (j + 1) := by
 match d, h1 with
 | d + 1, h1 => exact bH8 h (by omega)
end
abbrev bx7 (b : List UInt8) (vs : List Int) (ars : List Int) (d : Nat) (j : Int) (k : Nat) := A1 b vs.length ars.length d (E4 (A1 b vs.length ars.length d) k j).snd
abbrev aL0 (n : Int) (c : Int) (r0 : List (Nat × AV)) : List (Nat × AV) := (0, .ptr 0 0) :: (2, iA n) :: (3, iA c) :: (5, .ptr 5 0) :: (8, .v (.slice none 0 0)) :: r0
theorem bs0 (b : List UInt8) (vs ars : List Int) (bd : List c6) (d m : Nat) (ih : ∀ (j n : Int), n = d → 0 ≤ j → j + cS d ≤ 600000000 → j8.ok Tryz.prog (dsC b vs ars bd d j n)) (j n c : Int) (hn : n = d) (hm : c = m) (hm2 : m ≤ 4) (B : Int) (hB : (m : Int) * cS d ≤ B) (r0 : 0 ≤ j) (r1 : j + B ≤ 600000000) : j8.ok Tryz.prog (dbC b vs ars bd d m j n c) := by
 refine I1 25 Tryz.func76 [.box [.ref 1, iA j], dY b, dI vs, dI ars, dT bd] [(0, .ptr 0 0), (1, pA 2), (2, iA n), (3, iA c)] fun G => ?_; have hc := ao7 d; refine wp_seq (i9 G d9 (rg 6) [.box [.ref 1, iA j], dY b, dI vs, dI ars, dT bd, .box (pL 2)] (aL0 n c []) fun G => b0 (wp_seq (i9 G d9 (rg 7) [.box [.ref 1, iA j], dY b, dI vs, dI ars, dT bd, .box (pL 2), .tree (D.stmts [])] (aL0 n c [(9, .tref 6)]) fun G => b0 (wp_seq (wp_seq (F5 G d9 (aL0 n c [(9, .tref 6), (10, iA 0)]) fun G => b0 (wp_block ?_))))))); refine v5 (κ := Nat) (fun k => k ≤ m) (fun k => m - k) (fun k => [.box [.ref 1, iA (E4 (A1 b vs.length ars.length d) k j).2], dY b, dI vs, dI ars, dT bd, .box (pL 2), .tree (.stmts (E4 (A1 b vs.length ars.length d) k j).1)]) (fun k => [(0, .ptr 0 0), (2, iA n), (3, iA c), (5, .ptr 5 0), (8, .v (.slice none 0 0)), (9, .tref 6), (10, iA k)]) 0 (by omega) (s4.at G _ _) ?_; clear G; intro k ρ a w hp G; replace G := s4.at G [.box [.ref 1, iA (E4 (A1 b vs.length ars.length d) k j).snd], dY b, dI vs, dI ars, dT bd, .box (pL 2), .tree (D.stmts (E4 (A1 b vs.length ars.length d) k j).fst)] (aL0 n c [(9, .tref 6), (10, iA k)]); have hkb := bA4 b vs.length ars.length (k := j) (i := k) hB (by omega) r0 (by omega); have hkl : (E4 (A1 b vs.length ars.length d) k j).1.length = k := aI8 _ _ _; refine wp_seq (wp_seq (l0 G d9 [(14, bA (decide ((k : Int) < c)))] fun G => b0 (rcD G (fun h0 q0 => ?_) fun h0 q0 => ?_)))
 ·refine wp_exit (t6 (t6 (t3 (b0 (wp_seq (i9 G d9 [0, 1, 2, 3, 4, 6] [.box [.ref 1, iA (E4 (A1 b vs.length ars.length d) k j).snd], dY b, dI vs, dI ars, dT bd, .tree (D.stmts (E4 (A1 b vs.length ars.length d) k j).fst)] [(8, .tref 5)] fun G => b0 (wp_ret ?_))))))); exact I9 G (rg 6) (by show _ = mR (rg 6) [.box [.ref 1, iA (E4 (A1 b vs.length ars.length d) m j).snd], dY b, dI vs, dI ars, dT bd, .tree (D.stmts (E4 (A1 b vs.length ars.length d) m j).fst)]; rw [show m = k by omega] <;> rfl)
 ·refine wp_skip (b0 (wp_seq (wp_block (J0 G (t0 4 (rg 5) (ih ((E4 (A1 b vs.length ars.length d) k j).snd) n (by assumption) (by omega) (by have := bP2 b vs.length ars.length (k := j) (i := k) hB (by omega) r0 (by omega); omega))) [0, 1, 2, 3, 4, 5, 55] [.box [.ref 1, iA (bx7 b vs ars d j k).snd], dY b, dI vs, dI ars, dT bd, .box (pL 2), .tree (D.stmts ((E4 (A1 b vs.length ars.length d) k j).fst ++ [qzS (bx7 b vs ars d j k).fst]))] (aL0 n c [(9, .tref 6), (10, iA k)]) (aP ((E4 (A1 b vs.length ars.length d) k j).fst.length + 1) 152 []) (aK (by omega) bY1) fun G => i8 (b0 (B5 G d9 [(10, iA ((k : Int) + 1))] [wO ((k : Int) + 1)] (o1 (by omega)) fun G => b0 ?_)))))); exact J5 G (k + 1) (by omega) (by omega) (rg 7) (by have e1 : ((E4 (A1 b vs.length ars.length d) (k + 1) j).fst : List c6) = ((E4 (A1 b vs.length ars.length d) k j).fst ++ [qzS (A1 b vs.length ars.length d (E4 (A1 b vs.length ars.length d) k j).snd).fst]) := (by show _ ++ [_] = _ ++ [_]; unfold qzS; rw [c8.eta, c8.eta, c6.eta]; done); (first | rw [e1] | simp only [e1]) <;> rfl)
abbrev aA6 (b : List UInt8) (vs : List Int) (ars : List Int) (d : Nat) (j : Int) := E4 (A1 b vs.length ars.length (d - 1)) (nm b (t5 b vs.length ars.length (j + 1)).snd ibL).toNat ((t5 b vs.length ars.length (j + 1)).snd + 1)
abbrev a22 (b : List UInt8) (vs : List Int) (ars : List Int) (d : Nat) (j : Int) := E4 (A1 b vs.length ars.length (d - 1)) (nm b (aA6 b vs ars d j).snd ieL).toNat ((aA6 b vs ars d j).snd + 1)
abbrev P9 (b : List UInt8) (vs : List Int) (ars : List Int) (d : Nat) (j : Int) : AV := (.agg [iA (A1 b vs.length ars.length d j).fst.kind, iA (A1 b vs.length ars.length d j).fst.target, iA (A1 b vs.length ars.length d j).fst.index.kind, iA (A1 b vs.length ars.length d j).fst.index.value, .tref 5, iA (A1 b vs.length ars.length d j).fst.value.kind, iA (A1 b vs.length ars.length d j).fst.value.value, .tref 6, iA (A1 b vs.length ars.length d j).fst.count, .tref 7, .tref 8])
abbrev P8 (b : List UInt8) (vs : List Int) (ars : List Int) (bd : List c6) (d : Nat) (j : Int) : List It := [.box [.ref 1, iA (A1 b vs.length ars.length d j).snd], dY b, dI vs, dI ars, dT bd, .tree (D.exprs (A1 b vs.length ars.length d j).fst.index.kids), .tree (D.exprs (A1 b vs.length ars.length d j).fst.value.kids), .tree (D.stmts (A1 b vs.length ars.length d j).fst.body), .tree (D.stmts (A1 b vs.length ars.length d j).fst.els)]
abbrev ag8 : It := .box [iA 0, iA 0, iA 0, iA 0, .v (.slice none 0 0), iA 0, iA 0, .v (.slice none 0 0), iA 0, .v (.slice none 0 0), .v (.slice none 0 0)]
abbrev a21 (b : List UInt8) (vs : List Int) (ars : List Int) (j : Int) : It := .box [iA 1, iA (pk b (j + 1) (vs.length : Int)), iA 0, iA 0, .v (.slice none 0 0), iA (t5 b vs.length ars.length (j + 1 + 1)).fst.kind, iA (t5 b vs.length ars.length (j + 1 + 1)).fst.value, .tref 7, iA 0, .v (.slice none 0 0), .v (.slice none 0 0)]
abbrev a20 (b : List UInt8) (vs : List Int) (ars : List Int) (j : Int) : It := .box [iA 1, iA (pk b (j + 1) (vs.length : Int)), iA 0, iA 0, .v (.slice none 0 0), iA (t5 b vs.length ars.length (j + 1 + 1)).fst.kind, iA (t5 b vs.length ars.length (j + 1 + 1)).fst.value, .tref 6, iA 0, .v (.slice none 0 0), .v (.slice none 0 0)]
abbrev a19 (b : List UInt8) (vs : List Int) (j : Int) : It := .box [iA 1, iA (pk b (j + 1) (vs.length : Int)), iA 0, iA 0, .v (.slice none 0 0), iA 0, iA 0, .v (.slice none 0 0), iA 0, .v (.slice none 0 0), .v (.slice none 0 0)]
abbrev ad8 (b : List UInt8) (vs : List Int) (ars : List Int) (j : Int) : It := .tree (D.exprs (t5 b vs.length ars.length (j + 1 + 1)).fst.kids)
abbrev U7 (b : List UInt8) (vs : List Int) (ars : List Int) (j : Int) : It := .box [.ref 1, iA (t5 b vs.length ars.length (j + 1 + 1)).snd]
abbrev aF1 : It := .box [iA 1, iA 0, iA 0, iA 0, .v (.slice none 0 0), iA 0, iA 0, .v (.slice none 0 0), iA 0, .v (.slice none 0 0), .v (.slice none 0 0)]
abbrev a15 (b : List UInt8) (vs : List Int) (ars : List Int) (bd : List c6) (j : Int) (r0 : List It) : List It := .box [.ref 1, iA (t5 b vs.length ars.length (j + 1 + 1)).snd] :: dY b :: dI vs :: dI ars :: dT bd :: .box [iA 1, iA (pk b (j + 1) (vs.length : Int)), iA 0, iA 0, .tref 7, iA (t5 b vs.length ars.length (j + 1 + 1)).fst.kind, iA (t5 b vs.length ars.length (j + 1 + 1)).fst.value, .tref 6, iA 0, .tref 8, .tref 9] :: .tree (D.exprs (t5 b vs.length ars.length (j + 1 + 1)).fst.kids) :: .tree (D.exprs []) :: .tree (D.stmts []) :: r0
abbrev a14 (b : List UInt8) (vs : List Int) (ars : List Int) (bd : List c6) (j : Int) (r0 : List It) : List It := .box [.ref 1, iA (t5 b vs.length ars.length (j + 1 + 1)).snd] :: dY b :: dI vs :: dI ars :: dT bd :: .box [iA 1, iA (pk b (j + 1) (vs.length : Int)), iA 0, iA 0, .tref 7, iA (t5 b vs.length ars.length (j + 1 + 1)).fst.kind, iA (t5 b vs.length ars.length (j + 1 + 1)).fst.value, .tref 6, iA 0, .tref 8, .v (.slice none 0 0)] :: .tree (D.exprs (t5 b vs.length ars.length (j + 1 + 1)).fst.kids) :: .tree (D.exprs []) :: r0
abbrev a13 (b : List UInt8) (vs : List Int) (ars : List Int) (bd : List c6) (j : Int) (r0 : List It) : List It := .box [.ref 1, iA (t5 b vs.length ars.length (j + 1 + 1)).snd] :: dY b :: dI vs :: dI ars :: dT bd :: .box [iA 1, iA (pk b (j + 1) (vs.length : Int)), iA 0, iA 0, .tref 7, iA (t5 b vs.length ars.length (j + 1 + 1)).fst.kind, iA (t5 b vs.length ars.length (j + 1 + 1)).fst.value, .tref 6, iA 0, .v (.slice none 0 0), .v (.slice none 0 0)] :: .tree (D.exprs (t5 b vs.length ars.length (j + 1 + 1)).fst.kids) :: r0
abbrev T6 (r0 : List (Nat × AV)) : List (Nat × AV) := (0, .ptr 0 0) :: (4, .ptr 5 0) :: (6, .ptr 6 0) :: (8, .ptr 7 0) :: r0
abbrev aK9 (b : List UInt8) (vs : List Int) (ars : List Int) (d : Nat) (j : Int) (r0 : List It) : List It := .box [.ref 1, iA (E4 (A1 b vs.length ars.length (d - 1)) (nm b (j + 1 + 1) rbL).toNat (j + 1 + 1 + 1)).snd] :: dY b :: dI vs :: dI ars :: r0
abbrev ag4 (n : Int) (r0 : List (Nat × AV)) : List (Nat × AV) := (0, .ptr 0 0) :: (2, iA n) :: (4, .ptr 5 0) :: (6, .ptr 6 0) :: r0
abbrev O4 (b : List UInt8) (vs : List Int) (ars : List Int) (bd : List c6) (r0 : List It) : List It := dY b :: dI vs :: dI ars :: dT bd :: .box (pL 2) :: ag8 :: r0
abbrev a12 (b : List UInt8) (vs : List Int) (ars : List Int) (j : Int) (r0 : List It) : List It := .tree (D.exprs (n4 b (vs.length : Int) (j + 1 + 1)).kids) :: .tree (D.exprs (t5 b vs.length ars.length (j + 1 + 1 + 2)).fst.kids) :: r0
theorem bf9 (b : List UInt8) (vs ars : List Int) (bd : List c6) (d : Nat) (hd : d ≤ 3) (ih : ∀ (j n c : Int), 1 < d → n = (d : Int) - 1 → 0 ≤ c → c ≤ 2 → 0 ≤ j → j + 2 * cS (d - 1) ≤ 600000000 → j8.ok Tryz.prog (dbC b vs ars bd (d - 1) c.toNat j n c)) (j n : Int) (hn : n = d) (r0 : 0 ≤ j) (r1 : j + cS d ≤ 600000000) : j8.ok Tryz.prog (dsC b vs ars bd d j n) := by
  refine I1 100 Tryz.func92 [.box [.ref 1, iA j], dY b, dI vs, dI ars, dT bd] [(0, .ptr 0 0), (1, pA 2), (2, iA n)] fun G => ?_; have hc := ao7 (d - 1); have hcd := bx0 d; have hcn := ao7 d; have hsm := a32 b vs.length ars.length (k := j + 1) (by omega) (by omega); have hib := bV7 b (j := (t5 b vs.length ars.length (j + 1)).2) (by omega) (by omega); have hbb := bA4 b vs.length ars.length (k := (t5 b vs.length ars.length (j + 1)).2 + 1) (i := (nm b (t5 b vs.length ars.length (j + 1)).2 ibL).toNat) (bK3 hib.1 hib.2 (show 0 ≤ cS (d - 1) by omega)) (bX4 _) (by omega) (by omega); have hie := bV6 b (j := (E4 (A1 b vs.length ars.length (d - 1)) (nm b (t5 b vs.length ars.length (j + 1)).2 ibL).toNat ((t5 b vs.length ars.length (j + 1)).2 + 1)).2) (by omega) (by omega); have hrb := bS1 b (j := j + 1 + 1) (by omega) (by omega); refine wp_seq (i9 G d9 [0, 1, 2, 3, 4, 5, 13] (.box [.ref 1, iA j] :: (O4 b vs ars bd [])) (ag4 n []) fun G => b0 (wp_seq (i9 G (t0 2 [0, 1, 15] (j8.lend (L6 b j H9 (List.cons_ne_nil _ _) (by assumption) (by omega)) [.no, .no, .row 3])) (rg 7) (.box [.ref 1, iA (j + 1)] :: (O4 b vs ars bd [])) (ag4 n [(7, iA (nm b j H9))]) fun G => b0 (wp_seq (i9 G d9 [0, 1, 2, 3, 4, 5, 6, 23] (.box [.ref 1, iA (j + 1)] :: (O4 b vs ars bd [.box [iA (nm b j H9), iA 0, iA 0, iA 0, .v (.slice none 0 0), iA 0, iA 0, .v (.slice none 0 0), iA 0, .v (.slice none 0 0), .v (.slice none 0 0)]])) (ag4 n [(7, iA (nm b j H9)), (8, .ptr 7 0)]) fun G => b0 (wp_seq (wp_block (wp_seq ?_)))))))); cases h0 : (nm b j H9 == 2)
  ·
   have q0 := ne_of_beq_false h0; refine l0 G (H4 (fc h0 fz) (us [(3, 6, 0), (1007, 1007, 0)])) [(27, bA false)] fun G => b0 (rF G false (by kernel_rfl) (wp_seq ?_)); cases h1 : (nm b j H9 == 3)
   ·
    have q1 := ne_of_beq_false h1; refine l0 G (H4 (fc h1 fz) [(3, 0), (4, 0), (1005, 0)]) [(50, bA false)] fun G => b0 (rF G false (by kernel_rfl) (wp_seq ?_)); cases h2 : (nm b j H9 == 4)
    ·
     have q2 := ne_of_beq_false h2; refine l0 G (H4 (fc h2 fz) [(3, 0), (4, 0), (1005, 0)]) [(79, bA false)] fun G => b0 (rF G false (by kernel_rfl) (wp_seq (wp_seq (l0 G d9 [(15, bA (nm b j H9 != 5))] fun G => b0 (rcN G (fun h3 q3 => ?_) fun h3 q3 => ?_)))))
     · refine wp_skip (b0 (wp_seq (i9 G (t0 4 [0, 1] (o5 b (j + 1) ((vs.length : Int)) (by omega) (by omega))) (rg 8) (.box [.ref 1, iA (j + 1 + 1)] :: (O4 b vs ars bd [.box [iA (nm b j H9), iA (pk b (j + 1) (vs.length : Int)), iA 0, iA 0, .v (.slice none 0 0), iA 0, iA 0, .v (.slice none 0 0), iA 0, .v (.slice none 0 0), .v (.slice none 0 0)]])) (T6 []) fun G => b0 (i9 G (t0 2 (rg 5) (Y2 b vs ars bd (j + 1 + 1) (by omega) (by omega))) [0, 1, 2, 3, 4, 6, 7, 24] [U7 b vs ars j, dY b, dI vs, dI ars, dT bd, ag8, .box [iA (nm b j H9), iA (pk b (j + 1) (vs.length : Int)), iA 0, iA 0, .v (.slice none 0 0), iA (t5 b vs.length ars.length (j + 1 + 1)).fst.kind, iA (t5 b vs.length ars.length (j + 1 + 1)).fst.value, .tref 7, iA 0, .v (.slice none 0 0), .v (.slice none 0 0)], ad8 b vs ars j] [(6, .ptr 5 0), (8, .ptr 6 0)] fun G => i8 (b0 (wp_seq (i9 G d9 [0, 1, 2, 3, 4, 5, 7] [U7 b vs ars j, dY b, dI vs, dI ars, dT bd, .box [iA (nm b j H9), iA (pk b (j + 1) (vs.length : Int)), iA 0, iA 0, .v (.slice none 0 0), iA (t5 b vs.length ars.length (j + 1 + 1)).fst.kind, iA (t5 b vs.length ars.length (j + 1 + 1)).fst.value, .tref 6, iA 0, .v (.slice none 0 0), .v (.slice none 0 0)], ad8 b vs ars j] [(6, .ptr 5 0)] fun G => b0 (wp_ret ?_)))))))); obtain ⟨ρ, G⟩ := G.nilT 7 (.exprs []) [.box [.ref 1, iA (t5 b vs.length ars.length (j + 1 + 1)).snd], dY b, dI vs, dI ars, dT bd, .box [iA (nm b j H9), iA (pk b (j + 1) (vs.length : Int)), iA 0, iA 0, .tref 7, iA (t5 b vs.length ars.length (j + 1 + 1)).fst.kind, iA (t5 b vs.length ars.length (j + 1 + 1)).fst.value, .tref 6, iA 0, .v (.slice none 0 0), .v (.slice none 0 0)], .tree (D.exprs (t5 b vs.length ars.length (j + 1 + 1)).fst.kids)] [(6, .ptr 5 0)]; obtain ⟨ρ, G⟩ := G.nilT 8 (.stmts []) [.box [.ref 1, iA (t5 b vs.length ars.length (j + 1 + 1)).snd], dY b, dI vs, dI ars, dT bd, .box [iA (nm b j H9), iA (pk b (j + 1) (vs.length : Int)), iA 0, iA 0, .tref 7, iA (t5 b vs.length ars.length (j + 1 + 1)).fst.kind, iA (t5 b vs.length ars.length (j + 1 + 1)).fst.value, .tref 6, iA 0, .tref 8, .v (.slice none 0 0)], .tree (D.exprs (t5 b vs.length ars.length (j + 1 + 1)).fst.kids), .tree (D.exprs [])] [(6, .ptr 5 0)]; obtain ⟨ρ, G⟩ := G.nilT 9 (.stmts []) [.box [.ref 1, iA (t5 b vs.length ars.length (j + 1 + 1)).snd], dY b, dI vs, dI ars, dT bd, .box [iA (nm b j H9), iA (pk b (j + 1) (vs.length : Int)), iA 0, iA 0, .tref 7, iA (t5 b vs.length ars.length (j + 1 + 1)).fst.kind, iA (t5 b vs.length ars.length (j + 1 + 1)).fst.value, .tref 6, iA 0, .tref 8, .tref 9], .tree (D.exprs (t5 b vs.length ars.length (j + 1 + 1)).fst.kids), .tree (D.exprs []), .tree (D.stmts [])] [(6, .ptr 5 0)]; exact W4 (.agg [iA (nm b j H9), iA (pk b (j + 1) (vs.length : Int)), iA 0, iA 0, .tref 7, iA (t5 b vs.length ars.length (j + 1 + 1)).fst.kind, iA (t5 b vs.length ars.length (j + 1 + 1)).fst.value, .tref 6, iA 0, .tref 8, .tref 9]) G [0, 1, 2, 3, 4, 7, 6, 8, 9] (by show _ = AV.ren (nth [0, 1, 2, 3, 4, 7, 6, 8, 9]) (P9 b vs ars d j); unfold P9; have e1 : ((A1 b vs.length ars.length d j).fst.kind : Int) = (nm b j H9) := (by rw [aa2 (by omega) (by omega), bF4 (by omega)]; show (5 : Int) = _; omega); rw [e1, aa2 (by omega) (by omega), bF4 (by omega)] <;> rfl) (by show _ = mR [0, 1, 2, 3, 4, 7, 6, 8, 9] (P8 b vs ars bd d j); unfold P8; rw [aa2 (by omega) (by omega), bF4 (by omega)] <;> rfl)
     · refine i9 G d9 (rg 8) (.box [.ref 1, iA (j + 1)] :: (O4 b vs ars bd [aF1])) (T6 []) fun G => b0 (wp_seq (i9 G (t0 4 [0, 1] (o5 b (j + 1) ((vs.length : Int)) (by omega) (by omega))) (rg 8) (.box [.ref 1, iA (j + 1 + 1)] :: (O4 b vs ars bd [a19 b vs j])) (T6 []) fun G => b0 (i9 G (t0 2 (rg 5) (Y2 b vs ars bd (j + 1 + 1) (by omega) (by omega))) [0, 1, 2, 3, 4, 6, 7, 24] [U7 b vs ars j, dY b, dI vs, dI ars, dT bd, ag8, a21 b vs ars j, ad8 b vs ars j] [(6, .ptr 5 0), (8, .ptr 6 0)] fun G => i8 (b0 (wp_seq (i9 G d9 [0, 1, 2, 3, 4, 5, 7] [U7 b vs ars j, dY b, dI vs, dI ars, dT bd, a20 b vs ars j, ad8 b vs ars j] [(6, .ptr 5 0)] fun G => b0 (wp_ret ?_))))))); obtain ⟨ρ, G⟩ := G.nilT 7 (.exprs []) (a13 b vs ars bd j []) [(6, .ptr 5 0)]; obtain ⟨ρ, G⟩ := G.nilT 8 (.stmts []) (a14 b vs ars bd j []) [(6, .ptr 5 0)]; obtain ⟨ρ, G⟩ := G.nilT 9 (.stmts []) (a15 b vs ars bd j []) [(6, .ptr 5 0)]; exact W4 (.agg [iA 1, iA (pk b (j + 1) (vs.length : Int)), iA 0, iA 0, .tref 7, iA (t5 b vs.length ars.length (j + 1 + 1)).fst.kind, iA (t5 b vs.length ars.length (j + 1 + 1)).fst.value, .tref 6, iA 0, .tref 8, .tref 9]) G [0, 1, 2, 3, 4, 7, 6, 8, 9] (by show _ = AV.ren (nth [0, 1, 2, 3, 4, 7, 6, 8, 9]) (P9 b vs ars d j); unfold P9; rw [aa2 (by omega) (by omega), aR4 (by omega)] <;> rfl) (by show _ = mR [0, 1, 2, 3, 4, 7, 6, 8, 9] (P8 b vs ars bd d j); unfold P8; rw [aa2 (by omega) (by omega), aR4 (by omega)] <;> rfl)
    ·
     have q2 := eq_of_beq h2; refine l0 G (H4 (fc h2 fz) [(3, 0), (4, 0), (1005, 0)]) [(79, bA (decide (n > 1)))] fun G => b0 (rcD G (fun h4 q4 => ?_) fun h4 q4 => ?_)
     ·
      refine wp_seq (wp_seq (F5 G d9 (T6 [(15, bA (nm b j H9 != 5))]) fun G => b0 ?_)); cases h5 : (nm b j H9 != 5)
      · have q5 := bne_eq_false_iff_eq.1 h5; exact False.elim (by omega)
      · have q5 := bne_iff_ne.1 h5; refine rT G _ h5 (i9 G d9 (rg 8) (.box [.ref 1, iA (j + 1)] :: (O4 b vs ars bd [aF1])) (T6 []) fun G => b0 (wp_seq (i9 G (t0 4 [0, 1] (o5 b (j + 1) ((vs.length : Int)) (by omega) (by omega))) (rg 8) (.box [.ref 1, iA (j + 1 + 1)] :: (O4 b vs ars bd [a19 b vs j])) (T6 []) fun G => b0 (i9 G (t0 2 (rg 5) (Y2 b vs ars bd (j + 1 + 1) (by omega) (by omega))) [0, 1, 2, 3, 4, 6, 7, 24] [U7 b vs ars j, dY b, dI vs, dI ars, dT bd, ag8, a21 b vs ars j, ad8 b vs ars j] [(6, .ptr 5 0), (8, .ptr 6 0)] fun G => i8 (b0 (wp_seq (i9 G d9 [0, 1, 2, 3, 4, 5, 7] [U7 b vs ars j, dY b, dI vs, dI ars, dT bd, a20 b vs ars j, ad8 b vs ars j] [(6, .ptr 5 0)] fun G => b0 (wp_ret ?_)))))))); obtain ⟨ρ, G⟩ := G.nilT 7 (.exprs []) (a13 b vs ars bd j []) [(6, .ptr 5 0)]; obtain ⟨ρ, G⟩ := G.nilT 8 (.stmts []) (a14 b vs ars bd j []) [(6, .ptr 5 0)]; obtain ⟨ρ, G⟩ := G.nilT 9 (.stmts []) (a15 b vs ars bd j []) [(6, .ptr 5 0)]; exact W4 (.agg [iA 1, iA (pk b (j + 1) (vs.length : Int)), iA 0, iA 0, .tref 7, iA (t5 b vs.length ars.length (j + 1 + 1)).fst.kind, iA (t5 b vs.length ars.length (j + 1 + 1)).fst.value, .tref 6, iA 0, .tref 8, .tref 9]) G [0, 1, 2, 3, 4, 7, 6, 8, 9] (by show _ = AV.ren (nth [0, 1, 2, 3, 4, 7, 6, 8, 9]) (P9 b vs ars d j); unfold P9; rw [aa2 (by omega) (by omega), aR4 (by omega)] <;> rfl) (by show _ = mR [0, 1, 2, 3, 4, 7, 6, 8, 9] (P8 b vs ars bd d j); unfold P8; rw [aa2 (by omega) (by omega), aR4 (by omega)] <;> rfl)
     · refine wp_seq (i9 G (t0 2 [0, 1, 16] (j8.lend (L6 b (j + 1) rcL (by simp [h0, h1, h2, h4]) (by omega) (by omega)) [.no, .no, .row 3])) (rg 8) (.box [.ref 1, iA (j + 1 + 1)] :: (O4 b vs ars bd [.box [iA (nm b j H9), iA 0, iA 0, iA 0, .v (.slice none 0 0), iA 0, iA 0, .v (.slice none 0 0), iA (nm b (j + 1) rcL), .v (.slice none 0 0), .v (.slice none 0 0)]])) (ag4 n [(8, .ptr 7 0)]) fun G => b0 (F4 G (Q8 (E2 6 [0, 1, 48] (j8.lend (L6 b (j + 1 + 1) rbL (by simp [h0, h1, h2, h4]) (by omega) (by omega)) [.no, .no, .row 3]) (E2 7 (rg 5) (ih (j + 1 + 1 + 1) (n - 1) (nm b (j + 1 + 1) rbL) (by omega) (by omega) (by omega) (by omega) (by omega) (by omega)) Q7)) fz []) [0, 0, 0, 4, 0, 0, 48, 127, 255, 511] [0, 1, 2, 3, 4, 6, 7, 64] (aK9 b vs ars d j [dT bd, ag8, .box [iA (nm b j H9), iA 0, iA 0, iA 0, .v (.slice none 0 0), iA 0, iA 0, .v (.slice none 0 0), iA (nm b (j + 1) rcL), .tref 7, .v (.slice none 0 0)], .tree (D.stmts (E4 (A1 b vs.length ars.length (d - 1)) (nm b (j + 1 + 1) rbL).toNat (j + 1 + 1 + 1)).fst)]) [(6, .ptr 5 0), (8, .ptr 6 0)] [wO (n - 1)] (o1 (by omega)) fun G => i8 (b0 (wp_seq (i9 G d9 [0, 1, 2, 3, 4, 5, 7] (aK9 b vs ars d j [dT bd, .box [iA (nm b j H9), iA 0, iA 0, iA 0, .v (.slice none 0 0), iA 0, iA 0, .v (.slice none 0 0), iA (nm b (j + 1) rcL), .tref 6, .v (.slice none 0 0)], .tree (D.stmts (E4 (A1 b vs.length ars.length (d - 1)) (nm b (j + 1 + 1) rbL).toNat (j + 1 + 1 + 1)).fst)]) [(6, .ptr 5 0)] fun G => b0 (wp_ret ?_)))))); obtain ⟨ρ, G⟩ := G.nilT 7 (.exprs []) (aK9 b vs ars d j [dT bd, .box [iA (nm b j H9), iA 0, iA 0, iA 0, .tref 7, iA 0, iA 0, .v (.slice none 0 0), iA (nm b (j + 1) rcL), .tref 6, .v (.slice none 0 0)], .tree (D.stmts (E4 (A1 b vs.length ars.length (d - 1)) (nm b (j + 1 + 1) rbL).toNat (j + 1 + 1 + 1)).fst)]) [(6, .ptr 5 0)]; obtain ⟨ρ, G⟩ := G.nilT 8 (.exprs []) (aK9 b vs ars d j [dT bd, .box [iA (nm b j H9), iA 0, iA 0, iA 0, .tref 7, iA 0, iA 0, .tref 8, iA (nm b (j + 1) rcL), .tref 6, .v (.slice none 0 0)], .tree (D.stmts (E4 (A1 b vs.length ars.length (d - 1)) (nm b (j + 1 + 1) rbL).toNat (j + 1 + 1 + 1)).fst), .tree (D.exprs [])]) [(6, .ptr 5 0)]; obtain ⟨ρ, G⟩ := G.nilT 9 (.stmts []) (aK9 b vs ars d j [dT bd, .box [iA (nm b j H9), iA 0, iA 0, iA 0, .tref 7, iA 0, iA 0, .tref 8, iA (nm b (j + 1) rcL), .tref 6, .tref 9], .tree (D.stmts (E4 (A1 b vs.length ars.length (d - 1)) (nm b (j + 1 + 1) rbL).toNat (j + 1 + 1 + 1)).fst), .tree (D.exprs []), .tree (D.exprs [])]) [(6, .ptr 5 0)]; exact W4 (.agg [iA (nm b j H9), iA 0, iA 0, iA 0, .tref 7, iA 0, iA 0, .tref 8, iA (nm b (j + 1) rcL), .tref 6, .tref 9]) G [0, 1, 2, 3, 4, 7, 8, 6, 9] (by show _ = AV.ren (nth [0, 1, 2, 3, 4, 7, 8, 6, 9]) (P9 b vs ars d j); unfold P9; have e1 : ((A1 b vs.length ars.length d j).fst.kind : Int) = (nm b j H9) := (by rw [aU5 (by omega) (by omega)]; show (4 : Int) = _; omega); rw [e1, aU5 (by omega) (by omega)] <;> rfl) (by show _ = mR [0, 1, 2, 3, 4, 7, 8, 6, 9] (P8 b vs ars bd d j); unfold P8; rw [aU5 (by omega) (by omega)] <;> rfl)
   ·
    have q1 := eq_of_beq h1; refine F5 G (H4 (fc h1 fz) [(3, 0), (4, 0), (1005, 0)]) (ag4 n [(7, iA (nm b j H9)), (8, .ptr 7 0), (50, bA (decide (n > 1)))]) fun G => b0 (rcD G (fun h6 q6 => ?_) fun h6 q6 => ?_)
    ·
     refine wp_seq ?_; cases h7 : (nm b j H9 == 4)
     ·
      have q7 := ne_of_beq_false h7; refine l0 G (H4 (fc h7 fz) [(3, 0), (4, 0), (1005, 0)]) [(79, bA false)] fun G => b0 (rF G false (by kernel_rfl) (wp_seq (wp_seq (F5 G d9 (T6 [(15, bA (nm b j H9 != 5))]) fun G => b0 ?_)))); cases h8 : (nm b j H9 != 5)
      · have q8 := bne_eq_false_iff_eq.1 h8; exact False.elim (by omega)
      · have q8 := bne_iff_ne.1 h8; refine rT G _ h8 (i9 G d9 (rg 8) (.box [.ref 1, iA (j + 1)] :: (O4 b vs ars bd [aF1])) (T6 []) fun G => b0 (wp_seq (i9 G (t0 4 [0, 1] (o5 b (j + 1) ((vs.length : Int)) (by omega) (by omega))) (rg 8) (.box [.ref 1, iA (j + 1 + 1)] :: (O4 b vs ars bd [a19 b vs j])) (T6 []) fun G => b0 (i9 G (t0 2 (rg 5) (Y2 b vs ars bd (j + 1 + 1) (by omega) (by omega))) [0, 1, 2, 3, 4, 6, 7, 24] [U7 b vs ars j, dY b, dI vs, dI ars, dT bd, ag8, a21 b vs ars j, ad8 b vs ars j] [(6, .ptr 5 0), (8, .ptr 6 0)] fun G => i8 (b0 (wp_seq (i9 G d9 [0, 1, 2, 3, 4, 5, 7] [U7 b vs ars j, dY b, dI vs, dI ars, dT bd, a20 b vs ars j, ad8 b vs ars j] [(6, .ptr 5 0)] fun G => b0 (wp_ret ?_)))))))); obtain ⟨ρ, G⟩ := G.nilT 7 (.exprs []) (a13 b vs ars bd j []) [(6, .ptr 5 0)]; obtain ⟨ρ, G⟩ := G.nilT 8 (.stmts []) (a14 b vs ars bd j []) [(6, .ptr 5 0)]; obtain ⟨ρ, G⟩ := G.nilT 9 (.stmts []) (a15 b vs ars bd j []) [(6, .ptr 5 0)]; exact W4 (.agg [iA 1, iA (pk b (j + 1) (vs.length : Int)), iA 0, iA 0, .tref 7, iA (t5 b vs.length ars.length (j + 1 + 1)).fst.kind, iA (t5 b vs.length ars.length (j + 1 + 1)).fst.value, .tref 6, iA 0, .tref 8, .tref 9]) G [0, 1, 2, 3, 4, 7, 6, 8, 9] (by show _ = AV.ren (nth [0, 1, 2, 3, 4, 7, 6, 8, 9]) (P9 b vs ars d j); unfold P9; rw [aa2 (by omega) (by omega), aR4 (by omega)] <;> rfl) (by show _ = mR [0, 1, 2, 3, 4, 7, 6, 8, 9] (P8 b vs ars bd d j); unfold P8; rw [aa2 (by omega) (by omega), aR4 (by omega)] <;> rfl)
     · have q7 := eq_of_beq h7; exact False.elim (by omega)
    ·
     refine wp_seq (i9 G (t0 2 (rg 5) (Y2 b vs ars bd (j + 1) (by omega) (by omega))) [0, 1, 2, 3, 4, 5, 6, 7, 24] (.box [.ref 1, iA (t5 b vs.length ars.length (j + 1)).snd] :: (O4 b vs ars bd [.box [iA (nm b j H9), iA 0, iA 0, iA 0, .v (.slice none 0 0), iA (t5 b vs.length ars.length (j + 1)).fst.kind, iA (t5 b vs.length ars.length (j + 1)).fst.value, .tref 8, iA 0, .v (.slice none 0 0), .v (.slice none 0 0)], .tree (D.exprs (t5 b vs.length ars.length (j + 1)).fst.kids)])) (ag4 n [(8, .ptr 7 0)]) fun G => b0 (wp_seq (F4 G (Q8 (E2 6 [0, 1, 49] (j8.lend (L6 b ((t5 b vs.length ars.length (j + 1)).snd) ibL (by simp [h0, h1, h6]) (by omega) (by omega)) [.no, .no, .row 3]) (E2 7 (rg 5) (ih ((t5 b vs.length ars.length (j + 1)).snd + 1) (n - 1) (nm b (t5 b vs.length ars.length (j + 1)).snd ibL) (by omega) (by omega) (by omega) (by omega) (by omega) (by omega)) Q7)) fz []) [0, 0, 0, 4, 0, 0, 48, 127, 255, 511] [0, 1, 2, 3, 4, 5, 6, 7, 8, 65] (.box [.ref 1, iA (aA6 b vs ars d j).snd] :: (O4 b vs ars bd [.box [iA (nm b j H9), iA 0, iA 0, iA 0, .v (.slice none 0 0), iA (t5 b vs.length ars.length (j + 1)).fst.kind, iA (t5 b vs.length ars.length (j + 1)).fst.value, .tref 8, iA 0, .tref 9, .v (.slice none 0 0)], .tree (D.exprs (t5 b vs.length ars.length (j + 1)).fst.kids), .tree (D.stmts (aA6 b vs ars d j).fst)])) (ag4 n [(8, .ptr 7 0)]) [wO (n - 1)] (o1 (by omega)) fun G => b0 (F4 G (Q8 (E2 6 [0, 1, 50] (j8.lend (L6 b ((E4 (A1 b vs.length ars.length (d - 1)) (nm b (t5 b vs.length ars.length (j + 1)).snd ibL).toNat ((t5 b vs.length ars.length (j + 1)).snd + 1)).snd) ieL (by simp [h0, h1, h6]) (by omega) (by omega)) [.no, .no, .row 3]) (E2 7 (rg 5) (ih ((E4 (A1 b vs.length ars.length (d - 1)) (nm b (t5 b vs.length ars.length (j + 1)).snd ibL).toNat ((t5 b vs.length ars.length (j + 1)).snd + 1)).snd + 1) (n - 1) (nm b (E4 (A1 b vs.length ars.length (d - 1)) (nm b (t5 b vs.length ars.length (j + 1)).snd ibL).toNat ((t5 b vs.length ars.length (j + 1)).snd + 1)).snd ieL) (by omega) (by omega) (by omega) (by omega) (by omega) (by omega)) Q7)) fz []) [0, 0, 0, 4, 0, 0, 48, 127, 255, 511] [0, 1, 2, 3, 4, 6, 7, 8, 9, 66] [.box [.ref 1, iA (a22 b vs ars d j).snd], dY b, dI vs, dI ars, dT bd, ag8, .box [iA (nm b j H9), iA 0, iA 0, iA 0, .v (.slice none 0 0), iA (t5 b vs.length ars.length (j + 1)).fst.kind, iA (t5 b vs.length ars.length (j + 1)).fst.value, .tref 7, iA 0, .tref 8, .tref 9], .tree (D.exprs (t5 b vs.length ars.length (j + 1)).fst.kids), .tree (D.stmts (aA6 b vs ars d j).fst), .tree (D.stmts (a22 b vs ars d j).fst)] [(6, .ptr 5 0), (8, .ptr 6 0)] [wO (n - 1)] (o1 (by omega)) fun G => i8 (b0 (wp_seq (i9 G d9 [0, 1, 2, 3, 4, 5, 7, 8, 9] [.box [.ref 1, iA (a22 b vs ars d j).snd], dY b, dI vs, dI ars, dT bd, .box [iA (nm b j H9), iA 0, iA 0, iA 0, .v (.slice none 0 0), iA (t5 b vs.length ars.length (j + 1)).fst.kind, iA (t5 b vs.length ars.length (j + 1)).fst.value, .tref 6, iA 0, .tref 7, .tref 8], .tree (D.exprs (t5 b vs.length ars.length (j + 1)).fst.kids), .tree (D.stmts (aA6 b vs ars d j).fst), .tree (D.stmts (a22 b vs ars d j).fst)] [(6, .ptr 5 0)] fun G => b0 (wp_ret ?_)))))))); obtain ⟨ρ, G⟩ := G.nilT 9 (.exprs []) [.box [.ref 1, iA (E4 (A1 b vs.length ars.length (d - 1)) (nm b (E4 (A1 b vs.length ars.length (d - 1)) (nm b (t5 b vs.length ars.length (j + 1)).snd ibL).toNat ((t5 b vs.length ars.length (j + 1)).snd + 1)).snd ieL).toNat ((E4 (A1 b vs.length ars.length (d - 1)) (nm b (t5 b vs.length ars.length (j + 1)).snd ibL).toNat ((t5 b vs.length ars.length (j + 1)).snd + 1)).snd + 1)).snd], dY b, dI vs, dI ars, dT bd, .box [iA (nm b j H9), iA 0, iA 0, iA 0, .tref 9, iA (t5 b vs.length ars.length (j + 1)).fst.kind, iA (t5 b vs.length ars.length (j + 1)).fst.value, .tref 6, iA 0, .tref 7, .tref 8], .tree (D.exprs (t5 b vs.length ars.length (j + 1)).fst.kids), .tree (D.stmts (E4 (A1 b vs.length ars.length (d - 1)) (nm b (t5 b vs.length ars.length (j + 1)).snd ibL).toNat ((t5 b vs.length ars.length (j + 1)).snd + 1)).fst), .tree (D.stmts (E4 (A1 b vs.length ars.length (d - 1)) (nm b (E4 (A1 b vs.length ars.length (d - 1)) (nm b (t5 b vs.length ars.length (j + 1)).snd ibL).toNat ((t5 b vs.length ars.length (j + 1)).snd + 1)).snd ieL).toNat ((E4 (A1 b vs.length ars.length (d - 1)) (nm b (t5 b vs.length ars.length (j + 1)).snd ibL).toNat ((t5 b vs.length ars.length (j + 1)).snd + 1)).snd + 1)).fst)] [(6, .ptr 5 0)]
     exact W4 (.agg [iA (nm b j H9), iA 0, iA 0, iA 0, .tref 9, iA (t5 b vs.length ars.length (j + 1)).fst.kind, iA (t5 b vs.length ars.length (j + 1)).fst.value, .tref 6, iA 0, .tref 7, .tref 8]) G [0, 1, 2, 3, 4, 9, 6, 7, 8] (by show _ = AV.ren (nth [0, 1, 2, 3, 4, 9, 6, 7, 8]) (P9 b vs ars d j); unfold P9; have e1 : ((A1 b vs.length ars.length d j).fst.kind : Int) = (nm b j H9) := (by rw [aU6 (by omega) (by omega)]; show (3 : Int) = _; omega); rw [e1, aU6 (by omega) (by omega)] <;> rfl) (by show _ = mR [0, 1, 2, 3, 4, 9, 6, 7, 8] (P8 b vs ars bd d j); unfold P8; rw [aU6 (by omega) (by omega)] <;> rfl)
  ·
   have q0 := eq_of_beq h0; refine F5 G (H4 (fc h0 fz) (us [(3, 6, 0), (1007, 1007, 0)])) (ag4 n [(7, iA (nm b j H9)), (8, .ptr 7 0), (27, bA (decide ((ars.length : Int) > 0)))]) fun G => b0 (rcD G (fun h9 q9 => ?_) fun h9 q9 => ?_)
   ·
    refine wp_seq ?_; cases h10 : (nm b j H9 == 3)
    ·
     have q10 := ne_of_beq_false h10; refine F5 G (H4 (fc h10 fz) [(3, 0), (4, 0), (1005, 0)]) (ag4 n [(7, iA (nm b j H9)), (8, .ptr 7 0), (50, bA false)]) fun G => b0 (rF G false (by kernel_rfl) (wp_seq ?_)); cases h11 : (nm b j H9 == 4)
     ·
      have q11 := ne_of_beq_false h11; refine l0 G (H4 (fc h11 fz) [(3, 0), (4, 0), (1005, 0)]) [(79, bA false)] fun G => b0 (rF G false (by kernel_rfl) (wp_seq (wp_seq (F5 G d9 (T6 [(15, bA (nm b j H9 != 5))]) fun G => b0 ?_)))); cases h12 : (nm b j H9 != 5)
      · have q12 := bne_eq_false_iff_eq.1 h12; exact False.elim (by omega)
      · have q12 := bne_iff_ne.1 h12; refine rT G _ h12 (i9 G d9 (rg 8) (.box [.ref 1, iA (j + 1)] :: (O4 b vs ars bd [aF1])) (T6 []) fun G => b0 (wp_seq (i9 G (t0 4 [0, 1] (o5 b (j + 1) ((vs.length : Int)) (by omega) (by omega))) (rg 8) (.box [.ref 1, iA (j + 1 + 1)] :: (O4 b vs ars bd [a19 b vs j])) (T6 []) fun G => b0 (i9 G (t0 2 (rg 5) (Y2 b vs ars bd (j + 1 + 1) (by omega) (by omega))) [0, 1, 2, 3, 4, 6, 7, 24] [U7 b vs ars j, dY b, dI vs, dI ars, dT bd, ag8, a21 b vs ars j, ad8 b vs ars j] [(6, .ptr 5 0), (8, .ptr 6 0)] fun G => i8 (b0 (wp_seq (i9 G d9 [0, 1, 2, 3, 4, 5, 7] [U7 b vs ars j, dY b, dI vs, dI ars, dT bd, a20 b vs ars j, ad8 b vs ars j] [(6, .ptr 5 0)] fun G => b0 (wp_ret ?_)))))))); obtain ⟨ρ, G⟩ := G.nilT 7 (.exprs []) (a13 b vs ars bd j []) [(6, .ptr 5 0)]; obtain ⟨ρ, G⟩ := G.nilT 8 (.stmts []) (a14 b vs ars bd j []) [(6, .ptr 5 0)]; obtain ⟨ρ, G⟩ := G.nilT 9 (.stmts []) (a15 b vs ars bd j []) [(6, .ptr 5 0)]; exact W4 (.agg [iA 1, iA (pk b (j + 1) (vs.length : Int)), iA 0, iA 0, .tref 7, iA (t5 b vs.length ars.length (j + 1 + 1)).fst.kind, iA (t5 b vs.length ars.length (j + 1 + 1)).fst.value, .tref 6, iA 0, .tref 8, .tref 9]) G [0, 1, 2, 3, 4, 7, 6, 8, 9] (by show _ = AV.ren (nth [0, 1, 2, 3, 4, 7, 6, 8, 9]) (P9 b vs ars d j); unfold P9; rw [aa2 (by omega) (by omega), aR4 (by omega)] <;> rfl) (by show _ = mR [0, 1, 2, 3, 4, 7, 6, 8, 9] (P8 b vs ars bd d j); unfold P8; rw [aa2 (by omega) (by omega), aR4 (by omega)] <;> rfl)
     · have q11 := eq_of_beq h11; exact False.elim (by omega)
    · have q10 := eq_of_beq h10; exact False.elim (by omega)
   ·
    refine wp_seq (i9 G (t0 4 [0, 1] (o5 b (j + 1) ((ars.length : Int)) (by omega) (by omega))) (rg 8) (.box [.ref 1, iA (j + 1 + 1)] :: (O4 b vs ars bd [.box [iA (nm b j H9), iA (pk b (j + 1) (ars.length : Int)), iA 0, iA 0, .v (.slice none 0 0), iA 0, iA 0, .v (.slice none 0 0), iA 0, .v (.slice none 0 0), .v (.slice none 0 0)]])) (T6 []) fun G => b0 (wp_seq (i9 G (t0 2 (rg 5) (am1 b (j + 1 + 1) vs ars bd (by omega) (by omega))) [0, 1, 2, 3, 4, 5, 6, 7, 24] (.box [.ref 1, iA (j + 1 + 1 + 2)] :: (O4 b vs ars bd [.box [iA (nm b j H9), iA (pk b (j + 1) (ars.length : Int)), iA (n4 b (vs.length : Int) (j + 1 + 1)).kind, iA (n4 b (vs.length : Int) (j + 1 + 1)).value, .tref 8, iA 0, iA 0, .v (.slice none 0 0), iA 0, .v (.slice none 0 0), .v (.slice none 0 0)], .tree (D.exprs (n4 b (vs.length : Int) (j + 1 + 1)).kids)])) (T6 []) fun G => b0 (i9 G (t0 2 (rg 5) (Y2 b vs ars bd (j + 1 + 1 + 2) (by omega) (by omega))) [0, 1, 2, 3, 4, 6, 7, 8, 25] (.box [.ref 1, iA (t5 b vs.length ars.length (j + 1 + 1 + 2)).snd] :: dY b :: dI vs :: dI ars :: dT bd :: ag8 :: .box [iA (nm b j H9), iA (pk b (j + 1) (ars.length : Int)), iA (n4 b (vs.length : Int) (j + 1 + 1)).kind, iA (n4 b (vs.length : Int) (j + 1 + 1)).value, .tref 7, iA (t5 b vs.length ars.length (j + 1 + 1 + 2)).fst.kind, iA (t5 b vs.length ars.length (j + 1 + 1 + 2)).fst.value, .tref 8, iA 0, .v (.slice none 0 0), .v (.slice none 0 0)] :: (a12 b vs ars j [])) [(6, .ptr 5 0), (8, .ptr 6 0)] fun G => i8 (b0 (wp_seq (i9 G d9 [0, 1, 2, 3, 4, 5, 7, 8] (.box [.ref 1, iA (t5 b vs.length ars.length (j + 1 + 1 + 2)).snd] :: dY b :: dI vs :: dI ars :: dT bd :: .box [iA (nm b j H9), iA (pk b (j + 1) (ars.length : Int)), iA (n4 b (vs.length : Int) (j + 1 + 1)).kind, iA (n4 b (vs.length : Int) (j + 1 + 1)).value, .tref 6, iA (t5 b vs.length ars.length (j + 1 + 1 + 2)).fst.kind, iA (t5 b vs.length ars.length (j + 1 + 1 + 2)).fst.value, .tref 7, iA 0, .v (.slice none 0 0), .v (.slice none 0 0)] :: (a12 b vs ars j [])) [(6, .ptr 5 0)] fun G => b0 (wp_ret ?_)))))))); obtain ⟨ρ, G⟩ := G.nilT 8 (.stmts []) (.box [.ref 1, iA (t5 b vs.length ars.length (j + 1 + 1 + 2)).snd] :: dY b :: dI vs :: dI ars :: dT bd :: .box [iA (nm b j H9), iA (pk b (j + 1) (ars.length : Int)), iA (n4 b (vs.length : Int) (j + 1 + 1)).kind, iA (n4 b (vs.length : Int) (j + 1 + 1)).value, .tref 6, iA (t5 b vs.length ars.length (j + 1 + 1 + 2)).fst.kind, iA (t5 b vs.length ars.length (j + 1 + 1 + 2)).fst.value, .tref 7, iA 0, .tref 8, .v (.slice none 0 0)] :: (a12 b vs ars j [])) [(6, .ptr 5 0)]; obtain ⟨ρ, G⟩ := G.nilT 9 (.stmts []) (.box [.ref 1, iA (t5 b vs.length ars.length (j + 1 + 1 + 2)).snd] :: dY b :: dI vs :: dI ars :: dT bd :: .box [iA (nm b j H9), iA (pk b (j + 1) (ars.length : Int)), iA (n4 b (vs.length : Int) (j + 1 + 1)).kind, iA (n4 b (vs.length : Int) (j + 1 + 1)).value, .tref 6, iA (t5 b vs.length ars.length (j + 1 + 1 + 2)).fst.kind, iA (t5 b vs.length ars.length (j + 1 + 1 + 2)).fst.value, .tref 7, iA 0, .tref 8, .tref 9] :: (a12 b vs ars j [.tree (D.stmts [])])) [(6, .ptr 5 0)]
    exact W4 (.agg [iA (nm b j H9), iA (pk b (j + 1) (ars.length : Int)), iA (n4 b (vs.length : Int) (j + 1 + 1)).kind, iA (n4 b (vs.length : Int) (j + 1 + 1)).value, .tref 6, iA (t5 b vs.length ars.length (j + 1 + 1 + 2)).fst.kind, iA (t5 b vs.length ars.length (j + 1 + 1 + 2)).fst.value, .tref 7, iA 0, .tref 8, .tref 9]) G [0, 1, 2, 3, 4, 6, 7, 8, 9] (by show _ = AV.ren (nth [0, 1, 2, 3, 4, 6, 7, 8, 9]) (P9 b vs ars d j); unfold P9; have e1 : ((A1 b vs.length ars.length d j).fst.kind : Int) = (nm b j H9) := (by rw [be8 (by omega) (by omega)]; show (2 : Int) = _; omega); rw [e1, be8 (by omega) (by omega)] <;> rfl) (by show _ = mR [0, 1, 2, 3, 4, 6, 7, 8, 9] (P8 b vs ars bd d j); unfold P8; rw [be8 (by omega) (by omega)] <;> rfl)
theorem aS5 (b : List UInt8) (vs ars : List Int) (bd : List c6) (d : Nat) (h : ∀ (j n : Int), n = d → 0 ≤ j → j + cS d ≤ 600000000 → j8.ok Tryz.prog (dsC b vs ars bd d j n)) (m : Nat) (j n c B : Int) (hn : n = d) (hm : c = m) (hm2 : m ≤ 4) (hB : (m : Int) * cS d ≤ B) (r0 : 0 ≤ j) (r1 : j + B ≤ 600000000) : j8.ok Tryz.prog (dbC b vs ars bd d m j n c) :=
 bs0 b vs ars bd d m h j n c hn hm hm2 B hB r0 r1
theorem bm3 (b : List UInt8) (vs ars : List Int) (bd : List c6) : ∀ (d : Nat), d ≤ 3 → ∀ (j n : Int), n = d → 0 ≤ j → j + cS d ≤ 600000000 → j8.ok Tryz.prog (dsC b vs ars bd d j n)
 | 0, hd, j, n, hn, r0, r1 => bf9 b vs ars bd 0 (by omega) (fun j n c h => absurd h (by omega)) j n hn r0 r1
 | d + 1, hd, j, n, hn, r0, r1 => bf9 b vs ars bd (d + 1) hd (fun j n c h hn h0 h2 r0 r1 => aS5 b vs ars bd d (bm3 b vs ars bd d (by omega)) c.toNat j n c (2 * cS d) (by omega) (by omega) (by omega) (bK3 h0 h2 (Int.le_trans (by decide) (ao7 d))) r0 (by simpa using r1)) j n hn r0 r1
theorem bP1 : cS 3 = 34170 := by decide
theorem bG2 (b : List UInt8) (vs ars : List Int) (bd : List c6) (j n c : Int) (hn : n = 3) (h0 : 0 ≤ c) (h4 : c ≤ 4) (r0 : 0 ≤ j) (r1 : j ≤ 100000000) : j8.ok Tryz.prog (dbC b vs ars bd 3 c.toNat j n c) :=
 aS5 b vs ars bd 3 (bm3 b vs ars bd 3 (by omega)) c.toNat j n c (4 * cS 3) (by omega) (by omega) (by omega) (bU1 h0 h4 (by rw [bP1]; decide)) r0 (by rw [bP1]; omega)
abbrev pgC (b : List UInt8) (j : Int) : j8 := ⟨49, [.ptr 0 0], [.box [.ref 1, iA j], dY b], [.box [.ref 1, iA (x8 b j).2], dY b] ++ oP (o0 b j), oA 2⟩
theorem a49 {b : List UInt8} {l : List Int} {n i p : Int} (h : i > 0) (h2 : i ≤ n) : nsD b l (n - (i - 1)).toNat p = nsD b l (n - i).toNat p ++ [nm b (p + (n - i)) l] := by
 rw [show (n - (i - 1)).toNat = (n - i).toNat + 1 by omega, bj0, show (((n - i).toNat : Nat) : Int) = n - i by omega]
theorem a48 {b : List UInt8} {l : List Int} {n p : Int} : nsD b l (n - n).toNat p = [] := by rw [Int.sub_self]; rfl
theorem aq3 (vs ars : List Int) (bd : List c6) (hb : s6 bd ≤ 1048576) : j8.ok Tryz.prog (V1 77 [pA 0] [dI vs, dI ars, dT bd] (bA (C0 ⟨vs, ars, bd⟩))) := ab8 ⟨vs, ars, bd⟩ hb
theorem bT6 {b : List UInt8} {j : Int} (h : C0 ⟨vsD b j, asD b j, (E4 (A1 b (vsD b j).length (asD b j).length 3) (nm b (kp2 b j) nbL).toNat (kp2 b j + 1)).1⟩ = true) : o0 b j = ⟨vsD b j, asD b j, (x8 b j).1⟩ := if_pos h
theorem bT5 {b : List UInt8} {j : Int} (h : C0 ⟨vsD b j, asD b j, (E4 (A1 b (vsD b j).length (asD b j).length 3) (nm b (kp2 b j) nbL).toNat (kp2 b j + 1)).1⟩ = false) : o0 b j = fbP := if_neg (by intro h2; have h3 : C0 ⟨vsD b j, asD b j, (E4 (A1 b (vsD b j).length (asD b j).length 3) (nm b (kp2 b j) nbL).toNat (kp2 b j + 1)).1⟩ = true := h2; rw [h] at h3; cases h3)
theorem bJ9 (b : List UInt8) (j : Int) : j + 1 + (nm b j Z0 - 0) = G2 b j := by unfold G2; omega
theorem bJ8 (b : List UInt8) (j : Int) : nsD b viL (nm b j Z0 - 0).toNat (j + 1) = vsD b j := by unfold vsD; rw [Int.sub_zero]
theorem bJ7 (b : List UInt8) (j : Int) : G2 b j + 1 + (nm b (G2 b j) W5 - 0) = kp2 b j := by unfold kp2; omega
theorem bJ6 (b : List UInt8) (j : Int) : nsD b aiL (nm b (G2 b j) W5 - 0).toNat (G2 b j + 1) = asD b j := by unfold asD; rw [Int.sub_zero]
abbrev an0 (b : List UInt8) (j : Int) := E4 (A1 b (vsD b j).length (asD b j).length 3) (nm b (kp2 b j) nbL).toNat (kp2 b j + 1)
abbrev a18 (b : List UInt8) (j : Int) : List It := [.box [.ref 1, iA (x8 b j).snd], dY b, .row 3 (D.ints (o0 b j).vars), .row 3 (D.ints (o0 b j).arrays), .tree (D.stmts (o0 b j).body)]
abbrev O5 : It := .box [.v (.slice none 0 0), .v (.slice none 0 0), .v (.slice none 0 0)]
abbrev aL4 : It := .box [.ref 4, .v (.slice none 0 0), .v (.slice none 0 0)]
abbrev bd6 : It := .tree (D.stmts [c6.mk 1 1 (c8.mk 0 0 []) (c8.mk 2 0 []) 0 [] []])
theorem ab6 (b : List UInt8) (j : Int) (r0 : 0 ≤ j) (r1 : j ≤ 10000000) : j8.ok Tryz.prog (pgC b j) := by
  refine I1 52 Tryz.func49 [.box [.ref 1, iA j], dY b] [(0, .ptr 0 0)] fun G => ?_; have hnv := bD4 b r0 (by omega); have hk1 := bk1 b r0 r1; have hk2 := bk0 b r0 r1; have hna := bD8 b (k := G2 b j) (by omega) (by omega); have hnb := bK1 b (k := kp2 b j) (by omega) (by omega); have hvl := bd8 b r0 r1; have hal := bo4 b r0 r1; have hbd := bo1 b r0 r1; have hbs : s6 (E4 (A1 b (vsD b j).length (asD b j).length 3) (nm b (kp2 b j) nbL).toNat (kp2 b j + 1)).1 ≤ 1048576 := bZ6 hbd.2.2 (by omega); refine wp_seq (i9 G d9 [0, 1, 2] [.box [.ref 1, iA j], dY b, O5] [(0, .ptr 0 0), (2, .ptr 2 0)] fun G => b0 (wp_seq (i9 G d9 [0, 1, 2, 11] [.box [.ref 1, iA j], dY b, O5, O5] [(0, .ptr 0 0), (2, .ptr 2 0), (3, .ptr 3 0)] fun G => b0 (wp_seq (wp_seq (i9 G (t0 2 [0, 1, 12] (j8.lend (L6 b j Z0 (List.cons_ne_nil _ _) (by assumption) (by omega)) [.no, .no, .row 3])) (rg 4) [.box [.ref 1, iA (j + 1)], dY b, O5, O5] [(0, .ptr 0 0), (2, .ptr 2 0), (3, .ptr 3 0), (4, iA (nm b j Z0))] fun G => b0 (wp_block ?_))))))); have Gx := G.nil 4 3 (.ints []) 1 [.box [.ref 1, iA (j + 1)], dY b, O5, aL4] [(0, .ptr 0 0), (2, .ptr 2 0), (3, .ptr 3 0), (4, iA (nm b j Z0))]; clear G; obtain ⟨ρ, G⟩ := Gx; replace G := s4.at G [.box [.ref 1, iA (j + 1)], dY b, O5, aL4, .row 3 (D.ints [])] [(0, .ptr 0 0), (2, .ptr 2 0), (3, .ptr 3 0), (4, iA (nm b j Z0))]; replace G := G.as [.box [.ref 1, iA (j + 1 + (nm b j Z0 - nm b j Z0))], dY b, .box [.v (.slice none 0 0), .v (.slice none 0 0), .v (.slice none 0 0)], .box [.ref 4, .v (.slice none 0 0), .v (.slice none 0 0)], .row 3 (D.ints (nsD b viL (nm b j Z0 - nm b j Z0).toNat (j + 1)))] [(0, .ptr 0 0), (2, .ptr 2 0), (3, .ptr 3 0), (4, iA (nm b j Z0))] (by have e1 : (j + 1 + (nm b j Z0 - nm b j Z0) : Int) = (j + 1) := (by omega); have e2 : (nsD b viL (nm b j Z0 - nm b j Z0).toNat (j + 1) : List Int) = ([]) := a48; (first | rw [e1, e2] | simp only [e1, e2]) <;> rfl) (by kernel_rfl); refine v5 (κ := Int) (fun i => 0 ≤ i ∧ i ≤ nm b j Z0) (fun i => i.toNat) (fun i => [.box [.ref 1, iA (j + 1 + (nm b j Z0 - i))], dY b, .box [.v (.slice none 0 0), .v (.slice none 0 0), .v (.slice none 0 0)], .box [.ref 4, .v (.slice none 0 0), .v (.slice none 0 0)], .row 3 (.ints (nsD b viL (nm b j Z0 - i).toNat (j + 1)))]) (fun i => [(0, .ptr 0 0), (2, .ptr 2 0), (3, .ptr 3 0), (4, iA i)]) (nm b j Z0) (by omega) (s4.at G _ _) ?_; clear G; intro i ρ a w hp G; replace G := s4.at G [.box [.ref 1, iA (j + 1 + (nm b j Z0 - i))], dY b, O5, aL4, .row 3 (D.ints (nsD b viL (nm b j Z0 - i).toNat (j + 1)))] [(0, .ptr 0 0), (2, .ptr 2 0), (3, .ptr 3 0), (4, iA i)]; have hlen : (nsD b viL (nm b j Z0 - i).toNat (j + 1)).length = (nm b j Z0 - i).toNat := ac5 _ _ _ _; refine wp_seq (wp_seq (F5 G d9 [(0, .ptr 0 0), (2, .ptr 2 0), (3, .ptr 3 0), (4, iA i), (11, bA (decide (i > 0)))] fun G => b0 ?_)); cases h0 : (decide (i > 0))
  ·
   have q0 := W0 h0
   obtain rfl : i = 0 := by omega
   rw [bJ9, bJ8] at G; refine rF G false (by kernel_rfl) (wp_exit (t6 (t6 (t3 (b0 (wp_seq (wp_seq (i9 G (t0 2 [0, 1, 13] (j8.lend (L6 b (G2 b j) W5 (by simp [h0]) (by omega) (by omega)) [.no, .no, .row 3])) (rg 5) [.box [.ref 1, iA (G2 b j + 1)], dY b, O5, aL4, .row 3 (D.ints (vsD b j))] [(0, .ptr 0 0), (2, .ptr 2 0), (3, .ptr 3 0), (5, iA (nm b (G2 b j) W5))] fun G => b0 (wp_block ?_))))))))); have Gx := G.nil 5 3 (.ints []) 1 [.box [.ref 1, iA (G2 b j + 1)], dY b, O5, .box [.ref 4, .ref 5, .v (.slice none 0 0)], .row 3 (D.ints (vsD b j))] [(0, .ptr 0 0), (2, .ptr 2 0), (3, .ptr 3 0), (5, iA (nm b (G2 b j) W5))]; clear G; obtain ⟨ρ, G⟩ := Gx; replace G := s4.at G [.box [.ref 1, iA (G2 b j + 1)], dY b, O5, .box [.ref 4, .ref 5, .v (.slice none 0 0)], .row 3 (D.ints (vsD b j)), .row 3 (D.ints [])] [(0, .ptr 0 0), (2, .ptr 2 0), (3, .ptr 3 0), (5, iA (nm b (G2 b j) W5))]; have Gx := G.nilT 6 (.stmts []) [.box [.ref 1, iA (G2 b j + 1)], dY b, O5, .box [.ref 4, .ref 5, .tref 6], .row 3 (D.ints (vsD b j)), .row 3 (D.ints [])] [(0, .ptr 0 0), (2, .ptr 2 0), (3, .ptr 3 0), (5, iA (nm b (G2 b j) W5))]; clear G; obtain ⟨ρ, G⟩ := Gx; replace G := s4.at G [.box [.ref 1, iA (G2 b j + 1)], dY b, O5, .box [.ref 4, .ref 5, .tref 6], .row 3 (D.ints (vsD b j)), .row 3 (D.ints []), .tree (D.stmts [])] [(0, .ptr 0 0), (2, .ptr 2 0), (3, .ptr 3 0), (5, iA (nm b (G2 b j) W5))]; replace G := G.as [.box [.ref 1, iA (G2 b j + 1 + (nm b (G2 b j) W5 - nm b (G2 b j) W5))], dY b, .box [.v (.slice none 0 0), .v (.slice none 0 0), .v (.slice none 0 0)], .box [.ref 4, .ref 5, .tref 6], .row 3 (D.ints (vsD b j)), .row 3 (D.ints (nsD b aiL (nm b (G2 b j) W5 - nm b (G2 b j) W5).toNat (G2 b j + 1))), .tree (D.stmts [])] [(0, .ptr 0 0), (2, .ptr 2 0), (3, .ptr 3 0), (5, iA (nm b (G2 b j) W5))] (by have e1 : (G2 b j + 1 + (nm b (G2 b j) W5 - nm b (G2 b j) W5) : Int) = (G2 b j + 1) := (by omega); have e2 : (nsD b aiL (nm b (G2 b j) W5 - nm b (G2 b j) W5).toNat (G2 b j + 1) : List Int) = ([]) := a48; (first | rw [e1, e2] | simp only [e1, e2]) <;> rfl) (by kernel_rfl); refine v5 (κ := Int) (fun i2 => 0 ≤ i2 ∧ i2 ≤ nm b (G2 b j) W5) (fun i2 => i2.toNat) (fun i2 => [.box [.ref 1, iA (G2 b j + 1 + (nm b (G2 b j) W5 - i2))], dY b, .box [.v (.slice none 0 0), .v (.slice none 0 0), .v (.slice none 0 0)], .box [.ref 4, .ref 5, .tref 6], .row 3 (D.ints (vsD b j)), .row 3 (.ints (nsD b aiL (nm b (G2 b j) W5 - i2).toNat (G2 b j + 1))), .tree (D.stmts [])]) (fun i2 => [(0, .ptr 0 0), (2, .ptr 2 0), (3, .ptr 3 0), (5, iA i2)]) (nm b (G2 b j) W5) (by omega) (s4.at G _ _) ?_; clear G; intro i2 ρ a w hp G; replace G := s4.at G [.box [.ref 1, iA (G2 b j + 1 + (nm b (G2 b j) W5 - i2))], dY b, O5, .box [.ref 4, .ref 5, .tref 6], .row 3 (D.ints (vsD b j)), .row 3 (D.ints (nsD b aiL (nm b (G2 b j) W5 - i2).toNat (G2 b j + 1))), .tree (D.stmts [])] [(0, .ptr 0 0), (2, .ptr 2 0), (3, .ptr 3 0), (5, iA i2)]; have hlen : (nsD b aiL (nm b (G2 b j) W5 - i2).toNat (G2 b j + 1)).length = (nm b (G2 b j) W5 - i2).toNat := ac5 _ _ _ _; refine wp_seq (wp_seq (F5 G d9 [(0, .ptr 0 0), (2, .ptr 2 0), (3, .ptr 3 0), (5, iA i2), (26, bA (decide (i2 > 0)))] fun G => b0 ?_)); cases h1 : (decide (i2 > 0))
   ·
    have q1 := W0 h1
    obtain rfl : i2 = 0 := by omega
    rw [bJ7, bJ6] at G; refine rF G false (by kernel_rfl) (wp_exit (t6 (t6 (t3 (b0 (wp_seq (bh5 G (Q8 (E2 4 [0, 1, 31] (j8.lend (L6 b (kp2 b j) nbL (by simp [h0, h1]) (by omega) (by omega)) [.no, .no, .row 3]) (E2 5 [0, 1, 4, 5, 6] (j8.lend (bG2 b (vsD b j) (asD b j) ([]) (kp2 b j + 1) 3 (nm b (kp2 b j) nbL) (by kernel_rfl) (by omega) (by omega) (by omega) (by omega)) [.no, .no, .row 3, .row 3, .tree]) Q7)) fz []) [0, 0, 0, 0, 12, 31, 63, 127] [0, 1, 2, 3, 4, 5, 47] [.box [.ref 1, iA (an0 b j).snd], dY b, O5, .box [.ref 4, .ref 5, .tref 6], .row 3 (D.ints (vsD b j)), .row 3 (D.ints (asD b j)), .tree (D.stmts (an0 b j).fst)] [(2, .ptr 2 0), (3, .ptr 3 0)] fun G => b0 (wp_seq (wp_seq (l0 G (t0 1 [4, 5, 6] (j8.lend (aq3 (vsD b j) (asD b j) ((E4 (A1 b (vsD b j).length (asD b j).length 3) (nm b (kp2 b j) nbL).toNat (kp2 b j + 1)).fst) (by assumption)) [.row 3, .row 3, .tree])) [(45, bA (C0 (j7.mk (vsD b j) (asD b j) (an0 b j).fst)))] fun G => b0 (rcB (b := C0 (j7.mk (vsD b j) (asD b j) (E4 (A1 b (vsD b j).length (asD b j).length (3 : Nat)) (nm b (kp2 b j) nbL).toNat (kp2 b j + 1)).fst)) G (fun h2 => ?_) fun h2 => ?_)))))))))))
    · refine wp_skip (b0 (wp_seq (i9 G d9 [0, 1, 2, 7, 31] [.box [.ref 1, iA (an0 b j).snd], dY b, .box [.ref 3, .v (.slice none 0 0), .tref 4], .row 3 (D.ints ([0] ++ ([1] ++ []))), bd6] [(2, .ptr 2 0)] fun G => b0 (wp_ret ?_)))); have Gx := G.nil 5 3 (.ints []) 1 [.box [.ref 1, iA (an0 b j).snd], dY b, .box [.ref 3, .ref 5, .tref 4], .row 3 (D.ints ([0] ++ ([1] ++ []))), bd6] [(2, .ptr 2 0)]; clear G; obtain ⟨ρ, G⟩ := Gx; replace G := s4.at G [.box [.ref 1, iA (an0 b j).snd], dY b, .box [.ref 3, .ref 5, .tref 4], .row 3 (D.ints ([0] ++ ([1] ++ []))), bd6, .row 3 (D.ints [])] [(2, .ptr 2 0)]; exact I9 G [0, 1, 3, 5, 4] (by show _ = mR [0, 1, 3, 5, 4] (a18 b j); unfold a18; rw [bT5 (by with_reducible assumption)] <;> rfl)
    · refine wp_seq (i9 G d9 [0, 1, 2, 4, 5, 6] [.box [.ref 1, iA (an0 b j).snd], dY b, .box [.ref 3, .ref 4, .tref 5], .row 3 (D.ints (vsD b j)), .row 3 (D.ints (asD b j)), .tree (D.stmts (an0 b j).fst)] [(2, .ptr 2 0)] fun G => b0 (wp_ret (n7 ?_))); exact I9 G [0, 1, 3, 4, 5] (by show _ = mR [0, 1, 3, 4, 5] (a18 b j); unfold a18; rw [bT6 (by with_reducible assumption)] <;> rfl)
   · have q1 := V9 h1; refine rT G _ h1 (wp_skip (b0 (wp_seq (wp_block (F4 G (t0 4 [0, 1, 31] (j8.lend (L6 b (G2 b j + 1 + (nm b (G2 b j) W5 - i2)) aiL (by simp [h0, h1]) (by omega) (by omega)) [.no, .no, .row 3])) [0, 1, 0, 0, 12, 28, 63, 127, 255] [0, 1, 2, 3, 4, 6, 55] [.box [.ref 1, iA (G2 b j + 1 + (nm b (G2 b j) W5 - i2) + 1)], dY b, O5, .box [.ref 4, .ref 6, .tref 5], .row 3 (D.ints (vsD b j)), .tree (D.stmts []), .row 3 (D.ints (nsD b aiL (nm b (G2 b j) W5 - i2).toNat (G2 b j + 1) ++ ([nm b (G2 b j + 1 + (nm b (G2 b j) W5 - i2)) aiL] ++ [])))] [(0, .ptr 0 0), (2, .ptr 2 0), (3, .ptr 3 0), (5, iA i2)] (aP ((nsD b aiL (nm b (G2 b j) W5 - i2).toNat (G2 b j + 1)).length + ([nm b (G2 b j + 1 + (nm b (G2 b j) W5 - i2)) aiL] ++ []).length) 8 []) (aK (by simp only [bX1, bX8, bY2, ac5]; omega) bY1) fun G => i8 (b0 (B5 G d9 [(5, iA (i2 - 1))] [wO (i2 - 1)] (o1 (by omega)) fun G => b0 ?_))))))); exact J5 G (i2 - 1) (by omega) (by omega) [0, 1, 2, 3, 4, 6, 5] (by have e1 : (G2 b j + 1 + (nm b (G2 b j) W5 - (i2 - 1)) : Int) = (G2 b j + 1 + (nm b (G2 b j) W5 - i2) + 1) := (by omega); have e2 : (nsD b aiL (nm b (G2 b j) W5 - (i2 - 1)).toNat (G2 b j + 1) : List Int) = (nsD b aiL (nm b (G2 b j) W5 - i2).toNat (G2 b j + 1) ++ ([nm b (G2 b j + 1 + (nm b (G2 b j) W5 - i2)) aiL] ++ [])) := (a49 (by omega) (by omega)); (first | rw [e1, e2] | simp only [e1, e2]) <;> rfl)
  · have q0 := V9 h0; refine rT G _ h0 (wp_skip (b0 (wp_seq (wp_block (F4 G (t0 4 [0, 1, 29] (j8.lend (L6 b (j + 1 + (nm b j Z0 - i)) viL (by simp [h0]) (by omega) (by omega)) [.no, .no, .row 3])) [0, 1, 0, 0, 12, 28, 63, 127, 255] [0, 1, 2, 3, 53] [.box [.ref 1, iA (j + 1 + (nm b j Z0 - i) + 1)], dY b, O5, aL4, .row 3 (D.ints (nsD b viL (nm b j Z0 - i).toNat (j + 1) ++ ([nm b (j + 1 + (nm b j Z0 - i)) viL] ++ [])))] [(0, .ptr 0 0), (2, .ptr 2 0), (3, .ptr 3 0), (4, iA i)] (aP ((nsD b viL (nm b j Z0 - i).toNat (j + 1)).length + ([nm b (j + 1 + (nm b j Z0 - i)) viL] ++ []).length) 8 []) (aK (by simp only [bX1, bX8, bY2, ac5]; omega) bY1) fun G => i8 (b0 (B5 G d9 [(4, iA (i - 1))] [wO (i - 1)] (o1 (by omega)) fun G => b0 ?_))))))); exact J5 G (i - 1) (by omega) (by omega) (rg 5) (by have e1 : (j + 1 + (nm b j Z0 - (i - 1)) : Int) = (j + 1 + (nm b j Z0 - i) + 1) := (by omega); have e2 : (nsD b viL (nm b j Z0 - (i - 1)).toNat (j + 1) : List Int) = (nsD b viL (nm b j Z0 - i).toNat (j + 1) ++ ([nm b (j + 1 + (nm b j Z0 - i)) viL] ++ [])) := (a49 (by omega) (by omega)); (first | rw [e1, e2] | simp only [e1, e2]) <;> rfl)
section
variable {b : List UInt8} {p : j7} {j : Int}
end
def ai7 (k v r : Int) : c7 := if k = 3 then ⟨4, r, v, r, 0⟩ else if k = 11 then ⟨7, r, r, r + 1, r + 2⟩ else ⟨6, r, k, r, r + 1⟩
mutual
def b5 : c8 → Int → List c7
 | ⟨k, v, ks⟩, r => if k = 1 then [⟨1, r, v, 0, 0⟩] else if k = 2 then [⟨2, r, v, 0, 0⟩] else j6 ks r ++ [ai7 k v r]
def j6 : List c8 → Int → List c7
 | [], _ => []
 | e :: t, r => b5 e r ++ j6 t (r + 1)
end
theorem ad1 (e : c8) (r : Int) : b5 e r = if e.kind = 1 then [⟨1, r, e.value, 0, 0⟩] else if e.kind = 2 then [⟨2, r, e.value, 0, 0⟩] else j6 e.kids r ++ [ai7 e.kind e.value r] := by cases e; rw [b5]; rfl
theorem ae7 : ∀ (a b : List c8) (r : Int), j6 (a ++ b) r = j6 a r ++ j6 b (r + a.length)
 | [], b, r => by simp [j6]
 | e :: t, b, r => by
  simp only [List.cons_append, j6, b12]
  rw [ae7 t b (r + 1)]
  congr 2
  simp only [bX8]
  rw [show r + 1 + (t.length : Int) = r + ((t.length + 1 : Nat) : Int) by omega]
theorem ao4 {ks : List c8} {k : Nat} {r : Int} (hk : k < ks.length) : j6 (ks.take (k + 1)) r = j6 (ks.take k) r ++ b5 (ks.getD k bW7) (r + k) := by
 rw [r8 _ _ hk, ae7, n9 hk]
 simp [j6, List.length_take, Nat.min_eq_left (Nat.le_of_lt hk)]
mutual
theorem R6 : ∀ (e : c8) (r : Int), (b5 e r).length ≤ 1 + P4 e
 | ⟨k, v, ks⟩, r => by
  have h := Y0 ks r
  rw [b5]
  simp only [P4]
  split
  ·simp
  ·split
   ·simp
   ·simp only [bX1, bX8, bY2]; omega
theorem Y0 : ∀ (ks : List c8) (r : Int), (j6 ks r).length ≤ M5 ks
 | [], _ => by simp [j6]
 | e :: t, r => by
  have h1 := R6 e r
  have h2 := Y0 t (r + 1)
  simp only [j6, M5, bX1]; omega
end
abbrev F7 : Type := List c7 × List Int × Int
def E1 (x : F7) (n : Int) (c : List c7) : F7 := (x.1 ++ c, x.2.1 ++ bW8 c.length n, x.2.2)
def bh7 (l : List c7) (i : Nat) (n : Int) : List c7 := l.set i ⟨(l.getD i bW7).op, (l.getD i bW7).a, n, (l.getD i bW7).c, (l.getD i bW7).d⟩
def bC4 (l : List c7) (i : Nat) (n : Int) : List c7 := l.set i ⟨(l.getD i bW7).op, n, (l.getD i bW7).b, (l.getD i bW7).c, (l.getD i bW7).d⟩
mutual
def N1 : c6 → Int → F7 → F7
 | ⟨k, t, i, v, c, b, e⟩, d, x =>
  if k = 4 then E1 (m8 b (d + 1) (E1 (x.1, x.2.1, x.2.2 + 1) x.2.2 [⟨1, 9 + d, c, 0, 0⟩])) x.2.2 [⟨10, 9 + d, ((x.1.length + 1 : Nat) : Int), 0, 0⟩]
  else if k = 1 then E1 (E1 (x.1, x.2.1, x.2.2 + 1) x.2.2 (b5 v 0)) x.2.2 [⟨3, t, 0, 0, 0⟩]
  else if k = 5 then E1 (E1 (E1 (x.1, x.2.1, x.2.2 + 1) x.2.2 (b5 v 0)) x.2.2 [⟨11, 0, 0, 0, 0⟩]) x.2.2 [⟨3, t, 0, 0, 0⟩]
  else if k = 2 then E1 (E1 (E1 (x.1, x.2.1, x.2.2 + 1) x.2.2 (b5 v 0)) x.2.2 (b5 i 1)) x.2.2 [⟨5, t, 1, 0, 0⟩]
  else
   (fun (y : F7) =>
    (fun (z : F7) =>
     (fun (u : F7) => (bC4 u.1 (z.1.length - 1) (u.1.length : Int), u.2)) (m8 e (d + 1) (bh7 z.1 y.1.length (z.1.length : Int), z.2)))
    (E1 (m8 b (d + 1) (E1 y x.2.2 [⟨9, 0, 0, 0, 0⟩])) x.2.2 [⟨8, 0, 0, 0, 0⟩]))
   (E1 (x.1, x.2.1, x.2.2 + 1) x.2.2 (b5 v 0))
def m8 : List c6 → Int → F7 → F7
 | [], _, x => x
 | s :: r, d, x => m8 r d (N1 s d x)
end
theorem aY9 (a b : List c6) (d : Int) (x : F7) : m8 (a ++ b) d x = m8 b d (m8 a d x) := by
 induction a generalizing x with
 | nil => rfl
 | cons s r ih => simp only [List.cons_append, m8]; exact ih _
theorem aw9 {ss : List c6} {k : Nat} {d : Int} {x : F7} (hk : k < ss.length) : m8 (ss.take (k + 1)) d x = N1 (ss.getD k bW7) d (m8 (ss.take k) d x) := by
 rw [r8 _ _ hk, aY9, n9 hk]
 simp [m8]
mutual
def ba3 : c6 → Nat
 | ⟨k, _, i, v, _, b, e⟩ => if k = 4 then 2 + az4 b else if k = 1 then (b5 v 0).length + 1 else if k = 5 then (b5 v 0).length + 2 else if k = 2 then (b5 v 0).length + (b5 i 1).length + 1 else (b5 v 0).length + 2 + az4 b + az4 e
def az4 : List c6 → Nat
 | [] => 0
 | s :: r => ba3 s + az4 r
end
mutual
theorem bw4 : ∀ (s : c6) (d : Int) (x : F7), (N1 s d x).1.length = x.1.length + ba3 s ∧ (N1 s d x).2.1.length = x.2.1.length + ba3 s
 | ⟨k, t, i, v, c, b, e⟩, d, x => by
  rw [N1, ba3]
  split
  ·have h := I7 b (d + 1) (E1 (x.1, x.2.1, x.2.2 + 1) x.2.2 [⟨1, 9 + d, c, 0, 0⟩])
   simp only [E1, bX1, bX8, bY2, bY6] at h ⊢
   omega
  ·split
   ·simp only [E1, bX1, bX8, bY2, bY6]; omega
   ·split
    ·simp only [E1, bX1, bX8, bY2, bY6]; omega
    ·split
     ·simp only [E1, bX1, bX8, bY2, bY6]; omega
     ·simp only
      generalize hy : E1 (x.1, x.2.1, x.2.2 + 1) x.2.2 (b5 v 0) = y
      have hy1 : y.1.length = x.1.length + (b5 v 0).length := by rw [← hy]; simp [E1]
      have hy2 : y.2.1.length = x.2.1.length + (b5 v 0).length := by rw [← hy]; simp [E1]
      have h1 := I7 b (d + 1) (E1 y x.2.2 [⟨9, 0, 0, 0, 0⟩])
      generalize m8 b (d + 1) (E1 y x.2.2 [⟨9, 0, 0, 0, 0⟩]) = z at h1 ⊢
      have h2 := I7 e (d + 1) (bh7 (E1 z x.2.2 [⟨8, 0, 0, 0, 0⟩]).1 y.1.length ((E1 z x.2.2 [⟨8, 0, 0, 0, 0⟩]).1.length : Int), (E1 z x.2.2 [⟨8, 0, 0, 0, 0⟩]).2)
      simp only [E1, bC4, bh7, bY9, bX1, bX8, bY2, bY6] at h1 h2 ⊢
      omega
theorem I7 : ∀ (ss : List c6) (d : Int) (x : F7), (m8 ss d x).1.length = x.1.length + az4 ss ∧ (m8 ss d x).2.1.length = x.2.1.length + az4 ss
 | [], _, _ => ⟨rfl, rfl⟩
 | s :: r, d, x => by
  have h1 := bw4 s d x
  have h2 := I7 r d (N1 s d x)
  rw [m8, az4]
  omega
end
mutual
theorem bw2 : ∀ s : c6, ba3 s ≤ 4 + 4 * szS s
 | ⟨k, t, i, v, c, b, e⟩ => by
  have h1 := R6 v 0
  have h2 := R6 i 1
  have h3 := L5 b
  have h4 := L5 e
  rw [ba3]
  simp only [szS]
  (repeat' split) <;> omega
theorem L5 : ∀ ss : List c6, az4 ss ≤ 4 * s6 ss
 | [] => bZ4 _
 | s :: r => by
  have h1 := bw2 s
  have h2 := L5 r
  simp only [az4, s6]; omega
end
section
variable {P : Program} {ι κ : Type} {φ ψ : Nat → Prop} {w0 w : World} {F : ι → Rs} {ρ ρ0 : Nat → Value} {N m n : Nat} {S : List It} {tm : List (Nat × AV)} {a : Act}
theorem s4.heal (G : s4 φ ψ w0 F N m ρ0 ρ S tm a w) (id k i : Nat) (l : List (List Int)) (r : List Int) (S1 : List It) (h1 : o7 S id = .hole k i l := by kernel_rfl) (h2 : o7 S k = .row 3 (.ints r) := by kernel_rfl) (hS : S1 = (S.set id (.tree (.rows (l.set i r)))).set k .dead := by kernel_rfl) : s4 φ ψ w0 F N m ρ0 ρ S1 tm a w := by
 subst hS
 have hid : id < S.length := by
  rcases bY8 id S.length with h | h
  ·exact h
  ·rw [v9 h] at h1; cases h1
 have hk : k < S.length := by
  rcases bY8 k S.length with h | h
  ·exact h
  ·rw [v9 h] at h2; cases h2
 have hne : id ≠ k := fun e => by rw [e, h2] at h1; cases h1
 have hlen : ((S.set id (.tree (.rows (l.set i r)))).set k .dead).length = S.length := by simp
 have hat : ∀ j, o7 ((S.set id (.tree (.rows (l.set i r)))).set k .dead) j = if j = k then .dead else if j = id then .tree (.rows (l.set i r)) else o7 S j := fun j => by
  simp only [o7, bX2, List.getElem?_set]
  by_cases e1 : k = j
  ·subst e1; simp [hk]
  ·have e1' : ¬ j = k := fun h => e1 h.symm
   by_cases e2 : id = j
   ·subst e2; simp [hid, e1, e1']
   ·have e2' : ¬ j = id := fun h => e2 h.symm
    simp [e1, e1', e2, e2']
 refine ⟨G.size, G.defs, G.tmv, fun t x hx q hq => by rw [hlen]; exact G.tmi t x hx q hq, fun j => ⟨fun q hq => ?_, fun hj => ?_⟩, ?_, by rw [hlen]; exact G.le, G.old⟩
 ·rw [hat] at hq
  rw [hlen]
  split at hq
  ·cases hq
  ·split at hq
   ·cases hq
   ·exact (G.bd j).1 q hq
 ·rw [hlen] at hj
  rw [hat, if_neg (by omega), if_neg (by omega)]
  exact v9 hj
 ·have M := G.mem
  have hh := M.holds (.inr id)
  have hr := M.holds (.inr k)
  have l1 : l6 F ρ (o7 S) (.inr id) = .own (fun b => x5 (ρ id) b ∧ (ρ k).ownBlock ≠ some b) fun w => aj4 w (x5 (ρ id)) i l (ρ k) (B8 (ρ id)) := by simp only [l6, h1, It.res]
  have l2 : l6 F ρ (o7 S) (.inr k) = .row 3 1 (ρ k) r.length fun xs w φ => RW w φ (.ints r) xs := by simp only [l6, h2, It.res, D.sz, D.len]
  rw [l1] at hh
  rw [l2] at hr
  obtain ⟨_, hO, hlt⟩ := hh
  obtain ⟨_, xs, o1, o2⟩ := hr
  have hxs : xs = ints r := a38 (by have := o1.1; simpa using this) o2
  subst hxs
  have hT := hO.back o1
  have hu : ∀ g, (ρ k).ownBlock = some g → x5 (ρ id) g := by
   obtain ⟨ys, S', _, _, q3, q4, q5, _, q2, _⟩ := hO
   obtain ⟨u', a', _, c⟩ := q2 i q5
   rw [q4] at a'; cases a'
   exact fun g hg => q3 g (c g hg)
  have m1 : l6 F ρ (o7 ((S.set id (.tree (.rows (l.set i r)))).set k .dead)) (.inr id) = .own (x5 (ρ id)) fun w => A2 w (x5 (ρ id)) (.rows (l.set i r)) (B8 (ρ id)) := by simp only [l6, hat, if_neg hne, if_true, It.res]
  have m2 : l6 F ρ (o7 ((S.set id (.tree (.rows (l.set i r)))).set k .dead)) (.inr k) = Rs.none := by simp only [l6, hat, if_true, It.res]
  have m3 : ∀ q, q ≠ .inr id → q ≠ .inr k → l6 F ρ (o7 ((S.set id (.tree (.rows (l.set i r)))).set k .dead)) q = l6 F ρ (o7 S) q := fun q e1 e2 => by
   cases q with
   | inl _ => rfl
   | inr j => simp only [l6, hat, if_neg (show ¬ j = k from fun e => e2 (by rw [e])), if_neg (show ¬ j = id from fun e => e1 (by rw [e]))]
  generalize l6 F ρ (o7 ((S.set id (.tree (.rows (l.set i r)))).set k .dead)) = L' at *
  have org : ∀ q b, (L' q).blk b → (q = .inr id ∧ ((l6 F ρ (o7 S) (.inr id)).blk b ∨ (l6 F ρ (o7 S) (.inr k)).blk b)) ∨ (q ≠ .inr id ∧ q ≠ .inr k ∧ (l6 F ρ (o7 S) q).blk b) := fun q b hb => by
   by_cases e1 : q = .inr id
   ·subst e1
    rw [m1] at hb
    refine .inl ⟨rfl, ?_⟩
    rw [l1, l2]
    by_cases e : (ρ k).ownBlock = some b
    ·exact .inr e
    ·exact .inl ⟨hb, e⟩
   ·by_cases e2 : q = .inr k
    ·subst e2; rw [m2] at hb; exact hb.elim
    ·rw [m3 q e1 e2] at hb; exact .inr ⟨e1, e2, hb⟩
  refine M.re (fun q b hb => ?_) (fun p q g hpq h1 h2 => ?_) fun q => ?_
  ·rcases org q b hb with ⟨_, h | h⟩ | ⟨_, _, h⟩
   ·exact ⟨_, h⟩
   ·exact ⟨_, h⟩
   ·exact ⟨_, h⟩
  ·rcases org p g h1 with ⟨e1, f1⟩ | ⟨e1, e1', f1⟩
   ·rcases org q g h2 with ⟨e2, f2⟩ | ⟨e2, e2', f2⟩
    ·exact hpq (e1.trans e2.symm)
    ·rcases f1 with f1 | f1
     ·exact M.dis _ _ g (fun e => e2 e.symm) f1 f2
     ·exact M.dis _ _ g (fun e => e2' e.symm) f1 f2
   ·rcases org q g h2 with ⟨e2, f2⟩ | ⟨e2, e2', f2⟩
    ·rcases f2 with f2 | f2
     ·exact M.dis _ _ g e1 f1 f2
     ·exact M.dis _ _ g e1' f1 f2
    ·exact M.dis _ _ g hpq f1 f2
  ·by_cases e1 : q = .inr id
   ·subst e1
    right; intro φ'; rw [m1]
    refine ⟨fun _ _ h hs => h.same hs, hT, fun b hb => ?_⟩
    by_cases e : (ρ k).ownBlock = some b
    ·exact (World.ownsRow.lt o1 b e).2
    ·exact hlt b ⟨hb, e⟩
   ·by_cases e2 : q = .inr k
    ·subst e2
     right; intro φ'; rw [m2]; exact Rs.none_holds _ _
    ·exact .inl (m3 q e1 e2)
theorem s4.heal0 (G : s4 φ ψ w0 F N m ρ0 ρ S tm a w) (id k i : Nat) (l : List (List Int)) (S1 : List It) (h1 : o7 S id = .hole k i l := by kernel_rfl) (h2 : o7 S k = .row 3 (.ints (l.getD i [])) := by kernel_rfl) (hS : S1 = (S.set id (.tree (.rows l))).set k .dead := by kernel_rfl) : s4 φ ψ w0 F N m ρ0 ρ S1 tm a w := by
 refine G.heal id k i l (l.getD i []) S1 h1 h2 ?_
 have e : l.set i (l.getD i []) = l := by
  apply List.ext_getElem?
  intro j
  rw [List.getElem?_set]
  by_cases h : i = j
  ·subst h
   rw [if_pos rfl]
   by_cases h2 : i < l.length
   ·simp [h2]
   ·simp [h2]
  ·rw [if_neg h]
 rw [e]; exact hS
theorem It.res_ren' {σ : Nat → Nat} {i j : Nat} {ρ : Nat → Value} (x : It) (h : σ i = j) : (x.ren σ).res ρ j = x.res (fun i => ρ (σ i)) i := by
 subst h; exact It.res_ren x
def mv (i n j : Nat) : Nat := if natEq j i then n else j
theorem av4 {f : AV → AV} {t : Nat} {y : AV} : ∀ {tm : List (Nat × AV)}, y5 (tm.map fun p => (p.1, f p.2)) t = some y → ∃ x, y5 tm t = some x ∧ y = f x
 | [], h => by cases h
 | (k, z) :: r, h => by
  simp only [y5, bZ5] at h ⊢
  split at h
  ·rename_i hk; cases h; exact ⟨z, by rw [if_pos hk], rfl⟩
  ·rename_i hk
   obtain ⟨x, h1, h2⟩ := av4 h
   exact ⟨x, by rw [if_neg hk]; exact h1, h2⟩
theorem bE3 {i n : Nat} {x : AV} : ∀ j ∈ (x.ren (mv i n)).ids, (∃ k ∈ x.ids, mv i n k = j) := by
 have key : (∀ x : AV, ∀ j ∈ (x.ren (mv i n)).ids, ∃ k ∈ x.ids, mv i n k = j) ∧ (∀ l : List AV, ∀ j ∈ AV.idsL (AV.renL (mv i n) l), ∃ k ∈ AV.idsL l, mv i n k = j) := by
  have hL : ∀ (l : List AV), (∀ x ∈ l, ∀ j ∈ (x.ren (mv i n)).ids, ∃ k ∈ x.ids, mv i n k = j) → ∀ j ∈ AV.idsL (AV.renL (mv i n) l), ∃ k ∈ AV.idsL l, mv i n k = j := by
   intro l
   induction l with
   | nil => intro _ j hj; cases hj
   | cons y r ih =>
    intro h j hj
    simp only [AV.renL, AV.idsL, bY7] at hj ⊢
    rcases hj with hj | hj
    ·obtain ⟨k, h1, h2⟩ := h y b01 j hj
     exact ⟨k, .inl h1, h2⟩
    ·obtain ⟨k, h1, h2⟩ := ih (fun x hx => h x (b00 _ hx)) j hj
     exact ⟨k, .inr h1, h2⟩
  have hx : ∀ x : AV, ∀ j ∈ (x.ren (mv i n)).ids, ∃ k ∈ x.ids, mv i n k = j := fun x => goX hL x
  exact ⟨hx, fun l => hL l fun x _ => hx x⟩
 exact key.1 x
where
 goX {i n : Nat} (hL : ∀ (l : List AV), (∀ x ∈ l, ∀ j ∈ (x.ren (mv i n)).ids, ∃ k ∈ x.ids, mv i n k = j) → ∀ j ∈ AV.idsL (AV.renL (mv i n) l), ∃ k ∈ AV.idsL l, mv i n k = j) : ∀ x : AV, ∀ j ∈ (x.ren (mv i n)).ids, ∃ k ∈ x.ids, mv i n k = j
  | .v _, j, hj => by cases hj
  | .ptr a b, j, hj => ⟨a, bZ2.2 rfl, (bZ2.1 hj).symm⟩
  | .ea a b c d, j, hj => ⟨a, bZ2.2 rfl, (bZ2.1 hj).symm⟩
  | .ref a, j, hj => ⟨a, bZ2.2 rfl, (bZ2.1 hj).symm⟩
  | .tref a, j, hj => ⟨a, bZ2.2 rfl, (bZ2.1 hj).symm⟩
  | .agg l, j, hj => hL l (fun x _ => goX hL x) j hj
  | .tup l, j, hj => hL l (fun x _ => goX hL x) j hj
  | .fn _ l, j, hj => hL l (fun x _ => goX hL x) j hj
  | .bm _ l, j, hj => hL l (fun x _ => goX hL x) j hj
theorem s4.shift (G : s4 φ ψ w0 F N m ρ0 ρ S tm a w) (i n : Nat) (S1 : List It) (tm1 : List (Nat × AV)) (hn : (natEq S.length n && decide (i < n)) = true := by kernel_rfl) (hS : S1 = (S.map (It.ren (mv i n))).set i .dead ++ [(o7 S i).ren (mv i n)] := by kernel_rfl) (ht : tm1 = tm.map (fun p => (p.1, p.2.ren (mv i n))) := by kernel_rfl) :
  ∃ ρ', s4 φ ψ w0 F N m ρ0 ρ' S1 tm1 a w := by
 subst hS
 subst ht
 simp only [bX0, natEq, beq_iff_eq, decide_eq_true_eq] at hn
 obtain ⟨hn, hin⟩ := hn
 have hlen : ((S.map (It.ren (mv i n))).set i .dead ++ [(o7 S i).ren (mv i n)]).length = n + 1 := by simp [hn]
 have hat : ∀ j, o7 ((S.map (It.ren (mv i n))).set i .dead ++ [(o7 S i).ren (mv i n)]) j = if j = n then (o7 S i).ren (mv i n) else if j = i then .dead else (o7 S j).ren (mv i n) := fun j => by
  by_cases e : j = n
  ·subst e
   rw [if_pos rfl]
   simp only [o7, bX2]
   rw [b15 (by simp [hn])]
   simp [hn]
  ·rw [if_neg e]
   by_cases e2 : j = i
   ·subst e2
    rw [if_pos rfl]
    simp only [o7, bX2]
    rw [b04 (by simp; omega)]
    simp [show j < S.length by omega]
   ·rw [if_neg e2]
    simp only [o7, bX2]
    rcases bY8 j n with h | h
    ·rw [b04 (by simp; omega), List.getElem?_set_ne (fun h => e2 h.symm), List.getElem?_map, bW9 (by omega)]
     rfl
    ·rw [bZ1 (by simp; omega), bZ1 (by omega)]; rfl
 have hbd : ∀ x : AV, (∀ j ∈ x.ids, j < n) → ∀ j ∈ (x.ren (mv i n)).ids, j < n + 1 := fun x h j hj => by
  obtain ⟨k, h1, h2⟩ := bE3 j hj
  have := h k h1
  rw [← h2]; unfold mv
  split <;> omega
 let ρ1 : Nat → Value := fun j => if j = n then ρ i else ρ j
 have hmv : ∀ j, j < n → ρ1 (mv i n j) = ρ j := fun j hj => by
  show (if mv i n j = n then ρ i else ρ (mv i n j)) = ρ j
  by_cases e : j = i
  ·subst e; simp [mv, natEq]
  ·have h : mv i n j = j := by simp [mv, natEq, e]
   rw [h, if_neg (by omega)]
 have hval : ∀ x : AV, (∀ j ∈ x.ids, j < n) → (x.ren (mv i n)).val ρ1 = x.val ρ := fun x h => by
  rw [AV.val_ren]
  exact AV.val_congr x fun j hj => hmv j (h j hj)
 have hids : ∀ j, ∀ q ∈ (o7 S j).ids, q < n := fun j q hq => by have := (G.bd j).1 q hq; omega
 have hitem : ∀ j, ∀ q ∈ ((o7 S j).ren (mv i n)).ids, q < n + 1 := fun j q hq => by
  cases hx : o7 S j with
  | box cs =>
   rw [hx] at hq
   have h1 := hids j
   rw [hx] at h1
   exact hbd (.agg cs) h1 q hq
  | hole k d ls =>
   rw [hx] at hq
   have h1 := hids j
   rw [hx] at h1
   exact hbd (.ref k) h1 q hq
  | _ => rw [hx] at hq; cases hq
 refine ⟨ρ1, G.size, G.defs, fun t y hy => ?_, fun t y hy j hj => ?_, fun j => ⟨fun q hq => ?_, fun hj => v9 hj⟩, ?_, ?_, fun j hj => ?_⟩
 ·obtain ⟨x, h1, rfl⟩ := av4 hy
  rw [G.tmv t x h1, hval x fun j hj => by have := G.tmi t x h1 j hj; omega]
 ·obtain ⟨x, h1, rfl⟩ := av4 hy
  rw [hlen]
  exact hbd x (fun j hj => by have := G.tmi t x h1 j hj; omega) j hj
 ·rw [hlen]
  rw [hat] at hq
  split at hq
  ·exact hitem i q hq
  ·split at hq
   ·cases hq
   ·exact hitem j q hq
 ·refine G.mem.map (fun k : ι ⊕ Nat => (match k with | .inl q => some (.inl q) | .inr j => if j = n then some (.inr i) else if j = i then none else some (.inr j) : Option (ι ⊕ Nat))) ?_ ?_
  ·intro k k' x h1 h2
   match k, k' with
   | .inl q, .inl q' => simp at h1 h2; rw [← h1] at h2; simpa using h2.symm
   | .inl q, .inr j => simp at h1; subst h1; simp at h2; split at h2 <;> simp at h2
   | .inr j, .inl q => simp at h2; subst h2; simp at h1; split at h1 <;> simp at h1
   | .inr j, .inr j' =>
    simp only at h1 h2
    by_cases e1 : j = n <;> by_cases e2 : j' = n
    ·rw [e1, e2]
    ·rw [if_pos e1] at h1
     rw [if_neg e2] at h2
     by_cases e3 : j' = i
     ·rw [if_pos e3] at h2; cases h2
     ·rw [if_neg e3] at h2
      simp at h1 h2
      rw [← h1] at h2
      exact absurd (Sum.inr.inj h2) e3
    ·rw [if_pos e2] at h2
     rw [if_neg e1] at h1
     by_cases e3 : j = i
     ·rw [if_pos e3] at h1; cases h1
     ·rw [if_neg e3] at h1
      simp at h1 h2
      rw [← h2] at h1
      exact absurd (Sum.inr.inj h1) e3
    ·rw [if_neg e1] at h1
     rw [if_neg e2] at h2
     by_cases e3 : j = i
     ·rw [if_pos e3] at h1; cases h1
     ·by_cases e4 : j' = i
      ·rw [if_pos e4] at h2; cases h2
      ·rw [if_neg e3] at h1
       rw [if_neg e4] at h2
       simp at h1 h2
       rw [← h1] at h2
       rw [Sum.inr.inj h2]
  ·intro k
   match k with
   | .inl q => exact .inl ⟨_, rfl, rfl⟩
   | .inr j =>
    by_cases e : j = n
    ·refine .inl ⟨.inr i, by simp [e], ?_⟩
     simp only [l6]
     rw [hat, if_pos e]
     subst e
     have h1 : mv i j i = j := by simp [mv, natEq]
     rw [It.res_ren' (o7 S i) h1]
     exact It.res_congr _ (fun q hq => hmv q (hids i q hq)) (.inr (.inr (hmv i hin)))
    ·by_cases e2 : j = i
     ·refine .inr ?_
      simp only [l6]
      rw [hat, if_neg e, if_pos e2]
      rfl
     ·refine .inl ⟨.inr j, by simp [e, e2], ?_⟩
      simp only [l6]
      rw [hat, if_neg e, if_neg e2]
      rcases bY8 j n with hj | hj
      ·have h1 : mv i n j = j := by simp [mv, natEq, e2]
       rw [It.res_ren' (o7 S j) h1]
       exact It.res_congr _ (fun q hq => hmv q (hids j q hq)) (.inr (.inr (hmv j hj)))
      ·rw [v9 (by omega)]; rfl
 ·have := G.le; rw [hlen]; omega
 ·have := G.le
  show (if j = n then ρ i else ρ j) = ρ0 j
  rw [if_neg (by omega)]; exact G.old j hj
end
abbrev rN (l : List c7) : It := .row 60 (.instrs l)
abbrev rI (l : List Int) : It := .row 3 (.ints l)
theorem D5 (l : List c7) (fr : List Int) (at0 n o x y z u : Int) (h1 : l.length ≤ 8000000) (h2 : fr.length ≤ 8000000) : j8.ok Tryz.prog ⟨91, [.agg [.ref 0, .ref 1, iA at0], iA n, .agg [iA o, iA x, iA y, iA z, iA u]], [rN l, rI fr], [.dead, .dead, rN (l ++ [⟨o, x, y, z, u⟩]), rI (fr ++ [n])], .agg [.ref 2, .ref 3, iA at0]⟩ := by
 refine I1 20 Tryz.func91 [.row 60 (D.instrs l), .row 3 (D.ints fr)] [(0, .agg [.ref 0, .ref 1, iA at0]), (1, iA n), (2, .agg [iA o, iA x, iA y, iA z, iA u])] fun G => ?_; refine wp_seq (i9 G d9 [0, 1, 2, 10, 18] [.row 60 (D.instrs l), .row 3 (D.ints fr), .box [.ref 0, .ref 1, iA at0], .box [iA o, iA x, iA y, iA z, iA u], .box [.v (.slice none 0 0), .v (.slice none 0 0), iA 0]] [(1, iA n), (3, .ptr 2 0), (5, .ptr 3 0), (6, .ptr 4 0)] fun G => b0 (wp_seq (J0 G d9 [0, 1, 2, 4, 37] [.dead, .row 3 (D.ints fr), .box [.ref 4, .ref 1, iA at0], .box [.v (.slice none 0 0), .v (.slice none 0 0), iA 0], .row 60 (D.instrs (l ++ ([c7.mk o x y z u] ++ [])))] [(1, iA n), (3, .ptr 2 0), (6, .ptr 3 0)] (aP (l.length + 1) 40 []) (aK (by omega) bY1) fun G => b0 (wp_seq (J0 G d9 [0, 1, 2, 3, 4, 37] [.dead, .dead, .box [.ref 4, .ref 5, iA at0], .box [.v (.slice none 0 0), .v (.slice none 0 0), iA 0], .row 60 (D.instrs (l ++ ([c7.mk o x y z u] ++ []))), .row 3 (D.ints (fr ++ ([n] ++ [])))] [(3, .ptr 2 0), (6, .ptr 3 0)] (aP (fr.length + 1) 8 []) (aK (by omega) bY1) fun G => b0 (wp_seq (i9 G d9 [0, 1, 3, 4, 5] [.dead, .dead, .box [.ref 3, .ref 4, iA at0], .row 60 (D.instrs (l ++ ([c7.mk o x y z u] ++ []))), .row 3 (D.ints (fr ++ ([n] ++ [])))] [(6, .ptr 2 0)] fun G => b0 (wp_ret ?_)))))))); exact I9 G [0, 1, 3, 4]
abbrev l7C (l : List c7) (fr : List Int) (at0 n : Int) (e : c8) (reg : Int) : j8 := ⟨110, [.agg [.ref 0, .ref 1, iA at0], iA n, eA e 2, iA reg], [rN l, rI fr, dE e.kids], [.dead, .dead, dE e.kids, rN (l ++ b5 e reg), rI (fr ++ bW8 (b5 e reg).length n)], .agg [.ref 3, .ref 4, iA at0]⟩
theorem ce1 {e : c8} {r : Int} (k : e.kind = 1) : b5 e r = [⟨1, r, e.value, 0, 0⟩] := by rw [ad1, if_pos k]
theorem ce2 {e : c8} {r : Int} (k : e.kind = 2) : b5 e r = [⟨2, r, e.value, 0, 0⟩] := by rw [ad1, if_neg (by omega), if_pos k]
theorem aq5 (ks : List c8) (k : Nat) : M5 (ks.take k) ≤ M5 ks ∧ (k < ks.length → M5 (ks.take k) + 1 + P4 (ks.getD k bW7) ≤ M5 ks) ∧ (ks.take k).length ≤ M5 (ks.take k) := by
 refine ⟨?_, fun h => ?_, aM5 _⟩
 ·have := aa1 (ks.take k) (ks.drop k)
  rw [List.take_append_drop] at this
  omega
 ·have h1 := aa1 (ks.take (k + 1)) (ks.drop (k + 1))
  rw [List.take_append_drop, r8 _ _ h, aa1, ← n9 (d := bW7) h] at h1
  simp only [M5] at h1
  omega
section
variable {e : c8} {l : List c7} {fr : List Int} {n reg : Int} {k : Nat}
theorem aF6 (e : c8) : P4 e = M5 e.kids := by cases e; rfl
theorem bF7 (h0 : 0 ≤ reg) (h1 : reg + P4 e ≤ 2000000) (hk : k < e.kids.length) : 0 ≤ reg + (k : Int) ∧ reg + (k : Int) + P4 (e.kids.getD k bW7) ≤ 2000000 := by
 have h2 := (aq5 e.kids k).2.1 hk
 have h3 := (aq5 e.kids k).2.2
 rw [List.length_take] at h3
 rw [aF6] at h1
 omega
theorem bF8 (h2 : l.length + P4 e ≤ 5000000) (hk : k < e.kids.length) : (l ++ j6 (e.kids.take k) reg).length + P4 (e.kids.getD k bW7) ≤ 5000000 := by
 have h3 := (aq5 e.kids k).2.1 hk
 have h4 := Y0 (e.kids.take k) reg
 rw [aF6] at h2
 rw [bX1]
 omega
theorem al9 (h2 : l.length + P4 e ≤ 5000000) : (l ++ j6 (e.kids.take k) reg).length ≤ 5000000 := by
 have h3 := (aq5 e.kids k).1
 have h4 := Y0 (e.kids.take k) reg
 rw [aF6] at h2
 rw [bX1]
 omega
theorem ax2 (h3 : fr.length = l.length) : (fr ++ bW8 (j6 (e.kids.take k) reg).length n).length = (l ++ j6 (e.kids.take k) reg).length := by simp [h3]
theorem bw6 (hk : k < e.kids.length) : l ++ j6 (e.kids.take (k + 1)) reg = l ++ j6 (e.kids.take k) reg ++ b5 (e.kids.getD k bW7) (reg + (k : Int)) := by rw [ao4 hk, b12]
theorem bm9 (hk : k < e.kids.length) : fr ++ bW8 (j6 (e.kids.take (k + 1)) reg).length n = fr ++ bW8 (j6 (e.kids.take k) reg).length n ++ bW8 (b5 (e.kids.getD k bW7) (reg + (k : Int))).length n := by
 rw [ao4 hk, bX1, b12, List.replicate_append_replicate]
theorem bm8 : l = l ++ j6 (e.kids.take 0) reg := by simp [j6]
theorem ba5 : fr = fr ++ bW8 (j6 (e.kids.take 0) reg).length n := by simp [j6]
theorem aZ1 (k1 : ¬ e.kind = 1) (k2 : ¬ e.kind = 2) (hk : e.kids.length ≤ k) {x : c7} (hx : ai7 e.kind e.value reg = x) : l ++ b5 e reg = l ++ j6 (e.kids.take k) reg ++ [x] := by
 rw [ad1, if_neg k1, if_neg k2, bY3 hk, hx, b12]
theorem aJ3 (k1 : ¬ e.kind = 1) (k2 : ¬ e.kind = 2) (hk : e.kids.length ≤ k) : fr ++ bW8 (b5 e reg).length n = fr ++ bW8 (j6 (e.kids.take k) reg).length n ++ [n] := by
 rw [ad1, if_neg k1, if_neg k2, bY3 hk, b12, bX1, bX8, bY2, List.replicate_succ']
theorem la3 (k : e.kind = 3) : ai7 e.kind e.value reg = ⟨4, reg, e.value, reg, 0⟩ := by rw [ai7, if_pos k]
theorem bV2 (k : e.kind = 11) : ai7 e.kind e.value reg = ⟨7, reg, reg, reg + 1, reg + 2⟩ := by rw [ai7, if_neg (by omega), if_pos k]
theorem la0 (k3 : ¬ e.kind = 3) (k : ¬ e.kind = 11) : ai7 e.kind e.value reg = ⟨6, reg, e.kind, reg, reg + 1⟩ := by rw [ai7, if_neg k3, if_neg k]
end
abbrev U6 (e : c8) (l : List c7) (fr : List Int) (n : Int) (reg : Int) : List It := [.dead, .dead, dE e.kids, .row 60 (D.instrs (l ++ b5 e reg)), .row 3 (D.ints (fr ++ bW8 (b5 e reg).length n))]
abbrev R7 (n : Int) (reg : Int) (r0 : List (Nat × AV)) : List (Nat × AV) := (1, iA n) :: (3, iA reg) :: (4, .ptr 3 0) :: (6, .ptr 4 0) :: (8, .ptr 5 0) :: r0
abbrev aE7 (e : c8) (at0 : Int) (r0 : List It) : List It := .dead :: .dead :: dE e.kids :: .box [.ref 6, .ref 7, iA at0] :: .box (eL e 2) :: .box [.v (.slice none 0 0), .v (.slice none 0 0), iA 0] :: r0
theorem bg0 (e : c8) (ih : ∀ (u : c8), u ∈ e.kids → ∀ (l : List c7) (fr : List Int) (at0 n reg : Int), 0 ≤ reg → reg + P4 u ≤ 2000000 → l.length + P4 u ≤ 5000000 → fr.length = l.length → j8.ok Tryz.prog (l7C l fr at0 n u reg)) (l : List c7) (fr : List Int) (at0 n reg : Int) (r0 : 0 ≤ reg) (r1 : reg + P4 e ≤ 2000000) (r2 : l.length + P4 e ≤ 5000000) (r3 : fr.length = l.length) : j8.ok Tryz.prog (l7C l fr at0 n e reg) := by
  refine I1 82 Tryz.func110 [.row 60 (D.instrs l), .row 3 (D.ints fr), dE e.kids] [(0, .agg [.ref 0, .ref 1, iA at0]), (1, iA n), (2, eA e 2), (3, iA reg)] fun G => ?_
  have hlen : e.kids.length ≤ P4 e := by cases e; exact aM5 _
  refine wp_seq (i9 G d9 [0, 1, 2, 3, 11, 19] [.row 60 (D.instrs l), .row 3 (D.ints fr), dE e.kids, .box [.ref 0, .ref 1, iA at0], .box (eL e 2), .box [.v (.slice none 0 0), .v (.slice none 0 0), iA 0]] (R7 n reg []) fun G => b0 (wp_seq (wp_seq (l0 G d9 [(11, iA e.kind)] fun G => b0 (wp_block (wp_seq (l0 G d9 [(12, bA (e.kind == 1))] fun G => b0 (M4 G (fun h0 q0 => ?_) fun h0 q0 => ?_))))))))
  ·
   refine wp_seq (l0 G d9 [(21, bA (e.kind == 2))] fun G => b0 (M4 G (fun h1 q1 => ?_) fun h1 q1 => ?_))
   ·
    refine wp_skip (i8 (b0 (wp_seq (wp_seq (F5 G d9 (R7 n reg [(9, iA 0)]) fun G => b0 (wp_block ?_)))))); obtain ⟨ρ, G⟩ := G.shift 0 6 [.dead, .row 3 (D.ints fr), dE e.kids, .box [.ref 6, .ref 1, iA at0], .box (eL e 2), .box [.v (.slice none 0 0), .v (.slice none 0 0), iA 0], .row 60 (D.instrs l)] (R7 n reg [(9, iA 0)]); obtain ⟨ρ, G⟩ := G.shift 1 7 (aE7 e at0 [.row 60 (D.instrs l), .row 3 (D.ints fr)]) (R7 n reg [(9, iA 0)]); replace G := G.as (aE7 e at0 [.row 60 (D.instrs (l ++ j6 (bY0 0 e.kids) reg)), .row 3 (D.ints (fr ++ bW8 (j6 (bY0 0 e.kids) reg).length n))]) (R7 n reg [(9, iA 0)]) (by have e1 : (l ++ j6 (bY0 0 e.kids) reg : List c7) = (l) := bm8.symm; have e2 : (fr ++ bW8 (j6 (bY0 0 e.kids) reg).length n : List Int) = (fr) := ba5.symm; (first | rw [e1, e2] | simp only [e1, e2]) <;> rfl) (by kernel_rfl); refine v5 (κ := Nat) (fun k => k ≤ e.kids.length) (fun k => e.kids.length - k) (fun k => [.dead, .dead, dE e.kids, .box [.ref 6, .ref 7, iA at0], .box (eL e 2), .box [.v (.slice none 0 0), .v (.slice none 0 0), iA 0], .row 60 (.instrs (l ++ j6 (e.kids.take k) reg)), .row 3 (.ints (fr ++ bW8 (j6 (e.kids.take k) reg).length n))]) (fun k => [(1, iA n), (3, iA reg), (4, .ptr 3 0), (6, .ptr 4 0), (8, .ptr 5 0), (9, iA k)]) 0 (by omega) (s4.at G _ _) ?_; clear G; intro k ρ a w hp G; replace G := s4.at G (aE7 e at0 [.row 60 (D.instrs (l ++ j6 (bY0 k e.kids) reg)), .row 3 (D.ints (fr ++ bW8 (j6 (bY0 k e.kids) reg).length n))]) (R7 n reg [(9, iA k)]); refine wp_seq (wp_seq (l0 G d9 [(34, bA (decide ((k : Int) < e.kids.length)))] fun G => b0 (rcD G (fun h2 q2 => ?_) fun h2 q2 => ?_)))
    ·
     refine wp_exit (t6 (t6 (t3 (b0 (wp_seq (wp_seq (l0 G d9 [(49, iA e.kind)] fun G => b0 (wp_block (wp_seq (l0 G d9 [(50, bA (e.kind == 3))] fun G => b0 (M4 G (fun h3 q3 => ?_) fun h3 q3 => ?_)))))))))))
     ·
      refine wp_seq (l0 G d9 [(60, bA (e.kind == 11))] fun G => b0 (M4 G (fun h4 q4 => ?_) fun h4 q4 => ?_))
      · refine wp_skip (i8 (b0 (wp_seq (J0 G (t0 9 [6, 7] (D5 (l ++ j6 (bY0 k e.kids) reg) (fr ++ bW8 (j6 (bY0 k e.kids) reg).length n) at0 n 6 reg e.kind reg (reg + 1) (by have := al9 (k := k) (reg := reg) r2; have := ax2 (e := e) (n := n) (k := k) (reg := reg) r3; omega) (by have := al9 (k := k) (reg := reg) r2; have := ax2 (e := e) (n := n) (k := k) (reg := reg) r3; omega))) [0, 1, 2, 5, 80, 81] [.dead, .dead, dE e.kids, .box [.ref 4, .ref 5, iA at0], .row 60 (D.instrs (l ++ j6 (bY0 k e.kids) reg ++ [c7.mk 6 reg e.kind reg (reg + 1)])), .row 3 (D.ints (fr ++ bW8 (j6 (bY0 k e.kids) reg).length n ++ [n]))] [(8, .ptr 3 0)] [wO (reg + 1)] (o1 (by omega)) fun G => b0 (wp_ret ?_))))); exact I9 G [0, 1, 2, 4, 5] (by show _ = mR [0, 1, 2, 4, 5] (U6 e l fr n reg); unfold U6; have e1 : (l ++ b5 e reg : List c7) = (l ++ j6 (bY0 k e.kids) reg ++ [c7.mk 6 reg e.kind reg (reg + 1)]) := (aZ1 (by omega) (by omega) (by omega) (la0 (by omega) (by omega))); have e2 : (fr ++ bW8 (b5 e reg).length n : List Int) = (fr ++ bW8 (j6 (bY0 k e.kids) reg).length n ++ [n]) := (aJ3 (by omega) (by omega) (by omega)); (first | rw [e1, e2] | simp only [e1, e2]) <;> rfl)
      · refine wp_seq (J0 G (t0 9 [6, 7] (D5 (l ++ j6 (bY0 k e.kids) reg) (fr ++ bW8 (j6 (bY0 k e.kids) reg).length n) at0 n 7 reg reg (reg + 1) (reg + 2) (by have := al9 (k := k) (reg := reg) r2; have := ax2 (e := e) (n := n) (k := k) (reg := reg) r3; omega) (by have := al9 (k := k) (reg := reg) r2; have := ax2 (e := e) (n := n) (k := k) (reg := reg) r3; omega))) [0, 1, 2, 3, 4, 5, 6, 7, 80, 81] [.dead, .dead, dE e.kids, .box [.ref 6, .ref 7, iA at0], .box (eL e 2), .box [.ref 8, .ref 9, iA at0], .dead, .dead, .row 60 (D.instrs (l ++ j6 (bY0 k e.kids) reg ++ [c7.mk 7 reg reg (reg + 1) (reg + 2)])), .row 3 (D.ints (fr ++ bW8 (j6 (bY0 k e.kids) reg).length n ++ [n]))] (R7 n reg []) [wO (reg + 1), wO (reg + 2)] (o2 (by omega)) fun G => b0 (wp_ret (C2 (n7 ?_)))); exact I9 G [0, 1, 2, 8, 9] (by show _ = mR [0, 1, 2, 8, 9] (U6 e l fr n reg); unfold U6; have e1 : (l ++ b5 e reg : List c7) = (l ++ j6 (bY0 k e.kids) reg ++ [c7.mk 7 reg reg (reg + 1) (reg + 2)]) := (aZ1 (by omega) (by omega) (by omega) (bV2 (by omega))); have e2 : (fr ++ bW8 (b5 e reg).length n : List Int) = (fr ++ bW8 (j6 (bY0 k e.kids) reg).length n ++ [n]) := (aJ3 (by omega) (by omega) (by omega)); (first | rw [e1, e2] | simp only [e1, e2]) <;> rfl)
     · refine wp_seq (i9 G (t0 7 [6, 7] (D5 (l ++ j6 (bY0 k e.kids) reg) (fr ++ bW8 (j6 (bY0 k e.kids) reg).length n) at0 n 4 reg e.value reg 0 (by have := al9 (k := k) (reg := reg) r2; have := ax2 (e := e) (n := n) (k := k) (reg := reg) r3; omega) (by have := al9 (k := k) (reg := reg) r2; have := ax2 (e := e) (n := n) (k := k) (reg := reg) r3; omega))) [0, 1, 2, 3, 4, 5, 6, 7, 64, 65] [.dead, .dead, dE e.kids, .box [.ref 6, .ref 7, iA at0], .box (eL e 2), .box [.ref 8, .ref 9, iA at0], .dead, .dead, .row 60 (D.instrs (l ++ j6 (bY0 k e.kids) reg ++ [c7.mk 4 reg e.value reg 0])), .row 3 (D.ints (fr ++ bW8 (j6 (bY0 k e.kids) reg).length n ++ [n]))] (R7 n reg []) fun G => b0 (wp_ret (C2 (n7 ?_)))); exact I9 G [0, 1, 2, 8, 9] (by show _ = mR [0, 1, 2, 8, 9] (U6 e l fr n reg); unfold U6; have e1 : (l ++ b5 e reg : List c7) = (l ++ j6 (bY0 k e.kids) reg ++ [c7.mk 4 reg e.value reg 0]) := (aZ1 (by omega) (by omega) (by omega) (la3 (by omega))); have e2 : (fr ++ bW8 (b5 e reg).length n : List Int) = (fr ++ bW8 (j6 (bY0 k e.kids) reg).length n ++ [n]) := (aJ3 (by omega) (by omega) (by omega)); (first | rw [e1, e2] | simp only [e1, e2]) <;> rfl)
    · refine wp_skip (b0 (wp_seq (wp_block (F4 G (t0 10 [6, 7, 56] (ih (e.kids.getD k bW7) (bl0 (by omega)) (l ++ j6 (bY0 k e.kids) reg) (fr ++ bW8 (j6 (bY0 k e.kids) reg).length n) at0 n (reg + (k : Int)) (by omega) ((bF7 r0 r1 (by omega)).2) (bF8 r2 (by omega)) (ax2 r3))) [0, 0, 0, 4, 0, 28, 60, 0, 0, 384, 1023, 2047] [0, 1, 2, 3, 4, 5, 88, 89] (aE7 e at0 [.row 60 (D.instrs (l ++ j6 (bY0 k e.kids) reg ++ b5 (e.kids.getD k bW7) (reg + (k : Int)))), .row 3 (D.ints (fr ++ bW8 (j6 (bY0 k e.kids) reg).length n ++ bW8 (b5 (e.kids.getD k bW7) (reg + (k : Int))).length n))]) (R7 n reg [(9, iA k)]) (iX k k e.kids.length ((wO (reg + (k : Int))) :: [])) (iK (by omega) (o1 (by omega))) fun G => i8 (b0 (B5 G d9 [(9, iA ((k : Int) + 1))] [wO ((k : Int) + 1)] (o1 (by omega)) fun G => b0 ?_)))))); exact J5 G (k + 1) (by omega) (by omega) (rg 8) (by have e1 : (l ++ j6 (bY0 (k + 1) e.kids) reg : List c7) = (l ++ j6 (bY0 k e.kids) reg ++ b5 (e.kids.getD k bW7) (reg + (k : Int))) := (bw6 (by omega)); have e2 : (fr ++ bW8 (j6 (bY0 (k + 1) e.kids) reg).length n : List Int) = (fr ++ bW8 (j6 (bY0 k e.kids) reg).length n ++ bW8 (b5 (e.kids.getD k bW7) (reg + (k : Int))).length n) := (bm9 (by omega)); (first | rw [e1, e2] | simp only [e1, e2]) <;> rfl)
   · refine wp_seq (i9 G (t0 6 [0, 1] (D5 l fr at0 n 2 reg e.value 0 0 (by omega) (by omega))) [0, 1, 2, 3, 4, 5, 54, 55] [.dead, .dead, dE e.kids, .box [.ref 0, .ref 1, iA at0], .box (eL e 2), .box [.ref 6, .ref 7, iA at0], .row 60 (D.instrs (l ++ [c7.mk 2 reg e.value 0 0])), .row 3 (D.ints (fr ++ [n]))] (R7 n reg []) fun G => b0 (wp_ret (C2 (n7 ?_)))); exact I9 G [0, 1, 2, 6, 7] (by show _ = mR [0, 1, 2, 6, 7] (U6 e l fr n reg); unfold U6; rw [ce2 (by omega)] <;> rfl)
  · refine wp_seq (i9 G (t0 6 [0, 1] (D5 l fr at0 n 1 reg e.value 0 0 (by omega) (by omega))) [0, 1, 2, 3, 4, 5, 54, 55] [.dead, .dead, dE e.kids, .box [.ref 0, .ref 1, iA at0], .box (eL e 2), .box [.ref 6, .ref 7, iA at0], .row 60 (D.instrs (l ++ [c7.mk 1 reg e.value 0 0])), .row 3 (D.ints (fr ++ [n]))] (R7 n reg []) fun G => b0 (wp_ret (C2 (n7 ?_)))); exact I9 G [0, 1, 2, 6, 7] (by show _ = mR [0, 1, 2, 6, 7] (U6 e l fr n reg); unfold U6; rw [ce1 (by omega)] <;> rfl)
theorem aS0 (e : c8) : ∀ (l : List c7) (fr : List Int) (at0 n reg : Int), 0 ≤ reg → reg + P4 e ≤ 2000000 → l.length + P4 e ≤ 5000000 → fr.length = l.length → j8.ok Tryz.prog (l7C l fr at0 n e reg) :=
 c8.ind (P := fun e => ∀ (l : List c7) (fr : List Int) (at0 n reg : Int), 0 ≤ reg → reg + P4 e ≤ 2000000 → l.length + P4 e ≤ 5000000 → fr.length = l.length → j8.ok Tryz.prog (l7C l fr at0 n e reg)) (fun k v ks ih l fr at0 n reg r0 r1 r2 r3 => bg0 ⟨k, v, ks⟩ (fun u hu => ih u hu) l fr at0 n reg r0 r1 r2 r3) e
theorem Y3 (op : Int) (r0 : 1 ≤ op ∧ op ≤ 13) : j8.ok Tryz.prog (V1 79 [iA op] [] (.v (.string ⟨(e6 op).toArray⟩))) :=
 af5 fun φ w ρ h => (ae4 op w r0.1 r0.2).mono fun e w' h => h
theorem K4 (b : List UInt8) (j : Int) (r0 : 0 ≤ j) (r1 : j ≤ 900000000) : j8.ok Tryz.prog ⟨50, [.ptr 0 0], [.box [.ref 1, iA j], dY b], [.box [.ref 1, iA (j + 1)], dY b], iA (nm b j Z9)⟩ := by
 refine I1 6 Tryz.func50 [.box [.ref 1, iA j], dY b] [(0, .ptr 0 0)] fun G => ?_; refine wp_seq (l0 G d9 [(2, iA 0)] fun G => b0 (wp_seq (i9 G (t0 2 [0, 1, 10] (j8.lend (L6 b j ([0] ++ ([1] ++ ([2] ++ ([3] ++ ([255] ++ ([128] ++ ([7] ++ ([4] ++ ([100] ++ []))))))))) (List.cons_ne_nil _ _) (by assumption) (by omega)) [.no, .no, .row 3])) [0, 1] [.box [.ref 1, iA (j + 1)], dY b] [(2, iA (nm b j ([0] ++ ([1] ++ ([2] ++ ([3] ++ ([255] ++ ([128] ++ ([7] ++ ([4] ++ ([100] ++ [])))))))))))] fun G => b0 (wp_ret ?_)))); exact I9 G [0, 1]
theorem bD0 : ∀ x ∈ opL, 1 ≤ x ∧ x ≤ 12 := by decide
theorem bT7 (b : List UInt8) {j : Int} (r0 : 0 ≤ j) (r1 : j ≤ 900000000) : 1 ≤ nm b j opL ∧ nm b j opL ≤ 12 := bD0 _ (af6 b r0 (by omega) (List.cons_ne_nil _ _))
abbrev rnC (b : List UInt8) (j : Int) (vs ars : List Int) (l : List c7) (at0 n : Int) : j8 := ⟨74, [.ptr 0 0, .agg [.ref 2, .ref 3, .ref 4], iA at0, iA n], [.box [.ref 1, iA j], dY b, dI vs, dI ars, dN l], [.box [.ref 1, iA (S4 b j vs.length ars.length at0 n).2], dY b, dI vs, dI ars, dN l], .agg [iA (S4 b j vs.length ars.length at0 n).1.op, iA (S4 b j vs.length ars.length at0 n).1.a, iA (S4 b j vs.length ars.length at0 n).1.b, iA (S4 b j vs.length ars.length at0 n).1.c, iA (S4 b j vs.length ars.length at0 n).1.d]⟩
theorem aM1 {x : UInt8} {m : Nat} (h : ((x.toNat : Nat) : Int) = m) (hm : m < 256) : x = UInt8.ofNat m := by
 apply UInt8.toNat_inj.1
 rw [UInt8.toNat_ofNat']
 omega
section
variable {b : List UInt8} {j i at0 n X : Int} {nv na : Nat} {ks : List UInt8} {k : Nat} {x : UInt8}
theorem ap5 (hX : nm b j opL = X) (h : na = 0) (h2 : X = 4 ∨ X = 5) : opD b j na = 2 := by unfold opD; rw [hX, if_pos ⟨h, h2⟩]
theorem ap4 (hX : nm b j opL = X) (h : ¬ na = 0 ∨ (¬ X = 4 ∧ ¬ X = 5)) : opD b j na = X := by unfold opD; rw [hX, if_neg (by omega)]
theorem X3 (b : List UInt8) {i m : Int} (h0 : 0 ≤ i) (h1 : i ≤ 1000000000) : 0 ≤ pk b i m ∧ (pk b i m = 0 ∨ pk b i m < m) := by
 by_cases h : m < 1
 ·rw [bJ5 h]; omega
 ·have := bt7 b h0 h1 (n := m) (by omega); omega
theorem bt3 (h : ((x.toNat : Nat) : Int) = 114) : ptD b i nv na at0 n x = pk b i 3 := by
 rw [aM1 (m := 114) h (by decide)]; rfl
theorem bt5 (h : ((x.toNat : Nat) : Int) = 99) : ptD b i nv na at0 n x = nm b i Z9 := by
 rw [aM1 (m := 99) h (by decide)]; rfl
theorem bt1 (h : ((x.toNat : Nat) : Int) = 118) : ptD b i nv na at0 n x = pk b i nv := by
 rw [aM1 (m := 118) h (by decide)]; rfl
theorem bt6 (h : ((x.toNat : Nat) : Int) = 97) : ptD b i nv na at0 n x = pk b i na := by
 rw [aM1 (m := 97) h (by decide)]; rfl
theorem bt4 (h : ((x.toNat : Nat) : Int) = 111) : ptD b i nv na at0 n x = 4 + pk b i 7 := by
 rw [aM1 (m := 111) h (by decide)]; rfl
theorem bt2 (h1 : ¬ ((x.toNat : Nat) : Int) = 114) (h2 : ¬ ((x.toNat : Nat) : Int) = 99) (h3 : ¬ ((x.toNat : Nat) : Int) = 118) (h4 : ¬ ((x.toNat : Nat) : Int) = 97) (h5 : ¬ ((x.toNat : Nat) : Int) = 111) : ptD b i nv na at0 n x = at0 + 1 + pk b i (n - at0 - 1) := by
 unfold ptD
 rw [if_neg fun e => h1 (by rw [e]; rfl), if_neg fun e => h2 (by rw [e]; rfl), if_neg fun e => h3 (by rw [e]; rfl), if_neg fun e => h4 (by rw [e]; rfl), if_neg fun e => h5 (by rw [e]; rfl)]
theorem bS9 {v : Int} (hk : k < 4) (h : ptD b (j + k) nv na at0 n (ks.getD k 0) = v) : psD b j nv na at0 n ks (k + 1) = (psD b j nv na at0 n ks k).set k v := by rw [bh9 b j nv na at0 n ks hk, h]
theorem fl2 : (e6 2).length = 2 := rfl
theorem bsz (l : List UInt8) : (ByteArray.mk l.toArray).size = l.length := by simp [ByteArray.size]
theorem bR9 (ho : opD b j na = X) (hk : (e6 X).length ≤ k) (hk2 : k ≤ (e6 X).length) : S4 b j nv na at0 n = (⟨X, (psD b (j + 1) nv na at0 n (e6 X) k).getD 0 0, (psD b (j + 1) nv na at0 n (e6 X) k).getD 1 0, (psD b (j + 1) nv na at0 n (e6 X) k).getD 2 0, (psD b (j + 1) nv na at0 n (e6 X) k).getD 3 0⟩, j + 1 + k) := by
 have e : k = (e6 X).length := by omega
 subst e
 unfold S4
 rw [ho]
def RnR (b : List UInt8) (j at0 n : Int) (nv na : Nat) (R : Int → Nat → List Int) : Prop := ∀ X k, R X k = psD b (j + 1) nv na at0 n (e6 X) k
variable {R : Int → Nat → List Int}
theorem RnR.len (h : RnR b j at0 n nv na R) (X : Int) (k : Nat) : (R X k).length = 4 := by rw [h X k, a43]
theorem RnR.start (h : RnR b j at0 n nv na R) (X : Int) : R X 0 = [0, 0, 0, 0] := h X 0
theorem RnR.next (h : RnR b j at0 n nv na R) {X v : Int} (hk : k < 4) (hp : ptD b (j + 1 + k) nv na at0 n ((e6 X).getD k 0) = v) : R X (k + 1) = (R X k).set k v := by rw [h X (k + 1), h X k]; exact bS9 hk hp
theorem RnR.done (h : RnR b j at0 n nv na R) {X : Int} (ho : opD b j na = X) (hk : (e6 X).length ≤ k) (hk2 : k ≤ (e6 X).length) : S4 b j nv na at0 n = (⟨X, (R X k).getD 0 0, (R X k).getD 1 0, (R X k).getD 2 0, (R X k).getD 3 0⟩, j + 1 + k) := by rw [h X k]; exact bR9 ho hk hk2
end
abbrev bH2 : It := .box [iA 0, iA 0, iA 0, iA 0, iA 0]
abbrev H0 (j : Int) (k : Nat) : It := .box [.ref 1, iA (j + 1 + (k : Int) + 1)]
abbrev K1 (X : Int) : AV := .v (.string (ByteArray.mk (e6 X).toArray))
abbrev K0 : AV := .v (.string (ByteArray.mk (e6 2).toArray))
abbrev M9 : It := .box [iA 2, iA 0, iA 0, iA 0, iA 0]
abbrev O6 (X : Int) : It := .box [iA X, iA 0, iA 0, iA 0, iA 0]
abbrev an6 (j : Int) (k : Nat) : It := .box [.ref 1, iA (j + 1 + (k : Int))]
abbrev a25 : It := .row 3 (D.ints ([0] ++ ([0] ++ ([0] ++ ([0] ++ [])))))
abbrev v7 (at0 : Int) (n : Int) (r0 : List (Nat × AV)) : List (Nat × AV) := (0, .ptr 0 0) :: (2, iA at0) :: (3, iA n) :: (5, .ptr 5 0) :: (8, .ptr 6 0) :: (9, .ptr 7 0) :: r0
abbrev z6 (b : List UInt8) (vs : List Int) (ars : List Int) (l : List c7) (r0 : List It) : List It := dY b :: dI vs :: dI ars :: dN l :: .box (pL 2) :: bH2 :: r0
abbrev C8 (k : Nat) (r0 : List (Nat × AV)) : List (Nat × AV) := (11, .ref 8) :: (12, iA (k : Int)) :: r0
theorem aV3 (b : List UInt8) (j : Int) (vs ars : List Int) (l : List c7) (at0 n X : Int) (hX : nm b j opL = X) (r0 : 0 ≤ j) (r1 : j ≤ 800000000) (r2 : 0 ≤ at0 ∧ at0 ≤ 100) (r3 : 0 ≤ n ∧ n ≤ 100) : j8.ok Tryz.prog (rnC b j vs ars l at0 n) := by
  have hnum : j8.ok Tryz.prog ⟨46, [.ptr 0 0, .ref 2], [.box [.ref 1, iA j], dY b, dI opL], [.box [.ref 1, iA (j + 1)], dY b, dI opL], iA X⟩ := hX ▸ L6 b j opL (List.cons_ne_nil _ _) r0 (by omega); refine I1 114 Tryz.func74 [.box [.ref 1, iA j], dY b, dI vs, dI ars, dN l] [(0, .ptr 0 0), (1, pA 2), (2, iA at0), (3, iA n)] fun G => ?_; obtain ⟨R, hR⟩ : ∃ x : Int → Nat → List Int, RnR b j at0 n vs.length ars.length x := ⟨_, fun _ _ => rfl⟩; have hRl := hR.len; have hop : 1 ≤ X ∧ X ≤ 12 := hX ▸ bT7 b r0 (by omega); refine wp_seq (i9 G d9 [0, 1, 2, 3, 4, 5, 13] (.box [.ref 1, iA j] :: (z6 b vs ars l [])) [(0, .ptr 0 0), (2, iA at0), (3, iA n), (5, .ptr 5 0), (8, .ptr 6 0)] fun G => b0 (wp_seq (i9 G (t0 2 [0, 1, 15] (j8.lend hnum [.no, .no, .row 3])) [0, 1, 2, 3, 4, 5, 6, 39] (.box [.ref 1, iA (j + 1)] :: (z6 b vs ars l [O6 X])) (v7 at0 n []) fun G => b0 (wp_seq (wp_seq ?_))))); cases h0 : ((ars.length : Int) == 0)
  ·
   have q0 := ne_of_beq_false h0; refine l0 G (H4 (fc h0 fz) (us [(5, 8, 0), (12, 12, 0), (1013, 1013, 0)])) [(30, bA false)] fun G => b0 (rF G false (by kernel_rfl) (wp_skip (b0 (wp_seq (l0 G (t0 2 [] (Y3 X (by omega))) [(10, K1 X)] fun G => b0 (wp_seq (i9 G d9 (rg 9) (.box [.ref 1, iA (j + 1)] :: (z6 b vs ars l [O6 X, a25])) (v7 at0 n [(10, K1 X), (11, .ref 8)]) fun G => b0 (wp_seq (wp_seq (F5 G d9 (v7 at0 n [(10, K1 X), (11, .ref 8), (12, iA 0)]) fun G => b0 (wp_block ?_))))))))))); replace G := G.as [.box [.ref 1, iA (j + 1 + (0 : Int))], dY b, dI vs, dI ars, dN l, .box (pL 2), .box [iA 0, iA 0, iA 0, iA 0, iA 0], .box [iA X, iA 0, iA 0, iA 0, iA 0], .row 3 (D.ints (R X 0))] (v7 at0 n [(10, .v (.string (ByteArray.mk (e6 X).toArray))), (11, .ref 8), (12, iA 0)]) (by have e1 : (j + 1 + (0 : Int) : Int) = (j + 1) := (by omega); have e2 : (R X 0 : List Int) = ([0] ++ ([0] ++ ([0] ++ ([0] ++ [])))) := (hR.start _); (first | rw [e1, e2] | simp only [e1, e2]) <;> rfl) (by kernel_rfl); refine v5 (κ := Nat) (fun k => k ≤ (e6 X).length) (fun k => (e6 X).length - k) (fun k => [.box [.ref 1, iA (j + 1 + k)], dY b, dI vs, dI ars, dN l, .box (pL 2), .box [iA 0, iA 0, iA 0, iA 0, iA 0], .box [iA X, iA 0, iA 0, iA 0, iA 0], .row 3 (.ints (R X k))]) (fun k => [(0, .ptr 0 0), (2, iA at0), (3, iA n), (5, .ptr 5 0), (8, .ptr 6 0), (9, .ptr 7 0), (10, .v (.string (ByteArray.mk (e6 X).toArray))), (11, .ref 8), (12, iA k)]) 0 (by omega) (s4.at G _ _) ?_; clear G; intro k ρ a w hp G; replace G := s4.at G (an6 j k :: (z6 b vs ars l [O6 X, .row 3 (D.ints (R X k))])) (v7 at0 n ((10, K1 X) :: (C8 k []))); have hfl := N8 X; have hbz := bsz (e6 X); refine wp_seq (wp_seq (l0 G d9 [(39, bA (decide ((k : Int) < ((ByteArray.mk (e6 X).toArray).size : Int))))] fun G => b0 (rcD G (fun h3 q3 => ?_) fun h3 q3 => ?_)))
   · refine wp_exit (t6 (t6 (t3 (b0 (wp_seq (F4 G d9 [0, 1, 0, 4, 12, 0, 32, 96, 0, 256, 768, 0, 2048, 6144, 16383, 32767] [0, 1, 2, 3, 4, 6] [an6 j k, dY b, dI vs, dI ars, dN l, .box [iA X, iA ((R X k).getD 0 0), iA ((R X k).getD 1 0), iA ((R X k).getD 2 0), iA ((R X k).getD 3 0)]] [(8, .ptr 5 0)] [(0 : Int) ≤ 0, (0 : Int) < ((R X k).length : Int), (0 : Nat) < (R X k).length, (0 : Int) ≤ 1, (1 : Int) < ((R X k).length : Int), (1 : Nat) < (R X k).length, (0 : Int) ≤ 2, (2 : Int) < ((R X k).length : Int), (2 : Nat) < (R X k).length, (0 : Int) ≤ 3, (3 : Int) < ((R X k).length : Int), (3 : Nat) < (R X k).length] ⟨(by omega), (by rw [hRl]; decide), (by rw [hRl]; decide), (by omega), (by rw [hRl]; decide), (by rw [hRl]; decide), (by omega), (by rw [hRl]; decide), (by rw [hRl]; decide), (by omega), (by rw [hRl]; decide), (by rw [hRl]; decide), bY1⟩ fun G => b0 (wp_ret ?_))))))); exact W4 (.agg [iA X, iA ((R X k).getD 0 0), iA ((R X k).getD 1 0), iA ((R X k).getD 2 0), iA ((R X k).getD 3 0)]) G (rg 5) (by have e1 : ((S4 b j vs.length ars.length at0 n).fst.op : Int) = (X) := (by rw [hR.done (k := k) (ap4 hX (by omega)) (by omega) (by omega)]; done); have e2 : ((S4 b j vs.length ars.length at0 n).fst.a : Int) = ((R X k).getD 0 0) := (by rw [hR.done (k := k) (ap4 hX (by omega)) (by omega) (by omega)]; done); have e3 : ((S4 b j vs.length ars.length at0 n).fst.b : Int) = ((R X k).getD 1 0) := (by rw [hR.done (k := k) (ap4 hX (by omega)) (by omega) (by omega)]; done); have e4 : ((S4 b j vs.length ars.length at0 n).fst.c : Int) = ((R X k).getD 2 0) := (by rw [hR.done (k := k) (ap4 hX (by omega)) (by omega) (by omega)]; done); have e5 : ((S4 b j vs.length ars.length at0 n).fst.d : Int) = ((R X k).getD 3 0) := (by rw [hR.done (k := k) (ap4 hX (by omega)) (by omega) (by omega)]; done); (first | rw [e1, e2, e3, e4, e5] | simp only [e1, e2, e3, e4, e5]) <;> rfl) (by show _ = mR (rg 5) [.box [.ref 1, iA (S4 b j vs.length ars.length at0 n).snd], dY b, dI vs, dI ars, dN l]; rw [hR.done (k := k) (ap4 hX (by omega)) (by omega) (by omega)] <;> rfl)
   ·
    refine wp_skip (b0 (wp_seq (wp_block (wp_seq (B5 G d9 [(44, .v (.int .u8 (((e6 X).getD k 0).toNat : Int)))] [(0 : Int) ≤ (k : Int), (k : Int) < ((ByteArray.mk (e6 X).toArray).size : Int)] ⟨(by omega), (by assumption), bY1⟩ fun G => b0 (wp_block (wp_seq (l0 G d9 [(57, bA ((((e6 X).getD k 0).toNat : Int) == 114))] fun G => b0 (M4 (u := (((e6 X).getD k (0 : UInt8)).toNat : Int)) (v := (114 : Int)) G (fun h4 q4 => ?_) fun h4 q4 => ?_)))))))))
    ·
     refine wp_seq (l0 G d9 [(64, bA ((((e6 X).getD k 0).toNat : Int) == 99))] fun G => b0 (M4 (u := (((e6 X).getD k (0 : UInt8)).toNat : Int)) (v := (99 : Int)) G (fun h5 q5 => ?_) fun h5 q5 => ?_))
     ·
      refine wp_seq (l0 G d9 [(71, bA ((((e6 X).getD k 0).toNat : Int) == 118))] fun G => b0 (M4 (u := (((e6 X).getD k (0 : UInt8)).toNat : Int)) (v := (118 : Int)) G (fun h6 q6 => ?_) fun h6 q6 => ?_))
      ·
       refine wp_seq (l0 G d9 [(81, bA ((((e6 X).getD k 0).toNat : Int) == 97))] fun G => b0 (M4 (u := (((e6 X).getD k (0 : UInt8)).toNat : Int)) (v := (97 : Int)) G (fun h7 q7 => ?_) fun h7 q7 => ?_))
       ·
        refine wp_seq (l0 G d9 [(91, bA ((((e6 X).getD k 0).toNat : Int) == 111))] fun G => b0 (M4 (u := (((e6 X).getD k (0 : UInt8)).toNat : Int)) (v := (111 : Int)) G (fun h8 q8 => ?_) fun h8 q8 => ?_))
        · refine J0 G (t0 9 [0, 1] (o5 b (j + 1 + (k : Int)) (n - at0 - 1) (by omega) (by omega))) (rg 9) (H0 j k :: (z6 b vs ars l [O6 X, .row 3 (D.ints ((R X k).set k (at0 + 1 + pk b (j + 1 + (k : Int)) (n - at0 - 1))))])) (v7 at0 n ((10, K1 X) :: (C8 k []))) ((wO (at0 + 1)) :: ((wO (n - at0)) :: ((wO (n - at0 - 1)) :: ((wO (at0 + 1 + pk b (j + 1 + (k : Int)) (n - at0 - 1))) :: (iX k k ((R X k).length) []))))) ⟨oW (by omega), ⟨oW (by omega), ⟨oW (by omega), ⟨(by have h9 := X3 b (i := j + 1 + k) (m := n - at0 - 1) (by omega) (by omega); exact w64 (by omega) (by omega)), (iK (by rw [hRl]; omega) bY1)⟩⟩⟩⟩ fun G => i8 (i8 (b0 (B5 G d9 [(12, iA ((k : Int) + 1))] [wO ((k : Int) + 1)] (o1 (by omega)) fun G => b0 ?_))); exact J5 G (k + 1) (by omega) (by omega) (rg 9) (by have e1 : (j + 1 + (↑(k + 1) : Int) : Int) = (j + 1 + (k : Int) + 1) := (by omega); have e2 : (R X (k + 1) : List Int) = ((R X k).set k (at0 + 1 + pk b (j + 1 + (k : Int)) (n - at0 - 1))) := (hR.next (by omega) (bt2 (by with_reducible assumption) (by with_reducible assumption) (by with_reducible assumption) (by with_reducible assumption) (by with_reducible assumption))); (first | rw [e1, e2] | simp only [e1, e2]) <;> rfl)
        · refine J0 G (t0 3 [0, 1] (o5 b (j + 1 + (k : Int)) 7 (by omega) (by omega))) (rg 9) (H0 j k :: (z6 b vs ars l [O6 X, .row 3 (D.ints ((R X k).set k (4 + pk b (j + 1 + (k : Int)) 7)))])) (v7 at0 n ((10, K1 X) :: (C8 k []))) ((wO ((4 : Int) + pk b (j + 1 + (k : Int)) (7 : Int))) :: (iX k k ((R X k).length) [])) ⟨(by have h9 := X3 b (i := j + 1 + k) (m := 7) (by omega) (by omega); exact w64 (by omega) (by omega)), (iK (by rw [hRl]; omega) bY1)⟩ fun G => i8 (i8 (b0 (B5 G d9 [(12, iA ((k : Int) + 1))] [wO ((k : Int) + 1)] (o1 (by omega)) fun G => b0 ?_))); exact J5 G (k + 1) (by omega) (by omega) (rg 9) (by have e1 : (j + 1 + (↑(k + 1) : Int) : Int) = (j + 1 + (k : Int) + 1) := (by omega); have e2 : (R X (k + 1) : List Int) = ((R X k).set k (4 + pk b (j + 1 + (k : Int)) 7)) := (hR.next (by omega) (bt4 (by with_reducible assumption))); (first | rw [e1, e2] | simp only [e1, e2]) <;> rfl)
       · refine J0 G (t0 6 [0, 1] (o5 b (j + 1 + (k : Int)) ((ars.length : Int)) (by omega) (by omega))) (rg 9) (H0 j k :: (z6 b vs ars l [O6 X, .row 3 (D.ints ((R X k).set k (pk b (j + 1 + (k : Int)) (ars.length : Int))))])) (v7 at0 n ((10, K1 X) :: (C8 k []))) (iX k k ((R X k).length) []) (iK (by rw [hRl]; omega) bY1) fun G => i8 (i8 (b0 (B5 G d9 [(12, iA ((k : Int) + 1))] [wO ((k : Int) + 1)] (o1 (by omega)) fun G => b0 ?_))); exact J5 G (k + 1) (by omega) (by omega) (rg 9) (by have e1 : (j + 1 + (↑(k + 1) : Int) : Int) = (j + 1 + (k : Int) + 1) := (by omega); have e2 : (R X (k + 1) : List Int) = ((R X k).set k (pk b (j + 1 + (k : Int)) (ars.length : Int))) := (hR.next (by omega) (bt6 (by with_reducible assumption))); (first | rw [e1, e2] | simp only [e1, e2]) <;> rfl)
      · refine J0 G (t0 6 [0, 1] (o5 b (j + 1 + (k : Int)) ((vs.length : Int)) (by omega) (by omega))) (rg 9) (H0 j k :: (z6 b vs ars l [O6 X, .row 3 (D.ints ((R X k).set k (pk b (j + 1 + (k : Int)) (vs.length : Int))))])) (v7 at0 n ((10, K1 X) :: (C8 k []))) (iX k k ((R X k).length) []) (iK (by rw [hRl]; omega) bY1) fun G => i8 (i8 (b0 (B5 G d9 [(12, iA ((k : Int) + 1))] [wO ((k : Int) + 1)] (o1 (by omega)) fun G => b0 ?_))); exact J5 G (k + 1) (by omega) (by omega) (rg 9) (by have e1 : (j + 1 + (↑(k + 1) : Int) : Int) = (j + 1 + (k : Int) + 1) := (by omega); have e2 : (R X (k + 1) : List Int) = ((R X k).set k (pk b (j + 1 + (k : Int)) (vs.length : Int))) := (hR.next (by omega) (bt1 (by with_reducible assumption))); (first | rw [e1, e2] | simp only [e1, e2]) <;> rfl)
     · refine J0 G (t0 3 [0, 1] (K4 b (j + 1 + (k : Int)) (by omega) (by omega))) (rg 9) (H0 j k :: (z6 b vs ars l [O6 X, .row 3 (D.ints ((R X k).set k (nm b (j + 1 + (k : Int)) Z9)))])) (v7 at0 n ((10, K1 X) :: (C8 k []))) (iX k k ((R X k).length) []) (iK (by rw [hRl]; omega) bY1) fun G => i8 (i8 (b0 (B5 G d9 [(12, iA ((k : Int) + 1))] [wO ((k : Int) + 1)] (o1 (by omega)) fun G => b0 ?_))); exact J5 G (k + 1) (by omega) (by omega) (rg 9) (by have e1 : (j + 1 + (↑(k + 1) : Int) : Int) = (j + 1 + (k : Int) + 1) := (by omega); have e2 : (R X (k + 1) : List Int) = ((R X k).set k (nm b (j + 1 + (k : Int)) Z9)) := (hR.next (by omega) (bt5 (by with_reducible assumption))); (first | rw [e1, e2] | simp only [e1, e2]) <;> rfl)
    · refine J0 G (t0 3 [0, 1] (o5 b (j + 1 + (k : Int)) 3 (by omega) (by omega))) (rg 9) (H0 j k :: (z6 b vs ars l [O6 X, .row 3 (D.ints ((R X k).set k (pk b (j + 1 + (k : Int)) 3)))])) (v7 at0 n ((10, K1 X) :: (C8 k []))) (iX k k ((R X k).length) []) (iK (by rw [hRl]; omega) bY1) fun G => i8 (i8 (b0 (B5 G d9 [(12, iA ((k : Int) + 1))] [wO ((k : Int) + 1)] (o1 (by omega)) fun G => b0 ?_))); exact J5 G (k + 1) (by omega) (by omega) (rg 9) (by have e1 : (j + 1 + (↑(k + 1) : Int) : Int) = (j + 1 + (k : Int) + 1) := (by omega); have e2 : (R X (k + 1) : List Int) = ((R X k).set k (pk b (j + 1 + (k : Int)) 3)) := (hR.next (by omega) (bt3 (by with_reducible assumption))); (first | rw [e1, e2] | simp only [e1, e2]) <;> rfl)
  ·
   have q0 := eq_of_beq h0; cases h1 : (X == 4)
   ·
    have q1 := ne_of_beq_false h1; refine l0 G (H4 (fc h0 (fc h1 fz)) (us [(5, 8, 0), (9, 11, 1), (12, 12, 0), (1012, 1012, 1), (1013, 1013, 0)])) [(30, bA (X == 5))] fun G => b0 (M4 G (fun h2 q2 => ?_) fun h2 q2 => ?_)
    ·
     refine wp_skip (b0 (wp_seq (l0 G (t0 2 [] (Y3 X (by omega))) [(10, K1 X)] fun G => b0 (wp_seq (i9 G d9 (rg 9) (.box [.ref 1, iA (j + 1)] :: (z6 b vs ars l [O6 X, a25])) (v7 at0 n [(10, K1 X), (11, .ref 8)]) fun G => b0 (wp_seq (wp_seq (F5 G d9 (v7 at0 n [(10, K1 X), (11, .ref 8), (12, iA 0)]) fun G => b0 (wp_block ?_))))))))); replace G := G.as [.box [.ref 1, iA (j + 1 + (0 : Int))], dY b, dI vs, dI ars, dN l, .box (pL 2), .box [iA 0, iA 0, iA 0, iA 0, iA 0], .box [iA X, iA 0, iA 0, iA 0, iA 0], .row 3 (D.ints (R X 0))] (v7 at0 n [(10, .v (.string (ByteArray.mk (e6 X).toArray))), (11, .ref 8), (12, iA 0)]) (by have e1 : (j + 1 + (0 : Int) : Int) = (j + 1) := (by omega); have e2 : (R X 0 : List Int) = ([0] ++ ([0] ++ ([0] ++ ([0] ++ [])))) := (hR.start _); (first | rw [e1, e2] | simp only [e1, e2]) <;> rfl) (by kernel_rfl); refine v5 (κ := Nat) (fun k => k ≤ (e6 X).length) (fun k => (e6 X).length - k) (fun k => [.box [.ref 1, iA (j + 1 + k)], dY b, dI vs, dI ars, dN l, .box (pL 2), .box [iA 0, iA 0, iA 0, iA 0, iA 0], .box [iA X, iA 0, iA 0, iA 0, iA 0], .row 3 (.ints (R X k))]) (fun k => [(0, .ptr 0 0), (2, iA at0), (3, iA n), (5, .ptr 5 0), (8, .ptr 6 0), (9, .ptr 7 0), (10, .v (.string (ByteArray.mk (e6 X).toArray))), (11, .ref 8), (12, iA k)]) 0 (by omega) (s4.at G _ _) ?_; clear G; intro k ρ a w hp G; replace G := s4.at G (an6 j k :: (z6 b vs ars l [O6 X, .row 3 (D.ints (R X k))])) (v7 at0 n ((10, K1 X) :: (C8 k []))); have hfl := N8 X; have hbz := bsz (e6 X); refine wp_seq (wp_seq (l0 G d9 [(39, bA (decide ((k : Int) < ((ByteArray.mk (e6 X).toArray).size : Int))))] fun G => b0 (rcD G (fun h9 q9 => ?_) fun h9 q9 => ?_)))
     · refine wp_exit (t6 (t6 (t3 (b0 (wp_seq (F4 G d9 [0, 1, 0, 4, 12, 0, 32, 96, 0, 256, 768, 0, 2048, 6144, 16383, 32767] [0, 1, 2, 3, 4, 6] [an6 j k, dY b, dI vs, dI ars, dN l, .box [iA X, iA ((R X k).getD 0 0), iA ((R X k).getD 1 0), iA ((R X k).getD 2 0), iA ((R X k).getD 3 0)]] [(8, .ptr 5 0)] [(0 : Int) ≤ 0, (0 : Int) < ((R X k).length : Int), (0 : Nat) < (R X k).length, (0 : Int) ≤ 1, (1 : Int) < ((R X k).length : Int), (1 : Nat) < (R X k).length, (0 : Int) ≤ 2, (2 : Int) < ((R X k).length : Int), (2 : Nat) < (R X k).length, (0 : Int) ≤ 3, (3 : Int) < ((R X k).length : Int), (3 : Nat) < (R X k).length] ⟨(by omega), (by rw [hRl]; decide), (by rw [hRl]; decide), (by omega), (by rw [hRl]; decide), (by rw [hRl]; decide), (by omega), (by rw [hRl]; decide), (by rw [hRl]; decide), (by omega), (by rw [hRl]; decide), (by rw [hRl]; decide), bY1⟩ fun G => b0 (wp_ret ?_))))))); exact W4 (.agg [iA X, iA ((R X k).getD 0 0), iA ((R X k).getD 1 0), iA ((R X k).getD 2 0), iA ((R X k).getD 3 0)]) G (rg 5) (by have e1 : ((S4 b j vs.length ars.length at0 n).fst.op : Int) = (X) := (by rw [hR.done (k := k) (ap4 hX (by omega)) (by omega) (by omega)]; done); have e2 : ((S4 b j vs.length ars.length at0 n).fst.a : Int) = ((R X k).getD 0 0) := (by rw [hR.done (k := k) (ap4 hX (by omega)) (by omega) (by omega)]; done); have e3 : ((S4 b j vs.length ars.length at0 n).fst.b : Int) = ((R X k).getD 1 0) := (by rw [hR.done (k := k) (ap4 hX (by omega)) (by omega) (by omega)]; done); have e4 : ((S4 b j vs.length ars.length at0 n).fst.c : Int) = ((R X k).getD 2 0) := (by rw [hR.done (k := k) (ap4 hX (by omega)) (by omega) (by omega)]; done); have e5 : ((S4 b j vs.length ars.length at0 n).fst.d : Int) = ((R X k).getD 3 0) := (by rw [hR.done (k := k) (ap4 hX (by omega)) (by omega) (by omega)]; done); (first | rw [e1, e2, e3, e4, e5] | simp only [e1, e2, e3, e4, e5]) <;> rfl) (by show _ = mR (rg 5) [.box [.ref 1, iA (S4 b j vs.length ars.length at0 n).snd], dY b, dI vs, dI ars, dN l]; rw [hR.done (k := k) (ap4 hX (by omega)) (by omega) (by omega)] <;> rfl)
     ·
      refine wp_skip (b0 (wp_seq (wp_block (wp_seq (B5 G d9 [(44, .v (.int .u8 (((e6 X).getD k 0).toNat : Int)))] [(0 : Int) ≤ (k : Int), (k : Int) < ((ByteArray.mk (e6 X).toArray).size : Int)] ⟨(by omega), (by assumption), bY1⟩ fun G => b0 (wp_block (wp_seq (l0 G d9 [(57, bA ((((e6 X).getD k 0).toNat : Int) == 114))] fun G => b0 (M4 (u := (((e6 X).getD k (0 : UInt8)).toNat : Int)) (v := (114 : Int)) G (fun h10 q10 => ?_) fun h10 q10 => ?_)))))))))
      ·
       refine wp_seq (l0 G d9 [(64, bA ((((e6 X).getD k 0).toNat : Int) == 99))] fun G => b0 (M4 (u := (((e6 X).getD k (0 : UInt8)).toNat : Int)) (v := (99 : Int)) G (fun h11 q11 => ?_) fun h11 q11 => ?_))
       ·
        refine wp_seq (l0 G d9 [(71, bA ((((e6 X).getD k 0).toNat : Int) == 118))] fun G => b0 (M4 (u := (((e6 X).getD k (0 : UInt8)).toNat : Int)) (v := (118 : Int)) G (fun h12 q12 => ?_) fun h12 q12 => ?_))
        ·
         refine wp_seq (l0 G d9 [(81, bA ((((e6 X).getD k 0).toNat : Int) == 97))] fun G => b0 (M4 (u := (((e6 X).getD k (0 : UInt8)).toNat : Int)) (v := (97 : Int)) G (fun h13 q13 => ?_) fun h13 q13 => ?_))
         ·
          refine wp_seq (l0 G d9 [(91, bA ((((e6 X).getD k 0).toNat : Int) == 111))] fun G => b0 (M4 (u := (((e6 X).getD k (0 : UInt8)).toNat : Int)) (v := (111 : Int)) G (fun h14 q14 => ?_) fun h14 q14 => ?_))
          · refine J0 G (t0 9 [0, 1] (o5 b (j + 1 + (k : Int)) (n - at0 - 1) (by omega) (by omega))) (rg 9) (H0 j k :: (z6 b vs ars l [O6 X, .row 3 (D.ints ((R X k).set k (at0 + 1 + pk b (j + 1 + (k : Int)) (n - at0 - 1))))])) (v7 at0 n ((10, K1 X) :: (C8 k []))) ((wO (at0 + 1)) :: ((wO (n - at0)) :: ((wO (n - at0 - 1)) :: ((wO (at0 + 1 + pk b (j + 1 + (k : Int)) (n - at0 - 1))) :: (iX k k ((R X k).length) []))))) ⟨oW (by omega), ⟨oW (by omega), ⟨oW (by omega), ⟨(by have h9 := X3 b (i := j + 1 + k) (m := n - at0 - 1) (by omega) (by omega); exact w64 (by omega) (by omega)), (iK (by rw [hRl]; omega) bY1)⟩⟩⟩⟩ fun G => i8 (i8 (b0 (B5 G d9 [(12, iA ((k : Int) + 1))] [wO ((k : Int) + 1)] (o1 (by omega)) fun G => b0 ?_))); exact J5 G (k + 1) (by omega) (by omega) (rg 9) (by have e1 : (j + 1 + (↑(k + 1) : Int) : Int) = (j + 1 + (k : Int) + 1) := (by omega); have e2 : (R X (k + 1) : List Int) = ((R X k).set k (at0 + 1 + pk b (j + 1 + (k : Int)) (n - at0 - 1))) := (hR.next (by omega) (bt2 (by with_reducible assumption) (by with_reducible assumption) (by with_reducible assumption) (by with_reducible assumption) (by with_reducible assumption))); (first | rw [e1, e2] | simp only [e1, e2]) <;> rfl)
          · refine J0 G (t0 3 [0, 1] (o5 b (j + 1 + (k : Int)) 7 (by omega) (by omega))) (rg 9) (H0 j k :: (z6 b vs ars l [O6 X, .row 3 (D.ints ((R X k).set k (4 + pk b (j + 1 + (k : Int)) 7)))])) (v7 at0 n ((10, K1 X) :: (C8 k []))) ((wO ((4 : Int) + pk b (j + 1 + (k : Int)) (7 : Int))) :: (iX k k ((R X k).length) [])) ⟨(by have h9 := X3 b (i := j + 1 + k) (m := 7) (by omega) (by omega); exact w64 (by omega) (by omega)), (iK (by rw [hRl]; omega) bY1)⟩ fun G => i8 (i8 (b0 (B5 G d9 [(12, iA ((k : Int) + 1))] [wO ((k : Int) + 1)] (o1 (by omega)) fun G => b0 ?_))); exact J5 G (k + 1) (by omega) (by omega) (rg 9) (by have e1 : (j + 1 + (↑(k + 1) : Int) : Int) = (j + 1 + (k : Int) + 1) := (by omega); have e2 : (R X (k + 1) : List Int) = ((R X k).set k (4 + pk b (j + 1 + (k : Int)) 7)) := (hR.next (by omega) (bt4 (by with_reducible assumption))); (first | rw [e1, e2] | simp only [e1, e2]) <;> rfl)
         · refine J0 G (t0 6 [0, 1] (o5 b (j + 1 + (k : Int)) ((ars.length : Int)) (by omega) (by omega))) (rg 9) (H0 j k :: (z6 b vs ars l [O6 X, .row 3 (D.ints ((R X k).set k (pk b (j + 1 + (k : Int)) (ars.length : Int))))])) (v7 at0 n ((10, K1 X) :: (C8 k []))) (iX k k ((R X k).length) []) (iK (by rw [hRl]; omega) bY1) fun G => i8 (i8 (b0 (B5 G d9 [(12, iA ((k : Int) + 1))] [wO ((k : Int) + 1)] (o1 (by omega)) fun G => b0 ?_))); exact J5 G (k + 1) (by omega) (by omega) (rg 9) (by have e1 : (j + 1 + (↑(k + 1) : Int) : Int) = (j + 1 + (k : Int) + 1) := (by omega); have e2 : (R X (k + 1) : List Int) = ((R X k).set k (pk b (j + 1 + (k : Int)) (ars.length : Int))) := (hR.next (by omega) (bt6 (by with_reducible assumption))); (first | rw [e1, e2] | simp only [e1, e2]) <;> rfl)
        · refine J0 G (t0 6 [0, 1] (o5 b (j + 1 + (k : Int)) ((vs.length : Int)) (by omega) (by omega))) (rg 9) (H0 j k :: (z6 b vs ars l [O6 X, .row 3 (D.ints ((R X k).set k (pk b (j + 1 + (k : Int)) (vs.length : Int))))])) (v7 at0 n ((10, K1 X) :: (C8 k []))) (iX k k ((R X k).length) []) (iK (by rw [hRl]; omega) bY1) fun G => i8 (i8 (b0 (B5 G d9 [(12, iA ((k : Int) + 1))] [wO ((k : Int) + 1)] (o1 (by omega)) fun G => b0 ?_))); exact J5 G (k + 1) (by omega) (by omega) (rg 9) (by have e1 : (j + 1 + (↑(k + 1) : Int) : Int) = (j + 1 + (k : Int) + 1) := (by omega); have e2 : (R X (k + 1) : List Int) = ((R X k).set k (pk b (j + 1 + (k : Int)) (vs.length : Int))) := (hR.next (by omega) (bt1 (by with_reducible assumption))); (first | rw [e1, e2] | simp only [e1, e2]) <;> rfl)
       · refine J0 G (t0 3 [0, 1] (K4 b (j + 1 + (k : Int)) (by omega) (by omega))) (rg 9) (H0 j k :: (z6 b vs ars l [O6 X, .row 3 (D.ints ((R X k).set k (nm b (j + 1 + (k : Int)) Z9)))])) (v7 at0 n ((10, K1 X) :: (C8 k []))) (iX k k ((R X k).length) []) (iK (by rw [hRl]; omega) bY1) fun G => i8 (i8 (b0 (B5 G d9 [(12, iA ((k : Int) + 1))] [wO ((k : Int) + 1)] (o1 (by omega)) fun G => b0 ?_))); exact J5 G (k + 1) (by omega) (by omega) (rg 9) (by have e1 : (j + 1 + (↑(k + 1) : Int) : Int) = (j + 1 + (k : Int) + 1) := (by omega); have e2 : (R X (k + 1) : List Int) = ((R X k).set k (nm b (j + 1 + (k : Int)) Z9)) := (hR.next (by omega) (bt5 (by with_reducible assumption))); (first | rw [e1, e2] | simp only [e1, e2]) <;> rfl)
      · refine J0 G (t0 3 [0, 1] (o5 b (j + 1 + (k : Int)) 3 (by omega) (by omega))) (rg 9) (H0 j k :: (z6 b vs ars l [O6 X, .row 3 (D.ints ((R X k).set k (pk b (j + 1 + (k : Int)) 3)))])) (v7 at0 n ((10, K1 X) :: (C8 k []))) (iX k k ((R X k).length) []) (iK (by rw [hRl]; omega) bY1) fun G => i8 (i8 (b0 (B5 G d9 [(12, iA ((k : Int) + 1))] [wO ((k : Int) + 1)] (o1 (by omega)) fun G => b0 ?_))); exact J5 G (k + 1) (by omega) (by omega) (rg 9) (by have e1 : (j + 1 + (↑(k + 1) : Int) : Int) = (j + 1 + (k : Int) + 1) := (by omega); have e2 : (R X (k + 1) : List Int) = ((R X k).set k (pk b (j + 1 + (k : Int)) 3)) := (hR.next (by omega) (bt3 (by with_reducible assumption))); (first | rw [e1, e2] | simp only [e1, e2]) <;> rfl)
    ·
     refine i9 G d9 (rg 8) (.box [.ref 1, iA (j + 1)] :: (z6 b vs ars l [M9])) (v7 at0 n []) fun G => b0 (wp_seq (l0 G (t0 2 [] (Y3 2 (by omega))) [(10, K0)] fun G => b0 (wp_seq (i9 G d9 (rg 9) (.box [.ref 1, iA (j + 1)] :: (z6 b vs ars l [M9, a25])) (v7 at0 n [(10, K0), (11, .ref 8)]) fun G => b0 (wp_seq (wp_seq (F5 G d9 (v7 at0 n [(10, K0), (11, .ref 8), (12, iA 0)]) fun G => b0 (wp_block ?_)))))))); replace G := G.as [.box [.ref 1, iA (j + 1 + (0 : Int))], dY b, dI vs, dI ars, dN l, .box (pL 2), .box [iA 0, iA 0, iA 0, iA 0, iA 0], .box [iA 2, iA 0, iA 0, iA 0, iA 0], .row 3 (D.ints (R 2 0))] (v7 at0 n [(10, .v (.string (ByteArray.mk (e6 2).toArray))), (11, .ref 8), (12, iA 0)]) (by have e1 : (j + 1 + (0 : Int) : Int) = (j + 1) := (by omega); have e2 : (R 2 0 : List Int) = ([0] ++ ([0] ++ ([0] ++ ([0] ++ [])))) := (hR.start _); (first | rw [e1, e2] | simp only [e1, e2]) <;> rfl) (by kernel_rfl); refine v5 (κ := Nat) (fun k => k ≤ (e6 2).length) (fun k => (e6 2).length - k) (fun k => [.box [.ref 1, iA (j + 1 + k)], dY b, dI vs, dI ars, dN l, .box (pL 2), .box [iA 0, iA 0, iA 0, iA 0, iA 0], .box [iA 2, iA 0, iA 0, iA 0, iA 0], .row 3 (.ints (R 2 k))]) (fun k => [(0, .ptr 0 0), (2, iA at0), (3, iA n), (5, .ptr 5 0), (8, .ptr 6 0), (9, .ptr 7 0), (10, .v (.string (ByteArray.mk (e6 2).toArray))), (11, .ref 8), (12, iA k)]) 0 (by omega) (s4.at G _ _) ?_; clear G; intro k ρ a w hp G; replace G := s4.at G (an6 j k :: (z6 b vs ars l [M9, .row 3 (D.ints (R 2 k))])) (v7 at0 n ((10, K0) :: (C8 k []))); have hfl := N8 2; have hbz := bsz (e6 2); have hf2 := fl2; refine wp_seq (wp_seq (l0 G d9 [(39, bA (decide ((k : Int) < 2)))] fun G => b0 (rcD G (fun h15 q15 => ?_) fun h15 q15 => ?_)))
     · refine wp_exit (t6 (t6 (t3 (b0 (wp_seq (F4 G d9 [0, 1, 0, 4, 12, 0, 32, 96, 0, 256, 768, 0, 2048, 6144, 16383, 32767] [0, 1, 2, 3, 4, 6] [an6 j k, dY b, dI vs, dI ars, dN l, .box [iA 2, iA ((R 2 k).getD 0 0), iA ((R 2 k).getD 1 0), iA ((R 2 k).getD 2 0), iA ((R 2 k).getD 3 0)]] [(8, .ptr 5 0)] [(0 : Int) ≤ 0, (0 : Int) < ((R (2 : Int) k).length : Int), (0 : Nat) < (R (2 : Int) k).length, (0 : Int) ≤ 1, (1 : Int) < ((R (2 : Int) k).length : Int), (1 : Nat) < (R (2 : Int) k).length, (0 : Int) ≤ 2, (2 : Int) < ((R (2 : Int) k).length : Int), (2 : Nat) < (R (2 : Int) k).length, (0 : Int) ≤ 3, (3 : Int) < ((R (2 : Int) k).length : Int), (3 : Nat) < (R (2 : Int) k).length] ⟨(by omega), (by rw [hRl]; decide), (by rw [hRl]; decide), (by omega), (by rw [hRl]; decide), (by rw [hRl]; decide), (by omega), (by rw [hRl]; decide), (by rw [hRl]; decide), (by omega), (by rw [hRl]; decide), (by rw [hRl]; decide), bY1⟩ fun G => b0 (wp_ret ?_))))))); exact W4 (.agg [iA 2, iA ((R 2 k).getD 0 0), iA ((R 2 k).getD 1 0), iA ((R 2 k).getD 2 0), iA ((R 2 k).getD 3 0)]) G (rg 5) (by have e1 : ((S4 b j vs.length ars.length at0 n).fst.op : Int) = (2) := (by rw [hR.done (k := k) (X := 2) (ap5 hX (by omega) (by omega)) (by omega) (by omega)]; done); have e2 : ((S4 b j vs.length ars.length at0 n).fst.a : Int) = ((R 2 k).getD 0 0) := (by rw [hR.done (k := k) (X := 2) (ap5 hX (by omega) (by omega)) (by omega) (by omega)]; done); have e3 : ((S4 b j vs.length ars.length at0 n).fst.b : Int) = ((R 2 k).getD 1 0) := (by rw [hR.done (k := k) (X := 2) (ap5 hX (by omega) (by omega)) (by omega) (by omega)]; done); have e4 : ((S4 b j vs.length ars.length at0 n).fst.c : Int) = ((R 2 k).getD 2 0) := (by rw [hR.done (k := k) (X := 2) (ap5 hX (by omega) (by omega)) (by omega) (by omega)]; done); have e5 : ((S4 b j vs.length ars.length at0 n).fst.d : Int) = ((R 2 k).getD 3 0) := (by rw [hR.done (k := k) (X := 2) (ap5 hX (by omega) (by omega)) (by omega) (by omega)]; done); (first | rw [e1, e2, e3, e4, e5] | simp only [e1, e2, e3, e4, e5]) <;> rfl) (by show _ = mR (rg 5) [.box [.ref 1, iA (S4 b j vs.length ars.length at0 n).snd], dY b, dI vs, dI ars, dN l]; rw [hR.done (k := k) (X := 2) (ap5 hX (by omega) (by omega)) (by omega) (by omega)] <;> rfl)
     ·
      refine wp_skip (b0 (wp_seq (wp_block (wp_seq (B5 G d9 [(44, .v (.int .u8 (((e6 2).getD k 0).toNat : Int)))] [(0 : Int) ≤ (k : Int), (k : Int) < ((ByteArray.mk (e6 (2 : Int)).toArray).size : Int)] ⟨(by omega), (by assumption), bY1⟩ fun G => b0 (wp_block (wp_seq (l0 G d9 [(57, bA ((((e6 2).getD k 0).toNat : Int) == 114))] fun G => b0 (M4 (u := (((e6 (2 : Int)).getD k (0 : UInt8)).toNat : Int)) (v := (114 : Int)) G (fun h16 q16 => ?_) fun h16 q16 => ?_)))))))))
      ·
       refine wp_seq (l0 G d9 [(64, bA ((((e6 2).getD k 0).toNat : Int) == 99))] fun G => b0 (M4 (u := (((e6 (2 : Int)).getD k (0 : UInt8)).toNat : Int)) (v := (99 : Int)) G (fun h17 q17 => ?_) fun h17 q17 => ?_))
       ·
        refine wp_seq (l0 G d9 [(71, bA ((((e6 2).getD k 0).toNat : Int) == 118))] fun G => b0 (M4 (u := (((e6 (2 : Int)).getD k (0 : UInt8)).toNat : Int)) (v := (118 : Int)) G (fun h18 q18 => ?_) fun h18 q18 => ?_))
        ·
         refine wp_seq (l0 G d9 [(81, bA ((((e6 2).getD k 0).toNat : Int) == 97))] fun G => b0 (M4 (u := (((e6 (2 : Int)).getD k (0 : UInt8)).toNat : Int)) (v := (97 : Int)) G (fun h19 q19 => ?_) fun h19 q19 => ?_))
         ·
          refine wp_seq (l0 G d9 [(91, bA ((((e6 2).getD k 0).toNat : Int) == 111))] fun G => b0 (M4 (u := (((e6 (2 : Int)).getD k (0 : UInt8)).toNat : Int)) (v := (111 : Int)) G (fun h20 q20 => ?_) fun h20 q20 => ?_))
          · refine J0 G (t0 9 [0, 1] (o5 b (j + 1 + (k : Int)) (n - at0 - 1) (by omega) (by omega))) (rg 9) (H0 j k :: (z6 b vs ars l [M9, .row 3 (D.ints ((R 2 k).set k (at0 + 1 + pk b (j + 1 + (k : Int)) (n - at0 - 1))))])) (v7 at0 n ((10, K0) :: (C8 k []))) ((wO (at0 + 1)) :: ((wO (n - at0)) :: ((wO (n - at0 - 1)) :: ((wO (at0 + 1 + pk b (j + 1 + (k : Int)) (n - at0 - 1))) :: (iX k k ((R (2 : Int) k).length) []))))) ⟨oW (by omega), ⟨oW (by omega), ⟨oW (by omega), ⟨(by have h9 := X3 b (i := j + 1 + k) (m := n - at0 - 1) (by omega) (by omega); exact w64 (by omega) (by omega)), (iK (by rw [hRl]; omega) bY1)⟩⟩⟩⟩ fun G => i8 (i8 (b0 (B5 G d9 [(12, iA ((k : Int) + 1))] [wO ((k : Int) + 1)] (o1 (by omega)) fun G => b0 ?_))); exact J5 G (k + 1) (by omega) (by omega) (rg 9) (by have e1 : (j + 1 + (↑(k + 1) : Int) : Int) = (j + 1 + (k : Int) + 1) := (by omega); have e2 : (R 2 (k + 1) : List Int) = ((R 2 k).set k (at0 + 1 + pk b (j + 1 + (k : Int)) (n - at0 - 1))) := (hR.next (by omega) (bt2 (by with_reducible assumption) (by with_reducible assumption) (by with_reducible assumption) (by with_reducible assumption) (by with_reducible assumption))); (first | rw [e1, e2] | simp only [e1, e2]) <;> rfl)
          · refine J0 G (t0 3 [0, 1] (o5 b (j + 1 + (k : Int)) 7 (by omega) (by omega))) (rg 9) (H0 j k :: (z6 b vs ars l [M9, .row 3 (D.ints ((R 2 k).set k (4 + pk b (j + 1 + (k : Int)) 7)))])) (v7 at0 n ((10, K0) :: (C8 k []))) ((wO ((4 : Int) + pk b (j + 1 + (k : Int)) (7 : Int))) :: (iX k k ((R (2 : Int) k).length) [])) ⟨(by have h9 := X3 b (i := j + 1 + k) (m := 7) (by omega) (by omega); exact w64 (by omega) (by omega)), (iK (by rw [hRl]; omega) bY1)⟩ fun G => i8 (i8 (b0 (B5 G d9 [(12, iA ((k : Int) + 1))] [wO ((k : Int) + 1)] (o1 (by omega)) fun G => b0 ?_))); exact J5 G (k + 1) (by omega) (by omega) (rg 9) (by have e1 : (j + 1 + (↑(k + 1) : Int) : Int) = (j + 1 + (k : Int) + 1) := (by omega); have e2 : (R 2 (k + 1) : List Int) = ((R 2 k).set k (4 + pk b (j + 1 + (k : Int)) 7)) := (hR.next (by omega) (bt4 (by with_reducible assumption))); (first | rw [e1, e2] | simp only [e1, e2]) <;> rfl)
         · refine J0 G (t0 6 [0, 1] (o5 b (j + 1 + (k : Int)) ((ars.length : Int)) (by omega) (by omega))) (rg 9) (H0 j k :: (z6 b vs ars l [M9, .row 3 (D.ints ((R 2 k).set k (pk b (j + 1 + (k : Int)) (ars.length : Int))))])) (v7 at0 n ((10, K0) :: (C8 k []))) (iX k k ((R (2 : Int) k).length) []) (iK (by rw [hRl]; omega) bY1) fun G => i8 (i8 (b0 (B5 G d9 [(12, iA ((k : Int) + 1))] [wO ((k : Int) + 1)] (o1 (by omega)) fun G => b0 ?_))); exact J5 G (k + 1) (by omega) (by omega) (rg 9) (by have e1 : (j + 1 + (↑(k + 1) : Int) : Int) = (j + 1 + (k : Int) + 1) := (by omega); have e2 : (R 2 (k + 1) : List Int) = ((R 2 k).set k (pk b (j + 1 + (k : Int)) (ars.length : Int))) := (hR.next (by omega) (bt6 (by with_reducible assumption))); (first | rw [e1, e2] | simp only [e1, e2]) <;> rfl)
        · refine J0 G (t0 6 [0, 1] (o5 b (j + 1 + (k : Int)) ((vs.length : Int)) (by omega) (by omega))) (rg 9) (H0 j k :: (z6 b vs ars l [M9, .row 3 (D.ints ((R 2 k).set k (pk b (j + 1 + (k : Int)) (vs.length : Int))))])) (v7 at0 n ((10, K0) :: (C8 k []))) (iX k k ((R (2 : Int) k).length) []) (iK (by rw [hRl]; omega) bY1) fun G => i8 (i8 (b0 (B5 G d9 [(12, iA ((k : Int) + 1))] [wO ((k : Int) + 1)] (o1 (by omega)) fun G => b0 ?_))); exact J5 G (k + 1) (by omega) (by omega) (rg 9) (by have e1 : (j + 1 + (↑(k + 1) : Int) : Int) = (j + 1 + (k : Int) + 1) := (by omega); have e2 : (R 2 (k + 1) : List Int) = ((R 2 k).set k (pk b (j + 1 + (k : Int)) (vs.length : Int))) := (hR.next (by omega) (bt1 (by with_reducible assumption))); (first | rw [e1, e2] | simp only [e1, e2]) <;> rfl)
       · refine J0 G (t0 3 [0, 1] (K4 b (j + 1 + (k : Int)) (by omega) (by omega))) (rg 9) (H0 j k :: (z6 b vs ars l [M9, .row 3 (D.ints ((R 2 k).set k (nm b (j + 1 + (k : Int)) Z9)))])) (v7 at0 n ((10, K0) :: (C8 k []))) (iX k k ((R (2 : Int) k).length) []) (iK (by rw [hRl]; omega) bY1) fun G => i8 (i8 (b0 (B5 G d9 [(12, iA ((k : Int) + 1))] [wO ((k : Int) + 1)] (o1 (by omega)) fun G => b0 ?_))); exact J5 G (k + 1) (by omega) (by omega) (rg 9) (by have e1 : (j + 1 + (↑(k + 1) : Int) : Int) = (j + 1 + (k : Int) + 1) := (by omega); have e2 : (R 2 (k + 1) : List Int) = ((R 2 k).set k (nm b (j + 1 + (k : Int)) Z9)) := (hR.next (by omega) (bt5 (by with_reducible assumption))); (first | rw [e1, e2] | simp only [e1, e2]) <;> rfl)
      · refine J0 G (t0 3 [0, 1] (o5 b (j + 1 + (k : Int)) 3 (by omega) (by omega))) (rg 9) (H0 j k :: (z6 b vs ars l [M9, .row 3 (D.ints ((R 2 k).set k (pk b (j + 1 + (k : Int)) 3)))])) (v7 at0 n ((10, K0) :: (C8 k []))) (iX k k ((R (2 : Int) k).length) []) (iK (by rw [hRl]; omega) bY1) fun G => i8 (i8 (b0 (B5 G d9 [(12, iA ((k : Int) + 1))] [wO ((k : Int) + 1)] (o1 (by omega)) fun G => b0 ?_))); exact J5 G (k + 1) (by omega) (by omega) (rg 9) (by have e1 : (j + 1 + (↑(k + 1) : Int) : Int) = (j + 1 + (k : Int) + 1) := (by omega); have e2 : (R 2 (k + 1) : List Int) = ((R 2 k).set k (pk b (j + 1 + (k : Int)) 3)) := (hR.next (by omega) (bt3 (by with_reducible assumption))); (first | rw [e1, e2] | simp only [e1, e2]) <;> rfl)
   ·
    have q1 := eq_of_beq h1; refine l0 G (H4 (fc h0 (fc h1 fz)) (us [(5, 8, 0), (9, 11, 1), (12, 12, 0), (1012, 1012, 1), (1013, 1013, 0)])) [(30, bA true)] fun G => b0 (rT G true (by kernel_rfl) (i9 G d9 (rg 8) (.box [.ref 1, iA (j + 1)] :: (z6 b vs ars l [M9])) (v7 at0 n []) fun G => b0 (wp_seq (l0 G (t0 2 [] (Y3 2 (by omega))) [(10, K0)] fun G => b0 (wp_seq (i9 G d9 (rg 9) (.box [.ref 1, iA (j + 1)] :: (z6 b vs ars l [M9, a25])) (v7 at0 n [(10, K0), (11, .ref 8)]) fun G => b0 (wp_seq (wp_seq (F5 G d9 (v7 at0 n [(10, K0), (11, .ref 8), (12, iA 0)]) fun G => b0 (wp_block ?_)))))))))); replace G := G.as [.box [.ref 1, iA (j + 1 + (0 : Int))], dY b, dI vs, dI ars, dN l, .box (pL 2), .box [iA 0, iA 0, iA 0, iA 0, iA 0], .box [iA 2, iA 0, iA 0, iA 0, iA 0], .row 3 (D.ints (R 2 0))] (v7 at0 n [(10, .v (.string (ByteArray.mk (e6 2).toArray))), (11, .ref 8), (12, iA 0)]) (by have e1 : (j + 1 + (0 : Int) : Int) = (j + 1) := (by omega); have e2 : (R 2 0 : List Int) = ([0] ++ ([0] ++ ([0] ++ ([0] ++ [])))) := (hR.start _); (first | rw [e1, e2] | simp only [e1, e2]) <;> rfl) (by kernel_rfl); refine v5 (κ := Nat) (fun k => k ≤ (e6 2).length) (fun k => (e6 2).length - k) (fun k => [.box [.ref 1, iA (j + 1 + k)], dY b, dI vs, dI ars, dN l, .box (pL 2), .box [iA 0, iA 0, iA 0, iA 0, iA 0], .box [iA 2, iA 0, iA 0, iA 0, iA 0], .row 3 (.ints (R 2 k))]) (fun k => [(0, .ptr 0 0), (2, iA at0), (3, iA n), (5, .ptr 5 0), (8, .ptr 6 0), (9, .ptr 7 0), (10, .v (.string (ByteArray.mk (e6 2).toArray))), (11, .ref 8), (12, iA k)]) 0 (by omega) (s4.at G _ _) ?_; clear G; intro k ρ a w hp G; replace G := s4.at G (an6 j k :: (z6 b vs ars l [M9, .row 3 (D.ints (R 2 k))])) (v7 at0 n ((10, K0) :: (C8 k []))); have hfl := N8 2; have hbz := bsz (e6 2); have hf2 := fl2; refine wp_seq (wp_seq (l0 G d9 [(39, bA (decide ((k : Int) < 2)))] fun G => b0 (rcD G (fun h21 q21 => ?_) fun h21 q21 => ?_)))
    · refine wp_exit (t6 (t6 (t3 (b0 (wp_seq (F4 G d9 [0, 1, 0, 4, 12, 0, 32, 96, 0, 256, 768, 0, 2048, 6144, 16383, 32767] [0, 1, 2, 3, 4, 6] [an6 j k, dY b, dI vs, dI ars, dN l, .box [iA 2, iA ((R 2 k).getD 0 0), iA ((R 2 k).getD 1 0), iA ((R 2 k).getD 2 0), iA ((R 2 k).getD 3 0)]] [(8, .ptr 5 0)] [(0 : Int) ≤ 0, (0 : Int) < ((R (2 : Int) k).length : Int), (0 : Nat) < (R (2 : Int) k).length, (0 : Int) ≤ 1, (1 : Int) < ((R (2 : Int) k).length : Int), (1 : Nat) < (R (2 : Int) k).length, (0 : Int) ≤ 2, (2 : Int) < ((R (2 : Int) k).length : Int), (2 : Nat) < (R (2 : Int) k).length, (0 : Int) ≤ 3, (3 : Int) < ((R (2 : Int) k).length : Int), (3 : Nat) < (R (2 : Int) k).length] ⟨(by omega), (by rw [hRl]; decide), (by rw [hRl]; decide), (by omega), (by rw [hRl]; decide), (by rw [hRl]; decide), (by omega), (by rw [hRl]; decide), (by rw [hRl]; decide), (by omega), (by rw [hRl]; decide), (by rw [hRl]; decide), bY1⟩ fun G => b0 (wp_ret ?_))))))); exact W4 (.agg [iA 2, iA ((R 2 k).getD 0 0), iA ((R 2 k).getD 1 0), iA ((R 2 k).getD 2 0), iA ((R 2 k).getD 3 0)]) G (rg 5) (by have e1 : ((S4 b j vs.length ars.length at0 n).fst.op : Int) = (2) := (by rw [hR.done (k := k) (X := 2) (ap5 hX (by omega) (by omega)) (by omega) (by omega)]; done); have e2 : ((S4 b j vs.length ars.length at0 n).fst.a : Int) = ((R 2 k).getD 0 0) := (by rw [hR.done (k := k) (X := 2) (ap5 hX (by omega) (by omega)) (by omega) (by omega)]; done); have e3 : ((S4 b j vs.length ars.length at0 n).fst.b : Int) = ((R 2 k).getD 1 0) := (by rw [hR.done (k := k) (X := 2) (ap5 hX (by omega) (by omega)) (by omega) (by omega)]; done); have e4 : ((S4 b j vs.length ars.length at0 n).fst.c : Int) = ((R 2 k).getD 2 0) := (by rw [hR.done (k := k) (X := 2) (ap5 hX (by omega) (by omega)) (by omega) (by omega)]; done); have e5 : ((S4 b j vs.length ars.length at0 n).fst.d : Int) = ((R 2 k).getD 3 0) := (by rw [hR.done (k := k) (X := 2) (ap5 hX (by omega) (by omega)) (by omega) (by omega)]; done); (first | rw [e1, e2, e3, e4, e5] | simp only [e1, e2, e3, e4, e5]) <;> rfl) (by show _ = mR (rg 5) [.box [.ref 1, iA (S4 b j vs.length ars.length at0 n).snd], dY b, dI vs, dI ars, dN l]; rw [hR.done (k := k) (X := 2) (ap5 hX (by omega) (by omega)) (by omega) (by omega)] <;> rfl)
    ·
     refine wp_skip (b0 (wp_seq (wp_block (wp_seq (B5 G d9 [(44, .v (.int .u8 (((e6 2).getD k 0).toNat : Int)))] [(0 : Int) ≤ (k : Int), (k : Int) < ((ByteArray.mk (e6 (2 : Int)).toArray).size : Int)] ⟨(by omega), (by assumption), bY1⟩ fun G => b0 (wp_block (wp_seq (l0 G d9 [(57, bA ((((e6 2).getD k 0).toNat : Int) == 114))] fun G => b0 (M4 (u := (((e6 (2 : Int)).getD k (0 : UInt8)).toNat : Int)) (v := (114 : Int)) G (fun h22 q22 => ?_) fun h22 q22 => ?_)))))))))
     ·
      refine wp_seq (l0 G d9 [(64, bA ((((e6 2).getD k 0).toNat : Int) == 99))] fun G => b0 (M4 (u := (((e6 (2 : Int)).getD k (0 : UInt8)).toNat : Int)) (v := (99 : Int)) G (fun h23 q23 => ?_) fun h23 q23 => ?_))
      ·
       refine wp_seq (l0 G d9 [(71, bA ((((e6 2).getD k 0).toNat : Int) == 118))] fun G => b0 (M4 (u := (((e6 (2 : Int)).getD k (0 : UInt8)).toNat : Int)) (v := (118 : Int)) G (fun h24 q24 => ?_) fun h24 q24 => ?_))
       ·
        refine wp_seq (l0 G d9 [(81, bA ((((e6 2).getD k 0).toNat : Int) == 97))] fun G => b0 (M4 (u := (((e6 (2 : Int)).getD k (0 : UInt8)).toNat : Int)) (v := (97 : Int)) G (fun h25 q25 => ?_) fun h25 q25 => ?_))
        ·
         refine wp_seq (l0 G d9 [(91, bA ((((e6 2).getD k 0).toNat : Int) == 111))] fun G => b0 (M4 (u := (((e6 (2 : Int)).getD k (0 : UInt8)).toNat : Int)) (v := (111 : Int)) G (fun h26 q26 => ?_) fun h26 q26 => ?_))
         · refine J0 G (t0 9 [0, 1] (o5 b (j + 1 + (k : Int)) (n - at0 - 1) (by omega) (by omega))) (rg 9) (H0 j k :: (z6 b vs ars l [M9, .row 3 (D.ints ((R 2 k).set k (at0 + 1 + pk b (j + 1 + (k : Int)) (n - at0 - 1))))])) (v7 at0 n ((10, K0) :: (C8 k []))) ((wO (at0 + 1)) :: ((wO (n - at0)) :: ((wO (n - at0 - 1)) :: ((wO (at0 + 1 + pk b (j + 1 + (k : Int)) (n - at0 - 1))) :: (iX k k ((R (2 : Int) k).length) []))))) ⟨oW (by omega), ⟨oW (by omega), ⟨oW (by omega), ⟨(by have h9 := X3 b (i := j + 1 + k) (m := n - at0 - 1) (by omega) (by omega); exact w64 (by omega) (by omega)), (iK (by rw [hRl]; omega) bY1)⟩⟩⟩⟩ fun G => i8 (i8 (b0 (B5 G d9 [(12, iA ((k : Int) + 1))] [wO ((k : Int) + 1)] (o1 (by omega)) fun G => b0 ?_))); exact J5 G (k + 1) (by omega) (by omega) (rg 9) (by have e1 : (j + 1 + (↑(k + 1) : Int) : Int) = (j + 1 + (k : Int) + 1) := (by omega); have e2 : (R 2 (k + 1) : List Int) = ((R 2 k).set k (at0 + 1 + pk b (j + 1 + (k : Int)) (n - at0 - 1))) := (hR.next (by omega) (bt2 (by with_reducible assumption) (by with_reducible assumption) (by with_reducible assumption) (by with_reducible assumption) (by with_reducible assumption))); (first | rw [e1, e2] | simp only [e1, e2]) <;> rfl)
         · refine J0 G (t0 3 [0, 1] (o5 b (j + 1 + (k : Int)) 7 (by omega) (by omega))) (rg 9) (H0 j k :: (z6 b vs ars l [M9, .row 3 (D.ints ((R 2 k).set k (4 + pk b (j + 1 + (k : Int)) 7)))])) (v7 at0 n ((10, K0) :: (C8 k []))) ((wO ((4 : Int) + pk b (j + 1 + (k : Int)) (7 : Int))) :: (iX k k ((R (2 : Int) k).length) [])) ⟨(by have h9 := X3 b (i := j + 1 + k) (m := 7) (by omega) (by omega); exact w64 (by omega) (by omega)), (iK (by rw [hRl]; omega) bY1)⟩ fun G => i8 (i8 (b0 (B5 G d9 [(12, iA ((k : Int) + 1))] [wO ((k : Int) + 1)] (o1 (by omega)) fun G => b0 ?_))); exact J5 G (k + 1) (by omega) (by omega) (rg 9) (by have e1 : (j + 1 + (↑(k + 1) : Int) : Int) = (j + 1 + (k : Int) + 1) := (by omega); have e2 : (R 2 (k + 1) : List Int) = ((R 2 k).set k (4 + pk b (j + 1 + (k : Int)) 7)) := (hR.next (by omega) (bt4 (by with_reducible assumption))); (first | rw [e1, e2] | simp only [e1, e2]) <;> rfl)
        · refine J0 G (t0 6 [0, 1] (o5 b (j + 1 + (k : Int)) ((ars.length : Int)) (by omega) (by omega))) (rg 9) (H0 j k :: (z6 b vs ars l [M9, .row 3 (D.ints ((R 2 k).set k (pk b (j + 1 + (k : Int)) (ars.length : Int))))])) (v7 at0 n ((10, K0) :: (C8 k []))) (iX k k ((R (2 : Int) k).length) []) (iK (by rw [hRl]; omega) bY1) fun G => i8 (i8 (b0 (B5 G d9 [(12, iA ((k : Int) + 1))] [wO ((k : Int) + 1)] (o1 (by omega)) fun G => b0 ?_))); exact J5 G (k + 1) (by omega) (by omega) (rg 9) (by have e1 : (j + 1 + (↑(k + 1) : Int) : Int) = (j + 1 + (k : Int) + 1) := (by omega); have e2 : (R 2 (k + 1) : List Int) = ((R 2 k).set k (pk b (j + 1 + (k : Int)) (ars.length : Int))) := (hR.next (by omega) (bt6 (by with_reducible assumption))); (first | rw [e1, e2] | simp only [e1, e2]) <;> rfl)
       · refine J0 G (t0 6 [0, 1] (o5 b (j + 1 + (k : Int)) ((vs.length : Int)) (by omega) (by omega))) (rg 9) (H0 j k :: (z6 b vs ars l [M9, .row 3 (D.ints ((R 2 k).set k (pk b (j + 1 + (k : Int)) (vs.length : Int))))])) (v7 at0 n ((10, K0) :: (C8 k []))) (iX k k ((R (2 : Int) k).length) []) (iK (by rw [hRl]; omega) bY1) fun G => i8 (i8 (b0 (B5 G d9 [(12, iA ((k : Int) + 1))] [wO ((k : Int) + 1)] (o1 (by omega)) fun G => b0 ?_))); exact J5 G (k + 1) (by omega) (by omega) (rg 9) (by have e1 : (j + 1 + (↑(k + 1) : Int) : Int) = (j + 1 + (k : Int) + 1) := (by omega); have e2 : (R 2 (k + 1) : List Int) = ((R 2 k).set k (pk b (j + 1 + (k : Int)) (vs.length : Int))) := (hR.next (by omega) (bt1 (by with_reducible assumption))); (first | rw [e1, e2] | simp only [e1, e2]) <;> rfl)
      · refine J0 G (t0 3 [0, 1] (K4 b (j + 1 + (k : Int)) (by omega) (by omega))) (rg 9) (H0 j k :: (z6 b vs ars l [M9, .row 3 (D.ints ((R 2 k).set k (nm b (j + 1 + (k : Int)) Z9)))])) (v7 at0 n ((10, K0) :: (C8 k []))) (iX k k ((R (2 : Int) k).length) []) (iK (by rw [hRl]; omega) bY1) fun G => i8 (i8 (b0 (B5 G d9 [(12, iA ((k : Int) + 1))] [wO ((k : Int) + 1)] (o1 (by omega)) fun G => b0 ?_))); exact J5 G (k + 1) (by omega) (by omega) (rg 9) (by have e1 : (j + 1 + (↑(k + 1) : Int) : Int) = (j + 1 + (k : Int) + 1) := (by omega); have e2 : (R 2 (k + 1) : List Int) = ((R 2 k).set k (nm b (j + 1 + (k : Int)) Z9)) := (hR.next (by omega) (bt5 (by with_reducible assumption))); (first | rw [e1, e2] | simp only [e1, e2]) <;> rfl)
     · refine J0 G (t0 3 [0, 1] (o5 b (j + 1 + (k : Int)) 3 (by omega) (by omega))) (rg 9) (H0 j k :: (z6 b vs ars l [M9, .row 3 (D.ints ((R 2 k).set k (pk b (j + 1 + (k : Int)) 3)))])) (v7 at0 n ((10, K0) :: (C8 k []))) (iX k k ((R (2 : Int) k).length) []) (iK (by rw [hRl]; omega) bY1) fun G => i8 (i8 (b0 (B5 G d9 [(12, iA ((k : Int) + 1))] [wO ((k : Int) + 1)] (o1 (by omega)) fun G => b0 ?_))); exact J5 G (k + 1) (by omega) (by omega) (rg 9) (by have e1 : (j + 1 + (↑(k + 1) : Int) : Int) = (j + 1 + (k : Int) + 1) := (by omega); have e2 : (R 2 (k + 1) : List Int) = ((R 2 k).set k (pk b (j + 1 + (k : Int)) 3)) := (hR.next (by omega) (bt3 (by with_reducible assumption))); (first | rw [e1, e2] | simp only [e1, e2]) <;> rfl)
theorem aZ3 (b : List UInt8) (j : Int) (vs ars : List Int) (l : List c7) (at0 n : Int) (r0 : 0 ≤ j) (r1 : j ≤ 800000000) (r2 : 0 ≤ at0 ∧ at0 ≤ 100) (r3 : 0 ≤ n ∧ n ≤ 100) : j8.ok Tryz.prog (rnC b j vs ars l at0 n) := aV3 b j vs ars l at0 n _ rfl r0 r1 r2 r3
abbrev mA (r : Nat) : AV := .agg [.ref r, .ref (r + 1)]
abbrev mT (r : Nat) : AV := .agg [.ref r, .tref (r + 1)]
abbrev mS (m : t2) : List It := [dI m.vals, dR m.arrs]
abbrev mO (m : t2) : List It := [.row 3 (.ints m.vals), .tree (.rows m.arrs)]
theorem bp5 {l : List (List Int)} {k : Nat} (h : k < l.length) : l.take (k + 1) = l.take k ++ [l.getD k []] := by
 rw [r8 _ _ h, n9 h]
theorem aM2 {l : List (List Int)} {k : Nat} (h : l.length ≤ k) : l.take k = l := bY3 h
abbrev a16 : It := .box [.v (.slice none 0 0), .v (.slice none 0 0)]
theorem bn4 (xs : List Int) (rs : List (List Int)) (hx : xs.length ≤ 1048576) (hr : rs.length ≤ 1048576) (hi : ∀ a ∈ rs, a.length ≤ 1048576) : j8.ok Tryz.prog ⟨51, [mA 0], [dI xs, dR rs], [dI xs, dR rs, .row 3 (.ints xs), .tree (.rows rs)], mT 2⟩ := by
 refine I1 30 Tryz.func51 [dI xs, dR rs] [(0, .agg [.ref 0, .ref 1])] fun G => ?_; refine wp_seq (i9 G d9 [0, 1, 2, 10] [dI xs, dR rs, .box [.ref 0, .ref 1], a16] [(1, .ptr 2 0), (2, .ptr 3 0)] fun G => b0 (wp_seq (J0 G d9 [0, 1, 2, 3, 28, 44] [dI xs, dR rs, .box [.ref 0, .ref 1], a16, .row 3 (D.ints ([] ++ xs)), .box [.ref 4, .v (.slice none 0 0)]] [(1, .ptr 2 0), (2, .ptr 3 0), (3, .ptr 5 0)] (aP ((0 : Nat) + xs.length) 8 []) (aK (by omega) bY1) fun G => b0 (wp_seq (wp_seq (F5 G d9 [(1, .ptr 2 0), (2, .ptr 3 0), (3, .ptr 5 0), (4, iA 0)] fun G => b0 (wp_block ?_))))))); obtain ⟨ρ, G⟩ := G.nilT 6 (.rows []) [dI xs, dR rs, .box [.ref 0, .ref 1], .box [.v (.slice none 0 0), .v (.slice none 0 0)], .row 3 (D.ints ([] ++ xs)), .box [.ref 4, .tref 6]] [(1, .ptr 2 0), (2, .ptr 3 0), (3, .ptr 5 0), (4, iA 0)]; refine v5 (κ := Nat) (fun k => k ≤ rs.length) (fun k => rs.length - k) (fun k => [dI xs, dR rs, .box [.ref 0, .ref 1], .box [.v (.slice none 0 0), .v (.slice none 0 0)], .row 3 (D.ints ([] ++ xs)), .box [.ref 4, .tref 6], .tree (.rows (rs.take k))]) (fun k => [(1, .ptr 2 0), (2, .ptr 3 0), (3, .ptr 5 0), (4, iA k)]) 0 (by omega) (s4.at G _ _) ?_; clear G; intro k ρ a w hp G; replace G := s4.at G [dI xs, dR rs, .box [.ref 0, .ref 1], a16, .row 3 (D.ints ([] ++ xs)), .box [.ref 4, .tref 6], .tree (D.rows (bY0 k rs))] [(1, .ptr 2 0), (2, .ptr 3 0), (3, .ptr 5 0), (4, iA k)]; refine wp_seq (wp_seq (l0 G d9 [(14, bA (decide ((k : Int) < rs.length)))] fun G => b0 (rcD G (fun h0 q0 => ?_) fun h0 q0 => ?_)))
 ·refine wp_exit (t6 (t6 (t3 (b0 (wp_seq (i9 G d9 [0, 1, 3, 4, 6] [dI xs, dR rs, .box [.ref 3, .tref 4], .row 3 (D.ints ([] ++ xs)), .tree (D.rows (bY0 k rs))] [(2, .ptr 2 0)] fun G => b0 (wp_ret ?_))))))); exact I9 G [0, 1, 3, 4] (by show _ = mR [0, 1, 3, 4] [dI xs, dR rs, .row 3 (D.ints xs), .tree (D.rows rs)]; have e1 : (bY0 k rs : List (List Int)) = (rs) := (aM2 (by omega)); (first | rw [e1] | simp only [e1]) <;> rfl)
 ·refine wp_skip (b0 (wp_seq (wp_block (F4 G d9 [0, 1, 0, 0, 8, 0, 56, 120, 252, 508, 1023, 2047, 4095] [0, 1, 2, 3, 4, 5, 87] [dI xs, dR rs, .box [.ref 0, .ref 1], a16, .row 3 (D.ints ([] ++ xs)), .box [.ref 4, .tref 6], .tree (D.rows (bY0 k rs ++ [[] ++ rs.getD k []]))] [(1, .ptr 2 0), (2, .ptr 3 0), (3, .ptr 5 0), (4, iA k)] (iX k k rs.length (aP ((0 : Nat) + (rs.getD k []).length) 8 (aP ((bY0 k rs).length + [[] ++ rs.getD k []].length) 24 []))) (iK (by omega) (aK (by have h9 := hi (rs.getD k []) (by rw [n9 (by omega)]; exact bZ0 _); omega) (aK (by simp; omega) bY1))) fun G => i8 (b0 (B5 G d9 [(4, iA ((k : Int) + 1))] [wO ((k : Int) + 1)] (o1 (by omega)) fun G => b0 ?_)))))); exact J5 G (k + 1) (by omega) (by omega) (rg 7) (by have e1 : (bY0 (k + 1) rs : List (List Int)) = (bY0 k rs ++ [[] ++ rs.getD k []]) := (bp5 (by omega)); (first | rw [e1] | simp only [e1]) <;> rfl)
abbrev ad6 : It := .box [.v (.slice none 0 0), .v (.slice none 0 0)]
abbrev K7 (r0 : List (Nat × AV)) : List (Nat × AV) := (0, .ptr 0 0) :: (3, .ptr 5 0) :: (4, .ptr 6 0) :: (5, .ptr 7 0) :: r0
abbrev aK8 (b : List UInt8) (j : Int) (vs : List Int) (i : Nat) (r0 : List It) : List It := .box [.ref 8, .tref 9] :: .row 3 (D.ints (W3 b j vs.length)) :: .tree (D.rows (arD b (j + (vs.length : Int)) i)) :: r0
abbrev aK7 (r0 : List It) : List It := .box (pL 2) :: .box [.v (.slice none 0 0), .v (.slice none 0 0)] :: r0
theorem aZ5 (b : List UInt8) (j : Int) (vs ars : List Int) (bd : List c6) (h1 : vs.length ≤ 1000000) (h2 : ars.length ≤ 1000000) (r0 : 0 ≤ j) (r1 : j ≤ 100000000) : j8.ok Tryz.prog ⟨25, [.ptr 0 0, pA 2], [.box [.ref 1, iA j], dY b, dI vs, dI ars, dT bd], [.box [.ref 1, iA (j + vs.length + 4 * ars.length)], dY b, dI vs, dI ars, dT bd] ++ mS (mmD b j vs.length ars.length), mA 5⟩ := by
  refine I1 49 Tryz.func25 [.box [.ref 1, iA j], dY b, dI vs, dI ars, dT bd] [(0, .ptr 0 0), (1, pA 2)] fun G => ?_; refine wp_seq (i9 G d9 [0, 1, 2, 3, 4, 5, 13] [.box [.ref 1, iA j], dY b, dI vs, dI ars, dT bd, .box (pL 2), ad6] [(0, .ptr 0 0), (3, .ptr 5 0), (4, .ptr 6 0)] fun G => b0 (wp_seq (i9 G d9 [0, 1, 2, 3, 4, 5, 6, 15] [.box [.ref 1, iA j], dY b, dI vs, dI ars, dT bd, .box (pL 2), ad6, ad6] (K7 []) fun G => b0 (wp_seq (wp_seq (F5 G d9 (K7 [(6, iA 0)]) fun G => b0 (wp_block ?_))))))); obtain ⟨ρ, G⟩ := G.nil 8 3 (.ints []) 1 (.box [.ref 1, iA j] :: dY b :: dI vs :: dI ars :: dT bd :: (aK7 [.box [.ref 8, .v (.slice none 0 0)]])) (K7 [(6, iA 0)]); replace G := G.as (.box [.ref 1, iA (j + 0)] :: dY b :: dI vs :: dI ars :: dT bd :: (aK7 [.box [.ref 8, .v (.slice none 0 0)], .row 3 (D.ints (W3 b j 0))])) (K7 [(6, iA 0)]) (by have e1 : (j + 0 : Int) = (j) := (by omega); (first | rw [e1] | simp only [e1]) <;> rfl) (by kernel_rfl); refine v5 (κ := Nat) (fun k => k ≤ vs.length) (fun k => vs.length - k) (fun k => [.box [.ref 1, iA (j + k)], dY b, dI vs, dI ars, dT bd, .box (pL 2), .box [.v (.slice none 0 0), .v (.slice none 0 0)], .box [.ref 8, .v (.slice none 0 0)], .row 3 (.ints (W3 b j k))]) (fun k => [(0, .ptr 0 0), (3, .ptr 5 0), (4, .ptr 6 0), (5, .ptr 7 0), (6, iA k)]) 0 (by omega) (s4.at G _ _) ?_; clear G; intro k ρ a w hp G; replace G := s4.at G [.box [.ref 1, iA (j + (k : Int))], dY b, dI vs, dI ars, dT bd, .box (pL 2), ad6, .box [.ref 8, .v (.slice none 0 0)], .row 3 (D.ints (W3 b j k))] (K7 [(6, iA k)]); have hvl := ae8 b j k; refine wp_seq (wp_seq (F5 G d9 (K7 [(6, iA k), (15, bA (decide ((k : Int) < vs.length)))]) fun G => b0 ?_)); cases h0 : (decide ((k : Int) < vs.length))
  ·
   have q0 := W0 h0
   obtain rfl : k = vs.length := by omega
   refine rF G (decide ((vs.length : Int) < vs.length)) (by assumption) (wp_exit (t6 (t6 (t3 (b0 (wp_seq (wp_seq (F5 G d9 (K7 [(7, iA 0)]) fun G => b0 (wp_block ?_))))))))); obtain ⟨ρ, G⟩ := G.nilT 9 (.rows []) (.box [.ref 1, iA (j + (vs.length : Int))] :: dY b :: dI vs :: dI ars :: dT bd :: (aK7 [.box [.ref 8, .tref 9], .row 3 (D.ints (W3 b j vs.length))])) (K7 [(7, iA 0)]); replace G := G.as (.box [.ref 1, iA (j + (vs.length : Int) + 4 * (0 : Int))] :: dY b :: dI vs :: dI ars :: dT bd :: (aK7 [.box [.ref 8, .tref 9], .row 3 (D.ints (W3 b j vs.length)), .tree (D.rows (arD b (j + (vs.length : Int)) 0))])) (K7 [(7, iA 0)]) (by have e1 : (j + (vs.length : Int) + 4 * (0 : Int) : Int) = (j + (vs.length : Int)) := (by omega); (first | rw [e1] | simp only [e1]) <;> rfl) (by kernel_rfl); refine v5 (κ := Nat) (fun i => i ≤ ars.length) (fun i => ars.length - i) (fun i => [.box [.ref 1, iA (j + vs.length + 4 * i)], dY b, dI vs, dI ars, dT bd, .box (pL 2), .box [.v (.slice none 0 0), .v (.slice none 0 0)], .box [.ref 8, .tref 9], .row 3 (D.ints (W3 b j vs.length)), .tree (.rows (arD b (j + vs.length) i))]) (fun i => [(0, .ptr 0 0), (3, .ptr 5 0), (4, .ptr 6 0), (5, .ptr 7 0), (7, iA i)]) 0 (by omega) (s4.at G _ _) ?_; clear G; intro i ρ a w hp G; replace G := s4.at G (.box [.ref 1, iA (j + (vs.length : Int) + 4 * (i : Int))] :: dY b :: dI vs :: dI ars :: dT bd :: .box (pL 2) :: ad6 :: (aK8 b j vs i [])) (K7 [(7, iA i)]); have hal := bo7 b (j + vs.length) i; refine wp_seq (wp_seq (F5 G d9 (K7 [(7, iA i), (29, bA (decide ((i : Int) < ars.length)))]) fun G => b0 ?_)); cases h1 : (decide ((i : Int) < ars.length))
   ·
    have q1 := W0 h1
    obtain rfl : i = ars.length := by omega
    refine rF G (decide ((ars.length : Int) < ars.length)) (by assumption) (wp_exit (t6 (t6 (t3 (b0 (wp_seq (i9 G d9 [0, 1, 2, 3, 4, 6, 8, 9] [.box [.ref 1, iA (j + (vs.length : Int) + 4 * (ars.length : Int))], dY b, dI vs, dI ars, dT bd, .box [.ref 6, .tref 7], .row 3 (D.ints (W3 b j vs.length)), .tree (D.rows (arD b (j + (vs.length : Int)) ars.length))] [(4, .ptr 5 0)] fun G => b0 (wp_ret ?_)))))))); obtain ⟨ρ, G⟩ := G.frz [.no, .no, .no, .no, .no, .no, .row 3, .tree] [.box [.ref 1, iA (j + (vs.length : Int) + 4 * (ars.length : Int))], dY b, dI vs, dI ars, dT bd, .box [.ref 6, .ref 7], dI (W3 b j vs.length), dR (arD b (j + (vs.length : Int)) ars.length)] [(4, .ptr 5 0)]; exact I9 G [0, 1, 2, 3, 4, 6, 7]
   ·
    have q1 := V9 h1; refine rT G _ h1 (wp_skip (b0 (wp_seq (wp_block (wp_seq (i9 G d9 (rg 11) (.box [.ref 1, iA (j + (vs.length : Int) + 4 * (i : Int))] :: dY b :: dI vs :: dI ars :: dT bd :: .box (pL 2) :: ad6 :: (aK8 b j vs i [.row 3 (D.ints [])])) (K7 [(7, iA i), (8, .ref 10)]) fun G => b0 (wp_seq (wp_seq (F5 G d9 (K7 [(7, iA i), (8, .ref 10), (9, iA 0)]) fun G => b0 (wp_block ?_)))))))))); replace G := G.as (.box [.ref 1, iA (j + (vs.length : Int) + 4 * (i : Int) + 0)] :: dY b :: dI vs :: dI ars :: dT bd :: (aK7 (aK8 b j vs i [.row 3 (D.ints (W3 b (j + (vs.length : Int) + 4 * (i : Int)) 0))]))) (K7 [(7, iA i), (8, .ref 10), (9, iA 0)]) (by have e1 : (j + (vs.length : Int) + 4 * (i : Int) + 0 : Int) = (j + (vs.length : Int) + 4 * (i : Int)) := (by omega); (first | rw [e1] | simp only [e1]) <;> rfl) (by kernel_rfl); refine v5 (κ := Nat) (fun k2 => k2 ≤ 4) (fun k2 => 4 - k2) (fun k2 => [.box [.ref 1, iA (j + vs.length + 4 * i + k2)], dY b, dI vs, dI ars, dT bd, .box (pL 2), .box [.v (.slice none 0 0), .v (.slice none 0 0)], .box [.ref 8, .tref 9], .row 3 (D.ints (W3 b j vs.length)), .tree (D.rows (arD b (j + (vs.length : Int)) i)), .row 3 (.ints (W3 b (j + vs.length + 4 * i) k2))]) (fun k2 => [(0, .ptr 0 0), (3, .ptr 5 0), (4, .ptr 6 0), (5, .ptr 7 0), (7, iA i), (8, .ref 10), (9, iA k2)]) 0 (by omega) (s4.at G _ _) ?_; clear G; intro k2 ρ a w hp G; replace G := s4.at G (.box [.ref 1, iA (j + (vs.length : Int) + 4 * (i : Int) + (k2 : Int))] :: dY b :: dI vs :: dI ars :: dT bd :: .box (pL 2) :: ad6 :: (aK8 b j vs i [.row 3 (D.ints (W3 b (j + (vs.length : Int) + 4 * (i : Int)) k2))])) (K7 [(7, iA i), (8, .ref 10), (9, iA k2)]); have hvl2 := ae8 b (j + vs.length + 4 * i) k2; refine wp_seq (wp_seq (F5 G d9 (K7 [(7, iA i), (8, .ref 10), (9, iA k2), (34, bA (decide ((k2 : Int) < 4)))]) fun G => b0 ?_)); cases h2 : (decide ((k2 : Int) < 4))
    ·
     have q2 := W0 h2
     obtain rfl : k2 = 4 := by omega
     refine rF G false (by kernel_rfl) (wp_exit (t6 (t6 (t3 (b0 (J0 G d9 [0, 1, 2, 3, 4, 5, 6, 7, 8, 43] [.box [.ref 1, iA (j + (vs.length : Int) + 4 * (i : Int) + 4)], dY b, dI vs, dI ars, dT bd, .box (pL 2), ad6, .box [.ref 8, .tref 9], .row 3 (D.ints (W3 b j vs.length)), .tree (D.rows (arD b (j + (vs.length : Int)) i ++ [W3 b (j + (vs.length : Int) + 4 * (i : Int)) 4]))] (K7 [(7, iA i)]) (aP ((arD b (j + (vs.length : Int)) i).length + [W3 b (j + (vs.length : Int) + 4 * (i : Int)) (4 : Nat)].length) 24 []) (aK (by simp; omega) bY1) fun G => i8 (b0 (B5 G d9 [(7, iA ((i : Int) + 1))] [wO ((i : Int) + 1)] (o1 (by omega)) fun G => b0 ?_)))))))); exact J5 G (i + 1) (by omega) (by omega) (rg 10) (by have e1 : (j + (vs.length : Int) + 4 * (↑(i + 1) : Int) : Int) = (j + (vs.length : Int) + 4 * (i : Int) + 4) := (by omega); have e2 : (arD b (j + (vs.length : Int)) (i + 1) : List (List Int)) = (arD b (j + (vs.length : Int)) i ++ [W3 b (j + (vs.length : Int) + 4 * (i : Int)) 4]) := (bx2 _ _ _); (first | rw [e1, e2] | simp only [e1, e2]) <;> rfl)
    · have q2 := V9 h2; refine rT G _ h2 (wp_skip (b0 (wp_seq (wp_block (J0 G (t0 2 [0, 1] (K4 b (j + (vs.length : Int) + 4 * (i : Int) + (k2 : Int)) (by omega) (by omega))) [0, 1, 2, 3, 4, 5, 6, 7, 8, 9, 43] (.box [.ref 1, iA (j + (vs.length : Int) + 4 * (i : Int) + (k2 : Int) + 1)] :: dY b :: dI vs :: dI ars :: dT bd :: .box (pL 2) :: ad6 :: (aK8 b j vs i [.row 3 (D.ints (W3 b (j + (vs.length : Int) + 4 * (i : Int)) k2 ++ ([nm b (j + (vs.length : Int) + 4 * (i : Int) + (k2 : Int)) Z9] ++ [])))])) (K7 [(7, iA i), (8, .ref 10), (9, iA k2)]) (aP ((W3 b (j + (vs.length : Int) + 4 * (i : Int)) k2).length + ([nm b (j + (vs.length : Int) + 4 * (i : Int) + (k2 : Int)) Z9] ++ []).length) 8 []) (aK (by simp; omega) bY1) fun G => i8 (b0 (B5 G d9 [(9, iA ((k2 : Int) + 1))] [wO ((k2 : Int) + 1)] (o1 (by omega)) fun G => b0 ?_))))))); exact J5 G (k2 + 1) (by omega) (by omega) (rg 11) (by have e1 : (j + (vs.length : Int) + 4 * (i : Int) + (↑(k2 + 1) : Int) : Int) = (j + (vs.length : Int) + 4 * (i : Int) + (k2 : Int) + 1) := (by omega); have e2 : (W3 b (j + (vs.length : Int) + 4 * (i : Int)) (k2 + 1) : List Int) = (W3 b (j + (vs.length : Int) + 4 * (i : Int)) k2 ++ ([nm b (j + (vs.length : Int) + 4 * (i : Int) + (k2 : Int)) Z9] ++ [])) := (aF4 _ _ _); (first | rw [e1, e2] | simp only [e1, e2]) <;> rfl)
  · have q0 := V9 h0; refine rT G _ h0 (wp_skip (b0 (wp_seq (wp_block (F4 G (t0 3 [0, 1] (K4 b (j + (k : Int)) (by omega) (by omega))) [0, 1, 0, 4, 12, 31, 63, 127] [0, 1, 2, 3, 4, 5, 6, 7, 49] [.box [.ref 1, iA (j + (k : Int) + 1)], dY b, dI vs, dI ars, dT bd, .box (pL 2), ad6, .box [.ref 8, .v (.slice none 0 0)], .row 3 (D.ints (W3 b j k ++ ([nm b (j + (k : Int)) Z9] ++ [])))] (K7 [(6, iA k)]) (aP ((W3 b j k).length + ([nm b (j + (k : Int)) Z9] ++ []).length) 8 []) (aK (by simp; omega) bY1) fun G => i8 (b0 (B5 G d9 [(6, iA ((k : Int) + 1))] [wO ((k : Int) + 1)] (o1 (by omega)) fun G => b0 ?_))))))); exact J5 G (k + 1) (by omega) (by omega) (rg 9) (by have e1 : (j + (↑(k + 1) : Int) : Int) = (j + (k : Int) + 1) := (by omega); have e2 : (W3 b j (k + 1) : List Int) = (W3 b j k ++ ([nm b (j + (k : Int)) Z9] ++ [])) := (aF4 _ _ _); (first | rw [e1, e2] | simp only [e1, e2]) <;> rfl)
theorem ax7 (xs ys : List Int) : j8.ok Tryz.prog (V1 30 [.ref 0, .ref 1] [dI xs, dI ys] (bA (decide (xs = ys)))) := by
  refine I1 26 Tryz.func30 [dI xs, dI ys] [(0, .ref 0), (1, .ref 1)] fun G => ?_; have hl : xs.length ≤ 9223372036854775807 := G.len 0 (d := .ints xs) (by kernel_rfl); refine wp_seq (F5 G d9 [(0, .ref 0), (1, .ref 1), (4, bA false)] fun G => b0 (wp_seq (wp_seq (l0 G d9 [(10, bA ((xs.length : Int) != (ys.length : Int)))] fun G => b0 (rcN G (fun h0 q0 => ?_) fun h0 q0 => ?_)))))
  ·
   refine wp_skip (b0 (wp_seq (wp_seq (F5 G d9 [(0, .ref 0), (1, .ref 1), (4, bA false), (12, iA (xs.length : Int)), (13, iA 0)] fun G => b0 (wp_block ?_))))); refine v5 (κ := Nat) (fun k => k ≤ xs.length ∧ xs.take k = ys.take k) (fun k => xs.length - k) (fun k => [dI xs, dI ys]) (fun k => [(0, .ref 0), (1, .ref 1), (4, bA false), (12, iA (xs.length : Int)), (13, iA k)]) 0 (by simp [h0]) (s4.at G _ _) ?_; clear G; intro k ρ a w hp G; refine wp_seq (l0 G d9 [(14, bA (decide ((k : Int) < xs.length)))] fun G => b0 (wp_seq (rcD G (fun h1 q1 => ?_) fun h1 q1 => ?_)))
   · refine wp_exit (t6 (t6 (t3 (b0 (wp_seq (l0 G d9 [(4, bA true)] fun G => b0 (wp_ret ?_))))))); exact J6 true G [0, 1] (decide_eq_true (aM4 hp.2 (by omega) (by omega)))
   ·
    refine wp_skip (b0 (wp_seq (wp_block (wp_seq (l0 G d9 [(5, iA k)] fun G => b0 (wp_seq (a85 G d9 [0, 0, 3, 7, 0, 0, 48, 112, 255] [(24, bA (xs.getD k 0 != ys.getD k 0))] (iX k k xs.length (iX k k ys.length [])) (iK (by omega) (iK (by omega) bY1)) fun G => b0 (rcN G (fun h2 q2 => ?_) fun h2 q2 => ?_))))))))
    · refine wp_skip (i8 (b0 (B5 G d9 [(13, iA ((k : Int) + 1))] [wO ((k : Int) + 1)] (o1 (by omega)) fun G => b0 ?_))); exact J5 G (k + 1) (⟨by omega, aB6 hp.2 (by omega) (by omega) (by omega)⟩) (by omega) [0, 1]
    · refine wp_seq (l0 G d9 [] fun G => b0 (wp_ret (C2 (n7 (n7 (C2 (n7 ?_))))))); exact J6 false G [0, 1] (by exact decide_eq_false fun e => by subst e; omega)
  · refine wp_seq (l0 G d9 [] fun G => b0 (wp_ret (n7 ?_))); exact J6 false G [0, 1] (by exact decide_eq_false fun e => by subst e; omega)
section
variable {vs ars : List Int} {l : Int} {s : c6} {pc pd : Int}
end
theorem a86 {p : j7} (h : C0 p = true) : p.vars.all C9 = true ∧ p.arrays.all C9 = true ∧ 1 ≤ p.vars.length ∧ p.body.all (l9 p.vars.length p.arrays.length 5) = true := by
 unfold C0 C6 at h
 simp only [bX0, decide_eq_true_eq] at h
 exact ⟨h.1.1.1.1.1.1, h.1.1.1.1.1.2, h.1.1.1.1.2, h.1.2⟩
section
variable (vs ars : List Int) (bd : List c6)
end
abbrev nvB (n : Int) : Bool := !(decide (0 ≤ n) && decide (n ≤ 255))
theorem bw9 (n : Int) : j8.ok Tryz.prog (V1 106 [iA n] [] (bA (nvB n))) := by
 refine I1 6 Tryz.func106 [] [(0, iA n)] fun G => ?_; refine wp_seq (l0 G d9 [(2, bA false)] fun G => b0 (wp_seq (l0 G (t0 1 [] (aR9 n 0 255)) [(2, .v (.bool !(decide (0 ≤ n) && decide (n ≤ 255))))] fun G => b0 (wp_ret ?_)))); exact I9 G []
theorem bO6 (l : List Int) : j8.ok Tryz.prog (V1 101 [.ref 0, .fn 106 []] [dI l] (iA (Z2 nvB l))) := by
  refine I1 19 Tryz.func101 [dI l] [(0, .ref 0), (1, .fn 106 [])] fun G => ?_; have hl : l.length ≤ 9223372036854775807 := G.len 0 (d := .ints l) (by kernel_rfl); refine wp_seq (F5 G d9 [(0, .ref 0), (1, .fn 106 []), (4, iA 0)] fun G => b0 (wp_seq (wp_seq (F5 G d9 [(0, .ref 0), (1, .fn 106 []), (4, iA 0), (7, iA (l.length : Int)), (8, iA 0)] fun G => b0 (wp_block ?_))))); refine v5 (κ := Nat) (fun k => k ≤ l.length ∧ (l.take k).any nvB = false) (fun k => l.length - k) (fun k => [dI l]) (fun k => [(0, .ref 0), (1, .fn 106 []), (4, iA 0), (7, iA (l.length : Int)), (8, iA k)]) 0 (⟨bZ4 _, rfl⟩) (s4.at G _ _) ?_; clear G; intro k ρ a w hp G; refine wp_seq (l0 G d9 [(9, bA (decide ((k : Int) < l.length)))] fun G => b0 (wp_seq (rcD G (fun h0 q0 => ?_) fun h0 q0 => ?_)))
  · refine wp_exit (t6 (t6 (t3 (b0 (wp_seq (l0 G d9 [(4, iA (-1))] fun G => b0 (wp_ret ?_))))))); exact rxI (-1) G [0] (aw5 (aT3 hp.2 (by omega)))
  ·
   refine wp_skip (b0 (wp_seq (wp_block (wp_seq (l0 G d9 [(5, iA k)] fun G => b0 (wp_seq (B5 G (t0 5 [] (bw9 (l.getD k 0))) [(16, bA (nvB (l.getD k 0)))] (iX k k l.length []) (iK (by omega) bY1) fun G => b0 (rcB G (fun h1 => ?_) fun h1 => ?_))))))))
   · refine wp_skip (i8 (b0 (B5 G d9 [(8, iA ((k : Int) + 1))] [wO ((k : Int) + 1)] (o1 (by omega)) fun G => b0 ?_))); exact J5 G (k + 1) (⟨by omega, aT2 (z := 0) hp.2 (by omega) (by assumption)⟩) (by omega) [0]
   · refine wp_seq (l0 G d9 [(4, iA k)] fun G => b0 (wp_ret (C2 (n7 (n7 (C2 (n7 ?_))))))); exact rxI ((k : Int)) G [0] (aD3 (z := 0) (by omega) hp.2 (by assumption))
theorem bO9 (l : List Int) : j8.ok Tryz.prog (V1 85 [.ref 0, .fn 106 []] [dI l] (bA (l.any nvB))) := by
 refine I1 9 Tryz.func85 [dI l] [(0, .ref 0), (1, .fn 106 [])] fun G => ?_; refine wp_seq (l0 G d9 [(4, bA false)] fun G => b0 (wp_seq (l0 G (t0 2 [0] (bO6 l)) [(4, bA (decide (Z2 nvB l ≥ 0)))] fun G => b0 (wp_ret ?_)))); exact J6 (decide (Z2 nvB l ≥ 0)) G [0] ((aD4 _ _).symm)
theorem be0 (l : List Int) : (!l.any nvB) = D8 l := by
 unfold D8
 rw [List.all_eq_not_any_not]
theorem ao6 (l : List Int) : j8.ok Tryz.prog (V1 95 [.ref 0] [dI l] (bA (D8 l))) := by
 refine I1 6 Tryz.func95 [dI l] [(0, .ref 0)] fun G => ?_; refine wp_seq (l0 G d9 [(2, bA false)] fun G => b0 (wp_seq (l0 G (t0 1 [0] (bO9 l)) [(2, .v (.bool !l.any nvB))] fun G => b0 (wp_ret ?_)))); exact W4 (.v (.bool !l.any nvB)) G [0] (by have e1 : (D8 l : Bool) = (!l.any nvB) := ((be0 l).symm); (first | rw [e1] | simp only [e1]) <;> rfl)
abbrev naB (a : List Int) : Bool := !(P0 a)
theorem bU0 {a : List Int} (h : ¬ (a.length : Int) = 4) : naB a = true := by unfold naB P0; rw [decide_eq_false (p := a.length = 4) (by omega)]; rfl
theorem bT9 {a : List Int} (h : (a.length : Int) = 4) : naB a = !(D8 a) := by unfold naB P0; rw [decide_eq_true (p := a.length = 4) (by omega)]; rfl
theorem bG1 (l : List Int) : j8.ok Tryz.prog (V1 97 [.ref 0] [dI l] (bA (naB l))) := by
 refine I1 11 Tryz.func97 [dI l] [(0, .ref 0)] fun G => ?_; refine wp_seq (l0 G d9 [(2, bA false)] fun G => b0 (wp_seq ?_)); cases h0 : ((l.length : Int) != 4)
 ·have q0 := bne_eq_false_iff_eq.1 h0; refine l0 G (Q8 (E2 5 [0] (ao6 l) Q7) (fc h0 fz) [(4, 0), (5, 0), (6, 0), (1007, 0)]) [(2, .v (.bool !D8 l))] fun G => b0 (wp_ret ?_); exact W4 (.v (.bool !D8 l)) G [0] (by have e1 : (naB l : Bool) = (!D8 l) := (bT9 (by omega)); (first | rw [e1] | simp only [e1]) <;> rfl)
 ·have q0 := bne_iff_ne.1 h0; refine l0 G (H4 (fc h0 fz) [(4, 0), (5, 0), (6, 0), (1007, 0)]) [(2, bA true)] fun G => b0 (wp_ret ?_); exact J6 true G [0] (bU0 (by omega))
theorem bO7 (l : List (List Int)) : j8.ok Tryz.prog (V1 107 [.ref 0, .fn 97 []] [dR l] (iA (Z2 naB l))) := by
  refine I1 19 Tryz.func107 [dR l] [(0, .ref 0), (1, .fn 97 [])] fun G => ?_; have hl : l.length ≤ 9223372036854775807 := G.len 0 (d := .rows l) (by kernel_rfl); refine wp_seq (F5 G d9 [(0, .ref 0), (1, .fn 97 []), (4, iA 0)] fun G => b0 (wp_seq (wp_seq (F5 G d9 [(0, .ref 0), (1, .fn 97 []), (4, iA 0), (7, iA (l.length : Int)), (8, iA 0)] fun G => b0 (wp_block ?_))))); refine v5 (κ := Nat) (fun k => k ≤ l.length ∧ (l.take k).any naB = false) (fun k => l.length - k) (fun k => [dR l]) (fun k => [(0, .ref 0), (1, .fn 97 []), (4, iA 0), (7, iA (l.length : Int)), (8, iA k)]) 0 (⟨bZ4 _, rfl⟩) (s4.at G _ _) ?_; clear G; intro k ρ a w hp G; refine wp_seq (l0 G d9 [(9, bA (decide ((k : Int) < l.length)))] fun G => b0 (wp_seq (rcD G (fun h0 q0 => ?_) fun h0 q0 => ?_)))
  · refine wp_exit (t6 (t6 (t3 (b0 (wp_seq (l0 G d9 [(4, iA (-1))] fun G => b0 (wp_ret ?_))))))); exact rxI (-1) G [0] (aw5 (aT3 hp.2 (by omega)))
  ·
   refine wp_skip (b0 (wp_seq (wp_block (wp_seq (l0 G d9 [(5, iA k)] fun G => b0 (wp_seq (B5 G (t0 5 [33] (bG1 (l.getD k []))) [(16, bA (naB (l.getD k [])))] (iX k k l.length []) (iK (by omega) bY1) fun G => b0 (rcB G (fun h1 => ?_) fun h1 => ?_))))))))
   · refine wp_skip (i8 (b0 (B5 G d9 [(8, iA ((k : Int) + 1))] [wO ((k : Int) + 1)] (o1 (by omega)) fun G => b0 ?_))); exact J5 G (k + 1) (⟨by omega, aT2 (z := []) hp.2 (by omega) (by assumption)⟩) (by omega) [0]
   · refine wp_seq (l0 G d9 [(4, iA k)] fun G => b0 (wp_ret (C2 (n7 (n7 (C2 (n7 ?_))))))); exact rxI ((k : Int)) G [0] (aD3 (z := []) (by omega) hp.2 (by assumption))
theorem bP0 (l : List (List Int)) : j8.ok Tryz.prog (V1 96 [.ref 0, .fn 97 []] [dR l] (bA (l.any naB))) := by
 refine I1 9 Tryz.func96 [dR l] [(0, .ref 0), (1, .fn 97 [])] fun G => ?_; refine wp_seq (l0 G d9 [(4, bA false)] fun G => b0 (wp_seq (l0 G (t0 2 [0] (bO7 l)) [(4, bA (decide (Z2 naB l ≥ 0)))] fun G => b0 (wp_ret ?_)))); exact J6 (decide (Z2 naB l ≥ 0)) G [0] ((aD4 _ _).symm)
theorem bx1 (l : List (List Int)) : (!l.any naB) = l.all P0 := by
 rw [List.all_eq_not_any_not]
theorem bM3 {nv na : Nat} {m : t2} (h1 : (m.vals.length : Int) = nv) (h2 : (m.arrs.length : Int) = na) (h3 : D8 m.vals = true) : (!m.arrs.any naB) = G5 nv na m := by
 rw [bM4 h1 h2 h3]; exact bx1 _
theorem a02 (vs ars xs : List Int) (rs : List (List Int)) : j8.ok Tryz.prog (V1 82 [.ref 0, .ref 1, mA 2] [dI vs, dI ars, dI xs, dR rs] (bA (G5 vs.length ars.length ⟨xs, rs⟩))) := by
  refine I1 31 Tryz.func82 [dI vs, dI ars, dI xs, dR rs] [(0, .ref 0), (1, .ref 1), (2, .agg [.ref 2, .ref 3])] fun G => ?_; refine wp_seq (i9 G d9 (rg 5) [dI vs, dI ars, dI xs, dR rs, .box [.ref 2, .ref 3]] [(0, .ref 0), (1, .ref 1), (5, .ptr 4 0), (6, bA false)] fun G => b0 (wp_seq (wp_seq ?_))); cases h0 : ((xs.length : Int) != (vs.length : Int))
  ·
   have q0 := bne_eq_false_iff_eq.1 h0; cases h1 : ((rs.length : Int) != (ars.length : Int))
   ·
    have q1 := bne_eq_false_iff_eq.1 h1; refine l0 G (Q8 (E2 17 [2] (ao6 xs) Q7) (fc h0 (fc h1 fz)) (us [(7, 12, 0), (1013, 1013, 0), (15, 18, 1), (1019, 1019, 1)])) [(26, .v (.bool !D8 xs))] fun G => b0 ?_; cases h2 : (!D8 xs)
    · have q2 : (D8 xs) = true := (Eq.mp (Bool.not_eq_false' _) h2); refine rF G _ h2 (wp_skip (b0 (wp_seq (i9 G (t0 2 [3] (bP0 rs)) (rg 4) [dI vs, dI ars, dI xs, dR rs] [(6, .v (.bool !rs.any naB))] fun G => b0 (wp_ret ?_))))); exact W4 (.v (.bool !rs.any naB)) G (rg 4) (by have e1 : (G5 vs.length ars.length (t2.mk xs rs) : Bool) = (!rs.any naB) := ((bM3 (m := ⟨xs, rs⟩) (by dsimp only; omega) (by dsimp only; omega) (by with_reducible assumption)).symm); (first | rw [e1] | simp only [e1]) <;> rfl)
    · have q2 : (D8 xs) = false := (Eq.mp (b03 _) h2); refine rT G _ h2 (wp_seq (l0 G d9 [] fun G => b0 (wp_ret (n7 ?_)))); exact J6 false G (rg 4) (bM5 (by with_reducible assumption))
   · have q1 := bne_iff_ne.1 h1; refine l0 G (H4 (fc h0 (fc h1 fz)) (us [(7, 12, 0), (1013, 1013, 0), (15, 18, 1), (1019, 1019, 1)])) [(26, bA true)] fun G => b0 (rT G true (by kernel_rfl) (wp_seq (l0 G d9 [] fun G => b0 (wp_ret (n7 ?_))))); exact J6 false G (rg 4) (bM6 (by dsimp only; omega))
  · have q0 := bne_iff_ne.1 h0; refine l0 G (H4 (fc h0 (fc (b := true) rfl fz)) (us [(7, 12, 0), (1013, 1013, 0), (15, 18, 1), (1019, 1019, 1)])) [(26, bA true)] fun G => b0 (rT G true (by kernel_rfl) (wp_seq (l0 G d9 [] fun G => b0 (wp_ret (n7 ?_))))); exact J6 false G (rg 4) (bM7 (by dsimp only; omega))
theorem bn7 (xs ys : List (List Int)) : j8.ok Tryz.prog (V1 38 [.ref 0, .ref 1, .fn 30 []] [dR xs, dR ys] (bA (decide (xs = ys)))) := by
  refine I1 32 Tryz.func38 [dR xs, dR ys] [(0, .ref 0), (1, .ref 1), (2, .fn 30 [])] fun G => ?_; have hl : xs.length ≤ 9223372036854775807 := G.len 0 (d := .rows xs) (by kernel_rfl); refine wp_seq (F5 G d9 [(0, .ref 0), (1, .ref 1), (2, .fn 30 []), (6, bA false)] fun G => b0 (wp_seq (wp_seq (l0 G d9 [(14, bA ((xs.length : Int) != (ys.length : Int)))] fun G => b0 (rcN G (fun h0 q0 => ?_) fun h0 q0 => ?_)))))
  ·
   refine wp_skip (b0 (wp_seq (wp_seq (F5 G d9 [(1, .ref 1), (2, .fn 30 []), (6, bA false), (15, .ref 0), (16, iA (xs.length : Int)), (17, iA 0)] fun G => b0 (wp_block ?_))))); refine v5 (κ := Nat) (fun k => k ≤ xs.length ∧ xs.take k = ys.take k) (fun k => xs.length - k) (fun k => [dR xs, dR ys]) (fun k => [(1, .ref 1), (2, .fn 30 []), (6, bA false), (15, .ref 0), (16, iA (xs.length : Int)), (17, iA k)]) 0 (by simp [h0]) (s4.at G _ _) ?_; clear G; intro k ρ a w hp G; refine wp_seq (l0 G d9 [(18, bA (decide ((k : Int) < xs.length)))] fun G => b0 (wp_seq (rcD G (fun h1 q1 => ?_) fun h1 q1 => ?_)))
   · refine wp_exit (t6 (t6 (t3 (b0 (wp_seq (l0 G d9 [(6, bA true)] fun G => b0 (wp_ret ?_))))))); exact J6 true G [0, 1] (decide_eq_true (aM4 hp.2 (by omega) (by omega)))
   ·
    refine wp_skip (b0 (wp_seq (wp_block (wp_seq (J0 G d9 [0, 1, 18] [dR xs, dR ys, dI (xs.getD k [])] [(1, .ref 1), (2, .fn 30 []), (6, bA false), (7, iA k), (8, .ref 2), (15, .ref 0), (16, iA (xs.length : Int)), (17, iA k)] (iX k k xs.length []) (iK (by omega) bY1) fun G => b0 (wp_seq (J0 G d9 [0, 1, 2, 27] [dR xs, dR ys, dI (xs.getD k []), dI (ys.getD k [])] [(1, .ref 1), (2, .fn 30 []), (6, bA false), (8, .ref 2), (9, .ref 3), (15, .ref 0), (16, iA (xs.length : Int)), (17, iA k)] (iX k k ys.length []) (iK (by omega) bY1) fun G => b0 (wp_seq (i9 G (t0 3 [2, 3] (ax7 (xs.getD k []) (ys.getD k []))) [0, 1] [dR xs, dR ys] [(1, .ref 1), (2, .fn 30 []), (6, bA false), (15, .ref 0), (16, iA (xs.length : Int)), (17, iA k), (30, .v (.bool !decide (xs.getD k [] = ys.getD k [])))] fun G => b0 ?_))))))))); cases h2 : (!decide (xs.getD k [] = ys.getD k []))
    · have q2 : xs.getD k [] = ys.getD k [] := (fun hq => of_decide_eq_true hq) (Eq.mp (Bool.not_eq_false' _) h2); refine rF G _ h2 (wp_skip (i8 (b0 (B5 G d9 [(17, iA ((k : Int) + 1))] [wO ((k : Int) + 1)] (o1 (by omega)) fun G => b0 ?_)))); exact J5 G (k + 1) (⟨by omega, aB6 (z := []) hp.2 (by omega) (by omega) (by with_reducible assumption)⟩) (by omega) [0, 1]
    · have q2 : ¬ (xs.getD k [] = ys.getD k []) := (fun hq => of_decide_eq_false hq) (Eq.mp (b03 _) h2); refine rT G _ h2 (wp_seq (l0 G d9 [] fun G => b0 (wp_ret (C2 (n7 (n7 (C2 (n7 ?_)))))))); exact J6 false G [0, 1] (by exact decide_eq_false fun e => by subst e; simp at *)
  · refine wp_seq (l0 G d9 [] fun G => b0 (wp_ret (n7 ?_))); exact J6 false G [0, 1] (by exact decide_eq_false fun e => by subst e; simp at *)
theorem az5 (xs ys : List Int) (rs ts : List (List Int)) : j8.ok Tryz.prog (V1 13 [mA 0, mA 2] [dI xs, dR rs, dI ys, dR ts] (bA (decide (xs = ys) && decide (rs = ts)))) := by
 refine I1 17 Tryz.func13 [dI xs, dR rs, dI ys, dR ts] [(0, .agg [.ref 0, .ref 1]), (1, .agg [.ref 2, .ref 3])] fun G => ?_; refine wp_seq (i9 G d9 [0, 1, 2, 3, 4, 12] [dI xs, dR rs, dI ys, dR ts, .box [.ref 0, .ref 1], .box [.ref 2, .ref 3]] [(2, .ptr 4 0), (3, .ptr 5 0), (4, bA false)] fun G => b0 (wp_seq ?_)); cases h0 : (decide (xs = ys))
 ·have q0 := W0 h0; refine i9 G (Q8 (E2 4 [0, 2] (ax7 xs ys) Q7) (fc h0 fz) (us [(6, 10, 0), (1011, 1011, 0)])) (rg 4) [dI xs, dR rs, dI ys, dR ts] [(4, bA false)] fun G => b0 (wp_ret ?_); exact I9 G (rg 4)
 ·have q0 := V9 h0; refine i9 G (Q8 (E2 4 [0, 2] (ax7 xs ys) (E2 10 [1, 3] (bn7 rs ts) Q7)) (fc h0 fz) (us [(6, 10, 0), (1011, 1011, 0)])) (rg 4) [dI xs, dR rs, dI ys, dR ts] [(4, bA (decide (rs = ts)))] fun G => b0 (wp_ret ?_); exact I9 G (rg 4)
abbrev LnS : Type := List Int × List c6
section
variable {ars : List Int} {s : c6} {m pc : Int} {x : LnS}
end
structure Grw (nv na d : Nat) (sz : Nat) (s : LnS) (r : LnS) : Prop where
 lo : s.1.length ≤ r.1.length
 hi : r.1.length ≤ s.1.length + sz
 st : s6 r.2 ≤ s6 s.2 + 40 * sz
 len : s.2.length ≤ r.2.length
section
variable {p : j7} {l k : Int} (h : C0 p = true) (hl : C9 l = true)
include h hl
end
section
variable {p : j7} {l : Int}
end
section
variable {p q : j7} {m : t2}
end
theorem aZ0 (v : Value) (n : Nat) (t : List Value) (w : World) (h : F2 w v n 1 t) (h1 : ∀ u ∈ t, u.oneCell' = true) (hb : n ≤ 1000000000000) :
  Calls Tryz.prog 108 #[v] w fun e w' => ∃ u, e = .returned u ∧ D6 w' w.heap.size w'.heap.size 23 1 u n t ∧ Below w.heap.size w w' := by
 obtain ⟨a, cap, rfl, hc1, hc2, hc3, -⟩ := h.open
 have hnil := fun w => Lib.run_eql_slice_nil (P := Tryz.prog) w 27 23 a n cap 0 0 Tryz.underlying27
 rcases a with _ | a
 ·have hn : n = 0 := by
   rcases Nat.eq_zero_or_pos n with h0 | h0
   ·exact h0
   ·obtain ⟨_, a, c, he, _, _, hx⟩ := h
    cases he
    obtain ⟨_, _, he, _⟩ := hx h0
    cases he
  subst hn
  have ht : t = [] := bZ3 (by have := h.1; omega)
  subst ht
  simp only [Option.isNone_none] at hnil
  go_enter Tryz.func108, Tryz.ntmps108
  go_wp2_with fail
  go_ret
  exact ⟨_, rfl, ⟨World.ownsRow_nil _ _ _ _, fun g hg => by cases hg⟩, Below.refl _ _⟩
 ·go_enter Tryz.func108, Tryz.ntmps108
  simp only [Option.isNone_some] at hnil
  have ba := (Below.refl w.heap.size w).alloc (bX4 _) (.cells #[] 23)
  go_wp2_with (at_builtin; refine W8 rfl _ _ rfl Tryz.underlying27 bv7 rfl (by omega) rfl (C3 w #[] 0 1 _ rfl rfl (by omega)).1 rfl (h.below ba) h1 (by omega) (by omega) (by simp) ?_; rintro a4 q4 w4 o4 b4 - -)
  go_ret
  refine ⟨_, rfl, D6.mk' (by simpa using o4), ba.trans b4⟩
section
variable {b : List UInt8} {j : Int} {m : t2}
end
structure GrS (sz : Nat) (x r : LnS) : Prop where
 lo : x.1.length ≤ r.1.length
 hi : r.1.length ≤ x.1.length + 4 * sz
 st : s6 r.2 ≤ s6 x.2 + 130 * sz
 len : x.2.length ≤ r.2.length
theorem GrS.refl (x : LnS) (n : Nat) : GrS n x x := ⟨bX4 _, by omega, by omega, bX4 _⟩
theorem bv1 {e : c8} (h : e.kids = []) : P4 e = 0 := by rw [at2, h]; rfl
theorem ah9 {nv na : Nat} {e : c8} (h : o6 nv na e = true) : P4 e ≤ 14 := by
 unfold o6 at h; simp only [bX0, decide_eq_true_eq] at h; omega
theorem aq6 {e : c8} (h : noneB e = true) : P4 e = 0 := by
 unfold noneB at h; simp only [bX0, decide_eq_true_eq] at h
 exact bv1 (bZ3 h.2)
theorem a28 {nv na d : Nat} (ih : ∀ s : c6, l9 nv na d s = true → 1 + szS s ≤ 29 * nS s) : ∀ ss : List c6, ss.all (l9 nv na d) = true → s6 ss ≤ 29 * nSs ss
 | [], _ => bX4 _
 | s :: r, h => by
  simp only [List.all_cons, bX0] at h
  have h1 := ih s h.1
  have h2 := a28 ih r h.2
  rw [s6, nSs]; omega
theorem be3 {nv na : Nat} : ∀ (d : Nat) (s : c6), l9 nv na d s = true → 1 + szS s ≤ 29 * nS s
 | 0, _, h => by simp [l9] at h
 | d + 1, s, h => by
  rw [af1, bX0, bX0] at h
  obtain ⟨hh, hb, he⟩ := h
  have h1 := a28 (fun s => be3 d s) s.body hb
  have h2 := a28 (fun s => be3 d s) s.els he
  have hsz : szS s = P4 s.index + P4 s.value + s6 s.body + s6 s.els := by cases s; rfl
  have hn := aH3 s
  have key : P4 s.index + P4 s.value ≤ 28 := by
   by_cases k4 : s.kind = 4
   ·rw [bL6 k4] at hh; simp only [bX0] at hh
    have := aq6 hh.2.1; have := aq6 hh.2.2; omega
   by_cases k3 : s.kind = 3
   ·rw [bL7 k3] at hh; simp only [bX0] at hh
    have := aq6 hh.2.1; have := ah9 hh.2.2; omega
   by_cases k15 : s.kind = 1 ∨ s.kind = 5
   ·rw [bL9 k15] at hh; simp only [bX0] at hh
    have := aq6 hh.2.1; have := ah9 hh.2.2; omega
   by_cases k2 : s.kind = 2
   ·rw [bL8 k2] at hh; simp only [bX0] at hh
    have := ah9 hh.2.1; have := ah9 hh.2.2.2; omega
   ·rw [aw0 (by omega)] at hh; cases hh
  omega
theorem bd9 {p : j7} (h : C0 p = true) : p.vars.length ≤ 12 ∧ p.arrays.length ≤ 2 ∧ s6 p.body ≤ 1740 := by
 unfold C0 C6 ab9 at h
 simp only [bX0, decide_eq_true_eq] at h
 have := a28 (be3 5) p.body h.1.2
 omega
abbrev lqC (l : List c7) (fr : List Int) (at0 : Int) (s : c6) (d : Int) : j8 := ⟨102, [.agg [.ref 0, .ref 1, iA at0], sA s 2, iA d], [rN l, rI fr] ++ sS s, [.dead, .dead] ++ sS s ++ [rN (N1 s d (l, fr, at0)).1, rI (N1 s d (l, fr, at0)).2.1], .agg [.ref 6, .ref 7, iA (N1 s d (l, fr, at0)).2.2]⟩
abbrev lrC (l : List c7) (fr : List Int) (at0 : Int) (ss : List c6) (d : Int) : j8 := ⟨90, [.agg [.ref 0, .ref 1, iA at0], .ref 2, iA d], [rN l, rI fr, dT ss], [.dead, .dead, dT ss, rN (m8 ss d (l, fr, at0)).1, rI (m8 ss d (l, fr, at0)).2.1], .agg [.ref 3, .ref 4, iA (m8 ss d (l, fr, at0)).2.2]⟩
mutual
theorem bF6 : ∀ (s : c6) (d : Int) (x : F7), x.2.2 ≤ (N1 s d x).2.2 ∧ (N1 s d x).2.2 ≤ x.2.2 + nS s
 | ⟨k, t, i, v, c, b, e⟩, d, x => by
  rw [N1, nS]
  split
  ·have h := ab5 b (d + 1) (E1 (x.1, x.2.1, x.2.2 + 1) x.2.2 [⟨1, 9 + d, c, 0, 0⟩])
   simp only [E1] at h ⊢
   omega
  ·split
   ·simp only [E1]; omega
   ·split
    ·simp only [E1]; omega
    ·split
     ·simp only [E1]; omega
     ·simp only
      generalize hy : E1 (x.1, x.2.1, x.2.2 + 1) x.2.2 (b5 v 0) = y
      have hy1 : y.2.2 = x.2.2 + 1 := by rw [← hy]; rfl
      have h1 := ab5 b (d + 1) (E1 y x.2.2 [⟨9, 0, 0, 0, 0⟩])
      generalize m8 b (d + 1) (E1 y x.2.2 [⟨9, 0, 0, 0, 0⟩]) = z at h1 ⊢
      have h2 := ab5 e (d + 1) (bh7 (E1 z x.2.2 [⟨8, 0, 0, 0, 0⟩]).1 y.1.length ((E1 z x.2.2 [⟨8, 0, 0, 0, 0⟩]).1.length : Int), (E1 z x.2.2 [⟨8, 0, 0, 0, 0⟩]).2)
      simp only [E1] at h1 h2 ⊢
      omega
theorem ab5 : ∀ (ss : List c6) (d : Int) (x : F7), x.2.2 ≤ (m8 ss d x).2.2 ∧ (m8 ss d x).2.2 ≤ x.2.2 + nSs ss
 | [], _, x => by simp [m8, nSs]
 | s :: r, d, x => by
  have h1 := bF6 s d x
  have h2 := ab5 r d (N1 s d x)
  rw [m8, nSs]
  omega
end
section
variable {l : List c7} {fr : List Int} {at0 d : Int} {s : c6}
theorem cm1 (k : s.kind = 1) : N1 s d (l, fr, at0) = (l ++ b5 s.value 0 ++ [⟨3, s.target, 0, 0, 0⟩], fr ++ bW8 (b5 s.value 0).length at0 ++ [at0], at0 + 1) := by
 obtain ⟨kd, tg, ix, vl, ct, bd, el⟩ := s
 have k : kd = 1 := k
 rw [N1]
 simp only [k, Int.reduceEq, if_true, if_false]
 rfl
theorem cm5 (k : s.kind = 5) : N1 s d (l, fr, at0) = (l ++ b5 s.value 0 ++ [⟨11, 0, 0, 0, 0⟩] ++ [⟨3, s.target, 0, 0, 0⟩], fr ++ bW8 (b5 s.value 0).length at0 ++ [at0] ++ [at0], at0 + 1) := by
 obtain ⟨kd, tg, ix, vl, ct, bd, el⟩ := s
 have k : kd = 5 := k
 rw [N1]
 simp only [k, Int.reduceEq, if_true, if_false]
 rfl
theorem cm2 (k : s.kind = 2) : N1 s d (l, fr, at0) = (l ++ b5 s.value 0 ++ b5 s.index 1 ++ [⟨5, s.target, 1, 0, 0⟩], fr ++ bW8 (b5 s.value 0).length at0 ++ bW8 (b5 s.index 1).length at0 ++ [at0], at0 + 1) := by
 obtain ⟨kd, tg, ix, vl, ct, bd, el⟩ := s
 have k : kd = 2 := k
 rw [N1]
 simp only [k, Int.reduceEq, if_true, if_false]
 rfl
theorem cm4 (k : s.kind = 4) : N1 s d (l, fr, at0) = ((m8 s.body (d + 1) (l ++ [⟨1, 9 + d, s.count, 0, 0⟩], fr ++ [at0], at0 + 1)).1 ++ [⟨10, 9 + d, (((l ++ [(⟨1, 9 + d, s.count, 0, 0⟩ : c7)]).length : Nat) : Int), 0, 0⟩], (m8 s.body (d + 1) (l ++ [⟨1, 9 + d, s.count, 0, 0⟩], fr ++ [at0], at0 + 1)).2.1 ++ [at0], (m8 s.body (d + 1) (l ++ [⟨1, 9 + d, s.count, 0, 0⟩], fr ++ [at0], at0 + 1)).2.2) := by
 obtain ⟨kd, tg, ix, vl, ct, bd, el⟩ := s
 have k : kd = 4 := k
 rw [N1]
 simp only [k, if_true, bX1, bX8, bY2]
 rfl
abbrev w3C (l : List c7) (fr : List Int) (at0 d : Int) (s : c6) : F7 := m8 s.body (d + 1) (l ++ b5 s.value 0 ++ [⟨9, 0, 0, 0, 0⟩], fr ++ bW8 (b5 s.value 0).length at0 ++ [at0], at0 + 1)
abbrev w6C (l : List c7) (fr : List Int) (at0 d : Int) (s : c6) : F7 := m8 s.els (d + 1) (bh7 ((w3C l fr at0 d s).1 ++ [⟨8, 0, 0, 0, 0⟩]) (l ++ b5 s.value 0).length ((((w3C l fr at0 d s).1 ++ [(⟨8, 0, 0, 0, 0⟩ : c7)]).length : Nat) : Int), (w3C l fr at0 d s).2.1 ++ [at0], (w3C l fr at0 d s).2.2)
theorem cm3 (k : s.kind = 3) : N1 s d (l, fr, at0) = (bC4 (w6C l fr at0 d s).1 (w3C l fr at0 d s).1.length (((w6C l fr at0 d s).1.length : Nat) : Int), (w6C l fr at0 d s).2.1, (w6C l fr at0 d s).2.2) := by
 obtain ⟨kd, tg, ix, vl, ct, bd, el⟩ := s
 have k : kd = 3 := k
 rw [N1]
 simp only [k, Int.reduceEq, if_false, E1, bX1, bX8, bY2, Nat.add_sub_cancel, b06, List.replicate_one, w6C, w3C]
 rfl
theorem ab4 (ss : List c6) (d : Int) (x : F7) : (m8 ss d x).1.length = x.1.length + az4 ss := (I7 ss d x).1
theorem bM2 (h : l.length + (4 + 4 * szS s) ≤ 5000000) : l.length + P4 s.value ≤ 5000000 ∧ (0 : Int) + P4 s.value ≤ 2000000 ∧ (l ++ b5 s.value 0).length + P4 s.index ≤ 5000000 ∧ (1 : Int) + P4 s.index ≤ 2000000 ∧ (l ++ b5 s.value 0 ++ b5 s.index 1).length + 4 ≤ 5000010 := by
 have h1 := R6 s.value 0
 have h2 := R6 s.index 1
 have h3 : szS s = P4 s.index + P4 s.value + s6 s.body + s6 s.els := by cases s; rfl
 simp only [bX1]
 omega
end
abbrev K8 (s : c6) (l : List c7) (fr : List Int) (at0 : Int) (d : Int) := m8 s.els (d + 1) (((m8 s.body (d + 1) (l ++ b5 s.value 0 ++ [c7.mk 9 0 0 0 0], fr ++ bW8 (b5 s.value 0).length at0 ++ [at0], at0 + 1)).fst ++ [c7.mk 8 0 0 0 0]).set (l ++ b5 s.value 0).length (c7.mk (((m8 s.body (d + 1) (l ++ b5 s.value 0 ++ [c7.mk 9 0 0 0 0], fr ++ bW8 (b5 s.value 0).length at0 ++ [at0], at0 + 1)).fst ++ [c7.mk 8 0 0 0 0]).getD (l ++ b5 s.value 0).length bW7).op (((m8 s.body (d + 1) (l ++ b5 s.value 0 ++ [c7.mk 9 0 0 0 0], fr ++ bW8 (b5 s.value 0).length at0 ++ [at0], at0 + 1)).fst ++ [c7.mk 8 0 0 0 0]).getD (l ++ b5 s.value 0).length bW7).a (((m8 s.body (d + 1) (l ++ b5 s.value 0 ++ [c7.mk 9 0 0 0 0], fr ++ bW8 (b5 s.value 0).length at0 ++ [at0], at0 + 1)).fst ++ [c7.mk 8 0 0 0 0]).length : Int) (((m8 s.body (d + 1) (l ++ b5 s.value 0 ++ [c7.mk 9 0 0 0 0], fr ++ bW8 (b5 s.value 0).length at0 ++ [at0], at0 + 1)).fst ++ [c7.mk 8 0 0 0 0]).getD (l ++ b5 s.value 0).length bW7).c (((m8 s.body (d + 1) (l ++ b5 s.value 0 ++ [c7.mk 9 0 0 0 0], fr ++ bW8 (b5 s.value 0).length at0 ++ [at0], at0 + 1)).fst ++ [c7.mk 8 0 0 0 0]).getD (l ++ b5 s.value 0).length bW7).d), (m8 s.body (d + 1) (l ++ b5 s.value 0 ++ [c7.mk 9 0 0 0 0], fr ++ bW8 (b5 s.value 0).length at0 ++ [at0], at0 + 1)).snd.fst ++ [at0], (m8 s.body (d + 1) (l ++ b5 s.value 0 ++ [c7.mk 9 0 0 0 0], fr ++ bW8 (b5 s.value 0).length at0 ++ [at0], at0 + 1)).snd.snd)
abbrev B3 (s : c6) (l : List c7) (fr : List Int) (at0 : Int) (d : Int) := m8 s.body (d + 1) (l ++ b5 s.value 0 ++ [c7.mk 9 0 0 0 0], fr ++ bW8 (b5 s.value 0).length at0 ++ [at0], at0 + 1)
abbrev aj8 (s : c6) (l : List c7) (fr : List Int) (at0 : Int) (d : Int) := m8 s.body (d + 1) (l ++ b5 s.value 0 ++ [c7.mk 1 (9 + d) s.count 0 0], fr ++ bW8 (b5 s.value 0).length at0 ++ [at0], at0 + 1)
abbrev Z7 (s : c6) (l : List c7) (fr : List Int) (at0 : Int) (d : Int) := m8 s.body (d + 1) (l ++ [c7.mk 1 (9 + d) s.count 0 0], fr ++ [at0], at0 + 1)
abbrev P1 (s : c6) (l : List c7) (fr : List Int) (at0 : Int) (d : Int) : List It := [.dead, .dead, dE s.index.kids, dE s.value.kids, dT s.body, dT s.els, .row 60 (D.instrs (N1 s d (l, fr, at0)).fst), .row 3 (D.ints (N1 s d (l, fr, at0)).snd.fst)]
abbrev bd4 (s : c6) (l : List c7) (fr : List Int) (at0 : Int) (d : Int) : It := .row 60 (D.instrs ((K8 s l fr at0 d).fst.set (B3 s l fr at0 d).fst.length (c7.mk ((K8 s l fr at0 d).fst.getD (B3 s l fr at0 d).fst.length bW7).op ((K8 s l fr at0 d).fst.length : Int) ((K8 s l fr at0 d).fst.getD (B3 s l fr at0 d).fst.length bW7).b ((K8 s l fr at0 d).fst.getD (B3 s l fr at0 d).fst.length bW7).c ((K8 s l fr at0 d).fst.getD (B3 s l fr at0 d).fst.length bW7).d)))
abbrev J7 : It := .box [.v (.slice none 0 0), .v (.slice none 0 0), iA 0]
abbrev W7 (at0 : Int) : It := .box [.ref 9, .ref 10, iA (at0 + 1)]
abbrev aF0 (s : c6) (fr : List Int) (at0 : Int) : It := .row 3 (D.ints (fr ++ bW8 (b5 s.value 0).length at0 ++ [at0]))
abbrev E7 (s : c6) (r0 : List It) : List It := .dead :: .dead :: dE s.index.kids :: dE s.value.kids :: dT s.body :: dT s.els :: r0
abbrev D7 (at0 : Int) (d : Int) (r0 : List (Nat × AV)) : List (Nat × AV) := (2, iA d) :: (3, .ptr 6 0) :: (4, .ptr 7 0) :: (6, .ptr 8 0) :: (7, iA at0) :: r0
theorem aN4 (nv na dd : Nat) (s : c6) (hh : T1 nv na s = true) (hbb : s.body.all (l9 nv na dd) = true) (hbe : s.els.all (l9 nv na dd) = true)
    (ih : ∀ (tt : List c6) (l : List c7) (fr : List Int) (at0 d : Int), tt.all (l9 nv na dd) = true → l.length + 4 * s6 tt ≤ 5000000 → fr.length = l.length → 0 ≤ d → d + dd ≤ 100 → 0 ≤ at0 → at0 + nSs tt ≤ 5000000 → j8.ok Tryz.prog (lrC l fr at0 tt d))
    (l : List c7) (fr : List Int) (at0 d : Int) (r1 : l.length + (4 + 4 * szS s) ≤ 5000000) (r2 : fr.length = l.length) (r3 : 0 ≤ d) (r4 : d + (dd + 1) ≤ 100) (r5 : 0 ≤ at0) (r6 : at0 + nS s ≤ 5000000) : j8.ok Tryz.prog (lqC l fr at0 s d) := by
  refine I1 130 Tryz.func102 [.row 60 (D.instrs l), .row 3 (D.ints fr), dE s.index.kids, dE s.value.kids, dT s.body, dT s.els] [(0, .agg [.ref 0, .ref 1, iA at0]), (1, sA s 2), (2, iA d)] fun G => ?_; have hn := aH3 s; have hft := bM2 r1
  have hsz : szS s = P4 s.index + P4 s.value + s6 s.body + s6 s.els := by cases s; rfl
  have hv := R6 s.value 0; refine wp_seq (i9 G d9 [0, 1, 2, 3, 4, 5, 6, 14, 22] [.row 60 (D.instrs l), .row 3 (D.ints fr), dE s.index.kids, dE s.value.kids, dT s.body, dT s.els, .box [.ref 0, .ref 1, iA at0], .box (sL s 2), J7] [(2, iA d), (3, .ptr 6 0), (4, .ptr 7 0), (6, .ptr 8 0)] fun G => b0 (wp_seq (l0 G d9 [(7, iA at0)] fun G => b0 (wp_seq (J0 G d9 (rg 9) [.row 60 (D.instrs l), .row 3 (D.ints fr), dE s.index.kids, dE s.value.kids, dT s.body, dT s.els, .box [.ref 0, .ref 1, iA (at0 + 1)], .box (sL s 2), J7] (D7 at0 d []) [wO (at0 + 1)] (o1 (by omega)) fun G => b0 (wp_seq (wp_seq (l0 G d9 [(20, bA (s.kind != 4))] fun G => b0 (rcN G (fun h0 q0 => ?_) fun h0 q0 => ?_)))))))))
  ·
   refine wp_skip (b0 (wp_seq (wp_seq (l0 G d9 [(27, iA s.kind)] fun G => b0 (wp_block (wp_seq (F5 G d9 (D7 at0 d [(27, iA s.kind), (28, bA (s.kind == 1))]) fun G => b0 ?_))))))); cases h1 : (s.kind == 1)
   ·
    have q1 := ne_of_beq_false h1; refine rF G _ h1 (wp_seq (F5 G d9 (D7 at0 d [(27, iA s.kind), (36, bA (s.kind == 5))]) fun G => b0 ?_)); cases h2 : (s.kind == 5)
    ·
     have q2 := ne_of_beq_false h2; refine rF G _ h2 (wp_seq (F5 G d9 (D7 at0 d [(27, iA s.kind), (48, bA (s.kind == 2))]) fun G => b0 ?_)); cases h3 : (s.kind == 2)
     ·
      have q3 := ne_of_beq_false h3; refine rF G _ h3 (wp_seq (F5 G d9 (D7 at0 d [(61, bA (s.kind == 3))]) fun G => b0 ?_)); cases h4 : (s.kind == 3)
      · have q4 := ne_of_beq_false h4; refine rF G _ h4 (wp_skip (i8 (b0 (wp_seq (B5 G d9 [(10, iA (9 + d))] [wO ((9 : Int) + d)] (o1 (by omega)) fun G => b0 (wp_seq (i9 G (t0 6 [0, 1] (D5 l fr (at0 + 1) at0 1 (9 + d) s.count 0 0 (by omega) (by omega))) [0, 1, 2, 3, 4, 5, 6, 7, 8, 57, 58] (E7 s [W7 at0, .box (sL s 2), J7, .row 60 (D.instrs (l ++ [c7.mk 1 (9 + d) s.count 0 0])), .row 3 (D.ints (fr ++ [at0]))]) (D7 at0 d [(10, iA (9 + d))]) fun G => b0 (wp_seq (l0 G d9 [(11, iA ((l ++ [c7.mk 1 (9 + d) s.count 0 0]).length : Int))] fun G => b0 (wp_seq (J0 G (t0 5 [9, 10, 4] (ih s.body (l ++ [c7.mk 1 (9 + d) s.count 0 0]) (fr ++ [at0]) (at0 + 1) (d + 1) (by assumption) (by simp only [bX1, bY6, bX8, bY2, r2]; have := hft.2.2.2.2; simp only [bX1] at this; omega) (by have := hft.2.2.2.2; simp only [bX1, bX8, bY2] at this ⊢; omega) (by omega) (by omega) (by omega) (by omega))) [0, 1, 2, 3, 4, 5, 6, 8, 51, 52] (E7 s [.box [.ref 8, .ref 9, iA (Z7 s l fr at0 d).snd.snd], J7, .row 60 (D.instrs (Z7 s l fr at0 d).fst), .row 3 (D.ints (Z7 s l fr at0 d).snd.fst)]) [(3, .ptr 6 0), (6, .ptr 7 0), (7, iA at0), (10, iA (9 + d)), (11, iA ((l ++ [c7.mk 1 (9 + d) s.count 0 0]).length : Int))] [wO (d + 1)] (o1 (by omega)) fun G => b0 (wp_seq (i9 G (t0 5 [8, 9] (D5 ((m8 s.body (d + 1) (l ++ [c7.mk 1 (9 + d) s.count 0 0], fr ++ [at0], at0 + 1)).fst) ((m8 s.body (d + 1) (l ++ [c7.mk 1 (9 + d) s.count 0 0], fr ++ [at0], at0 + 1)).snd.fst) ((m8 s.body (d + 1) (l ++ [c7.mk 1 (9 + d) s.count 0 0], fr ++ [at0], at0 + 1)).snd.snd) at0 10 (9 + d) (((l ++ [c7.mk 1 (9 + d) s.count 0 0]).length : Int)) 0 0 (by have := (I7 s.body (d + 1) (l ++ [⟨1, 9 + d, s.count, 0, 0⟩], fr ++ [at0], at0 + 1)); have := L5 s.body; simp only [bX1, bX8, bY2] at *; omega) (by have := (I7 s.body (d + 1) (l ++ [⟨1, 9 + d, s.count, 0, 0⟩], fr ++ [at0], at0 + 1)); have := L5 s.body; simp only [bX1, bX8, bY2] at *; omega))) [0, 1, 2, 3, 4, 5, 7, 50, 51] (E7 s [.box [.ref 7, .ref 8, iA (Z7 s l fr at0 d).snd.snd], .row 60 (D.instrs ((Z7 s l fr at0 d).fst ++ [c7.mk 10 (9 + d) ((l ++ [c7.mk 1 (9 + d) s.count 0 0]).length : Int) 0 0])), .row 3 (D.ints ((Z7 s l fr at0 d).snd.fst ++ [at0]))]) [(6, .ptr 6 0)] fun G => b0 (wp_ret ?_)))))))))))))); exact W4 (.agg [.ref 7, .ref 8, iA (m8 s.body (d + 1) (l ++ [c7.mk 1 (9 + d) s.count 0 0], fr ++ [at0], at0 + 1)).snd.snd]) G [0, 1, 2, 3, 4, 5, 7, 8] (by have e1 : ((N1 s d (l, fr, at0)).snd.snd : Int) = ((m8 s.body (d + 1) (l ++ [c7.mk 1 (9 + d) s.count 0 0], fr ++ [at0], at0 + 1)).snd.snd) := (by have h9 := congrArg (fun x : F7 => x.2.2) (cm4 (l := l) (fr := fr) (at0 := at0) (d := d) (s := s) (by omega)); exact h9); (first | rw [e1] | simp only [e1]) <;> rfl) (by show _ = mR [0, 1, 2, 3, 4, 5, 7, 8] (P1 s l fr at0 d); unfold P1; have e1 : ((N1 s d (l, fr, at0)).fst : List c7) = ((Z7 s l fr at0 d).fst ++ [c7.mk 10 (9 + d) ((l ++ [c7.mk 1 (9 + d) s.count 0 0]).length : Int) 0 0]) := (congrArg Prod.fst (cm4 (by omega))); have e2 : ((N1 s d (l, fr, at0)).snd.fst : List Int) = ((Z7 s l fr at0 d).snd.fst ++ [at0]) := (congrArg (fun x : F7 => x.2.1) (cm4 (by omega))); (first | rw [e1, e2] | simp only [e1, e2]) <;> rfl)
      · have q4 := eq_of_beq h4; exact False.elim (by omega)
     · have q3 := eq_of_beq h3; exact False.elim (by omega)
    · have q2 := eq_of_beq h2; exact False.elim (by omega)
   · have q1 := eq_of_beq h1; exact False.elim (by omega)
  ·
   refine i9 G (t0 4 [0, 1, 3] (aS0 s.value l fr (at0 + 1) at0 0 (by omega) (by omega) (by omega) (by assumption))) [0, 1, 2, 3, 4, 5, 6, 7, 8, 41, 42] (E7 s [W7 at0, .box (sL s 2), J7, .row 60 (D.instrs (l ++ b5 s.value 0)), .row 3 (D.ints (fr ++ bW8 (b5 s.value 0).length at0))]) (D7 at0 d []) fun G => b0 (wp_seq (wp_seq (l0 G d9 [(27, iA s.kind)] fun G => b0 (wp_block (wp_seq (l0 G d9 [(28, bA (s.kind == 1))] fun G => b0 (M4 G (fun h5 q5 => ?_) fun h5 q5 => ?_)))))))
   ·
    refine wp_seq (l0 G d9 [(36, bA (s.kind == 5))] fun G => b0 (M4 G (fun h6 q6 => ?_) fun h6 q6 => ?_))
    ·
     refine wp_seq (l0 G d9 [(48, bA (s.kind == 2))] fun G => b0 (M4 G (fun h7 q7 => ?_) fun h7 q7 => ?_))
     ·
      refine wp_seq (l0 G d9 [(61, bA (s.kind == 3))] fun G => b0 (M4 G (fun h8 q8 => ?_) fun h8 q8 => ?_))
      · refine wp_skip (i8 (b0 (wp_seq (B5 G d9 [(10, iA (9 + d))] [wO ((9 : Int) + d)] (o1 (by omega)) fun G => b0 (wp_seq (i9 G (t0 6 [9, 10] (D5 (l ++ b5 s.value 0) (fr ++ bW8 (b5 s.value 0).length at0) (at0 + 1) at0 1 (9 + d) s.count 0 0 (by omega) (by simp only [bX1, bY6, bX8, bY2, r2]; have := hft.2.2.2.2; simp only [bX1] at this; omega))) [0, 1, 2, 3, 4, 5, 6, 7, 8, 59, 60] (E7 s [W7 at0, .box (sL s 2), J7, .row 60 (D.instrs (l ++ b5 s.value 0 ++ [c7.mk 1 (9 + d) s.count 0 0])), aF0 s fr at0]) (D7 at0 d [(10, iA (9 + d))]) fun G => b0 (wp_seq (l0 G d9 [(11, iA ((l ++ b5 s.value 0 ++ [c7.mk 1 (9 + d) s.count 0 0]).length : Int))] fun G => b0 (wp_seq (J0 G (t0 5 [9, 10, 4] (ih s.body (l ++ b5 s.value 0 ++ [c7.mk 1 (9 + d) s.count 0 0]) (fr ++ bW8 (b5 s.value 0).length at0 ++ [at0]) (at0 + 1) (d + 1) (by assumption) (by simp only [bX1, bY6, bX8, bY2, r2]; have := hft.2.2.2.2; simp only [bX1] at this; omega) (by exact absurd (hh.symm.trans (aw0 (by omega))) (by decide)) (by omega) (by omega) (by omega) (by omega))) [0, 1, 2, 3, 4, 5, 6, 8, 51, 52] (E7 s [.box [.ref 8, .ref 9, iA (aj8 s l fr at0 d).snd.snd], J7, .row 60 (D.instrs (aj8 s l fr at0 d).fst), .row 3 (D.ints (aj8 s l fr at0 d).snd.fst)]) [(3, .ptr 6 0), (6, .ptr 7 0), (7, iA at0), (10, iA (9 + d)), (11, iA ((l ++ b5 s.value 0 ++ [c7.mk 1 (9 + d) s.count 0 0]).length : Int))] [wO (d + 1)] (o1 (by omega)) fun G => b0 (wp_seq (i9 G (t0 5 [8, 9] (D5 ((m8 s.body (d + 1) (l ++ b5 s.value 0 ++ [c7.mk 1 (9 + d) s.count 0 0], fr ++ bW8 (b5 s.value 0).length at0 ++ [at0], at0 + 1)).fst) ((m8 s.body (d + 1) (l ++ b5 s.value 0 ++ [c7.mk 1 (9 + d) s.count 0 0], fr ++ bW8 (b5 s.value 0).length at0 ++ [at0], at0 + 1)).snd.fst) ((m8 s.body (d + 1) (l ++ b5 s.value 0 ++ [c7.mk 1 (9 + d) s.count 0 0], fr ++ bW8 (b5 s.value 0).length at0 ++ [at0], at0 + 1)).snd.snd) at0 10 (9 + d) (((l ++ b5 s.value 0 ++ [c7.mk 1 (9 + d) s.count 0 0]).length : Int)) 0 0 (by exact absurd (hh.symm.trans (aw0 (by omega))) (by decide)) (by exact absurd (hh.symm.trans (aw0 (by omega))) (by decide)))) [0, 1, 2, 3, 4, 5, 7, 50, 51] (E7 s [.box [.ref 7, .ref 8, iA (aj8 s l fr at0 d).snd.snd], .row 60 (D.instrs ((aj8 s l fr at0 d).fst ++ [c7.mk 10 (9 + d) ((l ++ b5 s.value 0 ++ [c7.mk 1 (9 + d) s.count 0 0]).length : Int) 0 0])), .row 3 (D.ints ((aj8 s l fr at0 d).snd.fst ++ [at0]))]) [(6, .ptr 6 0)] fun G => b0 (wp_ret ?_))))))))))))); exact W4 (.agg [.ref 7, .ref 8, iA (m8 s.body (d + 1) (l ++ b5 s.value 0 ++ [c7.mk 1 (9 + d) s.count 0 0], fr ++ bW8 (b5 s.value 0).length at0 ++ [at0], at0 + 1)).snd.snd]) G [0, 1, 2, 3, 4, 5, 7, 8] (by have e1 : ((N1 s d (l, fr, at0)).snd.snd : Int) = ((m8 s.body (d + 1) (l ++ b5 s.value 0 ++ [c7.mk 1 (9 + d) s.count 0 0], fr ++ bW8 (b5 s.value 0).length at0 ++ [at0], at0 + 1)).snd.snd) := (by exact absurd (hh.symm.trans (aw0 (by omega))) (by decide)); (first | rw [e1] | simp only [e1]) <;> rfl) (by show _ = mR [0, 1, 2, 3, 4, 5, 7, 8] (P1 s l fr at0 d); unfold P1; have e1 : ((N1 s d (l, fr, at0)).fst : List c7) = ((m8 s.body (d + 1) (l ++ b5 s.value 0 ++ [c7.mk 1 (9 + d) s.count 0 0], fr ++ bW8 (b5 s.value 0).length at0 ++ [at0], at0 + 1)).fst ++ [c7.mk 10 (9 + d) ((l ++ b5 s.value 0 ++ [c7.mk 1 (9 + d) s.count 0 0]).length : Int) 0 0]) := (by exact absurd (hh.symm.trans (aw0 (by omega))) (by decide)); have e2 : ((N1 s d (l, fr, at0)).snd.fst : List Int) = ((m8 s.body (d + 1) (l ++ b5 s.value 0 ++ [c7.mk 1 (9 + d) s.count 0 0], fr ++ bW8 (b5 s.value 0).length at0 ++ [at0], at0 + 1)).snd.fst ++ [at0]) := (by exact absurd (hh.symm.trans (aw0 (by omega))) (by decide)); (first | rw [e1, e2] | simp only [e1, e2]) <;> rfl)
      ·
       refine wp_seq (l0 G d9 [(8, iA ((l ++ b5 s.value 0).length : Int))] fun G => b0 (wp_seq (i9 G (t0 3 [9, 10] (D5 (l ++ b5 s.value 0) (fr ++ bW8 (b5 s.value 0).length at0) (at0 + 1) at0 9 0 0 0 0 (by omega) (by simp only [bX1, bY6, bX8, bY2, r2]; have := hft.2.2.2.2; simp only [bX1] at this; omega))) [0, 1, 2, 3, 4, 5, 6, 7, 8, 35, 36] (E7 s [W7 at0, .box (sL s 2), J7, .row 60 (D.instrs (l ++ b5 s.value 0 ++ [c7.mk 9 0 0 0 0])), aF0 s fr at0]) (D7 at0 d [(8, iA ((l ++ b5 s.value 0).length : Int))]) fun G => b0 (wp_seq (J0 G (t0 5 [9, 10, 4] (ih s.body (l ++ b5 s.value 0 ++ [c7.mk 9 0 0 0 0]) (fr ++ bW8 (b5 s.value 0).length at0 ++ [at0]) (at0 + 1) (d + 1) (by assumption) (by simp only [bX1, bY6, bX8, bY2, r2]; have := hft.2.2.2.2; simp only [bX1] at this; omega) (by simp; omega) (by omega) (by omega) (by omega) (by omega))) [0, 1, 2, 3, 4, 5, 6, 7, 8, 51, 52] (E7 s [.box [.ref 9, .ref 10, iA (B3 s l fr at0 d).snd.snd], .box (sL s 2), J7, .row 60 (D.instrs (B3 s l fr at0 d).fst), .row 3 (D.ints (B3 s l fr at0 d).snd.fst)]) (D7 at0 d [(8, iA ((l ++ b5 s.value 0).length : Int))]) [wO (d + 1)] (o1 (by omega)) fun G => b0 (wp_seq (l0 G d9 [(9, iA ((B3 s l fr at0 d).fst.length : Int))] fun G => b0 (wp_seq (i9 G (t0 3 [9, 10] (D5 ((m8 s.body (d + 1) (l ++ b5 s.value 0 ++ [c7.mk 9 0 0 0 0], fr ++ bW8 (b5 s.value 0).length at0 ++ [at0], at0 + 1)).fst) ((m8 s.body (d + 1) (l ++ b5 s.value 0 ++ [c7.mk 9 0 0 0 0], fr ++ bW8 (b5 s.value 0).length at0 ++ [at0], at0 + 1)).snd.fst) ((m8 s.body (d + 1) (l ++ b5 s.value 0 ++ [c7.mk 9 0 0 0 0], fr ++ bW8 (b5 s.value 0).length at0 ++ [at0], at0 + 1)).snd.snd) at0 8 0 0 0 0 (by have h9 := I7 s.body (d + 1) (l ++ b5 s.value 0 ++ [⟨9, 0, 0, 0, 0⟩], fr ++ bW8 (b5 s.value 0).length at0 ++ [at0], at0 + 1); have h8 := L5 s.body; simp only [bX1, bX8, bY2, bY6, bY9, r2] at h9 ⊢; omega) (by have h9 := I7 s.body (d + 1) (l ++ b5 s.value 0 ++ [⟨9, 0, 0, 0, 0⟩], fr ++ bW8 (b5 s.value 0).length at0 ++ [at0], at0 + 1); have h8 := L5 s.body; simp only [bX1, bX8, bY2, bY6, bY9, r2] at h9 ⊢; omega))) [0, 1, 2, 3, 4, 5, 6, 7, 8, 35, 36] (E7 s [.box [.ref 9, .ref 10, iA (B3 s l fr at0 d).snd.snd], .box (sL s 2), J7, .row 60 (D.instrs ((B3 s l fr at0 d).fst ++ [c7.mk 8 0 0 0 0])), .row 3 (D.ints ((B3 s l fr at0 d).snd.fst ++ [at0]))]) (D7 at0 d [(8, iA ((l ++ b5 s.value 0).length : Int)), (9, iA ((B3 s l fr at0 d).fst.length : Int))]) fun G => b0 (wp_seq (J0 G d9 (rg 11) (E7 s [.box [.ref 9, .ref 10, iA (B3 s l fr at0 d).snd.snd], .box (sL s 2), J7, .row 60 (D.instrs (((B3 s l fr at0 d).fst ++ [c7.mk 8 0 0 0 0]).set (l ++ b5 s.value 0).length (c7.mk (((B3 s l fr at0 d).fst ++ [c7.mk 8 0 0 0 0]).getD (l ++ b5 s.value 0).length bW7).op (((B3 s l fr at0 d).fst ++ [c7.mk 8 0 0 0 0]).getD (l ++ b5 s.value 0).length bW7).a (((B3 s l fr at0 d).fst ++ [c7.mk 8 0 0 0 0]).length : Int) (((B3 s l fr at0 d).fst ++ [c7.mk 8 0 0 0 0]).getD (l ++ b5 s.value 0).length bW7).c (((B3 s l fr at0 d).fst ++ [c7.mk 8 0 0 0 0]).getD (l ++ b5 s.value 0).length bW7).d))), .row 3 (D.ints ((B3 s l fr at0 d).snd.fst ++ [at0]))]) (D7 at0 d [(9, iA ((B3 s l fr at0 d).fst.length : Int))]) [(0 : Int) ≤ ((l ++ b5 s.value (0 : Int)).length : Int), ((l ++ b5 s.value (0 : Int)).length : Int) < (((m8 s.body (d + 1) (l ++ b5 s.value (0 : Int) ++ [c7.mk (9 : Int) (0 : Int) (0 : Int) (0 : Int) (0 : Int)], fr ++ bW8 (b5 s.value (0 : Int)).length at0 ++ [at0], at0 + 1)).fst ++ [c7.mk (8 : Int) (0 : Int) (0 : Int) (0 : Int) (0 : Int)]).length : Int), (l ++ b5 s.value (0 : Int)).length < ((m8 s.body (d + 1) (l ++ b5 s.value (0 : Int) ++ [c7.mk (9 : Int) (0 : Int) (0 : Int) (0 : Int) (0 : Int)], fr ++ bW8 (b5 s.value (0 : Int)).length at0 ++ [at0], at0 + 1)).fst ++ [c7.mk (8 : Int) (0 : Int) (0 : Int) (0 : Int) (0 : Int)]).length] ⟨(by omega), (by simp only [ab4, bY9, bX1, bX8, bY2]; omega), (by simp only [ab4, bY9, bX1, bX8, bY2]; omega), bY1⟩ fun G => ?_)))))))))))
       refine b0 (wp_seq (J0 G (t0 5 [9, 10, 5] (ih s.els (((m8 s.body (d + 1) (l ++ b5 s.value 0 ++ [c7.mk 9 0 0 0 0], fr ++ bW8 (b5 s.value 0).length at0 ++ [at0], at0 + 1)).fst ++ [c7.mk 8 0 0 0 0]).set (l ++ b5 s.value 0).length (c7.mk (((m8 s.body (d + 1) (l ++ b5 s.value 0 ++ [c7.mk 9 0 0 0 0], fr ++ bW8 (b5 s.value 0).length at0 ++ [at0], at0 + 1)).fst ++ [c7.mk 8 0 0 0 0]).getD (l ++ b5 s.value 0).length bW7).op (((m8 s.body (d + 1) (l ++ b5 s.value 0 ++ [c7.mk 9 0 0 0 0], fr ++ bW8 (b5 s.value 0).length at0 ++ [at0], at0 + 1)).fst ++ [c7.mk 8 0 0 0 0]).getD (l ++ b5 s.value 0).length bW7).a (((m8 s.body (d + 1) (l ++ b5 s.value 0 ++ [c7.mk 9 0 0 0 0], fr ++ bW8 (b5 s.value 0).length at0 ++ [at0], at0 + 1)).fst ++ [c7.mk 8 0 0 0 0]).length : Int) (((m8 s.body (d + 1) (l ++ b5 s.value 0 ++ [c7.mk 9 0 0 0 0], fr ++ bW8 (b5 s.value 0).length at0 ++ [at0], at0 + 1)).fst ++ [c7.mk 8 0 0 0 0]).getD (l ++ b5 s.value 0).length bW7).c (((m8 s.body (d + 1) (l ++ b5 s.value 0 ++ [c7.mk 9 0 0 0 0], fr ++ bW8 (b5 s.value 0).length at0 ++ [at0], at0 + 1)).fst ++ [c7.mk 8 0 0 0 0]).getD (l ++ b5 s.value 0).length bW7).d)) ((m8 s.body (d + 1) (l ++ b5 s.value 0 ++ [c7.mk 9 0 0 0 0], fr ++ bW8 (b5 s.value 0).length at0 ++ [at0], at0 + 1)).snd.fst ++ [at0]) ((m8 s.body (d + 1) (l ++ b5 s.value 0 ++ [c7.mk 9 0 0 0 0], fr ++ bW8 (b5 s.value 0).length at0 ++ [at0], at0 + 1)).snd.snd) (d + 1) (by assumption) (by have h9 := I7 s.body (d + 1) (l ++ b5 s.value 0 ++ [⟨9, 0, 0, 0, 0⟩], fr ++ bW8 (b5 s.value 0).length at0 ++ [at0], at0 + 1); have h8 := L5 s.body; simp only [bX1, bX8, bY2, bY6, bY9, r2] at h9 ⊢; omega) (by have h9 := I7 s.body (d + 1) (l ++ b5 s.value 0 ++ [⟨9, 0, 0, 0, 0⟩], fr ++ bW8 (b5 s.value 0).length at0 ++ [at0], at0 + 1); have h8 := L5 s.body; simp only [bX1, bX8, bY2, bY6, bY9, r2] at h9 ⊢; omega) (by omega) (by omega) (by have h9 := ab5 s.body (d + 1) (l ++ b5 s.value 0 ++ [⟨9, 0, 0, 0, 0⟩], fr ++ bW8 (b5 s.value 0).length at0 ++ [at0], at0 + 1); simp only at h9; omega) (by have h9 := ab5 s.body (d + 1) (l ++ b5 s.value 0 ++ [⟨9, 0, 0, 0, 0⟩], fr ++ bW8 (b5 s.value 0).length at0 ++ [at0], at0 + 1); simp only at h9; omega))) [0, 1, 2, 3, 4, 5, 6, 7, 8, 51, 52] (E7 s [.box [.ref 9, .ref 10, iA (K8 s l fr at0 d).snd.snd], .box (sL s 2), J7, .row 60 (D.instrs (K8 s l fr at0 d).fst), .row 3 (D.ints (K8 s l fr at0 d).snd.fst)]) (D7 at0 d [(9, iA ((B3 s l fr at0 d).fst.length : Int))]) [wO (d + 1)] (o1 (by omega)) fun G => b0 (wp_seq (J0 G d9 (rg 11) (E7 s [.box [.ref 9, .ref 10, iA (K8 s l fr at0 d).snd.snd], .box (sL s 2), J7, bd4 s l fr at0 d, .row 3 (D.ints (K8 s l fr at0 d).snd.fst)]) (D7 at0 d []) [(0 : Int) ≤ ((m8 s.body (d + 1) (l ++ b5 s.value (0 : Int) ++ [c7.mk (9 : Int) (0 : Int) (0 : Int) (0 : Int) (0 : Int)], fr ++ bW8 (b5 s.value (0 : Int)).length at0 ++ [at0], at0 + 1)).fst.length : Int), ((m8 s.body (d + 1) (l ++ b5 s.value (0 : Int) ++ [c7.mk (9 : Int) (0 : Int) (0 : Int) (0 : Int) (0 : Int)], fr ++ bW8 (b5 s.value (0 : Int)).length at0 ++ [at0], at0 + 1)).fst.length : Int) < ((m8 s.els (d + 1) (((m8 s.body (d + 1) (l ++ b5 s.value (0 : Int) ++ [c7.mk (9 : Int) (0 : Int) (0 : Int) (0 : Int) (0 : Int)], fr ++ bW8 (b5 s.value (0 : Int)).length at0 ++ [at0], at0 + 1)).fst ++ [c7.mk (8 : Int) (0 : Int) (0 : Int) (0 : Int) (0 : Int)]).set (l ++ b5 s.value (0 : Int)).length (c7.mk (((m8 s.body (d + 1) (l ++ b5 s.value (0 : Int) ++ [c7.mk (9 : Int) (0 : Int) (0 : Int) (0 : Int) (0 : Int)], fr ++ bW8 (b5 s.value (0 : Int)).length at0 ++ [at0], at0 + 1)).fst ++ [c7.mk (8 : Int) (0 : Int) (0 : Int) (0 : Int) (0 : Int)]).getD (l ++ b5 s.value (0 : Int)).length bW7).op (((m8 s.body (d + 1) (l ++ b5 s.value (0 : Int) ++ [c7.mk (9 : Int) (0 : Int) (0 : Int) (0 : Int) (0 : Int)], fr ++ bW8 (b5 s.value (0 : Int)).length at0 ++ [at0], at0 + 1)).fst ++ [c7.mk (8 : Int) (0 : Int) (0 : Int) (0 : Int) (0 : Int)]).getD (l ++ b5 s.value (0 : Int)).length bW7).a (((m8 s.body (d + 1) (l ++ b5 s.value (0 : Int) ++ [c7.mk (9 : Int) (0 : Int) (0 : Int) (0 : Int) (0 : Int)], fr ++ bW8 (b5 s.value (0 : Int)).length at0 ++ [at0], at0 + 1)).fst ++ [c7.mk (8 : Int) (0 : Int) (0 : Int) (0 : Int) (0 : Int)]).length : Int) (((m8 s.body (d + 1) (l ++ b5 s.value (0 : Int) ++ [c7.mk (9 : Int) (0 : Int) (0 : Int) (0 : Int) (0 : Int)], fr ++ bW8 (b5 s.value (0 : Int)).length at0 ++ [at0], at0 + 1)).fst ++ [c7.mk (8 : Int) (0 : Int) (0 : Int) (0 : Int) (0 : Int)]).getD (l ++ b5 s.value (0 : Int)).length bW7).c (((m8 s.body (d + 1) (l ++ b5 s.value (0 : Int) ++ [c7.mk (9 : Int) (0 : Int) (0 : Int) (0 : Int) (0 : Int)], fr ++ bW8 (b5 s.value (0 : Int)).length at0 ++ [at0], at0 + 1)).fst ++ [c7.mk (8 : Int) (0 : Int) (0 : Int) (0 : Int) (0 : Int)]).getD (l ++ b5 s.value (0 : Int)).length bW7).d), (m8 s.body (d + 1) (l ++ b5 s.value (0 : Int) ++ [c7.mk (9 : Int) (0 : Int) (0 : Int) (0 : Int) (0 : Int)], fr ++ bW8 (b5 s.value (0 : Int)).length at0 ++ [at0], at0 + 1)).snd.fst ++ [at0], (m8 s.body (d + 1) (l ++ b5 s.value (0 : Int) ++ [c7.mk (9 : Int) (0 : Int) (0 : Int) (0 : Int) (0 : Int)], fr ++ bW8 (b5 s.value (0 : Int)).length at0 ++ [at0], at0 + 1)).snd.snd)).fst.length : Int), (m8 s.body (d + 1) (l ++ b5 s.value (0 : Int) ++ [c7.mk (9 : Int) (0 : Int) (0 : Int) (0 : Int) (0 : Int)], fr ++ bW8 (b5 s.value (0 : Int)).length at0 ++ [at0], at0 + 1)).fst.length < (m8 s.els (d + 1) (((m8 s.body (d + 1) (l ++ b5 s.value (0 : Int) ++ [c7.mk (9 : Int) (0 : Int) (0 : Int) (0 : Int) (0 : Int)], fr ++ bW8 (b5 s.value (0 : Int)).length at0 ++ [at0], at0 + 1)).fst ++ [c7.mk (8 : Int) (0 : Int) (0 : Int) (0 : Int) (0 : Int)]).set (l ++ b5 s.value (0 : Int)).length (c7.mk (((m8 s.body (d + 1) (l ++ b5 s.value (0 : Int) ++ [c7.mk (9 : Int) (0 : Int) (0 : Int) (0 : Int) (0 : Int)], fr ++ bW8 (b5 s.value (0 : Int)).length at0 ++ [at0], at0 + 1)).fst ++ [c7.mk (8 : Int) (0 : Int) (0 : Int) (0 : Int) (0 : Int)]).getD (l ++ b5 s.value (0 : Int)).length bW7).op (((m8 s.body (d + 1) (l ++ b5 s.value (0 : Int) ++ [c7.mk (9 : Int) (0 : Int) (0 : Int) (0 : Int) (0 : Int)], fr ++ bW8 (b5 s.value (0 : Int)).length at0 ++ [at0], at0 + 1)).fst ++ [c7.mk (8 : Int) (0 : Int) (0 : Int) (0 : Int) (0 : Int)]).getD (l ++ b5 s.value (0 : Int)).length bW7).a (((m8 s.body (d + 1) (l ++ b5 s.value (0 : Int) ++ [c7.mk (9 : Int) (0 : Int) (0 : Int) (0 : Int) (0 : Int)], fr ++ bW8 (b5 s.value (0 : Int)).length at0 ++ [at0], at0 + 1)).fst ++ [c7.mk (8 : Int) (0 : Int) (0 : Int) (0 : Int) (0 : Int)]).length : Int) (((m8 s.body (d + 1) (l ++ b5 s.value (0 : Int) ++ [c7.mk (9 : Int) (0 : Int) (0 : Int) (0 : Int) (0 : Int)], fr ++ bW8 (b5 s.value (0 : Int)).length at0 ++ [at0], at0 + 1)).fst ++ [c7.mk (8 : Int) (0 : Int) (0 : Int) (0 : Int) (0 : Int)]).getD (l ++ b5 s.value (0 : Int)).length bW7).c (((m8 s.body (d + 1) (l ++ b5 s.value (0 : Int) ++ [c7.mk (9 : Int) (0 : Int) (0 : Int) (0 : Int) (0 : Int)], fr ++ bW8 (b5 s.value (0 : Int)).length at0 ++ [at0], at0 + 1)).fst ++ [c7.mk (8 : Int) (0 : Int) (0 : Int) (0 : Int) (0 : Int)]).getD (l ++ b5 s.value (0 : Int)).length bW7).d), (m8 s.body (d + 1) (l ++ b5 s.value (0 : Int) ++ [c7.mk (9 : Int) (0 : Int) (0 : Int) (0 : Int) (0 : Int)], fr ++ bW8 (b5 s.value (0 : Int)).length at0 ++ [at0], at0 + 1)).snd.fst ++ [at0], (m8 s.body (d + 1) (l ++ b5 s.value (0 : Int) ++ [c7.mk (9 : Int) (0 : Int) (0 : Int) (0 : Int) (0 : Int)], fr ++ bW8 (b5 s.value (0 : Int)).length at0 ++ [at0], at0 + 1)).snd.snd)).fst.length] ⟨(by omega), (by simp only [ab4, bY9, bX1, bX8, bY2]; omega), (by simp only [ab4, bY9, bX1, bX8, bY2]; omega), bY1⟩ fun G => ?_))))
       refine b0 (wp_seq (i9 G d9 (rg 11) (E7 s [.box [.ref 9, .ref 10, iA (K8 s l fr at0 d).snd.snd], .box (sL s 2), .box [.ref 9, .ref 10, iA (K8 s l fr at0 d).snd.snd], bd4 s l fr at0 d, .row 3 (D.ints (K8 s l fr at0 d).snd.fst)]) (D7 at0 d []) fun G => b0 (wp_ret (C2 (n7 ?_))))); exact W4 (.agg [.ref 9, .ref 10, iA (m8 s.els (d + 1) (((m8 s.body (d + 1) (l ++ b5 s.value 0 ++ [c7.mk 9 0 0 0 0], fr ++ bW8 (b5 s.value 0).length at0 ++ [at0], at0 + 1)).fst ++ [c7.mk 8 0 0 0 0]).set (l ++ b5 s.value 0).length (c7.mk (((m8 s.body (d + 1) (l ++ b5 s.value 0 ++ [c7.mk 9 0 0 0 0], fr ++ bW8 (b5 s.value 0).length at0 ++ [at0], at0 + 1)).fst ++ [c7.mk 8 0 0 0 0]).getD (l ++ b5 s.value 0).length bW7).op (((m8 s.body (d + 1) (l ++ b5 s.value 0 ++ [c7.mk 9 0 0 0 0], fr ++ bW8 (b5 s.value 0).length at0 ++ [at0], at0 + 1)).fst ++ [c7.mk 8 0 0 0 0]).getD (l ++ b5 s.value 0).length bW7).a (((m8 s.body (d + 1) (l ++ b5 s.value 0 ++ [c7.mk 9 0 0 0 0], fr ++ bW8 (b5 s.value 0).length at0 ++ [at0], at0 + 1)).fst ++ [c7.mk 8 0 0 0 0]).length : Int) (((m8 s.body (d + 1) (l ++ b5 s.value 0 ++ [c7.mk 9 0 0 0 0], fr ++ bW8 (b5 s.value 0).length at0 ++ [at0], at0 + 1)).fst ++ [c7.mk 8 0 0 0 0]).getD (l ++ b5 s.value 0).length bW7).c (((m8 s.body (d + 1) (l ++ b5 s.value 0 ++ [c7.mk 9 0 0 0 0], fr ++ bW8 (b5 s.value 0).length at0 ++ [at0], at0 + 1)).fst ++ [c7.mk 8 0 0 0 0]).getD (l ++ b5 s.value 0).length bW7).d), (m8 s.body (d + 1) (l ++ b5 s.value 0 ++ [c7.mk 9 0 0 0 0], fr ++ bW8 (b5 s.value 0).length at0 ++ [at0], at0 + 1)).snd.fst ++ [at0], (m8 s.body (d + 1) (l ++ b5 s.value 0 ++ [c7.mk 9 0 0 0 0], fr ++ bW8 (b5 s.value 0).length at0 ++ [at0], at0 + 1)).snd.snd)).snd.snd]) G [0, 1, 2, 3, 4, 5, 9, 10] (by have e1 : ((N1 s d (l, fr, at0)).snd.snd : Int) = ((m8 s.els (d + 1) (((m8 s.body (d + 1) (l ++ b5 s.value 0 ++ [c7.mk 9 0 0 0 0], fr ++ bW8 (b5 s.value 0).length at0 ++ [at0], at0 + 1)).fst ++ [c7.mk 8 0 0 0 0]).set (l ++ b5 s.value 0).length (c7.mk (((m8 s.body (d + 1) (l ++ b5 s.value 0 ++ [c7.mk 9 0 0 0 0], fr ++ bW8 (b5 s.value 0).length at0 ++ [at0], at0 + 1)).fst ++ [c7.mk 8 0 0 0 0]).getD (l ++ b5 s.value 0).length bW7).op (((m8 s.body (d + 1) (l ++ b5 s.value 0 ++ [c7.mk 9 0 0 0 0], fr ++ bW8 (b5 s.value 0).length at0 ++ [at0], at0 + 1)).fst ++ [c7.mk 8 0 0 0 0]).getD (l ++ b5 s.value 0).length bW7).a (((m8 s.body (d + 1) (l ++ b5 s.value 0 ++ [c7.mk 9 0 0 0 0], fr ++ bW8 (b5 s.value 0).length at0 ++ [at0], at0 + 1)).fst ++ [c7.mk 8 0 0 0 0]).length : Int) (((m8 s.body (d + 1) (l ++ b5 s.value 0 ++ [c7.mk 9 0 0 0 0], fr ++ bW8 (b5 s.value 0).length at0 ++ [at0], at0 + 1)).fst ++ [c7.mk 8 0 0 0 0]).getD (l ++ b5 s.value 0).length bW7).c (((m8 s.body (d + 1) (l ++ b5 s.value 0 ++ [c7.mk 9 0 0 0 0], fr ++ bW8 (b5 s.value 0).length at0 ++ [at0], at0 + 1)).fst ++ [c7.mk 8 0 0 0 0]).getD (l ++ b5 s.value 0).length bW7).d), (m8 s.body (d + 1) (l ++ b5 s.value 0 ++ [c7.mk 9 0 0 0 0], fr ++ bW8 (b5 s.value 0).length at0 ++ [at0], at0 + 1)).snd.fst ++ [at0], (m8 s.body (d + 1) (l ++ b5 s.value 0 ++ [c7.mk 9 0 0 0 0], fr ++ bW8 (b5 s.value 0).length at0 ++ [at0], at0 + 1)).snd.snd)).snd.snd) := (by have h9 := congrArg (fun x : F7 => x.2.2) (cm3 (l := l) (fr := fr) (at0 := at0) (d := d) (s := s) (by omega)); exact h9); (first | rw [e1] | simp only [e1]) <;> rfl) (by show _ = mR [0, 1, 2, 3, 4, 5, 9, 10] (P1 s l fr at0 d); unfold P1; have h9 := cm3 (l := l) (fr := fr) (at0 := at0) (d := d) (s := s) (by omega); rw [h9] <;> rfl)
     · refine wp_seq (i9 G (t0 4 [9, 10, 2] (aS0 s.index (l ++ b5 s.value 0) (fr ++ bW8 (b5 s.value 0).length at0) (at0 + 1) at0 1 (by omega) (by omega) (by omega) (by simp only [bX1, bY6, r2]; done))) [0, 1, 2, 3, 4, 5, 6, 7, 8, 43, 44] (E7 s [W7 at0, .box (sL s 2), J7, .row 60 (D.instrs (l ++ b5 s.value 0 ++ b5 s.index 1)), .row 3 (D.ints (fr ++ bW8 (b5 s.value 0).length at0 ++ bW8 (b5 s.index 1).length at0))]) (D7 at0 d []) fun G => b0 (wp_seq (i9 G (t0 5 [9, 10] (D5 (l ++ b5 s.value 0 ++ b5 s.index 1) (fr ++ bW8 (b5 s.value 0).length at0 ++ bW8 (b5 s.index 1).length at0) (at0 + 1) at0 5 s.target 1 0 0 (by omega) (by simp only [bX1, bY6, bX8, bY2, r2]; have := hft.2.2.2.2; simp only [bX1] at this; omega))) [0, 1, 2, 3, 4, 5, 6, 7, 8, 9, 10, 51, 52] (E7 s [W7 at0, .box (sL s 2), .box [.ref 11, .ref 12, iA (at0 + 1)], .dead, .dead, .row 60 (D.instrs (l ++ b5 s.value 0 ++ b5 s.index 1 ++ [c7.mk 5 s.target 1 0 0])), .row 3 (D.ints (fr ++ bW8 (b5 s.value 0).length at0 ++ bW8 (b5 s.index 1).length at0 ++ [at0]))]) (D7 at0 d []) fun G => b0 (wp_ret (C2 (n7 ?_)))))); exact W4 (.agg [.ref 11, .ref 12, iA (at0 + 1)]) G [0, 1, 2, 3, 4, 5, 11, 12] (by have e1 : ((N1 s d (l, fr, at0)).snd.snd : Int) = (at0 + 1) := (congrArg (fun x : F7 => x.2.2) (cm2 (by omega))); (first | rw [e1] | simp only [e1]) <;> rfl) (by show _ = mR [0, 1, 2, 3, 4, 5, 11, 12] (P1 s l fr at0 d); unfold P1; have e1 : ((N1 s d (l, fr, at0)).fst : List c7) = (l ++ b5 s.value 0 ++ b5 s.index 1 ++ [c7.mk 5 s.target 1 0 0]) := (congrArg Prod.fst (cm2 (by omega))); have e2 : ((N1 s d (l, fr, at0)).snd.fst : List Int) = (fr ++ bW8 (b5 s.value 0).length at0 ++ bW8 (b5 s.index 1).length at0 ++ [at0]) := (congrArg (fun x : F7 => x.2.1) (cm2 (by omega))); (first | rw [e1, e2] | simp only [e1, e2]) <;> rfl)
    · refine wp_seq (i9 G (t0 3 [9, 10] (D5 (l ++ b5 s.value 0) (fr ++ bW8 (b5 s.value 0).length at0) (at0 + 1) at0 11 0 0 0 0 (by omega) (by simp only [bX1, bY6, bX8, bY2, r2]; have := hft.2.2.2.2; simp only [bX1] at this; omega))) [0, 1, 2, 3, 4, 5, 6, 7, 8, 35, 36] (E7 s [W7 at0, .box (sL s 2), J7, .row 60 (D.instrs (l ++ b5 s.value 0 ++ [c7.mk 11 0 0 0 0])), aF0 s fr at0]) (D7 at0 d []) fun G => b0 (wp_seq (i9 G (t0 5 [9, 10] (D5 (l ++ b5 s.value 0 ++ [c7.mk 11 0 0 0 0]) (fr ++ bW8 (b5 s.value 0).length at0 ++ [at0]) (at0 + 1) at0 3 s.target 0 0 0 (by simp only [bX1, bY6, bX8, bY2, r2]; have := hft.2.2.2.2; simp only [bX1] at this; omega) (by simp only [bX1, bY6, bX8, bY2, r2]; have := hft.2.2.2.2; simp only [bX1] at this; omega))) [0, 1, 2, 3, 4, 5, 6, 7, 8, 9, 10, 51, 52] (E7 s [W7 at0, .box (sL s 2), .box [.ref 11, .ref 12, iA (at0 + 1)], .dead, .dead, .row 60 (D.instrs (l ++ b5 s.value 0 ++ [c7.mk 11 0 0 0 0] ++ [c7.mk 3 s.target 0 0 0])), .row 3 (D.ints (fr ++ bW8 (b5 s.value 0).length at0 ++ [at0] ++ [at0]))]) (D7 at0 d []) fun G => b0 (wp_ret (C2 (n7 ?_)))))); exact W4 (.agg [.ref 11, .ref 12, iA (at0 + 1)]) G [0, 1, 2, 3, 4, 5, 11, 12] (by have e1 : ((N1 s d (l, fr, at0)).snd.snd : Int) = (at0 + 1) := (congrArg (fun x : F7 => x.2.2) (cm5 (by omega))); (first | rw [e1] | simp only [e1]) <;> rfl) (by show _ = mR [0, 1, 2, 3, 4, 5, 11, 12] (P1 s l fr at0 d); unfold P1; have e1 : ((N1 s d (l, fr, at0)).fst : List c7) = (l ++ b5 s.value 0 ++ [c7.mk 11 0 0 0 0] ++ [c7.mk 3 s.target 0 0 0]) := (congrArg Prod.fst (cm5 (by omega))); have e2 : ((N1 s d (l, fr, at0)).snd.fst : List Int) = (fr ++ bW8 (b5 s.value 0).length at0 ++ [at0] ++ [at0]) := (congrArg (fun x : F7 => x.2.1) (cm5 (by omega))); (first | rw [e1, e2] | simp only [e1, e2]) <;> rfl)
   · refine wp_seq (i9 G (t0 5 [9, 10] (D5 (l ++ b5 s.value 0) (fr ++ bW8 (b5 s.value 0).length at0) (at0 + 1) at0 3 s.target 0 0 0 (by omega) (by simp only [bX1, bY6, bX8, bY2, r2]; have := hft.2.2.2.2; simp only [bX1] at this; omega))) [0, 1, 2, 3, 4, 5, 6, 7, 8, 9, 10, 51, 52] (E7 s [W7 at0, .box (sL s 2), .box [.ref 11, .ref 12, iA (at0 + 1)], .dead, .dead, .row 60 (D.instrs (l ++ b5 s.value 0 ++ [c7.mk 3 s.target 0 0 0])), aF0 s fr at0]) (D7 at0 d []) fun G => b0 (wp_ret (C2 (n7 ?_)))); exact W4 (.agg [.ref 11, .ref 12, iA (at0 + 1)]) G [0, 1, 2, 3, 4, 5, 11, 12] (by have e1 : ((N1 s d (l, fr, at0)).snd.snd : Int) = (at0 + 1) := (congrArg (fun x : F7 => x.2.2) (cm1 (by omega))); (first | rw [e1] | simp only [e1]) <;> rfl) (by show _ = mR [0, 1, 2, 3, 4, 5, 11, 12] (P1 s l fr at0 d); unfold P1; have e1 : ((N1 s d (l, fr, at0)).fst : List c7) = (l ++ b5 s.value 0 ++ [c7.mk 3 s.target 0 0 0]) := (congrArg Prod.fst (cm1 (by omega))); have e2 : ((N1 s d (l, fr, at0)).snd.fst : List Int) = (fr ++ bW8 (b5 s.value 0).length at0 ++ [at0]) := (congrArg (fun x : F7 => x.2.1) (cm1 (by omega))); (first | rw [e1, e2] | simp only [e1, e2]) <;> rfl)
section
variable {ss : List c6} {k : Nat} {d : Int} {l : List c7} {fr : List Int} {at0 : Int}
theorem a79 (hk : k < ss.length) : s6 (ss.take k) + (1 + szS (ss.getD k bW7)) ≤ s6 ss := by
 have h1 := ao0 (ss.take (k + 1)) (ss.drop (k + 1))
 rw [List.take_append_drop, r8 _ _ hk, ao0, ← n9 (d := bW7) hk] at h1
 simp only [s6] at h1
 omega
theorem bj1 (hk : k < ss.length) : nSs (ss.take k) + nS (ss.getD k bW7) ≤ nSs ss := by
 have h1 := au9 (ss.take (k + 1)) (ss.drop (k + 1))
 rw [List.take_append_drop, r8 _ _ hk, au9, ← n9 (d := bW7) hk] at h1
 simp only [nSs] at h1
 omega
theorem bn1 (r1 : l.length + 4 * s6 ss ≤ 5000000) (hk : k < ss.length) : (m8 (ss.take k) d (l, fr, at0)).1.length + (4 + 4 * szS (ss.getD k bW7)) ≤ 5000000 := by
 have h1 := a79 hk
 have h2 := L5 (ss.take k)
 rw [ab4]
 simp only
 omega
theorem bA1 (r2 : fr.length = l.length) : (m8 (ss.take k) d (l, fr, at0)).2.1.length = (m8 (ss.take k) d (l, fr, at0)).1.length := by
 have h := I7 (ss.take k) d (l, fr, at0)
 simp only at h
 omega
theorem bn3 (r5 : 0 ≤ at0) : 0 ≤ (m8 (ss.take k) d (l, fr, at0)).2.2 := by
 have h := ab5 (ss.take k) d (l, fr, at0)
 simp only at h
 omega
theorem bn2 (r6 : at0 + nSs ss ≤ 5000000) (hk : k < ss.length) : (m8 (ss.take k) d (l, fr, at0)).2.2 + nS (ss.getD k bW7) ≤ 5000000 := by
 have h := ab5 (ss.take k) d (l, fr, at0)
 have h1 := bj1 hk
 simp only at h
 omega
theorem bO1 (hk : k < ss.length) : (m8 (ss.take (k + 1)) d (l, fr, at0)).1 = (N1 (ss.getD k bW7) d (m8 (ss.take k) d (l, fr, at0))).1 := by rw [aw9 hk]
theorem bO0 (hk : k < ss.length) : (m8 (ss.take (k + 1)) d (l, fr, at0)).2.1 = (N1 (ss.getD k bW7) d (m8 (ss.take k) d (l, fr, at0))).2.1 := by rw [aw9 hk]
theorem bN9 (hk : k < ss.length) : (m8 (ss.take (k + 1)) d (l, fr, at0)).2.2 = (N1 (ss.getD k bW7) d (m8 (ss.take k) d (l, fr, at0))).2.2 := by rw [aw9 hk]
theorem ba6 (hk : ss.length ≤ k) (x : F7) : m8 ss d x = m8 (ss.take k) d x := by rw [bY3 hk]
end
theorem aC4 (ss : List c6) (B : Int) (ih : ∀ (s : c6), s ∈ ss → ∀ (l : List c7) (fr : List Int) (at0 d : Int), l.length + (4 + 4 * szS s) ≤ 5000000 → fr.length = l.length → 0 ≤ d → d ≤ B → 0 ≤ at0 → at0 + nS s ≤ 5000000 → j8.ok Tryz.prog (lqC l fr at0 s d))
  (l : List c7) (fr : List Int) (at0 d : Int) (r1 : l.length + 4 * s6 ss ≤ 5000000) (r2 : fr.length = l.length) (r3 : 0 ≤ d) (r4 : d ≤ B) (r5 : 0 ≤ at0) (r6 : at0 + nSs ss ≤ 5000000) : j8.ok Tryz.prog (lrC l fr at0 ss d) := by
 refine I1 22 Tryz.func90 [.row 60 (D.instrs l), .row 3 (D.ints fr), dT ss] [(0, .agg [.ref 0, .ref 1, iA at0]), (1, .ref 2), (2, iA d)] fun G => ?_; have hl := ah2 ss; refine wp_seq (i9 G d9 [0, 1, 2, 3, 11] [.row 60 (D.instrs l), .row 3 (D.ints fr), dT ss, .box [.ref 0, .ref 1, iA at0], .box [.v (.slice none 0 0), .v (.slice none 0 0), iA 0]] [(1, .ref 2), (2, iA d), (3, .ptr 3 0), (6, .ptr 4 0)] fun G => b0 (wp_seq (wp_seq (F5 G d9 [(1, .ref 2), (2, iA d), (3, .ptr 3 0), (6, .ptr 4 0), (7, iA 0)] fun G => b0 (wp_block ?_))))); obtain ⟨ρ, G⟩ := G.shift 0 5 [.dead, .row 3 (D.ints fr), dT ss, .box [.ref 5, .ref 1, iA at0], .box [.v (.slice none 0 0), .v (.slice none 0 0), iA 0], .row 60 (D.instrs l)] [(1, .ref 2), (2, iA d), (3, .ptr 3 0), (6, .ptr 4 0), (7, iA 0)]; obtain ⟨ρ, G⟩ := G.shift 1 6 [.dead, .dead, dT ss, .box [.ref 5, .ref 6, iA at0], .box [.v (.slice none 0 0), .v (.slice none 0 0), iA 0], .row 60 (D.instrs l), .row 3 (D.ints fr)] [(1, .ref 2), (2, iA d), (3, .ptr 3 0), (6, .ptr 4 0), (7, iA 0)]; refine v5 (κ := Nat) (fun k => k ≤ ss.length) (fun k => ss.length - k) (fun k => [.dead, .dead, dT ss, .box [.ref 5, .ref 6, iA (m8 (ss.take k) d (l, fr, at0)).2.2], .box [.v (.slice none 0 0), .v (.slice none 0 0), iA 0], .row 60 (.instrs (m8 (ss.take k) d (l, fr, at0)).1), .row 3 (.ints (m8 (ss.take k) d (l, fr, at0)).2.1)]) (fun k => [(1, .ref 2), (2, iA d), (3, .ptr 3 0), (6, .ptr 4 0), (7, iA k)]) 0 (by omega) (s4.at G _ _) ?_; clear G; intro k ρ a w hp G; replace G := s4.at G [.dead, .dead, dT ss, .box [.ref 5, .ref 6, iA (m8 (bY0 k ss) d (l, fr, at0)).snd.snd], .box [.v (.slice none 0 0), .v (.slice none 0 0), iA 0], .row 60 (D.instrs (m8 (bY0 k ss) d (l, fr, at0)).fst), .row 3 (D.ints (m8 (bY0 k ss) d (l, fr, at0)).snd.fst)] [(1, .ref 2), (2, iA d), (3, .ptr 3 0), (6, .ptr 4 0), (7, iA k)]; refine wp_seq (wp_seq (l0 G d9 [(11, bA (decide ((k : Int) < ss.length)))] fun G => b0 (rcD G (fun h0 q0 => ?_) fun h0 q0 => ?_)))
 ·refine wp_exit (t6 (t6 (t3 (b0 (wp_seq (i9 G d9 [0, 1, 2, 4, 5, 6] [.dead, .dead, dT ss, .box [.ref 4, .ref 5, iA (m8 (bY0 k ss) d (l, fr, at0)).snd.snd], .row 60 (D.instrs (m8 (bY0 k ss) d (l, fr, at0)).fst), .row 3 (D.ints (m8 (bY0 k ss) d (l, fr, at0)).snd.fst)] [(6, .ptr 3 0)] fun G => b0 (wp_ret ?_))))))); exact W4 (.agg [.ref 4, .ref 5, iA (m8 (bY0 k ss) d (l, fr, at0)).snd.snd]) G [0, 1, 2, 4, 5] (by have e1 : ((m8 ss d (l, fr, at0)).snd.snd : Int) = ((m8 (bY0 k ss) d (l, fr, at0)).snd.snd) := (congrArg (fun x : F7 => x.2.2) (ba6 (by omega) _)); (first | rw [e1] | simp only [e1]) <;> rfl) (by show _ = mR [0, 1, 2, 4, 5] [.dead, .dead, dT ss, .row 60 (D.instrs (m8 ss d (l, fr, at0)).fst), .row 3 (D.ints (m8 ss d (l, fr, at0)).snd.fst)]; have e1 : ((m8 ss d (l, fr, at0)).fst : List c7) = ((m8 (bY0 k ss) d (l, fr, at0)).fst) := (congrArg Prod.fst (ba6 (by omega) _)); have e2 : ((m8 ss d (l, fr, at0)).snd.fst : List Int) = ((m8 (bY0 k ss) d (l, fr, at0)).snd.fst) := (congrArg (fun x : F7 => x.2.1) (ba6 (by omega) _)); (first | rw [e1, e2] | simp only [e1, e2]) <;> rfl)
 ·refine wp_skip (b0 (wp_seq (wp_block (F4 G (t0 6 [5, 6, 39, 40, 41, 42] (ih (ss.getD k bW7) (aQ2 (by omega)) ((m8 (bY0 k ss) d (l, fr, at0)).fst) ((m8 (bY0 k ss) d (l, fr, at0)).snd.fst) ((m8 (bY0 k ss) d (l, fr, at0)).snd.snd) d (bn1 r1 (by omega)) (bA1 r2) (by assumption) (by assumption) (bn3 r5) (bn2 r6 (by omega)))) [0, 0, 0, 6, 14, 0, 63, 127] [0, 1, 2, 3, 4, 55, 56] [.dead, .dead, dT ss, .box [.ref 5, .ref 6, iA (N1 (ss.getD k bW7) d (m8 (bY0 k ss) d (l, fr, at0))).snd.snd], .box [.v (.slice none 0 0), .v (.slice none 0 0), iA 0], .row 60 (D.instrs (N1 (ss.getD k bW7) d (m8 (bY0 k ss) d (l, fr, at0))).fst), .row 3 (D.ints (N1 (ss.getD k bW7) d (m8 (bY0 k ss) d (l, fr, at0))).snd.fst)] [(1, .ref 2), (2, iA d), (3, .ptr 3 0), (6, .ptr 4 0), (7, iA k)] (iX k k ss.length []) (iK (by omega) bY1) fun G => i8 (b0 (B5 G d9 [(7, iA ((k : Int) + 1))] [wO ((k : Int) + 1)] (o1 (by omega)) fun G => b0 ?_)))))); exact J5 G (k + 1) (by omega) (by omega) (rg 7) (by have e1 : ((m8 (bY0 (k + 1) ss) d (l, fr, at0)).snd.snd : Int) = ((N1 (ss.getD k bW7) d (m8 (bY0 k ss) d (l, fr, at0))).snd.snd) := (bN9 (by omega)); have e2 : ((m8 (bY0 (k + 1) ss) d (l, fr, at0)).fst : List c7) = ((N1 (ss.getD k bW7) d (m8 (bY0 k ss) d (l, fr, at0))).fst) := (bO1 (by omega)); have e3 : ((m8 (bY0 (k + 1) ss) d (l, fr, at0)).snd.fst : List Int) = ((N1 (ss.getD k bW7) d (m8 (bY0 k ss) d (l, fr, at0))).snd.fst) := (bO0 (by omega)); (first | rw [e1, e2, e3] | simp only [e1, e2, e3]) <;> rfl)
theorem bj9 (nv na : Nat) : ∀ (dd : Nat) (ss : List c6) (l : List c7) (fr : List Int) (at0 d : Int), ss.all (l9 nv na dd) = true → l.length + 4 * s6 ss ≤ 5000000 → fr.length = l.length → 0 ≤ d → d + dd ≤ 100 → 0 ≤ at0 → at0 + nSs ss ≤ 5000000 → j8.ok Tryz.prog (lrC l fr at0 ss d) := by
 intro dd
 induction dd with
 | zero =>
  intro ss l fr at0 d hs r1 r2 r3 r4 r5 r6
  have h0 : ss = [] := by
   cases ss with
   | nil => rfl
   | cons a r => simp [l9] at hs
  subst h0
  exact aC4 [] 100 (fun s hs => by cases hs) l fr at0 d r1 r2 r3 (by omega) r5 r6
 | succ dd ih =>
  intro ss l fr at0 d hs r1 r2 r3 r4 r5 r6
  refine aC4 ss (100 - (dd + 1)) (fun s hm l fr at0 d q1 q2 q3 q4 q5 q6 => ?_) l fr at0 d r1 r2 r3 (by omega) r5 r6
  have h := bX9.1 hs s hm
  rw [af1, bX0, bX0] at h
  exact aN4 nv na dd s h.1 h.2.1 h.2.2 (fun tt l fr at0 d h1 h2 h3 h4 h5 h6 h7 => ih tt l fr at0 d h1 h2 h3 h4 h5 h6 h7) l fr at0 d q1 q2 q3 (by omega) q5 q6
abbrev aE9 : It := .box [.v (.slice none 0 0), .v (.slice none 0 0), iA 0]
theorem aV2 (ss : List c6) (B : Int) (ih : ∀ (s : c6), s ∈ ss → ∀ (l : List c7) (fr : List Int) (at0 d : Int), l.length + (4 + 4 * szS s) ≤ 5000000 → fr.length = l.length → 0 ≤ d → d ≤ B → 0 ≤ at0 → at0 + nS s ≤ 5000000 → j8.ok Tryz.prog (lqC l fr at0 s d))
  (d : Int) (r1 : ([] : List c7).length + 4 * s6 ss ≤ 5000000) (r3 : 0 ≤ d) (r4 : d ≤ B) (r6 : (0 : Int) + nSs ss ≤ 5000000) : j8.ok Tryz.prog ⟨90, [.agg [.v (.slice none 0 0), .v (.slice none 0 0), iA 0], .ref 0, iA d], [dT ss], [dT ss, rN (m8 ss d ([], [], 0)).1, rI (m8 ss d ([], [], 0)).2.1], .agg [.ref 1, .ref 2, iA (m8 ss d ([], [], 0)).2.2]⟩ := by
 refine I1 22 Tryz.func90 [dT ss] [(0, .agg [.v (.slice none 0 0), .v (.slice none 0 0), iA 0]), (1, .ref 0), (2, iA d)] fun G => ?_; have hl := ah2 ss; refine wp_seq (i9 G d9 [0, 1, 9] [dT ss, aE9, aE9] [(1, .ref 0), (2, iA d), (3, .ptr 1 0), (6, .ptr 2 0)] fun G => b0 (wp_seq (wp_seq (F5 G d9 [(1, .ref 0), (2, iA d), (3, .ptr 1 0), (6, .ptr 2 0), (7, iA 0)] fun G => b0 (wp_block ?_))))); obtain ⟨ρ, G⟩ := G.nil 3 60 (.instrs []) 5 [dT ss, .box [.ref 3, .v (.slice none 0 0), iA 0], .box [.v (.slice none 0 0), .v (.slice none 0 0), iA 0]] [(1, .ref 0), (2, iA d), (3, .ptr 1 0), (6, .ptr 2 0), (7, iA 0)]; obtain ⟨ρ, G⟩ := G.nil 4 3 (.ints []) 1 [dT ss, .box [.ref 3, .ref 4, iA 0], .box [.v (.slice none 0 0), .v (.slice none 0 0), iA 0], .row 60 (D.instrs [])] [(1, .ref 0), (2, iA d), (3, .ptr 1 0), (6, .ptr 2 0), (7, iA 0)]; refine v5 (κ := Nat) (fun k => k ≤ ss.length) (fun k => ss.length - k) (fun k => [dT ss, .box [.ref 3, .ref 4, iA (m8 (ss.take k) d ([], [], 0)).2.2], .box [.v (.slice none 0 0), .v (.slice none 0 0), iA 0], .row 60 (.instrs (m8 (ss.take k) d ([], [], 0)).1), .row 3 (.ints (m8 (ss.take k) d ([], [], 0)).2.1)]) (fun k => [(1, .ref 0), (2, iA d), (3, .ptr 1 0), (6, .ptr 2 0), (7, iA k)]) 0 (by omega) (s4.at G _ _) ?_; clear G; intro k ρ a w hp G; replace G := s4.at G [dT ss, .box [.ref 3, .ref 4, iA (m8 (bY0 k ss) d ([], [], 0)).snd.snd], aE9, .row 60 (D.instrs (m8 (bY0 k ss) d ([], [], 0)).fst), .row 3 (D.ints (m8 (bY0 k ss) d ([], [], 0)).snd.fst)] [(1, .ref 0), (2, iA d), (3, .ptr 1 0), (6, .ptr 2 0), (7, iA k)]; refine wp_seq (wp_seq (l0 G d9 [(11, bA (decide ((k : Int) < ss.length)))] fun G => b0 (rcD G (fun h0 q0 => ?_) fun h0 q0 => ?_)))
 ·refine wp_exit (t6 (t6 (t3 (b0 (wp_seq (i9 G d9 [0, 2, 3, 4] [dT ss, .box [.ref 2, .ref 3, iA (m8 (bY0 k ss) d ([], [], 0)).snd.snd], .row 60 (D.instrs (m8 (bY0 k ss) d ([], [], 0)).fst), .row 3 (D.ints (m8 (bY0 k ss) d ([], [], 0)).snd.fst)] [(6, .ptr 1 0)] fun G => b0 (wp_ret ?_))))))); exact W4 (.agg [.ref 2, .ref 3, iA (m8 (bY0 k ss) d ([], [], 0)).snd.snd]) G [0, 2, 3] (by have e1 : ((m8 ss d ([], [], 0)).snd.snd : Int) = ((m8 (bY0 k ss) d ([], [], 0)).snd.snd) := (congrArg (fun x : F7 => x.2.2) (ba6 (by omega) _)); (first | rw [e1] | simp only [e1]) <;> rfl) (by show _ = mR [0, 2, 3] [dT ss, .row 60 (D.instrs (m8 ss d ([], [], 0)).fst), .row 3 (D.ints (m8 ss d ([], [], 0)).snd.fst)]; have e1 : ((m8 ss d ([], [], 0)).fst : List c7) = ((m8 (bY0 k ss) d ([], [], 0)).fst) := (congrArg Prod.fst (ba6 (by omega) _)); have e2 : ((m8 ss d ([], [], 0)).snd.fst : List Int) = ((m8 (bY0 k ss) d ([], [], 0)).snd.fst) := (congrArg (fun x : F7 => x.2.1) (ba6 (by omega) _)); (first | rw [e1, e2] | simp only [e1, e2]) <;> rfl)
 ·refine wp_skip (b0 (wp_seq (wp_block (F4 G (t0 6 [3, 4, 37, 38, 39, 40] (ih (ss.getD k bW7) (aQ2 (by omega)) ((m8 (bY0 k ss) d ([], [], 0)).fst) ((m8 (bY0 k ss) d ([], [], 0)).snd.fst) ((m8 (bY0 k ss) d ([], [], 0)).snd.snd) d (bn1 r1 (by omega)) (bA1 rfl) (by assumption) (by assumption) (bn3 (Int.le_refl 0)) (bn2 r6 (by omega)))) [0, 0, 0, 6, 14, 0, 63, 127] [0, 1, 2, 53, 54] [dT ss, .box [.ref 3, .ref 4, iA (N1 (ss.getD k bW7) d (m8 (bY0 k ss) d ([], [], 0))).snd.snd], aE9, .row 60 (D.instrs (N1 (ss.getD k bW7) d (m8 (bY0 k ss) d ([], [], 0))).fst), .row 3 (D.ints (N1 (ss.getD k bW7) d (m8 (bY0 k ss) d ([], [], 0))).snd.fst)] [(1, .ref 0), (2, iA d), (3, .ptr 1 0), (6, .ptr 2 0), (7, iA k)] (iX k k ss.length []) (iK (by omega) bY1) fun G => i8 (b0 (B5 G d9 [(7, iA ((k : Int) + 1))] [wO ((k : Int) + 1)] (o1 (by omega)) fun G => b0 ?_)))))); exact J5 G (k + 1) (by omega) (by omega) (rg 5) (by have e1 : ((m8 (bY0 (k + 1) ss) d ([], [], 0)).snd.snd : Int) = ((N1 (ss.getD k bW7) d (m8 (bY0 k ss) d ([], [], 0))).snd.snd) := (bN9 (by omega)); have e2 : ((m8 (bY0 (k + 1) ss) d ([], [], 0)).fst : List c7) = ((N1 (ss.getD k bW7) d (m8 (bY0 k ss) d ([], [], 0))).fst) := (bO1 (by omega)); have e3 : ((m8 (bY0 (k + 1) ss) d ([], [], 0)).snd.fst : List Int) = ((N1 (ss.getD k bW7) d (m8 (bY0 k ss) d ([], [], 0))).snd.fst) := (bO0 (by omega)); (first | rw [e1, e2, e3] | simp only [e1, e2, e3]) <;> rfl)
theorem aZ2 (p : j7) (hp : C0 p = true) (hb : s6 p.body ≤ 1048576) : j8.ok Tryz.prog ⟨90, [.agg [.v (.slice none 0 0), .v (.slice none 0 0), iA 0], .ref 0, iA 0], [dT p.body], [dT p.body, rN (m8 p.body 0 ([], [], 0)).1, rI (m8 p.body 0 ([], [], 0)).2.1], .agg [.ref 1, .ref 2, iA (m8 p.body 0 ([], [], 0)).2.2]⟩ := by
 simp only [C0, ab9, bX0, decide_eq_true_eq] at hp
 refine aV2 p.body 95 (fun s hm l fr at0 d q1 q2 q3 q4 q5 q6 => ?_) 0 (by simp only [bY2]; omega) (by omega) (by omega) (by have := aH2 p.body; omega)
 have h := bX9.1 hp.1.2 s hm
 rw [af1, bX0, bX0] at h
 exact aN4 _ _ 4 s h.1 h.2.1 h.2.2 (fun tt l fr at0 d h1 h2 h3 h4 h5 h6 h7 => bj9 _ _ 4 tt l fr at0 d h1 h2 h3 h4 h5 h6 h7) l fr at0 d q1 q2 q3 (by omega) q5 q6
def aq2 (p : j7) : F7 := ((m8 p.body 0 ([], [], 0)).1 ++ [⟨13, 0, 0, 0, 0⟩], (m8 p.body 0 ([], [], 0)).2.1 ++ [-1], (m8 p.body 0 ([], [], 0)).2.2)
def okC (p : j7) : Bool := C0 p && decide ((aq2 p).1.length ≤ 400)
def l5 (p : j7) : F7 := if okC p = true then aq2 p else ([], [], 0)
theorem aX0 {p : j7} (h : C0 p = false) : okC p = false := by unfold okC; rw [h]; rfl
theorem bi9 {p : j7} (h : ¬ (aq2 p).1.length ≤ 400) : okC p = false := by unfold okC; rw [decide_eq_false h, Bool.and_false]
theorem bi8 {p : j7} (h1 : C0 p = true) (h : (aq2 p).1.length ≤ 400) : okC p = true := by unfold okC; rw [decide_eq_true h, h1]; rfl
theorem aw8 {p : j7} (h : okC p = false) : l5 p = ([], [], 0) := by unfold l5; rw [h]; rfl
theorem bm6 {p : j7} (h : okC p = true) : l5 p = aq2 p := by unfold l5; rw [h]; rfl
theorem ba2 (p : j7) (hb : s6 p.body ≤ 1048576) : (m8 p.body 0 ([], [], 0)).1.length ≤ 5000000 ∧ (m8 p.body 0 ([], [], 0)).2.1.length ≤ 5000000 := by
 have h := I7 p.body 0 ([], [], 0)
 have h1 := L5 p.body
 simp only [bY2] at h
 omega
abbrev aj7 (p : j7) : List It := [dI p.vars, dI p.arrays, dT p.body, .row 60 (D.instrs (l5 p).fst), .row 3 (D.ints (l5 p).snd.fst)]
abbrev aE6 (p : j7) (r0 : List It) : List It := .row 60 (D.instrs ((m8 p.body 0 ([], [], 0)).fst ++ [c7.mk 13 0 0 0 0])) :: .row 3 (D.ints ((m8 p.body 0 ([], [], 0)).snd.fst ++ [-1])) :: r0
theorem aS1 (p : j7) (hb : s6 p.body ≤ 1048576) : j8.ok Tryz.prog ⟨75, [pA 0], pS p, pS p ++ [rN (l5 p).1, rI (l5 p).2.1], .tup [.agg [.ref 3, .ref 4, iA (l5 p).2.2], bA (okC p)]⟩ := by
  refine I1 22 Tryz.func75 [dI p.vars, dI p.arrays, dT p.body] [(0, pA 0)] fun G => ?_; have hcb := ba2 p hb; refine wp_seq (i9 G d9 [0, 1, 2, 3, 11] [dI p.vars, dI p.arrays, dT p.body, .box (pL 0), .box [.v (.slice none 0 0), .v (.slice none 0 0), iA 0]] [(1, .ptr 3 0), (2, .ptr 4 0), (3, bA false)] fun G => b0 (wp_seq (wp_seq (l0 G (t0 1 [0, 1, 2] (ab8 p (by assumption))) [(7, .v (.bool !C0 p))] fun G => b0 ?_)))); cases h0 : (!C0 p)
  ·
   have q0 : (C0 p) = true := (Eq.mp (Bool.not_eq_false' _) h0); refine rF G _ h0 (wp_skip (b0 (wp_seq (i9 G (t0 3 [2] (aZ2 p (by assumption) (by assumption))) [0, 1, 2, 4, 29, 30, 37] [dI p.vars, dI p.arrays, dT p.body, .box [.v (.slice none 0 0), .v (.slice none 0 0), iA 0], .row 60 (D.instrs (m8 p.body 0 ([], [], 0)).fst), .row 3 (D.ints (m8 p.body 0 ([], [], 0)).snd.fst), .box [.ref 4, .ref 5, iA (m8 p.body 0 ([], [], 0)).snd.snd]] [(2, .ptr 3 0), (3, bA false), (4, .ptr 6 0)] fun G => b0 (wp_seq (i9 G (t0 2 [4, 5] (D5 ((m8 p.body 0 ([], [], 0)).fst) ((m8 p.body 0 ([], [], 0)).snd.fst) ((m8 p.body 0 ([], [], 0)).snd.snd) (-1) 13 0 0 0 0 (by omega) (by omega))) [0, 1, 2, 3, 6, 23, 24] (dI p.vars :: dI p.arrays :: dT p.body :: .box [.v (.slice none 0 0), .v (.slice none 0 0), iA 0] :: .box [.ref 5, .ref 6, iA (m8 p.body 0 ([], [], 0)).snd.snd] :: (aE6 p [])) [(2, .ptr 3 0), (3, bA false), (4, .ptr 4 0)] fun G => b0 (wp_seq (wp_seq (l0 G d9 [(19, bA (decide ((((m8 p.body 0 ([], [], 0)).fst ++ [c7.mk 13 0 0 0 0]).length : Int) > 400)))] fun G => b0 (rcD G (fun h1 q1 => ?_) fun h1 q1 => ?_))))))))))
   · refine wp_skip (b0 (wp_seq (i9 G d9 [0, 1, 2, 3, 5, 6] (dI p.vars :: dI p.arrays :: dT p.body :: .box [.ref 4, .ref 5, iA (m8 p.body 0 ([], [], 0)).snd.snd] :: (aE6 p [])) [(2, .ptr 3 0), (3, bA true)] fun G => b0 (wp_ret ?_)))); exact W4 (.tup [.agg [.ref 4, .ref 5, iA (m8 p.body 0 ([], [], 0)).snd.snd], bA true]) G [0, 1, 2, 4, 5] (by have e1 : ((l5 p).snd.snd : Int) = ((m8 p.body 0 ([], [], 0)).snd.snd) := (by rw [bm6 (bi8 (by with_reducible assumption) (by simp only [aq2]; omega))]; rfl); have e2 : (okC p : Bool) = (true) := (bi8 (by with_reducible assumption) (by simp only [aq2]; omega)); (first | rw [e1, e2] | simp only [e1, e2]) <;> rfl) (by show _ = mR [0, 1, 2, 4, 5] (aj7 p); unfold aj7; rw [bm6 (bi8 (by with_reducible assumption) (by simp only [aq2]; omega))] <;> rfl)
   · refine wp_seq (F5 G d9 [(2, .ptr 3 0), (3, bA false), (4, .ptr 4 0)] fun G => b0 (wp_ret (n7 ?_))); obtain ⟨ρ, G⟩ := G.nil 7 60 (.instrs []) 5 (dI p.vars :: dI p.arrays :: dT p.body :: .box [.ref 7, .v (.slice none 0 0), iA 0] :: .box [.ref 5, .ref 6, iA (m8 p.body 0 ([], [], 0)).snd.snd] :: (aE6 p [])) [(2, .ptr 3 0), (3, bA false), (4, .ptr 4 0)]; obtain ⟨ρ, G⟩ := G.nil 8 3 (.ints []) 1 (dI p.vars :: dI p.arrays :: dT p.body :: .box [.ref 7, .ref 8, iA 0] :: .box [.ref 5, .ref 6, iA (m8 p.body 0 ([], [], 0)).snd.snd] :: (aE6 p [.row 60 (D.instrs [])])) [(2, .ptr 3 0), (3, bA false), (4, .ptr 4 0)]; exact W4 (.tup [.agg [.ref 7, .ref 8, iA 0], bA false]) G [0, 1, 2, 7, 8] (by have e1 : ((l5 p).snd.snd : Int) = (0) := (by rw [aw8 (bi9 (by simp only [aq2]; omega))]; done); have e2 : (okC p : Bool) = (false) := (bi9 (by simp only [aq2]; omega)); (first | rw [e1, e2] | simp only [e1, e2]) <;> rfl) (by show _ = mR [0, 1, 2, 7, 8] (aj7 p); unfold aj7; rw [aw8 (bi9 (by simp only [aq2]; omega))] <;> rfl)
  · have q0 : (C0 p) = false := (Eq.mp (b03 _) h0); refine rT G _ h0 (wp_seq (F5 G d9 [(1, .ptr 3 0), (2, .ptr 4 0), (3, bA false)] fun G => b0 (wp_ret (n7 ?_)))); obtain ⟨ρ, G⟩ := G.nil 5 60 (.instrs []) 5 [dI p.vars, dI p.arrays, dT p.body, .box (pL 0), .box [.ref 5, .v (.slice none 0 0), iA 0]] [(1, .ptr 3 0), (2, .ptr 4 0), (3, bA false)]; obtain ⟨ρ, G⟩ := G.nil 6 3 (.ints []) 1 [dI p.vars, dI p.arrays, dT p.body, .box (pL 0), .box [.ref 5, .ref 6, iA 0], .row 60 (D.instrs [])] [(1, .ptr 3 0), (2, .ptr 4 0), (3, bA false)]; exact W4 (.tup [.agg [.ref 5, .ref 6, iA 0], bA false]) G [0, 1, 2, 5, 6] (by have e1 : ((l5 p).snd.snd : Int) = (0) := (by rw [aw8 (aX0 (by with_reducible assumption))]; done); have e2 : (okC p : Bool) = (false) := (aX0 (by with_reducible assumption)); (first | rw [e1, e2] | simp only [e1, e2]) <;> rfl) (by show _ = mR [0, 1, 2, 5, 6] (aj7 p); unfold aj7; rw [aw8 (aX0 (by with_reducible assumption))] <;> rfl)
def cvP (p : j7) : List Int := if okC p = true then p.vars else []
def caP (p : j7) : List Int := if okC p = true then p.arrays else []
theorem bN3 {p : j7} (h : okC p = true) : cvP p = p.vars := if_pos h
theorem bV9 {p : j7} (h : okC p = false) : cvP p = [] := if_neg (by rw [h]; decide)
theorem bO2 {p : j7} (h : okC p = true) : caP p = p.arrays := if_pos h
theorem bW1 {p : j7} (h : okC p = false) : caP p = [] := if_neg (by rw [h]; decide)
abbrev aE8 (p : j7) : List It := [dI p.vars, dI p.arrays, dT p.body, .row 3 (D.ints (cvP p)), .row 3 (D.ints (caP p)), .row 60 (D.instrs (l5 p).fst)]
abbrev aE5 (p : j7) (r0 : List It) : List It := .row 60 (D.instrs (l5 p).fst) :: .row 3 (D.ints (l5 p).snd.fst) :: .box [.ref 5, .ref 6, iA (l5 p).snd.snd] :: r0
theorem am2 (p : j7) (hb : p.size ≤ 1048576) : j8.ok Tryz.prog ⟨48, [pA 0], pS p, pS p ++ [rI (cvP p), rI (caP p), rN (l5 p).1], .tup [.agg [.ref 3, .ref 4, .ref 5], bA (okC p)]⟩ := by
 refine I1 25 Tryz.func48 [dI p.vars, dI p.arrays, dT p.body] [(0, pA 0)] fun G => ?_
 have hb1 : p.vars.length ≤ 1048576 ∧ p.arrays.length ≤ 1048576 ∧ s6 p.body ≤ 1048576 := by unfold j7.size at hb; omega
 refine wp_seq (i9 G d9 [0, 1, 2, 3, 11] [dI p.vars, dI p.arrays, dT p.body, .box (pL 0), .box [.v (.slice none 0 0), .v (.slice none 0 0), .v (.slice none 0 0)]] [(1, .ptr 3 0), (2, .ptr 4 0), (3, bA false)] fun G => b0 (wp_seq (i9 G (t0 1 [0, 1, 2] (aS1 p (by omega))) [0, 1, 2, 3, 4, 13, 14, 45] (dI p.vars :: dI p.arrays :: dT p.body :: .box (pL 0) :: .box [.v (.slice none 0 0), .v (.slice none 0 0), .v (.slice none 0 0)] :: (aE5 p [])) [(1, .ptr 3 0), (2, .ptr 4 0), (3, bA false), (4, .ptr 7 0), (5, bA (okC p))] fun G => b0 (wp_seq (wp_seq (l0 G d9 [(12, .v (.bool !okC p))] fun G => b0 ?_)))))); cases h0 : (!okC p)
 ·have q0 : (okC p) = true := (Eq.mp (Bool.not_eq_false' _) h0); refine rF G _ h0 (wp_skip (b0 (wp_seq (F4 G d9 [0, 0, 2, 7, 0, 0, 32, 127, 0, 256, 1023, 2047, 4095] [0, 1, 2, 4, 5, 32, 64] [dI p.vars, dI p.arrays, dT p.body, .box [.ref 5, .ref 6, .ref 4], .row 60 (D.instrs (l5 p).fst), .row 3 (D.ints ([] ++ p.vars)), .row 3 (D.ints ([] ++ p.arrays))] [(2, .ptr 3 0), (3, bA true)] (aP ((0 : Nat) + p.vars.length) 8 (aP ((0 : Nat) + p.arrays.length) 8 [])) (aK (by omega) (aK (by omega) bY1)) fun G => b0 (wp_ret ?_))))); exact W4 (.tup [.agg [.ref 5, .ref 6, .ref 4], bA true]) G [0, 1, 2, 5, 6, 4] (by have e1 : (okC p : Bool) = (true) := (by assumption); (first | rw [e1] | simp only [e1]) <;> rfl) (by show _ = mR [0, 1, 2, 5, 6, 4] (aE8 p); unfold aE8; have e2 : (caP p : List Int) = ([] ++ p.arrays) := (by rw [bO2 (by with_reducible assumption)]; rfl); rw [e2, bN3 (by with_reducible assumption)] <;> rfl)
 ·have q0 : (okC p) = false := (Eq.mp (b03 _) h0); refine rT G _ h0 (wp_seq (F5 G d9 [(1, .ptr 3 0), (2, .ptr 4 0), (3, bA false), (4, .ptr 7 0)] fun G => b0 (wp_ret (n7 ?_)))); obtain ⟨ρ, G⟩ := G.nil 8 3 (.ints []) 1 (dI p.vars :: dI p.arrays :: dT p.body :: .box (pL 0) :: .box [.ref 8, .v (.slice none 0 0), .v (.slice none 0 0)] :: (aE5 p [])) [(1, .ptr 3 0), (2, .ptr 4 0), (3, bA false), (4, .ptr 7 0)]; obtain ⟨ρ, G⟩ := G.nil 9 3 (.ints []) 1 (dI p.vars :: dI p.arrays :: dT p.body :: .box (pL 0) :: .box [.ref 8, .ref 9, .v (.slice none 0 0)] :: (aE5 p [.row 3 (D.ints [])])) [(1, .ptr 3 0), (2, .ptr 4 0), (3, bA false), (4, .ptr 7 0)]; obtain ⟨ρ, G⟩ := G.nil 10 60 (.instrs []) 5 (dI p.vars :: dI p.arrays :: dT p.body :: .box (pL 0) :: .box (pL 8) :: (aE5 p [.row 3 (D.ints []), .row 3 (D.ints [])])) [(1, .ptr 3 0), (2, .ptr 4 0), (3, bA false), (4, .ptr 7 0)]; exact W4 (.tup [pA 8, bA false]) G [0, 1, 2, 8, 9, 10] (by have e1 : (okC p : Bool) = (false) := (by assumption); (first | rw [e1] | simp only [e1]) <;> rfl) (by show _ = mR [0, 1, 2, 8, 9, 10] (aE8 p); unfold aE8; have e2 : (caP p : List Int) = ([]) := (by rw [bW1 (by with_reducible assumption)]; done); have e3 : ((l5 p).fst : List c7) = ([]) := (by rw [aw8 (by with_reducible assumption)]; done); rw [e2, e3, bV9 (by with_reducible assumption)] <;> rfl)
def d8 (b : List UInt8) (j : Int) : b6 × Int := (⟨(o0 b j).vars, (o0 b j).arrays, (clD b (x8 b j).2 (o0 b j).vars.length (o0 b j).arrays.length).1⟩, (clD b (x8 b j).2 (o0 b j).vars.length (o0 b j).arrays.length).2)
theorem bo0 (b : List UInt8) {j : Int} (hj : 0 ≤ j) (hj2 : j ≤ 10000000) : j + 2 ≤ (x8 b j).2 ∧ (x8 b j).2 ≤ j + 150000 := by
 have h1 := bo1 b hj hj2
 have h2 := bk0 b hj hj2
 omega
theorem bi1 (b : List UInt8) (j : Int) : (o0 b j).vars.length ≤ 12 ∧ (o0 b j).arrays.length ≤ 2 ∧ 1 ≤ (o0 b j).vars.length := by
 have h := bd9 (bi3 b j)
 have := (a86 (bi3 b j)).2.2.1
 omega
theorem bw7 (b : List UInt8) {j : Int} (hj : 0 ≤ j) (hj2 : j ≤ 10000000) : j + 3 ≤ (d8 b j).2 ∧ (d8 b j).2 ≤ j + 150100 ∧ (d8 b j).1.list.length ≤ 12 ∧ 1 ≤ (d8 b j).1.list.length := by
 have h1 := bo0 b hj hj2
 have h2 := bW0 b (j := (x8 b j).2) (o0 b j).vars.length (o0 b j).arrays.length (by omega) (by omega)
 have h3 := bD9 b (j := (x8 b j).2) (by omega) (by omega)
 have e : (d8 b j).1.list.length = (clD b (x8 b j).2 (o0 b j).vars.length (o0 b j).arrays.length).1.length := rfl
 have e2 : (d8 b j).2 = (clD b (x8 b j).2 (o0 b j).vars.length (o0 b j).arrays.length).2 := rfl
 rw [e, e2]
 omega
section
variable {b : List UInt8} {j : Int}
end
section
variable {ars vs : List Int} {pc : Int} {bd : List c6} {e : c8} {d k : Nat}
end
section
variable {ars vs : List Int} {bd : List c6} {m pc : Int} {t : c6} {nv dd : Nat}
end
section
variable {ars vs : List Int} {bd : List c6} {m pc l : Int} {t : c6} {nv dd : Nat}
end
section
variable {ars vs : List Int} {bd : List c6} {m pc : Int} {ss : List c6} {nv d k : Nat}
end
theorem i7.sel {ι : Type} {φ ψ : Nat → Prop} {w0 w : World} {F : ι → Rs} {ρ : Nat → Value} {S S1 : List It} {js : List Nat} (M : i7 φ ψ w0 w (l6 F ρ (o7 S))) (hn : js.Nodup) (hl : js.length = S1.length) (hS : js.map (o7 S) = S1.map (It.ren (nth js))) : i7 φ ψ w0 w (l6 F (fun i => ρ (nth js i)) (o7 S1)) := by
 refine M.map (fun k : ι ⊕ Nat => (match k with | .inl i => some (.inl i) | .inr i => if i < js.length then some (.inr (nth js i)) else none : Option (ι ⊕ Nat))) ?_ ?_
 ·intro k k' x h1 h2
  match k, k' with
  | .inl i, .inl i' => simp at h1 h2; rw [← h1] at h2; simpa using h2.symm
  | .inl i, .inr j => simp only at h1 h2; cases h1; split at h2 <;> simp at h2
  | .inr j, .inl i => simp only at h1 h2; cases h2; split at h1 <;> simp at h1
  | .inr j, .inr j' =>
   simp at h1 h2
   obtain ⟨f1, f2⟩ := h1
   obtain ⟨g1, g2⟩ := h2
   rw [← f2] at g2
   have hj := Sum.inr.inj g2
   have e1 := bW9 f1
   have e2 := bW9 g1
   rw [E8 e2, E8 e1] at hj
   have := (List.getElem?_inj f1 hn).1 (e1.trans (by rw [← hj]; exact e2.symm))
   rw [this]
 ·intro k
  match k with
  | .inl i => exact .inl ⟨_, rfl, rfl⟩
  | .inr i =>
   by_cases hlt : i < js.length
   ·refine .inl ⟨.inr (nth js i), by simp [hlt], ?_⟩
    have h1 := congrArg (·[i]?) hS
    have hlt' : i < S1.length := by omega
    simp only [List.getElem?_map, bW9 hlt, bW9 hlt', Option.map_some, Option.some.injEq] at h1
    simp only [l6]
    rw [al0 hlt', E8 (bW9 hlt), h1, ← It.res_ren, E8 (bW9 hlt)]
   ·refine .inr ?_
    simp only [l6]
    rw [v9 (by omega)]
    rfl
theorem j8.twice {P : Program} {f : FuncId} {args : List AV} {pre S : List It} {d : D} {res : AV} {i : Nat} (hc : j8.ok P ⟨f, args, pre, S, res⟩) (S1 : List It) (hi : S[i]? = some (.dat d)) (hl : pre.length ≤ S.length)
  (hS : S.all (fun x => V7 S.length x.ids) = true) (hg : V7 S.length res.ids = true) (hl1 : S1.length = S.length + 1) (hd : o7 S1 S.length = .dat d) (h2 : ∀ ρ : Nat → Value, ρ S.length = ρ i → ∀ j, j < S.length → (o7 S1 j).res ρ j = (o7 S j).res ρ j) : j8.ok P ⟨f, args, pre, S1, res⟩ := by
 intro ι φ ψ w0 w F ρ M
 refine (hc ι φ ψ w0 w F ρ M).mono ?_
 rintro x w' ⟨ρ1, h1, rfl, M1⟩
 have hi' : o7 S i = .dat d := by simp [o7, hi]
 have hlt : i < S.length := (bX7.1 hi).1
 have hinv : Inv (o7 S) ρ1 [S.length] := fun ρ' h j => by
  by_cases hj : j < S.length
  ·refine It.res_congr _ (fun k hk => h k ?_) (.inr (.inr (h j (by simp; omega))))
   have h1 := G0 (bX9.1 hS (S[j]) (bZ0 hj)) k (by simpa [o7, bX2, bW9 hj] using hk)
   simp; omega
  ·rw [show o7 S j = .none by simp only [o7, bX2, bZ1 (Nat.le_of_not_lt hj)]; rfl]; rfl
 obtain ⟨ρ2, h3, M2, h4⟩ := M1.newDat (id := S.length) (by simp [o7]) hinv (M1.datAt hi')
 have hρ : ρ2 i = ρ1 i := h3 i (by simp; omega)
 have e : l6 F ρ2 (l7 (o7 S) [(S.length, .dat d)]) = l6 F ρ2 (o7 S1) := by
  funext k
  cases k with
  | inl q => rfl
  | inr j =>
   simp only [l6, l7]
   by_cases hj : j = S.length
   ·subst hj; rw [if_pos rfl, hd]
   ·rw [if_neg hj]
    by_cases hj2 : j < S.length
    ·exact (h2 ρ2 (by rw [← h4, hρ]) j hj2).symm
    ·rw [v9 (by omega), v9 (by omega)]
 rw [e] at M2
 refine ⟨ρ2, fun k hk => by
  have hk : k < pre.length := hk
  rw [h3 k (by simp; omega)]; exact h1 k hk, ?_, M2⟩
 exact congrArg _ (AV.val_congr res fun k hk => by
  have := G0 hg k hk
  exact h3 k (by simp; omega)).symm
theorem bb7 (c : List UInt8) : j8.ok Tryz.prog ⟨21, [.ref 0], [dY c], [dY c, .box [.ref 2, iA 0], dY (bsD c)], .ptr 1 0⟩ := by
 by_cases h : c.length ≤ 2000
 ·have e : bsD c = c := bY3 h
  rw [e]
  refine j8.twice (a01 c h) (i := 0) _ rfl (by show (1 : Nat) ≤ 2; omega) rfl rfl rfl rfl fun ρ hρ j hj => ?_
  have hj : j < 2 := hj
  match j, hj with
  | 0, _ => rfl
  | 1, _ =>
   have hρ : ρ 2 = ρ 0 := hρ
   simp only [o7, bX2, bX6, bX3, Option.getD_some, It.res, AV.vals, AV.val, hρ]
 ·exact a00 c (by omega)
abbrev cdC (b : List UInt8) (j : Int) : j8 := ⟨47, [.ptr 0 0], [.box [.ref 1, iA j], dY b], [.box [.ref 1, iA (d8 b j).2], dY b, rI (d8 b j).1.vars, rI (d8 b j).1.arrays, rN (d8 b j).1.list], .agg [.ref 2, .ref 3, .ref 4]⟩
abbrev M0 (b : List UInt8) (j X : Int) (k : Nat) : List c7 × Int := rsD b ((x8 b j).2 + 1) (o0 b j).vars.length (o0 b j).arrays.length X k
section
variable {b : List UInt8} {j X : Int} {k : Nat}
theorem bN8 (hX : nm b (x8 b j).2 lnL = X) (hk : (k : Int) = X - 1) (h3 : ¬ X > 3) : (d8 b j).1.list = (M0 b j X k).1 ++ [⟨13, 0, 0, 0, 0⟩] ∧ (d8 b j).2 = (M0 b j X k).2 := by
 obtain rfl : k = (X - 1).toNat := by omega
 unfold d8 clD
 simp only [hX, if_neg h3]
 constructor <;> first | trivial | rfl
theorem bN7 (hX : nm b (x8 b j).2 lnL = X) (hk : (k : Int) = X - 1) (h3 : X > 3) (h : ¬ pk b (M0 b j X k).2 4 = 0) : (d8 b j).1.list = (M0 b j X k).1 ++ [⟨13, 0, 0, 0, 0⟩] ∧ (d8 b j).2 = (M0 b j X k).2 + 1 := by
 obtain rfl : k = (X - 1).toNat := by omega
 unfold M0 at h
 unfold d8 clD
 simp only [hX, if_pos h3, if_neg h]
 constructor <;> first | trivial | rfl
theorem bN6 (hX : nm b (x8 b j).2 lnL = X) (hk : (k : Int) = X - 1) (h3 : X > 3) (h : pk b (M0 b j X k).2 4 = 0) : (d8 b j).1.list = (((M0 b j X k).1 ++ [(⟨13, 0, 0, 0, 0⟩ : c7)]).set 0 ⟨1, 5, 1 + pk b ((M0 b j X k).2 + 1) 3, 0, 0⟩).set (X - 2).toNat ⟨10, 5, 1, 0, 0⟩ ∧ (d8 b j).2 = (M0 b j X k).2 + 1 + 1 := by
 obtain rfl : k = (X - 1).toNat := by omega
 unfold M0 at h
 unfold d8 clD
 simp only [hX, if_pos h3, if_pos h]
 constructor
 ·first | trivial | rfl
 ·exact (Int.add_assoc _ 1 1).symm
theorem pw3 (b : List UInt8) {i : Int} (h0 : 0 ≤ i) (h1 : i ≤ 1000000000) : IntKind.i64.wrap (1 + pk b i 3) = 1 + pk b i 3 := by
 have := X3 b (i := i) (m := 3) h0 h1
 exact w64 (by omega) (by omega)
theorem bJ2 (b : List UInt8) {j : Int} (X : Int) (r0 : 0 ≤ j) (r1 : j ≤ 10000000) (k : Nat) : (M0 b j X k).1.length = k ∧ (x8 b j).2 + 1 ≤ (M0 b j X k).2 ∧ (M0 b j X k).2 ≤ (x8 b j).2 + 1 + 5 * k :=
 bC0 b ((x8 b j).2 + 1) _ _ X k
end
abbrev aB3 (b : List UInt8) (j : Int) (X : Int) (k : Nat) := S4 b (M0 b j X k).snd (o0 b j).vars.length (o0 b j).arrays.length (k : Int) X
abbrev aB2 (b : List UInt8) (j : Int) : List It := [.box [.ref 1, iA (d8 b j).snd], dY b, .row 3 (D.ints (d8 b j).fst.vars), .row 3 (D.ints (d8 b j).fst.arrays), .row 60 (D.instrs (d8 b j).fst.list)]
abbrev aL6 : It := .box [.v (.slice none 0 0), .v (.slice none 0 0), .v (.slice none 0 0)]
abbrev as5 (b : List UInt8) (j : Int) : It := .row 3 (D.ints (o0 b j).arrays)
abbrev as4 (b : List UInt8) (j : Int) : It := .row 3 (D.ints (o0 b j).vars)
abbrev by1 (b : List UInt8) (j : Int) (X : Int) (k : Nat) : It := .row 60 (D.instrs ((((M0 b j X k).fst ++ ([c7.mk 13 0 0 0 0] ++ [])).set 0 (c7.mk 1 5 (1 + pk b ((M0 b j X k).snd + 1) 3) 0 0)).set (X - 2).toNat (c7.mk 10 5 1 0 0)))
abbrev a24 (b : List UInt8) (j : Int) (X : Int) (k : Nat) : It := .row 60 (D.instrs ((M0 b j X k).fst ++ ([c7.mk 13 0 0 0 0] ++ [])))
abbrev am9 (X : Int) (r0 : List (Nat × AV)) : List (Nat × AV) := (0, .ptr 0 0) :: (2, .ptr 2 0) :: (4, .ptr 5 0) :: (5, iA X) :: r0
abbrev ar9 (b : List UInt8) (j : Int) (r0 : List It) : List It := dY b :: aL6 :: as4 b j :: as5 b j :: .box [.ref 3, .ref 4, .ref 6] :: r0
theorem bg1 (b : List UInt8) (j X : Int) (hX : nm b (x8 b j).2 lnL = X) (r0 : 0 ≤ j) (r1 : j ≤ 10000000) : j8.ok Tryz.prog (cdC b j) := by
  have hbd := bo0 b r0 r1; have hnum : j8.ok Tryz.prog ⟨46, [.ptr 0 0, .ref 2], [.box [.ref 1, iA (x8 b j).2], dY b, dI lnL], [.box [.ref 1, iA ((x8 b j).2 + 1)], dY b, dI lnL], iA X⟩ := hX ▸ L6 b (x8 b j).2 lnL (List.cons_ne_nil _ _) (by omega) (by omega); refine I1 60 Tryz.func47 [.box [.ref 1, iA j], dY b] [(0, .ptr 0 0)] fun G => ?_; have hop : 1 ≤ X ∧ X ≤ 12 := hX ▸ bD9 b (by omega) (by omega); refine wp_seq (i9 G d9 [0, 1, 2] [.box [.ref 1, iA j], dY b, aL6] [(0, .ptr 0 0), (2, .ptr 2 0)] fun G => b0 (wp_seq (i9 G (t0 1 [0, 1] (ab6 b j (by assumption) (by assumption))) [0, 1, 2, 11, 12, 13, 19] [.box [.ref 1, iA (x8 b j).snd], dY b, aL6, as4 b j, as5 b j, .tree (D.stmts (o0 b j).body), .box [.ref 3, .ref 4, .tref 5]] [(0, .ptr 0 0), (2, .ptr 2 0), (3, .ptr 6 0)] fun G => b0 (wp_seq (i9 G d9 [0, 1, 2, 3, 4, 47] [.box [.ref 1, iA (x8 b j).snd], dY b, aL6, as4 b j, as5 b j, .box [.ref 3, .ref 4, .v (.slice none 0 0)]] [(0, .ptr 0 0), (2, .ptr 2 0), (4, .ptr 5 0)] fun G => b0 (wp_seq (i9 G (t0 2 [0, 1, 14] (j8.lend hnum [.no, .no, .row 3])) (rg 6) [.box [.ref 1, iA ((x8 b j).snd + 1)], dY b, aL6, as4 b j, as5 b j, .box [.ref 3, .ref 4, .v (.slice none 0 0)]] (am9 X []) fun G => b0 (wp_seq (wp_seq (F5 G d9 (am9 X [(6, iA 0)]) fun G => b0 (wp_block ?_))))))))))); obtain ⟨ρ, G⟩ := G.nil 6 60 (.instrs []) 5 [.box [.ref 1, iA ((x8 b j).snd + 1)], dY b, .box [.v (.slice none 0 0), .v (.slice none 0 0), .v (.slice none 0 0)], .row 3 (D.ints (o0 b j).vars), .row 3 (D.ints (o0 b j).arrays), .box [.ref 3, .ref 4, .ref 6]] (am9 X [(6, iA 0)]); refine v5 (κ := Nat) (fun k => (k : Int) ≤ X - 1) (fun k => (X - 1).toNat - k) (fun k => (.box [.ref 1, iA (M0 b j X k).2] :: (ar9 b j [.row 60 (.instrs (M0 b j X k).1)]))) (fun k => (am9 X [(6, iA k)])) 0 (by omega) (s4.at G _ _) ?_; clear G; intro k ρ a w hp G; replace G := s4.at G (.box [.ref 1, iA (M0 b j X k).snd] :: (ar9 b j [.row 60 (D.instrs (M0 b j X k).fst)])) (am9 X [(6, iA k)]); have hrs := bJ2 b X r0 r1 k; refine wp_seq (wp_seq (B5 G d9 [(20, bA (decide ((k : Int) < X - 1)))] [wO (X - 1)] (o1 (by omega)) fun G => b0 (rcD G (fun h0 q0 => ?_) fun h0 q0 => ?_)))
  ·
   refine wp_exit (t6 (t6 (t3 (b0 (wp_seq (J0 G d9 [0, 1, 2, 3, 4, 5, 39] (.box [.ref 1, iA (M0 b j X k).snd] :: (ar9 b j [a24 b j X k])) (am9 X []) (aP ((M0 b j X k).fst.length + ([c7.mk (13 : Int) (0 : Int) (0 : Int) (0 : Int) (0 : Int)] ++ []).length) 40 []) (aK (by simp only [bX1, bX8, bY2, bY9]; omega) bY1) fun G => b0 (wp_seq (wp_seq ?_)))))))); cases h1 : (decide (X > 3))
   · have q1 := W0 h1; refine l0 G (H4 (fc h1 fz) [(3, 0), (4, 0), (5, 0), (1006, 0)]) [(45, bA false)] fun G => b0 (rF G false (by kernel_rfl) (wp_skip (b0 (wp_seq (i9 G d9 [0, 1, 2, 3, 4, 6] [.box [.ref 1, iA (M0 b j X k).snd], dY b, .box (pL 3), as4 b j, as5 b j, a24 b j X k] [(2, .ptr 2 0)] fun G => b0 (wp_ret ?_)))))); exact I9 G [0, 1, 3, 4, 5] (by show _ = mR [0, 1, 3, 4, 5] (aB2 b j); unfold aB2; have e1 : ((d8 b j).snd : Int) = ((M0 b j X k).snd) := ((bN8 hX (by omega) (by omega)).2); have e2 : ((d8 b j).fst.list : List c7) = ((M0 b j X k).fst ++ ([c7.mk 13 0 0 0 0] ++ [])) := ((bN8 hX (by omega) (by omega)).1); (first | rw [e1, e2] | simp only [e1, e2]) <;> rfl)
   ·
    have q1 := V9 h1; refine i9 G (Q8 (E2 4 [0, 1] (o5 b ((M0 b j X k).snd) 4 (by omega) (by omega)) Q7) (fc h1 fz) [(3, 0), (4, 0), (5, 0), (1006, 0)]) (rg 7) (.box [.ref 1, iA ((M0 b j X k).snd + 1)] :: (ar9 b j [a24 b j X k])) (am9 X [(45, bA (pk b (M0 b j X k).snd 4 == 0))]) fun G => b0 (M4 G (fun h2 q2 => ?_) fun h2 q2 => ?_)
    · refine wp_skip (b0 (wp_seq (i9 G d9 [0, 1, 2, 3, 4, 6] [.box [.ref 1, iA ((M0 b j X k).snd + 1)], dY b, .box (pL 3), as4 b j, as5 b j, a24 b j X k] [(2, .ptr 2 0)] fun G => b0 (wp_ret ?_)))); exact I9 G [0, 1, 3, 4, 5] (by show _ = mR [0, 1, 3, 4, 5] (aB2 b j); unfold aB2; have e1 : ((d8 b j).snd : Int) = ((M0 b j X k).snd + 1) := ((bN7 hX (by omega) (by omega) (by omega)).2); have e2 : ((d8 b j).fst.list : List c7) = ((M0 b j X k).fst ++ ([c7.mk 13 0 0 0 0] ++ [])) := ((bN7 hX (by omega) (by omega) (by omega)).1); (first | rw [e1, e2] | simp only [e1, e2]) <;> rfl)
    · refine wp_seq (F4 G (t0 3 [0, 1] (o5 b ((M0 b j X k).snd + 1) 3 (by omega) (by omega))) [0, 1, 0, 4, 12, 28, 63, 127] (rg 7) (.box [.ref 1, iA ((M0 b j X k).snd + 1 + 1)] :: (ar9 b j [.row 60 (D.instrs (((M0 b j X k).fst ++ ([c7.mk 13 0 0 0 0] ++ [])).set 0 (c7.mk 1 5 (1 + pk b ((M0 b j X k).snd + 1) 3) 0 0)))])) [(2, .ptr 2 0), (4, .ptr 5 0), (5, iA X)] [wO ((1 : Int) + pk b ((M0 b j X k).snd + 1) (3 : Int)), (0 : Int) ≤ 0, (0 : Int) < (((M0 b j X k).fst ++ ([c7.mk (13 : Int) (0 : Int) (0 : Int) (0 : Int) (0 : Int)] ++ [])).length : Int), (0 : Nat) < ((M0 b j X k).fst ++ ([c7.mk (13 : Int) (0 : Int) (0 : Int) (0 : Int) (0 : Int)] ++ [])).length] ⟨(pw3 b (by omega) (by omega)), (by omega), (by simp [h0, h1, h2]), (by simp [h0, h1, h2]), bY1⟩ fun G => b0 (J0 G d9 (rg 7) (.box [.ref 1, iA ((M0 b j X k).snd + 1 + 1)] :: (ar9 b j [by1 b j X k])) [(2, .ptr 2 0), (4, .ptr 5 0)] [wO (X - 2), (0 : Int) ≤ X - 2, X - 2 < ((((M0 b j X k).fst ++ ([c7.mk (13 : Int) (0 : Int) (0 : Int) (0 : Int) (0 : Int)] ++ [])).set (0 : Nat) (c7.mk (1 : Int) (5 : Int) ((1 : Int) + pk b ((M0 b j X k).snd + 1) (3 : Int)) (0 : Int) (0 : Int))).length : Int), (X - 2).toNat < (((M0 b j X k).fst ++ ([c7.mk (13 : Int) (0 : Int) (0 : Int) (0 : Int) (0 : Int)] ++ [])).set (0 : Nat) (c7.mk (1 : Int) (5 : Int) ((1 : Int) + pk b ((M0 b j X k).snd + 1) (3 : Int)) (0 : Int) (0 : Int))).length] ⟨oW (by omega), (by omega), (by simp only [bX1, bX8, bY2, bY9]; omega), (by simp only [bX1, bX8, bY2, bY9]; omega), bY1⟩ fun G => b0 (wp_seq (i9 G d9 [0, 1, 2, 3, 4, 6] [.box [.ref 1, iA ((M0 b j X k).snd + 1 + 1)], dY b, .box (pL 3), as4 b j, as5 b j, by1 b j X k] [(2, .ptr 2 0)] fun G => b0 (wp_ret ?_))))); exact I9 G [0, 1, 3, 4, 5] (by show _ = mR [0, 1, 3, 4, 5] (aB2 b j); unfold aB2; have e1 : ((d8 b j).snd : Int) = ((M0 b j X k).snd + 1 + 1) := ((bN6 hX (by omega) (by omega) (by omega)).2); have e2 : ((d8 b j).fst.list : List c7) = ((((M0 b j X k).fst ++ ([c7.mk 13 0 0 0 0] ++ [])).set 0 (c7.mk 1 5 (1 + pk b ((M0 b j X k).snd + 1) 3) 0 0)).set (X - 2).toNat (c7.mk 10 5 1 0 0)) := ((bN6 hX (by omega) (by omega) (by omega)).1); (first | rw [e1, e2] | simp only [e1, e2]) <;> rfl)
  · refine wp_skip (b0 (wp_seq (wp_block (F4 G (t0 6 [0, 1, 3, 4, 6] (j8.lend (aZ3 b ((M0 b j X k).snd) ((o0 b j).vars) ((o0 b j).arrays) ((M0 b j X k).fst) ((k : Int)) X (by omega) (by omega) (by omega) (by omega)) [.no, .no, .row 3, .row 3, .row 60])) [0, 1, 0, 0, 0, 0, 60, 124, 255, 511, 1023] [0, 1, 2, 3, 4, 5, 71] (.box [.ref 1, iA (aB3 b j X k).snd] :: (ar9 b j [.row 60 (D.instrs ((M0 b j X k).fst ++ ([c7.mk (aB3 b j X k).fst.op (aB3 b j X k).fst.a (aB3 b j X k).fst.b (aB3 b j X k).fst.c (aB3 b j X k).fst.d] ++ [])))])) (am9 X [(6, iA k)]) (aP ((M0 b j X k).fst.length + ([c7.mk (S4 b (M0 b j X k).snd (o0 b j).vars.length (o0 b j).arrays.length (k : Int) X).fst.op (S4 b (M0 b j X k).snd (o0 b j).vars.length (o0 b j).arrays.length (k : Int) X).fst.a (S4 b (M0 b j X k).snd (o0 b j).vars.length (o0 b j).arrays.length (k : Int) X).fst.b (S4 b (M0 b j X k).snd (o0 b j).vars.length (o0 b j).arrays.length (k : Int) X).fst.c (S4 b (M0 b j X k).snd (o0 b j).vars.length (o0 b j).arrays.length (k : Int) X).fst.d] ++ []).length) 40 []) (aK (by simp only [bX1, bX8, bY2, bY9]; omega) bY1) fun G => i8 (b0 (B5 G d9 [(6, iA ((k : Int) + 1))] [wO ((k : Int) + 1)] (o1 (by omega)) fun G => b0 ?_)))))); exact J5 G (k + 1) (by assumption) (by omega) (rg 7)
end Go.Proofs.YtmokkddidcmglaaGreat
