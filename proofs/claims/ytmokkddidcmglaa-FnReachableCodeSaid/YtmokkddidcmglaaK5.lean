/- Part 5: functions on the way, plain laws. Conditions: as said. -/
import Derived.Test.YtmokkddidcmglaaK1
import Derived.Test.YtmokkddidcmglaaK2
import Derived.Test.YtmokkddidcmglaaK4
set_option maxRecDepth 100000
set_option maxHeartbeats 16000000
set_option linter.unusedVariables false
set_option linter.unusedSimpArgs false
open Bool renaming and_eq_true → bR6, not_eq_false' → bV2, not_eq_true' → bT6
open Inhabited renaming default → aK4
open List renaming all_eq_true → bS2, append_assoc → bV5, eq_nil_of_length_eq_zero → bU3, getD_eq_getElem?_getD → bR7, getElem?_append_left → bT3, getElem?_cons_zero → bV0, getElem?_eq_getElem → bo2, getElem?_eq_none → bT2, getElem?_eq_some_iff → bS0, getElem_mem → bS9, length_append → bR8, length_cons → bS1, length_nil → bS6, length_replicate → bT1, length_set → bU7, map_cons → bU0, mem_append → bS7, mem_cons_of_mem → bU4, mem_cons_self → bU5, mem_range → bU9, mem_singleton → bU1, range → bS8, replicate → a04, take → bS3, take_of_length_le → bT9
open Nat renaming le_refl → bS5, le_trans → bT4, lt_or_ge → bT8, zero_add → bV1, zero_le → bU8
open True renaming intro → bS4

namespace Go.Proofs.Ytmokkddidcmglaa
open Go Go.RowKit
abbrev stO (s : c6) : List It := [.tree (.exprs s.index.kids), .tree (.exprs s.value.kids), .tree (.stmts s.body), .tree (.stmts s.els)]
abbrev stA (s : c6) (r : Nat) : AV := .agg [iA s.kind, iA s.target, iA s.index.kind, iA s.index.value, .tref r, iA s.value.kind, iA s.value.value, .tref (r + 1), iA s.count, .tref (r + 2), .tref (r + 3)]
abbrev dsC (b : List UInt8) (vs ars : List Int) (bd : List c6) (d : Nat) (j n : Int) : j5 := ⟨98, [.ptr 0 0, pA 2, iA n], dwS b j vs ars bd, dwS b (z4 b vs.length ars.length d j).2 vs ars bd ++ stO (z4 b vs.length ars.length d j).1, stA (z4 b vs.length ars.length d j).1 5⟩
abbrev dbC (b : List UInt8) (vs ars : List Int) (bd : List c6) (d : Nat) (m : Nat) (j n c : Int) : j5 := ⟨60, [.ptr 0 0, pA 2, iA n, iA c], dwS b j vs ars bd, dwS b (D9 (z4 b vs.length ars.length d) m j).2 vs ars bd ++ [.tree (.stmts (D9 (z4 b vs.length ars.length d) m j).1)], .tref 5⟩
section
variable {b : List UInt8} {nv na d : Nat} {j : Int}
theorem a97 (h : nm b j G7 = 2) (h1 : 0 < (na : Int)) : z4 b nv na d j = soS b nv na (j + 1) := by
 cases d <;> (rw [z4, if_pos ⟨h, by omega⟩])
theorem bC2 (h : nm b j G7 = 3) (h1 : 0 < d) : z4 b nv na (d + 1) j = ifS b nv na (z4 b nv na d) (j + 1) := by
 rw [z4, if_neg (by omega), if_pos ⟨h, by omega⟩]
theorem bC0 (h : nm b j G7 = 4) (h1 : 0 < d) : z4 b nv na (d + 1) j = rpS b (z4 b nv na d) (j + 1) := by
 rw [z4, if_neg (by omega), if_neg (by omega), if_pos ⟨h, by omega⟩]
theorem Y2 (h : ¬ (nm b j G7 = 2 ∧ 0 < (na : Int))) (h1 : d < 2 ∨ (¬ nm b j G7 = 3 ∧ ¬ nm b j G7 = 4)) : z4 b nv na d j = dfS b nv na (nm b j G7) (j + 1) := by
 match d, h1 with
 | 0, _ => rw [z4, if_neg (by omega)]
 | d + 1, h1 => rw [z4, if_neg (by omega), if_neg (by omega), if_neg (by omega)]
theorem bz8 {kd : Int} (h : kd = 5) : dfS b nv na kd j = (⟨5, pk b j nv, noE, (t4 b nv na (j + 1)).1, 0, [], []⟩, (t4 b nv na (j + 1)).2) := by rw [dfS, if_pos h]
theorem aM8 {kd : Int} (h : ¬ kd = 5) : dfS b nv na kd j = (⟨1, pk b j nv, noE, (t4 b nv na (j + 1)).1, 0, [], []⟩, (t4 b nv na (j + 1)).2) := by rw [dfS, if_neg h]
end
section
variable (b : List UInt8) {j : Int}
theorem bQ6 (r0 : 0 ≤ j) (r1 : j ≤ 1000000000) : 0 ≤ nm b j ibL ∧ nm b j ibL ≤ 2 := az0 b (by simp) aT2 r0 r1
theorem bQ5 (r0 : 0 ≤ j) (r1 : j ≤ 1000000000) : 0 ≤ nm b j ieL ∧ nm b j ieL ≤ 2 := az0 b (by simp) aT0 r0 r1
theorem bM7 (r0 : 0 ≤ j) (r1 : j ≤ 1000000000) : 0 ≤ nm b j rbL ∧ nm b j rbL ≤ 2 := az0 b (by simp) aR0 r0 r1
theorem bq8 (d : Nat) : (d = 0 ∧ cS (d - 1) = 402 ∧ cS d ≤ 2010) ∨ cS d = 402 + 4 * cS (d - 1) := by
 cases d with
 | zero => exact .inl ⟨rfl, rfl, by decide⟩
 | succ d => exact .inr rfl
end
section
variable {b : List UInt8} {nv na d : Nat} {j : Int}
theorem aP6 (h : nm b j G7 = 3) (h1 : 1 < d) : z4 b nv na d j = ifS b nv na (z4 b nv na (d - 1)) (j + 1) := by
 match d, h1 with
 | d + 1, h1 => exact bC2 h (by omega)
theorem aP5 (h : nm b j G7 = 4) (h1 : 1 < d) : z4 b nv na d j = rpS b (z4 b nv na (d - 1)) (j + 1) := by
 match d, h1 with
 | d + 1, h1 => exact bC0 h (by omega)
end
abbrev br6 (b : List UInt8) (vs : List Int) (ars : List Int) (d : Nat) (j : Int) (k : Nat) := z4 b vs.length ars.length d (D9 (z4 b vs.length ars.length d) k j).snd
abbrev aG9 (n : Int) (c : Int) (r0 : List (Nat × AV)) : List (Nat × AV) := (0, .ptr 0 0) :: (2, iA n) :: (3, iA c) :: (5, .ptr 5 0) :: (8, .v (.slice none 0 0)) :: r0
theorem bm4 (b : List UInt8) (vs ars : List Int) (bd : List c6) (d m : Nat) (ih : ∀ (j n : Int), n = d → 0 ≤ j → j + cS d ≤ 600000000 → j5.ok Try.prog (dsC b vs ars bd d j n)) (j n c : Int) (hn : n = d) (hm : c = m) (hm2 : m ≤ 4) (B : Int) (hB : (m : Int) * cS d ≤ B) (r0 : 0 ≤ j) (r1 : j + B ≤ 600000000) : j5.ok Try.prog (dbC b vs ars bd d m j n c) := by
 refine F5 25 Try.func60 [.box [.ref 1, iA j], dY b, dI vs, dI ars, dT bd] [(0, .ptr 0 0), (1, pA 2), (2, iA n), (3, iA c)] fun G => ?_; have hc := al8 d; refine wp_seq (i7 G d8 (rg 6) [.box [.ref 1, iA j], dY b, dI vs, dI ars, dT bd, .box (pL 2)] (aG9 n c []) fun G => b0 (wp_seq (i7 G d8 (rg 7) [.box [.ref 1, iA j], dY b, dI vs, dI ars, dT bd, .box (pL 2), .tree (D.stmts [])] (aG9 n c [(9, .tref 6)]) fun G => b0 (wp_seq (wp_seq (D6 G d8 (aG9 n c [(9, .tref 6), (10, iA 0)]) fun G => b0 (wp_block ?_))))))); refine t6 (κ := Nat) (fun k => k ≤ m) (fun k => m - k) (fun k => [.box [.ref 1, iA (D9 (z4 b vs.length ars.length d) k j).2], dY b, dI vs, dI ars, dT bd, .box (pL 2), .tree (.stmts (D9 (z4 b vs.length ars.length d) k j).1)]) (fun k => [(0, .ptr 0 0), (2, iA n), (3, iA c), (5, .ptr 5 0), (8, .v (.slice none 0 0)), (9, .tref 6), (10, iA k)]) 0 (by omega) (s5.at G _ _) ?_; clear G; intro k ρ a w hp G; replace G := s5.at G [.box [.ref 1, iA (D9 (z4 b vs.length ars.length d) k j).snd], dY b, dI vs, dI ars, dT bd, .box (pL 2), .tree (D.stmts (D9 (z4 b vs.length ars.length d) k j).fst)] (aG9 n c [(9, .tref 6), (10, iA k)]); have hkb := bu7 b vs.length ars.length (k := j) (i := k) hB (by omega) r0 (by omega); have hkl : (D9 (z4 b vs.length ars.length d) k j).1.length = k := aE7 _ _ _; refine wp_seq (wp_seq (j7 G d8 [(14, bA (decide ((k : Int) < c)))] fun G => b0 (rcD G (fun h0 q0 => ?_) fun h0 q0 => ?_)))
 ·refine wp_exit (t3 (t3 (t2 (b0 (wp_seq (i7 G d8 [0, 1, 2, 3, 4, 6] [.box [.ref 1, iA (D9 (z4 b vs.length ars.length d) k j).snd], dY b, dI vs, dI ars, dT bd, .tree (D.stmts (D9 (z4 b vs.length ars.length d) k j).fst)] [(8, .tref 5)] fun G => b0 (wp_ret ?_))))))); exact D8 G (rg 6) (by show _ = mR (rg 6) [.box [.ref 1, iA (D9 (z4 b vs.length ars.length d) m j).snd], dY b, dI vs, dI ars, dT bd, .tree (D.stmts (D9 (z4 b vs.length ars.length d) m j).fst)]; rw [show m = k by omega] <;> rfl)
 ·refine wp_skip (b0 (wp_seq (wp_block (G4 G (r7 4 (rg 5) (ih ((D9 (z4 b vs.length ars.length d) k j).snd) n (by assumption) (by omega) (by have := bJ3 b vs.length ars.length (k := j) (i := k) hB (by omega) r0 (by omega); omega))) [0, 1, 2, 3, 4, 5, 55] [.box [.ref 1, iA (br6 b vs ars d j k).snd], dY b, dI vs, dI ars, dT bd, .box (pL 2), .tree (D.stmts ((D9 (z4 b vs.length ars.length d) k j).fst ++ [qzS (br6 b vs ars d j k).fst]))] (aG9 n c [(9, .tref 6), (10, iA k)]) (aP ((D9 (z4 b vs.length ars.length d) k j).fst.length + 1) 152 []) (aK (by omega) bS4) fun G => i8 (b0 (A0 G d8 [(10, iA ((k : Int) + 1))] [wO ((k : Int) + 1)] (o1 (by omega)) fun G => b0 ?_)))))); exact H9 G (k + 1) (by omega) (by omega) (rg 7) (by have e1 : ((D9 (z4 b vs.length ars.length d) (k + 1) j).fst : List c6) = ((D9 (z4 b vs.length ars.length d) k j).fst ++ [qzS (z4 b vs.length ars.length d (D9 (z4 b vs.length ars.length d) k j).snd).fst]) := (by show _ ++ [_] = _ ++ [_]; unfold qzS; rw [c8.eta, c8.eta, c6.eta]; done); (first | rw [e1] | simp only [e1]) <;> rfl)
abbrev ax3 (b : List UInt8) (vs : List Int) (ars : List Int) (d : Nat) (j : Int) := D9 (z4 b vs.length ars.length (d - 1)) (nm b (t4 b vs.length ars.length (j + 1)).snd ibL).toNat ((t4 b vs.length ars.length (j + 1)).snd + 1)
abbrev aX0 (b : List UInt8) (vs : List Int) (ars : List Int) (d : Nat) (j : Int) := D9 (z4 b vs.length ars.length (d - 1)) (nm b (ax3 b vs ars d j).snd ieL).toNat ((ax3 b vs ars d j).snd + 1)
abbrev O6 (b : List UInt8) (vs : List Int) (ars : List Int) (d : Nat) (j : Int) : AV := (.agg [iA (z4 b vs.length ars.length d j).fst.kind, iA (z4 b vs.length ars.length d j).fst.target, iA (z4 b vs.length ars.length d j).fst.index.kind, iA (z4 b vs.length ars.length d j).fst.index.value, .tref 5, iA (z4 b vs.length ars.length d j).fst.value.kind, iA (z4 b vs.length ars.length d j).fst.value.value, .tref 6, iA (z4 b vs.length ars.length d j).fst.count, .tref 7, .tref 8])
abbrev O5 (b : List UInt8) (vs : List Int) (ars : List Int) (bd : List c6) (d : Nat) (j : Int) : List It := [.box [.ref 1, iA (z4 b vs.length ars.length d j).snd], dY b, dI vs, dI ars, dT bd, .tree (D.exprs (z4 b vs.length ars.length d j).fst.index.kids), .tree (D.exprs (z4 b vs.length ars.length d j).fst.value.kids), .tree (D.stmts (z4 b vs.length ars.length d j).fst.body), .tree (D.stmts (z4 b vs.length ars.length d j).fst.els)]
abbrev ae8 : It := .box [iA 0, iA 0, iA 0, iA 0, .v (.slice none 0 0), iA 0, iA 0, .v (.slice none 0 0), iA 0, .v (.slice none 0 0), .v (.slice none 0 0)]
abbrev aW9 (b : List UInt8) (vs : List Int) (ars : List Int) (j : Int) : It := .box [iA 1, iA (pk b (j + 1) (vs.length : Int)), iA 0, iA 0, .v (.slice none 0 0), iA (t4 b vs.length ars.length (j + 1 + 1)).fst.kind, iA (t4 b vs.length ars.length (j + 1 + 1)).fst.value, .tref 7, iA 0, .v (.slice none 0 0), .v (.slice none 0 0)]
abbrev aW8 (b : List UInt8) (vs : List Int) (ars : List Int) (j : Int) : It := .box [iA 1, iA (pk b (j + 1) (vs.length : Int)), iA 0, iA 0, .v (.slice none 0 0), iA (t4 b vs.length ars.length (j + 1 + 1)).fst.kind, iA (t4 b vs.length ars.length (j + 1 + 1)).fst.value, .tref 6, iA 0, .v (.slice none 0 0), .v (.slice none 0 0)]
abbrev aW7 (b : List UInt8) (vs : List Int) (j : Int) : It := .box [iA 1, iA (pk b (j + 1) (vs.length : Int)), iA 0, iA 0, .v (.slice none 0 0), iA 0, iA 0, .v (.slice none 0 0), iA 0, .v (.slice none 0 0), .v (.slice none 0 0)]
abbrev ab7 (b : List UInt8) (vs : List Int) (ars : List Int) (j : Int) : It := .tree (D.exprs (t4 b vs.length ars.length (j + 1 + 1)).fst.kids)
abbrev T1 (b : List UInt8) (vs : List Int) (ars : List Int) (j : Int) : It := .box [.ref 1, iA (t4 b vs.length ars.length (j + 1 + 1)).snd]
abbrev aB2 : It := .box [iA 1, iA 0, iA 0, iA 0, .v (.slice none 0 0), iA 0, iA 0, .v (.slice none 0 0), iA 0, .v (.slice none 0 0), .v (.slice none 0 0)]
abbrev aV9 (b : List UInt8) (vs : List Int) (ars : List Int) (bd : List c6) (j : Int) (r0 : List It) : List It := .box [.ref 1, iA (t4 b vs.length ars.length (j + 1 + 1)).snd] :: dY b :: dI vs :: dI ars :: dT bd :: .box [iA 1, iA (pk b (j + 1) (vs.length : Int)), iA 0, iA 0, .tref 7, iA (t4 b vs.length ars.length (j + 1 + 1)).fst.kind, iA (t4 b vs.length ars.length (j + 1 + 1)).fst.value, .tref 6, iA 0, .tref 8, .tref 9] :: .tree (D.exprs (t4 b vs.length ars.length (j + 1 + 1)).fst.kids) :: .tree (D.exprs []) :: .tree (D.stmts []) :: r0
abbrev aV8 (b : List UInt8) (vs : List Int) (ars : List Int) (bd : List c6) (j : Int) (r0 : List It) : List It := .box [.ref 1, iA (t4 b vs.length ars.length (j + 1 + 1)).snd] :: dY b :: dI vs :: dI ars :: dT bd :: .box [iA 1, iA (pk b (j + 1) (vs.length : Int)), iA 0, iA 0, .tref 7, iA (t4 b vs.length ars.length (j + 1 + 1)).fst.kind, iA (t4 b vs.length ars.length (j + 1 + 1)).fst.value, .tref 6, iA 0, .tref 8, .v (.slice none 0 0)] :: .tree (D.exprs (t4 b vs.length ars.length (j + 1 + 1)).fst.kids) :: .tree (D.exprs []) :: r0
abbrev aV7 (b : List UInt8) (vs : List Int) (ars : List Int) (bd : List c6) (j : Int) (r0 : List It) : List It := .box [.ref 1, iA (t4 b vs.length ars.length (j + 1 + 1)).snd] :: dY b :: dI vs :: dI ars :: dT bd :: .box [iA 1, iA (pk b (j + 1) (vs.length : Int)), iA 0, iA 0, .tref 7, iA (t4 b vs.length ars.length (j + 1 + 1)).fst.kind, iA (t4 b vs.length ars.length (j + 1 + 1)).fst.value, .tref 6, iA 0, .v (.slice none 0 0), .v (.slice none 0 0)] :: .tree (D.exprs (t4 b vs.length ars.length (j + 1 + 1)).fst.kids) :: r0
abbrev R3 (r0 : List (Nat × AV)) : List (Nat × AV) := (0, .ptr 0 0) :: (4, .ptr 5 0) :: (6, .ptr 6 0) :: (8, .ptr 7 0) :: r0
abbrev aG8 (b : List UInt8) (vs : List Int) (ars : List Int) (d : Nat) (j : Int) (r0 : List It) : List It := .box [.ref 1, iA (D9 (z4 b vs.length ars.length (d - 1)) (nm b (j + 1 + 1) rbL).toNat (j + 1 + 1 + 1)).snd] :: dY b :: dI vs :: dI ars :: r0
abbrev ae4 (n : Int) (r0 : List (Nat × AV)) : List (Nat × AV) := (0, .ptr 0 0) :: (2, iA n) :: (4, .ptr 5 0) :: (6, .ptr 6 0) :: r0
abbrev N2 (b : List UInt8) (vs : List Int) (ars : List Int) (bd : List c6) (r0 : List It) : List It := dY b :: dI vs :: dI ars :: dT bd :: .box (pL 2) :: ae8 :: r0
abbrev aV6 (b : List UInt8) (vs : List Int) (ars : List Int) (j : Int) (r0 : List It) : List It := .tree (D.exprs (m7 b (vs.length : Int) (j + 1 + 1)).kids) :: .tree (D.exprs (t4 b vs.length ars.length (j + 1 + 1 + 2)).fst.kids) :: r0
theorem bb2 (b : List UInt8) (vs ars : List Int) (bd : List c6) (d : Nat) (hd : d ≤ 3) (ih : ∀ (j n c : Int), 1 < d → n = (d : Int) - 1 → 0 ≤ c → c ≤ 2 → 0 ≤ j → j + 2 * cS (d - 1) ≤ 600000000 → j5.ok Try.prog (dbC b vs ars bd (d - 1) c.toNat j n c)) (j n : Int) (hn : n = d) (r0 : 0 ≤ j) (r1 : j + cS d ≤ 600000000) : j5.ok Try.prog (dsC b vs ars bd d j n) := by
  refine F5 100 Try.func98 [.box [.ref 1, iA j], dY b, dI vs, dI ars, dT bd] [(0, .ptr 0 0), (1, pA 2), (2, iA n)] fun G => ?_; have hc := al8 (d - 1); have hcd := bq8 d; have hcn := al8 d; have hsm := aY1 b vs.length ars.length (k := j + 1) (by omega) (by omega); have hib := bQ6 b (j := (t4 b vs.length ars.length (j + 1)).2) (by omega) (by omega); have hbb := bu7 b vs.length ars.length (k := (t4 b vs.length ars.length (j + 1)).2 + 1) (i := (nm b (t4 b vs.length ars.length (j + 1)).2 ibL).toNat) (bE9 hib.1 hib.2 (show 0 ≤ cS (d - 1) by omega)) (bS5 _) (by omega) (by omega); have hie := bQ5 b (j := (D9 (z4 b vs.length ars.length (d - 1)) (nm b (t4 b vs.length ars.length (j + 1)).2 ibL).toNat ((t4 b vs.length ars.length (j + 1)).2 + 1)).2) (by omega) (by omega); have hrb := bM7 b (j := j + 1 + 1) (by omega) (by omega); refine wp_seq (i7 G d8 [0, 1, 2, 3, 4, 5, 13] (.box [.ref 1, iA j] :: (N2 b vs ars bd [])) (ae4 n []) fun G => b0 (wp_seq (i7 G (r7 2 [0, 1, 15] (j5.lend (H3 b j G7 (List.cons_ne_nil _ _) (by assumption) (by omega)) [.no, .no, .row 3])) (rg 7) (.box [.ref 1, iA (j + 1)] :: (N2 b vs ars bd [])) (ae4 n [(7, iA (nm b j G7))]) fun G => b0 (wp_seq (i7 G d8 [0, 1, 2, 3, 4, 5, 6, 23] (.box [.ref 1, iA (j + 1)] :: (N2 b vs ars bd [.box [iA (nm b j G7), iA 0, iA 0, iA 0, .v (.slice none 0 0), iA 0, iA 0, .v (.slice none 0 0), iA 0, .v (.slice none 0 0), .v (.slice none 0 0)]])) (ae4 n [(7, iA (nm b j G7)), (8, .ptr 7 0)]) fun G => b0 (wp_seq (wp_block (wp_seq ?_)))))))); cases h0 : (nm b j G7 == 2)
  ·
   have q0 := ne_of_beq_false h0; refine j7 G (E7 (fc h0 fz) (us [(3, 6, 0), (1007, 1007, 0)])) [(27, bA false)] fun G => b0 (rF G false (by kernel_rfl) (wp_seq ?_)); cases h1 : (nm b j G7 == 3)
   ·
    have q1 := ne_of_beq_false h1; refine j7 G (E7 (fc h1 fz) [(3, 0), (4, 0), (1005, 0)]) [(50, bA false)] fun G => b0 (rF G false (by kernel_rfl) (wp_seq ?_)); cases h2 : (nm b j G7 == 4)
    ·
     have q2 := ne_of_beq_false h2; refine j7 G (E7 (fc h2 fz) [(3, 0), (4, 0), (1005, 0)]) [(79, bA false)] fun G => b0 (rF G false (by kernel_rfl) (wp_seq (wp_seq (j7 G d8 [(15, bA (nm b j G7 != 5))] fun G => b0 (rcN G (fun h3 q3 => ?_) fun h3 q3 => ?_)))))
     · refine wp_skip (b0 (wp_seq (i7 G (r7 4 [0, 1] (n5 b (j + 1) ((vs.length : Int)) (by omega) (by omega))) (rg 8) (.box [.ref 1, iA (j + 1 + 1)] :: (N2 b vs ars bd [.box [iA (nm b j G7), iA (pk b (j + 1) (vs.length : Int)), iA 0, iA 0, .v (.slice none 0 0), iA 0, iA 0, .v (.slice none 0 0), iA 0, .v (.slice none 0 0), .v (.slice none 0 0)]])) (R3 []) fun G => b0 (i7 G (r7 2 (rg 5) (V7 b vs ars bd (j + 1 + 1) (by omega) (by omega))) [0, 1, 2, 3, 4, 6, 7, 24] [T1 b vs ars j, dY b, dI vs, dI ars, dT bd, ae8, .box [iA (nm b j G7), iA (pk b (j + 1) (vs.length : Int)), iA 0, iA 0, .v (.slice none 0 0), iA (t4 b vs.length ars.length (j + 1 + 1)).fst.kind, iA (t4 b vs.length ars.length (j + 1 + 1)).fst.value, .tref 7, iA 0, .v (.slice none 0 0), .v (.slice none 0 0)], ab7 b vs ars j] [(6, .ptr 5 0), (8, .ptr 6 0)] fun G => i8 (b0 (wp_seq (i7 G d8 [0, 1, 2, 3, 4, 5, 7] [T1 b vs ars j, dY b, dI vs, dI ars, dT bd, .box [iA (nm b j G7), iA (pk b (j + 1) (vs.length : Int)), iA 0, iA 0, .v (.slice none 0 0), iA (t4 b vs.length ars.length (j + 1 + 1)).fst.kind, iA (t4 b vs.length ars.length (j + 1 + 1)).fst.value, .tref 6, iA 0, .v (.slice none 0 0), .v (.slice none 0 0)], ab7 b vs ars j] [(6, .ptr 5 0)] fun G => b0 (wp_ret ?_)))))))); obtain ⟨ρ, G⟩ := G.nilT 7 (.exprs []) [.box [.ref 1, iA (t4 b vs.length ars.length (j + 1 + 1)).snd], dY b, dI vs, dI ars, dT bd, .box [iA (nm b j G7), iA (pk b (j + 1) (vs.length : Int)), iA 0, iA 0, .tref 7, iA (t4 b vs.length ars.length (j + 1 + 1)).fst.kind, iA (t4 b vs.length ars.length (j + 1 + 1)).fst.value, .tref 6, iA 0, .v (.slice none 0 0), .v (.slice none 0 0)], .tree (D.exprs (t4 b vs.length ars.length (j + 1 + 1)).fst.kids)] [(6, .ptr 5 0)]; obtain ⟨ρ, G⟩ := G.nilT 8 (.stmts []) [.box [.ref 1, iA (t4 b vs.length ars.length (j + 1 + 1)).snd], dY b, dI vs, dI ars, dT bd, .box [iA (nm b j G7), iA (pk b (j + 1) (vs.length : Int)), iA 0, iA 0, .tref 7, iA (t4 b vs.length ars.length (j + 1 + 1)).fst.kind, iA (t4 b vs.length ars.length (j + 1 + 1)).fst.value, .tref 6, iA 0, .tref 8, .v (.slice none 0 0)], .tree (D.exprs (t4 b vs.length ars.length (j + 1 + 1)).fst.kids), .tree (D.exprs [])] [(6, .ptr 5 0)]; obtain ⟨ρ, G⟩ := G.nilT 9 (.stmts []) [.box [.ref 1, iA (t4 b vs.length ars.length (j + 1 + 1)).snd], dY b, dI vs, dI ars, dT bd, .box [iA (nm b j G7), iA (pk b (j + 1) (vs.length : Int)), iA 0, iA 0, .tref 7, iA (t4 b vs.length ars.length (j + 1 + 1)).fst.kind, iA (t4 b vs.length ars.length (j + 1 + 1)).fst.value, .tref 6, iA 0, .tref 8, .tref 9], .tree (D.exprs (t4 b vs.length ars.length (j + 1 + 1)).fst.kids), .tree (D.exprs []), .tree (D.stmts [])] [(6, .ptr 5 0)]; exact Q1 (.agg [iA (nm b j G7), iA (pk b (j + 1) (vs.length : Int)), iA 0, iA 0, .tref 7, iA (t4 b vs.length ars.length (j + 1 + 1)).fst.kind, iA (t4 b vs.length ars.length (j + 1 + 1)).fst.value, .tref 6, iA 0, .tref 8, .tref 9]) G [0, 1, 2, 3, 4, 7, 6, 8, 9] (by show _ = AV.ren (nth [0, 1, 2, 3, 4, 7, 6, 8, 9]) (O6 b vs ars d j); unfold O6; have e1 : ((z4 b vs.length ars.length d j).fst.kind : Int) = (nm b j G7) := (by rw [Y2 (by omega) (by omega), bz8 (by omega)]; show (5 : Int) = _; omega); rw [e1, Y2 (by omega) (by omega), bz8 (by omega)] <;> rfl) (by show _ = mR [0, 1, 2, 3, 4, 7, 6, 8, 9] (O5 b vs ars bd d j); unfold O5; rw [Y2 (by omega) (by omega), bz8 (by omega)] <;> rfl)
     · refine i7 G d8 (rg 8) (.box [.ref 1, iA (j + 1)] :: (N2 b vs ars bd [aB2])) (R3 []) fun G => b0 (wp_seq (i7 G (r7 4 [0, 1] (n5 b (j + 1) ((vs.length : Int)) (by omega) (by omega))) (rg 8) (.box [.ref 1, iA (j + 1 + 1)] :: (N2 b vs ars bd [aW7 b vs j])) (R3 []) fun G => b0 (i7 G (r7 2 (rg 5) (V7 b vs ars bd (j + 1 + 1) (by omega) (by omega))) [0, 1, 2, 3, 4, 6, 7, 24] [T1 b vs ars j, dY b, dI vs, dI ars, dT bd, ae8, aW9 b vs ars j, ab7 b vs ars j] [(6, .ptr 5 0), (8, .ptr 6 0)] fun G => i8 (b0 (wp_seq (i7 G d8 [0, 1, 2, 3, 4, 5, 7] [T1 b vs ars j, dY b, dI vs, dI ars, dT bd, aW8 b vs ars j, ab7 b vs ars j] [(6, .ptr 5 0)] fun G => b0 (wp_ret ?_))))))); obtain ⟨ρ, G⟩ := G.nilT 7 (.exprs []) (aV7 b vs ars bd j []) [(6, .ptr 5 0)]; obtain ⟨ρ, G⟩ := G.nilT 8 (.stmts []) (aV8 b vs ars bd j []) [(6, .ptr 5 0)]; obtain ⟨ρ, G⟩ := G.nilT 9 (.stmts []) (aV9 b vs ars bd j []) [(6, .ptr 5 0)]; exact Q1 (.agg [iA 1, iA (pk b (j + 1) (vs.length : Int)), iA 0, iA 0, .tref 7, iA (t4 b vs.length ars.length (j + 1 + 1)).fst.kind, iA (t4 b vs.length ars.length (j + 1 + 1)).fst.value, .tref 6, iA 0, .tref 8, .tref 9]) G [0, 1, 2, 3, 4, 7, 6, 8, 9] (by show _ = AV.ren (nth [0, 1, 2, 3, 4, 7, 6, 8, 9]) (O6 b vs ars d j); unfold O6; rw [Y2 (by omega) (by omega), aM8 (by omega)] <;> rfl) (by show _ = mR [0, 1, 2, 3, 4, 7, 6, 8, 9] (O5 b vs ars bd d j); unfold O5; rw [Y2 (by omega) (by omega), aM8 (by omega)] <;> rfl)
    ·
     have q2 := eq_of_beq h2; refine j7 G (E7 (fc h2 fz) [(3, 0), (4, 0), (1005, 0)]) [(79, bA (decide (n > 1)))] fun G => b0 (rcD G (fun h4 q4 => ?_) fun h4 q4 => ?_)
     ·
      refine wp_seq (wp_seq (D6 G d8 (R3 [(15, bA (nm b j G7 != 5))]) fun G => b0 ?_)); cases h5 : (nm b j G7 != 5)
      · have q5 := bne_eq_false_iff_eq.1 h5; exact False.elim (by omega)
      · have q5 := bne_iff_ne.1 h5; refine rT G _ h5 (i7 G d8 (rg 8) (.box [.ref 1, iA (j + 1)] :: (N2 b vs ars bd [aB2])) (R3 []) fun G => b0 (wp_seq (i7 G (r7 4 [0, 1] (n5 b (j + 1) ((vs.length : Int)) (by omega) (by omega))) (rg 8) (.box [.ref 1, iA (j + 1 + 1)] :: (N2 b vs ars bd [aW7 b vs j])) (R3 []) fun G => b0 (i7 G (r7 2 (rg 5) (V7 b vs ars bd (j + 1 + 1) (by omega) (by omega))) [0, 1, 2, 3, 4, 6, 7, 24] [T1 b vs ars j, dY b, dI vs, dI ars, dT bd, ae8, aW9 b vs ars j, ab7 b vs ars j] [(6, .ptr 5 0), (8, .ptr 6 0)] fun G => i8 (b0 (wp_seq (i7 G d8 [0, 1, 2, 3, 4, 5, 7] [T1 b vs ars j, dY b, dI vs, dI ars, dT bd, aW8 b vs ars j, ab7 b vs ars j] [(6, .ptr 5 0)] fun G => b0 (wp_ret ?_)))))))); obtain ⟨ρ, G⟩ := G.nilT 7 (.exprs []) (aV7 b vs ars bd j []) [(6, .ptr 5 0)]; obtain ⟨ρ, G⟩ := G.nilT 8 (.stmts []) (aV8 b vs ars bd j []) [(6, .ptr 5 0)]; obtain ⟨ρ, G⟩ := G.nilT 9 (.stmts []) (aV9 b vs ars bd j []) [(6, .ptr 5 0)]; exact Q1 (.agg [iA 1, iA (pk b (j + 1) (vs.length : Int)), iA 0, iA 0, .tref 7, iA (t4 b vs.length ars.length (j + 1 + 1)).fst.kind, iA (t4 b vs.length ars.length (j + 1 + 1)).fst.value, .tref 6, iA 0, .tref 8, .tref 9]) G [0, 1, 2, 3, 4, 7, 6, 8, 9] (by show _ = AV.ren (nth [0, 1, 2, 3, 4, 7, 6, 8, 9]) (O6 b vs ars d j); unfold O6; rw [Y2 (by omega) (by omega), aM8 (by omega)] <;> rfl) (by show _ = mR [0, 1, 2, 3, 4, 7, 6, 8, 9] (O5 b vs ars bd d j); unfold O5; rw [Y2 (by omega) (by omega), aM8 (by omega)] <;> rfl)
     · refine wp_seq (i7 G (r7 2 [0, 1, 16] (j5.lend (H3 b (j + 1) rcL (by simp [h0, h1, h2, h4]) (by omega) (by omega)) [.no, .no, .row 3])) (rg 8) (.box [.ref 1, iA (j + 1 + 1)] :: (N2 b vs ars bd [.box [iA (nm b j G7), iA 0, iA 0, iA 0, .v (.slice none 0 0), iA 0, iA 0, .v (.slice none 0 0), iA (nm b (j + 1) rcL), .v (.slice none 0 0), .v (.slice none 0 0)]])) (ae4 n [(8, .ptr 7 0)]) fun G => b0 (C8 G (K9 (A2 6 [0, 1, 48] (j5.lend (H3 b (j + 1 + 1) rbL (by simp [h0, h1, h2, h4]) (by omega) (by omega)) [.no, .no, .row 3]) (A2 7 (rg 5) (ih (j + 1 + 1 + 1) (n - 1) (nm b (j + 1 + 1) rbL) (by omega) (by omega) (by omega) (by omega) (by omega) (by omega)) K8)) fz []) [0, 0, 0, 4, 0, 0, 48, 127, 255, 511] [0, 1, 2, 3, 4, 6, 7, 64] (aG8 b vs ars d j [dT bd, ae8, .box [iA (nm b j G7), iA 0, iA 0, iA 0, .v (.slice none 0 0), iA 0, iA 0, .v (.slice none 0 0), iA (nm b (j + 1) rcL), .tref 7, .v (.slice none 0 0)], .tree (D.stmts (D9 (z4 b vs.length ars.length (d - 1)) (nm b (j + 1 + 1) rbL).toNat (j + 1 + 1 + 1)).fst)]) [(6, .ptr 5 0), (8, .ptr 6 0)] [wO (n - 1)] (o1 (by omega)) fun G => i8 (b0 (wp_seq (i7 G d8 [0, 1, 2, 3, 4, 5, 7] (aG8 b vs ars d j [dT bd, .box [iA (nm b j G7), iA 0, iA 0, iA 0, .v (.slice none 0 0), iA 0, iA 0, .v (.slice none 0 0), iA (nm b (j + 1) rcL), .tref 6, .v (.slice none 0 0)], .tree (D.stmts (D9 (z4 b vs.length ars.length (d - 1)) (nm b (j + 1 + 1) rbL).toNat (j + 1 + 1 + 1)).fst)]) [(6, .ptr 5 0)] fun G => b0 (wp_ret ?_)))))); obtain ⟨ρ, G⟩ := G.nilT 7 (.exprs []) (aG8 b vs ars d j [dT bd, .box [iA (nm b j G7), iA 0, iA 0, iA 0, .tref 7, iA 0, iA 0, .v (.slice none 0 0), iA (nm b (j + 1) rcL), .tref 6, .v (.slice none 0 0)], .tree (D.stmts (D9 (z4 b vs.length ars.length (d - 1)) (nm b (j + 1 + 1) rbL).toNat (j + 1 + 1 + 1)).fst)]) [(6, .ptr 5 0)]; obtain ⟨ρ, G⟩ := G.nilT 8 (.exprs []) (aG8 b vs ars d j [dT bd, .box [iA (nm b j G7), iA 0, iA 0, iA 0, .tref 7, iA 0, iA 0, .tref 8, iA (nm b (j + 1) rcL), .tref 6, .v (.slice none 0 0)], .tree (D.stmts (D9 (z4 b vs.length ars.length (d - 1)) (nm b (j + 1 + 1) rbL).toNat (j + 1 + 1 + 1)).fst), .tree (D.exprs [])]) [(6, .ptr 5 0)]; obtain ⟨ρ, G⟩ := G.nilT 9 (.stmts []) (aG8 b vs ars d j [dT bd, .box [iA (nm b j G7), iA 0, iA 0, iA 0, .tref 7, iA 0, iA 0, .tref 8, iA (nm b (j + 1) rcL), .tref 6, .tref 9], .tree (D.stmts (D9 (z4 b vs.length ars.length (d - 1)) (nm b (j + 1 + 1) rbL).toNat (j + 1 + 1 + 1)).fst), .tree (D.exprs []), .tree (D.exprs [])]) [(6, .ptr 5 0)]; exact Q1 (.agg [iA (nm b j G7), iA 0, iA 0, iA 0, .tref 7, iA 0, iA 0, .tref 8, iA (nm b (j + 1) rcL), .tref 6, .tref 9]) G [0, 1, 2, 3, 4, 7, 8, 6, 9] (by show _ = AV.ren (nth [0, 1, 2, 3, 4, 7, 8, 6, 9]) (O6 b vs ars d j); unfold O6; have e1 : ((z4 b vs.length ars.length d j).fst.kind : Int) = (nm b j G7) := (by rw [aP5 (by omega) (by omega)]; show (4 : Int) = _; omega); rw [e1, aP5 (by omega) (by omega)] <;> rfl) (by show _ = mR [0, 1, 2, 3, 4, 7, 8, 6, 9] (O5 b vs ars bd d j); unfold O5; rw [aP5 (by omega) (by omega)] <;> rfl)
   ·
    have q1 := eq_of_beq h1; refine D6 G (E7 (fc h1 fz) [(3, 0), (4, 0), (1005, 0)]) (ae4 n [(7, iA (nm b j G7)), (8, .ptr 7 0), (50, bA (decide (n > 1)))]) fun G => b0 (rcD G (fun h6 q6 => ?_) fun h6 q6 => ?_)
    ·
     refine wp_seq ?_; cases h7 : (nm b j G7 == 4)
     ·
      have q7 := ne_of_beq_false h7; refine j7 G (E7 (fc h7 fz) [(3, 0), (4, 0), (1005, 0)]) [(79, bA false)] fun G => b0 (rF G false (by kernel_rfl) (wp_seq (wp_seq (D6 G d8 (R3 [(15, bA (nm b j G7 != 5))]) fun G => b0 ?_)))); cases h8 : (nm b j G7 != 5)
      · have q8 := bne_eq_false_iff_eq.1 h8; exact False.elim (by omega)
      · have q8 := bne_iff_ne.1 h8; refine rT G _ h8 (i7 G d8 (rg 8) (.box [.ref 1, iA (j + 1)] :: (N2 b vs ars bd [aB2])) (R3 []) fun G => b0 (wp_seq (i7 G (r7 4 [0, 1] (n5 b (j + 1) ((vs.length : Int)) (by omega) (by omega))) (rg 8) (.box [.ref 1, iA (j + 1 + 1)] :: (N2 b vs ars bd [aW7 b vs j])) (R3 []) fun G => b0 (i7 G (r7 2 (rg 5) (V7 b vs ars bd (j + 1 + 1) (by omega) (by omega))) [0, 1, 2, 3, 4, 6, 7, 24] [T1 b vs ars j, dY b, dI vs, dI ars, dT bd, ae8, aW9 b vs ars j, ab7 b vs ars j] [(6, .ptr 5 0), (8, .ptr 6 0)] fun G => i8 (b0 (wp_seq (i7 G d8 [0, 1, 2, 3, 4, 5, 7] [T1 b vs ars j, dY b, dI vs, dI ars, dT bd, aW8 b vs ars j, ab7 b vs ars j] [(6, .ptr 5 0)] fun G => b0 (wp_ret ?_)))))))); obtain ⟨ρ, G⟩ := G.nilT 7 (.exprs []) (aV7 b vs ars bd j []) [(6, .ptr 5 0)]; obtain ⟨ρ, G⟩ := G.nilT 8 (.stmts []) (aV8 b vs ars bd j []) [(6, .ptr 5 0)]; obtain ⟨ρ, G⟩ := G.nilT 9 (.stmts []) (aV9 b vs ars bd j []) [(6, .ptr 5 0)]; exact Q1 (.agg [iA 1, iA (pk b (j + 1) (vs.length : Int)), iA 0, iA 0, .tref 7, iA (t4 b vs.length ars.length (j + 1 + 1)).fst.kind, iA (t4 b vs.length ars.length (j + 1 + 1)).fst.value, .tref 6, iA 0, .tref 8, .tref 9]) G [0, 1, 2, 3, 4, 7, 6, 8, 9] (by show _ = AV.ren (nth [0, 1, 2, 3, 4, 7, 6, 8, 9]) (O6 b vs ars d j); unfold O6; rw [Y2 (by omega) (by omega), aM8 (by omega)] <;> rfl) (by show _ = mR [0, 1, 2, 3, 4, 7, 6, 8, 9] (O5 b vs ars bd d j); unfold O5; rw [Y2 (by omega) (by omega), aM8 (by omega)] <;> rfl)
     · have q7 := eq_of_beq h7; exact False.elim (by omega)
    ·
     refine wp_seq (i7 G (r7 2 (rg 5) (V7 b vs ars bd (j + 1) (by omega) (by omega))) [0, 1, 2, 3, 4, 5, 6, 7, 24] (.box [.ref 1, iA (t4 b vs.length ars.length (j + 1)).snd] :: (N2 b vs ars bd [.box [iA (nm b j G7), iA 0, iA 0, iA 0, .v (.slice none 0 0), iA (t4 b vs.length ars.length (j + 1)).fst.kind, iA (t4 b vs.length ars.length (j + 1)).fst.value, .tref 8, iA 0, .v (.slice none 0 0), .v (.slice none 0 0)], .tree (D.exprs (t4 b vs.length ars.length (j + 1)).fst.kids)])) (ae4 n [(8, .ptr 7 0)]) fun G => b0 (wp_seq (C8 G (K9 (A2 6 [0, 1, 49] (j5.lend (H3 b ((t4 b vs.length ars.length (j + 1)).snd) ibL (by simp [h0, h1, h6]) (by omega) (by omega)) [.no, .no, .row 3]) (A2 7 (rg 5) (ih ((t4 b vs.length ars.length (j + 1)).snd + 1) (n - 1) (nm b (t4 b vs.length ars.length (j + 1)).snd ibL) (by omega) (by omega) (by omega) (by omega) (by omega) (by omega)) K8)) fz []) [0, 0, 0, 4, 0, 0, 48, 127, 255, 511] [0, 1, 2, 3, 4, 5, 6, 7, 8, 65] (.box [.ref 1, iA (ax3 b vs ars d j).snd] :: (N2 b vs ars bd [.box [iA (nm b j G7), iA 0, iA 0, iA 0, .v (.slice none 0 0), iA (t4 b vs.length ars.length (j + 1)).fst.kind, iA (t4 b vs.length ars.length (j + 1)).fst.value, .tref 8, iA 0, .tref 9, .v (.slice none 0 0)], .tree (D.exprs (t4 b vs.length ars.length (j + 1)).fst.kids), .tree (D.stmts (ax3 b vs ars d j).fst)])) (ae4 n [(8, .ptr 7 0)]) [wO (n - 1)] (o1 (by omega)) fun G => b0 (C8 G (K9 (A2 6 [0, 1, 50] (j5.lend (H3 b ((D9 (z4 b vs.length ars.length (d - 1)) (nm b (t4 b vs.length ars.length (j + 1)).snd ibL).toNat ((t4 b vs.length ars.length (j + 1)).snd + 1)).snd) ieL (by simp [h0, h1, h6]) (by omega) (by omega)) [.no, .no, .row 3]) (A2 7 (rg 5) (ih ((D9 (z4 b vs.length ars.length (d - 1)) (nm b (t4 b vs.length ars.length (j + 1)).snd ibL).toNat ((t4 b vs.length ars.length (j + 1)).snd + 1)).snd + 1) (n - 1) (nm b (D9 (z4 b vs.length ars.length (d - 1)) (nm b (t4 b vs.length ars.length (j + 1)).snd ibL).toNat ((t4 b vs.length ars.length (j + 1)).snd + 1)).snd ieL) (by omega) (by omega) (by omega) (by omega) (by omega) (by omega)) K8)) fz []) [0, 0, 0, 4, 0, 0, 48, 127, 255, 511] [0, 1, 2, 3, 4, 6, 7, 8, 9, 66] [.box [.ref 1, iA (aX0 b vs ars d j).snd], dY b, dI vs, dI ars, dT bd, ae8, .box [iA (nm b j G7), iA 0, iA 0, iA 0, .v (.slice none 0 0), iA (t4 b vs.length ars.length (j + 1)).fst.kind, iA (t4 b vs.length ars.length (j + 1)).fst.value, .tref 7, iA 0, .tref 8, .tref 9], .tree (D.exprs (t4 b vs.length ars.length (j + 1)).fst.kids), .tree (D.stmts (ax3 b vs ars d j).fst), .tree (D.stmts (aX0 b vs ars d j).fst)] [(6, .ptr 5 0), (8, .ptr 6 0)] [wO (n - 1)] (o1 (by omega)) fun G => i8 (b0 (wp_seq (i7 G d8 [0, 1, 2, 3, 4, 5, 7, 8, 9] [.box [.ref 1, iA (aX0 b vs ars d j).snd], dY b, dI vs, dI ars, dT bd, .box [iA (nm b j G7), iA 0, iA 0, iA 0, .v (.slice none 0 0), iA (t4 b vs.length ars.length (j + 1)).fst.kind, iA (t4 b vs.length ars.length (j + 1)).fst.value, .tref 6, iA 0, .tref 7, .tref 8], .tree (D.exprs (t4 b vs.length ars.length (j + 1)).fst.kids), .tree (D.stmts (ax3 b vs ars d j).fst), .tree (D.stmts (aX0 b vs ars d j).fst)] [(6, .ptr 5 0)] fun G => b0 (wp_ret ?_)))))))); obtain ⟨ρ, G⟩ := G.nilT 9 (.exprs []) [.box [.ref 1, iA (D9 (z4 b vs.length ars.length (d - 1)) (nm b (D9 (z4 b vs.length ars.length (d - 1)) (nm b (t4 b vs.length ars.length (j + 1)).snd ibL).toNat ((t4 b vs.length ars.length (j + 1)).snd + 1)).snd ieL).toNat ((D9 (z4 b vs.length ars.length (d - 1)) (nm b (t4 b vs.length ars.length (j + 1)).snd ibL).toNat ((t4 b vs.length ars.length (j + 1)).snd + 1)).snd + 1)).snd], dY b, dI vs, dI ars, dT bd, .box [iA (nm b j G7), iA 0, iA 0, iA 0, .tref 9, iA (t4 b vs.length ars.length (j + 1)).fst.kind, iA (t4 b vs.length ars.length (j + 1)).fst.value, .tref 6, iA 0, .tref 7, .tref 8], .tree (D.exprs (t4 b vs.length ars.length (j + 1)).fst.kids), .tree (D.stmts (D9 (z4 b vs.length ars.length (d - 1)) (nm b (t4 b vs.length ars.length (j + 1)).snd ibL).toNat ((t4 b vs.length ars.length (j + 1)).snd + 1)).fst), .tree (D.stmts (D9 (z4 b vs.length ars.length (d - 1)) (nm b (D9 (z4 b vs.length ars.length (d - 1)) (nm b (t4 b vs.length ars.length (j + 1)).snd ibL).toNat ((t4 b vs.length ars.length (j + 1)).snd + 1)).snd ieL).toNat ((D9 (z4 b vs.length ars.length (d - 1)) (nm b (t4 b vs.length ars.length (j + 1)).snd ibL).toNat ((t4 b vs.length ars.length (j + 1)).snd + 1)).snd + 1)).fst)] [(6, .ptr 5 0)]
     exact Q1 (.agg [iA (nm b j G7), iA 0, iA 0, iA 0, .tref 9, iA (t4 b vs.length ars.length (j + 1)).fst.kind, iA (t4 b vs.length ars.length (j + 1)).fst.value, .tref 6, iA 0, .tref 7, .tref 8]) G [0, 1, 2, 3, 4, 9, 6, 7, 8] (by show _ = AV.ren (nth [0, 1, 2, 3, 4, 9, 6, 7, 8]) (O6 b vs ars d j); unfold O6; have e1 : ((z4 b vs.length ars.length d j).fst.kind : Int) = (nm b j G7) := (by rw [aP6 (by omega) (by omega)]; show (3 : Int) = _; omega); rw [e1, aP6 (by omega) (by omega)] <;> rfl) (by show _ = mR [0, 1, 2, 3, 4, 9, 6, 7, 8] (O5 b vs ars bd d j); unfold O5; rw [aP6 (by omega) (by omega)] <;> rfl)
  ·
   have q0 := eq_of_beq h0; refine D6 G (E7 (fc h0 fz) (us [(3, 6, 0), (1007, 1007, 0)])) (ae4 n [(7, iA (nm b j G7)), (8, .ptr 7 0), (27, bA (decide ((ars.length : Int) > 0)))]) fun G => b0 (rcD G (fun h9 q9 => ?_) fun h9 q9 => ?_)
   ·
    refine wp_seq ?_; cases h10 : (nm b j G7 == 3)
    ·
     have q10 := ne_of_beq_false h10; refine D6 G (E7 (fc h10 fz) [(3, 0), (4, 0), (1005, 0)]) (ae4 n [(7, iA (nm b j G7)), (8, .ptr 7 0), (50, bA false)]) fun G => b0 (rF G false (by kernel_rfl) (wp_seq ?_)); cases h11 : (nm b j G7 == 4)
     ·
      have q11 := ne_of_beq_false h11; refine j7 G (E7 (fc h11 fz) [(3, 0), (4, 0), (1005, 0)]) [(79, bA false)] fun G => b0 (rF G false (by kernel_rfl) (wp_seq (wp_seq (D6 G d8 (R3 [(15, bA (nm b j G7 != 5))]) fun G => b0 ?_)))); cases h12 : (nm b j G7 != 5)
      · have q12 := bne_eq_false_iff_eq.1 h12; exact False.elim (by omega)
      · have q12 := bne_iff_ne.1 h12; refine rT G _ h12 (i7 G d8 (rg 8) (.box [.ref 1, iA (j + 1)] :: (N2 b vs ars bd [aB2])) (R3 []) fun G => b0 (wp_seq (i7 G (r7 4 [0, 1] (n5 b (j + 1) ((vs.length : Int)) (by omega) (by omega))) (rg 8) (.box [.ref 1, iA (j + 1 + 1)] :: (N2 b vs ars bd [aW7 b vs j])) (R3 []) fun G => b0 (i7 G (r7 2 (rg 5) (V7 b vs ars bd (j + 1 + 1) (by omega) (by omega))) [0, 1, 2, 3, 4, 6, 7, 24] [T1 b vs ars j, dY b, dI vs, dI ars, dT bd, ae8, aW9 b vs ars j, ab7 b vs ars j] [(6, .ptr 5 0), (8, .ptr 6 0)] fun G => i8 (b0 (wp_seq (i7 G d8 [0, 1, 2, 3, 4, 5, 7] [T1 b vs ars j, dY b, dI vs, dI ars, dT bd, aW8 b vs ars j, ab7 b vs ars j] [(6, .ptr 5 0)] fun G => b0 (wp_ret ?_)))))))); obtain ⟨ρ, G⟩ := G.nilT 7 (.exprs []) (aV7 b vs ars bd j []) [(6, .ptr 5 0)]; obtain ⟨ρ, G⟩ := G.nilT 8 (.stmts []) (aV8 b vs ars bd j []) [(6, .ptr 5 0)]; obtain ⟨ρ, G⟩ := G.nilT 9 (.stmts []) (aV9 b vs ars bd j []) [(6, .ptr 5 0)]; exact Q1 (.agg [iA 1, iA (pk b (j + 1) (vs.length : Int)), iA 0, iA 0, .tref 7, iA (t4 b vs.length ars.length (j + 1 + 1)).fst.kind, iA (t4 b vs.length ars.length (j + 1 + 1)).fst.value, .tref 6, iA 0, .tref 8, .tref 9]) G [0, 1, 2, 3, 4, 7, 6, 8, 9] (by show _ = AV.ren (nth [0, 1, 2, 3, 4, 7, 6, 8, 9]) (O6 b vs ars d j); unfold O6; rw [Y2 (by omega) (by omega), aM8 (by omega)] <;> rfl) (by show _ = mR [0, 1, 2, 3, 4, 7, 6, 8, 9] (O5 b vs ars bd d j); unfold O5; rw [Y2 (by omega) (by omega), aM8 (by omega)] <;> rfl)
     · have q11 := eq_of_beq h11; exact False.elim (by omega)
    · have q10 := eq_of_beq h10; exact False.elim (by omega)
   ·
    refine wp_seq (i7 G (r7 4 [0, 1] (n5 b (j + 1) ((ars.length : Int)) (by omega) (by omega))) (rg 8) (.box [.ref 1, iA (j + 1 + 1)] :: (N2 b vs ars bd [.box [iA (nm b j G7), iA (pk b (j + 1) (ars.length : Int)), iA 0, iA 0, .v (.slice none 0 0), iA 0, iA 0, .v (.slice none 0 0), iA 0, .v (.slice none 0 0), .v (.slice none 0 0)]])) (R3 []) fun G => b0 (wp_seq (i7 G (r7 2 (rg 5) (aj4 b (j + 1 + 1) vs ars bd (by omega) (by omega))) [0, 1, 2, 3, 4, 5, 6, 7, 24] (.box [.ref 1, iA (j + 1 + 1 + 2)] :: (N2 b vs ars bd [.box [iA (nm b j G7), iA (pk b (j + 1) (ars.length : Int)), iA (m7 b (vs.length : Int) (j + 1 + 1)).kind, iA (m7 b (vs.length : Int) (j + 1 + 1)).value, .tref 8, iA 0, iA 0, .v (.slice none 0 0), iA 0, .v (.slice none 0 0), .v (.slice none 0 0)], .tree (D.exprs (m7 b (vs.length : Int) (j + 1 + 1)).kids)])) (R3 []) fun G => b0 (i7 G (r7 2 (rg 5) (V7 b vs ars bd (j + 1 + 1 + 2) (by omega) (by omega))) [0, 1, 2, 3, 4, 6, 7, 8, 25] (.box [.ref 1, iA (t4 b vs.length ars.length (j + 1 + 1 + 2)).snd] :: dY b :: dI vs :: dI ars :: dT bd :: ae8 :: .box [iA (nm b j G7), iA (pk b (j + 1) (ars.length : Int)), iA (m7 b (vs.length : Int) (j + 1 + 1)).kind, iA (m7 b (vs.length : Int) (j + 1 + 1)).value, .tref 7, iA (t4 b vs.length ars.length (j + 1 + 1 + 2)).fst.kind, iA (t4 b vs.length ars.length (j + 1 + 1 + 2)).fst.value, .tref 8, iA 0, .v (.slice none 0 0), .v (.slice none 0 0)] :: (aV6 b vs ars j [])) [(6, .ptr 5 0), (8, .ptr 6 0)] fun G => i8 (b0 (wp_seq (i7 G d8 [0, 1, 2, 3, 4, 5, 7, 8] (.box [.ref 1, iA (t4 b vs.length ars.length (j + 1 + 1 + 2)).snd] :: dY b :: dI vs :: dI ars :: dT bd :: .box [iA (nm b j G7), iA (pk b (j + 1) (ars.length : Int)), iA (m7 b (vs.length : Int) (j + 1 + 1)).kind, iA (m7 b (vs.length : Int) (j + 1 + 1)).value, .tref 6, iA (t4 b vs.length ars.length (j + 1 + 1 + 2)).fst.kind, iA (t4 b vs.length ars.length (j + 1 + 1 + 2)).fst.value, .tref 7, iA 0, .v (.slice none 0 0), .v (.slice none 0 0)] :: (aV6 b vs ars j [])) [(6, .ptr 5 0)] fun G => b0 (wp_ret ?_)))))))); obtain ⟨ρ, G⟩ := G.nilT 8 (.stmts []) (.box [.ref 1, iA (t4 b vs.length ars.length (j + 1 + 1 + 2)).snd] :: dY b :: dI vs :: dI ars :: dT bd :: .box [iA (nm b j G7), iA (pk b (j + 1) (ars.length : Int)), iA (m7 b (vs.length : Int) (j + 1 + 1)).kind, iA (m7 b (vs.length : Int) (j + 1 + 1)).value, .tref 6, iA (t4 b vs.length ars.length (j + 1 + 1 + 2)).fst.kind, iA (t4 b vs.length ars.length (j + 1 + 1 + 2)).fst.value, .tref 7, iA 0, .tref 8, .v (.slice none 0 0)] :: (aV6 b vs ars j [])) [(6, .ptr 5 0)]; obtain ⟨ρ, G⟩ := G.nilT 9 (.stmts []) (.box [.ref 1, iA (t4 b vs.length ars.length (j + 1 + 1 + 2)).snd] :: dY b :: dI vs :: dI ars :: dT bd :: .box [iA (nm b j G7), iA (pk b (j + 1) (ars.length : Int)), iA (m7 b (vs.length : Int) (j + 1 + 1)).kind, iA (m7 b (vs.length : Int) (j + 1 + 1)).value, .tref 6, iA (t4 b vs.length ars.length (j + 1 + 1 + 2)).fst.kind, iA (t4 b vs.length ars.length (j + 1 + 1 + 2)).fst.value, .tref 7, iA 0, .tref 8, .tref 9] :: (aV6 b vs ars j [.tree (D.stmts [])])) [(6, .ptr 5 0)]
    exact Q1 (.agg [iA (nm b j G7), iA (pk b (j + 1) (ars.length : Int)), iA (m7 b (vs.length : Int) (j + 1 + 1)).kind, iA (m7 b (vs.length : Int) (j + 1 + 1)).value, .tref 6, iA (t4 b vs.length ars.length (j + 1 + 1 + 2)).fst.kind, iA (t4 b vs.length ars.length (j + 1 + 1 + 2)).fst.value, .tref 7, iA 0, .tref 8, .tref 9]) G [0, 1, 2, 3, 4, 6, 7, 8, 9] (by show _ = AV.ren (nth [0, 1, 2, 3, 4, 6, 7, 8, 9]) (O6 b vs ars d j); unfold O6; have e1 : ((z4 b vs.length ars.length d j).fst.kind : Int) = (nm b j G7) := (by rw [a97 (by omega) (by omega)]; show (2 : Int) = _; omega); rw [e1, a97 (by omega) (by omega)] <;> rfl) (by show _ = mR [0, 1, 2, 3, 4, 6, 7, 8, 9] (O5 b vs ars bd d j); unfold O5; rw [a97 (by omega) (by omega)] <;> rfl)
theorem aN7 (b : List UInt8) (vs ars : List Int) (bd : List c6) (d : Nat) (h : ∀ (j n : Int), n = d → 0 ≤ j → j + cS d ≤ 600000000 → j5.ok Try.prog (dsC b vs ars bd d j n)) (m : Nat) (j n c B : Int) (hn : n = d) (hm : c = m) (hm2 : m ≤ 4) (hB : (m : Int) * cS d ≤ B) (r0 : 0 ≤ j) (r1 : j + B ≤ 600000000) : j5.ok Try.prog (dbC b vs ars bd d m j n c) :=
 bm4 b vs ars bd d m h j n c hn hm hm2 B hB r0 r1
theorem bg9 (b : List UInt8) (vs ars : List Int) (bd : List c6) : ∀ (d : Nat), d ≤ 3 → ∀ (j n : Int), n = d → 0 ≤ j → j + cS d ≤ 600000000 → j5.ok Try.prog (dsC b vs ars bd d j n)
 | 0, hd, j, n, hn, r0, r1 => bb2 b vs ars bd 0 (by omega) (fun j n c h => absurd h (by omega)) j n hn r0 r1
 | d + 1, hd, j, n, hn, r0, r1 => bb2 b vs ars bd (d + 1) hd (fun j n c h hn h0 h2 r0 r1 => aN7 b vs ars bd d (bg9 b vs ars bd d (by omega)) c.toNat j n c (2 * cS d) (by omega) (by omega) (by omega) (bE9 h0 h2 (Int.le_trans (by decide) (al8 d))) r0 (by simpa using r1)) j n hn r0 r1
theorem bJ2 : cS 3 = 34170 := by decide
theorem bA6 (b : List UInt8) (vs ars : List Int) (bd : List c6) (j n c : Int) (hn : n = 3) (h0 : 0 ≤ c) (h4 : c ≤ 4) (r0 : 0 ≤ j) (r1 : j ≤ 100000000) : j5.ok Try.prog (dbC b vs ars bd 3 c.toNat j n c) :=
 aN7 b vs ars bd 3 (bg9 b vs ars bd 3 (by omega)) c.toNat j n c (4 * cS 3) (by omega) (by omega) (by omega) (bO5 h0 h4 (by rw [bJ2]; decide)) r0 (by rw [bJ2]; omega)
abbrev pgC (b : List UInt8) (j : Int) : j5 := ⟨24, [.ptr 0 0], [.box [.ref 1, iA j], dY b], [.box [.ref 1, iA (w5 b j).2], dY b] ++ oP (n7 b j), oA 2⟩
theorem aZ8 {b : List UInt8} {l : List Int} {n i p : Int} (h : i > 0) (h2 : i ≤ n) : nsD b l (n - (i - 1)).toNat p = nsD b l (n - i).toNat p ++ [nm b (p + (n - i)) l] := by
 rw [show (n - (i - 1)).toNat = (n - i).toNat + 1 by omega, be0, show (((n - i).toNat : Nat) : Int) = n - i by omega]
theorem aZ7 {b : List UInt8} {l : List Int} {n p : Int} : nsD b l (n - n).toNat p = [] := by rw [Int.sub_self]; rfl
theorem an2 (vs ars : List Int) (bd : List c6) (hb : t0 bd ≤ 1048576) : j5.ok Try.prog (X8 61 [pA 0] [dI vs, dI ars, dT bd] (bA (B5 ⟨vs, ars, bd⟩))) := Z7 ⟨vs, ars, bd⟩ hb
theorem bO0 {b : List UInt8} {j : Int} (h : B5 ⟨vsD b j, asD b j, (D9 (z4 b (vsD b j).length (asD b j).length 3) (nm b (kp2 b j) nbL).toNat (kp2 b j + 1)).1⟩ = true) : n7 b j = ⟨vsD b j, asD b j, (w5 b j).1⟩ := if_pos h
theorem bN9 {b : List UInt8} {j : Int} (h : B5 ⟨vsD b j, asD b j, (D9 (z4 b (vsD b j).length (asD b j).length 3) (nm b (kp2 b j) nbL).toNat (kp2 b j + 1)).1⟩ = false) : n7 b j = fbP := if_neg (by intro h2; have h3 : B5 ⟨vsD b j, asD b j, (D9 (z4 b (vsD b j).length (asD b j).length 3) (nm b (kp2 b j) nbL).toNat (kp2 b j + 1)).1⟩ = true := h2; rw [h] at h3; cases h3)
theorem bE5 (b : List UInt8) (j : Int) : j + 1 + (nm b j X1 - 0) = F2 b j := by unfold F2; omega
theorem bE4 (b : List UInt8) (j : Int) : nsD b viL (nm b j X1 - 0).toNat (j + 1) = vsD b j := by unfold vsD; rw [Int.sub_zero]
theorem bE3 (b : List UInt8) (j : Int) : F2 b j + 1 + (nm b (F2 b j) U6 - 0) = kp2 b j := by unfold kp2; omega
theorem bE2 (b : List UInt8) (j : Int) : nsD b aiL (nm b (F2 b j) U6 - 0).toNat (F2 b j + 1) = asD b j := by unfold asD; rw [Int.sub_zero]
abbrev ak4 (b : List UInt8) (j : Int) := D9 (z4 b (vsD b j).length (asD b j).length 3) (nm b (kp2 b j) nbL).toNat (kp2 b j + 1)
abbrev aW6 (b : List UInt8) (j : Int) : List It := [.box [.ref 1, iA (w5 b j).snd], dY b, .row 3 (D.ints (n7 b j).vars), .row 3 (D.ints (n7 b j).arrays), .tree (D.stmts (n7 b j).body)]
abbrev N3 : It := .box [.v (.slice none 0 0), .v (.slice none 0 0), .v (.slice none 0 0)]
abbrev aH4 : It := .box [.ref 4, .v (.slice none 0 0), .v (.slice none 0 0)]
abbrev a85 : It := .tree (D.stmts [c6.mk 1 1 (c8.mk 0 0 []) (c8.mk 2 0 []) 0 [] []])
theorem Z5 (b : List UInt8) (j : Int) (r0 : 0 ≤ j) (r1 : j ≤ 10000000) : j5.ok Try.prog (pgC b j) := by
  refine F5 52 Try.func24 [.box [.ref 1, iA j], dY b] [(0, .ptr 0 0)] fun G => ?_; have hnv := by0 b r0 (by omega); have hk1 := bf1 b r0 r1; have hk2 := bf0 b r0 r1; have hna := by3 b (k := F2 b j) (by omega) (by omega); have hnb := bE7 b (k := kp2 b j) (by omega) (by omega); have hvl := a87 b r0 r1; have hal := bj4 b r0 r1; have hbd := bj3 b r0 r1; have hbs : t0 (D9 (z4 b (vsD b j).length (asD b j).length 3) (nm b (kp2 b j) nbL).toNat (kp2 b j + 1)).1 ≤ 1048576 := bT4 hbd.2.2 (by omega); refine wp_seq (i7 G d8 [0, 1, 2] [.box [.ref 1, iA j], dY b, N3] [(0, .ptr 0 0), (2, .ptr 2 0)] fun G => b0 (wp_seq (i7 G d8 [0, 1, 2, 11] [.box [.ref 1, iA j], dY b, N3, N3] [(0, .ptr 0 0), (2, .ptr 2 0), (3, .ptr 3 0)] fun G => b0 (wp_seq (wp_seq (i7 G (r7 2 [0, 1, 12] (j5.lend (H3 b j X1 (List.cons_ne_nil _ _) (by assumption) (by omega)) [.no, .no, .row 3])) (rg 4) [.box [.ref 1, iA (j + 1)], dY b, N3, N3] [(0, .ptr 0 0), (2, .ptr 2 0), (3, .ptr 3 0), (4, iA (nm b j X1))] fun G => b0 (wp_block ?_))))))); have Gx := G.nil 4 3 (.ints []) 1 [.box [.ref 1, iA (j + 1)], dY b, N3, aH4] [(0, .ptr 0 0), (2, .ptr 2 0), (3, .ptr 3 0), (4, iA (nm b j X1))]; clear G; obtain ⟨ρ, G⟩ := Gx; replace G := s5.at G [.box [.ref 1, iA (j + 1)], dY b, N3, aH4, .row 3 (D.ints [])] [(0, .ptr 0 0), (2, .ptr 2 0), (3, .ptr 3 0), (4, iA (nm b j X1))]; replace G := G.as [.box [.ref 1, iA (j + 1 + (nm b j X1 - nm b j X1))], dY b, .box [.v (.slice none 0 0), .v (.slice none 0 0), .v (.slice none 0 0)], .box [.ref 4, .v (.slice none 0 0), .v (.slice none 0 0)], .row 3 (D.ints (nsD b viL (nm b j X1 - nm b j X1).toNat (j + 1)))] [(0, .ptr 0 0), (2, .ptr 2 0), (3, .ptr 3 0), (4, iA (nm b j X1))] (by have e1 : (j + 1 + (nm b j X1 - nm b j X1) : Int) = (j + 1) := (by omega); have e2 : (nsD b viL (nm b j X1 - nm b j X1).toNat (j + 1) : List Int) = ([]) := aZ7; (first | rw [e1, e2] | simp only [e1, e2]) <;> rfl) (by kernel_rfl); refine t6 (κ := Int) (fun i => 0 ≤ i ∧ i ≤ nm b j X1) (fun i => i.toNat) (fun i => [.box [.ref 1, iA (j + 1 + (nm b j X1 - i))], dY b, .box [.v (.slice none 0 0), .v (.slice none 0 0), .v (.slice none 0 0)], .box [.ref 4, .v (.slice none 0 0), .v (.slice none 0 0)], .row 3 (.ints (nsD b viL (nm b j X1 - i).toNat (j + 1)))]) (fun i => [(0, .ptr 0 0), (2, .ptr 2 0), (3, .ptr 3 0), (4, iA i)]) (nm b j X1) (by omega) (s5.at G _ _) ?_; clear G; intro i ρ a w hp G; replace G := s5.at G [.box [.ref 1, iA (j + 1 + (nm b j X1 - i))], dY b, N3, aH4, .row 3 (D.ints (nsD b viL (nm b j X1 - i).toNat (j + 1)))] [(0, .ptr 0 0), (2, .ptr 2 0), (3, .ptr 3 0), (4, iA i)]; have hlen : (nsD b viL (nm b j X1 - i).toNat (j + 1)).length = (nm b j X1 - i).toNat := aa3 _ _ _ _; refine wp_seq (wp_seq (D6 G d8 [(0, .ptr 0 0), (2, .ptr 2 0), (3, .ptr 3 0), (4, iA i), (11, bA (decide (i > 0)))] fun G => b0 ?_)); cases h0 : (decide (i > 0))
  ·
   have q0 := T8 h0
   obtain rfl : i = 0 := by omega
   rw [bE5, bE4] at G; refine rF G false (by kernel_rfl) (wp_exit (t3 (t3 (t2 (b0 (wp_seq (wp_seq (i7 G (r7 2 [0, 1, 13] (j5.lend (H3 b (F2 b j) U6 (by simp [h0]) (by omega) (by omega)) [.no, .no, .row 3])) (rg 5) [.box [.ref 1, iA (F2 b j + 1)], dY b, N3, aH4, .row 3 (D.ints (vsD b j))] [(0, .ptr 0 0), (2, .ptr 2 0), (3, .ptr 3 0), (5, iA (nm b (F2 b j) U6))] fun G => b0 (wp_block ?_))))))))); have Gx := G.nil 5 3 (.ints []) 1 [.box [.ref 1, iA (F2 b j + 1)], dY b, N3, .box [.ref 4, .ref 5, .v (.slice none 0 0)], .row 3 (D.ints (vsD b j))] [(0, .ptr 0 0), (2, .ptr 2 0), (3, .ptr 3 0), (5, iA (nm b (F2 b j) U6))]; clear G; obtain ⟨ρ, G⟩ := Gx; replace G := s5.at G [.box [.ref 1, iA (F2 b j + 1)], dY b, N3, .box [.ref 4, .ref 5, .v (.slice none 0 0)], .row 3 (D.ints (vsD b j)), .row 3 (D.ints [])] [(0, .ptr 0 0), (2, .ptr 2 0), (3, .ptr 3 0), (5, iA (nm b (F2 b j) U6))]; have Gx := G.nilT 6 (.stmts []) [.box [.ref 1, iA (F2 b j + 1)], dY b, N3, .box [.ref 4, .ref 5, .tref 6], .row 3 (D.ints (vsD b j)), .row 3 (D.ints [])] [(0, .ptr 0 0), (2, .ptr 2 0), (3, .ptr 3 0), (5, iA (nm b (F2 b j) U6))]; clear G; obtain ⟨ρ, G⟩ := Gx; replace G := s5.at G [.box [.ref 1, iA (F2 b j + 1)], dY b, N3, .box [.ref 4, .ref 5, .tref 6], .row 3 (D.ints (vsD b j)), .row 3 (D.ints []), .tree (D.stmts [])] [(0, .ptr 0 0), (2, .ptr 2 0), (3, .ptr 3 0), (5, iA (nm b (F2 b j) U6))]; replace G := G.as [.box [.ref 1, iA (F2 b j + 1 + (nm b (F2 b j) U6 - nm b (F2 b j) U6))], dY b, .box [.v (.slice none 0 0), .v (.slice none 0 0), .v (.slice none 0 0)], .box [.ref 4, .ref 5, .tref 6], .row 3 (D.ints (vsD b j)), .row 3 (D.ints (nsD b aiL (nm b (F2 b j) U6 - nm b (F2 b j) U6).toNat (F2 b j + 1))), .tree (D.stmts [])] [(0, .ptr 0 0), (2, .ptr 2 0), (3, .ptr 3 0), (5, iA (nm b (F2 b j) U6))] (by have e1 : (F2 b j + 1 + (nm b (F2 b j) U6 - nm b (F2 b j) U6) : Int) = (F2 b j + 1) := (by omega); have e2 : (nsD b aiL (nm b (F2 b j) U6 - nm b (F2 b j) U6).toNat (F2 b j + 1) : List Int) = ([]) := aZ7; (first | rw [e1, e2] | simp only [e1, e2]) <;> rfl) (by kernel_rfl); refine t6 (κ := Int) (fun i2 => 0 ≤ i2 ∧ i2 ≤ nm b (F2 b j) U6) (fun i2 => i2.toNat) (fun i2 => [.box [.ref 1, iA (F2 b j + 1 + (nm b (F2 b j) U6 - i2))], dY b, .box [.v (.slice none 0 0), .v (.slice none 0 0), .v (.slice none 0 0)], .box [.ref 4, .ref 5, .tref 6], .row 3 (D.ints (vsD b j)), .row 3 (.ints (nsD b aiL (nm b (F2 b j) U6 - i2).toNat (F2 b j + 1))), .tree (D.stmts [])]) (fun i2 => [(0, .ptr 0 0), (2, .ptr 2 0), (3, .ptr 3 0), (5, iA i2)]) (nm b (F2 b j) U6) (by omega) (s5.at G _ _) ?_; clear G; intro i2 ρ a w hp G; replace G := s5.at G [.box [.ref 1, iA (F2 b j + 1 + (nm b (F2 b j) U6 - i2))], dY b, N3, .box [.ref 4, .ref 5, .tref 6], .row 3 (D.ints (vsD b j)), .row 3 (D.ints (nsD b aiL (nm b (F2 b j) U6 - i2).toNat (F2 b j + 1))), .tree (D.stmts [])] [(0, .ptr 0 0), (2, .ptr 2 0), (3, .ptr 3 0), (5, iA i2)]; have hlen : (nsD b aiL (nm b (F2 b j) U6 - i2).toNat (F2 b j + 1)).length = (nm b (F2 b j) U6 - i2).toNat := aa3 _ _ _ _; refine wp_seq (wp_seq (D6 G d8 [(0, .ptr 0 0), (2, .ptr 2 0), (3, .ptr 3 0), (5, iA i2), (26, bA (decide (i2 > 0)))] fun G => b0 ?_)); cases h1 : (decide (i2 > 0))
   ·
    have q1 := T8 h1
    obtain rfl : i2 = 0 := by omega
    rw [bE3, bE2] at G; refine rF G false (by kernel_rfl) (wp_exit (t3 (t3 (t2 (b0 (wp_seq (aQ9 G (K9 (A2 4 [0, 1, 31] (j5.lend (H3 b (kp2 b j) nbL (by simp [h0, h1]) (by omega) (by omega)) [.no, .no, .row 3]) (A2 5 [0, 1, 4, 5, 6] (j5.lend (bA6 b (vsD b j) (asD b j) ([]) (kp2 b j + 1) 3 (nm b (kp2 b j) nbL) (by kernel_rfl) (by omega) (by omega) (by omega) (by omega)) [.no, .no, .row 3, .row 3, .tree]) K8)) fz []) [0, 0, 0, 0, 12, 31, 63, 127] [0, 1, 2, 3, 4, 5, 47] [.box [.ref 1, iA (ak4 b j).snd], dY b, N3, .box [.ref 4, .ref 5, .tref 6], .row 3 (D.ints (vsD b j)), .row 3 (D.ints (asD b j)), .tree (D.stmts (ak4 b j).fst)] [(2, .ptr 2 0), (3, .ptr 3 0)] fun G => b0 (wp_seq (wp_seq (j7 G (r7 1 [4, 5, 6] (j5.lend (an2 (vsD b j) (asD b j) ((D9 (z4 b (vsD b j).length (asD b j).length 3) (nm b (kp2 b j) nbL).toNat (kp2 b j + 1)).fst) (by assumption)) [.row 3, .row 3, .tree])) [(45, bA (B5 (j8.mk (vsD b j) (asD b j) (ak4 b j).fst)))] fun G => b0 (rcB (b := B5 (j8.mk (vsD b j) (asD b j) (D9 (z4 b (vsD b j).length (asD b j).length (3 : Nat)) (nm b (kp2 b j) nbL).toNat (kp2 b j + 1)).fst)) G (fun h2 => ?_) fun h2 => ?_)))))))))))
    · refine wp_skip (b0 (wp_seq (i7 G d8 [0, 1, 2, 7, 31] [.box [.ref 1, iA (ak4 b j).snd], dY b, .box [.ref 3, .v (.slice none 0 0), .tref 4], .row 3 (D.ints ([0] ++ ([1] ++ []))), a85] [(2, .ptr 2 0)] fun G => b0 (wp_ret ?_)))); have Gx := G.nil 5 3 (.ints []) 1 [.box [.ref 1, iA (ak4 b j).snd], dY b, .box [.ref 3, .ref 5, .tref 4], .row 3 (D.ints ([0] ++ ([1] ++ []))), a85] [(2, .ptr 2 0)]; clear G; obtain ⟨ρ, G⟩ := Gx; replace G := s5.at G [.box [.ref 1, iA (ak4 b j).snd], dY b, .box [.ref 3, .ref 5, .tref 4], .row 3 (D.ints ([0] ++ ([1] ++ []))), a85, .row 3 (D.ints [])] [(2, .ptr 2 0)]; exact D8 G [0, 1, 3, 5, 4] (by show _ = mR [0, 1, 3, 5, 4] (aW6 b j); unfold aW6; rw [bN9 (by with_reducible assumption)] <;> rfl)
    · refine wp_seq (i7 G d8 [0, 1, 2, 4, 5, 6] [.box [.ref 1, iA (ak4 b j).snd], dY b, .box [.ref 3, .ref 4, .tref 5], .row 3 (D.ints (vsD b j)), .row 3 (D.ints (asD b j)), .tree (D.stmts (ak4 b j).fst)] [(2, .ptr 2 0)] fun G => b0 (wp_ret (n8 ?_))); exact D8 G [0, 1, 3, 4, 5] (by show _ = mR [0, 1, 3, 4, 5] (aW6 b j); unfold aW6; rw [bO0 (by with_reducible assumption)] <;> rfl)
   · have q1 := T7 h1; refine rT G _ h1 (wp_skip (b0 (wp_seq (wp_block (C8 G (r7 4 [0, 1, 31] (j5.lend (H3 b (F2 b j + 1 + (nm b (F2 b j) U6 - i2)) aiL (by simp [h0, h1]) (by omega) (by omega)) [.no, .no, .row 3])) [0, 1, 0, 0, 12, 28, 63, 127, 255] [0, 1, 2, 3, 4, 6, 55] [.box [.ref 1, iA (F2 b j + 1 + (nm b (F2 b j) U6 - i2) + 1)], dY b, N3, .box [.ref 4, .ref 6, .tref 5], .row 3 (D.ints (vsD b j)), .tree (D.stmts []), .row 3 (D.ints (nsD b aiL (nm b (F2 b j) U6 - i2).toNat (F2 b j + 1) ++ ([nm b (F2 b j + 1 + (nm b (F2 b j) U6 - i2)) aiL] ++ [])))] [(0, .ptr 0 0), (2, .ptr 2 0), (3, .ptr 3 0), (5, iA i2)] (aP ((nsD b aiL (nm b (F2 b j) U6 - i2).toNat (F2 b j + 1)).length + ([nm b (F2 b j + 1 + (nm b (F2 b j) U6 - i2)) aiL] ++ []).length) 8 []) (aK (by simp only [bR8, bS1, bS6, aa3]; omega) bS4) fun G => i8 (b0 (A0 G d8 [(5, iA (i2 - 1))] [wO (i2 - 1)] (o1 (by omega)) fun G => b0 ?_))))))); exact H9 G (i2 - 1) (by omega) (by omega) [0, 1, 2, 3, 4, 6, 5] (by have e1 : (F2 b j + 1 + (nm b (F2 b j) U6 - (i2 - 1)) : Int) = (F2 b j + 1 + (nm b (F2 b j) U6 - i2) + 1) := (by omega); have e2 : (nsD b aiL (nm b (F2 b j) U6 - (i2 - 1)).toNat (F2 b j + 1) : List Int) = (nsD b aiL (nm b (F2 b j) U6 - i2).toNat (F2 b j + 1) ++ ([nm b (F2 b j + 1 + (nm b (F2 b j) U6 - i2)) aiL] ++ [])) := (aZ8 (by omega) (by omega)); (first | rw [e1, e2] | simp only [e1, e2]) <;> rfl)
  · have q0 := T7 h0; refine rT G _ h0 (wp_skip (b0 (wp_seq (wp_block (C8 G (r7 4 [0, 1, 29] (j5.lend (H3 b (j + 1 + (nm b j X1 - i)) viL (by simp [h0]) (by omega) (by omega)) [.no, .no, .row 3])) [0, 1, 0, 0, 12, 28, 63, 127, 255] [0, 1, 2, 3, 53] [.box [.ref 1, iA (j + 1 + (nm b j X1 - i) + 1)], dY b, N3, aH4, .row 3 (D.ints (nsD b viL (nm b j X1 - i).toNat (j + 1) ++ ([nm b (j + 1 + (nm b j X1 - i)) viL] ++ [])))] [(0, .ptr 0 0), (2, .ptr 2 0), (3, .ptr 3 0), (4, iA i)] (aP ((nsD b viL (nm b j X1 - i).toNat (j + 1)).length + ([nm b (j + 1 + (nm b j X1 - i)) viL] ++ []).length) 8 []) (aK (by simp only [bR8, bS1, bS6, aa3]; omega) bS4) fun G => i8 (b0 (A0 G d8 [(4, iA (i - 1))] [wO (i - 1)] (o1 (by omega)) fun G => b0 ?_))))))); exact H9 G (i - 1) (by omega) (by omega) (rg 5) (by have e1 : (j + 1 + (nm b j X1 - (i - 1)) : Int) = (j + 1 + (nm b j X1 - i) + 1) := (by omega); have e2 : (nsD b viL (nm b j X1 - (i - 1)).toNat (j + 1) : List Int) = (nsD b viL (nm b j X1 - i).toNat (j + 1) ++ ([nm b (j + 1 + (nm b j X1 - i)) viL] ++ [])) := (aZ8 (by omega) (by omega)); (first | rw [e1, e2] | simp only [e1, e2]) <;> rfl)
section
variable {b : List UInt8} {p : j8} {j : Int}
end
def ag8 (k v r : Int) : c7 := if k = 3 then ⟨4, r, v, r, 0⟩ else if k = 11 then ⟨7, r, r, r + 1, r + 2⟩ else ⟨6, r, k, r, r + 1⟩
mutual
def b6 : c8 → Int → List c7
 | ⟨k, v, ks⟩, r => if k = 1 then [⟨1, r, v, 0, 0⟩] else if k = 2 then [⟨2, r, v, 0, 0⟩] else j6 ks r ++ [ag8 k v r]
def j6 : List c8 → Int → List c7
 | [], _ => []
 | e :: t, r => b6 e r ++ j6 t (r + 1)
end
theorem aa7 (e : c8) (r : Int) : b6 e r = if e.kind = 1 then [⟨1, r, e.value, 0, 0⟩] else if e.kind = 2 then [⟨2, r, e.value, 0, 0⟩] else j6 e.kids r ++ [ag8 e.kind e.value r] := by cases e; rw [b6]; rfl
theorem ac5 : ∀ (a b : List c8) (r : Int), j6 (a ++ b) r = j6 a r ++ j6 b (r + a.length)
 | [], b, r => by simp [j6]
 | e :: t, b, r => by
  simp only [List.cons_append, j6, bV5]
  rw [ac5 t b (r + 1)]
  congr 2
  simp only [bS1]
  rw [show r + 1 + (t.length : Int) = r + ((t.length + 1 : Nat) : Int) by omega]
theorem al7 {ks : List c8} {k : Nat} {r : Int} (hk : k < ks.length) : j6 (ks.take (k + 1)) r = j6 (ks.take k) r ++ b6 (ks.getD k aK4) (r + k) := by
 rw [x5 _ _ hk, ac5, o5 hk]
 simp [j6, List.length_take, Nat.min_eq_left (Nat.le_of_lt hk)]
mutual
theorem P5 : ∀ (e : c8) (r : Int), (b6 e r).length ≤ 1 + O2 e
 | ⟨k, v, ks⟩, r => by
  have h := V6 ks r
  rw [b6]
  simp only [O2]
  split
  ·simp
  ·split
   ·simp
   ·simp only [bR8, bS1, bS6]; omega
theorem V6 : ∀ (ks : List c8) (r : Int), (j6 ks r).length ≤ K7 ks
 | [], _ => by simp [j6]
 | e :: t, r => by
  have h1 := P5 e r
  have h2 := V6 t (r + 1)
  simp only [j6, K7, bR8]; omega
end
abbrev E8 : Type := List c7 × List Int × Int
def D5 (x : E8) (n : Int) (c : List c7) : E8 := (x.1 ++ c, x.2.1 ++ a04 c.length n, x.2.2)
def bc8 (l : List c7) (i : Nat) (n : Int) : List c7 := l.set i ⟨(l.getD i aK4).op, (l.getD i aK4).a, n, (l.getD i aK4).c, (l.getD i aK4).d⟩
def bx3 (l : List c7) (i : Nat) (n : Int) : List c7 := l.set i ⟨(l.getD i aK4).op, n, (l.getD i aK4).b, (l.getD i aK4).c, (l.getD i aK4).d⟩
mutual
def L6 : c6 → Int → E8 → E8
 | ⟨k, t, i, v, c, b, e⟩, d, x =>
  if k = 4 then D5 (l9 b (d + 1) (D5 (x.1, x.2.1, x.2.2 + 1) x.2.2 [⟨1, 9 + d, c, 0, 0⟩])) x.2.2 [⟨10, 9 + d, ((x.1.length + 1 : Nat) : Int), 0, 0⟩]
  else if k = 1 then D5 (D5 (x.1, x.2.1, x.2.2 + 1) x.2.2 (b6 v 0)) x.2.2 [⟨3, t, 0, 0, 0⟩]
  else if k = 5 then D5 (D5 (D5 (x.1, x.2.1, x.2.2 + 1) x.2.2 (b6 v 0)) x.2.2 [⟨11, 0, 0, 0, 0⟩]) x.2.2 [⟨3, t, 0, 0, 0⟩]
  else if k = 2 then D5 (D5 (D5 (x.1, x.2.1, x.2.2 + 1) x.2.2 (b6 v 0)) x.2.2 (b6 i 1)) x.2.2 [⟨5, t, 1, 0, 0⟩]
  else
   (fun (y : E8) =>
    (fun (z : E8) =>
     (fun (u : E8) => (bx3 u.1 (z.1.length - 1) (u.1.length : Int), u.2)) (l9 e (d + 1) (bc8 z.1 y.1.length (z.1.length : Int), z.2)))
    (D5 (l9 b (d + 1) (D5 y x.2.2 [⟨9, 0, 0, 0, 0⟩])) x.2.2 [⟨8, 0, 0, 0, 0⟩]))
   (D5 (x.1, x.2.1, x.2.2 + 1) x.2.2 (b6 v 0))
def l9 : List c6 → Int → E8 → E8
 | [], _, x => x
 | s :: r, d, x => l9 r d (L6 s d x)
end
theorem aT7 (a b : List c6) (d : Int) (x : E8) : l9 (a ++ b) d x = l9 b d (l9 a d x) := by
 induction a generalizing x with
 | nil => rfl
 | cons s r ih => simp only [List.cons_append, l9]; exact ih _
theorem au1 {ss : List c6} {k : Nat} {d : Int} {x : E8} (hk : k < ss.length) : l9 (ss.take (k + 1)) d x = L6 (ss.getD k aK4) d (l9 (ss.take k) d x) := by
 rw [x5 _ _ hk, aT7, o5 hk]
 simp [l9]
mutual
def a55 : c6 → Nat
 | ⟨k, _, i, v, _, b, e⟩ => if k = 4 then 2 + aw5 b else if k = 1 then (b6 v 0).length + 1 else if k = 5 then (b6 v 0).length + 2 else if k = 2 then (b6 v 0).length + (b6 i 1).length + 1 else (b6 v 0).length + 2 + aw5 b + aw5 e
def aw5 : List c6 → Nat
 | [] => 0
 | s :: r => a55 s + aw5 r
end
mutual
theorem bq4 : ∀ (s : c6) (d : Int) (x : E8), (L6 s d x).1.length = x.1.length + a55 s ∧ (L6 s d x).2.1.length = x.2.1.length + a55 s
 | ⟨k, t, i, v, c, b, e⟩, d, x => by
  rw [L6, a55]
  split
  ·have h := G9 b (d + 1) (D5 (x.1, x.2.1, x.2.2 + 1) x.2.2 [⟨1, 9 + d, c, 0, 0⟩])
   simp only [D5, bR8, bS1, bS6, bT1] at h ⊢
   omega
  ·split
   ·simp only [D5, bR8, bS1, bS6, bT1]; omega
   ·split
    ·simp only [D5, bR8, bS1, bS6, bT1]; omega
    ·split
     ·simp only [D5, bR8, bS1, bS6, bT1]; omega
     ·simp only
      generalize hy : D5 (x.1, x.2.1, x.2.2 + 1) x.2.2 (b6 v 0) = y
      have hy1 : y.1.length = x.1.length + (b6 v 0).length := by rw [← hy]; simp [D5]
      have hy2 : y.2.1.length = x.2.1.length + (b6 v 0).length := by rw [← hy]; simp [D5]
      have h1 := G9 b (d + 1) (D5 y x.2.2 [⟨9, 0, 0, 0, 0⟩])
      generalize l9 b (d + 1) (D5 y x.2.2 [⟨9, 0, 0, 0, 0⟩]) = z at h1 ⊢
      have h2 := G9 e (d + 1) (bc8 (D5 z x.2.2 [⟨8, 0, 0, 0, 0⟩]).1 y.1.length ((D5 z x.2.2 [⟨8, 0, 0, 0, 0⟩]).1.length : Int), (D5 z x.2.2 [⟨8, 0, 0, 0, 0⟩]).2)
      simp only [D5, bx3, bc8, bU7, bR8, bS1, bS6, bT1] at h1 h2 ⊢
      omega
theorem G9 : ∀ (ss : List c6) (d : Int) (x : E8), (l9 ss d x).1.length = x.1.length + aw5 ss ∧ (l9 ss d x).2.1.length = x.2.1.length + aw5 ss
 | [], _, _ => ⟨rfl, rfl⟩
 | s :: r, d, x => by
  have h1 := bq4 s d x
  have h2 := G9 r d (L6 s d x)
  rw [l9, aw5]
  omega
end
mutual
theorem bq2 : ∀ s : c6, a55 s ≤ 4 + 4 * szS s
 | ⟨k, t, i, v, c, b, e⟩ => by
  have h1 := P5 v 0
  have h2 := P5 i 1
  have h3 := K2 b
  have h4 := K2 e
  rw [a55]
  simp only [szS]
  (repeat' split) <;> omega
theorem K2 : ∀ ss : List c6, aw5 ss ≤ 4 * t0 ss
 | [] => bU8 _
 | s :: r => by
  have h1 := bq2 s
  have h2 := K2 r
  simp only [aw5, t0]; omega
end
section
variable {P : Program} {ι κ : Type} {φ ψ : Nat → Prop} {w0 w : World} {F : ι → Rs} {ρ ρ0 : Nat → Value} {N m n : Nat} {S : List It} {tm : List (Nat × AV)} {a : Act}
theorem i6.shrink {L L' : κ → Rs} (M : i6 φ ψ w0 w L) (h : ∀ k, L' k = L k ∨ ((∀ b, (L' k).blk b → (L k).blk b) ∧ ∀ φ', (∀ b, R1 φ L b → φ' b) → (∀ b, (L k).blk b → ¬ (L' k).blk b → φ' b) → (L' k).holds w φ')) : i6 φ ψ w0 w L' := by
 have old : ∀ k b, (L' k).blk b → (L k).blk b := fun k b hb => by
  rcases h k with e | ⟨h1, _⟩
  ·rw [e] at hb; exact hb
  ·exact h1 b hb
 have hfr : ∀ b, R1 φ L b → R1 φ L' b := fun b hb => ⟨hb.1, fun k hk => hb.2 k (old k b hk)⟩
 refine ⟨M.kept, M.fresh, fun k => ?_, fun i j g hij h1 h2 => M.dis i j g hij (old i g h1) (old j g h2), fun i b hb => M.ge i b (old i b hb), fun i b hb => M.ph i b (old i b hb)⟩
 rcases h k with e | ⟨h1, h2⟩
 ·rw [e]; exact Rs.keep (M.holds k) (Agr.mono fun b _ hf => hfr b hf) fun _ _ => rfl
 ·refine h2 _ hfr fun b hb hn => ⟨M.ph k b hb, fun j hj => ?_⟩
  by_cases e : j = k
  ·subst e; exact hn hj
  ·exact M.dis j k b e (old j b hj) hb
def L5 (n : Nat) : List Ln := a04 n .no ++ [.tree]
theorem ar6 (n i : Nat) : v7 (L5 n) i = if i = n then .tree else .no := by
 unfold v7 L5
 rw [bR7]
 rcases Nat.lt_trichotomy i n with h | h | h
 ·rw [bT3 (by simpa using h), if_neg (by omega)]
  simp [List.getElem?_replicate, h]
 ·subst h; simp
 ·rw [bT2 (by simp; omega), if_neg (by omega)]; rfl
def aC6 : D → Bool
 | .rows _ => true
 | d => natEq d.len 0
theorem I7.rw {w : World} {S φ : Nat → Prop} {d : D} {xs : List Value} (hd : aC6 d = true) (h : I7 w d S xs) (hs : ∀ b, S b → φ b) : RW w φ d xs := by
 cases d with
 | rows l =>
  obtain ⟨k1, k2⟩ := E2.at h
  intro i hi j x hx
  obtain ⟨u, a, b, c⟩ := k2 i hi
  cases j with
  | zero =>
   simp only [D.elem, bV0, Option.some.injEq] at hx
   subst hx
   refine ⟨u, by simpa [D.sz] using a, ?_⟩
   have e : l.getD i [] = l[i]'hi := by rw [bR7, bo2 hi]; rfl
   show v6 w φ u (l.getD i []).length 1 (ints (l.getD i []))
   rw [e]
   exact y5 b fun g hg => hs g (c g hg)
  | succ j => simp [D.elem] at hx
 | _ => exact RW.nil (by simpa [aC6, natEq] using hd) _
def bD7 (i m : Nat) (e : TypeId) (d : D) (S1 : List It) (tm1 : List (Nat × AV)) : Bool :=
 decide (m ≤ i) && decide (i < S1.length) && aC6 d && ac8 d e && (bS8 S1.length).all (fun j => match l8 S1 j with
  | .box cs => AV.trOkL (L5 i) cs
  | .hole _ _ _ => false
  | _ => true) && (match l8 S1 i with | .row _ _ => true | _ => false) && tm1.all fun p => p.2.trOk (L5 i)
theorem s5.treeRow (G : s5 φ ψ w0 F N m ρ0 ρ S tm a w) (i : Nat) (e : TypeId) (d : D) (S1 : List It) (tm1 : List (Nat × AV)) (hb : bD7 i m e d S1 tm1 = true := by kernel_rfl) (hi : l8 S1 i = .row e d := by kernel_rfl) (hS : S = (G0 (L5 i) S1).set i (.tree d) := by kernel_rfl) (ht : tm = tm1.map (fun p => (p.1, p.2.tr (L5 i))) := by kernel_rfl) :
  ∃ ρ', s5 φ ψ w0 F N m ρ0 ρ' S1 tm1 a w := by
 subst hS
 subst ht
 simp only [bD7, bR6, decide_eq_true_eq] at hb
 obtain ⟨⟨⟨⟨⟨⟨hm, hil⟩, hd0⟩, hte⟩, hall⟩, -⟩, htm⟩ := hb
 have hte := L9 hte
 have hlen : ((G0 (L5 i) S1).set i (.tree d)).length = S1.length := by simp [G0]
 have hlen0 : (G0 (L5 i) S1).length = S1.length := by simp [G0]
 have hat : ∀ j, l8 ((G0 (L5 i) S1).set i (.tree d)) j = if j = i then .tree d else t7 (L5 i) .no (l8 S1 j) := fun j => by
  by_cases e : j = i
  ·subst e
   rw [if_pos rfl]
   simp [l8, bR7, hlen0, hil]
  ·rw [if_neg e]
   have h1 : l8 ((G0 (L5 i) S1).set i (.tree d)) j = l8 (G0 (L5 i) S1) j := by
    simp only [l8, bR7]
    rw [List.getElem?_set_ne (fun h => e h.symm)]
   rw [h1, N8, ar6, if_neg e]
 have hbox : ∀ j cs, l8 S1 j = .box cs → AV.trOkL (L5 i) cs = true := fun j cs h => by
  rcases bT8 j S1.length with hj | hj
  ·have h2 := bS2.1 hall j (bU9.2 hj)
   rw [h] at h2; exact h2
  ·rw [s4 hj] at h; cases h
 have hhole : ∀ j k q ls, l8 S1 j = .hole k q ls → False := fun j k q ls h => by
  rcases bT8 j S1.length with hj | hj
  ·have h2 := bS2.1 hall j (bU9.2 hj)
   rw [h] at h2; cases h2
  ·rw [s4 hj] at h; cases h
 let ρ1 : Nat → Value := fun j => if (v7 (L5 i) j).isT then z3 (ρ j) else ρ j
 have hρ1 : ∀ j, ρ1 j = if (v7 (L5 i) j).isT then z3 (ρ j) else ρ j := fun _ => rfl
 have hne : ∀ j, j ≠ i → ρ1 j = ρ j := fun j hj => by rw [hρ1, ar6, if_neg hj]; rfl
 have heq : ρ1 i = z3 (ρ i) := by rw [hρ1, ar6, if_pos rfl]; rfl
 refine ⟨ρ1, G.size, G.defs, fun t x hx => ?_, fun t x hx j hj => ?_, fun j => ⟨fun q hq => ?_, fun hj => s4 hj⟩, ?_, ?_, fun j hj => ?_⟩
 ·obtain ⟨h1, p, h2, h3⟩ := ag7 (M := L5 i) hx
  rw [G.tmv t _ h1, AV.val_tr hρ1 x (by rw [← h3]; exact bS2.1 htm p h2)]
 ·obtain ⟨h1, _⟩ := ag7 (M := L5 i) hx
  have := G.tmi t _ h1 j (by rw [AV.ids_tr]; exact hj)
  rw [hlen] at this; exact this
 ·by_cases e : j = i
  ·subst e; rw [hi] at hq; cases hq
  ·have h1 := (G.bd j).1 q
   rw [hat, if_neg e, hlen] at h1
   rcases It.ids_lend (L5 i) .no (l8 S1 j) with h | h
   ·rw [h] at hq; cases hq
   ·exact h1 (by rw [h]; exact hq)
 ·refine G.mem.shrink fun k => ?_
  cases k with
  | inl q => exact .inl rfl
  | inr j =>
   simp only [l0]
   rw [hat]
   by_cases e1 : j = i
   ·subst e1
    rw [if_pos rfl, hi]
    have hh := G.mem.holds (.inr j)
    simp only [l0] at hh
    rw [hat, if_pos rfl] at hh
    obtain ⟨_, ⟨e', xs, S', h0, h1, h2, h3, h4⟩, _⟩ := hh
    rw [hte] at h0; cases h0
    refine .inr ⟨fun b hb => ?_, fun φ' _ hfree => ?_⟩
    ·simp only [It.res, Rs.blk] at hb ⊢
     rw [heq] at hb
     exact (h2 b hb).1
    ·simp only [It.res, Rs.blk] at hfree ⊢
     rw [heq] at hfree ⊢
     exact ⟨fun xs => RW.nice d xs, xs, h1, h4.rw hd0 fun b hb => hfree b (h3 b hb) fun he => (h2 b he).2 hb⟩
   ·rw [if_neg e1]
    left
    cases hx : l8 S1 j with
    | box cs =>
     simp only [t7, It.res]
     rw [hne j e1, AV.vals_tr hρ1 cs (hbox j cs hx)]
    | none => rfl
    | dead => rfl
    | dat d => simp only [t7, It.res]; rw [hne j e1]
    | row e' d => simp only [t7, It.res]; rw [hne j e1]
    | tree d => simp only [t7, It.res]; rw [hne j e1]
    | kept e' d => cases e' <;> (simp only [t7, It.res]; rw [hne j e1])
    | hole k q ls => exact (hhole j k q ls hx).elim
 ·have := G.le; rw [hlen] at this; exact this
 ·rw [hne j (by omega)]; exact G.old j hj
theorem s5.heal (G : s5 φ ψ w0 F N m ρ0 ρ S tm a w) (id k i : Nat) (l : List (List Int)) (r : List Int) (S1 : List It) (h1 : l8 S id = .hole k i l := by kernel_rfl) (h2 : l8 S k = .row 3 (.ints r) := by kernel_rfl) (hS : S1 = (S.set id (.tree (.rows (l.set i r)))).set k .dead := by kernel_rfl) : s5 φ ψ w0 F N m ρ0 ρ S1 tm a w := by
 subst hS
 have hid : id < S.length := by
  rcases bT8 id S.length with h | h
  ·exact h
  ·rw [s4 h] at h1; cases h1
 have hk : k < S.length := by
  rcases bT8 k S.length with h | h
  ·exact h
  ·rw [s4 h] at h2; cases h2
 have hne : id ≠ k := fun e => by rw [e, h2] at h1; cases h1
 have hlen : ((S.set id (.tree (.rows (l.set i r)))).set k .dead).length = S.length := by simp
 have hat : ∀ j, l8 ((S.set id (.tree (.rows (l.set i r)))).set k .dead) j = if j = k then .dead else if j = id then .tree (.rows (l.set i r)) else l8 S j := fun j => by
  simp only [l8, bR7, List.getElem?_set]
  by_cases e1 : k = j
  ·subst e1; simp [hk]
  ·have e1' : ¬ j = k := fun h => e1 h.symm
   by_cases e2 : id = j
   ·subst e2; simp [hid, e1, e1']
   ·have e2' : ¬ j = id := fun h => e2 h.symm
    simp [e1, e1', e2, e2']
 refine ⟨G.size, G.defs, G.tmv, fun t x hx q hq => by rw [hlen]; exact G.tmi t x hx q hq, fun j => ⟨fun q hq => ?_, fun hj => ?_⟩, ?_, by rw [hlen]; exact G.le, G.old⟩
 ·rw [hat] at hq
  rw [hlen]
  split at hq
  ·cases hq
  ·split at hq
   ·cases hq
   ·exact (G.bd j).1 q hq
 ·rw [hlen] at hj
  rw [hat, if_neg (by omega), if_neg (by omega)]
  exact s4 hj
 ·have M := G.mem
  have hh := M.holds (.inr id)
  have hr := M.holds (.inr k)
  have l1 : l0 F ρ (l8 S) (.inr id) = .own (fun b => v8 (ρ id) b ∧ (ρ k).ownBlock ≠ some b) fun w => ah6 w (v8 (ρ id)) i l (ρ k) (z3 (ρ id)) := by simp only [l0, h1, It.res]
  have l2 : l0 F ρ (l8 S) (.inr k) = .row 3 1 (ρ k) r.length fun xs w φ => RW w φ (.ints r) xs := by simp only [l0, h2, It.res, D.sz, D.len]
  rw [l1] at hh
  rw [l2] at hr
  obtain ⟨_, hO, hlt⟩ := hh
  obtain ⟨_, xs, o1, o2⟩ := hr
  have hxs : xs = ints r := aY6 (by have := o1.1; simpa using this) o2
  subst hxs
  have hT := hO.back o1
  have hu : ∀ g, (ρ k).ownBlock = some g → v8 (ρ id) g := by
   obtain ⟨ys, S', _, _, q3, q4, q5, _, q2, _⟩ := hO
   obtain ⟨u', a', _, c⟩ := q2 i q5
   rw [q4] at a'; cases a'
   exact fun g hg => q3 g (c g hg)
  have m1 : l0 F ρ (l8 ((S.set id (.tree (.rows (l.set i r)))).set k .dead)) (.inr id) = .own (v8 (ρ id)) fun w => z5 w (v8 (ρ id)) (.rows (l.set i r)) (z3 (ρ id)) := by simp only [l0, hat, if_neg hne, if_true, It.res]
  have m2 : l0 F ρ (l8 ((S.set id (.tree (.rows (l.set i r)))).set k .dead)) (.inr k) = Rs.none := by simp only [l0, hat, if_true, It.res]
  have m3 : ∀ q, q ≠ .inr id → q ≠ .inr k → l0 F ρ (l8 ((S.set id (.tree (.rows (l.set i r)))).set k .dead)) q = l0 F ρ (l8 S) q := fun q e1 e2 => by
   cases q with
   | inl _ => rfl
   | inr j => simp only [l0, hat, if_neg (show ¬ j = k from fun e => e2 (by rw [e])), if_neg (show ¬ j = id from fun e => e1 (by rw [e]))]
  generalize l0 F ρ (l8 ((S.set id (.tree (.rows (l.set i r)))).set k .dead)) = L' at *
  have org : ∀ q b, (L' q).blk b → (q = .inr id ∧ ((l0 F ρ (l8 S) (.inr id)).blk b ∨ (l0 F ρ (l8 S) (.inr k)).blk b)) ∨ (q ≠ .inr id ∧ q ≠ .inr k ∧ (l0 F ρ (l8 S) q).blk b) := fun q b hb => by
   by_cases e1 : q = .inr id
   ·subst e1
    rw [m1] at hb
    refine .inl ⟨rfl, ?_⟩
    rw [l1, l2]
    by_cases e : (ρ k).ownBlock = some b
    ·exact .inr e
    ·exact .inl ⟨hb, e⟩
   ·by_cases e2 : q = .inr k
    ·subst e2; rw [m2] at hb; exact hb.elim
    ·rw [m3 q e1 e2] at hb; exact .inr ⟨e1, e2, hb⟩
  refine M.re (fun q b hb => ?_) (fun p q g hpq h1 h2 => ?_) fun q => ?_
  ·rcases org q b hb with ⟨_, h | h⟩ | ⟨_, _, h⟩
   ·exact ⟨_, h⟩
   ·exact ⟨_, h⟩
   ·exact ⟨_, h⟩
  ·rcases org p g h1 with ⟨e1, f1⟩ | ⟨e1, e1', f1⟩
   ·rcases org q g h2 with ⟨e2, f2⟩ | ⟨e2, e2', f2⟩
    ·exact hpq (e1.trans e2.symm)
    ·rcases f1 with f1 | f1
     ·exact M.dis _ _ g (fun e => e2 e.symm) f1 f2
     ·exact M.dis _ _ g (fun e => e2' e.symm) f1 f2
   ·rcases org q g h2 with ⟨e2, f2⟩ | ⟨e2, e2', f2⟩
    ·rcases f2 with f2 | f2
     ·exact M.dis _ _ g e1 f1 f2
     ·exact M.dis _ _ g e1' f1 f2
    ·exact M.dis _ _ g hpq f1 f2
  ·by_cases e1 : q = .inr id
   ·subst e1
    right; intro φ'; rw [m1]
    refine ⟨fun _ _ h hs => h.same hs, hT, fun b hb => ?_⟩
    by_cases e : (ρ k).ownBlock = some b
    ·exact (World.ownsRow.lt o1 b e).2
    ·exact hlt b ⟨hb, e⟩
   ·by_cases e2 : q = .inr k
    ·subst e2
     right; intro φ'; rw [m2]; exact Rs.none_holds _ _
    ·exact .inl (m3 q e1 e2)
theorem s5.heal0 (G : s5 φ ψ w0 F N m ρ0 ρ S tm a w) (id k i : Nat) (l : List (List Int)) (S1 : List It) (h1 : l8 S id = .hole k i l := by kernel_rfl) (h2 : l8 S k = .row 3 (.ints (l.getD i [])) := by kernel_rfl) (hS : S1 = (S.set id (.tree (.rows l))).set k .dead := by kernel_rfl) : s5 φ ψ w0 F N m ρ0 ρ S1 tm a w := by
 refine G.heal id k i l (l.getD i []) S1 h1 h2 ?_
 have e : l.set i (l.getD i []) = l := by
  apply List.ext_getElem?
  intro j
  rw [List.getElem?_set]
  by_cases h : i = j
  ·subst h
   rw [if_pos rfl]
   by_cases h2 : i < l.length
   ·simp [h2]
   ·simp [h2]
  ·rw [if_neg h]
 rw [e]; exact hS
theorem It.res_ren' {σ : Nat → Nat} {i j : Nat} {ρ : Nat → Value} (x : It) (h : σ i = j) : (x.ren σ).res ρ j = x.res (fun i => ρ (σ i)) i := by
 subst h; exact It.res_ren x
def mv (i n j : Nat) : Nat := if natEq j i then n else j
theorem as5 {f : AV → AV} {t : Nat} {y : AV} : ∀ {tm : List (Nat × AV)}, w6 (tm.map fun p => (p.1, f p.2)) t = some y → ∃ x, w6 tm t = some x ∧ y = f x
 | [], h => by cases h
 | (k, z) :: r, h => by
  simp only [w6, bU0] at h ⊢
  split at h
  ·rename_i hk; cases h; exact ⟨z, by rw [if_pos hk], rfl⟩
  ·rename_i hk
   obtain ⟨x, h1, h2⟩ := as5 h
   exact ⟨x, by rw [if_neg hk]; exact h1, h2⟩
theorem by8 {i n : Nat} {x : AV} : ∀ j ∈ (x.ren (mv i n)).ids, (∃ k ∈ x.ids, mv i n k = j) := by
 have key : (∀ x : AV, ∀ j ∈ (x.ren (mv i n)).ids, ∃ k ∈ x.ids, mv i n k = j) ∧ (∀ l : List AV, ∀ j ∈ AV.idsL (AV.renL (mv i n) l), ∃ k ∈ AV.idsL l, mv i n k = j) := by
  have hL : ∀ (l : List AV), (∀ x ∈ l, ∀ j ∈ (x.ren (mv i n)).ids, ∃ k ∈ x.ids, mv i n k = j) → ∀ j ∈ AV.idsL (AV.renL (mv i n) l), ∃ k ∈ AV.idsL l, mv i n k = j := by
   intro l
   induction l with
   | nil => intro _ j hj; cases hj
   | cons y r ih =>
    intro h j hj
    simp only [AV.renL, AV.idsL, bS7] at hj ⊢
    rcases hj with hj | hj
    ·obtain ⟨k, h1, h2⟩ := h y bU5 j hj
     exact ⟨k, .inl h1, h2⟩
    ·obtain ⟨k, h1, h2⟩ := ih (fun x hx => h x (bU4 _ hx)) j hj
     exact ⟨k, .inr h1, h2⟩
  have hx : ∀ x : AV, ∀ j ∈ (x.ren (mv i n)).ids, ∃ k ∈ x.ids, mv i n k = j := fun x => goX hL x
  exact ⟨hx, fun l => hL l fun x _ => hx x⟩
 exact key.1 x
where
 goX {i n : Nat} (hL : ∀ (l : List AV), (∀ x ∈ l, ∀ j ∈ (x.ren (mv i n)).ids, ∃ k ∈ x.ids, mv i n k = j) → ∀ j ∈ AV.idsL (AV.renL (mv i n) l), ∃ k ∈ AV.idsL l, mv i n k = j) : ∀ x : AV, ∀ j ∈ (x.ren (mv i n)).ids, ∃ k ∈ x.ids, mv i n k = j
  | .v _, j, hj => by cases hj
  | .ptr a b, j, hj => ⟨a, bU1.2 rfl, (bU1.1 hj).symm⟩
  | .ea a b c d, j, hj => ⟨a, bU1.2 rfl, (bU1.1 hj).symm⟩
  | .ref a, j, hj => ⟨a, bU1.2 rfl, (bU1.1 hj).symm⟩
  | .tref a, j, hj => ⟨a, bU1.2 rfl, (bU1.1 hj).symm⟩
  | .agg l, j, hj => hL l (fun x _ => goX hL x) j hj
  | .tup l, j, hj => hL l (fun x _ => goX hL x) j hj
  | .fn _ l, j, hj => hL l (fun x _ => goX hL x) j hj
  | .bm _ l, j, hj => hL l (fun x _ => goX hL x) j hj
theorem s5.shift (G : s5 φ ψ w0 F N m ρ0 ρ S tm a w) (i n : Nat) (S1 : List It) (tm1 : List (Nat × AV)) (hn : (natEq S.length n && decide (i < n)) = true := by kernel_rfl) (hS : S1 = (S.map (It.ren (mv i n))).set i .dead ++ [(l8 S i).ren (mv i n)] := by kernel_rfl) (ht : tm1 = tm.map (fun p => (p.1, p.2.ren (mv i n))) := by kernel_rfl) :
  ∃ ρ', s5 φ ψ w0 F N m ρ0 ρ' S1 tm1 a w := by
 subst hS
 subst ht
 simp only [bR6, natEq, beq_iff_eq, decide_eq_true_eq] at hn
 obtain ⟨hn, hin⟩ := hn
 have hlen : ((S.map (It.ren (mv i n))).set i .dead ++ [(l8 S i).ren (mv i n)]).length = n + 1 := by simp [hn]
 have hat : ∀ j, l8 ((S.map (It.ren (mv i n))).set i .dead ++ [(l8 S i).ren (mv i n)]) j = if j = n then (l8 S i).ren (mv i n) else if j = i then .dead else (l8 S j).ren (mv i n) := fun j => by
  by_cases e : j = n
  ·subst e
   rw [if_pos rfl]
   simp only [l8, bR7]
   rw [List.getElem?_append_right (by simp [hn])]
   simp [hn]
  ·rw [if_neg e]
   by_cases e2 : j = i
   ·subst e2
    rw [if_pos rfl]
    simp only [l8, bR7]
    rw [bT3 (by simp; omega)]
    simp [show j < S.length by omega]
   ·rw [if_neg e2]
    simp only [l8, bR7]
    rcases bT8 j n with h | h
    ·rw [bT3 (by simp; omega), List.getElem?_set_ne (fun h => e2 h.symm), List.getElem?_map, bo2 (by omega)]
     rfl
    ·rw [bT2 (by simp; omega), bT2 (by omega)]; rfl
 have hbd : ∀ x : AV, (∀ j ∈ x.ids, j < n) → ∀ j ∈ (x.ren (mv i n)).ids, j < n + 1 := fun x h j hj => by
  obtain ⟨k, h1, h2⟩ := by8 j hj
  have := h k h1
  rw [← h2]; unfold mv
  split <;> omega
 let ρ1 : Nat → Value := fun j => if j = n then ρ i else ρ j
 have hmv : ∀ j, j < n → ρ1 (mv i n j) = ρ j := fun j hj => by
  show (if mv i n j = n then ρ i else ρ (mv i n j)) = ρ j
  by_cases e : j = i
  ·subst e; simp [mv, natEq]
  ·have h : mv i n j = j := by simp [mv, natEq, e]
   rw [h, if_neg (by omega)]
 have hval : ∀ x : AV, (∀ j ∈ x.ids, j < n) → (x.ren (mv i n)).val ρ1 = x.val ρ := fun x h => by
  rw [AV.val_ren]
  exact AV.val_congr x fun j hj => hmv j (h j hj)
 have hids : ∀ j, ∀ q ∈ (l8 S j).ids, q < n := fun j q hq => by have := (G.bd j).1 q hq; omega
 have hitem : ∀ j, ∀ q ∈ ((l8 S j).ren (mv i n)).ids, q < n + 1 := fun j q hq => by
  cases hx : l8 S j with
  | box cs =>
   rw [hx] at hq
   have h1 := hids j
   rw [hx] at h1
   exact hbd (.agg cs) h1 q hq
  | hole k d ls =>
   rw [hx] at hq
   have h1 := hids j
   rw [hx] at h1
   exact hbd (.ref k) h1 q hq
  | _ => rw [hx] at hq; cases hq
 refine ⟨ρ1, G.size, G.defs, fun t y hy => ?_, fun t y hy j hj => ?_, fun j => ⟨fun q hq => ?_, fun hj => s4 hj⟩, ?_, ?_, fun j hj => ?_⟩
 ·obtain ⟨x, h1, rfl⟩ := as5 hy
  rw [G.tmv t x h1, hval x fun j hj => by have := G.tmi t x h1 j hj; omega]
 ·obtain ⟨x, h1, rfl⟩ := as5 hy
  rw [hlen]
  exact hbd x (fun j hj => by have := G.tmi t x h1 j hj; omega) j hj
 ·rw [hlen]
  rw [hat] at hq
  split at hq
  ·exact hitem i q hq
  ·split at hq
   ·cases hq
   ·exact hitem j q hq
 ·refine G.mem.map (fun k : ι ⊕ Nat => (match k with | .inl q => some (.inl q) | .inr j => if j = n then some (.inr i) else if j = i then none else some (.inr j) : Option (ι ⊕ Nat))) ?_ ?_
  ·intro k k' x h1 h2
   match k, k' with
   | .inl q, .inl q' => simp at h1 h2; rw [← h1] at h2; simpa using h2.symm
   | .inl q, .inr j => simp at h1; subst h1; simp at h2; split at h2 <;> simp at h2
   | .inr j, .inl q => simp at h2; subst h2; simp at h1; split at h1 <;> simp at h1
   | .inr j, .inr j' =>
    simp only at h1 h2
    by_cases e1 : j = n <;> by_cases e2 : j' = n
    ·rw [e1, e2]
    ·rw [if_pos e1] at h1
     rw [if_neg e2] at h2
     by_cases e3 : j' = i
     ·rw [if_pos e3] at h2; cases h2
     ·rw [if_neg e3] at h2
      simp at h1 h2
      rw [← h1] at h2
      exact absurd (Sum.inr.inj h2) e3
    ·rw [if_pos e2] at h2
     rw [if_neg e1] at h1
     by_cases e3 : j = i
     ·rw [if_pos e3] at h1; cases h1
     ·rw [if_neg e3] at h1
      simp at h1 h2
      rw [← h2] at h1
      exact absurd (Sum.inr.inj h1) e3
    ·rw [if_neg e1] at h1
     rw [if_neg e2] at h2
     by_cases e3 : j = i
     ·rw [if_pos e3] at h1; cases h1
     ·by_cases e4 : j' = i
      ·rw [if_pos e4] at h2; cases h2
      ·rw [if_neg e3] at h1
       rw [if_neg e4] at h2
       simp at h1 h2
       rw [← h1] at h2
       rw [Sum.inr.inj h2]
  ·intro k
   match k with
   | .inl q => exact .inl ⟨_, rfl, rfl⟩
   | .inr j =>
    by_cases e : j = n
    ·refine .inl ⟨.inr i, by simp [e], ?_⟩
     simp only [l0]
     rw [hat, if_pos e]
     subst e
     have h1 : mv i j i = j := by simp [mv, natEq]
     rw [It.res_ren' (l8 S i) h1]
     exact It.res_congr _ (fun q hq => hmv q (hids i q hq)) (.inr (.inr (hmv i hin)))
    ·by_cases e2 : j = i
     ·refine .inr ?_
      simp only [l0]
      rw [hat, if_neg e, if_pos e2]
      rfl
     ·refine .inl ⟨.inr j, by simp [e, e2], ?_⟩
      simp only [l0]
      rw [hat, if_neg e, if_neg e2]
      rcases bT8 j n with hj | hj
      ·have h1 : mv i n j = j := by simp [mv, natEq, e2]
       rw [It.res_ren' (l8 S j) h1]
       exact It.res_congr _ (fun q hq => hmv q (hids j q hq)) (.inr (.inr (hmv j hj)))
      ·rw [s4 (by omega)]; rfl
 ·have := G.le; rw [hlen]; omega
 ·have := G.le
  show (if j = n then ρ i else ρ j) = ρ0 j
  rw [if_neg (by omega)]; exact G.old j hj
end
abbrev rN (l : List c7) : It := .row 122 (.instrs l)
abbrev rI (l : List Int) : It := .row 3 (.ints l)
theorem D0 (l : List c7) (fr : List Int) (at0 n o x y z u : Int) (h1 : l.length ≤ 8000000) (h2 : fr.length ≤ 8000000) : j5.ok Try.prog ⟨139, [.agg [.ref 0, .ref 1, iA at0], iA n, .agg [iA o, iA x, iA y, iA z, iA u]], [rN l, rI fr], [.dead, .dead, rN (l ++ [⟨o, x, y, z, u⟩]), rI (fr ++ [n])], .agg [.ref 2, .ref 3, iA at0]⟩ := by
 refine F5 20 Try.func139 [.row 122 (D.instrs l), .row 3 (D.ints fr)] [(0, .agg [.ref 0, .ref 1, iA at0]), (1, iA n), (2, .agg [iA o, iA x, iA y, iA z, iA u])] fun G => ?_; refine wp_seq (i7 G d8 [0, 1, 2, 10, 18] [.row 122 (D.instrs l), .row 3 (D.ints fr), .box [.ref 0, .ref 1, iA at0], .box [iA o, iA x, iA y, iA z, iA u], .box [.v (.slice none 0 0), .v (.slice none 0 0), iA 0]] [(1, iA n), (3, .ptr 2 0), (5, .ptr 3 0), (6, .ptr 4 0)] fun G => b0 (wp_seq (G4 G d8 [0, 1, 2, 4, 37] [.dead, .row 3 (D.ints fr), .box [.ref 4, .ref 1, iA at0], .box [.v (.slice none 0 0), .v (.slice none 0 0), iA 0], .row 122 (D.instrs (l ++ ([c7.mk o x y z u] ++ [])))] [(1, iA n), (3, .ptr 2 0), (6, .ptr 3 0)] (aP (l.length + 1) 40 []) (aK (by omega) bS4) fun G => b0 (wp_seq (G4 G d8 [0, 1, 2, 3, 4, 37] [.dead, .dead, .box [.ref 4, .ref 5, iA at0], .box [.v (.slice none 0 0), .v (.slice none 0 0), iA 0], .row 122 (D.instrs (l ++ ([c7.mk o x y z u] ++ []))), .row 3 (D.ints (fr ++ ([n] ++ [])))] [(3, .ptr 2 0), (6, .ptr 3 0)] (aP (fr.length + 1) 8 []) (aK (by omega) bS4) fun G => b0 (wp_seq (i7 G d8 [0, 1, 3, 4, 5] [.dead, .dead, .box [.ref 3, .ref 4, iA at0], .row 122 (D.instrs (l ++ ([c7.mk o x y z u] ++ []))), .row 3 (D.ints (fr ++ ([n] ++ [])))] [(6, .ptr 2 0)] fun G => b0 (wp_ret ?_)))))))); exact D8 G [0, 1, 3, 4]
abbrev l7C (l : List c7) (fr : List Int) (at0 n : Int) (e : c8) (reg : Int) : j5 := ⟨144, [.agg [.ref 0, .ref 1, iA at0], iA n, eA e 2, iA reg], [rN l, rI fr, dE e.kids], [.dead, .dead, dE e.kids, rN (l ++ b6 e reg), rI (fr ++ a04 (b6 e reg).length n)], .agg [.ref 3, .ref 4, iA at0]⟩
theorem ce1 {e : c8} {r : Int} (k : e.kind = 1) : b6 e r = [⟨1, r, e.value, 0, 0⟩] := by rw [aa7, if_pos k]
theorem ce2 {e : c8} {r : Int} (k : e.kind = 2) : b6 e r = [⟨2, r, e.value, 0, 0⟩] := by rw [aa7, if_neg (by omega), if_pos k]
theorem an5 (ks : List c8) (k : Nat) : K7 (ks.take k) ≤ K7 ks ∧ (k < ks.length → K7 (ks.take k) + 1 + O2 (ks.getD k aK4) ≤ K7 ks) ∧ (ks.take k).length ≤ K7 (ks.take k) := by
 refine ⟨?_, fun h => ?_, aI3 _⟩
 ·have := Y1 (ks.take k) (ks.drop k)
  rw [List.take_append_drop] at this
  omega
 ·have h1 := Y1 (ks.take (k + 1)) (ks.drop (k + 1))
  rw [List.take_append_drop, x5 _ _ h, Y1, ← o5 (d := aK4) h] at h1
  simp only [K7] at h1
  omega
section
variable {e : c8} {l : List c7} {fr : List Int} {n reg : Int} {k : Nat}
theorem aB5 (e : c8) : O2 e = K7 e.kids := by cases e; rfl
theorem bA1 (h0 : 0 ≤ reg) (h1 : reg + O2 e ≤ 2000000) (hk : k < e.kids.length) : 0 ≤ reg + (k : Int) ∧ reg + (k : Int) + O2 (e.kids.getD k aK4) ≤ 2000000 := by
 have h2 := (an5 e.kids k).2.1 hk
 have h3 := (an5 e.kids k).2.2
 rw [List.length_take] at h3
 rw [aB5] at h1
 omega
theorem bA2 (h2 : l.length + O2 e ≤ 5000000) (hk : k < e.kids.length) : (l ++ j6 (e.kids.take k) reg).length + O2 (e.kids.getD k aK4) ≤ 5000000 := by
 have h3 := (an5 e.kids k).2.1 hk
 have h4 := V6 (e.kids.take k) reg
 rw [aB5] at h2
 rw [bR8]
 omega
theorem aj2 (h2 : l.length + O2 e ≤ 5000000) : (l ++ j6 (e.kids.take k) reg).length ≤ 5000000 := by
 have h3 := (an5 e.kids k).1
 have h4 := V6 (e.kids.take k) reg
 rw [aB5] at h2
 rw [bR8]
 omega
theorem au3 (h3 : fr.length = l.length) : (fr ++ a04 (j6 (e.kids.take k) reg).length n).length = (l ++ j6 (e.kids.take k) reg).length := by simp [h3]
theorem bq5 (hk : k < e.kids.length) : l ++ j6 (e.kids.take (k + 1)) reg = l ++ j6 (e.kids.take k) reg ++ b6 (e.kids.getD k aK4) (reg + (k : Int)) := by rw [al7 hk, bV5]
theorem bh6 (hk : k < e.kids.length) : fr ++ a04 (j6 (e.kids.take (k + 1)) reg).length n = fr ++ a04 (j6 (e.kids.take k) reg).length n ++ a04 (b6 (e.kids.getD k aK4) (reg + (k : Int))).length n := by
 rw [al7 hk, bR8, bV5, List.replicate_append_replicate]
theorem bh5 : l = l ++ j6 (e.kids.take 0) reg := by simp [j6]
theorem a56 : fr = fr ++ a04 (j6 (e.kids.take 0) reg).length n := by simp [j6]
theorem aT9 (k1 : ¬ e.kind = 1) (k2 : ¬ e.kind = 2) (hk : e.kids.length ≤ k) {x : c7} (hx : ag8 e.kind e.value reg = x) : l ++ b6 e reg = l ++ j6 (e.kids.take k) reg ++ [x] := by
 rw [aa7, if_neg k1, if_neg k2, bT9 hk, hx, bV5]
theorem aF1 (k1 : ¬ e.kind = 1) (k2 : ¬ e.kind = 2) (hk : e.kids.length ≤ k) : fr ++ a04 (b6 e reg).length n = fr ++ a04 (j6 (e.kids.take k) reg).length n ++ [n] := by
 rw [aa7, if_neg k1, if_neg k2, bT9 hk, bV5, bR8, bS1, bS6, List.replicate_succ']
theorem la3 (k : e.kind = 3) : ag8 e.kind e.value reg = ⟨4, reg, e.value, reg, 0⟩ := by rw [ag8, if_pos k]
theorem bQ1 (k : e.kind = 11) : ag8 e.kind e.value reg = ⟨7, reg, reg, reg + 1, reg + 2⟩ := by rw [ag8, if_neg (by omega), if_pos k]
theorem la0 (k3 : ¬ e.kind = 3) (k : ¬ e.kind = 11) : ag8 e.kind e.value reg = ⟨6, reg, e.kind, reg, reg + 1⟩ := by rw [ag8, if_neg k3, if_neg k]
end
abbrev T0 (e : c8) (l : List c7) (fr : List Int) (n : Int) (reg : Int) : List It := [.dead, .dead, dE e.kids, .row 122 (D.instrs (l ++ b6 e reg)), .row 3 (D.ints (fr ++ a04 (b6 e reg).length n))]
abbrev P7 (n : Int) (reg : Int) (r0 : List (Nat × AV)) : List (Nat × AV) := (1, iA n) :: (3, iA reg) :: (4, .ptr 3 0) :: (6, .ptr 4 0) :: (8, .ptr 5 0) :: r0
abbrev aA8 (e : c8) (at0 : Int) (r0 : List It) : List It := .dead :: .dead :: dE e.kids :: .box [.ref 6, .ref 7, iA at0] :: .box (eL e 2) :: .box [.v (.slice none 0 0), .v (.slice none 0 0), iA 0] :: r0
theorem bb4 (e : c8) (ih : ∀ (u : c8), u ∈ e.kids → ∀ (l : List c7) (fr : List Int) (at0 n reg : Int), 0 ≤ reg → reg + O2 u ≤ 2000000 → l.length + O2 u ≤ 5000000 → fr.length = l.length → j5.ok Try.prog (l7C l fr at0 n u reg)) (l : List c7) (fr : List Int) (at0 n reg : Int) (r0 : 0 ≤ reg) (r1 : reg + O2 e ≤ 2000000) (r2 : l.length + O2 e ≤ 5000000) (r3 : fr.length = l.length) : j5.ok Try.prog (l7C l fr at0 n e reg) := by
  refine F5 82 Try.func144 [.row 122 (D.instrs l), .row 3 (D.ints fr), dE e.kids] [(0, .agg [.ref 0, .ref 1, iA at0]), (1, iA n), (2, eA e 2), (3, iA reg)] fun G => ?_
  have hlen : e.kids.length ≤ O2 e := by cases e; exact aI3 _
  refine wp_seq (i7 G d8 [0, 1, 2, 3, 11, 19] [.row 122 (D.instrs l), .row 3 (D.ints fr), dE e.kids, .box [.ref 0, .ref 1, iA at0], .box (eL e 2), .box [.v (.slice none 0 0), .v (.slice none 0 0), iA 0]] (P7 n reg []) fun G => b0 (wp_seq (wp_seq (j7 G d8 [(11, iA e.kind)] fun G => b0 (wp_block (wp_seq (j7 G d8 [(12, bA (e.kind == 1))] fun G => b0 (H6 G (fun h0 q0 => ?_) fun h0 q0 => ?_))))))))
  ·
   refine wp_seq (j7 G d8 [(21, bA (e.kind == 2))] fun G => b0 (H6 G (fun h1 q1 => ?_) fun h1 q1 => ?_))
   ·
    refine wp_skip (i8 (b0 (wp_seq (wp_seq (D6 G d8 (P7 n reg [(9, iA 0)]) fun G => b0 (wp_block ?_)))))); obtain ⟨ρ, G⟩ := G.shift 0 6 [.dead, .row 3 (D.ints fr), dE e.kids, .box [.ref 6, .ref 1, iA at0], .box (eL e 2), .box [.v (.slice none 0 0), .v (.slice none 0 0), iA 0], .row 122 (D.instrs l)] (P7 n reg [(9, iA 0)]); obtain ⟨ρ, G⟩ := G.shift 1 7 (aA8 e at0 [.row 122 (D.instrs l), .row 3 (D.ints fr)]) (P7 n reg [(9, iA 0)]); replace G := G.as (aA8 e at0 [.row 122 (D.instrs (l ++ j6 (bS3 0 e.kids) reg)), .row 3 (D.ints (fr ++ a04 (j6 (bS3 0 e.kids) reg).length n))]) (P7 n reg [(9, iA 0)]) (by have e1 : (l ++ j6 (bS3 0 e.kids) reg : List c7) = (l) := bh5.symm; have e2 : (fr ++ a04 (j6 (bS3 0 e.kids) reg).length n : List Int) = (fr) := a56.symm; (first | rw [e1, e2] | simp only [e1, e2]) <;> rfl) (by kernel_rfl); refine t6 (κ := Nat) (fun k => k ≤ e.kids.length) (fun k => e.kids.length - k) (fun k => [.dead, .dead, dE e.kids, .box [.ref 6, .ref 7, iA at0], .box (eL e 2), .box [.v (.slice none 0 0), .v (.slice none 0 0), iA 0], .row 122 (.instrs (l ++ j6 (e.kids.take k) reg)), .row 3 (.ints (fr ++ a04 (j6 (e.kids.take k) reg).length n))]) (fun k => [(1, iA n), (3, iA reg), (4, .ptr 3 0), (6, .ptr 4 0), (8, .ptr 5 0), (9, iA k)]) 0 (by omega) (s5.at G _ _) ?_; clear G; intro k ρ a w hp G; replace G := s5.at G (aA8 e at0 [.row 122 (D.instrs (l ++ j6 (bS3 k e.kids) reg)), .row 3 (D.ints (fr ++ a04 (j6 (bS3 k e.kids) reg).length n))]) (P7 n reg [(9, iA k)]); refine wp_seq (wp_seq (j7 G d8 [(34, bA (decide ((k : Int) < e.kids.length)))] fun G => b0 (rcD G (fun h2 q2 => ?_) fun h2 q2 => ?_)))
    ·
     refine wp_exit (t3 (t3 (t2 (b0 (wp_seq (wp_seq (j7 G d8 [(49, iA e.kind)] fun G => b0 (wp_block (wp_seq (j7 G d8 [(50, bA (e.kind == 3))] fun G => b0 (H6 G (fun h3 q3 => ?_) fun h3 q3 => ?_)))))))))))
     ·
      refine wp_seq (j7 G d8 [(60, bA (e.kind == 11))] fun G => b0 (H6 G (fun h4 q4 => ?_) fun h4 q4 => ?_))
      · refine wp_skip (i8 (b0 (wp_seq (G4 G (r7 9 [6, 7] (D0 (l ++ j6 (bS3 k e.kids) reg) (fr ++ a04 (j6 (bS3 k e.kids) reg).length n) at0 n 6 reg e.kind reg (reg + 1) (by have := aj2 (k := k) (reg := reg) r2; have := au3 (e := e) (n := n) (k := k) (reg := reg) r3; omega) (by have := aj2 (k := k) (reg := reg) r2; have := au3 (e := e) (n := n) (k := k) (reg := reg) r3; omega))) [0, 1, 2, 5, 80, 81] [.dead, .dead, dE e.kids, .box [.ref 4, .ref 5, iA at0], .row 122 (D.instrs (l ++ j6 (bS3 k e.kids) reg ++ [c7.mk 6 reg e.kind reg (reg + 1)])), .row 3 (D.ints (fr ++ a04 (j6 (bS3 k e.kids) reg).length n ++ [n]))] [(8, .ptr 3 0)] [wO (reg + 1)] (o1 (by omega)) fun G => b0 (wp_ret ?_))))); exact D8 G [0, 1, 2, 4, 5] (by show _ = mR [0, 1, 2, 4, 5] (T0 e l fr n reg); unfold T0; have e1 : (l ++ b6 e reg : List c7) = (l ++ j6 (bS3 k e.kids) reg ++ [c7.mk 6 reg e.kind reg (reg + 1)]) := (aT9 (by omega) (by omega) (by omega) (la0 (by omega) (by omega))); have e2 : (fr ++ a04 (b6 e reg).length n : List Int) = (fr ++ a04 (j6 (bS3 k e.kids) reg).length n ++ [n]) := (aF1 (by omega) (by omega) (by omega)); (first | rw [e1, e2] | simp only [e1, e2]) <;> rfl)
      · refine wp_seq (G4 G (r7 9 [6, 7] (D0 (l ++ j6 (bS3 k e.kids) reg) (fr ++ a04 (j6 (bS3 k e.kids) reg).length n) at0 n 7 reg reg (reg + 1) (reg + 2) (by have := aj2 (k := k) (reg := reg) r2; have := au3 (e := e) (n := n) (k := k) (reg := reg) r3; omega) (by have := aj2 (k := k) (reg := reg) r2; have := au3 (e := e) (n := n) (k := k) (reg := reg) r3; omega))) [0, 1, 2, 3, 4, 5, 6, 7, 80, 81] [.dead, .dead, dE e.kids, .box [.ref 6, .ref 7, iA at0], .box (eL e 2), .box [.ref 8, .ref 9, iA at0], .dead, .dead, .row 122 (D.instrs (l ++ j6 (bS3 k e.kids) reg ++ [c7.mk 7 reg reg (reg + 1) (reg + 2)])), .row 3 (D.ints (fr ++ a04 (j6 (bS3 k e.kids) reg).length n ++ [n]))] (P7 n reg []) [wO (reg + 1), wO (reg + 2)] (o2 (by omega)) fun G => b0 (wp_ret (C9 (n8 ?_)))); exact D8 G [0, 1, 2, 8, 9] (by show _ = mR [0, 1, 2, 8, 9] (T0 e l fr n reg); unfold T0; have e1 : (l ++ b6 e reg : List c7) = (l ++ j6 (bS3 k e.kids) reg ++ [c7.mk 7 reg reg (reg + 1) (reg + 2)]) := (aT9 (by omega) (by omega) (by omega) (bQ1 (by omega))); have e2 : (fr ++ a04 (b6 e reg).length n : List Int) = (fr ++ a04 (j6 (bS3 k e.kids) reg).length n ++ [n]) := (aF1 (by omega) (by omega) (by omega)); (first | rw [e1, e2] | simp only [e1, e2]) <;> rfl)
     · refine wp_seq (i7 G (r7 7 [6, 7] (D0 (l ++ j6 (bS3 k e.kids) reg) (fr ++ a04 (j6 (bS3 k e.kids) reg).length n) at0 n 4 reg e.value reg 0 (by have := aj2 (k := k) (reg := reg) r2; have := au3 (e := e) (n := n) (k := k) (reg := reg) r3; omega) (by have := aj2 (k := k) (reg := reg) r2; have := au3 (e := e) (n := n) (k := k) (reg := reg) r3; omega))) [0, 1, 2, 3, 4, 5, 6, 7, 64, 65] [.dead, .dead, dE e.kids, .box [.ref 6, .ref 7, iA at0], .box (eL e 2), .box [.ref 8, .ref 9, iA at0], .dead, .dead, .row 122 (D.instrs (l ++ j6 (bS3 k e.kids) reg ++ [c7.mk 4 reg e.value reg 0])), .row 3 (D.ints (fr ++ a04 (j6 (bS3 k e.kids) reg).length n ++ [n]))] (P7 n reg []) fun G => b0 (wp_ret (C9 (n8 ?_)))); exact D8 G [0, 1, 2, 8, 9] (by show _ = mR [0, 1, 2, 8, 9] (T0 e l fr n reg); unfold T0; have e1 : (l ++ b6 e reg : List c7) = (l ++ j6 (bS3 k e.kids) reg ++ [c7.mk 4 reg e.value reg 0]) := (aT9 (by omega) (by omega) (by omega) (la3 (by omega))); have e2 : (fr ++ a04 (b6 e reg).length n : List Int) = (fr ++ a04 (j6 (bS3 k e.kids) reg).length n ++ [n]) := (aF1 (by omega) (by omega) (by omega)); (first | rw [e1, e2] | simp only [e1, e2]) <;> rfl)
    · refine wp_skip (b0 (wp_seq (wp_block (C8 G (r7 10 [6, 7, 56] (ih (e.kids.getD k aK4) (bf8 (by omega)) (l ++ j6 (bS3 k e.kids) reg) (fr ++ a04 (j6 (bS3 k e.kids) reg).length n) at0 n (reg + (k : Int)) (by omega) ((bA1 r0 r1 (by omega)).2) (bA2 r2 (by omega)) (au3 r3))) [0, 0, 0, 4, 0, 28, 60, 0, 0, 384, 1023, 2047] [0, 1, 2, 3, 4, 5, 88, 89] (aA8 e at0 [.row 122 (D.instrs (l ++ j6 (bS3 k e.kids) reg ++ b6 (e.kids.getD k aK4) (reg + (k : Int)))), .row 3 (D.ints (fr ++ a04 (j6 (bS3 k e.kids) reg).length n ++ a04 (b6 (e.kids.getD k aK4) (reg + (k : Int))).length n))]) (P7 n reg [(9, iA k)]) (iX k k e.kids.length ((wO (reg + (k : Int))) :: [])) (iK (by omega) (o1 (by omega))) fun G => i8 (b0 (A0 G d8 [(9, iA ((k : Int) + 1))] [wO ((k : Int) + 1)] (o1 (by omega)) fun G => b0 ?_)))))); exact H9 G (k + 1) (by omega) (by omega) (rg 8) (by have e1 : (l ++ j6 (bS3 (k + 1) e.kids) reg : List c7) = (l ++ j6 (bS3 k e.kids) reg ++ b6 (e.kids.getD k aK4) (reg + (k : Int))) := (bq5 (by omega)); have e2 : (fr ++ a04 (j6 (bS3 (k + 1) e.kids) reg).length n : List Int) = (fr ++ a04 (j6 (bS3 k e.kids) reg).length n ++ a04 (b6 (e.kids.getD k aK4) (reg + (k : Int))).length n) := (bh6 (by omega)); (first | rw [e1, e2] | simp only [e1, e2]) <;> rfl)
   · refine wp_seq (i7 G (r7 6 [0, 1] (D0 l fr at0 n 2 reg e.value 0 0 (by omega) (by omega))) [0, 1, 2, 3, 4, 5, 54, 55] [.dead, .dead, dE e.kids, .box [.ref 0, .ref 1, iA at0], .box (eL e 2), .box [.ref 6, .ref 7, iA at0], .row 122 (D.instrs (l ++ [c7.mk 2 reg e.value 0 0])), .row 3 (D.ints (fr ++ [n]))] (P7 n reg []) fun G => b0 (wp_ret (C9 (n8 ?_)))); exact D8 G [0, 1, 2, 6, 7] (by show _ = mR [0, 1, 2, 6, 7] (T0 e l fr n reg); unfold T0; rw [ce2 (by omega)] <;> rfl)
  · refine wp_seq (i7 G (r7 6 [0, 1] (D0 l fr at0 n 1 reg e.value 0 0 (by omega) (by omega))) [0, 1, 2, 3, 4, 5, 54, 55] [.dead, .dead, dE e.kids, .box [.ref 0, .ref 1, iA at0], .box (eL e 2), .box [.ref 6, .ref 7, iA at0], .row 122 (D.instrs (l ++ [c7.mk 1 reg e.value 0 0])), .row 3 (D.ints (fr ++ [n]))] (P7 n reg []) fun G => b0 (wp_ret (C9 (n8 ?_)))); exact D8 G [0, 1, 2, 6, 7] (by show _ = mR [0, 1, 2, 6, 7] (T0 e l fr n reg); unfold T0; rw [ce1 (by omega)] <;> rfl)
theorem aN1 (e : c8) : ∀ (l : List c7) (fr : List Int) (at0 n reg : Int), 0 ≤ reg → reg + O2 e ≤ 2000000 → l.length + O2 e ≤ 5000000 → fr.length = l.length → j5.ok Try.prog (l7C l fr at0 n e reg) :=
 c8.ind (P := fun e => ∀ (l : List c7) (fr : List Int) (at0 n reg : Int), 0 ≤ reg → reg + O2 e ≤ 2000000 → l.length + O2 e ≤ 5000000 → fr.length = l.length → j5.ok Try.prog (l7C l fr at0 n e reg)) (fun k v ks ih l fr at0 n reg r0 r1 r2 r3 => bb4 ⟨k, v, ks⟩ (fun u hu => ih u hu) l fr at0 n reg r0 r1 r2 r3) e
theorem V8 (op : Int) (r0 : 1 ≤ op ∧ op ≤ 13) : j5.ok Try.prog (X8 124 [iA op] [] (.v (.string ⟨(e6 op).toArray⟩))) :=
 ar7 fun φ w ρ h => (ac2 op w r0.1 r0.2).mono fun e w' h => h
theorem H0 (b : List UInt8) (j : Int) (r0 : 0 ≤ j) (r1 : j ≤ 900000000) : j5.ok Try.prog ⟨93, [.ptr 0 0], [.box [.ref 1, iA j], dY b], [.box [.ref 1, iA (j + 1)], dY b], iA (nm b j W9)⟩ := by
 refine F5 6 Try.func93 [.box [.ref 1, iA j], dY b] [(0, .ptr 0 0)] fun G => ?_; refine wp_seq (j7 G d8 [(2, iA 0)] fun G => b0 (wp_seq (i7 G (r7 2 [0, 1, 10] (j5.lend (H3 b j ([0] ++ ([1] ++ ([2] ++ ([3] ++ ([255] ++ ([128] ++ ([7] ++ ([4] ++ ([100] ++ []))))))))) (List.cons_ne_nil _ _) (by assumption) (by omega)) [.no, .no, .row 3])) [0, 1] [.box [.ref 1, iA (j + 1)], dY b] [(2, iA (nm b j ([0] ++ ([1] ++ ([2] ++ ([3] ++ ([255] ++ ([128] ++ ([7] ++ ([4] ++ ([100] ++ [])))))))))))] fun G => b0 (wp_ret ?_)))); exact D8 G [0, 1]
theorem bx6 : ∀ x ∈ opL, 1 ≤ x ∧ x ≤ 12 := by decide
theorem bO1 (b : List UInt8) {j : Int} (r0 : 0 ≤ j) (r1 : j ≤ 900000000) : 1 ≤ nm b j opL ∧ nm b j opL ≤ 12 := bx6 _ (ad3 b r0 (by omega) (List.cons_ne_nil _ _))
abbrev rnC (b : List UInt8) (j : Int) (vs ars : List Int) (l : List c7) (at0 n : Int) : j5 := ⟨118, [.ptr 0 0, .agg [.ref 2, .ref 3, .ref 4], iA at0, iA n], [.box [.ref 1, iA j], dY b, dI vs, dI ars, dN l], [.box [.ref 1, iA (Q2 b j vs.length ars.length at0 n).2], dY b, dI vs, dI ars, dN l], .agg [iA (Q2 b j vs.length ars.length at0 n).1.op, iA (Q2 b j vs.length ars.length at0 n).1.a, iA (Q2 b j vs.length ars.length at0 n).1.b, iA (Q2 b j vs.length ars.length at0 n).1.c, iA (Q2 b j vs.length ars.length at0 n).1.d]⟩
theorem aI0 {x : UInt8} {m : Nat} (h : ((x.toNat : Nat) : Int) = m) (hm : m < 256) : x = UInt8.ofNat m := by
 apply UInt8.toNat_inj.1
 rw [UInt8.toNat_ofNat']
 omega
section
variable {b : List UInt8} {j i at0 n X : Int} {nv na : Nat} {ks : List UInt8} {k : Nat} {x : UInt8}
theorem am3 (hX : nm b j opL = X) (h : na = 0) (h2 : X = 4 ∨ X = 5) : opD b j na = 2 := by unfold opD; rw [hX, if_pos ⟨h, h2⟩]
theorem am2 (hX : nm b j opL = X) (h : ¬ na = 0 ∨ (¬ X = 4 ∧ ¬ X = 5)) : opD b j na = X := by unfold opD; rw [hX, if_neg (by omega)]
theorem V0 (b : List UInt8) {i m : Int} (h0 : 0 ≤ i) (h1 : i ≤ 1000000000) : 0 ≤ pk b i m ∧ (pk b i m = 0 ∨ pk b i m < m) := by
 by_cases h : m < 1
 ·rw [bE1 h]; omega
 ·have := bo0 b h0 h1 (n := m) (by omega); omega
theorem bn6 (h : ((x.toNat : Nat) : Int) = 114) : ptD b i nv na at0 n x = pk b i 3 := by
 rw [aI0 (m := 114) h (by decide)]; rfl
theorem bn8 (h : ((x.toNat : Nat) : Int) = 99) : ptD b i nv na at0 n x = nm b i W9 := by
 rw [aI0 (m := 99) h (by decide)]; rfl
theorem bn4 (h : ((x.toNat : Nat) : Int) = 118) : ptD b i nv na at0 n x = pk b i nv := by
 rw [aI0 (m := 118) h (by decide)]; rfl
theorem bn9 (h : ((x.toNat : Nat) : Int) = 97) : ptD b i nv na at0 n x = pk b i na := by
 rw [aI0 (m := 97) h (by decide)]; rfl
theorem bn7 (h : ((x.toNat : Nat) : Int) = 111) : ptD b i nv na at0 n x = 4 + pk b i 7 := by
 rw [aI0 (m := 111) h (by decide)]; rfl
theorem bn5 (h1 : ¬ ((x.toNat : Nat) : Int) = 114) (h2 : ¬ ((x.toNat : Nat) : Int) = 99) (h3 : ¬ ((x.toNat : Nat) : Int) = 118) (h4 : ¬ ((x.toNat : Nat) : Int) = 97) (h5 : ¬ ((x.toNat : Nat) : Int) = 111) : ptD b i nv na at0 n x = at0 + 1 + pk b i (n - at0 - 1) := by
 unfold ptD
 rw [if_neg fun e => h1 (by rw [e]; rfl), if_neg fun e => h2 (by rw [e]; rfl), if_neg fun e => h3 (by rw [e]; rfl), if_neg fun e => h4 (by rw [e]; rfl), if_neg fun e => h5 (by rw [e]; rfl)]
theorem bN5 {v : Int} (hk : k < 4) (h : ptD b (j + k) nv na at0 n (ks.getD k 0) = v) : psD b j nv na at0 n ks (k + 1) = (psD b j nv na at0 n ks k).set k v := by rw [bd0 b j nv na at0 n ks hk, h]
theorem fl2 : (e6 2).length = 2 := rfl
theorem bsz (l : List UInt8) : (ByteArray.mk l.toArray).size = l.length := by simp [ByteArray.size]
theorem bM4 (ho : opD b j na = X) (hk : (e6 X).length ≤ k) (hk2 : k ≤ (e6 X).length) : Q2 b j nv na at0 n = (⟨X, (psD b (j + 1) nv na at0 n (e6 X) k).getD 0 0, (psD b (j + 1) nv na at0 n (e6 X) k).getD 1 0, (psD b (j + 1) nv na at0 n (e6 X) k).getD 2 0, (psD b (j + 1) nv na at0 n (e6 X) k).getD 3 0⟩, j + 1 + k) := by
 have e : k = (e6 X).length := by omega
 subst e
 unfold Q2
 rw [ho]
def RnR (b : List UInt8) (j at0 n : Int) (nv na : Nat) (R : Int → Nat → List Int) : Prop := ∀ X k, R X k = psD b (j + 1) nv na at0 n (e6 X) k
variable {R : Int → Nat → List Int}
theorem RnR.len (h : RnR b j at0 n nv na R) (X : Int) (k : Nat) : (R X k).length = 4 := by rw [h X k, aZ2]
theorem RnR.start (h : RnR b j at0 n nv na R) (X : Int) : R X 0 = [0, 0, 0, 0] := h X 0
theorem RnR.next (h : RnR b j at0 n nv na R) {X v : Int} (hk : k < 4) (hp : ptD b (j + 1 + k) nv na at0 n ((e6 X).getD k 0) = v) : R X (k + 1) = (R X k).set k v := by rw [h X (k + 1), h X k]; exact bN5 hk hp
theorem RnR.done (h : RnR b j at0 n nv na R) {X : Int} (ho : opD b j na = X) (hk : (e6 X).length ≤ k) (hk2 : k ≤ (e6 X).length) : Q2 b j nv na at0 n = (⟨X, (R X k).getD 0 0, (R X k).getD 1 0, (R X k).getD 2 0, (R X k).getD 3 0⟩, j + 1 + k) := by rw [h X k]; exact bM4 ho hk hk2
end
abbrev bB4 : It := .box [iA 0, iA 0, iA 0, iA 0, iA 0]
abbrev F8 (j : Int) (k : Nat) : It := .box [.ref 1, iA (j + 1 + (k : Int) + 1)]
abbrev J0 (X : Int) : AV := .v (.string (ByteArray.mk (e6 X).toArray))
abbrev I9 : AV := .v (.string (ByteArray.mk (e6 2).toArray))
abbrev L4 : It := .box [iA 2, iA 0, iA 0, iA 0, iA 0]
abbrev N4 (X : Int) : It := .box [iA X, iA 0, iA 0, iA 0, iA 0]
abbrev al0 (j : Int) (k : Nat) : It := .box [.ref 1, iA (j + 1 + (k : Int))]
abbrev aX3 : It := .row 3 (D.ints ([0] ++ ([0] ++ ([0] ++ ([0] ++ [])))))
abbrev v5 (at0 : Int) (n : Int) (r0 : List (Nat × AV)) : List (Nat × AV) := (0, .ptr 0 0) :: (2, iA at0) :: (3, iA n) :: (5, .ptr 5 0) :: (8, .ptr 6 0) :: (9, .ptr 7 0) :: r0
abbrev y7 (b : List UInt8) (vs : List Int) (ars : List Int) (l : List c7) (r0 : List It) : List It := dY b :: dI vs :: dI ars :: dN l :: .box (pL 2) :: bB4 :: r0
abbrev C5 (k : Nat) (r0 : List (Nat × AV)) : List (Nat × AV) := (11, .ref 8) :: (12, iA (k : Int)) :: r0
theorem aQ2 (b : List UInt8) (j : Int) (vs ars : List Int) (l : List c7) (at0 n X : Int) (hX : nm b j opL = X) (r0 : 0 ≤ j) (r1 : j ≤ 800000000) (r2 : 0 ≤ at0 ∧ at0 ≤ 100) (r3 : 0 ≤ n ∧ n ≤ 100) : j5.ok Try.prog (rnC b j vs ars l at0 n) := by
  have hnum : j5.ok Try.prog ⟨27, [.ptr 0 0, .ref 2], [.box [.ref 1, iA j], dY b, dI opL], [.box [.ref 1, iA (j + 1)], dY b, dI opL], iA X⟩ := hX ▸ H3 b j opL (List.cons_ne_nil _ _) r0 (by omega); refine F5 114 Try.func118 [.box [.ref 1, iA j], dY b, dI vs, dI ars, dN l] [(0, .ptr 0 0), (1, pA 2), (2, iA at0), (3, iA n)] fun G => ?_; obtain ⟨R, hR⟩ : ∃ x : Int → Nat → List Int, RnR b j at0 n vs.length ars.length x := ⟨_, fun _ _ => rfl⟩; have hRl := hR.len; have hop : 1 ≤ X ∧ X ≤ 12 := hX ▸ bO1 b r0 (by omega); refine wp_seq (i7 G d8 [0, 1, 2, 3, 4, 5, 13] (.box [.ref 1, iA j] :: (y7 b vs ars l [])) [(0, .ptr 0 0), (2, iA at0), (3, iA n), (5, .ptr 5 0), (8, .ptr 6 0)] fun G => b0 (wp_seq (i7 G (r7 2 [0, 1, 15] (j5.lend hnum [.no, .no, .row 3])) [0, 1, 2, 3, 4, 5, 6, 39] (.box [.ref 1, iA (j + 1)] :: (y7 b vs ars l [N4 X])) (v5 at0 n []) fun G => b0 (wp_seq (wp_seq ?_))))); cases h0 : ((ars.length : Int) == 0)
  ·
   have q0 := ne_of_beq_false h0; refine j7 G (E7 (fc h0 fz) (us [(5, 8, 0), (12, 12, 0), (1013, 1013, 0)])) [(30, bA false)] fun G => b0 (rF G false (by kernel_rfl) (wp_skip (b0 (wp_seq (j7 G (r7 2 [] (V8 X (by omega))) [(10, J0 X)] fun G => b0 (wp_seq (i7 G d8 (rg 9) (.box [.ref 1, iA (j + 1)] :: (y7 b vs ars l [N4 X, aX3])) (v5 at0 n [(10, J0 X), (11, .ref 8)]) fun G => b0 (wp_seq (wp_seq (D6 G d8 (v5 at0 n [(10, J0 X), (11, .ref 8), (12, iA 0)]) fun G => b0 (wp_block ?_))))))))))); replace G := G.as [.box [.ref 1, iA (j + 1 + (0 : Int))], dY b, dI vs, dI ars, dN l, .box (pL 2), .box [iA 0, iA 0, iA 0, iA 0, iA 0], .box [iA X, iA 0, iA 0, iA 0, iA 0], .row 3 (D.ints (R X 0))] (v5 at0 n [(10, .v (.string (ByteArray.mk (e6 X).toArray))), (11, .ref 8), (12, iA 0)]) (by have e1 : (j + 1 + (0 : Int) : Int) = (j + 1) := (by omega); have e2 : (R X 0 : List Int) = ([0] ++ ([0] ++ ([0] ++ ([0] ++ [])))) := (hR.start _); (first | rw [e1, e2] | simp only [e1, e2]) <;> rfl) (by kernel_rfl); refine t6 (κ := Nat) (fun k => k ≤ (e6 X).length) (fun k => (e6 X).length - k) (fun k => [.box [.ref 1, iA (j + 1 + k)], dY b, dI vs, dI ars, dN l, .box (pL 2), .box [iA 0, iA 0, iA 0, iA 0, iA 0], .box [iA X, iA 0, iA 0, iA 0, iA 0], .row 3 (.ints (R X k))]) (fun k => [(0, .ptr 0 0), (2, iA at0), (3, iA n), (5, .ptr 5 0), (8, .ptr 6 0), (9, .ptr 7 0), (10, .v (.string (ByteArray.mk (e6 X).toArray))), (11, .ref 8), (12, iA k)]) 0 (by omega) (s5.at G _ _) ?_; clear G; intro k ρ a w hp G; replace G := s5.at G (al0 j k :: (y7 b vs ars l [N4 X, .row 3 (D.ints (R X k))])) (v5 at0 n ((10, J0 X) :: (C5 k []))); have hfl := M5 X; have hbz := bsz (e6 X); refine wp_seq (wp_seq (j7 G d8 [(39, bA (decide ((k : Int) < ((ByteArray.mk (e6 X).toArray).size : Int))))] fun G => b0 (rcD G (fun h3 q3 => ?_) fun h3 q3 => ?_)))
   · refine wp_exit (t3 (t3 (t2 (b0 (wp_seq (C8 G d8 [0, 1, 0, 4, 12, 0, 32, 96, 0, 256, 768, 0, 2048, 6144, 16383, 32767] [0, 1, 2, 3, 4, 6] [al0 j k, dY b, dI vs, dI ars, dN l, .box [iA X, iA ((R X k).getD 0 0), iA ((R X k).getD 1 0), iA ((R X k).getD 2 0), iA ((R X k).getD 3 0)]] [(8, .ptr 5 0)] [(0 : Int) ≤ 0, (0 : Int) < ((R X k).length : Int), (0 : Nat) < (R X k).length, (0 : Int) ≤ 1, (1 : Int) < ((R X k).length : Int), (1 : Nat) < (R X k).length, (0 : Int) ≤ 2, (2 : Int) < ((R X k).length : Int), (2 : Nat) < (R X k).length, (0 : Int) ≤ 3, (3 : Int) < ((R X k).length : Int), (3 : Nat) < (R X k).length] ⟨(by omega), (by rw [hRl]; decide), (by rw [hRl]; decide), (by omega), (by rw [hRl]; decide), (by rw [hRl]; decide), (by omega), (by rw [hRl]; decide), (by rw [hRl]; decide), (by omega), (by rw [hRl]; decide), (by rw [hRl]; decide), bS4⟩ fun G => b0 (wp_ret ?_))))))); exact Q1 (.agg [iA X, iA ((R X k).getD 0 0), iA ((R X k).getD 1 0), iA ((R X k).getD 2 0), iA ((R X k).getD 3 0)]) G (rg 5) (by have e1 : ((Q2 b j vs.length ars.length at0 n).fst.op : Int) = (X) := (by rw [hR.done (k := k) (am2 hX (by omega)) (by omega) (by omega)]; done); have e2 : ((Q2 b j vs.length ars.length at0 n).fst.a : Int) = ((R X k).getD 0 0) := (by rw [hR.done (k := k) (am2 hX (by omega)) (by omega) (by omega)]; done); have e3 : ((Q2 b j vs.length ars.length at0 n).fst.b : Int) = ((R X k).getD 1 0) := (by rw [hR.done (k := k) (am2 hX (by omega)) (by omega) (by omega)]; done); have e4 : ((Q2 b j vs.length ars.length at0 n).fst.c : Int) = ((R X k).getD 2 0) := (by rw [hR.done (k := k) (am2 hX (by omega)) (by omega) (by omega)]; done); have e5 : ((Q2 b j vs.length ars.length at0 n).fst.d : Int) = ((R X k).getD 3 0) := (by rw [hR.done (k := k) (am2 hX (by omega)) (by omega) (by omega)]; done); (first | rw [e1, e2, e3, e4, e5] | simp only [e1, e2, e3, e4, e5]) <;> rfl) (by show _ = mR (rg 5) [.box [.ref 1, iA (Q2 b j vs.length ars.length at0 n).snd], dY b, dI vs, dI ars, dN l]; rw [hR.done (k := k) (am2 hX (by omega)) (by omega) (by omega)] <;> rfl)
   ·
    refine wp_skip (b0 (wp_seq (wp_block (wp_seq (A0 G d8 [(44, .v (.int .u8 (((e6 X).getD k 0).toNat : Int)))] [(0 : Int) ≤ (k : Int), (k : Int) < ((ByteArray.mk (e6 X).toArray).size : Int)] ⟨(by omega), (by assumption), bS4⟩ fun G => b0 (wp_block (wp_seq (j7 G d8 [(57, bA ((((e6 X).getD k 0).toNat : Int) == 114))] fun G => b0 (H6 (u := (((e6 X).getD k (0 : UInt8)).toNat : Int)) (v := (114 : Int)) G (fun h4 q4 => ?_) fun h4 q4 => ?_)))))))))
    ·
     refine wp_seq (j7 G d8 [(64, bA ((((e6 X).getD k 0).toNat : Int) == 99))] fun G => b0 (H6 (u := (((e6 X).getD k (0 : UInt8)).toNat : Int)) (v := (99 : Int)) G (fun h5 q5 => ?_) fun h5 q5 => ?_))
     ·
      refine wp_seq (j7 G d8 [(71, bA ((((e6 X).getD k 0).toNat : Int) == 118))] fun G => b0 (H6 (u := (((e6 X).getD k (0 : UInt8)).toNat : Int)) (v := (118 : Int)) G (fun h6 q6 => ?_) fun h6 q6 => ?_))
      ·
       refine wp_seq (j7 G d8 [(81, bA ((((e6 X).getD k 0).toNat : Int) == 97))] fun G => b0 (H6 (u := (((e6 X).getD k (0 : UInt8)).toNat : Int)) (v := (97 : Int)) G (fun h7 q7 => ?_) fun h7 q7 => ?_))
       ·
        refine wp_seq (j7 G d8 [(91, bA ((((e6 X).getD k 0).toNat : Int) == 111))] fun G => b0 (H6 (u := (((e6 X).getD k (0 : UInt8)).toNat : Int)) (v := (111 : Int)) G (fun h8 q8 => ?_) fun h8 q8 => ?_))
        · refine G4 G (r7 9 [0, 1] (n5 b (j + 1 + (k : Int)) (n - at0 - 1) (by omega) (by omega))) (rg 9) (F8 j k :: (y7 b vs ars l [N4 X, .row 3 (D.ints ((R X k).set k (at0 + 1 + pk b (j + 1 + (k : Int)) (n - at0 - 1))))])) (v5 at0 n ((10, J0 X) :: (C5 k []))) ((wO (at0 + 1)) :: ((wO (n - at0)) :: ((wO (n - at0 - 1)) :: ((wO (at0 + 1 + pk b (j + 1 + (k : Int)) (n - at0 - 1))) :: (iX k k ((R X k).length) []))))) ⟨oW (by omega), ⟨oW (by omega), ⟨oW (by omega), ⟨(by have h9 := V0 b (i := j + 1 + k) (m := n - at0 - 1) (by omega) (by omega); exact w64 (by omega) (by omega)), (iK (by rw [hRl]; omega) bS4)⟩⟩⟩⟩ fun G => i8 (i8 (b0 (A0 G d8 [(12, iA ((k : Int) + 1))] [wO ((k : Int) + 1)] (o1 (by omega)) fun G => b0 ?_))); exact H9 G (k + 1) (by omega) (by omega) (rg 9) (by have e1 : (j + 1 + (↑(k + 1) : Int) : Int) = (j + 1 + (k : Int) + 1) := (by omega); have e2 : (R X (k + 1) : List Int) = ((R X k).set k (at0 + 1 + pk b (j + 1 + (k : Int)) (n - at0 - 1))) := (hR.next (by omega) (bn5 (by with_reducible assumption) (by with_reducible assumption) (by with_reducible assumption) (by with_reducible assumption) (by with_reducible assumption))); (first | rw [e1, e2] | simp only [e1, e2]) <;> rfl)
        · refine G4 G (r7 3 [0, 1] (n5 b (j + 1 + (k : Int)) 7 (by omega) (by omega))) (rg 9) (F8 j k :: (y7 b vs ars l [N4 X, .row 3 (D.ints ((R X k).set k (4 + pk b (j + 1 + (k : Int)) 7)))])) (v5 at0 n ((10, J0 X) :: (C5 k []))) ((wO ((4 : Int) + pk b (j + 1 + (k : Int)) (7 : Int))) :: (iX k k ((R X k).length) [])) ⟨(by have h9 := V0 b (i := j + 1 + k) (m := 7) (by omega) (by omega); exact w64 (by omega) (by omega)), (iK (by rw [hRl]; omega) bS4)⟩ fun G => i8 (i8 (b0 (A0 G d8 [(12, iA ((k : Int) + 1))] [wO ((k : Int) + 1)] (o1 (by omega)) fun G => b0 ?_))); exact H9 G (k + 1) (by omega) (by omega) (rg 9) (by have e1 : (j + 1 + (↑(k + 1) : Int) : Int) = (j + 1 + (k : Int) + 1) := (by omega); have e2 : (R X (k + 1) : List Int) = ((R X k).set k (4 + pk b (j + 1 + (k : Int)) 7)) := (hR.next (by omega) (bn7 (by with_reducible assumption))); (first | rw [e1, e2] | simp only [e1, e2]) <;> rfl)
       · refine G4 G (r7 6 [0, 1] (n5 b (j + 1 + (k : Int)) ((ars.length : Int)) (by omega) (by omega))) (rg 9) (F8 j k :: (y7 b vs ars l [N4 X, .row 3 (D.ints ((R X k).set k (pk b (j + 1 + (k : Int)) (ars.length : Int))))])) (v5 at0 n ((10, J0 X) :: (C5 k []))) (iX k k ((R X k).length) []) (iK (by rw [hRl]; omega) bS4) fun G => i8 (i8 (b0 (A0 G d8 [(12, iA ((k : Int) + 1))] [wO ((k : Int) + 1)] (o1 (by omega)) fun G => b0 ?_))); exact H9 G (k + 1) (by omega) (by omega) (rg 9) (by have e1 : (j + 1 + (↑(k + 1) : Int) : Int) = (j + 1 + (k : Int) + 1) := (by omega); have e2 : (R X (k + 1) : List Int) = ((R X k).set k (pk b (j + 1 + (k : Int)) (ars.length : Int))) := (hR.next (by omega) (bn9 (by with_reducible assumption))); (first | rw [e1, e2] | simp only [e1, e2]) <;> rfl)
      · refine G4 G (r7 6 [0, 1] (n5 b (j + 1 + (k : Int)) ((vs.length : Int)) (by omega) (by omega))) (rg 9) (F8 j k :: (y7 b vs ars l [N4 X, .row 3 (D.ints ((R X k).set k (pk b (j + 1 + (k : Int)) (vs.length : Int))))])) (v5 at0 n ((10, J0 X) :: (C5 k []))) (iX k k ((R X k).length) []) (iK (by rw [hRl]; omega) bS4) fun G => i8 (i8 (b0 (A0 G d8 [(12, iA ((k : Int) + 1))] [wO ((k : Int) + 1)] (o1 (by omega)) fun G => b0 ?_))); exact H9 G (k + 1) (by omega) (by omega) (rg 9) (by have e1 : (j + 1 + (↑(k + 1) : Int) : Int) = (j + 1 + (k : Int) + 1) := (by omega); have e2 : (R X (k + 1) : List Int) = ((R X k).set k (pk b (j + 1 + (k : Int)) (vs.length : Int))) := (hR.next (by omega) (bn4 (by with_reducible assumption))); (first | rw [e1, e2] | simp only [e1, e2]) <;> rfl)
     · refine G4 G (r7 3 [0, 1] (H0 b (j + 1 + (k : Int)) (by omega) (by omega))) (rg 9) (F8 j k :: (y7 b vs ars l [N4 X, .row 3 (D.ints ((R X k).set k (nm b (j + 1 + (k : Int)) W9)))])) (v5 at0 n ((10, J0 X) :: (C5 k []))) (iX k k ((R X k).length) []) (iK (by rw [hRl]; omega) bS4) fun G => i8 (i8 (b0 (A0 G d8 [(12, iA ((k : Int) + 1))] [wO ((k : Int) + 1)] (o1 (by omega)) fun G => b0 ?_))); exact H9 G (k + 1) (by omega) (by omega) (rg 9) (by have e1 : (j + 1 + (↑(k + 1) : Int) : Int) = (j + 1 + (k : Int) + 1) := (by omega); have e2 : (R X (k + 1) : List Int) = ((R X k).set k (nm b (j + 1 + (k : Int)) W9)) := (hR.next (by omega) (bn8 (by with_reducible assumption))); (first | rw [e1, e2] | simp only [e1, e2]) <;> rfl)
    · refine G4 G (r7 3 [0, 1] (n5 b (j + 1 + (k : Int)) 3 (by omega) (by omega))) (rg 9) (F8 j k :: (y7 b vs ars l [N4 X, .row 3 (D.ints ((R X k).set k (pk b (j + 1 + (k : Int)) 3)))])) (v5 at0 n ((10, J0 X) :: (C5 k []))) (iX k k ((R X k).length) []) (iK (by rw [hRl]; omega) bS4) fun G => i8 (i8 (b0 (A0 G d8 [(12, iA ((k : Int) + 1))] [wO ((k : Int) + 1)] (o1 (by omega)) fun G => b0 ?_))); exact H9 G (k + 1) (by omega) (by omega) (rg 9) (by have e1 : (j + 1 + (↑(k + 1) : Int) : Int) = (j + 1 + (k : Int) + 1) := (by omega); have e2 : (R X (k + 1) : List Int) = ((R X k).set k (pk b (j + 1 + (k : Int)) 3)) := (hR.next (by omega) (bn6 (by with_reducible assumption))); (first | rw [e1, e2] | simp only [e1, e2]) <;> rfl)
  ·
   have q0 := eq_of_beq h0; cases h1 : (X == 4)
   ·
    have q1 := ne_of_beq_false h1; refine j7 G (E7 (fc h0 (fc h1 fz)) (us [(5, 8, 0), (9, 11, 1), (12, 12, 0), (1012, 1012, 1), (1013, 1013, 0)])) [(30, bA (X == 5))] fun G => b0 (H6 G (fun h2 q2 => ?_) fun h2 q2 => ?_)
    ·
     refine wp_skip (b0 (wp_seq (j7 G (r7 2 [] (V8 X (by omega))) [(10, J0 X)] fun G => b0 (wp_seq (i7 G d8 (rg 9) (.box [.ref 1, iA (j + 1)] :: (y7 b vs ars l [N4 X, aX3])) (v5 at0 n [(10, J0 X), (11, .ref 8)]) fun G => b0 (wp_seq (wp_seq (D6 G d8 (v5 at0 n [(10, J0 X), (11, .ref 8), (12, iA 0)]) fun G => b0 (wp_block ?_))))))))); replace G := G.as [.box [.ref 1, iA (j + 1 + (0 : Int))], dY b, dI vs, dI ars, dN l, .box (pL 2), .box [iA 0, iA 0, iA 0, iA 0, iA 0], .box [iA X, iA 0, iA 0, iA 0, iA 0], .row 3 (D.ints (R X 0))] (v5 at0 n [(10, .v (.string (ByteArray.mk (e6 X).toArray))), (11, .ref 8), (12, iA 0)]) (by have e1 : (j + 1 + (0 : Int) : Int) = (j + 1) := (by omega); have e2 : (R X 0 : List Int) = ([0] ++ ([0] ++ ([0] ++ ([0] ++ [])))) := (hR.start _); (first | rw [e1, e2] | simp only [e1, e2]) <;> rfl) (by kernel_rfl); refine t6 (κ := Nat) (fun k => k ≤ (e6 X).length) (fun k => (e6 X).length - k) (fun k => [.box [.ref 1, iA (j + 1 + k)], dY b, dI vs, dI ars, dN l, .box (pL 2), .box [iA 0, iA 0, iA 0, iA 0, iA 0], .box [iA X, iA 0, iA 0, iA 0, iA 0], .row 3 (.ints (R X k))]) (fun k => [(0, .ptr 0 0), (2, iA at0), (3, iA n), (5, .ptr 5 0), (8, .ptr 6 0), (9, .ptr 7 0), (10, .v (.string (ByteArray.mk (e6 X).toArray))), (11, .ref 8), (12, iA k)]) 0 (by omega) (s5.at G _ _) ?_; clear G; intro k ρ a w hp G; replace G := s5.at G (al0 j k :: (y7 b vs ars l [N4 X, .row 3 (D.ints (R X k))])) (v5 at0 n ((10, J0 X) :: (C5 k []))); have hfl := M5 X; have hbz := bsz (e6 X); refine wp_seq (wp_seq (j7 G d8 [(39, bA (decide ((k : Int) < ((ByteArray.mk (e6 X).toArray).size : Int))))] fun G => b0 (rcD G (fun h9 q9 => ?_) fun h9 q9 => ?_)))
     · refine wp_exit (t3 (t3 (t2 (b0 (wp_seq (C8 G d8 [0, 1, 0, 4, 12, 0, 32, 96, 0, 256, 768, 0, 2048, 6144, 16383, 32767] [0, 1, 2, 3, 4, 6] [al0 j k, dY b, dI vs, dI ars, dN l, .box [iA X, iA ((R X k).getD 0 0), iA ((R X k).getD 1 0), iA ((R X k).getD 2 0), iA ((R X k).getD 3 0)]] [(8, .ptr 5 0)] [(0 : Int) ≤ 0, (0 : Int) < ((R X k).length : Int), (0 : Nat) < (R X k).length, (0 : Int) ≤ 1, (1 : Int) < ((R X k).length : Int), (1 : Nat) < (R X k).length, (0 : Int) ≤ 2, (2 : Int) < ((R X k).length : Int), (2 : Nat) < (R X k).length, (0 : Int) ≤ 3, (3 : Int) < ((R X k).length : Int), (3 : Nat) < (R X k).length] ⟨(by omega), (by rw [hRl]; decide), (by rw [hRl]; decide), (by omega), (by rw [hRl]; decide), (by rw [hRl]; decide), (by omega), (by rw [hRl]; decide), (by rw [hRl]; decide), (by omega), (by rw [hRl]; decide), (by rw [hRl]; decide), bS4⟩ fun G => b0 (wp_ret ?_))))))); exact Q1 (.agg [iA X, iA ((R X k).getD 0 0), iA ((R X k).getD 1 0), iA ((R X k).getD 2 0), iA ((R X k).getD 3 0)]) G (rg 5) (by have e1 : ((Q2 b j vs.length ars.length at0 n).fst.op : Int) = (X) := (by rw [hR.done (k := k) (am2 hX (by omega)) (by omega) (by omega)]; done); have e2 : ((Q2 b j vs.length ars.length at0 n).fst.a : Int) = ((R X k).getD 0 0) := (by rw [hR.done (k := k) (am2 hX (by omega)) (by omega) (by omega)]; done); have e3 : ((Q2 b j vs.length ars.length at0 n).fst.b : Int) = ((R X k).getD 1 0) := (by rw [hR.done (k := k) (am2 hX (by omega)) (by omega) (by omega)]; done); have e4 : ((Q2 b j vs.length ars.length at0 n).fst.c : Int) = ((R X k).getD 2 0) := (by rw [hR.done (k := k) (am2 hX (by omega)) (by omega) (by omega)]; done); have e5 : ((Q2 b j vs.length ars.length at0 n).fst.d : Int) = ((R X k).getD 3 0) := (by rw [hR.done (k := k) (am2 hX (by omega)) (by omega) (by omega)]; done); (first | rw [e1, e2, e3, e4, e5] | simp only [e1, e2, e3, e4, e5]) <;> rfl) (by show _ = mR (rg 5) [.box [.ref 1, iA (Q2 b j vs.length ars.length at0 n).snd], dY b, dI vs, dI ars, dN l]; rw [hR.done (k := k) (am2 hX (by omega)) (by omega) (by omega)] <;> rfl)
     ·
      refine wp_skip (b0 (wp_seq (wp_block (wp_seq (A0 G d8 [(44, .v (.int .u8 (((e6 X).getD k 0).toNat : Int)))] [(0 : Int) ≤ (k : Int), (k : Int) < ((ByteArray.mk (e6 X).toArray).size : Int)] ⟨(by omega), (by assumption), bS4⟩ fun G => b0 (wp_block (wp_seq (j7 G d8 [(57, bA ((((e6 X).getD k 0).toNat : Int) == 114))] fun G => b0 (H6 (u := (((e6 X).getD k (0 : UInt8)).toNat : Int)) (v := (114 : Int)) G (fun h10 q10 => ?_) fun h10 q10 => ?_)))))))))
      ·
       refine wp_seq (j7 G d8 [(64, bA ((((e6 X).getD k 0).toNat : Int) == 99))] fun G => b0 (H6 (u := (((e6 X).getD k (0 : UInt8)).toNat : Int)) (v := (99 : Int)) G (fun h11 q11 => ?_) fun h11 q11 => ?_))
       ·
        refine wp_seq (j7 G d8 [(71, bA ((((e6 X).getD k 0).toNat : Int) == 118))] fun G => b0 (H6 (u := (((e6 X).getD k (0 : UInt8)).toNat : Int)) (v := (118 : Int)) G (fun h12 q12 => ?_) fun h12 q12 => ?_))
        ·
         refine wp_seq (j7 G d8 [(81, bA ((((e6 X).getD k 0).toNat : Int) == 97))] fun G => b0 (H6 (u := (((e6 X).getD k (0 : UInt8)).toNat : Int)) (v := (97 : Int)) G (fun h13 q13 => ?_) fun h13 q13 => ?_))
         ·
          refine wp_seq (j7 G d8 [(91, bA ((((e6 X).getD k 0).toNat : Int) == 111))] fun G => b0 (H6 (u := (((e6 X).getD k (0 : UInt8)).toNat : Int)) (v := (111 : Int)) G (fun h14 q14 => ?_) fun h14 q14 => ?_))
          · refine G4 G (r7 9 [0, 1] (n5 b (j + 1 + (k : Int)) (n - at0 - 1) (by omega) (by omega))) (rg 9) (F8 j k :: (y7 b vs ars l [N4 X, .row 3 (D.ints ((R X k).set k (at0 + 1 + pk b (j + 1 + (k : Int)) (n - at0 - 1))))])) (v5 at0 n ((10, J0 X) :: (C5 k []))) ((wO (at0 + 1)) :: ((wO (n - at0)) :: ((wO (n - at0 - 1)) :: ((wO (at0 + 1 + pk b (j + 1 + (k : Int)) (n - at0 - 1))) :: (iX k k ((R X k).length) []))))) ⟨oW (by omega), ⟨oW (by omega), ⟨oW (by omega), ⟨(by have h9 := V0 b (i := j + 1 + k) (m := n - at0 - 1) (by omega) (by omega); exact w64 (by omega) (by omega)), (iK (by rw [hRl]; omega) bS4)⟩⟩⟩⟩ fun G => i8 (i8 (b0 (A0 G d8 [(12, iA ((k : Int) + 1))] [wO ((k : Int) + 1)] (o1 (by omega)) fun G => b0 ?_))); exact H9 G (k + 1) (by omega) (by omega) (rg 9) (by have e1 : (j + 1 + (↑(k + 1) : Int) : Int) = (j + 1 + (k : Int) + 1) := (by omega); have e2 : (R X (k + 1) : List Int) = ((R X k).set k (at0 + 1 + pk b (j + 1 + (k : Int)) (n - at0 - 1))) := (hR.next (by omega) (bn5 (by with_reducible assumption) (by with_reducible assumption) (by with_reducible assumption) (by with_reducible assumption) (by with_reducible assumption))); (first | rw [e1, e2] | simp only [e1, e2]) <;> rfl)
          · refine G4 G (r7 3 [0, 1] (n5 b (j + 1 + (k : Int)) 7 (by omega) (by omega))) (rg 9) (F8 j k :: (y7 b vs ars l [N4 X, .row 3 (D.ints ((R X k).set k (4 + pk b (j + 1 + (k : Int)) 7)))])) (v5 at0 n ((10, J0 X) :: (C5 k []))) ((wO ((4 : Int) + pk b (j + 1 + (k : Int)) (7 : Int))) :: (iX k k ((R X k).length) [])) ⟨(by have h9 := V0 b (i := j + 1 + k) (m := 7) (by omega) (by omega); exact w64 (by omega) (by omega)), (iK (by rw [hRl]; omega) bS4)⟩ fun G => i8 (i8 (b0 (A0 G d8 [(12, iA ((k : Int) + 1))] [wO ((k : Int) + 1)] (o1 (by omega)) fun G => b0 ?_))); exact H9 G (k + 1) (by omega) (by omega) (rg 9) (by have e1 : (j + 1 + (↑(k + 1) : Int) : Int) = (j + 1 + (k : Int) + 1) := (by omega); have e2 : (R X (k + 1) : List Int) = ((R X k).set k (4 + pk b (j + 1 + (k : Int)) 7)) := (hR.next (by omega) (bn7 (by with_reducible assumption))); (first | rw [e1, e2] | simp only [e1, e2]) <;> rfl)
         · refine G4 G (r7 6 [0, 1] (n5 b (j + 1 + (k : Int)) ((ars.length : Int)) (by omega) (by omega))) (rg 9) (F8 j k :: (y7 b vs ars l [N4 X, .row 3 (D.ints ((R X k).set k (pk b (j + 1 + (k : Int)) (ars.length : Int))))])) (v5 at0 n ((10, J0 X) :: (C5 k []))) (iX k k ((R X k).length) []) (iK (by rw [hRl]; omega) bS4) fun G => i8 (i8 (b0 (A0 G d8 [(12, iA ((k : Int) + 1))] [wO ((k : Int) + 1)] (o1 (by omega)) fun G => b0 ?_))); exact H9 G (k + 1) (by omega) (by omega) (rg 9) (by have e1 : (j + 1 + (↑(k + 1) : Int) : Int) = (j + 1 + (k : Int) + 1) := (by omega); have e2 : (R X (k + 1) : List Int) = ((R X k).set k (pk b (j + 1 + (k : Int)) (ars.length : Int))) := (hR.next (by omega) (bn9 (by with_reducible assumption))); (first | rw [e1, e2] | simp only [e1, e2]) <;> rfl)
        · refine G4 G (r7 6 [0, 1] (n5 b (j + 1 + (k : Int)) ((vs.length : Int)) (by omega) (by omega))) (rg 9) (F8 j k :: (y7 b vs ars l [N4 X, .row 3 (D.ints ((R X k).set k (pk b (j + 1 + (k : Int)) (vs.length : Int))))])) (v5 at0 n ((10, J0 X) :: (C5 k []))) (iX k k ((R X k).length) []) (iK (by rw [hRl]; omega) bS4) fun G => i8 (i8 (b0 (A0 G d8 [(12, iA ((k : Int) + 1))] [wO ((k : Int) + 1)] (o1 (by omega)) fun G => b0 ?_))); exact H9 G (k + 1) (by omega) (by omega) (rg 9) (by have e1 : (j + 1 + (↑(k + 1) : Int) : Int) = (j + 1 + (k : Int) + 1) := (by omega); have e2 : (R X (k + 1) : List Int) = ((R X k).set k (pk b (j + 1 + (k : Int)) (vs.length : Int))) := (hR.next (by omega) (bn4 (by with_reducible assumption))); (first | rw [e1, e2] | simp only [e1, e2]) <;> rfl)
       · refine G4 G (r7 3 [0, 1] (H0 b (j + 1 + (k : Int)) (by omega) (by omega))) (rg 9) (F8 j k :: (y7 b vs ars l [N4 X, .row 3 (D.ints ((R X k).set k (nm b (j + 1 + (k : Int)) W9)))])) (v5 at0 n ((10, J0 X) :: (C5 k []))) (iX k k ((R X k).length) []) (iK (by rw [hRl]; omega) bS4) fun G => i8 (i8 (b0 (A0 G d8 [(12, iA ((k : Int) + 1))] [wO ((k : Int) + 1)] (o1 (by omega)) fun G => b0 ?_))); exact H9 G (k + 1) (by omega) (by omega) (rg 9) (by have e1 : (j + 1 + (↑(k + 1) : Int) : Int) = (j + 1 + (k : Int) + 1) := (by omega); have e2 : (R X (k + 1) : List Int) = ((R X k).set k (nm b (j + 1 + (k : Int)) W9)) := (hR.next (by omega) (bn8 (by with_reducible assumption))); (first | rw [e1, e2] | simp only [e1, e2]) <;> rfl)
      · refine G4 G (r7 3 [0, 1] (n5 b (j + 1 + (k : Int)) 3 (by omega) (by omega))) (rg 9) (F8 j k :: (y7 b vs ars l [N4 X, .row 3 (D.ints ((R X k).set k (pk b (j + 1 + (k : Int)) 3)))])) (v5 at0 n ((10, J0 X) :: (C5 k []))) (iX k k ((R X k).length) []) (iK (by rw [hRl]; omega) bS4) fun G => i8 (i8 (b0 (A0 G d8 [(12, iA ((k : Int) + 1))] [wO ((k : Int) + 1)] (o1 (by omega)) fun G => b0 ?_))); exact H9 G (k + 1) (by omega) (by omega) (rg 9) (by have e1 : (j + 1 + (↑(k + 1) : Int) : Int) = (j + 1 + (k : Int) + 1) := (by omega); have e2 : (R X (k + 1) : List Int) = ((R X k).set k (pk b (j + 1 + (k : Int)) 3)) := (hR.next (by omega) (bn6 (by with_reducible assumption))); (first | rw [e1, e2] | simp only [e1, e2]) <;> rfl)
    ·
     refine i7 G d8 (rg 8) (.box [.ref 1, iA (j + 1)] :: (y7 b vs ars l [L4])) (v5 at0 n []) fun G => b0 (wp_seq (j7 G (r7 2 [] (V8 2 (by omega))) [(10, I9)] fun G => b0 (wp_seq (i7 G d8 (rg 9) (.box [.ref 1, iA (j + 1)] :: (y7 b vs ars l [L4, aX3])) (v5 at0 n [(10, I9), (11, .ref 8)]) fun G => b0 (wp_seq (wp_seq (D6 G d8 (v5 at0 n [(10, I9), (11, .ref 8), (12, iA 0)]) fun G => b0 (wp_block ?_)))))))); replace G := G.as [.box [.ref 1, iA (j + 1 + (0 : Int))], dY b, dI vs, dI ars, dN l, .box (pL 2), .box [iA 0, iA 0, iA 0, iA 0, iA 0], .box [iA 2, iA 0, iA 0, iA 0, iA 0], .row 3 (D.ints (R 2 0))] (v5 at0 n [(10, .v (.string (ByteArray.mk (e6 2).toArray))), (11, .ref 8), (12, iA 0)]) (by have e1 : (j + 1 + (0 : Int) : Int) = (j + 1) := (by omega); have e2 : (R 2 0 : List Int) = ([0] ++ ([0] ++ ([0] ++ ([0] ++ [])))) := (hR.start _); (first | rw [e1, e2] | simp only [e1, e2]) <;> rfl) (by kernel_rfl); refine t6 (κ := Nat) (fun k => k ≤ (e6 2).length) (fun k => (e6 2).length - k) (fun k => [.box [.ref 1, iA (j + 1 + k)], dY b, dI vs, dI ars, dN l, .box (pL 2), .box [iA 0, iA 0, iA 0, iA 0, iA 0], .box [iA 2, iA 0, iA 0, iA 0, iA 0], .row 3 (.ints (R 2 k))]) (fun k => [(0, .ptr 0 0), (2, iA at0), (3, iA n), (5, .ptr 5 0), (8, .ptr 6 0), (9, .ptr 7 0), (10, .v (.string (ByteArray.mk (e6 2).toArray))), (11, .ref 8), (12, iA k)]) 0 (by omega) (s5.at G _ _) ?_; clear G; intro k ρ a w hp G; replace G := s5.at G (al0 j k :: (y7 b vs ars l [L4, .row 3 (D.ints (R 2 k))])) (v5 at0 n ((10, I9) :: (C5 k []))); have hfl := M5 2; have hbz := bsz (e6 2); have hf2 := fl2; refine wp_seq (wp_seq (j7 G d8 [(39, bA (decide ((k : Int) < 2)))] fun G => b0 (rcD G (fun h15 q15 => ?_) fun h15 q15 => ?_)))
     · refine wp_exit (t3 (t3 (t2 (b0 (wp_seq (C8 G d8 [0, 1, 0, 4, 12, 0, 32, 96, 0, 256, 768, 0, 2048, 6144, 16383, 32767] [0, 1, 2, 3, 4, 6] [al0 j k, dY b, dI vs, dI ars, dN l, .box [iA 2, iA ((R 2 k).getD 0 0), iA ((R 2 k).getD 1 0), iA ((R 2 k).getD 2 0), iA ((R 2 k).getD 3 0)]] [(8, .ptr 5 0)] [(0 : Int) ≤ 0, (0 : Int) < ((R (2 : Int) k).length : Int), (0 : Nat) < (R (2 : Int) k).length, (0 : Int) ≤ 1, (1 : Int) < ((R (2 : Int) k).length : Int), (1 : Nat) < (R (2 : Int) k).length, (0 : Int) ≤ 2, (2 : Int) < ((R (2 : Int) k).length : Int), (2 : Nat) < (R (2 : Int) k).length, (0 : Int) ≤ 3, (3 : Int) < ((R (2 : Int) k).length : Int), (3 : Nat) < (R (2 : Int) k).length] ⟨(by omega), (by rw [hRl]; decide), (by rw [hRl]; decide), (by omega), (by rw [hRl]; decide), (by rw [hRl]; decide), (by omega), (by rw [hRl]; decide), (by rw [hRl]; decide), (by omega), (by rw [hRl]; decide), (by rw [hRl]; decide), bS4⟩ fun G => b0 (wp_ret ?_))))))); exact Q1 (.agg [iA 2, iA ((R 2 k).getD 0 0), iA ((R 2 k).getD 1 0), iA ((R 2 k).getD 2 0), iA ((R 2 k).getD 3 0)]) G (rg 5) (by have e1 : ((Q2 b j vs.length ars.length at0 n).fst.op : Int) = (2) := (by rw [hR.done (k := k) (X := 2) (am3 hX (by omega) (by omega)) (by omega) (by omega)]; done); have e2 : ((Q2 b j vs.length ars.length at0 n).fst.a : Int) = ((R 2 k).getD 0 0) := (by rw [hR.done (k := k) (X := 2) (am3 hX (by omega) (by omega)) (by omega) (by omega)]; done); have e3 : ((Q2 b j vs.length ars.length at0 n).fst.b : Int) = ((R 2 k).getD 1 0) := (by rw [hR.done (k := k) (X := 2) (am3 hX (by omega) (by omega)) (by omega) (by omega)]; done); have e4 : ((Q2 b j vs.length ars.length at0 n).fst.c : Int) = ((R 2 k).getD 2 0) := (by rw [hR.done (k := k) (X := 2) (am3 hX (by omega) (by omega)) (by omega) (by omega)]; done); have e5 : ((Q2 b j vs.length ars.length at0 n).fst.d : Int) = ((R 2 k).getD 3 0) := (by rw [hR.done (k := k) (X := 2) (am3 hX (by omega) (by omega)) (by omega) (by omega)]; done); (first | rw [e1, e2, e3, e4, e5] | simp only [e1, e2, e3, e4, e5]) <;> rfl) (by show _ = mR (rg 5) [.box [.ref 1, iA (Q2 b j vs.length ars.length at0 n).snd], dY b, dI vs, dI ars, dN l]; rw [hR.done (k := k) (X := 2) (am3 hX (by omega) (by omega)) (by omega) (by omega)] <;> rfl)
     ·
      refine wp_skip (b0 (wp_seq (wp_block (wp_seq (A0 G d8 [(44, .v (.int .u8 (((e6 2).getD k 0).toNat : Int)))] [(0 : Int) ≤ (k : Int), (k : Int) < ((ByteArray.mk (e6 (2 : Int)).toArray).size : Int)] ⟨(by omega), (by assumption), bS4⟩ fun G => b0 (wp_block (wp_seq (j7 G d8 [(57, bA ((((e6 2).getD k 0).toNat : Int) == 114))] fun G => b0 (H6 (u := (((e6 (2 : Int)).getD k (0 : UInt8)).toNat : Int)) (v := (114 : Int)) G (fun h16 q16 => ?_) fun h16 q16 => ?_)))))))))
      ·
       refine wp_seq (j7 G d8 [(64, bA ((((e6 2).getD k 0).toNat : Int) == 99))] fun G => b0 (H6 (u := (((e6 (2 : Int)).getD k (0 : UInt8)).toNat : Int)) (v := (99 : Int)) G (fun h17 q17 => ?_) fun h17 q17 => ?_))
       ·
        refine wp_seq (j7 G d8 [(71, bA ((((e6 2).getD k 0).toNat : Int) == 118))] fun G => b0 (H6 (u := (((e6 (2 : Int)).getD k (0 : UInt8)).toNat : Int)) (v := (118 : Int)) G (fun h18 q18 => ?_) fun h18 q18 => ?_))
        ·
         refine wp_seq (j7 G d8 [(81, bA ((((e6 2).getD k 0).toNat : Int) == 97))] fun G => b0 (H6 (u := (((e6 (2 : Int)).getD k (0 : UInt8)).toNat : Int)) (v := (97 : Int)) G (fun h19 q19 => ?_) fun h19 q19 => ?_))
         ·
          refine wp_seq (j7 G d8 [(91, bA ((((e6 2).getD k 0).toNat : Int) == 111))] fun G => b0 (H6 (u := (((e6 (2 : Int)).getD k (0 : UInt8)).toNat : Int)) (v := (111 : Int)) G (fun h20 q20 => ?_) fun h20 q20 => ?_))
          · refine G4 G (r7 9 [0, 1] (n5 b (j + 1 + (k : Int)) (n - at0 - 1) (by omega) (by omega))) (rg 9) (F8 j k :: (y7 b vs ars l [L4, .row 3 (D.ints ((R 2 k).set k (at0 + 1 + pk b (j + 1 + (k : Int)) (n - at0 - 1))))])) (v5 at0 n ((10, I9) :: (C5 k []))) ((wO (at0 + 1)) :: ((wO (n - at0)) :: ((wO (n - at0 - 1)) :: ((wO (at0 + 1 + pk b (j + 1 + (k : Int)) (n - at0 - 1))) :: (iX k k ((R (2 : Int) k).length) []))))) ⟨oW (by omega), ⟨oW (by omega), ⟨oW (by omega), ⟨(by have h9 := V0 b (i := j + 1 + k) (m := n - at0 - 1) (by omega) (by omega); exact w64 (by omega) (by omega)), (iK (by rw [hRl]; omega) bS4)⟩⟩⟩⟩ fun G => i8 (i8 (b0 (A0 G d8 [(12, iA ((k : Int) + 1))] [wO ((k : Int) + 1)] (o1 (by omega)) fun G => b0 ?_))); exact H9 G (k + 1) (by omega) (by omega) (rg 9) (by have e1 : (j + 1 + (↑(k + 1) : Int) : Int) = (j + 1 + (k : Int) + 1) := (by omega); have e2 : (R 2 (k + 1) : List Int) = ((R 2 k).set k (at0 + 1 + pk b (j + 1 + (k : Int)) (n - at0 - 1))) := (hR.next (by omega) (bn5 (by with_reducible assumption) (by with_reducible assumption) (by with_reducible assumption) (by with_reducible assumption) (by with_reducible assumption))); (first | rw [e1, e2] | simp only [e1, e2]) <;> rfl)
          · refine G4 G (r7 3 [0, 1] (n5 b (j + 1 + (k : Int)) 7 (by omega) (by omega))) (rg 9) (F8 j k :: (y7 b vs ars l [L4, .row 3 (D.ints ((R 2 k).set k (4 + pk b (j + 1 + (k : Int)) 7)))])) (v5 at0 n ((10, I9) :: (C5 k []))) ((wO ((4 : Int) + pk b (j + 1 + (k : Int)) (7 : Int))) :: (iX k k ((R (2 : Int) k).length) [])) ⟨(by have h9 := V0 b (i := j + 1 + k) (m := 7) (by omega) (by omega); exact w64 (by omega) (by omega)), (iK (by rw [hRl]; omega) bS4)⟩ fun G => i8 (i8 (b0 (A0 G d8 [(12, iA ((k : Int) + 1))] [wO ((k : Int) + 1)] (o1 (by omega)) fun G => b0 ?_))); exact H9 G (k + 1) (by omega) (by omega) (rg 9) (by have e1 : (j + 1 + (↑(k + 1) : Int) : Int) = (j + 1 + (k : Int) + 1) := (by omega); have e2 : (R 2 (k + 1) : List Int) = ((R 2 k).set k (4 + pk b (j + 1 + (k : Int)) 7)) := (hR.next (by omega) (bn7 (by with_reducible assumption))); (first | rw [e1, e2] | simp only [e1, e2]) <;> rfl)
         · refine G4 G (r7 6 [0, 1] (n5 b (j + 1 + (k : Int)) ((ars.length : Int)) (by omega) (by omega))) (rg 9) (F8 j k :: (y7 b vs ars l [L4, .row 3 (D.ints ((R 2 k).set k (pk b (j + 1 + (k : Int)) (ars.length : Int))))])) (v5 at0 n ((10, I9) :: (C5 k []))) (iX k k ((R (2 : Int) k).length) []) (iK (by rw [hRl]; omega) bS4) fun G => i8 (i8 (b0 (A0 G d8 [(12, iA ((k : Int) + 1))] [wO ((k : Int) + 1)] (o1 (by omega)) fun G => b0 ?_))); exact H9 G (k + 1) (by omega) (by omega) (rg 9) (by have e1 : (j + 1 + (↑(k + 1) : Int) : Int) = (j + 1 + (k : Int) + 1) := (by omega); have e2 : (R 2 (k + 1) : List Int) = ((R 2 k).set k (pk b (j + 1 + (k : Int)) (ars.length : Int))) := (hR.next (by omega) (bn9 (by with_reducible assumption))); (first | rw [e1, e2] | simp only [e1, e2]) <;> rfl)
        · refine G4 G (r7 6 [0, 1] (n5 b (j + 1 + (k : Int)) ((vs.length : Int)) (by omega) (by omega))) (rg 9) (F8 j k :: (y7 b vs ars l [L4, .row 3 (D.ints ((R 2 k).set k (pk b (j + 1 + (k : Int)) (vs.length : Int))))])) (v5 at0 n ((10, I9) :: (C5 k []))) (iX k k ((R (2 : Int) k).length) []) (iK (by rw [hRl]; omega) bS4) fun G => i8 (i8 (b0 (A0 G d8 [(12, iA ((k : Int) + 1))] [wO ((k : Int) + 1)] (o1 (by omega)) fun G => b0 ?_))); exact H9 G (k + 1) (by omega) (by omega) (rg 9) (by have e1 : (j + 1 + (↑(k + 1) : Int) : Int) = (j + 1 + (k : Int) + 1) := (by omega); have e2 : (R 2 (k + 1) : List Int) = ((R 2 k).set k (pk b (j + 1 + (k : Int)) (vs.length : Int))) := (hR.next (by omega) (bn4 (by with_reducible assumption))); (first | rw [e1, e2] | simp only [e1, e2]) <;> rfl)
       · refine G4 G (r7 3 [0, 1] (H0 b (j + 1 + (k : Int)) (by omega) (by omega))) (rg 9) (F8 j k :: (y7 b vs ars l [L4, .row 3 (D.ints ((R 2 k).set k (nm b (j + 1 + (k : Int)) W9)))])) (v5 at0 n ((10, I9) :: (C5 k []))) (iX k k ((R (2 : Int) k).length) []) (iK (by rw [hRl]; omega) bS4) fun G => i8 (i8 (b0 (A0 G d8 [(12, iA ((k : Int) + 1))] [wO ((k : Int) + 1)] (o1 (by omega)) fun G => b0 ?_))); exact H9 G (k + 1) (by omega) (by omega) (rg 9) (by have e1 : (j + 1 + (↑(k + 1) : Int) : Int) = (j + 1 + (k : Int) + 1) := (by omega); have e2 : (R 2 (k + 1) : List Int) = ((R 2 k).set k (nm b (j + 1 + (k : Int)) W9)) := (hR.next (by omega) (bn8 (by with_reducible assumption))); (first | rw [e1, e2] | simp only [e1, e2]) <;> rfl)
      · refine G4 G (r7 3 [0, 1] (n5 b (j + 1 + (k : Int)) 3 (by omega) (by omega))) (rg 9) (F8 j k :: (y7 b vs ars l [L4, .row 3 (D.ints ((R 2 k).set k (pk b (j + 1 + (k : Int)) 3)))])) (v5 at0 n ((10, I9) :: (C5 k []))) (iX k k ((R (2 : Int) k).length) []) (iK (by rw [hRl]; omega) bS4) fun G => i8 (i8 (b0 (A0 G d8 [(12, iA ((k : Int) + 1))] [wO ((k : Int) + 1)] (o1 (by omega)) fun G => b0 ?_))); exact H9 G (k + 1) (by omega) (by omega) (rg 9) (by have e1 : (j + 1 + (↑(k + 1) : Int) : Int) = (j + 1 + (k : Int) + 1) := (by omega); have e2 : (R 2 (k + 1) : List Int) = ((R 2 k).set k (pk b (j + 1 + (k : Int)) 3)) := (hR.next (by omega) (bn6 (by with_reducible assumption))); (first | rw [e1, e2] | simp only [e1, e2]) <;> rfl)
   ·
    have q1 := eq_of_beq h1; refine j7 G (E7 (fc h0 (fc h1 fz)) (us [(5, 8, 0), (9, 11, 1), (12, 12, 0), (1012, 1012, 1), (1013, 1013, 0)])) [(30, bA true)] fun G => b0 (rT G true (by kernel_rfl) (i7 G d8 (rg 8) (.box [.ref 1, iA (j + 1)] :: (y7 b vs ars l [L4])) (v5 at0 n []) fun G => b0 (wp_seq (j7 G (r7 2 [] (V8 2 (by omega))) [(10, I9)] fun G => b0 (wp_seq (i7 G d8 (rg 9) (.box [.ref 1, iA (j + 1)] :: (y7 b vs ars l [L4, aX3])) (v5 at0 n [(10, I9), (11, .ref 8)]) fun G => b0 (wp_seq (wp_seq (D6 G d8 (v5 at0 n [(10, I9), (11, .ref 8), (12, iA 0)]) fun G => b0 (wp_block ?_)))))))))); replace G := G.as [.box [.ref 1, iA (j + 1 + (0 : Int))], dY b, dI vs, dI ars, dN l, .box (pL 2), .box [iA 0, iA 0, iA 0, iA 0, iA 0], .box [iA 2, iA 0, iA 0, iA 0, iA 0], .row 3 (D.ints (R 2 0))] (v5 at0 n [(10, .v (.string (ByteArray.mk (e6 2).toArray))), (11, .ref 8), (12, iA 0)]) (by have e1 : (j + 1 + (0 : Int) : Int) = (j + 1) := (by omega); have e2 : (R 2 0 : List Int) = ([0] ++ ([0] ++ ([0] ++ ([0] ++ [])))) := (hR.start _); (first | rw [e1, e2] | simp only [e1, e2]) <;> rfl) (by kernel_rfl); refine t6 (κ := Nat) (fun k => k ≤ (e6 2).length) (fun k => (e6 2).length - k) (fun k => [.box [.ref 1, iA (j + 1 + k)], dY b, dI vs, dI ars, dN l, .box (pL 2), .box [iA 0, iA 0, iA 0, iA 0, iA 0], .box [iA 2, iA 0, iA 0, iA 0, iA 0], .row 3 (.ints (R 2 k))]) (fun k => [(0, .ptr 0 0), (2, iA at0), (3, iA n), (5, .ptr 5 0), (8, .ptr 6 0), (9, .ptr 7 0), (10, .v (.string (ByteArray.mk (e6 2).toArray))), (11, .ref 8), (12, iA k)]) 0 (by omega) (s5.at G _ _) ?_; clear G; intro k ρ a w hp G; replace G := s5.at G (al0 j k :: (y7 b vs ars l [L4, .row 3 (D.ints (R 2 k))])) (v5 at0 n ((10, I9) :: (C5 k []))); have hfl := M5 2; have hbz := bsz (e6 2); have hf2 := fl2; refine wp_seq (wp_seq (j7 G d8 [(39, bA (decide ((k : Int) < 2)))] fun G => b0 (rcD G (fun h21 q21 => ?_) fun h21 q21 => ?_)))
    · refine wp_exit (t3 (t3 (t2 (b0 (wp_seq (C8 G d8 [0, 1, 0, 4, 12, 0, 32, 96, 0, 256, 768, 0, 2048, 6144, 16383, 32767] [0, 1, 2, 3, 4, 6] [al0 j k, dY b, dI vs, dI ars, dN l, .box [iA 2, iA ((R 2 k).getD 0 0), iA ((R 2 k).getD 1 0), iA ((R 2 k).getD 2 0), iA ((R 2 k).getD 3 0)]] [(8, .ptr 5 0)] [(0 : Int) ≤ 0, (0 : Int) < ((R (2 : Int) k).length : Int), (0 : Nat) < (R (2 : Int) k).length, (0 : Int) ≤ 1, (1 : Int) < ((R (2 : Int) k).length : Int), (1 : Nat) < (R (2 : Int) k).length, (0 : Int) ≤ 2, (2 : Int) < ((R (2 : Int) k).length : Int), (2 : Nat) < (R (2 : Int) k).length, (0 : Int) ≤ 3, (3 : Int) < ((R (2 : Int) k).length : Int), (3 : Nat) < (R (2 : Int) k).length] ⟨(by omega), (by rw [hRl]; decide), (by rw [hRl]; decide), (by omega), (by rw [hRl]; decide), (by rw [hRl]; decide), (by omega), (by rw [hRl]; decide), (by rw [hRl]; decide), (by omega), (by rw [hRl]; decide), (by rw [hRl]; decide), bS4⟩ fun G => b0 (wp_ret ?_))))))); exact Q1 (.agg [iA 2, iA ((R 2 k).getD 0 0), iA ((R 2 k).getD 1 0), iA ((R 2 k).getD 2 0), iA ((R 2 k).getD 3 0)]) G (rg 5) (by have e1 : ((Q2 b j vs.length ars.length at0 n).fst.op : Int) = (2) := (by rw [hR.done (k := k) (X := 2) (am3 hX (by omega) (by omega)) (by omega) (by omega)]; done); have e2 : ((Q2 b j vs.length ars.length at0 n).fst.a : Int) = ((R 2 k).getD 0 0) := (by rw [hR.done (k := k) (X := 2) (am3 hX (by omega) (by omega)) (by omega) (by omega)]; done); have e3 : ((Q2 b j vs.length ars.length at0 n).fst.b : Int) = ((R 2 k).getD 1 0) := (by rw [hR.done (k := k) (X := 2) (am3 hX (by omega) (by omega)) (by omega) (by omega)]; done); have e4 : ((Q2 b j vs.length ars.length at0 n).fst.c : Int) = ((R 2 k).getD 2 0) := (by rw [hR.done (k := k) (X := 2) (am3 hX (by omega) (by omega)) (by omega) (by omega)]; done); have e5 : ((Q2 b j vs.length ars.length at0 n).fst.d : Int) = ((R 2 k).getD 3 0) := (by rw [hR.done (k := k) (X := 2) (am3 hX (by omega) (by omega)) (by omega) (by omega)]; done); (first | rw [e1, e2, e3, e4, e5] | simp only [e1, e2, e3, e4, e5]) <;> rfl) (by show _ = mR (rg 5) [.box [.ref 1, iA (Q2 b j vs.length ars.length at0 n).snd], dY b, dI vs, dI ars, dN l]; rw [hR.done (k := k) (X := 2) (am3 hX (by omega) (by omega)) (by omega) (by omega)] <;> rfl)
    ·
     refine wp_skip (b0 (wp_seq (wp_block (wp_seq (A0 G d8 [(44, .v (.int .u8 (((e6 2).getD k 0).toNat : Int)))] [(0 : Int) ≤ (k : Int), (k : Int) < ((ByteArray.mk (e6 (2 : Int)).toArray).size : Int)] ⟨(by omega), (by assumption), bS4⟩ fun G => b0 (wp_block (wp_seq (j7 G d8 [(57, bA ((((e6 2).getD k 0).toNat : Int) == 114))] fun G => b0 (H6 (u := (((e6 (2 : Int)).getD k (0 : UInt8)).toNat : Int)) (v := (114 : Int)) G (fun h22 q22 => ?_) fun h22 q22 => ?_)))))))))
     ·
      refine wp_seq (j7 G d8 [(64, bA ((((e6 2).getD k 0).toNat : Int) == 99))] fun G => b0 (H6 (u := (((e6 (2 : Int)).getD k (0 : UInt8)).toNat : Int)) (v := (99 : Int)) G (fun h23 q23 => ?_) fun h23 q23 => ?_))
      ·
       refine wp_seq (j7 G d8 [(71, bA ((((e6 2).getD k 0).toNat : Int) == 118))] fun G => b0 (H6 (u := (((e6 (2 : Int)).getD k (0 : UInt8)).toNat : Int)) (v := (118 : Int)) G (fun h24 q24 => ?_) fun h24 q24 => ?_))
       ·
        refine wp_seq (j7 G d8 [(81, bA ((((e6 2).getD k 0).toNat : Int) == 97))] fun G => b0 (H6 (u := (((e6 (2 : Int)).getD k (0 : UInt8)).toNat : Int)) (v := (97 : Int)) G (fun h25 q25 => ?_) fun h25 q25 => ?_))
        ·
         refine wp_seq (j7 G d8 [(91, bA ((((e6 2).getD k 0).toNat : Int) == 111))] fun G => b0 (H6 (u := (((e6 (2 : Int)).getD k (0 : UInt8)).toNat : Int)) (v := (111 : Int)) G (fun h26 q26 => ?_) fun h26 q26 => ?_))
         · refine G4 G (r7 9 [0, 1] (n5 b (j + 1 + (k : Int)) (n - at0 - 1) (by omega) (by omega))) (rg 9) (F8 j k :: (y7 b vs ars l [L4, .row 3 (D.ints ((R 2 k).set k (at0 + 1 + pk b (j + 1 + (k : Int)) (n - at0 - 1))))])) (v5 at0 n ((10, I9) :: (C5 k []))) ((wO (at0 + 1)) :: ((wO (n - at0)) :: ((wO (n - at0 - 1)) :: ((wO (at0 + 1 + pk b (j + 1 + (k : Int)) (n - at0 - 1))) :: (iX k k ((R (2 : Int) k).length) []))))) ⟨oW (by omega), ⟨oW (by omega), ⟨oW (by omega), ⟨(by have h9 := V0 b (i := j + 1 + k) (m := n - at0 - 1) (by omega) (by omega); exact w64 (by omega) (by omega)), (iK (by rw [hRl]; omega) bS4)⟩⟩⟩⟩ fun G => i8 (i8 (b0 (A0 G d8 [(12, iA ((k : Int) + 1))] [wO ((k : Int) + 1)] (o1 (by omega)) fun G => b0 ?_))); exact H9 G (k + 1) (by omega) (by omega) (rg 9) (by have e1 : (j + 1 + (↑(k + 1) : Int) : Int) = (j + 1 + (k : Int) + 1) := (by omega); have e2 : (R 2 (k + 1) : List Int) = ((R 2 k).set k (at0 + 1 + pk b (j + 1 + (k : Int)) (n - at0 - 1))) := (hR.next (by omega) (bn5 (by with_reducible assumption) (by with_reducible assumption) (by with_reducible assumption) (by with_reducible assumption) (by with_reducible assumption))); (first | rw [e1, e2] | simp only [e1, e2]) <;> rfl)
         · refine G4 G (r7 3 [0, 1] (n5 b (j + 1 + (k : Int)) 7 (by omega) (by omega))) (rg 9) (F8 j k :: (y7 b vs ars l [L4, .row 3 (D.ints ((R 2 k).set k (4 + pk b (j + 1 + (k : Int)) 7)))])) (v5 at0 n ((10, I9) :: (C5 k []))) ((wO ((4 : Int) + pk b (j + 1 + (k : Int)) (7 : Int))) :: (iX k k ((R (2 : Int) k).length) [])) ⟨(by have h9 := V0 b (i := j + 1 + k) (m := 7) (by omega) (by omega); exact w64 (by omega) (by omega)), (iK (by rw [hRl]; omega) bS4)⟩ fun G => i8 (i8 (b0 (A0 G d8 [(12, iA ((k : Int) + 1))] [wO ((k : Int) + 1)] (o1 (by omega)) fun G => b0 ?_))); exact H9 G (k + 1) (by omega) (by omega) (rg 9) (by have e1 : (j + 1 + (↑(k + 1) : Int) : Int) = (j + 1 + (k : Int) + 1) := (by omega); have e2 : (R 2 (k + 1) : List Int) = ((R 2 k).set k (4 + pk b (j + 1 + (k : Int)) 7)) := (hR.next (by omega) (bn7 (by with_reducible assumption))); (first | rw [e1, e2] | simp only [e1, e2]) <;> rfl)
        · refine G4 G (r7 6 [0, 1] (n5 b (j + 1 + (k : Int)) ((ars.length : Int)) (by omega) (by omega))) (rg 9) (F8 j k :: (y7 b vs ars l [L4, .row 3 (D.ints ((R 2 k).set k (pk b (j + 1 + (k : Int)) (ars.length : Int))))])) (v5 at0 n ((10, I9) :: (C5 k []))) (iX k k ((R (2 : Int) k).length) []) (iK (by rw [hRl]; omega) bS4) fun G => i8 (i8 (b0 (A0 G d8 [(12, iA ((k : Int) + 1))] [wO ((k : Int) + 1)] (o1 (by omega)) fun G => b0 ?_))); exact H9 G (k + 1) (by omega) (by omega) (rg 9) (by have e1 : (j + 1 + (↑(k + 1) : Int) : Int) = (j + 1 + (k : Int) + 1) := (by omega); have e2 : (R 2 (k + 1) : List Int) = ((R 2 k).set k (pk b (j + 1 + (k : Int)) (ars.length : Int))) := (hR.next (by omega) (bn9 (by with_reducible assumption))); (first | rw [e1, e2] | simp only [e1, e2]) <;> rfl)
       · refine G4 G (r7 6 [0, 1] (n5 b (j + 1 + (k : Int)) ((vs.length : Int)) (by omega) (by omega))) (rg 9) (F8 j k :: (y7 b vs ars l [L4, .row 3 (D.ints ((R 2 k).set k (pk b (j + 1 + (k : Int)) (vs.length : Int))))])) (v5 at0 n ((10, I9) :: (C5 k []))) (iX k k ((R (2 : Int) k).length) []) (iK (by rw [hRl]; omega) bS4) fun G => i8 (i8 (b0 (A0 G d8 [(12, iA ((k : Int) + 1))] [wO ((k : Int) + 1)] (o1 (by omega)) fun G => b0 ?_))); exact H9 G (k + 1) (by omega) (by omega) (rg 9) (by have e1 : (j + 1 + (↑(k + 1) : Int) : Int) = (j + 1 + (k : Int) + 1) := (by omega); have e2 : (R 2 (k + 1) : List Int) = ((R 2 k).set k (pk b (j + 1 + (k : Int)) (vs.length : Int))) := (hR.next (by omega) (bn4 (by with_reducible assumption))); (first | rw [e1, e2] | simp only [e1, e2]) <;> rfl)
      · refine G4 G (r7 3 [0, 1] (H0 b (j + 1 + (k : Int)) (by omega) (by omega))) (rg 9) (F8 j k :: (y7 b vs ars l [L4, .row 3 (D.ints ((R 2 k).set k (nm b (j + 1 + (k : Int)) W9)))])) (v5 at0 n ((10, I9) :: (C5 k []))) (iX k k ((R (2 : Int) k).length) []) (iK (by rw [hRl]; omega) bS4) fun G => i8 (i8 (b0 (A0 G d8 [(12, iA ((k : Int) + 1))] [wO ((k : Int) + 1)] (o1 (by omega)) fun G => b0 ?_))); exact H9 G (k + 1) (by omega) (by omega) (rg 9) (by have e1 : (j + 1 + (↑(k + 1) : Int) : Int) = (j + 1 + (k : Int) + 1) := (by omega); have e2 : (R 2 (k + 1) : List Int) = ((R 2 k).set k (nm b (j + 1 + (k : Int)) W9)) := (hR.next (by omega) (bn8 (by with_reducible assumption))); (first | rw [e1, e2] | simp only [e1, e2]) <;> rfl)
     · refine G4 G (r7 3 [0, 1] (n5 b (j + 1 + (k : Int)) 3 (by omega) (by omega))) (rg 9) (F8 j k :: (y7 b vs ars l [L4, .row 3 (D.ints ((R 2 k).set k (pk b (j + 1 + (k : Int)) 3)))])) (v5 at0 n ((10, I9) :: (C5 k []))) (iX k k ((R (2 : Int) k).length) []) (iK (by rw [hRl]; omega) bS4) fun G => i8 (i8 (b0 (A0 G d8 [(12, iA ((k : Int) + 1))] [wO ((k : Int) + 1)] (o1 (by omega)) fun G => b0 ?_))); exact H9 G (k + 1) (by omega) (by omega) (rg 9) (by have e1 : (j + 1 + (↑(k + 1) : Int) : Int) = (j + 1 + (k : Int) + 1) := (by omega); have e2 : (R 2 (k + 1) : List Int) = ((R 2 k).set k (pk b (j + 1 + (k : Int)) 3)) := (hR.next (by omega) (bn6 (by with_reducible assumption))); (first | rw [e1, e2] | simp only [e1, e2]) <;> rfl)
theorem aU1 (b : List UInt8) (j : Int) (vs ars : List Int) (l : List c7) (at0 n : Int) (r0 : 0 ≤ j) (r1 : j ≤ 800000000) (r2 : 0 ≤ at0 ∧ at0 ≤ 100) (r3 : 0 ≤ n ∧ n ≤ 100) : j5.ok Try.prog (rnC b j vs ars l at0 n) := aQ2 b j vs ars l at0 n _ rfl r0 r1 r2 r3
abbrev mA (r : Nat) : AV := .agg [.ref r, .ref (r + 1)]
abbrev mT (r : Nat) : AV := .agg [.ref r, .tref (r + 1)]
abbrev mS (m : o8) : List It := [dI m.vals, dR m.arrs]
abbrev mO (m : o8) : List It := [.row 3 (.ints m.vals), .tree (.rows m.arrs)]
theorem bk3 {l : List (List Int)} {k : Nat} (h : k < l.length) : l.take (k + 1) = l.take k ++ [l.getD k []] := by
 rw [x5 _ _ h, o5 h]
theorem aI1 {l : List (List Int)} {k : Nat} (h : l.length ≤ k) : l.take k = l := bT9 h
abbrev aW0 : It := .box [.v (.slice none 0 0), .v (.slice none 0 0)]
theorem aN4 (xs : List Int) (rs : List (List Int)) (hx : xs.length ≤ 1048576) (hr : rs.length ≤ 1048576) (hi : ∀ a ∈ rs, a.length ≤ 1048576) : j5.ok Try.prog ⟨94, [mA 0], [dI xs, dR rs], [dI xs, dR rs, .row 3 (.ints xs), .tree (.rows rs)], mT 2⟩ := by
 refine F5 30 Try.func94 [dI xs, dR rs] [(0, .agg [.ref 0, .ref 1])] fun G => ?_; refine wp_seq (i7 G d8 [0, 1, 2, 10] [dI xs, dR rs, .box [.ref 0, .ref 1], aW0] [(1, .ptr 2 0), (2, .ptr 3 0)] fun G => b0 (wp_seq (G4 G d8 [0, 1, 2, 3, 28, 44] [dI xs, dR rs, .box [.ref 0, .ref 1], aW0, .row 3 (D.ints ([] ++ xs)), .box [.ref 4, .v (.slice none 0 0)]] [(1, .ptr 2 0), (2, .ptr 3 0), (3, .ptr 5 0)] (aP ((0 : Nat) + xs.length) 8 []) (aK (by omega) bS4) fun G => b0 (wp_seq (wp_seq (D6 G d8 [(1, .ptr 2 0), (2, .ptr 3 0), (3, .ptr 5 0), (4, iA 0)] fun G => b0 (wp_block ?_))))))); obtain ⟨ρ, G⟩ := G.nilT 6 (.rows []) [dI xs, dR rs, .box [.ref 0, .ref 1], .box [.v (.slice none 0 0), .v (.slice none 0 0)], .row 3 (D.ints ([] ++ xs)), .box [.ref 4, .tref 6]] [(1, .ptr 2 0), (2, .ptr 3 0), (3, .ptr 5 0), (4, iA 0)]; refine t6 (κ := Nat) (fun k => k ≤ rs.length) (fun k => rs.length - k) (fun k => [dI xs, dR rs, .box [.ref 0, .ref 1], .box [.v (.slice none 0 0), .v (.slice none 0 0)], .row 3 (D.ints ([] ++ xs)), .box [.ref 4, .tref 6], .tree (.rows (rs.take k))]) (fun k => [(1, .ptr 2 0), (2, .ptr 3 0), (3, .ptr 5 0), (4, iA k)]) 0 (by omega) (s5.at G _ _) ?_; clear G; intro k ρ a w hp G; replace G := s5.at G [dI xs, dR rs, .box [.ref 0, .ref 1], aW0, .row 3 (D.ints ([] ++ xs)), .box [.ref 4, .tref 6], .tree (D.rows (bS3 k rs))] [(1, .ptr 2 0), (2, .ptr 3 0), (3, .ptr 5 0), (4, iA k)]; refine wp_seq (wp_seq (j7 G d8 [(14, bA (decide ((k : Int) < rs.length)))] fun G => b0 (rcD G (fun h0 q0 => ?_) fun h0 q0 => ?_)))
 ·refine wp_exit (t3 (t3 (t2 (b0 (wp_seq (i7 G d8 [0, 1, 3, 4, 6] [dI xs, dR rs, .box [.ref 3, .tref 4], .row 3 (D.ints ([] ++ xs)), .tree (D.rows (bS3 k rs))] [(2, .ptr 2 0)] fun G => b0 (wp_ret ?_))))))); exact D8 G [0, 1, 3, 4] (by show _ = mR [0, 1, 3, 4] [dI xs, dR rs, .row 3 (D.ints xs), .tree (D.rows rs)]; have e1 : (bS3 k rs : List (List Int)) = (rs) := (aI1 (by omega)); (first | rw [e1] | simp only [e1]) <;> rfl)
 ·refine wp_skip (b0 (wp_seq (wp_block (C8 G d8 [0, 1, 0, 0, 8, 0, 56, 120, 252, 508, 1023, 2047, 4095] [0, 1, 2, 3, 4, 5, 87] [dI xs, dR rs, .box [.ref 0, .ref 1], aW0, .row 3 (D.ints ([] ++ xs)), .box [.ref 4, .tref 6], .tree (D.rows (bS3 k rs ++ [[] ++ rs.getD k []]))] [(1, .ptr 2 0), (2, .ptr 3 0), (3, .ptr 5 0), (4, iA k)] (iX k k rs.length (aP ((0 : Nat) + (rs.getD k []).length) 8 (aP ((bS3 k rs).length + [[] ++ rs.getD k []].length) 24 []))) (iK (by omega) (aK (by have h9 := hi (rs.getD k []) (by rw [o5 (by omega)]; exact bS9 _); omega) (aK (by simp; omega) bS4))) fun G => i8 (b0 (A0 G d8 [(4, iA ((k : Int) + 1))] [wO ((k : Int) + 1)] (o1 (by omega)) fun G => b0 ?_)))))); exact H9 G (k + 1) (by omega) (by omega) (rg 7) (by have e1 : (bS3 (k + 1) rs : List (List Int)) = (bS3 k rs ++ [[] ++ rs.getD k []]) := (bk3 (by omega)); (first | rw [e1] | simp only [e1]) <;> rfl)
abbrev ab3 : It := .box [.v (.slice none 0 0), .v (.slice none 0 0)]
abbrev J6 (r0 : List (Nat × AV)) : List (Nat × AV) := (0, .ptr 0 0) :: (3, .ptr 5 0) :: (4, .ptr 6 0) :: (5, .ptr 7 0) :: r0
abbrev aG5 (b : List UInt8) (j : Int) (vs : List Int) (i : Nat) (r0 : List It) : List It := .box [.ref 8, .tref 9] :: .row 3 (D.ints (H8 b j vs.length)) :: .tree (D.rows (arD b (j + (vs.length : Int)) i)) :: r0
abbrev aG4 (r0 : List It) : List It := .box (pL 2) :: .box [.v (.slice none 0 0), .v (.slice none 0 0)] :: r0
theorem au7 (b : List UInt8) (j : Int) (vs ars : List Int) (bd : List c6) (h1 : vs.length ≤ 1000000) (h2 : ars.length ≤ 1000000) (r0 : 0 ≤ j) (r1 : j ≤ 100000000) : j5.ok Try.prog ⟨57, [.ptr 0 0, pA 2], [.box [.ref 1, iA j], dY b, dI vs, dI ars, dT bd], [.box [.ref 1, iA (j + vs.length + 4 * ars.length)], dY b, dI vs, dI ars, dT bd] ++ mS (mmD b j vs.length ars.length), mA 5⟩ := by
  refine F5 49 Try.func57 [.box [.ref 1, iA j], dY b, dI vs, dI ars, dT bd] [(0, .ptr 0 0), (1, pA 2)] fun G => ?_; refine wp_seq (i7 G d8 [0, 1, 2, 3, 4, 5, 13] [.box [.ref 1, iA j], dY b, dI vs, dI ars, dT bd, .box (pL 2), ab3] [(0, .ptr 0 0), (3, .ptr 5 0), (4, .ptr 6 0)] fun G => b0 (wp_seq (i7 G d8 [0, 1, 2, 3, 4, 5, 6, 15] [.box [.ref 1, iA j], dY b, dI vs, dI ars, dT bd, .box (pL 2), ab3, ab3] (J6 []) fun G => b0 (wp_seq (wp_seq (D6 G d8 (J6 [(6, iA 0)]) fun G => b0 (wp_block ?_))))))); obtain ⟨ρ, G⟩ := G.nil 8 3 (.ints []) 1 (.box [.ref 1, iA j] :: dY b :: dI vs :: dI ars :: dT bd :: (aG4 [.box [.ref 8, .v (.slice none 0 0)]])) (J6 [(6, iA 0)]); replace G := G.as (.box [.ref 1, iA (j + 0)] :: dY b :: dI vs :: dI ars :: dT bd :: (aG4 [.box [.ref 8, .v (.slice none 0 0)], .row 3 (D.ints (H8 b j 0))])) (J6 [(6, iA 0)]) (by have e1 : (j + 0 : Int) = (j) := (by omega); (first | rw [e1] | simp only [e1]) <;> rfl) (by kernel_rfl); refine t6 (κ := Nat) (fun k => k ≤ vs.length) (fun k => vs.length - k) (fun k => [.box [.ref 1, iA (j + k)], dY b, dI vs, dI ars, dT bd, .box (pL 2), .box [.v (.slice none 0 0), .v (.slice none 0 0)], .box [.ref 8, .v (.slice none 0 0)], .row 3 (.ints (H8 b j k))]) (fun k => [(0, .ptr 0 0), (3, .ptr 5 0), (4, .ptr 6 0), (5, .ptr 7 0), (6, iA k)]) 0 (by omega) (s5.at G _ _) ?_; clear G; intro k ρ a w hp G; replace G := s5.at G [.box [.ref 1, iA (j + (k : Int))], dY b, dI vs, dI ars, dT bd, .box (pL 2), ab3, .box [.ref 8, .v (.slice none 0 0)], .row 3 (D.ints (H8 b j k))] (J6 [(6, iA k)]); have hvl := T3 b j k; refine wp_seq (wp_seq (D6 G d8 (J6 [(6, iA k), (15, bA (decide ((k : Int) < vs.length)))]) fun G => b0 ?_)); cases h0 : (decide ((k : Int) < vs.length))
  ·
   have q0 := T8 h0
   obtain rfl : k = vs.length := by omega
   refine rF G (decide ((vs.length : Int) < vs.length)) (by assumption) (wp_exit (t3 (t3 (t2 (b0 (wp_seq (wp_seq (D6 G d8 (J6 [(7, iA 0)]) fun G => b0 (wp_block ?_))))))))); obtain ⟨ρ, G⟩ := G.nilT 9 (.rows []) (.box [.ref 1, iA (j + (vs.length : Int))] :: dY b :: dI vs :: dI ars :: dT bd :: (aG4 [.box [.ref 8, .tref 9], .row 3 (D.ints (H8 b j vs.length))])) (J6 [(7, iA 0)]); replace G := G.as (.box [.ref 1, iA (j + (vs.length : Int) + 4 * (0 : Int))] :: dY b :: dI vs :: dI ars :: dT bd :: (aG4 [.box [.ref 8, .tref 9], .row 3 (D.ints (H8 b j vs.length)), .tree (D.rows (arD b (j + (vs.length : Int)) 0))])) (J6 [(7, iA 0)]) (by have e1 : (j + (vs.length : Int) + 4 * (0 : Int) : Int) = (j + (vs.length : Int)) := (by omega); (first | rw [e1] | simp only [e1]) <;> rfl) (by kernel_rfl); refine t6 (κ := Nat) (fun i => i ≤ ars.length) (fun i => ars.length - i) (fun i => [.box [.ref 1, iA (j + vs.length + 4 * i)], dY b, dI vs, dI ars, dT bd, .box (pL 2), .box [.v (.slice none 0 0), .v (.slice none 0 0)], .box [.ref 8, .tref 9], .row 3 (D.ints (H8 b j vs.length)), .tree (.rows (arD b (j + vs.length) i))]) (fun i => [(0, .ptr 0 0), (3, .ptr 5 0), (4, .ptr 6 0), (5, .ptr 7 0), (7, iA i)]) 0 (by omega) (s5.at G _ _) ?_; clear G; intro i ρ a w hp G; replace G := s5.at G (.box [.ref 1, iA (j + (vs.length : Int) + 4 * (i : Int))] :: dY b :: dI vs :: dI ars :: dT bd :: .box (pL 2) :: ab3 :: (aG5 b j vs i [])) (J6 [(7, iA i)]); have hal := aV1 b (j + vs.length) i; refine wp_seq (wp_seq (D6 G d8 (J6 [(7, iA i), (29, bA (decide ((i : Int) < ars.length)))]) fun G => b0 ?_)); cases h1 : (decide ((i : Int) < ars.length))
   ·
    have q1 := T8 h1
    obtain rfl : i = ars.length := by omega
    refine rF G (decide ((ars.length : Int) < ars.length)) (by assumption) (wp_exit (t3 (t3 (t2 (b0 (wp_seq (i7 G d8 [0, 1, 2, 3, 4, 6, 8, 9] [.box [.ref 1, iA (j + (vs.length : Int) + 4 * (ars.length : Int))], dY b, dI vs, dI ars, dT bd, .box [.ref 6, .tref 7], .row 3 (D.ints (H8 b j vs.length)), .tree (D.rows (arD b (j + (vs.length : Int)) ars.length))] [(4, .ptr 5 0)] fun G => b0 (wp_ret ?_)))))))); obtain ⟨ρ, G⟩ := G.frz [.no, .no, .no, .no, .no, .no, .row 3, .tree] [.box [.ref 1, iA (j + (vs.length : Int) + 4 * (ars.length : Int))], dY b, dI vs, dI ars, dT bd, .box [.ref 6, .ref 7], dI (H8 b j vs.length), dR (arD b (j + (vs.length : Int)) ars.length)] [(4, .ptr 5 0)]; exact D8 G [0, 1, 2, 3, 4, 6, 7]
   ·
    have q1 := T7 h1; refine rT G _ h1 (wp_skip (b0 (wp_seq (wp_block (wp_seq (i7 G d8 (rg 11) (.box [.ref 1, iA (j + (vs.length : Int) + 4 * (i : Int))] :: dY b :: dI vs :: dI ars :: dT bd :: .box (pL 2) :: ab3 :: (aG5 b j vs i [.row 3 (D.ints [])])) (J6 [(7, iA i), (8, .ref 10)]) fun G => b0 (wp_seq (wp_seq (D6 G d8 (J6 [(7, iA i), (8, .ref 10), (9, iA 0)]) fun G => b0 (wp_block ?_)))))))))); replace G := G.as (.box [.ref 1, iA (j + (vs.length : Int) + 4 * (i : Int) + 0)] :: dY b :: dI vs :: dI ars :: dT bd :: (aG4 (aG5 b j vs i [.row 3 (D.ints (H8 b (j + (vs.length : Int) + 4 * (i : Int)) 0))]))) (J6 [(7, iA i), (8, .ref 10), (9, iA 0)]) (by have e1 : (j + (vs.length : Int) + 4 * (i : Int) + 0 : Int) = (j + (vs.length : Int) + 4 * (i : Int)) := (by omega); (first | rw [e1] | simp only [e1]) <;> rfl) (by kernel_rfl); refine t6 (κ := Nat) (fun k2 => k2 ≤ 4) (fun k2 => 4 - k2) (fun k2 => [.box [.ref 1, iA (j + vs.length + 4 * i + k2)], dY b, dI vs, dI ars, dT bd, .box (pL 2), .box [.v (.slice none 0 0), .v (.slice none 0 0)], .box [.ref 8, .tref 9], .row 3 (D.ints (H8 b j vs.length)), .tree (D.rows (arD b (j + (vs.length : Int)) i)), .row 3 (.ints (H8 b (j + vs.length + 4 * i) k2))]) (fun k2 => [(0, .ptr 0 0), (3, .ptr 5 0), (4, .ptr 6 0), (5, .ptr 7 0), (7, iA i), (8, .ref 10), (9, iA k2)]) 0 (by omega) (s5.at G _ _) ?_; clear G; intro k2 ρ a w hp G; replace G := s5.at G (.box [.ref 1, iA (j + (vs.length : Int) + 4 * (i : Int) + (k2 : Int))] :: dY b :: dI vs :: dI ars :: dT bd :: .box (pL 2) :: ab3 :: (aG5 b j vs i [.row 3 (D.ints (H8 b (j + (vs.length : Int) + 4 * (i : Int)) k2))])) (J6 [(7, iA i), (8, .ref 10), (9, iA k2)]); have hvl2 := T3 b (j + vs.length + 4 * i) k2; refine wp_seq (wp_seq (D6 G d8 (J6 [(7, iA i), (8, .ref 10), (9, iA k2), (34, bA (decide ((k2 : Int) < 4)))]) fun G => b0 ?_)); cases h2 : (decide ((k2 : Int) < 4))
    ·
     have q2 := T8 h2
     obtain rfl : k2 = 4 := by omega
     refine rF G false (by kernel_rfl) (wp_exit (t3 (t3 (t2 (b0 (G4 G d8 [0, 1, 2, 3, 4, 5, 6, 7, 8, 43] [.box [.ref 1, iA (j + (vs.length : Int) + 4 * (i : Int) + 4)], dY b, dI vs, dI ars, dT bd, .box (pL 2), ab3, .box [.ref 8, .tref 9], .row 3 (D.ints (H8 b j vs.length)), .tree (D.rows (arD b (j + (vs.length : Int)) i ++ [H8 b (j + (vs.length : Int) + 4 * (i : Int)) 4]))] (J6 [(7, iA i)]) (aP ((arD b (j + (vs.length : Int)) i).length + [H8 b (j + (vs.length : Int) + 4 * (i : Int)) (4 : Nat)].length) 24 []) (aK (by simp; omega) bS4) fun G => i8 (b0 (A0 G d8 [(7, iA ((i : Int) + 1))] [wO ((i : Int) + 1)] (o1 (by omega)) fun G => b0 ?_)))))))); exact H9 G (i + 1) (by omega) (by omega) (rg 10) (by have e1 : (j + (vs.length : Int) + 4 * (↑(i + 1) : Int) : Int) = (j + (vs.length : Int) + 4 * (i : Int) + 4) := (by omega); have e2 : (arD b (j + (vs.length : Int)) (i + 1) : List (List Int)) = (arD b (j + (vs.length : Int)) i ++ [H8 b (j + (vs.length : Int) + 4 * (i : Int)) 4]) := (br0 _ _ _); (first | rw [e1, e2] | simp only [e1, e2]) <;> rfl)
    · have q2 := T7 h2; refine rT G _ h2 (wp_skip (b0 (wp_seq (wp_block (G4 G (r7 2 [0, 1] (H0 b (j + (vs.length : Int) + 4 * (i : Int) + (k2 : Int)) (by omega) (by omega))) [0, 1, 2, 3, 4, 5, 6, 7, 8, 9, 43] (.box [.ref 1, iA (j + (vs.length : Int) + 4 * (i : Int) + (k2 : Int) + 1)] :: dY b :: dI vs :: dI ars :: dT bd :: .box (pL 2) :: ab3 :: (aG5 b j vs i [.row 3 (D.ints (H8 b (j + (vs.length : Int) + 4 * (i : Int)) k2 ++ ([nm b (j + (vs.length : Int) + 4 * (i : Int) + (k2 : Int)) W9] ++ [])))])) (J6 [(7, iA i), (8, .ref 10), (9, iA k2)]) (aP ((H8 b (j + (vs.length : Int) + 4 * (i : Int)) k2).length + ([nm b (j + (vs.length : Int) + 4 * (i : Int) + (k2 : Int)) W9] ++ []).length) 8 []) (aK (by simp; omega) bS4) fun G => i8 (b0 (A0 G d8 [(9, iA ((k2 : Int) + 1))] [wO ((k2 : Int) + 1)] (o1 (by omega)) fun G => b0 ?_))))))); exact H9 G (k2 + 1) (by omega) (by omega) (rg 11) (by have e1 : (j + (vs.length : Int) + 4 * (i : Int) + (↑(k2 + 1) : Int) : Int) = (j + (vs.length : Int) + 4 * (i : Int) + (k2 : Int) + 1) := (by omega); have e2 : (H8 b (j + (vs.length : Int) + 4 * (i : Int)) (k2 + 1) : List Int) = (H8 b (j + (vs.length : Int) + 4 * (i : Int)) k2 ++ ([nm b (j + (vs.length : Int) + 4 * (i : Int) + (k2 : Int)) W9] ++ [])) := (an4 _ _ _); (first | rw [e1, e2] | simp only [e1, e2]) <;> rfl)
  · have q0 := T7 h0; refine rT G _ h0 (wp_skip (b0 (wp_seq (wp_block (C8 G (r7 3 [0, 1] (H0 b (j + (k : Int)) (by omega) (by omega))) [0, 1, 0, 4, 12, 31, 63, 127] [0, 1, 2, 3, 4, 5, 6, 7, 49] [.box [.ref 1, iA (j + (k : Int) + 1)], dY b, dI vs, dI ars, dT bd, .box (pL 2), ab3, .box [.ref 8, .v (.slice none 0 0)], .row 3 (D.ints (H8 b j k ++ ([nm b (j + (k : Int)) W9] ++ [])))] (J6 [(6, iA k)]) (aP ((H8 b j k).length + ([nm b (j + (k : Int)) W9] ++ []).length) 8 []) (aK (by simp; omega) bS4) fun G => i8 (b0 (A0 G d8 [(6, iA ((k : Int) + 1))] [wO ((k : Int) + 1)] (o1 (by omega)) fun G => b0 ?_))))))); exact H9 G (k + 1) (by omega) (by omega) (rg 9) (by have e1 : (j + (↑(k + 1) : Int) : Int) = (j + (k : Int) + 1) := (by omega); have e2 : (H8 b j (k + 1) : List Int) = (H8 b j k ++ ([nm b (j + (k : Int)) W9] ++ [])) := (an4 _ _ _); (first | rw [e1, e2] | simp only [e1, e2]) <;> rfl)
section
variable {vs ars : List Int} {l : Int} {s : c6} {pc pd : Int}
end
theorem a38 {p : j8} (h : B5 p = true) : p.vars.all A7 = true ∧ p.arrays.all A7 = true ∧ 1 ≤ p.vars.length ∧ p.body.all (l6 p.vars.length p.arrays.length 5) = true := by
 unfold B5 D4 at h
 simp only [bR6, decide_eq_true_eq] at h
 exact ⟨h.1.1.1.1.1.1, h.1.1.1.1.1.2, h.1.1.1.1.2, h.1.2⟩
section
variable (vs ars : List Int) (bd : List c6)
end
abbrev nvB (n : Int) : Bool := !(decide (0 ≤ n) && decide (n ≤ 255))
theorem bq7 (n : Int) : j5.ok Try.prog (X8 127 [iA n] [] (bA (nvB n))) := by
 refine F5 6 Try.func127 [] [(0, iA n)] fun G => ?_; refine wp_seq (j7 G d8 [(2, bA false)] fun G => b0 (wp_seq (j7 G (r7 1 [] (Z4 n 0 255)) [(2, .v (.bool !(decide (0 ≤ n) && decide (n ≤ 255))))] fun G => b0 (wp_ret ?_)))); exact D8 G []
theorem bI8 (l : List Int) : j5.ok Try.prog (X8 137 [.ref 0, .fn 127 []] [dI l] (iA (X4 nvB l))) := by
  refine F5 19 Try.func137 [dI l] [(0, .ref 0), (1, .fn 127 [])] fun G => ?_; have hl : l.length ≤ 9223372036854775807 := G.len 0 (d := .ints l) (by kernel_rfl); refine wp_seq (D6 G d8 [(0, .ref 0), (1, .fn 127 []), (4, iA 0)] fun G => b0 (wp_seq (wp_seq (D6 G d8 [(0, .ref 0), (1, .fn 127 []), (4, iA 0), (7, iA (l.length : Int)), (8, iA 0)] fun G => b0 (wp_block ?_))))); refine t6 (κ := Nat) (fun k => k ≤ l.length ∧ (l.take k).any nvB = false) (fun k => l.length - k) (fun k => [dI l]) (fun k => [(0, .ref 0), (1, .fn 127 []), (4, iA 0), (7, iA (l.length : Int)), (8, iA k)]) 0 (⟨bU8 _, rfl⟩) (s5.at G _ _) ?_; clear G; intro k ρ a w hp G; refine wp_seq (j7 G d8 [(9, bA (decide ((k : Int) < l.length)))] fun G => b0 (wp_seq (rcD G (fun h0 q0 => ?_) fun h0 q0 => ?_)))
  · refine wp_exit (t3 (t3 (t2 (b0 (wp_seq (j7 G d8 [(4, iA (-1))] fun G => b0 (wp_ret ?_))))))); exact rxI (-1) G [0] (at6 (aO5 hp.2 (by omega)))
  ·
   refine wp_skip (b0 (wp_seq (wp_block (wp_seq (j7 G d8 [(5, iA k)] fun G => b0 (wp_seq (A0 G (r7 5 [] (bq7 (l.getD k 0))) [(16, bA (nvB (l.getD k 0)))] (iX k k l.length []) (iK (by omega) bS4) fun G => b0 (rcB G (fun h1 => ?_) fun h1 => ?_))))))))
   · refine wp_skip (i8 (b0 (A0 G d8 [(8, iA ((k : Int) + 1))] [wO ((k : Int) + 1)] (o1 (by omega)) fun G => b0 ?_))); exact H9 G (k + 1) (⟨by omega, aO4 (z := 0) hp.2 (by omega) (by assumption)⟩) (by omega) [0]
   · refine wp_seq (j7 G d8 [(4, iA k)] fun G => b0 (wp_ret (C9 (n8 (n8 (C9 (n8 ?_))))))); exact rxI ((k : Int)) G [0] (az6 (z := 0) (by omega) hp.2 (by assumption))
theorem bJ0 (l : List Int) : j5.ok Try.prog (X8 116 [.ref 0, .fn 127 []] [dI l] (bA (l.any nvB))) := by
 refine F5 9 Try.func116 [dI l] [(0, .ref 0), (1, .fn 127 [])] fun G => ?_; refine wp_seq (j7 G d8 [(4, bA false)] fun G => b0 (wp_seq (j7 G (r7 2 [0] (bI8 l)) [(4, bA (decide (X4 nvB l ≥ 0)))] fun G => b0 (wp_ret ?_)))); exact I6 (decide (X4 nvB l ≥ 0)) G [0] ((az7 _ _).symm)
theorem a89 (l : List Int) : (!l.any nvB) = C0 l := by
 unfold C0
 rw [List.all_eq_not_any_not]
theorem S7 (l : List Int) : j5.ok Try.prog (X8 89 [.ref 0] [dI l] (bA (C0 l))) := by
 refine F5 6 Try.func89 [dI l] [(0, .ref 0)] fun G => ?_; refine wp_seq (j7 G d8 [(2, bA false)] fun G => b0 (wp_seq (j7 G (r7 1 [0] (bJ0 l)) [(2, .v (.bool !l.any nvB))] fun G => b0 (wp_ret ?_)))); exact Q1 (.v (.bool !l.any nvB)) G [0] (by have e1 : (C0 l : Bool) = (!l.any nvB) := ((a89 l).symm); (first | rw [e1] | simp only [e1]) <;> rfl)
abbrev naB (a : List Int) : Bool := !(N9 a)
theorem bO4 {a : List Int} (h : ¬ (a.length : Int) = 4) : naB a = true := by unfold naB N9; rw [decide_eq_false (p := a.length = 4) (by omega)]; rfl
theorem bO3 {a : List Int} (h : (a.length : Int) = 4) : naB a = !(C0 a) := by unfold naB N9; rw [decide_eq_true (p := a.length = 4) (by omega)]; rfl
theorem bA5 (l : List Int) : j5.ok Try.prog (X8 113 [.ref 0] [dI l] (bA (naB l))) := by
 refine F5 11 Try.func113 [dI l] [(0, .ref 0)] fun G => ?_; refine wp_seq (j7 G d8 [(2, bA false)] fun G => b0 (wp_seq ?_)); cases h0 : ((l.length : Int) != 4)
 ·have q0 := bne_eq_false_iff_eq.1 h0; refine j7 G (K9 (A2 5 [0] (S7 l) K8) (fc h0 fz) [(4, 0), (5, 0), (6, 0), (1007, 0)]) [(2, .v (.bool !C0 l))] fun G => b0 (wp_ret ?_); exact Q1 (.v (.bool !C0 l)) G [0] (by have e1 : (naB l : Bool) = (!C0 l) := (bO3 (by omega)); (first | rw [e1] | simp only [e1]) <;> rfl)
 ·have q0 := bne_iff_ne.1 h0; refine j7 G (E7 (fc h0 fz) [(4, 0), (5, 0), (6, 0), (1007, 0)]) [(2, bA true)] fun G => b0 (wp_ret ?_); exact I6 true G [0] (bO4 (by omega))
theorem bI9 (l : List (List Int)) : j5.ok Try.prog (X8 136 [.ref 0, .fn 113 []] [dR l] (iA (X4 naB l))) := by
  refine F5 19 Try.func136 [dR l] [(0, .ref 0), (1, .fn 113 [])] fun G => ?_; have hl : l.length ≤ 9223372036854775807 := G.len 0 (d := .rows l) (by kernel_rfl); refine wp_seq (D6 G d8 [(0, .ref 0), (1, .fn 113 []), (4, iA 0)] fun G => b0 (wp_seq (wp_seq (D6 G d8 [(0, .ref 0), (1, .fn 113 []), (4, iA 0), (7, iA (l.length : Int)), (8, iA 0)] fun G => b0 (wp_block ?_))))); refine t6 (κ := Nat) (fun k => k ≤ l.length ∧ (l.take k).any naB = false) (fun k => l.length - k) (fun k => [dR l]) (fun k => [(0, .ref 0), (1, .fn 113 []), (4, iA 0), (7, iA (l.length : Int)), (8, iA k)]) 0 (⟨bU8 _, rfl⟩) (s5.at G _ _) ?_; clear G; intro k ρ a w hp G; refine wp_seq (j7 G d8 [(9, bA (decide ((k : Int) < l.length)))] fun G => b0 (wp_seq (rcD G (fun h0 q0 => ?_) fun h0 q0 => ?_)))
  · refine wp_exit (t3 (t3 (t2 (b0 (wp_seq (j7 G d8 [(4, iA (-1))] fun G => b0 (wp_ret ?_))))))); exact rxI (-1) G [0] (at6 (aO5 hp.2 (by omega)))
  ·
   refine wp_skip (b0 (wp_seq (wp_block (wp_seq (j7 G d8 [(5, iA k)] fun G => b0 (wp_seq (A0 G (r7 5 [33] (bA5 (l.getD k []))) [(16, bA (naB (l.getD k [])))] (iX k k l.length []) (iK (by omega) bS4) fun G => b0 (rcB G (fun h1 => ?_) fun h1 => ?_))))))))
   · refine wp_skip (i8 (b0 (A0 G d8 [(8, iA ((k : Int) + 1))] [wO ((k : Int) + 1)] (o1 (by omega)) fun G => b0 ?_))); exact H9 G (k + 1) (⟨by omega, aO4 (z := []) hp.2 (by omega) (by assumption)⟩) (by omega) [0]
   · refine wp_seq (j7 G d8 [(4, iA k)] fun G => b0 (wp_ret (C9 (n8 (n8 (C9 (n8 ?_))))))); exact rxI ((k : Int)) G [0] (az6 (z := []) (by omega) hp.2 (by assumption))
theorem bJ1 (l : List (List Int)) : j5.ok Try.prog (X8 112 [.ref 0, .fn 113 []] [dR l] (bA (l.any naB))) := by
 refine F5 9 Try.func112 [dR l] [(0, .ref 0), (1, .fn 113 [])] fun G => ?_; refine wp_seq (j7 G d8 [(4, bA false)] fun G => b0 (wp_seq (j7 G (r7 2 [0] (bI9 l)) [(4, bA (decide (X4 naB l ≥ 0)))] fun G => b0 (wp_ret ?_)))); exact I6 (decide (X4 naB l ≥ 0)) G [0] ((az7 _ _).symm)
theorem bq9 (l : List (List Int)) : (!l.any naB) = l.all N9 := by
 rw [List.all_eq_not_any_not]
theorem bG8 {nv na : Nat} {m : o8} (h1 : (m.vals.length : Int) = nv) (h2 : (m.arrs.length : Int) = na) (h3 : C0 m.vals = true) : (!m.arrs.any naB) = G8 nv na m := by
 rw [bG9 h1 h2 h3]; exact bq9 _
theorem aU8 (vs ars xs : List Int) (rs : List (List Int)) : j5.ok Try.prog (X8 76 [.ref 0, .ref 1, mA 2] [dI vs, dI ars, dI xs, dR rs] (bA (G8 vs.length ars.length ⟨xs, rs⟩))) := by
  refine F5 31 Try.func76 [dI vs, dI ars, dI xs, dR rs] [(0, .ref 0), (1, .ref 1), (2, .agg [.ref 2, .ref 3])] fun G => ?_; refine wp_seq (i7 G d8 (rg 5) [dI vs, dI ars, dI xs, dR rs, .box [.ref 2, .ref 3]] [(0, .ref 0), (1, .ref 1), (5, .ptr 4 0), (6, bA false)] fun G => b0 (wp_seq (wp_seq ?_))); cases h0 : ((xs.length : Int) != (vs.length : Int))
  ·
   have q0 := bne_eq_false_iff_eq.1 h0; cases h1 : ((rs.length : Int) != (ars.length : Int))
   ·
    have q1 := bne_eq_false_iff_eq.1 h1; refine j7 G (K9 (A2 17 [2] (S7 xs) K8) (fc h0 (fc h1 fz)) (us [(7, 12, 0), (1013, 1013, 0), (15, 18, 1), (1019, 1019, 1)])) [(26, .v (.bool !C0 xs))] fun G => b0 ?_; cases h2 : (!C0 xs)
    · have q2 : (C0 xs) = true := (Eq.mp (bV2 _) h2); refine rF G _ h2 (wp_skip (b0 (wp_seq (i7 G (r7 2 [3] (bJ1 rs)) (rg 4) [dI vs, dI ars, dI xs, dR rs] [(6, .v (.bool !rs.any naB))] fun G => b0 (wp_ret ?_))))); exact Q1 (.v (.bool !rs.any naB)) G (rg 4) (by have e1 : (G8 vs.length ars.length (o8.mk xs rs) : Bool) = (!rs.any naB) := ((bG8 (m := ⟨xs, rs⟩) (by dsimp only; omega) (by dsimp only; omega) (by with_reducible assumption)).symm); (first | rw [e1] | simp only [e1]) <;> rfl)
    · have q2 : (C0 xs) = false := (Eq.mp (bT6 _) h2); refine rT G _ h2 (wp_seq (j7 G d8 [] fun G => b0 (wp_ret (n8 ?_)))); exact I6 false G (rg 4) (bH0 (by with_reducible assumption))
   · have q1 := bne_iff_ne.1 h1; refine j7 G (E7 (fc h0 (fc h1 fz)) (us [(7, 12, 0), (1013, 1013, 0), (15, 18, 1), (1019, 1019, 1)])) [(26, bA true)] fun G => b0 (rT G true (by kernel_rfl) (wp_seq (j7 G d8 [] fun G => b0 (wp_ret (n8 ?_))))); exact I6 false G (rg 4) (bH1 (by dsimp only; omega))
  · have q0 := bne_iff_ne.1 h0; refine j7 G (E7 (fc h0 (fc (b := true) rfl fz)) (us [(7, 12, 0), (1013, 1013, 0), (15, 18, 1), (1019, 1019, 1)])) [(26, bA true)] fun G => b0 (rT G true (by kernel_rfl) (wp_seq (j7 G d8 [] fun G => b0 (wp_ret (n8 ?_))))); exact I6 false G (rg 4) (bH2 (by dsimp only; omega))
abbrev LnS : Type := List Int × List c6
section
variable {ars : List Int} {s : c6} {m pc : Int} {x : LnS}
end
structure Grw (nv na d : Nat) (sz : Nat) (s : LnS) (r : LnS) : Prop where
 lo : s.1.length ≤ r.1.length
 hi : r.1.length ≤ s.1.length + sz
 st : t0 r.2 ≤ t0 s.2 + 40 * sz
 len : s.2.length ≤ r.2.length
section
variable {p : j8} {l k : Int} (h : B5 p = true) (hl : A7 l = true)
include h hl
end
section
variable {p : j8} {l : Int}
end
section
variable {p q : j8} {m : o8}
end
theorem aT8 (v : Value) (n : Nat) (t : List Value) (w : World) (h : H4 w v n 1 t) (h1 : ∀ u ∈ t, u.oneCell' = true) (hb : n ≤ 1000000000000) :
  Calls Try.prog 128 #[v] w fun e w' => ∃ u, e = .returned u ∧ A9 w' w.heap.size w'.heap.size 23 1 u n t ∧ Below w.heap.size w w' := by
 obtain ⟨a, cap, rfl, hc1, hc2, hc3, -⟩ := h.open
 have hnil := fun w => Lib.run_eql_slice_nil (P := Try.prog) w 32 23 a n cap 0 0 Try.underlying32
 rcases a with _ | a
 ·have hn : n = 0 := by
   rcases Nat.eq_zero_or_pos n with h0 | h0
   ·exact h0
   ·obtain ⟨_, a, c, he, _, _, hx⟩ := h
    cases he
    obtain ⟨_, _, he, _⟩ := hx h0
    cases he
  subst hn
  have ht : t = [] := bU3 (by have := h.1; omega)
  subst ht
  simp only [Option.isNone_none] at hnil
  go_enter Try.func128, Try.ntmps128
  go_wp2_with fail
  go_ret
  exact ⟨_, rfl, ⟨World.ownsRow_nil _ _ _ _, fun g hg => by cases hg⟩, Below.refl _ _⟩
 ·go_enter Try.func128, Try.ntmps128
  simp only [Option.isNone_some] at hnil
  have ba := (Below.refl w.heap.size w).alloc (bS5 _) (.cells #[] 23)
  go_wp2_with (at_builtin; refine I4 rfl _ _ rfl Try.underlying32 bp8 rfl (by omega) rfl (y6 w #[] 0 1 _ rfl rfl (by omega)).1 rfl (h.below ba) h1 (by omega) (by omega) (by simp) ?_; rintro a4 q4 w4 o4 b4 - -)
  go_ret
  refine ⟨_, rfl, A9.mk' (by simpa using o4), ba.trans b4⟩
section
variable {b : List UInt8} {j : Int} {m : o8}
theorem bj1 (h : pk b j 60 = 0) : beD b j m = (⟨m.vals ++ [0], m.arrs⟩, j + 1) := by unfold beD; rw [if_pos h]
theorem bj0 (h : pk b j 60 = 1) (h2 : 0 < m.vals.length) : beD b j m = (⟨m.vals.set 0 (nm b (j + 1) bnL), m.arrs⟩, j + 2) := by unfold beD; rw [if_neg (by omega), if_pos h, if_pos h2]
theorem aV0 (h : pk b j 60 = 1) (h2 : ¬ 0 < m.vals.length) : beD b j m = (m, j + 1) := by unfold beD; rw [if_neg (by omega), if_pos h, if_neg h2]
theorem bi9 (h : pk b j 60 = 2) (h2 : 0 < m.arrs.length) : beD b j m = (⟨m.vals, m.arrs.set 0 (((m.arrs.getD 0 []).take 3).drop 0)⟩, j + 1) := by unfold beD; rw [if_neg (by omega), if_neg (by omega), if_pos h, if_pos h2]
theorem aU9 (h : pk b j 60 = 2) (h2 : ¬ 0 < m.arrs.length) : beD b j m = (m, j + 1) := by unfold beD; rw [if_neg (by omega), if_neg (by omega), if_pos h, if_neg h2]
theorem bi8 (h : pk b j 60 = 3) : beD b j m = (⟨[], []⟩, j + 1) := by unfold beD; rw [if_neg (by omega), if_neg (by omega), if_neg (by omega), if_pos h]
theorem bi7 (h0 : ¬ pk b j 60 = 0) (h1 : ¬ pk b j 60 = 1) (h2 : ¬ pk b j 60 = 2) (h3 : ¬ pk b j 60 = 3) : beD b j m = (m, j + 1) := by unfold beD; rw [if_neg h0, if_neg h1, if_neg h2, if_neg h3]
end
abbrev beC (b : List UInt8) (j : Int) (vs : List Int) (rs : List (List Int)) (m' : o8) (j' : Int) : j5 := ⟨67, [.ptr 0 0, mA 2], [.box [.ref 1, iA j], dY b, dI vs, dR rs], [.box [.ref 1, iA j'], dY b, dI vs, dR rs] ++ mS m', mA 4⟩
abbrev R5 (b : List UInt8) (vs : List Int) (rs : List (List Int)) (m' : o8) (j' : Int) : List It := [.box [.ref 1, iA j'], dY b, dI vs, dR rs, dI m'.vals, dR m'.arrs]
abbrev aw9 : It := .box [.v (.slice none 0 0), .v (.slice none 0 0)]
abbrev O3 (b : List UInt8) (j : Int) (vs : List Int) (rs : List (List Int)) (r0 : List It) : List It := .box [.ref 1, iA (j + 1)] :: dY b :: dI vs :: dR rs :: r0
theorem aJ2 (b : List UInt8) (j : Int) (vs : List Int) (rs : List (List Int)) (m' : o8) (j' : Int) (hm : beD b j ⟨vs, rs⟩ = (m', j')) (hx : vs.length ≤ 1000000) (hr : rs.length ≤ 1000000) (hi : ∀ l ∈ rs, l.length ≤ 4) (h3 : 0 < rs.length → 3 ≤ (rs.getD 0 []).length) (r0 : 0 ≤ j) (r1 : j ≤ 100000000) : j5.ok Try.prog (beC b j vs rs m' j') := by
  refine F5 47 Try.func67 [.box [.ref 1, iA j], dY b, dI vs, dR rs] [(0, .ptr 0 0), (1, .agg [.ref 2, .ref 3])] fun G => ?_; refine wp_seq (i7 G d8 [0, 1, 2, 3, 4, 12] [.box [.ref 1, iA j], dY b, dI vs, dR rs, .box [.ref 2, .ref 3], aw9] [(0, .ptr 0 0), (3, .ptr 4 0), (4, .ptr 5 0)] fun G => b0 (wp_seq (i7 G (r7 1 [2, 3] (aN4 vs rs (by omega) (by omega) (fun l hl => bT4 (hi l hl) (by decide)))) [0, 1, 2, 3, 5, 14, 15, 22] [.box [.ref 1, iA j], dY b, dI vs, dR rs, aw9, .row 3 (D.ints vs), .tree (D.rows rs), .box [.ref 5, .tref 6]] [(0, .ptr 0 0), (4, .ptr 4 0), (5, .ptr 7 0)] fun G => b0 (wp_seq (wp_seq ?_))))); obtain ⟨ρ, G⟩ := G.treeRow 6 23 (D.rows rs) [.box [.ref 1, iA j], dY b, dI vs, dR rs, .box [.v (.slice none 0 0), .v (.slice none 0 0)], .row 3 (D.ints vs), .row 23 (D.rows rs), .box [.ref 5, .ref 6]] [(0, .ptr 0 0), (4, .ptr 4 0), (5, .ptr 7 0)]; refine i7 G (r7 1 [0, 1] (n5 b j 60 (by assumption) (by omega))) (rg 8) (O3 b j vs rs [aw9, .row 3 (D.ints vs), .row 23 (D.rows rs), .box [.ref 5, .ref 6]]) [(0, .ptr 0 0), (4, .ptr 4 0), (5, .ptr 7 0), (9, iA (pk b j 60))] fun G => b0 (wp_block (wp_seq (j7 G d8 [(10, bA (pk b j 60 == 0))] fun G => b0 (H6 G (fun h0 q0 => ?_) fun h0 q0 => ?_))))
  ·
   refine wp_seq (j7 G d8 [(17, bA (pk b j 60 == 1))] fun G => b0 (H6 G (fun h1 q1 => ?_) fun h1 q1 => ?_))
   ·
    refine wp_seq (j7 G d8 [(29, bA (pk b j 60 == 2))] fun G => b0 (H6 G (fun h2 q2 => ?_) fun h2 q2 => ?_))
    ·
     refine wp_seq (j7 G d8 [(43, bA (pk b j 60 == 3))] fun G => b0 (H6 G (fun h3 q3 => ?_) fun h3 q3 => ?_))
     · refine wp_skip (i8 (b0 (wp_seq (i7 G d8 (rg 7) (O3 b j vs rs [.box [.ref 5, .ref 6], .row 3 (D.ints vs), .row 23 (D.rows rs)]) [(4, .ptr 4 0)] fun G => b0 (wp_ret ?_))))); obtain ⟨ρ, G⟩ := G.frz [.no, .no, .no, .no, .no, .row 3, .row 23] (O3 b j vs rs [.box [.ref 5, .ref 6], dI vs, dR rs]) [(4, .ptr 4 0)]; exact D8 G [0, 1, 2, 3, 5, 6] (by show _ = mR [0, 1, 2, 3, 5, 6] (R5 b vs rs m' j'); unfold R5; have e1 : (j' : Int) = (j + 1) := (by rw [bi7 (by omega) (by omega) (by omega) (by omega)] at hm; cases hm; rfl); have e2 : (m'.vals : List Int) = (vs) := (by rw [bi7 (by omega) (by omega) (by omega) (by omega)] at hm; cases hm; rfl); have e3 : (m'.arrs : List (List Int)) = (rs) := (by rw [bi7 (by omega) (by omega) (by omega) (by omega)] at hm; cases hm; rfl); (first | rw [e1, e2, e3] | simp only [e1, e2, e3]) <;> rfl)
     · refine wp_seq (D6 G d8 [(4, .ptr 4 0), (5, .ptr 7 0)] fun G => b0 (wp_ret (C9 (n8 ?_)))); obtain ⟨ρ, G⟩ := G.nil 8 0 (.ints []) 1 (O3 b j vs rs [.box [.ref 8, .v (.slice none 0 0)], .row 3 (D.ints vs), .row 23 (D.rows rs), .box [.ref 5, .ref 6]]) [(4, .ptr 4 0), (5, .ptr 7 0)]; obtain ⟨ρ, G⟩ := G.nil 9 0 (.rows []) 7 (O3 b j vs rs [.box [.ref 8, .ref 9], .row 3 (D.ints vs), .row 23 (D.rows rs), .box [.ref 5, .ref 6], .row 0 (D.ints [])]) [(4, .ptr 4 0), (5, .ptr 7 0)]; obtain ⟨ρ, G⟩ := G.frz [.no, .no, .no, .no, .no, .no, .no, .no, .row 0, .row 0] (O3 b j vs rs [.box [.ref 8, .ref 9], .row 3 (D.ints vs), .row 23 (D.rows rs), .box [.ref 5, .ref 6], dI [], dR []]) [(4, .ptr 4 0), (5, .ptr 7 0)]; exact D8 G [0, 1, 2, 3, 8, 9] (by show _ = mR [0, 1, 2, 3, 8, 9] (R5 b vs rs m' j'); unfold R5; have e1 : (j' : Int) = (j + 1) := (by rw [bi8 (by omega)] at hm; cases hm; rfl); have e2 : (m'.vals : List Int) = ([]) := (by rw [bi8 (by omega)] at hm; cases hm; rfl); have e3 : (m'.arrs : List (List Int)) = ([]) := (by rw [bi8 (by omega)] at hm; cases hm; rfl); (first | rw [e1, e2, e3] | simp only [e1, e2, e3]) <;> rfl)
    ·
     refine wp_seq (j7 G d8 [(34, bA (decide ((rs.length : Int) > 0)))] fun G => b0 (rcD G (fun h4 q4 => ?_) fun h4 q4 => ?_))
     · refine wp_skip (i8 (b0 (wp_seq (i7 G d8 (rg 7) (O3 b j vs rs [.box [.ref 5, .ref 6], .row 3 (D.ints vs), .row 23 (D.rows rs)]) [(4, .ptr 4 0)] fun G => b0 (wp_ret ?_))))); obtain ⟨ρ, G⟩ := G.frz [.no, .no, .no, .no, .no, .row 3, .row 23] (O3 b j vs rs [.box [.ref 5, .ref 6], dI vs, dR rs]) [(4, .ptr 4 0)]; exact D8 G [0, 1, 2, 3, 5, 6] (by show _ = mR [0, 1, 2, 3, 5, 6] (R5 b vs rs m' j'); unfold R5; have e1 : (j' : Int) = (j + 1) := (by rw [aU9 (by omega) (by dsimp only; omega)] at hm; cases hm; rfl); have e2 : (m'.vals : List Int) = (vs) := (by rw [aU9 (by omega) (by dsimp only; omega)] at hm; cases hm; rfl); have e3 : (m'.arrs : List (List Int)) = (rs) := (by rw [aU9 (by omega) (by dsimp only; omega)] at hm; cases hm; rfl); (first | rw [e1, e2, e3] | simp only [e1, e2, e3]) <;> rfl)
     · refine C8 G d8 [0, 1, 0, 4, 12, 28, 60, 127, 255] (rg 8) (O3 b j vs rs [aw9, .row 3 (D.ints vs), .row 23 (D.rows (rs.set 0 (List.drop 0 (bS3 (Int.toNat 3) (rs.getD 0 []))))), .box [.ref 5, .ref 6]]) [(4, .ptr 4 0), (5, .ptr 7 0)] (iX 0 0 rs.length (((0 : Int) ≤ 3) :: (((3 : Int) ≤ ((rs.getD (0 : Nat) []).length : Int)) :: (iX 0 0 rs.length [])))) (iK (by omega) ⟨(by omega), ⟨(by omega), (iK (by omega) bS4)⟩⟩) fun G => i8 (b0 (wp_seq (i7 G d8 (rg 7) (O3 b j vs rs [.box [.ref 5, .ref 6], .row 3 (D.ints vs), .row 23 (D.rows (rs.set 0 (List.drop 0 (bS3 (Int.toNat 3) (rs.getD 0 [])))))]) [(4, .ptr 4 0)] fun G => b0 (wp_ret ?_)))); obtain ⟨ρ, G⟩ := G.frz [.no, .no, .no, .no, .no, .row 3, .row 23] (O3 b j vs rs [.box [.ref 5, .ref 6], dI vs, dR (rs.set 0 (List.drop 0 (bS3 (Int.toNat 3) (rs.getD 0 []))))]) [(4, .ptr 4 0)]; exact D8 G [0, 1, 2, 3, 5, 6] (by show _ = mR [0, 1, 2, 3, 5, 6] (R5 b vs rs m' j'); unfold R5; have e1 : (j' : Int) = (j + 1) := (by rw [bi9 (by omega) (by dsimp only; omega)] at hm; cases hm; rfl); have e2 : (m'.vals : List Int) = (vs) := (by rw [bi9 (by omega) (by dsimp only; omega)] at hm; cases hm; rfl); have e3 : (m'.arrs : List (List Int)) = (rs.set 0 (List.drop 0 (bS3 (Int.toNat 3) (rs.getD 0 [])))) := (by rw [bi9 (by omega) (by dsimp only; omega)] at hm; cases hm; rfl); (first | rw [e1, e2, e3] | simp only [e1, e2, e3]) <;> rfl)
   ·
    refine wp_seq (j7 G d8 [(22, bA (decide ((vs.length : Int) > 0)))] fun G => b0 (rcD G (fun h5 q5 => ?_) fun h5 q5 => ?_))
    · refine wp_skip (i8 (b0 (wp_seq (i7 G d8 (rg 7) (O3 b j vs rs [.box [.ref 5, .ref 6], .row 3 (D.ints vs), .row 23 (D.rows rs)]) [(4, .ptr 4 0)] fun G => b0 (wp_ret ?_))))); obtain ⟨ρ, G⟩ := G.frz [.no, .no, .no, .no, .no, .row 3, .row 23] (O3 b j vs rs [.box [.ref 5, .ref 6], dI vs, dR rs]) [(4, .ptr 4 0)]; exact D8 G [0, 1, 2, 3, 5, 6] (by show _ = mR [0, 1, 2, 3, 5, 6] (R5 b vs rs m' j'); unfold R5; have e1 : (j' : Int) = (j + 1) := (by rw [aV0 (by omega) (by dsimp only; omega)] at hm; cases hm; rfl); have e2 : (m'.vals : List Int) = (vs) := (by rw [aV0 (by omega) (by dsimp only; omega)] at hm; cases hm; rfl); have e3 : (m'.arrs : List (List Int)) = (rs) := (by rw [aV0 (by omega) (by dsimp only; omega)] at hm; cases hm; rfl); (first | rw [e1, e2, e3] | simp only [e1, e2, e3]) <;> rfl)
    · refine C8 G (r7 4 [0, 1, 32] (j5.lend (H3 b (j + 1) ([-1] ++ ([256] ++ ([9223372036854775807] ++ []))) (by simp [h0, h1, h5]) (by omega) (by omega)) [.no, .no, .row 3])) [0, 1, 0, 0, 12, 31, 63] (rg 8) [.box [.ref 1, iA (j + 1 + 1)], dY b, dI vs, dR rs, aw9, .row 3 (D.ints (vs.set 0 (nm b (j + 1) ([-1] ++ ([256] ++ ([9223372036854775807] ++ [])))))), .row 23 (D.rows rs), .box [.ref 5, .ref 6]] [(4, .ptr 4 0), (5, .ptr 7 0)] (iX 0 0 vs.length []) (iK (by omega) bS4) fun G => i8 (b0 (wp_seq (i7 G d8 (rg 7) [.box [.ref 1, iA (j + 1 + 1)], dY b, dI vs, dR rs, .box [.ref 5, .ref 6], .row 3 (D.ints (vs.set 0 (nm b (j + 1) ([-1] ++ ([256] ++ ([9223372036854775807] ++ [])))))), .row 23 (D.rows rs)] [(4, .ptr 4 0)] fun G => b0 (wp_ret ?_)))); obtain ⟨ρ, G⟩ := G.frz [.no, .no, .no, .no, .no, .row 3, .row 23] [.box [.ref 1, iA (j + 1 + 1)], dY b, dI vs, dR rs, .box [.ref 5, .ref 6], dI (vs.set 0 (nm b (j + 1) ([-1] ++ ([256] ++ ([9223372036854775807] ++ []))))), dR rs] [(4, .ptr 4 0)]; exact D8 G [0, 1, 2, 3, 5, 6] (by show _ = mR [0, 1, 2, 3, 5, 6] (R5 b vs rs m' j'); unfold R5; have e1 : (j' : Int) = (j + 1 + 1) := (by rw [bj0 (by omega) (by dsimp only; omega)] at hm; cases hm; omega); have e2 : (m'.vals : List Int) = (vs.set 0 (nm b (j + 1) ([-1] ++ ([256] ++ ([9223372036854775807] ++ []))))) := (by rw [bj0 (by omega) (by dsimp only; omega)] at hm; cases hm; rfl); have e3 : (m'.arrs : List (List Int)) = (rs) := (by rw [bj0 (by omega) (by dsimp only; omega)] at hm; cases hm; rfl); (first | rw [e1, e2, e3] | simp only [e1, e2, e3]) <;> rfl)
  · refine G4 G d8 [0, 1, 2, 3, 4, 6, 7, 32] (O3 b j vs rs [aw9, .row 23 (D.rows rs), .box [.ref 7, .ref 5], .row 3 (D.ints (vs ++ ([0] ++ [])))]) [(4, .ptr 4 0), (5, .ptr 6 0)] (aP (vs.length + ([(0 : Int)] ++ []).length) 8 []) (aK (by simp; omega) bS4) fun G => i8 (b0 (wp_seq (i7 G d8 [0, 1, 2, 3, 4, 5, 7] (O3 b j vs rs [.box [.ref 6, .ref 5], .row 23 (D.rows rs), .row 3 (D.ints (vs ++ ([0] ++ [])))]) [(4, .ptr 4 0)] fun G => b0 (wp_ret ?_)))); obtain ⟨ρ, G⟩ := G.frz [.no, .no, .no, .no, .no, .row 23, .row 3] (O3 b j vs rs [.box [.ref 6, .ref 5], dR rs, dI (vs ++ ([0] ++ []))]) [(4, .ptr 4 0)]; exact D8 G [0, 1, 2, 3, 6, 5] (by show _ = mR [0, 1, 2, 3, 6, 5] (R5 b vs rs m' j'); unfold R5; have e1 : (j' : Int) = (j + 1) := (by rw [bj1 (by omega)] at hm; cases hm; rfl); have e2 : (m'.vals : List Int) = (vs ++ ([0] ++ [])) := (by rw [bj1 (by omega)] at hm; cases hm; rfl); have e3 : (m'.arrs : List (List Int)) = (rs) := (by rw [bj1 (by omega)] at hm; cases hm; rfl); (first | rw [e1, e2, e3] | simp only [e1, e2, e3]) <;> rfl)
structure GrS (sz : Nat) (x r : LnS) : Prop where
 lo : x.1.length ≤ r.1.length
 hi : r.1.length ≤ x.1.length + 4 * sz
 st : t0 r.2 ≤ t0 x.2 + 130 * sz
 len : x.2.length ≤ r.2.length
theorem GrS.refl (x : LnS) (n : Nat) : GrS n x x := ⟨bS5 _, by omega, by omega, bS5 _⟩
theorem bp4 {e : c8} (h : e.kids = []) : O2 e = 0 := by rw [aq0, h]; rfl
theorem ag1 {nv na : Nat} {e : c8} (h : n9 nv na e = true) : O2 e ≤ 14 := by
 unfold n9 at h; simp only [bR6, decide_eq_true_eq] at h; omega
theorem an6 {e : c8} (h : noneB e = true) : O2 e = 0 := by
 unfold noneB at h; simp only [bR6, decide_eq_true_eq] at h
 exact bp4 (bU3 h.2)
theorem aX6 {nv na d : Nat} (ih : ∀ s : c6, l6 nv na d s = true → 1 + szS s ≤ 29 * nS s) : ∀ ss : List c6, ss.all (l6 nv na d) = true → t0 ss ≤ 29 * nSs ss
 | [], _ => bS5 _
 | s :: r, h => by
  simp only [List.all_cons, bR6] at h
  have h1 := ih s h.1
  have h2 := aX6 ih r h.2
  rw [t0, nSs]; omega
theorem a92 {nv na : Nat} : ∀ (d : Nat) (s : c6), l6 nv na d s = true → 1 + szS s ≤ 29 * nS s
 | 0, _, h => by simp [l6] at h
 | d + 1, s, h => by
  rw [ac9, bR6, bR6] at h
  obtain ⟨hh, hb, he⟩ := h
  have h1 := aX6 (fun s => a92 d s) s.body hb
  have h2 := aX6 (fun s => a92 d s) s.els he
  have hsz : szS s = O2 s.index + O2 s.value + t0 s.body + t0 s.els := by cases s; rfl
  have hn := aD4 s
  have key : O2 s.index + O2 s.value ≤ 28 := by
   by_cases k4 : s.kind = 4
   ·rw [bG1 k4] at hh; simp only [bR6] at hh
    have := an6 hh.2.1; have := an6 hh.2.2; omega
   by_cases k3 : s.kind = 3
   ·rw [bG2 k3] at hh; simp only [bR6] at hh
    have := an6 hh.2.1; have := ag1 hh.2.2; omega
   by_cases k15 : s.kind = 1 ∨ s.kind = 5
   ·rw [bG4 k15] at hh; simp only [bR6] at hh
    have := an6 hh.2.1; have := ag1 hh.2.2; omega
   by_cases k2 : s.kind = 2
   ·rw [bG3 k2] at hh; simp only [bR6] at hh
    have := ag1 hh.2.1; have := ag1 hh.2.2.2; omega
   ·rw [at3 (by omega)] at hh; cases hh
  omega
theorem a88 {p : j8} (h : B5 p = true) : p.vars.length ≤ 12 ∧ p.arrays.length ≤ 2 ∧ t0 p.body ≤ 1740 := by
 unfold B5 D4 Z8 at h
 simp only [bR6, decide_eq_true_eq] at h
 have := aX6 (a92 5) p.body h.1.2
 omega
abbrev lqC (l : List c7) (fr : List Int) (at0 : Int) (s : c6) (d : Int) : j5 := ⟨142, [.agg [.ref 0, .ref 1, iA at0], sA s 2, iA d], [rN l, rI fr] ++ sS s, [.dead, .dead] ++ sS s ++ [rN (L6 s d (l, fr, at0)).1, rI (L6 s d (l, fr, at0)).2.1], .agg [.ref 6, .ref 7, iA (L6 s d (l, fr, at0)).2.2]⟩
abbrev lrC (l : List c7) (fr : List Int) (at0 : Int) (ss : List c6) (d : Int) : j5 := ⟨138, [.agg [.ref 0, .ref 1, iA at0], .ref 2, iA d], [rN l, rI fr, dT ss], [.dead, .dead, dT ss, rN (l9 ss d (l, fr, at0)).1, rI (l9 ss d (l, fr, at0)).2.1], .agg [.ref 3, .ref 4, iA (l9 ss d (l, fr, at0)).2.2]⟩
mutual
theorem bA0 : ∀ (s : c6) (d : Int) (x : E8), x.2.2 ≤ (L6 s d x).2.2 ∧ (L6 s d x).2.2 ≤ x.2.2 + nS s
 | ⟨k, t, i, v, c, b, e⟩, d, x => by
  rw [L6, nS]
  split
  ·have h := Z3 b (d + 1) (D5 (x.1, x.2.1, x.2.2 + 1) x.2.2 [⟨1, 9 + d, c, 0, 0⟩])
   simp only [D5] at h ⊢
   omega
  ·split
   ·simp only [D5]; omega
   ·split
    ·simp only [D5]; omega
    ·split
     ·simp only [D5]; omega
     ·simp only
      generalize hy : D5 (x.1, x.2.1, x.2.2 + 1) x.2.2 (b6 v 0) = y
      have hy1 : y.2.2 = x.2.2 + 1 := by rw [← hy]; rfl
      have h1 := Z3 b (d + 1) (D5 y x.2.2 [⟨9, 0, 0, 0, 0⟩])
      generalize l9 b (d + 1) (D5 y x.2.2 [⟨9, 0, 0, 0, 0⟩]) = z at h1 ⊢
      have h2 := Z3 e (d + 1) (bc8 (D5 z x.2.2 [⟨8, 0, 0, 0, 0⟩]).1 y.1.length ((D5 z x.2.2 [⟨8, 0, 0, 0, 0⟩]).1.length : Int), (D5 z x.2.2 [⟨8, 0, 0, 0, 0⟩]).2)
      simp only [D5] at h1 h2 ⊢
      omega
theorem Z3 : ∀ (ss : List c6) (d : Int) (x : E8), x.2.2 ≤ (l9 ss d x).2.2 ∧ (l9 ss d x).2.2 ≤ x.2.2 + nSs ss
 | [], _, x => by simp [l9, nSs]
 | s :: r, d, x => by
  have h1 := bA0 s d x
  have h2 := Z3 r d (L6 s d x)
  rw [l9, nSs]
  omega
end
section
variable {l : List c7} {fr : List Int} {at0 d : Int} {s : c6}
theorem cm1 (k : s.kind = 1) : L6 s d (l, fr, at0) = (l ++ b6 s.value 0 ++ [⟨3, s.target, 0, 0, 0⟩], fr ++ a04 (b6 s.value 0).length at0 ++ [at0], at0 + 1) := by
 obtain ⟨kd, tg, ix, vl, ct, bd, el⟩ := s
 have k : kd = 1 := k
 rw [L6]
 simp only [k, Int.reduceEq, if_true, if_false]
 rfl
theorem cm5 (k : s.kind = 5) : L6 s d (l, fr, at0) = (l ++ b6 s.value 0 ++ [⟨11, 0, 0, 0, 0⟩] ++ [⟨3, s.target, 0, 0, 0⟩], fr ++ a04 (b6 s.value 0).length at0 ++ [at0] ++ [at0], at0 + 1) := by
 obtain ⟨kd, tg, ix, vl, ct, bd, el⟩ := s
 have k : kd = 5 := k
 rw [L6]
 simp only [k, Int.reduceEq, if_true, if_false]
 rfl
theorem cm2 (k : s.kind = 2) : L6 s d (l, fr, at0) = (l ++ b6 s.value 0 ++ b6 s.index 1 ++ [⟨5, s.target, 1, 0, 0⟩], fr ++ a04 (b6 s.value 0).length at0 ++ a04 (b6 s.index 1).length at0 ++ [at0], at0 + 1) := by
 obtain ⟨kd, tg, ix, vl, ct, bd, el⟩ := s
 have k : kd = 2 := k
 rw [L6]
 simp only [k, Int.reduceEq, if_true, if_false]
 rfl
theorem cm4 (k : s.kind = 4) : L6 s d (l, fr, at0) = ((l9 s.body (d + 1) (l ++ [⟨1, 9 + d, s.count, 0, 0⟩], fr ++ [at0], at0 + 1)).1 ++ [⟨10, 9 + d, (((l ++ [(⟨1, 9 + d, s.count, 0, 0⟩ : c7)]).length : Nat) : Int), 0, 0⟩], (l9 s.body (d + 1) (l ++ [⟨1, 9 + d, s.count, 0, 0⟩], fr ++ [at0], at0 + 1)).2.1 ++ [at0], (l9 s.body (d + 1) (l ++ [⟨1, 9 + d, s.count, 0, 0⟩], fr ++ [at0], at0 + 1)).2.2) := by
 obtain ⟨kd, tg, ix, vl, ct, bd, el⟩ := s
 have k : kd = 4 := k
 rw [L6]
 simp only [k, if_true, bR8, bS1, bS6]
 rfl
abbrev w3C (l : List c7) (fr : List Int) (at0 d : Int) (s : c6) : E8 := l9 s.body (d + 1) (l ++ b6 s.value 0 ++ [⟨9, 0, 0, 0, 0⟩], fr ++ a04 (b6 s.value 0).length at0 ++ [at0], at0 + 1)
abbrev w6C (l : List c7) (fr : List Int) (at0 d : Int) (s : c6) : E8 := l9 s.els (d + 1) (bc8 ((w3C l fr at0 d s).1 ++ [⟨8, 0, 0, 0, 0⟩]) (l ++ b6 s.value 0).length ((((w3C l fr at0 d s).1 ++ [(⟨8, 0, 0, 0, 0⟩ : c7)]).length : Nat) : Int), (w3C l fr at0 d s).2.1 ++ [at0], (w3C l fr at0 d s).2.2)
theorem cm3 (k : s.kind = 3) : L6 s d (l, fr, at0) = (bx3 (w6C l fr at0 d s).1 (w3C l fr at0 d s).1.length (((w6C l fr at0 d s).1.length : Nat) : Int), (w6C l fr at0 d s).2.1, (w6C l fr at0 d s).2.2) := by
 obtain ⟨kd, tg, ix, vl, ct, bd, el⟩ := s
 have k : kd = 3 := k
 rw [L6]
 simp only [k, Int.reduceEq, if_false, D5, bR8, bS1, bS6, Nat.add_sub_cancel, bV1, List.replicate_one, w6C, w3C]
 rfl
theorem Z2 (ss : List c6) (d : Int) (x : E8) : (l9 ss d x).1.length = x.1.length + aw5 ss := (G9 ss d x).1
theorem bG7 (h : l.length + (4 + 4 * szS s) ≤ 5000000) : l.length + O2 s.value ≤ 5000000 ∧ (0 : Int) + O2 s.value ≤ 2000000 ∧ (l ++ b6 s.value 0).length + O2 s.index ≤ 5000000 ∧ (1 : Int) + O2 s.index ≤ 2000000 ∧ (l ++ b6 s.value 0 ++ b6 s.index 1).length + 4 ≤ 5000010 := by
 have h1 := P5 s.value 0
 have h2 := P5 s.index 1
 have h3 : szS s = O2 s.index + O2 s.value + t0 s.body + t0 s.els := by cases s; rfl
 simp only [bR8]
 omega
end
abbrev J7 (s : c6) (l : List c7) (fr : List Int) (at0 : Int) (d : Int) := l9 s.els (d + 1) (((l9 s.body (d + 1) (l ++ b6 s.value 0 ++ [c7.mk 9 0 0 0 0], fr ++ a04 (b6 s.value 0).length at0 ++ [at0], at0 + 1)).fst ++ [c7.mk 8 0 0 0 0]).set (l ++ b6 s.value 0).length (c7.mk (((l9 s.body (d + 1) (l ++ b6 s.value 0 ++ [c7.mk 9 0 0 0 0], fr ++ a04 (b6 s.value 0).length at0 ++ [at0], at0 + 1)).fst ++ [c7.mk 8 0 0 0 0]).getD (l ++ b6 s.value 0).length aK4).op (((l9 s.body (d + 1) (l ++ b6 s.value 0 ++ [c7.mk 9 0 0 0 0], fr ++ a04 (b6 s.value 0).length at0 ++ [at0], at0 + 1)).fst ++ [c7.mk 8 0 0 0 0]).getD (l ++ b6 s.value 0).length aK4).a (((l9 s.body (d + 1) (l ++ b6 s.value 0 ++ [c7.mk 9 0 0 0 0], fr ++ a04 (b6 s.value 0).length at0 ++ [at0], at0 + 1)).fst ++ [c7.mk 8 0 0 0 0]).length : Int) (((l9 s.body (d + 1) (l ++ b6 s.value 0 ++ [c7.mk 9 0 0 0 0], fr ++ a04 (b6 s.value 0).length at0 ++ [at0], at0 + 1)).fst ++ [c7.mk 8 0 0 0 0]).getD (l ++ b6 s.value 0).length aK4).c (((l9 s.body (d + 1) (l ++ b6 s.value 0 ++ [c7.mk 9 0 0 0 0], fr ++ a04 (b6 s.value 0).length at0 ++ [at0], at0 + 1)).fst ++ [c7.mk 8 0 0 0 0]).getD (l ++ b6 s.value 0).length aK4).d), (l9 s.body (d + 1) (l ++ b6 s.value 0 ++ [c7.mk 9 0 0 0 0], fr ++ a04 (b6 s.value 0).length at0 ++ [at0], at0 + 1)).snd.fst ++ [at0], (l9 s.body (d + 1) (l ++ b6 s.value 0 ++ [c7.mk 9 0 0 0 0], fr ++ a04 (b6 s.value 0).length at0 ++ [at0], at0 + 1)).snd.snd)
abbrev A5 (s : c6) (l : List c7) (fr : List Int) (at0 : Int) (d : Int) := l9 s.body (d + 1) (l ++ b6 s.value 0 ++ [c7.mk 9 0 0 0 0], fr ++ a04 (b6 s.value 0).length at0 ++ [at0], at0 + 1)
abbrev ai0 (s : c6) (l : List c7) (fr : List Int) (at0 : Int) (d : Int) := l9 s.body (d + 1) (l ++ b6 s.value 0 ++ [c7.mk 1 (9 + d) s.count 0 0], fr ++ a04 (b6 s.value 0).length at0 ++ [at0], at0 + 1)
abbrev Y0 (s : c6) (l : List c7) (fr : List Int) (at0 : Int) (d : Int) := l9 s.body (d + 1) (l ++ [c7.mk 1 (9 + d) s.count 0 0], fr ++ [at0], at0 + 1)
abbrev O0 (s : c6) (l : List c7) (fr : List Int) (at0 : Int) (d : Int) : List It := [.dead, .dead, dE s.index.kids, dE s.value.kids, dT s.body, dT s.els, .row 122 (D.instrs (L6 s d (l, fr, at0)).fst), .row 3 (D.ints (L6 s d (l, fr, at0)).snd.fst)]
abbrev a82 (s : c6) (l : List c7) (fr : List Int) (at0 : Int) (d : Int) : It := .row 122 (D.instrs ((J7 s l fr at0 d).fst.set (A5 s l fr at0 d).fst.length (c7.mk ((J7 s l fr at0 d).fst.getD (A5 s l fr at0 d).fst.length aK4).op ((J7 s l fr at0 d).fst.length : Int) ((J7 s l fr at0 d).fst.getD (A5 s l fr at0 d).fst.length aK4).b ((J7 s l fr at0 d).fst.getD (A5 s l fr at0 d).fst.length aK4).c ((J7 s l fr at0 d).fst.getD (A5 s l fr at0 d).fst.length aK4).d)))
abbrev I3 : It := .box [.v (.slice none 0 0), .v (.slice none 0 0), iA 0]
abbrev U8 (at0 : Int) : It := .box [.ref 9, .ref 10, iA (at0 + 1)]
abbrev aB1 (s : c6) (fr : List Int) (at0 : Int) : It := .row 3 (D.ints (fr ++ a04 (b6 s.value 0).length at0 ++ [at0]))
abbrev E3 (s : c6) (r0 : List It) : List It := .dead :: .dead :: dE s.index.kids :: dE s.value.kids :: dT s.body :: dT s.els :: r0
abbrev D2 (at0 : Int) (d : Int) (r0 : List (Nat × AV)) : List (Nat × AV) := (2, iA d) :: (3, .ptr 6 0) :: (4, .ptr 7 0) :: (6, .ptr 8 0) :: (7, iA at0) :: r0
theorem aJ0 (nv na dd : Nat) (s : c6) (hh : Q9 nv na s = true) (hbb : s.body.all (l6 nv na dd) = true) (hbe : s.els.all (l6 nv na dd) = true)
    (ih : ∀ (tt : List c6) (l : List c7) (fr : List Int) (at0 d : Int), tt.all (l6 nv na dd) = true → l.length + 4 * t0 tt ≤ 5000000 → fr.length = l.length → 0 ≤ d → d + dd ≤ 100 → 0 ≤ at0 → at0 + nSs tt ≤ 5000000 → j5.ok Try.prog (lrC l fr at0 tt d))
    (l : List c7) (fr : List Int) (at0 d : Int) (r1 : l.length + (4 + 4 * szS s) ≤ 5000000) (r2 : fr.length = l.length) (r3 : 0 ≤ d) (r4 : d + (dd + 1) ≤ 100) (r5 : 0 ≤ at0) (r6 : at0 + nS s ≤ 5000000) : j5.ok Try.prog (lqC l fr at0 s d) := by
  refine F5 130 Try.func142 [.row 122 (D.instrs l), .row 3 (D.ints fr), dE s.index.kids, dE s.value.kids, dT s.body, dT s.els] [(0, .agg [.ref 0, .ref 1, iA at0]), (1, sA s 2), (2, iA d)] fun G => ?_; have hn := aD4 s; have hft := bG7 r1
  have hsz : szS s = O2 s.index + O2 s.value + t0 s.body + t0 s.els := by cases s; rfl
  have hv := P5 s.value 0; refine wp_seq (i7 G d8 [0, 1, 2, 3, 4, 5, 6, 14, 22] [.row 122 (D.instrs l), .row 3 (D.ints fr), dE s.index.kids, dE s.value.kids, dT s.body, dT s.els, .box [.ref 0, .ref 1, iA at0], .box (sL s 2), I3] [(2, iA d), (3, .ptr 6 0), (4, .ptr 7 0), (6, .ptr 8 0)] fun G => b0 (wp_seq (j7 G d8 [(7, iA at0)] fun G => b0 (wp_seq (G4 G d8 (rg 9) [.row 122 (D.instrs l), .row 3 (D.ints fr), dE s.index.kids, dE s.value.kids, dT s.body, dT s.els, .box [.ref 0, .ref 1, iA (at0 + 1)], .box (sL s 2), I3] (D2 at0 d []) [wO (at0 + 1)] (o1 (by omega)) fun G => b0 (wp_seq (wp_seq (j7 G d8 [(20, bA (s.kind != 4))] fun G => b0 (rcN G (fun h0 q0 => ?_) fun h0 q0 => ?_)))))))))
  ·
   refine wp_skip (b0 (wp_seq (wp_seq (j7 G d8 [(27, iA s.kind)] fun G => b0 (wp_block (wp_seq (D6 G d8 (D2 at0 d [(27, iA s.kind), (28, bA (s.kind == 1))]) fun G => b0 ?_))))))); cases h1 : (s.kind == 1)
   ·
    have q1 := ne_of_beq_false h1; refine rF G _ h1 (wp_seq (D6 G d8 (D2 at0 d [(27, iA s.kind), (36, bA (s.kind == 5))]) fun G => b0 ?_)); cases h2 : (s.kind == 5)
    ·
     have q2 := ne_of_beq_false h2; refine rF G _ h2 (wp_seq (D6 G d8 (D2 at0 d [(27, iA s.kind), (48, bA (s.kind == 2))]) fun G => b0 ?_)); cases h3 : (s.kind == 2)
     ·
      have q3 := ne_of_beq_false h3; refine rF G _ h3 (wp_seq (D6 G d8 (D2 at0 d [(61, bA (s.kind == 3))]) fun G => b0 ?_)); cases h4 : (s.kind == 3)
      · have q4 := ne_of_beq_false h4; refine rF G _ h4 (wp_skip (i8 (b0 (wp_seq (A0 G d8 [(10, iA (9 + d))] [wO ((9 : Int) + d)] (o1 (by omega)) fun G => b0 (wp_seq (i7 G (r7 6 [0, 1] (D0 l fr (at0 + 1) at0 1 (9 + d) s.count 0 0 (by omega) (by omega))) [0, 1, 2, 3, 4, 5, 6, 7, 8, 57, 58] (E3 s [U8 at0, .box (sL s 2), I3, .row 122 (D.instrs (l ++ [c7.mk 1 (9 + d) s.count 0 0])), .row 3 (D.ints (fr ++ [at0]))]) (D2 at0 d [(10, iA (9 + d))]) fun G => b0 (wp_seq (j7 G d8 [(11, iA ((l ++ [c7.mk 1 (9 + d) s.count 0 0]).length : Int))] fun G => b0 (wp_seq (G4 G (r7 5 [9, 10, 4] (ih s.body (l ++ [c7.mk 1 (9 + d) s.count 0 0]) (fr ++ [at0]) (at0 + 1) (d + 1) (by assumption) (by simp only [bR8, bT1, bS1, bS6, r2]; have := hft.2.2.2.2; simp only [bR8] at this; omega) (by have := hft.2.2.2.2; simp only [bR8, bS1, bS6] at this ⊢; omega) (by omega) (by omega) (by omega) (by omega))) [0, 1, 2, 3, 4, 5, 6, 8, 51, 52] (E3 s [.box [.ref 8, .ref 9, iA (Y0 s l fr at0 d).snd.snd], I3, .row 122 (D.instrs (Y0 s l fr at0 d).fst), .row 3 (D.ints (Y0 s l fr at0 d).snd.fst)]) [(3, .ptr 6 0), (6, .ptr 7 0), (7, iA at0), (10, iA (9 + d)), (11, iA ((l ++ [c7.mk 1 (9 + d) s.count 0 0]).length : Int))] [wO (d + 1)] (o1 (by omega)) fun G => b0 (wp_seq (i7 G (r7 5 [8, 9] (D0 ((l9 s.body (d + 1) (l ++ [c7.mk 1 (9 + d) s.count 0 0], fr ++ [at0], at0 + 1)).fst) ((l9 s.body (d + 1) (l ++ [c7.mk 1 (9 + d) s.count 0 0], fr ++ [at0], at0 + 1)).snd.fst) ((l9 s.body (d + 1) (l ++ [c7.mk 1 (9 + d) s.count 0 0], fr ++ [at0], at0 + 1)).snd.snd) at0 10 (9 + d) (((l ++ [c7.mk 1 (9 + d) s.count 0 0]).length : Int)) 0 0 (by have := (G9 s.body (d + 1) (l ++ [⟨1, 9 + d, s.count, 0, 0⟩], fr ++ [at0], at0 + 1)); have := K2 s.body; simp only [bR8, bS1, bS6] at *; omega) (by have := (G9 s.body (d + 1) (l ++ [⟨1, 9 + d, s.count, 0, 0⟩], fr ++ [at0], at0 + 1)); have := K2 s.body; simp only [bR8, bS1, bS6] at *; omega))) [0, 1, 2, 3, 4, 5, 7, 50, 51] (E3 s [.box [.ref 7, .ref 8, iA (Y0 s l fr at0 d).snd.snd], .row 122 (D.instrs ((Y0 s l fr at0 d).fst ++ [c7.mk 10 (9 + d) ((l ++ [c7.mk 1 (9 + d) s.count 0 0]).length : Int) 0 0])), .row 3 (D.ints ((Y0 s l fr at0 d).snd.fst ++ [at0]))]) [(6, .ptr 6 0)] fun G => b0 (wp_ret ?_)))))))))))))); exact Q1 (.agg [.ref 7, .ref 8, iA (l9 s.body (d + 1) (l ++ [c7.mk 1 (9 + d) s.count 0 0], fr ++ [at0], at0 + 1)).snd.snd]) G [0, 1, 2, 3, 4, 5, 7, 8] (by have e1 : ((L6 s d (l, fr, at0)).snd.snd : Int) = ((l9 s.body (d + 1) (l ++ [c7.mk 1 (9 + d) s.count 0 0], fr ++ [at0], at0 + 1)).snd.snd) := (by have h9 := congrArg (fun x : E8 => x.2.2) (cm4 (l := l) (fr := fr) (at0 := at0) (d := d) (s := s) (by omega)); exact h9); (first | rw [e1] | simp only [e1]) <;> rfl) (by show _ = mR [0, 1, 2, 3, 4, 5, 7, 8] (O0 s l fr at0 d); unfold O0; have e1 : ((L6 s d (l, fr, at0)).fst : List c7) = ((Y0 s l fr at0 d).fst ++ [c7.mk 10 (9 + d) ((l ++ [c7.mk 1 (9 + d) s.count 0 0]).length : Int) 0 0]) := (congrArg Prod.fst (cm4 (by omega))); have e2 : ((L6 s d (l, fr, at0)).snd.fst : List Int) = ((Y0 s l fr at0 d).snd.fst ++ [at0]) := (congrArg (fun x : E8 => x.2.1) (cm4 (by omega))); (first | rw [e1, e2] | simp only [e1, e2]) <;> rfl)
      · have q4 := eq_of_beq h4; exact False.elim (by omega)
     · have q3 := eq_of_beq h3; exact False.elim (by omega)
    · have q2 := eq_of_beq h2; exact False.elim (by omega)
   · have q1 := eq_of_beq h1; exact False.elim (by omega)
  ·
   refine i7 G (r7 4 [0, 1, 3] (aN1 s.value l fr (at0 + 1) at0 0 (by omega) (by omega) (by omega) (by assumption))) [0, 1, 2, 3, 4, 5, 6, 7, 8, 41, 42] (E3 s [U8 at0, .box (sL s 2), I3, .row 122 (D.instrs (l ++ b6 s.value 0)), .row 3 (D.ints (fr ++ a04 (b6 s.value 0).length at0))]) (D2 at0 d []) fun G => b0 (wp_seq (wp_seq (j7 G d8 [(27, iA s.kind)] fun G => b0 (wp_block (wp_seq (j7 G d8 [(28, bA (s.kind == 1))] fun G => b0 (H6 G (fun h5 q5 => ?_) fun h5 q5 => ?_)))))))
   ·
    refine wp_seq (j7 G d8 [(36, bA (s.kind == 5))] fun G => b0 (H6 G (fun h6 q6 => ?_) fun h6 q6 => ?_))
    ·
     refine wp_seq (j7 G d8 [(48, bA (s.kind == 2))] fun G => b0 (H6 G (fun h7 q7 => ?_) fun h7 q7 => ?_))
     ·
      refine wp_seq (j7 G d8 [(61, bA (s.kind == 3))] fun G => b0 (H6 G (fun h8 q8 => ?_) fun h8 q8 => ?_))
      · refine wp_skip (i8 (b0 (wp_seq (A0 G d8 [(10, iA (9 + d))] [wO ((9 : Int) + d)] (o1 (by omega)) fun G => b0 (wp_seq (i7 G (r7 6 [9, 10] (D0 (l ++ b6 s.value 0) (fr ++ a04 (b6 s.value 0).length at0) (at0 + 1) at0 1 (9 + d) s.count 0 0 (by omega) (by simp only [bR8, bT1, bS1, bS6, r2]; have := hft.2.2.2.2; simp only [bR8] at this; omega))) [0, 1, 2, 3, 4, 5, 6, 7, 8, 59, 60] (E3 s [U8 at0, .box (sL s 2), I3, .row 122 (D.instrs (l ++ b6 s.value 0 ++ [c7.mk 1 (9 + d) s.count 0 0])), aB1 s fr at0]) (D2 at0 d [(10, iA (9 + d))]) fun G => b0 (wp_seq (j7 G d8 [(11, iA ((l ++ b6 s.value 0 ++ [c7.mk 1 (9 + d) s.count 0 0]).length : Int))] fun G => b0 (wp_seq (G4 G (r7 5 [9, 10, 4] (ih s.body (l ++ b6 s.value 0 ++ [c7.mk 1 (9 + d) s.count 0 0]) (fr ++ a04 (b6 s.value 0).length at0 ++ [at0]) (at0 + 1) (d + 1) (by assumption) (by simp only [bR8, bT1, bS1, bS6, r2]; have := hft.2.2.2.2; simp only [bR8] at this; omega) (by exact absurd (hh.symm.trans (at3 (by omega))) (by decide)) (by omega) (by omega) (by omega) (by omega))) [0, 1, 2, 3, 4, 5, 6, 8, 51, 52] (E3 s [.box [.ref 8, .ref 9, iA (ai0 s l fr at0 d).snd.snd], I3, .row 122 (D.instrs (ai0 s l fr at0 d).fst), .row 3 (D.ints (ai0 s l fr at0 d).snd.fst)]) [(3, .ptr 6 0), (6, .ptr 7 0), (7, iA at0), (10, iA (9 + d)), (11, iA ((l ++ b6 s.value 0 ++ [c7.mk 1 (9 + d) s.count 0 0]).length : Int))] [wO (d + 1)] (o1 (by omega)) fun G => b0 (wp_seq (i7 G (r7 5 [8, 9] (D0 ((l9 s.body (d + 1) (l ++ b6 s.value 0 ++ [c7.mk 1 (9 + d) s.count 0 0], fr ++ a04 (b6 s.value 0).length at0 ++ [at0], at0 + 1)).fst) ((l9 s.body (d + 1) (l ++ b6 s.value 0 ++ [c7.mk 1 (9 + d) s.count 0 0], fr ++ a04 (b6 s.value 0).length at0 ++ [at0], at0 + 1)).snd.fst) ((l9 s.body (d + 1) (l ++ b6 s.value 0 ++ [c7.mk 1 (9 + d) s.count 0 0], fr ++ a04 (b6 s.value 0).length at0 ++ [at0], at0 + 1)).snd.snd) at0 10 (9 + d) (((l ++ b6 s.value 0 ++ [c7.mk 1 (9 + d) s.count 0 0]).length : Int)) 0 0 (by exact absurd (hh.symm.trans (at3 (by omega))) (by decide)) (by exact absurd (hh.symm.trans (at3 (by omega))) (by decide)))) [0, 1, 2, 3, 4, 5, 7, 50, 51] (E3 s [.box [.ref 7, .ref 8, iA (ai0 s l fr at0 d).snd.snd], .row 122 (D.instrs ((ai0 s l fr at0 d).fst ++ [c7.mk 10 (9 + d) ((l ++ b6 s.value 0 ++ [c7.mk 1 (9 + d) s.count 0 0]).length : Int) 0 0])), .row 3 (D.ints ((ai0 s l fr at0 d).snd.fst ++ [at0]))]) [(6, .ptr 6 0)] fun G => b0 (wp_ret ?_))))))))))))); exact Q1 (.agg [.ref 7, .ref 8, iA (l9 s.body (d + 1) (l ++ b6 s.value 0 ++ [c7.mk 1 (9 + d) s.count 0 0], fr ++ a04 (b6 s.value 0).length at0 ++ [at0], at0 + 1)).snd.snd]) G [0, 1, 2, 3, 4, 5, 7, 8] (by have e1 : ((L6 s d (l, fr, at0)).snd.snd : Int) = ((l9 s.body (d + 1) (l ++ b6 s.value 0 ++ [c7.mk 1 (9 + d) s.count 0 0], fr ++ a04 (b6 s.value 0).length at0 ++ [at0], at0 + 1)).snd.snd) := (by exact absurd (hh.symm.trans (at3 (by omega))) (by decide)); (first | rw [e1] | simp only [e1]) <;> rfl) (by show _ = mR [0, 1, 2, 3, 4, 5, 7, 8] (O0 s l fr at0 d); unfold O0; have e1 : ((L6 s d (l, fr, at0)).fst : List c7) = ((l9 s.body (d + 1) (l ++ b6 s.value 0 ++ [c7.mk 1 (9 + d) s.count 0 0], fr ++ a04 (b6 s.value 0).length at0 ++ [at0], at0 + 1)).fst ++ [c7.mk 10 (9 + d) ((l ++ b6 s.value 0 ++ [c7.mk 1 (9 + d) s.count 0 0]).length : Int) 0 0]) := (by exact absurd (hh.symm.trans (at3 (by omega))) (by decide)); have e2 : ((L6 s d (l, fr, at0)).snd.fst : List Int) = ((l9 s.body (d + 1) (l ++ b6 s.value 0 ++ [c7.mk 1 (9 + d) s.count 0 0], fr ++ a04 (b6 s.value 0).length at0 ++ [at0], at0 + 1)).snd.fst ++ [at0]) := (by exact absurd (hh.symm.trans (at3 (by omega))) (by decide)); (first | rw [e1, e2] | simp only [e1, e2]) <;> rfl)
      ·
       refine wp_seq (j7 G d8 [(8, iA ((l ++ b6 s.value 0).length : Int))] fun G => b0 (wp_seq (i7 G (r7 3 [9, 10] (D0 (l ++ b6 s.value 0) (fr ++ a04 (b6 s.value 0).length at0) (at0 + 1) at0 9 0 0 0 0 (by omega) (by simp only [bR8, bT1, bS1, bS6, r2]; have := hft.2.2.2.2; simp only [bR8] at this; omega))) [0, 1, 2, 3, 4, 5, 6, 7, 8, 35, 36] (E3 s [U8 at0, .box (sL s 2), I3, .row 122 (D.instrs (l ++ b6 s.value 0 ++ [c7.mk 9 0 0 0 0])), aB1 s fr at0]) (D2 at0 d [(8, iA ((l ++ b6 s.value 0).length : Int))]) fun G => b0 (wp_seq (G4 G (r7 5 [9, 10, 4] (ih s.body (l ++ b6 s.value 0 ++ [c7.mk 9 0 0 0 0]) (fr ++ a04 (b6 s.value 0).length at0 ++ [at0]) (at0 + 1) (d + 1) (by assumption) (by simp only [bR8, bT1, bS1, bS6, r2]; have := hft.2.2.2.2; simp only [bR8] at this; omega) (by simp; omega) (by omega) (by omega) (by omega) (by omega))) [0, 1, 2, 3, 4, 5, 6, 7, 8, 51, 52] (E3 s [.box [.ref 9, .ref 10, iA (A5 s l fr at0 d).snd.snd], .box (sL s 2), I3, .row 122 (D.instrs (A5 s l fr at0 d).fst), .row 3 (D.ints (A5 s l fr at0 d).snd.fst)]) (D2 at0 d [(8, iA ((l ++ b6 s.value 0).length : Int))]) [wO (d + 1)] (o1 (by omega)) fun G => b0 (wp_seq (j7 G d8 [(9, iA ((A5 s l fr at0 d).fst.length : Int))] fun G => b0 (wp_seq (i7 G (r7 3 [9, 10] (D0 ((l9 s.body (d + 1) (l ++ b6 s.value 0 ++ [c7.mk 9 0 0 0 0], fr ++ a04 (b6 s.value 0).length at0 ++ [at0], at0 + 1)).fst) ((l9 s.body (d + 1) (l ++ b6 s.value 0 ++ [c7.mk 9 0 0 0 0], fr ++ a04 (b6 s.value 0).length at0 ++ [at0], at0 + 1)).snd.fst) ((l9 s.body (d + 1) (l ++ b6 s.value 0 ++ [c7.mk 9 0 0 0 0], fr ++ a04 (b6 s.value 0).length at0 ++ [at0], at0 + 1)).snd.snd) at0 8 0 0 0 0 (by have h9 := G9 s.body (d + 1) (l ++ b6 s.value 0 ++ [⟨9, 0, 0, 0, 0⟩], fr ++ a04 (b6 s.value 0).length at0 ++ [at0], at0 + 1); have h8 := K2 s.body; simp only [bR8, bS1, bS6, bT1, bU7, r2] at h9 ⊢; omega) (by have h9 := G9 s.body (d + 1) (l ++ b6 s.value 0 ++ [⟨9, 0, 0, 0, 0⟩], fr ++ a04 (b6 s.value 0).length at0 ++ [at0], at0 + 1); have h8 := K2 s.body; simp only [bR8, bS1, bS6, bT1, bU7, r2] at h9 ⊢; omega))) [0, 1, 2, 3, 4, 5, 6, 7, 8, 35, 36] (E3 s [.box [.ref 9, .ref 10, iA (A5 s l fr at0 d).snd.snd], .box (sL s 2), I3, .row 122 (D.instrs ((A5 s l fr at0 d).fst ++ [c7.mk 8 0 0 0 0])), .row 3 (D.ints ((A5 s l fr at0 d).snd.fst ++ [at0]))]) (D2 at0 d [(8, iA ((l ++ b6 s.value 0).length : Int)), (9, iA ((A5 s l fr at0 d).fst.length : Int))]) fun G => b0 (wp_seq (G4 G d8 (rg 11) (E3 s [.box [.ref 9, .ref 10, iA (A5 s l fr at0 d).snd.snd], .box (sL s 2), I3, .row 122 (D.instrs (((A5 s l fr at0 d).fst ++ [c7.mk 8 0 0 0 0]).set (l ++ b6 s.value 0).length (c7.mk (((A5 s l fr at0 d).fst ++ [c7.mk 8 0 0 0 0]).getD (l ++ b6 s.value 0).length aK4).op (((A5 s l fr at0 d).fst ++ [c7.mk 8 0 0 0 0]).getD (l ++ b6 s.value 0).length aK4).a (((A5 s l fr at0 d).fst ++ [c7.mk 8 0 0 0 0]).length : Int) (((A5 s l fr at0 d).fst ++ [c7.mk 8 0 0 0 0]).getD (l ++ b6 s.value 0).length aK4).c (((A5 s l fr at0 d).fst ++ [c7.mk 8 0 0 0 0]).getD (l ++ b6 s.value 0).length aK4).d))), .row 3 (D.ints ((A5 s l fr at0 d).snd.fst ++ [at0]))]) (D2 at0 d [(9, iA ((A5 s l fr at0 d).fst.length : Int))]) [(0 : Int) ≤ ((l ++ b6 s.value (0 : Int)).length : Int), ((l ++ b6 s.value (0 : Int)).length : Int) < (((l9 s.body (d + 1) (l ++ b6 s.value (0 : Int) ++ [c7.mk (9 : Int) (0 : Int) (0 : Int) (0 : Int) (0 : Int)], fr ++ a04 (b6 s.value (0 : Int)).length at0 ++ [at0], at0 + 1)).fst ++ [c7.mk (8 : Int) (0 : Int) (0 : Int) (0 : Int) (0 : Int)]).length : Int), (l ++ b6 s.value (0 : Int)).length < ((l9 s.body (d + 1) (l ++ b6 s.value (0 : Int) ++ [c7.mk (9 : Int) (0 : Int) (0 : Int) (0 : Int) (0 : Int)], fr ++ a04 (b6 s.value (0 : Int)).length at0 ++ [at0], at0 + 1)).fst ++ [c7.mk (8 : Int) (0 : Int) (0 : Int) (0 : Int) (0 : Int)]).length] ⟨(by omega), (by simp only [Z2, bU7, bR8, bS1, bS6]; omega), (by simp only [Z2, bU7, bR8, bS1, bS6]; omega), bS4⟩ fun G => ?_)))))))))))
       refine b0 (wp_seq (G4 G (r7 5 [9, 10, 5] (ih s.els (((l9 s.body (d + 1) (l ++ b6 s.value 0 ++ [c7.mk 9 0 0 0 0], fr ++ a04 (b6 s.value 0).length at0 ++ [at0], at0 + 1)).fst ++ [c7.mk 8 0 0 0 0]).set (l ++ b6 s.value 0).length (c7.mk (((l9 s.body (d + 1) (l ++ b6 s.value 0 ++ [c7.mk 9 0 0 0 0], fr ++ a04 (b6 s.value 0).length at0 ++ [at0], at0 + 1)).fst ++ [c7.mk 8 0 0 0 0]).getD (l ++ b6 s.value 0).length aK4).op (((l9 s.body (d + 1) (l ++ b6 s.value 0 ++ [c7.mk 9 0 0 0 0], fr ++ a04 (b6 s.value 0).length at0 ++ [at0], at0 + 1)).fst ++ [c7.mk 8 0 0 0 0]).getD (l ++ b6 s.value 0).length aK4).a (((l9 s.body (d + 1) (l ++ b6 s.value 0 ++ [c7.mk 9 0 0 0 0], fr ++ a04 (b6 s.value 0).length at0 ++ [at0], at0 + 1)).fst ++ [c7.mk 8 0 0 0 0]).length : Int) (((l9 s.body (d + 1) (l ++ b6 s.value 0 ++ [c7.mk 9 0 0 0 0], fr ++ a04 (b6 s.value 0).length at0 ++ [at0], at0 + 1)).fst ++ [c7.mk 8 0 0 0 0]).getD (l ++ b6 s.value 0).length aK4).c (((l9 s.body (d + 1) (l ++ b6 s.value 0 ++ [c7.mk 9 0 0 0 0], fr ++ a04 (b6 s.value 0).length at0 ++ [at0], at0 + 1)).fst ++ [c7.mk 8 0 0 0 0]).getD (l ++ b6 s.value 0).length aK4).d)) ((l9 s.body (d + 1) (l ++ b6 s.value 0 ++ [c7.mk 9 0 0 0 0], fr ++ a04 (b6 s.value 0).length at0 ++ [at0], at0 + 1)).snd.fst ++ [at0]) ((l9 s.body (d + 1) (l ++ b6 s.value 0 ++ [c7.mk 9 0 0 0 0], fr ++ a04 (b6 s.value 0).length at0 ++ [at0], at0 + 1)).snd.snd) (d + 1) (by assumption) (by have h9 := G9 s.body (d + 1) (l ++ b6 s.value 0 ++ [⟨9, 0, 0, 0, 0⟩], fr ++ a04 (b6 s.value 0).length at0 ++ [at0], at0 + 1); have h8 := K2 s.body; simp only [bR8, bS1, bS6, bT1, bU7, r2] at h9 ⊢; omega) (by have h9 := G9 s.body (d + 1) (l ++ b6 s.value 0 ++ [⟨9, 0, 0, 0, 0⟩], fr ++ a04 (b6 s.value 0).length at0 ++ [at0], at0 + 1); have h8 := K2 s.body; simp only [bR8, bS1, bS6, bT1, bU7, r2] at h9 ⊢; omega) (by omega) (by omega) (by have h9 := Z3 s.body (d + 1) (l ++ b6 s.value 0 ++ [⟨9, 0, 0, 0, 0⟩], fr ++ a04 (b6 s.value 0).length at0 ++ [at0], at0 + 1); simp only at h9; omega) (by have h9 := Z3 s.body (d + 1) (l ++ b6 s.value 0 ++ [⟨9, 0, 0, 0, 0⟩], fr ++ a04 (b6 s.value 0).length at0 ++ [at0], at0 + 1); simp only at h9; omega))) [0, 1, 2, 3, 4, 5, 6, 7, 8, 51, 52] (E3 s [.box [.ref 9, .ref 10, iA (J7 s l fr at0 d).snd.snd], .box (sL s 2), I3, .row 122 (D.instrs (J7 s l fr at0 d).fst), .row 3 (D.ints (J7 s l fr at0 d).snd.fst)]) (D2 at0 d [(9, iA ((A5 s l fr at0 d).fst.length : Int))]) [wO (d + 1)] (o1 (by omega)) fun G => b0 (wp_seq (G4 G d8 (rg 11) (E3 s [.box [.ref 9, .ref 10, iA (J7 s l fr at0 d).snd.snd], .box (sL s 2), I3, a82 s l fr at0 d, .row 3 (D.ints (J7 s l fr at0 d).snd.fst)]) (D2 at0 d []) [(0 : Int) ≤ ((l9 s.body (d + 1) (l ++ b6 s.value (0 : Int) ++ [c7.mk (9 : Int) (0 : Int) (0 : Int) (0 : Int) (0 : Int)], fr ++ a04 (b6 s.value (0 : Int)).length at0 ++ [at0], at0 + 1)).fst.length : Int), ((l9 s.body (d + 1) (l ++ b6 s.value (0 : Int) ++ [c7.mk (9 : Int) (0 : Int) (0 : Int) (0 : Int) (0 : Int)], fr ++ a04 (b6 s.value (0 : Int)).length at0 ++ [at0], at0 + 1)).fst.length : Int) < ((l9 s.els (d + 1) (((l9 s.body (d + 1) (l ++ b6 s.value (0 : Int) ++ [c7.mk (9 : Int) (0 : Int) (0 : Int) (0 : Int) (0 : Int)], fr ++ a04 (b6 s.value (0 : Int)).length at0 ++ [at0], at0 + 1)).fst ++ [c7.mk (8 : Int) (0 : Int) (0 : Int) (0 : Int) (0 : Int)]).set (l ++ b6 s.value (0 : Int)).length (c7.mk (((l9 s.body (d + 1) (l ++ b6 s.value (0 : Int) ++ [c7.mk (9 : Int) (0 : Int) (0 : Int) (0 : Int) (0 : Int)], fr ++ a04 (b6 s.value (0 : Int)).length at0 ++ [at0], at0 + 1)).fst ++ [c7.mk (8 : Int) (0 : Int) (0 : Int) (0 : Int) (0 : Int)]).getD (l ++ b6 s.value (0 : Int)).length aK4).op (((l9 s.body (d + 1) (l ++ b6 s.value (0 : Int) ++ [c7.mk (9 : Int) (0 : Int) (0 : Int) (0 : Int) (0 : Int)], fr ++ a04 (b6 s.value (0 : Int)).length at0 ++ [at0], at0 + 1)).fst ++ [c7.mk (8 : Int) (0 : Int) (0 : Int) (0 : Int) (0 : Int)]).getD (l ++ b6 s.value (0 : Int)).length aK4).a (((l9 s.body (d + 1) (l ++ b6 s.value (0 : Int) ++ [c7.mk (9 : Int) (0 : Int) (0 : Int) (0 : Int) (0 : Int)], fr ++ a04 (b6 s.value (0 : Int)).length at0 ++ [at0], at0 + 1)).fst ++ [c7.mk (8 : Int) (0 : Int) (0 : Int) (0 : Int) (0 : Int)]).length : Int) (((l9 s.body (d + 1) (l ++ b6 s.value (0 : Int) ++ [c7.mk (9 : Int) (0 : Int) (0 : Int) (0 : Int) (0 : Int)], fr ++ a04 (b6 s.value (0 : Int)).length at0 ++ [at0], at0 + 1)).fst ++ [c7.mk (8 : Int) (0 : Int) (0 : Int) (0 : Int) (0 : Int)]).getD (l ++ b6 s.value (0 : Int)).length aK4).c (((l9 s.body (d + 1) (l ++ b6 s.value (0 : Int) ++ [c7.mk (9 : Int) (0 : Int) (0 : Int) (0 : Int) (0 : Int)], fr ++ a04 (b6 s.value (0 : Int)).length at0 ++ [at0], at0 + 1)).fst ++ [c7.mk (8 : Int) (0 : Int) (0 : Int) (0 : Int) (0 : Int)]).getD (l ++ b6 s.value (0 : Int)).length aK4).d), (l9 s.body (d + 1) (l ++ b6 s.value (0 : Int) ++ [c7.mk (9 : Int) (0 : Int) (0 : Int) (0 : Int) (0 : Int)], fr ++ a04 (b6 s.value (0 : Int)).length at0 ++ [at0], at0 + 1)).snd.fst ++ [at0], (l9 s.body (d + 1) (l ++ b6 s.value (0 : Int) ++ [c7.mk (9 : Int) (0 : Int) (0 : Int) (0 : Int) (0 : Int)], fr ++ a04 (b6 s.value (0 : Int)).length at0 ++ [at0], at0 + 1)).snd.snd)).fst.length : Int), (l9 s.body (d + 1) (l ++ b6 s.value (0 : Int) ++ [c7.mk (9 : Int) (0 : Int) (0 : Int) (0 : Int) (0 : Int)], fr ++ a04 (b6 s.value (0 : Int)).length at0 ++ [at0], at0 + 1)).fst.length < (l9 s.els (d + 1) (((l9 s.body (d + 1) (l ++ b6 s.value (0 : Int) ++ [c7.mk (9 : Int) (0 : Int) (0 : Int) (0 : Int) (0 : Int)], fr ++ a04 (b6 s.value (0 : Int)).length at0 ++ [at0], at0 + 1)).fst ++ [c7.mk (8 : Int) (0 : Int) (0 : Int) (0 : Int) (0 : Int)]).set (l ++ b6 s.value (0 : Int)).length (c7.mk (((l9 s.body (d + 1) (l ++ b6 s.value (0 : Int) ++ [c7.mk (9 : Int) (0 : Int) (0 : Int) (0 : Int) (0 : Int)], fr ++ a04 (b6 s.value (0 : Int)).length at0 ++ [at0], at0 + 1)).fst ++ [c7.mk (8 : Int) (0 : Int) (0 : Int) (0 : Int) (0 : Int)]).getD (l ++ b6 s.value (0 : Int)).length aK4).op (((l9 s.body (d + 1) (l ++ b6 s.value (0 : Int) ++ [c7.mk (9 : Int) (0 : Int) (0 : Int) (0 : Int) (0 : Int)], fr ++ a04 (b6 s.value (0 : Int)).length at0 ++ [at0], at0 + 1)).fst ++ [c7.mk (8 : Int) (0 : Int) (0 : Int) (0 : Int) (0 : Int)]).getD (l ++ b6 s.value (0 : Int)).length aK4).a (((l9 s.body (d + 1) (l ++ b6 s.value (0 : Int) ++ [c7.mk (9 : Int) (0 : Int) (0 : Int) (0 : Int) (0 : Int)], fr ++ a04 (b6 s.value (0 : Int)).length at0 ++ [at0], at0 + 1)).fst ++ [c7.mk (8 : Int) (0 : Int) (0 : Int) (0 : Int) (0 : Int)]).length : Int) (((l9 s.body (d + 1) (l ++ b6 s.value (0 : Int) ++ [c7.mk (9 : Int) (0 : Int) (0 : Int) (0 : Int) (0 : Int)], fr ++ a04 (b6 s.value (0 : Int)).length at0 ++ [at0], at0 + 1)).fst ++ [c7.mk (8 : Int) (0 : Int) (0 : Int) (0 : Int) (0 : Int)]).getD (l ++ b6 s.value (0 : Int)).length aK4).c (((l9 s.body (d + 1) (l ++ b6 s.value (0 : Int) ++ [c7.mk (9 : Int) (0 : Int) (0 : Int) (0 : Int) (0 : Int)], fr ++ a04 (b6 s.value (0 : Int)).length at0 ++ [at0], at0 + 1)).fst ++ [c7.mk (8 : Int) (0 : Int) (0 : Int) (0 : Int) (0 : Int)]).getD (l ++ b6 s.value (0 : Int)).length aK4).d), (l9 s.body (d + 1) (l ++ b6 s.value (0 : Int) ++ [c7.mk (9 : Int) (0 : Int) (0 : Int) (0 : Int) (0 : Int)], fr ++ a04 (b6 s.value (0 : Int)).length at0 ++ [at0], at0 + 1)).snd.fst ++ [at0], (l9 s.body (d + 1) (l ++ b6 s.value (0 : Int) ++ [c7.mk (9 : Int) (0 : Int) (0 : Int) (0 : Int) (0 : Int)], fr ++ a04 (b6 s.value (0 : Int)).length at0 ++ [at0], at0 + 1)).snd.snd)).fst.length] ⟨(by omega), (by simp only [Z2, bU7, bR8, bS1, bS6]; omega), (by simp only [Z2, bU7, bR8, bS1, bS6]; omega), bS4⟩ fun G => ?_))))
       refine b0 (wp_seq (i7 G d8 (rg 11) (E3 s [.box [.ref 9, .ref 10, iA (J7 s l fr at0 d).snd.snd], .box (sL s 2), .box [.ref 9, .ref 10, iA (J7 s l fr at0 d).snd.snd], a82 s l fr at0 d, .row 3 (D.ints (J7 s l fr at0 d).snd.fst)]) (D2 at0 d []) fun G => b0 (wp_ret (C9 (n8 ?_))))); exact Q1 (.agg [.ref 9, .ref 10, iA (l9 s.els (d + 1) (((l9 s.body (d + 1) (l ++ b6 s.value 0 ++ [c7.mk 9 0 0 0 0], fr ++ a04 (b6 s.value 0).length at0 ++ [at0], at0 + 1)).fst ++ [c7.mk 8 0 0 0 0]).set (l ++ b6 s.value 0).length (c7.mk (((l9 s.body (d + 1) (l ++ b6 s.value 0 ++ [c7.mk 9 0 0 0 0], fr ++ a04 (b6 s.value 0).length at0 ++ [at0], at0 + 1)).fst ++ [c7.mk 8 0 0 0 0]).getD (l ++ b6 s.value 0).length aK4).op (((l9 s.body (d + 1) (l ++ b6 s.value 0 ++ [c7.mk 9 0 0 0 0], fr ++ a04 (b6 s.value 0).length at0 ++ [at0], at0 + 1)).fst ++ [c7.mk 8 0 0 0 0]).getD (l ++ b6 s.value 0).length aK4).a (((l9 s.body (d + 1) (l ++ b6 s.value 0 ++ [c7.mk 9 0 0 0 0], fr ++ a04 (b6 s.value 0).length at0 ++ [at0], at0 + 1)).fst ++ [c7.mk 8 0 0 0 0]).length : Int) (((l9 s.body (d + 1) (l ++ b6 s.value 0 ++ [c7.mk 9 0 0 0 0], fr ++ a04 (b6 s.value 0).length at0 ++ [at0], at0 + 1)).fst ++ [c7.mk 8 0 0 0 0]).getD (l ++ b6 s.value 0).length aK4).c (((l9 s.body (d + 1) (l ++ b6 s.value 0 ++ [c7.mk 9 0 0 0 0], fr ++ a04 (b6 s.value 0).length at0 ++ [at0], at0 + 1)).fst ++ [c7.mk 8 0 0 0 0]).getD (l ++ b6 s.value 0).length aK4).d), (l9 s.body (d + 1) (l ++ b6 s.value 0 ++ [c7.mk 9 0 0 0 0], fr ++ a04 (b6 s.value 0).length at0 ++ [at0], at0 + 1)).snd.fst ++ [at0], (l9 s.body (d + 1) (l ++ b6 s.value 0 ++ [c7.mk 9 0 0 0 0], fr ++ a04 (b6 s.value 0).length at0 ++ [at0], at0 + 1)).snd.snd)).snd.snd]) G [0, 1, 2, 3, 4, 5, 9, 10] (by have e1 : ((L6 s d (l, fr, at0)).snd.snd : Int) = ((l9 s.els (d + 1) (((l9 s.body (d + 1) (l ++ b6 s.value 0 ++ [c7.mk 9 0 0 0 0], fr ++ a04 (b6 s.value 0).length at0 ++ [at0], at0 + 1)).fst ++ [c7.mk 8 0 0 0 0]).set (l ++ b6 s.value 0).length (c7.mk (((l9 s.body (d + 1) (l ++ b6 s.value 0 ++ [c7.mk 9 0 0 0 0], fr ++ a04 (b6 s.value 0).length at0 ++ [at0], at0 + 1)).fst ++ [c7.mk 8 0 0 0 0]).getD (l ++ b6 s.value 0).length aK4).op (((l9 s.body (d + 1) (l ++ b6 s.value 0 ++ [c7.mk 9 0 0 0 0], fr ++ a04 (b6 s.value 0).length at0 ++ [at0], at0 + 1)).fst ++ [c7.mk 8 0 0 0 0]).getD (l ++ b6 s.value 0).length aK4).a (((l9 s.body (d + 1) (l ++ b6 s.value 0 ++ [c7.mk 9 0 0 0 0], fr ++ a04 (b6 s.value 0).length at0 ++ [at0], at0 + 1)).fst ++ [c7.mk 8 0 0 0 0]).length : Int) (((l9 s.body (d + 1) (l ++ b6 s.value 0 ++ [c7.mk 9 0 0 0 0], fr ++ a04 (b6 s.value 0).length at0 ++ [at0], at0 + 1)).fst ++ [c7.mk 8 0 0 0 0]).getD (l ++ b6 s.value 0).length aK4).c (((l9 s.body (d + 1) (l ++ b6 s.value 0 ++ [c7.mk 9 0 0 0 0], fr ++ a04 (b6 s.value 0).length at0 ++ [at0], at0 + 1)).fst ++ [c7.mk 8 0 0 0 0]).getD (l ++ b6 s.value 0).length aK4).d), (l9 s.body (d + 1) (l ++ b6 s.value 0 ++ [c7.mk 9 0 0 0 0], fr ++ a04 (b6 s.value 0).length at0 ++ [at0], at0 + 1)).snd.fst ++ [at0], (l9 s.body (d + 1) (l ++ b6 s.value 0 ++ [c7.mk 9 0 0 0 0], fr ++ a04 (b6 s.value 0).length at0 ++ [at0], at0 + 1)).snd.snd)).snd.snd) := (by have h9 := congrArg (fun x : E8 => x.2.2) (cm3 (l := l) (fr := fr) (at0 := at0) (d := d) (s := s) (by omega)); exact h9); (first | rw [e1] | simp only [e1]) <;> rfl) (by show _ = mR [0, 1, 2, 3, 4, 5, 9, 10] (O0 s l fr at0 d); unfold O0; have h9 := cm3 (l := l) (fr := fr) (at0 := at0) (d := d) (s := s) (by omega); rw [h9] <;> rfl)
     · refine wp_seq (i7 G (r7 4 [9, 10, 2] (aN1 s.index (l ++ b6 s.value 0) (fr ++ a04 (b6 s.value 0).length at0) (at0 + 1) at0 1 (by omega) (by omega) (by omega) (by simp only [bR8, bT1, r2]; done))) [0, 1, 2, 3, 4, 5, 6, 7, 8, 43, 44] (E3 s [U8 at0, .box (sL s 2), I3, .row 122 (D.instrs (l ++ b6 s.value 0 ++ b6 s.index 1)), .row 3 (D.ints (fr ++ a04 (b6 s.value 0).length at0 ++ a04 (b6 s.index 1).length at0))]) (D2 at0 d []) fun G => b0 (wp_seq (i7 G (r7 5 [9, 10] (D0 (l ++ b6 s.value 0 ++ b6 s.index 1) (fr ++ a04 (b6 s.value 0).length at0 ++ a04 (b6 s.index 1).length at0) (at0 + 1) at0 5 s.target 1 0 0 (by omega) (by simp only [bR8, bT1, bS1, bS6, r2]; have := hft.2.2.2.2; simp only [bR8] at this; omega))) [0, 1, 2, 3, 4, 5, 6, 7, 8, 9, 10, 51, 52] (E3 s [U8 at0, .box (sL s 2), .box [.ref 11, .ref 12, iA (at0 + 1)], .dead, .dead, .row 122 (D.instrs (l ++ b6 s.value 0 ++ b6 s.index 1 ++ [c7.mk 5 s.target 1 0 0])), .row 3 (D.ints (fr ++ a04 (b6 s.value 0).length at0 ++ a04 (b6 s.index 1).length at0 ++ [at0]))]) (D2 at0 d []) fun G => b0 (wp_ret (C9 (n8 ?_)))))); exact Q1 (.agg [.ref 11, .ref 12, iA (at0 + 1)]) G [0, 1, 2, 3, 4, 5, 11, 12] (by have e1 : ((L6 s d (l, fr, at0)).snd.snd : Int) = (at0 + 1) := (congrArg (fun x : E8 => x.2.2) (cm2 (by omega))); (first | rw [e1] | simp only [e1]) <;> rfl) (by show _ = mR [0, 1, 2, 3, 4, 5, 11, 12] (O0 s l fr at0 d); unfold O0; have e1 : ((L6 s d (l, fr, at0)).fst : List c7) = (l ++ b6 s.value 0 ++ b6 s.index 1 ++ [c7.mk 5 s.target 1 0 0]) := (congrArg Prod.fst (cm2 (by omega))); have e2 : ((L6 s d (l, fr, at0)).snd.fst : List Int) = (fr ++ a04 (b6 s.value 0).length at0 ++ a04 (b6 s.index 1).length at0 ++ [at0]) := (congrArg (fun x : E8 => x.2.1) (cm2 (by omega))); (first | rw [e1, e2] | simp only [e1, e2]) <;> rfl)
    · refine wp_seq (i7 G (r7 3 [9, 10] (D0 (l ++ b6 s.value 0) (fr ++ a04 (b6 s.value 0).length at0) (at0 + 1) at0 11 0 0 0 0 (by omega) (by simp only [bR8, bT1, bS1, bS6, r2]; have := hft.2.2.2.2; simp only [bR8] at this; omega))) [0, 1, 2, 3, 4, 5, 6, 7, 8, 35, 36] (E3 s [U8 at0, .box (sL s 2), I3, .row 122 (D.instrs (l ++ b6 s.value 0 ++ [c7.mk 11 0 0 0 0])), aB1 s fr at0]) (D2 at0 d []) fun G => b0 (wp_seq (i7 G (r7 5 [9, 10] (D0 (l ++ b6 s.value 0 ++ [c7.mk 11 0 0 0 0]) (fr ++ a04 (b6 s.value 0).length at0 ++ [at0]) (at0 + 1) at0 3 s.target 0 0 0 (by simp only [bR8, bT1, bS1, bS6, r2]; have := hft.2.2.2.2; simp only [bR8] at this; omega) (by simp only [bR8, bT1, bS1, bS6, r2]; have := hft.2.2.2.2; simp only [bR8] at this; omega))) [0, 1, 2, 3, 4, 5, 6, 7, 8, 9, 10, 51, 52] (E3 s [U8 at0, .box (sL s 2), .box [.ref 11, .ref 12, iA (at0 + 1)], .dead, .dead, .row 122 (D.instrs (l ++ b6 s.value 0 ++ [c7.mk 11 0 0 0 0] ++ [c7.mk 3 s.target 0 0 0])), .row 3 (D.ints (fr ++ a04 (b6 s.value 0).length at0 ++ [at0] ++ [at0]))]) (D2 at0 d []) fun G => b0 (wp_ret (C9 (n8 ?_)))))); exact Q1 (.agg [.ref 11, .ref 12, iA (at0 + 1)]) G [0, 1, 2, 3, 4, 5, 11, 12] (by have e1 : ((L6 s d (l, fr, at0)).snd.snd : Int) = (at0 + 1) := (congrArg (fun x : E8 => x.2.2) (cm5 (by omega))); (first | rw [e1] | simp only [e1]) <;> rfl) (by show _ = mR [0, 1, 2, 3, 4, 5, 11, 12] (O0 s l fr at0 d); unfold O0; have e1 : ((L6 s d (l, fr, at0)).fst : List c7) = (l ++ b6 s.value 0 ++ [c7.mk 11 0 0 0 0] ++ [c7.mk 3 s.target 0 0 0]) := (congrArg Prod.fst (cm5 (by omega))); have e2 : ((L6 s d (l, fr, at0)).snd.fst : List Int) = (fr ++ a04 (b6 s.value 0).length at0 ++ [at0] ++ [at0]) := (congrArg (fun x : E8 => x.2.1) (cm5 (by omega))); (first | rw [e1, e2] | simp only [e1, e2]) <;> rfl)
   · refine wp_seq (i7 G (r7 5 [9, 10] (D0 (l ++ b6 s.value 0) (fr ++ a04 (b6 s.value 0).length at0) (at0 + 1) at0 3 s.target 0 0 0 (by omega) (by simp only [bR8, bT1, bS1, bS6, r2]; have := hft.2.2.2.2; simp only [bR8] at this; omega))) [0, 1, 2, 3, 4, 5, 6, 7, 8, 9, 10, 51, 52] (E3 s [U8 at0, .box (sL s 2), .box [.ref 11, .ref 12, iA (at0 + 1)], .dead, .dead, .row 122 (D.instrs (l ++ b6 s.value 0 ++ [c7.mk 3 s.target 0 0 0])), aB1 s fr at0]) (D2 at0 d []) fun G => b0 (wp_ret (C9 (n8 ?_)))); exact Q1 (.agg [.ref 11, .ref 12, iA (at0 + 1)]) G [0, 1, 2, 3, 4, 5, 11, 12] (by have e1 : ((L6 s d (l, fr, at0)).snd.snd : Int) = (at0 + 1) := (congrArg (fun x : E8 => x.2.2) (cm1 (by omega))); (first | rw [e1] | simp only [e1]) <;> rfl) (by show _ = mR [0, 1, 2, 3, 4, 5, 11, 12] (O0 s l fr at0 d); unfold O0; have e1 : ((L6 s d (l, fr, at0)).fst : List c7) = (l ++ b6 s.value 0 ++ [c7.mk 3 s.target 0 0 0]) := (congrArg Prod.fst (cm1 (by omega))); have e2 : ((L6 s d (l, fr, at0)).snd.fst : List Int) = (fr ++ a04 (b6 s.value 0).length at0 ++ [at0]) := (congrArg (fun x : E8 => x.2.1) (cm1 (by omega))); (first | rw [e1, e2] | simp only [e1, e2]) <;> rfl)
section
variable {ss : List c6} {k : Nat} {d : Int} {l : List c7} {fr : List Int} {at0 : Int}
theorem a28 (hk : k < ss.length) : t0 (ss.take k) + (1 + szS (ss.getD k aK4)) ≤ t0 ss := by
 have h1 := al4 (ss.take (k + 1)) (ss.drop (k + 1))
 rw [List.take_append_drop, x5 _ _ hk, al4, ← o5 (d := aK4) hk] at h1
 simp only [t0] at h1
 omega
theorem be1 (hk : k < ss.length) : nSs (ss.take k) + nS (ss.getD k aK4) ≤ nSs ss := by
 have h1 := ar9 (ss.take (k + 1)) (ss.drop (k + 1))
 rw [List.take_append_drop, x5 _ _ hk, ar9, ← o5 (d := aK4) hk] at h1
 simp only [nSs] at h1
 omega
theorem bh9 (r1 : l.length + 4 * t0 ss ≤ 5000000) (hk : k < ss.length) : (l9 (ss.take k) d (l, fr, at0)).1.length + (4 + 4 * szS (ss.getD k aK4)) ≤ 5000000 := by
 have h1 := a28 hk
 have h2 := K2 (ss.take k)
 rw [Z2]
 simp only
 omega
theorem bu5 (r2 : fr.length = l.length) : (l9 (ss.take k) d (l, fr, at0)).2.1.length = (l9 (ss.take k) d (l, fr, at0)).1.length := by
 have h := G9 (ss.take k) d (l, fr, at0)
 simp only at h
 omega
theorem bi1 (r5 : 0 ≤ at0) : 0 ≤ (l9 (ss.take k) d (l, fr, at0)).2.2 := by
 have h := Z3 (ss.take k) d (l, fr, at0)
 simp only at h
 omega
theorem bi0 (r6 : at0 + nSs ss ≤ 5000000) (hk : k < ss.length) : (l9 (ss.take k) d (l, fr, at0)).2.2 + nS (ss.getD k aK4) ≤ 5000000 := by
 have h := Z3 (ss.take k) d (l, fr, at0)
 have h1 := be1 hk
 simp only at h
 omega
theorem bI6 (hk : k < ss.length) : (l9 (ss.take (k + 1)) d (l, fr, at0)).1 = (L6 (ss.getD k aK4) d (l9 (ss.take k) d (l, fr, at0))).1 := by rw [au1 hk]
theorem bI5 (hk : k < ss.length) : (l9 (ss.take (k + 1)) d (l, fr, at0)).2.1 = (L6 (ss.getD k aK4) d (l9 (ss.take k) d (l, fr, at0))).2.1 := by rw [au1 hk]
theorem bI4 (hk : k < ss.length) : (l9 (ss.take (k + 1)) d (l, fr, at0)).2.2 = (L6 (ss.getD k aK4) d (l9 (ss.take k) d (l, fr, at0))).2.2 := by rw [au1 hk]
theorem a57 (hk : ss.length ≤ k) (x : E8) : l9 ss d x = l9 (ss.take k) d x := by rw [bT9 hk]
end
theorem ay6 (ss : List c6) (B : Int) (ih : ∀ (s : c6), s ∈ ss → ∀ (l : List c7) (fr : List Int) (at0 d : Int), l.length + (4 + 4 * szS s) ≤ 5000000 → fr.length = l.length → 0 ≤ d → d ≤ B → 0 ≤ at0 → at0 + nS s ≤ 5000000 → j5.ok Try.prog (lqC l fr at0 s d))
  (l : List c7) (fr : List Int) (at0 d : Int) (r1 : l.length + 4 * t0 ss ≤ 5000000) (r2 : fr.length = l.length) (r3 : 0 ≤ d) (r4 : d ≤ B) (r5 : 0 ≤ at0) (r6 : at0 + nSs ss ≤ 5000000) : j5.ok Try.prog (lrC l fr at0 ss d) := by
 refine F5 22 Try.func138 [.row 122 (D.instrs l), .row 3 (D.ints fr), dT ss] [(0, .agg [.ref 0, .ref 1, iA at0]), (1, .ref 2), (2, iA d)] fun G => ?_; have hl := af2 ss; refine wp_seq (i7 G d8 [0, 1, 2, 3, 11] [.row 122 (D.instrs l), .row 3 (D.ints fr), dT ss, .box [.ref 0, .ref 1, iA at0], .box [.v (.slice none 0 0), .v (.slice none 0 0), iA 0]] [(1, .ref 2), (2, iA d), (3, .ptr 3 0), (6, .ptr 4 0)] fun G => b0 (wp_seq (wp_seq (D6 G d8 [(1, .ref 2), (2, iA d), (3, .ptr 3 0), (6, .ptr 4 0), (7, iA 0)] fun G => b0 (wp_block ?_))))); obtain ⟨ρ, G⟩ := G.shift 0 5 [.dead, .row 3 (D.ints fr), dT ss, .box [.ref 5, .ref 1, iA at0], .box [.v (.slice none 0 0), .v (.slice none 0 0), iA 0], .row 122 (D.instrs l)] [(1, .ref 2), (2, iA d), (3, .ptr 3 0), (6, .ptr 4 0), (7, iA 0)]; obtain ⟨ρ, G⟩ := G.shift 1 6 [.dead, .dead, dT ss, .box [.ref 5, .ref 6, iA at0], .box [.v (.slice none 0 0), .v (.slice none 0 0), iA 0], .row 122 (D.instrs l), .row 3 (D.ints fr)] [(1, .ref 2), (2, iA d), (3, .ptr 3 0), (6, .ptr 4 0), (7, iA 0)]; refine t6 (κ := Nat) (fun k => k ≤ ss.length) (fun k => ss.length - k) (fun k => [.dead, .dead, dT ss, .box [.ref 5, .ref 6, iA (l9 (ss.take k) d (l, fr, at0)).2.2], .box [.v (.slice none 0 0), .v (.slice none 0 0), iA 0], .row 122 (.instrs (l9 (ss.take k) d (l, fr, at0)).1), .row 3 (.ints (l9 (ss.take k) d (l, fr, at0)).2.1)]) (fun k => [(1, .ref 2), (2, iA d), (3, .ptr 3 0), (6, .ptr 4 0), (7, iA k)]) 0 (by omega) (s5.at G _ _) ?_; clear G; intro k ρ a w hp G; replace G := s5.at G [.dead, .dead, dT ss, .box [.ref 5, .ref 6, iA (l9 (bS3 k ss) d (l, fr, at0)).snd.snd], .box [.v (.slice none 0 0), .v (.slice none 0 0), iA 0], .row 122 (D.instrs (l9 (bS3 k ss) d (l, fr, at0)).fst), .row 3 (D.ints (l9 (bS3 k ss) d (l, fr, at0)).snd.fst)] [(1, .ref 2), (2, iA d), (3, .ptr 3 0), (6, .ptr 4 0), (7, iA k)]; refine wp_seq (wp_seq (j7 G d8 [(11, bA (decide ((k : Int) < ss.length)))] fun G => b0 (rcD G (fun h0 q0 => ?_) fun h0 q0 => ?_)))
 ·refine wp_exit (t3 (t3 (t2 (b0 (wp_seq (i7 G d8 [0, 1, 2, 4, 5, 6] [.dead, .dead, dT ss, .box [.ref 4, .ref 5, iA (l9 (bS3 k ss) d (l, fr, at0)).snd.snd], .row 122 (D.instrs (l9 (bS3 k ss) d (l, fr, at0)).fst), .row 3 (D.ints (l9 (bS3 k ss) d (l, fr, at0)).snd.fst)] [(6, .ptr 3 0)] fun G => b0 (wp_ret ?_))))))); exact Q1 (.agg [.ref 4, .ref 5, iA (l9 (bS3 k ss) d (l, fr, at0)).snd.snd]) G [0, 1, 2, 4, 5] (by have e1 : ((l9 ss d (l, fr, at0)).snd.snd : Int) = ((l9 (bS3 k ss) d (l, fr, at0)).snd.snd) := (congrArg (fun x : E8 => x.2.2) (a57 (by omega) _)); (first | rw [e1] | simp only [e1]) <;> rfl) (by show _ = mR [0, 1, 2, 4, 5] [.dead, .dead, dT ss, .row 122 (D.instrs (l9 ss d (l, fr, at0)).fst), .row 3 (D.ints (l9 ss d (l, fr, at0)).snd.fst)]; have e1 : ((l9 ss d (l, fr, at0)).fst : List c7) = ((l9 (bS3 k ss) d (l, fr, at0)).fst) := (congrArg Prod.fst (a57 (by omega) _)); have e2 : ((l9 ss d (l, fr, at0)).snd.fst : List Int) = ((l9 (bS3 k ss) d (l, fr, at0)).snd.fst) := (congrArg (fun x : E8 => x.2.1) (a57 (by omega) _)); (first | rw [e1, e2] | simp only [e1, e2]) <;> rfl)
 ·refine wp_skip (b0 (wp_seq (wp_block (C8 G (r7 6 [5, 6, 39, 40, 41, 42] (ih (ss.getD k aK4) (aL9 (by omega)) ((l9 (bS3 k ss) d (l, fr, at0)).fst) ((l9 (bS3 k ss) d (l, fr, at0)).snd.fst) ((l9 (bS3 k ss) d (l, fr, at0)).snd.snd) d (bh9 r1 (by omega)) (bu5 r2) (by assumption) (by assumption) (bi1 r5) (bi0 r6 (by omega)))) [0, 0, 0, 6, 14, 0, 63, 127] [0, 1, 2, 3, 4, 55, 56] [.dead, .dead, dT ss, .box [.ref 5, .ref 6, iA (L6 (ss.getD k aK4) d (l9 (bS3 k ss) d (l, fr, at0))).snd.snd], .box [.v (.slice none 0 0), .v (.slice none 0 0), iA 0], .row 122 (D.instrs (L6 (ss.getD k aK4) d (l9 (bS3 k ss) d (l, fr, at0))).fst), .row 3 (D.ints (L6 (ss.getD k aK4) d (l9 (bS3 k ss) d (l, fr, at0))).snd.fst)] [(1, .ref 2), (2, iA d), (3, .ptr 3 0), (6, .ptr 4 0), (7, iA k)] (iX k k ss.length []) (iK (by omega) bS4) fun G => i8 (b0 (A0 G d8 [(7, iA ((k : Int) + 1))] [wO ((k : Int) + 1)] (o1 (by omega)) fun G => b0 ?_)))))); exact H9 G (k + 1) (by omega) (by omega) (rg 7) (by have e1 : ((l9 (bS3 (k + 1) ss) d (l, fr, at0)).snd.snd : Int) = ((L6 (ss.getD k aK4) d (l9 (bS3 k ss) d (l, fr, at0))).snd.snd) := (bI4 (by omega)); have e2 : ((l9 (bS3 (k + 1) ss) d (l, fr, at0)).fst : List c7) = ((L6 (ss.getD k aK4) d (l9 (bS3 k ss) d (l, fr, at0))).fst) := (bI6 (by omega)); have e3 : ((l9 (bS3 (k + 1) ss) d (l, fr, at0)).snd.fst : List Int) = ((L6 (ss.getD k aK4) d (l9 (bS3 k ss) d (l, fr, at0))).snd.fst) := (bI5 (by omega)); (first | rw [e1, e2, e3] | simp only [e1, e2, e3]) <;> rfl)
theorem be9 (nv na : Nat) : ∀ (dd : Nat) (ss : List c6) (l : List c7) (fr : List Int) (at0 d : Int), ss.all (l6 nv na dd) = true → l.length + 4 * t0 ss ≤ 5000000 → fr.length = l.length → 0 ≤ d → d + dd ≤ 100 → 0 ≤ at0 → at0 + nSs ss ≤ 5000000 → j5.ok Try.prog (lrC l fr at0 ss d) := by
 intro dd
 induction dd with
 | zero =>
  intro ss l fr at0 d hs r1 r2 r3 r4 r5 r6
  have h0 : ss = [] := by
   cases ss with
   | nil => rfl
   | cons a r => simp [l6] at hs
  subst h0
  exact ay6 [] 100 (fun s hs => by cases hs) l fr at0 d r1 r2 r3 (by omega) r5 r6
 | succ dd ih =>
  intro ss l fr at0 d hs r1 r2 r3 r4 r5 r6
  refine ay6 ss (100 - (dd + 1)) (fun s hm l fr at0 d q1 q2 q3 q4 q5 q6 => ?_) l fr at0 d r1 r2 r3 (by omega) r5 r6
  have h := bS2.1 hs s hm
  rw [ac9, bR6, bR6] at h
  exact aJ0 nv na dd s h.1 h.2.1 h.2.2 (fun tt l fr at0 d h1 h2 h3 h4 h5 h6 h7 => ih tt l fr at0 d h1 h2 h3 h4 h5 h6 h7) l fr at0 d q1 q2 q3 (by omega) q5 q6
abbrev aB0 : It := .box [.v (.slice none 0 0), .v (.slice none 0 0), iA 0]
theorem aQ1 (ss : List c6) (B : Int) (ih : ∀ (s : c6), s ∈ ss → ∀ (l : List c7) (fr : List Int) (at0 d : Int), l.length + (4 + 4 * szS s) ≤ 5000000 → fr.length = l.length → 0 ≤ d → d ≤ B → 0 ≤ at0 → at0 + nS s ≤ 5000000 → j5.ok Try.prog (lqC l fr at0 s d))
  (d : Int) (r1 : ([] : List c7).length + 4 * t0 ss ≤ 5000000) (r3 : 0 ≤ d) (r4 : d ≤ B) (r6 : (0 : Int) + nSs ss ≤ 5000000) : j5.ok Try.prog ⟨138, [.agg [.v (.slice none 0 0), .v (.slice none 0 0), iA 0], .ref 0, iA d], [dT ss], [dT ss, rN (l9 ss d ([], [], 0)).1, rI (l9 ss d ([], [], 0)).2.1], .agg [.ref 1, .ref 2, iA (l9 ss d ([], [], 0)).2.2]⟩ := by
 refine F5 22 Try.func138 [dT ss] [(0, .agg [.v (.slice none 0 0), .v (.slice none 0 0), iA 0]), (1, .ref 0), (2, iA d)] fun G => ?_; have hl := af2 ss; refine wp_seq (i7 G d8 [0, 1, 9] [dT ss, aB0, aB0] [(1, .ref 0), (2, iA d), (3, .ptr 1 0), (6, .ptr 2 0)] fun G => b0 (wp_seq (wp_seq (D6 G d8 [(1, .ref 0), (2, iA d), (3, .ptr 1 0), (6, .ptr 2 0), (7, iA 0)] fun G => b0 (wp_block ?_))))); obtain ⟨ρ, G⟩ := G.nil 3 122 (.instrs []) 5 [dT ss, .box [.ref 3, .v (.slice none 0 0), iA 0], .box [.v (.slice none 0 0), .v (.slice none 0 0), iA 0]] [(1, .ref 0), (2, iA d), (3, .ptr 1 0), (6, .ptr 2 0), (7, iA 0)]; obtain ⟨ρ, G⟩ := G.nil 4 3 (.ints []) 1 [dT ss, .box [.ref 3, .ref 4, iA 0], .box [.v (.slice none 0 0), .v (.slice none 0 0), iA 0], .row 122 (D.instrs [])] [(1, .ref 0), (2, iA d), (3, .ptr 1 0), (6, .ptr 2 0), (7, iA 0)]; refine t6 (κ := Nat) (fun k => k ≤ ss.length) (fun k => ss.length - k) (fun k => [dT ss, .box [.ref 3, .ref 4, iA (l9 (ss.take k) d ([], [], 0)).2.2], .box [.v (.slice none 0 0), .v (.slice none 0 0), iA 0], .row 122 (.instrs (l9 (ss.take k) d ([], [], 0)).1), .row 3 (.ints (l9 (ss.take k) d ([], [], 0)).2.1)]) (fun k => [(1, .ref 0), (2, iA d), (3, .ptr 1 0), (6, .ptr 2 0), (7, iA k)]) 0 (by omega) (s5.at G _ _) ?_; clear G; intro k ρ a w hp G; replace G := s5.at G [dT ss, .box [.ref 3, .ref 4, iA (l9 (bS3 k ss) d ([], [], 0)).snd.snd], aB0, .row 122 (D.instrs (l9 (bS3 k ss) d ([], [], 0)).fst), .row 3 (D.ints (l9 (bS3 k ss) d ([], [], 0)).snd.fst)] [(1, .ref 0), (2, iA d), (3, .ptr 1 0), (6, .ptr 2 0), (7, iA k)]; refine wp_seq (wp_seq (j7 G d8 [(11, bA (decide ((k : Int) < ss.length)))] fun G => b0 (rcD G (fun h0 q0 => ?_) fun h0 q0 => ?_)))
 ·refine wp_exit (t3 (t3 (t2 (b0 (wp_seq (i7 G d8 [0, 2, 3, 4] [dT ss, .box [.ref 2, .ref 3, iA (l9 (bS3 k ss) d ([], [], 0)).snd.snd], .row 122 (D.instrs (l9 (bS3 k ss) d ([], [], 0)).fst), .row 3 (D.ints (l9 (bS3 k ss) d ([], [], 0)).snd.fst)] [(6, .ptr 1 0)] fun G => b0 (wp_ret ?_))))))); exact Q1 (.agg [.ref 2, .ref 3, iA (l9 (bS3 k ss) d ([], [], 0)).snd.snd]) G [0, 2, 3] (by have e1 : ((l9 ss d ([], [], 0)).snd.snd : Int) = ((l9 (bS3 k ss) d ([], [], 0)).snd.snd) := (congrArg (fun x : E8 => x.2.2) (a57 (by omega) _)); (first | rw [e1] | simp only [e1]) <;> rfl) (by show _ = mR [0, 2, 3] [dT ss, .row 122 (D.instrs (l9 ss d ([], [], 0)).fst), .row 3 (D.ints (l9 ss d ([], [], 0)).snd.fst)]; have e1 : ((l9 ss d ([], [], 0)).fst : List c7) = ((l9 (bS3 k ss) d ([], [], 0)).fst) := (congrArg Prod.fst (a57 (by omega) _)); have e2 : ((l9 ss d ([], [], 0)).snd.fst : List Int) = ((l9 (bS3 k ss) d ([], [], 0)).snd.fst) := (congrArg (fun x : E8 => x.2.1) (a57 (by omega) _)); (first | rw [e1, e2] | simp only [e1, e2]) <;> rfl)
 ·refine wp_skip (b0 (wp_seq (wp_block (C8 G (r7 6 [3, 4, 37, 38, 39, 40] (ih (ss.getD k aK4) (aL9 (by omega)) ((l9 (bS3 k ss) d ([], [], 0)).fst) ((l9 (bS3 k ss) d ([], [], 0)).snd.fst) ((l9 (bS3 k ss) d ([], [], 0)).snd.snd) d (bh9 r1 (by omega)) (bu5 rfl) (by assumption) (by assumption) (bi1 (Int.le_refl 0)) (bi0 r6 (by omega)))) [0, 0, 0, 6, 14, 0, 63, 127] [0, 1, 2, 53, 54] [dT ss, .box [.ref 3, .ref 4, iA (L6 (ss.getD k aK4) d (l9 (bS3 k ss) d ([], [], 0))).snd.snd], aB0, .row 122 (D.instrs (L6 (ss.getD k aK4) d (l9 (bS3 k ss) d ([], [], 0))).fst), .row 3 (D.ints (L6 (ss.getD k aK4) d (l9 (bS3 k ss) d ([], [], 0))).snd.fst)] [(1, .ref 0), (2, iA d), (3, .ptr 1 0), (6, .ptr 2 0), (7, iA k)] (iX k k ss.length []) (iK (by omega) bS4) fun G => i8 (b0 (A0 G d8 [(7, iA ((k : Int) + 1))] [wO ((k : Int) + 1)] (o1 (by omega)) fun G => b0 ?_)))))); exact H9 G (k + 1) (by omega) (by omega) (rg 5) (by have e1 : ((l9 (bS3 (k + 1) ss) d ([], [], 0)).snd.snd : Int) = ((L6 (ss.getD k aK4) d (l9 (bS3 k ss) d ([], [], 0))).snd.snd) := (bI4 (by omega)); have e2 : ((l9 (bS3 (k + 1) ss) d ([], [], 0)).fst : List c7) = ((L6 (ss.getD k aK4) d (l9 (bS3 k ss) d ([], [], 0))).fst) := (bI6 (by omega)); have e3 : ((l9 (bS3 (k + 1) ss) d ([], [], 0)).snd.fst : List Int) = ((L6 (ss.getD k aK4) d (l9 (bS3 k ss) d ([], [], 0))).snd.fst) := (bI5 (by omega)); (first | rw [e1, e2, e3] | simp only [e1, e2, e3]) <;> rfl)
theorem aU0 (p : j8) (hp : B5 p = true) (hb : t0 p.body ≤ 1048576) : j5.ok Try.prog ⟨138, [.agg [.v (.slice none 0 0), .v (.slice none 0 0), iA 0], .ref 0, iA 0], [dT p.body], [dT p.body, rN (l9 p.body 0 ([], [], 0)).1, rI (l9 p.body 0 ([], [], 0)).2.1], .agg [.ref 1, .ref 2, iA (l9 p.body 0 ([], [], 0)).2.2]⟩ := by
 simp only [B5, Z8, bR6, decide_eq_true_eq] at hp
 refine aQ1 p.body 95 (fun s hm l fr at0 d q1 q2 q3 q4 q5 q6 => ?_) 0 (by simp only [bS6]; omega) (by omega) (by omega) (by have := aD3 p.body; omega)
 have h := bS2.1 hp.1.2 s hm
 rw [ac9, bR6, bR6] at h
 exact aJ0 _ _ 4 s h.1 h.2.1 h.2.2 (fun tt l fr at0 d h1 h2 h3 h4 h5 h6 h7 => be9 _ _ 4 tt l fr at0 d h1 h2 h3 h4 h5 h6 h7) l fr at0 d q1 q2 q3 (by omega) q5 q6
def an1 (p : j8) : E8 := ((l9 p.body 0 ([], [], 0)).1 ++ [⟨13, 0, 0, 0, 0⟩], (l9 p.body 0 ([], [], 0)).2.1 ++ [-1], (l9 p.body 0 ([], [], 0)).2.2)
def Y9 (p : j8) : Bool := B5 p && decide ((an1 p).1.length ≤ 400)
def j9 (p : j8) : E8 := if Y9 p = true then an1 p else ([], [], 0)
theorem aR7 {p : j8} (h : B5 p = false) : Y9 p = false := by unfold Y9; rw [h]; rfl
theorem bd9 {p : j8} (h : ¬ (an1 p).1.length ≤ 400) : Y9 p = false := by unfold Y9; rw [decide_eq_false h, Bool.and_false]
theorem bd8 {p : j8} (h1 : B5 p = true) (h : (an1 p).1.length ≤ 400) : Y9 p = true := by unfold Y9; rw [decide_eq_true h, h1]; rfl
theorem au0 {p : j8} (h : Y9 p = false) : j9 p = ([], [], 0) := by unfold j9; rw [h]; rfl
theorem bh3 {p : j8} (h : Y9 p = true) : j9 p = an1 p := by unfold j9; rw [h]; rfl
theorem a54 (p : j8) (hb : t0 p.body ≤ 1048576) : (l9 p.body 0 ([], [], 0)).1.length ≤ 5000000 ∧ (l9 p.body 0 ([], [], 0)).2.1.length ≤ 5000000 := by
 have h := G9 p.body 0 ([], [], 0)
 have h1 := K2 p.body
 simp only [bS6] at h
 omega
abbrev ah9 (p : j8) : List It := [dI p.vars, dI p.arrays, dT p.body, .row 122 (D.instrs (j9 p).fst), .row 3 (D.ints (j9 p).snd.fst)]
abbrev aA7 (p : j8) (r0 : List It) : List It := .row 122 (D.instrs ((l9 p.body 0 ([], [], 0)).fst ++ [c7.mk 13 0 0 0 0])) :: .row 3 (D.ints ((l9 p.body 0 ([], [], 0)).snd.fst ++ [-1])) :: r0
theorem aN2 (p : j8) (hb : t0 p.body ≤ 1048576) : j5.ok Try.prog ⟨129, [pA 0], pS p, pS p ++ [rN (j9 p).1, rI (j9 p).2.1], .tup [.agg [.ref 3, .ref 4, iA (j9 p).2.2], bA (Y9 p)]⟩ := by
  refine F5 22 Try.func129 [dI p.vars, dI p.arrays, dT p.body] [(0, pA 0)] fun G => ?_; have hcb := a54 p hb; refine wp_seq (i7 G d8 [0, 1, 2, 3, 11] [dI p.vars, dI p.arrays, dT p.body, .box (pL 0), .box [.v (.slice none 0 0), .v (.slice none 0 0), iA 0]] [(1, .ptr 3 0), (2, .ptr 4 0), (3, bA false)] fun G => b0 (wp_seq (wp_seq (j7 G (r7 1 [0, 1, 2] (Z7 p (by assumption))) [(7, .v (.bool !B5 p))] fun G => b0 ?_)))); cases h0 : (!B5 p)
  ·
   have q0 : (B5 p) = true := (Eq.mp (bV2 _) h0); refine rF G _ h0 (wp_skip (b0 (wp_seq (i7 G (r7 3 [2] (aU0 p (by assumption) (by assumption))) [0, 1, 2, 4, 29, 30, 37] [dI p.vars, dI p.arrays, dT p.body, .box [.v (.slice none 0 0), .v (.slice none 0 0), iA 0], .row 122 (D.instrs (l9 p.body 0 ([], [], 0)).fst), .row 3 (D.ints (l9 p.body 0 ([], [], 0)).snd.fst), .box [.ref 4, .ref 5, iA (l9 p.body 0 ([], [], 0)).snd.snd]] [(2, .ptr 3 0), (3, bA false), (4, .ptr 6 0)] fun G => b0 (wp_seq (i7 G (r7 2 [4, 5] (D0 ((l9 p.body 0 ([], [], 0)).fst) ((l9 p.body 0 ([], [], 0)).snd.fst) ((l9 p.body 0 ([], [], 0)).snd.snd) (-1) 13 0 0 0 0 (by omega) (by omega))) [0, 1, 2, 3, 6, 23, 24] (dI p.vars :: dI p.arrays :: dT p.body :: .box [.v (.slice none 0 0), .v (.slice none 0 0), iA 0] :: .box [.ref 5, .ref 6, iA (l9 p.body 0 ([], [], 0)).snd.snd] :: (aA7 p [])) [(2, .ptr 3 0), (3, bA false), (4, .ptr 4 0)] fun G => b0 (wp_seq (wp_seq (j7 G d8 [(19, bA (decide ((((l9 p.body 0 ([], [], 0)).fst ++ [c7.mk 13 0 0 0 0]).length : Int) > 400)))] fun G => b0 (rcD G (fun h1 q1 => ?_) fun h1 q1 => ?_))))))))))
   · refine wp_skip (b0 (wp_seq (i7 G d8 [0, 1, 2, 3, 5, 6] (dI p.vars :: dI p.arrays :: dT p.body :: .box [.ref 4, .ref 5, iA (l9 p.body 0 ([], [], 0)).snd.snd] :: (aA7 p [])) [(2, .ptr 3 0), (3, bA true)] fun G => b0 (wp_ret ?_)))); exact Q1 (.tup [.agg [.ref 4, .ref 5, iA (l9 p.body 0 ([], [], 0)).snd.snd], bA true]) G [0, 1, 2, 4, 5] (by have e1 : ((j9 p).snd.snd : Int) = ((l9 p.body 0 ([], [], 0)).snd.snd) := (by rw [bh3 (bd8 (by with_reducible assumption) (by simp only [an1]; omega))]; rfl); have e2 : (Y9 p : Bool) = (true) := (bd8 (by with_reducible assumption) (by simp only [an1]; omega)); (first | rw [e1, e2] | simp only [e1, e2]) <;> rfl) (by show _ = mR [0, 1, 2, 4, 5] (ah9 p); unfold ah9; rw [bh3 (bd8 (by with_reducible assumption) (by simp only [an1]; omega))] <;> rfl)
   · refine wp_seq (D6 G d8 [(2, .ptr 3 0), (3, bA false), (4, .ptr 4 0)] fun G => b0 (wp_ret (n8 ?_))); obtain ⟨ρ, G⟩ := G.nil 7 122 (.instrs []) 5 (dI p.vars :: dI p.arrays :: dT p.body :: .box [.ref 7, .v (.slice none 0 0), iA 0] :: .box [.ref 5, .ref 6, iA (l9 p.body 0 ([], [], 0)).snd.snd] :: (aA7 p [])) [(2, .ptr 3 0), (3, bA false), (4, .ptr 4 0)]; obtain ⟨ρ, G⟩ := G.nil 8 3 (.ints []) 1 (dI p.vars :: dI p.arrays :: dT p.body :: .box [.ref 7, .ref 8, iA 0] :: .box [.ref 5, .ref 6, iA (l9 p.body 0 ([], [], 0)).snd.snd] :: (aA7 p [.row 122 (D.instrs [])])) [(2, .ptr 3 0), (3, bA false), (4, .ptr 4 0)]; exact Q1 (.tup [.agg [.ref 7, .ref 8, iA 0], bA false]) G [0, 1, 2, 7, 8] (by have e1 : ((j9 p).snd.snd : Int) = (0) := (by rw [au0 (bd9 (by simp only [an1]; omega))]; done); have e2 : (Y9 p : Bool) = (false) := (bd9 (by simp only [an1]; omega)); (first | rw [e1, e2] | simp only [e1, e2]) <;> rfl) (by show _ = mR [0, 1, 2, 7, 8] (ah9 p); unfold ah9; rw [au0 (bd9 (by simp only [an1]; omega))] <;> rfl)
  · have q0 : (B5 p) = false := (Eq.mp (bT6 _) h0); refine rT G _ h0 (wp_seq (D6 G d8 [(1, .ptr 3 0), (2, .ptr 4 0), (3, bA false)] fun G => b0 (wp_ret (n8 ?_)))); obtain ⟨ρ, G⟩ := G.nil 5 122 (.instrs []) 5 [dI p.vars, dI p.arrays, dT p.body, .box (pL 0), .box [.ref 5, .v (.slice none 0 0), iA 0]] [(1, .ptr 3 0), (2, .ptr 4 0), (3, bA false)]; obtain ⟨ρ, G⟩ := G.nil 6 3 (.ints []) 1 [dI p.vars, dI p.arrays, dT p.body, .box (pL 0), .box [.ref 5, .ref 6, iA 0], .row 122 (D.instrs [])] [(1, .ptr 3 0), (2, .ptr 4 0), (3, bA false)]; exact Q1 (.tup [.agg [.ref 5, .ref 6, iA 0], bA false]) G [0, 1, 2, 5, 6] (by have e1 : ((j9 p).snd.snd : Int) = (0) := (by rw [au0 (aR7 (by with_reducible assumption))]; done); have e2 : (Y9 p : Bool) = (false) := (aR7 (by with_reducible assumption)); (first | rw [e1, e2] | simp only [e1, e2]) <;> rfl) (by show _ = mR [0, 1, 2, 5, 6] (ah9 p); unfold ah9; rw [au0 (aR7 (by with_reducible assumption))] <;> rfl)
def cvP (p : j8) : List Int := if Y9 p = true then p.vars else []
def caP (p : j8) : List Int := if Y9 p = true then p.arrays else []
theorem bH8 {p : j8} (h : Y9 p = true) : cvP p = p.vars := if_pos h
theorem bQ8 {p : j8} (h : Y9 p = false) : cvP p = [] := if_neg (by rw [h]; decide)
theorem bI7 {p : j8} (h : Y9 p = true) : caP p = p.arrays := if_pos h
theorem bR0 {p : j8} (h : Y9 p = false) : caP p = [] := if_neg (by rw [h]; decide)
abbrev aA9 (p : j8) : List It := [dI p.vars, dI p.arrays, dT p.body, .row 3 (D.ints (cvP p)), .row 3 (D.ints (caP p)), .row 122 (D.instrs (j9 p).fst)]
abbrev aA6 (p : j8) (r0 : List It) : List It := .row 122 (D.instrs (j9 p).fst) :: .row 3 (D.ints (j9 p).snd.fst) :: .box [.ref 5, .ref 6, iA (j9 p).snd.snd] :: r0
theorem aj5 (p : j8) (hb : p.size ≤ 1048576) : j5.ok Try.prog ⟨92, [pA 0], pS p, pS p ++ [rI (cvP p), rI (caP p), rN (j9 p).1], .tup [.agg [.ref 3, .ref 4, .ref 5], bA (Y9 p)]⟩ := by
 refine F5 25 Try.func92 [dI p.vars, dI p.arrays, dT p.body] [(0, pA 0)] fun G => ?_
 have hb1 : p.vars.length ≤ 1048576 ∧ p.arrays.length ≤ 1048576 ∧ t0 p.body ≤ 1048576 := by unfold j8.size at hb; omega
 refine wp_seq (i7 G d8 [0, 1, 2, 3, 11] [dI p.vars, dI p.arrays, dT p.body, .box (pL 0), .box [.v (.slice none 0 0), .v (.slice none 0 0), .v (.slice none 0 0)]] [(1, .ptr 3 0), (2, .ptr 4 0), (3, bA false)] fun G => b0 (wp_seq (i7 G (r7 1 [0, 1, 2] (aN2 p (by omega))) [0, 1, 2, 3, 4, 13, 14, 45] (dI p.vars :: dI p.arrays :: dT p.body :: .box (pL 0) :: .box [.v (.slice none 0 0), .v (.slice none 0 0), .v (.slice none 0 0)] :: (aA6 p [])) [(1, .ptr 3 0), (2, .ptr 4 0), (3, bA false), (4, .ptr 7 0), (5, bA (Y9 p))] fun G => b0 (wp_seq (wp_seq (j7 G d8 [(12, .v (.bool !Y9 p))] fun G => b0 ?_)))))); cases h0 : (!Y9 p)
 ·have q0 : (Y9 p) = true := (Eq.mp (bV2 _) h0); refine rF G _ h0 (wp_skip (b0 (wp_seq (C8 G d8 [0, 0, 2, 7, 0, 0, 32, 127, 0, 256, 1023, 2047, 4095] [0, 1, 2, 4, 5, 32, 64] [dI p.vars, dI p.arrays, dT p.body, .box [.ref 5, .ref 6, .ref 4], .row 122 (D.instrs (j9 p).fst), .row 3 (D.ints ([] ++ p.vars)), .row 3 (D.ints ([] ++ p.arrays))] [(2, .ptr 3 0), (3, bA true)] (aP ((0 : Nat) + p.vars.length) 8 (aP ((0 : Nat) + p.arrays.length) 8 [])) (aK (by omega) (aK (by omega) bS4)) fun G => b0 (wp_ret ?_))))); exact Q1 (.tup [.agg [.ref 5, .ref 6, .ref 4], bA true]) G [0, 1, 2, 5, 6, 4] (by have e1 : (Y9 p : Bool) = (true) := (by assumption); (first | rw [e1] | simp only [e1]) <;> rfl) (by show _ = mR [0, 1, 2, 5, 6, 4] (aA9 p); unfold aA9; have e2 : (caP p : List Int) = ([] ++ p.arrays) := (by rw [bI7 (by with_reducible assumption)]; rfl); rw [e2, bH8 (by with_reducible assumption)] <;> rfl)
 ·have q0 : (Y9 p) = false := (Eq.mp (bT6 _) h0); refine rT G _ h0 (wp_seq (D6 G d8 [(1, .ptr 3 0), (2, .ptr 4 0), (3, bA false), (4, .ptr 7 0)] fun G => b0 (wp_ret (n8 ?_)))); obtain ⟨ρ, G⟩ := G.nil 8 3 (.ints []) 1 (dI p.vars :: dI p.arrays :: dT p.body :: .box (pL 0) :: .box [.ref 8, .v (.slice none 0 0), .v (.slice none 0 0)] :: (aA6 p [])) [(1, .ptr 3 0), (2, .ptr 4 0), (3, bA false), (4, .ptr 7 0)]; obtain ⟨ρ, G⟩ := G.nil 9 3 (.ints []) 1 (dI p.vars :: dI p.arrays :: dT p.body :: .box (pL 0) :: .box [.ref 8, .ref 9, .v (.slice none 0 0)] :: (aA6 p [.row 3 (D.ints [])])) [(1, .ptr 3 0), (2, .ptr 4 0), (3, bA false), (4, .ptr 7 0)]; obtain ⟨ρ, G⟩ := G.nil 10 122 (.instrs []) 5 (dI p.vars :: dI p.arrays :: dT p.body :: .box (pL 0) :: .box (pL 8) :: (aA6 p [.row 3 (D.ints []), .row 3 (D.ints [])])) [(1, .ptr 3 0), (2, .ptr 4 0), (3, bA false), (4, .ptr 7 0)]; exact Q1 (.tup [pA 8, bA false]) G [0, 1, 2, 8, 9, 10] (by have e1 : (Y9 p : Bool) = (false) := (by assumption); (first | rw [e1] | simp only [e1]) <;> rfl) (by show _ = mR [0, 1, 2, 8, 9, 10] (aA9 p); unfold aA9; have e2 : (caP p : List Int) = ([]) := (by rw [bR0 (by with_reducible assumption)]; done); have e3 : ((j9 p).fst : List c7) = ([]) := (by rw [au0 (by with_reducible assumption)]; done); rw [e2, e3, bQ8 (by with_reducible assumption)] <;> rfl)
def d9 (b : List UInt8) (j : Int) : d7 × Int := (⟨(n7 b j).vars, (n7 b j).arrays, (clD b (w5 b j).2 (n7 b j).vars.length (n7 b j).arrays.length).1⟩, (clD b (w5 b j).2 (n7 b j).vars.length (n7 b j).arrays.length).2)
theorem bj2 (b : List UInt8) {j : Int} (hj : 0 ≤ j) (hj2 : j ≤ 10000000) : j + 2 ≤ (w5 b j).2 ∧ (w5 b j).2 ≤ j + 150000 := by
 have h1 := bj3 b hj hj2
 have h2 := bf0 b hj hj2
 omega
theorem aD0 (b : List UInt8) (j : Int) : (n7 b j).vars.length ≤ 12 ∧ (n7 b j).arrays.length ≤ 2 ∧ 1 ≤ (n7 b j).vars.length := by
 have h := a88 (bd3 b j)
 have := (a38 (bd3 b j)).2.2.1
 omega
theorem bh8 (b : List UInt8) {j : Int} (hj : 0 ≤ j) (hj2 : j ≤ 10000000) : j + 3 ≤ (d9 b j).2 ∧ (d9 b j).2 ≤ j + 150100 ∧ (d9 b j).1.list.length ≤ 12 ∧ 1 ≤ (d9 b j).1.list.length := by
 have h1 := bj2 b hj hj2
 have h2 := bQ9 b (j := (w5 b j).2) (n7 b j).vars.length (n7 b j).arrays.length (by omega) (by omega)
 have h3 := by4 b (j := (w5 b j).2) (by omega) (by omega)
 have e : (d9 b j).1.list.length = (clD b (w5 b j).2 (n7 b j).vars.length (n7 b j).arrays.length).1.length := rfl
 have e2 : (d9 b j).2 = (clD b (w5 b j).2 (n7 b j).vars.length (n7 b j).arrays.length).2 := rfl
 rw [e, e2]
 omega
section
variable {b : List UInt8} {j : Int}
end
section
variable {ars vs : List Int} {pc : Int} {bd : List c6} {e : c8} {d k : Nat}
end
section
variable {ars vs : List Int} {bd : List c6} {m pc : Int} {t : c6} {nv dd : Nat}
end
section
variable {ars vs : List Int} {bd : List c6} {m pc l : Int} {t : c6} {nv dd : Nat}
end
section
variable {ars vs : List Int} {bd : List c6} {m pc : Int} {ss : List c6} {nv d k : Nat}
end
theorem i6.sel {ι : Type} {φ ψ : Nat → Prop} {w0 w : World} {F : ι → Rs} {ρ : Nat → Value} {S S1 : List It} {js : List Nat} (M : i6 φ ψ w0 w (l0 F ρ (l8 S))) (hn : js.Nodup) (hl : js.length = S1.length) (hS : js.map (l8 S) = S1.map (It.ren (nth js))) : i6 φ ψ w0 w (l0 F (fun i => ρ (nth js i)) (l8 S1)) := by
 refine M.map (fun k : ι ⊕ Nat => (match k with | .inl i => some (.inl i) | .inr i => if i < js.length then some (.inr (nth js i)) else none : Option (ι ⊕ Nat))) ?_ ?_
 ·intro k k' x h1 h2
  match k, k' with
  | .inl i, .inl i' => simp at h1 h2; rw [← h1] at h2; simpa using h2.symm
  | .inl i, .inr j => simp only at h1 h2; cases h1; split at h2 <;> simp at h2
  | .inr j, .inl i => simp only at h1 h2; cases h2; split at h1 <;> simp at h1
  | .inr j, .inr j' =>
   simp at h1 h2
   obtain ⟨f1, f2⟩ := h1
   obtain ⟨g1, g2⟩ := h2
   rw [← f2] at g2
   have hj := Sum.inr.inj g2
   have e1 := bo2 f1
   have e2 := bo2 g1
   rw [E5 e2, E5 e1] at hj
   have := (List.getElem?_inj f1 hn).1 (e1.trans (by rw [← hj]; exact e2.symm))
   rw [this]
 ·intro k
  match k with
  | .inl i => exact .inl ⟨_, rfl, rfl⟩
  | .inr i =>
   by_cases hlt : i < js.length
   ·refine .inl ⟨.inr (nth js i), by simp [hlt], ?_⟩
    have h1 := congrArg (·[i]?) hS
    have hlt' : i < S1.length := by omega
    simp only [List.getElem?_map, bo2 hlt, bo2 hlt', Option.map_some, Option.some.injEq] at h1
    simp only [l0]
    rw [ad4 hlt', E5 (bo2 hlt), h1, ← It.res_ren, E5 (bo2 hlt)]
   ·refine .inr ?_
    simp only [l0]
    rw [s4 (by omega)]
    rfl
theorem j5.twice {P : Program} {f : FuncId} {args : List AV} {pre S : List It} {d : D} {res : AV} {i : Nat} (hc : j5.ok P ⟨f, args, pre, S, res⟩) (S1 : List It) (hi : S[i]? = some (.dat d)) (hl : pre.length ≤ S.length)
  (hS : S.all (fun x => Q6 S.length x.ids) = true) (hg : Q6 S.length res.ids = true) (hl1 : S1.length = S.length + 1) (hd : l8 S1 S.length = .dat d) (h2 : ∀ ρ : Nat → Value, ρ S.length = ρ i → ∀ j, j < S.length → (l8 S1 j).res ρ j = (l8 S j).res ρ j) : j5.ok P ⟨f, args, pre, S1, res⟩ := by
 intro ι φ ψ w0 w F ρ M
 refine (hc ι φ ψ w0 w F ρ M).mono ?_
 rintro x w' ⟨ρ1, h1, rfl, M1⟩
 have hi' : l8 S i = .dat d := by simp [l8, hi]
 have hlt : i < S.length := (bS0.1 hi).1
 have hinv : Inv (l8 S) ρ1 [S.length] := fun ρ' h j => by
  by_cases hj : j < S.length
  ·refine It.res_congr _ (fun k hk => h k ?_) (.inr (.inr (h j (by simp; omega))))
   have h1 := B8 (bS2.1 hS (S[j]) (bS9 hj)) k (by simpa [l8, bR7, bo2 hj] using hk)
   simp; omega
  ·rw [show l8 S j = .none by simp only [l8, bR7, bT2 (Nat.le_of_not_lt hj)]; rfl]; rfl
 obtain ⟨ρ2, h3, M2, h4⟩ := M1.newDat (id := S.length) (by simp [l8]) hinv (M1.datAt hi')
 have hρ : ρ2 i = ρ1 i := h3 i (by simp; omega)
 have e : l0 F ρ2 (l5 (l8 S) [(S.length, .dat d)]) = l0 F ρ2 (l8 S1) := by
  funext k
  cases k with
  | inl q => rfl
  | inr j =>
   simp only [l0, l5]
   by_cases hj : j = S.length
   ·subst hj; rw [if_pos rfl, hd]
   ·rw [if_neg hj]
    by_cases hj2 : j < S.length
    ·exact (h2 ρ2 (by rw [← h4, hρ]) j hj2).symm
    ·rw [s4 (by omega), s4 (by omega)]
 rw [e] at M2
 refine ⟨ρ2, fun k hk => by
  have hk : k < pre.length := hk
  rw [h3 k (by simp; omega)]; exact h1 k hk, ?_, M2⟩
 exact congrArg _ (AV.val_congr res fun k hk => by
  have := B8 hg k hk
  exact h3 k (by simp; omega)).symm
theorem aA0 (c : List UInt8) : j5.ok Try.prog ⟨23, [.ref 0], [dY c], [dY c, .box [.ref 2, iA 0], dY (T6 c)], .ptr 1 0⟩ := by
 by_cases h : c.length ≤ 2000
 ·have e : T6 c = c := bT9 h
  rw [e]
  refine j5.twice (aU7 c h) (i := 0) _ rfl (by show (1 : Nat) ≤ 2; omega) rfl rfl rfl rfl fun ρ hρ j hj => ?_
  have hj : j < 2 := hj
  match j, hj with
  | 0, _ => rfl
  | 1, _ =>
   have hρ : ρ 2 = ρ 0 := hρ
   simp only [l8, bR7, List.getElem?_cons_succ, bV0, Option.getD_some, It.res, AV.vals, AV.val, hρ]
 ·exact aU6 c (by omega)
end Go.Proofs.Ytmokkddidcmglaa
