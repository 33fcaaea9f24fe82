/-
  Texts of this claim, part 6: what the functions on the way do, and plain laws. Conditions: as each statement says.
-/
import Derived.Test.YthikdkjjdeehoaaGreatK5
set_option maxRecDepth 100000
set_option maxHeartbeats 16000000
open Bool renaming and_eq_true → cb3, not_eq_false' → cc4, not_eq_true' → cc3, true_and → cf3
open Inhabited renaming default → cb2
open List renaming all_eq_true → cc2, eq_nil_of_length_eq_zero → cc7, getD_eq_getElem?_getD → cb8, getElem?_append_left → cd6, getElem?_eq_getElem → cb7, getElem_mem → cd7, length_append → cb5, length_cons → cb4, length_nil → cb6, length_replicate → cd8, mem_append → cc9, mem_cons → ce4, mem_cons_of_mem → cd4, mem_cons_self → cd0, mem_singleton → cd1, range → cd9, replicate → ce0, take → cc0, take_of_length_le → cc8
open Nat renaming le_refl → cc6, le_trans → cd3, lt_or_ge → ce7, zero_le → ce8
open True renaming intro → cc1

namespace Go.Proofs.YthikdkjjdeehoaaGreat
set_option linter.unusedVariables false
set_option linter.unusedSimpArgs false
open Go Go.RowKit
abbrev stO (s : b6) : List It := [.tree (.exprs s.index.kids), .tree (.exprs s.value.kids), .tree (.stmts s.body), .tree (.stmts s.els)]
abbrev stA (s : b6) (r : Nat) : AV := .agg [iA s.kind, iA s.target, iA s.index.kind, iA s.index.value, .tref r, iA s.value.kind, iA s.value.value, .tref (r + 1), iA s.count, .tref (r + 2), .tref (r + 3)]
abbrev dsC (b : List UInt8) (vs ars : List Int) (bd : List b6) (d : Nat) (j n : Int) : i9 := ⟨224, [.ptr 0 0, pA 2, iA n], dwS b j vs ars bd, dwS b (B4 b vs.length ars.length d j).2 vs ars bd ++ stO (B4 b vs.length ars.length d j).1, stA (B4 b vs.length ars.length d j).1 5⟩
abbrev dbC (b : List UInt8) (vs ars : List Int) (bd : List b6) (d : Nat) (m : Nat) (j n c : Int) : i9 := ⟨183, [.ptr 0 0, pA 2, iA n, iA c], dwS b j vs ars bd, dwS b (G0 (B4 b vs.length ars.length d) m j).2 vs ars bd ++ [.tree (.stmts (G0 (B4 b vs.length ars.length d) m j).1)], .tref 5⟩
section
variable {b : List UInt8} {nv na d : Nat} {j : Int}
theorem bw3 (h : nm b j K0 = 2) (h1 : 0 < (na : Int)) : B4 b nv na d j = soS b nv na (j + 1) := by
 cases d <;> (rw [B4, if_pos ⟨h, by omega⟩])
theorem b04 (h : nm b j K0 = 3) (h1 : 0 < d) : B4 b nv na (d + 1) j = ifS b nv na (B4 b nv na d) (j + 1) := by
 rw [B4, if_neg (by omega), if_pos ⟨h, by omega⟩]
theorem b03 (h : nm b j K0 = 4) (h1 : 0 < d) : B4 b nv na (d + 1) j = rpS b (B4 b nv na d) (j + 1) := by
 rw [B4, if_neg (by omega), if_neg (by omega), if_pos ⟨h, by omega⟩]
theorem ah4 (h : ¬ (nm b j K0 = 2 ∧ 0 < (na : Int))) (h1 : d < 2 ∨ (¬ nm b j K0 = 3 ∧ ¬ nm b j K0 = 4)) : B4 b nv na d j = dfS b nv na (nm b j K0) (j + 1) := by
 match d, h1 with
 | 0, _ => rw [B4, if_neg (by omega)]
 | d + 1, h1 => rw [B4, if_neg (by omega), if_neg (by omega), if_neg (by omega)]
theorem bX6 {kd : Int} (h : kd = 5) : dfS b nv na kd j = (⟨5, pk b j nv, noE, (t7 b nv na (j + 1)).1, 0, [], []⟩, (t7 b nv na (j + 1)).2) := by rw [dfS, if_pos h]
theorem a67 {kd : Int} (h : ¬ kd = 5) : dfS b nv na kd j = (⟨1, pk b j nv, noE, (t7 b nv na (j + 1)).1, 0, [], []⟩, (t7 b nv na (j + 1)).2) := by rw [dfS, if_neg h]
end
section
variable (b : List UInt8) {j : Int}
theorem ca6 (r0 : 0 ≤ j) (r1 : j ≤ 1000000000) : 0 ≤ nm b j ibL ∧ nm b j ibL ≤ 2 := aQ1 b (by simp) be3 r0 r1
theorem ca5 (r0 : 0 ≤ j) (r1 : j ≤ 1000000000) : 0 ≤ nm b j ieL ∧ nm b j ieL ≤ 2 := aQ1 b (by simp) be1 r0 r1
theorem b79 (r0 : 0 ≤ j) (r1 : j ≤ 1000000000) : 0 ≤ nm b j rbL ∧ nm b j rbL ≤ 2 := aQ1 b (by simp) bc3 r0 r1
theorem bO3 (d : Nat) : (d = 0 ∧ cS (d - 1) = 402 ∧ cS d ≤ 2010) ∨ cS d = 402 + 4 * cS (d - 1) := by
 cases d with
 | zero => exact .inl ⟨rfl, rfl, by decide⟩
 | succ d => exact .inr rfl
end
section
variable {b : List UInt8} {nv na d : Nat} {j : Int}
theorem bb1 (h : nm b j K0 = 3) (h1 : 1 < d) : B4 b nv na d j = ifS b nv na (B4 b nv na (d - 1)) (j + 1) := by
 match d, h1 with
 | d + 1, h1 => exact b04 h (by omega)
theorem bb0 (h : nm b j K0 = 4) (h1 : 1 < d) : B4 b nv na d j = rpS b (B4 b nv na (d - 1)) (j + 1) := by
 match d, h1 with
 | d + 1, h1 => exact b03 h (by omega)
end
abbrev bP2 (b : List UInt8) (vs : List Int) (ars : List Int) (d : Nat) (j : Int) (k : Nat) := B4 b vs.length ars.length d (G0 (B4 b vs.length ars.length d) k j).snd
abbrev a03 (n : Int) (c : Int) (r0 : List (Nat × AV)) : List (Nat × AV) := (0, .ptr 0 0) :: (2, iA n) :: (3, iA c) :: (5, .ptr 5 0) :: (8, .v (.slice none 0 0)) :: r0
theorem bJ2 (b : List UInt8) (vs ars : List Int) (bd : List b6) (d m : Nat) (ih : ∀ (j n : Int), n = d → 0 ≤ j → j + cS d ≤ 600000000 → i9.ok Tryz.prog (dsC b vs ars bd d j n)) (j n c : Int) (hn : n = d) (hm : c = m) (hm2 : m ≤ 4) (B : Int) (hB : (m : Int) * cS d ≤ B) (r0 : 0 ≤ j) (r1 : j + B ≤ 600000000) : i9.ok Tryz.prog (dbC b vs ars bd d m j n c) := by
 refine z7 25 Tryz.func183 [.box [.ref 1, iA j], dY b, dI vs, dI ars, dT bd] [(0, .ptr 0 0), (1, pA 2), (2, iA n), (3, iA c)] fun G => ?_; have hc := aA7 d; refine wp_seq (k8 G d9 (rg 6) [.box [.ref 1, iA j], dY b, dI vs, dI ars, dT bd, .box (pL 2)] (a03 n c []) fun G => b7 (wp_seq (k8 G d9 (rg 7) [.box [.ref 1, iA j], dY b, dI vs, dI ars, dT bd, .box (pL 2), .tree (D.stmts [])] (a03 n c [(9, .tref 6)]) fun G => b7 (wp_seq (wp_seq (C9 G d9 (a03 n c [(9, .tref 6), (10, iA 0)]) fun G => b7 (wp_block ?_))))))); refine o7 (κ := Nat) (fun k => k ≤ m) (fun k => m - k) (fun k => [.box [.ref 1, iA (G0 (B4 b vs.length ars.length d) k j).2], dY b, dI vs, dI ars, dT bd, .box (pL 2), .tree (.stmts (G0 (B4 b vs.length ars.length d) k j).1)]) (fun k => [(0, .ptr 0 0), (2, iA n), (3, iA c), (5, .ptr 5 0), (8, .v (.slice none 0 0)), (9, .tref 6), (10, iA k)]) 0 (by omega) (s0.at G _ _) ?_; clear G; intro k ρ a w hp G; replace G := s0.at G [.box [.ref 1, iA (G0 (B4 b vs.length ars.length d) k j).snd], dY b, dI vs, dI ars, dT bd, .box (pL 2), .tree (D.stmts (G0 (B4 b vs.length ars.length d) k j).fst)] (a03 n c [(9, .tref 6), (10, iA k)]); have hkb := bS8 b vs.length ars.length (k := j) (i := k) hB (by omega) r0 (by omega); have hkl : (G0 (B4 b vs.length ars.length d) k j).1.length = k := aY9 _ _ _; refine wp_seq (wp_seq (l0 G d9 [(14, bA (decide ((k : Int) < c)))] fun G => b7 (N4 G (fun h0 q0 => ?_) fun h0 q0 => ?_)))
 ·refine wp_exit (o0 (o0 (n5 (b7 (wp_seq (k8 G d9 [0, 1, 2, 3, 4, 6] [.box [.ref 1, iA (G0 (B4 b vs.length ars.length d) k j).snd], dY b, dI vs, dI ars, dT bd, .tree (D.stmts (G0 (B4 b vs.length ars.length d) k j).fst)] [(8, .tref 5)] fun G => b7 (wp_ret ?_))))))); exact F6 G (rg 6) (by show _ = mR (rg 6) [.box [.ref 1, iA (G0 (B4 b vs.length ars.length d) m j).snd], dY b, dI vs, dI ars, dT bd, .tree (D.stmts (G0 (B4 b vs.length ars.length d) m j).fst)]; rw [show m = k by omega] <;> rfl)
 ·refine wp_skip (b7 (wp_seq (wp_block (N5 G (s4 4 (rg 5) (ih ((G0 (B4 b vs.length ars.length d) k j).snd) n (by assumption) (by have := bo0 b vs.length ars.length (k := j) (i := k) hB (by omega) r0 (by omega); omega) (by have := bo0 b vs.length ars.length (k := j) (i := k) hB (by omega) r0 (by omega); omega))) [0, 1, 2, 3, 4, 5, 55] [.box [.ref 1, iA (bP2 b vs ars d j k).snd], dY b, dI vs, dI ars, dT bd, .box (pL 2), .tree (D.stmts ((G0 (B4 b vs.length ars.length d) k j).fst ++ [qzS (bP2 b vs ars d j k).fst]))] (a03 n c [(9, .tref 6), (10, iA k)]) (aP ((G0 (B4 b vs.length ars.length d) k j).fst.length + 1) 152 []) (aK (by omega) cc1) fun G => m6 (b7 (D7 G d9 [(10, iA ((k : Int) + 1))] [wO ((k : Int) + 1)] (o1 (by omega)) fun G => b7 ?_)))))); exact M7 G (k + 1) (by have := bo0 b vs.length ars.length (k := j) (i := k) hB (by omega) r0 (by omega); omega) (by have := bo0 b vs.length ars.length (k := j) (i := k) hB (by omega) r0 (by omega); omega) (rg 7) (by have e1 : ((G0 (B4 b vs.length ars.length d) (k + 1) j).fst : List b6) = ((G0 (B4 b vs.length ars.length d) k j).fst ++ [qzS (B4 b vs.length ars.length d (G0 (B4 b vs.length ars.length d) k j).snd).fst]) := (by show _ ++ [_] = _ ++ [_]; unfold qzS; rw [b5.eta, b5.eta, b6.eta]; done); (first | rw [e1] | simp only [e1]) <;> rfl)
abbrev aP0 (b : List UInt8) (vs : List Int) (ars : List Int) (d : Nat) (j : Int) := G0 (B4 b vs.length ars.length (d - 1)) (nm b (t7 b vs.length ars.length (j + 1)).snd ibL).toNat ((t7 b vs.length ars.length (j + 1)).snd + 1)
abbrev bi4 (b : List UInt8) (vs : List Int) (ars : List Int) (d : Nat) (j : Int) := G0 (B4 b vs.length ars.length (d - 1)) (nm b (aP0 b vs ars d j).snd ieL).toNat ((aP0 b vs ars d j).snd + 1)
abbrev T1 (b : List UInt8) (vs : List Int) (ars : List Int) (d : Nat) (j : Int) : AV := (.agg [iA (B4 b vs.length ars.length d j).fst.kind, iA (B4 b vs.length ars.length d j).fst.target, iA (B4 b vs.length ars.length d j).fst.index.kind, iA (B4 b vs.length ars.length d j).fst.index.value, .tref 5, iA (B4 b vs.length ars.length d j).fst.value.kind, iA (B4 b vs.length ars.length d j).fst.value.value, .tref 6, iA (B4 b vs.length ars.length d j).fst.count, .tref 7, .tref 8])
abbrev T0 (b : List UInt8) (vs : List Int) (ars : List Int) (bd : List b6) (d : Nat) (j : Int) : List It := [.box [.ref 1, iA (B4 b vs.length ars.length d j).snd], dY b, dI vs, dI ars, dT bd, .tree (D.exprs (B4 b vs.length ars.length d j).fst.index.kids), .tree (D.exprs (B4 b vs.length ars.length d j).fst.value.kids), .tree (D.stmts (B4 b vs.length ars.length d j).fst.body), .tree (D.stmts (B4 b vs.length ars.length d j).fst.els)]
abbrev as2 : It := .box [iA 0, iA 0, iA 0, iA 0, .v (.slice none 0 0), iA 0, iA 0, .v (.slice none 0 0), iA 0, .v (.slice none 0 0), .v (.slice none 0 0)]
abbrev bi3 (b : List UInt8) (vs : List Int) (ars : List Int) (j : Int) : It := .box [iA 1, iA (pk b (j + 1) (vs.length : Int)), iA 0, iA 0, .v (.slice none 0 0), iA (t7 b vs.length ars.length (j + 1 + 1)).fst.kind, iA (t7 b vs.length ars.length (j + 1 + 1)).fst.value, .tref 7, iA 0, .v (.slice none 0 0), .v (.slice none 0 0)]
abbrev bi2 (b : List UInt8) (vs : List Int) (ars : List Int) (j : Int) : It := .box [iA 1, iA (pk b (j + 1) (vs.length : Int)), iA 0, iA 0, .v (.slice none 0 0), iA (t7 b vs.length ars.length (j + 1 + 1)).fst.kind, iA (t7 b vs.length ars.length (j + 1 + 1)).fst.value, .tref 6, iA 0, .v (.slice none 0 0), .v (.slice none 0 0)]
abbrev bi1 (b : List UInt8) (vs : List Int) (j : Int) : It := .box [iA 1, iA (pk b (j + 1) (vs.length : Int)), iA 0, iA 0, .v (.slice none 0 0), iA 0, iA 0, .v (.slice none 0 0), iA 0, .v (.slice none 0 0), .v (.slice none 0 0)]
abbrev an0 (b : List UInt8) (vs : List Int) (ars : List Int) (j : Int) : It := .tree (D.exprs (t7 b vs.length ars.length (j + 1 + 1)).fst.kids)
abbrev Z5 (b : List UInt8) (vs : List Int) (ars : List Int) (j : Int) : It := .box [.ref 1, iA (t7 b vs.length ars.length (j + 1 + 1)).snd]
abbrev aT5 : It := .box [iA 1, iA 0, iA 0, iA 0, .v (.slice none 0 0), iA 0, iA 0, .v (.slice none 0 0), iA 0, .v (.slice none 0 0), .v (.slice none 0 0)]
abbrev bh2 (b : List UInt8) (vs : List Int) (ars : List Int) (bd : List b6) (j : Int) (r0 : List It) : List It := .box [.ref 1, iA (t7 b vs.length ars.length (j + 1 + 1)).snd] :: dY b :: dI vs :: dI ars :: dT bd :: .box [iA 1, iA (pk b (j + 1) (vs.length : Int)), iA 0, iA 0, .tref 7, iA (t7 b vs.length ars.length (j + 1 + 1)).fst.kind, iA (t7 b vs.length ars.length (j + 1 + 1)).fst.value, .tref 6, iA 0, .tref 8, .tref 9] :: .tree (D.exprs (t7 b vs.length ars.length (j + 1 + 1)).fst.kids) :: .tree (D.exprs []) :: .tree (D.stmts []) :: r0
abbrev bh1 (b : List UInt8) (vs : List Int) (ars : List Int) (bd : List b6) (j : Int) (r0 : List It) : List It := .box [.ref 1, iA (t7 b vs.length ars.length (j + 1 + 1)).snd] :: dY b :: dI vs :: dI ars :: dT bd :: .box [iA 1, iA (pk b (j + 1) (vs.length : Int)), iA 0, iA 0, .tref 7, iA (t7 b vs.length ars.length (j + 1 + 1)).fst.kind, iA (t7 b vs.length ars.length (j + 1 + 1)).fst.value, .tref 6, iA 0, .tref 8, .v (.slice none 0 0)] :: .tree (D.exprs (t7 b vs.length ars.length (j + 1 + 1)).fst.kids) :: .tree (D.exprs []) :: r0
abbrev bh0 (b : List UInt8) (vs : List Int) (ars : List Int) (bd : List b6) (j : Int) (r0 : List It) : List It := .box [.ref 1, iA (t7 b vs.length ars.length (j + 1 + 1)).snd] :: dY b :: dI vs :: dI ars :: dT bd :: .box [iA 1, iA (pk b (j + 1) (vs.length : Int)), iA 0, iA 0, .tref 7, iA (t7 b vs.length ars.length (j + 1 + 1)).fst.kind, iA (t7 b vs.length ars.length (j + 1 + 1)).fst.value, .tref 6, iA 0, .v (.slice none 0 0), .v (.slice none 0 0)] :: .tree (D.exprs (t7 b vs.length ars.length (j + 1 + 1)).fst.kids) :: r0
abbrev Y0 (r0 : List (Nat × AV)) : List (Nat × AV) := (0, .ptr 0 0) :: (4, .ptr 5 0) :: (6, .ptr 6 0) :: (8, .ptr 7 0) :: r0
abbrev a02 (b : List UInt8) (vs : List Int) (ars : List Int) (d : Nat) (j : Int) (r0 : List It) : List It := .box [.ref 1, iA (G0 (B4 b vs.length ars.length (d - 1)) (nm b (j + 1 + 1) rbL).toNat (j + 1 + 1 + 1)).snd] :: dY b :: dI vs :: dI ars :: r0
abbrev ar6 (n : Int) (r0 : List (Nat × AV)) : List (Nat × AV) := (0, .ptr 0 0) :: (2, iA n) :: (4, .ptr 5 0) :: (6, .ptr 6 0) :: r0
abbrev R0 (b : List UInt8) (vs : List Int) (ars : List Int) (bd : List b6) (r0 : List It) : List It := dY b :: dI vs :: dI ars :: dT bd :: .box (pL 2) :: as2 :: r0
abbrev bg9 (b : List UInt8) (vs : List Int) (ars : List Int) (j : Int) (r0 : List It) : List It := .tree (D.exprs (o5 b (vs.length : Int) (j + 1 + 1)).kids) :: .tree (D.exprs (t7 b vs.length ars.length (j + 1 + 1 + 2)).fst.kids) :: r0
theorem bw9 (b : List UInt8) (vs ars : List Int) (bd : List b6) (d : Nat) (hd : d ≤ 3) (ih : ∀ (j n c : Int), 1 < d → n = (d : Int) - 1 → 0 ≤ c → c ≤ 2 → 0 ≤ j → j + 2 * cS (d - 1) ≤ 600000000 → i9.ok Tryz.prog (dbC b vs ars bd (d - 1) c.toNat j n c)) (j n : Int) (hn : n = d) (r0 : 0 ≤ j) (r1 : j + cS d ≤ 600000000) : i9.ok Tryz.prog (dsC b vs ars bd d j n) := by
  refine z7 100 Tryz.func224 [.box [.ref 1, iA j], dY b, dI vs, dI ars, dT bd] [(0, .ptr 0 0), (1, pA 2), (2, iA n)] fun G => ?_; have hc := aA7 (d - 1); have hcd := bO3 d; have hcn := aA7 d; have hsm := bj4 b vs.length ars.length (k := j + 1) (by omega) (by omega); have hib := ca6 b (j := (t7 b vs.length ars.length (j + 1)).2) (by omega) (by omega); have hbb := bS8 b vs.length ars.length (k := (t7 b vs.length ars.length (j + 1)).2 + 1) (i := (nm b (t7 b vs.length ars.length (j + 1)).2 ibL).toNat) (b29 hib.1 hib.2 (show 0 ≤ cS (d - 1) by omega)) (cc6 _) (by omega) (by omega); have hie := ca5 b (j := (G0 (B4 b vs.length ars.length (d - 1)) (nm b (t7 b vs.length ars.length (j + 1)).2 ibL).toNat ((t7 b vs.length ars.length (j + 1)).2 + 1)).2) (by omega) (by omega); have hrb := b79 b (j := j + 1 + 1) (by omega) (by omega); refine wp_seq (k8 G d9 [0, 1, 2, 3, 4, 5, 13] (.box [.ref 1, iA j] :: (R0 b vs ars bd [])) (ar6 n []) fun G => b7 (wp_seq (k8 G (s4 2 [0, 1, 15] (i9.lend (O9 b j K0 (List.cons_ne_nil _ _) (by assumption) (by omega)) [.no, .no, .row 3])) (rg 7) (.box [.ref 1, iA (j + 1)] :: (R0 b vs ars bd [])) (ar6 n [(7, iA (nm b j K0))]) fun G => b7 (wp_seq (k8 G d9 [0, 1, 2, 3, 4, 5, 6, 23] (.box [.ref 1, iA (j + 1)] :: (R0 b vs ars bd [.box [iA (nm b j K0), iA 0, iA 0, iA 0, .v (.slice none 0 0), iA 0, iA 0, .v (.slice none 0 0), iA 0, .v (.slice none 0 0), .v (.slice none 0 0)]])) (ar6 n [(7, iA (nm b j K0)), (8, .ptr 7 0)]) fun G => b7 (wp_seq (wp_block (wp_seq ?_)))))))); cases h0 : (nm b j K0 == 2)
  ·
   have q0 := ne_of_beq_false h0; refine l0 G (O5 (fc h0 fz) (us [(3, 6, 0), (1007, 1007, 0)])) [(27, bA false)] fun G => b7 (rF G false (by kernel_rfl) (wp_seq ?_)); cases h1 : (nm b j K0 == 3)
   ·
    have q1 := ne_of_beq_false h1; refine l0 G (O5 (fc h1 fz) [(3, 0), (4, 0), (1005, 0)]) [(50, bA false)] fun G => b7 (rF G false (by kernel_rfl) (wp_seq ?_)); cases h2 : (nm b j K0 == 4)
    ·
     have q2 := ne_of_beq_false h2; refine l0 G (O5 (fc h2 fz) [(3, 0), (4, 0), (1005, 0)]) [(79, bA false)] fun G => b7 (rF G false (by kernel_rfl) (wp_seq (wp_seq (l0 G d9 [(15, bA (nm b j K0 != 5))] fun G => b7 (rcN G (fun h3 q3 => ?_) fun h3 q3 => ?_)))))
     · refine wp_skip (b7 (wp_seq (k8 G (s4 4 [0, 1] (L8 b (j + 1) ((vs.length : Int)) (by omega) (by omega))) (rg 8) (.box [.ref 1, iA (j + 1 + 1)] :: (R0 b vs ars bd [.box [iA (nm b j K0), iA (pk b (j + 1) (vs.length : Int)), iA 0, iA 0, .v (.slice none 0 0), iA 0, iA 0, .v (.slice none 0 0), iA 0, .v (.slice none 0 0), .v (.slice none 0 0)]])) (Y0 []) fun G => b7 (k8 G (s4 2 (rg 5) (ae6 b vs ars bd (j + 1 + 1) (by omega) (by omega))) [0, 1, 2, 3, 4, 6, 7, 24] [Z5 b vs ars j, dY b, dI vs, dI ars, dT bd, as2, .box [iA (nm b j K0), iA (pk b (j + 1) (vs.length : Int)), iA 0, iA 0, .v (.slice none 0 0), iA (t7 b vs.length ars.length (j + 1 + 1)).fst.kind, iA (t7 b vs.length ars.length (j + 1 + 1)).fst.value, .tref 7, iA 0, .v (.slice none 0 0), .v (.slice none 0 0)], an0 b vs ars j] [(6, .ptr 5 0), (8, .ptr 6 0)] fun G => m6 (b7 (wp_seq (k8 G d9 [0, 1, 2, 3, 4, 5, 7] [Z5 b vs ars j, dY b, dI vs, dI ars, dT bd, .box [iA (nm b j K0), iA (pk b (j + 1) (vs.length : Int)), iA 0, iA 0, .v (.slice none 0 0), iA (t7 b vs.length ars.length (j + 1 + 1)).fst.kind, iA (t7 b vs.length ars.length (j + 1 + 1)).fst.value, .tref 6, iA 0, .v (.slice none 0 0), .v (.slice none 0 0)], an0 b vs ars j] [(6, .ptr 5 0)] fun G => b7 (wp_ret ?_)))))))); obtain ⟨ρ, G⟩ := G.nilT 7 (.exprs []) [.box [.ref 1, iA (t7 b vs.length ars.length (j + 1 + 1)).snd], dY b, dI vs, dI ars, dT bd, .box [iA (nm b j K0), iA (pk b (j + 1) (vs.length : Int)), iA 0, iA 0, .tref 7, iA (t7 b vs.length ars.length (j + 1 + 1)).fst.kind, iA (t7 b vs.length ars.length (j + 1 + 1)).fst.value, .tref 6, iA 0, .v (.slice none 0 0), .v (.slice none 0 0)], .tree (D.exprs (t7 b vs.length ars.length (j + 1 + 1)).fst.kids)] [(6, .ptr 5 0)]; obtain ⟨ρ, G⟩ := G.nilT 8 (.stmts []) [.box [.ref 1, iA (t7 b vs.length ars.length (j + 1 + 1)).snd], dY b, dI vs, dI ars, dT bd, .box [iA (nm b j K0), iA (pk b (j + 1) (vs.length : Int)), iA 0, iA 0, .tref 7, iA (t7 b vs.length ars.length (j + 1 + 1)).fst.kind, iA (t7 b vs.length ars.length (j + 1 + 1)).fst.value, .tref 6, iA 0, .tref 8, .v (.slice none 0 0)], .tree (D.exprs (t7 b vs.length ars.length (j + 1 + 1)).fst.kids), .tree (D.exprs [])] [(6, .ptr 5 0)]; obtain ⟨ρ, G⟩ := G.nilT 9 (.stmts []) [.box [.ref 1, iA (t7 b vs.length ars.length (j + 1 + 1)).snd], dY b, dI vs, dI ars, dT bd, .box [iA (nm b j K0), iA (pk b (j + 1) (vs.length : Int)), iA 0, iA 0, .tref 7, iA (t7 b vs.length ars.length (j + 1 + 1)).fst.kind, iA (t7 b vs.length ars.length (j + 1 + 1)).fst.value, .tref 6, iA 0, .tref 8, .tref 9], .tree (D.exprs (t7 b vs.length ars.length (j + 1 + 1)).fst.kids), .tree (D.exprs []), .tree (D.stmts [])] [(6, .ptr 5 0)]; exact W2 (.agg [iA (nm b j K0), iA (pk b (j + 1) (vs.length : Int)), iA 0, iA 0, .tref 7, iA (t7 b vs.length ars.length (j + 1 + 1)).fst.kind, iA (t7 b vs.length ars.length (j + 1 + 1)).fst.value, .tref 6, iA 0, .tref 8, .tref 9]) G [0, 1, 2, 3, 4, 7, 6, 8, 9] (by show _ = AV.ren (nth [0, 1, 2, 3, 4, 7, 6, 8, 9]) (T1 b vs ars d j); unfold T1; have e1 : ((B4 b vs.length ars.length d j).fst.kind : Int) = (nm b j K0) := (by rw [ah4 (by omega) (by omega), bX6 (by omega)]; show (5 : Int) = _; omega); rw [e1, ah4 (by omega) (by omega), bX6 (by omega)] <;> rfl) (by show _ = mR [0, 1, 2, 3, 4, 7, 6, 8, 9] (T0 b vs ars bd d j); unfold T0; rw [ah4 (by omega) (by omega), bX6 (by omega)] <;> rfl)
     · refine k8 G d9 (rg 8) (.box [.ref 1, iA (j + 1)] :: (R0 b vs ars bd [aT5])) (Y0 []) fun G => b7 (wp_seq (k8 G (s4 4 [0, 1] (L8 b (j + 1) ((vs.length : Int)) (by omega) (by omega))) (rg 8) (.box [.ref 1, iA (j + 1 + 1)] :: (R0 b vs ars bd [bi1 b vs j])) (Y0 []) fun G => b7 (k8 G (s4 2 (rg 5) (ae6 b vs ars bd (j + 1 + 1) (by omega) (by omega))) [0, 1, 2, 3, 4, 6, 7, 24] [Z5 b vs ars j, dY b, dI vs, dI ars, dT bd, as2, bi3 b vs ars j, an0 b vs ars j] [(6, .ptr 5 0), (8, .ptr 6 0)] fun G => m6 (b7 (wp_seq (k8 G d9 [0, 1, 2, 3, 4, 5, 7] [Z5 b vs ars j, dY b, dI vs, dI ars, dT bd, bi2 b vs ars j, an0 b vs ars j] [(6, .ptr 5 0)] fun G => b7 (wp_ret ?_))))))); obtain ⟨ρ, G⟩ := G.nilT 7 (.exprs []) (bh0 b vs ars bd j []) [(6, .ptr 5 0)]; obtain ⟨ρ, G⟩ := G.nilT 8 (.stmts []) (bh1 b vs ars bd j []) [(6, .ptr 5 0)]; obtain ⟨ρ, G⟩ := G.nilT 9 (.stmts []) (bh2 b vs ars bd j []) [(6, .ptr 5 0)]; exact W2 (.agg [iA 1, iA (pk b (j + 1) (vs.length : Int)), iA 0, iA 0, .tref 7, iA (t7 b vs.length ars.length (j + 1 + 1)).fst.kind, iA (t7 b vs.length ars.length (j + 1 + 1)).fst.value, .tref 6, iA 0, .tref 8, .tref 9]) G [0, 1, 2, 3, 4, 7, 6, 8, 9] (by show _ = AV.ren (nth [0, 1, 2, 3, 4, 7, 6, 8, 9]) (T1 b vs ars d j); unfold T1; rw [ah4 (by omega) (by omega), a67 (by omega)] <;> rfl) (by show _ = mR [0, 1, 2, 3, 4, 7, 6, 8, 9] (T0 b vs ars bd d j); unfold T0; rw [ah4 (by omega) (by omega), a67 (by omega)] <;> rfl)
    ·
     have q2 := eq_of_beq h2; refine l0 G (O5 (fc h2 fz) [(3, 0), (4, 0), (1005, 0)]) [(79, bA (decide (n > 1)))] fun G => b7 (N4 G (fun h4 q4 => ?_) fun h4 q4 => ?_)
     ·
      refine wp_seq (wp_seq (C9 G d9 (Y0 [(15, bA (nm b j K0 != 5))]) fun G => b7 ?_)); cases h5 : (nm b j K0 != 5)
      · have q5 := bne_eq_false_iff_eq.1 h5; exact False.elim (by omega)
      · have q5 := bne_iff_ne.1 h5; refine rT G _ h5 (k8 G d9 (rg 8) (.box [.ref 1, iA (j + 1)] :: (R0 b vs ars bd [aT5])) (Y0 []) fun G => b7 (wp_seq (k8 G (s4 4 [0, 1] (L8 b (j + 1) ((vs.length : Int)) (by omega) (by omega))) (rg 8) (.box [.ref 1, iA (j + 1 + 1)] :: (R0 b vs ars bd [bi1 b vs j])) (Y0 []) fun G => b7 (k8 G (s4 2 (rg 5) (ae6 b vs ars bd (j + 1 + 1) (by omega) (by omega))) [0, 1, 2, 3, 4, 6, 7, 24] [Z5 b vs ars j, dY b, dI vs, dI ars, dT bd, as2, bi3 b vs ars j, an0 b vs ars j] [(6, .ptr 5 0), (8, .ptr 6 0)] fun G => m6 (b7 (wp_seq (k8 G d9 [0, 1, 2, 3, 4, 5, 7] [Z5 b vs ars j, dY b, dI vs, dI ars, dT bd, bi2 b vs ars j, an0 b vs ars j] [(6, .ptr 5 0)] fun G => b7 (wp_ret ?_)))))))); obtain ⟨ρ, G⟩ := G.nilT 7 (.exprs []) (bh0 b vs ars bd j []) [(6, .ptr 5 0)]; obtain ⟨ρ, G⟩ := G.nilT 8 (.stmts []) (bh1 b vs ars bd j []) [(6, .ptr 5 0)]; obtain ⟨ρ, G⟩ := G.nilT 9 (.stmts []) (bh2 b vs ars bd j []) [(6, .ptr 5 0)]; exact W2 (.agg [iA 1, iA (pk b (j + 1) (vs.length : Int)), iA 0, iA 0, .tref 7, iA (t7 b vs.length ars.length (j + 1 + 1)).fst.kind, iA (t7 b vs.length ars.length (j + 1 + 1)).fst.value, .tref 6, iA 0, .tref 8, .tref 9]) G [0, 1, 2, 3, 4, 7, 6, 8, 9] (by show _ = AV.ren (nth [0, 1, 2, 3, 4, 7, 6, 8, 9]) (T1 b vs ars d j); unfold T1; rw [ah4 (by omega) (by omega), a67 (by omega)] <;> rfl) (by show _ = mR [0, 1, 2, 3, 4, 7, 6, 8, 9] (T0 b vs ars bd d j); unfold T0; rw [ah4 (by omega) (by omega), a67 (by omega)] <;> rfl)
     · refine wp_seq (k8 G (s4 2 [0, 1, 16] (i9.lend (O9 b (j + 1) rcL (by simp [h0, h1, h2, h4]) (by omega) (by omega)) [.no, .no, .row 3])) (rg 8) (.box [.ref 1, iA (j + 1 + 1)] :: (R0 b vs ars bd [.box [iA (nm b j K0), iA 0, iA 0, iA 0, .v (.slice none 0 0), iA 0, iA 0, .v (.slice none 0 0), iA (nm b (j + 1) rcL), .v (.slice none 0 0), .v (.slice none 0 0)]])) (ar6 n [(8, .ptr 7 0)]) fun G => b7 (F7 G (t4 (l8 6 [0, 1, 48] (i9.lend (O9 b (j + 1 + 1) rbL (by simp [h0, h1, h2, h4]) (by omega) (by omega)) [.no, .no, .row 3]) (l8 7 (rg 5) (ih (j + 1 + 1 + 1) (n - 1) (nm b (j + 1 + 1) rbL) (by omega) (by omega) (by omega) (by omega) (by omega) (by omega)) t3)) fz []) [0, 0, 0, 4, 0, 0, 48, 127, 255, 511] [0, 1, 2, 3, 4, 6, 7, 64] (a02 b vs ars d j [dT bd, as2, .box [iA (nm b j K0), iA 0, iA 0, iA 0, .v (.slice none 0 0), iA 0, iA 0, .v (.slice none 0 0), iA (nm b (j + 1) rcL), .tref 7, .v (.slice none 0 0)], .tree (D.stmts (G0 (B4 b vs.length ars.length (d - 1)) (nm b (j + 1 + 1) rbL).toNat (j + 1 + 1 + 1)).fst)]) [(6, .ptr 5 0), (8, .ptr 6 0)] [wO (n - 1)] (o1 (by omega)) fun G => m6 (b7 (wp_seq (k8 G d9 [0, 1, 2, 3, 4, 5, 7] (a02 b vs ars d j [dT bd, .box [iA (nm b j K0), iA 0, iA 0, iA 0, .v (.slice none 0 0), iA 0, iA 0, .v (.slice none 0 0), iA (nm b (j + 1) rcL), .tref 6, .v (.slice none 0 0)], .tree (D.stmts (G0 (B4 b vs.length ars.length (d - 1)) (nm b (j + 1 + 1) rbL).toNat (j + 1 + 1 + 1)).fst)]) [(6, .ptr 5 0)] fun G => b7 (wp_ret ?_)))))); obtain ⟨ρ, G⟩ := G.nilT 7 (.exprs []) (a02 b vs ars d j [dT bd, .box [iA (nm b j K0), iA 0, iA 0, iA 0, .tref 7, iA 0, iA 0, .v (.slice none 0 0), iA (nm b (j + 1) rcL), .tref 6, .v (.slice none 0 0)], .tree (D.stmts (G0 (B4 b vs.length ars.length (d - 1)) (nm b (j + 1 + 1) rbL).toNat (j + 1 + 1 + 1)).fst)]) [(6, .ptr 5 0)]; obtain ⟨ρ, G⟩ := G.nilT 8 (.exprs []) (a02 b vs ars d j [dT bd, .box [iA (nm b j K0), iA 0, iA 0, iA 0, .tref 7, iA 0, iA 0, .tref 8, iA (nm b (j + 1) rcL), .tref 6, .v (.slice none 0 0)], .tree (D.stmts (G0 (B4 b vs.length ars.length (d - 1)) (nm b (j + 1 + 1) rbL).toNat (j + 1 + 1 + 1)).fst), .tree (D.exprs [])]) [(6, .ptr 5 0)]; obtain ⟨ρ, G⟩ := G.nilT 9 (.stmts []) (a02 b vs ars d j [dT bd, .box [iA (nm b j K0), iA 0, iA 0, iA 0, .tref 7, iA 0, iA 0, .tref 8, iA (nm b (j + 1) rcL), .tref 6, .tref 9], .tree (D.stmts (G0 (B4 b vs.length ars.length (d - 1)) (nm b (j + 1 + 1) rbL).toNat (j + 1 + 1 + 1)).fst), .tree (D.exprs []), .tree (D.exprs [])]) [(6, .ptr 5 0)]; exact W2 (.agg [iA (nm b j K0), iA 0, iA 0, iA 0, .tref 7, iA 0, iA 0, .tref 8, iA (nm b (j + 1) rcL), .tref 6, .tref 9]) G [0, 1, 2, 3, 4, 7, 8, 6, 9] (by show _ = AV.ren (nth [0, 1, 2, 3, 4, 7, 8, 6, 9]) (T1 b vs ars d j); unfold T1; have e1 : ((B4 b vs.length ars.length d j).fst.kind : Int) = (nm b j K0) := (by rw [bb0 (by omega) (by omega)]; show (4 : Int) = _; omega); rw [e1, bb0 (by omega) (by omega)] <;> rfl) (by show _ = mR [0, 1, 2, 3, 4, 7, 8, 6, 9] (T0 b vs ars bd d j); unfold T0; rw [bb0 (by omega) (by omega)] <;> rfl)
   ·
    have q1 := eq_of_beq h1; refine C9 G (O5 (fc h1 fz) [(3, 0), (4, 0), (1005, 0)]) (ar6 n [(7, iA (nm b j K0)), (8, .ptr 7 0), (50, bA (decide (n > 1)))]) fun G => b7 (N4 G (fun h6 q6 => ?_) fun h6 q6 => ?_)
    ·
     refine wp_seq ?_; cases h7 : (nm b j K0 == 4)
     ·
      have q7 := ne_of_beq_false h7; refine l0 G (O5 (fc h7 fz) [(3, 0), (4, 0), (1005, 0)]) [(79, bA false)] fun G => b7 (rF G false (by kernel_rfl) (wp_seq (wp_seq (C9 G d9 (Y0 [(15, bA (nm b j K0 != 5))]) fun G => b7 ?_)))); cases h8 : (nm b j K0 != 5)
      · have q8 := bne_eq_false_iff_eq.1 h8; exact False.elim (by omega)
      · have q8 := bne_iff_ne.1 h8; refine rT G _ h8 (k8 G d9 (rg 8) (.box [.ref 1, iA (j + 1)] :: (R0 b vs ars bd [aT5])) (Y0 []) fun G => b7 (wp_seq (k8 G (s4 4 [0, 1] (L8 b (j + 1) ((vs.length : Int)) (by omega) (by omega))) (rg 8) (.box [.ref 1, iA (j + 1 + 1)] :: (R0 b vs ars bd [bi1 b vs j])) (Y0 []) fun G => b7 (k8 G (s4 2 (rg 5) (ae6 b vs ars bd (j + 1 + 1) (by omega) (by omega))) [0, 1, 2, 3, 4, 6, 7, 24] [Z5 b vs ars j, dY b, dI vs, dI ars, dT bd, as2, bi3 b vs ars j, an0 b vs ars j] [(6, .ptr 5 0), (8, .ptr 6 0)] fun G => m6 (b7 (wp_seq (k8 G d9 [0, 1, 2, 3, 4, 5, 7] [Z5 b vs ars j, dY b, dI vs, dI ars, dT bd, bi2 b vs ars j, an0 b vs ars j] [(6, .ptr 5 0)] fun G => b7 (wp_ret ?_)))))))); obtain ⟨ρ, G⟩ := G.nilT 7 (.exprs []) (bh0 b vs ars bd j []) [(6, .ptr 5 0)]; obtain ⟨ρ, G⟩ := G.nilT 8 (.stmts []) (bh1 b vs ars bd j []) [(6, .ptr 5 0)]; obtain ⟨ρ, G⟩ := G.nilT 9 (.stmts []) (bh2 b vs ars bd j []) [(6, .ptr 5 0)]; exact W2 (.agg [iA 1, iA (pk b (j + 1) (vs.length : Int)), iA 0, iA 0, .tref 7, iA (t7 b vs.length ars.length (j + 1 + 1)).fst.kind, iA (t7 b vs.length ars.length (j + 1 + 1)).fst.value, .tref 6, iA 0, .tref 8, .tref 9]) G [0, 1, 2, 3, 4, 7, 6, 8, 9] (by show _ = AV.ren (nth [0, 1, 2, 3, 4, 7, 6, 8, 9]) (T1 b vs ars d j); unfold T1; rw [ah4 (by omega) (by omega), a67 (by omega)] <;> rfl) (by show _ = mR [0, 1, 2, 3, 4, 7, 6, 8, 9] (T0 b vs ars bd d j); unfold T0; rw [ah4 (by omega) (by omega), a67 (by omega)] <;> rfl)
     · have q7 := eq_of_beq h7; exact False.elim (by omega)
    ·
     refine wp_seq (k8 G (s4 2 (rg 5) (ae6 b vs ars bd (j + 1) (by omega) (by omega))) [0, 1, 2, 3, 4, 5, 6, 7, 24] (.box [.ref 1, iA (t7 b vs.length ars.length (j + 1)).snd] :: (R0 b vs ars bd [.box [iA (nm b j K0), iA 0, iA 0, iA 0, .v (.slice none 0 0), iA (t7 b vs.length ars.length (j + 1)).fst.kind, iA (t7 b vs.length ars.length (j + 1)).fst.value, .tref 8, iA 0, .v (.slice none 0 0), .v (.slice none 0 0)], .tree (D.exprs (t7 b vs.length ars.length (j + 1)).fst.kids)])) (ar6 n [(8, .ptr 7 0)]) fun G => b7 (wp_seq (F7 G (t4 (l8 6 [0, 1, 49] (i9.lend (O9 b ((t7 b vs.length ars.length (j + 1)).snd) ibL (by simp [h0, h1, h6]) (by omega) (by omega)) [.no, .no, .row 3]) (l8 7 (rg 5) (ih ((t7 b vs.length ars.length (j + 1)).snd + 1) (n - 1) (nm b (t7 b vs.length ars.length (j + 1)).snd ibL) (by omega) (by omega) (by omega) (by omega) (by omega) (by omega)) t3)) fz []) [0, 0, 0, 4, 0, 0, 48, 127, 255, 511] [0, 1, 2, 3, 4, 5, 6, 7, 8, 65] (.box [.ref 1, iA (aP0 b vs ars d j).snd] :: (R0 b vs ars bd [.box [iA (nm b j K0), iA 0, iA 0, iA 0, .v (.slice none 0 0), iA (t7 b vs.length ars.length (j + 1)).fst.kind, iA (t7 b vs.length ars.length (j + 1)).fst.value, .tref 8, iA 0, .tref 9, .v (.slice none 0 0)], .tree (D.exprs (t7 b vs.length ars.length (j + 1)).fst.kids), .tree (D.stmts (aP0 b vs ars d j).fst)])) (ar6 n [(8, .ptr 7 0)]) [wO (n - 1)] (o1 (by omega)) fun G => b7 (F7 G (t4 (l8 6 [0, 1, 50] (i9.lend (O9 b ((G0 (B4 b vs.length ars.length (d - 1)) (nm b (t7 b vs.length ars.length (j + 1)).snd ibL).toNat ((t7 b vs.length ars.length (j + 1)).snd + 1)).snd) ieL (by simp [h0, h1, h6]) (by omega) (by omega)) [.no, .no, .row 3]) (l8 7 (rg 5) (ih ((G0 (B4 b vs.length ars.length (d - 1)) (nm b (t7 b vs.length ars.length (j + 1)).snd ibL).toNat ((t7 b vs.length ars.length (j + 1)).snd + 1)).snd + 1) (n - 1) (nm b (G0 (B4 b vs.length ars.length (d - 1)) (nm b (t7 b vs.length ars.length (j + 1)).snd ibL).toNat ((t7 b vs.length ars.length (j + 1)).snd + 1)).snd ieL) (by omega) (by omega) (by omega) (by omega) (by omega) (by omega)) t3)) fz []) [0, 0, 0, 4, 0, 0, 48, 127, 255, 511] [0, 1, 2, 3, 4, 6, 7, 8, 9, 66] [.box [.ref 1, iA (bi4 b vs ars d j).snd], dY b, dI vs, dI ars, dT bd, as2, .box [iA (nm b j K0), iA 0, iA 0, iA 0, .v (.slice none 0 0), iA (t7 b vs.length ars.length (j + 1)).fst.kind, iA (t7 b vs.length ars.length (j + 1)).fst.value, .tref 7, iA 0, .tref 8, .tref 9], .tree (D.exprs (t7 b vs.length ars.length (j + 1)).fst.kids), .tree (D.stmts (aP0 b vs ars d j).fst), .tree (D.stmts (bi4 b vs ars d j).fst)] [(6, .ptr 5 0), (8, .ptr 6 0)] [wO (n - 1)] (o1 (by omega)) fun G => m6 (b7 (wp_seq (k8 G d9 [0, 1, 2, 3, 4, 5, 7, 8, 9] [.box [.ref 1, iA (bi4 b vs ars d j).snd], dY b, dI vs, dI ars, dT bd, .box [iA (nm b j K0), iA 0, iA 0, iA 0, .v (.slice none 0 0), iA (t7 b vs.length ars.length (j + 1)).fst.kind, iA (t7 b vs.length ars.length (j + 1)).fst.value, .tref 6, iA 0, .tref 7, .tref 8], .tree (D.exprs (t7 b vs.length ars.length (j + 1)).fst.kids), .tree (D.stmts (aP0 b vs ars d j).fst), .tree (D.stmts (bi4 b vs ars d j).fst)] [(6, .ptr 5 0)] fun G => b7 (wp_ret ?_)))))))); obtain ⟨ρ, G⟩ := G.nilT 9 (.exprs []) [.box [.ref 1, iA (G0 (B4 b vs.length ars.length (d - 1)) (nm b (G0 (B4 b vs.length ars.length (d - 1)) (nm b (t7 b vs.length ars.length (j + 1)).snd ibL).toNat ((t7 b vs.length ars.length (j + 1)).snd + 1)).snd ieL).toNat ((G0 (B4 b vs.length ars.length (d - 1)) (nm b (t7 b vs.length ars.length (j + 1)).snd ibL).toNat ((t7 b vs.length ars.length (j + 1)).snd + 1)).snd + 1)).snd], dY b, dI vs, dI ars, dT bd, .box [iA (nm b j K0), iA 0, iA 0, iA 0, .tref 9, iA (t7 b vs.length ars.length (j + 1)).fst.kind, iA (t7 b vs.length ars.length (j + 1)).fst.value, .tref 6, iA 0, .tref 7, .tref 8], .tree (D.exprs (t7 b vs.length ars.length (j + 1)).fst.kids), .tree (D.stmts (G0 (B4 b vs.length ars.length (d - 1)) (nm b (t7 b vs.length ars.length (j + 1)).snd ibL).toNat ((t7 b vs.length ars.length (j + 1)).snd + 1)).fst), .tree (D.stmts (G0 (B4 b vs.length ars.length (d - 1)) (nm b (G0 (B4 b vs.length ars.length (d - 1)) (nm b (t7 b vs.length ars.length (j + 1)).snd ibL).toNat ((t7 b vs.length ars.length (j + 1)).snd + 1)).snd ieL).toNat ((G0 (B4 b vs.length ars.length (d - 1)) (nm b (t7 b vs.length ars.length (j + 1)).snd ibL).toNat ((t7 b vs.length ars.length (j + 1)).snd + 1)).snd + 1)).fst)] [(6, .ptr 5 0)]
     exact W2 (.agg [iA (nm b j K0), iA 0, iA 0, iA 0, .tref 9, iA (t7 b vs.length ars.length (j + 1)).fst.kind, iA (t7 b vs.length ars.length (j + 1)).fst.value, .tref 6, iA 0, .tref 7, .tref 8]) G [0, 1, 2, 3, 4, 9, 6, 7, 8] (by show _ = AV.ren (nth [0, 1, 2, 3, 4, 9, 6, 7, 8]) (T1 b vs ars d j); unfold T1; have e1 : ((B4 b vs.length ars.length d j).fst.kind : Int) = (nm b j K0) := (by rw [bb1 (by omega) (by omega)]; show (3 : Int) = _; omega); rw [e1, bb1 (by omega) (by omega)] <;> rfl) (by show _ = mR [0, 1, 2, 3, 4, 9, 6, 7, 8] (T0 b vs ars bd d j); unfold T0; rw [bb1 (by omega) (by omega)] <;> rfl)
  ·
   have q0 := eq_of_beq h0; refine C9 G (O5 (fc h0 fz) (us [(3, 6, 0), (1007, 1007, 0)])) (ar6 n [(7, iA (nm b j K0)), (8, .ptr 7 0), (27, bA (decide ((ars.length : Int) > 0)))]) fun G => b7 (N4 G (fun h9 q9 => ?_) fun h9 q9 => ?_)
   ·
    refine wp_seq ?_; cases h10 : (nm b j K0 == 3)
    ·
     have q10 := ne_of_beq_false h10; refine C9 G (O5 (fc h10 fz) [(3, 0), (4, 0), (1005, 0)]) (ar6 n [(7, iA (nm b j K0)), (8, .ptr 7 0), (50, bA false)]) fun G => b7 (rF G false (by kernel_rfl) (wp_seq ?_)); cases h11 : (nm b j K0 == 4)
     ·
      have q11 := ne_of_beq_false h11; refine l0 G (O5 (fc h11 fz) [(3, 0), (4, 0), (1005, 0)]) [(79, bA false)] fun G => b7 (rF G false (by kernel_rfl) (wp_seq (wp_seq (C9 G d9 (Y0 [(15, bA (nm b j K0 != 5))]) fun G => b7 ?_)))); cases h12 : (nm b j K0 != 5)
      · have q12 := bne_eq_false_iff_eq.1 h12; exact False.elim (by omega)
      · have q12 := bne_iff_ne.1 h12; refine rT G _ h12 (k8 G d9 (rg 8) (.box [.ref 1, iA (j + 1)] :: (R0 b vs ars bd [aT5])) (Y0 []) fun G => b7 (wp_seq (k8 G (s4 4 [0, 1] (L8 b (j + 1) ((vs.length : Int)) (by omega) (by omega))) (rg 8) (.box [.ref 1, iA (j + 1 + 1)] :: (R0 b vs ars bd [bi1 b vs j])) (Y0 []) fun G => b7 (k8 G (s4 2 (rg 5) (ae6 b vs ars bd (j + 1 + 1) (by omega) (by omega))) [0, 1, 2, 3, 4, 6, 7, 24] [Z5 b vs ars j, dY b, dI vs, dI ars, dT bd, as2, bi3 b vs ars j, an0 b vs ars j] [(6, .ptr 5 0), (8, .ptr 6 0)] fun G => m6 (b7 (wp_seq (k8 G d9 [0, 1, 2, 3, 4, 5, 7] [Z5 b vs ars j, dY b, dI vs, dI ars, dT bd, bi2 b vs ars j, an0 b vs ars j] [(6, .ptr 5 0)] fun G => b7 (wp_ret ?_)))))))); obtain ⟨ρ, G⟩ := G.nilT 7 (.exprs []) (bh0 b vs ars bd j []) [(6, .ptr 5 0)]; obtain ⟨ρ, G⟩ := G.nilT 8 (.stmts []) (bh1 b vs ars bd j []) [(6, .ptr 5 0)]; obtain ⟨ρ, G⟩ := G.nilT 9 (.stmts []) (bh2 b vs ars bd j []) [(6, .ptr 5 0)]; exact W2 (.agg [iA 1, iA (pk b (j + 1) (vs.length : Int)), iA 0, iA 0, .tref 7, iA (t7 b vs.length ars.length (j + 1 + 1)).fst.kind, iA (t7 b vs.length ars.length (j + 1 + 1)).fst.value, .tref 6, iA 0, .tref 8, .tref 9]) G [0, 1, 2, 3, 4, 7, 6, 8, 9] (by show _ = AV.ren (nth [0, 1, 2, 3, 4, 7, 6, 8, 9]) (T1 b vs ars d j); unfold T1; rw [ah4 (by omega) (by omega), a67 (by omega)] <;> rfl) (by show _ = mR [0, 1, 2, 3, 4, 7, 6, 8, 9] (T0 b vs ars bd d j); unfold T0; rw [ah4 (by omega) (by omega), a67 (by omega)] <;> rfl)
     · have q11 := eq_of_beq h11; exact False.elim (by omega)
    · have q10 := eq_of_beq h10; exact False.elim (by omega)
   ·
    refine wp_seq (k8 G (s4 4 [0, 1] (L8 b (j + 1) ((ars.length : Int)) (by omega) (by omega))) (rg 8) (.box [.ref 1, iA (j + 1 + 1)] :: (R0 b vs ars bd [.box [iA (nm b j K0), iA (pk b (j + 1) (ars.length : Int)), iA 0, iA 0, .v (.slice none 0 0), iA 0, iA 0, .v (.slice none 0 0), iA 0, .v (.slice none 0 0), .v (.slice none 0 0)]])) (Y0 []) fun G => b7 (wp_seq (k8 G (s4 2 (rg 5) (ay9 b (j + 1 + 1) vs ars bd (by omega) (by omega))) [0, 1, 2, 3, 4, 5, 6, 7, 24] (.box [.ref 1, iA (j + 1 + 1 + 2)] :: (R0 b vs ars bd [.box [iA (nm b j K0), iA (pk b (j + 1) (ars.length : Int)), iA (o5 b (vs.length : Int) (j + 1 + 1)).kind, iA (o5 b (vs.length : Int) (j + 1 + 1)).value, .tref 8, iA 0, iA 0, .v (.slice none 0 0), iA 0, .v (.slice none 0 0), .v (.slice none 0 0)], .tree (D.exprs (o5 b (vs.length : Int) (j + 1 + 1)).kids)])) (Y0 []) fun G => b7 (k8 G (s4 2 (rg 5) (ae6 b vs ars bd (j + 1 + 1 + 2) (by omega) (by omega))) [0, 1, 2, 3, 4, 6, 7, 8, 25] (.box [.ref 1, iA (t7 b vs.length ars.length (j + 1 + 1 + 2)).snd] :: dY b :: dI vs :: dI ars :: dT bd :: as2 :: .box [iA (nm b j K0), iA (pk b (j + 1) (ars.length : Int)), iA (o5 b (vs.length : Int) (j + 1 + 1)).kind, iA (o5 b (vs.length : Int) (j + 1 + 1)).value, .tref 7, iA (t7 b vs.length ars.length (j + 1 + 1 + 2)).fst.kind, iA (t7 b vs.length ars.length (j + 1 + 1 + 2)).fst.value, .tref 8, iA 0, .v (.slice none 0 0), .v (.slice none 0 0)] :: (bg9 b vs ars j [])) [(6, .ptr 5 0), (8, .ptr 6 0)] fun G => m6 (b7 (wp_seq (k8 G d9 [0, 1, 2, 3, 4, 5, 7, 8] (.box [.ref 1, iA (t7 b vs.length ars.length (j + 1 + 1 + 2)).snd] :: dY b :: dI vs :: dI ars :: dT bd :: .box [iA (nm b j K0), iA (pk b (j + 1) (ars.length : Int)), iA (o5 b (vs.length : Int) (j + 1 + 1)).kind, iA (o5 b (vs.length : Int) (j + 1 + 1)).value, .tref 6, iA (t7 b vs.length ars.length (j + 1 + 1 + 2)).fst.kind, iA (t7 b vs.length ars.length (j + 1 + 1 + 2)).fst.value, .tref 7, iA 0, .v (.slice none 0 0), .v (.slice none 0 0)] :: (bg9 b vs ars j [])) [(6, .ptr 5 0)] fun G => b7 (wp_ret ?_)))))))); obtain ⟨ρ, G⟩ := G.nilT 8 (.stmts []) (.box [.ref 1, iA (t7 b vs.length ars.length (j + 1 + 1 + 2)).snd] :: dY b :: dI vs :: dI ars :: dT bd :: .box [iA (nm b j K0), iA (pk b (j + 1) (ars.length : Int)), iA (o5 b (vs.length : Int) (j + 1 + 1)).kind, iA (o5 b (vs.length : Int) (j + 1 + 1)).value, .tref 6, iA (t7 b vs.length ars.length (j + 1 + 1 + 2)).fst.kind, iA (t7 b vs.length ars.length (j + 1 + 1 + 2)).fst.value, .tref 7, iA 0, .tref 8, .v (.slice none 0 0)] :: (bg9 b vs ars j [])) [(6, .ptr 5 0)]; obtain ⟨ρ, G⟩ := G.nilT 9 (.stmts []) (.box [.ref 1, iA (t7 b vs.length ars.length (j + 1 + 1 + 2)).snd] :: dY b :: dI vs :: dI ars :: dT bd :: .box [iA (nm b j K0), iA (pk b (j + 1) (ars.length : Int)), iA (o5 b (vs.length : Int) (j + 1 + 1)).kind, iA (o5 b (vs.length : Int) (j + 1 + 1)).value, .tref 6, iA (t7 b vs.length ars.length (j + 1 + 1 + 2)).fst.kind, iA (t7 b vs.length ars.length (j + 1 + 1 + 2)).fst.value, .tref 7, iA 0, .tref 8, .tref 9] :: (bg9 b vs ars j [.tree (D.stmts [])])) [(6, .ptr 5 0)]
    exact W2 (.agg [iA (nm b j K0), iA (pk b (j + 1) (ars.length : Int)), iA (o5 b (vs.length : Int) (j + 1 + 1)).kind, iA (o5 b (vs.length : Int) (j + 1 + 1)).value, .tref 6, iA (t7 b vs.length ars.length (j + 1 + 1 + 2)).fst.kind, iA (t7 b vs.length ars.length (j + 1 + 1 + 2)).fst.value, .tref 7, iA 0, .tref 8, .tref 9]) G [0, 1, 2, 3, 4, 6, 7, 8, 9] (by show _ = AV.ren (nth [0, 1, 2, 3, 4, 6, 7, 8, 9]) (T1 b vs ars d j); unfold T1; have e1 : ((B4 b vs.length ars.length d j).fst.kind : Int) = (nm b j K0) := (by rw [bw3 (by omega) (by omega)]; show (2 : Int) = _; omega); rw [e1, bw3 (by omega) (by omega)] <;> rfl) (by show _ = mR [0, 1, 2, 3, 4, 6, 7, 8, 9] (T0 b vs ars bd d j); unfold T0; rw [bw3 (by omega) (by omega)] <;> rfl)
theorem a83 (b : List UInt8) (vs ars : List Int) (bd : List b6) (d : Nat) (h : ∀ (j n : Int), n = d → 0 ≤ j → j + cS d ≤ 600000000 → i9.ok Tryz.prog (dsC b vs ars bd d j n)) (m : Nat) (j n c B : Int) (hn : n = d) (hm : c = m) (hm2 : m ≤ 4) (hB : (m : Int) * cS d ≤ B) (r0 : 0 ≤ j) (r1 : j + B ≤ 600000000) : i9.ok Tryz.prog (dbC b vs ars bd d m j n c) :=
 bJ2 b vs ars bd d m h j n c hn hm hm2 B hB r0 r1
theorem bF1 (b : List UInt8) (vs ars : List Int) (bd : List b6) : ∀ (d : Nat), d ≤ 3 → ∀ (j n : Int), n = d → 0 ≤ j → j + cS d ≤ 600000000 → i9.ok Tryz.prog (dsC b vs ars bd d j n)
 | 0, hd, j, n, hn, r0, r1 => bw9 b vs ars bd 0 (by omega) (fun j n c h => absurd h (by omega)) j n hn r0 r1
 | d + 1, hd, j, n, hn, r0, r1 => bw9 b vs ars bd (d + 1) hd (fun j n c h hn h0 h2 r0 r1 => a83 b vs ars bd d (bF1 b vs ars bd d (by omega)) c.toNat j n c (2 * cS d) (by omega) (by omega) (by omega) (b29 h0 h2 (Int.le_trans (by decide) (aA7 d))) r0 (by simpa using r1)) j n hn r0 r1
theorem b65 : cS 3 = 34170 := by decide
theorem bY5 (b : List UInt8) (vs ars : List Int) (bd : List b6) (j n c : Int) (hn : n = 3) (h0 : 0 ≤ c) (h4 : c ≤ 4) (r0 : 0 ≤ j) (r1 : j ≤ 100000000) : i9.ok Tryz.prog (dbC b vs ars bd 3 c.toNat j n c) :=
 a83 b vs ars bd 3 (bF1 b vs ars bd 3 (by omega)) c.toNat j n c (4 * cS 3) (by omega) (by omega) (by omega) (b87 h0 h4 (by rw [b65]; decide)) r0 (by rw [b65]; omega)
abbrev pgC (b : List UInt8) (j : Int) : i9 := ⟨123, [.ptr 0 0], [.box [.ref 1, iA j], dY b], [.box [.ref 1, iA (bdD b j).2], dY b] ++ oP (pgD b j), oA 2⟩
theorem bk7 {b : List UInt8} {l : List Int} {n i p : Int} (h : i > 0) (h2 : i ≤ n) : nsD b l (n - (i - 1)).toNat p = nsD b l (n - i).toNat p ++ [nm b (p + (n - i)) l] := by
 rw [show (n - (i - 1)).toNat = (n - i).toNat + 1 by omega, bA2, show (((n - i).toNat : Nat) : Int) = n - i by omega]
theorem bk6 {b : List UInt8} {l : List Int} {n p : Int} : nsD b l (n - n).toNat p = [] := by rw [Int.sub_self]; rfl
theorem af6 (vs ars : List Int) (bd : List b6) (hb : i5 bd ≤ 1048576) : i9.ok Tryz.prog (E1 62 [pA 0] [dI vs, dI ars, dT bd] (bA (l5 ⟨vs, ars, bd⟩))) := X6 ⟨vs, ars, bd⟩ hb
theorem b86 {b : List UInt8} {j : Int} (h : l5 ⟨vsD b j, asD b j, (G0 (B4 b (vsD b j).length (asD b j).length 3) (nm b (kp2 b j) nbL).toNat (kp2 b j + 1)).1⟩ = true) : pgD b j = ⟨vsD b j, asD b j, (bdD b j).1⟩ := if_pos h
theorem b85 {b : List UInt8} {j : Int} (h : l5 ⟨vsD b j, asD b j, (G0 (B4 b (vsD b j).length (asD b j).length 3) (nm b (kp2 b j) nbL).toNat (kp2 b j + 1)).1⟩ = false) : pgD b j = fbP := if_neg (by intro h2; have h3 : l5 ⟨vsD b j, asD b j, (G0 (B4 b (vsD b j).length (asD b j).length 3) (nm b (kp2 b j) nbL).toNat (kp2 b j + 1)).1⟩ = true := h2; rw [h] at h3; cases h3)
theorem b22 (b : List UInt8) (j : Int) : j + 1 + (nm b j nvL - 0) = H3 b j := by unfold H3; omega
theorem b21 (b : List UInt8) (j : Int) : nsD b viL (nm b j nvL - 0).toNat (j + 1) = vsD b j := by unfold vsD; rw [Int.sub_zero]
theorem b20 (b : List UInt8) (j : Int) : H3 b j + 1 + (nm b (H3 b j) naL - 0) = kp2 b j := by unfold kp2; omega
theorem b19 (b : List UInt8) (j : Int) : nsD b aiL (nm b (H3 b j) naL - 0).toNat (H3 b j + 1) = asD b j := by unfold asD; rw [Int.sub_zero]
abbrev az6 (b : List UInt8) (j : Int) := G0 (B4 b (vsD b j).length (asD b j).length 3) (nm b (kp2 b j) nbL).toNat (kp2 b j + 1)
abbrev bi0 (b : List UInt8) (j : Int) : List It := [.box [.ref 1, iA (bdD b j).snd], dY b, .row 3 (D.ints (pgD b j).vars), .row 3 (D.ints (pgD b j).arrays), .tree (D.stmts (pgD b j).body)]
abbrev R1 : It := .box [.v (.slice none 0 0), .v (.slice none 0 0), .v (.slice none 0 0)]
abbrev a08 : It := .box [.ref 4, .v (.slice none 0 0), .v (.slice none 0 0)]
abbrev bu4 : It := .tree (D.stmts [b6.mk 1 1 (b5.mk 0 0 []) (b5.mk 2 0 []) 0 [] []])
theorem a76 (b : List UInt8) (j : Int) (r0 : 0 ≤ j) (r1 : j ≤ 10000000) : i9.ok Tryz.prog (pgC b j) := by
  refine z7 52 Tryz.func123 [.box [.ref 1, iA j], dY b] [(0, .ptr 0 0)] fun G => ?_; have hnv := bV3 b r0 (by omega); have hk1 := bC0 b r0 r1; have hk2 := bl8 b r0 r1; have hna := bV6 b (k := H3 b j) (by omega) (by omega); have hnb := b28 b (k := kp2 b j) (by omega) (by omega); have hvl := bv1 b r0 r1; have hal := bH3 b r0 r1; have hbd := bo1 b r0 r1; have hbs : i5 (G0 (B4 b (vsD b j).length (asD b j).length 3) (nm b (kp2 b j) nbL).toNat (kp2 b j + 1)).1 ≤ 1048576 := cd3 hbd.2.2 (by omega); refine wp_seq (k8 G d9 [0, 1, 2] [.box [.ref 1, iA j], dY b, R1] [(0, .ptr 0 0), (2, .ptr 2 0)] fun G => b7 (wp_seq (k8 G d9 [0, 1, 2, 11] [.box [.ref 1, iA j], dY b, R1, R1] [(0, .ptr 0 0), (2, .ptr 2 0), (3, .ptr 3 0)] fun G => b7 (wp_seq (wp_seq (k8 G (s4 2 [0, 1, 12] (i9.lend (O9 b j nvL (List.cons_ne_nil _ _) (by assumption) (by omega)) [.no, .no, .row 3])) (rg 4) [.box [.ref 1, iA (j + 1)], dY b, R1, R1] [(0, .ptr 0 0), (2, .ptr 2 0), (3, .ptr 3 0), (4, iA (nm b j nvL))] fun G => b7 (wp_block ?_))))))); have Gx := G.nil 4 3 (.ints []) 1 [.box [.ref 1, iA (j + 1)], dY b, R1, a08] [(0, .ptr 0 0), (2, .ptr 2 0), (3, .ptr 3 0), (4, iA (nm b j nvL))]; clear G; obtain ⟨ρ, G⟩ := Gx; replace G := s0.at G [.box [.ref 1, iA (j + 1)], dY b, R1, a08, .row 3 (D.ints [])] [(0, .ptr 0 0), (2, .ptr 2 0), (3, .ptr 3 0), (4, iA (nm b j nvL))]; replace G := G.as [.box [.ref 1, iA (j + 1 + (nm b j nvL - nm b j nvL))], dY b, .box [.v (.slice none 0 0), .v (.slice none 0 0), .v (.slice none 0 0)], .box [.ref 4, .v (.slice none 0 0), .v (.slice none 0 0)], .row 3 (D.ints (nsD b viL (nm b j nvL - nm b j nvL).toNat (j + 1)))] [(0, .ptr 0 0), (2, .ptr 2 0), (3, .ptr 3 0), (4, iA (nm b j nvL))] (by have e1 : (j + 1 + (nm b j nvL - nm b j nvL) : Int) = (j + 1) := (by omega); have e2 : (nsD b viL (nm b j nvL - nm b j nvL).toNat (j + 1) : List Int) = ([]) := bk6; (first | rw [e1, e2] | simp only [e1, e2]) <;> rfl) (by kernel_rfl); refine o7 (κ := Int) (fun i => 0 ≤ i ∧ i ≤ nm b j nvL) (fun i => i.toNat) (fun i => [.box [.ref 1, iA (j + 1 + (nm b j nvL - i))], dY b, .box [.v (.slice none 0 0), .v (.slice none 0 0), .v (.slice none 0 0)], .box [.ref 4, .v (.slice none 0 0), .v (.slice none 0 0)], .row 3 (.ints (nsD b viL (nm b j nvL - i).toNat (j + 1)))]) (fun i => [(0, .ptr 0 0), (2, .ptr 2 0), (3, .ptr 3 0), (4, iA i)]) (nm b j nvL) (by omega) (s0.at G _ _) ?_; clear G; intro i ρ a w hp G; replace G := s0.at G [.box [.ref 1, iA (j + 1 + (nm b j nvL - i))], dY b, R1, a08, .row 3 (D.ints (nsD b viL (nm b j nvL - i).toNat (j + 1)))] [(0, .ptr 0 0), (2, .ptr 2 0), (3, .ptr 3 0), (4, iA i)]; have hlen : (nsD b viL (nm b j nvL - i).toNat (j + 1)).length = (nm b j nvL - i).toNat := ak9 _ _ _ _; refine wp_seq (wp_seq (C9 G d9 [(0, .ptr 0 0), (2, .ptr 2 0), (3, .ptr 3 0), (4, iA i), (11, bA (decide (i > 0)))] fun G => b7 ?_)); cases h0 : (decide (i > 0))
  ·
   have q0 := dFf h0
   obtain rfl : i = 0 := by omega
   rw [b22, b21] at G; refine rF G false (by kernel_rfl) (wp_exit (o0 (o0 (n5 (b7 (wp_seq (wp_seq (k8 G (s4 2 [0, 1, 13] (i9.lend (O9 b (H3 b j) naL (by simp [h0]) (by omega) (by omega)) [.no, .no, .row 3])) (rg 5) [.box [.ref 1, iA (H3 b j + 1)], dY b, R1, a08, .row 3 (D.ints (vsD b j))] [(0, .ptr 0 0), (2, .ptr 2 0), (3, .ptr 3 0), (5, iA (nm b (H3 b j) naL))] fun G => b7 (wp_block ?_))))))))); have Gx := G.nil 5 3 (.ints []) 1 [.box [.ref 1, iA (H3 b j + 1)], dY b, R1, .box [.ref 4, .ref 5, .v (.slice none 0 0)], .row 3 (D.ints (vsD b j))] [(0, .ptr 0 0), (2, .ptr 2 0), (3, .ptr 3 0), (5, iA (nm b (H3 b j) naL))]; clear G; obtain ⟨ρ, G⟩ := Gx; replace G := s0.at G [.box [.ref 1, iA (H3 b j + 1)], dY b, R1, .box [.ref 4, .ref 5, .v (.slice none 0 0)], .row 3 (D.ints (vsD b j)), .row 3 (D.ints [])] [(0, .ptr 0 0), (2, .ptr 2 0), (3, .ptr 3 0), (5, iA (nm b (H3 b j) naL))]; have Gx := G.nilT 6 (.stmts []) [.box [.ref 1, iA (H3 b j + 1)], dY b, R1, .box [.ref 4, .ref 5, .tref 6], .row 3 (D.ints (vsD b j)), .row 3 (D.ints [])] [(0, .ptr 0 0), (2, .ptr 2 0), (3, .ptr 3 0), (5, iA (nm b (H3 b j) naL))]; clear G; obtain ⟨ρ, G⟩ := Gx; replace G := s0.at G [.box [.ref 1, iA (H3 b j + 1)], dY b, R1, .box [.ref 4, .ref 5, .tref 6], .row 3 (D.ints (vsD b j)), .row 3 (D.ints []), .tree (D.stmts [])] [(0, .ptr 0 0), (2, .ptr 2 0), (3, .ptr 3 0), (5, iA (nm b (H3 b j) naL))]; replace G := G.as [.box [.ref 1, iA (H3 b j + 1 + (nm b (H3 b j) naL - nm b (H3 b j) naL))], dY b, .box [.v (.slice none 0 0), .v (.slice none 0 0), .v (.slice none 0 0)], .box [.ref 4, .ref 5, .tref 6], .row 3 (D.ints (vsD b j)), .row 3 (D.ints (nsD b aiL (nm b (H3 b j) naL - nm b (H3 b j) naL).toNat (H3 b j + 1))), .tree (D.stmts [])] [(0, .ptr 0 0), (2, .ptr 2 0), (3, .ptr 3 0), (5, iA (nm b (H3 b j) naL))] (by have e1 : (H3 b j + 1 + (nm b (H3 b j) naL - nm b (H3 b j) naL) : Int) = (H3 b j + 1) := (by simp [h0]); have e2 : (nsD b aiL (nm b (H3 b j) naL - nm b (H3 b j) naL).toNat (H3 b j + 1) : List Int) = ([]) := bk6; (first | rw [e1, e2] | simp only [e1, e2]) <;> rfl) (by kernel_rfl); refine o7 (κ := Int) (fun i2 => 0 ≤ i2 ∧ i2 ≤ nm b (H3 b j) naL) (fun i2 => i2.toNat) (fun i2 => [.box [.ref 1, iA (H3 b j + 1 + (nm b (H3 b j) naL - i2))], dY b, .box [.v (.slice none 0 0), .v (.slice none 0 0), .v (.slice none 0 0)], .box [.ref 4, .ref 5, .tref 6], .row 3 (D.ints (vsD b j)), .row 3 (.ints (nsD b aiL (nm b (H3 b j) naL - i2).toNat (H3 b j + 1))), .tree (D.stmts [])]) (fun i2 => [(0, .ptr 0 0), (2, .ptr 2 0), (3, .ptr 3 0), (5, iA i2)]) (nm b (H3 b j) naL) (by omega) (s0.at G _ _) ?_; clear G; intro i2 ρ a w hp G; replace G := s0.at G [.box [.ref 1, iA (H3 b j + 1 + (nm b (H3 b j) naL - i2))], dY b, R1, .box [.ref 4, .ref 5, .tref 6], .row 3 (D.ints (vsD b j)), .row 3 (D.ints (nsD b aiL (nm b (H3 b j) naL - i2).toNat (H3 b j + 1))), .tree (D.stmts [])] [(0, .ptr 0 0), (2, .ptr 2 0), (3, .ptr 3 0), (5, iA i2)]; have hlen : (nsD b aiL (nm b (H3 b j) naL - i2).toNat (H3 b j + 1)).length = (nm b (H3 b j) naL - i2).toNat := ak9 _ _ _ _; refine wp_seq (wp_seq (C9 G d9 [(0, .ptr 0 0), (2, .ptr 2 0), (3, .ptr 3 0), (5, iA i2), (26, bA (decide (i2 > 0)))] fun G => b7 ?_)); cases h1 : (decide (i2 > 0))
   ·
    have q1 := dFf h1
    obtain rfl : i2 = 0 := by omega
    rw [b20, b19] at G; refine rF G false (by kernel_rfl) (wp_exit (o0 (o0 (n5 (b7 (wp_seq (N3 G (t4 (l8 4 [0, 1, 31] (i9.lend (O9 b (kp2 b j) nbL (by simp [h0, h1]) (by omega) (by omega)) [.no, .no, .row 3]) (l8 5 [0, 1, 4, 5, 6] (i9.lend (bY5 b (vsD b j) (asD b j) ([]) (kp2 b j + 1) 3 (nm b (kp2 b j) nbL) (by kernel_rfl) (by omega) (by omega) (by omega) (by omega)) [.no, .no, .row 3, .row 3, .tree]) t3)) fz []) [0, 0, 0, 0, 12, 31, 63, 127] [0, 1, 2, 3, 4, 5, 47] [.box [.ref 1, iA (az6 b j).snd], dY b, R1, .box [.ref 4, .ref 5, .tref 6], .row 3 (D.ints (vsD b j)), .row 3 (D.ints (asD b j)), .tree (D.stmts (az6 b j).fst)] [(2, .ptr 2 0), (3, .ptr 3 0)] fun G => b7 (wp_seq (wp_seq (l0 G (s4 1 [4, 5, 6] (i9.lend (af6 (vsD b j) (asD b j) ((G0 (B4 b (vsD b j).length (asD b j).length 3) (nm b (kp2 b j) nbL).toNat (kp2 b j + 1)).fst) (by assumption)) [.row 3, .row 3, .tree])) [(45, bA (l5 (d7.mk (vsD b j) (asD b j) (az6 b j).fst)))] fun G => b7 (rcB (b := l5 (d7.mk (vsD b j) (asD b j) (G0 (B4 b (vsD b j).length (asD b j).length (3 : Nat)) (nm b (kp2 b j) nbL).toNat (kp2 b j + 1)).fst)) G (fun h2 => ?_) fun h2 => ?_)))))))))))
    · refine wp_skip (b7 (wp_seq (k8 G d9 [0, 1, 2, 7, 31] [.box [.ref 1, iA (az6 b j).snd], dY b, .box [.ref 3, .v (.slice none 0 0), .tref 4], .row 3 (D.ints ([0] ++ ([1] ++ []))), bu4] [(2, .ptr 2 0)] fun G => b7 (wp_ret ?_)))); have Gx := G.nil 5 3 (.ints []) 1 [.box [.ref 1, iA (az6 b j).snd], dY b, .box [.ref 3, .ref 5, .tref 4], .row 3 (D.ints ([0] ++ ([1] ++ []))), bu4] [(2, .ptr 2 0)]; clear G; obtain ⟨ρ, G⟩ := Gx; replace G := s0.at G [.box [.ref 1, iA (az6 b j).snd], dY b, .box [.ref 3, .ref 5, .tref 4], .row 3 (D.ints ([0] ++ ([1] ++ []))), bu4, .row 3 (D.ints [])] [(2, .ptr 2 0)]; exact F6 G [0, 1, 3, 5, 4] (by show _ = mR [0, 1, 3, 5, 4] (bi0 b j); unfold bi0; rw [b85 (by with_reducible assumption)] <;> rfl)
    · refine wp_seq (k8 G d9 [0, 1, 2, 4, 5, 6] [.box [.ref 1, iA (az6 b j).snd], dY b, .box [.ref 3, .ref 4, .tref 5], .row 3 (D.ints (vsD b j)), .row 3 (D.ints (asD b j)), .tree (D.stmts (az6 b j).fst)] [(2, .ptr 2 0)] fun G => b7 (wp_ret (l7 ?_))); exact F6 G [0, 1, 3, 4, 5] (by show _ = mR [0, 1, 3, 4, 5] (bi0 b j); unfold bi0; rw [b86 (by with_reducible assumption)] <;> rfl)
   · have q1 := dTt h1; refine rT G _ h1 (wp_skip (b7 (wp_seq (wp_block (F7 G (s4 4 [0, 1, 31] (i9.lend (O9 b (H3 b j + 1 + (nm b (H3 b j) naL - i2)) aiL (by simp [h0, h1]) (by omega) (by omega)) [.no, .no, .row 3])) [0, 1, 0, 0, 12, 28, 63, 127, 255] [0, 1, 2, 3, 4, 6, 55] [.box [.ref 1, iA (H3 b j + 1 + (nm b (H3 b j) naL - i2) + 1)], dY b, R1, .box [.ref 4, .ref 6, .tref 5], .row 3 (D.ints (vsD b j)), .tree (D.stmts []), .row 3 (D.ints (nsD b aiL (nm b (H3 b j) naL - i2).toNat (H3 b j + 1) ++ ([nm b (H3 b j + 1 + (nm b (H3 b j) naL - i2)) aiL] ++ [])))] [(0, .ptr 0 0), (2, .ptr 2 0), (3, .ptr 3 0), (5, iA i2)] (aP ((nsD b aiL (nm b (H3 b j) naL - i2).toNat (H3 b j + 1)).length + ([nm b (H3 b j + 1 + (nm b (H3 b j) naL - i2)) aiL] ++ []).length) 8 []) (aK (by simp only [cb5, cb4, cb6, ak9]; omega) cc1) fun G => m6 (b7 (D7 G d9 [(5, iA (i2 - 1))] [wO (i2 - 1)] (o1 (by omega)) fun G => b7 ?_))))))); exact M7 G (i2 - 1) (by omega) (by omega) [0, 1, 2, 3, 4, 6, 5] (by have e1 : (H3 b j + 1 + (nm b (H3 b j) naL - (i2 - 1)) : Int) = (H3 b j + 1 + (nm b (H3 b j) naL - i2) + 1) := (by omega); have e2 : (nsD b aiL (nm b (H3 b j) naL - (i2 - 1)).toNat (H3 b j + 1) : List Int) = (nsD b aiL (nm b (H3 b j) naL - i2).toNat (H3 b j + 1) ++ ([nm b (H3 b j + 1 + (nm b (H3 b j) naL - i2)) aiL] ++ [])) := (bk7 (by omega) (by omega)); (first | rw [e1, e2] | simp only [e1, e2]) <;> rfl)
  · have q0 := dTt h0; refine rT G _ h0 (wp_skip (b7 (wp_seq (wp_block (F7 G (s4 4 [0, 1, 29] (i9.lend (O9 b (j + 1 + (nm b j nvL - i)) viL (by simp [h0]) (by omega) (by omega)) [.no, .no, .row 3])) [0, 1, 0, 0, 12, 28, 63, 127, 255] [0, 1, 2, 3, 53] [.box [.ref 1, iA (j + 1 + (nm b j nvL - i) + 1)], dY b, R1, a08, .row 3 (D.ints (nsD b viL (nm b j nvL - i).toNat (j + 1) ++ ([nm b (j + 1 + (nm b j nvL - i)) viL] ++ [])))] [(0, .ptr 0 0), (2, .ptr 2 0), (3, .ptr 3 0), (4, iA i)] (aP ((nsD b viL (nm b j nvL - i).toNat (j + 1)).length + ([nm b (j + 1 + (nm b j nvL - i)) viL] ++ []).length) 8 []) (aK (by simp only [cb5, cb4, cb6, ak9]; omega) cc1) fun G => m6 (b7 (D7 G d9 [(4, iA (i - 1))] [wO (i - 1)] (o1 (by omega)) fun G => b7 ?_))))))); exact M7 G (i - 1) (by omega) (by omega) (rg 5) (by have e1 : (j + 1 + (nm b j nvL - (i - 1)) : Int) = (j + 1 + (nm b j nvL - i) + 1) := (by omega); have e2 : (nsD b viL (nm b j nvL - (i - 1)).toNat (j + 1) : List Int) = (nsD b viL (nm b j nvL - i).toNat (j + 1) ++ ([nm b (j + 1 + (nm b j nvL - i)) viL] ++ [])) := (bk7 (by omega) (by omega)); (first | rw [e1, e2] | simp only [e1, e2]) <;> rfl)
theorem m5.sel {ι : Type} {φ ψ : Nat → Prop} {w0 w : World} {F : ι → Rs} {ρ : Nat → Value} {S S1 : List It} {js : List Nat} (M : m5 φ ψ w0 w (p7 F ρ (r9 S))) (hn : js.Nodup) (hl : js.length = S1.length) (hS : js.map (r9 S) = S1.map (It.ren (nth js))) : m5 φ ψ w0 w (p7 F (fun i => ρ (nth js i)) (r9 S1)) := by
 refine M.map (fun k : ι ⊕ Nat => (match k with | .inl i => some (.inl i) | .inr i => if i < js.length then some (.inr (nth js i)) else none : Option (ι ⊕ Nat))) ?_ ?_
 ·intro k k' x h1 h2
  match k, k' with
  | .inl i, .inl i' => simp at h1 h2; rw [← h1] at h2; simpa using h2.symm
  | .inl i, .inr j => simp only at h1 h2; cases h1; split at h2 <;> simp at h2
  | .inr j, .inl i => simp only at h1 h2; cases h2; split at h1 <;> simp at h1
  | .inr j, .inr j' =>
   simp at h1 h2
   obtain ⟨f1, f2⟩ := h1
   obtain ⟨g1, g2⟩ := h2
   rw [← f2] at g2
   have hj := Sum.inr.inj g2
   have e1 := cb7 f1
   have e2 := cb7 g1
   rw [G4 e2, G4 e1] at hj
   have := (List.getElem?_inj f1 hn).1 (e1.trans (by rw [← hj]; exact e2.symm))
   rw [this]
 ·intro k
  match k with
  | .inl i => exact .inl ⟨_, rfl, rfl⟩
  | .inr i =>
   by_cases hlt : i < js.length
   ·refine .inl ⟨.inr (nth js i), by simp [hlt], ?_⟩
    have h1 := congrArg (·[i]?) hS
    have hlt' : i < S1.length := by omega
    simp only [List.getElem?_map, cb7 hlt, cb7 hlt', Option.map_some, Option.some.injEq] at h1
    simp only [p7]
    rw [ad5 hlt', G4 (cb7 hlt), h1, ← It.res_ren, G4 (cb7 hlt)]
   ·refine .inr ?_
    simp only [p7]
    rw [w6 (by omega)]
    rfl
theorem i9.nilArg {P : Program} {f : FuncId} {args args0 : List AV} {pre post post' : List It} {res res' : AV} {e : TypeId} {d : D} (hc : i9.ok P ⟨f, args0, pre ++ [.row e d], post, res⟩) (k : Nat) (js : List Nat) (hd : D.nil k = some d) (ha : args = AV.denL false pre.length args0) (hid : (W6 pre.length (AV.idsL args) && pre.all (fun x => W6 pre.length x.ids) && nodupB js && natEq js.length post'.length && bR6 pre.length js) = true) (hS : js.map (r9 post) = post'.map (It.ren (nth js))) (hr : res = res'.ren (nth js)) : i9.ok P ⟨f, args, pre, post', res'⟩ := by
 intro ι φ ψ w0 w F ρ M
 simp only [cb3, natEq, beq_iff_eq] at hid
 obtain ⟨⟨⟨⟨h1, h2⟩, h3⟩, h4⟩, h5⟩ := hid
 have hz := D.nil_len hd
 have hvals := (AV.vals_den (ρ := ρ) (t := false) (n := pre.length) (z := .slice none 0 0) (by simp) args0 (by rw [← ha]; exact D0 h1)).1
 have hlt : ∀ j, j < pre.length → r9 (pre ++ [.row e d]) j = r9 pre j := fun j hj => by simp [r9, cb8, cd6 hj]
 have hids : ∀ j, ∀ i ∈ (r9 pre j).ids, i < pre.length := fun j => by
  by_cases hj : j < pre.length
  ·rw [ad5 hj]
   exact D0 (cc2.1 h2 _ (cd7 hj))
  ·rw [w6 (by omega)]; intro i hi; cases hi
 have M1 : m5 φ ψ w0 w (p7 F (fun j => if j = pre.length then .slice none 0 0 else ρ j) (r9 (pre ++ [.row e d]))) := by
  refine m5.put M (.inr pre.length) (fun k hk => ?_) (B6.refl _ _) ?_ ?_
  ·cases k with
   | inl i => rfl
   | inr j =>
    simp only [p7]
    rcases Nat.lt_trichotomy j pre.length with h | h | h
    ·rw [hlt j h]
     exact It.res_congr _ (fun i hi => if_neg (by have := hids j i hi; omega)) (.inr (.inr (if_neg (by omega))))
    ·exact absurd (by rw [h]) hk
    ·rw [w6 (show (pre ++ [It.row e d]).length ≤ j by simp; omega), w6 (show pre.length ≤ j by omega)]; rfl
  ·have : r9 (pre ++ [.row e d]) pre.length = .row e d := by simp [r9, cb8]
   simp only [p7, this, It.res, if_true]
   refine ⟨fun xs => RW.nice d xs, [], ?_, RW.nil hz _⟩
   rw [hz]; exact World.ownsRow_nil _ _ _ _
  ·intro g hg
   have : r9 (pre ++ [.row e d]) pre.length = .row e d := by simp [r9, cb8]
   simp only [p7, this, It.res, if_true] at hg
   cases hg
 have h := hc ι φ ψ w0 w F _ M1
 simp only [hvals, ← ha] at h
 refine h.mono ?_
 rintro x w' ⟨ρ2, g1, rfl, M2⟩
 have hk : ∀ i, i < pre.length → nth js i = i := fun i hi => by
  have := cc2.1 h5 i (List.mem_range.2 hi)
  simp only [cb3, natEq, beq_iff_eq] at this
  exact this.1
 refine ⟨fun i => ρ2 (nth js i), fun i hi => ?_, ?_, M2.sel (ap7 h3) h4 hS⟩
 ·have hi : i < pre.length := hi
  simp only [hk i hi]
  rw [g1 i (by simp; omega), if_neg (by omega)]
 ·show Ending.returned (res.val ρ2) = .returned (res'.val _)
  rw [hr, AV.val_ren]
theorem bA9 {ars vs : List Int} {m pc : Int} {ss : List b6} (h : i9.ok Tryz.prog (lbC ars m pc vs [] ss)) : i9.ok Tryz.prog (lnC ars m pc vs ss) :=
 i9.nilArg (pre := [qI vs, dI ars, dT ss]) h 10 [0, 1, 2, 4, 5] rfl rfl rfl rfl rfl
theorem aJ4 (ars : List Int) (nv : Nat) : ∀ (dd : Nat) (tt : List b6) (m pc : Int) (vs : List Int) (bd : List b6), tt.all (f6 nv ars.length dd) = true → nv ≤ vs.length → vs.length + 4 * i5 tt ≤ 90000 → i5 bd + 130 * i5 tt ≤ 600000 → i9.ok Tryz.prog (lbC ars m pc vs bd tt)
 | 0, tt, m, pc, vs, bd, hs, hv, r1, r2 => by
  have h0 : tt = [] := by
   cases tt with
   | nil => rfl
   | cons a r => simp [f6] at hs
  subst h0
  exact aP8 ars nv 0 [] rfl (fun _ _ _ _ _ h => absurd h (by simp)) (fun _ _ _ _ _ _ h => absurd h (by simp)) m pc vs bd hv r1 r2
 | dd + 1, tt, m, pc, vs, bd, hs, hv, r1, r2 => by
  have hB := aJ4 ars nv dd
  have hI : ∀ (tt : List b6) (m pc : Int) (vs : List Int) (bd : List b6), tt.all (f6 nv ars.length dd) = true → nv ≤ vs.length → vs.length + 4 * i5 tt ≤ 90000 → 130 * i5 tt ≤ 600000 → i9.ok Tryz.prog (bK8 ars m pc vs bd tt) := fun tt m pc vs bd h1 h2 h3 h4 => bp3 ars m pc vs bd tt (bA9 (hB tt m pc vs [] h1 h2 h3 (by simpa [i5] using h4)))
  exact aP8 ars nv dd tt hs (fun t k3 hh hbb hbe _ m pc vs bd hv r1 r2 => bU2 ars nv dd t k3 hh hbb hbe hB hI m pc vs bd hv r1 r2) (fun tt m pc vs bd h1 _ h2 h3 h4 => hI tt m pc vs bd h1 h2 h3 h4) m pc vs bd hv r1 r2
abbrev by5 (p : d7) : d7 := ⟨(k6 p.arrays p.body (-1) 0 (p.vars, [])).1, p.arrays, (k6 p.arrays p.body (-1) 0 (p.vars, [])).2⟩
theorem bz9 {p : d7} (h : (C7 p false).1 = 0) (h2 : l5 (by5 p) = true) : Z9 p = true := bR0 h h2
theorem bz8 {p : d7} (h2 : l5 (by5 p) = false) : Z9 p = false := bR1 h2
theorem bA8 {p : d7} (h : (C7 p false).1 = 0) (h2 : l5 (by5 p) = true) : A1 p = by5 p := aQ7 (bR0 h h2)
theorem bA7 {p : d7} (h2 : l5 (by5 p) = false) : A1 p = ⟨[], [], []⟩ := bl1 (bR1 h2)
theorem bF2 (p : d7) (hp : l5 p = true) : i9.ok Tryz.prog (lnC p.arrays (-1) 0 p.vars p.body) := by
 have h := aa8 hp
 exact bA9 (aJ4 p.arrays p.vars.length 5 p.body (-1) 0 p.vars [] (P5 hp).2.2.2 (cc6 _) (by omega) (by simp only [i5]; omega))
abbrev ao0 (r0 : List (Nat × AV)) : List (Nat × AV) := (1, .ptr 3 0) :: (2, .ptr 4 0) :: (3, bA false) :: r0
theorem aW0 (p : d7) (hb : p.size ≤ 1048576) (hp : ¬ (C7 p false).1 = 0) : i9.ok Tryz.prog ⟨27, [pA 0], pS p, pS p ++ pS (A1 p), .tup [pA 3, bA (Z9 p)]⟩ := by
 refine z7 43 Tryz.func27 [dI p.vars, dI p.arrays, dT p.body] [(0, pA 0)] fun G => ?_; have hno := bR2 hp
 have hb1 : i5 p.body ≤ 1048576 := by unfold d7.size at hb; omega
 refine wp_seq (k8 G d9 [0, 1, 2, 3, 11] [dI p.vars, dI p.arrays, dT p.body, .box (pL 0), .box [.v (.slice none 0 0), .v (.slice none 0 0), .v (.slice none 0 0)]] (ao0 []) fun G => b7 (wp_seq (l0 G (s4 1 [0, 1, 2] (V0 p.vars p.arrays p.body (by assumption))) [(4, iA (C7 (d7.mk p.vars p.arrays p.body) false).fst)] fun G => b7 (wp_seq (wp_seq (C9 G d9 (ao0 [(15, bA ((C7 (d7.mk p.vars p.arrays p.body) false).fst != 0))]) fun G => b7 ?_)))))); cases h0 : ((C7 (d7.mk p.vars p.arrays p.body) false).fst != 0)
 ·have q0 := bne_eq_false_iff_eq.1 h0; exact False.elim (hp (by with_reducible assumption))
 ·have q0 := bne_iff_ne.1 h0; refine rT G _ h0 (wp_seq (C9 G d9 (ao0 []) fun G => b7 (wp_ret (l7 ?_)))); obtain ⟨ρ, G⟩ := G.nil 5 0 (.ints []) 1 [dI p.vars, dI p.arrays, dT p.body, .box (pL 0), .box [.ref 5, .v (.slice none 0 0), .v (.slice none 0 0)]] (ao0 []); obtain ⟨ρ, G⟩ := G.nil 6 0 (.ints []) 1 [dI p.vars, dI p.arrays, dT p.body, .box (pL 0), .box [.ref 5, .ref 6, .v (.slice none 0 0)], .row 0 (D.ints [])] (ao0 []); obtain ⟨ρ, G⟩ := G.nil 7 0 (.stmts []) 10 [dI p.vars, dI p.arrays, dT p.body, .box (pL 0), .box (pL 5), .row 0 (D.ints []), .row 0 (D.ints [])] (ao0 []); obtain ⟨ρ, G⟩ := G.frz [.no, .no, .no, .no, .no, .row 0, .row 0, .row 0] [dI p.vars, dI p.arrays, dT p.body, .box (pL 0), .box (pL 5), dI [], dI [], dT []] (ao0 []); exact W2 (.tup [pA 5, bA false]) G [0, 1, 2, 5, 6, 7] (by have e1 : (Z9 p : Bool) = (false) := (by assumption); (first | rw [e1] | simp only [e1]) <;> rfl) (by show _ = mR [0, 1, 2, 5, 6, 7] [dI p.vars, dI p.arrays, dT p.body, dI (A1 p).vars, dI (A1 p).arrays, dT (A1 p).body]; rw [bl1 hno] <;> rfl)
abbrev aT0 : It := .box [.v (.slice none 0 0), .v (.slice none 0 0), .v (.slice none 0 0)]
abbrev aw1 (p : d7) (r0 : List It) : List It := .row 3 (D.ints (k6 p.arrays p.body (-1) 0 (p.vars, [])).fst) :: .row 3 (D.ints p.arrays) :: .tree (D.stmts (k6 p.arrays p.body (-1) 0 (p.vars, [])).snd) :: r0
abbrev J3 (p : d7) (r0 : List It) : List It := dI p.vars :: dI p.arrays :: dT p.body :: r0
theorem aV9 (p : d7) (hb : p.size ≤ 1048576) (hf : (C7 p false).1 = 0) : i9.ok Tryz.prog ⟨27, [pA 0], pS p, pS p ++ pS (A1 p), .tup [pA 3, bA (Z9 p)]⟩ := by
  have hpv := G6 hf; have hB := bF2 p hpv; refine z7 43 Tryz.func27 (J3 p []) [(0, pA 0)] fun G => ?_; have hz := aX6 (G6 hf); have hv := aa8 (G6 hf)
  have hzb : i5 (af8 p).2 ≤ 1048576 := by omega
  have hsum : (af8 p).1.length + p.arrays.length + i5 (af8 p).2 ≤ 1048576 := by omega
  refine wp_seq (k8 G d9 [0, 1, 2, 3, 11] (J3 p [.box (pL 0), aT0]) [(1, .ptr 3 0), (2, .ptr 4 0), (3, bA false)] fun G => b7 (wp_seq (l0 G (s4 1 [0, 1, 2] (V0 p.vars p.arrays p.body (cd3 hv.2.2 (by decide)))) [(4, iA (C7 (d7.mk p.vars p.arrays p.body) false).fst)] fun G => b7 (wp_seq (wp_seq (C9 G d9 [(1, .ptr 3 0), (2, .ptr 4 0), (3, bA false), (15, bA ((C7 (d7.mk p.vars p.arrays p.body) false).fst != 0))] fun G => b7 ?_)))))); cases h0 : ((C7 (d7.mk p.vars p.arrays p.body) false).fst != 0)
  ·
   have q0 := bne_eq_false_iff_eq.1 h0; refine rF G _ h0 (wp_skip (b7 (wp_seq (k8 G (s4 1 [0, 1, 2] (ab8 p.vars p.arrays p.body (by assumption))) [0, 1, 2, 4, 13, 14, 15, 21] (J3 p [aT0, .row 3 (D.ints p.vars), .row 3 (D.ints p.arrays), .tree (D.stmts p.body), .box [.ref 4, .ref 5, .tref 6]]) [(2, .ptr 3 0), (3, bA false), (6, .ptr 7 0)] fun G => b7 (wp_seq ?_))))); obtain ⟨ρ, G⟩ := G.frz [.no, .no, .no, .no, .no, .row 3] (J3 p [.box [.v (.slice none 0 0), .v (.slice none 0 0), .v (.slice none 0 0)], .row 3 (D.ints p.vars), dI p.arrays, .tree (D.stmts p.body), .box [.ref 4, .ref 5, .tref 6]]) [(2, .ptr 3 0), (3, bA false), (6, .ptr 7 0)]; obtain ⟨ρ, G⟩ := G.frz [.no, .no, .no, .no, .no, .no, .tree] (J3 p [.box [.v (.slice none 0 0), .v (.slice none 0 0), .v (.slice none 0 0)], .row 3 (D.ints p.vars), dI p.arrays, dT p.body, .box (pL 4)]) [(2, .ptr 3 0), (3, bA false), (6, .ptr 7 0)]; refine k8 G (s4 8 [4, 5, 6] hB) [0, 1, 2, 3, 5, 72, 73, 80] (J3 p [aT0, dI p.arrays, .row 3 (D.ints (k6 p.arrays p.body (-1) 0 (p.vars, [])).fst), .row 106 (D.stmts (k6 p.arrays p.body (-1) 0 (p.vars, [])).snd), .box [.ref 5, .ref 4, .v (.slice none 0 0), .ref 6]]) [(2, .ptr 3 0), (3, bA false), (7, .ptr 7 0)] fun G => b7 (wp_seq ?_); obtain ⟨ρ, G⟩ := G.frz [.no, .no, .no, .no, .no, .row 3] (J3 p [.box [.v (.slice none 0 0), .v (.slice none 0 0), .v (.slice none 0 0)], dI p.arrays, dI (k6 p.arrays p.body (-1) 0 (p.vars, [])).fst, .row 106 (D.stmts (k6 p.arrays p.body (-1) 0 (p.vars, [])).snd), .box [.ref 5, .ref 4, .v (.slice none 0 0), .ref 6]]) [(2, .ptr 3 0), (3, bA false), (7, .ptr 7 0)]; obtain ⟨ρ, G⟩ := G.frz [.no, .no, .no, .no, .no, .no, .row 106] (J3 p [.box [.v (.slice none 0 0), .v (.slice none 0 0), .v (.slice none 0 0)], dI p.arrays, dI (k6 p.arrays p.body (-1) 0 (p.vars, [])).fst, dT (k6 p.arrays p.body (-1) 0 (p.vars, [])).snd, .box [.ref 5, .ref 4, .v (.slice none 0 0), .ref 6]]) [(2, .ptr 3 0), (3, bA false), (7, .ptr 7 0)]; refine k8 G (s4 9 [5, 4, 6] (ab8 ((k6 p.arrays p.body (-1) 0 (p.vars, [])).fst) p.arrays ((k6 p.arrays p.body (-1) 0 (p.vars, [])).snd) (by assumption))) [0, 1, 2, 3, 80, 81, 82, 88] (J3 p (aT0 :: (aw1 p [.box [.ref 4, .ref 5, .tref 6]]))) [(2, .ptr 3 0), (3, bA false), (8, .ptr 7 0)] fun G => b7 (wp_seq (wp_seq (l0 G (s4 1 [4, 5, 6] (i9.lend (af6 ((k6 p.arrays p.body (-1) 0 (p.vars, [])).fst) p.arrays ((k6 p.arrays p.body (-1) 0 (p.vars, [])).snd) (by assumption)) [.row 3, .row 3, .tree])) [(40, .v (.bool !l5 (d7.mk (k6 p.arrays p.body (-1) 0 (p.vars, [])).fst p.arrays (k6 p.arrays p.body (-1) 0 (p.vars, [])).snd)))] fun G => b7 ?_))); cases h1 : (!l5 (d7.mk (k6 p.arrays p.body (-1 : Int) (0 : Int) (p.vars, [])).fst p.arrays (k6 p.arrays p.body (-1 : Int) (0 : Int) (p.vars, [])).snd))
   · have q1 : (l5 (d7.mk (k6 p.arrays p.body (-1) 0 (p.vars, [])).fst p.arrays (k6 p.arrays p.body (-1) 0 (p.vars, [])).snd)) = true := (Eq.mp (cc4 _) h1); refine rF G _ h1 (wp_skip (b7 (wp_seq (k8 G d9 (rg 7) (J3 p (.box [.ref 4, .ref 5, .tref 6] :: (aw1 p []))) [(2, .ptr 3 0), (3, bA true)] fun G => b7 (wp_ret ?_))))); obtain ⟨ρ, G⟩ := G.frz [.no, .no, .no, .no, .row 3, .row 3, .tree] (J3 p [.box (pL 4), dI (k6 p.arrays p.body (-1) 0 (p.vars, [])).fst, dI p.arrays, dT (k6 p.arrays p.body (-1) 0 (p.vars, [])).snd]) [(2, .ptr 3 0), (3, bA true)]; exact W2 (.tup [pA 4, bA true]) G [0, 1, 2, 4, 5, 6] (by have e1 : (Z9 p : Bool) = (true) := (bz9 hf (by with_reducible assumption)); (first | rw [e1] | simp only [e1]) <;> rfl) (by show _ = mR [0, 1, 2, 4, 5, 6] (J3 p [dI (A1 p).vars, dI (A1 p).arrays, dT (A1 p).body]); rw [bA8 hf (by with_reducible assumption)] <;> rfl)
   · have q1 : (l5 (d7.mk (k6 p.arrays p.body (-1) 0 (p.vars, [])).fst p.arrays (k6 p.arrays p.body (-1) 0 (p.vars, [])).snd)) = false := (Eq.mp (cc3 _) h1); refine rT G _ h1 (wp_seq (C9 G d9 [(2, .ptr 3 0), (3, bA false), (8, .ptr 7 0)] fun G => b7 (wp_ret (l7 ?_)))); obtain ⟨ρ, G⟩ := G.nil 8 0 (.ints []) 1 (J3 p (.box [.ref 8, .v (.slice none 0 0), .v (.slice none 0 0)] :: (aw1 p [.box [.ref 4, .ref 5, .tref 6]]))) [(2, .ptr 3 0), (3, bA false), (8, .ptr 7 0)]; obtain ⟨ρ, G⟩ := G.nil 9 0 (.ints []) 1 (J3 p (.box [.ref 8, .ref 9, .v (.slice none 0 0)] :: (aw1 p [.box [.ref 4, .ref 5, .tref 6], .row 0 (D.ints [])]))) [(2, .ptr 3 0), (3, bA false), (8, .ptr 7 0)]; obtain ⟨ρ, G⟩ := G.nil 10 0 (.stmts []) 10 (J3 p (.box (pL 8) :: (aw1 p [.box [.ref 4, .ref 5, .tref 6], .row 0 (D.ints []), .row 0 (D.ints [])]))) [(2, .ptr 3 0), (3, bA false), (8, .ptr 7 0)]; obtain ⟨ρ, G⟩ := G.frz [.no, .no, .no, .no, .no, .no, .no, .no, .row 0, .row 0, .row 0] (J3 p (.box (pL 8) :: (aw1 p [.box [.ref 4, .ref 5, .tref 6], dI [], dI [], dT []]))) [(2, .ptr 3 0), (3, bA false), (8, .ptr 7 0)]; exact W2 (.tup [pA 8, bA false]) G [0, 1, 2, 8, 9, 10] (by have e1 : (Z9 p : Bool) = (false) := (bz8 (by with_reducible assumption)); (first | rw [e1] | simp only [e1]) <;> rfl) (by show _ = mR [0, 1, 2, 8, 9, 10] (J3 p [dI (A1 p).vars, dI (A1 p).arrays, dT (A1 p).body]); rw [bA7 (by with_reducible assumption)] <;> rfl)
  · have q0 := bne_iff_ne.1 h0; exact False.elim (by exact absurd hf (by omega))
theorem a85 (p : d7) (hb : p.size ≤ 1048576) : i9.ok Tryz.prog ⟨27, [pA 0], pS p, pS p ++ pS (A1 p), .tup [pA 3, bA (Z9 p)]⟩ := by
 by_cases hf : (C7 p false).1 = 0
 ·exact aV9 p hb hf
 ·exact aW0 p hb hf
abbrev b71 : Type := J9 × Bool
section
variable {vs ars : List Int} {b : List b6} {s : b6} {cx : Int} {ch : Bool}
end
section
variable {nv na d k : Nat} {ss : List b6} {x : b71} {cx : Int}
end
theorem an7 (vs ars : List Int) (b : List b6) (hb : i5 b ≤ 1048576) : i9.ok Tryz.prog (E1 19 [pA 0] [dI vs, dI ars, dT b] (.tup [iA (C7 ⟨vs, ars, b⟩ false).1, iA (C7 ⟨vs, ars, b⟩ false).2])) := av7 ⟨vs, ars, b⟩ hb
section
variable {p : d7} {y : b71}
end
theorem ay8 (vs ars : List Int) (bd : List b6) : i9.ok Tryz.prog (E1 57 [pA 0] [dI vs, dI ars, dT bd] (bA (l5 ⟨vs, ars, bd⟩))) := L5 ⟨vs, ars, bd⟩
theorem bY1 (vs ars : List Int) (b : List b6) (hb : vs.length + ars.length + i5 b ≤ 1048576) : i9.ok Tryz.prog ⟨58, [pA 0], [dI vs, dI ars, dT b], [dI vs, dI ars, dT b, .row 3 (.ints vs), .row 3 (.ints ars), .tree (.stmts b)], oA 3⟩ := b62 ⟨vs, ars, b⟩ (by unfold d7.size; exact hb)
theorem aM9 (p : d7) (hb : p.size ≤ 1048576) (hp : ¬ (C7 p false).1 = 0) : i9.ok Tryz.prog ⟨29, [pA 0], pS p, pS p ++ oP (A1 p), .tup [oA 3, bA (Z9 p)]⟩ := by
 refine z7 44 Tryz.func29 [dI p.vars, dI p.arrays, dT p.body] [(0, pA 0)] fun G => ?_; have hno := bR2 hp
 have hb1 : i5 p.body ≤ 1048576 := by unfold d7.size at hb; omega
 refine wp_seq (k8 G d9 [0, 1, 2, 3, 11] [dI p.vars, dI p.arrays, dT p.body, .box (pL 0), .box [.v (.slice none 0 0), .v (.slice none 0 0), .v (.slice none 0 0)]] [(1, .ptr 3 0), (2, .ptr 4 0), (3, bA false)] fun G => b7 (wp_seq (wp_seq (l0 G (s4 1 [0, 1, 2] (an7 p.vars p.arrays p.body (by assumption))) [(4, iA (C7 (d7.mk p.vars p.arrays p.body) false).fst)] fun G => b7 (wp_seq (C9 G d9 [(1, .ptr 3 0), (2, .ptr 4 0), (3, bA false), (13, bA ((C7 (d7.mk p.vars p.arrays p.body) false).fst != 0))] fun G => b7 ?_)))))); cases h0 : ((C7 (d7.mk p.vars p.arrays p.body) false).fst != 0)
 ·have q0 := bne_eq_false_iff_eq.1 h0; exact False.elim (hp (by with_reducible assumption))
 ·have q0 := bne_iff_ne.1 h0; refine rT G _ h0 (wp_seq (C9 G d9 [(1, .ptr 3 0), (2, .ptr 4 0), (3, bA false)] fun G => b7 (wp_ret (l7 ?_)))); obtain ⟨ρ, G⟩ := G.nil 5 3 (.ints []) 1 [dI p.vars, dI p.arrays, dT p.body, .box (pL 0), .box [.ref 5, .v (.slice none 0 0), .v (.slice none 0 0)]] [(1, .ptr 3 0), (2, .ptr 4 0), (3, bA false)]; obtain ⟨ρ, G⟩ := G.nil 6 3 (.ints []) 1 [dI p.vars, dI p.arrays, dT p.body, .box (pL 0), .box [.ref 5, .ref 6, .v (.slice none 0 0)], .row 3 (D.ints [])] [(1, .ptr 3 0), (2, .ptr 4 0), (3, bA false)]; obtain ⟨ρ, G⟩ := G.nilT 7 (.stmts []) [dI p.vars, dI p.arrays, dT p.body, .box (pL 0), .box [.ref 5, .ref 6, .tref 7], .row 3 (D.ints []), .row 3 (D.ints [])] [(1, .ptr 3 0), (2, .ptr 4 0), (3, bA false)]; exact W2 (.tup [.agg [.ref 5, .ref 6, .tref 7], bA false]) G [0, 1, 2, 5, 6, 7] (by have e1 : (Z9 p : Bool) = (false) := (by assumption); (first | rw [e1] | simp only [e1]) <;> rfl) (by show _ = mR [0, 1, 2, 5, 6, 7] [dI p.vars, dI p.arrays, dT p.body, .row 3 (D.ints (A1 p).vars), .row 3 (D.ints (A1 p).arrays), .tree (D.stmts (A1 p).body)]; rw [bl1 hno] <;> rfl)
abbrev aS6 (p : d7) : List It := [dI p.vars, dI p.arrays, dT p.body, .row 3 (D.ints (A1 p).vars), .row 3 (D.ints (A1 p).arrays), .tree (D.stmts (A1 p).body)]
abbrev a97 : It := .box [.v (.slice none 0 0), .v (.slice none 0 0), .v (.slice none 0 0)]
abbrev aS3 (p : d7) (r0 : List It) : List It := dI p.arrays :: .box [.ref 6, .ref 4, .ref 7] :: .row 3 (D.ints (k6 p.arrays p.body (-1) 0 (p.vars, [])).fst) :: dT (k6 p.arrays p.body (-1) 0 (p.vars, [])).snd :: r0
theorem aM8 (p : d7) (hb : p.size ≤ 1048576) (hf : (C7 p false).1 = 0) : i9.ok Tryz.prog ⟨29, [pA 0], pS p, pS p ++ oP (A1 p), .tup [oA 3, bA (Z9 p)]⟩ := by
  have hpv := G6 hf; have hB := br9 p hpv; refine z7 44 Tryz.func29 [dI p.vars, dI p.arrays, dT p.body] [(0, pA 0)] fun G => ?_; have hz := aX6 (G6 hf); have hv := aa8 (G6 hf)
  have hzb : i5 (af8 p).2 ≤ 1048576 := by omega
  have hsum : (af8 p).1.length + p.arrays.length + i5 (af8 p).2 ≤ 1048576 := by omega
  refine wp_seq (k8 G d9 [0, 1, 2, 3, 11] [dI p.vars, dI p.arrays, dT p.body, .box (pL 0), a97] [(1, .ptr 3 0), (2, .ptr 4 0), (3, bA false)] fun G => b7 (wp_seq (wp_seq (l0 G (s4 1 [0, 1, 2] (an7 p.vars p.arrays p.body (cd3 hv.2.2 (by decide)))) [(4, iA (C7 (d7.mk p.vars p.arrays p.body) false).fst)] fun G => b7 (wp_seq (C9 G d9 [(1, .ptr 3 0), (2, .ptr 4 0), (3, bA false), (13, bA ((C7 (d7.mk p.vars p.arrays p.body) false).fst != 0))] fun G => b7 ?_)))))); cases h0 : ((C7 (d7.mk p.vars p.arrays p.body) false).fst != 0)
  ·
   have q0 := bne_eq_false_iff_eq.1 h0; refine rF G _ h0 (wp_skip (b7 (wp_seq (N3 G (t4 (l8 2 [0] (Z1 p.vars (by omega)) (l8 5 [1] (Z1 p.arrays (by omega)) t3)) fz []) [0, 1, 3, 0, 8, 31, 63, 127, 255, 511] [0, 1, 2, 3, 4, 21, 45, 69] [dI p.vars, dI p.arrays, dT p.body, .box (pL 0), a97, .row 3 (D.ints p.vars), .row 3 (D.ints p.arrays), .box [.ref 5, .ref 6, .v (.slice none 0 0)]] [(1, .ptr 3 0), (2, .ptr 4 0), (3, bA false), (6, .ptr 7 0)] fun G => b7 (wp_seq ?_))))); obtain ⟨ρ, G⟩ := G.frz [.no, .no, .no, .no, .no, .no, .row 3] [dI p.vars, dI p.arrays, dT p.body, .box (pL 0), .box [.v (.slice none 0 0), .v (.slice none 0 0), .v (.slice none 0 0)], .row 3 (D.ints p.vars), dI p.arrays, .box [.ref 5, .ref 6, .v (.slice none 0 0)]] [(1, .ptr 3 0), (2, .ptr 4 0), (3, bA false), (6, .ptr 7 0)]; refine k8 G (s4 4 [7, 5, 6, 2] hB) [0, 1, 2, 4, 6, 7, 40, 41] (dI p.vars :: dI p.arrays :: dT p.body :: a97 :: (aS3 p [])) [(2, .ptr 3 0), (3, bA false), (6, .ptr 5 0)] fun G => b7 (wp_seq (wp_seq (l0 G (s4 4 [6, 4, 7] (i9.lend (ay8 ((k6 p.arrays p.body (-1) 0 (p.vars, [])).fst) p.arrays ((k6 p.arrays p.body (-1) 0 (p.vars, [])).snd)) [.row 3])) [(37, .v (.bool !l5 (d7.mk (k6 p.arrays p.body (-1) 0 (p.vars, [])).fst p.arrays (k6 p.arrays p.body (-1) 0 (p.vars, [])).snd)))] fun G => b7 ?_))); cases h1 : (!l5 (d7.mk (k6 p.arrays p.body (-1 : Int) (0 : Int) (p.vars, [])).fst p.arrays (k6 p.arrays p.body (-1 : Int) (0 : Int) (p.vars, [])).snd))
   · have q1 : (l5 (d7.mk (k6 p.arrays p.body (-1) 0 (p.vars, [])).fst p.arrays (k6 p.arrays p.body (-1) 0 (p.vars, [])).snd)) = true := (Eq.mp (cc4 _) h1); refine rF G _ h1 (wp_skip (b7 (wp_seq (k8 G (s4 4 [6, 4, 7] (i9.lend (bY1 ((k6 p.arrays p.body (-1) 0 (p.vars, [])).fst) p.arrays ((k6 p.arrays p.body (-1) 0 (p.vars, [])).snd) (by assumption)) [.row 3])) [0, 1, 2, 3, 40, 41, 42] [dI p.vars, dI p.arrays, dT p.body, .box [.ref 4, .ref 5, .tref 6], .row 3 (D.ints (k6 p.arrays p.body (-1) 0 (p.vars, [])).fst), .row 3 (D.ints p.arrays), .tree (D.stmts (k6 p.arrays p.body (-1) 0 (p.vars, [])).snd)] [(2, .ptr 3 0), (3, bA true)] fun G => b7 (wp_ret ?_))))); exact W2 (.tup [.agg [.ref 4, .ref 5, .tref 6], bA true]) G [0, 1, 2, 4, 5, 6] (by have e1 : (Z9 p : Bool) = (true) := (bz9 hf (by with_reducible assumption)); (first | rw [e1] | simp only [e1]) <;> rfl) (by show _ = mR [0, 1, 2, 4, 5, 6] (aS6 p); unfold aS6; rw [bA8 hf (by with_reducible assumption)] <;> rfl)
   · have q1 : (l5 (d7.mk (k6 p.arrays p.body (-1) 0 (p.vars, [])).fst p.arrays (k6 p.arrays p.body (-1) 0 (p.vars, [])).snd)) = false := (Eq.mp (cc3 _) h1); refine rT G _ h1 (wp_seq (C9 G d9 [(2, .ptr 3 0), (3, bA false), (6, .ptr 5 0)] fun G => b7 (wp_ret (l7 ?_)))); obtain ⟨ρ, G⟩ := G.nil 8 3 (.ints []) 1 (dI p.vars :: dI p.arrays :: dT p.body :: .box [.ref 8, .v (.slice none 0 0), .v (.slice none 0 0)] :: (aS3 p [])) [(2, .ptr 3 0), (3, bA false), (6, .ptr 5 0)]; obtain ⟨ρ, G⟩ := G.nil 9 3 (.ints []) 1 (dI p.vars :: dI p.arrays :: dT p.body :: .box [.ref 8, .ref 9, .v (.slice none 0 0)] :: (aS3 p [.row 3 (D.ints [])])) [(2, .ptr 3 0), (3, bA false), (6, .ptr 5 0)]; obtain ⟨ρ, G⟩ := G.nilT 10 (.stmts []) (dI p.vars :: dI p.arrays :: dT p.body :: .box [.ref 8, .ref 9, .tref 10] :: (aS3 p [.row 3 (D.ints []), .row 3 (D.ints [])])) [(2, .ptr 3 0), (3, bA false), (6, .ptr 5 0)]; exact W2 (.tup [.agg [.ref 8, .ref 9, .tref 10], bA false]) G [0, 1, 2, 8, 9, 10] (by have e1 : (Z9 p : Bool) = (false) := (bz8 (by with_reducible assumption)); (first | rw [e1] | simp only [e1]) <;> rfl) (by show _ = mR [0, 1, 2, 8, 9, 10] (aS6 p); unfold aS6; rw [bA7 (by with_reducible assumption)] <;> rfl)
  · have q0 := bne_iff_ne.1 h0; exact False.elim (by exact absurd hf (by omega))
theorem aZ5 (p : d7) (hb : p.size ≤ 1048576) : i9.ok Tryz.prog ⟨29, [pA 0], pS p, pS p ++ oP (A1 p), .tup [oA 3, bA (Z9 p)]⟩ := by
 by_cases hf : (C7 p false).1 = 0
 ·exact aM8 p hb hf
 ·exact aM9 p hb hf
end Go.Proofs.YthikdkjjdeehoaaGreat

namespace Go.Proofs.YthikdkjjdeehoaaGreat
set_option linter.unusedVariables false
set_option linter.unusedSimpArgs false
end Go.Proofs.YthikdkjjdeehoaaGreat

namespace Go.Proofs.YthikdkjjdeehoaaGreat
set_option linter.unusedVariables false
set_option linter.unusedSimpArgs false
open Go Go.RowKit
section
variable {ss : List b6} {k : Nat}
end
end Go.Proofs.YthikdkjjdeehoaaGreat

namespace Go.Proofs.YthikdkjjdeehoaaGreat
set_option linter.unusedVariables false
set_option linter.unusedSimpArgs false
open Go Go.RowKit
theorem aA3 {f g : b5 → Int} (ks : List b5) : ∀ (a : Int), (∀ k ∈ ks, f k = g k) → ks.foldl (fun a k => i6 a (f k)) a = ks.foldl (fun a k => i6 a (g k)) a := by
 induction ks with
 | nil => intro a _; simp only [List.foldl_nil]
 | cons k t ih =>
  intro a h
  simp only [List.foldl_cons]
  rw [h k cd0]
  exact ih _ fun q hq => h q (cd4 _ hq)
theorem bB8 {vs ars : List Int} (nv na : Nat) : ∀ (n : Nat) (e : b5), f5 nv na n e = true → b9 vs ars (n + 1) e = b9 vs ars n e
 | 0, _, h => by simp [f5] at h
 | n + 1, e, h => by
  rw [f5, cb3, cb3] at h
  rw [b9]
  conv => rhs; rw [b9]
  exact aA3 (f := b9 vs ars (n + 1)) (g := b9 vs ars n) e.kids _ fun k hk => bB8 nv na n k (cc2.1 h.1.2 k hk)
theorem a57 {f : b5 → Int} : ∀ (ks : List b5) (a : Int), w3 a (ks.foldl (fun a k => i6 a (f k)) a) ∧ ∀ k ∈ ks, w3 (f k) (ks.foldl (fun a k => i6 a (f k)) a)
 | [], a => ⟨w3.refl a, fun k hk => by cases hk⟩
 | k :: t, a => by
  obtain ⟨h1, h2⟩ := a57 (f := f) t (i6 a (f k))
  simp only [List.foldl_cons]
  refine ⟨(J8 _ _).trans h1, fun q hq => ?_⟩
  rcases ce4.1 hq with rfl | hq
  ·exact (aj0 _ _).trans h1
  ·exact h2 q hq
theorem bt6 {nv na n : Nat} {a : b5} (hs : f5 nv na n a = true) (hr : atomB a = true) : a.kids = [] := by
 cases n with
 | zero => simp [f5] at hs
 | succ m =>
  rw [f5, cb3, cb3] at hs
  have h1 := hs.1.1
  simp only [x8, cb3, decide_eq_true_eq] at h1
  have h2 := h1.1.1
  unfold atomB at hr
  simp only [Bool.or_eq_true, decide_eq_true_eq] at hr
  unfold n4 at h2
  rw [if_pos hr] at h2
  exact cc7 (by omega)
section
variable {p : d7} {l k : Int} (h : l5 p = true) (hl : d8 l = true)
include h hl
end
section
variable {p : d7} {l : Int}
end
end Go.Proofs.YthikdkjjdeehoaaGreat

namespace Go.Proofs.YthikdkjjdeehoaaGreat
set_option linter.unusedVariables false
set_option linter.unusedSimpArgs false
open Go Go.RowKit
theorem bd7 {a b : Int} (ha : d8 a = true) (hb : d8 b = true) (h : w3 a b) : (b ≤ 1 → a ≤ 1) ∧ (b = 0 → a = 0) ∧ (A0 a = true → A0 b = true) := by
 unfold d8 at ha hb
 simp only [cb3, decide_eq_true_eq] at ha hb
 have h1 : a = 0 ∨ a = 1 ∨ a = 2 ∨ a = 3 := by omega
 have h2 : b = 0 ∨ b = 1 ∨ b = 2 ∨ b = 3 := by omega
 unfold w3 bv at h
 rcases h1 with rfl | rfl | rfl | rfl <;> rcases h2 with rfl | rfl | rfl | rfl <;> revert h <;> decide +kernel
section
variable {vs ars : List Int} (hv : vs.all d8 = true) (ha : ars.all d8 = true)
include hv ha
end
def V1 (a b : List Int) : Prop := a.length ≤ b.length ∧ ∀ i, i < a.length → b.getD i 0 = a.getD i 0
theorem V1.refl (a : List Int) : V1 a a := ⟨cc6 _, fun _ _ => rfl⟩
theorem V1.trans {a b c : List Int} (h : V1 a b) (k : V1 b c) : V1 a c := ⟨cd3 h.1 k.1, fun i hi => (k.2 i (Nat.lt_of_lt_of_le hi h.1)).trans (h.2 i hi)⟩
theorem V1.app (a b : List Int) : V1 a (a ++ b) := ⟨by simp, fun i hi => by simp [cb8, cd6 hi]⟩
theorem V1.at {a b c : List Int} {x : Int} (h : V1 (a ++ x :: b) c) : c.getD a.length 0 = x := by
 rw [h.2 a.length (by simp)]; simp [cb8]
mutual
theorem ai8 (ars : List Int) (pc : Int) : ∀ (e : b5) (s : Q9), V1 s.1 (b8 ars pc e s).1.1
 | ⟨k, v, ks⟩, s => by
  have h := ax8 ars pc ks s
  rw [b8]
  split
  ·exact h.trans (V1.app _ _)
  ·exact h
theorem ax8 (ars : List Int) (pc : Int) : ∀ (ks : List b5) (s : Q9), V1 s.1 (n6 ars pc ks s).1.1
 | [], s => V1.refl _
 | e :: t, s => by rw [n6]; exact (ai8 ars pc e s).trans (ax8 ars pc t _)
end
mutual
theorem aJ5 (ars : List Int) : ∀ (s : b6) (m pc : Int) (x : Q9), V1 x.1 (r7 ars s m pc x).1
 | ⟨k, t, i, v, c, b, e⟩, m, pc, x => by
  have h := ai8 ars pc v x
  rw [r7]
  split
  ·exact D5 ars b m pc (x.1, [])
  ·split
   ·split
    ·refine (h.trans ?_).trans ((D5 ars b _ _ _).trans (D5 ars e _ _ _))
     exact (V1.app _ _).trans (V1.app _ _)
    ·exact h.trans ((D5 ars b m _ ((b8 ars pc v x).1.1, [])).trans (D5 ars e m _ (_, [])))
   ·split
    ·exact h
    ·split
     ·exact h
     ·split
      ·exact h.trans (V1.app _ _)
      ·exact h
theorem D5 (ars : List Int) : ∀ (ss : List b6) (m pc : Int) (x : Q9), V1 x.1 (k6 ars ss m pc x).1
 | [], _, _, x => V1.refl _
 | s :: r, m, pc, x => by rw [k6]; exact (aJ5 ars s m pc x).trans (D5 ars r m pc _)
end
theorem N7 {vs VS ars : List Int} {na : Nat} (h : V1 vs VS) : ∀ (d : Nat) (e : b5), f5 vs.length na d e = true → b9 VS ars d e = b9 vs ars d e
 | 0, _, hs => by simp [f5] at hs
 | d + 1, e, hs => by
  have ho : U8 VS ars e = U8 vs ars e := by
   unfold U8
   split
   ·rename_i k; exact h.2 _ (P3 hs k).2.2
   ·rfl
  rw [f5] at hs
  simp only [cb3, cc2] at hs
  rw [b9, b9, ho, aA3 e.kids _ fun k hk => N7 h d k (hs.1.2 k hk)]
theorem aJ8 {vs ars : List Int} {nv na : Nat} {e : b5} {c d : Nat} (hcd : c ≤ d) (h : f5 nv na c e = true) : b9 vs ars d e = b9 vs ars c e := by
 induction d with
 | zero => rw [show c = 0 by omega]
 | succ d ih =>
  rcases ce7 c (d + 1) with hl | hl
  ·rw [bB8 nv na d e (aH5 (by omega) h), ih (by omega)]
  ·rw [show c = d + 1 by omega]
section
variable {VS ars : List Int} (hv : VS.all d8 = true) (ha : ars.all d8 = true)
theorem a56 {f : b5 → Int} {Z : Int} : ∀ (ks : List b5) (a : Int), w3 a Z → (∀ k ∈ ks, w3 (f k) Z) → w3 (ks.foldl (fun a k => i6 a (f k)) a) Z
 | [], _, h, _ => h
 | k :: r, a, h, hk => a56 r (i6 a (f k)) (at9 h (hk k cd0)) fun x hx => hk x (cd4 _ hx)
theorem ad7 {vs ars : List Int} {Z : Int} {d : Nat} {e : b5} (h : w3 (U8 vs ars e) Z) (hk : ∀ k ∈ e.kids, w3 (b9 vs ars d k) Z) : w3 (b9 vs ars (d + 1) e) Z := by
 rw [b9]; exact a56 e.kids _ h hk
theorem bd9 {vs ars : List Int} {d : Nat} {e : b5} : w3 (U8 vs ars e) (b9 vs ars (d + 1) e) ∧ ∀ k ∈ e.kids, w3 (b9 vs ars d k) (b9 vs ars (d + 1) e) := by
 rw [b9]; exact a57 e.kids _
theorem bS6 {x y : Int} (hx : d8 x = true) (hy : d8 y = true) (h : w3 x y) : flB x y = true := by unfold flB; rw [hx, hy, bz2 h hy]; simp
theorem bE1 {x y : Int} (h : flB x y = true) : d8 x = true ∧ d8 y = true ∧ w3 x y := by
 unfold flB at h
 simp only [cb3, beq_iff_eq] at h
 exact ⟨h.1.1, h.1.2, bB5 h.2⟩
theorem aI0 {a b : Int} (ha : d8 a = true) (hb : d8 b = true) (h : w3 a b) (hs : A0 b = false) : A0 a = false := by
 cases h1 : A0 a
 ·rfl
 ·rw [(bd7 ha hb h).2.2 h1] at hs; cases hs
theorem bI8 : A0 0 = false := by decide +kernel
theorem bB9 : d8 0 = true := by decide +kernel
def Qok (VS ars : List Int) (pco : Int) (t : b6) : Prop := ∀ n strict, cdS VS ars strict n pco t = 0
theorem aM6 {s : b6} {pco : Int} (hf : F5 ⟨VS, ars, []⟩ s pco = 0) (hl : Y9 ⟨VS, ars, []⟩ s = 0) (hb : ∀ t ∈ s.body, Qok VS ars (E5 ⟨VS, ars, []⟩ s pco) t) (he : ∀ t ∈ s.els, Qok VS ars (E5 ⟨VS, ars, []⟩ s pco) t) : Qok VS ars pco s := by
 intro n strict
 cases n with
 | zero => rfl
 | succ n =>
  refine aL0.2 ⟨?_, fun t ht => hb t ht n strict, fun t ht => he t ht n strict⟩
  unfold K9
  rw [if_pos hf]
  cases strict
  ·rfl
  ·exact hl
theorem au3 {k t c : Int} {i v : b5} {b e : List b6} (h3 : k = 3 → A0 (b9 VS ars 5 v) = false) (h4 : k ≠ 4 → r8 VS ars 5 v = false) (h2 : k = 2 → A0 (b9 VS ars 5 i) = false) : Y9 ⟨VS, ars, []⟩ ⟨k, t, i, v, c, b, e⟩ = 0 := by
 show (if k = 3 ∧ A0 (b9 VS ars 5 v) = true then (3 : Int) else if (k ≠ 4 ∧ r8 VS ars 5 v = true) ∨ (k = 2 ∧ A0 (b9 VS ars 5 i) = true) then 4 else 0) = 0
 have n1 : ¬ (k = 3 ∧ A0 (b9 VS ars 5 v) = true) := fun h => by
  have h5 := h.2
  rw [h3 h.1] at h5; cases h5
 have n2 : ¬ ((k ≠ 4 ∧ r8 VS ars 5 v = true) ∨ (k = 2 ∧ A0 (b9 VS ars 5 i) = true)) := by
  intro h
  rcases h with h | h
  ·have h5 := h.2
   rw [h4 h.1] at h5; cases h5
  ·have h5 := h.2
   rw [h2 h.1] at h5; cases h5
 rw [if_neg n1, if_neg n2]
include hv ha
theorem au5 (d : Nat) (e : b5) : d8 (b9 VS ars d e) = true := ad8 hv ha d e
theorem aS2 {v : Int} {e : b5} {pco : Int} (hp : d8 pco = true) (h1 : w3 (b9 VS ars 5 e) (VS.getD v.toNat 0)) (h2 : w3 pco (VS.getD v.toNat 0)) (hs : r8 VS ars 5 e = false) : Qok VS ars pco (K1 v e) := by
 refine aM6 ?_ (au3 (fun h => by cases h) (fun _ => hs) fun h => by cases h) (fun t ht => by cases ht) fun t ht => by cases ht
 show (if flB (i6 (b9 VS ars 5 e) pco) (VS.getD v.toNat 0) = true then (0 : Int) else 1) = 0
 rw [if_pos (bS6 (T5 (au5 hv ha 5 e) hp) (O0 hv _) (at9 h1 h2))]
theorem bQ7 {t : Int} {i e : b5} {pco : Int} (hp : d8 pco = true) (h1 : w3 (b9 VS ars 5 e) (ars.getD t.toNat 0)) (h2 : w3 pco (ars.getD t.toNat 0)) (h3 : w3 (b9 VS ars 5 i) (ars.getD t.toNat 0)) (hs : r8 VS ars 5 e = false) (hi : A0 (b9 VS ars 5 i) = false) : Qok VS ars pco ⟨2, t, i, e, 0, [], []⟩ := by
 refine aM6 ?_ (au3 (fun h => by cases h) (fun _ => hs) fun _ => hi) (fun t ht => by cases ht) fun t ht => by cases ht
 show (if flB (i6 (i6 (b9 VS ars 5 e) (b9 VS ars 5 i)) pco) (ars.getD t.toNat 0) = true then (0 : Int) else 1) = 0
 rw [if_pos (bS6 (T5 (T5 (au5 hv ha 5 e) (au5 hv ha 5 i)) hp) (O0 ha _) (at9 (at9 h1 h3) h2))]
omit hv ha
theorem S7 (d : Nat) (n : Int) : b9 VS ars d (cnE n) = 0 := by cases d <;> rfl
theorem ah8 (d : Nat) (n : Int) : r8 VS ars d (cnE n) = false := by cases d <;> rfl
theorem aq0 (d : Nat) (n : Int) : b9 VS ars (d + 1) (vrE n) = VS.getD n.toNat 0 := rfl
theorem ap3 (d : Nat) (n : Int) : r8 VS ars d (vrE n) = false := by cases d <;> rfl
theorem bd8 {Z : Int} {a : Int} {i : b5} {d : Nat} (h1 : w3 (ars.getD a.toNat 0) Z) (h2 : w3 (b9 VS ars d i) Z) : w3 (b9 VS ars (d + 1) (rdE a i)) Z :=
 ad7 h1 fun k hk => by
  have hk : k ∈ [i] := hk
  rw [cd1] at hk; rw [hk]; exact h2
theorem bb5 {a : Int} {i : b5} {d : Nat} (h1 : A0 (b9 VS ars d i) = false) (h2 : r8 VS ars d i = false) : r8 VS ars (d + 1) (rdE a i) = false := by
 refine aV5 ?_ h1
 show [i].any _ = false
 simp [h2]
theorem aY1 {Z : Int} {a b c : b5} {d : Nat} (h1 : w3 (b9 VS ars d a) Z) (h2 : w3 (b9 VS ars d b) Z) (h3 : w3 (b9 VS ars d c) Z) : w3 (b9 VS ars (d + 1) (seE a b c)) Z :=
 ad7 (G5 _) fun k hk => by
  have hk : k ∈ [a, b, c] := hk
  simp only [ce4, List.not_mem_nil, or_false] at hk
  rcases hk with rfl | rfl | rfl <;> assumption
theorem aV3 {a b c : b5} {d : Nat} (h1 : r8 VS ars d a = false) (h2 : r8 VS ars d b = false) (h3 : r8 VS ars d c = false) : r8 VS ars (d + 1) (seE a b c) = false := by
 refine ap4 ?_ (by show ¬ (11 : Int) = 3; decide)
 show [a, b, c].any _ = false
 simp [h1, h2, h3]
theorem aY3 {Z : Int} {i : b5} {k : Int} {d : Nat} (h : w3 (b9 VS ars d i) Z) : w3 (b9 VS ars (d + 2) (N9 i k)) Z :=
 ad7 (G5 _) fun x hx => by
  have hx : x ∈ [⟨7, 0, [i, cnE 3]⟩, cnE k] := hx
  simp only [ce4, List.not_mem_nil, or_false] at hx
  rcases hx with rfl | rfl
  ·refine ad7 (G5 _) fun y hy => ?_
   have hy : y ∈ [i, cnE 3] := hy
   simp only [ce4, List.not_mem_nil, or_false] at hy
   rcases hy with rfl | rfl
   ·exact h
   ·rw [S7]; exact G5 _
  ·rw [S7]; exact G5 _
theorem aV4 {i : b5} {k : Int} {d : Nat} (h : r8 VS ars d i = false) : r8 VS ars (d + 2) (N9 i k) = false := by
 refine ap4 ?_ (by show ¬ (9 : Int) = 3; decide)
 show [(⟨7, 0, [i, cnE 3]⟩ : b5), cnE k].any _ = false
 have h7 : r8 VS ars (d + 1) ⟨7, 0, [i, cnE 3]⟩ = false := by
  refine ap4 ?_ (by show ¬ (7 : Int) = 3; decide)
  show [i, cnE 3].any _ = false
  simp only [List.any_cons, List.any_nil, h, Bool.false_or, Bool.or_false]; exact ah8 d 3
 simp only [List.any_cons, List.any_nil, h7, Bool.false_or, Bool.or_false]; exact ah8 _ k
theorem R5 {nv na d : Nat} {i : b5} (hi : atomB i = true) (hs : f5 nv na (d + 1) i = true) (c : Nat) : b9 VS ars (c + 1) i = b9 VS ars (d + 1) i ∧ r8 VS ars c i = false := by
 have hk := bt6 hs hi
 refine ⟨by simp only [b9, hk, List.foldl_nil], ?_⟩
 cases c with
 | zero => rfl
 | succ c =>
  unfold atomB at hi
  simp only [Bool.or_eq_true, decide_eq_true_eq] at hi
  exact ap4 (by rw [hk]; rfl) (by omega)
include hv ha
theorem b16 {v a : Int} {i : b5} {pco : Int} {nv na d : Nat} (hp : d8 pco = true) (hi : atomB i = true) (hs : f5 nv na (d + 1) i = true) (h1 : w3 (ars.getD a.toNat 0) (VS.getD v.toNat 0)) (h2 : w3 (b9 VS ars (d + 1) i) (VS.getD v.toNat 0)) (h3 : w3 pco (VS.getD v.toNat 0)) :
  ∀ (n : Nat), ∀ t ∈ Z8 v a i n, Qok VS ars pco t := by
 have rd0 : ∀ k : Int, ∀ c, w3 (b9 VS ars (c + 1) (rdE a (cnE k))) (VS.getD v.toNat 0) ∧ r8 VS ars (c + 1) (rdE a (cnE k)) = false := fun k c => ⟨bd8 h1 (by rw [S7]; exact G5 _), bb5 (by rw [S7]; exact bI8) (ah8 _ _)⟩
 intro n
 induction n with
 | zero =>
  intro t ht
  rw [Z8, cd1] at ht
  subst ht
  exact aS2 hv ha hp (rd0 0 4).1 h3 (rd0 0 4).2
 | succ n ih =>
  intro t ht
  rw [Z8, cc9, cd1] at ht
  rcases ht with ht | rfl
  ·exact ih t ht
  ·refine aS2 hv ha hp (aY1 (aY3 (d := 2) ?_) (rd0 _ 3).1 (by rw [aq0]; exact w3.refl _)) h3 (aV3 (aV4 (d := 2) (R5 hi hs 2).2) (rd0 _ 3).2 (ap3 _ _))
   rw [(R5 hi hs 1).1]; exact h2
theorem aX8 {pc pco : Int} {na : Nat} (hpc : d8 pc = true) (hpo : d8 pco = true) (hle : w3 pco pc) : ∀ (d : Nat), d ≤ 5 → ∀ (e : b5) (s : Q9), f5 s.1.length na d e = true → V1 (b8 ars pc e s).1.1 VS → (∀ t ∈ s.2, Qok VS ars pco t) →
  w3 (b9 VS ars d (b8 ars pc e s).2) (i6 (b9 VS ars d e) pc) ∧ r8 VS ars d (b8 ars pc e s).2 = false ∧ ∀ t ∈ (b8 ars pc e s).1.2, Qok VS ars pco t
 | 0, _, _, _, hs, _, _ => by simp [f5] at hs
 | d + 1, hd, e, s, hs, hx, hq => by
  have key : ∀ (ks : List b5) (s : Q9) (Z : Int), (∀ x ∈ ks, f5 s.1.length na d x = true) → V1 (n6 ars pc ks s).1.1 VS → (∀ t ∈ s.2, Qok VS ars pco t) → (∀ x ∈ ks, w3 (b9 VS ars d x) Z) → w3 pc Z →
    (∀ x ∈ (n6 ars pc ks s).2, w3 (b9 VS ars d x) Z ∧ r8 VS ars d x = false) ∧ ∀ t ∈ (n6 ars pc ks s).1.2, Qok VS ars pco t := by
   intro ks
   induction ks with
   | nil => intro s Z _ _ hq _ _; exact ⟨fun x hx => (by cases hx), hq⟩
   | cons x r ih =>
    intro s Z h hx hq hZ hpZ
    rw [n6] at hx ⊢
    obtain ⟨a1, a2, a3⟩ := aX8 hpc hpo hle d (by omega) x s (h x cd0) ((ax8 ars pc r _).trans hx) hq
    obtain ⟨b1, b2⟩ := ih (b8 ars pc x s).1 Z (fun y hy => w8 (ai8 ars pc x s).1 d y (h y (cd4 _ hy))) hx a3 (fun y hy => hZ y (cd4 _ hy)) hpZ
    refine ⟨fun y hy => ?_, b2⟩
    rcases ce4.1 hy with rfl | hy
    ·exact ⟨a1.trans (at9 (hZ x cd0) hpZ), a2⟩
    ·exact b1 y hy
  have hs0 := hs
  rw [f5] at hs
  simp only [cb3, cc2] at hs
  rw [ai9] at hx ⊢
  have hin := bd9 (vs := VS) (ars := ars) (d := d) (e := e)
  by_cases hc : e.kind = 3 ∧ A0 (b9 (n6 ars pc e.kids s).1.1 ars 5 (e.kids.getD 0 cb2)) = true
  ·rw [if_pos hc] at hx ⊢
   obtain ⟨i, h1, h2, h3, h4⟩ := ai1 hc.1 hs0
   have hr := ai0 (ars := ars) (pc := pc) (s := s) hc.1 hs0
   have e0 : e.kids.getD 0 cb2 = i := by rw [h1]; rfl
   rw [hr, e0] at hx ⊢
   have hx : V1 (s.1 ++ [i6 (b9 s.1 ars 5 e) pc]) VS := hx
   have hxs : V1 s.1 VS := (V1.app _ _).trans hx
   have hl : VS.getD s.1.length 0 = i6 (b9 VS ars (d + 1) e) pc := by
    rw [hx.at, aJ8 hd hs0, N7 hxs (d + 1) e hs0]
   obtain ⟨d', rfl⟩ : ∃ d', d = d' + 1 := by
    cases d with
    | zero => simp [f5] at h3
    | succ d' => exact ⟨d', rfl⟩
   refine ⟨?_, ap3 _ _, fun t ht => ?_⟩
   ·show w3 (b9 VS ars (d' + 1 + 1) (vrE (s.1.length : Int))) _
    rw [aq0, Int.toNat_natCast, hl]; exact w3.refl _
   ·rcases cc9.1 ht with ht | ht
    ·exact hq t ht
    ·refine b16 hv ha hpo h2 h3 ?_ ?_ ?_ 3 t ht
     ·rw [Int.toNat_natCast, hl]
      refine w3.trans ?_ (J8 _ _)
      have := hin.1
      unfold U8 at this
      rw [if_neg (by omega), if_pos hc.1] at this
      exact this
     ·rw [Int.toNat_natCast, hl]
      exact (hin.2 i (by rw [h1]; exact cd1.2 rfl)).trans (J8 _ _)
     ·rw [Int.toNat_natCast, hl]; exact hle.trans (aj0 _ _)
  ·rw [if_neg hc] at hx ⊢
   obtain ⟨b1, b2⟩ := key e.kids s (i6 (b9 VS ars (d + 1) e) pc) hs.1.2 hx hq (fun x hx => (hin.2 x hx).trans (J8 _ _)) (aj0 _ _)
   refine ⟨ad7 (hin.1.trans (J8 _ _)) fun x hx => (b1 x hx).1, ?_, b2⟩
   have hany : (n6 ars pc e.kids s).2.any (r8 VS ars d) = false := by
    rw [List.any_eq_false]; intro x hx; rw [(b1 x hx).2]; decide
   by_cases k : e.kind = 3
   ·refine aV5 hany ?_
    obtain ⟨i, h1, h2, h3, h4⟩ := ai1 k hs0
    have hr := ai0 (ars := ars) (pc := pc) (s := s) k hs0
    have e0 : e.kids.getD 0 cb2 = i := by rw [h1]; rfl
    rw [hr] at hc hx
    rw [e0] at hc
    show A0 (b9 VS ars d ((n6 ars pc e.kids s).2.getD 0 cb2)) = false
    rw [hr]
    show A0 (b9 VS ars d (e.kids.getD 0 cb2)) = false
    have hx : V1 s.1 VS := hx
    rw [e0, N7 hx d i h3, ← aJ8 (show d ≤ 5 by omega) h3]
    cases h5 : A0 (b9 s.1 ars 5 i)
    ·rfl
    ·exact absurd ⟨k, h5⟩ hc
   ·exact ap4 hany k
end
theorem bf0 {vs VS ars : List Int} (h : V1 vs VS) : ∀ (d : Nat) (s : b6) (pc : Int), f6 vs.length ars.length d s = true → cdS vs ars false d pc s = 0 → cdS VS ars false d pc s = 0
 | 0, _, _, hs, _ => by simp [f6] at hs
 | d + 1, s, pc, hs, hc => by
  rw [C5, cb3, cb3] at hs
  rw [aL0, bk3] at hc ⊢
  have hin : E5 ⟨VS, ars, []⟩ s pc = E5 ⟨vs, ars, []⟩ s pc := by
   show (if s.kind = 3 then i6 pc (b9 VS ars 5 s.value) else pc) = (if s.kind = 3 then i6 pc (b9 vs ars 5 s.value) else pc)
   split
   ·rename_i k; rw [N7 h 5 _ (n7 hs.1 (by omega))]
   ·rfl
  rw [hin]
  refine ⟨?_, fun t ht => bf0 h d t _ (cc2.1 hs.2.1 t ht) (hc.2.1 t ht), fun t ht => bf0 h d t _ (cc2.1 hs.2.2 t ht) (hc.2.2 t ht)⟩
  rw [← hc.1]
  unfold F5
  split
  ·rename_i k
   show (if flB (i6 (b9 VS ars 5 s.value) pc) (VS.getD s.target.toNat 0) = true then (0 : Int) else 1) = (if flB (i6 (b9 vs ars 5 s.value) pc) (vs.getD s.target.toNat 0) = true then (0 : Int) else 1)
   rw [N7 h 5 _ (n7 hs.1 (by omega)), h.2 _ (X0 hs.1 (.inl k)).2.2]
  ·split
   ·rename_i k
    show (if flB (i6 (i6 (b9 VS ars 5 s.value) (b9 VS ars 5 s.index)) pc) (ars.getD s.target.toNat 0) = true then (0 : Int) else 1) = (if flB (i6 (i6 (b9 vs ars 5 s.value) (b9 vs ars 5 s.index)) pc) (ars.getD s.target.toNat 0) = true then (0 : Int) else 1)
    rw [N7 h 5 _ (n7 hs.1 (by omega)), N7 h 5 _ (X1 hs.1 k)]
   ·split
    ·rename_i k
     show (if ((d8 (b9 VS ars 5 s.value) && decide (b9 VS ars 5 s.value ≤ 1)) && decide (pc = 0)) = true then (0 : Int) else 2) = (if ((d8 (b9 vs ars 5 s.value) && decide (b9 vs ars 5 s.value ≤ 1)) && decide (pc = 0)) = true then (0 : Int) else 2)
     rw [N7 h 5 _ (n7 hs.1 (by omega))]
    ·rfl
theorem aR0 {ars : List Int} {pc : Int} {na : Nat} : ∀ (d : Nat), d ≤ 5 → ∀ (e : b5) (s : Q9), f5 s.1.length na d e = true → r8 s.1 ars d e = false → b8 ars pc e s = (s, e)
 | 0, _, _, _, hs, _ => by simp [f5] at hs
 | d + 1, hd, e, s, hs, hn => by
  have key : ∀ ks : List b5, (∀ x ∈ ks, f5 s.1.length na d x = true ∧ r8 s.1 ars d x = false) → n6 ars pc ks s = (s, ks) := by
   intro ks
   induction ks with
   | nil => intro _; rfl
   | cons x r ih =>
    intro h
    have h1 := aR0 (pc := pc) d (by omega) x s (h x cd0).1 (h x cd0).2
    simp only [n6, h1, ih fun y hy => h y (cd4 _ hy)]
  have hs0 := hs
  rw [f5] at hs
  simp only [cb3, cc2] at hs
  rw [r8, Bool.or_eq_false_iff] at hn
  have hk := key e.kids fun x hx => ⟨hs.1.2 x hx, by
   have := List.any_eq_false.1 hn.2 x hx
   simpa using this⟩
  rw [ai9, hk, if_neg]
  ·simp only [b5.eta]
  ·rintro ⟨k, h5⟩
   obtain ⟨i, h1, h2, h3, h4⟩ := ai1 k hs0
   have e0 : e.kids.getD 0 cb2 = i := by rw [h1]; rfl
   rw [e0] at h5 hn
   have h5 : A0 (b9 s.1 ars 5 i) = true := h5
   have h6 := hn.1
   rw [decide_eq_true k, cf3] at h6
   have h6 : A0 (b9 s.1 ars d i) = false := h6
   rw [← aJ8 (show d ≤ 5 by omega) h3, h5] at h6
   cases h6
section
variable {VS ars : List Int} (hv : VS.all d8 = true) (ha : ars.all d8 = true)
theorem aY2 : ∀ (d : Nat) (e : b5), w3 (b9 VS ars d e) (b9 VS ars (d + 1) e)
 | 0, _ => G5 _
 | d + 1, e => by
  have h := bd9 (vs := VS) (ars := ars) (d := d + 1) (e := e)
  exact ad7 h.1 fun k hk => (aY2 d k).trans (h.2 k hk)
include hv ha
theorem bb6 : ∀ (d : Nat) (e : b5), r8 VS ars (d + 1) e = false → r8 VS ars d e = false
 | 0, _, _ => rfl
 | d + 1, e, h => by
  rw [r8, Bool.or_eq_false_iff] at h ⊢
  refine ⟨?_, ?_⟩
  ·by_cases k : e.kind = 3
   ·have h1 := h.1
    rw [decide_eq_true k, cf3] at h1 ⊢
    exact aI0 (au5 hv ha _ _) (au5 hv ha _ _) (aY2 d _) h1
   ·rw [decide_eq_false k, Bool.false_and]
  ·rw [List.any_eq_false] at h ⊢
   intro x hx
   have h2 := h.2 x hx
   rw [bb6 d x (by simpa using h2)]; decide
theorem aH9 : ∀ (d : Nat) (e : b5), A0 (b9 VS ars d e) = false → r8 VS ars d e = false
 | 0, _, _ => rfl
 | d + 1, e, h => by
  have hin := bd9 (vs := VS) (ars := ars) (d := d) (e := e)
  rw [r8, Bool.or_eq_false_iff]
  refine ⟨?_, ?_⟩
  ·by_cases k : e.kind = 3
   ·rw [decide_eq_true k, cf3]
    by_cases hl : e.kids = []
    ·rw [hl]
     show A0 (b9 VS ars d cb2) = false
     have : b9 VS ars d cb2 = 0 := by cases d <;> rfl
     rw [this]; exact bI8
    ·obtain ⟨x, r, hx⟩ := List.exists_cons_of_ne_nil hl
     rw [hx]
     exact aI0 (au5 hv ha _ _) (au5 hv ha _ _) (hin.2 x (by rw [hx]; exact cd0)) h
   ·rw [decide_eq_false k, Bool.false_and]
  ·rw [List.any_eq_false]
   intro x hx
   rw [aH9 d x (aI0 (au5 hv ha _ _) (au5 hv ha _ _) (hin.2 x hx) h)]; decide
omit hv ha in
theorem aC4 {m : Int} {e f : b5} {Z : Int} (hm : m < 0 ∨ ∃ j : Nat, m = j ∧ w3 (VS.getD j 0) Z) (he : w3 (b9 VS ars 5 e) Z) (hf : w3 (b9 VS ars 5 f) Z) : w3 (b9 VS ars 5 (s5 m e f)) Z := by
 unfold s5
 split
 ·exact he
 ·rcases hm with hm | ⟨j, rfl, hj⟩
  ·omega
  ·exact aY1 (d := 4) (by rw [aq0]; exact hj) ((aY2 4 e).trans he) ((aY2 4 f).trans hf)
theorem aC3 {m : Int} {e f : b5} (he : r8 VS ars 5 e = false) (hf : r8 VS ars 5 f = false) : r8 VS ars 5 (s5 m e f) = false := by
 unfold s5
 split
 ·exact he
 ·exact aV3 (d := 4) (ap3 _ _) (bb6 hv ha 4 e he) (bb6 hv ha 4 f hf)
theorem bT6 {v t m : Int} {i : b5} {pco : Int} {nv na : Nat} (hp : d8 pco = true) (hi : atomB i = true) (hs : f5 nv na 5 i = true) (hm : m < 0 ∨ ∃ j : Nat, m = j ∧ w3 (VS.getD j 0) (ars.getD t.toNat 0)) (h1 : w3 (VS.getD v.toNat 0) (ars.getD t.toNat 0)) (h2 : w3 (b9 VS ars 5 i) (ars.getD t.toNat 0)) (h3 : w3 pco (ars.getD t.toNat 0)) :
  ∀ (n : Nat), ∀ x ∈ T3 v t i m n, Qok VS ars pco x := by
 intro n
 induction n with
 | zero => intro x hx; cases hx
 | succ n ih =>
  intro x hx
  rw [T3, cc9, cd1] at hx
  rcases hx with hx | rfl
  ·exact ih x hx
  ·have hr := bd8 (VS := VS) (ars := ars) (a := t) (i := cnE (n : Int)) (d := 3) (w3.refl _) (by rw [S7]; exact G5 _)
   have hrs : r8 VS ars 4 (rdE t (cnE (n : Int))) = false := bb5 (by rw [S7]; exact bI8) (ah8 _ _)
   have hl : ∀ c, w3 (b9 VS ars (c + 1) i) (ars.getD t.toNat 0) := fun c => by rw [(R5 hi hs c).1]; exact h2
   refine bQ7 hv ha hp (aY1 (d := 4) ?_ (by rw [aq0]; exact h1) hr) h3 (by rw [S7]; exact G5 _) (aV3 (d := 4) ?_ (ap3 _ _) hrs) (by rw [S7]; exact bI8)
   ·unfold s5
    split
    ·exact aY3 (d := 2) (hl 1)
    ·rcases hm with hm | ⟨j, rfl, hj⟩
     ·omega
     ·exact aY1 (d := 3) (by rw [aq0]; exact hj) (aY3 (d := 1) (hl 0)) (by rw [S7]; exact G5 _)
   ·unfold s5
    split
    ·exact aV4 (d := 2) (R5 hi hs 2).2
    ·exact aV3 (d := 3) (ap3 _ _) (aV4 (d := 1) (R5 hi hs 1).2) (ah8 _ _)
omit hv ha in
theorem aX9 {pc pco : Int} {nv na d : Nat} {m : Int} (ih : ∀ (s : b6) (x : Q9), f6 nv na d s = true → nv ≤ x.1.length → cdS VS ars false d pc s = 0 → V1 (r7 ars s m pc x).1 VS → (∀ t ∈ x.2, Qok VS ars pco t) → ∀ t ∈ (r7 ars s m pc x).2, Qok VS ars pco t) :
  ∀ (ss : List b6) (x : Q9), ss.all (f6 nv na d) = true → nv ≤ x.1.length → (∀ s ∈ ss, cdS VS ars false d pc s = 0) → V1 (k6 ars ss m pc x).1 VS → (∀ t ∈ x.2, Qok VS ars pco t) → ∀ t ∈ (k6 ars ss m pc x).2, Qok VS ars pco t
 | [], _, _, _, _, _, hq => hq
 | s :: r, x, h, hx, hc, he, hq => by
  simp only [List.all_cons, cb3] at h
  rw [k6] at he ⊢
  exact aX9 ih r _ h.2 (cd3 hx (aJ5 ars s m pc x).1) (fun t ht => hc t (cd4 _ ht)) he (ih s x h.1 hx (hc s cd0) ((D5 ars r m pc _).trans he) hq)
theorem bl4 {nv : Nat} : ∀ (d : Nat) (s : b6) (m pc pco : Int) (x : Q9), f6 nv ars.length d s = true → nv ≤ x.1.length → d8 pc = true → d8 pco = true → w3 pco pc → (m < 0 ∨ ∃ j : Nat, m = j ∧ w3 (VS.getD j 0) pc) →
  cdS VS ars false d pc s = 0 → V1 (r7 ars s m pc x).1 VS → (∀ t ∈ x.2, Qok VS ars pco t) → ∀ t ∈ (r7 ars s m pc x).2, Qok VS ars pco t
 | 0, _, _, _, _, _, h, _, _, _, _, _, _, _, _ => by simp [f6] at h
 | d + 1, s, m, pc, pco, x, h, hx, hpc, hpo, hle, hm, hc, he, hq => by
  have blk := fun (m pc pco : Int) (h1 : d8 pc = true) (h2 : d8 pco = true) (h3 : w3 pco pc) (h4 : m < 0 ∨ ∃ j : Nat, m = j ∧ w3 (VS.getD j 0) pc) => aX9 (VS := VS) (ars := ars) (pc := pc) (pco := pco) (nv := nv) (na := ars.length) (d := d) (m := m) fun s x a1 a2 a3 a4 a5 => bl4 d s m pc pco x a1 a2 h1 h2 h3 h4 a3 a4 a5
  rw [C5, cb3, cb3] at h
  obtain ⟨hh, hb, hel⟩ := h
  obtain ⟨c1, c2, c3⟩ := aL0.1 hc
  rw [bk3] at c1
  have hin : E5 ⟨VS, ars, []⟩ s pc = if s.kind = 3 then i6 pc (b9 VS ars 5 s.value) else pc := rfl
  rw [hin] at c2 c3
  by_cases k4 : s.kind = 4
  ·rw [ln4 k4] at he ⊢
   rw [if_neg (by omega)] at c2
   intro t ht
   rcases cc9.1 ht with ht | ht
   ·exact hq t ht
   ·rw [cd1] at ht
    subst ht
    have hB := blk m pc pco hpc hpo hle hm s.body (x.1, []) hb hx c2 he (fun t ht => by cases ht)
    exact aM6 rfl (au3 (fun h => by cases h) (fun h => absurd rfl h) fun h => by cases h) (fun t ht => hB t ht) fun t ht => by cases ht
  have hsv : f5 nv ars.length 5 s.value = true := n7 hh k4
  have hsx : f5 x.1.length ars.length 5 s.value = true := w8 hx 5 _ hsv
  by_cases k3 : s.kind = 3
  ·rw [if_pos k3] at c2 c3
   have hxe : V1 x.1 VS := (aJ5 ars s m pc x).trans he
   have hlv := N7 (ars := ars) hxe 5 s.value hsx
   have hp2 := T5 hpc (au5 hv ha 5 s.value)
   cases hs : A0 (b9 x.1 ars 5 s.value)
   ·rw [bB1 k3 hs, ← hlv] at he
    rw [bB1 k3 hs, ← hlv]
    rw [← hlv] at hs
    have hsn := aH9 hv ha 5 _ hs
    have hsm : b8 ars pc s.value x = (x, s.value) := aR0 5 (cc6 _) _ _ hsx (by
     cases h9 : r8 x.1 ars 5 s.value
     ·rfl
     ·exfalso
      have hxa : x.1.all d8 = true := by
       rw [cc2]; intro y hy
       obtain ⟨i, hi, rfl⟩ := List.getElem_of_mem hy
       have := hxe.2 i hi
       rw [m9 hi] at this
       rw [← this]; exact O0 hv i
      have := aH9 hxa ha 5 s.value (by rw [← hlv]; exact hs)
      rw [this] at h9; cases h9)
    rw [hsm] at he ⊢
    intro t ht
    rcases cc9.1 ht with ht | ht
    ·exact hq t ht
    ·rw [cd1] at ht
     subst ht
     have he1 : V1 (k6 ars s.body m (i6 pc (b9 VS ars 5 s.value)) (x.1, [])).1 VS := (D5 ars s.els m _ (_, [])).trans he
     have hle2 := Y7 hle (w3.refl (b9 VS ars 5 s.value))
     have hpo2 := T5 hpo (au5 hv ha 5 s.value)
     have hm2 : m < 0 ∨ ∃ j : Nat, m = j ∧ w3 (VS.getD j 0) (i6 pc (b9 VS ars 5 s.value)) := hm.imp id fun ⟨j, h1, h2⟩ => ⟨j, h1, h2.trans (J8 _ _)⟩
     have B1 := blk m _ _ hp2 hpo2 hle2 hm2 s.body (x.1, []) hb hx c2 he1 (fun t ht => by cases ht)
     have B2 := blk m _ _ hp2 hpo2 hle2 hm2 s.els (_, []) hel (cd3 hx (D5 ars s.body m _ (x.1, [])).1) c3 he (fun t ht => by cases ht)
     exact aM6 rfl (au3 (fun _ => hs) (fun _ => hsn) fun h => by cases h) (fun t ht => B1 t ht) fun t ht => B2 t ht
   ·rw [bB0 k3 hs, ← hlv] at he
    rw [bB0 k3 hs, ← hlv]
    generalize hl : i6 pc (b9 VS ars 5 s.value) = l at he c2 c3 hp2 ⊢
    have hpl : w3 pc l := by rw [← hl]; exact J8 _ _
    have hB1 : V1 (k6 ars s.body ((b8 ars pc s.value x).1.1.length : Int) l (ifM (b8 ars pc s.value x) m l)).1 VS := (D5 ars s.els _ _ _).trans he
    have hY : V1 ((b8 ars pc s.value x).1.1 ++ [l] ++ [l]) VS := (D5 ars s.body _ _ (ifM (b8 ars pc s.value x) m l)).trans hB1
    have hY1 : V1 ((b8 ars pc s.value x).1.1 ++ [l]) VS := (V1.app _ _).trans hY
    have hY0 : V1 (b8 ars pc s.value x).1.1 VS := (V1.app _ _).trans hY1
    have v1 : VS.getD (b8 ars pc s.value x).1.1.length 0 = l := hY1.at
    have v2 : VS.getD ((b8 ars pc s.value x).1.1 ++ [l]).length 0 = l := hY.at
    obtain ⟨e1, e2, e3⟩ := aX8 hv ha hpc hpo hle 5 (cc6 _) s.value x hsx hY0 hq
    have e1 : w3 (b9 VS ars 5 (b8 ars pc s.value x).2) l := e1.trans (by rw [← hl]; exact at9 (aj0 _ _) (J8 _ _))
    have hml : m < 0 ∨ ∃ j : Nat, m = j ∧ w3 (VS.getD j 0) l := hm.imp id fun ⟨j, h1, h2⟩ => ⟨j, h1, h2.trans hpl⟩
    have hq2 : ∀ t ∈ (ifM (b8 ars pc s.value x) m l).2, Qok VS ars pco t := by
     intro t ht
     rcases cc9.1 ht with ht | ht
     ·rcases cc9.1 ht with ht | ht
      ·exact e3 t ht
      ·rw [cd1] at ht
       subst ht
       refine aS2 hv ha hpo ?_ ?_ (aC3 hv ha e2 (ah8 _ _))
       ·rw [Int.toNat_natCast, v1]; exact aC4 hml e1 (by rw [S7]; exact G5 _)
       ·rw [Int.toNat_natCast, v1]; exact hle.trans hpl
     ·rw [cd1] at ht
      subst ht
      refine aS2 hv ha hpo ?_ ?_ (aC3 hv ha ?_ (ah8 _ _))
      ·rw [Int.toNat_natCast, v2]
       refine aC4 hml ?_ (by rw [S7]; exact G5 _)
       refine ad7 (G5 _) fun k hk => ?_
       have hk : k ∈ [vrE ((b8 ars pc s.value x).1.1.length : Int), cnE 0] := hk
       simp only [ce4, List.not_mem_nil, or_false] at hk
       rcases hk with rfl | rfl
       ·rw [aq0, Int.toNat_natCast, v1]; exact w3.refl _
       ·rw [S7]; exact G5 _
      ·rw [Int.toNat_natCast, v2]; exact hle.trans hpl
      ·refine ap4 ?_ (by show ¬ (9 : Int) = 3; decide)
       show [vrE ((b8 ars pc s.value x).1.1.length : Int), cnE 0].any _ = false
       simp only [List.any_cons, List.any_nil, Bool.or_false, Bool.or_eq_false_iff]
       exact ⟨ap3 _ _, ah8 _ _⟩
    have hn : nv ≤ (ifM (b8 ars pc s.value x) m l).1.length := by
     have := (ai8 ars pc s.value x).1
     simp only [ifM, cb5]; omega
    have B1 := blk ((b8 ars pc s.value x).1.1.length : Int) l pco hp2 hpo (hle.trans hpl) (.inr ⟨_, rfl, by rw [v1]; exact w3.refl _⟩) s.body (ifM (b8 ars pc s.value x) m l) hb hn c2 hB1 hq2
    exact blk (((b8 ars pc s.value x).1.1 ++ [l]).length : Int) l pco hp2 hpo (hle.trans hpl) (.inr ⟨_, rfl, by rw [v2]; exact w3.refl _⟩) s.els _ hel (cd3 hn (D5 ars s.body _ l (ifM (b8 ars pc s.value x) m l)).1) c3 he B1
  have hE0 : V1 (b8 ars pc s.value x).1.1 (r7 ars s m pc x).1 := by
   by_cases k5 : s.kind = 5
   ·rw [ln5 k5]; exact V1.refl _
   by_cases k1 : s.kind = 1
   ·rw [ln1 k1]; exact V1.refl _
   by_cases k2 : s.kind = 2
   ·cases hs : A0 (b9 (b8 ars pc s.value x).1.1 ars 5 s.index)
    ·rw [bq5 k2 hs]; exact V1.refl _
    ·rw [bq4 k2 hs]; exact V1.app _ _
   ·rw [an4 ⟨k1, k2, k3, k4, k5⟩] at hh; cases hh
  have hY0 := hE0.trans he
  obtain ⟨e1, e2, e3⟩ := aX8 hv ha hpc hpo hle 5 (cc6 _) s.value x hsx hY0 hq
  by_cases k5 : s.kind = 5
  ·rw [ln5 k5]
   intro t ht
   rcases cc9.1 ht with ht | ht
   ·exact e3 t ht
   ·rw [cd1] at ht
    subst ht
    unfold F5 at c1
    rw [if_neg (by omega), if_neg (by omega), if_pos k5] at c1
    split at c1
    ·rename_i hf
     have hf : ((d8 (b9 VS ars 5 s.value) && decide (b9 VS ars 5 s.value ≤ 1)) && decide (pc = 0)) = true := hf
     simp only [cb3, decide_eq_true_eq] at hf
     have p0 : pco = 0 := (bd7 hpo hpc hle).2.1 hf.2
     have hle2 : w3 (b9 VS ars 5 (b8 ars pc s.value x).2) (b9 VS ars 5 s.value) := e1.trans (at9 (w3.refl _) (by rw [hf.2]; exact G5 _))
     refine aM6 ?_ (au3 (fun h => by cases h) (fun _ => e2) fun h => by cases h) (fun t ht => by cases ht) fun t ht => by cases ht
     show (if ((d8 (b9 VS ars 5 (b8 ars pc s.value x).2) && decide (b9 VS ars 5 (b8 ars pc s.value x).2 ≤ 1)) && decide (pco = 0)) = true then (0 : Int) else 2) = 0
     rw [au5 hv ha, decide_eq_true ((bd7 (au5 hv ha _ _) (au5 hv ha _ _) hle2).1 hf.1.2), decide_eq_true p0]; rfl
    ·cases c1
  by_cases k1 : s.kind = 1
  ·rw [ln1 k1]
   intro t ht
   rcases cc9.1 ht with ht | ht
   ·exact e3 t ht
   ·rw [cd1] at ht
    subst ht
    unfold F5 at c1
    rw [if_pos k1] at c1
    split at c1
    ·rename_i hf
     have hf : flB (i6 (b9 VS ars 5 s.value) pc) (VS.getD s.target.toNat 0) = true := hf
     obtain ⟨-, -, f3⟩ := bE1 hf
     have fp : w3 pc (VS.getD s.target.toNat 0) := (aj0 _ _).trans f3
     refine aS2 hv ha hpo (aC4 (hm.imp id fun ⟨j, h1, h2⟩ => ⟨j, h1, h2.trans fp⟩) (e1.trans f3) (by rw [aq0]; exact w3.refl _)) (hle.trans fp) (aC3 hv ha e2 (ap3 _ _))
    ·cases c1
  by_cases k2 : s.kind = 2
  ·obtain ⟨q1, q2, q3⟩ := ae0 hh k2
   have hsi := w8 (cd3 hx (ai8 ars pc s.value x).1) 5 _ q3
   have hli := N7 (ars := ars) hY0 5 s.index hsi
   unfold F5 at c1
   rw [if_neg (by omega), if_pos k2] at c1
   split at c1
   ·rename_i hf
    have hf : flB (i6 (i6 (b9 VS ars 5 s.value) (b9 VS ars 5 s.index)) pc) (ars.getD s.target.toNat 0) = true := hf
    obtain ⟨-, -, f3⟩ := bE1 hf
    have fp : w3 pc (ars.getD s.target.toNat 0) := (aj0 _ _).trans f3
    have fi : w3 (b9 VS ars 5 s.index) (ars.getD s.target.toNat 0) := ((aj0 _ _).trans (J8 _ _)).trans f3
    have fv : w3 (b9 VS ars 5 (b8 ars pc s.value x).2) (ars.getD s.target.toNat 0) := e1.trans (at9 (((J8 _ _).trans (J8 _ _)).trans f3) fp)
    have hmt : m < 0 ∨ ∃ j : Nat, m = j ∧ w3 (VS.getD j 0) (ars.getD s.target.toNat 0) := hm.imp id fun ⟨j, h1, h2⟩ => ⟨j, h1, h2.trans fp⟩
    cases hs : A0 (b9 (b8 ars pc s.value x).1.1 ars 5 s.index)
    ·rw [bq5 k2 hs]
     rw [← hli] at hs
     intro t ht
     rcases cc9.1 ht with ht | ht
     ·exact e3 t ht
     ·rw [cd1] at ht
      subst ht
      have hs3 : A0 (b9 VS ars 4 s.index) = false := by rw [(R5 q2 q3 3).1]; exact hs
      exact bQ7 hv ha hpo (aC4 hmt fv (bd8 (w3.refl _) (by rw [(R5 q2 q3 3).1]; exact fi))) (hle.trans fp) fi (aC3 hv ha e2 (bb5 hs3 (R5 q2 q3 4).2)) hs
    ·rw [bq4 k2 hs] at he ⊢
     have he : V1 ((b8 ars pc s.value x).1.1 ++ [i6 (b9 (b8 ars pc s.value x).1.1 ars 5 (b8 ars pc s.value x).2) pc]) VS := he
     have v1 := he.at
     rw [← N7 hY0 5 _ (Y8 ars pc ars.length 5 s.value x hsx).2.1] at v1
     intro t ht
     rcases cc9.1 ht with ht | ht
     ·rcases cc9.1 ht with ht | ht
      ·exact e3 t ht
      ·rw [cd1] at ht
       subst ht
       refine aS2 hv ha hpo ?_ ?_ e2
       ·rw [Int.toNat_natCast, v1]; exact J8 _ _
       ·rw [Int.toNat_natCast, v1]; exact hle.trans (aj0 _ _)
     ·exact bT6 hv ha hpo q2 q3 hmt (by rw [Int.toNat_natCast, v1]; exact at9 fv fp) fi (hle.trans fp) 4 t ht
   ·cases c1
  ·rw [an4 ⟨k1, k2, k3, k4, k5⟩] at hh; cases hh
end
theorem bV9 {p : d7} (h : Z9 p = true) : (ctR (aX7 p)).1 = 0 := by
 unfold Z9 at h
 simp only [cb3, decide_eq_true_eq] at h
 obtain ⟨h1, h2⟩ := h
 have hc := (av4 p false).1 h1
 have hp := P5 hc.1
 have hq := P5 h2
 have hx : V1 p.vars (af8 p).1 := D5 p.arrays p.body (-1) 0 (p.vars, [])
 have key := aX9 (VS := (af8 p).1) (ars := p.arrays) (pc := 0) (pco := 0) (nv := p.vars.length) (na := p.arrays.length) (d := 5) (m := -1)
  (fun s x a1 a2 a3 a4 a5 => bl4 hq.1 hq.2.1 5 s (-1) 0 0 x a1 a2 bB9 bB9 (w3.refl _) (.inl (by decide)) a3 a4 a5) p.body (p.vars, []) hp.2.2.2 (cc6 _)
  (fun s hs => bf0 hx 5 s 0 (cc2.1 hp.2.2.2 s hs) (hc.2 s hs)) (V1.refl _) (fun t ht => by cases ht)
 rw [bN1]
 exact ⟨h2, fun s hs => key s hs 5 false, fun s hs => key s hs 5 true⟩
mutual
def at5 : b6 → Bool
 | ⟨k, _, _, _, _, b, e⟩ => decide (k ≠ 5) && (G3 b && G3 e)
def G3 : List b6 → Bool
 | [] => true
 | s :: r => at5 s && G3 r
end
theorem J7 : ∀ a b : List b6, G3 (a ++ b) = (G3 a && G3 b)
 | [], b => by simp [G3]
 | s :: r, b => by simp only [List.cons_append, G3]; rw [J7 r b, Bool.and_assoc]
theorem a30 (s : b6) : at5 s = (decide (s.kind ≠ 5) && (G3 s.body && G3 s.els)) := by cases s; rw [at5]; rfl
theorem at6 {nv na d : Nat} (ih : ∀ s : b6, f6 nv na d s = true → P7 d s = at5 s) : ∀ ss : List b6, ss.all (f6 nv na d) = true → ss.all (P7 d) = G3 ss
 | [], _ => rfl
 | s :: r, h => by
  simp only [List.all_cons, cb3] at h
  rw [List.all_cons, ih s h.1, at6 ih r h.2, G3]
theorem aB9 {nv na : Nat} : ∀ (d : Nat) (s : b6), f6 nv na d s = true → P7 d s = at5 s
 | 0, _, h => by simp [f6] at h
 | d + 1, s, h => by
  rw [C5, cb3, cb3] at h
  rw [P7, a30, at6 (fun s => aB9 d s) s.body h.2.1, at6 (fun s => aB9 d s) s.els h.2.2]
theorem bk1 (v a : Int) (i : b5) : ∀ n, G3 (Z8 v a i n) = true
 | 0 => rfl
 | n + 1 => by rw [Z8, J7, bk1 v a i n]; rfl
theorem bk0 (v t : Int) (i : b5) (m : Int) : ∀ n, G3 (T3 v t i m n) = true
 | 0 => rfl
 | n + 1 => by rw [T3, J7, bk0 v t i m n]; rfl
mutual
theorem a45 (ars : List Int) (pc : Int) : ∀ (e : b5) (s : Q9), G3 (b8 ars pc e s).1.2 = G3 s.2
 | ⟨k, v, ks⟩, s => by
  have h := aQ9 ars pc ks s
  rw [b8]
  split
  ·simp only [J7, bk1, h, Bool.and_true]
  ·exact h
theorem aQ9 (ars : List Int) (pc : Int) : ∀ (ks : List b5) (s : Q9), G3 (n6 ars pc ks s).1.2 = G3 s.2
 | [], s => rfl
 | e :: t, s => by rw [n6]; exact (aQ9 ars pc t _).trans (a45 ars pc e s)
end
theorem aJ7 {ars : List Int} {nv na d : Nat} (ih : ∀ (s : b6) (m pc : Int) (x : Q9), f6 nv na d s = true → G3 (r7 ars s m pc x).2 = (G3 x.2 && at5 s)) : ∀ (ss : List b6) (m pc : Int) (x : Q9), ss.all (f6 nv na d) = true → G3 (k6 ars ss m pc x).2 = (G3 x.2 && G3 ss)
 | [], _, _, x, _ => by simp [k6, G3]
 | s :: r, m, pc, x, h => by
  simp only [List.all_cons, cb3] at h
  rw [k6, aJ7 ih r m pc _ h.2, ih s m pc x h.1, G3, Bool.and_assoc]
theorem a44 {ars : List Int} {nv na : Nat} : ∀ (d : Nat) (s : b6) (m pc : Int) (x : Q9), f6 nv na d s = true → G3 (r7 ars s m pc x).2 = (G3 x.2 && at5 s)
 | 0, _, _, _, _, h => by simp [f6] at h
 | d + 1, s, m, pc, x, h => by
  have blk := aJ7 (ars := ars) (nv := nv) (na := na) (d := d) fun s m pc x => a44 d s m pc x
  rw [C5, cb3, cb3] at h
  obtain ⟨hh, hb, hel⟩ := h
  have hr := a45 ars pc s.value x
  rw [a30]
  by_cases k4 : s.kind = 4
  ·rw [ln4 k4]
   rw [T7 k4] at hh
   simp only [cb3, decide_eq_true_eq] at hh
   have e0 : s.els = [] := cc7 hh.1.2.1
   simp only [J7, G3, at5, blk s.body m pc (x.1, []) hb, e0, Bool.and_true, cf3, k4]
   all_goals simp
  by_cases k3 : s.kind = 3
  ·cases hs : A0 (b9 x.1 ars 5 s.value)
   ·rw [bB1 k3 hs]
    simp only [J7, G3, at5, blk s.body m _ (_, []) hb, blk s.els m _ (_, []) hel, hr, Bool.and_true, cf3, k3]
    all_goals simp
   ·rw [bB0 k3 hs, blk s.els _ _ _ hel, blk s.body _ _ _ hb]
    simp only [ifM, J7, hr, k3]
    all_goals (simp [G3, at5])
    cases G3 x.2 <;> cases G3 s.body <;> rfl
  have leaf : s.kind = 1 ∨ s.kind = 5 ∨ s.kind = 2 → s.body = [] ∧ s.els = [] := by
   intro hk
   by_cases k15 : s.kind = 1 ∨ s.kind = 5
   ·rw [z9 k15] at hh
    simp only [cb3, decide_eq_true_eq] at hh
    exact ⟨cc7 hh.1.2.2.1, cc7 hh.1.2.2.2.1⟩
   ·have k2 : s.kind = 2 := by omega
    rw [J0 k2] at hh
    simp only [cb3, decide_eq_true_eq] at hh
    exact ⟨cc7 hh.1.2.2.1, cc7 hh.1.2.2.2.1⟩
  by_cases k5 : s.kind = 5
  ·obtain ⟨b0, e0⟩ := leaf (.inr (.inl k5))
   rw [ln5 k5, b0, e0]
   simp only [J7, hr, k5]
   all_goals (simp [G3, at5])
  by_cases k1 : s.kind = 1
  ·obtain ⟨b0, e0⟩ := leaf (.inl k1)
   rw [ln1 k1, b0, e0]
   simp only [J7, hr, k1]
   all_goals (simp [G3, at5])
  by_cases k2 : s.kind = 2
  ·obtain ⟨b0, e0⟩ := leaf (.inr (.inr k2))
   rw [b0, e0]
   cases hs : A0 (b9 (b8 ars pc s.value x).1.1 ars 5 s.index)
   ·rw [bq5 k2 hs]
    simp only [J7, hr, k2]
    all_goals (simp [G3, at5])
   ·rw [bq4 k2 hs]
    simp only [J7, hr, k2, bk0]
    all_goals (simp [G3, at5])
  ·rw [an4 ⟨k1, k2, k3, k4, k5⟩] at hh; cases hh
theorem bB2 {p : d7} (h : Z9 p = true) : T8 (aX7 p) = T8 p := by
 unfold Z9 at h
 simp only [cb3, decide_eq_true_eq] at h
 have h1 := G6 h.1
 have hp := P5 h1
 have hq := P5 h.2
 unfold T8
 rw [h1, h.2, cf3, cf3, at6 (fun s => aB9 5 s) p.body hp.2.2.2, at6 (fun s => aB9 5 s) (aX7 p).body hq.2.2.2]
 have := aJ7 (ars := p.arrays) (fun s m pc x => a44 5 s m pc x) p.body (-1) 0 (p.vars, []) hp.2.2.2
 show G3 (af8 p).2 = G3 p.body
 unfold af8
 rw [this]; simp [G3]
theorem bL9 {d k : Nat} {ss : List b6} (hk : k < ss.length) : (ss.take (k + 1)).all (P7 (d + 1)) = ((ss.take k).all (P7 (d + 1)) && (decide ((ss.getD k cb2).kind ≠ 5) && ((ss.getD k cb2).body.all (P7 d) && (ss.getD k cb2).els.all (P7 d)))) := by
 rw [o9 _ _ hk, List.all_append, m9 hk]
 simp [P7]
theorem bW9 {d k : Nat} {ss : List b6} (hk : ss.length ≤ k) : (ss.take k).all (P7 d) = ss.all (P7 d) := by rw [cc8 hk]
theorem bO0 (s : b6) (cx : Int) (u : Bool) : i9.ok Tryz.prog ⟨94, [sA s 1, iA cx, .ptr 0 0], [.box [bA u]] ++ sS s, [.box [bA (u || decide (s.kind = 5))]] ++ sS s, .tup []⟩ := by
 refine z7 11 Tryz.func94 [.box [bA u], dE s.index.kids, dE s.value.kids, dT s.body, dT s.els] [(0, sA s 1), (1, iA cx), (2, .ptr 0 0)] fun G => ?_; refine wp_seq (k8 G d9 (rg 6) [.box [bA u], dE s.index.kids, dE s.value.kids, dT s.body, dT s.els, .box (sL s 1)] [(2, .ptr 0 0), (3, .ptr 5 0)] fun G => b7 ?_); cases h0 : (u)
 ·refine k8 G (O5 (fc h0 fz) [(2, 0), (3, 0), (4, 0), (1005, 0)]) (rg 5) [.box [bA (s.kind == 5)], dE s.index.kids, dE s.value.kids, dT s.body, dT s.els] [] fun G => ?_; exact am2 G (rg 5)
 ·refine k8 G (O5 (fc h0 fz) [(2, 0), (3, 0), (4, 0), (1005, 0)]) (rg 5) [.box [bA true], dE s.index.kids, dE s.value.kids, dT s.body, dT s.els] [] fun G => ?_; exact am2 G (rg 5)
abbrev erC (p : d7) (d : Nat) (ss : List b6) (cx : Int) (u : Bool) : i9 := ⟨93, [pA 0, .ref 4, iA cx, .fn 94 [.ptr 3 0]], pS p ++ [.box [bA u]] ++ [dT ss], pS p ++ [.box [bA (u || !ss.all (P7 d))]] ++ [dT ss], .tup []⟩
theorem bm5 {d k : Nat} {ss : List b6} {u : Bool} (hk : k < ss.length) : (u || !(ss.take (k + 1)).all (P7 (d + 1))) = (u || !(ss.take k).all (P7 (d + 1)) || decide ((ss.getD k cb2).kind = 5) || !(ss.getD k cb2).body.all (P7 d) || !(ss.getD k cb2).els.all (P7 d)) := by
 rw [bL9 hk]
 by_cases h : (ss.getD k cb2).kind = 5 <;> simp [h, Bool.or_assoc]
abbrev bP3 (d : Nat) (ss : List b6) (u : Bool) (k : Nat) : It := .box [bA (u || !(cc0 k ss).all (P7 (d + 1)) || decide ((ss.getD k cb2).kind = 5) || !(ss.getD k cb2).body.all (P7 d) || !(ss.getD k cb2).els.all (P7 d))]
abbrev bh3 (ss : List b6) (k : Nat) (r0 : List It) : List It := dT ss :: .box (pL 0) :: dE (ss.getD k cb2).index.kids :: dE (ss.getD k cb2).value.kids :: dT (ss.getD k cb2).body :: dT (ss.getD k cb2).els :: .box (sL (ss.getD k cb2) 6) :: r0
abbrev am5 (cx : Int) (r0 : List (Nat × AV)) : List (Nat × AV) := (2, iA cx) :: (3, .fn 94 [.ptr 3 0]) :: (4, .ptr 5 0) :: r0
abbrev aF2 (ss : List b6) (k : Nat) (r0 : List (Nat × AV)) : List (Nat × AV) := (11, .ref 4) :: (12, iA (ss.length : Int)) :: (13, iA (k : Int)) :: r0
theorem a80 (p : d7) (d : Nat) (ss : List b6) (ih : ∀ (tt : List b6) (cx : Int) (u : Bool), 0 < ss.length → tt.all (f6 p.vars.length p.arrays.length d) = true → i9.ok Tryz.prog (erC p d tt cx u))
    (cx : Int) (u : Bool) (hs : ss.all (f6 p.vars.length p.arrays.length (d + 1)) = true) : i9.ok Tryz.prog (erC p (d + 1) ss cx u) := by
  refine z7 44 Tryz.func93 [dI p.vars, dI p.arrays, dT p.body, .box [bA u], dT ss] [(0, pA 0), (1, .ref 4), (2, iA cx), (3, .fn 94 [.ptr 3 0])] fun G => ?_; have hlen : ss.length ≤ 9223372036854775807 := G.len 4 (d := .stmts ss) (by kernel_rfl); refine wp_seq (k8 G d9 (rg 6) [dI p.vars, dI p.arrays, dT p.body, .box [bA u], dT ss, .box (pL 0)] ((1, .ref 4) :: (am5 cx [])) fun G => b7 (wp_seq (C9 G d9 (am5 cx [(11, .ref 4), (12, iA (ss.length : Int)), (13, iA 0)]) fun G => b7 (wp_block ?_)))); replace G := G.as [dI p.vars, dI p.arrays, dT p.body, .box [bA (u || !(cc0 0 ss).all (P7 (d + 1)))], dT ss, .box (pL 0)] (am5 cx [(11, .ref 4), (12, iA (ss.length : Int)), (13, iA 0)]) (by have e1 : (u || !(cc0 0 ss).all (P7 (d + 1)) : Bool) = (u) := (by simp [hs]); (first | rw [e1] | simp only [e1]) <;> rfl) (by kernel_rfl); refine o7 (κ := Nat) (fun k => k ≤ ss.length) (fun k => ss.length - k) (fun k => [dI p.vars, dI p.arrays, dT p.body, .box [bA (or u (not ((ss.take k).all (P7 (d + 1)))))], dT ss, .box (pL 0)]) (fun k => [(2, iA cx), (3, .fn 94 [.ptr 3 0]), (4, .ptr 5 0), (11, .ref 4), (12, iA (ss.length : Int)), (13, iA k)]) 0 (by simp [hs]) (s0.at G _ _) ?_; clear G; intro k ρ a w hp G; replace G := s0.at G [dI p.vars, dI p.arrays, dT p.body, .box [bA (u || !(cc0 k ss).all (P7 (d + 1)))], dT ss, .box (pL 0)] (am5 cx (aF2 ss k [])); refine wp_seq (l0 G d9 [(14, bA (decide ((k : Int) < ss.length)))] fun G => b7 (wp_seq (N4 G (fun h0 q0 => ?_) fun h0 q0 => ?_)))
  · refine wp_exit (o0 (o0 (n5 ?_))); exact am2 G (rg 5) (by show _ = mR (rg 5) [dI p.vars, dI p.arrays, dT p.body, .box [bA (u || !ss.all (P7 (d + 1)))], dT ss]; rw [bW9 (by omega)] <;> rfl)
  ·
   refine wp_skip (b7 (wp_seq (wp_block (wp_seq (N5 G d9 [0, 1, 2, 3, 4, 5, 14, 15, 16, 17, 22] (dI p.vars :: dI p.arrays :: dT p.body :: .box [bA (u || !(cc0 k ss).all (P7 (d + 1)))] :: (bh3 ss k [])) (am5 cx ((9, .ptr 10 0) :: (aF2 ss k []))) (iX k k ss.length []) (iK (by omega) cc1) fun G => b7 (wp_seq (k8 G (s4 3 [3, 6, 7, 8, 9] (bO0 (ss.getD k cb2) cx (u || !(cc0 k ss).all (P7 (d + 1))))) (rg 11) (dI p.vars :: dI p.arrays :: dT p.body :: .box [bA (u || !(cc0 k ss).all (P7 (d + 1)) || decide ((ss.getD k cb2).kind = 5))] :: (bh3 ss k [])) (am5 cx ((9, .ptr 10 0) :: (aF2 ss k []))) fun G => b7 (wp_seq (l0 G d9 [(10, iA cx)] fun G => b7 (wp_seq (wp_seq (l0 G d9 [(24, bA ((ss.getD k cb2).kind == 3))] fun G => b7 (P4 G (fun h1 q1 => ?_) fun h1 q1 => ?_)))))))))))))
   · refine wp_skip (b7 (wp_seq (k8 G (s4 5 [0, 1, 2, 3, 8] (ih ((ss.getD k cb2).body) cx (u || !(cc0 k ss).all (P7 (d + 1)) || decide ((ss.getD k cb2).kind = 5)) (by omega) ((x9 hs (by omega)).2.1))) (rg 11) (dI p.vars :: dI p.arrays :: dT p.body :: .box [bA (u || !(cc0 k ss).all (P7 (d + 1)) || decide ((ss.getD k cb2).kind = 5) || !(ss.getD k cb2).body.all (P7 d))] :: (bh3 ss k [])) (am5 cx ((9, .ptr 10 0) :: (10, iA cx) :: (aF2 ss k []))) fun G => b7 (k8 G (s4 5 [0, 1, 2, 3, 9] (ih ((ss.getD k cb2).els) cx (u || !(cc0 k ss).all (P7 (d + 1)) || decide ((ss.getD k cb2).kind = 5) || !(ss.getD k cb2).body.all (P7 d)) (by omega) ((x9 hs (by omega)).2.2))) (rg 6) [dI p.vars, dI p.arrays, dT p.body, bP3 d ss u k, dT ss, .box (pL 0)] (am5 cx (aF2 ss k [])) fun G => m6 (b7 (D7 G d9 [(13, iA ((k : Int) + 1))] [wO ((k : Int) + 1)] (o1 (by omega)) fun G => b7 ?_)))))); exact M7 G (k + 1) (by omega) (by omega) (rg 6) (by have e1 : (u || !(cc0 (k + 1) ss).all (P7 (d + 1)) : Bool) = (u || !(cc0 k ss).all (P7 (d + 1)) || decide ((ss.getD k cb2).kind = 5) || !(ss.getD k cb2).body.all (P7 d) || !(ss.getD k cb2).els.all (P7 d)) := (bm5 (by omega)); (first | rw [e1] | simp only [e1]) <;> rfl)
   · refine l0 G (s4 4 [0, 1, 2, 7] (Q7 p ((ss.getD k cb2).value) (n7 (x9 hs (by omega)).1 (by omega)))) [(10, iA (i6 cx (i8 p (ss.getD k cb2).value)))] fun G => b7 (wp_seq (k8 G (s4 5 [0, 1, 2, 3, 8] (ih ((ss.getD k cb2).body) (i6 cx (i8 p (ss.getD k cb2).value)) (u || !(cc0 k ss).all (P7 (d + 1)) || decide ((ss.getD k cb2).kind = 5)) (by omega) ((x9 hs (by omega)).2.1))) (rg 11) (dI p.vars :: dI p.arrays :: dT p.body :: .box [bA (u || !(cc0 k ss).all (P7 (d + 1)) || decide ((ss.getD k cb2).kind = 5) || !(ss.getD k cb2).body.all (P7 d))] :: (bh3 ss k [])) (am5 cx ((9, .ptr 10 0) :: (10, iA (i6 cx (i8 p (ss.getD k cb2).value))) :: (aF2 ss k []))) fun G => b7 (k8 G (s4 5 [0, 1, 2, 3, 9] (ih ((ss.getD k cb2).els) (i6 cx (i8 p (ss.getD k cb2).value)) (u || !(cc0 k ss).all (P7 (d + 1)) || decide ((ss.getD k cb2).kind = 5) || !(ss.getD k cb2).body.all (P7 d)) (by omega) ((x9 hs (by omega)).2.2))) (rg 6) [dI p.vars, dI p.arrays, dT p.body, bP3 d ss u k, dT ss, .box (pL 0)] (am5 cx (aF2 ss k [])) fun G => m6 (b7 (D7 G d9 [(13, iA ((k : Int) + 1))] [wO ((k : Int) + 1)] (o1 (by omega)) fun G => b7 ?_))))); exact M7 G (k + 1) (by omega) (by omega) (rg 6) (by have e1 : (u || !(cc0 (k + 1) ss).all (P7 (d + 1)) : Bool) = (u || !(cc0 k ss).all (P7 (d + 1)) || decide ((ss.getD k cb2).kind = 5) || !(ss.getD k cb2).body.all (P7 d) || !(ss.getD k cb2).els.all (P7 d)) := (bm5 (by omega)); (first | rw [e1] | simp only [e1]) <;> rfl)
theorem bG7 (p : d7) : ∀ (d : Nat) (ss : List b6) (cx : Int) (u : Bool), ss.all (f6 p.vars.length p.arrays.length d) = true → i9.ok Tryz.prog (erC p d ss cx u) := by
 intro d
 induction d with
 | zero =>
  intro ss cx u hs
  have h0 : ss = [] := by
   cases ss with
   | nil => rfl
   | cons a r => simp [f6] at hs
  subst h0
  exact a80 p 0 [] (fun _ _ _ h => absurd h (by simp)) cx u rfl
 | succ d ih => intro ss cx u hs; exact a80 p d ss (fun tt cx u _ h1 => ih tt cx u h1) cx u hs
theorem bG6 (p : d7) (h : l5 p = true) : i9.ok Tryz.prog ⟨93, [pA 0, .ref 2, iA 0, .fn 94 [.ptr 3 0]], pS p ++ [.box [bA false]], pS p ++ [.box [bA (false || !p.body.all (P7 5))]], .tup []⟩ :=
 i9.dup (S := pS p ++ [.box [bA false]]) (S' := pS p ++ [.box [bA (false || !p.body.all (P7 5))]]) (d := .stmts p.body) (i := 2) (bG7 p 5 p.body 0 false (H2 h).1) rfl rfl rfl (fun ρ h => by simp only [AV.vals, AV.val]; rw [show ρ 4 = ρ 2 from h]) rfl
theorem bD9 {p : d7} (h : l5 p = true) : T8 p = !(false || !p.body.all (P7 5)) := by unfold T8; rw [h]; simp
theorem bL8 {p : d7} (h : l5 p = false) : T8 p = false := by unfold T8; rw [h]; rfl
theorem aL4 (p : d7) (hb : i5 p.body ≤ 1048576) : i9.ok Tryz.prog (E1 40 [pA 0] (pS p) (bA (T8 p))) := by
 refine z7 14 Tryz.func40 [dI p.vars, dI p.arrays, dT p.body] [(0, pA 0)] fun G => ?_; refine wp_seq (k8 G d9 (rg 4) [dI p.vars, dI p.arrays, dT p.body, .box (pL 0)] [(1, .ptr 3 0), (2, bA false)] fun G => b7 (wp_seq (wp_seq (l0 G (s4 1 [0, 1, 2] (L5 p)) [(6, .v (.bool !l5 p))] fun G => b7 ?_)))); cases h0 : (!l5 p)
 ·have q0 : (l5 p) = true := (Eq.mp (cc4 _) h0); refine rF G _ h0 (wp_skip (b7 (wp_seq (k8 G d9 (rg 5) [dI p.vars, dI p.arrays, dT p.body, .box (pL 0), .box [bA false]] [(1, .ptr 3 0), (2, bA false), (3, .ptr 4 0)] fun G => b7 (wp_seq (k8 G (s4 4 [0, 1, 2, 4] (bG6 p (by assumption))) [0, 1, 2, 4] [dI p.vars, dI p.arrays, dT p.body, .box [bA (false || !p.body.all (P7 5))]] [(2, bA false), (3, .ptr 3 0)] fun G => b7 (wp_seq (k8 G d9 [0, 1, 2] [dI p.vars, dI p.arrays, dT p.body] [(2, .v (.bool !(false || !p.body.all (P7 5))))] fun G => b7 (wp_ret ?_))))))))); exact W2 (.v (.bool !(false || !p.body.all (P7 5)))) G [0, 1, 2] (by have e1 : (T8 p : Bool) = (!(false || !p.body.all (P7 5))) := (bD9 (by with_reducible assumption)); (first | rw [e1] | simp only [e1]) <;> rfl)
 ·have q0 : (l5 p) = false := (Eq.mp (cc3 _) h0); refine rT G _ h0 (wp_seq (l0 G d9 [] fun G => b7 (wp_ret (l7 ?_)))); exact A8 false G [0, 1, 2] (bL8 (by with_reducible assumption))
section
variable (vs ars : List Int) (bd : List b6)
theorem bG5 (hb : i5 bd ≤ 1048576) : i9.ok Tryz.prog (E1 20 [pA 0] [dI vs, dI ars, dT bd] (.tup [iA (ctR ⟨vs, ars, bd⟩).1, iA (ctR ⟨vs, ars, bd⟩).2])) := aj8 ⟨vs, ars, bd⟩ hb
theorem a78 (hb : i5 bd ≤ 1048576) : i9.ok Tryz.prog (E1 40 [pA 0] [dI vs, dI ars, dT bd] (bA (T8 ⟨vs, ars, bd⟩))) := aL4 ⟨vs, ars, bd⟩ hb
theorem am0 : i9.ok Tryz.prog (E1 57 [pA 0] [dI vs, dI ars, dT bd] (bA (l5 ⟨vs, ars, bd⟩))) := L5 ⟨vs, ars, bd⟩
end
theorem X7 (xs ys : List Int) : i9.ok Tryz.prog (E1 64 [.ref 0, .ref 1] [dI xs, dI ys] (bA (decide (xs = ys)))) := by
  refine z7 26 Tryz.func64 [dI xs, dI ys] [(0, .ref 0), (1, .ref 1)] fun G => ?_; have hl : xs.length ≤ 9223372036854775807 := G.len 0 (d := .ints xs) (by kernel_rfl); refine wp_seq (C9 G d9 [(0, .ref 0), (1, .ref 1), (4, bA false)] fun G => b7 (wp_seq (wp_seq (l0 G d9 [(10, bA ((xs.length : Int) != (ys.length : Int)))] fun G => b7 (rcN G (fun h0 q0 => ?_) fun h0 q0 => ?_)))))
  ·
   refine wp_skip (b7 (wp_seq (wp_seq (C9 G d9 [(0, .ref 0), (1, .ref 1), (4, bA false), (12, iA (xs.length : Int)), (13, iA 0)] fun G => b7 (wp_block ?_))))); refine o7 (κ := Nat) (fun k => k ≤ xs.length ∧ xs.take k = ys.take k) (fun k => xs.length - k) (fun k => [dI xs, dI ys]) (fun k => [(0, .ref 0), (1, .ref 1), (4, bA false), (12, iA (xs.length : Int)), (13, iA k)]) 0 (by simp [h0]) (s0.at G _ _) ?_; clear G; intro k ρ a w hp G; refine wp_seq (l0 G d9 [(14, bA (decide ((k : Int) < xs.length)))] fun G => b7 (wp_seq (N4 G (fun h1 q1 => ?_) fun h1 q1 => ?_)))
   · refine wp_exit (o0 (o0 (n5 (b7 (wp_seq (l0 G d9 [(4, bA true)] fun G => b7 (wp_ret ?_))))))); exact A8 true G [0, 1] (decide_eq_true (ah1 hp.2 (by omega) (by omega)))
   ·
    refine wp_skip (b7 (wp_seq (wp_block (wp_seq (l0 G d9 [(5, iA k)] fun G => b7 (wp_seq (ai2 G d9 [0, 0, 3, 7, 0, 0, 48, 112, 255] [(24, bA (xs.getD k 0 != ys.getD k 0))] (iX k k xs.length (iX k k ys.length [])) (iK (by have hp := hp; omega) (iK (by have hp := hp; omega) cc1)) fun G => b7 (rcN G (fun h2 q2 => ?_) fun h2 q2 => ?_))))))))
    · refine wp_skip (m6 (b7 (D7 G d9 [(13, iA ((k : Int) + 1))] [wO ((k : Int) + 1)] (o1 (by omega)) fun G => b7 ?_))); exact M7 G (k + 1) (⟨by omega, V3 hp.2 (by omega) (by omega) (by omega)⟩) (by have hp := hp; omega) [0, 1]
    · refine wp_seq (l0 G d9 [] fun G => b7 (wp_ret (z8 (l7 (l7 (z8 (l7 ?_))))))); exact A8 false G [0, 1] (by exact decide_eq_false fun e => by subst e; omega)
  · refine wp_seq (l0 G d9 [] fun G => b7 (wp_ret (l7 ?_))); exact A8 false G [0, 1] (by exact decide_eq_false fun e => by subst e; omega)
theorem sk1 {l m : List b5} (h : ¬ (l.length : Int) = m.length) : J6 l m = false := by
 cases e : J6 l m
 ·rfl
 ·exact absurd (congrArg (fun x : List b5 => (x.length : Int)) ((ab2 l m).1 e)) h
theorem sk2 {l m : List b5} {k : Nat} (h : A9 (l.getD k cb2) (m.getD k cb2) = false) : J6 l m = false := by
 cases e : J6 l m
 ·rfl
 ·rw [(ab2 l m).1 e, (F3 _ _).2 rfl] at h; cases h
theorem sk3 {l m : List b5} {k : Nat} (h3 : (l.length : Int) = m.length) (h : l.take k = m.take k) (hk : l.length ≤ k) : J6 l m = true := (ab2 _ _).2 (ah1 h hk h3)
abbrev ixS (a b : b5) : i9 := E1 136 [eA a 0, eA b 1] [dE a.kids, dE b.kids] (bA (A9 a b))
theorem bx6 (l m : List b5) (ih : ∀ (u : b5), u ∈ l → ∀ (v : b5), i9.ok Tryz.prog (ixS u v)) : i9.ok Tryz.prog (E1 195 [.ref 0, .ref 1, .fn 136 []] [dE l, dE m] (bA (J6 l m))) := by
  refine z7 32 Tryz.func195 [dE l, dE m] [(0, .ref 0), (1, .ref 1), (2, .fn 136 [])] fun G => ?_; have hl : l.length ≤ 9223372036854775807 := G.len 0 (d := .exprs l) (by kernel_rfl); refine wp_seq (C9 G d9 [(0, .ref 0), (1, .ref 1), (2, .fn 136 []), (6, bA false)] fun G => b7 (wp_seq (wp_seq (l0 G d9 [(14, bA ((l.length : Int) != (m.length : Int)))] fun G => b7 (rcN G (fun h0 q0 => ?_) fun h0 q0 => ?_)))))
  ·
   refine wp_skip (b7 (wp_seq (wp_seq (C9 G d9 [(1, .ref 1), (2, .fn 136 []), (6, bA false), (15, .ref 0), (16, iA (l.length : Int)), (17, iA 0)] fun G => b7 (wp_block ?_))))); refine o7 (κ := Nat) (fun k => k ≤ l.length ∧ l.take k = m.take k) (fun k => l.length - k) (fun k => [dE l, dE m]) (fun k => [(1, .ref 1), (2, .fn 136 []), (6, bA false), (15, .ref 0), (16, iA (l.length : Int)), (17, iA k)]) 0 (by simp [h0]) (s0.at G _ _) ?_; clear G; intro k ρ a w hp G; refine wp_seq (l0 G d9 [(18, bA (decide ((k : Int) < l.length)))] fun G => b7 (wp_seq (N4 G (fun h1 q1 => ?_) fun h1 q1 => ?_)))
   · refine wp_exit (o0 (o0 (n5 (b7 (wp_seq (l0 G d9 [(6, bA true)] fun G => b7 (wp_ret ?_))))))); exact A8 true G [0, 1] (sk3 (by omega) hp.2 (by omega))
   ·
    refine wp_skip (b7 (wp_seq (wp_block (wp_seq (N5 G d9 [0, 1, 18, 26] [dE l, dE m, dE (l.getD k cb2).kids, .box (eL (l.getD k cb2) 2)] [(1, .ref 1), (2, .fn 136 []), (6, bA false), (7, iA k), (8, .ptr 3 0), (15, .ref 0), (16, iA (l.length : Int)), (17, iA k)] (iX k k l.length []) (iK (by have hp := hp; omega) cc1) fun G => b7 (wp_seq (N5 G d9 [0, 1, 2, 3, 28, 36] [dE l, dE m, dE (l.getD k cb2).kids, .box (eL (l.getD k cb2) 2), dE (m.getD k cb2).kids, .box (eL (m.getD k cb2) 4)] [(1, .ref 1), (2, .fn 136 []), (6, bA false), (8, .ptr 3 0), (9, .ptr 5 0), (15, .ref 0), (16, iA (l.length : Int)), (17, iA k)] (iX k k m.length []) (iK (by have hp := hp; omega) cc1) fun G => b7 (wp_seq (k8 G (s4 3 [2, 4] (ih (l.getD k cb2) (ab5 (by omega)) (m.getD k cb2))) [0, 1] [dE l, dE m] [(1, .ref 1), (2, .fn 136 []), (6, bA false), (15, .ref 0), (16, iA (l.length : Int)), (17, iA k), (30, .v (.bool !A9 (l.getD k cb2) (m.getD k cb2)))] fun G => b7 ?_))))))))); cases h2 : (!A9 (l.getD k cb2) (m.getD k cb2))
    · have q2 : (A9 (l.getD k cb2) (m.getD k cb2)) = true := (Eq.mp (cc4 _) h2); refine rF G _ h2 (wp_skip (m6 (b7 (D7 G d9 [(17, iA ((k : Int) + 1))] [wO ((k : Int) + 1)] (o1 (by omega)) fun G => b7 ?_)))); exact M7 G (k + 1) (⟨by omega, V3 hp.2 (by omega) (by omega) ((F3 _ _).1 (by with_reducible assumption))⟩) (by have hp := hp; omega) [0, 1]
    · have q2 : (A9 (l.getD k cb2) (m.getD k cb2)) = false := (Eq.mp (cc3 _) h2); refine rT G _ h2 (wp_seq (l0 G d9 [] fun G => b7 (wp_ret (z8 (l7 (l7 (z8 (l7 ?_)))))))); exact A8 false G [0, 1] (sk2 (k := k) (by with_reducible assumption))
  · refine wp_seq (l0 G d9 [] fun G => b7 (wp_ret (l7 ?_))); exact A8 false G [0, 1] (sk1 (by omega))
theorem ie1 {a b : b5} (h1 : a.kind = b.kind) (h2 : a.value = b.value) : A9 a b = J6 a.kids b.kids := by
 obtain ⟨k, n, ks⟩ := a
 obtain ⟨k', n', ks'⟩ := b
 simp only [b5.kind, b5.value] at h1 h2
 rw [A9, decide_eq_true h1, decide_eq_true h2]
 rfl
theorem b13 (x y : b5) (ih : ∀ (m : List b5), i9.ok Tryz.prog (E1 195 [.ref 0, .ref 1, .fn 136 []] [dE x.kids, dE m] (bA (J6 x.kids m)))) : i9.ok Tryz.prog (ixS x y) := by
  refine z7 24 Tryz.func136 [dE x.kids, dE y.kids] [(0, eA x 0), (1, eA y 1)] fun G => ?_; refine wp_seq (k8 G d9 [0, 1, 2, 10] [dE x.kids, dE y.kids, .box (eL x 0), .box (eL y 1)] [(2, .ptr 2 0), (3, .ptr 3 0), (4, bA false)] fun G => b7 (wp_seq ?_)); cases h0 : (x.kind == y.kind)
  · have q0 := ne_of_beq_false h0; refine k8 G (O5 (fc h0 (fc (b := false) rfl fz)) (us [(6, 10, 0), (1011, 1011, 0), (13, 17, 1), (1018, 1018, 1)])) [0, 1] [dE x.kids, dE y.kids] [(4, bA false)] fun G => b7 (wp_ret ?_); exact A8 false G [0, 1] (sx1 (by omega))
  ·
   have q0 := eq_of_beq h0; cases h1 : (x.value == y.value)
   · have q1 := ne_of_beq_false h1; refine k8 G (O5 (fc h0 (fc h1 fz)) (us [(6, 10, 0), (1011, 1011, 0), (13, 17, 1), (1018, 1018, 1)])) [0, 1] [dE x.kids, dE y.kids] [(4, bA false)] fun G => b7 (wp_ret ?_); exact A8 false G [0, 1] (sx2 (by omega))
   · have q1 := eq_of_beq h1; refine k8 G (t4 (l8 17 [0, 1] (ih y.kids) t3) (fc h0 (fc h1 fz)) (us [(6, 10, 0), (1011, 1011, 0), (13, 17, 1), (1018, 1018, 1)])) [0, 1] [dE x.kids, dE y.kids] [(4, bA (J6 x.kids y.kids))] fun G => b7 (wp_ret ?_); exact A8 (J6 x.kids y.kids) G [0, 1] (ie1 (by omega) (by omega))
theorem av6 (x : b5) : ∀ (y : b5), i9.ok Tryz.prog (ixS x y) :=
 b5.ind (P := fun x => ∀ (y : b5), i9.ok Tryz.prog (ixS x y)) (fun k n ks ih y => b13 ⟨k, n, ks⟩ y fun m => bx6 ks m fun u hu => ih u hu) x
abbrev isS (s t : b6) : i9 := E1 135 [sA s 0, sA t 4] (sS s ++ sS t) (bA (I7 s t))
abbrev isB (l m : List b6) : i9 := E1 65 [.ref 0, .ref 1] [dT l, dT m] (bA (p6 l m))
theorem aI2 (l m : List b6) (ih : ∀ (u : b6), u ∈ l → ∀ (v : b6), i9.ok Tryz.prog (isS u v)) : i9.ok Tryz.prog (E1 134 [.ref 0, .ref 1, .fn 135 []] [dT l, dT m] (bA (p6 l m))) := by
  refine z7 32 Tryz.func134 [dT l, dT m] [(0, .ref 0), (1, .ref 1), (2, .fn 135 [])] fun G => ?_; have hl : l.length ≤ 9223372036854775807 := G.len 0 (d := .stmts l) (by kernel_rfl); refine wp_seq (C9 G d9 [(0, .ref 0), (1, .ref 1), (2, .fn 135 []), (6, bA false)] fun G => b7 (wp_seq (wp_seq (l0 G d9 [(14, bA ((l.length : Int) != (m.length : Int)))] fun G => b7 (rcN G (fun h0 q0 => ?_) fun h0 q0 => ?_)))))
  ·
   refine wp_skip (b7 (wp_seq (wp_seq (C9 G d9 [(1, .ref 1), (2, .fn 135 []), (6, bA false), (15, .ref 0), (16, iA (l.length : Int)), (17, iA 0)] fun G => b7 (wp_block ?_))))); refine o7 (κ := Nat) (fun k => k ≤ l.length ∧ l.take k = m.take k) (fun k => l.length - k) (fun k => [dT l, dT m]) (fun k => [(1, .ref 1), (2, .fn 135 []), (6, bA false), (15, .ref 0), (16, iA (l.length : Int)), (17, iA k)]) 0 (by simp [h0]) (s0.at G _ _) ?_; clear G; intro k ρ a w hp G; refine wp_seq (l0 G d9 [(18, bA (decide ((k : Int) < l.length)))] fun G => b7 (wp_seq (N4 G (fun h1 q1 => ?_) fun h1 q1 => ?_)))
   · refine wp_exit (o0 (o0 (n5 (b7 (wp_seq (l0 G d9 [(6, bA true)] fun G => b7 (wp_ret ?_))))))); exact A8 true G [0, 1] (sb3 (by omega) hp.2 (by omega))
   ·
    refine wp_skip (b7 (wp_seq (wp_block (wp_seq (N5 G d9 [0, 1, 18, 19, 20, 21, 26] [dT l, dT m, dE (l.getD k cb2).index.kids, dE (l.getD k cb2).value.kids, dT (l.getD k cb2).body, dT (l.getD k cb2).els, .box (sL (l.getD k cb2) 2)] [(1, .ref 1), (2, .fn 135 []), (6, bA false), (7, iA k), (8, .ptr 6 0), (15, .ref 0), (16, iA (l.length : Int)), (17, iA k)] (iX k k l.length []) (iK (by have hp := hp; omega) cc1) fun G => b7 (wp_seq (N5 G d9 [0, 1, 2, 3, 4, 5, 6, 31, 32, 33, 34, 39] [dT l, dT m, dE (l.getD k cb2).index.kids, dE (l.getD k cb2).value.kids, dT (l.getD k cb2).body, dT (l.getD k cb2).els, .box (sL (l.getD k cb2) 2), dE (m.getD k cb2).index.kids, dE (m.getD k cb2).value.kids, dT (m.getD k cb2).body, dT (m.getD k cb2).els, .box (sL (m.getD k cb2) 7)] [(1, .ref 1), (2, .fn 135 []), (6, bA false), (8, .ptr 6 0), (9, .ptr 11 0), (15, .ref 0), (16, iA (l.length : Int)), (17, iA k)] (iX k k m.length []) (iK (by have hp := hp; omega) cc1) fun G => b7 (wp_seq (k8 G (s4 3 [2, 3, 4, 5, 7, 8, 9, 10] (ih (l.getD k cb2) (X2 (by omega)) (m.getD k cb2))) [0, 1] [dT l, dT m] [(1, .ref 1), (2, .fn 135 []), (6, bA false), (15, .ref 0), (16, iA (l.length : Int)), (17, iA k), (30, .v (.bool !I7 (l.getD k cb2) (m.getD k cb2)))] fun G => b7 ?_))))))))); cases h2 : (!I7 (l.getD k cb2) (m.getD k cb2))
    · have q2 : (I7 (l.getD k cb2) (m.getD k cb2)) = true := (Eq.mp (cc4 _) h2); refine rF G _ h2 (wp_skip (m6 (b7 (D7 G d9 [(17, iA ((k : Int) + 1))] [wO ((k : Int) + 1)] (o1 (by omega)) fun G => b7 ?_)))); exact M7 G (k + 1) (⟨by omega, V3 hp.2 (by omega) (by omega) ((ab1 _ _).1 (by with_reducible assumption))⟩) (by have hp := hp; omega) [0, 1]
    · have q2 : (I7 (l.getD k cb2) (m.getD k cb2)) = false := (Eq.mp (cc3 _) h2); refine rT G _ h2 (wp_seq (l0 G d9 [] fun G => b7 (wp_ret (z8 (l7 (l7 (z8 (l7 ?_)))))))); exact A8 false G [0, 1] (sb2 (k := k) (by with_reducible assumption))
  · refine wp_seq (l0 G d9 [] fun G => b7 (wp_ret (l7 ?_))); exact A8 false G [0, 1] (sb1 (by omega))
theorem bx3 (l m : List b6) (ih : i9.ok Tryz.prog (E1 134 [.ref 0, .ref 1, .fn 135 []] [dT l, dT m] (bA (p6 l m)))) : i9.ok Tryz.prog (isB l m) := by
 refine z7 8 Tryz.func65 [dT l, dT m] [(0, .ref 0), (1, .ref 1)] fun G => ?_; refine wp_seq (l0 G d9 [(4, bA false)] fun G => b7 (wp_seq (l0 G (s4 2 [0, 1] ih) [(4, bA (p6 l m))] fun G => b7 (wp_ret ?_)))); exact F6 G [0, 1]
abbrev aq9 (s : b6) (t : b6) (r0 : List It) : List It := dE s.index.kids :: dE s.value.kids :: dT s.body :: dT s.els :: dE t.index.kids :: dE t.value.kids :: dT t.body :: dT t.els :: r0
theorem b14 (s t : b6) (ih1 : ∀ (m : List b6), i9.ok Tryz.prog (isB s.body m)) (ih2 : ∀ (m : List b6), i9.ok Tryz.prog (isB s.els m)) : i9.ok Tryz.prog (isS s t) := by
  refine z7 52 Tryz.func135 (aq9 s t []) [(0, sA s 0), (1, sA t 4)] fun G => ?_; refine wp_seq (k8 G d9 [0, 1, 2, 3, 4, 5, 6, 7, 8, 16] (aq9 s t [.box (sL s 0), .box (sL t 4)]) [(2, .ptr 8 0), (3, .ptr 9 0), (4, bA false)] fun G => b7 (wp_seq ?_)); cases h0 : (s.kind == t.kind)
  · have q0 := ne_of_beq_false h0; refine k8 G (O5 (fc h0 (fc (b := false) rfl fz)) (us [(6, 10, 0), (1011, 1011, 0), (13, 17, 1), (1018, 1018, 1), (20, 24, 1), (1025, 1025, 1), (27, 31, 1), (1032, 1032, 1), (34, 38, 1), (1039, 1039, 1), (41, 45, 1), (1046, 1046, 1)])) (rg 8) (aq9 s t []) [(4, bA false)] fun G => b7 (wp_ret ?_); exact A8 false G (rg 8) (sr1 (by omega))
  ·
   have q0 := eq_of_beq h0; cases h1 : (s.target == t.target)
   · have q1 := ne_of_beq_false h1; refine k8 G (O5 (fc h0 (fc h1 (fc (b := false) rfl fz))) (us [(6, 10, 0), (1011, 1011, 0), (13, 17, 1), (1018, 1018, 1), (20, 24, 2), (1025, 1025, 2), (27, 31, 2), (1032, 1032, 2), (34, 38, 2), (1039, 1039, 2), (41, 45, 2), (1046, 1046, 2)])) (rg 8) (aq9 s t []) [(4, bA false)] fun G => b7 (wp_ret ?_); exact A8 false G (rg 8) (sr2 (by omega))
   ·
    have q1 := eq_of_beq h1; cases h2 : (A9 s.index t.index)
    · refine k8 G (t4 (l8 17 [0, 4] (av6 s.index t.index) t3) (fc h0 (fc h1 (fc h2 (fc (b := false) rfl fz)))) (us [(6, 10, 0), (1011, 1011, 0), (13, 17, 1), (1018, 1018, 1), (20, 24, 2), (1025, 1025, 2), (27, 31, 3), (1032, 1032, 3), (34, 38, 3), (1039, 1039, 3), (41, 45, 3), (1046, 1046, 3)])) (rg 8) (aq9 s t []) [(4, bA false)] fun G => b7 (wp_ret ?_); exact A8 false G (rg 8) (sr4 (by with_reducible assumption))
    ·
     cases h3 : (A9 s.value t.value)
     · refine k8 G (t4 (l8 17 [0, 4] (av6 s.index t.index) (l8 24 [1, 5] (av6 s.value t.value) t3)) (fc h0 (fc h1 (fc h2 (fc h3 (fc (b := false) rfl fz))))) (us [(6, 10, 0), (1011, 1011, 0), (13, 17, 1), (1018, 1018, 1), (20, 24, 2), (1025, 1025, 2), (27, 31, 3), (1032, 1032, 3), (34, 38, 4), (1039, 1039, 4), (41, 45, 4), (1046, 1046, 4)])) (rg 8) (aq9 s t []) [(4, bA false)] fun G => b7 (wp_ret ?_); exact A8 false G (rg 8) (sr5 (by with_reducible assumption))
     ·
      cases h4 : (s.count == t.count)
      · have q4 := ne_of_beq_false h4; refine k8 G (t4 (l8 17 [0, 4] (av6 s.index t.index) (l8 24 [1, 5] (av6 s.value t.value) t3)) (fc h0 (fc h1 (fc h2 (fc h3 (fc h4 (fc (b := false) rfl fz)))))) (us [(6, 10, 0), (1011, 1011, 0), (13, 17, 1), (1018, 1018, 1), (20, 24, 2), (1025, 1025, 2), (27, 31, 3), (1032, 1032, 3), (34, 38, 4), (1039, 1039, 4), (41, 45, 5), (1046, 1046, 5)])) (rg 8) (aq9 s t []) [(4, bA false)] fun G => b7 (wp_ret ?_); exact A8 false G (rg 8) (sr3 (by omega))
      ·
       have q4 := eq_of_beq h4; cases h5 : (p6 s.body t.body)
       · refine k8 G (t4 (l8 17 [0, 4] (av6 s.index t.index) (l8 24 [1, 5] (av6 s.value t.value) (l8 38 [2, 6] (ih1 t.body) t3))) (fc h0 (fc h1 (fc h2 (fc h3 (fc h4 (fc h5 fz)))))) (us [(6, 10, 0), (1011, 1011, 0), (13, 17, 1), (1018, 1018, 1), (20, 24, 2), (1025, 1025, 2), (27, 31, 3), (1032, 1032, 3), (34, 38, 4), (1039, 1039, 4), (41, 45, 5), (1046, 1046, 5)])) (rg 8) (aq9 s t []) [(4, bA false)] fun G => b7 (wp_ret ?_); exact A8 false G (rg 8) (sr6 (by with_reducible assumption))
       · refine k8 G (t4 (l8 17 [0, 4] (av6 s.index t.index) (l8 24 [1, 5] (av6 s.value t.value) (l8 38 [2, 6] (ih1 t.body) (l8 45 [3, 7] (ih2 t.els) t3)))) (fc h0 (fc h1 (fc h2 (fc h3 (fc h4 (fc h5 fz)))))) (us [(6, 10, 0), (1011, 1011, 0), (13, 17, 1), (1018, 1018, 1), (20, 24, 2), (1025, 1025, 2), (27, 31, 3), (1032, 1032, 3), (34, 38, 4), (1039, 1039, 4), (41, 45, 5), (1046, 1046, 5)])) (rg 8) (aq9 s t []) [(4, bA (p6 s.els t.els))] fun G => b7 (wp_ret ?_); exact A8 (p6 s.els t.els) G (rg 8) (sr8 (by omega) (by omega) (by omega) (by with_reducible assumption) (by with_reducible assumption) (by with_reducible assumption))
theorem b98 (s : b6) : ∀ (t : b6), i9.ok Tryz.prog (isS s t) :=
 b6.ind (P := fun s => ∀ (t : b6), i9.ok Tryz.prog (isS s t)) (fun k t i v c b e h1 h2 u => b14 ⟨k, t, i, v, c, b, e⟩ u (fun m => bx3 b m (aI2 b m fun s hs => h1 s hs)) fun m => bx3 e m (aI2 e m fun s hs => h2 s hs)) s
theorem b64 (l m : List b6) : i9.ok Tryz.prog (isB l m) := bx3 l m (aI2 l m fun s _ => b98 s)
theorem aj7 (xs xt : List Int) (l : List b6) (ys yt : List Int) (m : List b6) : i9.ok Tryz.prog (E1 18 [pA 0, pA 3] [dI xs, dI xt, dT l, dI ys, dI yt, dT m] (bA (decide (xs = ys) && (decide (xt = yt) && p6 l m)))) := by
  refine z7 24 Tryz.func18 [dI xs, dI xt, dT l, dI ys, dI yt, dT m] [(0, pA 0), (1, pA 3)] fun G => ?_; refine wp_seq (k8 G d9 [0, 1, 2, 3, 4, 5, 6, 14] [dI xs, dI xt, dT l, dI ys, dI yt, dT m, .box (pL 0), .box (pL 3)] [(2, .ptr 6 0), (3, .ptr 7 0), (4, bA false)] fun G => b7 (wp_seq ?_)); cases h0 : (decide (xs = ys))
  · have q0 := dFf h0; refine k8 G (t4 (l8 4 [0, 3] (X7 xs ys) t3) (fc h0 (fc (b := false) rfl fz)) (us [(6, 10, 0), (1011, 1011, 0), (13, 17, 1), (1018, 1018, 1)])) (rg 6) [dI xs, dI xt, dT l, dI ys, dI yt, dT m] [(4, bA false)] fun G => b7 (wp_ret ?_); exact F6 G (rg 6)
  ·
   have q0 := dTt h0; cases h1 : (decide (xt = yt))
   · have q1 := dFf h1; refine k8 G (t4 (l8 4 [0, 3] (X7 xs ys) (l8 10 [1, 4] (X7 xt yt) t3)) (fc h0 (fc h1 fz)) (us [(6, 10, 0), (1011, 1011, 0), (13, 17, 1), (1018, 1018, 1)])) (rg 6) [dI xs, dI xt, dT l, dI ys, dI yt, dT m] [(4, bA false)] fun G => b7 (wp_ret ?_); exact F6 G (rg 6)
   · have q1 := dTt h1; refine k8 G (t4 (l8 4 [0, 3] (X7 xs ys) (l8 10 [1, 4] (X7 xt yt) (l8 17 [2, 5] (b64 l m) t3))) (fc h0 (fc h1 fz)) (us [(6, 10, 0), (1011, 1011, 0), (13, 17, 1), (1018, 1018, 1)])) (rg 6) [dI xs, dI xt, dT l, dI ys, dI yt, dT m] [(4, bA (p6 l m))] fun G => b7 (wp_ret ?_); exact F6 G (rg 6)
theorem by7 {vs VS : List Int} (h : V1 vs VS) : (VS.take vs.length).drop 0 = vs := by
 rw [List.drop_zero]
 apply List.ext_getElem (by rw [List.length_take]; exact Nat.min_eq_left h.1)
 intro i h1 h2
 rw [List.getElem_take]
 have := h.2 i h2
 rw [m9 h2, m9 (by have := h.1; omega)] at this
 exact this
theorem a79 (vs ars ws : List Int) (bd bx : List b6) (g1 : l5 ⟨vs, ars, bd⟩ = true) (g2 : l5 ⟨ws, ars, bx⟩ = true) (g3 : vs.length ≤ ws.length) (g4 : (ws.take vs.length).drop 0 = vs) : i9.ok Tryz.prog (E1 39 [pA 0, pA 3] [dI vs, dI ars, dT bd, dI ws, dI ars, dT bx] (bA true)) := by
 have e4 : decide (vs = (ws.take vs.length).drop 0) = true := decide_eq_true g4.symm; have e5 : decide (ars = ars) = true := decide_eq_true rfl; refine z7 38 Tryz.func39 [dI vs, dI ars, dT bd, dI ws, dI ars, dT bx] [(0, pA 0), (1, pA 3)] fun G => ?_; refine wp_seq (k8 G d9 [0, 1, 2, 3, 4, 5, 6, 14] [dI vs, dI ars, dT bd, dI ws, dI ars, dT bx, .box (pL 0), .box (pL 3)] [(2, .ptr 6 0), (3, .ptr 7 0), (4, bA false)] fun G => b7 (wp_seq ?_)); cases h0 : (decide ((vs.length : Int) ≤ ws.length))
 ·have q0 := dFf h0; refine N3 G (t4 (l8 1 [0, 1, 2] (am0 vs ars bd) (l8 4 [3, 4, 5] (am0 ws ars bx) t3)) (fc (a := l5 (d7.mk vs ars bd)) (b := true) (by assumption) (fc (a := l5 (d7.mk ws ars bx)) (b := true) (by assumption) (fc h0 (fc (b := false) rfl fz)))) (us [(3, 4, 0), (1005, 1005, 0), (7, 13, 1), (1014, 1014, 1), (16, 24, 2), (1025, 1025, 2), (27, 31, 3), (1032, 1032, 3)])) [0, 1, 3, 7, 15, 31, 63, 127, 255, 511, 127, 1151, 3199, 8191, 16383, 32767, 65535, 131071, 65535, 327679, 65535, 1114111, 3211263, 8191999, 16777215, 33554431, 67108863, 134217727, 268435455, 134217727, 671088639, 2147483647, 4294967295, 8589934591] (rg 6) [dI vs, dI ars, dT bd, dI ws, dI ars, dT bx] [(4, bA false)] fun G => b7 (wp_ret ?_); exact A8 false G (rg 6) (by omega)
 ·have q0 := dTt h0; refine F7 G (t4 (l8 1 [0, 1, 2] (am0 vs ars bd) (l8 4 [3, 4, 5] (am0 ws ars bx) (l8 24 [0, 192] (X7 vs (List.drop 0 (cc0 vs.length ws))) (l8 31 [1, 4] (X7 ars ars) t3)))) (fc (a := l5 (d7.mk vs ars bd)) (b := true) (by assumption) (fc (a := l5 (d7.mk ws ars bx)) (b := true) (by assumption) (fc h0 (fc (a := decide (vs = List.drop (0 : Nat) (cc0 vs.length ws))) (b := true) (by assumption) fz)))) (us [(3, 4, 0), (1005, 1005, 0), (7, 13, 1), (1014, 1014, 1), (16, 24, 2), (1025, 1025, 2), (27, 31, 3), (1032, 1032, 3)])) [0, 1, 3, 7, 15, 31, 63, 127, 255, 511, 127, 1151, 3199, 8191, 16383, 32767, 65535, 131071, 65535, 327679, 65535, 1114111, 3211263, 8191999, 16777215, 33554431, 67108863, 134217727, 268435455, 134217727, 671088639, 2147483647, 4294967295, 8589934591] (rg 6) [dI vs, dI ars, dT bd, dI ws, dI ars, dT bx] [(4, bA (decide (ars = ars)))] [(0 : Int) ≤ vs.length, (vs.length : Int) ≤ ws.length] ⟨(by simp [g1, g2, e4, e5, h0]), (by assumption), cc1⟩ fun G => b7 (wp_ret ?_); exact A8 (decide (ars = ars)) G (rg 6) (by simp [g1, g2, e4, e5, h0])
end Go.Proofs.YthikdkjjdeehoaaGreat

namespace Go.Proofs.YthikdkjjdeehoaaGreat
set_option linter.unusedVariables false
set_option linter.unusedSimpArgs false
open Go Go.RowKit
section
variable {l : List aa4} {fr : List Int} {at0 d : Int} {s : b6}
end
section
variable {ss : List b6} {k : Nat} {d : Int} {l : List aa4} {fr : List Int} {at0 : Int}
end
end Go.Proofs.YthikdkjjdeehoaaGreat

namespace Go.Proofs.YthikdkjjdeehoaaGreat
set_option linter.unusedVariables false
set_option linter.unusedSimpArgs false
open Go Go.RowKit
theorem bZ0 (b : List UInt8) {j : Int} (hj : 0 ≤ j) (hj2 : j ≤ 10000000) : j + 2 ≤ (bdD b j).2 ∧ (bdD b j).2 ≤ j + 150000 := by
 have h1 := bo1 b hj hj2
 have h2 := bl8 b hj hj2
 omega
def P9 (b : List UInt8) : Nat → Int → d7 × Int
 | 0, j => (R6 b j, (bdD b j).2 + 1)
 | n + 1, j => if (C7 (R6 b j) false).1 = 0 ∧ 0 < (R6 b j).body.length then (R6 b j, (bdD b j).2 + 1) else P9 b n ((bdD b j).2 + 1)
theorem bX3 (b : List UInt8) : ∀ (n : Nat) (j : Int), n ≤ 3 → 0 ≤ j → j + n * 150001 ≤ 10000000 → j ≤ (P9 b n j).2 ∧ (P9 b n j).2 ≤ j + (n + 1) * 150001 ∧ (P9 b n j).1.size ≤ 160000
 | 0, j, _, hj, hj2 => by
  have h := bZ0 b hj (by omega)
  have h2 := ba6 b hj (by omega)
  refine ⟨?_, ?_, h2⟩ <;> (show _ ≤ _; simp only [P9]; omega)
 | n + 1, j, hn, hj, hj2 => by
  have h := bZ0 b hj (by omega)
  have h2 := ba6 b hj (by omega)
  have ih := bX3 b n ((bdD b j).2 + 1) (by omega) (by omega) (by omega)
  rw [P9]
  split
  ·exact ⟨by show j ≤ (bdD b j).2 + 1; omega, by show (bdD b j).2 + 1 ≤ _; omega, h2⟩
  ·exact ⟨by omega, by omega, ih.2.2⟩
def M8 (b : List UInt8) (j : Int) : Nat → Int
 | 0 => j
 | i + 1 => (bdD b (M8 b j i)).2 + 1
theorem b52 (b : List UInt8) {j : Int} (hj : 0 ≤ j) (hj2 : j ≤ 9000000) : ∀ i : Nat, i ≤ 3 → j ≤ M8 b j i ∧ M8 b j i ≤ j + i * 150001
 | 0, _ => ⟨Int.le_refl _, by simp [M8]⟩
 | i + 1, hi => by
  have ih := b52 b hj hj2 i (by omega)
  have h := bZ0 b (j := M8 b j i) (by omega) (by omega)
  rw [M8]
  omega
theorem b53 {b : List UInt8} {j : Int} {i : Nat} (hi : i < 3) (h : P9 b 3 j = P9 b (3 - i) (M8 b j i)) (hn : ¬ ((C7 (R6 b (M8 b j i)) false).1 = 0 ∧ 0 < (R6 b (M8 b j i)).body.length)) : P9 b 3 j = P9 b (3 - (i + 1)) (M8 b j (i + 1)) := by
 rw [h, show 3 - i = (3 - (i + 1)) + 1 by omega, P9, if_neg hn]; rfl
theorem bX2 {b : List UInt8} {j : Int} {i : Nat} (hi : i < 3) (h : P9 b 3 j = P9 b (3 - i) (M8 b j i)) (hn : (C7 (R6 b (M8 b j i)) false).1 = 0 ∧ 0 < (R6 b (M8 b j i)).body.length) : P9 b 3 j = (R6 b (M8 b j i), (bdD b (M8 b j i)).2 + 1) := by
 rw [h, show 3 - i = (3 - (i + 1)) + 1 by omega, P9, if_pos hn]
theorem bM2 {b : List UInt8} {j : Int} {i : Nat} (hi : 3 ≤ i) (hi2 : i ≤ 3) (h : P9 b 3 j = P9 b (3 - i) (M8 b j i)) : P9 b 3 j = (R6 b (M8 b j i), (bdD b (M8 b j i)).2 + 1) := by
 rw [h, show 3 - i = 0 by omega, P9]
def m0 (c : List UInt8) : d7 := (mtD (bsD c) (P9 (bsD c) 3 0).1 (P9 (bsD c) 3 0).2).1
theorem bM9 (c : List UInt8) : (m0 c).size ≤ 200000 := by
 have h1 := bX3 (bsD c) 3 0 (cc6 _) (by omega) (by omega)
 have h2 := (bV7 (bsD c) (P9 (bsD c) 3 0).1 (P9 (bsD c) 3 0).2).1
 unfold m0; omega
abbrev mtC (b : List UInt8) (p : d7) (j : Int) : i9 := ⟨55, [.ptr 0 0, pA 2], [.box [.ref 1, iA j], dY b] ++ pS p, [.box [.ref 1, iA (mtD b p j).2], dY b] ++ pS p ++ oP (mtD b p j).1, oA 5⟩
section
variable {b : List UInt8} {p : d7} {j : Int}
theorem b88 (h : pk b j 60 = 0) (h1 : (p.vars.length : Int) > 0) : mtD b p j = (⟨p.vars.set 0 (l1D b (j + 1)), p.arrays, p.body⟩, j + 1 + 2) := by
 rw [mtD, if_pos h, if_pos (by omega)]
theorem b89 (h : pk b j 60 = 1) : mtD b p j = (⟨p.vars ++ ce0 (13 - p.vars.length) 1, p.arrays, p.body⟩, j + 1) := by
 rw [mtD, if_neg (by omega), if_pos h]
theorem b94 (h : pk b j 60 = 2) (h1 : (p.body.length : Int) > 0) : mtD b p j = (⟨p.vars, p.arrays, p.body.set 0 (kdS (p.body.getD 0 cb2) (nm b (j + 1) m2L))⟩, j + 1 + 1) := by
 rw [mtD, if_neg (by omega), if_neg (by omega), if_pos h, if_pos (by omega)]
theorem b93 (h : pk b j 60 = 3) (h1 : (p.body.length : Int) > 0) : mtD b p j = (⟨p.vars, p.arrays, p.body.set ((p.body.length : Int) - 1).toNat (tgS (p.body.getD ((p.body.length : Int) - 1).toNat cb2) (nm b (j + 1) m3L))⟩, j + 1 + 1) := by
 rw [mtD, if_neg (by omega), if_neg (by omega), if_neg (by omega), if_pos h, if_pos (by omega)]
theorem b92 (h : pk b j 60 = 4) (h1 : (p.body.length : Int) > 0) : mtD b p j = (⟨p.vars, p.arrays, p.body.set 0 (vvS (p.body.getD 0 cb2) (nm b (j + 1) m4L))⟩, j + 1 + 1) := by
 rw [mtD, if_neg (by omega), if_neg (by omega), if_neg (by omega), if_neg (by omega), if_pos h, if_pos (by omega)]
theorem b91 (h : pk b j 60 = 5) (h1 : (p.body.length : Int) > 0) : mtD b p j = (⟨p.vars, p.arrays, p.body.set 0 (ctS (p.body.getD 0 cb2) (nm b (j + 1) m5L))⟩, j + 1 + 1) := by
 rw [mtD, if_neg (by omega), if_neg (by omega), if_neg (by omega), if_neg (by omega), if_neg (by omega), if_pos h, if_pos (by omega)]
theorem b90 (h : pk b j 60 = 6) : mtD b p j = (⟨[], [], []⟩, j + 1) := by
 rw [mtD, if_neg (by omega), if_neg (by omega), if_neg (by omega), if_neg (by omega), if_neg (by omega), if_neg (by omega), if_pos h]
theorem bq1 (h : (pk b j 60 = 0 ∧ ¬ (p.vars.length : Int) > 0) ∨ ((pk b j 60 = 2 ∨ pk b j 60 = 3 ∨ pk b j 60 = 4 ∨ pk b j 60 = 5) ∧ ¬ (p.body.length : Int) > 0) ∨ (¬ pk b j 60 = 0 ∧ ¬ pk b j 60 = 1 ∧ ¬ pk b j 60 = 2 ∧ ¬ pk b j 60 = 3 ∧ ¬ pk b j 60 = 4 ∧ ¬ pk b j 60 = 5 ∧ ¬ pk b j 60 = 6)) : mtD b p j = (p, j + 1) := by
 unfold mtD
 (repeat' split) <;> first | rfl | (exfalso; omega)
theorem by3 {k : Nat} : p.vars ++ ce0 (k + 1) 1 = (p.vars ++ ce0 k 1) ++ [1] := by
 rw [List.replicate_succ', List.append_assoc]
theorem b30 {k : Nat} (h : pk b j 60 = 1) (h1 : k ≤ 13 - p.vars.length) (h2 : ¬ (((p.vars ++ ce0 k (1 : Int)).length : Nat) : Int) ≤ 12) : mtD b p j = (⟨p.vars ++ ce0 k 1, p.arrays, p.body⟩, j + 1) := by
 simp only [cb5, cd8] at h2
 rw [b89 h, show 13 - p.vars.length = k by omega]
end
abbrev aO9 (p : d7) := p.body.getD ((p.body.length : Int) - 1).toNat cb2
abbrev F8 (b : List UInt8) (p : d7) (j : Int) : List It := [.box [.ref 1, iA (mtD b p j).snd], dY b, dI p.vars, dI p.arrays, dT p.body, .row 3 (D.ints (mtD b p j).fst.vars), .row 3 (D.ints (mtD b p j).fst.arrays), .tree (D.stmts (mtD b p j).fst.body)]
abbrev a07 : It := .box [.v (.slice none 0 0), .v (.slice none 0 0), .v (.slice none 0 0)]
abbrev bP1 (b : List UInt8) (p : d7) (j : Int) : It := .tree (D.stmts (p.body.set 0 (b6.mk (p.body.getD 0 cb2).kind (p.body.getD 0 cb2).target (p.body.getD 0 cb2).index (b5.mk (p.body.getD 0 cb2).value.kind (nm b (j + 1) m4L) (p.body.getD 0 cb2).value.kids) (p.body.getD 0 cb2).count (p.body.getD 0 cb2).body (p.body.getD 0 cb2).els)))
abbrev ag7 : It := .box [.ref 6, .ref 7, .tref 8]
abbrev bP0 (b : List UInt8) (p : d7) (j : Int) : It := .tree (D.stmts (p.body.set 0 (b6.mk (nm b (j + 1) m2L) (p.body.getD 0 cb2).target (p.body.getD 0 cb2).index (p.body.getD 0 cb2).value (p.body.getD 0 cb2).count (p.body.getD 0 cb2).body (p.body.getD 0 cb2).els)))
abbrev bO9 (b : List UInt8) (p : d7) (j : Int) : It := .tree (D.stmts (p.body.set 0 (b6.mk (p.body.getD 0 cb2).kind (p.body.getD 0 cb2).target (p.body.getD 0 cb2).index (p.body.getD 0 cb2).value (nm b (j + 1) m5L) (p.body.getD 0 cb2).body (p.body.getD 0 cb2).els)))
abbrev bO8 (b : List UInt8) (p : d7) (j : Int) : It := .tree (D.stmts (p.body.set ((p.body.length : Int) - 1).toNat (b6.mk (aO9 p).kind (nm b (j + 1) m3L) (aO9 p).index (aO9 p).value (aO9 p).count (aO9 p).body (aO9 p).els)))
abbrev am4 (b : List UInt8) (p : d7) (r0 : List It) : List It := dY b :: dI p.vars :: dI p.arrays :: dT p.body :: ag7 :: .row 3 (D.ints p.vars) :: .row 3 (D.ints p.arrays) :: r0
abbrev aO1 (p : d7) (r0 : List It) : List It := dI p.vars :: dI p.arrays :: dT p.body :: a07 :: .row 3 (D.ints p.vars) :: .row 3 (D.ints p.arrays) :: r0
abbrev ar5 (p : d7) (r0 : List It) : List It := .row 3 (D.ints p.arrays) :: .tree (D.stmts p.body) :: r0
abbrev aF1 (b : List UInt8) (p : d7) (j : Int) (r0 : List It) : List It := .box [.ref 1, iA (j + 1)] :: dY b :: dI p.vars :: dI p.arrays :: dT p.body :: r0
abbrev bg8 (b : List UInt8) (p : d7) (j : Int) (r0 : List (Nat × AV)) : List (Nat × AV) := (0, .ptr 0 0) :: (4, .ptr 5 0) :: (5, .ptr 9 0) :: (6, iA (p.body.length : Int)) :: (13, iA (pk b j 60)) :: r0
theorem aL3 (b : List UInt8) (p : d7) (j : Int) (hb : p.size ≤ 1000000) (r0 : 0 ≤ j) (r1 : j ≤ 100000000) : i9.ok Tryz.prog (mtC b p j) := by
  refine z7 87 Tryz.func55 [.box [.ref 1, iA j], dY b, dI p.vars, dI p.arrays, dT p.body] [(0, .ptr 0 0), (1, pA 2)] fun G => ?_
  have hb1 : p.vars.length ≤ 1048576 ∧ p.arrays.length ≤ 1048576 ∧ i5 p.body ≤ 1048576 := by unfold d7.size at hb; omega
  have hb2 : p.body.length ≤ 1048576 := cd3 (C2 _) hb1.2.2; refine wp_seq (k8 G d9 [0, 1, 2, 3, 4, 5, 13] [.box [.ref 1, iA j], dY b, dI p.vars, dI p.arrays, dT p.body, .box (pL 2), a07] [(0, .ptr 0 0), (3, .ptr 5 0), (4, .ptr 6 0)] fun G => b7 (wp_seq (k8 G (s4 1 [2, 3, 4] (ab8 p.vars p.arrays p.body (cd3 hb (by omega)))) [0, 1, 2, 3, 4, 6, 15, 16, 17, 23] (.box [.ref 1, iA j] :: dY b :: (aO1 p [.tree (D.stmts p.body), ag7])) [(0, .ptr 0 0), (4, .ptr 5 0), (5, .ptr 9 0)] fun G => b7 (wp_seq (l0 G d9 [(6, iA (p.body.length : Int))] fun G => b7 (wp_seq (wp_seq (k8 G (s4 1 [0, 1] (L8 b j 60 (by assumption) (by simp only [cb5, cd8, cb4, cb6] at *; omega))) (rg 10) (.box [.ref 1, iA (j + 1)] :: dY b :: (aO1 p [.tree (D.stmts p.body), ag7])) (bg8 b p j []) fun G => b7 (wp_block (wp_seq (l0 G d9 [(14, bA (pk b j 60 == 0))] fun G => b7 (P4 G (fun h0 q0 => ?_) fun h0 q0 => ?_))))))))))))
  ·
   refine wp_seq (C9 G d9 (bg8 b p j [(25, bA (pk b j 60 == 1))]) fun G => b7 (P4 G (fun h1 q1 => ?_) fun h1 q1 => ?_))
   ·
    refine wp_seq (l0 G d9 [(36, bA (pk b j 60 == 2))] fun G => b7 (P4 G (fun h2 q2 => ?_) fun h2 q2 => ?_))
    ·
     refine wp_seq (l0 G d9 [(47, bA (pk b j 60 == 3))] fun G => b7 (P4 G (fun h3 q3 => ?_) fun h3 q3 => ?_))
     ·
      refine wp_seq (l0 G d9 [(60, bA (pk b j 60 == 4))] fun G => b7 (P4 G (fun h4 q4 => ?_) fun h4 q4 => ?_))
      ·
       refine wp_seq (l0 G d9 [(72, bA (pk b j 60 == 5))] fun G => b7 (P4 G (fun h5 q5 => ?_) fun h5 q5 => ?_))
       ·
        refine wp_seq (l0 G d9 [(83, bA (pk b j 60 == 6))] fun G => b7 (P4 G (fun h6 q6 => ?_) fun h6 q6 => ?_))
        · refine wp_skip (m6 (b7 (wp_seq (k8 G d9 (rg 9) (.box [.ref 1, iA (j + 1)] :: (am4 b p [.tree (D.stmts p.body)])) [(4, .ptr 5 0)] fun G => b7 (wp_ret ?_))))); exact F6 G [0, 1, 2, 3, 4, 6, 7, 8] (by show _ = mR [0, 1, 2, 3, 4, 6, 7, 8] (F8 b p j); unfold F8; rw [bq1 (by omega)] <;> rfl)
        · refine wp_seq (C9 G d9 [(4, .ptr 5 0), (5, .ptr 9 0)] fun G => b7 (wp_ret (z8 (l7 ?_)))); obtain ⟨ρ, G⟩ := G.nil 10 3 (.ints []) 1 (aF1 b p j (.box [.ref 10, .v (.slice none 0 0), .v (.slice none 0 0)] :: .row 3 (D.ints p.vars) :: (ar5 p [.box [.ref 6, .ref 7, .tref 8]]))) [(4, .ptr 5 0), (5, .ptr 9 0)]; obtain ⟨ρ, G⟩ := G.nil 11 3 (.ints []) 1 (aF1 b p j (.box [.ref 10, .ref 11, .v (.slice none 0 0)] :: .row 3 (D.ints p.vars) :: (ar5 p [.box [.ref 6, .ref 7, .tref 8], .row 3 (D.ints [])]))) [(4, .ptr 5 0), (5, .ptr 9 0)]; obtain ⟨ρ, G⟩ := G.nilT 12 (.stmts []) (aF1 b p j (.box [.ref 10, .ref 11, .tref 12] :: .row 3 (D.ints p.vars) :: (ar5 p [.box [.ref 6, .ref 7, .tref 8], .row 3 (D.ints []), .row 3 (D.ints [])]))) [(4, .ptr 5 0), (5, .ptr 9 0)]; exact F6 G [0, 1, 2, 3, 4, 10, 11, 12] (by show _ = mR [0, 1, 2, 3, 4, 10, 11, 12] (F8 b p j); unfold F8; rw [b90 (by omega)] <;> rfl)
       ·
        refine wp_seq (l0 G d9 [(75, bA (decide ((p.body.length : Int) > 0)))] fun G => b7 (N4 G (fun h7 q7 => ?_) fun h7 q7 => ?_))
        · refine wp_skip (m6 (b7 (wp_seq (k8 G d9 (rg 9) (.box [.ref 1, iA (j + 1)] :: (am4 b p [.tree (D.stmts p.body)])) [(4, .ptr 5 0)] fun G => b7 (wp_ret ?_))))); exact F6 G [0, 1, 2, 3, 4, 6, 7, 8] (by show _ = mR [0, 1, 2, 3, 4, 6, 7, 8] (F8 b p j); unfold F8; rw [bq1 (by omega)] <;> rfl)
        · refine F7 G (s4 4 [0, 1, 34] (i9.lend (O9 b (j + 1) m5L (by simp [h0, h1, h2, h3, h4, h5, h7]) (by simp only [cb5, cd8, cb4, cb6] at *; omega) (by simp only [cb5, cd8, cb4, cb6] at *; omega)) [.no, .no, .row 3])) [0, 1, 0, 0, 12, 31, 63, 127] (rg 10) (.box [.ref 1, iA (j + 1 + 1)] :: dY b :: (aO1 p [bO9 b p j, ag7])) [(4, .ptr 5 0), (5, .ptr 9 0)] [(0 : Int) ≤ 0, (0 : Int) < p.body.length, (0 : Nat) < p.body.length] ⟨(by simp [h0, h1, h2, h3, h4, h5, h7]), (by assumption), (by simp only [cb5, cd8, cb4, cb6] at *; omega), cc1⟩ fun G => m6 (b7 (wp_seq (k8 G d9 (rg 9) (.box [.ref 1, iA (j + 1 + 1)] :: (am4 b p [bO9 b p j])) [(4, .ptr 5 0)] fun G => b7 (wp_ret ?_)))); exact F6 G [0, 1, 2, 3, 4, 6, 7, 8] (by show _ = mR [0, 1, 2, 3, 4, 6, 7, 8] (F8 b p j); unfold F8; rw [b91 (by omega) (by omega)] <;> rfl)
      ·
       refine wp_seq (l0 G d9 [(63, bA (decide ((p.body.length : Int) > 0)))] fun G => b7 (N4 G (fun h8 q8 => ?_) fun h8 q8 => ?_))
       · refine wp_skip (m6 (b7 (wp_seq (k8 G d9 (rg 9) (.box [.ref 1, iA (j + 1)] :: (am4 b p [.tree (D.stmts p.body)])) [(4, .ptr 5 0)] fun G => b7 (wp_ret ?_))))); exact F6 G [0, 1, 2, 3, 4, 6, 7, 8] (by show _ = mR [0, 1, 2, 3, 4, 6, 7, 8] (F8 b p j); unfold F8; rw [bq1 (by omega)] <;> rfl)
       · refine F7 G (s4 4 [0, 1, 34] (i9.lend (O9 b (j + 1) m4L (by simp [h0, h1, h2, h3, h4, h8]) (by simp only [cb5, cd8, cb4, cb6] at *; omega) (by simp only [cb5, cd8, cb4, cb6] at *; omega)) [.no, .no, .row 3])) [0, 1, 0, 0, 12, 31, 63, 127, 255] (rg 10) (.box [.ref 1, iA (j + 1 + 1)] :: dY b :: (aO1 p [bP1 b p j, ag7])) [(4, .ptr 5 0), (5, .ptr 9 0)] [(0 : Int) ≤ 0, (0 : Int) < p.body.length, (0 : Nat) < p.body.length] ⟨(by simp [h0, h1, h2, h3, h4, h8]), (by assumption), (by simp only [cb5, cd8, cb4, cb6] at *; omega), cc1⟩ fun G => m6 (b7 (wp_seq (k8 G d9 (rg 9) (.box [.ref 1, iA (j + 1 + 1)] :: (am4 b p [bP1 b p j])) [(4, .ptr 5 0)] fun G => b7 (wp_ret ?_)))); exact F6 G [0, 1, 2, 3, 4, 6, 7, 8] (by show _ = mR [0, 1, 2, 3, 4, 6, 7, 8] (F8 b p j); unfold F8; rw [b92 (by omega) (by omega)] <;> rfl)
     ·
      refine wp_seq (l0 G d9 [(50, bA (decide ((p.body.length : Int) > 0)))] fun G => b7 (N4 G (fun h9 q9 => ?_) fun h9 q9 => ?_))
      · refine wp_skip (m6 (b7 (wp_seq (k8 G d9 (rg 9) (.box [.ref 1, iA (j + 1)] :: (am4 b p [.tree (D.stmts p.body)])) [(4, .ptr 5 0)] fun G => b7 (wp_ret ?_))))); exact F6 G [0, 1, 2, 3, 4, 6, 7, 8] (by show _ = mR [0, 1, 2, 3, 4, 6, 7, 8] (F8 b p j); unfold F8; rw [bq1 (by omega)] <;> rfl)
      · refine F7 G (s4 6 [0, 1, 50] (i9.lend (O9 b (j + 1) m3L (by simp [h0, h1, h2, h3, h9]) (by simp only [cb5, cd8, cb4, cb6] at *; omega) (by simp only [cb5, cd8, cb4, cb6] at *; omega)) [.no, .no, .row 3])) [0, 1, 0, 4, 0, 0, 48, 127, 255, 511] (rg 10) (.box [.ref 1, iA (j + 1 + 1)] :: dY b :: (aO1 p [bO8 b p j, ag7])) [(4, .ptr 5 0), (5, .ptr 9 0)] [wO ((p.body.length : Int) - 1), (0 : Int) ≤ p.body.length - 1, (p.body.length : Int) - 1 < (p.body.length : Int), ((p.body.length : Int) - 1).toNat < p.body.length] ⟨oW (by omega), (by simp only [cb5, cd8, cb4, cb6] at *; omega), (by simp only [cb5, cd8, cb4, cb6] at *; omega), (by simp only [cb5, cd8, cb4, cb6] at *; omega), cc1⟩ fun G => m6 (b7 (wp_seq (k8 G d9 (rg 9) (.box [.ref 1, iA (j + 1 + 1)] :: (am4 b p [bO8 b p j])) [(4, .ptr 5 0)] fun G => b7 (wp_ret ?_)))); exact F6 G [0, 1, 2, 3, 4, 6, 7, 8] (by show _ = mR [0, 1, 2, 3, 4, 6, 7, 8] (F8 b p j); unfold F8; rw [b93 (by omega) (by omega)] <;> rfl)
    ·
     refine wp_seq (l0 G d9 [(39, bA (decide ((p.body.length : Int) > 0)))] fun G => b7 (N4 G (fun h10 q10 => ?_) fun h10 q10 => ?_))
     · refine wp_skip (m6 (b7 (wp_seq (k8 G d9 (rg 9) (.box [.ref 1, iA (j + 1)] :: (am4 b p [.tree (D.stmts p.body)])) [(4, .ptr 5 0)] fun G => b7 (wp_ret ?_))))); exact F6 G [0, 1, 2, 3, 4, 6, 7, 8] (by show _ = mR [0, 1, 2, 3, 4, 6, 7, 8] (F8 b p j); unfold F8; rw [bq1 (by omega)] <;> rfl)
     · refine F7 G (s4 4 [0, 1, 34] (i9.lend (O9 b (j + 1) m2L (by simp [h0, h1, h2, h10]) (by simp only [cb5, cd8, cb4, cb6] at *; omega) (by simp only [cb5, cd8, cb4, cb6] at *; omega)) [.no, .no, .row 3])) [0, 1, 0, 0, 12, 31, 63, 127] (rg 10) (.box [.ref 1, iA (j + 1 + 1)] :: dY b :: (aO1 p [bP0 b p j, ag7])) [(4, .ptr 5 0), (5, .ptr 9 0)] [(0 : Int) ≤ 0, (0 : Int) < p.body.length, (0 : Nat) < p.body.length] ⟨(by simp [h0, h1, h2, h10]), (by assumption), (by simp only [cb5, cd8, cb4, cb6] at *; omega), cc1⟩ fun G => m6 (b7 (wp_seq (k8 G d9 (rg 9) (.box [.ref 1, iA (j + 1 + 1)] :: (am4 b p [bP0 b p j])) [(4, .ptr 5 0)] fun G => b7 (wp_ret ?_)))); exact F6 G [0, 1, 2, 3, 4, 6, 7, 8] (by show _ = mR [0, 1, 2, 3, 4, 6, 7, 8] (F8 b p j); unfold F8; rw [b94 (by omega) (by omega)] <;> rfl)
   ·
    refine wp_block ?_; replace G := G.as (aF1 b p j (.box [.v (.slice none 0 0), .v (.slice none 0 0), .v (.slice none 0 0)] :: .row 3 (D.ints (p.vars ++ ce0 0 1)) :: (ar5 p [.box [.ref 6, .ref 7, .tref 8]]))) (bg8 b p j [(25, bA (pk b j 60 == 1))]) (by have e1 : (p.vars ++ ce0 0 1 : List Int) = (p.vars) := (by simp [h0, h1]); (first | rw [e1] | simp only [e1]) <;> rfl) (by kernel_rfl); refine o7 (κ := Nat) (fun k => k ≤ 13 - p.vars.length) (fun k => 13 - p.vars.length - k) (fun k => [.box [.ref 1, iA (j + 1)], dY b, dI p.vars, dI p.arrays, dT p.body, .box [.v (.slice none 0 0), .v (.slice none 0 0), .v (.slice none 0 0)], .row 3 (.ints (p.vars ++ ce0 k 1)), .row 3 (D.ints p.arrays), .tree (D.stmts p.body), .box [.ref 6, .ref 7, .tref 8]]) (fun k => [(0, .ptr 0 0), (4, .ptr 5 0), (5, .ptr 9 0), (6, iA (p.body.length : Int)), (13, iA (pk b j 60)), (25, bA (pk b j 60 == 1))]) 0 (by simp [h0, h1]) (s0.at G _ _) ?_; clear G; intro k ρ a w hp G; replace G := s0.at G (aF1 b p j (a07 :: .row 3 (D.ints (p.vars ++ ce0 k 1)) :: (ar5 p [ag7]))) (bg8 b p j [(25, bA (pk b j 60 == 1))]); refine wp_seq (wp_seq (l0 G d9 [(30, bA (decide (((p.vars ++ ce0 k 1).length : Int) ≤ 12)))] fun G => b7 (N4 G (fun h12 q12 => ?_) fun h12 q12 => ?_)))
    · refine wp_exit (o0 (o0 (n5 (m6 (b7 (wp_seq (k8 G d9 (rg 9) (aF1 b p j (ag7 :: .row 3 (D.ints (p.vars ++ ce0 k 1)) :: (ar5 p []))) [(4, .ptr 5 0)] fun G => b7 (wp_ret ?_)))))))); exact F6 G [0, 1, 2, 3, 4, 6, 7, 8] (by show _ = mR [0, 1, 2, 3, 4, 6, 7, 8] (F8 b p j); unfold F8; rw [b30 (k := k) (by omega) (by omega) (by omega)] <;> rfl)
    · refine wp_skip (b7 (wp_block (N5 G d9 [0, 1, 2, 3, 4, 5, 7, 8, 9, 34] (aF1 b p j (a07 :: (ar5 p [.box [.ref 9, .ref 6, .tref 7], .row 3 (D.ints (p.vars ++ ce0 k 1 ++ ([1] ++ [])))]))) [(0, .ptr 0 0), (4, .ptr 5 0), (5, .ptr 8 0), (6, iA (p.body.length : Int)), (13, iA (pk b j 60)), (25, bA (pk b j 60 == 1))] (aP ((p.vars ++ ce0 k (1 : Int)).length + ([(1 : Int)] ++ []).length) 8 []) (aK (by simp only [cb5, cd8, cb4, cb6] at *; omega) cc1) fun G => m6 (b7 ?_)))); exact M7 G (k + 1) (by simp only [cb5, cd8, cb4, cb6] at *; omega) (by simp only [cb5, cd8, cb4, cb6] at *; omega) [0, 1, 2, 3, 4, 5, 9, 6, 7, 8] (by have e1 : (p.vars ++ ce0 (k + 1) 1 : List Int) = (p.vars ++ ce0 k 1 ++ ([1] ++ [])) := by3; (first | rw [e1] | simp only [e1]) <;> rfl)
  ·
   refine wp_seq (l0 G d9 [(19, bA (decide ((p.vars.length : Int) > 0)))] fun G => b7 (N4 G (fun h11 q11 => ?_) fun h11 q11 => ?_))
   · refine wp_skip (m6 (b7 (wp_seq (k8 G d9 (rg 9) (.box [.ref 1, iA (j + 1)] :: (am4 b p [.tree (D.stmts p.body)])) [(4, .ptr 5 0)] fun G => b7 (wp_ret ?_))))); exact F6 G [0, 1, 2, 3, 4, 6, 7, 8] (by show _ = mR [0, 1, 2, 3, 4, 6, 7, 8] (F8 b p j); unfold F8; rw [bq1 (by omega)] <;> rfl)
   · refine F7 G (s4 3 [0, 1] (bG2 b (j + 1) (by simp only [cb5, cd8, cb4, cb6] at *; omega) (by simp only [cb5, cd8, cb4, cb6] at *; omega))) [0, 1, 0, 4, 15, 31] (rg 10) (.box [.ref 1, iA (j + 1 + 2)] :: dY b :: dI p.vars :: dI p.arrays :: dT p.body :: a07 :: .row 3 (D.ints (p.vars.set 0 (l1D b (j + 1)))) :: (ar5 p [ag7])) [(4, .ptr 5 0), (5, .ptr 9 0)] [(0 : Int) ≤ 0, (0 : Int) < p.vars.length, (0 : Nat) < p.vars.length] ⟨(by simp [h0, h11]), (by assumption), (by simp only [cb5, cd8, cb4, cb6] at *; omega), cc1⟩ fun G => m6 (b7 (wp_seq (k8 G d9 (rg 9) (.box [.ref 1, iA (j + 1 + 2)] :: dY b :: dI p.vars :: dI p.arrays :: dT p.body :: ag7 :: .row 3 (D.ints (p.vars.set 0 (l1D b (j + 1)))) :: (ar5 p [])) [(4, .ptr 5 0)] fun G => b7 (wp_ret ?_)))); exact F6 G [0, 1, 2, 3, 4, 6, 7, 8] (by show _ = mR [0, 1, 2, 3, 4, 6, 7, 8] (F8 b p j); unfold F8; rw [b88 (by omega) (by omega)] <;> rfl)
abbrev tyC (b : List UInt8) (j : Int) : i9 := ⟨56, [.ptr 0 0], [.box [.ref 1, iA j], dY b], [.box [.ref 1, iA ((bdD b j).2 + 1)], dY b] ++ oP (R6 b j), oA 2⟩
section
variable {b : List UInt8} {j : Int}
theorem b75 (h : pk b (bdD b j).2 4 = 0) : R6 b j = pgD b j := if_pos h
theorem b74 (h : ¬ pk b (bdD b j).2 4 = 0) (h2 : okI (pgD b j) = true) : R6 b j = ag0 (pgD b j) := by rw [R6, if_neg h, if_pos h2]
theorem b73 (h : ¬ pk b (bdD b j).2 4 = 0) (h2 : okI (pgD b j) = false) : R6 b j = pgD b j := by rw [R6, if_neg h, if_neg (by rw [h2]; decide)]
end
abbrev aO8 (b : List UInt8) (j : Int) : List It := [.box [.ref 1, iA ((bdD b j).snd + 1)], dY b, .row 3 (D.ints (R6 b j).vars), .row 3 (D.ints (R6 b j).arrays), .tree (D.stmts (R6 b j).body)]
abbrev bh9 : It := .box [.v (.slice none 0 0), .v (.slice none 0 0), .v (.slice none 0 0)]
abbrev aG1 : It := .box [.ref 3, .ref 4, .tref 5]
abbrev aO0 (b : List UInt8) (j : Int) (r0 : List It) : List It := .row 3 (D.ints (pgD b j).vars) :: .row 3 (D.ints (pgD b j).arrays) :: .tree (D.stmts (pgD b j).body) :: r0
theorem aR6 (b : List UInt8) (j : Int) (r0 : 0 ≤ j) (r1 : j ≤ 10000000) : i9.ok Tryz.prog (tyC b j) := by
  refine z7 20 Tryz.func56 [.box [.ref 1, iA j], dY b] [(0, .ptr 0 0)] fun G => ?_; have hk2 := bl8 b r0 r1; have hbd := bo1 b r0 r1; have hsz := by9 b r0 r1; refine wp_seq (k8 G d9 [0, 1, 2] [.box [.ref 1, iA j], dY b, bh9] [(0, .ptr 0 0), (2, .ptr 2 0)] fun G => b7 (wp_seq (k8 G (s4 1 [0, 1] (a76 b j (by assumption) (by assumption))) [0, 1, 2, 11, 12, 13, 19] (.box [.ref 1, iA (bdD b j).snd] :: dY b :: bh9 :: (aO0 b j [aG1])) [(0, .ptr 0 0), (2, .ptr 2 0), (3, .ptr 6 0)] fun G => b7 (wp_seq (wp_seq (k8 G (s4 1 [0, 1] (L8 b ((bdD b j).snd) 4 (by omega) (by omega))) (rg 7) (.box [.ref 1, iA ((bdD b j).snd + 1)] :: dY b :: bh9 :: (aO0 b j [aG1])) [(2, .ptr 2 0), (3, .ptr 6 0), (10, bA (pk b (bdD b j).snd 4 == 0))] fun G => b7 (P4 G (fun h0 q0 => ?_) fun h0 q0 => ?_)))))))
  ·
   refine wp_skip (b7 (wp_seq (k8 G (s4 1 [3, 4, 5] (i9.lend (aN7 (pgD b j) (by omega)) [.row 3, .row 3, .tree])) [0, 1, 2, 3, 4, 5, 6, 15, 16, 17, 47] (.box [.ref 1, iA ((bdD b j).snd + 1)] :: dY b :: bh9 :: (aO0 b j [aG1, .row 3 (D.ints (ag0 (pgD b j)).vars), .row 3 (D.ints (ag0 (pgD b j)).arrays), .tree (D.stmts (ag0 (pgD b j)).body), .box [.ref 7, .ref 8, .tref 9]])) [(2, .ptr 2 0), (3, .ptr 6 0), (4, .ptr 10 0), (5, bA (okI (pgD b j)))] fun G => b7 (wp_seq (wp_seq (l0 G d9 [(17, bA (okI (pgD b j)))] fun G => b7 (rcB G (fun h1 => ?_) fun h1 => ?_)))))))
   · refine wp_skip (b7 (wp_seq (k8 G d9 (rg 6) (.box [.ref 1, iA ((bdD b j).snd + 1)] :: dY b :: aG1 :: (aO0 b j [])) [(2, .ptr 2 0)] fun G => b7 (wp_ret ?_)))); exact F6 G [0, 1, 3, 4, 5] (by show _ = mR [0, 1, 3, 4, 5] (aO8 b j); unfold aO8; rw [b73 (by omega) (by with_reducible assumption)] <;> rfl)
   · refine wp_seq (k8 G d9 (rg 10) (.box [.ref 1, iA ((bdD b j).snd + 1)] :: dY b :: .box [.ref 7, .ref 8, .tref 9] :: (aO0 b j [aG1, .row 3 (D.ints (ag0 (pgD b j)).vars), .row 3 (D.ints (ag0 (pgD b j)).arrays), .tree (D.stmts (ag0 (pgD b j)).body)])) [(2, .ptr 2 0), (3, .ptr 6 0)] fun G => b7 (wp_ret (l7 ?_))); exact F6 G [0, 1, 7, 8, 9] (by show _ = mR [0, 1, 7, 8, 9] (aO8 b j); unfold aO8; rw [b74 (by omega) (by with_reducible assumption)] <;> rfl)
  · refine wp_seq (k8 G d9 (rg 7) (.box [.ref 1, iA ((bdD b j).snd + 1)] :: dY b :: aG1 :: (aO0 b j [aG1])) [(2, .ptr 2 0), (3, .ptr 6 0)] fun G => b7 (wp_ret (l7 ?_))); exact F6 G [0, 1, 3, 4, 5] (by show _ = mR [0, 1, 3, 4, 5] (aO8 b j); unfold aO8; rw [b75 (by omega)] <;> rfl)
abbrev fpC (b : List UInt8) (j : Int) : i9 := ⟨92, [.ptr 0 0], [.box [.ref 1, iA j], dY b], [.box [.ref 1, iA (P9 b 3 j).2], dY b] ++ oP (P9 b 3 j).1, oA 2⟩
theorem bE2 {b : List UInt8} {j : Int} {i : Nat} (hi : i < 3) (h : P9 b 3 j = P9 b (3 - i) (M8 b j i)) (hn : ¬ ((C7 ⟨(R6 b (M8 b j i)).vars, (R6 b (M8 b j i)).arrays, (R6 b (M8 b j i)).body⟩ false).1 = 0 ∧ 0 < (R6 b (M8 b j i)).body.length)) : i + 1 ≤ 3 ∧ P9 b 3 j = P9 b (3 - (i + 1)) (M8 b j (i + 1)) := ⟨hi, b53 hi h hn⟩
theorem bM3 {b : List UInt8} {j : Int} {i : Nat} (hi : i < 3) (h : P9 b 3 j = P9 b (3 - i) (M8 b j i)) (hn : (C7 ⟨(R6 b (M8 b j i)).vars, (R6 b (M8 b j i)).arrays, (R6 b (M8 b j i)).body⟩ false).1 = 0 ∧ 0 < (R6 b (M8 b j i)).body.length) : P9 b 3 j = (R6 b (M8 b j i), (bdD b (M8 b j i)).2 + 1) := bX2 hi h hn
theorem tyb (b : List UInt8) {j : Int} (h : 0 ≤ j) (h2 : j ≤ 10000000) : i5 (R6 b j).body ≤ 1048576 ∧ (R6 b j).body.length ≤ 1048576 := by
 have h1 := ba6 b h h2
 have h3 := C2 (R6 b j).body
 unfold d7.size at h1; omega
abbrev bh8 (b : List UInt8) (j : Int) : List It := [.box [.ref 1, iA (P9 b 3 j).snd], dY b, .row 3 (D.ints (P9 b 3 j).fst.vars), .row 3 (D.ints (P9 b 3 j).fst.arrays), .tree (D.stmts (P9 b 3 j).fst.body)]
abbrev a06 : It := .box [.v (.slice none 0 0), .v (.slice none 0 0), .v (.slice none 0 0)]
theorem aA6 (b : List UInt8) (j : Int) (r0 : 0 ≤ j) (r1 : j ≤ 9000000) : i9.ok Tryz.prog (fpC b j) := by
  refine z7 29 Tryz.func92 [.box [.ref 1, iA j], dY b] [(0, .ptr 0 0)] fun G => ?_; refine wp_seq (k8 G d9 [0, 1, 2] [.box [.ref 1, iA j], dY b, a06] [(0, .ptr 0 0), (2, .ptr 2 0)] fun G => b7 (wp_seq (wp_seq (C9 G d9 [(0, .ptr 0 0), (2, .ptr 2 0), (3, iA 0)] fun G => b7 (wp_block ?_))))); refine o7 (κ := Nat) (fun i => i ≤ 3 ∧ P9 b 3 j = P9 b (3 - i) (M8 b j i)) (fun i => 3 - i) (fun i => [.box [.ref 1, iA (M8 b j i)], dY b, a06]) (fun i => [(0, .ptr 0 0), (2, .ptr 2 0), (3, iA i)]) 0 (⟨ce8 _, rfl⟩) (s0.at G _ _) ?_; clear G; intro i ρ a w hp G; have hp := hp; have hfj := b52 b r0 r1 i hp.1; have htb := tyb b (j := M8 b j i) (by omega) (by omega); refine wp_seq (wp_seq (l0 G d9 [(8, bA (decide ((i : Int) < 3)))] fun G => b7 (N4 G (fun h0 q0 => ?_) fun h0 q0 => ?_)))
  · refine wp_exit (o0 (o0 (n5 (b7 (wp_seq (k8 G (s4 1 [0, 1] (aR6 b (M8 b j i) (by omega) (by omega))) [0, 1, 2, 11, 12, 13] [.box [.ref 1, iA ((bdD b (M8 b j i)).snd + 1)], dY b, .box [.ref 3, .ref 4, .tref 5], .row 3 (D.ints (R6 b (M8 b j i)).vars), .row 3 (D.ints (R6 b (M8 b j i)).arrays), .tree (D.stmts (R6 b (M8 b j i)).body)] [(2, .ptr 2 0)] fun G => b7 (wp_ret ?_))))))); exact F6 G [0, 1, 3, 4, 5] (by show _ = mR [0, 1, 3, 4, 5] (bh8 b j); unfold bh8; rw [bM2 (b := b) (j := j) (i := i) (by omega) (by omega) hp.2] <;> rfl)
  ·
   refine wp_skip (b7 (wp_seq (wp_block (wp_seq (k8 G (s4 1 [0, 1] (aR6 b (M8 b j i) (by omega) (by omega))) [0, 1, 2, 11, 12, 13, 19] [.box [.ref 1, iA ((bdD b (M8 b j i)).snd + 1)], dY b, a06, .row 3 (D.ints (R6 b (M8 b j i)).vars), .row 3 (D.ints (R6 b (M8 b j i)).arrays), .tree (D.stmts (R6 b (M8 b j i)).body), .box [.ref 3, .ref 4, .tref 5]] [(0, .ptr 0 0), (2, .ptr 2 0), (3, iA i), (4, .ptr 6 0)] fun G => b7 (wp_seq (l0 G (s4 1 [3, 4, 5] (i9.lend (V0 ((R6 b (M8 b j i)).vars) ((R6 b (M8 b j i)).arrays) ((R6 b (M8 b j i)).body) htb.1) [.row 3, .row 3, .tree])) [(5, iA (C7 (d7.mk (R6 b (M8 b j i)).vars (R6 b (M8 b j i)).arrays (R6 b (M8 b j i)).body) false).fst)] fun G => b7 (wp_seq ?_)))))))); cases h1 : ((C7 (d7.mk (R6 b (M8 b j i)).vars (R6 b (M8 b j i)).arrays (R6 b (M8 b j i)).body) false).fst == 0)
   · have q1 := ne_of_beq_false h1; refine l0 G (O5 (fc h1 fz) (us [(3, 6, 0), (1007, 1007, 0)])) [(25, bA false)] fun G => b7 (rF G false (by kernel_rfl) (wp_skip (m6 (b7 (N5 G d9 [0, 1, 2] [.box [.ref 1, iA ((bdD b (M8 b j i)).snd + 1)], dY b, a06] [(0, .ptr 0 0), (2, .ptr 2 0), (3, iA ((i : Int) + 1))] [wO ((i : Int) + 1)] (o1 (by omega)) fun G => b7 ?_))))); exact M7 G (i + 1) (bE2 (by omega) hp.2 (by omega)) (by omega) [0, 1, 2]
   ·
    have q1 := eq_of_beq h1; refine l0 G (O5 (fc h1 fz) (us [(3, 6, 0), (1007, 1007, 0)])) [(25, bA (decide (((R6 b (M8 b j i)).body.length : Int) > 0)))] fun G => b7 (N4 G (fun h2 q2 => ?_) fun h2 q2 => ?_)
    · refine wp_skip (m6 (b7 (N5 G d9 [0, 1, 2] [.box [.ref 1, iA ((bdD b (M8 b j i)).snd + 1)], dY b, a06] [(0, .ptr 0 0), (2, .ptr 2 0), (3, iA ((i : Int) + 1))] [wO ((i : Int) + 1)] (o1 (by omega)) fun G => b7 ?_))); exact M7 G (i + 1) (bE2 (by omega) hp.2 (by omega)) (by omega) [0, 1, 2]
    · refine wp_seq (k8 G d9 (rg 6) [.box [.ref 1, iA ((bdD b (M8 b j i)).snd + 1)], dY b, .box [.ref 3, .ref 4, .tref 5], .row 3 (D.ints (R6 b (M8 b j i)).vars), .row 3 (D.ints (R6 b (M8 b j i)).arrays), .tree (D.stmts (R6 b (M8 b j i)).body)] [(0, .ptr 0 0), (2, .ptr 2 0), (3, iA i)] fun G => b7 (wp_ret (z8 (l7 (l7 (z8 (l7 ?_))))))); exact F6 G [0, 1, 3, 4, 5] (by show _ = mR [0, 1, 3, 4, 5] (bh8 b j); unfold bh8; rw [bM3 (b := b) (j := j) (i := i) (by omega) hp.2 (by omega)] <;> rfl)
def dnX (b : List UInt8) : d7 := (mtD b (P9 b 3 0).1 (P9 b 3 0).2).1
theorem fi0 (b : List UInt8) : 0 ≤ (P9 b 3 0).2 ∧ (P9 b 3 0).2 ≤ 700000 ∧ (P9 b 3 0).1.size ≤ 1000000 := by
 have := bX3 b 3 0 (cc6 _) (by omega) (by omega); omega
theorem ax6 (c : List UInt8) (hc : c.length ≤ 2000) : i9.ok Tryz.prog ⟨38, [.ref 0], [dY c], [dY c] ++ oP (dnX c), oA 1⟩ := by
 refine z7 10 Tryz.func38 [dY c] [(0, .ref 0)] fun G => ?_; have hfi := fi0 c; refine wp_seq (k8 G d9 [0, 1] [dY c, .box [.v (.slice none 0 0), .v (.slice none 0 0), .v (.slice none 0 0)]] [(0, .ref 0), (2, .ptr 1 0)] fun G => b7 (wp_seq (k8 G (s4 1 [0] (bg1 c (by assumption))) [0, 1, 10] [dY c, .box [.v (.slice none 0 0), .v (.slice none 0 0), .v (.slice none 0 0)], .box [.ref 0, iA 0]] [(2, .ptr 1 0), (3, .ptr 2 0)] fun G => b7 (wp_seq (k8 G (t4 (l8 2 [2, 0] (aA6 c 0 (by omega) (by omega)) (l8 3 [2, 0, 19, 20, 21] (i9.lend (aL3 c ((P9 c 3 0).fst) ((P9 c 3 0).snd) hfi.2.2 (by omega) (by omega)) [.no, .no, .row 3, .row 3, .tree]) t3)) fz []) [0, 1, 27, 28, 29] [dY c, .box [.ref 2, .ref 3, .tref 4], .row 3 (D.ints (mtD c (P9 c 3 0).fst (P9 c 3 0).snd).fst.vars), .row 3 (D.ints (mtD c (P9 c 3 0).fst (P9 c 3 0).snd).fst.arrays), .tree (D.stmts (mtD c (P9 c 3 0).fst (P9 c 3 0).snd).fst.body)] [(2, .ptr 1 0)] fun G => b7 (wp_ret ?_)))))); exact F6 G [0, 2, 3, 4]
abbrev bu3 (c : List UInt8) := mtD (List.drop 0 (cc0 2000 c)) (P9 (List.drop 0 (cc0 2000 c)) 3 0).fst (P9 (List.drop 0 (cc0 2000 c)) 3 0).snd
theorem ax5 (c : List UInt8) (hc : 2000 < c.length) : i9.ok Tryz.prog ⟨38, [.ref 0], [dY c], [dY c] ++ oP (dnX ((c.take 2000).drop 0)), oA 1⟩ := by
 refine z7 10 Tryz.func38 [dY c] [(0, .ref 0)] fun G => ?_; have hfi := fi0 ((c.take 2000).drop 0); refine wp_seq (k8 G d9 [0, 1] [dY c, .box [.v (.slice none 0 0), .v (.slice none 0 0), .v (.slice none 0 0)]] [(0, .ref 0), (2, .ptr 1 0)] fun G => b7 (wp_seq (k8 G (s4 1 [0] (bg0 c (by assumption))) [0, 1, 10, 11] [dY c, .box [.v (.slice none 0 0), .v (.slice none 0 0), .v (.slice none 0 0)], .box [.ref 3, iA 0], dY (List.drop 0 (cc0 2000 c))] [(2, .ptr 1 0), (3, .ptr 2 0)] fun G => b7 (wp_seq (k8 G (t4 (l8 2 [2, 3] (aA6 (List.drop 0 (cc0 2000 c)) 0 (by omega) (by omega)) (l8 3 [2, 3, 20, 21, 22] (i9.lend (aL3 (List.drop 0 (cc0 2000 c)) ((P9 (List.drop 0 (cc0 2000 c)) 3 0).fst) ((P9 (List.drop 0 (cc0 2000 c)) 3 0).snd) hfi.2.2 (by omega) (by omega)) [.no, .no, .row 3, .row 3, .tree]) t3)) fz []) [0, 1, 28, 29, 30] [dY c, .box [.ref 2, .ref 3, .tref 4], .row 3 (D.ints (bu3 c).fst.vars), .row 3 (D.ints (bu3 c).fst.arrays), .tree (D.stmts (bu3 c).fst.body)] [(2, .ptr 1 0)] fun G => b7 (wp_ret ?_)))))); exact F6 G [0, 2, 3, 4]
theorem aB1 (c : List UInt8) : i9.ok Tryz.prog ⟨38, [.ref 0], [dY c], [dY c] ++ oP (m0 c), oA 1⟩ := by
 by_cases h : c.length ≤ 2000
 ·have e : m0 c = dnX c := by unfold m0 dnX bsD; rw [cc8 h]
  rw [e]; exact ax6 c h
 ·exact ax5 c (by omega)
theorem bq2 (w : World) : m5 (fun _ => True) (fun _ => True) w w (p7 (fun _ : Empty => Rs.none) (fun _ => undef) (r9 [])) := by
 refine (m5.start (ι := Empty ⊕ Nat) (w0 := w) (φ := fun _ => True) (ψ := fun _ => True) fun _ _ => trivial).map (fun k => some k) (fun k k' i a b => by cases a; cases b; rfl) fun k => ?_
 cases k with
 | inl e => exact e.elim
 | inr j => exact .inr rfl
theorem bt8 (w : World) : Agr (fun _ => True) (FrF (fun _ => True) (p7 (fun _ : Empty => Rs.none) (fun _ => undef) (r9 []))) w w := Agr.mono fun b _ _ => ⟨cc1, fun i => by
 cases i with
 | inl e => exact e.elim
 | inr j => exact fun h => h.elim⟩
abbrev u8s (c : List UInt8) : List Value := c.map fun b => Value.int .u8 (b.toNat : Int)
theorem bt0 {P : Program} {f : FuncId} {x : Value} {c : List UInt8} {post : List It} (hc : i9.ok P ⟨f, [.ref 0], [dY c], post, .v x⟩) (u : Value) (w : World) (hp : z6 w (fun _ => True) u c.length 1 (u8s c)) :
  Calls P f #[u] w fun e w' => e = .returned x ∧ Below w.heap.size w w' := by
 obtain ⟨ρ', g1, M2, g2⟩ := m5.dats [.sl (.bytes c)] [u] 0 (bq2 w) ⟨RD.nice (.bytes c) _ _ _ _ _ (bt8 w) hp, cc1⟩ (fun _ _ => rfl) (fun _ _ _ => rfl)
 have e : o6 (r9 []) (R9 [.sl (.bytes c)] 0) = r9 [dY c] := by
  funext j
  match j with
  | 0 => rfl
  | j + 1 => simp [R9, o6, r9]
 rw [e] at M2
 simp only [xav, AV.vals, AV.val, List.cons.injEq, and_true] at g2
 subst g2
 refine (hc Empty _ _ w w _ ρ' M2).mono ?_
 rintro e w' ⟨ρ2, -, rfl, M3⟩
 exact ⟨rfl, M3.below fun _ _ => trivial⟩
end Go.Proofs.YthikdkjjdeehoaaGreat

namespace Go.Proofs.YthikdkjjdeehoaaGreat
set_option linter.unusedVariables false
set_option linter.unusedSimpArgs false
open Go Go.RowKit Go.ChangeShapes Go.WideShapes Go.Deep
section
variable {H : Type} {enc : TypeId × Value → H} {W : World}
theorem aN8 {fuel : Nat} {t : TypeId} {v : Value} {x : DataW H × List MemPlace} (ht : Tryz.prog.underlying t = some (.slice 5))
  (h : DataW.trod enc Tryz.prog W 0 (fun _ => true) true fuel t [v] = some x) : ∃ l : List UInt8, Row W v l.length 1 (l.map fun b => Value.int .u8 (b.toNat : Int)) := by
 obtain ⟨n, m, C, hr, hC, hx⟩ := a28 ht (sz := 1) (by kernel_rfl) (by omega) h
 obtain ⟨g, hg⟩ := choose_lt (α := UInt8) (n := n) (p := fun i b => C i = [.int .u8 (b.toNat : Int)]) (fun i hi => by
  obtain ⟨y, hy⟩ := hx i hi
  obtain ⟨z, hz, _, hw⟩ := DataW.trod_int Tryz.underlying5 hy
  simp only [Lit.wf, cb3, decide_eq_true_eq] at hw
  have h0 : (0 : Int) ≤ z := hw.1
  have h1 : z ≤ 255 := hw.2
  refine ⟨UInt8.ofNat z.toNat, ?_⟩
  rw [hz]
  have e : (UInt8.ofNat z.toNat).toNat = z.toNat := by
   rw [UInt8.toNat_ofNat']; omega
  rw [e, Int.toNat_of_nonneg h0])
 refine ⟨(cd9 n).map g, ?_⟩
 rw [List.length_map, List.length_range, ← aI9 n C (fun b => Value.int .u8 (b.toNat : Int)) g hg]
 exact hr
end
end Go.Proofs.YthikdkjjdeehoaaGreat
