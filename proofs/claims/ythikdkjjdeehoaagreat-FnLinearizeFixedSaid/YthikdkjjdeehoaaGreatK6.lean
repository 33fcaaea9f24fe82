/-
  Texts of this claim, part 6: what the functions on the way do, and plain laws. Conditions: as each statement says.
-/
import Derived.Test.YthikdkjjdeehoaaGreatK5
set_option maxRecDepth 100000
set_option maxHeartbeats 16000000
open Bool renaming and_eq_true → b86, not_eq_false' → b97, not_eq_true' → b95
open Inhabited renaming default → b85
open List renaming all_eq_true → b93, eq_nil_of_length_eq_zero → ca0, getD_eq_getElem?_getD → b91, getElem?_append_left → ca9, getElem?_eq_getElem → b90, getElem_mem → cb0, length_append → b88, length_cons → b87, length_nil → b89, length_replicate → cb1, mem_append → ca2, mem_cons → cb7, mem_cons_of_mem → ca8, mem_cons_self → ca1, mem_singleton → ca5, range → cb2, replicate → cb3, take → b96, take_of_length_le → ca3
open Nat renaming le_refl → b99, le_trans → ca7, lt_or_ge → cc0, zero_le → cc1
open True renaming intro → b94

namespace Go.Proofs.YthikdkjjdeehoaaGreat
set_option linter.unusedVariables false
set_option linter.unusedSimpArgs false
open Go Go.RowKit
abbrev stO (s : b6) : List It := [.tree (.exprs s.index.kids), .tree (.exprs s.value.kids), .tree (.stmts s.body), .tree (.stmts s.els)]
abbrev stA (s : b6) (r : Nat) : AV := .agg [iA s.kind, iA s.target, iA s.index.kind, iA s.index.value, .tref r, iA s.value.kind, iA s.value.value, .tref (r + 1), iA s.count, .tref (r + 2), .tref (r + 3)]
abbrev dsC (b : List UInt8) (vs ars : List Int) (bd : List b6) (d : Nat) (j n : Int) : k6 := ⟨224, [.ptr 0 0, pA 2, iA n], dwS b j vs ars bd, dwS b (B6 b vs.length ars.length d j).2 vs ars bd ++ stO (B6 b vs.length ars.length d j).1, stA (B6 b vs.length ars.length d j).1 5⟩
abbrev dbC (b : List UInt8) (vs ars : List Int) (bd : List b6) (d : Nat) (m : Nat) (j n c : Int) : k6 := ⟨183, [.ptr 0 0, pA 2, iA n, iA c], dwS b j vs ars bd, dwS b (F9 (B6 b vs.length ars.length d) m j).2 vs ars bd ++ [.tree (.stmts (F9 (B6 b vs.length ars.length d) m j).1)], .tref 5⟩
section
variable {b : List UInt8} {nv na d : Nat} {j : Int}
theorem bu4 (h : nm b j J7 = 2) (h1 : 0 < (na : Int)) : B6 b nv na d j = soS b nv na (j + 1) := by
 cases d <;> (rw [B6, if_pos ⟨h, by omega⟩])
theorem bX7 (h : nm b j J7 = 3) (h1 : 0 < d) : B6 b nv na (d + 1) j = ifS b nv na (B6 b nv na d) (j + 1) := by
 rw [B6, if_neg (by omega), if_pos ⟨h, by omega⟩]
theorem bX6 (h : nm b j J7 = 4) (h1 : 0 < d) : B6 b nv na (d + 1) j = rpS b (B6 b nv na d) (j + 1) := by
 rw [B6, if_neg (by omega), if_neg (by omega), if_pos ⟨h, by omega⟩]
theorem ah1 (h : ¬ (nm b j J7 = 2 ∧ 0 < (na : Int))) (h1 : d < 2 ∨ (¬ nm b j J7 = 3 ∧ ¬ nm b j J7 = 4)) : B6 b nv na d j = dfS b nv na (nm b j J7) (j + 1) := by
 match d, h1 with
 | 0, _ => rw [B6, if_neg (by omega)]
 | d + 1, h1 => rw [B6, if_neg (by omega), if_neg (by omega), if_neg (by omega)]
theorem bU9 {kd : Int} (h : kd = 5) : dfS b nv na kd j = (⟨5, pk b j nv, noE, (t9 b nv na (j + 1)).1, 0, [], []⟩, (t9 b nv na (j + 1)).2) := by rw [dfS, if_pos h]
theorem a54 {kd : Int} (h : ¬ kd = 5) : dfS b nv na kd j = (⟨1, pk b j nv, noE, (t9 b nv na (j + 1)).1, 0, [], []⟩, (t9 b nv na (j + 1)).2) := by rw [dfS, if_neg h]
end
section
variable (b : List UInt8) {j : Int}
theorem b79 (r0 : 0 ≤ j) (r1 : j ≤ 1000000000) : 0 ≤ nm b j ibL ∧ nm b j ibL ≤ 2 := aP5 b (by simp) bc7 r0 r1
theorem b78 (r0 : 0 ≤ j) (r1 : j ≤ 1000000000) : 0 ≤ nm b j ieL ∧ nm b j ieL ≤ 2 := aP5 b (by simp) bc5 r0 r1
theorem b52 (r0 : 0 ≤ j) (r1 : j ≤ 1000000000) : 0 ≤ nm b j rbL ∧ nm b j rbL ≤ 2 := aP5 b (by simp) ba7 r0 r1
theorem bL8 (d : Nat) : (d = 0 ∧ cS (d - 1) = 402 ∧ cS d ≤ 2010) ∨ cS d = 402 + 4 * cS (d - 1) := by
 cases d with
 | zero => exact .inl ⟨rfl, rfl, by decide⟩
 | succ d => exact .inr rfl
end
section
variable {b : List UInt8} {nv na d : Nat} {j : Int}
theorem a95 (h : nm b j J7 = 3) (h1 : 1 < d) : B6 b nv na d j = ifS b nv na (B6 b nv na (d - 1)) (j + 1) := by
 match d, h1 with
 | d + 1, h1 => exact bX7 h (by omega)
theorem a94 (h : nm b j J7 = 4) (h1 : 1 < d) : B6 b nv na d j = rpS b (B6 b nv na (d - 1)) (j + 1) := by
 match d, h1 with
 | d + 1, h1 => exact bX6 h (by omega)
end
abbrev bM7 (b : List UInt8) (vs : List Int) (ars : List Int) (d : Nat) (j : Int) (k : Nat) := B6 b vs.length ars.length d (F9 (B6 b vs.length ars.length d) k j).snd
abbrev aZ3 (n : Int) (c : Int) (r0 : List (Nat × AV)) : List (Nat × AV) := (0, .ptr 0 0) :: (2, iA n) :: (3, iA c) :: (5, .ptr 5 0) :: (8, .v (.slice none 0 0)) :: r0
theorem bH1 (b : List UInt8) (vs ars : List Int) (bd : List b6) (d m : Nat) (ih : ∀ (j n : Int), n = d → 0 ≤ j → j + cS d ≤ 600000000 → k6.ok Tryz.prog (dsC b vs ars bd d j n)) (j n c : Int) (hn : n = d) (hm : c = m) (hm2 : m ≤ 4) (B : Int) (hB : (m : Int) * cS d ≤ B) (r0 : 0 ≤ j) (r1 : j + B ≤ 600000000) : k6.ok Tryz.prog (dbC b vs ars bd d m j n c) := by
 refine A2 25 Tryz.func183 [.box [.ref 1, iA j], dY b, dI vs, dI ars, dT bd] [(0, .ptr 0 0), (1, pA 2), (2, iA n), (3, iA c)] fun G => ?_; have hc := aA4 d; refine wp_seq (k8 G d9 (rg 6) [.box [.ref 1, iA j], dY b, dI vs, dI ars, dT bd, .box (pL 2)] (aZ3 n c []) fun G => b7 (wp_seq (k8 G d9 (rg 7) [.box [.ref 1, iA j], dY b, dI vs, dI ars, dT bd, .box (pL 2), .tree (D.stmts [])] (aZ3 n c [(9, .tref 6)]) fun G => b7 (wp_seq (wp_seq (C9 G d9 (aZ3 n c [(9, .tref 6), (10, iA 0)]) fun G => b7 (wp_block ?_))))))); refine o9 (κ := Nat) (fun k => k ≤ m) (fun k => m - k) (fun k => [.box [.ref 1, iA (F9 (B6 b vs.length ars.length d) k j).2], dY b, dI vs, dI ars, dT bd, .box (pL 2), .tree (.stmts (F9 (B6 b vs.length ars.length d) k j).1)]) (fun k => [(0, .ptr 0 0), (2, iA n), (3, iA c), (5, .ptr 5 0), (8, .v (.slice none 0 0)), (9, .tref 6), (10, iA k)]) 0 (by omega) (s5.at G _ _) ?_; clear G; intro k ρ a w hp G; replace G := s5.at G [.box [.ref 1, iA (F9 (B6 b vs.length ars.length d) k j).snd], dY b, dI vs, dI ars, dT bd, .box (pL 2), .tree (D.stmts (F9 (B6 b vs.length ars.length d) k j).fst)] (aZ3 n c [(9, .tref 6), (10, iA k)]); have hkb := bQ2 b vs.length ars.length (k := j) (i := k) hB (by omega) r0 (by omega); have hkl : (F9 (B6 b vs.length ars.length d) k j).1.length = k := aY1 _ _ _; refine wp_seq (wp_seq (l5 G d9 [(14, bA (decide ((k : Int) < c)))] fun G => b7 (O0 G (fun h0 q0 => ?_) fun h0 q0 => ?_)))
 ·refine wp_exit (o5 (o5 (n9 (b7 (wp_seq (k8 G d9 [0, 1, 2, 3, 4, 6] [.box [.ref 1, iA (F9 (B6 b vs.length ars.length d) k j).snd], dY b, dI vs, dI ars, dT bd, .tree (D.stmts (F9 (B6 b vs.length ars.length d) k j).fst)] [(8, .tref 5)] fun G => b7 (wp_ret ?_))))))); exact F2 G (rg 6) (by show _ = mR (rg 6) [.box [.ref 1, iA (F9 (B6 b vs.length ars.length d) m j).snd], dY b, dI vs, dI ars, dT bd, .tree (D.stmts (F9 (B6 b vs.length ars.length d) m j).fst)]; rw [show m = k by omega] <;> rfl)
 ·refine wp_skip (b7 (wp_seq (wp_block (O1 G (s6 4 (rg 5) (ih ((F9 (B6 b vs.length ars.length d) k j).snd) n (by assumption) (by have := bm2 b vs.length ars.length (k := j) (i := k) hB (by omega) r0 (by omega); omega) (by have := bm2 b vs.length ars.length (k := j) (i := k) hB (by omega) r0 (by omega); omega))) [0, 1, 2, 3, 4, 5, 55] [.box [.ref 1, iA (bM7 b vs ars d j k).snd], dY b, dI vs, dI ars, dT bd, .box (pL 2), .tree (D.stmts ((F9 (B6 b vs.length ars.length d) k j).fst ++ [qzS (bM7 b vs ars d j k).fst]))] (aZ3 n c [(9, .tref 6), (10, iA k)]) (aP ((F9 (B6 b vs.length ars.length d) k j).fst.length + 1) 152 []) (aK (by omega) b94) fun G => m6 (b7 (E2 G d9 [(10, iA ((k : Int) + 1))] [wO ((k : Int) + 1)] (o1 (by omega)) fun G => b7 ?_)))))); exact M8 G (k + 1) (by have := bm2 b vs.length ars.length (k := j) (i := k) hB (by omega) r0 (by omega); omega) (by have := bm2 b vs.length ars.length (k := j) (i := k) hB (by omega) r0 (by omega); omega) (rg 7) (by have e1 : ((F9 (B6 b vs.length ars.length d) (k + 1) j).fst : List b6) = ((F9 (B6 b vs.length ars.length d) k j).fst ++ [qzS (B6 b vs.length ars.length d (F9 (B6 b vs.length ars.length d) k j).snd).fst]) := (by show _ ++ [_] = _ ++ [_]; unfold qzS; rw [b5.eta, b5.eta, b6.eta]; done); (first | rw [e1] | simp only [e1]) <;> rfl)
abbrev aO4 (b : List UInt8) (vs : List Int) (ars : List Int) (d : Nat) (j : Int) := F9 (B6 b vs.length ars.length (d - 1)) (nm b (t9 b vs.length ars.length (j + 1)).snd ibL).toNat ((t9 b vs.length ars.length (j + 1)).snd + 1)
abbrev bg7 (b : List UInt8) (vs : List Int) (ars : List Int) (d : Nat) (j : Int) := F9 (B6 b vs.length ars.length (d - 1)) (nm b (aO4 b vs ars d j).snd ieL).toNat ((aO4 b vs ars d j).snd + 1)
abbrev S7 (b : List UInt8) (vs : List Int) (ars : List Int) (d : Nat) (j : Int) : AV := (.agg [iA (B6 b vs.length ars.length d j).fst.kind, iA (B6 b vs.length ars.length d j).fst.target, iA (B6 b vs.length ars.length d j).fst.index.kind, iA (B6 b vs.length ars.length d j).fst.index.value, .tref 5, iA (B6 b vs.length ars.length d j).fst.value.kind, iA (B6 b vs.length ars.length d j).fst.value.value, .tref 6, iA (B6 b vs.length ars.length d j).fst.count, .tref 7, .tref 8])
abbrev S6 (b : List UInt8) (vs : List Int) (ars : List Int) (bd : List b6) (d : Nat) (j : Int) : List It := [.box [.ref 1, iA (B6 b vs.length ars.length d j).snd], dY b, dI vs, dI ars, dT bd, .tree (D.exprs (B6 b vs.length ars.length d j).fst.index.kids), .tree (D.exprs (B6 b vs.length ars.length d j).fst.value.kids), .tree (D.stmts (B6 b vs.length ars.length d j).fst.body), .tree (D.stmts (B6 b vs.length ars.length d j).fst.els)]
abbrev ar8 : It := .box [iA 0, iA 0, iA 0, iA 0, .v (.slice none 0 0), iA 0, iA 0, .v (.slice none 0 0), iA 0, .v (.slice none 0 0), .v (.slice none 0 0)]
abbrev bg6 (b : List UInt8) (vs : List Int) (ars : List Int) (j : Int) : It := .box [iA 1, iA (pk b (j + 1) (vs.length : Int)), iA 0, iA 0, .v (.slice none 0 0), iA (t9 b vs.length ars.length (j + 1 + 1)).fst.kind, iA (t9 b vs.length ars.length (j + 1 + 1)).fst.value, .tref 7, iA 0, .v (.slice none 0 0), .v (.slice none 0 0)]
abbrev bg5 (b : List UInt8) (vs : List Int) (ars : List Int) (j : Int) : It := .box [iA 1, iA (pk b (j + 1) (vs.length : Int)), iA 0, iA 0, .v (.slice none 0 0), iA (t9 b vs.length ars.length (j + 1 + 1)).fst.kind, iA (t9 b vs.length ars.length (j + 1 + 1)).fst.value, .tref 6, iA 0, .v (.slice none 0 0), .v (.slice none 0 0)]
abbrev bg4 (b : List UInt8) (vs : List Int) (j : Int) : It := .box [iA 1, iA (pk b (j + 1) (vs.length : Int)), iA 0, iA 0, .v (.slice none 0 0), iA 0, iA 0, .v (.slice none 0 0), iA 0, .v (.slice none 0 0), .v (.slice none 0 0)]
abbrev am6 (b : List UInt8) (vs : List Int) (ars : List Int) (j : Int) : It := .tree (D.exprs (t9 b vs.length ars.length (j + 1 + 1)).fst.kids)
abbrev Z2 (b : List UInt8) (vs : List Int) (ars : List Int) (j : Int) : It := .box [.ref 1, iA (t9 b vs.length ars.length (j + 1 + 1)).snd]
abbrev aS7 : It := .box [iA 1, iA 0, iA 0, iA 0, .v (.slice none 0 0), iA 0, iA 0, .v (.slice none 0 0), iA 0, .v (.slice none 0 0), .v (.slice none 0 0)]
abbrev bf6 (b : List UInt8) (vs : List Int) (ars : List Int) (bd : List b6) (j : Int) (r0 : List It) : List It := .box [.ref 1, iA (t9 b vs.length ars.length (j + 1 + 1)).snd] :: dY b :: dI vs :: dI ars :: dT bd :: .box [iA 1, iA (pk b (j + 1) (vs.length : Int)), iA 0, iA 0, .tref 7, iA (t9 b vs.length ars.length (j + 1 + 1)).fst.kind, iA (t9 b vs.length ars.length (j + 1 + 1)).fst.value, .tref 6, iA 0, .tref 8, .tref 9] :: .tree (D.exprs (t9 b vs.length ars.length (j + 1 + 1)).fst.kids) :: .tree (D.exprs []) :: .tree (D.stmts []) :: r0
abbrev bf5 (b : List UInt8) (vs : List Int) (ars : List Int) (bd : List b6) (j : Int) (r0 : List It) : List It := .box [.ref 1, iA (t9 b vs.length ars.length (j + 1 + 1)).snd] :: dY b :: dI vs :: dI ars :: dT bd :: .box [iA 1, iA (pk b (j + 1) (vs.length : Int)), iA 0, iA 0, .tref 7, iA (t9 b vs.length ars.length (j + 1 + 1)).fst.kind, iA (t9 b vs.length ars.length (j + 1 + 1)).fst.value, .tref 6, iA 0, .tref 8, .v (.slice none 0 0)] :: .tree (D.exprs (t9 b vs.length ars.length (j + 1 + 1)).fst.kids) :: .tree (D.exprs []) :: r0
abbrev bf4 (b : List UInt8) (vs : List Int) (ars : List Int) (bd : List b6) (j : Int) (r0 : List It) : List It := .box [.ref 1, iA (t9 b vs.length ars.length (j + 1 + 1)).snd] :: dY b :: dI vs :: dI ars :: dT bd :: .box [iA 1, iA (pk b (j + 1) (vs.length : Int)), iA 0, iA 0, .tref 7, iA (t9 b vs.length ars.length (j + 1 + 1)).fst.kind, iA (t9 b vs.length ars.length (j + 1 + 1)).fst.value, .tref 6, iA 0, .v (.slice none 0 0), .v (.slice none 0 0)] :: .tree (D.exprs (t9 b vs.length ars.length (j + 1 + 1)).fst.kids) :: r0
abbrev X9 (r0 : List (Nat × AV)) : List (Nat × AV) := (0, .ptr 0 0) :: (4, .ptr 5 0) :: (6, .ptr 6 0) :: (8, .ptr 7 0) :: r0
abbrev aZ2 (b : List UInt8) (vs : List Int) (ars : List Int) (d : Nat) (j : Int) (r0 : List It) : List It := .box [.ref 1, iA (F9 (B6 b vs.length ars.length (d - 1)) (nm b (j + 1 + 1) rbL).toNat (j + 1 + 1 + 1)).snd] :: dY b :: dI vs :: dI ars :: r0
abbrev ar1 (n : Int) (r0 : List (Nat × AV)) : List (Nat × AV) := (0, .ptr 0 0) :: (2, iA n) :: (4, .ptr 5 0) :: (6, .ptr 6 0) :: r0
abbrev Q4 (b : List UInt8) (vs : List Int) (ars : List Int) (bd : List b6) (r0 : List It) : List It := dY b :: dI vs :: dI ars :: dT bd :: .box (pL 2) :: ar8 :: r0
abbrev bf3 (b : List UInt8) (vs : List Int) (ars : List Int) (j : Int) (r0 : List It) : List It := .tree (D.exprs (o6 b (vs.length : Int) (j + 1 + 1)).kids) :: .tree (D.exprs (t9 b vs.length ars.length (j + 1 + 1 + 2)).fst.kids) :: r0
theorem bv1 (b : List UInt8) (vs ars : List Int) (bd : List b6) (d : Nat) (hd : d ≤ 3) (ih : ∀ (j n c : Int), 1 < d → n = (d : Int) - 1 → 0 ≤ c → c ≤ 2 → 0 ≤ j → j + 2 * cS (d - 1) ≤ 600000000 → k6.ok Tryz.prog (dbC b vs ars bd (d - 1) c.toNat j n c)) (j n : Int) (hn : n = d) (r0 : 0 ≤ j) (r1 : j + cS d ≤ 600000000) : k6.ok Tryz.prog (dsC b vs ars bd d j n) := by
  refine A2 100 Tryz.func224 [.box [.ref 1, iA j], dY b, dI vs, dI ars, dT bd] [(0, .ptr 0 0), (1, pA 2), (2, iA n)] fun G => ?_; have hc := aA4 (d - 1); have hcd := bL8 d; have hcn := aA4 d; have hsm := bh7 b vs.length ars.length (k := j + 1) (by omega) (by omega); have hib := b79 b (j := (t9 b vs.length ars.length (j + 1)).2) (by omega) (by omega); have hbb := bQ2 b vs.length ars.length (k := (t9 b vs.length ars.length (j + 1)).2 + 1) (i := (nm b (t9 b vs.length ars.length (j + 1)).2 ibL).toNat) (b02 hib.1 hib.2 (show 0 ≤ cS (d - 1) by omega)) (b99 _) (by omega) (by omega); have hie := b78 b (j := (F9 (B6 b vs.length ars.length (d - 1)) (nm b (t9 b vs.length ars.length (j + 1)).2 ibL).toNat ((t9 b vs.length ars.length (j + 1)).2 + 1)).2) (by omega) (by omega); have hrb := b52 b (j := j + 1 + 1) (by omega) (by omega); refine wp_seq (k8 G d9 [0, 1, 2, 3, 4, 5, 13] (.box [.ref 1, iA j] :: (Q4 b vs ars bd [])) (ar1 n []) fun G => b7 (wp_seq (k8 G (s6 2 [0, 1, 15] (k6.lend (O6 b j J7 (List.cons_ne_nil _ _) (by assumption) (by omega)) [.no, .no, .row 3])) (rg 7) (.box [.ref 1, iA (j + 1)] :: (Q4 b vs ars bd [])) (ar1 n [(7, iA (nm b j J7))]) fun G => b7 (wp_seq (k8 G d9 [0, 1, 2, 3, 4, 5, 6, 23] (.box [.ref 1, iA (j + 1)] :: (Q4 b vs ars bd [.box [iA (nm b j J7), iA 0, iA 0, iA 0, .v (.slice none 0 0), iA 0, iA 0, .v (.slice none 0 0), iA 0, .v (.slice none 0 0), .v (.slice none 0 0)]])) (ar1 n [(7, iA (nm b j J7)), (8, .ptr 7 0)]) fun G => b7 (wp_seq (wp_block (wp_seq ?_)))))))); cases h0 : (nm b j J7 == 2)
  ·
   have q0 := ne_of_beq_false h0; refine l5 G (O2 (fc h0 fz) (us [(3, 6, 0), (1007, 1007, 0)])) [(27, bA false)] fun G => b7 (rF G false (by kernel_rfl) (wp_seq ?_)); cases h1 : (nm b j J7 == 3)
   ·
    have q1 := ne_of_beq_false h1; refine l5 G (O2 (fc h1 fz) [(3, 0), (4, 0), (1005, 0)]) [(50, bA false)] fun G => b7 (rF G false (by kernel_rfl) (wp_seq ?_)); cases h2 : (nm b j J7 == 4)
    ·
     have q2 := ne_of_beq_false h2; refine l5 G (O2 (fc h2 fz) [(3, 0), (4, 0), (1005, 0)]) [(79, bA false)] fun G => b7 (rF G false (by kernel_rfl) (wp_seq (wp_seq (l5 G d9 [(15, bA (nm b j J7 != 5))] fun G => b7 (rcN G (fun h3 q3 => ?_) fun h3 q3 => ?_)))))
     · refine wp_skip (b7 (wp_seq (k8 G (s6 4 [0, 1] (L5 b (j + 1) ((vs.length : Int)) (by omega) (by omega))) (rg 8) (.box [.ref 1, iA (j + 1 + 1)] :: (Q4 b vs ars bd [.box [iA (nm b j J7), iA (pk b (j + 1) (vs.length : Int)), iA 0, iA 0, .v (.slice none 0 0), iA 0, iA 0, .v (.slice none 0 0), iA 0, .v (.slice none 0 0), .v (.slice none 0 0)]])) (X9 []) fun G => b7 (k8 G (s6 2 (rg 5) (ae2 b vs ars bd (j + 1 + 1) (by omega) (by omega))) [0, 1, 2, 3, 4, 6, 7, 24] [Z2 b vs ars j, dY b, dI vs, dI ars, dT bd, ar8, .box [iA (nm b j J7), iA (pk b (j + 1) (vs.length : Int)), iA 0, iA 0, .v (.slice none 0 0), iA (t9 b vs.length ars.length (j + 1 + 1)).fst.kind, iA (t9 b vs.length ars.length (j + 1 + 1)).fst.value, .tref 7, iA 0, .v (.slice none 0 0), .v (.slice none 0 0)], am6 b vs ars j] [(6, .ptr 5 0), (8, .ptr 6 0)] fun G => m6 (b7 (wp_seq (k8 G d9 [0, 1, 2, 3, 4, 5, 7] [Z2 b vs ars j, dY b, dI vs, dI ars, dT bd, .box [iA (nm b j J7), iA (pk b (j + 1) (vs.length : Int)), iA 0, iA 0, .v (.slice none 0 0), iA (t9 b vs.length ars.length (j + 1 + 1)).fst.kind, iA (t9 b vs.length ars.length (j + 1 + 1)).fst.value, .tref 6, iA 0, .v (.slice none 0 0), .v (.slice none 0 0)], am6 b vs ars j] [(6, .ptr 5 0)] fun G => b7 (wp_ret ?_)))))))); obtain ⟨ρ, G⟩ := G.nilT 7 (.exprs []) [.box [.ref 1, iA (t9 b vs.length ars.length (j + 1 + 1)).snd], dY b, dI vs, dI ars, dT bd, .box [iA (nm b j J7), iA (pk b (j + 1) (vs.length : Int)), iA 0, iA 0, .tref 7, iA (t9 b vs.length ars.length (j + 1 + 1)).fst.kind, iA (t9 b vs.length ars.length (j + 1 + 1)).fst.value, .tref 6, iA 0, .v (.slice none 0 0), .v (.slice none 0 0)], .tree (D.exprs (t9 b vs.length ars.length (j + 1 + 1)).fst.kids)] [(6, .ptr 5 0)]; obtain ⟨ρ, G⟩ := G.nilT 8 (.stmts []) [.box [.ref 1, iA (t9 b vs.length ars.length (j + 1 + 1)).snd], dY b, dI vs, dI ars, dT bd, .box [iA (nm b j J7), iA (pk b (j + 1) (vs.length : Int)), iA 0, iA 0, .tref 7, iA (t9 b vs.length ars.length (j + 1 + 1)).fst.kind, iA (t9 b vs.length ars.length (j + 1 + 1)).fst.value, .tref 6, iA 0, .tref 8, .v (.slice none 0 0)], .tree (D.exprs (t9 b vs.length ars.length (j + 1 + 1)).fst.kids), .tree (D.exprs [])] [(6, .ptr 5 0)]; obtain ⟨ρ, G⟩ := G.nilT 9 (.stmts []) [.box [.ref 1, iA (t9 b vs.length ars.length (j + 1 + 1)).snd], dY b, dI vs, dI ars, dT bd, .box [iA (nm b j J7), iA (pk b (j + 1) (vs.length : Int)), iA 0, iA 0, .tref 7, iA (t9 b vs.length ars.length (j + 1 + 1)).fst.kind, iA (t9 b vs.length ars.length (j + 1 + 1)).fst.value, .tref 6, iA 0, .tref 8, .tref 9], .tree (D.exprs (t9 b vs.length ars.length (j + 1 + 1)).fst.kids), .tree (D.exprs []), .tree (D.stmts [])] [(6, .ptr 5 0)]; exact X7 (.agg [iA (nm b j J7), iA (pk b (j + 1) (vs.length : Int)), iA 0, iA 0, .tref 7, iA (t9 b vs.length ars.length (j + 1 + 1)).fst.kind, iA (t9 b vs.length ars.length (j + 1 + 1)).fst.value, .tref 6, iA 0, .tref 8, .tref 9]) G [0, 1, 2, 3, 4, 7, 6, 8, 9] (by show _ = AV.ren (nth [0, 1, 2, 3, 4, 7, 6, 8, 9]) (S7 b vs ars d j); unfold S7; have e1 : ((B6 b vs.length ars.length d j).fst.kind : Int) = (nm b j J7) := (by rw [ah1 (by omega) (by omega), bU9 (by omega)]; show (5 : Int) = _; omega); rw [e1, ah1 (by omega) (by omega), bU9 (by omega)] <;> rfl) (by show _ = mR [0, 1, 2, 3, 4, 7, 6, 8, 9] (S6 b vs ars bd d j); unfold S6; rw [ah1 (by omega) (by omega), bU9 (by omega)] <;> rfl)
     · refine k8 G d9 (rg 8) (.box [.ref 1, iA (j + 1)] :: (Q4 b vs ars bd [aS7])) (X9 []) fun G => b7 (wp_seq (k8 G (s6 4 [0, 1] (L5 b (j + 1) ((vs.length : Int)) (by omega) (by omega))) (rg 8) (.box [.ref 1, iA (j + 1 + 1)] :: (Q4 b vs ars bd [bg4 b vs j])) (X9 []) fun G => b7 (k8 G (s6 2 (rg 5) (ae2 b vs ars bd (j + 1 + 1) (by omega) (by omega))) [0, 1, 2, 3, 4, 6, 7, 24] [Z2 b vs ars j, dY b, dI vs, dI ars, dT bd, ar8, bg6 b vs ars j, am6 b vs ars j] [(6, .ptr 5 0), (8, .ptr 6 0)] fun G => m6 (b7 (wp_seq (k8 G d9 [0, 1, 2, 3, 4, 5, 7] [Z2 b vs ars j, dY b, dI vs, dI ars, dT bd, bg5 b vs ars j, am6 b vs ars j] [(6, .ptr 5 0)] fun G => b7 (wp_ret ?_))))))); obtain ⟨ρ, G⟩ := G.nilT 7 (.exprs []) (bf4 b vs ars bd j []) [(6, .ptr 5 0)]; obtain ⟨ρ, G⟩ := G.nilT 8 (.stmts []) (bf5 b vs ars bd j []) [(6, .ptr 5 0)]; obtain ⟨ρ, G⟩ := G.nilT 9 (.stmts []) (bf6 b vs ars bd j []) [(6, .ptr 5 0)]; exact X7 (.agg [iA 1, iA (pk b (j + 1) (vs.length : Int)), iA 0, iA 0, .tref 7, iA (t9 b vs.length ars.length (j + 1 + 1)).fst.kind, iA (t9 b vs.length ars.length (j + 1 + 1)).fst.value, .tref 6, iA 0, .tref 8, .tref 9]) G [0, 1, 2, 3, 4, 7, 6, 8, 9] (by show _ = AV.ren (nth [0, 1, 2, 3, 4, 7, 6, 8, 9]) (S7 b vs ars d j); unfold S7; rw [ah1 (by omega) (by omega), a54 (by omega)] <;> rfl) (by show _ = mR [0, 1, 2, 3, 4, 7, 6, 8, 9] (S6 b vs ars bd d j); unfold S6; rw [ah1 (by omega) (by omega), a54 (by omega)] <;> rfl)
    ·
     have q2 := eq_of_beq h2; refine l5 G (O2 (fc h2 fz) [(3, 0), (4, 0), (1005, 0)]) [(79, bA (decide (n > 1)))] fun G => b7 (O0 G (fun h4 q4 => ?_) fun h4 q4 => ?_)
     ·
      refine wp_seq (wp_seq (C9 G d9 (X9 [(15, bA (nm b j J7 != 5))]) fun G => b7 ?_)); cases h5 : (nm b j J7 != 5)
      · have q5 := bne_eq_false_iff_eq.1 h5; exact False.elim (by omega)
      · have q5 := bne_iff_ne.1 h5; refine rT G _ h5 (k8 G d9 (rg 8) (.box [.ref 1, iA (j + 1)] :: (Q4 b vs ars bd [aS7])) (X9 []) fun G => b7 (wp_seq (k8 G (s6 4 [0, 1] (L5 b (j + 1) ((vs.length : Int)) (by omega) (by omega))) (rg 8) (.box [.ref 1, iA (j + 1 + 1)] :: (Q4 b vs ars bd [bg4 b vs j])) (X9 []) fun G => b7 (k8 G (s6 2 (rg 5) (ae2 b vs ars bd (j + 1 + 1) (by omega) (by omega))) [0, 1, 2, 3, 4, 6, 7, 24] [Z2 b vs ars j, dY b, dI vs, dI ars, dT bd, ar8, bg6 b vs ars j, am6 b vs ars j] [(6, .ptr 5 0), (8, .ptr 6 0)] fun G => m6 (b7 (wp_seq (k8 G d9 [0, 1, 2, 3, 4, 5, 7] [Z2 b vs ars j, dY b, dI vs, dI ars, dT bd, bg5 b vs ars j, am6 b vs ars j] [(6, .ptr 5 0)] fun G => b7 (wp_ret ?_)))))))); obtain ⟨ρ, G⟩ := G.nilT 7 (.exprs []) (bf4 b vs ars bd j []) [(6, .ptr 5 0)]; obtain ⟨ρ, G⟩ := G.nilT 8 (.stmts []) (bf5 b vs ars bd j []) [(6, .ptr 5 0)]; obtain ⟨ρ, G⟩ := G.nilT 9 (.stmts []) (bf6 b vs ars bd j []) [(6, .ptr 5 0)]; exact X7 (.agg [iA 1, iA (pk b (j + 1) (vs.length : Int)), iA 0, iA 0, .tref 7, iA (t9 b vs.length ars.length (j + 1 + 1)).fst.kind, iA (t9 b vs.length ars.length (j + 1 + 1)).fst.value, .tref 6, iA 0, .tref 8, .tref 9]) G [0, 1, 2, 3, 4, 7, 6, 8, 9] (by show _ = AV.ren (nth [0, 1, 2, 3, 4, 7, 6, 8, 9]) (S7 b vs ars d j); unfold S7; rw [ah1 (by omega) (by omega), a54 (by omega)] <;> rfl) (by show _ = mR [0, 1, 2, 3, 4, 7, 6, 8, 9] (S6 b vs ars bd d j); unfold S6; rw [ah1 (by omega) (by omega), a54 (by omega)] <;> rfl)
     · refine wp_seq (k8 G (s6 2 [0, 1, 16] (k6.lend (O6 b (j + 1) rcL (by simp [h0, h1, h2, h4]) (by omega) (by omega)) [.no, .no, .row 3])) (rg 8) (.box [.ref 1, iA (j + 1 + 1)] :: (Q4 b vs ars bd [.box [iA (nm b j J7), iA 0, iA 0, iA 0, .v (.slice none 0 0), iA 0, iA 0, .v (.slice none 0 0), iA (nm b (j + 1) rcL), .v (.slice none 0 0), .v (.slice none 0 0)]])) (ar1 n [(8, .ptr 7 0)]) fun G => b7 (G2 G (t6 (l8 6 [0, 1, 48] (k6.lend (O6 b (j + 1 + 1) rbL (by simp [h0, h1, h2, h4]) (by omega) (by omega)) [.no, .no, .row 3]) (l8 7 (rg 5) (ih (j + 1 + 1 + 1) (n - 1) (nm b (j + 1 + 1) rbL) (by omega) (by omega) (by omega) (by omega) (by omega) (by omega)) t5)) fz []) [0, 0, 0, 4, 0, 0, 48, 127, 255, 511] [0, 1, 2, 3, 4, 6, 7, 64] (aZ2 b vs ars d j [dT bd, ar8, .box [iA (nm b j J7), iA 0, iA 0, iA 0, .v (.slice none 0 0), iA 0, iA 0, .v (.slice none 0 0), iA (nm b (j + 1) rcL), .tref 7, .v (.slice none 0 0)], .tree (D.stmts (F9 (B6 b vs.length ars.length (d - 1)) (nm b (j + 1 + 1) rbL).toNat (j + 1 + 1 + 1)).fst)]) [(6, .ptr 5 0), (8, .ptr 6 0)] [wO (n - 1)] (o1 (by omega)) fun G => m6 (b7 (wp_seq (k8 G d9 [0, 1, 2, 3, 4, 5, 7] (aZ2 b vs ars d j [dT bd, .box [iA (nm b j J7), iA 0, iA 0, iA 0, .v (.slice none 0 0), iA 0, iA 0, .v (.slice none 0 0), iA (nm b (j + 1) rcL), .tref 6, .v (.slice none 0 0)], .tree (D.stmts (F9 (B6 b vs.length ars.length (d - 1)) (nm b (j + 1 + 1) rbL).toNat (j + 1 + 1 + 1)).fst)]) [(6, .ptr 5 0)] fun G => b7 (wp_ret ?_)))))); obtain ⟨ρ, G⟩ := G.nilT 7 (.exprs []) (aZ2 b vs ars d j [dT bd, .box [iA (nm b j J7), iA 0, iA 0, iA 0, .tref 7, iA 0, iA 0, .v (.slice none 0 0), iA (nm b (j + 1) rcL), .tref 6, .v (.slice none 0 0)], .tree (D.stmts (F9 (B6 b vs.length ars.length (d - 1)) (nm b (j + 1 + 1) rbL).toNat (j + 1 + 1 + 1)).fst)]) [(6, .ptr 5 0)]; obtain ⟨ρ, G⟩ := G.nilT 8 (.exprs []) (aZ2 b vs ars d j [dT bd, .box [iA (nm b j J7), iA 0, iA 0, iA 0, .tref 7, iA 0, iA 0, .tref 8, iA (nm b (j + 1) rcL), .tref 6, .v (.slice none 0 0)], .tree (D.stmts (F9 (B6 b vs.length ars.length (d - 1)) (nm b (j + 1 + 1) rbL).toNat (j + 1 + 1 + 1)).fst), .tree (D.exprs [])]) [(6, .ptr 5 0)]; obtain ⟨ρ, G⟩ := G.nilT 9 (.stmts []) (aZ2 b vs ars d j [dT bd, .box [iA (nm b j J7), iA 0, iA 0, iA 0, .tref 7, iA 0, iA 0, .tref 8, iA (nm b (j + 1) rcL), .tref 6, .tref 9], .tree (D.stmts (F9 (B6 b vs.length ars.length (d - 1)) (nm b (j + 1 + 1) rbL).toNat (j + 1 + 1 + 1)).fst), .tree (D.exprs []), .tree (D.exprs [])]) [(6, .ptr 5 0)]; exact X7 (.agg [iA (nm b j J7), iA 0, iA 0, iA 0, .tref 7, iA 0, iA 0, .tref 8, iA (nm b (j + 1) rcL), .tref 6, .tref 9]) G [0, 1, 2, 3, 4, 7, 8, 6, 9] (by show _ = AV.ren (nth [0, 1, 2, 3, 4, 7, 8, 6, 9]) (S7 b vs ars d j); unfold S7; have e1 : ((B6 b vs.length ars.length d j).fst.kind : Int) = (nm b j J7) := (by rw [a94 (by omega) (by omega)]; show (4 : Int) = _; omega); rw [e1, a94 (by omega) (by omega)] <;> rfl) (by show _ = mR [0, 1, 2, 3, 4, 7, 8, 6, 9] (S6 b vs ars bd d j); unfold S6; rw [a94 (by omega) (by omega)] <;> rfl)
   ·
    have q1 := eq_of_beq h1; refine C9 G (O2 (fc h1 fz) [(3, 0), (4, 0), (1005, 0)]) (ar1 n [(7, iA (nm b j J7)), (8, .ptr 7 0), (50, bA (decide (n > 1)))]) fun G => b7 (O0 G (fun h6 q6 => ?_) fun h6 q6 => ?_)
    ·
     refine wp_seq ?_; cases h7 : (nm b j J7 == 4)
     ·
      have q7 := ne_of_beq_false h7; refine l5 G (O2 (fc h7 fz) [(3, 0), (4, 0), (1005, 0)]) [(79, bA false)] fun G => b7 (rF G false (by kernel_rfl) (wp_seq (wp_seq (C9 G d9 (X9 [(15, bA (nm b j J7 != 5))]) fun G => b7 ?_)))); cases h8 : (nm b j J7 != 5)
      · have q8 := bne_eq_false_iff_eq.1 h8; exact False.elim (by omega)
      · have q8 := bne_iff_ne.1 h8; refine rT G _ h8 (k8 G d9 (rg 8) (.box [.ref 1, iA (j + 1)] :: (Q4 b vs ars bd [aS7])) (X9 []) fun G => b7 (wp_seq (k8 G (s6 4 [0, 1] (L5 b (j + 1) ((vs.length : Int)) (by omega) (by omega))) (rg 8) (.box [.ref 1, iA (j + 1 + 1)] :: (Q4 b vs ars bd [bg4 b vs j])) (X9 []) fun G => b7 (k8 G (s6 2 (rg 5) (ae2 b vs ars bd (j + 1 + 1) (by omega) (by omega))) [0, 1, 2, 3, 4, 6, 7, 24] [Z2 b vs ars j, dY b, dI vs, dI ars, dT bd, ar8, bg6 b vs ars j, am6 b vs ars j] [(6, .ptr 5 0), (8, .ptr 6 0)] fun G => m6 (b7 (wp_seq (k8 G d9 [0, 1, 2, 3, 4, 5, 7] [Z2 b vs ars j, dY b, dI vs, dI ars, dT bd, bg5 b vs ars j, am6 b vs ars j] [(6, .ptr 5 0)] fun G => b7 (wp_ret ?_)))))))); obtain ⟨ρ, G⟩ := G.nilT 7 (.exprs []) (bf4 b vs ars bd j []) [(6, .ptr 5 0)]; obtain ⟨ρ, G⟩ := G.nilT 8 (.stmts []) (bf5 b vs ars bd j []) [(6, .ptr 5 0)]; obtain ⟨ρ, G⟩ := G.nilT 9 (.stmts []) (bf6 b vs ars bd j []) [(6, .ptr 5 0)]; exact X7 (.agg [iA 1, iA (pk b (j + 1) (vs.length : Int)), iA 0, iA 0, .tref 7, iA (t9 b vs.length ars.length (j + 1 + 1)).fst.kind, iA (t9 b vs.length ars.length (j + 1 + 1)).fst.value, .tref 6, iA 0, .tref 8, .tref 9]) G [0, 1, 2, 3, 4, 7, 6, 8, 9] (by show _ = AV.ren (nth [0, 1, 2, 3, 4, 7, 6, 8, 9]) (S7 b vs ars d j); unfold S7; rw [ah1 (by omega) (by omega), a54 (by omega)] <;> rfl) (by show _ = mR [0, 1, 2, 3, 4, 7, 6, 8, 9] (S6 b vs ars bd d j); unfold S6; rw [ah1 (by omega) (by omega), a54 (by omega)] <;> rfl)
     · have q7 := eq_of_beq h7; exact False.elim (by omega)
    ·
     refine wp_seq (k8 G (s6 2 (rg 5) (ae2 b vs ars bd (j + 1) (by omega) (by omega))) [0, 1, 2, 3, 4, 5, 6, 7, 24] (.box [.ref 1, iA (t9 b vs.length ars.length (j + 1)).snd] :: (Q4 b vs ars bd [.box [iA (nm b j J7), iA 0, iA 0, iA 0, .v (.slice none 0 0), iA (t9 b vs.length ars.length (j + 1)).fst.kind, iA (t9 b vs.length ars.length (j + 1)).fst.value, .tref 8, iA 0, .v (.slice none 0 0), .v (.slice none 0 0)], .tree (D.exprs (t9 b vs.length ars.length (j + 1)).fst.kids)])) (ar1 n [(8, .ptr 7 0)]) fun G => b7 (wp_seq (G2 G (t6 (l8 6 [0, 1, 49] (k6.lend (O6 b ((t9 b vs.length ars.length (j + 1)).snd) ibL (by simp [h0, h1, h6]) (by omega) (by omega)) [.no, .no, .row 3]) (l8 7 (rg 5) (ih ((t9 b vs.length ars.length (j + 1)).snd + 1) (n - 1) (nm b (t9 b vs.length ars.length (j + 1)).snd ibL) (by omega) (by omega) (by omega) (by omega) (by omega) (by omega)) t5)) fz []) [0, 0, 0, 4, 0, 0, 48, 127, 255, 511] [0, 1, 2, 3, 4, 5, 6, 7, 8, 65] (.box [.ref 1, iA (aO4 b vs ars d j).snd] :: (Q4 b vs ars bd [.box [iA (nm b j J7), iA 0, iA 0, iA 0, .v (.slice none 0 0), iA (t9 b vs.length ars.length (j + 1)).fst.kind, iA (t9 b vs.length ars.length (j + 1)).fst.value, .tref 8, iA 0, .tref 9, .v (.slice none 0 0)], .tree (D.exprs (t9 b vs.length ars.length (j + 1)).fst.kids), .tree (D.stmts (aO4 b vs ars d j).fst)])) (ar1 n [(8, .ptr 7 0)]) [wO (n - 1)] (o1 (by omega)) fun G => b7 (G2 G (t6 (l8 6 [0, 1, 50] (k6.lend (O6 b ((F9 (B6 b vs.length ars.length (d - 1)) (nm b (t9 b vs.length ars.length (j + 1)).snd ibL).toNat ((t9 b vs.length ars.length (j + 1)).snd + 1)).snd) ieL (by simp [h0, h1, h6]) (by omega) (by omega)) [.no, .no, .row 3]) (l8 7 (rg 5) (ih ((F9 (B6 b vs.length ars.length (d - 1)) (nm b (t9 b vs.length ars.length (j + 1)).snd ibL).toNat ((t9 b vs.length ars.length (j + 1)).snd + 1)).snd + 1) (n - 1) (nm b (F9 (B6 b vs.length ars.length (d - 1)) (nm b (t9 b vs.length ars.length (j + 1)).snd ibL).toNat ((t9 b vs.length ars.length (j + 1)).snd + 1)).snd ieL) (by omega) (by omega) (by omega) (by omega) (by omega) (by omega)) t5)) fz []) [0, 0, 0, 4, 0, 0, 48, 127, 255, 511] [0, 1, 2, 3, 4, 6, 7, 8, 9, 66] [.box [.ref 1, iA (bg7 b vs ars d j).snd], dY b, dI vs, dI ars, dT bd, ar8, .box [iA (nm b j J7), iA 0, iA 0, iA 0, .v (.slice none 0 0), iA (t9 b vs.length ars.length (j + 1)).fst.kind, iA (t9 b vs.length ars.length (j + 1)).fst.value, .tref 7, iA 0, .tref 8, .tref 9], .tree (D.exprs (t9 b vs.length ars.length (j + 1)).fst.kids), .tree (D.stmts (aO4 b vs ars d j).fst), .tree (D.stmts (bg7 b vs ars d j).fst)] [(6, .ptr 5 0), (8, .ptr 6 0)] [wO (n - 1)] (o1 (by omega)) fun G => m6 (b7 (wp_seq (k8 G d9 [0, 1, 2, 3, 4, 5, 7, 8, 9] [.box [.ref 1, iA (bg7 b vs ars d j).snd], dY b, dI vs, dI ars, dT bd, .box [iA (nm b j J7), iA 0, iA 0, iA 0, .v (.slice none 0 0), iA (t9 b vs.length ars.length (j + 1)).fst.kind, iA (t9 b vs.length ars.length (j + 1)).fst.value, .tref 6, iA 0, .tref 7, .tref 8], .tree (D.exprs (t9 b vs.length ars.length (j + 1)).fst.kids), .tree (D.stmts (aO4 b vs ars d j).fst), .tree (D.stmts (bg7 b vs ars d j).fst)] [(6, .ptr 5 0)] fun G => b7 (wp_ret ?_)))))))); obtain ⟨ρ, G⟩ := G.nilT 9 (.exprs []) [.box [.ref 1, iA (F9 (B6 b vs.length ars.length (d - 1)) (nm b (F9 (B6 b vs.length ars.length (d - 1)) (nm b (t9 b vs.length ars.length (j + 1)).snd ibL).toNat ((t9 b vs.length ars.length (j + 1)).snd + 1)).snd ieL).toNat ((F9 (B6 b vs.length ars.length (d - 1)) (nm b (t9 b vs.length ars.length (j + 1)).snd ibL).toNat ((t9 b vs.length ars.length (j + 1)).snd + 1)).snd + 1)).snd], dY b, dI vs, dI ars, dT bd, .box [iA (nm b j J7), iA 0, iA 0, iA 0, .tref 9, iA (t9 b vs.length ars.length (j + 1)).fst.kind, iA (t9 b vs.length ars.length (j + 1)).fst.value, .tref 6, iA 0, .tref 7, .tref 8], .tree (D.exprs (t9 b vs.length ars.length (j + 1)).fst.kids), .tree (D.stmts (F9 (B6 b vs.length ars.length (d - 1)) (nm b (t9 b vs.length ars.length (j + 1)).snd ibL).toNat ((t9 b vs.length ars.length (j + 1)).snd + 1)).fst), .tree (D.stmts (F9 (B6 b vs.length ars.length (d - 1)) (nm b (F9 (B6 b vs.length ars.length (d - 1)) (nm b (t9 b vs.length ars.length (j + 1)).snd ibL).toNat ((t9 b vs.length ars.length (j + 1)).snd + 1)).snd ieL).toNat ((F9 (B6 b vs.length ars.length (d - 1)) (nm b (t9 b vs.length ars.length (j + 1)).snd ibL).toNat ((t9 b vs.length ars.length (j + 1)).snd + 1)).snd + 1)).fst)] [(6, .ptr 5 0)]
     exact X7 (.agg [iA (nm b j J7), iA 0, iA 0, iA 0, .tref 9, iA (t9 b vs.length ars.length (j + 1)).fst.kind, iA (t9 b vs.length ars.length (j + 1)).fst.value, .tref 6, iA 0, .tref 7, .tref 8]) G [0, 1, 2, 3, 4, 9, 6, 7, 8] (by show _ = AV.ren (nth [0, 1, 2, 3, 4, 9, 6, 7, 8]) (S7 b vs ars d j); unfold S7; have e1 : ((B6 b vs.length ars.length d j).fst.kind : Int) = (nm b j J7) := (by rw [a95 (by omega) (by omega)]; show (3 : Int) = _; omega); rw [e1, a95 (by omega) (by omega)] <;> rfl) (by show _ = mR [0, 1, 2, 3, 4, 9, 6, 7, 8] (S6 b vs ars bd d j); unfold S6; rw [a95 (by omega) (by omega)] <;> rfl)
  ·
   have q0 := eq_of_beq h0; refine C9 G (O2 (fc h0 fz) (us [(3, 6, 0), (1007, 1007, 0)])) (ar1 n [(7, iA (nm b j J7)), (8, .ptr 7 0), (27, bA (decide ((ars.length : Int) > 0)))]) fun G => b7 (O0 G (fun h9 q9 => ?_) fun h9 q9 => ?_)
   ·
    refine wp_seq ?_; cases h10 : (nm b j J7 == 3)
    ·
     have q10 := ne_of_beq_false h10; refine C9 G (O2 (fc h10 fz) [(3, 0), (4, 0), (1005, 0)]) (ar1 n [(7, iA (nm b j J7)), (8, .ptr 7 0), (50, bA false)]) fun G => b7 (rF G false (by kernel_rfl) (wp_seq ?_)); cases h11 : (nm b j J7 == 4)
     ·
      have q11 := ne_of_beq_false h11; refine l5 G (O2 (fc h11 fz) [(3, 0), (4, 0), (1005, 0)]) [(79, bA false)] fun G => b7 (rF G false (by kernel_rfl) (wp_seq (wp_seq (C9 G d9 (X9 [(15, bA (nm b j J7 != 5))]) fun G => b7 ?_)))); cases h12 : (nm b j J7 != 5)
      · have q12 := bne_eq_false_iff_eq.1 h12; exact False.elim (by omega)
      · have q12 := bne_iff_ne.1 h12; refine rT G _ h12 (k8 G d9 (rg 8) (.box [.ref 1, iA (j + 1)] :: (Q4 b vs ars bd [aS7])) (X9 []) fun G => b7 (wp_seq (k8 G (s6 4 [0, 1] (L5 b (j + 1) ((vs.length : Int)) (by omega) (by omega))) (rg 8) (.box [.ref 1, iA (j + 1 + 1)] :: (Q4 b vs ars bd [bg4 b vs j])) (X9 []) fun G => b7 (k8 G (s6 2 (rg 5) (ae2 b vs ars bd (j + 1 + 1) (by omega) (by omega))) [0, 1, 2, 3, 4, 6, 7, 24] [Z2 b vs ars j, dY b, dI vs, dI ars, dT bd, ar8, bg6 b vs ars j, am6 b vs ars j] [(6, .ptr 5 0), (8, .ptr 6 0)] fun G => m6 (b7 (wp_seq (k8 G d9 [0, 1, 2, 3, 4, 5, 7] [Z2 b vs ars j, dY b, dI vs, dI ars, dT bd, bg5 b vs ars j, am6 b vs ars j] [(6, .ptr 5 0)] fun G => b7 (wp_ret ?_)))))))); obtain ⟨ρ, G⟩ := G.nilT 7 (.exprs []) (bf4 b vs ars bd j []) [(6, .ptr 5 0)]; obtain ⟨ρ, G⟩ := G.nilT 8 (.stmts []) (bf5 b vs ars bd j []) [(6, .ptr 5 0)]; obtain ⟨ρ, G⟩ := G.nilT 9 (.stmts []) (bf6 b vs ars bd j []) [(6, .ptr 5 0)]; exact X7 (.agg [iA 1, iA (pk b (j + 1) (vs.length : Int)), iA 0, iA 0, .tref 7, iA (t9 b vs.length ars.length (j + 1 + 1)).fst.kind, iA (t9 b vs.length ars.length (j + 1 + 1)).fst.value, .tref 6, iA 0, .tref 8, .tref 9]) G [0, 1, 2, 3, 4, 7, 6, 8, 9] (by show _ = AV.ren (nth [0, 1, 2, 3, 4, 7, 6, 8, 9]) (S7 b vs ars d j); unfold S7; rw [ah1 (by omega) (by omega), a54 (by omega)] <;> rfl) (by show _ = mR [0, 1, 2, 3, 4, 7, 6, 8, 9] (S6 b vs ars bd d j); unfold S6; rw [ah1 (by omega) (by omega), a54 (by omega)] <;> rfl)
     · have q11 := eq_of_beq h11; exact False.elim (by omega)
    · have q10 := eq_of_beq h10; exact False.elim (by omega)
   ·
    refine wp_seq (k8 G (s6 4 [0, 1] (L5 b (j + 1) ((ars.length : Int)) (by omega) (by omega))) (rg 8) (.box [.ref 1, iA (j + 1 + 1)] :: (Q4 b vs ars bd [.box [iA (nm b j J7), iA (pk b (j + 1) (ars.length : Int)), iA 0, iA 0, .v (.slice none 0 0), iA 0, iA 0, .v (.slice none 0 0), iA 0, .v (.slice none 0 0), .v (.slice none 0 0)]])) (X9 []) fun G => b7 (wp_seq (k8 G (s6 2 (rg 5) (ay6 b (j + 1 + 1) vs ars bd (by omega) (by omega))) [0, 1, 2, 3, 4, 5, 6, 7, 24] (.box [.ref 1, iA (j + 1 + 1 + 2)] :: (Q4 b vs ars bd [.box [iA (nm b j J7), iA (pk b (j + 1) (ars.length : Int)), iA (o6 b (vs.length : Int) (j + 1 + 1)).kind, iA (o6 b (vs.length : Int) (j + 1 + 1)).value, .tref 8, iA 0, iA 0, .v (.slice none 0 0), iA 0, .v (.slice none 0 0), .v (.slice none 0 0)], .tree (D.exprs (o6 b (vs.length : Int) (j + 1 + 1)).kids)])) (X9 []) fun G => b7 (k8 G (s6 2 (rg 5) (ae2 b vs ars bd (j + 1 + 1 + 2) (by omega) (by omega))) [0, 1, 2, 3, 4, 6, 7, 8, 25] (.box [.ref 1, iA (t9 b vs.length ars.length (j + 1 + 1 + 2)).snd] :: dY b :: dI vs :: dI ars :: dT bd :: ar8 :: .box [iA (nm b j J7), iA (pk b (j + 1) (ars.length : Int)), iA (o6 b (vs.length : Int) (j + 1 + 1)).kind, iA (o6 b (vs.length : Int) (j + 1 + 1)).value, .tref 7, iA (t9 b vs.length ars.length (j + 1 + 1 + 2)).fst.kind, iA (t9 b vs.length ars.length (j + 1 + 1 + 2)).fst.value, .tref 8, iA 0, .v (.slice none 0 0), .v (.slice none 0 0)] :: (bf3 b vs ars j [])) [(6, .ptr 5 0), (8, .ptr 6 0)] fun G => m6 (b7 (wp_seq (k8 G d9 [0, 1, 2, 3, 4, 5, 7, 8] (.box [.ref 1, iA (t9 b vs.length ars.length (j + 1 + 1 + 2)).snd] :: dY b :: dI vs :: dI ars :: dT bd :: .box [iA (nm b j J7), iA (pk b (j + 1) (ars.length : Int)), iA (o6 b (vs.length : Int) (j + 1 + 1)).kind, iA (o6 b (vs.length : Int) (j + 1 + 1)).value, .tref 6, iA (t9 b vs.length ars.length (j + 1 + 1 + 2)).fst.kind, iA (t9 b vs.length ars.length (j + 1 + 1 + 2)).fst.value, .tref 7, iA 0, .v (.slice none 0 0), .v (.slice none 0 0)] :: (bf3 b vs ars j [])) [(6, .ptr 5 0)] fun G => b7 (wp_ret ?_)))))))); obtain ⟨ρ, G⟩ := G.nilT 8 (.stmts []) (.box [.ref 1, iA (t9 b vs.length ars.length (j + 1 + 1 + 2)).snd] :: dY b :: dI vs :: dI ars :: dT bd :: .box [iA (nm b j J7), iA (pk b (j + 1) (ars.length : Int)), iA (o6 b (vs.length : Int) (j + 1 + 1)).kind, iA (o6 b (vs.length : Int) (j + 1 + 1)).value, .tref 6, iA (t9 b vs.length ars.length (j + 1 + 1 + 2)).fst.kind, iA (t9 b vs.length ars.length (j + 1 + 1 + 2)).fst.value, .tref 7, iA 0, .tref 8, .v (.slice none 0 0)] :: (bf3 b vs ars j [])) [(6, .ptr 5 0)]; obtain ⟨ρ, G⟩ := G.nilT 9 (.stmts []) (.box [.ref 1, iA (t9 b vs.length ars.length (j + 1 + 1 + 2)).snd] :: dY b :: dI vs :: dI ars :: dT bd :: .box [iA (nm b j J7), iA (pk b (j + 1) (ars.length : Int)), iA (o6 b (vs.length : Int) (j + 1 + 1)).kind, iA (o6 b (vs.length : Int) (j + 1 + 1)).value, .tref 6, iA (t9 b vs.length ars.length (j + 1 + 1 + 2)).fst.kind, iA (t9 b vs.length ars.length (j + 1 + 1 + 2)).fst.value, .tref 7, iA 0, .tref 8, .tref 9] :: (bf3 b vs ars j [.tree (D.stmts [])])) [(6, .ptr 5 0)]
    exact X7 (.agg [iA (nm b j J7), iA (pk b (j + 1) (ars.length : Int)), iA (o6 b (vs.length : Int) (j + 1 + 1)).kind, iA (o6 b (vs.length : Int) (j + 1 + 1)).value, .tref 6, iA (t9 b vs.length ars.length (j + 1 + 1 + 2)).fst.kind, iA (t9 b vs.length ars.length (j + 1 + 1 + 2)).fst.value, .tref 7, iA 0, .tref 8, .tref 9]) G [0, 1, 2, 3, 4, 6, 7, 8, 9] (by show _ = AV.ren (nth [0, 1, 2, 3, 4, 6, 7, 8, 9]) (S7 b vs ars d j); unfold S7; have e1 : ((B6 b vs.length ars.length d j).fst.kind : Int) = (nm b j J7) := (by rw [bu4 (by omega) (by omega)]; show (2 : Int) = _; omega); rw [e1, bu4 (by omega) (by omega)] <;> rfl) (by show _ = mR [0, 1, 2, 3, 4, 6, 7, 8, 9] (S6 b vs ars bd d j); unfold S6; rw [bu4 (by omega) (by omega)] <;> rfl)
theorem a67 (b : List UInt8) (vs ars : List Int) (bd : List b6) (d : Nat) (h : ∀ (j n : Int), n = d → 0 ≤ j → j + cS d ≤ 600000000 → k6.ok Tryz.prog (dsC b vs ars bd d j n)) (m : Nat) (j n c B : Int) (hn : n = d) (hm : c = m) (hm2 : m ≤ 4) (hB : (m : Int) * cS d ≤ B) (r0 : 0 ≤ j) (r1 : j + B ≤ 600000000) : k6.ok Tryz.prog (dbC b vs ars bd d m j n c) :=
 bH1 b vs ars bd d m h j n c hn hm hm2 B hB r0 r1
theorem bD2 (b : List UInt8) (vs ars : List Int) (bd : List b6) : ∀ (d : Nat), d ≤ 3 → ∀ (j n : Int), n = d → 0 ≤ j → j + cS d ≤ 600000000 → k6.ok Tryz.prog (dsC b vs ars bd d j n)
 | 0, hd, j, n, hn, r0, r1 => bv1 b vs ars bd 0 (by omega) (fun j n c h => absurd h (by omega)) j n hn r0 r1
 | d + 1, hd, j, n, hn, r0, r1 => bv1 b vs ars bd (d + 1) hd (fun j n c h hn h0 h2 r0 r1 => a67 b vs ars bd d (bD2 b vs ars bd d (by omega)) c.toNat j n c (2 * cS d) (by omega) (by omega) (by omega) (b02 h0 h2 (Int.le_trans (by decide) (aA4 d))) r0 (by simpa using r1)) j n hn r0 r1
theorem b38 : cS 3 = 34170 := by decide
theorem bV8 (b : List UInt8) (vs ars : List Int) (bd : List b6) (j n c : Int) (hn : n = 3) (h0 : 0 ≤ c) (h4 : c ≤ 4) (r0 : 0 ≤ j) (r1 : j ≤ 100000000) : k6.ok Tryz.prog (dbC b vs ars bd 3 c.toNat j n c) :=
 a67 b vs ars bd 3 (bD2 b vs ars bd 3 (by omega)) c.toNat j n c (4 * cS 3) (by omega) (by omega) (by omega) (b60 h0 h4 (by rw [b38]; decide)) r0 (by rw [b38]; omega)
abbrev pgC (b : List UInt8) (j : Int) : k6 := ⟨123, [.ptr 0 0], [.box [.ref 1, iA j], dY b], [.box [.ref 1, iA (bdD b j).2], dY b] ++ oP (pgD b j), oA 2⟩
theorem bi8 {b : List UInt8} {l : List Int} {n i p : Int} (h : i > 0) (h2 : i ≤ n) : nsD b l (n - (i - 1)).toNat p = nsD b l (n - i).toNat p ++ [nm b (p + (n - i)) l] := by
 rw [show (n - (i - 1)).toNat = (n - i).toNat + 1 by omega, by4, show (((n - i).toNat : Nat) : Int) = n - i by omega]
theorem bi7 {b : List UInt8} {l : List Int} {n p : Int} : nsD b l (n - n).toNat p = [] := by rw [Int.sub_self]; rfl
theorem af4 (vs ars : List Int) (bd : List b6) (hb : i5 bd ≤ 1048576) : k6.ok Tryz.prog (F6 62 [pA 0] [dI vs, dI ars, dT bd] (bA (m0 ⟨vs, ars, bd⟩))) := X4 ⟨vs, ars, bd⟩ hb
theorem b59 {b : List UInt8} {j : Int} (h : m0 ⟨vsD b j, asD b j, (F9 (B6 b (vsD b j).length (asD b j).length 3) (nm b (kp2 b j) nbL).toNat (kp2 b j + 1)).1⟩ = true) : pgD b j = ⟨vsD b j, asD b j, (bdD b j).1⟩ := if_pos h
theorem b58 {b : List UInt8} {j : Int} (h : m0 ⟨vsD b j, asD b j, (F9 (B6 b (vsD b j).length (asD b j).length 3) (nm b (kp2 b j) nbL).toNat (kp2 b j + 1)).1⟩ = false) : pgD b j = fbP := if_neg (by intro h2; have h3 : m0 ⟨vsD b j, asD b j, (F9 (B6 b (vsD b j).length (asD b j).length 3) (nm b (kp2 b j) nbL).toNat (kp2 b j + 1)).1⟩ = true := h2; rw [h] at h3; cases h3)
theorem bZ5 (b : List UInt8) (j : Int) : j + 1 + (nm b j nvL - 0) = H0 b j := by unfold H0; omega
theorem bZ4 (b : List UInt8) (j : Int) : nsD b viL (nm b j nvL - 0).toNat (j + 1) = vsD b j := by unfold vsD; rw [Int.sub_zero]
theorem bZ3 (b : List UInt8) (j : Int) : H0 b j + 1 + (nm b (H0 b j) naL - 0) = kp2 b j := by unfold kp2; omega
theorem bZ2 (b : List UInt8) (j : Int) : nsD b aiL (nm b (H0 b j) naL - 0).toNat (H0 b j + 1) = asD b j := by unfold asD; rw [Int.sub_zero]
abbrev az3 (b : List UInt8) (j : Int) := F9 (B6 b (vsD b j).length (asD b j).length 3) (nm b (kp2 b j) nbL).toNat (kp2 b j + 1)
abbrev bg3 (b : List UInt8) (j : Int) : List It := [.box [.ref 1, iA (bdD b j).snd], dY b, .row 3 (D.ints (pgD b j).vars), .row 3 (D.ints (pgD b j).arrays), .tree (D.stmts (pgD b j).body)]
abbrev Q5 : It := .box [.v (.slice none 0 0), .v (.slice none 0 0), .v (.slice none 0 0)]
abbrev aZ8 : It := .box [.ref 4, .v (.slice none 0 0), .v (.slice none 0 0)]
abbrev bs5 : It := .tree (D.stmts [b6.mk 1 1 (b5.mk 0 0 []) (b5.mk 2 0 []) 0 [] []])
theorem a63 (b : List UInt8) (j : Int) (r0 : 0 ≤ j) (r1 : j ≤ 10000000) : k6.ok Tryz.prog (pgC b j) := by
  refine A2 52 Tryz.func123 [.box [.ref 1, iA j], dY b] [(0, .ptr 0 0)] fun G => ?_; have hnv := bS7 b r0 (by omega); have hk1 := bA2 b r0 r1; have hk2 := bk0 b r0 r1; have hna := bT0 b (k := H0 b j) (by omega) (by omega); have hnb := b01 b (k := kp2 b j) (by omega) (by omega); have hvl := bt2 b r0 r1; have hal := bF2 b r0 r1; have hbd := bm3 b r0 r1; have hbs : i5 (F9 (B6 b (vsD b j).length (asD b j).length 3) (nm b (kp2 b j) nbL).toNat (kp2 b j + 1)).1 ≤ 1048576 := ca7 hbd.2.2 (by omega); refine wp_seq (k8 G d9 [0, 1, 2] [.box [.ref 1, iA j], dY b, Q5] [(0, .ptr 0 0), (2, .ptr 2 0)] fun G => b7 (wp_seq (k8 G d9 [0, 1, 2, 11] [.box [.ref 1, iA j], dY b, Q5, Q5] [(0, .ptr 0 0), (2, .ptr 2 0), (3, .ptr 3 0)] fun G => b7 (wp_seq (wp_seq (k8 G (s6 2 [0, 1, 12] (k6.lend (O6 b j nvL (List.cons_ne_nil _ _) (by assumption) (by omega)) [.no, .no, .row 3])) (rg 4) [.box [.ref 1, iA (j + 1)], dY b, Q5, Q5] [(0, .ptr 0 0), (2, .ptr 2 0), (3, .ptr 3 0), (4, iA (nm b j nvL))] fun G => b7 (wp_block ?_))))))); have Gx := G.nil 4 3 (.ints []) 1 [.box [.ref 1, iA (j + 1)], dY b, Q5, aZ8] [(0, .ptr 0 0), (2, .ptr 2 0), (3, .ptr 3 0), (4, iA (nm b j nvL))]; clear G; obtain ⟨ρ, G⟩ := Gx; replace G := s5.at G [.box [.ref 1, iA (j + 1)], dY b, Q5, aZ8, .row 3 (D.ints [])] [(0, .ptr 0 0), (2, .ptr 2 0), (3, .ptr 3 0), (4, iA (nm b j nvL))]; replace G := G.as [.box [.ref 1, iA (j + 1 + (nm b j nvL - nm b j nvL))], dY b, .box [.v (.slice none 0 0), .v (.slice none 0 0), .v (.slice none 0 0)], .box [.ref 4, .v (.slice none 0 0), .v (.slice none 0 0)], .row 3 (D.ints (nsD b viL (nm b j nvL - nm b j nvL).toNat (j + 1)))] [(0, .ptr 0 0), (2, .ptr 2 0), (3, .ptr 3 0), (4, iA (nm b j nvL))] (by have e1 : (j + 1 + (nm b j nvL - nm b j nvL) : Int) = (j + 1) := (by omega); have e2 : (nsD b viL (nm b j nvL - nm b j nvL).toNat (j + 1) : List Int) = ([]) := bi7; (first | rw [e1, e2] | simp only [e1, e2]) <;> rfl) (by kernel_rfl); refine o9 (κ := Int) (fun i => 0 ≤ i ∧ i ≤ nm b j nvL) (fun i => i.toNat) (fun i => [.box [.ref 1, iA (j + 1 + (nm b j nvL - i))], dY b, .box [.v (.slice none 0 0), .v (.slice none 0 0), .v (.slice none 0 0)], .box [.ref 4, .v (.slice none 0 0), .v (.slice none 0 0)], .row 3 (.ints (nsD b viL (nm b j nvL - i).toNat (j + 1)))]) (fun i => [(0, .ptr 0 0), (2, .ptr 2 0), (3, .ptr 3 0), (4, iA i)]) (nm b j nvL) (by omega) (s5.at G _ _) ?_; clear G; intro i ρ a w hp G; replace G := s5.at G [.box [.ref 1, iA (j + 1 + (nm b j nvL - i))], dY b, Q5, aZ8, .row 3 (D.ints (nsD b viL (nm b j nvL - i).toNat (j + 1)))] [(0, .ptr 0 0), (2, .ptr 2 0), (3, .ptr 3 0), (4, iA i)]; have hlen : (nsD b viL (nm b j nvL - i).toNat (j + 1)).length = (nm b j nvL - i).toNat := ak7 _ _ _ _; refine wp_seq (wp_seq (C9 G d9 [(0, .ptr 0 0), (2, .ptr 2 0), (3, .ptr 3 0), (4, iA i), (11, bA (decide (i > 0)))] fun G => b7 ?_)); cases h0 : (decide (i > 0))
  ·
   have q0 := dFf h0
   obtain rfl : i = 0 := by omega
   rw [bZ5, bZ4] at G; refine rF G false (by kernel_rfl) (wp_exit (o5 (o5 (n9 (b7 (wp_seq (wp_seq (k8 G (s6 2 [0, 1, 13] (k6.lend (O6 b (H0 b j) naL (by simp [h0]) (by omega) (by omega)) [.no, .no, .row 3])) (rg 5) [.box [.ref 1, iA (H0 b j + 1)], dY b, Q5, aZ8, .row 3 (D.ints (vsD b j))] [(0, .ptr 0 0), (2, .ptr 2 0), (3, .ptr 3 0), (5, iA (nm b (H0 b j) naL))] fun G => b7 (wp_block ?_))))))))); have Gx := G.nil 5 3 (.ints []) 1 [.box [.ref 1, iA (H0 b j + 1)], dY b, Q5, .box [.ref 4, .ref 5, .v (.slice none 0 0)], .row 3 (D.ints (vsD b j))] [(0, .ptr 0 0), (2, .ptr 2 0), (3, .ptr 3 0), (5, iA (nm b (H0 b j) naL))]; clear G; obtain ⟨ρ, G⟩ := Gx; replace G := s5.at G [.box [.ref 1, iA (H0 b j + 1)], dY b, Q5, .box [.ref 4, .ref 5, .v (.slice none 0 0)], .row 3 (D.ints (vsD b j)), .row 3 (D.ints [])] [(0, .ptr 0 0), (2, .ptr 2 0), (3, .ptr 3 0), (5, iA (nm b (H0 b j) naL))]; have Gx := G.nilT 6 (.stmts []) [.box [.ref 1, iA (H0 b j + 1)], dY b, Q5, .box [.ref 4, .ref 5, .tref 6], .row 3 (D.ints (vsD b j)), .row 3 (D.ints [])] [(0, .ptr 0 0), (2, .ptr 2 0), (3, .ptr 3 0), (5, iA (nm b (H0 b j) naL))]; clear G; obtain ⟨ρ, G⟩ := Gx; replace G := s5.at G [.box [.ref 1, iA (H0 b j + 1)], dY b, Q5, .box [.ref 4, .ref 5, .tref 6], .row 3 (D.ints (vsD b j)), .row 3 (D.ints []), .tree (D.stmts [])] [(0, .ptr 0 0), (2, .ptr 2 0), (3, .ptr 3 0), (5, iA (nm b (H0 b j) naL))]; replace G := G.as [.box [.ref 1, iA (H0 b j + 1 + (nm b (H0 b j) naL - nm b (H0 b j) naL))], dY b, .box [.v (.slice none 0 0), .v (.slice none 0 0), .v (.slice none 0 0)], .box [.ref 4, .ref 5, .tref 6], .row 3 (D.ints (vsD b j)), .row 3 (D.ints (nsD b aiL (nm b (H0 b j) naL - nm b (H0 b j) naL).toNat (H0 b j + 1))), .tree (D.stmts [])] [(0, .ptr 0 0), (2, .ptr 2 0), (3, .ptr 3 0), (5, iA (nm b (H0 b j) naL))] (by have e1 : (H0 b j + 1 + (nm b (H0 b j) naL - nm b (H0 b j) naL) : Int) = (H0 b j + 1) := (by simp [h0]); have e2 : (nsD b aiL (nm b (H0 b j) naL - nm b (H0 b j) naL).toNat (H0 b j + 1) : List Int) = ([]) := bi7; (first | rw [e1, e2] | simp only [e1, e2]) <;> rfl) (by kernel_rfl); refine o9 (κ := Int) (fun i2 => 0 ≤ i2 ∧ i2 ≤ nm b (H0 b j) naL) (fun i2 => i2.toNat) (fun i2 => [.box [.ref 1, iA (H0 b j + 1 + (nm b (H0 b j) naL - i2))], dY b, .box [.v (.slice none 0 0), .v (.slice none 0 0), .v (.slice none 0 0)], .box [.ref 4, .ref 5, .tref 6], .row 3 (D.ints (vsD b j)), .row 3 (.ints (nsD b aiL (nm b (H0 b j) naL - i2).toNat (H0 b j + 1))), .tree (D.stmts [])]) (fun i2 => [(0, .ptr 0 0), (2, .ptr 2 0), (3, .ptr 3 0), (5, iA i2)]) (nm b (H0 b j) naL) (by omega) (s5.at G _ _) ?_; clear G; intro i2 ρ a w hp G; replace G := s5.at G [.box [.ref 1, iA (H0 b j + 1 + (nm b (H0 b j) naL - i2))], dY b, Q5, .box [.ref 4, .ref 5, .tref 6], .row 3 (D.ints (vsD b j)), .row 3 (D.ints (nsD b aiL (nm b (H0 b j) naL - i2).toNat (H0 b j + 1))), .tree (D.stmts [])] [(0, .ptr 0 0), (2, .ptr 2 0), (3, .ptr 3 0), (5, iA i2)]; have hlen : (nsD b aiL (nm b (H0 b j) naL - i2).toNat (H0 b j + 1)).length = (nm b (H0 b j) naL - i2).toNat := ak7 _ _ _ _; refine wp_seq (wp_seq (C9 G d9 [(0, .ptr 0 0), (2, .ptr 2 0), (3, .ptr 3 0), (5, iA i2), (26, bA (decide (i2 > 0)))] fun G => b7 ?_)); cases h1 : (decide (i2 > 0))
   ·
    have q1 := dFf h1
    obtain rfl : i2 = 0 := by omega
    rw [bZ3, bZ2] at G; refine rF G false (by kernel_rfl) (wp_exit (o5 (o5 (n9 (b7 (wp_seq (P1 G (t6 (l8 4 [0, 1, 31] (k6.lend (O6 b (kp2 b j) nbL (by simp [h0, h1]) (by omega) (by omega)) [.no, .no, .row 3]) (l8 5 [0, 1, 4, 5, 6] (k6.lend (bV8 b (vsD b j) (asD b j) ([]) (kp2 b j + 1) 3 (nm b (kp2 b j) nbL) (by kernel_rfl) (by omega) (by omega) (by omega) (by omega)) [.no, .no, .row 3, .row 3, .tree]) t5)) fz []) [0, 0, 0, 0, 12, 31, 63, 127] [0, 1, 2, 3, 4, 5, 47] [.box [.ref 1, iA (az3 b j).snd], dY b, Q5, .box [.ref 4, .ref 5, .tref 6], .row 3 (D.ints (vsD b j)), .row 3 (D.ints (asD b j)), .tree (D.stmts (az3 b j).fst)] [(2, .ptr 2 0), (3, .ptr 3 0)] fun G => b7 (wp_seq (wp_seq (l5 G (s6 1 [4, 5, 6] (k6.lend (af4 (vsD b j) (asD b j) ((F9 (B6 b (vsD b j).length (asD b j).length 3) (nm b (kp2 b j) nbL).toNat (kp2 b j + 1)).fst) (by assumption)) [.row 3, .row 3, .tree])) [(45, bA (m0 (d7.mk (vsD b j) (asD b j) (az3 b j).fst)))] fun G => b7 (rcB (b := m0 (d7.mk (vsD b j) (asD b j) (F9 (B6 b (vsD b j).length (asD b j).length (3 : Nat)) (nm b (kp2 b j) nbL).toNat (kp2 b j + 1)).fst)) G (fun h2 => ?_) fun h2 => ?_)))))))))))
    · refine wp_skip (b7 (wp_seq (k8 G d9 [0, 1, 2, 7, 31] [.box [.ref 1, iA (az3 b j).snd], dY b, .box [.ref 3, .v (.slice none 0 0), .tref 4], .row 3 (D.ints ([0] ++ ([1] ++ []))), bs5] [(2, .ptr 2 0)] fun G => b7 (wp_ret ?_)))); have Gx := G.nil 5 3 (.ints []) 1 [.box [.ref 1, iA (az3 b j).snd], dY b, .box [.ref 3, .ref 5, .tref 4], .row 3 (D.ints ([0] ++ ([1] ++ []))), bs5] [(2, .ptr 2 0)]; clear G; obtain ⟨ρ, G⟩ := Gx; replace G := s5.at G [.box [.ref 1, iA (az3 b j).snd], dY b, .box [.ref 3, .ref 5, .tref 4], .row 3 (D.ints ([0] ++ ([1] ++ []))), bs5, .row 3 (D.ints [])] [(2, .ptr 2 0)]; exact F2 G [0, 1, 3, 5, 4] (by show _ = mR [0, 1, 3, 5, 4] (bg3 b j); unfold bg3; rw [b58 (by with_reducible assumption)] <;> rfl)
    · refine wp_seq (k8 G d9 [0, 1, 2, 4, 5, 6] [.box [.ref 1, iA (az3 b j).snd], dY b, .box [.ref 3, .ref 4, .tref 5], .row 3 (D.ints (vsD b j)), .row 3 (D.ints (asD b j)), .tree (D.stmts (az3 b j).fst)] [(2, .ptr 2 0)] fun G => b7 (wp_ret (l7 ?_))); exact F2 G [0, 1, 3, 4, 5] (by show _ = mR [0, 1, 3, 4, 5] (bg3 b j); unfold bg3; rw [b59 (by with_reducible assumption)] <;> rfl)
   · have q1 := dTt h1; refine rT G _ h1 (wp_skip (b7 (wp_seq (wp_block (G2 G (s6 4 [0, 1, 31] (k6.lend (O6 b (H0 b j + 1 + (nm b (H0 b j) naL - i2)) aiL (by simp [h0, h1]) (by omega) (by omega)) [.no, .no, .row 3])) [0, 1, 0, 0, 12, 28, 63, 127, 255] [0, 1, 2, 3, 4, 6, 55] [.box [.ref 1, iA (H0 b j + 1 + (nm b (H0 b j) naL - i2) + 1)], dY b, Q5, .box [.ref 4, .ref 6, .tref 5], .row 3 (D.ints (vsD b j)), .tree (D.stmts []), .row 3 (D.ints (nsD b aiL (nm b (H0 b j) naL - i2).toNat (H0 b j + 1) ++ ([nm b (H0 b j + 1 + (nm b (H0 b j) naL - i2)) aiL] ++ [])))] [(0, .ptr 0 0), (2, .ptr 2 0), (3, .ptr 3 0), (5, iA i2)] (aP ((nsD b aiL (nm b (H0 b j) naL - i2).toNat (H0 b j + 1)).length + ([nm b (H0 b j + 1 + (nm b (H0 b j) naL - i2)) aiL] ++ []).length) 8 []) (aK (by simp only [b88, b87, b89, ak7]; omega) b94) fun G => m6 (b7 (E2 G d9 [(5, iA (i2 - 1))] [wO (i2 - 1)] (o1 (by omega)) fun G => b7 ?_))))))); exact M8 G (i2 - 1) (by omega) (by omega) [0, 1, 2, 3, 4, 6, 5] (by have e1 : (H0 b j + 1 + (nm b (H0 b j) naL - (i2 - 1)) : Int) = (H0 b j + 1 + (nm b (H0 b j) naL - i2) + 1) := (by omega); have e2 : (nsD b aiL (nm b (H0 b j) naL - (i2 - 1)).toNat (H0 b j + 1) : List Int) = (nsD b aiL (nm b (H0 b j) naL - i2).toNat (H0 b j + 1) ++ ([nm b (H0 b j + 1 + (nm b (H0 b j) naL - i2)) aiL] ++ [])) := (bi8 (by omega) (by omega)); (first | rw [e1, e2] | simp only [e1, e2]) <;> rfl)
  · have q0 := dTt h0; refine rT G _ h0 (wp_skip (b7 (wp_seq (wp_block (G2 G (s6 4 [0, 1, 29] (k6.lend (O6 b (j + 1 + (nm b j nvL - i)) viL (by simp [h0]) (by omega) (by omega)) [.no, .no, .row 3])) [0, 1, 0, 0, 12, 28, 63, 127, 255] [0, 1, 2, 3, 53] [.box [.ref 1, iA (j + 1 + (nm b j nvL - i) + 1)], dY b, Q5, aZ8, .row 3 (D.ints (nsD b viL (nm b j nvL - i).toNat (j + 1) ++ ([nm b (j + 1 + (nm b j nvL - i)) viL] ++ [])))] [(0, .ptr 0 0), (2, .ptr 2 0), (3, .ptr 3 0), (4, iA i)] (aP ((nsD b viL (nm b j nvL - i).toNat (j + 1)).length + ([nm b (j + 1 + (nm b j nvL - i)) viL] ++ []).length) 8 []) (aK (by simp only [b88, b87, b89, ak7]; omega) b94) fun G => m6 (b7 (E2 G d9 [(4, iA (i - 1))] [wO (i - 1)] (o1 (by omega)) fun G => b7 ?_))))))); exact M8 G (i - 1) (by omega) (by omega) (rg 5) (by have e1 : (j + 1 + (nm b j nvL - (i - 1)) : Int) = (j + 1 + (nm b j nvL - i) + 1) := (by omega); have e2 : (nsD b viL (nm b j nvL - (i - 1)).toNat (j + 1) : List Int) = (nsD b viL (nm b j nvL - i).toNat (j + 1) ++ ([nm b (j + 1 + (nm b j nvL - i)) viL] ++ [])) := (bi8 (by omega) (by omega)); (first | rw [e1, e2] | simp only [e1, e2]) <;> rfl)
theorem m5.sel {ι : Type} {φ ψ : Nat → Prop} {w0 w : World} {F : ι → Rs} {ρ : Nat → Value} {S S1 : List It} {js : List Nat} (M : m5 φ ψ w0 w (p7 F ρ (s0 S))) (hn : js.Nodup) (hl : js.length = S1.length) (hS : js.map (s0 S) = S1.map (It.ren (nth js))) : m5 φ ψ w0 w (p7 F (fun i => ρ (nth js i)) (s0 S1)) := by
 refine M.map (fun k : ι ⊕ Nat => (match k with | .inl i => some (.inl i) | .inr i => if i < js.length then some (.inr (nth js i)) else none : Option (ι ⊕ Nat))) ?_ ?_
 ·intro k k' x h1 h2
  match k, k' with
  | .inl i, .inl i' => simp at h1 h2; rw [← h1] at h2; simpa using h2.symm
  | .inl i, .inr j => simp only at h1 h2; cases h1; split at h2 <;> simp at h2
  | .inr j, .inl i => simp only at h1 h2; cases h2; split at h1 <;> simp at h1
  | .inr j, .inr j' =>
   simp at h1 h2
   obtain ⟨f1, f2⟩ := h1
   obtain ⟨g1, g2⟩ := h2
   rw [← f2] at g2
   have hj := Sum.inr.inj g2
   have e1 := b90 f1
   have e2 := b90 g1
   rw [G3 e2, G3 e1] at hj
   have := (List.getElem?_inj f1 hn).1 (e1.trans (by rw [← hj]; exact e2.symm))
   rw [this]
 ·intro k
  match k with
  | .inl i => exact .inl ⟨_, rfl, rfl⟩
  | .inr i =>
   by_cases hlt : i < js.length
   ·refine .inl ⟨.inr (nth js i), by simp [hlt], ?_⟩
    have h1 := congrArg (·[i]?) hS
    have hlt' : i < S1.length := by omega
    simp only [List.getElem?_map, b90 hlt, b90 hlt', Option.map_some, Option.some.injEq] at h1
    simp only [p7]
    rw [ad1 hlt', G3 (b90 hlt), h1, ← It.res_ren, G3 (b90 hlt)]
   ·refine .inr ?_
    simp only [p7]
    rw [w9 (by omega)]
    rfl
theorem k6.nilArg {P : Program} {f : FuncId} {args args0 : List AV} {pre post post' : List It} {res res' : AV} {e : TypeId} {d : D} (hc : k6.ok P ⟨f, args0, pre ++ [.row e d], post, res⟩) (k : Nat) (js : List Nat) (hd : D.nil k = some d) (ha : args = AV.denL false pre.length args0) (hid : (W2 pre.length (AV.idsL args) && pre.all (fun x => W2 pre.length x.ids) && nodupB js && natEq js.length post'.length && bP0 pre.length js) = true) (hS : js.map (s0 post) = post'.map (It.ren (nth js))) (hr : res = res'.ren (nth js)) : k6.ok P ⟨f, args, pre, post', res'⟩ := by
 intro ι φ ψ w0 w F ρ M
 simp only [b86, natEq, beq_iff_eq] at hid
 obtain ⟨⟨⟨⟨h1, h2⟩, h3⟩, h4⟩, h5⟩ := hid
 have hz := D.nil_len hd
 have hvals := (AV.vals_den (ρ := ρ) (t := false) (n := pre.length) (z := .slice none 0 0) (by simp) args0 (by rw [← ha]; exact D0 h1)).1
 have hlt : ∀ j, j < pre.length → s0 (pre ++ [.row e d]) j = s0 pre j := fun j hj => by simp [s0, b91, ca9 hj]
 have hids : ∀ j, ∀ i ∈ (s0 pre j).ids, i < pre.length := fun j => by
  by_cases hj : j < pre.length
  ·rw [ad1 hj]
   exact D0 (b93.1 h2 _ (cb0 hj))
  ·rw [w9 (by omega)]; intro i hi; cases hi
 have M1 : m5 φ ψ w0 w (p7 F (fun j => if j = pre.length then .slice none 0 0 else ρ j) (s0 (pre ++ [.row e d]))) := by
  refine m5.put M (.inr pre.length) (fun k hk => ?_) (B8.refl _ _) ?_ ?_
  ·cases k with
   | inl i => rfl
   | inr j =>
    simp only [p7]
    rcases Nat.lt_trichotomy j pre.length with h | h | h
    ·rw [hlt j h]
     exact It.res_congr _ (fun i hi => if_neg (by have := hids j i hi; omega)) (.inr (.inr (if_neg (by omega))))
    ·exact absurd (by rw [h]) hk
    ·rw [w9 (show (pre ++ [It.row e d]).length ≤ j by simp; omega), w9 (show pre.length ≤ j by omega)]; rfl
  ·have : s0 (pre ++ [.row e d]) pre.length = .row e d := by simp [s0, b91]
   simp only [p7, this, It.res, if_true]
   refine ⟨fun xs => RW.nice d xs, [], ?_, RW.nil hz _⟩
   rw [hz]; exact World.ownsRow_nil _ _ _ _
  ·intro g hg
   have : s0 (pre ++ [.row e d]) pre.length = .row e d := by simp [s0, b91]
   simp only [p7, this, It.res, if_true] at hg
   cases hg
 have h := hc ι φ ψ w0 w F _ M1
 simp only [hvals, ← ha] at h
 refine h.mono ?_
 rintro x w' ⟨ρ2, g1, rfl, M2⟩
 have hk : ∀ i, i < pre.length → nth js i = i := fun i hi => by
  have := b93.1 h5 i (List.mem_range.2 hi)
  simp only [b86, natEq, beq_iff_eq] at this
  exact this.1
 refine ⟨fun i => ρ2 (nth js i), fun i hi => ?_, ?_, M2.sel (ap3 h3) h4 hS⟩
 ·have hi : i < pre.length := hi
  simp only [hk i hi]
  rw [g1 i (by simp; omega), if_neg (by omega)]
 ·show Ending.returned (res.val ρ2) = .returned (res'.val _)
  rw [hr, AV.val_ren]
theorem bz1 {ars vs : List Int} {m pc : Int} {ss : List b6} (h : k6.ok Tryz.prog (lbC ars m pc vs [] ss)) : k6.ok Tryz.prog (lnC ars m pc vs ss) :=
 k6.nilArg (pre := [qI vs, dI ars, dT ss]) h 10 [0, 1, 2, 4, 5] rfl rfl rfl rfl rfl
theorem aJ1 (ars : List Int) (nv : Nat) : ∀ (dd : Nat) (tt : List b6) (m pc : Int) (vs : List Int) (bd : List b6), tt.all (f6 nv ars.length dd) = true → nv ≤ vs.length → vs.length + 4 * i5 tt ≤ 90000 → i5 bd + 130 * i5 tt ≤ 600000 → k6.ok Tryz.prog (lbC ars m pc vs bd tt)
 | 0, tt, m, pc, vs, bd, hs, hv, r1, r2 => by
  have h0 : tt = [] := by
   cases tt with
   | nil => rfl
   | cons a r => simp [f6] at hs
  subst h0
  exact aP2 ars nv 0 [] rfl (fun _ _ _ _ _ h => absurd h (by simp)) (fun _ _ _ _ _ _ h => absurd h (by simp)) m pc vs bd hv r1 r2
 | dd + 1, tt, m, pc, vs, bd, hs, hv, r1, r2 => by
  have hB := aJ1 ars nv dd
  have hI : ∀ (tt : List b6) (m pc : Int) (vs : List Int) (bd : List b6), tt.all (f6 nv ars.length dd) = true → nv ≤ vs.length → vs.length + 4 * i5 tt ≤ 90000 → 130 * i5 tt ≤ 600000 → k6.ok Tryz.prog (bI7 ars m pc vs bd tt) := fun tt m pc vs bd h1 h2 h3 h4 => bn5 ars m pc vs bd tt (bz1 (hB tt m pc vs [] h1 h2 h3 (by simpa [i5] using h4)))
  exact aP2 ars nv dd tt hs (fun t k3 hh hbb hbe _ m pc vs bd hv r1 r2 => bR6 ars nv dd t k3 hh hbb hbe hB hI m pc vs bd hv r1 r2) (fun tt m pc vs bd h1 _ h2 h3 h4 => hI tt m pc vs bd h1 h2 h3 h4) m pc vs bd hv r1 r2
abbrev bw7 (p : d7) : d7 := ⟨(i8 p.arrays p.body (-1) 0 (p.vars, [])).1, p.arrays, (i8 p.arrays p.body (-1) 0 (p.vars, [])).2⟩
theorem by0 {p : d7} (h : (C7 p false).1 = 0) (h2 : m0 (bw7 p) = true) : Q9 p = true := by1 h h2
theorem bx9 {p : d7} (h2 : m0 (bw7 p) = false) : Q9 p = false := bO5 h2
theorem bz0 {p : d7} (h : (C7 p false).1 = 0) (h2 : m0 (bw7 p) = true) : t3 p = bw7 p := bj2 (by1 h h2)
theorem by9 {p : d7} (h2 : m0 (bw7 p) = false) : t3 p = ⟨[], [], []⟩ := bj3 (bO5 h2)
theorem bD3 (p : d7) (hp : m0 p = true) : k6.ok Tryz.prog (lnC p.arrays (-1) 0 p.vars p.body) := by
 have h := aa4 hp
 exact bz1 (aJ1 p.arrays p.vars.length 5 p.body (-1) 0 p.vars [] (V0 hp).2.2.2 (b99 _) (by omega) (by simp only [i5]; omega))
abbrev an6 (r0 : List (Nat × AV)) : List (Nat × AV) := (1, .ptr 3 0) :: (2, .ptr 4 0) :: (3, bA false) :: r0
theorem aV2 (p : d7) (hb : p.size ≤ 1048576) (hp : ¬ (C7 p false).1 = 0) : k6.ok Tryz.prog ⟨27, [pA 0], pS p, pS p ++ pS (t3 p), .tup [pA 3, bA (Q9 p)]⟩ := by
 refine A2 43 Tryz.func27 [dI p.vars, dI p.arrays, dT p.body] [(0, pA 0)] fun G => ?_; have hno := bO6 hp
 have hb1 : i5 p.body ≤ 1048576 := by unfold d7.size at hb; omega
 refine wp_seq (k8 G d9 [0, 1, 2, 3, 11] [dI p.vars, dI p.arrays, dT p.body, .box (pL 0), .box [.v (.slice none 0 0), .v (.slice none 0 0), .v (.slice none 0 0)]] (an6 []) fun G => b7 (wp_seq (l5 G (s6 1 [0, 1, 2] (U5 p.vars p.arrays p.body (by assumption))) [(4, iA (C7 (d7.mk p.vars p.arrays p.body) false).fst)] fun G => b7 (wp_seq (wp_seq (C9 G d9 (an6 [(15, bA ((C7 (d7.mk p.vars p.arrays p.body) false).fst != 0))]) fun G => b7 ?_)))))); cases h0 : ((C7 (d7.mk p.vars p.arrays p.body) false).fst != 0)
 ·have q0 := bne_eq_false_iff_eq.1 h0; exact False.elim (hp (by with_reducible assumption))
 ·have q0 := bne_iff_ne.1 h0; refine rT G _ h0 (wp_seq (C9 G d9 (an6 []) fun G => b7 (wp_ret (l7 ?_)))); obtain ⟨ρ, G⟩ := G.nil 5 0 (.ints []) 1 [dI p.vars, dI p.arrays, dT p.body, .box (pL 0), .box [.ref 5, .v (.slice none 0 0), .v (.slice none 0 0)]] (an6 []); obtain ⟨ρ, G⟩ := G.nil 6 0 (.ints []) 1 [dI p.vars, dI p.arrays, dT p.body, .box (pL 0), .box [.ref 5, .ref 6, .v (.slice none 0 0)], .row 0 (D.ints [])] (an6 []); obtain ⟨ρ, G⟩ := G.nil 7 0 (.stmts []) 10 [dI p.vars, dI p.arrays, dT p.body, .box (pL 0), .box (pL 5), .row 0 (D.ints []), .row 0 (D.ints [])] (an6 []); obtain ⟨ρ, G⟩ := G.frz [.no, .no, .no, .no, .no, .row 0, .row 0, .row 0] [dI p.vars, dI p.arrays, dT p.body, .box (pL 0), .box (pL 5), dI [], dI [], dT []] (an6 []); exact X7 (.tup [pA 5, bA false]) G [0, 1, 2, 5, 6, 7] (by have e1 : (Q9 p : Bool) = (false) := (by assumption); (first | rw [e1] | simp only [e1]) <;> rfl) (by show _ = mR [0, 1, 2, 5, 6, 7] [dI p.vars, dI p.arrays, dT p.body, dI (t3 p).vars, dI (t3 p).arrays, dT (t3 p).body]; rw [bj3 hno] <;> rfl)
abbrev aS2 : It := .box [.v (.slice none 0 0), .v (.slice none 0 0), .v (.slice none 0 0)]
abbrev av5 (p : d7) (r0 : List It) : List It := .row 3 (D.ints (i8 p.arrays p.body (-1) 0 (p.vars, [])).fst) :: .row 3 (D.ints p.arrays) :: .tree (D.stmts (i8 p.arrays p.body (-1) 0 (p.vars, [])).snd) :: r0
abbrev J0 (p : d7) (r0 : List It) : List It := dI p.vars :: dI p.arrays :: dT p.body :: r0
theorem aV1 (p : d7) (hb : p.size ≤ 1048576) (hf : (C7 p false).1 = 0) : k6.ok Tryz.prog ⟨27, [pA 0], pS p, pS p ++ pS (t3 p), .tup [pA 3, bA (Q9 p)]⟩ := by
  have hpv := L4 hf; have hB := bD3 p hpv; refine A2 43 Tryz.func27 (J0 p []) [(0, pA 0)] fun G => ?_; have hz := aW8 (L4 hf); have hv := aa4 (L4 hf)
  have hzb : i5 (ai4 p).2 ≤ 1048576 := by omega
  have hsum : (ai4 p).1.length + p.arrays.length + i5 (ai4 p).2 ≤ 1048576 := by omega
  refine wp_seq (k8 G d9 [0, 1, 2, 3, 11] (J0 p [.box (pL 0), aS2]) [(1, .ptr 3 0), (2, .ptr 4 0), (3, bA false)] fun G => b7 (wp_seq (l5 G (s6 1 [0, 1, 2] (U5 p.vars p.arrays p.body (ca7 hv.2.2 (by decide)))) [(4, iA (C7 (d7.mk p.vars p.arrays p.body) false).fst)] fun G => b7 (wp_seq (wp_seq (C9 G d9 [(1, .ptr 3 0), (2, .ptr 4 0), (3, bA false), (15, bA ((C7 (d7.mk p.vars p.arrays p.body) false).fst != 0))] fun G => b7 ?_)))))); cases h0 : ((C7 (d7.mk p.vars p.arrays p.body) false).fst != 0)
  ·
   have q0 := bne_eq_false_iff_eq.1 h0; refine rF G _ h0 (wp_skip (b7 (wp_seq (k8 G (s6 1 [0, 1, 2] (ab4 p.vars p.arrays p.body (by assumption))) [0, 1, 2, 4, 13, 14, 15, 21] (J0 p [aS2, .row 3 (D.ints p.vars), .row 3 (D.ints p.arrays), .tree (D.stmts p.body), .box [.ref 4, .ref 5, .tref 6]]) [(2, .ptr 3 0), (3, bA false), (6, .ptr 7 0)] fun G => b7 (wp_seq ?_))))); obtain ⟨ρ, G⟩ := G.frz [.no, .no, .no, .no, .no, .row 3] (J0 p [.box [.v (.slice none 0 0), .v (.slice none 0 0), .v (.slice none 0 0)], .row 3 (D.ints p.vars), dI p.arrays, .tree (D.stmts p.body), .box [.ref 4, .ref 5, .tref 6]]) [(2, .ptr 3 0), (3, bA false), (6, .ptr 7 0)]; obtain ⟨ρ, G⟩ := G.frz [.no, .no, .no, .no, .no, .no, .tree] (J0 p [.box [.v (.slice none 0 0), .v (.slice none 0 0), .v (.slice none 0 0)], .row 3 (D.ints p.vars), dI p.arrays, dT p.body, .box (pL 4)]) [(2, .ptr 3 0), (3, bA false), (6, .ptr 7 0)]; refine k8 G (s6 8 [4, 5, 6] hB) [0, 1, 2, 3, 5, 72, 73, 80] (J0 p [aS2, dI p.arrays, .row 3 (D.ints (i8 p.arrays p.body (-1) 0 (p.vars, [])).fst), .row 106 (D.stmts (i8 p.arrays p.body (-1) 0 (p.vars, [])).snd), .box [.ref 5, .ref 4, .v (.slice none 0 0), .ref 6]]) [(2, .ptr 3 0), (3, bA false), (7, .ptr 7 0)] fun G => b7 (wp_seq ?_); obtain ⟨ρ, G⟩ := G.frz [.no, .no, .no, .no, .no, .row 3] (J0 p [.box [.v (.slice none 0 0), .v (.slice none 0 0), .v (.slice none 0 0)], dI p.arrays, dI (i8 p.arrays p.body (-1) 0 (p.vars, [])).fst, .row 106 (D.stmts (i8 p.arrays p.body (-1) 0 (p.vars, [])).snd), .box [.ref 5, .ref 4, .v (.slice none 0 0), .ref 6]]) [(2, .ptr 3 0), (3, bA false), (7, .ptr 7 0)]; obtain ⟨ρ, G⟩ := G.frz [.no, .no, .no, .no, .no, .no, .row 106] (J0 p [.box [.v (.slice none 0 0), .v (.slice none 0 0), .v (.slice none 0 0)], dI p.arrays, dI (i8 p.arrays p.body (-1) 0 (p.vars, [])).fst, dT (i8 p.arrays p.body (-1) 0 (p.vars, [])).snd, .box [.ref 5, .ref 4, .v (.slice none 0 0), .ref 6]]) [(2, .ptr 3 0), (3, bA false), (7, .ptr 7 0)]; refine k8 G (s6 9 [5, 4, 6] (ab4 ((i8 p.arrays p.body (-1) 0 (p.vars, [])).fst) p.arrays ((i8 p.arrays p.body (-1) 0 (p.vars, [])).snd) (by assumption))) [0, 1, 2, 3, 80, 81, 82, 88] (J0 p (aS2 :: (av5 p [.box [.ref 4, .ref 5, .tref 6]]))) [(2, .ptr 3 0), (3, bA false), (8, .ptr 7 0)] fun G => b7 (wp_seq (wp_seq (l5 G (s6 1 [4, 5, 6] (k6.lend (af4 ((i8 p.arrays p.body (-1) 0 (p.vars, [])).fst) p.arrays ((i8 p.arrays p.body (-1) 0 (p.vars, [])).snd) (by assumption)) [.row 3, .row 3, .tree])) [(40, .v (.bool !m0 (d7.mk (i8 p.arrays p.body (-1) 0 (p.vars, [])).fst p.arrays (i8 p.arrays p.body (-1) 0 (p.vars, [])).snd)))] fun G => b7 ?_))); cases h1 : (!m0 (d7.mk (i8 p.arrays p.body (-1 : Int) (0 : Int) (p.vars, [])).fst p.arrays (i8 p.arrays p.body (-1 : Int) (0 : Int) (p.vars, [])).snd))
   · have q1 : (m0 (d7.mk (i8 p.arrays p.body (-1) 0 (p.vars, [])).fst p.arrays (i8 p.arrays p.body (-1) 0 (p.vars, [])).snd)) = true := (Eq.mp (b97 _) h1); refine rF G _ h1 (wp_skip (b7 (wp_seq (k8 G d9 (rg 7) (J0 p (.box [.ref 4, .ref 5, .tref 6] :: (av5 p []))) [(2, .ptr 3 0), (3, bA true)] fun G => b7 (wp_ret ?_))))); obtain ⟨ρ, G⟩ := G.frz [.no, .no, .no, .no, .row 3, .row 3, .tree] (J0 p [.box (pL 4), dI (i8 p.arrays p.body (-1) 0 (p.vars, [])).fst, dI p.arrays, dT (i8 p.arrays p.body (-1) 0 (p.vars, [])).snd]) [(2, .ptr 3 0), (3, bA true)]; exact X7 (.tup [pA 4, bA true]) G [0, 1, 2, 4, 5, 6] (by have e1 : (Q9 p : Bool) = (true) := (by0 hf (by with_reducible assumption)); (first | rw [e1] | simp only [e1]) <;> rfl) (by show _ = mR [0, 1, 2, 4, 5, 6] (J0 p [dI (t3 p).vars, dI (t3 p).arrays, dT (t3 p).body]); rw [bz0 hf (by with_reducible assumption)] <;> rfl)
   · have q1 : (m0 (d7.mk (i8 p.arrays p.body (-1) 0 (p.vars, [])).fst p.arrays (i8 p.arrays p.body (-1) 0 (p.vars, [])).snd)) = false := (Eq.mp (b95 _) h1); refine rT G _ h1 (wp_seq (C9 G d9 [(2, .ptr 3 0), (3, bA false), (8, .ptr 7 0)] fun G => b7 (wp_ret (l7 ?_)))); obtain ⟨ρ, G⟩ := G.nil 8 0 (.ints []) 1 (J0 p (.box [.ref 8, .v (.slice none 0 0), .v (.slice none 0 0)] :: (av5 p [.box [.ref 4, .ref 5, .tref 6]]))) [(2, .ptr 3 0), (3, bA false), (8, .ptr 7 0)]; obtain ⟨ρ, G⟩ := G.nil 9 0 (.ints []) 1 (J0 p (.box [.ref 8, .ref 9, .v (.slice none 0 0)] :: (av5 p [.box [.ref 4, .ref 5, .tref 6], .row 0 (D.ints [])]))) [(2, .ptr 3 0), (3, bA false), (8, .ptr 7 0)]; obtain ⟨ρ, G⟩ := G.nil 10 0 (.stmts []) 10 (J0 p (.box (pL 8) :: (av5 p [.box [.ref 4, .ref 5, .tref 6], .row 0 (D.ints []), .row 0 (D.ints [])]))) [(2, .ptr 3 0), (3, bA false), (8, .ptr 7 0)]; obtain ⟨ρ, G⟩ := G.frz [.no, .no, .no, .no, .no, .no, .no, .no, .row 0, .row 0, .row 0] (J0 p (.box (pL 8) :: (av5 p [.box [.ref 4, .ref 5, .tref 6], dI [], dI [], dT []]))) [(2, .ptr 3 0), (3, bA false), (8, .ptr 7 0)]; exact X7 (.tup [pA 8, bA false]) G [0, 1, 2, 8, 9, 10] (by have e1 : (Q9 p : Bool) = (false) := (bx9 (by with_reducible assumption)); (first | rw [e1] | simp only [e1]) <;> rfl) (by show _ = mR [0, 1, 2, 8, 9, 10] (J0 p [dI (t3 p).vars, dI (t3 p).arrays, dT (t3 p).body]); rw [by9 (by with_reducible assumption)] <;> rfl)
  · have q0 := bne_iff_ne.1 h0; exact False.elim (by exact absurd hf (by omega))
theorem a69 (p : d7) (hb : p.size ≤ 1048576) : k6.ok Tryz.prog ⟨27, [pA 0], pS p, pS p ++ pS (t3 p), .tup [pA 3, bA (Q9 p)]⟩ := by
 by_cases hf : (C7 p false).1 = 0
 ·exact aV1 p hb hf
 ·exact aV2 p hb hf
abbrev b44 : Type := J6 × Bool
section
variable {vs ars : List Int} {b : List b6} {s : b6} {cx : Int} {ch : Bool}
end
section
variable {nv na d k : Nat} {ss : List b6} {x : b44} {cx : Int}
end
theorem an3 (vs ars : List Int) (b : List b6) (hb : i5 b ≤ 1048576) : k6.ok Tryz.prog (F6 19 [pA 0] [dI vs, dI ars, dT b] (.tup [iA (C7 ⟨vs, ars, b⟩ false).1, iA (C7 ⟨vs, ars, b⟩ false).2])) := av1 ⟨vs, ars, b⟩ hb
section
variable {p : d7} {y : b44}
end
theorem ay5 (vs ars : List Int) (bd : List b6) : k6.ok Tryz.prog (F6 57 [pA 0] [dI vs, dI ars, dT bd] (bA (m0 ⟨vs, ars, bd⟩))) := af2 ⟨vs, ars, bd⟩
theorem bV4 (vs ars : List Int) (b : List b6) (hb : vs.length + ars.length + i5 b ≤ 1048576) : k6.ok Tryz.prog ⟨58, [pA 0], [dI vs, dI ars, dT b], [dI vs, dI ars, dT b, .row 3 (.ints vs), .row 3 (.ints ars), .tree (.stmts b)], oA 3⟩ := b35 ⟨vs, ars, b⟩ (by unfold d7.size; exact hb)
theorem aM3 (p : d7) (hb : p.size ≤ 1048576) (hp : ¬ (C7 p false).1 = 0) : k6.ok Tryz.prog ⟨29, [pA 0], pS p, pS p ++ oP (t3 p), .tup [oA 3, bA (Q9 p)]⟩ := by
 refine A2 44 Tryz.func29 [dI p.vars, dI p.arrays, dT p.body] [(0, pA 0)] fun G => ?_; have hno := bO6 hp
 have hb1 : i5 p.body ≤ 1048576 := by unfold d7.size at hb; omega
 refine wp_seq (k8 G d9 [0, 1, 2, 3, 11] [dI p.vars, dI p.arrays, dT p.body, .box (pL 0), .box [.v (.slice none 0 0), .v (.slice none 0 0), .v (.slice none 0 0)]] [(1, .ptr 3 0), (2, .ptr 4 0), (3, bA false)] fun G => b7 (wp_seq (wp_seq (l5 G (s6 1 [0, 1, 2] (an3 p.vars p.arrays p.body (by assumption))) [(4, iA (C7 (d7.mk p.vars p.arrays p.body) false).fst)] fun G => b7 (wp_seq (C9 G d9 [(1, .ptr 3 0), (2, .ptr 4 0), (3, bA false), (13, bA ((C7 (d7.mk p.vars p.arrays p.body) false).fst != 0))] fun G => b7 ?_)))))); cases h0 : ((C7 (d7.mk p.vars p.arrays p.body) false).fst != 0)
 ·have q0 := bne_eq_false_iff_eq.1 h0; exact False.elim (hp (by with_reducible assumption))
 ·have q0 := bne_iff_ne.1 h0; refine rT G _ h0 (wp_seq (C9 G d9 [(1, .ptr 3 0), (2, .ptr 4 0), (3, bA false)] fun G => b7 (wp_ret (l7 ?_)))); obtain ⟨ρ, G⟩ := G.nil 5 3 (.ints []) 1 [dI p.vars, dI p.arrays, dT p.body, .box (pL 0), .box [.ref 5, .v (.slice none 0 0), .v (.slice none 0 0)]] [(1, .ptr 3 0), (2, .ptr 4 0), (3, bA false)]; obtain ⟨ρ, G⟩ := G.nil 6 3 (.ints []) 1 [dI p.vars, dI p.arrays, dT p.body, .box (pL 0), .box [.ref 5, .ref 6, .v (.slice none 0 0)], .row 3 (D.ints [])] [(1, .ptr 3 0), (2, .ptr 4 0), (3, bA false)]; obtain ⟨ρ, G⟩ := G.nilT 7 (.stmts []) [dI p.vars, dI p.arrays, dT p.body, .box (pL 0), .box [.ref 5, .ref 6, .tref 7], .row 3 (D.ints []), .row 3 (D.ints [])] [(1, .ptr 3 0), (2, .ptr 4 0), (3, bA false)]; exact X7 (.tup [.agg [.ref 5, .ref 6, .tref 7], bA false]) G [0, 1, 2, 5, 6, 7] (by have e1 : (Q9 p : Bool) = (false) := (by assumption); (first | rw [e1] | simp only [e1]) <;> rfl) (by show _ = mR [0, 1, 2, 5, 6, 7] [dI p.vars, dI p.arrays, dT p.body, .row 3 (D.ints (t3 p).vars), .row 3 (D.ints (t3 p).arrays), .tree (D.stmts (t3 p).body)]; rw [bj3 hno] <;> rfl)
abbrev aR8 (p : d7) : List It := [dI p.vars, dI p.arrays, dT p.body, .row 3 (D.ints (t3 p).vars), .row 3 (D.ints (t3 p).arrays), .tree (D.stmts (t3 p).body)]
abbrev a81 : It := .box [.v (.slice none 0 0), .v (.slice none 0 0), .v (.slice none 0 0)]
abbrev aR5 (p : d7) (r0 : List It) : List It := dI p.arrays :: .box [.ref 6, .ref 4, .ref 7] :: .row 3 (D.ints (i8 p.arrays p.body (-1) 0 (p.vars, [])).fst) :: dT (i8 p.arrays p.body (-1) 0 (p.vars, [])).snd :: r0
theorem aM2 (p : d7) (hb : p.size ≤ 1048576) (hf : (C7 p false).1 = 0) : k6.ok Tryz.prog ⟨29, [pA 0], pS p, pS p ++ oP (t3 p), .tup [oA 3, bA (Q9 p)]⟩ := by
  have hpv := L4 hf; have hB := bq0 p hpv; refine A2 44 Tryz.func29 [dI p.vars, dI p.arrays, dT p.body] [(0, pA 0)] fun G => ?_; have hz := aW8 (L4 hf); have hv := aa4 (L4 hf)
  have hzb : i5 (ai4 p).2 ≤ 1048576 := by omega
  have hsum : (ai4 p).1.length + p.arrays.length + i5 (ai4 p).2 ≤ 1048576 := by omega
  refine wp_seq (k8 G d9 [0, 1, 2, 3, 11] [dI p.vars, dI p.arrays, dT p.body, .box (pL 0), a81] [(1, .ptr 3 0), (2, .ptr 4 0), (3, bA false)] fun G => b7 (wp_seq (wp_seq (l5 G (s6 1 [0, 1, 2] (an3 p.vars p.arrays p.body (ca7 hv.2.2 (by decide)))) [(4, iA (C7 (d7.mk p.vars p.arrays p.body) false).fst)] fun G => b7 (wp_seq (C9 G d9 [(1, .ptr 3 0), (2, .ptr 4 0), (3, bA false), (13, bA ((C7 (d7.mk p.vars p.arrays p.body) false).fst != 0))] fun G => b7 ?_)))))); cases h0 : ((C7 (d7.mk p.vars p.arrays p.body) false).fst != 0)
  ·
   have q0 := bne_eq_false_iff_eq.1 h0; refine rF G _ h0 (wp_skip (b7 (wp_seq (P1 G (t6 (l8 2 [0] (Y8 p.vars (by omega)) (l8 5 [1] (Y8 p.arrays (by omega)) t5)) fz []) [0, 1, 3, 0, 8, 31, 63, 127, 255, 511] [0, 1, 2, 3, 4, 21, 45, 69] [dI p.vars, dI p.arrays, dT p.body, .box (pL 0), a81, .row 3 (D.ints p.vars), .row 3 (D.ints p.arrays), .box [.ref 5, .ref 6, .v (.slice none 0 0)]] [(1, .ptr 3 0), (2, .ptr 4 0), (3, bA false), (6, .ptr 7 0)] fun G => b7 (wp_seq ?_))))); obtain ⟨ρ, G⟩ := G.frz [.no, .no, .no, .no, .no, .no, .row 3] [dI p.vars, dI p.arrays, dT p.body, .box (pL 0), .box [.v (.slice none 0 0), .v (.slice none 0 0), .v (.slice none 0 0)], .row 3 (D.ints p.vars), dI p.arrays, .box [.ref 5, .ref 6, .v (.slice none 0 0)]] [(1, .ptr 3 0), (2, .ptr 4 0), (3, bA false), (6, .ptr 7 0)]; refine k8 G (s6 4 [7, 5, 6, 2] hB) [0, 1, 2, 4, 6, 7, 40, 41] (dI p.vars :: dI p.arrays :: dT p.body :: a81 :: (aR5 p [])) [(2, .ptr 3 0), (3, bA false), (6, .ptr 5 0)] fun G => b7 (wp_seq (wp_seq (l5 G (s6 4 [6, 4, 7] (k6.lend (ay5 ((i8 p.arrays p.body (-1) 0 (p.vars, [])).fst) p.arrays ((i8 p.arrays p.body (-1) 0 (p.vars, [])).snd)) [.row 3])) [(37, .v (.bool !m0 (d7.mk (i8 p.arrays p.body (-1) 0 (p.vars, [])).fst p.arrays (i8 p.arrays p.body (-1) 0 (p.vars, [])).snd)))] fun G => b7 ?_))); cases h1 : (!m0 (d7.mk (i8 p.arrays p.body (-1 : Int) (0 : Int) (p.vars, [])).fst p.arrays (i8 p.arrays p.body (-1 : Int) (0 : Int) (p.vars, [])).snd))
   · have q1 : (m0 (d7.mk (i8 p.arrays p.body (-1) 0 (p.vars, [])).fst p.arrays (i8 p.arrays p.body (-1) 0 (p.vars, [])).snd)) = true := (Eq.mp (b97 _) h1); refine rF G _ h1 (wp_skip (b7 (wp_seq (k8 G (s6 4 [6, 4, 7] (k6.lend (bV4 ((i8 p.arrays p.body (-1) 0 (p.vars, [])).fst) p.arrays ((i8 p.arrays p.body (-1) 0 (p.vars, [])).snd) (by assumption)) [.row 3])) [0, 1, 2, 3, 40, 41, 42] [dI p.vars, dI p.arrays, dT p.body, .box [.ref 4, .ref 5, .tref 6], .row 3 (D.ints (i8 p.arrays p.body (-1) 0 (p.vars, [])).fst), .row 3 (D.ints p.arrays), .tree (D.stmts (i8 p.arrays p.body (-1) 0 (p.vars, [])).snd)] [(2, .ptr 3 0), (3, bA true)] fun G => b7 (wp_ret ?_))))); exact X7 (.tup [.agg [.ref 4, .ref 5, .tref 6], bA true]) G [0, 1, 2, 4, 5, 6] (by have e1 : (Q9 p : Bool) = (true) := (by0 hf (by with_reducible assumption)); (first | rw [e1] | simp only [e1]) <;> rfl) (by show _ = mR [0, 1, 2, 4, 5, 6] (aR8 p); unfold aR8; rw [bz0 hf (by with_reducible assumption)] <;> rfl)
   · have q1 : (m0 (d7.mk (i8 p.arrays p.body (-1) 0 (p.vars, [])).fst p.arrays (i8 p.arrays p.body (-1) 0 (p.vars, [])).snd)) = false := (Eq.mp (b95 _) h1); refine rT G _ h1 (wp_seq (C9 G d9 [(2, .ptr 3 0), (3, bA false), (6, .ptr 5 0)] fun G => b7 (wp_ret (l7 ?_)))); obtain ⟨ρ, G⟩ := G.nil 8 3 (.ints []) 1 (dI p.vars :: dI p.arrays :: dT p.body :: .box [.ref 8, .v (.slice none 0 0), .v (.slice none 0 0)] :: (aR5 p [])) [(2, .ptr 3 0), (3, bA false), (6, .ptr 5 0)]; obtain ⟨ρ, G⟩ := G.nil 9 3 (.ints []) 1 (dI p.vars :: dI p.arrays :: dT p.body :: .box [.ref 8, .ref 9, .v (.slice none 0 0)] :: (aR5 p [.row 3 (D.ints [])])) [(2, .ptr 3 0), (3, bA false), (6, .ptr 5 0)]; obtain ⟨ρ, G⟩ := G.nilT 10 (.stmts []) (dI p.vars :: dI p.arrays :: dT p.body :: .box [.ref 8, .ref 9, .tref 10] :: (aR5 p [.row 3 (D.ints []), .row 3 (D.ints [])])) [(2, .ptr 3 0), (3, bA false), (6, .ptr 5 0)]; exact X7 (.tup [.agg [.ref 8, .ref 9, .tref 10], bA false]) G [0, 1, 2, 8, 9, 10] (by have e1 : (Q9 p : Bool) = (false) := (bx9 (by with_reducible assumption)); (first | rw [e1] | simp only [e1]) <;> rfl) (by show _ = mR [0, 1, 2, 8, 9, 10] (aR8 p); unfold aR8; rw [by9 (by with_reducible assumption)] <;> rfl)
  · have q0 := bne_iff_ne.1 h0; exact False.elim (by exact absurd hf (by omega))
theorem ae5 (p : d7) (hb : p.size ≤ 1048576) : k6.ok Tryz.prog ⟨29, [pA 0], pS p, pS p ++ oP (t3 p), .tup [oA 3, bA (Q9 p)]⟩ := by
 by_cases hf : (C7 p false).1 = 0
 ·exact aM2 p hb hf
 ·exact aM3 p hb hf
end Go.Proofs.YthikdkjjdeehoaaGreat

namespace Go.Proofs.YthikdkjjdeehoaaGreat
set_option linter.unusedVariables false
set_option linter.unusedSimpArgs false
open Go Go.RowKit
section
variable {l : List aa0} {fr : List Int} {at0 d : Int} {s : b6}
end
section
variable {ss : List b6} {k : Nat} {d : Int} {l : List aa0} {fr : List Int} {at0 : Int}
end
end Go.Proofs.YthikdkjjdeehoaaGreat

namespace Go.Proofs.YthikdkjjdeehoaaGreat
set_option linter.unusedVariables false
set_option linter.unusedSimpArgs false
open Go Go.RowKit
theorem bW3 (b : List UInt8) {j : Int} (hj : 0 ≤ j) (hj2 : j ≤ 10000000) : j + 2 ≤ (bdD b j).2 ∧ (bdD b j).2 ≤ j + 150000 := by
 have h1 := bm3 b hj hj2
 have h2 := bk0 b hj hj2
 omega
def P4 (b : List UInt8) : Nat → Int → d7 × Int
 | 0, j => (R1 b j, (bdD b j).2 + 1)
 | n + 1, j => if (C7 (R1 b j) false).1 = 0 ∧ 0 < (R1 b j).body.length then (R1 b j, (bdD b j).2 + 1) else P4 b n ((bdD b j).2 + 1)
theorem bU6 (b : List UInt8) : ∀ (n : Nat) (j : Int), n ≤ 3 → 0 ≤ j → j + n * 150001 ≤ 10000000 → j ≤ (P4 b n j).2 ∧ (P4 b n j).2 ≤ j + (n + 1) * 150001 ∧ (P4 b n j).1.size ≤ 160000
 | 0, j, _, hj, hj2 => by
  have h := bW3 b hj (by omega)
  have h2 := a90 b hj (by omega)
  refine ⟨?_, ?_, h2⟩ <;> (show _ ≤ _; simp only [P4]; omega)
 | n + 1, j, hn, hj, hj2 => by
  have h := bW3 b hj (by omega)
  have h2 := a90 b hj (by omega)
  have ih := bU6 b n ((bdD b j).2 + 1) (by omega) (by omega) (by omega)
  rw [P4]
  split
  ·exact ⟨by show j ≤ (bdD b j).2 + 1; omega, by show (bdD b j).2 + 1 ≤ _; omega, h2⟩
  ·exact ⟨by omega, by omega, ih.2.2⟩
def M4 (b : List UInt8) (j : Int) : Nat → Int
 | 0 => j
 | i + 1 => (bdD b (M4 b j i)).2 + 1
theorem b25 (b : List UInt8) {j : Int} (hj : 0 ≤ j) (hj2 : j ≤ 9000000) : ∀ i : Nat, i ≤ 3 → j ≤ M4 b j i ∧ M4 b j i ≤ j + i * 150001
 | 0, _ => ⟨Int.le_refl _, by simp [M4]⟩
 | i + 1, hi => by
  have ih := b25 b hj hj2 i (by omega)
  have h := bW3 b (j := M4 b j i) (by omega) (by omega)
  rw [M4]
  omega
theorem b26 {b : List UInt8} {j : Int} {i : Nat} (hi : i < 3) (h : P4 b 3 j = P4 b (3 - i) (M4 b j i)) (hn : ¬ ((C7 (R1 b (M4 b j i)) false).1 = 0 ∧ 0 < (R1 b (M4 b j i)).body.length)) : P4 b 3 j = P4 b (3 - (i + 1)) (M4 b j (i + 1)) := by
 rw [h, show 3 - i = (3 - (i + 1)) + 1 by omega, P4, if_neg hn]; rfl
theorem bU5 {b : List UInt8} {j : Int} {i : Nat} (hi : i < 3) (h : P4 b 3 j = P4 b (3 - i) (M4 b j i)) (hn : (C7 (R1 b (M4 b j i)) false).1 = 0 ∧ 0 < (R1 b (M4 b j i)).body.length) : P4 b 3 j = (R1 b (M4 b j i), (bdD b (M4 b j i)).2 + 1) := by
 rw [h, show 3 - i = (3 - (i + 1)) + 1 by omega, P4, if_pos hn]
theorem bK0 {b : List UInt8} {j : Int} {i : Nat} (hi : 3 ≤ i) (hi2 : i ≤ 3) (h : P4 b 3 j = P4 b (3 - i) (M4 b j i)) : P4 b 3 j = (R1 b (M4 b j i), (bdD b (M4 b j i)).2 + 1) := by
 rw [h, show 3 - i = 0 by omega, P4]
def l0 (c : List UInt8) : d7 := (mtD (bsD c) (P4 (bsD c) 3 0).1 (P4 (bsD c) 3 0).2).1
theorem bK6 (c : List UInt8) : (l0 c).size ≤ 200000 := by
 have h1 := bU6 (bsD c) 3 0 (b99 _) (by omega) (by omega)
 have h2 := (bT1 (bsD c) (P4 (bsD c) 3 0).1 (P4 (bsD c) 3 0).2).1
 unfold l0; omega
abbrev mtC (b : List UInt8) (p : d7) (j : Int) : k6 := ⟨55, [.ptr 0 0, pA 2], [.box [.ref 1, iA j], dY b] ++ pS p, [.box [.ref 1, iA (mtD b p j).2], dY b] ++ pS p ++ oP (mtD b p j).1, oA 5⟩
section
variable {b : List UInt8} {p : d7} {j : Int}
theorem b61 (h : pk b j 60 = 0) (h1 : (p.vars.length : Int) > 0) : mtD b p j = (⟨p.vars.set 0 (l1D b (j + 1)), p.arrays, p.body⟩, j + 1 + 2) := by
 rw [mtD, if_pos h, if_pos (by omega)]
theorem b62 (h : pk b j 60 = 1) : mtD b p j = (⟨p.vars ++ cb3 (13 - p.vars.length) 1, p.arrays, p.body⟩, j + 1) := by
 rw [mtD, if_neg (by omega), if_pos h]
theorem b67 (h : pk b j 60 = 2) (h1 : (p.body.length : Int) > 0) : mtD b p j = (⟨p.vars, p.arrays, p.body.set 0 (kdS (p.body.getD 0 b85) (nm b (j + 1) m2L))⟩, j + 1 + 1) := by
 rw [mtD, if_neg (by omega), if_neg (by omega), if_pos h, if_pos (by omega)]
theorem b66 (h : pk b j 60 = 3) (h1 : (p.body.length : Int) > 0) : mtD b p j = (⟨p.vars, p.arrays, p.body.set ((p.body.length : Int) - 1).toNat (tgS (p.body.getD ((p.body.length : Int) - 1).toNat b85) (nm b (j + 1) m3L))⟩, j + 1 + 1) := by
 rw [mtD, if_neg (by omega), if_neg (by omega), if_neg (by omega), if_pos h, if_pos (by omega)]
theorem b65 (h : pk b j 60 = 4) (h1 : (p.body.length : Int) > 0) : mtD b p j = (⟨p.vars, p.arrays, p.body.set 0 (vvS (p.body.getD 0 b85) (nm b (j + 1) m4L))⟩, j + 1 + 1) := by
 rw [mtD, if_neg (by omega), if_neg (by omega), if_neg (by omega), if_neg (by omega), if_pos h, if_pos (by omega)]
theorem b64 (h : pk b j 60 = 5) (h1 : (p.body.length : Int) > 0) : mtD b p j = (⟨p.vars, p.arrays, p.body.set 0 (ctS (p.body.getD 0 b85) (nm b (j + 1) m5L))⟩, j + 1 + 1) := by
 rw [mtD, if_neg (by omega), if_neg (by omega), if_neg (by omega), if_neg (by omega), if_neg (by omega), if_pos h, if_pos (by omega)]
theorem b63 (h : pk b j 60 = 6) : mtD b p j = (⟨[], [], []⟩, j + 1) := by
 rw [mtD, if_neg (by omega), if_neg (by omega), if_neg (by omega), if_neg (by omega), if_neg (by omega), if_neg (by omega), if_pos h]
theorem bo3 (h : (pk b j 60 = 0 ∧ ¬ (p.vars.length : Int) > 0) ∨ ((pk b j 60 = 2 ∨ pk b j 60 = 3 ∨ pk b j 60 = 4 ∨ pk b j 60 = 5) ∧ ¬ (p.body.length : Int) > 0) ∨ (¬ pk b j 60 = 0 ∧ ¬ pk b j 60 = 1 ∧ ¬ pk b j 60 = 2 ∧ ¬ pk b j 60 = 3 ∧ ¬ pk b j 60 = 4 ∧ ¬ pk b j 60 = 5 ∧ ¬ pk b j 60 = 6)) : mtD b p j = (p, j + 1) := by
 unfold mtD
 (repeat' split) <;> first | rfl | (exfalso; omega)
theorem bw5 {k : Nat} : p.vars ++ cb3 (k + 1) 1 = (p.vars ++ cb3 k 1) ++ [1] := by
 rw [List.replicate_succ', List.append_assoc]
theorem b03 {k : Nat} (h : pk b j 60 = 1) (h1 : k ≤ 13 - p.vars.length) (h2 : ¬ (((p.vars ++ cb3 k (1 : Int)).length : Nat) : Int) ≤ 12) : mtD b p j = (⟨p.vars ++ cb3 k 1, p.arrays, p.body⟩, j + 1) := by
 simp only [b88, cb1] at h2
 rw [b62 h, show 13 - p.vars.length = k by omega]
end
abbrev aO3 (p : d7) := p.body.getD ((p.body.length : Int) - 1).toNat b85
abbrev F7 (b : List UInt8) (p : d7) (j : Int) : List It := [.box [.ref 1, iA (mtD b p j).snd], dY b, dI p.vars, dI p.arrays, dT p.body, .row 3 (D.ints (mtD b p j).fst.vars), .row 3 (D.ints (mtD b p j).fst.arrays), .tree (D.stmts (mtD b p j).fst.body)]
abbrev aZ7 : It := .box [.v (.slice none 0 0), .v (.slice none 0 0), .v (.slice none 0 0)]
abbrev bM6 (b : List UInt8) (p : d7) (j : Int) : It := .tree (D.stmts (p.body.set 0 (b6.mk (p.body.getD 0 b85).kind (p.body.getD 0 b85).target (p.body.getD 0 b85).index (b5.mk (p.body.getD 0 b85).value.kind (nm b (j + 1) m4L) (p.body.getD 0 b85).value.kids) (p.body.getD 0 b85).count (p.body.getD 0 b85).body (p.body.getD 0 b85).els)))
abbrev ag4 : It := .box [.ref 6, .ref 7, .tref 8]
abbrev bM5 (b : List UInt8) (p : d7) (j : Int) : It := .tree (D.stmts (p.body.set 0 (b6.mk (nm b (j + 1) m2L) (p.body.getD 0 b85).target (p.body.getD 0 b85).index (p.body.getD 0 b85).value (p.body.getD 0 b85).count (p.body.getD 0 b85).body (p.body.getD 0 b85).els)))
abbrev bM4 (b : List UInt8) (p : d7) (j : Int) : It := .tree (D.stmts (p.body.set 0 (b6.mk (p.body.getD 0 b85).kind (p.body.getD 0 b85).target (p.body.getD 0 b85).index (p.body.getD 0 b85).value (nm b (j + 1) m5L) (p.body.getD 0 b85).body (p.body.getD 0 b85).els)))
abbrev bM3 (b : List UInt8) (p : d7) (j : Int) : It := .tree (D.stmts (p.body.set ((p.body.length : Int) - 1).toNat (b6.mk (aO3 p).kind (nm b (j + 1) m3L) (aO3 p).index (aO3 p).value (aO3 p).count (aO3 p).body (aO3 p).els)))
abbrev am1 (b : List UInt8) (p : d7) (r0 : List It) : List It := dY b :: dI p.vars :: dI p.arrays :: dT p.body :: ag4 :: .row 3 (D.ints p.vars) :: .row 3 (D.ints p.arrays) :: r0
abbrev aN5 (p : d7) (r0 : List It) : List It := dI p.vars :: dI p.arrays :: dT p.body :: aZ7 :: .row 3 (D.ints p.vars) :: .row 3 (D.ints p.arrays) :: r0
abbrev ar0 (p : d7) (r0 : List It) : List It := .row 3 (D.ints p.arrays) :: .tree (D.stmts p.body) :: r0
abbrev aE8 (b : List UInt8) (p : d7) (j : Int) (r0 : List It) : List It := .box [.ref 1, iA (j + 1)] :: dY b :: dI p.vars :: dI p.arrays :: dT p.body :: r0
abbrev bf2 (b : List UInt8) (p : d7) (j : Int) (r0 : List (Nat × AV)) : List (Nat × AV) := (0, .ptr 0 0) :: (4, .ptr 5 0) :: (5, .ptr 9 0) :: (6, iA (p.body.length : Int)) :: (13, iA (pk b j 60)) :: r0
theorem aK8 (b : List UInt8) (p : d7) (j : Int) (hb : p.size ≤ 1000000) (r0 : 0 ≤ j) (r1 : j ≤ 100000000) : k6.ok Tryz.prog (mtC b p j) := by
  refine A2 87 Tryz.func55 [.box [.ref 1, iA j], dY b, dI p.vars, dI p.arrays, dT p.body] [(0, .ptr 0 0), (1, pA 2)] fun G => ?_
  have hb1 : p.vars.length ≤ 1048576 ∧ p.arrays.length ≤ 1048576 ∧ i5 p.body ≤ 1048576 := by unfold d7.size at hb; omega
  have hb2 : p.body.length ≤ 1048576 := ca7 (C3 _) hb1.2.2; refine wp_seq (k8 G d9 [0, 1, 2, 3, 4, 5, 13] [.box [.ref 1, iA j], dY b, dI p.vars, dI p.arrays, dT p.body, .box (pL 2), aZ7] [(0, .ptr 0 0), (3, .ptr 5 0), (4, .ptr 6 0)] fun G => b7 (wp_seq (k8 G (s6 1 [2, 3, 4] (ab4 p.vars p.arrays p.body (ca7 hb (by omega)))) [0, 1, 2, 3, 4, 6, 15, 16, 17, 23] (.box [.ref 1, iA j] :: dY b :: (aN5 p [.tree (D.stmts p.body), ag4])) [(0, .ptr 0 0), (4, .ptr 5 0), (5, .ptr 9 0)] fun G => b7 (wp_seq (l5 G d9 [(6, iA (p.body.length : Int))] fun G => b7 (wp_seq (wp_seq (k8 G (s6 1 [0, 1] (L5 b j 60 (by assumption) (by simp only [b88, cb1, b87, b89] at *; omega))) (rg 10) (.box [.ref 1, iA (j + 1)] :: dY b :: (aN5 p [.tree (D.stmts p.body), ag4])) (bf2 b p j []) fun G => b7 (wp_block (wp_seq (l5 G d9 [(14, bA (pk b j 60 == 0))] fun G => b7 (P9 G (fun h0 q0 => ?_) fun h0 q0 => ?_))))))))))))
  ·
   refine wp_seq (C9 G d9 (bf2 b p j [(25, bA (pk b j 60 == 1))]) fun G => b7 (P9 G (fun h1 q1 => ?_) fun h1 q1 => ?_))
   ·
    refine wp_seq (l5 G d9 [(36, bA (pk b j 60 == 2))] fun G => b7 (P9 G (fun h2 q2 => ?_) fun h2 q2 => ?_))
    ·
     refine wp_seq (l5 G d9 [(47, bA (pk b j 60 == 3))] fun G => b7 (P9 G (fun h3 q3 => ?_) fun h3 q3 => ?_))
     ·
      refine wp_seq (l5 G d9 [(60, bA (pk b j 60 == 4))] fun G => b7 (P9 G (fun h4 q4 => ?_) fun h4 q4 => ?_))
      ·
       refine wp_seq (l5 G d9 [(72, bA (pk b j 60 == 5))] fun G => b7 (P9 G (fun h5 q5 => ?_) fun h5 q5 => ?_))
       ·
        refine wp_seq (l5 G d9 [(83, bA (pk b j 60 == 6))] fun G => b7 (P9 G (fun h6 q6 => ?_) fun h6 q6 => ?_))
        · refine wp_skip (m6 (b7 (wp_seq (k8 G d9 (rg 9) (.box [.ref 1, iA (j + 1)] :: (am1 b p [.tree (D.stmts p.body)])) [(4, .ptr 5 0)] fun G => b7 (wp_ret ?_))))); exact F2 G [0, 1, 2, 3, 4, 6, 7, 8] (by show _ = mR [0, 1, 2, 3, 4, 6, 7, 8] (F7 b p j); unfold F7; rw [bo3 (by omega)] <;> rfl)
        · refine wp_seq (C9 G d9 [(4, .ptr 5 0), (5, .ptr 9 0)] fun G => b7 (wp_ret (A0 (l7 ?_)))); obtain ⟨ρ, G⟩ := G.nil 10 3 (.ints []) 1 (aE8 b p j (.box [.ref 10, .v (.slice none 0 0), .v (.slice none 0 0)] :: .row 3 (D.ints p.vars) :: (ar0 p [.box [.ref 6, .ref 7, .tref 8]]))) [(4, .ptr 5 0), (5, .ptr 9 0)]; obtain ⟨ρ, G⟩ := G.nil 11 3 (.ints []) 1 (aE8 b p j (.box [.ref 10, .ref 11, .v (.slice none 0 0)] :: .row 3 (D.ints p.vars) :: (ar0 p [.box [.ref 6, .ref 7, .tref 8], .row 3 (D.ints [])]))) [(4, .ptr 5 0), (5, .ptr 9 0)]; obtain ⟨ρ, G⟩ := G.nilT 12 (.stmts []) (aE8 b p j (.box [.ref 10, .ref 11, .tref 12] :: .row 3 (D.ints p.vars) :: (ar0 p [.box [.ref 6, .ref 7, .tref 8], .row 3 (D.ints []), .row 3 (D.ints [])]))) [(4, .ptr 5 0), (5, .ptr 9 0)]; exact F2 G [0, 1, 2, 3, 4, 10, 11, 12] (by show _ = mR [0, 1, 2, 3, 4, 10, 11, 12] (F7 b p j); unfold F7; rw [b63 (by omega)] <;> rfl)
       ·
        refine wp_seq (l5 G d9 [(75, bA (decide ((p.body.length : Int) > 0)))] fun G => b7 (O0 G (fun h7 q7 => ?_) fun h7 q7 => ?_))
        · refine wp_skip (m6 (b7 (wp_seq (k8 G d9 (rg 9) (.box [.ref 1, iA (j + 1)] :: (am1 b p [.tree (D.stmts p.body)])) [(4, .ptr 5 0)] fun G => b7 (wp_ret ?_))))); exact F2 G [0, 1, 2, 3, 4, 6, 7, 8] (by show _ = mR [0, 1, 2, 3, 4, 6, 7, 8] (F7 b p j); unfold F7; rw [bo3 (by omega)] <;> rfl)
        · refine G2 G (s6 4 [0, 1, 34] (k6.lend (O6 b (j + 1) m5L (by simp [h0, h1, h2, h3, h4, h5, h7]) (by simp only [b88, cb1, b87, b89] at *; omega) (by simp only [b88, cb1, b87, b89] at *; omega)) [.no, .no, .row 3])) [0, 1, 0, 0, 12, 31, 63, 127] (rg 10) (.box [.ref 1, iA (j + 1 + 1)] :: dY b :: (aN5 p [bM4 b p j, ag4])) [(4, .ptr 5 0), (5, .ptr 9 0)] [(0 : Int) ≤ 0, (0 : Int) < p.body.length, (0 : Nat) < p.body.length] ⟨(by simp [h0, h1, h2, h3, h4, h5, h7]), (by assumption), (by simp only [b88, cb1, b87, b89] at *; omega), b94⟩ fun G => m6 (b7 (wp_seq (k8 G d9 (rg 9) (.box [.ref 1, iA (j + 1 + 1)] :: (am1 b p [bM4 b p j])) [(4, .ptr 5 0)] fun G => b7 (wp_ret ?_)))); exact F2 G [0, 1, 2, 3, 4, 6, 7, 8] (by show _ = mR [0, 1, 2, 3, 4, 6, 7, 8] (F7 b p j); unfold F7; rw [b64 (by omega) (by omega)] <;> rfl)
      ·
       refine wp_seq (l5 G d9 [(63, bA (decide ((p.body.length : Int) > 0)))] fun G => b7 (O0 G (fun h8 q8 => ?_) fun h8 q8 => ?_))
       · refine wp_skip (m6 (b7 (wp_seq (k8 G d9 (rg 9) (.box [.ref 1, iA (j + 1)] :: (am1 b p [.tree (D.stmts p.body)])) [(4, .ptr 5 0)] fun G => b7 (wp_ret ?_))))); exact F2 G [0, 1, 2, 3, 4, 6, 7, 8] (by show _ = mR [0, 1, 2, 3, 4, 6, 7, 8] (F7 b p j); unfold F7; rw [bo3 (by omega)] <;> rfl)
       · refine G2 G (s6 4 [0, 1, 34] (k6.lend (O6 b (j + 1) m4L (by simp [h0, h1, h2, h3, h4, h8]) (by simp only [b88, cb1, b87, b89] at *; omega) (by simp only [b88, cb1, b87, b89] at *; omega)) [.no, .no, .row 3])) [0, 1, 0, 0, 12, 31, 63, 127, 255] (rg 10) (.box [.ref 1, iA (j + 1 + 1)] :: dY b :: (aN5 p [bM6 b p j, ag4])) [(4, .ptr 5 0), (5, .ptr 9 0)] [(0 : Int) ≤ 0, (0 : Int) < p.body.length, (0 : Nat) < p.body.length] ⟨(by simp [h0, h1, h2, h3, h4, h8]), (by assumption), (by simp only [b88, cb1, b87, b89] at *; omega), b94⟩ fun G => m6 (b7 (wp_seq (k8 G d9 (rg 9) (.box [.ref 1, iA (j + 1 + 1)] :: (am1 b p [bM6 b p j])) [(4, .ptr 5 0)] fun G => b7 (wp_ret ?_)))); exact F2 G [0, 1, 2, 3, 4, 6, 7, 8] (by show _ = mR [0, 1, 2, 3, 4, 6, 7, 8] (F7 b p j); unfold F7; rw [b65 (by omega) (by omega)] <;> rfl)
     ·
      refine wp_seq (l5 G d9 [(50, bA (decide ((p.body.length : Int) > 0)))] fun G => b7 (O0 G (fun h9 q9 => ?_) fun h9 q9 => ?_))
      · refine wp_skip (m6 (b7 (wp_seq (k8 G d9 (rg 9) (.box [.ref 1, iA (j + 1)] :: (am1 b p [.tree (D.stmts p.body)])) [(4, .ptr 5 0)] fun G => b7 (wp_ret ?_))))); exact F2 G [0, 1, 2, 3, 4, 6, 7, 8] (by show _ = mR [0, 1, 2, 3, 4, 6, 7, 8] (F7 b p j); unfold F7; rw [bo3 (by omega)] <;> rfl)
      · refine G2 G (s6 6 [0, 1, 50] (k6.lend (O6 b (j + 1) m3L (by simp [h0, h1, h2, h3, h9]) (by simp only [b88, cb1, b87, b89] at *; omega) (by simp only [b88, cb1, b87, b89] at *; omega)) [.no, .no, .row 3])) [0, 1, 0, 4, 0, 0, 48, 127, 255, 511] (rg 10) (.box [.ref 1, iA (j + 1 + 1)] :: dY b :: (aN5 p [bM3 b p j, ag4])) [(4, .ptr 5 0), (5, .ptr 9 0)] [wO ((p.body.length : Int) - 1), (0 : Int) ≤ p.body.length - 1, (p.body.length : Int) - 1 < (p.body.length : Int), ((p.body.length : Int) - 1).toNat < p.body.length] ⟨oW (by omega), (by simp only [b88, cb1, b87, b89] at *; omega), (by simp only [b88, cb1, b87, b89] at *; omega), (by simp only [b88, cb1, b87, b89] at *; omega), b94⟩ fun G => m6 (b7 (wp_seq (k8 G d9 (rg 9) (.box [.ref 1, iA (j + 1 + 1)] :: (am1 b p [bM3 b p j])) [(4, .ptr 5 0)] fun G => b7 (wp_ret ?_)))); exact F2 G [0, 1, 2, 3, 4, 6, 7, 8] (by show _ = mR [0, 1, 2, 3, 4, 6, 7, 8] (F7 b p j); unfold F7; rw [b66 (by omega) (by omega)] <;> rfl)
    ·
     refine wp_seq (l5 G d9 [(39, bA (decide ((p.body.length : Int) > 0)))] fun G => b7 (O0 G (fun h10 q10 => ?_) fun h10 q10 => ?_))
     · refine wp_skip (m6 (b7 (wp_seq (k8 G d9 (rg 9) (.box [.ref 1, iA (j + 1)] :: (am1 b p [.tree (D.stmts p.body)])) [(4, .ptr 5 0)] fun G => b7 (wp_ret ?_))))); exact F2 G [0, 1, 2, 3, 4, 6, 7, 8] (by show _ = mR [0, 1, 2, 3, 4, 6, 7, 8] (F7 b p j); unfold F7; rw [bo3 (by omega)] <;> rfl)
     · refine G2 G (s6 4 [0, 1, 34] (k6.lend (O6 b (j + 1) m2L (by simp [h0, h1, h2, h10]) (by simp only [b88, cb1, b87, b89] at *; omega) (by simp only [b88, cb1, b87, b89] at *; omega)) [.no, .no, .row 3])) [0, 1, 0, 0, 12, 31, 63, 127] (rg 10) (.box [.ref 1, iA (j + 1 + 1)] :: dY b :: (aN5 p [bM5 b p j, ag4])) [(4, .ptr 5 0), (5, .ptr 9 0)] [(0 : Int) ≤ 0, (0 : Int) < p.body.length, (0 : Nat) < p.body.length] ⟨(by simp [h0, h1, h2, h10]), (by assumption), (by simp only [b88, cb1, b87, b89] at *; omega), b94⟩ fun G => m6 (b7 (wp_seq (k8 G d9 (rg 9) (.box [.ref 1, iA (j + 1 + 1)] :: (am1 b p [bM5 b p j])) [(4, .ptr 5 0)] fun G => b7 (wp_ret ?_)))); exact F2 G [0, 1, 2, 3, 4, 6, 7, 8] (by show _ = mR [0, 1, 2, 3, 4, 6, 7, 8] (F7 b p j); unfold F7; rw [b67 (by omega) (by omega)] <;> rfl)
   ·
    refine wp_block ?_; replace G := G.as (aE8 b p j (.box [.v (.slice none 0 0), .v (.slice none 0 0), .v (.slice none 0 0)] :: .row 3 (D.ints (p.vars ++ cb3 0 1)) :: (ar0 p [.box [.ref 6, .ref 7, .tref 8]]))) (bf2 b p j [(25, bA (pk b j 60 == 1))]) (by have e1 : (p.vars ++ cb3 0 1 : List Int) = (p.vars) := (by simp [h0, h1]); (first | rw [e1] | simp only [e1]) <;> rfl) (by kernel_rfl); refine o9 (κ := Nat) (fun k => k ≤ 13 - p.vars.length) (fun k => 13 - p.vars.length - k) (fun k => [.box [.ref 1, iA (j + 1)], dY b, dI p.vars, dI p.arrays, dT p.body, .box [.v (.slice none 0 0), .v (.slice none 0 0), .v (.slice none 0 0)], .row 3 (.ints (p.vars ++ cb3 k 1)), .row 3 (D.ints p.arrays), .tree (D.stmts p.body), .box [.ref 6, .ref 7, .tref 8]]) (fun k => [(0, .ptr 0 0), (4, .ptr 5 0), (5, .ptr 9 0), (6, iA (p.body.length : Int)), (13, iA (pk b j 60)), (25, bA (pk b j 60 == 1))]) 0 (by simp [h0, h1]) (s5.at G _ _) ?_; clear G; intro k ρ a w hp G; replace G := s5.at G (aE8 b p j (aZ7 :: .row 3 (D.ints (p.vars ++ cb3 k 1)) :: (ar0 p [ag4]))) (bf2 b p j [(25, bA (pk b j 60 == 1))]); refine wp_seq (wp_seq (l5 G d9 [(30, bA (decide (((p.vars ++ cb3 k 1).length : Int) ≤ 12)))] fun G => b7 (O0 G (fun h12 q12 => ?_) fun h12 q12 => ?_)))
    · refine wp_exit (o5 (o5 (n9 (m6 (b7 (wp_seq (k8 G d9 (rg 9) (aE8 b p j (ag4 :: .row 3 (D.ints (p.vars ++ cb3 k 1)) :: (ar0 p []))) [(4, .ptr 5 0)] fun G => b7 (wp_ret ?_)))))))); exact F2 G [0, 1, 2, 3, 4, 6, 7, 8] (by show _ = mR [0, 1, 2, 3, 4, 6, 7, 8] (F7 b p j); unfold F7; rw [b03 (k := k) (by omega) (by omega) (by omega)] <;> rfl)
    · refine wp_skip (b7 (wp_block (O1 G d9 [0, 1, 2, 3, 4, 5, 7, 8, 9, 34] (aE8 b p j (aZ7 :: (ar0 p [.box [.ref 9, .ref 6, .tref 7], .row 3 (D.ints (p.vars ++ cb3 k 1 ++ ([1] ++ [])))]))) [(0, .ptr 0 0), (4, .ptr 5 0), (5, .ptr 8 0), (6, iA (p.body.length : Int)), (13, iA (pk b j 60)), (25, bA (pk b j 60 == 1))] (aP ((p.vars ++ cb3 k (1 : Int)).length + ([(1 : Int)] ++ []).length) 8 []) (aK (by simp only [b88, cb1, b87, b89] at *; omega) b94) fun G => m6 (b7 ?_)))); exact M8 G (k + 1) (by simp only [b88, cb1, b87, b89] at *; omega) (by simp only [b88, cb1, b87, b89] at *; omega) [0, 1, 2, 3, 4, 5, 9, 6, 7, 8] (by have e1 : (p.vars ++ cb3 (k + 1) 1 : List Int) = (p.vars ++ cb3 k 1 ++ ([1] ++ [])) := bw5; (first | rw [e1] | simp only [e1]) <;> rfl)
  ·
   refine wp_seq (l5 G d9 [(19, bA (decide ((p.vars.length : Int) > 0)))] fun G => b7 (O0 G (fun h11 q11 => ?_) fun h11 q11 => ?_))
   · refine wp_skip (m6 (b7 (wp_seq (k8 G d9 (rg 9) (.box [.ref 1, iA (j + 1)] :: (am1 b p [.tree (D.stmts p.body)])) [(4, .ptr 5 0)] fun G => b7 (wp_ret ?_))))); exact F2 G [0, 1, 2, 3, 4, 6, 7, 8] (by show _ = mR [0, 1, 2, 3, 4, 6, 7, 8] (F7 b p j); unfold F7; rw [bo3 (by omega)] <;> rfl)
   · refine G2 G (s6 3 [0, 1] (bE3 b (j + 1) (by simp only [b88, cb1, b87, b89] at *; omega) (by simp only [b88, cb1, b87, b89] at *; omega))) [0, 1, 0, 4, 15, 31] (rg 10) (.box [.ref 1, iA (j + 1 + 2)] :: dY b :: dI p.vars :: dI p.arrays :: dT p.body :: aZ7 :: .row 3 (D.ints (p.vars.set 0 (l1D b (j + 1)))) :: (ar0 p [ag4])) [(4, .ptr 5 0), (5, .ptr 9 0)] [(0 : Int) ≤ 0, (0 : Int) < p.vars.length, (0 : Nat) < p.vars.length] ⟨(by simp [h0, h11]), (by assumption), (by simp only [b88, cb1, b87, b89] at *; omega), b94⟩ fun G => m6 (b7 (wp_seq (k8 G d9 (rg 9) (.box [.ref 1, iA (j + 1 + 2)] :: dY b :: dI p.vars :: dI p.arrays :: dT p.body :: ag4 :: .row 3 (D.ints (p.vars.set 0 (l1D b (j + 1)))) :: (ar0 p [])) [(4, .ptr 5 0)] fun G => b7 (wp_ret ?_)))); exact F2 G [0, 1, 2, 3, 4, 6, 7, 8] (by show _ = mR [0, 1, 2, 3, 4, 6, 7, 8] (F7 b p j); unfold F7; rw [b61 (by omega) (by omega)] <;> rfl)
abbrev tyC (b : List UInt8) (j : Int) : k6 := ⟨56, [.ptr 0 0], [.box [.ref 1, iA j], dY b], [.box [.ref 1, iA ((bdD b j).2 + 1)], dY b] ++ oP (R1 b j), oA 2⟩
section
variable {b : List UInt8} {j : Int}
theorem b48 (h : pk b (bdD b j).2 4 = 0) : R1 b j = pgD b j := if_pos h
theorem b47 (h : ¬ pk b (bdD b j).2 4 = 0) (h2 : okI (pgD b j) = true) : R1 b j = af7 (pgD b j) := by rw [R1, if_neg h, if_pos h2]
theorem b46 (h : ¬ pk b (bdD b j).2 4 = 0) (h2 : okI (pgD b j) = false) : R1 b j = pgD b j := by rw [R1, if_neg h, if_neg (by rw [h2]; decide)]
end
abbrev aO2 (b : List UInt8) (j : Int) : List It := [.box [.ref 1, iA ((bdD b j).snd + 1)], dY b, .row 3 (D.ints (R1 b j).vars), .row 3 (D.ints (R1 b j).arrays), .tree (D.stmts (R1 b j).body)]
abbrev bg2 : It := .box [.v (.slice none 0 0), .v (.slice none 0 0), .v (.slice none 0 0)]
abbrev aF7 : It := .box [.ref 3, .ref 4, .tref 5]
abbrev aN4 (b : List UInt8) (j : Int) (r0 : List It) : List It := .row 3 (D.ints (pgD b j).vars) :: .row 3 (D.ints (pgD b j).arrays) :: .tree (D.stmts (pgD b j).body) :: r0
theorem aQ8 (b : List UInt8) (j : Int) (r0 : 0 ≤ j) (r1 : j ≤ 10000000) : k6.ok Tryz.prog (tyC b j) := by
  refine A2 20 Tryz.func56 [.box [.ref 1, iA j], dY b] [(0, .ptr 0 0)] fun G => ?_; have hk2 := bk0 b r0 r1; have hbd := bm3 b r0 r1; have hsz := bx0 b r0 r1; refine wp_seq (k8 G d9 [0, 1, 2] [.box [.ref 1, iA j], dY b, bg2] [(0, .ptr 0 0), (2, .ptr 2 0)] fun G => b7 (wp_seq (k8 G (s6 1 [0, 1] (a63 b j (by assumption) (by assumption))) [0, 1, 2, 11, 12, 13, 19] (.box [.ref 1, iA (bdD b j).snd] :: dY b :: bg2 :: (aN4 b j [aF7])) [(0, .ptr 0 0), (2, .ptr 2 0), (3, .ptr 6 0)] fun G => b7 (wp_seq (wp_seq (k8 G (s6 1 [0, 1] (L5 b ((bdD b j).snd) 4 (by omega) (by omega))) (rg 7) (.box [.ref 1, iA ((bdD b j).snd + 1)] :: dY b :: bg2 :: (aN4 b j [aF7])) [(2, .ptr 2 0), (3, .ptr 6 0), (10, bA (pk b (bdD b j).snd 4 == 0))] fun G => b7 (P9 G (fun h0 q0 => ?_) fun h0 q0 => ?_)))))))
  ·
   refine wp_skip (b7 (wp_seq (k8 G (s6 1 [3, 4, 5] (k6.lend (aN1 (pgD b j) (by omega)) [.row 3, .row 3, .tree])) [0, 1, 2, 3, 4, 5, 6, 15, 16, 17, 47] (.box [.ref 1, iA ((bdD b j).snd + 1)] :: dY b :: bg2 :: (aN4 b j [aF7, .row 3 (D.ints (af7 (pgD b j)).vars), .row 3 (D.ints (af7 (pgD b j)).arrays), .tree (D.stmts (af7 (pgD b j)).body), .box [.ref 7, .ref 8, .tref 9]])) [(2, .ptr 2 0), (3, .ptr 6 0), (4, .ptr 10 0), (5, bA (okI (pgD b j)))] fun G => b7 (wp_seq (wp_seq (l5 G d9 [(17, bA (okI (pgD b j)))] fun G => b7 (rcB G (fun h1 => ?_) fun h1 => ?_)))))))
   · refine wp_skip (b7 (wp_seq (k8 G d9 (rg 6) (.box [.ref 1, iA ((bdD b j).snd + 1)] :: dY b :: aF7 :: (aN4 b j [])) [(2, .ptr 2 0)] fun G => b7 (wp_ret ?_)))); exact F2 G [0, 1, 3, 4, 5] (by show _ = mR [0, 1, 3, 4, 5] (aO2 b j); unfold aO2; rw [b46 (by omega) (by with_reducible assumption)] <;> rfl)
   · refine wp_seq (k8 G d9 (rg 10) (.box [.ref 1, iA ((bdD b j).snd + 1)] :: dY b :: .box [.ref 7, .ref 8, .tref 9] :: (aN4 b j [aF7, .row 3 (D.ints (af7 (pgD b j)).vars), .row 3 (D.ints (af7 (pgD b j)).arrays), .tree (D.stmts (af7 (pgD b j)).body)])) [(2, .ptr 2 0), (3, .ptr 6 0)] fun G => b7 (wp_ret (l7 ?_))); exact F2 G [0, 1, 7, 8, 9] (by show _ = mR [0, 1, 7, 8, 9] (aO2 b j); unfold aO2; rw [b47 (by omega) (by with_reducible assumption)] <;> rfl)
  · refine wp_seq (k8 G d9 (rg 7) (.box [.ref 1, iA ((bdD b j).snd + 1)] :: dY b :: aF7 :: (aN4 b j [aF7])) [(2, .ptr 2 0), (3, .ptr 6 0)] fun G => b7 (wp_ret (l7 ?_))); exact F2 G [0, 1, 3, 4, 5] (by show _ = mR [0, 1, 3, 4, 5] (aO2 b j); unfold aO2; rw [b48 (by omega)] <;> rfl)
end Go.Proofs.YthikdkjjdeehoaaGreat

namespace Go.Proofs.YthikdkjjdeehoaaGreat
set_option linter.unusedVariables false
set_option linter.unusedSimpArgs false
open Go Go.RowKit
section
variable (vs ars : List Int) (bd : List b6)
theorem bE6 (hb : i5 bd ≤ 1048576) : k6.ok Tryz.prog (F6 20 [pA 0] [dI vs, dI ars, dT bd] (.tup [iA (ctR ⟨vs, ars, bd⟩).1, iA (ctR ⟨vs, ars, bd⟩).2])) := aj5 ⟨vs, ars, bd⟩ hb
end
abbrev fpC (b : List UInt8) (j : Int) : k6 := ⟨92, [.ptr 0 0], [.box [.ref 1, iA j], dY b], [.box [.ref 1, iA (P4 b 3 j).2], dY b] ++ oP (P4 b 3 j).1, oA 2⟩
theorem bC3 {b : List UInt8} {j : Int} {i : Nat} (hi : i < 3) (h : P4 b 3 j = P4 b (3 - i) (M4 b j i)) (hn : ¬ ((C7 ⟨(R1 b (M4 b j i)).vars, (R1 b (M4 b j i)).arrays, (R1 b (M4 b j i)).body⟩ false).1 = 0 ∧ 0 < (R1 b (M4 b j i)).body.length)) : i + 1 ≤ 3 ∧ P4 b 3 j = P4 b (3 - (i + 1)) (M4 b j (i + 1)) := ⟨hi, b26 hi h hn⟩
theorem bK1 {b : List UInt8} {j : Int} {i : Nat} (hi : i < 3) (h : P4 b 3 j = P4 b (3 - i) (M4 b j i)) (hn : (C7 ⟨(R1 b (M4 b j i)).vars, (R1 b (M4 b j i)).arrays, (R1 b (M4 b j i)).body⟩ false).1 = 0 ∧ 0 < (R1 b (M4 b j i)).body.length) : P4 b 3 j = (R1 b (M4 b j i), (bdD b (M4 b j i)).2 + 1) := bU5 hi h hn
theorem tyb (b : List UInt8) {j : Int} (h : 0 ≤ j) (h2 : j ≤ 10000000) : i5 (R1 b j).body ≤ 1048576 ∧ (R1 b j).body.length ≤ 1048576 := by
 have h1 := a90 b h h2
 have h3 := C3 (R1 b j).body
 unfold d7.size at h1; omega
abbrev bg1 (b : List UInt8) (j : Int) : List It := [.box [.ref 1, iA (P4 b 3 j).snd], dY b, .row 3 (D.ints (P4 b 3 j).fst.vars), .row 3 (D.ints (P4 b 3 j).fst.arrays), .tree (D.stmts (P4 b 3 j).fst.body)]
abbrev aZ6 : It := .box [.v (.slice none 0 0), .v (.slice none 0 0), .v (.slice none 0 0)]
theorem aA3 (b : List UInt8) (j : Int) (r0 : 0 ≤ j) (r1 : j ≤ 9000000) : k6.ok Tryz.prog (fpC b j) := by
  refine A2 29 Tryz.func92 [.box [.ref 1, iA j], dY b] [(0, .ptr 0 0)] fun G => ?_; refine wp_seq (k8 G d9 [0, 1, 2] [.box [.ref 1, iA j], dY b, aZ6] [(0, .ptr 0 0), (2, .ptr 2 0)] fun G => b7 (wp_seq (wp_seq (C9 G d9 [(0, .ptr 0 0), (2, .ptr 2 0), (3, iA 0)] fun G => b7 (wp_block ?_))))); refine o9 (κ := Nat) (fun i => i ≤ 3 ∧ P4 b 3 j = P4 b (3 - i) (M4 b j i)) (fun i => 3 - i) (fun i => [.box [.ref 1, iA (M4 b j i)], dY b, aZ6]) (fun i => [(0, .ptr 0 0), (2, .ptr 2 0), (3, iA i)]) 0 (⟨cc1 _, rfl⟩) (s5.at G _ _) ?_; clear G; intro i ρ a w hp G; have hp := hp; have hfj := b25 b r0 r1 i hp.1; have htb := tyb b (j := M4 b j i) (by omega) (by omega); refine wp_seq (wp_seq (l5 G d9 [(8, bA (decide ((i : Int) < 3)))] fun G => b7 (O0 G (fun h0 q0 => ?_) fun h0 q0 => ?_)))
  · refine wp_exit (o5 (o5 (n9 (b7 (wp_seq (k8 G (s6 1 [0, 1] (aQ8 b (M4 b j i) (by omega) (by omega))) [0, 1, 2, 11, 12, 13] [.box [.ref 1, iA ((bdD b (M4 b j i)).snd + 1)], dY b, .box [.ref 3, .ref 4, .tref 5], .row 3 (D.ints (R1 b (M4 b j i)).vars), .row 3 (D.ints (R1 b (M4 b j i)).arrays), .tree (D.stmts (R1 b (M4 b j i)).body)] [(2, .ptr 2 0)] fun G => b7 (wp_ret ?_))))))); exact F2 G [0, 1, 3, 4, 5] (by show _ = mR [0, 1, 3, 4, 5] (bg1 b j); unfold bg1; rw [bK0 (b := b) (j := j) (i := i) (by omega) (by omega) hp.2] <;> rfl)
  ·
   refine wp_skip (b7 (wp_seq (wp_block (wp_seq (k8 G (s6 1 [0, 1] (aQ8 b (M4 b j i) (by omega) (by omega))) [0, 1, 2, 11, 12, 13, 19] [.box [.ref 1, iA ((bdD b (M4 b j i)).snd + 1)], dY b, aZ6, .row 3 (D.ints (R1 b (M4 b j i)).vars), .row 3 (D.ints (R1 b (M4 b j i)).arrays), .tree (D.stmts (R1 b (M4 b j i)).body), .box [.ref 3, .ref 4, .tref 5]] [(0, .ptr 0 0), (2, .ptr 2 0), (3, iA i), (4, .ptr 6 0)] fun G => b7 (wp_seq (l5 G (s6 1 [3, 4, 5] (k6.lend (U5 ((R1 b (M4 b j i)).vars) ((R1 b (M4 b j i)).arrays) ((R1 b (M4 b j i)).body) htb.1) [.row 3, .row 3, .tree])) [(5, iA (C7 (d7.mk (R1 b (M4 b j i)).vars (R1 b (M4 b j i)).arrays (R1 b (M4 b j i)).body) false).fst)] fun G => b7 (wp_seq ?_)))))))); cases h1 : ((C7 (d7.mk (R1 b (M4 b j i)).vars (R1 b (M4 b j i)).arrays (R1 b (M4 b j i)).body) false).fst == 0)
   · have q1 := ne_of_beq_false h1; refine l5 G (O2 (fc h1 fz) (us [(3, 6, 0), (1007, 1007, 0)])) [(25, bA false)] fun G => b7 (rF G false (by kernel_rfl) (wp_skip (m6 (b7 (O1 G d9 [0, 1, 2] [.box [.ref 1, iA ((bdD b (M4 b j i)).snd + 1)], dY b, aZ6] [(0, .ptr 0 0), (2, .ptr 2 0), (3, iA ((i : Int) + 1))] [wO ((i : Int) + 1)] (o1 (by omega)) fun G => b7 ?_))))); exact M8 G (i + 1) (bC3 (by omega) hp.2 (by omega)) (by omega) [0, 1, 2]
   ·
    have q1 := eq_of_beq h1; refine l5 G (O2 (fc h1 fz) (us [(3, 6, 0), (1007, 1007, 0)])) [(25, bA (decide (((R1 b (M4 b j i)).body.length : Int) > 0)))] fun G => b7 (O0 G (fun h2 q2 => ?_) fun h2 q2 => ?_)
    · refine wp_skip (m6 (b7 (O1 G d9 [0, 1, 2] [.box [.ref 1, iA ((bdD b (M4 b j i)).snd + 1)], dY b, aZ6] [(0, .ptr 0 0), (2, .ptr 2 0), (3, iA ((i : Int) + 1))] [wO ((i : Int) + 1)] (o1 (by omega)) fun G => b7 ?_))); exact M8 G (i + 1) (bC3 (by omega) hp.2 (by omega)) (by omega) [0, 1, 2]
    · refine wp_seq (k8 G d9 (rg 6) [.box [.ref 1, iA ((bdD b (M4 b j i)).snd + 1)], dY b, .box [.ref 3, .ref 4, .tref 5], .row 3 (D.ints (R1 b (M4 b j i)).vars), .row 3 (D.ints (R1 b (M4 b j i)).arrays), .tree (D.stmts (R1 b (M4 b j i)).body)] [(0, .ptr 0 0), (2, .ptr 2 0), (3, iA i)] fun G => b7 (wp_ret (A0 (l7 (l7 (A0 (l7 ?_))))))); exact F2 G [0, 1, 3, 4, 5] (by show _ = mR [0, 1, 3, 4, 5] (bg1 b j); unfold bg1; rw [bK1 (b := b) (j := j) (i := i) (by omega) hp.2 (by omega)] <;> rfl)
def dnX (b : List UInt8) : d7 := (mtD b (P4 b 3 0).1 (P4 b 3 0).2).1
theorem fi0 (b : List UInt8) : 0 ≤ (P4 b 3 0).2 ∧ (P4 b 3 0).2 ≤ 700000 ∧ (P4 b 3 0).1.size ≤ 1000000 := by
 have := bU6 b 3 0 (b99 _) (by omega) (by omega); omega
theorem ax0 (c : List UInt8) (hc : c.length ≤ 2000) : k6.ok Tryz.prog ⟨38, [.ref 0], [dY c], [dY c] ++ oP (dnX c), oA 1⟩ := by
 refine A2 10 Tryz.func38 [dY c] [(0, .ref 0)] fun G => ?_; have hfi := fi0 c; refine wp_seq (k8 G d9 [0, 1] [dY c, .box [.v (.slice none 0 0), .v (.slice none 0 0), .v (.slice none 0 0)]] [(0, .ref 0), (2, .ptr 1 0)] fun G => b7 (wp_seq (k8 G (s6 1 [0] (be5 c (by assumption))) [0, 1, 10] [dY c, .box [.v (.slice none 0 0), .v (.slice none 0 0), .v (.slice none 0 0)], .box [.ref 0, iA 0]] [(2, .ptr 1 0), (3, .ptr 2 0)] fun G => b7 (wp_seq (k8 G (t6 (l8 2 [2, 0] (aA3 c 0 (by omega) (by omega)) (l8 3 [2, 0, 19, 20, 21] (k6.lend (aK8 c ((P4 c 3 0).fst) ((P4 c 3 0).snd) hfi.2.2 (by omega) (by omega)) [.no, .no, .row 3, .row 3, .tree]) t5)) fz []) [0, 1, 27, 28, 29] [dY c, .box [.ref 2, .ref 3, .tref 4], .row 3 (D.ints (mtD c (P4 c 3 0).fst (P4 c 3 0).snd).fst.vars), .row 3 (D.ints (mtD c (P4 c 3 0).fst (P4 c 3 0).snd).fst.arrays), .tree (D.stmts (mtD c (P4 c 3 0).fst (P4 c 3 0).snd).fst.body)] [(2, .ptr 1 0)] fun G => b7 (wp_ret ?_)))))); exact F2 G [0, 2, 3, 4]
abbrev bs4 (c : List UInt8) := mtD (List.drop 0 (b96 2000 c)) (P4 (List.drop 0 (b96 2000 c)) 3 0).fst (P4 (List.drop 0 (b96 2000 c)) 3 0).snd
theorem aw9 (c : List UInt8) (hc : 2000 < c.length) : k6.ok Tryz.prog ⟨38, [.ref 0], [dY c], [dY c] ++ oP (dnX ((c.take 2000).drop 0)), oA 1⟩ := by
 refine A2 10 Tryz.func38 [dY c] [(0, .ref 0)] fun G => ?_; have hfi := fi0 ((c.take 2000).drop 0); refine wp_seq (k8 G d9 [0, 1] [dY c, .box [.v (.slice none 0 0), .v (.slice none 0 0), .v (.slice none 0 0)]] [(0, .ref 0), (2, .ptr 1 0)] fun G => b7 (wp_seq (k8 G (s6 1 [0] (be4 c (by assumption))) [0, 1, 10, 11] [dY c, .box [.v (.slice none 0 0), .v (.slice none 0 0), .v (.slice none 0 0)], .box [.ref 3, iA 0], dY (List.drop 0 (b96 2000 c))] [(2, .ptr 1 0), (3, .ptr 2 0)] fun G => b7 (wp_seq (k8 G (t6 (l8 2 [2, 3] (aA3 (List.drop 0 (b96 2000 c)) 0 (by omega) (by omega)) (l8 3 [2, 3, 20, 21, 22] (k6.lend (aK8 (List.drop 0 (b96 2000 c)) ((P4 (List.drop 0 (b96 2000 c)) 3 0).fst) ((P4 (List.drop 0 (b96 2000 c)) 3 0).snd) hfi.2.2 (by omega) (by omega)) [.no, .no, .row 3, .row 3, .tree]) t5)) fz []) [0, 1, 28, 29, 30] [dY c, .box [.ref 2, .ref 3, .tref 4], .row 3 (D.ints (bs4 c).fst.vars), .row 3 (D.ints (bs4 c).fst.arrays), .tree (D.stmts (bs4 c).fst.body)] [(2, .ptr 1 0)] fun G => b7 (wp_ret ?_)))))); exact F2 G [0, 2, 3, 4]
theorem aA8 (c : List UInt8) : k6.ok Tryz.prog ⟨38, [.ref 0], [dY c], [dY c] ++ oP (l0 c), oA 1⟩ := by
 by_cases h : c.length ≤ 2000
 ·have e : l0 c = dnX c := by unfold l0 dnX bsD; rw [ca3 h]
  rw [e]; exact ax0 c h
 ·exact aw9 c (by omega)
end Go.Proofs.YthikdkjjdeehoaaGreat

namespace Go.Proofs.YthikdkjjdeehoaaGreat
set_option linter.unusedVariables false
set_option linter.unusedSimpArgs false
end Go.Proofs.YthikdkjjdeehoaaGreat

namespace Go.Proofs.YthikdkjjdeehoaaGreat
set_option linter.unusedVariables false
set_option linter.unusedSimpArgs false
open Go Go.RowKit
section
variable {ss : List b6} {k : Nat}
end
end Go.Proofs.YthikdkjjdeehoaaGreat

namespace Go.Proofs.YthikdkjjdeehoaaGreat
set_option linter.unusedVariables false
set_option linter.unusedSimpArgs false
open Go Go.RowKit
theorem aA0 {f g : b5 → Int} (ks : List b5) : ∀ (a : Int), (∀ k ∈ ks, f k = g k) → ks.foldl (fun a k => i6 a (f k)) a = ks.foldl (fun a k => i6 a (g k)) a := by
 induction ks with
 | nil => intro a _; simp only [List.foldl_nil]
 | cons k t ih =>
  intro a h
  simp only [List.foldl_cons]
  rw [h k ca1]
  exact ih _ fun q hq => h q (ca8 _ hq)
theorem bA0 {vs ars : List Int} (nv na : Nat) : ∀ (n : Nat) (e : b5), f5 nv na n e = true → b9 vs ars (n + 1) e = b9 vs ars n e
 | 0, _, h => by simp [f5] at h
 | n + 1, e, h => by
  rw [f5, b86, b86] at h
  rw [b9]
  conv => rhs; rw [b9]
  exact aA0 (f := b9 vs ars (n + 1)) (g := b9 vs ars n) e.kids _ fun k hk => bA0 nv na n k (b93.1 h.1.2 k hk)
theorem a44 {f : b5 → Int} : ∀ (ks : List b5) (a : Int), w7 a (ks.foldl (fun a k => i6 a (f k)) a) ∧ ∀ k ∈ ks, w7 (f k) (ks.foldl (fun a k => i6 a (f k)) a)
 | [], a => ⟨w7.refl a, fun k hk => by cases hk⟩
 | k :: t, a => by
  obtain ⟨h1, h2⟩ := a44 (f := f) t (i6 a (f k))
  simp only [List.foldl_cons]
  refine ⟨(J4 _ _).trans h1, fun q hq => ?_⟩
  rcases cb7.1 hq with rfl | hq
  ·exact (ai8 _ _).trans h1
  ·exact h2 q hq
theorem br7 {nv na n : Nat} {a : b5} (hs : f5 nv na n a = true) (hr : atomB a = true) : a.kids = [] := by
 cases n with
 | zero => simp [f5] at hs
 | succ m =>
  rw [f5, b86, b86] at hs
  have h1 := hs.1.1
  simp only [y7, b86, decide_eq_true_eq] at h1
  have h2 := h1.1.1
  unfold atomB at hr
  simp only [Bool.or_eq_true, decide_eq_true_eq] at hr
  unfold m9 at h2
  rw [if_pos hr] at h2
  exact ca0 (by omega)
section
variable {p : d7} {l k : Int} (h : m0 p = true) (hl : d8 l = true)
include h hl
end
section
variable {p : d7} {l : Int}
end
end Go.Proofs.YthikdkjjdeehoaaGreat

namespace Go.Proofs.YthikdkjjdeehoaaGreat
set_option linter.unusedVariables false
set_option linter.unusedSimpArgs false
open Go Go.RowKit
theorem bc1 {a b : Int} (ha : d8 a = true) (hb : d8 b = true) (h : w7 a b) : (b ≤ 1 → a ≤ 1) ∧ (b = 0 → a = 0) ∧ (x5 a = true → x5 b = true) := by
 unfold d8 at ha hb
 simp only [b86, decide_eq_true_eq] at ha hb
 have h1 : a = 0 ∨ a = 1 ∨ a = 2 ∨ a = 3 := by omega
 have h2 : b = 0 ∨ b = 1 ∨ b = 2 ∨ b = 3 := by omega
 unfold w7 bv at h
 rcases h1 with rfl | rfl | rfl | rfl <;> rcases h2 with rfl | rfl | rfl | rfl <;> revert h <;> decide +kernel
section
variable {vs ars : List Int} (hv : vs.all d8 = true) (ha : ars.all d8 = true)
include hv ha
end
def X6 (a b : List Int) : Prop := a.length ≤ b.length ∧ ∀ i, i < a.length → b.getD i 0 = a.getD i 0
theorem X6.refl (a : List Int) : X6 a a := ⟨b99 _, fun _ _ => rfl⟩
theorem X6.trans {a b c : List Int} (h : X6 a b) (k : X6 b c) : X6 a c := ⟨ca7 h.1 k.1, fun i hi => (k.2 i (Nat.lt_of_lt_of_le hi h.1)).trans (h.2 i hi)⟩
theorem X6.app (a b : List Int) : X6 a (a ++ b) := ⟨by simp, fun i hi => by simp [b91, ca9 hi]⟩
theorem X6.at {a b c : List Int} {x : Int} (h : X6 (a ++ x :: b) c) : c.getD a.length 0 = x := by
 rw [h.2 a.length (by simp)]; simp [b91]
mutual
theorem ai6 (ars : List Int) (pc : Int) : ∀ (e : b5) (s : U6), X6 s.1 (b8 ars pc e s).1.1
 | ⟨k, v, ks⟩, s => by
  have h := ax3 ars pc ks s
  rw [b8]
  split
  ·exact h.trans (X6.app _ _)
  ·exact h
theorem ax3 (ars : List Int) (pc : Int) : ∀ (ks : List b5) (s : U6), X6 s.1 (o0 ars pc ks s).1.1
 | [], s => X6.refl _
 | e :: t, s => by rw [o0]; exact (ai6 ars pc e s).trans (ax3 ars pc t _)
end
mutual
theorem aJ2 (ars : List Int) : ∀ (s : b6) (m pc : Int) (x : U6), X6 x.1 (r7 ars s m pc x).1
 | ⟨k, t, i, v, c, b, e⟩, m, pc, x => by
  have h := ai6 ars pc v x
  rw [r7]
  split
  ·exact F3 ars b m pc (x.1, [])
  ·split
   ·split
    ·refine (h.trans ?_).trans ((F3 ars b _ _ _).trans (F3 ars e _ _ _))
     exact (X6.app _ _).trans (X6.app _ _)
    ·exact h.trans ((F3 ars b m _ ((b8 ars pc v x).1.1, [])).trans (F3 ars e m _ (_, [])))
   ·split
    ·exact h
    ·split
     ·exact h
     ·split
      ·exact h.trans (X6.app _ _)
      ·exact h
theorem F3 (ars : List Int) : ∀ (ss : List b6) (m pc : Int) (x : U6), X6 x.1 (i8 ars ss m pc x).1
 | [], _, _, x => X6.refl _
 | s :: r, m, pc, x => by rw [i8]; exact (aJ2 ars s m pc x).trans (F3 ars r m pc _)
end
theorem N1 {vs VS ars : List Int} {na : Nat} (h : X6 vs VS) : ∀ (d : Nat) (e : b5), f5 vs.length na d e = true → b9 VS ars d e = b9 vs ars d e
 | 0, _, hs => by simp [f5] at hs
 | d + 1, e, hs => by
  have ho : U2 VS ars e = U2 vs ars e := by
   unfold U2
   split
   ·rename_i k; exact h.2 _ (P0 hs k).2.2
   ·rfl
  rw [f5] at hs
  simp only [b86, b93] at hs
  rw [b9, b9, ho, aA0 e.kids _ fun k hk => N1 h d k (hs.1.2 k hk)]
theorem aJ4 {vs ars : List Int} {nv na : Nat} {e : b5} {c d : Nat} (hcd : c ≤ d) (h : f5 nv na c e = true) : b9 vs ars d e = b9 vs ars c e := by
 induction d with
 | zero => rw [show c = 0 by omega]
 | succ d ih =>
  rcases cc0 c (d + 1) with hl | hl
  ·rw [bA0 nv na d e (aH1 (by omega) h), ih (by omega)]
  ·rw [show c = d + 1 by omega]
section
variable {VS ars : List Int} (hv : VS.all d8 = true) (ha : ars.all d8 = true)
theorem a43 {f : b5 → Int} {Z : Int} : ∀ (ks : List b5) (a : Int), w7 a Z → (∀ k ∈ ks, w7 (f k) Z) → w7 (ks.foldl (fun a k => i6 a (f k)) a) Z
 | [], _, h, _ => h
 | k :: r, a, h, hk => a43 r (i6 a (f k)) (at3 h (hk k ca1)) fun x hx => hk x (ca8 _ hx)
theorem ad3 {vs ars : List Int} {Z : Int} {d : Nat} {e : b5} (h : w7 (U2 vs ars e) Z) (hk : ∀ k ∈ e.kids, w7 (b9 vs ars d k) Z) : w7 (b9 vs ars (d + 1) e) Z := by
 rw [b9]; exact a43 e.kids _ h hk
theorem bc3 {vs ars : List Int} {d : Nat} {e : b5} : w7 (U2 vs ars e) (b9 vs ars (d + 1) e) ∧ ∀ k ∈ e.kids, w7 (b9 vs ars d k) (b9 vs ars (d + 1) e) := by
 rw [b9]; exact a44 e.kids _
theorem bQ0 {x y : Int} (hx : d8 x = true) (hy : d8 y = true) (h : w7 x y) : flB x y = true := by unfold flB; rw [hx, hy, bx3 h hy]; simp
theorem bC2 {x y : Int} (h : flB x y = true) : d8 x = true ∧ d8 y = true ∧ w7 x y := by
 unfold flB at h
 simp only [b86, beq_iff_eq] at h
 exact ⟨h.1.1, h.1.2, bz7 h.2⟩
theorem aH6 {a b : Int} (ha : d8 a = true) (hb : d8 b = true) (h : w7 a b) (hs : x5 b = false) : x5 a = false := by
 cases h1 : x5 a
 ·rfl
 ·rw [(bc1 ha hb h).2.2 h1] at hs; cases hs
theorem bG7 : x5 0 = false := by decide +kernel
theorem bA1 : d8 0 = true := by decide +kernel
def Qok (VS ars : List Int) (pco : Int) (t : b6) : Prop := ∀ n strict, cdS VS ars strict n pco t = 0
theorem aM0 {s : b6} {pco : Int} (hf : F5 ⟨VS, ars, []⟩ s pco = 0) (hl : W4 ⟨VS, ars, []⟩ s = 0) (hb : ∀ t ∈ s.body, Qok VS ars (D9 ⟨VS, ars, []⟩ s pco) t) (he : ∀ t ∈ s.els, Qok VS ars (D9 ⟨VS, ars, []⟩ s pco) t) : Qok VS ars pco s := by
 intro n strict
 cases n with
 | zero => rfl
 | succ n =>
  refine au8.2 ⟨?_, fun t ht => hb t ht n strict, fun t ht => he t ht n strict⟩
  unfold K2
  rw [if_pos hf]
  cases strict
  ·rfl
  ·exact hl
theorem at7 {k t c : Int} {i v : b5} {b e : List b6} (h3 : k = 3 → x5 (b9 VS ars 5 v) = false) (h4 : k ≠ 4 → p6 VS ars 5 v = false) (h2 : k = 2 → x5 (b9 VS ars 5 i) = false) : W4 ⟨VS, ars, []⟩ ⟨k, t, i, v, c, b, e⟩ = 0 := by
 show (if k = 3 ∧ x5 (b9 VS ars 5 v) = true then (3 : Int) else if (k ≠ 4 ∧ p6 VS ars 5 v = true) ∨ (k = 2 ∧ x5 (b9 VS ars 5 i) = true) then 4 else 0) = 0
 have n1 : ¬ (k = 3 ∧ x5 (b9 VS ars 5 v) = true) := fun h => by
  have h5 := h.2
  rw [h3 h.1] at h5; cases h5
 have n2 : ¬ ((k ≠ 4 ∧ p6 VS ars 5 v = true) ∨ (k = 2 ∧ x5 (b9 VS ars 5 i) = true)) := by
  intro h
  rcases h with h | h
  ·have h5 := h.2
   rw [h4 h.1] at h5; cases h5
  ·have h5 := h.2
   rw [h2 h.1] at h5; cases h5
 rw [if_neg n1, if_neg n2]
include hv ha
theorem at9 (d : Nat) (e : b5) : d8 (b9 VS ars d e) = true := ad4 hv ha d e
theorem aR4 {v : Int} {e : b5} {pco : Int} (hp : d8 pco = true) (h1 : w7 (b9 VS ars 5 e) (VS.getD v.toNat 0)) (h2 : w7 pco (VS.getD v.toNat 0)) (hs : p6 VS ars 5 e = false) : Qok VS ars pco (J5 v e) := by
 refine aM0 ?_ (at7 (fun h => by cases h) (fun _ => hs) fun h => by cases h) (fun t ht => by cases ht) fun t ht => by cases ht
 show (if flB (i6 (b9 VS ars 5 e) pco) (VS.getD v.toNat 0) = true then (0 : Int) else 1) = 0
 rw [if_pos (bQ0 (T0 (at9 hv ha 5 e) hp) (N4 hv _) (at3 h1 h2))]
theorem bO1 {t : Int} {i e : b5} {pco : Int} (hp : d8 pco = true) (h1 : w7 (b9 VS ars 5 e) (ars.getD t.toNat 0)) (h2 : w7 pco (ars.getD t.toNat 0)) (h3 : w7 (b9 VS ars 5 i) (ars.getD t.toNat 0)) (hs : p6 VS ars 5 e = false) (hi : x5 (b9 VS ars 5 i) = false) : Qok VS ars pco ⟨2, t, i, e, 0, [], []⟩ := by
 refine aM0 ?_ (at7 (fun h => by cases h) (fun _ => hs) fun _ => hi) (fun t ht => by cases ht) fun t ht => by cases ht
 show (if flB (i6 (i6 (b9 VS ars 5 e) (b9 VS ars 5 i)) pco) (ars.getD t.toNat 0) = true then (0 : Int) else 1) = 0
 rw [if_pos (bQ0 (T0 (T0 (at9 hv ha 5 e) (at9 hv ha 5 i)) hp) (N4 ha _) (at3 (at3 h1 h3) h2))]
omit hv ha
theorem R8 (d : Nat) (n : Int) : b9 VS ars d (cnE n) = 0 := by cases d <;> rfl
theorem ah5 (d : Nat) (n : Int) : p6 VS ars d (cnE n) = false := by cases d <;> rfl
theorem ap6 (d : Nat) (n : Int) : b9 VS ars (d + 1) (vrE n) = VS.getD n.toNat 0 := rfl
theorem ao9 (d : Nat) (n : Int) : p6 VS ars d (vrE n) = false := by cases d <;> rfl
theorem bc2 {Z : Int} {a : Int} {i : b5} {d : Nat} (h1 : w7 (ars.getD a.toNat 0) Z) (h2 : w7 (b9 VS ars d i) Z) : w7 (b9 VS ars (d + 1) (rdE a i)) Z :=
 ad3 h1 fun k hk => by
  have hk : k ∈ [i] := hk
  rw [ca5] at hk; rw [hk]; exact h2
theorem a99 {a : Int} {i : b5} {d : Nat} (h1 : x5 (b9 VS ars d i) = false) (h2 : p6 VS ars d i = false) : p6 VS ars (d + 1) (rdE a i) = false := by
 refine aU7 ?_ h1
 show [i].any _ = false
 simp [h2]
theorem aX3 {Z : Int} {a b c : b5} {d : Nat} (h1 : w7 (b9 VS ars d a) Z) (h2 : w7 (b9 VS ars d b) Z) (h3 : w7 (b9 VS ars d c) Z) : w7 (b9 VS ars (d + 1) (seE a b c)) Z :=
 ad3 (G4 _) fun k hk => by
  have hk : k ∈ [a, b, c] := hk
  simp only [cb7, List.not_mem_nil, or_false] at hk
  rcases hk with rfl | rfl | rfl <;> assumption
theorem aU5 {a b c : b5} {d : Nat} (h1 : p6 VS ars d a = false) (h2 : p6 VS ars d b = false) (h3 : p6 VS ars d c = false) : p6 VS ars (d + 1) (seE a b c) = false := by
 refine ap0 ?_ (by show ¬ (11 : Int) = 3; decide)
 show [a, b, c].any _ = false
 simp [h1, h2, h3]
theorem aX5 {Z : Int} {i : b5} {k : Int} {d : Nat} (h : w7 (b9 VS ars d i) Z) : w7 (b9 VS ars (d + 2) (N3 i k)) Z :=
 ad3 (G4 _) fun x hx => by
  have hx : x ∈ [⟨7, 0, [i, cnE 3]⟩, cnE k] := hx
  simp only [cb7, List.not_mem_nil, or_false] at hx
  rcases hx with rfl | rfl
  ·refine ad3 (G4 _) fun y hy => ?_
   have hy : y ∈ [i, cnE 3] := hy
   simp only [cb7, List.not_mem_nil, or_false] at hy
   rcases hy with rfl | rfl
   ·exact h
   ·rw [R8]; exact G4 _
  ·rw [R8]; exact G4 _
theorem aU6 {i : b5} {k : Int} {d : Nat} (h : p6 VS ars d i = false) : p6 VS ars (d + 2) (N3 i k) = false := by
 refine ap0 ?_ (by show ¬ (9 : Int) = 3; decide)
 show [(⟨7, 0, [i, cnE 3]⟩ : b5), cnE k].any _ = false
 have h7 : p6 VS ars (d + 1) ⟨7, 0, [i, cnE 3]⟩ = false := by
  refine ap0 ?_ (by show ¬ (7 : Int) = 3; decide)
  show [i, cnE 3].any _ = false
  simp only [List.any_cons, List.any_nil, h, Bool.false_or, Bool.or_false]; exact ah5 d 3
 simp only [List.any_cons, List.any_nil, h7, Bool.false_or, Bool.or_false]; exact ah5 _ k
theorem R0 {nv na d : Nat} {i : b5} (hi : atomB i = true) (hs : f5 nv na (d + 1) i = true) (c : Nat) : b9 VS ars (c + 1) i = b9 VS ars (d + 1) i ∧ p6 VS ars c i = false := by
 have hk := br7 hs hi
 refine ⟨by simp only [b9, hk, List.foldl_nil], ?_⟩
 cases c with
 | zero => rfl
 | succ c =>
  unfold atomB at hi
  simp only [Bool.or_eq_true, decide_eq_true_eq] at hi
  exact ap0 (by rw [hk]; rfl) (by omega)
include hv ha
theorem bY9 {v a : Int} {i : b5} {pco : Int} {nv na d : Nat} (hp : d8 pco = true) (hi : atomB i = true) (hs : f5 nv na (d + 1) i = true) (h1 : w7 (ars.getD a.toNat 0) (VS.getD v.toNat 0)) (h2 : w7 (b9 VS ars (d + 1) i) (VS.getD v.toNat 0)) (h3 : w7 pco (VS.getD v.toNat 0)) :
  ∀ (n : Nat), ∀ t ∈ rdL v a i n, Qok VS ars pco t := by
 have rd0 : ∀ k : Int, ∀ c, w7 (b9 VS ars (c + 1) (rdE a (cnE k))) (VS.getD v.toNat 0) ∧ p6 VS ars (c + 1) (rdE a (cnE k)) = false := fun k c => ⟨bc2 h1 (by rw [R8]; exact G4 _), a99 (by rw [R8]; exact bG7) (ah5 _ _)⟩
 intro n
 induction n with
 | zero =>
  intro t ht
  rw [rdL, ca5] at ht
  subst ht
  exact aR4 hv ha hp (rd0 0 4).1 h3 (rd0 0 4).2
 | succ n ih =>
  intro t ht
  rw [rdL, ca2, ca5] at ht
  rcases ht with ht | rfl
  ·exact ih t ht
  ·refine aR4 hv ha hp (aX3 (aX5 (d := 2) ?_) (rd0 _ 3).1 (by rw [ap6]; exact w7.refl _)) h3 (aU5 (aU6 (d := 2) (R0 hi hs 2).2) (rd0 _ 3).2 (ao9 _ _))
   rw [(R0 hi hs 1).1]; exact h2
theorem aX0 {pc pco : Int} {na : Nat} (hpc : d8 pc = true) (hpo : d8 pco = true) (hle : w7 pco pc) : ∀ (d : Nat), d ≤ 5 → ∀ (e : b5) (s : U6), f5 s.1.length na d e = true → X6 (b8 ars pc e s).1.1 VS → (∀ t ∈ s.2, Qok VS ars pco t) →
  w7 (b9 VS ars d (b8 ars pc e s).2) (i6 (b9 VS ars d e) pc) ∧ p6 VS ars d (b8 ars pc e s).2 = false ∧ ∀ t ∈ (b8 ars pc e s).1.2, Qok VS ars pco t
 | 0, _, _, _, hs, _, _ => by simp [f5] at hs
 | d + 1, hd, e, s, hs, hx, hq => by
  have key : ∀ (ks : List b5) (s : U6) (Z : Int), (∀ x ∈ ks, f5 s.1.length na d x = true) → X6 (o0 ars pc ks s).1.1 VS → (∀ t ∈ s.2, Qok VS ars pco t) → (∀ x ∈ ks, w7 (b9 VS ars d x) Z) → w7 pc Z →
    (∀ x ∈ (o0 ars pc ks s).2, w7 (b9 VS ars d x) Z ∧ p6 VS ars d x = false) ∧ ∀ t ∈ (o0 ars pc ks s).1.2, Qok VS ars pco t := by
   intro ks
   induction ks with
   | nil => intro s Z _ _ hq _ _; exact ⟨fun x hx => (by cases hx), hq⟩
   | cons x r ih =>
    intro s Z h hx hq hZ hpZ
    rw [o0] at hx ⊢
    obtain ⟨a1, a2, a3⟩ := aX0 hpc hpo hle d (by omega) x s (h x ca1) ((ax3 ars pc r _).trans hx) hq
    obtain ⟨b1, b2⟩ := ih (b8 ars pc x s).1 Z (fun y hy => x4 (ai6 ars pc x s).1 d y (h y (ca8 _ hy))) hx a3 (fun y hy => hZ y (ca8 _ hy)) hpZ
    refine ⟨fun y hy => ?_, b2⟩
    rcases cb7.1 hy with rfl | hy
    ·exact ⟨a1.trans (at3 (hZ x ca1) hpZ), a2⟩
    ·exact b1 y hy
  have hs0 := hs
  rw [f5] at hs
  simp only [b86, b93] at hs
  rw [ai7] at hx ⊢
  have hin := bc3 (vs := VS) (ars := ars) (d := d) (e := e)
  by_cases hc : e.kind = 3 ∧ x5 (b9 (o0 ars pc e.kids s).1.1 ars 5 (e.kids.getD 0 b85)) = true
  ·rw [if_pos hc] at hx ⊢
   obtain ⟨i, h1, h2, h3, h4⟩ := ah8 hc.1 hs0
   have hr := ah7 (ars := ars) (pc := pc) (s := s) hc.1 hs0
   have e0 : e.kids.getD 0 b85 = i := by rw [h1]; rfl
   rw [hr, e0] at hx ⊢
   have hx : X6 (s.1 ++ [i6 (b9 s.1 ars 5 e) pc]) VS := hx
   have hxs : X6 s.1 VS := (X6.app _ _).trans hx
   have hl : VS.getD s.1.length 0 = i6 (b9 VS ars (d + 1) e) pc := by
    rw [hx.at, aJ4 hd hs0, N1 hxs (d + 1) e hs0]
   obtain ⟨d', rfl⟩ : ∃ d', d = d' + 1 := by
    cases d with
    | zero => simp [f5] at h3
    | succ d' => exact ⟨d', rfl⟩
   refine ⟨?_, ao9 _ _, fun t ht => ?_⟩
   ·show w7 (b9 VS ars (d' + 1 + 1) (vrE (s.1.length : Int))) _
    rw [ap6, Int.toNat_natCast, hl]; exact w7.refl _
   ·rcases ca2.1 ht with ht | ht
    ·exact hq t ht
    ·refine bY9 hv ha hpo h2 h3 ?_ ?_ ?_ 3 t ht
     ·rw [Int.toNat_natCast, hl]
      refine w7.trans ?_ (J4 _ _)
      have := hin.1
      unfold U2 at this
      rw [if_neg (by omega), if_pos hc.1] at this
      exact this
     ·rw [Int.toNat_natCast, hl]
      exact (hin.2 i (by rw [h1]; exact ca5.2 rfl)).trans (J4 _ _)
     ·rw [Int.toNat_natCast, hl]; exact hle.trans (ai8 _ _)
  ·rw [if_neg hc] at hx ⊢
   obtain ⟨b1, b2⟩ := key e.kids s (i6 (b9 VS ars (d + 1) e) pc) hs.1.2 hx hq (fun x hx => (hin.2 x hx).trans (J4 _ _)) (ai8 _ _)
   refine ⟨ad3 (hin.1.trans (J4 _ _)) fun x hx => (b1 x hx).1, ?_, b2⟩
   have hany : (o0 ars pc e.kids s).2.any (p6 VS ars d) = false := by
    rw [List.any_eq_false]; intro x hx; rw [(b1 x hx).2]; decide
   by_cases k : e.kind = 3
   ·refine aU7 hany ?_
    obtain ⟨i, h1, h2, h3, h4⟩ := ah8 k hs0
    have hr := ah7 (ars := ars) (pc := pc) (s := s) k hs0
    have e0 : e.kids.getD 0 b85 = i := by rw [h1]; rfl
    rw [hr] at hc hx
    rw [e0] at hc
    show x5 (b9 VS ars d ((o0 ars pc e.kids s).2.getD 0 b85)) = false
    rw [hr]
    show x5 (b9 VS ars d (e.kids.getD 0 b85)) = false
    have hx : X6 s.1 VS := hx
    rw [e0, N1 hx d i h3, ← aJ4 (show d ≤ 5 by omega) h3]
    cases h5 : x5 (b9 s.1 ars 5 i)
    ·rfl
    ·exact absurd ⟨k, h5⟩ hc
   ·exact ap0 hany k
end
theorem bd4 {vs VS ars : List Int} (h : X6 vs VS) : ∀ (d : Nat) (s : b6) (pc : Int), f6 vs.length ars.length d s = true → cdS vs ars false d pc s = 0 → cdS VS ars false d pc s = 0
 | 0, _, _, hs, _ => by simp [f6] at hs
 | d + 1, s, pc, hs, hc => by
  rw [D8, b86, b86] at hs
  rw [au8, bi4] at hc ⊢
  have hin : D9 ⟨VS, ars, []⟩ s pc = D9 ⟨vs, ars, []⟩ s pc := by
   show (if s.kind = 3 then i6 pc (b9 VS ars 5 s.value) else pc) = (if s.kind = 3 then i6 pc (b9 vs ars 5 s.value) else pc)
   split
   ·rename_i k; rw [N1 h 5 _ (n5 hs.1 (by omega))]
   ·rfl
  rw [hin]
  refine ⟨?_, fun t ht => bd4 h d t _ (b93.1 hs.2.1 t ht) (hc.2.1 t ht), fun t ht => bd4 h d t _ (b93.1 hs.2.2 t ht) (hc.2.2 t ht)⟩
  rw [← hc.1]
  unfold F5
  split
  ·rename_i k
   show (if flB (i6 (b9 VS ars 5 s.value) pc) (VS.getD s.target.toNat 0) = true then (0 : Int) else 1) = (if flB (i6 (b9 vs ars 5 s.value) pc) (vs.getD s.target.toNat 0) = true then (0 : Int) else 1)
   rw [N1 h 5 _ (n5 hs.1 (by omega)), h.2 _ (W8 hs.1 (.inl k)).2.2]
  ·split
   ·rename_i k
    show (if flB (i6 (i6 (b9 VS ars 5 s.value) (b9 VS ars 5 s.index)) pc) (ars.getD s.target.toNat 0) = true then (0 : Int) else 1) = (if flB (i6 (i6 (b9 vs ars 5 s.value) (b9 vs ars 5 s.index)) pc) (ars.getD s.target.toNat 0) = true then (0 : Int) else 1)
    rw [N1 h 5 _ (n5 hs.1 (by omega)), N1 h 5 _ (W9 hs.1 k)]
   ·split
    ·rename_i k
     show (if ((d8 (b9 VS ars 5 s.value) && decide (b9 VS ars 5 s.value ≤ 1)) && decide (pc = 0)) = true then (0 : Int) else 2) = (if ((d8 (b9 vs ars 5 s.value) && decide (b9 vs ars 5 s.value ≤ 1)) && decide (pc = 0)) = true then (0 : Int) else 2)
     rw [N1 h 5 _ (n5 hs.1 (by omega))]
    ·rfl
theorem ax4 {ars : List Int} {pc : Int} {na : Nat} : ∀ (d : Nat), d ≤ 5 → ∀ (e : b5) (s : U6), f5 s.1.length na d e = true → p6 s.1 ars d e = false → b8 ars pc e s = (s, e)
 | 0, _, _, _, hs, _ => by simp [f5] at hs
 | d + 1, hd, e, s, hs, hn => by
  have key : ∀ ks : List b5, (∀ x ∈ ks, f5 s.1.length na d x = true ∧ p6 s.1 ars d x = false) → o0 ars pc ks s = (s, ks) := by
   intro ks
   induction ks with
   | nil => intro _; rfl
   | cons x r ih =>
    intro h
    have h1 := ax4 (pc := pc) d (by omega) x s (h x ca1).1 (h x ca1).2
    simp only [o0, h1, ih fun y hy => h y (ca8 _ hy)]
  have hs0 := hs
  rw [f5] at hs
  simp only [b86, b93] at hs
  rw [p6, Bool.or_eq_false_iff] at hn
  have hk := key e.kids fun x hx => ⟨hs.1.2 x hx, by
   have := List.any_eq_false.1 hn.2 x hx
   simpa using this⟩
  rw [ai7, hk, if_neg]
  ·simp only [b5.eta]
  ·rintro ⟨k, h5⟩
   obtain ⟨i, h1, h2, h3, h4⟩ := ah8 k hs0
   have e0 : e.kids.getD 0 b85 = i := by rw [h1]; rfl
   rw [e0] at h5 hn
   have h5 : x5 (b9 s.1 ars 5 i) = true := h5
   have h6 := hn.1
   rw [decide_eq_true k, Bool.true_and] at h6
   have h6 : x5 (b9 s.1 ars d i) = false := h6
   rw [← aJ4 (show d ≤ 5 by omega) h3, h5] at h6
   cases h6
section
variable {VS ars : List Int} (hv : VS.all d8 = true) (ha : ars.all d8 = true)
theorem aX4 : ∀ (d : Nat) (e : b5), w7 (b9 VS ars d e) (b9 VS ars (d + 1) e)
 | 0, _ => G4 _
 | d + 1, e => by
  have h := bc3 (vs := VS) (ars := ars) (d := d + 1) (e := e)
  exact ad3 h.1 fun k hk => (aX4 d k).trans (h.2 k hk)
include hv ha
theorem ba0 : ∀ (d : Nat) (e : b5), p6 VS ars (d + 1) e = false → p6 VS ars d e = false
 | 0, _, _ => rfl
 | d + 1, e, h => by
  rw [p6, Bool.or_eq_false_iff] at h ⊢
  refine ⟨?_, ?_⟩
  ·by_cases k : e.kind = 3
   ·have h1 := h.1
    rw [decide_eq_true k, Bool.true_and] at h1 ⊢
    exact aH6 (at9 hv ha _ _) (at9 hv ha _ _) (aX4 d _) h1
   ·rw [decide_eq_false k, Bool.false_and]
  ·rw [List.any_eq_false] at h ⊢
   intro x hx
   have h2 := h.2 x hx
   rw [ba0 d x (by simpa using h2)]; decide
theorem aH5 : ∀ (d : Nat) (e : b5), x5 (b9 VS ars d e) = false → p6 VS ars d e = false
 | 0, _, _ => rfl
 | d + 1, e, h => by
  have hin := bc3 (vs := VS) (ars := ars) (d := d) (e := e)
  rw [p6, Bool.or_eq_false_iff]
  refine ⟨?_, ?_⟩
  ·by_cases k : e.kind = 3
   ·rw [decide_eq_true k, Bool.true_and]
    by_cases hl : e.kids = []
    ·rw [hl]
     show x5 (b9 VS ars d b85) = false
     have : b9 VS ars d b85 = 0 := by cases d <;> rfl
     rw [this]; exact bG7
    ·obtain ⟨x, r, hx⟩ := List.exists_cons_of_ne_nil hl
     rw [hx]
     exact aH6 (at9 hv ha _ _) (at9 hv ha _ _) (hin.2 x (by rw [hx]; exact ca1)) h
   ·rw [decide_eq_false k, Bool.false_and]
  ·rw [List.any_eq_false]
   intro x hx
   rw [aH5 d x (aH6 (at9 hv ha _ _) (at9 hv ha _ _) (hin.2 x hx) h)]; decide
omit hv ha in
theorem aC1 {m : Int} {e f : b5} {Z : Int} (hm : m < 0 ∨ ∃ j : Nat, m = j ∧ w7 (VS.getD j 0) Z) (he : w7 (b9 VS ars 5 e) Z) (hf : w7 (b9 VS ars 5 f) Z) : w7 (b9 VS ars 5 (s4 m e f)) Z := by
 unfold s4
 split
 ·exact he
 ·rcases hm with hm | ⟨j, rfl, hj⟩
  ·omega
  ·exact aX3 (d := 4) (by rw [ap6]; exact hj) ((aX4 4 e).trans he) ((aX4 4 f).trans hf)
theorem aC0 {m : Int} {e f : b5} (he : p6 VS ars 5 e = false) (hf : p6 VS ars 5 f = false) : p6 VS ars 5 (s4 m e f) = false := by
 unfold s4
 split
 ·exact he
 ·exact aU5 (d := 4) (ao9 _ _) (ba0 hv ha 4 e he) (ba0 hv ha 4 f hf)
theorem bR0 {v t m : Int} {i : b5} {pco : Int} {nv na : Nat} (hp : d8 pco = true) (hi : atomB i = true) (hs : f5 nv na 5 i = true) (hm : m < 0 ∨ ∃ j : Nat, m = j ∧ w7 (VS.getD j 0) (ars.getD t.toNat 0)) (h1 : w7 (VS.getD v.toNat 0) (ars.getD t.toNat 0)) (h2 : w7 (b9 VS ars 5 i) (ars.getD t.toNat 0)) (h3 : w7 pco (ars.getD t.toNat 0)) :
  ∀ (n : Nat), ∀ x ∈ U9 v t i m n, Qok VS ars pco x := by
 intro n
 induction n with
 | zero => intro x hx; cases hx
 | succ n ih =>
  intro x hx
  rw [U9, ca2, ca5] at hx
  rcases hx with hx | rfl
  ·exact ih x hx
  ·have hr := bc2 (VS := VS) (ars := ars) (a := t) (i := cnE (n : Int)) (d := 3) (w7.refl _) (by rw [R8]; exact G4 _)
   have hrs : p6 VS ars 4 (rdE t (cnE (n : Int))) = false := a99 (by rw [R8]; exact bG7) (ah5 _ _)
   have hl : ∀ c, w7 (b9 VS ars (c + 1) i) (ars.getD t.toNat 0) := fun c => by rw [(R0 hi hs c).1]; exact h2
   refine bO1 hv ha hp (aX3 (d := 4) ?_ (by rw [ap6]; exact h1) hr) h3 (by rw [R8]; exact G4 _) (aU5 (d := 4) ?_ (ao9 _ _) hrs) (by rw [R8]; exact bG7)
   ·unfold s4
    split
    ·exact aX5 (d := 2) (hl 1)
    ·rcases hm with hm | ⟨j, rfl, hj⟩
     ·omega
     ·exact aX3 (d := 3) (by rw [ap6]; exact hj) (aX5 (d := 1) (hl 0)) (by rw [R8]; exact G4 _)
   ·unfold s4
    split
    ·exact aU6 (d := 2) (R0 hi hs 2).2
    ·exact aU5 (d := 3) (ao9 _ _) (aU6 (d := 1) (R0 hi hs 1).2) (ah5 _ _)
omit hv ha in
theorem aX1 {pc pco : Int} {nv na d : Nat} {m : Int} (ih : ∀ (s : b6) (x : U6), f6 nv na d s = true → nv ≤ x.1.length → cdS VS ars false d pc s = 0 → X6 (r7 ars s m pc x).1 VS → (∀ t ∈ x.2, Qok VS ars pco t) → ∀ t ∈ (r7 ars s m pc x).2, Qok VS ars pco t) :
  ∀ (ss : List b6) (x : U6), ss.all (f6 nv na d) = true → nv ≤ x.1.length → (∀ s ∈ ss, cdS VS ars false d pc s = 0) → X6 (i8 ars ss m pc x).1 VS → (∀ t ∈ x.2, Qok VS ars pco t) → ∀ t ∈ (i8 ars ss m pc x).2, Qok VS ars pco t
 | [], _, _, _, _, _, hq => hq
 | s :: r, x, h, hx, hc, he, hq => by
  simp only [List.all_cons, b86] at h
  rw [i8] at he ⊢
  exact aX1 ih r _ h.2 (ca7 hx (aJ2 ars s m pc x).1) (fun t ht => hc t (ca8 _ ht)) he (ih s x h.1 hx (hc s ca1) ((F3 ars r m pc _).trans he) hq)
theorem bj6 {nv : Nat} : ∀ (d : Nat) (s : b6) (m pc pco : Int) (x : U6), f6 nv ars.length d s = true → nv ≤ x.1.length → d8 pc = true → d8 pco = true → w7 pco pc → (m < 0 ∨ ∃ j : Nat, m = j ∧ w7 (VS.getD j 0) pc) →
  cdS VS ars false d pc s = 0 → X6 (r7 ars s m pc x).1 VS → (∀ t ∈ x.2, Qok VS ars pco t) → ∀ t ∈ (r7 ars s m pc x).2, Qok VS ars pco t
 | 0, _, _, _, _, _, h, _, _, _, _, _, _, _, _ => by simp [f6] at h
 | d + 1, s, m, pc, pco, x, h, hx, hpc, hpo, hle, hm, hc, he, hq => by
  have blk := fun (m pc pco : Int) (h1 : d8 pc = true) (h2 : d8 pco = true) (h3 : w7 pco pc) (h4 : m < 0 ∨ ∃ j : Nat, m = j ∧ w7 (VS.getD j 0) pc) => aX1 (VS := VS) (ars := ars) (pc := pc) (pco := pco) (nv := nv) (na := ars.length) (d := d) (m := m) fun s x a1 a2 a3 a4 a5 => bj6 d s m pc pco x a1 a2 h1 h2 h3 h4 a3 a4 a5
  rw [D8, b86, b86] at h
  obtain ⟨hh, hb, hel⟩ := h
  obtain ⟨c1, c2, c3⟩ := au8.1 hc
  rw [bi4] at c1
  have hin : D9 ⟨VS, ars, []⟩ s pc = if s.kind = 3 then i6 pc (b9 VS ars 5 s.value) else pc := rfl
  rw [hin] at c2 c3
  by_cases k4 : s.kind = 4
  ·rw [ln4 k4] at he ⊢
   rw [if_neg (by omega)] at c2
   intro t ht
   rcases ca2.1 ht with ht | ht
   ·exact hq t ht
   ·rw [ca5] at ht
    subst ht
    have hB := blk m pc pco hpc hpo hle hm s.body (x.1, []) hb hx c2 he (fun t ht => by cases ht)
    exact aM0 rfl (at7 (fun h => by cases h) (fun h => absurd rfl h) fun h => by cases h) (fun t ht => hB t ht) fun t ht => by cases ht
  have hsv : f5 nv ars.length 5 s.value = true := n5 hh k4
  have hsx : f5 x.1.length ars.length 5 s.value = true := x4 hx 5 _ hsv
  by_cases k3 : s.kind = 3
  ·rw [if_pos k3] at c2 c3
   have hxe : X6 x.1 VS := (aJ2 ars s m pc x).trans he
   have hlv := N1 (ars := ars) hxe 5 s.value hsx
   have hp2 := T0 hpc (at9 hv ha 5 s.value)
   cases hs : x5 (b9 x.1 ars 5 s.value)
   ·rw [bz2 k3 hs, ← hlv] at he
    rw [bz2 k3 hs, ← hlv]
    rw [← hlv] at hs
    have hsn := aH5 hv ha 5 _ hs
    have hsm : b8 ars pc s.value x = (x, s.value) := ax4 5 (b99 _) _ _ hsx (by
     cases h9 : p6 x.1 ars 5 s.value
     ·rfl
     ·exfalso
      have hxa : x.1.all d8 = true := by
       rw [b93]; intro y hy
       obtain ⟨i, hi, rfl⟩ := List.getElem_of_mem hy
       have := hxe.2 i hi
       rw [n6 hi] at this
       rw [← this]; exact N4 hv i
      have := aH5 hxa ha 5 s.value (by rw [← hlv]; exact hs)
      rw [this] at h9; cases h9)
    rw [hsm] at he ⊢
    intro t ht
    rcases ca2.1 ht with ht | ht
    ·exact hq t ht
    ·rw [ca5] at ht
     subst ht
     have he1 : X6 (i8 ars s.body m (i6 pc (b9 VS ars 5 s.value)) (x.1, [])).1 VS := (F3 ars s.els m _ (_, [])).trans he
     have hle2 := Y6 hle (w7.refl (b9 VS ars 5 s.value))
     have hpo2 := T0 hpo (at9 hv ha 5 s.value)
     have hm2 : m < 0 ∨ ∃ j : Nat, m = j ∧ w7 (VS.getD j 0) (i6 pc (b9 VS ars 5 s.value)) := hm.imp id fun ⟨j, h1, h2⟩ => ⟨j, h1, h2.trans (J4 _ _)⟩
     have B1 := blk m _ _ hp2 hpo2 hle2 hm2 s.body (x.1, []) hb hx c2 he1 (fun t ht => by cases ht)
     have B2 := blk m _ _ hp2 hpo2 hle2 hm2 s.els (_, []) hel (ca7 hx (F3 ars s.body m _ (x.1, [])).1) c3 he (fun t ht => by cases ht)
     exact aM0 rfl (at7 (fun _ => hs) (fun _ => hsn) fun h => by cases h) (fun t ht => B1 t ht) fun t ht => B2 t ht
   ·rw [bI8 k3 hs, ← hlv] at he
    rw [bI8 k3 hs, ← hlv]
    generalize hl : i6 pc (b9 VS ars 5 s.value) = l at he c2 c3 hp2 ⊢
    have hpl : w7 pc l := by rw [← hl]; exact J4 _ _
    have hB1 : X6 (i8 ars s.body ((b8 ars pc s.value x).1.1.length : Int) l (ifM (b8 ars pc s.value x) m l)).1 VS := (F3 ars s.els _ _ _).trans he
    have hY : X6 ((b8 ars pc s.value x).1.1 ++ [l] ++ [l]) VS := (F3 ars s.body _ _ (ifM (b8 ars pc s.value x) m l)).trans hB1
    have hY1 : X6 ((b8 ars pc s.value x).1.1 ++ [l]) VS := (X6.app _ _).trans hY
    have hY0 : X6 (b8 ars pc s.value x).1.1 VS := (X6.app _ _).trans hY1
    have v1 : VS.getD (b8 ars pc s.value x).1.1.length 0 = l := hY1.at
    have v2 : VS.getD ((b8 ars pc s.value x).1.1 ++ [l]).length 0 = l := hY.at
    obtain ⟨e1, e2, e3⟩ := aX0 hv ha hpc hpo hle 5 (b99 _) s.value x hsx hY0 hq
    have e1 : w7 (b9 VS ars 5 (b8 ars pc s.value x).2) l := e1.trans (by rw [← hl]; exact at3 (ai8 _ _) (J4 _ _))
    have hml : m < 0 ∨ ∃ j : Nat, m = j ∧ w7 (VS.getD j 0) l := hm.imp id fun ⟨j, h1, h2⟩ => ⟨j, h1, h2.trans hpl⟩
    have hq2 : ∀ t ∈ (ifM (b8 ars pc s.value x) m l).2, Qok VS ars pco t := by
     intro t ht
     rcases ca2.1 ht with ht | ht
     ·rcases ca2.1 ht with ht | ht
      ·exact e3 t ht
      ·rw [ca5] at ht
       subst ht
       refine aR4 hv ha hpo ?_ ?_ (aC0 hv ha e2 (ah5 _ _))
       ·rw [Int.toNat_natCast, v1]; exact aC1 hml e1 (by rw [R8]; exact G4 _)
       ·rw [Int.toNat_natCast, v1]; exact hle.trans hpl
     ·rw [ca5] at ht
      subst ht
      refine aR4 hv ha hpo ?_ ?_ (aC0 hv ha ?_ (ah5 _ _))
      ·rw [Int.toNat_natCast, v2]
       refine aC1 hml ?_ (by rw [R8]; exact G4 _)
       refine ad3 (G4 _) fun k hk => ?_
       have hk : k ∈ [vrE ((b8 ars pc s.value x).1.1.length : Int), cnE 0] := hk
       simp only [cb7, List.not_mem_nil, or_false] at hk
       rcases hk with rfl | rfl
       ·rw [ap6, Int.toNat_natCast, v1]; exact w7.refl _
       ·rw [R8]; exact G4 _
      ·rw [Int.toNat_natCast, v2]; exact hle.trans hpl
      ·refine ap0 ?_ (by show ¬ (9 : Int) = 3; decide)
       show [vrE ((b8 ars pc s.value x).1.1.length : Int), cnE 0].any _ = false
       simp only [List.any_cons, List.any_nil, Bool.or_false, Bool.or_eq_false_iff]
       exact ⟨ao9 _ _, ah5 _ _⟩
    have hn : nv ≤ (ifM (b8 ars pc s.value x) m l).1.length := by
     have := (ai6 ars pc s.value x).1
     simp only [ifM, b88]; omega
    have B1 := blk ((b8 ars pc s.value x).1.1.length : Int) l pco hp2 hpo (hle.trans hpl) (.inr ⟨_, rfl, by rw [v1]; exact w7.refl _⟩) s.body (ifM (b8 ars pc s.value x) m l) hb hn c2 hB1 hq2
    exact blk (((b8 ars pc s.value x).1.1 ++ [l]).length : Int) l pco hp2 hpo (hle.trans hpl) (.inr ⟨_, rfl, by rw [v2]; exact w7.refl _⟩) s.els _ hel (ca7 hn (F3 ars s.body _ l (ifM (b8 ars pc s.value x) m l)).1) c3 he B1
  have hE0 : X6 (b8 ars pc s.value x).1.1 (r7 ars s m pc x).1 := by
   by_cases k5 : s.kind = 5
   ·rw [ln5 k5]; exact X6.refl _
   by_cases k1 : s.kind = 1
   ·rw [ln1 k1]; exact X6.refl _
   by_cases k2 : s.kind = 2
   ·cases hs : x5 (b9 (b8 ars pc s.value x).1.1 ars 5 s.index)
    ·rw [bo6 k2 hs]; exact X6.refl _
    ·rw [bz3 k2 hs]; exact X6.app _ _
   ·rw [an0 ⟨k1, k2, k3, k4, k5⟩] at hh; cases hh
  have hY0 := hE0.trans he
  obtain ⟨e1, e2, e3⟩ := aX0 hv ha hpc hpo hle 5 (b99 _) s.value x hsx hY0 hq
  by_cases k5 : s.kind = 5
  ·rw [ln5 k5]
   intro t ht
   rcases ca2.1 ht with ht | ht
   ·exact e3 t ht
   ·rw [ca5] at ht
    subst ht
    unfold F5 at c1
    rw [if_neg (by omega), if_neg (by omega), if_pos k5] at c1
    split at c1
    ·rename_i hf
     have hf : ((d8 (b9 VS ars 5 s.value) && decide (b9 VS ars 5 s.value ≤ 1)) && decide (pc = 0)) = true := hf
     simp only [b86, decide_eq_true_eq] at hf
     have p0 : pco = 0 := (bc1 hpo hpc hle).2.1 hf.2
     have hle2 : w7 (b9 VS ars 5 (b8 ars pc s.value x).2) (b9 VS ars 5 s.value) := e1.trans (at3 (w7.refl _) (by rw [hf.2]; exact G4 _))
     refine aM0 ?_ (at7 (fun h => by cases h) (fun _ => e2) fun h => by cases h) (fun t ht => by cases ht) fun t ht => by cases ht
     show (if ((d8 (b9 VS ars 5 (b8 ars pc s.value x).2) && decide (b9 VS ars 5 (b8 ars pc s.value x).2 ≤ 1)) && decide (pco = 0)) = true then (0 : Int) else 2) = 0
     rw [at9 hv ha, decide_eq_true ((bc1 (at9 hv ha _ _) (at9 hv ha _ _) hle2).1 hf.1.2), decide_eq_true p0]; rfl
    ·cases c1
  by_cases k1 : s.kind = 1
  ·rw [ln1 k1]
   intro t ht
   rcases ca2.1 ht with ht | ht
   ·exact e3 t ht
   ·rw [ca5] at ht
    subst ht
    unfold F5 at c1
    rw [if_pos k1] at c1
    split at c1
    ·rename_i hf
     have hf : flB (i6 (b9 VS ars 5 s.value) pc) (VS.getD s.target.toNat 0) = true := hf
     obtain ⟨-, -, f3⟩ := bC2 hf
     have fp : w7 pc (VS.getD s.target.toNat 0) := (ai8 _ _).trans f3
     refine aR4 hv ha hpo (aC1 (hm.imp id fun ⟨j, h1, h2⟩ => ⟨j, h1, h2.trans fp⟩) (e1.trans f3) (by rw [ap6]; exact w7.refl _)) (hle.trans fp) (aC0 hv ha e2 (ao9 _ _))
    ·cases c1
  by_cases k2 : s.kind = 2
  ·obtain ⟨q1, q2, q3⟩ := ad6 hh k2
   have hsi := x4 (ca7 hx (ai6 ars pc s.value x).1) 5 _ q3
   have hli := N1 (ars := ars) hY0 5 s.index hsi
   unfold F5 at c1
   rw [if_neg (by omega), if_pos k2] at c1
   split at c1
   ·rename_i hf
    have hf : flB (i6 (i6 (b9 VS ars 5 s.value) (b9 VS ars 5 s.index)) pc) (ars.getD s.target.toNat 0) = true := hf
    obtain ⟨-, -, f3⟩ := bC2 hf
    have fp : w7 pc (ars.getD s.target.toNat 0) := (ai8 _ _).trans f3
    have fi : w7 (b9 VS ars 5 s.index) (ars.getD s.target.toNat 0) := ((ai8 _ _).trans (J4 _ _)).trans f3
    have fv : w7 (b9 VS ars 5 (b8 ars pc s.value x).2) (ars.getD s.target.toNat 0) := e1.trans (at3 (((J4 _ _).trans (J4 _ _)).trans f3) fp)
    have hmt : m < 0 ∨ ∃ j : Nat, m = j ∧ w7 (VS.getD j 0) (ars.getD s.target.toNat 0) := hm.imp id fun ⟨j, h1, h2⟩ => ⟨j, h1, h2.trans fp⟩
    cases hs : x5 (b9 (b8 ars pc s.value x).1.1 ars 5 s.index)
    ·rw [bo6 k2 hs]
     rw [← hli] at hs
     intro t ht
     rcases ca2.1 ht with ht | ht
     ·exact e3 t ht
     ·rw [ca5] at ht
      subst ht
      have hs3 : x5 (b9 VS ars 4 s.index) = false := by rw [(R0 q2 q3 3).1]; exact hs
      exact bO1 hv ha hpo (aC1 hmt fv (bc2 (w7.refl _) (by rw [(R0 q2 q3 3).1]; exact fi))) (hle.trans fp) fi (aC0 hv ha e2 (a99 hs3 (R0 q2 q3 4).2)) hs
    ·rw [bz3 k2 hs] at he ⊢
     have he : X6 ((b8 ars pc s.value x).1.1 ++ [i6 (b9 (b8 ars pc s.value x).1.1 ars 5 (b8 ars pc s.value x).2) pc]) VS := he
     have v1 := he.at
     rw [← N1 hY0 5 _ (Y7 ars pc ars.length 5 s.value x hsx).2.1] at v1
     intro t ht
     rcases ca2.1 ht with ht | ht
     ·rcases ca2.1 ht with ht | ht
      ·exact e3 t ht
      ·rw [ca5] at ht
       subst ht
       refine aR4 hv ha hpo ?_ ?_ e2
       ·rw [Int.toNat_natCast, v1]; exact J4 _ _
       ·rw [Int.toNat_natCast, v1]; exact hle.trans (ai8 _ _)
     ·exact bR0 hv ha hpo q2 q3 hmt (by rw [Int.toNat_natCast, v1]; exact at3 fv fp) fi (hle.trans fp) 4 t ht
   ·cases c1
  ·rw [an0 ⟨k1, k2, k3, k4, k5⟩] at hh; cases hh
end
theorem bT3 {p : d7} (h : Q9 p = true) : (ctR (aW9 p)).1 = 0 := by
 unfold Q9 at h
 simp only [b86, decide_eq_true_eq] at h
 obtain ⟨h1, h2⟩ := h
 have hc := (al5 p false).1 h1
 have hp := V0 hc.1
 have hq := V0 h2
 have hx : X6 p.vars (ai4 p).1 := F3 p.arrays p.body (-1) 0 (p.vars, [])
 have key := aX1 (VS := (ai4 p).1) (ars := p.arrays) (pc := 0) (pco := 0) (nv := p.vars.length) (na := p.arrays.length) (d := 5) (m := -1)
  (fun s x a1 a2 a3 a4 a5 => bj6 hq.1 hq.2.1 5 s (-1) 0 0 x a1 a2 bA1 bA1 (w7.refl _) (.inl (by decide)) a3 a4 a5) p.body (p.vars, []) hp.2.2.2 (b99 _)
  (fun s hs => bd4 hx 5 s 0 (b93.1 hp.2.2.2 s hs) (hc.2 s hs)) (X6.refl _) (fun t ht => by cases ht)
 rw [bl2]
 exact ⟨h2, fun s hs => key s hs 5 false, fun s hs => key s hs 5 true⟩
theorem bz6 {vs ars : List Int} {s : b6} {pc : Int} (h : K2 ⟨vs, ars, []⟩ s pc true = 0) : W4 ⟨vs, ars, []⟩ s = 0 := by
 unfold K2 at h
 split at h
 ·exact h
 ·rename_i hn; exact absurd h hn
theorem aB8 {e : b5} (h : noneB e = true) : e = nnE := by
 obtain ⟨k, v, ks⟩ := e
 unfold noneB at h
 simp only [b86, decide_eq_true_eq] at h
 obtain ⟨⟨h1, h2⟩, h3⟩ := h
 have j1 : k = 0 := h1
 have j2 : v = 0 := h2
 have j3 : ks = [] := ca0 h3
 rw [j1, j2, j3]
theorem ax5 {vs ars : List Int} {d : Nat} {pc : Int} (ih : ∀ (s : b6) (bd : List b6), f6 vs.length ars.length d s = true → cdS vs ars true d pc s = 0 → r7 ars s (-1) pc (vs, bd) = (vs, bd ++ [s])) :
  ∀ (ss : List b6) (bd : List b6), ss.all (f6 vs.length ars.length d) = true → (∀ s ∈ ss, cdS vs ars true d pc s = 0) → i8 ars ss (-1) pc (vs, bd) = (vs, bd ++ ss)
 | [], bd, _, _ => by simp [i8]
 | s :: r, bd, h, hc => by
  simp only [List.all_cons, b86] at h
  rw [i8, ih s bd h.1 (hc s ca1), ax5 ih r _ h.2 fun t ht => hc t (ca8 _ ht)]
  simp
theorem aQ2 {vs ars : List Int} : ∀ (d : Nat) (s : b6) (pc : Int) (bd : List b6), f6 vs.length ars.length d s = true → cdS vs ars true d pc s = 0 → r7 ars s (-1) pc (vs, bd) = (vs, bd ++ [s])
 | 0, _, _, _, h, _ => by simp [f6] at h
 | d + 1, s, pc, bd, h, hc => by
  have blk := fun (pc : Int) => ax5 (vs := vs) (ars := ars) (d := d) (pc := pc) fun s bd a1 a2 => aQ2 d s pc bd a1 a2
  rw [D8, b86, b86] at h
  obtain ⟨hh, hb, hel⟩ := h
  obtain ⟨c1, c2, c3⟩ := au8.1 hc
  have hl := bz6 c1
  have hin : D9 ⟨vs, ars, []⟩ s pc = if s.kind = 3 then i6 pc (b9 vs ars 5 s.value) else pc := rfl
  rw [hin] at c2 c3
  obtain ⟨k, t, i, v, c, b, e⟩ := s
  have hlk : (if k = 3 ∧ x5 (b9 vs ars 5 v) = true then (3 : Int) else if (k ≠ 4 ∧ p6 vs ars 5 v = true) ∨ (k = 2 ∧ x5 (b9 vs ars 5 i) = true) then 4 else 0) = 0 := hl
  have l1 : ¬ (k = 3 ∧ x5 (b9 vs ars 5 v) = true) := by
   intro hn; rw [if_pos hn] at hlk; cases hlk
  rw [if_neg l1] at hlk
  have l2 : ¬ ((k ≠ 4 ∧ p6 vs ars 5 v = true) ∨ (k = 2 ∧ x5 (b9 vs ars 5 i) = true)) := by
   intro hn; rw [if_pos hn] at hlk; cases hlk
  have hb : b.all (f6 vs.length ars.length d) = true := hb
  have hel : e.all (f6 vs.length ars.length d) = true := hel
  by_cases k4 : k = 4
  ·subst k4
   have c2 : ∀ t ∈ b, cdS vs ars true d pc t = 0 := c2
   rw [ln4 (s := ⟨4, t, i, v, c, b, e⟩) (x := (vs, bd)) rfl]
   show ((i8 ars b (-1) pc (vs, [])).1, bd ++ [⟨4, 0, nnE, nnE, c, (i8 ars b (-1) pc (vs, [])).2, []⟩]) = _
   rw [blk pc b [] hb c2, List.nil_append]
   have h4 := T2 (nv := vs.length) (na := ars.length) (s := ⟨4, t, i, v, c, b, e⟩) rfl
   rw [h4] at hh
   simp only [b86, decide_eq_true_eq] at hh
   obtain ⟨⟨t0, e0, -, -⟩, i0, v0⟩ := hh
   have j1 : t = 0 := t0
   have j2 : e = [] := ca0 e0
   have j3 : i = nnE := aB8 i0
   have j4 : v = nnE := aB8 v0
   rw [j1, j2, j3, j4]
  have hsv : f5 vs.length ars.length 5 v = true := n5 (s := ⟨k, t, i, v, c, b, e⟩) hh k4
  have hsm : b8 ars pc v (vs, bd) = ((vs, bd), v) := ax4 5 (b99 _) v (vs, bd) hsv (by
   cases h9 : p6 vs ars 5 v
   ·rfl
   ·exact absurd (.inl ⟨k4, h9⟩) l2)
  by_cases k3 : k = 3
  ·subst k3
   have hs : x5 (b9 vs ars 5 v) = false := by
    cases h9 : x5 (b9 vs ars 5 v)
    ·rfl
    ·exact absurd ⟨rfl, h9⟩ l1
   have c2 : ∀ t ∈ b, cdS vs ars true d (i6 pc (b9 vs ars 5 v)) t = 0 := c2
   have c3 : ∀ t ∈ e, cdS vs ars true d (i6 pc (b9 vs ars 5 v)) t = 0 := c3
   have hs3 : x5 (b9 (vs, bd).1 ars 5 (b6.mk 3 t i v c b e).value) = false := hs
   rw [bz2 (s := ⟨3, t, i, v, c, b, e⟩) (x := (vs, bd)) rfl hs3]
   show ((i8 ars e (-1) (i6 pc (b9 vs ars 5 v)) ((i8 ars b (-1) (i6 pc (b9 vs ars 5 v)) ((b8 ars pc v (vs, bd)).1.1, [])).1, [])).1, (b8 ars pc v (vs, bd)).1.2 ++ [⟨3, 0, nnE, (b8 ars pc v (vs, bd)).2, 0, (i8 ars b (-1) (i6 pc (b9 vs ars 5 v)) ((b8 ars pc v (vs, bd)).1.1, [])).2, (i8 ars e (-1) (i6 pc (b9 vs ars 5 v)) ((i8 ars b (-1) (i6 pc (b9 vs ars 5 v)) ((b8 ars pc v (vs, bd)).1.1, [])).1, [])).2⟩]) = _
   rw [hsm]
   simp only
   rw [blk _ b [] hb c2, List.nil_append]
   simp only
   rw [blk _ e [] hel c3, List.nil_append]
   have h3 := W7 (nv := vs.length) (na := ars.length) (s := ⟨3, t, i, v, c, b, e⟩) rfl
   rw [h3] at hh
   simp only [b86, decide_eq_true_eq] at hh
   obtain ⟨⟨t0, n0⟩, i0, -⟩ := hh
   have j1 : t = 0 := t0
   have j2 : c = 0 := n0
   have j3 : i = nnE := aB8 i0
   rw [j1, j2, j3]
  by_cases k15 : k = 1 ∨ k = 5
  ·have h1 := A1 (nv := vs.length) (na := ars.length) (s := ⟨k, t, i, v, c, b, e⟩) k15
   rw [h1] at hh
   simp only [b86, decide_eq_true_eq] at hh
   obtain ⟨⟨-, -, b0, e0, n0⟩, i0, -⟩ := hh
   have j1 : b = [] := ca0 b0
   have j2 : e = [] := ca0 e0
   have j3 : c = 0 := n0
   have j4 : i = nnE := aB8 i0
   clear blk
   subst j1 j2 j3 j4
   rcases k15 with rfl | rfl
   ·rw [ln1 (s := ⟨1, t, nnE, v, 0, [], []⟩) (x := (vs, bd)) rfl]
    show ((b8 ars pc v (vs, bd)).1.1, (b8 ars pc v (vs, bd)).1.2 ++ [J5 t (s4 (-1) (b8 ars pc v (vs, bd)).2 (vrE t))]) = _
    rw [hsm]; rfl
   ·rw [ln5 (s := ⟨5, t, nnE, v, 0, [], []⟩) (x := (vs, bd)) rfl]
    show ((b8 ars pc v (vs, bd)).1.1, (b8 ars pc v (vs, bd)).1.2 ++ [⟨5, t, nnE, (b8 ars pc v (vs, bd)).2, 0, [], []⟩]) = _
    rw [hsm]
  ·by_cases k2 : k = 2
   ·subst k2
    have hs : x5 (b9 vs ars 5 i) = false := by
     cases h9 : x5 (b9 vs ars 5 i)
     ·rfl
     ·exact absurd (.inr ⟨rfl, h9⟩) l2
    have h2 := I7 (nv := vs.length) (na := ars.length) (s := ⟨2, t, i, v, c, b, e⟩) rfl
    rw [h2] at hh
    simp only [b86, decide_eq_true_eq] at hh
    obtain ⟨⟨-, -, b0, e0, n0⟩, -⟩ := hh
    have j1 : b = [] := ca0 b0
    have j2 : e = [] := ca0 e0
    have j3 : c = 0 := n0
    clear blk
    subst j1 j2 j3
    have hs2 : x5 (b9 (b8 ars pc (b6.mk 2 t i v 0 [] []).value (vs, bd)).1.1 ars 5 (b6.mk 2 t i v 0 [] []).index) = false := by
     show x5 (b9 (b8 ars pc v (vs, bd)).1.1 ars 5 i) = false
     rw [hsm]; exact hs
    rw [bo6 (s := ⟨2, t, i, v, 0, [], []⟩) (x := (vs, bd)) rfl hs2]
    show ((b8 ars pc v (vs, bd)).1.1, (b8 ars pc v (vs, bd)).1.2 ++ [⟨2, t, i, s4 (-1) (b8 ars pc v (vs, bd)).2 (rdE t i), 0, [], []⟩]) = _
    rw [hsm]; rfl
   ·rw [an0 (s := ⟨k, t, i, v, c, b, e⟩) ⟨fun h => k15 (.inl h), k2, k3, k4, fun h => k15 (.inr h)⟩] at hh; cases hh
theorem aJ0 {p : d7} (h : (ctR p).1 = 0) : Q9 p = true ∧ t3 p = p := by
 have hc := (bl2 p).1 h
 have hp := V0 hc.1
 have hx : ai4 p = (p.vars, p.body) := ax5 (fun s bd a1 a2 => aQ2 5 s 0 bd a1 a2) p.body [] hp.2.2.2 hc.2.2
 have hl : aW9 p = p := by unfold aW9; rw [hx]
 have ho : Q9 p = true := by1 ((al5 p false).2 ⟨hc.1, hc.2.1⟩) (by rw [hl]; exact hc.1)
 exact ⟨ho, by rw [bj2 ho, hl]⟩
theorem bo7 {p : d7} (h : Q9 p = true) : Q9 (t3 p) = true ∧ t3 (t3 p) = t3 p := by
 have := bT3 h
 rw [← bj2 h] at this
 exact aJ0 this
theorem bo4 (w : World) : m5 (fun _ => True) (fun _ => True) w w (p7 (fun _ : Empty => Rs.none) (fun _ => undef) (s0 [])) := by
 refine (m5.start (ι := Empty ⊕ Nat) (w0 := w) (φ := fun _ => True) (ψ := fun _ => True) fun _ _ => trivial).map (fun k => some k) (fun k k' i a b => by cases a; cases b; rfl) fun k => ?_
 cases k with
 | inl e => exact e.elim
 | inr j => exact .inr rfl
theorem br9 (w : World) : Agr (fun _ => True) (FrF (fun _ => True) (p7 (fun _ : Empty => Rs.none) (fun _ => undef) (s0 []))) w w := Agr.mono fun b _ _ => ⟨b94, fun i => by
 cases i with
 | inl e => exact e.elim
 | inr j => exact fun h => h.elim⟩
abbrev u8s (c : List UInt8) : List Value := c.map fun b => Value.int .u8 (b.toNat : Int)
theorem br1 {P : Program} {f : FuncId} {x : Value} {c : List UInt8} {post : List It} (hc : k6.ok P ⟨f, [.ref 0], [dY c], post, .v x⟩) (u : Value) (w : World) (hp : z9 w (fun _ => True) u c.length 1 (u8s c)) :
  Calls P f #[u] w fun e w' => e = .returned x ∧ Below w.heap.size w w' := by
 obtain ⟨ρ', g1, M2, g2⟩ := m5.dats [.sl (.bytes c)] [u] 0 (bo4 w) ⟨RD.nice (.bytes c) _ _ _ _ _ (br9 w) hp, b94⟩ (fun _ _ => rfl) (fun _ _ _ => rfl)
 have e : o7 (s0 []) (R4 [.sl (.bytes c)] 0) = s0 [dY c] := by
  funext j
  match j with
  | 0 => rfl
  | j + 1 => simp [R4, o7, s0]
 rw [e] at M2
 simp only [xav, AV.vals, AV.val, List.cons.injEq, and_true] at g2
 subst g2
 refine (hc Empty _ _ w w _ ρ' M2).mono ?_
 rintro e w' ⟨ρ2, -, rfl, M3⟩
 exact ⟨rfl, M3.below fun _ _ => trivial⟩
theorem aj7 (xs ys : List Int) : k6.ok Tryz.prog (F6 64 [.ref 0, .ref 1] [dI xs, dI ys] (bA (decide (xs = ys)))) := by
  refine A2 26 Tryz.func64 [dI xs, dI ys] [(0, .ref 0), (1, .ref 1)] fun G => ?_; have hl : xs.length ≤ 9223372036854775807 := G.len 0 (d := .ints xs) (by kernel_rfl); refine wp_seq (C9 G d9 [(0, .ref 0), (1, .ref 1), (4, bA false)] fun G => b7 (wp_seq (wp_seq (l5 G d9 [(10, bA ((xs.length : Int) != (ys.length : Int)))] fun G => b7 (rcN G (fun h0 q0 => ?_) fun h0 q0 => ?_)))))
  ·
   refine wp_skip (b7 (wp_seq (wp_seq (C9 G d9 [(0, .ref 0), (1, .ref 1), (4, bA false), (12, iA (xs.length : Int)), (13, iA 0)] fun G => b7 (wp_block ?_))))); refine o9 (κ := Nat) (fun k => k ≤ xs.length ∧ xs.take k = ys.take k) (fun k => xs.length - k) (fun k => [dI xs, dI ys]) (fun k => [(0, .ref 0), (1, .ref 1), (4, bA false), (12, iA (xs.length : Int)), (13, iA k)]) 0 (by simp [h0]) (s5.at G _ _) ?_; clear G; intro k ρ a w hp G; refine wp_seq (l5 G d9 [(14, bA (decide ((k : Int) < xs.length)))] fun G => b7 (wp_seq (O0 G (fun h1 q1 => ?_) fun h1 q1 => ?_)))
   · refine wp_exit (o5 (o5 (n9 (b7 (wp_seq (l5 G d9 [(4, bA true)] fun G => b7 (wp_ret ?_))))))); exact B5 true G [0, 1] (decide_eq_true (ag8 hp.2 (by omega) (by omega)))
   ·
    refine wp_skip (b7 (wp_seq (wp_block (wp_seq (l5 G d9 [(5, iA k)] fun G => b7 (wp_seq (ah9 G d9 [0, 0, 3, 7, 0, 0, 48, 112, 255] [(24, bA (xs.getD k 0 != ys.getD k 0))] (iX k k xs.length (iX k k ys.length [])) (iK (by have hp := hp; omega) (iK (by have hp := hp; omega) b94)) fun G => b7 (rcN G (fun h2 q2 => ?_) fun h2 q2 => ?_))))))))
    · refine wp_skip (m6 (b7 (E2 G d9 [(13, iA ((k : Int) + 1))] [wO ((k : Int) + 1)] (o1 (by omega)) fun G => b7 ?_))); exact M8 G (k + 1) (⟨by omega, U8 hp.2 (by omega) (by omega) (by omega)⟩) (by have hp := hp; omega) [0, 1]
    · refine wp_seq (l5 G d9 [] fun G => b7 (wp_ret (A0 (l7 (l7 (A0 (l7 ?_))))))); exact B5 false G [0, 1] (by exact decide_eq_false fun e => by subst e; omega)
  · refine wp_seq (l5 G d9 [] fun G => b7 (wp_ret (l7 ?_))); exact B5 false G [0, 1] (by exact decide_eq_false fun e => by subst e; omega)
theorem sk1 {l m : List b5} (h : ¬ (l.length : Int) = m.length) : J3 l m = false := by
 cases e : J3 l m
 ·rfl
 ·exact absurd (congrArg (fun x : List b5 => (x.length : Int)) ((aa8 l m).1 e)) h
theorem sk2 {l m : List b5} {k : Nat} (h : B3 (l.getD k b85) (m.getD k b85) = false) : J3 l m = false := by
 cases e : J3 l m
 ·rfl
 ·rw [(aa8 l m).1 e, (F0 _ _).2 rfl] at h; cases h
theorem sk3 {l m : List b5} {k : Nat} (h3 : (l.length : Int) = m.length) (h : l.take k = m.take k) (hk : l.length ≤ k) : J3 l m = true := (aa8 _ _).2 (ag8 h hk h3)
abbrev ixS (a b : b5) : k6 := F6 136 [eA a 0, eA b 1] [dE a.kids, dE b.kids] (bA (B3 a b))
theorem bv8 (l m : List b5) (ih : ∀ (u : b5), u ∈ l → ∀ (v : b5), k6.ok Tryz.prog (ixS u v)) : k6.ok Tryz.prog (F6 195 [.ref 0, .ref 1, .fn 136 []] [dE l, dE m] (bA (J3 l m))) := by
  refine A2 32 Tryz.func195 [dE l, dE m] [(0, .ref 0), (1, .ref 1), (2, .fn 136 [])] fun G => ?_; have hl : l.length ≤ 9223372036854775807 := G.len 0 (d := .exprs l) (by kernel_rfl); refine wp_seq (C9 G d9 [(0, .ref 0), (1, .ref 1), (2, .fn 136 []), (6, bA false)] fun G => b7 (wp_seq (wp_seq (l5 G d9 [(14, bA ((l.length : Int) != (m.length : Int)))] fun G => b7 (rcN G (fun h0 q0 => ?_) fun h0 q0 => ?_)))))
  ·
   refine wp_skip (b7 (wp_seq (wp_seq (C9 G d9 [(1, .ref 1), (2, .fn 136 []), (6, bA false), (15, .ref 0), (16, iA (l.length : Int)), (17, iA 0)] fun G => b7 (wp_block ?_))))); refine o9 (κ := Nat) (fun k => k ≤ l.length ∧ l.take k = m.take k) (fun k => l.length - k) (fun k => [dE l, dE m]) (fun k => [(1, .ref 1), (2, .fn 136 []), (6, bA false), (15, .ref 0), (16, iA (l.length : Int)), (17, iA k)]) 0 (by simp [h0]) (s5.at G _ _) ?_; clear G; intro k ρ a w hp G; refine wp_seq (l5 G d9 [(18, bA (decide ((k : Int) < l.length)))] fun G => b7 (wp_seq (O0 G (fun h1 q1 => ?_) fun h1 q1 => ?_)))
   · refine wp_exit (o5 (o5 (n9 (b7 (wp_seq (l5 G d9 [(6, bA true)] fun G => b7 (wp_ret ?_))))))); exact B5 true G [0, 1] (sk3 (by omega) hp.2 (by omega))
   ·
    refine wp_skip (b7 (wp_seq (wp_block (wp_seq (O1 G d9 [0, 1, 18, 26] [dE l, dE m, dE (l.getD k b85).kids, .box (eL (l.getD k b85) 2)] [(1, .ref 1), (2, .fn 136 []), (6, bA false), (7, iA k), (8, .ptr 3 0), (15, .ref 0), (16, iA (l.length : Int)), (17, iA k)] (iX k k l.length []) (iK (by have hp := hp; omega) b94) fun G => b7 (wp_seq (O1 G d9 [0, 1, 2, 3, 28, 36] [dE l, dE m, dE (l.getD k b85).kids, .box (eL (l.getD k b85) 2), dE (m.getD k b85).kids, .box (eL (m.getD k b85) 4)] [(1, .ref 1), (2, .fn 136 []), (6, bA false), (8, .ptr 3 0), (9, .ptr 5 0), (15, .ref 0), (16, iA (l.length : Int)), (17, iA k)] (iX k k m.length []) (iK (by have hp := hp; omega) b94) fun G => b7 (wp_seq (k8 G (s6 3 [2, 4] (ih (l.getD k b85) (ab1 (by omega)) (m.getD k b85))) [0, 1] [dE l, dE m] [(1, .ref 1), (2, .fn 136 []), (6, bA false), (15, .ref 0), (16, iA (l.length : Int)), (17, iA k), (30, .v (.bool !B3 (l.getD k b85) (m.getD k b85)))] fun G => b7 ?_))))))))); cases h2 : (!B3 (l.getD k b85) (m.getD k b85))
    · have q2 : (B3 (l.getD k b85) (m.getD k b85)) = true := (Eq.mp (b97 _) h2); refine rF G _ h2 (wp_skip (m6 (b7 (E2 G d9 [(17, iA ((k : Int) + 1))] [wO ((k : Int) + 1)] (o1 (by omega)) fun G => b7 ?_)))); exact M8 G (k + 1) (⟨by omega, U8 hp.2 (by omega) (by omega) ((F0 _ _).1 (by with_reducible assumption))⟩) (by have hp := hp; omega) [0, 1]
    · have q2 : (B3 (l.getD k b85) (m.getD k b85)) = false := (Eq.mp (b95 _) h2); refine rT G _ h2 (wp_seq (l5 G d9 [] fun G => b7 (wp_ret (A0 (l7 (l7 (A0 (l7 ?_)))))))); exact B5 false G [0, 1] (sk2 (k := k) (by with_reducible assumption))
  · refine wp_seq (l5 G d9 [] fun G => b7 (wp_ret (l7 ?_))); exact B5 false G [0, 1] (sk1 (by omega))
theorem ie1 {a b : b5} (h1 : a.kind = b.kind) (h2 : a.value = b.value) : B3 a b = J3 a.kids b.kids := by
 obtain ⟨k, n, ks⟩ := a
 obtain ⟨k', n', ks'⟩ := b
 simp only [b5.kind, b5.value] at h1 h2
 rw [B3, decide_eq_true h1, decide_eq_true h2]
 rfl
theorem bY6 (x y : b5) (ih : ∀ (m : List b5), k6.ok Tryz.prog (F6 195 [.ref 0, .ref 1, .fn 136 []] [dE x.kids, dE m] (bA (J3 x.kids m)))) : k6.ok Tryz.prog (ixS x y) := by
  refine A2 24 Tryz.func136 [dE x.kids, dE y.kids] [(0, eA x 0), (1, eA y 1)] fun G => ?_; refine wp_seq (k8 G d9 [0, 1, 2, 10] [dE x.kids, dE y.kids, .box (eL x 0), .box (eL y 1)] [(2, .ptr 2 0), (3, .ptr 3 0), (4, bA false)] fun G => b7 (wp_seq ?_)); cases h0 : (x.kind == y.kind)
  · have q0 := ne_of_beq_false h0; refine k8 G (O2 (fc h0 (fc (b := false) rfl fz)) (us [(6, 10, 0), (1011, 1011, 0), (13, 17, 1), (1018, 1018, 1)])) [0, 1] [dE x.kids, dE y.kids] [(4, bA false)] fun G => b7 (wp_ret ?_); exact B5 false G [0, 1] (sx1 (by omega))
  ·
   have q0 := eq_of_beq h0; cases h1 : (x.value == y.value)
   · have q1 := ne_of_beq_false h1; refine k8 G (O2 (fc h0 (fc h1 fz)) (us [(6, 10, 0), (1011, 1011, 0), (13, 17, 1), (1018, 1018, 1)])) [0, 1] [dE x.kids, dE y.kids] [(4, bA false)] fun G => b7 (wp_ret ?_); exact B5 false G [0, 1] (sx2 (by omega))
   · have q1 := eq_of_beq h1; refine k8 G (t6 (l8 17 [0, 1] (ih y.kids) t5) (fc h0 (fc h1 fz)) (us [(6, 10, 0), (1011, 1011, 0), (13, 17, 1), (1018, 1018, 1)])) [0, 1] [dE x.kids, dE y.kids] [(4, bA (J3 x.kids y.kids))] fun G => b7 (wp_ret ?_); exact B5 (J3 x.kids y.kids) G [0, 1] (ie1 (by omega) (by omega))
theorem av0 (x : b5) : ∀ (y : b5), k6.ok Tryz.prog (ixS x y) :=
 b5.ind (P := fun x => ∀ (y : b5), k6.ok Tryz.prog (ixS x y)) (fun k n ks ih y => bY6 ⟨k, n, ks⟩ y fun m => bv8 ks m fun u hu => ih u hu) x
abbrev isS (s t : b6) : k6 := F6 135 [sA s 0, sA t 4] (sS s ++ sS t) (bA (I4 s t))
abbrev isB (l m : List b6) : k6 := F6 65 [.ref 0, .ref 1] [dT l, dT m] (bA (n4 l m))
theorem aH8 (l m : List b6) (ih : ∀ (u : b6), u ∈ l → ∀ (v : b6), k6.ok Tryz.prog (isS u v)) : k6.ok Tryz.prog (F6 134 [.ref 0, .ref 1, .fn 135 []] [dT l, dT m] (bA (n4 l m))) := by
  refine A2 32 Tryz.func134 [dT l, dT m] [(0, .ref 0), (1, .ref 1), (2, .fn 135 [])] fun G => ?_; have hl : l.length ≤ 9223372036854775807 := G.len 0 (d := .stmts l) (by kernel_rfl); refine wp_seq (C9 G d9 [(0, .ref 0), (1, .ref 1), (2, .fn 135 []), (6, bA false)] fun G => b7 (wp_seq (wp_seq (l5 G d9 [(14, bA ((l.length : Int) != (m.length : Int)))] fun G => b7 (rcN G (fun h0 q0 => ?_) fun h0 q0 => ?_)))))
  ·
   refine wp_skip (b7 (wp_seq (wp_seq (C9 G d9 [(1, .ref 1), (2, .fn 135 []), (6, bA false), (15, .ref 0), (16, iA (l.length : Int)), (17, iA 0)] fun G => b7 (wp_block ?_))))); refine o9 (κ := Nat) (fun k => k ≤ l.length ∧ l.take k = m.take k) (fun k => l.length - k) (fun k => [dT l, dT m]) (fun k => [(1, .ref 1), (2, .fn 135 []), (6, bA false), (15, .ref 0), (16, iA (l.length : Int)), (17, iA k)]) 0 (by simp [h0]) (s5.at G _ _) ?_; clear G; intro k ρ a w hp G; refine wp_seq (l5 G d9 [(18, bA (decide ((k : Int) < l.length)))] fun G => b7 (wp_seq (O0 G (fun h1 q1 => ?_) fun h1 q1 => ?_)))
   · refine wp_exit (o5 (o5 (n9 (b7 (wp_seq (l5 G d9 [(6, bA true)] fun G => b7 (wp_ret ?_))))))); exact B5 true G [0, 1] (sb3 (by omega) hp.2 (by omega))
   ·
    refine wp_skip (b7 (wp_seq (wp_block (wp_seq (O1 G d9 [0, 1, 18, 19, 20, 21, 26] [dT l, dT m, dE (l.getD k b85).index.kids, dE (l.getD k b85).value.kids, dT (l.getD k b85).body, dT (l.getD k b85).els, .box (sL (l.getD k b85) 2)] [(1, .ref 1), (2, .fn 135 []), (6, bA false), (7, iA k), (8, .ptr 6 0), (15, .ref 0), (16, iA (l.length : Int)), (17, iA k)] (iX k k l.length []) (iK (by have hp := hp; omega) b94) fun G => b7 (wp_seq (O1 G d9 [0, 1, 2, 3, 4, 5, 6, 31, 32, 33, 34, 39] [dT l, dT m, dE (l.getD k b85).index.kids, dE (l.getD k b85).value.kids, dT (l.getD k b85).body, dT (l.getD k b85).els, .box (sL (l.getD k b85) 2), dE (m.getD k b85).index.kids, dE (m.getD k b85).value.kids, dT (m.getD k b85).body, dT (m.getD k b85).els, .box (sL (m.getD k b85) 7)] [(1, .ref 1), (2, .fn 135 []), (6, bA false), (8, .ptr 6 0), (9, .ptr 11 0), (15, .ref 0), (16, iA (l.length : Int)), (17, iA k)] (iX k k m.length []) (iK (by have hp := hp; omega) b94) fun G => b7 (wp_seq (k8 G (s6 3 [2, 3, 4, 5, 7, 8, 9, 10] (ih (l.getD k b85) (X0 (by omega)) (m.getD k b85))) [0, 1] [dT l, dT m] [(1, .ref 1), (2, .fn 135 []), (6, bA false), (15, .ref 0), (16, iA (l.length : Int)), (17, iA k), (30, .v (.bool !I4 (l.getD k b85) (m.getD k b85)))] fun G => b7 ?_))))))))); cases h2 : (!I4 (l.getD k b85) (m.getD k b85))
    · have q2 : (I4 (l.getD k b85) (m.getD k b85)) = true := (Eq.mp (b97 _) h2); refine rF G _ h2 (wp_skip (m6 (b7 (E2 G d9 [(17, iA ((k : Int) + 1))] [wO ((k : Int) + 1)] (o1 (by omega)) fun G => b7 ?_)))); exact M8 G (k + 1) (⟨by omega, U8 hp.2 (by omega) (by omega) ((aa7 _ _).1 (by with_reducible assumption))⟩) (by have hp := hp; omega) [0, 1]
    · have q2 : (I4 (l.getD k b85) (m.getD k b85)) = false := (Eq.mp (b95 _) h2); refine rT G _ h2 (wp_seq (l5 G d9 [] fun G => b7 (wp_ret (A0 (l7 (l7 (A0 (l7 ?_)))))))); exact B5 false G [0, 1] (sb2 (k := k) (by with_reducible assumption))
  · refine wp_seq (l5 G d9 [] fun G => b7 (wp_ret (l7 ?_))); exact B5 false G [0, 1] (sb1 (by omega))
theorem bv5 (l m : List b6) (ih : k6.ok Tryz.prog (F6 134 [.ref 0, .ref 1, .fn 135 []] [dT l, dT m] (bA (n4 l m)))) : k6.ok Tryz.prog (isB l m) := by
 refine A2 8 Tryz.func65 [dT l, dT m] [(0, .ref 0), (1, .ref 1)] fun G => ?_; refine wp_seq (l5 G d9 [(4, bA false)] fun G => b7 (wp_seq (l5 G (s6 2 [0, 1] ih) [(4, bA (n4 l m))] fun G => b7 (wp_ret ?_)))); exact F2 G [0, 1]
abbrev aq5 (s : b6) (t : b6) (r0 : List It) : List It := dE s.index.kids :: dE s.value.kids :: dT s.body :: dT s.els :: dE t.index.kids :: dE t.value.kids :: dT t.body :: dT t.els :: r0
theorem bY7 (s t : b6) (ih1 : ∀ (m : List b6), k6.ok Tryz.prog (isB s.body m)) (ih2 : ∀ (m : List b6), k6.ok Tryz.prog (isB s.els m)) : k6.ok Tryz.prog (isS s t) := by
  refine A2 52 Tryz.func135 (aq5 s t []) [(0, sA s 0), (1, sA t 4)] fun G => ?_; refine wp_seq (k8 G d9 [0, 1, 2, 3, 4, 5, 6, 7, 8, 16] (aq5 s t [.box (sL s 0), .box (sL t 4)]) [(2, .ptr 8 0), (3, .ptr 9 0), (4, bA false)] fun G => b7 (wp_seq ?_)); cases h0 : (s.kind == t.kind)
  · have q0 := ne_of_beq_false h0; refine k8 G (O2 (fc h0 (fc (b := false) rfl fz)) (us [(6, 10, 0), (1011, 1011, 0), (13, 17, 1), (1018, 1018, 1), (20, 24, 1), (1025, 1025, 1), (27, 31, 1), (1032, 1032, 1), (34, 38, 1), (1039, 1039, 1), (41, 45, 1), (1046, 1046, 1)])) (rg 8) (aq5 s t []) [(4, bA false)] fun G => b7 (wp_ret ?_); exact B5 false G (rg 8) (sr1 (by omega))
  ·
   have q0 := eq_of_beq h0; cases h1 : (s.target == t.target)
   · have q1 := ne_of_beq_false h1; refine k8 G (O2 (fc h0 (fc h1 (fc (b := false) rfl fz))) (us [(6, 10, 0), (1011, 1011, 0), (13, 17, 1), (1018, 1018, 1), (20, 24, 2), (1025, 1025, 2), (27, 31, 2), (1032, 1032, 2), (34, 38, 2), (1039, 1039, 2), (41, 45, 2), (1046, 1046, 2)])) (rg 8) (aq5 s t []) [(4, bA false)] fun G => b7 (wp_ret ?_); exact B5 false G (rg 8) (sr2 (by omega))
   ·
    have q1 := eq_of_beq h1; cases h2 : (B3 s.index t.index)
    · refine k8 G (t6 (l8 17 [0, 4] (av0 s.index t.index) t5) (fc h0 (fc h1 (fc h2 (fc (b := false) rfl fz)))) (us [(6, 10, 0), (1011, 1011, 0), (13, 17, 1), (1018, 1018, 1), (20, 24, 2), (1025, 1025, 2), (27, 31, 3), (1032, 1032, 3), (34, 38, 3), (1039, 1039, 3), (41, 45, 3), (1046, 1046, 3)])) (rg 8) (aq5 s t []) [(4, bA false)] fun G => b7 (wp_ret ?_); exact B5 false G (rg 8) (sr4 (by with_reducible assumption))
    ·
     cases h3 : (B3 s.value t.value)
     · refine k8 G (t6 (l8 17 [0, 4] (av0 s.index t.index) (l8 24 [1, 5] (av0 s.value t.value) t5)) (fc h0 (fc h1 (fc h2 (fc h3 (fc (b := false) rfl fz))))) (us [(6, 10, 0), (1011, 1011, 0), (13, 17, 1), (1018, 1018, 1), (20, 24, 2), (1025, 1025, 2), (27, 31, 3), (1032, 1032, 3), (34, 38, 4), (1039, 1039, 4), (41, 45, 4), (1046, 1046, 4)])) (rg 8) (aq5 s t []) [(4, bA false)] fun G => b7 (wp_ret ?_); exact B5 false G (rg 8) (sr5 (by with_reducible assumption))
     ·
      cases h4 : (s.count == t.count)
      · have q4 := ne_of_beq_false h4; refine k8 G (t6 (l8 17 [0, 4] (av0 s.index t.index) (l8 24 [1, 5] (av0 s.value t.value) t5)) (fc h0 (fc h1 (fc h2 (fc h3 (fc h4 (fc (b := false) rfl fz)))))) (us [(6, 10, 0), (1011, 1011, 0), (13, 17, 1), (1018, 1018, 1), (20, 24, 2), (1025, 1025, 2), (27, 31, 3), (1032, 1032, 3), (34, 38, 4), (1039, 1039, 4), (41, 45, 5), (1046, 1046, 5)])) (rg 8) (aq5 s t []) [(4, bA false)] fun G => b7 (wp_ret ?_); exact B5 false G (rg 8) (sr3 (by omega))
      ·
       have q4 := eq_of_beq h4; cases h5 : (n4 s.body t.body)
       · refine k8 G (t6 (l8 17 [0, 4] (av0 s.index t.index) (l8 24 [1, 5] (av0 s.value t.value) (l8 38 [2, 6] (ih1 t.body) t5))) (fc h0 (fc h1 (fc h2 (fc h3 (fc h4 (fc h5 fz)))))) (us [(6, 10, 0), (1011, 1011, 0), (13, 17, 1), (1018, 1018, 1), (20, 24, 2), (1025, 1025, 2), (27, 31, 3), (1032, 1032, 3), (34, 38, 4), (1039, 1039, 4), (41, 45, 5), (1046, 1046, 5)])) (rg 8) (aq5 s t []) [(4, bA false)] fun G => b7 (wp_ret ?_); exact B5 false G (rg 8) (sr6 (by with_reducible assumption))
       · refine k8 G (t6 (l8 17 [0, 4] (av0 s.index t.index) (l8 24 [1, 5] (av0 s.value t.value) (l8 38 [2, 6] (ih1 t.body) (l8 45 [3, 7] (ih2 t.els) t5)))) (fc h0 (fc h1 (fc h2 (fc h3 (fc h4 (fc h5 fz)))))) (us [(6, 10, 0), (1011, 1011, 0), (13, 17, 1), (1018, 1018, 1), (20, 24, 2), (1025, 1025, 2), (27, 31, 3), (1032, 1032, 3), (34, 38, 4), (1039, 1039, 4), (41, 45, 5), (1046, 1046, 5)])) (rg 8) (aq5 s t []) [(4, bA (n4 s.els t.els))] fun G => b7 (wp_ret ?_); exact B5 (n4 s.els t.els) G (rg 8) (sr8 (by omega) (by omega) (by omega) (by with_reducible assumption) (by with_reducible assumption) (by with_reducible assumption))
theorem b71 (s : b6) : ∀ (t : b6), k6.ok Tryz.prog (isS s t) :=
 b6.ind (P := fun s => ∀ (t : b6), k6.ok Tryz.prog (isS s t)) (fun k t i v c b e h1 h2 u => bY7 ⟨k, t, i, v, c, b, e⟩ u (fun m => bv5 b m (aH8 b m fun s hs => h1 s hs)) fun m => bv5 e m (aH8 e m fun s hs => h2 s hs)) s
theorem b37 (l m : List b6) : k6.ok Tryz.prog (isB l m) := bv5 l m (aH8 l m fun s _ => b71 s)
theorem N6 (xs xt : List Int) (l : List b6) (ys yt : List Int) (m : List b6) : k6.ok Tryz.prog (F6 18 [pA 0, pA 3] [dI xs, dI xt, dT l, dI ys, dI yt, dT m] (bA (decide (xs = ys) && (decide (xt = yt) && n4 l m)))) := by
  refine A2 24 Tryz.func18 [dI xs, dI xt, dT l, dI ys, dI yt, dT m] [(0, pA 0), (1, pA 3)] fun G => ?_; refine wp_seq (k8 G d9 [0, 1, 2, 3, 4, 5, 6, 14] [dI xs, dI xt, dT l, dI ys, dI yt, dT m, .box (pL 0), .box (pL 3)] [(2, .ptr 6 0), (3, .ptr 7 0), (4, bA false)] fun G => b7 (wp_seq ?_)); cases h0 : (decide (xs = ys))
  · have q0 := dFf h0; refine k8 G (t6 (l8 4 [0, 3] (aj7 xs ys) t5) (fc h0 (fc (b := false) rfl fz)) (us [(6, 10, 0), (1011, 1011, 0), (13, 17, 1), (1018, 1018, 1)])) (rg 6) [dI xs, dI xt, dT l, dI ys, dI yt, dT m] [(4, bA false)] fun G => b7 (wp_ret ?_); exact F2 G (rg 6)
  ·
   have q0 := dTt h0; cases h1 : (decide (xt = yt))
   · have q1 := dFf h1; refine k8 G (t6 (l8 4 [0, 3] (aj7 xs ys) (l8 10 [1, 4] (aj7 xt yt) t5)) (fc h0 (fc h1 fz)) (us [(6, 10, 0), (1011, 1011, 0), (13, 17, 1), (1018, 1018, 1)])) (rg 6) [dI xs, dI xt, dT l, dI ys, dI yt, dT m] [(4, bA false)] fun G => b7 (wp_ret ?_); exact F2 G (rg 6)
   · have q1 := dTt h1; refine k8 G (t6 (l8 4 [0, 3] (aj7 xs ys) (l8 10 [1, 4] (aj7 xt yt) (l8 17 [2, 5] (b37 l m) t5))) (fc h0 (fc h1 fz)) (us [(6, 10, 0), (1011, 1011, 0), (13, 17, 1), (1018, 1018, 1)])) (rg 6) [dI xs, dI xt, dT l, dI ys, dI yt, dT m] [(4, bA (n4 l m))] fun G => b7 (wp_ret ?_); exact F2 G (rg 6)
end Go.Proofs.YthikdkjjdeehoaaGreat

namespace Go.Proofs.YthikdkjjdeehoaaGreat
set_option linter.unusedVariables false
set_option linter.unusedSimpArgs false
open Go Go.RowKit Go.ChangeShapes Go.WideShapes Go.Deep
section
variable {H : Type} {enc : TypeId × Value → H} {W : World}
theorem aN2 {fuel : Nat} {t : TypeId} {v : Value} {x : DataW H × List MemPlace} (ht : Tryz.prog.underlying t = some (.slice 5))
  (h : DataW.trod enc Tryz.prog W 0 (fun _ => true) true fuel t [v] = some x) : ∃ l : List UInt8, Z9 W v l.length 1 (l.map fun b => Value.int .u8 (b.toNat : Int)) := by
 obtain ⟨n, m, C, hr, hC, hx⟩ := a18 ht (sz := 1) (by kernel_rfl) (by omega) h
 obtain ⟨g, hg⟩ := choose_lt (α := UInt8) (n := n) (p := fun i b => C i = [.int .u8 (b.toNat : Int)]) (fun i hi => by
  obtain ⟨y, hy⟩ := hx i hi
  obtain ⟨z, hz, _, hw⟩ := DataW.trod_int Tryz.underlying5 hy
  simp only [Lit.wf, b86, decide_eq_true_eq] at hw
  have h0 : (0 : Int) ≤ z := hw.1
  have h1 : z ≤ 255 := hw.2
  refine ⟨UInt8.ofNat z.toNat, ?_⟩
  rw [hz]
  have e : (UInt8.ofNat z.toNat).toNat = z.toNat := by
   rw [UInt8.toNat_ofNat']; omega
  rw [e, Int.toNat_of_nonneg h0])
 refine ⟨(cb2 n).map g, ?_⟩
 rw [List.length_map, List.length_range, ← aI5 n C (fun b => Value.int .u8 (b.toNat : Int)) g hg]
 exact hr
end
end Go.Proofs.YthikdkjjdeehoaaGreat
