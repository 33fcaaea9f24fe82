/- Part 5: functions on the way, plain laws. Conditions: as said. -/
import Derived.Test.YtmokkddidcmglaaGreatK1
import Derived.Test.YtmokkddidcmglaaGreatK2
import Derived.Test.YtmokkddidcmglaaGreatK4
set_option maxRecDepth 100000
set_option maxHeartbeats 16000000
set_option linter.unusedVariables false
set_option linter.unusedSimpArgs false
open Bool renaming and_eq_true → b73, not_eq_false' → cb4, not_eq_true' → ca5
open Inhabited renaming default → b71
open List renaming all_eq_true → b80, append_assoc → cb7, eq_nil_of_length_eq_zero → b96, getD_eq_getElem?_getD → b75, getElem?_append_left → b99, getElem?_cons_succ → b82, getElem?_cons_zero → b81, getElem?_eq_getElem → b72, getElem?_eq_none → b98, getElem?_eq_some_iff → b77, getElem_mem → b91, length_append → b74, length_cons → b79, length_nil → b85, length_replicate → b90, length_set → b95, map_cons → ca1, mem_append → b87, mem_cons_of_mem → ca6, mem_cons_self → ca7, mem_singleton → b94, replicate → b70, take → b83, take_of_length_le → b89
open Nat renaming le_refl → b76, le_trans → b97, lt_or_ge → b93, zero_add → cb2, zero_le → b92
open True renaming intro → b84

namespace Go.Proofs.YtmokkddidcmglaaGreat
open Go Go.RowKit
abbrev stO (s : c8) : List It := [.tree (.exprs s.index.kids), .tree (.exprs s.value.kids), .tree (.stmts s.body), .tree (.stmts s.els)]
abbrev stA (s : c8) (r : Nat) : AV := .agg [iA s.kind, iA s.target, iA s.index.kind, iA s.index.value, .tref r, iA s.value.kind, iA s.value.value, .tref (r + 1), iA s.count, .tref (r + 2), .tref (r + 3)]
abbrev dsC (b : List UInt8) (vs ars : List Int) (bd : List c8) (d : Nat) (j n : Int) : l0 := ⟨92, [.ptr 0 0, pA 2, iA n], dwS b j vs ars bd, dwS b (C2 b vs.length ars.length d j).2 vs ars bd ++ stO (C2 b vs.length ars.length d j).1, stA (C2 b vs.length ars.length d j).1 5⟩
abbrev dbC (b : List UInt8) (vs ars : List Int) (bd : List c8) (d : Nat) (m : Nat) (j n c : Int) : l0 := ⟨76, [.ptr 0 0, pA 2, iA n, iA c], dwS b j vs ars bd, dwS b (G5 (C2 b vs.length ars.length d) m j).2 vs ars bd ++ [.tree (.stmts (G5 (C2 b vs.length ars.length d) m j).1)], .tref 5⟩
section
variable {b : List UInt8} {nv na d : Nat} {j : Int}
theorem bn4 (h : nm b j J7 = 2) (h1 : 0 < (na : Int)) : C2 b nv na d j = soS b nv na (j + 1) := by
 cases d <;> (rw [C2, if_pos ⟨h, by omega⟩])
theorem bS1 (h : nm b j J7 = 3) (h1 : 0 < d) : C2 b nv na (d + 1) j = ifS b nv na (C2 b nv na d) (j + 1) := by
 rw [C2, if_neg (by omega), if_pos ⟨h, by omega⟩]
theorem bS0 (h : nm b j J7 = 4) (h1 : 0 < d) : C2 b nv na (d + 1) j = rpS b (C2 b nv na d) (j + 1) := by
 rw [C2, if_neg (by omega), if_neg (by omega), if_pos ⟨h, by omega⟩]
theorem ad8 (h : ¬ (nm b j J7 = 2 ∧ 0 < (na : Int))) (h1 : d < 2 ∨ (¬ nm b j J7 = 3 ∧ ¬ nm b j J7 = 4)) : C2 b nv na d j = dfS b nv na (nm b j J7) (j + 1) := by
 match d, h1 with
 | 0, _ => rw [C2, if_neg (by omega)]
 | d + 1, h1 => rw [C2, if_neg (by omega), if_neg (by omega), if_neg (by omega)]
theorem bP6 {kd : Int} (h : kd = 5) : dfS b nv na kd j = (⟨5, pk b j nv, noE, (w6 b nv na (j + 1)).1, 0, [], []⟩, (w6 b nv na (j + 1)).2) := by rw [dfS, if_pos h]
theorem aY4 {kd : Int} (h : ¬ kd = 5) : dfS b nv na kd j = (⟨1, pk b j nv, noE, (w6 b nv na (j + 1)).1, 0, [], []⟩, (w6 b nv na (j + 1)).2) := by rw [dfS, if_neg h]
end
section
variable (b : List UInt8) {j : Int}
theorem b60 (r0 : 0 ≤ j) (r1 : j ≤ 1000000000) : 0 ≤ nm b j ibL ∧ nm b j ibL ≤ 2 := aI3 b (by simp) a63 r0 r1
theorem b59 (r0 : 0 ≤ j) (r1 : j ≤ 1000000000) : 0 ≤ nm b j ieL ∧ nm b j ieL ≤ 2 := aI3 b (by simp) a61 r0 r1
theorem b24 (r0 : 0 ≤ j) (r1 : j ≤ 1000000000) : 0 ≤ nm b j rbL ∧ nm b j rbL ≤ 2 := aI3 b (by simp) a37 r0 r1
theorem bG8 (d : Nat) : (d = 0 ∧ cS (d - 1) = 402 ∧ cS d ≤ 2010) ∨ cS d = 402 + 4 * cS (d - 1) := by
 cases d with
 | zero => exact .inl ⟨rfl, rfl, by decide⟩
 | succ d => exact .inr rfl
end
section
variable {b : List UInt8} {nv na d : Nat} {j : Int}
theorem a21 (h : nm b j J7 = 3) (h1 : 1 < d) : C2 b nv na d j = ifS b nv na (C2 b nv na (d - 1)) (j + 1) := by
 match d, h1 with
 | d + 1, h1 => exact bS1 h (by omega)
theorem a20 (h : nm b j J7 = 4) (h1 : 1 < d) : C2 b nv na d j = rpS b (C2 b nv na (d - 1)) (j + 1) := by
 match d, h1 with
 | d + 1, h1 => exact bS0 h (by omega)
end
abbrev bH6 (b : List UInt8) (vs : List Int) (ars : List Int) (d : Nat) (j : Int) (k : Nat) := C2 b vs.length ars.length d (G5 (C2 b vs.length ars.length d) k j).snd
abbrev aR2 (n : Int) (c : Int) (r0 : List (Nat × AV)) : List (Nat × AV) := (0, .ptr 0 0) :: (2, iA n) :: (3, iA c) :: (5, .ptr 5 0) :: (8, .v (.slice none 0 0)) :: r0
theorem bB7 (b : List UInt8) (vs ars : List Int) (bd : List c8) (d m : Nat) (ih : ∀ (j n : Int), n = d → 0 ≤ j → j + cS d ≤ 600000000 → l0.ok Tryz.prog (dsC b vs ars bd d j n)) (j n c : Int) (hn : n = d) (hm : c = m) (hm2 : m ≤ 4) (B : Int) (hB : (m : Int) * cS d ≤ B) (r0 : 0 ≤ j) (r1 : j + B ≤ 600000000) : l0.ok Tryz.prog (dbC b vs ars bd d m j n c) := by
 refine J8 25 Tryz.func76 [.box [.ref 1, iA j], dY b, dI vs, dI ars, dT bd] [(0, .ptr 0 0), (1, pA 2), (2, iA n), (3, iA c)] fun G => ?_; have hc := at4 d; refine wp_seq (i9 G e6 (rg 6) [.box [.ref 1, iA j], dY b, dI vs, dI ars, dT bd, .box (pL 2)] (aR2 n c []) fun G => b0 (wp_seq (i9 G e6 (rg 7) [.box [.ref 1, iA j], dY b, dI vs, dI ars, dT bd, .box (pL 2), .tree (D.stmts [])] (aR2 n c [(9, .tref 6)]) fun G => b0 (wp_seq (wp_seq (G9 G e6 (aR2 n c [(9, .tref 6), (10, iA 0)]) fun G => b0 (wp_block ?_))))))); refine x6 (κ := Nat) (fun k => k ≤ m) (fun k => m - k) (fun k => [.box [.ref 1, iA (G5 (C2 b vs.length ars.length d) k j).2], dY b, dI vs, dI ars, dT bd, .box (pL 2), .tree (.stmts (G5 (C2 b vs.length ars.length d) k j).1)]) (fun k => [(0, .ptr 0 0), (2, iA n), (3, iA c), (5, .ptr 5 0), (8, .v (.slice none 0 0)), (9, .tref 6), (10, iA k)]) 0 (by omega) (t7.at G _ _) ?_; clear G; intro k ρ a w hp G; replace G := t7.at G [.box [.ref 1, iA (G5 (C2 b vs.length ars.length d) k j).snd], dY b, dI vs, dI ars, dT bd, .box (pL 2), .tree (D.stmts (G5 (C2 b vs.length ars.length d) k j).fst)] (aR2 n c [(9, .tref 6), (10, iA k)]); have hkb := bK2 b vs.length ars.length (k := j) (i := k) hB (by omega) r0 (by omega); have hkl : (G5 (C2 b vs.length ars.length d) k j).1.length = k := aO9 _ _ _; refine wp_seq (wp_seq (l6 G e6 [(14, bA (decide ((k : Int) < c)))] fun G => b0 (rcD G (fun h0 q0 => ?_) fun h0 q0 => ?_)))
 ·refine wp_exit (v9 (v9 (v6 (b0 (wp_seq (i9 G e6 [0, 1, 2, 3, 4, 6] [.box [.ref 1, iA (G5 (C2 b vs.length ars.length d) k j).snd], dY b, dI vs, dI ars, dT bd, .tree (D.stmts (G5 (C2 b vs.length ars.length d) k j).fst)] [(8, .tref 5)] fun G => b0 (wp_ret ?_))))))); exact J9 G (rg 6) (by show _ = mR (rg 6) [.box [.ref 1, iA (G5 (C2 b vs.length ars.length d) m j).snd], dY b, dI vs, dI ars, dT bd, .tree (D.stmts (G5 (C2 b vs.length ars.length d) m j).fst)]; rw [show m = k by omega] <;> rfl)
 ·refine wp_skip (b0 (wp_seq (wp_block (K6 G (v5 4 (rg 5) (ih ((G5 (C2 b vs.length ars.length d) k j).snd) n (by assumption) (by omega) (by have := bZ5 b vs.length ars.length (k := j) (i := k) hB (by omega) r0 (by omega); omega))) [0, 1, 2, 3, 4, 5, 55] [.box [.ref 1, iA (bH6 b vs ars d j k).snd], dY b, dI vs, dI ars, dT bd, .box (pL 2), .tree (D.stmts ((G5 (C2 b vs.length ars.length d) k j).fst ++ [qzS (bH6 b vs ars d j k).fst]))] (aR2 n c [(9, .tref 6), (10, iA k)]) (aP ((G5 (C2 b vs.length ars.length d) k j).fst.length + 1) 152 []) (aK (by omega) b84) fun G => i8 (b0 (D0 G e6 [(10, iA ((k : Int) + 1))] [wO ((k : Int) + 1)] (o1 (by omega)) fun G => b0 ?_)))))); exact L0 G (k + 1) (by omega) (by omega) (rg 7) (by have e1 : ((G5 (C2 b vs.length ars.length d) (k + 1) j).fst : List c8) = ((G5 (C2 b vs.length ars.length d) k j).fst ++ [qzS (C2 b vs.length ars.length d (G5 (C2 b vs.length ars.length d) k j).snd).fst]) := (by show _ ++ [_] = _ ++ [_]; unfold qzS; rw [d8.eta, d8.eta, c8.eta]; done); (first | rw [e1] | simp only [e1]) <;> rfl)
abbrev aG1 (b : List UInt8) (vs : List Int) (ars : List Int) (d : Nat) (j : Int) := G5 (C2 b vs.length ars.length (d - 1)) (nm b (w6 b vs.length ars.length (j + 1)).snd ibL).toNat ((w6 b vs.length ars.length (j + 1)).snd + 1)
abbrev ba0 (b : List UInt8) (vs : List Int) (ars : List Int) (d : Nat) (j : Int) := G5 (C2 b vs.length ars.length (d - 1)) (nm b (aG1 b vs ars d j).snd ieL).toNat ((aG1 b vs ars d j).snd + 1)
abbrev S8 (b : List UInt8) (vs : List Int) (ars : List Int) (d : Nat) (j : Int) : AV := (.agg [iA (C2 b vs.length ars.length d j).fst.kind, iA (C2 b vs.length ars.length d j).fst.target, iA (C2 b vs.length ars.length d j).fst.index.kind, iA (C2 b vs.length ars.length d j).fst.index.value, .tref 5, iA (C2 b vs.length ars.length d j).fst.value.kind, iA (C2 b vs.length ars.length d j).fst.value.value, .tref 6, iA (C2 b vs.length ars.length d j).fst.count, .tref 7, .tref 8])
abbrev S7 (b : List UInt8) (vs : List Int) (ars : List Int) (bd : List c8) (d : Nat) (j : Int) : List It := [.box [.ref 1, iA (C2 b vs.length ars.length d j).snd], dY b, dI vs, dI ars, dT bd, .tree (D.exprs (C2 b vs.length ars.length d j).fst.index.kids), .tree (D.exprs (C2 b vs.length ars.length d j).fst.value.kids), .tree (D.stmts (C2 b vs.length ars.length d j).fst.body), .tree (D.stmts (C2 b vs.length ars.length d j).fst.els)]
abbrev al3 : It := .box [iA 0, iA 0, iA 0, iA 0, .v (.slice none 0 0), iA 0, iA 0, .v (.slice none 0 0), iA 0, .v (.slice none 0 0), .v (.slice none 0 0)]
abbrev a99 (b : List UInt8) (vs : List Int) (ars : List Int) (j : Int) : It := .box [iA 1, iA (pk b (j + 1) (vs.length : Int)), iA 0, iA 0, .v (.slice none 0 0), iA (w6 b vs.length ars.length (j + 1 + 1)).fst.kind, iA (w6 b vs.length ars.length (j + 1 + 1)).fst.value, .tref 7, iA 0, .v (.slice none 0 0), .v (.slice none 0 0)]
abbrev a98 (b : List UInt8) (vs : List Int) (ars : List Int) (j : Int) : It := .box [iA 1, iA (pk b (j + 1) (vs.length : Int)), iA 0, iA 0, .v (.slice none 0 0), iA (w6 b vs.length ars.length (j + 1 + 1)).fst.kind, iA (w6 b vs.length ars.length (j + 1 + 1)).fst.value, .tref 6, iA 0, .v (.slice none 0 0), .v (.slice none 0 0)]
abbrev a97 (b : List UInt8) (vs : List Int) (j : Int) : It := .box [iA 1, iA (pk b (j + 1) (vs.length : Int)), iA 0, iA 0, .v (.slice none 0 0), iA 0, iA 0, .v (.slice none 0 0), iA 0, .v (.slice none 0 0), .v (.slice none 0 0)]
abbrev ah9 (b : List UInt8) (vs : List Int) (ars : List Int) (j : Int) : It := .tree (D.exprs (w6 b vs.length ars.length (j + 1 + 1)).fst.kids)
abbrev Y6 (b : List UInt8) (vs : List Int) (ars : List Int) (j : Int) : It := .box [.ref 1, iA (w6 b vs.length ars.length (j + 1 + 1)).snd]
abbrev aK6 : It := .box [iA 1, iA 0, iA 0, iA 0, .v (.slice none 0 0), iA 0, iA 0, .v (.slice none 0 0), iA 0, .v (.slice none 0 0), .v (.slice none 0 0)]
abbrev a93 (b : List UInt8) (vs : List Int) (ars : List Int) (bd : List c8) (j : Int) (r0 : List It) : List It := .box [.ref 1, iA (w6 b vs.length ars.length (j + 1 + 1)).snd] :: dY b :: dI vs :: dI ars :: dT bd :: .box [iA 1, iA (pk b (j + 1) (vs.length : Int)), iA 0, iA 0, .tref 7, iA (w6 b vs.length ars.length (j + 1 + 1)).fst.kind, iA (w6 b vs.length ars.length (j + 1 + 1)).fst.value, .tref 6, iA 0, .tref 8, .tref 9] :: .tree (D.exprs (w6 b vs.length ars.length (j + 1 + 1)).fst.kids) :: .tree (D.exprs []) :: .tree (D.stmts []) :: r0
abbrev a92 (b : List UInt8) (vs : List Int) (ars : List Int) (bd : List c8) (j : Int) (r0 : List It) : List It := .box [.ref 1, iA (w6 b vs.length ars.length (j + 1 + 1)).snd] :: dY b :: dI vs :: dI ars :: dT bd :: .box [iA 1, iA (pk b (j + 1) (vs.length : Int)), iA 0, iA 0, .tref 7, iA (w6 b vs.length ars.length (j + 1 + 1)).fst.kind, iA (w6 b vs.length ars.length (j + 1 + 1)).fst.value, .tref 6, iA 0, .tref 8, .v (.slice none 0 0)] :: .tree (D.exprs (w6 b vs.length ars.length (j + 1 + 1)).fst.kids) :: .tree (D.exprs []) :: r0
abbrev a91 (b : List UInt8) (vs : List Int) (ars : List Int) (bd : List c8) (j : Int) (r0 : List It) : List It := .box [.ref 1, iA (w6 b vs.length ars.length (j + 1 + 1)).snd] :: dY b :: dI vs :: dI ars :: dT bd :: .box [iA 1, iA (pk b (j + 1) (vs.length : Int)), iA 0, iA 0, .tref 7, iA (w6 b vs.length ars.length (j + 1 + 1)).fst.kind, iA (w6 b vs.length ars.length (j + 1 + 1)).fst.value, .tref 6, iA 0, .v (.slice none 0 0), .v (.slice none 0 0)] :: .tree (D.exprs (w6 b vs.length ars.length (j + 1 + 1)).fst.kids) :: r0
abbrev W9 (r0 : List (Nat × AV)) : List (Nat × AV) := (0, .ptr 0 0) :: (4, .ptr 5 0) :: (6, .ptr 6 0) :: (8, .ptr 7 0) :: r0
abbrev aR1 (b : List UInt8) (vs : List Int) (ars : List Int) (d : Nat) (j : Int) (r0 : List It) : List It := .box [.ref 1, iA (G5 (C2 b vs.length ars.length (d - 1)) (nm b (j + 1 + 1) rbL).toNat (j + 1 + 1 + 1)).snd] :: dY b :: dI vs :: dI ars :: r0
abbrev ak9 (n : Int) (r0 : List (Nat × AV)) : List (Nat × AV) := (0, .ptr 0 0) :: (2, iA n) :: (4, .ptr 5 0) :: (6, .ptr 6 0) :: r0
abbrev R1 (b : List UInt8) (vs : List Int) (ars : List Int) (bd : List c8) (r0 : List It) : List It := dY b :: dI vs :: dI ars :: dT bd :: .box (pL 2) :: al3 :: r0
abbrev a90 (b : List UInt8) (vs : List Int) (ars : List Int) (j : Int) (r0 : List It) : List It := .tree (D.exprs (n9 b (vs.length : Int) (j + 1 + 1)).kids) :: .tree (D.exprs (w6 b vs.length ars.length (j + 1 + 1 + 2)).fst.kids) :: r0
theorem bo8 (b : List UInt8) (vs ars : List Int) (bd : List c8) (d : Nat) (hd : d ≤ 3) (ih : ∀ (j n c : Int), 1 < d → n = (d : Int) - 1 → 0 ≤ c → c ≤ 2 → 0 ≤ j → j + 2 * cS (d - 1) ≤ 600000000 → l0.ok Tryz.prog (dbC b vs ars bd (d - 1) c.toNat j n c)) (j n : Int) (hn : n = d) (r0 : 0 ≤ j) (r1 : j + cS d ≤ 600000000) : l0.ok Tryz.prog (dsC b vs ars bd d j n) := by
  refine J8 100 Tryz.func92 [.box [.ref 1, iA j], dY b, dI vs, dI ars, dT bd] [(0, .ptr 0 0), (1, pA 2), (2, iA n)] fun G => ?_; have hc := at4 (d - 1); have hcd := bG8 d; have hcn := at4 d; have hsm := bb2 b vs.length ars.length (k := j + 1) (by omega) (by omega); have hib := b60 b (j := (w6 b vs.length ars.length (j + 1)).2) (by omega) (by omega); have hbb := bK2 b vs.length ars.length (k := (w6 b vs.length ars.length (j + 1)).2 + 1) (i := (nm b (w6 b vs.length ars.length (j + 1)).2 ibL).toNat) (bU7 hib.1 hib.2 (show 0 ≤ cS (d - 1) by omega)) (b76 _) (by omega) (by omega); have hie := b59 b (j := (G5 (C2 b vs.length ars.length (d - 1)) (nm b (w6 b vs.length ars.length (j + 1)).2 ibL).toNat ((w6 b vs.length ars.length (j + 1)).2 + 1)).2) (by omega) (by omega); have hrb := b24 b (j := j + 1 + 1) (by omega) (by omega); refine wp_seq (i9 G e6 [0, 1, 2, 3, 4, 5, 13] (.box [.ref 1, iA j] :: (R1 b vs ars bd [])) (ak9 n []) fun G => b0 (wp_seq (i9 G (v5 2 [0, 1, 15] (l0.lend (O5 b j J7 (List.cons_ne_nil _ _) (by assumption) (by omega)) [.no, .no, .row 3])) (rg 7) (.box [.ref 1, iA (j + 1)] :: (R1 b vs ars bd [])) (ak9 n [(7, iA (nm b j J7))]) fun G => b0 (wp_seq (i9 G e6 [0, 1, 2, 3, 4, 5, 6, 23] (.box [.ref 1, iA (j + 1)] :: (R1 b vs ars bd [.box [iA (nm b j J7), iA 0, iA 0, iA 0, .v (.slice none 0 0), iA 0, iA 0, .v (.slice none 0 0), iA 0, .v (.slice none 0 0), .v (.slice none 0 0)]])) (ak9 n [(7, iA (nm b j J7)), (8, .ptr 7 0)]) fun G => b0 (wp_seq (wp_block (wp_seq ?_)))))))); cases h0 : (nm b j J7 == 2)
  ·
   have q0 := ne_of_beq_false h0; refine l6 G (J3 (fc h0 fz) (us [(3, 6, 0), (1007, 1007, 0)])) [(27, bA false)] fun G => b0 (rF G false (by kernel_rfl) (wp_seq ?_)); cases h1 : (nm b j J7 == 3)
   ·
    have q1 := ne_of_beq_false h1; refine l6 G (J3 (fc h1 fz) [(3, 0), (4, 0), (1005, 0)]) [(50, bA false)] fun G => b0 (rF G false (by kernel_rfl) (wp_seq ?_)); cases h2 : (nm b j J7 == 4)
    ·
     have q2 := ne_of_beq_false h2; refine l6 G (J3 (fc h2 fz) [(3, 0), (4, 0), (1005, 0)]) [(79, bA false)] fun G => b0 (rF G false (by kernel_rfl) (wp_seq (wp_seq (l6 G e6 [(15, bA (nm b j J7 != 5))] fun G => b0 (rcN G (fun h3 q3 => ?_) fun h3 q3 => ?_)))))
     · refine wp_skip (b0 (wp_seq (i9 G (v5 4 [0, 1] (s4 b (j + 1) ((vs.length : Int)) (by omega) (by omega))) (rg 8) (.box [.ref 1, iA (j + 1 + 1)] :: (R1 b vs ars bd [.box [iA (nm b j J7), iA (pk b (j + 1) (vs.length : Int)), iA 0, iA 0, .v (.slice none 0 0), iA 0, iA 0, .v (.slice none 0 0), iA 0, .v (.slice none 0 0), .v (.slice none 0 0)]])) (W9 []) fun G => b0 (i9 G (v5 2 (rg 5) (ab9 b vs ars bd (j + 1 + 1) (by omega) (by omega))) [0, 1, 2, 3, 4, 6, 7, 24] [Y6 b vs ars j, dY b, dI vs, dI ars, dT bd, al3, .box [iA (nm b j J7), iA (pk b (j + 1) (vs.length : Int)), iA 0, iA 0, .v (.slice none 0 0), iA (w6 b vs.length ars.length (j + 1 + 1)).fst.kind, iA (w6 b vs.length ars.length (j + 1 + 1)).fst.value, .tref 7, iA 0, .v (.slice none 0 0), .v (.slice none 0 0)], ah9 b vs ars j] [(6, .ptr 5 0), (8, .ptr 6 0)] fun G => i8 (b0 (wp_seq (i9 G e6 [0, 1, 2, 3, 4, 5, 7] [Y6 b vs ars j, dY b, dI vs, dI ars, dT bd, .box [iA (nm b j J7), iA (pk b (j + 1) (vs.length : Int)), iA 0, iA 0, .v (.slice none 0 0), iA (w6 b vs.length ars.length (j + 1 + 1)).fst.kind, iA (w6 b vs.length ars.length (j + 1 + 1)).fst.value, .tref 6, iA 0, .v (.slice none 0 0), .v (.slice none 0 0)], ah9 b vs ars j] [(6, .ptr 5 0)] fun G => b0 (wp_ret ?_)))))))); obtain ⟨ρ, G⟩ := G.nilT 7 (.exprs []) [.box [.ref 1, iA (w6 b vs.length ars.length (j + 1 + 1)).snd], dY b, dI vs, dI ars, dT bd, .box [iA (nm b j J7), iA (pk b (j + 1) (vs.length : Int)), iA 0, iA 0, .tref 7, iA (w6 b vs.length ars.length (j + 1 + 1)).fst.kind, iA (w6 b vs.length ars.length (j + 1 + 1)).fst.value, .tref 6, iA 0, .v (.slice none 0 0), .v (.slice none 0 0)], .tree (D.exprs (w6 b vs.length ars.length (j + 1 + 1)).fst.kids)] [(6, .ptr 5 0)]; obtain ⟨ρ, G⟩ := G.nilT 8 (.stmts []) [.box [.ref 1, iA (w6 b vs.length ars.length (j + 1 + 1)).snd], dY b, dI vs, dI ars, dT bd, .box [iA (nm b j J7), iA (pk b (j + 1) (vs.length : Int)), iA 0, iA 0, .tref 7, iA (w6 b vs.length ars.length (j + 1 + 1)).fst.kind, iA (w6 b vs.length ars.length (j + 1 + 1)).fst.value, .tref 6, iA 0, .tref 8, .v (.slice none 0 0)], .tree (D.exprs (w6 b vs.length ars.length (j + 1 + 1)).fst.kids), .tree (D.exprs [])] [(6, .ptr 5 0)]; obtain ⟨ρ, G⟩ := G.nilT 9 (.stmts []) [.box [.ref 1, iA (w6 b vs.length ars.length (j + 1 + 1)).snd], dY b, dI vs, dI ars, dT bd, .box [iA (nm b j J7), iA (pk b (j + 1) (vs.length : Int)), iA 0, iA 0, .tref 7, iA (w6 b vs.length ars.length (j + 1 + 1)).fst.kind, iA (w6 b vs.length ars.length (j + 1 + 1)).fst.value, .tref 6, iA 0, .tref 8, .tref 9], .tree (D.exprs (w6 b vs.length ars.length (j + 1 + 1)).fst.kids), .tree (D.exprs []), .tree (D.stmts [])] [(6, .ptr 5 0)]; exact rxv (.agg [iA (nm b j J7), iA (pk b (j + 1) (vs.length : Int)), iA 0, iA 0, .tref 7, iA (w6 b vs.length ars.length (j + 1 + 1)).fst.kind, iA (w6 b vs.length ars.length (j + 1 + 1)).fst.value, .tref 6, iA 0, .tref 8, .tref 9]) G [0, 1, 2, 3, 4, 7, 6, 8, 9] (by show _ = AV.ren (nth [0, 1, 2, 3, 4, 7, 6, 8, 9]) (S8 b vs ars d j); unfold S8; have e1 : ((C2 b vs.length ars.length d j).fst.kind : Int) = (nm b j J7) := (by rw [ad8 (by omega) (by omega), bP6 (by omega)]; show (5 : Int) = _; omega); rw [e1, ad8 (by omega) (by omega), bP6 (by omega)] <;> rfl) (by show _ = mR [0, 1, 2, 3, 4, 7, 6, 8, 9] (S7 b vs ars bd d j); unfold S7; rw [ad8 (by omega) (by omega), bP6 (by omega)] <;> rfl)
     · refine i9 G e6 (rg 8) (.box [.ref 1, iA (j + 1)] :: (R1 b vs ars bd [aK6])) (W9 []) fun G => b0 (wp_seq (i9 G (v5 4 [0, 1] (s4 b (j + 1) ((vs.length : Int)) (by omega) (by omega))) (rg 8) (.box [.ref 1, iA (j + 1 + 1)] :: (R1 b vs ars bd [a97 b vs j])) (W9 []) fun G => b0 (i9 G (v5 2 (rg 5) (ab9 b vs ars bd (j + 1 + 1) (by omega) (by omega))) [0, 1, 2, 3, 4, 6, 7, 24] [Y6 b vs ars j, dY b, dI vs, dI ars, dT bd, al3, a99 b vs ars j, ah9 b vs ars j] [(6, .ptr 5 0), (8, .ptr 6 0)] fun G => i8 (b0 (wp_seq (i9 G e6 [0, 1, 2, 3, 4, 5, 7] [Y6 b vs ars j, dY b, dI vs, dI ars, dT bd, a98 b vs ars j, ah9 b vs ars j] [(6, .ptr 5 0)] fun G => b0 (wp_ret ?_))))))); obtain ⟨ρ, G⟩ := G.nilT 7 (.exprs []) (a91 b vs ars bd j []) [(6, .ptr 5 0)]; obtain ⟨ρ, G⟩ := G.nilT 8 (.stmts []) (a92 b vs ars bd j []) [(6, .ptr 5 0)]; obtain ⟨ρ, G⟩ := G.nilT 9 (.stmts []) (a93 b vs ars bd j []) [(6, .ptr 5 0)]; exact rxv (.agg [iA 1, iA (pk b (j + 1) (vs.length : Int)), iA 0, iA 0, .tref 7, iA (w6 b vs.length ars.length (j + 1 + 1)).fst.kind, iA (w6 b vs.length ars.length (j + 1 + 1)).fst.value, .tref 6, iA 0, .tref 8, .tref 9]) G [0, 1, 2, 3, 4, 7, 6, 8, 9] (by show _ = AV.ren (nth [0, 1, 2, 3, 4, 7, 6, 8, 9]) (S8 b vs ars d j); unfold S8; rw [ad8 (by omega) (by omega), aY4 (by omega)] <;> rfl) (by show _ = mR [0, 1, 2, 3, 4, 7, 6, 8, 9] (S7 b vs ars bd d j); unfold S7; rw [ad8 (by omega) (by omega), aY4 (by omega)] <;> rfl)
    ·
     have q2 := eq_of_beq h2; refine l6 G (J3 (fc h2 fz) [(3, 0), (4, 0), (1005, 0)]) [(79, bA (decide (n > 1)))] fun G => b0 (rcD G (fun h4 q4 => ?_) fun h4 q4 => ?_)
     ·
      refine wp_seq (wp_seq (G9 G e6 (W9 [(15, bA (nm b j J7 != 5))]) fun G => b0 ?_)); cases h5 : (nm b j J7 != 5)
      · have q5 := bne_eq_false_iff_eq.1 h5; exact False.elim (by omega)
      · have q5 := bne_iff_ne.1 h5; refine rT G _ h5 (i9 G e6 (rg 8) (.box [.ref 1, iA (j + 1)] :: (R1 b vs ars bd [aK6])) (W9 []) fun G => b0 (wp_seq (i9 G (v5 4 [0, 1] (s4 b (j + 1) ((vs.length : Int)) (by omega) (by omega))) (rg 8) (.box [.ref 1, iA (j + 1 + 1)] :: (R1 b vs ars bd [a97 b vs j])) (W9 []) fun G => b0 (i9 G (v5 2 (rg 5) (ab9 b vs ars bd (j + 1 + 1) (by omega) (by omega))) [0, 1, 2, 3, 4, 6, 7, 24] [Y6 b vs ars j, dY b, dI vs, dI ars, dT bd, al3, a99 b vs ars j, ah9 b vs ars j] [(6, .ptr 5 0), (8, .ptr 6 0)] fun G => i8 (b0 (wp_seq (i9 G e6 [0, 1, 2, 3, 4, 5, 7] [Y6 b vs ars j, dY b, dI vs, dI ars, dT bd, a98 b vs ars j, ah9 b vs ars j] [(6, .ptr 5 0)] fun G => b0 (wp_ret ?_)))))))); obtain ⟨ρ, G⟩ := G.nilT 7 (.exprs []) (a91 b vs ars bd j []) [(6, .ptr 5 0)]; obtain ⟨ρ, G⟩ := G.nilT 8 (.stmts []) (a92 b vs ars bd j []) [(6, .ptr 5 0)]; obtain ⟨ρ, G⟩ := G.nilT 9 (.stmts []) (a93 b vs ars bd j []) [(6, .ptr 5 0)]; exact rxv (.agg [iA 1, iA (pk b (j + 1) (vs.length : Int)), iA 0, iA 0, .tref 7, iA (w6 b vs.length ars.length (j + 1 + 1)).fst.kind, iA (w6 b vs.length ars.length (j + 1 + 1)).fst.value, .tref 6, iA 0, .tref 8, .tref 9]) G [0, 1, 2, 3, 4, 7, 6, 8, 9] (by show _ = AV.ren (nth [0, 1, 2, 3, 4, 7, 6, 8, 9]) (S8 b vs ars d j); unfold S8; rw [ad8 (by omega) (by omega), aY4 (by omega)] <;> rfl) (by show _ = mR [0, 1, 2, 3, 4, 7, 6, 8, 9] (S7 b vs ars bd d j); unfold S7; rw [ad8 (by omega) (by omega), aY4 (by omega)] <;> rfl)
     · refine wp_seq (i9 G (v5 2 [0, 1, 16] (l0.lend (O5 b (j + 1) rcL (by simp [h0, h1, h2, h4]) (by omega) (by omega)) [.no, .no, .row 3])) (rg 8) (.box [.ref 1, iA (j + 1 + 1)] :: (R1 b vs ars bd [.box [iA (nm b j J7), iA 0, iA 0, iA 0, .v (.slice none 0 0), iA 0, iA 0, .v (.slice none 0 0), iA (nm b (j + 1) rcL), .v (.slice none 0 0), .v (.slice none 0 0)]])) (ak9 n [(8, .ptr 7 0)]) fun G => b0 (H5 G (T4 (F9 6 [0, 1, 48] (l0.lend (O5 b (j + 1 + 1) rbL (by simp [h0, h1, h2, h4]) (by omega) (by omega)) [.no, .no, .row 3]) (F9 7 (rg 5) (ih (j + 1 + 1 + 1) (n - 1) (nm b (j + 1 + 1) rbL) (by omega) (by omega) (by omega) (by omega) (by omega) (by omega)) T3)) fz []) [0, 0, 0, 4, 0, 0, 48, 127, 255, 511] [0, 1, 2, 3, 4, 6, 7, 64] (aR1 b vs ars d j [dT bd, al3, .box [iA (nm b j J7), iA 0, iA 0, iA 0, .v (.slice none 0 0), iA 0, iA 0, .v (.slice none 0 0), iA (nm b (j + 1) rcL), .tref 7, .v (.slice none 0 0)], .tree (D.stmts (G5 (C2 b vs.length ars.length (d - 1)) (nm b (j + 1 + 1) rbL).toNat (j + 1 + 1 + 1)).fst)]) [(6, .ptr 5 0), (8, .ptr 6 0)] [wO (n - 1)] (o1 (by omega)) fun G => i8 (b0 (wp_seq (i9 G e6 [0, 1, 2, 3, 4, 5, 7] (aR1 b vs ars d j [dT bd, .box [iA (nm b j J7), iA 0, iA 0, iA 0, .v (.slice none 0 0), iA 0, iA 0, .v (.slice none 0 0), iA (nm b (j + 1) rcL), .tref 6, .v (.slice none 0 0)], .tree (D.stmts (G5 (C2 b vs.length ars.length (d - 1)) (nm b (j + 1 + 1) rbL).toNat (j + 1 + 1 + 1)).fst)]) [(6, .ptr 5 0)] fun G => b0 (wp_ret ?_)))))); obtain ⟨ρ, G⟩ := G.nilT 7 (.exprs []) (aR1 b vs ars d j [dT bd, .box [iA (nm b j J7), iA 0, iA 0, iA 0, .tref 7, iA 0, iA 0, .v (.slice none 0 0), iA (nm b (j + 1) rcL), .tref 6, .v (.slice none 0 0)], .tree (D.stmts (G5 (C2 b vs.length ars.length (d - 1)) (nm b (j + 1 + 1) rbL).toNat (j + 1 + 1 + 1)).fst)]) [(6, .ptr 5 0)]; obtain ⟨ρ, G⟩ := G.nilT 8 (.exprs []) (aR1 b vs ars d j [dT bd, .box [iA (nm b j J7), iA 0, iA 0, iA 0, .tref 7, iA 0, iA 0, .tref 8, iA (nm b (j + 1) rcL), .tref 6, .v (.slice none 0 0)], .tree (D.stmts (G5 (C2 b vs.length ars.length (d - 1)) (nm b (j + 1 + 1) rbL).toNat (j + 1 + 1 + 1)).fst), .tree (D.exprs [])]) [(6, .ptr 5 0)]; obtain ⟨ρ, G⟩ := G.nilT 9 (.stmts []) (aR1 b vs ars d j [dT bd, .box [iA (nm b j J7), iA 0, iA 0, iA 0, .tref 7, iA 0, iA 0, .tref 8, iA (nm b (j + 1) rcL), .tref 6, .tref 9], .tree (D.stmts (G5 (C2 b vs.length ars.length (d - 1)) (nm b (j + 1 + 1) rbL).toNat (j + 1 + 1 + 1)).fst), .tree (D.exprs []), .tree (D.exprs [])]) [(6, .ptr 5 0)]; exact rxv (.agg [iA (nm b j J7), iA 0, iA 0, iA 0, .tref 7, iA 0, iA 0, .tref 8, iA (nm b (j + 1) rcL), .tref 6, .tref 9]) G [0, 1, 2, 3, 4, 7, 8, 6, 9] (by show _ = AV.ren (nth [0, 1, 2, 3, 4, 7, 8, 6, 9]) (S8 b vs ars d j); unfold S8; have e1 : ((C2 b vs.length ars.length d j).fst.kind : Int) = (nm b j J7) := (by rw [a20 (by omega) (by omega)]; show (4 : Int) = _; omega); rw [e1, a20 (by omega) (by omega)] <;> rfl) (by show _ = mR [0, 1, 2, 3, 4, 7, 8, 6, 9] (S7 b vs ars bd d j); unfold S7; rw [a20 (by omega) (by omega)] <;> rfl)
   ·
    have q1 := eq_of_beq h1; refine G9 G (J3 (fc h1 fz) [(3, 0), (4, 0), (1005, 0)]) (ak9 n [(7, iA (nm b j J7)), (8, .ptr 7 0), (50, bA (decide (n > 1)))]) fun G => b0 (rcD G (fun h6 q6 => ?_) fun h6 q6 => ?_)
    ·
     refine wp_seq ?_; cases h7 : (nm b j J7 == 4)
     ·
      have q7 := ne_of_beq_false h7; refine l6 G (J3 (fc h7 fz) [(3, 0), (4, 0), (1005, 0)]) [(79, bA false)] fun G => b0 (rF G false (by kernel_rfl) (wp_seq (wp_seq (G9 G e6 (W9 [(15, bA (nm b j J7 != 5))]) fun G => b0 ?_)))); cases h8 : (nm b j J7 != 5)
      · have q8 := bne_eq_false_iff_eq.1 h8; exact False.elim (by omega)
      · have q8 := bne_iff_ne.1 h8; refine rT G _ h8 (i9 G e6 (rg 8) (.box [.ref 1, iA (j + 1)] :: (R1 b vs ars bd [aK6])) (W9 []) fun G => b0 (wp_seq (i9 G (v5 4 [0, 1] (s4 b (j + 1) ((vs.length : Int)) (by omega) (by omega))) (rg 8) (.box [.ref 1, iA (j + 1 + 1)] :: (R1 b vs ars bd [a97 b vs j])) (W9 []) fun G => b0 (i9 G (v5 2 (rg 5) (ab9 b vs ars bd (j + 1 + 1) (by omega) (by omega))) [0, 1, 2, 3, 4, 6, 7, 24] [Y6 b vs ars j, dY b, dI vs, dI ars, dT bd, al3, a99 b vs ars j, ah9 b vs ars j] [(6, .ptr 5 0), (8, .ptr 6 0)] fun G => i8 (b0 (wp_seq (i9 G e6 [0, 1, 2, 3, 4, 5, 7] [Y6 b vs ars j, dY b, dI vs, dI ars, dT bd, a98 b vs ars j, ah9 b vs ars j] [(6, .ptr 5 0)] fun G => b0 (wp_ret ?_)))))))); obtain ⟨ρ, G⟩ := G.nilT 7 (.exprs []) (a91 b vs ars bd j []) [(6, .ptr 5 0)]; obtain ⟨ρ, G⟩ := G.nilT 8 (.stmts []) (a92 b vs ars bd j []) [(6, .ptr 5 0)]; obtain ⟨ρ, G⟩ := G.nilT 9 (.stmts []) (a93 b vs ars bd j []) [(6, .ptr 5 0)]; exact rxv (.agg [iA 1, iA (pk b (j + 1) (vs.length : Int)), iA 0, iA 0, .tref 7, iA (w6 b vs.length ars.length (j + 1 + 1)).fst.kind, iA (w6 b vs.length ars.length (j + 1 + 1)).fst.value, .tref 6, iA 0, .tref 8, .tref 9]) G [0, 1, 2, 3, 4, 7, 6, 8, 9] (by show _ = AV.ren (nth [0, 1, 2, 3, 4, 7, 6, 8, 9]) (S8 b vs ars d j); unfold S8; rw [ad8 (by omega) (by omega), aY4 (by omega)] <;> rfl) (by show _ = mR [0, 1, 2, 3, 4, 7, 6, 8, 9] (S7 b vs ars bd d j); unfold S7; rw [ad8 (by omega) (by omega), aY4 (by omega)] <;> rfl)
     · have q7 := eq_of_beq h7; exact False.elim (by omega)
    ·
     refine wp_seq (i9 G (v5 2 (rg 5) (ab9 b vs ars bd (j + 1) (by omega) (by omega))) [0, 1, 2, 3, 4, 5, 6, 7, 24] (.box [.ref 1, iA (w6 b vs.length ars.length (j + 1)).snd] :: (R1 b vs ars bd [.box [iA (nm b j J7), iA 0, iA 0, iA 0, .v (.slice none 0 0), iA (w6 b vs.length ars.length (j + 1)).fst.kind, iA (w6 b vs.length ars.length (j + 1)).fst.value, .tref 8, iA 0, .v (.slice none 0 0), .v (.slice none 0 0)], .tree (D.exprs (w6 b vs.length ars.length (j + 1)).fst.kids)])) (ak9 n [(8, .ptr 7 0)]) fun G => b0 (wp_seq (H5 G (T4 (F9 6 [0, 1, 49] (l0.lend (O5 b ((w6 b vs.length ars.length (j + 1)).snd) ibL (by simp [h0, h1, h6]) (by omega) (by omega)) [.no, .no, .row 3]) (F9 7 (rg 5) (ih ((w6 b vs.length ars.length (j + 1)).snd + 1) (n - 1) (nm b (w6 b vs.length ars.length (j + 1)).snd ibL) (by omega) (by omega) (by omega) (by omega) (by omega) (by omega)) T3)) fz []) [0, 0, 0, 4, 0, 0, 48, 127, 255, 511] [0, 1, 2, 3, 4, 5, 6, 7, 8, 65] (.box [.ref 1, iA (aG1 b vs ars d j).snd] :: (R1 b vs ars bd [.box [iA (nm b j J7), iA 0, iA 0, iA 0, .v (.slice none 0 0), iA (w6 b vs.length ars.length (j + 1)).fst.kind, iA (w6 b vs.length ars.length (j + 1)).fst.value, .tref 8, iA 0, .tref 9, .v (.slice none 0 0)], .tree (D.exprs (w6 b vs.length ars.length (j + 1)).fst.kids), .tree (D.stmts (aG1 b vs ars d j).fst)])) (ak9 n [(8, .ptr 7 0)]) [wO (n - 1)] (o1 (by omega)) fun G => b0 (H5 G (T4 (F9 6 [0, 1, 50] (l0.lend (O5 b ((G5 (C2 b vs.length ars.length (d - 1)) (nm b (w6 b vs.length ars.length (j + 1)).snd ibL).toNat ((w6 b vs.length ars.length (j + 1)).snd + 1)).snd) ieL (by simp [h0, h1, h6]) (by omega) (by omega)) [.no, .no, .row 3]) (F9 7 (rg 5) (ih ((G5 (C2 b vs.length ars.length (d - 1)) (nm b (w6 b vs.length ars.length (j + 1)).snd ibL).toNat ((w6 b vs.length ars.length (j + 1)).snd + 1)).snd + 1) (n - 1) (nm b (G5 (C2 b vs.length ars.length (d - 1)) (nm b (w6 b vs.length ars.length (j + 1)).snd ibL).toNat ((w6 b vs.length ars.length (j + 1)).snd + 1)).snd ieL) (by omega) (by omega) (by omega) (by omega) (by omega) (by omega)) T3)) fz []) [0, 0, 0, 4, 0, 0, 48, 127, 255, 511] [0, 1, 2, 3, 4, 6, 7, 8, 9, 66] [.box [.ref 1, iA (ba0 b vs ars d j).snd], dY b, dI vs, dI ars, dT bd, al3, .box [iA (nm b j J7), iA 0, iA 0, iA 0, .v (.slice none 0 0), iA (w6 b vs.length ars.length (j + 1)).fst.kind, iA (w6 b vs.length ars.length (j + 1)).fst.value, .tref 7, iA 0, .tref 8, .tref 9], .tree (D.exprs (w6 b vs.length ars.length (j + 1)).fst.kids), .tree (D.stmts (aG1 b vs ars d j).fst), .tree (D.stmts (ba0 b vs ars d j).fst)] [(6, .ptr 5 0), (8, .ptr 6 0)] [wO (n - 1)] (o1 (by omega)) fun G => i8 (b0 (wp_seq (i9 G e6 [0, 1, 2, 3, 4, 5, 7, 8, 9] [.box [.ref 1, iA (ba0 b vs ars d j).snd], dY b, dI vs, dI ars, dT bd, .box [iA (nm b j J7), iA 0, iA 0, iA 0, .v (.slice none 0 0), iA (w6 b vs.length ars.length (j + 1)).fst.kind, iA (w6 b vs.length ars.length (j + 1)).fst.value, .tref 6, iA 0, .tref 7, .tref 8], .tree (D.exprs (w6 b vs.length ars.length (j + 1)).fst.kids), .tree (D.stmts (aG1 b vs ars d j).fst), .tree (D.stmts (ba0 b vs ars d j).fst)] [(6, .ptr 5 0)] fun G => b0 (wp_ret ?_)))))))); obtain ⟨ρ, G⟩ := G.nilT 9 (.exprs []) [.box [.ref 1, iA (G5 (C2 b vs.length ars.length (d - 1)) (nm b (G5 (C2 b vs.length ars.length (d - 1)) (nm b (w6 b vs.length ars.length (j + 1)).snd ibL).toNat ((w6 b vs.length ars.length (j + 1)).snd + 1)).snd ieL).toNat ((G5 (C2 b vs.length ars.length (d - 1)) (nm b (w6 b vs.length ars.length (j + 1)).snd ibL).toNat ((w6 b vs.length ars.length (j + 1)).snd + 1)).snd + 1)).snd], dY b, dI vs, dI ars, dT bd, .box [iA (nm b j J7), iA 0, iA 0, iA 0, .tref 9, iA (w6 b vs.length ars.length (j + 1)).fst.kind, iA (w6 b vs.length ars.length (j + 1)).fst.value, .tref 6, iA 0, .tref 7, .tref 8], .tree (D.exprs (w6 b vs.length ars.length (j + 1)).fst.kids), .tree (D.stmts (G5 (C2 b vs.length ars.length (d - 1)) (nm b (w6 b vs.length ars.length (j + 1)).snd ibL).toNat ((w6 b vs.length ars.length (j + 1)).snd + 1)).fst), .tree (D.stmts (G5 (C2 b vs.length ars.length (d - 1)) (nm b (G5 (C2 b vs.length ars.length (d - 1)) (nm b (w6 b vs.length ars.length (j + 1)).snd ibL).toNat ((w6 b vs.length ars.length (j + 1)).snd + 1)).snd ieL).toNat ((G5 (C2 b vs.length ars.length (d - 1)) (nm b (w6 b vs.length ars.length (j + 1)).snd ibL).toNat ((w6 b vs.length ars.length (j + 1)).snd + 1)).snd + 1)).fst)] [(6, .ptr 5 0)]
     exact rxv (.agg [iA (nm b j J7), iA 0, iA 0, iA 0, .tref 9, iA (w6 b vs.length ars.length (j + 1)).fst.kind, iA (w6 b vs.length ars.length (j + 1)).fst.value, .tref 6, iA 0, .tref 7, .tref 8]) G [0, 1, 2, 3, 4, 9, 6, 7, 8] (by show _ = AV.ren (nth [0, 1, 2, 3, 4, 9, 6, 7, 8]) (S8 b vs ars d j); unfold S8; have e1 : ((C2 b vs.length ars.length d j).fst.kind : Int) = (nm b j J7) := (by rw [a21 (by omega) (by omega)]; show (3 : Int) = _; omega); rw [e1, a21 (by omega) (by omega)] <;> rfl) (by show _ = mR [0, 1, 2, 3, 4, 9, 6, 7, 8] (S7 b vs ars bd d j); unfold S7; rw [a21 (by omega) (by omega)] <;> rfl)
  ·
   have q0 := eq_of_beq h0; refine G9 G (J3 (fc h0 fz) (us [(3, 6, 0), (1007, 1007, 0)])) (ak9 n [(7, iA (nm b j J7)), (8, .ptr 7 0), (27, bA (decide ((ars.length : Int) > 0)))]) fun G => b0 (rcD G (fun h9 q9 => ?_) fun h9 q9 => ?_)
   ·
    refine wp_seq ?_; cases h10 : (nm b j J7 == 3)
    ·
     have q10 := ne_of_beq_false h10; refine G9 G (J3 (fc h10 fz) [(3, 0), (4, 0), (1005, 0)]) (ak9 n [(7, iA (nm b j J7)), (8, .ptr 7 0), (50, bA false)]) fun G => b0 (rF G false (by kernel_rfl) (wp_seq ?_)); cases h11 : (nm b j J7 == 4)
     ·
      have q11 := ne_of_beq_false h11; refine l6 G (J3 (fc h11 fz) [(3, 0), (4, 0), (1005, 0)]) [(79, bA false)] fun G => b0 (rF G false (by kernel_rfl) (wp_seq (wp_seq (G9 G e6 (W9 [(15, bA (nm b j J7 != 5))]) fun G => b0 ?_)))); cases h12 : (nm b j J7 != 5)
      · have q12 := bne_eq_false_iff_eq.1 h12; exact False.elim (by omega)
      · have q12 := bne_iff_ne.1 h12; refine rT G _ h12 (i9 G e6 (rg 8) (.box [.ref 1, iA (j + 1)] :: (R1 b vs ars bd [aK6])) (W9 []) fun G => b0 (wp_seq (i9 G (v5 4 [0, 1] (s4 b (j + 1) ((vs.length : Int)) (by omega) (by omega))) (rg 8) (.box [.ref 1, iA (j + 1 + 1)] :: (R1 b vs ars bd [a97 b vs j])) (W9 []) fun G => b0 (i9 G (v5 2 (rg 5) (ab9 b vs ars bd (j + 1 + 1) (by omega) (by omega))) [0, 1, 2, 3, 4, 6, 7, 24] [Y6 b vs ars j, dY b, dI vs, dI ars, dT bd, al3, a99 b vs ars j, ah9 b vs ars j] [(6, .ptr 5 0), (8, .ptr 6 0)] fun G => i8 (b0 (wp_seq (i9 G e6 [0, 1, 2, 3, 4, 5, 7] [Y6 b vs ars j, dY b, dI vs, dI ars, dT bd, a98 b vs ars j, ah9 b vs ars j] [(6, .ptr 5 0)] fun G => b0 (wp_ret ?_)))))))); obtain ⟨ρ, G⟩ := G.nilT 7 (.exprs []) (a91 b vs ars bd j []) [(6, .ptr 5 0)]; obtain ⟨ρ, G⟩ := G.nilT 8 (.stmts []) (a92 b vs ars bd j []) [(6, .ptr 5 0)]; obtain ⟨ρ, G⟩ := G.nilT 9 (.stmts []) (a93 b vs ars bd j []) [(6, .ptr 5 0)]; exact rxv (.agg [iA 1, iA (pk b (j + 1) (vs.length : Int)), iA 0, iA 0, .tref 7, iA (w6 b vs.length ars.length (j + 1 + 1)).fst.kind, iA (w6 b vs.length ars.length (j + 1 + 1)).fst.value, .tref 6, iA 0, .tref 8, .tref 9]) G [0, 1, 2, 3, 4, 7, 6, 8, 9] (by show _ = AV.ren (nth [0, 1, 2, 3, 4, 7, 6, 8, 9]) (S8 b vs ars d j); unfold S8; rw [ad8 (by omega) (by omega), aY4 (by omega)] <;> rfl) (by show _ = mR [0, 1, 2, 3, 4, 7, 6, 8, 9] (S7 b vs ars bd d j); unfold S7; rw [ad8 (by omega) (by omega), aY4 (by omega)] <;> rfl)
     · have q11 := eq_of_beq h11; exact False.elim (by omega)
    · have q10 := eq_of_beq h10; exact False.elim (by omega)
   ·
    refine wp_seq (i9 G (v5 4 [0, 1] (s4 b (j + 1) ((ars.length : Int)) (by omega) (by omega))) (rg 8) (.box [.ref 1, iA (j + 1 + 1)] :: (R1 b vs ars bd [.box [iA (nm b j J7), iA (pk b (j + 1) (ars.length : Int)), iA 0, iA 0, .v (.slice none 0 0), iA 0, iA 0, .v (.slice none 0 0), iA 0, .v (.slice none 0 0), .v (.slice none 0 0)]])) (W9 []) fun G => b0 (wp_seq (i9 G (v5 2 (rg 5) (aq7 b (j + 1 + 1) vs ars bd (by omega) (by omega))) [0, 1, 2, 3, 4, 5, 6, 7, 24] (.box [.ref 1, iA (j + 1 + 1 + 2)] :: (R1 b vs ars bd [.box [iA (nm b j J7), iA (pk b (j + 1) (ars.length : Int)), iA (n9 b (vs.length : Int) (j + 1 + 1)).kind, iA (n9 b (vs.length : Int) (j + 1 + 1)).value, .tref 8, iA 0, iA 0, .v (.slice none 0 0), iA 0, .v (.slice none 0 0), .v (.slice none 0 0)], .tree (D.exprs (n9 b (vs.length : Int) (j + 1 + 1)).kids)])) (W9 []) fun G => b0 (i9 G (v5 2 (rg 5) (ab9 b vs ars bd (j + 1 + 1 + 2) (by omega) (by omega))) [0, 1, 2, 3, 4, 6, 7, 8, 25] (.box [.ref 1, iA (w6 b vs.length ars.length (j + 1 + 1 + 2)).snd] :: dY b :: dI vs :: dI ars :: dT bd :: al3 :: .box [iA (nm b j J7), iA (pk b (j + 1) (ars.length : Int)), iA (n9 b (vs.length : Int) (j + 1 + 1)).kind, iA (n9 b (vs.length : Int) (j + 1 + 1)).value, .tref 7, iA (w6 b vs.length ars.length (j + 1 + 1 + 2)).fst.kind, iA (w6 b vs.length ars.length (j + 1 + 1 + 2)).fst.value, .tref 8, iA 0, .v (.slice none 0 0), .v (.slice none 0 0)] :: (a90 b vs ars j [])) [(6, .ptr 5 0), (8, .ptr 6 0)] fun G => i8 (b0 (wp_seq (i9 G e6 [0, 1, 2, 3, 4, 5, 7, 8] (.box [.ref 1, iA (w6 b vs.length ars.length (j + 1 + 1 + 2)).snd] :: dY b :: dI vs :: dI ars :: dT bd :: .box [iA (nm b j J7), iA (pk b (j + 1) (ars.length : Int)), iA (n9 b (vs.length : Int) (j + 1 + 1)).kind, iA (n9 b (vs.length : Int) (j + 1 + 1)).value, .tref 6, iA (w6 b vs.length ars.length (j + 1 + 1 + 2)).fst.kind, iA (w6 b vs.length ars.length (j + 1 + 1 + 2)).fst.value, .tref 7, iA 0, .v (.slice none 0 0), .v (.slice none 0 0)] :: (a90 b vs ars j [])) [(6, .ptr 5 0)] fun G => b0 (wp_ret ?_)))))))); obtain ⟨ρ, G⟩ := G.nilT 8 (.stmts []) (.box [.ref 1, iA (w6 b vs.length ars.length (j + 1 + 1 + 2)).snd] :: dY b :: dI vs :: dI ars :: dT bd :: .box [iA (nm b j J7), iA (pk b (j + 1) (ars.length : Int)), iA (n9 b (vs.length : Int) (j + 1 + 1)).kind, iA (n9 b (vs.length : Int) (j + 1 + 1)).value, .tref 6, iA (w6 b vs.length ars.length (j + 1 + 1 + 2)).fst.kind, iA (w6 b vs.length ars.length (j + 1 + 1 + 2)).fst.value, .tref 7, iA 0, .tref 8, .v (.slice none 0 0)] :: (a90 b vs ars j [])) [(6, .ptr 5 0)]; obtain ⟨ρ, G⟩ := G.nilT 9 (.stmts []) (.box [.ref 1, iA (w6 b vs.length ars.length (j + 1 + 1 + 2)).snd] :: dY b :: dI vs :: dI ars :: dT bd :: .box [iA (nm b j J7), iA (pk b (j + 1) (ars.length : Int)), iA (n9 b (vs.length : Int) (j + 1 + 1)).kind, iA (n9 b (vs.length : Int) (j + 1 + 1)).value, .tref 6, iA (w6 b vs.length ars.length (j + 1 + 1 + 2)).fst.kind, iA (w6 b vs.length ars.length (j + 1 + 1 + 2)).fst.value, .tref 7, iA 0, .tref 8, .tref 9] :: (a90 b vs ars j [.tree (D.stmts [])])) [(6, .ptr 5 0)]
    exact rxv (.agg [iA (nm b j J7), iA (pk b (j + 1) (ars.length : Int)), iA (n9 b (vs.length : Int) (j + 1 + 1)).kind, iA (n9 b (vs.length : Int) (j + 1 + 1)).value, .tref 6, iA (w6 b vs.length ars.length (j + 1 + 1 + 2)).fst.kind, iA (w6 b vs.length ars.length (j + 1 + 1 + 2)).fst.value, .tref 7, iA 0, .tref 8, .tref 9]) G [0, 1, 2, 3, 4, 6, 7, 8, 9] (by show _ = AV.ren (nth [0, 1, 2, 3, 4, 6, 7, 8, 9]) (S8 b vs ars d j); unfold S8; have e1 : ((C2 b vs.length ars.length d j).fst.kind : Int) = (nm b j J7) := (by rw [bn4 (by omega) (by omega)]; show (2 : Int) = _; omega); rw [e1, bn4 (by omega) (by omega)] <;> rfl) (by show _ = mR [0, 1, 2, 3, 4, 6, 7, 8, 9] (S7 b vs ars bd d j); unfold S7; rw [bn4 (by omega) (by omega)] <;> rfl)
theorem aZ5 (b : List UInt8) (vs ars : List Int) (bd : List c8) (d : Nat) (h : ∀ (j n : Int), n = d → 0 ≤ j → j + cS d ≤ 600000000 → l0.ok Tryz.prog (dsC b vs ars bd d j n)) (m : Nat) (j n c B : Int) (hn : n = d) (hm : c = m) (hm2 : m ≤ 4) (hB : (m : Int) * cS d ≤ B) (r0 : 0 ≤ j) (r1 : j + B ≤ 600000000) : l0.ok Tryz.prog (dbC b vs ars bd d m j n c) :=
 bB7 b vs ars bd d m h j n c hn hm hm2 B hB r0 r1
theorem bv7 (b : List UInt8) (vs ars : List Int) (bd : List c8) : ∀ (d : Nat), d ≤ 3 → ∀ (j n : Int), n = d → 0 ≤ j → j + cS d ≤ 600000000 → l0.ok Tryz.prog (dsC b vs ars bd d j n)
 | 0, hd, j, n, hn, r0, r1 => bo8 b vs ars bd 0 (by omega) (fun j n c h => absurd h (by omega)) j n hn r0 r1
 | d + 1, hd, j, n, hn, r0, r1 => bo8 b vs ars bd (d + 1) hd (fun j n c h hn h0 h2 r0 r1 => aZ5 b vs ars bd d (bv7 b vs ars bd d (by omega)) c.toNat j n c (2 * cS d) (by omega) (by omega) (by omega) (bU7 h0 h2 (Int.le_trans (by decide) (at4 d))) r0 (by simpa using r1)) j n hn r0 r1
theorem bZ4 : cS 3 = 34170 := by decide
theorem bQ5 (b : List UInt8) (vs ars : List Int) (bd : List c8) (j n c : Int) (hn : n = 3) (h0 : 0 ≤ c) (h4 : c ≤ 4) (r0 : 0 ≤ j) (r1 : j ≤ 100000000) : l0.ok Tryz.prog (dbC b vs ars bd 3 c.toNat j n c) :=
 aZ5 b vs ars bd 3 (bv7 b vs ars bd 3 (by omega)) c.toNat j n c (4 * cS 3) (by omega) (by omega) (by omega) (b44 h0 h4 (by rw [bZ4]; decide)) r0 (by rw [bZ4]; omega)
abbrev pgC (b : List UInt8) (j : Int) : l0 := ⟨49, [.ptr 0 0], [.box [.ref 1, iA j], dY b], [.box [.ref 1, iA (z8 b j).2], dY b] ++ oP (r8 b j), oA 2⟩
theorem bd0 {b : List UInt8} {l : List Int} {n i p : Int} (h : i > 0) (h2 : i ≤ n) : nsD b l (n - (i - 1)).toNat p = nsD b l (n - i).toNat p ++ [nm b (p + (n - i)) l] := by
 rw [show (n - (i - 1)).toNat = (n - i).toNat + 1 by omega, bs3, show (((n - i).toNat : Nat) : Int) = n - i by omega]
theorem bc9 {b : List UInt8} {l : List Int} {n p : Int} : nsD b l (n - n).toNat p = [] := by rw [Int.sub_self]; rfl
theorem av0 (vs ars : List Int) (bd : List c8) (hb : t9 bd ≤ 1048576) : l0.ok Tryz.prog (Z1 77 [pA 0] [dI vs, dI ars, dT bd] (bA (E0 ⟨vs, ars, bd⟩))) := af6 ⟨vs, ars, bd⟩ hb
theorem b39 {b : List UInt8} {j : Int} (h : E0 ⟨vsD b j, asD b j, (G5 (C2 b (vsD b j).length (asD b j).length 3) (nm b (kp2 b j) nbL).toNat (kp2 b j + 1)).1⟩ = true) : r8 b j = ⟨vsD b j, asD b j, (z8 b j).1⟩ := if_pos h
theorem b38 {b : List UInt8} {j : Int} (h : E0 ⟨vsD b j, asD b j, (G5 (C2 b (vsD b j).length (asD b j).length 3) (nm b (kp2 b j) nbL).toNat (kp2 b j + 1)).1⟩ = false) : r8 b j = fbP := if_neg (by intro h2; have h3 : E0 ⟨vsD b j, asD b j, (G5 (C2 b (vsD b j).length (asD b j).length 3) (nm b (kp2 b j) nbL).toNat (kp2 b j + 1)).1⟩ = true := h2; rw [h] at h3; cases h3)
theorem bU3 (b : List UInt8) (j : Int) : j + 1 + (nm b j nvL - 0) = I3 b j := by unfold I3; omega
theorem bU2 (b : List UInt8) (j : Int) : nsD b viL (nm b j nvL - 0).toNat (j + 1) = vsD b j := by unfold vsD; rw [Int.sub_zero]
theorem bU1 (b : List UInt8) (j : Int) : I3 b j + 1 + (nm b (I3 b j) naL - 0) = kp2 b j := by unfold kp2; omega
theorem bU0 (b : List UInt8) (j : Int) : nsD b aiL (nm b (I3 b j) naL - 0).toNat (I3 b j + 1) = asD b j := by unfold asD; rw [Int.sub_zero]
abbrev ar6 (b : List UInt8) (j : Int) := G5 (C2 b (vsD b j).length (asD b j).length 3) (nm b (kp2 b j) nbL).toNat (kp2 b j + 1)
abbrev a96 (b : List UInt8) (j : Int) : List It := [.box [.ref 1, iA (z8 b j).snd], dY b, .row 3 (D.ints (r8 b j).vars), .row 3 (D.ints (r8 b j).arrays), .tree (D.stmts (r8 b j).body)]
abbrev R2 : It := .box [.v (.slice none 0 0), .v (.slice none 0 0), .v (.slice none 0 0)]
abbrev aR6 : It := .box [.ref 4, .v (.slice none 0 0), .v (.slice none 0 0)]
abbrev bm1 : It := .tree (D.stmts [c8.mk 1 1 (d8.mk 0 0 []) (d8.mk 2 0 []) 0 [] []])
theorem af4 (b : List UInt8) (j : Int) (r0 : 0 ≤ j) (r1 : j ≤ 10000000) : l0.ok Tryz.prog (pgC b j) := by
  refine J8 52 Tryz.func49 [.box [.ref 1, iA j], dY b] [(0, .ptr 0 0)] fun G => ?_; have hnv := bN6 b r0 (by omega); have hk1 := bt5 b r0 r1; have hk2 := bt4 b r0 r1; have hna := bN9 b (k := I3 b j) (by omega) (by omega); have hnb := bU5 b (k := kp2 b j) (by omega) (by omega); have hvl := bm3 b r0 r1; have hal := by1 b r0 r1; have hbd := bx9 b r0 r1; have hbs : t9 (G5 (C2 b (vsD b j).length (asD b j).length 3) (nm b (kp2 b j) nbL).toNat (kp2 b j + 1)).1 ≤ 1048576 := b97 hbd.2.2 (by omega); refine wp_seq (i9 G e6 [0, 1, 2] [.box [.ref 1, iA j], dY b, R2] [(0, .ptr 0 0), (2, .ptr 2 0)] fun G => b0 (wp_seq (i9 G e6 [0, 1, 2, 11] [.box [.ref 1, iA j], dY b, R2, R2] [(0, .ptr 0 0), (2, .ptr 2 0), (3, .ptr 3 0)] fun G => b0 (wp_seq (wp_seq (i9 G (v5 2 [0, 1, 12] (l0.lend (O5 b j nvL (List.cons_ne_nil _ _) (by assumption) (by omega)) [.no, .no, .row 3])) (rg 4) [.box [.ref 1, iA (j + 1)], dY b, R2, R2] [(0, .ptr 0 0), (2, .ptr 2 0), (3, .ptr 3 0), (4, iA (nm b j nvL))] fun G => b0 (wp_block ?_))))))); have Gx := G.nil 4 3 (.ints []) 1 [.box [.ref 1, iA (j + 1)], dY b, R2, aR6] [(0, .ptr 0 0), (2, .ptr 2 0), (3, .ptr 3 0), (4, iA (nm b j nvL))]; clear G; obtain ⟨ρ, G⟩ := Gx; replace G := t7.at G [.box [.ref 1, iA (j + 1)], dY b, R2, aR6, .row 3 (D.ints [])] [(0, .ptr 0 0), (2, .ptr 2 0), (3, .ptr 3 0), (4, iA (nm b j nvL))]; replace G := G.as [.box [.ref 1, iA (j + 1 + (nm b j nvL - nm b j nvL))], dY b, .box [.v (.slice none 0 0), .v (.slice none 0 0), .v (.slice none 0 0)], .box [.ref 4, .v (.slice none 0 0), .v (.slice none 0 0)], .row 3 (D.ints (nsD b viL (nm b j nvL - nm b j nvL).toNat (j + 1)))] [(0, .ptr 0 0), (2, .ptr 2 0), (3, .ptr 3 0), (4, iA (nm b j nvL))] (by have e1 : (j + 1 + (nm b j nvL - nm b j nvL) : Int) = (j + 1) := (by omega); have e2 : (nsD b viL (nm b j nvL - nm b j nvL).toNat (j + 1) : List Int) = ([]) := bc9; (first | rw [e1, e2] | simp only [e1, e2]) <;> rfl) (by kernel_rfl); refine x6 (κ := Int) (fun i => 0 ≤ i ∧ i ≤ nm b j nvL) (fun i => i.toNat) (fun i => [.box [.ref 1, iA (j + 1 + (nm b j nvL - i))], dY b, .box [.v (.slice none 0 0), .v (.slice none 0 0), .v (.slice none 0 0)], .box [.ref 4, .v (.slice none 0 0), .v (.slice none 0 0)], .row 3 (.ints (nsD b viL (nm b j nvL - i).toNat (j + 1)))]) (fun i => [(0, .ptr 0 0), (2, .ptr 2 0), (3, .ptr 3 0), (4, iA i)]) (nm b j nvL) (by omega) (t7.at G _ _) ?_; clear G; intro i ρ a w hp G; replace G := t7.at G [.box [.ref 1, iA (j + 1 + (nm b j nvL - i))], dY b, R2, aR6, .row 3 (D.ints (nsD b viL (nm b j nvL - i).toNat (j + 1)))] [(0, .ptr 0 0), (2, .ptr 2 0), (3, .ptr 3 0), (4, iA i)]; have hlen : (nsD b viL (nm b j nvL - i).toNat (j + 1)).length = (nm b j nvL - i).toNat := ag5 _ _ _ _; refine wp_seq (wp_seq (G9 G e6 [(0, .ptr 0 0), (2, .ptr 2 0), (3, .ptr 3 0), (4, iA i), (11, bA (decide (i > 0)))] fun G => b0 ?_)); cases h0 : (decide (i > 0))
  ·
   have q0 := Z3 h0
   obtain rfl : i = 0 := by omega
   rw [bU3, bU2] at G; refine rF G false (by kernel_rfl) (wp_exit (v9 (v9 (v6 (b0 (wp_seq (wp_seq (i9 G (v5 2 [0, 1, 13] (l0.lend (O5 b (I3 b j) naL (by simp [h0]) (by omega) (by omega)) [.no, .no, .row 3])) (rg 5) [.box [.ref 1, iA (I3 b j + 1)], dY b, R2, aR6, .row 3 (D.ints (vsD b j))] [(0, .ptr 0 0), (2, .ptr 2 0), (3, .ptr 3 0), (5, iA (nm b (I3 b j) naL))] fun G => b0 (wp_block ?_))))))))); have Gx := G.nil 5 3 (.ints []) 1 [.box [.ref 1, iA (I3 b j + 1)], dY b, R2, .box [.ref 4, .ref 5, .v (.slice none 0 0)], .row 3 (D.ints (vsD b j))] [(0, .ptr 0 0), (2, .ptr 2 0), (3, .ptr 3 0), (5, iA (nm b (I3 b j) naL))]; clear G; obtain ⟨ρ, G⟩ := Gx; replace G := t7.at G [.box [.ref 1, iA (I3 b j + 1)], dY b, R2, .box [.ref 4, .ref 5, .v (.slice none 0 0)], .row 3 (D.ints (vsD b j)), .row 3 (D.ints [])] [(0, .ptr 0 0), (2, .ptr 2 0), (3, .ptr 3 0), (5, iA (nm b (I3 b j) naL))]; have Gx := G.nilT 6 (.stmts []) [.box [.ref 1, iA (I3 b j + 1)], dY b, R2, .box [.ref 4, .ref 5, .tref 6], .row 3 (D.ints (vsD b j)), .row 3 (D.ints [])] [(0, .ptr 0 0), (2, .ptr 2 0), (3, .ptr 3 0), (5, iA (nm b (I3 b j) naL))]; clear G; obtain ⟨ρ, G⟩ := Gx; replace G := t7.at G [.box [.ref 1, iA (I3 b j + 1)], dY b, R2, .box [.ref 4, .ref 5, .tref 6], .row 3 (D.ints (vsD b j)), .row 3 (D.ints []), .tree (D.stmts [])] [(0, .ptr 0 0), (2, .ptr 2 0), (3, .ptr 3 0), (5, iA (nm b (I3 b j) naL))]; replace G := G.as [.box [.ref 1, iA (I3 b j + 1 + (nm b (I3 b j) naL - nm b (I3 b j) naL))], dY b, .box [.v (.slice none 0 0), .v (.slice none 0 0), .v (.slice none 0 0)], .box [.ref 4, .ref 5, .tref 6], .row 3 (D.ints (vsD b j)), .row 3 (D.ints (nsD b aiL (nm b (I3 b j) naL - nm b (I3 b j) naL).toNat (I3 b j + 1))), .tree (D.stmts [])] [(0, .ptr 0 0), (2, .ptr 2 0), (3, .ptr 3 0), (5, iA (nm b (I3 b j) naL))] (by have e1 : (I3 b j + 1 + (nm b (I3 b j) naL - nm b (I3 b j) naL) : Int) = (I3 b j + 1) := (by omega); have e2 : (nsD b aiL (nm b (I3 b j) naL - nm b (I3 b j) naL).toNat (I3 b j + 1) : List Int) = ([]) := bc9; (first | rw [e1, e2] | simp only [e1, e2]) <;> rfl) (by kernel_rfl); refine x6 (κ := Int) (fun i2 => 0 ≤ i2 ∧ i2 ≤ nm b (I3 b j) naL) (fun i2 => i2.toNat) (fun i2 => [.box [.ref 1, iA (I3 b j + 1 + (nm b (I3 b j) naL - i2))], dY b, .box [.v (.slice none 0 0), .v (.slice none 0 0), .v (.slice none 0 0)], .box [.ref 4, .ref 5, .tref 6], .row 3 (D.ints (vsD b j)), .row 3 (.ints (nsD b aiL (nm b (I3 b j) naL - i2).toNat (I3 b j + 1))), .tree (D.stmts [])]) (fun i2 => [(0, .ptr 0 0), (2, .ptr 2 0), (3, .ptr 3 0), (5, iA i2)]) (nm b (I3 b j) naL) (by omega) (t7.at G _ _) ?_; clear G; intro i2 ρ a w hp G; replace G := t7.at G [.box [.ref 1, iA (I3 b j + 1 + (nm b (I3 b j) naL - i2))], dY b, R2, .box [.ref 4, .ref 5, .tref 6], .row 3 (D.ints (vsD b j)), .row 3 (D.ints (nsD b aiL (nm b (I3 b j) naL - i2).toNat (I3 b j + 1))), .tree (D.stmts [])] [(0, .ptr 0 0), (2, .ptr 2 0), (3, .ptr 3 0), (5, iA i2)]; have hlen : (nsD b aiL (nm b (I3 b j) naL - i2).toNat (I3 b j + 1)).length = (nm b (I3 b j) naL - i2).toNat := ag5 _ _ _ _; refine wp_seq (wp_seq (G9 G e6 [(0, .ptr 0 0), (2, .ptr 2 0), (3, .ptr 3 0), (5, iA i2), (26, bA (decide (i2 > 0)))] fun G => b0 ?_)); cases h1 : (decide (i2 > 0))
   ·
    have q1 := Z3 h1
    obtain rfl : i2 = 0 := by omega
    rw [bU1, bU0] at G; refine rF G false (by kernel_rfl) (wp_exit (v9 (v9 (v6 (b0 (wp_seq (bq4 G (T4 (F9 4 [0, 1, 31] (l0.lend (O5 b (kp2 b j) nbL (by simp [h0, h1]) (by omega) (by omega)) [.no, .no, .row 3]) (F9 5 [0, 1, 4, 5, 6] (l0.lend (bQ5 b (vsD b j) (asD b j) ([]) (kp2 b j + 1) 3 (nm b (kp2 b j) nbL) (by kernel_rfl) (by omega) (by omega) (by omega) (by omega)) [.no, .no, .row 3, .row 3, .tree]) T3)) fz []) [0, 0, 0, 0, 12, 31, 63, 127] [0, 1, 2, 3, 4, 5, 47] [.box [.ref 1, iA (ar6 b j).snd], dY b, R2, .box [.ref 4, .ref 5, .tref 6], .row 3 (D.ints (vsD b j)), .row 3 (D.ints (asD b j)), .tree (D.stmts (ar6 b j).fst)] [(2, .ptr 2 0), (3, .ptr 3 0)] fun G => b0 (wp_seq (wp_seq (l6 G (v5 1 [4, 5, 6] (l0.lend (av0 (vsD b j) (asD b j) ((G5 (C2 b (vsD b j).length (asD b j).length 3) (nm b (kp2 b j) nbL).toNat (kp2 b j + 1)).fst) (by assumption)) [.row 3, .row 3, .tree])) [(45, bA (E0 (j9.mk (vsD b j) (asD b j) (ar6 b j).fst)))] fun G => b0 (rcB (b := E0 (j9.mk (vsD b j) (asD b j) (G5 (C2 b (vsD b j).length (asD b j).length (3 : Nat)) (nm b (kp2 b j) nbL).toNat (kp2 b j + 1)).fst)) G (fun h2 => ?_) fun h2 => ?_)))))))))))
    · refine wp_skip (b0 (wp_seq (i9 G e6 [0, 1, 2, 7, 31] [.box [.ref 1, iA (ar6 b j).snd], dY b, .box [.ref 3, .v (.slice none 0 0), .tref 4], .row 3 (D.ints ([0] ++ ([1] ++ []))), bm1] [(2, .ptr 2 0)] fun G => b0 (wp_ret ?_)))); have Gx := G.nil 5 3 (.ints []) 1 [.box [.ref 1, iA (ar6 b j).snd], dY b, .box [.ref 3, .ref 5, .tref 4], .row 3 (D.ints ([0] ++ ([1] ++ []))), bm1] [(2, .ptr 2 0)]; clear G; obtain ⟨ρ, G⟩ := Gx; replace G := t7.at G [.box [.ref 1, iA (ar6 b j).snd], dY b, .box [.ref 3, .ref 5, .tref 4], .row 3 (D.ints ([0] ++ ([1] ++ []))), bm1, .row 3 (D.ints [])] [(2, .ptr 2 0)]; exact J9 G [0, 1, 3, 5, 4] (by show _ = mR [0, 1, 3, 5, 4] (a96 b j); unfold a96; rw [b38 (by with_reducible assumption)] <;> rfl)
    · refine wp_seq (i9 G e6 [0, 1, 2, 4, 5, 6] [.box [.ref 1, iA (ar6 b j).snd], dY b, .box [.ref 3, .ref 4, .tref 5], .row 3 (D.ints (vsD b j)), .row 3 (D.ints (asD b j)), .tree (D.stmts (ar6 b j).fst)] [(2, .ptr 2 0)] fun G => b0 (wp_ret (o8 ?_))); exact J9 G [0, 1, 3, 4, 5] (by show _ = mR [0, 1, 3, 4, 5] (a96 b j); unfold a96; rw [b39 (by with_reducible assumption)] <;> rfl)
   · have q1 := Z2 h1; refine rT G _ h1 (wp_skip (b0 (wp_seq (wp_block (H5 G (v5 4 [0, 1, 31] (l0.lend (O5 b (I3 b j + 1 + (nm b (I3 b j) naL - i2)) aiL (by simp [h0, h1]) (by omega) (by omega)) [.no, .no, .row 3])) [0, 1, 0, 0, 12, 28, 63, 127, 255] [0, 1, 2, 3, 4, 6, 55] [.box [.ref 1, iA (I3 b j + 1 + (nm b (I3 b j) naL - i2) + 1)], dY b, R2, .box [.ref 4, .ref 6, .tref 5], .row 3 (D.ints (vsD b j)), .tree (D.stmts []), .row 3 (D.ints (nsD b aiL (nm b (I3 b j) naL - i2).toNat (I3 b j + 1) ++ ([nm b (I3 b j + 1 + (nm b (I3 b j) naL - i2)) aiL] ++ [])))] [(0, .ptr 0 0), (2, .ptr 2 0), (3, .ptr 3 0), (5, iA i2)] (aP ((nsD b aiL (nm b (I3 b j) naL - i2).toNat (I3 b j + 1)).length + ([nm b (I3 b j + 1 + (nm b (I3 b j) naL - i2)) aiL] ++ []).length) 8 []) (aK (by simp only [b74, b79, b85, ag5]; omega) b84) fun G => i8 (b0 (D0 G e6 [(5, iA (i2 - 1))] [wO (i2 - 1)] (o1 (by omega)) fun G => b0 ?_))))))); exact L0 G (i2 - 1) (by omega) (by omega) [0, 1, 2, 3, 4, 6, 5] (by have e1 : (I3 b j + 1 + (nm b (I3 b j) naL - (i2 - 1)) : Int) = (I3 b j + 1 + (nm b (I3 b j) naL - i2) + 1) := (by omega); have e2 : (nsD b aiL (nm b (I3 b j) naL - (i2 - 1)).toNat (I3 b j + 1) : List Int) = (nsD b aiL (nm b (I3 b j) naL - i2).toNat (I3 b j + 1) ++ ([nm b (I3 b j + 1 + (nm b (I3 b j) naL - i2)) aiL] ++ [])) := (bd0 (by omega) (by omega)); (first | rw [e1, e2] | simp only [e1, e2]) <;> rfl)
  · have q0 := Z2 h0; refine rT G _ h0 (wp_skip (b0 (wp_seq (wp_block (H5 G (v5 4 [0, 1, 29] (l0.lend (O5 b (j + 1 + (nm b j nvL - i)) viL (by simp [h0]) (by omega) (by omega)) [.no, .no, .row 3])) [0, 1, 0, 0, 12, 28, 63, 127, 255] [0, 1, 2, 3, 53] [.box [.ref 1, iA (j + 1 + (nm b j nvL - i) + 1)], dY b, R2, aR6, .row 3 (D.ints (nsD b viL (nm b j nvL - i).toNat (j + 1) ++ ([nm b (j + 1 + (nm b j nvL - i)) viL] ++ [])))] [(0, .ptr 0 0), (2, .ptr 2 0), (3, .ptr 3 0), (4, iA i)] (aP ((nsD b viL (nm b j nvL - i).toNat (j + 1)).length + ([nm b (j + 1 + (nm b j nvL - i)) viL] ++ []).length) 8 []) (aK (by simp only [b74, b79, b85, ag5]; omega) b84) fun G => i8 (b0 (D0 G e6 [(4, iA (i - 1))] [wO (i - 1)] (o1 (by omega)) fun G => b0 ?_))))))); exact L0 G (i - 1) (by omega) (by omega) (rg 5) (by have e1 : (j + 1 + (nm b j nvL - (i - 1)) : Int) = (j + 1 + (nm b j nvL - i) + 1) := (by omega); have e2 : (nsD b viL (nm b j nvL - (i - 1)).toNat (j + 1) : List Int) = (nsD b viL (nm b j nvL - i).toNat (j + 1) ++ ([nm b (j + 1 + (nm b j nvL - i)) viL] ++ [])) := (bd0 (by omega) (by omega)); (first | rw [e1, e2] | simp only [e1, e2]) <;> rfl)
section
variable {b : List UInt8} {p : j9} {j : Int}
end
def an5 (k v r : Int) : d7 := if k = 3 then ⟨4, r, v, r, 0⟩ else if k = 11 then ⟨7, r, r, r + 1, r + 2⟩ else ⟨6, r, k, r, r + 1⟩
mutual
def c6 : d8 → Int → List d7
 | ⟨k, v, ks⟩, r => if k = 1 then [⟨1, r, v, 0, 0⟩] else if k = 2 then [⟨2, r, v, 0, 0⟩] else j8 ks r ++ [an5 k v r]
def j8 : List d8 → Int → List d7
 | [], _ => []
 | e :: t, r => c6 e r ++ j8 t (r + 1)
end
theorem ah2 (e : d8) (r : Int) : c6 e r = if e.kind = 1 then [⟨1, r, e.value, 0, 0⟩] else if e.kind = 2 then [⟨2, r, e.value, 0, 0⟩] else j8 e.kids r ++ [an5 e.kind e.value r] := by cases e; rw [c6]; rfl
theorem ai9 : ∀ (a b : List d8) (r : Int), j8 (a ++ b) r = j8 a r ++ j8 b (r + a.length)
 | [], b, r => by simp [j8]
 | e :: t, b, r => by
  simp only [List.cons_append, j8, cb7]
  rw [ai9 t b (r + 1)]
  congr 2
  simp only [b79]
  rw [show r + 1 + (t.length : Int) = r + ((t.length + 1 : Nat) : Int) by omega]
theorem at2 {ks : List d8} {k : Nat} {r : Int} (hk : k < ks.length) : j8 (ks.take (k + 1)) r = j8 (ks.take k) r ++ c6 (ks.getD k b71) (r + k) := by
 rw [t2 _ _ hk, ai9, r7 hk]
 simp [j8, List.length_take, Nat.min_eq_left (Nat.le_of_lt hk)]
mutual
theorem U2 : ∀ (e : d8) (r : Int), (c6 e r).length ≤ 1 + S4 e
 | ⟨k, v, ks⟩, r => by
  have h := ab8 ks r
  rw [c6]
  simp only [S4]
  split
  ·simp
  ·split
   ·simp
   ·simp only [b74, b79, b85]; omega
theorem ab8 : ∀ (ks : List d8) (r : Int), (j8 ks r).length ≤ P1 ks
 | [], _ => by simp [j8]
 | e :: t, r => by
  have h1 := U2 e r
  have h2 := ab8 t (r + 1)
  simp only [j8, P1, b74]; omega
end
abbrev H8 : Type := List d7 × List Int × Int
def F7 (x : H8) (n : Int) (c : List d7) : H8 := (x.1 ++ c, x.2.1 ++ b70 c.length n, x.2.2)
def bq7 (l : List d7) (i : Nat) (n : Int) : List d7 := l.set i ⟨(l.getD i b71).op, (l.getD i b71).a, n, (l.getD i b71).c, (l.getD i b71).d⟩
def bM6 (l : List d7) (i : Nat) (n : Int) : List d7 := l.set i ⟨(l.getD i b71).op, n, (l.getD i b71).b, (l.getD i b71).c, (l.getD i b71).d⟩
mutual
def P7 : c8 → Int → H8 → H8
 | ⟨k, t, i, v, c, b, e⟩, d, x =>
  if k = 4 then F7 (n7 b (d + 1) (F7 (x.1, x.2.1, x.2.2 + 1) x.2.2 [⟨1, 9 + d, c, 0, 0⟩])) x.2.2 [⟨10, 9 + d, ((x.1.length + 1 : Nat) : Int), 0, 0⟩]
  else if k = 1 then F7 (F7 (x.1, x.2.1, x.2.2 + 1) x.2.2 (c6 v 0)) x.2.2 [⟨3, t, 0, 0, 0⟩]
  else if k = 5 then F7 (F7 (F7 (x.1, x.2.1, x.2.2 + 1) x.2.2 (c6 v 0)) x.2.2 [⟨11, 0, 0, 0, 0⟩]) x.2.2 [⟨3, t, 0, 0, 0⟩]
  else if k = 2 then F7 (F7 (F7 (x.1, x.2.1, x.2.2 + 1) x.2.2 (c6 v 0)) x.2.2 (c6 i 1)) x.2.2 [⟨5, t, 1, 0, 0⟩]
  else
   (fun (y : H8) =>
    (fun (z : H8) =>
     (fun (u : H8) => (bM6 u.1 (z.1.length - 1) (u.1.length : Int), u.2)) (n7 e (d + 1) (bq7 z.1 y.1.length (z.1.length : Int), z.2)))
    (F7 (n7 b (d + 1) (F7 y x.2.2 [⟨9, 0, 0, 0, 0⟩])) x.2.2 [⟨8, 0, 0, 0, 0⟩]))
   (F7 (x.1, x.2.1, x.2.2 + 1) x.2.2 (c6 v 0))
def n7 : List c8 → Int → H8 → H8
 | [], _, x => x
 | s :: r, d, x => n7 r d (P7 s d x)
end
theorem a70 (a b : List c8) (d : Int) (x : H8) : n7 (a ++ b) d x = n7 b d (n7 a d x) := by
 induction a generalizing x with
 | nil => rfl
 | cons s r ih => simp only [List.cons_append, n7]; exact ih _
theorem aC4 {ss : List c8} {k : Nat} {d : Int} {x : H8} (hk : k < ss.length) : n7 (ss.take (k + 1)) d x = P7 (ss.getD k b71) d (n7 (ss.take k) d x) := by
 rw [t2 _ _ hk, a70, r7 hk]
 simp [n7]
mutual
def bj0 : c8 → Nat
 | ⟨k, _, i, v, _, b, e⟩ => if k = 4 then 2 + aE9 b else if k = 1 then (c6 v 0).length + 1 else if k = 5 then (c6 v 0).length + 2 else if k = 2 then (c6 v 0).length + (c6 i 1).length + 1 else (c6 v 0).length + 2 + aE9 b + aE9 e
def aE9 : List c8 → Nat
 | [] => 0
 | s :: r => bj0 s + aE9 r
end
mutual
theorem bG3 : ∀ (s : c8) (d : Int) (x : H8), (P7 s d x).1.length = x.1.length + bj0 s ∧ (P7 s d x).2.1.length = x.2.1.length + bj0 s
 | ⟨k, t, i, v, c, b, e⟩, d, x => by
  rw [P7, bj0]
  split
  ·have h := K4 b (d + 1) (F7 (x.1, x.2.1, x.2.2 + 1) x.2.2 [⟨1, 9 + d, c, 0, 0⟩])
   simp only [F7, b74, b79, b85, b90] at h ⊢
   omega
  ·split
   ·simp only [F7, b74, b79, b85, b90]; omega
   ·split
    ·simp only [F7, b74, b79, b85, b90]; omega
    ·split
     ·simp only [F7, b74, b79, b85, b90]; omega
     ·simp only
      generalize hy : F7 (x.1, x.2.1, x.2.2 + 1) x.2.2 (c6 v 0) = y
      have hy1 : y.1.length = x.1.length + (c6 v 0).length := by rw [← hy]; simp [F7]
      have hy2 : y.2.1.length = x.2.1.length + (c6 v 0).length := by rw [← hy]; simp [F7]
      have h1 := K4 b (d + 1) (F7 y x.2.2 [⟨9, 0, 0, 0, 0⟩])
      generalize n7 b (d + 1) (F7 y x.2.2 [⟨9, 0, 0, 0, 0⟩]) = z at h1 ⊢
      have h2 := K4 e (d + 1) (bq7 (F7 z x.2.2 [⟨8, 0, 0, 0, 0⟩]).1 y.1.length ((F7 z x.2.2 [⟨8, 0, 0, 0, 0⟩]).1.length : Int), (F7 z x.2.2 [⟨8, 0, 0, 0, 0⟩]).2)
      simp only [F7, bM6, bq7, b95, b74, b79, b85, b90] at h1 h2 ⊢
      omega
theorem K4 : ∀ (ss : List c8) (d : Int) (x : H8), (n7 ss d x).1.length = x.1.length + aE9 ss ∧ (n7 ss d x).2.1.length = x.2.1.length + aE9 ss
 | [], _, _ => ⟨rfl, rfl⟩
 | s :: r, d, x => by
  have h1 := bG3 s d x
  have h2 := K4 r d (P7 s d x)
  rw [n7, aE9]
  omega
end
mutual
theorem bG1 : ∀ s : c8, bj0 s ≤ 4 + 4 * szS s
 | ⟨k, t, i, v, c, b, e⟩ => by
  have h1 := U2 v 0
  have h2 := U2 i 1
  have h3 := O4 b
  have h4 := O4 e
  rw [bj0]
  simp only [szS]
  (repeat' split) <;> omega
theorem O4 : ∀ ss : List c8, aE9 ss ≤ 4 * t9 ss
 | [] => b92 _
 | s :: r => by
  have h1 := bG1 s
  have h2 := O4 r
  simp only [aE9, t9]; omega
end
section
variable {P : Program} {ι κ : Type} {φ ψ : Nat → Prop} {w0 w : World} {F : ι → Rs} {ρ ρ0 : Nat → Value} {N m n : Nat} {S : List It} {tm : List (Nat × AV)} {a : Act}
theorem t7.heal (G : t7 φ ψ w0 F N m ρ0 ρ S tm a w) (id k i : Nat) (l : List (List Int)) (r : List Int) (S1 : List It) (h1 : o5 S id = .hole k i l := by kernel_rfl) (h2 : o5 S k = .row 3 (.ints r) := by kernel_rfl) (hS : S1 = (S.set id (.tree (.rows (l.set i r)))).set k .dead := by kernel_rfl) : t7 φ ψ w0 F N m ρ0 ρ S1 tm a w := by
 subst hS
 have hid : id < S.length := by
  rcases b93 id S.length with h | h
  ·exact h
  ·rw [y8 h] at h1; cases h1
 have hk : k < S.length := by
  rcases b93 k S.length with h | h
  ·exact h
  ·rw [y8 h] at h2; cases h2
 have hne : id ≠ k := fun e => by rw [e, h2] at h1; cases h1
 have hlen : ((S.set id (.tree (.rows (l.set i r)))).set k .dead).length = S.length := by simp
 have hat : ∀ j, o5 ((S.set id (.tree (.rows (l.set i r)))).set k .dead) j = if j = k then .dead else if j = id then .tree (.rows (l.set i r)) else o5 S j := fun j => by
  simp only [o5, b75, List.getElem?_set]
  by_cases e1 : k = j
  ·subst e1; simp [hk]
  ·have e1' : ¬ j = k := fun h => e1 h.symm
   by_cases e2 : id = j
   ·subst e2; simp [hid, e1, e1']
   ·have e2' : ¬ j = id := fun h => e2 h.symm
    simp [e1, e1', e2, e2']
 refine ⟨G.size, G.defs, G.tmv, fun t x hx q hq => by rw [hlen]; exact G.tmi t x hx q hq, fun j => ⟨fun q hq => ?_, fun hj => ?_⟩, ?_, by rw [hlen]; exact G.le, G.old⟩
 ·rw [hat] at hq
  rw [hlen]
  split at hq
  ·cases hq
  ·split at hq
   ·cases hq
   ·exact (G.bd j).1 q hq
 ·rw [hlen] at hj
  rw [hat, if_neg (by omega), if_neg (by omega)]
  exact y8 hj
 ·have M := G.mem
  have hh := M.holds (.inr id)
  have hr := M.holds (.inr k)
  have l1 : l7 F ρ (o5 S) (.inr id) = .own (fun b => z3 (ρ id) b ∧ (ρ k).ownBlock ≠ some b) fun w => ao3 w (z3 (ρ id)) i l (ρ k) (D8 (ρ id)) := by simp only [l7, h1, It.res]
  have l2 : l7 F ρ (o5 S) (.inr k) = .row 3 1 (ρ k) r.length fun xs w φ => RW w φ (.ints r) xs := by simp only [l7, h2, It.res, D.sz, D.len]
  rw [l1] at hh
  rw [l2] at hr
  obtain ⟨_, hO, hlt⟩ := hh
  obtain ⟨_, xs, o1, o2⟩ := hr
  have hxs : xs = ints r := bb8 (by have := o1.1; simpa using this) o2
  subst hxs
  have hT := hO.back o1
  have hu : ∀ g, (ρ k).ownBlock = some g → z3 (ρ id) g := by
   obtain ⟨ys, S', _, _, q3, q4, q5, _, q2, _⟩ := hO
   obtain ⟨u', a', _, c⟩ := q2 i q5
   rw [q4] at a'; cases a'
   exact fun g hg => q3 g (c g hg)
  have m1 : l7 F ρ (o5 ((S.set id (.tree (.rows (l.set i r)))).set k .dead)) (.inr id) = .own (z3 (ρ id)) fun w => C3 w (z3 (ρ id)) (.rows (l.set i r)) (D8 (ρ id)) := by simp only [l7, hat, if_neg hne, if_true, It.res]
  have m2 : l7 F ρ (o5 ((S.set id (.tree (.rows (l.set i r)))).set k .dead)) (.inr k) = Rs.none := by simp only [l7, hat, if_true, It.res]
  have m3 : ∀ q, q ≠ .inr id → q ≠ .inr k → l7 F ρ (o5 ((S.set id (.tree (.rows (l.set i r)))).set k .dead)) q = l7 F ρ (o5 S) q := fun q e1 e2 => by
   cases q with
   | inl _ => rfl
   | inr j => simp only [l7, hat, if_neg (show ¬ j = k from fun e => e2 (by rw [e])), if_neg (show ¬ j = id from fun e => e1 (by rw [e]))]
  generalize l7 F ρ (o5 ((S.set id (.tree (.rows (l.set i r)))).set k .dead)) = L' at *
  have org : ∀ q b, (L' q).blk b → (q = .inr id ∧ ((l7 F ρ (o5 S) (.inr id)).blk b ∨ (l7 F ρ (o5 S) (.inr k)).blk b)) ∨ (q ≠ .inr id ∧ q ≠ .inr k ∧ (l7 F ρ (o5 S) q).blk b) := fun q b hb => by
   by_cases e1 : q = .inr id
   ·subst e1
    rw [m1] at hb
    refine .inl ⟨rfl, ?_⟩
    rw [l1, l2]
    by_cases e : (ρ k).ownBlock = some b
    ·exact .inr e
    ·exact .inl ⟨hb, e⟩
   ·by_cases e2 : q = .inr k
    ·subst e2; rw [m2] at hb; exact hb.elim
    ·rw [m3 q e1 e2] at hb; exact .inr ⟨e1, e2, hb⟩
  refine M.re (fun q b hb => ?_) (fun p q g hpq h1 h2 => ?_) fun q => ?_
  ·rcases org q b hb with ⟨_, h | h⟩ | ⟨_, _, h⟩
   ·exact ⟨_, h⟩
   ·exact ⟨_, h⟩
   ·exact ⟨_, h⟩
  ·rcases org p g h1 with ⟨e1, f1⟩ | ⟨e1, e1', f1⟩
   ·rcases org q g h2 with ⟨e2, f2⟩ | ⟨e2, e2', f2⟩
    ·exact hpq (e1.trans e2.symm)
    ·rcases f1 with f1 | f1
     ·exact M.dis _ _ g (fun e => e2 e.symm) f1 f2
     ·exact M.dis _ _ g (fun e => e2' e.symm) f1 f2
   ·rcases org q g h2 with ⟨e2, f2⟩ | ⟨e2, e2', f2⟩
    ·rcases f2 with f2 | f2
     ·exact M.dis _ _ g e1 f1 f2
     ·exact M.dis _ _ g e1' f1 f2
    ·exact M.dis _ _ g hpq f1 f2
  ·by_cases e1 : q = .inr id
   ·subst e1
    right; intro φ'; rw [m1]
    refine ⟨fun _ _ h hs => h.same hs, hT, fun b hb => ?_⟩
    by_cases e : (ρ k).ownBlock = some b
    ·exact (World.ownsRow.lt o1 b e).2
    ·exact hlt b ⟨hb, e⟩
   ·by_cases e2 : q = .inr k
    ·subst e2
     right; intro φ'; rw [m2]; exact Rs.none_holds _ _
    ·exact .inl (m3 q e1 e2)
theorem t7.heal0 (G : t7 φ ψ w0 F N m ρ0 ρ S tm a w) (id k i : Nat) (l : List (List Int)) (S1 : List It) (h1 : o5 S id = .hole k i l := by kernel_rfl) (h2 : o5 S k = .row 3 (.ints (l.getD i [])) := by kernel_rfl) (hS : S1 = (S.set id (.tree (.rows l))).set k .dead := by kernel_rfl) : t7 φ ψ w0 F N m ρ0 ρ S1 tm a w := by
 refine G.heal id k i l (l.getD i []) S1 h1 h2 ?_
 have e : l.set i (l.getD i []) = l := by
  apply List.ext_getElem?
  intro j
  rw [List.getElem?_set]
  by_cases h : i = j
  ·subst h
   rw [if_pos rfl]
   by_cases h2 : i < l.length
   ·simp [h2]
   ·simp [h2]
  ·rw [if_neg h]
 rw [e]; exact hS
theorem It.res_ren' {σ : Nat → Nat} {i j : Nat} {ρ : Nat → Value} (x : It) (h : σ i = j) : (x.ren σ).res ρ j = x.res (fun i => ρ (σ i)) i := by
 subst h; exact It.res_ren x
def mv (i n j : Nat) : Nat := if natEq j i then n else j
theorem aA5 {f : AV → AV} {t : Nat} {y : AV} : ∀ {tm : List (Nat × AV)}, A2 (tm.map fun p => (p.1, f p.2)) t = some y → ∃ x, A2 tm t = some x ∧ y = f x
 | [], h => by cases h
 | (k, z) :: r, h => by
  simp only [A2, ca1] at h ⊢
  split at h
  ·rename_i hk; cases h; exact ⟨z, by rw [if_pos hk], rfl⟩
  ·rename_i hk
   obtain ⟨x, h1, h2⟩ := aA5 h
   exact ⟨x, by rw [if_neg hk]; exact h1, h2⟩
theorem bO4 {i n : Nat} {x : AV} : ∀ j ∈ (x.ren (mv i n)).ids, (∃ k ∈ x.ids, mv i n k = j) := by
 have key : (∀ x : AV, ∀ j ∈ (x.ren (mv i n)).ids, ∃ k ∈ x.ids, mv i n k = j) ∧ (∀ l : List AV, ∀ j ∈ AV.idsL (AV.renL (mv i n) l), ∃ k ∈ AV.idsL l, mv i n k = j) := by
  have hL : ∀ (l : List AV), (∀ x ∈ l, ∀ j ∈ (x.ren (mv i n)).ids, ∃ k ∈ x.ids, mv i n k = j) → ∀ j ∈ AV.idsL (AV.renL (mv i n) l), ∃ k ∈ AV.idsL l, mv i n k = j := by
   intro l
   induction l with
   | nil => intro _ j hj; cases hj
   | cons y r ih =>
    intro h j hj
    simp only [AV.renL, AV.idsL, b87] at hj ⊢
    rcases hj with hj | hj
    ·obtain ⟨k, h1, h2⟩ := h y ca7 j hj
     exact ⟨k, .inl h1, h2⟩
    ·obtain ⟨k, h1, h2⟩ := ih (fun x hx => h x (ca6 _ hx)) j hj
     exact ⟨k, .inr h1, h2⟩
  have hx : ∀ x : AV, ∀ j ∈ (x.ren (mv i n)).ids, ∃ k ∈ x.ids, mv i n k = j := fun x => goX hL x
  exact ⟨hx, fun l => hL l fun x _ => hx x⟩
 exact key.1 x
where
 goX {i n : Nat} (hL : ∀ (l : List AV), (∀ x ∈ l, ∀ j ∈ (x.ren (mv i n)).ids, ∃ k ∈ x.ids, mv i n k = j) → ∀ j ∈ AV.idsL (AV.renL (mv i n) l), ∃ k ∈ AV.idsL l, mv i n k = j) : ∀ x : AV, ∀ j ∈ (x.ren (mv i n)).ids, ∃ k ∈ x.ids, mv i n k = j
  | .v _, j, hj => by cases hj
  | .ptr a b, j, hj => ⟨a, b94.2 rfl, (b94.1 hj).symm⟩
  | .ea a b c d, j, hj => ⟨a, b94.2 rfl, (b94.1 hj).symm⟩
  | .ref a, j, hj => ⟨a, b94.2 rfl, (b94.1 hj).symm⟩
  | .tref a, j, hj => ⟨a, b94.2 rfl, (b94.1 hj).symm⟩
  | .agg l, j, hj => hL l (fun x _ => goX hL x) j hj
  | .tup l, j, hj => hL l (fun x _ => goX hL x) j hj
  | .fn _ l, j, hj => hL l (fun x _ => goX hL x) j hj
  | .bm _ l, j, hj => hL l (fun x _ => goX hL x) j hj
theorem t7.shift (G : t7 φ ψ w0 F N m ρ0 ρ S tm a w) (i n : Nat) (S1 : List It) (tm1 : List (Nat × AV)) (hn : (natEq S.length n && decide (i < n)) = true := by kernel_rfl) (hS : S1 = (S.map (It.ren (mv i n))).set i .dead ++ [(o5 S i).ren (mv i n)] := by kernel_rfl) (ht : tm1 = tm.map (fun p => (p.1, p.2.ren (mv i n))) := by kernel_rfl) :
  ∃ ρ', t7 φ ψ w0 F N m ρ0 ρ' S1 tm1 a w := by
 subst hS
 subst ht
 simp only [b73, natEq, beq_iff_eq, decide_eq_true_eq] at hn
 obtain ⟨hn, hin⟩ := hn
 have hlen : ((S.map (It.ren (mv i n))).set i .dead ++ [(o5 S i).ren (mv i n)]).length = n + 1 := by simp [hn]
 have hat : ∀ j, o5 ((S.map (It.ren (mv i n))).set i .dead ++ [(o5 S i).ren (mv i n)]) j = if j = n then (o5 S i).ren (mv i n) else if j = i then .dead else (o5 S j).ren (mv i n) := fun j => by
  by_cases e : j = n
  ·subst e
   rw [if_pos rfl]
   simp only [o5, b75]
   rw [List.getElem?_append_right (by simp [hn])]
   simp [hn]
  ·rw [if_neg e]
   by_cases e2 : j = i
   ·subst e2
    rw [if_pos rfl]
    simp only [o5, b75]
    rw [b99 (by simp; omega)]
    simp [show j < S.length by omega]
   ·rw [if_neg e2]
    simp only [o5, b75]
    rcases b93 j n with h | h
    ·rw [b99 (by simp; omega), List.getElem?_set_ne (fun h => e2 h.symm), List.getElem?_map, b72 (by omega)]
     rfl
    ·rw [b98 (by simp; omega), b98 (by omega)]; rfl
 have hbd : ∀ x : AV, (∀ j ∈ x.ids, j < n) → ∀ j ∈ (x.ren (mv i n)).ids, j < n + 1 := fun x h j hj => by
  obtain ⟨k, h1, h2⟩ := bO4 j hj
  have := h k h1
  rw [← h2]; unfold mv
  split <;> omega
 let ρ1 : Nat → Value := fun j => if j = n then ρ i else ρ j
 have hmv : ∀ j, j < n → ρ1 (mv i n j) = ρ j := fun j hj => by
  show (if mv i n j = n then ρ i else ρ (mv i n j)) = ρ j
  by_cases e : j = i
  ·subst e; simp [mv, natEq]
  ·have h : mv i n j = j := by simp [mv, natEq, e]
   rw [h, if_neg (by omega)]
 have hval : ∀ x : AV, (∀ j ∈ x.ids, j < n) → (x.ren (mv i n)).val ρ1 = x.val ρ := fun x h => by
  rw [AV.val_ren]
  exact AV.val_congr x fun j hj => hmv j (h j hj)
 have hids : ∀ j, ∀ q ∈ (o5 S j).ids, q < n := fun j q hq => by have := (G.bd j).1 q hq; omega
 have hitem : ∀ j, ∀ q ∈ ((o5 S j).ren (mv i n)).ids, q < n + 1 := fun j q hq => by
  cases hx : o5 S j with
  | box cs =>
   rw [hx] at hq
   have h1 := hids j
   rw [hx] at h1
   exact hbd (.agg cs) h1 q hq
  | hole k d ls =>
   rw [hx] at hq
   have h1 := hids j
   rw [hx] at h1
   exact hbd (.ref k) h1 q hq
  | _ => rw [hx] at hq; cases hq
 refine ⟨ρ1, G.size, G.defs, fun t y hy => ?_, fun t y hy j hj => ?_, fun j => ⟨fun q hq => ?_, fun hj => y8 hj⟩, ?_, ?_, fun j hj => ?_⟩
 ·obtain ⟨x, h1, rfl⟩ := aA5 hy
  rw [G.tmv t x h1, hval x fun j hj => by have := G.tmi t x h1 j hj; omega]
 ·obtain ⟨x, h1, rfl⟩ := aA5 hy
  rw [hlen]
  exact hbd x (fun j hj => by have := G.tmi t x h1 j hj; omega) j hj
 ·rw [hlen]
  rw [hat] at hq
  split at hq
  ·exact hitem i q hq
  ·split at hq
   ·cases hq
   ·exact hitem j q hq
 ·refine G.mem.map (fun k : ι ⊕ Nat => (match k with | .inl q => some (.inl q) | .inr j => if j = n then some (.inr i) else if j = i then none else some (.inr j) : Option (ι ⊕ Nat))) ?_ ?_
  ·intro k k' x h1 h2
   match k, k' with
   | .inl q, .inl q' => simp at h1 h2; rw [← h1] at h2; simpa using h2.symm
   | .inl q, .inr j => simp at h1; subst h1; simp at h2; split at h2 <;> simp at h2
   | .inr j, .inl q => simp at h2; subst h2; simp at h1; split at h1 <;> simp at h1
   | .inr j, .inr j' =>
    simp only at h1 h2
    by_cases e1 : j = n <;> by_cases e2 : j' = n
    ·rw [e1, e2]
    ·rw [if_pos e1] at h1
     rw [if_neg e2] at h2
     by_cases e3 : j' = i
     ·rw [if_pos e3] at h2; cases h2
     ·rw [if_neg e3] at h2
      simp at h1 h2
      rw [← h1] at h2
      exact absurd (Sum.inr.inj h2) e3
    ·rw [if_pos e2] at h2
     rw [if_neg e1] at h1
     by_cases e3 : j = i
     ·rw [if_pos e3] at h1; cases h1
     ·rw [if_neg e3] at h1
      simp at h1 h2
      rw [← h2] at h1
      exact absurd (Sum.inr.inj h1) e3
    ·rw [if_neg e1] at h1
     rw [if_neg e2] at h2
     by_cases e3 : j = i
     ·rw [if_pos e3] at h1; cases h1
     ·by_cases e4 : j' = i
      ·rw [if_pos e4] at h2; cases h2
      ·rw [if_neg e3] at h1
       rw [if_neg e4] at h2
       simp at h1 h2
       rw [← h1] at h2
       rw [Sum.inr.inj h2]
  ·intro k
   match k with
   | .inl q => exact .inl ⟨_, rfl, rfl⟩
   | .inr j =>
    by_cases e : j = n
    ·refine .inl ⟨.inr i, by simp [e], ?_⟩
     simp only [l7]
     rw [hat, if_pos e]
     subst e
     have h1 : mv i j i = j := by simp [mv, natEq]
     rw [It.res_ren' (o5 S i) h1]
     exact It.res_congr _ (fun q hq => hmv q (hids i q hq)) (.inr (.inr (hmv i hin)))
    ·by_cases e2 : j = i
     ·refine .inr ?_
      simp only [l7]
      rw [hat, if_neg e, if_pos e2]
      rfl
     ·refine .inl ⟨.inr j, by simp [e, e2], ?_⟩
      simp only [l7]
      rw [hat, if_neg e, if_neg e2]
      rcases b93 j n with hj | hj
      ·have h1 : mv i n j = j := by simp [mv, natEq, e2]
       rw [It.res_ren' (o5 S j) h1]
       exact It.res_congr _ (fun q hq => hmv q (hids j q hq)) (.inr (.inr (hmv j hj)))
      ·rw [y8 (by omega)]; rfl
 ·have := G.le; rw [hlen]; omega
 ·have := G.le
  show (if j = n then ρ i else ρ j) = ρ0 j
  rw [if_neg (by omega)]; exact G.old j hj
end
abbrev rN (l : List d7) : It := .row 60 (.instrs l)
abbrev rI (l : List Int) : It := .row 3 (.ints l)
theorem F3 (l : List d7) (fr : List Int) (at0 n o x y z u : Int) (h1 : l.length ≤ 8000000) (h2 : fr.length ≤ 8000000) : l0.ok Tryz.prog ⟨91, [.agg [.ref 0, .ref 1, iA at0], iA n, .agg [iA o, iA x, iA y, iA z, iA u]], [rN l, rI fr], [.dead, .dead, rN (l ++ [⟨o, x, y, z, u⟩]), rI (fr ++ [n])], .agg [.ref 2, .ref 3, iA at0]⟩ := by
 refine J8 20 Tryz.func91 [.row 60 (D.instrs l), .row 3 (D.ints fr)] [(0, .agg [.ref 0, .ref 1, iA at0]), (1, iA n), (2, .agg [iA o, iA x, iA y, iA z, iA u])] fun G => ?_; refine wp_seq (i9 G e6 [0, 1, 2, 10, 18] [.row 60 (D.instrs l), .row 3 (D.ints fr), .box [.ref 0, .ref 1, iA at0], .box [iA o, iA x, iA y, iA z, iA u], .box [.v (.slice none 0 0), .v (.slice none 0 0), iA 0]] [(1, iA n), (3, .ptr 2 0), (5, .ptr 3 0), (6, .ptr 4 0)] fun G => b0 (wp_seq (K6 G e6 [0, 1, 2, 4, 37] [.dead, .row 3 (D.ints fr), .box [.ref 4, .ref 1, iA at0], .box [.v (.slice none 0 0), .v (.slice none 0 0), iA 0], .row 60 (D.instrs (l ++ ([d7.mk o x y z u] ++ [])))] [(1, iA n), (3, .ptr 2 0), (6, .ptr 3 0)] (aP (l.length + 1) 40 []) (aK (by omega) b84) fun G => b0 (wp_seq (K6 G e6 [0, 1, 2, 3, 4, 37] [.dead, .dead, .box [.ref 4, .ref 5, iA at0], .box [.v (.slice none 0 0), .v (.slice none 0 0), iA 0], .row 60 (D.instrs (l ++ ([d7.mk o x y z u] ++ []))), .row 3 (D.ints (fr ++ ([n] ++ [])))] [(3, .ptr 2 0), (6, .ptr 3 0)] (aP (fr.length + 1) 8 []) (aK (by omega) b84) fun G => b0 (wp_seq (i9 G e6 [0, 1, 3, 4, 5] [.dead, .dead, .box [.ref 3, .ref 4, iA at0], .row 60 (D.instrs (l ++ ([d7.mk o x y z u] ++ []))), .row 3 (D.ints (fr ++ ([n] ++ [])))] [(6, .ptr 2 0)] fun G => b0 (wp_ret ?_)))))))); exact J9 G [0, 1, 3, 4]
abbrev l7C (l : List d7) (fr : List Int) (at0 n : Int) (e : d8) (reg : Int) : l0 := ⟨110, [.agg [.ref 0, .ref 1, iA at0], iA n, eA e 2, iA reg], [rN l, rI fr, dE e.kids], [.dead, .dead, dE e.kids, rN (l ++ c6 e reg), rI (fr ++ b70 (c6 e reg).length n)], .agg [.ref 3, .ref 4, iA at0]⟩
theorem ce1 {e : d8} {r : Int} (k : e.kind = 1) : c6 e r = [⟨1, r, e.value, 0, 0⟩] := by rw [ah2, if_pos k]
theorem ce2 {e : d8} {r : Int} (k : e.kind = 2) : c6 e r = [⟨2, r, e.value, 0, 0⟩] := by rw [ah2, if_neg (by omega), if_pos k]
theorem av4 (ks : List d8) (k : Nat) : P1 (ks.take k) ≤ P1 ks ∧ (k < ks.length → P1 (ks.take k) + 1 + S4 (ks.getD k b71) ≤ P1 ks) ∧ (ks.take k).length ≤ P1 (ks.take k) := by
 refine ⟨?_, fun h => ?_, aS8 _⟩
 ·have := ad7 (ks.take k) (ks.drop k)
  rw [List.take_append_drop] at this
  omega
 ·have h1 := ad7 (ks.take (k + 1)) (ks.drop (k + 1))
  rw [List.take_append_drop, t2 _ _ h, ad7, ← r7 (d := b71) h] at h1
  simp only [P1] at h1
  omega
section
variable {e : d8} {l : List d7} {fr : List Int} {n reg : Int} {k : Nat}
theorem aL1 (e : d8) : S4 e = P1 e.kids := by cases e; rfl
theorem bP9 (h0 : 0 ≤ reg) (h1 : reg + S4 e ≤ 2000000) (hk : k < e.kids.length) : 0 ≤ reg + (k : Int) ∧ reg + (k : Int) + S4 (e.kids.getD k b71) ≤ 2000000 := by
 have h2 := (av4 e.kids k).2.1 hk
 have h3 := (av4 e.kids k).2.2
 rw [List.length_take] at h3
 rw [aL1] at h1
 omega
theorem bQ0 (h2 : l.length + S4 e ≤ 5000000) (hk : k < e.kids.length) : (l ++ j8 (e.kids.take k) reg).length + S4 (e.kids.getD k b71) ≤ 5000000 := by
 have h3 := (av4 e.kids k).2.1 hk
 have h4 := ab8 (e.kids.take k) reg
 rw [aL1] at h2
 rw [b74]
 omega
theorem aq5 (h2 : l.length + S4 e ≤ 5000000) : (l ++ j8 (e.kids.take k) reg).length ≤ 5000000 := by
 have h3 := (av4 e.kids k).1
 have h4 := ab8 (e.kids.take k) reg
 rw [aL1] at h2
 rw [b74]
 omega
theorem aC7 (h3 : fr.length = l.length) : (fr ++ b70 (j8 (e.kids.take k) reg).length n).length = (l ++ j8 (e.kids.take k) reg).length := by simp [h3]
theorem bG4 (hk : k < e.kids.length) : l ++ j8 (e.kids.take (k + 1)) reg = l ++ j8 (e.kids.take k) reg ++ c6 (e.kids.getD k b71) (reg + (k : Int)) := by rw [at2 hk, cb7]
theorem bw5 (hk : k < e.kids.length) : fr ++ b70 (j8 (e.kids.take (k + 1)) reg).length n = fr ++ b70 (j8 (e.kids.take k) reg).length n ++ b70 (c6 (e.kids.getD k b71) (reg + (k : Int))).length n := by
 rw [at2 hk, b74, cb7, List.replicate_append_replicate]
theorem bw4 : l = l ++ j8 (e.kids.take 0) reg := by simp [j8]
theorem bj1 : fr = fr ++ b70 (j8 (e.kids.take 0) reg).length n := by simp [j8]
theorem a72 (k1 : ¬ e.kind = 1) (k2 : ¬ e.kind = 2) (hk : e.kids.length ≤ k) {x : d7} (hx : an5 e.kind e.value reg = x) : l ++ c6 e reg = l ++ j8 (e.kids.take k) reg ++ [x] := by
 rw [ah2, if_neg k1, if_neg k2, b89 hk, hx, cb7]
theorem aP4 (k1 : ¬ e.kind = 1) (k2 : ¬ e.kind = 2) (hk : e.kids.length ≤ k) : fr ++ b70 (c6 e reg).length n = fr ++ b70 (j8 (e.kids.take k) reg).length n ++ [n] := by
 rw [ah2, if_neg k1, if_neg k2, b89 hk, cb7, b74, b79, b85, List.replicate_succ']
theorem la3 (k : e.kind = 3) : an5 e.kind e.value reg = ⟨4, reg, e.value, reg, 0⟩ := by rw [an5, if_pos k]
theorem b55 (k : e.kind = 11) : an5 e.kind e.value reg = ⟨7, reg, reg, reg + 1, reg + 2⟩ := by rw [an5, if_neg (by omega), if_pos k]
theorem la0 (k3 : ¬ e.kind = 3) (k : ¬ e.kind = 11) : an5 e.kind e.value reg = ⟨6, reg, e.kind, reg, reg + 1⟩ := by rw [an5, if_neg k3, if_neg k]
end
abbrev Y5 (e : d8) (l : List d7) (fr : List Int) (n : Int) (reg : Int) : List It := [.dead, .dead, dE e.kids, .row 60 (D.instrs (l ++ c6 e reg)), .row 3 (D.ints (fr ++ b70 (c6 e reg).length n))]
abbrev U4 (n : Int) (reg : Int) (r0 : List (Nat × AV)) : List (Nat × AV) := (1, iA n) :: (3, iA reg) :: (4, .ptr 3 0) :: (6, .ptr 4 0) :: (8, .ptr 5 0) :: r0
abbrev aK2 (e : d8) (at0 : Int) (r0 : List It) : List It := .dead :: .dead :: dE e.kids :: .box [.ref 6, .ref 7, iA at0] :: .box (eL e 2) :: .box [.v (.slice none 0 0), .v (.slice none 0 0), iA 0] :: r0
theorem bo9 (e : d8) (ih : ∀ (u : d8), u ∈ e.kids → ∀ (l : List d7) (fr : List Int) (at0 n reg : Int), 0 ≤ reg → reg + S4 u ≤ 2000000 → l.length + S4 u ≤ 5000000 → fr.length = l.length → l0.ok Tryz.prog (l7C l fr at0 n u reg)) (l : List d7) (fr : List Int) (at0 n reg : Int) (r0 : 0 ≤ reg) (r1 : reg + S4 e ≤ 2000000) (r2 : l.length + S4 e ≤ 5000000) (r3 : fr.length = l.length) : l0.ok Tryz.prog (l7C l fr at0 n e reg) := by
  refine J8 82 Tryz.func110 [.row 60 (D.instrs l), .row 3 (D.ints fr), dE e.kids] [(0, .agg [.ref 0, .ref 1, iA at0]), (1, iA n), (2, eA e 2), (3, iA reg)] fun G => ?_
  have hlen : e.kids.length ≤ S4 e := by cases e; exact aS8 _
  refine wp_seq (i9 G e6 [0, 1, 2, 3, 11, 19] [.row 60 (D.instrs l), .row 3 (D.ints fr), dE e.kids, .box [.ref 0, .ref 1, iA at0], .box (eL e 2), .box [.v (.slice none 0 0), .v (.slice none 0 0), iA 0]] (U4 n reg []) fun G => b0 (wp_seq (wp_seq (l6 G e6 [(11, iA e.kind)] fun G => b0 (wp_block (wp_seq (l6 G e6 [(12, bA (e.kind == 1))] fun G => b0 (P0 G (fun h0 q0 => ?_) fun h0 q0 => ?_))))))))
  ·
   refine wp_seq (l6 G e6 [(21, bA (e.kind == 2))] fun G => b0 (P0 G (fun h1 q1 => ?_) fun h1 q1 => ?_))
   ·
    refine wp_skip (i8 (b0 (wp_seq (wp_seq (G9 G e6 (U4 n reg [(9, iA 0)]) fun G => b0 (wp_block ?_)))))); obtain ⟨ρ, G⟩ := G.shift 0 6 [.dead, .row 3 (D.ints fr), dE e.kids, .box [.ref 6, .ref 1, iA at0], .box (eL e 2), .box [.v (.slice none 0 0), .v (.slice none 0 0), iA 0], .row 60 (D.instrs l)] (U4 n reg [(9, iA 0)]); obtain ⟨ρ, G⟩ := G.shift 1 7 (aK2 e at0 [.row 60 (D.instrs l), .row 3 (D.ints fr)]) (U4 n reg [(9, iA 0)]); replace G := G.as (aK2 e at0 [.row 60 (D.instrs (l ++ j8 (b83 0 e.kids) reg)), .row 3 (D.ints (fr ++ b70 (j8 (b83 0 e.kids) reg).length n))]) (U4 n reg [(9, iA 0)]) (by have e1 : (l ++ j8 (b83 0 e.kids) reg : List d7) = (l) := bw4.symm; have e2 : (fr ++ b70 (j8 (b83 0 e.kids) reg).length n : List Int) = (fr) := bj1.symm; (first | rw [e1, e2] | simp only [e1, e2]) <;> rfl) (by kernel_rfl); refine x6 (κ := Nat) (fun k => k ≤ e.kids.length) (fun k => e.kids.length - k) (fun k => [.dead, .dead, dE e.kids, .box [.ref 6, .ref 7, iA at0], .box (eL e 2), .box [.v (.slice none 0 0), .v (.slice none 0 0), iA 0], .row 60 (.instrs (l ++ j8 (e.kids.take k) reg)), .row 3 (.ints (fr ++ b70 (j8 (e.kids.take k) reg).length n))]) (fun k => [(1, iA n), (3, iA reg), (4, .ptr 3 0), (6, .ptr 4 0), (8, .ptr 5 0), (9, iA k)]) 0 (by omega) (t7.at G _ _) ?_; clear G; intro k ρ a w hp G; replace G := t7.at G (aK2 e at0 [.row 60 (D.instrs (l ++ j8 (b83 k e.kids) reg)), .row 3 (D.ints (fr ++ b70 (j8 (b83 k e.kids) reg).length n))]) (U4 n reg [(9, iA k)]); refine wp_seq (wp_seq (l6 G e6 [(34, bA (decide ((k : Int) < e.kids.length)))] fun G => b0 (rcD G (fun h2 q2 => ?_) fun h2 q2 => ?_)))
    ·
     refine wp_exit (v9 (v9 (v6 (b0 (wp_seq (wp_seq (l6 G e6 [(49, iA e.kind)] fun G => b0 (wp_block (wp_seq (l6 G e6 [(50, bA (e.kind == 3))] fun G => b0 (P0 G (fun h3 q3 => ?_) fun h3 q3 => ?_)))))))))))
     ·
      refine wp_seq (l6 G e6 [(60, bA (e.kind == 11))] fun G => b0 (P0 G (fun h4 q4 => ?_) fun h4 q4 => ?_))
      · refine wp_skip (i8 (b0 (wp_seq (K6 G (v5 9 [6, 7] (F3 (l ++ j8 (b83 k e.kids) reg) (fr ++ b70 (j8 (b83 k e.kids) reg).length n) at0 n 6 reg e.kind reg (reg + 1) (by have := aq5 (k := k) (reg := reg) r2; have := aC7 (e := e) (n := n) (k := k) (reg := reg) r3; omega) (by have := aq5 (k := k) (reg := reg) r2; have := aC7 (e := e) (n := n) (k := k) (reg := reg) r3; omega))) [0, 1, 2, 5, 80, 81] [.dead, .dead, dE e.kids, .box [.ref 4, .ref 5, iA at0], .row 60 (D.instrs (l ++ j8 (b83 k e.kids) reg ++ [d7.mk 6 reg e.kind reg (reg + 1)])), .row 3 (D.ints (fr ++ b70 (j8 (b83 k e.kids) reg).length n ++ [n]))] [(8, .ptr 3 0)] [wO (reg + 1)] (o1 (by omega)) fun G => b0 (wp_ret ?_))))); exact J9 G [0, 1, 2, 4, 5] (by show _ = mR [0, 1, 2, 4, 5] (Y5 e l fr n reg); unfold Y5; have e1 : (l ++ c6 e reg : List d7) = (l ++ j8 (b83 k e.kids) reg ++ [d7.mk 6 reg e.kind reg (reg + 1)]) := (a72 (by omega) (by omega) (by omega) (la0 (by omega) (by omega))); have e2 : (fr ++ b70 (c6 e reg).length n : List Int) = (fr ++ b70 (j8 (b83 k e.kids) reg).length n ++ [n]) := (aP4 (by omega) (by omega) (by omega)); (first | rw [e1, e2] | simp only [e1, e2]) <;> rfl)
      · refine wp_seq (K6 G (v5 9 [6, 7] (F3 (l ++ j8 (b83 k e.kids) reg) (fr ++ b70 (j8 (b83 k e.kids) reg).length n) at0 n 7 reg reg (reg + 1) (reg + 2) (by have := aq5 (k := k) (reg := reg) r2; have := aC7 (e := e) (n := n) (k := k) (reg := reg) r3; omega) (by have := aq5 (k := k) (reg := reg) r2; have := aC7 (e := e) (n := n) (k := k) (reg := reg) r3; omega))) [0, 1, 2, 3, 4, 5, 6, 7, 80, 81] [.dead, .dead, dE e.kids, .box [.ref 6, .ref 7, iA at0], .box (eL e 2), .box [.ref 8, .ref 9, iA at0], .dead, .dead, .row 60 (D.instrs (l ++ j8 (b83 k e.kids) reg ++ [d7.mk 7 reg reg (reg + 1) (reg + 2)])), .row 3 (D.ints (fr ++ b70 (j8 (b83 k e.kids) reg).length n ++ [n]))] (U4 n reg []) [wO (reg + 1), wO (reg + 2)] (o2 (by omega)) fun G => b0 (wp_ret (E3 (o8 ?_)))); exact J9 G [0, 1, 2, 8, 9] (by show _ = mR [0, 1, 2, 8, 9] (Y5 e l fr n reg); unfold Y5; have e1 : (l ++ c6 e reg : List d7) = (l ++ j8 (b83 k e.kids) reg ++ [d7.mk 7 reg reg (reg + 1) (reg + 2)]) := (a72 (by omega) (by omega) (by omega) (b55 (by omega))); have e2 : (fr ++ b70 (c6 e reg).length n : List Int) = (fr ++ b70 (j8 (b83 k e.kids) reg).length n ++ [n]) := (aP4 (by omega) (by omega) (by omega)); (first | rw [e1, e2] | simp only [e1, e2]) <;> rfl)
     · refine wp_seq (i9 G (v5 7 [6, 7] (F3 (l ++ j8 (b83 k e.kids) reg) (fr ++ b70 (j8 (b83 k e.kids) reg).length n) at0 n 4 reg e.value reg 0 (by have := aq5 (k := k) (reg := reg) r2; have := aC7 (e := e) (n := n) (k := k) (reg := reg) r3; omega) (by have := aq5 (k := k) (reg := reg) r2; have := aC7 (e := e) (n := n) (k := k) (reg := reg) r3; omega))) [0, 1, 2, 3, 4, 5, 6, 7, 64, 65] [.dead, .dead, dE e.kids, .box [.ref 6, .ref 7, iA at0], .box (eL e 2), .box [.ref 8, .ref 9, iA at0], .dead, .dead, .row 60 (D.instrs (l ++ j8 (b83 k e.kids) reg ++ [d7.mk 4 reg e.value reg 0])), .row 3 (D.ints (fr ++ b70 (j8 (b83 k e.kids) reg).length n ++ [n]))] (U4 n reg []) fun G => b0 (wp_ret (E3 (o8 ?_)))); exact J9 G [0, 1, 2, 8, 9] (by show _ = mR [0, 1, 2, 8, 9] (Y5 e l fr n reg); unfold Y5; have e1 : (l ++ c6 e reg : List d7) = (l ++ j8 (b83 k e.kids) reg ++ [d7.mk 4 reg e.value reg 0]) := (a72 (by omega) (by omega) (by omega) (la3 (by omega))); have e2 : (fr ++ b70 (c6 e reg).length n : List Int) = (fr ++ b70 (j8 (b83 k e.kids) reg).length n ++ [n]) := (aP4 (by omega) (by omega) (by omega)); (first | rw [e1, e2] | simp only [e1, e2]) <;> rfl)
    · refine wp_skip (b0 (wp_seq (wp_block (H5 G (v5 10 [6, 7, 56] (ih (e.kids.getD k b71) (bu4 (by omega)) (l ++ j8 (b83 k e.kids) reg) (fr ++ b70 (j8 (b83 k e.kids) reg).length n) at0 n (reg + (k : Int)) (by omega) ((bP9 r0 r1 (by omega)).2) (bQ0 r2 (by omega)) (aC7 r3))) [0, 0, 0, 4, 0, 28, 60, 0, 0, 384, 1023, 2047] [0, 1, 2, 3, 4, 5, 88, 89] (aK2 e at0 [.row 60 (D.instrs (l ++ j8 (b83 k e.kids) reg ++ c6 (e.kids.getD k b71) (reg + (k : Int)))), .row 3 (D.ints (fr ++ b70 (j8 (b83 k e.kids) reg).length n ++ b70 (c6 (e.kids.getD k b71) (reg + (k : Int))).length n))]) (U4 n reg [(9, iA k)]) (iX k k e.kids.length ((wO (reg + (k : Int))) :: [])) (iK (by omega) (o1 (by omega))) fun G => i8 (b0 (D0 G e6 [(9, iA ((k : Int) + 1))] [wO ((k : Int) + 1)] (o1 (by omega)) fun G => b0 ?_)))))); exact L0 G (k + 1) (by omega) (by omega) (rg 8) (by have e1 : (l ++ j8 (b83 (k + 1) e.kids) reg : List d7) = (l ++ j8 (b83 k e.kids) reg ++ c6 (e.kids.getD k b71) (reg + (k : Int))) := (bG4 (by omega)); have e2 : (fr ++ b70 (j8 (b83 (k + 1) e.kids) reg).length n : List Int) = (fr ++ b70 (j8 (b83 k e.kids) reg).length n ++ b70 (c6 (e.kids.getD k b71) (reg + (k : Int))).length n) := (bw5 (by omega)); (first | rw [e1, e2] | simp only [e1, e2]) <;> rfl)
   · refine wp_seq (i9 G (v5 6 [0, 1] (F3 l fr at0 n 2 reg e.value 0 0 (by omega) (by omega))) [0, 1, 2, 3, 4, 5, 54, 55] [.dead, .dead, dE e.kids, .box [.ref 0, .ref 1, iA at0], .box (eL e 2), .box [.ref 6, .ref 7, iA at0], .row 60 (D.instrs (l ++ [d7.mk 2 reg e.value 0 0])), .row 3 (D.ints (fr ++ [n]))] (U4 n reg []) fun G => b0 (wp_ret (E3 (o8 ?_)))); exact J9 G [0, 1, 2, 6, 7] (by show _ = mR [0, 1, 2, 6, 7] (Y5 e l fr n reg); unfold Y5; rw [ce2 (by omega)] <;> rfl)
  · refine wp_seq (i9 G (v5 6 [0, 1] (F3 l fr at0 n 1 reg e.value 0 0 (by omega) (by omega))) [0, 1, 2, 3, 4, 5, 54, 55] [.dead, .dead, dE e.kids, .box [.ref 0, .ref 1, iA at0], .box (eL e 2), .box [.ref 6, .ref 7, iA at0], .row 60 (D.instrs (l ++ [d7.mk 1 reg e.value 0 0])), .row 3 (D.ints (fr ++ [n]))] (U4 n reg []) fun G => b0 (wp_ret (E3 (o8 ?_)))); exact J9 G [0, 1, 2, 6, 7] (by show _ = mR [0, 1, 2, 6, 7] (Y5 e l fr n reg); unfold Y5; rw [ce1 (by omega)] <;> rfl)
theorem aZ0 (e : d8) : ∀ (l : List d7) (fr : List Int) (at0 n reg : Int), 0 ≤ reg → reg + S4 e ≤ 2000000 → l.length + S4 e ≤ 5000000 → fr.length = l.length → l0.ok Tryz.prog (l7C l fr at0 n e reg) :=
 d8.ind (P := fun e => ∀ (l : List d7) (fr : List Int) (at0 n reg : Int), 0 ≤ reg → reg + S4 e ≤ 2000000 → l.length + S4 e ≤ 5000000 → fr.length = l.length → l0.ok Tryz.prog (l7C l fr at0 n e reg)) (fun k v ks ih l fr at0 n reg r0 r1 r2 r3 => bo9 ⟨k, v, ks⟩ (fun u hu => ih u hu) l fr at0 n reg r0 r1 r2 r3) e
theorem ac0 (op : Int) (r0 : 1 ≤ op ∧ op ≤ 13) : l0.ok Tryz.prog (Z1 79 [iA op] [] (.v (.string ⟨(f8 op).toArray⟩))) :=
 aj8 fun φ w ρ h => (ai5 op w r0.1 r0.2).mono fun e w' h => h
theorem N4 (b : List UInt8) (j : Int) (r0 : 0 ≤ j) (r1 : j ≤ 900000000) : l0.ok Tryz.prog ⟨50, [.ptr 0 0], [.box [.ref 1, iA j], dY b], [.box [.ref 1, iA (j + 1)], dY b], iA (nm b j vaL)⟩ := by
 refine J8 6 Tryz.func50 [.box [.ref 1, iA j], dY b] [(0, .ptr 0 0)] fun G => ?_; refine wp_seq (l6 G e6 [(2, iA 0)] fun G => b0 (wp_seq (i9 G (v5 2 [0, 1, 10] (l0.lend (O5 b j ([0] ++ ([1] ++ ([2] ++ ([3] ++ ([255] ++ ([128] ++ ([7] ++ ([4] ++ ([100] ++ []))))))))) (List.cons_ne_nil _ _) (by assumption) (by omega)) [.no, .no, .row 3])) [0, 1] [.box [.ref 1, iA (j + 1)], dY b] [(2, iA (nm b j ([0] ++ ([1] ++ ([2] ++ ([3] ++ ([255] ++ ([128] ++ ([7] ++ ([4] ++ ([100] ++ [])))))))))))] fun G => b0 (wp_ret ?_)))); exact J9 G [0, 1]
theorem bN2 : ∀ x ∈ opL, 1 ≤ x ∧ x ≤ 12 := by decide
theorem b40 (b : List UInt8) {j : Int} (r0 : 0 ≤ j) (r1 : j ≤ 900000000) : 1 ≤ nm b j opL ∧ nm b j opL ≤ 12 := bN2 _ (aj9 b r0 (by omega) (List.cons_ne_nil _ _))
abbrev rnC (b : List UInt8) (j : Int) (vs ars : List Int) (l : List d7) (at0 n : Int) : l0 := ⟨74, [.ptr 0 0, .agg [.ref 2, .ref 3, .ref 4], iA at0, iA n], [.box [.ref 1, iA j], dY b, dI vs, dI ars, dN l], [.box [.ref 1, iA (U8 b j vs.length ars.length at0 n).2], dY b, dI vs, dI ars, dN l], .agg [iA (U8 b j vs.length ars.length at0 n).1.op, iA (U8 b j vs.length ars.length at0 n).1.a, iA (U8 b j vs.length ars.length at0 n).1.b, iA (U8 b j vs.length ars.length at0 n).1.c, iA (U8 b j vs.length ars.length at0 n).1.d]⟩
theorem aS3 {x : UInt8} {m : Nat} (h : ((x.toNat : Nat) : Int) = m) (hm : m < 256) : x = UInt8.ofNat m := by
 apply UInt8.toNat_inj.1
 rw [UInt8.toNat_ofNat']
 omega
section
variable {b : List UInt8} {j i at0 n X : Int} {nv na : Nat} {ks : List UInt8} {k : Nat} {x : UInt8}
theorem au1 (hX : nm b j opL = X) (h : na = 0) (h2 : X = 4 ∨ X = 5) : opD b j na = 2 := by unfold opD; rw [hX, if_pos ⟨h, h2⟩]
theorem au0 (hX : nm b j opL = X) (h : ¬ na = 0 ∨ (¬ X = 4 ∧ ¬ X = 5)) : opD b j na = X := by unfold opD; rw [hX, if_neg (by omega)]
theorem ab0 (b : List UInt8) {i m : Int} (h0 : 0 ≤ i) (h1 : i ≤ 1000000000) : 0 ≤ pk b i m ∧ (pk b i m = 0 ∨ pk b i m < m) := by
 by_cases h : m < 1
 ·rw [bT9 h]; omega
 ·have := bD5 b h0 h1 (n := m) (by omega); omega
theorem bD1 (h : ((x.toNat : Nat) : Int) = 114) : ptD b i nv na at0 n x = pk b i 3 := by
 rw [aS3 (m := 114) h (by decide)]; rfl
theorem bD3 (h : ((x.toNat : Nat) : Int) = 99) : ptD b i nv na at0 n x = nm b i vaL := by
 rw [aS3 (m := 99) h (by decide)]; rfl
theorem bC9 (h : ((x.toNat : Nat) : Int) = 118) : ptD b i nv na at0 n x = pk b i nv := by
 rw [aS3 (m := 118) h (by decide)]; rfl
theorem bD4 (h : ((x.toNat : Nat) : Int) = 97) : ptD b i nv na at0 n x = pk b i na := by
 rw [aS3 (m := 97) h (by decide)]; rfl
theorem bD2 (h : ((x.toNat : Nat) : Int) = 111) : ptD b i nv na at0 n x = 4 + pk b i 7 := by
 rw [aS3 (m := 111) h (by decide)]; rfl
theorem bD0 (h1 : ¬ ((x.toNat : Nat) : Int) = 114) (h2 : ¬ ((x.toNat : Nat) : Int) = 99) (h3 : ¬ ((x.toNat : Nat) : Int) = 118) (h4 : ¬ ((x.toNat : Nat) : Int) = 97) (h5 : ¬ ((x.toNat : Nat) : Int) = 111) : ptD b i nv na at0 n x = at0 + 1 + pk b i (n - at0 - 1) := by
 unfold ptD
 rw [if_neg fun e => h1 (by rw [e]; rfl), if_neg fun e => h2 (by rw [e]; rfl), if_neg fun e => h3 (by rw [e]; rfl), if_neg fun e => h4 (by rw [e]; rfl), if_neg fun e => h5 (by rw [e]; rfl)]
theorem b32 {v : Int} (hk : k < 4) (h : ptD b (j + k) nv na at0 n (ks.getD k 0) = v) : psD b j nv na at0 n ks (k + 1) = (psD b j nv na at0 n ks k).set k v := by rw [bq9 b j nv na at0 n ks hk, h]
theorem fl2 : (f8 2).length = 2 := rfl
theorem bsz (l : List UInt8) : (ByteArray.mk l.toArray).size = l.length := by simp [ByteArray.size]
theorem b22 (ho : opD b j na = X) (hk : (f8 X).length ≤ k) (hk2 : k ≤ (f8 X).length) : U8 b j nv na at0 n = (⟨X, (psD b (j + 1) nv na at0 n (f8 X) k).getD 0 0, (psD b (j + 1) nv na at0 n (f8 X) k).getD 1 0, (psD b (j + 1) nv na at0 n (f8 X) k).getD 2 0, (psD b (j + 1) nv na at0 n (f8 X) k).getD 3 0⟩, j + 1 + k) := by
 have e : k = (f8 X).length := by omega
 subst e
 unfold U8
 rw [ho]
def RnR (b : List UInt8) (j at0 n : Int) (nv na : Nat) (R : Int → Nat → List Int) : Prop := ∀ X k, R X k = psD b (j + 1) nv na at0 n (f8 X) k
variable {R : Int → Nat → List Int}
theorem RnR.len (h : RnR b j at0 n nv na R) (X : Int) (k : Nat) : (R X k).length = 4 := by rw [h X k, bc3]
theorem RnR.start (h : RnR b j at0 n nv na R) (X : Int) : R X 0 = [0, 0, 0, 0] := h X 0
theorem RnR.next (h : RnR b j at0 n nv na R) {X v : Int} (hk : k < 4) (hp : ptD b (j + 1 + k) nv na at0 n ((f8 X).getD k 0) = v) : R X (k + 1) = (R X k).set k v := by rw [h X (k + 1), h X k]; exact b32 hk hp
theorem RnR.done (h : RnR b j at0 n nv na R) {X : Int} (ho : opD b j na = X) (hk : (f8 X).length ≤ k) (hk2 : k ≤ (f8 X).length) : U8 b j nv na at0 n = (⟨X, (R X k).getD 0 0, (R X k).getD 1 0, (R X k).getD 2 0, (R X k).getD 3 0⟩, j + 1 + k) := by rw [h X k]; exact b22 ho hk hk2
end
abbrev bR5 : It := .box [iA 0, iA 0, iA 0, iA 0, iA 0]
abbrev I9 (j : Int) (k : Nat) : It := .box [.ref 1, iA (j + 1 + (k : Int) + 1)]
abbrev N1 (X : Int) : AV := .v (.string (ByteArray.mk (f8 X).toArray))
abbrev N0 : AV := .v (.string (ByteArray.mk (f8 2).toArray))
abbrev P5 : It := .box [iA 2, iA 0, iA 0, iA 0, iA 0]
abbrev R3 (X : Int) : It := .box [iA X, iA 0, iA 0, iA 0, iA 0]
abbrev as2 (j : Int) (k : Nat) : It := .box [.ref 1, iA (j + 1 + (k : Int))]
abbrev ba3 : It := .row 3 (D.ints ([0] ++ ([0] ++ ([0] ++ ([0] ++ [])))))
abbrev y7 (at0 : Int) (n : Int) (r0 : List (Nat × AV)) : List (Nat × AV) := (0, .ptr 0 0) :: (2, iA at0) :: (3, iA n) :: (5, .ptr 5 0) :: (8, .ptr 6 0) :: (9, .ptr 7 0) :: r0
abbrev B7 (b : List UInt8) (vs : List Int) (ars : List Int) (l : List d7) (r0 : List It) : List It := dY b :: dI vs :: dI ars :: dN l :: .box (pL 2) :: bR5 :: r0
abbrev E9 (k : Nat) (r0 : List (Nat × AV)) : List (Nat × AV) := (11, .ref 8) :: (12, iA (k : Int)) :: r0
theorem a29 (b : List UInt8) (j : Int) (vs ars : List Int) (l : List d7) (at0 n X : Int) (hX : nm b j opL = X) (r0 : 0 ≤ j) (r1 : j ≤ 800000000) (r2 : 0 ≤ at0 ∧ at0 ≤ 100) (r3 : 0 ≤ n ∧ n ≤ 100) : l0.ok Tryz.prog (rnC b j vs ars l at0 n) := by
  have hnum : l0.ok Tryz.prog ⟨46, [.ptr 0 0, .ref 2], [.box [.ref 1, iA j], dY b, dI opL], [.box [.ref 1, iA (j + 1)], dY b, dI opL], iA X⟩ := hX ▸ O5 b j opL (List.cons_ne_nil _ _) r0 (by omega); refine J8 114 Tryz.func74 [.box [.ref 1, iA j], dY b, dI vs, dI ars, dN l] [(0, .ptr 0 0), (1, pA 2), (2, iA at0), (3, iA n)] fun G => ?_; obtain ⟨R, hR⟩ : ∃ x : Int → Nat → List Int, RnR b j at0 n vs.length ars.length x := ⟨_, fun _ _ => rfl⟩; have hRl := hR.len; have hop : 1 ≤ X ∧ X ≤ 12 := hX ▸ b40 b r0 (by omega); refine wp_seq (i9 G e6 [0, 1, 2, 3, 4, 5, 13] (.box [.ref 1, iA j] :: (B7 b vs ars l [])) [(0, .ptr 0 0), (2, iA at0), (3, iA n), (5, .ptr 5 0), (8, .ptr 6 0)] fun G => b0 (wp_seq (i9 G (v5 2 [0, 1, 15] (l0.lend hnum [.no, .no, .row 3])) [0, 1, 2, 3, 4, 5, 6, 39] (.box [.ref 1, iA (j + 1)] :: (B7 b vs ars l [R3 X])) (y7 at0 n []) fun G => b0 (wp_seq (wp_seq ?_))))); cases h0 : ((ars.length : Int) == 0)
  ·
   have q0 := ne_of_beq_false h0; refine l6 G (J3 (fc h0 fz) (us [(5, 8, 0), (12, 12, 0), (1013, 1013, 0)])) [(30, bA false)] fun G => b0 (rF G false (by kernel_rfl) (wp_skip (b0 (wp_seq (l6 G (v5 2 [] (ac0 X (by omega))) [(10, N1 X)] fun G => b0 (wp_seq (i9 G e6 (rg 9) (.box [.ref 1, iA (j + 1)] :: (B7 b vs ars l [R3 X, ba3])) (y7 at0 n [(10, N1 X), (11, .ref 8)]) fun G => b0 (wp_seq (wp_seq (G9 G e6 (y7 at0 n [(10, N1 X), (11, .ref 8), (12, iA 0)]) fun G => b0 (wp_block ?_))))))))))); replace G := G.as [.box [.ref 1, iA (j + 1 + (0 : Int))], dY b, dI vs, dI ars, dN l, .box (pL 2), .box [iA 0, iA 0, iA 0, iA 0, iA 0], .box [iA X, iA 0, iA 0, iA 0, iA 0], .row 3 (D.ints (R X 0))] (y7 at0 n [(10, .v (.string (ByteArray.mk (f8 X).toArray))), (11, .ref 8), (12, iA 0)]) (by have e1 : (j + 1 + (0 : Int) : Int) = (j + 1) := (by omega); have e2 : (R X 0 : List Int) = ([0] ++ ([0] ++ ([0] ++ ([0] ++ [])))) := (hR.start _); (first | rw [e1, e2] | simp only [e1, e2]) <;> rfl) (by kernel_rfl); refine x6 (κ := Nat) (fun k => k ≤ (f8 X).length) (fun k => (f8 X).length - k) (fun k => [.box [.ref 1, iA (j + 1 + k)], dY b, dI vs, dI ars, dN l, .box (pL 2), .box [iA 0, iA 0, iA 0, iA 0, iA 0], .box [iA X, iA 0, iA 0, iA 0, iA 0], .row 3 (.ints (R X k))]) (fun k => [(0, .ptr 0 0), (2, iA at0), (3, iA n), (5, .ptr 5 0), (8, .ptr 6 0), (9, .ptr 7 0), (10, .v (.string (ByteArray.mk (f8 X).toArray))), (11, .ref 8), (12, iA k)]) 0 (by omega) (t7.at G _ _) ?_; clear G; intro k ρ a w hp G; replace G := t7.at G (as2 j k :: (B7 b vs ars l [R3 X, .row 3 (D.ints (R X k))])) (y7 at0 n ((10, N1 X) :: (E9 k []))); have hfl := Q4 X; have hbz := bsz (f8 X); refine wp_seq (wp_seq (l6 G e6 [(39, bA (decide ((k : Int) < ((ByteArray.mk (f8 X).toArray).size : Int))))] fun G => b0 (rcD G (fun h3 q3 => ?_) fun h3 q3 => ?_)))
   · refine wp_exit (v9 (v9 (v6 (b0 (wp_seq (H5 G e6 [0, 1, 0, 4, 12, 0, 32, 96, 0, 256, 768, 0, 2048, 6144, 16383, 32767] [0, 1, 2, 3, 4, 6] [as2 j k, dY b, dI vs, dI ars, dN l, .box [iA X, iA ((R X k).getD 0 0), iA ((R X k).getD 1 0), iA ((R X k).getD 2 0), iA ((R X k).getD 3 0)]] [(8, .ptr 5 0)] [(0 : Int) ≤ 0, (0 : Int) < ((R X k).length : Int), (0 : Nat) < (R X k).length, (0 : Int) ≤ 1, (1 : Int) < ((R X k).length : Int), (1 : Nat) < (R X k).length, (0 : Int) ≤ 2, (2 : Int) < ((R X k).length : Int), (2 : Nat) < (R X k).length, (0 : Int) ≤ 3, (3 : Int) < ((R X k).length : Int), (3 : Nat) < (R X k).length] ⟨(by omega), (by rw [hRl]; decide), (by rw [hRl]; decide), (by omega), (by rw [hRl]; decide), (by rw [hRl]; decide), (by omega), (by rw [hRl]; decide), (by rw [hRl]; decide), (by omega), (by rw [hRl]; decide), (by rw [hRl]; decide), b84⟩ fun G => b0 (wp_ret ?_))))))); exact rxv (.agg [iA X, iA ((R X k).getD 0 0), iA ((R X k).getD 1 0), iA ((R X k).getD 2 0), iA ((R X k).getD 3 0)]) G (rg 5) (by have e1 : ((U8 b j vs.length ars.length at0 n).fst.op : Int) = (X) := (by rw [hR.done (k := k) (au0 hX (by omega)) (by omega) (by omega)]; done); have e2 : ((U8 b j vs.length ars.length at0 n).fst.a : Int) = ((R X k).getD 0 0) := (by rw [hR.done (k := k) (au0 hX (by omega)) (by omega) (by omega)]; done); have e3 : ((U8 b j vs.length ars.length at0 n).fst.b : Int) = ((R X k).getD 1 0) := (by rw [hR.done (k := k) (au0 hX (by omega)) (by omega) (by omega)]; done); have e4 : ((U8 b j vs.length ars.length at0 n).fst.c : Int) = ((R X k).getD 2 0) := (by rw [hR.done (k := k) (au0 hX (by omega)) (by omega) (by omega)]; done); have e5 : ((U8 b j vs.length ars.length at0 n).fst.d : Int) = ((R X k).getD 3 0) := (by rw [hR.done (k := k) (au0 hX (by omega)) (by omega) (by omega)]; done); (first | rw [e1, e2, e3, e4, e5] | simp only [e1, e2, e3, e4, e5]) <;> rfl) (by show _ = mR (rg 5) [.box [.ref 1, iA (U8 b j vs.length ars.length at0 n).snd], dY b, dI vs, dI ars, dN l]; rw [hR.done (k := k) (au0 hX (by omega)) (by omega) (by omega)] <;> rfl)
   ·
    refine wp_skip (b0 (wp_seq (wp_block (wp_seq (D0 G e6 [(44, .v (.int .u8 (((f8 X).getD k 0).toNat : Int)))] [(0 : Int) ≤ (k : Int), (k : Int) < ((ByteArray.mk (f8 X).toArray).size : Int)] ⟨(by omega), (by assumption), b84⟩ fun G => b0 (wp_block (wp_seq (l6 G e6 [(57, bA ((((f8 X).getD k 0).toNat : Int) == 114))] fun G => b0 (P0 (u := (((f8 X).getD k (0 : UInt8)).toNat : Int)) (v := (114 : Int)) G (fun h4 q4 => ?_) fun h4 q4 => ?_)))))))))
    ·
     refine wp_seq (l6 G e6 [(64, bA ((((f8 X).getD k 0).toNat : Int) == 99))] fun G => b0 (P0 (u := (((f8 X).getD k (0 : UInt8)).toNat : Int)) (v := (99 : Int)) G (fun h5 q5 => ?_) fun h5 q5 => ?_))
     ·
      refine wp_seq (l6 G e6 [(71, bA ((((f8 X).getD k 0).toNat : Int) == 118))] fun G => b0 (P0 (u := (((f8 X).getD k (0 : UInt8)).toNat : Int)) (v := (118 : Int)) G (fun h6 q6 => ?_) fun h6 q6 => ?_))
      ·
       refine wp_seq (l6 G e6 [(81, bA ((((f8 X).getD k 0).toNat : Int) == 97))] fun G => b0 (P0 (u := (((f8 X).getD k (0 : UInt8)).toNat : Int)) (v := (97 : Int)) G (fun h7 q7 => ?_) fun h7 q7 => ?_))
       ·
        refine wp_seq (l6 G e6 [(91, bA ((((f8 X).getD k 0).toNat : Int) == 111))] fun G => b0 (P0 (u := (((f8 X).getD k (0 : UInt8)).toNat : Int)) (v := (111 : Int)) G (fun h8 q8 => ?_) fun h8 q8 => ?_))
        · refine K6 G (v5 9 [0, 1] (s4 b (j + 1 + (k : Int)) (n - at0 - 1) (by omega) (by omega))) (rg 9) (I9 j k :: (B7 b vs ars l [R3 X, .row 3 (D.ints ((R X k).set k (at0 + 1 + pk b (j + 1 + (k : Int)) (n - at0 - 1))))])) (y7 at0 n ((10, N1 X) :: (E9 k []))) ((wO (at0 + 1)) :: ((wO (n - at0)) :: ((wO (n - at0 - 1)) :: ((wO (at0 + 1 + pk b (j + 1 + (k : Int)) (n - at0 - 1))) :: (iX k k ((R X k).length) []))))) ⟨oW (by omega), ⟨oW (by omega), ⟨oW (by omega), ⟨(by have h9 := ab0 b (i := j + 1 + k) (m := n - at0 - 1) (by omega) (by omega); exact w64 (by omega) (by omega)), (iK (by rw [hRl]; omega) b84)⟩⟩⟩⟩ fun G => i8 (i8 (b0 (D0 G e6 [(12, iA ((k : Int) + 1))] [wO ((k : Int) + 1)] (o1 (by omega)) fun G => b0 ?_))); exact L0 G (k + 1) (by omega) (by omega) (rg 9) (by have e1 : (j + 1 + (↑(k + 1) : Int) : Int) = (j + 1 + (k : Int) + 1) := (by omega); have e2 : (R X (k + 1) : List Int) = ((R X k).set k (at0 + 1 + pk b (j + 1 + (k : Int)) (n - at0 - 1))) := (hR.next (by omega) (bD0 (by with_reducible assumption) (by with_reducible assumption) (by with_reducible assumption) (by with_reducible assumption) (by with_reducible assumption))); (first | rw [e1, e2] | simp only [e1, e2]) <;> rfl)
        · refine K6 G (v5 3 [0, 1] (s4 b (j + 1 + (k : Int)) 7 (by omega) (by omega))) (rg 9) (I9 j k :: (B7 b vs ars l [R3 X, .row 3 (D.ints ((R X k).set k (4 + pk b (j + 1 + (k : Int)) 7)))])) (y7 at0 n ((10, N1 X) :: (E9 k []))) ((wO ((4 : Int) + pk b (j + 1 + (k : Int)) (7 : Int))) :: (iX k k ((R X k).length) [])) ⟨(by have h9 := ab0 b (i := j + 1 + k) (m := 7) (by omega) (by omega); exact w64 (by omega) (by omega)), (iK (by rw [hRl]; omega) b84)⟩ fun G => i8 (i8 (b0 (D0 G e6 [(12, iA ((k : Int) + 1))] [wO ((k : Int) + 1)] (o1 (by omega)) fun G => b0 ?_))); exact L0 G (k + 1) (by omega) (by omega) (rg 9) (by have e1 : (j + 1 + (↑(k + 1) : Int) : Int) = (j + 1 + (k : Int) + 1) := (by omega); have e2 : (R X (k + 1) : List Int) = ((R X k).set k (4 + pk b (j + 1 + (k : Int)) 7)) := (hR.next (by omega) (bD2 (by with_reducible assumption))); (first | rw [e1, e2] | simp only [e1, e2]) <;> rfl)
       · refine K6 G (v5 6 [0, 1] (s4 b (j + 1 + (k : Int)) ((ars.length : Int)) (by omega) (by omega))) (rg 9) (I9 j k :: (B7 b vs ars l [R3 X, .row 3 (D.ints ((R X k).set k (pk b (j + 1 + (k : Int)) (ars.length : Int))))])) (y7 at0 n ((10, N1 X) :: (E9 k []))) (iX k k ((R X k).length) []) (iK (by rw [hRl]; omega) b84) fun G => i8 (i8 (b0 (D0 G e6 [(12, iA ((k : Int) + 1))] [wO ((k : Int) + 1)] (o1 (by omega)) fun G => b0 ?_))); exact L0 G (k + 1) (by omega) (by omega) (rg 9) (by have e1 : (j + 1 + (↑(k + 1) : Int) : Int) = (j + 1 + (k : Int) + 1) := (by omega); have e2 : (R X (k + 1) : List Int) = ((R X k).set k (pk b (j + 1 + (k : Int)) (ars.length : Int))) := (hR.next (by omega) (bD4 (by with_reducible assumption))); (first | rw [e1, e2] | simp only [e1, e2]) <;> rfl)
      · refine K6 G (v5 6 [0, 1] (s4 b (j + 1 + (k : Int)) ((vs.length : Int)) (by omega) (by omega))) (rg 9) (I9 j k :: (B7 b vs ars l [R3 X, .row 3 (D.ints ((R X k).set k (pk b (j + 1 + (k : Int)) (vs.length : Int))))])) (y7 at0 n ((10, N1 X) :: (E9 k []))) (iX k k ((R X k).length) []) (iK (by rw [hRl]; omega) b84) fun G => i8 (i8 (b0 (D0 G e6 [(12, iA ((k : Int) + 1))] [wO ((k : Int) + 1)] (o1 (by omega)) fun G => b0 ?_))); exact L0 G (k + 1) (by omega) (by omega) (rg 9) (by have e1 : (j + 1 + (↑(k + 1) : Int) : Int) = (j + 1 + (k : Int) + 1) := (by omega); have e2 : (R X (k + 1) : List Int) = ((R X k).set k (pk b (j + 1 + (k : Int)) (vs.length : Int))) := (hR.next (by omega) (bC9 (by with_reducible assumption))); (first | rw [e1, e2] | simp only [e1, e2]) <;> rfl)
     · refine K6 G (v5 3 [0, 1] (N4 b (j + 1 + (k : Int)) (by omega) (by omega))) (rg 9) (I9 j k :: (B7 b vs ars l [R3 X, .row 3 (D.ints ((R X k).set k (nm b (j + 1 + (k : Int)) vaL)))])) (y7 at0 n ((10, N1 X) :: (E9 k []))) (iX k k ((R X k).length) []) (iK (by rw [hRl]; omega) b84) fun G => i8 (i8 (b0 (D0 G e6 [(12, iA ((k : Int) + 1))] [wO ((k : Int) + 1)] (o1 (by omega)) fun G => b0 ?_))); exact L0 G (k + 1) (by omega) (by omega) (rg 9) (by have e1 : (j + 1 + (↑(k + 1) : Int) : Int) = (j + 1 + (k : Int) + 1) := (by omega); have e2 : (R X (k + 1) : List Int) = ((R X k).set k (nm b (j + 1 + (k : Int)) vaL)) := (hR.next (by omega) (bD3 (by with_reducible assumption))); (first | rw [e1, e2] | simp only [e1, e2]) <;> rfl)
    · refine K6 G (v5 3 [0, 1] (s4 b (j + 1 + (k : Int)) 3 (by omega) (by omega))) (rg 9) (I9 j k :: (B7 b vs ars l [R3 X, .row 3 (D.ints ((R X k).set k (pk b (j + 1 + (k : Int)) 3)))])) (y7 at0 n ((10, N1 X) :: (E9 k []))) (iX k k ((R X k).length) []) (iK (by rw [hRl]; omega) b84) fun G => i8 (i8 (b0 (D0 G e6 [(12, iA ((k : Int) + 1))] [wO ((k : Int) + 1)] (o1 (by omega)) fun G => b0 ?_))); exact L0 G (k + 1) (by omega) (by omega) (rg 9) (by have e1 : (j + 1 + (↑(k + 1) : Int) : Int) = (j + 1 + (k : Int) + 1) := (by omega); have e2 : (R X (k + 1) : List Int) = ((R X k).set k (pk b (j + 1 + (k : Int)) 3)) := (hR.next (by omega) (bD1 (by with_reducible assumption))); (first | rw [e1, e2] | simp only [e1, e2]) <;> rfl)
  ·
   have q0 := eq_of_beq h0; cases h1 : (X == 4)
   ·
    have q1 := ne_of_beq_false h1; refine l6 G (J3 (fc h0 (fc h1 fz)) (us [(5, 8, 0), (9, 11, 1), (12, 12, 0), (1012, 1012, 1), (1013, 1013, 0)])) [(30, bA (X == 5))] fun G => b0 (P0 G (fun h2 q2 => ?_) fun h2 q2 => ?_)
    ·
     refine wp_skip (b0 (wp_seq (l6 G (v5 2 [] (ac0 X (by omega))) [(10, N1 X)] fun G => b0 (wp_seq (i9 G e6 (rg 9) (.box [.ref 1, iA (j + 1)] :: (B7 b vs ars l [R3 X, ba3])) (y7 at0 n [(10, N1 X), (11, .ref 8)]) fun G => b0 (wp_seq (wp_seq (G9 G e6 (y7 at0 n [(10, N1 X), (11, .ref 8), (12, iA 0)]) fun G => b0 (wp_block ?_))))))))); replace G := G.as [.box [.ref 1, iA (j + 1 + (0 : Int))], dY b, dI vs, dI ars, dN l, .box (pL 2), .box [iA 0, iA 0, iA 0, iA 0, iA 0], .box [iA X, iA 0, iA 0, iA 0, iA 0], .row 3 (D.ints (R X 0))] (y7 at0 n [(10, .v (.string (ByteArray.mk (f8 X).toArray))), (11, .ref 8), (12, iA 0)]) (by have e1 : (j + 1 + (0 : Int) : Int) = (j + 1) := (by omega); have e2 : (R X 0 : List Int) = ([0] ++ ([0] ++ ([0] ++ ([0] ++ [])))) := (hR.start _); (first | rw [e1, e2] | simp only [e1, e2]) <;> rfl) (by kernel_rfl); refine x6 (κ := Nat) (fun k => k ≤ (f8 X).length) (fun k => (f8 X).length - k) (fun k => [.box [.ref 1, iA (j + 1 + k)], dY b, dI vs, dI ars, dN l, .box (pL 2), .box [iA 0, iA 0, iA 0, iA 0, iA 0], .box [iA X, iA 0, iA 0, iA 0, iA 0], .row 3 (.ints (R X k))]) (fun k => [(0, .ptr 0 0), (2, iA at0), (3, iA n), (5, .ptr 5 0), (8, .ptr 6 0), (9, .ptr 7 0), (10, .v (.string (ByteArray.mk (f8 X).toArray))), (11, .ref 8), (12, iA k)]) 0 (by omega) (t7.at G _ _) ?_; clear G; intro k ρ a w hp G; replace G := t7.at G (as2 j k :: (B7 b vs ars l [R3 X, .row 3 (D.ints (R X k))])) (y7 at0 n ((10, N1 X) :: (E9 k []))); have hfl := Q4 X; have hbz := bsz (f8 X); refine wp_seq (wp_seq (l6 G e6 [(39, bA (decide ((k : Int) < ((ByteArray.mk (f8 X).toArray).size : Int))))] fun G => b0 (rcD G (fun h9 q9 => ?_) fun h9 q9 => ?_)))
     · refine wp_exit (v9 (v9 (v6 (b0 (wp_seq (H5 G e6 [0, 1, 0, 4, 12, 0, 32, 96, 0, 256, 768, 0, 2048, 6144, 16383, 32767] [0, 1, 2, 3, 4, 6] [as2 j k, dY b, dI vs, dI ars, dN l, .box [iA X, iA ((R X k).getD 0 0), iA ((R X k).getD 1 0), iA ((R X k).getD 2 0), iA ((R X k).getD 3 0)]] [(8, .ptr 5 0)] [(0 : Int) ≤ 0, (0 : Int) < ((R X k).length : Int), (0 : Nat) < (R X k).length, (0 : Int) ≤ 1, (1 : Int) < ((R X k).length : Int), (1 : Nat) < (R X k).length, (0 : Int) ≤ 2, (2 : Int) < ((R X k).length : Int), (2 : Nat) < (R X k).length, (0 : Int) ≤ 3, (3 : Int) < ((R X k).length : Int), (3 : Nat) < (R X k).length] ⟨(by omega), (by rw [hRl]; decide), (by rw [hRl]; decide), (by omega), (by rw [hRl]; decide), (by rw [hRl]; decide), (by omega), (by rw [hRl]; decide), (by rw [hRl]; decide), (by omega), (by rw [hRl]; decide), (by rw [hRl]; decide), b84⟩ fun G => b0 (wp_ret ?_))))))); exact rxv (.agg [iA X, iA ((R X k).getD 0 0), iA ((R X k).getD 1 0), iA ((R X k).getD 2 0), iA ((R X k).getD 3 0)]) G (rg 5) (by have e1 : ((U8 b j vs.length ars.length at0 n).fst.op : Int) = (X) := (by rw [hR.done (k := k) (au0 hX (by omega)) (by omega) (by omega)]; done); have e2 : ((U8 b j vs.length ars.length at0 n).fst.a : Int) = ((R X k).getD 0 0) := (by rw [hR.done (k := k) (au0 hX (by omega)) (by omega) (by omega)]; done); have e3 : ((U8 b j vs.length ars.length at0 n).fst.b : Int) = ((R X k).getD 1 0) := (by rw [hR.done (k := k) (au0 hX (by omega)) (by omega) (by omega)]; done); have e4 : ((U8 b j vs.length ars.length at0 n).fst.c : Int) = ((R X k).getD 2 0) := (by rw [hR.done (k := k) (au0 hX (by omega)) (by omega) (by omega)]; done); have e5 : ((U8 b j vs.length ars.length at0 n).fst.d : Int) = ((R X k).getD 3 0) := (by rw [hR.done (k := k) (au0 hX (by omega)) (by omega) (by omega)]; done); (first | rw [e1, e2, e3, e4, e5] | simp only [e1, e2, e3, e4, e5]) <;> rfl) (by show _ = mR (rg 5) [.box [.ref 1, iA (U8 b j vs.length ars.length at0 n).snd], dY b, dI vs, dI ars, dN l]; rw [hR.done (k := k) (au0 hX (by omega)) (by omega) (by omega)] <;> rfl)
     ·
      refine wp_skip (b0 (wp_seq (wp_block (wp_seq (D0 G e6 [(44, .v (.int .u8 (((f8 X).getD k 0).toNat : Int)))] [(0 : Int) ≤ (k : Int), (k : Int) < ((ByteArray.mk (f8 X).toArray).size : Int)] ⟨(by omega), (by assumption), b84⟩ fun G => b0 (wp_block (wp_seq (l6 G e6 [(57, bA ((((f8 X).getD k 0).toNat : Int) == 114))] fun G => b0 (P0 (u := (((f8 X).getD k (0 : UInt8)).toNat : Int)) (v := (114 : Int)) G (fun h10 q10 => ?_) fun h10 q10 => ?_)))))))))
      ·
       refine wp_seq (l6 G e6 [(64, bA ((((f8 X).getD k 0).toNat : Int) == 99))] fun G => b0 (P0 (u := (((f8 X).getD k (0 : UInt8)).toNat : Int)) (v := (99 : Int)) G (fun h11 q11 => ?_) fun h11 q11 => ?_))
       ·
        refine wp_seq (l6 G e6 [(71, bA ((((f8 X).getD k 0).toNat : Int) == 118))] fun G => b0 (P0 (u := (((f8 X).getD k (0 : UInt8)).toNat : Int)) (v := (118 : Int)) G (fun h12 q12 => ?_) fun h12 q12 => ?_))
        ·
         refine wp_seq (l6 G e6 [(81, bA ((((f8 X).getD k 0).toNat : Int) == 97))] fun G => b0 (P0 (u := (((f8 X).getD k (0 : UInt8)).toNat : Int)) (v := (97 : Int)) G (fun h13 q13 => ?_) fun h13 q13 => ?_))
         ·
          refine wp_seq (l6 G e6 [(91, bA ((((f8 X).getD k 0).toNat : Int) == 111))] fun G => b0 (P0 (u := (((f8 X).getD k (0 : UInt8)).toNat : Int)) (v := (111 : Int)) G (fun h14 q14 => ?_) fun h14 q14 => ?_))
          · refine K6 G (v5 9 [0, 1] (s4 b (j + 1 + (k : Int)) (n - at0 - 1) (by omega) (by omega))) (rg 9) (I9 j k :: (B7 b vs ars l [R3 X, .row 3 (D.ints ((R X k).set k (at0 + 1 + pk b (j + 1 + (k : Int)) (n - at0 - 1))))])) (y7 at0 n ((10, N1 X) :: (E9 k []))) ((wO (at0 + 1)) :: ((wO (n - at0)) :: ((wO (n - at0 - 1)) :: ((wO (at0 + 1 + pk b (j + 1 + (k : Int)) (n - at0 - 1))) :: (iX k k ((R X k).length) []))))) ⟨oW (by omega), ⟨oW (by omega), ⟨oW (by omega), ⟨(by have h9 := ab0 b (i := j + 1 + k) (m := n - at0 - 1) (by omega) (by omega); exact w64 (by omega) (by omega)), (iK (by rw [hRl]; omega) b84)⟩⟩⟩⟩ fun G => i8 (i8 (b0 (D0 G e6 [(12, iA ((k : Int) + 1))] [wO ((k : Int) + 1)] (o1 (by omega)) fun G => b0 ?_))); exact L0 G (k + 1) (by omega) (by omega) (rg 9) (by have e1 : (j + 1 + (↑(k + 1) : Int) : Int) = (j + 1 + (k : Int) + 1) := (by omega); have e2 : (R X (k + 1) : List Int) = ((R X k).set k (at0 + 1 + pk b (j + 1 + (k : Int)) (n - at0 - 1))) := (hR.next (by omega) (bD0 (by with_reducible assumption) (by with_reducible assumption) (by with_reducible assumption) (by with_reducible assumption) (by with_reducible assumption))); (first | rw [e1, e2] | simp only [e1, e2]) <;> rfl)
          · refine K6 G (v5 3 [0, 1] (s4 b (j + 1 + (k : Int)) 7 (by omega) (by omega))) (rg 9) (I9 j k :: (B7 b vs ars l [R3 X, .row 3 (D.ints ((R X k).set k (4 + pk b (j + 1 + (k : Int)) 7)))])) (y7 at0 n ((10, N1 X) :: (E9 k []))) ((wO ((4 : Int) + pk b (j + 1 + (k : Int)) (7 : Int))) :: (iX k k ((R X k).length) [])) ⟨(by have h9 := ab0 b (i := j + 1 + k) (m := 7) (by omega) (by omega); exact w64 (by omega) (by omega)), (iK (by rw [hRl]; omega) b84)⟩ fun G => i8 (i8 (b0 (D0 G e6 [(12, iA ((k : Int) + 1))] [wO ((k : Int) + 1)] (o1 (by omega)) fun G => b0 ?_))); exact L0 G (k + 1) (by omega) (by omega) (rg 9) (by have e1 : (j + 1 + (↑(k + 1) : Int) : Int) = (j + 1 + (k : Int) + 1) := (by omega); have e2 : (R X (k + 1) : List Int) = ((R X k).set k (4 + pk b (j + 1 + (k : Int)) 7)) := (hR.next (by omega) (bD2 (by with_reducible assumption))); (first | rw [e1, e2] | simp only [e1, e2]) <;> rfl)
         · refine K6 G (v5 6 [0, 1] (s4 b (j + 1 + (k : Int)) ((ars.length : Int)) (by omega) (by omega))) (rg 9) (I9 j k :: (B7 b vs ars l [R3 X, .row 3 (D.ints ((R X k).set k (pk b (j + 1 + (k : Int)) (ars.length : Int))))])) (y7 at0 n ((10, N1 X) :: (E9 k []))) (iX k k ((R X k).length) []) (iK (by rw [hRl]; omega) b84) fun G => i8 (i8 (b0 (D0 G e6 [(12, iA ((k : Int) + 1))] [wO ((k : Int) + 1)] (o1 (by omega)) fun G => b0 ?_))); exact L0 G (k + 1) (by omega) (by omega) (rg 9) (by have e1 : (j + 1 + (↑(k + 1) : Int) : Int) = (j + 1 + (k : Int) + 1) := (by omega); have e2 : (R X (k + 1) : List Int) = ((R X k).set k (pk b (j + 1 + (k : Int)) (ars.length : Int))) := (hR.next (by omega) (bD4 (by with_reducible assumption))); (first | rw [e1, e2] | simp only [e1, e2]) <;> rfl)
        · refine K6 G (v5 6 [0, 1] (s4 b (j + 1 + (k : Int)) ((vs.length : Int)) (by omega) (by omega))) (rg 9) (I9 j k :: (B7 b vs ars l [R3 X, .row 3 (D.ints ((R X k).set k (pk b (j + 1 + (k : Int)) (vs.length : Int))))])) (y7 at0 n ((10, N1 X) :: (E9 k []))) (iX k k ((R X k).length) []) (iK (by rw [hRl]; omega) b84) fun G => i8 (i8 (b0 (D0 G e6 [(12, iA ((k : Int) + 1))] [wO ((k : Int) + 1)] (o1 (by omega)) fun G => b0 ?_))); exact L0 G (k + 1) (by omega) (by omega) (rg 9) (by have e1 : (j + 1 + (↑(k + 1) : Int) : Int) = (j + 1 + (k : Int) + 1) := (by omega); have e2 : (R X (k + 1) : List Int) = ((R X k).set k (pk b (j + 1 + (k : Int)) (vs.length : Int))) := (hR.next (by omega) (bC9 (by with_reducible assumption))); (first | rw [e1, e2] | simp only [e1, e2]) <;> rfl)
       · refine K6 G (v5 3 [0, 1] (N4 b (j + 1 + (k : Int)) (by omega) (by omega))) (rg 9) (I9 j k :: (B7 b vs ars l [R3 X, .row 3 (D.ints ((R X k).set k (nm b (j + 1 + (k : Int)) vaL)))])) (y7 at0 n ((10, N1 X) :: (E9 k []))) (iX k k ((R X k).length) []) (iK (by rw [hRl]; omega) b84) fun G => i8 (i8 (b0 (D0 G e6 [(12, iA ((k : Int) + 1))] [wO ((k : Int) + 1)] (o1 (by omega)) fun G => b0 ?_))); exact L0 G (k + 1) (by omega) (by omega) (rg 9) (by have e1 : (j + 1 + (↑(k + 1) : Int) : Int) = (j + 1 + (k : Int) + 1) := (by omega); have e2 : (R X (k + 1) : List Int) = ((R X k).set k (nm b (j + 1 + (k : Int)) vaL)) := (hR.next (by omega) (bD3 (by with_reducible assumption))); (first | rw [e1, e2] | simp only [e1, e2]) <;> rfl)
      · refine K6 G (v5 3 [0, 1] (s4 b (j + 1 + (k : Int)) 3 (by omega) (by omega))) (rg 9) (I9 j k :: (B7 b vs ars l [R3 X, .row 3 (D.ints ((R X k).set k (pk b (j + 1 + (k : Int)) 3)))])) (y7 at0 n ((10, N1 X) :: (E9 k []))) (iX k k ((R X k).length) []) (iK (by rw [hRl]; omega) b84) fun G => i8 (i8 (b0 (D0 G e6 [(12, iA ((k : Int) + 1))] [wO ((k : Int) + 1)] (o1 (by omega)) fun G => b0 ?_))); exact L0 G (k + 1) (by omega) (by omega) (rg 9) (by have e1 : (j + 1 + (↑(k + 1) : Int) : Int) = (j + 1 + (k : Int) + 1) := (by omega); have e2 : (R X (k + 1) : List Int) = ((R X k).set k (pk b (j + 1 + (k : Int)) 3)) := (hR.next (by omega) (bD1 (by with_reducible assumption))); (first | rw [e1, e2] | simp only [e1, e2]) <;> rfl)
    ·
     refine i9 G e6 (rg 8) (.box [.ref 1, iA (j + 1)] :: (B7 b vs ars l [P5])) (y7 at0 n []) fun G => b0 (wp_seq (l6 G (v5 2 [] (ac0 2 (by omega))) [(10, N0)] fun G => b0 (wp_seq (i9 G e6 (rg 9) (.box [.ref 1, iA (j + 1)] :: (B7 b vs ars l [P5, ba3])) (y7 at0 n [(10, N0), (11, .ref 8)]) fun G => b0 (wp_seq (wp_seq (G9 G e6 (y7 at0 n [(10, N0), (11, .ref 8), (12, iA 0)]) fun G => b0 (wp_block ?_)))))))); replace G := G.as [.box [.ref 1, iA (j + 1 + (0 : Int))], dY b, dI vs, dI ars, dN l, .box (pL 2), .box [iA 0, iA 0, iA 0, iA 0, iA 0], .box [iA 2, iA 0, iA 0, iA 0, iA 0], .row 3 (D.ints (R 2 0))] (y7 at0 n [(10, .v (.string (ByteArray.mk (f8 2).toArray))), (11, .ref 8), (12, iA 0)]) (by have e1 : (j + 1 + (0 : Int) : Int) = (j + 1) := (by omega); have e2 : (R 2 0 : List Int) = ([0] ++ ([0] ++ ([0] ++ ([0] ++ [])))) := (hR.start _); (first | rw [e1, e2] | simp only [e1, e2]) <;> rfl) (by kernel_rfl); refine x6 (κ := Nat) (fun k => k ≤ (f8 2).length) (fun k => (f8 2).length - k) (fun k => [.box [.ref 1, iA (j + 1 + k)], dY b, dI vs, dI ars, dN l, .box (pL 2), .box [iA 0, iA 0, iA 0, iA 0, iA 0], .box [iA 2, iA 0, iA 0, iA 0, iA 0], .row 3 (.ints (R 2 k))]) (fun k => [(0, .ptr 0 0), (2, iA at0), (3, iA n), (5, .ptr 5 0), (8, .ptr 6 0), (9, .ptr 7 0), (10, .v (.string (ByteArray.mk (f8 2).toArray))), (11, .ref 8), (12, iA k)]) 0 (by omega) (t7.at G _ _) ?_; clear G; intro k ρ a w hp G; replace G := t7.at G (as2 j k :: (B7 b vs ars l [P5, .row 3 (D.ints (R 2 k))])) (y7 at0 n ((10, N0) :: (E9 k []))); have hfl := Q4 2; have hbz := bsz (f8 2); have hf2 := fl2; refine wp_seq (wp_seq (l6 G e6 [(39, bA (decide ((k : Int) < 2)))] fun G => b0 (rcD G (fun h15 q15 => ?_) fun h15 q15 => ?_)))
     · refine wp_exit (v9 (v9 (v6 (b0 (wp_seq (H5 G e6 [0, 1, 0, 4, 12, 0, 32, 96, 0, 256, 768, 0, 2048, 6144, 16383, 32767] [0, 1, 2, 3, 4, 6] [as2 j k, dY b, dI vs, dI ars, dN l, .box [iA 2, iA ((R 2 k).getD 0 0), iA ((R 2 k).getD 1 0), iA ((R 2 k).getD 2 0), iA ((R 2 k).getD 3 0)]] [(8, .ptr 5 0)] [(0 : Int) ≤ 0, (0 : Int) < ((R (2 : Int) k).length : Int), (0 : Nat) < (R (2 : Int) k).length, (0 : Int) ≤ 1, (1 : Int) < ((R (2 : Int) k).length : Int), (1 : Nat) < (R (2 : Int) k).length, (0 : Int) ≤ 2, (2 : Int) < ((R (2 : Int) k).length : Int), (2 : Nat) < (R (2 : Int) k).length, (0 : Int) ≤ 3, (3 : Int) < ((R (2 : Int) k).length : Int), (3 : Nat) < (R (2 : Int) k).length] ⟨(by omega), (by rw [hRl]; decide), (by rw [hRl]; decide), (by omega), (by rw [hRl]; decide), (by rw [hRl]; decide), (by omega), (by rw [hRl]; decide), (by rw [hRl]; decide), (by omega), (by rw [hRl]; decide), (by rw [hRl]; decide), b84⟩ fun G => b0 (wp_ret ?_))))))); exact rxv (.agg [iA 2, iA ((R 2 k).getD 0 0), iA ((R 2 k).getD 1 0), iA ((R 2 k).getD 2 0), iA ((R 2 k).getD 3 0)]) G (rg 5) (by have e1 : ((U8 b j vs.length ars.length at0 n).fst.op : Int) = (2) := (by rw [hR.done (k := k) (X := 2) (au1 hX (by omega) (by omega)) (by omega) (by omega)]; done); have e2 : ((U8 b j vs.length ars.length at0 n).fst.a : Int) = ((R 2 k).getD 0 0) := (by rw [hR.done (k := k) (X := 2) (au1 hX (by omega) (by omega)) (by omega) (by omega)]; done); have e3 : ((U8 b j vs.length ars.length at0 n).fst.b : Int) = ((R 2 k).getD 1 0) := (by rw [hR.done (k := k) (X := 2) (au1 hX (by omega) (by omega)) (by omega) (by omega)]; done); have e4 : ((U8 b j vs.length ars.length at0 n).fst.c : Int) = ((R 2 k).getD 2 0) := (by rw [hR.done (k := k) (X := 2) (au1 hX (by omega) (by omega)) (by omega) (by omega)]; done); have e5 : ((U8 b j vs.length ars.length at0 n).fst.d : Int) = ((R 2 k).getD 3 0) := (by rw [hR.done (k := k) (X := 2) (au1 hX (by omega) (by omega)) (by omega) (by omega)]; done); (first | rw [e1, e2, e3, e4, e5] | simp only [e1, e2, e3, e4, e5]) <;> rfl) (by show _ = mR (rg 5) [.box [.ref 1, iA (U8 b j vs.length ars.length at0 n).snd], dY b, dI vs, dI ars, dN l]; rw [hR.done (k := k) (X := 2) (au1 hX (by omega) (by omega)) (by omega) (by omega)] <;> rfl)
     ·
      refine wp_skip (b0 (wp_seq (wp_block (wp_seq (D0 G e6 [(44, .v (.int .u8 (((f8 2).getD k 0).toNat : Int)))] [(0 : Int) ≤ (k : Int), (k : Int) < ((ByteArray.mk (f8 (2 : Int)).toArray).size : Int)] ⟨(by omega), (by assumption), b84⟩ fun G => b0 (wp_block (wp_seq (l6 G e6 [(57, bA ((((f8 2).getD k 0).toNat : Int) == 114))] fun G => b0 (P0 (u := (((f8 (2 : Int)).getD k (0 : UInt8)).toNat : Int)) (v := (114 : Int)) G (fun h16 q16 => ?_) fun h16 q16 => ?_)))))))))
      ·
       refine wp_seq (l6 G e6 [(64, bA ((((f8 2).getD k 0).toNat : Int) == 99))] fun G => b0 (P0 (u := (((f8 (2 : Int)).getD k (0 : UInt8)).toNat : Int)) (v := (99 : Int)) G (fun h17 q17 => ?_) fun h17 q17 => ?_))
       ·
        refine wp_seq (l6 G e6 [(71, bA ((((f8 2).getD k 0).toNat : Int) == 118))] fun G => b0 (P0 (u := (((f8 (2 : Int)).getD k (0 : UInt8)).toNat : Int)) (v := (118 : Int)) G (fun h18 q18 => ?_) fun h18 q18 => ?_))
        ·
         refine wp_seq (l6 G e6 [(81, bA ((((f8 2).getD k 0).toNat : Int) == 97))] fun G => b0 (P0 (u := (((f8 (2 : Int)).getD k (0 : UInt8)).toNat : Int)) (v := (97 : Int)) G (fun h19 q19 => ?_) fun h19 q19 => ?_))
         ·
          refine wp_seq (l6 G e6 [(91, bA ((((f8 2).getD k 0).toNat : Int) == 111))] fun G => b0 (P0 (u := (((f8 (2 : Int)).getD k (0 : UInt8)).toNat : Int)) (v := (111 : Int)) G (fun h20 q20 => ?_) fun h20 q20 => ?_))
          · refine K6 G (v5 9 [0, 1] (s4 b (j + 1 + (k : Int)) (n - at0 - 1) (by omega) (by omega))) (rg 9) (I9 j k :: (B7 b vs ars l [P5, .row 3 (D.ints ((R 2 k).set k (at0 + 1 + pk b (j + 1 + (k : Int)) (n - at0 - 1))))])) (y7 at0 n ((10, N0) :: (E9 k []))) ((wO (at0 + 1)) :: ((wO (n - at0)) :: ((wO (n - at0 - 1)) :: ((wO (at0 + 1 + pk b (j + 1 + (k : Int)) (n - at0 - 1))) :: (iX k k ((R (2 : Int) k).length) []))))) ⟨oW (by omega), ⟨oW (by omega), ⟨oW (by omega), ⟨(by have h9 := ab0 b (i := j + 1 + k) (m := n - at0 - 1) (by omega) (by omega); exact w64 (by omega) (by omega)), (iK (by rw [hRl]; omega) b84)⟩⟩⟩⟩ fun G => i8 (i8 (b0 (D0 G e6 [(12, iA ((k : Int) + 1))] [wO ((k : Int) + 1)] (o1 (by omega)) fun G => b0 ?_))); exact L0 G (k + 1) (by omega) (by omega) (rg 9) (by have e1 : (j + 1 + (↑(k + 1) : Int) : Int) = (j + 1 + (k : Int) + 1) := (by omega); have e2 : (R 2 (k + 1) : List Int) = ((R 2 k).set k (at0 + 1 + pk b (j + 1 + (k : Int)) (n - at0 - 1))) := (hR.next (by omega) (bD0 (by with_reducible assumption) (by with_reducible assumption) (by with_reducible assumption) (by with_reducible assumption) (by with_reducible assumption))); (first | rw [e1, e2] | simp only [e1, e2]) <;> rfl)
          · refine K6 G (v5 3 [0, 1] (s4 b (j + 1 + (k : Int)) 7 (by omega) (by omega))) (rg 9) (I9 j k :: (B7 b vs ars l [P5, .row 3 (D.ints ((R 2 k).set k (4 + pk b (j + 1 + (k : Int)) 7)))])) (y7 at0 n ((10, N0) :: (E9 k []))) ((wO ((4 : Int) + pk b (j + 1 + (k : Int)) (7 : Int))) :: (iX k k ((R (2 : Int) k).length) [])) ⟨(by have h9 := ab0 b (i := j + 1 + k) (m := 7) (by omega) (by omega); exact w64 (by omega) (by omega)), (iK (by rw [hRl]; omega) b84)⟩ fun G => i8 (i8 (b0 (D0 G e6 [(12, iA ((k : Int) + 1))] [wO ((k : Int) + 1)] (o1 (by omega)) fun G => b0 ?_))); exact L0 G (k + 1) (by omega) (by omega) (rg 9) (by have e1 : (j + 1 + (↑(k + 1) : Int) : Int) = (j + 1 + (k : Int) + 1) := (by omega); have e2 : (R 2 (k + 1) : List Int) = ((R 2 k).set k (4 + pk b (j + 1 + (k : Int)) 7)) := (hR.next (by omega) (bD2 (by with_reducible assumption))); (first | rw [e1, e2] | simp only [e1, e2]) <;> rfl)
         · refine K6 G (v5 6 [0, 1] (s4 b (j + 1 + (k : Int)) ((ars.length : Int)) (by omega) (by omega))) (rg 9) (I9 j k :: (B7 b vs ars l [P5, .row 3 (D.ints ((R 2 k).set k (pk b (j + 1 + (k : Int)) (ars.length : Int))))])) (y7 at0 n ((10, N0) :: (E9 k []))) (iX k k ((R (2 : Int) k).length) []) (iK (by rw [hRl]; omega) b84) fun G => i8 (i8 (b0 (D0 G e6 [(12, iA ((k : Int) + 1))] [wO ((k : Int) + 1)] (o1 (by omega)) fun G => b0 ?_))); exact L0 G (k + 1) (by omega) (by omega) (rg 9) (by have e1 : (j + 1 + (↑(k + 1) : Int) : Int) = (j + 1 + (k : Int) + 1) := (by omega); have e2 : (R 2 (k + 1) : List Int) = ((R 2 k).set k (pk b (j + 1 + (k : Int)) (ars.length : Int))) := (hR.next (by omega) (bD4 (by with_reducible assumption))); (first | rw [e1, e2] | simp only [e1, e2]) <;> rfl)
        · refine K6 G (v5 6 [0, 1] (s4 b (j + 1 + (k : Int)) ((vs.length : Int)) (by omega) (by omega))) (rg 9) (I9 j k :: (B7 b vs ars l [P5, .row 3 (D.ints ((R 2 k).set k (pk b (j + 1 + (k : Int)) (vs.length : Int))))])) (y7 at0 n ((10, N0) :: (E9 k []))) (iX k k ((R (2 : Int) k).length) []) (iK (by rw [hRl]; omega) b84) fun G => i8 (i8 (b0 (D0 G e6 [(12, iA ((k : Int) + 1))] [wO ((k : Int) + 1)] (o1 (by omega)) fun G => b0 ?_))); exact L0 G (k + 1) (by omega) (by omega) (rg 9) (by have e1 : (j + 1 + (↑(k + 1) : Int) : Int) = (j + 1 + (k : Int) + 1) := (by omega); have e2 : (R 2 (k + 1) : List Int) = ((R 2 k).set k (pk b (j + 1 + (k : Int)) (vs.length : Int))) := (hR.next (by omega) (bC9 (by with_reducible assumption))); (first | rw [e1, e2] | simp only [e1, e2]) <;> rfl)
       · refine K6 G (v5 3 [0, 1] (N4 b (j + 1 + (k : Int)) (by omega) (by omega))) (rg 9) (I9 j k :: (B7 b vs ars l [P5, .row 3 (D.ints ((R 2 k).set k (nm b (j + 1 + (k : Int)) vaL)))])) (y7 at0 n ((10, N0) :: (E9 k []))) (iX k k ((R (2 : Int) k).length) []) (iK (by rw [hRl]; omega) b84) fun G => i8 (i8 (b0 (D0 G e6 [(12, iA ((k : Int) + 1))] [wO ((k : Int) + 1)] (o1 (by omega)) fun G => b0 ?_))); exact L0 G (k + 1) (by omega) (by omega) (rg 9) (by have e1 : (j + 1 + (↑(k + 1) : Int) : Int) = (j + 1 + (k : Int) + 1) := (by omega); have e2 : (R 2 (k + 1) : List Int) = ((R 2 k).set k (nm b (j + 1 + (k : Int)) vaL)) := (hR.next (by omega) (bD3 (by with_reducible assumption))); (first | rw [e1, e2] | simp only [e1, e2]) <;> rfl)
      · refine K6 G (v5 3 [0, 1] (s4 b (j + 1 + (k : Int)) 3 (by omega) (by omega))) (rg 9) (I9 j k :: (B7 b vs ars l [P5, .row 3 (D.ints ((R 2 k).set k (pk b (j + 1 + (k : Int)) 3)))])) (y7 at0 n ((10, N0) :: (E9 k []))) (iX k k ((R (2 : Int) k).length) []) (iK (by rw [hRl]; omega) b84) fun G => i8 (i8 (b0 (D0 G e6 [(12, iA ((k : Int) + 1))] [wO ((k : Int) + 1)] (o1 (by omega)) fun G => b0 ?_))); exact L0 G (k + 1) (by omega) (by omega) (rg 9) (by have e1 : (j + 1 + (↑(k + 1) : Int) : Int) = (j + 1 + (k : Int) + 1) := (by omega); have e2 : (R 2 (k + 1) : List Int) = ((R 2 k).set k (pk b (j + 1 + (k : Int)) 3)) := (hR.next (by omega) (bD1 (by with_reducible assumption))); (first | rw [e1, e2] | simp only [e1, e2]) <;> rfl)
   ·
    have q1 := eq_of_beq h1; refine l6 G (J3 (fc h0 (fc h1 fz)) (us [(5, 8, 0), (9, 11, 1), (12, 12, 0), (1012, 1012, 1), (1013, 1013, 0)])) [(30, bA true)] fun G => b0 (rT G true (by kernel_rfl) (i9 G e6 (rg 8) (.box [.ref 1, iA (j + 1)] :: (B7 b vs ars l [P5])) (y7 at0 n []) fun G => b0 (wp_seq (l6 G (v5 2 [] (ac0 2 (by omega))) [(10, N0)] fun G => b0 (wp_seq (i9 G e6 (rg 9) (.box [.ref 1, iA (j + 1)] :: (B7 b vs ars l [P5, ba3])) (y7 at0 n [(10, N0), (11, .ref 8)]) fun G => b0 (wp_seq (wp_seq (G9 G e6 (y7 at0 n [(10, N0), (11, .ref 8), (12, iA 0)]) fun G => b0 (wp_block ?_)))))))))); replace G := G.as [.box [.ref 1, iA (j + 1 + (0 : Int))], dY b, dI vs, dI ars, dN l, .box (pL 2), .box [iA 0, iA 0, iA 0, iA 0, iA 0], .box [iA 2, iA 0, iA 0, iA 0, iA 0], .row 3 (D.ints (R 2 0))] (y7 at0 n [(10, .v (.string (ByteArray.mk (f8 2).toArray))), (11, .ref 8), (12, iA 0)]) (by have e1 : (j + 1 + (0 : Int) : Int) = (j + 1) := (by omega); have e2 : (R 2 0 : List Int) = ([0] ++ ([0] ++ ([0] ++ ([0] ++ [])))) := (hR.start _); (first | rw [e1, e2] | simp only [e1, e2]) <;> rfl) (by kernel_rfl); refine x6 (κ := Nat) (fun k => k ≤ (f8 2).length) (fun k => (f8 2).length - k) (fun k => [.box [.ref 1, iA (j + 1 + k)], dY b, dI vs, dI ars, dN l, .box (pL 2), .box [iA 0, iA 0, iA 0, iA 0, iA 0], .box [iA 2, iA 0, iA 0, iA 0, iA 0], .row 3 (.ints (R 2 k))]) (fun k => [(0, .ptr 0 0), (2, iA at0), (3, iA n), (5, .ptr 5 0), (8, .ptr 6 0), (9, .ptr 7 0), (10, .v (.string (ByteArray.mk (f8 2).toArray))), (11, .ref 8), (12, iA k)]) 0 (by omega) (t7.at G _ _) ?_; clear G; intro k ρ a w hp G; replace G := t7.at G (as2 j k :: (B7 b vs ars l [P5, .row 3 (D.ints (R 2 k))])) (y7 at0 n ((10, N0) :: (E9 k []))); have hfl := Q4 2; have hbz := bsz (f8 2); have hf2 := fl2; refine wp_seq (wp_seq (l6 G e6 [(39, bA (decide ((k : Int) < 2)))] fun G => b0 (rcD G (fun h21 q21 => ?_) fun h21 q21 => ?_)))
    · refine wp_exit (v9 (v9 (v6 (b0 (wp_seq (H5 G e6 [0, 1, 0, 4, 12, 0, 32, 96, 0, 256, 768, 0, 2048, 6144, 16383, 32767] [0, 1, 2, 3, 4, 6] [as2 j k, dY b, dI vs, dI ars, dN l, .box [iA 2, iA ((R 2 k).getD 0 0), iA ((R 2 k).getD 1 0), iA ((R 2 k).getD 2 0), iA ((R 2 k).getD 3 0)]] [(8, .ptr 5 0)] [(0 : Int) ≤ 0, (0 : Int) < ((R (2 : Int) k).length : Int), (0 : Nat) < (R (2 : Int) k).length, (0 : Int) ≤ 1, (1 : Int) < ((R (2 : Int) k).length : Int), (1 : Nat) < (R (2 : Int) k).length, (0 : Int) ≤ 2, (2 : Int) < ((R (2 : Int) k).length : Int), (2 : Nat) < (R (2 : Int) k).length, (0 : Int) ≤ 3, (3 : Int) < ((R (2 : Int) k).length : Int), (3 : Nat) < (R (2 : Int) k).length] ⟨(by omega), (by rw [hRl]; decide), (by rw [hRl]; decide), (by omega), (by rw [hRl]; decide), (by rw [hRl]; decide), (by omega), (by rw [hRl]; decide), (by rw [hRl]; decide), (by omega), (by rw [hRl]; decide), (by rw [hRl]; decide), b84⟩ fun G => b0 (wp_ret ?_))))))); exact rxv (.agg [iA 2, iA ((R 2 k).getD 0 0), iA ((R 2 k).getD 1 0), iA ((R 2 k).getD 2 0), iA ((R 2 k).getD 3 0)]) G (rg 5) (by have e1 : ((U8 b j vs.length ars.length at0 n).fst.op : Int) = (2) := (by rw [hR.done (k := k) (X := 2) (au1 hX (by omega) (by omega)) (by omega) (by omega)]; done); have e2 : ((U8 b j vs.length ars.length at0 n).fst.a : Int) = ((R 2 k).getD 0 0) := (by rw [hR.done (k := k) (X := 2) (au1 hX (by omega) (by omega)) (by omega) (by omega)]; done); have e3 : ((U8 b j vs.length ars.length at0 n).fst.b : Int) = ((R 2 k).getD 1 0) := (by rw [hR.done (k := k) (X := 2) (au1 hX (by omega) (by omega)) (by omega) (by omega)]; done); have e4 : ((U8 b j vs.length ars.length at0 n).fst.c : Int) = ((R 2 k).getD 2 0) := (by rw [hR.done (k := k) (X := 2) (au1 hX (by omega) (by omega)) (by omega) (by omega)]; done); have e5 : ((U8 b j vs.length ars.length at0 n).fst.d : Int) = ((R 2 k).getD 3 0) := (by rw [hR.done (k := k) (X := 2) (au1 hX (by omega) (by omega)) (by omega) (by omega)]; done); (first | rw [e1, e2, e3, e4, e5] | simp only [e1, e2, e3, e4, e5]) <;> rfl) (by show _ = mR (rg 5) [.box [.ref 1, iA (U8 b j vs.length ars.length at0 n).snd], dY b, dI vs, dI ars, dN l]; rw [hR.done (k := k) (X := 2) (au1 hX (by omega) (by omega)) (by omega) (by omega)] <;> rfl)
    ·
     refine wp_skip (b0 (wp_seq (wp_block (wp_seq (D0 G e6 [(44, .v (.int .u8 (((f8 2).getD k 0).toNat : Int)))] [(0 : Int) ≤ (k : Int), (k : Int) < ((ByteArray.mk (f8 (2 : Int)).toArray).size : Int)] ⟨(by omega), (by assumption), b84⟩ fun G => b0 (wp_block (wp_seq (l6 G e6 [(57, bA ((((f8 2).getD k 0).toNat : Int) == 114))] fun G => b0 (P0 (u := (((f8 (2 : Int)).getD k (0 : UInt8)).toNat : Int)) (v := (114 : Int)) G (fun h22 q22 => ?_) fun h22 q22 => ?_)))))))))
     ·
      refine wp_seq (l6 G e6 [(64, bA ((((f8 2).getD k 0).toNat : Int) == 99))] fun G => b0 (P0 (u := (((f8 (2 : Int)).getD k (0 : UInt8)).toNat : Int)) (v := (99 : Int)) G (fun h23 q23 => ?_) fun h23 q23 => ?_))
      ·
       refine wp_seq (l6 G e6 [(71, bA ((((f8 2).getD k 0).toNat : Int) == 118))] fun G => b0 (P0 (u := (((f8 (2 : Int)).getD k (0 : UInt8)).toNat : Int)) (v := (118 : Int)) G (fun h24 q24 => ?_) fun h24 q24 => ?_))
       ·
        refine wp_seq (l6 G e6 [(81, bA ((((f8 2).getD k 0).toNat : Int) == 97))] fun G => b0 (P0 (u := (((f8 (2 : Int)).getD k (0 : UInt8)).toNat : Int)) (v := (97 : Int)) G (fun h25 q25 => ?_) fun h25 q25 => ?_))
        ·
         refine wp_seq (l6 G e6 [(91, bA ((((f8 2).getD k 0).toNat : Int) == 111))] fun G => b0 (P0 (u := (((f8 (2 : Int)).getD k (0 : UInt8)).toNat : Int)) (v := (111 : Int)) G (fun h26 q26 => ?_) fun h26 q26 => ?_))
         · refine K6 G (v5 9 [0, 1] (s4 b (j + 1 + (k : Int)) (n - at0 - 1) (by omega) (by omega))) (rg 9) (I9 j k :: (B7 b vs ars l [P5, .row 3 (D.ints ((R 2 k).set k (at0 + 1 + pk b (j + 1 + (k : Int)) (n - at0 - 1))))])) (y7 at0 n ((10, N0) :: (E9 k []))) ((wO (at0 + 1)) :: ((wO (n - at0)) :: ((wO (n - at0 - 1)) :: ((wO (at0 + 1 + pk b (j + 1 + (k : Int)) (n - at0 - 1))) :: (iX k k ((R (2 : Int) k).length) []))))) ⟨oW (by omega), ⟨oW (by omega), ⟨oW (by omega), ⟨(by have h9 := ab0 b (i := j + 1 + k) (m := n - at0 - 1) (by omega) (by omega); exact w64 (by omega) (by omega)), (iK (by rw [hRl]; omega) b84)⟩⟩⟩⟩ fun G => i8 (i8 (b0 (D0 G e6 [(12, iA ((k : Int) + 1))] [wO ((k : Int) + 1)] (o1 (by omega)) fun G => b0 ?_))); exact L0 G (k + 1) (by omega) (by omega) (rg 9) (by have e1 : (j + 1 + (↑(k + 1) : Int) : Int) = (j + 1 + (k : Int) + 1) := (by omega); have e2 : (R 2 (k + 1) : List Int) = ((R 2 k).set k (at0 + 1 + pk b (j + 1 + (k : Int)) (n - at0 - 1))) := (hR.next (by omega) (bD0 (by with_reducible assumption) (by with_reducible assumption) (by with_reducible assumption) (by with_reducible assumption) (by with_reducible assumption))); (first | rw [e1, e2] | simp only [e1, e2]) <;> rfl)
         · refine K6 G (v5 3 [0, 1] (s4 b (j + 1 + (k : Int)) 7 (by omega) (by omega))) (rg 9) (I9 j k :: (B7 b vs ars l [P5, .row 3 (D.ints ((R 2 k).set k (4 + pk b (j + 1 + (k : Int)) 7)))])) (y7 at0 n ((10, N0) :: (E9 k []))) ((wO ((4 : Int) + pk b (j + 1 + (k : Int)) (7 : Int))) :: (iX k k ((R (2 : Int) k).length) [])) ⟨(by have h9 := ab0 b (i := j + 1 + k) (m := 7) (by omega) (by omega); exact w64 (by omega) (by omega)), (iK (by rw [hRl]; omega) b84)⟩ fun G => i8 (i8 (b0 (D0 G e6 [(12, iA ((k : Int) + 1))] [wO ((k : Int) + 1)] (o1 (by omega)) fun G => b0 ?_))); exact L0 G (k + 1) (by omega) (by omega) (rg 9) (by have e1 : (j + 1 + (↑(k + 1) : Int) : Int) = (j + 1 + (k : Int) + 1) := (by omega); have e2 : (R 2 (k + 1) : List Int) = ((R 2 k).set k (4 + pk b (j + 1 + (k : Int)) 7)) := (hR.next (by omega) (bD2 (by with_reducible assumption))); (first | rw [e1, e2] | simp only [e1, e2]) <;> rfl)
        · refine K6 G (v5 6 [0, 1] (s4 b (j + 1 + (k : Int)) ((ars.length : Int)) (by omega) (by omega))) (rg 9) (I9 j k :: (B7 b vs ars l [P5, .row 3 (D.ints ((R 2 k).set k (pk b (j + 1 + (k : Int)) (ars.length : Int))))])) (y7 at0 n ((10, N0) :: (E9 k []))) (iX k k ((R (2 : Int) k).length) []) (iK (by rw [hRl]; omega) b84) fun G => i8 (i8 (b0 (D0 G e6 [(12, iA ((k : Int) + 1))] [wO ((k : Int) + 1)] (o1 (by omega)) fun G => b0 ?_))); exact L0 G (k + 1) (by omega) (by omega) (rg 9) (by have e1 : (j + 1 + (↑(k + 1) : Int) : Int) = (j + 1 + (k : Int) + 1) := (by omega); have e2 : (R 2 (k + 1) : List Int) = ((R 2 k).set k (pk b (j + 1 + (k : Int)) (ars.length : Int))) := (hR.next (by omega) (bD4 (by with_reducible assumption))); (first | rw [e1, e2] | simp only [e1, e2]) <;> rfl)
       · refine K6 G (v5 6 [0, 1] (s4 b (j + 1 + (k : Int)) ((vs.length : Int)) (by omega) (by omega))) (rg 9) (I9 j k :: (B7 b vs ars l [P5, .row 3 (D.ints ((R 2 k).set k (pk b (j + 1 + (k : Int)) (vs.length : Int))))])) (y7 at0 n ((10, N0) :: (E9 k []))) (iX k k ((R (2 : Int) k).length) []) (iK (by rw [hRl]; omega) b84) fun G => i8 (i8 (b0 (D0 G e6 [(12, iA ((k : Int) + 1))] [wO ((k : Int) + 1)] (o1 (by omega)) fun G => b0 ?_))); exact L0 G (k + 1) (by omega) (by omega) (rg 9) (by have e1 : (j + 1 + (↑(k + 1) : Int) : Int) = (j + 1 + (k : Int) + 1) := (by omega); have e2 : (R 2 (k + 1) : List Int) = ((R 2 k).set k (pk b (j + 1 + (k : Int)) (vs.length : Int))) := (hR.next (by omega) (bC9 (by with_reducible assumption))); (first | rw [e1, e2] | simp only [e1, e2]) <;> rfl)
      · refine K6 G (v5 3 [0, 1] (N4 b (j + 1 + (k : Int)) (by omega) (by omega))) (rg 9) (I9 j k :: (B7 b vs ars l [P5, .row 3 (D.ints ((R 2 k).set k (nm b (j + 1 + (k : Int)) vaL)))])) (y7 at0 n ((10, N0) :: (E9 k []))) (iX k k ((R (2 : Int) k).length) []) (iK (by rw [hRl]; omega) b84) fun G => i8 (i8 (b0 (D0 G e6 [(12, iA ((k : Int) + 1))] [wO ((k : Int) + 1)] (o1 (by omega)) fun G => b0 ?_))); exact L0 G (k + 1) (by omega) (by omega) (rg 9) (by have e1 : (j + 1 + (↑(k + 1) : Int) : Int) = (j + 1 + (k : Int) + 1) := (by omega); have e2 : (R 2 (k + 1) : List Int) = ((R 2 k).set k (nm b (j + 1 + (k : Int)) vaL)) := (hR.next (by omega) (bD3 (by with_reducible assumption))); (first | rw [e1, e2] | simp only [e1, e2]) <;> rfl)
     · refine K6 G (v5 3 [0, 1] (s4 b (j + 1 + (k : Int)) 3 (by omega) (by omega))) (rg 9) (I9 j k :: (B7 b vs ars l [P5, .row 3 (D.ints ((R 2 k).set k (pk b (j + 1 + (k : Int)) 3)))])) (y7 at0 n ((10, N0) :: (E9 k []))) (iX k k ((R (2 : Int) k).length) []) (iK (by rw [hRl]; omega) b84) fun G => i8 (i8 (b0 (D0 G e6 [(12, iA ((k : Int) + 1))] [wO ((k : Int) + 1)] (o1 (by omega)) fun G => b0 ?_))); exact L0 G (k + 1) (by omega) (by omega) (rg 9) (by have e1 : (j + 1 + (↑(k + 1) : Int) : Int) = (j + 1 + (k : Int) + 1) := (by omega); have e2 : (R 2 (k + 1) : List Int) = ((R 2 k).set k (pk b (j + 1 + (k : Int)) 3)) := (hR.next (by omega) (bD1 (by with_reducible assumption))); (first | rw [e1, e2] | simp only [e1, e2]) <;> rfl)
theorem a74 (b : List UInt8) (j : Int) (vs ars : List Int) (l : List d7) (at0 n : Int) (r0 : 0 ≤ j) (r1 : j ≤ 800000000) (r2 : 0 ≤ at0 ∧ at0 ≤ 100) (r3 : 0 ≤ n ∧ n ≤ 100) : l0.ok Tryz.prog (rnC b j vs ars l at0 n) := a29 b j vs ars l at0 n _ rfl r0 r1 r2 r3
abbrev mA (r : Nat) : AV := .agg [.ref r, .ref (r + 1)]
abbrev mT (r : Nat) : AV := .agg [.ref r, .tref (r + 1)]
abbrev mS (m : v7) : List It := [dI m.vals, dR m.arrs]
abbrev mO (m : v7) : List It := [.row 3 (.ints m.vals), .tree (.rows m.arrs)]
theorem bz3 {l : List (List Int)} {k : Nat} (h : k < l.length) : l.take (k + 1) = l.take k ++ [l.getD k []] := by
 rw [t2 _ _ h, r7 h]
theorem aS5 {l : List (List Int)} {k : Nat} (h : l.length ≤ k) : l.take k = l := b89 h
abbrev a94 : It := .box [.v (.slice none 0 0), .v (.slice none 0 0)]
theorem bx0 (xs : List Int) (rs : List (List Int)) (hx : xs.length ≤ 1048576) (hr : rs.length ≤ 1048576) (hi : ∀ a ∈ rs, a.length ≤ 1048576) : l0.ok Tryz.prog ⟨51, [mA 0], [dI xs, dR rs], [dI xs, dR rs, .row 3 (.ints xs), .tree (.rows rs)], mT 2⟩ := by
 refine J8 30 Tryz.func51 [dI xs, dR rs] [(0, .agg [.ref 0, .ref 1])] fun G => ?_; refine wp_seq (i9 G e6 [0, 1, 2, 10] [dI xs, dR rs, .box [.ref 0, .ref 1], a94] [(1, .ptr 2 0), (2, .ptr 3 0)] fun G => b0 (wp_seq (K6 G e6 [0, 1, 2, 3, 28, 44] [dI xs, dR rs, .box [.ref 0, .ref 1], a94, .row 3 (D.ints ([] ++ xs)), .box [.ref 4, .v (.slice none 0 0)]] [(1, .ptr 2 0), (2, .ptr 3 0), (3, .ptr 5 0)] (aP ((0 : Nat) + xs.length) 8 []) (aK (by omega) b84) fun G => b0 (wp_seq (wp_seq (G9 G e6 [(1, .ptr 2 0), (2, .ptr 3 0), (3, .ptr 5 0), (4, iA 0)] fun G => b0 (wp_block ?_))))))); obtain ⟨ρ, G⟩ := G.nilT 6 (.rows []) [dI xs, dR rs, .box [.ref 0, .ref 1], .box [.v (.slice none 0 0), .v (.slice none 0 0)], .row 3 (D.ints ([] ++ xs)), .box [.ref 4, .tref 6]] [(1, .ptr 2 0), (2, .ptr 3 0), (3, .ptr 5 0), (4, iA 0)]; refine x6 (κ := Nat) (fun k => k ≤ rs.length) (fun k => rs.length - k) (fun k => [dI xs, dR rs, .box [.ref 0, .ref 1], .box [.v (.slice none 0 0), .v (.slice none 0 0)], .row 3 (D.ints ([] ++ xs)), .box [.ref 4, .tref 6], .tree (.rows (rs.take k))]) (fun k => [(1, .ptr 2 0), (2, .ptr 3 0), (3, .ptr 5 0), (4, iA k)]) 0 (by omega) (t7.at G _ _) ?_; clear G; intro k ρ a w hp G; replace G := t7.at G [dI xs, dR rs, .box [.ref 0, .ref 1], a94, .row 3 (D.ints ([] ++ xs)), .box [.ref 4, .tref 6], .tree (D.rows (b83 k rs))] [(1, .ptr 2 0), (2, .ptr 3 0), (3, .ptr 5 0), (4, iA k)]; refine wp_seq (wp_seq (l6 G e6 [(14, bA (decide ((k : Int) < rs.length)))] fun G => b0 (rcD G (fun h0 q0 => ?_) fun h0 q0 => ?_)))
 ·refine wp_exit (v9 (v9 (v6 (b0 (wp_seq (i9 G e6 [0, 1, 3, 4, 6] [dI xs, dR rs, .box [.ref 3, .tref 4], .row 3 (D.ints ([] ++ xs)), .tree (D.rows (b83 k rs))] [(2, .ptr 2 0)] fun G => b0 (wp_ret ?_))))))); exact J9 G [0, 1, 3, 4] (by show _ = mR [0, 1, 3, 4] [dI xs, dR rs, .row 3 (D.ints xs), .tree (D.rows rs)]; have e1 : (b83 k rs : List (List Int)) = (rs) := (aS5 (by omega)); (first | rw [e1] | simp only [e1]) <;> rfl)
 ·refine wp_skip (b0 (wp_seq (wp_block (H5 G e6 [0, 1, 0, 0, 8, 0, 56, 120, 252, 508, 1023, 2047, 4095] [0, 1, 2, 3, 4, 5, 87] [dI xs, dR rs, .box [.ref 0, .ref 1], a94, .row 3 (D.ints ([] ++ xs)), .box [.ref 4, .tref 6], .tree (D.rows (b83 k rs ++ [[] ++ rs.getD k []]))] [(1, .ptr 2 0), (2, .ptr 3 0), (3, .ptr 5 0), (4, iA k)] (iX k k rs.length (aP ((0 : Nat) + (rs.getD k []).length) 8 (aP ((b83 k rs).length + [[] ++ rs.getD k []].length) 24 []))) (iK (by omega) (aK (by have h9 := hi (rs.getD k []) (by rw [r7 (by omega)]; exact b91 _); omega) (aK (by simp; omega) b84))) fun G => i8 (b0 (D0 G e6 [(4, iA ((k : Int) + 1))] [wO ((k : Int) + 1)] (o1 (by omega)) fun G => b0 ?_)))))); exact L0 G (k + 1) (by omega) (by omega) (rg 7) (by have e1 : (b83 (k + 1) rs : List (List Int)) = (b83 k rs ++ [[] ++ rs.getD k []]) := (bz3 (by omega)); (first | rw [e1] | simp only [e1]) <;> rfl)
abbrev ah7 : It := .box [.v (.slice none 0 0), .v (.slice none 0 0)]
abbrev N7 (r0 : List (Nat × AV)) : List (Nat × AV) := (0, .ptr 0 0) :: (3, .ptr 5 0) :: (4, .ptr 6 0) :: (5, .ptr 7 0) :: r0
abbrev aR0 (b : List UInt8) (j : Int) (vs : List Int) (i : Nat) (r0 : List It) : List It := .box [.ref 8, .tref 9] :: .row 3 (D.ints (vlD b j vs.length)) :: .tree (D.rows (arD b (j + (vs.length : Int)) i)) :: r0
abbrev aQ9 (r0 : List It) : List It := .box (pL 2) :: .box [.v (.slice none 0 0), .v (.slice none 0 0)] :: r0
theorem a76 (b : List UInt8) (j : Int) (vs ars : List Int) (bd : List c8) (h1 : vs.length ≤ 1000000) (h2 : ars.length ≤ 1000000) (r0 : 0 ≤ j) (r1 : j ≤ 100000000) : l0.ok Tryz.prog ⟨25, [.ptr 0 0, pA 2], [.box [.ref 1, iA j], dY b, dI vs, dI ars, dT bd], [.box [.ref 1, iA (j + vs.length + 4 * ars.length)], dY b, dI vs, dI ars, dT bd] ++ mS (mmD b j vs.length ars.length), mA 5⟩ := by
  refine J8 49 Tryz.func25 [.box [.ref 1, iA j], dY b, dI vs, dI ars, dT bd] [(0, .ptr 0 0), (1, pA 2)] fun G => ?_; refine wp_seq (i9 G e6 [0, 1, 2, 3, 4, 5, 13] [.box [.ref 1, iA j], dY b, dI vs, dI ars, dT bd, .box (pL 2), ah7] [(0, .ptr 0 0), (3, .ptr 5 0), (4, .ptr 6 0)] fun G => b0 (wp_seq (i9 G e6 [0, 1, 2, 3, 4, 5, 6, 15] [.box [.ref 1, iA j], dY b, dI vs, dI ars, dT bd, .box (pL 2), ah7, ah7] (N7 []) fun G => b0 (wp_seq (wp_seq (G9 G e6 (N7 [(6, iA 0)]) fun G => b0 (wp_block ?_))))))); obtain ⟨ρ, G⟩ := G.nil 8 3 (.ints []) 1 (.box [.ref 1, iA j] :: dY b :: dI vs :: dI ars :: dT bd :: (aQ9 [.box [.ref 8, .v (.slice none 0 0)]])) (N7 [(6, iA 0)]); replace G := G.as (.box [.ref 1, iA (j + 0)] :: dY b :: dI vs :: dI ars :: dT bd :: (aQ9 [.box [.ref 8, .v (.slice none 0 0)], .row 3 (D.ints (vlD b j 0))])) (N7 [(6, iA 0)]) (by have e1 : (j + 0 : Int) = (j) := (by omega); (first | rw [e1] | simp only [e1]) <;> rfl) (by kernel_rfl); refine x6 (κ := Nat) (fun k => k ≤ vs.length) (fun k => vs.length - k) (fun k => [.box [.ref 1, iA (j + k)], dY b, dI vs, dI ars, dT bd, .box (pL 2), .box [.v (.slice none 0 0), .v (.slice none 0 0)], .box [.ref 8, .v (.slice none 0 0)], .row 3 (.ints (vlD b j k))]) (fun k => [(0, .ptr 0 0), (3, .ptr 5 0), (4, .ptr 6 0), (5, .ptr 7 0), (6, iA k)]) 0 (by omega) (t7.at G _ _) ?_; clear G; intro k ρ a w hp G; replace G := t7.at G [.box [.ref 1, iA (j + (k : Int))], dY b, dI vs, dI ars, dT bd, .box (pL 2), ah7, .box [.ref 8, .v (.slice none 0 0)], .row 3 (D.ints (vlD b j k))] (N7 [(6, iA k)]); have hvl := aj0 b j k; refine wp_seq (wp_seq (G9 G e6 (N7 [(6, iA k), (15, bA (decide ((k : Int) < vs.length)))]) fun G => b0 ?_)); cases h0 : (decide ((k : Int) < vs.length))
  ·
   have q0 := Z3 h0
   obtain rfl : k = vs.length := by omega
   refine rF G (decide ((vs.length : Int) < vs.length)) (by assumption) (wp_exit (v9 (v9 (v6 (b0 (wp_seq (wp_seq (G9 G e6 (N7 [(7, iA 0)]) fun G => b0 (wp_block ?_))))))))); obtain ⟨ρ, G⟩ := G.nilT 9 (.rows []) (.box [.ref 1, iA (j + (vs.length : Int))] :: dY b :: dI vs :: dI ars :: dT bd :: (aQ9 [.box [.ref 8, .tref 9], .row 3 (D.ints (vlD b j vs.length))])) (N7 [(7, iA 0)]); replace G := G.as (.box [.ref 1, iA (j + (vs.length : Int) + 4 * (0 : Int))] :: dY b :: dI vs :: dI ars :: dT bd :: (aQ9 [.box [.ref 8, .tref 9], .row 3 (D.ints (vlD b j vs.length)), .tree (D.rows (arD b (j + (vs.length : Int)) 0))])) (N7 [(7, iA 0)]) (by have e1 : (j + (vs.length : Int) + 4 * (0 : Int) : Int) = (j + (vs.length : Int)) := (by omega); (first | rw [e1] | simp only [e1]) <;> rfl) (by kernel_rfl); refine x6 (κ := Nat) (fun i => i ≤ ars.length) (fun i => ars.length - i) (fun i => [.box [.ref 1, iA (j + vs.length + 4 * i)], dY b, dI vs, dI ars, dT bd, .box (pL 2), .box [.v (.slice none 0 0), .v (.slice none 0 0)], .box [.ref 8, .tref 9], .row 3 (D.ints (vlD b j vs.length)), .tree (.rows (arD b (j + vs.length) i))]) (fun i => [(0, .ptr 0 0), (3, .ptr 5 0), (4, .ptr 6 0), (5, .ptr 7 0), (7, iA i)]) 0 (by omega) (t7.at G _ _) ?_; clear G; intro i ρ a w hp G; replace G := t7.at G (.box [.ref 1, iA (j + (vs.length : Int) + 4 * (i : Int))] :: dY b :: dI vs :: dI ars :: dT bd :: .box (pL 2) :: ah7 :: (aR0 b j vs i [])) (N7 [(7, iA i)]); have hal := by4 b (j + vs.length) i; refine wp_seq (wp_seq (G9 G e6 (N7 [(7, iA i), (29, bA (decide ((i : Int) < ars.length)))]) fun G => b0 ?_)); cases h1 : (decide ((i : Int) < ars.length))
   ·
    have q1 := Z3 h1
    obtain rfl : i = ars.length := by omega
    refine rF G (decide ((ars.length : Int) < ars.length)) (by assumption) (wp_exit (v9 (v9 (v6 (b0 (wp_seq (i9 G e6 [0, 1, 2, 3, 4, 6, 8, 9] [.box [.ref 1, iA (j + (vs.length : Int) + 4 * (ars.length : Int))], dY b, dI vs, dI ars, dT bd, .box [.ref 6, .tref 7], .row 3 (D.ints (vlD b j vs.length)), .tree (D.rows (arD b (j + (vs.length : Int)) ars.length))] [(4, .ptr 5 0)] fun G => b0 (wp_ret ?_)))))))); obtain ⟨ρ, G⟩ := G.frz [.no, .no, .no, .no, .no, .no, .row 3, .tree] [.box [.ref 1, iA (j + (vs.length : Int) + 4 * (ars.length : Int))], dY b, dI vs, dI ars, dT bd, .box [.ref 6, .ref 7], dI (vlD b j vs.length), dR (arD b (j + (vs.length : Int)) ars.length)] [(4, .ptr 5 0)]; exact J9 G [0, 1, 2, 3, 4, 6, 7]
   ·
    have q1 := Z2 h1; refine rT G _ h1 (wp_skip (b0 (wp_seq (wp_block (wp_seq (i9 G e6 (rg 11) (.box [.ref 1, iA (j + (vs.length : Int) + 4 * (i : Int))] :: dY b :: dI vs :: dI ars :: dT bd :: .box (pL 2) :: ah7 :: (aR0 b j vs i [.row 3 (D.ints [])])) (N7 [(7, iA i), (8, .ref 10)]) fun G => b0 (wp_seq (wp_seq (G9 G e6 (N7 [(7, iA i), (8, .ref 10), (9, iA 0)]) fun G => b0 (wp_block ?_)))))))))); replace G := G.as (.box [.ref 1, iA (j + (vs.length : Int) + 4 * (i : Int) + 0)] :: dY b :: dI vs :: dI ars :: dT bd :: (aQ9 (aR0 b j vs i [.row 3 (D.ints (vlD b (j + (vs.length : Int) + 4 * (i : Int)) 0))]))) (N7 [(7, iA i), (8, .ref 10), (9, iA 0)]) (by have e1 : (j + (vs.length : Int) + 4 * (i : Int) + 0 : Int) = (j + (vs.length : Int) + 4 * (i : Int)) := (by omega); (first | rw [e1] | simp only [e1]) <;> rfl) (by kernel_rfl); refine x6 (κ := Nat) (fun k2 => k2 ≤ 4) (fun k2 => 4 - k2) (fun k2 => [.box [.ref 1, iA (j + vs.length + 4 * i + k2)], dY b, dI vs, dI ars, dT bd, .box (pL 2), .box [.v (.slice none 0 0), .v (.slice none 0 0)], .box [.ref 8, .tref 9], .row 3 (D.ints (vlD b j vs.length)), .tree (D.rows (arD b (j + (vs.length : Int)) i)), .row 3 (.ints (vlD b (j + vs.length + 4 * i) k2))]) (fun k2 => [(0, .ptr 0 0), (3, .ptr 5 0), (4, .ptr 6 0), (5, .ptr 7 0), (7, iA i), (8, .ref 10), (9, iA k2)]) 0 (by omega) (t7.at G _ _) ?_; clear G; intro k2 ρ a w hp G; replace G := t7.at G (.box [.ref 1, iA (j + (vs.length : Int) + 4 * (i : Int) + (k2 : Int))] :: dY b :: dI vs :: dI ars :: dT bd :: .box (pL 2) :: ah7 :: (aR0 b j vs i [.row 3 (D.ints (vlD b (j + (vs.length : Int) + 4 * (i : Int)) k2))])) (N7 [(7, iA i), (8, .ref 10), (9, iA k2)]); have hvl2 := aj0 b (j + vs.length + 4 * i) k2; refine wp_seq (wp_seq (G9 G e6 (N7 [(7, iA i), (8, .ref 10), (9, iA k2), (34, bA (decide ((k2 : Int) < 4)))]) fun G => b0 ?_)); cases h2 : (decide ((k2 : Int) < 4))
    ·
     have q2 := Z3 h2
     obtain rfl : k2 = 4 := by omega
     refine rF G false (by kernel_rfl) (wp_exit (v9 (v9 (v6 (b0 (K6 G e6 [0, 1, 2, 3, 4, 5, 6, 7, 8, 43] [.box [.ref 1, iA (j + (vs.length : Int) + 4 * (i : Int) + 4)], dY b, dI vs, dI ars, dT bd, .box (pL 2), ah7, .box [.ref 8, .tref 9], .row 3 (D.ints (vlD b j vs.length)), .tree (D.rows (arD b (j + (vs.length : Int)) i ++ [vlD b (j + (vs.length : Int) + 4 * (i : Int)) 4]))] (N7 [(7, iA i)]) (aP ((arD b (j + (vs.length : Int)) i).length + [vlD b (j + (vs.length : Int) + 4 * (i : Int)) (4 : Nat)].length) 24 []) (aK (by simp; omega) b84) fun G => i8 (b0 (D0 G e6 [(7, iA ((i : Int) + 1))] [wO ((i : Int) + 1)] (o1 (by omega)) fun G => b0 ?_)))))))); exact L0 G (i + 1) (by omega) (by omega) (rg 10) (by have e1 : (j + (vs.length : Int) + 4 * (↑(i + 1) : Int) : Int) = (j + (vs.length : Int) + 4 * (i : Int) + 4) := (by omega); have e2 : (arD b (j + (vs.length : Int)) (i + 1) : List (List Int)) = (arD b (j + (vs.length : Int)) i ++ [vlD b (j + (vs.length : Int) + 4 * (i : Int)) 4]) := (bH0 _ _ _); (first | rw [e1, e2] | simp only [e1, e2]) <;> rfl)
    · have q2 := Z2 h2; refine rT G _ h2 (wp_skip (b0 (wp_seq (wp_block (K6 G (v5 2 [0, 1] (N4 b (j + (vs.length : Int) + 4 * (i : Int) + (k2 : Int)) (by omega) (by omega))) [0, 1, 2, 3, 4, 5, 6, 7, 8, 9, 43] (.box [.ref 1, iA (j + (vs.length : Int) + 4 * (i : Int) + (k2 : Int) + 1)] :: dY b :: dI vs :: dI ars :: dT bd :: .box (pL 2) :: ah7 :: (aR0 b j vs i [.row 3 (D.ints (vlD b (j + (vs.length : Int) + 4 * (i : Int)) k2 ++ ([nm b (j + (vs.length : Int) + 4 * (i : Int) + (k2 : Int)) vaL] ++ [])))])) (N7 [(7, iA i), (8, .ref 10), (9, iA k2)]) (aP ((vlD b (j + (vs.length : Int) + 4 * (i : Int)) k2).length + ([nm b (j + (vs.length : Int) + 4 * (i : Int) + (k2 : Int)) vaL] ++ []).length) 8 []) (aK (by simp; omega) b84) fun G => i8 (b0 (D0 G e6 [(9, iA ((k2 : Int) + 1))] [wO ((k2 : Int) + 1)] (o1 (by omega)) fun G => b0 ?_))))))); exact L0 G (k2 + 1) (by omega) (by omega) (rg 11) (by have e1 : (j + (vs.length : Int) + 4 * (i : Int) + (↑(k2 + 1) : Int) : Int) = (j + (vs.length : Int) + 4 * (i : Int) + (k2 : Int) + 1) := (by omega); have e2 : (vlD b (j + (vs.length : Int) + 4 * (i : Int)) (k2 + 1) : List Int) = (vlD b (j + (vs.length : Int) + 4 * (i : Int)) k2 ++ ([nm b (j + (vs.length : Int) + 4 * (i : Int) + (k2 : Int)) vaL] ++ [])) := (aK9 _ _ _); (first | rw [e1, e2] | simp only [e1, e2]) <;> rfl)
  · have q0 := Z2 h0; refine rT G _ h0 (wp_skip (b0 (wp_seq (wp_block (H5 G (v5 3 [0, 1] (N4 b (j + (k : Int)) (by omega) (by omega))) [0, 1, 0, 4, 12, 31, 63, 127] [0, 1, 2, 3, 4, 5, 6, 7, 49] [.box [.ref 1, iA (j + (k : Int) + 1)], dY b, dI vs, dI ars, dT bd, .box (pL 2), ah7, .box [.ref 8, .v (.slice none 0 0)], .row 3 (D.ints (vlD b j k ++ ([nm b (j + (k : Int)) vaL] ++ [])))] (N7 [(6, iA k)]) (aP ((vlD b j k).length + ([nm b (j + (k : Int)) vaL] ++ []).length) 8 []) (aK (by simp; omega) b84) fun G => i8 (b0 (D0 G e6 [(6, iA ((k : Int) + 1))] [wO ((k : Int) + 1)] (o1 (by omega)) fun G => b0 ?_))))))); exact L0 G (k + 1) (by omega) (by omega) (rg 9) (by have e1 : (j + (↑(k + 1) : Int) : Int) = (j + (k : Int) + 1) := (by omega); have e2 : (vlD b j (k + 1) : List Int) = (vlD b j k ++ ([nm b (j + (k : Int)) vaL] ++ [])) := (aK9 _ _ _); (first | rw [e1, e2] | simp only [e1, e2]) <;> rfl)
theorem aD2 (xs ys : List Int) : l0.ok Tryz.prog (Z1 30 [.ref 0, .ref 1] [dI xs, dI ys] (bA (decide (xs = ys)))) := by
  refine J8 26 Tryz.func30 [dI xs, dI ys] [(0, .ref 0), (1, .ref 1)] fun G => ?_; have hl : xs.length ≤ 9223372036854775807 := G.len 0 (d := .ints xs) (by kernel_rfl); refine wp_seq (G9 G e6 [(0, .ref 0), (1, .ref 1), (4, bA false)] fun G => b0 (wp_seq (wp_seq (l6 G e6 [(10, bA ((xs.length : Int) != (ys.length : Int)))] fun G => b0 (rcN G (fun h0 q0 => ?_) fun h0 q0 => ?_)))))
  ·
   refine wp_skip (b0 (wp_seq (wp_seq (G9 G e6 [(0, .ref 0), (1, .ref 1), (4, bA false), (12, iA (xs.length : Int)), (13, iA 0)] fun G => b0 (wp_block ?_))))); refine x6 (κ := Nat) (fun k => k ≤ xs.length ∧ xs.take k = ys.take k) (fun k => xs.length - k) (fun k => [dI xs, dI ys]) (fun k => [(0, .ref 0), (1, .ref 1), (4, bA false), (12, iA (xs.length : Int)), (13, iA k)]) 0 (by simp [h0]) (t7.at G _ _) ?_; clear G; intro k ρ a w hp G; refine wp_seq (l6 G e6 [(14, bA (decide ((k : Int) < xs.length)))] fun G => b0 (wp_seq (rcD G (fun h1 q1 => ?_) fun h1 q1 => ?_)))
   · refine wp_exit (v9 (v9 (v6 (b0 (wp_seq (l6 G e6 [(4, bA true)] fun G => b0 (wp_ret ?_))))))); exact M0 true G [0, 1] (decide_eq_true (aS7 hp.2 (by omega) (by omega)))
   ·
    refine wp_skip (b0 (wp_seq (wp_block (wp_seq (l6 G e6 [(5, iA k)] fun G => b0 (wp_seq (bg5 G e6 [0, 0, 3, 7, 0, 0, 48, 112, 255] [(24, bA (xs.getD k 0 != ys.getD k 0))] (iX k k xs.length (iX k k ys.length [])) (iK (by omega) (iK (by omega) b84)) fun G => b0 (rcN G (fun h2 q2 => ?_) fun h2 q2 => ?_))))))))
    · refine wp_skip (i8 (b0 (D0 G e6 [(13, iA ((k : Int) + 1))] [wO ((k : Int) + 1)] (o1 (by omega)) fun G => b0 ?_))); exact L0 G (k + 1) (⟨by omega, aH1 hp.2 (by omega) (by omega) (by omega)⟩) (by omega) [0, 1]
    · refine wp_seq (l6 G e6 [] fun G => b0 (wp_ret (E3 (o8 (o8 (E3 (o8 ?_))))))); exact M0 false G [0, 1] (by exact decide_eq_false fun e => by subst e; omega)
  · refine wp_seq (l6 G e6 [] fun G => b0 (wp_ret (o8 ?_))); exact M0 false G [0, 1] (by exact decide_eq_false fun e => by subst e; omega)
section
variable {vs ars : List Int} {l : Int} {s : c8} {pc pd : Int}
end
theorem bg6 {p : j9} (h : E0 p = true) : p.vars.all F0 = true ∧ p.arrays.all F0 = true ∧ 1 ≤ p.vars.length ∧ p.body.all (m8 p.vars.length p.arrays.length 5) = true := by
 unfold E0 E7 at h
 simp only [b73, decide_eq_true_eq] at h
 exact ⟨h.1.1.1.1.1.1, h.1.1.1.1.1.2, h.1.1.1.1.2, h.1.2⟩
section
variable (vs ars : List Int) (bd : List c8)
end
abbrev nvB (n : Int) : Bool := !(decide (0 ≤ n) && decide (n ≤ 255))
theorem bG7 (n : Int) : l0.ok Tryz.prog (Z1 106 [iA n] [] (bA (nvB n))) := by
 refine J8 6 Tryz.func106 [] [(0, iA n)] fun G => ?_; refine wp_seq (l6 G e6 [(2, bA false)] fun G => b0 (wp_seq (l6 G (v5 1 [] (aY9 n 0 255)) [(2, .v (.bool !(decide (0 ≤ n) && decide (n ≤ 255))))] fun G => b0 (wp_ret ?_)))); exact J9 G []
theorem bY9 (l : List Int) : l0.ok Tryz.prog (Z1 101 [.ref 0, .fn 106 []] [dI l] (iA (ac9 nvB l))) := by
  refine J8 19 Tryz.func101 [dI l] [(0, .ref 0), (1, .fn 106 [])] fun G => ?_; have hl : l.length ≤ 9223372036854775807 := G.len 0 (d := .ints l) (by kernel_rfl); refine wp_seq (G9 G e6 [(0, .ref 0), (1, .fn 106 []), (4, iA 0)] fun G => b0 (wp_seq (wp_seq (G9 G e6 [(0, .ref 0), (1, .fn 106 []), (4, iA 0), (7, iA (l.length : Int)), (8, iA 0)] fun G => b0 (wp_block ?_))))); refine x6 (κ := Nat) (fun k => k ≤ l.length ∧ (l.take k).any nvB = false) (fun k => l.length - k) (fun k => [dI l]) (fun k => [(0, .ref 0), (1, .fn 106 []), (4, iA 0), (7, iA (l.length : Int)), (8, iA k)]) 0 (⟨b92 _, rfl⟩) (t7.at G _ _) ?_; clear G; intro k ρ a w hp G; refine wp_seq (l6 G e6 [(9, bA (decide ((k : Int) < l.length)))] fun G => b0 (wp_seq (rcD G (fun h0 q0 => ?_) fun h0 q0 => ?_)))
  · refine wp_exit (v9 (v9 (v6 (b0 (wp_seq (l6 G e6 [(4, iA (-1))] fun G => b0 (wp_ret ?_))))))); exact rxI (-1) G [0] (aB8 (a03 hp.2 (by omega)))
  ·
   refine wp_skip (b0 (wp_seq (wp_block (wp_seq (l6 G e6 [(5, iA k)] fun G => b0 (wp_seq (D0 G (v5 5 [] (bG7 (l.getD k 0))) [(16, bA (nvB (l.getD k 0)))] (iX k k l.length []) (iK (by omega) b84) fun G => b0 (rcB G (fun h1 => ?_) fun h1 => ?_))))))))
   · refine wp_skip (i8 (b0 (D0 G e6 [(8, iA ((k : Int) + 1))] [wO ((k : Int) + 1)] (o1 (by omega)) fun G => b0 ?_))); exact L0 G (k + 1) (⟨by omega, a02 (z := 0) hp.2 (by omega) (by assumption)⟩) (by omega) [0]
   · refine wp_seq (l6 G e6 [(4, iA k)] fun G => b0 (wp_ret (E3 (o8 (o8 (E3 (o8 ?_))))))); exact rxI ((k : Int)) G [0] (aI9 (z := 0) (by omega) hp.2 (by assumption))
theorem bZ2 (l : List Int) : l0.ok Tryz.prog (Z1 85 [.ref 0, .fn 106 []] [dI l] (bA (l.any nvB))) := by
 refine J8 9 Tryz.func85 [dI l] [(0, .ref 0), (1, .fn 106 [])] fun G => ?_; refine wp_seq (l6 G e6 [(4, bA false)] fun G => b0 (wp_seq (l6 G (v5 2 [0] (bY9 l)) [(4, bA (decide (ac9 nvB l ≥ 0)))] fun G => b0 (wp_ret ?_)))); exact M0 (decide (ac9 nvB l ≥ 0)) G [0] ((aJ0 _ _).symm)
theorem bm5 (l : List Int) : (!l.any nvB) = F5 l := by
 unfold F5
 rw [List.all_eq_not_any_not]
theorem at3 (l : List Int) : l0.ok Tryz.prog (Z1 95 [.ref 0] [dI l] (bA (F5 l))) := by
 refine J8 6 Tryz.func95 [dI l] [(0, .ref 0)] fun G => ?_; refine wp_seq (l6 G e6 [(2, bA false)] fun G => b0 (wp_seq (l6 G (v5 1 [0] (bZ2 l)) [(2, .v (.bool !l.any nvB))] fun G => b0 (wp_ret ?_)))); exact rxv (.v (.bool !l.any nvB)) G [0] (by have e1 : (F5 l : Bool) = (!l.any nvB) := ((bm5 l).symm); (first | rw [e1] | simp only [e1]) <;> rfl)
abbrev naB (a : List Int) : Bool := !(R7 a)
theorem b43 {a : List Int} (h : ¬ (a.length : Int) = 4) : naB a = true := by unfold naB R7; rw [decide_eq_false (p := a.length = 4) (by omega)]; rfl
theorem b42 {a : List Int} (h : (a.length : Int) = 4) : naB a = !(F5 a) := by unfold naB R7; rw [decide_eq_true (p := a.length = 4) (by omega)]; rfl
theorem bQ4 (l : List Int) : l0.ok Tryz.prog (Z1 97 [.ref 0] [dI l] (bA (naB l))) := by
 refine J8 11 Tryz.func97 [dI l] [(0, .ref 0)] fun G => ?_; refine wp_seq (l6 G e6 [(2, bA false)] fun G => b0 (wp_seq ?_)); cases h0 : ((l.length : Int) != 4)
 ·have q0 := bne_eq_false_iff_eq.1 h0; refine l6 G (T4 (F9 5 [0] (at3 l) T3) (fc h0 fz) [(4, 0), (5, 0), (6, 0), (1007, 0)]) [(2, .v (.bool !F5 l))] fun G => b0 (wp_ret ?_); exact rxv (.v (.bool !F5 l)) G [0] (by have e1 : (naB l : Bool) = (!F5 l) := (b42 (by omega)); (first | rw [e1] | simp only [e1]) <;> rfl)
 ·have q0 := bne_iff_ne.1 h0; refine l6 G (J3 (fc h0 fz) [(4, 0), (5, 0), (6, 0), (1007, 0)]) [(2, bA true)] fun G => b0 (wp_ret ?_); exact M0 true G [0] (b43 (by omega))
theorem bZ0 (l : List (List Int)) : l0.ok Tryz.prog (Z1 107 [.ref 0, .fn 97 []] [dR l] (iA (ac9 naB l))) := by
  refine J8 19 Tryz.func107 [dR l] [(0, .ref 0), (1, .fn 97 [])] fun G => ?_; have hl : l.length ≤ 9223372036854775807 := G.len 0 (d := .rows l) (by kernel_rfl); refine wp_seq (G9 G e6 [(0, .ref 0), (1, .fn 97 []), (4, iA 0)] fun G => b0 (wp_seq (wp_seq (G9 G e6 [(0, .ref 0), (1, .fn 97 []), (4, iA 0), (7, iA (l.length : Int)), (8, iA 0)] fun G => b0 (wp_block ?_))))); refine x6 (κ := Nat) (fun k => k ≤ l.length ∧ (l.take k).any naB = false) (fun k => l.length - k) (fun k => [dR l]) (fun k => [(0, .ref 0), (1, .fn 97 []), (4, iA 0), (7, iA (l.length : Int)), (8, iA k)]) 0 (⟨b92 _, rfl⟩) (t7.at G _ _) ?_; clear G; intro k ρ a w hp G; refine wp_seq (l6 G e6 [(9, bA (decide ((k : Int) < l.length)))] fun G => b0 (wp_seq (rcD G (fun h0 q0 => ?_) fun h0 q0 => ?_)))
  · refine wp_exit (v9 (v9 (v6 (b0 (wp_seq (l6 G e6 [(4, iA (-1))] fun G => b0 (wp_ret ?_))))))); exact rxI (-1) G [0] (aB8 (a03 hp.2 (by omega)))
  ·
   refine wp_skip (b0 (wp_seq (wp_block (wp_seq (l6 G e6 [(5, iA k)] fun G => b0 (wp_seq (D0 G (v5 5 [33] (bQ4 (l.getD k []))) [(16, bA (naB (l.getD k [])))] (iX k k l.length []) (iK (by omega) b84) fun G => b0 (rcB G (fun h1 => ?_) fun h1 => ?_))))))))
   · refine wp_skip (i8 (b0 (D0 G e6 [(8, iA ((k : Int) + 1))] [wO ((k : Int) + 1)] (o1 (by omega)) fun G => b0 ?_))); exact L0 G (k + 1) (⟨by omega, a02 (z := []) hp.2 (by omega) (by assumption)⟩) (by omega) [0]
   · refine wp_seq (l6 G e6 [(4, iA k)] fun G => b0 (wp_ret (E3 (o8 (o8 (E3 (o8 ?_))))))); exact rxI ((k : Int)) G [0] (aI9 (z := []) (by omega) hp.2 (by assumption))
theorem bZ3 (l : List (List Int)) : l0.ok Tryz.prog (Z1 96 [.ref 0, .fn 97 []] [dR l] (bA (l.any naB))) := by
 refine J8 9 Tryz.func96 [dR l] [(0, .ref 0), (1, .fn 97 [])] fun G => ?_; refine wp_seq (l6 G e6 [(4, bA false)] fun G => b0 (wp_seq (l6 G (v5 2 [0] (bZ0 l)) [(4, bA (decide (ac9 naB l ≥ 0)))] fun G => b0 (wp_ret ?_)))); exact M0 (decide (ac9 naB l ≥ 0)) G [0] ((aJ0 _ _).symm)
theorem bG9 (l : List (List Int)) : (!l.any naB) = l.all R7 := by
 rw [List.all_eq_not_any_not]
theorem bW6 {nv na : Nat} {m : v7} (h1 : (m.vals.length : Int) = nv) (h2 : (m.arrs.length : Int) = na) (h3 : F5 m.vals = true) : (!m.arrs.any naB) = I6 nv na m := by
 rw [bW7 h1 h2 h3]; exact bG9 _
theorem a83 (vs ars xs : List Int) (rs : List (List Int)) : l0.ok Tryz.prog (Z1 82 [.ref 0, .ref 1, mA 2] [dI vs, dI ars, dI xs, dR rs] (bA (I6 vs.length ars.length ⟨xs, rs⟩))) := by
  refine J8 31 Tryz.func82 [dI vs, dI ars, dI xs, dR rs] [(0, .ref 0), (1, .ref 1), (2, .agg [.ref 2, .ref 3])] fun G => ?_; refine wp_seq (i9 G e6 (rg 5) [dI vs, dI ars, dI xs, dR rs, .box [.ref 2, .ref 3]] [(0, .ref 0), (1, .ref 1), (5, .ptr 4 0), (6, bA false)] fun G => b0 (wp_seq (wp_seq ?_))); cases h0 : ((xs.length : Int) != (vs.length : Int))
  ·
   have q0 := bne_eq_false_iff_eq.1 h0; cases h1 : ((rs.length : Int) != (ars.length : Int))
   ·
    have q1 := bne_eq_false_iff_eq.1 h1; refine l6 G (T4 (F9 17 [2] (at3 xs) T3) (fc h0 (fc h1 fz)) (us [(7, 12, 0), (1013, 1013, 0), (15, 18, 1), (1019, 1019, 1)])) [(26, .v (.bool !F5 xs))] fun G => b0 ?_; cases h2 : (!F5 xs)
    · have q2 : (F5 xs) = true := (Eq.mp (cb4 _) h2); refine rF G _ h2 (wp_skip (b0 (wp_seq (i9 G (v5 2 [3] (bZ3 rs)) (rg 4) [dI vs, dI ars, dI xs, dR rs] [(6, .v (.bool !rs.any naB))] fun G => b0 (wp_ret ?_))))); exact rxv (.v (.bool !rs.any naB)) G (rg 4) (by have e1 : (I6 vs.length ars.length (v7.mk xs rs) : Bool) = (!rs.any naB) := ((bW6 (m := ⟨xs, rs⟩) (by dsimp only; omega) (by dsimp only; omega) (by with_reducible assumption)).symm); (first | rw [e1] | simp only [e1]) <;> rfl)
    · have q2 : (F5 xs) = false := (Eq.mp (ca5 _) h2); refine rT G _ h2 (wp_seq (l6 G e6 [] fun G => b0 (wp_ret (o8 ?_)))); exact M0 false G (rg 4) (bW8 (by with_reducible assumption))
   · have q1 := bne_iff_ne.1 h1; refine l6 G (J3 (fc h0 (fc h1 fz)) (us [(7, 12, 0), (1013, 1013, 0), (15, 18, 1), (1019, 1019, 1)])) [(26, bA true)] fun G => b0 (rT G true (by kernel_rfl) (wp_seq (l6 G e6 [] fun G => b0 (wp_ret (o8 ?_))))); exact M0 false G (rg 4) (bW9 (by dsimp only; omega))
  · have q0 := bne_iff_ne.1 h0; refine l6 G (J3 (fc h0 (fc (b := true) rfl fz)) (us [(7, 12, 0), (1013, 1013, 0), (15, 18, 1), (1019, 1019, 1)])) [(26, bA true)] fun G => b0 (rT G true (by kernel_rfl) (wp_seq (l6 G e6 [] fun G => b0 (wp_ret (o8 ?_))))); exact M0 false G (rg 4) (bX0 (by dsimp only; omega))
theorem bx4 (xs ys : List (List Int)) : l0.ok Tryz.prog (Z1 38 [.ref 0, .ref 1, .fn 30 []] [dR xs, dR ys] (bA (decide (xs = ys)))) := by
  refine J8 32 Tryz.func38 [dR xs, dR ys] [(0, .ref 0), (1, .ref 1), (2, .fn 30 [])] fun G => ?_; have hl : xs.length ≤ 9223372036854775807 := G.len 0 (d := .rows xs) (by kernel_rfl); refine wp_seq (G9 G e6 [(0, .ref 0), (1, .ref 1), (2, .fn 30 []), (6, bA false)] fun G => b0 (wp_seq (wp_seq (l6 G e6 [(14, bA ((xs.length : Int) != (ys.length : Int)))] fun G => b0 (rcN G (fun h0 q0 => ?_) fun h0 q0 => ?_)))))
  ·
   refine wp_skip (b0 (wp_seq (wp_seq (G9 G e6 [(1, .ref 1), (2, .fn 30 []), (6, bA false), (15, .ref 0), (16, iA (xs.length : Int)), (17, iA 0)] fun G => b0 (wp_block ?_))))); refine x6 (κ := Nat) (fun k => k ≤ xs.length ∧ xs.take k = ys.take k) (fun k => xs.length - k) (fun k => [dR xs, dR ys]) (fun k => [(1, .ref 1), (2, .fn 30 []), (6, bA false), (15, .ref 0), (16, iA (xs.length : Int)), (17, iA k)]) 0 (by simp [h0]) (t7.at G _ _) ?_; clear G; intro k ρ a w hp G; refine wp_seq (l6 G e6 [(18, bA (decide ((k : Int) < xs.length)))] fun G => b0 (wp_seq (rcD G (fun h1 q1 => ?_) fun h1 q1 => ?_)))
   · refine wp_exit (v9 (v9 (v6 (b0 (wp_seq (l6 G e6 [(6, bA true)] fun G => b0 (wp_ret ?_))))))); exact M0 true G [0, 1] (decide_eq_true (aS7 hp.2 (by omega) (by omega)))
   ·
    refine wp_skip (b0 (wp_seq (wp_block (wp_seq (K6 G e6 [0, 1, 18] [dR xs, dR ys, dI (xs.getD k [])] [(1, .ref 1), (2, .fn 30 []), (6, bA false), (7, iA k), (8, .ref 2), (15, .ref 0), (16, iA (xs.length : Int)), (17, iA k)] (iX k k xs.length []) (iK (by omega) b84) fun G => b0 (wp_seq (K6 G e6 [0, 1, 2, 27] [dR xs, dR ys, dI (xs.getD k []), dI (ys.getD k [])] [(1, .ref 1), (2, .fn 30 []), (6, bA false), (8, .ref 2), (9, .ref 3), (15, .ref 0), (16, iA (xs.length : Int)), (17, iA k)] (iX k k ys.length []) (iK (by omega) b84) fun G => b0 (wp_seq (i9 G (v5 3 [2, 3] (aD2 (xs.getD k []) (ys.getD k []))) [0, 1] [dR xs, dR ys] [(1, .ref 1), (2, .fn 30 []), (6, bA false), (15, .ref 0), (16, iA (xs.length : Int)), (17, iA k), (30, .v (.bool !decide (xs.getD k [] = ys.getD k [])))] fun G => b0 ?_))))))))); cases h2 : (!decide (xs.getD k [] = ys.getD k []))
    · have q2 : xs.getD k [] = ys.getD k [] := (fun hq => of_decide_eq_true hq) (Eq.mp (cb4 _) h2); refine rF G _ h2 (wp_skip (i8 (b0 (D0 G e6 [(17, iA ((k : Int) + 1))] [wO ((k : Int) + 1)] (o1 (by omega)) fun G => b0 ?_)))); exact L0 G (k + 1) (⟨by omega, aH1 (z := []) hp.2 (by omega) (by omega) (by with_reducible assumption)⟩) (by omega) [0, 1]
    · have q2 : ¬ (xs.getD k [] = ys.getD k []) := (fun hq => of_decide_eq_false hq) (Eq.mp (ca5 _) h2); refine rT G _ h2 (wp_seq (l6 G e6 [] fun G => b0 (wp_ret (E3 (o8 (o8 (E3 (o8 ?_)))))))); exact M0 false G [0, 1] (by exact decide_eq_false fun e => by subst e; simp at *)
  · refine wp_seq (l6 G e6 [] fun G => b0 (wp_ret (o8 ?_))); exact M0 false G [0, 1] (by exact decide_eq_false fun e => by subst e; simp at *)
theorem aF0 (xs ys : List Int) (rs ts : List (List Int)) : l0.ok Tryz.prog (Z1 13 [mA 0, mA 2] [dI xs, dR rs, dI ys, dR ts] (bA (decide (xs = ys) && decide (rs = ts)))) := by
 refine J8 17 Tryz.func13 [dI xs, dR rs, dI ys, dR ts] [(0, .agg [.ref 0, .ref 1]), (1, .agg [.ref 2, .ref 3])] fun G => ?_; refine wp_seq (i9 G e6 [0, 1, 2, 3, 4, 12] [dI xs, dR rs, dI ys, dR ts, .box [.ref 0, .ref 1], .box [.ref 2, .ref 3]] [(2, .ptr 4 0), (3, .ptr 5 0), (4, bA false)] fun G => b0 (wp_seq ?_)); cases h0 : (decide (xs = ys))
 ·have q0 := Z3 h0; refine i9 G (T4 (F9 4 [0, 2] (aD2 xs ys) T3) (fc h0 fz) (us [(6, 10, 0), (1011, 1011, 0)])) (rg 4) [dI xs, dR rs, dI ys, dR ts] [(4, bA false)] fun G => b0 (wp_ret ?_); exact J9 G (rg 4)
 ·have q0 := Z2 h0; refine i9 G (T4 (F9 4 [0, 2] (aD2 xs ys) (F9 10 [1, 3] (bx4 rs ts) T3)) (fc h0 fz) (us [(6, 10, 0), (1011, 1011, 0)])) (rg 4) [dI xs, dR rs, dI ys, dR ts] [(4, bA (decide (rs = ts)))] fun G => b0 (wp_ret ?_); exact J9 G (rg 4)
abbrev LnS : Type := List Int × List c8
section
variable {ars : List Int} {s : c8} {m pc : Int} {x : LnS}
end
structure Grw (nv na d : Nat) (sz : Nat) (s : LnS) (r : LnS) : Prop where
 lo : s.1.length ≤ r.1.length
 hi : r.1.length ≤ s.1.length + sz
 st : t9 r.2 ≤ t9 s.2 + 40 * sz
 len : s.2.length ≤ r.2.length
section
variable {p : j9} {l k : Int} (h : E0 p = true) (hl : F0 l = true)
include h hl
end
section
variable {p : j9} {l : Int}
end
section
variable {p q : j9} {m : v7}
end
theorem a71 (v : Value) (n : Nat) (t : List Value) (w : World) (h : F8 w v n 1 t) (h1 : ∀ u ∈ t, u.oneCell' = true) (hb : n ≤ 1000000000000) :
  Calls Tryz.prog 108 #[v] w fun e w' => ∃ u, e = .returned u ∧ A6 w' w.heap.size w'.heap.size 23 1 u n t ∧ Below w.heap.size w w' := by
 obtain ⟨a, cap, rfl, hc1, hc2, hc3, -⟩ := h.open
 have hnil := fun w => Lib.run_eql_slice_nil (P := Tryz.prog) w 27 23 a n cap 0 0 Tryz.underlying27
 rcases a with _ | a
 ·have hn : n = 0 := by
   rcases Nat.eq_zero_or_pos n with h0 | h0
   ·exact h0
   ·obtain ⟨_, a, c, he, _, _, hx⟩ := h
    cases he
    obtain ⟨_, _, he, _⟩ := hx h0
    cases he
  subst hn
  have ht : t = [] := b96 (by have := h.1; omega)
  subst ht
  simp only [Option.isNone_none] at hnil
  go_enter Tryz.func108, Tryz.ntmps108
  go_wp2_with fail
  go_ret
  exact ⟨_, rfl, ⟨World.ownsRow_nil _ _ _ _, fun g hg => by cases hg⟩, Below.refl _ _⟩
 ·go_enter Tryz.func108, Tryz.ntmps108
  simp only [Option.isNone_some] at hnil
  have ba := (Below.refl w.heap.size w).alloc (b76 _) (.cells #[] 23)
  go_wp2_with (at_builtin; refine A9 rfl _ _ rfl Tryz.underlying27 bF4 rfl (by omega) rfl (v8 w #[] 0 1 _ rfl rfl (by omega)).1 rfl (h.below ba) h1 (by omega) (by omega) (by simp) ?_; rintro a4 q4 w4 o4 b4 - -)
  go_ret
  refine ⟨_, rfl, A6.mk' (by simpa using o4), ba.trans b4⟩
section
variable {b : List UInt8} {j : Int} {m : v7}
end
structure GrS (sz : Nat) (x r : LnS) : Prop where
 lo : x.1.length ≤ r.1.length
 hi : r.1.length ≤ x.1.length + 4 * sz
 st : t9 r.2 ≤ t9 x.2 + 130 * sz
 len : x.2.length ≤ r.2.length
theorem GrS.refl (x : LnS) (n : Nat) : GrS n x x := ⟨b76 _, by omega, by omega, b76 _⟩
theorem bE9 {e : d8} (h : e.kids = []) : S4 e = 0 := by rw [ax9, h]; rfl
theorem am7 {nv na : Nat} {e : d8} (h : t0 nv na e = true) : S4 e ≤ 14 := by
 unfold t0 at h; simp only [b73, decide_eq_true_eq] at h; omega
theorem av6 {e : d8} (h : noneB e = true) : S4 e = 0 := by
 unfold noneB at h; simp only [b73, decide_eq_true_eq] at h
 exact bE9 (b96 h.2)
theorem ba7 {nv na d : Nat} (ih : ∀ s : c8, m8 nv na d s = true → 1 + szS s ≤ 29 * nS s) : ∀ ss : List c8, ss.all (m8 nv na d) = true → t9 ss ≤ 29 * nSs ss
 | [], _ => b76 _
 | s :: r, h => by
  simp only [List.all_cons, b73] at h
  have h1 := ih s h.1
  have h2 := ba7 ih r h.2
  rw [t9, nSs]; omega
theorem bm9 {nv na : Nat} : ∀ (d : Nat) (s : c8), m8 nv na d s = true → 1 + szS s ≤ 29 * nS s
 | 0, _, h => by simp [m8] at h
 | d + 1, s, h => by
  rw [aj3, b73, b73] at h
  obtain ⟨hh, hb, he⟩ := h
  have h1 := ba7 (fun s => bm9 d s) s.body hb
  have h2 := ba7 (fun s => bm9 d s) s.els he
  have hsz : szS s = S4 s.index + S4 s.value + t9 s.body + t9 s.els := by cases s; rfl
  have hn := aM6 s
  have key : S4 s.index + S4 s.value ≤ 28 := by
   by_cases k4 : s.kind = 4
   ·rw [bV9 k4] at hh; simp only [b73] at hh
    have := av6 hh.2.1; have := av6 hh.2.2; omega
   by_cases k3 : s.kind = 3
   ·rw [bW0 k3] at hh; simp only [b73] at hh
    have := av6 hh.2.1; have := am7 hh.2.2; omega
   by_cases k15 : s.kind = 1 ∨ s.kind = 5
   ·rw [bW2 k15] at hh; simp only [b73] at hh
    have := av6 hh.2.1; have := am7 hh.2.2; omega
   by_cases k2 : s.kind = 2
   ·rw [bW1 k2] at hh; simp only [b73] at hh
    have := am7 hh.2.1; have := am7 hh.2.2.2; omega
   ·rw [aB4 (by omega)] at hh; cases hh
  omega
theorem bm4 {p : j9} (h : E0 p = true) : p.vars.length ≤ 12 ∧ p.arrays.length ≤ 2 ∧ t9 p.body ≤ 1740 := by
 unfold E0 E7 af7 at h
 simp only [b73, decide_eq_true_eq] at h
 have := ba7 (bm9 5) p.body h.1.2
 omega
abbrev lqC (l : List d7) (fr : List Int) (at0 : Int) (s : c8) (d : Int) : l0 := ⟨102, [.agg [.ref 0, .ref 1, iA at0], sA s 2, iA d], [rN l, rI fr] ++ sS s, [.dead, .dead] ++ sS s ++ [rN (P7 s d (l, fr, at0)).1, rI (P7 s d (l, fr, at0)).2.1], .agg [.ref 6, .ref 7, iA (P7 s d (l, fr, at0)).2.2]⟩
abbrev lrC (l : List d7) (fr : List Int) (at0 : Int) (ss : List c8) (d : Int) : l0 := ⟨90, [.agg [.ref 0, .ref 1, iA at0], .ref 2, iA d], [rN l, rI fr, dT ss], [.dead, .dead, dT ss, rN (n7 ss d (l, fr, at0)).1, rI (n7 ss d (l, fr, at0)).2.1], .agg [.ref 3, .ref 4, iA (n7 ss d (l, fr, at0)).2.2]⟩
mutual
theorem bP8 : ∀ (s : c8) (d : Int) (x : H8), x.2.2 ≤ (P7 s d x).2.2 ∧ (P7 s d x).2.2 ≤ x.2.2 + nS s
 | ⟨k, t, i, v, c, b, e⟩, d, x => by
  rw [P7, nS]
  split
  ·have h := af3 b (d + 1) (F7 (x.1, x.2.1, x.2.2 + 1) x.2.2 [⟨1, 9 + d, c, 0, 0⟩])
   simp only [F7] at h ⊢
   omega
  ·split
   ·simp only [F7]; omega
   ·split
    ·simp only [F7]; omega
    ·split
     ·simp only [F7]; omega
     ·simp only
      generalize hy : F7 (x.1, x.2.1, x.2.2 + 1) x.2.2 (c6 v 0) = y
      have hy1 : y.2.2 = x.2.2 + 1 := by rw [← hy]; rfl
      have h1 := af3 b (d + 1) (F7 y x.2.2 [⟨9, 0, 0, 0, 0⟩])
      generalize n7 b (d + 1) (F7 y x.2.2 [⟨9, 0, 0, 0, 0⟩]) = z at h1 ⊢
      have h2 := af3 e (d + 1) (bq7 (F7 z x.2.2 [⟨8, 0, 0, 0, 0⟩]).1 y.1.length ((F7 z x.2.2 [⟨8, 0, 0, 0, 0⟩]).1.length : Int), (F7 z x.2.2 [⟨8, 0, 0, 0, 0⟩]).2)
      simp only [F7] at h1 h2 ⊢
      omega
theorem af3 : ∀ (ss : List c8) (d : Int) (x : H8), x.2.2 ≤ (n7 ss d x).2.2 ∧ (n7 ss d x).2.2 ≤ x.2.2 + nSs ss
 | [], _, x => by simp [n7, nSs]
 | s :: r, d, x => by
  have h1 := bP8 s d x
  have h2 := af3 r d (P7 s d x)
  rw [n7, nSs]
  omega
end
section
variable {l : List d7} {fr : List Int} {at0 d : Int} {s : c8}
theorem cm1 (k : s.kind = 1) : P7 s d (l, fr, at0) = (l ++ c6 s.value 0 ++ [⟨3, s.target, 0, 0, 0⟩], fr ++ b70 (c6 s.value 0).length at0 ++ [at0], at0 + 1) := by
 obtain ⟨kd, tg, ix, vl, ct, bd, el⟩ := s
 have k : kd = 1 := k
 rw [P7]
 simp only [k, Int.reduceEq, if_true, if_false]
 rfl
theorem cm5 (k : s.kind = 5) : P7 s d (l, fr, at0) = (l ++ c6 s.value 0 ++ [⟨11, 0, 0, 0, 0⟩] ++ [⟨3, s.target, 0, 0, 0⟩], fr ++ b70 (c6 s.value 0).length at0 ++ [at0] ++ [at0], at0 + 1) := by
 obtain ⟨kd, tg, ix, vl, ct, bd, el⟩ := s
 have k : kd = 5 := k
 rw [P7]
 simp only [k, Int.reduceEq, if_true, if_false]
 rfl
theorem cm2 (k : s.kind = 2) : P7 s d (l, fr, at0) = (l ++ c6 s.value 0 ++ c6 s.index 1 ++ [⟨5, s.target, 1, 0, 0⟩], fr ++ b70 (c6 s.value 0).length at0 ++ b70 (c6 s.index 1).length at0 ++ [at0], at0 + 1) := by
 obtain ⟨kd, tg, ix, vl, ct, bd, el⟩ := s
 have k : kd = 2 := k
 rw [P7]
 simp only [k, Int.reduceEq, if_true, if_false]
 rfl
theorem cm4 (k : s.kind = 4) : P7 s d (l, fr, at0) = ((n7 s.body (d + 1) (l ++ [⟨1, 9 + d, s.count, 0, 0⟩], fr ++ [at0], at0 + 1)).1 ++ [⟨10, 9 + d, (((l ++ [(⟨1, 9 + d, s.count, 0, 0⟩ : d7)]).length : Nat) : Int), 0, 0⟩], (n7 s.body (d + 1) (l ++ [⟨1, 9 + d, s.count, 0, 0⟩], fr ++ [at0], at0 + 1)).2.1 ++ [at0], (n7 s.body (d + 1) (l ++ [⟨1, 9 + d, s.count, 0, 0⟩], fr ++ [at0], at0 + 1)).2.2) := by
 obtain ⟨kd, tg, ix, vl, ct, bd, el⟩ := s
 have k : kd = 4 := k
 rw [P7]
 simp only [k, if_true, b74, b79, b85]
 rfl
abbrev w3C (l : List d7) (fr : List Int) (at0 d : Int) (s : c8) : H8 := n7 s.body (d + 1) (l ++ c6 s.value 0 ++ [⟨9, 0, 0, 0, 0⟩], fr ++ b70 (c6 s.value 0).length at0 ++ [at0], at0 + 1)
abbrev w6C (l : List d7) (fr : List Int) (at0 d : Int) (s : c8) : H8 := n7 s.els (d + 1) (bq7 ((w3C l fr at0 d s).1 ++ [⟨8, 0, 0, 0, 0⟩]) (l ++ c6 s.value 0).length ((((w3C l fr at0 d s).1 ++ [(⟨8, 0, 0, 0, 0⟩ : d7)]).length : Nat) : Int), (w3C l fr at0 d s).2.1 ++ [at0], (w3C l fr at0 d s).2.2)
theorem cm3 (k : s.kind = 3) : P7 s d (l, fr, at0) = (bM6 (w6C l fr at0 d s).1 (w3C l fr at0 d s).1.length (((w6C l fr at0 d s).1.length : Nat) : Int), (w6C l fr at0 d s).2.1, (w6C l fr at0 d s).2.2) := by
 obtain ⟨kd, tg, ix, vl, ct, bd, el⟩ := s
 have k : kd = 3 := k
 rw [P7]
 simp only [k, Int.reduceEq, if_false, F7, b74, b79, b85, Nat.add_sub_cancel, cb2, List.replicate_one, w6C, w3C]
 rfl
theorem af2 (ss : List c8) (d : Int) (x : H8) : (n7 ss d x).1.length = x.1.length + aE9 ss := (K4 ss d x).1
theorem bW5 (h : l.length + (4 + 4 * szS s) ≤ 5000000) : l.length + S4 s.value ≤ 5000000 ∧ (0 : Int) + S4 s.value ≤ 2000000 ∧ (l ++ c6 s.value 0).length + S4 s.index ≤ 5000000 ∧ (1 : Int) + S4 s.index ≤ 2000000 ∧ (l ++ c6 s.value 0 ++ c6 s.index 1).length + 4 ≤ 5000010 := by
 have h1 := U2 s.value 0
 have h2 := U2 s.index 1
 have h3 : szS s = S4 s.index + S4 s.value + t9 s.body + t9 s.els := by cases s; rfl
 simp only [b74]
 omega
end
abbrev N8 (s : c8) (l : List d7) (fr : List Int) (at0 : Int) (d : Int) := n7 s.els (d + 1) (((n7 s.body (d + 1) (l ++ c6 s.value 0 ++ [d7.mk 9 0 0 0 0], fr ++ b70 (c6 s.value 0).length at0 ++ [at0], at0 + 1)).fst ++ [d7.mk 8 0 0 0 0]).set (l ++ c6 s.value 0).length (d7.mk (((n7 s.body (d + 1) (l ++ c6 s.value 0 ++ [d7.mk 9 0 0 0 0], fr ++ b70 (c6 s.value 0).length at0 ++ [at0], at0 + 1)).fst ++ [d7.mk 8 0 0 0 0]).getD (l ++ c6 s.value 0).length b71).op (((n7 s.body (d + 1) (l ++ c6 s.value 0 ++ [d7.mk 9 0 0 0 0], fr ++ b70 (c6 s.value 0).length at0 ++ [at0], at0 + 1)).fst ++ [d7.mk 8 0 0 0 0]).getD (l ++ c6 s.value 0).length b71).a (((n7 s.body (d + 1) (l ++ c6 s.value 0 ++ [d7.mk 9 0 0 0 0], fr ++ b70 (c6 s.value 0).length at0 ++ [at0], at0 + 1)).fst ++ [d7.mk 8 0 0 0 0]).length : Int) (((n7 s.body (d + 1) (l ++ c6 s.value 0 ++ [d7.mk 9 0 0 0 0], fr ++ b70 (c6 s.value 0).length at0 ++ [at0], at0 + 1)).fst ++ [d7.mk 8 0 0 0 0]).getD (l ++ c6 s.value 0).length b71).c (((n7 s.body (d + 1) (l ++ c6 s.value 0 ++ [d7.mk 9 0 0 0 0], fr ++ b70 (c6 s.value 0).length at0 ++ [at0], at0 + 1)).fst ++ [d7.mk 8 0 0 0 0]).getD (l ++ c6 s.value 0).length b71).d), (n7 s.body (d + 1) (l ++ c6 s.value 0 ++ [d7.mk 9 0 0 0 0], fr ++ b70 (c6 s.value 0).length at0 ++ [at0], at0 + 1)).snd.fst ++ [at0], (n7 s.body (d + 1) (l ++ c6 s.value 0 ++ [d7.mk 9 0 0 0 0], fr ++ b70 (c6 s.value 0).length at0 ++ [at0], at0 + 1)).snd.snd)
abbrev D3 (s : c8) (l : List d7) (fr : List Int) (at0 : Int) (d : Int) := n7 s.body (d + 1) (l ++ c6 s.value 0 ++ [d7.mk 9 0 0 0 0], fr ++ b70 (c6 s.value 0).length at0 ++ [at0], at0 + 1)
abbrev ao6 (s : c8) (l : List d7) (fr : List Int) (at0 : Int) (d : Int) := n7 s.body (d + 1) (l ++ c6 s.value 0 ++ [d7.mk 1 (9 + d) s.count 0 0], fr ++ b70 (c6 s.value 0).length at0 ++ [at0], at0 + 1)
abbrev ad4 (s : c8) (l : List d7) (fr : List Int) (at0 : Int) (d : Int) := n7 s.body (d + 1) (l ++ [d7.mk 1 (9 + d) s.count 0 0], fr ++ [at0], at0 + 1)
abbrev R9 (s : c8) (l : List d7) (fr : List Int) (at0 : Int) (d : Int) : List It := [.dead, .dead, dE s.index.kids, dE s.value.kids, dT s.body, dT s.els, .row 60 (D.instrs (P7 s d (l, fr, at0)).fst), .row 3 (D.ints (P7 s d (l, fr, at0)).snd.fst)]
abbrev bl9 (s : c8) (l : List d7) (fr : List Int) (at0 : Int) (d : Int) : It := .row 60 (D.instrs ((N8 s l fr at0 d).fst.set (D3 s l fr at0 d).fst.length (d7.mk ((N8 s l fr at0 d).fst.getD (D3 s l fr at0 d).fst.length b71).op ((N8 s l fr at0 d).fst.length : Int) ((N8 s l fr at0 d).fst.getD (D3 s l fr at0 d).fst.length b71).b ((N8 s l fr at0 d).fst.getD (D3 s l fr at0 d).fst.length b71).c ((N8 s l fr at0 d).fst.getD (D3 s l fr at0 d).fst.length b71).d)))
abbrev L8 : It := .box [.v (.slice none 0 0), .v (.slice none 0 0), iA 0]
abbrev aa6 (at0 : Int) : It := .box [.ref 9, .ref 10, iA (at0 + 1)]
abbrev aK5 (s : c8) (fr : List Int) (at0 : Int) : It := .row 3 (D.ints (fr ++ b70 (c6 s.value 0).length at0 ++ [at0]))
abbrev G8 (s : c8) (r0 : List It) : List It := .dead :: .dead :: dE s.index.kids :: dE s.value.kids :: dT s.body :: dT s.els :: r0
abbrev F4 (at0 : Int) (d : Int) (r0 : List (Nat × AV)) : List (Nat × AV) := (2, iA d) :: (3, .ptr 6 0) :: (4, .ptr 7 0) :: (6, .ptr 8 0) :: (7, iA at0) :: r0
theorem aT7 (nv na dd : Nat) (s : c8) (hh : V9 nv na s = true) (hbb : s.body.all (m8 nv na dd) = true) (hbe : s.els.all (m8 nv na dd) = true)
    (ih : ∀ (tt : List c8) (l : List d7) (fr : List Int) (at0 d : Int), tt.all (m8 nv na dd) = true → l.length + 4 * t9 tt ≤ 5000000 → fr.length = l.length → 0 ≤ d → d + dd ≤ 100 → 0 ≤ at0 → at0 + nSs tt ≤ 5000000 → l0.ok Tryz.prog (lrC l fr at0 tt d))
    (l : List d7) (fr : List Int) (at0 d : Int) (r1 : l.length + (4 + 4 * szS s) ≤ 5000000) (r2 : fr.length = l.length) (r3 : 0 ≤ d) (r4 : d + (dd + 1) ≤ 100) (r5 : 0 ≤ at0) (r6 : at0 + nS s ≤ 5000000) : l0.ok Tryz.prog (lqC l fr at0 s d) := by
  refine J8 130 Tryz.func102 [.row 60 (D.instrs l), .row 3 (D.ints fr), dE s.index.kids, dE s.value.kids, dT s.body, dT s.els] [(0, .agg [.ref 0, .ref 1, iA at0]), (1, sA s 2), (2, iA d)] fun G => ?_; have hn := aM6 s; have hft := bW5 r1
  have hsz : szS s = S4 s.index + S4 s.value + t9 s.body + t9 s.els := by cases s; rfl
  have hv := U2 s.value 0; refine wp_seq (i9 G e6 [0, 1, 2, 3, 4, 5, 6, 14, 22] [.row 60 (D.instrs l), .row 3 (D.ints fr), dE s.index.kids, dE s.value.kids, dT s.body, dT s.els, .box [.ref 0, .ref 1, iA at0], .box (sL s 2), L8] [(2, iA d), (3, .ptr 6 0), (4, .ptr 7 0), (6, .ptr 8 0)] fun G => b0 (wp_seq (l6 G e6 [(7, iA at0)] fun G => b0 (wp_seq (K6 G e6 (rg 9) [.row 60 (D.instrs l), .row 3 (D.ints fr), dE s.index.kids, dE s.value.kids, dT s.body, dT s.els, .box [.ref 0, .ref 1, iA (at0 + 1)], .box (sL s 2), L8] (F4 at0 d []) [wO (at0 + 1)] (o1 (by omega)) fun G => b0 (wp_seq (wp_seq (l6 G e6 [(20, bA (s.kind != 4))] fun G => b0 (rcN G (fun h0 q0 => ?_) fun h0 q0 => ?_)))))))))
  ·
   refine wp_skip (b0 (wp_seq (wp_seq (l6 G e6 [(27, iA s.kind)] fun G => b0 (wp_block (wp_seq (G9 G e6 (F4 at0 d [(27, iA s.kind), (28, bA (s.kind == 1))]) fun G => b0 ?_))))))); cases h1 : (s.kind == 1)
   ·
    have q1 := ne_of_beq_false h1; refine rF G _ h1 (wp_seq (G9 G e6 (F4 at0 d [(27, iA s.kind), (36, bA (s.kind == 5))]) fun G => b0 ?_)); cases h2 : (s.kind == 5)
    ·
     have q2 := ne_of_beq_false h2; refine rF G _ h2 (wp_seq (G9 G e6 (F4 at0 d [(27, iA s.kind), (48, bA (s.kind == 2))]) fun G => b0 ?_)); cases h3 : (s.kind == 2)
     ·
      have q3 := ne_of_beq_false h3; refine rF G _ h3 (wp_seq (G9 G e6 (F4 at0 d [(61, bA (s.kind == 3))]) fun G => b0 ?_)); cases h4 : (s.kind == 3)
      · have q4 := ne_of_beq_false h4; refine rF G _ h4 (wp_skip (i8 (b0 (wp_seq (D0 G e6 [(10, iA (9 + d))] [wO ((9 : Int) + d)] (o1 (by omega)) fun G => b0 (wp_seq (i9 G (v5 6 [0, 1] (F3 l fr (at0 + 1) at0 1 (9 + d) s.count 0 0 (by omega) (by omega))) [0, 1, 2, 3, 4, 5, 6, 7, 8, 57, 58] (G8 s [aa6 at0, .box (sL s 2), L8, .row 60 (D.instrs (l ++ [d7.mk 1 (9 + d) s.count 0 0])), .row 3 (D.ints (fr ++ [at0]))]) (F4 at0 d [(10, iA (9 + d))]) fun G => b0 (wp_seq (l6 G e6 [(11, iA ((l ++ [d7.mk 1 (9 + d) s.count 0 0]).length : Int))] fun G => b0 (wp_seq (K6 G (v5 5 [9, 10, 4] (ih s.body (l ++ [d7.mk 1 (9 + d) s.count 0 0]) (fr ++ [at0]) (at0 + 1) (d + 1) (by assumption) (by simp only [b74, b90, b79, b85, r2]; have := hft.2.2.2.2; simp only [b74] at this; omega) (by have := hft.2.2.2.2; simp only [b74, b79, b85] at this ⊢; omega) (by omega) (by omega) (by omega) (by omega))) [0, 1, 2, 3, 4, 5, 6, 8, 51, 52] (G8 s [.box [.ref 8, .ref 9, iA (ad4 s l fr at0 d).snd.snd], L8, .row 60 (D.instrs (ad4 s l fr at0 d).fst), .row 3 (D.ints (ad4 s l fr at0 d).snd.fst)]) [(3, .ptr 6 0), (6, .ptr 7 0), (7, iA at0), (10, iA (9 + d)), (11, iA ((l ++ [d7.mk 1 (9 + d) s.count 0 0]).length : Int))] [wO (d + 1)] (o1 (by omega)) fun G => b0 (wp_seq (i9 G (v5 5 [8, 9] (F3 ((n7 s.body (d + 1) (l ++ [d7.mk 1 (9 + d) s.count 0 0], fr ++ [at0], at0 + 1)).fst) ((n7 s.body (d + 1) (l ++ [d7.mk 1 (9 + d) s.count 0 0], fr ++ [at0], at0 + 1)).snd.fst) ((n7 s.body (d + 1) (l ++ [d7.mk 1 (9 + d) s.count 0 0], fr ++ [at0], at0 + 1)).snd.snd) at0 10 (9 + d) (((l ++ [d7.mk 1 (9 + d) s.count 0 0]).length : Int)) 0 0 (by have := (K4 s.body (d + 1) (l ++ [⟨1, 9 + d, s.count, 0, 0⟩], fr ++ [at0], at0 + 1)); have := O4 s.body; simp only [b74, b79, b85] at *; omega) (by have := (K4 s.body (d + 1) (l ++ [⟨1, 9 + d, s.count, 0, 0⟩], fr ++ [at0], at0 + 1)); have := O4 s.body; simp only [b74, b79, b85] at *; omega))) [0, 1, 2, 3, 4, 5, 7, 50, 51] (G8 s [.box [.ref 7, .ref 8, iA (ad4 s l fr at0 d).snd.snd], .row 60 (D.instrs ((ad4 s l fr at0 d).fst ++ [d7.mk 10 (9 + d) ((l ++ [d7.mk 1 (9 + d) s.count 0 0]).length : Int) 0 0])), .row 3 (D.ints ((ad4 s l fr at0 d).snd.fst ++ [at0]))]) [(6, .ptr 6 0)] fun G => b0 (wp_ret ?_)))))))))))))); exact rxv (.agg [.ref 7, .ref 8, iA (n7 s.body (d + 1) (l ++ [d7.mk 1 (9 + d) s.count 0 0], fr ++ [at0], at0 + 1)).snd.snd]) G [0, 1, 2, 3, 4, 5, 7, 8] (by have e1 : ((P7 s d (l, fr, at0)).snd.snd : Int) = ((n7 s.body (d + 1) (l ++ [d7.mk 1 (9 + d) s.count 0 0], fr ++ [at0], at0 + 1)).snd.snd) := (by have h9 := congrArg (fun x : H8 => x.2.2) (cm4 (l := l) (fr := fr) (at0 := at0) (d := d) (s := s) (by omega)); exact h9); (first | rw [e1] | simp only [e1]) <;> rfl) (by show _ = mR [0, 1, 2, 3, 4, 5, 7, 8] (R9 s l fr at0 d); unfold R9; have e1 : ((P7 s d (l, fr, at0)).fst : List d7) = ((ad4 s l fr at0 d).fst ++ [d7.mk 10 (9 + d) ((l ++ [d7.mk 1 (9 + d) s.count 0 0]).length : Int) 0 0]) := (congrArg Prod.fst (cm4 (by omega))); have e2 : ((P7 s d (l, fr, at0)).snd.fst : List Int) = ((ad4 s l fr at0 d).snd.fst ++ [at0]) := (congrArg (fun x : H8 => x.2.1) (cm4 (by omega))); (first | rw [e1, e2] | simp only [e1, e2]) <;> rfl)
      · have q4 := eq_of_beq h4; exact False.elim (by omega)
     · have q3 := eq_of_beq h3; exact False.elim (by omega)
    · have q2 := eq_of_beq h2; exact False.elim (by omega)
   · have q1 := eq_of_beq h1; exact False.elim (by omega)
  ·
   refine i9 G (v5 4 [0, 1, 3] (aZ0 s.value l fr (at0 + 1) at0 0 (by omega) (by omega) (by omega) (by assumption))) [0, 1, 2, 3, 4, 5, 6, 7, 8, 41, 42] (G8 s [aa6 at0, .box (sL s 2), L8, .row 60 (D.instrs (l ++ c6 s.value 0)), .row 3 (D.ints (fr ++ b70 (c6 s.value 0).length at0))]) (F4 at0 d []) fun G => b0 (wp_seq (wp_seq (l6 G e6 [(27, iA s.kind)] fun G => b0 (wp_block (wp_seq (l6 G e6 [(28, bA (s.kind == 1))] fun G => b0 (P0 G (fun h5 q5 => ?_) fun h5 q5 => ?_)))))))
   ·
    refine wp_seq (l6 G e6 [(36, bA (s.kind == 5))] fun G => b0 (P0 G (fun h6 q6 => ?_) fun h6 q6 => ?_))
    ·
     refine wp_seq (l6 G e6 [(48, bA (s.kind == 2))] fun G => b0 (P0 G (fun h7 q7 => ?_) fun h7 q7 => ?_))
     ·
      refine wp_seq (l6 G e6 [(61, bA (s.kind == 3))] fun G => b0 (P0 G (fun h8 q8 => ?_) fun h8 q8 => ?_))
      · refine wp_skip (i8 (b0 (wp_seq (D0 G e6 [(10, iA (9 + d))] [wO ((9 : Int) + d)] (o1 (by omega)) fun G => b0 (wp_seq (i9 G (v5 6 [9, 10] (F3 (l ++ c6 s.value 0) (fr ++ b70 (c6 s.value 0).length at0) (at0 + 1) at0 1 (9 + d) s.count 0 0 (by omega) (by simp only [b74, b90, b79, b85, r2]; have := hft.2.2.2.2; simp only [b74] at this; omega))) [0, 1, 2, 3, 4, 5, 6, 7, 8, 59, 60] (G8 s [aa6 at0, .box (sL s 2), L8, .row 60 (D.instrs (l ++ c6 s.value 0 ++ [d7.mk 1 (9 + d) s.count 0 0])), aK5 s fr at0]) (F4 at0 d [(10, iA (9 + d))]) fun G => b0 (wp_seq (l6 G e6 [(11, iA ((l ++ c6 s.value 0 ++ [d7.mk 1 (9 + d) s.count 0 0]).length : Int))] fun G => b0 (wp_seq (K6 G (v5 5 [9, 10, 4] (ih s.body (l ++ c6 s.value 0 ++ [d7.mk 1 (9 + d) s.count 0 0]) (fr ++ b70 (c6 s.value 0).length at0 ++ [at0]) (at0 + 1) (d + 1) (by assumption) (by simp only [b74, b90, b79, b85, r2]; have := hft.2.2.2.2; simp only [b74] at this; omega) (by exact absurd (hh.symm.trans (aB4 (by omega))) (by decide)) (by omega) (by omega) (by omega) (by omega))) [0, 1, 2, 3, 4, 5, 6, 8, 51, 52] (G8 s [.box [.ref 8, .ref 9, iA (ao6 s l fr at0 d).snd.snd], L8, .row 60 (D.instrs (ao6 s l fr at0 d).fst), .row 3 (D.ints (ao6 s l fr at0 d).snd.fst)]) [(3, .ptr 6 0), (6, .ptr 7 0), (7, iA at0), (10, iA (9 + d)), (11, iA ((l ++ c6 s.value 0 ++ [d7.mk 1 (9 + d) s.count 0 0]).length : Int))] [wO (d + 1)] (o1 (by omega)) fun G => b0 (wp_seq (i9 G (v5 5 [8, 9] (F3 ((n7 s.body (d + 1) (l ++ c6 s.value 0 ++ [d7.mk 1 (9 + d) s.count 0 0], fr ++ b70 (c6 s.value 0).length at0 ++ [at0], at0 + 1)).fst) ((n7 s.body (d + 1) (l ++ c6 s.value 0 ++ [d7.mk 1 (9 + d) s.count 0 0], fr ++ b70 (c6 s.value 0).length at0 ++ [at0], at0 + 1)).snd.fst) ((n7 s.body (d + 1) (l ++ c6 s.value 0 ++ [d7.mk 1 (9 + d) s.count 0 0], fr ++ b70 (c6 s.value 0).length at0 ++ [at0], at0 + 1)).snd.snd) at0 10 (9 + d) (((l ++ c6 s.value 0 ++ [d7.mk 1 (9 + d) s.count 0 0]).length : Int)) 0 0 (by exact absurd (hh.symm.trans (aB4 (by omega))) (by decide)) (by exact absurd (hh.symm.trans (aB4 (by omega))) (by decide)))) [0, 1, 2, 3, 4, 5, 7, 50, 51] (G8 s [.box [.ref 7, .ref 8, iA (ao6 s l fr at0 d).snd.snd], .row 60 (D.instrs ((ao6 s l fr at0 d).fst ++ [d7.mk 10 (9 + d) ((l ++ c6 s.value 0 ++ [d7.mk 1 (9 + d) s.count 0 0]).length : Int) 0 0])), .row 3 (D.ints ((ao6 s l fr at0 d).snd.fst ++ [at0]))]) [(6, .ptr 6 0)] fun G => b0 (wp_ret ?_))))))))))))); exact rxv (.agg [.ref 7, .ref 8, iA (n7 s.body (d + 1) (l ++ c6 s.value 0 ++ [d7.mk 1 (9 + d) s.count 0 0], fr ++ b70 (c6 s.value 0).length at0 ++ [at0], at0 + 1)).snd.snd]) G [0, 1, 2, 3, 4, 5, 7, 8] (by have e1 : ((P7 s d (l, fr, at0)).snd.snd : Int) = ((n7 s.body (d + 1) (l ++ c6 s.value 0 ++ [d7.mk 1 (9 + d) s.count 0 0], fr ++ b70 (c6 s.value 0).length at0 ++ [at0], at0 + 1)).snd.snd) := (by exact absurd (hh.symm.trans (aB4 (by omega))) (by decide)); (first | rw [e1] | simp only [e1]) <;> rfl) (by show _ = mR [0, 1, 2, 3, 4, 5, 7, 8] (R9 s l fr at0 d); unfold R9; have e1 : ((P7 s d (l, fr, at0)).fst : List d7) = ((n7 s.body (d + 1) (l ++ c6 s.value 0 ++ [d7.mk 1 (9 + d) s.count 0 0], fr ++ b70 (c6 s.value 0).length at0 ++ [at0], at0 + 1)).fst ++ [d7.mk 10 (9 + d) ((l ++ c6 s.value 0 ++ [d7.mk 1 (9 + d) s.count 0 0]).length : Int) 0 0]) := (by exact absurd (hh.symm.trans (aB4 (by omega))) (by decide)); have e2 : ((P7 s d (l, fr, at0)).snd.fst : List Int) = ((n7 s.body (d + 1) (l ++ c6 s.value 0 ++ [d7.mk 1 (9 + d) s.count 0 0], fr ++ b70 (c6 s.value 0).length at0 ++ [at0], at0 + 1)).snd.fst ++ [at0]) := (by exact absurd (hh.symm.trans (aB4 (by omega))) (by decide)); (first | rw [e1, e2] | simp only [e1, e2]) <;> rfl)
      ·
       refine wp_seq (l6 G e6 [(8, iA ((l ++ c6 s.value 0).length : Int))] fun G => b0 (wp_seq (i9 G (v5 3 [9, 10] (F3 (l ++ c6 s.value 0) (fr ++ b70 (c6 s.value 0).length at0) (at0 + 1) at0 9 0 0 0 0 (by omega) (by simp only [b74, b90, b79, b85, r2]; have := hft.2.2.2.2; simp only [b74] at this; omega))) [0, 1, 2, 3, 4, 5, 6, 7, 8, 35, 36] (G8 s [aa6 at0, .box (sL s 2), L8, .row 60 (D.instrs (l ++ c6 s.value 0 ++ [d7.mk 9 0 0 0 0])), aK5 s fr at0]) (F4 at0 d [(8, iA ((l ++ c6 s.value 0).length : Int))]) fun G => b0 (wp_seq (K6 G (v5 5 [9, 10, 4] (ih s.body (l ++ c6 s.value 0 ++ [d7.mk 9 0 0 0 0]) (fr ++ b70 (c6 s.value 0).length at0 ++ [at0]) (at0 + 1) (d + 1) (by assumption) (by simp only [b74, b90, b79, b85, r2]; have := hft.2.2.2.2; simp only [b74] at this; omega) (by simp; omega) (by omega) (by omega) (by omega) (by omega))) [0, 1, 2, 3, 4, 5, 6, 7, 8, 51, 52] (G8 s [.box [.ref 9, .ref 10, iA (D3 s l fr at0 d).snd.snd], .box (sL s 2), L8, .row 60 (D.instrs (D3 s l fr at0 d).fst), .row 3 (D.ints (D3 s l fr at0 d).snd.fst)]) (F4 at0 d [(8, iA ((l ++ c6 s.value 0).length : Int))]) [wO (d + 1)] (o1 (by omega)) fun G => b0 (wp_seq (l6 G e6 [(9, iA ((D3 s l fr at0 d).fst.length : Int))] fun G => b0 (wp_seq (i9 G (v5 3 [9, 10] (F3 ((n7 s.body (d + 1) (l ++ c6 s.value 0 ++ [d7.mk 9 0 0 0 0], fr ++ b70 (c6 s.value 0).length at0 ++ [at0], at0 + 1)).fst) ((n7 s.body (d + 1) (l ++ c6 s.value 0 ++ [d7.mk 9 0 0 0 0], fr ++ b70 (c6 s.value 0).length at0 ++ [at0], at0 + 1)).snd.fst) ((n7 s.body (d + 1) (l ++ c6 s.value 0 ++ [d7.mk 9 0 0 0 0], fr ++ b70 (c6 s.value 0).length at0 ++ [at0], at0 + 1)).snd.snd) at0 8 0 0 0 0 (by have h9 := K4 s.body (d + 1) (l ++ c6 s.value 0 ++ [⟨9, 0, 0, 0, 0⟩], fr ++ b70 (c6 s.value 0).length at0 ++ [at0], at0 + 1); have h8 := O4 s.body; simp only [b74, b79, b85, b90, b95, r2] at h9 ⊢; omega) (by have h9 := K4 s.body (d + 1) (l ++ c6 s.value 0 ++ [⟨9, 0, 0, 0, 0⟩], fr ++ b70 (c6 s.value 0).length at0 ++ [at0], at0 + 1); have h8 := O4 s.body; simp only [b74, b79, b85, b90, b95, r2] at h9 ⊢; omega))) [0, 1, 2, 3, 4, 5, 6, 7, 8, 35, 36] (G8 s [.box [.ref 9, .ref 10, iA (D3 s l fr at0 d).snd.snd], .box (sL s 2), L8, .row 60 (D.instrs ((D3 s l fr at0 d).fst ++ [d7.mk 8 0 0 0 0])), .row 3 (D.ints ((D3 s l fr at0 d).snd.fst ++ [at0]))]) (F4 at0 d [(8, iA ((l ++ c6 s.value 0).length : Int)), (9, iA ((D3 s l fr at0 d).fst.length : Int))]) fun G => b0 (wp_seq (K6 G e6 (rg 11) (G8 s [.box [.ref 9, .ref 10, iA (D3 s l fr at0 d).snd.snd], .box (sL s 2), L8, .row 60 (D.instrs (((D3 s l fr at0 d).fst ++ [d7.mk 8 0 0 0 0]).set (l ++ c6 s.value 0).length (d7.mk (((D3 s l fr at0 d).fst ++ [d7.mk 8 0 0 0 0]).getD (l ++ c6 s.value 0).length b71).op (((D3 s l fr at0 d).fst ++ [d7.mk 8 0 0 0 0]).getD (l ++ c6 s.value 0).length b71).a (((D3 s l fr at0 d).fst ++ [d7.mk 8 0 0 0 0]).length : Int) (((D3 s l fr at0 d).fst ++ [d7.mk 8 0 0 0 0]).getD (l ++ c6 s.value 0).length b71).c (((D3 s l fr at0 d).fst ++ [d7.mk 8 0 0 0 0]).getD (l ++ c6 s.value 0).length b71).d))), .row 3 (D.ints ((D3 s l fr at0 d).snd.fst ++ [at0]))]) (F4 at0 d [(9, iA ((D3 s l fr at0 d).fst.length : Int))]) [(0 : Int) ≤ ((l ++ c6 s.value (0 : Int)).length : Int), ((l ++ c6 s.value (0 : Int)).length : Int) < (((n7 s.body (d + 1) (l ++ c6 s.value (0 : Int) ++ [d7.mk (9 : Int) (0 : Int) (0 : Int) (0 : Int) (0 : Int)], fr ++ b70 (c6 s.value (0 : Int)).length at0 ++ [at0], at0 + 1)).fst ++ [d7.mk (8 : Int) (0 : Int) (0 : Int) (0 : Int) (0 : Int)]).length : Int), (l ++ c6 s.value (0 : Int)).length < ((n7 s.body (d + 1) (l ++ c6 s.value (0 : Int) ++ [d7.mk (9 : Int) (0 : Int) (0 : Int) (0 : Int) (0 : Int)], fr ++ b70 (c6 s.value (0 : Int)).length at0 ++ [at0], at0 + 1)).fst ++ [d7.mk (8 : Int) (0 : Int) (0 : Int) (0 : Int) (0 : Int)]).length] ⟨(by omega), (by simp only [af2, b95, b74, b79, b85]; omega), (by simp only [af2, b95, b74, b79, b85]; omega), b84⟩ fun G => ?_)))))))))))
       refine b0 (wp_seq (K6 G (v5 5 [9, 10, 5] (ih s.els (((n7 s.body (d + 1) (l ++ c6 s.value 0 ++ [d7.mk 9 0 0 0 0], fr ++ b70 (c6 s.value 0).length at0 ++ [at0], at0 + 1)).fst ++ [d7.mk 8 0 0 0 0]).set (l ++ c6 s.value 0).length (d7.mk (((n7 s.body (d + 1) (l ++ c6 s.value 0 ++ [d7.mk 9 0 0 0 0], fr ++ b70 (c6 s.value 0).length at0 ++ [at0], at0 + 1)).fst ++ [d7.mk 8 0 0 0 0]).getD (l ++ c6 s.value 0).length b71).op (((n7 s.body (d + 1) (l ++ c6 s.value 0 ++ [d7.mk 9 0 0 0 0], fr ++ b70 (c6 s.value 0).length at0 ++ [at0], at0 + 1)).fst ++ [d7.mk 8 0 0 0 0]).getD (l ++ c6 s.value 0).length b71).a (((n7 s.body (d + 1) (l ++ c6 s.value 0 ++ [d7.mk 9 0 0 0 0], fr ++ b70 (c6 s.value 0).length at0 ++ [at0], at0 + 1)).fst ++ [d7.mk 8 0 0 0 0]).length : Int) (((n7 s.body (d + 1) (l ++ c6 s.value 0 ++ [d7.mk 9 0 0 0 0], fr ++ b70 (c6 s.value 0).length at0 ++ [at0], at0 + 1)).fst ++ [d7.mk 8 0 0 0 0]).getD (l ++ c6 s.value 0).length b71).c (((n7 s.body (d + 1) (l ++ c6 s.value 0 ++ [d7.mk 9 0 0 0 0], fr ++ b70 (c6 s.value 0).length at0 ++ [at0], at0 + 1)).fst ++ [d7.mk 8 0 0 0 0]).getD (l ++ c6 s.value 0).length b71).d)) ((n7 s.body (d + 1) (l ++ c6 s.value 0 ++ [d7.mk 9 0 0 0 0], fr ++ b70 (c6 s.value 0).length at0 ++ [at0], at0 + 1)).snd.fst ++ [at0]) ((n7 s.body (d + 1) (l ++ c6 s.value 0 ++ [d7.mk 9 0 0 0 0], fr ++ b70 (c6 s.value 0).length at0 ++ [at0], at0 + 1)).snd.snd) (d + 1) (by assumption) (by have h9 := K4 s.body (d + 1) (l ++ c6 s.value 0 ++ [⟨9, 0, 0, 0, 0⟩], fr ++ b70 (c6 s.value 0).length at0 ++ [at0], at0 + 1); have h8 := O4 s.body; simp only [b74, b79, b85, b90, b95, r2] at h9 ⊢; omega) (by have h9 := K4 s.body (d + 1) (l ++ c6 s.value 0 ++ [⟨9, 0, 0, 0, 0⟩], fr ++ b70 (c6 s.value 0).length at0 ++ [at0], at0 + 1); have h8 := O4 s.body; simp only [b74, b79, b85, b90, b95, r2] at h9 ⊢; omega) (by omega) (by omega) (by have h9 := af3 s.body (d + 1) (l ++ c6 s.value 0 ++ [⟨9, 0, 0, 0, 0⟩], fr ++ b70 (c6 s.value 0).length at0 ++ [at0], at0 + 1); simp only at h9; omega) (by have h9 := af3 s.body (d + 1) (l ++ c6 s.value 0 ++ [⟨9, 0, 0, 0, 0⟩], fr ++ b70 (c6 s.value 0).length at0 ++ [at0], at0 + 1); simp only at h9; omega))) [0, 1, 2, 3, 4, 5, 6, 7, 8, 51, 52] (G8 s [.box [.ref 9, .ref 10, iA (N8 s l fr at0 d).snd.snd], .box (sL s 2), L8, .row 60 (D.instrs (N8 s l fr at0 d).fst), .row 3 (D.ints (N8 s l fr at0 d).snd.fst)]) (F4 at0 d [(9, iA ((D3 s l fr at0 d).fst.length : Int))]) [wO (d + 1)] (o1 (by omega)) fun G => b0 (wp_seq (K6 G e6 (rg 11) (G8 s [.box [.ref 9, .ref 10, iA (N8 s l fr at0 d).snd.snd], .box (sL s 2), L8, bl9 s l fr at0 d, .row 3 (D.ints (N8 s l fr at0 d).snd.fst)]) (F4 at0 d []) [(0 : Int) ≤ ((n7 s.body (d + 1) (l ++ c6 s.value (0 : Int) ++ [d7.mk (9 : Int) (0 : Int) (0 : Int) (0 : Int) (0 : Int)], fr ++ b70 (c6 s.value (0 : Int)).length at0 ++ [at0], at0 + 1)).fst.length : Int), ((n7 s.body (d + 1) (l ++ c6 s.value (0 : Int) ++ [d7.mk (9 : Int) (0 : Int) (0 : Int) (0 : Int) (0 : Int)], fr ++ b70 (c6 s.value (0 : Int)).length at0 ++ [at0], at0 + 1)).fst.length : Int) < ((n7 s.els (d + 1) (((n7 s.body (d + 1) (l ++ c6 s.value (0 : Int) ++ [d7.mk (9 : Int) (0 : Int) (0 : Int) (0 : Int) (0 : Int)], fr ++ b70 (c6 s.value (0 : Int)).length at0 ++ [at0], at0 + 1)).fst ++ [d7.mk (8 : Int) (0 : Int) (0 : Int) (0 : Int) (0 : Int)]).set (l ++ c6 s.value (0 : Int)).length (d7.mk (((n7 s.body (d + 1) (l ++ c6 s.value (0 : Int) ++ [d7.mk (9 : Int) (0 : Int) (0 : Int) (0 : Int) (0 : Int)], fr ++ b70 (c6 s.value (0 : Int)).length at0 ++ [at0], at0 + 1)).fst ++ [d7.mk (8 : Int) (0 : Int) (0 : Int) (0 : Int) (0 : Int)]).getD (l ++ c6 s.value (0 : Int)).length b71).op (((n7 s.body (d + 1) (l ++ c6 s.value (0 : Int) ++ [d7.mk (9 : Int) (0 : Int) (0 : Int) (0 : Int) (0 : Int)], fr ++ b70 (c6 s.value (0 : Int)).length at0 ++ [at0], at0 + 1)).fst ++ [d7.mk (8 : Int) (0 : Int) (0 : Int) (0 : Int) (0 : Int)]).getD (l ++ c6 s.value (0 : Int)).length b71).a (((n7 s.body (d + 1) (l ++ c6 s.value (0 : Int) ++ [d7.mk (9 : Int) (0 : Int) (0 : Int) (0 : Int) (0 : Int)], fr ++ b70 (c6 s.value (0 : Int)).length at0 ++ [at0], at0 + 1)).fst ++ [d7.mk (8 : Int) (0 : Int) (0 : Int) (0 : Int) (0 : Int)]).length : Int) (((n7 s.body (d + 1) (l ++ c6 s.value (0 : Int) ++ [d7.mk (9 : Int) (0 : Int) (0 : Int) (0 : Int) (0 : Int)], fr ++ b70 (c6 s.value (0 : Int)).length at0 ++ [at0], at0 + 1)).fst ++ [d7.mk (8 : Int) (0 : Int) (0 : Int) (0 : Int) (0 : Int)]).getD (l ++ c6 s.value (0 : Int)).length b71).c (((n7 s.body (d + 1) (l ++ c6 s.value (0 : Int) ++ [d7.mk (9 : Int) (0 : Int) (0 : Int) (0 : Int) (0 : Int)], fr ++ b70 (c6 s.value (0 : Int)).length at0 ++ [at0], at0 + 1)).fst ++ [d7.mk (8 : Int) (0 : Int) (0 : Int) (0 : Int) (0 : Int)]).getD (l ++ c6 s.value (0 : Int)).length b71).d), (n7 s.body (d + 1) (l ++ c6 s.value (0 : Int) ++ [d7.mk (9 : Int) (0 : Int) (0 : Int) (0 : Int) (0 : Int)], fr ++ b70 (c6 s.value (0 : Int)).length at0 ++ [at0], at0 + 1)).snd.fst ++ [at0], (n7 s.body (d + 1) (l ++ c6 s.value (0 : Int) ++ [d7.mk (9 : Int) (0 : Int) (0 : Int) (0 : Int) (0 : Int)], fr ++ b70 (c6 s.value (0 : Int)).length at0 ++ [at0], at0 + 1)).snd.snd)).fst.length : Int), (n7 s.body (d + 1) (l ++ c6 s.value (0 : Int) ++ [d7.mk (9 : Int) (0 : Int) (0 : Int) (0 : Int) (0 : Int)], fr ++ b70 (c6 s.value (0 : Int)).length at0 ++ [at0], at0 + 1)).fst.length < (n7 s.els (d + 1) (((n7 s.body (d + 1) (l ++ c6 s.value (0 : Int) ++ [d7.mk (9 : Int) (0 : Int) (0 : Int) (0 : Int) (0 : Int)], fr ++ b70 (c6 s.value (0 : Int)).length at0 ++ [at0], at0 + 1)).fst ++ [d7.mk (8 : Int) (0 : Int) (0 : Int) (0 : Int) (0 : Int)]).set (l ++ c6 s.value (0 : Int)).length (d7.mk (((n7 s.body (d + 1) (l ++ c6 s.value (0 : Int) ++ [d7.mk (9 : Int) (0 : Int) (0 : Int) (0 : Int) (0 : Int)], fr ++ b70 (c6 s.value (0 : Int)).length at0 ++ [at0], at0 + 1)).fst ++ [d7.mk (8 : Int) (0 : Int) (0 : Int) (0 : Int) (0 : Int)]).getD (l ++ c6 s.value (0 : Int)).length b71).op (((n7 s.body (d + 1) (l ++ c6 s.value (0 : Int) ++ [d7.mk (9 : Int) (0 : Int) (0 : Int) (0 : Int) (0 : Int)], fr ++ b70 (c6 s.value (0 : Int)).length at0 ++ [at0], at0 + 1)).fst ++ [d7.mk (8 : Int) (0 : Int) (0 : Int) (0 : Int) (0 : Int)]).getD (l ++ c6 s.value (0 : Int)).length b71).a (((n7 s.body (d + 1) (l ++ c6 s.value (0 : Int) ++ [d7.mk (9 : Int) (0 : Int) (0 : Int) (0 : Int) (0 : Int)], fr ++ b70 (c6 s.value (0 : Int)).length at0 ++ [at0], at0 + 1)).fst ++ [d7.mk (8 : Int) (0 : Int) (0 : Int) (0 : Int) (0 : Int)]).length : Int) (((n7 s.body (d + 1) (l ++ c6 s.value (0 : Int) ++ [d7.mk (9 : Int) (0 : Int) (0 : Int) (0 : Int) (0 : Int)], fr ++ b70 (c6 s.value (0 : Int)).length at0 ++ [at0], at0 + 1)).fst ++ [d7.mk (8 : Int) (0 : Int) (0 : Int) (0 : Int) (0 : Int)]).getD (l ++ c6 s.value (0 : Int)).length b71).c (((n7 s.body (d + 1) (l ++ c6 s.value (0 : Int) ++ [d7.mk (9 : Int) (0 : Int) (0 : Int) (0 : Int) (0 : Int)], fr ++ b70 (c6 s.value (0 : Int)).length at0 ++ [at0], at0 + 1)).fst ++ [d7.mk (8 : Int) (0 : Int) (0 : Int) (0 : Int) (0 : Int)]).getD (l ++ c6 s.value (0 : Int)).length b71).d), (n7 s.body (d + 1) (l ++ c6 s.value (0 : Int) ++ [d7.mk (9 : Int) (0 : Int) (0 : Int) (0 : Int) (0 : Int)], fr ++ b70 (c6 s.value (0 : Int)).length at0 ++ [at0], at0 + 1)).snd.fst ++ [at0], (n7 s.body (d + 1) (l ++ c6 s.value (0 : Int) ++ [d7.mk (9 : Int) (0 : Int) (0 : Int) (0 : Int) (0 : Int)], fr ++ b70 (c6 s.value (0 : Int)).length at0 ++ [at0], at0 + 1)).snd.snd)).fst.length] ⟨(by omega), (by simp only [af2, b95, b74, b79, b85]; omega), (by simp only [af2, b95, b74, b79, b85]; omega), b84⟩ fun G => ?_))))
       refine b0 (wp_seq (i9 G e6 (rg 11) (G8 s [.box [.ref 9, .ref 10, iA (N8 s l fr at0 d).snd.snd], .box (sL s 2), .box [.ref 9, .ref 10, iA (N8 s l fr at0 d).snd.snd], bl9 s l fr at0 d, .row 3 (D.ints (N8 s l fr at0 d).snd.fst)]) (F4 at0 d []) fun G => b0 (wp_ret (E3 (o8 ?_))))); exact rxv (.agg [.ref 9, .ref 10, iA (n7 s.els (d + 1) (((n7 s.body (d + 1) (l ++ c6 s.value 0 ++ [d7.mk 9 0 0 0 0], fr ++ b70 (c6 s.value 0).length at0 ++ [at0], at0 + 1)).fst ++ [d7.mk 8 0 0 0 0]).set (l ++ c6 s.value 0).length (d7.mk (((n7 s.body (d + 1) (l ++ c6 s.value 0 ++ [d7.mk 9 0 0 0 0], fr ++ b70 (c6 s.value 0).length at0 ++ [at0], at0 + 1)).fst ++ [d7.mk 8 0 0 0 0]).getD (l ++ c6 s.value 0).length b71).op (((n7 s.body (d + 1) (l ++ c6 s.value 0 ++ [d7.mk 9 0 0 0 0], fr ++ b70 (c6 s.value 0).length at0 ++ [at0], at0 + 1)).fst ++ [d7.mk 8 0 0 0 0]).getD (l ++ c6 s.value 0).length b71).a (((n7 s.body (d + 1) (l ++ c6 s.value 0 ++ [d7.mk 9 0 0 0 0], fr ++ b70 (c6 s.value 0).length at0 ++ [at0], at0 + 1)).fst ++ [d7.mk 8 0 0 0 0]).length : Int) (((n7 s.body (d + 1) (l ++ c6 s.value 0 ++ [d7.mk 9 0 0 0 0], fr ++ b70 (c6 s.value 0).length at0 ++ [at0], at0 + 1)).fst ++ [d7.mk 8 0 0 0 0]).getD (l ++ c6 s.value 0).length b71).c (((n7 s.body (d + 1) (l ++ c6 s.value 0 ++ [d7.mk 9 0 0 0 0], fr ++ b70 (c6 s.value 0).length at0 ++ [at0], at0 + 1)).fst ++ [d7.mk 8 0 0 0 0]).getD (l ++ c6 s.value 0).length b71).d), (n7 s.body (d + 1) (l ++ c6 s.value 0 ++ [d7.mk 9 0 0 0 0], fr ++ b70 (c6 s.value 0).length at0 ++ [at0], at0 + 1)).snd.fst ++ [at0], (n7 s.body (d + 1) (l ++ c6 s.value 0 ++ [d7.mk 9 0 0 0 0], fr ++ b70 (c6 s.value 0).length at0 ++ [at0], at0 + 1)).snd.snd)).snd.snd]) G [0, 1, 2, 3, 4, 5, 9, 10] (by have e1 : ((P7 s d (l, fr, at0)).snd.snd : Int) = ((n7 s.els (d + 1) (((n7 s.body (d + 1) (l ++ c6 s.value 0 ++ [d7.mk 9 0 0 0 0], fr ++ b70 (c6 s.value 0).length at0 ++ [at0], at0 + 1)).fst ++ [d7.mk 8 0 0 0 0]).set (l ++ c6 s.value 0).length (d7.mk (((n7 s.body (d + 1) (l ++ c6 s.value 0 ++ [d7.mk 9 0 0 0 0], fr ++ b70 (c6 s.value 0).length at0 ++ [at0], at0 + 1)).fst ++ [d7.mk 8 0 0 0 0]).getD (l ++ c6 s.value 0).length b71).op (((n7 s.body (d + 1) (l ++ c6 s.value 0 ++ [d7.mk 9 0 0 0 0], fr ++ b70 (c6 s.value 0).length at0 ++ [at0], at0 + 1)).fst ++ [d7.mk 8 0 0 0 0]).getD (l ++ c6 s.value 0).length b71).a (((n7 s.body (d + 1) (l ++ c6 s.value 0 ++ [d7.mk 9 0 0 0 0], fr ++ b70 (c6 s.value 0).length at0 ++ [at0], at0 + 1)).fst ++ [d7.mk 8 0 0 0 0]).length : Int) (((n7 s.body (d + 1) (l ++ c6 s.value 0 ++ [d7.mk 9 0 0 0 0], fr ++ b70 (c6 s.value 0).length at0 ++ [at0], at0 + 1)).fst ++ [d7.mk 8 0 0 0 0]).getD (l ++ c6 s.value 0).length b71).c (((n7 s.body (d + 1) (l ++ c6 s.value 0 ++ [d7.mk 9 0 0 0 0], fr ++ b70 (c6 s.value 0).length at0 ++ [at0], at0 + 1)).fst ++ [d7.mk 8 0 0 0 0]).getD (l ++ c6 s.value 0).length b71).d), (n7 s.body (d + 1) (l ++ c6 s.value 0 ++ [d7.mk 9 0 0 0 0], fr ++ b70 (c6 s.value 0).length at0 ++ [at0], at0 + 1)).snd.fst ++ [at0], (n7 s.body (d + 1) (l ++ c6 s.value 0 ++ [d7.mk 9 0 0 0 0], fr ++ b70 (c6 s.value 0).length at0 ++ [at0], at0 + 1)).snd.snd)).snd.snd) := (by have h9 := congrArg (fun x : H8 => x.2.2) (cm3 (l := l) (fr := fr) (at0 := at0) (d := d) (s := s) (by omega)); exact h9); (first | rw [e1] | simp only [e1]) <;> rfl) (by show _ = mR [0, 1, 2, 3, 4, 5, 9, 10] (R9 s l fr at0 d); unfold R9; have h9 := cm3 (l := l) (fr := fr) (at0 := at0) (d := d) (s := s) (by omega); rw [h9] <;> rfl)
     · refine wp_seq (i9 G (v5 4 [9, 10, 2] (aZ0 s.index (l ++ c6 s.value 0) (fr ++ b70 (c6 s.value 0).length at0) (at0 + 1) at0 1 (by omega) (by omega) (by omega) (by simp only [b74, b90, r2]; done))) [0, 1, 2, 3, 4, 5, 6, 7, 8, 43, 44] (G8 s [aa6 at0, .box (sL s 2), L8, .row 60 (D.instrs (l ++ c6 s.value 0 ++ c6 s.index 1)), .row 3 (D.ints (fr ++ b70 (c6 s.value 0).length at0 ++ b70 (c6 s.index 1).length at0))]) (F4 at0 d []) fun G => b0 (wp_seq (i9 G (v5 5 [9, 10] (F3 (l ++ c6 s.value 0 ++ c6 s.index 1) (fr ++ b70 (c6 s.value 0).length at0 ++ b70 (c6 s.index 1).length at0) (at0 + 1) at0 5 s.target 1 0 0 (by omega) (by simp only [b74, b90, b79, b85, r2]; have := hft.2.2.2.2; simp only [b74] at this; omega))) [0, 1, 2, 3, 4, 5, 6, 7, 8, 9, 10, 51, 52] (G8 s [aa6 at0, .box (sL s 2), .box [.ref 11, .ref 12, iA (at0 + 1)], .dead, .dead, .row 60 (D.instrs (l ++ c6 s.value 0 ++ c6 s.index 1 ++ [d7.mk 5 s.target 1 0 0])), .row 3 (D.ints (fr ++ b70 (c6 s.value 0).length at0 ++ b70 (c6 s.index 1).length at0 ++ [at0]))]) (F4 at0 d []) fun G => b0 (wp_ret (E3 (o8 ?_)))))); exact rxv (.agg [.ref 11, .ref 12, iA (at0 + 1)]) G [0, 1, 2, 3, 4, 5, 11, 12] (by have e1 : ((P7 s d (l, fr, at0)).snd.snd : Int) = (at0 + 1) := (congrArg (fun x : H8 => x.2.2) (cm2 (by omega))); (first | rw [e1] | simp only [e1]) <;> rfl) (by show _ = mR [0, 1, 2, 3, 4, 5, 11, 12] (R9 s l fr at0 d); unfold R9; have e1 : ((P7 s d (l, fr, at0)).fst : List d7) = (l ++ c6 s.value 0 ++ c6 s.index 1 ++ [d7.mk 5 s.target 1 0 0]) := (congrArg Prod.fst (cm2 (by omega))); have e2 : ((P7 s d (l, fr, at0)).snd.fst : List Int) = (fr ++ b70 (c6 s.value 0).length at0 ++ b70 (c6 s.index 1).length at0 ++ [at0]) := (congrArg (fun x : H8 => x.2.1) (cm2 (by omega))); (first | rw [e1, e2] | simp only [e1, e2]) <;> rfl)
    · refine wp_seq (i9 G (v5 3 [9, 10] (F3 (l ++ c6 s.value 0) (fr ++ b70 (c6 s.value 0).length at0) (at0 + 1) at0 11 0 0 0 0 (by omega) (by simp only [b74, b90, b79, b85, r2]; have := hft.2.2.2.2; simp only [b74] at this; omega))) [0, 1, 2, 3, 4, 5, 6, 7, 8, 35, 36] (G8 s [aa6 at0, .box (sL s 2), L8, .row 60 (D.instrs (l ++ c6 s.value 0 ++ [d7.mk 11 0 0 0 0])), aK5 s fr at0]) (F4 at0 d []) fun G => b0 (wp_seq (i9 G (v5 5 [9, 10] (F3 (l ++ c6 s.value 0 ++ [d7.mk 11 0 0 0 0]) (fr ++ b70 (c6 s.value 0).length at0 ++ [at0]) (at0 + 1) at0 3 s.target 0 0 0 (by simp only [b74, b90, b79, b85, r2]; have := hft.2.2.2.2; simp only [b74] at this; omega) (by simp only [b74, b90, b79, b85, r2]; have := hft.2.2.2.2; simp only [b74] at this; omega))) [0, 1, 2, 3, 4, 5, 6, 7, 8, 9, 10, 51, 52] (G8 s [aa6 at0, .box (sL s 2), .box [.ref 11, .ref 12, iA (at0 + 1)], .dead, .dead, .row 60 (D.instrs (l ++ c6 s.value 0 ++ [d7.mk 11 0 0 0 0] ++ [d7.mk 3 s.target 0 0 0])), .row 3 (D.ints (fr ++ b70 (c6 s.value 0).length at0 ++ [at0] ++ [at0]))]) (F4 at0 d []) fun G => b0 (wp_ret (E3 (o8 ?_)))))); exact rxv (.agg [.ref 11, .ref 12, iA (at0 + 1)]) G [0, 1, 2, 3, 4, 5, 11, 12] (by have e1 : ((P7 s d (l, fr, at0)).snd.snd : Int) = (at0 + 1) := (congrArg (fun x : H8 => x.2.2) (cm5 (by omega))); (first | rw [e1] | simp only [e1]) <;> rfl) (by show _ = mR [0, 1, 2, 3, 4, 5, 11, 12] (R9 s l fr at0 d); unfold R9; have e1 : ((P7 s d (l, fr, at0)).fst : List d7) = (l ++ c6 s.value 0 ++ [d7.mk 11 0 0 0 0] ++ [d7.mk 3 s.target 0 0 0]) := (congrArg Prod.fst (cm5 (by omega))); have e2 : ((P7 s d (l, fr, at0)).snd.fst : List Int) = (fr ++ b70 (c6 s.value 0).length at0 ++ [at0] ++ [at0]) := (congrArg (fun x : H8 => x.2.1) (cm5 (by omega))); (first | rw [e1, e2] | simp only [e1, e2]) <;> rfl)
   · refine wp_seq (i9 G (v5 5 [9, 10] (F3 (l ++ c6 s.value 0) (fr ++ b70 (c6 s.value 0).length at0) (at0 + 1) at0 3 s.target 0 0 0 (by omega) (by simp only [b74, b90, b79, b85, r2]; have := hft.2.2.2.2; simp only [b74] at this; omega))) [0, 1, 2, 3, 4, 5, 6, 7, 8, 9, 10, 51, 52] (G8 s [aa6 at0, .box (sL s 2), .box [.ref 11, .ref 12, iA (at0 + 1)], .dead, .dead, .row 60 (D.instrs (l ++ c6 s.value 0 ++ [d7.mk 3 s.target 0 0 0])), aK5 s fr at0]) (F4 at0 d []) fun G => b0 (wp_ret (E3 (o8 ?_)))); exact rxv (.agg [.ref 11, .ref 12, iA (at0 + 1)]) G [0, 1, 2, 3, 4, 5, 11, 12] (by have e1 : ((P7 s d (l, fr, at0)).snd.snd : Int) = (at0 + 1) := (congrArg (fun x : H8 => x.2.2) (cm1 (by omega))); (first | rw [e1] | simp only [e1]) <;> rfl) (by show _ = mR [0, 1, 2, 3, 4, 5, 11, 12] (R9 s l fr at0 d); unfold R9; have e1 : ((P7 s d (l, fr, at0)).fst : List d7) = (l ++ c6 s.value 0 ++ [d7.mk 3 s.target 0 0 0]) := (congrArg Prod.fst (cm1 (by omega))); have e2 : ((P7 s d (l, fr, at0)).snd.fst : List Int) = (fr ++ b70 (c6 s.value 0).length at0 ++ [at0]) := (congrArg (fun x : H8 => x.2.1) (cm1 (by omega))); (first | rw [e1, e2] | simp only [e1, e2]) <;> rfl)
section
variable {ss : List c8} {k : Nat} {d : Int} {l : List d7} {fr : List Int} {at0 : Int}
theorem bf8 (hk : k < ss.length) : t9 (ss.take k) + (1 + szS (ss.getD k b71)) ≤ t9 ss := by
 have h1 := as6 (ss.take (k + 1)) (ss.drop (k + 1))
 rw [List.take_append_drop, t2 _ _ hk, as6, ← r7 (d := b71) hk] at h1
 simp only [t9] at h1
 omega
theorem bs5 (hk : k < ss.length) : nSs (ss.take k) + nS (ss.getD k b71) ≤ nSs ss := by
 have h1 := aA0 (ss.take (k + 1)) (ss.drop (k + 1))
 rw [List.take_append_drop, t2 _ _ hk, aA0, ← r7 (d := b71) hk] at h1
 simp only [nSs] at h1
 omega
theorem bw7 (r1 : l.length + 4 * t9 ss ≤ 5000000) (hk : k < ss.length) : (n7 (ss.take k) d (l, fr, at0)).1.length + (4 + 4 * szS (ss.getD k b71)) ≤ 5000000 := by
 have h1 := bf8 hk
 have h2 := O4 (ss.take k)
 rw [af2]
 simp only
 omega
theorem bJ9 (r2 : fr.length = l.length) : (n7 (ss.take k) d (l, fr, at0)).2.1.length = (n7 (ss.take k) d (l, fr, at0)).1.length := by
 have h := K4 (ss.take k) d (l, fr, at0)
 simp only at h
 omega
theorem bw9 (r5 : 0 ≤ at0) : 0 ≤ (n7 (ss.take k) d (l, fr, at0)).2.2 := by
 have h := af3 (ss.take k) d (l, fr, at0)
 simp only at h
 omega
theorem bw8 (r6 : at0 + nSs ss ≤ 5000000) (hk : k < ss.length) : (n7 (ss.take k) d (l, fr, at0)).2.2 + nS (ss.getD k b71) ≤ 5000000 := by
 have h := af3 (ss.take k) d (l, fr, at0)
 have h1 := bs5 hk
 simp only at h
 omega
theorem bY4 (hk : k < ss.length) : (n7 (ss.take (k + 1)) d (l, fr, at0)).1 = (P7 (ss.getD k b71) d (n7 (ss.take k) d (l, fr, at0))).1 := by rw [aC4 hk]
theorem bY3 (hk : k < ss.length) : (n7 (ss.take (k + 1)) d (l, fr, at0)).2.1 = (P7 (ss.getD k b71) d (n7 (ss.take k) d (l, fr, at0))).2.1 := by rw [aC4 hk]
theorem bY2 (hk : k < ss.length) : (n7 (ss.take (k + 1)) d (l, fr, at0)).2.2 = (P7 (ss.getD k b71) d (n7 (ss.take k) d (l, fr, at0))).2.2 := by rw [aC4 hk]
theorem bj2 (hk : ss.length ≤ k) (x : H8) : n7 ss d x = n7 (ss.take k) d x := by rw [b89 hk]
end
theorem aH9 (ss : List c8) (B : Int) (ih : ∀ (s : c8), s ∈ ss → ∀ (l : List d7) (fr : List Int) (at0 d : Int), l.length + (4 + 4 * szS s) ≤ 5000000 → fr.length = l.length → 0 ≤ d → d ≤ B → 0 ≤ at0 → at0 + nS s ≤ 5000000 → l0.ok Tryz.prog (lqC l fr at0 s d))
  (l : List d7) (fr : List Int) (at0 d : Int) (r1 : l.length + 4 * t9 ss ≤ 5000000) (r2 : fr.length = l.length) (r3 : 0 ≤ d) (r4 : d ≤ B) (r5 : 0 ≤ at0) (r6 : at0 + nSs ss ≤ 5000000) : l0.ok Tryz.prog (lrC l fr at0 ss d) := by
 refine J8 22 Tryz.func90 [.row 60 (D.instrs l), .row 3 (D.ints fr), dT ss] [(0, .agg [.ref 0, .ref 1, iA at0]), (1, .ref 2), (2, iA d)] fun G => ?_; have hl := am0 ss; refine wp_seq (i9 G e6 [0, 1, 2, 3, 11] [.row 60 (D.instrs l), .row 3 (D.ints fr), dT ss, .box [.ref 0, .ref 1, iA at0], .box [.v (.slice none 0 0), .v (.slice none 0 0), iA 0]] [(1, .ref 2), (2, iA d), (3, .ptr 3 0), (6, .ptr 4 0)] fun G => b0 (wp_seq (wp_seq (G9 G e6 [(1, .ref 2), (2, iA d), (3, .ptr 3 0), (6, .ptr 4 0), (7, iA 0)] fun G => b0 (wp_block ?_))))); obtain ⟨ρ, G⟩ := G.shift 0 5 [.dead, .row 3 (D.ints fr), dT ss, .box [.ref 5, .ref 1, iA at0], .box [.v (.slice none 0 0), .v (.slice none 0 0), iA 0], .row 60 (D.instrs l)] [(1, .ref 2), (2, iA d), (3, .ptr 3 0), (6, .ptr 4 0), (7, iA 0)]; obtain ⟨ρ, G⟩ := G.shift 1 6 [.dead, .dead, dT ss, .box [.ref 5, .ref 6, iA at0], .box [.v (.slice none 0 0), .v (.slice none 0 0), iA 0], .row 60 (D.instrs l), .row 3 (D.ints fr)] [(1, .ref 2), (2, iA d), (3, .ptr 3 0), (6, .ptr 4 0), (7, iA 0)]; refine x6 (κ := Nat) (fun k => k ≤ ss.length) (fun k => ss.length - k) (fun k => [.dead, .dead, dT ss, .box [.ref 5, .ref 6, iA (n7 (ss.take k) d (l, fr, at0)).2.2], .box [.v (.slice none 0 0), .v (.slice none 0 0), iA 0], .row 60 (.instrs (n7 (ss.take k) d (l, fr, at0)).1), .row 3 (.ints (n7 (ss.take k) d (l, fr, at0)).2.1)]) (fun k => [(1, .ref 2), (2, iA d), (3, .ptr 3 0), (6, .ptr 4 0), (7, iA k)]) 0 (by omega) (t7.at G _ _) ?_; clear G; intro k ρ a w hp G; replace G := t7.at G [.dead, .dead, dT ss, .box [.ref 5, .ref 6, iA (n7 (b83 k ss) d (l, fr, at0)).snd.snd], .box [.v (.slice none 0 0), .v (.slice none 0 0), iA 0], .row 60 (D.instrs (n7 (b83 k ss) d (l, fr, at0)).fst), .row 3 (D.ints (n7 (b83 k ss) d (l, fr, at0)).snd.fst)] [(1, .ref 2), (2, iA d), (3, .ptr 3 0), (6, .ptr 4 0), (7, iA k)]; refine wp_seq (wp_seq (l6 G e6 [(11, bA (decide ((k : Int) < ss.length)))] fun G => b0 (rcD G (fun h0 q0 => ?_) fun h0 q0 => ?_)))
 ·refine wp_exit (v9 (v9 (v6 (b0 (wp_seq (i9 G e6 [0, 1, 2, 4, 5, 6] [.dead, .dead, dT ss, .box [.ref 4, .ref 5, iA (n7 (b83 k ss) d (l, fr, at0)).snd.snd], .row 60 (D.instrs (n7 (b83 k ss) d (l, fr, at0)).fst), .row 3 (D.ints (n7 (b83 k ss) d (l, fr, at0)).snd.fst)] [(6, .ptr 3 0)] fun G => b0 (wp_ret ?_))))))); exact rxv (.agg [.ref 4, .ref 5, iA (n7 (b83 k ss) d (l, fr, at0)).snd.snd]) G [0, 1, 2, 4, 5] (by have e1 : ((n7 ss d (l, fr, at0)).snd.snd : Int) = ((n7 (b83 k ss) d (l, fr, at0)).snd.snd) := (congrArg (fun x : H8 => x.2.2) (bj2 (by omega) _)); (first | rw [e1] | simp only [e1]) <;> rfl) (by show _ = mR [0, 1, 2, 4, 5] [.dead, .dead, dT ss, .row 60 (D.instrs (n7 ss d (l, fr, at0)).fst), .row 3 (D.ints (n7 ss d (l, fr, at0)).snd.fst)]; have e1 : ((n7 ss d (l, fr, at0)).fst : List d7) = ((n7 (b83 k ss) d (l, fr, at0)).fst) := (congrArg Prod.fst (bj2 (by omega) _)); have e2 : ((n7 ss d (l, fr, at0)).snd.fst : List Int) = ((n7 (b83 k ss) d (l, fr, at0)).snd.fst) := (congrArg (fun x : H8 => x.2.1) (bj2 (by omega) _)); (first | rw [e1, e2] | simp only [e1, e2]) <;> rfl)
 ·refine wp_skip (b0 (wp_seq (wp_block (H5 G (v5 6 [5, 6, 39, 40, 41, 42] (ih (ss.getD k b71) (aX2 (by omega)) ((n7 (b83 k ss) d (l, fr, at0)).fst) ((n7 (b83 k ss) d (l, fr, at0)).snd.fst) ((n7 (b83 k ss) d (l, fr, at0)).snd.snd) d (bw7 r1 (by omega)) (bJ9 r2) (by assumption) (by assumption) (bw9 r5) (bw8 r6 (by omega)))) [0, 0, 0, 6, 14, 0, 63, 127] [0, 1, 2, 3, 4, 55, 56] [.dead, .dead, dT ss, .box [.ref 5, .ref 6, iA (P7 (ss.getD k b71) d (n7 (b83 k ss) d (l, fr, at0))).snd.snd], .box [.v (.slice none 0 0), .v (.slice none 0 0), iA 0], .row 60 (D.instrs (P7 (ss.getD k b71) d (n7 (b83 k ss) d (l, fr, at0))).fst), .row 3 (D.ints (P7 (ss.getD k b71) d (n7 (b83 k ss) d (l, fr, at0))).snd.fst)] [(1, .ref 2), (2, iA d), (3, .ptr 3 0), (6, .ptr 4 0), (7, iA k)] (iX k k ss.length []) (iK (by omega) b84) fun G => i8 (b0 (D0 G e6 [(7, iA ((k : Int) + 1))] [wO ((k : Int) + 1)] (o1 (by omega)) fun G => b0 ?_)))))); exact L0 G (k + 1) (by omega) (by omega) (rg 7) (by have e1 : ((n7 (b83 (k + 1) ss) d (l, fr, at0)).snd.snd : Int) = ((P7 (ss.getD k b71) d (n7 (b83 k ss) d (l, fr, at0))).snd.snd) := (bY2 (by omega)); have e2 : ((n7 (b83 (k + 1) ss) d (l, fr, at0)).fst : List d7) = ((P7 (ss.getD k b71) d (n7 (b83 k ss) d (l, fr, at0))).fst) := (bY4 (by omega)); have e3 : ((n7 (b83 (k + 1) ss) d (l, fr, at0)).snd.fst : List Int) = ((P7 (ss.getD k b71) d (n7 (b83 k ss) d (l, fr, at0))).snd.fst) := (bY3 (by omega)); (first | rw [e1, e2, e3] | simp only [e1, e2, e3]) <;> rfl)
theorem bt3 (nv na : Nat) : ∀ (dd : Nat) (ss : List c8) (l : List d7) (fr : List Int) (at0 d : Int), ss.all (m8 nv na dd) = true → l.length + 4 * t9 ss ≤ 5000000 → fr.length = l.length → 0 ≤ d → d + dd ≤ 100 → 0 ≤ at0 → at0 + nSs ss ≤ 5000000 → l0.ok Tryz.prog (lrC l fr at0 ss d) := by
 intro dd
 induction dd with
 | zero =>
  intro ss l fr at0 d hs r1 r2 r3 r4 r5 r6
  have h0 : ss = [] := by
   cases ss with
   | nil => rfl
   | cons a r => simp [m8] at hs
  subst h0
  exact aH9 [] 100 (fun s hs => by cases hs) l fr at0 d r1 r2 r3 (by omega) r5 r6
 | succ dd ih =>
  intro ss l fr at0 d hs r1 r2 r3 r4 r5 r6
  refine aH9 ss (100 - (dd + 1)) (fun s hm l fr at0 d q1 q2 q3 q4 q5 q6 => ?_) l fr at0 d r1 r2 r3 (by omega) r5 r6
  have h := b80.1 hs s hm
  rw [aj3, b73, b73] at h
  exact aT7 nv na dd s h.1 h.2.1 h.2.2 (fun tt l fr at0 d h1 h2 h3 h4 h5 h6 h7 => ih tt l fr at0 d h1 h2 h3 h4 h5 h6 h7) l fr at0 d q1 q2 q3 (by omega) q5 q6
abbrev aK4 : It := .box [.v (.slice none 0 0), .v (.slice none 0 0), iA 0]
theorem a28 (ss : List c8) (B : Int) (ih : ∀ (s : c8), s ∈ ss → ∀ (l : List d7) (fr : List Int) (at0 d : Int), l.length + (4 + 4 * szS s) ≤ 5000000 → fr.length = l.length → 0 ≤ d → d ≤ B → 0 ≤ at0 → at0 + nS s ≤ 5000000 → l0.ok Tryz.prog (lqC l fr at0 s d))
  (d : Int) (r1 : ([] : List d7).length + 4 * t9 ss ≤ 5000000) (r3 : 0 ≤ d) (r4 : d ≤ B) (r6 : (0 : Int) + nSs ss ≤ 5000000) : l0.ok Tryz.prog ⟨90, [.agg [.v (.slice none 0 0), .v (.slice none 0 0), iA 0], .ref 0, iA d], [dT ss], [dT ss, rN (n7 ss d ([], [], 0)).1, rI (n7 ss d ([], [], 0)).2.1], .agg [.ref 1, .ref 2, iA (n7 ss d ([], [], 0)).2.2]⟩ := by
 refine J8 22 Tryz.func90 [dT ss] [(0, .agg [.v (.slice none 0 0), .v (.slice none 0 0), iA 0]), (1, .ref 0), (2, iA d)] fun G => ?_; have hl := am0 ss; refine wp_seq (i9 G e6 [0, 1, 9] [dT ss, aK4, aK4] [(1, .ref 0), (2, iA d), (3, .ptr 1 0), (6, .ptr 2 0)] fun G => b0 (wp_seq (wp_seq (G9 G e6 [(1, .ref 0), (2, iA d), (3, .ptr 1 0), (6, .ptr 2 0), (7, iA 0)] fun G => b0 (wp_block ?_))))); obtain ⟨ρ, G⟩ := G.nil 3 60 (.instrs []) 5 [dT ss, .box [.ref 3, .v (.slice none 0 0), iA 0], .box [.v (.slice none 0 0), .v (.slice none 0 0), iA 0]] [(1, .ref 0), (2, iA d), (3, .ptr 1 0), (6, .ptr 2 0), (7, iA 0)]; obtain ⟨ρ, G⟩ := G.nil 4 3 (.ints []) 1 [dT ss, .box [.ref 3, .ref 4, iA 0], .box [.v (.slice none 0 0), .v (.slice none 0 0), iA 0], .row 60 (D.instrs [])] [(1, .ref 0), (2, iA d), (3, .ptr 1 0), (6, .ptr 2 0), (7, iA 0)]; refine x6 (κ := Nat) (fun k => k ≤ ss.length) (fun k => ss.length - k) (fun k => [dT ss, .box [.ref 3, .ref 4, iA (n7 (ss.take k) d ([], [], 0)).2.2], .box [.v (.slice none 0 0), .v (.slice none 0 0), iA 0], .row 60 (.instrs (n7 (ss.take k) d ([], [], 0)).1), .row 3 (.ints (n7 (ss.take k) d ([], [], 0)).2.1)]) (fun k => [(1, .ref 0), (2, iA d), (3, .ptr 1 0), (6, .ptr 2 0), (7, iA k)]) 0 (by omega) (t7.at G _ _) ?_; clear G; intro k ρ a w hp G; replace G := t7.at G [dT ss, .box [.ref 3, .ref 4, iA (n7 (b83 k ss) d ([], [], 0)).snd.snd], aK4, .row 60 (D.instrs (n7 (b83 k ss) d ([], [], 0)).fst), .row 3 (D.ints (n7 (b83 k ss) d ([], [], 0)).snd.fst)] [(1, .ref 0), (2, iA d), (3, .ptr 1 0), (6, .ptr 2 0), (7, iA k)]; refine wp_seq (wp_seq (l6 G e6 [(11, bA (decide ((k : Int) < ss.length)))] fun G => b0 (rcD G (fun h0 q0 => ?_) fun h0 q0 => ?_)))
 ·refine wp_exit (v9 (v9 (v6 (b0 (wp_seq (i9 G e6 [0, 2, 3, 4] [dT ss, .box [.ref 2, .ref 3, iA (n7 (b83 k ss) d ([], [], 0)).snd.snd], .row 60 (D.instrs (n7 (b83 k ss) d ([], [], 0)).fst), .row 3 (D.ints (n7 (b83 k ss) d ([], [], 0)).snd.fst)] [(6, .ptr 1 0)] fun G => b0 (wp_ret ?_))))))); exact rxv (.agg [.ref 2, .ref 3, iA (n7 (b83 k ss) d ([], [], 0)).snd.snd]) G [0, 2, 3] (by have e1 : ((n7 ss d ([], [], 0)).snd.snd : Int) = ((n7 (b83 k ss) d ([], [], 0)).snd.snd) := (congrArg (fun x : H8 => x.2.2) (bj2 (by omega) _)); (first | rw [e1] | simp only [e1]) <;> rfl) (by show _ = mR [0, 2, 3] [dT ss, .row 60 (D.instrs (n7 ss d ([], [], 0)).fst), .row 3 (D.ints (n7 ss d ([], [], 0)).snd.fst)]; have e1 : ((n7 ss d ([], [], 0)).fst : List d7) = ((n7 (b83 k ss) d ([], [], 0)).fst) := (congrArg Prod.fst (bj2 (by omega) _)); have e2 : ((n7 ss d ([], [], 0)).snd.fst : List Int) = ((n7 (b83 k ss) d ([], [], 0)).snd.fst) := (congrArg (fun x : H8 => x.2.1) (bj2 (by omega) _)); (first | rw [e1, e2] | simp only [e1, e2]) <;> rfl)
 ·refine wp_skip (b0 (wp_seq (wp_block (H5 G (v5 6 [3, 4, 37, 38, 39, 40] (ih (ss.getD k b71) (aX2 (by omega)) ((n7 (b83 k ss) d ([], [], 0)).fst) ((n7 (b83 k ss) d ([], [], 0)).snd.fst) ((n7 (b83 k ss) d ([], [], 0)).snd.snd) d (bw7 r1 (by omega)) (bJ9 rfl) (by assumption) (by assumption) (bw9 (Int.le_refl 0)) (bw8 r6 (by omega)))) [0, 0, 0, 6, 14, 0, 63, 127] [0, 1, 2, 53, 54] [dT ss, .box [.ref 3, .ref 4, iA (P7 (ss.getD k b71) d (n7 (b83 k ss) d ([], [], 0))).snd.snd], aK4, .row 60 (D.instrs (P7 (ss.getD k b71) d (n7 (b83 k ss) d ([], [], 0))).fst), .row 3 (D.ints (P7 (ss.getD k b71) d (n7 (b83 k ss) d ([], [], 0))).snd.fst)] [(1, .ref 0), (2, iA d), (3, .ptr 1 0), (6, .ptr 2 0), (7, iA k)] (iX k k ss.length []) (iK (by omega) b84) fun G => i8 (b0 (D0 G e6 [(7, iA ((k : Int) + 1))] [wO ((k : Int) + 1)] (o1 (by omega)) fun G => b0 ?_)))))); exact L0 G (k + 1) (by omega) (by omega) (rg 5) (by have e1 : ((n7 (b83 (k + 1) ss) d ([], [], 0)).snd.snd : Int) = ((P7 (ss.getD k b71) d (n7 (b83 k ss) d ([], [], 0))).snd.snd) := (bY2 (by omega)); have e2 : ((n7 (b83 (k + 1) ss) d ([], [], 0)).fst : List d7) = ((P7 (ss.getD k b71) d (n7 (b83 k ss) d ([], [], 0))).fst) := (bY4 (by omega)); have e3 : ((n7 (b83 (k + 1) ss) d ([], [], 0)).snd.fst : List Int) = ((P7 (ss.getD k b71) d (n7 (b83 k ss) d ([], [], 0))).snd.fst) := (bY3 (by omega)); (first | rw [e1, e2, e3] | simp only [e1, e2, e3]) <;> rfl)
theorem a73 (p : j9) (hp : E0 p = true) (hb : t9 p.body ≤ 1048576) : l0.ok Tryz.prog ⟨90, [.agg [.v (.slice none 0 0), .v (.slice none 0 0), iA 0], .ref 0, iA 0], [dT p.body], [dT p.body, rN (n7 p.body 0 ([], [], 0)).1, rI (n7 p.body 0 ([], [], 0)).2.1], .agg [.ref 1, .ref 2, iA (n7 p.body 0 ([], [], 0)).2.2]⟩ := by
 simp only [E0, af7, b73, decide_eq_true_eq] at hp
 refine a28 p.body 95 (fun s hm l fr at0 d q1 q2 q3 q4 q5 q6 => ?_) 0 (by simp only [b85]; omega) (by omega) (by omega) (by have := aM5 p.body; omega)
 have h := b80.1 hp.1.2 s hm
 rw [aj3, b73, b73] at h
 exact aT7 _ _ 4 s h.1 h.2.1 h.2.2 (fun tt l fr at0 d h1 h2 h3 h4 h5 h6 h7 => bt3 _ _ 4 tt l fr at0 d h1 h2 h3 h4 h5 h6 h7) l fr at0 d q1 q2 q3 (by omega) q5 q6
def au9 (p : j9) : H8 := ((n7 p.body 0 ([], [], 0)).1 ++ [⟨13, 0, 0, 0, 0⟩], (n7 p.body 0 ([], [], 0)).2.1 ++ [-1], (n7 p.body 0 ([], [], 0)).2.2)
def okC (p : j9) : Bool := E0 p && decide ((au9 p).1.length ≤ 400)
def l8 (p : j9) : H8 := if okC p = true then au9 p else ([], [], 0)
theorem a48 {p : j9} (h : E0 p = false) : okC p = false := by unfold okC; rw [h]; rfl
theorem bs2 {p : j9} (h : ¬ (au9 p).1.length ≤ 400) : okC p = false := by unfold okC; rw [decide_eq_false h, Bool.and_false]
theorem bs1 {p : j9} (h1 : E0 p = true) (h : (au9 p).1.length ≤ 400) : okC p = true := by unfold okC; rw [decide_eq_true h, h1]; rfl
theorem aC3 {p : j9} (h : okC p = false) : l8 p = ([], [], 0) := by unfold l8; rw [h]; rfl
theorem bw2 {p : j9} (h : okC p = true) : l8 p = au9 p := by unfold l8; rw [h]; rfl
theorem bi8 (p : j9) (hb : t9 p.body ≤ 1048576) : (n7 p.body 0 ([], [], 0)).1.length ≤ 5000000 ∧ (n7 p.body 0 ([], [], 0)).2.1.length ≤ 5000000 := by
 have h := K4 p.body 0 ([], [], 0)
 have h1 := O4 p.body
 simp only [b85] at h
 omega
abbrev ao5 (p : j9) : List It := [dI p.vars, dI p.arrays, dT p.body, .row 60 (D.instrs (l8 p).fst), .row 3 (D.ints (l8 p).snd.fst)]
abbrev aK1 (p : j9) (r0 : List It) : List It := .row 60 (D.instrs ((n7 p.body 0 ([], [], 0)).fst ++ [d7.mk 13 0 0 0 0])) :: .row 3 (D.ints ((n7 p.body 0 ([], [], 0)).snd.fst ++ [-1])) :: r0
theorem aZ1 (p : j9) (hb : t9 p.body ≤ 1048576) : l0.ok Tryz.prog ⟨75, [pA 0], pS p, pS p ++ [rN (l8 p).1, rI (l8 p).2.1], .tup [.agg [.ref 3, .ref 4, iA (l8 p).2.2], bA (okC p)]⟩ := by
  refine J8 22 Tryz.func75 [dI p.vars, dI p.arrays, dT p.body] [(0, pA 0)] fun G => ?_; have hcb := bi8 p hb; refine wp_seq (i9 G e6 [0, 1, 2, 3, 11] [dI p.vars, dI p.arrays, dT p.body, .box (pL 0), .box [.v (.slice none 0 0), .v (.slice none 0 0), iA 0]] [(1, .ptr 3 0), (2, .ptr 4 0), (3, bA false)] fun G => b0 (wp_seq (wp_seq (l6 G (v5 1 [0, 1, 2] (af6 p (by assumption))) [(7, .v (.bool !E0 p))] fun G => b0 ?_)))); cases h0 : (!E0 p)
  ·
   have q0 : (E0 p) = true := (Eq.mp (cb4 _) h0); refine rF G _ h0 (wp_skip (b0 (wp_seq (i9 G (v5 3 [2] (a73 p (by assumption) (by assumption))) [0, 1, 2, 4, 29, 30, 37] [dI p.vars, dI p.arrays, dT p.body, .box [.v (.slice none 0 0), .v (.slice none 0 0), iA 0], .row 60 (D.instrs (n7 p.body 0 ([], [], 0)).fst), .row 3 (D.ints (n7 p.body 0 ([], [], 0)).snd.fst), .box [.ref 4, .ref 5, iA (n7 p.body 0 ([], [], 0)).snd.snd]] [(2, .ptr 3 0), (3, bA false), (4, .ptr 6 0)] fun G => b0 (wp_seq (i9 G (v5 2 [4, 5] (F3 ((n7 p.body 0 ([], [], 0)).fst) ((n7 p.body 0 ([], [], 0)).snd.fst) ((n7 p.body 0 ([], [], 0)).snd.snd) (-1) 13 0 0 0 0 (by omega) (by omega))) [0, 1, 2, 3, 6, 23, 24] (dI p.vars :: dI p.arrays :: dT p.body :: .box [.v (.slice none 0 0), .v (.slice none 0 0), iA 0] :: .box [.ref 5, .ref 6, iA (n7 p.body 0 ([], [], 0)).snd.snd] :: (aK1 p [])) [(2, .ptr 3 0), (3, bA false), (4, .ptr 4 0)] fun G => b0 (wp_seq (wp_seq (l6 G e6 [(19, bA (decide ((((n7 p.body 0 ([], [], 0)).fst ++ [d7.mk 13 0 0 0 0]).length : Int) > 400)))] fun G => b0 (rcD G (fun h1 q1 => ?_) fun h1 q1 => ?_))))))))))
   · refine wp_skip (b0 (wp_seq (i9 G e6 [0, 1, 2, 3, 5, 6] (dI p.vars :: dI p.arrays :: dT p.body :: .box [.ref 4, .ref 5, iA (n7 p.body 0 ([], [], 0)).snd.snd] :: (aK1 p [])) [(2, .ptr 3 0), (3, bA true)] fun G => b0 (wp_ret ?_)))); exact rxv (.tup [.agg [.ref 4, .ref 5, iA (n7 p.body 0 ([], [], 0)).snd.snd], bA true]) G [0, 1, 2, 4, 5] (by have e1 : ((l8 p).snd.snd : Int) = ((n7 p.body 0 ([], [], 0)).snd.snd) := (by rw [bw2 (bs1 (by with_reducible assumption) (by simp only [au9]; omega))]; rfl); have e2 : (okC p : Bool) = (true) := (bs1 (by with_reducible assumption) (by simp only [au9]; omega)); (first | rw [e1, e2] | simp only [e1, e2]) <;> rfl) (by show _ = mR [0, 1, 2, 4, 5] (ao5 p); unfold ao5; rw [bw2 (bs1 (by with_reducible assumption) (by simp only [au9]; omega))] <;> rfl)
   · refine wp_seq (G9 G e6 [(2, .ptr 3 0), (3, bA false), (4, .ptr 4 0)] fun G => b0 (wp_ret (o8 ?_))); obtain ⟨ρ, G⟩ := G.nil 7 60 (.instrs []) 5 (dI p.vars :: dI p.arrays :: dT p.body :: .box [.ref 7, .v (.slice none 0 0), iA 0] :: .box [.ref 5, .ref 6, iA (n7 p.body 0 ([], [], 0)).snd.snd] :: (aK1 p [])) [(2, .ptr 3 0), (3, bA false), (4, .ptr 4 0)]; obtain ⟨ρ, G⟩ := G.nil 8 3 (.ints []) 1 (dI p.vars :: dI p.arrays :: dT p.body :: .box [.ref 7, .ref 8, iA 0] :: .box [.ref 5, .ref 6, iA (n7 p.body 0 ([], [], 0)).snd.snd] :: (aK1 p [.row 60 (D.instrs [])])) [(2, .ptr 3 0), (3, bA false), (4, .ptr 4 0)]; exact rxv (.tup [.agg [.ref 7, .ref 8, iA 0], bA false]) G [0, 1, 2, 7, 8] (by have e1 : ((l8 p).snd.snd : Int) = (0) := (by rw [aC3 (bs2 (by simp only [au9]; omega))]; done); have e2 : (okC p : Bool) = (false) := (bs2 (by simp only [au9]; omega)); (first | rw [e1, e2] | simp only [e1, e2]) <;> rfl) (by show _ = mR [0, 1, 2, 7, 8] (ao5 p); unfold ao5; rw [aC3 (bs2 (by simp only [au9]; omega))] <;> rfl)
  · have q0 : (E0 p) = false := (Eq.mp (ca5 _) h0); refine rT G _ h0 (wp_seq (G9 G e6 [(1, .ptr 3 0), (2, .ptr 4 0), (3, bA false)] fun G => b0 (wp_ret (o8 ?_)))); obtain ⟨ρ, G⟩ := G.nil 5 60 (.instrs []) 5 [dI p.vars, dI p.arrays, dT p.body, .box (pL 0), .box [.ref 5, .v (.slice none 0 0), iA 0]] [(1, .ptr 3 0), (2, .ptr 4 0), (3, bA false)]; obtain ⟨ρ, G⟩ := G.nil 6 3 (.ints []) 1 [dI p.vars, dI p.arrays, dT p.body, .box (pL 0), .box [.ref 5, .ref 6, iA 0], .row 60 (D.instrs [])] [(1, .ptr 3 0), (2, .ptr 4 0), (3, bA false)]; exact rxv (.tup [.agg [.ref 5, .ref 6, iA 0], bA false]) G [0, 1, 2, 5, 6] (by have e1 : ((l8 p).snd.snd : Int) = (0) := (by rw [aC3 (a48 (by with_reducible assumption))]; done); have e2 : (okC p : Bool) = (false) := (a48 (by with_reducible assumption)); (first | rw [e1, e2] | simp only [e1, e2]) <;> rfl) (by show _ = mR [0, 1, 2, 5, 6] (ao5 p); unfold ao5; rw [aC3 (a48 (by with_reducible assumption))] <;> rfl)
def cvP (p : j9) : List Int := if okC p = true then p.vars else []
def caP (p : j9) : List Int := if okC p = true then p.arrays else []
theorem bX6 {p : j9} (h : okC p = true) : cvP p = p.vars := if_pos h
theorem b62 {p : j9} (h : okC p = false) : cvP p = [] := if_neg (by rw [h]; decide)
theorem bY5 {p : j9} (h : okC p = true) : caP p = p.arrays := if_pos h
theorem b64 {p : j9} (h : okC p = false) : caP p = [] := if_neg (by rw [h]; decide)
abbrev aK3 (p : j9) : List It := [dI p.vars, dI p.arrays, dT p.body, .row 3 (D.ints (cvP p)), .row 3 (D.ints (caP p)), .row 60 (D.instrs (l8 p).fst)]
abbrev aK0 (p : j9) (r0 : List It) : List It := .row 60 (D.instrs (l8 p).fst) :: .row 3 (D.ints (l8 p).snd.fst) :: .box [.ref 5, .ref 6, iA (l8 p).snd.snd] :: r0
theorem aq8 (p : j9) (hb : p.size ≤ 1048576) : l0.ok Tryz.prog ⟨48, [pA 0], pS p, pS p ++ [rI (cvP p), rI (caP p), rN (l8 p).1], .tup [.agg [.ref 3, .ref 4, .ref 5], bA (okC p)]⟩ := by
 refine J8 25 Tryz.func48 [dI p.vars, dI p.arrays, dT p.body] [(0, pA 0)] fun G => ?_
 have hb1 : p.vars.length ≤ 1048576 ∧ p.arrays.length ≤ 1048576 ∧ t9 p.body ≤ 1048576 := by unfold j9.size at hb; omega
 refine wp_seq (i9 G e6 [0, 1, 2, 3, 11] [dI p.vars, dI p.arrays, dT p.body, .box (pL 0), .box [.v (.slice none 0 0), .v (.slice none 0 0), .v (.slice none 0 0)]] [(1, .ptr 3 0), (2, .ptr 4 0), (3, bA false)] fun G => b0 (wp_seq (i9 G (v5 1 [0, 1, 2] (aZ1 p (by omega))) [0, 1, 2, 3, 4, 13, 14, 45] (dI p.vars :: dI p.arrays :: dT p.body :: .box (pL 0) :: .box [.v (.slice none 0 0), .v (.slice none 0 0), .v (.slice none 0 0)] :: (aK0 p [])) [(1, .ptr 3 0), (2, .ptr 4 0), (3, bA false), (4, .ptr 7 0), (5, bA (okC p))] fun G => b0 (wp_seq (wp_seq (l6 G e6 [(12, .v (.bool !okC p))] fun G => b0 ?_)))))); cases h0 : (!okC p)
 ·have q0 : (okC p) = true := (Eq.mp (cb4 _) h0); refine rF G _ h0 (wp_skip (b0 (wp_seq (H5 G e6 [0, 0, 2, 7, 0, 0, 32, 127, 0, 256, 1023, 2047, 4095] [0, 1, 2, 4, 5, 32, 64] [dI p.vars, dI p.arrays, dT p.body, .box [.ref 5, .ref 6, .ref 4], .row 60 (D.instrs (l8 p).fst), .row 3 (D.ints ([] ++ p.vars)), .row 3 (D.ints ([] ++ p.arrays))] [(2, .ptr 3 0), (3, bA true)] (aP ((0 : Nat) + p.vars.length) 8 (aP ((0 : Nat) + p.arrays.length) 8 [])) (aK (by omega) (aK (by omega) b84)) fun G => b0 (wp_ret ?_))))); exact rxv (.tup [.agg [.ref 5, .ref 6, .ref 4], bA true]) G [0, 1, 2, 5, 6, 4] (by have e1 : (okC p : Bool) = (true) := (by assumption); (first | rw [e1] | simp only [e1]) <;> rfl) (by show _ = mR [0, 1, 2, 5, 6, 4] (aK3 p); unfold aK3; have e2 : (caP p : List Int) = ([] ++ p.arrays) := (by rw [bY5 (by with_reducible assumption)]; rfl); rw [e2, bX6 (by with_reducible assumption)] <;> rfl)
 ·have q0 : (okC p) = false := (Eq.mp (ca5 _) h0); refine rT G _ h0 (wp_seq (G9 G e6 [(1, .ptr 3 0), (2, .ptr 4 0), (3, bA false), (4, .ptr 7 0)] fun G => b0 (wp_ret (o8 ?_)))); obtain ⟨ρ, G⟩ := G.nil 8 3 (.ints []) 1 (dI p.vars :: dI p.arrays :: dT p.body :: .box (pL 0) :: .box [.ref 8, .v (.slice none 0 0), .v (.slice none 0 0)] :: (aK0 p [])) [(1, .ptr 3 0), (2, .ptr 4 0), (3, bA false), (4, .ptr 7 0)]; obtain ⟨ρ, G⟩ := G.nil 9 3 (.ints []) 1 (dI p.vars :: dI p.arrays :: dT p.body :: .box (pL 0) :: .box [.ref 8, .ref 9, .v (.slice none 0 0)] :: (aK0 p [.row 3 (D.ints [])])) [(1, .ptr 3 0), (2, .ptr 4 0), (3, bA false), (4, .ptr 7 0)]; obtain ⟨ρ, G⟩ := G.nil 10 60 (.instrs []) 5 (dI p.vars :: dI p.arrays :: dT p.body :: .box (pL 0) :: .box (pL 8) :: (aK0 p [.row 3 (D.ints []), .row 3 (D.ints [])])) [(1, .ptr 3 0), (2, .ptr 4 0), (3, bA false), (4, .ptr 7 0)]; exact rxv (.tup [pA 8, bA false]) G [0, 1, 2, 8, 9, 10] (by have e1 : (okC p : Bool) = (false) := (by assumption); (first | rw [e1] | simp only [e1]) <;> rfl) (by show _ = mR [0, 1, 2, 8, 9, 10] (aK3 p); unfold aK3; have e2 : (caP p : List Int) = ([]) := (by rw [b64 (by with_reducible assumption)]; done); have e3 : ((l8 p).fst : List d7) = ([]) := (by rw [aC3 (by with_reducible assumption)]; done); rw [e2, e3, b62 (by with_reducible assumption)] <;> rfl)
def d9 (b : List UInt8) (j : Int) : b6 × Int := (⟨(r8 b j).vars, (r8 b j).arrays, (clD b (z8 b j).2 (r8 b j).vars.length (r8 b j).arrays.length).1⟩, (clD b (z8 b j).2 (r8 b j).vars.length (r8 b j).arrays.length).2)
theorem bx8 (b : List UInt8) {j : Int} (hj : 0 ≤ j) (hj2 : j ≤ 10000000) : j + 2 ≤ (z8 b j).2 ∧ (z8 b j).2 ≤ j + 150000 := by
 have h1 := bx9 b hj hj2
 have h2 := bt4 b hj hj2
 omega
theorem br3 (b : List UInt8) (j : Int) : (r8 b j).vars.length ≤ 12 ∧ (r8 b j).arrays.length ≤ 2 ∧ 1 ≤ (r8 b j).vars.length := by
 have h := bm4 (br5 b j)
 have := (bg6 (br5 b j)).2.2.1
 omega
theorem bG5 (b : List UInt8) {j : Int} (hj : 0 ≤ j) (hj2 : j ≤ 10000000) : j + 3 ≤ (d9 b j).2 ∧ (d9 b j).2 ≤ j + 150100 ∧ (d9 b j).1.list.length ≤ 12 ∧ 1 ≤ (d9 b j).1.list.length := by
 have h1 := bx8 b hj hj2
 have h2 := b63 b (j := (z8 b j).2) (r8 b j).vars.length (r8 b j).arrays.length (by omega) (by omega)
 have h3 := bO0 b (j := (z8 b j).2) (by omega) (by omega)
 have e : (d9 b j).1.list.length = (clD b (z8 b j).2 (r8 b j).vars.length (r8 b j).arrays.length).1.length := rfl
 have e2 : (d9 b j).2 = (clD b (z8 b j).2 (r8 b j).vars.length (r8 b j).arrays.length).2 := rfl
 rw [e, e2]
 omega
section
variable {b : List UInt8} {j : Int}
end
section
variable {ars vs : List Int} {pc : Int} {bd : List c8} {e : d8} {d k : Nat}
end
section
variable {ars vs : List Int} {bd : List c8} {m pc : Int} {t : c8} {nv dd : Nat}
end
section
variable {ars vs : List Int} {bd : List c8} {m pc l : Int} {t : c8} {nv dd : Nat}
end
section
variable {ars vs : List Int} {bd : List c8} {m pc : Int} {ss : List c8} {nv d k : Nat}
end
theorem i7.sel {ι : Type} {φ ψ : Nat → Prop} {w0 w : World} {F : ι → Rs} {ρ : Nat → Value} {S S1 : List It} {js : List Nat} (M : i7 φ ψ w0 w (l7 F ρ (o5 S))) (hn : js.Nodup) (hl : js.length = S1.length) (hS : js.map (o5 S) = S1.map (It.ren (nth js))) : i7 φ ψ w0 w (l7 F (fun i => ρ (nth js i)) (o5 S1)) := by
 refine M.map (fun k : ι ⊕ Nat => (match k with | .inl i => some (.inl i) | .inr i => if i < js.length then some (.inr (nth js i)) else none : Option (ι ⊕ Nat))) ?_ ?_
 ·intro k k' x h1 h2
  match k, k' with
  | .inl i, .inl i' => simp at h1 h2; rw [← h1] at h2; simpa using h2.symm
  | .inl i, .inr j => simp only at h1 h2; cases h1; split at h2 <;> simp at h2
  | .inr j, .inl i => simp only at h1 h2; cases h2; split at h1 <;> simp at h1
  | .inr j, .inr j' =>
   simp at h1 h2
   obtain ⟨f1, f2⟩ := h1
   obtain ⟨g1, g2⟩ := h2
   rw [← f2] at g2
   have hj := Sum.inr.inj g2
   have e1 := b72 f1
   have e2 := b72 g1
   rw [H1 e2, H1 e1] at hj
   have := (List.getElem?_inj f1 hn).1 (e1.trans (by rw [← hj]; exact e2.symm))
   rw [this]
 ·intro k
  match k with
  | .inl i => exact .inl ⟨_, rfl, rfl⟩
  | .inr i =>
   by_cases hlt : i < js.length
   ·refine .inl ⟨.inr (nth js i), by simp [hlt], ?_⟩
    have h1 := congrArg (·[i]?) hS
    have hlt' : i < S1.length := by omega
    simp only [List.getElem?_map, b72 hlt, b72 hlt', Option.map_some, Option.some.injEq] at h1
    simp only [l7]
    rw [ap6 hlt', H1 (b72 hlt), h1, ← It.res_ren, H1 (b72 hlt)]
   ·refine .inr ?_
    simp only [l7]
    rw [y8 (by omega)]
    rfl
theorem l0.twice {P : Program} {f : FuncId} {args : List AV} {pre S : List It} {d : D} {res : AV} {i : Nat} (hc : l0.ok P ⟨f, args, pre, S, res⟩) (S1 : List It) (hi : S[i]? = some (.dat d)) (hl : pre.length ≤ S.length)
  (hS : S.all (fun x => aa0 S.length x.ids) = true) (hg : aa0 S.length res.ids = true) (hl1 : S1.length = S.length + 1) (hd : o5 S1 S.length = .dat d) (h2 : ∀ ρ : Nat → Value, ρ S.length = ρ i → ∀ j, j < S.length → (o5 S1 j).res ρ j = (o5 S j).res ρ j) : l0.ok P ⟨f, args, pre, S1, res⟩ := by
 intro ι φ ψ w0 w F ρ M
 refine (hc ι φ ψ w0 w F ρ M).mono ?_
 rintro x w' ⟨ρ1, h1, rfl, M1⟩
 have hi' : o5 S i = .dat d := by simp [o5, hi]
 have hlt : i < S.length := (b77.1 hi).1
 have hinv : Inv (o5 S) ρ1 [S.length] := fun ρ' h j => by
  by_cases hj : j < S.length
  ·refine It.res_congr _ (fun k hk => h k ?_) (.inr (.inr (h j (by simp; omega))))
   have h1 := I2 (b80.1 hS (S[j]) (b91 hj)) k (by simpa [o5, b75, b72 hj] using hk)
   simp; omega
  ·rw [show o5 S j = .none by simp only [o5, b75, b98 (Nat.le_of_not_lt hj)]; rfl]; rfl
 obtain ⟨ρ2, h3, M2, h4⟩ := M1.newDat (id := S.length) (by simp [o5]) hinv (M1.datAt hi')
 have hρ : ρ2 i = ρ1 i := h3 i (by simp; omega)
 have e : l7 F ρ2 (m7 (o5 S) [(S.length, .dat d)]) = l7 F ρ2 (o5 S1) := by
  funext k
  cases k with
  | inl q => rfl
  | inr j =>
   simp only [l7, m7]
   by_cases hj : j = S.length
   ·subst hj; rw [if_pos rfl, hd]
   ·rw [if_neg hj]
    by_cases hj2 : j < S.length
    ·exact (h2 ρ2 (by rw [← h4, hρ]) j hj2).symm
    ·rw [y8 (by omega), y8 (by omega)]
 rw [e] at M2
 refine ⟨ρ2, fun k hk => by
  have hk : k < pre.length := hk
  rw [h3 k (by simp; omega)]; exact h1 k hk, ?_, M2⟩
 exact congrArg _ (AV.val_congr res fun k hk => by
  have := I2 hg k hk
  exact h3 k (by simp; omega)).symm
theorem bk3 (c : List UInt8) : l0.ok Tryz.prog ⟨21, [.ref 0], [dY c], [dY c, .box [.ref 2, iA 0], dY (bsD c)], .ptr 1 0⟩ := by
 by_cases h : c.length ≤ 2000
 ·have e : bsD c = c := b89 h
  rw [e]
  refine l0.twice (a82 c h) (i := 0) _ rfl (by show (1 : Nat) ≤ 2; omega) rfl rfl rfl rfl fun ρ hρ j hj => ?_
  have hj : j < 2 := hj
  match j, hj with
  | 0, _ => rfl
  | 1, _ =>
   have hρ : ρ 2 = ρ 0 := hρ
   simp only [o5, b75, b82, b81, Option.getD_some, It.res, AV.vals, AV.val, hρ]
 ·exact a81 c (by omega)
abbrev cdC (b : List UInt8) (j : Int) : l0 := ⟨47, [.ptr 0 0], [.box [.ref 1, iA j], dY b], [.box [.ref 1, iA (d9 b j).2], dY b, rI (d9 b j).1.vars, rI (d9 b j).1.arrays, rN (d9 b j).1.list], .agg [.ref 2, .ref 3, .ref 4]⟩
abbrev O9 (b : List UInt8) (j X : Int) (k : Nat) : List d7 × Int := rsD b ((z8 b j).2 + 1) (r8 b j).vars.length (r8 b j).arrays.length X k
section
variable {b : List UInt8} {j X : Int} {k : Nat}
theorem bY1 (hX : nm b (z8 b j).2 lnL = X) (hk : (k : Int) = X - 1) (h3 : ¬ X > 3) : (d9 b j).1.list = (O9 b j X k).1 ++ [⟨13, 0, 0, 0, 0⟩] ∧ (d9 b j).2 = (O9 b j X k).2 := by
 obtain rfl : k = (X - 1).toNat := by omega
 unfold d9 clD
 simp only [hX, if_neg h3]
 constructor <;> first | trivial | rfl
theorem bY0 (hX : nm b (z8 b j).2 lnL = X) (hk : (k : Int) = X - 1) (h3 : X > 3) (h : ¬ pk b (O9 b j X k).2 4 = 0) : (d9 b j).1.list = (O9 b j X k).1 ++ [⟨13, 0, 0, 0, 0⟩] ∧ (d9 b j).2 = (O9 b j X k).2 + 1 := by
 obtain rfl : k = (X - 1).toNat := by omega
 unfold O9 at h
 unfold d9 clD
 simp only [hX, if_pos h3, if_neg h]
 constructor <;> first | trivial | rfl
theorem bX9 (hX : nm b (z8 b j).2 lnL = X) (hk : (k : Int) = X - 1) (h3 : X > 3) (h : pk b (O9 b j X k).2 4 = 0) : (d9 b j).1.list = (((O9 b j X k).1 ++ [(⟨13, 0, 0, 0, 0⟩ : d7)]).set 0 ⟨1, 5, 1 + pk b ((O9 b j X k).2 + 1) 3, 0, 0⟩).set (X - 2).toNat ⟨10, 5, 1, 0, 0⟩ ∧ (d9 b j).2 = (O9 b j X k).2 + 1 + 1 := by
 obtain rfl : k = (X - 1).toNat := by omega
 unfold O9 at h
 unfold d9 clD
 simp only [hX, if_pos h3, if_pos h]
 constructor
 ·first | trivial | rfl
 ·exact (Int.add_assoc _ 1 1).symm
theorem pw3 (b : List UInt8) {i : Int} (h0 : 0 ≤ i) (h1 : i ≤ 1000000000) : IntKind.i64.wrap (1 + pk b i 3) = 1 + pk b i 3 := by
 have := ab0 b (i := i) (m := 3) h0 h1
 exact w64 (by omega) (by omega)
theorem bT4 (b : List UInt8) {j : Int} (X : Int) (r0 : 0 ≤ j) (r1 : j ≤ 10000000) (k : Nat) : (O9 b j X k).1.length = k ∧ (z8 b j).2 + 1 ≤ (O9 b j X k).2 ∧ (O9 b j X k).2 ≤ (z8 b j).2 + 1 + 5 * k :=
 bM0 b ((z8 b j).2 + 1) _ _ X k
end
abbrev aG8 (b : List UInt8) (j : Int) (X : Int) (k : Nat) := U8 b (O9 b j X k).snd (r8 b j).vars.length (r8 b j).arrays.length (k : Int) X
abbrev aG7 (b : List UInt8) (j : Int) : List It := [.box [.ref 1, iA (d9 b j).snd], dY b, .row 3 (D.ints (d9 b j).fst.vars), .row 3 (D.ints (d9 b j).fst.arrays), .row 60 (D.instrs (d9 b j).fst.list)]
abbrev aR8 : It := .box [.v (.slice none 0 0), .v (.slice none 0 0), .v (.slice none 0 0)]
abbrev ax3 (b : List UInt8) (j : Int) : It := .row 3 (D.ints (r8 b j).arrays)
abbrev ax2 (b : List UInt8) (j : Int) : It := .row 3 (D.ints (r8 b j).vars)
abbrev bI0 (b : List UInt8) (j : Int) (X : Int) (k : Nat) : It := .row 60 (D.instrs ((((O9 b j X k).fst ++ ([d7.mk 13 0 0 0 0] ++ [])).set 0 (d7.mk 1 5 (1 + pk b ((O9 b j X k).snd + 1) 3) 0 0)).set (X - 2).toNat (d7.mk 10 5 1 0 0)))
abbrev ba2 (b : List UInt8) (j : Int) (X : Int) (k : Nat) : It := .row 60 (D.instrs ((O9 b j X k).fst ++ ([d7.mk 13 0 0 0 0] ++ [])))
abbrev ar5 (X : Int) (r0 : List (Nat × AV)) : List (Nat × AV) := (0, .ptr 0 0) :: (2, .ptr 2 0) :: (4, .ptr 5 0) :: (5, iA X) :: r0
abbrev aw7 (b : List UInt8) (j : Int) (r0 : List It) : List It := dY b :: aR8 :: ax2 b j :: ax3 b j :: .box [.ref 3, .ref 4, .ref 6] :: r0
theorem bp0 (b : List UInt8) (j X : Int) (hX : nm b (z8 b j).2 lnL = X) (r0 : 0 ≤ j) (r1 : j ≤ 10000000) : l0.ok Tryz.prog (cdC b j) := by
  have hbd := bx8 b r0 r1; have hnum : l0.ok Tryz.prog ⟨46, [.ptr 0 0, .ref 2], [.box [.ref 1, iA (z8 b j).2], dY b, dI lnL], [.box [.ref 1, iA ((z8 b j).2 + 1)], dY b, dI lnL], iA X⟩ := hX ▸ O5 b (z8 b j).2 lnL (List.cons_ne_nil _ _) (by omega) (by omega); refine J8 60 Tryz.func47 [.box [.ref 1, iA j], dY b] [(0, .ptr 0 0)] fun G => ?_; have hop : 1 ≤ X ∧ X ≤ 12 := hX ▸ bO0 b (by omega) (by omega); refine wp_seq (i9 G e6 [0, 1, 2] [.box [.ref 1, iA j], dY b, aR8] [(0, .ptr 0 0), (2, .ptr 2 0)] fun G => b0 (wp_seq (i9 G (v5 1 [0, 1] (af4 b j (by assumption) (by assumption))) [0, 1, 2, 11, 12, 13, 19] [.box [.ref 1, iA (z8 b j).snd], dY b, aR8, ax2 b j, ax3 b j, .tree (D.stmts (r8 b j).body), .box [.ref 3, .ref 4, .tref 5]] [(0, .ptr 0 0), (2, .ptr 2 0), (3, .ptr 6 0)] fun G => b0 (wp_seq (i9 G e6 [0, 1, 2, 3, 4, 47] [.box [.ref 1, iA (z8 b j).snd], dY b, aR8, ax2 b j, ax3 b j, .box [.ref 3, .ref 4, .v (.slice none 0 0)]] [(0, .ptr 0 0), (2, .ptr 2 0), (4, .ptr 5 0)] fun G => b0 (wp_seq (i9 G (v5 2 [0, 1, 14] (l0.lend hnum [.no, .no, .row 3])) (rg 6) [.box [.ref 1, iA ((z8 b j).snd + 1)], dY b, aR8, ax2 b j, ax3 b j, .box [.ref 3, .ref 4, .v (.slice none 0 0)]] (ar5 X []) fun G => b0 (wp_seq (wp_seq (G9 G e6 (ar5 X [(6, iA 0)]) fun G => b0 (wp_block ?_))))))))))); obtain ⟨ρ, G⟩ := G.nil 6 60 (.instrs []) 5 [.box [.ref 1, iA ((z8 b j).snd + 1)], dY b, .box [.v (.slice none 0 0), .v (.slice none 0 0), .v (.slice none 0 0)], .row 3 (D.ints (r8 b j).vars), .row 3 (D.ints (r8 b j).arrays), .box [.ref 3, .ref 4, .ref 6]] (ar5 X [(6, iA 0)]); refine x6 (κ := Nat) (fun k => (k : Int) ≤ X - 1) (fun k => (X - 1).toNat - k) (fun k => (.box [.ref 1, iA (O9 b j X k).2] :: (aw7 b j [.row 60 (.instrs (O9 b j X k).1)]))) (fun k => (ar5 X [(6, iA k)])) 0 (by omega) (t7.at G _ _) ?_; clear G; intro k ρ a w hp G; replace G := t7.at G (.box [.ref 1, iA (O9 b j X k).snd] :: (aw7 b j [.row 60 (D.instrs (O9 b j X k).fst)])) (ar5 X [(6, iA k)]); have hrs := bT4 b X r0 r1 k; refine wp_seq (wp_seq (D0 G e6 [(20, bA (decide ((k : Int) < X - 1)))] [wO (X - 1)] (o1 (by omega)) fun G => b0 (rcD G (fun h0 q0 => ?_) fun h0 q0 => ?_)))
  ·
   refine wp_exit (v9 (v9 (v6 (b0 (wp_seq (K6 G e6 [0, 1, 2, 3, 4, 5, 39] (.box [.ref 1, iA (O9 b j X k).snd] :: (aw7 b j [ba2 b j X k])) (ar5 X []) (aP ((O9 b j X k).fst.length + ([d7.mk (13 : Int) (0 : Int) (0 : Int) (0 : Int) (0 : Int)] ++ []).length) 40 []) (aK (by simp only [b74, b79, b85, b95]; omega) b84) fun G => b0 (wp_seq (wp_seq ?_)))))))); cases h1 : (decide (X > 3))
   · have q1 := Z3 h1; refine l6 G (J3 (fc h1 fz) [(3, 0), (4, 0), (5, 0), (1006, 0)]) [(45, bA false)] fun G => b0 (rF G false (by kernel_rfl) (wp_skip (b0 (wp_seq (i9 G e6 [0, 1, 2, 3, 4, 6] [.box [.ref 1, iA (O9 b j X k).snd], dY b, .box (pL 3), ax2 b j, ax3 b j, ba2 b j X k] [(2, .ptr 2 0)] fun G => b0 (wp_ret ?_)))))); exact J9 G [0, 1, 3, 4, 5] (by show _ = mR [0, 1, 3, 4, 5] (aG7 b j); unfold aG7; have e1 : ((d9 b j).snd : Int) = ((O9 b j X k).snd) := ((bY1 hX (by omega) (by omega)).2); have e2 : ((d9 b j).fst.list : List d7) = ((O9 b j X k).fst ++ ([d7.mk 13 0 0 0 0] ++ [])) := ((bY1 hX (by omega) (by omega)).1); (first | rw [e1, e2] | simp only [e1, e2]) <;> rfl)
   ·
    have q1 := Z2 h1; refine i9 G (T4 (F9 4 [0, 1] (s4 b ((O9 b j X k).snd) 4 (by omega) (by omega)) T3) (fc h1 fz) [(3, 0), (4, 0), (5, 0), (1006, 0)]) (rg 7) (.box [.ref 1, iA ((O9 b j X k).snd + 1)] :: (aw7 b j [ba2 b j X k])) (ar5 X [(45, bA (pk b (O9 b j X k).snd 4 == 0))]) fun G => b0 (P0 G (fun h2 q2 => ?_) fun h2 q2 => ?_)
    · refine wp_skip (b0 (wp_seq (i9 G e6 [0, 1, 2, 3, 4, 6] [.box [.ref 1, iA ((O9 b j X k).snd + 1)], dY b, .box (pL 3), ax2 b j, ax3 b j, ba2 b j X k] [(2, .ptr 2 0)] fun G => b0 (wp_ret ?_)))); exact J9 G [0, 1, 3, 4, 5] (by show _ = mR [0, 1, 3, 4, 5] (aG7 b j); unfold aG7; have e1 : ((d9 b j).snd : Int) = ((O9 b j X k).snd + 1) := ((bY0 hX (by omega) (by omega) (by omega)).2); have e2 : ((d9 b j).fst.list : List d7) = ((O9 b j X k).fst ++ ([d7.mk 13 0 0 0 0] ++ [])) := ((bY0 hX (by omega) (by omega) (by omega)).1); (first | rw [e1, e2] | simp only [e1, e2]) <;> rfl)
    · refine wp_seq (H5 G (v5 3 [0, 1] (s4 b ((O9 b j X k).snd + 1) 3 (by omega) (by omega))) [0, 1, 0, 4, 12, 28, 63, 127] (rg 7) (.box [.ref 1, iA ((O9 b j X k).snd + 1 + 1)] :: (aw7 b j [.row 60 (D.instrs (((O9 b j X k).fst ++ ([d7.mk 13 0 0 0 0] ++ [])).set 0 (d7.mk 1 5 (1 + pk b ((O9 b j X k).snd + 1) 3) 0 0)))])) [(2, .ptr 2 0), (4, .ptr 5 0), (5, iA X)] [wO ((1 : Int) + pk b ((O9 b j X k).snd + 1) (3 : Int)), (0 : Int) ≤ 0, (0 : Int) < (((O9 b j X k).fst ++ ([d7.mk (13 : Int) (0 : Int) (0 : Int) (0 : Int) (0 : Int)] ++ [])).length : Int), (0 : Nat) < ((O9 b j X k).fst ++ ([d7.mk (13 : Int) (0 : Int) (0 : Int) (0 : Int) (0 : Int)] ++ [])).length] ⟨(pw3 b (by omega) (by omega)), (by omega), (by simp [h0, h1, h2]), (by simp [h0, h1, h2]), b84⟩ fun G => b0 (K6 G e6 (rg 7) (.box [.ref 1, iA ((O9 b j X k).snd + 1 + 1)] :: (aw7 b j [bI0 b j X k])) [(2, .ptr 2 0), (4, .ptr 5 0)] [wO (X - 2), (0 : Int) ≤ X - 2, X - 2 < ((((O9 b j X k).fst ++ ([d7.mk (13 : Int) (0 : Int) (0 : Int) (0 : Int) (0 : Int)] ++ [])).set (0 : Nat) (d7.mk (1 : Int) (5 : Int) ((1 : Int) + pk b ((O9 b j X k).snd + 1) (3 : Int)) (0 : Int) (0 : Int))).length : Int), (X - 2).toNat < (((O9 b j X k).fst ++ ([d7.mk (13 : Int) (0 : Int) (0 : Int) (0 : Int) (0 : Int)] ++ [])).set (0 : Nat) (d7.mk (1 : Int) (5 : Int) ((1 : Int) + pk b ((O9 b j X k).snd + 1) (3 : Int)) (0 : Int) (0 : Int))).length] ⟨oW (by omega), (by omega), (by simp only [b74, b79, b85, b95]; omega), (by simp only [b74, b79, b85, b95]; omega), b84⟩ fun G => b0 (wp_seq (i9 G e6 [0, 1, 2, 3, 4, 6] [.box [.ref 1, iA ((O9 b j X k).snd + 1 + 1)], dY b, .box (pL 3), ax2 b j, ax3 b j, bI0 b j X k] [(2, .ptr 2 0)] fun G => b0 (wp_ret ?_))))); exact J9 G [0, 1, 3, 4, 5] (by show _ = mR [0, 1, 3, 4, 5] (aG7 b j); unfold aG7; have e1 : ((d9 b j).snd : Int) = ((O9 b j X k).snd + 1 + 1) := ((bX9 hX (by omega) (by omega) (by omega)).2); have e2 : ((d9 b j).fst.list : List d7) = ((((O9 b j X k).fst ++ ([d7.mk 13 0 0 0 0] ++ [])).set 0 (d7.mk 1 5 (1 + pk b ((O9 b j X k).snd + 1) 3) 0 0)).set (X - 2).toNat (d7.mk 10 5 1 0 0)) := ((bX9 hX (by omega) (by omega) (by omega)).1); (first | rw [e1, e2] | simp only [e1, e2]) <;> rfl)
  · refine wp_skip (b0 (wp_seq (wp_block (H5 G (v5 6 [0, 1, 3, 4, 6] (l0.lend (a74 b ((O9 b j X k).snd) ((r8 b j).vars) ((r8 b j).arrays) ((O9 b j X k).fst) ((k : Int)) X (by omega) (by omega) (by omega) (by omega)) [.no, .no, .row 3, .row 3, .row 60])) [0, 1, 0, 0, 0, 0, 60, 124, 255, 511, 1023] [0, 1, 2, 3, 4, 5, 71] (.box [.ref 1, iA (aG8 b j X k).snd] :: (aw7 b j [.row 60 (D.instrs ((O9 b j X k).fst ++ ([d7.mk (aG8 b j X k).fst.op (aG8 b j X k).fst.a (aG8 b j X k).fst.b (aG8 b j X k).fst.c (aG8 b j X k).fst.d] ++ [])))])) (ar5 X [(6, iA k)]) (aP ((O9 b j X k).fst.length + ([d7.mk (U8 b (O9 b j X k).snd (r8 b j).vars.length (r8 b j).arrays.length (k : Int) X).fst.op (U8 b (O9 b j X k).snd (r8 b j).vars.length (r8 b j).arrays.length (k : Int) X).fst.a (U8 b (O9 b j X k).snd (r8 b j).vars.length (r8 b j).arrays.length (k : Int) X).fst.b (U8 b (O9 b j X k).snd (r8 b j).vars.length (r8 b j).arrays.length (k : Int) X).fst.c (U8 b (O9 b j X k).snd (r8 b j).vars.length (r8 b j).arrays.length (k : Int) X).fst.d] ++ []).length) 40 []) (aK (by simp only [b74, b79, b85, b95]; omega) b84) fun G => i8 (b0 (D0 G e6 [(6, iA ((k : Int) + 1))] [wO ((k : Int) + 1)] (o1 (by omega)) fun G => b0 ?_)))))); exact L0 G (k + 1) (by assumption) (by omega) (rg 7)
end Go.Proofs.YtmokkddidcmglaaGreat
