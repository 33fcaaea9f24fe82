/- Part 6: functions on the way, plain laws. Conditions: as said. -/
import Derived.Test.YtmokkddidcmglaaGreatK1
import Derived.Test.YtmokkddidcmglaaGreatK2
import Derived.Test.YtmokkddidcmglaaGreatK5
set_option maxRecDepth 100000
set_option maxHeartbeats 16000000
set_option linter.unusedVariables false
set_option linter.unusedSimpArgs false
open Bool renaming and_eq_true → cb0, not_eq_true' → cf0
open Inhabited renaming default → ca9
open List renaming all_eq_true → cb9, append_assoc → cf7, eq_nil_of_length_eq_zero → cc8, getD_eq_getElem?_getD → cb3, getElem?_append_left → cd5, getElem?_append_right → cg0, getElem?_cons_succ → cb5, getElem?_cons_zero → cb4, getElem?_eq_getElem → ca8, getElem?_eq_none → cd6, getElem?_eq_some_iff → cb6, getElem_mem → cd1, length_append → cb2, length_cons → cb8, length_nil → cc1, length_replicate → cd0, length_set → cd2, map_cons → cd7, mem_append → cc4, mem_cons_of_mem → ce5, mem_cons_self → ce6, mem_singleton → cd4, nil_append → cf8, replicate → ca7, take → cc0, take_of_length_le → cc6
open Nat renaming le_refl → cb1, le_trans → cd3, lt_or_ge → cc9, zero_add → cf2, zero_le → cc7
open True renaming intro → cc2

namespace Go.Proofs.YtmokkddidcmglaaGreat
open Go Go.RowKit
abbrev stO (s : c8) : List It := [.tree (.exprs s.index.kids), .tree (.exprs s.value.kids), .tree (.stmts s.body), .tree (.stmts s.els)]
abbrev stA (s : c8) (r : Nat) : AV := .agg [iA s.kind, iA s.target, iA s.index.kind, iA s.index.value, .tref r, iA s.value.kind, iA s.value.value, .tref (r + 1), iA s.count, .tref (r + 2), .tref (r + 3)]
abbrev dsC (b : List UInt8) (vs ars : List Int) (bd : List c8) (d : Nat) (j n : Int) : j9 := ⟨92, [.ptr 0 0, pA 2, iA n], dwS b j vs ars bd, dwS b (C4 b vs.length ars.length d j).2 vs ars bd ++ stO (C4 b vs.length ars.length d j).1, stA (C4 b vs.length ars.length d j).1 5⟩
abbrev dbC (b : List UInt8) (vs ars : List Int) (bd : List c8) (d : Nat) (m : Nat) (j n c : Int) : j9 := ⟨76, [.ptr 0 0, pA 2, iA n, iA c], dwS b j vs ars bd, dwS b (G7 (C4 b vs.length ars.length d) m j).2 vs ars bd ++ [.tree (.stmts (G7 (C4 b vs.length ars.length d) m j).1)], .tref 5⟩
section
variable {b : List UInt8} {nv na d : Nat} {j : Int}
theorem br7 (h : nm b j K2 = 2) (h1 : 0 < (na : Int)) : C4 b nv na d j = soS b nv na (j + 1) := by
 cases d <;> (rw [C4, if_pos ⟨h, by omega⟩])
theorem bU7 (h : nm b j K2 = 3) (h1 : 0 < d) : C4 b nv na (d + 1) j = ifS b nv na (C4 b nv na d) (j + 1) := by
 rw [C4, if_neg (by omega), if_pos ⟨h, by omega⟩]
theorem bU6 (h : nm b j K2 = 4) (h1 : 0 < d) : C4 b nv na (d + 1) j = rpS b (C4 b nv na d) (j + 1) := by
 rw [C4, if_neg (by omega), if_neg (by omega), if_pos ⟨h, by omega⟩]
theorem af5 (h : ¬ (nm b j K2 = 2 ∧ 0 < (na : Int))) (h1 : d < 2 ∨ (¬ nm b j K2 = 3 ∧ ¬ nm b j K2 = 4)) : C4 b nv na d j = dfS b nv na (nm b j K2) (j + 1) := by
 match d, h1 with
 | 0, _ => rw [C4, if_neg (by omega)]
 | d + 1, h1 => rw [C4, if_neg (by omega), if_neg (by omega), if_neg (by omega)]
theorem bS2 {kd : Int} (h : kd = 5) : dfS b nv na kd j = (⟨5, pk b j nv, noE, (w6 b nv na (j + 1)).1, 0, [], []⟩, (w6 b nv na (j + 1)).2) := by rw [dfS, if_pos h]
theorem a21 {kd : Int} (h : ¬ kd = 5) : dfS b nv na kd j = (⟨1, pk b j nv, noE, (w6 b nv na (j + 1)).1, 0, [], []⟩, (w6 b nv na (j + 1)).2) := by rw [dfS, if_neg h]
end
section
variable (b : List UInt8) {j : Int}
theorem b98 (r0 : 0 ≤ j) (r1 : j ≤ 1000000000) : 0 ≤ nm b j ibL ∧ nm b j ibL ≤ 2 := aK1 b (by simp) a97 r0 r1
theorem b97 (r0 : 0 ≤ j) (r1 : j ≤ 1000000000) : 0 ≤ nm b j ieL ∧ nm b j ieL ≤ 2 := aK1 b (by simp) a95 r0 r1
theorem b58 (r0 : 0 ≤ j) (r1 : j ≤ 1000000000) : 0 ≤ nm b j rbL ∧ nm b j rbL ≤ 2 := aK1 b (by simp) a71 r0 r1
theorem bJ4 (d : Nat) : (d = 0 ∧ cS (d - 1) = 402 ∧ cS d ≤ 2010) ∨ cS d = 402 + 4 * cS (d - 1) := by
 cases d with
 | zero => exact .inl ⟨rfl, rfl, by decide⟩
 | succ d => exact .inr rfl
end
section
variable {b : List UInt8} {nv na d : Nat} {j : Int}
theorem a57 (h : nm b j K2 = 3) (h1 : 1 < d) : C4 b nv na d j = ifS b nv na (C4 b nv na (d - 1)) (j + 1) := by
 match d, h1 with
 | d + 1, h1 => exact bU7 h (by omega)
theorem a56 (h : nm b j K2 = 4) (h1 : 1 < d) : C4 b nv na d j = rpS b (C4 b nv na (d - 1)) (j + 1) := by
 match d, h1 with
 | d + 1, h1 => exact bU6 h (by omega)
end
abbrev bK5 (b : List UInt8) (vs : List Int) (ars : List Int) (d : Nat) (j : Int) (k : Nat) := C4 b vs.length ars.length d (G7 (C4 b vs.length ars.length d) k j).snd
abbrev aT6 (n : Int) (c : Int) (r0 : List (Nat × AV)) : List (Nat × AV) := (0, .ptr 0 0) :: (2, iA n) :: (3, iA c) :: (5, .ptr 5 0) :: (8, .v (.slice none 0 0)) :: r0
theorem bF3 (b : List UInt8) (vs ars : List Int) (bd : List c8) (d m : Nat) (ih : ∀ (j n : Int), n = d → 0 ≤ j → j + cS d ≤ 600000000 → j9.ok Tryz.prog (dsC b vs ars bd d j n)) (j n c : Int) (hn : n = d) (hm : c = m) (hm2 : m ≤ 4) (B : Int) (hB : (m : Int) * cS d ≤ B) (r0 : 0 ≤ j) (r1 : j + B ≤ 600000000) : j9.ok Tryz.prog (dbC b vs ars bd d m j n c) := by
 refine K9 25 Tryz.func76 [.box [.ref 1, iA j], dY b, dI vs, dI ars, dT bd] [(0, .ptr 0 0), (1, pA 2), (2, iA n), (3, iA c)] fun G => ?_; have hc := av5 d; refine wp_seq (l0 G f8 (rg 6) [.box [.ref 1, iA j], dY b, dI vs, dI ars, dT bd, .box (pL 2)] (aT6 n c []) fun G => b0 (wp_seq (l0 G f8 (rg 7) [.box [.ref 1, iA j], dY b, dI vs, dI ars, dT bd, .box (pL 2), .tree (D.stmts [])] (aT6 n c [(9, .tref 6)]) fun G => b0 (wp_seq (wp_seq (I8 G f8 (aT6 n c [(9, .tref 6), (10, iA 0)]) fun G => b0 (wp_block ?_))))))); refine A8 (κ := Nat) (fun k => k ≤ m) (fun k => m - k) (fun k => [.box [.ref 1, iA (G7 (C4 b vs.length ars.length d) k j).2], dY b, dI vs, dI ars, dT bd, .box (pL 2), .tree (.stmts (G7 (C4 b vs.length ars.length d) k j).1)]) (fun k => [(0, .ptr 0 0), (2, iA n), (3, iA c), (5, .ptr 5 0), (8, .v (.slice none 0 0)), (9, .tref 6), (10, iA k)]) 0 (by omega) (v5.at G _ _) ?_; clear G; intro k ρ a w hp G; replace G := v5.at G [.box [.ref 1, iA (G7 (C4 b vs.length ars.length d) k j).snd], dY b, dI vs, dI ars, dT bd, .box (pL 2), .tree (D.stmts (G7 (C4 b vs.length ars.length d) k j).fst)] (aT6 n c [(9, .tref 6), (10, iA k)]); have hkb := bN0 b vs.length ars.length (k := j) (i := k) hB (by omega) r0 (by omega); have hkl : (G7 (C4 b vs.length ars.length d) k j).1.length = k := aR3 _ _ _; refine wp_seq (wp_seq (m7 G f8 [(14, bA (decide ((k : Int) < c)))] fun G => b0 (rcD G (fun h0 q0 => ?_) fun h0 q0 => ?_)))
 ·refine wp_exit (A2 (A2 (A1 (b0 (wp_seq (l0 G f8 [0, 1, 2, 3, 4, 6] [.box [.ref 1, iA (G7 (C4 b vs.length ars.length d) k j).snd], dY b, dI vs, dI ars, dT bd, .tree (D.stmts (G7 (C4 b vs.length ars.length d) k j).fst)] [(8, .tref 5)] fun G => b0 (wp_ret ?_))))))); exact L6 G (rg 6) (by show _ = mR (rg 6) [.box [.ref 1, iA (G7 (C4 b vs.length ars.length d) m j).snd], dY b, dI vs, dI ars, dT bd, .tree (D.stmts (G7 (C4 b vs.length ars.length d) m j).fst)]; rw [show m = k by omega] <;> rfl)
 ·refine wp_skip (b0 (wp_seq (wp_block (V2 G (A4 4 (rg 5) (ih ((G7 (C4 b vs.length ars.length d) k j).snd) n (by assumption) (by omega) (by have := b29 b vs.length ars.length (k := j) (i := k) hB (by omega) r0 (by omega); omega))) [0, 1, 2, 3, 4, 5, 55] [.box [.ref 1, iA (bK5 b vs ars d j k).snd], dY b, dI vs, dI ars, dT bd, .box (pL 2), .tree (D.stmts ((G7 (C4 b vs.length ars.length d) k j).fst ++ [qzS (bK5 b vs ars d j k).fst]))] (aT6 n c [(9, .tref 6), (10, iA k)]) (aP ((G7 (C4 b vs.length ars.length d) k j).fst.length + 1) 152 []) (aK (by omega) cc2) fun G => t5 (b0 (O0 G f8 [(10, iA ((k : Int) + 1))] [wO ((k : Int) + 1)] (o1 (by omega)) fun G => b0 ?_)))))); exact rxn G (k + 1) (by omega) (by omega) (rg 7) (by have e1 : ((G7 (C4 b vs.length ars.length d) (k + 1) j).fst : List c8) = ((G7 (C4 b vs.length ars.length d) k j).fst ++ [qzS (C4 b vs.length ars.length d (G7 (C4 b vs.length ars.length d) k j).snd).fst]) := (by show _ ++ [_] = _ ++ [_]; unfold qzS; rw [d9.eta, d9.eta, c8.eta]; done); (first | rw [e1] | simp only [e1]) <;> rfl)
abbrev aI2 (b : List UInt8) (vs : List Int) (ars : List Int) (d : Nat) (j : Int) := G7 (C4 b vs.length ars.length (d - 1)) (nm b (w6 b vs.length ars.length (j + 1)).snd ibL).toNat ((w6 b vs.length ars.length (j + 1)).snd + 1)
abbrev bd7 (b : List UInt8) (vs : List Int) (ars : List Int) (d : Nat) (j : Int) := G7 (C4 b vs.length ars.length (d - 1)) (nm b (aI2 b vs ars d j).snd ieL).toNat ((aI2 b vs ars d j).snd + 1)
abbrev T8 (b : List UInt8) (vs : List Int) (ars : List Int) (d : Nat) (j : Int) : AV := (.agg [iA (C4 b vs.length ars.length d j).fst.kind, iA (C4 b vs.length ars.length d j).fst.target, iA (C4 b vs.length ars.length d j).fst.index.kind, iA (C4 b vs.length ars.length d j).fst.index.value, .tref 5, iA (C4 b vs.length ars.length d j).fst.value.kind, iA (C4 b vs.length ars.length d j).fst.value.value, .tref 6, iA (C4 b vs.length ars.length d j).fst.count, .tref 7, .tref 8])
abbrev T7 (b : List UInt8) (vs : List Int) (ars : List Int) (bd : List c8) (d : Nat) (j : Int) : List It := [.box [.ref 1, iA (C4 b vs.length ars.length d j).snd], dY b, dI vs, dI ars, dT bd, .tree (D.exprs (C4 b vs.length ars.length d j).fst.index.kids), .tree (D.exprs (C4 b vs.length ars.length d j).fst.value.kids), .tree (D.stmts (C4 b vs.length ars.length d j).fst.body), .tree (D.stmts (C4 b vs.length ars.length d j).fst.els)]
abbrev am7 : It := .box [iA 0, iA 0, iA 0, iA 0, .v (.slice none 0 0), iA 0, iA 0, .v (.slice none 0 0), iA 0, .v (.slice none 0 0), .v (.slice none 0 0)]
abbrev bd6 (b : List UInt8) (vs : List Int) (ars : List Int) (j : Int) : It := .box [iA 1, iA (pk b (j + 1) (vs.length : Int)), iA 0, iA 0, .v (.slice none 0 0), iA (w6 b vs.length ars.length (j + 1 + 1)).fst.kind, iA (w6 b vs.length ars.length (j + 1 + 1)).fst.value, .tref 7, iA 0, .v (.slice none 0 0), .v (.slice none 0 0)]
abbrev bd5 (b : List UInt8) (vs : List Int) (ars : List Int) (j : Int) : It := .box [iA 1, iA (pk b (j + 1) (vs.length : Int)), iA 0, iA 0, .v (.slice none 0 0), iA (w6 b vs.length ars.length (j + 1 + 1)).fst.kind, iA (w6 b vs.length ars.length (j + 1 + 1)).fst.value, .tref 6, iA 0, .v (.slice none 0 0), .v (.slice none 0 0)]
abbrev bd4 (b : List UInt8) (vs : List Int) (j : Int) : It := .box [iA 1, iA (pk b (j + 1) (vs.length : Int)), iA 0, iA 0, .v (.slice none 0 0), iA 0, iA 0, .v (.slice none 0 0), iA 0, .v (.slice none 0 0), .v (.slice none 0 0)]
abbrev aj4 (b : List UInt8) (vs : List Int) (ars : List Int) (j : Int) : It := .tree (D.exprs (w6 b vs.length ars.length (j + 1 + 1)).fst.kids)
abbrev aa3 (b : List UInt8) (vs : List Int) (ars : List Int) (j : Int) : It := .box [.ref 1, iA (w6 b vs.length ars.length (j + 1 + 1)).snd]
abbrev aM5 : It := .box [iA 1, iA 0, iA 0, iA 0, .v (.slice none 0 0), iA 0, iA 0, .v (.slice none 0 0), iA 0, .v (.slice none 0 0), .v (.slice none 0 0)]
abbrev bd0 (b : List UInt8) (vs : List Int) (ars : List Int) (bd : List c8) (j : Int) (r0 : List It) : List It := .box [.ref 1, iA (w6 b vs.length ars.length (j + 1 + 1)).snd] :: dY b :: dI vs :: dI ars :: dT bd :: .box [iA 1, iA (pk b (j + 1) (vs.length : Int)), iA 0, iA 0, .tref 7, iA (w6 b vs.length ars.length (j + 1 + 1)).fst.kind, iA (w6 b vs.length ars.length (j + 1 + 1)).fst.value, .tref 6, iA 0, .tref 8, .tref 9] :: .tree (D.exprs (w6 b vs.length ars.length (j + 1 + 1)).fst.kids) :: .tree (D.exprs []) :: .tree (D.stmts []) :: r0
abbrev bc9 (b : List UInt8) (vs : List Int) (ars : List Int) (bd : List c8) (j : Int) (r0 : List It) : List It := .box [.ref 1, iA (w6 b vs.length ars.length (j + 1 + 1)).snd] :: dY b :: dI vs :: dI ars :: dT bd :: .box [iA 1, iA (pk b (j + 1) (vs.length : Int)), iA 0, iA 0, .tref 7, iA (w6 b vs.length ars.length (j + 1 + 1)).fst.kind, iA (w6 b vs.length ars.length (j + 1 + 1)).fst.value, .tref 6, iA 0, .tref 8, .v (.slice none 0 0)] :: .tree (D.exprs (w6 b vs.length ars.length (j + 1 + 1)).fst.kids) :: .tree (D.exprs []) :: r0
abbrev bc8 (b : List UInt8) (vs : List Int) (ars : List Int) (bd : List c8) (j : Int) (r0 : List It) : List It := .box [.ref 1, iA (w6 b vs.length ars.length (j + 1 + 1)).snd] :: dY b :: dI vs :: dI ars :: dT bd :: .box [iA 1, iA (pk b (j + 1) (vs.length : Int)), iA 0, iA 0, .tref 7, iA (w6 b vs.length ars.length (j + 1 + 1)).fst.kind, iA (w6 b vs.length ars.length (j + 1 + 1)).fst.value, .tref 6, iA 0, .v (.slice none 0 0), .v (.slice none 0 0)] :: .tree (D.exprs (w6 b vs.length ars.length (j + 1 + 1)).fst.kids) :: r0
abbrev Y4 (r0 : List (Nat × AV)) : List (Nat × AV) := (0, .ptr 0 0) :: (4, .ptr 5 0) :: (6, .ptr 6 0) :: (8, .ptr 7 0) :: r0
abbrev aT5 (b : List UInt8) (vs : List Int) (ars : List Int) (d : Nat) (j : Int) (r0 : List It) : List It := .box [.ref 1, iA (G7 (C4 b vs.length ars.length (d - 1)) (nm b (j + 1 + 1) rbL).toNat (j + 1 + 1 + 1)).snd] :: dY b :: dI vs :: dI ars :: r0
abbrev am3 (n : Int) (r0 : List (Nat × AV)) : List (Nat × AV) := (0, .ptr 0 0) :: (2, iA n) :: (4, .ptr 5 0) :: (6, .ptr 6 0) :: r0
abbrev R9 (b : List UInt8) (vs : List Int) (ars : List Int) (bd : List c8) (r0 : List It) : List It := dY b :: dI vs :: dI ars :: dT bd :: .box (pL 2) :: am7 :: r0
abbrev bc7 (b : List UInt8) (vs : List Int) (ars : List Int) (j : Int) (r0 : List It) : List It := .tree (D.exprs (n7 b (vs.length : Int) (j + 1 + 1)).kids) :: .tree (D.exprs (w6 b vs.length ars.length (j + 1 + 1 + 2)).fst.kids) :: r0
theorem bs9 (b : List UInt8) (vs ars : List Int) (bd : List c8) (d : Nat) (hd : d ≤ 3) (ih : ∀ (j n c : Int), 1 < d → n = (d : Int) - 1 → 0 ≤ c → c ≤ 2 → 0 ≤ j → j + 2 * cS (d - 1) ≤ 600000000 → j9.ok Tryz.prog (dbC b vs ars bd (d - 1) c.toNat j n c)) (j n : Int) (hn : n = d) (r0 : 0 ≤ j) (r1 : j + cS d ≤ 600000000) : j9.ok Tryz.prog (dsC b vs ars bd d j n) := by
  refine K9 100 Tryz.func92 [.box [.ref 1, iA j], dY b, dI vs, dI ars, dT bd] [(0, .ptr 0 0), (1, pA 2), (2, iA n)] fun G => ?_; have hc := av5 (d - 1); have hcd := bJ4 d; have hcn := av5 d; have hsm := be8 b vs.length ars.length (k := j + 1) (by omega) (by omega); have hib := b98 b (j := (w6 b vs.length ars.length (j + 1)).2) (by omega) (by omega); have hbb := bN0 b vs.length ars.length (k := (w6 b vs.length ars.length (j + 1)).2 + 1) (i := (nm b (w6 b vs.length ars.length (j + 1)).2 ibL).toNat) (bX3 hib.1 hib.2 (show 0 ≤ cS (d - 1) by omega)) (cb1 _) (by omega) (by omega); have hie := b97 b (j := (G7 (C4 b vs.length ars.length (d - 1)) (nm b (w6 b vs.length ars.length (j + 1)).2 ibL).toNat ((w6 b vs.length ars.length (j + 1)).2 + 1)).2) (by omega) (by omega); have hrb := b58 b (j := j + 1 + 1) (by omega) (by omega); refine wp_seq (l0 G f8 [0, 1, 2, 3, 4, 5, 13] (.box [.ref 1, iA j] :: (R9 b vs ars bd [])) (am3 n []) fun G => b0 (wp_seq (l0 G (A4 2 [0, 1, 15] (j9.lend (P0 b j K2 (List.cons_ne_nil _ _) (by assumption) (by omega)) [.no, .no, .row 3])) (rg 7) (.box [.ref 1, iA (j + 1)] :: (R9 b vs ars bd [])) (am3 n [(7, iA (nm b j K2))]) fun G => b0 (wp_seq (l0 G f8 [0, 1, 2, 3, 4, 5, 6, 23] (.box [.ref 1, iA (j + 1)] :: (R9 b vs ars bd [.box [iA (nm b j K2), iA 0, iA 0, iA 0, .v (.slice none 0 0), iA 0, iA 0, .v (.slice none 0 0), iA 0, .v (.slice none 0 0), .v (.slice none 0 0)]])) (am3 n [(7, iA (nm b j K2)), (8, .ptr 7 0)]) fun G => b0 (wp_seq (wp_block (wp_seq ?_)))))))); cases h0 : (nm b j K2 == 2)
  ·
   have q0 := ne_of_beq_false h0; refine m7 G (N1 (fc h0 fz) (us [(3, 6, 0), (1007, 1007, 0)])) [(27, bA false)] fun G => b0 (rF G false (by kernel_rfl) (wp_seq ?_)); cases h1 : (nm b j K2 == 3)
   ·
    have q1 := ne_of_beq_false h1; refine m7 G (N1 (fc h1 fz) [(3, 0), (4, 0), (1005, 0)]) [(50, bA false)] fun G => b0 (rF G false (by kernel_rfl) (wp_seq ?_)); cases h2 : (nm b j K2 == 4)
    ·
     have q2 := ne_of_beq_false h2; refine m7 G (N1 (fc h2 fz) [(3, 0), (4, 0), (1005, 0)]) [(79, bA false)] fun G => b0 (rF G false (by kernel_rfl) (wp_seq (wp_seq (m7 G f8 [(15, bA (nm b j K2 != 5))] fun G => b0 (rcN G (fun h3 q3 => ?_) fun h3 q3 => ?_)))))
     · refine wp_skip (b0 (wp_seq (l0 G (A4 4 [0, 1] (C7 b (j + 1) ((vs.length : Int)) (by omega) (by omega))) (rg 8) (.box [.ref 1, iA (j + 1 + 1)] :: (R9 b vs ars bd [.box [iA (nm b j K2), iA (pk b (j + 1) (vs.length : Int)), iA 0, iA 0, .v (.slice none 0 0), iA 0, iA 0, .v (.slice none 0 0), iA 0, .v (.slice none 0 0), .v (.slice none 0 0)]])) (Y4 []) fun G => b0 (l0 G (A4 2 (rg 5) (ad6 b vs ars bd (j + 1 + 1) (by omega) (by omega))) [0, 1, 2, 3, 4, 6, 7, 24] [aa3 b vs ars j, dY b, dI vs, dI ars, dT bd, am7, .box [iA (nm b j K2), iA (pk b (j + 1) (vs.length : Int)), iA 0, iA 0, .v (.slice none 0 0), iA (w6 b vs.length ars.length (j + 1 + 1)).fst.kind, iA (w6 b vs.length ars.length (j + 1 + 1)).fst.value, .tref 7, iA 0, .v (.slice none 0 0), .v (.slice none 0 0)], aj4 b vs ars j] [(6, .ptr 5 0), (8, .ptr 6 0)] fun G => t5 (b0 (wp_seq (l0 G f8 [0, 1, 2, 3, 4, 5, 7] [aa3 b vs ars j, dY b, dI vs, dI ars, dT bd, .box [iA (nm b j K2), iA (pk b (j + 1) (vs.length : Int)), iA 0, iA 0, .v (.slice none 0 0), iA (w6 b vs.length ars.length (j + 1 + 1)).fst.kind, iA (w6 b vs.length ars.length (j + 1 + 1)).fst.value, .tref 6, iA 0, .v (.slice none 0 0), .v (.slice none 0 0)], aj4 b vs ars j] [(6, .ptr 5 0)] fun G => b0 (wp_ret ?_)))))))); obtain ⟨ρ, G⟩ := G.nilT 7 (.exprs []) [.box [.ref 1, iA (w6 b vs.length ars.length (j + 1 + 1)).snd], dY b, dI vs, dI ars, dT bd, .box [iA (nm b j K2), iA (pk b (j + 1) (vs.length : Int)), iA 0, iA 0, .tref 7, iA (w6 b vs.length ars.length (j + 1 + 1)).fst.kind, iA (w6 b vs.length ars.length (j + 1 + 1)).fst.value, .tref 6, iA 0, .v (.slice none 0 0), .v (.slice none 0 0)], .tree (D.exprs (w6 b vs.length ars.length (j + 1 + 1)).fst.kids)] [(6, .ptr 5 0)]; obtain ⟨ρ, G⟩ := G.nilT 8 (.stmts []) [.box [.ref 1, iA (w6 b vs.length ars.length (j + 1 + 1)).snd], dY b, dI vs, dI ars, dT bd, .box [iA (nm b j K2), iA (pk b (j + 1) (vs.length : Int)), iA 0, iA 0, .tref 7, iA (w6 b vs.length ars.length (j + 1 + 1)).fst.kind, iA (w6 b vs.length ars.length (j + 1 + 1)).fst.value, .tref 6, iA 0, .tref 8, .v (.slice none 0 0)], .tree (D.exprs (w6 b vs.length ars.length (j + 1 + 1)).fst.kids), .tree (D.exprs [])] [(6, .ptr 5 0)]; obtain ⟨ρ, G⟩ := G.nilT 9 (.stmts []) [.box [.ref 1, iA (w6 b vs.length ars.length (j + 1 + 1)).snd], dY b, dI vs, dI ars, dT bd, .box [iA (nm b j K2), iA (pk b (j + 1) (vs.length : Int)), iA 0, iA 0, .tref 7, iA (w6 b vs.length ars.length (j + 1 + 1)).fst.kind, iA (w6 b vs.length ars.length (j + 1 + 1)).fst.value, .tref 6, iA 0, .tref 8, .tref 9], .tree (D.exprs (w6 b vs.length ars.length (j + 1 + 1)).fst.kids), .tree (D.exprs []), .tree (D.stmts [])] [(6, .ptr 5 0)]; exact rxv (.agg [iA (nm b j K2), iA (pk b (j + 1) (vs.length : Int)), iA 0, iA 0, .tref 7, iA (w6 b vs.length ars.length (j + 1 + 1)).fst.kind, iA (w6 b vs.length ars.length (j + 1 + 1)).fst.value, .tref 6, iA 0, .tref 8, .tref 9]) G [0, 1, 2, 3, 4, 7, 6, 8, 9] (by show _ = AV.ren (nth [0, 1, 2, 3, 4, 7, 6, 8, 9]) (T8 b vs ars d j); unfold T8; have e1 : ((C4 b vs.length ars.length d j).fst.kind : Int) = (nm b j K2) := (by rw [af5 (by omega) (by omega), bS2 (by omega)]; show (5 : Int) = _; omega); rw [e1, af5 (by omega) (by omega), bS2 (by omega)] <;> rfl) (by show _ = mR [0, 1, 2, 3, 4, 7, 6, 8, 9] (T7 b vs ars bd d j); unfold T7; rw [af5 (by omega) (by omega), bS2 (by omega)] <;> rfl)
     · refine l0 G f8 (rg 8) (.box [.ref 1, iA (j + 1)] :: (R9 b vs ars bd [aM5])) (Y4 []) fun G => b0 (wp_seq (l0 G (A4 4 [0, 1] (C7 b (j + 1) ((vs.length : Int)) (by omega) (by omega))) (rg 8) (.box [.ref 1, iA (j + 1 + 1)] :: (R9 b vs ars bd [bd4 b vs j])) (Y4 []) fun G => b0 (l0 G (A4 2 (rg 5) (ad6 b vs ars bd (j + 1 + 1) (by omega) (by omega))) [0, 1, 2, 3, 4, 6, 7, 24] [aa3 b vs ars j, dY b, dI vs, dI ars, dT bd, am7, bd6 b vs ars j, aj4 b vs ars j] [(6, .ptr 5 0), (8, .ptr 6 0)] fun G => t5 (b0 (wp_seq (l0 G f8 [0, 1, 2, 3, 4, 5, 7] [aa3 b vs ars j, dY b, dI vs, dI ars, dT bd, bd5 b vs ars j, aj4 b vs ars j] [(6, .ptr 5 0)] fun G => b0 (wp_ret ?_))))))); obtain ⟨ρ, G⟩ := G.nilT 7 (.exprs []) (bc8 b vs ars bd j []) [(6, .ptr 5 0)]; obtain ⟨ρ, G⟩ := G.nilT 8 (.stmts []) (bc9 b vs ars bd j []) [(6, .ptr 5 0)]; obtain ⟨ρ, G⟩ := G.nilT 9 (.stmts []) (bd0 b vs ars bd j []) [(6, .ptr 5 0)]; exact rxv (.agg [iA 1, iA (pk b (j + 1) (vs.length : Int)), iA 0, iA 0, .tref 7, iA (w6 b vs.length ars.length (j + 1 + 1)).fst.kind, iA (w6 b vs.length ars.length (j + 1 + 1)).fst.value, .tref 6, iA 0, .tref 8, .tref 9]) G [0, 1, 2, 3, 4, 7, 6, 8, 9] (by show _ = AV.ren (nth [0, 1, 2, 3, 4, 7, 6, 8, 9]) (T8 b vs ars d j); unfold T8; rw [af5 (by omega) (by omega), a21 (by omega)] <;> rfl) (by show _ = mR [0, 1, 2, 3, 4, 7, 6, 8, 9] (T7 b vs ars bd d j); unfold T7; rw [af5 (by omega) (by omega), a21 (by omega)] <;> rfl)
    ·
     have q2 := eq_of_beq h2; refine m7 G (N1 (fc h2 fz) [(3, 0), (4, 0), (1005, 0)]) [(79, bA (decide (n > 1)))] fun G => b0 (rcD G (fun h4 q4 => ?_) fun h4 q4 => ?_)
     ·
      refine wp_seq (wp_seq (I8 G f8 (Y4 [(15, bA (nm b j K2 != 5))]) fun G => b0 ?_)); cases h5 : (nm b j K2 != 5)
      · have q5 := bne_eq_false_iff_eq.1 h5; exact False.elim (by omega)
      · have q5 := bne_iff_ne.1 h5; refine rT G _ h5 (l0 G f8 (rg 8) (.box [.ref 1, iA (j + 1)] :: (R9 b vs ars bd [aM5])) (Y4 []) fun G => b0 (wp_seq (l0 G (A4 4 [0, 1] (C7 b (j + 1) ((vs.length : Int)) (by omega) (by omega))) (rg 8) (.box [.ref 1, iA (j + 1 + 1)] :: (R9 b vs ars bd [bd4 b vs j])) (Y4 []) fun G => b0 (l0 G (A4 2 (rg 5) (ad6 b vs ars bd (j + 1 + 1) (by omega) (by omega))) [0, 1, 2, 3, 4, 6, 7, 24] [aa3 b vs ars j, dY b, dI vs, dI ars, dT bd, am7, bd6 b vs ars j, aj4 b vs ars j] [(6, .ptr 5 0), (8, .ptr 6 0)] fun G => t5 (b0 (wp_seq (l0 G f8 [0, 1, 2, 3, 4, 5, 7] [aa3 b vs ars j, dY b, dI vs, dI ars, dT bd, bd5 b vs ars j, aj4 b vs ars j] [(6, .ptr 5 0)] fun G => b0 (wp_ret ?_)))))))); obtain ⟨ρ, G⟩ := G.nilT 7 (.exprs []) (bc8 b vs ars bd j []) [(6, .ptr 5 0)]; obtain ⟨ρ, G⟩ := G.nilT 8 (.stmts []) (bc9 b vs ars bd j []) [(6, .ptr 5 0)]; obtain ⟨ρ, G⟩ := G.nilT 9 (.stmts []) (bd0 b vs ars bd j []) [(6, .ptr 5 0)]; exact rxv (.agg [iA 1, iA (pk b (j + 1) (vs.length : Int)), iA 0, iA 0, .tref 7, iA (w6 b vs.length ars.length (j + 1 + 1)).fst.kind, iA (w6 b vs.length ars.length (j + 1 + 1)).fst.value, .tref 6, iA 0, .tref 8, .tref 9]) G [0, 1, 2, 3, 4, 7, 6, 8, 9] (by show _ = AV.ren (nth [0, 1, 2, 3, 4, 7, 6, 8, 9]) (T8 b vs ars d j); unfold T8; rw [af5 (by omega) (by omega), a21 (by omega)] <;> rfl) (by show _ = mR [0, 1, 2, 3, 4, 7, 6, 8, 9] (T7 b vs ars bd d j); unfold T7; rw [af5 (by omega) (by omega), a21 (by omega)] <;> rfl)
     · refine wp_seq (l0 G (A4 2 [0, 1, 16] (j9.lend (P0 b (j + 1) rcL (by simp [h0, h1, h2, h4]) (by omega) (by omega)) [.no, .no, .row 3])) (rg 8) (.box [.ref 1, iA (j + 1 + 1)] :: (R9 b vs ars bd [.box [iA (nm b j K2), iA 0, iA 0, iA 0, .v (.slice none 0 0), iA 0, iA 0, .v (.slice none 0 0), iA (nm b (j + 1) rcL), .v (.slice none 0 0), .v (.slice none 0 0)]])) (am3 n [(8, .ptr 7 0)]) fun G => b0 (L7 G (X7 (H7 6 [0, 1, 48] (j9.lend (P0 b (j + 1 + 1) rbL (by simp [h0, h1, h2, h4]) (by omega) (by omega)) [.no, .no, .row 3]) (H7 7 (rg 5) (ih (j + 1 + 1 + 1) (n - 1) (nm b (j + 1 + 1) rbL) (by omega) (by omega) (by omega) (by omega) (by omega) (by omega)) X6)) fz []) [0, 0, 0, 4, 0, 0, 48, 127, 255, 511] [0, 1, 2, 3, 4, 6, 7, 64] (aT5 b vs ars d j [dT bd, am7, .box [iA (nm b j K2), iA 0, iA 0, iA 0, .v (.slice none 0 0), iA 0, iA 0, .v (.slice none 0 0), iA (nm b (j + 1) rcL), .tref 7, .v (.slice none 0 0)], .tree (D.stmts (G7 (C4 b vs.length ars.length (d - 1)) (nm b (j + 1 + 1) rbL).toNat (j + 1 + 1 + 1)).fst)]) [(6, .ptr 5 0), (8, .ptr 6 0)] [wO (n - 1)] (o1 (by omega)) fun G => t5 (b0 (wp_seq (l0 G f8 [0, 1, 2, 3, 4, 5, 7] (aT5 b vs ars d j [dT bd, .box [iA (nm b j K2), iA 0, iA 0, iA 0, .v (.slice none 0 0), iA 0, iA 0, .v (.slice none 0 0), iA (nm b (j + 1) rcL), .tref 6, .v (.slice none 0 0)], .tree (D.stmts (G7 (C4 b vs.length ars.length (d - 1)) (nm b (j + 1 + 1) rbL).toNat (j + 1 + 1 + 1)).fst)]) [(6, .ptr 5 0)] fun G => b0 (wp_ret ?_)))))); obtain ⟨ρ, G⟩ := G.nilT 7 (.exprs []) (aT5 b vs ars d j [dT bd, .box [iA (nm b j K2), iA 0, iA 0, iA 0, .tref 7, iA 0, iA 0, .v (.slice none 0 0), iA (nm b (j + 1) rcL), .tref 6, .v (.slice none 0 0)], .tree (D.stmts (G7 (C4 b vs.length ars.length (d - 1)) (nm b (j + 1 + 1) rbL).toNat (j + 1 + 1 + 1)).fst)]) [(6, .ptr 5 0)]; obtain ⟨ρ, G⟩ := G.nilT 8 (.exprs []) (aT5 b vs ars d j [dT bd, .box [iA (nm b j K2), iA 0, iA 0, iA 0, .tref 7, iA 0, iA 0, .tref 8, iA (nm b (j + 1) rcL), .tref 6, .v (.slice none 0 0)], .tree (D.stmts (G7 (C4 b vs.length ars.length (d - 1)) (nm b (j + 1 + 1) rbL).toNat (j + 1 + 1 + 1)).fst), .tree (D.exprs [])]) [(6, .ptr 5 0)]; obtain ⟨ρ, G⟩ := G.nilT 9 (.stmts []) (aT5 b vs ars d j [dT bd, .box [iA (nm b j K2), iA 0, iA 0, iA 0, .tref 7, iA 0, iA 0, .tref 8, iA (nm b (j + 1) rcL), .tref 6, .tref 9], .tree (D.stmts (G7 (C4 b vs.length ars.length (d - 1)) (nm b (j + 1 + 1) rbL).toNat (j + 1 + 1 + 1)).fst), .tree (D.exprs []), .tree (D.exprs [])]) [(6, .ptr 5 0)]; exact rxv (.agg [iA (nm b j K2), iA 0, iA 0, iA 0, .tref 7, iA 0, iA 0, .tref 8, iA (nm b (j + 1) rcL), .tref 6, .tref 9]) G [0, 1, 2, 3, 4, 7, 8, 6, 9] (by show _ = AV.ren (nth [0, 1, 2, 3, 4, 7, 8, 6, 9]) (T8 b vs ars d j); unfold T8; have e1 : ((C4 b vs.length ars.length d j).fst.kind : Int) = (nm b j K2) := (by rw [a56 (by omega) (by omega)]; show (4 : Int) = _; omega); rw [e1, a56 (by omega) (by omega)] <;> rfl) (by show _ = mR [0, 1, 2, 3, 4, 7, 8, 6, 9] (T7 b vs ars bd d j); unfold T7; rw [a56 (by omega) (by omega)] <;> rfl)
   ·
    have q1 := eq_of_beq h1; refine I8 G (N1 (fc h1 fz) [(3, 0), (4, 0), (1005, 0)]) (am3 n [(7, iA (nm b j K2)), (8, .ptr 7 0), (50, bA (decide (n > 1)))]) fun G => b0 (rcD G (fun h6 q6 => ?_) fun h6 q6 => ?_)
    ·
     refine wp_seq ?_; cases h7 : (nm b j K2 == 4)
     ·
      have q7 := ne_of_beq_false h7; refine m7 G (N1 (fc h7 fz) [(3, 0), (4, 0), (1005, 0)]) [(79, bA false)] fun G => b0 (rF G false (by kernel_rfl) (wp_seq (wp_seq (I8 G f8 (Y4 [(15, bA (nm b j K2 != 5))]) fun G => b0 ?_)))); cases h8 : (nm b j K2 != 5)
      · have q8 := bne_eq_false_iff_eq.1 h8; exact False.elim (by omega)
      · have q8 := bne_iff_ne.1 h8; refine rT G _ h8 (l0 G f8 (rg 8) (.box [.ref 1, iA (j + 1)] :: (R9 b vs ars bd [aM5])) (Y4 []) fun G => b0 (wp_seq (l0 G (A4 4 [0, 1] (C7 b (j + 1) ((vs.length : Int)) (by omega) (by omega))) (rg 8) (.box [.ref 1, iA (j + 1 + 1)] :: (R9 b vs ars bd [bd4 b vs j])) (Y4 []) fun G => b0 (l0 G (A4 2 (rg 5) (ad6 b vs ars bd (j + 1 + 1) (by omega) (by omega))) [0, 1, 2, 3, 4, 6, 7, 24] [aa3 b vs ars j, dY b, dI vs, dI ars, dT bd, am7, bd6 b vs ars j, aj4 b vs ars j] [(6, .ptr 5 0), (8, .ptr 6 0)] fun G => t5 (b0 (wp_seq (l0 G f8 [0, 1, 2, 3, 4, 5, 7] [aa3 b vs ars j, dY b, dI vs, dI ars, dT bd, bd5 b vs ars j, aj4 b vs ars j] [(6, .ptr 5 0)] fun G => b0 (wp_ret ?_)))))))); obtain ⟨ρ, G⟩ := G.nilT 7 (.exprs []) (bc8 b vs ars bd j []) [(6, .ptr 5 0)]; obtain ⟨ρ, G⟩ := G.nilT 8 (.stmts []) (bc9 b vs ars bd j []) [(6, .ptr 5 0)]; obtain ⟨ρ, G⟩ := G.nilT 9 (.stmts []) (bd0 b vs ars bd j []) [(6, .ptr 5 0)]; exact rxv (.agg [iA 1, iA (pk b (j + 1) (vs.length : Int)), iA 0, iA 0, .tref 7, iA (w6 b vs.length ars.length (j + 1 + 1)).fst.kind, iA (w6 b vs.length ars.length (j + 1 + 1)).fst.value, .tref 6, iA 0, .tref 8, .tref 9]) G [0, 1, 2, 3, 4, 7, 6, 8, 9] (by show _ = AV.ren (nth [0, 1, 2, 3, 4, 7, 6, 8, 9]) (T8 b vs ars d j); unfold T8; rw [af5 (by omega) (by omega), a21 (by omega)] <;> rfl) (by show _ = mR [0, 1, 2, 3, 4, 7, 6, 8, 9] (T7 b vs ars bd d j); unfold T7; rw [af5 (by omega) (by omega), a21 (by omega)] <;> rfl)
     · have q7 := eq_of_beq h7; exact False.elim (by omega)
    ·
     refine wp_seq (l0 G (A4 2 (rg 5) (ad6 b vs ars bd (j + 1) (by omega) (by omega))) [0, 1, 2, 3, 4, 5, 6, 7, 24] (.box [.ref 1, iA (w6 b vs.length ars.length (j + 1)).snd] :: (R9 b vs ars bd [.box [iA (nm b j K2), iA 0, iA 0, iA 0, .v (.slice none 0 0), iA (w6 b vs.length ars.length (j + 1)).fst.kind, iA (w6 b vs.length ars.length (j + 1)).fst.value, .tref 8, iA 0, .v (.slice none 0 0), .v (.slice none 0 0)], .tree (D.exprs (w6 b vs.length ars.length (j + 1)).fst.kids)])) (am3 n [(8, .ptr 7 0)]) fun G => b0 (wp_seq (L7 G (X7 (H7 6 [0, 1, 49] (j9.lend (P0 b ((w6 b vs.length ars.length (j + 1)).snd) ibL (by simp [h0, h1, h6]) (by omega) (by omega)) [.no, .no, .row 3]) (H7 7 (rg 5) (ih ((w6 b vs.length ars.length (j + 1)).snd + 1) (n - 1) (nm b (w6 b vs.length ars.length (j + 1)).snd ibL) (by omega) (by omega) (by omega) (by omega) (by omega) (by omega)) X6)) fz []) [0, 0, 0, 4, 0, 0, 48, 127, 255, 511] [0, 1, 2, 3, 4, 5, 6, 7, 8, 65] (.box [.ref 1, iA (aI2 b vs ars d j).snd] :: (R9 b vs ars bd [.box [iA (nm b j K2), iA 0, iA 0, iA 0, .v (.slice none 0 0), iA (w6 b vs.length ars.length (j + 1)).fst.kind, iA (w6 b vs.length ars.length (j + 1)).fst.value, .tref 8, iA 0, .tref 9, .v (.slice none 0 0)], .tree (D.exprs (w6 b vs.length ars.length (j + 1)).fst.kids), .tree (D.stmts (aI2 b vs ars d j).fst)])) (am3 n [(8, .ptr 7 0)]) [wO (n - 1)] (o1 (by omega)) fun G => b0 (L7 G (X7 (H7 6 [0, 1, 50] (j9.lend (P0 b ((G7 (C4 b vs.length ars.length (d - 1)) (nm b (w6 b vs.length ars.length (j + 1)).snd ibL).toNat ((w6 b vs.length ars.length (j + 1)).snd + 1)).snd) ieL (by simp [h0, h1, h6]) (by omega) (by omega)) [.no, .no, .row 3]) (H7 7 (rg 5) (ih ((G7 (C4 b vs.length ars.length (d - 1)) (nm b (w6 b vs.length ars.length (j + 1)).snd ibL).toNat ((w6 b vs.length ars.length (j + 1)).snd + 1)).snd + 1) (n - 1) (nm b (G7 (C4 b vs.length ars.length (d - 1)) (nm b (w6 b vs.length ars.length (j + 1)).snd ibL).toNat ((w6 b vs.length ars.length (j + 1)).snd + 1)).snd ieL) (by omega) (by omega) (by omega) (by omega) (by omega) (by omega)) X6)) fz []) [0, 0, 0, 4, 0, 0, 48, 127, 255, 511] [0, 1, 2, 3, 4, 6, 7, 8, 9, 66] [.box [.ref 1, iA (bd7 b vs ars d j).snd], dY b, dI vs, dI ars, dT bd, am7, .box [iA (nm b j K2), iA 0, iA 0, iA 0, .v (.slice none 0 0), iA (w6 b vs.length ars.length (j + 1)).fst.kind, iA (w6 b vs.length ars.length (j + 1)).fst.value, .tref 7, iA 0, .tref 8, .tref 9], .tree (D.exprs (w6 b vs.length ars.length (j + 1)).fst.kids), .tree (D.stmts (aI2 b vs ars d j).fst), .tree (D.stmts (bd7 b vs ars d j).fst)] [(6, .ptr 5 0), (8, .ptr 6 0)] [wO (n - 1)] (o1 (by omega)) fun G => t5 (b0 (wp_seq (l0 G f8 [0, 1, 2, 3, 4, 5, 7, 8, 9] [.box [.ref 1, iA (bd7 b vs ars d j).snd], dY b, dI vs, dI ars, dT bd, .box [iA (nm b j K2), iA 0, iA 0, iA 0, .v (.slice none 0 0), iA (w6 b vs.length ars.length (j + 1)).fst.kind, iA (w6 b vs.length ars.length (j + 1)).fst.value, .tref 6, iA 0, .tref 7, .tref 8], .tree (D.exprs (w6 b vs.length ars.length (j + 1)).fst.kids), .tree (D.stmts (aI2 b vs ars d j).fst), .tree (D.stmts (bd7 b vs ars d j).fst)] [(6, .ptr 5 0)] fun G => b0 (wp_ret ?_)))))))); obtain ⟨ρ, G⟩ := G.nilT 9 (.exprs []) [.box [.ref 1, iA (G7 (C4 b vs.length ars.length (d - 1)) (nm b (G7 (C4 b vs.length ars.length (d - 1)) (nm b (w6 b vs.length ars.length (j + 1)).snd ibL).toNat ((w6 b vs.length ars.length (j + 1)).snd + 1)).snd ieL).toNat ((G7 (C4 b vs.length ars.length (d - 1)) (nm b (w6 b vs.length ars.length (j + 1)).snd ibL).toNat ((w6 b vs.length ars.length (j + 1)).snd + 1)).snd + 1)).snd], dY b, dI vs, dI ars, dT bd, .box [iA (nm b j K2), iA 0, iA 0, iA 0, .tref 9, iA (w6 b vs.length ars.length (j + 1)).fst.kind, iA (w6 b vs.length ars.length (j + 1)).fst.value, .tref 6, iA 0, .tref 7, .tref 8], .tree (D.exprs (w6 b vs.length ars.length (j + 1)).fst.kids), .tree (D.stmts (G7 (C4 b vs.length ars.length (d - 1)) (nm b (w6 b vs.length ars.length (j + 1)).snd ibL).toNat ((w6 b vs.length ars.length (j + 1)).snd + 1)).fst), .tree (D.stmts (G7 (C4 b vs.length ars.length (d - 1)) (nm b (G7 (C4 b vs.length ars.length (d - 1)) (nm b (w6 b vs.length ars.length (j + 1)).snd ibL).toNat ((w6 b vs.length ars.length (j + 1)).snd + 1)).snd ieL).toNat ((G7 (C4 b vs.length ars.length (d - 1)) (nm b (w6 b vs.length ars.length (j + 1)).snd ibL).toNat ((w6 b vs.length ars.length (j + 1)).snd + 1)).snd + 1)).fst)] [(6, .ptr 5 0)]
     exact rxv (.agg [iA (nm b j K2), iA 0, iA 0, iA 0, .tref 9, iA (w6 b vs.length ars.length (j + 1)).fst.kind, iA (w6 b vs.length ars.length (j + 1)).fst.value, .tref 6, iA 0, .tref 7, .tref 8]) G [0, 1, 2, 3, 4, 9, 6, 7, 8] (by show _ = AV.ren (nth [0, 1, 2, 3, 4, 9, 6, 7, 8]) (T8 b vs ars d j); unfold T8; have e1 : ((C4 b vs.length ars.length d j).fst.kind : Int) = (nm b j K2) := (by rw [a57 (by omega) (by omega)]; show (3 : Int) = _; omega); rw [e1, a57 (by omega) (by omega)] <;> rfl) (by show _ = mR [0, 1, 2, 3, 4, 9, 6, 7, 8] (T7 b vs ars bd d j); unfold T7; rw [a57 (by omega) (by omega)] <;> rfl)
  ·
   have q0 := eq_of_beq h0; refine I8 G (N1 (fc h0 fz) (us [(3, 6, 0), (1007, 1007, 0)])) (am3 n [(7, iA (nm b j K2)), (8, .ptr 7 0), (27, bA (decide ((ars.length : Int) > 0)))]) fun G => b0 (rcD G (fun h9 q9 => ?_) fun h9 q9 => ?_)
   ·
    refine wp_seq ?_; cases h10 : (nm b j K2 == 3)
    ·
     have q10 := ne_of_beq_false h10; refine I8 G (N1 (fc h10 fz) [(3, 0), (4, 0), (1005, 0)]) (am3 n [(7, iA (nm b j K2)), (8, .ptr 7 0), (50, bA false)]) fun G => b0 (rF G false (by kernel_rfl) (wp_seq ?_)); cases h11 : (nm b j K2 == 4)
     ·
      have q11 := ne_of_beq_false h11; refine m7 G (N1 (fc h11 fz) [(3, 0), (4, 0), (1005, 0)]) [(79, bA false)] fun G => b0 (rF G false (by kernel_rfl) (wp_seq (wp_seq (I8 G f8 (Y4 [(15, bA (nm b j K2 != 5))]) fun G => b0 ?_)))); cases h12 : (nm b j K2 != 5)
      · have q12 := bne_eq_false_iff_eq.1 h12; exact False.elim (by omega)
      · have q12 := bne_iff_ne.1 h12; refine rT G _ h12 (l0 G f8 (rg 8) (.box [.ref 1, iA (j + 1)] :: (R9 b vs ars bd [aM5])) (Y4 []) fun G => b0 (wp_seq (l0 G (A4 4 [0, 1] (C7 b (j + 1) ((vs.length : Int)) (by omega) (by omega))) (rg 8) (.box [.ref 1, iA (j + 1 + 1)] :: (R9 b vs ars bd [bd4 b vs j])) (Y4 []) fun G => b0 (l0 G (A4 2 (rg 5) (ad6 b vs ars bd (j + 1 + 1) (by omega) (by omega))) [0, 1, 2, 3, 4, 6, 7, 24] [aa3 b vs ars j, dY b, dI vs, dI ars, dT bd, am7, bd6 b vs ars j, aj4 b vs ars j] [(6, .ptr 5 0), (8, .ptr 6 0)] fun G => t5 (b0 (wp_seq (l0 G f8 [0, 1, 2, 3, 4, 5, 7] [aa3 b vs ars j, dY b, dI vs, dI ars, dT bd, bd5 b vs ars j, aj4 b vs ars j] [(6, .ptr 5 0)] fun G => b0 (wp_ret ?_)))))))); obtain ⟨ρ, G⟩ := G.nilT 7 (.exprs []) (bc8 b vs ars bd j []) [(6, .ptr 5 0)]; obtain ⟨ρ, G⟩ := G.nilT 8 (.stmts []) (bc9 b vs ars bd j []) [(6, .ptr 5 0)]; obtain ⟨ρ, G⟩ := G.nilT 9 (.stmts []) (bd0 b vs ars bd j []) [(6, .ptr 5 0)]; exact rxv (.agg [iA 1, iA (pk b (j + 1) (vs.length : Int)), iA 0, iA 0, .tref 7, iA (w6 b vs.length ars.length (j + 1 + 1)).fst.kind, iA (w6 b vs.length ars.length (j + 1 + 1)).fst.value, .tref 6, iA 0, .tref 8, .tref 9]) G [0, 1, 2, 3, 4, 7, 6, 8, 9] (by show _ = AV.ren (nth [0, 1, 2, 3, 4, 7, 6, 8, 9]) (T8 b vs ars d j); unfold T8; rw [af5 (by omega) (by omega), a21 (by omega)] <;> rfl) (by show _ = mR [0, 1, 2, 3, 4, 7, 6, 8, 9] (T7 b vs ars bd d j); unfold T7; rw [af5 (by omega) (by omega), a21 (by omega)] <;> rfl)
     · have q11 := eq_of_beq h11; exact False.elim (by omega)
    · have q10 := eq_of_beq h10; exact False.elim (by omega)
   ·
    refine wp_seq (l0 G (A4 4 [0, 1] (C7 b (j + 1) ((ars.length : Int)) (by omega) (by omega))) (rg 8) (.box [.ref 1, iA (j + 1 + 1)] :: (R9 b vs ars bd [.box [iA (nm b j K2), iA (pk b (j + 1) (ars.length : Int)), iA 0, iA 0, .v (.slice none 0 0), iA 0, iA 0, .v (.slice none 0 0), iA 0, .v (.slice none 0 0), .v (.slice none 0 0)]])) (Y4 []) fun G => b0 (wp_seq (l0 G (A4 2 (rg 5) (at2 b (j + 1 + 1) vs ars bd (by omega) (by omega))) [0, 1, 2, 3, 4, 5, 6, 7, 24] (.box [.ref 1, iA (j + 1 + 1 + 2)] :: (R9 b vs ars bd [.box [iA (nm b j K2), iA (pk b (j + 1) (ars.length : Int)), iA (n7 b (vs.length : Int) (j + 1 + 1)).kind, iA (n7 b (vs.length : Int) (j + 1 + 1)).value, .tref 8, iA 0, iA 0, .v (.slice none 0 0), iA 0, .v (.slice none 0 0), .v (.slice none 0 0)], .tree (D.exprs (n7 b (vs.length : Int) (j + 1 + 1)).kids)])) (Y4 []) fun G => b0 (l0 G (A4 2 (rg 5) (ad6 b vs ars bd (j + 1 + 1 + 2) (by omega) (by omega))) [0, 1, 2, 3, 4, 6, 7, 8, 25] (.box [.ref 1, iA (w6 b vs.length ars.length (j + 1 + 1 + 2)).snd] :: dY b :: dI vs :: dI ars :: dT bd :: am7 :: .box [iA (nm b j K2), iA (pk b (j + 1) (ars.length : Int)), iA (n7 b (vs.length : Int) (j + 1 + 1)).kind, iA (n7 b (vs.length : Int) (j + 1 + 1)).value, .tref 7, iA (w6 b vs.length ars.length (j + 1 + 1 + 2)).fst.kind, iA (w6 b vs.length ars.length (j + 1 + 1 + 2)).fst.value, .tref 8, iA 0, .v (.slice none 0 0), .v (.slice none 0 0)] :: (bc7 b vs ars j [])) [(6, .ptr 5 0), (8, .ptr 6 0)] fun G => t5 (b0 (wp_seq (l0 G f8 [0, 1, 2, 3, 4, 5, 7, 8] (.box [.ref 1, iA (w6 b vs.length ars.length (j + 1 + 1 + 2)).snd] :: dY b :: dI vs :: dI ars :: dT bd :: .box [iA (nm b j K2), iA (pk b (j + 1) (ars.length : Int)), iA (n7 b (vs.length : Int) (j + 1 + 1)).kind, iA (n7 b (vs.length : Int) (j + 1 + 1)).value, .tref 6, iA (w6 b vs.length ars.length (j + 1 + 1 + 2)).fst.kind, iA (w6 b vs.length ars.length (j + 1 + 1 + 2)).fst.value, .tref 7, iA 0, .v (.slice none 0 0), .v (.slice none 0 0)] :: (bc7 b vs ars j [])) [(6, .ptr 5 0)] fun G => b0 (wp_ret ?_)))))))); obtain ⟨ρ, G⟩ := G.nilT 8 (.stmts []) (.box [.ref 1, iA (w6 b vs.length ars.length (j + 1 + 1 + 2)).snd] :: dY b :: dI vs :: dI ars :: dT bd :: .box [iA (nm b j K2), iA (pk b (j + 1) (ars.length : Int)), iA (n7 b (vs.length : Int) (j + 1 + 1)).kind, iA (n7 b (vs.length : Int) (j + 1 + 1)).value, .tref 6, iA (w6 b vs.length ars.length (j + 1 + 1 + 2)).fst.kind, iA (w6 b vs.length ars.length (j + 1 + 1 + 2)).fst.value, .tref 7, iA 0, .tref 8, .v (.slice none 0 0)] :: (bc7 b vs ars j [])) [(6, .ptr 5 0)]; obtain ⟨ρ, G⟩ := G.nilT 9 (.stmts []) (.box [.ref 1, iA (w6 b vs.length ars.length (j + 1 + 1 + 2)).snd] :: dY b :: dI vs :: dI ars :: dT bd :: .box [iA (nm b j K2), iA (pk b (j + 1) (ars.length : Int)), iA (n7 b (vs.length : Int) (j + 1 + 1)).kind, iA (n7 b (vs.length : Int) (j + 1 + 1)).value, .tref 6, iA (w6 b vs.length ars.length (j + 1 + 1 + 2)).fst.kind, iA (w6 b vs.length ars.length (j + 1 + 1 + 2)).fst.value, .tref 7, iA 0, .tref 8, .tref 9] :: (bc7 b vs ars j [.tree (D.stmts [])])) [(6, .ptr 5 0)]
    exact rxv (.agg [iA (nm b j K2), iA (pk b (j + 1) (ars.length : Int)), iA (n7 b (vs.length : Int) (j + 1 + 1)).kind, iA (n7 b (vs.length : Int) (j + 1 + 1)).value, .tref 6, iA (w6 b vs.length ars.length (j + 1 + 1 + 2)).fst.kind, iA (w6 b vs.length ars.length (j + 1 + 1 + 2)).fst.value, .tref 7, iA 0, .tref 8, .tref 9]) G [0, 1, 2, 3, 4, 6, 7, 8, 9] (by show _ = AV.ren (nth [0, 1, 2, 3, 4, 6, 7, 8, 9]) (T8 b vs ars d j); unfold T8; have e1 : ((C4 b vs.length ars.length d j).fst.kind : Int) = (nm b j K2) := (by rw [br7 (by omega) (by omega)]; show (2 : Int) = _; omega); rw [e1, br7 (by omega) (by omega)] <;> rfl) (by show _ = mR [0, 1, 2, 3, 4, 6, 7, 8, 9] (T7 b vs ars bd d j); unfold T7; rw [br7 (by omega) (by omega)] <;> rfl)
theorem a34 (b : List UInt8) (vs ars : List Int) (bd : List c8) (d : Nat) (h : ∀ (j n : Int), n = d → 0 ≤ j → j + cS d ≤ 600000000 → j9.ok Tryz.prog (dsC b vs ars bd d j n)) (m : Nat) (j n c B : Int) (hn : n = d) (hm : c = m) (hm2 : m ≤ 4) (hB : (m : Int) * cS d ≤ B) (r0 : 0 ≤ j) (r1 : j + B ≤ 600000000) : j9.ok Tryz.prog (dbC b vs ars bd d m j n c) :=
 bF3 b vs ars bd d m h j n c hn hm hm2 B hB r0 r1
theorem bz3 (b : List UInt8) (vs ars : List Int) (bd : List c8) : ∀ (d : Nat), d ≤ 3 → ∀ (j n : Int), n = d → 0 ≤ j → j + cS d ≤ 600000000 → j9.ok Tryz.prog (dsC b vs ars bd d j n)
 | 0, hd, j, n, hn, r0, r1 => bs9 b vs ars bd 0 (by omega) (fun j n c h => absurd h (by omega)) j n hn r0 r1
 | d + 1, hd, j, n, hn, r0, r1 => bs9 b vs ars bd (d + 1) hd (fun j n c h hn h0 h2 r0 r1 => a34 b vs ars bd d (bz3 b vs ars bd d (by omega)) c.toNat j n c (2 * cS d) (by omega) (by omega) (by omega) (bX3 h0 h2 (Int.le_trans (by decide) (av5 d))) r0 (by simpa using r1)) j n hn r0 r1
theorem b28 : cS 3 = 34170 := by decide
theorem bT2 (b : List UInt8) (vs ars : List Int) (bd : List c8) (j n c : Int) (hn : n = 3) (h0 : 0 ≤ c) (h4 : c ≤ 4) (r0 : 0 ≤ j) (r1 : j ≤ 100000000) : j9.ok Tryz.prog (dbC b vs ars bd 3 c.toNat j n c) :=
 a34 b vs ars bd 3 (bz3 b vs ars bd 3 (by omega)) c.toNat j n c (4 * cS 3) (by omega) (by omega) (by omega) (b84 h0 h4 (by rw [b28]; decide)) r0 (by rw [b28]; omega)
abbrev pgC (b : List UInt8) (j : Int) : j9 := ⟨49, [.ptr 0 0], [.box [.ref 1, iA j], dY b], [.box [.ref 1, iA (Y2 b j).2], dY b] ++ oP (L0 b j), oA 2⟩
theorem bg7 {b : List UInt8} {l : List Int} {n i p : Int} (h : i > 0) (h2 : i ≤ n) : nsD b l (n - (i - 1)).toNat p = nsD b l (n - i).toNat p ++ [nm b (p + (n - i)) l] := by
 rw [show (n - (i - 1)).toNat = (n - i).toNat + 1 by omega, bw0, show (((n - i).toNat : Nat) : Int) = n - i by omega]
theorem bg6 {b : List UInt8} {l : List Int} {n p : Int} : nsD b l (n - n).toNat p = [] := by rw [Int.sub_self]; rfl
theorem ax0 (vs ars : List Int) (bd : List c8) (hb : v7 bd ≤ 1048576) : j9.ok Tryz.prog (fnC 77 [pA 0] [dI vs, dI ars, dT bd] (bA (E2 ⟨vs, ars, bd⟩))) := ag9 ⟨vs, ars, bd⟩ hb
theorem b79 {b : List UInt8} {j : Int} (h : E2 ⟨vsD b j, asD b j, (G7 (C4 b (vsD b j).length (asD b j).length 3) (nm b (kp2 b j) nbL).toNat (kp2 b j + 1)).1⟩ = true) : L0 b j = ⟨vsD b j, asD b j, (Y2 b j).1⟩ := if_pos h
theorem b78 {b : List UInt8} {j : Int} (h : E2 ⟨vsD b j, asD b j, (G7 (C4 b (vsD b j).length (asD b j).length 3) (nm b (kp2 b j) nbL).toNat (kp2 b j + 1)).1⟩ = false) : L0 b j = fbP := if_neg (by intro h2; have h3 : E2 ⟨vsD b j, asD b j, (G7 (C4 b (vsD b j).length (asD b j).length 3) (nm b (kp2 b j) nbL).toNat (kp2 b j + 1)).1⟩ = true := h2; rw [h] at h3; cases h3)
theorem bW7 (b : List UInt8) (j : Int) : j + 1 + (nm b j nvL - 0) = I5 b j := by unfold I5; omega
theorem bW6 (b : List UInt8) (j : Int) : nsD b viL (nm b j nvL - 0).toNat (j + 1) = vsD b j := by unfold vsD; rw [Int.sub_zero]
theorem bW5 (b : List UInt8) (j : Int) : I5 b j + 1 + (nm b (I5 b j) naL - 0) = kp2 b j := by unfold kp2; omega
theorem bW4 (b : List UInt8) (j : Int) : nsD b aiL (nm b (I5 b j) naL - 0).toNat (I5 b j + 1) = asD b j := by unfold asD; rw [Int.sub_zero]
abbrev au0 (b : List UInt8) (j : Int) := G7 (C4 b (vsD b j).length (asD b j).length 3) (nm b (kp2 b j) nbL).toNat (kp2 b j + 1)
abbrev bd3 (b : List UInt8) (j : Int) : List It := [.box [.ref 1, iA (Y2 b j).snd], dY b, .row 3 (D.ints (L0 b j).vars), .row 3 (D.ints (L0 b j).arrays), .tree (D.stmts (L0 b j).body)]
abbrev S0 : It := .box [.v (.slice none 0 0), .v (.slice none 0 0), .v (.slice none 0 0)]
abbrev aU0 : It := .box [.ref 4, .v (.slice none 0 0), .v (.slice none 0 0)]
abbrev bq4 : It := .tree (D.stmts [c8.mk 1 1 (d9.mk 0 0 []) (d9.mk 2 0 []) 0 [] []])
theorem av3 (b : List UInt8) (j : Int) (r0 : 0 ≤ j) (r1 : j ≤ 10000000) : j9.ok Tryz.prog (pgC b j) := by
  refine K9 52 Tryz.func49 [.box [.ref 1, iA j], dY b] [(0, .ptr 0 0)] fun G => ?_; have hnv := bQ3 b r0 (by omega); have hk1 := bx2 b r0 r1; have hk2 := bx1 b r0 r1; have hna := bQ7 b (k := I5 b j) (by omega) (by omega); have hnb := bX1 b (k := kp2 b j) (by omega) (by omega); have hvl := bq6 b r0 r1; have hal := bB5 b r0 r1; have hbd := bB3 b r0 r1; have hbs : v7 (G7 (C4 b (vsD b j).length (asD b j).length 3) (nm b (kp2 b j) nbL).toNat (kp2 b j + 1)).1 ≤ 1048576 := cd3 hbd.2.2 (by omega); refine wp_seq (l0 G f8 [0, 1, 2] [.box [.ref 1, iA j], dY b, S0] [(0, .ptr 0 0), (2, .ptr 2 0)] fun G => b0 (wp_seq (l0 G f8 [0, 1, 2, 11] [.box [.ref 1, iA j], dY b, S0, S0] [(0, .ptr 0 0), (2, .ptr 2 0), (3, .ptr 3 0)] fun G => b0 (wp_seq (wp_seq (l0 G (A4 2 [0, 1, 12] (j9.lend (P0 b j nvL (List.cons_ne_nil _ _) (by assumption) (by omega)) [.no, .no, .row 3])) (rg 4) [.box [.ref 1, iA (j + 1)], dY b, S0, S0] [(0, .ptr 0 0), (2, .ptr 2 0), (3, .ptr 3 0), (4, iA (nm b j nvL))] fun G => b0 (wp_block ?_))))))); have Gx := G.nil 4 3 (.ints []) 1 [.box [.ref 1, iA (j + 1)], dY b, S0, aU0] [(0, .ptr 0 0), (2, .ptr 2 0), (3, .ptr 3 0), (4, iA (nm b j nvL))]; clear G; obtain ⟨ρ, G⟩ := Gx; replace G := v5.at G [.box [.ref 1, iA (j + 1)], dY b, S0, aU0, .row 3 (D.ints [])] [(0, .ptr 0 0), (2, .ptr 2 0), (3, .ptr 3 0), (4, iA (nm b j nvL))]; replace G := G.as [.box [.ref 1, iA (j + 1 + (nm b j nvL - nm b j nvL))], dY b, .box [.v (.slice none 0 0), .v (.slice none 0 0), .v (.slice none 0 0)], .box [.ref 4, .v (.slice none 0 0), .v (.slice none 0 0)], .row 3 (D.ints (nsD b viL (nm b j nvL - nm b j nvL).toNat (j + 1)))] [(0, .ptr 0 0), (2, .ptr 2 0), (3, .ptr 3 0), (4, iA (nm b j nvL))] (by have e1 : (j + 1 + (nm b j nvL - nm b j nvL) : Int) = (j + 1) := (by omega); have e2 : (nsD b viL (nm b j nvL - nm b j nvL).toNat (j + 1) : List Int) = ([]) := bg6; (first | rw [e1, e2] | simp only [e1, e2]) <;> rfl) (by kernel_rfl); refine A8 (κ := Int) (fun i => 0 ≤ i ∧ i ≤ nm b j nvL) (fun i => i.toNat) (fun i => [.box [.ref 1, iA (j + 1 + (nm b j nvL - i))], dY b, .box [.v (.slice none 0 0), .v (.slice none 0 0), .v (.slice none 0 0)], .box [.ref 4, .v (.slice none 0 0), .v (.slice none 0 0)], .row 3 (.ints (nsD b viL (nm b j nvL - i).toNat (j + 1)))]) (fun i => [(0, .ptr 0 0), (2, .ptr 2 0), (3, .ptr 3 0), (4, iA i)]) (nm b j nvL) (by omega) (v5.at G _ _) ?_; clear G; intro i ρ a w hp G; replace G := v5.at G [.box [.ref 1, iA (j + 1 + (nm b j nvL - i))], dY b, S0, aU0, .row 3 (D.ints (nsD b viL (nm b j nvL - i).toNat (j + 1)))] [(0, .ptr 0 0), (2, .ptr 2 0), (3, .ptr 3 0), (4, iA i)]; have hlen : (nsD b viL (nm b j nvL - i).toNat (j + 1)).length = (nm b j nvL - i).toNat := ah7 _ _ _ _; refine wp_seq (wp_seq (I8 G f8 [(0, .ptr 0 0), (2, .ptr 2 0), (3, .ptr 3 0), (4, iA i), (11, bA (decide (i > 0)))] fun G => b0 ?_)); cases h0 : (decide (i > 0))
  ·
   have q0 := dFf h0
   obtain rfl : i = 0 := by omega
   rw [bW7, bW6] at G; refine rF G false (by kernel_rfl) (wp_exit (A2 (A2 (A1 (b0 (wp_seq (wp_seq (l0 G (A4 2 [0, 1, 13] (j9.lend (P0 b (I5 b j) naL (by simp [h0]) (by omega) (by omega)) [.no, .no, .row 3])) (rg 5) [.box [.ref 1, iA (I5 b j + 1)], dY b, S0, aU0, .row 3 (D.ints (vsD b j))] [(0, .ptr 0 0), (2, .ptr 2 0), (3, .ptr 3 0), (5, iA (nm b (I5 b j) naL))] fun G => b0 (wp_block ?_))))))))); have Gx := G.nil 5 3 (.ints []) 1 [.box [.ref 1, iA (I5 b j + 1)], dY b, S0, .box [.ref 4, .ref 5, .v (.slice none 0 0)], .row 3 (D.ints (vsD b j))] [(0, .ptr 0 0), (2, .ptr 2 0), (3, .ptr 3 0), (5, iA (nm b (I5 b j) naL))]; clear G; obtain ⟨ρ, G⟩ := Gx; replace G := v5.at G [.box [.ref 1, iA (I5 b j + 1)], dY b, S0, .box [.ref 4, .ref 5, .v (.slice none 0 0)], .row 3 (D.ints (vsD b j)), .row 3 (D.ints [])] [(0, .ptr 0 0), (2, .ptr 2 0), (3, .ptr 3 0), (5, iA (nm b (I5 b j) naL))]; have Gx := G.nilT 6 (.stmts []) [.box [.ref 1, iA (I5 b j + 1)], dY b, S0, .box [.ref 4, .ref 5, .tref 6], .row 3 (D.ints (vsD b j)), .row 3 (D.ints [])] [(0, .ptr 0 0), (2, .ptr 2 0), (3, .ptr 3 0), (5, iA (nm b (I5 b j) naL))]; clear G; obtain ⟨ρ, G⟩ := Gx; replace G := v5.at G [.box [.ref 1, iA (I5 b j + 1)], dY b, S0, .box [.ref 4, .ref 5, .tref 6], .row 3 (D.ints (vsD b j)), .row 3 (D.ints []), .tree (D.stmts [])] [(0, .ptr 0 0), (2, .ptr 2 0), (3, .ptr 3 0), (5, iA (nm b (I5 b j) naL))]; replace G := G.as [.box [.ref 1, iA (I5 b j + 1 + (nm b (I5 b j) naL - nm b (I5 b j) naL))], dY b, .box [.v (.slice none 0 0), .v (.slice none 0 0), .v (.slice none 0 0)], .box [.ref 4, .ref 5, .tref 6], .row 3 (D.ints (vsD b j)), .row 3 (D.ints (nsD b aiL (nm b (I5 b j) naL - nm b (I5 b j) naL).toNat (I5 b j + 1))), .tree (D.stmts [])] [(0, .ptr 0 0), (2, .ptr 2 0), (3, .ptr 3 0), (5, iA (nm b (I5 b j) naL))] (by have e1 : (I5 b j + 1 + (nm b (I5 b j) naL - nm b (I5 b j) naL) : Int) = (I5 b j + 1) := (by omega); have e2 : (nsD b aiL (nm b (I5 b j) naL - nm b (I5 b j) naL).toNat (I5 b j + 1) : List Int) = ([]) := bg6; (first | rw [e1, e2] | simp only [e1, e2]) <;> rfl) (by kernel_rfl); refine A8 (κ := Int) (fun i2 => 0 ≤ i2 ∧ i2 ≤ nm b (I5 b j) naL) (fun i2 => i2.toNat) (fun i2 => [.box [.ref 1, iA (I5 b j + 1 + (nm b (I5 b j) naL - i2))], dY b, .box [.v (.slice none 0 0), .v (.slice none 0 0), .v (.slice none 0 0)], .box [.ref 4, .ref 5, .tref 6], .row 3 (D.ints (vsD b j)), .row 3 (.ints (nsD b aiL (nm b (I5 b j) naL - i2).toNat (I5 b j + 1))), .tree (D.stmts [])]) (fun i2 => [(0, .ptr 0 0), (2, .ptr 2 0), (3, .ptr 3 0), (5, iA i2)]) (nm b (I5 b j) naL) (by omega) (v5.at G _ _) ?_; clear G; intro i2 ρ a w hp G; replace G := v5.at G [.box [.ref 1, iA (I5 b j + 1 + (nm b (I5 b j) naL - i2))], dY b, S0, .box [.ref 4, .ref 5, .tref 6], .row 3 (D.ints (vsD b j)), .row 3 (D.ints (nsD b aiL (nm b (I5 b j) naL - i2).toNat (I5 b j + 1))), .tree (D.stmts [])] [(0, .ptr 0 0), (2, .ptr 2 0), (3, .ptr 3 0), (5, iA i2)]; have hlen : (nsD b aiL (nm b (I5 b j) naL - i2).toNat (I5 b j + 1)).length = (nm b (I5 b j) naL - i2).toNat := ah7 _ _ _ _; refine wp_seq (wp_seq (I8 G f8 [(0, .ptr 0 0), (2, .ptr 2 0), (3, .ptr 3 0), (5, iA i2), (26, bA (decide (i2 > 0)))] fun G => b0 ?_)); cases h1 : (decide (i2 > 0))
   ·
    have q1 := dFf h1
    obtain rfl : i2 = 0 := by omega
    rw [bW5, bW4] at G; refine rF G false (by kernel_rfl) (wp_exit (A2 (A2 (A1 (b0 (wp_seq (bu2 G (X7 (H7 4 [0, 1, 31] (j9.lend (P0 b (kp2 b j) nbL (by simp [h0, h1]) (by omega) (by omega)) [.no, .no, .row 3]) (H7 5 [0, 1, 4, 5, 6] (j9.lend (bT2 b (vsD b j) (asD b j) ([]) (kp2 b j + 1) 3 (nm b (kp2 b j) nbL) (by kernel_rfl) (by omega) (by omega) (by omega) (by omega)) [.no, .no, .row 3, .row 3, .tree]) X6)) fz []) [0, 0, 0, 0, 12, 31, 63, 127] [0, 1, 2, 3, 4, 5, 47] [.box [.ref 1, iA (au0 b j).snd], dY b, S0, .box [.ref 4, .ref 5, .tref 6], .row 3 (D.ints (vsD b j)), .row 3 (D.ints (asD b j)), .tree (D.stmts (au0 b j).fst)] [(2, .ptr 2 0), (3, .ptr 3 0)] fun G => b0 (wp_seq (wp_seq (m7 G (A4 1 [4, 5, 6] (j9.lend (ax0 (vsD b j) (asD b j) ((G7 (C4 b (vsD b j).length (asD b j).length 3) (nm b (kp2 b j) nbL).toNat (kp2 b j + 1)).fst) (by assumption)) [.row 3, .row 3, .tree])) [(45, bA (E2 (j8.mk (vsD b j) (asD b j) (au0 b j).fst)))] fun G => b0 (rcB (b := E2 (j8.mk (vsD b j) (asD b j) (G7 (C4 b (vsD b j).length (asD b j).length (3 : Nat)) (nm b (kp2 b j) nbL).toNat (kp2 b j + 1)).fst)) G (fun h2 => ?_) fun h2 => ?_)))))))))))
    · refine wp_skip (b0 (wp_seq (l0 G f8 [0, 1, 2, 7, 31] [.box [.ref 1, iA (au0 b j).snd], dY b, .box [.ref 3, .v (.slice none 0 0), .tref 4], .row 3 (D.ints ([0] ++ ([1] ++ []))), bq4] [(2, .ptr 2 0)] fun G => b0 (wp_ret ?_)))); have Gx := G.nil 5 3 (.ints []) 1 [.box [.ref 1, iA (au0 b j).snd], dY b, .box [.ref 3, .ref 5, .tref 4], .row 3 (D.ints ([0] ++ ([1] ++ []))), bq4] [(2, .ptr 2 0)]; clear G; obtain ⟨ρ, G⟩ := Gx; replace G := v5.at G [.box [.ref 1, iA (au0 b j).snd], dY b, .box [.ref 3, .ref 5, .tref 4], .row 3 (D.ints ([0] ++ ([1] ++ []))), bq4, .row 3 (D.ints [])] [(2, .ptr 2 0)]; exact L6 G [0, 1, 3, 5, 4] (by show _ = mR [0, 1, 3, 5, 4] (bd3 b j); unfold bd3; rw [b78 (by with_reducible assumption)] <;> rfl)
    · refine wp_seq (l0 G f8 [0, 1, 2, 4, 5, 6] [.box [.ref 1, iA (au0 b j).snd], dY b, .box [.ref 3, .ref 4, .tref 5], .row 3 (D.ints (vsD b j)), .row 3 (D.ints (asD b j)), .tree (D.stmts (au0 b j).fst)] [(2, .ptr 2 0)] fun G => b0 (wp_ret (o5 ?_))); exact L6 G [0, 1, 3, 4, 5] (by show _ = mR [0, 1, 3, 4, 5] (bd3 b j); unfold bd3; rw [b79 (by with_reducible assumption)] <;> rfl)
   · have q1 := dTt h1; refine rT G _ h1 (wp_skip (b0 (wp_seq (wp_block (L7 G (A4 4 [0, 1, 31] (j9.lend (P0 b (I5 b j + 1 + (nm b (I5 b j) naL - i2)) aiL (by simp [h0, h1]) (by omega) (by omega)) [.no, .no, .row 3])) [0, 1, 0, 0, 12, 28, 63, 127, 255] [0, 1, 2, 3, 4, 6, 55] [.box [.ref 1, iA (I5 b j + 1 + (nm b (I5 b j) naL - i2) + 1)], dY b, S0, .box [.ref 4, .ref 6, .tref 5], .row 3 (D.ints (vsD b j)), .tree (D.stmts []), .row 3 (D.ints (nsD b aiL (nm b (I5 b j) naL - i2).toNat (I5 b j + 1) ++ ([nm b (I5 b j + 1 + (nm b (I5 b j) naL - i2)) aiL] ++ [])))] [(0, .ptr 0 0), (2, .ptr 2 0), (3, .ptr 3 0), (5, iA i2)] (aP ((nsD b aiL (nm b (I5 b j) naL - i2).toNat (I5 b j + 1)).length + ([nm b (I5 b j + 1 + (nm b (I5 b j) naL - i2)) aiL] ++ []).length) 8 []) (aK (by simp only [cb2, cb8, cc1, ah7]; omega) cc2) fun G => t5 (b0 (O0 G f8 [(5, iA (i2 - 1))] [wO (i2 - 1)] (o1 (by omega)) fun G => b0 ?_))))))); exact rxn G (i2 - 1) (by omega) (by omega) [0, 1, 2, 3, 4, 6, 5] (by have e1 : (I5 b j + 1 + (nm b (I5 b j) naL - (i2 - 1)) : Int) = (I5 b j + 1 + (nm b (I5 b j) naL - i2) + 1) := (by omega); have e2 : (nsD b aiL (nm b (I5 b j) naL - (i2 - 1)).toNat (I5 b j + 1) : List Int) = (nsD b aiL (nm b (I5 b j) naL - i2).toNat (I5 b j + 1) ++ ([nm b (I5 b j + 1 + (nm b (I5 b j) naL - i2)) aiL] ++ [])) := (bg7 (by omega) (by omega)); (first | rw [e1, e2] | simp only [e1, e2]) <;> rfl)
  · have q0 := dTt h0; refine rT G _ h0 (wp_skip (b0 (wp_seq (wp_block (L7 G (A4 4 [0, 1, 29] (j9.lend (P0 b (j + 1 + (nm b j nvL - i)) viL (by simp [h0]) (by omega) (by omega)) [.no, .no, .row 3])) [0, 1, 0, 0, 12, 28, 63, 127, 255] [0, 1, 2, 3, 53] [.box [.ref 1, iA (j + 1 + (nm b j nvL - i) + 1)], dY b, S0, aU0, .row 3 (D.ints (nsD b viL (nm b j nvL - i).toNat (j + 1) ++ ([nm b (j + 1 + (nm b j nvL - i)) viL] ++ [])))] [(0, .ptr 0 0), (2, .ptr 2 0), (3, .ptr 3 0), (4, iA i)] (aP ((nsD b viL (nm b j nvL - i).toNat (j + 1)).length + ([nm b (j + 1 + (nm b j nvL - i)) viL] ++ []).length) 8 []) (aK (by simp only [cb2, cb8, cc1, ah7]; omega) cc2) fun G => t5 (b0 (O0 G f8 [(4, iA (i - 1))] [wO (i - 1)] (o1 (by omega)) fun G => b0 ?_))))))); exact rxn G (i - 1) (by omega) (by omega) (rg 5) (by have e1 : (j + 1 + (nm b j nvL - (i - 1)) : Int) = (j + 1 + (nm b j nvL - i) + 1) := (by omega); have e2 : (nsD b viL (nm b j nvL - (i - 1)).toNat (j + 1) : List Int) = (nsD b viL (nm b j nvL - i).toNat (j + 1) ++ ([nm b (j + 1 + (nm b j nvL - i)) viL] ++ [])) := (bg7 (by omega) (by omega)); (first | rw [e1, e2] | simp only [e1, e2]) <;> rfl)
section
variable {b : List UInt8} {p : j8} {j : Int}
end
def ap4 (k v r : Int) : d8 := if k = 3 then ⟨4, r, v, r, 0⟩ else if k = 11 then ⟨7, r, r, r + 1, r + 2⟩ else ⟨6, r, k, r, r + 1⟩
mutual
def c6 : d9 → Int → List d8
 | ⟨k, v, ks⟩, r => if k = 1 then [⟨1, r, v, 0, 0⟩] else if k = 2 then [⟨2, r, v, 0, 0⟩] else j7 ks r ++ [ap4 k v r]
def j7 : List d9 → Int → List d8
 | [], _ => []
 | e :: t, r => c6 e r ++ j7 t (r + 1)
end
theorem ai4 (e : d9) (r : Int) : c6 e r = if e.kind = 1 then [⟨1, r, e.value, 0, 0⟩] else if e.kind = 2 then [⟨2, r, e.value, 0, 0⟩] else j7 e.kids r ++ [ap4 e.kind e.value r] := by cases e; rw [c6]; rfl
theorem ak3 : ∀ (a b : List d9) (r : Int), j7 (a ++ b) r = j7 a r ++ j7 b (r + a.length)
 | [], b, r => by simp [j7]
 | e :: t, b, r => by
  simp only [List.cons_append, j7, cf7]
  rw [ak3 t b (r + 1)]
  congr 2
  simp only [cb8]
  rw [show r + 1 + (t.length : Int) = r + ((t.length + 1 : Nat) : Int) by omega]
theorem av2 {ks : List d9} {k : Nat} {r : Int} (hk : k < ks.length) : j7 (ks.take (k + 1)) r = j7 (ks.take k) r ++ c6 (ks.getD k ca9) (r + k) := by
 rw [s4 _ _ hk, ak3, o8 hk]
 simp [j7, List.length_take, Nat.min_eq_left (Nat.le_of_lt hk)]
mutual
theorem V3 : ∀ (e : d9) (r : Int), (c6 e r).length ≤ 1 + T2 e
 | ⟨k, v, ks⟩, r => by
  have h := ad5 ks r
  rw [c6]
  simp only [T2]
  split
  ·simp
  ·split
   ·simp
   ·simp only [cb2, cb8, cc1]; omega
theorem ad5 : ∀ (ks : List d9) (r : Int), (j7 ks r).length ≤ P6 ks
 | [], _ => by simp [j7]
 | e :: t, r => by
  have h1 := V3 e r
  have h2 := ad5 t (r + 1)
  simp only [j7, P6, cb2]; omega
end
abbrev H9 : Type := List d8 × List Int × Int
def G3 (x : H9) (n : Int) (c : List d8) : H9 := (x.1 ++ c, x.2.1 ++ ca7 c.length n, x.2.2)
def bu5 (l : List d8) (i : Nat) (n : Int) : List d8 := l.set i ⟨(l.getD i ca9).op, (l.getD i ca9).a, n, (l.getD i ca9).c, (l.getD i ca9).d⟩
def bP1 (l : List d8) (i : Nat) (n : Int) : List d8 := l.set i ⟨(l.getD i ca9).op, n, (l.getD i ca9).b, (l.getD i ca9).c, (l.getD i ca9).d⟩
mutual
def Q6 : c8 → Int → H9 → H9
 | ⟨k, t, i, v, c, b, e⟩, d, x =>
  if k = 4 then G3 (n5 b (d + 1) (G3 (x.1, x.2.1, x.2.2 + 1) x.2.2 [⟨1, 9 + d, c, 0, 0⟩])) x.2.2 [⟨10, 9 + d, ((x.1.length + 1 : Nat) : Int), 0, 0⟩]
  else if k = 1 then G3 (G3 (x.1, x.2.1, x.2.2 + 1) x.2.2 (c6 v 0)) x.2.2 [⟨3, t, 0, 0, 0⟩]
  else if k = 5 then G3 (G3 (G3 (x.1, x.2.1, x.2.2 + 1) x.2.2 (c6 v 0)) x.2.2 [⟨11, 0, 0, 0, 0⟩]) x.2.2 [⟨3, t, 0, 0, 0⟩]
  else if k = 2 then G3 (G3 (G3 (x.1, x.2.1, x.2.2 + 1) x.2.2 (c6 v 0)) x.2.2 (c6 i 1)) x.2.2 [⟨5, t, 1, 0, 0⟩]
  else
   (fun (y : H9) =>
    (fun (z : H9) =>
     (fun (u : H9) => (bP1 u.1 (z.1.length - 1) (u.1.length : Int), u.2)) (n5 e (d + 1) (bu5 z.1 y.1.length (z.1.length : Int), z.2)))
    (G3 (n5 b (d + 1) (G3 y x.2.2 [⟨9, 0, 0, 0, 0⟩])) x.2.2 [⟨8, 0, 0, 0, 0⟩]))
   (G3 (x.1, x.2.1, x.2.2 + 1) x.2.2 (c6 v 0))
def n5 : List c8 → Int → H9 → H9
 | [], _, x => x
 | s :: r, d, x => n5 r d (Q6 s d x)
end
theorem ba4 (a b : List c8) (d : Int) (x : H9) : n5 (a ++ b) d x = n5 b d (n5 a d x) := by
 induction a generalizing x with
 | nil => rfl
 | cons s r ih => simp only [List.cons_append, n5]; exact ih _
theorem aE4 {ss : List c8} {k : Nat} {d : Int} {x : H9} (hk : k < ss.length) : n5 (ss.take (k + 1)) d x = Q6 (ss.getD k ca9) d (n5 (ss.take k) d x) := by
 rw [s4 _ _ hk, ba4, o8 hk]
 simp [n5]
mutual
def bn0 : c8 → Nat
 | ⟨k, _, i, v, _, b, e⟩ => if k = 4 then 2 + aH0 b else if k = 1 then (c6 v 0).length + 1 else if k = 5 then (c6 v 0).length + 2 else if k = 2 then (c6 v 0).length + (c6 i 1).length + 1 else (c6 v 0).length + 2 + aH0 b + aH0 e
def aH0 : List c8 → Nat
 | [] => 0
 | s :: r => bn0 s + aH0 r
end
mutual
theorem bJ0 : ∀ (s : c8) (d : Int) (x : H9), (Q6 s d x).1.length = x.1.length + bn0 s ∧ (Q6 s d x).2.1.length = x.2.1.length + bn0 s
 | ⟨k, t, i, v, c, b, e⟩, d, x => by
  rw [Q6, bn0]
  split
  ·have h := K7 b (d + 1) (G3 (x.1, x.2.1, x.2.2 + 1) x.2.2 [⟨1, 9 + d, c, 0, 0⟩])
   simp only [G3, cb2, cb8, cc1, cd0] at h ⊢
   omega
  ·split
   ·simp only [G3, cb2, cb8, cc1, cd0]; omega
   ·split
    ·simp only [G3, cb2, cb8, cc1, cd0]; omega
    ·split
     ·simp only [G3, cb2, cb8, cc1, cd0]; omega
     ·simp only
      generalize hy : G3 (x.1, x.2.1, x.2.2 + 1) x.2.2 (c6 v 0) = y
      have hy1 : y.1.length = x.1.length + (c6 v 0).length := by rw [← hy]; simp [G3]
      have hy2 : y.2.1.length = x.2.1.length + (c6 v 0).length := by rw [← hy]; simp [G3]
      have h1 := K7 b (d + 1) (G3 y x.2.2 [⟨9, 0, 0, 0, 0⟩])
      generalize n5 b (d + 1) (G3 y x.2.2 [⟨9, 0, 0, 0, 0⟩]) = z at h1 ⊢
      have h2 := K7 e (d + 1) (bu5 (G3 z x.2.2 [⟨8, 0, 0, 0, 0⟩]).1 y.1.length ((G3 z x.2.2 [⟨8, 0, 0, 0, 0⟩]).1.length : Int), (G3 z x.2.2 [⟨8, 0, 0, 0, 0⟩]).2)
      simp only [G3, bP1, bu5, cd2, cb2, cb8, cc1, cd0] at h1 h2 ⊢
      omega
theorem K7 : ∀ (ss : List c8) (d : Int) (x : H9), (n5 ss d x).1.length = x.1.length + aH0 ss ∧ (n5 ss d x).2.1.length = x.2.1.length + aH0 ss
 | [], _, _ => ⟨rfl, rfl⟩
 | s :: r, d, x => by
  have h1 := bJ0 s d x
  have h2 := K7 r d (Q6 s d x)
  rw [n5, aH0]
  omega
end
mutual
theorem bI8 : ∀ s : c8, bn0 s ≤ 4 + 4 * szS s
 | ⟨k, t, i, v, c, b, e⟩ => by
  have h1 := V3 v 0
  have h2 := V3 i 1
  have h3 := O9 b
  have h4 := O9 e
  rw [bn0]
  simp only [szS]
  (repeat' split) <;> omega
theorem O9 : ∀ ss : List c8, aH0 ss ≤ 4 * v7 ss
 | [] => cc7 _
 | s :: r => by
  have h1 := bI8 s
  have h2 := O9 r
  simp only [aH0, v7]; omega
end
section
variable {P : Program} {ι κ : Type} {φ ψ : Nat → Prop} {w0 w : World} {F : ι → Rs} {ρ ρ0 : Nat → Value} {N m n : Nat} {S : List It} {tm : List (Nat × AV)} {a : Act}
theorem v5.heal (G : v5 φ ψ w0 F N m ρ0 ρ S tm a w) (id k i : Nat) (l : List (List Int)) (r : List Int) (S1 : List It) (h1 : o0 S id = .hole k i l := by kernel_rfl) (h2 : o0 S k = .row 3 (.ints r) := by kernel_rfl) (hS : S1 = (S.set id (.tree (.rows (l.set i r)))).set k .dead := by kernel_rfl) : v5 φ ψ w0 F N m ρ0 ρ S1 tm a w := by
 subst hS
 have hid : id < S.length := by
  rcases cc9 id S.length with h | h
  ·exact h
  ·rw [y5 h] at h1; cases h1
 have hk : k < S.length := by
  rcases cc9 k S.length with h | h
  ·exact h
  ·rw [y5 h] at h2; cases h2
 have hne : id ≠ k := fun e => by rw [e, h2] at h1; cases h1
 have hlen : ((S.set id (.tree (.rows (l.set i r)))).set k .dead).length = S.length := by simp
 have hat : ∀ j, o0 ((S.set id (.tree (.rows (l.set i r)))).set k .dead) j = if j = k then .dead else if j = id then .tree (.rows (l.set i r)) else o0 S j := fun j => by
  simp only [o0, cb3, List.getElem?_set]
  by_cases e1 : k = j
  ·subst e1; simp [hk]
  ·have e1' : ¬ j = k := fun h => e1 h.symm
   by_cases e2 : id = j
   ·subst e2; simp [hid, e1, e1']
   ·have e2' : ¬ j = id := fun h => e2 h.symm
    simp [e1, e1', e2, e2']
 refine ⟨G.size, G.defs, G.tmv, fun t x hx q hq => by rw [hlen]; exact G.tmi t x hx q hq, fun j => ⟨fun q hq => ?_, fun hj => ?_⟩, ?_, by rw [hlen]; exact G.le, G.old⟩
 ·rw [hat] at hq
  rw [hlen]
  split at hq
  ·cases hq
  ·split at hq
   ·cases hq
   ·exact (G.bd j).1 q hq
 ·rw [hlen] at hj
  rw [hat, if_neg (by omega), if_neg (by omega)]
  exact y5 hj
 ·have M := G.mem
  have hh := M.holds (.inr id)
  have hr := M.holds (.inr k)
  have l1 : l7 F ρ (o0 S) (.inr id) = .own (fun b => y9 (ρ id) b ∧ (ρ k).ownBlock ≠ some b) fun w => aq1 w (y9 (ρ id)) i l (ρ k) (E0 (ρ id)) := by simp only [l7, h1, It.res]
  have l2 : l7 F ρ (o0 S) (.inr k) = .row 3 1 (ρ k) r.length fun xs w φ => RW w φ (.ints r) xs := by simp only [l7, h2, It.res, D.sz, D.len]
  rw [l1] at hh
  rw [l2] at hr
  obtain ⟨_, hO, hlt⟩ := hh
  obtain ⟨_, xs, o1, o2⟩ := hr
  have hxs : xs = ints r := bf6 (by have := o1.1; simpa using this) o2
  subst hxs
  have hT := hO.back o1
  have hu : ∀ g, (ρ k).ownBlock = some g → y9 (ρ id) g := by
   obtain ⟨ys, S', _, _, q3, q4, q5, _, q2, _⟩ := hO
   obtain ⟨u', a', _, c⟩ := q2 i q5
   rw [q4] at a'; cases a'
   exact fun g hg => q3 g (c g hg)
  have m1 : l7 F ρ (o0 ((S.set id (.tree (.rows (l.set i r)))).set k .dead)) (.inr id) = .own (y9 (ρ id)) fun w => C5 w (y9 (ρ id)) (.rows (l.set i r)) (E0 (ρ id)) := by simp only [l7, hat, if_neg hne, if_true, It.res]
  have m2 : l7 F ρ (o0 ((S.set id (.tree (.rows (l.set i r)))).set k .dead)) (.inr k) = Rs.none := by simp only [l7, hat, if_true, It.res]
  have m3 : ∀ q, q ≠ .inr id → q ≠ .inr k → l7 F ρ (o0 ((S.set id (.tree (.rows (l.set i r)))).set k .dead)) q = l7 F ρ (o0 S) q := fun q e1 e2 => by
   cases q with
   | inl _ => rfl
   | inr j => simp only [l7, hat, if_neg (show ¬ j = k from fun e => e2 (by rw [e])), if_neg (show ¬ j = id from fun e => e1 (by rw [e]))]
  generalize l7 F ρ (o0 ((S.set id (.tree (.rows (l.set i r)))).set k .dead)) = L' at *
  have org : ∀ q b, (L' q).blk b → (q = .inr id ∧ ((l7 F ρ (o0 S) (.inr id)).blk b ∨ (l7 F ρ (o0 S) (.inr k)).blk b)) ∨ (q ≠ .inr id ∧ q ≠ .inr k ∧ (l7 F ρ (o0 S) q).blk b) := fun q b hb => by
   by_cases e1 : q = .inr id
   ·subst e1
    rw [m1] at hb
    refine .inl ⟨rfl, ?_⟩
    rw [l1, l2]
    by_cases e : (ρ k).ownBlock = some b
    ·exact .inr e
    ·exact .inl ⟨hb, e⟩
   ·by_cases e2 : q = .inr k
    ·subst e2; rw [m2] at hb; exact hb.elim
    ·rw [m3 q e1 e2] at hb; exact .inr ⟨e1, e2, hb⟩
  refine M.re (fun q b hb => ?_) (fun p q g hpq h1 h2 => ?_) fun q => ?_
  ·rcases org q b hb with ⟨_, h | h⟩ | ⟨_, _, h⟩
   ·exact ⟨_, h⟩
   ·exact ⟨_, h⟩
   ·exact ⟨_, h⟩
  ·rcases org p g h1 with ⟨e1, f1⟩ | ⟨e1, e1', f1⟩
   ·rcases org q g h2 with ⟨e2, f2⟩ | ⟨e2, e2', f2⟩
    ·exact hpq (e1.trans e2.symm)
    ·rcases f1 with f1 | f1
     ·exact M.dis _ _ g (fun e => e2 e.symm) f1 f2
     ·exact M.dis _ _ g (fun e => e2' e.symm) f1 f2
   ·rcases org q g h2 with ⟨e2, f2⟩ | ⟨e2, e2', f2⟩
    ·rcases f2 with f2 | f2
     ·exact M.dis _ _ g e1 f1 f2
     ·exact M.dis _ _ g e1' f1 f2
    ·exact M.dis _ _ g hpq f1 f2
  ·by_cases e1 : q = .inr id
   ·subst e1
    right; intro φ'; rw [m1]
    refine ⟨fun _ _ h hs => h.same hs, hT, fun b hb => ?_⟩
    by_cases e : (ρ k).ownBlock = some b
    ·exact (World.ownsRow.lt o1 b e).2
    ·exact hlt b ⟨hb, e⟩
   ·by_cases e2 : q = .inr k
    ·subst e2
     right; intro φ'; rw [m2]; exact Rs.none_holds _ _
    ·exact .inl (m3 q e1 e2)
theorem v5.heal0 (G : v5 φ ψ w0 F N m ρ0 ρ S tm a w) (id k i : Nat) (l : List (List Int)) (S1 : List It) (h1 : o0 S id = .hole k i l := by kernel_rfl) (h2 : o0 S k = .row 3 (.ints (l.getD i [])) := by kernel_rfl) (hS : S1 = (S.set id (.tree (.rows l))).set k .dead := by kernel_rfl) : v5 φ ψ w0 F N m ρ0 ρ S1 tm a w := by
 refine G.heal id k i l (l.getD i []) S1 h1 h2 ?_
 have e : l.set i (l.getD i []) = l := by
  apply List.ext_getElem?
  intro j
  rw [List.getElem?_set]
  by_cases h : i = j
  ·subst h
   rw [if_pos rfl]
   by_cases h2 : i < l.length
   ·simp [h2]
   ·simp [h2]
  ·rw [if_neg h]
 rw [e]; exact hS
theorem It.res_ren' {σ : Nat → Nat} {i j : Nat} {ρ : Nat → Value} (x : It) (h : σ i = j) : (x.ren σ).res ρ j = x.res (fun i => ρ (σ i)) i := by
 subst h; exact It.res_ren x
def mv (i n j : Nat) : Nat := if natEq j i then n else j
theorem aC4 {f : AV → AV} {t : Nat} {y : AV} : ∀ {tm : List (Nat × AV)}, z9 (tm.map fun p => (p.1, f p.2)) t = some y → ∃ x, z9 tm t = some x ∧ y = f x
 | [], h => by cases h
 | (k, z) :: r, h => by
  simp only [z9, cd7] at h ⊢
  split at h
  ·rename_i hk; cases h; exact ⟨z, by rw [if_pos hk], rfl⟩
  ·rename_i hk
   obtain ⟨x, h1, h2⟩ := aC4 h
   exact ⟨x, by rw [if_neg hk]; exact h1, h2⟩
theorem bR2 {i n : Nat} {x : AV} : ∀ j ∈ (x.ren (mv i n)).ids, (∃ k ∈ x.ids, mv i n k = j) := by
 have key : (∀ x : AV, ∀ j ∈ (x.ren (mv i n)).ids, ∃ k ∈ x.ids, mv i n k = j) ∧ (∀ l : List AV, ∀ j ∈ AV.idsL (AV.renL (mv i n) l), ∃ k ∈ AV.idsL l, mv i n k = j) := by
  have hL : ∀ (l : List AV), (∀ x ∈ l, ∀ j ∈ (x.ren (mv i n)).ids, ∃ k ∈ x.ids, mv i n k = j) → ∀ j ∈ AV.idsL (AV.renL (mv i n) l), ∃ k ∈ AV.idsL l, mv i n k = j := by
   intro l
   induction l with
   | nil => intro _ j hj; cases hj
   | cons y r ih =>
    intro h j hj
    simp only [AV.renL, AV.idsL, cc4] at hj ⊢
    rcases hj with hj | hj
    ·obtain ⟨k, h1, h2⟩ := h y ce6 j hj
     exact ⟨k, .inl h1, h2⟩
    ·obtain ⟨k, h1, h2⟩ := ih (fun x hx => h x (ce5 _ hx)) j hj
     exact ⟨k, .inr h1, h2⟩
  have hx : ∀ x : AV, ∀ j ∈ (x.ren (mv i n)).ids, ∃ k ∈ x.ids, mv i n k = j := fun x => goX hL x
  exact ⟨hx, fun l => hL l fun x _ => hx x⟩
 exact key.1 x
where
 goX {i n : Nat} (hL : ∀ (l : List AV), (∀ x ∈ l, ∀ j ∈ (x.ren (mv i n)).ids, ∃ k ∈ x.ids, mv i n k = j) → ∀ j ∈ AV.idsL (AV.renL (mv i n) l), ∃ k ∈ AV.idsL l, mv i n k = j) : ∀ x : AV, ∀ j ∈ (x.ren (mv i n)).ids, ∃ k ∈ x.ids, mv i n k = j
  | .v _, j, hj => by cases hj
  | .ptr a b, j, hj => ⟨a, cd4.2 rfl, (cd4.1 hj).symm⟩
  | .ea a b c d, j, hj => ⟨a, cd4.2 rfl, (cd4.1 hj).symm⟩
  | .ref a, j, hj => ⟨a, cd4.2 rfl, (cd4.1 hj).symm⟩
  | .tref a, j, hj => ⟨a, cd4.2 rfl, (cd4.1 hj).symm⟩
  | .agg l, j, hj => hL l (fun x _ => goX hL x) j hj
  | .tup l, j, hj => hL l (fun x _ => goX hL x) j hj
  | .fn _ l, j, hj => hL l (fun x _ => goX hL x) j hj
  | .bm _ l, j, hj => hL l (fun x _ => goX hL x) j hj
theorem v5.shift (G : v5 φ ψ w0 F N m ρ0 ρ S tm a w) (i n : Nat) (S1 : List It) (tm1 : List (Nat × AV)) (hn : (natEq S.length n && decide (i < n)) = true := by kernel_rfl) (hS : S1 = (S.map (It.ren (mv i n))).set i .dead ++ [(o0 S i).ren (mv i n)] := by kernel_rfl) (ht : tm1 = tm.map (fun p => (p.1, p.2.ren (mv i n))) := by kernel_rfl) :
  ∃ ρ', v5 φ ψ w0 F N m ρ0 ρ' S1 tm1 a w := by
 subst hS
 subst ht
 simp only [cb0, natEq, beq_iff_eq, decide_eq_true_eq] at hn
 obtain ⟨hn, hin⟩ := hn
 have hlen : ((S.map (It.ren (mv i n))).set i .dead ++ [(o0 S i).ren (mv i n)]).length = n + 1 := by simp [hn]
 have hat : ∀ j, o0 ((S.map (It.ren (mv i n))).set i .dead ++ [(o0 S i).ren (mv i n)]) j = if j = n then (o0 S i).ren (mv i n) else if j = i then .dead else (o0 S j).ren (mv i n) := fun j => by
  by_cases e : j = n
  ·subst e
   rw [if_pos rfl]
   simp only [o0, cb3]
   rw [cg0 (by simp [hn])]
   simp [hn]
  ·rw [if_neg e]
   by_cases e2 : j = i
   ·subst e2
    rw [if_pos rfl]
    simp only [o0, cb3]
    rw [cd5 (by simp; omega)]
    simp [show j < S.length by omega]
   ·rw [if_neg e2]
    simp only [o0, cb3]
    rcases cc9 j n with h | h
    ·rw [cd5 (by simp; omega), List.getElem?_set_ne (fun h => e2 h.symm), List.getElem?_map, ca8 (by omega)]
     rfl
    ·rw [cd6 (by simp; omega), cd6 (by omega)]; rfl
 have hbd : ∀ x : AV, (∀ j ∈ x.ids, j < n) → ∀ j ∈ (x.ren (mv i n)).ids, j < n + 1 := fun x h j hj => by
  obtain ⟨k, h1, h2⟩ := bR2 j hj
  have := h k h1
  rw [← h2]; unfold mv
  split <;> omega
 let ρ1 : Nat → Value := fun j => if j = n then ρ i else ρ j
 have hmv : ∀ j, j < n → ρ1 (mv i n j) = ρ j := fun j hj => by
  show (if mv i n j = n then ρ i else ρ (mv i n j)) = ρ j
  by_cases e : j = i
  ·subst e; simp [mv, natEq]
  ·have h : mv i n j = j := by simp [mv, natEq, e]
   rw [h, if_neg (by omega)]
 have hval : ∀ x : AV, (∀ j ∈ x.ids, j < n) → (x.ren (mv i n)).val ρ1 = x.val ρ := fun x h => by
  rw [AV.val_ren]
  exact AV.val_congr x fun j hj => hmv j (h j hj)
 have hids : ∀ j, ∀ q ∈ (o0 S j).ids, q < n := fun j q hq => by have := (G.bd j).1 q hq; omega
 have hitem : ∀ j, ∀ q ∈ ((o0 S j).ren (mv i n)).ids, q < n + 1 := fun j q hq => by
  cases hx : o0 S j with
  | box cs =>
   rw [hx] at hq
   have h1 := hids j
   rw [hx] at h1
   exact hbd (.agg cs) h1 q hq
  | hole k d ls =>
   rw [hx] at hq
   have h1 := hids j
   rw [hx] at h1
   exact hbd (.ref k) h1 q hq
  | _ => rw [hx] at hq; cases hq
 refine ⟨ρ1, G.size, G.defs, fun t y hy => ?_, fun t y hy j hj => ?_, fun j => ⟨fun q hq => ?_, fun hj => y5 hj⟩, ?_, ?_, fun j hj => ?_⟩
 ·obtain ⟨x, h1, rfl⟩ := aC4 hy
  rw [G.tmv t x h1, hval x fun j hj => by have := G.tmi t x h1 j hj; omega]
 ·obtain ⟨x, h1, rfl⟩ := aC4 hy
  rw [hlen]
  exact hbd x (fun j hj => by have := G.tmi t x h1 j hj; omega) j hj
 ·rw [hlen]
  rw [hat] at hq
  split at hq
  ·exact hitem i q hq
  ·split at hq
   ·cases hq
   ·exact hitem j q hq
 ·refine G.mem.map (fun k : ι ⊕ Nat => (match k with | .inl q => some (.inl q) | .inr j => if j = n then some (.inr i) else if j = i then none else some (.inr j) : Option (ι ⊕ Nat))) ?_ ?_
  ·intro k k' x h1 h2
   match k, k' with
   | .inl q, .inl q' => simp at h1 h2; rw [← h1] at h2; simpa using h2.symm
   | .inl q, .inr j => simp at h1; subst h1; simp at h2; split at h2 <;> simp at h2
   | .inr j, .inl q => simp at h2; subst h2; simp at h1; split at h1 <;> simp at h1
   | .inr j, .inr j' =>
    simp only at h1 h2
    by_cases e1 : j = n <;> by_cases e2 : j' = n
    ·rw [e1, e2]
    ·rw [if_pos e1] at h1
     rw [if_neg e2] at h2
     by_cases e3 : j' = i
     ·rw [if_pos e3] at h2; cases h2
     ·rw [if_neg e3] at h2
      simp at h1 h2
      rw [← h1] at h2
      exact absurd (Sum.inr.inj h2) e3
    ·rw [if_pos e2] at h2
     rw [if_neg e1] at h1
     by_cases e3 : j = i
     ·rw [if_pos e3] at h1; cases h1
     ·rw [if_neg e3] at h1
      simp at h1 h2
      rw [← h2] at h1
      exact absurd (Sum.inr.inj h1) e3
    ·rw [if_neg e1] at h1
     rw [if_neg e2] at h2
     by_cases e3 : j = i
     ·rw [if_pos e3] at h1; cases h1
     ·by_cases e4 : j' = i
      ·rw [if_pos e4] at h2; cases h2
      ·rw [if_neg e3] at h1
       rw [if_neg e4] at h2
       simp at h1 h2
       rw [← h1] at h2
       rw [Sum.inr.inj h2]
  ·intro k
   match k with
   | .inl q => exact .inl ⟨_, rfl, rfl⟩
   | .inr j =>
    by_cases e : j = n
    ·refine .inl ⟨.inr i, by simp [e], ?_⟩
     simp only [l7]
     rw [hat, if_pos e]
     subst e
     have h1 : mv i j i = j := by simp [mv, natEq]
     rw [It.res_ren' (o0 S i) h1]
     exact It.res_congr _ (fun q hq => hmv q (hids i q hq)) (.inr (.inr (hmv i hin)))
    ·by_cases e2 : j = i
     ·refine .inr ?_
      simp only [l7]
      rw [hat, if_neg e, if_pos e2]
      rfl
     ·refine .inl ⟨.inr j, by simp [e, e2], ?_⟩
      simp only [l7]
      rw [hat, if_neg e, if_neg e2]
      rcases cc9 j n with hj | hj
      ·have h1 : mv i n j = j := by simp [mv, natEq, e2]
       rw [It.res_ren' (o0 S j) h1]
       exact It.res_congr _ (fun q hq => hmv q (hids j q hq)) (.inr (.inr (hmv j hj)))
      ·rw [y5 (by omega)]; rfl
 ·have := G.le; rw [hlen]; omega
 ·have := G.le
  show (if j = n then ρ i else ρ j) = ρ0 j
  rw [if_neg (by omega)]; exact G.old j hj
end
abbrev rN (l : List d8) : It := .row 60 (.instrs l)
abbrev rI (l : List Int) : It := .row 3 (.ints l)
theorem F7 (l : List d8) (fr : List Int) (at0 n o x y z u : Int) (h1 : l.length ≤ 8000000) (h2 : fr.length ≤ 8000000) : j9.ok Tryz.prog ⟨91, [.agg [.ref 0, .ref 1, iA at0], iA n, .agg [iA o, iA x, iA y, iA z, iA u]], [rN l, rI fr], [.dead, .dead, rN (l ++ [⟨o, x, y, z, u⟩]), rI (fr ++ [n])], .agg [.ref 2, .ref 3, iA at0]⟩ := by
 refine K9 20 Tryz.func91 [.row 60 (D.instrs l), .row 3 (D.ints fr)] [(0, .agg [.ref 0, .ref 1, iA at0]), (1, iA n), (2, .agg [iA o, iA x, iA y, iA z, iA u])] fun G => ?_; refine wp_seq (l0 G f8 [0, 1, 2, 10, 18] [.row 60 (D.instrs l), .row 3 (D.ints fr), .box [.ref 0, .ref 1, iA at0], .box [iA o, iA x, iA y, iA z, iA u], .box [.v (.slice none 0 0), .v (.slice none 0 0), iA 0]] [(1, iA n), (3, .ptr 2 0), (5, .ptr 3 0), (6, .ptr 4 0)] fun G => b0 (wp_seq (V2 G f8 [0, 1, 2, 4, 37] [.dead, .row 3 (D.ints fr), .box [.ref 4, .ref 1, iA at0], .box [.v (.slice none 0 0), .v (.slice none 0 0), iA 0], .row 60 (D.instrs (l ++ ([d8.mk o x y z u] ++ [])))] [(1, iA n), (3, .ptr 2 0), (6, .ptr 3 0)] (aP (l.length + 1) 40 []) (aK (by omega) cc2) fun G => b0 (wp_seq (V2 G f8 [0, 1, 2, 3, 4, 37] [.dead, .dead, .box [.ref 4, .ref 5, iA at0], .box [.v (.slice none 0 0), .v (.slice none 0 0), iA 0], .row 60 (D.instrs (l ++ ([d8.mk o x y z u] ++ []))), .row 3 (D.ints (fr ++ ([n] ++ [])))] [(3, .ptr 2 0), (6, .ptr 3 0)] (aP (fr.length + 1) 8 []) (aK (by omega) cc2) fun G => b0 (wp_seq (l0 G f8 [0, 1, 3, 4, 5] [.dead, .dead, .box [.ref 3, .ref 4, iA at0], .row 60 (D.instrs (l ++ ([d8.mk o x y z u] ++ []))), .row 3 (D.ints (fr ++ ([n] ++ [])))] [(6, .ptr 2 0)] fun G => b0 (wp_ret ?_)))))))); exact L6 G [0, 1, 3, 4]
abbrev l7C (l : List d8) (fr : List Int) (at0 n : Int) (e : d9) (reg : Int) : j9 := ⟨110, [.agg [.ref 0, .ref 1, iA at0], iA n, eA e 2, iA reg], [rN l, rI fr, dE e.kids], [.dead, .dead, dE e.kids, rN (l ++ c6 e reg), rI (fr ++ ca7 (c6 e reg).length n)], .agg [.ref 3, .ref 4, iA at0]⟩
theorem ce1 {e : d9} {r : Int} (k : e.kind = 1) : c6 e r = [⟨1, r, e.value, 0, 0⟩] := by rw [ai4, if_pos k]
theorem ce2 {e : d9} {r : Int} (k : e.kind = 2) : c6 e r = [⟨2, r, e.value, 0, 0⟩] := by rw [ai4, if_neg (by omega), if_pos k]
theorem ax3 (ks : List d9) (k : Nat) : P6 (ks.take k) ≤ P6 ks ∧ (k < ks.length → P6 (ks.take k) + 1 + T2 (ks.getD k ca9) ≤ P6 ks) ∧ (ks.take k).length ≤ P6 (ks.take k) := by
 refine ⟨?_, fun h => ?_, aV1 _⟩
 ·have := af4 (ks.take k) (ks.drop k)
  rw [List.take_append_drop] at this
  omega
 ·have h1 := af4 (ks.take (k + 1)) (ks.drop (k + 1))
  rw [List.take_append_drop, s4 _ _ h, af4, ← o8 (d := ca9) h] at h1
  simp only [P6] at h1
  omega
section
variable {e : d9} {l : List d8} {fr : List Int} {n reg : Int} {k : Nat}
theorem aN1 (e : d9) : T2 e = P6 e.kids := by cases e; rfl
theorem bS6 (h0 : 0 ≤ reg) (h1 : reg + T2 e ≤ 2000000) (hk : k < e.kids.length) : 0 ≤ reg + (k : Int) ∧ reg + (k : Int) + T2 (e.kids.getD k ca9) ≤ 2000000 := by
 have h2 := (ax3 e.kids k).2.1 hk
 have h3 := (ax3 e.kids k).2.2
 rw [List.length_take] at h3
 rw [aN1] at h1
 omega
theorem bS7 (h2 : l.length + T2 e ≤ 5000000) (hk : k < e.kids.length) : (l ++ j7 (e.kids.take k) reg).length + T2 (e.kids.getD k ca9) ≤ 5000000 := by
 have h3 := (ax3 e.kids k).2.1 hk
 have h4 := ad5 (e.kids.take k) reg
 rw [aN1] at h2
 rw [cb2]
 omega
theorem as9 (h2 : l.length + T2 e ≤ 5000000) : (l ++ j7 (e.kids.take k) reg).length ≤ 5000000 := by
 have h3 := (ax3 e.kids k).1
 have h4 := ad5 (e.kids.take k) reg
 rw [aN1] at h2
 rw [cb2]
 omega
theorem aE7 (h3 : fr.length = l.length) : (fr ++ ca7 (j7 (e.kids.take k) reg).length n).length = (l ++ j7 (e.kids.take k) reg).length := by simp [h3]
theorem bJ1 (hk : k < e.kids.length) : l ++ j7 (e.kids.take (k + 1)) reg = l ++ j7 (e.kids.take k) reg ++ c6 (e.kids.getD k ca9) (reg + (k : Int)) := by rw [av2 hk, cf7]
theorem bA1 (hk : k < e.kids.length) : fr ++ ca7 (j7 (e.kids.take (k + 1)) reg).length n = fr ++ ca7 (j7 (e.kids.take k) reg).length n ++ ca7 (c6 (e.kids.getD k ca9) (reg + (k : Int))).length n := by
 rw [av2 hk, cb2, cf7, List.replicate_append_replicate]
theorem bA0 : l = l ++ j7 (e.kids.take 0) reg := by simp [j7]
theorem bn2 : fr = fr ++ ca7 (j7 (e.kids.take 0) reg).length n := by simp [j7]
theorem ba6 (k1 : ¬ e.kind = 1) (k2 : ¬ e.kind = 2) (hk : e.kids.length ≤ k) {x : d8} (hx : ap4 e.kind e.value reg = x) : l ++ c6 e reg = l ++ j7 (e.kids.take k) reg ++ [x] := by
 rw [ai4, if_neg k1, if_neg k2, cc6 hk, hx, cf7]
theorem aR8 (k1 : ¬ e.kind = 1) (k2 : ¬ e.kind = 2) (hk : e.kids.length ≤ k) : fr ++ ca7 (c6 e reg).length n = fr ++ ca7 (j7 (e.kids.take k) reg).length n ++ [n] := by
 rw [ai4, if_neg k1, if_neg k2, cc6 hk, cf7, cb2, cb8, cc1, List.replicate_succ']
theorem la3 (k : e.kind = 3) : ap4 e.kind e.value reg = ⟨4, reg, e.value, reg, 0⟩ := by rw [ap4, if_pos k]
theorem b95 (k : e.kind = 11) : ap4 e.kind e.value reg = ⟨7, reg, reg, reg + 1, reg + 2⟩ := by rw [ap4, if_neg (by omega), if_pos k]
theorem la0 (k3 : ¬ e.kind = 3) (k : ¬ e.kind = 11) : ap4 e.kind e.value reg = ⟨6, reg, e.kind, reg, reg + 1⟩ := by rw [ap4, if_neg k3, if_neg k]
end
abbrev aa2 (e : d9) (l : List d8) (fr : List Int) (n : Int) (reg : Int) : List It := [.dead, .dead, dE e.kids, .row 60 (D.instrs (l ++ c6 e reg)), .row 3 (D.ints (fr ++ ca7 (c6 e reg).length n))]
abbrev V6 (n : Int) (reg : Int) (r0 : List (Nat × AV)) : List (Nat × AV) := (1, iA n) :: (3, iA reg) :: (4, .ptr 3 0) :: (6, .ptr 4 0) :: (8, .ptr 5 0) :: r0
abbrev aM1 (e : d9) (at0 : Int) (r0 : List It) : List It := .dead :: .dead :: dE e.kids :: .box [.ref 6, .ref 7, iA at0] :: .box (eL e 2) :: .box [.v (.slice none 0 0), .v (.slice none 0 0), iA 0] :: r0
theorem bt0 (e : d9) (ih : ∀ (u : d9), u ∈ e.kids → ∀ (l : List d8) (fr : List Int) (at0 n reg : Int), 0 ≤ reg → reg + T2 u ≤ 2000000 → l.length + T2 u ≤ 5000000 → fr.length = l.length → j9.ok Tryz.prog (l7C l fr at0 n u reg)) (l : List d8) (fr : List Int) (at0 n reg : Int) (r0 : 0 ≤ reg) (r1 : reg + T2 e ≤ 2000000) (r2 : l.length + T2 e ≤ 5000000) (r3 : fr.length = l.length) : j9.ok Tryz.prog (l7C l fr at0 n e reg) := by
  refine K9 82 Tryz.func110 [.row 60 (D.instrs l), .row 3 (D.ints fr), dE e.kids] [(0, .agg [.ref 0, .ref 1, iA at0]), (1, iA n), (2, eA e 2), (3, iA reg)] fun G => ?_
  have hlen : e.kids.length ≤ T2 e := by cases e; exact aV1 _
  refine wp_seq (l0 G f8 [0, 1, 2, 3, 11, 19] [.row 60 (D.instrs l), .row 3 (D.ints fr), dE e.kids, .box [.ref 0, .ref 1, iA at0], .box (eL e 2), .box [.v (.slice none 0 0), .v (.slice none 0 0), iA 0]] (V6 n reg []) fun G => b0 (wp_seq (wp_seq (m7 G f8 [(11, iA e.kind)] fun G => b0 (wp_block (wp_seq (m7 G f8 [(12, bA (e.kind == 1))] fun G => b0 (rcE G (fun h0 q0 => ?_) fun h0 q0 => ?_))))))))
  ·
   refine wp_seq (m7 G f8 [(21, bA (e.kind == 2))] fun G => b0 (rcE G (fun h1 q1 => ?_) fun h1 q1 => ?_))
   ·
    refine wp_skip (t5 (b0 (wp_seq (wp_seq (I8 G f8 (V6 n reg [(9, iA 0)]) fun G => b0 (wp_block ?_)))))); obtain ⟨ρ, G⟩ := G.shift 0 6 [.dead, .row 3 (D.ints fr), dE e.kids, .box [.ref 6, .ref 1, iA at0], .box (eL e 2), .box [.v (.slice none 0 0), .v (.slice none 0 0), iA 0], .row 60 (D.instrs l)] (V6 n reg [(9, iA 0)]); obtain ⟨ρ, G⟩ := G.shift 1 7 (aM1 e at0 [.row 60 (D.instrs l), .row 3 (D.ints fr)]) (V6 n reg [(9, iA 0)]); replace G := G.as (aM1 e at0 [.row 60 (D.instrs (l ++ j7 (cc0 0 e.kids) reg)), .row 3 (D.ints (fr ++ ca7 (j7 (cc0 0 e.kids) reg).length n))]) (V6 n reg [(9, iA 0)]) (by have e1 : (l ++ j7 (cc0 0 e.kids) reg : List d8) = (l) := bA0.symm; have e2 : (fr ++ ca7 (j7 (cc0 0 e.kids) reg).length n : List Int) = (fr) := bn2.symm; (first | rw [e1, e2] | simp only [e1, e2]) <;> rfl) (by kernel_rfl); refine A8 (κ := Nat) (fun k => k ≤ e.kids.length) (fun k => e.kids.length - k) (fun k => [.dead, .dead, dE e.kids, .box [.ref 6, .ref 7, iA at0], .box (eL e 2), .box [.v (.slice none 0 0), .v (.slice none 0 0), iA 0], .row 60 (.instrs (l ++ j7 (e.kids.take k) reg)), .row 3 (.ints (fr ++ ca7 (j7 (e.kids.take k) reg).length n))]) (fun k => [(1, iA n), (3, iA reg), (4, .ptr 3 0), (6, .ptr 4 0), (8, .ptr 5 0), (9, iA k)]) 0 (by omega) (v5.at G _ _) ?_; clear G; intro k ρ a w hp G; replace G := v5.at G (aM1 e at0 [.row 60 (D.instrs (l ++ j7 (cc0 k e.kids) reg)), .row 3 (D.ints (fr ++ ca7 (j7 (cc0 k e.kids) reg).length n))]) (V6 n reg [(9, iA k)]); refine wp_seq (wp_seq (m7 G f8 [(34, bA (decide ((k : Int) < e.kids.length)))] fun G => b0 (rcD G (fun h2 q2 => ?_) fun h2 q2 => ?_)))
    ·
     refine wp_exit (A2 (A2 (A1 (b0 (wp_seq (wp_seq (m7 G f8 [(49, iA e.kind)] fun G => b0 (wp_block (wp_seq (m7 G f8 [(50, bA (e.kind == 3))] fun G => b0 (rcE G (fun h3 q3 => ?_) fun h3 q3 => ?_)))))))))))
     ·
      refine wp_seq (m7 G f8 [(60, bA (e.kind == 11))] fun G => b0 (rcE G (fun h4 q4 => ?_) fun h4 q4 => ?_))
      · refine wp_skip (t5 (b0 (wp_seq (V2 G (A4 9 [6, 7] (F7 (l ++ j7 (cc0 k e.kids) reg) (fr ++ ca7 (j7 (cc0 k e.kids) reg).length n) at0 n 6 reg e.kind reg (reg + 1) (by have := as9 (k := k) (reg := reg) r2; have := aE7 (e := e) (n := n) (k := k) (reg := reg) r3; omega) (by have := as9 (k := k) (reg := reg) r2; have := aE7 (e := e) (n := n) (k := k) (reg := reg) r3; omega))) [0, 1, 2, 5, 80, 81] [.dead, .dead, dE e.kids, .box [.ref 4, .ref 5, iA at0], .row 60 (D.instrs (l ++ j7 (cc0 k e.kids) reg ++ [d8.mk 6 reg e.kind reg (reg + 1)])), .row 3 (D.ints (fr ++ ca7 (j7 (cc0 k e.kids) reg).length n ++ [n]))] [(8, .ptr 3 0)] [wO (reg + 1)] (o1 (by omega)) fun G => b0 (wp_ret ?_))))); exact L6 G [0, 1, 2, 4, 5] (by show _ = mR [0, 1, 2, 4, 5] (aa2 e l fr n reg); unfold aa2; have e1 : (l ++ c6 e reg : List d8) = (l ++ j7 (cc0 k e.kids) reg ++ [d8.mk 6 reg e.kind reg (reg + 1)]) := (ba6 (by omega) (by omega) (by omega) (la0 (by omega) (by omega))); have e2 : (fr ++ ca7 (c6 e reg).length n : List Int) = (fr ++ ca7 (j7 (cc0 k e.kids) reg).length n ++ [n]) := (aR8 (by omega) (by omega) (by omega)); (first | rw [e1, e2] | simp only [e1, e2]) <;> rfl)
      · refine wp_seq (V2 G (A4 9 [6, 7] (F7 (l ++ j7 (cc0 k e.kids) reg) (fr ++ ca7 (j7 (cc0 k e.kids) reg).length n) at0 n 7 reg reg (reg + 1) (reg + 2) (by have := as9 (k := k) (reg := reg) r2; have := aE7 (e := e) (n := n) (k := k) (reg := reg) r3; omega) (by have := as9 (k := k) (reg := reg) r2; have := aE7 (e := e) (n := n) (k := k) (reg := reg) r3; omega))) [0, 1, 2, 3, 4, 5, 6, 7, 80, 81] [.dead, .dead, dE e.kids, .box [.ref 6, .ref 7, iA at0], .box (eL e 2), .box [.ref 8, .ref 9, iA at0], .dead, .dead, .row 60 (D.instrs (l ++ j7 (cc0 k e.kids) reg ++ [d8.mk 7 reg reg (reg + 1) (reg + 2)])), .row 3 (D.ints (fr ++ ca7 (j7 (cc0 k e.kids) reg).length n ++ [n]))] (V6 n reg []) [wO (reg + 1), wO (reg + 2)] (o2 (by omega)) fun G => b0 (wp_ret (E5 (o5 ?_)))); exact L6 G [0, 1, 2, 8, 9] (by show _ = mR [0, 1, 2, 8, 9] (aa2 e l fr n reg); unfold aa2; have e1 : (l ++ c6 e reg : List d8) = (l ++ j7 (cc0 k e.kids) reg ++ [d8.mk 7 reg reg (reg + 1) (reg + 2)]) := (ba6 (by omega) (by omega) (by omega) (b95 (by omega))); have e2 : (fr ++ ca7 (c6 e reg).length n : List Int) = (fr ++ ca7 (j7 (cc0 k e.kids) reg).length n ++ [n]) := (aR8 (by omega) (by omega) (by omega)); (first | rw [e1, e2] | simp only [e1, e2]) <;> rfl)
     · refine wp_seq (l0 G (A4 7 [6, 7] (F7 (l ++ j7 (cc0 k e.kids) reg) (fr ++ ca7 (j7 (cc0 k e.kids) reg).length n) at0 n 4 reg e.value reg 0 (by have := as9 (k := k) (reg := reg) r2; have := aE7 (e := e) (n := n) (k := k) (reg := reg) r3; omega) (by have := as9 (k := k) (reg := reg) r2; have := aE7 (e := e) (n := n) (k := k) (reg := reg) r3; omega))) [0, 1, 2, 3, 4, 5, 6, 7, 64, 65] [.dead, .dead, dE e.kids, .box [.ref 6, .ref 7, iA at0], .box (eL e 2), .box [.ref 8, .ref 9, iA at0], .dead, .dead, .row 60 (D.instrs (l ++ j7 (cc0 k e.kids) reg ++ [d8.mk 4 reg e.value reg 0])), .row 3 (D.ints (fr ++ ca7 (j7 (cc0 k e.kids) reg).length n ++ [n]))] (V6 n reg []) fun G => b0 (wp_ret (E5 (o5 ?_)))); exact L6 G [0, 1, 2, 8, 9] (by show _ = mR [0, 1, 2, 8, 9] (aa2 e l fr n reg); unfold aa2; have e1 : (l ++ c6 e reg : List d8) = (l ++ j7 (cc0 k e.kids) reg ++ [d8.mk 4 reg e.value reg 0]) := (ba6 (by omega) (by omega) (by omega) (la3 (by omega))); have e2 : (fr ++ ca7 (c6 e reg).length n : List Int) = (fr ++ ca7 (j7 (cc0 k e.kids) reg).length n ++ [n]) := (aR8 (by omega) (by omega) (by omega)); (first | rw [e1, e2] | simp only [e1, e2]) <;> rfl)
    · refine wp_skip (b0 (wp_seq (wp_block (L7 G (A4 10 [6, 7, 56] (ih (e.kids.getD k ca9) (by0 (by omega)) (l ++ j7 (cc0 k e.kids) reg) (fr ++ ca7 (j7 (cc0 k e.kids) reg).length n) at0 n (reg + (k : Int)) (by omega) ((bS6 r0 r1 (by omega)).2) (bS7 r2 (by omega)) (aE7 r3))) [0, 0, 0, 4, 0, 28, 60, 0, 0, 384, 1023, 2047] [0, 1, 2, 3, 4, 5, 88, 89] (aM1 e at0 [.row 60 (D.instrs (l ++ j7 (cc0 k e.kids) reg ++ c6 (e.kids.getD k ca9) (reg + (k : Int)))), .row 3 (D.ints (fr ++ ca7 (j7 (cc0 k e.kids) reg).length n ++ ca7 (c6 (e.kids.getD k ca9) (reg + (k : Int))).length n))]) (V6 n reg [(9, iA k)]) (iX k k e.kids.length ((wO (reg + (k : Int))) :: [])) (iK (by omega) (o1 (by omega))) fun G => t5 (b0 (O0 G f8 [(9, iA ((k : Int) + 1))] [wO ((k : Int) + 1)] (o1 (by omega)) fun G => b0 ?_)))))); exact rxn G (k + 1) (by omega) (by omega) (rg 8) (by have e1 : (l ++ j7 (cc0 (k + 1) e.kids) reg : List d8) = (l ++ j7 (cc0 k e.kids) reg ++ c6 (e.kids.getD k ca9) (reg + (k : Int))) := (bJ1 (by omega)); have e2 : (fr ++ ca7 (j7 (cc0 (k + 1) e.kids) reg).length n : List Int) = (fr ++ ca7 (j7 (cc0 k e.kids) reg).length n ++ ca7 (c6 (e.kids.getD k ca9) (reg + (k : Int))).length n) := (bA1 (by omega)); (first | rw [e1, e2] | simp only [e1, e2]) <;> rfl)
   · refine wp_seq (l0 G (A4 6 [0, 1] (F7 l fr at0 n 2 reg e.value 0 0 (by omega) (by omega))) [0, 1, 2, 3, 4, 5, 54, 55] [.dead, .dead, dE e.kids, .box [.ref 0, .ref 1, iA at0], .box (eL e 2), .box [.ref 6, .ref 7, iA at0], .row 60 (D.instrs (l ++ [d8.mk 2 reg e.value 0 0])), .row 3 (D.ints (fr ++ [n]))] (V6 n reg []) fun G => b0 (wp_ret (E5 (o5 ?_)))); exact L6 G [0, 1, 2, 6, 7] (by show _ = mR [0, 1, 2, 6, 7] (aa2 e l fr n reg); unfold aa2; rw [ce2 (by omega)] <;> rfl)
  · refine wp_seq (l0 G (A4 6 [0, 1] (F7 l fr at0 n 1 reg e.value 0 0 (by omega) (by omega))) [0, 1, 2, 3, 4, 5, 54, 55] [.dead, .dead, dE e.kids, .box [.ref 0, .ref 1, iA at0], .box (eL e 2), .box [.ref 6, .ref 7, iA at0], .row 60 (D.instrs (l ++ [d8.mk 1 reg e.value 0 0])), .row 3 (D.ints (fr ++ [n]))] (V6 n reg []) fun G => b0 (wp_ret (E5 (o5 ?_)))); exact L6 G [0, 1, 2, 6, 7] (by show _ = mR [0, 1, 2, 6, 7] (aa2 e l fr n reg); unfold aa2; rw [ce1 (by omega)] <;> rfl)
theorem a29 (e : d9) : ∀ (l : List d8) (fr : List Int) (at0 n reg : Int), 0 ≤ reg → reg + T2 e ≤ 2000000 → l.length + T2 e ≤ 5000000 → fr.length = l.length → j9.ok Tryz.prog (l7C l fr at0 n e reg) :=
 d9.ind (P := fun e => ∀ (l : List d8) (fr : List Int) (at0 n reg : Int), 0 ≤ reg → reg + T2 e ≤ 2000000 → l.length + T2 e ≤ 5000000 → fr.length = l.length → j9.ok Tryz.prog (l7C l fr at0 n e reg)) (fun k v ks ih l fr at0 n reg r0 r1 r2 r3 => bt0 ⟨k, v, ks⟩ (fun u hu => ih u hu) l fr at0 n reg r0 r1 r2 r3) e
theorem j5.sel {ι : Type} {φ ψ : Nat → Prop} {w0 w : World} {F : ι → Rs} {ρ : Nat → Value} {S S1 : List It} {js : List Nat} (M : j5 φ ψ w0 w (l7 F ρ (o0 S))) (hn : js.Nodup) (hl : js.length = S1.length) (hS : js.map (o0 S) = S1.map (It.ren (nth js))) : j5 φ ψ w0 w (l7 F (fun i => ρ (nth js i)) (o0 S1)) := by
 refine M.map (fun k : ι ⊕ Nat => (match k with | .inl i => some (.inl i) | .inr i => if i < js.length then some (.inr (nth js i)) else none : Option (ι ⊕ Nat))) ?_ ?_
 ·intro k k' x h1 h2
  match k, k' with
  | .inl i, .inl i' => simp at h1 h2; rw [← h1] at h2; simpa using h2.symm
  | .inl i, .inr j => simp only at h1 h2; cases h1; split at h2 <;> simp at h2
  | .inr j, .inl i => simp only at h1 h2; cases h2; split at h1 <;> simp at h1
  | .inr j, .inr j' =>
   simp at h1 h2
   obtain ⟨f1, f2⟩ := h1
   obtain ⟨g1, g2⟩ := h2
   rw [← f2] at g2
   have hj := Sum.inr.inj g2
   have e1 := ca8 f1
   have e2 := ca8 g1
   rw [H2 e2, H2 e1] at hj
   have := (List.getElem?_inj f1 hn).1 (e1.trans (by rw [← hj]; exact e2.symm))
   rw [this]
 ·intro k
  match k with
  | .inl i => exact .inl ⟨_, rfl, rfl⟩
  | .inr i =>
   by_cases hlt : i < js.length
   ·refine .inl ⟨.inr (nth js i), by simp [hlt], ?_⟩
    have h1 := congrArg (·[i]?) hS
    have hlt' : i < S1.length := by omega
    simp only [List.getElem?_map, ca8 hlt, ca8 hlt', Option.map_some, Option.some.injEq] at h1
    simp only [l7]
    rw [as0 hlt', H2 (ca8 hlt), h1, ← It.res_ren, H2 (ca8 hlt)]
   ·refine .inr ?_
    simp only [l7]
    rw [y5 (by omega)]
    rfl
section
variable {P : Program} {ι : Type} {φ ψ : Nat → Prop} {w0 w : World} {F : ι → Rs} {N m : Nat} {ρ0 ρ : Nat → Value} {S : List It} {tm : List (Nat × AV)} {a : Act} {Q : Exit → Act → World → Prop}
theorem bf5 {κ : Type} {c1 c2 : Code} (G : v5 φ ψ w0 F N m ρ0 ρ S tm a w) (pre : κ → Prop) (Sk : κ → List It) (Tk : κ → List (Nat × AV)) (h1 : c1.wp P (Exit.then (fun a' w' => ∃ k' ρ', pre k' ∧ 0 < 1 ∧ v5 φ ψ w0 F N m ρ0 ρ' (Sk k') (Tk k') a' w') Q) a w) (h2 : ∀ k ρ a w, pre k → v5 φ ψ w0 F N m ρ0 ρ (Sk k) (Tk k) a w → c2.wp P Q a w) : (Code.seq c1 c2).wp P Q a w := by
 refine wp_seq (wp_mono h1 ?_)
 intro e a' w' hq
 cases e with
 | normal => obtain ⟨k, ρ', hp, _, Gk⟩ := hq; exact h2 k ρ' a' w' hp Gk
 | _ => exact hq
theorem ac9 {κ : Type} {pre : κ → Prop} {Sk : κ → List It} {Tk : κ → List (Nat × AV)} (G : v5 φ ψ w0 F N m ρ0 ρ S tm a w) (k' : κ) (hp : pre k') (js : List Nat) (S1 : List It) (tm1 : List (Nat × AV)) (hs1 : Sk k' = S1) (ht1 : Tk k' = tm1)
  (hb : ae7 m js S1 tm1 = true) (hS : js.map (o0 S) = S1.map (It.ren (nth js))) (ht : (tm1.map (·.1)).map (z9 tm) = tm1.map fun p => some (p.2.ren (nth js))) :
  ∃ k' ρ', pre k' ∧ 0 < 1 ∧ v5 φ ψ w0 F N m ρ0 ρ' (Sk k') (Tk k') a w := by
 subst hs1; subst ht1
 exact ⟨k', _, hp, Nat.zero_lt_one, Inn.sel G js _ _ hb hS ht⟩
end
theorem bb2 (op : Int) (r0 : 1 ≤ op ∧ op ≤ 13) : j9.ok Tryz.prog (fnC 79 [iA op] [] (.v (.string ⟨(l6 op).toArray⟩))) :=
 al2 fun φ w ρ h => (aj8 op w r0.1 r0.2).mono fun e w' h => h
theorem ac1 (b : List UInt8) (j : Int) (r0 : 0 ≤ j) (r1 : j ≤ 900000000) : j9.ok Tryz.prog ⟨50, [.ptr 0 0], [.box [.ref 1, iA j], dY b], [.box [.ref 1, iA (j + 1)], dY b], iA (nm b j vaL)⟩ := by
 refine K9 6 Tryz.func50 [.box [.ref 1, iA j], dY b] [(0, .ptr 0 0)] fun G => ?_; refine wp_seq (m7 G f8 [(2, iA 0)] fun G => b0 (wp_seq (l0 G (A4 2 [0, 1, 10] (j9.lend (P0 b j ([0] ++ ([1] ++ ([2] ++ ([3] ++ ([255] ++ ([128] ++ ([7] ++ ([4] ++ ([100] ++ []))))))))) (List.cons_ne_nil _ _) (by assumption) (by omega)) [.no, .no, .row 3])) [0, 1] [.box [.ref 1, iA (j + 1)], dY b] [(2, iA (nm b j ([0] ++ ([1] ++ ([2] ++ ([3] ++ ([255] ++ ([128] ++ ([7] ++ ([4] ++ ([100] ++ [])))))))))))] fun G => b0 (wp_ret ?_)))); exact L6 G [0, 1]
theorem bP9 : ∀ x ∈ opL, 1 ≤ x ∧ x ≤ 12 := by decide
theorem b80 (b : List UInt8) {j : Int} (r0 : 0 ≤ j) (r1 : j ≤ 900000000) : 1 ≤ nm b j opL ∧ nm b j opL ≤ 12 := bP9 _ (al3 b r0 (by omega) (List.cons_ne_nil _ _))
abbrev rnC (b : List UInt8) (j : Int) (vs ars : List Int) (l : List d8) (at0 n : Int) : j9 := ⟨74, [.ptr 0 0, .agg [.ref 2, .ref 3, .ref 4], iA at0, iA n], [.box [.ref 1, iA j], dY b, dI vs, dI ars, dN l], [.box [.ref 1, iA (rnD b j vs.length ars.length at0 n).2], dY b, dI vs, dI ars, dN l], .agg [iA (rnD b j vs.length ars.length at0 n).1.op, iA (rnD b j vs.length ars.length at0 n).1.a, iA (rnD b j vs.length ars.length at0 n).1.b, iA (rnD b j vs.length ars.length at0 n).1.c, iA (rnD b j vs.length ars.length at0 n).1.d]⟩
theorem aU6 {x : UInt8} {m : Nat} (h : ((x.toNat : Nat) : Int) = m) (hm : m < 256) : x = UInt8.ofNat m := by
 apply UInt8.toNat_inj.1
 rw [UInt8.toNat_ofNat']
 omega
section
variable {b : List UInt8} {j i at0 n X : Int} {nv na : Nat} {ks : List UInt8} {k : Nat} {x : UInt8}
theorem bW9 (hX : nm b j opL = X) (h : na = 0) (h2 : X = 4 ∨ X = 5) : opD b j na = 2 := by unfold opD; rw [hX, if_pos ⟨h, h2⟩]
theorem bW8 (hX : nm b j opL = X) (h : ¬ na = 0 ∨ (¬ X = 4 ∧ ¬ X = 5)) : opD b j na = X := by unfold opD; rw [hX, if_neg (by omega)]
theorem a78 (b : List UInt8) {i m : Int} (h0 : 0 ≤ i) (h1 : i ≤ 1000000000) : 0 ≤ pk b i m ∧ (pk b i m = 0 ∨ pk b i m < m) := by
 by_cases h : m < 1
 ·rw [bW3 h]; omega
 ·have := bG5 b h0 h1 (n := m) (by omega); omega
theorem b68 (h : ((x.toNat : Nat) : Int) = 114) : ptD b i nv na at0 n x = pk b i 3 := by
 rw [aU6 (m := 114) h (by decide)]; rfl
theorem b70 (h : ((x.toNat : Nat) : Int) = 99) : ptD b i nv na at0 n x = nm b i vaL := by
 rw [aU6 (m := 99) h (by decide)]; rfl
theorem b66 (h : ((x.toNat : Nat) : Int) = 118) : ptD b i nv na at0 n x = pk b i nv := by
 rw [aU6 (m := 118) h (by decide)]; rfl
theorem b71 (h : ((x.toNat : Nat) : Int) = 97) : ptD b i nv na at0 n x = pk b i na := by
 rw [aU6 (m := 97) h (by decide)]; rfl
theorem b69 (h : ((x.toNat : Nat) : Int) = 111) : ptD b i nv na at0 n x = 4 + pk b i 7 := by
 rw [aU6 (m := 111) h (by decide)]; rfl
theorem b67 (h1 : ¬ ((x.toNat : Nat) : Int) = 114) (h2 : ¬ ((x.toNat : Nat) : Int) = 99) (h3 : ¬ ((x.toNat : Nat) : Int) = 118) (h4 : ¬ ((x.toNat : Nat) : Int) = 97) (h5 : ¬ ((x.toNat : Nat) : Int) = 111) : ptD b i nv na at0 n x = at0 + 1 + pk b i (n - at0 - 1) := by
 unfold ptD
 rw [if_neg fun e => h1 (by rw [e]; rfl), if_neg fun e => h2 (by rw [e]; rfl), if_neg fun e => h3 (by rw [e]; rfl), if_neg fun e => h4 (by rw [e]; rfl), if_neg fun e => h5 (by rw [e]; rfl)]
theorem b72 {v : Int} (hk : k < 4) (h : ptD b (j + k) nv na at0 n (ks.getD k 0) = v) : psD b j nv na at0 n ks (k + 1) = (psD b j nv na at0 n ks k).set k v := by rw [bu7 b j nv na at0 n ks hk, h]
theorem bsz (l : List UInt8) : (ByteArray.mk l.toArray).size = l.length := by simp [ByteArray.size]
theorem b55 (ho : opD b j na = X) (hk : (l6 X).length ≤ k) (hk2 : k ≤ (l6 X).length) : rnD b j nv na at0 n = (⟨X, (psD b (j + 1) nv na at0 n (l6 X) k).getD 0 0, (psD b (j + 1) nv na at0 n (l6 X) k).getD 1 0, (psD b (j + 1) nv na at0 n (l6 X) k).getD 2 0, (psD b (j + 1) nv na at0 n (l6 X) k).getD 3 0⟩, j + 1 + k) := by
 have e : k = (l6 X).length := by omega
 subst e
 unfold rnD
 rw [ho]
def RnR (b : List UInt8) (j at0 n : Int) (nv na : Nat) (R : Int → Nat → List Int) : Prop := ∀ X k, R X k = psD b (j + 1) nv na at0 n (l6 X) k
variable {R : Int → Nat → List Int}
theorem RnR.len (h : RnR b j at0 n nv na R) (X : Int) (k : Nat) : (R X k).length = 4 := by rw [h X k, bg1]
theorem RnR.start (h : RnR b j at0 n nv na R) (X : Int) : R X 0 = [0, 0, 0, 0] := h X 0
theorem RnR.next (h : RnR b j at0 n nv na R) {X v : Int} (hk : k < 4) (hp : ptD b (j + 1 + k) nv na at0 n ((l6 X).getD k 0) = v) : R X (k + 1) = (R X k).set k v := by rw [h X (k + 1), h X k]; exact b72 hk hp
theorem RnR.done (h : RnR b j at0 n nv na R) {X : Int} (ho : opD b j na = X) (hk : (l6 X).length ≤ k) (hk2 : k ≤ (l6 X).length) : rnD b j nv na at0 n = (⟨X, (R X k).getD 0 0, (R X k).getD 1 0, (R X k).getD 2 0, (R X k).getD 3 0⟩, j + 1 + k) := by rw [h X k]; exact b55 ho hk hk2
end
abbrev aj5 (Y : Int) : AV := .v (.string (ByteArray.mk (l6 Y).toArray))
abbrev ab0 : It := .box [iA 0, iA 0, iA 0, iA 0, iA 0]
abbrev am9 (Y : Int) : It := .box [iA Y, iA 0, iA 0, iA 0, iA 0]
abbrev aI6 (j : Int) (k : Nat) : It := .box [.ref 1, iA (j + 1 + (k : Int) + 1)]
abbrev L9 (at0 : Int) (n : Int) (r0 : List (Nat × AV)) : List (Nat × AV) := (0, .ptr 0 0) :: (2, iA at0) :: (3, iA n) :: (5, .ptr 5 0) :: (8, .ptr 6 0) :: (9, .ptr 7 0) :: r0
abbrev am4 (b : List UInt8) (j : Int) (vs : List Int) (ars : List Int) (l : List d8) (r0 : List It) : List It := .box [.ref 1, iA (j + 1)] :: dY b :: dI vs :: dI ars :: dN l :: .box (pL 2) :: r0
theorem a64 (b : List UInt8) (j : Int) (vs ars : List Int) (l : List d8) (at0 n X : Int) (hX : nm b j opL = X) (r0 : 0 ≤ j) (r1 : j ≤ 800000000) (r2 : 0 ≤ at0 ∧ at0 ≤ 100) (r3 : 0 ≤ n ∧ n ≤ 100) : j9.ok Tryz.prog (rnC b j vs ars l at0 n) := by
  have hnum : j9.ok Tryz.prog ⟨46, [.ptr 0 0, .ref 2], [.box [.ref 1, iA j], dY b, dI opL], [.box [.ref 1, iA (j + 1)], dY b, dI opL], iA X⟩ := hX ▸ P0 b j opL (List.cons_ne_nil _ _) r0 (by omega); refine K9 114 Tryz.func74 [.box [.ref 1, iA j], dY b, dI vs, dI ars, dN l] [(0, .ptr 0 0), (1, pA 2), (2, iA at0), (3, iA n)] fun G => ?_; obtain ⟨R, hR⟩ : ∃ x : Int → Nat → List Int, RnR b j at0 n vs.length ars.length x := ⟨_, fun _ _ => rfl⟩; have hRl := hR.len; have hop : 1 ≤ X ∧ X ≤ 12 := hX ▸ b80 b r0 (by omega); refine wp_seq (l0 G f8 [0, 1, 2, 3, 4, 5, 13] [.box [.ref 1, iA j], dY b, dI vs, dI ars, dN l, .box (pL 2), ab0] [(0, .ptr 0 0), (2, iA at0), (3, iA n), (5, .ptr 5 0), (8, .ptr 6 0)] fun G => b0 (wp_seq (l0 G (A4 2 [0, 1, 15] (j9.lend hnum [.no, .no, .row 3])) [0, 1, 2, 3, 4, 5, 6, 39] (am4 b j vs ars l [ab0, .box [iA X, iA 0, iA 0, iA 0, iA 0]]) (L9 at0 n []) fun G => b0 ?_))); refine bf5 (κ := Int) G (fun Y => 1 ≤ Y ∧ Y ≤ 12 ∧ opD b j ars.length = Y) (fun Y => (am4 b j vs ars l [.box [iA 0, iA 0, iA 0, iA 0, iA 0], .box [iA Y, iA 0, iA 0, iA 0, iA 0]])) (fun Y => (L9 at0 n [])) ?_ ?_
  ·
   refine wp_seq ?_; cases h0 : ((ars.length : Int) == 0)
   · have q0 := ne_of_beq_false h0; refine I8 G (N1 (fc h0 fz) (us [(5, 8, 0), (12, 12, 0), (1013, 1013, 0)])) (L9 at0 n [(30, bA false)]) fun G => b0 (rF G false (by kernel_rfl) (wp_skip (b0 ?_))); exact ac9 G X (⟨by omega, by omega, bW8 hX (by omega)⟩)  (rg 8) (am4 b j vs ars l [.box [iA 0, iA 0, iA 0, iA 0, iA 0], .box [iA X, iA 0, iA 0, iA 0, iA 0]]) (L9 at0 n []) (by kernel_rfl) (by kernel_rfl) (by kernel_rfl) (by kernel_rfl) (by kernel_rfl)
   ·
    have q0 := eq_of_beq h0; cases h1 : (X == 4)
    ·
     have q1 := ne_of_beq_false h1; refine I8 G (N1 (fc h0 (fc h1 fz)) (us [(5, 8, 0), (9, 11, 1), (12, 12, 0), (1012, 1012, 1), (1013, 1013, 0)])) (L9 at0 n [(30, bA (X == 5))]) fun G => b0 (rcE G (fun h2 q2 => ?_) fun h2 q2 => ?_)
     · refine wp_skip (b0 ?_); exact ac9 G X (⟨by omega, by omega, bW8 hX (by omega)⟩)  (rg 8) [.box [.ref 1, iA (j + 1)], dY b, dI vs, dI ars, dN l, .box (pL 2), .box [iA 0, iA 0, iA 0, iA 0, iA 0], .box [iA X, iA 0, iA 0, iA 0, iA 0]] [(0, .ptr 0 0), (2, iA at0), (3, iA n), (5, .ptr 5 0), (8, .ptr 6 0), (9, .ptr 7 0)] (by kernel_rfl) (by kernel_rfl) (by kernel_rfl) (by kernel_rfl) (by kernel_rfl)
     · refine l0 G f8 (rg 8) (am4 b j vs ars l [ab0, .box [iA 2, iA 0, iA 0, iA 0, iA 0]]) (L9 at0 n []) fun G => b0 ?_; exact ac9 G 2 (⟨by omega, by omega, bW9 hX (by omega) (by omega)⟩)  (rg 8) (am4 b j vs ars l [.box [iA 0, iA 0, iA 0, iA 0, iA 0], .box [iA 2, iA 0, iA 0, iA 0, iA 0]]) (L9 at0 n []) (by kernel_rfl) (by kernel_rfl) (by kernel_rfl) (by kernel_rfl) (by kernel_rfl)
    · have q1 := eq_of_beq h1; refine I8 G (N1 (fc h0 (fc h1 fz)) (us [(5, 8, 0), (9, 11, 1), (12, 12, 0), (1012, 1012, 1), (1013, 1013, 0)])) (L9 at0 n [(30, bA true)]) fun G => b0 (rT G true (by kernel_rfl) (l0 G f8 (rg 8) (am4 b j vs ars l [ab0, .box [iA 2, iA 0, iA 0, iA 0, iA 0]]) (L9 at0 n []) fun G => b0 ?_)); exact ac9 G 2 (⟨by omega, by omega, bW9 hX (by omega) (by omega)⟩)  (rg 8) (am4 b j vs ars l [.box [iA 0, iA 0, iA 0, iA 0, iA 0], .box [iA 2, iA 0, iA 0, iA 0, iA 0]]) (L9 at0 n []) (by kernel_rfl) (by kernel_rfl) (by kernel_rfl) (by kernel_rfl) (by kernel_rfl)
  ·
   clear G; intro Y ρ a w hp G; replace G := v5.at G (am4 b j vs ars l [ab0, am9 Y]) (L9 at0 n []); have hY := hp; refine wp_seq (m7 G (A4 2 [] (bb2 Y (by omega))) [(10, aj5 Y)] fun G => b0 (wp_seq (l0 G f8 (rg 9) (am4 b j vs ars l [ab0, am9 Y, .row 3 (D.ints ([0] ++ ([0] ++ ([0] ++ ([0] ++ [])))))]) (L9 at0 n [(10, aj5 Y), (11, .ref 8)]) fun G => b0 (wp_seq (wp_seq (I8 G f8 (L9 at0 n [(10, aj5 Y), (11, .ref 8), (12, iA 0)]) fun G => b0 (wp_block ?_))))))); replace G := G.as [.box [.ref 1, iA (j + 1 + (0 : Int))], dY b, dI vs, dI ars, dN l, .box (pL 2), .box [iA 0, iA 0, iA 0, iA 0, iA 0], .box [iA Y, iA 0, iA 0, iA 0, iA 0], .row 3 (D.ints (R Y 0))] (L9 at0 n [(10, .v (.string (ByteArray.mk (l6 Y).toArray))), (11, .ref 8), (12, iA 0)]) (by have e1 : (j + 1 + (0 : Int) : Int) = (j + 1) := (by omega); have e2 : (R Y 0 : List Int) = ([0] ++ ([0] ++ ([0] ++ ([0] ++ [])))) := (hR.start _); (first | rw [e1, e2] | simp only [e1, e2]) <;> rfl) (by kernel_rfl); refine A8 (κ := Nat) (fun k => k ≤ (l6 Y).length) (fun k => (l6 Y).length - k) (fun k => [.box [.ref 1, iA (j + 1 + k)], dY b, dI vs, dI ars, dN l, .box (pL 2), .box [iA 0, iA 0, iA 0, iA 0, iA 0], .box [iA Y, iA 0, iA 0, iA 0, iA 0], .row 3 (.ints (R Y k))]) (fun k => [(0, .ptr 0 0), (2, iA at0), (3, iA n), (5, .ptr 5 0), (8, .ptr 6 0), (9, .ptr 7 0), (10, .v (.string (ByteArray.mk (l6 Y).toArray))), (11, .ref 8), (12, iA k)]) 0 (by omega) (v5.at G _ _) ?_; clear G; intro k ρ a w hp G; replace G := v5.at G [.box [.ref 1, iA (j + 1 + (k : Int))], dY b, dI vs, dI ars, dN l, .box (pL 2), ab0, am9 Y, .row 3 (D.ints (R Y k))] (L9 at0 n [(10, aj5 Y), (11, .ref 8), (12, iA k)]); have hfl := al6 Y; have hbz := bsz (l6 Y); refine wp_seq (wp_seq (m7 G f8 [(39, bA (decide ((k : Int) < ((ByteArray.mk (l6 Y).toArray).size : Int))))] fun G => b0 (rcD G (fun h3 q3 => ?_) fun h3 q3 => ?_)))
   · refine wp_exit (A2 (A2 (A1 (b0 (wp_seq (L7 G f8 [0, 1, 0, 4, 12, 0, 32, 96, 0, 256, 768, 0, 2048, 6144, 16383, 32767] [0, 1, 2, 3, 4, 6] [.box [.ref 1, iA (j + 1 + (k : Int))], dY b, dI vs, dI ars, dN l, .box [iA Y, iA ((R Y k).getD 0 0), iA ((R Y k).getD 1 0), iA ((R Y k).getD 2 0), iA ((R Y k).getD 3 0)]] [(8, .ptr 5 0)] [(0 : Int) ≤ 0, (0 : Int) < ((R Y k).length : Int), (0 : Nat) < (R Y k).length, (0 : Int) ≤ 1, (1 : Int) < ((R Y k).length : Int), (1 : Nat) < (R Y k).length, (0 : Int) ≤ 2, (2 : Int) < ((R Y k).length : Int), (2 : Nat) < (R Y k).length, (0 : Int) ≤ 3, (3 : Int) < ((R Y k).length : Int), (3 : Nat) < (R Y k).length] ⟨(by omega), (by rw [hRl]; decide), (by rw [hRl]; decide), (by omega), (by rw [hRl]; decide), (by rw [hRl]; decide), (by omega), (by rw [hRl]; decide), (by rw [hRl]; decide), (by omega), (by rw [hRl]; decide), (by rw [hRl]; decide), cc2⟩ fun G => b0 (wp_ret ?_))))))); exact rxv (.agg [iA Y, iA ((R Y k).getD 0 0), iA ((R Y k).getD 1 0), iA ((R Y k).getD 2 0), iA ((R Y k).getD 3 0)]) G (rg 5) (by have e1 : ((rnD b j vs.length ars.length at0 n).fst.op : Int) = (Y) := (by rw [hR.done (k := k) hY.2.2 (by omega) (by omega)]; done); have e2 : ((rnD b j vs.length ars.length at0 n).fst.a : Int) = ((R Y k).getD 0 0) := (by rw [hR.done (k := k) hY.2.2 (by omega) (by omega)]; done); have e3 : ((rnD b j vs.length ars.length at0 n).fst.b : Int) = ((R Y k).getD 1 0) := (by rw [hR.done (k := k) hY.2.2 (by omega) (by omega)]; done); have e4 : ((rnD b j vs.length ars.length at0 n).fst.c : Int) = ((R Y k).getD 2 0) := (by rw [hR.done (k := k) hY.2.2 (by omega) (by omega)]; done); have e5 : ((rnD b j vs.length ars.length at0 n).fst.d : Int) = ((R Y k).getD 3 0) := (by rw [hR.done (k := k) hY.2.2 (by omega) (by omega)]; done); (first | rw [e1, e2, e3, e4, e5] | simp only [e1, e2, e3, e4, e5]) <;> rfl) (by show _ = mR (rg 5) [.box [.ref 1, iA (rnD b j vs.length ars.length at0 n).snd], dY b, dI vs, dI ars, dN l]; rw [hR.done (k := k) hY.2.2 (by omega) (by omega)] <;> rfl)
   ·
    refine wp_skip (b0 (wp_seq (wp_block (wp_seq (O0 G f8 [(44, .v (.int .u8 (((l6 Y).getD k 0).toNat : Int)))] [(0 : Int) ≤ (k : Int), (k : Int) < ((ByteArray.mk (l6 Y).toArray).size : Int)] ⟨(by omega), (by assumption), cc2⟩ fun G => b0 (wp_block (wp_seq (m7 G f8 [(57, bA ((((l6 Y).getD k 0).toNat : Int) == 114))] fun G => b0 (rcE (u := (((l6 Y).getD k (0 : UInt8)).toNat : Int)) (v := (114 : Int)) G (fun h4 q4 => ?_) fun h4 q4 => ?_)))))))))
    ·
     refine wp_seq (m7 G f8 [(64, bA ((((l6 Y).getD k 0).toNat : Int) == 99))] fun G => b0 (rcE (u := (((l6 Y).getD k (0 : UInt8)).toNat : Int)) (v := (99 : Int)) G (fun h5 q5 => ?_) fun h5 q5 => ?_))
     ·
      refine wp_seq (m7 G f8 [(71, bA ((((l6 Y).getD k 0).toNat : Int) == 118))] fun G => b0 (rcE (u := (((l6 Y).getD k (0 : UInt8)).toNat : Int)) (v := (118 : Int)) G (fun h6 q6 => ?_) fun h6 q6 => ?_))
      ·
       refine wp_seq (m7 G f8 [(81, bA ((((l6 Y).getD k 0).toNat : Int) == 97))] fun G => b0 (rcE (u := (((l6 Y).getD k (0 : UInt8)).toNat : Int)) (v := (97 : Int)) G (fun h7 q7 => ?_) fun h7 q7 => ?_))
       ·
        refine wp_seq (m7 G f8 [(91, bA ((((l6 Y).getD k 0).toNat : Int) == 111))] fun G => b0 (rcE (u := (((l6 Y).getD k (0 : UInt8)).toNat : Int)) (v := (111 : Int)) G (fun h8 q8 => ?_) fun h8 q8 => ?_))
        · refine V2 G (A4 9 [0, 1] (C7 b (j + 1 + (k : Int)) (n - at0 - 1) (by omega) (by omega))) (rg 9) [aI6 j k, dY b, dI vs, dI ars, dN l, .box (pL 2), ab0, am9 Y, .row 3 (D.ints ((R Y k).set k (at0 + 1 + pk b (j + 1 + (k : Int)) (n - at0 - 1))))] (L9 at0 n [(10, aj5 Y), (11, .ref 8), (12, iA k)]) ((wO (at0 + 1)) :: ((wO (n - at0)) :: ((wO (n - at0 - 1)) :: ((wO (at0 + 1 + pk b (j + 1 + (k : Int)) (n - at0 - 1))) :: (iX k k ((R Y k).length) []))))) ⟨oW (by omega), ⟨oW (by omega), ⟨oW (by omega), ⟨(by have h9 := a78 b (i := j + 1 + k) (m := n - at0 - 1) (by omega) (by omega); exact w64 (by omega) (by omega)), (iK (by rw [hRl]; omega) cc2)⟩⟩⟩⟩ fun G => t5 (t5 (b0 (O0 G f8 [(12, iA ((k : Int) + 1))] [wO ((k : Int) + 1)] (o1 (by omega)) fun G => b0 ?_))); exact rxn G (k + 1) (by omega) (by omega) (rg 9) (by have e1 : (j + 1 + (↑(k + 1) : Int) : Int) = (j + 1 + (k : Int) + 1) := (by omega); have e2 : (R Y (k + 1) : List Int) = ((R Y k).set k (at0 + 1 + pk b (j + 1 + (k : Int)) (n - at0 - 1))) := (hR.next (by omega) (b67 (by with_reducible assumption) (by with_reducible assumption) (by with_reducible assumption) (by with_reducible assumption) (by with_reducible assumption))); (first | rw [e1, e2] | simp only [e1, e2]) <;> rfl)
        · refine V2 G (A4 3 [0, 1] (C7 b (j + 1 + (k : Int)) 7 (by omega) (by omega))) (rg 9) [aI6 j k, dY b, dI vs, dI ars, dN l, .box (pL 2), ab0, am9 Y, .row 3 (D.ints ((R Y k).set k (4 + pk b (j + 1 + (k : Int)) 7)))] (L9 at0 n [(10, aj5 Y), (11, .ref 8), (12, iA k)]) ((wO ((4 : Int) + pk b (j + 1 + (k : Int)) (7 : Int))) :: (iX k k ((R Y k).length) [])) ⟨(by have h9 := a78 b (i := j + 1 + k) (m := 7) (by omega) (by omega); exact w64 (by omega) (by omega)), (iK (by rw [hRl]; omega) cc2)⟩ fun G => t5 (t5 (b0 (O0 G f8 [(12, iA ((k : Int) + 1))] [wO ((k : Int) + 1)] (o1 (by omega)) fun G => b0 ?_))); exact rxn G (k + 1) (by omega) (by omega) (rg 9) (by have e1 : (j + 1 + (↑(k + 1) : Int) : Int) = (j + 1 + (k : Int) + 1) := (by omega); have e2 : (R Y (k + 1) : List Int) = ((R Y k).set k (4 + pk b (j + 1 + (k : Int)) 7)) := (hR.next (by omega) (b69 (by with_reducible assumption))); (first | rw [e1, e2] | simp only [e1, e2]) <;> rfl)
       · refine V2 G (A4 6 [0, 1] (C7 b (j + 1 + (k : Int)) ((ars.length : Int)) (by omega) (by omega))) (rg 9) [aI6 j k, dY b, dI vs, dI ars, dN l, .box (pL 2), ab0, am9 Y, .row 3 (D.ints ((R Y k).set k (pk b (j + 1 + (k : Int)) (ars.length : Int))))] (L9 at0 n [(10, aj5 Y), (11, .ref 8), (12, iA k)]) (iX k k ((R Y k).length) []) (iK (by rw [hRl]; omega) cc2) fun G => t5 (t5 (b0 (O0 G f8 [(12, iA ((k : Int) + 1))] [wO ((k : Int) + 1)] (o1 (by omega)) fun G => b0 ?_))); exact rxn G (k + 1) (by omega) (by omega) (rg 9) (by have e1 : (j + 1 + (↑(k + 1) : Int) : Int) = (j + 1 + (k : Int) + 1) := (by omega); have e2 : (R Y (k + 1) : List Int) = ((R Y k).set k (pk b (j + 1 + (k : Int)) (ars.length : Int))) := (hR.next (by omega) (b71 (by with_reducible assumption))); (first | rw [e1, e2] | simp only [e1, e2]) <;> rfl)
      · refine V2 G (A4 6 [0, 1] (C7 b (j + 1 + (k : Int)) ((vs.length : Int)) (by omega) (by omega))) (rg 9) [aI6 j k, dY b, dI vs, dI ars, dN l, .box (pL 2), ab0, am9 Y, .row 3 (D.ints ((R Y k).set k (pk b (j + 1 + (k : Int)) (vs.length : Int))))] (L9 at0 n [(10, aj5 Y), (11, .ref 8), (12, iA k)]) (iX k k ((R Y k).length) []) (iK (by rw [hRl]; omega) cc2) fun G => t5 (t5 (b0 (O0 G f8 [(12, iA ((k : Int) + 1))] [wO ((k : Int) + 1)] (o1 (by omega)) fun G => b0 ?_))); exact rxn G (k + 1) (by omega) (by omega) (rg 9) (by have e1 : (j + 1 + (↑(k + 1) : Int) : Int) = (j + 1 + (k : Int) + 1) := (by omega); have e2 : (R Y (k + 1) : List Int) = ((R Y k).set k (pk b (j + 1 + (k : Int)) (vs.length : Int))) := (hR.next (by omega) (b66 (by with_reducible assumption))); (first | rw [e1, e2] | simp only [e1, e2]) <;> rfl)
     · refine V2 G (A4 3 [0, 1] (ac1 b (j + 1 + (k : Int)) (by omega) (by omega))) (rg 9) [aI6 j k, dY b, dI vs, dI ars, dN l, .box (pL 2), ab0, am9 Y, .row 3 (D.ints ((R Y k).set k (nm b (j + 1 + (k : Int)) vaL)))] (L9 at0 n [(10, aj5 Y), (11, .ref 8), (12, iA k)]) (iX k k ((R Y k).length) []) (iK (by rw [hRl]; omega) cc2) fun G => t5 (t5 (b0 (O0 G f8 [(12, iA ((k : Int) + 1))] [wO ((k : Int) + 1)] (o1 (by omega)) fun G => b0 ?_))); exact rxn G (k + 1) (by omega) (by omega) (rg 9) (by have e1 : (j + 1 + (↑(k + 1) : Int) : Int) = (j + 1 + (k : Int) + 1) := (by omega); have e2 : (R Y (k + 1) : List Int) = ((R Y k).set k (nm b (j + 1 + (k : Int)) vaL)) := (hR.next (by omega) (b70 (by with_reducible assumption))); (first | rw [e1, e2] | simp only [e1, e2]) <;> rfl)
    · refine V2 G (A4 3 [0, 1] (C7 b (j + 1 + (k : Int)) 3 (by omega) (by omega))) (rg 9) [aI6 j k, dY b, dI vs, dI ars, dN l, .box (pL 2), ab0, am9 Y, .row 3 (D.ints ((R Y k).set k (pk b (j + 1 + (k : Int)) 3)))] (L9 at0 n [(10, aj5 Y), (11, .ref 8), (12, iA k)]) (iX k k ((R Y k).length) []) (iK (by rw [hRl]; omega) cc2) fun G => t5 (t5 (b0 (O0 G f8 [(12, iA ((k : Int) + 1))] [wO ((k : Int) + 1)] (o1 (by omega)) fun G => b0 ?_))); exact rxn G (k + 1) (by omega) (by omega) (rg 9) (by have e1 : (j + 1 + (↑(k + 1) : Int) : Int) = (j + 1 + (k : Int) + 1) := (by omega); have e2 : (R Y (k + 1) : List Int) = ((R Y k).set k (pk b (j + 1 + (k : Int)) 3)) := (hR.next (by omega) (b68 (by with_reducible assumption))); (first | rw [e1, e2] | simp only [e1, e2]) <;> rfl)
theorem bb0 (b : List UInt8) (j : Int) (vs ars : List Int) (l : List d8) (at0 n : Int) (r0 : 0 ≤ j) (r1 : j ≤ 800000000) (r2 : 0 ≤ at0 ∧ at0 ≤ 100) (r3 : 0 ≤ n ∧ n ≤ 100) : j9.ok Tryz.prog (rnC b j vs ars l at0 n) := a64 b j vs ars l at0 n _ rfl r0 r1 r2 r3
abbrev mA (r : Nat) : AV := .agg [.ref r, .ref (r + 1)]
abbrev mT (r : Nat) : AV := .agg [.ref r, .tref (r + 1)]
abbrev mS (m : t9) : List It := [dI m.vals, dR m.arrs]
abbrev mO (m : t9) : List It := [.row 3 (.ints m.vals), .tree (.rows m.arrs)]
theorem bC7 {l : List (List Int)} {k : Nat} (h : k < l.length) : l.take (k + 1) = l.take k ++ [l.getD k []] := by
 rw [s4 _ _ h, o8 h]
theorem aU8 {l : List (List Int)} {k : Nat} (h : l.length ≤ k) : l.take k = l := cc6 h
abbrev bd1 : It := .box [.v (.slice none 0 0), .v (.slice none 0 0)]
theorem bA7 (xs : List Int) (rs : List (List Int)) (hx : xs.length ≤ 1048576) (hr : rs.length ≤ 1048576) (hi : ∀ a ∈ rs, a.length ≤ 1048576) : j9.ok Tryz.prog ⟨51, [mA 0], [dI xs, dR rs], [dI xs, dR rs, .row 3 (.ints xs), .tree (.rows rs)], mT 2⟩ := by
 refine K9 30 Tryz.func51 [dI xs, dR rs] [(0, .agg [.ref 0, .ref 1])] fun G => ?_; refine wp_seq (l0 G f8 [0, 1, 2, 10] [dI xs, dR rs, .box [.ref 0, .ref 1], bd1] [(1, .ptr 2 0), (2, .ptr 3 0)] fun G => b0 (wp_seq (V2 G f8 [0, 1, 2, 3, 28, 44] [dI xs, dR rs, .box [.ref 0, .ref 1], bd1, .row 3 (D.ints ([] ++ xs)), .box [.ref 4, .v (.slice none 0 0)]] [(1, .ptr 2 0), (2, .ptr 3 0), (3, .ptr 5 0)] (aP ((0 : Nat) + xs.length) 8 []) (aK (by omega) cc2) fun G => b0 (wp_seq (wp_seq (I8 G f8 [(1, .ptr 2 0), (2, .ptr 3 0), (3, .ptr 5 0), (4, iA 0)] fun G => b0 (wp_block ?_))))))); obtain ⟨ρ, G⟩ := G.nilT 6 (.rows []) [dI xs, dR rs, .box [.ref 0, .ref 1], .box [.v (.slice none 0 0), .v (.slice none 0 0)], .row 3 (D.ints ([] ++ xs)), .box [.ref 4, .tref 6]] [(1, .ptr 2 0), (2, .ptr 3 0), (3, .ptr 5 0), (4, iA 0)]; refine A8 (κ := Nat) (fun k => k ≤ rs.length) (fun k => rs.length - k) (fun k => [dI xs, dR rs, .box [.ref 0, .ref 1], .box [.v (.slice none 0 0), .v (.slice none 0 0)], .row 3 (D.ints ([] ++ xs)), .box [.ref 4, .tref 6], .tree (.rows (rs.take k))]) (fun k => [(1, .ptr 2 0), (2, .ptr 3 0), (3, .ptr 5 0), (4, iA k)]) 0 (by omega) (v5.at G _ _) ?_; clear G; intro k ρ a w hp G; replace G := v5.at G [dI xs, dR rs, .box [.ref 0, .ref 1], bd1, .row 3 (D.ints ([] ++ xs)), .box [.ref 4, .tref 6], .tree (D.rows (cc0 k rs))] [(1, .ptr 2 0), (2, .ptr 3 0), (3, .ptr 5 0), (4, iA k)]; refine wp_seq (wp_seq (m7 G f8 [(14, bA (decide ((k : Int) < rs.length)))] fun G => b0 (rcD G (fun h0 q0 => ?_) fun h0 q0 => ?_)))
 ·refine wp_exit (A2 (A2 (A1 (b0 (wp_seq (l0 G f8 [0, 1, 3, 4, 6] [dI xs, dR rs, .box [.ref 3, .tref 4], .row 3 (D.ints ([] ++ xs)), .tree (D.rows (cc0 k rs))] [(2, .ptr 2 0)] fun G => b0 (wp_ret ?_))))))); exact L6 G [0, 1, 3, 4] (by show _ = mR [0, 1, 3, 4] [dI xs, dR rs, .row 3 (D.ints xs), .tree (D.rows rs)]; have e1 : (cc0 k rs : List (List Int)) = (rs) := (aU8 (by omega)); (first | rw [e1] | simp only [e1]) <;> rfl)
 ·refine wp_skip (b0 (wp_seq (wp_block (L7 G f8 [0, 1, 0, 0, 8, 0, 56, 120, 252, 508, 1023, 2047, 4095] [0, 1, 2, 3, 4, 5, 87] [dI xs, dR rs, .box [.ref 0, .ref 1], bd1, .row 3 (D.ints ([] ++ xs)), .box [.ref 4, .tref 6], .tree (D.rows (cc0 k rs ++ [[] ++ rs.getD k []]))] [(1, .ptr 2 0), (2, .ptr 3 0), (3, .ptr 5 0), (4, iA k)] (iX k k rs.length (aP ((0 : Nat) + (rs.getD k []).length) 8 (aP ((cc0 k rs).length + [[] ++ rs.getD k []].length) 24 []))) (iK (by omega) (aK (by have h9 := hi (rs.getD k []) (by rw [o8 (by omega)]; exact cd1 _); omega) (aK (by simp; omega) cc2))) fun G => t5 (b0 (O0 G f8 [(4, iA ((k : Int) + 1))] [wO ((k : Int) + 1)] (o1 (by omega)) fun G => b0 ?_)))))); exact rxn G (k + 1) (by omega) (by omega) (rg 7) (by have e1 : (cc0 (k + 1) rs : List (List Int)) = (cc0 k rs ++ [[] ++ rs.getD k []]) := (bC7 (by omega)); (first | rw [e1] | simp only [e1]) <;> rfl)
abbrev aj2 : It := .box [.v (.slice none 0 0), .v (.slice none 0 0)]
abbrev O2 (r0 : List (Nat × AV)) : List (Nat × AV) := (0, .ptr 0 0) :: (3, .ptr 5 0) :: (4, .ptr 6 0) :: (5, .ptr 7 0) :: r0
abbrev aT4 (b : List UInt8) (j : Int) (vs : List Int) (i : Nat) (r0 : List It) : List It := .box [.ref 8, .tref 9] :: .row 3 (D.ints (vlD b j vs.length)) :: .tree (D.rows (arD b (j + (vs.length : Int)) i)) :: r0
abbrev aT3 (r0 : List It) : List It := .box (pL 2) :: .box [.v (.slice none 0 0), .v (.slice none 0 0)] :: r0
theorem bb3 (b : List UInt8) (j : Int) (vs ars : List Int) (bd : List c8) (h1 : vs.length ≤ 1000000) (h2 : ars.length ≤ 1000000) (r0 : 0 ≤ j) (r1 : j ≤ 100000000) : j9.ok Tryz.prog ⟨25, [.ptr 0 0, pA 2], [.box [.ref 1, iA j], dY b, dI vs, dI ars, dT bd], [.box [.ref 1, iA (j + vs.length + 4 * ars.length)], dY b, dI vs, dI ars, dT bd] ++ mS (mmD b j vs.length ars.length), mA 5⟩ := by
  refine K9 49 Tryz.func25 [.box [.ref 1, iA j], dY b, dI vs, dI ars, dT bd] [(0, .ptr 0 0), (1, pA 2)] fun G => ?_; refine wp_seq (l0 G f8 [0, 1, 2, 3, 4, 5, 13] [.box [.ref 1, iA j], dY b, dI vs, dI ars, dT bd, .box (pL 2), aj2] [(0, .ptr 0 0), (3, .ptr 5 0), (4, .ptr 6 0)] fun G => b0 (wp_seq (l0 G f8 [0, 1, 2, 3, 4, 5, 6, 15] [.box [.ref 1, iA j], dY b, dI vs, dI ars, dT bd, .box (pL 2), aj2, aj2] (O2 []) fun G => b0 (wp_seq (wp_seq (I8 G f8 (O2 [(6, iA 0)]) fun G => b0 (wp_block ?_))))))); obtain ⟨ρ, G⟩ := G.nil 8 3 (.ints []) 1 (.box [.ref 1, iA j] :: dY b :: dI vs :: dI ars :: dT bd :: (aT3 [.box [.ref 8, .v (.slice none 0 0)]])) (O2 [(6, iA 0)]); replace G := G.as (.box [.ref 1, iA (j + 0)] :: dY b :: dI vs :: dI ars :: dT bd :: (aT3 [.box [.ref 8, .v (.slice none 0 0)], .row 3 (D.ints (vlD b j 0))])) (O2 [(6, iA 0)]) (by have e1 : (j + 0 : Int) = (j) := (by omega); (first | rw [e1] | simp only [e1]) <;> rfl) (by kernel_rfl); refine A8 (κ := Nat) (fun k => k ≤ vs.length) (fun k => vs.length - k) (fun k => [.box [.ref 1, iA (j + k)], dY b, dI vs, dI ars, dT bd, .box (pL 2), .box [.v (.slice none 0 0), .v (.slice none 0 0)], .box [.ref 8, .v (.slice none 0 0)], .row 3 (.ints (vlD b j k))]) (fun k => [(0, .ptr 0 0), (3, .ptr 5 0), (4, .ptr 6 0), (5, .ptr 7 0), (6, iA k)]) 0 (by omega) (v5.at G _ _) ?_; clear G; intro k ρ a w hp G; replace G := v5.at G [.box [.ref 1, iA (j + (k : Int))], dY b, dI vs, dI ars, dT bd, .box (pL 2), aj2, .box [.ref 8, .v (.slice none 0 0)], .row 3 (D.ints (vlD b j k))] (O2 [(6, iA k)]); have hvl := ak4 b j k; refine wp_seq (wp_seq (I8 G f8 (O2 [(6, iA k), (15, bA (decide ((k : Int) < vs.length)))]) fun G => b0 ?_)); cases h0 : (decide ((k : Int) < vs.length))
  ·
   have q0 := dFf h0
   obtain rfl : k = vs.length := by omega
   refine rF G (decide ((vs.length : Int) < vs.length)) (by assumption) (wp_exit (A2 (A2 (A1 (b0 (wp_seq (wp_seq (I8 G f8 (O2 [(7, iA 0)]) fun G => b0 (wp_block ?_))))))))); obtain ⟨ρ, G⟩ := G.nilT 9 (.rows []) (.box [.ref 1, iA (j + (vs.length : Int))] :: dY b :: dI vs :: dI ars :: dT bd :: (aT3 [.box [.ref 8, .tref 9], .row 3 (D.ints (vlD b j vs.length))])) (O2 [(7, iA 0)]); replace G := G.as (.box [.ref 1, iA (j + (vs.length : Int) + 4 * (0 : Int))] :: dY b :: dI vs :: dI ars :: dT bd :: (aT3 [.box [.ref 8, .tref 9], .row 3 (D.ints (vlD b j vs.length)), .tree (D.rows (arD b (j + (vs.length : Int)) 0))])) (O2 [(7, iA 0)]) (by have e1 : (j + (vs.length : Int) + 4 * (0 : Int) : Int) = (j + (vs.length : Int)) := (by omega); (first | rw [e1] | simp only [e1]) <;> rfl) (by kernel_rfl); refine A8 (κ := Nat) (fun i => i ≤ ars.length) (fun i => ars.length - i) (fun i => [.box [.ref 1, iA (j + vs.length + 4 * i)], dY b, dI vs, dI ars, dT bd, .box (pL 2), .box [.v (.slice none 0 0), .v (.slice none 0 0)], .box [.ref 8, .tref 9], .row 3 (D.ints (vlD b j vs.length)), .tree (.rows (arD b (j + vs.length) i))]) (fun i => [(0, .ptr 0 0), (3, .ptr 5 0), (4, .ptr 6 0), (5, .ptr 7 0), (7, iA i)]) 0 (by omega) (v5.at G _ _) ?_; clear G; intro i ρ a w hp G; replace G := v5.at G (.box [.ref 1, iA (j + (vs.length : Int) + 4 * (i : Int))] :: dY b :: dI vs :: dI ars :: dT bd :: .box (pL 2) :: aj2 :: (aT4 b j vs i [])) (O2 [(7, iA i)]); have hal := bB8 b (j + vs.length) i; refine wp_seq (wp_seq (I8 G f8 (O2 [(7, iA i), (29, bA (decide ((i : Int) < ars.length)))]) fun G => b0 ?_)); cases h1 : (decide ((i : Int) < ars.length))
   ·
    have q1 := dFf h1
    obtain rfl : i = ars.length := by omega
    refine rF G (decide ((ars.length : Int) < ars.length)) (by assumption) (wp_exit (A2 (A2 (A1 (b0 (wp_seq (l0 G f8 [0, 1, 2, 3, 4, 6, 8, 9] [.box [.ref 1, iA (j + (vs.length : Int) + 4 * (ars.length : Int))], dY b, dI vs, dI ars, dT bd, .box [.ref 6, .tref 7], .row 3 (D.ints (vlD b j vs.length)), .tree (D.rows (arD b (j + (vs.length : Int)) ars.length))] [(4, .ptr 5 0)] fun G => b0 (wp_ret ?_)))))))); obtain ⟨ρ, G⟩ := G.frz [.no, .no, .no, .no, .no, .no, .row 3, .tree] [.box [.ref 1, iA (j + (vs.length : Int) + 4 * (ars.length : Int))], dY b, dI vs, dI ars, dT bd, .box [.ref 6, .ref 7], dI (vlD b j vs.length), dR (arD b (j + (vs.length : Int)) ars.length)] [(4, .ptr 5 0)]; exact L6 G [0, 1, 2, 3, 4, 6, 7]
   ·
    have q1 := dTt h1; refine rT G _ h1 (wp_skip (b0 (wp_seq (wp_block (wp_seq (l0 G f8 (rg 11) (.box [.ref 1, iA (j + (vs.length : Int) + 4 * (i : Int))] :: dY b :: dI vs :: dI ars :: dT bd :: .box (pL 2) :: aj2 :: (aT4 b j vs i [.row 3 (D.ints [])])) (O2 [(7, iA i), (8, .ref 10)]) fun G => b0 (wp_seq (wp_seq (I8 G f8 (O2 [(7, iA i), (8, .ref 10), (9, iA 0)]) fun G => b0 (wp_block ?_)))))))))); replace G := G.as (.box [.ref 1, iA (j + (vs.length : Int) + 4 * (i : Int) + 0)] :: dY b :: dI vs :: dI ars :: dT bd :: (aT3 (aT4 b j vs i [.row 3 (D.ints (vlD b (j + (vs.length : Int) + 4 * (i : Int)) 0))]))) (O2 [(7, iA i), (8, .ref 10), (9, iA 0)]) (by have e1 : (j + (vs.length : Int) + 4 * (i : Int) + 0 : Int) = (j + (vs.length : Int) + 4 * (i : Int)) := (by omega); (first | rw [e1] | simp only [e1]) <;> rfl) (by kernel_rfl); refine A8 (κ := Nat) (fun k2 => k2 ≤ 4) (fun k2 => 4 - k2) (fun k2 => [.box [.ref 1, iA (j + vs.length + 4 * i + k2)], dY b, dI vs, dI ars, dT bd, .box (pL 2), .box [.v (.slice none 0 0), .v (.slice none 0 0)], .box [.ref 8, .tref 9], .row 3 (D.ints (vlD b j vs.length)), .tree (D.rows (arD b (j + (vs.length : Int)) i)), .row 3 (.ints (vlD b (j + vs.length + 4 * i) k2))]) (fun k2 => [(0, .ptr 0 0), (3, .ptr 5 0), (4, .ptr 6 0), (5, .ptr 7 0), (7, iA i), (8, .ref 10), (9, iA k2)]) 0 (by omega) (v5.at G _ _) ?_; clear G; intro k2 ρ a w hp G; replace G := v5.at G (.box [.ref 1, iA (j + (vs.length : Int) + 4 * (i : Int) + (k2 : Int))] :: dY b :: dI vs :: dI ars :: dT bd :: .box (pL 2) :: aj2 :: (aT4 b j vs i [.row 3 (D.ints (vlD b (j + (vs.length : Int) + 4 * (i : Int)) k2))])) (O2 [(7, iA i), (8, .ref 10), (9, iA k2)]); have hvl2 := ak4 b (j + vs.length + 4 * i) k2; refine wp_seq (wp_seq (I8 G f8 (O2 [(7, iA i), (8, .ref 10), (9, iA k2), (34, bA (decide ((k2 : Int) < 4)))]) fun G => b0 ?_)); cases h2 : (decide ((k2 : Int) < 4))
    ·
     have q2 := dFf h2
     obtain rfl : k2 = 4 := by omega
     refine rF G false (by kernel_rfl) (wp_exit (A2 (A2 (A1 (b0 (V2 G f8 [0, 1, 2, 3, 4, 5, 6, 7, 8, 43] [.box [.ref 1, iA (j + (vs.length : Int) + 4 * (i : Int) + 4)], dY b, dI vs, dI ars, dT bd, .box (pL 2), aj2, .box [.ref 8, .tref 9], .row 3 (D.ints (vlD b j vs.length)), .tree (D.rows (arD b (j + (vs.length : Int)) i ++ [vlD b (j + (vs.length : Int) + 4 * (i : Int)) 4]))] (O2 [(7, iA i)]) (aP ((arD b (j + (vs.length : Int)) i).length + [vlD b (j + (vs.length : Int) + 4 * (i : Int)) (4 : Nat)].length) 24 []) (aK (by simp; omega) cc2) fun G => t5 (b0 (O0 G f8 [(7, iA ((i : Int) + 1))] [wO ((i : Int) + 1)] (o1 (by omega)) fun G => b0 ?_)))))))); exact rxn G (i + 1) (by omega) (by omega) (rg 10) (by have e1 : (j + (vs.length : Int) + 4 * (↑(i + 1) : Int) : Int) = (j + (vs.length : Int) + 4 * (i : Int) + 4) := (by omega); have e2 : (arD b (j + (vs.length : Int)) (i + 1) : List (List Int)) = (arD b (j + (vs.length : Int)) i ++ [vlD b (j + (vs.length : Int) + 4 * (i : Int)) 4]) := (bJ7 _ _ _); (first | rw [e1, e2] | simp only [e1, e2]) <;> rfl)
    · have q2 := dTt h2; refine rT G _ h2 (wp_skip (b0 (wp_seq (wp_block (V2 G (A4 2 [0, 1] (ac1 b (j + (vs.length : Int) + 4 * (i : Int) + (k2 : Int)) (by omega) (by omega))) [0, 1, 2, 3, 4, 5, 6, 7, 8, 9, 43] (.box [.ref 1, iA (j + (vs.length : Int) + 4 * (i : Int) + (k2 : Int) + 1)] :: dY b :: dI vs :: dI ars :: dT bd :: .box (pL 2) :: aj2 :: (aT4 b j vs i [.row 3 (D.ints (vlD b (j + (vs.length : Int) + 4 * (i : Int)) k2 ++ ([nm b (j + (vs.length : Int) + 4 * (i : Int) + (k2 : Int)) vaL] ++ [])))])) (O2 [(7, iA i), (8, .ref 10), (9, iA k2)]) (aP ((vlD b (j + (vs.length : Int) + 4 * (i : Int)) k2).length + ([nm b (j + (vs.length : Int) + 4 * (i : Int) + (k2 : Int)) vaL] ++ []).length) 8 []) (aK (by simp; omega) cc2) fun G => t5 (b0 (O0 G f8 [(9, iA ((k2 : Int) + 1))] [wO ((k2 : Int) + 1)] (o1 (by omega)) fun G => b0 ?_))))))); exact rxn G (k2 + 1) (by omega) (by omega) (rg 11) (by have e1 : (j + (vs.length : Int) + 4 * (i : Int) + (↑(k2 + 1) : Int) : Int) = (j + (vs.length : Int) + 4 * (i : Int) + (k2 : Int) + 1) := (by omega); have e2 : (vlD b (j + (vs.length : Int) + 4 * (i : Int)) (k2 + 1) : List Int) = (vlD b (j + (vs.length : Int) + 4 * (i : Int)) k2 ++ ([nm b (j + (vs.length : Int) + 4 * (i : Int) + (k2 : Int)) vaL] ++ [])) := (aM8 _ _ _); (first | rw [e1, e2] | simp only [e1, e2]) <;> rfl)
  · have q0 := dTt h0; refine rT G _ h0 (wp_skip (b0 (wp_seq (wp_block (L7 G (A4 3 [0, 1] (ac1 b (j + (k : Int)) (by omega) (by omega))) [0, 1, 0, 4, 12, 31, 63, 127] [0, 1, 2, 3, 4, 5, 6, 7, 49] [.box [.ref 1, iA (j + (k : Int) + 1)], dY b, dI vs, dI ars, dT bd, .box (pL 2), aj2, .box [.ref 8, .v (.slice none 0 0)], .row 3 (D.ints (vlD b j k ++ ([nm b (j + (k : Int)) vaL] ++ [])))] (O2 [(6, iA k)]) (aP ((vlD b j k).length + ([nm b (j + (k : Int)) vaL] ++ []).length) 8 []) (aK (by simp; omega) cc2) fun G => t5 (b0 (O0 G f8 [(6, iA ((k : Int) + 1))] [wO ((k : Int) + 1)] (o1 (by omega)) fun G => b0 ?_))))))); exact rxn G (k + 1) (by omega) (by omega) (rg 9) (by have e1 : (j + (↑(k + 1) : Int) : Int) = (j + (k : Int) + 1) := (by omega); have e2 : (vlD b j (k + 1) : List Int) = (vlD b j k ++ ([nm b (j + (k : Int)) vaL] ++ [])) := (aM8 _ _ _); (first | rw [e1, e2] | simp only [e1, e2]) <;> rfl)
theorem aF2 (xs ys : List Int) : j9.ok Tryz.prog (fnC 30 [.ref 0, .ref 1] [dI xs, dI ys] (bA (decide (xs = ys)))) := by
  refine K9 26 Tryz.func30 [dI xs, dI ys] [(0, .ref 0), (1, .ref 1)] fun G => ?_; have hl : xs.length ≤ 9223372036854775807 := G.len 0 (d := .ints xs) (by kernel_rfl); refine wp_seq (I8 G f8 [(0, .ref 0), (1, .ref 1), (4, bA false)] fun G => b0 (wp_seq (wp_seq (m7 G f8 [(10, bA ((xs.length : Int) != (ys.length : Int)))] fun G => b0 (rcN G (fun h0 q0 => ?_) fun h0 q0 => ?_)))))
  ·
   refine wp_skip (b0 (wp_seq (wp_seq (I8 G f8 [(0, .ref 0), (1, .ref 1), (4, bA false), (12, iA (xs.length : Int)), (13, iA 0)] fun G => b0 (wp_block ?_))))); refine A8 (κ := Nat) (fun k => k ≤ xs.length ∧ xs.take k = ys.take k) (fun k => xs.length - k) (fun k => [dI xs, dI ys]) (fun k => [(0, .ref 0), (1, .ref 1), (4, bA false), (12, iA (xs.length : Int)), (13, iA k)]) 0 (by simp [h0]) (v5.at G _ _) ?_; clear G; intro k ρ a w hp G; refine wp_seq (m7 G f8 [(14, bA (decide ((k : Int) < xs.length)))] fun G => b0 (wp_seq (rcD G (fun h1 q1 => ?_) fun h1 q1 => ?_)))
   · refine wp_exit (A2 (A2 (A1 (b0 (wp_seq (m7 G f8 [(4, bA true)] fun G => b0 (wp_ret ?_))))))); exact N4 true G [0, 1] (decide_eq_true (aV0 hp.2 (by omega) (by omega)))
   ·
    refine wp_skip (b0 (wp_seq (wp_block (wp_seq (m7 G f8 [(5, iA k)] fun G => b0 (wp_seq (bk7 G f8 [0, 0, 3, 7, 0, 0, 48, 112, 255] [(24, bA (xs.getD k 0 != ys.getD k 0))] (iX k k xs.length (iX k k ys.length [])) (iK (by omega) (iK (by omega) cc2)) fun G => b0 (rcN G (fun h2 q2 => ?_) fun h2 q2 => ?_))))))))
    · refine wp_skip (t5 (b0 (O0 G f8 [(13, iA ((k : Int) + 1))] [wO ((k : Int) + 1)] (o1 (by omega)) fun G => b0 ?_))); exact rxn G (k + 1) (⟨by omega, aI9 hp.2 (by omega) (by omega) (by omega)⟩) (by omega) [0, 1]
    · refine wp_seq (m7 G f8 [] fun G => b0 (wp_ret (E5 (o5 (o5 (E5 (o5 ?_))))))); exact N4 false G [0, 1] (by exact decide_eq_false fun e => by subst e; omega)
  · refine wp_seq (m7 G f8 [] fun G => b0 (wp_ret (o5 ?_))); exact N4 false G [0, 1] (by exact decide_eq_false fun e => by subst e; omega)
section
variable {vs ars : List Int} {l : Int} {s : c8} {pc pd : Int}
end
theorem bk8 {p : j8} (h : E2 p = true) : p.vars.all F4 = true ∧ p.arrays.all F4 = true ∧ 1 ≤ p.vars.length ∧ p.body.all (m6 p.vars.length p.arrays.length 5) = true := by
 unfold E2 F0 at h
 simp only [cb0, decide_eq_true_eq] at h
 exact ⟨h.1.1.1.1.1.1, h.1.1.1.1.1.2, h.1.1.1.1.2, h.1.2⟩
section
variable (vs ars : List Int) (bd : List c8)
end
abbrev nvB (n : Int) : Bool := !(decide (0 ≤ n) && decide (n ≤ 255))
theorem bJ3 (n : Int) : j9.ok Tryz.prog (fnC 106 [iA n] [] (bA (nvB n))) := by
 refine K9 6 Tryz.func106 [] [(0, iA n)] fun G => ?_; refine wp_seq (m7 G f8 [(2, bA false)] fun G => b0 (wp_seq (m7 G (A4 1 [] (a28 n 0 255)) [(2, .v (.bool !(decide (0 ≤ n) && decide (n ≤ 255))))] fun G => b0 (wp_ret ?_)))); exact L6 G []
theorem b22 (l : List Int) : j9.ok Tryz.prog (fnC 101 [.ref 0, .fn 106 []] [dI l] (iA (ae5 nvB l))) := by
  refine K9 19 Tryz.func101 [dI l] [(0, .ref 0), (1, .fn 106 [])] fun G => ?_; have hl : l.length ≤ 9223372036854775807 := G.len 0 (d := .ints l) (by kernel_rfl); refine wp_seq (I8 G f8 [(0, .ref 0), (1, .fn 106 []), (4, iA 0)] fun G => b0 (wp_seq (wp_seq (I8 G f8 [(0, .ref 0), (1, .fn 106 []), (4, iA 0), (7, iA (l.length : Int)), (8, iA 0)] fun G => b0 (wp_block ?_))))); refine A8 (κ := Nat) (fun k => k ≤ l.length ∧ (l.take k).any nvB = false) (fun k => l.length - k) (fun k => [dI l]) (fun k => [(0, .ref 0), (1, .fn 106 []), (4, iA 0), (7, iA (l.length : Int)), (8, iA k)]) 0 (⟨cc7 _, rfl⟩) (v5.at G _ _) ?_; clear G; intro k ρ a w hp G; refine wp_seq (m7 G f8 [(9, bA (decide ((k : Int) < l.length)))] fun G => b0 (wp_seq (rcD G (fun h0 q0 => ?_) fun h0 q0 => ?_)))
  · refine wp_exit (A2 (A2 (A1 (b0 (wp_seq (m7 G f8 [(4, iA (-1))] fun G => b0 (wp_ret ?_))))))); exact rxI (-1) G [0] (aD8 (a41 hp.2 (by omega)))
  ·
   refine wp_skip (b0 (wp_seq (wp_block (wp_seq (m7 G f8 [(5, iA k)] fun G => b0 (wp_seq (O0 G (A4 5 [] (bJ3 (l.getD k 0))) [(16, bA (nvB (l.getD k 0)))] (iX k k l.length []) (iK (by omega) cc2) fun G => b0 (rcB G (fun h1 => ?_) fun h1 => ?_))))))))
   · refine wp_skip (t5 (b0 (O0 G f8 [(8, iA ((k : Int) + 1))] [wO ((k : Int) + 1)] (o1 (by omega)) fun G => b0 ?_))); exact rxn G (k + 1) (⟨by omega, a40 (z := 0) hp.2 (by omega) (by assumption)⟩) (by omega) [0]
   · refine wp_seq (m7 G f8 [(4, iA k)] fun G => b0 (wp_ret (E5 (o5 (o5 (E5 (o5 ?_))))))); exact rxI ((k : Int)) G [0] (aL0 (z := 0) (by omega) hp.2 (by assumption))
theorem b26 (l : List Int) : j9.ok Tryz.prog (fnC 85 [.ref 0, .fn 106 []] [dI l] (bA (l.any nvB))) := by
 refine K9 9 Tryz.func85 [dI l] [(0, .ref 0), (1, .fn 106 [])] fun G => ?_; refine wp_seq (m7 G f8 [(4, bA false)] fun G => b0 (wp_seq (m7 G (A4 2 [0] (b22 l)) [(4, bA (decide (ae5 nvB l ≥ 0)))] fun G => b0 (wp_ret ?_)))); exact N4 (decide (ae5 nvB l ≥ 0)) G [0] ((aL1 _ _).symm)
theorem bq8 (l : List Int) : (!l.any nvB) = F9 l := by
 unfold F9
 rw [List.all_eq_not_any_not]
theorem av4 (l : List Int) : j9.ok Tryz.prog (fnC 95 [.ref 0] [dI l] (bA (F9 l))) := by
 refine K9 6 Tryz.func95 [dI l] [(0, .ref 0)] fun G => ?_; refine wp_seq (m7 G f8 [(2, bA false)] fun G => b0 (wp_seq (m7 G (A4 1 [0] (b26 l)) [(2, .v (.bool !l.any nvB))] fun G => b0 (wp_ret ?_)))); exact rxv (.v (.bool !l.any nvB)) G [0] (by have e1 : (F9 l : Bool) = (!l.any nvB) := ((bq8 l).symm); (first | rw [e1] | simp only [e1]) <;> rfl)
abbrev naB (a : List Int) : Bool := !(S9 a)
theorem b83 {a : List Int} (h : ¬ (a.length : Int) = 4) : naB a = true := by unfold naB S9; rw [decide_eq_false (p := a.length = 4) (by omega)]; rfl
theorem b82 {a : List Int} (h : (a.length : Int) = 4) : naB a = !(F9 a) := by unfold naB S9; rw [decide_eq_true (p := a.length = 4) (by omega)]; rfl
theorem bT1 (l : List Int) : j9.ok Tryz.prog (fnC 97 [.ref 0] [dI l] (bA (naB l))) := by
 refine K9 11 Tryz.func97 [dI l] [(0, .ref 0)] fun G => ?_; refine wp_seq (m7 G f8 [(2, bA false)] fun G => b0 (wp_seq ?_)); cases h0 : ((l.length : Int) != 4)
 ·have q0 := bne_eq_false_iff_eq.1 h0; refine m7 G (X7 (H7 5 [0] (av4 l) X6) (fc h0 fz) [(4, 0), (5, 0), (6, 0), (1007, 0)]) [(2, .v (.bool !F9 l))] fun G => b0 (wp_ret ?_); exact rxv (.v (.bool !F9 l)) G [0] (by have e1 : (naB l : Bool) = (!F9 l) := (b82 (by omega)); (first | rw [e1] | simp only [e1]) <;> rfl)
 ·have q0 := bne_iff_ne.1 h0; refine m7 G (N1 (fc h0 fz) [(4, 0), (5, 0), (6, 0), (1007, 0)]) [(2, bA true)] fun G => b0 (wp_ret ?_); exact N4 true G [0] (b83 (by omega))
theorem b23 (l : List (List Int)) : j9.ok Tryz.prog (fnC 107 [.ref 0, .fn 97 []] [dR l] (iA (ae5 naB l))) := by
  refine K9 19 Tryz.func107 [dR l] [(0, .ref 0), (1, .fn 97 [])] fun G => ?_; have hl : l.length ≤ 9223372036854775807 := G.len 0 (d := .rows l) (by kernel_rfl); refine wp_seq (I8 G f8 [(0, .ref 0), (1, .fn 97 []), (4, iA 0)] fun G => b0 (wp_seq (wp_seq (I8 G f8 [(0, .ref 0), (1, .fn 97 []), (4, iA 0), (7, iA (l.length : Int)), (8, iA 0)] fun G => b0 (wp_block ?_))))); refine A8 (κ := Nat) (fun k => k ≤ l.length ∧ (l.take k).any naB = false) (fun k => l.length - k) (fun k => [dR l]) (fun k => [(0, .ref 0), (1, .fn 97 []), (4, iA 0), (7, iA (l.length : Int)), (8, iA k)]) 0 (⟨cc7 _, rfl⟩) (v5.at G _ _) ?_; clear G; intro k ρ a w hp G; refine wp_seq (m7 G f8 [(9, bA (decide ((k : Int) < l.length)))] fun G => b0 (wp_seq (rcD G (fun h0 q0 => ?_) fun h0 q0 => ?_)))
  · refine wp_exit (A2 (A2 (A1 (b0 (wp_seq (m7 G f8 [(4, iA (-1))] fun G => b0 (wp_ret ?_))))))); exact rxI (-1) G [0] (aD8 (a41 hp.2 (by omega)))
  ·
   refine wp_skip (b0 (wp_seq (wp_block (wp_seq (m7 G f8 [(5, iA k)] fun G => b0 (wp_seq (O0 G (A4 5 [33] (bT1 (l.getD k []))) [(16, bA (naB (l.getD k [])))] (iX k k l.length []) (iK (by omega) cc2) fun G => b0 (rcB G (fun h1 => ?_) fun h1 => ?_))))))))
   · refine wp_skip (t5 (b0 (O0 G f8 [(8, iA ((k : Int) + 1))] [wO ((k : Int) + 1)] (o1 (by omega)) fun G => b0 ?_))); exact rxn G (k + 1) (⟨by omega, a40 (z := []) hp.2 (by omega) (by assumption)⟩) (by omega) [0]
   · refine wp_seq (m7 G f8 [(4, iA k)] fun G => b0 (wp_ret (E5 (o5 (o5 (E5 (o5 ?_))))))); exact rxI ((k : Int)) G [0] (aL0 (z := []) (by omega) hp.2 (by assumption))
theorem b27 (l : List (List Int)) : j9.ok Tryz.prog (fnC 96 [.ref 0, .fn 97 []] [dR l] (bA (l.any naB))) := by
 refine K9 9 Tryz.func96 [dR l] [(0, .ref 0), (1, .fn 97 [])] fun G => ?_; refine wp_seq (m7 G f8 [(4, bA false)] fun G => b0 (wp_seq (m7 G (A4 2 [0] (b23 l)) [(4, bA (decide (ae5 naB l ≥ 0)))] fun G => b0 (wp_ret ?_)))); exact N4 (decide (ae5 naB l ≥ 0)) G [0] ((aL1 _ _).symm)
theorem bJ6 (l : List (List Int)) : (!l.any naB) = l.all S9 := by
 rw [List.all_eq_not_any_not]
theorem bZ7 {nv na : Nat} {m : t9} (h1 : (m.vals.length : Int) = nv) (h2 : (m.arrs.length : Int) = na) (h3 : F9 m.vals = true) : (!m.arrs.any naB) = G4 nv na m := by
 rw [bZ8 h1 h2 h3]; exact bJ6 _
theorem bc0 (vs ars xs : List Int) (rs : List (List Int)) : j9.ok Tryz.prog (fnC 82 [.ref 0, .ref 1, mA 2] [dI vs, dI ars, dI xs, dR rs] (bA (G4 vs.length ars.length ⟨xs, rs⟩))) := by
  refine K9 31 Tryz.func82 [dI vs, dI ars, dI xs, dR rs] [(0, .ref 0), (1, .ref 1), (2, .agg [.ref 2, .ref 3])] fun G => ?_; refine wp_seq (l0 G f8 (rg 5) [dI vs, dI ars, dI xs, dR rs, .box [.ref 2, .ref 3]] [(0, .ref 0), (1, .ref 1), (5, .ptr 4 0), (6, bA false)] fun G => b0 (wp_seq (wp_seq ?_))); cases h0 : ((xs.length : Int) != (vs.length : Int))
  ·
   have q0 := bne_eq_false_iff_eq.1 h0; cases h1 : ((rs.length : Int) != (ars.length : Int))
   ·
    have q1 := bne_eq_false_iff_eq.1 h1; refine m7 G (X7 (H7 17 [2] (av4 xs) X6) (fc h0 (fc h1 fz)) (us [(7, 12, 0), (1013, 1013, 0), (15, 18, 1), (1019, 1019, 1)])) [(26, .v (.bool !F9 xs))] fun G => b0 ?_; cases h2 : (!F9 xs)
    · have q2 : (F9 xs) = true := (Eq.mp (Bool.not_eq_false' _) h2); refine rF G _ h2 (wp_skip (b0 (wp_seq (l0 G (A4 2 [3] (b27 rs)) (rg 4) [dI vs, dI ars, dI xs, dR rs] [(6, .v (.bool !rs.any naB))] fun G => b0 (wp_ret ?_))))); exact rxv (.v (.bool !rs.any naB)) G (rg 4) (by have e1 : (G4 vs.length ars.length (t9.mk xs rs) : Bool) = (!rs.any naB) := ((bZ7 (m := ⟨xs, rs⟩) (by dsimp only; omega) (by dsimp only; omega) (by with_reducible assumption)).symm); (first | rw [e1] | simp only [e1]) <;> rfl)
    · have q2 : (F9 xs) = false := (Eq.mp (cf0 _) h2); refine rT G _ h2 (wp_seq (m7 G f8 [] fun G => b0 (wp_ret (o5 ?_)))); exact N4 false G (rg 4) (bZ9 (by with_reducible assumption))
   · have q1 := bne_iff_ne.1 h1; refine m7 G (N1 (fc h0 (fc h1 fz)) (us [(7, 12, 0), (1013, 1013, 0), (15, 18, 1), (1019, 1019, 1)])) [(26, bA true)] fun G => b0 (rT G true (by kernel_rfl) (wp_seq (m7 G f8 [] fun G => b0 (wp_ret (o5 ?_))))); exact N4 false G (rg 4) (b00 (by dsimp only; omega))
  · have q0 := bne_iff_ne.1 h0; refine m7 G (N1 (fc h0 (fc (b := true) rfl fz)) (us [(7, 12, 0), (1013, 1013, 0), (15, 18, 1), (1019, 1019, 1)])) [(26, bA true)] fun G => b0 (rT G true (by kernel_rfl) (wp_seq (m7 G f8 [] fun G => b0 (wp_ret (o5 ?_))))); exact N4 false G (rg 4) (b01 (by dsimp only; omega))
theorem bB0 (xs ys : List (List Int)) : j9.ok Tryz.prog (fnC 38 [.ref 0, .ref 1, .fn 30 []] [dR xs, dR ys] (bA (decide (xs = ys)))) := by
  refine K9 32 Tryz.func38 [dR xs, dR ys] [(0, .ref 0), (1, .ref 1), (2, .fn 30 [])] fun G => ?_; have hl : xs.length ≤ 9223372036854775807 := G.len 0 (d := .rows xs) (by kernel_rfl); refine wp_seq (I8 G f8 [(0, .ref 0), (1, .ref 1), (2, .fn 30 []), (6, bA false)] fun G => b0 (wp_seq (wp_seq (m7 G f8 [(14, bA ((xs.length : Int) != (ys.length : Int)))] fun G => b0 (rcN G (fun h0 q0 => ?_) fun h0 q0 => ?_)))))
  ·
   refine wp_skip (b0 (wp_seq (wp_seq (I8 G f8 [(1, .ref 1), (2, .fn 30 []), (6, bA false), (15, .ref 0), (16, iA (xs.length : Int)), (17, iA 0)] fun G => b0 (wp_block ?_))))); refine A8 (κ := Nat) (fun k => k ≤ xs.length ∧ xs.take k = ys.take k) (fun k => xs.length - k) (fun k => [dR xs, dR ys]) (fun k => [(1, .ref 1), (2, .fn 30 []), (6, bA false), (15, .ref 0), (16, iA (xs.length : Int)), (17, iA k)]) 0 (by simp [h0]) (v5.at G _ _) ?_; clear G; intro k ρ a w hp G; refine wp_seq (m7 G f8 [(18, bA (decide ((k : Int) < xs.length)))] fun G => b0 (wp_seq (rcD G (fun h1 q1 => ?_) fun h1 q1 => ?_)))
   · refine wp_exit (A2 (A2 (A1 (b0 (wp_seq (m7 G f8 [(6, bA true)] fun G => b0 (wp_ret ?_))))))); exact N4 true G [0, 1] (decide_eq_true (aV0 hp.2 (by omega) (by omega)))
   ·
    refine wp_skip (b0 (wp_seq (wp_block (wp_seq (V2 G f8 [0, 1, 18] [dR xs, dR ys, dI (xs.getD k [])] [(1, .ref 1), (2, .fn 30 []), (6, bA false), (7, iA k), (8, .ref 2), (15, .ref 0), (16, iA (xs.length : Int)), (17, iA k)] (iX k k xs.length []) (iK (by omega) cc2) fun G => b0 (wp_seq (V2 G f8 [0, 1, 2, 27] [dR xs, dR ys, dI (xs.getD k []), dI (ys.getD k [])] [(1, .ref 1), (2, .fn 30 []), (6, bA false), (8, .ref 2), (9, .ref 3), (15, .ref 0), (16, iA (xs.length : Int)), (17, iA k)] (iX k k ys.length []) (iK (by omega) cc2) fun G => b0 (wp_seq (l0 G (A4 3 [2, 3] (aF2 (xs.getD k []) (ys.getD k []))) [0, 1] [dR xs, dR ys] [(1, .ref 1), (2, .fn 30 []), (6, bA false), (15, .ref 0), (16, iA (xs.length : Int)), (17, iA k), (30, .v (.bool !decide (xs.getD k [] = ys.getD k [])))] fun G => b0 ?_))))))))); cases h2 : (!decide (xs.getD k [] = ys.getD k []))
    · have q2 : xs.getD k [] = ys.getD k [] := (fun hq => of_decide_eq_true hq) (Eq.mp (Bool.not_eq_false' _) h2); refine rF G _ h2 (wp_skip (t5 (b0 (O0 G f8 [(17, iA ((k : Int) + 1))] [wO ((k : Int) + 1)] (o1 (by omega)) fun G => b0 ?_)))); exact rxn G (k + 1) (⟨by omega, aI9 (z := []) hp.2 (by omega) (by omega) (by with_reducible assumption)⟩) (by omega) [0, 1]
    · have q2 : ¬ (xs.getD k [] = ys.getD k []) := (fun hq => of_decide_eq_false hq) (Eq.mp (cf0 _) h2); refine rT G _ h2 (wp_seq (m7 G f8 [] fun G => b0 (wp_ret (E5 (o5 (o5 (E5 (o5 ?_)))))))); exact N4 false G [0, 1] (by exact decide_eq_false fun e => by subst e; simp at *)
  · refine wp_seq (m7 G f8 [] fun G => b0 (wp_ret (o5 ?_))); exact N4 false G [0, 1] (by exact decide_eq_false fun e => by subst e; simp at *)
theorem aH1 (xs ys : List Int) (rs ts : List (List Int)) : j9.ok Tryz.prog (fnC 13 [mA 0, mA 2] [dI xs, dR rs, dI ys, dR ts] (bA (decide (xs = ys) && decide (rs = ts)))) := by
 refine K9 17 Tryz.func13 [dI xs, dR rs, dI ys, dR ts] [(0, .agg [.ref 0, .ref 1]), (1, .agg [.ref 2, .ref 3])] fun G => ?_; refine wp_seq (l0 G f8 [0, 1, 2, 3, 4, 12] [dI xs, dR rs, dI ys, dR ts, .box [.ref 0, .ref 1], .box [.ref 2, .ref 3]] [(2, .ptr 4 0), (3, .ptr 5 0), (4, bA false)] fun G => b0 (wp_seq ?_)); cases h0 : (decide (xs = ys))
 ·have q0 := dFf h0; refine l0 G (X7 (H7 4 [0, 2] (aF2 xs ys) X6) (fc h0 fz) (us [(6, 10, 0), (1011, 1011, 0)])) (rg 4) [dI xs, dR rs, dI ys, dR ts] [(4, bA false)] fun G => b0 (wp_ret ?_); exact L6 G (rg 4)
 ·have q0 := dTt h0; refine l0 G (X7 (H7 4 [0, 2] (aF2 xs ys) (H7 10 [1, 3] (bB0 rs ts) X6)) (fc h0 fz) (us [(6, 10, 0), (1011, 1011, 0)])) (rg 4) [dI xs, dR rs, dI ys, dR ts] [(4, bA (decide (rs = ts)))] fun G => b0 (wp_ret ?_); exact L6 G (rg 4)
abbrev LnS : Type := List Int × List c8
section
variable {ars : List Int} {s : c8} {m pc : Int} {x : LnS}
end
structure Grw (nv na d : Nat) (sz : Nat) (s : LnS) (r : LnS) : Prop where
 lo : s.1.length ≤ r.1.length
 hi : r.1.length ≤ s.1.length + sz
 st : v7 r.2 ≤ v7 s.2 + 40 * sz
 len : s.2.length ≤ r.2.length
section
variable {p : j8} {l k : Int} (h : E2 p = true) (hl : F4 l = true)
include h hl
end
section
variable {p : j8} {l : Int}
end
section
variable {p q : j8} {m : t9}
end
theorem ba5 (v : Value) (n : Nat) (t : List Value) (w : World) (h : D3 w v n 1 t) (h1 : ∀ u ∈ t, u.oneCell' = true) (hb : n ≤ 1000000000000) :
  Calls Tryz.prog 108 #[v] w fun e w' => ∃ u, e = .returned u ∧ y7 w' w.heap.size w'.heap.size 23 1 u n t ∧ Below w.heap.size w w' := by
 obtain ⟨a, cap, rfl, hc1, hc2, hc3, -⟩ := h.open
 have hnil := fun w => Lib.run_eql_slice_nil (P := Tryz.prog) w 27 23 a n cap 0 0 Tryz.underlying27
 rcases a with _ | a
 ·have hn : n = 0 := by
   rcases Nat.eq_zero_or_pos n with h0 | h0
   ·exact h0
   ·obtain ⟨_, a, c, he, _, _, hx⟩ := h
    cases he
    obtain ⟨_, _, he, _⟩ := hx h0
    cases he
  subst hn
  have ht : t = [] := cc8 (by have := h.1; omega)
  subst ht
  simp only [Option.isNone_none] at hnil
  go_enter Tryz.func108, Tryz.ntmps108
  go_wp2_with fail
  go_ret
  exact ⟨_, rfl, ⟨World.ownsRow_nil _ _ _ _, fun g hg => by cases hg⟩, Below.refl _ _⟩
 ·go_enter Tryz.func108, Tryz.ntmps108
  simp only [Option.isNone_some] at hnil
  have ba := (Below.refl w.heap.size w).alloc (cb1 _) (.cells #[] 23)
  go_wp2_with (at_builtin; refine A5 rfl _ _ rfl Tryz.underlying27 bI3 rfl (by omega) rfl (t0 w #[] 0 1 _ rfl rfl (by omega)).1 rfl (h.below ba) h1 (by omega) (by omega) (by simp) ?_; rintro a4 q4 w4 o4 b4 - -)
  go_ret
  refine ⟨_, rfl, y7.mk' (by simpa using o4), ba.trans b4⟩
section
variable {b : List UInt8} {j : Int} {m : t9}
end
structure GrS (sz : Nat) (x r : LnS) : Prop where
 lo : x.1.length ≤ r.1.length
 hi : r.1.length ≤ x.1.length + 4 * sz
 st : v7 r.2 ≤ v7 x.2 + 130 * sz
 len : x.2.length ≤ r.2.length
theorem GrS.refl (x : LnS) (n : Nat) : GrS n x x := ⟨cb1 _, by omega, by omega, cb1 _⟩
theorem bI0 {e : d9} (h : e.kids = []) : T2 e = 0 := by rw [aA0, h]; rfl
theorem ao3 {nv na : Nat} {e : d9} (h : r7 nv na e = true) : T2 e ≤ 14 := by
 unfold r7 at h; simp only [cb0, decide_eq_true_eq] at h; omega
theorem ax5 {e : d9} (h : noneB e = true) : T2 e = 0 := by
 unfold noneB at h; simp only [cb0, decide_eq_true_eq] at h
 exact bI0 (cc8 h.2)
theorem be3 {nv na d : Nat} (ih : ∀ s : c8, m6 nv na d s = true → 1 + szS s ≤ 29 * nS s) : ∀ ss : List c8, ss.all (m6 nv na d) = true → v7 ss ≤ 29 * nSs ss
 | [], _ => cb1 _
 | s :: r, h => by
  simp only [List.all_cons, cb0] at h
  have h1 := ih s h.1
  have h2 := be3 ih r h.2
  rw [v7, nSs]; omega
theorem br2 {nv na : Nat} : ∀ (d : Nat) (s : c8), m6 nv na d s = true → 1 + szS s ≤ 29 * nS s
 | 0, _, h => by simp [m6] at h
 | d + 1, s, h => by
  rw [ak6, cb0, cb0] at h
  obtain ⟨hh, hb, he⟩ := h
  have h1 := be3 (fun s => br2 d s) s.body hb
  have h2 := be3 (fun s => br2 d s) s.els he
  have hsz : szS s = T2 s.index + T2 s.value + v7 s.body + v7 s.els := by cases s; rfl
  have hn := aO9 s
  have key : T2 s.index + T2 s.value ≤ 28 := by
   by_cases k4 : s.kind = 4
   ·rw [bZ0 k4] at hh; simp only [cb0] at hh
    have := ax5 hh.2.1; have := ax5 hh.2.2; omega
   by_cases k3 : s.kind = 3
   ·rw [bZ1 k3] at hh; simp only [cb0] at hh
    have := ax5 hh.2.1; have := ao3 hh.2.2; omega
   by_cases k15 : s.kind = 1 ∨ s.kind = 5
   ·rw [bZ3 k15] at hh; simp only [cb0] at hh
    have := ax5 hh.2.1; have := ao3 hh.2.2; omega
   by_cases k2 : s.kind = 2
   ·rw [bZ2 k2] at hh; simp only [cb0] at hh
    have := ao3 hh.2.1; have := ao3 hh.2.2.2; omega
   ·rw [aD3 (by omega)] at hh; cases hh
  omega
theorem bq7 {p : j8} (h : E2 p = true) : p.vars.length ≤ 12 ∧ p.arrays.length ≤ 2 ∧ v7 p.body ≤ 1740 := by
 unfold E2 F0 ah0 at h
 simp only [cb0, decide_eq_true_eq] at h
 have := be3 (br2 5) p.body h.1.2
 omega
abbrev lqC (l : List d8) (fr : List Int) (at0 : Int) (s : c8) (d : Int) : j9 := ⟨102, [.agg [.ref 0, .ref 1, iA at0], sA s 2, iA d], [rN l, rI fr] ++ sS s, [.dead, .dead] ++ sS s ++ [rN (Q6 s d (l, fr, at0)).1, rI (Q6 s d (l, fr, at0)).2.1], .agg [.ref 6, .ref 7, iA (Q6 s d (l, fr, at0)).2.2]⟩
abbrev lrC (l : List d8) (fr : List Int) (at0 : Int) (ss : List c8) (d : Int) : j9 := ⟨90, [.agg [.ref 0, .ref 1, iA at0], .ref 2, iA d], [rN l, rI fr, dT ss], [.dead, .dead, dT ss, rN (n5 ss d (l, fr, at0)).1, rI (n5 ss d (l, fr, at0)).2.1], .agg [.ref 3, .ref 4, iA (n5 ss d (l, fr, at0)).2.2]⟩
mutual
theorem bS5 : ∀ (s : c8) (d : Int) (x : H9), x.2.2 ≤ (Q6 s d x).2.2 ∧ (Q6 s d x).2.2 ≤ x.2.2 + nS s
 | ⟨k, t, i, v, c, b, e⟩, d, x => by
  rw [Q6, nS]
  split
  ·have h := ag7 b (d + 1) (G3 (x.1, x.2.1, x.2.2 + 1) x.2.2 [⟨1, 9 + d, c, 0, 0⟩])
   simp only [G3] at h ⊢
   omega
  ·split
   ·simp only [G3]; omega
   ·split
    ·simp only [G3]; omega
    ·split
     ·simp only [G3]; omega
     ·simp only
      generalize hy : G3 (x.1, x.2.1, x.2.2 + 1) x.2.2 (c6 v 0) = y
      have hy1 : y.2.2 = x.2.2 + 1 := by rw [← hy]; rfl
      have h1 := ag7 b (d + 1) (G3 y x.2.2 [⟨9, 0, 0, 0, 0⟩])
      generalize n5 b (d + 1) (G3 y x.2.2 [⟨9, 0, 0, 0, 0⟩]) = z at h1 ⊢
      have h2 := ag7 e (d + 1) (bu5 (G3 z x.2.2 [⟨8, 0, 0, 0, 0⟩]).1 y.1.length ((G3 z x.2.2 [⟨8, 0, 0, 0, 0⟩]).1.length : Int), (G3 z x.2.2 [⟨8, 0, 0, 0, 0⟩]).2)
      simp only [G3] at h1 h2 ⊢
      omega
theorem ag7 : ∀ (ss : List c8) (d : Int) (x : H9), x.2.2 ≤ (n5 ss d x).2.2 ∧ (n5 ss d x).2.2 ≤ x.2.2 + nSs ss
 | [], _, x => by simp [n5, nSs]
 | s :: r, d, x => by
  have h1 := bS5 s d x
  have h2 := ag7 r d (Q6 s d x)
  rw [n5, nSs]
  omega
end
section
variable {l : List d8} {fr : List Int} {at0 d : Int} {s : c8}
theorem cm1 (k : s.kind = 1) : Q6 s d (l, fr, at0) = (l ++ c6 s.value 0 ++ [⟨3, s.target, 0, 0, 0⟩], fr ++ ca7 (c6 s.value 0).length at0 ++ [at0], at0 + 1) := by
 obtain ⟨kd, tg, ix, vl, ct, bd, el⟩ := s
 have k : kd = 1 := k
 rw [Q6]
 simp only [k, Int.reduceEq, if_true, if_false]
 rfl
theorem cm5 (k : s.kind = 5) : Q6 s d (l, fr, at0) = (l ++ c6 s.value 0 ++ [⟨11, 0, 0, 0, 0⟩] ++ [⟨3, s.target, 0, 0, 0⟩], fr ++ ca7 (c6 s.value 0).length at0 ++ [at0] ++ [at0], at0 + 1) := by
 obtain ⟨kd, tg, ix, vl, ct, bd, el⟩ := s
 have k : kd = 5 := k
 rw [Q6]
 simp only [k, Int.reduceEq, if_true, if_false]
 rfl
theorem cm2 (k : s.kind = 2) : Q6 s d (l, fr, at0) = (l ++ c6 s.value 0 ++ c6 s.index 1 ++ [⟨5, s.target, 1, 0, 0⟩], fr ++ ca7 (c6 s.value 0).length at0 ++ ca7 (c6 s.index 1).length at0 ++ [at0], at0 + 1) := by
 obtain ⟨kd, tg, ix, vl, ct, bd, el⟩ := s
 have k : kd = 2 := k
 rw [Q6]
 simp only [k, Int.reduceEq, if_true, if_false]
 rfl
theorem cm4 (k : s.kind = 4) : Q6 s d (l, fr, at0) = ((n5 s.body (d + 1) (l ++ [⟨1, 9 + d, s.count, 0, 0⟩], fr ++ [at0], at0 + 1)).1 ++ [⟨10, 9 + d, (((l ++ [(⟨1, 9 + d, s.count, 0, 0⟩ : d8)]).length : Nat) : Int), 0, 0⟩], (n5 s.body (d + 1) (l ++ [⟨1, 9 + d, s.count, 0, 0⟩], fr ++ [at0], at0 + 1)).2.1 ++ [at0], (n5 s.body (d + 1) (l ++ [⟨1, 9 + d, s.count, 0, 0⟩], fr ++ [at0], at0 + 1)).2.2) := by
 obtain ⟨kd, tg, ix, vl, ct, bd, el⟩ := s
 have k : kd = 4 := k
 rw [Q6]
 simp only [k, if_true, cb2, cb8, cc1]
 rfl
abbrev w3C (l : List d8) (fr : List Int) (at0 d : Int) (s : c8) : H9 := n5 s.body (d + 1) (l ++ c6 s.value 0 ++ [⟨9, 0, 0, 0, 0⟩], fr ++ ca7 (c6 s.value 0).length at0 ++ [at0], at0 + 1)
abbrev w6C (l : List d8) (fr : List Int) (at0 d : Int) (s : c8) : H9 := n5 s.els (d + 1) (bu5 ((w3C l fr at0 d s).1 ++ [⟨8, 0, 0, 0, 0⟩]) (l ++ c6 s.value 0).length ((((w3C l fr at0 d s).1 ++ [(⟨8, 0, 0, 0, 0⟩ : d8)]).length : Nat) : Int), (w3C l fr at0 d s).2.1 ++ [at0], (w3C l fr at0 d s).2.2)
theorem cm3 (k : s.kind = 3) : Q6 s d (l, fr, at0) = (bP1 (w6C l fr at0 d s).1 (w3C l fr at0 d s).1.length (((w6C l fr at0 d s).1.length : Nat) : Int), (w6C l fr at0 d s).2.1, (w6C l fr at0 d s).2.2) := by
 obtain ⟨kd, tg, ix, vl, ct, bd, el⟩ := s
 have k : kd = 3 := k
 rw [Q6]
 simp only [k, Int.reduceEq, if_false, G3, cb2, cb8, cc1, Nat.add_sub_cancel, cf2, List.replicate_one, w6C, w3C]
 rfl
theorem ag6 (ss : List c8) (d : Int) (x : H9) : (n5 ss d x).1.length = x.1.length + aH0 ss := (K7 ss d x).1
theorem bZ6 (h : l.length + (4 + 4 * szS s) ≤ 5000000) : l.length + T2 s.value ≤ 5000000 ∧ (0 : Int) + T2 s.value ≤ 2000000 ∧ (l ++ c6 s.value 0).length + T2 s.index ≤ 5000000 ∧ (1 : Int) + T2 s.index ≤ 2000000 ∧ (l ++ c6 s.value 0 ++ c6 s.index 1).length + 4 ≤ 5000010 := by
 have h1 := V3 s.value 0
 have h2 := V3 s.index 1
 have h3 : szS s = T2 s.index + T2 s.value + v7 s.body + v7 s.els := by cases s; rfl
 simp only [cb2]
 omega
end
abbrev O3 (s : c8) (l : List d8) (fr : List Int) (at0 : Int) (d : Int) := n5 s.els (d + 1) (((n5 s.body (d + 1) (l ++ c6 s.value 0 ++ [d8.mk 9 0 0 0 0], fr ++ ca7 (c6 s.value 0).length at0 ++ [at0], at0 + 1)).fst ++ [d8.mk 8 0 0 0 0]).set (l ++ c6 s.value 0).length (d8.mk (((n5 s.body (d + 1) (l ++ c6 s.value 0 ++ [d8.mk 9 0 0 0 0], fr ++ ca7 (c6 s.value 0).length at0 ++ [at0], at0 + 1)).fst ++ [d8.mk 8 0 0 0 0]).getD (l ++ c6 s.value 0).length ca9).op (((n5 s.body (d + 1) (l ++ c6 s.value 0 ++ [d8.mk 9 0 0 0 0], fr ++ ca7 (c6 s.value 0).length at0 ++ [at0], at0 + 1)).fst ++ [d8.mk 8 0 0 0 0]).getD (l ++ c6 s.value 0).length ca9).a (((n5 s.body (d + 1) (l ++ c6 s.value 0 ++ [d8.mk 9 0 0 0 0], fr ++ ca7 (c6 s.value 0).length at0 ++ [at0], at0 + 1)).fst ++ [d8.mk 8 0 0 0 0]).length : Int) (((n5 s.body (d + 1) (l ++ c6 s.value 0 ++ [d8.mk 9 0 0 0 0], fr ++ ca7 (c6 s.value 0).length at0 ++ [at0], at0 + 1)).fst ++ [d8.mk 8 0 0 0 0]).getD (l ++ c6 s.value 0).length ca9).c (((n5 s.body (d + 1) (l ++ c6 s.value 0 ++ [d8.mk 9 0 0 0 0], fr ++ ca7 (c6 s.value 0).length at0 ++ [at0], at0 + 1)).fst ++ [d8.mk 8 0 0 0 0]).getD (l ++ c6 s.value 0).length ca9).d), (n5 s.body (d + 1) (l ++ c6 s.value 0 ++ [d8.mk 9 0 0 0 0], fr ++ ca7 (c6 s.value 0).length at0 ++ [at0], at0 + 1)).snd.fst ++ [at0], (n5 s.body (d + 1) (l ++ c6 s.value 0 ++ [d8.mk 9 0 0 0 0], fr ++ ca7 (c6 s.value 0).length at0 ++ [at0], at0 + 1)).snd.snd)
abbrev D5 (s : c8) (l : List d8) (fr : List Int) (at0 : Int) (d : Int) := n5 s.body (d + 1) (l ++ c6 s.value 0 ++ [d8.mk 9 0 0 0 0], fr ++ ca7 (c6 s.value 0).length at0 ++ [at0], at0 + 1)
abbrev aq5 (s : c8) (l : List d8) (fr : List Int) (at0 : Int) (d : Int) := n5 s.body (d + 1) (l ++ c6 s.value 0 ++ [d8.mk 1 (9 + d) s.count 0 0], fr ++ ca7 (c6 s.value 0).length at0 ++ [at0], at0 + 1)
abbrev af2 (s : c8) (l : List d8) (fr : List Int) (at0 : Int) (d : Int) := n5 s.body (d + 1) (l ++ [d8.mk 1 (9 + d) s.count 0 0], fr ++ [at0], at0 + 1)
abbrev T0 (s : c8) (l : List d8) (fr : List Int) (at0 : Int) (d : Int) : List It := [.dead, .dead, dE s.index.kids, dE s.value.kids, dT s.body, dT s.els, .row 60 (D.instrs (Q6 s d (l, fr, at0)).fst), .row 3 (D.ints (Q6 s d (l, fr, at0)).snd.fst)]
abbrev bq2 (s : c8) (l : List d8) (fr : List Int) (at0 : Int) (d : Int) : It := .row 60 (D.instrs ((O3 s l fr at0 d).fst.set (D5 s l fr at0 d).fst.length (d8.mk ((O3 s l fr at0 d).fst.getD (D5 s l fr at0 d).fst.length ca9).op ((O3 s l fr at0 d).fst.length : Int) ((O3 s l fr at0 d).fst.getD (D5 s l fr at0 d).fst.length ca9).b ((O3 s l fr at0 d).fst.getD (D5 s l fr at0 d).fst.length ca9).c ((O3 s l fr at0 d).fst.getD (D5 s l fr at0 d).fst.length ca9).d)))
abbrev N2 : It := .box [.v (.slice none 0 0), .v (.slice none 0 0), iA 0]
abbrev ac4 (at0 : Int) : It := .box [.ref 9, .ref 10, iA (at0 + 1)]
abbrev aM4 (s : c8) (fr : List Int) (at0 : Int) : It := .row 3 (D.ints (fr ++ ca7 (c6 s.value 0).length at0 ++ [at0]))
abbrev H0 (s : c8) (r0 : List It) : List It := .dead :: .dead :: dE s.index.kids :: dE s.value.kids :: dT s.body :: dT s.els :: r0
abbrev F8 (at0 : Int) (d : Int) (r0 : List (Nat × AV)) : List (Nat × AV) := (2, iA d) :: (3, .ptr 6 0) :: (4, .ptr 7 0) :: (6, .ptr 8 0) :: (7, iA at0) :: r0
theorem aW3 (nv na dd : Nat) (s : c8) (hh : X8 nv na s = true) (hbb : s.body.all (m6 nv na dd) = true) (hbe : s.els.all (m6 nv na dd) = true)
    (ih : ∀ (tt : List c8) (l : List d8) (fr : List Int) (at0 d : Int), tt.all (m6 nv na dd) = true → l.length + 4 * v7 tt ≤ 5000000 → fr.length = l.length → 0 ≤ d → d + dd ≤ 100 → 0 ≤ at0 → at0 + nSs tt ≤ 5000000 → j9.ok Tryz.prog (lrC l fr at0 tt d))
    (l : List d8) (fr : List Int) (at0 d : Int) (r1 : l.length + (4 + 4 * szS s) ≤ 5000000) (r2 : fr.length = l.length) (r3 : 0 ≤ d) (r4 : d + (dd + 1) ≤ 100) (r5 : 0 ≤ at0) (r6 : at0 + nS s ≤ 5000000) : j9.ok Tryz.prog (lqC l fr at0 s d) := by
  refine K9 130 Tryz.func102 [.row 60 (D.instrs l), .row 3 (D.ints fr), dE s.index.kids, dE s.value.kids, dT s.body, dT s.els] [(0, .agg [.ref 0, .ref 1, iA at0]), (1, sA s 2), (2, iA d)] fun G => ?_; have hn := aO9 s; have hft := bZ6 r1
  have hsz : szS s = T2 s.index + T2 s.value + v7 s.body + v7 s.els := by cases s; rfl
  have hv := V3 s.value 0; refine wp_seq (l0 G f8 [0, 1, 2, 3, 4, 5, 6, 14, 22] [.row 60 (D.instrs l), .row 3 (D.ints fr), dE s.index.kids, dE s.value.kids, dT s.body, dT s.els, .box [.ref 0, .ref 1, iA at0], .box (sL s 2), N2] [(2, iA d), (3, .ptr 6 0), (4, .ptr 7 0), (6, .ptr 8 0)] fun G => b0 (wp_seq (m7 G f8 [(7, iA at0)] fun G => b0 (wp_seq (V2 G f8 (rg 9) [.row 60 (D.instrs l), .row 3 (D.ints fr), dE s.index.kids, dE s.value.kids, dT s.body, dT s.els, .box [.ref 0, .ref 1, iA (at0 + 1)], .box (sL s 2), N2] (F8 at0 d []) [wO (at0 + 1)] (o1 (by omega)) fun G => b0 (wp_seq (wp_seq (m7 G f8 [(20, bA (s.kind != 4))] fun G => b0 (rcN G (fun h0 q0 => ?_) fun h0 q0 => ?_)))))))))
  ·
   refine wp_skip (b0 (wp_seq (wp_seq (m7 G f8 [(27, iA s.kind)] fun G => b0 (wp_block (wp_seq (I8 G f8 (F8 at0 d [(27, iA s.kind), (28, bA (s.kind == 1))]) fun G => b0 ?_))))))); cases h1 : (s.kind == 1)
   ·
    have q1 := ne_of_beq_false h1; refine rF G _ h1 (wp_seq (I8 G f8 (F8 at0 d [(27, iA s.kind), (36, bA (s.kind == 5))]) fun G => b0 ?_)); cases h2 : (s.kind == 5)
    ·
     have q2 := ne_of_beq_false h2; refine rF G _ h2 (wp_seq (I8 G f8 (F8 at0 d [(27, iA s.kind), (48, bA (s.kind == 2))]) fun G => b0 ?_)); cases h3 : (s.kind == 2)
     ·
      have q3 := ne_of_beq_false h3; refine rF G _ h3 (wp_seq (I8 G f8 (F8 at0 d [(61, bA (s.kind == 3))]) fun G => b0 ?_)); cases h4 : (s.kind == 3)
      · have q4 := ne_of_beq_false h4; refine rF G _ h4 (wp_skip (t5 (b0 (wp_seq (O0 G f8 [(10, iA (9 + d))] [wO ((9 : Int) + d)] (o1 (by omega)) fun G => b0 (wp_seq (l0 G (A4 6 [0, 1] (F7 l fr (at0 + 1) at0 1 (9 + d) s.count 0 0 (by omega) (by omega))) [0, 1, 2, 3, 4, 5, 6, 7, 8, 57, 58] (H0 s [ac4 at0, .box (sL s 2), N2, .row 60 (D.instrs (l ++ [d8.mk 1 (9 + d) s.count 0 0])), .row 3 (D.ints (fr ++ [at0]))]) (F8 at0 d [(10, iA (9 + d))]) fun G => b0 (wp_seq (m7 G f8 [(11, iA ((l ++ [d8.mk 1 (9 + d) s.count 0 0]).length : Int))] fun G => b0 (wp_seq (V2 G (A4 5 [9, 10, 4] (ih s.body (l ++ [d8.mk 1 (9 + d) s.count 0 0]) (fr ++ [at0]) (at0 + 1) (d + 1) (by assumption) (by simp only [cb2, cd0, cb8, cc1, r2]; have := hft.2.2.2.2; simp only [cb2] at this; omega) (by have := hft.2.2.2.2; simp only [cb2, cb8, cc1] at this ⊢; omega) (by omega) (by omega) (by omega) (by omega))) [0, 1, 2, 3, 4, 5, 6, 8, 51, 52] (H0 s [.box [.ref 8, .ref 9, iA (af2 s l fr at0 d).snd.snd], N2, .row 60 (D.instrs (af2 s l fr at0 d).fst), .row 3 (D.ints (af2 s l fr at0 d).snd.fst)]) [(3, .ptr 6 0), (6, .ptr 7 0), (7, iA at0), (10, iA (9 + d)), (11, iA ((l ++ [d8.mk 1 (9 + d) s.count 0 0]).length : Int))] [wO (d + 1)] (o1 (by omega)) fun G => b0 (wp_seq (l0 G (A4 5 [8, 9] (F7 ((n5 s.body (d + 1) (l ++ [d8.mk 1 (9 + d) s.count 0 0], fr ++ [at0], at0 + 1)).fst) ((n5 s.body (d + 1) (l ++ [d8.mk 1 (9 + d) s.count 0 0], fr ++ [at0], at0 + 1)).snd.fst) ((n5 s.body (d + 1) (l ++ [d8.mk 1 (9 + d) s.count 0 0], fr ++ [at0], at0 + 1)).snd.snd) at0 10 (9 + d) (((l ++ [d8.mk 1 (9 + d) s.count 0 0]).length : Int)) 0 0 (by have := (K7 s.body (d + 1) (l ++ [⟨1, 9 + d, s.count, 0, 0⟩], fr ++ [at0], at0 + 1)); have := O9 s.body; simp only [cb2, cb8, cc1] at *; omega) (by have := (K7 s.body (d + 1) (l ++ [⟨1, 9 + d, s.count, 0, 0⟩], fr ++ [at0], at0 + 1)); have := O9 s.body; simp only [cb2, cb8, cc1] at *; omega))) [0, 1, 2, 3, 4, 5, 7, 50, 51] (H0 s [.box [.ref 7, .ref 8, iA (af2 s l fr at0 d).snd.snd], .row 60 (D.instrs ((af2 s l fr at0 d).fst ++ [d8.mk 10 (9 + d) ((l ++ [d8.mk 1 (9 + d) s.count 0 0]).length : Int) 0 0])), .row 3 (D.ints ((af2 s l fr at0 d).snd.fst ++ [at0]))]) [(6, .ptr 6 0)] fun G => b0 (wp_ret ?_)))))))))))))); exact rxv (.agg [.ref 7, .ref 8, iA (n5 s.body (d + 1) (l ++ [d8.mk 1 (9 + d) s.count 0 0], fr ++ [at0], at0 + 1)).snd.snd]) G [0, 1, 2, 3, 4, 5, 7, 8] (by have e1 : ((Q6 s d (l, fr, at0)).snd.snd : Int) = ((n5 s.body (d + 1) (l ++ [d8.mk 1 (9 + d) s.count 0 0], fr ++ [at0], at0 + 1)).snd.snd) := (by have h9 := congrArg (fun x : H9 => x.2.2) (cm4 (l := l) (fr := fr) (at0 := at0) (d := d) (s := s) (by omega)); exact h9); (first | rw [e1] | simp only [e1]) <;> rfl) (by show _ = mR [0, 1, 2, 3, 4, 5, 7, 8] (T0 s l fr at0 d); unfold T0; have e1 : ((Q6 s d (l, fr, at0)).fst : List d8) = ((af2 s l fr at0 d).fst ++ [d8.mk 10 (9 + d) ((l ++ [d8.mk 1 (9 + d) s.count 0 0]).length : Int) 0 0]) := (congrArg Prod.fst (cm4 (by omega))); have e2 : ((Q6 s d (l, fr, at0)).snd.fst : List Int) = ((af2 s l fr at0 d).snd.fst ++ [at0]) := (congrArg (fun x : H9 => x.2.1) (cm4 (by omega))); (first | rw [e1, e2] | simp only [e1, e2]) <;> rfl)
      · have q4 := eq_of_beq h4; exact False.elim (by omega)
     · have q3 := eq_of_beq h3; exact False.elim (by omega)
    · have q2 := eq_of_beq h2; exact False.elim (by omega)
   · have q1 := eq_of_beq h1; exact False.elim (by omega)
  ·
   refine l0 G (A4 4 [0, 1, 3] (a29 s.value l fr (at0 + 1) at0 0 (by omega) (by omega) (by omega) (by assumption))) [0, 1, 2, 3, 4, 5, 6, 7, 8, 41, 42] (H0 s [ac4 at0, .box (sL s 2), N2, .row 60 (D.instrs (l ++ c6 s.value 0)), .row 3 (D.ints (fr ++ ca7 (c6 s.value 0).length at0))]) (F8 at0 d []) fun G => b0 (wp_seq (wp_seq (m7 G f8 [(27, iA s.kind)] fun G => b0 (wp_block (wp_seq (m7 G f8 [(28, bA (s.kind == 1))] fun G => b0 (rcE G (fun h5 q5 => ?_) fun h5 q5 => ?_)))))))
   ·
    refine wp_seq (m7 G f8 [(36, bA (s.kind == 5))] fun G => b0 (rcE G (fun h6 q6 => ?_) fun h6 q6 => ?_))
    ·
     refine wp_seq (m7 G f8 [(48, bA (s.kind == 2))] fun G => b0 (rcE G (fun h7 q7 => ?_) fun h7 q7 => ?_))
     ·
      refine wp_seq (m7 G f8 [(61, bA (s.kind == 3))] fun G => b0 (rcE G (fun h8 q8 => ?_) fun h8 q8 => ?_))
      · refine wp_skip (t5 (b0 (wp_seq (O0 G f8 [(10, iA (9 + d))] [wO ((9 : Int) + d)] (o1 (by omega)) fun G => b0 (wp_seq (l0 G (A4 6 [9, 10] (F7 (l ++ c6 s.value 0) (fr ++ ca7 (c6 s.value 0).length at0) (at0 + 1) at0 1 (9 + d) s.count 0 0 (by omega) (by simp only [cb2, cd0, cb8, cc1, r2]; have := hft.2.2.2.2; simp only [cb2] at this; omega))) [0, 1, 2, 3, 4, 5, 6, 7, 8, 59, 60] (H0 s [ac4 at0, .box (sL s 2), N2, .row 60 (D.instrs (l ++ c6 s.value 0 ++ [d8.mk 1 (9 + d) s.count 0 0])), aM4 s fr at0]) (F8 at0 d [(10, iA (9 + d))]) fun G => b0 (wp_seq (m7 G f8 [(11, iA ((l ++ c6 s.value 0 ++ [d8.mk 1 (9 + d) s.count 0 0]).length : Int))] fun G => b0 (wp_seq (V2 G (A4 5 [9, 10, 4] (ih s.body (l ++ c6 s.value 0 ++ [d8.mk 1 (9 + d) s.count 0 0]) (fr ++ ca7 (c6 s.value 0).length at0 ++ [at0]) (at0 + 1) (d + 1) (by assumption) (by simp only [cb2, cd0, cb8, cc1, r2]; have := hft.2.2.2.2; simp only [cb2] at this; omega) (by exact absurd (hh.symm.trans (aD3 (by omega))) (by decide)) (by omega) (by omega) (by omega) (by omega))) [0, 1, 2, 3, 4, 5, 6, 8, 51, 52] (H0 s [.box [.ref 8, .ref 9, iA (aq5 s l fr at0 d).snd.snd], N2, .row 60 (D.instrs (aq5 s l fr at0 d).fst), .row 3 (D.ints (aq5 s l fr at0 d).snd.fst)]) [(3, .ptr 6 0), (6, .ptr 7 0), (7, iA at0), (10, iA (9 + d)), (11, iA ((l ++ c6 s.value 0 ++ [d8.mk 1 (9 + d) s.count 0 0]).length : Int))] [wO (d + 1)] (o1 (by omega)) fun G => b0 (wp_seq (l0 G (A4 5 [8, 9] (F7 ((n5 s.body (d + 1) (l ++ c6 s.value 0 ++ [d8.mk 1 (9 + d) s.count 0 0], fr ++ ca7 (c6 s.value 0).length at0 ++ [at0], at0 + 1)).fst) ((n5 s.body (d + 1) (l ++ c6 s.value 0 ++ [d8.mk 1 (9 + d) s.count 0 0], fr ++ ca7 (c6 s.value 0).length at0 ++ [at0], at0 + 1)).snd.fst) ((n5 s.body (d + 1) (l ++ c6 s.value 0 ++ [d8.mk 1 (9 + d) s.count 0 0], fr ++ ca7 (c6 s.value 0).length at0 ++ [at0], at0 + 1)).snd.snd) at0 10 (9 + d) (((l ++ c6 s.value 0 ++ [d8.mk 1 (9 + d) s.count 0 0]).length : Int)) 0 0 (by exact absurd (hh.symm.trans (aD3 (by omega))) (by decide)) (by exact absurd (hh.symm.trans (aD3 (by omega))) (by decide)))) [0, 1, 2, 3, 4, 5, 7, 50, 51] (H0 s [.box [.ref 7, .ref 8, iA (aq5 s l fr at0 d).snd.snd], .row 60 (D.instrs ((aq5 s l fr at0 d).fst ++ [d8.mk 10 (9 + d) ((l ++ c6 s.value 0 ++ [d8.mk 1 (9 + d) s.count 0 0]).length : Int) 0 0])), .row 3 (D.ints ((aq5 s l fr at0 d).snd.fst ++ [at0]))]) [(6, .ptr 6 0)] fun G => b0 (wp_ret ?_))))))))))))); exact rxv (.agg [.ref 7, .ref 8, iA (n5 s.body (d + 1) (l ++ c6 s.value 0 ++ [d8.mk 1 (9 + d) s.count 0 0], fr ++ ca7 (c6 s.value 0).length at0 ++ [at0], at0 + 1)).snd.snd]) G [0, 1, 2, 3, 4, 5, 7, 8] (by have e1 : ((Q6 s d (l, fr, at0)).snd.snd : Int) = ((n5 s.body (d + 1) (l ++ c6 s.value 0 ++ [d8.mk 1 (9 + d) s.count 0 0], fr ++ ca7 (c6 s.value 0).length at0 ++ [at0], at0 + 1)).snd.snd) := (by exact absurd (hh.symm.trans (aD3 (by omega))) (by decide)); (first | rw [e1] | simp only [e1]) <;> rfl) (by show _ = mR [0, 1, 2, 3, 4, 5, 7, 8] (T0 s l fr at0 d); unfold T0; have e1 : ((Q6 s d (l, fr, at0)).fst : List d8) = ((n5 s.body (d + 1) (l ++ c6 s.value 0 ++ [d8.mk 1 (9 + d) s.count 0 0], fr ++ ca7 (c6 s.value 0).length at0 ++ [at0], at0 + 1)).fst ++ [d8.mk 10 (9 + d) ((l ++ c6 s.value 0 ++ [d8.mk 1 (9 + d) s.count 0 0]).length : Int) 0 0]) := (by exact absurd (hh.symm.trans (aD3 (by omega))) (by decide)); have e2 : ((Q6 s d (l, fr, at0)).snd.fst : List Int) = ((n5 s.body (d + 1) (l ++ c6 s.value 0 ++ [d8.mk 1 (9 + d) s.count 0 0], fr ++ ca7 (c6 s.value 0).length at0 ++ [at0], at0 + 1)).snd.fst ++ [at0]) := (by exact absurd (hh.symm.trans (aD3 (by omega))) (by decide)); (first | rw [e1, e2] | simp only [e1, e2]) <;> rfl)
      ·
       refine wp_seq (m7 G f8 [(8, iA ((l ++ c6 s.value 0).length : Int))] fun G => b0 (wp_seq (l0 G (A4 3 [9, 10] (F7 (l ++ c6 s.value 0) (fr ++ ca7 (c6 s.value 0).length at0) (at0 + 1) at0 9 0 0 0 0 (by omega) (by simp only [cb2, cd0, cb8, cc1, r2]; have := hft.2.2.2.2; simp only [cb2] at this; omega))) [0, 1, 2, 3, 4, 5, 6, 7, 8, 35, 36] (H0 s [ac4 at0, .box (sL s 2), N2, .row 60 (D.instrs (l ++ c6 s.value 0 ++ [d8.mk 9 0 0 0 0])), aM4 s fr at0]) (F8 at0 d [(8, iA ((l ++ c6 s.value 0).length : Int))]) fun G => b0 (wp_seq (V2 G (A4 5 [9, 10, 4] (ih s.body (l ++ c6 s.value 0 ++ [d8.mk 9 0 0 0 0]) (fr ++ ca7 (c6 s.value 0).length at0 ++ [at0]) (at0 + 1) (d + 1) (by assumption) (by simp only [cb2, cd0, cb8, cc1, r2]; have := hft.2.2.2.2; simp only [cb2] at this; omega) (by simp; omega) (by omega) (by omega) (by omega) (by omega))) [0, 1, 2, 3, 4, 5, 6, 7, 8, 51, 52] (H0 s [.box [.ref 9, .ref 10, iA (D5 s l fr at0 d).snd.snd], .box (sL s 2), N2, .row 60 (D.instrs (D5 s l fr at0 d).fst), .row 3 (D.ints (D5 s l fr at0 d).snd.fst)]) (F8 at0 d [(8, iA ((l ++ c6 s.value 0).length : Int))]) [wO (d + 1)] (o1 (by omega)) fun G => b0 (wp_seq (m7 G f8 [(9, iA ((D5 s l fr at0 d).fst.length : Int))] fun G => b0 (wp_seq (l0 G (A4 3 [9, 10] (F7 ((n5 s.body (d + 1) (l ++ c6 s.value 0 ++ [d8.mk 9 0 0 0 0], fr ++ ca7 (c6 s.value 0).length at0 ++ [at0], at0 + 1)).fst) ((n5 s.body (d + 1) (l ++ c6 s.value 0 ++ [d8.mk 9 0 0 0 0], fr ++ ca7 (c6 s.value 0).length at0 ++ [at0], at0 + 1)).snd.fst) ((n5 s.body (d + 1) (l ++ c6 s.value 0 ++ [d8.mk 9 0 0 0 0], fr ++ ca7 (c6 s.value 0).length at0 ++ [at0], at0 + 1)).snd.snd) at0 8 0 0 0 0 (by have h9 := K7 s.body (d + 1) (l ++ c6 s.value 0 ++ [⟨9, 0, 0, 0, 0⟩], fr ++ ca7 (c6 s.value 0).length at0 ++ [at0], at0 + 1); have h8 := O9 s.body; simp only [cb2, cb8, cc1, cd0, cd2, r2] at h9 ⊢; omega) (by have h9 := K7 s.body (d + 1) (l ++ c6 s.value 0 ++ [⟨9, 0, 0, 0, 0⟩], fr ++ ca7 (c6 s.value 0).length at0 ++ [at0], at0 + 1); have h8 := O9 s.body; simp only [cb2, cb8, cc1, cd0, cd2, r2] at h9 ⊢; omega))) [0, 1, 2, 3, 4, 5, 6, 7, 8, 35, 36] (H0 s [.box [.ref 9, .ref 10, iA (D5 s l fr at0 d).snd.snd], .box (sL s 2), N2, .row 60 (D.instrs ((D5 s l fr at0 d).fst ++ [d8.mk 8 0 0 0 0])), .row 3 (D.ints ((D5 s l fr at0 d).snd.fst ++ [at0]))]) (F8 at0 d [(8, iA ((l ++ c6 s.value 0).length : Int)), (9, iA ((D5 s l fr at0 d).fst.length : Int))]) fun G => b0 (wp_seq (V2 G f8 (rg 11) (H0 s [.box [.ref 9, .ref 10, iA (D5 s l fr at0 d).snd.snd], .box (sL s 2), N2, .row 60 (D.instrs (((D5 s l fr at0 d).fst ++ [d8.mk 8 0 0 0 0]).set (l ++ c6 s.value 0).length (d8.mk (((D5 s l fr at0 d).fst ++ [d8.mk 8 0 0 0 0]).getD (l ++ c6 s.value 0).length ca9).op (((D5 s l fr at0 d).fst ++ [d8.mk 8 0 0 0 0]).getD (l ++ c6 s.value 0).length ca9).a (((D5 s l fr at0 d).fst ++ [d8.mk 8 0 0 0 0]).length : Int) (((D5 s l fr at0 d).fst ++ [d8.mk 8 0 0 0 0]).getD (l ++ c6 s.value 0).length ca9).c (((D5 s l fr at0 d).fst ++ [d8.mk 8 0 0 0 0]).getD (l ++ c6 s.value 0).length ca9).d))), .row 3 (D.ints ((D5 s l fr at0 d).snd.fst ++ [at0]))]) (F8 at0 d [(9, iA ((D5 s l fr at0 d).fst.length : Int))]) [(0 : Int) ≤ ((l ++ c6 s.value (0 : Int)).length : Int), ((l ++ c6 s.value (0 : Int)).length : Int) < (((n5 s.body (d + 1) (l ++ c6 s.value (0 : Int) ++ [d8.mk (9 : Int) (0 : Int) (0 : Int) (0 : Int) (0 : Int)], fr ++ ca7 (c6 s.value (0 : Int)).length at0 ++ [at0], at0 + 1)).fst ++ [d8.mk (8 : Int) (0 : Int) (0 : Int) (0 : Int) (0 : Int)]).length : Int), (l ++ c6 s.value (0 : Int)).length < ((n5 s.body (d + 1) (l ++ c6 s.value (0 : Int) ++ [d8.mk (9 : Int) (0 : Int) (0 : Int) (0 : Int) (0 : Int)], fr ++ ca7 (c6 s.value (0 : Int)).length at0 ++ [at0], at0 + 1)).fst ++ [d8.mk (8 : Int) (0 : Int) (0 : Int) (0 : Int) (0 : Int)]).length] ⟨(by omega), (by simp only [ag6, cd2, cb2, cb8, cc1]; omega), (by simp only [ag6, cd2, cb2, cb8, cc1]; omega), cc2⟩ fun G => ?_)))))))))))
       refine b0 (wp_seq (V2 G (A4 5 [9, 10, 5] (ih s.els (((n5 s.body (d + 1) (l ++ c6 s.value 0 ++ [d8.mk 9 0 0 0 0], fr ++ ca7 (c6 s.value 0).length at0 ++ [at0], at0 + 1)).fst ++ [d8.mk 8 0 0 0 0]).set (l ++ c6 s.value 0).length (d8.mk (((n5 s.body (d + 1) (l ++ c6 s.value 0 ++ [d8.mk 9 0 0 0 0], fr ++ ca7 (c6 s.value 0).length at0 ++ [at0], at0 + 1)).fst ++ [d8.mk 8 0 0 0 0]).getD (l ++ c6 s.value 0).length ca9).op (((n5 s.body (d + 1) (l ++ c6 s.value 0 ++ [d8.mk 9 0 0 0 0], fr ++ ca7 (c6 s.value 0).length at0 ++ [at0], at0 + 1)).fst ++ [d8.mk 8 0 0 0 0]).getD (l ++ c6 s.value 0).length ca9).a (((n5 s.body (d + 1) (l ++ c6 s.value 0 ++ [d8.mk 9 0 0 0 0], fr ++ ca7 (c6 s.value 0).length at0 ++ [at0], at0 + 1)).fst ++ [d8.mk 8 0 0 0 0]).length : Int) (((n5 s.body (d + 1) (l ++ c6 s.value 0 ++ [d8.mk 9 0 0 0 0], fr ++ ca7 (c6 s.value 0).length at0 ++ [at0], at0 + 1)).fst ++ [d8.mk 8 0 0 0 0]).getD (l ++ c6 s.value 0).length ca9).c (((n5 s.body (d + 1) (l ++ c6 s.value 0 ++ [d8.mk 9 0 0 0 0], fr ++ ca7 (c6 s.value 0).length at0 ++ [at0], at0 + 1)).fst ++ [d8.mk 8 0 0 0 0]).getD (l ++ c6 s.value 0).length ca9).d)) ((n5 s.body (d + 1) (l ++ c6 s.value 0 ++ [d8.mk 9 0 0 0 0], fr ++ ca7 (c6 s.value 0).length at0 ++ [at0], at0 + 1)).snd.fst ++ [at0]) ((n5 s.body (d + 1) (l ++ c6 s.value 0 ++ [d8.mk 9 0 0 0 0], fr ++ ca7 (c6 s.value 0).length at0 ++ [at0], at0 + 1)).snd.snd) (d + 1) (by assumption) (by have h9 := K7 s.body (d + 1) (l ++ c6 s.value 0 ++ [⟨9, 0, 0, 0, 0⟩], fr ++ ca7 (c6 s.value 0).length at0 ++ [at0], at0 + 1); have h8 := O9 s.body; simp only [cb2, cb8, cc1, cd0, cd2, r2] at h9 ⊢; omega) (by have h9 := K7 s.body (d + 1) (l ++ c6 s.value 0 ++ [⟨9, 0, 0, 0, 0⟩], fr ++ ca7 (c6 s.value 0).length at0 ++ [at0], at0 + 1); have h8 := O9 s.body; simp only [cb2, cb8, cc1, cd0, cd2, r2] at h9 ⊢; omega) (by omega) (by omega) (by have h9 := ag7 s.body (d + 1) (l ++ c6 s.value 0 ++ [⟨9, 0, 0, 0, 0⟩], fr ++ ca7 (c6 s.value 0).length at0 ++ [at0], at0 + 1); simp only at h9; omega) (by have h9 := ag7 s.body (d + 1) (l ++ c6 s.value 0 ++ [⟨9, 0, 0, 0, 0⟩], fr ++ ca7 (c6 s.value 0).length at0 ++ [at0], at0 + 1); simp only at h9; omega))) [0, 1, 2, 3, 4, 5, 6, 7, 8, 51, 52] (H0 s [.box [.ref 9, .ref 10, iA (O3 s l fr at0 d).snd.snd], .box (sL s 2), N2, .row 60 (D.instrs (O3 s l fr at0 d).fst), .row 3 (D.ints (O3 s l fr at0 d).snd.fst)]) (F8 at0 d [(9, iA ((D5 s l fr at0 d).fst.length : Int))]) [wO (d + 1)] (o1 (by omega)) fun G => b0 (wp_seq (V2 G f8 (rg 11) (H0 s [.box [.ref 9, .ref 10, iA (O3 s l fr at0 d).snd.snd], .box (sL s 2), N2, bq2 s l fr at0 d, .row 3 (D.ints (O3 s l fr at0 d).snd.fst)]) (F8 at0 d []) [(0 : Int) ≤ ((n5 s.body (d + 1) (l ++ c6 s.value (0 : Int) ++ [d8.mk (9 : Int) (0 : Int) (0 : Int) (0 : Int) (0 : Int)], fr ++ ca7 (c6 s.value (0 : Int)).length at0 ++ [at0], at0 + 1)).fst.length : Int), ((n5 s.body (d + 1) (l ++ c6 s.value (0 : Int) ++ [d8.mk (9 : Int) (0 : Int) (0 : Int) (0 : Int) (0 : Int)], fr ++ ca7 (c6 s.value (0 : Int)).length at0 ++ [at0], at0 + 1)).fst.length : Int) < ((n5 s.els (d + 1) (((n5 s.body (d + 1) (l ++ c6 s.value (0 : Int) ++ [d8.mk (9 : Int) (0 : Int) (0 : Int) (0 : Int) (0 : Int)], fr ++ ca7 (c6 s.value (0 : Int)).length at0 ++ [at0], at0 + 1)).fst ++ [d8.mk (8 : Int) (0 : Int) (0 : Int) (0 : Int) (0 : Int)]).set (l ++ c6 s.value (0 : Int)).length (d8.mk (((n5 s.body (d + 1) (l ++ c6 s.value (0 : Int) ++ [d8.mk (9 : Int) (0 : Int) (0 : Int) (0 : Int) (0 : Int)], fr ++ ca7 (c6 s.value (0 : Int)).length at0 ++ [at0], at0 + 1)).fst ++ [d8.mk (8 : Int) (0 : Int) (0 : Int) (0 : Int) (0 : Int)]).getD (l ++ c6 s.value (0 : Int)).length ca9).op (((n5 s.body (d + 1) (l ++ c6 s.value (0 : Int) ++ [d8.mk (9 : Int) (0 : Int) (0 : Int) (0 : Int) (0 : Int)], fr ++ ca7 (c6 s.value (0 : Int)).length at0 ++ [at0], at0 + 1)).fst ++ [d8.mk (8 : Int) (0 : Int) (0 : Int) (0 : Int) (0 : Int)]).getD (l ++ c6 s.value (0 : Int)).length ca9).a (((n5 s.body (d + 1) (l ++ c6 s.value (0 : Int) ++ [d8.mk (9 : Int) (0 : Int) (0 : Int) (0 : Int) (0 : Int)], fr ++ ca7 (c6 s.value (0 : Int)).length at0 ++ [at0], at0 + 1)).fst ++ [d8.mk (8 : Int) (0 : Int) (0 : Int) (0 : Int) (0 : Int)]).length : Int) (((n5 s.body (d + 1) (l ++ c6 s.value (0 : Int) ++ [d8.mk (9 : Int) (0 : Int) (0 : Int) (0 : Int) (0 : Int)], fr ++ ca7 (c6 s.value (0 : Int)).length at0 ++ [at0], at0 + 1)).fst ++ [d8.mk (8 : Int) (0 : Int) (0 : Int) (0 : Int) (0 : Int)]).getD (l ++ c6 s.value (0 : Int)).length ca9).c (((n5 s.body (d + 1) (l ++ c6 s.value (0 : Int) ++ [d8.mk (9 : Int) (0 : Int) (0 : Int) (0 : Int) (0 : Int)], fr ++ ca7 (c6 s.value (0 : Int)).length at0 ++ [at0], at0 + 1)).fst ++ [d8.mk (8 : Int) (0 : Int) (0 : Int) (0 : Int) (0 : Int)]).getD (l ++ c6 s.value (0 : Int)).length ca9).d), (n5 s.body (d + 1) (l ++ c6 s.value (0 : Int) ++ [d8.mk (9 : Int) (0 : Int) (0 : Int) (0 : Int) (0 : Int)], fr ++ ca7 (c6 s.value (0 : Int)).length at0 ++ [at0], at0 + 1)).snd.fst ++ [at0], (n5 s.body (d + 1) (l ++ c6 s.value (0 : Int) ++ [d8.mk (9 : Int) (0 : Int) (0 : Int) (0 : Int) (0 : Int)], fr ++ ca7 (c6 s.value (0 : Int)).length at0 ++ [at0], at0 + 1)).snd.snd)).fst.length : Int), (n5 s.body (d + 1) (l ++ c6 s.value (0 : Int) ++ [d8.mk (9 : Int) (0 : Int) (0 : Int) (0 : Int) (0 : Int)], fr ++ ca7 (c6 s.value (0 : Int)).length at0 ++ [at0], at0 + 1)).fst.length < (n5 s.els (d + 1) (((n5 s.body (d + 1) (l ++ c6 s.value (0 : Int) ++ [d8.mk (9 : Int) (0 : Int) (0 : Int) (0 : Int) (0 : Int)], fr ++ ca7 (c6 s.value (0 : Int)).length at0 ++ [at0], at0 + 1)).fst ++ [d8.mk (8 : Int) (0 : Int) (0 : Int) (0 : Int) (0 : Int)]).set (l ++ c6 s.value (0 : Int)).length (d8.mk (((n5 s.body (d + 1) (l ++ c6 s.value (0 : Int) ++ [d8.mk (9 : Int) (0 : Int) (0 : Int) (0 : Int) (0 : Int)], fr ++ ca7 (c6 s.value (0 : Int)).length at0 ++ [at0], at0 + 1)).fst ++ [d8.mk (8 : Int) (0 : Int) (0 : Int) (0 : Int) (0 : Int)]).getD (l ++ c6 s.value (0 : Int)).length ca9).op (((n5 s.body (d + 1) (l ++ c6 s.value (0 : Int) ++ [d8.mk (9 : Int) (0 : Int) (0 : Int) (0 : Int) (0 : Int)], fr ++ ca7 (c6 s.value (0 : Int)).length at0 ++ [at0], at0 + 1)).fst ++ [d8.mk (8 : Int) (0 : Int) (0 : Int) (0 : Int) (0 : Int)]).getD (l ++ c6 s.value (0 : Int)).length ca9).a (((n5 s.body (d + 1) (l ++ c6 s.value (0 : Int) ++ [d8.mk (9 : Int) (0 : Int) (0 : Int) (0 : Int) (0 : Int)], fr ++ ca7 (c6 s.value (0 : Int)).length at0 ++ [at0], at0 + 1)).fst ++ [d8.mk (8 : Int) (0 : Int) (0 : Int) (0 : Int) (0 : Int)]).length : Int) (((n5 s.body (d + 1) (l ++ c6 s.value (0 : Int) ++ [d8.mk (9 : Int) (0 : Int) (0 : Int) (0 : Int) (0 : Int)], fr ++ ca7 (c6 s.value (0 : Int)).length at0 ++ [at0], at0 + 1)).fst ++ [d8.mk (8 : Int) (0 : Int) (0 : Int) (0 : Int) (0 : Int)]).getD (l ++ c6 s.value (0 : Int)).length ca9).c (((n5 s.body (d + 1) (l ++ c6 s.value (0 : Int) ++ [d8.mk (9 : Int) (0 : Int) (0 : Int) (0 : Int) (0 : Int)], fr ++ ca7 (c6 s.value (0 : Int)).length at0 ++ [at0], at0 + 1)).fst ++ [d8.mk (8 : Int) (0 : Int) (0 : Int) (0 : Int) (0 : Int)]).getD (l ++ c6 s.value (0 : Int)).length ca9).d), (n5 s.body (d + 1) (l ++ c6 s.value (0 : Int) ++ [d8.mk (9 : Int) (0 : Int) (0 : Int) (0 : Int) (0 : Int)], fr ++ ca7 (c6 s.value (0 : Int)).length at0 ++ [at0], at0 + 1)).snd.fst ++ [at0], (n5 s.body (d + 1) (l ++ c6 s.value (0 : Int) ++ [d8.mk (9 : Int) (0 : Int) (0 : Int) (0 : Int) (0 : Int)], fr ++ ca7 (c6 s.value (0 : Int)).length at0 ++ [at0], at0 + 1)).snd.snd)).fst.length] ⟨(by omega), (by simp only [ag6, cd2, cb2, cb8, cc1]; omega), (by simp only [ag6, cd2, cb2, cb8, cc1]; omega), cc2⟩ fun G => ?_))))
       refine b0 (wp_seq (l0 G f8 (rg 11) (H0 s [.box [.ref 9, .ref 10, iA (O3 s l fr at0 d).snd.snd], .box (sL s 2), .box [.ref 9, .ref 10, iA (O3 s l fr at0 d).snd.snd], bq2 s l fr at0 d, .row 3 (D.ints (O3 s l fr at0 d).snd.fst)]) (F8 at0 d []) fun G => b0 (wp_ret (E5 (o5 ?_))))); exact rxv (.agg [.ref 9, .ref 10, iA (n5 s.els (d + 1) (((n5 s.body (d + 1) (l ++ c6 s.value 0 ++ [d8.mk 9 0 0 0 0], fr ++ ca7 (c6 s.value 0).length at0 ++ [at0], at0 + 1)).fst ++ [d8.mk 8 0 0 0 0]).set (l ++ c6 s.value 0).length (d8.mk (((n5 s.body (d + 1) (l ++ c6 s.value 0 ++ [d8.mk 9 0 0 0 0], fr ++ ca7 (c6 s.value 0).length at0 ++ [at0], at0 + 1)).fst ++ [d8.mk 8 0 0 0 0]).getD (l ++ c6 s.value 0).length ca9).op (((n5 s.body (d + 1) (l ++ c6 s.value 0 ++ [d8.mk 9 0 0 0 0], fr ++ ca7 (c6 s.value 0).length at0 ++ [at0], at0 + 1)).fst ++ [d8.mk 8 0 0 0 0]).getD (l ++ c6 s.value 0).length ca9).a (((n5 s.body (d + 1) (l ++ c6 s.value 0 ++ [d8.mk 9 0 0 0 0], fr ++ ca7 (c6 s.value 0).length at0 ++ [at0], at0 + 1)).fst ++ [d8.mk 8 0 0 0 0]).length : Int) (((n5 s.body (d + 1) (l ++ c6 s.value 0 ++ [d8.mk 9 0 0 0 0], fr ++ ca7 (c6 s.value 0).length at0 ++ [at0], at0 + 1)).fst ++ [d8.mk 8 0 0 0 0]).getD (l ++ c6 s.value 0).length ca9).c (((n5 s.body (d + 1) (l ++ c6 s.value 0 ++ [d8.mk 9 0 0 0 0], fr ++ ca7 (c6 s.value 0).length at0 ++ [at0], at0 + 1)).fst ++ [d8.mk 8 0 0 0 0]).getD (l ++ c6 s.value 0).length ca9).d), (n5 s.body (d + 1) (l ++ c6 s.value 0 ++ [d8.mk 9 0 0 0 0], fr ++ ca7 (c6 s.value 0).length at0 ++ [at0], at0 + 1)).snd.fst ++ [at0], (n5 s.body (d + 1) (l ++ c6 s.value 0 ++ [d8.mk 9 0 0 0 0], fr ++ ca7 (c6 s.value 0).length at0 ++ [at0], at0 + 1)).snd.snd)).snd.snd]) G [0, 1, 2, 3, 4, 5, 9, 10] (by have e1 : ((Q6 s d (l, fr, at0)).snd.snd : Int) = ((n5 s.els (d + 1) (((n5 s.body (d + 1) (l ++ c6 s.value 0 ++ [d8.mk 9 0 0 0 0], fr ++ ca7 (c6 s.value 0).length at0 ++ [at0], at0 + 1)).fst ++ [d8.mk 8 0 0 0 0]).set (l ++ c6 s.value 0).length (d8.mk (((n5 s.body (d + 1) (l ++ c6 s.value 0 ++ [d8.mk 9 0 0 0 0], fr ++ ca7 (c6 s.value 0).length at0 ++ [at0], at0 + 1)).fst ++ [d8.mk 8 0 0 0 0]).getD (l ++ c6 s.value 0).length ca9).op (((n5 s.body (d + 1) (l ++ c6 s.value 0 ++ [d8.mk 9 0 0 0 0], fr ++ ca7 (c6 s.value 0).length at0 ++ [at0], at0 + 1)).fst ++ [d8.mk 8 0 0 0 0]).getD (l ++ c6 s.value 0).length ca9).a (((n5 s.body (d + 1) (l ++ c6 s.value 0 ++ [d8.mk 9 0 0 0 0], fr ++ ca7 (c6 s.value 0).length at0 ++ [at0], at0 + 1)).fst ++ [d8.mk 8 0 0 0 0]).length : Int) (((n5 s.body (d + 1) (l ++ c6 s.value 0 ++ [d8.mk 9 0 0 0 0], fr ++ ca7 (c6 s.value 0).length at0 ++ [at0], at0 + 1)).fst ++ [d8.mk 8 0 0 0 0]).getD (l ++ c6 s.value 0).length ca9).c (((n5 s.body (d + 1) (l ++ c6 s.value 0 ++ [d8.mk 9 0 0 0 0], fr ++ ca7 (c6 s.value 0).length at0 ++ [at0], at0 + 1)).fst ++ [d8.mk 8 0 0 0 0]).getD (l ++ c6 s.value 0).length ca9).d), (n5 s.body (d + 1) (l ++ c6 s.value 0 ++ [d8.mk 9 0 0 0 0], fr ++ ca7 (c6 s.value 0).length at0 ++ [at0], at0 + 1)).snd.fst ++ [at0], (n5 s.body (d + 1) (l ++ c6 s.value 0 ++ [d8.mk 9 0 0 0 0], fr ++ ca7 (c6 s.value 0).length at0 ++ [at0], at0 + 1)).snd.snd)).snd.snd) := (by have h9 := congrArg (fun x : H9 => x.2.2) (cm3 (l := l) (fr := fr) (at0 := at0) (d := d) (s := s) (by omega)); exact h9); (first | rw [e1] | simp only [e1]) <;> rfl) (by show _ = mR [0, 1, 2, 3, 4, 5, 9, 10] (T0 s l fr at0 d); unfold T0; have h9 := cm3 (l := l) (fr := fr) (at0 := at0) (d := d) (s := s) (by omega); rw [h9] <;> rfl)
     · refine wp_seq (l0 G (A4 4 [9, 10, 2] (a29 s.index (l ++ c6 s.value 0) (fr ++ ca7 (c6 s.value 0).length at0) (at0 + 1) at0 1 (by omega) (by omega) (by omega) (by simp only [cb2, cd0, r2]; done))) [0, 1, 2, 3, 4, 5, 6, 7, 8, 43, 44] (H0 s [ac4 at0, .box (sL s 2), N2, .row 60 (D.instrs (l ++ c6 s.value 0 ++ c6 s.index 1)), .row 3 (D.ints (fr ++ ca7 (c6 s.value 0).length at0 ++ ca7 (c6 s.index 1).length at0))]) (F8 at0 d []) fun G => b0 (wp_seq (l0 G (A4 5 [9, 10] (F7 (l ++ c6 s.value 0 ++ c6 s.index 1) (fr ++ ca7 (c6 s.value 0).length at0 ++ ca7 (c6 s.index 1).length at0) (at0 + 1) at0 5 s.target 1 0 0 (by omega) (by simp only [cb2, cd0, cb8, cc1, r2]; have := hft.2.2.2.2; simp only [cb2] at this; omega))) [0, 1, 2, 3, 4, 5, 6, 7, 8, 9, 10, 51, 52] (H0 s [ac4 at0, .box (sL s 2), .box [.ref 11, .ref 12, iA (at0 + 1)], .dead, .dead, .row 60 (D.instrs (l ++ c6 s.value 0 ++ c6 s.index 1 ++ [d8.mk 5 s.target 1 0 0])), .row 3 (D.ints (fr ++ ca7 (c6 s.value 0).length at0 ++ ca7 (c6 s.index 1).length at0 ++ [at0]))]) (F8 at0 d []) fun G => b0 (wp_ret (E5 (o5 ?_)))))); exact rxv (.agg [.ref 11, .ref 12, iA (at0 + 1)]) G [0, 1, 2, 3, 4, 5, 11, 12] (by have e1 : ((Q6 s d (l, fr, at0)).snd.snd : Int) = (at0 + 1) := (congrArg (fun x : H9 => x.2.2) (cm2 (by omega))); (first | rw [e1] | simp only [e1]) <;> rfl) (by show _ = mR [0, 1, 2, 3, 4, 5, 11, 12] (T0 s l fr at0 d); unfold T0; have e1 : ((Q6 s d (l, fr, at0)).fst : List d8) = (l ++ c6 s.value 0 ++ c6 s.index 1 ++ [d8.mk 5 s.target 1 0 0]) := (congrArg Prod.fst (cm2 (by omega))); have e2 : ((Q6 s d (l, fr, at0)).snd.fst : List Int) = (fr ++ ca7 (c6 s.value 0).length at0 ++ ca7 (c6 s.index 1).length at0 ++ [at0]) := (congrArg (fun x : H9 => x.2.1) (cm2 (by omega))); (first | rw [e1, e2] | simp only [e1, e2]) <;> rfl)
    · refine wp_seq (l0 G (A4 3 [9, 10] (F7 (l ++ c6 s.value 0) (fr ++ ca7 (c6 s.value 0).length at0) (at0 + 1) at0 11 0 0 0 0 (by omega) (by simp only [cb2, cd0, cb8, cc1, r2]; have := hft.2.2.2.2; simp only [cb2] at this; omega))) [0, 1, 2, 3, 4, 5, 6, 7, 8, 35, 36] (H0 s [ac4 at0, .box (sL s 2), N2, .row 60 (D.instrs (l ++ c6 s.value 0 ++ [d8.mk 11 0 0 0 0])), aM4 s fr at0]) (F8 at0 d []) fun G => b0 (wp_seq (l0 G (A4 5 [9, 10] (F7 (l ++ c6 s.value 0 ++ [d8.mk 11 0 0 0 0]) (fr ++ ca7 (c6 s.value 0).length at0 ++ [at0]) (at0 + 1) at0 3 s.target 0 0 0 (by simp only [cb2, cd0, cb8, cc1, r2]; have := hft.2.2.2.2; simp only [cb2] at this; omega) (by simp only [cb2, cd0, cb8, cc1, r2]; have := hft.2.2.2.2; simp only [cb2] at this; omega))) [0, 1, 2, 3, 4, 5, 6, 7, 8, 9, 10, 51, 52] (H0 s [ac4 at0, .box (sL s 2), .box [.ref 11, .ref 12, iA (at0 + 1)], .dead, .dead, .row 60 (D.instrs (l ++ c6 s.value 0 ++ [d8.mk 11 0 0 0 0] ++ [d8.mk 3 s.target 0 0 0])), .row 3 (D.ints (fr ++ ca7 (c6 s.value 0).length at0 ++ [at0] ++ [at0]))]) (F8 at0 d []) fun G => b0 (wp_ret (E5 (o5 ?_)))))); exact rxv (.agg [.ref 11, .ref 12, iA (at0 + 1)]) G [0, 1, 2, 3, 4, 5, 11, 12] (by have e1 : ((Q6 s d (l, fr, at0)).snd.snd : Int) = (at0 + 1) := (congrArg (fun x : H9 => x.2.2) (cm5 (by omega))); (first | rw [e1] | simp only [e1]) <;> rfl) (by show _ = mR [0, 1, 2, 3, 4, 5, 11, 12] (T0 s l fr at0 d); unfold T0; have e1 : ((Q6 s d (l, fr, at0)).fst : List d8) = (l ++ c6 s.value 0 ++ [d8.mk 11 0 0 0 0] ++ [d8.mk 3 s.target 0 0 0]) := (congrArg Prod.fst (cm5 (by omega))); have e2 : ((Q6 s d (l, fr, at0)).snd.fst : List Int) = (fr ++ ca7 (c6 s.value 0).length at0 ++ [at0] ++ [at0]) := (congrArg (fun x : H9 => x.2.1) (cm5 (by omega))); (first | rw [e1, e2] | simp only [e1, e2]) <;> rfl)
   · refine wp_seq (l0 G (A4 5 [9, 10] (F7 (l ++ c6 s.value 0) (fr ++ ca7 (c6 s.value 0).length at0) (at0 + 1) at0 3 s.target 0 0 0 (by omega) (by simp only [cb2, cd0, cb8, cc1, r2]; have := hft.2.2.2.2; simp only [cb2] at this; omega))) [0, 1, 2, 3, 4, 5, 6, 7, 8, 9, 10, 51, 52] (H0 s [ac4 at0, .box (sL s 2), .box [.ref 11, .ref 12, iA (at0 + 1)], .dead, .dead, .row 60 (D.instrs (l ++ c6 s.value 0 ++ [d8.mk 3 s.target 0 0 0])), aM4 s fr at0]) (F8 at0 d []) fun G => b0 (wp_ret (E5 (o5 ?_)))); exact rxv (.agg [.ref 11, .ref 12, iA (at0 + 1)]) G [0, 1, 2, 3, 4, 5, 11, 12] (by have e1 : ((Q6 s d (l, fr, at0)).snd.snd : Int) = (at0 + 1) := (congrArg (fun x : H9 => x.2.2) (cm1 (by omega))); (first | rw [e1] | simp only [e1]) <;> rfl) (by show _ = mR [0, 1, 2, 3, 4, 5, 11, 12] (T0 s l fr at0 d); unfold T0; have e1 : ((Q6 s d (l, fr, at0)).fst : List d8) = (l ++ c6 s.value 0 ++ [d8.mk 3 s.target 0 0 0]) := (congrArg Prod.fst (cm1 (by omega))); have e2 : ((Q6 s d (l, fr, at0)).snd.fst : List Int) = (fr ++ ca7 (c6 s.value 0).length at0 ++ [at0]) := (congrArg (fun x : H9 => x.2.1) (cm1 (by omega))); (first | rw [e1, e2] | simp only [e1, e2]) <;> rfl)
section
variable {ss : List c8} {k : Nat} {d : Int} {l : List d8} {fr : List Int} {at0 : Int}
theorem bk0 (hk : k < ss.length) : v7 (ss.take k) + (1 + szS (ss.getD k ca9)) ≤ v7 ss := by
 have h1 := au6 (ss.take (k + 1)) (ss.drop (k + 1))
 rw [List.take_append_drop, s4 _ _ hk, au6, ← o8 (d := ca9) hk] at h1
 simp only [v7] at h1
 omega
theorem bw1 (hk : k < ss.length) : nSs (ss.take k) + nS (ss.getD k ca9) ≤ nSs ss := by
 have h1 := aB9 (ss.take (k + 1)) (ss.drop (k + 1))
 rw [List.take_append_drop, s4 _ _ hk, aB9, ← o8 (d := ca9) hk] at h1
 simp only [nSs] at h1
 omega
theorem bA3 (r1 : l.length + 4 * v7 ss ≤ 5000000) (hk : k < ss.length) : (n5 (ss.take k) d (l, fr, at0)).1.length + (4 + 4 * szS (ss.getD k ca9)) ≤ 5000000 := by
 have h1 := bk0 hk
 have h2 := O9 (ss.take k)
 rw [ag6]
 simp only
 omega
theorem bM8 (r2 : fr.length = l.length) : (n5 (ss.take k) d (l, fr, at0)).2.1.length = (n5 (ss.take k) d (l, fr, at0)).1.length := by
 have h := K7 (ss.take k) d (l, fr, at0)
 simp only at h
 omega
theorem bA5 (r5 : 0 ≤ at0) : 0 ≤ (n5 (ss.take k) d (l, fr, at0)).2.2 := by
 have h := ag7 (ss.take k) d (l, fr, at0)
 simp only at h
 omega
theorem bA4 (r6 : at0 + nSs ss ≤ 5000000) (hk : k < ss.length) : (n5 (ss.take k) d (l, fr, at0)).2.2 + nS (ss.getD k ca9) ≤ 5000000 := by
 have h := ag7 (ss.take k) d (l, fr, at0)
 have h1 := bw1 hk
 simp only at h
 omega
theorem b17 (hk : k < ss.length) : (n5 (ss.take (k + 1)) d (l, fr, at0)).1 = (Q6 (ss.getD k ca9) d (n5 (ss.take k) d (l, fr, at0))).1 := by rw [aE4 hk]
theorem b16 (hk : k < ss.length) : (n5 (ss.take (k + 1)) d (l, fr, at0)).2.1 = (Q6 (ss.getD k ca9) d (n5 (ss.take k) d (l, fr, at0))).2.1 := by rw [aE4 hk]
theorem b15 (hk : k < ss.length) : (n5 (ss.take (k + 1)) d (l, fr, at0)).2.2 = (Q6 (ss.getD k ca9) d (n5 (ss.take k) d (l, fr, at0))).2.2 := by rw [aE4 hk]
theorem bn3 (hk : ss.length ≤ k) (x : H9) : n5 ss d x = n5 (ss.take k) d x := by rw [cc6 hk]
end
theorem aJ7 (ss : List c8) (B : Int) (ih : ∀ (s : c8), s ∈ ss → ∀ (l : List d8) (fr : List Int) (at0 d : Int), l.length + (4 + 4 * szS s) ≤ 5000000 → fr.length = l.length → 0 ≤ d → d ≤ B → 0 ≤ at0 → at0 + nS s ≤ 5000000 → j9.ok Tryz.prog (lqC l fr at0 s d))
  (l : List d8) (fr : List Int) (at0 d : Int) (r1 : l.length + 4 * v7 ss ≤ 5000000) (r2 : fr.length = l.length) (r3 : 0 ≤ d) (r4 : d ≤ B) (r5 : 0 ≤ at0) (r6 : at0 + nSs ss ≤ 5000000) : j9.ok Tryz.prog (lrC l fr at0 ss d) := by
 refine K9 22 Tryz.func90 [.row 60 (D.instrs l), .row 3 (D.ints fr), dT ss] [(0, .agg [.ref 0, .ref 1, iA at0]), (1, .ref 2), (2, iA d)] fun G => ?_; have hl := an5 ss; refine wp_seq (l0 G f8 [0, 1, 2, 3, 11] [.row 60 (D.instrs l), .row 3 (D.ints fr), dT ss, .box [.ref 0, .ref 1, iA at0], .box [.v (.slice none 0 0), .v (.slice none 0 0), iA 0]] [(1, .ref 2), (2, iA d), (3, .ptr 3 0), (6, .ptr 4 0)] fun G => b0 (wp_seq (wp_seq (I8 G f8 [(1, .ref 2), (2, iA d), (3, .ptr 3 0), (6, .ptr 4 0), (7, iA 0)] fun G => b0 (wp_block ?_))))); obtain ⟨ρ, G⟩ := G.shift 0 5 [.dead, .row 3 (D.ints fr), dT ss, .box [.ref 5, .ref 1, iA at0], .box [.v (.slice none 0 0), .v (.slice none 0 0), iA 0], .row 60 (D.instrs l)] [(1, .ref 2), (2, iA d), (3, .ptr 3 0), (6, .ptr 4 0), (7, iA 0)]; obtain ⟨ρ, G⟩ := G.shift 1 6 [.dead, .dead, dT ss, .box [.ref 5, .ref 6, iA at0], .box [.v (.slice none 0 0), .v (.slice none 0 0), iA 0], .row 60 (D.instrs l), .row 3 (D.ints fr)] [(1, .ref 2), (2, iA d), (3, .ptr 3 0), (6, .ptr 4 0), (7, iA 0)]; refine A8 (κ := Nat) (fun k => k ≤ ss.length) (fun k => ss.length - k) (fun k => [.dead, .dead, dT ss, .box [.ref 5, .ref 6, iA (n5 (ss.take k) d (l, fr, at0)).2.2], .box [.v (.slice none 0 0), .v (.slice none 0 0), iA 0], .row 60 (.instrs (n5 (ss.take k) d (l, fr, at0)).1), .row 3 (.ints (n5 (ss.take k) d (l, fr, at0)).2.1)]) (fun k => [(1, .ref 2), (2, iA d), (3, .ptr 3 0), (6, .ptr 4 0), (7, iA k)]) 0 (by omega) (v5.at G _ _) ?_; clear G; intro k ρ a w hp G; replace G := v5.at G [.dead, .dead, dT ss, .box [.ref 5, .ref 6, iA (n5 (cc0 k ss) d (l, fr, at0)).snd.snd], .box [.v (.slice none 0 0), .v (.slice none 0 0), iA 0], .row 60 (D.instrs (n5 (cc0 k ss) d (l, fr, at0)).fst), .row 3 (D.ints (n5 (cc0 k ss) d (l, fr, at0)).snd.fst)] [(1, .ref 2), (2, iA d), (3, .ptr 3 0), (6, .ptr 4 0), (7, iA k)]; refine wp_seq (wp_seq (m7 G f8 [(11, bA (decide ((k : Int) < ss.length)))] fun G => b0 (rcD G (fun h0 q0 => ?_) fun h0 q0 => ?_)))
 ·refine wp_exit (A2 (A2 (A1 (b0 (wp_seq (l0 G f8 [0, 1, 2, 4, 5, 6] [.dead, .dead, dT ss, .box [.ref 4, .ref 5, iA (n5 (cc0 k ss) d (l, fr, at0)).snd.snd], .row 60 (D.instrs (n5 (cc0 k ss) d (l, fr, at0)).fst), .row 3 (D.ints (n5 (cc0 k ss) d (l, fr, at0)).snd.fst)] [(6, .ptr 3 0)] fun G => b0 (wp_ret ?_))))))); exact rxv (.agg [.ref 4, .ref 5, iA (n5 (cc0 k ss) d (l, fr, at0)).snd.snd]) G [0, 1, 2, 4, 5] (by have e1 : ((n5 ss d (l, fr, at0)).snd.snd : Int) = ((n5 (cc0 k ss) d (l, fr, at0)).snd.snd) := (congrArg (fun x : H9 => x.2.2) (bn3 (by omega) _)); (first | rw [e1] | simp only [e1]) <;> rfl) (by show _ = mR [0, 1, 2, 4, 5] [.dead, .dead, dT ss, .row 60 (D.instrs (n5 ss d (l, fr, at0)).fst), .row 3 (D.ints (n5 ss d (l, fr, at0)).snd.fst)]; have e1 : ((n5 ss d (l, fr, at0)).fst : List d8) = ((n5 (cc0 k ss) d (l, fr, at0)).fst) := (congrArg Prod.fst (bn3 (by omega) _)); have e2 : ((n5 ss d (l, fr, at0)).snd.fst : List Int) = ((n5 (cc0 k ss) d (l, fr, at0)).snd.fst) := (congrArg (fun x : H9 => x.2.1) (bn3 (by omega) _)); (first | rw [e1, e2] | simp only [e1, e2]) <;> rfl)
 ·refine wp_skip (b0 (wp_seq (wp_block (L7 G (A4 6 [5, 6, 39, 40, 41, 42] (ih (ss.getD k ca9) (a05 (by omega)) ((n5 (cc0 k ss) d (l, fr, at0)).fst) ((n5 (cc0 k ss) d (l, fr, at0)).snd.fst) ((n5 (cc0 k ss) d (l, fr, at0)).snd.snd) d (bA3 r1 (by omega)) (bM8 r2) (by assumption) (by assumption) (bA5 r5) (bA4 r6 (by omega)))) [0, 0, 0, 6, 14, 0, 63, 127] [0, 1, 2, 3, 4, 55, 56] [.dead, .dead, dT ss, .box [.ref 5, .ref 6, iA (Q6 (ss.getD k ca9) d (n5 (cc0 k ss) d (l, fr, at0))).snd.snd], .box [.v (.slice none 0 0), .v (.slice none 0 0), iA 0], .row 60 (D.instrs (Q6 (ss.getD k ca9) d (n5 (cc0 k ss) d (l, fr, at0))).fst), .row 3 (D.ints (Q6 (ss.getD k ca9) d (n5 (cc0 k ss) d (l, fr, at0))).snd.fst)] [(1, .ref 2), (2, iA d), (3, .ptr 3 0), (6, .ptr 4 0), (7, iA k)] (iX k k ss.length []) (iK (by omega) cc2) fun G => t5 (b0 (O0 G f8 [(7, iA ((k : Int) + 1))] [wO ((k : Int) + 1)] (o1 (by omega)) fun G => b0 ?_)))))); exact rxn G (k + 1) (by omega) (by omega) (rg 7) (by have e1 : ((n5 (cc0 (k + 1) ss) d (l, fr, at0)).snd.snd : Int) = ((Q6 (ss.getD k ca9) d (n5 (cc0 k ss) d (l, fr, at0))).snd.snd) := (b15 (by omega)); have e2 : ((n5 (cc0 (k + 1) ss) d (l, fr, at0)).fst : List d8) = ((Q6 (ss.getD k ca9) d (n5 (cc0 k ss) d (l, fr, at0))).fst) := (b17 (by omega)); have e3 : ((n5 (cc0 (k + 1) ss) d (l, fr, at0)).snd.fst : List Int) = ((Q6 (ss.getD k ca9) d (n5 (cc0 k ss) d (l, fr, at0))).snd.fst) := (b16 (by omega)); (first | rw [e1, e2, e3] | simp only [e1, e2, e3]) <;> rfl)
theorem bx0 (nv na : Nat) : ∀ (dd : Nat) (ss : List c8) (l : List d8) (fr : List Int) (at0 d : Int), ss.all (m6 nv na dd) = true → l.length + 4 * v7 ss ≤ 5000000 → fr.length = l.length → 0 ≤ d → d + dd ≤ 100 → 0 ≤ at0 → at0 + nSs ss ≤ 5000000 → j9.ok Tryz.prog (lrC l fr at0 ss d) := by
 intro dd
 induction dd with
 | zero =>
  intro ss l fr at0 d hs r1 r2 r3 r4 r5 r6
  have h0 : ss = [] := by
   cases ss with
   | nil => rfl
   | cons a r => simp [m6] at hs
  subst h0
  exact aJ7 [] 100 (fun s hs => by cases hs) l fr at0 d r1 r2 r3 (by omega) r5 r6
 | succ dd ih =>
  intro ss l fr at0 d hs r1 r2 r3 r4 r5 r6
  refine aJ7 ss (100 - (dd + 1)) (fun s hm l fr at0 d q1 q2 q3 q4 q5 q6 => ?_) l fr at0 d r1 r2 r3 (by omega) r5 r6
  have h := cb9.1 hs s hm
  rw [ak6, cb0, cb0] at h
  exact aW3 nv na dd s h.1 h.2.1 h.2.2 (fun tt l fr at0 d h1 h2 h3 h4 h5 h6 h7 => ih tt l fr at0 d h1 h2 h3 h4 h5 h6 h7) l fr at0 d q1 q2 q3 (by omega) q5 q6
abbrev aM3 : It := .box [.v (.slice none 0 0), .v (.slice none 0 0), iA 0]
theorem a63 (ss : List c8) (B : Int) (ih : ∀ (s : c8), s ∈ ss → ∀ (l : List d8) (fr : List Int) (at0 d : Int), l.length + (4 + 4 * szS s) ≤ 5000000 → fr.length = l.length → 0 ≤ d → d ≤ B → 0 ≤ at0 → at0 + nS s ≤ 5000000 → j9.ok Tryz.prog (lqC l fr at0 s d))
  (d : Int) (r1 : ([] : List d8).length + 4 * v7 ss ≤ 5000000) (r3 : 0 ≤ d) (r4 : d ≤ B) (r6 : (0 : Int) + nSs ss ≤ 5000000) : j9.ok Tryz.prog ⟨90, [.agg [.v (.slice none 0 0), .v (.slice none 0 0), iA 0], .ref 0, iA d], [dT ss], [dT ss, rN (n5 ss d ([], [], 0)).1, rI (n5 ss d ([], [], 0)).2.1], .agg [.ref 1, .ref 2, iA (n5 ss d ([], [], 0)).2.2]⟩ := by
 refine K9 22 Tryz.func90 [dT ss] [(0, .agg [.v (.slice none 0 0), .v (.slice none 0 0), iA 0]), (1, .ref 0), (2, iA d)] fun G => ?_; have hl := an5 ss; refine wp_seq (l0 G f8 [0, 1, 9] [dT ss, aM3, aM3] [(1, .ref 0), (2, iA d), (3, .ptr 1 0), (6, .ptr 2 0)] fun G => b0 (wp_seq (wp_seq (I8 G f8 [(1, .ref 0), (2, iA d), (3, .ptr 1 0), (6, .ptr 2 0), (7, iA 0)] fun G => b0 (wp_block ?_))))); obtain ⟨ρ, G⟩ := G.nil 3 60 (.instrs []) 5 [dT ss, .box [.ref 3, .v (.slice none 0 0), iA 0], .box [.v (.slice none 0 0), .v (.slice none 0 0), iA 0]] [(1, .ref 0), (2, iA d), (3, .ptr 1 0), (6, .ptr 2 0), (7, iA 0)]; obtain ⟨ρ, G⟩ := G.nil 4 3 (.ints []) 1 [dT ss, .box [.ref 3, .ref 4, iA 0], .box [.v (.slice none 0 0), .v (.slice none 0 0), iA 0], .row 60 (D.instrs [])] [(1, .ref 0), (2, iA d), (3, .ptr 1 0), (6, .ptr 2 0), (7, iA 0)]; refine A8 (κ := Nat) (fun k => k ≤ ss.length) (fun k => ss.length - k) (fun k => [dT ss, .box [.ref 3, .ref 4, iA (n5 (ss.take k) d ([], [], 0)).2.2], .box [.v (.slice none 0 0), .v (.slice none 0 0), iA 0], .row 60 (.instrs (n5 (ss.take k) d ([], [], 0)).1), .row 3 (.ints (n5 (ss.take k) d ([], [], 0)).2.1)]) (fun k => [(1, .ref 0), (2, iA d), (3, .ptr 1 0), (6, .ptr 2 0), (7, iA k)]) 0 (by omega) (v5.at G _ _) ?_; clear G; intro k ρ a w hp G; replace G := v5.at G [dT ss, .box [.ref 3, .ref 4, iA (n5 (cc0 k ss) d ([], [], 0)).snd.snd], aM3, .row 60 (D.instrs (n5 (cc0 k ss) d ([], [], 0)).fst), .row 3 (D.ints (n5 (cc0 k ss) d ([], [], 0)).snd.fst)] [(1, .ref 0), (2, iA d), (3, .ptr 1 0), (6, .ptr 2 0), (7, iA k)]; refine wp_seq (wp_seq (m7 G f8 [(11, bA (decide ((k : Int) < ss.length)))] fun G => b0 (rcD G (fun h0 q0 => ?_) fun h0 q0 => ?_)))
 ·refine wp_exit (A2 (A2 (A1 (b0 (wp_seq (l0 G f8 [0, 2, 3, 4] [dT ss, .box [.ref 2, .ref 3, iA (n5 (cc0 k ss) d ([], [], 0)).snd.snd], .row 60 (D.instrs (n5 (cc0 k ss) d ([], [], 0)).fst), .row 3 (D.ints (n5 (cc0 k ss) d ([], [], 0)).snd.fst)] [(6, .ptr 1 0)] fun G => b0 (wp_ret ?_))))))); exact rxv (.agg [.ref 2, .ref 3, iA (n5 (cc0 k ss) d ([], [], 0)).snd.snd]) G [0, 2, 3] (by have e1 : ((n5 ss d ([], [], 0)).snd.snd : Int) = ((n5 (cc0 k ss) d ([], [], 0)).snd.snd) := (congrArg (fun x : H9 => x.2.2) (bn3 (by omega) _)); (first | rw [e1] | simp only [e1]) <;> rfl) (by show _ = mR [0, 2, 3] [dT ss, .row 60 (D.instrs (n5 ss d ([], [], 0)).fst), .row 3 (D.ints (n5 ss d ([], [], 0)).snd.fst)]; have e1 : ((n5 ss d ([], [], 0)).fst : List d8) = ((n5 (cc0 k ss) d ([], [], 0)).fst) := (congrArg Prod.fst (bn3 (by omega) _)); have e2 : ((n5 ss d ([], [], 0)).snd.fst : List Int) = ((n5 (cc0 k ss) d ([], [], 0)).snd.fst) := (congrArg (fun x : H9 => x.2.1) (bn3 (by omega) _)); (first | rw [e1, e2] | simp only [e1, e2]) <;> rfl)
 ·refine wp_skip (b0 (wp_seq (wp_block (L7 G (A4 6 [3, 4, 37, 38, 39, 40] (ih (ss.getD k ca9) (a05 (by omega)) ((n5 (cc0 k ss) d ([], [], 0)).fst) ((n5 (cc0 k ss) d ([], [], 0)).snd.fst) ((n5 (cc0 k ss) d ([], [], 0)).snd.snd) d (bA3 r1 (by omega)) (bM8 rfl) (by assumption) (by assumption) (bA5 (Int.le_refl 0)) (bA4 r6 (by omega)))) [0, 0, 0, 6, 14, 0, 63, 127] [0, 1, 2, 53, 54] [dT ss, .box [.ref 3, .ref 4, iA (Q6 (ss.getD k ca9) d (n5 (cc0 k ss) d ([], [], 0))).snd.snd], aM3, .row 60 (D.instrs (Q6 (ss.getD k ca9) d (n5 (cc0 k ss) d ([], [], 0))).fst), .row 3 (D.ints (Q6 (ss.getD k ca9) d (n5 (cc0 k ss) d ([], [], 0))).snd.fst)] [(1, .ref 0), (2, iA d), (3, .ptr 1 0), (6, .ptr 2 0), (7, iA k)] (iX k k ss.length []) (iK (by omega) cc2) fun G => t5 (b0 (O0 G f8 [(7, iA ((k : Int) + 1))] [wO ((k : Int) + 1)] (o1 (by omega)) fun G => b0 ?_)))))); exact rxn G (k + 1) (by omega) (by omega) (rg 5) (by have e1 : ((n5 (cc0 (k + 1) ss) d ([], [], 0)).snd.snd : Int) = ((Q6 (ss.getD k ca9) d (n5 (cc0 k ss) d ([], [], 0))).snd.snd) := (b15 (by omega)); have e2 : ((n5 (cc0 (k + 1) ss) d ([], [], 0)).fst : List d8) = ((Q6 (ss.getD k ca9) d (n5 (cc0 k ss) d ([], [], 0))).fst) := (b17 (by omega)); have e3 : ((n5 (cc0 (k + 1) ss) d ([], [], 0)).snd.fst : List Int) = ((Q6 (ss.getD k ca9) d (n5 (cc0 k ss) d ([], [], 0))).snd.fst) := (b16 (by omega)); (first | rw [e1, e2, e3] | simp only [e1, e2, e3]) <;> rfl)
theorem ba9 (p : j8) (hp : E2 p = true) (hb : v7 p.body ≤ 1048576) : j9.ok Tryz.prog ⟨90, [.agg [.v (.slice none 0 0), .v (.slice none 0 0), iA 0], .ref 0, iA 0], [dT p.body], [dT p.body, rN (n5 p.body 0 ([], [], 0)).1, rI (n5 p.body 0 ([], [], 0)).2.1], .agg [.ref 1, .ref 2, iA (n5 p.body 0 ([], [], 0)).2.2]⟩ := by
 simp only [E2, ah0, cb0, decide_eq_true_eq] at hp
 refine a63 p.body 95 (fun s hm l fr at0 d q1 q2 q3 q4 q5 q6 => ?_) 0 (by simp only [cc1]; omega) (by omega) (by omega) (by have := aO8 p.body; omega)
 have h := cb9.1 hp.1.2 s hm
 rw [ak6, cb0, cb0] at h
 exact aW3 _ _ 4 s h.1 h.2.1 h.2.2 (fun tt l fr at0 d h1 h2 h3 h4 h5 h6 h7 => bx0 _ _ 4 tt l fr at0 d h1 h2 h3 h4 h5 h6 h7) l fr at0 d q1 q2 q3 (by omega) q5 q6
def aw9 (p : j8) : H9 := ((n5 p.body 0 ([], [], 0)).1 ++ [⟨13, 0, 0, 0, 0⟩], (n5 p.body 0 ([], [], 0)).2.1 ++ [-1], (n5 p.body 0 ([], [], 0)).2.2)
def okC (p : j8) : Bool := E2 p && decide ((aw9 p).1.length ≤ 400)
def R4 (p : j8) : H9 := if okC p = true then aw9 p else ([], [], 0)
theorem a83 {p : j8} (h : E2 p = false) : okC p = false := by unfold okC; rw [h]; rfl
theorem bv9 {p : j8} (h : ¬ (aw9 p).1.length ≤ 400) : okC p = false := by unfold okC; rw [decide_eq_false h, Bool.and_false]
theorem bv8 {p : j8} (h1 : E2 p = true) (h : (aw9 p).1.length ≤ 400) : okC p = true := by unfold okC; rw [decide_eq_true h, h1]; rfl
theorem aE3 {p : j8} (h : okC p = false) : R4 p = ([], [], 0) := by unfold R4; rw [h]; rfl
theorem bz8 {p : j8} (h : okC p = true) : R4 p = aw9 p := by unfold R4; rw [h]; rfl
theorem bm8 (p : j8) (hb : v7 p.body ≤ 1048576) : (n5 p.body 0 ([], [], 0)).1.length ≤ 5000000 ∧ (n5 p.body 0 ([], [], 0)).2.1.length ≤ 5000000 := by
 have h := K7 p.body 0 ([], [], 0)
 have h1 := O9 p.body
 simp only [cc1] at h
 omega
abbrev aq4 (p : j8) : List It := [dI p.vars, dI p.arrays, dT p.body, .row 60 (D.instrs (R4 p).fst), .row 3 (D.ints (R4 p).snd.fst)]
abbrev aM0 (p : j8) (r0 : List It) : List It := .row 60 (D.instrs ((n5 p.body 0 ([], [], 0)).fst ++ [d8.mk 13 0 0 0 0])) :: .row 3 (D.ints ((n5 p.body 0 ([], [], 0)).snd.fst ++ [-1])) :: r0
theorem a30 (p : j8) (hb : v7 p.body ≤ 1048576) : j9.ok Tryz.prog ⟨75, [pA 0], pS p, pS p ++ [rN (R4 p).1, rI (R4 p).2.1], .tup [.agg [.ref 3, .ref 4, iA (R4 p).2.2], bA (okC p)]⟩ := by
  refine K9 22 Tryz.func75 [dI p.vars, dI p.arrays, dT p.body] [(0, pA 0)] fun G => ?_; have hcb := bm8 p hb; refine wp_seq (l0 G f8 [0, 1, 2, 3, 11] [dI p.vars, dI p.arrays, dT p.body, .box (pL 0), .box [.v (.slice none 0 0), .v (.slice none 0 0), iA 0]] [(1, .ptr 3 0), (2, .ptr 4 0), (3, bA false)] fun G => b0 (wp_seq (wp_seq (m7 G (A4 1 [0, 1, 2] (ag9 p (by assumption))) [(7, .v (.bool !E2 p))] fun G => b0 ?_)))); cases h0 : (!E2 p)
  ·
   have q0 : (E2 p) = true := (Eq.mp (Bool.not_eq_false' _) h0); refine rF G _ h0 (wp_skip (b0 (wp_seq (l0 G (A4 3 [2] (ba9 p (by assumption) (by assumption))) [0, 1, 2, 4, 29, 30, 37] [dI p.vars, dI p.arrays, dT p.body, .box [.v (.slice none 0 0), .v (.slice none 0 0), iA 0], .row 60 (D.instrs (n5 p.body 0 ([], [], 0)).fst), .row 3 (D.ints (n5 p.body 0 ([], [], 0)).snd.fst), .box [.ref 4, .ref 5, iA (n5 p.body 0 ([], [], 0)).snd.snd]] [(2, .ptr 3 0), (3, bA false), (4, .ptr 6 0)] fun G => b0 (wp_seq (l0 G (A4 2 [4, 5] (F7 ((n5 p.body 0 ([], [], 0)).fst) ((n5 p.body 0 ([], [], 0)).snd.fst) ((n5 p.body 0 ([], [], 0)).snd.snd) (-1) 13 0 0 0 0 (by omega) (by omega))) [0, 1, 2, 3, 6, 23, 24] (dI p.vars :: dI p.arrays :: dT p.body :: .box [.v (.slice none 0 0), .v (.slice none 0 0), iA 0] :: .box [.ref 5, .ref 6, iA (n5 p.body 0 ([], [], 0)).snd.snd] :: (aM0 p [])) [(2, .ptr 3 0), (3, bA false), (4, .ptr 4 0)] fun G => b0 (wp_seq (wp_seq (m7 G f8 [(19, bA (decide ((((n5 p.body 0 ([], [], 0)).fst ++ [d8.mk 13 0 0 0 0]).length : Int) > 400)))] fun G => b0 (rcD G (fun h1 q1 => ?_) fun h1 q1 => ?_))))))))))
   · refine wp_skip (b0 (wp_seq (l0 G f8 [0, 1, 2, 3, 5, 6] (dI p.vars :: dI p.arrays :: dT p.body :: .box [.ref 4, .ref 5, iA (n5 p.body 0 ([], [], 0)).snd.snd] :: (aM0 p [])) [(2, .ptr 3 0), (3, bA true)] fun G => b0 (wp_ret ?_)))); exact rxv (.tup [.agg [.ref 4, .ref 5, iA (n5 p.body 0 ([], [], 0)).snd.snd], bA true]) G [0, 1, 2, 4, 5] (by have e1 : ((R4 p).snd.snd : Int) = ((n5 p.body 0 ([], [], 0)).snd.snd) := (by rw [bz8 (bv8 (by with_reducible assumption) (by simp only [aw9]; omega))]; rfl); have e2 : (okC p : Bool) = (true) := (bv8 (by with_reducible assumption) (by simp only [aw9]; omega)); (first | rw [e1, e2] | simp only [e1, e2]) <;> rfl) (by show _ = mR [0, 1, 2, 4, 5] (aq4 p); unfold aq4; rw [bz8 (bv8 (by with_reducible assumption) (by simp only [aw9]; omega))] <;> rfl)
   · refine wp_seq (I8 G f8 [(2, .ptr 3 0), (3, bA false), (4, .ptr 4 0)] fun G => b0 (wp_ret (o5 ?_))); obtain ⟨ρ, G⟩ := G.nil 7 60 (.instrs []) 5 (dI p.vars :: dI p.arrays :: dT p.body :: .box [.ref 7, .v (.slice none 0 0), iA 0] :: .box [.ref 5, .ref 6, iA (n5 p.body 0 ([], [], 0)).snd.snd] :: (aM0 p [])) [(2, .ptr 3 0), (3, bA false), (4, .ptr 4 0)]; obtain ⟨ρ, G⟩ := G.nil 8 3 (.ints []) 1 (dI p.vars :: dI p.arrays :: dT p.body :: .box [.ref 7, .ref 8, iA 0] :: .box [.ref 5, .ref 6, iA (n5 p.body 0 ([], [], 0)).snd.snd] :: (aM0 p [.row 60 (D.instrs [])])) [(2, .ptr 3 0), (3, bA false), (4, .ptr 4 0)]; exact rxv (.tup [.agg [.ref 7, .ref 8, iA 0], bA false]) G [0, 1, 2, 7, 8] (by have e1 : ((R4 p).snd.snd : Int) = (0) := (by rw [aE3 (bv9 (by simp only [aw9]; omega))]; done); have e2 : (okC p : Bool) = (false) := (bv9 (by simp only [aw9]; omega)); (first | rw [e1, e2] | simp only [e1, e2]) <;> rfl) (by show _ = mR [0, 1, 2, 7, 8] (aq4 p); unfold aq4; rw [aE3 (bv9 (by simp only [aw9]; omega))] <;> rfl)
  · have q0 : (E2 p) = false := (Eq.mp (cf0 _) h0); refine rT G _ h0 (wp_seq (I8 G f8 [(1, .ptr 3 0), (2, .ptr 4 0), (3, bA false)] fun G => b0 (wp_ret (o5 ?_)))); obtain ⟨ρ, G⟩ := G.nil 5 60 (.instrs []) 5 [dI p.vars, dI p.arrays, dT p.body, .box (pL 0), .box [.ref 5, .v (.slice none 0 0), iA 0]] [(1, .ptr 3 0), (2, .ptr 4 0), (3, bA false)]; obtain ⟨ρ, G⟩ := G.nil 6 3 (.ints []) 1 [dI p.vars, dI p.arrays, dT p.body, .box (pL 0), .box [.ref 5, .ref 6, iA 0], .row 60 (D.instrs [])] [(1, .ptr 3 0), (2, .ptr 4 0), (3, bA false)]; exact rxv (.tup [.agg [.ref 5, .ref 6, iA 0], bA false]) G [0, 1, 2, 5, 6] (by have e1 : ((R4 p).snd.snd : Int) = (0) := (by rw [aE3 (a83 (by with_reducible assumption))]; done); have e2 : (okC p : Bool) = (false) := (a83 (by with_reducible assumption)); (first | rw [e1, e2] | simp only [e1, e2]) <;> rfl) (by show _ = mR [0, 1, 2, 5, 6] (aq4 p); unfold aq4; rw [aE3 (a83 (by with_reducible assumption))] <;> rfl)
def cvP (p : j8) : List Int := if okC p = true then p.vars else []
def caP (p : j8) : List Int := if okC p = true then p.arrays else []
theorem b07 {p : j8} (h : okC p = true) : cvP p = p.vars := if_pos h
theorem ca0 {p : j8} (h : okC p = false) : cvP p = [] := if_neg (by rw [h]; decide)
theorem b18 {p : j8} (h : okC p = true) : caP p = p.arrays := if_pos h
theorem ca2 {p : j8} (h : okC p = false) : caP p = [] := if_neg (by rw [h]; decide)
abbrev aM2 (p : j8) : List It := [dI p.vars, dI p.arrays, dT p.body, .row 3 (D.ints (cvP p)), .row 3 (D.ints (caP p)), .row 60 (D.instrs (R4 p).fst)]
abbrev aL9 (p : j8) (r0 : List It) : List It := .row 60 (D.instrs (R4 p).fst) :: .row 3 (D.ints (R4 p).snd.fst) :: .box [.ref 5, .ref 6, iA (R4 p).snd.snd] :: r0
theorem at3 (p : j8) (hb : p.size ≤ 1048576) : j9.ok Tryz.prog ⟨48, [pA 0], pS p, pS p ++ [rI (cvP p), rI (caP p), rN (R4 p).1], .tup [.agg [.ref 3, .ref 4, .ref 5], bA (okC p)]⟩ := by
 refine K9 25 Tryz.func48 [dI p.vars, dI p.arrays, dT p.body] [(0, pA 0)] fun G => ?_
 have hb1 : p.vars.length ≤ 1048576 ∧ p.arrays.length ≤ 1048576 ∧ v7 p.body ≤ 1048576 := by unfold j8.size at hb; omega
 refine wp_seq (l0 G f8 [0, 1, 2, 3, 11] [dI p.vars, dI p.arrays, dT p.body, .box (pL 0), .box [.v (.slice none 0 0), .v (.slice none 0 0), .v (.slice none 0 0)]] [(1, .ptr 3 0), (2, .ptr 4 0), (3, bA false)] fun G => b0 (wp_seq (l0 G (A4 1 [0, 1, 2] (a30 p (by omega))) [0, 1, 2, 3, 4, 13, 14, 45] (dI p.vars :: dI p.arrays :: dT p.body :: .box (pL 0) :: .box [.v (.slice none 0 0), .v (.slice none 0 0), .v (.slice none 0 0)] :: (aL9 p [])) [(1, .ptr 3 0), (2, .ptr 4 0), (3, bA false), (4, .ptr 7 0), (5, bA (okC p))] fun G => b0 (wp_seq (wp_seq (m7 G f8 [(12, .v (.bool !okC p))] fun G => b0 ?_)))))); cases h0 : (!okC p)
 ·have q0 : (okC p) = true := (Eq.mp (Bool.not_eq_false' _) h0); refine rF G _ h0 (wp_skip (b0 (wp_seq (L7 G f8 [0, 0, 2, 7, 0, 0, 32, 127, 0, 256, 1023, 2047, 4095] [0, 1, 2, 4, 5, 32, 64] [dI p.vars, dI p.arrays, dT p.body, .box [.ref 5, .ref 6, .ref 4], .row 60 (D.instrs (R4 p).fst), .row 3 (D.ints ([] ++ p.vars)), .row 3 (D.ints ([] ++ p.arrays))] [(2, .ptr 3 0), (3, bA true)] (aP ((0 : Nat) + p.vars.length) 8 (aP ((0 : Nat) + p.arrays.length) 8 [])) (aK (by omega) (aK (by omega) cc2)) fun G => b0 (wp_ret ?_))))); exact rxv (.tup [.agg [.ref 5, .ref 6, .ref 4], bA true]) G [0, 1, 2, 5, 6, 4] (by have e1 : (okC p : Bool) = (true) := (by assumption); (first | rw [e1] | simp only [e1]) <;> rfl) (by show _ = mR [0, 1, 2, 5, 6, 4] (aM2 p); unfold aM2; have e2 : (caP p : List Int) = ([] ++ p.arrays) := (by rw [b18 (by with_reducible assumption)]; rfl); rw [e2, b07 (by with_reducible assumption)] <;> rfl)
 ·have q0 : (okC p) = false := (Eq.mp (cf0 _) h0); refine rT G _ h0 (wp_seq (I8 G f8 [(1, .ptr 3 0), (2, .ptr 4 0), (3, bA false), (4, .ptr 7 0)] fun G => b0 (wp_ret (o5 ?_)))); obtain ⟨ρ, G⟩ := G.nil 8 3 (.ints []) 1 (dI p.vars :: dI p.arrays :: dT p.body :: .box (pL 0) :: .box [.ref 8, .v (.slice none 0 0), .v (.slice none 0 0)] :: (aL9 p [])) [(1, .ptr 3 0), (2, .ptr 4 0), (3, bA false), (4, .ptr 7 0)]; obtain ⟨ρ, G⟩ := G.nil 9 3 (.ints []) 1 (dI p.vars :: dI p.arrays :: dT p.body :: .box (pL 0) :: .box [.ref 8, .ref 9, .v (.slice none 0 0)] :: (aL9 p [.row 3 (D.ints [])])) [(1, .ptr 3 0), (2, .ptr 4 0), (3, bA false), (4, .ptr 7 0)]; obtain ⟨ρ, G⟩ := G.nil 10 60 (.instrs []) 5 (dI p.vars :: dI p.arrays :: dT p.body :: .box (pL 0) :: .box (pL 8) :: (aL9 p [.row 3 (D.ints []), .row 3 (D.ints [])])) [(1, .ptr 3 0), (2, .ptr 4 0), (3, bA false), (4, .ptr 7 0)]; exact rxv (.tup [pA 8, bA false]) G [0, 1, 2, 8, 9, 10] (by have e1 : (okC p : Bool) = (false) := (by assumption); (first | rw [e1] | simp only [e1]) <;> rfl) (by show _ = mR [0, 1, 2, 8, 9, 10] (aM2 p); unfold aM2; have e2 : (caP p : List Int) = ([]) := (by rw [ca2 (by with_reducible assumption)]; done); have e3 : ((R4 p).fst : List d8) = ([]) := (by rw [aE3 (by with_reducible assumption)]; done); rw [e2, e3, ca0 (by with_reducible assumption)] <;> rfl)
def C3 (b : List UInt8) (j : Int) : b6 × Int := (⟨(L0 b j).vars, (L0 b j).arrays, (clD b (Y2 b j).2 (L0 b j).vars.length (L0 b j).arrays.length).1⟩, (clD b (Y2 b j).2 (L0 b j).vars.length (L0 b j).arrays.length).2)
theorem bJ5 (b : List UInt8) {j : Int} (hj : 0 ≤ j) (hj2 : j ≤ 10000000) : j + 2 ≤ (Y2 b j).2 ∧ (Y2 b j).2 ≤ j + 150000 := by
 have h1 := bB3 b hj hj2
 have h2 := bx1 b hj hj2
 omega
theorem bv1 (b : List UInt8) (j : Int) : (L0 b j).vars.length ≤ 12 ∧ (L0 b j).arrays.length ≤ 2 ∧ 1 ≤ (L0 b j).vars.length := by
 have h := bq7 (bv2 b j)
 have := (bk8 (bv2 b j)).2.2.1
 omega
theorem b11 (b : List UInt8) {j : Int} (hj : 0 ≤ j) (hj2 : j ≤ 10000000) : j + 3 ≤ (C3 b j).2 ∧ (C3 b j).2 ≤ j + 150100 ∧ (C3 b j).1.list.length ≤ 12 ∧ 1 ≤ (C3 b j).1.list.length := by
 have h1 := bJ5 b hj hj2
 have h2 := ca1 b (j := (Y2 b j).2) (L0 b j).vars.length (L0 b j).arrays.length (by omega) (by omega)
 have h3 := bQ8 b (j := (Y2 b j).2) (by omega) (by omega)
 have e : (C3 b j).1.list.length = (clD b (Y2 b j).2 (L0 b j).vars.length (L0 b j).arrays.length).1.length := rfl
 have e2 : (C3 b j).2 = (clD b (Y2 b j).2 (L0 b j).vars.length (L0 b j).arrays.length).2 := rfl
 rw [e, e2]
 omega
section
variable {b : List UInt8} {j : Int}
end
section
variable {ars vs : List Int} {pc : Int} {bd : List c8} {e : d9} {d k : Nat}
end
section
variable {ars vs : List Int} {bd : List c8} {m pc : Int} {t : c8} {nv dd : Nat}
end
section
variable {ars vs : List Int} {bd : List c8} {m pc l : Int} {t : c8} {nv dd : Nat}
end
section
variable {ars vs : List Int} {bd : List c8} {m pc : Int} {ss : List c8} {nv d k : Nat}
end
theorem j9.twice {P : Program} {f : FuncId} {args : List AV} {pre S : List It} {d : D} {res : AV} {i : Nat} (hc : j9.ok P ⟨f, args, pre, S, res⟩) (S1 : List It) (hi : S[i]? = some (.dat d)) (hl : pre.length ≤ S.length)
  (hS : S.all (fun x => ab6 S.length x.ids) = true) (hg : ab6 S.length res.ids = true) (hl1 : S1.length = S.length + 1) (hd : o0 S1 S.length = .dat d) (h2 : ∀ ρ : Nat → Value, ρ S.length = ρ i → ∀ j, j < S.length → (o0 S1 j).res ρ j = (o0 S j).res ρ j) : j9.ok P ⟨f, args, pre, S1, res⟩ := by
 intro ι φ ψ w0 w F ρ M
 refine (hc ι φ ψ w0 w F ρ M).mono ?_
 rintro x w' ⟨ρ1, h1, rfl, M1⟩
 have hi' : o0 S i = .dat d := by simp [o0, hi]
 have hlt : i < S.length := (cb6.1 hi).1
 have hinv : Inv (o0 S) ρ1 [S.length] := fun ρ' h j => by
  by_cases hj : j < S.length
  ·refine It.res_congr _ (fun k hk => h k ?_) (.inr (.inr (h j (by simp; omega))))
   have h1 := I4 (cb9.1 hS (S[j]) (cd1 hj)) k (by simpa [o0, cb3, ca8 hj] using hk)
   simp; omega
  ·rw [show o0 S j = .none by simp only [o0, cb3, cd6 (Nat.le_of_not_lt hj)]; rfl]; rfl
 obtain ⟨ρ2, h3, M2, h4⟩ := M1.newDat (id := S.length) (by simp [o0]) hinv (M1.datAt hi')
 have hρ : ρ2 i = ρ1 i := h3 i (by simp; omega)
 have e : l7 F ρ2 (l8 (o0 S) [(S.length, .dat d)]) = l7 F ρ2 (o0 S1) := by
  funext k
  cases k with
  | inl q => rfl
  | inr j =>
   simp only [l7, l8]
   by_cases hj : j = S.length
   ·subst hj; rw [if_pos rfl, hd]
   ·rw [if_neg hj]
    by_cases hj2 : j < S.length
    ·exact (h2 ρ2 (by rw [← h4, hρ]) j hj2).symm
    ·rw [y5 (by omega), y5 (by omega)]
 rw [e] at M2
 refine ⟨ρ2, fun k hk => by
  have hk : k < pre.length := hk
  rw [h3 k (by simp; omega)]; exact h1 k hk, ?_, M2⟩
 exact congrArg _ (AV.val_congr res fun k hk => by
  have := I4 hg k hk
  exact h3 k (by simp; omega)).symm
theorem bo5 (c : List UInt8) : j9.ok Tryz.prog ⟨21, [.ref 0], [dY c], [dY c, .box [.ref 2, iA 0], dY (bsD c)], .ptr 1 0⟩ := by
 by_cases h : c.length ≤ 2000
 ·have e : bsD c = c := cc6 h
  rw [e]
  refine j9.twice (bb9 c h) (i := 0) _ rfl (by show (1 : Nat) ≤ 2; omega) rfl rfl rfl rfl fun ρ hρ j hj => ?_
  have hj : j < 2 := hj
  match j, hj with
  | 0, _ => rfl
  | 1, _ =>
   have hρ : ρ 2 = ρ 0 := hρ
   simp only [o0, cb3, cb5, cb4, Option.getD_some, It.res, AV.vals, AV.val, hρ]
 ·exact bb8 c (by omega)
abbrev cdC (b : List UInt8) (j : Int) : j9 := ⟨47, [.ptr 0 0], [.box [.ref 1, iA j], dY b], [.box [.ref 1, iA (C3 b j).2], dY b, rI (C3 b j).1.vars, rI (C3 b j).1.arrays, rN (C3 b j).1.list], .agg [.ref 2, .ref 3, .ref 4]⟩
abbrev P5 (b : List UInt8) (j X : Int) (k : Nat) : List d8 × Int := rsD b ((Y2 b j).2 + 1) (L0 b j).vars.length (L0 b j).arrays.length X k
section
variable {b : List UInt8} {j X : Int} {k : Nat}
theorem b14 (hX : nm b (Y2 b j).2 lnL = X) (hk : (k : Int) = X - 1) (h3 : ¬ X > 3) : (C3 b j).1.list = (P5 b j X k).1 ++ [⟨13, 0, 0, 0, 0⟩] ∧ (C3 b j).2 = (P5 b j X k).2 := by
 obtain rfl : k = (X - 1).toNat := by omega
 unfold C3 clD
 simp only [hX, if_neg h3]
 constructor <;> first | trivial | rfl
theorem b13 (hX : nm b (Y2 b j).2 lnL = X) (hk : (k : Int) = X - 1) (h3 : X > 3) (h : ¬ pk b (P5 b j X k).2 4 = 0) : (C3 b j).1.list = (P5 b j X k).1 ++ [⟨13, 0, 0, 0, 0⟩] ∧ (C3 b j).2 = (P5 b j X k).2 + 1 := by
 obtain rfl : k = (X - 1).toNat := by omega
 unfold P5 at h
 unfold C3 clD
 simp only [hX, if_pos h3, if_neg h]
 constructor <;> first | trivial | rfl
theorem b12 (hX : nm b (Y2 b j).2 lnL = X) (hk : (k : Int) = X - 1) (h3 : X > 3) (h : pk b (P5 b j X k).2 4 = 0) : (C3 b j).1.list = (((P5 b j X k).1 ++ [(⟨13, 0, 0, 0, 0⟩ : d8)]).set 0 ⟨1, 5, 1 + pk b ((P5 b j X k).2 + 1) 3, 0, 0⟩).set (X - 2).toNat ⟨10, 5, 1, 0, 0⟩ ∧ (C3 b j).2 = (P5 b j X k).2 + 1 + 1 := by
 obtain rfl : k = (X - 1).toNat := by omega
 unfold P5 at h
 unfold C3 clD
 simp only [hX, if_pos h3, if_pos h]
 constructor
 ·first | trivial | rfl
 ·exact (Int.add_assoc _ 1 1).symm
theorem pw3 (b : List UInt8) {i : Int} (h0 : 0 ≤ i) (h1 : i ≤ 1000000000) : IntKind.i64.wrap (1 + pk b i 3) = 1 + pk b i 3 := by
 have := a78 b (i := i) (m := 3) h0 h1
 exact w64 (by omega) (by omega)
theorem bW0 (b : List UInt8) {j : Int} (X : Int) (r0 : 0 ≤ j) (r1 : j ≤ 10000000) (k : Nat) : (P5 b j X k).1.length = k ∧ (Y2 b j).2 + 1 ≤ (P5 b j X k).2 ∧ (P5 b j X k).2 ≤ (Y2 b j).2 + 1 + 5 * k :=
 bO7 b ((Y2 b j).2 + 1) _ _ X k
end
abbrev aI5 (b : List UInt8) (j : Int) (X : Int) (k : Nat) := rnD b (P5 b j X k).snd (L0 b j).vars.length (L0 b j).arrays.length (k : Int) X
abbrev aI4 (b : List UInt8) (j : Int) : List It := [.box [.ref 1, iA (C3 b j).snd], dY b, .row 3 (D.ints (C3 b j).fst.vars), .row 3 (D.ints (C3 b j).fst.arrays), .row 60 (D.instrs (C3 b j).fst.list)]
abbrev aU1 : It := .box [.v (.slice none 0 0), .v (.slice none 0 0), .v (.slice none 0 0)]
abbrev az3 (b : List UInt8) (j : Int) : It := .row 3 (D.ints (L0 b j).arrays)
abbrev az2 (b : List UInt8) (j : Int) : It := .row 3 (D.ints (L0 b j).vars)
abbrev bK9 (b : List UInt8) (j : Int) (X : Int) (k : Nat) : It := .row 60 (D.instrs ((((P5 b j X k).fst ++ ([d8.mk 13 0 0 0 0] ++ [])).set 0 (d8.mk 1 5 (1 + pk b ((P5 b j X k).snd + 1) 3) 0 0)).set (X - 2).toNat (d8.mk 10 5 1 0 0)))
abbrev bd9 (b : List UInt8) (j : Int) (X : Int) (k : Nat) : It := .row 60 (D.instrs ((P5 b j X k).fst ++ ([d8.mk 13 0 0 0 0] ++ [])))
abbrev at9 (X : Int) (r0 : List (Nat × AV)) : List (Nat × AV) := (0, .ptr 0 0) :: (2, .ptr 2 0) :: (4, .ptr 5 0) :: (5, iA X) :: r0
abbrev ay8 (b : List UInt8) (j : Int) (r0 : List It) : List It := dY b :: aU1 :: az2 b j :: az3 b j :: .box [.ref 3, .ref 4, .ref 6] :: r0
theorem bt1 (b : List UInt8) (j X : Int) (hX : nm b (Y2 b j).2 lnL = X) (r0 : 0 ≤ j) (r1 : j ≤ 10000000) : j9.ok Tryz.prog (cdC b j) := by
  have hbd := bJ5 b r0 r1; have hnum : j9.ok Tryz.prog ⟨46, [.ptr 0 0, .ref 2], [.box [.ref 1, iA (Y2 b j).2], dY b, dI lnL], [.box [.ref 1, iA ((Y2 b j).2 + 1)], dY b, dI lnL], iA X⟩ := hX ▸ P0 b (Y2 b j).2 lnL (List.cons_ne_nil _ _) (by omega) (by omega); refine K9 60 Tryz.func47 [.box [.ref 1, iA j], dY b] [(0, .ptr 0 0)] fun G => ?_; have hop : 1 ≤ X ∧ X ≤ 12 := hX ▸ bQ8 b (by omega) (by omega); refine wp_seq (l0 G f8 [0, 1, 2] [.box [.ref 1, iA j], dY b, aU1] [(0, .ptr 0 0), (2, .ptr 2 0)] fun G => b0 (wp_seq (l0 G (A4 1 [0, 1] (av3 b j (by assumption) (by assumption))) [0, 1, 2, 11, 12, 13, 19] [.box [.ref 1, iA (Y2 b j).snd], dY b, aU1, az2 b j, az3 b j, .tree (D.stmts (L0 b j).body), .box [.ref 3, .ref 4, .tref 5]] [(0, .ptr 0 0), (2, .ptr 2 0), (3, .ptr 6 0)] fun G => b0 (wp_seq (l0 G f8 [0, 1, 2, 3, 4, 47] [.box [.ref 1, iA (Y2 b j).snd], dY b, aU1, az2 b j, az3 b j, .box [.ref 3, .ref 4, .v (.slice none 0 0)]] [(0, .ptr 0 0), (2, .ptr 2 0), (4, .ptr 5 0)] fun G => b0 (wp_seq (l0 G (A4 2 [0, 1, 14] (j9.lend hnum [.no, .no, .row 3])) (rg 6) [.box [.ref 1, iA ((Y2 b j).snd + 1)], dY b, aU1, az2 b j, az3 b j, .box [.ref 3, .ref 4, .v (.slice none 0 0)]] (at9 X []) fun G => b0 (wp_seq (wp_seq (I8 G f8 (at9 X [(6, iA 0)]) fun G => b0 (wp_block ?_))))))))))); obtain ⟨ρ, G⟩ := G.nil 6 60 (.instrs []) 5 [.box [.ref 1, iA ((Y2 b j).snd + 1)], dY b, .box [.v (.slice none 0 0), .v (.slice none 0 0), .v (.slice none 0 0)], .row 3 (D.ints (L0 b j).vars), .row 3 (D.ints (L0 b j).arrays), .box [.ref 3, .ref 4, .ref 6]] (at9 X [(6, iA 0)]); refine A8 (κ := Nat) (fun k => (k : Int) ≤ X - 1) (fun k => (X - 1).toNat - k) (fun k => (.box [.ref 1, iA (P5 b j X k).2] :: (ay8 b j [.row 60 (.instrs (P5 b j X k).1)]))) (fun k => (at9 X [(6, iA k)])) 0 (by omega) (v5.at G _ _) ?_; clear G; intro k ρ a w hp G; replace G := v5.at G (.box [.ref 1, iA (P5 b j X k).snd] :: (ay8 b j [.row 60 (D.instrs (P5 b j X k).fst)])) (at9 X [(6, iA k)]); have hrs := bW0 b X r0 r1 k; refine wp_seq (wp_seq (O0 G f8 [(20, bA (decide ((k : Int) < X - 1)))] [wO (X - 1)] (o1 (by omega)) fun G => b0 (rcD G (fun h0 q0 => ?_) fun h0 q0 => ?_)))
  ·
   refine wp_exit (A2 (A2 (A1 (b0 (wp_seq (V2 G f8 [0, 1, 2, 3, 4, 5, 39] (.box [.ref 1, iA (P5 b j X k).snd] :: (ay8 b j [bd9 b j X k])) (at9 X []) (aP ((P5 b j X k).fst.length + ([d8.mk (13 : Int) (0 : Int) (0 : Int) (0 : Int) (0 : Int)] ++ []).length) 40 []) (aK (by simp only [cb2, cb8, cc1, cd2]; omega) cc2) fun G => b0 (wp_seq (wp_seq ?_)))))))); cases h1 : (decide (X > 3))
   · have q1 := dFf h1; refine m7 G (N1 (fc h1 fz) [(3, 0), (4, 0), (5, 0), (1006, 0)]) [(45, bA false)] fun G => b0 (rF G false (by kernel_rfl) (wp_skip (b0 (wp_seq (l0 G f8 [0, 1, 2, 3, 4, 6] [.box [.ref 1, iA (P5 b j X k).snd], dY b, .box (pL 3), az2 b j, az3 b j, bd9 b j X k] [(2, .ptr 2 0)] fun G => b0 (wp_ret ?_)))))); exact L6 G [0, 1, 3, 4, 5] (by show _ = mR [0, 1, 3, 4, 5] (aI4 b j); unfold aI4; have e1 : ((C3 b j).snd : Int) = ((P5 b j X k).snd) := ((b14 hX (by omega) (by omega)).2); have e2 : ((C3 b j).fst.list : List d8) = ((P5 b j X k).fst ++ ([d8.mk 13 0 0 0 0] ++ [])) := ((b14 hX (by omega) (by omega)).1); (first | rw [e1, e2] | simp only [e1, e2]) <;> rfl)
   ·
    have q1 := dTt h1; refine l0 G (X7 (H7 4 [0, 1] (C7 b ((P5 b j X k).snd) 4 (by omega) (by omega)) X6) (fc h1 fz) [(3, 0), (4, 0), (5, 0), (1006, 0)]) (rg 7) (.box [.ref 1, iA ((P5 b j X k).snd + 1)] :: (ay8 b j [bd9 b j X k])) (at9 X [(45, bA (pk b (P5 b j X k).snd 4 == 0))]) fun G => b0 (rcE G (fun h2 q2 => ?_) fun h2 q2 => ?_)
    · refine wp_skip (b0 (wp_seq (l0 G f8 [0, 1, 2, 3, 4, 6] [.box [.ref 1, iA ((P5 b j X k).snd + 1)], dY b, .box (pL 3), az2 b j, az3 b j, bd9 b j X k] [(2, .ptr 2 0)] fun G => b0 (wp_ret ?_)))); exact L6 G [0, 1, 3, 4, 5] (by show _ = mR [0, 1, 3, 4, 5] (aI4 b j); unfold aI4; have e1 : ((C3 b j).snd : Int) = ((P5 b j X k).snd + 1) := ((b13 hX (by omega) (by omega) (by omega)).2); have e2 : ((C3 b j).fst.list : List d8) = ((P5 b j X k).fst ++ ([d8.mk 13 0 0 0 0] ++ [])) := ((b13 hX (by omega) (by omega) (by omega)).1); (first | rw [e1, e2] | simp only [e1, e2]) <;> rfl)
    · refine wp_seq (L7 G (A4 3 [0, 1] (C7 b ((P5 b j X k).snd + 1) 3 (by omega) (by omega))) [0, 1, 0, 4, 12, 28, 63, 127] (rg 7) (.box [.ref 1, iA ((P5 b j X k).snd + 1 + 1)] :: (ay8 b j [.row 60 (D.instrs (((P5 b j X k).fst ++ ([d8.mk 13 0 0 0 0] ++ [])).set 0 (d8.mk 1 5 (1 + pk b ((P5 b j X k).snd + 1) 3) 0 0)))])) [(2, .ptr 2 0), (4, .ptr 5 0), (5, iA X)] [wO ((1 : Int) + pk b ((P5 b j X k).snd + 1) (3 : Int)), (0 : Int) ≤ 0, (0 : Int) < (((P5 b j X k).fst ++ ([d8.mk (13 : Int) (0 : Int) (0 : Int) (0 : Int) (0 : Int)] ++ [])).length : Int), (0 : Nat) < ((P5 b j X k).fst ++ ([d8.mk (13 : Int) (0 : Int) (0 : Int) (0 : Int) (0 : Int)] ++ [])).length] ⟨(pw3 b (by omega) (by omega)), (by omega), (by simp [h0, h1, h2]), (by simp [h0, h1, h2]), cc2⟩ fun G => b0 (V2 G f8 (rg 7) (.box [.ref 1, iA ((P5 b j X k).snd + 1 + 1)] :: (ay8 b j [bK9 b j X k])) [(2, .ptr 2 0), (4, .ptr 5 0)] [wO (X - 2), (0 : Int) ≤ X - 2, X - 2 < ((((P5 b j X k).fst ++ ([d8.mk (13 : Int) (0 : Int) (0 : Int) (0 : Int) (0 : Int)] ++ [])).set (0 : Nat) (d8.mk (1 : Int) (5 : Int) ((1 : Int) + pk b ((P5 b j X k).snd + 1) (3 : Int)) (0 : Int) (0 : Int))).length : Int), (X - 2).toNat < (((P5 b j X k).fst ++ ([d8.mk (13 : Int) (0 : Int) (0 : Int) (0 : Int) (0 : Int)] ++ [])).set (0 : Nat) (d8.mk (1 : Int) (5 : Int) ((1 : Int) + pk b ((P5 b j X k).snd + 1) (3 : Int)) (0 : Int) (0 : Int))).length] ⟨oW (by omega), (by omega), (by simp only [cb2, cb8, cc1, cd2]; omega), (by simp only [cb2, cb8, cc1, cd2]; omega), cc2⟩ fun G => b0 (wp_seq (l0 G f8 [0, 1, 2, 3, 4, 6] [.box [.ref 1, iA ((P5 b j X k).snd + 1 + 1)], dY b, .box (pL 3), az2 b j, az3 b j, bK9 b j X k] [(2, .ptr 2 0)] fun G => b0 (wp_ret ?_))))); exact L6 G [0, 1, 3, 4, 5] (by show _ = mR [0, 1, 3, 4, 5] (aI4 b j); unfold aI4; have e1 : ((C3 b j).snd : Int) = ((P5 b j X k).snd + 1 + 1) := ((b12 hX (by omega) (by omega) (by omega)).2); have e2 : ((C3 b j).fst.list : List d8) = ((((P5 b j X k).fst ++ ([d8.mk 13 0 0 0 0] ++ [])).set 0 (d8.mk 1 5 (1 + pk b ((P5 b j X k).snd + 1) 3) 0 0)).set (X - 2).toNat (d8.mk 10 5 1 0 0)) := ((b12 hX (by omega) (by omega) (by omega)).1); (first | rw [e1, e2] | simp only [e1, e2]) <;> rfl)
  · refine wp_skip (b0 (wp_seq (wp_block (L7 G (A4 6 [0, 1, 3, 4, 6] (j9.lend (bb0 b ((P5 b j X k).snd) ((L0 b j).vars) ((L0 b j).arrays) ((P5 b j X k).fst) ((k : Int)) X (by omega) (by omega) (by omega) (by omega)) [.no, .no, .row 3, .row 3, .row 60])) [0, 1, 0, 0, 0, 0, 60, 124, 255, 511, 1023] [0, 1, 2, 3, 4, 5, 71] (.box [.ref 1, iA (aI5 b j X k).snd] :: (ay8 b j [.row 60 (D.instrs ((P5 b j X k).fst ++ ([d8.mk (aI5 b j X k).fst.op (aI5 b j X k).fst.a (aI5 b j X k).fst.b (aI5 b j X k).fst.c (aI5 b j X k).fst.d] ++ [])))])) (at9 X [(6, iA k)]) (aP ((P5 b j X k).fst.length + ([d8.mk (rnD b (P5 b j X k).snd (L0 b j).vars.length (L0 b j).arrays.length (k : Int) X).fst.op (rnD b (P5 b j X k).snd (L0 b j).vars.length (L0 b j).arrays.length (k : Int) X).fst.a (rnD b (P5 b j X k).snd (L0 b j).vars.length (L0 b j).arrays.length (k : Int) X).fst.b (rnD b (P5 b j X k).snd (L0 b j).vars.length (L0 b j).arrays.length (k : Int) X).fst.c (rnD b (P5 b j X k).snd (L0 b j).vars.length (L0 b j).arrays.length (k : Int) X).fst.d] ++ []).length) 40 []) (aK (by simp only [cb2, cb8, cc1, cd2]; omega) cc2) fun G => t5 (b0 (O0 G f8 [(6, iA ((k : Int) + 1))] [wO ((k : Int) + 1)] (o1 (by omega)) fun G => b0 ?_)))))); exact rxn G (k + 1) (by assumption) (by omega) (rg 7)
theorem bA6 (b : List UInt8) (j : Int) (r0 : 0 ≤ j) (r1 : j ≤ 10000000) : j9.ok Tryz.prog (cdC b j) := bt1 b j _ rfl r0 r1
abbrev muC (b : List UInt8) (j : Int) (vs ars : List Int) (l : List d8) : j9 := ⟨22, [.ptr 0 0, .agg [.ref 2, .ref 3, .ref 4]], [.box [.ref 1, iA j], dY b, dI vs, dI ars, dN l], [.box [.ref 1, iA (muD b j ⟨vs, ars, l⟩).2], dY b, dI vs, dI ars, dN l, rI (muD b j ⟨vs, ars, l⟩).1.vars, rI (muD b j ⟨vs, ars, l⟩).1.arrays, rN (muD b j ⟨vs, ars, l⟩).1.list], .agg [.ref 5, .ref 6, .ref 7]⟩
section
variable {b : List UInt8} {j : Int} {vs ars : List Int} {l : List d8}
theorem b87 (h : (([] ++ l).length : Int) = 0) : muD b j ⟨vs, ars, l⟩ = (⟨[] ++ vs, [] ++ ars, [] ++ l⟩, j) := by
 unfold muD; rw [if_pos (by rw [cf8] at h; show l.length = 0; omega)]
 rfl
theorem b94 (h : ¬ (([] ++ l).length : Int) = 0) (h1 : pk b j 60 = 0) : muD b j ⟨vs, ars, l⟩ = (⟨vs, ars, bO9 l 0 (nm b (j + 1) bX6)⟩, j + 1 + 1) := by
 unfold muD; rw [if_neg (by rw [cf8] at h; show ¬ l.length = 0; omega), if_pos h1, Int.add_assoc]; rfl
theorem b93 (h : ¬ (([] ++ l).length : Int) = 0) (h1 : pk b j 60 = 1) : muD b j ⟨vs, ars, l⟩ = (⟨vs, ars, bu6 l (pk b (j + 1) l.length).toNat (nm b (j + 1 + 1) bX5)⟩, j + 1 + 1 + 1) := by
 unfold muD; rw [if_neg (by rw [cf8] at h; show ¬ l.length = 0; omega), if_neg (by omega), if_pos h1, Int.add_assoc j 1 1, Int.add_assoc]; rfl
theorem b92 (h : ¬ (([] ++ l).length : Int) = 0) (h1 : pk b j 60 = 2) : muD b j ⟨vs, ars, l⟩ = (⟨vs, ars, ([] ++ l).set ((([] ++ l).length : Int) - 1).toNat ⟨12, 0, 0, 0, 0⟩⟩, j + 1) := by
 unfold muD; rw [if_neg (by rw [cf8] at h; show ¬ l.length = 0; omega), if_neg (by omega), if_neg (by omega), if_pos h1]
 rw [cf8] at h ⊢
 exact congrArg (fun i => ((⟨vs, ars, l.set i _⟩ : b6), j + 1)) (by show l.length - 1 = _; omega)
theorem b91 (h : ¬ (([] ++ l).length : Int) = 0) (h1 : pk b j 60 = 3) : muD b j ⟨vs, ars, l⟩ = (⟨vs, ars, ([] ++ l).set ((([] ++ l).length : Int) - 1).toNat ⟨8, 0, 0, 0, 0⟩⟩, j + 1) := by
 unfold muD; rw [if_neg (by rw [cf8] at h; show ¬ l.length = 0; omega), if_neg (by omega), if_neg (by omega), if_neg (by omega), if_pos h1]
 rw [cf8] at h ⊢
 exact congrArg (fun i => ((⟨vs, ars, l.set i _⟩ : b6), j + 1)) (by show l.length - 1 = _; omega)
theorem b90 (h : ¬ (([] ++ l).length : Int) = 0) (h1 : pk b j 60 = 4) : muD b j ⟨vs, ars, l⟩ = (⟨vs, ars, bP0 l (pk b (j + 1) l.length).toNat (nm b (j + 1 + 1) bX4)⟩, j + 1 + 1 + 1) := by
 unfold muD; rw [if_neg (by rw [cf8] at h; show ¬ l.length = 0; omega), if_neg (by omega), if_neg (by omega), if_neg (by omega), if_neg (by omega), if_pos h1, Int.add_assoc j 1 1, Int.add_assoc]; rfl
theorem b89 (h : ¬ (([] ++ l).length : Int) = 0) (h1 : pk b j 60 = 5) : muD b j ⟨vs, ars, l⟩ = (⟨[], ars, l⟩, j + 1) := by
 unfold muD; rw [if_neg (by rw [cf8] at h; show ¬ l.length = 0; omega), if_neg (by omega), if_neg (by omega), if_neg (by omega), if_neg (by omega), if_neg (by omega), if_pos h1]
theorem b86 (h : ¬ (([] ++ l).length : Int) = 0) (h1 : ¬ pk b j 60 = 0 ∧ ¬ pk b j 60 = 1 ∧ ¬ pk b j 60 = 2 ∧ ¬ pk b j 60 = 3 ∧ ¬ pk b j 60 = 4 ∧ ¬ pk b j 60 = 5) : muD b j ⟨vs, ars, l⟩ = (⟨[] ++ vs, [] ++ ars, [] ++ l⟩, j + 1) := by
 unfold muD; rw [if_neg (by rw [cf8] at h; show ¬ l.length = 0; omega), if_neg (by omega), if_neg (by omega), if_neg (by omega), if_neg (by omega), if_neg (by omega), if_neg (by omega)]
 rfl
theorem b85 (h : ¬ (([] ++ l).length : Int) = 0) (r0 : 0 ≤ j) (r1 : j ≤ 100000000) : 0 ≤ pk b (j + 1) (([] ++ l).length : Int) ∧ pk b (j + 1) (([] ++ l).length : Int) < (([] ++ l).length : Int) := bG5 b (by omega) (by omega) (by omega)
end
abbrev T9 (b : List UInt8) (j : Int) (vs : List Int) (ars : List Int) (l : List d8) : List It := [.box [.ref 1, iA (muD b j (b6.mk vs ars l)).snd], dY b, dI vs, dI ars, dN l, .row 3 (D.ints (muD b j (b6.mk vs ars l)).fst.vars), .row 3 (D.ints (muD b j (b6.mk vs ars l)).fst.arrays), .row 60 (D.instrs (muD b j (b6.mk vs ars l)).fst.list)]
abbrev bK8 (b : List UInt8) (j : Int) (l : List d8) : It := .row 60 (D.instrs (([] ++ l).set (pk b (j + 1) (([] ++ l).length : Int)).toNat (d8.mk (([] ++ l).getD (pk b (j + 1) (([] ++ l).length : Int)).toNat ca9).op (nm b (j + 1 + 1) ([-1] ++ ([14] ++ ([0] ++ ([400] ++ []))))) (([] ++ l).getD (pk b (j + 1) (([] ++ l).length : Int)).toNat ca9).b (([] ++ l).getD (pk b (j + 1) (([] ++ l).length : Int)).toNat ca9).c (([] ++ l).getD (pk b (j + 1) (([] ++ l).length : Int)).toNat ca9).d)))
abbrev bK7 (b : List UInt8) (j : Int) (l : List d8) : It := .row 60 (D.instrs (([] ++ l).set (pk b (j + 1) (([] ++ l).length : Int)).toNat (d8.mk (([] ++ l).getD (pk b (j + 1) (([] ++ l).length : Int)).toNat ca9).op (([] ++ l).getD (pk b (j + 1) (([] ++ l).length : Int)).toNat ca9).a (([] ++ l).getD (pk b (j + 1) (([] ++ l).length : Int)).toNat ca9).b (([] ++ l).getD (pk b (j + 1) (([] ++ l).length : Int)).toNat ca9).c (nm b (j + 1 + 1) ([1] ++ ([-1] ++ []))))))
abbrev am8 : It := .box [.v (.slice none 0 0), .v (.slice none 0 0), .v (.slice none 0 0)]
abbrev bK6 (b : List UInt8) (j : Int) (l : List d8) : It := .row 60 (D.instrs (([] ++ l).set 0 (d8.mk (nm b (j + 1) ([0] ++ ([14] ++ ([1] ++ ([12] ++ []))))) (([] ++ l).getD 0 ca9).a (([] ++ l).getD 0 ca9).b (([] ++ l).getD 0 ca9).c (([] ++ l).getD 0 ca9).d)))
abbrev Y5 (vs : List Int) (ars : List Int) (r0 : List It) : List It := .row 3 (D.ints ([] ++ vs)) :: .row 3 (D.ints ([] ++ ars)) :: r0
theorem bb1 (b : List UInt8) (j : Int) (vs ars : List Int) (l : List d8) (hb : vs.length ≤ 1048576 ∧ ars.length ≤ 1048576 ∧ l.length ≤ 9000000) (r0 : 0 ≤ j) (r1 : j ≤ 100000000) : j9.ok Tryz.prog (muC b j vs ars l) := by
  refine K9 82 Tryz.func22 [.box [.ref 1, iA j], dY b, dI vs, dI ars, dN l] [(0, .ptr 0 0), (1, pA 2)] fun G => ?_
  have hmp := fun (h : ¬ (([] ++ l).length : Int) = 0) => b85 (b := b) (j := j) (l := l) h r0 r1
  have hll : ([] ++ l).length ≤ 9000000 := hb.2.2; refine wp_seq (l0 G f8 [0, 1, 2, 3, 4, 5, 13] [.box [.ref 1, iA j], dY b, dI vs, dI ars, dN l, .box (pL 2), am8] [(0, .ptr 0 0), (3, .ptr 5 0), (4, .ptr 6 0)] fun G => b0 (wp_seq (L7 G f8 [0, 0, 2, 7, 0, 0, 32, 127, 0, 0, 512, 2047, 4095, 0, 16383] [0, 1, 2, 3, 4, 6, 31, 63, 95, 111] (.box [.ref 1, iA j] :: dY b :: dI vs :: dI ars :: dN l :: am8 :: (Y5 vs ars [.row 60 (D.instrs ([] ++ l)), .box (pL 6)])) [(0, .ptr 0 0), (4, .ptr 5 0), (5, .ptr 9 0)] (aP ((0 : Nat) + vs.length) 8 (aP ((0 : Nat) + ars.length) 8 (aP ((0 : Nat) + l.length) 40 []))) (aK (by omega) (aK (by omega) (aK (by omega) cc2))) fun G => b0 (wp_seq (m7 G f8 [(6, iA (([] ++ l).length : Int))] fun G => b0 (wp_seq (wp_seq (m7 G f8 [(24, bA ((([] ++ l).length : Int) == 0))] fun G => b0 (rcE G (fun h0 q0 => ?_) fun h0 q0 => ?_)))))))))
  ·
   refine wp_skip (b0 (wp_seq (wp_seq (l0 G (A4 1 [0, 1] (C7 b j 60 (by assumption) (by omega))) (rg 10) (.box [.ref 1, iA (j + 1)] :: dY b :: dI vs :: dI ars :: dN l :: am8 :: (Y5 vs ars [.row 60 (D.instrs ([] ++ l)), .box (pL 6)])) [(0, .ptr 0 0), (4, .ptr 5 0), (5, .ptr 9 0), (6, iA (([] ++ l).length : Int)), (27, iA (pk b j 60))] fun G => b0 (wp_block (wp_seq (m7 G f8 [(28, bA (pk b j 60 == 0))] fun G => b0 (rcE G (fun h1 q1 => ?_) fun h1 q1 => ?_))))))))
   ·
    refine wp_seq (m7 G f8 [(37, bA (pk b j 60 == 1))] fun G => b0 (rcE G (fun h2 q2 => ?_) fun h2 q2 => ?_))
    ·
     refine wp_seq (m7 G f8 [(49, bA (pk b j 60 == 2))] fun G => b0 (rcE G (fun h3 q3 => ?_) fun h3 q3 => ?_))
     ·
      refine wp_seq (m7 G f8 [(57, bA (pk b j 60 == 3))] fun G => b0 (rcE G (fun h4 q4 => ?_) fun h4 q4 => ?_))
      ·
       refine wp_seq (m7 G f8 [(65, bA (pk b j 60 == 4))] fun G => b0 (rcE G (fun h5 q5 => ?_) fun h5 q5 => ?_))
       ·
        refine wp_seq (m7 G f8 [(77, bA (pk b j 60 == 5))] fun G => b0 (rcE G (fun h6 q6 => ?_) fun h6 q6 => ?_))
        · refine wp_skip (t5 (b0 (wp_seq (l0 G f8 (rg 9) (.box [.ref 1, iA (j + 1)] :: dY b :: dI vs :: dI ars :: dN l :: .box (pL 6) :: (Y5 vs ars [.row 60 (D.instrs ([] ++ l))])) [(4, .ptr 5 0)] fun G => b0 (wp_ret ?_))))); exact L6 G [0, 1, 2, 3, 4, 6, 7, 8] (by show _ = mR [0, 1, 2, 3, 4, 6, 7, 8] (T9 b j vs ars l); unfold T9; rw [b86 (by omega) (by omega)] <;> rfl)
        · refine l0 G f8 [0, 1, 2, 3, 4, 5, 7, 8, 9, 10] [.box [.ref 1, iA (j + 1)], dY b, dI vs, dI ars, dN l, am8, .row 3 (D.ints ([] ++ ars)), .row 60 (D.instrs ([] ++ l)), .box [.ref 9, .ref 6, .ref 7], .row 3 (D.ints [])] [(4, .ptr 5 0), (5, .ptr 8 0)] fun G => t5 (b0 (wp_seq (l0 G f8 [0, 1, 2, 3, 4, 5, 6, 7, 9] [.box [.ref 1, iA (j + 1)], dY b, dI vs, dI ars, dN l, .box [.ref 8, .ref 6, .ref 7], .row 3 (D.ints ([] ++ ars)), .row 60 (D.instrs ([] ++ l)), .row 3 (D.ints [])] [(4, .ptr 5 0)] fun G => b0 (wp_ret ?_)))); exact L6 G [0, 1, 2, 3, 4, 8, 6, 7] (by show _ = mR [0, 1, 2, 3, 4, 8, 6, 7] (T9 b j vs ars l); unfold T9; rw [b89 (by omega) (by omega)] <;> rfl)
       · refine L7 G (X7 (H7 4 [0, 1] (C7 b (j + 1) ((([] ++ l).length : Int)) (by omega) (by omega)) (H7 7 [0, 1, 58] (j9.lend (P0 b (j + 1 + 1) ([1] ++ ([-1] ++ [])) (by simp [h0, h1, h2, h3, h4, h5]) (by omega) (by omega)) [.no, .no, .row 3]) X6)) fz []) [0, 1, 0, 0, 12, 0, 0, 124, 255, 511, 1023] (rg 10) (.box [.ref 1, iA (j + 1 + 1 + 1)] :: dY b :: dI vs :: dI ars :: dN l :: am8 :: (Y5 vs ars [bK7 b j l, .box (pL 6)])) [(4, .ptr 5 0), (5, .ptr 9 0)] (iX (pk b (j + 1) (([] ++ l).length : Int)) ((pk b (j + 1) (([] ++ l).length : Int)).toNat) (([] ++ l).length) []) (iK (by omega) cc2) fun G => t5 (b0 (wp_seq (l0 G f8 (rg 9) (.box [.ref 1, iA (j + 1 + 1 + 1)] :: dY b :: dI vs :: dI ars :: dN l :: .box (pL 6) :: (Y5 vs ars [bK7 b j l])) [(4, .ptr 5 0)] fun G => b0 (wp_ret ?_)))); exact L6 G [0, 1, 2, 3, 4, 6, 7, 8] (by show _ = mR [0, 1, 2, 3, 4, 6, 7, 8] (T9 b j vs ars l); unfold T9; rw [b90 (by omega) (by omega)] <;> rfl)
      · refine V2 G f8 (rg 10) (.box [.ref 1, iA (j + 1)] :: dY b :: dI vs :: dI ars :: dN l :: am8 :: (Y5 vs ars [.row 60 (D.instrs (([] ++ l).set ((([] ++ l).length : Int) - 1).toNat (d8.mk 8 0 0 0 0))), .box (pL 6)])) [(4, .ptr 5 0), (5, .ptr 9 0)] ((wO ((([] ++ l).length : Int) - 1)) :: (iX ((([] ++ l).length : Int) - 1) (((([] ++ l).length : Int) - 1).toNat) (([] ++ l).length) [])) ⟨oW (by omega), (iK (by omega) cc2)⟩ fun G => t5 (b0 (wp_seq (l0 G f8 (rg 9) (.box [.ref 1, iA (j + 1)] :: dY b :: dI vs :: dI ars :: dN l :: .box (pL 6) :: (Y5 vs ars [.row 60 (D.instrs (([] ++ l).set ((([] ++ l).length : Int) - 1).toNat (d8.mk 8 0 0 0 0)))])) [(4, .ptr 5 0)] fun G => b0 (wp_ret ?_)))); exact L6 G [0, 1, 2, 3, 4, 6, 7, 8] (by show _ = mR [0, 1, 2, 3, 4, 6, 7, 8] (T9 b j vs ars l); unfold T9; rw [b91 (by omega) (by omega)] <;> rfl)
     · refine V2 G f8 (rg 10) (.box [.ref 1, iA (j + 1)] :: dY b :: dI vs :: dI ars :: dN l :: am8 :: (Y5 vs ars [.row 60 (D.instrs (([] ++ l).set ((([] ++ l).length : Int) - 1).toNat (d8.mk 12 0 0 0 0))), .box (pL 6)])) [(4, .ptr 5 0), (5, .ptr 9 0)] ((wO ((([] ++ l).length : Int) - 1)) :: (iX ((([] ++ l).length : Int) - 1) (((([] ++ l).length : Int) - 1).toNat) (([] ++ l).length) [])) ⟨oW (by omega), (iK (by omega) cc2)⟩ fun G => t5 (b0 (wp_seq (l0 G f8 (rg 9) (.box [.ref 1, iA (j + 1)] :: dY b :: dI vs :: dI ars :: dN l :: .box (pL 6) :: (Y5 vs ars [.row 60 (D.instrs (([] ++ l).set ((([] ++ l).length : Int) - 1).toNat (d8.mk 12 0 0 0 0)))])) [(4, .ptr 5 0)] fun G => b0 (wp_ret ?_)))); exact L6 G [0, 1, 2, 3, 4, 6, 7, 8] (by show _ = mR [0, 1, 2, 3, 4, 6, 7, 8] (T9 b j vs ars l); unfold T9; rw [b92 (by omega) (by omega)] <;> rfl)
    · refine L7 G (X7 (H7 4 [0, 1] (C7 b (j + 1) ((([] ++ l).length : Int)) (by omega) (by omega)) (H7 7 [0, 1, 58] (j9.lend (P0 b (j + 1 + 1) ([-1] ++ ([14] ++ ([0] ++ ([400] ++ [])))) (by simp [h0, h1, h2]) (by omega) (by omega)) [.no, .no, .row 3]) X6)) fz []) [0, 1, 0, 0, 12, 0, 0, 124, 255, 511, 1023] (rg 10) (.box [.ref 1, iA (j + 1 + 1 + 1)] :: dY b :: dI vs :: dI ars :: dN l :: am8 :: (Y5 vs ars [bK8 b j l, .box (pL 6)])) [(4, .ptr 5 0), (5, .ptr 9 0)] (iX (pk b (j + 1) (([] ++ l).length : Int)) ((pk b (j + 1) (([] ++ l).length : Int)).toNat) (([] ++ l).length) []) (iK (by omega) cc2) fun G => t5 (b0 (wp_seq (l0 G f8 (rg 9) (.box [.ref 1, iA (j + 1 + 1 + 1)] :: dY b :: dI vs :: dI ars :: dN l :: .box (pL 6) :: (Y5 vs ars [bK8 b j l])) [(4, .ptr 5 0)] fun G => b0 (wp_ret ?_)))); exact L6 G [0, 1, 2, 3, 4, 6, 7, 8] (by show _ = mR [0, 1, 2, 3, 4, 6, 7, 8] (T9 b j vs ars l); unfold T9; rw [b93 (by omega) (by omega)] <;> rfl)
   · refine L7 G (A4 4 [0, 1, 34] (j9.lend (P0 b (j + 1) ([0] ++ ([14] ++ ([1] ++ ([12] ++ [])))) (by simp [h0, h1]) (by omega) (by omega)) [.no, .no, .row 3])) [0, 1, 0, 0, 12, 31, 63, 127] (rg 10) (.box [.ref 1, iA (j + 1 + 1)] :: dY b :: dI vs :: dI ars :: dN l :: am8 :: (Y5 vs ars [bK6 b j l, .box (pL 6)])) [(4, .ptr 5 0), (5, .ptr 9 0)] (iX 0 0 (([] ++ l).length) []) (iK (by omega) cc2) fun G => t5 (b0 (wp_seq (l0 G f8 (rg 9) (.box [.ref 1, iA (j + 1 + 1)] :: dY b :: dI vs :: dI ars :: dN l :: .box (pL 6) :: (Y5 vs ars [bK6 b j l])) [(4, .ptr 5 0)] fun G => b0 (wp_ret ?_)))); exact L6 G [0, 1, 2, 3, 4, 6, 7, 8] (by show _ = mR [0, 1, 2, 3, 4, 6, 7, 8] (T9 b j vs ars l); unfold T9; rw [b94 (by omega) (by omega)] <;> rfl)
  · refine wp_seq (l0 G f8 (rg 10) (.box [.ref 1, iA j] :: dY b :: dI vs :: dI ars :: dN l :: .box (pL 6) :: (Y5 vs ars [.row 60 (D.instrs ([] ++ l)), .box (pL 6)])) [(0, .ptr 0 0), (4, .ptr 5 0), (5, .ptr 9 0), (6, iA (([] ++ l).length : Int))] fun G => b0 (wp_ret (o5 ?_))); exact L6 G [0, 1, 2, 3, 4, 6, 7, 8] (by show _ = mR [0, 1, 2, 3, 4, 6, 7, 8] (T9 b j vs ars l); unfold T9; rw [b87 (by omega)] <;> rfl)
def jpE (b : List UInt8) (j : Int) : b6 × Int :=
 if pk b (C3 b j).2 2 = 0 then (if okC (L0 b ((C3 b j).2 + 1)) = true then ⟨cvP (L0 b ((C3 b j).2 + 1)), caP (L0 b ((C3 b j).2 + 1)), (R4 (L0 b ((C3 b j).2 + 1))).1⟩ else (C3 b j).1, (Y2 b ((C3 b j).2 + 1)).2)
 else ((C3 b j).1, (C3 b j).2 + 1)
def jpF (b : List UInt8) (c : b6) (q : Int) : b6 × Int :=
 if c.list.length ≤ 40 then (⟨c.vars, c.arrays, (J5 b c.list.length (c.list, q) (c.list.length - 1)).1⟩, (J5 b c.list.length (c.list, q) (c.list.length - 1)).2) else (c, q)
def jpD (b : List UInt8) (j : Int) : b6 × Int := jpF b (jpE b j).1 (jpE b j).2
section
variable {b : List UInt8} {j q n : Int} {vs ars : List Int} {l : List d8} {x : List d8 × Int} {k : Nat}
theorem bY3 (h : ¬ pk b (C3 b j).2 2 = 0) : jpE b j = ((C3 b j).1, (C3 b j).2 + 1) := by unfold jpE; rw [if_neg h]
theorem bY4 (h : pk b (C3 b j).2 2 = 0) (h2 : okC (L0 b ((C3 b j).2 + 1)) = false) : jpE b j = ((C3 b j).1, (Y2 b ((C3 b j).2 + 1)).2) := by unfold jpE; rw [if_pos h, if_neg (by rw [h2]; decide)]
theorem bY2 (h : pk b (C3 b j).2 2 = 0) (h2 : okC (L0 b ((C3 b j).2 + 1)) = true) : jpE b j = (⟨cvP (L0 b ((C3 b j).2 + 1)), caP (L0 b ((C3 b j).2 + 1)), (R4 (L0 b ((C3 b j).2 + 1))).1⟩, (Y2 b ((C3 b j).2 + 1)).2) := by unfold jpE; rw [if_pos h, if_pos h2]
theorem bI2 (h : ((J5 b n x k).1.getD k ca9).op = 10 ∨ ((J5 b n x k).1.getD k ca9).op = 1) : J5 b n x (k + 1) = J5 b n x k := by
 rw [J5, jmS, if_neg (by omega)]
theorem bY7 (h1 : ¬ ((J5 b n x k).1.getD k ca9).op = 10) (h2 : ¬ ((J5 b n x k).1.getD k ca9).op = 1) (h : ¬ pk b (J5 b n x k).2 4 = 0) : J5 b n x (k + 1) = ((J5 b n x k).1, (J5 b n x k).2 + 1) := by
 rw [J5, jmS, if_pos ⟨h1, h2⟩, if_neg h]
theorem bY6 (h1 : ¬ ((J5 b n x k).1.getD k ca9).op = 10) (h2 : ¬ ((J5 b n x k).1.getD k ca9).op = 1) (h : pk b (J5 b n x k).2 4 = 0) : J5 b n x (k + 1) = ((J5 b n x k).1.set k ⟨8, (k : Int) + 1 + pk b ((J5 b n x k).2 + 1) (n - k - 1), 0, 0, 0⟩, (J5 b n x k).2 + 1 + 1) := by
 rw [J5, jmS, if_pos ⟨h1, h2⟩, if_pos h, Int.add_assoc _ 1 1]; rfl
theorem bQ9 {c : b6} {k : Nat} (h : c.list.length ≤ 40) (hk : k = c.list.length - 1) : jpF b c q = (⟨c.vars, c.arrays, (J5 b c.list.length (c.list, q) k).1⟩, (J5 b c.list.length (c.list, q) k).2) := by
 subst hk; unfold jpF; rw [if_pos h]
theorem bR0 {c : b6} (h : ¬ c.list.length ≤ 40) : jpF b c q = (c, q) := by unfold jpF; rw [if_neg h]
theorem aZ3 (b : List UInt8) (c : b6) (q : Int) : (jpF b c q).1.list.length = c.list.length ∧ (jpF b c q).1.vars = c.vars ∧ (jpF b c q).1.arrays = c.arrays ∧ q ≤ (jpF b c q).2 ∧ (jpF b c q).2 ≤ q + 100 := by
 unfold jpF
 split
 ·rename_i h
  obtain ⟨h1, h2, h3⟩ := bR1 b c.list.length (c.list, q) (c.list.length - 1)
  refine ⟨h1, rfl, rfl, h2, ?_⟩
  have h3' : (J5 b c.list.length (c.list, q) (c.list.length - 1)).2 ≤ q + 2 * ((c.list.length - 1 : Nat) : Int) := h3
  show (J5 b c.list.length (c.list, q) (c.list.length - 1)).2 ≤ q + 100
  omega
 ·exact ⟨rfl, rfl, rfl, Int.le_refl _, by show q ≤ q + 100; omega⟩
theorem bM3 (b : List UInt8) {j : Int} (hj : 0 ≤ j) (hj2 : j ≤ 1000000) : j ≤ (jpE b j).2 ∧ (jpE b j).2 ≤ j + 400000 ∧ (jpE b j).1.list.length ≤ 400 ∧ (jpE b j).1.vars.length ≤ 1000 ∧ (jpE b j).1.arrays.length ≤ 1000 := by
 have h1 := b11 b (j := j) hj (by omega)
 have h2 := bJ5 b (j := (C3 b j).2 + 1) (by omega) (by omega)
 have h3 := bv1 b j
 have h4 := bv1 b ((C3 b j).2 + 1)
 have e1 : (C3 b j).1.vars = (L0 b j).vars := rfl
 have e2 : (C3 b j).1.arrays = (L0 b j).arrays := rfl
 unfold jpE
 split
 ·split
  ·rename_i h5
   have h6 : (aw9 (L0 b ((C3 b j).2 + 1))).1.length ≤ 400 := by
    unfold okC at h5; rw [cb0, decide_eq_true_eq] at h5; exact h5.2
   refine ⟨by show j ≤ (Y2 b ((C3 b j).2 + 1)).2; omega, by show (Y2 b ((C3 b j).2 + 1)).2 ≤ _; omega, ?_, ?_, ?_⟩
   ·show (R4 (L0 b ((C3 b j).2 + 1))).1.length ≤ 400
    unfold R4; rw [if_pos h5]; exact h6
   ·show (cvP _).length ≤ 1000; rw [b07 h5]; omega
   ·show (caP _).length ≤ 1000; rw [b18 h5]; omega
  ·exact ⟨by show j ≤ (Y2 b ((C3 b j).2 + 1)).2; omega, by show (Y2 b ((C3 b j).2 + 1)).2 ≤ _; omega, by show (C3 b j).1.list.length ≤ 400; omega, by show (C3 b j).1.vars.length ≤ 1000; rw [e1]; omega, by show (C3 b j).1.arrays.length ≤ 1000; rw [e2]; omega⟩
 ·exact ⟨by show j ≤ (C3 b j).2 + 1; omega, by show (C3 b j).2 + 1 ≤ _; omega, by show (C3 b j).1.list.length ≤ 400; omega, by show (C3 b j).1.vars.length ≤ 1000; rw [e1]; omega, by show (C3 b j).1.arrays.length ≤ 1000; rw [e2]; omega⟩
end
abbrev jpC (b : List UInt8) (j : Int) (c : b6) (q : Int) : j9 := ⟨23, [.ptr 0 0], [.box [.ref 1, iA j], dY b], [.box [.ref 1, iA (jpF b c q).2], dY b, rI (jpF b c q).1.vars, rI (jpF b c q).1.arrays, rN (jpF b c q).1.list], .agg [.ref 2, .ref 3, .ref 4]⟩
theorem b96 (b : List UInt8) (n : Int) (l : List d8) (q : Int) (k : Nat) : (J5 b n (l, q) k).1.length = l.length ∧ q ≤ (J5 b n (l, q) k).2 ∧ (J5 b n (l, q) k).2 ≤ q + 2 * k := bR1 b n (l, q) k
theorem b08 {p : j8} {x : Bool} (hb : p.size ≤ 1048576) (h : okC p = x) : j9.ok Tryz.prog ⟨48, [pA 0], pS p, pS p ++ [rI (cvP p), rI (caP p), rN (R4 p).1], .tup [.agg [.ref 3, .ref 4, .ref 5], bA x]⟩ := h ▸ at3 p hb
theorem bY5 {b : List UInt8} {n : Int} {x : List d8 × Int} {k : Nat} (h1 : (k : Int) + 1 < n) (h2 : n ≤ 40) (h3 : 0 ≤ (J5 b n x k).2) (h4 : (J5 b n x k).2 ≤ 100000000) : IntKind.i64.wrap ((k : Int) + 1 + pk b ((J5 b n x k).2 + 1) (n - k - 1)) = (k : Int) + 1 + pk b ((J5 b n x k).2 + 1) (n - k - 1) := by
 have := bG5 b (k := (J5 b n x k).2 + 1) (n := n - k - 1) (by omega) (by omega) (by omega)
 exact w64 (by omega) (by omega)
theorem bS4 {p : j8} (hb : p.size ≤ 1048576) : j9.ok Tryz.prog ⟨48, [pA 0], pS p, pS p ++ [rI (cvP p), rI (caP p), rN (R4 p).1], .tup [.agg [.ref 3, .ref 4, .ref 5], bA (okC p)]⟩ := b08 hb rfl
abbrev ae1 (b : List UInt8) (k : Nat) (z : b6 × Int) := J5 b (z.fst.list.length : Int) (z.fst.list, z.snd) k
abbrev bd8 (b : List UInt8) (z : b6 × Int) : List It := [.box [.ref 1, iA (jpF b z.fst z.snd).snd], dY b, .row 3 (D.ints (jpF b z.fst z.snd).fst.vars), .row 3 (D.ints (jpF b z.fst z.snd).fst.arrays), .row 60 (D.instrs (jpF b z.fst z.snd).fst.list)]
abbrev az1 : It := .box [.v (.slice none 0 0), .v (.slice none 0 0), .v (.slice none 0 0)]
abbrev aj1 (r0 : List (Nat × AV)) : List (Nat × AV) := (0, .ptr 0 0) :: (2, .ptr 2 0) :: (3, .ptr 6 0) :: r0
abbrev bq1 (b : List UInt8) (j : Int) (r0 : List It) : List It := .row 3 (D.ints (cvP (L0 b ((C3 b j).snd + 1)))) :: .row 3 (D.ints (caP (L0 b ((C3 b j).snd + 1)))) :: .row 60 (D.instrs (R4 (L0 b ((C3 b j).snd + 1))).fst) :: r0
abbrev bq0 (b : List UInt8) (j : Int) (r0 : List It) : List It := dY b :: az1 :: .row 3 (D.ints (C3 b j).fst.vars) :: .row 3 (D.ints (C3 b j).fst.arrays) :: .row 60 (D.instrs (C3 b j).fst.list) :: .box (pL 3) :: r0
abbrev aH9 (z : b6 × Int) (r0 : List It) : List It := .row 3 (D.ints z.fst.vars) :: .row 3 (D.ints z.fst.arrays) :: r0
theorem bF1 (b : List UInt8) (j : Int) (y : b6 × Int) (hy : jpE b j = y) (r0 : 0 ≤ j) (r1 : j ≤ 1000000) : j9.ok Tryz.prog (jpC b j y.1 y.2) := by
  have hcd := b11 b r0 (show j ≤ 10000000 by omega); have hbd := bJ5 b (j := (C3 b j).2 + 1) (by omega) (by omega); have hsz : (L0 b ((C3 b j).2 + 1)).size ≤ 1048576 := cd3 (bP5 (b := b) (k := (C3 b j).2 + 1) (by omega) (by omega)) (by omega); have hcp := bS4 hsz; have hjb := bM3 b r0 r1; refine K9 70 Tryz.func23 [.box [.ref 1, iA j], dY b] [(0, .ptr 0 0)] fun G => ?_; refine wp_seq (l0 G f8 [0, 1, 2] [.box [.ref 1, iA j], dY b, az1] [(0, .ptr 0 0), (2, .ptr 2 0)] fun G => b0 (wp_seq (l0 G (A4 1 [0, 1] (bA6 b j (by assumption) (by omega))) [0, 1, 2, 11, 12, 13, 19] (.box [.ref 1, iA (C3 b j).snd] :: (bq0 b j [])) (aj1 []) fun G => b0 ?_))); refine bf5 (κ := b6 × Int) G (fun z => jpE b j = z) (fun z => [.box [.ref 1, iA z.2], dY b, .box [.v (.slice none 0 0), .v (.slice none 0 0), .v (.slice none 0 0)], rI z.1.vars, rI z.1.arrays, rN z.1.list, .box (pL 3)]) (fun z => (aj1 [])) ?_ ?_
  ·
   refine wp_seq (l0 G (A4 1 [0, 1] (C7 b ((C3 b j).snd) 2 (by omega) (by omega))) (rg 7) (.box [.ref 1, iA ((C3 b j).snd + 1)] :: (bq0 b j [])) (aj1 [(12, bA (pk b (C3 b j).snd 2 == 0))]) fun G => b0 (rcE G (fun h0 q0 => ?_) fun h0 q0 => ?_))
   · refine wp_skip (b0 ?_); exact ac9 G (((C3 b j).1, (C3 b j).2 + 1)) (bY3 (by omega))  (rg 7) [.box [.ref 1, iA ((C3 b j).snd + 1)], dY b, .box [.v (.slice none 0 0), .v (.slice none 0 0), .v (.slice none 0 0)], .row 3 (D.ints (C3 b j).fst.vars), .row 3 (D.ints (C3 b j).fst.arrays), .row 60 (D.instrs (C3 b j).fst.list), .box (pL 3)] [(0, .ptr 0 0), (2, .ptr 2 0), (3, .ptr 6 0)] (by kernel_rfl) (by kernel_rfl) (by kernel_rfl) (by kernel_rfl) (by kernel_rfl)
   ·
    refine wp_seq (l0 G (X7 (H7 1 [0, 1] (av3 b ((C3 b j).snd + 1) (by omega) (by omega)) (H7 2 [15, 16, 17] (j9.lend hcp [.row 3, .row 3, .tree]) X6)) fz []) [0, 1, 2, 3, 4, 5, 6, 23, 24, 25, 55] (.box [.ref 1, iA (Y2 b ((C3 b j).snd + 1)).snd] :: (bq0 b j (bq1 b j [.box (pL 7)]))) (aj1 [(4, .ptr 10 0), (5, bA (okC (L0 b ((C3 b j).snd + 1))))]) fun G => b0 (wp_seq (m7 G f8 [(19, bA (okC (L0 b ((C3 b j).snd + 1))))] fun G => b0 (rcB G (fun h1 => ?_) fun h1 => ?_))))
    · refine wp_skip (b0 ?_); exact ac9 G (((C3 b j).1, (Y2 b ((C3 b j).2 + 1)).2)) (bY4 (by omega) (by with_reducible assumption))  (rg 7) [.box [.ref 1, iA (Y2 b ((C3 b j).snd + 1)).snd], dY b, .box [.v (.slice none 0 0), .v (.slice none 0 0), .v (.slice none 0 0)], .row 3 (D.ints (C3 b j).fst.vars), .row 3 (D.ints (C3 b j).fst.arrays), .row 60 (D.instrs (C3 b j).fst.list), .box (pL 3)] [(0, .ptr 0 0), (2, .ptr 2 0), (3, .ptr 6 0)] (by kernel_rfl) (by kernel_rfl) (by kernel_rfl) (by kernel_rfl) (by kernel_rfl)
    · refine l0 G f8 [0, 1, 2, 6, 7, 8, 9] (.box [.ref 1, iA (Y2 b ((C3 b j).snd + 1)).snd] :: dY b :: az1 :: .box (pL 4) :: (bq1 b j [])) [(0, .ptr 0 0), (2, .ptr 2 0), (3, .ptr 3 0)] fun G => b0 ?_; exact ac9 G ((⟨cvP (L0 b ((C3 b j).2 + 1)), caP (L0 b ((C3 b j).2 + 1)), (R4 (L0 b ((C3 b j).2 + 1))).1⟩, (Y2 b ((C3 b j).2 + 1)).2)) (bY2 (by omega) (by with_reducible assumption))  [0, 1, 2, 4, 5, 6, 3] (.box [.ref 1, iA (Y2 b ((C3 b j).snd + 1)).snd] :: dY b :: .box [.v (.slice none 0 0), .v (.slice none 0 0), .v (.slice none 0 0)] :: (bq1 b j [.box (pL 3)])) (aj1 []) (by kernel_rfl) (by kernel_rfl) (by kernel_rfl) (by kernel_rfl) (by kernel_rfl)
  ·
   clear G; intro z ρ a w hp G; replace G := v5.at G (.box [.ref 1, iA z.snd] :: dY b :: az1 :: (aH9 z [.row 60 (D.instrs z.fst.list), .box (pL 3)])) (aj1 []); obtain rfl : z = y := hp.symm.trans hy; rw [hp] at hjb; refine wp_seq (m7 G f8 [(6, iA (z.fst.list.length : Int))] fun G => b0 (wp_seq (wp_seq (I8 G f8 (aj1 [(6, iA (z.fst.list.length : Int)), (7, iA 0)]) fun G => b0 (wp_block ?_))))); refine A8 (κ := Nat) (fun k => (k = 0 ∨ (k + 1 ≤ z.1.list.length ∧ z.1.list.length ≤ 40))) (fun k => z.1.list.length - k) (fun k => [.box [.ref 1, iA (J5 b z.1.list.length (z.1.list, z.2) k).2], dY b, .box [.v (.slice none 0 0), .v (.slice none 0 0), .v (.slice none 0 0)], .row 3 (D.ints z.fst.vars), .row 3 (D.ints z.fst.arrays), .row 60 (.instrs (J5 b z.1.list.length (z.1.list, z.2) k).1), .box (pL 3)]) (fun k => [(0, .ptr 0 0), (2, .ptr 2 0), (3, .ptr 6 0), (6, iA (z.fst.list.length : Int)), (7, iA k)]) 0 (by omega) (v5.at G _ _) ?_; clear G; intro k ρ a w hp G; replace G := v5.at G (.box [.ref 1, iA (ae1 b k z).snd] :: dY b :: az1 :: (aH9 z [.row 60 (D.instrs (ae1 b k z).fst), .box (pL 3)])) (aj1 [(6, iA (z.fst.list.length : Int)), (7, iA k)]); have hjm := b96 b z.1.list.length z.1.list z.2 k; refine wp_seq (wp_seq ?_); cases h2 : (decide ((k : Int) + 1 < (z.fst.list.length : Int)))
   · have q2 := dFf h2; refine O0 G (N1 (fc h2 fz) [(5, 0), (6, 0), (1007, 0)]) [(31, bA false)] [wO ((k : Int) + 1)] (o1 (by omega)) fun G => b0 (rF G false (by kernel_rfl) (wp_exit (A2 (A2 (A1 (b0 (wp_seq (l0 G f8 (rg 6) (.box [.ref 1, iA (ae1 b k z).snd] :: dY b :: .box (pL 3) :: (aH9 z [.row 60 (D.instrs (ae1 b k z).fst)])) [(2, .ptr 2 0)] fun G => b0 (wp_ret ?_))))))))); exact L6 G [0, 1, 3, 4, 5] (by show _ = mR [0, 1, 3, 4, 5] (bd8 b z); unfold bd8; have e2 : ((jpF b z.fst z.snd).fst.vars : List Int) = (z.fst.vars) := ((aZ3 b _ _).2.1); have e3 : ((jpF b z.fst z.snd).fst.arrays : List Int) = (z.fst.arrays) := ((aZ3 b _ _).2.2.1); rw [e2, e3, bQ9 (k := k) (by omega) (by omega)] <;> rfl)
   ·
    have q2 := dTt h2; refine O0 G (N1 (fc h2 fz) [(5, 0), (6, 0), (1007, 0)]) [(31, bA (decide ((z.fst.list.length : Int) ≤ 40)))] [wO ((k : Int) + 1)] (o1 (by omega)) fun G => b0 (rcD G (fun h3 q3 => ?_) fun h3 q3 => ?_)
    · refine wp_exit (A2 (A2 (A1 (b0 (wp_seq (l0 G f8 (rg 6) (.box [.ref 1, iA (ae1 b k z).snd] :: dY b :: .box (pL 3) :: (aH9 z [.row 60 (D.instrs (ae1 b k z).fst)])) [(2, .ptr 2 0)] fun G => b0 (wp_ret ?_))))))); exact L6 G [0, 1, 3, 4, 5] (by show _ = mR [0, 1, 3, 4, 5] (bd8 b z); unfold bd8; have e2 : ((jpF b z.fst z.snd).fst.vars : List Int) = (z.fst.vars) := ((aZ3 b _ _).2.1); have e3 : ((jpF b z.fst z.snd).fst.arrays : List Int) = (z.fst.arrays) := ((aZ3 b _ _).2.2.1); rw [e2, e3, bR0 (by omega), show k = 0 by omega] <;> rfl)
    ·
     refine wp_skip (b0 (wp_seq (wp_block (wp_seq ?_)))); cases h4 : (((J5 b (z.fst.list.length : Int) (z.fst.list, z.snd) k).fst.getD k ca9).op != 10)
     · have q4 := bne_eq_false_iff_eq.1 h4; refine O0 G (N1 (fc h4 (fc (b := false) rfl fz)) (us [(8, 14, 0), (1015, 1015, 0), (17, 19, 1), (1020, 1020, 1)])) [(54, bA false)] (iX k k ((J5 b (z.fst.list.length : Int) (z.fst.list, z.snd) k).fst.length) []) (iK (by omega) cc2) fun G => b0 (rF G false (by kernel_rfl) (wp_skip (t5 (b0 (O0 G f8 [(7, iA ((k : Int) + 1))] [wO ((k : Int) + 1)] (o1 (by omega)) fun G => b0 ?_))))); exact rxn G (k + 1) (by omega) (by omega) (rg 7) (by have e1 : ((J5 b (z.fst.list.length : Int) (z.fst.list, z.snd) (k + 1)).snd : Int) = ((J5 b (z.fst.list.length : Int) (z.fst.list, z.snd) k).snd) := (by rw [bI2 (by omega)]; done); have e2 : ((J5 b (z.fst.list.length : Int) (z.fst.list, z.snd) (k + 1)).fst : List d8) = ((J5 b (z.fst.list.length : Int) (z.fst.list, z.snd) k).fst) := (by rw [bI2 (by omega)]; done); (first | rw [e1, e2] | simp only [e1, e2]) <;> rfl)
     ·
      have q4 := bne_iff_ne.1 h4; cases h5 : (((J5 b (z.fst.list.length : Int) (z.fst.list, z.snd) k).fst.getD k ca9).op != 1)
      · have q5 := bne_eq_false_iff_eq.1 h5; refine O0 G (N1 (fc h4 (fc h5 fz)) (us [(8, 14, 0), (1015, 1015, 0), (17, 19, 1), (1020, 1020, 1)])) [(54, bA false)] (iX k k ((J5 b (z.fst.list.length : Int) (z.fst.list, z.snd) k).fst.length) (iX k k ((J5 b (z.fst.list.length : Int) (z.fst.list, z.snd) k).fst.length) [])) (iK (by omega) (iK (by omega) cc2)) fun G => b0 (rF G false (by kernel_rfl) (wp_skip (t5 (b0 (O0 G f8 [(7, iA ((k : Int) + 1))] [wO ((k : Int) + 1)] (o1 (by omega)) fun G => b0 ?_))))); exact rxn G (k + 1) (by omega) (by omega) (rg 7) (by have e1 : ((J5 b (z.fst.list.length : Int) (z.fst.list, z.snd) (k + 1)).snd : Int) = ((J5 b (z.fst.list.length : Int) (z.fst.list, z.snd) k).snd) := (by rw [bI2 (by omega)]; done); have e2 : ((J5 b (z.fst.list.length : Int) (z.fst.list, z.snd) (k + 1)).fst : List d8) = ((J5 b (z.fst.list.length : Int) (z.fst.list, z.snd) k).fst) := (by rw [bI2 (by omega)]; done); (first | rw [e1, e2] | simp only [e1, e2]) <;> rfl)
      ·
       have q5 := bne_iff_ne.1 h5; refine V2 G (X7 (H7 18 [0, 1] (C7 b ((J5 b (z.fst.list.length : Int) (z.fst.list, z.snd) k).snd) 4 (by omega) (by omega)) X6) (fc h4 (fc h5 fz)) (us [(8, 14, 0), (1015, 1015, 0), (17, 19, 1), (1020, 1020, 1)])) (rg 7) (.box [.ref 1, iA ((ae1 b k z).snd + 1)] :: dY b :: az1 :: (aH9 z [.row 60 (D.instrs (ae1 b k z).fst), .box (pL 3)])) (aj1 [(6, iA (z.fst.list.length : Int)), (7, iA k), (54, bA (pk b (ae1 b k z).snd 4 == 0))]) (iX k k ((J5 b (z.fst.list.length : Int) (z.fst.list, z.snd) k).fst.length) (iX k k ((J5 b (z.fst.list.length : Int) (z.fst.list, z.snd) k).fst.length) [])) (iK (by omega) (iK (by omega) cc2)) fun G => b0 (rcE (u := (pk b (J5 b (z.fst.list.length : Int) (z.fst.list, z.snd) k).snd (4 : Int))) (v := (0 : Int)) G (fun h6 q6 => ?_) fun h6 q6 => ?_)
       · refine wp_skip (t5 (b0 (O0 G f8 [(7, iA ((k : Int) + 1))] [wO ((k : Int) + 1)] (o1 (by omega)) fun G => b0 ?_))); exact rxn G (k + 1) (by omega) (by omega) (rg 7) (by have e1 : ((J5 b (z.fst.list.length : Int) (z.fst.list, z.snd) (k + 1)).snd : Int) = ((J5 b (z.fst.list.length : Int) (z.fst.list, z.snd) k).snd + 1) := (by rw [bY7 (by omega) (by omega) (by omega)]; done); have e2 : ((J5 b (z.fst.list.length : Int) (z.fst.list, z.snd) (k + 1)).fst : List d8) = ((J5 b (z.fst.list.length : Int) (z.fst.list, z.snd) k).fst) := (by rw [bY7 (by omega) (by omega) (by omega)]; done); (first | rw [e1, e2] | simp only [e1, e2]) <;> rfl)
       · refine L7 G (A4 10 [0, 1] (C7 b ((J5 b (z.fst.list.length : Int) (z.fst.list, z.snd) k).snd + 1) ((z.fst.list.length : Int) - (k : Int) - 1) (by omega) (by omega))) [0, 1, 0, 0, 8, 0, 0, 0, 192, 448, 992, 2040, 4088, 8191, 16383] (rg 7) (.box [.ref 1, iA ((ae1 b k z).snd + 1 + 1)] :: dY b :: az1 :: (aH9 z [.row 60 (D.instrs ((ae1 b k z).fst.set k (d8.mk 8 ((k : Int) + 1 + pk b ((ae1 b k z).snd + 1) ((z.fst.list.length : Int) - (k : Int) - 1)) 0 0 0))), .box (pL 3)])) (aj1 [(6, iA (z.fst.list.length : Int)), (7, iA k)]) ((wO ((k : Int) + 1)) :: ((wO ((z.fst.list.length : Int) - (k : Int))) :: ((wO ((z.fst.list.length : Int) - (k : Int) - 1)) :: ((wO ((k : Int) + 1 + pk b ((J5 b (z.fst.list.length : Int) (z.fst.list, z.snd) k).snd + 1) ((z.fst.list.length : Int) - (k : Int) - 1))) :: (iX k k ((J5 b (z.fst.list.length : Int) (z.fst.list, z.snd) k).fst.length) []))))) ⟨oW (by omega), ⟨oW (by omega), ⟨oW (by omega), ⟨(bY5 (by omega) (by omega) (by omega) (by omega)), (iK (by omega) cc2)⟩⟩⟩⟩ fun G => t5 (b0 (O0 G f8 [(7, iA ((k : Int) + 1))] [wO ((k : Int) + 1)] (o1 (by omega)) fun G => b0 ?_)); exact rxn G (k + 1) (by omega) (by omega) (rg 7) (by have e1 : ((J5 b (z.fst.list.length : Int) (z.fst.list, z.snd) (k + 1)).snd : Int) = ((J5 b (z.fst.list.length : Int) (z.fst.list, z.snd) k).snd + 1 + 1) := (by rw [bY6 (by omega) (by omega) (by omega)]; done); have e2 : ((J5 b (z.fst.list.length : Int) (z.fst.list, z.snd) (k + 1)).fst : List d8) = ((J5 b (z.fst.list.length : Int) (z.fst.list, z.snd) k).fst.set k (d8.mk 8 ((k : Int) + 1 + pk b ((J5 b (z.fst.list.length : Int) (z.fst.list, z.snd) k).snd + 1) ((z.fst.list.length : Int) - (k : Int) - 1)) 0 0 0)) := (by rw [bY6 (by omega) (by omega) (by omega)]; done); (first | rw [e1, e2] | simp only [e1, e2]) <;> rfl)
theorem bn6 (b : List UInt8) (j : Int) (r0 : 0 ≤ j) (r1 : j ≤ 1000000) : j9.ok Tryz.prog ⟨23, [.ptr 0 0], [.box [.ref 1, iA j], dY b], [.box [.ref 1, iA (jpD b j).2], dY b, rI (jpD b j).1.vars, rI (jpD b j).1.arrays, rN (jpD b j).1.list], .agg [.ref 2, .ref 3, .ref 4]⟩ := bF1 b j _ rfl r0 r1
theorem jp0 (b : List UInt8) : 0 ≤ (jpD b 0).2 ∧ (jpD b 0).2 ≤ 1000000 ∧ (jpD b 0).1.list.length ≤ 400 ∧ (jpD b 0).1.vars.length ≤ 1000 ∧ (jpD b 0).1.arrays.length ≤ 1000 := by
 obtain ⟨h1, h2, h3, h4, h5⟩ := bM3 b (j := 0) (by omega) (by omega)
 obtain ⟨g1, g2, g3, g4, g5⟩ := aZ3 b (jpE b 0).1 (jpE b 0).2
 unfold jpD
 rw [g1, g2, g3]
 omega
def zB (bit : Int) (l : Int) : Bool := !(bB9 l bit == 0)
section
variable {bit : Int} {p : j8} {m : t9}
theorem b33 (h : m.arrs.all S9 = true) {i : Nat} (hi : i < m.arrs.length) : (m.arrs.getD i []).length = 4 := by
 have := cb9.1 h (m.arrs.getD i []) (by rw [o8 hi]; exact cd1 hi)
 unfold S9 at this
 simp only [cb0, decide_eq_true_eq] at this
 exact this.1
end
section
variable {ls xs : List Int} {rs : List (List Int)} {k : Nat} {b : Bool}
end
theorem zbt {bit l : Int} (h : ¬ bB9 l bit = 0) : zB bit l = true := by unfold zB; rw [beq_eq_false_iff_ne.2 h]; rfl
theorem zbf {bit l : Int} (h : bB9 l bit = 0) : zB bit l = false := by unfold zB; rw [h]; rfl
end Go.Proofs.YtmokkddidcmglaaGreat
