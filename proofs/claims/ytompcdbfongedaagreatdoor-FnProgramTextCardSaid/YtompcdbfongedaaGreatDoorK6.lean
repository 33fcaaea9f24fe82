/- Part 6: functions on the way, plain laws. Conditions: as said. -/
import Derived.Lib.AtoiAll
import Derived.Shelf.Strings.Search1
import Derived.Shelf.Strconv.AtoiAll
import Derived.Test.YtompcdbfongedaaGreatDoorK3
import Derived.Test.YtompcdbfongedaaGreatDoorK4
import Derived.Test.YtompcdbfongedaaGreatDoorK5
set_option maxRecDepth 100000
set_option maxHeartbeats 16000000
set_option linter.unusedVariables false
set_option linter.unusedSimpArgs false
open Bool renaming and_eq_true → b57, not_eq_false' → b67, not_eq_true' → b65
open List renaming all_eq_true → b68, append_assoc → b83, eq_nil_of_length_eq_zero → b84, getD_eq_getElem?_getD → b59, getElem?_map → b78, getElem_mem → b64, length_append → b69, length_cons → b58, length_nil → b60, map → b88, map_cons → b94, mem_append → b73, mem_cons → b76, mem_cons_of_mem → b80, mem_cons_self → b72, mem_of_getElem? → b79, not_mem_nil → b98, size_toArray → b62, take → b63, take_of_length_le → b75
open Nat renaming le_refl → b71, le_trans → b54, lt_or_ge → b86, succ_mul → b90, zero_add → b97, zero_le → b92
open True renaming intro → b70

namespace Go.Proofs.YtompcdbfongedaaGreatDoor
open Go Go.RowKit
abbrev peC (s : List UInt8) (d : Nat) (n m : Int) : j1 := ⟨72, [scA s n, iA m], [], [dE (pE s d n).1.kids], .tup [.agg [iA (pE s d n).1.kind, iA (pE s d n).1.value, .ref 0], scA s (pE s d n).2]⟩
theorem bW9 (s : List UInt8) (n m : Int) (hm : m = 0) : j1.ok Tryz.prog (peC s 0 n m) := by
 refine D2 137 Tryz.func72 [] [(0, .agg [.v (.string (b6 s)), iA n]), (1, iA m)] fun G => ?_; refine wp_seq (j5 G d7 [0, 8, 16] [.box [.v (.string (b6 s)), iA n], .box [iA 0, iA 0, .v (.slice none 0 0)], .box [.v (.string (ByteArray.mk #[])), iA 0]] [(1, iA m), (2, .ptr 0 0), (4, .ptr 1 0), (5, .ptr 2 0)] fun G => b0 (wp_seq (wp_seq ?_))); cases h0 : (decide (m < 1))
 ·have q0 := L3 h0; exact False.elim (by omega)
 have q0 := L2 h0; refine j3 G (y7 (fc h0 fz) [(3, 0), (4, 0), (5, 0), (1006, 0)]) [(27, bA true)] fun G => b0 (rT G true (by kernel_rfl) (wp_seq (j5 G (n4 2 [] (T6 s n)) [0, 1, 2] [.box [.v (.string (b6 s)), iA n], .box [iA 0, iA 0, .v (.slice none 0 0)], .box [.v (.string (b6 s)), iA (-1)]] [(1, iA m), (2, .ptr 0 0), (4, .ptr 1 0), (5, .ptr 2 0)] fun G => b0 (wp_ret (j2 ?_))))); obtain ⟨ρ, G⟩ := G.nil 3 0 (.exprs []) 9 [.box [.v (.string (b6 s)), iA n], .box [iA 0, iA 0, .ref 3], .box [.v (.string (b6 s)), iA (-1)]] [(1, iA m), (2, .ptr 0 0), (4, .ptr 1 0), (5, .ptr 2 0)]; obtain ⟨ρ, G⟩ := G.frz [.no, .no, .no, .row 0] [.box [.v (.string (b6 s)), iA n], .box [iA 0, iA 0, .ref 3], .box [.v (.string (b6 s)), iA (-1)], dE []] [(1, iA m), (2, .ptr 0 0), (4, .ptr 1 0), (5, .ptr 2 0)]; exact H9 G [3]
abbrev aO4 (s : List UInt8) (d : Nat) (n : Int) : It := .box [iA (pE s d (d8 s n [40])).fst.kind, iA (pE s d (d8 s n [40])).fst.value, .ref 3]
abbrev Z6 (s : List UInt8) (n : Int) : It := .box [.v (.string (b6 s)), iA n]
abbrev aj2 : It := .box [iA 0, iA 0, .v (.slice none 0 0)]
abbrev av0 : It := .box [.v (.string (ByteArray.mk #[])), iA 0]
abbrev aO3 (s : List UInt8) (d : Nat) (n : Int) : It := .box [.v (.string (b6 s)), iA (pE s d (d8 s n [40])).snd]
abbrev J6 (m : Int) (r0 : List (Nat × AV)) : List (Nat × AV) := (1, iA m) :: (2, .ptr 0 0) :: (4, .ptr 1 0) :: (5, .ptr 2 0) :: r0
abbrev bg0 (s : List UInt8) (d : Nat) (n : Int) (r0 : List It) : List It := dE (pE s d (d8 s n [40])).fst.kids :: .box [iA (pE s d (d8 s n [40])).fst.kind, iA (pE s d (d8 s n [40])).fst.value, .ref 3] :: .box [.v (.string (b6 s)), iA (pE s d (d8 s n [40])).snd] :: r0
theorem bZ3 (s : List UInt8) (hs : s.length <= 100000000) (d : Nat) (hd : d <= 5) (ih : ∀ (n m : Int), m = d -> -1 <= n -> n <= s.length -> j1.ok Tryz.prog (peC s d n m)) (n m : Int) (hm : m = (d + 1 : Nat)) (r0 : -1 <= n) (r1 : n <= s.length) : j1.ok Tryz.prog (peC s (d + 1) n m) := by
  have hg := fun n => T4 s n [97, 98, 99, 100, 101, 102, 103, 104, 105, 106, 107, 108]
  refine D2 137 Tryz.func72 [] [(0, .agg [.v (.string (b6 s)), iA n]), (1, iA m)] fun G => ?_; refine wp_seq (j5 G d7 [0, 8, 16] [Z6 s n, aj2, av0] (J6 m []) fun G => b0 (wp_seq (wp_seq ?_))); cases h0 : (decide (m < 1))
  ·
   have q0 := L3 h0; refine j3 G (y7 (fc h0 fz) [(3, 0), (4, 0), (5, 0), (1006, 0)]) [(27, bA (decide (n < 0)))] fun G => b0 (S9 G (fun h1 q1 => ?_) fun h1 q1 => ?_)
   ·
    refine wp_skip (b0 (wp_seq (j3 G (n4 1 [] (T5 s ([97, 98, 99, 100, 101, 102, 103, 104, 105, 106, 107, 108]) n (by assumption) (by simp [h0, h1]))) [(6, iA (s6 s n [97, 98, 99, 100, 101, 102, 103, 104, 105, 106, 107, 108]))] fun G => b0 (wp_seq (wp_seq (j3 G d7 [(34, bA (decide (s6 s n [97, 98, 99, 100, 101, 102, 103, 104, 105, 106, 107, 108] >= 0)))] fun G => b0 (S9 (p := s6 s n [(97 : UInt8), (98 : UInt8), (99 : UInt8), (100 : UInt8), (101 : UInt8), (102 : UInt8), (103 : UInt8), (104 : UInt8), (105 : UInt8), (106 : UInt8), (107 : UInt8), (108 : UInt8)] >= 0) G (fun h2 q2 => ?_) fun h2 q2 => ?_)))))))
    ·
     refine wp_skip (b0 (wp_seq (j3 G (n4 1 [] (T5 s ([80, 81]) n (by assumption) (by simp [h0, h1, h2]))) [(7, iA (s6 s n [80, 81]))] fun G => b0 (wp_seq (wp_seq (j3 G d7 [(46, bA (decide (s6 s n [80, 81] >= 0)))] fun G => b0 (S9 (p := s6 s n [(80 : UInt8), (81 : UInt8)] >= 0) G (fun h3 q3 => ?_) fun h3 q3 => ?_)))))))
     ·
      refine wp_skip (b0 (wp_seq (wp_seq (j3 G (n4 1 [] (Y7 s ([40]) n (by assumption) (by simp [h0, h1, h2, h3]) (by assumption))) [(68, .v (.bool !t7 s n [40]))] fun G => b0 ?_)))); cases h4 : (!t7 s n [(40 : UInt8)])
      ·
       have q4 : (t7 s n [40]) = true := (Eq.mp (b67 _) h4); refine rF G _ h4 (wp_skip (b0 (wp_seq (G8 G (x8 (m8 1 [] (x5 s ([40]) n (by assumption) (by simp [h0, h1, h2, h3, h4, q4]) (by assumption)) (m8 4 [] (ih (d8 s n [40]) (m - 1) (by omega) P3 R2) x7)) fz []) [0, 1, 2, 35, 67, 75] [Z6 s n, aj2, av0, dE (pE s d (d8 s n [40])).fst.kids, aO4 s d n, aO3 s d n] (J6 m [(12, .ptr 4 0), (13, .ptr 5 0)]) [wO (m - 1)] (o1 (by omega)) fun G => b0 (wp_seq (wp_seq (j3 G (n4 1 [] (Y7 s ([63]) ((pE s d (d8 s n [40])).snd) (by assumption) (by simp [h0, h1, h2, h3, h4, q4]) (ac4 d))) [(86, bA (t7 s (pE s d (d8 s n [40])).snd [63]))] fun G => b0 (rcB (b := t7 s (pE s d (d8 s n [(40 : UInt8)])).snd [(63 : UInt8)]) G (fun h5 => ?_) fun h5 => ?_))))))))
       ·
        refine wp_skip (b0 (wp_seq (j3 G (n4 1 [] (T5 s ([43, 45, 42, 38, 94, 61, 60]) ((pE s d (d8 s n [40])).snd) (by assumption) (by simp [h0, h1, h2, h3, h4, q4, h5]))) [(18, iA (s6 s (pE s d (d8 s n [40])).snd [43, 45, 42, 38, 94, 61, 60]))] fun G => b0 (wp_seq (wp_seq (j3 G d7 [(113, bA (decide (s6 s (pE s d (d8 s n [40])).snd [43, 45, 42, 38, 94, 61, 60] < 0)))] fun G => b0 (S9 (p := s6 s (pE s d (d8 s n [(40 : UInt8)])).snd [(43 : UInt8), (45 : UInt8), (42 : UInt8), (38 : UInt8), (94 : UInt8), (61 : UInt8), (60 : UInt8)] < 0) G (fun h6 q6 => ?_) fun h6 q6 => ?_)))))))
        · refine wp_skip (b0 (wp_seq (G8 G (n4 8 [] (ih ((pE s d (d8 s n [40])).snd + 1) (m - 1) (by omega) (by have h9 := bT1 (s := s) (n := d8 s n [40]) d ; omega) (a89 (by with_reducible assumption)))) [1, 2, 3, 4, 70, 102, 110] [aj2, av0, dE (pE s d (d8 s n [40])).fst.kids, .box [iA (pE s d (d8 s n [40])).fst.kind, iA (pE s d (d8 s n [40])).fst.value, .ref 2], dE (pE s d ((pE s d (d8 s n [40])).snd + 1)).fst.kids, .box [iA (pE s d ((pE s d (d8 s n [40])).snd + 1)).fst.kind, iA (pE s d ((pE s d (d8 s n [40])).snd + 1)).fst.value, .ref 4], .box [.v (.string (b6 s)), iA (pE s d ((pE s d (d8 s n [40])).snd + 1)).snd]] [(4, .ptr 0 0), (5, .ptr 1 0), (12, .ptr 3 0), (18, iA (s6 s (pE s d (d8 s n [40])).snd [43, 45, 42, 38, 94, 61, 60])), (19, .ptr 5 0), (20, .ptr 6 0)] [wO ((pE s d (d8 s n [(40 : UInt8)])).snd + 1), wO (m - 1)] ⟨(by have h9 := T4 s (pE s d (d8 s n [40])).2 [43, 45, 42, 38, 94, 61, 60] ; simp only [b58, b60] at h9 ; exact w64 (by omega) (by omega)), (oW (by omega)), b70⟩ fun G => b0 (wp_seq (B2 G (n4 7 [] (x5 s ([41]) ((pE s d ((pE s d (d8 s n [40])).snd + 1)).snd) (by assumption) (by simp [h0, h1, h2, h3, h4, q4, h5, h6]) (ac4 d))) [0, 1, 0, 0, 12, 31, 0, 64, 255, 511] [0, 1, 39] [.box [iA (4 + s6 s (pE s d (d8 s n [40])).snd [43, 45, 42, 38, 94, 61, 60]), iA 0, .ref 2], .box [.v (.string (b6 s)), iA (d8 s (pE s d ((pE s d (d8 s n [40])).snd + 1)).snd [41])], .row 67 (D.exprs ([C8 (pE s d (d8 s n [40])).fst] ++ ([C8 (pE s d ((pE s d (d8 s n [40])).snd + 1)).fst] ++ [])))] [(4, .ptr 0 0), (5, .ptr 1 0)] [wO ((4 : Int) + s6 s (pE s d (d8 s n [(40 : UInt8)])).snd [(43 : UInt8), (45 : UInt8), (42 : UInt8), (38 : UInt8), (94 : UInt8), (61 : UInt8), (60 : UInt8)])] ⟨(by have h9 := T4 s (pE s d (d8 s n [40])).2 [43, 45, 42, 38, 94, 61, 60] ; simp only [b58, b60] at h9 ; exact w64 (by omega) (by omega)), b70⟩ fun G => b0 (wp_ret ?_)))))); obtain ⟨ρ, G⟩ := G.frz [.no, .no, .row 67] [.box [iA (4 + s6 s (pE s d (d8 s n [40])).snd [43, 45, 42, 38, 94, 61, 60]), iA 0, .ref 2], .box [.v (.string (b6 s)), iA (d8 s (pE s d ((pE s d (d8 s n [40])).snd + 1)).snd [41])], dE ([C8 (pE s d (d8 s n [40])).fst] ++ ([C8 (pE s d ((pE s d (d8 s n [40])).snd + 1)).fst] ++ []))] [(4, .ptr 0 0), (5, .ptr 1 0)]; exact E0 (.tup [.agg [iA (4 + s6 s (pE s d (d8 s n [40])).snd [43, 45, 42, 38, 94, 61, 60]), iA 0, .ref 2], .agg [.v (.string (b6 s)), iA (d8 s (pE s d ((pE s d (d8 s n [40])).snd + 1)).snd [41])]]) G [2] (by have e1 : ((pE s (d + 1) n).fst.kind : Int) = (4 + s6 s (pE s d (d8 s n [40])).snd [43, 45, 42, 38, 94, 61, 60]) := (by rw [ao4 (by omega) (by with_reducible assumption) (by with_reducible assumption) (by with_reducible assumption) (by with_reducible assumption) (by with_reducible assumption)]; simp only [b7.eta]; rfl); have e2 : ((pE s (d + 1) n).fst.value : Int) = (0) := (by rw [ao4 (by omega) (by with_reducible assumption) (by with_reducible assumption) (by with_reducible assumption) (by with_reducible assumption) (by with_reducible assumption)]; simp only [b7.eta]; rfl); have e3 : ((pE s (d + 1) n).snd : Int) = (d8 s (pE s d ((pE s d (d8 s n [40])).snd + 1)).snd [41]) := (by rw [ao4 (by omega) (by with_reducible assumption) (by with_reducible assumption) (by with_reducible assumption) (by with_reducible assumption) (by with_reducible assumption)]; simp only [b7.eta]; rfl); (first | rw [e1, e2, e3] | simp only [e1, e2, e3]) <;> rfl) (by show _ = mR [2] [dE (pE s (d + 1) n).fst.kids]; have e1 : ((pE s (d + 1) n).fst.kids : List b7) = ([C8 (pE s d (d8 s n [40])).fst] ++ ([C8 (pE s d ((pE s d (d8 s n [40])).snd + 1)).fst] ++ [])) := (by rw [ao4 (by omega) (by with_reducible assumption) (by with_reducible assumption) (by with_reducible assumption) (by with_reducible assumption) (by with_reducible assumption)]; simp only [b7.eta]; rfl); (first | rw [e1] | simp only [e1]) <;> rfl)
        refine wp_seq (j5 G (n4 2 [] (T6 s n)) (rg 6) [Z6 s n, aj2, .box [.v (.string (b6 s)), iA (-1)], dE (pE s d (d8 s n [40])).fst.kids, aO4 s d n, aO3 s d n] (J6 m [(12, .ptr 4 0), (13, .ptr 5 0), (18, iA (s6 s (pE s d (d8 s n [40])).snd [43, 45, 42, 38, 94, 61, 60]))]) fun G => b0 (wp_ret (j2 ?_))); obtain ⟨ρ, G⟩ := G.nil 6 0 (.exprs []) 9 (.box [.v (.string (b6 s)), iA n] :: .box [iA 0, iA 0, .ref 6] :: .box [.v (.string (b6 s)), iA (-1)] :: (bg0 s d n [])) (J6 m [(12, .ptr 4 0), (13, .ptr 5 0), (18, iA (s6 s (pE s d (d8 s n [40])).snd [43, 45, 42, 38, 94, 61, 60]))]); obtain ⟨ρ, G⟩ := G.frz [.no, .no, .no, .no, .no, .no, .row 0] (.box [.v (.string (b6 s)), iA n] :: .box [iA 0, iA 0, .ref 6] :: .box [.v (.string (b6 s)), iA (-1)] :: (bg0 s d n [dE []])) (J6 m [(12, .ptr 4 0), (13, .ptr 5 0), (18, iA (s6 s (pE s d (d8 s n [40])).snd [43, 45, 42, 38, 94, 61, 60]))]); exact E0 (.tup [.agg [iA 0, iA 0, .ref 6], .agg [.v (.string (b6 s)), iA (-1)]]) G [6] (by have e1 : ((pE s (d + 1) n).fst.kind : Int) = (0) := (by rw [ao5 (by omega) (by with_reducible assumption) (by with_reducible assumption) (by with_reducible assumption) (by with_reducible assumption) (by with_reducible assumption)]; rfl); have e2 : ((pE s (d + 1) n).fst.value : Int) = (0) := (by rw [ao5 (by omega) (by with_reducible assumption) (by with_reducible assumption) (by with_reducible assumption) (by with_reducible assumption) (by with_reducible assumption)]; rfl); have e3 : ((pE s (d + 1) n).snd : Int) = (-1) := (by rw [ao5 (by omega) (by with_reducible assumption) (by with_reducible assumption) (by with_reducible assumption) (by with_reducible assumption) (by with_reducible assumption)]); (first | rw [e1, e2, e3] | simp only [e1, e2, e3]) <;> rfl) (by show _ = mR [6] [dE (pE s (d + 1) n).fst.kids]; rw [ao5 (by omega) (by with_reducible assumption) (by with_reducible assumption) (by with_reducible assumption) (by with_reducible assumption) (by with_reducible assumption)] <;> rfl)
       refine wp_seq (G8 G (x8 (m8 1 [] (x5 s ([63]) ((pE s d (d8 s n [40])).snd) (by assumption) (by simp [h0, h1, h2, h3, h4, q4, h5]) (ac4 d)) (m8 4 [] (ih (d8 s (pE s d (d8 s n [40])).snd [63]) (m - 1) (by omega) P3 R2) x7)) fz []) [0, 1, 2, 3, 4, 5, 38, 70, 78] [Z6 s n, aj2, av0, dE (pE s d (d8 s n [40])).fst.kids, aO4 s d n, aO3 s d n, dE (pE s d (d8 s (pE s d (d8 s n [40])).snd [63])).fst.kids, .box [iA (pE s d (d8 s (pE s d (d8 s n [40])).snd [63])).fst.kind, iA (pE s d (d8 s (pE s d (d8 s n [40])).snd [63])).fst.value, .ref 6], .box [.v (.string (b6 s)), iA (pE s d (d8 s (pE s d (d8 s n [40])).snd [63])).snd]] (J6 m [(12, .ptr 4 0), (13, .ptr 5 0), (14, .ptr 7 0), (15, .ptr 8 0)]) [wO (m - 1)] (o1 (by omega)) fun G => b0 (wp_seq (G8 G (x8 (m8 1 [] (x5 s ([58]) ((pE s d (d8 s (pE s d (d8 s n [40])).snd [63])).snd) (by assumption) (by simp [h0, h1, h2, h3, h4, q4, h5]) (ac4 d)) (m8 4 [] (ih (d8 s (pE s d (d8 s (pE s d (d8 s n [40])).snd [63])).snd [58]) (m - 1) (by omega) P3 R2) x7)) fz []) [0, 1, 2, 3, 4, 5, 6, 7, 41, 73, 81] [Z6 s n, aj2, av0, dE (pE s d (d8 s n [40])).fst.kids, aO4 s d n, aO3 s d n, dE (pE s d (d8 s (pE s d (d8 s n [40])).snd [63])).fst.kids, .box [iA (pE s d (d8 s (pE s d (d8 s n [40])).snd [63])).fst.kind, iA (pE s d (d8 s (pE s d (d8 s n [40])).snd [63])).fst.value, .ref 6], dE (pE s d (d8 s (pE s d (d8 s (pE s d (d8 s n [40])).snd [63])).snd [58])).fst.kids, .box [iA (pE s d (d8 s (pE s d (d8 s (pE s d (d8 s n [40])).snd [63])).snd [58])).fst.kind, iA (pE s d (d8 s (pE s d (d8 s (pE s d (d8 s n [40])).snd [63])).snd [58])).fst.value, .ref 8], .box [.v (.string (b6 s)), iA (pE s d (d8 s (pE s d (d8 s (pE s d (d8 s n [40])).snd [63])).snd [58])).snd]] (J6 m [(12, .ptr 4 0), (13, .ptr 5 0), (14, .ptr 7 0), (16, .ptr 9 0), (17, .ptr 10 0)]) [wO (m - 1)] (o1 (by omega)) fun G => b0 (wp_seq (ab6 G (n4 6 [] (x5 s ([41]) ((pE s d (d8 s (pE s d (d8 s (pE s d (d8 s n [40])).snd [63])).snd [58])).snd) (by assumption) (by simp [h0, h1, h2, h3, h4, q4, h5]) (ac4 d))) [0, 0, 0, 7, 15, 0, 32, 127, 255] [0, 1, 2, 3, 4, 5, 35] [Z6 s n, .box [iA 11, iA 0, .ref 6], .box [.v (.string (b6 s)), iA (d8 s (pE s d (d8 s (pE s d (d8 s (pE s d (d8 s n [40])).snd [63])).snd [58])).snd [41])], dE (pE s d (d8 s n [40])).fst.kids, aO4 s d n, aO3 s d n, .row 67 (D.exprs ([C8 (pE s d (d8 s n [40])).fst] ++ ([C8 (pE s d (d8 s (pE s d (d8 s n [40])).snd [63])).fst] ++ ([C8 (pE s d (d8 s (pE s d (d8 s (pE s d (d8 s n [40])).snd [63])).snd [58])).fst] ++ []))))] (J6 m [(12, .ptr 4 0), (13, .ptr 5 0)]) fun G => b0 (wp_ret (j2 ?_))))))); obtain ⟨ρ, G⟩ := G.frz [.no, .no, .no, .no, .no, .no, .row 67] (.box [.v (.string (b6 s)), iA n] :: .box [iA 11, iA 0, .ref 6] :: .box [.v (.string (b6 s)), iA (d8 s (pE s d (d8 s (pE s d (d8 s (pE s d (d8 s n [40])).snd [63])).snd [58])).snd [41])] :: (bg0 s d n [dE ([C8 (pE s d (d8 s n [40])).fst] ++ ([C8 (pE s d (d8 s (pE s d (d8 s n [40])).snd [63])).fst] ++ ([C8 (pE s d (d8 s (pE s d (d8 s (pE s d (d8 s n [40])).snd [63])).snd [58])).fst] ++ [])))])) (J6 m [(12, .ptr 4 0), (13, .ptr 5 0)])
       exact E0 (.tup [.agg [iA 11, iA 0, .ref 6], .agg [.v (.string (b6 s)), iA (d8 s (pE s d (d8 s (pE s d (d8 s (pE s d (d8 s n [40])).snd [63])).snd [58])).snd [41])]]) G [6] (by have e1 : ((pE s (d + 1) n).fst.kind : Int) = (11) := (by rw [ao1 (by omega) (by with_reducible assumption) (by with_reducible assumption) (by with_reducible assumption) (by with_reducible assumption)]; simp only [b7.eta]; rfl); have e2 : ((pE s (d + 1) n).fst.value : Int) = (0) := (by rw [ao1 (by omega) (by with_reducible assumption) (by with_reducible assumption) (by with_reducible assumption) (by with_reducible assumption)]; simp only [b7.eta]; rfl); have e3 : ((pE s (d + 1) n).snd : Int) = (d8 s (pE s d (d8 s (pE s d (d8 s (pE s d (d8 s n [40])).snd [63])).snd [58])).snd [41]) := (by rw [ao1 (by omega) (by with_reducible assumption) (by with_reducible assumption) (by with_reducible assumption) (by with_reducible assumption)]; simp only [b7.eta]; rfl); (first | rw [e1, e2, e3] | simp only [e1, e2, e3]) <;> rfl) (by show _ = mR [6] [dE (pE s (d + 1) n).fst.kids]; have e1 : ((pE s (d + 1) n).fst.kids : List b7) = ([C8 (pE s d (d8 s n [40])).fst] ++ ([C8 (pE s d (d8 s (pE s d (d8 s n [40])).snd [63])).fst] ++ ([C8 (pE s d (d8 s (pE s d (d8 s (pE s d (d8 s n [40])).snd [63])).snd [58])).fst] ++ []))) := (by rw [ao1 (by omega) (by with_reducible assumption) (by with_reducible assumption) (by with_reducible assumption) (by with_reducible assumption)]; simp only [b7.eta]; rfl); (first | rw [e1] | simp only [e1]) <;> rfl)
      have q4 : (t7 s n [40]) = false := (Eq.mp (b65 _) h4); refine rT G _ h4 (wp_seq (j5 G (n4 1 [] (aA7 s n (by assumption) (by assumption) (by assumption))) [0, 1, 2, 43] [Z6 s n, aj2, av0, .box [.v (.string (b6 s)), iA (I4 s n).snd]] (J6 m [(10, iA (I4 s n).fst), (11, .ptr 3 0)]) fun G => b0 (wp_seq (ab6 G d7 [0, 1, 0, 3, 15] [0, 1, 2] [Z6 s n, .box [iA 1, iA (I4 s n).fst, .v (.slice none 0 0)], .box [.v (.string (b6 s)), iA (I4 s n).snd]] (J6 m []) fun G => b0 (wp_ret (j2 ?_)))))); obtain ⟨ρ, G⟩ := G.nil 3 0 (.exprs []) 9 [.box [.v (.string (b6 s)), iA n], .box [iA 1, iA (I4 s n).fst, .ref 3], .box [.v (.string (b6 s)), iA (I4 s n).snd]] (J6 m []); obtain ⟨ρ, G⟩ := G.frz [.no, .no, .no, .row 0] [.box [.v (.string (b6 s)), iA n], .box [iA 1, iA (I4 s n).fst, .ref 3], .box [.v (.string (b6 s)), iA (I4 s n).snd], dE []] (J6 m []); exact E0 (.tup [.agg [iA 1, iA (I4 s n).fst, .ref 3], .agg [.v (.string (b6 s)), iA (I4 s n).snd]]) G [3] (by have e1 : ((pE s (d + 1) n).fst.kind : Int) = (1) := (by rw [ao2 (by omega) (by with_reducible assumption) (by with_reducible assumption) (by with_reducible assumption)]; rfl); have e2 : ((pE s (d + 1) n).fst.value : Int) = ((I4 s n).fst) := (by rw [ao2 (by omega) (by with_reducible assumption) (by with_reducible assumption) (by with_reducible assumption)]; rfl); have e3 : ((pE s (d + 1) n).snd : Int) = ((I4 s n).snd) := (by rw [ao2 (by omega) (by with_reducible assumption) (by with_reducible assumption) (by with_reducible assumption)]); (first | rw [e1, e2, e3] | simp only [e1, e2, e3]) <;> rfl) (by show _ = mR [3] [dE (pE s (d + 1) n).fst.kids]; rw [ao2 (by omega) (by with_reducible assumption) (by with_reducible assumption) (by with_reducible assumption)] <;> rfl)
     refine wp_seq (G8 G (x8 (m8 6 [] (x5 s ([91]) (n + 1) (by assumption) (by simp [h0, h1, h2, h3]) (bE4 (by with_reducible assumption))) (m8 9 [] (ih (d8 s (n + 1) [91]) (m - 1) (by omega) P3 R2) x7)) fz []) [0, 1, 2, 75, 107, 115] [Z6 s n, aj2, av0, dE (pE s d (d8 s (n + 1) [91])).fst.kids, .box [iA (pE s d (d8 s (n + 1) [91])).fst.kind, iA (pE s d (d8 s (n + 1) [91])).fst.value, .ref 3], .box [.v (.string (b6 s)), iA (pE s d (d8 s (n + 1) [91])).snd]] (J6 m [(7, iA (s6 s n [80, 81])), (8, .ptr 4 0), (9, .ptr 5 0)]) [wO (n + 1), wO (m - 1)] (o2 (by omega)) fun G => b0 (wp_seq (ab6 G (n4 5 [] (x5 s ([93]) ((pE s d (d8 s (n + 1) [91])).snd) (by assumption) (by simp [h0, h1, h2, h3]) (ac4 d))) [0, 0, 2, 7, 0, 16, 63, 127] [0, 1, 2, 22] [Z6 s n, .box [iA 3, iA (s6 s n [80, 81]), .ref 3], .box [.v (.string (b6 s)), iA (d8 s (pE s d (d8 s (n + 1) [91])).snd [93])], .row 67 (D.exprs ([C8 (pE s d (d8 s (n + 1) [91])).fst] ++ []))] (J6 m []) fun G => b0 (wp_ret (j2 ?_))))); obtain ⟨ρ, G⟩ := G.frz [.no, .no, .no, .row 67] [.box [.v (.string (b6 s)), iA n], .box [iA 3, iA (s6 s n [80, 81]), .ref 3], .box [.v (.string (b6 s)), iA (d8 s (pE s d (d8 s (n + 1) [91])).snd [93])], dE ([C8 (pE s d (d8 s (n + 1) [91])).fst] ++ [])] (J6 m []); exact E0 (.tup [.agg [iA 3, iA (s6 s n [80, 81]), .ref 3], .agg [.v (.string (b6 s)), iA (d8 s (pE s d (d8 s (n + 1) [91])).snd [93])]]) G [3] (by have e1 : ((pE s (d + 1) n).fst.kind : Int) = (3) := (by rw [ao6 (by omega) (by with_reducible assumption) (by with_reducible assumption)]; simp only [b7.eta]; rfl); have e2 : ((pE s (d + 1) n).fst.value : Int) = (s6 s n [80, 81]) := (by rw [ao6 (by omega) (by with_reducible assumption) (by with_reducible assumption)]; simp only [b7.eta]; rfl); have e3 : ((pE s (d + 1) n).snd : Int) = (d8 s (pE s d (d8 s (n + 1) [91])).snd [93]) := (by rw [ao6 (by omega) (by with_reducible assumption) (by with_reducible assumption)]); (first | rw [e1, e2, e3] | simp only [e1, e2, e3]) <;> rfl) (by show _ = mR [3] [dE (pE s (d + 1) n).fst.kids]; have e1 : ((pE s (d + 1) n).fst.kids : List b7) = ([C8 (pE s d (d8 s (n + 1) [91])).fst] ++ []) := (by rw [ao6 (by omega) (by with_reducible assumption) (by with_reducible assumption)]; simp only [b7.eta]; rfl); (first | rw [e1] | simp only [e1]) <;> rfl)
    refine wp_seq (B2 G d7 [0, 1, 0, 4, 0, 16, 48, 124, 3, 511] [0, 1, 2] [Z6 s n, .box [iA 2, iA (s6 s n [97, 98, 99, 100, 101, 102, 103, 104, 105, 106, 107, 108]), .v (.slice none 0 0)], .box [.v (.string (b6 s)), iA (n + 1)]] (J6 m []) [wO (n + 1)] (o1 (by omega)) fun G => b0 (wp_ret (j2 ?_))); obtain ⟨ρ, G⟩ := G.nil 3 0 (.exprs []) 9 [.box [.v (.string (b6 s)), iA n], .box [iA 2, iA (s6 s n [97, 98, 99, 100, 101, 102, 103, 104, 105, 106, 107, 108]), .ref 3], .box [.v (.string (b6 s)), iA (n + 1)]] (J6 m []); obtain ⟨ρ, G⟩ := G.frz [.no, .no, .no, .row 0] [.box [.v (.string (b6 s)), iA n], .box [iA 2, iA (s6 s n [97, 98, 99, 100, 101, 102, 103, 104, 105, 106, 107, 108]), .ref 3], .box [.v (.string (b6 s)), iA (n + 1)], dE []] (J6 m []); exact E0 (.tup [.agg [iA 2, iA (s6 s n [97, 98, 99, 100, 101, 102, 103, 104, 105, 106, 107, 108]), .ref 3], .agg [.v (.string (b6 s)), iA (n + 1)]]) G [3] (by have e1 : ((pE s (d + 1) n).fst.kind : Int) = (2) := (by rw [ao0 (by omega) (by with_reducible assumption)]; rfl); have e2 : ((pE s (d + 1) n).fst.value : Int) = (s6 s n [97, 98, 99, 100, 101, 102, 103, 104, 105, 106, 107, 108]) := (by rw [ao0 (by omega) (by with_reducible assumption)]; rfl); have e3 : ((pE s (d + 1) n).snd : Int) = (n + 1) := (by rw [ao0 (by omega) (by with_reducible assumption)]); (first | rw [e1, e2, e3] | simp only [e1, e2, e3]) <;> rfl) (by show _ = mR [3] [dE (pE s (d + 1) n).fst.kids]; rw [ao0 (by omega) (by with_reducible assumption)] <;> rfl)
   refine wp_seq (j5 G (n4 2 [] (T6 s n)) [0, 1, 2] [Z6 s n, aj2, .box [.v (.string (b6 s)), iA (-1)]] (J6 m []) fun G => b0 (wp_ret (j2 ?_))); obtain ⟨ρ, G⟩ := G.nil 3 0 (.exprs []) 9 [.box [.v (.string (b6 s)), iA n], .box [iA 0, iA 0, .ref 3], .box [.v (.string (b6 s)), iA (-1)]] (J6 m []); obtain ⟨ρ, G⟩ := G.frz [.no, .no, .no, .row 0] [.box [.v (.string (b6 s)), iA n], .box [iA 0, iA 0, .ref 3], .box [.v (.string (b6 s)), iA (-1)], dE []] (J6 m []); exact E0 (.tup [.agg [iA 0, iA 0, .ref 3], .agg [.v (.string (b6 s)), iA (-1)]]) G [3] (by have e1 : ((pE s (d + 1) n).fst.kind : Int) = (0) := (by rw [ao3 (by omega)]; rfl); have e2 : ((pE s (d + 1) n).fst.value : Int) = (0) := (by rw [ao3 (by omega)]; rfl); have e3 : ((pE s (d + 1) n).snd : Int) = (-1) := (by rw [ao3 (by omega)]); (first | rw [e1, e2, e3] | simp only [e1, e2, e3]) <;> rfl) (by show _ = mR [3] [dE (pE s (d + 1) n).fst.kids]; rw [ao3 (by omega)] <;> rfl)
  have q0 := L2 h0; exact False.elim (by omega)
end Go.Proofs.YtompcdbfongedaaGreatDoor

namespace Go.Proofs.YtompcdbfongedaaGreatDoor
open Go
section
variable {s : List UInt8} {d : Nat} {n : Int}
def pi1 (s : List UInt8) (n : Int) : b7 × Int := pE s 5 (d8 s n [105, 102])
def pi2 (s : List UInt8) (d : Nat) (n : Int) : List b5 × Int := C2 s d (d8 s (pi1 s n).2 [123])
def pi3 (s : List UInt8) (d : Nat) (n : Int) : List b5 × Int := C2 s d (d8 s (pi2 s d n).2 [125, 123])
def pr1 (s : List UInt8) (n : Int) : Int × Int := I4 s (d8 s n [114, 101, 112, 101, 97, 116])
def pr2 (s : List UInt8) (d : Nat) (n : Int) : List b5 × Int := C2 s d (d8 s (pr1 s n).2 [123])
def pa1 (s : List UInt8) (n : Int) : b7 × Int := pE s 1 (d8 s (n + 1) [91])
def pa2 (s : List UInt8) (n : Int) : b7 × Int := pE s 5 (d8 s (pa1 s n).2 [93, 58, 61])
def pl1 (s : List UInt8) (n : Int) : b7 × Int := pE s 5 (d8 s (n + 1) [33, 61])
def pl2 (s : List UInt8) (n : Int) : b7 × Int := pE s 5 (d8 s (n + 1) [58, 61])
theorem an8 : A5 s (d + 1) n = aK2 s (C2 s d) n := rfl
theorem ac1 (h : t7 s n [105, 102] = true) : A5 s (d + 1) n = (⟨3, 0, zE, (pi1 s n).1, 0, (pi2 s d n).1, (pi3 s d n).1⟩, d8 s (pi3 s d n).2 [125]) := by
 rw [an8, aK2, if_pos h]; rfl
theorem ab8 (h : t7 s n [105, 102] = false) (h1 : t7 s n [114, 101, 112, 101, 97, 116] = true) : A5 s (d + 1) n = (⟨4, 0, zE, zE, (pr1 s n).1, (pr2 s d n).1, []⟩, d8 s (pr2 s d n).2 [125]) := by
 rw [an8, aK2, if_neg (by rw [h]; decide), if_pos h1]; rfl
section
variable (h : t7 s n [105, 102] = false) (h1 : t7 s n [114, 101, 112, 101, 97, 116] = false)
include h h1
theorem ab7 (h2 : s6 s n [80, 81] >= 0) : A5 s (d + 1) n = (⟨2, s6 s n [80, 81], (pa1 s n).1, (pa2 s n).1, 0, [], []⟩, d8 s (pa2 s n).2 [59]) := by
 rw [an8, aK2, if_neg (by rw [h]; decide), if_neg (by rw [h1]; decide), if_pos h2]; rfl
theorem ac0 (h2 : ¬ s6 s n [80, 81] >= 0) (h3 : s6 s n [97, 98, 99, 100, 101, 102, 103, 104, 105, 106, 107, 108] < 0) : A5 s (d + 1) n = (⟨0, s6 s n [97, 98, 99, 100, 101, 102, 103, 104, 105, 106, 107, 108], zE, zE, 0, [], []⟩, -1) := by
 rw [an8, aK2, if_neg (by rw [h]; decide), if_neg (by rw [h1]; decide), if_neg h2, if_pos h3]
theorem ab9 (h2 : ¬ s6 s n [80, 81] >= 0) (h3 : ¬ s6 s n [97, 98, 99, 100, 101, 102, 103, 104, 105, 106, 107, 108] < 0) (h4 : t7 s (n + 1) [33, 61] = true) : A5 s (d + 1) n = (⟨5, s6 s n [97, 98, 99, 100, 101, 102, 103, 104, 105, 106, 107, 108], zE, (pl1 s n).1, 0, [], []⟩, d8 s (pl1 s n).2 [59]) := by
 rw [an8, aK2, if_neg (by rw [h]; decide), if_neg (by rw [h1]; decide), if_neg h2, if_neg h3, if_pos h4]; rfl
theorem ac2 (h2 : ¬ s6 s n [80, 81] >= 0) (h3 : ¬ s6 s n [97, 98, 99, 100, 101, 102, 103, 104, 105, 106, 107, 108] < 0) (h4 : t7 s (n + 1) [33, 61] = false) : A5 s (d + 1) n = (⟨1, s6 s n [97, 98, 99, 100, 101, 102, 103, 104, 105, 106, 107, 108], zE, (pl2 s n).1, 0, [], []⟩, d8 s (pl2 s n).2 [59]) := by
 rw [an8, aK2, if_neg (by rw [h]; decide), if_neg (by rw [h1]; decide), if_neg h2, if_neg h3, if_neg (by rw [h4]; decide)]; rfl
end
theorem a79 : ∀ (d : Nat) (n : Int), -1 <= (A5 s d n).2 /\ (A5 s d n).2 <= s.length
 | 0, n => ⟨by show (-1 : Int) <= -1; omega, by show (-1 : Int) <= _; omega⟩
 | d + 1, n => by
  cases h : t7 s n [105, 102] with
  | true => rw [ac1 h]; exact V4 _ _ _
  | false =>
   cases h1 : t7 s n [114, 101, 112, 101, 97, 116] with
   | true => rw [ab8 h h1]; exact V4 _ _ _
   | false =>
    by_cases h2 : s6 s n [80, 81] >= 0
    ·rw [ab7 h h1 h2]; exact V4 _ _ _
    by_cases h3 : s6 s n [97, 98, 99, 100, 101, 102, 103, 104, 105, 106, 107, 108] < 0
    ·rw [ac0 h h1 h2 h3]; exact ⟨by show (-1 : Int) <= -1; omega, by show (-1 : Int) <= _; omega⟩
    cases h4 : t7 s (n + 1) [33, 61] with
    | true => rw [ab9 h h1 h2 h3 h4]; exact V4 _ _ _
    | false => rw [ac2 h h1 h2 h3 h4]; exact V4 _ _ _
def D8 (s : List UInt8) (d : Nat) (n : Int) : Nat -> List b5 × Int
 | 0 => ([], n)
 | k + 1 => ((D8 s d n k).1 ++ [(A5 s d (D8 s d n k).2).1], (A5 s d (D8 s d n k).2).2)
theorem Y9 (k : Nat) : (D8 s d n k).1.length = k := by
 induction k with
 | zero => rfl
 | succ k ih => rw [D8, b69, ih]; rfl
theorem bB2 (h0 : -1 <= n) (h1 : n <= s.length) (k : Nat) : -1 <= (D8 s d n k).2 /\ (D8 s d n k).2 <= s.length := by
 cases k with
 | zero => exact ⟨h0, h1⟩
 | succ k => exact a79 d _
variable {k : Nat}
theorem bG7 (hk : k <= 60) (hp : C2 s d n = pBk s (A5 s d) (61 - k) (D8 s d n k)) (h0 : (D8 s d n k).2 >= 0) (h1 : (D8 s d n k).2 < s.length) (h2 : t7 s (D8 s d n k).2 [125] = false) :
  C2 s d n = if (D8 s d n k).1.length + 1 > 60 then ((D8 s d n k).1 ++ [(A5 s d (D8 s d n k).2).1], -1) else pBk s (A5 s d) (60 - k) (D8 s d n (k + 1)) := by
 rw [hp, show 61 - k = (60 - k) + 1 by omega, pBk, if_pos ⟨h0, h1, h2⟩]; rfl
theorem ae9 (hk : k <= 60) (hp : C2 s d n = pBk s (A5 s d) (61 - k) (D8 s d n k)) (h : ¬ (D8 s d n k).2 >= 0 \/ ¬ (D8 s d n k).2 < s.length \/ t7 s (D8 s d n k).2 [125] = true) : C2 s d n = D8 s d n k := by
 rw [hp, show 61 - k = (60 - k) + 1 by omega, pBk, if_neg]
 rintro ⟨h0, h1, h2⟩
 rcases h with h | h | h
 ·omega
 ·omega
 rw [h] at h2; cases h2
theorem bb6 (hk : k <= 60) (hp : C2 s d n = pBk s (A5 s d) (61 - k) (D8 s d n k)) (h0 : (D8 s d n k).2 >= 0) (h1 : (D8 s d n k).2 < s.length) (h2 : t7 s (D8 s d n k).2 [125] = false) (h3 : 60 < k + 1) :
  C2 s d n = ((D8 s d n k).1 ++ [(A5 s d (D8 s d n k).2).1], -1) := by
 rw [bG7 hk hp h0 h1 h2, if_pos (by rw [Y9]; omega)]
theorem bB1 (hk : k <= 60) (hp : C2 s d n = pBk s (A5 s d) (61 - k) (D8 s d n k)) (h0 : (D8 s d n k).2 >= 0) (h1 : (D8 s d n k).2 < s.length) (h2 : t7 s (D8 s d n k).2 [125] = false) (h3 : ¬ 60 < k + 1) :
  C2 s d n = pBk s (A5 s d) (61 - (k + 1)) (D8 s d n (k + 1)) := by
 rw [bG7 hk hp h0 h1 h2, if_neg (by rw [Y9]; omega), show 60 - k = 61 - (k + 1) by omega]
theorem bx7 (h0 : -1 <= n) (h1 : n <= s.length) : -1 <= (C2 s d n).2 /\ (C2 s d n).2 <= s.length := by
 have key : ∀ (f : Nat) (x : List b5 × Int), -1 <= x.2 /\ x.2 <= s.length -> -1 <= (pBk s (A5 s d) f x).2 /\ (pBk s (A5 s d) f x).2 <= s.length := by
  intro f
  induction f with
  | zero => intro x h; exact h
  | succ f ih =>
   intro x h
   rw [pBk]
   split
   ·split
    ·exact ⟨by show (-1 : Int) <= -1; omega, by show (-1 : Int) <= _; omega⟩
    exact ih _ (a79 d _)
   exact h
 exact key _ _ ⟨h0, h1⟩
theorem aZ4 (h0 : -1 <= n) (h1 : n <= s.length) : (C2 s d n).2 <= s.length := (bx7 h0 h1).2
end
end Go.Proofs.YtompcdbfongedaaGreatDoor

namespace Go.Proofs.YtompcdbfongedaaGreatDoor
open Go Go.RowKit
theorem pED (s : List UInt8) (hs : s.length <= 100000000) : ∀ (d : Nat), d <= 6 -> ∀ (n m : Int), m = d -> -1 <= n -> n <= s.length -> j1.ok Tryz.prog (peC s d n m)
 | 0, _, n, m, hm, _, _ => bW9 s n m hm
 | d + 1, hd, n, m, hm, r0, r1 => bZ3 s hs d (by omega) (pED s hs d (by omega)) n m hm r0 r1
theorem bA8 (s : List UInt8) (hs : s.length <= 100000000) (n m : Int) (hm : m = 5) (r0 : -1 <= n) (r1 : n <= s.length) : j1.ok Tryz.prog (peC s 5 n m) := pED s hs 5 (by omega) n m hm r0 r1
theorem bW8 (s : List UInt8) (hs : s.length <= 100000000) (n m : Int) (hm : m = 1) (r0 : -1 <= n) (r1 : n <= s.length) : j1.ok Tryz.prog (peC s 1 n m) := pED s hs 1 (by omega) n m hm r0 r1
abbrev pbC (s : List UInt8) (d : Nat) (n m : Int) : j1 := ⟨19, [scA s n, iA m], [], [dT (C2 s d n).1], .tup [.ref 0, .agg [.v (.string (b6 s)), iA (C2 s d n).2]]⟩
abbrev ptC (s : List UInt8) (d : Nat) (n m : Int) : j1 := ⟨45, [scA s n, iA m], [], [dE (A5 s d n).1.index.kids, dE (A5 s d n).1.value.kids, dT (A5 s d n).1.body, dT (A5 s d n).1.els], .tup [.agg [iA (A5 s d n).1.kind, iA (A5 s d n).1.target, iA (A5 s d n).1.index.kind, iA (A5 s d n).1.index.value, .ref 0, iA (A5 s d n).1.value.kind, iA (A5 s d n).1.value.value, .ref 1, iA (A5 s d n).1.count, .ref 2, .ref 3], .agg [.v (.string (b6 s)), iA (A5 s d n).2]]⟩
abbrev bB6 : It := .box [iA 0, iA 0, iA 0, iA 0, .v (.slice none 0 0), iA 0, iA 0, .v (.slice none 0 0), iA 0, .v (.slice none 0 0), .v (.slice none 0 0)]
abbrev aq3 (m : Int) (r0 : List (Nat × AV)) : List (Nat × AV) := (1, iA m) :: (2, .ptr 0 0) :: (4, .ptr 1 0) :: (5, .ptr 2 0) :: r0
theorem bt2 (s : List UInt8) (n m : Int) (hm : m = 0) : j1.ok Tryz.prog (ptC s 0 n m) := by
 refine D2 128 Tryz.func45 [] [(0, .agg [.v (.string (b6 s)), iA n]), (1, iA m)] fun G => ?_; refine wp_seq (j5 G d7 [0, 8, 16] [.box [.v (.string (b6 s)), iA n], bB6, .box [.v (.string (ByteArray.mk #[])), iA 0]] (aq3 m []) fun G => b0 (wp_seq (wp_seq (A4 G d7 (aq3 m [(9, bA (decide (m < 1)))]) fun G => b0 ?_)))); cases h0 : (decide (m < 1))
 ·have q0 := L3 h0; exact False.elim (by omega)
 have q0 := L2 h0; refine rT G _ h0 (wp_seq (j5 G (n4 2 [] (T6 s n)) [0, 1, 2] [.box [.v (.string (b6 s)), iA n], bB6, .box [.v (.string (b6 s)), iA (-1)]] (aq3 m []) fun G => b0 (wp_ret (j2 ?_)))); obtain ⟨ρ, G⟩ := G.nil 3 0 (.exprs []) 9 [.box [.v (.string (b6 s)), iA n], .box [iA 0, iA 0, iA 0, iA 0, .ref 3, iA 0, iA 0, .v (.slice none 0 0), iA 0, .v (.slice none 0 0), .v (.slice none 0 0)], .box [.v (.string (b6 s)), iA (-1)]] (aq3 m []); obtain ⟨ρ, G⟩ := G.nil 4 0 (.exprs []) 9 [.box [.v (.string (b6 s)), iA n], .box [iA 0, iA 0, iA 0, iA 0, .ref 3, iA 0, iA 0, .ref 4, iA 0, .v (.slice none 0 0), .v (.slice none 0 0)], .box [.v (.string (b6 s)), iA (-1)], .row 0 (D.exprs [])] (aq3 m []); obtain ⟨ρ, G⟩ := G.nil 5 0 (.stmts []) 10 [.box [.v (.string (b6 s)), iA n], .box [iA 0, iA 0, iA 0, iA 0, .ref 3, iA 0, iA 0, .ref 4, iA 0, .ref 5, .v (.slice none 0 0)], .box [.v (.string (b6 s)), iA (-1)], .row 0 (D.exprs []), .row 0 (D.exprs [])] (aq3 m []); obtain ⟨ρ, G⟩ := G.nil 6 0 (.stmts []) 10 [.box [.v (.string (b6 s)), iA n], .box [iA 0, iA 0, iA 0, iA 0, .ref 3, iA 0, iA 0, .ref 4, iA 0, .ref 5, .ref 6], .box [.v (.string (b6 s)), iA (-1)], .row 0 (D.exprs []), .row 0 (D.exprs []), .row 0 (D.stmts [])] (aq3 m []); obtain ⟨ρ, G⟩ := G.frz [.no, .no, .no, .row 0, .row 0, .row 0, .row 0] [.box [.v (.string (b6 s)), iA n], .box [iA 0, iA 0, iA 0, iA 0, .ref 3, iA 0, iA 0, .ref 4, iA 0, .ref 5, .ref 6], .box [.v (.string (b6 s)), iA (-1)], dE [], dE [], dT [], dT []] (aq3 m []); exact H9 G [3, 4, 5, 6]
abbrev bB5 (s : List UInt8) (d : Nat) (n : Int) (k : Nat) : It := .row 69 (D.stmts ((D8 s d n k).fst ++ ([qzS (A5 s d (D8 s d n k).snd).fst] ++ [])))
abbrev aD1 : It := .box [.v (.string (ByteArray.mk #[])), iA 0]
abbrev au5 (m : Int) (r0 : List (Nat × AV)) : List (Nat × AV) := (1, iA m) :: (2, .ptr 0 0) :: (4, .v (.slice none 0 0)) :: (5, .ptr 1 0) :: r0
theorem bE0 (s : List UInt8) (hs : s.length <= 100000000) (d : Nat) (hd : d <= 6) (ih : ∀ (n m : Int), m = d -> -1 <= n -> n <= s.length -> j1.ok Tryz.prog (ptC s d n m)) (n m : Int) (hm : m = d) (r0 : -1 <= n) (r1 : n <= s.length) : j1.ok Tryz.prog (pbC s d n m) := by
  have hz : (b6 s).size = s.length := rfl; refine D2 44 Tryz.func19 [] [(0, .agg [.v (.string (b6 s)), iA n]), (1, iA m)] fun G => ?_; refine wp_seq (j5 G d7 [0, 16] [.box [.v (.string (b6 s)), iA n], aD1] (au5 m []) fun G => b0 (wp_seq (j5 G d7 [0, 1, 2] [.box [.v (.string (b6 s)), iA n], aD1, .tree (D.stmts [])] (au5 m [(6, .tref 2)]) fun G => b0 (wp_seq (wp_block ?_))))); obtain ⟨ρ, G⟩ := G.treeRow 2 69 (D.stmts []) [.box [.v (.string (b6 s)), iA n], .box [.v (.string (ByteArray.mk #[])), iA 0], .row 69 (D.stmts [])] (au5 m [(6, .ref 2)]); refine x4 (κ := Nat) (fun k => k <= 60 /\ C2 s d n = pBk s (A5 s d) (61 - k) (D8 s d n k)) (fun k => 61 - k) (fun k => [.box [.v (.string (b6 s)), iA (D8 s d n k).2], .box [.v (.string (ByteArray.mk #[])), iA 0], .row 69 (.stmts (D8 s d n k).1)]) (fun k => [(1, iA m), (2, .ptr 0 0), (4, .v (.slice none 0 0)), (5, .ptr 1 0), (6, .ref 2)]) 0 (⟨by omega, rfl⟩) (w6.at G _ _) ?_; clear G; intro k ρ a w hp G; replace G := w6.at G [.box [.v (.string (b6 s)), iA (D8 s d n k).snd], aD1, .row 69 (D.stmts (D8 s d n k).fst)] (au5 m [(6, .ref 2)]); have hbr := bB2 (d := d) r0 r1 k; have hlen := Y9 (s := s) (d := d) (n := n) k; refine wp_seq (wp_seq ?_); cases h0 : (decide ((D8 s d n k).snd >= 0))
  · have q0 := L3 h0; refine j3 G (y7 (fc h0 (fc (b := false) rfl fz)) (us [(4, 9, 0), (1010, 1010, 0), (12, 14, 1), (1015, 1015, 1)])) [(24, bA false)] fun G => b0 (rF G false (by kernel_rfl) (wp_exit (p8 (p8 (p7 (b0 (wp_seq (ab6 G d7 [0, 0, 1, 7] [1, 2] [.box [.v (.string (b6 s)), iA (D8 s d n k).snd], .row 69 (D.stmts (D8 s d n k).fst)] [(4, .ref 1), (5, .ptr 0 0)] fun G => b0 (wp_ret ?_))))))))); obtain ⟨ρ, G⟩ := G.frz [.no, .row 69] [.box [.v (.string (b6 s)), iA (D8 s d n k).snd], dT (D8 s d n k).fst] [(4, .ref 1), (5, .ptr 0 0)]; exact E0 (.tup [.ref 1, .agg [.v (.string (b6 s)), iA (D8 s d n k).snd]]) G [1] (by have e1 : ((C2 s d n).snd : Int) = ((D8 s d n k).snd) := (by rw [ae9 (by omega) hp.2 (.inl (by omega))]); (first | rw [e1] | simp only [e1]) <;> rfl) (by show _ = mR [1] [dT (C2 s d n).fst]; have e1 : ((C2 s d n).fst : List b5) = ((D8 s d n k).fst) := (by rw [ae9 (by omega) hp.2 (.inl (by omega))]); (first | rw [e1] | simp only [e1]) <;> rfl)
  have q0 := L2 h0; cases h1 : (decide ((D8 s d n k).snd < ((b6 s).size : Int)))
  · have q1 := L3 h1; refine j3 G (y7 (fc h0 (fc h1 fz)) (us [(4, 9, 0), (1010, 1010, 0), (12, 14, 1), (1015, 1015, 1)])) [(24, bA false)] fun G => b0 (rF G false (by kernel_rfl) (wp_exit (p8 (p8 (p7 (b0 (wp_seq (ab6 G d7 [0, 0, 1, 7] [1, 2] [.box [.v (.string (b6 s)), iA (D8 s d n k).snd], .row 69 (D.stmts (D8 s d n k).fst)] [(4, .ref 1), (5, .ptr 0 0)] fun G => b0 (wp_ret ?_))))))))); obtain ⟨ρ, G⟩ := G.frz [.no, .row 69] [.box [.v (.string (b6 s)), iA (D8 s d n k).snd], dT (D8 s d n k).fst] [(4, .ref 1), (5, .ptr 0 0)]; exact E0 (.tup [.ref 1, .agg [.v (.string (b6 s)), iA (D8 s d n k).snd]]) G [1] (by have e1 : ((C2 s d n).snd : Int) = ((D8 s d n k).snd) := (by rw [ae9 (by omega) hp.2 (.inr (.inl (by omega)))]); (first | rw [e1] | simp only [e1]) <;> rfl) (by show _ = mR [1] [dT (C2 s d n).fst]; have e1 : ((C2 s d n).fst : List b5) = ((D8 s d n k).fst) := (by rw [ae9 (by omega) hp.2 (.inr (.inl (by omega)))]); (first | rw [e1] | simp only [e1]) <;> rfl)
  have q1 := L2 h1; refine j3 G (x8 (m8 13 [] (Y7 s ([125]) ((D8 s d n k).snd) (by assumption) (by simp [h0, h1]) (by omega)) x7) (fc h0 (fc h1 fz)) (us [(4, 9, 0), (1010, 1010, 0), (12, 14, 1), (1015, 1015, 1)])) [(24, .v (.bool !t7 s (D8 s d n k).snd [125]))] fun G => b0 ?_; cases h2 : (!t7 s (D8 s d n k).snd [(125 : UInt8)])
  · have q2 : (t7 s (D8 s d n k).snd [125]) = true := (Eq.mp (b67 _) h2); refine rF G _ h2 (wp_exit (p8 (p8 (p7 (b0 (wp_seq (ab6 G d7 [0, 0, 1, 7] [1, 2] [.box [.v (.string (b6 s)), iA (D8 s d n k).snd], .row 69 (D.stmts (D8 s d n k).fst)] [(4, .ref 1), (5, .ptr 0 0)] fun G => b0 (wp_ret ?_)))))))); obtain ⟨ρ, G⟩ := G.frz [.no, .row 69] [.box [.v (.string (b6 s)), iA (D8 s d n k).snd], dT (D8 s d n k).fst] [(4, .ref 1), (5, .ptr 0 0)]; exact E0 (.tup [.ref 1, .agg [.v (.string (b6 s)), iA (D8 s d n k).snd]]) G [1] (by have e1 : ((C2 s d n).snd : Int) = ((D8 s d n k).snd) := (by rw [ae9 (by omega) hp.2 (.inr (.inr (by with_reducible assumption)))]); (first | rw [e1] | simp only [e1]) <;> rfl) (by show _ = mR [1] [dT (C2 s d n).fst]; have e1 : ((C2 s d n).fst : List b5) = ((D8 s d n k).fst) := (by rw [ae9 (by omega) hp.2 (.inr (.inr (by with_reducible assumption)))]); (first | rw [e1] | simp only [e1]) <;> rfl)
  have q2 : (t7 s (D8 s d n k).snd [125]) = false := (Eq.mp (b65 _) h2); refine rT G _ h2 (wp_skip (b0 (wp_block (wp_seq (j5 G d7 [0, 1, 2, 11] [.box [.v (.string (b6 s)), iA (D8 s d n k).snd], aD1, .row 69 (D.stmts (D8 s d n k).fst), .box [iA 0, iA 0, iA 0, iA 0, .v (.slice none 0 0), iA 0, iA 0, .v (.slice none 0 0), iA 0, .v (.slice none 0 0), .v (.slice none 0 0)]] (au5 m [(6, .ref 2), (7, .ptr 3 0)]) fun G => b0 (wp_seq (j5 G (n4 2 [] (ih ((D8 s d n k).snd) m (by assumption) (by omega) (by omega))) [0, 1, 2, 3, 20, 21, 22, 23] [.box [.v (.string (b6 s)), iA (A5 s d (D8 s d n k).snd).snd], aD1, .row 69 (D.stmts (D8 s d n k).fst), .box (sL (A5 s d (D8 s d n k).snd).fst 4), dE (A5 s d (D8 s d n k).snd).fst.index.kids, dE (A5 s d (D8 s d n k).snd).fst.value.kids, dT (A5 s d (D8 s d n k).snd).fst.body, dT (A5 s d (D8 s d n k).snd).fst.els] (au5 m [(6, .ref 2), (7, .ptr 3 0)]) fun G => b0 (wp_seq (G8 G d7 [0, 1, 32] [.box [.v (.string (b6 s)), iA (A5 s d (D8 s d n k).snd).snd], aD1, bB5 s d n k] (au5 m [(6, .ref 2)]) (aP ((D8 s d n k).fst.length + ([qzS (A5 s d (D8 s d n k).snd).fst] ++ []).length) 152 []) (aK (by simp only [b69, b58, b60, Y9]; omega) b70) fun G => b0 (wp_seq (j3 G d7 [(38, bA (decide ((((D8 s d n k).fst ++ ([qzS (A5 s d (D8 s d n k).snd).fst] ++ [])).length : Int) > 60)))] fun G => b0 (S9 G (fun h3 q3 => ?_) fun h3 q3 => ?_))))))))))))
  · refine wp_skip (o9 (b0 ?_)); exact Z9 G (k + 1) (by simp only [b69, b58, b60, Y9] at *; exact ⟨by omega, bB1 (by omega) hp.2 (by omega) (by omega) (by with_reducible assumption) (by omega)⟩) (by omega) [0, 1, 2] (by have e1 : ((D8 s d n (k + 1)).fst : List b5) = ((D8 s d n k).fst ++ ([qzS (A5 s d (D8 s d n k).snd).fst] ++ [])) := (by simp only [qzS, b7.eta, b5.eta]; rfl); (first | rw [e1] | simp only [e1]) <;> rfl)
  refine wp_seq (j5 G (n4 2 [] (T6 s ((A5 s d (D8 s d n k).snd).snd))) [0, 1, 2] [.box [.v (.string (b6 s)), iA (A5 s d (D8 s d n k).snd).snd], .box [.v (.string (b6 s)), iA (-1)], bB5 s d n k] [(1, iA m), (2, .ptr 0 0), (4, .ref 2), (5, .ptr 1 0), (6, .ref 2)] fun G => b0 (wp_ret (A2 (j2 (A2 (j2 ?_)))))); obtain ⟨ρ, G⟩ := G.frz [.no, .no, .row 69] [.box [.v (.string (b6 s)), iA (A5 s d (D8 s d n k).snd).snd], .box [.v (.string (b6 s)), iA (-1)], dT ((D8 s d n k).fst ++ ([qzS (A5 s d (D8 s d n k).snd).fst] ++ []))] [(1, iA m), (2, .ptr 0 0), (4, .ref 2), (5, .ptr 1 0), (6, .ref 2)]; exact E0 (.tup [.ref 2, .agg [.v (.string (b6 s)), iA (-1)]]) G [2] (by have e1 : ((C2 s d n).snd : Int) = (-1) := (by simp only [b69, b58, b60, Y9] at *; rw [bb6 (by omega) hp.2 (by omega) (by omega) (by with_reducible assumption) (by omega)]); (first | rw [e1] | simp only [e1]) <;> rfl) (by show _ = mR [2] [dT (C2 s d n).fst]; have e1 : ((C2 s d n).fst : List b5) = ((D8 s d n k).fst ++ ([qzS (A5 s d (D8 s d n k).snd).fst] ++ [])) := (by simp only [b69, b58, b60, Y9] at *; rw [bb6 (by omega) hp.2 (by omega) (by omega) (by with_reducible assumption) (by omega)]; simp only [qzS, b7.eta, b5.eta]; rfl); (first | rw [e1] | simp only [e1]) <;> rfl)
abbrev Z5 (s : List UInt8) (d : Nat) (n : Int) : List It := [dE (A5 s (d + 1) n).fst.index.kids, dE (A5 s (d + 1) n).fst.value.kids, dT (A5 s (d + 1) n).fst.body, dT (A5 s (d + 1) n).fst.els]
abbrev K8 : It := .box [iA 0, iA 0, iA 0, iA 0, .v (.slice none 0 0), iA 0, iA 0, .v (.slice none 0 0), iA 0, .v (.slice none 0 0), .v (.slice none 0 0)]
abbrev bg3 (s : List UInt8) (n : Int) : It := .box [iA 2, iA (s6 s n [80, 81]), iA (pE s 1 (d8 s (n + 1) [91])).fst.kind, iA (pE s 1 (d8 s (n + 1) [91])).fst.value, .ref 4, iA (pE s 5 (d8 s (pE s 1 (d8 s (n + 1) [91])).snd [93, 58, 61])).fst.kind, iA (pE s 5 (d8 s (pE s 1 (d8 s (n + 1) [91])).snd [93, 58, 61])).fst.value, .ref 5, iA 0, .v (.slice none 0 0), .v (.slice none 0 0)]
abbrev L7 : It := .box [.v (.string (ByteArray.mk #[])), iA 0]
abbrev a41 (s : List UInt8) (n : Int) : It := .box [iA 0, iA (s6 s n [97, 98, 99, 100, 101, 102, 103, 104, 105, 106, 107, 108]), iA 0, iA 0, .v (.slice none 0 0), iA 0, iA 0, .v (.slice none 0 0), iA 0, .v (.slice none 0 0), .v (.slice none 0 0)]
abbrev bg2 (s : List UInt8) (n : Int) : It := .box [iA 4, iA 0, iA 0, iA 0, .v (.slice none 0 0), iA 0, iA 0, .v (.slice none 0 0), iA (I4 s (d8 s n [114, 101, 112, 101, 97, 116])).fst, .ref 4, .v (.slice none 0 0)]
abbrev bg1 (s : List UInt8) (n : Int) : It := .box [iA 3, iA 0, iA 0, iA 0, .v (.slice none 0 0), iA (pE s 5 (d8 s n [105, 102])).fst.kind, iA (pE s 5 (d8 s n [105, 102])).fst.value, .ref 4, iA 0, .ref 5, .ref 6]
abbrev aq4 (s : List UInt8) (n : Int) : It := .box [.v (.string (b6 s)), iA n]
abbrev D3 (r0 : List (Nat × AV)) : List (Nat × AV) := (2, .ptr 0 0) :: (4, .ptr 1 0) :: (5, .ptr 2 0) :: (6, .ptr 3 0) :: r0
abbrev aN8 (s : List UInt8) (n : Int) (r0 : List It) : List It := .box [.v (.string (b6 s)), iA (-1)] :: .box [iA 0, iA (s6 s n [97, 98, 99, 100, 101, 102, 103, 104, 105, 106, 107, 108]), iA 0, iA 0, .v (.slice none 0 0), iA 0, iA 0, .v (.slice none 0 0), iA 0, .v (.slice none 0 0), .v (.slice none 0 0)] :: r0
abbrev aN7 (s : List UInt8) (n : Int) (r0 : List It) : List It := .box [.v (.string (b6 s)), iA (d8 s (pE s 5 (d8 s (n + 1) [58, 61])).snd [59])] :: dE (pE s 5 (d8 s (n + 1) [58, 61])).fst.kids :: r0
abbrev aN6 (s : List UInt8) (n : Int) (r0 : List It) : List It := .box [.v (.string (b6 s)), iA (d8 s (pE s 5 (d8 s (n + 1) [33, 61])).snd [59])] :: dE (pE s 5 (d8 s (n + 1) [33, 61])).fst.kids :: r0
theorem bD9 (s : List UInt8) (hs : s.length <= 100000000) (d : Nat) (hd : d <= 5) (ih : ∀ (n m : Int), m = d -> -1 <= n -> n <= s.length -> j1.ok Tryz.prog (pbC s d n m)) (n m : Int) (hm : m = (d + 1 : Nat)) (r0 : -1 <= n) (r1 : n <= s.length) : j1.ok Tryz.prog (ptC s (d + 1) n m) := by
  refine D2 128 Tryz.func45 [] [(0, .agg [.v (.string (b6 s)), iA n]), (1, iA m)] fun G => ?_; refine wp_seq (j5 G d7 [0, 8, 16] [aq4 s n, K8, L7] [(1, iA m), (2, .ptr 0 0), (4, .ptr 1 0), (5, .ptr 2 0)] fun G => b0 (wp_seq (wp_seq (A4 G d7 [(1, iA m), (2, .ptr 0 0), (4, .ptr 1 0), (5, .ptr 2 0), (9, bA (decide (m < 1)))] fun G => b0 ?_)))); cases h0 : (decide (m < 1))
  ·
   have q0 := L3 h0; refine rF G _ h0 (wp_skip (b0 (wp_seq (j5 G d7 [0, 1, 2, 11] [aq4 s n, K8, L7, K8] ((1, iA m) :: (D3 [])) fun G => b0 (wp_seq (wp_block (wp_seq (j3 G (n4 1 [] (Y7 s ([105, 102]) n (by assumption) (by simp [h0]) (by assumption))) [(14, bA (t7 s n [105, 102]))] fun G => b0 (rcB (b := t7 s n [(105 : UInt8), (102 : UInt8)]) G (fun h1 => ?_) fun h1 => ?_)))))))))
   ·
    refine wp_seq (j3 G (n4 1 [] (Y7 s ([114, 101, 112, 101, 97, 116]) n (by assumption) (by simp [h0, h1]) (by assumption))) [(46, bA (t7 s n [114, 101, 112, 101, 97, 116]))] fun G => b0 (rcB (b := t7 s n [(114 : UInt8), (101 : UInt8), (112 : UInt8), (101 : UInt8), (97 : UInt8), (116 : UInt8)]) G (fun h2 => ?_) fun h2 => ?_))
    ·
     refine wp_skip (o9 (b0 (wp_seq (j5 G (n4 1 [] (T5 s ([80, 81]) n (by assumption) (by simp [h0, h1, h2]))) (rg 4) [aq4 s n, K8, L7, .box [iA 0, iA (s6 s n [80, 81]), iA 0, iA 0, .v (.slice none 0 0), iA 0, iA 0, .v (.slice none 0 0), iA 0, .v (.slice none 0 0), .v (.slice none 0 0)]] (D3 []) fun G => b0 (wp_seq (wp_seq (j3 G d7 [(74, bA (decide (s6 s n [80, 81] >= 0)))] fun G => b0 (S9 (p := s6 s n [(80 : UInt8), (81 : UInt8)] >= 0) G (fun h3 q3 => ?_) fun h3 q3 => ?_))))))))
     ·
      refine wp_skip (b0 (wp_seq (j5 G (n4 1 [] (T5 s ([97, 98, 99, 100, 101, 102, 103, 104, 105, 106, 107, 108]) n (by assumption) (by simp [h0, h1, h2, h3]))) (rg 4) [aq4 s n, K8, L7, a41 s n] (D3 []) fun G => b0 (wp_seq (wp_seq (j3 G d7 [(103, bA (decide (s6 s n [97, 98, 99, 100, 101, 102, 103, 104, 105, 106, 107, 108] < 0)))] fun G => b0 (S9 (p := s6 s n [(97 : UInt8), (98 : UInt8), (99 : UInt8), (100 : UInt8), (101 : UInt8), (102 : UInt8), (103 : UInt8), (104 : UInt8), (105 : UInt8), (106 : UInt8), (107 : UInt8), (108 : UInt8)] < 0) G (fun h4 q4 => ?_) fun h4 q4 => ?_)))))))
      ·
       refine wp_skip (b0 (wp_seq (G8 G d7 (rg 4) [.box [.v (.string (b6 s)), iA (n + 1)], K8, L7, a41 s n] (D3 []) [wO (n + 1)] (o1 (by omega)) fun G => b0 (wp_seq (j5 G d7 (rg 4) [.box [.v (.string (b6 s)), iA (n + 1)], K8, L7, .box [iA 1, iA (s6 s n [97, 98, 99, 100, 101, 102, 103, 104, 105, 106, 107, 108]), iA 0, iA 0, .v (.slice none 0 0), iA 0, iA 0, .v (.slice none 0 0), iA 0, .v (.slice none 0 0), .v (.slice none 0 0)]] (D3 []) fun G => b0 (wp_seq (j3 G d7 [(7, .v (.string (ByteArray.mk #[58, 61])))] fun G => b0 (wp_seq (wp_seq (j3 G (n4 1 [] (Y7 s ([33, 61]) (n + 1) (by assumption) (by simp [h0, h1, h2, h3, h4]) (a89 (by with_reducible assumption)))) [(115, bA (t7 s (n + 1) [33, 61]))] fun G => b0 (rcB (b := t7 s (n + 1) [(33 : UInt8), (61 : UInt8)]) G (fun h5 => ?_) fun h5 => ?_)))))))))))
       · refine wp_skip (b0 (wp_seq (j5 G (x8 (m8 2 [] (x5 s ([58, 61]) (n + 1) (by assumption) (by simp [h0, h1, h2, h3, h4, h5]) (a89 (by with_reducible assumption))) (m8 3 [] (bA8 s (by assumption) (d8 s (n + 1) [58, 61]) 5 (by kernel_rfl) P3 R2) x7)) fz []) [0, 1, 2, 3, 28] [.box [.v (.string (b6 s)), iA (pE s 5 (d8 s (n + 1) [58, 61])).snd], K8, L7, .box [iA 1, iA (s6 s n [97, 98, 99, 100, 101, 102, 103, 104, 105, 106, 107, 108]), iA 0, iA 0, .v (.slice none 0 0), iA (pE s 5 (d8 s (n + 1) [58, 61])).fst.kind, iA (pE s 5 (d8 s (n + 1) [58, 61])).fst.value, .ref 4, iA 0, .v (.slice none 0 0), .v (.slice none 0 0)], dE (pE s 5 (d8 s (n + 1) [58, 61])).fst.kids] (D3 []) fun G => b0 (wp_seq (ab6 G (n4 2 [] (x5 s ([59]) ((pE s 5 (d8 s (n + 1) [58, 61])).snd) (by assumption) (by simp [h0, h1, h2, h3, h4, h5]) (ac4 5))) [0, 0, 2, 7, 15] [1, 2, 4] (.box [iA 1, iA (s6 s n [97, 98, 99, 100, 101, 102, 103, 104, 105, 106, 107, 108]), iA 0, iA 0, .v (.slice none 0 0), iA (pE s 5 (d8 s (n + 1) [58, 61])).fst.kind, iA (pE s 5 (d8 s (n + 1) [58, 61])).fst.value, .ref 2, iA 0, .v (.slice none 0 0), .v (.slice none 0 0)] :: (aN7 s n [])) [(4, .ptr 0 0), (5, .ptr 1 0)] fun G => b0 (wp_ret ?_)))))); obtain ⟨ρ, G⟩ := G.nil 3 0 (.exprs []) 9 (.box [iA 1, iA (s6 s n [97, 98, 99, 100, 101, 102, 103, 104, 105, 106, 107, 108]), iA 0, iA 0, .ref 3, iA (pE s 5 (d8 s (n + 1) [58, 61])).fst.kind, iA (pE s 5 (d8 s (n + 1) [58, 61])).fst.value, .ref 2, iA 0, .v (.slice none 0 0), .v (.slice none 0 0)] :: (aN7 s n [])) [(4, .ptr 0 0), (5, .ptr 1 0)]; obtain ⟨ρ, G⟩ := G.nil 4 0 (.stmts []) 10 (.box [iA 1, iA (s6 s n [97, 98, 99, 100, 101, 102, 103, 104, 105, 106, 107, 108]), iA 0, iA 0, .ref 3, iA (pE s 5 (d8 s (n + 1) [58, 61])).fst.kind, iA (pE s 5 (d8 s (n + 1) [58, 61])).fst.value, .ref 2, iA 0, .ref 4, .v (.slice none 0 0)] :: (aN7 s n [.row 0 (D.exprs [])])) [(4, .ptr 0 0), (5, .ptr 1 0)]; obtain ⟨ρ, G⟩ := G.nil 5 0 (.stmts []) 10 (.box [iA 1, iA (s6 s n [97, 98, 99, 100, 101, 102, 103, 104, 105, 106, 107, 108]), iA 0, iA 0, .ref 3, iA (pE s 5 (d8 s (n + 1) [58, 61])).fst.kind, iA (pE s 5 (d8 s (n + 1) [58, 61])).fst.value, .ref 2, iA 0, .ref 4, .ref 5] :: (aN7 s n [.row 0 (D.exprs []), .row 0 (D.stmts [])])) [(4, .ptr 0 0), (5, .ptr 1 0)]; obtain ⟨ρ, G⟩ := G.frz [.no, .no, .no, .row 0, .row 0, .row 0] (.box [iA 1, iA (s6 s n [97, 98, 99, 100, 101, 102, 103, 104, 105, 106, 107, 108]), iA 0, iA 0, .ref 3, iA (pE s 5 (d8 s (n + 1) [58, 61])).fst.kind, iA (pE s 5 (d8 s (n + 1) [58, 61])).fst.value, .ref 2, iA 0, .ref 4, .ref 5] :: (aN7 s n [dE [], dT [], dT []])) [(4, .ptr 0 0), (5, .ptr 1 0)]; exact E0 (.tup [.agg [iA 1, iA (s6 s n [97, 98, 99, 100, 101, 102, 103, 104, 105, 106, 107, 108]), iA 0, iA 0, .ref 3, iA (pE s 5 (d8 s (n + 1) [58, 61])).fst.kind, iA (pE s 5 (d8 s (n + 1) [58, 61])).fst.value, .ref 2, iA 0, .ref 4, .ref 5], .agg [.v (.string (b6 s)), iA (d8 s (pE s 5 (d8 s (n + 1) [58, 61])).snd [59])]]) G [3, 2, 4, 5] (by have e1 : ((A5 s (d + 1) n).fst.kind : Int) = (1) := (by rw [ac2 (by with_reducible assumption) (by with_reducible assumption) (by with_reducible assumption) (by with_reducible assumption) (by with_reducible assumption)]; rfl); have e2 : ((A5 s (d + 1) n).fst.target : Int) = (s6 s n [97, 98, 99, 100, 101, 102, 103, 104, 105, 106, 107, 108]) := (by rw [ac2 (by with_reducible assumption) (by with_reducible assumption) (by with_reducible assumption) (by with_reducible assumption) (by with_reducible assumption)]; rfl); have e3 : ((A5 s (d + 1) n).fst.index.kind : Int) = (0) := (by rw [ac2 (by with_reducible assumption) (by with_reducible assumption) (by with_reducible assumption) (by with_reducible assumption) (by with_reducible assumption)]; rfl); have e4 : ((A5 s (d + 1) n).fst.index.value : Int) = (0) := (by rw [ac2 (by with_reducible assumption) (by with_reducible assumption) (by with_reducible assumption) (by with_reducible assumption) (by with_reducible assumption)]; rfl); have e5 : ((A5 s (d + 1) n).fst.value.kind : Int) = ((pE s 5 (d8 s (n + 1) [58, 61])).fst.kind) := (by rw [ac2 (by with_reducible assumption) (by with_reducible assumption) (by with_reducible assumption) (by with_reducible assumption) (by with_reducible assumption)]; rfl); have e6 : ((A5 s (d + 1) n).fst.value.value : Int) = ((pE s 5 (d8 s (n + 1) [58, 61])).fst.value) := (by rw [ac2 (by with_reducible assumption) (by with_reducible assumption) (by with_reducible assumption) (by with_reducible assumption) (by with_reducible assumption)]; rfl); have e7 : ((A5 s (d + 1) n).fst.count : Int) = (0) := (by rw [ac2 (by with_reducible assumption) (by with_reducible assumption) (by with_reducible assumption) (by with_reducible assumption) (by with_reducible assumption)]; rfl); have e8 : ((A5 s (d + 1) n).snd : Int) = (d8 s (pE s 5 (d8 s (n + 1) [58, 61])).snd [59]) := (by rw [ac2 (by with_reducible assumption) (by with_reducible assumption) (by with_reducible assumption) (by with_reducible assumption) (by with_reducible assumption)]; rfl); (first | rw [e1, e2, e3, e4, e5, e6, e7, e8] | simp only [e1, e2, e3, e4, e5, e6, e7, e8]) <;> rfl) (by show _ = mR [3, 2, 4, 5] (Z5 s d n); unfold Z5; rw [ac2 (by with_reducible assumption) (by with_reducible assumption) (by with_reducible assumption) (by with_reducible assumption) (by with_reducible assumption)] <;> rfl)
       refine wp_seq (j5 G d7 (rg 4) [.box [.v (.string (b6 s)), iA (n + 1)], K8, L7, .box [iA 5, iA (s6 s n [97, 98, 99, 100, 101, 102, 103, 104, 105, 106, 107, 108]), iA 0, iA 0, .v (.slice none 0 0), iA 0, iA 0, .v (.slice none 0 0), iA 0, .v (.slice none 0 0), .v (.slice none 0 0)]] (D3 [(7, .v (.string (ByteArray.mk #[58, 61])))]) fun G => b0 (j3 G d7 [(7, .v (.string (ByteArray.mk #[33, 61])))] fun G => b0 (wp_seq (j5 G (x8 (m8 2 [] (x5 s ([33, 61]) (n + 1) (by assumption) (by simp [h0, h1, h2, h3, h4, h5]) (a89 (by with_reducible assumption))) (m8 3 [] (bA8 s (by assumption) (d8 s (n + 1) [33, 61]) 5 (by kernel_rfl) P3 R2) x7)) fz []) [0, 1, 2, 3, 28] [.box [.v (.string (b6 s)), iA (pE s 5 (d8 s (n + 1) [33, 61])).snd], K8, L7, .box [iA 5, iA (s6 s n [97, 98, 99, 100, 101, 102, 103, 104, 105, 106, 107, 108]), iA 0, iA 0, .v (.slice none 0 0), iA (pE s 5 (d8 s (n + 1) [33, 61])).fst.kind, iA (pE s 5 (d8 s (n + 1) [33, 61])).fst.value, .ref 4, iA 0, .v (.slice none 0 0), .v (.slice none 0 0)], dE (pE s 5 (d8 s (n + 1) [33, 61])).fst.kids] (D3 []) fun G => b0 (wp_seq (ab6 G (n4 2 [] (x5 s ([59]) ((pE s 5 (d8 s (n + 1) [33, 61])).snd) (by assumption) (by simp [h0, h1, h2, h3, h4, h5]) (ac4 5))) [0, 0, 2, 7, 15] [1, 2, 4] (.box [iA 5, iA (s6 s n [97, 98, 99, 100, 101, 102, 103, 104, 105, 106, 107, 108]), iA 0, iA 0, .v (.slice none 0 0), iA (pE s 5 (d8 s (n + 1) [33, 61])).fst.kind, iA (pE s 5 (d8 s (n + 1) [33, 61])).fst.value, .ref 2, iA 0, .v (.slice none 0 0), .v (.slice none 0 0)] :: (aN6 s n [])) [(4, .ptr 0 0), (5, .ptr 1 0)] fun G => b0 (wp_ret ?_))))))); obtain ⟨ρ, G⟩ := G.nil 3 0 (.exprs []) 9 (.box [iA 5, iA (s6 s n [97, 98, 99, 100, 101, 102, 103, 104, 105, 106, 107, 108]), iA 0, iA 0, .ref 3, iA (pE s 5 (d8 s (n + 1) [33, 61])).fst.kind, iA (pE s 5 (d8 s (n + 1) [33, 61])).fst.value, .ref 2, iA 0, .v (.slice none 0 0), .v (.slice none 0 0)] :: (aN6 s n [])) [(4, .ptr 0 0), (5, .ptr 1 0)]; obtain ⟨ρ, G⟩ := G.nil 4 0 (.stmts []) 10 (.box [iA 5, iA (s6 s n [97, 98, 99, 100, 101, 102, 103, 104, 105, 106, 107, 108]), iA 0, iA 0, .ref 3, iA (pE s 5 (d8 s (n + 1) [33, 61])).fst.kind, iA (pE s 5 (d8 s (n + 1) [33, 61])).fst.value, .ref 2, iA 0, .ref 4, .v (.slice none 0 0)] :: (aN6 s n [.row 0 (D.exprs [])])) [(4, .ptr 0 0), (5, .ptr 1 0)]; obtain ⟨ρ, G⟩ := G.nil 5 0 (.stmts []) 10 (.box [iA 5, iA (s6 s n [97, 98, 99, 100, 101, 102, 103, 104, 105, 106, 107, 108]), iA 0, iA 0, .ref 3, iA (pE s 5 (d8 s (n + 1) [33, 61])).fst.kind, iA (pE s 5 (d8 s (n + 1) [33, 61])).fst.value, .ref 2, iA 0, .ref 4, .ref 5] :: (aN6 s n [.row 0 (D.exprs []), .row 0 (D.stmts [])])) [(4, .ptr 0 0), (5, .ptr 1 0)]; obtain ⟨ρ, G⟩ := G.frz [.no, .no, .no, .row 0, .row 0, .row 0] (.box [iA 5, iA (s6 s n [97, 98, 99, 100, 101, 102, 103, 104, 105, 106, 107, 108]), iA 0, iA 0, .ref 3, iA (pE s 5 (d8 s (n + 1) [33, 61])).fst.kind, iA (pE s 5 (d8 s (n + 1) [33, 61])).fst.value, .ref 2, iA 0, .ref 4, .ref 5] :: (aN6 s n [dE [], dT [], dT []])) [(4, .ptr 0 0), (5, .ptr 1 0)]
       exact E0 (.tup [.agg [iA 5, iA (s6 s n [97, 98, 99, 100, 101, 102, 103, 104, 105, 106, 107, 108]), iA 0, iA 0, .ref 3, iA (pE s 5 (d8 s (n + 1) [33, 61])).fst.kind, iA (pE s 5 (d8 s (n + 1) [33, 61])).fst.value, .ref 2, iA 0, .ref 4, .ref 5], .agg [.v (.string (b6 s)), iA (d8 s (pE s 5 (d8 s (n + 1) [33, 61])).snd [59])]]) G [3, 2, 4, 5] (by have e1 : ((A5 s (d + 1) n).fst.kind : Int) = (5) := (by rw [ab9 (by with_reducible assumption) (by with_reducible assumption) (by with_reducible assumption) (by with_reducible assumption) (by with_reducible assumption)]; rfl); have e2 : ((A5 s (d + 1) n).fst.target : Int) = (s6 s n [97, 98, 99, 100, 101, 102, 103, 104, 105, 106, 107, 108]) := (by rw [ab9 (by with_reducible assumption) (by with_reducible assumption) (by with_reducible assumption) (by with_reducible assumption) (by with_reducible assumption)]; rfl); have e3 : ((A5 s (d + 1) n).fst.index.kind : Int) = (0) := (by rw [ab9 (by with_reducible assumption) (by with_reducible assumption) (by with_reducible assumption) (by with_reducible assumption) (by with_reducible assumption)]; rfl); have e4 : ((A5 s (d + 1) n).fst.index.value : Int) = (0) := (by rw [ab9 (by with_reducible assumption) (by with_reducible assumption) (by with_reducible assumption) (by with_reducible assumption) (by with_reducible assumption)]; rfl); have e5 : ((A5 s (d + 1) n).fst.value.kind : Int) = ((pE s 5 (d8 s (n + 1) [33, 61])).fst.kind) := (by rw [ab9 (by with_reducible assumption) (by with_reducible assumption) (by with_reducible assumption) (by with_reducible assumption) (by with_reducible assumption)]; rfl); have e6 : ((A5 s (d + 1) n).fst.value.value : Int) = ((pE s 5 (d8 s (n + 1) [33, 61])).fst.value) := (by rw [ab9 (by with_reducible assumption) (by with_reducible assumption) (by with_reducible assumption) (by with_reducible assumption) (by with_reducible assumption)]; rfl); have e7 : ((A5 s (d + 1) n).fst.count : Int) = (0) := (by rw [ab9 (by with_reducible assumption) (by with_reducible assumption) (by with_reducible assumption) (by with_reducible assumption) (by with_reducible assumption)]; rfl); have e8 : ((A5 s (d + 1) n).snd : Int) = (d8 s (pE s 5 (d8 s (n + 1) [33, 61])).snd [59]) := (by rw [ab9 (by with_reducible assumption) (by with_reducible assumption) (by with_reducible assumption) (by with_reducible assumption) (by with_reducible assumption)]; rfl); (first | rw [e1, e2, e3, e4, e5, e6, e7, e8] | simp only [e1, e2, e3, e4, e5, e6, e7, e8]) <;> rfl) (by show _ = mR [3, 2, 4, 5] (Z5 s d n); unfold Z5; rw [ab9 (by with_reducible assumption) (by with_reducible assumption) (by with_reducible assumption) (by with_reducible assumption) (by with_reducible assumption)] <;> rfl)
      refine wp_seq (ab6 G (n4 2 [] (T6 s n)) [0, 0, 2, 7, 15] (rg 4) [aq4 s n, a41 s n, .box [.v (.string (b6 s)), iA (-1)], a41 s n] (D3 []) fun G => b0 (wp_ret (j2 ?_))); obtain ⟨ρ, G⟩ := G.nil 4 0 (.exprs []) 9 (.box [.v (.string (b6 s)), iA n] :: .box [iA 0, iA (s6 s n [97, 98, 99, 100, 101, 102, 103, 104, 105, 106, 107, 108]), iA 0, iA 0, .ref 4, iA 0, iA 0, .v (.slice none 0 0), iA 0, .v (.slice none 0 0), .v (.slice none 0 0)] :: (aN8 s n [])) (D3 []); obtain ⟨ρ, G⟩ := G.nil 5 0 (.exprs []) 9 (.box [.v (.string (b6 s)), iA n] :: .box [iA 0, iA (s6 s n [97, 98, 99, 100, 101, 102, 103, 104, 105, 106, 107, 108]), iA 0, iA 0, .ref 4, iA 0, iA 0, .ref 5, iA 0, .v (.slice none 0 0), .v (.slice none 0 0)] :: (aN8 s n [.row 0 (D.exprs [])])) (D3 []); obtain ⟨ρ, G⟩ := G.nil 6 0 (.stmts []) 10 (.box [.v (.string (b6 s)), iA n] :: .box [iA 0, iA (s6 s n [97, 98, 99, 100, 101, 102, 103, 104, 105, 106, 107, 108]), iA 0, iA 0, .ref 4, iA 0, iA 0, .ref 5, iA 0, .ref 6, .v (.slice none 0 0)] :: (aN8 s n [.row 0 (D.exprs []), .row 0 (D.exprs [])])) (D3 []); obtain ⟨ρ, G⟩ := G.nil 7 0 (.stmts []) 10 (.box [.v (.string (b6 s)), iA n] :: .box [iA 0, iA (s6 s n [97, 98, 99, 100, 101, 102, 103, 104, 105, 106, 107, 108]), iA 0, iA 0, .ref 4, iA 0, iA 0, .ref 5, iA 0, .ref 6, .ref 7] :: (aN8 s n [.row 0 (D.exprs []), .row 0 (D.exprs []), .row 0 (D.stmts [])])) (D3 []); obtain ⟨ρ, G⟩ := G.frz [.no, .no, .no, .no, .row 0, .row 0, .row 0, .row 0] (.box [.v (.string (b6 s)), iA n] :: .box [iA 0, iA (s6 s n [97, 98, 99, 100, 101, 102, 103, 104, 105, 106, 107, 108]), iA 0, iA 0, .ref 4, iA 0, iA 0, .ref 5, iA 0, .ref 6, .ref 7] :: (aN8 s n [dE [], dE [], dT [], dT []])) (D3 []); exact E0 (.tup [.agg [iA 0, iA (s6 s n [97, 98, 99, 100, 101, 102, 103, 104, 105, 106, 107, 108]), iA 0, iA 0, .ref 4, iA 0, iA 0, .ref 5, iA 0, .ref 6, .ref 7], .agg [.v (.string (b6 s)), iA (-1)]]) G [4, 5, 6, 7] (by have e1 : ((A5 s (d + 1) n).fst.kind : Int) = (0) := (by rw [ac0 (by with_reducible assumption) (by with_reducible assumption) (by with_reducible assumption) (by with_reducible assumption)]; rfl); have e2 : ((A5 s (d + 1) n).fst.target : Int) = (s6 s n [97, 98, 99, 100, 101, 102, 103, 104, 105, 106, 107, 108]) := (by rw [ac0 (by with_reducible assumption) (by with_reducible assumption) (by with_reducible assumption) (by with_reducible assumption)]; rfl); have e3 : ((A5 s (d + 1) n).fst.index.kind : Int) = (0) := (by rw [ac0 (by with_reducible assumption) (by with_reducible assumption) (by with_reducible assumption) (by with_reducible assumption)]; rfl); have e4 : ((A5 s (d + 1) n).fst.index.value : Int) = (0) := (by rw [ac0 (by with_reducible assumption) (by with_reducible assumption) (by with_reducible assumption) (by with_reducible assumption)]; rfl); have e5 : ((A5 s (d + 1) n).fst.value.kind : Int) = (0) := (by rw [ac0 (by with_reducible assumption) (by with_reducible assumption) (by with_reducible assumption) (by with_reducible assumption)]; rfl); have e6 : ((A5 s (d + 1) n).fst.value.value : Int) = (0) := (by rw [ac0 (by with_reducible assumption) (by with_reducible assumption) (by with_reducible assumption) (by with_reducible assumption)]; rfl); have e7 : ((A5 s (d + 1) n).fst.count : Int) = (0) := (by rw [ac0 (by with_reducible assumption) (by with_reducible assumption) (by with_reducible assumption) (by with_reducible assumption)]; rfl); have e8 : ((A5 s (d + 1) n).snd : Int) = (-1) := (by rw [ac0 (by with_reducible assumption) (by with_reducible assumption) (by with_reducible assumption) (by with_reducible assumption)]); (first | rw [e1, e2, e3, e4, e5, e6, e7, e8] | simp only [e1, e2, e3, e4, e5, e6, e7, e8]) <;> rfl) (by show _ = mR [4, 5, 6, 7] (Z5 s d n); unfold Z5; rw [ac0 (by with_reducible assumption) (by with_reducible assumption) (by with_reducible assumption) (by with_reducible assumption)] <;> rfl)
     refine wp_seq (j5 G d7 (rg 4) [aq4 s n, K8, L7, .box [iA 2, iA (s6 s n [80, 81]), iA 0, iA 0, .v (.slice none 0 0), iA 0, iA 0, .v (.slice none 0 0), iA 0, .v (.slice none 0 0), .v (.slice none 0 0)]] (D3 []) fun G => b0 (wp_seq (G8 G (x8 (m8 6 [] (x5 s ([91]) (n + 1) (by assumption) (by simp [h0, h1, h2, h3]) (bE4 (by with_reducible assumption))) (m8 7 [] (bW8 s (by assumption) (d8 s (n + 1) [91]) 1 (by kernel_rfl) P3 R2) x7)) fz []) [0, 1, 2, 3, 60] [.box [.v (.string (b6 s)), iA (pE s 1 (d8 s (n + 1) [91])).snd], K8, L7, .box [iA 2, iA (s6 s n [80, 81]), iA (pE s 1 (d8 s (n + 1) [91])).fst.kind, iA (pE s 1 (d8 s (n + 1) [91])).fst.value, .ref 4, iA 0, iA 0, .v (.slice none 0 0), iA 0, .v (.slice none 0 0), .v (.slice none 0 0)], dE (pE s 1 (d8 s (n + 1) [91])).fst.kids] (D3 []) [wO (n + 1)] (o1 (by omega)) fun G => b0 (wp_seq (j5 G (x8 (m8 1 [] (x5 s ([93, 58, 61]) ((pE s 1 (d8 s (n + 1) [91])).snd) (by assumption) (by simp [h0, h1, h2, h3]) (ac4 1)) (m8 2 [] (bA8 s (by assumption) (d8 s (pE s 1 (d8 s (n + 1) [91])).snd [93, 58, 61]) 5 (by kernel_rfl) P3 R2) x7)) fz []) [0, 1, 2, 3, 4, 21] [.box [.v (.string (b6 s)), iA (pE s 5 (d8 s (pE s 1 (d8 s (n + 1) [91])).snd [93, 58, 61])).snd], K8, L7, bg3 s n, dE (pE s 1 (d8 s (n + 1) [91])).fst.kids, dE (pE s 5 (d8 s (pE s 1 (d8 s (n + 1) [91])).snd [93, 58, 61])).fst.kids] (D3 []) fun G => b0 (wp_seq (ab6 G (n4 2 [] (x5 s ([59]) ((pE s 5 (d8 s (pE s 1 (d8 s (n + 1) [91])).snd [93, 58, 61])).snd) (by assumption) (by simp [h0, h1, h2, h3]) (ac4 5))) [0, 0, 2, 7, 15] (rg 6) [.box [.v (.string (b6 s)), iA (pE s 5 (d8 s (pE s 1 (d8 s (n + 1) [91])).snd [93, 58, 61])).snd], bg3 s n, .box [.v (.string (b6 s)), iA (d8 s (pE s 5 (d8 s (pE s 1 (d8 s (n + 1) [91])).snd [93, 58, 61])).snd [59])], bg3 s n, dE (pE s 1 (d8 s (n + 1) [91])).fst.kids, dE (pE s 5 (d8 s (pE s 1 (d8 s (n + 1) [91])).snd [93, 58, 61])).fst.kids] (D3 []) fun G => b0 (wp_ret (j2 ?_))))))))); obtain ⟨ρ, G⟩ := G.nil 6 0 (.stmts []) 10 [.box [.v (.string (b6 s)), iA (pE s 5 (d8 s (pE s 1 (d8 s (n + 1) [91])).snd [93, 58, 61])).snd], .box [iA 2, iA (s6 s n [80, 81]), iA (pE s 1 (d8 s (n + 1) [91])).fst.kind, iA (pE s 1 (d8 s (n + 1) [91])).fst.value, .ref 4, iA (pE s 5 (d8 s (pE s 1 (d8 s (n + 1) [91])).snd [93, 58, 61])).fst.kind, iA (pE s 5 (d8 s (pE s 1 (d8 s (n + 1) [91])).snd [93, 58, 61])).fst.value, .ref 5, iA 0, .ref 6, .v (.slice none 0 0)], .box [.v (.string (b6 s)), iA (d8 s (pE s 5 (d8 s (pE s 1 (d8 s (n + 1) [91])).snd [93, 58, 61])).snd [59])], .box [iA 2, iA (s6 s n [80, 81]), iA (pE s 1 (d8 s (n + 1) [91])).fst.kind, iA (pE s 1 (d8 s (n + 1) [91])).fst.value, .ref 4, iA (pE s 5 (d8 s (pE s 1 (d8 s (n + 1) [91])).snd [93, 58, 61])).fst.kind, iA (pE s 5 (d8 s (pE s 1 (d8 s (n + 1) [91])).snd [93, 58, 61])).fst.value, .ref 5, iA 0, .v (.slice none 0 0), .v (.slice none 0 0)], dE (pE s 1 (d8 s (n + 1) [91])).fst.kids, dE (pE s 5 (d8 s (pE s 1 (d8 s (n + 1) [91])).snd [93, 58, 61])).fst.kids] (D3 [])
     obtain ⟨ρ, G⟩ := G.nil 7 0 (.stmts []) 10 [.box [.v (.string (b6 s)), iA (pE s 5 (d8 s (pE s 1 (d8 s (n + 1) [91])).snd [93, 58, 61])).snd], .box [iA 2, iA (s6 s n [80, 81]), iA (pE s 1 (d8 s (n + 1) [91])).fst.kind, iA (pE s 1 (d8 s (n + 1) [91])).fst.value, .ref 4, iA (pE s 5 (d8 s (pE s 1 (d8 s (n + 1) [91])).snd [93, 58, 61])).fst.kind, iA (pE s 5 (d8 s (pE s 1 (d8 s (n + 1) [91])).snd [93, 58, 61])).fst.value, .ref 5, iA 0, .ref 6, .ref 7], .box [.v (.string (b6 s)), iA (d8 s (pE s 5 (d8 s (pE s 1 (d8 s (n + 1) [91])).snd [93, 58, 61])).snd [59])], .box [iA 2, iA (s6 s n [80, 81]), iA (pE s 1 (d8 s (n + 1) [91])).fst.kind, iA (pE s 1 (d8 s (n + 1) [91])).fst.value, .ref 4, iA (pE s 5 (d8 s (pE s 1 (d8 s (n + 1) [91])).snd [93, 58, 61])).fst.kind, iA (pE s 5 (d8 s (pE s 1 (d8 s (n + 1) [91])).snd [93, 58, 61])).fst.value, .ref 5, iA 0, .v (.slice none 0 0), .v (.slice none 0 0)], dE (pE s 1 (d8 s (n + 1) [91])).fst.kids, dE (pE s 5 (d8 s (pE s 1 (d8 s (n + 1) [91])).snd [93, 58, 61])).fst.kids, .row 0 (D.stmts [])] [(2, .ptr 0 0), (4, .ptr 1 0), (5, .ptr 2 0), (6, .ptr 3 0)]; obtain ⟨ρ, G⟩ := G.frz [.no, .no, .no, .no, .no, .no, .row 0, .row 0] [.box [.v (.string (b6 s)), iA (pE s 5 (d8 s (pE s 1 (d8 s (n + 1) [91])).snd [93, 58, 61])).snd], .box [iA 2, iA (s6 s n [80, 81]), iA (pE s 1 (d8 s (n + 1) [91])).fst.kind, iA (pE s 1 (d8 s (n + 1) [91])).fst.value, .ref 4, iA (pE s 5 (d8 s (pE s 1 (d8 s (n + 1) [91])).snd [93, 58, 61])).fst.kind, iA (pE s 5 (d8 s (pE s 1 (d8 s (n + 1) [91])).snd [93, 58, 61])).fst.value, .ref 5, iA 0, .ref 6, .ref 7], .box [.v (.string (b6 s)), iA (d8 s (pE s 5 (d8 s (pE s 1 (d8 s (n + 1) [91])).snd [93, 58, 61])).snd [59])], .box [iA 2, iA (s6 s n [80, 81]), iA (pE s 1 (d8 s (n + 1) [91])).fst.kind, iA (pE s 1 (d8 s (n + 1) [91])).fst.value, .ref 4, iA (pE s 5 (d8 s (pE s 1 (d8 s (n + 1) [91])).snd [93, 58, 61])).fst.kind, iA (pE s 5 (d8 s (pE s 1 (d8 s (n + 1) [91])).snd [93, 58, 61])).fst.value, .ref 5, iA 0, .v (.slice none 0 0), .v (.slice none 0 0)], dE (pE s 1 (d8 s (n + 1) [91])).fst.kids, dE (pE s 5 (d8 s (pE s 1 (d8 s (n + 1) [91])).snd [93, 58, 61])).fst.kids, dT [], dT []] [(2, .ptr 0 0), (4, .ptr 1 0), (5, .ptr 2 0), (6, .ptr 3 0)]; exact E0 (.tup [.agg [iA 2, iA (s6 s n [80, 81]), iA (pE s 1 (d8 s (n + 1) [91])).fst.kind, iA (pE s 1 (d8 s (n + 1) [91])).fst.value, .ref 4, iA (pE s 5 (d8 s (pE s 1 (d8 s (n + 1) [91])).snd [93, 58, 61])).fst.kind, iA (pE s 5 (d8 s (pE s 1 (d8 s (n + 1) [91])).snd [93, 58, 61])).fst.value, .ref 5, iA 0, .ref 6, .ref 7], .agg [.v (.string (b6 s)), iA (d8 s (pE s 5 (d8 s (pE s 1 (d8 s (n + 1) [91])).snd [93, 58, 61])).snd [59])]]) G [4, 5, 6, 7] (by have e1 : ((A5 s (d + 1) n).fst.kind : Int) = (2) := (by rw [ab7 (by with_reducible assumption) (by with_reducible assumption) (by with_reducible assumption)]; rfl); have e2 : ((A5 s (d + 1) n).fst.target : Int) = (s6 s n [80, 81]) := (by rw [ab7 (by with_reducible assumption) (by with_reducible assumption) (by with_reducible assumption)]; rfl); have e3 : ((A5 s (d + 1) n).fst.index.kind : Int) = ((pE s 1 (d8 s (n + 1) [91])).fst.kind) := (by rw [ab7 (by with_reducible assumption) (by with_reducible assumption) (by with_reducible assumption)]; rfl); have e4 : ((A5 s (d + 1) n).fst.index.value : Int) = ((pE s 1 (d8 s (n + 1) [91])).fst.value) := (by rw [ab7 (by with_reducible assumption) (by with_reducible assumption) (by with_reducible assumption)]; rfl); have e5 : ((A5 s (d + 1) n).fst.value.kind : Int) = ((pE s 5 (d8 s (pE s 1 (d8 s (n + 1) [91])).snd [93, 58, 61])).fst.kind) := (by rw [ab7 (by with_reducible assumption) (by with_reducible assumption) (by with_reducible assumption)]; rfl); have e6 : ((A5 s (d + 1) n).fst.value.value : Int) = ((pE s 5 (d8 s (pE s 1 (d8 s (n + 1) [91])).snd [93, 58, 61])).fst.value) := (by rw [ab7 (by with_reducible assumption) (by with_reducible assumption) (by with_reducible assumption)]; rfl); have e7 : ((A5 s (d + 1) n).fst.count : Int) = (0) := (by rw [ab7 (by with_reducible assumption) (by with_reducible assumption) (by with_reducible assumption)]; rfl); have e8 : ((A5 s (d + 1) n).snd : Int) = (d8 s (pE s 5 (d8 s (pE s 1 (d8 s (n + 1) [91])).snd [93, 58, 61])).snd [59]) := (by rw [ab7 (by with_reducible assumption) (by with_reducible assumption) (by with_reducible assumption)]; rfl); (first | rw [e1, e2, e3, e4, e5, e6, e7, e8] | simp only [e1, e2, e3, e4, e5, e6, e7, e8]) <;> rfl) (by show _ = mR [4, 5, 6, 7] (Z5 s d n); unfold Z5; rw [ab7 (by with_reducible assumption) (by with_reducible assumption) (by with_reducible assumption)] <;> rfl)
    refine wp_seq (j5 G d7 (rg 4) [aq4 s n, K8, L7, .box [iA 4, iA 0, iA 0, iA 0, .v (.slice none 0 0), iA 0, iA 0, .v (.slice none 0 0), iA 0, .v (.slice none 0 0), .v (.slice none 0 0)]] ((1, iA m) :: (D3 [])) fun G => b0 (wp_seq (j5 G (x8 (m8 1 [] (x5 s ([114, 101, 112, 101, 97, 116]) n (by assumption) (by simp [h0, h1, h2]) (by assumption)) (m8 2 [] (aA7 s (d8 s n [114, 101, 112, 101, 97, 116]) (by assumption) P3 R2) x7)) fz []) (rg 4) [.box [.v (.string (b6 s)), iA (I4 s (d8 s n [114, 101, 112, 101, 97, 116])).snd], K8, L7, .box [iA 4, iA 0, iA 0, iA 0, .v (.slice none 0 0), iA 0, iA 0, .v (.slice none 0 0), iA (I4 s (d8 s n [114, 101, 112, 101, 97, 116])).fst, .v (.slice none 0 0), .v (.slice none 0 0)]] ((1, iA m) :: (D3 [])) fun G => b0 (wp_seq (G8 G (x8 (m8 1 [] (x5 s ([123]) ((I4 s (d8 s n [114, 101, 112, 101, 97, 116])).snd) (by assumption) (by simp [h0, h1, h2]) (bW1 P3)) (m8 4 [] (ih (d8 s (I4 s (d8 s n [114, 101, 112, 101, 97, 116])).snd [123]) (m - 1) (by omega) P3 R2) x7)) fz []) [0, 1, 2, 3, 36] [.box [.v (.string (b6 s)), iA (C2 s d (d8 s (I4 s (d8 s n [114, 101, 112, 101, 97, 116])).snd [123])).snd], K8, L7, bg2 s n, dT (C2 s d (d8 s (I4 s (d8 s n [114, 101, 112, 101, 97, 116])).snd [123])).fst] (D3 []) [wO (m - 1)] (o1 (by omega)) fun G => b0 (wp_seq (ab6 G (n4 2 [] (x5 s ([125]) ((C2 s d (d8 s (I4 s (d8 s n [114, 101, 112, 101, 97, 116])).snd [123])).snd) (by assumption) (by simp [h0, h1, h2]) (aZ4 P3 R2))) [0, 0, 2, 7, 15] (rg 5) [.box [.v (.string (b6 s)), iA (C2 s d (d8 s (I4 s (d8 s n [114, 101, 112, 101, 97, 116])).snd [123])).snd], bg2 s n, .box [.v (.string (b6 s)), iA (d8 s (C2 s d (d8 s (I4 s (d8 s n [114, 101, 112, 101, 97, 116])).snd [123])).snd [125])], bg2 s n, dT (C2 s d (d8 s (I4 s (d8 s n [114, 101, 112, 101, 97, 116])).snd [123])).fst] (D3 []) fun G => b0 (wp_ret (A2 (j2 ?_)))))))))); obtain ⟨ρ, G⟩ := G.nil 5 0 (.exprs []) 9 [.box [.v (.string (b6 s)), iA (C2 s d (d8 s (I4 s (d8 s n [114, 101, 112, 101, 97, 116])).snd [123])).snd], .box [iA 4, iA 0, iA 0, iA 0, .ref 5, iA 0, iA 0, .v (.slice none 0 0), iA (I4 s (d8 s n [114, 101, 112, 101, 97, 116])).fst, .ref 4, .v (.slice none 0 0)], .box [.v (.string (b6 s)), iA (d8 s (C2 s d (d8 s (I4 s (d8 s n [114, 101, 112, 101, 97, 116])).snd [123])).snd [125])], .box [iA 4, iA 0, iA 0, iA 0, .v (.slice none 0 0), iA 0, iA 0, .v (.slice none 0 0), iA (I4 s (d8 s n [114, 101, 112, 101, 97, 116])).fst, .ref 4, .v (.slice none 0 0)], dT (C2 s d (d8 s (I4 s (d8 s n [114, 101, 112, 101, 97, 116])).snd [123])).fst] (D3 []); obtain ⟨ρ, G⟩ := G.nil 6 0 (.exprs []) 9 [.box [.v (.string (b6 s)), iA (C2 s d (d8 s (I4 s (d8 s n [114, 101, 112, 101, 97, 116])).snd [123])).snd], .box [iA 4, iA 0, iA 0, iA 0, .ref 5, iA 0, iA 0, .ref 6, iA (I4 s (d8 s n [114, 101, 112, 101, 97, 116])).fst, .ref 4, .v (.slice none 0 0)], .box [.v (.string (b6 s)), iA (d8 s (C2 s d (d8 s (I4 s (d8 s n [114, 101, 112, 101, 97, 116])).snd [123])).snd [125])], .box [iA 4, iA 0, iA 0, iA 0, .v (.slice none 0 0), iA 0, iA 0, .v (.slice none 0 0), iA (I4 s (d8 s n [114, 101, 112, 101, 97, 116])).fst, .ref 4, .v (.slice none 0 0)], dT (C2 s d (d8 s (I4 s (d8 s n [114, 101, 112, 101, 97, 116])).snd [123])).fst, .row 0 (D.exprs [])] (D3 [])
    obtain ⟨ρ, G⟩ := G.nil 7 0 (.stmts []) 10 [.box [.v (.string (b6 s)), iA (C2 s d (d8 s (I4 s (d8 s n [114, 101, 112, 101, 97, 116])).snd [123])).snd], .box [iA 4, iA 0, iA 0, iA 0, .ref 5, iA 0, iA 0, .ref 6, iA (I4 s (d8 s n [114, 101, 112, 101, 97, 116])).fst, .ref 4, .ref 7], .box [.v (.string (b6 s)), iA (d8 s (C2 s d (d8 s (I4 s (d8 s n [114, 101, 112, 101, 97, 116])).snd [123])).snd [125])], .box [iA 4, iA 0, iA 0, iA 0, .v (.slice none 0 0), iA 0, iA 0, .v (.slice none 0 0), iA (I4 s (d8 s n [114, 101, 112, 101, 97, 116])).fst, .ref 4, .v (.slice none 0 0)], dT (C2 s d (d8 s (I4 s (d8 s n [114, 101, 112, 101, 97, 116])).snd [123])).fst, .row 0 (D.exprs []), .row 0 (D.exprs [])] [(2, .ptr 0 0), (4, .ptr 1 0), (5, .ptr 2 0), (6, .ptr 3 0)]; obtain ⟨ρ, G⟩ := G.frz [.no, .no, .no, .no, .no, .row 0, .row 0, .row 0] [.box [.v (.string (b6 s)), iA (C2 s d (d8 s (I4 s (d8 s n [114, 101, 112, 101, 97, 116])).snd [123])).snd], .box [iA 4, iA 0, iA 0, iA 0, .ref 5, iA 0, iA 0, .ref 6, iA (I4 s (d8 s n [114, 101, 112, 101, 97, 116])).fst, .ref 4, .ref 7], .box [.v (.string (b6 s)), iA (d8 s (C2 s d (d8 s (I4 s (d8 s n [114, 101, 112, 101, 97, 116])).snd [123])).snd [125])], .box [iA 4, iA 0, iA 0, iA 0, .v (.slice none 0 0), iA 0, iA 0, .v (.slice none 0 0), iA (I4 s (d8 s n [114, 101, 112, 101, 97, 116])).fst, .ref 4, .v (.slice none 0 0)], dT (C2 s d (d8 s (I4 s (d8 s n [114, 101, 112, 101, 97, 116])).snd [123])).fst, dE [], dE [], dT []] [(2, .ptr 0 0), (4, .ptr 1 0), (5, .ptr 2 0), (6, .ptr 3 0)]; exact E0 (.tup [.agg [iA 4, iA 0, iA 0, iA 0, .ref 5, iA 0, iA 0, .ref 6, iA (I4 s (d8 s n [114, 101, 112, 101, 97, 116])).fst, .ref 4, .ref 7], .agg [.v (.string (b6 s)), iA (d8 s (C2 s d (d8 s (I4 s (d8 s n [114, 101, 112, 101, 97, 116])).snd [123])).snd [125])]]) G [5, 6, 4, 7] (by have e1 : ((A5 s (d + 1) n).fst.kind : Int) = (4) := (by rw [ab8 (by with_reducible assumption) (by with_reducible assumption)]; rfl); have e2 : ((A5 s (d + 1) n).fst.target : Int) = (0) := (by rw [ab8 (by with_reducible assumption) (by with_reducible assumption)]; rfl); have e3 : ((A5 s (d + 1) n).fst.index.kind : Int) = (0) := (by rw [ab8 (by with_reducible assumption) (by with_reducible assumption)]; rfl); have e4 : ((A5 s (d + 1) n).fst.index.value : Int) = (0) := (by rw [ab8 (by with_reducible assumption) (by with_reducible assumption)]; rfl); have e5 : ((A5 s (d + 1) n).fst.value.kind : Int) = (0) := (by rw [ab8 (by with_reducible assumption) (by with_reducible assumption)]; rfl); have e6 : ((A5 s (d + 1) n).fst.value.value : Int) = (0) := (by rw [ab8 (by with_reducible assumption) (by with_reducible assumption)]; rfl); have e7 : ((A5 s (d + 1) n).fst.count : Int) = ((I4 s (d8 s n [114, 101, 112, 101, 97, 116])).fst) := (by rw [ab8 (by with_reducible assumption) (by with_reducible assumption)]; rfl); have e8 : ((A5 s (d + 1) n).snd : Int) = (d8 s (C2 s d (d8 s (I4 s (d8 s n [114, 101, 112, 101, 97, 116])).snd [123])).snd [125]) := (by rw [ab8 (by with_reducible assumption) (by with_reducible assumption)]; rfl); (first | rw [e1, e2, e3, e4, e5, e6, e7, e8] | simp only [e1, e2, e3, e4, e5, e6, e7, e8]) <;> rfl) (by show _ = mR [5, 6, 4, 7] (Z5 s d n); unfold Z5; rw [ab8 (by with_reducible assumption) (by with_reducible assumption)] <;> rfl)
   refine wp_seq (j5 G d7 (rg 4) [aq4 s n, K8, L7, .box [iA 3, iA 0, iA 0, iA 0, .v (.slice none 0 0), iA 0, iA 0, .v (.slice none 0 0), iA 0, .v (.slice none 0 0), .v (.slice none 0 0)]] ((1, iA m) :: (D3 [])) fun G => b0 (wp_seq (j5 G (x8 (m8 1 [] (x5 s ([105, 102]) n (by assumption) (by simp [h0, h1]) (by assumption)) (m8 2 [] (bA8 s (by assumption) (d8 s n [105, 102]) 5 (by kernel_rfl) P3 R2) x7)) fz []) [0, 1, 2, 3, 20] [.box [.v (.string (b6 s)), iA (pE s 5 (d8 s n [105, 102])).snd], K8, L7, .box [iA 3, iA 0, iA 0, iA 0, .v (.slice none 0 0), iA (pE s 5 (d8 s n [105, 102])).fst.kind, iA (pE s 5 (d8 s n [105, 102])).fst.value, .ref 4, iA 0, .v (.slice none 0 0), .v (.slice none 0 0)], dE (pE s 5 (d8 s n [105, 102])).fst.kids] ((1, iA m) :: (D3 [])) fun G => b0 (wp_seq (G8 G (x8 (m8 1 [] (x5 s ([123]) ((pE s 5 (d8 s n [105, 102])).snd) (by assumption) (by simp [h0, h1]) (ac4 5)) (m8 4 [] (ih (d8 s (pE s 5 (d8 s n [105, 102])).snd [123]) (m - 1) (by omega) P3 R2) x7)) fz []) [0, 1, 2, 3, 4, 37] [.box [.v (.string (b6 s)), iA (C2 s d (d8 s (pE s 5 (d8 s n [105, 102])).snd [123])).snd], K8, L7, .box [iA 3, iA 0, iA 0, iA 0, .v (.slice none 0 0), iA (pE s 5 (d8 s n [105, 102])).fst.kind, iA (pE s 5 (d8 s n [105, 102])).fst.value, .ref 4, iA 0, .ref 5, .v (.slice none 0 0)], dE (pE s 5 (d8 s n [105, 102])).fst.kids, dT (C2 s d (d8 s (pE s 5 (d8 s n [105, 102])).snd [123])).fst] ((1, iA m) :: (D3 [])) [wO (m - 1)] (o1 (by omega)) fun G => b0 (wp_seq (G8 G (x8 (m8 1 [] (x5 s ([125, 123]) ((C2 s d (d8 s (pE s 5 (d8 s n [105, 102])).snd [123])).snd) (by assumption) (by simp [h0, h1]) (aZ4 P3 R2)) (m8 4 [] (ih (d8 s (C2 s d (d8 s (pE s 5 (d8 s n [105, 102])).snd [123])).snd [125, 123]) (m - 1) (by omega) P3 R2) x7)) fz []) [0, 1, 2, 3, 4, 5, 38] [.box [.v (.string (b6 s)), iA (C2 s d (d8 s (C2 s d (d8 s (pE s 5 (d8 s n [105, 102])).snd [123])).snd [125, 123])).snd], K8, L7, bg1 s n, dE (pE s 5 (d8 s n [105, 102])).fst.kids, dT (C2 s d (d8 s (pE s 5 (d8 s n [105, 102])).snd [123])).fst, dT (C2 s d (d8 s (C2 s d (d8 s (pE s 5 (d8 s n [105, 102])).snd [123])).snd [125, 123])).fst] (D3 []) [wO (m - 1)] (o1 (by omega)) fun G => b0 (wp_seq (ab6 G (n4 2 [] (x5 s ([125]) ((C2 s d (d8 s (C2 s d (d8 s (pE s 5 (d8 s n [105, 102])).snd [123])).snd [125, 123])).snd) (by assumption) (by simp [h0, h1]) (aZ4 P3 R2))) [0, 0, 2, 7, 15] (rg 7) [.box [.v (.string (b6 s)), iA (C2 s d (d8 s (C2 s d (d8 s (pE s 5 (d8 s n [105, 102])).snd [123])).snd [125, 123])).snd], bg1 s n, .box [.v (.string (b6 s)), iA (d8 s (C2 s d (d8 s (C2 s d (d8 s (pE s 5 (d8 s n [105, 102])).snd [123])).snd [125, 123])).snd [125])], bg1 s n, dE (pE s 5 (d8 s n [105, 102])).fst.kids, dT (C2 s d (d8 s (pE s 5 (d8 s n [105, 102])).snd [123])).fst, dT (C2 s d (d8 s (C2 s d (d8 s (pE s 5 (d8 s n [105, 102])).snd [123])).snd [125, 123])).fst] (D3 []) fun G => ?_)))))))))
   refine b0 (wp_ret (A2 (j2 ?_))); obtain ⟨ρ, G⟩ := G.nil 7 0 (.exprs []) 9 [.box [.v (.string (b6 s)), iA (C2 s d (d8 s (C2 s d (d8 s (pE s 5 (d8 s n [105, 102])).snd [123])).snd [125, 123])).snd], .box [iA 3, iA 0, iA 0, iA 0, .ref 7, iA (pE s 5 (d8 s n [105, 102])).fst.kind, iA (pE s 5 (d8 s n [105, 102])).fst.value, .ref 4, iA 0, .ref 5, .ref 6], .box [.v (.string (b6 s)), iA (d8 s (C2 s d (d8 s (C2 s d (d8 s (pE s 5 (d8 s n [105, 102])).snd [123])).snd [125, 123])).snd [125])], .box [iA 3, iA 0, iA 0, iA 0, .v (.slice none 0 0), iA (pE s 5 (d8 s n [105, 102])).fst.kind, iA (pE s 5 (d8 s n [105, 102])).fst.value, .ref 4, iA 0, .ref 5, .ref 6], dE (pE s 5 (d8 s n [105, 102])).fst.kids, dT (C2 s d (d8 s (pE s 5 (d8 s n [105, 102])).snd [123])).fst, dT (C2 s d (d8 s (C2 s d (d8 s (pE s 5 (d8 s n [105, 102])).snd [123])).snd [125, 123])).fst] [(2, .ptr 0 0), (4, .ptr 1 0), (5, .ptr 2 0), (6, .ptr 3 0)]; obtain ⟨ρ, G⟩ := G.frz [.no, .no, .no, .no, .no, .no, .no, .row 0] [.box [.v (.string (b6 s)), iA (C2 s d (d8 s (C2 s d (d8 s (pE s 5 (d8 s n [105, 102])).snd [123])).snd [125, 123])).snd], .box [iA 3, iA 0, iA 0, iA 0, .ref 7, iA (pE s 5 (d8 s n [105, 102])).fst.kind, iA (pE s 5 (d8 s n [105, 102])).fst.value, .ref 4, iA 0, .ref 5, .ref 6], .box [.v (.string (b6 s)), iA (d8 s (C2 s d (d8 s (C2 s d (d8 s (pE s 5 (d8 s n [105, 102])).snd [123])).snd [125, 123])).snd [125])], .box [iA 3, iA 0, iA 0, iA 0, .v (.slice none 0 0), iA (pE s 5 (d8 s n [105, 102])).fst.kind, iA (pE s 5 (d8 s n [105, 102])).fst.value, .ref 4, iA 0, .ref 5, .ref 6], dE (pE s 5 (d8 s n [105, 102])).fst.kids, dT (C2 s d (d8 s (pE s 5 (d8 s n [105, 102])).snd [123])).fst, dT (C2 s d (d8 s (C2 s d (d8 s (pE s 5 (d8 s n [105, 102])).snd [123])).snd [125, 123])).fst, dE []] [(2, .ptr 0 0), (4, .ptr 1 0), (5, .ptr 2 0), (6, .ptr 3 0)]; exact E0 (.tup [.agg [iA 3, iA 0, iA 0, iA 0, .ref 7, iA (pE s 5 (d8 s n [105, 102])).fst.kind, iA (pE s 5 (d8 s n [105, 102])).fst.value, .ref 4, iA 0, .ref 5, .ref 6], .agg [.v (.string (b6 s)), iA (d8 s (C2 s d (d8 s (C2 s d (d8 s (pE s 5 (d8 s n [105, 102])).snd [123])).snd [125, 123])).snd [125])]]) G [7, 4, 5, 6] (by have e1 : ((A5 s (d + 1) n).fst.kind : Int) = (3) := (by rw [ac1 (by with_reducible assumption)]; rfl); have e2 : ((A5 s (d + 1) n).fst.target : Int) = (0) := (by rw [ac1 (by with_reducible assumption)]; rfl); have e3 : ((A5 s (d + 1) n).fst.index.kind : Int) = (0) := (by rw [ac1 (by with_reducible assumption)]; rfl); have e4 : ((A5 s (d + 1) n).fst.index.value : Int) = (0) := (by rw [ac1 (by with_reducible assumption)]; rfl); have e5 : ((A5 s (d + 1) n).fst.value.kind : Int) = ((pE s 5 (d8 s n [105, 102])).fst.kind) := (by rw [ac1 (by with_reducible assumption)]; rfl); have e6 : ((A5 s (d + 1) n).fst.value.value : Int) = ((pE s 5 (d8 s n [105, 102])).fst.value) := (by rw [ac1 (by with_reducible assumption)]; rfl); have e7 : ((A5 s (d + 1) n).fst.count : Int) = (0) := (by rw [ac1 (by with_reducible assumption)]; rfl); have e8 : ((A5 s (d + 1) n).snd : Int) = (d8 s (C2 s d (d8 s (C2 s d (d8 s (pE s 5 (d8 s n [105, 102])).snd [123])).snd [125, 123])).snd [125]) := (by rw [ac1 (by with_reducible assumption)]; rfl); (first | rw [e1, e2, e3, e4, e5, e6, e7, e8] | simp only [e1, e2, e3, e4, e5, e6, e7, e8]) <;> rfl) (by show _ = mR [7, 4, 5, 6] (Z5 s d n); unfold Z5; rw [ac1 (by with_reducible assumption)] <;> rfl)
  have q0 := L2 h0; exact False.elim (by omega)
mutual
theorem b52 (s : List UInt8) (hs : s.length <= 100000000) : ∀ (d : Nat), d <= 6 -> ∀ (n m : Int), m = d -> -1 <= n -> n <= s.length -> j1.ok Tryz.prog (ptC s d n m)
 | 0, _, n, m, hm, _, _ => bt2 s n m hm
 | d + 1, hd, n, m, hm, r0, r1 => bD9 s hs d (by omega) (fun n m hm r0 r1 => bJ3 s hs d (by omega) n m hm r0 r1) n m hm r0 r1
theorem bJ3 (s : List UInt8) (hs : s.length <= 100000000) : ∀ (d : Nat), d <= 6 -> ∀ (n m : Int), m = d -> -1 <= n -> n <= s.length -> j1.ok Tryz.prog (pbC s d n m)
 | 0, hd, n, m, hm, r0, r1 => bE0 s hs 0 (by omega) (fun n m hm _ _ => bt2 s n m hm) n m hm r0 r1
 | d + 1, hd, n, m, hm, r0, r1 => bE0 s hs (d + 1) hd (fun n m hm' r0 r1 => bD9 s hs d (by omega) (fun n m hm r0 r1 => bJ3 s hs d (by omega) n m hm r0 r1) n m hm' r0 r1) n m hm r0 r1
end
theorem bX0 (s : List UInt8) (hs : s.length <= 100000000) (n m : Int) (hm : m = 5) (r0 : -1 <= n) (r1 : n <= s.length) : j1.ok Tryz.prog (pbC s 5 n m) := bJ3 s hs 5 (by omega) n m hm r0 r1
end Go.Proofs.YtompcdbfongedaaGreatDoor

namespace Go.Proofs.YtompcdbfongedaaGreatDoor
open Go
def At (s : List UInt8) (n : Int) (b : List UInt8) : Prop := ∃ a, s = a ++ b /\ n = (a.length : Int)
section
variable {s b r w p : List UInt8} {n : Int} {x : UInt8}
theorem At.skip (h : At s n (p ++ b)) : At s (n + p.length) b := by
 obtain ⟨a, h1, h2⟩ := h
 exact ⟨a ++ p, by rw [h1, b83], by rw [h2, b69]; rfl⟩
theorem At.skip1 (h : At s n (x :: b)) : At s (n + 1) b := At.skip (p := [x]) h
theorem At.le (h : At s n b) : 0 <= n /\ n + b.length = s.length := by
 obtain ⟨a, h1, h2⟩ := h
 rw [h1, h2, b69]; omega
theorem At.has (h : At s n b) (hw : (b.take w.length == w) = true) : t7 s n w = true := by
 obtain ⟨a, rfl, rfl⟩ := h; exact bF6 hw
theorem At.hasN (h : At s n b) (hw : (b.take w.length == w) = false) : t7 s n w = false := by
 obtain ⟨a, rfl, rfl⟩ := h; exact bU9 hw
theorem At.sk (h : At s n (w ++ r)) : d8 s n w = n + w.length := by
 obtain ⟨a, rfl, rfl⟩ := h; exact bQ2
theorem At.nm (h : At s n (x :: r)) (ls : List UInt8) : s6 s n ls = F4 x ls 0 := by
 obtain ⟨a, rfl, rfl⟩ := h; exact a02 ls
theorem At.dg {m : Nat} (h : At s n (Lib.decDigits m ++ r)) (hm : m < 1000) (hr : aa0 r) : I4 s n = ((m : Int), n + (Lib.decDigits m).length) := by
 obtain ⟨a, rfl, rfl⟩ := h; exact bN3 hm a r hr
theorem At.sk2 (h : At s n (w ++ r)) : At s (d8 s n w) r := by rw [h.sk]; exact h.skip
end
theorem aU4 (m : Nat) (h : m < 1000) : ∃ (d : Nat) (t : List UInt8), d < 10 /\ Lib.decDigits m = UInt8.ofNat (48 + d) :: t := by
 rcases b86 m 10 with h1 | h1
 ·exact ⟨m, [], h1, bb0 h1⟩
 rcases b86 m 100 with h2 | h2
 ·exact ⟨m / 10, _, by omega, ba9 (by omega) h2⟩
 exact ⟨m / 10 / 10, _, by omega, bs0 (by omega) h⟩
theorem o0 {x : UInt8} (h : F4 x at2 0 = -1) (r : List UInt8) : aa0 (x :: r) := fun y hy => by
 simp at hy; subst hy; exact h
theorem b7.mk_eq {e : b7} {k n : Int} {ks : List b7} (h1 : e.kind = k) (h2 : e.value = n) (h3 : e.kids = ks) : (⟨k, n, ks⟩ : b7) = e := by
 subst h1 h2 h3; cases e; rfl
theorem bE9 {ks : List b7} (h : ks.length = 1) : ∃ x, ks = [x] := List.length_eq_one_iff.1 h
theorem bE8 {ks : List b7} (h : ks.length = 2) : ∃ x y, ks = [x, y] := by
 match ks, h with
 | [x, y], _ => exact ⟨x, y, rfl⟩
theorem bE7 {ks : List b7} (h : ks.length = 3) : ∃ x y z, ks = [x, y, z] := by
 match ks, h with
 | [x, y, z], _ => exact ⟨x, y, z, rfl⟩
theorem ar9 (nv na : Nat) (hnv : nv <= 12) (hna : na <= 2) : ∀ (d : Nat) (e : b7), j6 nv na d e = true -> ∀ (s r : List UInt8) (n : Int), At s n (c8 e ++ r) -> aa0 r -> pE s d n = (e, n + (c8 e).length)
 | 0, e, h => by simp [j6] at h
 | d + 1, e, h => by
  intro s r n hat hr
  have hk := (J1 h).2
  have hn : B4 nv na e = true := by
   unfold j6 at h
   simp only [b57] at h
   exact h.1.1
  obtain ⟨hl, hv0, hvl⟩ := I8 hn
  obtain ⟨m, hm⟩ : ∃ m : Nat, e.value = m := ⟨e.value.toNat, by omega⟩
  have hn0 := hat.le.1
  have ht := W2 e
  rw [hm] at hvl ht
  have hK : e.kind = 1 \/ e.kind = 2 \/ e.kind = 3 \/ (4 <= e.kind /\ e.kind <= 10) \/ e.kind = 11 := by
   unfold j9 at hl
   split at hl
   ·omega
   split at hl
   ·omega
   split at hl
   ·omega
   split at hl <;> omega
  rw [pE, if_neg (by omega)]
  rcases hK with k1 | k2 | k3 | k4 | k5
  ·rw [k1] at hvl ht
   have hm' : m < 256 := by simp [y6] at hvl; omega
   have ht' : c8 e = Lib.decDigits m := ht
   rw [ht'] at hat ⊢
   obtain ⟨dd, t, hd, hdt⟩ := aU4 m (by omega)
   have hat2 := hat
   rw [hdt, List.cons_append] at hat2
   obtain ⟨f1, f2, f3, f4⟩ := br7 ⟨dd, hd⟩
   rw [if_neg (by rw [hat2.nm, f2]; decide), if_neg (by rw [hat2.nm, f3]; decide), if_pos (hat2.hasN (by simpa using f4)), hat.dg (by omega) hr]
   have e0 : e.kids = [] := by
    rw [k1] at hl; simp [j9] at hl; exact hl
   rw [b7.mk_eq k1 hm e0]
  ·rw [k2] at hvl ht
   have hm' : m < 12 := by simp [y6] at hvl; omega
   have ht' : c8 e = [UInt8.ofNat (97 + m)] := ht
   rw [ht'] at hat ⊢
   obtain ⟨f1, f2, f3⟩ := bh9 ⟨m, hm'⟩
   have hat2 : At s n (UInt8.ofNat (97 + m) :: r) := hat
   rw [hat2.nm, f1, if_pos (by simp)]
   have e0 : e.kids = [] := by
    rw [k2] at hl; simp [j9] at hl; exact hl
   rw [b7.mk_eq k2 hm e0]; rfl
  ·rw [k3] at hvl ht
   have hm' : m < 2 := by simp [y6] at hvl; omega
   obtain ⟨x, hx⟩ := bE9 (ks := e.kids) (by rw [k3] at hl; simp [j9] at hl; omega)
   have ht' : c8 e = [UInt8.ofNat (80 + m)] ++ [91] ++ c8 x ++ [93] := by rw [ht, hx]; rfl
   rw [ht'] at hat ⊢
   obtain ⟨f1, f2, f3⟩ := bG9 ⟨m, hm'⟩
   have hat2 : At s n (UInt8.ofNat (80 + m) :: ([91] ++ (c8 x ++ ([93] ++ r)))) := by simpa using hat
   rw [hat2.nm, hat2.nm, f2, f1, if_neg (by decide), if_pos (by simp)]
   have h1 := hat2.skip1
   have h2 := h1.sk2
   have h3 := ar9 nv na hnv hna d x (hk x (by rw [hx]; simp)) _ _ _ h2 (o0 (by decide) _)
   rw [h3]
   have h4 := h2.skip
   rw [h4.sk, h1.sk, b7.mk_eq k3 hm hx]
   simp; omega
  ·obtain ⟨x, y, hx⟩ := bE8 (ks := e.kids) (by
    unfold j9 at hl
    rw [if_neg (by omega), if_neg (by omega), if_pos (by omega)] at hl; omega)
   have ht' : c8 e = [40] ++ c8 x ++ [s3 e.kind] ++ c8 y ++ [41] := by
    rw [ht, as0, if_neg (by omega), if_neg (by omega), if_neg (by omega), if_neg (by omega), hx]; rfl
   have hm0 : m = 0 := by
    unfold y6 at hvl
    rw [if_neg (by omega), if_neg (by omega), if_neg (by omega)] at hvl; omega
   obtain ⟨j, hj, hj7⟩ : ∃ j : Nat, e.kind = 4 + (j : Int) /\ j < 7 := ⟨(e.kind - 4).toNat, by omega, by omega⟩
   obtain ⟨f1, f2, f3⟩ := bE3 ⟨j, hj7⟩
   rw [ht'] at hat ⊢
   have hat2 : At s n ([40] ++ (c8 x ++ ([s3 e.kind] ++ (c8 y ++ ([41] ++ r))))) := by simpa using hat
   have hat3 : At s n (40 :: (c8 x ++ ([s3 e.kind] ++ (c8 y ++ ([41] ++ r))))) := hat2
   rw [hat3.nm, hat3.nm, if_neg (by decide), if_neg (by decide), if_neg (by rw [hat3.has (w := [40]) (by simp)]; decide)]
   have h2 := hat2.sk2
   have hf : F4 (s3 e.kind) at2 0 = -1 := by rw [hj]; exact f3
   have h3 := ar9 nv na hnv hna d x (hk x (by rw [hx]; simp)) _ _ _ h2 (o0 hf _)
   rw [h3]
   dsimp only
   have h4 := h2.skip
   have h4' : At s (d8 s n [40] + (c8 x).length) (s3 e.kind :: (c8 y ++ ([41] ++ r))) := h4
   have f2' : s3 e.kind ≠ 63 := by rw [hj]; exact f2
   have f1' : F4 (s3 e.kind) opW 0 = j := by rw [hj]; exact f1
   rw [if_neg (by rw [h4'.hasN (w := [63]) (by simpa using f2')]; decide), h4'.nm, f1', if_neg (by omega)]
   have h5 := h4'.skip1
   have h6 := ar9 nv na hnv hna d y (hk y (by rw [hx]; simp)) _ _ _ h5 (o0 (by decide) _)
   rw [h6]
   have h7 := h5.skip
   rw [h7.sk, hat2.sk, b7.mk_eq (e := e) hj (by rw [hm, hm0]; rfl) hx]
   simp; omega
  obtain ⟨x, y, z, hx⟩ := bE7 (ks := e.kids) (by
   unfold j9 at hl
   rw [if_neg (by omega), if_neg (by omega), if_neg (by omega), if_pos (by omega)] at hl; omega)
  have ht' : c8 e = [40] ++ c8 x ++ [63] ++ c8 y ++ [58] ++ c8 z ++ [41] := by
   rw [ht, as0, if_neg (by omega), if_neg (by omega), if_neg (by omega), if_pos (by omega), hx]; rfl
  have hm0 : m = 0 := by
   unfold y6 at hvl
   rw [if_neg (by omega), if_neg (by omega), if_neg (by omega)] at hvl; omega
  rw [ht'] at hat ⊢
  have hat2 : At s n ([40] ++ (c8 x ++ ([63] ++ (c8 y ++ ([58] ++ (c8 z ++ ([41] ++ r))))))) := by simpa using hat
  have hat3 : At s n (40 :: (c8 x ++ ([63] ++ (c8 y ++ ([58] ++ (c8 z ++ ([41] ++ r))))))) := hat2
  rw [hat3.nm, hat3.nm, if_neg (by decide), if_neg (by decide), if_neg (by rw [hat3.has (w := [40]) (by simp)]; decide)]
  have h2 := hat2.sk2
  have h3 := ar9 nv na hnv hna d x (hk x (by rw [hx]; simp)) _ _ _ h2 (o0 (by decide) _)
  rw [h3]
  dsimp only
  have h4 := h2.skip
  rw [if_pos (h4.has (w := [63]) (by simp))]
  have h5 := h4.sk2
  have h6 := ar9 nv na hnv hna d y (hk y (by rw [hx]; simp)) _ _ _ h5 (o0 (by decide) _)
  rw [h6]
  dsimp only
  have h7 := h5.skip
  have h8 := h7.sk2
  have h9 := ar9 nv na hnv hna d z (hk z (by rw [hx]; simp)) _ _ _ h8 (o0 (by decide) _)
  rw [h9]
  dsimp only
  have h10 := h8.skip
  rw [h10.sk, h7.sk, h4.sk, hat2.sk, b7.mk_eq (e := e) k5 (by rw [hm, hm0]; rfl) hx]
  simp; omega
theorem b5.mk_eq {s : b5} {k t c : Int} {i v : b7} {b e : List b5} (h1 : s.kind = k) (h2 : s.target = t) (h3 : s.index = i) (h4 : s.value = v) (h5 : s.count = c) (h6 : s.body = b) (h7 : s.els = e) : (⟨k, t, i, v, c, b, e⟩ : b5) = s := by
 subst h1 h2 h3 h4 h5 h6 h7; cases s; rfl
theorem ak6 {e : b7} (h : noneB e = true) : e = zE := by
 unfold noneB at h
 simp only [b57, decide_eq_true_eq] at h
 exact (b7.mk_eq h.1.1 h.1.2 (b84 h.2)).symm
section
variable {s : b5} (h : m6 s = true)
include h
theorem a74 (hk : s.kind = 1 \/ s.kind = 5) : s.index = zE /\ s.count = 0 /\ s.body = [] /\ s.els = [] := by
 unfold m6 at h
 rw [if_neg (by omega)] at h
 simp only [b57, Bool.or_eq_true, decide_eq_true_eq] at h
 obtain ⟨⟨⟨h1, h2⟩, h3⟩, h4⟩ := h
 exact ⟨ak6 (by rcases h4 with h | h; omega; exact h), h3, b84 h1, b84 h2⟩
theorem bS6 (hk : s.kind = 2) : s.count = 0 /\ s.body = [] /\ s.els = [] := by
 unfold m6 at h
 rw [if_neg (by omega)] at h
 simp only [b57, Bool.or_eq_true, decide_eq_true_eq] at h
 obtain ⟨⟨⟨h1, h2⟩, h3⟩, h4⟩ := h
 exact ⟨h3, b84 h1, b84 h2⟩
theorem bS5 (hk : s.kind = 3) : s.target = 0 /\ s.index = zE /\ s.count = 0 := by
 unfold m6 at h
 rw [if_pos (.inl hk), if_neg (by omega)] at h
 simp only [b57, decide_eq_true_eq] at h
 exact ⟨h.1, ak6 h.2.2, h.2.1⟩
theorem bS4 (hk : s.kind = 4) : s.target = 0 /\ s.index = zE /\ s.value = zE /\ s.els = [] /\ 1 <= s.count /\ s.count <= 3 := by
 unfold m6 at h
 rw [if_pos (.inr hk), if_pos hk] at h
 simp only [b57, decide_eq_true_eq] at h
 obtain ⟨h0, ⟨⟨⟨⟨h1, h2⟩, h3⟩, h4⟩, h5⟩⟩ := h
 exact ⟨h0, ak6 h4, ak6 h5, b84 h1, h2, h3⟩
end
def aG1 (r : List UInt8) : Prop := r = [] \/ ∃ t, r = 125 :: t
theorem aI7 {nv na d : Nat} {s : b5} (hnv : nv <= 12) (hna : na <= 2) (h : j4 nv na (d + 1) s = true) : ∃ x t, P2 s = x :: t /\ x ≠ 125 := by
 obtain ⟨h1, h2, h3, -⟩ := z6 h
 rw [v6]
 have hv : ∀ m : Fin 12, UInt8.ofNat (97 + m) ≠ 125 := by decide +kernel
 have ha : ∀ m : Fin 2, UInt8.ofNat (80 + m) ≠ 125 := by decide +kernel
 rcases h1 with k | k | k | k | k
 ·obtain ⟨a, b⟩ := h2 (.inl k)
  rw [stT, if_pos k]
  exact ⟨_, _, rfl, hv ⟨s.target.toNat, by omega⟩⟩
 ·obtain ⟨a, b, -⟩ := h3 k
  rw [stT, if_neg (by omega), if_neg (by omega), if_pos k]
  exact ⟨_, _, rfl, ha ⟨s.target.toNat, by omega⟩⟩
 ·rw [stT, if_neg (by omega), if_neg (by omega), if_neg (by omega), if_pos k]
  exact ⟨_, _, rfl, by decide⟩
 ·rw [stT, if_neg (by omega), if_neg (by omega), if_neg (by omega), if_neg (by omega)]
  exact ⟨_, _, rfl, by decide⟩
 obtain ⟨a, b⟩ := h2 (.inr k)
 rw [stT, if_neg (by omega), if_pos k]
 exact ⟨_, _, rfl, hv ⟨s.target.toNat, by omega⟩⟩
theorem aK4 (nv na d : Nat) (hnv : nv <= 12) (hna : na <= 2) (t : List UInt8) (ih : ∀ s : b5, j4 nv na d s = true -> nS s <= 60 -> ∀ (r : List UInt8) (n : Int), At t n (P2 s ++ r) -> A5 t d n = (s, n + (P2 s).length)) :
  ∀ (ss : List b5), (∀ s ∈ ss, j4 nv na d s = true /\ nS s <= 60) -> ∀ (r : List UInt8), aG1 r -> ∀ (acc : List b5) (f : Nat) (n : Int), acc.length + ss.length <= 60 -> ss.length < f -> At t n (c7 ss ++ r) -> pBk t (A5 t d) f (acc, n) = (acc ++ ss, n + (c7 ss).length)
 | [], _, r, hr, acc, f, n, _, hf, hat => by
  cases f with
  | zero => simp at hf
  | succ f =>
   have hat : At t n r := hat
   rw [pBk, if_neg]
   ·simp [c7]
   rintro ⟨h1, h2, h3⟩
   rcases hr with rfl | ⟨q, rfl⟩
   ·have := hat.le; simp at this; simp only at h2; omega
   rw [hat.has (w := [125]) (by simp)] at h3; cases h3
 | x :: ss, hs, r, hr, acc, f, n, ha, hf, hat => by
  cases f with
  | zero => simp at hf
  | succ f =>
   obtain ⟨h1, h2⟩ := hs x b72
   have hat1 : At t n (P2 x ++ (c7 ss ++ r)) := by rw [c7, b83] at hat; exact hat
   have hp := ih x h1 h2 _ n hat1
   obtain ⟨dd, rfl⟩ : ∃ dd, d = dd + 1 := by
    cases d with
    | zero => simp [j4] at h1
    | succ dd => exact ⟨dd, rfl⟩
   obtain ⟨c, q, hc, hc2⟩ := aI7 hnv hna h1
   have hlt := hat1.le
   have hat2 := hat1
   rw [hc, List.cons_append] at hat2
   rw [pBk, if_pos]
   ·dsimp only
    rw [hp, if_neg (by simp at ha ⊢; omega)]
    dsimp only
    rw [aK4 nv na (dd + 1) hnv hna t ih ss (fun s h => hs s (b80 _ h)) r hr (acc ++ [x]) f _ (by simp at ha ⊢; omega) (by simp at hf; omega) hat1.skip]
    simp [c7]
    omega
   refine ⟨hlt.1, ?_, hat2.hasN (by simpa using hc2)⟩
   have := hat2.le
   simp at this
   show n < _
   omega
theorem psN {x : b5} {ss : List b5} (h : x ∈ ss) : nS x <= S0 ss := by
 induction ss with
 | nil => cases h
 | cons a r ih =>
  rw [S0]
  rcases b76.1 h with rfl | h
  ·omega
  have := ih h; omega
theorem psL : ∀ ss : List b5, ss.length <= S0 ss
 | [] => b71 _
 | s :: r => by
  have h1 := Y0 s
  have h2 := psL r
  simp only [S0, b58]; omega
theorem psA {nv na : Nat} {e : b7} (h : j8 nv na e = true) (ha : J0 e = true) : j6 nv na 1 e = true := by
 unfold j8 at h
 simp only [b57] at h
 have h1 := h.1
 unfold j6 at h1 ⊢
 simp only [b57] at h1 ⊢
 refine ⟨⟨h1.1.1, ?_⟩, h1.2⟩
 have hl := (I8 h1.1.1).1
 unfold J0 at ha
 simp only [Bool.or_eq_true, decide_eq_true_eq] at ha
 rw [j9, if_pos ha] at hl
 rw [show e.kids = [] from b84 (by omega)]; rfl
theorem aZ3 (nv na : Nat) (hnv : nv <= 12) (hna : na <= 2) (t : List UInt8) : ∀ (d : Nat) (s : b5), j4 nv na d s = true -> nS s <= 60 -> ∀ (r : List UInt8) (n : Int), At t n (P2 s ++ r) -> A5 t d n = (s, n + (P2 s).length)
 | 0, s, h => by simp [j4] at h
 | d + 1, s, h => by
  intro hz r n hat
  have hpt : m6 s = true := by rw [j4, b57] at h; exact h.1
  obtain ⟨h1, h2, h3, h4, -, h6, h7⟩ := z6 h
  have hn := Y0 s
  have hb : ∀ x ∈ s.body, j4 nv na d x = true /\ nS x <= 60 := fun x hx => ⟨h6 x hx, by have := psN hx; omega⟩
  have he : ∀ x ∈ s.els, j4 nv na d x = true /\ nS x <= 60 := fun x hx => ⟨h7 x hx, by have := psN hx; omega⟩
  have lb := psL s.body
  have le := psL s.els
  have hB := fun (r : List UInt8) (hr : aG1 r) (n : Int) (ha : At t n (c7 s.body ++ r)) => aK4 nv na d hnv hna t (aZ3 nv na hnv hna t d) s.body hb r hr [] 61 n (by simp; omega) (by omega) ha
  have hE := fun (r : List UInt8) (hr : aG1 r) (n : Int) (ha : At t n (c7 s.els ++ r)) => aK4 nv na d hnv hna t (aZ3 nv na hnv hna t d) s.els he r hr [] 61 n (by simp; omega) (by omega) ha
  have hV := fun (e : b7) (hr : j8 nv na e = true) (r : List UInt8) (n : Int) (ha : At t n (c8 e ++ r)) (hd : aa0 r) => ar9 nv na hnv hna 5 e (by unfold j8 at hr; simp only [b57] at hr; exact hr.1) t r n ha hd
  rw [A5, aK2]
  rcases h1 with k | k | k | k | k
  ·obtain ⟨a0, a1⟩ := h2 (.inl k)
   obtain ⟨p1, p2, p3, p4⟩ := a74 hpt (.inl k)
   obtain ⟨m, hm⟩ : ∃ m : Nat, s.target = m := ⟨s.target.toNat, by omega⟩
   have ht : P2 s = [UInt8.ofNat (97 + m)] ++ [58, 61] ++ c8 s.value ++ [59] := by rw [v6, stT, if_pos k, hm]; rfl
   rw [ht] at hat ⊢
   obtain ⟨f1, f2, f3⟩ := bh9 ⟨m, by omega⟩
   have q1 : At t n (UInt8.ofNat (97 + m) :: 58 :: 61 :: (c8 s.value ++ ([59] ++ r))) := by simpa using hat
   rw [if_neg (by rw [q1.hasN (w := [105, 102]) (by simp)]; decide), if_neg (by rw [q1.hasN (w := [114, 101, 112, 101, 97, 116]) (by simp [f3])]; decide), q1.nm, q1.nm, f2, f1, if_neg (by decide), if_neg (by omega)]
   have q2 := q1.skip1
   rw [if_neg (by rw [q2.hasN (w := [33, 61]) (by simp)]; decide)]
   have q3 : At t (n + 1) ([58, 61] ++ (c8 s.value ++ ([59] ++ r))) := q2
   have q4 := q3.sk2
   rw [hV _ (h4 (by omega)) _ _ q4 (o0 (by decide) _)]
   dsimp only
   rw [q4.skip.sk, q3.sk, b5.mk_eq k hm p1 rfl p2 p3 p4]
   simp; omega
  ·obtain ⟨a0, a1, a2, a3⟩ := h3 k
   obtain ⟨p2, p3, p4⟩ := bS6 hpt k
   obtain ⟨m, hm⟩ : ∃ m : Nat, s.target = m := ⟨s.target.toNat, by omega⟩
   have ht : P2 s = [UInt8.ofNat (80 + m)] ++ [91] ++ c8 s.index ++ [93, 58, 61] ++ c8 s.value ++ [59] := by rw [v6, stT, if_neg (by omega), if_neg (by omega), if_pos k, hm]; rfl
   rw [ht] at hat ⊢
   obtain ⟨f1, f2, f3, f4⟩ := bG9 ⟨m, by omega⟩
   have q1 : At t n (UInt8.ofNat (80 + m) :: ([91] ++ (c8 s.index ++ ([93, 58, 61] ++ (c8 s.value ++ ([59] ++ r)))))) := by simpa using hat
   rw [if_neg (by rw [q1.hasN (w := [105, 102]) (by simp [f4])]; decide), if_neg (by rw [q1.hasN (w := [114, 101, 112, 101, 97, 116]) (by simp [f3])]; decide), q1.nm, f1, if_pos (by omega)]
   have q2 := q1.skip1
   have q3 := q2.sk2
   have hi1 : j6 nv na 1 s.index = true := psA a2 a3
   rw [ar9 nv na hnv hna 1 s.index hi1 t _ _ q3 (o0 (by decide) _)]
   dsimp only
   have q4 := q3.skip
   have q5 := q4.sk2
   rw [hV _ (h4 (by omega)) _ _ q5 (o0 (by decide) _)]
   dsimp only
   rw [q5.skip.sk, q4.sk, q2.sk, b5.mk_eq k hm rfl rfl p2 p3 p4]
   simp; omega
  ·obtain ⟨p1, p2, p3⟩ := bS5 hpt k
   have ht : P2 s = [105, 102] ++ c8 s.value ++ [123] ++ c7 s.body ++ [125, 123] ++ c7 s.els ++ [125] := by rw [v6, stT, if_neg (by omega), if_neg (by omega), if_neg (by omega), if_pos k]
   rw [ht] at hat ⊢
   have q1 : At t n ([105, 102] ++ (c8 s.value ++ ([123] ++ (c7 s.body ++ ([125, 123] ++ (c7 s.els ++ ([125] ++ r))))))) := by simpa using hat
   rw [if_pos (q1.has (w := [105, 102]) (by simp))]
   have q2 := q1.sk2
   rw [hV _ (h4 (by omega)) _ _ q2 (o0 (by decide) _)]
   dsimp only
   have q3 := q2.skip
   have q4 := q3.sk2
   rw [hB _ (.inr ⟨_, rfl⟩) _ q4]
   dsimp only
   have q5 := q4.skip
   have q6 := q5.sk2
   rw [hE _ (.inr ⟨_, rfl⟩) _ q6]
   dsimp only
   have q7 := q6.skip
   rw [q7.sk, q5.sk, q3.sk, q1.sk, List.nil_append, List.nil_append, b5.mk_eq k p1 p2 rfl p3 rfl rfl]
   simp; omega
  ·obtain ⟨p1, p2, p3, p4, p5, p6⟩ := bS4 hpt k
   obtain ⟨m, hm⟩ : ∃ m : Nat, s.count = m := ⟨s.count.toNat, by omega⟩
   have ht : P2 s = [114, 101, 112, 101, 97, 116] ++ Lib.decDigits m ++ [123] ++ c7 s.body ++ [125] := by rw [v6, stT, if_neg (by omega), if_neg (by omega), if_neg (by omega), if_neg (by omega), hm]; rfl
   rw [ht] at hat ⊢
   have q1 : At t n ([114, 101, 112, 101, 97, 116] ++ (Lib.decDigits m ++ ([123] ++ (c7 s.body ++ ([125] ++ r))))) := by simpa using hat
   rw [if_neg (by rw [q1.hasN (w := [105, 102]) (by simp)]; decide), if_pos (q1.has (w := [114, 101, 112, 101, 97, 116]) (by simp))]
   have q2 := q1.sk2
   rw [q2.dg (by omega) (o0 (by decide) _)]
   dsimp only
   have q3 := q2.skip
   have q4 := q3.sk2
   rw [hB _ (.inr ⟨_, rfl⟩) _ q4]
   dsimp only
   have q5 := q4.skip
   rw [q5.sk, q3.sk, q1.sk, List.nil_append, b5.mk_eq k p1 p2 p3 hm rfl p4]
   simp; omega
  obtain ⟨a0, a1⟩ := h2 (.inr k)
  obtain ⟨p1, p2, p3, p4⟩ := a74 hpt (.inr k)
  obtain ⟨m, hm⟩ : ∃ m : Nat, s.target = m := ⟨s.target.toNat, by omega⟩
  have ht : P2 s = [UInt8.ofNat (97 + m)] ++ [33, 61] ++ c8 s.value ++ [59] := by rw [v6, stT, if_neg (by omega), if_pos k, hm]; rfl
  rw [ht] at hat ⊢
  obtain ⟨f1, f2, f3⟩ := bh9 ⟨m, by omega⟩
  have q1 : At t n (UInt8.ofNat (97 + m) :: 33 :: 61 :: (c8 s.value ++ ([59] ++ r))) := by simpa using hat
  rw [if_neg (by rw [q1.hasN (w := [105, 102]) (by simp)]; decide), if_neg (by rw [q1.hasN (w := [114, 101, 112, 101, 97, 116]) (by simp [f3])]; decide), q1.nm, q1.nm, f2, f1, if_neg (by decide), if_neg (by omega)]
  have q2 := q1.skip1
  have q3 : At t (n + 1) ([33, 61] ++ (c8 s.value ++ ([59] ++ r))) := q2
  rw [if_pos (q3.has (w := [33, 61]) (by simp))]
  have q4 := q3.sk2
  rw [hV _ (h4 (by omega)) _ _ q4 (o0 (by decide) _)]
  dsimp only
  rw [q4.skip.sk, q3.sk, b5.mk_eq k hm p1 rfl p2 p3 p4]
  simp; omega
theorem bm4 {p : j0} (h : o6 p = true) : C2 (c7 p.body) 5 0 = (p.body, ((c7 p.body).length : Int)) := by
 unfold o6 at h
 simp only [b57, decide_eq_true_eq] at h
 obtain ⟨⟨h1, h2⟩, h3⟩ := h
 unfold C9 at h1
 simp only [b57, decide_eq_true_eq] at h1
 unfold C2
 rw [aK4 p.vars.length p.arrays.length 5 (by omega) (by omega) _ (aZ3 _ _ (by omega) (by omega) _ 5) p.body (fun s hs => ⟨b68.1 h2 s hs, by have := psN hs; omega⟩) [] (.inl rfl) [] 61 0 (by have := psL p.body; simp; omega) (by have := psL p.body; omega) ⟨[], by simp, rfl⟩]
 simp
def bC7 (x : UInt8) : Int := F4 x [76, 72, 85, 88] 0
theorem aE4 {l : Int} (h : s9 l = true) : bC7 (aL4 l) = l := by
 unfold s9 at h
 simp only [b57, decide_eq_true_eq] at h
 have : l = 0 \/ l = 1 \/ l = 2 \/ l = 3 := by omega
 rcases this with rfl | rfl | rfl | rfl <;> decide +kernel
theorem bd6 {ls : List Int} (h : ls.all s9 = true) : (n5 ls).map bC7 = ls := by
 induction ls with
 | nil => rfl
 | cons a r ih =>
  simp only [List.all_cons, b57] at h
  rw [n5, b94, b94, aE4 h.1]
  exact congrArg _ (ih h.2)
theorem bL5 {l : Int} (h : s9 l = true) : aL4 l ≠ 47 := by
 unfold s9 at h
 simp only [b57, decide_eq_true_eq] at h
 have : l = 0 \/ l = 1 \/ l = 2 \/ l = 3 := by omega
 rcases this with rfl | rfl | rfl | rfl <;> decide +kernel
theorem at8 {ls : List Int} (h : ls.all s9 = true) : (47 : UInt8) ∉ n5 ls := by
 intro hm
 obtain ⟨l, h1, h2⟩ := List.mem_map.1 hm
 exact bL5 (b68.1 h l h1) h2
theorem ah5 {p : j0} (h : o6 p = true) : p.vars.all s9 = true /\ p.arrays.all s9 = true := by
 unfold o6 C9 at h
 simp only [b57, decide_eq_true_eq] at h
 exact ⟨h.1.1.1.1.1.1, h.1.1.1.1.1.2⟩
theorem aR1 (p : j0) : F0 p ≠ [] := by unfold F0; simp
def bv6 (p q : j0) : Bool := decide (p.vars = q.vars) && (decide (p.arrays = q.arrays) && z7 p.body q.body)
theorem bj9 {p q : j0} : bv6 p q = true ↔ p = q := by
 unfold bv6
 simp only [b57, decide_eq_true_eq, H2]
 constructor
 ·rintro ⟨h1, h2, h3⟩
  cases p; cases q
  simp only at h1 h2 h3
  subst h1 h2 h3; rfl
 rintro rfl; exact ⟨rfl, rfl, rfl⟩
theorem aE9 (p : j0) : bv6 p p = true := bj9.2 rfl
theorem O5 {l : List UInt8} (h : ((b6 l).toList == (⟨#[]⟩ : ByteArray).toList) = false) : l ≠ [] := by
 rintro rfl
 have : ((b6 []).toList == (⟨#[]⟩ : ByteArray).toList) = true := by rw [show (⟨#[]⟩ : ByteArray) = b6 [] from rfl]; simp
 rw [this] at h; cases h
def Y2 (x : UInt8) : Int := F4 x [76, 72, 85, 88] 0
def lbG (x : UInt8) : Bool := decide (0 <= Y2 x)
def L5 (t : List UInt8) : List Int × Bool := if t.all lbG then (t.map Y2, true) else ([], false)
section
variable {t : List UInt8} {k : Nat}
theorem a77 (hk : k < t.length) (h : (t.take k).all lbG = true) (h1 : ¬ Y2 (t.getD k 0) < 0) : (t.take (k + 1)).all lbG = true := by
 rw [B3 t k hk, List.all_append, h, Bool.true_and, List.all_cons, List.all_nil, Bool.and_true]
 rw [m9 hk] at h1
 unfold lbG; exact decide_eq_true (by omega)
theorem bm1 (hk : k < t.length) : (t.take k).map Y2 ++ [Y2 (t.getD k 0)] = (t.take (k + 1)).map Y2 := by
 rw [B3 t k hk, List.map_append, m9 hk]; rfl
theorem aJ6 (hk : k < t.length) (h1 : Y2 (t.getD k 0) < 0) : L5 t = ([], false) := by
 unfold L5
 rw [if_neg]
 intro h
 have := b68.1 h _ (b64 hk)
 rw [m9 hk] at h1
 unfold lbG at this
 have := of_decide_eq_true this
 omega
theorem aJ7 (hk : t.length <= k) (h : (t.take k).all lbG = true) : L5 t = ((t.take k).map Y2, true) := by
 rw [b75 hk] at h ⊢
 unfold L5; rw [if_pos h]
theorem bL4 {x : UInt8} (h : 4 <= k) (h1 : F4 x [76, 72, 85, 88] 0 = F4 x (([76, 72, 85, 88] : List UInt8).drop k) k) : Y2 x = -1 := by
 unfold Y2; rw [h1, List.drop_eq_nil_iff.2 (by simpa using h)]; rfl
end
theorem an9 {ls : List Int} (h : ls.all s9 = true) : L5 (n5 ls) = (ls, true) := by
 have e : (n5 ls).map Y2 = ls := bd6 h
 unfold L5
 rw [if_pos, e]
 refine b68.2 fun x hx => ?_
 obtain ⟨l, h1, rfl⟩ := List.mem_map.1 hx
 have h2 := b68.1 h l h1
 unfold lbG
 rw [show Y2 (aL4 l) = l from aE4 h2]
 unfold s9 at h2
 simp only [b57, decide_eq_true_eq] at h2
 exact decide_eq_true h2.1
def E6 (c : UInt8) : List UInt8 -> List UInt8 -> List (List UInt8)
 | p, [] => [p]
 | p, x :: r => if x = c then p :: E6 c [] r else E6 c (p ++ [x]) r
theorem aM3 {c : UInt8} : ∀ (a p r : List UInt8), c ∉ a -> E6 c p (a ++ c :: r) = (p ++ a) :: E6 c [] r
 | [], p, r, _ => by simp [E6]
 | x :: a, p, r, h => by
  simp only [b76, not_or] at h
  rw [List.cons_append, E6, if_neg (fun e => h.1 e.symm), aM3 a _ r h.2]
  simp
theorem bs8 {c : UInt8} : ∀ (a p : List UInt8), c ∉ a -> E6 c p a = [p ++ a]
 | [], p, _ => by simp [E6]
 | x :: a, p, h => by
  simp only [b76, not_or] at h
  rw [E6, if_neg (fun e => h.1 e.symm), bs8 a _ h.2]
  simp
def P8 (c : UInt8) (t : List UInt8) : Nat -> List (List UInt8) × Nat
 | 0 => ([], 0)
 | k + 1 => if k = t.length \/ t.getD k 0 = c then ((P8 c t k).1 ++ [(t.take k).drop (P8 c t k).2], k + 1) else P8 c t k
section
variable {c : UInt8} {t : List UInt8} {k : Nat}
theorem bs7 : (P8 c t k).2 <= k /\ (P8 c t k).1.length <= k := by
 induction k with
 | zero => exact ⟨b71 _, b71 _⟩
 | succ k ih =>
  rw [P8]
  split
  ·simp; omega
  omega
theorem aU5 (h : (k : Int) = t.length \/ t.getD k 0 = c) : P8 c t (k + 1) = ((P8 c t k).1 ++ [(t.take k).drop (P8 c t k).2], k + 1) := by
 rw [P8, if_pos (by rcases h with h | h; exact .inl (by omega); exact .inr h)]
theorem bs6 (h : ¬ (k : Int) = t.length) (h1 : ¬ t.getD k 0 = c) : P8 c t (k + 1) = P8 c t k := by
 rw [P8, if_neg]
 rintro (h2 | h2)
 ·omega
 exact h1 h2
theorem bN8 (h : k <= t.length) : E6 c [] t = (P8 c t k).1 ++ E6 c ((t.take k).drop (P8 c t k).2) (t.drop k) := by
 induction k with
 | zero => simp [P8]
 | succ k ih =>
  have hk : k < t.length := by omega
  rw [ih (by omega), List.drop_eq_getElem_cons hk, E6]
  by_cases he : t[k] = c
  ·rw [if_pos he, aU5 (.inr (by rw [m9 hk]; exact he))]
   simp [List.drop_eq_nil_iff.2 (show (t.take (k + 1)).length <= k + 1 by simp; omega)]
  rw [if_neg he, bs6 (by omega) (by rw [m9 hk]; exact he)]
  have := (bs7 (c := c) (t := t) (k := k)).1
  rw [B3 t k hk, List.drop_append_of_le_length (by simp; omega)]
theorem bA2 : (P8 c t (t.length + 1)).1 = E6 c [] t := by
 rw [aU5 (.inl rfl), bN8 (b71 t.length)]
 simp [E6]
end
abbrev IR := List UInt8 × Bool
def F8 (r : IR) : UInt8 := if r.2 = true \/ r.1 = [] then 0 else r.1.getD 0 0
def O9 (s w : List UInt8) : Bool := s.take w.length == w
def c6 (r : IR) (w : List UInt8) : IR := if O9 r.1 w then (r.1.drop w.length, r.2) else (r.1, true)
def d9 (r : IR) : UInt8 × IR := if F8 r = 0 then (0, (r.1, true)) else (F8 r, (r.1.drop 1, r.2))
def P7 (x : UInt8) : Bool := decide (48 <= x.toNat) && decide (x.toNat <= 57)
def dnI (s : List UInt8) : Nat := (s.takeWhile P7).length
def atV (l : List UInt8) : Int × Bool := match Lib.atoiAll l with
 | .ok v => (v, false)
 | .syntax => (0, true)
 | .range => (Lib.atoiSat l, true)
def G4 (r : IR) : Int × IR := ((atV (r.1.take (dnI r.1))).1, (r.1.drop (dnI r.1), r.2 || (atV (r.1.take (dnI r.1))).2))
def ak8 (x : UInt8) : Bool := decide (97 <= x.toNat) && decide (x.toNat <= 108)
def az0 (x : UInt8) : Bool := decide (x.toNat = 80) || decide (x.toNat = 81)
def iE : Nat -> IR -> b7 × IR
 | 0, r => (zE, c6 (r.1, true) [40])
 | f + 1, r =>
  if P7 (F8 r) then (⟨1, (G4 r).1, []⟩, (G4 r).2)
  else if ak8 (F8 r) then (⟨2, (((d9 r).1.toNat - 97 : Nat) : Int), []⟩, (d9 r).2)
  else if az0 (F8 r) then
   let k := iE f (c6 (d9 r).2 [91])
   (⟨3, (((d9 r).1.toNat - 80 : Nat) : Int), [k.1]⟩, c6 k.2 [93])
  else if (c6 r [40]).2 then (zE, c6 r [40]) else
   let a := iE f (c6 r [40])
   let o := d9 a.2
   if o.1 = 63 then
    let b := iE f o.2
    let c := iE f (c6 b.2 [58])
    (⟨11, 0, [a.1, b.1, c.1]⟩, c6 c.2 [41])
   else
    let b := iE f o.2
    (⟨4 + F4 o.1 opW 0, 0, [a.1, b.1]⟩, c6 b.2 [41])
def iSF (B : IR -> List b5 × IR) (r : IR) : b5 × IR :=
 if O9 r.1 [105, 102] then
  let v := iE 5 (c6 r [105, 102])
  let b := B (c6 v.2 [123])
  let e := B (c6 (c6 b.2 [125]) [123])
  (⟨3, 0, zE, v.1, 0, b.1, e.1⟩, c6 e.2 [125])
 else if O9 r.1 repL then
  let c := G4 (c6 r repL)
  let b := B (c6 c.2 [123])
  (⟨4, 0, zE, zE, c.1, b.1, []⟩, c6 b.2 [125])
 else if ak8 (d9 r).1 then
  if F8 (d9 r).2 = 33 then
   let v := iE 5 (c6 (d9 r).2 [33, 61])
   (⟨5, (((d9 r).1.toNat - 97 : Nat) : Int), zE, v.1, 0, [], []⟩, c6 v.2 [59])
  else
   let v := iE 5 (c6 (d9 r).2 [58, 61])
   (⟨1, (((d9 r).1.toNat - 97 : Nat) : Int), zE, v.1, 0, [], []⟩, c6 v.2 [59])
 else if az0 (d9 r).1 then
  let i := iE 5 (c6 (d9 r).2 [91])
  let v := iE 5 (c6 i.2 [93, 58, 61])
  (⟨2, (((d9 r).1.toNat - 80 : Nat) : Int), i.1, v.1, 0, [], []⟩, c6 v.2 [59])
 else
  let v := iE 5 ((d9 r).2.1, true)
  (⟨1, 0, zE, v.1, 0, [], []⟩, c6 v.2 [59])
where repL : List UInt8 := [114, 101, 112, 101, 97, 116]
def iSs (R : IR -> b5 × IR) : Nat -> List b5 × IR -> List b5 × IR
 | 0, x => x
 | g + 1, x => if x.2.2 = false /\ x.2.1 ≠ [] /\ F8 x.2 ≠ 125 then iSs R g (x.1 ++ [(R x.2).1], (R x.2).2) else x
def iS0 (r : IR) : List b5 × IR := if r.2 = false /\ r.1 ≠ [] /\ F8 r ≠ 125 then ([], (r.1, true)) else ([], r)
def A0 : Nat -> IR -> b5 × IR
 | 0, r => iSF iS0 r
 | d + 1, r => iSF (fun r => iSs (A0 d) (r.1.length + 1) ([], r)) r
def B9 : Nat -> IR -> List b5 × IR
 | 0, r => iS0 r
 | d + 1, r => iSs (A0 d) (r.1.length + 1) ([], r)
theorem S5 (d : Nat) (r : IR) : A0 d r = iSF (B9 d) r := by cases d <;> rfl
section
variable {w b r : List UInt8} {x : UInt8}
theorem D7 : c6 (w ++ r, false) w = (r, false) := by
 unfold c6 O9; rw [if_pos (by simp)]; simp
theorem T3 : F8 (x :: r, false) = x := by unfold F8; rw [if_neg (by simp)]; rfl
theorem ah7 (h : x ≠ 0) : d9 (x :: r, false) = (x, (r, false)) := by
 unfold d9; rw [T3, if_neg h]; rfl
end
theorem bK3 {r : List UInt8} (h : aa0 r) : ∀ x ∈ r.head?, P7 x = false := fun x hx => by
 have h1 := h x hx
 cases hd : P7 x with
 | false => rfl
 | true =>
  unfold P7 at hd
  simp only [b57, decide_eq_true_eq] at hd
  have h2 := (br7 ⟨x.toNat - 48, by omega⟩).1
  have e : UInt8.ofNat (48 + (x.toNat - 48)) = x := by
   apply UInt8.toNat_inj.1
   rw [UInt8.toNat_ofNat']; omega
  simp only at h2
  rw [e, h1] at h2
  omega
theorem bN2 {a r : List UInt8} (ha : ∀ x ∈ a, P7 x = true) (hr : aa0 r) : dnI (a ++ r) = a.length := by
 unfold dnI
 rw [List.takeWhile_append_of_pos ha]
 cases r with
 | nil => simp
 | cons x r => rw [List.takeWhile_cons_of_neg (by rw [bK3 hr x rfl]; decide)]; simp
theorem aA0 : ∀ d : Fin 10, P7 (UInt8.ofNat (48 + d)) = true := by decide +kernel
theorem bY0 : ∀ a : Fin 10, Lib.atoiAll [UInt8.ofNat (48 + a)] = .ok ((a : Nat) : Int) := by decide +kernel
theorem bX9 : ∀ a b : Fin 10, Lib.atoiAll [UInt8.ofNat (48 + a), UInt8.ofNat (48 + b)] = .ok ((a * 10 + b : Nat) : Int) := by decide +kernel
theorem bX8 : ∀ a b c : Fin 10, Lib.atoiAll [UInt8.ofNat (48 + a), UInt8.ofNat (48 + b), UInt8.ofNat (48 + c)] = .ok (((a * 10 + b) * 10 + c : Nat) : Int) := by decide +kernel
theorem bu2 {m : Nat} (h : m < 1000) : atV (Lib.decDigits m) = ((m : Int), false) /\ ∀ x ∈ Lib.decDigits m, P7 x = true := by
 unfold atV
 rcases b86 m 10 with h1 | h1
 ·rw [bb0 h1, bY0 ⟨m, h1⟩]
  exact ⟨rfl, fun x hx => by simp only [List.mem_singleton] at hx; rw [hx]; exact aA0 ⟨m, h1⟩⟩
 rcases b86 m 100 with h2 | h2
 ·rw [ba9 (by omega) h2, bX9 ⟨m / 10, by omega⟩ ⟨m % 10, by omega⟩]
  refine ⟨?_, fun x hx => ?_⟩
  ·show (((m / 10 * 10 + m % 10 : Nat) : Int), false) = _
   rw [show m / 10 * 10 + m % 10 = m by omega]
  simp only [b76, b98, or_false] at hx
  rcases hx with rfl | rfl
  ·exact aA0 ⟨m / 10, by omega⟩
  exact aA0 ⟨m % 10, by omega⟩
 rw [bs0 (by omega) h, bX8 ⟨m / 10 / 10, by omega⟩ ⟨m / 10 % 10, by omega⟩ ⟨m % 10, by omega⟩]
 refine ⟨?_, fun x hx => ?_⟩
 ·show ((((m / 10 / 10 * 10 + m / 10 % 10) * 10 + m % 10 : Nat) : Int), false) = _
  rw [show (m / 10 / 10 * 10 + m / 10 % 10) * 10 + m % 10 = m by omega]
 simp only [b76, b98, or_false] at hx
 rcases hx with rfl | rfl | rfl
 ·exact aA0 ⟨m / 10 / 10, by omega⟩
 ·exact aA0 ⟨m / 10 % 10, by omega⟩
 exact aA0 ⟨m % 10, by omega⟩
theorem bm9 {m : Nat} (h : m < 1000) {r : List UInt8} (hr : aa0 r) : G4 (Lib.decDigits m ++ r, false) = ((m : Int), (r, false)) := by
 obtain ⟨h1, h2⟩ := bu2 h
 unfold G4
 simp only [bN2 h2 hr, List.take_left, List.drop_left, h1]
 rfl
theorem bh8 : ∀ v : Fin 12, P7 (UInt8.ofNat (97 + v)) = false /\ ak8 (UInt8.ofNat (97 + v)) = true /\ UInt8.ofNat (97 + v) ≠ 0 /\ (UInt8.ofNat (97 + v)).toNat = 97 + v /\ UInt8.ofNat (97 + v) ≠ 114 /\ UInt8.ofNat (97 + v) ≠ 125 := by decide +kernel
theorem bG8 : ∀ v : Fin 2, P7 (UInt8.ofNat (80 + v)) = false /\ ak8 (UInt8.ofNat (80 + v)) = false /\ az0 (UInt8.ofNat (80 + v)) = true /\ UInt8.ofNat (80 + v) ≠ 0 /\ (UInt8.ofNat (80 + v)).toNat = 80 + v /\ UInt8.ofNat (80 + v) ≠ 114 /\ UInt8.ofNat (80 + v) ≠ 105 := by decide +kernel
theorem bT2 : ∀ k : Fin 7, s3 (4 + k) ≠ 0 := by decide +kernel
theorem az2 (nv na : Nat) (hnv : nv <= 12) (hna : na <= 2) : ∀ (d : Nat) (e : b7), j6 nv na d e = true -> ∀ (f : Nat) (r : List UInt8), d <= f -> aa0 r -> iE f (c8 e ++ r, false) = (e, (r, false))
 | 0, e, h => by simp [j6] at h
 | d + 1, e, h => by
  intro f0 r hf hr
  obtain ⟨f, rfl⟩ : ∃ f, f0 = f + 1 := ⟨f0 - 1, by omega⟩
  have hf' : d <= f := by omega
  have hk := (J1 h).2
  have hn : B4 nv na e = true := by
   unfold j6 at h
   simp only [b57] at h
   exact h.1.1
  obtain ⟨hl, hv0, hvl⟩ := I8 hn
  obtain ⟨m, hm⟩ : ∃ m : Nat, e.value = m := ⟨e.value.toNat, by omega⟩
  have ht := W2 e
  rw [hm] at hvl ht
  have hK : e.kind = 1 \/ e.kind = 2 \/ e.kind = 3 \/ (4 <= e.kind /\ e.kind <= 10) \/ e.kind = 11 := by
   unfold j9 at hl
   split at hl
   ·omega
   split at hl
   ·omega
   split at hl
   ·omega
   split at hl <;> omega
  rw [iE]
  rcases hK with k1 | k2 | k3 | k4 | k5
  ·rw [k1] at hvl ht
   have hm' : m < 256 := by simp [y6] at hvl; omega
   have ht' : c8 e = Lib.decDigits m := ht
   rw [ht']
   obtain ⟨dd, t, hd, hdt⟩ := aU4 m (by omega)
   rw [if_pos (by rw [hdt, List.cons_append, T3]; exact aA0 ⟨dd, hd⟩), bm9 (by omega) hr]
   have e0 : e.kids = [] := by
    rw [k1] at hl; simp [j9] at hl; exact hl
   rw [b7.mk_eq k1 hm e0]
  ·rw [k2] at hvl ht
   have hm' : m < 12 := by simp [y6] at hvl; omega
   have ht' : c8 e = [UInt8.ofNat (97 + m)] := ht
   obtain ⟨f1, f2, f3, f4, -, -⟩ := bh8 ⟨m, hm'⟩
   simp only at f1 f2 f3 f4
   rw [ht', List.singleton_append, T3, f1, f2, ah7 f3, if_neg (by decide), if_pos rfl]
   have e0 : e.kids = [] := by
    rw [k2] at hl; simp [j9] at hl; exact hl
   simp only [f4, Nat.add_sub_cancel_left]
   rw [b7.mk_eq k2 hm e0]
  ·rw [k3] at hvl ht
   have hm' : m < 2 := by simp [y6] at hvl; omega
   obtain ⟨x, hx⟩ := bE9 (ks := e.kids) (by rw [k3] at hl; simp [j9] at hl; omega)
   have ht' : c8 e = [UInt8.ofNat (80 + m)] ++ [91] ++ c8 x ++ [93] := by rw [ht, hx]; rfl
   obtain ⟨f1, f2, f3, f4, f5, -, -⟩ := bG8 ⟨m, hm'⟩
   simp only at f1 f2 f3 f4 f5
   have e1 : c8 e ++ r = UInt8.ofNat (80 + m) :: ([91] ++ (c8 x ++ ([93] ++ r))) := by rw [ht']; simp
   rw [e1, T3, f1, f2, f3, ah7 f4, if_neg (by decide), if_neg (by decide), if_pos rfl, D7, az2 nv na hnv hna d x (hk x (by rw [hx]; simp)) f ([93] ++ r) hf' (o0 (x := 93) (by decide) r)]
   simp only [f5, Nat.add_sub_cancel_left, D7]
   rw [b7.mk_eq k3 hm hx]
  ·obtain ⟨x, y, hx⟩ := bE8 (ks := e.kids) (by
    unfold j9 at hl
    rw [if_neg (by omega), if_neg (by omega), if_pos (by omega)] at hl; omega)
   have ht' : c8 e = [40] ++ c8 x ++ [s3 e.kind] ++ c8 y ++ [41] := by
    rw [ht, as0, if_neg (by omega), if_neg (by omega), if_neg (by omega), if_neg (by omega), hx]; rfl
   have hm0 : m = 0 := by
    unfold y6 at hvl
    rw [if_neg (by omega), if_neg (by omega), if_neg (by omega)] at hvl; omega
   obtain ⟨j, hj, hj7⟩ : ∃ j : Nat, e.kind = 4 + (j : Int) /\ j < 7 := ⟨(e.kind - 4).toNat, by omega, by omega⟩
   obtain ⟨f1, f2, f3⟩ := bE3 ⟨j, hj7⟩
   have f4 := bT2 ⟨j, hj7⟩
   simp only at f1 f2 f3 f4
   rw [<- hj] at f1 f2 f3 f4
   have e1 : c8 e ++ r = [40] ++ (c8 x ++ (s3 e.kind :: (c8 y ++ ([41] ++ r)))) := by rw [ht']; simp
   rw [e1, D7, show F8 ([40] ++ (c8 x ++ (s3 e.kind :: (c8 y ++ ([41] ++ r)))), false) = 40 from T3, if_neg (by decide), if_neg (by decide), if_neg (by decide), if_neg (by simp)]
   rw [az2 nv na hnv hna d x (hk x (by rw [hx]; simp)) f _ hf' (o0 f3 _)]
   dsimp only
   rw [ah7 f4]
   dsimp only
   rw [if_neg f2, az2 nv na hnv hna d y (hk y (by rw [hx]; simp)) f ([41] ++ r) hf' (o0 (x := 41) (by decide) r)]
   dsimp only
   rw [D7, f1, b7.mk_eq (e := e) hj (by rw [hm, hm0]; rfl) hx]
  obtain ⟨x, y, z, hx⟩ := bE7 (ks := e.kids) (by
   unfold j9 at hl
   rw [if_neg (by omega), if_neg (by omega), if_neg (by omega), if_pos (by omega)] at hl; omega)
  have ht' : c8 e = [40] ++ c8 x ++ [63] ++ c8 y ++ [58] ++ c8 z ++ [41] := by
   rw [ht, as0, if_neg (by omega), if_neg (by omega), if_neg (by omega), if_pos (by omega), hx]; rfl
  have hm0 : m = 0 := by
   unfold y6 at hvl
   rw [if_neg (by omega), if_neg (by omega), if_neg (by omega)] at hvl; omega
  have e1 : c8 e ++ r = [40] ++ (c8 x ++ (63 :: (c8 y ++ ([58] ++ (c8 z ++ ([41] ++ r)))))) := by rw [ht']; simp
  rw [e1, D7, show F8 ([40] ++ (c8 x ++ (63 :: (c8 y ++ ([58] ++ (c8 z ++ ([41] ++ r)))))), false) = 40 from T3, if_neg (by decide), if_neg (by decide), if_neg (by decide), if_neg (by simp)]
  rw [az2 nv na hnv hna d x (hk x (by rw [hx]; simp)) f _ hf' (o0 (by decide) _)]
  dsimp only
  rw [ah7 (by decide)]
  dsimp only
  rw [if_pos rfl, az2 nv na hnv hna d y (hk y (by rw [hx]; simp)) f ([58] ++ (c8 z ++ ([41] ++ r))) hf' (o0 (x := 58) (by decide) _)]
  dsimp only
  rw [D7, az2 nv na hnv hna d z (hk z (by rw [hx]; simp)) f ([41] ++ r) hf' (o0 (x := 41) (by decide) r)]
  dsimp only
  rw [D7, b7.mk_eq (e := e) k5 (by rw [hm, hm0]; rfl) hx]
theorem a13 (nv na d f : Nat) (hnv : nv <= 12) (hna : na <= 2) (ih : ∀ s : b5, j4 nv na (d + 1) s = true -> ∀ (r : List UInt8), A0 f (P2 s ++ r, false) = (s, (r, false))) :
  ∀ (ss : List b5), (∀ s ∈ ss, j4 nv na (d + 1) s = true) -> ∀ (r : List UInt8), aG1 r -> ∀ (acc : List b5) (g : Nat), ss.length < g -> iSs (A0 f) g (acc, (c7 ss ++ r, false)) = (acc ++ ss, (r, false))
 | [], _, r, hr, acc, g, hg => by
  cases g with
  | zero => simp at hg
  | succ g =>
   rw [iSs, if_neg]
   ·simp [c7]
   rintro ⟨h1, h2, h3⟩
   rcases hr with rfl | ⟨t, rfl⟩
   ·exact h2 rfl
   exact h3 T3
 | x :: ss, hs, r, hr, acc, g, hg => by
  cases g with
  | zero => simp at hg
  | succ g =>
   have h1 := hs x b72
   obtain ⟨c, q, hc, hc2⟩ := aI7 hnv hna h1
   have e : c7 (x :: ss) ++ r = P2 x ++ (c7 ss ++ r) := by rw [c7, b83]
   rw [iSs, if_pos]
   ·dsimp only
    rw [e, ih x h1 _]
    dsimp only
    rw [a13 nv na d f hnv hna ih ss (fun s h => hs s (b80 _ h)) r hr (acc ++ [x]) g (by simp at hg; omega)]
    simp
   refine ⟨rfl, ?_, ?_⟩
   ·dsimp only; rw [e, hc]; simp
   rw [e, hc, List.cons_append]; rw [T3]; exact hc2
theorem a55 {nv na d : Nat} (hnv : nv <= 12) (hna : na <= 2) : ∀ ss : List b5, (∀ s ∈ ss, j4 nv na (d + 1) s = true) -> ss.length <= (c7 ss).length
 | [], _ => b71 _
 | s :: r, h => by
  obtain ⟨x, t, hx, -⟩ := aI7 hnv hna (h s b72)
  have := a55 hnv hna r fun y hy => h y (b80 _ hy)
  rw [c7, hx]
  simp; omega
theorem bM3 (nv na d : Nat) (hnv : nv <= 12) (hna : na <= 2) (B : IR -> List b5 × IR) (ih : ∀ (ss : List b5), (∀ s ∈ ss, j4 nv na d s = true) -> ∀ (r : List UInt8), aG1 r -> B (c7 ss ++ r, false) = (ss, (r, false))) (s : b5) (h : j4 nv na (d + 1) s = true) (r : List UInt8) : iSF B (P2 s ++ r, false) = (s, (r, false)) := by
 have hpt : m6 s = true := by rw [j4, b57] at h; exact h.1
 obtain ⟨h1, h2, h3, h4, -, h6, h7⟩ := z6 h
 have hV := fun (e : b7) (hr : j8 nv na e = true) (r : List UInt8) (hd : aa0 r) => az2 nv na hnv hna 5 e (by unfold j8 at hr; simp only [b57] at hr; exact hr.1) 5 r (by omega) hd
 rw [iSF]
 rcases h1 with k | k | k | k | k
 ·obtain ⟨a0, a1⟩ := h2 (.inl k)
  obtain ⟨p1, p2, p3, p4⟩ := a74 hpt (.inl k)
  obtain ⟨m, hm⟩ : ∃ m : Nat, s.target = m := ⟨s.target.toNat, by omega⟩
  have ht : P2 s ++ r = UInt8.ofNat (97 + m) :: ([58, 61] ++ (c8 s.value ++ ([59] ++ r))) := by
   rw [v6, stT, if_pos k, hm]; simp
  obtain ⟨f1, f2, f3, f4, f5, -⟩ := bh8 ⟨m, by omega⟩
  simp only at f1 f2 f3 f4 f5
  rw [ht, if_neg (by simp [O9]), if_neg (by simp [O9, iSF.repL, f5]), ah7 f3]
  dsimp only
  rw [f2, if_pos rfl, show F8 ([58, 61] ++ (c8 s.value ++ ([59] ++ r)), false) = 58 from T3, if_neg (by decide), D7, hV _ (h4 (by omega)) ([59] ++ r) (o0 (x := 59) (by decide) r)]
  dsimp only
  rw [D7, f4, Nat.add_sub_cancel_left, b5.mk_eq k hm p1 rfl p2 p3 p4]
 ·obtain ⟨a0, a1, a2, a3⟩ := h3 k
  obtain ⟨p2, p3, p4⟩ := bS6 hpt k
  obtain ⟨m, hm⟩ : ∃ m : Nat, s.target = m := ⟨s.target.toNat, by omega⟩
  have ht : P2 s ++ r = UInt8.ofNat (80 + m) :: ([91] ++ (c8 s.index ++ ([93, 58, 61] ++ (c8 s.value ++ ([59] ++ r))))) := by
   rw [v6, stT, if_neg (by omega), if_neg (by omega), if_pos k, hm]; simp
  obtain ⟨f1, f2, f3, f4, f5, f6, f7⟩ := bG8 ⟨m, by omega⟩
  simp only at f1 f2 f3 f4 f5 f6 f7
  rw [ht, if_neg (by simp [O9, f7]), if_neg (by simp [O9, iSF.repL, f6]), ah7 f4]
  dsimp only
  rw [f2, f3, if_neg (by decide), if_pos rfl, D7, hV _ a2 ([93, 58, 61] ++ (c8 s.value ++ ([59] ++ r))) (o0 (x := 93) (by decide) _)]
  dsimp only
  rw [D7, hV _ (h4 (by omega)) ([59] ++ r) (o0 (x := 59) (by decide) r)]
  dsimp only
  rw [D7, f5, Nat.add_sub_cancel_left, b5.mk_eq k hm rfl rfl p2 p3 p4]
 ·obtain ⟨p1, p2, p3⟩ := bS5 hpt k
  have ht : P2 s ++ r = [105, 102] ++ (c8 s.value ++ ([123] ++ (c7 s.body ++ ([125] ++ ([123] ++ (c7 s.els ++ ([125] ++ r))))))) := by
   rw [v6, stT, if_neg (by omega), if_neg (by omega), if_neg (by omega), if_pos k]; simp
  rw [ht, if_pos (by simp [O9]), D7, hV _ (h4 (by omega)) ([123] ++ (c7 s.body ++ ([125] ++ ([123] ++ (c7 s.els ++ ([125] ++ r)))))) (o0 (x := 123) (by decide) _)]
  dsimp only
  rw [D7, ih s.body h6 ([125] ++ ([123] ++ (c7 s.els ++ ([125] ++ r)))) (.inr ⟨_, rfl⟩)]
  dsimp only
  rw [D7, D7, ih s.els h7 ([125] ++ r) (.inr ⟨_, rfl⟩)]
  dsimp only
  rw [D7, b5.mk_eq k p1 p2 rfl p3 rfl rfl]
 ·obtain ⟨p1, p2, p3, p4, p5, p6⟩ := bS4 hpt k
  obtain ⟨m, hm⟩ : ∃ m : Nat, s.count = m := ⟨s.count.toNat, by omega⟩
  have ht : P2 s ++ r = iSF.repL ++ (Lib.decDigits m ++ ([123] ++ (c7 s.body ++ ([125] ++ r)))) := by
   rw [v6, stT, if_neg (by omega), if_neg (by omega), if_neg (by omega), if_neg (by omega), hm]; simp [iSF.repL]
  rw [ht, if_neg (by simp [O9, iSF.repL]), if_pos (by simp [O9]), D7, bm9 (by omega) (r := [123] ++ (c7 s.body ++ ([125] ++ r))) (o0 (x := 123) (by decide) _)]
  dsimp only
  rw [D7, ih s.body h6 ([125] ++ r) (.inr ⟨_, rfl⟩)]
  dsimp only
  rw [D7, b5.mk_eq k p1 p2 p3 hm rfl p4]
 obtain ⟨a0, a1⟩ := h2 (.inr k)
 obtain ⟨p1, p2, p3, p4⟩ := a74 hpt (.inr k)
 obtain ⟨m, hm⟩ : ∃ m : Nat, s.target = m := ⟨s.target.toNat, by omega⟩
 have ht : P2 s ++ r = UInt8.ofNat (97 + m) :: ([33, 61] ++ (c8 s.value ++ ([59] ++ r))) := by
  rw [v6, stT, if_neg (by omega), if_pos k, hm]; simp
 obtain ⟨f1, f2, f3, f4, f5, -⟩ := bh8 ⟨m, by omega⟩
 simp only at f1 f2 f3 f4 f5
 rw [ht, if_neg (by simp [O9]), if_neg (by simp [O9, iSF.repL, f5]), ah7 f3]
 dsimp only
 rw [f2, if_pos rfl, show F8 ([33, 61] ++ (c8 s.value ++ ([59] ++ r)), false) = 33 from T3, if_pos rfl, D7, hV _ (h4 (by omega)) ([59] ++ r) (o0 (x := 59) (by decide) r)]
 dsimp only
 rw [D7, f4, Nat.add_sub_cancel_left, b5.mk_eq k hm p1 rfl p2 p3 p4]
mutual
theorem bq1 (nv na : Nat) (hnv : nv <= 12) (hna : na <= 2) : ∀ (f d : Nat), d <= f -> ∀ (s : b5), j4 nv na (d + 1) s = true -> ∀ (r : List UInt8), A0 f (P2 s ++ r, false) = (s, (r, false))
 | f, d, hd, s, h, r => by
  rw [S5]
  exact bM3 nv na d hnv hna (B9 f) (fun ss hs r hr => bq2 nv na hnv hna f d hd ss hs r hr) s h r
termination_by f => (f, 1)
theorem bq2 (nv na : Nat) (hnv : nv <= 12) (hna : na <= 2) : ∀ (f d : Nat), d <= f -> ∀ (ss : List b5), (∀ s ∈ ss, j4 nv na d s = true) -> ∀ (r : List UInt8), aG1 r -> B9 f (c7 ss ++ r, false) = (ss, (r, false))
 | f, 0, hd, [], hs, r, hr => by
  cases f with
  | zero =>
   rw [B9, iS0, if_neg]
   ·rfl
   rintro ⟨h1, h2, h3⟩
   rcases hr with rfl | ⟨t, rfl⟩
   ·exact h2 rfl
   exact h3 T3
  | succ f =>
   rw [B9]
   exact a13 nv na 0 f hnv hna (fun s h r => bq1 nv na hnv hna f 0 (by omega) s h r) [] (fun s h => by cases h) r hr [] _ (by simp)
 | f, 0, hd, s :: ss, hs, r, hr => by have := hs s b72; simp [j4] at this
 | 0, d + 1, hd, ss, hs, r, hr => by omega
 | f + 1, d + 1, hd, ss, hs, r, hr => by
  rw [B9]
  have h1 := a55 hnv hna ss hs
  exact a13 nv na d f hnv hna (fun s h r => bq1 nv na hnv hna f d (by omega) s h r) ss hs r hr [] _ (by simp; omega)
termination_by f => (f, 0)
end
theorem aT0 {p : j0} (h : o6 p = true) : B9 5 (c7 p.body, false) = (p.body, ([], false)) := by
 unfold o6 at h
 simp only [b57, decide_eq_true_eq] at h
 obtain ⟨⟨h1, h2⟩, h3⟩ := h
 unfold C9 at h1
 simp only [b57, decide_eq_true_eq] at h1
 have := bq2 p.vars.length p.arrays.length (by omega) (by omega) 5 5 (b71 _) p.body (fun s hs => b68.1 h2 s hs) [] (.inl rfl)
 simpa using this
end Go.Proofs.YtompcdbfongedaaGreatDoor

namespace Go.Proofs.YtompcdbfongedaaGreatDoor
open Go Go.RowKit
abbrev rdB (s : List UInt8) (b : Bool) : It := .box [.v (.string (b6 s)), .v (.bool b)]
abbrev uA (x : UInt8) : AV := .v (.int .u8 (x.toNat : Int))
section
variable {s u : List UInt8} {b : Bool} {x : UInt8} {k : Nat}
def cpI (s u : List UInt8) : List UInt8 := if O9 s u then s.drop u.length else s
theorem b13 (h : ((b6 s).toList == (⟨#[]⟩ : ByteArray).toList) = true) : F8 (s, b) = 0 := by
 have : s = [] := by rw [show (⟨#[]⟩ : ByteArray) = b6 [] from rfl, C0, C0] at h; exact eq_of_beq h
 unfold F8; rw [if_pos (.inr this)]
theorem b12 (h : b = false) (h1 : ((b6 s).toList == (⟨#[]⟩ : ByteArray).toList) = false) : F8 (s, b) = s.getD 0 0 := by
 have : s ≠ [] := O5 h1
 unfold F8; rw [if_neg (by simp [h, this])]
theorem bI9 (h1 : ((b6 s).toList == (⟨#[]⟩ : ByteArray).toList) = false) : 0 < s.length := List.length_pos_iff.2 (O5 h1)
theorem bV0 (h : ¬ u.length <= s.length) : O9 s u = false := by
 unfold O9
 rw [beq_eq_false_iff_ne]
 intro e
 have := congrArg List.length e
 rw [List.length_take] at this; omega
theorem b40 (h : u.length <= s.length) : O9 s u = ((ByteArray.extract (b6 s) 0 u.length).toList == (b6 u).toList) := by
 rw [L9, C0, C0, List.drop_zero]; rfl
theorem b45 (h : O9 s u = true) : cpI s u = s.drop u.length := by unfold cpI; rw [if_pos h]
theorem b46 (h : O9 s u = false) : cpI s u = s := by unfold cpI; rw [h]; rfl
theorem bM4 (h : O9 s u = true) : u.length <= s.length := by
 rcases b86 s.length u.length with h1 | h1
 ·rw [bV0 (by omega)] at h; cases h
 exact h1
theorem bs5 (h : u.length <= s.length) : ByteArray.extract (b6 s) u.length s.length = b6 (s.drop u.length) := by
 rw [L9, List.take_length]
theorem bW3 : ByteArray.extract (b6 s) 1 s.length = b6 (s.drop 1) := by
 rw [L9, List.take_length]
theorem bD4 : (c6 (s, b) u).1 = cpI s u := by unfold c6 cpI; split <;> rfl
theorem bD3 : (c6 (s, b) u).2 = (b || !O9 s u) := by unfold c6; split <;> simp [*]
theorem bJ8 (h : F8 (s, b) = 0) : d9 (s, b) = (0, (s, true)) := by unfold d9; rw [if_pos h]
theorem bJ9 (h : ¬ F8 (s, b) = 0) : d9 (s, b) = (F8 (s, b), (s.drop 1, b)) := by unfold d9; rw [if_neg h]
theorem aX2 (h : ((x.toNat : Nat) : Int) = 0) : x = 0 := UInt8.toNat_inj.1 (by rw [show (0 : UInt8).toNat = 0 from rfl]; omega)
theorem bv0 (h : ¬ ((x.toNat : Nat) : Int) = 0) : ¬ x = 0 := fun e => h (by rw [e]; rfl)
theorem bK2 (h : ¬ F8 (s, b) = 0) : 0 < s.length /\ b = false := by
 unfold F8 at h
 split at h
 ·exact absurd rfl h
 rename_i h1
 simp only [not_or, Bool.not_eq_true] at h1
 exact ⟨List.length_pos_iff.2 h1.2, h1.1⟩
theorem bM5 {ls : List UInt8} (hk : k < ls.length) (h : F4 x ls 0 = F4 x (ls.drop k) k) (he : ((ls.getD k 0).toNat : Int) = ((x.toNat : Nat) : Int)) : F4 x ls 0 = k := by
 rw [h, List.drop_eq_getElem_cons hk, F4, if_pos]
 rw [m9 hk] at he
 exact UInt8.toNat_inj.1 (by omega)
theorem bz4 {ls : List UInt8} (hk : k < ls.length) (h : F4 x ls 0 = F4 x (ls.drop k) k) (he : ¬ ((ls.getD k 0).toNat : Int) = ((x.toNat : Nat) : Int)) : F4 x ls 0 = F4 x (ls.drop (k + 1)) (k + 1 : Nat) := by
 rw [h, List.drop_eq_getElem_cons hk, F4, if_neg]
 ·rfl
 rw [m9 hk] at he
 exact fun e => he (by rw [e])
end
theorem bf0 (x : UInt8) : j1.ok Tryz.prog (F9 43 [uA x] [] (iA (Y2 x))) := by
  refine D2 13 Tryz.func43 [] [(0, .v (.int .u8 (x.toNat : Int)))] fun G => ?_; refine wp_seq (j3 G d7 [(2, iA 0)] fun G => b0 (wp_seq (wp_seq (A4 G d7 [(0, .v (.int .u8 (x.toNat : Int))), (2, iA 0), (3, iA 0)] fun G => b0 (wp_block ?_))))); refine x4 (κ := Nat) (fun k => k <= 4 /\ F4 x [76, 72, 85, 88] 0 = F4 x (([76, 72, 85, 88] : List UInt8).drop k) k) (fun k => 4 - k) (fun k => []) (fun k => [(0, .v (.int .u8 (x.toNat : Int))), (2, iA 0), (3, iA k)]) 0 (⟨b92 _, rfl⟩) (w6.at G _ _) ?_; clear G; intro k ρ a w hp G; refine wp_seq (wp_seq (j3 G d7 [(5, bA (decide ((k : Int) <= 3)))] fun G => b0 (S9 G (fun h0 q0 => ?_) fun h0 q0 => ?_)))
  · refine wp_exit (p8 (p8 (p7 (b0 (wp_seq (j3 G d7 [(2, iA (-1))] fun G => b0 (wp_ret ?_))))))); exact rxI (-1) G [] (bL4 (by omega) hp.2)
  refine wp_skip (b0 (wp_seq (wp_block (wp_seq (G7 G d7 [(11, bA (((([76, 72, 85, 88] : List UInt8).getD k 0).toNat : Int) == (x.toNat : Int)))] [(0 : Int) <= (k : Int), (k : Int) < ((ByteArray.mk #[(76 : UInt8), (72 : UInt8), (85 : UInt8), (88 : UInt8)]).size : Int)] ⟨(by omega), (by simp only [i7, b62, b58, b60]; omega), b70⟩ fun G => b0 (rcE (u := (([(76 : UInt8), (72 : UInt8), (85 : UInt8), (88 : UInt8)].getD k (0 : UInt8)).toNat : Int)) (v := (x.toNat : Int)) G (fun h1 q1 => ?_) fun h1 q1 => ?_))))))
  · refine wp_skip (o9 (b0 (G7 G d7 [(3, iA ((k : Int) + 1))] [wO ((k : Int) + 1)] (o1 (by omega)) fun G => b0 ?_))); exact Z9 G (k + 1) (⟨by omega, bz4 (ls := [76, 72, 85, 88]) (by simp; omega) hp.2 (by assumption)⟩) (by omega) []
  refine wp_seq (j3 G d7 [(2, iA k)] fun G => b0 (wp_ret (A2 (j2 (j2 (A2 (j2 ?_))))))); exact rxI ((k : Int)) G [] (bM5 (ls := [76, 72, 85, 88]) (by simp; omega) hp.2 (by assumption))
theorem ag7 (t : List UInt8) (hs : t.length <= 100000000) : j1.ok Tryz.prog ⟨18, [tA t], [], [dI (L5 t).1], .tup [.ref 0, bA (L5 t).2]⟩ := by
  have hz : (b6 t).size = t.length := rfl; refine D2 26 Tryz.func18 [] [(0, .v (.string (b6 t)))] fun G => ?_; refine wp_seq (j3 G d7 [(2, .v (.slice none 0 0)), (3, bA false)] fun G => b0 (wp_seq (j5 G d7 [0] [.row 3 (D.ints [])] [(0, .v (.string (b6 t))), (2, .v (.slice none 0 0)), (3, bA false), (4, .ref 0)] fun G => b0 (wp_seq (wp_seq (A4 G d7 [(0, .v (.string (b6 t))), (2, .v (.slice none 0 0)), (3, bA false), (4, .ref 0), (5, iA 0)] fun G => b0 (wp_block ?_))))))); refine x4 (κ := Nat) (fun k => k <= t.length /\ (t.take k).all lbG = true) (fun k => t.length - k) (fun k => [.row 3 (.ints ((t.take k).map Y2))]) (fun k => [(0, .v (.string (b6 t))), (2, .v (.slice none 0 0)), (3, bA false), (4, .ref 0), (5, iA k)]) 0 (⟨b92 _, rfl⟩) (w6.at G _ _) ?_; clear G; intro k ρ a w hp G; replace G := w6.at G [.row 3 (D.ints (b88 Y2 (b63 k t)))] [(0, .v (.string (b6 t))), (2, .v (.slice none 0 0)), (3, bA false), (4, .ref 0), (5, iA k)]; refine wp_seq (wp_seq (j3 G d7 [(11, bA (decide ((k : Int) < ((b6 t).size : Int))))] fun G => b0 (S9 G (fun h0 q0 => ?_) fun h0 q0 => ?_)))
  · refine wp_exit (p8 (p8 (p7 (b0 (wp_seq (A4 G d7 [(2, .ref 0), (3, bA true)] fun G => b0 (wp_ret ?_))))))); obtain ⟨ρ, G⟩ := G.frz [.row 3] [dI (b88 Y2 (b63 k t))] [(2, .ref 0), (3, bA true)]; exact E0 (.tup [.ref 0, bA true]) G [0] (by have e1 : ((L5 t).snd : Bool) = (true) := (by rw [aJ7 (k := k) (by omega) hp.2]); (first | rw [e1] | simp only [e1]) <;> rfl) (by show _ = mR [0] [dI (L5 t).fst]; have e1 : ((L5 t).fst : List Int) = (b88 Y2 (b63 k t)) := (by rw [aJ7 (k := k) (by omega) hp.2]); (first | rw [e1] | simp only [e1]) <;> rfl)
  refine wp_skip (b0 (wp_seq (wp_block (wp_seq (G7 G (n4 3 [] (bf0 ((b6 t).data.toList.getD k 0))) [(6, iA (Y2 ((b6 t).data.toList.getD k 0)))] [(0 : Int) <= (k : Int), (k : Int) < ((b6 t).size : Int)] ⟨(by omega), (by assumption), b70⟩ fun G => b0 (wp_seq (wp_seq (j3 G d7 [(19, bA (decide (Y2 ((b6 t).data.toList.getD k 0) < 0)))] fun G => b0 (S9 (p := Y2 ((b6 t).data.toList.getD k (0 : UInt8)) < 0) G (fun h1 q1 => ?_) fun h1 q1 => ?_)))))))))
  · refine wp_skip (b0 (G8 G d7 [25] [.row 3 (D.ints (b88 Y2 (b63 k t) ++ ([Y2 ((b6 t).data.toList.getD k 0)] ++ [])))] [(0, .v (.string (b6 t))), (2, .v (.slice none 0 0)), (3, bA false), (4, .ref 0), (5, iA k)] (aP ((b88 Y2 (b63 k t)).length + ([Y2 ((b6 t).data.toList.getD k (0 : UInt8))] ++ []).length) 8 []) (aK (by simp only [b69, List.length_map, List.length_take, b58, b60]; omega) b70) fun G => o9 (b0 (G7 G d7 [(5, iA ((k : Int) + 1))] [wO ((k : Int) + 1)] (o1 (by omega)) fun G => b0 ?_)))); exact Z9 G (k + 1) (⟨by omega, a77 (by omega) hp.2 (by assumption)⟩) (by omega) [0] (by have e1 : (b88 Y2 (b63 (k + 1) t) : List Int) = (b88 Y2 (b63 k t) ++ ([Y2 ((b6 t).data.toList.getD k 0)] ++ [])) := ((bm1 (by omega)).symm); (first | rw [e1] | simp only [e1]) <;> rfl)
  refine wp_seq (j5 G d7 [0, 1] [.row 3 (D.ints (b88 Y2 (b63 k t))), .row 3 (D.ints [])] [(0, .v (.string (b6 t))), (2, .ref 1), (3, bA false), (4, .ref 0), (5, iA k), (6, iA (Y2 ((b6 t).data.toList.getD k 0)))] fun G => b0 (wp_ret (j2 (A2 (j2 (j2 (A2 (j2 ?_)))))))); obtain ⟨ρ, G⟩ := G.frz [.no, .row 3] [.row 3 (D.ints (b88 Y2 (b63 k t))), dI []] [(0, .v (.string (b6 t))), (2, .ref 1), (3, bA false), (4, .ref 0), (5, iA k), (6, iA (Y2 ((b6 t).data.toList.getD k 0)))]; exact E0 (.tup [.ref 1, bA false]) G [1] (by have e1 : ((L5 t).snd : Bool) = (false) := (by rw [aJ6 (k := k) (by omega) (by assumption)]); (first | rw [e1] | simp only [e1]) <;> rfl) (by show _ = mR [1] [dI (L5 t).fst]; have e1 : ((L5 t).fst : List Int) = ([]) := (by rw [aJ6 (k := k) (by omega) (by assumption)]); (first | rw [e1] | simp only [e1]) <;> rfl)
theorem bi3 {x y : UInt8} (h : (x.toNat : Int) = (y.toNat : Nat)) : x = y := UInt8.toNat_inj.1 (by omega)
theorem bi2 {x y : UInt8} (h : ¬ (x.toNat : Int) = (y.toNat : Nat)) : ¬ x = y := fun e => h (by rw [e])
theorem bW4 {c : UInt8} {t : List UInt8} {k : Nat} (h : (k : Int) = t.length \/ t.getD k 0 = c) : (P8 c t k).1.map b6 ++ [ByteArray.extract (b6 t) (P8 c t k).2 k] = (P8 c t (k + 1)).1.map b6 := by
 rw [aU5 h, List.map_append, L9]; rfl
abbrev aN5 (t : List UInt8) (c : UInt8) (r0 : List (Nat × AV)) : List (Nat × AV) := (0, .v (.string (b6 t))) :: (1, .v (.int .u8 (c.toNat : Int))) :: (4, .v (.slice none 0 0)) :: (5, .ref 0) :: r0
theorem aV3 (t : List UInt8) (c : UInt8) (hs : t.length <= 100000000) : j1.ok Tryz.prog ⟨17, [tA t, uA c], [], [.dat (.strs ((E6 c [] t).map b6))], .ref 0⟩ := by
  have hz : (b6 t).size = t.length := rfl; refine D2 36 Tryz.func17 [] [(0, .v (.string (b6 t))), (1, .v (.int .u8 (c.toNat : Int)))] fun G => ?_; refine wp_seq (j3 G d7 [(4, .v (.slice none 0 0))] fun G => b0 (wp_seq (j5 G d7 [0] [.row 9 (D.strs [])] (aN5 t c []) fun G => b0 (wp_seq (j3 G d7 [(6, iA 0)] fun G => b0 (wp_seq (wp_seq (A4 G d7 (aN5 t c [(6, iA 0), (7, iA 0)]) fun G => b0 (wp_block ?_))))))))); refine x4 (κ := Nat) (fun k => k <= t.length + 1) (fun k => t.length + 1 - k) (fun k => [.row 9 (.strs ((P8 c t k).1.map b6))]) (fun k => [(0, .v (.string (b6 t))), (1, .v (.int .u8 (c.toNat : Int))), (4, .v (.slice none 0 0)), (5, .ref 0), (6, iA (P8 c t k).2), (7, iA k)]) 0 (by omega) (w6.at G _ _) ?_; clear G; intro k ρ a w hp G; replace G := w6.at G [.row 9 (D.strs (b88 b6 (P8 c t k).fst))] (aN5 t c [(6, iA ((P8 c t k).snd : Int)), (7, iA k)]); have hcu := bs7 (c := c) (t := t) (k := k); refine wp_seq (wp_seq (j3 G d7 [(12, bA (decide ((k : Int) <= ((b6 t).size : Int))))] fun G => b0 (S9 G (fun h0 q0 => ?_) fun h0 q0 => ?_)))
  · refine wp_exit (p8 (p8 (p7 (b0 (wp_seq (A4 G d7 [(4, .ref 0)] fun G => b0 (wp_ret ?_))))))); obtain ⟨ρ, G⟩ := G.frz [.row 9] [.dat (D.strs (b88 b6 (P8 c t k).fst))] [(4, .ref 0)]; exact H9 G [0] (by show _ = mR [0] [.dat (D.strs (b88 b6 (E6 c [] t)))]; have e1 : (b88 b6 (E6 c [] t) : List ByteArray) = (b88 b6 (P8 c t k).fst) := (by rw [<- bA2, show k = t.length + 1 by omega]); (first | rw [e1] | simp only [e1]) <;> rfl)
  refine wp_skip (b0 (wp_seq (wp_block (wp_seq ?_)))); cases h1 : ((k : Int) == ((b6 t).size : Int))
  ·
   have q1 := ne_of_beq_false h1; refine G7 G (y7 (fc h1 fz) (us [(5, 9, 0), (1010, 1010, 0)])) [(25, bA ((((b6 t).data.toList.getD k 0).toNat : Int) == (c.toNat : Int)))] [(0 : Int) <= (k : Int), (k : Int) < ((b6 t).size : Int)] ⟨(by omega), (by omega), b70⟩ fun G => b0 (rcE (u := (((b6 t).data.toList.getD k (0 : UInt8)).toNat : Int)) (v := (c.toNat : Int)) G (fun h2 q2 => ?_) fun h2 q2 => ?_)
   · refine wp_skip (o9 (b0 (G7 G d7 [(7, iA ((k : Int) + 1))] [wO ((k : Int) + 1)] (o1 (by omega)) fun G => b0 ?_))); exact Z9 G (k + 1) (by omega) (by omega) [0] (by have e1 : (b88 b6 (P8 c t (k + 1)).fst : List ByteArray) = (b88 b6 (P8 c t k).fst) := (by rw [bs6 (by omega) (bi2 (by assumption))]); (first | rw [e1] | simp only [e1]) <;> rfl) (ht := by have e1 : (((P8 c t (k + 1)).snd : Int) : Int) = (((P8 c t k).snd : Int)) := (by rw [bs6 (by omega) (bi2 (by assumption))]); (first | rw [e1] | simp only [e1]) <;> rfl)
   refine wp_seq (G8 G d7 [49] [.row 9 (D.strs (b88 b6 (P8 c t k).fst ++ ([(b6 t).extract (P8 c t k).snd k] ++ [])))] (aN5 t c [(6, iA ((P8 c t k).snd : Int)), (7, iA k)]) (((0 : Int) <= ((P8 c t k).snd : Int)) :: ((((P8 c t k).snd : Int) <= (k : Int)) :: (((k : Int) <= ((b6 t).size : Int)) :: (aP ((b88 b6 (P8 c t k).fst).length + ([(b6 t).extract (P8 c t k).snd k] ++ []).length) 16 [])))) ⟨(by omega), ⟨(by omega), ⟨(by assumption), (aK (by simp only [b69, List.length_map, b58, b60]; omega) b70)⟩⟩⟩ fun G => b0 (G7 G d7 [(6, iA ((k : Int) + 1))] [wO ((k : Int) + 1)] (o1 (by omega)) fun G => o9 (b0 (G7 G d7 [(7, iA ((k : Int) + 1))] [wO ((k : Int) + 1)] (o1 (by omega)) fun G => b0 ?_)))); exact Z9 G (k + 1) (by omega) (by omega) [0] (by have e1 : (b88 b6 (P8 c t (k + 1)).fst : List ByteArray) = (b88 b6 (P8 c t k).fst ++ ([(b6 t).extract (P8 c t k).snd k] ++ [])) := ((bW4 (.inr (bi3 (by assumption)))).symm); (first | rw [e1] | simp only [e1]) <;> rfl) (ht := by have e1 : (((P8 c t (k + 1)).snd : Int) : Int) = ((k : Int) + 1) := (by rw [aU5 (.inr (bi3 (by assumption)))]; show ((k + 1 : Nat) : Int) = _; omega); (first | rw [e1] | simp only [e1]) <;> rfl)
  have q1 := eq_of_beq h1; refine j3 G (y7 (fc h1 fz) (us [(5, 9, 0), (1010, 1010, 0)])) [(25, bA true)] fun G => b0 (rT G true (by kernel_rfl) (wp_seq (G8 G d7 [49] [.row 9 (D.strs (b88 b6 (P8 c t k).fst ++ ([(b6 t).extract (P8 c t k).snd k] ++ [])))] (aN5 t c [(6, iA ((P8 c t k).snd : Int)), (7, iA k)]) (((0 : Int) <= ((P8 c t k).snd : Int)) :: ((((P8 c t k).snd : Int) <= (k : Int)) :: (((k : Int) <= ((b6 t).size : Int)) :: (aP ((b88 b6 (P8 c t k).fst).length + ([(b6 t).extract (P8 c t k).snd k] ++ []).length) 16 [])))) ⟨(by omega), ⟨(by omega), ⟨(by assumption), (aK (by simp only [b69, List.length_map, b58, b60]; omega) b70)⟩⟩⟩ fun G => b0 (G7 G d7 [(6, iA ((k : Int) + 1))] [wO ((k : Int) + 1)] (o1 (by omega)) fun G => o9 (b0 (G7 G d7 [(7, iA ((k : Int) + 1))] [wO ((k : Int) + 1)] (o1 (by omega)) fun G => b0 ?_)))))); exact Z9 G (k + 1) (by omega) (by omega) [0] (by have e1 : (b88 b6 (P8 c t (k + 1)).fst : List ByteArray) = (b88 b6 (P8 c t k).fst ++ ([(b6 t).extract (P8 c t k).snd k] ++ [])) := ((bW4 (.inl (by omega))).symm); (first | rw [e1] | simp only [e1]) <;> rfl) (ht := by have e1 : (((P8 c t (k + 1)).snd : Int) : Int) = ((k : Int) + 1) := (by rw [aU5 (.inl (by omega))]; show ((k + 1 : Nat) : Int) = _; omega); (first | rw [e1] | simp only [e1]) <;> rfl)
end Go.Proofs.YtompcdbfongedaaGreatDoor

namespace Go.Proofs.YtompcdbfongedaaGreatDoor
open Go
theorem aX6 (k n : Int) (ks : List b7) : L8 ⟨k, n, ks⟩ = s2 ks := rfl
theorem ax1 (s : List UInt8) : ∀ (d : Nat) (n : Int), L8 (pE s d n).1 <= 6 ^ d
 | 0, n => b92 _
 | d + 1, n => by
  have hp : 1 <= 6 ^ d := Nat.one_le_pow _ _ (by omega)
  have hq : 6 ^ (d + 1) = 6 * 6 ^ d := by rw [Nat.pow_succ]; omega
  have h1 := ax1 s d (d8 s (n + 1) [91])
  have a1 : L8 (pe1 s d n).1 <= 6 ^ d := ax1 s d _
  have a2 : L8 (pe2 s d n).1 <= 6 ^ d := ax1 s d _
  have a3 : L8 (pe3 s d n).1 <= 6 ^ d := ax1 s d _
  have a4 : L8 (pe4 s d n).1 <= 6 ^ d := ax1 s d _
  by_cases h0 : n < 0
  ·rw [ao3 h0]; exact b92 _
  by_cases h : s6 s n [97, 98, 99, 100, 101, 102, 103, 104, 105, 106, 107, 108] >= 0
  ·rw [ao0 h0 h]; exact b92 _
  by_cases h2 : s6 s n [80, 81] >= 0
  ·rw [ao6 h0 h h2, aX6]; simp only [s2]; omega
  cases h3 : t7 s n [40] with
  | false => rw [ao2 h0 h h2 h3]; exact b92 _
  | true =>
   cases h4 : t7 s (pe1 s d n).2 [63] with
   | true => rw [ao1 h0 h h2 h3 h4, aX6]; simp only [s2]; omega
   | false =>
    by_cases h5 : s6 s (pe1 s d n).2 [43, 45, 42, 38, 94, 61, 60] < 0
    ·rw [ao5 h0 h h2 h3 h4 h5]; exact b92 _
    rw [ao4 h0 h h2 h3 h4 h5, aX6]; simp only [s2]; omega
theorem aK3 (s : List UInt8) (n : Int) : L8 (pE s 5 n).1 <= 7776 := ax1 s 5 n
theorem bJ1 (s : List UInt8) (n : Int) : L8 (pE s 1 n).1 <= 6 := ax1 s 1 n
theorem bi7 (a b : List b5) : p9 (a ++ b) = p9 a + p9 b := by
 induction a with
 | nil => simp [p9]
 | cons x r ih => simp [p9, ih]; omega
theorem aZ5 (s : List UInt8) (R : Int -> b5 × Int) (Q : Nat) (hR : ∀ n, szS (R n).1 <= Q) : ∀ (f : Nat) (x : List b5 × Int), p9 (pBk s R f x).1 <= p9 x.1 + f * (1 + Q)
 | 0, x => by simp [pBk]
 | f + 1, x => by
  have h1 : p9 (x.1 ++ [(R x.2).1]) <= p9 x.1 + (1 + Q) := by
   rw [bi7]
   simp only [p9]
   have := hR x.2
   omega
  have hq : (f + 1) * (1 + Q) = f * (1 + Q) + (1 + Q) := b90 _ _
  rw [pBk]
  split
  ·split
   ·show p9 (x.1 ++ [(R x.2).1]) <= _
    omega
   have h2 := aZ5 s R Q hR f (x.1 ++ [(R x.2).1], (R x.2).2)
   simp only at h2
   omega
  omega
def qS : Nat -> Nat
 | 0 => 0
 | d + 1 => 2 * 7776 + 2 * (61 * (1 + qS d))
theorem an5 (k t c : Int) (i v : b7) (b e : List b5) : szS ⟨k, t, i, v, c, b, e⟩ = L8 i + L8 v + p9 b + p9 e := rfl
theorem bm2 (s : List UInt8) : ∀ (d : Nat) (n : Int), szS (A5 s d n).1 <= qS d
 | 0, n => b92 _
 | d + 1, n => by
  have hB : ∀ n, p9 (C2 s d n).1 <= 61 * (1 + qS d) := fun n => by
   have := aZ5 s (A5 s d) (qS d) (bm2 s d) 61 ([], n)
   have h2 : p9 (C2 s d n).1 <= p9 [] + 61 * (1 + qS d) := this
   simpa [p9] using h2
  have z : L8 zE = 0 := rfl
  have b2 : p9 (pi2 s d n).1 <= 61 * (1 + qS d) := hB _
  have b3 : p9 (pi3 s d n).1 <= 61 * (1 + qS d) := hB _
  have b4 : p9 (pr2 s d n).1 <= 61 * (1 + qS d) := hB _
  have e1 : L8 (pi1 s n).1 <= 7776 := aK3 s _
  have e2 : L8 (pa1 s n).1 <= 6 := bJ1 s _
  have e3 : L8 (pa2 s n).1 <= 7776 := aK3 s _
  have e4 : L8 (pl1 s n).1 <= 7776 := aK3 s _
  have e5 : L8 (pl2 s n).1 <= 7776 := aK3 s _
  rw [qS]
  cases h : t7 s n [105, 102] with
  | true => rw [ac1 h, an5]; omega
  | false =>
   cases h1 : t7 s n [114, 101, 112, 101, 97, 116] with
   | true => rw [ab8 h h1, an5]; simp only [p9]; omega
   | false =>
    by_cases h2 : s6 s n [80, 81] >= 0
    ·rw [ab7 h h1 h2, an5]; simp only [p9]; omega
    by_cases h3 : s6 s n [97, 98, 99, 100, 101, 102, 103, 104, 105, 106, 107, 108] < 0
    ·rw [ac0 h h1 h2 h3, an5]; simp only [p9]; omega
    cases h4 : t7 s (n + 1) [33, 61] with
    | true => rw [ab9 h h1 h2 h3 h4, an5]; simp only [p9]; omega
    | false => rw [ac2 h h1 h2 h3 h4, an5]; simp only [p9]; omega
theorem bJ2 (s : List UInt8) (n : Int) : p9 (C2 s 5 n).1 <= 1000000000000000000 := by
 have := aZ5 s (A5 s 5) (qS 5) (bm2 s 5) 61 ([], n)
 have h : qS 5 <= 1000000000000000 := by decide
 simp only [p9] at this
 unfold C2
 omega
theorem aR7 {m : Nat} (h : m < 1000) : (47 : UInt8) ∉ Lib.decDigits m := fun hm => by
 have := (bu2 h).2 47 hm
 exact absurd this (by decide)
theorem bi0 : ∀ v : Fin 12, UInt8.ofNat (97 + v) ≠ 47 := by decide +kernel
theorem bH0 : ∀ v : Fin 2, UInt8.ofNat (80 + v) ≠ 47 := by decide +kernel
theorem bT3 : ∀ k : Fin 7, s3 (4 + k) ≠ 47 := by decide +kernel
theorem bn1 (nv na : Nat) (hnv : nv <= 12) (hna : na <= 2) : ∀ (d : Nat) (e : b7), j6 nv na d e = true -> (47 : UInt8) ∉ c8 e
 | 0, e, h => by simp [j6] at h
 | d + 1, e, h => by
  have hk := (J1 h).2
  have hn : B4 nv na e = true := by
   unfold j6 at h
   simp only [b57] at h
   exact h.1.1
  obtain ⟨hl, hv0, hvl⟩ := I8 hn
  have ih : ∀ i, (47 : UInt8) ∉ (e.kids.map c8).getD i [] := by
   intro i
   rw [b59, b78]
   cases hi : e.kids[i]? with
   | none => simp
   | some x => exact bn1 nv na hnv hna d x (hk x (b79 hi))
  have h0 := ih 0
  have h1 := ih 1
  have h2 := ih 2
  have hK : e.kind = 1 \/ e.kind = 2 \/ e.kind = 3 \/ (4 <= e.kind /\ e.kind <= 10) \/ e.kind = 11 := by
   unfold j9 at hl
   split at hl
   ·omega
   split at hl
   ·omega
   split at hl
   ·omega
   split at hl <;> omega
  rw [W2, as0]
  split
  ·rename_i k
   rw [k] at hvl
   have : e.value < 256 := by simpa [y6] using hvl
   exact aR7 (by omega)
  split
  ·rename_i k1 k
   rw [k] at hvl
   have : e.value < nv := by simpa [y6] using hvl
   have := bi0 ⟨e.value.toNat, by omega⟩
   rw [List.mem_singleton]; exact fun h => this h.symm
  split
  ·rename_i k1 k2 k
   rw [k] at hvl
   have : e.value < na := by simpa [y6] using hvl
   have := bH0 ⟨e.value.toNat, by omega⟩
   simp only [b73, b76, b98, or_false, not_or]
   exact ⟨⟨⟨fun h => this h.symm, by decide⟩, h0⟩, by decide⟩
  split
  ·simp only [b73, b76, b98, or_false, not_or]
   exact ⟨⟨⟨⟨⟨⟨by decide, h0⟩, by decide⟩, h1⟩, by decide⟩, h2⟩, by decide⟩
  obtain ⟨j, hj, hj7⟩ : ∃ j : Nat, e.kind = 4 + (j : Int) /\ j < 7 := ⟨(e.kind - 4).toNat, by omega, by omega⟩
  have := bT3 ⟨j, hj7⟩
  simp only at this
  rw [<- hj] at this
  simp only [b73, b76, b98, or_false, not_or]
  exact ⟨⟨⟨⟨by decide, h0⟩, fun h => this h.symm⟩, h1⟩, by decide⟩
theorem ax6 {nv na : Nat} (hnv : nv <= 12) (hna : na <= 2) {e : b7} (h : j8 nv na e = true) : (47 : UInt8) ∉ c8 e := by
 unfold j8 at h
 simp only [b57] at h
 exact bn1 nv na hnv hna 5 e h.1
mutual
theorem bK6 (nv na : Nat) (hnv : nv <= 12) (hna : na <= 2) : ∀ (d : Nat) (s : b5), j4 nv na d s = true -> (47 : UInt8) ∉ P2 s
 | 0, s, h => by simp [j4] at h
 | d + 1, s, h => by
  obtain ⟨h1, h2, h3, h4, h5, h6, h7⟩ := z6 h
  have b1 := at6 nv na hnv hna d s.body h6
  have b2 := at6 nv na hnv hna d s.els h7
  rw [v6, stT]
  split
  ·rename_i k
   have a := h2 (.inl k)
   have := bi0 ⟨s.target.toNat, by omega⟩
   have v := ax6 hnv hna (h4 (by omega))
   simp only [b73, b76, b98, or_false, not_or]
   exact ⟨⟨⟨fun h => this h.symm, by decide, by decide⟩, v⟩, by decide⟩
  split
  ·rename_i k
   have a := h2 (.inr k)
   have := bi0 ⟨s.target.toNat, by omega⟩
   have v := ax6 hnv hna (h4 (by omega))
   simp only [b73, b76, b98, or_false, not_or]
   exact ⟨⟨⟨fun h => this h.symm, by decide, by decide⟩, v⟩, by decide⟩
  split
  ·rename_i k
   have a := h3 k
   have := bH0 ⟨s.target.toNat, by omega⟩
   have v := ax6 hnv hna (h4 (by omega))
   have i := ax6 hnv hna a.2.2.1
   simp only [b73, b76, b98, or_false, not_or]
   exact ⟨⟨⟨⟨⟨fun h => this h.symm, by decide⟩, i⟩, by decide, by decide, by decide⟩, v⟩, by decide⟩
  split
  ·have v := ax6 hnv hna (h4 (by omega))
   simp only [b73, b76, b98, or_false, not_or]
   exact ⟨⟨⟨⟨⟨⟨⟨by decide, by decide⟩, v⟩, by decide⟩, b1⟩, by decide, by decide⟩, b2⟩, by decide⟩
  have c := h5 (by omega)
  have v := aR7 (m := s.count.toNat) (by omega)
  simp only [b73, b76, b98, or_false, not_or]
  exact ⟨⟨⟨⟨⟨by decide, by decide, by decide, by decide, by decide, by decide⟩, v⟩, by decide⟩, b1⟩, by decide⟩
termination_by d s => (d, 0)
theorem at6 (nv na : Nat) (hnv : nv <= 12) (hna : na <= 2) : ∀ (d : Nat) (ss : List b5), (∀ s ∈ ss, j4 nv na d s = true) -> (47 : UInt8) ∉ c7 ss
 | _, [], _ => by simp [c7]
 | d, s :: r, h => by
  have b1 := bK6 nv na hnv hna d s (h s b72)
  have b2 := at6 nv na hnv hna d r fun x hx => h x (b80 _ hx)
  rw [c7, b73]
  exact fun h => h.elim b1 b2
termination_by d ss => (d, ss.length + 1)
end
theorem bK7 {p : j0} (h : o6 p = true) : (47 : UInt8) ∉ c7 p.body := by
 unfold o6 C9 at h
 simp only [b57, decide_eq_true_eq] at h
 exact at6 p.vars.length p.arrays.length (by omega) (by omega) 5 p.body (fun s hs => b68.1 h.1.2 s hs)
def sn1 : List UInt8 -> List UInt8 -> Option (List UInt8 × List UInt8)
 | _, [] => none
 | p, x :: r => if x = 47 then some (p, r) else sn1 (p ++ [x]) r
def sn3 (t : List UInt8) : List (List UInt8) := match sn1 [] t with
 | none => [t]
 | some (a, r) => match sn1 [] r with
  | none => [a, r]
  | some (b, q) => [a, b, q]
theorem aI9 : ∀ (a p r : List UInt8), (47 : UInt8) ∉ a -> sn1 p (a ++ 47 :: r) = some (p ++ a, r)
 | [], p, r, _ => by simp [sn1]
 | x :: a, p, r, h => by
  simp only [b76, not_or] at h
  rw [List.cons_append, sn1, if_neg (fun e => h.1 e.symm), aI9 a _ r h.2]
  simp
abbrev zP : j0 := ⟨[], [], []⟩
def spQ (a b c : List UInt8) : j0 := ⟨(L5 a).1, (L5 b).1, (C2 c 5 0).1⟩
def N1 (t : List UInt8) : j0 × Bool := match E6 47 [] t with
 | [a, b, c] => if (C2 c 5 0).2 = c.length /\ I9 (spQ a b c) = t then (spQ a b c, true) else (zP, false)
 | _ => (zP, false)
def ipQ (a b c : List UInt8) : j0 := ⟨(L5 a).1, (L5 b).1, (B9 5 (c, false)).1⟩
def N2 (t : List UInt8) : j0 × Bool := match sn3 t with
 | [a, b, c] => if (L5 a).2 = true /\ (L5 b).2 = true /\ (B9 5 (c, false)).2.2 = false /\ (B9 5 (c, false)).2.1 = [] /\ o6 (ipQ a b c) = true /\ F0 (ipQ a b c) = t then (ipQ a b c, true) else (zP, false)
 | _ => (zP, false)
theorem aR0 {p : j0} (h : o6 p = true) : E6 47 [] (F0 p) = [n5 p.vars, n5 p.arrays, c7 p.body] /\ sn3 (F0 p) = [n5 p.vars, n5 p.arrays, c7 p.body] := by
 obtain ⟨p1, p2⟩ := ah5 h
 have e : F0 p = n5 p.vars ++ 47 :: (n5 p.arrays ++ 47 :: c7 p.body) := by unfold F0; simp
 rw [e]
 refine ⟨?_, ?_⟩
 ·rw [aM3 _ _ _ (at8 p1), aM3 _ _ _ (at8 p2), bs8 _ _ (bK7 h)]; rfl
 rw [sn3, aI9 _ _ _ (at8 p1)]
 dsimp only
 rw [aI9 _ _ _ (at8 p2)]; rfl
theorem aP5 {p : j0} (h : o6 p = true) : N1 (F0 p) = (p, true) := by
 obtain ⟨p1, p2⟩ := ah5 h
 have e : spQ (n5 p.vars) (n5 p.arrays) (c7 p.body) = p := by
  unfold spQ; rw [an9 p1, an9 p2, bm4 h]
 unfold N1
 rw [(aR0 h).1]
 dsimp only
 rw [if_pos, e]
 refine ⟨by rw [bm4 h], ?_⟩
 rw [e]; unfold I9; rw [if_pos h]
theorem bp4 {p : j0} (h : o6 p = true) : N2 (F0 p) = (p, true) := by
 obtain ⟨p1, p2⟩ := ah5 h
 have e : ipQ (n5 p.vars) (n5 p.arrays) (c7 p.body) = p := by
  unfold ipQ; rw [an9 p1, an9 p2, aT0 h]
 unfold N2
 rw [(aR0 h).2]
 dsimp only
 rw [if_pos, e]
 rw [e, aT0 h, an9 p1, an9 p2]
 exact ⟨rfl, rfl, rfl, rfl, h, rfl⟩
theorem aY1 {t : List UInt8} (h : (N1 t).2 = true) : o6 (N1 t).1 = true /\ F0 (N1 t).1 = t := by
 unfold N1 at h ⊢
 split at h
 ·rename_i a b c hc
  split at h
  ·rename_i h1
   rw [if_pos h1]
   dsimp only
   have hp : o6 (spQ a b c) = true := by
    cases hp : o6 (spQ a b c) with
    | true => rfl
    | false =>
     have h2 := h1.2
     unfold I9 at h2
     rw [hp] at h2
     have h3 : t = [] := h2.symm
     rw [h3] at hc
     simp [E6] at hc
   have h2 := h1.2
   unfold I9 at h2
   rw [if_pos hp] at h2
   exact ⟨hp, h2⟩
  cases h
 cases h
theorem bL9 {t : List UInt8} (h : (N2 t).2 = true) : o6 (N2 t).1 = true /\ F0 (N2 t).1 = t := by
 unfold N2 at h ⊢
 split at h
 ·split at h
  ·rename_i h1
   rw [if_pos h1]
   exact ⟨h1.2.2.2.2.1, h1.2.2.2.2.2⟩
  cases h
 cases h
theorem bj7 {t : List UInt8} (h : (N1 t).2 = false) : N1 t = (zP, false) := by
 unfold N1 at h ⊢
 split at h
 ·split at h
  ·cases h
  rename_i h1; rw [if_neg h1]
 rfl
theorem bM0 {t : List UInt8} (h : (N2 t).2 = false) : N2 t = (zP, false) := by
 unfold N2 at h ⊢
 split at h
 ·split at h
  ·cases h
  rename_i h1; rw [if_neg h1]
 rfl
theorem aR4 (t : List UInt8) : N2 t = N1 t := by
 cases h : (N1 t).2 with
 | true =>
  obtain ⟨h1, h2⟩ := aY1 h
  have e := bp4 h1
  rw [h2] at e
  rw [e, <- h]
 | false =>
  cases h3 : (N2 t).2 with
  | true =>
   obtain ⟨h1, h2⟩ := bL9 h3
   have e := aP5 h1
   rw [h2] at e
   rw [e] at h; cases h
  | false => rw [bj7 h, bM0 h3]
end Go.Proofs.YtompcdbfongedaaGreatDoor

namespace Go.Proofs.YtompcdbfongedaaGreatDoor
open Go Go.RowKit
abbrev spC (t : List UInt8) : j1 := ⟨5, [tA t], [], [dI (N1 t).1.vars, dI (N1 t).1.arrays, dT (N1 t).1.body], .tup [.agg [.ref 0, .ref 1, .ref 2], bA (N1 t).2]⟩
section
variable {t a1 b1 c1 : List UInt8}
theorem bH6 (h : E6 47 [] t = [a1, b1, c1]) : a1.length <= t.length /\ b1.length <= t.length /\ c1.length <= t.length := by
 have key : ∀ (l p : List UInt8) (x : List UInt8), x ∈ E6 47 p l -> x.length <= p.length + l.length := by
  intro l
  induction l with
  | nil => intro p x hx; simp [E6] at hx; subst hx; simp
  | cons y r ih =>
   intro p x hx
   rw [E6] at hx
   split at hx
   ·rcases b76.1 hx with rfl | hx
    ·simp
    have := ih [] x hx; simp at this ⊢; omega
   have := ih _ x hx; simp at this ⊢; omega
 have := fun x hx => key t [] x (h ▸ hx)
 simp only [b60, b97] at this
 exact ⟨this a1 (by simp), this b1 (by simp), this c1 (by simp)⟩
theorem bP9 (h : E6 47 [] t = [a1, b1, c1]) (h1 : (C2 c1 5 0).2 = (c1.length : Int)) (h2 : ((b6 (I9 (spQ a1 b1 c1))).toList == (b6 t).toList) = true) : N1 t = (spQ a1 b1 c1, true) := by
 rw [C0, C0] at h2
 unfold N1; rw [h]
 exact if_pos ⟨h1, eq_of_beq h2⟩
theorem a65 (h : E6 47 [] t = [a1, b1, c1]) (h1 : ¬ (C2 c1 5 0).2 = (c1.length : Int)) : N1 t = (zP, false) := by
 unfold N1; rw [h]
 exact if_neg fun h2 => h1 h2.1
theorem a64 (h : E6 47 [] t = [a1, b1, c1]) (h2 : ((b6 (I9 (spQ a1 b1 c1))).toList == (b6 t).toList) = false) : N1 t = (zP, false) := by
 rw [C0, C0] at h2
 unfold N1; rw [h]
 exact if_neg fun h3 => by rw [h3.2] at h2; simp at h2
theorem a63 (h : (E6 47 [] t).length ≠ 3) : N1 t = (zP, false) := by
 unfold N1
 split
 ·rename_i e; rw [e] at h; simp at h
 rfl
end
abbrev au4 (t : List UInt8) (r0 : List (Nat × AV)) : List (Nat × AV) := (0, .v (.string (b6 t))) :: (2, .ptr 0 0) :: (3, bA false) :: (4, .ref 1) :: r0
theorem bR2 (t : List UInt8) (hs : t.length <= 100000000) (h : (E6 47 [] t).length ≠ 3) : j1.ok Tryz.prog (spC t) := by
 have hcu := aV3 t 47 hs
 have hc9 : (((E6 47 [] t).map b6).length : Int) ≠ 3 := by rw [List.length_map]; omega
 refine D2 55 Tryz.func5 [] [(0, .v (.string (b6 t)))] fun G => ?_; refine wp_seq (j5 G d7 [0] [.box [.v (.slice none 0 0), .v (.slice none 0 0), .v (.slice none 0 0)]] [(0, .v (.string (b6 t))), (2, .ptr 0 0), (3, bA false)] fun G => b0 (wp_seq (j5 G (n4 1 [] hcu) [0, 9] [.box [.v (.slice none 0 0), .v (.slice none 0 0), .v (.slice none 0 0)], .dat (D.strs (b88 b6 (E6 47 [] t)))] (au4 t []) fun G => b0 (wp_seq (wp_seq (A4 G d7 (au4 t [(11, bA (((b88 b6 (E6 47 [] t)).length : Int) != 3))]) fun G => b0 ?_)))))); cases h0 : (((b88 b6 (E6 (47 : UInt8) [] t)).length : Int) != 3)
 ·have q0 := bne_eq_false_iff_eq.1 h0; exact False.elim (by omega)
 have q0 := bne_iff_ne.1 h0; refine rT G _ h0 (wp_seq (A4 G d7 (au4 t []) fun G => b0 (wp_ret (j2 ?_)))); obtain ⟨ρ, G⟩ := G.nil 2 0 (.ints []) 1 [.box [.ref 2, .v (.slice none 0 0), .v (.slice none 0 0)], .dat (D.strs (b88 b6 (E6 47 [] t)))] (au4 t []); obtain ⟨ρ, G⟩ := G.nil 3 0 (.ints []) 1 [.box [.ref 2, .ref 3, .v (.slice none 0 0)], .dat (D.strs (b88 b6 (E6 47 [] t))), .row 0 (D.ints [])] (au4 t []); obtain ⟨ρ, G⟩ := G.nil 4 0 (.stmts []) 10 [.box (pL 2), .dat (D.strs (b88 b6 (E6 47 [] t))), .row 0 (D.ints []), .row 0 (D.ints [])] (au4 t []); obtain ⟨ρ, G⟩ := G.frz [.no, .no, .row 0, .row 0, .row 0] [.box (pL 2), .dat (D.strs (b88 b6 (E6 47 [] t))), dI [], dI [], dT []] (au4 t []); exact E0 (.tup [pA 2, bA false]) G [2, 3, 4] (by have e1 : ((N1 t).snd : Bool) = (false) := (by rw [a63 h]); (first | rw [e1] | simp only [e1]) <;> rfl) (by show _ = mR [2, 3, 4] [dI (N1 t).fst.vars, dI (N1 t).fst.arrays, dT (N1 t).fst.body]; have e1 : ((N1 t).fst.vars : List Int) = ([]) := (by rw [a63 h]); have e2 : ((N1 t).fst.arrays : List Int) = ([]) := (by rw [a63 h]); have e3 : ((N1 t).fst.body : List b5) = ([]) := (by rw [a63 h]); (first | rw [e1, e2, e3] | simp only [e1, e2, e3]) <;> rfl)
abbrev af6 : It := .box [.v (.slice none 0 0), .v (.slice none 0 0), .v (.slice none 0 0)]
abbrev Z1 (r0 : List (Nat × AV)) : List (Nat × AV) := (2, .ptr 0 0) :: (3, bA false) :: (5, .ptr 1 0) :: r0
abbrev af3 (a1 : List UInt8) (b1 : List UInt8) (c1 : List UInt8) (r0 : List It) : List It := .box (pL 2) :: dI (L5 a1).fst :: dI (L5 b1).fst :: dT (C2 c1 5 0).fst :: r0
abbrev aN3 (t : List UInt8) (r0 : List (Nat × AV)) : List (Nat × AV) := (0, .v (.string (b6 t))) :: (2, .ptr 0 0) :: (3, bA false) :: (4, .ref 1) :: (5, .ptr 2 0) :: r0
theorem bR1 (t a1 b1 c1 : List UInt8) (hs : t.length <= 100000000) (h : E6 47 [] t = [a1, b1, c1]) (hcut : j1.ok Tryz.prog ⟨17, [tA t, uA 47], [], [.dat (.strs [b6 a1, b6 b1, b6 c1])], .ref 0⟩) : j1.ok Tryz.prog (spC t) := by
  have hcu := hcut; have hlen := bH6 h
  have hfm := fun hsz => W9 (spQ a1 b1 c1) hsz
  have hz : (b6 c1).size = c1.length := rfl; refine D2 55 Tryz.func5 [] [(0, .v (.string (b6 t)))] fun G => ?_; refine wp_seq (j5 G d7 [0] [af6] [(0, .v (.string (b6 t))), (2, .ptr 0 0), (3, bA false)] fun G => b0 (wp_seq (j5 G (n4 1 [] hcu) [0, 9] [af6, .dat (D.strs [b6 a1, b6 b1, b6 c1])] [(0, .v (.string (b6 t))), (2, .ptr 0 0), (3, bA false), (4, .ref 1)] fun G => b0 (wp_seq (wp_seq (j3 G d7 [(11, bA false)] fun G => b0 (rF G false (by kernel_rfl) (wp_skip (b0 (wp_seq (j5 G d7 [0, 1, 10] [af6, .dat (D.strs [b6 a1, b6 b1, b6 c1]), af6] (aN3 t []) fun G => b0 (wp_seq (G8 G (n4 3 [] (ag7 a1 (by omega))) [0, 1, 2, 27] [af6, .dat (D.strs [b6 a1, b6 b1, b6 c1]), .box [.ref 3, .v (.slice none 0 0), .v (.slice none 0 0)], dI (L5 a1).fst] (aN3 t []) [(0 : Int) <= 0, (0 : Int) < ([b6 a1, b6 b1, b6 c1].length : Int), (0 : Nat) < [b6 a1, b6 b1, b6 c1].length] ⟨(by omega), (by simp), (by simp), b70⟩ fun G => b0 (wp_seq (G8 G (n4 3 [] (ag7 b1 (by omega))) [0, 1, 2, 3, 28] [af6, .dat (D.strs [b6 a1, b6 b1, b6 c1]), .box [.ref 3, .ref 4, .v (.slice none 0 0)], dI (L5 a1).fst, dI (L5 b1).fst] (aN3 t []) [(0 : Int) <= 1, (1 : Int) < ([b6 a1, b6 b1, b6 c1].length : Int), (1 : Nat) < [b6 a1, b6 b1, b6 c1].length] ⟨(by omega), (by simp), (by simp), b70⟩ fun G => b0 (wp_seq (j5 G d7 [0, 1, 2, 3, 4, 13] [af6, .dat (D.strs [b6 a1, b6 b1, b6 c1]), .box [.ref 3, .ref 4, .v (.slice none 0 0)], dI (L5 a1).fst, dI (L5 b1).fst, .box [.v (.string (ByteArray.mk #[])), iA 0]] (aN3 t [(6, .ptr 5 0)]) fun G => b0 (wp_seq (G8 G (n4 4 [] (bX0 c1 (by omega) 0 5 (by kernel_rfl) (by omega) (by omega))) [0, 1, 2, 3, 4, 5, 38] [af6, .dat (D.strs [b6 a1, b6 b1, b6 c1]), .box [.ref 3, .ref 4, .ref 6], dI (L5 a1).fst, dI (L5 b1).fst, .box [.v (.string (b6 c1)), iA (C2 c1 5 0).snd], dT (C2 c1 5 0).fst] (aN3 t [(6, .ptr 5 0)]) [(0 : Int) <= 2, (2 : Int) < ([b6 a1, b6 b1, b6 c1].length : Int), (2 : Nat) < [b6 a1, b6 b1, b6 c1].length] ⟨(by omega), (by simp), (by simp), b70⟩ fun G => b0 (wp_seq (wp_seq ?_))))))))))))))))))))); cases h0 : ((C2 c1 (5 : Nat) (0 : Int)).snd != (([b6 a1, b6 b1, b6 c1].getD (2 : Nat) ByteArray.empty).size : Int))
  ·
   have q0 := bne_eq_false_iff_eq.1 h0; refine B2 G (x8 (m8 9 [3, 4, 6] (hfm (bJ2 _ _)) x7) (fc h0 fz) (us [(8, 11, 0), (1012, 1012, 0)])) [0, 1, 0, 4, 12, 28, 63, 127, 255, 511, 255, 2047, 4095] [0, 2, 3, 4, 6] (af6 :: (af3 a1 b1 c1 [])) (Z1 [(52, .v (.bool !(b6 (I9 (spQ a1 b1 c1))).toList == (b6 t).toList))]) [(0 : Int) <= 2, (2 : Int) < ([b6 a1, b6 b1, b6 c1].length : Int), (2 : Nat) < [b6 a1, b6 b1, b6 c1].length] ⟨(by omega), (by simp [h0]), (by simp [h0]), b70⟩ fun G => b0 ?_; cases h1 : (!(b6 (I9 (spQ a1 b1 c1))).toList == (b6 t).toList)
   · have q1 : ((b6 (I9 (spQ a1 b1 c1))).toList == (b6 t).toList) = true := (Eq.mp (b67 _) h1); refine rF G _ h1 (wp_skip (b0 (wp_seq (j5 G d7 [0, 2, 3, 4] [.box (pL 1), dI (L5 a1).fst, dI (L5 b1).fst, dT (C2 c1 5 0).fst] [(2, .ptr 0 0), (3, bA true)] fun G => b0 (wp_ret ?_))))); exact E0 (.tup [pA 1, bA true]) G [1, 2, 3] (by have e1 : ((N1 t).snd : Bool) = (true) := (by rw [bP9 h (by assumption) (by with_reducible assumption)]); (first | rw [e1] | simp only [e1]) <;> rfl) (by show _ = mR [1, 2, 3] [dI (N1 t).fst.vars, dI (N1 t).fst.arrays, dT (N1 t).fst.body]; rw [bP9 h (by assumption) (by with_reducible assumption)] <;> rfl)
   have q1 : ((b6 (I9 (spQ a1 b1 c1))).toList == (b6 t).toList) = false := (Eq.mp (b65 _) h1); refine rT G _ h1 (wp_seq (A4 G d7 (Z1 []) fun G => b0 (wp_ret (j2 ?_)))); obtain ⟨ρ, G⟩ := G.nil 5 0 (.ints []) 1 (.box [.ref 5, .v (.slice none 0 0), .v (.slice none 0 0)] :: (af3 a1 b1 c1 [])) (Z1 []); obtain ⟨ρ, G⟩ := G.nil 6 0 (.ints []) 1 (.box [.ref 5, .ref 6, .v (.slice none 0 0)] :: (af3 a1 b1 c1 [.row 0 (D.ints [])])) (Z1 []); obtain ⟨ρ, G⟩ := G.nil 7 0 (.stmts []) 10 (.box (pL 5) :: (af3 a1 b1 c1 [.row 0 (D.ints []), .row 0 (D.ints [])])) (Z1 []); obtain ⟨ρ, G⟩ := G.frz [.no, .no, .no, .no, .no, .row 0, .row 0, .row 0] (.box (pL 5) :: (af3 a1 b1 c1 [dI [], dI [], dT []])) (Z1 []); exact E0 (.tup [pA 5, bA false]) G [5, 6, 7] (by have e1 : ((N1 t).snd : Bool) = (false) := (by rw [a64 h (by with_reducible assumption)]); (first | rw [e1] | simp only [e1]) <;> rfl) (by show _ = mR [5, 6, 7] [dI (N1 t).fst.vars, dI (N1 t).fst.arrays, dT (N1 t).fst.body]; have e1 : ((N1 t).fst.vars : List Int) = ([]) := (by rw [a64 h (by with_reducible assumption)]); have e2 : ((N1 t).fst.arrays : List Int) = ([]) := (by rw [a64 h (by with_reducible assumption)]); have e3 : ((N1 t).fst.body : List b5) = ([]) := (by rw [a64 h (by with_reducible assumption)]); (first | rw [e1, e2, e3] | simp only [e1, e2, e3]) <;> rfl)
  have q0 := bne_iff_ne.1 h0; refine B2 G (y7 (fc h0 fz) (us [(8, 11, 0), (1012, 1012, 0)])) [0, 1, 0, 4, 12, 28, 63, 127, 255, 511, 255, 2047, 4095] [0, 2, 3, 4, 6] (af6 :: (af3 a1 b1 c1 [])) (Z1 [(52, bA true)]) [(0 : Int) <= 2, (2 : Int) < ([b6 a1, b6 b1, b6 c1].length : Int), (2 : Nat) < [b6 a1, b6 b1, b6 c1].length] ⟨(by omega), (by simp [h0]), (by simp [h0]), b70⟩ fun G => b0 (rT G true (by kernel_rfl) (wp_seq (A4 G d7 (Z1 []) fun G => b0 (wp_ret (j2 ?_))))); obtain ⟨ρ, G⟩ := G.nil 5 0 (.ints []) 1 (.box [.ref 5, .v (.slice none 0 0), .v (.slice none 0 0)] :: (af3 a1 b1 c1 [])) (Z1 []); obtain ⟨ρ, G⟩ := G.nil 6 0 (.ints []) 1 (.box [.ref 5, .ref 6, .v (.slice none 0 0)] :: (af3 a1 b1 c1 [.row 0 (D.ints [])])) (Z1 []); obtain ⟨ρ, G⟩ := G.nil 7 0 (.stmts []) 10 (.box (pL 5) :: (af3 a1 b1 c1 [.row 0 (D.ints []), .row 0 (D.ints [])])) (Z1 []); obtain ⟨ρ, G⟩ := G.frz [.no, .no, .no, .no, .no, .row 0, .row 0, .row 0] (.box (pL 5) :: (af3 a1 b1 c1 [dI [], dI [], dT []])) (Z1 []); exact E0 (.tup [pA 5, bA false]) G [5, 6, 7] (by have e1 : ((N1 t).snd : Bool) = (false) := (by rw [a65 h (by assumption)]); (first | rw [e1] | simp only [e1]) <;> rfl) (by show _ = mR [5, 6, 7] [dI (N1 t).fst.vars, dI (N1 t).fst.arrays, dT (N1 t).fst.body]; have e1 : ((N1 t).fst.vars : List Int) = ([]) := (by rw [a65 h (by assumption)]); have e2 : ((N1 t).fst.arrays : List Int) = ([]) := (by rw [a65 h (by assumption)]); have e3 : ((N1 t).fst.body : List b5) = ([]) := (by rw [a65 h (by assumption)]); (first | rw [e1, e2, e3] | simp only [e1, e2, e3]) <;> rfl)
theorem bW7 (t : List UInt8) (hs : t.length <= 100000000) : j1.ok Tryz.prog (spC t) := by
 by_cases h : (E6 47 [] t).length = 3
 ·obtain ⟨a1, b1, c1, e⟩ : ∃ a b c, E6 47 [] t = [a, b, c] := by
   match hc : E6 47 [] t, h with
   | [a, b, c], _ => exact ⟨a, b, c, rfl⟩
  have h1 := aV3 t 47 hs
  rw [e] at h1
  exact bR1 t a1 b1 c1 hs e h1
 exact bR2 t hs h
end Go.Proofs.YtompcdbfongedaaGreatDoor

namespace Go.Proofs.YtompcdbfongedaaGreatDoor
open Go Go.RowKit Go.Shelf
def aS1 : Go.Shelf.Ren := ⟨fun | 217 => 79 | 266 => 110 | n => n, fun | 3 => 3 | 5 => 5 | 9 => 9 | n => n, fun  | n => n⟩
theorem by7 : Go.Proofs.Lays.n217 Tryz.prog aS1 := {
 mixed := by kernel_rfl
 f217 := Tryz.func79.trans (congrArg some (by kernel_rfl))
 f266 := Tryz.func110.trans (congrArg some (by kernel_rfl))
 t3 := Tryz.underlying3
 a3 := Tryz.isAgg3
 z3 := Tryz.sizeOf3
 v3 := Tryz.zeroValue3
 t5 := Tryz.underlying5
 a5 := Tryz.isAgg5
 z5 := Tryz.sizeOf5
 v5 := Tryz.zeroValue5
 t9 := Tryz.underlying9
 a9 := Tryz.isAgg9
 z9 := Tryz.sizeOf9
 v9 := Tryz.zeroValue9 }
theorem aT8 (x : UInt8) : ∀ (ls : List UInt8) (i : Int), F4 x ls i = if Lib.indexByte ls x = -1 then -1 else i + Lib.indexByte ls x
 | [], i => rfl
 | y :: r, i => by
  unfold F4 Lib.indexByte
  by_cases h : x = y
  ·subst h; simp
  have h2 : (y == x) = false := by simpa using fun e => h e.symm
  rw [if_neg h, h2, aT8 x r (i + 1)]
  have h3 := Lib.indexByte_ge r x
  by_cases h4 : Lib.indexByte r x = -1
  ·simp [h4]
  have h5 : (Lib.indexByte r x == -1) = false := by simpa using h4
  rw [if_neg h4, h5]
  simp only [Bool.false_eq_true, if_false]
  rw [if_neg (by omega)]
  omega
theorem aC6 (ls : List UInt8) (x : UInt8) : j1.ok Tryz.prog (F9 79 [tA ls, uA x] [] (iA (F4 x ls 0))) :=
 O4 fun φ w ρ _ => (Any.stringslite_IndexByte by7 (b6 ls) (x.toNat : Int) w).mono fun e w' ⟨he, hw⟩ => by
  subst hw
  refine ⟨?_, Below.refl _ _⟩
  rw [he, aT8, Int.toNat_natCast]
  have e1 : x.toNat.toUInt8 = x := by simp
  have e2 : (b6 ls).data.toList = ls := rfl
  rw [e1, e2]
  by_cases h : Lib.indexByte ls x = -1
  ·rw [h]; rfl
  rw [if_neg h, Int.zero_add]
end Go.Proofs.YtompcdbfongedaaGreatDoor

namespace Go.Proofs.YtompcdbfongedaaGreatDoor
open Go Go.RowKit
theorem ag5 (s u : List UInt8) : j1.ok Tryz.prog (F9 111 [tA s, tA u] [] (bA (O9 s u))) := by
 have hz : (b6 s).size = s.length := rfl; have hz2 : (b6 u).size = u.length := rfl; refine D2 18 Tryz.func111 [] [(0, .v (.string (b6 s))), (1, .v (.string (b6 u)))] fun G => ?_; refine wp_seq (j3 G d7 [(4, bA false)] fun G => b0 (wp_seq ?_)); cases h0 : (decide (((b6 s).size : Int) >= ((b6 u).size : Int)))
 ·have q0 := L3 h0; refine j3 G (y7 (fc h0 fz) (us [(6, 11, 0), (1012, 1012, 0)])) [] fun G => b0 (wp_ret ?_); exact y9 false G [] (bV0 (by omega))
 have q0 := L2 h0; refine G7 G (y7 (fc h0 fz) (us [(6, 11, 0), (1012, 1012, 0)])) [(4, bA (((b6 s).extract 0 (b6 u).size).toList == (b6 u).toList))] [(0 : Int) <= ((b6 u).size : Int), ((b6 u).size : Int) <= ((b6 s).size : Int)] ⟨(by omega), (by assumption), b70⟩ fun G => b0 (wp_ret ?_); exact y9 (((b6 s).extract 0 (b6 u).size).toList == (b6 u).toList) G [] (b40 (by omega))
theorem as4 (s u : List UInt8) : j1.ok Tryz.prog (F9 80 [tA s, tA u] [] (bA (O9 s u))) := by
 refine D2 8 Tryz.func80 [] [(0, .v (.string (b6 s))), (1, .v (.string (b6 u)))] fun G => ?_; refine wp_seq (j3 G d7 [(4, bA false)] fun G => b0 (wp_seq (j3 G (n4 2 [] (ag5 s u)) [(4, bA (O9 s u))] fun G => b0 (wp_ret ?_)))); exact H9 G []
theorem aC7 (s u : List UInt8) (hs : s.length <= 100000000) : j1.ok Tryz.prog (F9 129 [tA s, tA u] [] (.tup [.v (.string (b6 (cpI s u))), bA (O9 s u)])) := by
 have hz : (b6 s).size = s.length := rfl; have hz2 : (b6 u).size = u.length := rfl; refine D2 15 Tryz.func129 [] [(0, .v (.string (b6 s))), (1, .v (.string (b6 u)))] fun G => ?_; refine wp_seq (j3 G d7 [(4, .v (.string (ByteArray.mk #[]))), (5, bA false)] fun G => b0 (wp_seq (wp_seq (A4 G (n4 2 [] (ag5 s u)) [(0, .v (.string (b6 s))), (1, .v (.string (b6 u))), (4, .v (.string (ByteArray.mk #[]))), (5, bA false), (9, .v (.bool !O9 s u))] fun G => b0 ?_)))); cases h0 : (!O9 s u)
 ·have q0 : (O9 s u) = true := (Eq.mp (b67 _) h0); have hq9 := bM4 (s := s) (u := u) (by assumption); refine rF G _ h0 (wp_skip (b0 (wp_seq (G7 G d7 [(4, .v (.string ((b6 s).extract (b6 u).size (b6 s).size))), (5, bA true)] [(0 : Int) <= ((b6 u).size : Int), ((b6 u).size : Int) <= ((b6 s).size : Int)] ⟨(by omega), (by omega), b70⟩ fun G => b0 (wp_ret ?_))))); exact E0 (.tup [.v (.string ((b6 s).extract (b6 u).size (b6 s).size)), bA true]) G [] (by have e1 : (b6 (cpI s u) : ByteArray) = ((b6 s).extract (b6 u).size (b6 s).size) := (by rw [b45 (by assumption)]; exact (bs5 (by omega)).symm); have e2 : (O9 s u : Bool) = (true) := (by assumption); (first | rw [e1, e2] | simp only [e1, e2]) <;> rfl)
 have q0 : (O9 s u) = false := (Eq.mp (b65 _) h0); refine rT G _ h0 (wp_seq (j3 G d7 [(4, .v (.string (b6 s)))] fun G => b0 (wp_ret (j2 ?_)))); exact E0 (.tup [.v (.string (b6 s)), bA false]) G [] (by have e1 : (b6 (cpI s u) : ByteArray) = (b6 s) := (by rw [b46 (by assumption)]); have e2 : (O9 s u : Bool) = (false) := (by assumption); (first | rw [e1, e2] | simp only [e1, e2]) <;> rfl)
theorem aV7 (s u : List UInt8) (hs : s.length <= 100000000) : j1.ok Tryz.prog (F9 112 [tA s, tA u] [] (.tup [.v (.string (b6 (cpI s u))), bA (O9 s u)])) := by
 refine D2 11 Tryz.func112 [] [(0, .v (.string (b6 s))), (1, .v (.string (b6 u)))] fun G => ?_; refine wp_seq (j3 G d7 [(4, .v (.string (ByteArray.mk #[]))), (5, bA false)] fun G => b0 (wp_seq (j3 G (n4 2 [] (aC7 s u (by assumption))) [(4, .v (.string (b6 (cpI s u)))), (5, bA (O9 s u))] fun G => b0 (wp_ret ?_)))); exact H9 G []
theorem ap5 (s : List UInt8) (b : Bool) : j1.ok Tryz.prog ⟨49, [.ptr 0 0], [rdB s b], [rdB s b], uA (F8 (s, b))⟩ := by
  have hz : (b6 s).size = s.length := rfl; refine D2 19 Tryz.func49 [.box [.v (.string (b6 s)), bA b]] [(0, .ptr 0 0)] fun G => ?_; refine wp_seq (j3 G d7 [(2, .v (.int .u8 0))] fun G => b0 (wp_seq (wp_seq ?_))); cases h0 : (b)
  ·
   refine A4 G (y7 (fc h0 fz) (us [(5, 9, 0), (1010, 1010, 0)])) [(0, .ptr 0 0), (2, .v (.int .u8 0)), (13, bA ((b6 s).toList == (ByteArray.mk #[]).toList))] fun G => b0 ?_; cases h1 : ((b6 s).toList == (ByteArray.mk #[]).toList)
   · have hq9 := bI9 (s := s) (by assumption); refine rF G _ h1 (wp_skip (b0 (wp_seq (G7 G d7 [(2, .v (.int .u8 (((b6 s).data.toList.getD (Int.toNat 0) 0).toNat : Int)))] [(0 : Int) <= 0, (0 : Int) < ((b6 s).size : Int)] ⟨(by omega), (by omega), b70⟩ fun G => b0 (wp_ret ?_))))); exact E0 (.v (.int .u8 (((b6 s).data.toList.getD (Int.toNat 0) 0).toNat : Int))) G [0] (by show _ = AV.ren (nth [0]) (.v (.int .u8 ((F8 (s, false)).toNat : Int))); rw [b12 rfl (by assumption)] <;> rfl) (by show _ = mR [0] [.box [.v (.string (b6 s)), bA false]]; have e1 : (false : Bool) = (b) := (by simp only [h0, h1]; done); (first | rw [e1] | simp only [e1]) <;> rfl)
   refine rT G _ h1 (wp_seq (j3 G d7 [] fun G => b0 (wp_ret (j2 ?_)))); exact E0 (.v (.int .u8 0)) G [0] (by show _ = AV.ren (nth [0]) (.v (.int .u8 ((F8 (s, false)).toNat : Int))); rw [b13 (by assumption)] <;> rfl) (by show _ = mR [0] [.box [.v (.string (b6 s)), bA false]]; have e1 : (false : Bool) = (b) := (by simp only [h0, h1]; done); (first | rw [e1] | simp only [e1]) <;> rfl)
  refine j3 G (y7 (fc h0 fz) (us [(5, 9, 0), (1010, 1010, 0)])) [(13, bA true)] fun G => b0 (rT G true (by kernel_rfl) (wp_seq (j3 G d7 [] fun G => b0 (wp_ret (j2 ?_))))); exact H9 G [0] (by show _ = mR [0] [.box [.v (.string (b6 s)), bA true]]; have e1 : (true : Bool) = (b) := (by simp only [h0]; done); (first | rw [e1] | simp only [e1]) <;> rfl)
theorem F3 (s u : List UInt8) (b : Bool) (hs : s.length <= 100000000) : j1.ok Tryz.prog ⟨81, [.ptr 0 0, tA u], [rdB s b], [rdB (c6 (s, b) u).1 (c6 (s, b) u).2], .tup []⟩ := by
 refine D2 30 Tryz.func81 [.box [.v (.string (b6 s)), bA b]] [(0, .ptr 0 0), (1, .v (.string (b6 u)))] fun G => ?_; refine wp_seq (j3 G (n4 5 [] (aV7 s u (by assumption))) [(4, .v (.string (b6 (cpI s u)))), (5, bA (O9 s u))] fun G => b0 ?_); cases h0 : (b)
 ·refine j5 G (y7 (fc h0 fz) [(8, 0), (9, 0), (1010, 0)]) [0] [.box [.v (.string (b6 (cpI s u))), .v (.bool !O9 s u)]] [] fun G => ?_; exact bS1 G [0] (by show _ = mR [0] [.box [.v (.string (b6 (c6 (s, false) u).fst)), bA (c6 (s, false) u).snd]]; have e1 : (b6 (c6 (s, false) u).fst : ByteArray) = (b6 (cpI s u)) := (by rw [bD4]); have e2 : ((c6 (s, false) u).snd : Bool) = (!O9 s u) := (by rw [bD3]; simp [*]; done); (first | rw [e1, e2] | simp only [e1, e2]) <;> rfl)
 refine j5 G (y7 (fc h0 fz) [(8, 0), (9, 0), (1010, 0)]) [0] [.box [.v (.string (b6 (cpI s u))), bA true]] [] fun G => ?_; exact bS1 G [0] (by show _ = mR [0] [.box [.v (.string (b6 (c6 (s, true) u).fst)), bA (c6 (s, true) u).snd]]; have e1 : (b6 (c6 (s, true) u).fst : ByteArray) = (b6 (cpI s u)) := (by rw [bD4]); have e2 : ((c6 (s, true) u).snd : Bool) = (true) := (by rw [bD3]; simp [*]; done); (first | rw [e1, e2] | simp only [e1, e2]) <;> rfl)
theorem aA4 (s : List UInt8) (b : Bool) (hs : s.length <= 100000000) : j1.ok Tryz.prog ⟨85, [.ptr 0 0], [rdB s b], [rdB (d9 (s, b)).2.1 (d9 (s, b)).2.2], uA (d9 (s, b)).1⟩ := by
 have hz : (b6 s).size = s.length := rfl; refine D2 20 Tryz.func85 [.box [.v (.string (b6 s)), bA b]] [(0, .ptr 0 0)] fun G => ?_; refine wp_seq (j3 G d7 [(2, .v (.int .u8 0))] fun G => b0 (wp_seq (j3 G (n4 1 [0] (ap5 s b)) [(3, .v (.int .u8 ((F8 (s, b)).toNat : Int)))] fun G => b0 (wp_seq (wp_seq (A4 G d7 [(0, .ptr 0 0), (2, .v (.int .u8 0)), (3, .v (.int .u8 ((F8 (s, b)).toNat : Int))), (7, bA (((F8 (s, b)).toNat : Int) == 0))] fun G => b0 ?_)))))); cases h0 : (((F8 (s, b)).toNat : Int) == 0)
 ·have q0 := ne_of_beq_false h0; have hq9 := (bK2 (bv0 (x := F8 (s, b)) (by assumption))).1; refine rF G _ h0 (wp_skip (b0 (wp_seq (G8 G d7 [0] [.box [.v (.string ((b6 s).extract (Int.toNat 1) (b6 s).size)), bA b]] [(2, .v (.int .u8 0)), (3, .v (.int .u8 ((F8 (s, b)).toNat : Int)))] [(0 : Int) <= 1, (1 : Int) <= ((b6 s).size : Int)] ⟨(by omega), (by omega), b70⟩ fun G => b0 (wp_seq (j3 G d7 [(2, .v (.int .u8 ((F8 (s, b)).toNat : Int)))] fun G => b0 (wp_ret ?_))))))); exact E0 (.v (.int .u8 ((F8 (s, b)).toNat : Int))) G [0] (by show _ = AV.ren (nth [0]) (.v (.int .u8 ((d9 (s, b)).fst.toNat : Int))); have e1 : (((d9 (s, b)).fst.toNat : Int) : Int) = (((F8 (s, b)).toNat : Int)) := (by rw [bJ9 (bv0 (by assumption))]); (first | rw [e1] | simp only [e1]) <;> rfl) (by show _ = mR [0] [.box [.v (.string (b6 (d9 (s, b)).snd.fst)), bA (d9 (s, b)).snd.snd]]; have e1 : (b6 (d9 (s, b)).snd.fst : ByteArray) = ((b6 s).extract (Int.toNat 1) (b6 s).size) := (by rw [bJ9 (bv0 (by assumption))]; exact bW3.symm); have e2 : ((d9 (s, b)).snd.snd : Bool) = (b) := (by rw [bJ9 (bv0 (by assumption))]); (first | rw [e1, e2] | simp only [e1, e2]) <;> rfl)
 have q0 := eq_of_beq h0; refine rT G _ h0 (wp_seq (j5 G d7 [0] [.box [.v (.string (b6 s)), bA true]] [(0, .ptr 0 0), (2, .v (.int .u8 0)), (3, .v (.int .u8 ((F8 (s, b)).toNat : Int)))] fun G => b0 (wp_seq (j3 G d7 [] fun G => b0 (wp_ret (j2 ?_)))))); exact E0 (.v (.int .u8 0)) G [0] (by show _ = AV.ren (nth [0]) (.v (.int .u8 ((d9 (s, b)).fst.toNat : Int))); rw [bJ8 (aX2 (by assumption))] <;> rfl) (by show _ = mR [0] [.box [.v (.string (b6 (d9 (s, b)).snd.fst)), bA (d9 (s, b)).snd.snd]]; have e1 : (b6 (d9 (s, b)).snd.fst : ByteArray) = (b6 s) := (by rw [bJ8 (aX2 (by assumption))]); have e2 : ((d9 (s, b)).snd.snd : Bool) = (true) := (by rw [bJ8 (aX2 (by assumption))]); (first | rw [e1, e2] | simp only [e1, e2]) <;> rfl)
theorem U9 (ls : List UInt8) (x : UInt8) (hs : ls.length <= 100000000) : j1.ok Tryz.prog (F9 48 [tA ls, uA x] [] (iA (F4 x ls 0))) := by
 refine D2 8 Tryz.func48 [] [(0, .v (.string (b6 ls))), (1, .v (.int .u8 (x.toNat : Int)))] fun G => ?_; refine wp_seq (j3 G d7 [(4, iA 0)] fun G => b0 (wp_seq (j3 G (n4 2 [] (aC6 ls x)) [(4, iA (F4 x ls 0))] fun G => b0 (wp_ret ?_)))); exact H9 G []
end Go.Proofs.YtompcdbfongedaaGreatDoor

namespace Go.Proofs.YtompcdbfongedaaGreatDoor
open Go Go.RowKit Go.Shelf
def ac6 : Go.Shelf.Ren := ⟨fun | 129 => 153 | 171 => 91 | 172 => 113 | 205 => 151 | 243 => 115 | 244 => 130 | 245 => 131 | 246 => 133 | 247 => 140 | 279 => 141 | 280 => 142 | 281 => 143 | 282 => 144 | 283 => 145 | 284 => 146 | 285 => 147 | 286 => 148 | 287 => 149 | 316 => 150 | 317 => 152 | 318 => 154 | 319 => 155 | 320 => 156 | 321 => 157 | 322 => 158 | 337 => 159 | 338 => 160 | n => n, fun | 0 => 0 | 2 => 2 | 3 => 3 | 4 => 4 | 5 => 5 | 9 => 9 | 20 => 20 | 21 => 21 | 37 => 31 | 46 => 137 | 51 => 148 | 53 => 158 | 75 => 111 | 76 => 127 | 80 => 113 | 85 => 152 | 127 => 129 | 143 => 174 | 145 => 176 | 167 => 151 | 168 => 154 | 171 => 157 | 173 => 161 | 175 => 163 | 210 => 167 | 212 => 170 | 213 => 171 | 232 => 178 | 233 => 179 | n => n, fun | 15 => 3 | 16 => 4 | 17 => 5 | 18 => 6 | 19 => 7 | n => n⟩
theorem by8 : Go.Proofs.Lays.n172 Tryz.prog ac6 := {
 mixed := by kernel_rfl
 f129 := Tryz.func153.trans (congrArg some (by kernel_rfl))
 f171 := Tryz.func91.trans (congrArg some (by kernel_rfl))
 f172 := Tryz.func113.trans (congrArg some (by kernel_rfl))
 f205 := Tryz.func151.trans (congrArg some (by kernel_rfl))
 f243 := Tryz.func115.trans (congrArg some (by kernel_rfl))
 f244 := Tryz.func130.trans (congrArg some (by kernel_rfl))
 f245 := Tryz.func131.trans (congrArg some (by kernel_rfl))
 f246 := Tryz.func133.trans (congrArg some (by kernel_rfl))
 f247 := Tryz.func140.trans (congrArg some (by kernel_rfl))
 f279 := Tryz.func141.trans (congrArg some (by kernel_rfl))
 f280 := Tryz.func142.trans (congrArg some (by kernel_rfl))
 f281 := Tryz.func143.trans (congrArg some (by kernel_rfl))
 f282 := Tryz.func144.trans (congrArg some (by kernel_rfl))
 f283 := Tryz.func145.trans (congrArg some (by kernel_rfl))
 f284 := Tryz.func146.trans (congrArg some (by kernel_rfl))
 f285 := Tryz.func147.trans (congrArg some (by kernel_rfl))
 f286 := Tryz.func148.trans (congrArg some (by kernel_rfl))
 f287 := Tryz.func149.trans (congrArg some (by kernel_rfl))
 f316 := Tryz.func150.trans (congrArg some (by kernel_rfl))
 f317 := Tryz.func152.trans (congrArg some (by kernel_rfl))
 f318 := Tryz.func154.trans (congrArg some (by kernel_rfl))
 f319 := Tryz.func155.trans (congrArg some (by kernel_rfl))
 f320 := Tryz.func156.trans (congrArg some (by kernel_rfl))
 f321 := Tryz.func157.trans (congrArg some (by kernel_rfl))
 f322 := Tryz.func158.trans (congrArg some (by kernel_rfl))
 f337 := Tryz.func159.trans (congrArg some (by kernel_rfl))
 f338 := Tryz.func160.trans (congrArg some (by kernel_rfl))
 t0 := Tryz.underlying0
 a0 := Tryz.isAgg0
 z0 := Tryz.sizeOf0
 v0 := Tryz.zeroValue0
 t2 := Tryz.underlying2
 a2 := Tryz.isAgg2
 z2 := Tryz.sizeOf2
 v2 := Tryz.zeroValue2
 t3 := Tryz.underlying3
 a3 := Tryz.isAgg3
 z3 := Tryz.sizeOf3
 v3 := Tryz.zeroValue3
 t4 := Tryz.underlying4
 a4 := Tryz.isAgg4
 z4 := Tryz.sizeOf4
 v4 := Tryz.zeroValue4
 t5 := Tryz.underlying5
 a5 := Tryz.isAgg5
 z5 := Tryz.sizeOf5
 v5 := Tryz.zeroValue5
 t9 := Tryz.underlying9
 a9 := Tryz.isAgg9
 z9 := Tryz.sizeOf9
 v9 := Tryz.zeroValue9
 t20 := Tryz.underlying20
 a20 := Tryz.isAgg20
 z20 := Tryz.sizeOf20
 v20 := Tryz.zeroValue20
 t21 := Tryz.underlying21
 a21 := Tryz.isAgg21
 z21 := Tryz.sizeOf21
 v21 := Tryz.zeroValue21
 t37 := Tryz.underlying31
 a37 := Tryz.isAgg31
 z37 := Tryz.sizeOf31
 v37 := Tryz.zeroValue31
 t46 := Tryz.underlying137
 a46 := Tryz.isAgg137
 z46 := Tryz.sizeOf137
 v46 := Tryz.zeroValue137
 t51 := Tryz.underlying148
 a51 := Tryz.isAgg148
 z51 := Tryz.sizeOf148
 v51 := Tryz.zeroValue148
 t53 := Tryz.underlying158
 a53 := Tryz.isAgg158
 z53 := Tryz.sizeOf158
 v53 := Tryz.zeroValue158
 t75 := Tryz.underlying111
 a75 := Tryz.isAgg111
 z75 := Tryz.sizeOf111
 v75 := Tryz.zeroValue111
 t76 := Tryz.underlying127
 a76 := Tryz.isAgg127
 z76 := Tryz.sizeOf127
 v76 := Tryz.zeroValue127
 t85 := Tryz.underlying152
 a85 := Tryz.isAgg152
 z85 := Tryz.sizeOf152
 v85 := Tryz.zeroValue152
 t127 := Tryz.underlying129
 a127 := Tryz.isAgg129
 z127 := Tryz.sizeOf129
 v127 := Tryz.zeroValue129
 t143 := Tryz.underlying174
 a143 := Tryz.isAgg174
 z143 := Tryz.sizeOf174
 v143 := Tryz.zeroValue174
 t145 := Tryz.underlying176
 a145 := Tryz.isAgg176
 z145 := Tryz.sizeOf176
 v145 := Tryz.zeroValue176
 t167 := Tryz.underlying151
 a167 := Tryz.isAgg151
 z167 := Tryz.sizeOf151
 v167 := Tryz.zeroValue151
 t168 := Tryz.underlying154
 a168 := Tryz.isAgg154
 z168 := Tryz.sizeOf154
 v168 := Tryz.zeroValue154
 t171 := Tryz.underlying157
 a171 := Tryz.isAgg157
 z171 := Tryz.sizeOf157
 v171 := Tryz.zeroValue157
 t173 := Tryz.underlying161
 a173 := Tryz.isAgg161
 z173 := Tryz.sizeOf161
 v173 := Tryz.zeroValue161
 t175 := Tryz.underlying163
 a175 := Tryz.isAgg163
 z175 := Tryz.sizeOf163
 v175 := Tryz.zeroValue163
 t210 := Tryz.underlying167
 a210 := Tryz.isAgg167
 z210 := Tryz.sizeOf167
 v210 := Tryz.zeroValue167
 t212 := Tryz.underlying170
 a212 := Tryz.isAgg170
 z212 := Tryz.sizeOf170
 v212 := Tryz.zeroValue170
 t213 := Tryz.underlying171
 a213 := Tryz.isAgg171
 z213 := Tryz.sizeOf171
 t232 := Tryz.underlying178
 a232 := Tryz.isAgg178
 z232 := Tryz.sizeOf178
 v232 := Tryz.zeroValue178
 t233 := Tryz.underlying179
 a233 := Tryz.isAgg179
 z233 := Tryz.sizeOf179
 v233 := Tryz.zeroValue179
 g15 := by kernel_rfl
 g16 := by kernel_rfl
 g17 := by kernel_rfl
 g18 := by kernel_rfl
 g19 := by kernel_rfl }
theorem ay5 : Go.Proofs.LaysM.n172 Tryz.prog ac6 := { by8 with
 t80 := Tryz.underlying113
 a80 := Tryz.isAgg113
 z80 := Tryz.sizeOf113
 v80 := Tryz.zeroValue113
 i0 := by kernel_rfl
 i2 := by kernel_rfl
 i3 := by kernel_rfl
 i4 := by kernel_rfl
 i5 := by kernel_rfl
 i9 := by kernel_rfl
 i20 := by kernel_rfl
 i21 := by kernel_rfl
 i37 := by kernel_rfl
 i46 := by kernel_rfl
 i51 := by kernel_rfl
 i53 := by kernel_rfl
 i75 := by kernel_rfl
 i76 := by kernel_rfl
 i80 := by kernel_rfl
 i85 := by kernel_rfl
 i127 := by kernel_rfl
 i143 := by kernel_rfl
 i145 := by kernel_rfl
 i167 := by kernel_rfl
 i168 := by kernel_rfl
 i171 := by kernel_rfl
 i173 := by kernel_rfl
 i175 := by kernel_rfl
 i210 := by kernel_rfl
 i212 := by kernel_rfl
 i232 := by kernel_rfl
 i233 := by kernel_rfl
 m15 := by kernel_rfl
 m16 := by kernel_rfl
 m17 := by kernel_rfl
 m18 := by kernel_rfl
 m19 := by kernel_rfl }
theorem ay6 : Go.Proofs.LaysC.n172 Tryz.prog ac6 := { ay5 with
 c0 := by kernel_rfl
 c2 := by kernel_rfl
 c3 := by kernel_rfl
 c4 := by kernel_rfl
 c5 := by kernel_rfl
 c9 := by kernel_rfl
 c20 := by kernel_rfl
 c21 := by kernel_rfl
 c37 := by kernel_rfl
 c46 := by kernel_rfl
 c51 := by kernel_rfl
 c53 := by kernel_rfl
 c75 := by kernel_rfl
 c76 := by kernel_rfl
 c80 := by kernel_rfl
 c85 := by kernel_rfl
 c127 := by kernel_rfl
 c143 := by kernel_rfl
 c145 := by kernel_rfl
 c167 := by kernel_rfl
 c168 := by kernel_rfl
 c171 := by kernel_rfl
 c173 := by kernel_rfl
 c175 := by kernel_rfl
 c210 := by kernel_rfl
 c212 := by kernel_rfl
 c213 := by kernel_rfl
 c232 := by kernel_rfl
 c233 := by kernel_rfl }
theorem bB3 (l : List UInt8) (hl : l.length <= 100000000) (v : Int) (h : Lib.atoiAll l = .ok v) (w : World) :
  Calls Tryz.prog 113 #[.string (b6 l)] w fun e w' => e = .returned (.tuple #[.int .i64 v, .nilIface]) /\ Below w.heap.size w w' := by
 refine (Any.strconv_Atoi_ok ay6 (b6 l) (by rw [f9]; omega) v h w).mono ?_
 rintro e w' ⟨rfl, hw⟩
 refine ⟨rfl, ?_⟩
 rcases hw with rfl | ⟨t, rfl⟩
 ·exact Below.refl _ _
 exact Lib.bytesWorld_below _ _ _
theorem aU1 {w : World} {name : String} {g : Nat} (hg : Tryz.prog.globalNamed name = some g) {te : TypeId} {pe : Value} (h : w.var? Tryz.prog name = some #[.iface te pe]) : w.cell? ⟨g, 0, none⟩ = some (.iface te pe) := by
 have := World.var?_cell hg h 0
 simpa using this
theorem bu1 (l : List UInt8) (hl : l.length <= 100000000) (h : (atV l).2 = true) (w : World) (he : bY6 w) :
  Calls Tryz.prog 113 #[.string (b6 l)] w fun e w' => ∃ t p, e = .returned (.tuple #[.int .i64 (atV l).1, .iface t p]) /\ Below w.heap.size w w' := by
 obtain ⟨⟨t1, p1, h1⟩, t2, p2, h2⟩ := he
 unfold atV at h ⊢
 split at h
 ·cases h
 ·rename_i e1
  refine (Any.strconv_Atoi_syntax ay6 (b6 l) (by rw [f9]; omega) e1 (.iface t1 p1) w (aU1 ay5.m15 h1) (.inr ⟨_, _, rfl⟩)).mono ?_
  rintro e w' ⟨N, rfl, _, _, hb⟩
  exact ⟨_, _, rfl, hb⟩
 rename_i e1
 refine (Any.strconv_Atoi_range ay6 (b6 l) (by rw [f9]; omega) e1 (.iface t2 p2) w (aU1 ay5.m16 h2) (.inr ⟨_, _, rfl⟩)).mono ?_
 rintro e w' ⟨N, rfl, _, _, hb⟩
 exact ⟨_, _, rfl, hb⟩
end Go.Proofs.YtompcdbfongedaaGreatDoor

namespace Go.Proofs.YtompcdbfongedaaGreatDoor
open Go Go.RowKit
theorem bt9 (l : List UInt8) (hl : l.length <= 100000000) (h : (atV l).2 = false) : j1.ok Tryz.prog (F9 113 [tA l] [] (.tup [iA (atV l).1, .v .nilIface])) := by
 have key : ∃ v, Lib.atoiAll l = .ok v /\ (atV l).1 = v := by
  unfold atV at h ⊢
  split at h
  ·rename_i v e; exact ⟨v, e, rfl⟩
  ·cases h
  cases h
 obtain ⟨v, e1, e2⟩ := key
 rw [e2]
 intro ι φ ψ w0 w F ρ M
 refine (bB3 l hl v e1 w).mono ?_
 rintro e w' ⟨rfl, hb⟩
 exact ⟨ρ, fun _ _ => rfl, rfl, M.call hb⟩
theorem be1 (l : List UInt8) (hl : l.length <= 100000000) (h : (atV l).2 = true) : j1.ok Tryz.prog ⟨113, [tA l], [], [.err], .tup [iA (atV l).1, .ref 0]⟩ := by
 intro ι φ ψ w0 w F ρ M
 refine (bu1 l hl h w (M.env w M.kept).2).mono ?_
 rintro e w' ⟨t, p, rfl, hb⟩
 have M1 := M.call hb
 have hnone : ∀ j, s4 [] j = It.none := fun j => by simp [s4]
 have hinv : Inv (s4 []) ρ [0] := fun ρ' _ j => by rw [hnone j]; rfl
 have ha : A9 [0] ρ (fun j => if j = 0 then .iface t p else ρ j) := fun j hj => by
  have : j ≠ 0 := by simpa using hj
  simp [this]
 have M2 := M1.one 0 .err [0] hinv ha (B7.refl _ _) (fun g hg => hg.elim) (by
  refine ⟨fun _ _ _ _ _ h => h, ?_⟩
  simp only [if_true]
  exact ⟨t, p, rfl⟩)
 refine ⟨(fun j => if j = 0 then .iface t p else ρ j), fun i hi => absurd hi (Nat.not_lt_zero i), ?_, ?_⟩
 ·simp [AV.val, AV.vals]
 have e : m7 (s4 []) [(0, It.err)] = s4 [It.err] := by
  funext j
  cases j with
  | zero => rfl
  | succ j => simp [m7, s4]
 rw [e] at M2
 exact M2
section
variable {s : List UInt8} {k : Nat}
theorem aI3 {p : UInt8 -> Bool} : ∀ {l : List UInt8} {k : Nat}, k <= l.length -> (l.take k).all p = true -> (k = l.length \/ p (l.getD k 0) = false) -> (l.takeWhile p).length = k
 | [], k, hk, _, _ => by simp at hk; subst hk; rfl
 | x :: r, 0, _, _, h => by
  rcases h with h | h
  ·simp at h
  rw [List.takeWhile_cons_of_neg (by simpa using h)]; rfl
 | x :: r, k + 1, hk, ha, h => by
  simp only [List.take_succ_cons, List.all_cons, b57] at ha
  rw [List.takeWhile_cons_of_pos ha.1, b58, aI3 (by simpa using hk) ha.2 (by simpa using h)]
theorem ao9 (h : k <= s.length) (ha : (s.take k).all P7 = true) (he : ¬ (k : Int) < s.length) : dnI s = k := aI3 h ha (.inl (by omega))
theorem aG2 (h : k <= s.length) (ha : (s.take k).all P7 = true) (he : ¬ ((s.getD k 0).toNat : Int) >= 48) : dnI s = k := aI3 h ha (.inr (by unfold P7; rw [decide_eq_false (by omega)]; rfl))
theorem aG3 (h : k <= s.length) (ha : (s.take k).all P7 = true) (he : ¬ ((s.getD k 0).toNat : Int) <= 57) : dnI s = k := aI3 h ha (.inr (by unfold P7; rw [decide_eq_false (p := (s.getD k 0).toNat <= 57) (by omega)]; simp))
theorem ba7 (h : k < s.length) (ha : (s.take k).all P7 = true) (h1 : ((s.getD k 0).toNat : Int) >= 48) (h2 : ((s.getD k 0).toNat : Int) <= 57) : (s.take (k + 1)).all P7 = true := by
 rw [B3 s k h, List.all_append, ha, Bool.true_and, List.all_cons, List.all_nil, Bool.and_true]
 rw [m9 h] at h1 h2
 unfold P7
 rw [decide_eq_true (by omega), decide_eq_true (by omega)]; rfl
theorem bG1 : dnI s <= s.length := List.takeWhile_prefix _ |>.length_le
theorem ba6 (h : dnI s = k) : ByteArray.extract (b6 s) 0 k = b6 (s.take (dnI s)) := by rw [L9, List.drop_zero, h]
theorem bz9 (h : dnI s = k) : ByteArray.extract (b6 s) k s.length = b6 (s.drop (dnI s)) := by rw [L9, List.take_length, h]
abbrev atA (s : List UInt8) : Int × Bool := atV (s.take (dnI s))
theorem bl8 (hl : s.length <= 100000000) (h : (atA s).2 = false) (k : Nat) (hk : dnI s = k) : j1.ok Tryz.prog (F9 113 [.v (.string (ByteArray.extract (b6 s) 0 k))] [] (.tup [iA (atA s).1, .v .nilIface])) := by
 rw [ba6 hk]; exact bt9 _ (b54 (List.length_take_le _ _) (b54 bG1 hl)) h
theorem bc7 (hl : s.length <= 100000000) (h : (atA s).2 = true) (k : Nat) (hk : dnI s = k) : j1.ok Tryz.prog ⟨113, [.v (.string (ByteArray.extract (b6 s) 0 k))], [], [.err], .tup [iA (atA s).1, .ref 0]⟩ := by
 rw [ba6 hk]; exact be1 _ (b54 (List.length_take_le _ _) (b54 bG1 hl)) h
theorem as8 {b : Bool} (hk : dnI s = k) : b6 (G4 (s, b)).2.1 = ByteArray.extract (b6 s) k s.length := (bz9 hk).symm
end
abbrev nuC (s : List UInt8) (b : Bool) : j1 := ⟨84, [.ptr 0 0], [rdB s b], [.box [.v (.string (b6 (G4 (s, b)).2.1)), .v (.bool (G4 (s, b)).2.2)]], iA (G4 (s, b)).1⟩
abbrev aD9 (s : List UInt8) : List It := [.box [.v (.string (b6 (G4 (s, false)).snd.fst)), bA (G4 (s, false)).snd.snd]]
abbrev aD8 (s : List UInt8) : List It := [.box [.v (.string (b6 (G4 (s, true)).snd.fst)), bA (G4 (s, true)).snd.snd]]
theorem bc2 (s : List UInt8) (b : Bool) (hs : s.length <= 100000000) (h : (atA s).2 = false) : j1.ok Tryz.prog (nuC s b) := by
  have hz : (b6 s).size = s.length := rfl
  have hA := fun (k : Nat) (hk : dnI s = k) => bl8 hs h k hk
  refine D2 64 Tryz.func84 [.box [.v (.string (b6 s)), bA b]] [(0, .ptr 0 0)] fun G => ?_; refine wp_seq (j3 G d7 [(2, iA 0)] fun G => b0 (wp_seq (A4 G d7 [(0, .ptr 0 0), (2, iA 0), (3, iA 0)] fun G => b0 (wp_seq (wp_block ?_))))); refine x4 (κ := Nat) (fun k => k <= s.length /\ (s.take k).all P7 = true) (fun k => s.length - k) (fun k => [.box [.v (.string (b6 s)), bA b]]) (fun k => [(0, .ptr 0 0), (2, iA 0), (3, iA k)]) 0 (by simp [h]) (w6.at G _ _) ?_; clear G; intro k ρ a w hp G; refine wp_seq (wp_seq ?_); cases h0 : (decide ((k : Int) < ((b6 s).size : Int)))
  ·
   have q0 := L3 h0; refine j3 G (y7 (fc h0 (fc (b := false) rfl fz)) (us [(8, 14, 0), (1015, 1015, 0), (17, 23, 1), (1024, 1024, 1)])) [(30, bA false)] fun G => b0 (rF G false (by kernel_rfl) (wp_exit (p8 (p8 (p7 (b0 (wp_seq (G7 G (n4 6 [] (hA k (ao9 hp.1 hp.2 (by omega)))) [(4, iA (atA s).fst), (5, .v .nilIface)] [(0 : Int) <= (k : Int), (k : Int) <= ((b6 s).size : Int)] ⟨(by omega), (by omega), b70⟩ fun G => b0 (wp_seq ?_))))))))); cases h1 : (b)
   · refine B2 G (y7 (fc h1 fz) [(13, 0), (14, 0), (1015, 0)]) [0, 0, 0, 4, 12, 28, 0, 124, 0, 256, 768, 1792, 3840, 7936, 16128, 32512, 4093, 69629, 204797, 524287, 1048575, 2097151] [0] [.box [.v (.string ((b6 s).extract k (b6 s).size)), bA false]] [(2, iA 0), (4, iA (atA s).fst)] [(0 : Int) <= (k : Int), (k : Int) <= ((b6 s).size : Int)] ⟨(by omega), (by omega), b70⟩ fun G => b0 (wp_seq (j3 G d7 [(2, iA (atA s).fst)] fun G => b0 (wp_ret ?_))); exact H9 G [0] (by show _ = mR [0] (aD9 s); unfold aD9; have e1 : (b6 (G4 (s, false)).snd.fst : ByteArray) = ((b6 s).extract k (b6 s).size) := (as8 (ao9 hp.1 hp.2 (by omega))); have e2 : ((G4 (s, false)).snd.snd : Bool) = (false) := (by assumption); (first | rw [e1, e2] | simp only [e1, e2]) <;> rfl)
   refine B2 G (y7 (fc h1 fz) [(13, 0), (14, 0), (1015, 0)]) [0, 0, 0, 4, 12, 28, 0, 124, 0, 256, 768, 1792, 3840, 7936, 16128, 32512, 4093, 69629, 204797, 524287, 1048575, 2097151] [0] [.box [.v (.string ((b6 s).extract k (b6 s).size)), bA true]] [(2, iA 0), (4, iA (atA s).fst)] [(0 : Int) <= (k : Int), (k : Int) <= ((b6 s).size : Int)] ⟨(by omega), (by omega), b70⟩ fun G => b0 (wp_seq (j3 G d7 [(2, iA (atA s).fst)] fun G => b0 (wp_ret ?_))); exact H9 G [0] (by show _ = mR [0] (aD8 s); unfold aD8; have e1 : (b6 (G4 (s, true)).snd.fst : ByteArray) = ((b6 s).extract k (b6 s).size) := (as8 (ao9 hp.1 hp.2 (by omega))); (first | rw [e1] | simp only [e1]) <;> rfl)
  have q0 := L2 h0; cases h2 : (decide ((((b6 s).data.toList.getD k (0 : UInt8)).toNat : Int) >= 48))
  ·
   have q2 := L3 h2; refine G7 G (y7 (fc h0 (fc h2 fz)) (us [(8, 14, 0), (1015, 1015, 0), (17, 23, 1), (1024, 1024, 1)])) [(30, bA false)] [(0 : Int) <= (k : Int), (k : Int) < ((b6 s).size : Int)] ⟨(by omega), (by assumption), b70⟩ fun G => b0 (rF G false (by kernel_rfl) (wp_exit (p8 (p8 (p7 (b0 (wp_seq (G7 G (n4 6 [] (hA k (aG2 hp.1 hp.2 (by assumption)))) [(4, iA (atA s).fst), (5, .v .nilIface)] [(0 : Int) <= (k : Int), (k : Int) <= ((b6 s).size : Int)] ⟨(by omega), (by omega), b70⟩ fun G => b0 (wp_seq ?_))))))))); cases h3 : (b)
   · refine B2 G (y7 (fc h3 fz) [(13, 0), (14, 0), (1015, 0)]) [0, 0, 0, 4, 12, 28, 0, 124, 0, 256, 768, 1792, 3840, 7936, 16128, 32512, 4093, 69629, 204797, 524287, 1048575, 2097151] [0] [.box [.v (.string ((b6 s).extract k (b6 s).size)), bA false]] [(2, iA 0), (4, iA (atA s).fst)] [(0 : Int) <= (k : Int), (k : Int) <= ((b6 s).size : Int)] ⟨(by omega), (by omega), b70⟩ fun G => b0 (wp_seq (j3 G d7 [(2, iA (atA s).fst)] fun G => b0 (wp_ret ?_))); exact H9 G [0] (by show _ = mR [0] (aD9 s); unfold aD9; have e1 : (b6 (G4 (s, false)).snd.fst : ByteArray) = ((b6 s).extract k (b6 s).size) := (as8 (aG2 hp.1 hp.2 (by assumption))); have e2 : ((G4 (s, false)).snd.snd : Bool) = (false) := (by assumption); (first | rw [e1, e2] | simp only [e1, e2]) <;> rfl)
   refine B2 G (y7 (fc h3 fz) [(13, 0), (14, 0), (1015, 0)]) [0, 0, 0, 4, 12, 28, 0, 124, 0, 256, 768, 1792, 3840, 7936, 16128, 32512, 4093, 69629, 204797, 524287, 1048575, 2097151] [0] [.box [.v (.string ((b6 s).extract k (b6 s).size)), bA true]] [(2, iA 0), (4, iA (atA s).fst)] [(0 : Int) <= (k : Int), (k : Int) <= ((b6 s).size : Int)] ⟨(by omega), (by omega), b70⟩ fun G => b0 (wp_seq (j3 G d7 [(2, iA (atA s).fst)] fun G => b0 (wp_ret ?_))); exact H9 G [0] (by show _ = mR [0] (aD8 s); unfold aD8; have e1 : (b6 (G4 (s, true)).snd.fst : ByteArray) = ((b6 s).extract k (b6 s).size) := (as8 (aG2 hp.1 hp.2 (by assumption))); (first | rw [e1] | simp only [e1]) <;> rfl)
  have q2 := L2 h2; refine G7 G (y7 (fc h0 (fc h2 fz)) (us [(8, 14, 0), (1015, 1015, 0), (17, 23, 1), (1024, 1024, 1)])) [(30, bA (decide ((((b6 s).data.toList.getD k 0).toNat : Int) <= 57)))] [(0 : Int) <= (k : Int), (k : Int) < ((b6 s).size : Int), (0 : Int) <= (k : Int), (k : Int) < ((b6 s).size : Int)] ⟨(by omega), (by assumption), (by omega), (by assumption), b70⟩ fun G => b0 (S9 (p := (((b6 s).data.toList.getD k (0 : UInt8)).toNat : Int) <= 57) G (fun h4 q4 => ?_) fun h4 q4 => ?_)
  ·
   refine wp_exit (p8 (p8 (p7 (b0 (wp_seq (G7 G (n4 6 [] (hA k (aG3 hp.1 hp.2 (by assumption)))) [(4, iA (atA s).fst), (5, .v .nilIface)] [(0 : Int) <= (k : Int), (k : Int) <= ((b6 s).size : Int)] ⟨(by omega), (by omega), b70⟩ fun G => b0 (wp_seq ?_))))))); cases h5 : (b)
   · refine B2 G (y7 (fc h5 fz) [(13, 0), (14, 0), (1015, 0)]) [0, 0, 0, 4, 12, 28, 0, 124, 0, 256, 768, 1792, 3840, 7936, 16128, 32512, 4093, 69629, 204797, 524287, 1048575, 2097151] [0] [.box [.v (.string ((b6 s).extract k (b6 s).size)), bA false]] [(2, iA 0), (4, iA (atA s).fst)] [(0 : Int) <= (k : Int), (k : Int) <= ((b6 s).size : Int)] ⟨(by omega), (by omega), b70⟩ fun G => b0 (wp_seq (j3 G d7 [(2, iA (atA s).fst)] fun G => b0 (wp_ret ?_))); exact H9 G [0] (by show _ = mR [0] (aD9 s); unfold aD9; have e1 : (b6 (G4 (s, false)).snd.fst : ByteArray) = ((b6 s).extract k (b6 s).size) := (as8 (aG3 hp.1 hp.2 (by assumption))); have e2 : ((G4 (s, false)).snd.snd : Bool) = (false) := (by assumption); (first | rw [e1, e2] | simp only [e1, e2]) <;> rfl)
   refine B2 G (y7 (fc h5 fz) [(13, 0), (14, 0), (1015, 0)]) [0, 0, 0, 4, 12, 28, 0, 124, 0, 256, 768, 1792, 3840, 7936, 16128, 32512, 4093, 69629, 204797, 524287, 1048575, 2097151] [0] [.box [.v (.string ((b6 s).extract k (b6 s).size)), bA true]] [(2, iA 0), (4, iA (atA s).fst)] [(0 : Int) <= (k : Int), (k : Int) <= ((b6 s).size : Int)] ⟨(by omega), (by omega), b70⟩ fun G => b0 (wp_seq (j3 G d7 [(2, iA (atA s).fst)] fun G => b0 (wp_ret ?_))); exact H9 G [0] (by show _ = mR [0] (aD8 s); unfold aD8; have e1 : (b6 (G4 (s, true)).snd.fst : ByteArray) = ((b6 s).extract k (b6 s).size) := (as8 (aG3 hp.1 hp.2 (by assumption))); (first | rw [e1] | simp only [e1]) <;> rfl)
  refine wp_skip (b0 (wp_block (G7 G d7 [(3, iA ((k : Int) + 1))] [wO ((k : Int) + 1)] (o1 (by omega)) fun G => o9 (b0 ?_)))); exact Z9 G (k + 1) (⟨by omega, ba7 (by omega) hp.2 (by assumption) (by assumption)⟩) (by omega) [0]
abbrev aD7 (s : List UInt8) : List It := [.box [.v (.string (b6 (G4 (s, false)).snd.fst)), bA (G4 (s, false)).snd.snd]]
abbrev aD6 (s : List UInt8) : List It := [.box [.v (.string (b6 (G4 (s, true)).snd.fst)), bA (G4 (s, true)).snd.snd]]
abbrev aD5 (s : List UInt8) (k : Nat) : It := .box [.v (.string ((b6 s).extract k (b6 s).size)), bA true]
theorem bc3 (s : List UInt8) (b : Bool) (hs : s.length <= 100000000) (h : (atA s).2 = true) : j1.ok Tryz.prog (nuC s b) := by
  have hz : (b6 s).size = s.length := rfl
  have hA := fun (k : Nat) (hk : dnI s = k) => bc7 hs h k hk
  refine D2 64 Tryz.func84 [.box [.v (.string (b6 s)), bA b]] [(0, .ptr 0 0)] fun G => ?_; refine wp_seq (j3 G d7 [(2, iA 0)] fun G => b0 (wp_seq (A4 G d7 [(0, .ptr 0 0), (2, iA 0), (3, iA 0)] fun G => b0 (wp_seq (wp_block ?_))))); refine x4 (κ := Nat) (fun k => k <= s.length /\ (s.take k).all P7 = true) (fun k => s.length - k) (fun k => [.box [.v (.string (b6 s)), bA b]]) (fun k => [(0, .ptr 0 0), (2, iA 0), (3, iA k)]) 0 (by simp [h]) (w6.at G _ _) ?_; clear G; intro k ρ a w hp G; refine wp_seq (wp_seq ?_); cases h0 : (decide ((k : Int) < ((b6 s).size : Int)))
  ·
   have q0 := L3 h0; refine j3 G (y7 (fc h0 (fc (b := false) rfl fz)) (us [(8, 14, 0), (1015, 1015, 0), (17, 23, 1), (1024, 1024, 1)])) [(30, bA false)] fun G => b0 (rF G false (by kernel_rfl) (wp_exit (p8 (p8 (p7 (b0 (wp_seq (G8 G (n4 6 [] (hA k (ao9 hp.1 hp.2 (by omega)))) [0, 49] [.box [.v (.string (b6 s)), bA b], .err] [(0, .ptr 0 0), (2, iA 0), (3, iA k), (4, iA (atA s).fst), (5, .ref 1)] [(0 : Int) <= (k : Int), (k : Int) <= ((b6 s).size : Int)] ⟨(by omega), (by omega), b70⟩ fun G => b0 (wp_seq ?_))))))))); cases h1 : (b)
   · refine B2 G (y7 (fc h1 fz) [(13, 0), (14, 0), (1015, 0)]) [0, 0, 0, 4, 12, 28, 0, 124, 0, 256, 768, 1792, 3840, 7936, 16128, 32512, 4093, 69629, 204797, 524287, 1048575, 2097151] [0] [aD5 s k] [(2, iA 0), (4, iA (atA s).fst)] [(0 : Int) <= (k : Int), (k : Int) <= ((b6 s).size : Int)] ⟨(by omega), (by omega), b70⟩ fun G => b0 (wp_seq (j3 G d7 [(2, iA (atA s).fst)] fun G => b0 (wp_ret ?_))); exact H9 G [0] (by show _ = mR [0] (aD7 s); unfold aD7; have e1 : (b6 (G4 (s, false)).snd.fst : ByteArray) = ((b6 s).extract k (b6 s).size) := (as8 (ao9 hp.1 hp.2 (by omega))); have e2 : ((G4 (s, false)).snd.snd : Bool) = (true) := (by assumption); (first | rw [e1, e2] | simp only [e1, e2]) <;> rfl)
   refine B2 G (y7 (fc h1 fz) [(13, 0), (14, 0), (1015, 0)]) [0, 0, 0, 4, 12, 28, 0, 124, 0, 256, 768, 1792, 3840, 7936, 16128, 32512, 4093, 69629, 204797, 524287, 1048575, 2097151] [0] [aD5 s k] [(2, iA 0), (4, iA (atA s).fst)] [(0 : Int) <= (k : Int), (k : Int) <= ((b6 s).size : Int)] ⟨(by omega), (by omega), b70⟩ fun G => b0 (wp_seq (j3 G d7 [(2, iA (atA s).fst)] fun G => b0 (wp_ret ?_))); exact H9 G [0] (by show _ = mR [0] (aD6 s); unfold aD6; have e1 : (b6 (G4 (s, true)).snd.fst : ByteArray) = ((b6 s).extract k (b6 s).size) := (as8 (ao9 hp.1 hp.2 (by omega))); (first | rw [e1] | simp only [e1]) <;> rfl)
  have q0 := L2 h0; cases h2 : (decide ((((b6 s).data.toList.getD k (0 : UInt8)).toNat : Int) >= 48))
  ·
   have q2 := L3 h2; refine G7 G (y7 (fc h0 (fc h2 fz)) (us [(8, 14, 0), (1015, 1015, 0), (17, 23, 1), (1024, 1024, 1)])) [(30, bA false)] [(0 : Int) <= (k : Int), (k : Int) < ((b6 s).size : Int)] ⟨(by omega), (by assumption), b70⟩ fun G => b0 (rF G false (by kernel_rfl) (wp_exit (p8 (p8 (p7 (b0 (wp_seq (G8 G (n4 6 [] (hA k (aG2 hp.1 hp.2 (by assumption)))) [0, 49] [.box [.v (.string (b6 s)), bA b], .err] [(0, .ptr 0 0), (2, iA 0), (3, iA k), (4, iA (atA s).fst), (5, .ref 1)] [(0 : Int) <= (k : Int), (k : Int) <= ((b6 s).size : Int)] ⟨(by omega), (by omega), b70⟩ fun G => b0 (wp_seq ?_))))))))); cases h3 : (b)
   · refine B2 G (y7 (fc h3 fz) [(13, 0), (14, 0), (1015, 0)]) [0, 0, 0, 4, 12, 28, 0, 124, 0, 256, 768, 1792, 3840, 7936, 16128, 32512, 4093, 69629, 204797, 524287, 1048575, 2097151] [0] [aD5 s k] [(2, iA 0), (4, iA (atA s).fst)] [(0 : Int) <= (k : Int), (k : Int) <= ((b6 s).size : Int)] ⟨(by omega), (by omega), b70⟩ fun G => b0 (wp_seq (j3 G d7 [(2, iA (atA s).fst)] fun G => b0 (wp_ret ?_))); exact H9 G [0] (by show _ = mR [0] (aD7 s); unfold aD7; have e1 : (b6 (G4 (s, false)).snd.fst : ByteArray) = ((b6 s).extract k (b6 s).size) := (as8 (aG2 hp.1 hp.2 (by assumption))); have e2 : ((G4 (s, false)).snd.snd : Bool) = (true) := (by assumption); (first | rw [e1, e2] | simp only [e1, e2]) <;> rfl)
   refine B2 G (y7 (fc h3 fz) [(13, 0), (14, 0), (1015, 0)]) [0, 0, 0, 4, 12, 28, 0, 124, 0, 256, 768, 1792, 3840, 7936, 16128, 32512, 4093, 69629, 204797, 524287, 1048575, 2097151] [0] [aD5 s k] [(2, iA 0), (4, iA (atA s).fst)] [(0 : Int) <= (k : Int), (k : Int) <= ((b6 s).size : Int)] ⟨(by omega), (by omega), b70⟩ fun G => b0 (wp_seq (j3 G d7 [(2, iA (atA s).fst)] fun G => b0 (wp_ret ?_))); exact H9 G [0] (by show _ = mR [0] (aD6 s); unfold aD6; have e1 : (b6 (G4 (s, true)).snd.fst : ByteArray) = ((b6 s).extract k (b6 s).size) := (as8 (aG2 hp.1 hp.2 (by assumption))); (first | rw [e1] | simp only [e1]) <;> rfl)
  have q2 := L2 h2; refine G7 G (y7 (fc h0 (fc h2 fz)) (us [(8, 14, 0), (1015, 1015, 0), (17, 23, 1), (1024, 1024, 1)])) [(30, bA (decide ((((b6 s).data.toList.getD k 0).toNat : Int) <= 57)))] [(0 : Int) <= (k : Int), (k : Int) < ((b6 s).size : Int), (0 : Int) <= (k : Int), (k : Int) < ((b6 s).size : Int)] ⟨(by omega), (by assumption), (by omega), (by assumption), b70⟩ fun G => b0 (S9 (p := (((b6 s).data.toList.getD k (0 : UInt8)).toNat : Int) <= 57) G (fun h4 q4 => ?_) fun h4 q4 => ?_)
  ·
   refine wp_exit (p8 (p8 (p7 (b0 (wp_seq (G8 G (n4 6 [] (hA k (aG3 hp.1 hp.2 (by assumption)))) [0, 49] [.box [.v (.string (b6 s)), bA b], .err] [(0, .ptr 0 0), (2, iA 0), (3, iA k), (4, iA (atA s).fst), (5, .ref 1)] [(0 : Int) <= (k : Int), (k : Int) <= ((b6 s).size : Int)] ⟨(by omega), (by omega), b70⟩ fun G => b0 (wp_seq ?_))))))); cases h5 : (b)
   · refine B2 G (y7 (fc h5 fz) [(13, 0), (14, 0), (1015, 0)]) [0, 0, 0, 4, 12, 28, 0, 124, 0, 256, 768, 1792, 3840, 7936, 16128, 32512, 4093, 69629, 204797, 524287, 1048575, 2097151] [0] [aD5 s k] [(2, iA 0), (4, iA (atA s).fst)] [(0 : Int) <= (k : Int), (k : Int) <= ((b6 s).size : Int)] ⟨(by omega), (by omega), b70⟩ fun G => b0 (wp_seq (j3 G d7 [(2, iA (atA s).fst)] fun G => b0 (wp_ret ?_))); exact H9 G [0] (by show _ = mR [0] (aD7 s); unfold aD7; have e1 : (b6 (G4 (s, false)).snd.fst : ByteArray) = ((b6 s).extract k (b6 s).size) := (as8 (aG3 hp.1 hp.2 (by assumption))); have e2 : ((G4 (s, false)).snd.snd : Bool) = (true) := (by assumption); (first | rw [e1, e2] | simp only [e1, e2]) <;> rfl)
   refine B2 G (y7 (fc h5 fz) [(13, 0), (14, 0), (1015, 0)]) [0, 0, 0, 4, 12, 28, 0, 124, 0, 256, 768, 1792, 3840, 7936, 16128, 32512, 4093, 69629, 204797, 524287, 1048575, 2097151] [0] [aD5 s k] [(2, iA 0), (4, iA (atA s).fst)] [(0 : Int) <= (k : Int), (k : Int) <= ((b6 s).size : Int)] ⟨(by omega), (by omega), b70⟩ fun G => b0 (wp_seq (j3 G d7 [(2, iA (atA s).fst)] fun G => b0 (wp_ret ?_))); exact H9 G [0] (by show _ = mR [0] (aD6 s); unfold aD6; have e1 : (b6 (G4 (s, true)).snd.fst : ByteArray) = ((b6 s).extract k (b6 s).size) := (as8 (aG3 hp.1 hp.2 (by assumption))); (first | rw [e1] | simp only [e1]) <;> rfl)
  refine wp_skip (b0 (wp_block (G7 G d7 [(3, iA ((k : Int) + 1))] [wO ((k : Int) + 1)] (o1 (by omega)) fun G => o9 (b0 ?_)))); exact Z9 G (k + 1) (⟨by omega, ba7 (by omega) hp.2 (by assumption) (by assumption)⟩) (by omega) [0]
theorem aV1 (s : List UInt8) (b : Bool) (hs : s.length <= 100000000) : j1.ok Tryz.prog (nuC s b) := by
 cases h : (atA s).2 with
 | false => exact bc2 s b hs h
 | true => exact bc3 s b hs h
end Go.Proofs.YtompcdbfongedaaGreatDoor

namespace Go.Proofs.YtompcdbfongedaaGreatDoor
open Go
section
variable {r : IR} {w : List UInt8} {f : Nat}
theorem j7 : (c6 r w).1.length <= r.1.length := by unfold c6; split <;> simp
theorem l7 : (d9 r).2.1.length <= r.1.length := by unfold d9; split <;> simp
theorem m5 : (G4 r).2.1.length <= r.1.length := by unfold G4; simp
theorem n6 : ∀ (f : Nat) (r : IR), (iE f r).2.1.length <= r.1.length
 | 0, r => by rw [iE]; exact j7 (r := (r.1, true))
 | f + 1, r => by
  rw [iE]
  split
  ·exact m5
  split
  ·exact l7
  split
  ·exact b54 j7 (b54 (n6 f _) (b54 j7 l7))
  split
  ·exact j7
  have h1 := b54 (n6 f (c6 r [40])) (j7 (r := r) (w := [40]))
  have h2 := b54 (l7 (r := (iE f (c6 r [40])).2)) h1
  dsimp only
  split
  ·exact b54 j7 (b54 (n6 f _) (b54 j7 (b54 (n6 f _) h2)))
  exact b54 j7 (b54 (n6 f _) h2)
def ia (f : Nat) (r : IR) : b7 × IR := iE f (c6 r [40])
def io (f : Nat) (r : IR) : UInt8 × IR := d9 (ia f r).2
def ib (f : Nat) (r : IR) : b7 × IR := iE f (io f r).2
def ic (f : Nat) (r : IR) : b7 × IR := iE f (c6 (ib f r).2 [58])
def ik (f : Nat) (r : IR) : b7 × IR := iE f (c6 (d9 r).2 [91])
theorem bp9 (h : P7 (F8 r) = true) : iE (f + 1) r = (⟨1, (G4 r).1, []⟩, (G4 r).2) := by rw [iE, if_pos h]
section
variable (h : P7 (F8 r) = false)
include h
theorem bp8 (h1 : ak8 (F8 r) = true) : iE (f + 1) r = (⟨2, (((d9 r).1.toNat - 97 : Nat) : Int), []⟩, (d9 r).2) := by
 rw [iE, if_neg (by rw [h]; decide), if_pos h1]
variable (h1 : ak8 (F8 r) = false)
include h1
theorem aC5 (h2 : az0 (F8 r) = true) : iE (f + 1) r = (⟨3, (((d9 r).1.toNat - 80 : Nat) : Int), [(ik f r).1]⟩, c6 (ik f r).2 [93]) := by
 rw [iE, if_neg (by rw [h]; decide), if_neg (by rw [h1]; decide), if_pos h2]; rfl
variable (h2 : az0 (F8 r) = false)
include h2
theorem ah9 (h3 : (c6 r [40]).2 = true) : iE (f + 1) r = (zE, c6 r [40]) := by
 rw [iE, if_neg (by rw [h]; decide), if_neg (by rw [h1]; decide), if_neg (by rw [h2]; decide), if_pos h3]
variable (h3 : (c6 r [40]).2 = false)
include h3
theorem ai0 (h4 : (io f r).1 = 63) : iE (f + 1) r = (⟨11, 0, [(ia f r).1, (ib f r).1, (ic f r).1]⟩, c6 (ic f r).2 [41]) := by
 rw [iE, if_neg (by rw [h]; decide), if_neg (by rw [h1]; decide), if_neg (by rw [h2]; decide), if_neg (by rw [h3]; decide)]
 exact if_pos h4
theorem ai1 (h4 : ¬ (io f r).1 = 63) : iE (f + 1) r = (⟨4 + F4 (io f r).1 [43, 45, 42, 38, 94, 61, 60] 0, 0, [(ia f r).1, (ib f r).1]⟩, c6 (ib f r).2 [41]) := by
 rw [iE, if_neg (by rw [h]; decide), if_neg (by rw [h1]; decide), if_neg (by rw [h2]; decide), if_neg (by rw [h3]; decide)]
 exact if_neg h4
end
end
end Go.Proofs.YtompcdbfongedaaGreatDoor

namespace Go.Proofs.YtompcdbfongedaaGreatDoor
open Go Go.RowKit
section
variable {x : UInt8} {r : IR}
theorem bK1 : (d9 r).1 = F8 r := by
 unfold d9
 split
 ·rename_i h; exact h.symm
 rfl
theorem bK0 : (((d9 r).1.toNat : Nat) : Int) = ((F8 r).toNat : Nat) := by rw [bK1]
theorem az9 (h : (x.toNat : Int) >= 48) (h1 : (x.toNat : Int) <= 57) : P7 x = true := by
 unfold P7; rw [decide_eq_true (by omega), decide_eq_true (by omega)]; rfl
theorem o7 (h : (x.toNat : Int) < 48 \/ 57 < (x.toNat : Int)) : P7 x = false := by
 unfold P7
 rcases h with h | h
 ·rw [decide_eq_false (by omega)]; rfl
 rw [decide_eq_false (p := x.toNat <= 57) (by omega), Bool.and_false]
theorem ag9 (h : (x.toNat : Int) >= 97) (h1 : (x.toNat : Int) <= 108) : ak8 x = true := by
 unfold ak8; rw [decide_eq_true (by omega), decide_eq_true (by omega)]; rfl
theorem o8 (h : (x.toNat : Int) < 97 \/ 108 < (x.toNat : Int)) : ak8 x = false := by
 unfold ak8
 rcases h with h | h
 ·rw [decide_eq_false (by omega)]; rfl
 rw [decide_eq_false (p := x.toNat <= 108) (by omega), Bool.and_false]
theorem Q5 (h : (x.toNat : Int) = 80 \/ (x.toNat : Int) = 81) : az0 x = true := by
 unfold az0
 rcases h with h | h
 ·rw [decide_eq_true (by omega)]; rfl
 rw [decide_eq_true (p := x.toNat = 81) (by omega), Bool.or_true]
theorem v7 (h : ¬ (x.toNat : Int) = 80) (h1 : ¬ (x.toNat : Int) = 81) : az0 x = false := by
 unfold az0; rw [decide_eq_false (by omega), decide_eq_false (by omega)]; rfl
theorem w8 {n : Int} (h : 0 <= n) (h1 : n <= 255) : IntKind.u8.wrap n = n := by
 simp only [IntKind.wrap, IntKind.bits, IntKind.signed]
 simp
 omega
theorem N5 {y : UInt8} (h : (x.toNat : Int) = (y.toNat : Nat)) : x = y := UInt8.toNat_inj.1 (by omega)
theorem R0 {y : UInt8} (h : ¬ (x.toNat : Int) = (y.toNat : Nat)) : ¬ x = y := fun e => h (by rw [e])
theorem bM6 (x : UInt8) : IntKind.i64.wrap (4 + F4 x [43, 45, 42, 38, 94, 61, 60] 0) = 4 + F4 x [43, 45, 42, 38, 94, 61, 60] 0 := by
 have h9 := a17 x [43, 45, 42, 38, 94, 61, 60] 0
 simp only [b58, b60] at h9
 exact w64 (by omega) (by omega)
theorem bI1 {s w : List UInt8} : (c6 (s, true) w).2 = true := by unfold c6; split <;> rfl
end
abbrev ieC (f : Nat) (s : List UInt8) (b : Bool) (m : Int) : j1 := ⟨82, [.ptr 0 0, iA m], [rdB s b], [.box [.v (.string (b6 (iE f (s, b)).2.1)), .v (.bool (iE f (s, b)).2.2)], .tree (.exprs (iE f (s, b)).1.kids)], .agg [iA (iE f (s, b)).1.kind, iA (iE f (s, b)).1.value, .tref 1]⟩
abbrev A8 (f : Nat) (s : List UInt8) (b : Bool) := iE f (d9 (iE f (c6 (s, b) [40])).snd).snd
abbrev bC0 (f : Nat) (s : List UInt8) (b : Bool) := c6 (iE f (c6 (A8 f s b).snd [58])).snd [41]
abbrev bO9 (f : Nat) (s : List UInt8) (b : Bool) := b6 (d9 (iE f (c6 (s, b) [40])).snd).snd.fst
abbrev bB9 (f : Nat) (s : List UInt8) (b : Bool) := c6 (iE f (c6 (d9 (s, b)).snd [91])).snd [93]
abbrev F5 (f : Nat) (s : List UInt8) (b : Bool) : List It := [.box [.v (.string (b6 (iE (f + 1) (s, b)).snd.fst)), bA (iE (f + 1) (s, b)).snd.snd], .tree (D.exprs (iE (f + 1) (s, b)).fst.kids)]
abbrev aj3 (f : Nat) (s : List UInt8) (b : Bool) : It := .tree (D.exprs ([C8 (iE f (c6 (s, b) [40])).fst] ++ [C8 (A8 f s b).fst] ++ [C8 (iE f (c6 (A8 f s b).snd [58])).fst]))
abbrev S7 (f : Nat) (s : List UInt8) (b : Bool) : It := .tree (D.exprs ([C8 (iE f (c6 (s, b) [40])).fst] ++ [C8 (A8 f s b).fst]))
abbrev C5 : It := .box [iA 0, iA 0, .v (.slice none 0 0)]
abbrev Z8 (f : Nat) (s : List UInt8) (b : Bool) : It := .tree (D.exprs [C8 (iE f (c6 (s, b) [40])).fst])
abbrev aE0 (f : Nat) (s : List UInt8) (b : Bool) : It := .tree (D.exprs [C8 (iE f (c6 (d9 (s, b)).snd [91])).fst])
abbrev X5 (f : Nat) (s : List UInt8) (b : Bool) : It := .box [.v (.string (bO9 f s b)), bA (d9 (iE f (c6 (s, b) [40])).snd).snd.snd]
abbrev an0 (f : Nat) (s : List UInt8) (b : Bool) : It := .box [iA (4 + F4 (d9 (iE f (c6 (s, b) [40])).snd).fst [43, 45, 42, 38, 94, 61, 60] 0), iA 0, .tref 2]
abbrev am9 (f : Nat) (s : List UInt8) (b : Bool) : It := .box [iA (4 + F4 (d9 (iE f (c6 (s, b) [40])).snd).fst [43, 45, 42, 38, 94, 61, 60] 0), iA 0, .tref 3]
abbrev am8 (f : Nat) (s : List UInt8) (b : Bool) : It := .box [.v (.string (b6 (c6 (A8 f s b).snd [41]).fst)), bA (c6 (A8 f s b).snd [41]).snd]
abbrev am7 (f : Nat) (s : List UInt8) (b : Bool) : It := .box [.v (.string (b6 (A8 f s b).snd.fst)), bA (A8 f s b).snd.snd]
abbrev am6 (f : Nat) (s : List UInt8) (b : Bool) : It := .box [.v (.string (b6 (bC0 f s b).fst)), bA (bC0 f s b).snd]
abbrev aW9 (f : Nat) (s : List UInt8) (b : Bool) : It := .box [.v (.string (b6 (iE f (c6 (A8 f s b).snd [58])).snd.fst)), bA (iE f (c6 (A8 f s b).snd [58])).snd.snd]
abbrev aH7 (s : List UInt8) (b : Bool) : It := .box [iA 3, iA (((d9 (s, b)).fst.toNat : Int) - 80), .v (.slice none 0 0)]
abbrev aW8 (f : Nat) (s : List UInt8) (b : Bool) : It := .box [.v (.string (b6 (iE f (c6 (s, b) [40])).snd.fst)), bA (iE f (c6 (s, b) [40])).snd.snd]
abbrev aW7 (f : Nat) (s : List UInt8) (b : Bool) : It := .box [.v (.string (b6 (c6 (A8 f s b).snd [58]).fst)), bA (c6 (A8 f s b).snd [58]).snd]
abbrev aH6 (f : Nat) (s : List UInt8) (b : Bool) : It := .box [.v (.string (b6 (bB9 f s b).fst)), bA (bB9 f s b).snd]
abbrev aH5 (s : List UInt8) (b : Bool) : It := .box [iA 3, iA (((d9 (s, b)).fst.toNat : Int) - 80), .tref 3]
abbrev t8 (m : Int) (r0 : List (Nat × AV)) : List (Nat × AV) := (0, .ptr 0 0) :: (1, iA m) :: (4, .ptr 1 0) :: r0
abbrev Z3 (r0 : List It) : List It := C5 :: .box [iA 11, iA 0, .tref 3] :: r0
theorem bZ4 (f : Nat) (hf : f <= 5) (ih : ∀ (s : List UInt8) (b : Bool) (m : Int), m = 6 - (f : Int) -> s.length <= 100000000 -> j1.ok Tryz.prog (ieC f s b m)) (s : List UInt8) (b : Bool) (m : Int) (hm : m = 6 - ((f + 1 : Nat) : Int)) (hs : s.length <= 100000000) : j1.ok Tryz.prog (ieC (f + 1) s b m) := by
  have ho : (((d9 (s, b)).1.toNat : Nat) : Int) = ((F8 (s, b)).toNat : Nat) := bK0; have hx : (F8 (s, b)).toNat < 256 := UInt8.toNat_lt _; refine D2 106 Tryz.func82 [.box [.v (.string (b6 s)), bA b]] [(0, .ptr 0 0), (1, iA m)] fun G => ?_; refine wp_seq (j5 G d7 [0, 1] [.box [.v (.string (b6 s)), bA b], C5] (t8 m []) fun G => b0 (wp_seq (wp_seq (A4 G d7 (t8 m [(10, bA (decide (m > 5)))]) fun G => b0 ?_)))); cases h0 : (decide (m > 5))
  ·
   have q0 := L3 h0; refine rF G _ h0 (wp_skip (b0 (wp_seq (wp_seq (j3 G (n4 1 [0] (ap5 s b)) [(5, .v (.int .u8 ((F8 (s, b)).toNat : Int)))] fun G => b0 (wp_block (wp_seq ?_))))))); cases h1 : (decide (((F8 (s, b)).toNat : Int) >= 48))
   ·
    have q1 := L3 h1; refine A4 G (y7 (fc h1 fz) [(3, 0), (4, 0), (1005, 0)]) (t8 m [(5, .v (.int .u8 ((F8 (s, b)).toNat : Int))), (16, bA false)]) fun G => b0 (rF G false (by kernel_rfl) (wp_seq ?_)); cases h2 : (decide (((F8 (s, b)).toNat : Int) >= 97))
    ·
     have q2 := L3 h2; refine A4 G (y7 (fc h2 fz) [(3, 0), (4, 0), (1005, 0)]) (t8 m [(5, .v (.int .u8 ((F8 (s, b)).toNat : Int))), (26, bA false)]) fun G => b0 (rF G false (by kernel_rfl) (wp_seq ?_)); cases h3 : (((F8 (s, b)).toNat : Int) == 80)
     ·
      have q3 := ne_of_beq_false h3; refine A4 G (y7 (fc h3 fz) [(3, 0), (4, 0), (1005, 0)]) (t8 m [(38, bA (((F8 (s, b)).toNat : Int) == 81))]) fun G => b0 ?_; cases h4 : (((F8 (s, b)).toNat : Int) == 81)
      ·
       have q4 := ne_of_beq_false h4; refine rF G _ h4 (wp_skip (o9 (b0 (wp_seq (j5 G (n4 1 [0] (F3 s ([40]) b (by assumption))) [0, 1] [.box [.v (.string (b6 (c6 (s, b) [40]).fst)), bA (c6 (s, b) [40]).snd], C5] (t8 m []) fun G => b0 (wp_seq (wp_seq (j3 G d7 [(66, bA (c6 (s, b) [40]).snd)] fun G => b0 (rcB (b := (c6 (s, b) [(40 : UInt8)]).snd) G (fun h5 => ?_) fun h5 => ?_)))))))))
       ·
        refine wp_skip (b0 (wp_seq (G8 G (n4 3 [0] (ih ((c6 (s, b) [40]).fst) ((c6 (s, b) [40]).snd) (m + 1) (by omega) (by repeat (first | exact hs | with_reducible refine b54 (n6 f _) ?_ | with_reducible refine b54 j7 ?_ | with_reducible refine b54 l7 ?_ | with_reducible refine b54 m5 ?_)))) [0, 1, 34, 50] [aW8 f s b, C5, Z8 f s b, .box [iA 0, iA 0, .tref 2]] (t8 m [(7, .ptr 3 0)]) [wO (m + 1)] (o1 (by omega)) fun G => b0 (wp_seq (j5 G (n4 1 [0] (aA4 ((iE f (c6 (s, b) [40])).snd.fst) ((iE f (c6 (s, b) [40])).snd.snd) (by repeat (first | exact hs | with_reducible refine b54 (n6 f _) ?_ | with_reducible refine b54 j7 ?_ | with_reducible refine b54 l7 ?_ | with_reducible refine b54 m5 ?_)))) (rg 4) [X5 f s b, C5, Z8 f s b, .box [iA 0, iA 0, .tref 2]] (t8 m [(7, .ptr 3 0), (8, .v (.int .u8 ((d9 (iE f (c6 (s, b) [40])).snd).fst.toNat : Int)))]) fun G => b0 (wp_seq (wp_seq (j3 G d7 [(77, bA (((d9 (iE f (c6 (s, b) [40])).snd).fst.toNat : Int) == 63))] fun G => b0 (rcE (u := ((d9 (iE f (c6 (s, b) [(40 : UInt8)])).snd).fst.toNat : Int)) (v := (63 : Int)) G (fun h6 q6 => ?_) fun h6 q6 => ?_)))))))))
        · refine G8 G (n4 1 [] (U9 ([43, 45, 42, 38, 94, 61, 60]) ((d9 (iE f (c6 (s, b) [40])).snd).fst) (by simp [h0, h1, h2, h3, h4, h5, h6]))) (rg 4) [X5 f s b, C5, Z8 f s b, an0 f s b] (t8 m [(7, .ptr 3 0)]) [wO ((4 : Int) + F4 (d9 (iE f (c6 (s, b) [(40 : UInt8)])).snd).fst [(43 : UInt8), (45 : UInt8), (42 : UInt8), (38 : UInt8), (94 : UInt8), (61 : UInt8), (60 : UInt8)] (0 : Int))] ⟨(bM6 _), b70⟩ fun G => b0 (wp_seq (B2 G (n4 5 [0] (ih ((d9 (iE f (c6 (s, b) [40])).snd).snd.fst) ((d9 (iE f (c6 (s, b) [40])).snd).snd.snd) (m + 1) (by omega) (by repeat (first | exact hs | with_reducible refine b54 (n6 f _) ?_ | with_reducible refine b54 j7 ?_ | with_reducible refine b54 l7 ?_ | with_reducible refine b54 m5 ?_)))) [0, 1, 0, 0, 8, 28, 60, 127, 255, 511] [0, 1, 3, 60] [am7 f s b, C5, am9 f s b, S7 f s b] [(0, .ptr 0 0), (4, .ptr 1 0), (7, .ptr 2 0)] [wO (m + 1), [C8 (iE f (c6 (s, b) [(40 : UInt8)])).fst].length + [C8 (iE f (d9 (iE f (c6 (s, b) [(40 : UInt8)])).snd).snd).fst].length <= (9223372036854775807 : Nat), ([C8 (iE f (c6 (s, b) [(40 : UInt8)])).fst].length + [C8 (iE f (d9 (iE f (c6 (s, b) [(40 : UInt8)])).snd).snd).fst].length) * (40 : Nat) <= (140737488355328 : Nat)] ⟨oW (by omega), (by simp [h0, h1, h2, h3, h4, h5, h6]), (by simp [h0, h1, h2, h3, h4, h5, h6]), b70⟩ fun G => b0 (wp_seq (j5 G (n4 1 [0] (F3 ((A8 f s b).snd.fst) ([41]) ((A8 f s b).snd.snd) (by repeat (first | exact hs | with_reducible refine b54 (n6 f _) ?_ | with_reducible refine b54 j7 ?_ | with_reducible refine b54 l7 ?_ | with_reducible refine b54 m5 ?_)))) (rg 4) [am8 f s b, C5, am9 f s b, S7 f s b] [(4, .ptr 1 0), (7, .ptr 2 0)] fun G => b0 (wp_seq (j5 G d7 [0, 1, 3] [am8 f s b, an0 f s b, S7 f s b] [(4, .ptr 1 0)] fun G => b0 (wp_ret ?_))))))); exact E0 (.agg [iA (4 + F4 (d9 (iE f (c6 (s, b) [40])).snd).fst [43, 45, 42, 38, 94, 61, 60] 0), iA 0, .tref 2]) G [0, 2] (by have e1 : ((iE (f + 1) (s, b)).fst.kind : Int) = (4 + F4 (d9 (iE f (c6 (s, b) [40])).snd).fst [43, 45, 42, 38, 94, 61, 60] 0) := (by rw [ai1 (o7 (by omega)) (o8 (by omega)) (v7 (by omega) (by omega)) (by with_reducible assumption) (R0 (by assumption))]; simp only [b7.eta]; rfl); have e2 : ((iE (f + 1) (s, b)).fst.value : Int) = (0) := (by rw [ai1 (o7 (by omega)) (o8 (by omega)) (v7 (by omega) (by omega)) (by with_reducible assumption) (R0 (by assumption))]; simp only [b7.eta]; rfl); (first | rw [e1, e2] | simp only [e1, e2]) <;> rfl) (by show _ = mR [0, 2] (F5 f s b); unfold F5; have e1 : (b6 (iE (f + 1) (s, b)).snd.fst : ByteArray) = (b6 (c6 (iE f (d9 (iE f (c6 (s, b) [40])).snd).snd).snd [41]).fst) := (by rw [ai1 (o7 (by omega)) (o8 (by omega)) (v7 (by omega) (by omega)) (by with_reducible assumption) (R0 (by assumption))]; simp only [b7.eta]; rfl); have e2 : ((iE (f + 1) (s, b)).snd.snd : Bool) = ((c6 (iE f (d9 (iE f (c6 (s, b) [40])).snd).snd).snd [41]).snd) := (by rw [ai1 (o7 (by omega)) (o8 (by omega)) (v7 (by omega) (by omega)) (by with_reducible assumption) (R0 (by assumption))]; simp only [b7.eta]; rfl); have e3 : ((iE (f + 1) (s, b)).fst.kids : List b7) = ([C8 (iE f (c6 (s, b) [40])).fst] ++ [C8 (iE f (d9 (iE f (c6 (s, b) [40])).snd).snd).fst]) := (by rw [ai1 (o7 (by omega)) (o8 (by omega)) (v7 (by omega) (by omega)) (by with_reducible assumption) (R0 (by assumption))]; simp only [b7.eta]; rfl); (first | rw [e1, e2, e3] | simp only [e1, e2, e3]) <;> rfl)
        refine wp_seq (j5 G d7 (rg 4) [X5 f s b, C5, Z8 f s b, .box [iA 11, iA 0, .tref 2]] (t8 m [(7, .ptr 3 0)]) fun G => b0 (wp_seq (B2 G (n4 5 [0] (ih ((d9 (iE f (c6 (s, b) [40])).snd).snd.fst) ((d9 (iE f (c6 (s, b) [40])).snd).snd.snd) (m + 1) (by omega) (by repeat (first | exact hs | with_reducible refine b54 (n6 f _) ?_ | with_reducible refine b54 j7 ?_ | with_reducible refine b54 l7 ?_ | with_reducible refine b54 m5 ?_)))) [0, 1, 0, 0, 8, 28, 60, 127, 255, 511] [0, 1, 3, 60] (am7 f s b :: (Z3 [S7 f s b])) (t8 m [(7, .ptr 2 0)]) [wO (m + 1), [C8 (iE f (c6 (s, b) [(40 : UInt8)])).fst].length + [C8 (iE f (d9 (iE f (c6 (s, b) [(40 : UInt8)])).snd).snd).fst].length <= (9223372036854775807 : Nat), ([C8 (iE f (c6 (s, b) [(40 : UInt8)])).fst].length + [C8 (iE f (d9 (iE f (c6 (s, b) [(40 : UInt8)])).snd).snd).fst].length) * (40 : Nat) <= (140737488355328 : Nat)] ⟨oW (by omega), (by simp [h0, h1, h2, h3, h4, h5, h6]), (by simp [h0, h1, h2, h3, h4, h5, h6]), b70⟩ fun G => b0 (j5 G (n4 1 [0] (F3 ((A8 f s b).snd.fst) ([58]) ((A8 f s b).snd.snd) (by repeat (first | exact hs | with_reducible refine b54 (n6 f _) ?_ | with_reducible refine b54 j7 ?_ | with_reducible refine b54 l7 ?_ | with_reducible refine b54 m5 ?_)))) (rg 4) (aW7 f s b :: (Z3 [S7 f s b])) (t8 m [(7, .ptr 2 0)]) fun G => b0 (wp_seq (B2 G (n4 5 [0] (ih ((c6 (A8 f s b).snd [58]).fst) ((c6 (A8 f s b).snd [58]).snd) (m + 1) (by omega) (by repeat (first | exact hs | with_reducible refine b54 (n6 f _) ?_ | with_reducible refine b54 j7 ?_ | with_reducible refine b54 l7 ?_ | with_reducible refine b54 m5 ?_)))) [0, 1, 0, 0, 8, 28, 60, 127, 255, 511] [0, 1, 2, 60] (aW9 f s b :: (Z3 [aj3 f s b])) [(0, .ptr 0 0), (4, .ptr 1 0), (7, .ptr 2 0)] [wO (m + 1), ([C8 (iE f (c6 (s, b) [(40 : UInt8)])).fst] ++ [C8 (iE f (d9 (iE f (c6 (s, b) [(40 : UInt8)])).snd).snd).fst]).length + [C8 (iE f (c6 (iE f (d9 (iE f (c6 (s, b) [(40 : UInt8)])).snd).snd).snd [(58 : UInt8)])).fst].length <= (9223372036854775807 : Nat), (([C8 (iE f (c6 (s, b) [(40 : UInt8)])).fst] ++ [C8 (iE f (d9 (iE f (c6 (s, b) [(40 : UInt8)])).snd).snd).fst]).length + [C8 (iE f (c6 (iE f (d9 (iE f (c6 (s, b) [(40 : UInt8)])).snd).snd).snd [(58 : UInt8)])).fst].length) * (40 : Nat) <= (140737488355328 : Nat)] ⟨oW (by omega), (by simp [h0, h1, h2, h3, h4, h5, h6]), (by simp [h0, h1, h2, h3, h4, h5, h6]), b70⟩ fun G => ?_))))))
        refine b0 (wp_seq (j5 G (n4 1 [0] (F3 ((iE f (c6 (A8 f s b).snd [58])).snd.fst) ([41]) ((iE f (c6 (A8 f s b).snd [58])).snd.snd) (by repeat (first | exact hs | with_reducible refine b54 (n6 f _) ?_ | with_reducible refine b54 j7 ?_ | with_reducible refine b54 l7 ?_ | with_reducible refine b54 m5 ?_)))) (rg 4) (am6 f s b :: (Z3 [aj3 f s b])) [(4, .ptr 1 0), (7, .ptr 2 0)] fun G => b0 (wp_seq (j5 G d7 [0, 1, 3] [am6 f s b, .box [iA 11, iA 0, .tref 2], aj3 f s b] [(4, .ptr 1 0)] fun G => b0 (wp_ret ?_))))); exact E0 (.agg [iA 11, iA 0, .tref 2]) G [0, 2] (by have e1 : ((iE (f + 1) (s, b)).fst.kind : Int) = (11) := (by rw [ai0 (o7 (by omega)) (o8 (by omega)) (v7 (by omega) (by omega)) (by with_reducible assumption) (N5 (by assumption))]; simp only [b7.eta]; rfl); have e2 : ((iE (f + 1) (s, b)).fst.value : Int) = (0) := (by rw [ai0 (o7 (by omega)) (o8 (by omega)) (v7 (by omega) (by omega)) (by with_reducible assumption) (N5 (by assumption))]; simp only [b7.eta]; rfl); (first | rw [e1, e2] | simp only [e1, e2]) <;> rfl) (by show _ = mR [0, 2] (F5 f s b); unfold F5; have e1 : (b6 (iE (f + 1) (s, b)).snd.fst : ByteArray) = (b6 (c6 (iE f (c6 (iE f (d9 (iE f (c6 (s, b) [40])).snd).snd).snd [58])).snd [41]).fst) := (by rw [ai0 (o7 (by omega)) (o8 (by omega)) (v7 (by omega) (by omega)) (by with_reducible assumption) (N5 (by assumption))]; simp only [b7.eta]; rfl); have e2 : ((iE (f + 1) (s, b)).snd.snd : Bool) = ((c6 (iE f (c6 (iE f (d9 (iE f (c6 (s, b) [40])).snd).snd).snd [58])).snd [41]).snd) := (by rw [ai0 (o7 (by omega)) (o8 (by omega)) (v7 (by omega) (by omega)) (by with_reducible assumption) (N5 (by assumption))]; simp only [b7.eta]; rfl); have e3 : ((iE (f + 1) (s, b)).fst.kids : List b7) = ([C8 (iE f (c6 (s, b) [40])).fst] ++ [C8 (iE f (d9 (iE f (c6 (s, b) [40])).snd).snd).fst] ++ [C8 (iE f (c6 (iE f (d9 (iE f (c6 (s, b) [40])).snd).snd).snd [58])).fst]) := (by rw [ai0 (o7 (by omega)) (o8 (by omega)) (v7 (by omega) (by omega)) (by with_reducible assumption) (N5 (by assumption))]; simp only [b7.eta]; rfl); (first | rw [e1, e2, e3] | simp only [e1, e2, e3]) <;> rfl)
       refine wp_seq (A4 G d7 (t8 m []) fun G => b0 (wp_ret (j2 ?_))); obtain ⟨ρ, G⟩ := G.nilT 2 (.exprs []) [.box [.v (.string (b6 (c6 (s, b) [40]).fst)), bA (c6 (s, b) [40]).snd], .box [iA 0, iA 0, .tref 2]] (t8 m []); exact E0 (.agg [iA 0, iA 0, .tref 2]) G [0, 2] (by have e1 : ((iE (f + 1) (s, b)).fst.kind : Int) = (0) := (by rw [ah9 (o7 (by omega)) (o8 (by omega)) (v7 (by omega) (by omega)) (by with_reducible assumption)]; rfl); have e2 : ((iE (f + 1) (s, b)).fst.value : Int) = (0) := (by rw [ah9 (o7 (by omega)) (o8 (by omega)) (v7 (by omega) (by omega)) (by with_reducible assumption)]; rfl); (first | rw [e1, e2] | simp only [e1, e2]) <;> rfl) (by show _ = mR [0, 2] (F5 f s b); unfold F5; have e1 : (b6 (iE (f + 1) (s, b)).snd.fst : ByteArray) = (b6 (c6 (s, b) [40]).fst) := (by rw [ah9 (o7 (by omega)) (o8 (by omega)) (v7 (by omega) (by omega)) (by with_reducible assumption)]); have e2 : ((iE (f + 1) (s, b)).snd.snd : Bool) = ((c6 (s, b) [40]).snd) := (by rw [ah9 (o7 (by omega)) (o8 (by omega)) (v7 (by omega) (by omega)) (by with_reducible assumption)]); rw [e1, e2, ah9 (o7 (by omega)) (o8 (by omega)) (v7 (by omega) (by omega)) (by with_reducible assumption)] <;> rfl)
      have q4 := eq_of_beq h4; exact False.elim (by omega)
     have q3 := eq_of_beq h3; exact False.elim (by omega)
    have q2 := L2 h2; exact False.elim (by omega)
   have q1 := L2 h1; refine j3 G (y7 (fc h1 fz) [(3, 0), (4, 0), (1005, 0)]) [(16, bA (decide (((F8 (s, b)).toNat : Int) <= 57)))] fun G => b0 (S9 G (fun h7 q7 => ?_) fun h7 q7 => ?_)
   ·
    refine wp_seq ?_; cases h8 : (decide (((F8 (s, b)).toNat : Int) >= 97))
    ·
     have q8 := L3 h8; refine j3 G (y7 (fc h8 fz) [(3, 0), (4, 0), (1005, 0)]) [(26, bA false)] fun G => b0 (rF G false (by kernel_rfl) (wp_seq ?_)); cases h9 : (((F8 (s, b)).toNat : Int) == 80)
     ·
      have q9 := ne_of_beq_false h9; refine j3 G (y7 (fc h9 fz) [(3, 0), (4, 0), (1005, 0)]) [(38, bA (((F8 (s, b)).toNat : Int) == 81))] fun G => b0 (rcE G (fun h10 q10 => ?_) fun h10 q10 => ?_)
      ·
       refine wp_skip (o9 (b0 (wp_seq (j5 G (n4 1 [0] (F3 s ([40]) b (by assumption))) [0, 1] [.box [.v (.string (b6 (c6 (s, b) [40]).fst)), bA (c6 (s, b) [40]).snd], C5] (t8 m []) fun G => b0 (wp_seq (wp_seq (j3 G d7 [(66, bA (c6 (s, b) [40]).snd)] fun G => b0 (rcB (b := (c6 (s, b) [(40 : UInt8)]).snd) G (fun h11 => ?_) fun h11 => ?_))))))))
       ·
        refine wp_skip (b0 (wp_seq (G8 G (n4 3 [0] (ih ((c6 (s, b) [40]).fst) ((c6 (s, b) [40]).snd) (m + 1) (by omega) (by repeat (first | exact hs | with_reducible refine b54 (n6 f _) ?_ | with_reducible refine b54 j7 ?_ | with_reducible refine b54 l7 ?_ | with_reducible refine b54 m5 ?_)))) [0, 1, 34, 50] [aW8 f s b, C5, Z8 f s b, .box [iA 0, iA 0, .tref 2]] (t8 m [(7, .ptr 3 0)]) [wO (m + 1)] (o1 (by omega)) fun G => b0 (wp_seq (j5 G (n4 1 [0] (aA4 ((iE f (c6 (s, b) [40])).snd.fst) ((iE f (c6 (s, b) [40])).snd.snd) (by repeat (first | exact hs | with_reducible refine b54 (n6 f _) ?_ | with_reducible refine b54 j7 ?_ | with_reducible refine b54 l7 ?_ | with_reducible refine b54 m5 ?_)))) (rg 4) [X5 f s b, C5, Z8 f s b, .box [iA 0, iA 0, .tref 2]] (t8 m [(7, .ptr 3 0), (8, .v (.int .u8 ((d9 (iE f (c6 (s, b) [40])).snd).fst.toNat : Int)))]) fun G => b0 (wp_seq (wp_seq (j3 G d7 [(77, bA (((d9 (iE f (c6 (s, b) [40])).snd).fst.toNat : Int) == 63))] fun G => b0 (rcE (u := ((d9 (iE f (c6 (s, b) [(40 : UInt8)])).snd).fst.toNat : Int)) (v := (63 : Int)) G (fun h12 q12 => ?_) fun h12 q12 => ?_)))))))))
        · refine G8 G (n4 1 [] (U9 ([43, 45, 42, 38, 94, 61, 60]) ((d9 (iE f (c6 (s, b) [40])).snd).fst) (by simp [h0, h1, h7, h8, h9, h10, h11, h12]))) (rg 4) [X5 f s b, C5, Z8 f s b, an0 f s b] (t8 m [(7, .ptr 3 0)]) [wO ((4 : Int) + F4 (d9 (iE f (c6 (s, b) [(40 : UInt8)])).snd).fst [(43 : UInt8), (45 : UInt8), (42 : UInt8), (38 : UInt8), (94 : UInt8), (61 : UInt8), (60 : UInt8)] (0 : Int))] ⟨(bM6 _), b70⟩ fun G => b0 (wp_seq (B2 G (n4 5 [0] (ih ((d9 (iE f (c6 (s, b) [40])).snd).snd.fst) ((d9 (iE f (c6 (s, b) [40])).snd).snd.snd) (m + 1) (by omega) (by repeat (first | exact hs | with_reducible refine b54 (n6 f _) ?_ | with_reducible refine b54 j7 ?_ | with_reducible refine b54 l7 ?_ | with_reducible refine b54 m5 ?_)))) [0, 1, 0, 0, 8, 28, 60, 127, 255, 511] [0, 1, 3, 60] [am7 f s b, C5, am9 f s b, S7 f s b] [(0, .ptr 0 0), (4, .ptr 1 0), (7, .ptr 2 0)] [wO (m + 1), [C8 (iE f (c6 (s, b) [(40 : UInt8)])).fst].length + [C8 (iE f (d9 (iE f (c6 (s, b) [(40 : UInt8)])).snd).snd).fst].length <= (9223372036854775807 : Nat), ([C8 (iE f (c6 (s, b) [(40 : UInt8)])).fst].length + [C8 (iE f (d9 (iE f (c6 (s, b) [(40 : UInt8)])).snd).snd).fst].length) * (40 : Nat) <= (140737488355328 : Nat)] ⟨oW (by omega), (by simp [h0, h1, h7, h8, h9, h10, h11, h12]), (by simp [h0, h1, h7, h8, h9, h10, h11, h12]), b70⟩ fun G => b0 (wp_seq (j5 G (n4 1 [0] (F3 ((A8 f s b).snd.fst) ([41]) ((A8 f s b).snd.snd) (by repeat (first | exact hs | with_reducible refine b54 (n6 f _) ?_ | with_reducible refine b54 j7 ?_ | with_reducible refine b54 l7 ?_ | with_reducible refine b54 m5 ?_)))) (rg 4) [am8 f s b, C5, am9 f s b, S7 f s b] [(4, .ptr 1 0), (7, .ptr 2 0)] fun G => b0 (wp_seq (j5 G d7 [0, 1, 3] [am8 f s b, an0 f s b, S7 f s b] [(4, .ptr 1 0)] fun G => b0 (wp_ret ?_))))))); exact E0 (.agg [iA (4 + F4 (d9 (iE f (c6 (s, b) [40])).snd).fst [43, 45, 42, 38, 94, 61, 60] 0), iA 0, .tref 2]) G [0, 2] (by have e1 : ((iE (f + 1) (s, b)).fst.kind : Int) = (4 + F4 (d9 (iE f (c6 (s, b) [40])).snd).fst [43, 45, 42, 38, 94, 61, 60] 0) := (by rw [ai1 (o7 (by omega)) (o8 (by omega)) (v7 (by omega) (by omega)) (by with_reducible assumption) (R0 (by assumption))]; simp only [b7.eta]; rfl); have e2 : ((iE (f + 1) (s, b)).fst.value : Int) = (0) := (by rw [ai1 (o7 (by omega)) (o8 (by omega)) (v7 (by omega) (by omega)) (by with_reducible assumption) (R0 (by assumption))]; simp only [b7.eta]; rfl); (first | rw [e1, e2] | simp only [e1, e2]) <;> rfl) (by show _ = mR [0, 2] (F5 f s b); unfold F5; have e1 : (b6 (iE (f + 1) (s, b)).snd.fst : ByteArray) = (b6 (c6 (iE f (d9 (iE f (c6 (s, b) [40])).snd).snd).snd [41]).fst) := (by rw [ai1 (o7 (by omega)) (o8 (by omega)) (v7 (by omega) (by omega)) (by with_reducible assumption) (R0 (by assumption))]; simp only [b7.eta]; rfl); have e2 : ((iE (f + 1) (s, b)).snd.snd : Bool) = ((c6 (iE f (d9 (iE f (c6 (s, b) [40])).snd).snd).snd [41]).snd) := (by rw [ai1 (o7 (by omega)) (o8 (by omega)) (v7 (by omega) (by omega)) (by with_reducible assumption) (R0 (by assumption))]; simp only [b7.eta]; rfl); have e3 : ((iE (f + 1) (s, b)).fst.kids : List b7) = ([C8 (iE f (c6 (s, b) [40])).fst] ++ [C8 (iE f (d9 (iE f (c6 (s, b) [40])).snd).snd).fst]) := (by rw [ai1 (o7 (by omega)) (o8 (by omega)) (v7 (by omega) (by omega)) (by with_reducible assumption) (R0 (by assumption))]; simp only [b7.eta]; rfl); (first | rw [e1, e2, e3] | simp only [e1, e2, e3]) <;> rfl)
        refine wp_seq (j5 G d7 (rg 4) [X5 f s b, C5, Z8 f s b, .box [iA 11, iA 0, .tref 2]] (t8 m [(7, .ptr 3 0)]) fun G => b0 (wp_seq (B2 G (n4 5 [0] (ih ((d9 (iE f (c6 (s, b) [40])).snd).snd.fst) ((d9 (iE f (c6 (s, b) [40])).snd).snd.snd) (m + 1) (by omega) (by repeat (first | exact hs | with_reducible refine b54 (n6 f _) ?_ | with_reducible refine b54 j7 ?_ | with_reducible refine b54 l7 ?_ | with_reducible refine b54 m5 ?_)))) [0, 1, 0, 0, 8, 28, 60, 127, 255, 511] [0, 1, 3, 60] (am7 f s b :: (Z3 [S7 f s b])) (t8 m [(7, .ptr 2 0)]) [wO (m + 1), [C8 (iE f (c6 (s, b) [(40 : UInt8)])).fst].length + [C8 (iE f (d9 (iE f (c6 (s, b) [(40 : UInt8)])).snd).snd).fst].length <= (9223372036854775807 : Nat), ([C8 (iE f (c6 (s, b) [(40 : UInt8)])).fst].length + [C8 (iE f (d9 (iE f (c6 (s, b) [(40 : UInt8)])).snd).snd).fst].length) * (40 : Nat) <= (140737488355328 : Nat)] ⟨oW (by omega), (by simp [h0, h1, h7, h8, h9, h10, h11, h12]), (by simp [h0, h1, h7, h8, h9, h10, h11, h12]), b70⟩ fun G => b0 (j5 G (n4 1 [0] (F3 ((A8 f s b).snd.fst) ([58]) ((A8 f s b).snd.snd) (by repeat (first | exact hs | with_reducible refine b54 (n6 f _) ?_ | with_reducible refine b54 j7 ?_ | with_reducible refine b54 l7 ?_ | with_reducible refine b54 m5 ?_)))) (rg 4) (aW7 f s b :: (Z3 [S7 f s b])) (t8 m [(7, .ptr 2 0)]) fun G => b0 (wp_seq (B2 G (n4 5 [0] (ih ((c6 (A8 f s b).snd [58]).fst) ((c6 (A8 f s b).snd [58]).snd) (m + 1) (by omega) (by repeat (first | exact hs | with_reducible refine b54 (n6 f _) ?_ | with_reducible refine b54 j7 ?_ | with_reducible refine b54 l7 ?_ | with_reducible refine b54 m5 ?_)))) [0, 1, 0, 0, 8, 28, 60, 127, 255, 511] [0, 1, 2, 60] (aW9 f s b :: (Z3 [aj3 f s b])) [(0, .ptr 0 0), (4, .ptr 1 0), (7, .ptr 2 0)] [wO (m + 1), ([C8 (iE f (c6 (s, b) [(40 : UInt8)])).fst] ++ [C8 (iE f (d9 (iE f (c6 (s, b) [(40 : UInt8)])).snd).snd).fst]).length + [C8 (iE f (c6 (iE f (d9 (iE f (c6 (s, b) [(40 : UInt8)])).snd).snd).snd [(58 : UInt8)])).fst].length <= (9223372036854775807 : Nat), (([C8 (iE f (c6 (s, b) [(40 : UInt8)])).fst] ++ [C8 (iE f (d9 (iE f (c6 (s, b) [(40 : UInt8)])).snd).snd).fst]).length + [C8 (iE f (c6 (iE f (d9 (iE f (c6 (s, b) [(40 : UInt8)])).snd).snd).snd [(58 : UInt8)])).fst].length) * (40 : Nat) <= (140737488355328 : Nat)] ⟨oW (by omega), (by simp [h0, h1, h7, h8, h9, h10, h11, h12]), (by simp [h0, h1, h7, h8, h9, h10, h11, h12]), b70⟩ fun G => ?_))))))
        refine b0 (wp_seq (j5 G (n4 1 [0] (F3 ((iE f (c6 (A8 f s b).snd [58])).snd.fst) ([41]) ((iE f (c6 (A8 f s b).snd [58])).snd.snd) (by repeat (first | exact hs | with_reducible refine b54 (n6 f _) ?_ | with_reducible refine b54 j7 ?_ | with_reducible refine b54 l7 ?_ | with_reducible refine b54 m5 ?_)))) (rg 4) (am6 f s b :: (Z3 [aj3 f s b])) [(4, .ptr 1 0), (7, .ptr 2 0)] fun G => b0 (wp_seq (j5 G d7 [0, 1, 3] [am6 f s b, .box [iA 11, iA 0, .tref 2], aj3 f s b] [(4, .ptr 1 0)] fun G => b0 (wp_ret ?_))))); exact E0 (.agg [iA 11, iA 0, .tref 2]) G [0, 2] (by have e1 : ((iE (f + 1) (s, b)).fst.kind : Int) = (11) := (by rw [ai0 (o7 (by omega)) (o8 (by omega)) (v7 (by omega) (by omega)) (by with_reducible assumption) (N5 (by assumption))]; simp only [b7.eta]; rfl); have e2 : ((iE (f + 1) (s, b)).fst.value : Int) = (0) := (by rw [ai0 (o7 (by omega)) (o8 (by omega)) (v7 (by omega) (by omega)) (by with_reducible assumption) (N5 (by assumption))]; simp only [b7.eta]; rfl); (first | rw [e1, e2] | simp only [e1, e2]) <;> rfl) (by show _ = mR [0, 2] (F5 f s b); unfold F5; have e1 : (b6 (iE (f + 1) (s, b)).snd.fst : ByteArray) = (b6 (c6 (iE f (c6 (iE f (d9 (iE f (c6 (s, b) [40])).snd).snd).snd [58])).snd [41]).fst) := (by rw [ai0 (o7 (by omega)) (o8 (by omega)) (v7 (by omega) (by omega)) (by with_reducible assumption) (N5 (by assumption))]; simp only [b7.eta]; rfl); have e2 : ((iE (f + 1) (s, b)).snd.snd : Bool) = ((c6 (iE f (c6 (iE f (d9 (iE f (c6 (s, b) [40])).snd).snd).snd [58])).snd [41]).snd) := (by rw [ai0 (o7 (by omega)) (o8 (by omega)) (v7 (by omega) (by omega)) (by with_reducible assumption) (N5 (by assumption))]; simp only [b7.eta]; rfl); have e3 : ((iE (f + 1) (s, b)).fst.kids : List b7) = ([C8 (iE f (c6 (s, b) [40])).fst] ++ [C8 (iE f (d9 (iE f (c6 (s, b) [40])).snd).snd).fst] ++ [C8 (iE f (c6 (iE f (d9 (iE f (c6 (s, b) [40])).snd).snd).snd [58])).fst]) := (by rw [ai0 (o7 (by omega)) (o8 (by omega)) (v7 (by omega) (by omega)) (by with_reducible assumption) (N5 (by assumption))]; simp only [b7.eta]; rfl); (first | rw [e1, e2, e3] | simp only [e1, e2, e3]) <;> rfl)
       refine wp_seq (A4 G d7 (t8 m []) fun G => b0 (wp_ret (j2 ?_))); obtain ⟨ρ, G⟩ := G.nilT 2 (.exprs []) [.box [.v (.string (b6 (c6 (s, b) [40]).fst)), bA (c6 (s, b) [40]).snd], .box [iA 0, iA 0, .tref 2]] (t8 m []); exact E0 (.agg [iA 0, iA 0, .tref 2]) G [0, 2] (by have e1 : ((iE (f + 1) (s, b)).fst.kind : Int) = (0) := (by rw [ah9 (o7 (by omega)) (o8 (by omega)) (v7 (by omega) (by omega)) (by with_reducible assumption)]; rfl); have e2 : ((iE (f + 1) (s, b)).fst.value : Int) = (0) := (by rw [ah9 (o7 (by omega)) (o8 (by omega)) (v7 (by omega) (by omega)) (by with_reducible assumption)]; rfl); (first | rw [e1, e2] | simp only [e1, e2]) <;> rfl) (by show _ = mR [0, 2] (F5 f s b); unfold F5; have e1 : (b6 (iE (f + 1) (s, b)).snd.fst : ByteArray) = (b6 (c6 (s, b) [40]).fst) := (by rw [ah9 (o7 (by omega)) (o8 (by omega)) (v7 (by omega) (by omega)) (by with_reducible assumption)]); have e2 : ((iE (f + 1) (s, b)).snd.snd : Bool) = ((c6 (s, b) [40]).snd) := (by rw [ah9 (o7 (by omega)) (o8 (by omega)) (v7 (by omega) (by omega)) (by with_reducible assumption)]); rw [e1, e2, ah9 (o7 (by omega)) (o8 (by omega)) (v7 (by omega) (by omega)) (by with_reducible assumption)] <;> rfl)
      refine wp_seq (G8 G (n4 1 [0] (aA4 s b (by assumption))) [0, 1, 42] [.box [.v (.string (b6 (d9 (s, b)).snd.fst)), bA (d9 (s, b)).snd.snd], C5, aH7 s b] (t8 m [(6, .ptr 2 0)]) [IntKind.u8.wrap (((d9 (s, b)).fst.toNat : Int) - 80) = ((d9 (s, b)).fst.toNat : Int) - 80, wO (((d9 (s, b)).fst.toNat : Int) - 80)] ⟨(w8 (by omega) (by omega)), (oW (by omega)), b70⟩ fun G => b0 (wp_seq (j5 G (n4 1 [0] (F3 ((d9 (s, b)).snd.fst) ([91]) ((d9 (s, b)).snd.snd) (by repeat (first | exact hs | with_reducible refine b54 (n6 f _) ?_ | with_reducible refine b54 j7 ?_ | with_reducible refine b54 l7 ?_ | with_reducible refine b54 m5 ?_)))) [0, 1, 2] [.box [.v (.string (b6 (c6 (d9 (s, b)).snd [91]).fst)), bA (c6 (d9 (s, b)).snd [91]).snd], C5, aH7 s b] (t8 m [(6, .ptr 2 0)]) fun G => b0 (wp_seq (G8 G (n4 3 [0] (ih ((c6 (d9 (s, b)).snd [91]).fst) ((c6 (d9 (s, b)).snd [91]).snd) (m + 1) (by omega) (by repeat (first | exact hs | with_reducible refine b54 (n6 f _) ?_ | with_reducible refine b54 j7 ?_ | with_reducible refine b54 l7 ?_ | with_reducible refine b54 m5 ?_)))) [0, 1, 2, 35] [.box [.v (.string (b6 (iE f (c6 (d9 (s, b)).snd [91])).snd.fst)), bA (iE f (c6 (d9 (s, b)).snd [91])).snd.snd], C5, aH5 s b, aE0 f s b] (t8 m [(6, .ptr 2 0)]) [wO (m + 1)] (o1 (by omega)) fun G => b0 (wp_seq (j5 G (n4 1 [0] (F3 ((iE f (c6 (d9 (s, b)).snd [91])).snd.fst) ([93]) ((iE f (c6 (d9 (s, b)).snd [91])).snd.snd) (by repeat (first | exact hs | with_reducible refine b54 (n6 f _) ?_ | with_reducible refine b54 j7 ?_ | with_reducible refine b54 l7 ?_ | with_reducible refine b54 m5 ?_)))) (rg 4) [aH6 f s b, C5, aH5 s b, aE0 f s b] (t8 m [(6, .ptr 2 0)]) fun G => b0 (wp_seq (j5 G d7 [0, 1, 3] [aH6 f s b, .box [iA 3, iA (((d9 (s, b)).fst.toNat : Int) - 80), .tref 2], aE0 f s b] (t8 m []) fun G => b0 (wp_ret (A2 (j2 ?_)))))))))))); exact E0 (.agg [iA 3, iA (((d9 (s, b)).fst.toNat : Int) - 80), .tref 2]) G [0, 2] (by have e1 : ((iE (f + 1) (s, b)).fst.kind : Int) = (3) := (by rw [aC5 (o7 (by omega)) (o8 (by omega)) (Q5 (by omega))]; simp only [b7.eta]; rfl); have e2 : ((iE (f + 1) (s, b)).fst.value : Int) = (((d9 (s, b)).fst.toNat : Int) - 80) := (by rw [aC5 (o7 (by omega)) (o8 (by omega)) (Q5 (by omega))]; show ((_ - _ : Nat) : Int) = _; omega); (first | rw [e1, e2] | simp only [e1, e2]) <;> rfl) (by show _ = mR [0, 2] (F5 f s b); unfold F5; have e1 : (b6 (iE (f + 1) (s, b)).snd.fst : ByteArray) = (b6 (c6 (iE f (c6 (d9 (s, b)).snd [91])).snd [93]).fst) := (by rw [aC5 (o7 (by omega)) (o8 (by omega)) (Q5 (by omega))]; simp only [b7.eta]; rfl); have e2 : ((iE (f + 1) (s, b)).snd.snd : Bool) = ((c6 (iE f (c6 (d9 (s, b)).snd [91])).snd [93]).snd) := (by rw [aC5 (o7 (by omega)) (o8 (by omega)) (Q5 (by omega))]; simp only [b7.eta]; rfl); have e3 : ((iE (f + 1) (s, b)).fst.kids : List b7) = ([C8 (iE f (c6 (d9 (s, b)).snd [91])).fst]) := (by rw [aC5 (o7 (by omega)) (o8 (by omega)) (Q5 (by omega))]; simp only [b7.eta]; rfl); (first | rw [e1, e2, e3] | simp only [e1, e2, e3]) <;> rfl)
     have q9 := eq_of_beq h9; refine j3 G (y7 (fc h9 fz) [(3, 0), (4, 0), (1005, 0)]) [(38, bA true)] fun G => b0 (rT G true (by kernel_rfl) (wp_seq (G8 G (n4 1 [0] (aA4 s b (by assumption))) [0, 1, 42] [.box [.v (.string (b6 (d9 (s, b)).snd.fst)), bA (d9 (s, b)).snd.snd], C5, aH7 s b] (t8 m [(6, .ptr 2 0)]) [IntKind.u8.wrap (((d9 (s, b)).fst.toNat : Int) - 80) = ((d9 (s, b)).fst.toNat : Int) - 80, wO (((d9 (s, b)).fst.toNat : Int) - 80)] ⟨(w8 (by omega) (by omega)), (oW (by omega)), b70⟩ fun G => b0 (wp_seq (j5 G (n4 1 [0] (F3 ((d9 (s, b)).snd.fst) ([91]) ((d9 (s, b)).snd.snd) (by repeat (first | exact hs | with_reducible refine b54 (n6 f _) ?_ | with_reducible refine b54 j7 ?_ | with_reducible refine b54 l7 ?_ | with_reducible refine b54 m5 ?_)))) [0, 1, 2] [.box [.v (.string (b6 (c6 (d9 (s, b)).snd [91]).fst)), bA (c6 (d9 (s, b)).snd [91]).snd], C5, aH7 s b] (t8 m [(6, .ptr 2 0)]) fun G => b0 (wp_seq (G8 G (n4 3 [0] (ih ((c6 (d9 (s, b)).snd [91]).fst) ((c6 (d9 (s, b)).snd [91]).snd) (m + 1) (by omega) (by repeat (first | exact hs | with_reducible refine b54 (n6 f _) ?_ | with_reducible refine b54 j7 ?_ | with_reducible refine b54 l7 ?_ | with_reducible refine b54 m5 ?_)))) [0, 1, 2, 35] [.box [.v (.string (b6 (iE f (c6 (d9 (s, b)).snd [91])).snd.fst)), bA (iE f (c6 (d9 (s, b)).snd [91])).snd.snd], C5, aH5 s b, aE0 f s b] (t8 m [(6, .ptr 2 0)]) [wO (m + 1)] (o1 (by omega)) fun G => b0 (wp_seq (j5 G (n4 1 [0] (F3 ((iE f (c6 (d9 (s, b)).snd [91])).snd.fst) ([93]) ((iE f (c6 (d9 (s, b)).snd [91])).snd.snd) (by repeat (first | exact hs | with_reducible refine b54 (n6 f _) ?_ | with_reducible refine b54 j7 ?_ | with_reducible refine b54 l7 ?_ | with_reducible refine b54 m5 ?_)))) (rg 4) [aH6 f s b, C5, aH5 s b, aE0 f s b] (t8 m [(6, .ptr 2 0)]) fun G => b0 (wp_seq (j5 G d7 [0, 1, 3] [aH6 f s b, .box [iA 3, iA (((d9 (s, b)).fst.toNat : Int) - 80), .tref 2], aE0 f s b] (t8 m []) fun G => b0 (wp_ret (A2 (j2 ?_)))))))))))))); exact E0 (.agg [iA 3, iA (((d9 (s, b)).fst.toNat : Int) - 80), .tref 2]) G [0, 2] (by have e1 : ((iE (f + 1) (s, b)).fst.kind : Int) = (3) := (by rw [aC5 (o7 (by omega)) (o8 (by omega)) (Q5 (by omega))]; simp only [b7.eta]; rfl); have e2 : ((iE (f + 1) (s, b)).fst.value : Int) = (((d9 (s, b)).fst.toNat : Int) - 80) := (by rw [aC5 (o7 (by omega)) (o8 (by omega)) (Q5 (by omega))]; show ((_ - _ : Nat) : Int) = _; omega); (first | rw [e1, e2] | simp only [e1, e2]) <;> rfl) (by show _ = mR [0, 2] (F5 f s b); unfold F5; have e1 : (b6 (iE (f + 1) (s, b)).snd.fst : ByteArray) = (b6 (c6 (iE f (c6 (d9 (s, b)).snd [91])).snd [93]).fst) := (by rw [aC5 (o7 (by omega)) (o8 (by omega)) (Q5 (by omega))]; simp only [b7.eta]; rfl); have e2 : ((iE (f + 1) (s, b)).snd.snd : Bool) = ((c6 (iE f (c6 (d9 (s, b)).snd [91])).snd [93]).snd) := (by rw [aC5 (o7 (by omega)) (o8 (by omega)) (Q5 (by omega))]; simp only [b7.eta]; rfl); have e3 : ((iE (f + 1) (s, b)).fst.kids : List b7) = ([C8 (iE f (c6 (d9 (s, b)).snd [91])).fst]) := (by rw [aC5 (o7 (by omega)) (o8 (by omega)) (Q5 (by omega))]; simp only [b7.eta]; rfl); (first | rw [e1, e2, e3] | simp only [e1, e2, e3]) <;> rfl)
    have q8 := L2 h8; refine A4 G (y7 (fc h8 fz) [(3, 0), (4, 0), (1005, 0)]) (t8 m [(5, .v (.int .u8 ((F8 (s, b)).toNat : Int))), (26, bA (decide (((F8 (s, b)).toNat : Int) <= 108)))]) fun G => b0 (S9 G (fun h13 q13 => ?_) fun h13 q13 => ?_)
    ·
     refine wp_seq ?_; cases h14 : (((F8 (s, b)).toNat : Int) == 80)
     ·
      have q14 := ne_of_beq_false h14; refine A4 G (y7 (fc h14 fz) [(3, 0), (4, 0), (1005, 0)]) (t8 m [(38, bA (((F8 (s, b)).toNat : Int) == 81))]) fun G => b0 ?_; cases h15 : (((F8 (s, b)).toNat : Int) == 81)
      ·
       have q15 := ne_of_beq_false h15; refine rF G _ h15 (wp_skip (o9 (b0 (wp_seq (j5 G (n4 1 [0] (F3 s ([40]) b (by assumption))) [0, 1] [.box [.v (.string (b6 (c6 (s, b) [40]).fst)), bA (c6 (s, b) [40]).snd], C5] (t8 m []) fun G => b0 (wp_seq (wp_seq (j3 G d7 [(66, bA (c6 (s, b) [40]).snd)] fun G => b0 (rcB (b := (c6 (s, b) [(40 : UInt8)]).snd) G (fun h16 => ?_) fun h16 => ?_)))))))))
       ·
        refine wp_skip (b0 (wp_seq (G8 G (n4 3 [0] (ih ((c6 (s, b) [40]).fst) ((c6 (s, b) [40]).snd) (m + 1) (by omega) (by repeat (first | exact hs | with_reducible refine b54 (n6 f _) ?_ | with_reducible refine b54 j7 ?_ | with_reducible refine b54 l7 ?_ | with_reducible refine b54 m5 ?_)))) [0, 1, 34, 50] [aW8 f s b, C5, Z8 f s b, .box [iA 0, iA 0, .tref 2]] (t8 m [(7, .ptr 3 0)]) [wO (m + 1)] (o1 (by omega)) fun G => b0 (wp_seq (j5 G (n4 1 [0] (aA4 ((iE f (c6 (s, b) [40])).snd.fst) ((iE f (c6 (s, b) [40])).snd.snd) (by repeat (first | exact hs | with_reducible refine b54 (n6 f _) ?_ | with_reducible refine b54 j7 ?_ | with_reducible refine b54 l7 ?_ | with_reducible refine b54 m5 ?_)))) (rg 4) [X5 f s b, C5, Z8 f s b, .box [iA 0, iA 0, .tref 2]] (t8 m [(7, .ptr 3 0), (8, .v (.int .u8 ((d9 (iE f (c6 (s, b) [40])).snd).fst.toNat : Int)))]) fun G => b0 (wp_seq (wp_seq (j3 G d7 [(77, bA (((d9 (iE f (c6 (s, b) [40])).snd).fst.toNat : Int) == 63))] fun G => b0 (rcE (u := ((d9 (iE f (c6 (s, b) [(40 : UInt8)])).snd).fst.toNat : Int)) (v := (63 : Int)) G (fun h17 q17 => ?_) fun h17 q17 => ?_)))))))))
        · refine G8 G (n4 1 [] (U9 ([43, 45, 42, 38, 94, 61, 60]) ((d9 (iE f (c6 (s, b) [40])).snd).fst) (by simp [h0, h1, h7, h8, h13, h14, h15, h16, h17]))) (rg 4) [X5 f s b, C5, Z8 f s b, an0 f s b] (t8 m [(7, .ptr 3 0)]) [wO ((4 : Int) + F4 (d9 (iE f (c6 (s, b) [(40 : UInt8)])).snd).fst [(43 : UInt8), (45 : UInt8), (42 : UInt8), (38 : UInt8), (94 : UInt8), (61 : UInt8), (60 : UInt8)] (0 : Int))] ⟨(bM6 _), b70⟩ fun G => b0 (wp_seq (B2 G (n4 5 [0] (ih ((d9 (iE f (c6 (s, b) [40])).snd).snd.fst) ((d9 (iE f (c6 (s, b) [40])).snd).snd.snd) (m + 1) (by omega) (by repeat (first | exact hs | with_reducible refine b54 (n6 f _) ?_ | with_reducible refine b54 j7 ?_ | with_reducible refine b54 l7 ?_ | with_reducible refine b54 m5 ?_)))) [0, 1, 0, 0, 8, 28, 60, 127, 255, 511] [0, 1, 3, 60] [am7 f s b, C5, am9 f s b, S7 f s b] [(0, .ptr 0 0), (4, .ptr 1 0), (7, .ptr 2 0)] [wO (m + 1), [C8 (iE f (c6 (s, b) [(40 : UInt8)])).fst].length + [C8 (iE f (d9 (iE f (c6 (s, b) [(40 : UInt8)])).snd).snd).fst].length <= (9223372036854775807 : Nat), ([C8 (iE f (c6 (s, b) [(40 : UInt8)])).fst].length + [C8 (iE f (d9 (iE f (c6 (s, b) [(40 : UInt8)])).snd).snd).fst].length) * (40 : Nat) <= (140737488355328 : Nat)] ⟨oW (by omega), (by simp [h0, h1, h7, h8, h13, h14, h15, h16, h17]), (by simp [h0, h1, h7, h8, h13, h14, h15, h16, h17]), b70⟩ fun G => b0 (wp_seq (j5 G (n4 1 [0] (F3 ((A8 f s b).snd.fst) ([41]) ((A8 f s b).snd.snd) (by repeat (first | exact hs | with_reducible refine b54 (n6 f _) ?_ | with_reducible refine b54 j7 ?_ | with_reducible refine b54 l7 ?_ | with_reducible refine b54 m5 ?_)))) (rg 4) [am8 f s b, C5, am9 f s b, S7 f s b] [(4, .ptr 1 0), (7, .ptr 2 0)] fun G => b0 (wp_seq (j5 G d7 [0, 1, 3] [am8 f s b, an0 f s b, S7 f s b] [(4, .ptr 1 0)] fun G => b0 (wp_ret ?_))))))); exact E0 (.agg [iA (4 + F4 (d9 (iE f (c6 (s, b) [40])).snd).fst [43, 45, 42, 38, 94, 61, 60] 0), iA 0, .tref 2]) G [0, 2] (by have e1 : ((iE (f + 1) (s, b)).fst.kind : Int) = (4 + F4 (d9 (iE f (c6 (s, b) [40])).snd).fst [43, 45, 42, 38, 94, 61, 60] 0) := (by rw [ai1 (o7 (by omega)) (o8 (by omega)) (v7 (by omega) (by omega)) (by with_reducible assumption) (R0 (by assumption))]; simp only [b7.eta]; rfl); have e2 : ((iE (f + 1) (s, b)).fst.value : Int) = (0) := (by rw [ai1 (o7 (by omega)) (o8 (by omega)) (v7 (by omega) (by omega)) (by with_reducible assumption) (R0 (by assumption))]; simp only [b7.eta]; rfl); (first | rw [e1, e2] | simp only [e1, e2]) <;> rfl) (by show _ = mR [0, 2] (F5 f s b); unfold F5; have e1 : (b6 (iE (f + 1) (s, b)).snd.fst : ByteArray) = (b6 (c6 (iE f (d9 (iE f (c6 (s, b) [40])).snd).snd).snd [41]).fst) := (by rw [ai1 (o7 (by omega)) (o8 (by omega)) (v7 (by omega) (by omega)) (by with_reducible assumption) (R0 (by assumption))]; simp only [b7.eta]; rfl); have e2 : ((iE (f + 1) (s, b)).snd.snd : Bool) = ((c6 (iE f (d9 (iE f (c6 (s, b) [40])).snd).snd).snd [41]).snd) := (by rw [ai1 (o7 (by omega)) (o8 (by omega)) (v7 (by omega) (by omega)) (by with_reducible assumption) (R0 (by assumption))]; simp only [b7.eta]; rfl); have e3 : ((iE (f + 1) (s, b)).fst.kids : List b7) = ([C8 (iE f (c6 (s, b) [40])).fst] ++ [C8 (iE f (d9 (iE f (c6 (s, b) [40])).snd).snd).fst]) := (by rw [ai1 (o7 (by omega)) (o8 (by omega)) (v7 (by omega) (by omega)) (by with_reducible assumption) (R0 (by assumption))]; simp only [b7.eta]; rfl); (first | rw [e1, e2, e3] | simp only [e1, e2, e3]) <;> rfl)
        refine wp_seq (j5 G d7 (rg 4) [X5 f s b, C5, Z8 f s b, .box [iA 11, iA 0, .tref 2]] (t8 m [(7, .ptr 3 0)]) fun G => b0 (wp_seq (B2 G (n4 5 [0] (ih ((d9 (iE f (c6 (s, b) [40])).snd).snd.fst) ((d9 (iE f (c6 (s, b) [40])).snd).snd.snd) (m + 1) (by omega) (by repeat (first | exact hs | with_reducible refine b54 (n6 f _) ?_ | with_reducible refine b54 j7 ?_ | with_reducible refine b54 l7 ?_ | with_reducible refine b54 m5 ?_)))) [0, 1, 0, 0, 8, 28, 60, 127, 255, 511] [0, 1, 3, 60] (am7 f s b :: (Z3 [S7 f s b])) (t8 m [(7, .ptr 2 0)]) [wO (m + 1), [C8 (iE f (c6 (s, b) [(40 : UInt8)])).fst].length + [C8 (iE f (d9 (iE f (c6 (s, b) [(40 : UInt8)])).snd).snd).fst].length <= (9223372036854775807 : Nat), ([C8 (iE f (c6 (s, b) [(40 : UInt8)])).fst].length + [C8 (iE f (d9 (iE f (c6 (s, b) [(40 : UInt8)])).snd).snd).fst].length) * (40 : Nat) <= (140737488355328 : Nat)] ⟨oW (by omega), (by simp [h0, h1, h7, h8, h13, h14, h15, h16, h17]), (by simp [h0, h1, h7, h8, h13, h14, h15, h16, h17]), b70⟩ fun G => b0 (j5 G (n4 1 [0] (F3 ((A8 f s b).snd.fst) ([58]) ((A8 f s b).snd.snd) (by repeat (first | exact hs | with_reducible refine b54 (n6 f _) ?_ | with_reducible refine b54 j7 ?_ | with_reducible refine b54 l7 ?_ | with_reducible refine b54 m5 ?_)))) (rg 4) (aW7 f s b :: (Z3 [S7 f s b])) (t8 m [(7, .ptr 2 0)]) fun G => b0 (wp_seq (B2 G (n4 5 [0] (ih ((c6 (A8 f s b).snd [58]).fst) ((c6 (A8 f s b).snd [58]).snd) (m + 1) (by omega) (by repeat (first | exact hs | with_reducible refine b54 (n6 f _) ?_ | with_reducible refine b54 j7 ?_ | with_reducible refine b54 l7 ?_ | with_reducible refine b54 m5 ?_)))) [0, 1, 0, 0, 8, 28, 60, 127, 255, 511] [0, 1, 2, 60] (aW9 f s b :: (Z3 [aj3 f s b])) [(0, .ptr 0 0), (4, .ptr 1 0), (7, .ptr 2 0)] [wO (m + 1), ([C8 (iE f (c6 (s, b) [(40 : UInt8)])).fst] ++ [C8 (iE f (d9 (iE f (c6 (s, b) [(40 : UInt8)])).snd).snd).fst]).length + [C8 (iE f (c6 (iE f (d9 (iE f (c6 (s, b) [(40 : UInt8)])).snd).snd).snd [(58 : UInt8)])).fst].length <= (9223372036854775807 : Nat), (([C8 (iE f (c6 (s, b) [(40 : UInt8)])).fst] ++ [C8 (iE f (d9 (iE f (c6 (s, b) [(40 : UInt8)])).snd).snd).fst]).length + [C8 (iE f (c6 (iE f (d9 (iE f (c6 (s, b) [(40 : UInt8)])).snd).snd).snd [(58 : UInt8)])).fst].length) * (40 : Nat) <= (140737488355328 : Nat)] ⟨oW (by omega), (by simp [h0, h1, h7, h8, h13, h14, h15, h16, h17]), (by simp [h0, h1, h7, h8, h13, h14, h15, h16, h17]), b70⟩ fun G => ?_))))))
        refine b0 (wp_seq (j5 G (n4 1 [0] (F3 ((iE f (c6 (A8 f s b).snd [58])).snd.fst) ([41]) ((iE f (c6 (A8 f s b).snd [58])).snd.snd) (by repeat (first | exact hs | with_reducible refine b54 (n6 f _) ?_ | with_reducible refine b54 j7 ?_ | with_reducible refine b54 l7 ?_ | with_reducible refine b54 m5 ?_)))) (rg 4) (am6 f s b :: (Z3 [aj3 f s b])) [(4, .ptr 1 0), (7, .ptr 2 0)] fun G => b0 (wp_seq (j5 G d7 [0, 1, 3] [am6 f s b, .box [iA 11, iA 0, .tref 2], aj3 f s b] [(4, .ptr 1 0)] fun G => b0 (wp_ret ?_))))); exact E0 (.agg [iA 11, iA 0, .tref 2]) G [0, 2] (by have e1 : ((iE (f + 1) (s, b)).fst.kind : Int) = (11) := (by rw [ai0 (o7 (by omega)) (o8 (by omega)) (v7 (by omega) (by omega)) (by with_reducible assumption) (N5 (by assumption))]; simp only [b7.eta]; rfl); have e2 : ((iE (f + 1) (s, b)).fst.value : Int) = (0) := (by rw [ai0 (o7 (by omega)) (o8 (by omega)) (v7 (by omega) (by omega)) (by with_reducible assumption) (N5 (by assumption))]; simp only [b7.eta]; rfl); (first | rw [e1, e2] | simp only [e1, e2]) <;> rfl) (by show _ = mR [0, 2] (F5 f s b); unfold F5; have e1 : (b6 (iE (f + 1) (s, b)).snd.fst : ByteArray) = (b6 (c6 (iE f (c6 (iE f (d9 (iE f (c6 (s, b) [40])).snd).snd).snd [58])).snd [41]).fst) := (by rw [ai0 (o7 (by omega)) (o8 (by omega)) (v7 (by omega) (by omega)) (by with_reducible assumption) (N5 (by assumption))]; simp only [b7.eta]; rfl); have e2 : ((iE (f + 1) (s, b)).snd.snd : Bool) = ((c6 (iE f (c6 (iE f (d9 (iE f (c6 (s, b) [40])).snd).snd).snd [58])).snd [41]).snd) := (by rw [ai0 (o7 (by omega)) (o8 (by omega)) (v7 (by omega) (by omega)) (by with_reducible assumption) (N5 (by assumption))]; simp only [b7.eta]; rfl); have e3 : ((iE (f + 1) (s, b)).fst.kids : List b7) = ([C8 (iE f (c6 (s, b) [40])).fst] ++ [C8 (iE f (d9 (iE f (c6 (s, b) [40])).snd).snd).fst] ++ [C8 (iE f (c6 (iE f (d9 (iE f (c6 (s, b) [40])).snd).snd).snd [58])).fst]) := (by rw [ai0 (o7 (by omega)) (o8 (by omega)) (v7 (by omega) (by omega)) (by with_reducible assumption) (N5 (by assumption))]; simp only [b7.eta]; rfl); (first | rw [e1, e2, e3] | simp only [e1, e2, e3]) <;> rfl)
       refine wp_seq (A4 G d7 (t8 m []) fun G => b0 (wp_ret (j2 ?_))); obtain ⟨ρ, G⟩ := G.nilT 2 (.exprs []) [.box [.v (.string (b6 (c6 (s, b) [40]).fst)), bA (c6 (s, b) [40]).snd], .box [iA 0, iA 0, .tref 2]] (t8 m []); exact E0 (.agg [iA 0, iA 0, .tref 2]) G [0, 2] (by have e1 : ((iE (f + 1) (s, b)).fst.kind : Int) = (0) := (by rw [ah9 (o7 (by omega)) (o8 (by omega)) (v7 (by omega) (by omega)) (by with_reducible assumption)]; rfl); have e2 : ((iE (f + 1) (s, b)).fst.value : Int) = (0) := (by rw [ah9 (o7 (by omega)) (o8 (by omega)) (v7 (by omega) (by omega)) (by with_reducible assumption)]; rfl); (first | rw [e1, e2] | simp only [e1, e2]) <;> rfl) (by show _ = mR [0, 2] (F5 f s b); unfold F5; have e1 : (b6 (iE (f + 1) (s, b)).snd.fst : ByteArray) = (b6 (c6 (s, b) [40]).fst) := (by rw [ah9 (o7 (by omega)) (o8 (by omega)) (v7 (by omega) (by omega)) (by with_reducible assumption)]); have e2 : ((iE (f + 1) (s, b)).snd.snd : Bool) = ((c6 (s, b) [40]).snd) := (by rw [ah9 (o7 (by omega)) (o8 (by omega)) (v7 (by omega) (by omega)) (by with_reducible assumption)]); rw [e1, e2, ah9 (o7 (by omega)) (o8 (by omega)) (v7 (by omega) (by omega)) (by with_reducible assumption)] <;> rfl)
      have q15 := eq_of_beq h15; exact False.elim (by omega)
     have q14 := eq_of_beq h14; exact False.elim (by omega)
    refine wp_seq (G8 G (n4 1 [0] (aA4 s b (by assumption))) [0, 1] [.box [.v (.string (b6 (d9 (s, b)).snd.fst)), bA (d9 (s, b)).snd.snd], .box [iA 2, iA (((d9 (s, b)).fst.toNat : Int) - 97), .v (.slice none 0 0)]] (t8 m []) [IntKind.u8.wrap (((d9 (s, b)).fst.toNat : Int) - 97) = ((d9 (s, b)).fst.toNat : Int) - 97, wO (((d9 (s, b)).fst.toNat : Int) - 97)] ⟨(w8 (by omega) (by omega)), (oW (by omega)), b70⟩ fun G => b0 (wp_ret (A2 (j2 ?_)))); obtain ⟨ρ, G⟩ := G.nilT 2 (.exprs []) [.box [.v (.string (b6 (d9 (s, b)).snd.fst)), bA (d9 (s, b)).snd.snd], .box [iA 2, iA (((d9 (s, b)).fst.toNat : Int) - 97), .tref 2]] (t8 m []); exact E0 (.agg [iA 2, iA (((d9 (s, b)).fst.toNat : Int) - 97), .tref 2]) G [0, 2] (by have e1 : ((iE (f + 1) (s, b)).fst.kind : Int) = (2) := (by rw [bp8 (o7 (by omega)) (ag9 (by omega) (by omega))]; rfl); have e2 : ((iE (f + 1) (s, b)).fst.value : Int) = (((d9 (s, b)).fst.toNat : Int) - 97) := (by rw [bp8 (o7 (by omega)) (ag9 (by omega) (by omega))]; show ((_ - _ : Nat) : Int) = _; omega); (first | rw [e1, e2] | simp only [e1, e2]) <;> rfl) (by show _ = mR [0, 2] (F5 f s b); unfold F5; have e1 : (b6 (iE (f + 1) (s, b)).snd.fst : ByteArray) = (b6 (d9 (s, b)).snd.fst) := (by rw [bp8 (o7 (by omega)) (ag9 (by omega) (by omega))]); have e2 : ((iE (f + 1) (s, b)).snd.snd : Bool) = ((d9 (s, b)).snd.snd) := (by rw [bp8 (o7 (by omega)) (ag9 (by omega) (by omega))]); rw [e1, e2, bp8 (o7 (by omega)) (ag9 (by omega) (by omega))] <;> rfl)
   refine wp_seq (j5 G (n4 1 [0] (aV1 s b (by assumption))) [0, 1] [.box [.v (.string (b6 (G4 (s, b)).snd.fst)), bA (G4 (s, b)).snd.snd], .box [iA 1, iA (G4 (s, b)).fst, .v (.slice none 0 0)]] (t8 m []) fun G => b0 (wp_ret (A2 (j2 ?_)))); obtain ⟨ρ, G⟩ := G.nilT 2 (.exprs []) [.box [.v (.string (b6 (G4 (s, b)).snd.fst)), bA (G4 (s, b)).snd.snd], .box [iA 1, iA (G4 (s, b)).fst, .tref 2]] (t8 m []); exact E0 (.agg [iA 1, iA (G4 (s, b)).fst, .tref 2]) G [0, 2] (by have e1 : ((iE (f + 1) (s, b)).fst.kind : Int) = (1) := (by rw [bp9 (az9 (by omega) (by omega))]; rfl); have e2 : ((iE (f + 1) (s, b)).fst.value : Int) = ((G4 (s, b)).fst) := (by rw [bp9 (az9 (by omega) (by omega))]; rfl); (first | rw [e1, e2] | simp only [e1, e2]) <;> rfl) (by show _ = mR [0, 2] (F5 f s b); unfold F5; have e1 : (b6 (iE (f + 1) (s, b)).snd.fst : ByteArray) = (b6 (G4 (s, b)).snd.fst) := (by rw [bp9 (az9 (by omega) (by omega))]); have e2 : ((iE (f + 1) (s, b)).snd.snd : Bool) = ((G4 (s, b)).snd.snd) := (by rw [bp9 (az9 (by omega) (by omega))]); rw [e1, e2, bp9 (az9 (by omega) (by omega))] <;> rfl)
  have q0 := L2 h0; exact False.elim (by omega)
end Go.Proofs.YtompcdbfongedaaGreatDoor
