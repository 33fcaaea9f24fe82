/- Part 5: functions on the way, plain laws. Conditions: as said. -/
import Derived.Shelf.Strings.SplitCore
import Derived.Shelf.Strings.Search3
import Derived.Shelf.Strings.Count
import Derived.Lib.SplitLaws
import Derived.Test.YtompcdbfongedaaGreatDoorK1
import Derived.Test.YtompcdbfongedaaGreatDoorK2
import Derived.Test.YtompcdbfongedaaGreatDoorK3
import Derived.Test.YtompcdbfongedaaGreatDoorK4
set_option maxRecDepth 100000
set_option maxHeartbeats 16000000
set_option linter.unusedVariables false
set_option linter.unusedSimpArgs false
open Bool renaming and_eq_true → bO8, eq_iff_iff → bR9, not_eq_false' → bQ2, not_eq_true' → bQ1
open Inhabited renaming default → bP0
open List renaming all_eq_true → bQ0, append_assoc → bR5, getD_eq_getElem?_getD → bP1, getElem?_append_left → bS6, getElem?_eq_some_iff → bP8, getElem?_map → bQ8, getElem_mem → bP5, length_append → bQ7, length_cons → bO9, length_nil → bP2, map → bR8, map_cons → bS0, mem_append → bR0, mem_cons → bR2, mem_cons_of_mem → bR1, mem_cons_self → bQ4, mem_of_getElem? → bQ5, size_toArray → bP4, take → bP6, take_of_length_le → bQ3
open Nat renaming le_refl → bP9, le_trans → bO6, pow_le_pow_right → bS3, zero_le → bR3
open True renaming intro → bP7

namespace Go.Proofs.YtompcdbfongedaaGreatDoor
open Go Go.RowKit
abbrev ieC (f : Nat) (s : List UInt8) (b : Bool) (m : Int) : r7 := ⟨82, [.ptr 0 0, iA m], [rdB s b], [.box [.v (.string (b5 (iE f (s, b)).2.1)), .v (.bool (iE f (s, b)).2.2)], .tree (.exprs (iE f (s, b)).1.kids)], .agg [iA (iE f (s, b)).1.kind, iA (iE f (s, b)).1.value, .tref 1]⟩
abbrev C8 (f : Nat) (s : List UInt8) (b : Bool) := iE f (l0 (iE f (f8 (s, b) [40])).snd).snd
abbrev bt4 (f : Nat) (s : List UInt8) (b : Bool) := f8 (iE f (f8 (C8 f s b).snd [58])).snd [41]
abbrev bD8 (f : Nat) (s : List UInt8) (b : Bool) := b5 (l0 (iE f (f8 (s, b) [40])).snd).snd.fst
abbrev bt3 (f : Nat) (s : List UInt8) (b : Bool) := f8 (iE f (f8 (l0 (s, b)).snd [91])).snd [93]
abbrev I6 (f : Nat) (s : List UInt8) (b : Bool) : List It := [.box [.v (.string (b5 (iE (f + 1) (s, b)).snd.fst)), bA (iE (f + 1) (s, b)).snd.snd], .tree (D.exprs (iE (f + 1) (s, b)).fst.kids)]
abbrev aj1 (f : Nat) (s : List UInt8) (b : Bool) : It := .tree (D.exprs ([H6 (iE f (f8 (s, b) [40])).fst] ++ [H6 (C8 f s b).fst] ++ [H6 (iE f (f8 (C8 f s b).snd [58])).fst]))
abbrev U4 (f : Nat) (s : List UInt8) (b : Bool) : It := .tree (D.exprs ([H6 (iE f (f8 (s, b) [40])).fst] ++ [H6 (C8 f s b).fst]))
abbrev E9 : It := .box [iA 0, iA 0, .v (.slice none 0 0)]
abbrev ab6 (f : Nat) (s : List UInt8) (b : Bool) : It := .tree (D.exprs [H6 (iE f (f8 (s, b) [40])).fst])
abbrev aD8 (f : Nat) (s : List UInt8) (b : Bool) : It := .tree (D.exprs [H6 (iE f (f8 (l0 (s, b)).snd [91])).fst])
abbrev Z1 (f : Nat) (s : List UInt8) (b : Bool) : It := .box [.v (.string (bD8 f s b)), bA (l0 (iE f (f8 (s, b) [40])).snd).snd.snd]
abbrev am8 (f : Nat) (s : List UInt8) (b : Bool) : It := .box [iA (4 + I5 (l0 (iE f (f8 (s, b) [40])).snd).fst [43, 45, 42, 38, 94, 61, 60] 0), iA 0, .tref 2]
abbrev am7 (f : Nat) (s : List UInt8) (b : Bool) : It := .box [iA (4 + I5 (l0 (iE f (f8 (s, b) [40])).snd).fst [43, 45, 42, 38, 94, 61, 60] 0), iA 0, .tref 3]
abbrev am6 (f : Nat) (s : List UInt8) (b : Bool) : It := .box [.v (.string (b5 (f8 (C8 f s b).snd [41]).fst)), bA (f8 (C8 f s b).snd [41]).snd]
abbrev am5 (f : Nat) (s : List UInt8) (b : Bool) : It := .box [.v (.string (b5 (C8 f s b).snd.fst)), bA (C8 f s b).snd.snd]
abbrev am4 (f : Nat) (s : List UInt8) (b : Bool) : It := .box [.v (.string (b5 (bt4 f s b).fst)), bA (bt4 f s b).snd]
abbrev aU9 (f : Nat) (s : List UInt8) (b : Bool) : It := .box [.v (.string (b5 (iE f (f8 (C8 f s b).snd [58])).snd.fst)), bA (iE f (f8 (C8 f s b).snd [58])).snd.snd]
abbrev aH3 (s : List UInt8) (b : Bool) : It := .box [iA 3, iA (((l0 (s, b)).fst.toNat : Int) - 80), .v (.slice none 0 0)]
abbrev aU8 (f : Nat) (s : List UInt8) (b : Bool) : It := .box [.v (.string (b5 (iE f (f8 (s, b) [40])).snd.fst)), bA (iE f (f8 (s, b) [40])).snd.snd]
abbrev aU7 (f : Nat) (s : List UInt8) (b : Bool) : It := .box [.v (.string (b5 (f8 (C8 f s b).snd [58]).fst)), bA (f8 (C8 f s b).snd [58]).snd]
abbrev aH2 (f : Nat) (s : List UInt8) (b : Bool) : It := .box [.v (.string (b5 (bt3 f s b).fst)), bA (bt3 f s b).snd]
abbrev aH1 (s : List UInt8) (b : Bool) : It := .box [iA 3, iA (((l0 (s, b)).fst.toNat : Int) - 80), .tref 3]
abbrev x6 (m : Int) (r0 : List (Nat × AV)) : List (Nat × AV) := (0, .ptr 0 0) :: (1, iA m) :: (4, .ptr 1 0) :: r0
abbrev ab2 (r0 : List It) : List It := E9 :: .box [iA 11, iA 0, .tref 3] :: r0
theorem bK7 (f : Nat) (hf : f <= 5) (ih : ∀ (s : List UInt8) (b : Bool) (m : Int), m = 6 - (f : Int) -> s.length <= 100000000 -> r7.ok Tryz.prog (ieC f s b m)) (s : List UInt8) (b : Bool) (m : Int) (hm : m = 6 - ((f + 1 : Nat) : Int)) (hs : s.length <= 100000000) : r7.ok Tryz.prog (ieC (f + 1) s b m) := by
  have ho : (((l0 (s, b)).1.toNat : Nat) : Int) = ((I7 (s, b)).toNat : Nat) := bz9; have hx : (I7 (s, b)).toNat < 256 := UInt8.toNat_lt _; refine M7 106 Tryz.func82 [.box [.v (.string (b5 s)), bA b]] [(0, .ptr 0 0), (1, iA m)] fun G => ?_; refine wp_seq (r8 G m0 [0, 1] [.box [.v (.string (b5 s)), bA b], E9] (x6 m []) fun G => b0 (wp_seq (wp_seq (H8 G m0 (x6 m [(10, bA (decide (m > 5)))]) fun G => b0 ?_)))); cases h0 : (decide (m > 5))
  ·
   have q0 := R5 h0; refine rF G _ h0 (wp_skip (b0 (wp_seq (wp_seq (o0 G (x8 1 [0] (ap4 s b)) [(5, .v (.int .u8 ((I7 (s, b)).toNat : Int)))] fun G => b0 (wp_block (wp_seq ?_))))))); cases h1 : (decide (((I7 (s, b)).toNat : Int) >= 48))
   ·
    have q1 := R5 h1; refine H8 G (D7 (fc h1 fz) [(3, 0), (4, 0), (1005, 0)]) (x6 m [(5, .v (.int .u8 ((I7 (s, b)).toNat : Int))), (16, bA false)]) fun G => b0 (rF G false (by kernel_rfl) (wp_seq ?_)); cases h2 : (decide (((I7 (s, b)).toNat : Int) >= 97))
    ·
     have q2 := R5 h2; refine H8 G (D7 (fc h2 fz) [(3, 0), (4, 0), (1005, 0)]) (x6 m [(5, .v (.int .u8 ((I7 (s, b)).toNat : Int))), (26, bA false)]) fun G => b0 (rF G false (by kernel_rfl) (wp_seq ?_)); cases h3 : (((I7 (s, b)).toNat : Int) == 80)
     ·
      have q3 := ne_of_beq_false h3; refine H8 G (D7 (fc h3 fz) [(3, 0), (4, 0), (1005, 0)]) (x6 m [(38, bA (((I7 (s, b)).toNat : Int) == 81))]) fun G => b0 ?_; cases h4 : (((I7 (s, b)).toNat : Int) == 81)
      ·
       have q4 := ne_of_beq_false h4; refine rF G _ h4 (wp_skip (B9 (b0 (wp_seq (r8 G (x8 1 [0] (I3 s ([40]) b (by assumption))) [0, 1] [.box [.v (.string (b5 (f8 (s, b) [40]).fst)), bA (f8 (s, b) [40]).snd], E9] (x6 m []) fun G => b0 (wp_seq (wp_seq (o0 G m0 [(66, bA (f8 (s, b) [40]).snd)] fun G => b0 (rcB (b := (f8 (s, b) [(40 : UInt8)]).snd) G (fun h5 => ?_) fun h5 => ?_)))))))))
       ·
        refine wp_skip (b0 (wp_seq (K9 G (x8 3 [0] (ih ((f8 (s, b) [40]).fst) ((f8 (s, b) [40]).snd) (m + 1) (by omega) (by repeat (first | exact hs | with_reducible refine bO6 (s3 f _) ?_ | with_reducible refine bO6 n4 ?_ | with_reducible refine bO6 o7 ?_ | with_reducible refine bO6 p7 ?_)))) [0, 1, 34, 50] [aU8 f s b, E9, ab6 f s b, .box [iA 0, iA 0, .tref 2]] (x6 m [(7, .ptr 3 0)]) [wO (m + 1)] (o1 (by omega)) fun G => b0 (wp_seq (r8 G (x8 1 [0] (aA1 ((iE f (f8 (s, b) [40])).snd.fst) ((iE f (f8 (s, b) [40])).snd.snd) (by repeat (first | exact hs | with_reducible refine bO6 (s3 f _) ?_ | with_reducible refine bO6 n4 ?_ | with_reducible refine bO6 o7 ?_ | with_reducible refine bO6 p7 ?_)))) (rg 4) [Z1 f s b, E9, ab6 f s b, .box [iA 0, iA 0, .tref 2]] (x6 m [(7, .ptr 3 0), (8, .v (.int .u8 ((l0 (iE f (f8 (s, b) [40])).snd).fst.toNat : Int)))]) fun G => b0 (wp_seq (wp_seq (o0 G m0 [(77, bA (((l0 (iE f (f8 (s, b) [40])).snd).fst.toNat : Int) == 63))] fun G => b0 (rcE (u := ((l0 (iE f (f8 (s, b) [(40 : UInt8)])).snd).fst.toNat : Int)) (v := (63 : Int)) G (fun h6 q6 => ?_) fun h6 q6 => ?_)))))))))
        · refine K9 G (x8 1 [] (W6 ([43, 45, 42, 38, 94, 61, 60]) ((l0 (iE f (f8 (s, b) [40])).snd).fst) (by simp [h0, h1, h2, h3, h4, h5, h6]))) (rg 4) [Z1 f s b, E9, ab6 f s b, am8 f s b] (x6 m [(7, .ptr 3 0)]) [wO ((4 : Int) + I5 (l0 (iE f (f8 (s, b) [(40 : UInt8)])).snd).fst [(43 : UInt8), (45 : UInt8), (42 : UInt8), (38 : UInt8), (94 : UInt8), (61 : UInt8), (60 : UInt8)] (0 : Int))] ⟨(bC4 _), bP7⟩ fun G => b0 (wp_seq (I4 G (x8 5 [0] (ih ((l0 (iE f (f8 (s, b) [40])).snd).snd.fst) ((l0 (iE f (f8 (s, b) [40])).snd).snd.snd) (m + 1) (by omega) (by repeat (first | exact hs | with_reducible refine bO6 (s3 f _) ?_ | with_reducible refine bO6 n4 ?_ | with_reducible refine bO6 o7 ?_ | with_reducible refine bO6 p7 ?_)))) [0, 1, 0, 0, 8, 28, 60, 127, 255, 511] [0, 1, 3, 60] [am5 f s b, E9, am7 f s b, U4 f s b] [(0, .ptr 0 0), (4, .ptr 1 0), (7, .ptr 2 0)] [wO (m + 1), [H6 (iE f (f8 (s, b) [(40 : UInt8)])).fst].length + [H6 (iE f (l0 (iE f (f8 (s, b) [(40 : UInt8)])).snd).snd).fst].length <= (9223372036854775807 : Nat), ([H6 (iE f (f8 (s, b) [(40 : UInt8)])).fst].length + [H6 (iE f (l0 (iE f (f8 (s, b) [(40 : UInt8)])).snd).snd).fst].length) * (40 : Nat) <= (140737488355328 : Nat)] ⟨oW (by omega), (by simp [h0, h1, h2, h3, h4, h5, h6]), (by simp [h0, h1, h2, h3, h4, h5, h6]), bP7⟩ fun G => b0 (wp_seq (r8 G (x8 1 [0] (I3 ((C8 f s b).snd.fst) ([41]) ((C8 f s b).snd.snd) (by repeat (first | exact hs | with_reducible refine bO6 (s3 f _) ?_ | with_reducible refine bO6 n4 ?_ | with_reducible refine bO6 o7 ?_ | with_reducible refine bO6 p7 ?_)))) (rg 4) [am6 f s b, E9, am7 f s b, U4 f s b] [(4, .ptr 1 0), (7, .ptr 2 0)] fun G => b0 (wp_seq (r8 G m0 [0, 1, 3] [am6 f s b, am8 f s b, U4 f s b] [(4, .ptr 1 0)] fun G => b0 (wp_ret ?_))))))); exact K2 (.agg [iA (4 + I5 (l0 (iE f (f8 (s, b) [40])).snd).fst [43, 45, 42, 38, 94, 61, 60] 0), iA 0, .tref 2]) G [0, 2] (by have e1 : ((iE (f + 1) (s, b)).fst.kind : Int) = (4 + I5 (l0 (iE f (f8 (s, b) [40])).snd).fst [43, 45, 42, 38, 94, 61, 60] 0) := (by rw [ai2 (s8 (by omega)) (s9 (by omega)) (y5 (by omega) (by omega)) (by with_reducible assumption) (S5 (by assumption))]; simp only [b9.eta]; rfl); have e2 : ((iE (f + 1) (s, b)).fst.value : Int) = (0) := (by rw [ai2 (s8 (by omega)) (s9 (by omega)) (y5 (by omega) (by omega)) (by with_reducible assumption) (S5 (by assumption))]; simp only [b9.eta]; rfl); (first | rw [e1, e2] | simp only [e1, e2]) <;> rfl) (by show _ = mR [0, 2] (I6 f s b); unfold I6; have e1 : (b5 (iE (f + 1) (s, b)).snd.fst : ByteArray) = (b5 (f8 (iE f (l0 (iE f (f8 (s, b) [40])).snd).snd).snd [41]).fst) := (by rw [ai2 (s8 (by omega)) (s9 (by omega)) (y5 (by omega) (by omega)) (by with_reducible assumption) (S5 (by assumption))]; simp only [b9.eta]; rfl); have e2 : ((iE (f + 1) (s, b)).snd.snd : Bool) = ((f8 (iE f (l0 (iE f (f8 (s, b) [40])).snd).snd).snd [41]).snd) := (by rw [ai2 (s8 (by omega)) (s9 (by omega)) (y5 (by omega) (by omega)) (by with_reducible assumption) (S5 (by assumption))]; simp only [b9.eta]; rfl); have e3 : ((iE (f + 1) (s, b)).fst.kids : List b9) = ([H6 (iE f (f8 (s, b) [40])).fst] ++ [H6 (iE f (l0 (iE f (f8 (s, b) [40])).snd).snd).fst]) := (by rw [ai2 (s8 (by omega)) (s9 (by omega)) (y5 (by omega) (by omega)) (by with_reducible assumption) (S5 (by assumption))]; simp only [b9.eta]; rfl); (first | rw [e1, e2, e3] | simp only [e1, e2, e3]) <;> rfl)
        refine wp_seq (r8 G m0 (rg 4) [Z1 f s b, E9, ab6 f s b, .box [iA 11, iA 0, .tref 2]] (x6 m [(7, .ptr 3 0)]) fun G => b0 (wp_seq (I4 G (x8 5 [0] (ih ((l0 (iE f (f8 (s, b) [40])).snd).snd.fst) ((l0 (iE f (f8 (s, b) [40])).snd).snd.snd) (m + 1) (by omega) (by repeat (first | exact hs | with_reducible refine bO6 (s3 f _) ?_ | with_reducible refine bO6 n4 ?_ | with_reducible refine bO6 o7 ?_ | with_reducible refine bO6 p7 ?_)))) [0, 1, 0, 0, 8, 28, 60, 127, 255, 511] [0, 1, 3, 60] (am5 f s b :: (ab2 [U4 f s b])) (x6 m [(7, .ptr 2 0)]) [wO (m + 1), [H6 (iE f (f8 (s, b) [(40 : UInt8)])).fst].length + [H6 (iE f (l0 (iE f (f8 (s, b) [(40 : UInt8)])).snd).snd).fst].length <= (9223372036854775807 : Nat), ([H6 (iE f (f8 (s, b) [(40 : UInt8)])).fst].length + [H6 (iE f (l0 (iE f (f8 (s, b) [(40 : UInt8)])).snd).snd).fst].length) * (40 : Nat) <= (140737488355328 : Nat)] ⟨oW (by omega), (by simp [h0, h1, h2, h3, h4, h5, h6]), (by simp [h0, h1, h2, h3, h4, h5, h6]), bP7⟩ fun G => b0 (r8 G (x8 1 [0] (I3 ((C8 f s b).snd.fst) ([58]) ((C8 f s b).snd.snd) (by repeat (first | exact hs | with_reducible refine bO6 (s3 f _) ?_ | with_reducible refine bO6 n4 ?_ | with_reducible refine bO6 o7 ?_ | with_reducible refine bO6 p7 ?_)))) (rg 4) (aU7 f s b :: (ab2 [U4 f s b])) (x6 m [(7, .ptr 2 0)]) fun G => b0 (wp_seq (I4 G (x8 5 [0] (ih ((f8 (C8 f s b).snd [58]).fst) ((f8 (C8 f s b).snd [58]).snd) (m + 1) (by omega) (by repeat (first | exact hs | with_reducible refine bO6 (s3 f _) ?_ | with_reducible refine bO6 n4 ?_ | with_reducible refine bO6 o7 ?_ | with_reducible refine bO6 p7 ?_)))) [0, 1, 0, 0, 8, 28, 60, 127, 255, 511] [0, 1, 2, 60] (aU9 f s b :: (ab2 [aj1 f s b])) [(0, .ptr 0 0), (4, .ptr 1 0), (7, .ptr 2 0)] [wO (m + 1), ([H6 (iE f (f8 (s, b) [(40 : UInt8)])).fst] ++ [H6 (iE f (l0 (iE f (f8 (s, b) [(40 : UInt8)])).snd).snd).fst]).length + [H6 (iE f (f8 (iE f (l0 (iE f (f8 (s, b) [(40 : UInt8)])).snd).snd).snd [(58 : UInt8)])).fst].length <= (9223372036854775807 : Nat), (([H6 (iE f (f8 (s, b) [(40 : UInt8)])).fst] ++ [H6 (iE f (l0 (iE f (f8 (s, b) [(40 : UInt8)])).snd).snd).fst]).length + [H6 (iE f (f8 (iE f (l0 (iE f (f8 (s, b) [(40 : UInt8)])).snd).snd).snd [(58 : UInt8)])).fst].length) * (40 : Nat) <= (140737488355328 : Nat)] ⟨oW (by omega), (by simp [h0, h1, h2, h3, h4, h5, h6]), (by simp [h0, h1, h2, h3, h4, h5, h6]), bP7⟩ fun G => ?_))))))
        refine b0 (wp_seq (r8 G (x8 1 [0] (I3 ((iE f (f8 (C8 f s b).snd [58])).snd.fst) ([41]) ((iE f (f8 (C8 f s b).snd [58])).snd.snd) (by repeat (first | exact hs | with_reducible refine bO6 (s3 f _) ?_ | with_reducible refine bO6 n4 ?_ | with_reducible refine bO6 o7 ?_ | with_reducible refine bO6 p7 ?_)))) (rg 4) (am4 f s b :: (ab2 [aj1 f s b])) [(4, .ptr 1 0), (7, .ptr 2 0)] fun G => b0 (wp_seq (r8 G m0 [0, 1, 3] [am4 f s b, .box [iA 11, iA 0, .tref 2], aj1 f s b] [(4, .ptr 1 0)] fun G => b0 (wp_ret ?_))))); exact K2 (.agg [iA 11, iA 0, .tref 2]) G [0, 2] (by have e1 : ((iE (f + 1) (s, b)).fst.kind : Int) = (11) := (by rw [ai1 (s8 (by omega)) (s9 (by omega)) (y5 (by omega) (by omega)) (by with_reducible assumption) (O6 (by assumption))]; simp only [b9.eta]; rfl); have e2 : ((iE (f + 1) (s, b)).fst.value : Int) = (0) := (by rw [ai1 (s8 (by omega)) (s9 (by omega)) (y5 (by omega) (by omega)) (by with_reducible assumption) (O6 (by assumption))]; simp only [b9.eta]; rfl); (first | rw [e1, e2] | simp only [e1, e2]) <;> rfl) (by show _ = mR [0, 2] (I6 f s b); unfold I6; have e1 : (b5 (iE (f + 1) (s, b)).snd.fst : ByteArray) = (b5 (f8 (iE f (f8 (iE f (l0 (iE f (f8 (s, b) [40])).snd).snd).snd [58])).snd [41]).fst) := (by rw [ai1 (s8 (by omega)) (s9 (by omega)) (y5 (by omega) (by omega)) (by with_reducible assumption) (O6 (by assumption))]; simp only [b9.eta]; rfl); have e2 : ((iE (f + 1) (s, b)).snd.snd : Bool) = ((f8 (iE f (f8 (iE f (l0 (iE f (f8 (s, b) [40])).snd).snd).snd [58])).snd [41]).snd) := (by rw [ai1 (s8 (by omega)) (s9 (by omega)) (y5 (by omega) (by omega)) (by with_reducible assumption) (O6 (by assumption))]; simp only [b9.eta]; rfl); have e3 : ((iE (f + 1) (s, b)).fst.kids : List b9) = ([H6 (iE f (f8 (s, b) [40])).fst] ++ [H6 (iE f (l0 (iE f (f8 (s, b) [40])).snd).snd).fst] ++ [H6 (iE f (f8 (iE f (l0 (iE f (f8 (s, b) [40])).snd).snd).snd [58])).fst]) := (by rw [ai1 (s8 (by omega)) (s9 (by omega)) (y5 (by omega) (by omega)) (by with_reducible assumption) (O6 (by assumption))]; simp only [b9.eta]; rfl); (first | rw [e1, e2, e3] | simp only [e1, e2, e3]) <;> rfl)
       refine wp_seq (H8 G m0 (x6 m []) fun G => b0 (wp_ret (n8 ?_))); obtain ⟨ρ, G⟩ := G.nilT 2 (.exprs []) [.box [.v (.string (b5 (f8 (s, b) [40]).fst)), bA (f8 (s, b) [40]).snd], .box [iA 0, iA 0, .tref 2]] (x6 m []); exact K2 (.agg [iA 0, iA 0, .tref 2]) G [0, 2] (by have e1 : ((iE (f + 1) (s, b)).fst.kind : Int) = (0) := (by rw [ai0 (s8 (by omega)) (s9 (by omega)) (y5 (by omega) (by omega)) (by with_reducible assumption)]; rfl); have e2 : ((iE (f + 1) (s, b)).fst.value : Int) = (0) := (by rw [ai0 (s8 (by omega)) (s9 (by omega)) (y5 (by omega) (by omega)) (by with_reducible assumption)]; rfl); (first | rw [e1, e2] | simp only [e1, e2]) <;> rfl) (by show _ = mR [0, 2] (I6 f s b); unfold I6; have e1 : (b5 (iE (f + 1) (s, b)).snd.fst : ByteArray) = (b5 (f8 (s, b) [40]).fst) := (by rw [ai0 (s8 (by omega)) (s9 (by omega)) (y5 (by omega) (by omega)) (by with_reducible assumption)]); have e2 : ((iE (f + 1) (s, b)).snd.snd : Bool) = ((f8 (s, b) [40]).snd) := (by rw [ai0 (s8 (by omega)) (s9 (by omega)) (y5 (by omega) (by omega)) (by with_reducible assumption)]); rw [e1, e2, ai0 (s8 (by omega)) (s9 (by omega)) (y5 (by omega) (by omega)) (by with_reducible assumption)] <;> rfl)
      have q4 := eq_of_beq h4; exact False.elim (by omega)
     have q3 := eq_of_beq h3; exact False.elim (by omega)
    have q2 := R4 h2; exact False.elim (by omega)
   have q1 := R4 h1; refine o0 G (D7 (fc h1 fz) [(3, 0), (4, 0), (1005, 0)]) [(16, bA (decide (((I7 (s, b)).toNat : Int) <= 57)))] fun G => b0 (rcD G (fun h7 q7 => ?_) fun h7 q7 => ?_)
   ·
    refine wp_seq ?_; cases h8 : (decide (((I7 (s, b)).toNat : Int) >= 97))
    ·
     have q8 := R5 h8; refine o0 G (D7 (fc h8 fz) [(3, 0), (4, 0), (1005, 0)]) [(26, bA false)] fun G => b0 (rF G false (by kernel_rfl) (wp_seq ?_)); cases h9 : (((I7 (s, b)).toNat : Int) == 80)
     ·
      have q9 := ne_of_beq_false h9; refine o0 G (D7 (fc h9 fz) [(3, 0), (4, 0), (1005, 0)]) [(38, bA (((I7 (s, b)).toNat : Int) == 81))] fun G => b0 (rcE G (fun h10 q10 => ?_) fun h10 q10 => ?_)
      ·
       refine wp_skip (B9 (b0 (wp_seq (r8 G (x8 1 [0] (I3 s ([40]) b (by assumption))) [0, 1] [.box [.v (.string (b5 (f8 (s, b) [40]).fst)), bA (f8 (s, b) [40]).snd], E9] (x6 m []) fun G => b0 (wp_seq (wp_seq (o0 G m0 [(66, bA (f8 (s, b) [40]).snd)] fun G => b0 (rcB (b := (f8 (s, b) [(40 : UInt8)]).snd) G (fun h11 => ?_) fun h11 => ?_))))))))
       ·
        refine wp_skip (b0 (wp_seq (K9 G (x8 3 [0] (ih ((f8 (s, b) [40]).fst) ((f8 (s, b) [40]).snd) (m + 1) (by omega) (by repeat (first | exact hs | with_reducible refine bO6 (s3 f _) ?_ | with_reducible refine bO6 n4 ?_ | with_reducible refine bO6 o7 ?_ | with_reducible refine bO6 p7 ?_)))) [0, 1, 34, 50] [aU8 f s b, E9, ab6 f s b, .box [iA 0, iA 0, .tref 2]] (x6 m [(7, .ptr 3 0)]) [wO (m + 1)] (o1 (by omega)) fun G => b0 (wp_seq (r8 G (x8 1 [0] (aA1 ((iE f (f8 (s, b) [40])).snd.fst) ((iE f (f8 (s, b) [40])).snd.snd) (by repeat (first | exact hs | with_reducible refine bO6 (s3 f _) ?_ | with_reducible refine bO6 n4 ?_ | with_reducible refine bO6 o7 ?_ | with_reducible refine bO6 p7 ?_)))) (rg 4) [Z1 f s b, E9, ab6 f s b, .box [iA 0, iA 0, .tref 2]] (x6 m [(7, .ptr 3 0), (8, .v (.int .u8 ((l0 (iE f (f8 (s, b) [40])).snd).fst.toNat : Int)))]) fun G => b0 (wp_seq (wp_seq (o0 G m0 [(77, bA (((l0 (iE f (f8 (s, b) [40])).snd).fst.toNat : Int) == 63))] fun G => b0 (rcE (u := ((l0 (iE f (f8 (s, b) [(40 : UInt8)])).snd).fst.toNat : Int)) (v := (63 : Int)) G (fun h12 q12 => ?_) fun h12 q12 => ?_)))))))))
        · refine K9 G (x8 1 [] (W6 ([43, 45, 42, 38, 94, 61, 60]) ((l0 (iE f (f8 (s, b) [40])).snd).fst) (by simp [h0, h1, h7, h8, h9, h10, h11, h12]))) (rg 4) [Z1 f s b, E9, ab6 f s b, am8 f s b] (x6 m [(7, .ptr 3 0)]) [wO ((4 : Int) + I5 (l0 (iE f (f8 (s, b) [(40 : UInt8)])).snd).fst [(43 : UInt8), (45 : UInt8), (42 : UInt8), (38 : UInt8), (94 : UInt8), (61 : UInt8), (60 : UInt8)] (0 : Int))] ⟨(bC4 _), bP7⟩ fun G => b0 (wp_seq (I4 G (x8 5 [0] (ih ((l0 (iE f (f8 (s, b) [40])).snd).snd.fst) ((l0 (iE f (f8 (s, b) [40])).snd).snd.snd) (m + 1) (by omega) (by repeat (first | exact hs | with_reducible refine bO6 (s3 f _) ?_ | with_reducible refine bO6 n4 ?_ | with_reducible refine bO6 o7 ?_ | with_reducible refine bO6 p7 ?_)))) [0, 1, 0, 0, 8, 28, 60, 127, 255, 511] [0, 1, 3, 60] [am5 f s b, E9, am7 f s b, U4 f s b] [(0, .ptr 0 0), (4, .ptr 1 0), (7, .ptr 2 0)] [wO (m + 1), [H6 (iE f (f8 (s, b) [(40 : UInt8)])).fst].length + [H6 (iE f (l0 (iE f (f8 (s, b) [(40 : UInt8)])).snd).snd).fst].length <= (9223372036854775807 : Nat), ([H6 (iE f (f8 (s, b) [(40 : UInt8)])).fst].length + [H6 (iE f (l0 (iE f (f8 (s, b) [(40 : UInt8)])).snd).snd).fst].length) * (40 : Nat) <= (140737488355328 : Nat)] ⟨oW (by omega), (by simp [h0, h1, h7, h8, h9, h10, h11, h12]), (by simp [h0, h1, h7, h8, h9, h10, h11, h12]), bP7⟩ fun G => b0 (wp_seq (r8 G (x8 1 [0] (I3 ((C8 f s b).snd.fst) ([41]) ((C8 f s b).snd.snd) (by repeat (first | exact hs | with_reducible refine bO6 (s3 f _) ?_ | with_reducible refine bO6 n4 ?_ | with_reducible refine bO6 o7 ?_ | with_reducible refine bO6 p7 ?_)))) (rg 4) [am6 f s b, E9, am7 f s b, U4 f s b] [(4, .ptr 1 0), (7, .ptr 2 0)] fun G => b0 (wp_seq (r8 G m0 [0, 1, 3] [am6 f s b, am8 f s b, U4 f s b] [(4, .ptr 1 0)] fun G => b0 (wp_ret ?_))))))); exact K2 (.agg [iA (4 + I5 (l0 (iE f (f8 (s, b) [40])).snd).fst [43, 45, 42, 38, 94, 61, 60] 0), iA 0, .tref 2]) G [0, 2] (by have e1 : ((iE (f + 1) (s, b)).fst.kind : Int) = (4 + I5 (l0 (iE f (f8 (s, b) [40])).snd).fst [43, 45, 42, 38, 94, 61, 60] 0) := (by rw [ai2 (s8 (by omega)) (s9 (by omega)) (y5 (by omega) (by omega)) (by with_reducible assumption) (S5 (by assumption))]; simp only [b9.eta]; rfl); have e2 : ((iE (f + 1) (s, b)).fst.value : Int) = (0) := (by rw [ai2 (s8 (by omega)) (s9 (by omega)) (y5 (by omega) (by omega)) (by with_reducible assumption) (S5 (by assumption))]; simp only [b9.eta]; rfl); (first | rw [e1, e2] | simp only [e1, e2]) <;> rfl) (by show _ = mR [0, 2] (I6 f s b); unfold I6; have e1 : (b5 (iE (f + 1) (s, b)).snd.fst : ByteArray) = (b5 (f8 (iE f (l0 (iE f (f8 (s, b) [40])).snd).snd).snd [41]).fst) := (by rw [ai2 (s8 (by omega)) (s9 (by omega)) (y5 (by omega) (by omega)) (by with_reducible assumption) (S5 (by assumption))]; simp only [b9.eta]; rfl); have e2 : ((iE (f + 1) (s, b)).snd.snd : Bool) = ((f8 (iE f (l0 (iE f (f8 (s, b) [40])).snd).snd).snd [41]).snd) := (by rw [ai2 (s8 (by omega)) (s9 (by omega)) (y5 (by omega) (by omega)) (by with_reducible assumption) (S5 (by assumption))]; simp only [b9.eta]; rfl); have e3 : ((iE (f + 1) (s, b)).fst.kids : List b9) = ([H6 (iE f (f8 (s, b) [40])).fst] ++ [H6 (iE f (l0 (iE f (f8 (s, b) [40])).snd).snd).fst]) := (by rw [ai2 (s8 (by omega)) (s9 (by omega)) (y5 (by omega) (by omega)) (by with_reducible assumption) (S5 (by assumption))]; simp only [b9.eta]; rfl); (first | rw [e1, e2, e3] | simp only [e1, e2, e3]) <;> rfl)
        refine wp_seq (r8 G m0 (rg 4) [Z1 f s b, E9, ab6 f s b, .box [iA 11, iA 0, .tref 2]] (x6 m [(7, .ptr 3 0)]) fun G => b0 (wp_seq (I4 G (x8 5 [0] (ih ((l0 (iE f (f8 (s, b) [40])).snd).snd.fst) ((l0 (iE f (f8 (s, b) [40])).snd).snd.snd) (m + 1) (by omega) (by repeat (first | exact hs | with_reducible refine bO6 (s3 f _) ?_ | with_reducible refine bO6 n4 ?_ | with_reducible refine bO6 o7 ?_ | with_reducible refine bO6 p7 ?_)))) [0, 1, 0, 0, 8, 28, 60, 127, 255, 511] [0, 1, 3, 60] (am5 f s b :: (ab2 [U4 f s b])) (x6 m [(7, .ptr 2 0)]) [wO (m + 1), [H6 (iE f (f8 (s, b) [(40 : UInt8)])).fst].length + [H6 (iE f (l0 (iE f (f8 (s, b) [(40 : UInt8)])).snd).snd).fst].length <= (9223372036854775807 : Nat), ([H6 (iE f (f8 (s, b) [(40 : UInt8)])).fst].length + [H6 (iE f (l0 (iE f (f8 (s, b) [(40 : UInt8)])).snd).snd).fst].length) * (40 : Nat) <= (140737488355328 : Nat)] ⟨oW (by omega), (by simp [h0, h1, h7, h8, h9, h10, h11, h12]), (by simp [h0, h1, h7, h8, h9, h10, h11, h12]), bP7⟩ fun G => b0 (r8 G (x8 1 [0] (I3 ((C8 f s b).snd.fst) ([58]) ((C8 f s b).snd.snd) (by repeat (first | exact hs | with_reducible refine bO6 (s3 f _) ?_ | with_reducible refine bO6 n4 ?_ | with_reducible refine bO6 o7 ?_ | with_reducible refine bO6 p7 ?_)))) (rg 4) (aU7 f s b :: (ab2 [U4 f s b])) (x6 m [(7, .ptr 2 0)]) fun G => b0 (wp_seq (I4 G (x8 5 [0] (ih ((f8 (C8 f s b).snd [58]).fst) ((f8 (C8 f s b).snd [58]).snd) (m + 1) (by omega) (by repeat (first | exact hs | with_reducible refine bO6 (s3 f _) ?_ | with_reducible refine bO6 n4 ?_ | with_reducible refine bO6 o7 ?_ | with_reducible refine bO6 p7 ?_)))) [0, 1, 0, 0, 8, 28, 60, 127, 255, 511] [0, 1, 2, 60] (aU9 f s b :: (ab2 [aj1 f s b])) [(0, .ptr 0 0), (4, .ptr 1 0), (7, .ptr 2 0)] [wO (m + 1), ([H6 (iE f (f8 (s, b) [(40 : UInt8)])).fst] ++ [H6 (iE f (l0 (iE f (f8 (s, b) [(40 : UInt8)])).snd).snd).fst]).length + [H6 (iE f (f8 (iE f (l0 (iE f (f8 (s, b) [(40 : UInt8)])).snd).snd).snd [(58 : UInt8)])).fst].length <= (9223372036854775807 : Nat), (([H6 (iE f (f8 (s, b) [(40 : UInt8)])).fst] ++ [H6 (iE f (l0 (iE f (f8 (s, b) [(40 : UInt8)])).snd).snd).fst]).length + [H6 (iE f (f8 (iE f (l0 (iE f (f8 (s, b) [(40 : UInt8)])).snd).snd).snd [(58 : UInt8)])).fst].length) * (40 : Nat) <= (140737488355328 : Nat)] ⟨oW (by omega), (by simp [h0, h1, h7, h8, h9, h10, h11, h12]), (by simp [h0, h1, h7, h8, h9, h10, h11, h12]), bP7⟩ fun G => ?_))))))
        refine b0 (wp_seq (r8 G (x8 1 [0] (I3 ((iE f (f8 (C8 f s b).snd [58])).snd.fst) ([41]) ((iE f (f8 (C8 f s b).snd [58])).snd.snd) (by repeat (first | exact hs | with_reducible refine bO6 (s3 f _) ?_ | with_reducible refine bO6 n4 ?_ | with_reducible refine bO6 o7 ?_ | with_reducible refine bO6 p7 ?_)))) (rg 4) (am4 f s b :: (ab2 [aj1 f s b])) [(4, .ptr 1 0), (7, .ptr 2 0)] fun G => b0 (wp_seq (r8 G m0 [0, 1, 3] [am4 f s b, .box [iA 11, iA 0, .tref 2], aj1 f s b] [(4, .ptr 1 0)] fun G => b0 (wp_ret ?_))))); exact K2 (.agg [iA 11, iA 0, .tref 2]) G [0, 2] (by have e1 : ((iE (f + 1) (s, b)).fst.kind : Int) = (11) := (by rw [ai1 (s8 (by omega)) (s9 (by omega)) (y5 (by omega) (by omega)) (by with_reducible assumption) (O6 (by assumption))]; simp only [b9.eta]; rfl); have e2 : ((iE (f + 1) (s, b)).fst.value : Int) = (0) := (by rw [ai1 (s8 (by omega)) (s9 (by omega)) (y5 (by omega) (by omega)) (by with_reducible assumption) (O6 (by assumption))]; simp only [b9.eta]; rfl); (first | rw [e1, e2] | simp only [e1, e2]) <;> rfl) (by show _ = mR [0, 2] (I6 f s b); unfold I6; have e1 : (b5 (iE (f + 1) (s, b)).snd.fst : ByteArray) = (b5 (f8 (iE f (f8 (iE f (l0 (iE f (f8 (s, b) [40])).snd).snd).snd [58])).snd [41]).fst) := (by rw [ai1 (s8 (by omega)) (s9 (by omega)) (y5 (by omega) (by omega)) (by with_reducible assumption) (O6 (by assumption))]; simp only [b9.eta]; rfl); have e2 : ((iE (f + 1) (s, b)).snd.snd : Bool) = ((f8 (iE f (f8 (iE f (l0 (iE f (f8 (s, b) [40])).snd).snd).snd [58])).snd [41]).snd) := (by rw [ai1 (s8 (by omega)) (s9 (by omega)) (y5 (by omega) (by omega)) (by with_reducible assumption) (O6 (by assumption))]; simp only [b9.eta]; rfl); have e3 : ((iE (f + 1) (s, b)).fst.kids : List b9) = ([H6 (iE f (f8 (s, b) [40])).fst] ++ [H6 (iE f (l0 (iE f (f8 (s, b) [40])).snd).snd).fst] ++ [H6 (iE f (f8 (iE f (l0 (iE f (f8 (s, b) [40])).snd).snd).snd [58])).fst]) := (by rw [ai1 (s8 (by omega)) (s9 (by omega)) (y5 (by omega) (by omega)) (by with_reducible assumption) (O6 (by assumption))]; simp only [b9.eta]; rfl); (first | rw [e1, e2, e3] | simp only [e1, e2, e3]) <;> rfl)
       refine wp_seq (H8 G m0 (x6 m []) fun G => b0 (wp_ret (n8 ?_))); obtain ⟨ρ, G⟩ := G.nilT 2 (.exprs []) [.box [.v (.string (b5 (f8 (s, b) [40]).fst)), bA (f8 (s, b) [40]).snd], .box [iA 0, iA 0, .tref 2]] (x6 m []); exact K2 (.agg [iA 0, iA 0, .tref 2]) G [0, 2] (by have e1 : ((iE (f + 1) (s, b)).fst.kind : Int) = (0) := (by rw [ai0 (s8 (by omega)) (s9 (by omega)) (y5 (by omega) (by omega)) (by with_reducible assumption)]; rfl); have e2 : ((iE (f + 1) (s, b)).fst.value : Int) = (0) := (by rw [ai0 (s8 (by omega)) (s9 (by omega)) (y5 (by omega) (by omega)) (by with_reducible assumption)]; rfl); (first | rw [e1, e2] | simp only [e1, e2]) <;> rfl) (by show _ = mR [0, 2] (I6 f s b); unfold I6; have e1 : (b5 (iE (f + 1) (s, b)).snd.fst : ByteArray) = (b5 (f8 (s, b) [40]).fst) := (by rw [ai0 (s8 (by omega)) (s9 (by omega)) (y5 (by omega) (by omega)) (by with_reducible assumption)]); have e2 : ((iE (f + 1) (s, b)).snd.snd : Bool) = ((f8 (s, b) [40]).snd) := (by rw [ai0 (s8 (by omega)) (s9 (by omega)) (y5 (by omega) (by omega)) (by with_reducible assumption)]); rw [e1, e2, ai0 (s8 (by omega)) (s9 (by omega)) (y5 (by omega) (by omega)) (by with_reducible assumption)] <;> rfl)
      refine wp_seq (K9 G (x8 1 [0] (aA1 s b (by assumption))) [0, 1, 42] [.box [.v (.string (b5 (l0 (s, b)).snd.fst)), bA (l0 (s, b)).snd.snd], E9, aH3 s b] (x6 m [(6, .ptr 2 0)]) [IntKind.u8.wrap (((l0 (s, b)).fst.toNat : Int) - 80) = ((l0 (s, b)).fst.toNat : Int) - 80, wO (((l0 (s, b)).fst.toNat : Int) - 80)] ⟨(w8 (by omega) (by omega)), (oW (by omega)), bP7⟩ fun G => b0 (wp_seq (r8 G (x8 1 [0] (I3 ((l0 (s, b)).snd.fst) ([91]) ((l0 (s, b)).snd.snd) (by repeat (first | exact hs | with_reducible refine bO6 (s3 f _) ?_ | with_reducible refine bO6 n4 ?_ | with_reducible refine bO6 o7 ?_ | with_reducible refine bO6 p7 ?_)))) [0, 1, 2] [.box [.v (.string (b5 (f8 (l0 (s, b)).snd [91]).fst)), bA (f8 (l0 (s, b)).snd [91]).snd], E9, aH3 s b] (x6 m [(6, .ptr 2 0)]) fun G => b0 (wp_seq (K9 G (x8 3 [0] (ih ((f8 (l0 (s, b)).snd [91]).fst) ((f8 (l0 (s, b)).snd [91]).snd) (m + 1) (by omega) (by repeat (first | exact hs | with_reducible refine bO6 (s3 f _) ?_ | with_reducible refine bO6 n4 ?_ | with_reducible refine bO6 o7 ?_ | with_reducible refine bO6 p7 ?_)))) [0, 1, 2, 35] [.box [.v (.string (b5 (iE f (f8 (l0 (s, b)).snd [91])).snd.fst)), bA (iE f (f8 (l0 (s, b)).snd [91])).snd.snd], E9, aH1 s b, aD8 f s b] (x6 m [(6, .ptr 2 0)]) [wO (m + 1)] (o1 (by omega)) fun G => b0 (wp_seq (r8 G (x8 1 [0] (I3 ((iE f (f8 (l0 (s, b)).snd [91])).snd.fst) ([93]) ((iE f (f8 (l0 (s, b)).snd [91])).snd.snd) (by repeat (first | exact hs | with_reducible refine bO6 (s3 f _) ?_ | with_reducible refine bO6 n4 ?_ | with_reducible refine bO6 o7 ?_ | with_reducible refine bO6 p7 ?_)))) (rg 4) [aH2 f s b, E9, aH1 s b, aD8 f s b] (x6 m [(6, .ptr 2 0)]) fun G => b0 (wp_seq (r8 G m0 [0, 1, 3] [aH2 f s b, .box [iA 3, iA (((l0 (s, b)).fst.toNat : Int) - 80), .tref 2], aD8 f s b] (x6 m []) fun G => b0 (wp_ret (E6 (n8 ?_)))))))))))); exact K2 (.agg [iA 3, iA (((l0 (s, b)).fst.toNat : Int) - 80), .tref 2]) G [0, 2] (by have e1 : ((iE (f + 1) (s, b)).fst.kind : Int) = (3) := (by rw [aB9 (s8 (by omega)) (s9 (by omega)) (R9 (by omega))]; simp only [b9.eta]; rfl); have e2 : ((iE (f + 1) (s, b)).fst.value : Int) = (((l0 (s, b)).fst.toNat : Int) - 80) := (by rw [aB9 (s8 (by omega)) (s9 (by omega)) (R9 (by omega))]; show ((_ - _ : Nat) : Int) = _; omega); (first | rw [e1, e2] | simp only [e1, e2]) <;> rfl) (by show _ = mR [0, 2] (I6 f s b); unfold I6; have e1 : (b5 (iE (f + 1) (s, b)).snd.fst : ByteArray) = (b5 (f8 (iE f (f8 (l0 (s, b)).snd [91])).snd [93]).fst) := (by rw [aB9 (s8 (by omega)) (s9 (by omega)) (R9 (by omega))]; simp only [b9.eta]; rfl); have e2 : ((iE (f + 1) (s, b)).snd.snd : Bool) = ((f8 (iE f (f8 (l0 (s, b)).snd [91])).snd [93]).snd) := (by rw [aB9 (s8 (by omega)) (s9 (by omega)) (R9 (by omega))]; simp only [b9.eta]; rfl); have e3 : ((iE (f + 1) (s, b)).fst.kids : List b9) = ([H6 (iE f (f8 (l0 (s, b)).snd [91])).fst]) := (by rw [aB9 (s8 (by omega)) (s9 (by omega)) (R9 (by omega))]; simp only [b9.eta]; rfl); (first | rw [e1, e2, e3] | simp only [e1, e2, e3]) <;> rfl)
     have q9 := eq_of_beq h9; refine o0 G (D7 (fc h9 fz) [(3, 0), (4, 0), (1005, 0)]) [(38, bA true)] fun G => b0 (rT G true (by kernel_rfl) (wp_seq (K9 G (x8 1 [0] (aA1 s b (by assumption))) [0, 1, 42] [.box [.v (.string (b5 (l0 (s, b)).snd.fst)), bA (l0 (s, b)).snd.snd], E9, aH3 s b] (x6 m [(6, .ptr 2 0)]) [IntKind.u8.wrap (((l0 (s, b)).fst.toNat : Int) - 80) = ((l0 (s, b)).fst.toNat : Int) - 80, wO (((l0 (s, b)).fst.toNat : Int) - 80)] ⟨(w8 (by omega) (by omega)), (oW (by omega)), bP7⟩ fun G => b0 (wp_seq (r8 G (x8 1 [0] (I3 ((l0 (s, b)).snd.fst) ([91]) ((l0 (s, b)).snd.snd) (by repeat (first | exact hs | with_reducible refine bO6 (s3 f _) ?_ | with_reducible refine bO6 n4 ?_ | with_reducible refine bO6 o7 ?_ | with_reducible refine bO6 p7 ?_)))) [0, 1, 2] [.box [.v (.string (b5 (f8 (l0 (s, b)).snd [91]).fst)), bA (f8 (l0 (s, b)).snd [91]).snd], E9, aH3 s b] (x6 m [(6, .ptr 2 0)]) fun G => b0 (wp_seq (K9 G (x8 3 [0] (ih ((f8 (l0 (s, b)).snd [91]).fst) ((f8 (l0 (s, b)).snd [91]).snd) (m + 1) (by omega) (by repeat (first | exact hs | with_reducible refine bO6 (s3 f _) ?_ | with_reducible refine bO6 n4 ?_ | with_reducible refine bO6 o7 ?_ | with_reducible refine bO6 p7 ?_)))) [0, 1, 2, 35] [.box [.v (.string (b5 (iE f (f8 (l0 (s, b)).snd [91])).snd.fst)), bA (iE f (f8 (l0 (s, b)).snd [91])).snd.snd], E9, aH1 s b, aD8 f s b] (x6 m [(6, .ptr 2 0)]) [wO (m + 1)] (o1 (by omega)) fun G => b0 (wp_seq (r8 G (x8 1 [0] (I3 ((iE f (f8 (l0 (s, b)).snd [91])).snd.fst) ([93]) ((iE f (f8 (l0 (s, b)).snd [91])).snd.snd) (by repeat (first | exact hs | with_reducible refine bO6 (s3 f _) ?_ | with_reducible refine bO6 n4 ?_ | with_reducible refine bO6 o7 ?_ | with_reducible refine bO6 p7 ?_)))) (rg 4) [aH2 f s b, E9, aH1 s b, aD8 f s b] (x6 m [(6, .ptr 2 0)]) fun G => b0 (wp_seq (r8 G m0 [0, 1, 3] [aH2 f s b, .box [iA 3, iA (((l0 (s, b)).fst.toNat : Int) - 80), .tref 2], aD8 f s b] (x6 m []) fun G => b0 (wp_ret (E6 (n8 ?_)))))))))))))); exact K2 (.agg [iA 3, iA (((l0 (s, b)).fst.toNat : Int) - 80), .tref 2]) G [0, 2] (by have e1 : ((iE (f + 1) (s, b)).fst.kind : Int) = (3) := (by rw [aB9 (s8 (by omega)) (s9 (by omega)) (R9 (by omega))]; simp only [b9.eta]; rfl); have e2 : ((iE (f + 1) (s, b)).fst.value : Int) = (((l0 (s, b)).fst.toNat : Int) - 80) := (by rw [aB9 (s8 (by omega)) (s9 (by omega)) (R9 (by omega))]; show ((_ - _ : Nat) : Int) = _; omega); (first | rw [e1, e2] | simp only [e1, e2]) <;> rfl) (by show _ = mR [0, 2] (I6 f s b); unfold I6; have e1 : (b5 (iE (f + 1) (s, b)).snd.fst : ByteArray) = (b5 (f8 (iE f (f8 (l0 (s, b)).snd [91])).snd [93]).fst) := (by rw [aB9 (s8 (by omega)) (s9 (by omega)) (R9 (by omega))]; simp only [b9.eta]; rfl); have e2 : ((iE (f + 1) (s, b)).snd.snd : Bool) = ((f8 (iE f (f8 (l0 (s, b)).snd [91])).snd [93]).snd) := (by rw [aB9 (s8 (by omega)) (s9 (by omega)) (R9 (by omega))]; simp only [b9.eta]; rfl); have e3 : ((iE (f + 1) (s, b)).fst.kids : List b9) = ([H6 (iE f (f8 (l0 (s, b)).snd [91])).fst]) := (by rw [aB9 (s8 (by omega)) (s9 (by omega)) (R9 (by omega))]; simp only [b9.eta]; rfl); (first | rw [e1, e2, e3] | simp only [e1, e2, e3]) <;> rfl)
    have q8 := R4 h8; refine H8 G (D7 (fc h8 fz) [(3, 0), (4, 0), (1005, 0)]) (x6 m [(5, .v (.int .u8 ((I7 (s, b)).toNat : Int))), (26, bA (decide (((I7 (s, b)).toNat : Int) <= 108)))]) fun G => b0 (rcD G (fun h13 q13 => ?_) fun h13 q13 => ?_)
    ·
     refine wp_seq ?_; cases h14 : (((I7 (s, b)).toNat : Int) == 80)
     ·
      have q14 := ne_of_beq_false h14; refine H8 G (D7 (fc h14 fz) [(3, 0), (4, 0), (1005, 0)]) (x6 m [(38, bA (((I7 (s, b)).toNat : Int) == 81))]) fun G => b0 ?_; cases h15 : (((I7 (s, b)).toNat : Int) == 81)
      ·
       have q15 := ne_of_beq_false h15; refine rF G _ h15 (wp_skip (B9 (b0 (wp_seq (r8 G (x8 1 [0] (I3 s ([40]) b (by assumption))) [0, 1] [.box [.v (.string (b5 (f8 (s, b) [40]).fst)), bA (f8 (s, b) [40]).snd], E9] (x6 m []) fun G => b0 (wp_seq (wp_seq (o0 G m0 [(66, bA (f8 (s, b) [40]).snd)] fun G => b0 (rcB (b := (f8 (s, b) [(40 : UInt8)]).snd) G (fun h16 => ?_) fun h16 => ?_)))))))))
       ·
        refine wp_skip (b0 (wp_seq (K9 G (x8 3 [0] (ih ((f8 (s, b) [40]).fst) ((f8 (s, b) [40]).snd) (m + 1) (by omega) (by repeat (first | exact hs | with_reducible refine bO6 (s3 f _) ?_ | with_reducible refine bO6 n4 ?_ | with_reducible refine bO6 o7 ?_ | with_reducible refine bO6 p7 ?_)))) [0, 1, 34, 50] [aU8 f s b, E9, ab6 f s b, .box [iA 0, iA 0, .tref 2]] (x6 m [(7, .ptr 3 0)]) [wO (m + 1)] (o1 (by omega)) fun G => b0 (wp_seq (r8 G (x8 1 [0] (aA1 ((iE f (f8 (s, b) [40])).snd.fst) ((iE f (f8 (s, b) [40])).snd.snd) (by repeat (first | exact hs | with_reducible refine bO6 (s3 f _) ?_ | with_reducible refine bO6 n4 ?_ | with_reducible refine bO6 o7 ?_ | with_reducible refine bO6 p7 ?_)))) (rg 4) [Z1 f s b, E9, ab6 f s b, .box [iA 0, iA 0, .tref 2]] (x6 m [(7, .ptr 3 0), (8, .v (.int .u8 ((l0 (iE f (f8 (s, b) [40])).snd).fst.toNat : Int)))]) fun G => b0 (wp_seq (wp_seq (o0 G m0 [(77, bA (((l0 (iE f (f8 (s, b) [40])).snd).fst.toNat : Int) == 63))] fun G => b0 (rcE (u := ((l0 (iE f (f8 (s, b) [(40 : UInt8)])).snd).fst.toNat : Int)) (v := (63 : Int)) G (fun h17 q17 => ?_) fun h17 q17 => ?_)))))))))
        · refine K9 G (x8 1 [] (W6 ([43, 45, 42, 38, 94, 61, 60]) ((l0 (iE f (f8 (s, b) [40])).snd).fst) (by simp [h0, h1, h7, h8, h13, h14, h15, h16, h17]))) (rg 4) [Z1 f s b, E9, ab6 f s b, am8 f s b] (x6 m [(7, .ptr 3 0)]) [wO ((4 : Int) + I5 (l0 (iE f (f8 (s, b) [(40 : UInt8)])).snd).fst [(43 : UInt8), (45 : UInt8), (42 : UInt8), (38 : UInt8), (94 : UInt8), (61 : UInt8), (60 : UInt8)] (0 : Int))] ⟨(bC4 _), bP7⟩ fun G => b0 (wp_seq (I4 G (x8 5 [0] (ih ((l0 (iE f (f8 (s, b) [40])).snd).snd.fst) ((l0 (iE f (f8 (s, b) [40])).snd).snd.snd) (m + 1) (by omega) (by repeat (first | exact hs | with_reducible refine bO6 (s3 f _) ?_ | with_reducible refine bO6 n4 ?_ | with_reducible refine bO6 o7 ?_ | with_reducible refine bO6 p7 ?_)))) [0, 1, 0, 0, 8, 28, 60, 127, 255, 511] [0, 1, 3, 60] [am5 f s b, E9, am7 f s b, U4 f s b] [(0, .ptr 0 0), (4, .ptr 1 0), (7, .ptr 2 0)] [wO (m + 1), [H6 (iE f (f8 (s, b) [(40 : UInt8)])).fst].length + [H6 (iE f (l0 (iE f (f8 (s, b) [(40 : UInt8)])).snd).snd).fst].length <= (9223372036854775807 : Nat), ([H6 (iE f (f8 (s, b) [(40 : UInt8)])).fst].length + [H6 (iE f (l0 (iE f (f8 (s, b) [(40 : UInt8)])).snd).snd).fst].length) * (40 : Nat) <= (140737488355328 : Nat)] ⟨oW (by omega), (by simp [h0, h1, h7, h8, h13, h14, h15, h16, h17]), (by simp [h0, h1, h7, h8, h13, h14, h15, h16, h17]), bP7⟩ fun G => b0 (wp_seq (r8 G (x8 1 [0] (I3 ((C8 f s b).snd.fst) ([41]) ((C8 f s b).snd.snd) (by repeat (first | exact hs | with_reducible refine bO6 (s3 f _) ?_ | with_reducible refine bO6 n4 ?_ | with_reducible refine bO6 o7 ?_ | with_reducible refine bO6 p7 ?_)))) (rg 4) [am6 f s b, E9, am7 f s b, U4 f s b] [(4, .ptr 1 0), (7, .ptr 2 0)] fun G => b0 (wp_seq (r8 G m0 [0, 1, 3] [am6 f s b, am8 f s b, U4 f s b] [(4, .ptr 1 0)] fun G => b0 (wp_ret ?_))))))); exact K2 (.agg [iA (4 + I5 (l0 (iE f (f8 (s, b) [40])).snd).fst [43, 45, 42, 38, 94, 61, 60] 0), iA 0, .tref 2]) G [0, 2] (by have e1 : ((iE (f + 1) (s, b)).fst.kind : Int) = (4 + I5 (l0 (iE f (f8 (s, b) [40])).snd).fst [43, 45, 42, 38, 94, 61, 60] 0) := (by rw [ai2 (s8 (by omega)) (s9 (by omega)) (y5 (by omega) (by omega)) (by with_reducible assumption) (S5 (by assumption))]; simp only [b9.eta]; rfl); have e2 : ((iE (f + 1) (s, b)).fst.value : Int) = (0) := (by rw [ai2 (s8 (by omega)) (s9 (by omega)) (y5 (by omega) (by omega)) (by with_reducible assumption) (S5 (by assumption))]; simp only [b9.eta]; rfl); (first | rw [e1, e2] | simp only [e1, e2]) <;> rfl) (by show _ = mR [0, 2] (I6 f s b); unfold I6; have e1 : (b5 (iE (f + 1) (s, b)).snd.fst : ByteArray) = (b5 (f8 (iE f (l0 (iE f (f8 (s, b) [40])).snd).snd).snd [41]).fst) := (by rw [ai2 (s8 (by omega)) (s9 (by omega)) (y5 (by omega) (by omega)) (by with_reducible assumption) (S5 (by assumption))]; simp only [b9.eta]; rfl); have e2 : ((iE (f + 1) (s, b)).snd.snd : Bool) = ((f8 (iE f (l0 (iE f (f8 (s, b) [40])).snd).snd).snd [41]).snd) := (by rw [ai2 (s8 (by omega)) (s9 (by omega)) (y5 (by omega) (by omega)) (by with_reducible assumption) (S5 (by assumption))]; simp only [b9.eta]; rfl); have e3 : ((iE (f + 1) (s, b)).fst.kids : List b9) = ([H6 (iE f (f8 (s, b) [40])).fst] ++ [H6 (iE f (l0 (iE f (f8 (s, b) [40])).snd).snd).fst]) := (by rw [ai2 (s8 (by omega)) (s9 (by omega)) (y5 (by omega) (by omega)) (by with_reducible assumption) (S5 (by assumption))]; simp only [b9.eta]; rfl); (first | rw [e1, e2, e3] | simp only [e1, e2, e3]) <;> rfl)
        refine wp_seq (r8 G m0 (rg 4) [Z1 f s b, E9, ab6 f s b, .box [iA 11, iA 0, .tref 2]] (x6 m [(7, .ptr 3 0)]) fun G => b0 (wp_seq (I4 G (x8 5 [0] (ih ((l0 (iE f (f8 (s, b) [40])).snd).snd.fst) ((l0 (iE f (f8 (s, b) [40])).snd).snd.snd) (m + 1) (by omega) (by repeat (first | exact hs | with_reducible refine bO6 (s3 f _) ?_ | with_reducible refine bO6 n4 ?_ | with_reducible refine bO6 o7 ?_ | with_reducible refine bO6 p7 ?_)))) [0, 1, 0, 0, 8, 28, 60, 127, 255, 511] [0, 1, 3, 60] (am5 f s b :: (ab2 [U4 f s b])) (x6 m [(7, .ptr 2 0)]) [wO (m + 1), [H6 (iE f (f8 (s, b) [(40 : UInt8)])).fst].length + [H6 (iE f (l0 (iE f (f8 (s, b) [(40 : UInt8)])).snd).snd).fst].length <= (9223372036854775807 : Nat), ([H6 (iE f (f8 (s, b) [(40 : UInt8)])).fst].length + [H6 (iE f (l0 (iE f (f8 (s, b) [(40 : UInt8)])).snd).snd).fst].length) * (40 : Nat) <= (140737488355328 : Nat)] ⟨oW (by omega), (by simp [h0, h1, h7, h8, h13, h14, h15, h16, h17]), (by simp [h0, h1, h7, h8, h13, h14, h15, h16, h17]), bP7⟩ fun G => b0 (r8 G (x8 1 [0] (I3 ((C8 f s b).snd.fst) ([58]) ((C8 f s b).snd.snd) (by repeat (first | exact hs | with_reducible refine bO6 (s3 f _) ?_ | with_reducible refine bO6 n4 ?_ | with_reducible refine bO6 o7 ?_ | with_reducible refine bO6 p7 ?_)))) (rg 4) (aU7 f s b :: (ab2 [U4 f s b])) (x6 m [(7, .ptr 2 0)]) fun G => b0 (wp_seq (I4 G (x8 5 [0] (ih ((f8 (C8 f s b).snd [58]).fst) ((f8 (C8 f s b).snd [58]).snd) (m + 1) (by omega) (by repeat (first | exact hs | with_reducible refine bO6 (s3 f _) ?_ | with_reducible refine bO6 n4 ?_ | with_reducible refine bO6 o7 ?_ | with_reducible refine bO6 p7 ?_)))) [0, 1, 0, 0, 8, 28, 60, 127, 255, 511] [0, 1, 2, 60] (aU9 f s b :: (ab2 [aj1 f s b])) [(0, .ptr 0 0), (4, .ptr 1 0), (7, .ptr 2 0)] [wO (m + 1), ([H6 (iE f (f8 (s, b) [(40 : UInt8)])).fst] ++ [H6 (iE f (l0 (iE f (f8 (s, b) [(40 : UInt8)])).snd).snd).fst]).length + [H6 (iE f (f8 (iE f (l0 (iE f (f8 (s, b) [(40 : UInt8)])).snd).snd).snd [(58 : UInt8)])).fst].length <= (9223372036854775807 : Nat), (([H6 (iE f (f8 (s, b) [(40 : UInt8)])).fst] ++ [H6 (iE f (l0 (iE f (f8 (s, b) [(40 : UInt8)])).snd).snd).fst]).length + [H6 (iE f (f8 (iE f (l0 (iE f (f8 (s, b) [(40 : UInt8)])).snd).snd).snd [(58 : UInt8)])).fst].length) * (40 : Nat) <= (140737488355328 : Nat)] ⟨oW (by omega), (by simp [h0, h1, h7, h8, h13, h14, h15, h16, h17]), (by simp [h0, h1, h7, h8, h13, h14, h15, h16, h17]), bP7⟩ fun G => ?_))))))
        refine b0 (wp_seq (r8 G (x8 1 [0] (I3 ((iE f (f8 (C8 f s b).snd [58])).snd.fst) ([41]) ((iE f (f8 (C8 f s b).snd [58])).snd.snd) (by repeat (first | exact hs | with_reducible refine bO6 (s3 f _) ?_ | with_reducible refine bO6 n4 ?_ | with_reducible refine bO6 o7 ?_ | with_reducible refine bO6 p7 ?_)))) (rg 4) (am4 f s b :: (ab2 [aj1 f s b])) [(4, .ptr 1 0), (7, .ptr 2 0)] fun G => b0 (wp_seq (r8 G m0 [0, 1, 3] [am4 f s b, .box [iA 11, iA 0, .tref 2], aj1 f s b] [(4, .ptr 1 0)] fun G => b0 (wp_ret ?_))))); exact K2 (.agg [iA 11, iA 0, .tref 2]) G [0, 2] (by have e1 : ((iE (f + 1) (s, b)).fst.kind : Int) = (11) := (by rw [ai1 (s8 (by omega)) (s9 (by omega)) (y5 (by omega) (by omega)) (by with_reducible assumption) (O6 (by assumption))]; simp only [b9.eta]; rfl); have e2 : ((iE (f + 1) (s, b)).fst.value : Int) = (0) := (by rw [ai1 (s8 (by omega)) (s9 (by omega)) (y5 (by omega) (by omega)) (by with_reducible assumption) (O6 (by assumption))]; simp only [b9.eta]; rfl); (first | rw [e1, e2] | simp only [e1, e2]) <;> rfl) (by show _ = mR [0, 2] (I6 f s b); unfold I6; have e1 : (b5 (iE (f + 1) (s, b)).snd.fst : ByteArray) = (b5 (f8 (iE f (f8 (iE f (l0 (iE f (f8 (s, b) [40])).snd).snd).snd [58])).snd [41]).fst) := (by rw [ai1 (s8 (by omega)) (s9 (by omega)) (y5 (by omega) (by omega)) (by with_reducible assumption) (O6 (by assumption))]; simp only [b9.eta]; rfl); have e2 : ((iE (f + 1) (s, b)).snd.snd : Bool) = ((f8 (iE f (f8 (iE f (l0 (iE f (f8 (s, b) [40])).snd).snd).snd [58])).snd [41]).snd) := (by rw [ai1 (s8 (by omega)) (s9 (by omega)) (y5 (by omega) (by omega)) (by with_reducible assumption) (O6 (by assumption))]; simp only [b9.eta]; rfl); have e3 : ((iE (f + 1) (s, b)).fst.kids : List b9) = ([H6 (iE f (f8 (s, b) [40])).fst] ++ [H6 (iE f (l0 (iE f (f8 (s, b) [40])).snd).snd).fst] ++ [H6 (iE f (f8 (iE f (l0 (iE f (f8 (s, b) [40])).snd).snd).snd [58])).fst]) := (by rw [ai1 (s8 (by omega)) (s9 (by omega)) (y5 (by omega) (by omega)) (by with_reducible assumption) (O6 (by assumption))]; simp only [b9.eta]; rfl); (first | rw [e1, e2, e3] | simp only [e1, e2, e3]) <;> rfl)
       refine wp_seq (H8 G m0 (x6 m []) fun G => b0 (wp_ret (n8 ?_))); obtain ⟨ρ, G⟩ := G.nilT 2 (.exprs []) [.box [.v (.string (b5 (f8 (s, b) [40]).fst)), bA (f8 (s, b) [40]).snd], .box [iA 0, iA 0, .tref 2]] (x6 m []); exact K2 (.agg [iA 0, iA 0, .tref 2]) G [0, 2] (by have e1 : ((iE (f + 1) (s, b)).fst.kind : Int) = (0) := (by rw [ai0 (s8 (by omega)) (s9 (by omega)) (y5 (by omega) (by omega)) (by with_reducible assumption)]; rfl); have e2 : ((iE (f + 1) (s, b)).fst.value : Int) = (0) := (by rw [ai0 (s8 (by omega)) (s9 (by omega)) (y5 (by omega) (by omega)) (by with_reducible assumption)]; rfl); (first | rw [e1, e2] | simp only [e1, e2]) <;> rfl) (by show _ = mR [0, 2] (I6 f s b); unfold I6; have e1 : (b5 (iE (f + 1) (s, b)).snd.fst : ByteArray) = (b5 (f8 (s, b) [40]).fst) := (by rw [ai0 (s8 (by omega)) (s9 (by omega)) (y5 (by omega) (by omega)) (by with_reducible assumption)]); have e2 : ((iE (f + 1) (s, b)).snd.snd : Bool) = ((f8 (s, b) [40]).snd) := (by rw [ai0 (s8 (by omega)) (s9 (by omega)) (y5 (by omega) (by omega)) (by with_reducible assumption)]); rw [e1, e2, ai0 (s8 (by omega)) (s9 (by omega)) (y5 (by omega) (by omega)) (by with_reducible assumption)] <;> rfl)
      have q15 := eq_of_beq h15; exact False.elim (by omega)
     have q14 := eq_of_beq h14; exact False.elim (by omega)
    refine wp_seq (K9 G (x8 1 [0] (aA1 s b (by assumption))) [0, 1] [.box [.v (.string (b5 (l0 (s, b)).snd.fst)), bA (l0 (s, b)).snd.snd], .box [iA 2, iA (((l0 (s, b)).fst.toNat : Int) - 97), .v (.slice none 0 0)]] (x6 m []) [IntKind.u8.wrap (((l0 (s, b)).fst.toNat : Int) - 97) = ((l0 (s, b)).fst.toNat : Int) - 97, wO (((l0 (s, b)).fst.toNat : Int) - 97)] ⟨(w8 (by omega) (by omega)), (oW (by omega)), bP7⟩ fun G => b0 (wp_ret (E6 (n8 ?_)))); obtain ⟨ρ, G⟩ := G.nilT 2 (.exprs []) [.box [.v (.string (b5 (l0 (s, b)).snd.fst)), bA (l0 (s, b)).snd.snd], .box [iA 2, iA (((l0 (s, b)).fst.toNat : Int) - 97), .tref 2]] (x6 m []); exact K2 (.agg [iA 2, iA (((l0 (s, b)).fst.toNat : Int) - 97), .tref 2]) G [0, 2] (by have e1 : ((iE (f + 1) (s, b)).fst.kind : Int) = (2) := (by rw [bj2 (s8 (by omega)) (ah2 (by omega) (by omega))]; rfl); have e2 : ((iE (f + 1) (s, b)).fst.value : Int) = (((l0 (s, b)).fst.toNat : Int) - 97) := (by rw [bj2 (s8 (by omega)) (ah2 (by omega) (by omega))]; show ((_ - _ : Nat) : Int) = _; omega); (first | rw [e1, e2] | simp only [e1, e2]) <;> rfl) (by show _ = mR [0, 2] (I6 f s b); unfold I6; have e1 : (b5 (iE (f + 1) (s, b)).snd.fst : ByteArray) = (b5 (l0 (s, b)).snd.fst) := (by rw [bj2 (s8 (by omega)) (ah2 (by omega) (by omega))]); have e2 : ((iE (f + 1) (s, b)).snd.snd : Bool) = ((l0 (s, b)).snd.snd) := (by rw [bj2 (s8 (by omega)) (ah2 (by omega) (by omega))]); rw [e1, e2, bj2 (s8 (by omega)) (ah2 (by omega) (by omega))] <;> rfl)
   refine wp_seq (r8 G (x8 1 [0] (aT1 s b (by assumption))) [0, 1] [.box [.v (.string (b5 (I9 (s, b)).snd.fst)), bA (I9 (s, b)).snd.snd], .box [iA 1, iA (I9 (s, b)).fst, .v (.slice none 0 0)]] (x6 m []) fun G => b0 (wp_ret (E6 (n8 ?_)))); obtain ⟨ρ, G⟩ := G.nilT 2 (.exprs []) [.box [.v (.string (b5 (I9 (s, b)).snd.fst)), bA (I9 (s, b)).snd.snd], .box [iA 1, iA (I9 (s, b)).fst, .tref 2]] (x6 m []); exact K2 (.agg [iA 1, iA (I9 (s, b)).fst, .tref 2]) G [0, 2] (by have e1 : ((iE (f + 1) (s, b)).fst.kind : Int) = (1) := (by rw [bj3 (az6 (by omega) (by omega))]; rfl); have e2 : ((iE (f + 1) (s, b)).fst.value : Int) = ((I9 (s, b)).fst) := (by rw [bj3 (az6 (by omega) (by omega))]; rfl); (first | rw [e1, e2] | simp only [e1, e2]) <;> rfl) (by show _ = mR [0, 2] (I6 f s b); unfold I6; have e1 : (b5 (iE (f + 1) (s, b)).snd.fst : ByteArray) = (b5 (I9 (s, b)).snd.fst) := (by rw [bj3 (az6 (by omega) (by omega))]); have e2 : ((iE (f + 1) (s, b)).snd.snd : Bool) = ((I9 (s, b)).snd.snd) := (by rw [bj3 (az6 (by omega) (by omega))]); rw [e1, e2, bj3 (az6 (by omega) (by omega))] <;> rfl)
  have q0 := R4 h0; exact False.elim (by omega)
end Go.Proofs.YtompcdbfongedaaGreatDoor

namespace Go.Proofs.YtompcdbfongedaaGreatDoor
open Go
section
variable {r : IR} {w : List UInt8} {f : Nat}
theorem w5 (h : r.2 = true) : (f8 r w).2 = true := by unfold f8; split <;> simp [h]
theorem af0 (h : r.2 = true) : (l0 r).2.2 = true := by unfold l0; split <;> simp [h]
theorem a32 (h : r.2 = true) : (I9 r).2.2 = true := by unfold I9; simp [h]
theorem M4 : ∀ (f : Nat) (r : IR), r.2 = true -> (iE f r).2.2 = true
 | 0, r, h => by rw [iE]; exact w5 rfl
 | f + 1, r, h => by
  rw [iE]
  split
  ·exact a32 h
  split
  ·exact af0 h
  split
  ·exact w5 (M4 f _ (w5 (af0 h)))
  split
  ·exact w5 h
  have h2 := af0 (M4 f (f8 r [40]) (w5 h))
  dsimp only
  split
  ·exact w5 (M4 f _ (w5 (M4 f _ h2)))
  exact w5 (M4 f _ h2)
def bw3 (B : IR -> List b7 × IR) : Prop := ∀ r, (r.2 = true -> (B r).2.2 = true) /\ (B r).2.1.length <= r.1.length
theorem bd9 (h : Q5 r.1 w = true) (hw : 0 < w.length) : (f8 r w).1.length < r.1.length := by
 have : w.length <= r.1.length := by
  unfold Q5 at h
  have := congrArg List.length (eq_of_beq h)
  rw [List.length_take] at this; omega
 unfold f8; rw [if_pos h]; simp; omega
theorem aX2 (h : (l0 r).2.2 = false) (h0 : r.1 ≠ []) : (l0 r).2.1.length < r.1.length := by
 have := List.length_pos_iff.2 h0
 unfold l0 at h ⊢
 split at h
 ·cases h
 rw [if_neg (by assumption)]; simp; omega
theorem aK1 {p q : Bool} (h : p = true -> q = true) (hq : q = false) : p = false := by cases p; rfl; rw [h rfl] at hq; cases hq
theorem aR4 {B : IR -> List b7 × IR} (hB : bw3 B) (r : IR) : (r.2 = true -> (iSF B r).2.2 = true) /\ (iSF B r).2.1.length <= r.1.length /\ (r.1 ≠ [] -> (iSF B r).2.2 = false -> (iSF B r).2.1.length < r.1.length) := by
 rw [iSF]
 split
 ·rename_i hp
  have l1 := bd9 (r := r) (w := [105, 102]) hp (by decide)
  have l2 := bO6 (s3 5 (f8 r [105, 102])) (Nat.le_of_lt l1)
  have l3 := (s3 5 (f8 r [105, 102]))
  dsimp only
  have l4 := bO6 (hB (f8 (iE 5 (f8 r [105, 102])).2 [123])).2 (bO6 n4 l3)
  have l5 := bO6 (hB (f8 (f8 (B (f8 (iE 5 (f8 r [105, 102])).2 [123])).2 [125]) [123])).2 (bO6 n4 (bO6 n4 l4))
  have l6 := bO6 (n4 (r := (B (f8 (f8 (B (f8 (iE 5 (f8 r [105, 102])).2 [123])).2 [125]) [123])).2) (w := [125])) l5
  refine ⟨fun h => w5 ((hB _).1 (w5 (w5 ((hB _).1 (w5 (M4 5 _ (w5 h))))))), by omega, fun _ _ => by omega⟩
 split
 ·rename_i hp
  have l1 := bd9 (r := r) (w := iSF.repL) hp (by decide)
  dsimp only
  have l3 := p7 (r := f8 r iSF.repL)
  have l4 := bO6 (hB (f8 (I9 (f8 r iSF.repL)).2 [123])).2 (bO6 n4 l3)
  have l6 := bO6 (n4 (r := (B (f8 (I9 (f8 r iSF.repL)).2 [123])).2) (w := [125])) l4
  exact ⟨fun h => w5 ((hB _).1 (w5 (a32 (w5 h)))), by omega, fun _ _ => by omega⟩
 split
 ·split
  ·dsimp only
   have l3 := bO6 (n4 (r := (iE 5 (f8 (l0 r).2 [33, 61])).2) (w := [59])) (bO6 (s3 5 _) n4)
   have l4 := o7 (r := r)
   refine ⟨fun h => w5 (M4 5 _ (w5 (af0 h))), by omega, fun h0 h => ?_⟩
   have := aX2 (aK1 (fun hb => w5 (M4 5 _ (w5 hb))) h) h0
   omega
  dsimp only
  have l3 := bO6 (n4 (r := (iE 5 (f8 (l0 r).2 [58, 61])).2) (w := [59])) (bO6 (s3 5 _) n4)
  have l4 := o7 (r := r)
  refine ⟨fun h => w5 (M4 5 _ (w5 (af0 h))), by omega, fun h0 h => ?_⟩
  have := aX2 (aK1 (fun hb => w5 (M4 5 _ (w5 hb))) h) h0
  omega
 split
 ·dsimp only
  have l2 := bO6 (s3 5 (f8 (l0 r).2 [91])) n4
  have l3 := bO6 (n4 (r := (iE 5 (f8 (iE 5 (f8 (l0 r).2 [91])).2 [93, 58, 61])).2) (w := [59])) (bO6 (s3 5 _) (bO6 n4 l2))
  have l4 := o7 (r := r)
  refine ⟨fun h => w5 (M4 5 _ (w5 (M4 5 _ (w5 (af0 h))))), by omega, fun h0 h => ?_⟩
  have := aX2 (aK1 (fun hb => w5 (M4 5 _ (w5 (M4 5 _ (w5 hb))))) h) h0
  omega
 dsimp only
 have l3 := bO6 (n4 (r := (iE 5 ((l0 r).2.1, true)).2) (w := [59])) (s3 5 _)
 have l4 := o7 (r := r)
 have hb := w5 (w := [59]) (M4 5 ((l0 r).2.1, true) rfl)
 exact ⟨fun _ => hb, by simp only at l3; omega, fun _ h => by rw [hb] at h; cases h⟩
theorem aR3 {R : IR -> b7 × IR} (hR : ∀ r, (r.2 = true -> (R r).2.2 = true) /\ (R r).2.1.length <= r.1.length) : ∀ (g : Nat) (x : List b7 × IR), (x.2.2 = true -> (iSs R g x).2.2 = true) /\ (iSs R g x).2.1.length <= x.2.1.length
 | 0, x => ⟨fun h => h, bP9 _⟩
 | g + 1, x => by
  rw [iSs]
  split
  ·rename_i hc
   exact ⟨fun h => absurd h (by rw [hc.1]; decide), bO6 (aR3 hR g (x.1 ++ [(R x.2).1], (R x.2).2)).2 (hR x.2).2⟩
  exact ⟨fun h => h, bP9 _⟩
theorem ay8 : ∀ f, bw3 (E0 f)
 | 0 => fun r => by
  rw [E0, iS0]
  split
  ·exact ⟨fun _ => rfl, bP9 _⟩
  exact ⟨fun h => h, bP9 _⟩
 | f + 1 => fun r => by
  rw [E0]
  exact aR3 (R := C1 f) (fun r => by
   rw [T8]
   have := aR4 (ay8 f) r
   exact ⟨this.1, this.2.1⟩) (r.1.length + 1) ([], r)
theorem aR2 (d : Nat) (r : IR) : (r.2 = true -> (C1 d r).2.2 = true) /\ (C1 d r).2.1.length <= r.1.length /\ (r.1 ≠ [] -> (C1 d r).2.2 = false -> (C1 d r).2.1.length < r.1.length) := by
 rw [T8]; exact aR4 (ay8 d) r
theorem C6 (f : Nat) (r : IR) : (E0 f r).2.1.length <= r.1.length := (ay8 f r).2
theorem bC0 (d : Nat) (r : IR) : (C1 d r).2.1.length <= r.1.length := (aR2 d r).2.1
def K8 (d : Nat) (r : IR) : Nat -> List b7 × IR
 | 0 => ([], r)
 | k + 1 => ((K8 d r k).1 ++ [(C1 d (K8 d r k).2).1], (C1 d (K8 d r k).2).2)
theorem br2 (d : Nat) (r : IR) (k : Nat) : (K8 d r k).1.length = k := by
 induction k with
 | zero => rfl
 | succ k ih => rw [K8, bQ7, ih]; rfl
theorem bB5 (d : Nat) (r : IR) (k : Nat) : (K8 d r k).2.1.length <= r.1.length := by
 induction k with
 | zero => exact bP9 _
 | succ k ih => exact bO6 (bC0 d _) ih
def itI (d : Nat) (r : IR) (k : Nat) : Prop := E0 (d + 1) r = iSs (C1 d) (r.1.length + 1 - k) (K8 d r k) /\ k <= r.1.length + 1 /\ ((K8 d r k).2.2 = false -> k + (K8 d r k).2.1.length <= r.1.length)
theorem bH4 (d : Nat) (r : IR) : itI d r 0 := ⟨rfl, by omega, fun _ => by simp [K8]⟩
variable {d k : Nat}
theorem bi6 (h : itI d r k) (h1 : (K8 d r k).2.2 = false) (h2 : (K8 d r k).2.1 ≠ []) : k < r.1.length := by
 have := h.2.2 h1
 have := List.length_pos_iff.2 h2
 omega
theorem bi5 (h : itI d r k) (h1 : (K8 d r k).2.2 = false) (h2 : (K8 d r k).2.1 ≠ []) (h3 : I7 (K8 d r k).2 ≠ 125) : itI d r (k + 1) := by
 have hk := bi6 h h1 h2
 have hl := h.2.2 h1
 refine ⟨?_, by omega, fun hb => ?_⟩
 ·rw [h.1, show r.1.length + 1 - k = (r.1.length + 1 - (k + 1)) + 1 by omega, iSs, if_pos ⟨h1, h2, h3⟩]; rfl
 have := (aR2 d (K8 d r k).2).2.2 h2 hb
 show k + 1 + (C1 d (K8 d r k).2).2.1.length <= _
 omega
theorem ay5 (h : itI d r k) (h1 : (K8 d r k).2.2 = true \/ (K8 d r k).2.1 = [] \/ I7 (K8 d r k).2 = 125) : E0 (d + 1) r = K8 d r k := by
 rw [h.1]
 cases hg : r.1.length + 1 - k with
 | zero => rfl
 | succ g =>
  rw [iSs, if_neg]
  rintro ⟨a, b, c⟩
  rcases h1 with h1 | h1 | h1
  ·rw [h1] at a; cases a
  ·exact b h1
  exact c h1
end
end Go.Proofs.YtompcdbfongedaaGreatDoor

namespace Go.Proofs.YtompcdbfongedaaGreatDoor
open Go Go.RowKit
section
variable {s : List UInt8} {b : Bool} {x : UInt8} {f d k : Nat} {r : IR}
theorem aH9 (h : ((b5 s).toList == (⟨#[]⟩ : ByteArray).toList) = true) : s = [] := by
 rw [show (⟨#[]⟩ : ByteArray) = b5 [] from rfl, E5, E5] at h; exact eq_of_beq h
theorem bj7 (h : b = false) (h1 : ((b5 s).toList == (⟨#[]⟩ : ByteArray).toList) = false) (h2 : ¬ ((I7 (s, b)).toNat : Int) = 125) : E0 0 (s, b) = ([], (s, true)) := by
 rw [E0, iS0, if_pos ⟨h, P8 h1, fun e => h2 (by rw [e]; rfl)⟩]
theorem aY2 (h1 : ((b5 s).toList == (⟨#[]⟩ : ByteArray).toList) = true) : E0 0 (s, b) = ([], (s, b)) := by
 rw [E0, iS0, if_neg (by rw [aH9 h1]; simp)]
theorem aY3 (h2 : ((I7 (s, b)).toNat : Int) = 125) : E0 0 (s, b) = ([], (s, b)) := by
 rw [E0, iS0, if_neg]
 rintro ⟨_, _, h⟩
 exact h (O6 (y := 125) h2)
theorem bd1 (h : itI d r k) (h1 : (K8 d r k).2.2 = true) : E0 (d + 1) r = K8 d r k := ay5 h (.inl h1)
theorem bd0 (h : itI d r k) (h1 : ((b5 (K8 d r k).2.1).toList == (⟨#[]⟩ : ByteArray).toList) = true) : E0 (d + 1) r = K8 d r k := ay5 h (.inr (.inl (aH9 h1)))
theorem bc9 (h : itI d r k) (h1 : ((I7 (K8 d r k).2).toNat : Int) = 125) : E0 (d + 1) r = K8 d r k := ay5 h (.inr (.inr (O6 (y := 125) h1)))
theorem bE0 (h : itI d r k) (h1 : (K8 d r k).2.2 = false) (h2 : ((b5 (K8 d r k).2.1).toList == (⟨#[]⟩ : ByteArray).toList) = false) (h3 : ¬ ((I7 (K8 d r k).2).toNat : Int) = 125) : itI d r (k + 1) := bi5 h h1 (P8 h2) (fun e => h3 (by rw [e]; rfl))
theorem bE1 (h : itI d r k) (h1 : (K8 d r k).2.2 = false) (h2 : ((b5 (K8 d r k).2.1).toList == (⟨#[]⟩ : ByteArray).toList) = false) : k < r.1.length := bi6 h h1 (P8 h2)
end
abbrev isC (f : Nat) (s : List UInt8) (b : Bool) (m : Int) : r7 := ⟨22, [.ptr 0 0, iA m], [rdB s b], [.box [.v (.string (b5 (E0 f (s, b)).2.1)), .v (.bool (E0 f (s, b)).2.2)], .tree (.stmts (E0 f (s, b)).1)], .tref 1⟩
abbrev itC (d : Nat) (s : List UInt8) (b : Bool) (m : Int) : r7 := ⟨50, [.ptr 0 0, iA m], [rdB s b], [.box [.v (.string (b5 (C1 d (s, b)).2.1)), .v (.bool (C1 d (s, b)).2.2)], .tree (.exprs (C1 d (s, b)).1.index.kids), .tree (.exprs (C1 d (s, b)).1.value.kids), .tree (.stmts (C1 d (s, b)).1.body), .tree (.stmts (C1 d (s, b)).1.els)],
 .agg [iA (C1 d (s, b)).1.kind, iA (C1 d (s, b)).1.target, iA (C1 d (s, b)).1.index.kind, iA (C1 d (s, b)).1.index.value, .tref 1, iA (C1 d (s, b)).1.value.kind, iA (C1 d (s, b)).1.value.value, .tref 2, iA (C1 d (s, b)).1.count, .tref 3, .tref 4]⟩
abbrev aq6 (s : List UInt8) (b : Bool) : List It := [.box [.v (.string (b5 (E0 0 (s, b)).snd.fst)), bA (E0 0 (s, b)).snd.snd], .tree (D.stmts (E0 0 (s, b)).fst)]
abbrev aN2 (m : Int) (r0 : List (Nat × AV)) : List (Nat × AV) := (0, .ptr 0 0) :: (1, iA m) :: (4, .v (.slice none 0 0)) :: (5, .v (.slice none 0 0)) :: r0
theorem bl6 (s : List UInt8) (b : Bool) (m : Int) (hm : m = 6) (hs : s.length <= 100000000) : r7.ok Tryz.prog (isC 0 s b m) := by
  refine M7 35 Tryz.func22 [.box [.v (.string (b5 s)), bA b]] [(0, .ptr 0 0), (1, iA m)] fun G => ?_; refine wp_seq (o0 G m0 [(4, .v (.slice none 0 0))] fun G => b0 (wp_seq (H8 G m0 (aN2 m []) fun G => b0 (wp_seq (wp_block ?_))))); refine G5 (κ := Nat) (fun k => k = 0) (fun k => 0) (fun k => [.box [.v (.string (b5 s)), bA b]]) (fun k => (aN2 m [])) 0 (by kernel_rfl) (C2.at G _ _) ?_; clear G; intro k ρ a w hp G; refine wp_seq (wp_seq ?_); cases h0 : (!b)
  · have q0 : (b) = true := (Eq.mp (bQ2 _) h0); refine o0 G (D7 (fc h0 (fc (b := false) rfl fz)) (us [(6, 10, 0), (1011, 1011, 0), (13, 15, 1), (1016, 1016, 1)])) [(22, bA false)] fun G => b0 (rF G false (by kernel_rfl) (wp_exit (z7 (z7 (y9 (b0 (wp_seq (H8 G m0 [(4, .v (.slice none 0 0))] fun G => b0 (wp_ret ?_))))))))); obtain ⟨ρ, G⟩ := G.nilT 1 (.stmts []) [.box [.v (.string (b5 s)), bA b]] [(4, .tref 1)]; exact Z0 G [0, 1] (by show _ = mR [0, 1] (aq6 s b); unfold aq6; rw [q0] <;> rfl)
  have q0 : (b) = false := (Eq.mp (bQ1 _) h0); cases h1 : (!(b5 s).toList == (ByteArray.mk #[]).toList)
  · have q1 : ((b5 s).toList == (ByteArray.mk #[]).toList) = true := (Eq.mp (bQ2 _) h1); refine o0 G (D7 (fc h0 (fc h1 fz)) (us [(6, 10, 0), (1011, 1011, 0), (13, 15, 1), (1016, 1016, 1)])) [(22, bA false)] fun G => b0 (rF G false (by kernel_rfl) (wp_exit (z7 (z7 (y9 (b0 (wp_seq (H8 G m0 [(4, .v (.slice none 0 0))] fun G => b0 (wp_ret ?_))))))))); obtain ⟨ρ, G⟩ := G.nilT 1 (.stmts []) [.box [.v (.string (b5 s)), bA b]] [(4, .tref 1)]; exact Z0 G [0, 1] (by show _ = mR [0, 1] (aq6 s b); unfold aq6; have e1 : (b5 (E0 0 (s, b)).snd.fst : ByteArray) = (b5 s) := (by rw [aY2 (by with_reducible assumption)]); have e2 : ((E0 0 (s, b)).snd.snd : Bool) = (b) := (by rw [aY2 (by with_reducible assumption)]); have e3 : ((E0 0 (s, b)).fst : List b7) = ([]) := (by rw [aY2 (by with_reducible assumption)]); (first | rw [e1, e2, e3] | simp only [e1, e2, e3]) <;> rfl)
  have q1 : ((b5 s).toList == (ByteArray.mk #[]).toList) = false := (Eq.mp (bQ1 _) h1); refine o0 G (E3 (v6 14 [0] (ap4 s b) E2) (fc h0 (fc h1 fz)) (us [(6, 10, 0), (1011, 1011, 0), (13, 15, 1), (1016, 1016, 1)])) [(22, bA (((I7 (s, b)).toNat : Int) != 125))] fun G => b0 (rcN G (fun h2 q2 => ?_) fun h2 q2 => ?_)
  · refine wp_exit (z7 (z7 (y9 (b0 (wp_seq (H8 G m0 [(4, .v (.slice none 0 0))] fun G => b0 (wp_ret ?_))))))); obtain ⟨ρ, G⟩ := G.nilT 1 (.stmts []) [.box [.v (.string (b5 s)), bA b]] [(4, .tref 1)]; exact Z0 G [0, 1] (by show _ = mR [0, 1] (aq6 s b); unfold aq6; have e1 : (b5 (E0 0 (s, b)).snd.fst : ByteArray) = (b5 s) := (by rw [aY3 (by assumption)]); have e2 : ((E0 0 (s, b)).snd.snd : Bool) = (b) := (by rw [aY3 (by assumption)]); have e3 : ((E0 0 (s, b)).fst : List b7) = ([]) := (by rw [aY3 (by assumption)]); (first | rw [e1, e2, e3] | simp only [e1, e2, e3]) <;> rfl)
  refine wp_skip (b0 (wp_block (wp_seq (wp_seq (H8 G m0 (aN2 m [(24, bA (decide (m > 5)))]) fun G => b0 ?_))))); cases h3 : (decide (m > 5))
  · have q3 := R5 h3; exact False.elim (by omega)
  have q3 := R4 h3; refine rT G _ h3 (wp_seq (r8 G m0 [0] [.box [.v (.string (b5 s)), bA true]] (aN2 m []) fun G => b0 (wp_seq (H8 G m0 (aN2 m []) fun G => b0 (wp_ret (n8 (E6 (n8 (E6 (n8 ?_)))))))))); obtain ⟨ρ, G⟩ := G.nilT 1 (.stmts []) [.box [.v (.string (b5 s)), bA true]] [(0, .ptr 0 0), (1, iA m), (4, .tref 1), (5, .v (.slice none 0 0))]; exact Z0 G [0, 1] (by show _ = mR [0, 1] (aq6 s b); unfold aq6; have e1 : (b5 (E0 0 (s, b)).snd.fst : ByteArray) = (b5 s) := (by rw [bj7 (by assumption) (by with_reducible assumption) (by assumption)]); have e2 : ((E0 0 (s, b)).snd.snd : Bool) = (true) := (by rw [bj7 (by assumption) (by with_reducible assumption) (by assumption)]); have e3 : ((E0 0 (s, b)).fst : List b7) = ([]) := (by rw [bj7 (by assumption) (by with_reducible assumption) (by assumption)]); (first | rw [e1, e2, e3] | simp only [e1, e2, e3]) <;> rfl)
abbrev aD2 (d : Nat) (s : List UInt8) (b : Bool) : List It := [.box [.v (.string (b5 (E0 (d + 1) (s, b)).snd.fst)), bA (E0 (d + 1) (s, b)).snd.snd], .tree (D.stmts (E0 (d + 1) (s, b)).fst)]
theorem bo3 (d : Nat) (hd : d <= 4) (ih : ∀ (s : List UInt8) (b : Bool) (m : Int), m = 5 - (d : Int) -> s.length <= 100000000 -> r7.ok Tryz.prog (itC d s b m)) (s : List UInt8) (b : Bool) (m : Int) (hm : m = 6 - ((d + 1 : Nat) : Int)) (hs : s.length <= 100000000) : r7.ok Tryz.prog (isC (d + 1) s b m) := by
  refine M7 35 Tryz.func22 [.box [.v (.string (b5 s)), bA b]] [(0, .ptr 0 0), (1, iA m)] fun G => ?_; refine wp_seq (o0 G m0 [(4, .v (.slice none 0 0))] fun G => b0 (wp_seq (H8 G m0 [(0, .ptr 0 0), (1, iA m), (4, .v (.slice none 0 0)), (5, .v (.slice none 0 0))] fun G => b0 (wp_seq (wp_block ?_))))); obtain ⟨ρ, G⟩ := G.nilT 1 (.stmts []) [.box [.v (.string (b5 s)), bA b]] [(0, .ptr 0 0), (1, iA m), (4, .v (.slice none 0 0)), (5, .tref 1)]; refine G5 (κ := Nat) (fun k => itI d (s, b) k) (fun k => s.length + 1 - k) (fun k => [.box [.v (.string (b5 (K8 d (s, b) k).2.1)), bA (K8 d (s, b) k).2.2], .tree (.stmts (K8 d (s, b) k).1)]) (fun k => [(0, .ptr 0 0), (1, iA m), (4, .v (.slice none 0 0)), (5, .tref 1)]) 0 (bH4 _ _) (C2.at G _ _) ?_; clear G; intro k ρ a w hp G; replace G := C2.at G [.box [.v (.string (b5 (K8 d (s, b) k).snd.fst)), bA (K8 d (s, b) k).snd.snd], .tree (D.stmts (K8 d (s, b) k).fst)] [(0, .ptr 0 0), (1, iA m), (4, .v (.slice none 0 0)), (5, .tref 1)]; have hk9 : k <= s.length + 1 := hp.2.1; refine wp_seq (wp_seq ?_); cases h0 : (!(K8 d (s, b) k).snd.snd)
  · have q0 : ((K8 d (s, b) k).snd.snd) = true := (Eq.mp (bQ2 _) h0); refine o0 G (D7 (fc h0 (fc (b := false) rfl fz)) (us [(6, 10, 0), (1011, 1011, 0), (13, 15, 1), (1016, 1016, 1)])) [(22, bA false)] fun G => b0 (rF G false (by kernel_rfl) (wp_exit (z7 (z7 (y9 (b0 (wp_seq (o0 G m0 [(4, .tref 1)] fun G => b0 (wp_ret ?_))))))))); exact Z0 G [0, 1] (by show _ = mR [0, 1] (aD2 d s b); unfold aD2; have e1 : (b5 (E0 (d + 1) (s, b)).snd.fst : ByteArray) = (b5 (K8 d (s, b) k).snd.fst) := (by rw [bd1 hp (by assumption)]); have e2 : ((E0 (d + 1) (s, b)).snd.snd : Bool) = ((K8 d (s, b) k).snd.snd) := (by rw [bd1 hp (by assumption)]); have e3 : ((E0 (d + 1) (s, b)).fst : List b7) = ((K8 d (s, b) k).fst) := (by rw [bd1 hp (by assumption)]); (first | rw [e1, e2, e3] | simp only [e1, e2, e3]) <;> rfl)
  have q0 : ((K8 d (s, b) k).snd.snd) = false := (Eq.mp (bQ1 _) h0); cases h1 : (!(b5 (K8 d (s, b) k).snd.fst).toList == (ByteArray.mk #[]).toList)
  · have q1 : ((b5 (K8 d (s, b) k).snd.fst).toList == (ByteArray.mk #[]).toList) = true := (Eq.mp (bQ2 _) h1); refine o0 G (D7 (fc h0 (fc h1 fz)) (us [(6, 10, 0), (1011, 1011, 0), (13, 15, 1), (1016, 1016, 1)])) [(22, bA false)] fun G => b0 (rF G false (by kernel_rfl) (wp_exit (z7 (z7 (y9 (b0 (wp_seq (o0 G m0 [(4, .tref 1)] fun G => b0 (wp_ret ?_))))))))); exact Z0 G [0, 1] (by show _ = mR [0, 1] (aD2 d s b); unfold aD2; have e1 : (b5 (E0 (d + 1) (s, b)).snd.fst : ByteArray) = (b5 (K8 d (s, b) k).snd.fst) := (by rw [bd0 hp (by with_reducible assumption)]); have e2 : ((E0 (d + 1) (s, b)).snd.snd : Bool) = ((K8 d (s, b) k).snd.snd) := (by rw [bd0 hp (by with_reducible assumption)]); have e3 : ((E0 (d + 1) (s, b)).fst : List b7) = ((K8 d (s, b) k).fst) := (by rw [bd0 hp (by with_reducible assumption)]); (first | rw [e1, e2, e3] | simp only [e1, e2, e3]) <;> rfl)
  have q1 : ((b5 (K8 d (s, b) k).snd.fst).toList == (ByteArray.mk #[]).toList) = false := (Eq.mp (bQ1 _) h1); refine o0 G (E3 (v6 14 [0] (ap4 ((K8 d (s, b) k).snd.fst) ((K8 d (s, b) k).snd.snd)) E2) (fc h0 (fc h1 fz)) (us [(6, 10, 0), (1011, 1011, 0), (13, 15, 1), (1016, 1016, 1)])) [(22, bA (((I7 (K8 d (s, b) k).snd).toNat : Int) != 125))] fun G => b0 (rcN G (fun h2 q2 => ?_) fun h2 q2 => ?_)
  · refine wp_exit (z7 (z7 (y9 (b0 (wp_seq (o0 G m0 [(4, .tref 1)] fun G => b0 (wp_ret ?_))))))); exact Z0 G [0, 1] (by show _ = mR [0, 1] (aD2 d s b); unfold aD2; have e1 : (b5 (E0 (d + 1) (s, b)).snd.fst : ByteArray) = (b5 (K8 d (s, b) k).snd.fst) := (by rw [bc9 hp (by assumption)]); have e2 : ((E0 (d + 1) (s, b)).snd.snd : Bool) = ((K8 d (s, b) k).snd.snd) := (by rw [bc9 hp (by assumption)]); have e3 : ((E0 (d + 1) (s, b)).fst : List b7) = ((K8 d (s, b) k).fst) := (by rw [bc9 hp (by assumption)]); (first | rw [e1, e2, e3] | simp only [e1, e2, e3]) <;> rfl)
  refine wp_skip (b0 (wp_block (wp_seq (wp_seq (H8 G m0 [(0, .ptr 0 0), (1, iA m), (4, .v (.slice none 0 0)), (5, .tref 1), (24, bA (decide (m > 5)))] fun G => b0 ?_))))); cases h3 : (decide (m > 5))
  · have q3 := R5 h3; refine rF G _ h3 (wp_skip (b0 (K9 G (x8 3 [0] (ih ((K8 d (s, b) k).snd.fst) ((K8 d (s, b) k).snd.snd) m (by omega) (bO6 (bB5 d (s, b) k) hs))) [0, 42] [.box [.v (.string (b5 (C1 d (K8 d (s, b) k).snd).snd.fst)), bA (C1 d (K8 d (s, b) k).snd).snd.snd], .tree (D.stmts ((K8 d (s, b) k).fst ++ [qzS (C1 d (K8 d (s, b) k).snd).fst]))] [(0, .ptr 0 0), (1, iA m), (4, .v (.slice none 0 0)), (5, .tref 1)] (aP ((K8 d (s, b) k).fst.length + [qzS (C1 d (K8 d (s, b) k).snd).fst].length) 152 []) (aK (by simp only [bQ7, bO9, bP2, br2]; omega) bP7) fun G => B9 (b0 ?_)))); exact rxn G (k + 1) (bE0 hp (by assumption) (by with_reducible assumption) (by assumption)) (by have h9 : k < s.length := bE1 hp (by assumption) (by with_reducible assumption) ; omega) [0, 1] (by have e1 : ((K8 d (s, b) (k + 1)).fst : List b7) = ((K8 d (s, b) k).fst ++ [qzS (C1 d (K8 d (s, b) k).snd).fst]) := (by simp only [qzS, b9.eta, b7.eta]; rfl); (first | rw [e1] | simp only [e1]) <;> rfl)
  have q3 := R4 h3; exact False.elim (by omega)
end Go.Proofs.YtompcdbfongedaaGreatDoor

namespace Go.Proofs.YtompcdbfongedaaGreatDoor
open Go
def ji1 (r : IR) : b9 × IR := iE 5 (f8 r [105, 102])
def ji2 (d : Nat) (r : IR) : List b7 × IR := E0 d (f8 (ji1 r).2 [123])
def ji3 (d : Nat) (r : IR) : List b7 × IR := E0 d (f8 (f8 (ji2 d r).2 [125]) [123])
def jr1 (r : IR) : Int × IR := I9 (f8 r [114, 101, 112, 101, 97, 116])
def jr2 (d : Nat) (r : IR) : List b7 × IR := E0 d (f8 (jr1 r).2 [123])
def jv (r : IR) : b9 × IR := iE 5 (f8 (l0 r).2 [58, 61])
def jw (r : IR) : b9 × IR := iE 5 (f8 (l0 r).2 [33, 61])
def ja1 (r : IR) : b9 × IR := iE 5 (f8 (l0 r).2 [91])
def ja2 (r : IR) : b9 × IR := iE 5 (f8 (ja1 r).2 [93, 58, 61])
def jb (r : IR) : b9 × IR := iE 5 ((l0 r).2.1, true)
section
variable {d : Nat} {r : IR}
theorem bH2 (h : Q5 r.1 [105, 102] = true) : C1 d r = (⟨3, 0, zE, (ji1 r).1, 0, (ji2 d r).1, (ji3 d r).1⟩, f8 (ji3 d r).2 [125]) := by
 rw [T8, iSF, if_pos h]; rfl
theorem bH0 (h : Q5 r.1 [105, 102] = false) (h1 : Q5 r.1 [114, 101, 112, 101, 97, 116] = true) : C1 d r = (⟨4, 0, zE, zE, (jr1 r).1, (jr2 d r).1, []⟩, f8 (jr2 d r).2 [125]) := by
 rw [T8, iSF, if_neg (by rw [h]; decide), if_pos (show Q5 r.1 iSF.repL = true from h1)]; rfl
section
variable (h : Q5 r.1 [105, 102] = false) (h1 : Q5 r.1 [114, 101, 112, 101, 97, 116] = false)
include h h1
theorem bH1 (h2 : ak6 (l0 r).1 = true) (h3 : I7 (l0 r).2 = 33) : C1 d r = (⟨5, (((l0 r).1.toNat - 97 : Nat) : Int), zE, (jw r).1, 0, [], []⟩, f8 (jw r).2 [59]) := by
 rw [T8, iSF, if_neg (by rw [h]; decide), if_neg (by rw [show Q5 r.1 iSF.repL = false from h1]; decide), if_pos h2, if_pos h3]; rfl
theorem bH3 (h2 : ak6 (l0 r).1 = true) (h3 : ¬ I7 (l0 r).2 = 33) : C1 d r = (⟨1, (((l0 r).1.toNat - 97 : Nat) : Int), zE, (jv r).1, 0, [], []⟩, f8 (jv r).2 [59]) := by
 rw [T8, iSF, if_neg (by rw [h]; decide), if_neg (by rw [show Q5 r.1 iSF.repL = false from h1]; decide), if_pos h2, if_neg h3]; rfl
theorem bv6 (h2 : ak6 (l0 r).1 = false) (h3 : ay6 (l0 r).1 = true) : C1 d r = (⟨2, (((l0 r).1.toNat - 80 : Nat) : Int), (ja1 r).1, (ja2 r).1, 0, [], []⟩, f8 (ja2 r).2 [59]) := by
 rw [T8, iSF, if_neg (by rw [h]; decide), if_neg (by rw [show Q5 r.1 iSF.repL = false from h1]; decide), if_neg (by rw [h2]; decide), if_pos h3]; rfl
theorem bv7 (h2 : ak6 (l0 r).1 = false) (h3 : ay6 (l0 r).1 = false) : C1 d r = (⟨1, 0, zE, (jb r).1, 0, [], []⟩, f8 (jb r).2 [59]) := by
 rw [T8, iSF, if_neg (by rw [h]; decide), if_neg (by rw [show Q5 r.1 iSF.repL = false from h1]; decide), if_neg (by rw [h2]; decide), if_neg (by rw [h3]; decide)]; rfl
end
end
end Go.Proofs.YtompcdbfongedaaGreatDoor

namespace Go.Proofs.YtompcdbfongedaaGreatDoor
open Go Go.RowKit
theorem bO1 {x : Bool} (h : x = true) (h1 : x = false) : False := by rw [h] at h1; cases h1
theorem bJ3 (s : List UInt8) (b : Bool) (m : Int) (hm : m = 6) (hs : s.length <= 100000000) : r7.ok Tryz.prog (ieC 0 s b m) := by
  have hx : ((I7 (s, true)).toNat : Int) = 0 := rfl; refine M7 106 Tryz.func82 [.box [.v (.string (b5 s)), bA b]] [(0, .ptr 0 0), (1, iA m)] fun G => ?_; refine wp_seq (r8 G m0 [0, 1] [.box [.v (.string (b5 s)), bA b], .box [iA 0, iA 0, .v (.slice none 0 0)]] [(0, .ptr 0 0), (1, iA m), (4, .ptr 1 0)] fun G => b0 (wp_seq (wp_seq (H8 G m0 [(0, .ptr 0 0), (1, iA m), (4, .ptr 1 0), (10, bA (decide (m > 5)))] fun G => b0 ?_)))); cases h0 : (decide (m > 5))
  · have q0 := R5 h0; exact False.elim (by omega)
  have q0 := R4 h0; refine rT G _ h0 (r8 G m0 [0, 1] [.box [.v (.string (b5 s)), bA true], .box [iA 0, iA 0, .v (.slice none 0 0)]] [(0, .ptr 0 0), (1, iA m), (4, .ptr 1 0)] fun G => b0 (wp_seq (wp_seq (o0 G (x8 1 [0] (ap4 s true)) [(5, .v (.int .u8 ((I7 (s, true)).toNat : Int)))] fun G => b0 (wp_block (wp_seq (o0 G (D7 (fc (b := false) rfl fz) [(3, 0), (4, 0), (1005, 0)]) [(16, bA false)] fun G => b0 (rF G false (by kernel_rfl) (wp_seq (o0 G (D7 (fc (b := false) rfl fz) [(3, 0), (4, 0), (1005, 0)]) [(26, bA false)] fun G => b0 (rF G false (by kernel_rfl) (wp_seq (o0 G (D7 (fc (b := false) rfl fz) [(3, 0), (4, 0), (1005, 0)]) [(38, bA false)] fun G => b0 (rF G false (by kernel_rfl) (wp_skip (B9 (b0 (wp_seq (r8 G (x8 1 [0] (I3 s ([40]) true (by assumption))) [0, 1] [.box [.v (.string (b5 (f8 (s, true) [40]).fst)), bA (f8 (s, true) [40]).snd], .box [iA 0, iA 0, .v (.slice none 0 0)]] [(0, .ptr 0 0), (1, iA m), (4, .ptr 1 0)] fun G => b0 (wp_seq (wp_seq (H8 G m0 [(0, .ptr 0 0), (1, iA m), (4, .ptr 1 0), (66, bA (f8 (s, true) [40]).snd)] fun G => b0 ?_)))))))))))))))))))))); cases h1 : ((f8 (s, true) [(40 : UInt8)]).snd)
  · exact False.elim (bO1 (by2 (s := s) (w := [40])) (by with_reducible assumption))
  refine rT G _ h1 (wp_seq (H8 G m0 [(0, .ptr 0 0), (1, iA m), (4, .ptr 1 0)] fun G => b0 (wp_ret (n8 ?_)))); obtain ⟨ρ, G⟩ := G.nilT 2 (.exprs []) [.box [.v (.string (b5 (f8 (s, true) [40]).fst)), bA (f8 (s, true) [40]).snd], .box [iA 0, iA 0, .tref 2]] [(0, .ptr 0 0), (1, iA m), (4, .ptr 1 0)]; exact Z0 G [0, 2]
theorem iED : ∀ (f : Nat), f <= 5 -> ∀ (s : List UInt8) (b : Bool) (m : Int), m = 6 - (f : Int) -> s.length <= 100000000 -> r7.ok Tryz.prog (ieC f s b m)
 | 0, _, s, b, m, hm, hs => bJ3 s b m (by omega) hs
 | f + 1, hf, s, b, m, hm, hs => bK7 f (by omega) (iED f (by omega)) s b m hm hs
theorem bD3 (s : List UInt8) (b : Bool) (m : Int) (hm : m = 1) (hs : s.length <= 100000000) : r7.ok Tryz.prog (ieC 5 s b m) := iED 5 (by omega) s b m (by omega) hs
abbrev ibC (f : Nat) (s : List UInt8) (b : Bool) (m : Int) : r7 := ⟨83, [.ptr 0 0, iA m], [rdB s b], [.box [.v (.string (b5 (f8 (E0 f (f8 (s, b) [123])).2 [125]).1)), .v (.bool (f8 (E0 f (f8 (s, b) [123])).2 [125]).2)], .tree (.stmts (E0 f (f8 (s, b) [123])).1)], .tref 1⟩
theorem be4 (f : Nat) (ih : ∀ (s : List UInt8) (b : Bool) (m : Int), m = 6 - (f : Int) -> s.length <= 100000000 -> r7.ok Tryz.prog (isC f s b m)) (s : List UInt8) (b : Bool) (m : Int) (hm : m = 6 - (f : Int)) (hs : s.length <= 100000000) : r7.ok Tryz.prog (ibC f s b m) := by
 refine M7 14 Tryz.func83 [.box [.v (.string (b5 s)), bA b]] [(0, .ptr 0 0), (1, iA m)] fun G => ?_; refine wp_seq (o0 G m0 [(4, .v (.slice none 0 0))] fun G => b0 (wp_seq (r8 G (x8 1 [0] (I3 s ([123]) b (by assumption))) [0] [.box [.v (.string (b5 (f8 (s, b) [123]).fst)), bA (f8 (s, b) [123]).snd]] [(0, .ptr 0 0), (1, iA m), (4, .v (.slice none 0 0))] fun G => b0 (wp_seq (r8 G (x8 2 [0] (ih ((f8 (s, b) [123]).fst) ((f8 (s, b) [123]).snd) m (by assumption) (by repeat (first | exact hs | with_reducible refine bO6 (C6 f _) ?_ | with_reducible refine bO6 n4 ?_)))) [0, 17] [.box [.v (.string (b5 (E0 f (f8 (s, b) [123])).snd.fst)), bA (E0 f (f8 (s, b) [123])).snd.snd], .tree (D.stmts (E0 f (f8 (s, b) [123])).fst)] [(0, .ptr 0 0), (4, .v (.slice none 0 0)), (5, .tref 1)] fun G => b0 (wp_seq (r8 G (x8 1 [0] (I3 ((E0 f (f8 (s, b) [123])).snd.fst) ([125]) ((E0 f (f8 (s, b) [123])).snd.snd) (by repeat (first | exact hs | with_reducible refine bO6 (C6 f _) ?_ | with_reducible refine bO6 n4 ?_)))) [0, 1] [.box [.v (.string (b5 (f8 (E0 f (f8 (s, b) [123])).snd [125]).fst)), bA (f8 (E0 f (f8 (s, b) [123])).snd [125]).snd], .tree (D.stmts (E0 f (f8 (s, b) [123])).fst)] [(4, .v (.slice none 0 0)), (5, .tref 1)] fun G => b0 (wp_seq (o0 G m0 [(4, .tref 1)] fun G => b0 (wp_ret ?_)))))))))); exact Z0 G [0, 1]
attribute [local irreducible] iE E0 C1 f8 l0 I9 I7 Q5
abbrev rdR (r : IR) : It := .box [.v (.string (b5 r.1)), .v (.bool r.2)]
abbrev nxR (r : IR) : r7 := ⟨49, [.ptr 0 0], [rdR r], [rdR r], uA (I7 r)⟩
abbrev skR (r : IR) (u : List UInt8) : r7 := ⟨81, [.ptr 0 0, tA u], [rdR r], [rdR (f8 r u)], .tup []⟩
abbrev onR (r : IR) : r7 := ⟨85, [.ptr 0 0], [rdR r], [rdR (l0 r).2], uA (l0 r).1⟩
abbrev nuR (r : IR) : r7 := ⟨84, [.ptr 0 0], [rdR r], [rdR (I9 r).2], iA (I9 r).1⟩
abbrev ieR (r : IR) (m : Int) : r7 := ⟨82, [.ptr 0 0, iA m], [rdR r], [rdR (iE 5 r).2, .tree (.exprs (iE 5 r).1.kids)], .agg [iA (iE 5 r).1.kind, iA (iE 5 r).1.value, .tref 1]⟩
abbrev ibR (f : Nat) (r : IR) (m : Int) : r7 := ⟨83, [.ptr 0 0, iA m], [rdR r], [rdR (f8 (E0 f (f8 r [123])).2 [125]), .tree (.stmts (E0 f (f8 r [123])).1)], .tref 1⟩
abbrev itR (d : Nat) (r : IR) (m : Int) : r7 := ⟨50, [.ptr 0 0, iA m], [rdR r], [rdR (C1 d r).2, .tree (.exprs (C1 d r).1.index.kids), .tree (.exprs (C1 d r).1.value.kids), .tree (.stmts (C1 d r).1.body), .tree (.stmts (C1 d r).1.els)],
 .agg [iA (C1 d r).1.kind, iA (C1 d r).1.target, iA (C1 d r).1.index.kind, iA (C1 d r).1.index.value, .tref 1, iA (C1 d r).1.value.kind, iA (C1 d r).1.value.value, .tref 2, iA (C1 d r).1.count, .tref 3, .tref 4]⟩
abbrev X8 (r : IR) := iE 5 (f8 (iE 5 (f8 (l0 r).snd [91])).snd [93, 58, 61])
abbrev ag4 (d : Nat) (r : IR) := E0 d (f8 (iE 5 (f8 r [105, 102])).snd [123])
abbrev aD1 (d : Nat) (r : IR) := E0 d (f8 (I9 (f8 r [114, 101, 112, 101, 97, 116])).snd [123])
abbrev bt2 (r : IR) := f8 (iE 5 ((l0 r).snd.fst, true)).snd [59]
abbrev S4 (d : Nat) (r : IR) : List It := [.box [.v (.string (b5 (C1 d r).snd.fst)), bA (C1 d r).snd.snd], .tree (D.exprs (C1 d r).fst.index.kids), .tree (D.exprs (C1 d r).fst.value.kids), .tree (D.stmts (C1 d r).fst.body), .tree (D.stmts (C1 d r).fst.els)]
abbrev C7 : It := .box [iA 0, iA 0, iA 0, iA 0, .v (.slice none 0 0), iA 0, iA 0, .v (.slice none 0 0), iA 0, .v (.slice none 0 0), .v (.slice none 0 0)]
abbrev a04 (r : IR) : It := .box [iA 2, iA (((l0 r).fst.toNat : Int) - 80), iA (iE 5 (f8 (l0 r).snd [91])).fst.kind, iA (iE 5 (f8 (l0 r).snd [91])).fst.value, .tref 3, iA (X8 r).fst.kind, iA (X8 r).fst.value, .tref 4, iA 0, .v (.slice none 0 0), .v (.slice none 0 0)]
abbrev a03 (r : IR) : It := .box [iA 2, iA (((l0 r).fst.toNat : Int) - 80), iA (iE 5 (f8 (l0 r).snd [91])).fst.kind, iA (iE 5 (f8 (l0 r).snd [91])).fst.value, .tref 3, iA 0, iA 0, .v (.slice none 0 0), iA 0, .v (.slice none 0 0), .v (.slice none 0 0)]
abbrev a02 (r : IR) : It := .box [iA 1, iA 0, iA 0, iA 0, .v (.slice none 0 0), iA (iE 5 ((l0 r).snd.fst, true)).fst.kind, iA (iE 5 ((l0 r).snd.fst, true)).fst.value, .tref 3, iA 0, .v (.slice none 0 0), .v (.slice none 0 0)]
abbrev a01 (r : IR) : It := .box [iA 2, iA (((l0 r).fst.toNat : Int) - 80), iA 0, iA 0, .v (.slice none 0 0), iA 0, iA 0, .v (.slice none 0 0), iA 0, .v (.slice none 0 0), .v (.slice none 0 0)]
abbrev aH0 : It := .box [iA 1, iA 0, iA 0, iA 0, .v (.slice none 0 0), iA 0, iA 0, .v (.slice none 0 0), iA 0, .v (.slice none 0 0), .v (.slice none 0 0)]
abbrev W8 (r : IR) : It := .tree (D.exprs (iE 5 (f8 (l0 r).snd [91])).fst.kids)
abbrev bb7 (r : IR) : It := .box [iA 2, iA (((l0 r).fst.toNat : Int) - 80), iA (iE 5 (f8 (l0 r).snd [91])).fst.kind, iA (iE 5 (f8 (l0 r).snd [91])).fst.value, .tref 2, iA (X8 r).fst.kind, iA (X8 r).fst.value, .tref 3, iA 0, .v (.slice none 0 0), .v (.slice none 0 0)]
abbrev bb6 (r : IR) : It := .box [iA 1, iA (((l0 r).fst.toNat : Int) - 97), iA 0, iA 0, .v (.slice none 0 0), iA (iE 5 (f8 (l0 r).snd [58, 61])).fst.kind, iA (iE 5 (f8 (l0 r).snd [58, 61])).fst.value, .tref 3, iA 0, .v (.slice none 0 0), .v (.slice none 0 0)]
abbrev bb5 (r : IR) : It := .box [iA 5, iA (((l0 r).fst.toNat : Int) - 97), iA 0, iA 0, .v (.slice none 0 0), iA (iE 5 (f8 (l0 r).snd [33, 61])).fst.kind, iA (iE 5 (f8 (l0 r).snd [33, 61])).fst.value, .tref 3, iA 0, .v (.slice none 0 0), .v (.slice none 0 0)]
abbrev bb4 (r : IR) : It := .box [iA 1, iA 0, iA 0, iA 0, .v (.slice none 0 0), iA (iE 5 ((l0 r).snd.fst, true)).fst.kind, iA (iE 5 ((l0 r).snd.fst, true)).fst.value, .tref 2, iA 0, .v (.slice none 0 0), .v (.slice none 0 0)]
abbrev aG9 (r : IR) : It := .box [.v (.string (b5 (f8 (X8 r).snd [59]).fst)), bA (f8 (X8 r).snd [59]).snd]
abbrev bb3 (r : IR) : It := .box [iA 1, iA (((l0 r).fst.toNat : Int) - 97), iA 0, iA 0, .v (.slice none 0 0), iA 0, iA 0, .v (.slice none 0 0), iA 0, .v (.slice none 0 0), .v (.slice none 0 0)]
abbrev bb2 (r : IR) : It := .box [iA 5, iA (((l0 r).fst.toNat : Int) - 97), iA 0, iA 0, .v (.slice none 0 0), iA 0, iA 0, .v (.slice none 0 0), iA 0, .v (.slice none 0 0), .v (.slice none 0 0)]
abbrev am3 (r : IR) : It := .tree (D.exprs (iE 5 ((l0 r).snd.fst, true)).fst.kids)
abbrev bb1 (d : Nat) (r : IR) : It := .box [.v (.string (b5 (f8 (E0 d (f8 (f8 (ag4 d r).snd [125]) [123])).snd [125]).fst)), bA (f8 (E0 d (f8 (f8 (ag4 d r).snd [125]) [123])).snd [125]).snd]
abbrev au9 (r : IR) : It := .box [.v (.string (b5 (l0 r).snd.fst)), bA (l0 r).snd.snd]
abbrev bb0 (r : IR) : It := .box [.v (.string (b5 (f8 (iE 5 (f8 (l0 r).snd [91])).snd [93, 58, 61]).fst)), bA (f8 (iE 5 (f8 (l0 r).snd [91])).snd [93, 58, 61]).snd]
abbrev ba9 (r : IR) : It := .box [.v (.string (b5 (f8 (iE 5 (f8 (l0 r).snd [58, 61])).snd [59]).fst)), bA (f8 (iE 5 (f8 (l0 r).snd [58, 61])).snd [59]).snd]
abbrev ba8 (r : IR) : It := .box [.v (.string (b5 (f8 (iE 5 (f8 (l0 r).snd [33, 61])).snd [59]).fst)), bA (f8 (iE 5 (f8 (l0 r).snd [33, 61])).snd [59]).snd]
abbrev aG8 (r : IR) : It := .box [.v (.string (b5 (bt2 r).fst)), bA (bt2 r).snd]
abbrev am2 (r : IR) : It := .tree (D.exprs (X8 r).fst.kids)
abbrev au8 (r : IR) : AV := .v (.int .u8 ((l0 r).fst.toNat : Int))
abbrev aG7 (r : IR) : It := .tree (D.exprs (iE 5 (f8 r [105, 102])).fst.kids)
abbrev H9 (r0 : List (Nat × AV)) : List (Nat × AV) := (0, .ptr 0 0) :: (4, .ptr 1 0) :: (7, .ptr 2 0) :: r0
theorem by5 (d : Nat) (hd : d <= 4) (r : IR) (m : Int) (hm : m = 5 - (d : Int)) (hs : r.1.length <= 100000000) (ih : ∀ (r : IR) (m : Int), m = 6 - (d : Int) -> r.1.length <= 100000000 -> r7.ok Tryz.prog (ibR d r m))
    (kn : ∀ (r : IR), r7.ok Tryz.prog (nxR r)) (kk : ∀ (r : IR) (u : List UInt8), r.1.length <= 100000000 -> r7.ok Tryz.prog (skR r u)) (ko : ∀ (r : IR), r.1.length <= 100000000 -> r7.ok Tryz.prog (onR r))
    (ku : ∀ (r : IR), r.1.length <= 100000000 -> r7.ok Tryz.prog (nuR r)) (ke : ∀ (r : IR) (m : Int), m = 1 -> r.1.length <= 100000000 -> r7.ok Tryz.prog (ieR r m)) : r7.ok Tryz.prog (itR d r m) := by
  have hx : (l0 r).1.toNat < 256 := UInt8.toNat_lt _; refine M7 98 Tryz.func50 [.box [.v (.string (b5 r.fst)), bA r.snd]] [(0, .ptr 0 0), (1, iA m)] fun G => ?_; refine wp_seq (r8 G m0 [0, 1] [.box [.v (.string (b5 r.fst)), bA r.snd], C7] [(0, .ptr 0 0), (1, iA m), (4, .ptr 1 0)] fun G => b0 (wp_seq (wp_block (wp_seq (H8 G (x8 4 [] (ar9 r.fst ([105, 102]))) [(0, .ptr 0 0), (1, iA m), (4, .ptr 1 0), (9, bA (Q5 r.fst [105, 102]))] fun G => b0 ?_))))); cases h0 : (Q5 r.fst [(105 : UInt8), (102 : UInt8)])
  ·
   refine rF G _ h0 (wp_seq (H8 G (x8 4 [] (ar9 r.fst ([114, 101, 112, 101, 97, 116]))) [(0, .ptr 0 0), (1, iA m), (4, .ptr 1 0), (31, bA (Q5 r.fst [114, 101, 112, 101, 97, 116]))] fun G => b0 ?_)); cases h1 : (Q5 r.fst [(114 : UInt8), (101 : UInt8), (112 : UInt8), (101 : UInt8), (97 : UInt8), (116 : UInt8)])
   ·
    refine rF G _ h1 (wp_skip (B9 (b0 (wp_seq (r8 G m0 [0, 1, 10] [.box [.v (.string (b5 r.fst)), bA r.snd], C7, aH0] (H9 []) fun G => b0 (wp_seq (wp_seq (r8 G (x8 1 [0] (ko r (by assumption))) [0, 1, 2] [au9 r, C7, aH0] (H9 [(8, au8 r)]) fun G => b0 (wp_block (wp_seq ?_)))))))))); cases h2 : (decide (((l0 r).fst.toNat : Int) >= 97))
    ·
     have q2 := R5 h2; refine H8 G (D7 (fc h2 fz) [(3, 0), (4, 0), (1005, 0)]) (H9 [(8, au8 r), (54, bA false)]) fun G => b0 (rF G false (by kernel_rfl) (wp_seq ?_)); cases h3 : (((l0 r).fst.toNat : Int) == 80)
     ·
      have q3 := ne_of_beq_false h3; refine H8 G (D7 (fc h3 fz) [(3, 0), (4, 0), (1005, 0)]) (H9 [(8, au8 r), (73, bA (((l0 r).fst.toNat : Int) == 81))]) fun G => b0 ?_; cases h4 : (((l0 r).fst.toNat : Int) == 81)
      · have q4 := ne_of_beq_false h4; have e9 := bv7 (d := d) (r := r) (by with_reducible assumption) (by with_reducible assumption) (s9 (by omega)) (y5 (by omega) (by omega)); refine rF G _ h4 (r8 G m0 [0, 1, 2] [.box [.v (.string (b5 (l0 r).snd.fst)), bA true], C7, aH0] (H9 []) fun G => B9 (b0 (wp_seq (r8 G (x8 1 [0] (bD3 ((l0 r).snd.fst) true 1 (by kernel_rfl) (by repeat (first | exact hs | with_reducible refine bO6 (s3 5 _) ?_ | with_reducible refine bO6 n4 ?_ | with_reducible refine bO6 o7 ?_ | with_reducible refine bO6 p7 ?_ | with_reducible refine bO6 (C6 d _) ?_)))) [0, 1, 2, 11] [.box [.v (.string (b5 (iE 5 ((l0 r).snd.fst, true)).snd.fst)), bA (iE 5 ((l0 r).snd.fst, true)).snd.snd], C7, a02 r, am3 r] (H9 []) fun G => b0 (wp_seq (r8 G (x8 1 [0] (kk ((iE 5 ((l0 r).snd.fst, true)).snd) ([59]) (by repeat (first | exact hs | with_reducible refine bO6 (s3 5 _) ?_ | with_reducible refine bO6 n4 ?_ | with_reducible refine bO6 o7 ?_ | with_reducible refine bO6 p7 ?_ | with_reducible refine bO6 (C6 d _) ?_)))) (rg 4) [aG8 r, C7, a02 r, am3 r] [(4, .ptr 1 0), (7, .ptr 2 0)] fun G => b0 (wp_seq (r8 G m0 [0, 1, 3] [aG8 r, bb4 r, am3 r] [(4, .ptr 1 0)] fun G => b0 (wp_ret ?_))))))))); obtain ⟨ρ, G⟩ := G.nilT 3 (.exprs []) [.box [.v (.string (b5 (f8 (iE 5 ((l0 r).snd.fst, true)).snd [59]).fst)), bA (f8 (iE 5 ((l0 r).snd.fst, true)).snd [59]).snd], .box [iA 1, iA 0, iA 0, iA 0, .tref 3, iA (iE 5 ((l0 r).snd.fst, true)).fst.kind, iA (iE 5 ((l0 r).snd.fst, true)).fst.value, .tref 2, iA 0, .v (.slice none 0 0), .v (.slice none 0 0)], .tree (D.exprs (iE 5 ((l0 r).snd.fst, true)).fst.kids)] [(4, .ptr 1 0)]; obtain ⟨ρ, G⟩ := G.nilT 4 (.stmts []) [.box [.v (.string (b5 (f8 (iE 5 ((l0 r).snd.fst, true)).snd [59]).fst)), bA (f8 (iE 5 ((l0 r).snd.fst, true)).snd [59]).snd], .box [iA 1, iA 0, iA 0, iA 0, .tref 3, iA (iE 5 ((l0 r).snd.fst, true)).fst.kind, iA (iE 5 ((l0 r).snd.fst, true)).fst.value, .tref 2, iA 0, .tref 4, .v (.slice none 0 0)], .tree (D.exprs (iE 5 ((l0 r).snd.fst, true)).fst.kids), .tree (D.exprs [])] [(4, .ptr 1 0)]; obtain ⟨ρ, G⟩ := G.nilT 5 (.stmts []) [.box [.v (.string (b5 (f8 (iE 5 ((l0 r).snd.fst, true)).snd [59]).fst)), bA (f8 (iE 5 ((l0 r).snd.fst, true)).snd [59]).snd], .box [iA 1, iA 0, iA 0, iA 0, .tref 3, iA (iE 5 ((l0 r).snd.fst, true)).fst.kind, iA (iE 5 ((l0 r).snd.fst, true)).fst.value, .tref 2, iA 0, .tref 4, .tref 5], .tree (D.exprs (iE 5 ((l0 r).snd.fst, true)).fst.kids), .tree (D.exprs []), .tree (D.stmts [])] [(4, .ptr 1 0)]; exact K2 (.agg [iA 1, iA 0, iA 0, iA 0, .tref 3, iA (iE 5 ((l0 r).snd.fst, true)).fst.kind, iA (iE 5 ((l0 r).snd.fst, true)).fst.value, .tref 2, iA 0, .tref 4, .tref 5]) G [0, 3, 2, 4, 5] (by have e1 : ((C1 d r).fst.kind : Int) = (1) := (by rw [e9]; rfl); have e2 : ((C1 d r).fst.target : Int) = (0) := (by rw [e9]; rfl); have e3 : ((C1 d r).fst.index.kind : Int) = (0) := (by rw [e9]; rfl); have e4 : ((C1 d r).fst.index.value : Int) = (0) := (by rw [e9]; rfl); have e5 : ((C1 d r).fst.value.kind : Int) = ((iE 5 ((l0 r).snd.fst, true)).fst.kind) := (by rw [e9]; rfl); have e6 : ((C1 d r).fst.value.value : Int) = ((iE 5 ((l0 r).snd.fst, true)).fst.value) := (by rw [e9]; rfl); have e7 : ((C1 d r).fst.count : Int) = (0) := (by rw [e9]; rfl); (first | rw [e1, e2, e3, e4, e5, e6, e7] | simp only [e1, e2, e3, e4, e5, e6, e7]) <;> rfl) (by show _ = mR [0, 3, 2, 4, 5] (S4 d r); unfold S4; rw [e9] <;> rfl)
      have q4 := eq_of_beq h4; have e9 := bv6 (d := d) (r := r) (by with_reducible assumption) (by with_reducible assumption) (s9 (by omega)) (R9 (by omega)); refine rT G _ h4 (wp_seq (K9 G m0 [0, 1, 2] [au9 r, C7, a01 r] (H9 []) [IntKind.u8.wrap (((l0 r).fst.toNat : Int) - 80) = ((l0 r).fst.toNat : Int) - 80, wO (((l0 r).fst.toNat : Int) - 80)] ⟨(w8 (by omega) (by omega)), (oW (by omega)), bP7⟩ fun G => b0 (wp_seq (r8 G (x8 1 [0] (kk ((l0 r).snd) ([91]) (by repeat (first | exact hs | with_reducible refine bO6 (s3 5 _) ?_ | with_reducible refine bO6 n4 ?_ | with_reducible refine bO6 o7 ?_ | with_reducible refine bO6 p7 ?_ | with_reducible refine bO6 (C6 d _) ?_)))) [0, 1, 2] [.box [.v (.string (b5 (f8 (l0 r).snd [91]).fst)), bA (f8 (l0 r).snd [91]).snd], C7, a01 r] (H9 []) fun G => b0 (wp_seq (r8 G (x8 1 [0] (ke (f8 (l0 r).snd [91]) 1 (by kernel_rfl) (by repeat (first | exact hs | with_reducible refine bO6 (s3 5 _) ?_ | with_reducible refine bO6 n4 ?_ | with_reducible refine bO6 o7 ?_ | with_reducible refine bO6 p7 ?_ | with_reducible refine bO6 (C6 d _) ?_)))) [0, 1, 2, 11] [.box [.v (.string (b5 (iE 5 (f8 (l0 r).snd [91])).snd.fst)), bA (iE 5 (f8 (l0 r).snd [91])).snd.snd], C7, a03 r, W8 r] (H9 []) fun G => b0 (r8 G (x8 1 [0] (kk ((iE 5 (f8 (l0 r).snd [91])).snd) ([93, 58, 61]) (by repeat (first | exact hs | with_reducible refine bO6 (s3 5 _) ?_ | with_reducible refine bO6 n4 ?_ | with_reducible refine bO6 o7 ?_ | with_reducible refine bO6 p7 ?_ | with_reducible refine bO6 (C6 d _) ?_)))) (rg 4) [bb0 r, C7, a03 r, W8 r] (H9 []) fun G => B9 (b0 (wp_seq (r8 G (x8 1 [0] (ke (f8 (iE 5 (f8 (l0 r).snd [91])).snd [93, 58, 61]) 1 (by kernel_rfl) (by repeat (first | exact hs | with_reducible refine bO6 (s3 5 _) ?_ | with_reducible refine bO6 n4 ?_ | with_reducible refine bO6 o7 ?_ | with_reducible refine bO6 p7 ?_ | with_reducible refine bO6 (C6 d _) ?_)))) [0, 1, 2, 3, 12] [.box [.v (.string (b5 (X8 r).snd.fst)), bA (X8 r).snd.snd], C7, a04 r, W8 r, am2 r] (H9 []) fun G => b0 (wp_seq (r8 G (x8 1 [0] (kk ((X8 r).snd) ([59]) (by repeat (first | exact hs | with_reducible refine bO6 (s3 5 _) ?_ | with_reducible refine bO6 n4 ?_ | with_reducible refine bO6 o7 ?_ | with_reducible refine bO6 p7 ?_ | with_reducible refine bO6 (C6 d _) ?_)))) (rg 5) [aG9 r, C7, a04 r, W8 r, am2 r] [(4, .ptr 1 0), (7, .ptr 2 0)] fun G => b0 (wp_seq (r8 G m0 [0, 1, 3, 4] [aG9 r, bb7 r, W8 r, am2 r] [(4, .ptr 1 0)] fun G => b0 ?_))))))))))))))
      refine wp_ret ?_; obtain ⟨ρ, G⟩ := G.nilT 4 (.stmts []) [.box [.v (.string (b5 (f8 (iE 5 (f8 (iE 5 (f8 (l0 r).snd [91])).snd [93, 58, 61])).snd [59]).fst)), bA (f8 (iE 5 (f8 (iE 5 (f8 (l0 r).snd [91])).snd [93, 58, 61])).snd [59]).snd], .box [iA 2, iA (((l0 r).fst.toNat : Int) - 80), iA (iE 5 (f8 (l0 r).snd [91])).fst.kind, iA (iE 5 (f8 (l0 r).snd [91])).fst.value, .tref 2, iA (iE 5 (f8 (iE 5 (f8 (l0 r).snd [91])).snd [93, 58, 61])).fst.kind, iA (iE 5 (f8 (iE 5 (f8 (l0 r).snd [91])).snd [93, 58, 61])).fst.value, .tref 3, iA 0, .tref 4, .v (.slice none 0 0)], .tree (D.exprs (iE 5 (f8 (l0 r).snd [91])).fst.kids), .tree (D.exprs (iE 5 (f8 (iE 5 (f8 (l0 r).snd [91])).snd [93, 58, 61])).fst.kids)] [(4, .ptr 1 0)]; obtain ⟨ρ, G⟩ := G.nilT 5 (.stmts []) [.box [.v (.string (b5 (f8 (iE 5 (f8 (iE 5 (f8 (l0 r).snd [91])).snd [93, 58, 61])).snd [59]).fst)), bA (f8 (iE 5 (f8 (iE 5 (f8 (l0 r).snd [91])).snd [93, 58, 61])).snd [59]).snd], .box [iA 2, iA (((l0 r).fst.toNat : Int) - 80), iA (iE 5 (f8 (l0 r).snd [91])).fst.kind, iA (iE 5 (f8 (l0 r).snd [91])).fst.value, .tref 2, iA (iE 5 (f8 (iE 5 (f8 (l0 r).snd [91])).snd [93, 58, 61])).fst.kind, iA (iE 5 (f8 (iE 5 (f8 (l0 r).snd [91])).snd [93, 58, 61])).fst.value, .tref 3, iA 0, .tref 4, .tref 5], .tree (D.exprs (iE 5 (f8 (l0 r).snd [91])).fst.kids), .tree (D.exprs (iE 5 (f8 (iE 5 (f8 (l0 r).snd [91])).snd [93, 58, 61])).fst.kids), .tree (D.stmts [])] [(4, .ptr 1 0)]; exact K2 (.agg [iA 2, iA (((l0 r).fst.toNat : Int) - 80), iA (iE 5 (f8 (l0 r).snd [91])).fst.kind, iA (iE 5 (f8 (l0 r).snd [91])).fst.value, .tref 2, iA (iE 5 (f8 (iE 5 (f8 (l0 r).snd [91])).snd [93, 58, 61])).fst.kind, iA (iE 5 (f8 (iE 5 (f8 (l0 r).snd [91])).snd [93, 58, 61])).fst.value, .tref 3, iA 0, .tref 4, .tref 5]) G [0, 2, 3, 4, 5] (by have e1 : ((C1 d r).fst.kind : Int) = (2) := (by rw [e9]; rfl); have e2 : ((C1 d r).fst.target : Int) = (((l0 r).fst.toNat : Int) - 80) := (by rw [e9]; show ((_ - _ : Nat) : Int) = _; omega); have e3 : ((C1 d r).fst.index.kind : Int) = ((iE 5 (f8 (l0 r).snd [91])).fst.kind) := (by rw [e9]; rfl); have e4 : ((C1 d r).fst.index.value : Int) = ((iE 5 (f8 (l0 r).snd [91])).fst.value) := (by rw [e9]; rfl); have e5 : ((C1 d r).fst.value.kind : Int) = ((iE 5 (f8 (iE 5 (f8 (l0 r).snd [91])).snd [93, 58, 61])).fst.kind) := (by rw [e9]; rfl); have e6 : ((C1 d r).fst.value.value : Int) = ((iE 5 (f8 (iE 5 (f8 (l0 r).snd [91])).snd [93, 58, 61])).fst.value) := (by rw [e9]; rfl); have e7 : ((C1 d r).fst.count : Int) = (0) := (by rw [e9]; rfl); (first | rw [e1, e2, e3, e4, e5, e6, e7] | simp only [e1, e2, e3, e4, e5, e6, e7]) <;> rfl) (by show _ = mR [0, 2, 3, 4, 5] (S4 d r); unfold S4; rw [e9] <;> rfl)
     have q3 := eq_of_beq h3; have e9 := bv6 (d := d) (r := r) (by with_reducible assumption) (by with_reducible assumption) (s9 (by omega)) (R9 (by omega)); refine o0 G (D7 (fc h3 fz) [(3, 0), (4, 0), (1005, 0)]) [(73, bA true)] fun G => b0 (rT G true (by kernel_rfl) (wp_seq (K9 G m0 [0, 1, 2] [au9 r, C7, a01 r] (H9 []) [IntKind.u8.wrap (((l0 r).fst.toNat : Int) - 80) = ((l0 r).fst.toNat : Int) - 80, wO (((l0 r).fst.toNat : Int) - 80)] ⟨(w8 (by omega) (by omega)), (oW (by omega)), bP7⟩ fun G => b0 (wp_seq (r8 G (x8 1 [0] (kk ((l0 r).snd) ([91]) (by repeat (first | exact hs | with_reducible refine bO6 (s3 5 _) ?_ | with_reducible refine bO6 n4 ?_ | with_reducible refine bO6 o7 ?_ | with_reducible refine bO6 p7 ?_ | with_reducible refine bO6 (C6 d _) ?_)))) [0, 1, 2] [.box [.v (.string (b5 (f8 (l0 r).snd [91]).fst)), bA (f8 (l0 r).snd [91]).snd], C7, a01 r] (H9 []) fun G => b0 (wp_seq (r8 G (x8 1 [0] (ke (f8 (l0 r).snd [91]) 1 (by kernel_rfl) (by repeat (first | exact hs | with_reducible refine bO6 (s3 5 _) ?_ | with_reducible refine bO6 n4 ?_ | with_reducible refine bO6 o7 ?_ | with_reducible refine bO6 p7 ?_ | with_reducible refine bO6 (C6 d _) ?_)))) [0, 1, 2, 11] [.box [.v (.string (b5 (iE 5 (f8 (l0 r).snd [91])).snd.fst)), bA (iE 5 (f8 (l0 r).snd [91])).snd.snd], C7, a03 r, W8 r] (H9 []) fun G => b0 (r8 G (x8 1 [0] (kk ((iE 5 (f8 (l0 r).snd [91])).snd) ([93, 58, 61]) (by repeat (first | exact hs | with_reducible refine bO6 (s3 5 _) ?_ | with_reducible refine bO6 n4 ?_ | with_reducible refine bO6 o7 ?_ | with_reducible refine bO6 p7 ?_ | with_reducible refine bO6 (C6 d _) ?_)))) (rg 4) [bb0 r, C7, a03 r, W8 r] (H9 []) fun G => B9 (b0 (wp_seq (r8 G (x8 1 [0] (ke (f8 (iE 5 (f8 (l0 r).snd [91])).snd [93, 58, 61]) 1 (by kernel_rfl) (by repeat (first | exact hs | with_reducible refine bO6 (s3 5 _) ?_ | with_reducible refine bO6 n4 ?_ | with_reducible refine bO6 o7 ?_ | with_reducible refine bO6 p7 ?_ | with_reducible refine bO6 (C6 d _) ?_)))) [0, 1, 2, 3, 12] [.box [.v (.string (b5 (X8 r).snd.fst)), bA (X8 r).snd.snd], C7, a04 r, W8 r, am2 r] (H9 []) fun G => b0 (wp_seq (r8 G (x8 1 [0] (kk ((X8 r).snd) ([59]) (by repeat (first | exact hs | with_reducible refine bO6 (s3 5 _) ?_ | with_reducible refine bO6 n4 ?_ | with_reducible refine bO6 o7 ?_ | with_reducible refine bO6 p7 ?_ | with_reducible refine bO6 (C6 d _) ?_)))) (rg 5) [aG9 r, C7, a04 r, W8 r, am2 r] [(4, .ptr 1 0), (7, .ptr 2 0)] fun G => ?_)))))))))))))
     refine b0 (wp_seq (r8 G m0 [0, 1, 3, 4] [aG9 r, bb7 r, W8 r, am2 r] [(4, .ptr 1 0)] fun G => b0 (wp_ret ?_))); obtain ⟨ρ, G⟩ := G.nilT 4 (.stmts []) [.box [.v (.string (b5 (f8 (iE 5 (f8 (iE 5 (f8 (l0 r).snd [91])).snd [93, 58, 61])).snd [59]).fst)), bA (f8 (iE 5 (f8 (iE 5 (f8 (l0 r).snd [91])).snd [93, 58, 61])).snd [59]).snd], .box [iA 2, iA (((l0 r).fst.toNat : Int) - 80), iA (iE 5 (f8 (l0 r).snd [91])).fst.kind, iA (iE 5 (f8 (l0 r).snd [91])).fst.value, .tref 2, iA (iE 5 (f8 (iE 5 (f8 (l0 r).snd [91])).snd [93, 58, 61])).fst.kind, iA (iE 5 (f8 (iE 5 (f8 (l0 r).snd [91])).snd [93, 58, 61])).fst.value, .tref 3, iA 0, .tref 4, .v (.slice none 0 0)], .tree (D.exprs (iE 5 (f8 (l0 r).snd [91])).fst.kids), .tree (D.exprs (iE 5 (f8 (iE 5 (f8 (l0 r).snd [91])).snd [93, 58, 61])).fst.kids)] [(4, .ptr 1 0)]; obtain ⟨ρ, G⟩ := G.nilT 5 (.stmts []) [.box [.v (.string (b5 (f8 (iE 5 (f8 (iE 5 (f8 (l0 r).snd [91])).snd [93, 58, 61])).snd [59]).fst)), bA (f8 (iE 5 (f8 (iE 5 (f8 (l0 r).snd [91])).snd [93, 58, 61])).snd [59]).snd], .box [iA 2, iA (((l0 r).fst.toNat : Int) - 80), iA (iE 5 (f8 (l0 r).snd [91])).fst.kind, iA (iE 5 (f8 (l0 r).snd [91])).fst.value, .tref 2, iA (iE 5 (f8 (iE 5 (f8 (l0 r).snd [91])).snd [93, 58, 61])).fst.kind, iA (iE 5 (f8 (iE 5 (f8 (l0 r).snd [91])).snd [93, 58, 61])).fst.value, .tref 3, iA 0, .tref 4, .tref 5], .tree (D.exprs (iE 5 (f8 (l0 r).snd [91])).fst.kids), .tree (D.exprs (iE 5 (f8 (iE 5 (f8 (l0 r).snd [91])).snd [93, 58, 61])).fst.kids), .tree (D.stmts [])] [(4, .ptr 1 0)]; exact K2 (.agg [iA 2, iA (((l0 r).fst.toNat : Int) - 80), iA (iE 5 (f8 (l0 r).snd [91])).fst.kind, iA (iE 5 (f8 (l0 r).snd [91])).fst.value, .tref 2, iA (iE 5 (f8 (iE 5 (f8 (l0 r).snd [91])).snd [93, 58, 61])).fst.kind, iA (iE 5 (f8 (iE 5 (f8 (l0 r).snd [91])).snd [93, 58, 61])).fst.value, .tref 3, iA 0, .tref 4, .tref 5]) G [0, 2, 3, 4, 5] (by have e1 : ((C1 d r).fst.kind : Int) = (2) := (by rw [e9]; rfl); have e2 : ((C1 d r).fst.target : Int) = (((l0 r).fst.toNat : Int) - 80) := (by rw [e9]; show ((_ - _ : Nat) : Int) = _; omega); have e3 : ((C1 d r).fst.index.kind : Int) = ((iE 5 (f8 (l0 r).snd [91])).fst.kind) := (by rw [e9]; rfl); have e4 : ((C1 d r).fst.index.value : Int) = ((iE 5 (f8 (l0 r).snd [91])).fst.value) := (by rw [e9]; rfl); have e5 : ((C1 d r).fst.value.kind : Int) = ((iE 5 (f8 (iE 5 (f8 (l0 r).snd [91])).snd [93, 58, 61])).fst.kind) := (by rw [e9]; rfl); have e6 : ((C1 d r).fst.value.value : Int) = ((iE 5 (f8 (iE 5 (f8 (l0 r).snd [91])).snd [93, 58, 61])).fst.value) := (by rw [e9]; rfl); have e7 : ((C1 d r).fst.count : Int) = (0) := (by rw [e9]; rfl); (first | rw [e1, e2, e3, e4, e5, e6, e7] | simp only [e1, e2, e3, e4, e5, e6, e7]) <;> rfl) (by show _ = mR [0, 2, 3, 4, 5] (S4 d r); unfold S4; rw [e9] <;> rfl)
    have q2 := R4 h2; refine H8 G (D7 (fc h2 fz) [(3, 0), (4, 0), (1005, 0)]) (H9 [(8, au8 r), (54, bA (decide (((l0 r).fst.toNat : Int) <= 108)))]) fun G => b0 ?_; cases h5 : (decide (((l0 r).fst.toNat : Int) <= 108))
    ·
     have q5 := R5 h5; have e9 := bv7 (d := d) (r := r) (by with_reducible assumption) (by with_reducible assumption) (s9 (by omega)) (y5 (by omega) (by omega)); refine rF G _ h5 (wp_seq ?_); cases h6 : (((l0 r).fst.toNat : Int) == 80)
     ·
      have q6 := ne_of_beq_false h6; refine H8 G (D7 (fc h6 fz) [(3, 0), (4, 0), (1005, 0)]) (H9 [(8, au8 r), (73, bA (((l0 r).fst.toNat : Int) == 81))]) fun G => b0 ?_; cases h7 : (((l0 r).fst.toNat : Int) == 81)
      · have q7 := ne_of_beq_false h7; refine rF G _ h7 (r8 G m0 [0, 1, 2] [.box [.v (.string (b5 (l0 r).snd.fst)), bA true], C7, aH0] (H9 []) fun G => B9 (b0 (wp_seq (r8 G (x8 1 [0] (bD3 ((l0 r).snd.fst) true 1 (by kernel_rfl) (by repeat (first | exact hs | with_reducible refine bO6 (s3 5 _) ?_ | with_reducible refine bO6 n4 ?_ | with_reducible refine bO6 o7 ?_ | with_reducible refine bO6 p7 ?_ | with_reducible refine bO6 (C6 d _) ?_)))) [0, 1, 2, 11] [.box [.v (.string (b5 (iE 5 ((l0 r).snd.fst, true)).snd.fst)), bA (iE 5 ((l0 r).snd.fst, true)).snd.snd], C7, a02 r, am3 r] (H9 []) fun G => b0 (wp_seq (r8 G (x8 1 [0] (kk ((iE 5 ((l0 r).snd.fst, true)).snd) ([59]) (by repeat (first | exact hs | with_reducible refine bO6 (s3 5 _) ?_ | with_reducible refine bO6 n4 ?_ | with_reducible refine bO6 o7 ?_ | with_reducible refine bO6 p7 ?_ | with_reducible refine bO6 (C6 d _) ?_)))) (rg 4) [aG8 r, C7, a02 r, am3 r] [(4, .ptr 1 0), (7, .ptr 2 0)] fun G => b0 (wp_seq (r8 G m0 [0, 1, 3] [aG8 r, bb4 r, am3 r] [(4, .ptr 1 0)] fun G => b0 (wp_ret ?_))))))))); obtain ⟨ρ, G⟩ := G.nilT 3 (.exprs []) [.box [.v (.string (b5 (f8 (iE 5 ((l0 r).snd.fst, true)).snd [59]).fst)), bA (f8 (iE 5 ((l0 r).snd.fst, true)).snd [59]).snd], .box [iA 1, iA 0, iA 0, iA 0, .tref 3, iA (iE 5 ((l0 r).snd.fst, true)).fst.kind, iA (iE 5 ((l0 r).snd.fst, true)).fst.value, .tref 2, iA 0, .v (.slice none 0 0), .v (.slice none 0 0)], .tree (D.exprs (iE 5 ((l0 r).snd.fst, true)).fst.kids)] [(4, .ptr 1 0)]; obtain ⟨ρ, G⟩ := G.nilT 4 (.stmts []) [.box [.v (.string (b5 (f8 (iE 5 ((l0 r).snd.fst, true)).snd [59]).fst)), bA (f8 (iE 5 ((l0 r).snd.fst, true)).snd [59]).snd], .box [iA 1, iA 0, iA 0, iA 0, .tref 3, iA (iE 5 ((l0 r).snd.fst, true)).fst.kind, iA (iE 5 ((l0 r).snd.fst, true)).fst.value, .tref 2, iA 0, .tref 4, .v (.slice none 0 0)], .tree (D.exprs (iE 5 ((l0 r).snd.fst, true)).fst.kids), .tree (D.exprs [])] [(4, .ptr 1 0)]; obtain ⟨ρ, G⟩ := G.nilT 5 (.stmts []) [.box [.v (.string (b5 (f8 (iE 5 ((l0 r).snd.fst, true)).snd [59]).fst)), bA (f8 (iE 5 ((l0 r).snd.fst, true)).snd [59]).snd], .box [iA 1, iA 0, iA 0, iA 0, .tref 3, iA (iE 5 ((l0 r).snd.fst, true)).fst.kind, iA (iE 5 ((l0 r).snd.fst, true)).fst.value, .tref 2, iA 0, .tref 4, .tref 5], .tree (D.exprs (iE 5 ((l0 r).snd.fst, true)).fst.kids), .tree (D.exprs []), .tree (D.stmts [])] [(4, .ptr 1 0)]; exact K2 (.agg [iA 1, iA 0, iA 0, iA 0, .tref 3, iA (iE 5 ((l0 r).snd.fst, true)).fst.kind, iA (iE 5 ((l0 r).snd.fst, true)).fst.value, .tref 2, iA 0, .tref 4, .tref 5]) G [0, 3, 2, 4, 5] (by have e1 : ((C1 d r).fst.kind : Int) = (1) := (by rw [e9]; rfl); have e2 : ((C1 d r).fst.target : Int) = (0) := (by rw [e9]; rfl); have e3 : ((C1 d r).fst.index.kind : Int) = (0) := (by rw [e9]; rfl); have e4 : ((C1 d r).fst.index.value : Int) = (0) := (by rw [e9]; rfl); have e5 : ((C1 d r).fst.value.kind : Int) = ((iE 5 ((l0 r).snd.fst, true)).fst.kind) := (by rw [e9]; rfl); have e6 : ((C1 d r).fst.value.value : Int) = ((iE 5 ((l0 r).snd.fst, true)).fst.value) := (by rw [e9]; rfl); have e7 : ((C1 d r).fst.count : Int) = (0) := (by rw [e9]; rfl); (first | rw [e1, e2, e3, e4, e5, e6, e7] | simp only [e1, e2, e3, e4, e5, e6, e7]) <;> rfl) (by show _ = mR [0, 3, 2, 4, 5] (S4 d r); unfold S4; rw [e9] <;> rfl)
      have q7 := eq_of_beq h7; exact False.elim (by omega)
     have q6 := eq_of_beq h6; exact False.elim (by omega)
    have q5 := R4 h5; refine rT G _ h5 (wp_seq (K9 G m0 [0, 1, 2] [au9 r, C7, bb3 r] (H9 []) [IntKind.u8.wrap (((l0 r).fst.toNat : Int) - 97) = ((l0 r).fst.toNat : Int) - 97, wO (((l0 r).fst.toNat : Int) - 97)] ⟨(w8 (by omega) (by omega)), (oW (by omega)), bP7⟩ fun G => b0 (wp_seq (H8 G (x8 1 [0] (kn ((l0 r).snd))) (H9 [(67, bA (((I7 (l0 r).snd).toNat : Int) == 33))]) fun G => b0 ?_)))); cases h8 : (((I7 (l0 r).snd).toNat : Int) == 33)
    ·
     have q8 := ne_of_beq_false h8; have e9 := bH3 (d := d) (r := r) (by with_reducible assumption) (by with_reducible assumption) (ah2 (by omega) (by omega)) (S5 (y := 33) (by assumption)); refine rF G _ h8 (r8 G (x8 1 [0] (kk ((l0 r).snd) ([58, 61]) (by repeat (first | exact hs | with_reducible refine bO6 (s3 5 _) ?_ | with_reducible refine bO6 n4 ?_ | with_reducible refine bO6 o7 ?_ | with_reducible refine bO6 p7 ?_ | with_reducible refine bO6 (C6 d _) ?_)))) [0, 1, 2] [.box [.v (.string (b5 (f8 (l0 r).snd [58, 61]).fst)), bA (f8 (l0 r).snd [58, 61]).snd], C7, bb3 r] (H9 []) fun G => B9 (b0 (wp_seq (r8 G (x8 1 [0] (ke (f8 (l0 r).snd [58, 61]) 1 (by kernel_rfl) (by repeat (first | exact hs | with_reducible refine bO6 (s3 5 _) ?_ | with_reducible refine bO6 n4 ?_ | with_reducible refine bO6 o7 ?_ | with_reducible refine bO6 p7 ?_ | with_reducible refine bO6 (C6 d _) ?_)))) [0, 1, 2, 11] [.box [.v (.string (b5 (iE 5 (f8 (l0 r).snd [58, 61])).snd.fst)), bA (iE 5 (f8 (l0 r).snd [58, 61])).snd.snd], C7, bb6 r, .tree (D.exprs (iE 5 (f8 (l0 r).snd [58, 61])).fst.kids)] (H9 []) fun G => b0 (wp_seq (r8 G (x8 1 [0] (kk ((iE 5 (f8 (l0 r).snd [58, 61])).snd) ([59]) (by repeat (first | exact hs | with_reducible refine bO6 (s3 5 _) ?_ | with_reducible refine bO6 n4 ?_ | with_reducible refine bO6 o7 ?_ | with_reducible refine bO6 p7 ?_ | with_reducible refine bO6 (C6 d _) ?_)))) (rg 4) [ba9 r, C7, bb6 r, .tree (D.exprs (iE 5 (f8 (l0 r).snd [58, 61])).fst.kids)] [(4, .ptr 1 0), (7, .ptr 2 0)] fun G => b0 (wp_seq (r8 G m0 [0, 1, 3] [ba9 r, .box [iA 1, iA (((l0 r).fst.toNat : Int) - 97), iA 0, iA 0, .v (.slice none 0 0), iA (iE 5 (f8 (l0 r).snd [58, 61])).fst.kind, iA (iE 5 (f8 (l0 r).snd [58, 61])).fst.value, .tref 2, iA 0, .v (.slice none 0 0), .v (.slice none 0 0)], .tree (D.exprs (iE 5 (f8 (l0 r).snd [58, 61])).fst.kids)] [(4, .ptr 1 0)] fun G => b0 (wp_ret ?_))))))))); obtain ⟨ρ, G⟩ := G.nilT 3 (.exprs []) [.box [.v (.string (b5 (f8 (iE 5 (f8 (l0 r).snd [58, 61])).snd [59]).fst)), bA (f8 (iE 5 (f8 (l0 r).snd [58, 61])).snd [59]).snd], .box [iA 1, iA (((l0 r).fst.toNat : Int) - 97), iA 0, iA 0, .tref 3, iA (iE 5 (f8 (l0 r).snd [58, 61])).fst.kind, iA (iE 5 (f8 (l0 r).snd [58, 61])).fst.value, .tref 2, iA 0, .v (.slice none 0 0), .v (.slice none 0 0)], .tree (D.exprs (iE 5 (f8 (l0 r).snd [58, 61])).fst.kids)] [(4, .ptr 1 0)]; obtain ⟨ρ, G⟩ := G.nilT 4 (.stmts []) [.box [.v (.string (b5 (f8 (iE 5 (f8 (l0 r).snd [58, 61])).snd [59]).fst)), bA (f8 (iE 5 (f8 (l0 r).snd [58, 61])).snd [59]).snd], .box [iA 1, iA (((l0 r).fst.toNat : Int) - 97), iA 0, iA 0, .tref 3, iA (iE 5 (f8 (l0 r).snd [58, 61])).fst.kind, iA (iE 5 (f8 (l0 r).snd [58, 61])).fst.value, .tref 2, iA 0, .tref 4, .v (.slice none 0 0)], .tree (D.exprs (iE 5 (f8 (l0 r).snd [58, 61])).fst.kids), .tree (D.exprs [])] [(4, .ptr 1 0)]; obtain ⟨ρ, G⟩ := G.nilT 5 (.stmts []) [.box [.v (.string (b5 (f8 (iE 5 (f8 (l0 r).snd [58, 61])).snd [59]).fst)), bA (f8 (iE 5 (f8 (l0 r).snd [58, 61])).snd [59]).snd], .box [iA 1, iA (((l0 r).fst.toNat : Int) - 97), iA 0, iA 0, .tref 3, iA (iE 5 (f8 (l0 r).snd [58, 61])).fst.kind, iA (iE 5 (f8 (l0 r).snd [58, 61])).fst.value, .tref 2, iA 0, .tref 4, .tref 5], .tree (D.exprs (iE 5 (f8 (l0 r).snd [58, 61])).fst.kids), .tree (D.exprs []), .tree (D.stmts [])] [(4, .ptr 1 0)]
     exact K2 (.agg [iA 1, iA (((l0 r).fst.toNat : Int) - 97), iA 0, iA 0, .tref 3, iA (iE 5 (f8 (l0 r).snd [58, 61])).fst.kind, iA (iE 5 (f8 (l0 r).snd [58, 61])).fst.value, .tref 2, iA 0, .tref 4, .tref 5]) G [0, 3, 2, 4, 5] (by have e1 : ((C1 d r).fst.kind : Int) = (1) := (by rw [e9]; rfl); have e2 : ((C1 d r).fst.target : Int) = (((l0 r).fst.toNat : Int) - 97) := (by rw [e9]; show ((_ - _ : Nat) : Int) = _; omega); have e3 : ((C1 d r).fst.index.kind : Int) = (0) := (by rw [e9]; rfl); have e4 : ((C1 d r).fst.index.value : Int) = (0) := (by rw [e9]; rfl); have e5 : ((C1 d r).fst.value.kind : Int) = ((iE 5 (f8 (l0 r).snd [58, 61])).fst.kind) := (by rw [e9]; rfl); have e6 : ((C1 d r).fst.value.value : Int) = ((iE 5 (f8 (l0 r).snd [58, 61])).fst.value) := (by rw [e9]; rfl); have e7 : ((C1 d r).fst.count : Int) = (0) := (by rw [e9]; rfl); (first | rw [e1, e2, e3, e4, e5, e6, e7] | simp only [e1, e2, e3, e4, e5, e6, e7]) <;> rfl) (by show _ = mR [0, 3, 2, 4, 5] (S4 d r); unfold S4; rw [e9] <;> rfl)
    have q8 := eq_of_beq h8; have e9 := bH1 (d := d) (r := r) (by with_reducible assumption) (by with_reducible assumption) (ah2 (by omega) (by omega)) (O6 (y := 33) (by assumption)); refine rT G _ h8 (wp_seq (r8 G m0 [0, 1, 2] [au9 r, C7, bb2 r] (H9 []) fun G => b0 (r8 G (x8 1 [0] (kk ((l0 r).snd) ([33, 61]) (by repeat (first | exact hs | with_reducible refine bO6 (s3 5 _) ?_ | with_reducible refine bO6 n4 ?_ | with_reducible refine bO6 o7 ?_ | with_reducible refine bO6 p7 ?_ | with_reducible refine bO6 (C6 d _) ?_)))) [0, 1, 2] [.box [.v (.string (b5 (f8 (l0 r).snd [33, 61]).fst)), bA (f8 (l0 r).snd [33, 61]).snd], C7, bb2 r] (H9 []) fun G => B9 (b0 (wp_seq (r8 G (x8 1 [0] (ke (f8 (l0 r).snd [33, 61]) 1 (by kernel_rfl) (by repeat (first | exact hs | with_reducible refine bO6 (s3 5 _) ?_ | with_reducible refine bO6 n4 ?_ | with_reducible refine bO6 o7 ?_ | with_reducible refine bO6 p7 ?_ | with_reducible refine bO6 (C6 d _) ?_)))) [0, 1, 2, 11] [.box [.v (.string (b5 (iE 5 (f8 (l0 r).snd [33, 61])).snd.fst)), bA (iE 5 (f8 (l0 r).snd [33, 61])).snd.snd], C7, bb5 r, .tree (D.exprs (iE 5 (f8 (l0 r).snd [33, 61])).fst.kids)] (H9 []) fun G => b0 (wp_seq (r8 G (x8 1 [0] (kk ((iE 5 (f8 (l0 r).snd [33, 61])).snd) ([59]) (by repeat (first | exact hs | with_reducible refine bO6 (s3 5 _) ?_ | with_reducible refine bO6 n4 ?_ | with_reducible refine bO6 o7 ?_ | with_reducible refine bO6 p7 ?_ | with_reducible refine bO6 (C6 d _) ?_)))) (rg 4) [ba8 r, C7, bb5 r, .tree (D.exprs (iE 5 (f8 (l0 r).snd [33, 61])).fst.kids)] [(4, .ptr 1 0), (7, .ptr 2 0)] fun G => b0 (wp_seq (r8 G m0 [0, 1, 3] [ba8 r, .box [iA 5, iA (((l0 r).fst.toNat : Int) - 97), iA 0, iA 0, .v (.slice none 0 0), iA (iE 5 (f8 (l0 r).snd [33, 61])).fst.kind, iA (iE 5 (f8 (l0 r).snd [33, 61])).fst.value, .tref 2, iA 0, .v (.slice none 0 0), .v (.slice none 0 0)], .tree (D.exprs (iE 5 (f8 (l0 r).snd [33, 61])).fst.kids)] [(4, .ptr 1 0)] fun G => b0 (wp_ret ?_))))))))))); obtain ⟨ρ, G⟩ := G.nilT 3 (.exprs []) [.box [.v (.string (b5 (f8 (iE 5 (f8 (l0 r).snd [33, 61])).snd [59]).fst)), bA (f8 (iE 5 (f8 (l0 r).snd [33, 61])).snd [59]).snd], .box [iA 5, iA (((l0 r).fst.toNat : Int) - 97), iA 0, iA 0, .tref 3, iA (iE 5 (f8 (l0 r).snd [33, 61])).fst.kind, iA (iE 5 (f8 (l0 r).snd [33, 61])).fst.value, .tref 2, iA 0, .v (.slice none 0 0), .v (.slice none 0 0)], .tree (D.exprs (iE 5 (f8 (l0 r).snd [33, 61])).fst.kids)] [(4, .ptr 1 0)]; obtain ⟨ρ, G⟩ := G.nilT 4 (.stmts []) [.box [.v (.string (b5 (f8 (iE 5 (f8 (l0 r).snd [33, 61])).snd [59]).fst)), bA (f8 (iE 5 (f8 (l0 r).snd [33, 61])).snd [59]).snd], .box [iA 5, iA (((l0 r).fst.toNat : Int) - 97), iA 0, iA 0, .tref 3, iA (iE 5 (f8 (l0 r).snd [33, 61])).fst.kind, iA (iE 5 (f8 (l0 r).snd [33, 61])).fst.value, .tref 2, iA 0, .tref 4, .v (.slice none 0 0)], .tree (D.exprs (iE 5 (f8 (l0 r).snd [33, 61])).fst.kids), .tree (D.exprs [])] [(4, .ptr 1 0)]; obtain ⟨ρ, G⟩ := G.nilT 5 (.stmts []) [.box [.v (.string (b5 (f8 (iE 5 (f8 (l0 r).snd [33, 61])).snd [59]).fst)), bA (f8 (iE 5 (f8 (l0 r).snd [33, 61])).snd [59]).snd], .box [iA 5, iA (((l0 r).fst.toNat : Int) - 97), iA 0, iA 0, .tref 3, iA (iE 5 (f8 (l0 r).snd [33, 61])).fst.kind, iA (iE 5 (f8 (l0 r).snd [33, 61])).fst.value, .tref 2, iA 0, .tref 4, .tref 5], .tree (D.exprs (iE 5 (f8 (l0 r).snd [33, 61])).fst.kids), .tree (D.exprs []), .tree (D.stmts [])] [(4, .ptr 1 0)]
    exact K2 (.agg [iA 5, iA (((l0 r).fst.toNat : Int) - 97), iA 0, iA 0, .tref 3, iA (iE 5 (f8 (l0 r).snd [33, 61])).fst.kind, iA (iE 5 (f8 (l0 r).snd [33, 61])).fst.value, .tref 2, iA 0, .tref 4, .tref 5]) G [0, 3, 2, 4, 5] (by have e1 : ((C1 d r).fst.kind : Int) = (5) := (by rw [e9]; rfl); have e2 : ((C1 d r).fst.target : Int) = (((l0 r).fst.toNat : Int) - 97) := (by rw [e9]; show ((_ - _ : Nat) : Int) = _; omega); have e3 : ((C1 d r).fst.index.kind : Int) = (0) := (by rw [e9]; rfl); have e4 : ((C1 d r).fst.index.value : Int) = (0) := (by rw [e9]; rfl); have e5 : ((C1 d r).fst.value.kind : Int) = ((iE 5 (f8 (l0 r).snd [33, 61])).fst.kind) := (by rw [e9]; rfl); have e6 : ((C1 d r).fst.value.value : Int) = ((iE 5 (f8 (l0 r).snd [33, 61])).fst.value) := (by rw [e9]; rfl); have e7 : ((C1 d r).fst.count : Int) = (0) := (by rw [e9]; rfl); (first | rw [e1, e2, e3, e4, e5, e6, e7] | simp only [e1, e2, e3, e4, e5, e6, e7]) <;> rfl) (by show _ = mR [0, 3, 2, 4, 5] (S4 d r); unfold S4; rw [e9] <;> rfl)
   have e9 := bH0 (d := d) (r := r) (by with_reducible assumption) (by with_reducible assumption); refine rT G _ h1 (wp_seq (r8 G (x8 1 [0] (kk r ([114, 101, 112, 101, 97, 116]) (by assumption))) [0, 1] [.box [.v (.string (b5 (f8 r [114, 101, 112, 101, 97, 116]).fst)), bA (f8 r [114, 101, 112, 101, 97, 116]).snd], C7] [(0, .ptr 0 0), (1, iA m), (4, .ptr 1 0)] fun G => b0 (wp_seq (r8 G (x8 1 [0] (ku (f8 r [114, 101, 112, 101, 97, 116]) (by repeat (first | exact hs | with_reducible refine bO6 (s3 5 _) ?_ | with_reducible refine bO6 n4 ?_ | with_reducible refine bO6 o7 ?_ | with_reducible refine bO6 p7 ?_ | with_reducible refine bO6 (C6 d _) ?_)))) [0, 1, 26] [.box [.v (.string (b5 (I9 (f8 r [114, 101, 112, 101, 97, 116])).snd.fst)), bA (I9 (f8 r [114, 101, 112, 101, 97, 116])).snd.snd], C7, .box [iA 4, iA 0, iA 0, iA 0, .v (.slice none 0 0), iA 0, iA 0, .v (.slice none 0 0), iA (I9 (f8 r [114, 101, 112, 101, 97, 116])).fst, .v (.slice none 0 0), .v (.slice none 0 0)]] [(0, .ptr 0 0), (1, iA m), (4, .ptr 1 0), (6, .ptr 2 0)] fun G => b0 (wp_seq (K9 G (x8 3 [0] (ih ((I9 (f8 r [114, 101, 112, 101, 97, 116])).snd) (m + 1) (by omega) (by repeat (first | exact hs | with_reducible refine bO6 (s3 5 _) ?_ | with_reducible refine bO6 n4 ?_ | with_reducible refine bO6 o7 ?_ | with_reducible refine bO6 p7 ?_ | with_reducible refine bO6 (C6 d _) ?_)))) [0, 1, 2, 27] [.box [.v (.string (b5 (f8 (aD1 d r).snd [125]).fst)), bA (f8 (aD1 d r).snd [125]).snd], C7, .box [iA 4, iA 0, iA 0, iA 0, .v (.slice none 0 0), iA 0, iA 0, .v (.slice none 0 0), iA (I9 (f8 r [114, 101, 112, 101, 97, 116])).fst, .tref 3, .v (.slice none 0 0)], .tree (D.stmts (aD1 d r).fst)] [(0, .ptr 0 0), (4, .ptr 1 0), (6, .ptr 2 0)] [wO (m + 1)] (o1 (by omega)) fun G => b0 (wp_seq (r8 G m0 [0, 1, 3] [.box [.v (.string (b5 (f8 (aD1 d r).snd [125]).fst)), bA (f8 (aD1 d r).snd [125]).snd], .box [iA 4, iA 0, iA 0, iA 0, .v (.slice none 0 0), iA 0, iA 0, .v (.slice none 0 0), iA (I9 (f8 r [114, 101, 112, 101, 97, 116])).fst, .tref 2, .v (.slice none 0 0)], .tree (D.stmts (aD1 d r).fst)] [(0, .ptr 0 0), (4, .ptr 1 0)] fun G => b0 (wp_ret (E6 (n8 ?_))))))))))); obtain ⟨ρ, G⟩ := G.nilT 3 (.exprs []) [.box [.v (.string (b5 (f8 (E0 d (f8 (I9 (f8 r [114, 101, 112, 101, 97, 116])).snd [123])).snd [125]).fst)), bA (f8 (E0 d (f8 (I9 (f8 r [114, 101, 112, 101, 97, 116])).snd [123])).snd [125]).snd], .box [iA 4, iA 0, iA 0, iA 0, .tref 3, iA 0, iA 0, .v (.slice none 0 0), iA (I9 (f8 r [114, 101, 112, 101, 97, 116])).fst, .tref 2, .v (.slice none 0 0)], .tree (D.stmts (E0 d (f8 (I9 (f8 r [114, 101, 112, 101, 97, 116])).snd [123])).fst)] [(0, .ptr 0 0), (4, .ptr 1 0)]; obtain ⟨ρ, G⟩ := G.nilT 4 (.exprs []) [.box [.v (.string (b5 (f8 (E0 d (f8 (I9 (f8 r [114, 101, 112, 101, 97, 116])).snd [123])).snd [125]).fst)), bA (f8 (E0 d (f8 (I9 (f8 r [114, 101, 112, 101, 97, 116])).snd [123])).snd [125]).snd], .box [iA 4, iA 0, iA 0, iA 0, .tref 3, iA 0, iA 0, .tref 4, iA (I9 (f8 r [114, 101, 112, 101, 97, 116])).fst, .tref 2, .v (.slice none 0 0)], .tree (D.stmts (E0 d (f8 (I9 (f8 r [114, 101, 112, 101, 97, 116])).snd [123])).fst), .tree (D.exprs [])] [(0, .ptr 0 0), (4, .ptr 1 0)]; obtain ⟨ρ, G⟩ := G.nilT 5 (.stmts []) [.box [.v (.string (b5 (f8 (E0 d (f8 (I9 (f8 r [114, 101, 112, 101, 97, 116])).snd [123])).snd [125]).fst)), bA (f8 (E0 d (f8 (I9 (f8 r [114, 101, 112, 101, 97, 116])).snd [123])).snd [125]).snd], .box [iA 4, iA 0, iA 0, iA 0, .tref 3, iA 0, iA 0, .tref 4, iA (I9 (f8 r [114, 101, 112, 101, 97, 116])).fst, .tref 2, .tref 5], .tree (D.stmts (E0 d (f8 (I9 (f8 r [114, 101, 112, 101, 97, 116])).snd [123])).fst), .tree (D.exprs []), .tree (D.exprs [])] [(0, .ptr 0 0), (4, .ptr 1 0)]
   exact K2 (.agg [iA 4, iA 0, iA 0, iA 0, .tref 3, iA 0, iA 0, .tref 4, iA (I9 (f8 r [114, 101, 112, 101, 97, 116])).fst, .tref 2, .tref 5]) G [0, 3, 4, 2, 5] (by have e1 : ((C1 d r).fst.kind : Int) = (4) := (by rw [e9]; rfl); have e2 : ((C1 d r).fst.target : Int) = (0) := (by rw [e9]; rfl); have e3 : ((C1 d r).fst.index.kind : Int) = (0) := (by rw [e9]; rfl); have e4 : ((C1 d r).fst.index.value : Int) = (0) := (by rw [e9]; rfl); have e5 : ((C1 d r).fst.value.kind : Int) = (0) := (by rw [e9]; rfl); have e6 : ((C1 d r).fst.value.value : Int) = (0) := (by rw [e9]; rfl); have e7 : ((C1 d r).fst.count : Int) = ((I9 (f8 r [114, 101, 112, 101, 97, 116])).fst) := (by rw [e9]; rfl); (first | rw [e1, e2, e3, e4, e5, e6, e7] | simp only [e1, e2, e3, e4, e5, e6, e7]) <;> rfl) (by show _ = mR [0, 3, 4, 2, 5] (S4 d r); unfold S4; rw [e9] <;> rfl)
  have e9 := bH2 (d := d) (r := r) (by with_reducible assumption); refine rT G _ h0 (wp_seq (r8 G (x8 1 [0] (kk r ([105, 102]) (by assumption))) [0, 1] [.box [.v (.string (b5 (f8 r [105, 102]).fst)), bA (f8 r [105, 102]).snd], C7] [(0, .ptr 0 0), (1, iA m), (4, .ptr 1 0)] fun G => b0 (wp_seq (r8 G (x8 1 [0] (ke (f8 r [105, 102]) 1 (by kernel_rfl) (by repeat (first | exact hs | with_reducible refine bO6 (s3 5 _) ?_ | with_reducible refine bO6 n4 ?_ | with_reducible refine bO6 o7 ?_ | with_reducible refine bO6 p7 ?_ | with_reducible refine bO6 (C6 d _) ?_)))) [0, 1, 10, 26] [.box [.v (.string (b5 (iE 5 (f8 r [105, 102])).snd.fst)), bA (iE 5 (f8 r [105, 102])).snd.snd], C7, aG7 r, .box [iA 3, iA 0, iA 0, iA 0, .v (.slice none 0 0), iA (iE 5 (f8 r [105, 102])).fst.kind, iA (iE 5 (f8 r [105, 102])).fst.value, .tref 2, iA 0, .v (.slice none 0 0), .v (.slice none 0 0)]] [(0, .ptr 0 0), (1, iA m), (4, .ptr 1 0), (5, .ptr 3 0)] fun G => b0 (wp_seq (K9 G (x8 3 [0] (ih ((iE 5 (f8 r [105, 102])).snd) (m + 1) (by omega) (by repeat (first | exact hs | with_reducible refine bO6 (s3 5 _) ?_ | with_reducible refine bO6 n4 ?_ | with_reducible refine bO6 o7 ?_ | with_reducible refine bO6 p7 ?_ | with_reducible refine bO6 (C6 d _) ?_)))) [0, 1, 2, 3, 28] [.box [.v (.string (b5 (f8 (ag4 d r).snd [125]).fst)), bA (f8 (ag4 d r).snd [125]).snd], C7, aG7 r, .box [iA 3, iA 0, iA 0, iA 0, .v (.slice none 0 0), iA (iE 5 (f8 r [105, 102])).fst.kind, iA (iE 5 (f8 r [105, 102])).fst.value, .tref 2, iA 0, .tref 4, .v (.slice none 0 0)], .tree (D.stmts (ag4 d r).fst)] [(0, .ptr 0 0), (1, iA m), (4, .ptr 1 0), (5, .ptr 3 0)] [wO (m + 1)] (o1 (by omega)) fun G => b0 (wp_seq (K9 G (x8 3 [0] (ih (f8 (ag4 d r).snd [125]) (m + 1) (by omega) (by repeat (first | exact hs | with_reducible refine bO6 (s3 5 _) ?_ | with_reducible refine bO6 n4 ?_ | with_reducible refine bO6 o7 ?_ | with_reducible refine bO6 p7 ?_ | with_reducible refine bO6 (C6 d _) ?_)))) [0, 1, 2, 3, 4, 29] [bb1 d r, C7, aG7 r, .box [iA 3, iA 0, iA 0, iA 0, .v (.slice none 0 0), iA (iE 5 (f8 r [105, 102])).fst.kind, iA (iE 5 (f8 r [105, 102])).fst.value, .tref 2, iA 0, .tref 4, .tref 5], .tree (D.stmts (ag4 d r).fst), .tree (D.stmts (E0 d (f8 (f8 (ag4 d r).snd [125]) [123])).fst)] [(0, .ptr 0 0), (4, .ptr 1 0), (5, .ptr 3 0)] [wO (m + 1)] (o1 (by omega)) fun G => b0 (wp_seq (r8 G m0 [0, 1, 2, 4, 5] [bb1 d r, .box [iA 3, iA 0, iA 0, iA 0, .v (.slice none 0 0), iA (iE 5 (f8 r [105, 102])).fst.kind, iA (iE 5 (f8 r [105, 102])).fst.value, .tref 2, iA 0, .tref 3, .tref 4], aG7 r, .tree (D.stmts (ag4 d r).fst), .tree (D.stmts (E0 d (f8 (f8 (ag4 d r).snd [125]) [123])).fst)] [(0, .ptr 0 0), (4, .ptr 1 0)] fun G => b0 (wp_ret (E6 (n8 ?_))))))))))))); obtain ⟨ρ, G⟩ := G.nilT 5 (.exprs []) [.box [.v (.string (b5 (f8 (E0 d (f8 (f8 (E0 d (f8 (iE 5 (f8 r [105, 102])).snd [123])).snd [125]) [123])).snd [125]).fst)), bA (f8 (E0 d (f8 (f8 (E0 d (f8 (iE 5 (f8 r [105, 102])).snd [123])).snd [125]) [123])).snd [125]).snd], .box [iA 3, iA 0, iA 0, iA 0, .tref 5, iA (iE 5 (f8 r [105, 102])).fst.kind, iA (iE 5 (f8 r [105, 102])).fst.value, .tref 2, iA 0, .tref 3, .tref 4], .tree (D.exprs (iE 5 (f8 r [105, 102])).fst.kids), .tree (D.stmts (E0 d (f8 (iE 5 (f8 r [105, 102])).snd [123])).fst), .tree (D.stmts (E0 d (f8 (f8 (E0 d (f8 (iE 5 (f8 r [105, 102])).snd [123])).snd [125]) [123])).fst)] [(0, .ptr 0 0), (4, .ptr 1 0)]
  exact K2 (.agg [iA 3, iA 0, iA 0, iA 0, .tref 5, iA (iE 5 (f8 r [105, 102])).fst.kind, iA (iE 5 (f8 r [105, 102])).fst.value, .tref 2, iA 0, .tref 3, .tref 4]) G [0, 5, 2, 3, 4] (by have e1 : ((C1 d r).fst.kind : Int) = (3) := (by rw [e9]; rfl); have e2 : ((C1 d r).fst.target : Int) = (0) := (by rw [e9]; rfl); have e3 : ((C1 d r).fst.index.kind : Int) = (0) := (by rw [e9]; rfl); have e4 : ((C1 d r).fst.index.value : Int) = (0) := (by rw [e9]; rfl); have e5 : ((C1 d r).fst.value.kind : Int) = ((iE 5 (f8 r [105, 102])).fst.kind) := (by rw [e9]; rfl); have e6 : ((C1 d r).fst.value.value : Int) = ((iE 5 (f8 r [105, 102])).fst.value) := (by rw [e9]; rfl); have e7 : ((C1 d r).fst.count : Int) = (0) := (by rw [e9]; rfl); (first | rw [e1, e2, e3, e4, e5, e6, e7] | simp only [e1, e2, e3, e4, e5, e6, e7]) <;> rfl) (by show _ = mR [0, 5, 2, 3, 4] (S4 d r); unfold S4; rw [e9] <;> rfl)
theorem bo4 (d : Nat) (hd : d <= 4) (ih : ∀ (s : List UInt8) (b : Bool) (m : Int), m = 6 - (d : Int) -> s.length <= 100000000 -> r7.ok Tryz.prog (ibC d s b m)) (s : List UInt8) (b : Bool) (m : Int) (hm : m = 5 - (d : Int)) (hs : s.length <= 100000000) : r7.ok Tryz.prog (itC d s b m) :=
 by5 d hd (s, b) m hm hs (fun r m h h1 => ih r.1 r.2 m h h1) (fun r => ap4 r.1 r.2) (fun r u h => I3 r.1 u r.2 h) (fun r h => aA1 r.1 r.2 h) (fun r h => aT1 r.1 r.2 h) (fun r m h h1 => bD3 r.1 r.2 m h h1)
end Go.Proofs.YtompcdbfongedaaGreatDoor

namespace Go.Proofs.YtompcdbfongedaaGreatDoor
open Go
def lbS (x : UInt8) : Int := I5 x [76, 72, 85, 88] 0
def lbG (x : UInt8) : Bool := decide (0 <= lbS x)
def K7 (t : List UInt8) : List Int × Bool := if t.all lbG then (t.map lbS, true) else ([], false)
section
variable {t : List UInt8} {k : Nat}
theorem a25 (hk : k < t.length) (h : (t.take k).all lbG = true) (h1 : ¬ lbS (t.getD k 0) < 0) : (t.take (k + 1)).all lbG = true := by
 rw [D0 t k hk, List.all_append, h, Bool.true_and, List.all_cons, List.all_nil, Bool.and_true]
 rw [t7 hk] at h1
 unfold lbG; exact decide_eq_true (by omega)
theorem bf5 (hk : k < t.length) : (t.take k).map lbS ++ [lbS (t.getD k 0)] = (t.take (k + 1)).map lbS := by
 rw [D0 t k hk, List.map_append, t7 hk]; rfl
theorem aJ1 (hk : k < t.length) (h1 : lbS (t.getD k 0) < 0) : K7 t = ([], false) := by
 unfold K7
 rw [if_neg]
 intro h
 have := bQ0.1 h _ (bP5 hk)
 rw [t7 hk] at h1
 unfold lbG at this
 have := of_decide_eq_true this
 omega
theorem aJ2 (hk : t.length <= k) (h : (t.take k).all lbG = true) : K7 t = ((t.take k).map lbS, true) := by
 rw [bQ3 hk] at h ⊢
 unfold K7; rw [if_pos h]
theorem bB3 {x : UInt8} (h : 4 <= k) (h1 : I5 x [76, 72, 85, 88] 0 = I5 x (([76, 72, 85, 88] : List UInt8).drop k) k) : lbS x = -1 := by
 unfold lbS; rw [h1, List.drop_eq_nil_iff.2 (by simpa using h)]; rfl
end
theorem an6 {ls : List Int} (h : ls.all w9 = true) : K7 (s2 ls) = (ls, true) := by
 have e : (s2 ls).map lbS = ls := a82 h
 unfold K7
 rw [if_pos, e]
 refine bQ0.2 fun x hx => ?_
 obtain ⟨l, h1, rfl⟩ := List.mem_map.1 hx
 have h2 := bQ0.1 h l h1
 unfold lbG
 rw [show lbS (aK9 l) = l from aD9 h2]
 unfold w9 at h2
 simp only [bO8, decide_eq_true_eq] at h2
 exact decide_eq_true h2.1
def H7 (c : UInt8) : List UInt8 -> List UInt8 -> List (List UInt8)
 | p, [] => [p]
 | p, x :: r => if x = c then p :: H7 c [] r else H7 c (p ++ [x]) r
theorem aL6 {c : UInt8} : ∀ (a p r : List UInt8), c ∉ a -> H7 c p (a ++ c :: r) = (p ++ a) :: H7 c [] r
 | [], p, r, _ => by simp [H7]
 | x :: a, p, r, h => by
  simp only [bR2, not_or] at h
  rw [List.cons_append, H7, if_neg (fun e => h.1 e.symm), aL6 a _ r h.2]
  simp
theorem bl3 {c : UInt8} : ∀ (a p : List UInt8), c ∉ a -> H7 c p a = [p ++ a]
 | [], p, _ => by simp [H7]
 | x :: a, p, h => by
  simp only [bR2, not_or] at h
  rw [H7, if_neg (fun e => h.1 e.symm), bl3 a _ h.2]
  simp
def R6 (c : UInt8) (t : List UInt8) : Nat -> List (List UInt8) × Nat
 | 0 => ([], 0)
 | k + 1 => if k = t.length \/ t.getD k 0 = c then ((R6 c t k).1 ++ [(t.take k).drop (R6 c t k).2], k + 1) else R6 c t k
section
variable {c : UInt8} {t : List UInt8} {k : Nat}
theorem bl2 : (R6 c t k).2 <= k /\ (R6 c t k).1.length <= k := by
 induction k with
 | zero => exact ⟨bP9 _, bP9 _⟩
 | succ k ih =>
  rw [R6]
  split
  ·simp; omega
  omega
theorem aS6 (h : (k : Int) = t.length \/ t.getD k 0 = c) : R6 c t (k + 1) = ((R6 c t k).1 ++ [(t.take k).drop (R6 c t k).2], k + 1) := by
 rw [R6, if_pos (by rcases h with h | h; exact .inl (by omega); exact .inr h)]
theorem bl1 (h : ¬ (k : Int) = t.length) (h1 : ¬ t.getD k 0 = c) : R6 c t (k + 1) = R6 c t k := by
 rw [R6, if_neg]
 rintro (h2 | h2)
 ·omega
 exact h1 h2
theorem bD1 (h : k <= t.length) : H7 c [] t = (R6 c t k).1 ++ H7 c ((t.take k).drop (R6 c t k).2) (t.drop k) := by
 induction k with
 | zero => simp [R6]
 | succ k ih =>
  have hk : k < t.length := by omega
  rw [ih (by omega), List.drop_eq_getElem_cons hk, H7]
  by_cases he : t[k] = c
  ·rw [if_pos he, aS6 (.inr (by rw [t7 hk]; exact he))]
   simp [List.drop_eq_nil_iff.2 (show (t.take (k + 1)).length <= k + 1 by simp; omega)]
  rw [if_neg he, bl1 (by omega) (by rw [t7 hk]; exact he)]
  have := (bl2 (c := c) (t := t) (k := k)).1
  rw [D0 t k hk, List.drop_append_of_le_length (by simp; omega)]
theorem br8 : (R6 c t (t.length + 1)).1 = H7 c [] t := by
 rw [aS6 (.inl rfl), bD1 (bP9 t.length)]
 simp [H7]
end
theorem aP7 {m : Nat} (h : m < 1000) : (47 : UInt8) ∉ Lib.decDigits m := fun hm => by
 have := (bm3 h).2 47 hm
 exact absurd this (by decide)
theorem bc2 : ∀ v : Fin 12, UInt8.ofNat (97 + v) ≠ 47 := by decide +kernel
theorem bx1 : ∀ v : Fin 2, UInt8.ofNat (80 + v) ≠ 47 := by decide +kernel
theorem bG4 : ∀ k : Fin 7, t6 (4 + k) ≠ 47 := by decide +kernel
theorem bg6 (nv na : Nat) (hnv : nv <= 12) (hna : na <= 2) : ∀ (d : Nat) (e : b9), m9 nv na d e = true -> (47 : UInt8) ∉ k6 e
 | 0, e, h => by simp [m9] at h
 | d + 1, e, h => by
  have hk := (K0 h).2
  have hn : D2 nv na e = true := by
   unfold m9 at h
   simp only [bO8] at h
   exact h.1.1
  obtain ⟨hl, hv0, hvl⟩ := J8 hn
  have ih : ∀ i, (47 : UInt8) ∉ (e.kids.map k6).getD i [] := by
   intro i
   rw [bP1, bQ8]
   cases hi : e.kids[i]? with
   | none => simp
   | some x => exact bg6 nv na hnv hna d x (hk x (bQ5 hi))
  have h0 := ih 0
  have h1 := ih 1
  have h2 := ih 2
  have hK : e.kind = 1 \/ e.kind = 2 \/ e.kind = 3 \/ (4 <= e.kind /\ e.kind <= 10) \/ e.kind = 11 := by
   unfold s7 at hl
   split at hl
   ·omega
   split at hl
   ·omega
   split at hl
   ·omega
   split at hl <;> omega
  rw [X9, ar4]
  split
  ·rename_i k
   rw [k] at hvl
   have : e.value < 256 := by simpa [A8] using hvl
   exact aP7 (by omega)
  split
  ·rename_i k1 k
   rw [k] at hvl
   have : e.value < nv := by simpa [A8] using hvl
   have := bc2 ⟨e.value.toNat, by omega⟩
   rw [List.mem_singleton]; exact fun h => this h.symm
  split
  ·rename_i k1 k2 k
   rw [k] at hvl
   have : e.value < na := by simpa [A8] using hvl
   have := bx1 ⟨e.value.toNat, by omega⟩
   simp only [bR0, bR2, List.not_mem_nil, or_false, not_or]
   exact ⟨⟨⟨fun h => this h.symm, by decide⟩, h0⟩, by decide⟩
  split
  ·simp only [bR0, bR2, List.not_mem_nil, or_false, not_or]
   exact ⟨⟨⟨⟨⟨⟨by decide, h0⟩, by decide⟩, h1⟩, by decide⟩, h2⟩, by decide⟩
  obtain ⟨j, hj, hj7⟩ : ∃ j : Nat, e.kind = 4 + (j : Int) /\ j < 7 := ⟨(e.kind - 4).toNat, by omega, by omega⟩
  have := bG4 ⟨j, hj7⟩
  simp only at this
  rw [<- hj] at this
  simp only [bR0, bR2, List.not_mem_nil, or_false, not_or]
  exact ⟨⟨⟨⟨by decide, h0⟩, fun h => this h.symm⟩, h1⟩, by decide⟩
theorem ax0 {nv na : Nat} (hnv : nv <= 12) (hna : na <= 2) {e : b9} (h : n7 nv na e = true) : (47 : UInt8) ∉ k6 e := by
 unfold n7 at h
 simp only [bO8] at h
 exact bg6 nv na hnv hna 5 e h.1
mutual
theorem bA4 (nv na : Nat) (hnv : nv <= 12) (hna : na <= 2) : ∀ (d : Nat) (s : b7), m8 nv na d s = true -> (47 : UInt8) ∉ Q6 s
 | 0, s, h => by simp [m8] at h
 | d + 1, s, h => by
  obtain ⟨h1, h2, h3, h4, h5, h6, h7⟩ := B8 h
  have b1 := at4 nv na hnv hna d s.body h6
  have b2 := at4 nv na hnv hna d s.els h7
  rw [x9, stT]
  split
  ·rename_i k
   have a := h2 (.inl k)
   have := bc2 ⟨s.target.toNat, by omega⟩
   have v := ax0 hnv hna (h4 (by omega))
   simp only [bR0, bR2, List.not_mem_nil, or_false, not_or]
   exact ⟨⟨⟨fun h => this h.symm, by decide, by decide⟩, v⟩, by decide⟩
  split
  ·rename_i k
   have a := h2 (.inr k)
   have := bc2 ⟨s.target.toNat, by omega⟩
   have v := ax0 hnv hna (h4 (by omega))
   simp only [bR0, bR2, List.not_mem_nil, or_false, not_or]
   exact ⟨⟨⟨fun h => this h.symm, by decide, by decide⟩, v⟩, by decide⟩
  split
  ·rename_i k
   have a := h3 k
   have := bx1 ⟨s.target.toNat, by omega⟩
   have v := ax0 hnv hna (h4 (by omega))
   have i := ax0 hnv hna a.2.2.1
   simp only [bR0, bR2, List.not_mem_nil, or_false, not_or]
   exact ⟨⟨⟨⟨⟨fun h => this h.symm, by decide⟩, i⟩, by decide, by decide, by decide⟩, v⟩, by decide⟩
  split
  ·have v := ax0 hnv hna (h4 (by omega))
   simp only [bR0, bR2, List.not_mem_nil, or_false, not_or]
   exact ⟨⟨⟨⟨⟨⟨⟨by decide, by decide⟩, v⟩, by decide⟩, b1⟩, by decide, by decide⟩, b2⟩, by decide⟩
  have c := h5 (by omega)
  have v := aP7 (m := s.count.toNat) (by omega)
  simp only [bR0, bR2, List.not_mem_nil, or_false, not_or]
  exact ⟨⟨⟨⟨⟨by decide, by decide, by decide, by decide, by decide, by decide⟩, v⟩, by decide⟩, b1⟩, by decide⟩
termination_by d s => (d, 0)
theorem at4 (nv na : Nat) (hnv : nv <= 12) (hna : na <= 2) : ∀ (d : Nat) (ss : List b7), (∀ s ∈ ss, m8 nv na d s = true) -> (47 : UInt8) ∉ f9 ss
 | _, [], _ => by simp [f9]
 | d, s :: r, h => by
  have b1 := bA4 nv na hnv hna d s (h s bQ4)
  have b2 := at4 nv na hnv hna d r fun x hx => h x (bR1 _ hx)
  rw [f9, bR0]
  exact fun h => h.elim b1 b2
termination_by d ss => (d, ss.length + 1)
end
theorem bA5 {p : o6} (h : A7 p = true) : (47 : UInt8) ∉ f9 p.body := by
 unfold A7 F7 at h
 simp only [bO8, decide_eq_true_eq] at h
 exact at4 p.vars.length p.arrays.length (by omega) (by omega) 5 p.body (fun s hs => bQ0.1 h.1.2 s hs)
def sn1 : List UInt8 -> List UInt8 -> Option (List UInt8 × List UInt8)
 | _, [] => none
 | p, x :: r => if x = 47 then some (p, r) else sn1 (p ++ [x]) r
def sn3 (t : List UInt8) : List (List UInt8) := match sn1 [] t with
 | none => [t]
 | some (a, r) => match sn1 [] r with
  | none => [a, r]
  | some (b, q) => [a, b, q]
theorem aI4 : ∀ (a p r : List UInt8), (47 : UInt8) ∉ a -> sn1 p (a ++ 47 :: r) = some (p ++ a, r)
 | [], p, r, _ => by simp [sn1]
 | x :: a, p, r, h => by
  simp only [bR2, not_or] at h
  rw [List.cons_append, sn1, if_neg (fun e => h.1 e.symm), aI4 a _ r h.2]
  simp
abbrev zP : o6 := ⟨[], [], []⟩
def spQ (a b c : List UInt8) : o6 := ⟨(K7 a).1, (K7 b).1, (E4 c 5 0).1⟩
def R3 (t : List UInt8) : o6 × Bool := match H7 47 [] t with
 | [a, b, c] => if (E4 c 5 0).2 = c.length /\ aa3 (spQ a b c) = t then (spQ a b c, true) else (zP, false)
 | _ => (zP, false)
def ipQ (a b c : List UInt8) : o6 := ⟨(K7 a).1, (K7 b).1, (E0 5 (c, false)).1⟩
def O3 (t : List UInt8) : o6 × Bool := match sn3 t with
 | [a, b, c] => if (K7 a).2 = true /\ (K7 b).2 = true /\ (E0 5 (c, false)).2.2 = false /\ (E0 5 (c, false)).2.1 = [] /\ A7 (ipQ a b c) = true /\ O7 (ipQ a b c) = t then (ipQ a b c, true) else (zP, false)
 | _ => (zP, false)
theorem aP3 {p : o6} (h : A7 p = true) : H7 47 [] (O7 p) = [s2 p.vars, s2 p.arrays, f9 p.body] /\ sn3 (O7 p) = [s2 p.vars, s2 p.arrays, f9 p.body] := by
 obtain ⟨p1, p2⟩ := ah7 h
 have e : O7 p = s2 p.vars ++ 47 :: (s2 p.arrays ++ 47 :: f9 p.body) := by unfold O7; simp
 rw [e]
 refine ⟨?_, ?_⟩
 ·rw [aL6 _ _ _ (at6 p1), aL6 _ _ _ (at6 p2), bl3 _ _ (bA5 h)]; rfl
 rw [sn3, aI4 _ _ _ (at6 p1)]
 dsimp only
 rw [aI4 _ _ _ (at6 p2)]; rfl
theorem bd7 {p : o6} (h : A7 p = true) : R3 (O7 p) = (p, true) := by
 obtain ⟨p1, p2⟩ := ah7 h
 have e : spQ (s2 p.vars) (s2 p.arrays) (f9 p.body) = p := by
  unfold spQ; rw [an6 p1, an6 p2, bg0 h]
 unfold R3
 rw [(aP3 h).1]
 dsimp only
 rw [if_pos, e]
 refine ⟨by rw [bg0 h], ?_⟩
 rw [e]; unfold aa3; rw [if_pos h]
theorem bi8 {p : o6} (h : A7 p = true) : O3 (O7 p) = (p, true) := by
 obtain ⟨p1, p2⟩ := ah7 h
 have e : ipQ (s2 p.vars) (s2 p.arrays) (f9 p.body) = p := by
  unfold ipQ; rw [an6 p1, an6 p2, aR5 h]
 unfold O3
 rw [(aP3 h).2]
 dsimp only
 rw [if_pos, e]
 rw [e, aR5 h, an6 p1, an6 p2]
 exact ⟨rfl, rfl, rfl, rfl, h, rfl⟩
theorem bx6 {t : List UInt8} (h : (R3 t).2 = true) : A7 (R3 t).1 = true /\ O7 (R3 t).1 = t := by
 unfold R3 at h ⊢
 split at h
 ·rename_i a b c hc
  split at h
  ·rename_i h1
   rw [if_pos h1]
   dsimp only
   have hp : A7 (spQ a b c) = true := by
    cases hp : A7 (spQ a b c) with
    | true => rfl
    | false =>
     have h2 := h1.2
     unfold aa3 at h2
     rw [hp] at h2
     have h3 : t = [] := h2.symm
     rw [h3] at hc
     simp [H7] at hc
   have h2 := h1.2
   unfold aa3 at h2
   rw [if_pos hp] at h2
   exact ⟨hp, h2⟩
  cases h
 cases h
theorem bB7 {t : List UInt8} (h : (O3 t).2 = true) : A7 (O3 t).1 = true /\ O7 (O3 t).1 = t := by
 unfold O3 at h ⊢
 split at h
 ·split at h
  ·rename_i h1
   rw [if_pos h1]
   exact ⟨h1.2.2.2.2.1, h1.2.2.2.2.2⟩
  cases h
 cases h
theorem bx7 {t : List UInt8} (h : (R3 t).2 = false) : R3 t = (zP, false) := by
 unfold R3 at h ⊢
 split at h
 ·split at h
  ·cases h
  rename_i h1; rw [if_neg h1]
 rfl
theorem bB8 {t : List UInt8} (h : (O3 t).2 = false) : O3 t = (zP, false) := by
 unfold O3 at h ⊢
 split at h
 ·split at h
  ·cases h
  rename_i h1; rw [if_neg h1]
 rfl
theorem bf6 (t : List UInt8) : O3 t = R3 t := by
 cases h : (R3 t).2 with
 | true =>
  obtain ⟨h1, h2⟩ := bx6 h
  have e := bi8 h1
  rw [h2] at e
  rw [e, <- h]
 | false =>
  cases h3 : (O3 t).2 with
  | true =>
   obtain ⟨h1, h2⟩ := bB7 h3
   have e := bd7 h1
   rw [h2] at e
   rw [e] at h; cases h
  | false => rw [bx7 h, bB8 h3]
end Go.Proofs.YtompcdbfongedaaGreatDoor

namespace Go.Proofs.YtompcdbfongedaaGreatDoor
open Go Go.RowKit
theorem ae1 (p q : o6) : r7.ok Tryz.prog (N8 7 [pA 0, pA 3] (pS p ++ pS q) (bA (p.same q))) :=
 L8 fun φ w ρ h => aC2 φ φ _ _ p q w ⟨ρ 0, ρ 1, ρ 2, rfl, h 0 _ rfl, h 1 _ rfl, h 2 _ rfl⟩ ⟨ρ 3, ρ 4, ρ 5, rfl, h 3 _ rfl, h 4 _ rfl, h 5 _ rfl⟩
end Go.Proofs.YtompcdbfongedaaGreatDoor

namespace Go.Proofs.YtompcdbfongedaaGreatDoor
open Go Go.RowKit Go.Shelf
def aQ4 : Go.Shelf.Ren := ⟨fun | 138 => 77 | 143 => 78 | 195 => 106 | 197 => 107 | 217 => 79 | 218 => 108 | 219 => 109 | 221 => 47 | 224 => 127 | 225 => 126 | 260 => 125 | 266 => 110 | 267 => 128 | 268 => 76 | 314 => 139 | n => n, fun | 0 => 0 | 3 => 3 | 4 => 4 | 5 => 5 | 9 => 9 | 21 => 21 | 31 => 37 | 46 => 137 | 51 => 148 | 105 => 123 | 119 => 144 | 138 => 146 | 139 => 147 | 146 => 149 | n => n, fun | 1 => 0 | 3 => 1 | 4 => 2 | n => n⟩
theorem aK8 : Go.Proofs.Lays.n221 Tryz.prog aQ4 := {
 mixed := by kernel_rfl
 f138 := Tryz.func77.trans (congrArg some (by kernel_rfl))
 f143 := Tryz.func78.trans (congrArg some (by kernel_rfl))
 f195 := Tryz.func106.trans (congrArg some (by kernel_rfl))
 f197 := Tryz.func107.trans (congrArg some (by kernel_rfl))
 f217 := Tryz.func79.trans (congrArg some (by kernel_rfl))
 f218 := Tryz.func108.trans (congrArg some (by kernel_rfl))
 f219 := Tryz.func109.trans (congrArg some (by kernel_rfl))
 f221 := Tryz.func47.trans (congrArg some (by kernel_rfl))
 f224 := Tryz.func127.trans (congrArg some (by kernel_rfl))
 f225 := Tryz.func126.trans (congrArg some (by kernel_rfl))
 f260 := Tryz.func125.trans (congrArg some (by kernel_rfl))
 f266 := Tryz.func110.trans (congrArg some (by kernel_rfl))
 f267 := Tryz.func128.trans (congrArg some (by kernel_rfl))
 f268 := Tryz.func76.trans (congrArg some (by kernel_rfl))
 f314 := Tryz.func139.trans (congrArg some (by kernel_rfl))
 t0 := Tryz.underlying0
 a0 := Tryz.isAgg0
 z0 := Tryz.sizeOf0
 v0 := Tryz.zeroValue0
 t3 := Tryz.underlying3
 a3 := Tryz.isAgg3
 z3 := Tryz.sizeOf3
 v3 := Tryz.zeroValue3
 t4 := Tryz.underlying4
 a4 := Tryz.isAgg4
 z4 := Tryz.sizeOf4
 v4 := Tryz.zeroValue4
 t5 := Tryz.underlying5
 a5 := Tryz.isAgg5
 z5 := Tryz.sizeOf5
 v5 := Tryz.zeroValue5
 t9 := Tryz.underlying9
 a9 := Tryz.isAgg9
 z9 := Tryz.sizeOf9
 v9 := Tryz.zeroValue9
 t21 := Tryz.underlying21
 a21 := Tryz.isAgg21
 z21 := Tryz.sizeOf21
 v21 := Tryz.zeroValue21
 t31 := Tryz.underlying37
 a31 := Tryz.isAgg37
 z31 := Tryz.sizeOf37
 v31 := Tryz.zeroValue37
 t46 := Tryz.underlying137
 a46 := Tryz.isAgg137
 z46 := Tryz.sizeOf137
 v46 := Tryz.zeroValue137
 t51 := Tryz.underlying148
 a51 := Tryz.isAgg148
 z51 := Tryz.sizeOf148
 v51 := Tryz.zeroValue148
 t105 := Tryz.underlying123
 a105 := Tryz.isAgg123
 z105 := Tryz.sizeOf123
 v105 := Tryz.zeroValue123
 t119 := Tryz.underlying144
 a119 := Tryz.isAgg144
 z119 := Tryz.sizeOf144
 t138 := Tryz.underlying146
 a138 := Tryz.isAgg146
 z138 := Tryz.sizeOf146
 v138 := Tryz.zeroValue146
 t139 := Tryz.underlying147
 a139 := Tryz.isAgg147
 z139 := Tryz.sizeOf147
 v139 := Tryz.zeroValue147
 t146 := Tryz.underlying149
 a146 := Tryz.isAgg149
 z146 := Tryz.sizeOf149
 v146 := Tryz.zeroValue149
 g1 := by kernel_rfl
 g3 := by kernel_rfl
 g4 := by kernel_rfl }
theorem bB9 : (Tryz.prog.info? 9).map (fun i => (i.zero, i.size, i.bytes)) = some (some (.string ByteArray.empty), 1, 16) := by kernel_rfl
theorem bN5 (s : ByteArray) (w : World) (hs : s.size < 4294967281) (N : Nat) (hN : (N : Int) = min 3 ((s.size : Int) + 1)) :
  Calls Tryz.prog 47 #[.string s, .string ⟨#[47]⟩, .int .i64 0, .int .i64 3] w fun e w' =>
   e = .returned (.slice (some ⟨w.heap.size, 0, none⟩) (Lib.splitB ⟨#[47]⟩ 0 (N - 1) s).length N) /\ w' = w.alloc (.cells (Lib.cellsOf (Lib.splitB ⟨#[47]⟩ 0 (N - 1) s) N) 9) := by
 have h1 : 1 <= (⟨#[47]⟩ : ByteArray).size := bP9 _
 exact Any.strings_genSplit_core aK8 bB9 s ⟨#[47]⟩ 0 3 N w hs h1 (bR3 _)
  (fun x _ _ => (Any.strings_Index_one { aK8 with } x 47 _).mono fun e w' ⟨he, hw⟩ => ⟨by
   rw [he]
   show _ = Ending.returned (Value.int .i64 (Lib.index x.data.toList [47]))
   rw [Lib.index_one], hw⟩)
  ((Any.strings_Count_one { aK8 with } s 47 w).mono fun e w' ⟨he, hw⟩ => ⟨by
   rw [he]
   show _ = Ending.returned (Value.int .i64 ((Lib.count s.data.toList [47] : Nat) : Int))
   rw [Lib.count_one]
   rfl, hw⟩) (by decide) (by decide) (by rw [if_neg (by decide)]; exact hN)
theorem bv9 {c : UInt8} : ∀ {l : List UInt8}, c ∉ l -> Lib.indexByte l c = -1
 | [], _ => rfl
 | x :: r, h => by
  simp only [bR2, not_or] at h
  unfold Lib.indexByte
  rw [show (x == c) = false from by simpa using fun e => h.1 e.symm, bv9 h.2]; rfl
theorem bj4 {c : UInt8} : ∀ {a r : List UInt8}, c ∉ a -> Lib.indexByte (a ++ c :: r) c = a.length
 | [], r, _ => by simp [Lib.indexByte]
 | x :: a, r, h => by
  simp only [bR2, not_or] at h
  rw [List.cons_append, Lib.indexByte, show (x == c) = false from by simpa using fun e => h.1 e.symm, bj4 h.2]
  have : ((a.length : Int) == -1) = false := by simp
  simp only [Bool.false_eq_true, if_false, this, bO9]
  omega
theorem bw0 (l : List UInt8) : Lib.indexB (b5 l) ⟨#[47]⟩ = Lib.indexByte l 47 := by
 show Lib.index l [47] = _
 rw [Lib.index_one]
theorem aw0 : ∀ {l p : List UInt8}, sn1 p l = none -> (47 : UInt8) ∉ l
 | [], _, _ => by simp
 | x :: r, p, h => by
  rw [sn1] at h
  split at h
  ·cases h
  rename_i hx
  simp only [bR2, not_or]
  exact ⟨fun e => hx e.symm, aw0 h⟩
theorem ac3 : ∀ {l p a r : List UInt8}, sn1 p l = some (a, r) -> ∃ q, a = p ++ q /\ l = q ++ 47 :: r /\ (47 : UInt8) ∉ q
 | [], _, _, _, h => by cases h
 | x :: l, p, a, r, h => by
  rw [sn1] at h
  split at h
  ·rename_i hx
   cases h
   exact ⟨[], by simp, by rw [hx]; rfl, by simp⟩
  rename_i hx
  obtain ⟨q, h1, h2, h3⟩ := ac3 h
  refine ⟨x :: q, by rw [h1]; simp, by rw [h2]; rfl, ?_⟩
  simp only [bR2, not_or]
  exact ⟨fun e => hx e.symm, h3⟩
theorem bu8 {l : List UInt8} (h : (47 : UInt8) ∉ l) (k : Nat) : Lib.splitB ⟨#[47]⟩ 0 k (b5 l) = [b5 l] := Lib.splitB_miss _ _ _ _ (by rw [bw0, bv9 h])
theorem aW0 {a r : List UInt8} (h : (47 : UInt8) ∉ a) (k : Nat) : Lib.splitB ⟨#[47]⟩ 0 (k + 1) (b5 (a ++ 47 :: r)) = b5 a :: Lib.splitB ⟨#[47]⟩ 0 k (b5 r) := by
 rw [Lib.splitB_hit _ _ _ _ a.length (by rw [bw0, bj4 h])]
 congr 1
 ·rw [T2]; simp
 congr 1
 rw [show (⟨#[47]⟩ : ByteArray).size = 1 from rfl, l8, T2, List.take_length]
 congr 1
 rw [List.drop_append]
 simp
theorem be5 (t : List UInt8) (N : Nat) (hN : (N : Int) = min 3 ((t.length : Int) + 1)) : Lib.splitB ⟨#[47]⟩ 0 (N - 1) (b5 t) = (sn3 t).map b5 := by
 unfold sn3
 cases h : sn1 [] t with
 | none => exact bu8 (aw0 h) _
 | some x =>
  obtain ⟨a, r⟩ := x
  obtain ⟨q, h1, h2, h3⟩ := ac3 h
  have h1' : a = q := by simpa using h1
  subst h1'
  have hl : t.length = a.length + (r.length + 1) := by rw [h2]; simp
  dsimp only
  cases h4 : sn1 [] r with
  | none =>
   obtain ⟨j, hj⟩ : ∃ j, N - 1 = j + 1 := ⟨N - 2, by omega⟩
   rw [hj, h2, aW0 h3, bu8 (aw0 h4)]; rfl
  | some y =>
   obtain ⟨b, c⟩ := y
   obtain ⟨q2, h5, h6, h7⟩ := ac3 h4
   have h5' : b = q2 := by simpa using h5
   subst h5'
   have hl2 : r.length = b.length + (c.length + 1) := by rw [h6]; simp
   rw [show N - 1 = 1 + 1 by omega, h2, aW0 h3, h6, aW0 h7]; rfl
end Go.Proofs.YtompcdbfongedaaGreatDoor

namespace Go.Proofs.YtompcdbfongedaaGreatDoor
open Go Go.RowKit
theorem bg9 {P : Program} {f : FuncId} {args : List AV} {d : D} (h : ∀ (w : World) (ρ : Nat -> Value), Calls P f (AV.vals ρ args).toArray w fun e w' => ∃ v, e = .returned v /\ Below w.heap.size w w' /\ ∀ φ' : Nat -> Prop, (∀ g, w.heap.size <= g -> φ' g) -> RD w' φ' d v) : r7.ok P ⟨f, args, [], [.dat d], .ref 0⟩ := by
 intro ι φ ψ w0 w F ρ M
 refine (h w ρ).mono ?_
 rintro e w' ⟨v, rfl, hb, hr⟩
 have M1 := M.call hb
 have hnone : ∀ j, v7 [] j = It.none := fun j => by simp [v7]
 have hinv : Inv (v7 []) ρ [0] := fun ρ' _ j => by rw [hnone j]; rfl
 obtain ⟨ρ', h1, M2, h2⟩ := M1.newDat (id := 0) (d := d) (v := v) (hnone 0) hinv (hr _ fun g hg => M.frFresh g hg)
 refine ⟨ρ', fun i hi => absurd hi (Nat.not_lt_zero i), ?_, ?_⟩
 ·simp only [AV.val]; rw [h2]
 have e : p9 (v7 []) [(0, It.dat d)] = v7 [It.dat d] := by
  funext j
  cases j with
  | zero => rfl
  | succ j => simp [p9, v7]
 rw [e] at M2
 exact M2
theorem bn4 (t : List UInt8) (hs : t.length <= 100000000) (w : World) (N : Nat) (hN : (N : Int) = min 3 ((t.length : Int) + 1)) :
  Calls Tryz.prog 20 #[.string (b5 t), .string ⟨#[47]⟩, .int .i64 3] w fun e w' =>
   e = .returned (.slice (some ⟨w.heap.size, 0, none⟩) (Lib.splitB ⟨#[47]⟩ 0 (N - 1) (b5 t)).length N) /\ w' = w.alloc (.cells (Lib.cellsOf (Lib.splitB ⟨#[47]⟩ 0 (N - 1) (b5 t)) N) 9) := by
 have hg := bN5 (b5 t) w (by rw [l8]; omega) N (by rw [l8]; exact hN)
 clear hN
 generalize Lib.splitB ⟨#[47]⟩ 0 (N - 1) (b5 t) = L at *
 generalize b5 t = S at *
 have HG : Hid (Calls Tryz.prog 47 #[.string S, .string ⟨#[47]⟩, .int .i64 0, .int .i64 3] w fun e w' =>
   e = .returned (.slice (some ⟨w.heap.size, 0, none⟩) L.length N) /\ w' = w.alloc (.cells (Lib.cellsOf L N) 9)) := hg
 clear hg
 go_enter Tryz.func20, Tryz.ntmps20
 go_wp2_with fail
 refine HG.out.mono ?_
 rintro e w1 ⟨rfl, rfl⟩
 go_wp2_with fail
 go_ret
 exact ⟨rfl, rfl⟩
theorem aT5 (t : List UInt8) (hs : t.length <= 100000000) : r7.ok Tryz.prog ⟨20, [tA t, tA [47], iA 3], [], [.dat (.strs ((sn3 t).map b5))], .ref 0⟩ :=
 bg9 fun w ρ => by
  obtain ⟨N, hN⟩ : ∃ N : Nat, (N : Int) = min 3 ((t.length : Int) + 1) := ⟨(min 3 ((t.length : Int) + 1)).toNat, by omega⟩
  refine (bn4 t hs w N hN).mono ?_
  rintro e w' ⟨he, hw⟩
  rw [be5 t N hN] at he hw
  have hl := Lib.splitB_length_le ⟨#[47]⟩ 0 (N - 1) (b5 t)
  rw [be5 t N hN] at hl
  generalize (sn3 t).map b5 = L at *
  refine ⟨_, he, by rw [hw]; exact (Below.refl _ _).alloc (bP9 _) _, fun φ' hφ => ?_⟩
  refine ⟨by simp [D.len], some ⟨w.heap.size, 0, none⟩, N, rfl, by show L.length <= N; omega, by unfold maxLen; omega, fun _ => ⟨w.heap.size, 0, rfl, by rw [hw]; have h9 : (w.alloc (.cells (Lib.cellsOf L N) 9)).heap.size = w.heap.size + 1 := (by simp); omega, hφ _ (bP9 _), fun j u hj => ?_⟩⟩
  have hj' : (L.map Value.string)[j]? = some u := hj
  have hlt : j < L.length := by simpa using (bP8.1 hj').1
  rw [hw]
  have hc : (Lib.cellsOf L N)[j]? = some u := by
   unfold Lib.cellsOf
   rw [List.getElem?_toArray, bS6 (by simpa using hlt)]
   exact hj'
  have hB := (V3.new w (Lib.cellsOf L N).toList 9).cell j
  rw [Array.toArray_toList] at hB
  have h8 : (Lib.cellsOf L N).toList[j]? = some u := by rw [Array.getElem?_toList]; exact hc
  simpa using hB.trans h8
theorem a97 (x : UInt8) : r7.ok Tryz.prog (N8 43 [uA x] [] (iA (lbS x))) := by
  refine M7 13 Tryz.func43 [] [(0, .v (.int .u8 (x.toNat : Int)))] fun G => ?_; refine wp_seq (o0 G m0 [(2, iA 0)] fun G => b0 (wp_seq (wp_seq (H8 G m0 [(0, .v (.int .u8 (x.toNat : Int))), (2, iA 0), (3, iA 0)] fun G => b0 (wp_block ?_))))); refine G5 (κ := Nat) (fun k => k <= 4 /\ I5 x [76, 72, 85, 88] 0 = I5 x (([76, 72, 85, 88] : List UInt8).drop k) k) (fun k => 4 - k) (fun k => []) (fun k => [(0, .v (.int .u8 (x.toNat : Int))), (2, iA 0), (3, iA k)]) 0 (⟨bR3 _, rfl⟩) (C2.at G _ _) ?_; clear G; intro k ρ a w hp G; refine wp_seq (wp_seq (o0 G m0 [(5, bA (decide ((k : Int) <= 3)))] fun G => b0 (rcD G (fun h0 q0 => ?_) fun h0 q0 => ?_)))
  · refine wp_exit (z7 (z7 (y9 (b0 (wp_seq (o0 G m0 [(2, iA (-1))] fun G => b0 (wp_ret ?_))))))); exact rxI (-1) G [] (bB3 (by omega) hp.2)
  refine wp_skip (b0 (wp_seq (wp_block (wp_seq (L0 G m0 [(11, bA (((([76, 72, 85, 88] : List UInt8).getD k 0).toNat : Int) == (x.toNat : Int)))] [(0 : Int) <= (k : Int), (k : Int) < ((ByteArray.mk #[(76 : UInt8), (72 : UInt8), (85 : UInt8), (88 : UInt8)]).size : Int)] ⟨(by omega), (by simp only [m5, bP4, bO9, bP2]; omega), bP7⟩ fun G => b0 (rcE (u := (([(76 : UInt8), (72 : UInt8), (85 : UInt8), (88 : UInt8)].getD k (0 : UInt8)).toNat : Int)) (v := (x.toNat : Int)) G (fun h1 q1 => ?_) fun h1 q1 => ?_))))))
  · refine wp_skip (B9 (b0 (L0 G m0 [(3, iA ((k : Int) + 1))] [wO ((k : Int) + 1)] (o1 (by omega)) fun G => b0 ?_))); exact rxn G (k + 1) (⟨by omega, br3 (ls := [76, 72, 85, 88]) (by simp; omega) hp.2 (by assumption)⟩) (by omega) []
  refine wp_seq (o0 G m0 [(2, iA k)] fun G => b0 (wp_ret (E6 (n8 (n8 (E6 (n8 ?_))))))); exact rxI ((k : Int)) G [] (bC3 (ls := [76, 72, 85, 88]) (by simp; omega) hp.2 (by assumption))
theorem ah1 (t : List UInt8) (hs : t.length <= 100000000) : r7.ok Tryz.prog ⟨18, [tA t], [], [dI (K7 t).1], .tup [.ref 0, bA (K7 t).2]⟩ := by
  have hz : (b5 t).size = t.length := rfl; refine M7 26 Tryz.func18 [] [(0, .v (.string (b5 t)))] fun G => ?_; refine wp_seq (o0 G m0 [(2, .v (.slice none 0 0)), (3, bA false)] fun G => b0 (wp_seq (r8 G m0 [0] [.row 3 (D.ints [])] [(0, .v (.string (b5 t))), (2, .v (.slice none 0 0)), (3, bA false), (4, .ref 0)] fun G => b0 (wp_seq (wp_seq (H8 G m0 [(0, .v (.string (b5 t))), (2, .v (.slice none 0 0)), (3, bA false), (4, .ref 0), (5, iA 0)] fun G => b0 (wp_block ?_))))))); refine G5 (κ := Nat) (fun k => k <= t.length /\ (t.take k).all lbG = true) (fun k => t.length - k) (fun k => [.row 3 (.ints ((t.take k).map lbS))]) (fun k => [(0, .v (.string (b5 t))), (2, .v (.slice none 0 0)), (3, bA false), (4, .ref 0), (5, iA k)]) 0 (⟨bR3 _, rfl⟩) (C2.at G _ _) ?_; clear G; intro k ρ a w hp G; replace G := C2.at G [.row 3 (D.ints (bR8 lbS (bP6 k t)))] [(0, .v (.string (b5 t))), (2, .v (.slice none 0 0)), (3, bA false), (4, .ref 0), (5, iA k)]; refine wp_seq (wp_seq (o0 G m0 [(11, bA (decide ((k : Int) < ((b5 t).size : Int))))] fun G => b0 (rcD G (fun h0 q0 => ?_) fun h0 q0 => ?_)))
  · refine wp_exit (z7 (z7 (y9 (b0 (wp_seq (H8 G m0 [(2, .ref 0), (3, bA true)] fun G => b0 (wp_ret ?_))))))); obtain ⟨ρ, G⟩ := G.frz [.row 3] [dI (bR8 lbS (bP6 k t))] [(2, .ref 0), (3, bA true)]; exact K2 (.tup [.ref 0, bA true]) G [0] (by have e1 : ((K7 t).snd : Bool) = (true) := (by rw [aJ2 (k := k) (by omega) hp.2]); (first | rw [e1] | simp only [e1]) <;> rfl) (by show _ = mR [0] [dI (K7 t).fst]; have e1 : ((K7 t).fst : List Int) = (bR8 lbS (bP6 k t)) := (by rw [aJ2 (k := k) (by omega) hp.2]); (first | rw [e1] | simp only [e1]) <;> rfl)
  refine wp_skip (b0 (wp_seq (wp_block (wp_seq (L0 G (x8 3 [] (a97 ((b5 t).data.toList.getD k 0))) [(6, iA (lbS ((b5 t).data.toList.getD k 0)))] [(0 : Int) <= (k : Int), (k : Int) < ((b5 t).size : Int)] ⟨(by omega), (by assumption), bP7⟩ fun G => b0 (wp_seq (wp_seq (o0 G m0 [(19, bA (decide (lbS ((b5 t).data.toList.getD k 0) < 0)))] fun G => b0 (rcD (p := lbS ((b5 t).data.toList.getD k (0 : UInt8)) < 0) G (fun h1 q1 => ?_) fun h1 q1 => ?_)))))))))
  · refine wp_skip (b0 (K9 G m0 [25] [.row 3 (D.ints (bR8 lbS (bP6 k t) ++ ([lbS ((b5 t).data.toList.getD k 0)] ++ [])))] [(0, .v (.string (b5 t))), (2, .v (.slice none 0 0)), (3, bA false), (4, .ref 0), (5, iA k)] (aP ((bR8 lbS (bP6 k t)).length + ([lbS ((b5 t).data.toList.getD k (0 : UInt8))] ++ []).length) 8 []) (aK (by simp only [bQ7, List.length_map, List.length_take, bO9, bP2]; omega) bP7) fun G => B9 (b0 (L0 G m0 [(5, iA ((k : Int) + 1))] [wO ((k : Int) + 1)] (o1 (by omega)) fun G => b0 ?_)))); exact rxn G (k + 1) (⟨by omega, a25 (by omega) hp.2 (by assumption)⟩) (by omega) [0] (by have e1 : (bR8 lbS (bP6 (k + 1) t) : List Int) = (bR8 lbS (bP6 k t) ++ ([lbS ((b5 t).data.toList.getD k 0)] ++ [])) := ((bf5 (by omega)).symm); (first | rw [e1] | simp only [e1]) <;> rfl)
  refine wp_seq (r8 G m0 [0, 1] [.row 3 (D.ints (bR8 lbS (bP6 k t))), .row 3 (D.ints [])] [(0, .v (.string (b5 t))), (2, .ref 1), (3, bA false), (4, .ref 0), (5, iA k), (6, iA (lbS ((b5 t).data.toList.getD k 0)))] fun G => b0 (wp_ret (n8 (E6 (n8 (n8 (E6 (n8 ?_)))))))); obtain ⟨ρ, G⟩ := G.frz [.no, .row 3] [.row 3 (D.ints (bR8 lbS (bP6 k t))), dI []] [(0, .v (.string (b5 t))), (2, .ref 1), (3, bA false), (4, .ref 0), (5, iA k), (6, iA (lbS ((b5 t).data.toList.getD k 0)))]; exact K2 (.tup [.ref 1, bA false]) G [1] (by have e1 : ((K7 t).snd : Bool) = (false) := (by rw [aJ1 (k := k) (by omega) (by assumption)]); (first | rw [e1] | simp only [e1]) <;> rfl) (by show _ = mR [1] [dI (K7 t).fst]; have e1 : ((K7 t).fst : List Int) = ([]) := (by rw [aJ1 (k := k) (by omega) (by assumption)]); (first | rw [e1] | simp only [e1]) <;> rfl)
abbrev aM7 (t : List UInt8) (r0 : List (Nat × AV)) : List (Nat × AV) := (0, .v (.string (b5 t))) :: (2, .v (.slice none 0 0)) :: (3, bA false) :: r0
theorem ae0 (t : List UInt8) (hs : t.length <= 100000000) : r7.ok Tryz.prog ⟨21, [tA t], [], [.row 3 (.ints (K7 t).1)], .tup [.ref 0, bA (K7 t).2]⟩ := by
  have hz : (b5 t).size = t.length := rfl; refine M7 24 Tryz.func21 [] [(0, .v (.string (b5 t)))] fun G => ?_; refine wp_seq (o0 G m0 [(2, .v (.slice none 0 0)), (3, bA false)] fun G => b0 (wp_seq (o0 G m0 [(4, .v (.slice none 0 0))] fun G => b0 (wp_seq (wp_seq (H8 G m0 (aM7 t [(4, .v (.slice none 0 0)), (8, iA ((b5 t).size : Int)), (9, iA 0)]) fun G => b0 (wp_block ?_))))))); obtain ⟨ρ, G⟩ := G.nil 0 3 (.ints []) 1 [] (aM7 t [(4, .ref 0), (8, iA ((b5 t).size : Int)), (9, iA 0)]); refine G5 (κ := Nat) (fun k => k <= t.length /\ (t.take k).all lbG = true) (fun k => t.length - k) (fun k => [.row 3 (.ints ((t.take k).map lbS))]) (fun k => [(0, .v (.string (b5 t))), (2, .v (.slice none 0 0)), (3, bA false), (4, .ref 0), (8, iA ((b5 t).size : Int)), (9, iA k)]) 0 (⟨bR3 _, rfl⟩) (C2.at G _ _) ?_; clear G; intro k ρ a w hp G; replace G := C2.at G [.row 3 (D.ints (bR8 lbS (bP6 k t)))] (aM7 t [(4, .ref 0), (8, iA ((b5 t).size : Int)), (9, iA k)]); refine wp_seq (o0 G m0 [(10, bA (decide ((k : Int) < ((b5 t).size : Int))))] fun G => b0 (wp_seq (rcD G (fun h0 q0 => ?_) fun h0 q0 => ?_)))
  · refine wp_exit (z7 (z7 (y9 (b0 (wp_seq (o0 G m0 [(2, .ref 0), (3, bA true)] fun G => b0 (wp_ret ?_))))))); exact K2 (.tup [.ref 0, bA true]) G [0] (by have e1 : ((K7 t).snd : Bool) = (true) := (by rw [aJ2 (k := k) (by omega) hp.2]); (first | rw [e1] | simp only [e1]) <;> rfl) (by show _ = mR [0] [.row 3 (D.ints (K7 t).fst)]; have e1 : ((K7 t).fst : List Int) = (bR8 lbS (bP6 k t)) := (by rw [aJ2 (k := k) (by omega) hp.2]); (first | rw [e1] | simp only [e1]) <;> rfl)
  refine wp_skip (b0 (wp_seq (wp_block (wp_seq (o0 G m0 [(5, iA k)] fun G => b0 (wp_seq (L0 G (x8 3 [] (W6 ([76, 72, 85, 88]) ((b5 t).data.toList.getD k 0) (by simp [h0]))) [(6, iA (I5 ((b5 t).data.toList.getD k 0) [76, 72, 85, 88] 0))] [(0 : Int) <= (k : Int), (k : Int) < ((b5 t).size : Int)] ⟨(by omega), (by assumption), bP7⟩ fun G => b0 (wp_seq (wp_seq (o0 G m0 [(17, bA (decide (I5 ((b5 t).data.toList.getD k 0) [76, 72, 85, 88] 0 < 0)))] fun G => b0 (rcD (p := I5 ((b5 t).data.toList.getD k (0 : UInt8)) [(76 : UInt8), (72 : UInt8), (85 : UInt8), (88 : UInt8)] (0 : Int) < 0) G (fun h1 q1 => ?_) fun h1 q1 => ?_)))))))))))
  · refine wp_skip (b0 (K9 G m0 [25] [.row 3 (D.ints (bR8 lbS (bP6 k t) ++ ([I5 ((b5 t).data.toList.getD k 0) [76, 72, 85, 88] 0] ++ [])))] (aM7 t [(4, .ref 0), (8, iA ((b5 t).size : Int)), (9, iA k)]) (aP ((bR8 lbS (bP6 k t)).length + ([I5 ((b5 t).data.toList.getD k (0 : UInt8)) [(76 : UInt8), (72 : UInt8), (85 : UInt8), (88 : UInt8)] (0 : Int)] ++ []).length) 8 []) (aK (by simp only [bQ7, List.length_map, List.length_take, bO9, bP2]; omega) bP7) fun G => B9 (b0 (L0 G m0 [(9, iA ((k : Int) + 1))] [wO ((k : Int) + 1)] (o1 (by omega)) fun G => b0 ?_)))); exact rxn G (k + 1) (⟨by omega, a25 (by omega) hp.2 (by assumption)⟩) (by omega) [0] (by have e1 : (bR8 lbS (bP6 (k + 1) t) : List Int) = (bR8 lbS (bP6 k t) ++ ([I5 ((b5 t).data.toList.getD k 0) [76, 72, 85, 88] 0] ++ [])) := ((bf5 (by omega)).symm); (first | rw [e1] | simp only [e1]) <;> rfl)
  refine wp_seq (H8 G m0 (aM7 t [(4, .ref 0), (6, iA (I5 ((b5 t).data.toList.getD k 0) [76, 72, 85, 88] 0)), (8, iA ((b5 t).size : Int)), (9, iA k)]) fun G => b0 (wp_ret (n8 (E6 (n8 (n8 (E6 (n8 ?_)))))))); obtain ⟨ρ, G⟩ := G.nil 1 3 (.ints []) 1 [.row 3 (D.ints (bR8 lbS (bP6 k t)))] [(0, .v (.string (b5 t))), (2, .ref 1), (3, bA false), (4, .ref 0), (6, iA (I5 ((b5 t).data.toList.getD k 0) [76, 72, 85, 88] 0)), (8, iA ((b5 t).size : Int)), (9, iA k)]; exact K2 (.tup [.ref 1, bA false]) G [1] (by have e1 : ((K7 t).snd : Bool) = (false) := (by rw [aJ1 (k := k) (by omega) (by assumption)]); (first | rw [e1] | simp only [e1]) <;> rfl) (by show _ = mR [1] [.row 3 (D.ints (K7 t).fst)]; have e1 : ((K7 t).fst : List Int) = ([]) := (by rw [aJ1 (k := k) (by omega) (by assumption)]); (first | rw [e1] | simp only [e1]) <;> rfl)
abbrev ag3 : AV := .v (.string (ByteArray.mk #[]))
abbrev bt1 (ss : List b7) (k : Nat) : AV := .v (.string (b5 (f9 (bP6 k ss))))
abbrev au5 (ss : List b7) (k : Nat) (r0 : List (Nat × AV)) : List (Nat × AV) := (0, .ref 0) :: (2, ag3) :: (3, bt1 ss k) :: (4, iA (k : Int)) :: r0
theorem a71 (nv na d : Nat) (hnv : nv <= 12) (hna : na <= 2) (ih : ∀ (ss : List b7), (∀ s ∈ ss, m8 nv na d s = true) -> T6 ss <= 60 -> r7.ok Tryz.prog (N8 32 [.ref 0] [dT ss] (tA (f9 ss)))) (ss : List b7) (h : ∀ s ∈ ss, m8 nv na (d + 1) s = true) (hn : T6 ss <= 60) : r7.ok Tryz.prog (N8 32 [.ref 0] [dT ss] (tA (f9 ss))) := by
  have hl0 := aX8 ss
  have he := fun e h => bl9 nv na hnv hna e h
  refine M7 97 Tryz.func32 [dT ss] [(0, .ref 0)] fun G => ?_; refine wp_seq (o0 G m0 [(2, ag3)] fun G => b0 (wp_seq (o0 G m0 [(3, ag3)] fun G => b0 (wp_seq (wp_seq (H8 G m0 [(0, .ref 0), (2, ag3), (3, ag3), (4, iA 0)] fun G => b0 (wp_block ?_))))))); refine G5 (κ := Nat) (fun k => k <= ss.length) (fun k => ss.length - k) (fun k => [dT ss]) (fun k => [(0, .ref 0), (2, .v (.string (ByteArray.mk #[]))), (3, .v (.string (b5 (f9 (ss.take k))))), (4, iA k)]) 0 (by omega) (C2.at G _ _) ?_; clear G; intro k ρ a w hp G; replace G := C2.at G [dT ss] (au5 ss k []); have ht := bc7 h k; refine wp_seq (wp_seq (H8 G m0 (au5 ss k [(9, bA (decide ((k : Int) < ss.length)))]) fun G => b0 ?_)); cases h0 : (decide ((k : Int) < ss.length))
  · have q0 := R5 h0; refine rF G _ h0 (wp_exit (z7 (z7 (y9 (b0 (wp_seq (o0 G m0 [(2, bt1 ss k)] fun G => b0 (wp_ret ?_)))))))); exact K2 (.v (.string (b5 (f9 (bP6 k ss))))) G [0] (by show _ = AV.ren (nth [0]) (.v (.string (b5 (f9 ss)))); have e1 : (b5 (f9 ss) : ByteArray) = (b5 (f9 (bP6 k ss))) := (by rw [bQ3 (by omega)]); (first | rw [e1] | simp only [e1]) <;> rfl)
  have q0 := R4 h0; have hb := bt9 h (show k < ss.length by omega); have b1 := bv1 (ss := ss) (show k < ss.length by omega); have b2 := Z7 (ss.getD k bP0); refine rT G _ h0 (wp_skip (b0 (wp_seq (wp_block (wp_seq (K9 G m0 [0, 25, 26, 27, 28, 33] [dT ss, dE (ss.getD k bP0).index.kids, dE (ss.getD k bP0).value.kids, dT (ss.getD k bP0).body, dT (ss.getD k bP0).els, .box (sL (ss.getD k bP0) 1)] (au5 ss k [(5, .ptr 5 0)]) (iX k k ss.length []) (iK (by omega) bP7) fun G => b0 (wp_seq (o0 G m0 [(17, iA (ss.getD k bP0).kind)] fun G => b0 (wp_block (wp_seq (H8 G m0 (au5 ss k [(5, .ptr 5 0), (17, iA (ss.getD k bP0).kind), (30, bA ((ss.getD k bP0).kind == 1))]) fun G => b0 ?_))))))))))); cases h1 : ((ss.getD k bP0).kind == 1)
  ·
   have q1 := ne_of_beq_false h1; refine rF G _ h1 (wp_seq (H8 G m0 (au5 ss k [(5, .ptr 5 0), (17, iA (ss.getD k bP0).kind), (43, bA ((ss.getD k bP0).kind == 5))]) fun G => b0 ?_)); cases h2 : ((ss.getD k bP0).kind == 5)
   ·
    have q2 := ne_of_beq_false h2; refine rF G _ h2 (wp_seq (H8 G m0 (au5 ss k [(5, .ptr 5 0), (17, iA (ss.getD k bP0).kind), (56, bA ((ss.getD k bP0).kind == 2))]) fun G => b0 ?_)); cases h3 : ((ss.getD k bP0).kind == 2)
    ·
     have q3 := ne_of_beq_false h3; refine rF G _ h3 (wp_seq (H8 G m0 (au5 ss k [(5, .ptr 5 0), (77, bA ((ss.getD k bP0).kind == 3))]) fun G => b0 ?_)); cases h4 : ((ss.getD k bP0).kind == 3)
     · have q4 := ne_of_beq_false h4; have c5 := bE2 hb (by omega) (by omega) (by omega) (by omega); have c3 := G7 nv na d _ (ar0 hb); have l5 := af3 (n := (ss.getD k bP0).count.toNat) (by omega); refine rF G _ h4 (I4 G (E3 (v6 4 [] (bm0 ((ss.getD k bP0).count) (by omega) (by omega)) (v6 9 [3] (ih ((ss.getD k bP0).body) (ar0 hb) (by omega)) E2)) fz []) [0, 1, 0, 4, 12, 31, 63, 0, 128, 412, 1023, 2047, 4095] [0] [dT ss] [(0, .ref 0), (2, ag3), (3, .v (.string (b5 (f9 (bP6 k ss)) ++ ByteArray.mk #[114, 101, 112, 101, 97, 116] ++ b5 (Lib.decDigits (ss.getD k bP0).count.toNat) ++ ByteArray.mk #[123] ++ b5 (f9 (ss.getD k bP0).body) ++ ByteArray.mk #[125]))), (4, iA k)] [(↑((b5 (f9 (bP6 k ss))).size + (ByteArray.mk #[(114 : UInt8), (101 : UInt8), (112 : UInt8), (101 : UInt8), (97 : UInt8), (116 : UInt8)]).size) : Int) <= 9223372036854775807, (↑((b5 (f9 (bP6 k ss)) ++ ByteArray.mk #[(114 : UInt8), (101 : UInt8), (112 : UInt8), (101 : UInt8), (97 : UInt8), (116 : UInt8)]).size + (b5 (Lib.decDigits (ss.getD k bP0).count.toNat)).size) : Int) <= 9223372036854775807, (↑((b5 (f9 (bP6 k ss)) ++ ByteArray.mk #[(114 : UInt8), (101 : UInt8), (112 : UInt8), (101 : UInt8), (97 : UInt8), (116 : UInt8)] ++ b5 (Lib.decDigits (ss.getD k bP0).count.toNat)).size + (ByteArray.mk #[(123 : UInt8)]).size) : Int) <= 9223372036854775807, (↑((b5 (f9 (bP6 k ss)) ++ ByteArray.mk #[(114 : UInt8), (101 : UInt8), (112 : UInt8), (101 : UInt8), (97 : UInt8), (116 : UInt8)] ++ b5 (Lib.decDigits (ss.getD k bP0).count.toNat) ++ ByteArray.mk #[(123 : UInt8)]).size + (b5 (f9 (ss.getD k bP0).body)).size) : Int) <= 9223372036854775807, (↑((b5 (f9 (bP6 k ss)) ++ ByteArray.mk #[(114 : UInt8), (101 : UInt8), (112 : UInt8), (101 : UInt8), (97 : UInt8), (116 : UInt8)] ++ b5 (Lib.decDigits (ss.getD k bP0).count.toNat) ++ ByteArray.mk #[(123 : UInt8)] ++ b5 (f9 (ss.getD k bP0).body)).size + (ByteArray.mk #[(125 : UInt8)]).size) : Int) <= 9223372036854775807] ⟨(by simp only [ByteArray.size_append, ByteArray.size_extract, l8, m5, bP4, bO9, bP2]; omega), (by simp only [ByteArray.size_append, ByteArray.size_extract, l8, m5, bP4, bO9, bP2]; omega), (by simp only [ByteArray.size_append, ByteArray.size_extract, l8, m5, bP4, bO9, bP2]; omega), (by simp only [ByteArray.size_append, ByteArray.size_extract, l8, m5, bP4, bO9, bP2]; omega), (by simp only [ByteArray.size_append, ByteArray.size_extract, l8, m5, bP4, bO9, bP2]; omega), bP7⟩ fun G => B9 (B9 (b0 (L0 G m0 [(4, iA ((k : Int) + 1))] [wO ((k : Int) + 1)] (o1 (by omega)) fun G => b0 ?_)))); exact rxn G (k + 1) (by omega) (by omega) [0] (ht := by have e1 : (b5 (f9 (bP6 (k + 1) ss)) : ByteArray) = (b5 (f9 (bP6 k ss)) ++ ByteArray.mk #[114, 101, 112, 101, 97, 116] ++ b5 (Lib.decDigits (ss.getD k bP0).count.toNat) ++ ByteArray.mk #[123] ++ b5 (f9 (ss.getD k bP0).body) ++ ByteArray.mk #[125]) := (by have h9 : (ss.getD k bP0).kind = 4 := (by omega) ; exact (bM6 (by omega) h9).symm); (first | rw [e1] | simp only [e1]) <;> rfl)
     have q4 := eq_of_beq h4; have c3 := G7 nv na d _ (ar0 hb); have c4 := G7 nv na d _ (a13 hb); have l1 := G8 (K6 hb (by omega)); refine rT G _ h4 (I4 G (E3 (v6 4 [2] (he ((ss.getD k bP0).value) (K6 hb (by omega))) (v6 9 [3] (ih ((ss.getD k bP0).body) (ar0 hb) (by omega)) (v6 14 [4] (ih ((ss.getD k bP0).els) (a13 hb) (by omega)) E2))) fz []) [0, 1, 0, 4, 12, 31, 63, 0, 128, 412, 1023, 2047, 0, 4096, 13212, 32767, 65535, 131071] [0] [dT ss] [(0, .ref 0), (2, ag3), (3, .v (.string (b5 (f9 (bP6 k ss)) ++ ByteArray.mk #[105, 102] ++ b5 (k6 (ss.getD k bP0).value) ++ ByteArray.mk #[123] ++ b5 (f9 (ss.getD k bP0).body) ++ ByteArray.mk #[125, 123] ++ b5 (f9 (ss.getD k bP0).els) ++ ByteArray.mk #[125]))), (4, iA k)] [(↑((b5 (f9 (bP6 k ss))).size + (ByteArray.mk #[(105 : UInt8), (102 : UInt8)]).size) : Int) <= 9223372036854775807, (↑((b5 (f9 (bP6 k ss)) ++ ByteArray.mk #[(105 : UInt8), (102 : UInt8)]).size + (b5 (k6 (ss.getD k bP0).value)).size) : Int) <= 9223372036854775807, (↑((b5 (f9 (bP6 k ss)) ++ ByteArray.mk #[(105 : UInt8), (102 : UInt8)] ++ b5 (k6 (ss.getD k bP0).value)).size + (ByteArray.mk #[(123 : UInt8)]).size) : Int) <= 9223372036854775807, (↑((b5 (f9 (bP6 k ss)) ++ ByteArray.mk #[(105 : UInt8), (102 : UInt8)] ++ b5 (k6 (ss.getD k bP0).value) ++ ByteArray.mk #[(123 : UInt8)]).size + (b5 (f9 (ss.getD k bP0).body)).size) : Int) <= 9223372036854775807, (↑((b5 (f9 (bP6 k ss)) ++ ByteArray.mk #[(105 : UInt8), (102 : UInt8)] ++ b5 (k6 (ss.getD k bP0).value) ++ ByteArray.mk #[(123 : UInt8)] ++ b5 (f9 (ss.getD k bP0).body)).size + (ByteArray.mk #[(125 : UInt8), (123 : UInt8)]).size) : Int) <= 9223372036854775807, (↑((b5 (f9 (bP6 k ss)) ++ ByteArray.mk #[(105 : UInt8), (102 : UInt8)] ++ b5 (k6 (ss.getD k bP0).value) ++ ByteArray.mk #[(123 : UInt8)] ++ b5 (f9 (ss.getD k bP0).body) ++ ByteArray.mk #[(125 : UInt8), (123 : UInt8)]).size + (b5 (f9 (ss.getD k bP0).els)).size) : Int) <= 9223372036854775807, (↑((b5 (f9 (bP6 k ss)) ++ ByteArray.mk #[(105 : UInt8), (102 : UInt8)] ++ b5 (k6 (ss.getD k bP0).value) ++ ByteArray.mk #[(123 : UInt8)] ++ b5 (f9 (ss.getD k bP0).body) ++ ByteArray.mk #[(125 : UInt8), (123 : UInt8)] ++ b5 (f9 (ss.getD k bP0).els)).size + (ByteArray.mk #[(125 : UInt8)]).size) : Int) <= 9223372036854775807] ⟨(by simp only [ByteArray.size_append, ByteArray.size_extract, l8, m5, bP4, bO9, bP2]; omega), (by simp only [ByteArray.size_append, ByteArray.size_extract, l8, m5, bP4, bO9, bP2]; omega), (by simp only [ByteArray.size_append, ByteArray.size_extract, l8, m5, bP4, bO9, bP2]; omega), (by simp only [ByteArray.size_append, ByteArray.size_extract, l8, m5, bP4, bO9, bP2]; omega), (by simp only [ByteArray.size_append, ByteArray.size_extract, l8, m5, bP4, bO9, bP2]; omega), (by simp only [ByteArray.size_append, ByteArray.size_extract, l8, m5, bP4, bO9, bP2]; omega), (by simp only [ByteArray.size_append, ByteArray.size_extract, l8, m5, bP4, bO9, bP2]; omega), bP7⟩ fun G => B9 (B9 (b0 (L0 G m0 [(4, iA ((k : Int) + 1))] [wO ((k : Int) + 1)] (o1 (by omega)) fun G => ?_))))
     refine b0 ?_; exact rxn G (k + 1) (by omega) (by omega) [0] (ht := by have e1 : (b5 (f9 (bP6 (k + 1) ss)) : ByteArray) = (b5 (f9 (bP6 k ss)) ++ ByteArray.mk #[105, 102] ++ b5 (k6 (ss.getD k bP0).value) ++ ByteArray.mk #[123] ++ b5 (f9 (ss.getD k bP0).body) ++ ByteArray.mk #[125, 123] ++ b5 (f9 (ss.getD k bP0).els) ++ ByteArray.mk #[125]) := (by have h9 : (ss.getD k bP0).kind = 3 := (by omega) ; exact (bM7 (by omega) h9).symm); (first | rw [e1] | simp only [e1]) <;> rfl)
    have q3 := eq_of_beq h3; have c2 := bt8 hb (by omega); have l1 := G8 (K6 hb (by omega)); have l2 := G8 (a12 hb (by omega)); refine rT G _ h3 (I4 G (E3 (v6 11 [1] (he ((ss.getD k bP0).index) (a12 hb (by omega))) (v6 16 [2] (he ((ss.getD k bP0).value) (K6 hb (by omega))) E2)) fz []) [0, 0, 2, 0, 8, 24, 62, 127, 255, 0, 512, 1536, 4095, 8191, 0, 16384, 52736, 131071, 262143, 524287] [0] [dT ss] [(0, .ref 0), (2, ag3), (3, .v (.string (b5 (f9 (bP6 k ss)) ++ (ByteArray.mk #[80, 81]).extract (ss.getD k bP0).target.toNat ((ss.getD k bP0).target + 1).toNat ++ ByteArray.mk #[91] ++ b5 (k6 (ss.getD k bP0).index) ++ ByteArray.mk #[93, 58, 61] ++ b5 (k6 (ss.getD k bP0).value) ++ ByteArray.mk #[59]))), (4, iA k)] [wO ((ss.getD k bP0).target + 1), (0 : Int) <= (ss.getD k bP0).target, (ss.getD k bP0).target <= (ss.getD k bP0).target + 1, (ss.getD k bP0).target + 1 <= ((ByteArray.mk #[(80 : UInt8), (81 : UInt8)]).size : Int), (↑((b5 (f9 (bP6 k ss))).size + ((ByteArray.mk #[(80 : UInt8), (81 : UInt8)]).extract (ss.getD k bP0).target.toNat ((ss.getD k bP0).target + 1).toNat).size) : Int) <= 9223372036854775807, (↑((b5 (f9 (bP6 k ss)) ++ (ByteArray.mk #[(80 : UInt8), (81 : UInt8)]).extract (ss.getD k bP0).target.toNat ((ss.getD k bP0).target + 1).toNat).size + (ByteArray.mk #[(91 : UInt8)]).size) : Int) <= 9223372036854775807, (↑((b5 (f9 (bP6 k ss)) ++ (ByteArray.mk #[(80 : UInt8), (81 : UInt8)]).extract (ss.getD k bP0).target.toNat ((ss.getD k bP0).target + 1).toNat ++ ByteArray.mk #[(91 : UInt8)]).size + (b5 (k6 (ss.getD k bP0).index)).size) : Int) <= 9223372036854775807, (↑((b5 (f9 (bP6 k ss)) ++ (ByteArray.mk #[(80 : UInt8), (81 : UInt8)]).extract (ss.getD k bP0).target.toNat ((ss.getD k bP0).target + 1).toNat ++ ByteArray.mk #[(91 : UInt8)] ++ b5 (k6 (ss.getD k bP0).index)).size + (ByteArray.mk #[(93 : UInt8), (58 : UInt8), (61 : UInt8)]).size) : Int) <= 9223372036854775807, (↑((b5 (f9 (bP6 k ss)) ++ (ByteArray.mk #[(80 : UInt8), (81 : UInt8)]).extract (ss.getD k bP0).target.toNat ((ss.getD k bP0).target + 1).toNat ++ ByteArray.mk #[(91 : UInt8)] ++ b5 (k6 (ss.getD k bP0).index) ++ ByteArray.mk #[(93 : UInt8), (58 : UInt8), (61 : UInt8)]).size + (b5 (k6 (ss.getD k bP0).value)).size) : Int) <= 9223372036854775807, (↑((b5 (f9 (bP6 k ss)) ++ (ByteArray.mk #[(80 : UInt8), (81 : UInt8)]).extract (ss.getD k bP0).target.toNat ((ss.getD k bP0).target + 1).toNat ++ ByteArray.mk #[(91 : UInt8)] ++ b5 (k6 (ss.getD k bP0).index) ++ ByteArray.mk #[(93 : UInt8), (58 : UInt8), (61 : UInt8)] ++ b5 (k6 (ss.getD k bP0).value)).size + (ByteArray.mk #[(59 : UInt8)]).size) : Int) <= 9223372036854775807] ⟨oW (by omega), (by omega), (by omega), (by simp only [ByteArray.size_append, ByteArray.size_extract, l8, m5, bP4, bO9, bP2]; omega), (by simp only [ByteArray.size_append, ByteArray.size_extract, l8, m5, bP4, bO9, bP2]; omega), (by simp only [ByteArray.size_append, ByteArray.size_extract, l8, m5, bP4, bO9, bP2]; omega), (by simp only [ByteArray.size_append, ByteArray.size_extract, l8, m5, bP4, bO9, bP2]; omega), (by simp only [ByteArray.size_append, ByteArray.size_extract, l8, m5, bP4, bO9, bP2]; omega), (by simp only [ByteArray.size_append, ByteArray.size_extract, l8, m5, bP4, bO9, bP2]; omega), (by simp only [ByteArray.size_append, ByteArray.size_extract, l8, m5, bP4, bO9, bP2]; omega), bP7⟩ fun G => ?_)
    refine B9 (B9 (b0 (L0 G m0 [(4, iA ((k : Int) + 1))] [wO ((k : Int) + 1)] (o1 (by omega)) fun G => b0 ?_))); exact rxn G (k + 1) (by omega) (by omega) [0] (ht := by have e1 : (b5 (f9 (bP6 (k + 1) ss)) : ByteArray) = (b5 (f9 (bP6 k ss)) ++ (ByteArray.mk #[80, 81]).extract (ss.getD k bP0).target.toNat ((ss.getD k bP0).target + 1).toNat ++ ByteArray.mk #[91] ++ b5 (k6 (ss.getD k bP0).index) ++ ByteArray.mk #[93, 58, 61] ++ b5 (k6 (ss.getD k bP0).value) ++ ByteArray.mk #[59]) := (by have h9 : (ss.getD k bP0).kind = 2 := (by omega) ; exact (bM8 (by omega) h9 (by omega) (by omega)).symm); (first | rw [e1] | simp only [e1]) <;> rfl)
   have q2 := eq_of_beq h2; have c1 := a11 hb (by omega); have l1 := G8 (K6 hb (by omega)); refine rT G _ h2 (I4 G (E3 (v6 3 [] (a58 ((ss.getD k bP0).target) (by omega) (by omega)) (v6 8 [2] (he ((ss.getD k bP0).value) (K6 hb (by omega))) E2)) fz []) [0, 0, 2, 6, 15, 31, 0, 64, 206, 511, 1023, 2047] [0] [dT ss] [(0, .ref 0), (2, ag3), (3, .v (.string (b5 (f9 (bP6 k ss)) ++ b5 [UInt8.ofNat (97 + (ss.getD k bP0).target.toNat)] ++ ByteArray.mk #[33, 61] ++ b5 (k6 (ss.getD k bP0).value) ++ ByteArray.mk #[59]))), (4, iA k)] [(↑((b5 (f9 (bP6 k ss))).size + (b5 [UInt8.ofNat ((97 : Nat) + (ss.getD k bP0).target.toNat)]).size) : Int) <= 9223372036854775807, (↑((b5 (f9 (bP6 k ss)) ++ b5 [UInt8.ofNat ((97 : Nat) + (ss.getD k bP0).target.toNat)]).size + (ByteArray.mk #[(33 : UInt8), (61 : UInt8)]).size) : Int) <= 9223372036854775807, (↑((b5 (f9 (bP6 k ss)) ++ b5 [UInt8.ofNat ((97 : Nat) + (ss.getD k bP0).target.toNat)] ++ ByteArray.mk #[(33 : UInt8), (61 : UInt8)]).size + (b5 (k6 (ss.getD k bP0).value)).size) : Int) <= 9223372036854775807, (↑((b5 (f9 (bP6 k ss)) ++ b5 [UInt8.ofNat ((97 : Nat) + (ss.getD k bP0).target.toNat)] ++ ByteArray.mk #[(33 : UInt8), (61 : UInt8)] ++ b5 (k6 (ss.getD k bP0).value)).size + (ByteArray.mk #[(59 : UInt8)]).size) : Int) <= 9223372036854775807] ⟨(by simp only [ByteArray.size_append, ByteArray.size_extract, l8, m5, bP4, bO9, bP2]; omega), (by simp only [ByteArray.size_append, ByteArray.size_extract, l8, m5, bP4, bO9, bP2]; omega), (by simp only [ByteArray.size_append, ByteArray.size_extract, l8, m5, bP4, bO9, bP2]; omega), (by simp only [ByteArray.size_append, ByteArray.size_extract, l8, m5, bP4, bO9, bP2]; omega), bP7⟩ fun G => B9 (B9 (b0 (L0 G m0 [(4, iA ((k : Int) + 1))] [wO ((k : Int) + 1)] (o1 (by omega)) fun G => b0 ?_)))); exact rxn G (k + 1) (by omega) (by omega) [0] (ht := by have e1 : (b5 (f9 (bP6 (k + 1) ss)) : ByteArray) = (b5 (f9 (bP6 k ss)) ++ b5 [UInt8.ofNat (97 + (ss.getD k bP0).target.toNat)] ++ ByteArray.mk #[33, 61] ++ b5 (k6 (ss.getD k bP0).value) ++ ByteArray.mk #[59]) := (by have h9 : (ss.getD k bP0).kind = 5 := (by omega) ; exact (bM5 (by omega) h9).symm); (first | rw [e1] | simp only [e1]) <;> rfl)
  have q1 := eq_of_beq h1; have c1 := a11 hb (by omega); have l1 := G8 (K6 hb (by omega)); refine rT G _ h1 (I4 G (E3 (v6 3 [] (a58 ((ss.getD k bP0).target) (by omega) (by omega)) (v6 8 [2] (he ((ss.getD k bP0).value) (K6 hb (by omega))) E2)) fz []) [0, 0, 2, 6, 15, 31, 0, 64, 206, 511, 1023, 2047] [0] [dT ss] [(0, .ref 0), (2, ag3), (3, .v (.string (b5 (f9 (bP6 k ss)) ++ b5 [UInt8.ofNat (97 + (ss.getD k bP0).target.toNat)] ++ ByteArray.mk #[58, 61] ++ b5 (k6 (ss.getD k bP0).value) ++ ByteArray.mk #[59]))), (4, iA k)] [(↑((b5 (f9 (bP6 k ss))).size + (b5 [UInt8.ofNat ((97 : Nat) + (ss.getD k bP0).target.toNat)]).size) : Int) <= 9223372036854775807, (↑((b5 (f9 (bP6 k ss)) ++ b5 [UInt8.ofNat ((97 : Nat) + (ss.getD k bP0).target.toNat)]).size + (ByteArray.mk #[(58 : UInt8), (61 : UInt8)]).size) : Int) <= 9223372036854775807, (↑((b5 (f9 (bP6 k ss)) ++ b5 [UInt8.ofNat ((97 : Nat) + (ss.getD k bP0).target.toNat)] ++ ByteArray.mk #[(58 : UInt8), (61 : UInt8)]).size + (b5 (k6 (ss.getD k bP0).value)).size) : Int) <= 9223372036854775807, (↑((b5 (f9 (bP6 k ss)) ++ b5 [UInt8.ofNat ((97 : Nat) + (ss.getD k bP0).target.toNat)] ++ ByteArray.mk #[(58 : UInt8), (61 : UInt8)] ++ b5 (k6 (ss.getD k bP0).value)).size + (ByteArray.mk #[(59 : UInt8)]).size) : Int) <= 9223372036854775807] ⟨(by simp only [ByteArray.size_append, ByteArray.size_extract, l8, m5, bP4, bO9, bP2]; omega), (by simp only [ByteArray.size_append, ByteArray.size_extract, l8, m5, bP4, bO9, bP2]; omega), (by simp only [ByteArray.size_append, ByteArray.size_extract, l8, m5, bP4, bO9, bP2]; omega), (by simp only [ByteArray.size_append, ByteArray.size_extract, l8, m5, bP4, bO9, bP2]; omega), bP7⟩ fun G => B9 (B9 (b0 (L0 G m0 [(4, iA ((k : Int) + 1))] [wO ((k : Int) + 1)] (o1 (by omega)) fun G => b0 ?_)))); exact rxn G (k + 1) (by omega) (by omega) [0] (ht := by have e1 : (b5 (f9 (bP6 (k + 1) ss)) : ByteArray) = (b5 (f9 (bP6 k ss)) ++ b5 [UInt8.ofNat (97 + (ss.getD k bP0).target.toNat)] ++ ByteArray.mk #[58, 61] ++ b5 (k6 (ss.getD k bP0).value) ++ ByteArray.mk #[59]) := (by have h9 : (ss.getD k bP0).kind = 1 := (by omega) ; exact (bM9 (by omega) h9).symm); (first | rw [e1] | simp only [e1]) <;> rfl)
theorem J0 (e : b9) : r7.ok Tryz.prog ⟨100, [.agg [.v (.int .i64 e.kind), .v (.int .i64 e.value), .ref 0]], [.dat (.exprs e.kids)], [.dat (.exprs e.kids)], .v (.bool (noneB e))⟩ := by
  refine M7 17 Tryz.func100 [dE e.kids] [(0, eA e 0)] fun G => ?_; refine wp_seq (r8 G m0 [0, 1] [dE e.kids, .box (eL e 0)] [(1, .ptr 1 0), (2, bA false)] fun G => b0 (wp_seq ?_)); cases h0 : (e.kind == 0)
  · have q0 := ne_of_beq_false h0; refine r8 G (D7 (fc h0 (fc (b := false) rfl fz)) (us [(4, 6, 0), (1007, 1007, 0), (9, 12, 1), (1013, 1013, 1)])) [0] [dE e.kids] [(2, bA false)] fun G => b0 (wp_ret ?_); exact E1 false G [0] (by rw [bR9]; simp [noneB, h0, q0]; done)
  have q0 := eq_of_beq h0; cases h1 : (e.value == 0)
  · have q1 := ne_of_beq_false h1; refine r8 G (D7 (fc h0 (fc h1 fz)) (us [(4, 6, 0), (1007, 1007, 0), (9, 12, 1), (1013, 1013, 1)])) [0] [dE e.kids] [(2, bA false)] fun G => b0 (wp_ret ?_); exact E1 false G [0] (by rw [bR9]; simp [noneB, h0, q0, h1, q1]; done)
  have q1 := eq_of_beq h1; refine r8 G (D7 (fc h0 (fc h1 fz)) (us [(4, 6, 0), (1007, 1007, 0), (9, 12, 1), (1013, 1013, 1)])) [0] [dE e.kids] [(2, bA ((e.kids.length : Int) == 0))] fun G => b0 (wp_ret ?_); exact E1 ((e.kids.length : Int) == 0) G [0] (by rw [bR9]; simp [noneB, h0, q0, h1, q1]; done)
theorem ad9 (e : b9) : r7.ok Tryz.prog ⟨120, [.agg [.v (.int .i64 e.kind), .v (.int .i64 e.value), .ref 0]], [.dat (.exprs e.kids)], [.dat (.exprs e.kids)], .v (.bool (noneB e))⟩ := by
  refine M7 17 Tryz.func120 [dE e.kids] [(0, eA e 0)] fun G => ?_; refine wp_seq (r8 G m0 [0, 1] [dE e.kids, .box (eL e 0)] [(1, .ptr 1 0), (2, bA false)] fun G => b0 (wp_seq ?_)); cases h0 : (e.kind == 0)
  · have q0 := ne_of_beq_false h0; refine r8 G (D7 (fc h0 (fc (b := false) rfl fz)) (us [(4, 6, 0), (1007, 1007, 0), (9, 12, 1), (1013, 1013, 1)])) [0] [dE e.kids] [(2, bA false)] fun G => b0 (wp_ret ?_); exact E1 false G [0] (by rw [bR9]; simp [noneB, h0, q0]; done)
  have q0 := eq_of_beq h0; cases h1 : (e.value == 0)
  · have q1 := ne_of_beq_false h1; refine r8 G (D7 (fc h0 (fc h1 fz)) (us [(4, 6, 0), (1007, 1007, 0), (9, 12, 1), (1013, 1013, 1)])) [0] [dE e.kids] [(2, bA false)] fun G => b0 (wp_ret ?_); exact E1 false G [0] (by rw [bR9]; simp [noneB, h0, q0, h1, q1]; done)
  have q1 := eq_of_beq h1; refine r8 G (D7 (fc h0 (fc h1 fz)) (us [(4, 6, 0), (1007, 1007, 0), (9, 12, 1), (1013, 1013, 1)])) [0] [dE e.kids] [(2, bA ((e.kids.length : Int) == 0))] fun G => b0 (wp_ret ?_); exact E1 ((e.kids.length : Int) == 0) G [0] (by rw [bR9]; simp [noneB, h0, q0, h1, q1]; done)
theorem ap6 (k : Int) : r7.ok Tryz.prog ⟨136, [.v (.int .i64 k)], [], [], .v (.int .i64 (s7 k))⟩ := by
  refine M7 23 Tryz.func136 [] [(0, iA k)] fun G => ?_; refine wp_seq (o0 G m0 [(2, iA 0)] fun G => b0 (wp_seq (wp_block (wp_seq ?_)))); cases h0 : (k == 1)
  ·
   have q0 := ne_of_beq_false h0; refine o0 G (D7 (fc h0 fz) [(3, 0), (4, 0), (1005, 0)]) [(3, bA (k == 2))] fun G => b0 (rcE G (fun h1 q1 => ?_) fun h1 q1 => ?_)
   ·
    refine wp_seq (o0 G m0 [(10, bA (k == 3))] fun G => b0 (rcE G (fun h2 q2 => ?_) fun h2 q2 => ?_))
    ·
     refine wp_seq ?_; cases h3 : (decide (k >= 4))
     ·
      have q3 := R5 h3; refine o0 G (D7 (fc h3 fz) [(3, 0), (4, 0), (1005, 0)]) [(13, bA false)] fun G => b0 (rF G false (by kernel_rfl) (wp_seq (H8 G m0 [(2, iA 0), (20, bA (k == 11))] fun G => b0 ?_))); cases h4 : (k == 11)
      · have q4 := ne_of_beq_false h4; refine rF G _ h4 (wp_skip (B9 (b0 (wp_seq (o0 G m0 [(2, iA (-1))] fun G => b0 (wp_ret ?_)))))); exact rxI (-1) G [] (by unfold s7; (repeat' split) <;> omega)
      have q4 := eq_of_beq h4; exact False.elim (by omega)
     have q3 := R4 h3; refine o0 G (D7 (fc h3 fz) [(3, 0), (4, 0), (1005, 0)]) [(13, bA (decide (k <= 10)))] fun G => b0 (rcD G (fun h5 q5 => ?_) fun h5 q5 => ?_)
     ·
      refine wp_seq (o0 G m0 [(20, bA (k == 11))] fun G => b0 (rcE G (fun h6 q6 => ?_) fun h6 q6 => ?_))
      · refine wp_skip (B9 (b0 (wp_seq (o0 G m0 [(2, iA (-1))] fun G => b0 (wp_ret ?_))))); exact rxI (-1) G [] (by unfold s7; (repeat' split) <;> omega)
      refine wp_seq (o0 G m0 [(2, iA 3)] fun G => b0 (wp_ret (E6 (n8 ?_)))); exact rxI 3 G [] (by unfold s7; (repeat' split) <;> omega)
     refine wp_seq (o0 G m0 [(2, iA 2)] fun G => b0 (wp_ret (E6 (n8 ?_)))); exact rxI 2 G [] (by unfold s7; (repeat' split) <;> omega)
    refine wp_seq (o0 G m0 [(2, iA 1)] fun G => b0 (wp_ret (E6 (n8 ?_)))); exact rxI 1 G [] (by unfold s7; (repeat' split) <;> omega)
   refine wp_seq (o0 G m0 [] fun G => b0 (wp_ret (E6 (n8 ?_)))); exact rxI 0 G [] (by unfold s7; (repeat' split) <;> omega)
  have q0 := eq_of_beq h0; refine o0 G (D7 (fc h0 fz) [(3, 0), (4, 0), (1005, 0)]) [(3, bA true)] fun G => b0 (rT G true (by kernel_rfl) (wp_seq (o0 G m0 [] fun G => b0 (wp_ret (E6 (n8 ?_)))))); exact rxI 0 G [] (by unfold s7; (repeat' split) <;> omega)
theorem aA4 (e : b9) : r7.ok Tryz.prog ⟨103, [.agg [.v (.int .i64 e.kind), .v (.int .i64 e.value), .ref 0]], [.dat (.exprs e.kids)], [.dat (.exprs e.kids)], .v (.bool (J9 e))⟩ := by
 refine M7 11 Tryz.func103 [dE e.kids] [(0, eA e 0)] fun G => ?_; refine wp_seq (r8 G m0 [0, 1] [dE e.kids, .box (eL e 0)] [(1, .ptr 1 0), (2, bA false)] fun G => b0 (wp_seq ?_)); cases h0 : (e.kind == 1)
 ·have q0 := ne_of_beq_false h0; refine r8 G (D7 (fc h0 fz) [(4, 0), (5, 0), (6, 0), (1007, 0)]) [0] [dE e.kids] [(2, bA (e.kind == 2))] fun G => b0 (wp_ret ?_); exact E1 (e.kind == 2) G [0] (by rw [bR9]; simp [J9, h0, q0]; done)
 have q0 := eq_of_beq h0; refine r8 G (D7 (fc h0 fz) [(4, 0), (5, 0), (6, 0), (1007, 0)]) [0] [dE e.kids] [(2, bA true)] fun G => b0 (wp_ret ?_); exact E1 true G [0] (by rw [bR9]; simp [J9, h0, q0]; done)
theorem a95 (vs ars : List Int) (b : List b7) (k : Int) : r7.ok Tryz.prog ⟨137, [.agg [.ref 0, .ref 1, .ref 2], .v (.int .i64 k)], [.dat (.ints vs), .dat (.ints ars), .dat (.stmts b)], [.dat (.ints vs), .dat (.ints ars), .dat (.stmts b)], .v (.int .i64 (A8 vs.length ars.length k))⟩ := by
  refine M7 18 Tryz.func137 [dI vs, dI ars, dT b] [(0, pA 0), (1, iA k)] fun G => ?_; refine wp_seq (r8 G m0 (rg 4) [dI vs, dI ars, dT b, .box (pL 0)] [(1, iA k), (2, .ptr 3 0), (4, iA 0)] fun G => b0 (wp_seq (wp_seq (o0 G m0 [(5, iA k)] fun G => b0 (wp_block (wp_seq (o0 G m0 [(6, bA (k == 1))] fun G => b0 (rcE G (fun h0 q0 => ?_) fun h0 q0 => ?_))))))))
  ·
   refine wp_seq (o0 G m0 [(8, bA (k == 2))] fun G => b0 (rcE G (fun h1 q1 => ?_) fun h1 q1 => ?_))
   ·
    refine wp_seq (o0 G m0 [(13, bA (k == 3))] fun G => b0 (rcE G (fun h2 q2 => ?_) fun h2 q2 => ?_))
    · refine wp_skip (B9 (b0 (wp_seq (r8 G m0 [0, 1, 2] [dI vs, dI ars, dT b] [(4, iA 1)] fun G => b0 (wp_ret ?_))))); exact rxI 1 G [0, 1, 2] (by unfold A8; (repeat' split) <;> omega)
    refine wp_seq (r8 G m0 [0, 1, 2] [dI vs, dI ars, dT b] [(4, iA (ars.length : Int))] fun G => b0 (wp_ret (E6 (n8 ?_)))); exact rxI ((ars.length : Int)) G [0, 1, 2] (by unfold A8; (repeat' split) <;> omega)
   refine wp_seq (r8 G m0 [0, 1, 2] [dI vs, dI ars, dT b] [(4, iA (vs.length : Int))] fun G => b0 (wp_ret (E6 (n8 ?_)))); exact rxI ((vs.length : Int)) G [0, 1, 2] (by unfold A8; (repeat' split) <;> omega)
  refine wp_seq (r8 G m0 [0, 1, 2] [dI vs, dI ars, dT b] [(4, iA 256)] fun G => b0 (wp_ret (E6 (n8 ?_)))); exact rxI 256 G [0, 1, 2] (by unfold A8; (repeat' split) <;> omega)
theorem aU2 {α : Type} {l : List α} {k : Nat} {p : α -> Bool} {z : α} (h : (l.take k).all p = true) (hk : k < l.length) (hp : p (l.getD k z) = true) : (l.take (k + 1)).all p = true := by
 rw [X4 p l k hk, h, <- t7 (d := z) hk, hp]; rfl
theorem aB0 {α : Type} {l : List α} {k : Nat} {p : α -> Bool} (h : (l.take k).all p = true) (hk : l.length <= k) : l.all p = true := by
 rw [bQ3 hk] at h; exact h
section
variable {nv na d : Nat} {e : b9}
theorem bo1 (h : ¬ (e.kids.length : Int) = s7 e.kind) : m9 nv na (d + 1) e = false := by simp [m9, D2, h]
theorem bo0 (h : e.value < 0) : m9 nv na (d + 1) e = false := by
 have : ¬ 0 <= e.value := by omega
 simp [m9, D2, this]
theorem bn9 (h : A8 nv na e.kind <= e.value) : m9 nv na (d + 1) e = false := by
 have : ¬ e.value < A8 nv na e.kind := by omega
 simp [m9, D2, this]
theorem bn8 {k : Nat} {z : b9} (hk : k < e.kids.length) (h : m9 nv na d (e.kids.getD k z) = false) : m9 nv na (d + 1) e = false := by
 rw [t7 hk] at h
 have : e.kids.all (m9 nv na d) = false := at3 hk h
 simp [m9, this]
theorem aV6 (h1 : (e.kids.length : Int) = s7 e.kind) (h2 : ¬ e.value < 0) (h3 : ¬ A8 nv na e.kind <= e.value) : D2 nv na e = true := by
 unfold D2; rw [decide_eq_true h1, decide_eq_true (by omega), decide_eq_true (by omega)]; rfl
theorem bn7 (hn : D2 nv na e = true) (ha : e.kids.all (m9 nv na d) = true) (h : ¬ e.kind = 3) : m9 nv na (d + 1) e = true := by
 rw [m9, hn, ha]; simp [Y3, h]
theorem bn6 (hn : D2 nv na e = true) (ha : e.kids.all (m9 nv na d) = true) (h : e.kind = 3) (hl : 0 < e.kids.length) : m9 nv na (d + 1) e = J9 (e.kids.getD 0 bP0) := by
 rw [m9, hn, ha, aE9 h hl, t7 hl]; simp [J9]
theorem aG4 (h1 : (e.kids.length : Int) = s7 e.kind) (h : e.kind = 3) : 0 < e.kids.length := by
 rw [h] at h1; simp [s7] at h1; omega
end
theorem aZ2 (vs ars : List Int) (b : List b7) (e : b9) (n : Int) (hn : n = 0) : r7.ok Tryz.prog ⟨121, [.agg [.ref 0, .ref 1, .ref 2], .agg [.v (.int .i64 e.kind), .v (.int .i64 e.value), .ref 3], .v (.int .i64 n)], [.dat (.ints vs), .dat (.ints ars), .dat (.stmts b), .dat (.exprs e.kids)], [.dat (.ints vs), .dat (.ints ars), .dat (.stmts b), .dat (.exprs e.kids)], .v (.bool (m9 vs.length ars.length 0 e))⟩ := by
 have h100 : decide (n < 1) = true := by simp; omega
 refine M7 60 Tryz.func121 [dI vs, dI ars, dT b, dE e.kids] [(0, pA 0), (1, eA e 3), (2, iA n)] fun G => ?_; refine wp_seq (r8 G m0 [0, 1, 2, 3, 4, 12] [dI vs, dI ars, dT b, dE e.kids, .box (pL 0), .box (eL e 3)] [(2, iA n), (3, .ptr 4 0), (4, .ptr 5 0), (6, bA false)] fun G => b0 (wp_seq (wp_seq (bo7 G (D7 (fc (a := decide (n < 1)) (b := true) (by assumption) (fc (b := true) rfl fz)) (us [(3, 9, 0), (1010, 1010, 0), (12, 14, 1), (1015, 1015, 1), (17, 23, 1), (1024, 1024, 1)])) [0, 1, 3, 7, 15, 31, 7, 71, 199, 511, 1023, 2047, 4095, 8191, 16383, 32767, 65535, 131071, 262143, 131071, 131071, 1179647, 3801087, 8388607, 16777215] [(32, bA true)] fun G => b0 (rT G true (by kernel_rfl) (wp_seq (o0 G m0 [] fun G => b0 (wp_ret (n8 ?_))))))))); exact Z0 G (rg 4)
theorem aZ1 (vs ars : List Int) (b : List b7) (d : Nat) (hd : d <= 5) (ih : ∀ (e : b9) (n : Int), n = d -> r7.ok Tryz.prog ⟨121, [.agg [.ref 0, .ref 1, .ref 2], .agg [.v (.int .i64 e.kind), .v (.int .i64 e.value), .ref 3], .v (.int .i64 n)], [.dat (.ints vs), .dat (.ints ars), .dat (.stmts b), .dat (.exprs e.kids)], [.dat (.ints vs), .dat (.ints ars), .dat (.stmts b), .dat (.exprs e.kids)], .v (.bool (m9 vs.length ars.length d e))⟩)
    (e : b9) (n : Int) (hn : n = (d + 1 : Nat)) : r7.ok Tryz.prog ⟨121, [.agg [.ref 0, .ref 1, .ref 2], .agg [.v (.int .i64 e.kind), .v (.int .i64 e.value), .ref 3], .v (.int .i64 n)], [.dat (.ints vs), .dat (.ints ars), .dat (.stmts b), .dat (.exprs e.kids)], [.dat (.ints vs), .dat (.ints ars), .dat (.stmts b), .dat (.exprs e.kids)], .v (.bool (m9 vs.length ars.length (d + 1) e))⟩ := by
  have h100 : decide (n < 1) = false := by simp; omega
  refine M7 60 Tryz.func121 [dI vs, dI ars, dT b, dE e.kids] [(0, pA 0), (1, eA e 3), (2, iA n)] fun G => ?_; refine wp_seq (r8 G m0 [0, 1, 2, 3, 4, 12] [dI vs, dI ars, dT b, dE e.kids, .box (pL 0), .box (eL e 3)] [(2, iA n), (3, .ptr 4 0), (4, .ptr 5 0), (6, bA false)] fun G => b0 (wp_seq (wp_seq ?_))); cases h0 : ((e.kids.length : Int) != s7 e.kind)
  ·
   have q0 := bne_eq_false_iff_eq.1 h0; cases h1 : (decide (e.value < 0))
   ·
    have q1 := R5 h1; refine bo7 G (E3 (v6 8 [] (ap6 e.kind) (v6 22 [0, 1, 2] (a95 vs ars b e.kind) E2)) (fc (a := decide (n < 1)) (b := false) (by assumption) (fc h0 (fc h1 fz))) (us [(3, 9, 0), (1010, 1010, 0), (12, 14, 1), (1015, 1015, 1), (17, 23, 2), (1024, 1024, 2)])) [0, 1, 3, 7, 15, 31, 7, 71, 199, 511, 1023, 2047, 4095, 8191, 16383, 32767, 65535, 131071, 262143, 131071, 131071, 1179647, 3801087, 8388607, 16777215] [(32, bA (decide (e.value >= A8 vs.length ars.length e.kind)))] fun G => b0 (rcD G (fun h2 q2 => ?_) fun h2 q2 => ?_)
    ·
     refine wp_skip (b0 (wp_seq (wp_seq (H8 G m0 [(2, iA n), (3, .ptr 4 0), (4, .ptr 5 0), (6, bA false), (7, iA 0)] fun G => b0 (wp_block ?_))))); refine G5 (κ := Nat) (fun k => k <= e.kids.length /\ (e.kids.take k).all (m9 vs.length ars.length d) = true) (fun k => e.kids.length - k) (fun k => [dI vs, dI ars, dT b, dE e.kids, .box (pL 0), .box (eL e 3)]) (fun k => [(2, iA n), (3, .ptr 4 0), (4, .ptr 5 0), (6, bA false), (7, iA k)]) 0 (by simp [h100, h0, h1, h2]) (C2.at G _ _) ?_; clear G; intro k ρ a w hp G; have hlen : e.kids.length <= 9223372036854775807 := G.len 3 (d := .exprs e.kids) (by kernel_rfl); have hnode := aV6 (nv := vs.length) (na := ars.length) q0 q1 q2; refine wp_seq (wp_seq (H8 G m0 [(2, iA n), (3, .ptr 4 0), (4, .ptr 5 0), (6, bA false), (7, iA k), (37, bA (decide ((k : Int) < e.kids.length)))] fun G => b0 (rcD G (fun h3 q3 => ?_) fun h3 q3 => ?_)))
     ·
      refine wp_exit (z7 (z7 (y9 (b0 (wp_seq ?_))))); cases h4 : (e.kind != 3)
      · have q4 := bne_eq_false_iff_eq.1 h4; refine K9 G (E3 (v6 8 [62] (aA4 (e.kids.getD 0 bP0)) E2) (fc h4 fz) (us [(4, 8, 0), (1009, 1009, 0)])) (rg 4) [dI vs, dI ars, dT b, dE e.kids] [(6, bA (J9 (e.kids.getD 0 bP0)))] (iX 0 0 e.kids.length []) (iK (by have := aG4 q0 (by omega); omega) bP7) fun G => b0 (wp_ret ?_); exact E1 (J9 (e.kids.getD 0 bP0)) G (rg 4) (bn6 hnode (aB0 hp.2 (by omega)) (by omega) (aG4 q0 (by omega)))
      have q4 := bne_iff_ne.1 h4; refine r8 G (D7 (fc h4 fz) (us [(4, 8, 0), (1009, 1009, 0)])) (rg 4) [dI vs, dI ars, dT b, dE e.kids] [(6, bA true)] fun G => b0 (wp_ret ?_); exact E1 true G (rg 4) (bn7 hnode (aB0 hp.2 (by omega)) (by omega))
     refine wp_skip (b0 (wp_seq (wp_block (wp_seq (a74 G (x8 8 [0, 1, 2, 46] (ih (e.kids.getD k bP0) (n - 1) (by omega))) [0, 0, 2, 0, 14, 30, 0, 64, 255, 511] [(49, .v (.bool !m9 vs.length ars.length d (e.kids.getD k bP0)))] (iX k k e.kids.length ((wO (n - 1)) :: [])) (iK (by omega) (o1 (by omega))) fun G => b0 ?_))))); cases h5 : (!m9 vs.length ars.length d (e.kids.getD k bP0))
     · have q5 : (m9 vs.length ars.length d (e.kids.getD k bP0)) = true := (Eq.mp (bQ2 _) h5); refine rF G _ h5 (wp_skip (B9 (b0 (L0 G m0 [(7, iA ((k : Int) + 1))] [wO ((k : Int) + 1)] (o1 (by omega)) fun G => b0 ?_)))); exact rxn G (k + 1) (⟨by omega, aU2 hp.2 (by omega) (by assumption)⟩) (by omega) (rg 6)
     have q5 : (m9 vs.length ars.length d (e.kids.getD k bP0)) = false := (Eq.mp (bQ1 _) h5); refine rT G _ h5 (wp_seq (o0 G m0 [] fun G => b0 (wp_ret (E6 (n8 (n8 (E6 (n8 ?_)))))))); exact E1 false G (rg 4) (bn8 (k := k) (by omega) (by assumption))
    refine wp_seq (o0 G m0 [] fun G => b0 (wp_ret (n8 ?_))); exact E1 false G (rg 4) (bn9 (by omega))
   have q1 := R4 h1; refine bo7 G (E3 (v6 8 [] (ap6 e.kind) E2) (fc (a := decide (n < 1)) (b := false) (by assumption) (fc h0 (fc h1 fz))) (us [(3, 9, 0), (1010, 1010, 0), (12, 14, 1), (1015, 1015, 1), (17, 23, 2), (1024, 1024, 2)])) [0, 1, 3, 7, 15, 31, 7, 71, 199, 511, 1023, 2047, 4095, 8191, 16383, 32767, 65535, 131071, 262143, 131071, 131071, 1179647, 3801087, 8388607, 16777215] [(32, bA true)] fun G => b0 (rT G true (by kernel_rfl) (wp_seq (o0 G m0 [] fun G => b0 (wp_ret (n8 ?_))))); exact E1 false G (rg 4) (bo0 (by omega))
  have q0 := bne_iff_ne.1 h0; refine bo7 G (E3 (v6 8 [] (ap6 e.kind) E2) (fc (a := decide (n < 1)) (b := false) (by assumption) (fc h0 (fc (b := true) rfl fz))) (us [(3, 9, 0), (1010, 1010, 0), (12, 14, 1), (1015, 1015, 1), (17, 23, 2), (1024, 1024, 2)])) [0, 1, 3, 7, 15, 31, 7, 71, 199, 511, 1023, 2047, 4095, 8191, 16383, 32767, 65535, 131071, 262143, 131071, 131071, 1179647, 3801087, 8388607, 16777215] [(32, bA true)] fun G => b0 (rT G true (by kernel_rfl) (wp_seq (o0 G m0 [] fun G => b0 (wp_ret (n8 ?_))))); exact E1 false G (rg 4) (bo1 (by omega))
theorem aQ7 (vs ars : List Int) (b : List b7) : ∀ (d : Nat), d <= 5 -> ∀ (e : b9) (n : Int), n = d -> r7.ok Tryz.prog ⟨121, [.agg [.ref 0, .ref 1, .ref 2], .agg [.v (.int .i64 e.kind), .v (.int .i64 e.value), .ref 3], .v (.int .i64 n)], [.dat (.ints vs), .dat (.ints ars), .dat (.stmts b), .dat (.exprs e.kids)], [.dat (.ints vs), .dat (.ints ars), .dat (.stmts b), .dat (.exprs e.kids)], .v (.bool (m9 vs.length ars.length d e))⟩
 | 0, _, e, n, hn => aZ2 vs ars b e n (by omega)
 | d + 1, hd, e, n, hn => aZ1 vs ars b d (by omega) (aQ7 vs ars b d (by omega)) e n hn
theorem aA2 (vs ars : List Int) (b : List b7) (ky vy : Int) (ks : List b9) (n : Int) (hn : n = 5) : r7.ok Tryz.prog (N8 121 [pA 0, .agg [iA ky, iA vy, .ref 3], iA n] [dI vs, dI ars, dT b, dE ks] (bA (m9 vs.length ars.length 5 ⟨ky, vy, ks⟩))) := aQ7 vs ars b 5 (by omega) ⟨ky, vy, ks⟩ n hn
def cnP (d : Nat) (ks : List b9) (k : Nat) : Nat := 1 + ((ks.take k).map (ac2 d)).sum
theorem bI7 (d : Nat) (ks : List b9) : cnP d ks 0 = 1 := rfl
theorem aS8 {d : Nat} {ks : List b9} {k : Nat} (hk : k < ks.length) : cnP d ks (k + 1) = cnP d ks k + ac2 d (ks.getD k bP0) := by
 unfold cnP
 rw [D0 ks k hk, List.map_append, List.sum_append, t7 hk]
 simp; omega
theorem br9 {d : Nat} {e : b9} {k : Nat} (hk : e.kids.length <= k) : cnP d e.kids k = ac2 (d + 1) e := by
 unfold cnP; rw [bQ3 hk, ac2]
section
variable {nv na d : Nat} {e : b9}
theorem aZ0 (he : m9 nv na (d + 1) e = true) {k : Nat} (hk : k < e.kids.length) : m9 nv na d (e.kids.getD k bP0) = true := by
 rw [t7 hk]; exact (K0 he).2 _ (bP5 hk)
theorem bI6 (hd : d <= 5) (he : m9 nv na d e = true) : ac2 d e <= 1024 := by
 rw [aS7 nv na d e he]
 refine bO6 (be2 nv na d e he) ?_
 exact bO6 (bS3 (by decide) hd) (by decide)
theorem bw7 (hd : d <= 4) (he : m9 nv na (d + 1) e = true) : ∀ k : Nat, k <= e.kids.length -> cnP d e.kids k <= 1 + 1024 * k
 | 0, _ => by rw [bI7]; omega
 | k + 1, hk => by
  have h := bw7 hd he k (by omega)
  have h2 := bI6 (by omega) (aZ0 he (show k < e.kids.length by omega))
  rw [aS8 (by omega)]
  omega
end
abbrev cnC (d : Nat) (e : b9) (n : Int) : r7 := N8 122 [eA e 0, iA n] (eS e) (iA (ac2 d e : Nat))
theorem a73 (nv na d : Nat) (hd : d <= 4) (ih : ∀ (e : b9), m9 nv na d e = true -> ∀ n : Int, n = d -> r7.ok Tryz.prog (cnC d e n)) (e : b9) (he : m9 nv na (d + 1) e = true) (n : Int) (hn : n = (d + 1 : Nat)) : r7.ok Tryz.prog (cnC (d + 1) e n) := by
  have hk3 := (K0 he).1; refine M7 29 Tryz.func122 [dE e.kids] [(0, eA e 0), (1, iA n)] fun G => ?_; refine wp_seq (r8 G m0 [0, 1] [dE e.kids, .box (eL e 0)] [(1, iA n), (2, .ptr 1 0), (4, iA 0)] fun G => b0 (wp_seq (o0 G m0 [(5, iA 1)] fun G => b0 (wp_seq (wp_seq (H8 G m0 [(1, iA n), (2, .ptr 1 0), (4, iA 0), (5, iA 1), (6, iA 0)] fun G => b0 (wp_block ?_))))))); refine G5 (κ := Nat) (fun k => k <= e.kids.length) (fun k => e.kids.length - k) (fun k => [dE e.kids, .box (eL e 0)]) (fun k => [(1, iA n), (2, .ptr 1 0), (4, iA 0), (5, iA (cnP d e.kids k : Nat)), (6, iA k)]) 0 (by omega) (C2.at G _ _) ?_; clear G; intro k ρ a w hp G; replace G := C2.at G [dE e.kids, .box (eL e 0)] [(1, iA n), (2, .ptr 1 0), (4, iA 0), (5, iA (↑(cnP d e.kids k) : Int)), (6, iA k)]; have hcb := bw7 hd he k hp; refine wp_seq (wp_seq ?_); cases h0 : (decide ((k : Int) < e.kids.length))
  · have q0 := R5 h0; refine o0 G (D7 (fc h0 fz) [(6, 0), (7, 0), (1008, 0)]) [(15, bA false)] fun G => b0 (rF G false (by kernel_rfl) (wp_exit (z7 (z7 (y9 (b0 (wp_seq (r8 G m0 [0] [dE e.kids] [(4, iA (↑(cnP d e.kids k) : Int))] fun G => b0 (wp_ret ?_))))))))); exact rxI ((↑(cnP d e.kids k) : Int)) G [0] (by rw [<- br9 (k := k) (by omega)]; done)
  have q0 := R4 h0; refine H8 G (D7 (fc h0 fz) [(6, 0), (7, 0), (1008, 0)]) [(1, iA n), (2, .ptr 1 0), (4, iA 0), (5, iA (↑(cnP d e.kids k) : Int)), (6, iA k), (15, bA (decide (n > 0)))] fun G => b0 ?_; cases h1 : (decide (n > 0))
  · have q1 := R5 h1; exact False.elim (by omega)
  have q1 := R4 h1; refine rT G _ h1 (wp_skip (b0 (wp_seq (wp_block (L0 G (x8 8 [42] (ih (e.kids.getD k bP0) (aZ0 he (by omega)) (n - 1) (by omega))) [(5, iA ((↑(cnP d e.kids k) : Int) + (↑(ac2 d (e.kids.getD k bP0)) : Int)))] (iX k k e.kids.length ((wO (n - 1)) :: ((wO ((↑(cnP d e.kids k) : Int) + (↑(ac2 d (e.kids.getD k bP0)) : Int))) :: []))) (iK (by omega) ⟨oW (by omega), ⟨(by have h9 := bI6 (nv := nv) (na := na) (d := d) (by omega) (aZ0 he (show k < e.kids.length by omega)); exact w64 (by omega) (by omega)), bP7⟩⟩) fun G => B9 (b0 (L0 G m0 [(6, iA ((k : Int) + 1))] [wO ((k : Int) + 1)] (o1 (by omega)) fun G => b0 ?_))))))); exact rxn G (k + 1) (by omega) (by omega) [0, 1] (ht := by have e1 : ((↑(cnP d e.kids (k + 1)) : Int) : Int) = ((↑(cnP d e.kids k) : Int) + (↑(ac2 d (e.kids.getD k bP0)) : Int)) := (by rw [aS8 (by omega)]; omega); (first | rw [e1] | simp only [e1]) <;> rfl)
theorem aQ9 (nv na : Nat) : ∀ (d : Nat), d <= 5 -> ∀ (e : b9), m9 nv na d e = true -> ∀ n : Int, n = d -> r7.ok Tryz.prog (cnC d e n)
 | 0, _, e, h, _, _ => by simp [m9] at h
 | d + 1, hd, e, h, n, hn => a73 nv na d (by omega) (aQ9 nv na d (by omega)) e h n hn
theorem aZ4 (nv na : Nat) (ky vy : Int) (ks : List b9) (n : Int) (hn : n = 5) (h : m9 nv na 5 ⟨ky, vy, ks⟩ = true) : r7.ok Tryz.prog (N8 122 [.agg [iA ky, iA vy, .ref 0], iA n] [dE ks] (iA (ac2 5 ⟨ky, vy, ks⟩ : Nat))) := aQ9 nv na 5 (by omega) ⟨ky, vy, ks⟩ h n hn
theorem bK9 {nv na : Nat} {e : b9} (h : m9 nv na 5 ⟨e.kind, e.value, e.kids⟩ = false) : n7 nv na e = false := by
 rw [b9.eta] at h
 unfold n7; rw [h]; rfl
theorem bK8 {nv na : Nat} {e : b9} (h : m9 nv na 5 ⟨e.kind, e.value, e.kids⟩ = true) : n7 nv na e = decide ((ac2 5 ⟨e.kind, e.value, e.kids⟩ : Int) <= 15) := by
 rw [b9.eta] at h ⊢
 rw [aW2, h, Bool.true_and, bR9]
 simp only [decide_eq_true_eq]; omega
section
variable {s : b7}
theorem bL3 (h : s.kind = 4) (h2 : ¬ (s.els.length : Int) = 0) : p8 s = false := by
 unfold p8; rw [if_pos (.inr h), if_pos h, decide_eq_false (p := s.els.length = 0) (by omega)]; simp
theorem bL6 (h : s.kind = 4) (h1 : s.target = 0) (h2 : (s.els.length : Int) = 0) (h3 : s.count >= 1) (h4 : s.count <= 3) (h5 : noneB s.index = true) : p8 s = noneB s.value := by
 unfold p8; rw [if_pos (.inr h), if_pos h, decide_eq_true (p := s.els.length = 0) (by omega), decide_eq_true h1, decide_eq_true (p := 1 <= s.count) h3, decide_eq_true h4, h5]; simp
theorem bL5 (h3 : ¬ s.kind = 3) (h4 : ¬ s.kind = 4) (b : ¬ (s.body.length : Int) > 0) (e : ¬ (s.els.length : Int) > 0) (c : s.count = 0) (h2 : ¬ s.kind = 2) : p8 s = noneB s.index := by
 unfold p8; rw [if_neg (by omega), decide_eq_true (p := s.body.length = 0) (by omega), decide_eq_true (p := s.els.length = 0) (by omega), decide_eq_true c, decide_eq_false h2]; simp
theorem bL4 (b : ¬ (s.body.length : Int) > 0) (e : ¬ (s.els.length : Int) > 0) (c : s.count = 0) (h2 : s.kind = 2) : p8 s = true := by
 unfold p8; rw [if_neg (by omega), decide_eq_true (p := s.body.length = 0) (by omega), decide_eq_true (p := s.els.length = 0) (by omega), decide_eq_true c, decide_eq_true h2]; simp
theorem bL2 (h3 : ¬ s.kind = 3) (h4 : ¬ s.kind = 4) (e : (s.els.length : Int) > 0) : p8 s = false := by
 unfold p8; rw [if_neg (by omega), decide_eq_false (p := s.els.length = 0) (by omega)]; simp
theorem bL1 (h3 : ¬ s.kind = 3) (h4 : ¬ s.kind = 4) (e : (s.body.length : Int) > 0) : p8 s = false := by
 unfold p8; rw [if_neg (by omega), decide_eq_false (p := s.body.length = 0) (by omega)]; simp
end
theorem K3 (p : o6) (e : b9) : r7.ok Tryz.prog (N8 102 [pA 0, eA e 3] (pS p ++ eS e) (bA (n7 p.vars.length p.arrays.length e))) := by
 have hcn := fun h => aZ4 p.vars.length p.arrays.length e.kind e.value e.kids 5 rfl h
 refine M7 13 Tryz.func102 [dI p.vars, dI p.arrays, dT p.body, dE e.kids] [(0, pA 0), (1, eA e 3)] fun G => ?_; refine wp_seq (r8 G m0 [0, 1, 2, 3, 4, 12] [dI p.vars, dI p.arrays, dT p.body, dE e.kids, .box (pL 0), .box (eL e 3)] [(2, .ptr 4 0), (3, .ptr 5 0), (4, bA false)] fun G => b0 (wp_seq ?_)); cases h0 : (m9 p.vars.length p.arrays.length (5 : Nat) (H6 e))
 ·refine r8 G (E3 (v6 2 (rg 4) (aA2 p.vars p.arrays p.body e.kind e.value e.kids 5 (by kernel_rfl)) E2) (fc h0 fz) [(4, 0), (5, 0), (6, 0), (1007, 0)]) (rg 4) [dI p.vars, dI p.arrays, dT p.body, dE e.kids] [(4, bA false)] fun G => b0 (wp_ret ?_); exact E1 false G (rg 4) (bK9 (by with_reducible assumption))
 refine r8 G (E3 (v6 2 (rg 4) (aA2 p.vars p.arrays p.body e.kind e.value e.kids 5 (by kernel_rfl)) (v6 5 [3] (hcn (by assumption)) E2)) (fc h0 fz) [(4, 0), (5, 0), (6, 0), (1007, 0)]) (rg 4) [dI p.vars, dI p.arrays, dT p.body, dE e.kids] [(4, bA (decide ((↑(ac2 5 (H6 e)) : Int) <= 15)))] fun G => b0 (wp_ret ?_); exact E1 (decide ((↑(ac2 5 (H6 e)) : Int) <= 15)) G (rg 4) (bK8 (by with_reducible assumption))
abbrev au4 (s : b7) (r0 : List It) : List It := dE s.index.kids :: dE s.value.kids :: dT s.body :: dT s.els :: r0
theorem a94 (s : b7) : r7.ok Tryz.prog (N8 101 [sA s 0] (sS s) (bA (p8 s))) := by
  refine M7 74 Tryz.func101 (au4 s []) [(0, sA s 0)] fun G => ?_; refine wp_seq (r8 G m0 (rg 5) (au4 s [.box (sL s 0)]) [(1, .ptr 4 0), (2, bA false)] fun G => b0 (wp_seq ?_)); cases h0 : (s.kind == 3)
  ·
   have q0 := ne_of_beq_false h0; refine H8 G (D7 (fc h0 fz) [(4, 0), (5, 0), (6, 0), (1007, 0)]) [(1, .ptr 4 0), (2, bA false), (3, bA (s.kind == 4))] fun G => b0 (wp_seq (wp_seq ?_)); cases h1 : (!s.kind == 4)
   ·
    have q1 : s.kind = 4 := (fun hq => eq_of_beq hq) (Eq.mp (bQ2 _) h1); cases h2 : (s.kind == 4)
    · have q2 := ne_of_beq_false h2; exact False.elim (by omega)
    have q2 := eq_of_beq h2; refine o0 G (D7 (fc h1 (fc (b := false) rfl (fc h2 fz))) (us [(3, 7, 0), (12, 12, 0), (1013, 1013, 0), (15, 16, 1), (17, 19, 2), (20, 20, 1), (1020, 1020, 2), (1021, 1021, 1)])) [(33, bA (s.target != 0))] fun G => b0 (rcN G (fun h3 q3 => ?_) fun h3 q3 => ?_)
    ·
     refine wp_skip (b0 (wp_seq (wp_seq (o0 G m0 [(36, bA (s.kind == 4))] fun G => b0 (rT G _ h2 (wp_seq ?_)))))); cases h4 : ((s.els.length : Int) == 0)
     · have q4 := ne_of_beq_false h4; refine o0 G (D7 (fc h4 (fc (b := false) rfl fz)) (us [(5, 7, 0), (1008, 1008, 0), (10, 12, 1), (1013, 1013, 1), (15, 17, 1), (1018, 1018, 1), (20, 22, 1), (1023, 1023, 1)])) [] fun G => b0 (wp_ret (n8 ?_)); exact E1 false G (rg 4) (bL3 (by omega) (by omega))
     have q4 := eq_of_beq h4; cases h5 : (decide (s.count >= 1))
     · have q5 := R5 h5; refine o0 G (D7 (fc h4 (fc h5 (fc (b := false) rfl fz))) (us [(5, 7, 0), (1008, 1008, 0), (10, 12, 1), (1013, 1013, 1), (15, 17, 2), (1018, 1018, 2), (20, 22, 2), (1023, 1023, 2)])) [] fun G => b0 (wp_ret (n8 ?_)); exact E1 false G (rg 4) (by rw [bR9]; simp [p8, h0, q0, h1, q1, h2, q2, h3, q3, h4, q4, h5, q5]; done)
     have q5 := R4 h5; cases h6 : (decide (s.count <= 3))
     · have q6 := R5 h6; refine o0 G (D7 (fc h4 (fc h5 (fc h6 (fc (b := false) rfl fz)))) (us [(5, 7, 0), (1008, 1008, 0), (10, 12, 1), (1013, 1013, 1), (15, 17, 2), (1018, 1018, 2), (20, 22, 3), (1023, 1023, 3)])) [] fun G => b0 (wp_ret (n8 ?_)); exact E1 false G (rg 4) (by rw [bR9]; simp [p8, h0, q0, h1, q1, h2, q2, h3, q3, h4, q4, h5, q5, h6, q6]; done)
     have q6 := R4 h6; cases h7 : (noneB s.index)
     · refine o0 G (E3 (v6 17 [0] (ad9 s.index) E2) (fc h4 (fc h5 (fc h6 (fc h7 fz)))) (us [(5, 7, 0), (1008, 1008, 0), (10, 12, 1), (1013, 1013, 1), (15, 17, 2), (1018, 1018, 2), (20, 22, 3), (1023, 1023, 3)])) [] fun G => b0 (wp_ret (n8 ?_)); exact E1 false G (rg 4) (by rw [bR9]; simp [p8, h0, q0, h1, q1, h2, q2, h3, q3, h4, q4, h5, q5, h6, q6, h7]; done)
     refine o0 G (E3 (v6 17 [0] (ad9 s.index) (v6 22 [1] (ad9 s.value) E2)) (fc h4 (fc h5 (fc h6 (fc h7 fz)))) (us [(5, 7, 0), (1008, 1008, 0), (10, 12, 1), (1013, 1013, 1), (15, 17, 2), (1018, 1018, 2), (20, 22, 3), (1023, 1023, 3)])) [(2, bA (noneB s.value))] fun G => b0 (wp_ret (n8 ?_)); exact E1 (noneB s.value) G (rg 4) (bL6 (by omega) (by omega) (by omega) (by omega) (by omega) (by with_reducible assumption))
    refine wp_seq (o0 G m0 [] fun G => b0 (wp_ret (n8 ?_))); exact E1 false G (rg 4) (by rw [bR9]; simp [p8, h0, q0, h1, q1, h2, q2, h3, q3]; done)
   have q1 : ¬ (s.kind = 4) := (fun hq => ne_of_beq_false hq) (Eq.mp (bQ1 _) h1); cases h8 : (decide ((s.body.length : Int) > 0))
   ·
    have q8 := R5 h8; cases h9 : (decide ((s.els.length : Int) > 0))
    ·
     have q9 := R5 h9; cases h10 : (s.kind == 4)
     ·
      have q10 := ne_of_beq_false h10; refine o0 G (D7 (fc h1 (fc h8 (fc h9 (fc h10 fz)))) (us [(3, 7, 0), (8, 11, 1), (12, 12, 0), (1012, 1012, 1), (1013, 1013, 0), (15, 16, 2), (17, 19, 3), (20, 20, 2), (1020, 1020, 3), (1021, 1021, 2)])) [(33, bA false)] fun G => b0 (rF G false (by kernel_rfl) (wp_skip (b0 (wp_seq (wp_seq (o0 G m0 [(36, bA (s.kind == 4))] fun G => b0 (rF G _ h10 (wp_skip (b0 (wp_seq ?_)))))))))); cases h11 : (s.count == 0)
      · have q11 := ne_of_beq_false h11; refine r8 G (D7 (fc h11 fz) (us [(4, 7, 0), (11, 11, 0), (1012, 1012, 0)])) (rg 4) (au4 s []) [(2, bA false)] fun G => b0 (wp_ret ?_); exact E1 false G (rg 4) (by rw [bR9]; simp [p8, h0, q0, h1, q1, h8, q8, h9, q9, h10, q10, h11, q11]; done)
      have q11 := eq_of_beq h11; cases h12 : (s.kind == 2)
      · have q12 := ne_of_beq_false h12; refine r8 G (E3 (v6 10 [0] (ad9 s.index) E2) (fc h11 (fc h12 fz)) (us [(4, 7, 0), (8, 10, 1), (11, 11, 0), (1011, 1011, 1), (1012, 1012, 0)])) (rg 4) (au4 s []) [(2, bA (noneB s.index))] fun G => b0 (wp_ret ?_); exact E1 (noneB s.index) G (rg 4) (bL5 (by omega) (by omega) (by omega) (by omega) (by omega) (by omega))
      have q12 := eq_of_beq h12; refine r8 G (D7 (fc h11 (fc h12 fz)) (us [(4, 7, 0), (8, 10, 1), (11, 11, 0), (1011, 1011, 1), (1012, 1012, 0)])) (rg 4) (au4 s []) [(2, bA true)] fun G => b0 (wp_ret ?_); exact E1 true G (rg 4) (bL4 (by omega) (by omega) (by omega) (by omega))
     have q10 := eq_of_beq h10; exact False.elim (by omega)
    have q9 := R4 h9; refine o0 G (D7 (fc h1 (fc h8 (fc h9 fz))) (us [(3, 7, 0), (8, 11, 1), (12, 12, 0), (1012, 1012, 1), (1013, 1013, 0), (15, 16, 2), (20, 20, 2), (1021, 1021, 2)])) [(33, bA true)] fun G => b0 (rT G true (by kernel_rfl) (wp_seq (o0 G m0 [] fun G => b0 (wp_ret (n8 ?_))))); exact E1 false G (rg 4) (bL2 (by omega) (by omega) (by omega))
   have q8 := R4 h8; refine o0 G (D7 (fc h1 (fc h8 (fc (b := true) rfl fz))) (us [(3, 7, 0), (8, 11, 1), (12, 12, 0), (1012, 1012, 1), (1013, 1013, 0), (15, 16, 2), (20, 20, 2), (1021, 1021, 2)])) [(33, bA true)] fun G => b0 (rT G true (by kernel_rfl) (wp_seq (o0 G m0 [] fun G => b0 (wp_ret (n8 ?_))))); exact E1 false G (rg 4) (bL1 (by omega) (by omega) (by omega))
  have q0 := eq_of_beq h0; refine o0 G (D7 (fc h0 fz) [(4, 0), (5, 0), (6, 0), (1007, 0)]) [(3, bA true)] fun G => b0 (wp_seq (wp_seq (o0 G (D7 (fc (b := false) rfl (fc (b := true) rfl fz)) (us [(3, 7, 0), (12, 12, 0), (1013, 1013, 0), (15, 16, 0), (17, 19, 1), (20, 20, 0), (1020, 1020, 1), (1021, 1021, 0)])) [(33, bA (s.target != 0))] fun G => b0 (rcN G (fun h13 q13 => ?_) fun h13 q13 => ?_))))
  ·
   refine wp_skip (b0 (wp_seq (wp_seq (H8 G m0 [(1, .ptr 4 0), (2, bA false), (36, bA (s.kind == 4))] fun G => b0 ?_)))); cases h14 : (s.kind == 4)
   ·
    have q14 := ne_of_beq_false h14; refine rF G _ h14 (wp_skip (b0 (wp_seq ?_))); cases h15 : (s.count == 0)
    · have q15 := ne_of_beq_false h15; refine r8 G (D7 (fc h15 fz) (us [(4, 7, 0), (11, 11, 0), (1012, 1012, 0)])) (rg 4) (au4 s []) [(2, bA false)] fun G => b0 (wp_ret ?_); exact E1 false G (rg 4) (by rw [bR9]; simp [p8, h0, q0, h13, q13, h14, q14, h15, q15]; done)
    have q15 := eq_of_beq h15; cases h16 : (s.kind == 2)
    · have q16 := ne_of_beq_false h16; refine r8 G (E3 (v6 10 [0] (ad9 s.index) E2) (fc h15 (fc h16 fz)) (us [(4, 7, 0), (8, 10, 1), (11, 11, 0), (1011, 1011, 1), (1012, 1012, 0)])) (rg 4) (au4 s []) [(2, bA (noneB s.index))] fun G => b0 (wp_ret ?_); exact E1 (noneB s.index) G (rg 4) (by rw [bR9]; simp [p8, h0, q0, h13, q13, h14, q14, h15, q15, h16, q16]; done)
    have q16 := eq_of_beq h16; exact False.elim (by omega)
   have q14 := eq_of_beq h14; exact False.elim (by omega)
  refine wp_seq (o0 G m0 [] fun G => b0 (wp_ret (n8 ?_))); exact E1 false G (rg 4) (by rw [bR9]; simp [p8, h0, q0, h13, q13]; done)
abbrev vbC (p : o6) (d : Nat) (ss : List b7) (n : Int) : r7 := N8 36 [pA 0, .ref 3, iA n] (pS p ++ [dT ss]) (bA (ss.all (m8 p.vars.length p.arrays.length d)))
abbrev vsC (p : o6) (d : Nat) (s : b7) (n : Int) : r7 := N8 64 [pA 0, sA s 3, iA n] (pS p ++ sS s) (bA (m8 p.vars.length p.arrays.length d s))
theorem a69 (p : o6) (s : b7) (n : Int) (hn : n = 0) : r7.ok Tryz.prog (vsC p 0 s n) := by
 refine M7 96 Tryz.func64 [dI p.vars, dI p.arrays, dT p.body, dE s.index.kids, dE s.value.kids, dT s.body, dT s.els] [(0, pA 0), (1, sA s 3), (2, iA n)] fun G => ?_; refine wp_seq (r8 G m0 [0, 1, 2, 3, 4, 5, 6, 7, 15] [dI p.vars, dI p.arrays, dT p.body, dE s.index.kids, dE s.value.kids, dT s.body, dT s.els, .box (pL 0), .box (sL s 3)] [(2, iA n), (3, .ptr 7 0), (4, .ptr 8 0), (6, bA false)] fun G => b0 (wp_seq (wp_seq ?_))); cases h0 : (decide (n < 1))
 ·have q0 := R5 h0; exact False.elim (by omega)
 have q0 := R4 h0; refine o0 G (D7 (fc h0 fz) [(3, 0), (4, 0), (5, 0), (1006, 0)]) [(13, bA true)] fun G => b0 (rT G true (by kernel_rfl) (wp_seq (o0 G m0 [] fun G => b0 (wp_ret (n8 ?_))))); exact Z0 G (rg 7)
section
variable {nv na d : Nat} {s : b7}
theorem bK3 (h : p8 s = false) : m8 nv na (d + 1) s = false := by rw [m8, h]; rfl
theorem by4 (hp : p8 s = true) (h : s.kind = 1 \/ s.kind = 5) : m8 nv na (d + 1) s = (decide (0 <= s.target) && decide (s.target < nv) && n7 nv na s.value) := by rw [m8, hp, if_pos h]; rfl
theorem bd8 (hp : p8 s = true) (h : s.kind = 2) : m8 nv na (d + 1) s = (decide (0 <= s.target) && decide (s.target < na) && n7 nv na s.index && J9 s.index && n7 nv na s.value) := by rw [m8, hp, if_neg (by omega), if_pos h]; rfl
theorem by3 (hp : p8 s = true) (h : s.kind = 3) : m8 nv na (d + 1) s = (n7 nv na s.value && s.body.all (m8 nv na d) && s.els.all (m8 nv na d)) := by rw [m8, hp, if_neg (by omega), if_neg (by omega), if_pos h]; rfl
theorem bK4 (hp : p8 s = true) (h : s.kind = 4) : m8 nv na (d + 1) s = s.body.all (m8 nv na d) := by rw [m8, hp, if_neg (by omega), if_neg (by omega), if_neg (by omega), if_pos h]; rfl
theorem bu4 (hp : p8 s = true) (h : s.kind = 1 \/ s.kind = 5) (q : ¬ s.target >= 0) : m8 nv na (d + 1) s = false := by rw [by4 hp h, decide_eq_false (p := 0 <= s.target) q]; rfl
theorem bu3 (hp : p8 s = true) (h : s.kind = 1 \/ s.kind = 5) (q : ¬ s.target < (nv : Int)) : m8 nv na (d + 1) s = false := by rw [by4 hp h, decide_eq_false q, Bool.and_false]; rfl
theorem bu2 (hp : p8 s = true) (h : s.kind = 1 \/ s.kind = 5) (q : s.target >= 0) (r : s.target < (nv : Int)) : m8 nv na (d + 1) s = n7 nv na s.value := by rw [by4 hp h, decide_eq_true (p := 0 <= s.target) q, decide_eq_true r]; rfl
theorem bF2 (hp : p8 s = true) (h : s.kind = 2) (q : ¬ s.target >= 0) : m8 nv na (d + 1) s = false := by rw [bd8 hp h, decide_eq_false (p := 0 <= s.target) q]; rfl
theorem bF1 (hp : p8 s = true) (h : s.kind = 2) (q : ¬ s.target < (na : Int)) : m8 nv na (d + 1) s = false := by rw [bd8 hp h, decide_eq_false q, Bool.and_false]; rfl
theorem bF0 (hp : p8 s = true) (h : s.kind = 2) (q : n7 nv na s.index = false) : m8 nv na (d + 1) s = false := by rw [bd8 hp h, q, Bool.and_false]; rfl
theorem bE9 (hp : p8 s = true) (h : s.kind = 2) (q : J9 s.index = false) : m8 nv na (d + 1) s = false := by rw [bd8 hp h, q, Bool.and_false]; rfl
theorem bE8 (hp : p8 s = true) (h : s.kind = 2) (q : s.target >= 0) (r : s.target < (na : Int)) (u : n7 nv na s.index = true) (v : J9 s.index = true) : m8 nv na (d + 1) s = n7 nv na s.value := by rw [bd8 hp h, decide_eq_true (p := 0 <= s.target) q, decide_eq_true r, u, v]; rfl
theorem bE7 (hp : p8 s = true) (h : s.kind = 3) (q : n7 nv na s.value = false) : m8 nv na (d + 1) s = false := by rw [by3 hp h, q]; rfl
theorem bE6 (hp : p8 s = true) (h : s.kind = 3) (q : s.body.all (m8 nv na d) = false) : m8 nv na (d + 1) s = false := by rw [by3 hp h, q, Bool.and_false]; rfl
theorem bE5 (hp : p8 s = true) (h : s.kind = 3) (q : n7 nv na s.value = true) (r : s.body.all (m8 nv na d) = true) : m8 nv na (d + 1) s = s.els.all (m8 nv na d) := by rw [by3 hp h, q, r]; rfl
theorem bK5 (h1 : ¬ s.kind = 1) (h2 : ¬ s.kind = 2) (h3 : ¬ s.kind = 3) (h4 : ¬ s.kind = 4) (h5 : ¬ s.kind = 5) : m8 nv na (d + 1) s = false := by rw [m8, if_neg (by omega), if_neg h2, if_neg h3, if_neg h4]; simp
end
abbrev O4 (p : o6) (s : b7) (r0 : List It) : List It := dI p.vars :: dI p.arrays :: dT p.body :: dE s.index.kids :: dE s.value.kids :: dT s.body :: dT s.els :: r0
theorem be3 (p : o6) (d : Nat) (hB : ∀ (ss : List b7) (n : Int), n = d -> r7.ok Tryz.prog (vbC p d ss n)) (s : b7) (n : Int) (hn : n = (d + 1 : Nat)) (hd : d <= 5) : r7.ok Tryz.prog (vsC p (d + 1) s n) := by
  refine M7 96 Tryz.func64 (O4 p s []) [(0, pA 0), (1, sA s 3), (2, iA n)] fun G => ?_; refine wp_seq (r8 G m0 [0, 1, 2, 3, 4, 5, 6, 7, 15] (O4 p s [.box (pL 0), .box (sL s 3)]) [(2, iA n), (3, .ptr 7 0), (4, .ptr 8 0), (6, bA false)] fun G => b0 (wp_seq (wp_seq ?_))); cases h0 : (decide (n < 1))
  ·
   have q0 := R5 h0; refine o0 G (E3 (v6 4 [3, 4, 5, 6] (a94 s) E2) (fc h0 fz) [(3, 0), (4, 0), (5, 0), (1006, 0)]) [(13, .v (.bool !p8 s))] fun G => b0 ?_; cases h1 : (!p8 s)
   ·
    have q1 : (p8 s) = true := (Eq.mp (bQ2 _) h1); refine rF G _ h1 (wp_skip (b0 (wp_seq (wp_seq (o0 G m0 [(15, iA s.kind)] fun G => b0 (wp_block (wp_seq (wp_seq (o0 G m0 [(16, bA (s.kind == 1))] fun G => b0 (rcE G (fun h2 q2 => ?_) fun h2 q2 => ?_))))))))))
    ·
     refine o0 G m0 [(16, bA (s.kind == 5))] fun G => b0 (rcE G (fun h3 q3 => ?_) fun h3 q3 => ?_)
     ·
      refine wp_seq (o0 G m0 [(36, bA (s.kind == 2))] fun G => b0 (rcE G (fun h4 q4 => ?_) fun h4 q4 => ?_))
      ·
       refine wp_seq (o0 G m0 [(66, bA (s.kind == 3))] fun G => b0 (rcE G (fun h5 q5 => ?_) fun h5 q5 => ?_))
       ·
        refine wp_seq (o0 G m0 [(88, bA (s.kind == 4))] fun G => b0 (rcE G (fun h6 q6 => ?_) fun h6 q6 => ?_))
        · refine wp_skip (B9 (b0 (wp_seq (r8 G m0 (rg 7) (O4 p s []) [(6, bA false)] fun G => b0 (wp_ret ?_))))); exact E1 false G (rg 7) (bK5 (by omega) (by omega) (by omega) (by omega) (by omega))
        refine wp_seq (K9 G (x8 5 [0, 1, 2, 5] (hB s.body (n - 1) (by omega))) (rg 7) (O4 p s []) [(6, bA (s.body.all (m8 p.vars.length p.arrays.length d)))] [wO (n - 1)] (o1 (by omega)) fun G => b0 (wp_ret (E6 (n8 ?_)))); exact E1 (s.body.all (m8 p.vars.length p.arrays.length d)) G (rg 7) (bK4 (by with_reducible assumption) (by omega))
       refine wp_seq ?_; cases h7 : (n7 p.vars.length p.arrays.length s.value)
       · refine r8 G (E3 (v6 3 [0, 1, 2, 4] (K3 p s.value) E2) (fc h7 (fc (b := false) rfl fz)) (us [(5, 10, 0), (1011, 1011, 0), (13, 18, 1), (1019, 1019, 1)])) (rg 7) (O4 p s []) [(6, bA false)] fun G => b0 (wp_ret (E6 (n8 ?_))); exact E1 false G (rg 7) (bE7 (by with_reducible assumption) (by omega) (by with_reducible assumption))
       cases h8 : (s.body.all (m8 p.vars.length p.arrays.length d))
       · refine K9 G (E3 (v6 3 [0, 1, 2, 4] (K3 p s.value) (v6 10 [0, 1, 2, 5] (hB s.body (n - 1) (by omega)) E2)) (fc h7 (fc h8 fz)) (us [(5, 10, 0), (1011, 1011, 0), (13, 18, 1), (1019, 1019, 1)])) (rg 7) (O4 p s []) [(6, bA false)] [wO (n - 1)] (o1 (by omega)) fun G => b0 (wp_ret (E6 (n8 ?_))); exact E1 false G (rg 7) (bE6 (by with_reducible assumption) (by omega) (by with_reducible assumption))
       refine K9 G (E3 (v6 3 [0, 1, 2, 4] (K3 p s.value) (v6 10 [0, 1, 2, 5] (hB s.body (n - 1) (by omega)) (v6 18 [0, 1, 2, 6] (hB s.els (n - 1) (by omega)) E2))) (fc h7 (fc h8 fz)) (us [(5, 10, 0), (1011, 1011, 0), (13, 18, 1), (1019, 1019, 1)])) (rg 7) (O4 p s []) [(6, bA (s.els.all (m8 p.vars.length p.arrays.length d)))] [wO (n - 1), wO (n - 1)] (o2 (by omega)) fun G => b0 (wp_ret (E6 (n8 ?_))); exact E1 (s.els.all (m8 p.vars.length p.arrays.length d)) G (rg 7) (bE5 (by with_reducible assumption) (by omega) (by with_reducible assumption) (by with_reducible assumption))
      refine wp_seq ?_; cases h9 : (decide (s.target >= 0))
      · have q9 := R5 h9; refine r8 G (D7 (fc h9 (fc (b := false) rfl fz)) (us [(4, 9, 0), (1010, 1010, 0), (12, 15, 1), (1016, 1016, 1), (18, 20, 1), (1021, 1021, 1), (23, 26, 1), (1027, 1027, 1)])) (rg 7) (O4 p s []) [(6, bA false)] fun G => b0 (wp_ret (E6 (n8 ?_))); exact E1 false G (rg 7) (bF2 (by with_reducible assumption) (by omega) (by omega))
      have q9 := R4 h9; cases h10 : (decide (s.target < (p.arrays.length : Int)))
      · have q10 := R5 h10; refine r8 G (D7 (fc h9 (fc h10 (fc (b := false) rfl fz))) (us [(4, 9, 0), (1010, 1010, 0), (12, 15, 1), (1016, 1016, 1), (18, 20, 2), (1021, 1021, 2), (23, 26, 2), (1027, 1027, 2)])) (rg 7) (O4 p s []) [(6, bA false)] fun G => b0 (wp_ret (E6 (n8 ?_))); exact E1 false G (rg 7) (bF1 (by with_reducible assumption) (by omega) (by omega))
      have q10 := R4 h10; cases h11 : (n7 p.vars.length p.arrays.length s.index)
      · refine r8 G (E3 (v6 15 (rg 4) (K3 p s.index) E2) (fc h9 (fc h10 (fc h11 (fc (b := false) rfl fz)))) (us [(4, 9, 0), (1010, 1010, 0), (12, 15, 1), (1016, 1016, 1), (18, 20, 2), (1021, 1021, 2), (23, 26, 3), (1027, 1027, 3)])) (rg 7) (O4 p s []) [(6, bA false)] fun G => b0 (wp_ret (E6 (n8 ?_))); exact E1 false G (rg 7) (bF0 (by with_reducible assumption) (by omega) (by with_reducible assumption))
      cases h12 : (J9 s.index)
      · refine r8 G (E3 (v6 15 (rg 4) (K3 p s.index) (v6 20 [3] (aA4 s.index) E2)) (fc h9 (fc h10 (fc h11 (fc h12 fz)))) (us [(4, 9, 0), (1010, 1010, 0), (12, 15, 1), (1016, 1016, 1), (18, 20, 2), (1021, 1021, 2), (23, 26, 3), (1027, 1027, 3)])) (rg 7) (O4 p s []) [(6, bA false)] fun G => b0 (wp_ret (E6 (n8 ?_))); exact E1 false G (rg 7) (bE9 (by with_reducible assumption) (by omega) (by with_reducible assumption))
      refine r8 G (E3 (v6 15 (rg 4) (K3 p s.index) (v6 20 [3] (aA4 s.index) (v6 26 [0, 1, 2, 4] (K3 p s.value) E2))) (fc h9 (fc h10 (fc h11 (fc h12 fz)))) (us [(4, 9, 0), (1010, 1010, 0), (12, 15, 1), (1016, 1016, 1), (18, 20, 2), (1021, 1021, 2), (23, 26, 3), (1027, 1027, 3)])) (rg 7) (O4 p s []) [(6, bA (n7 p.vars.length p.arrays.length s.value))] fun G => b0 (wp_ret (E6 (n8 ?_))); exact E1 (n7 p.vars.length p.arrays.length s.value) G (rg 7) (bE8 (by with_reducible assumption) (by omega) (by omega) (by omega) (by with_reducible assumption) (by with_reducible assumption))
     refine wp_seq ?_; cases h13 : (decide (s.target >= 0))
     · have q13 := R5 h13; refine r8 G (D7 (fc h13 (fc (b := false) rfl fz)) (us [(4, 9, 0), (1010, 1010, 0), (12, 15, 1), (1016, 1016, 1)])) (rg 7) (O4 p s []) [(6, bA false)] fun G => b0 (wp_ret (E6 (n8 ?_))); exact E1 false G (rg 7) (bu4 (by with_reducible assumption) (by omega) (by omega))
     have q13 := R4 h13; cases h14 : (decide (s.target < (p.vars.length : Int)))
     · have q14 := R5 h14; refine r8 G (D7 (fc h13 (fc h14 fz)) (us [(4, 9, 0), (1010, 1010, 0), (12, 15, 1), (1016, 1016, 1)])) (rg 7) (O4 p s []) [(6, bA false)] fun G => b0 (wp_ret (E6 (n8 ?_))); exact E1 false G (rg 7) (bu3 (by with_reducible assumption) (by omega) (by omega))
     have q14 := R4 h14; refine r8 G (E3 (v6 15 [0, 1, 2, 4] (K3 p s.value) E2) (fc h13 (fc h14 fz)) (us [(4, 9, 0), (1010, 1010, 0), (12, 15, 1), (1016, 1016, 1)])) (rg 7) (O4 p s []) [(6, bA (n7 p.vars.length p.arrays.length s.value))] fun G => b0 (wp_ret (E6 (n8 ?_))); exact E1 (n7 p.vars.length p.arrays.length s.value) G (rg 7) (bu2 (by with_reducible assumption) (by omega) (by omega) (by omega))
    refine wp_skip (b0 (rT G _ h2 (wp_seq ?_))); cases h15 : (decide (s.target >= 0))
    · have q15 := R5 h15; refine r8 G (D7 (fc h15 (fc (b := false) rfl fz)) (us [(4, 9, 0), (1010, 1010, 0), (12, 15, 1), (1016, 1016, 1)])) (rg 7) (O4 p s []) [(6, bA false)] fun G => b0 (wp_ret (E6 (n8 ?_))); exact E1 false G (rg 7) (bu4 (by with_reducible assumption) (by omega) (by omega))
    have q15 := R4 h15; cases h16 : (decide (s.target < (p.vars.length : Int)))
    · have q16 := R5 h16; refine r8 G (D7 (fc h15 (fc h16 fz)) (us [(4, 9, 0), (1010, 1010, 0), (12, 15, 1), (1016, 1016, 1)])) (rg 7) (O4 p s []) [(6, bA false)] fun G => b0 (wp_ret (E6 (n8 ?_))); exact E1 false G (rg 7) (bu3 (by with_reducible assumption) (by omega) (by omega))
    have q16 := R4 h16; refine r8 G (E3 (v6 15 [0, 1, 2, 4] (K3 p s.value) E2) (fc h15 (fc h16 fz)) (us [(4, 9, 0), (1010, 1010, 0), (12, 15, 1), (1016, 1016, 1)])) (rg 7) (O4 p s []) [(6, bA (n7 p.vars.length p.arrays.length s.value))] fun G => b0 (wp_ret (E6 (n8 ?_))); exact E1 (n7 p.vars.length p.arrays.length s.value) G (rg 7) (bu2 (by with_reducible assumption) (by omega) (by omega) (by omega))
   have q1 : (p8 s) = false := (Eq.mp (bQ1 _) h1); refine rT G _ h1 (wp_seq (o0 G m0 [] fun G => b0 (wp_ret (n8 ?_)))); exact E1 false G (rg 7) (bK3 (by with_reducible assumption))
  have q0 := R4 h0; exact False.elim (by omega)
theorem bJ4 {nv na d : Nat} {ss : List b7} {k : Nat} (hk : k < ss.length) (h : m8 nv na d (ss.getD k bP0) = false) : ss.all (m8 nv na d) = false := by
 rw [t7 hk] at h
 exact at3 hk h
theorem aE6 (p : o6) (d : Nat) (hd : d <= 5) (hS : ∀ (s : b7) (n : Int), n = d -> r7.ok Tryz.prog (vsC p d s n)) (ss : List b7) (n : Int) (hn : n = d) : r7.ok Tryz.prog (vbC p d ss n) := by
  refine M7 22 Tryz.func36 [dI p.vars, dI p.arrays, dT p.body, dT ss] [(0, pA 0), (1, .ref 3), (2, iA n)] fun G => ?_; refine wp_seq (r8 G m0 (rg 5) [dI p.vars, dI p.arrays, dT p.body, dT ss, .box (pL 0)] [(1, .ref 3), (2, iA n), (3, .ptr 4 0), (6, bA false)] fun G => b0 (wp_seq (wp_seq (H8 G m0 [(1, .ref 3), (2, iA n), (3, .ptr 4 0), (6, bA false), (7, iA 0)] fun G => b0 (wp_block ?_))))); refine G5 (κ := Nat) (fun k => k <= ss.length /\ (ss.take k).all (m8 p.vars.length p.arrays.length d) = true) (fun k => ss.length - k) (fun k => [dI p.vars, dI p.arrays, dT p.body, dT ss, .box (pL 0)]) (fun k => [(1, .ref 3), (2, iA n), (3, .ptr 4 0), (6, bA false), (7, iA k)]) 0 (by simp) (C2.at G _ _) ?_; clear G; intro k ρ a w hp G; have hlen : ss.length <= 9223372036854775807 := G.len 3 (d := .stmts ss) (by kernel_rfl); refine wp_seq (wp_seq (H8 G m0 [(1, .ref 3), (2, iA n), (3, .ptr 4 0), (6, bA false), (7, iA k), (11, bA (decide ((k : Int) < ss.length)))] fun G => b0 (rcD G (fun h0 q0 => ?_) fun h0 q0 => ?_)))
  · refine wp_exit (z7 (z7 (y9 (b0 (wp_seq (r8 G m0 (rg 4) [dI p.vars, dI p.arrays, dT p.body, dT ss] [(6, bA true)] fun G => b0 (wp_ret ?_))))))); exact E1 true G (rg 4) (aB0 hp.2 (by omega))
  refine wp_skip (b0 (wp_seq (wp_block (wp_seq (a74 G (x8 6 [0, 1, 2, 37, 38, 39, 40] (hS (ss.getD k bP0) n (by assumption))) [0, 0, 0, 6, 14, 0, 63, 127] [(21, .v (.bool !m8 p.vars.length p.arrays.length d (ss.getD k bP0)))] (iX k k ss.length []) (iK (by omega) bP7) fun G => b0 ?_))))); cases h1 : (!m8 p.vars.length p.arrays.length d (ss.getD k bP0))
  · have q1 : (m8 p.vars.length p.arrays.length d (ss.getD k bP0)) = true := (Eq.mp (bQ2 _) h1); refine rF G _ h1 (wp_skip (B9 (b0 (L0 G m0 [(7, iA ((k : Int) + 1))] [wO ((k : Int) + 1)] (o1 (by omega)) fun G => b0 ?_)))); exact rxn G (k + 1) (⟨by omega, aU2 hp.2 (by omega) (by assumption)⟩) (by omega) (rg 5)
  have q1 : (m8 p.vars.length p.arrays.length d (ss.getD k bP0)) = false := (Eq.mp (bQ1 _) h1); refine rT G _ h1 (wp_seq (o0 G m0 [] fun G => b0 (wp_ret (E6 (n8 (n8 (E6 (n8 ?_)))))))); exact E1 false G (rg 4) (bJ4 (k := k) (by omega) (by with_reducible assumption))
theorem a36 (p : o6) : ∀ (d : Nat), d <= 5 -> ∀ (s : b7) (n : Int), n = d -> r7.ok Tryz.prog (vsC p d s n)
 | 0, _, s, n, hn => a69 p s n hn
 | d + 1, hd, s, n, hn => be3 p d (fun ss n hn => aE6 p d (by omega) (a36 p d (by omega)) ss n hn) s n hn (by omega)
theorem a96 (p : o6) (ss : List b7) (n : Int) (hn : n = 5) : r7.ok Tryz.prog (N8 36 [pA 0, .ref 3, iA n] (pS p ++ [.dat (.stmts ss)]) (bA (ai9 p.vars.length p.arrays.length 5 ss))) :=
 aE6 p 5 (by omega) (a36 p 5 (by omega)) ss n hn
def F6 : Nat -> List b7 -> Nat
 | 0, ss => ss.length
 | d + 1, ss => ss.length + (ss.map fun s => F6 d s.body + F6 d s.els).sum
def szP (d : Nat) (ss : List b7) (k : Nat) : Nat := ss.length + ((ss.take k).map fun s => F6 d s.body + F6 d s.els).sum
theorem bn1 (d : Nat) (ss : List b7) {k : Nat} (h : ss.length <= k) : szP d ss k = F6 (d + 1) ss := by unfold szP; rw [bQ3 h, F6]
theorem av4 {d : Nat} {ss : List b7} {k : Nat} (h : k < ss.length) : szP d ss (k + 1) = szP d ss k + (F6 d (ss.getD k bP0).body + F6 d (ss.getD k bP0).els) := by
 unfold szP
 rw [D0 ss k h, List.map_append, List.sum_append, t7 h]
 simp; omega
theorem be0 : ∀ (d : Nat) (ss : List b7), F6 d ss <= B7 ss := by
 intro d
 induction d with
 | zero => intro ss; exact aN7 ss
 | succ d ih =>
  intro ss
  induction ss with
  | nil => simp [F6]
  | cons s r ihr =>
   have h1 := ih s.body
   have h2 := ih s.els
   have h3 := aE1 s
   simp only [F6, bS0, List.sum_cons, bO9, B7] at ihr ⊢
   have h4 : B7 s.body + B7 s.els <= szS s := by
    rcases s with ⟨_, _, _, _, _, b, e⟩
    simp only [szS, b7.body, b7.els]; omega
   omega
theorem aV2 {d : Nat} {ss : List b7} {k : Nat} : szP d ss k <= B7 ss := by
 refine bO6 ?_ (be0 (d + 1) ss)
 unfold szP
 rw [F6]
 have : ∀ (l : List Nat) (k : Nat), (l.take k).sum <= l.sum := fun l k => by
  have := List.sum_append (l₁ := l.take k) (l₂ := l.drop k)
  rw [List.take_append_drop] at this; omega
 have h := this (ss.map fun s => F6 d s.body + F6 d s.els) k
 rw [<- List.map_take] at h
 omega
theorem a59 {ss : List b7} {k B : Nat} (h : B7 ss <= B) (hk : k < ss.length) : B7 (ss.getD k bP0).body <= B /\ B7 (ss.getD k bP0).els <= B := by
 rw [t7 hk]
 have h1 := bn0 (bP5 hk)
 have h2 := aE1 ss[k]
 omega
theorem a93 (ss : List b7) (n : Int) (hn : n = 1) (hb : B7 ss <= 1000000000000000000) : r7.ok Tryz.prog (N8 37 [.ref 0, iA n] [.dat (.stmts ss)] (iA (F6 0 ss : Nat))) := by
 have h100 : decide (n > 1) = false := by simp; omega
 refine M7 39 Tryz.func37 [dT ss] [(0, .ref 0), (1, iA n)] fun G => ?_; refine wp_seq (o0 G m0 [(4, iA 0)] fun G => b0 (wp_seq (o0 G m0 [(5, iA (ss.length : Int))] fun G => b0 (wp_seq (wp_seq (H8 G m0 [(0, .ref 0), (1, iA n), (4, iA 0), (5, iA (ss.length : Int)), (6, iA 0)] fun G => b0 (wp_block ?_))))))); refine G5 (κ := Nat) (fun k => k = 0) (fun k => 0) (fun k => [dT ss]) (fun k => [(0, .ref 0), (1, iA n), (4, iA 0), (5, iA (ss.length : Nat)), (6, iA k)]) 0 (by kernel_rfl) (C2.at G _ _) ?_; clear G; intro k ρ a w hp G; replace G := C2.at G [dT ss] [(0, .ref 0), (1, iA n), (4, iA 0), (5, iA (ss.length : Int)), (6, iA k)]; refine wp_seq (wp_seq ?_); cases h0 : (decide ((k : Int) < ss.length))
 ·have q0 := R5 h0; refine o0 G (D7 (fc h0 fz) [(5, 0), (6, 0), (1007, 0)]) [(16, bA false)] fun G => b0 (rF G false (by kernel_rfl) (wp_exit (z7 (z7 (y9 (b0 (wp_seq (o0 G m0 [(4, iA (ss.length : Int))] fun G => b0 (wp_ret ?_))))))))); exact Z0 G [0]
 have q0 := R4 h0; refine o0 G (D7 (fc h0 fz) [(5, 0), (6, 0), (1007, 0)]) [(16, bA (decide (n > 1)))] fun G => b0 (rF G (decide (n > 1)) (by assumption) (wp_exit (z7 (z7 (y9 (b0 (wp_seq (o0 G m0 [(4, iA (ss.length : Int))] fun G => b0 (wp_ret ?_))))))))); exact Z0 G [0]
theorem a91 (d : Nat) (hd : d <= 5) (ih : ∀ (ss : List b7) (n : Int), n = (d + 1 : Nat) -> B7 ss <= 1000000000000000000 -> r7.ok Tryz.prog (N8 37 [.ref 0, iA n] [.dat (.stmts ss)] (iA (F6 d ss : Nat))))
  (ss : List b7) (n : Int) (hn : n = (d + 2 : Nat)) (hb : B7 ss <= 1000000000000000000) : r7.ok Tryz.prog (N8 37 [.ref 0, iA n] [.dat (.stmts ss)] (iA (F6 (d + 1) ss : Nat))) := by
 have h100 : decide (n > 1) = true := by simp; omega
 refine M7 39 Tryz.func37 [dT ss] [(0, .ref 0), (1, iA n)] fun G => ?_; refine wp_seq (o0 G m0 [(4, iA 0)] fun G => b0 (wp_seq (o0 G m0 [(5, iA (ss.length : Int))] fun G => b0 (wp_seq (wp_seq (H8 G m0 [(0, .ref 0), (1, iA n), (4, iA 0), (5, iA (ss.length : Int)), (6, iA 0)] fun G => b0 (wp_block ?_))))))); refine G5 (κ := Nat) (fun k => k <= ss.length) (fun k => ss.length - k) (fun k => [dT ss]) (fun k => [(0, .ref 0), (1, iA n), (4, iA 0), (5, iA (szP d ss k : Nat)), (6, iA k)]) 0 (by omega) (C2.at G _ _) ?_; clear G; intro k ρ a w hp G; replace G := C2.at G [dT ss] [(0, .ref 0), (1, iA n), (4, iA 0), (5, iA (↑(szP d ss k) : Int)), (6, iA k)]; have hlen := aN7 ss; refine wp_seq (wp_seq ?_); cases h0 : (decide ((k : Int) < ss.length))
 ·have q0 := R5 h0; refine o0 G (D7 (fc h0 fz) [(5, 0), (6, 0), (1007, 0)]) [(16, bA false)] fun G => b0 (rF G false (by kernel_rfl) (wp_exit (z7 (z7 (y9 (b0 (wp_seq (o0 G m0 [(4, iA (↑(szP d ss k) : Int))] fun G => b0 (wp_ret ?_))))))))); exact rxI ((↑(szP d ss k) : Int)) G [0] (by have h1 := bn1 d ss (k := k) (by omega); omega)
 have q0 := R4 h0; refine o0 G (D7 (fc h0 fz) [(5, 0), (6, 0), (1007, 0)]) [(16, bA (decide (n > 1)))] fun G => b0 (rT G (decide (n > 1)) (by assumption) (wp_skip (b0 (wp_seq (wp_block (a74 G (E3 (v6 8 [41] (ih ((ss.getD k bP0).body) (n - 1) (by omega) ((a59 hb (by omega)).1)) (v6 17 [113] (ih ((ss.getD k bP0).els) (n - 1) (by omega) ((a59 hb (by omega)).2)) E2)) fz []) [0, 0, 0, 6, 14, 30, 0, 64, 254, 511, 0, 0, 3072, 7168, 15360, 0, 32768, 130558, 262143, 524287] [(5, iA ((↑(szP d ss k) : Int) + (↑(F6 d (ss.getD k bP0).body) : Int) + (↑(F6 d (ss.getD k bP0).els) : Int)))] (iX k k ss.length ((wO (n - 1)) :: ((wO ((↑(szP d ss k) : Int) + (↑(F6 d (ss.getD k bP0).body) : Int))) :: (iX k k ss.length ((wO (n - 1)) :: ((wO ((↑(szP d ss k) : Int) + (↑(F6 d (ss.getD k bP0).body) : Int) + (↑(F6 d (ss.getD k bP0).els) : Int))) :: [])))))) (iK (by omega) ⟨oW (by omega), ⟨(by have h1 := av4 (d := d) (ss := ss) (k := k) (by omega); have h2 := aV2 (d := d) (ss := ss) (k := k + 1); exact w64 (by omega) (by omega)), (iK (by omega) ⟨oW (by omega), ⟨(by have h1 := av4 (d := d) (ss := ss) (k := k) (by omega); have h2 := aV2 (d := d) (ss := ss) (k := k + 1); exact w64 (by omega) (by omega)), bP7⟩⟩)⟩⟩) fun G => B9 (b0 (L0 G m0 [(6, iA ((k : Int) + 1))] [wO ((k : Int) + 1)] (o1 (by omega)) fun G => b0 ?_)))))))); exact rxn G (k + 1) (by omega) (by omega) [0] (ht := by have e1 : ((↑(szP d ss (k + 1)) : Int) : Int) = ((↑(szP d ss k) : Int) + (↑(F6 d (ss.getD k bP0).body) : Int) + (↑(F6 d (ss.getD k bP0).els) : Int)) := (by have h1 := av4 (d := d) (ss := ss) (k := k) (by omega); have h2 := aV2 (d := d) (ss := ss) (k := k + 1); omega); (first | rw [e1] | simp only [e1]) <;> rfl)
theorem a92 : ∀ d, d <= 5 -> ∀ (ss : List b7) (n : Int), n = (d + 1 : Nat) -> B7 ss <= 1000000000000000000 -> r7.ok Tryz.prog (N8 37 [.ref 0, iA n] [.dat (.stmts ss)] (iA (F6 d ss : Nat))) := by
 intro d
 induction d with
 | zero => intro _ ss n hn hb; exact a93 ss n (by omega) hb
 | succ d ih => intro hd ss n hn hb; exact a91 d (by omega) (fun ss n hn hb => ih (by omega) ss n hn hb) ss n (by omega) hb
theorem bl8 (ss : List b7) (n : Int) (hn : n = 5) (hb : B7 ss <= 1000000000000000000) : r7.ok Tryz.prog (N8 37 [.ref 0, iA n] [.dat (.stmts ss)] (iA (F6 4 ss : Nat))) :=
 a92 4 (by omega) ss n (by omega) hb
theorem be1 {nv na : Nat} : ∀ (d : Nat) (ss : List b7), (∀ s ∈ ss, m8 nv na (d + 1) s = true) -> F6 d ss = T6 ss := by
 intro d
 induction d with
 | zero => intro ss h; rw [aR7 h]; rfl
 | succ d ih =>
  intro ss
  induction ss with
  | nil => intro _; rfl
  | cons s r ihr =>
   intro h
   have h1 := T3 (h s bQ4)
   have h2 := ih s.body fun x hx => bQ0.1 h1.1 x hx
   have h3 := ih s.els fun x hx => bQ0.1 h1.2 x hx
   have h4 := ihr fun x hx => h x (bR1 _ hx)
   rw [T6, Z7, <- h2, <- h3, <- h4]
   simp [F6]; omega
theorem ar2 {p : o6} (h : F7 p.vars p.arrays = false) : A7 p = false := by simp [A7, h]
theorem aP4 {p : o6} (h : ai9 p.vars.length p.arrays.length 5 p.body = false) : A7 p = false := by simp [A7, h]
theorem aW5 {p : o6} (h1 : F7 p.vars p.arrays = true) (h2 : ai9 p.vars.length p.arrays.length 5 p.body = true) : A7 p = decide ((F6 4 p.body : Int) <= 60) := by
 have h3 := be1 (nv := p.vars.length) (na := p.arrays.length) 4 p.body (fun x hx => bQ0.1 h2 x hx)
 rw [A7, h1, h2, h3]
 simp
 exact ⟨fun h => by omega, fun h => by omega⟩
theorem aT2 (p : o6) (n : Int) (hn : n = 5) : r7.ok Tryz.prog (N8 36 [pA 0, .ref 2, iA n] (pS p) (bA (ai9 p.vars.length p.arrays.length 5 p.body))) :=
 r7.dup (S := pS p) (S' := pS p) (d := .stmts p.body) (i := 2) (a96 p p.body n hn) rfl rfl rfl (fun ρ h => by simp only [AV.vals, AV.val]; rw [show ρ 3 = ρ 2 from h]) rfl
theorem at0 (p : o6) (hb : B7 p.body <= 1000000000000000000) : r7.ok Tryz.prog (N8 14 [pA 0] (pS p) (bA (A7 p))) := by
  refine M7 17 Tryz.func14 [dI p.vars, dI p.arrays, dT p.body] [(0, pA 0)] fun G => ?_; refine wp_seq (r8 G m0 (rg 4) [dI p.vars, dI p.arrays, dT p.body, .box (pL 0)] [(1, .ptr 3 0), (2, bA false)] fun G => b0 (wp_seq ?_)); cases h0 : (F7 p.vars p.arrays)
  · refine r8 G (E3 (v6 1 [0, 1, 2] (ap5 p) E2) (fc h0 (fc (b := false) rfl fz)) (us [(3, 6, 0), (1007, 1007, 0), (9, 12, 1), (1013, 1013, 1)])) [0, 1, 2] [dI p.vars, dI p.arrays, dT p.body] [(2, bA false)] fun G => b0 (wp_ret ?_); exact E1 false G [0, 1, 2] (ar2 (by assumption))
  cases h1 : (ai9 p.vars.length p.arrays.length (5 : Nat) p.body)
  · refine r8 G (E3 (v6 1 [0, 1, 2] (ap5 p) (v6 6 [0, 1, 2] (aT2 p 5 (by kernel_rfl)) E2)) (fc h0 (fc h1 fz)) (us [(3, 6, 0), (1007, 1007, 0), (9, 12, 1), (1013, 1013, 1)])) [0, 1, 2] [dI p.vars, dI p.arrays, dT p.body] [(2, bA false)] fun G => b0 (wp_ret ?_); exact E1 false G [0, 1, 2] (aP4 (by assumption))
  refine r8 G (E3 (v6 1 [0, 1, 2] (ap5 p) (v6 6 [0, 1, 2] (aT2 p 5 (by kernel_rfl)) (v6 11 [2] (bl8 p.body 5 (by kernel_rfl) (by assumption)) E2))) (fc h0 (fc h1 fz)) (us [(3, 6, 0), (1007, 1007, 0), (9, 12, 1), (1013, 1013, 1)])) [0, 1, 2] [dI p.vars, dI p.arrays, dT p.body] [(2, bA (decide ((↑(F6 4 p.body) : Int) <= 60)))] fun G => b0 (wp_ret ?_); exact E1 (decide ((↑(F6 4 p.body) : Int) <= 60)) G [0, 1, 2] (aW5 (by assumption) (by assumption))
def N7 (nv na : Nat) (s : b7) : Bool := p8 s &&
    (if s.kind = 1 \/ s.kind = 5 then decide (0 <= s.target) && decide (s.target < nv) && n7 nv na s.value
     else if s.kind = 2 then decide (0 <= s.target) && decide (s.target < na) && n7 nv na s.index && J9 s.index && n7 nv na s.value
     else if s.kind = 3 then n7 nv na s.value
     else decide (s.kind = 4))
theorem av8 {nv na d : Nat} {s : b7} : m8 nv na (d + 1) s = (N7 nv na s && (s.body.all (m8 nv na d) && s.els.all (m8 nv na d))) := by
 rw [bR9]
 constructor
 ·intro h
  have h1 := T3 h
  rw [h1.1, h1.2, Bool.and_true, Bool.and_true]
  rw [m8, bO8] at h
  rw [N7, h.1, Bool.true_and]
  obtain ⟨-, h⟩ := h
  split at h
  ·rw [if_pos (by assumption)]; exact h
  split at h
  ·rw [if_neg (by assumption), if_pos (by assumption)]; exact h
  split at h
  ·rw [if_neg (by assumption), if_neg (by assumption), if_pos (by assumption)]
   simp only [bO8] at h; exact h.1.1
  split at h
  ·rw [if_neg (by assumption), if_neg (by assumption), if_neg (by assumption)]; simp [*]
  simp at h
 intro h
 simp only [bO8] at h
 obtain ⟨h, hb, he⟩ := h
 rw [N7, bO8] at h
 obtain ⟨h0, h⟩ := h
 rw [m8, h0, Bool.true_and]
 split at h
 ·rw [if_pos (by assumption)]; exact h
 split at h
 ·rw [if_neg (by assumption), if_pos (by assumption)]; exact h
 split at h
 ·rw [if_neg (by assumption), if_neg (by assumption), if_pos (by assumption), h, hb, he]; rfl
 rw [if_neg (by assumption), if_neg (by assumption), if_neg (by assumption), if_pos (by simpa using h), hb]
def D5 (F : Nat -> b7 -> Bool × Nat) : Nat -> List b7 -> Bool × Nat
 | c, [] => (true, c)
 | c, s :: r => if (F c s).1 then D5 F (F c s).2 r else F c s
def y6 (nv na : Nat) : Nat -> Nat -> b7 -> Bool × Nat
 | 0, c, _ => (false, c + 1)
 | d + 1, c, s => if 60 < c + 1 then (false, c + 1) else if N7 nv na s then
   (if (D5 (y6 nv na d) (c + 1) s.body).1 then D5 (y6 nv na d) (D5 (y6 nv na d) (c + 1) s.body).2 s.els else D5 (y6 nv na d) (c + 1) s.body)
   else (false, c + 1)
abbrev o5 (nv na d c : Nat) (ss : List b7) : Bool × Nat := D5 (y6 nv na d) c ss
theorem aa2 (F : Nat -> b7 -> Bool × Nat) : ∀ (a b : List b7) (c : Nat), D5 F c (a ++ b) = if (D5 F c a).1 then D5 F (D5 F c a).2 b else D5 F c a
 | [], b, c => by simp [D5]
 | x :: r, b, c => by
  simp only [List.cons_append, D5]
  by_cases h : (F c x).1 = true
  ·simp only [h, if_true]; exact aa2 F r b _
  simp [h]
theorem ai4 {F : Nat -> b7 -> Bool × Nat} {c k : Nat} {ss : List b7} (h : (D5 F c (ss.take k)).1 = true) (hk : k < ss.length) : D5 F c (ss.take (k + 1)) = F (D5 F c (ss.take k)).2 (ss.getD k bP0) := by
 rw [A1 _ _ hk, aa2, if_pos h, t7 hk]
 simp only [D5]
 split
 ·rename_i h; exact Prod.ext h.symm rfl
 rfl
theorem ay9 {F : Nat -> b7 -> Bool × Nat} {c k : Nat} {ss : List b7} (h : (D5 F c (ss.take k)).1 = true) (hk : k < ss.length) (hf : (F (D5 F c (ss.take k)).2 (ss.getD k bP0)).1 = false) : D5 F c ss = F (D5 F c (ss.take k)).2 (ss.getD k bP0) := by
 conv => lhs; rw [<- List.take_append_drop (k + 1) ss]
 rw [aa2, ai4 h hk, hf]
 rfl
theorem az0 {F : Nat -> b7 -> Bool × Nat} {c k : Nat} {ss : List b7} (hk : ss.length <= k) : D5 F c (ss.take k) = D5 F c ss := by rw [bQ3 hk]
theorem al2 {F : Nat -> b7 -> Bool × Nat} (hF : ∀ c s, c <= 60 -> (F c s).2 <= 61 /\ ((F c s).1 = true -> (F c s).2 <= 60)) : ∀ (ss : List b7) (c : Nat), c <= 60 -> (D5 F c ss).2 <= 61 /\ ((D5 F c ss).1 = true -> (D5 F c ss).2 <= 60)
 | [], c, h => ⟨by simp only [D5]; omega, fun _ => by simp only [D5]; omega⟩
 | s :: r, c, h => by
  simp only [D5]
  by_cases h1 : (F c s).1 = true
  ·rw [if_pos h1]; exact al2 hF r _ ((hF c s h).2 h1)
  rw [if_neg h1]; exact hF c s h
theorem aj4 {nv na : Nat} : ∀ (d c : Nat) (s : b7), c <= 60 -> (y6 nv na d c s).2 <= 61 /\ ((y6 nv na d c s).1 = true -> (y6 nv na d c s).2 <= 60)
 | 0, c, s, h => by simp [y6]; omega
 | d + 1, c, s, h => by
  rw [y6]
  by_cases h1 : 60 < c + 1
  ·rw [if_pos h1]; simp; omega
  rw [if_neg h1]
  by_cases h2 : N7 nv na s = true
  ·rw [if_pos h2]
   have h3 := al2 (aj4 (nv := nv) (na := na) d) s.body (c + 1) (by omega)
   by_cases h4 : (D5 (y6 nv na d) (c + 1) s.body).1 = true
   ·rw [if_pos h4]; exact al2 (aj4 d) s.els _ (h3.2 h4)
   rw [if_neg h4]; exact h3
  rw [if_neg h2]; simp; omega
theorem P5 {nv na d c : Nat} {ss : List b7} (h : c <= 60) (h1 : (o5 nv na d c ss).1 = true) : (o5 nv na d c ss).2 <= 60 := (al2 (aj4 d) ss c h).2 h1
section
variable {nv na d c : Nat} {s : b7}
theorem ah5 (h : 60 < c + 1) : y6 nv na d c s = (false, c + 1) := by cases d with
 | zero => rfl
 | succ d => rw [y6, if_pos h]
theorem l9 (h : N7 nv na s = false) : y6 nv na d c s = (false, c + 1) := by cases d with
 | zero => rfl
 | succ d => rw [y6, h]; simp
theorem F5 (h1 : c + 1 <= 60) (h : N7 nv na s = true) (h2 : (o5 nv na d (c + 1) s.body).1 = false) : y6 nv na (d + 1) c s = o5 nv na d (c + 1) s.body := by
 rw [y6, if_neg (by omega), if_pos h, if_neg (by simp [h2])]
theorem I1 (h1 : c + 1 <= 60) (h : N7 nv na s = true) (h2 : (o5 nv na d (c + 1) s.body).1 = true) : y6 nv na (d + 1) c s = o5 nv na d (o5 nv na d (c + 1) s.body).2 s.els := by
 rw [y6, if_neg (by omega), if_pos h, if_pos h2]
end
theorem al3 {nv na d : Nat} (hF : ∀ c s, c <= 60 -> ((y6 nv na d c s).1 = (m8 nv na d s && decide (c + nS s <= 60))) /\ ((y6 nv na d c s).1 = true -> (y6 nv na d c s).2 = c + nS s)) : ∀ (ss : List b7) (c : Nat), c <= 60 -> ((o5 nv na d c ss).1 = (ss.all (m8 nv na d) && decide (c + T6 ss <= 60))) /\ ((o5 nv na d c ss).1 = true -> (o5 nv na d c ss).2 = c + T6 ss)
 | [], c, h => by simp [D5, T6, h]
 | s :: r, c, h => by
  obtain ⟨h1, h2⟩ := hF c s h
  simp only [o5, D5]
  by_cases h3 : (y6 nv na d c s).1 = true
  ·rw [if_pos h3]
   have e := h2 h3
   have l := (aj4 d c s h).2 h3
   obtain ⟨h4, h5⟩ := al3 hF r (y6 nv na d c s).2 l
   rw [h1, bO8] at h3
   constructor
   ·rw [show D5 (y6 nv na d) (y6 nv na d c s).2 r = o5 nv na d (y6 nv na d c s).2 r from rfl, h4, List.all_cons, h3.1, Bool.true_and, e, T6, Nat.add_assoc]
   intro h6; rw [show D5 (y6 nv na d) (y6 nv na d c s).2 r = o5 nv na d (y6 nv na d c s).2 r from rfl, h5 h6, e, T6]; omega
  rw [if_neg h3]
  refine ⟨?_, fun h => absurd h h3⟩
  have h4 := h3
  rw [h1] at h4
  rw [Bool.eq_false_iff.2 h3, List.all_cons, T6]
  cases ha : m8 nv na d s
  ·simp
  rw [ha, Bool.true_and, decide_eq_true_eq] at h4
  rw [Bool.true_and, show decide (c + (nS s + T6 r) <= 60) = false from decide_eq_false (by omega), Bool.and_false]
theorem av7 {nv na : Nat} : ∀ (d c : Nat) (s : b7), c <= 60 -> ((y6 nv na d c s).1 = (m8 nv na d s && decide (c + nS s <= 60))) /\ ((y6 nv na d c s).1 = true -> (y6 nv na d c s).2 = c + nS s)
 | 0, c, s, h => by simp [y6, m8]
 | d + 1, c, s, h => by
  have hs := Z7 s
  by_cases h1 : 60 < c + 1
  ·rw [ah5 h1, show decide (c + nS s <= 60) = false from decide_eq_false (by omega), Bool.and_false]; simp
  cases h2 : N7 nv na s
  ·rw [l9 h2, av8, h2]; simp
  obtain ⟨b1, b2⟩ := al3 (av7 (nv := nv) (na := na) d) s.body (c + 1) (by omega)
  rw [av8, h2, Bool.true_and]
  cases h3 : (o5 nv na d (c + 1) s.body).1
  ·rw [F5 (by omega) h2 h3, h3]
   refine ⟨?_, fun h => by simp at h⟩
   rw [h3] at b1
   cases h4 : s.body.all (m8 nv na d)
   ·simp
   rw [h4, Bool.true_and] at b1
   have := of_decide_eq_false b1.symm
   rw [show decide (c + nS s <= 60) = false from decide_eq_false (by omega), Bool.and_false]
  rw [I1 (by omega) h2 h3]
  have e := b2 h3
  have l := P5 (nv := nv) (na := na) (d := d) (c := c + 1) (by omega) h3
  obtain ⟨e1, e2⟩ := al3 (av7 (nv := nv) (na := na) d) s.els _ l
  rw [h3] at b1
  have b3 := b1.symm
  rw [bO8] at b3
  rw [b3.1, Bool.true_and, e1, e]
  refine ⟨by rw [show c + 1 + T6 s.body + T6 s.els = c + nS s by omega], fun h => ?_⟩
  have h' : (o5 nv na d (o5 nv na d (c + 1) s.body).2 s.els).1 = true := by rw [e1, e]; exact h
  have := e2 h'
  rw [e] at this
  rw [this]; omega
theorem aN9 {p : o6} (h : F7 p.vars p.arrays = true) : (o5 p.vars.length p.arrays.length 5 0 p.body).1 = A7 p := by
 rw [(al3 (av7 5) p.body 0 (by omega)).1, A7, h, Bool.true_and, ai9]; simp
theorem bs3 (p : o6) (s : b7) (c : Nat) (hc : c <= 60) (n : Int) (hn : n = 6) : r7.ok Tryz.prog ⟨63, [pA 0, sA s 4, iA n, .ptr 3 0], pS p ++ [.box [iA c]] ++ sS s, pS p ++ [.box [iA (y6 p.vars.length p.arrays.length 0 c s).2]] ++ sS s, bA false⟩ := by
 have h100 : decide (n > 5) = true := by simp; omega
 refine M7 149 Tryz.func63 [dI p.vars, dI p.arrays, dT p.body, .box [iA c], dE s.index.kids, dE s.value.kids, dT s.body, dT s.els] [(0, pA 0), (1, sA s 4), (2, iA n), (3, .ptr 3 0)] fun G => ?_; refine wp_seq (r8 G m0 [0, 1, 2, 3, 4, 5, 6, 7, 8, 16] [dI p.vars, dI p.arrays, dT p.body, .box [iA c], dE s.index.kids, dE s.value.kids, dT s.body, dT s.els, .box (pL 0), .box (sL s 4)] [(2, iA n), (3, .ptr 3 0), (4, .ptr 8 0), (5, .ptr 9 0), (8, bA false)] fun G => b0 (wp_seq (K9 G m0 (rg 10) [dI p.vars, dI p.arrays, dT p.body, .box [iA ((c : Int) + 1)], dE s.index.kids, dE s.value.kids, dT s.body, dT s.els, .box (pL 0), .box (sL s 4)] [(2, iA n), (3, .ptr 3 0), (4, .ptr 8 0), (5, .ptr 9 0), (8, bA false)] [wO ((c : Int) + 1)] (o1 (by omega)) fun G => b0 (wp_seq (wp_seq ?_))))); cases h0 : (decide ((c : Int) + 1 > 60))
 ·have q0 := R5 h0; refine o0 G (D7 (fc h0 fz) [(5, 0), (6, 0), (1007, 0)]) [(27, bA (decide (n > 5)))] fun G => b0 (rT G (decide (n > 5)) (by assumption) (wp_seq (o0 G m0 [] fun G => b0 (wp_ret (n8 ?_))))); exact Z0 G (rg 8)
 have q0 := R4 h0; refine o0 G (D7 (fc h0 fz) [(5, 0), (6, 0), (1007, 0)]) [(27, bA true)] fun G => b0 (rT G true (by kernel_rfl) (wp_seq (o0 G m0 [] fun G => b0 (wp_ret (n8 ?_))))); exact Z0 G (rg 8)
theorem aZ3 : r7.ok Tryz.prog (N8 32 [.ref 0] [dT []] (tA (f9 []))) := by
 refine M7 97 Tryz.func32 [dT []] [(0, .ref 0)] fun G => ?_; refine wp_seq (o0 G m0 [(2, .v (.string (ByteArray.mk #[])))] fun G => b0 (wp_seq (o0 G m0 [(3, .v (.string (ByteArray.mk #[])))] fun G => b0 (wp_seq (wp_seq (H8 G m0 [(0, .ref 0), (2, .v (.string (ByteArray.mk #[]))), (3, .v (.string (ByteArray.mk #[]))), (4, iA 0)] fun G => b0 (wp_block ?_))))))); refine G5 (κ := Nat) (fun k => k = 0) (fun k => 0) (fun k => [dT []]) (fun k => [(0, .ref 0), (2, .v (.string (ByteArray.mk #[]))), (3, .v (.string (b5 []))), (4, iA k)]) 0 (by kernel_rfl) (C2.at G _ _) ?_; clear G; intro k ρ a w hp G; refine wp_seq (wp_seq (o0 G m0 [(9, bA false)] fun G => b0 (rF G false (by kernel_rfl) (wp_exit (z7 (z7 (y9 (b0 (wp_seq (o0 G m0 [(2, .v (.string (b5 [])))] fun G => b0 (wp_ret ?_))))))))))); exact Z0 G [0]
theorem aQ8 (nv na : Nat) (hnv : nv <= 12) (hna : na <= 2) : ∀ (d : Nat) (ss : List b7), (∀ s ∈ ss, m8 nv na d s = true) -> T6 ss <= 60 -> r7.ok Tryz.prog (N8 32 [.ref 0] [dT ss] (tA (f9 ss)))
 | 0, [], _, _ => aZ3
 | 0, s :: r, h, _ => by have := h s bQ4; simp [m8] at this
 | d + 1, ss, h, hn => a71 nv na d hnv hna (aQ8 nv na hnv hna d) ss h hn
theorem aQ6 {ls : List Int} (k : Nat) : (s2 (ls.take k)).length <= ls.length := by
 unfold s2; rw [List.length_map]; exact List.length_take_le' k ls
theorem aF4 {l : Int} (h : w9 l = true) : 0 <= l /\ l <= 3 := by
 unfold w9 at h
 simpa only [bO8, decide_eq_true_eq] using h
theorem bi1 {ls : List Int} (h : ls.all w9 = true) {k : Nat} (hk : k < ls.length) : w9 (ls.getD k 0) = true := by
 rw [t7 hk]; exact bQ0.1 h _ (bP5 hk)
theorem bN0 {ls : List Int} {k : Nat} (hk : k < ls.length) (h : w9 (ls.getD k 0) = true) : b5 (s2 (ls.take k)) ++ ByteArray.extract ⟨#[76, 72, 85, 88]⟩ (ls.getD k 0).toNat (ls.getD k 0 + 1).toNat = b5 (s2 (ls.take (k + 1))) := by
 rw [br0 h, ay3 hk, L6]
abbrev aD0 : AV := .v (.string (ByteArray.mk #[]))
theorem ae2 (ls : List Int) (h : ls.all w9 = true) (hl : ls.length <= 1000) : r7.ok Tryz.prog (N8 31 [.ref 0] [dI ls] (tA (s2 ls))) := by
 refine M7 30 Tryz.func31 [dI ls] [(0, .ref 0)] fun G => ?_; refine wp_seq (o0 G m0 [(2, aD0)] fun G => b0 (wp_seq (o0 G m0 [(3, aD0)] fun G => b0 (wp_seq (wp_seq (H8 G m0 [(0, .ref 0), (2, aD0), (3, aD0), (4, iA 0)] fun G => b0 (wp_block ?_))))))); refine G5 (κ := Nat) (fun k => k <= ls.length) (fun k => ls.length - k) (fun k => [dI ls]) (fun k => [(0, .ref 0), (2, .v (.string (ByteArray.mk #[]))), (3, .v (.string (b5 (s2 (ls.take k))))), (4, iA k)]) 0 (by omega) (C2.at G _ _) ?_; clear G; intro k ρ a w hp G; replace G := C2.at G [dI ls] [(0, .ref 0), (2, aD0), (3, .v (.string (b5 (s2 (bP6 k ls))))), (4, iA k)]; have ht := aQ6 (ls := ls) k; refine wp_seq (wp_seq (H8 G m0 [(0, .ref 0), (2, aD0), (3, .v (.string (b5 (s2 (bP6 k ls))))), (4, iA k), (8, bA (decide ((k : Int) < ls.length)))] fun G => b0 ?_)); cases h0 : (decide ((k : Int) < ls.length))
 ·have q0 := R5 h0; refine rF G _ h0 (wp_exit (z7 (z7 (y9 (b0 (wp_seq (o0 G m0 [(2, .v (.string (b5 (s2 (bP6 k ls)))))] fun G => b0 (wp_ret ?_)))))))); exact K2 (.v (.string (b5 (s2 (bP6 k ls))))) G [0] (by show _ = AV.ren (nth [0]) (.v (.string (b5 (s2 ls)))); have e1 : (b5 (s2 ls) : ByteArray) = (b5 (s2 (bP6 k ls))) := (by rw [bQ3 (by omega)]); (first | rw [e1] | simp only [e1]) <;> rfl)
 have q0 := R4 h0; have hb := bi1 h (show k < ls.length by omega); have hb2 := aF4 hb; refine rT G _ h0 (wp_skip (b0 (wp_seq (wp_block (wp_seq (wp_seq (L0 G (x8 4 [] (aM0 (ls.getD k 0))) [(16, .v (.bool !w9 (ls.getD k 0)))] (iX k k ls.length []) (iK (by omega) bP7) fun G => b0 (rF G (!w9 (ls.getD k (0 : Int))) (by rw [hb]; rfl) (wp_skip (b0 (a74 G m0 [0, 0, 0, 6, 14, 0, 0, 96, 224, 480, 1022, 2047, 4095] [(3, .v (.string (b5 (s2 (bP6 k ls)) ++ (ByteArray.mk #[76, 72, 85, 88]).extract (ls.getD k 0).toNat (ls.getD k 0 + 1).toNat)))] (iX k k ls.length (iX k k ls.length ((wO (ls.getD k (0 : Int) + 1)) :: (((0 : Int) <= ls.getD k (0 : Int)) :: ((ls.getD k (0 : Int) <= ls.getD k (0 : Int) + 1) :: ((ls.getD k (0 : Int) + 1 <= ((ByteArray.mk #[(76 : UInt8), (72 : UInt8), (85 : UInt8), (88 : UInt8)]).size : Int)) :: (((↑((b5 (s2 (bP6 k ls))).size + ((ByteArray.mk #[(76 : UInt8), (72 : UInt8), (85 : UInt8), (88 : UInt8)]).extract (ls.getD k (0 : Int)).toNat (ls.getD k (0 : Int) + 1).toNat).size) : Int) <= 9223372036854775807) :: []))))))) (iK (by omega) (iK (by omega) ⟨oW (by omega), ⟨(by omega), ⟨(by omega), ⟨(by simp only [ByteArray.size_append, ByteArray.size_extract, l8, m5, bP4, bO9, bP2]; omega), ⟨(by simp only [ByteArray.size_append, ByteArray.size_extract, l8, m5, bP4, bO9, bP2]; omega), bP7⟩⟩⟩⟩⟩)) fun G => B9 (b0 (L0 G m0 [(4, iA ((k : Int) + 1))] [wO ((k : Int) + 1)] (o1 (by omega)) fun G => b0 ?_))))))))))))); exact rxn G (k + 1) (by omega) (by omega) [0] (ht := by have e1 : (b5 (s2 (bP6 (k + 1) ls)) : ByteArray) = (b5 (s2 (bP6 k ls)) ++ (ByteArray.mk #[76, 72, 85, 88]).extract (ls.getD k 0).toNat (ls.getD k 0 + 1).toNat) := ((bN0 (by omega) hb).symm); (first | rw [e1] | simp only [e1]) <;> rfl)
theorem aZ7 (l m : List UInt8) : Lib.byteCells (l ++ m) = Lib.byteCells l ++ Lib.byteCells m := by simp [Lib.byteCells]
theorem bi0 {l : Int} (h : w9 l = true) : ∃ n : Nat, l = n /\ n < 4 /\ ((⟨#[76, 72, 85, 88]⟩ : ByteArray).data.toList.getD n 0) = aK9 l := by
 obtain ⟨h0, h1⟩ := aF4 h
 have : l = 0 \/ l = 1 \/ l = 2 \/ l = 3 := by omega
 rcases this with rfl | rfl | rfl | rfl
 ·exact ⟨0, rfl, by omega, by decide +kernel⟩
 ·exact ⟨1, rfl, by omega, by decide +kernel⟩
 ·exact ⟨2, rfl, by omega, by decide +kernel⟩
 exact ⟨3, rfl, by omega, by decide +kernel⟩
theorem ak9 (v : Value) (ls : List Int) (w : World) (h : W7 w v ls.length 1 (ints ls)) (hok : ls.all w9 = true) (hl : ls.length <= 1000) :
  Calls Tryz.prog 51 #[v] w fun e w' => e = .returned (.string ⟨(s2 ls).toArray⟩) /\ Below w.heap.size w w' := by
 obtain ⟨a, cap, rfl, hcap, hn, hcm, hc⟩ := h.open1
 have HR : Hid (W7 w (.slice a ls.length cap) ls.length 1 (ints ls)) := h
 have HAL : Hid (∀ w' : World, W7 w' (.slice a ls.length cap) ls.length 1 (ints ls) -> Calls Tryz.prog 62 #[.slice a ls.length cap] w' fun e w'' => e = .returned (.bool true) /\ w' = w'') := fun w' h' => by
  have HA := N6 _ ls w' h'
  rw [hok] at HA
  exact HA
 have HOK := show Hid _ from hok
 clear h hok
 have hB0 : Lib.IsBuilder 109 5 w.heap.size w.heap.size (Lib.byteCells (s2 (ls.take 0))) (w.alloc (.cells #[.pointer none, .slice none 0 0] 109)) := Lib.fresh_isBuilder _ _ _
 have HB := show Hid _ from hB0
 clear hB0
 go_enter Tryz.func51, Tryz.ntmps51
 go_wp2_with fail
 refine (HAL.out _ HR.out).mono ?_
 rintro e w1 ⟨rfl, rfl⟩
 go_wp2_with fail
 go_loopw [5, 11] (fun _ i wr => ∃ (k : Nat), k <= ls.length /\ i = .int .i64 k /\ Lib.IsBuilder 109 5 w.heap.size w.heap.size (Lib.byteCells (s2 (ls.take k))) wr /\ Below w.heap.size w wr) (fun _ i _ => ls.length - (intOf i).toNat)
 case atStart => exact ⟨0, bR3 _, rfl, HB.out, (Below.refl _ _).alloc (bP9 _) _⟩
 case round =>
  obtain ⟨k, hk, rfl, hbd, hbw⟩ := hrel
  have HBD := show Hid _ from hbd
  clear hbd HB
  by_cases hlt : k < ls.length
  ·obtain ⟨b, off, rfl, hb1, hx⟩ := hc k hlt
   have hlo := bi1 HOK.out hlt
   rw [t7 hlt] at hlo
   obtain ⟨n, hn1, hn4, hn2⟩ := bi0 hlo
   have hxk : (ints ls)[k]? = some (.int .i64 n) := by simp [ints, hlt, hn1]
   rw [hxk, <- (x7 hbw).1 _ _ hb1] at hx
   have HN := show Hid _ from hn2
   have HLN := ay3 hlt
   rw [t7 hlt] at HLN
   have H1 := show Hid _ from HLN
   have hlen : Hid ((Lib.byteCells (s2 (ls.take k))).length + 1 <= 140737488355328) := by
    have h2 := aQ6 (ls := ls) k
    show _ + 1 <= _
    simp only [Lib.byteCells, List.length_map]
    omega
   clear hc hxk hn2 HLN hlo hn1
   go_wp2_with fail
   refine (al9 w.heap.size w.heap.size _ _ _ HBD.out hlen.out hbw.size).mono ?_
   rintro e w1 ⟨rfl, hba, hbb⟩
   have HBA := show Hid _ from hba
   clear hba
   go_wp2_with fail
   refine ⟨⟨k + 1, by omega, by go_num, ?_, hbw.trans hbb⟩, by simp [intOf]; omega⟩
   rw [H1.out, aZ7]
   have h9 := HBA.out
   rw [show (Lib.byteCells [aK9 ls[k]]) = [.int .u8 ((aK9 ls[k]).toNat : Int)] from rfl, <- HN.out]
   have h4 : n = 0 \/ n = 1 \/ n = 2 \/ n = 3 := by omega
   rcases h4 with rfl | rfl | rfl | rfl <;> exact .inr h9
  go_wp2_with fail
  refine (aA6 w.heap.size w.heap.size _ _ HBD.out hbw.size).mono ?_
  rintro e w1 ⟨rfl, hb9⟩
  go_wp2_with fail
  go_ret
  rw [bQ3 (by omega)]
  exact ⟨rfl, hbw.trans hb9⟩
theorem ac0 (ls : List Int) (h : ls.all w9 = true) (hl : ls.length <= 1000) : r7.ok Tryz.prog (N8 51 [.ref 0] [dI ls] (tA (s2 ls))) :=
 L8 fun φ w ρ hd => ak9 (ρ 0) ls w (C4.row (hd 0 _ rfl)) h hl
section
variable {ss : List b7} {k : Nat} (hk : k < ss.length)
include hk
theorem bM4 (hq : (ss.getD k bP0).kind = 1) : b5 (f9 (ss.take k)) ++ (b5 [UInt8.ofNat (97 + (ss.getD k bP0).target.toNat)] ++ ⟨#[58, 61]⟩ ++ b5 (k6 (ss.getD k bP0).value) ++ ⟨#[59]⟩) = b5 (f9 (ss.take (k + 1))) := by
 rw [H3 hk, x9, stT, if_pos hq]; show _ = b5 _; simp only [N5, L6, bR5]
theorem bM0 (hq : (ss.getD k bP0).kind = 5) : b5 (f9 (ss.take k)) ++ (b5 [UInt8.ofNat (97 + (ss.getD k bP0).target.toNat)] ++ ⟨#[33, 61]⟩ ++ b5 (k6 (ss.getD k bP0).value) ++ ⟨#[59]⟩) = b5 (f9 (ss.take (k + 1))) := by
 rw [H3 hk, x9, stT, if_neg (by omega), if_pos hq]; show _ = b5 _; simp only [N5, L6, bR5]
theorem bM3 (hq : (ss.getD k bP0).kind = 2) : b5 (f9 (ss.take k)) ++ (b5 [UInt8.ofNat (80 + (ss.getD k bP0).target.toNat)] ++ ⟨#[91]⟩ ++ b5 (k6 (ss.getD k bP0).index) ++ ⟨#[93, 58, 61]⟩ ++ b5 (k6 (ss.getD k bP0).value) ++ ⟨#[59]⟩) = b5 (f9 (ss.take (k + 1))) := by
 rw [H3 hk, x9, stT, if_neg (by omega), if_neg (by omega), if_pos hq]; show _ = b5 _; simp only [N5, L6, bR5]
theorem bM2 (hq : (ss.getD k bP0).kind = 3) : b5 (f9 (ss.take k)) ++ (⟨#[105, 102]⟩ ++ b5 (k6 (ss.getD k bP0).value) ++ ⟨#[123]⟩ ++ b5 (f9 (ss.getD k bP0).body) ++ ⟨#[125, 123]⟩ ++ b5 (f9 (ss.getD k bP0).els) ++ ⟨#[125]⟩) = b5 (f9 (ss.take (k + 1))) := by
 rw [H3 hk, x9, stT, if_neg (by omega), if_neg (by omega), if_neg (by omega), if_pos hq]; show _ = b5 _; simp only [N5, L6, bR5]
theorem bM1 (hq : (ss.getD k bP0).kind = 4) : b5 (f9 (ss.take k)) ++ (⟨#[114, 101, 112, 101, 97, 116]⟩ ++ b5 (Lib.decDigits (ss.getD k bP0).count.toNat) ++ ⟨#[123]⟩ ++ b5 (f9 (ss.getD k bP0).body) ++ ⟨#[125]⟩) = b5 (f9 (ss.take (k + 1))) := by
 rw [H3 hk, x9, stT, if_neg (by omega), if_neg (by omega), if_neg (by omega), if_neg (by omega)]; show _ = b5 _; simp only [N5, L6, bR5]
end
theorem aw4 {p : o6} (h : A7 p = true) : F7 p.vars p.arrays = true /\ (∀ s ∈ p.body, m8 p.vars.length p.arrays.length 5 s = true) /\ T6 p.body <= 60 := by
 unfold A7 at h
 simp only [bO8, decide_eq_true_eq] at h
 exact ⟨h.1.1, bQ0.1 h.1.2, h.2⟩
theorem ar8 {vs ars : List Int} (h : F7 vs ars = true) : vs.all w9 = true /\ ars.all w9 = true /\ 1 <= vs.length /\ vs.length <= 12 /\ ars.length <= 2 := by
 unfold F7 at h
 simp only [bO8, decide_eq_true_eq] at h
 exact ⟨h.1.1.1.1, h.1.1.1.2, h.1.1.2, h.1.2, h.2⟩
theorem ak5 (ls : List Int) : (s2 ls).length = ls.length := by simp [s2]
theorem bN6 {p : o6} (h : A7 p = true) : b5 (s2 p.vars) ++ ⟨#[47]⟩ ++ b5 (s2 p.arrays) ++ ⟨#[47]⟩ ++ b5 (f9 p.body) = b5 (aa3 p) := by
 unfold aa3; rw [if_pos h, O7]; show _ = b5 _; simp only [N5, L6]
theorem bN7 {p : o6} (h : A7 p = false) : (⟨#[]⟩ : ByteArray) = b5 (aa3 p) := by
 unfold aa3; rw [h]; rfl
end Go.Proofs.YtompcdbfongedaaGreatDoor
