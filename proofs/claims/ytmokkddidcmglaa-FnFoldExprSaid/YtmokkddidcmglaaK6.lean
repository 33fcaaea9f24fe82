/- Part 6: functions on the way, plain laws. Conditions: as said. -/
import Derived.Laws.StructEq
import Derived.Test.YtmokkddidcmglaaK1
import Derived.Test.YtmokkddidcmglaaK2
import Derived.Test.YtmokkddidcmglaaK4
import Derived.Test.YtmokkddidcmglaaK5
set_option maxRecDepth 100000
set_option maxHeartbeats 16000000
set_option linter.unusedVariables false
set_option linter.unusedSimpArgs false
open Bool renaming and_eq_true → bE8, not_eq_false' → bG2, not_eq_true' → bF8
open Inhabited renaming default → bF3
open Int renaming tmod_eq_emod_of_nonneg → bI3
open List renaming all_eq_true → bF5, getD_eq_getElem?_getD → bF2, getElem_mem → bG3, length_append → bH8, length_cons → bH3, mem_cons → bI2, mem_cons_of_mem → bG0, mem_cons_self → bF7, mem_of_getElem? → bE9, take → bG7
open Nat renaming le_trans → bH6, zero_le → bI1
open True renaming intro → bF1

namespace Go.Proofs.Ytmokkddidcmglaa
open Go Go.RowKit
theorem a02 (k x y : Int) (r0 : inV x) (r1 : inV y) : i6.ok Try.prog (J3 71 [iA k, iA x, iA y] [] (iA (n4 k x y))) :=
 Q7 fun φ w ρ h => (af6 k x y w r0.1 r0.2 r1.1 r1.2).mono fun e w' ⟨h1, h2⟩ => ⟨h1, h2 ▸ Below.refl _ _⟩
theorem tmV {x : Int} (h : inV x) : 0 ≤ x.tmod 4 ∧ x.tmod 4 < 4 := by
 have h1 : 0 ≤ x ∧ x ≤ 255 := h
 rw [bI3 (by omega)]; omega
theorem a11 (x y : Int) (r0 : 0 ≤ x ∧ x ≤ 1000) (r1 : inV y) : i6.ok Try.prog (J3 79 [iA x, iA y] [] (iA (x * 4 + y.tmod 4))) := by
 refine E2 10 Try.func79 [] [(0, iA x), (1, iA y)] fun G => ?_; have htm := tmV r1; have hyy : 0 ≤ y ∧ y ≤ 255 := r1; refine wp_seq (l5 G f7 [(4, iA 0)] fun G => b6 (wp_seq (K5 G f7 [(4, iA (x * 4 + y.tmod 4))] [wO (x * 4), (4 : Int) ≠ 0, wO (x * 4 + y.tmod (4 : Int))] ⟨oW (by omega), (by omega), (oW (by omega)), bF1⟩ fun G => b6 (wp_ret ?_)))); exact I7 G []
theorem bk0 (vs : List Int) (rs : List (List Int)) (l : List (Int × Int)) (x y : Int) (r0 : l.length ≤ 5000000) : i6.ok Try.prog ⟨78, [.ptr 0 0, iA x, iA y], [.box [.ref 1, .ref 2, .ref 3], dI vs, dR rs, .row 65 (.events l)], [.box [.ref 1, .ref 2, .ref 4], dI vs, dR rs, .dead, .row 65 (.events (l ++ [(x, y)]))], .tup []⟩ := by
 refine E2 18 Try.func78 [.box (pL 1), dI vs, dR rs, .row 65 (D.events l)] [(0, .ptr 0 0), (1, iA x), (2, iA y)] fun G => ?_; refine W0 G f7 [0, 1, 2, 3, 76] [.box [.ref 1, .ref 2, .ref 4], dI vs, dR rs, .dead, .row 65 (D.events (l ++ ([(x, y)] ++ [])))] [] (aP (l.length + ([(x, y)] ++ []).length) 16 []) (aK (by simp; omega) bF1) fun G => ?_; exact bA5 G (rg 5)
section
variable {nv na d : Nat} {m : w4} {e : b5}
theorem ab9 (hs : d7 nv na (d + 1) e = true) : (e.kids.length : Int) = i8 e.kind ∧ 0 ≤ e.value ∧ e.value < w6 nv na e.kind ∧ e.kids.all (d7 nv na d) = true := by
 obtain ⟨k, v, ks⟩ := e
 exact P0 hs
theorem bA1 (hs : d7 nv na (d + 1) e = true) (h : e.kind = 1) : e.kids.length = 0 := by
 have := ab9 hs
 rw [h] at this
 have h2 : i8 1 = 0 := rfl
 omega
theorem bA0 (hs : d7 nv na (d + 1) e = true) (h : e.kind = 2) : e.kids.length = 0 ∧ 0 ≤ e.value ∧ e.value < nv := by
 have := ab9 hs
 rw [h] at this
 have h2 : i8 2 = 0 := rfl
 have h3 : w6 nv na 2 = nv := rfl
 omega
theorem bz9 (hs : d7 nv na (d + 1) e = true) (h : e.kind = 3) : e.kids.length = 1 ∧ 0 ≤ e.value ∧ e.value < na := by
 have := ab9 hs
 rw [h] at this
 have h2 : i8 3 = 1 := rfl
 have h3 : w6 nv na 3 = na := rfl
 omega
theorem bs3 (hs : d7 nv na (d + 1) e = true) (h : e.kind = 11) : e.kids.length = 3 := by
 have := ab9 hs
 rw [h] at this
 have h2 : i8 11 = 3 := rfl
 omega
theorem bs2 (hs : d7 nv na (d + 1) e = true) (h1 : ¬ e.kind = 1) (h2 : ¬ e.kind = 2) (h3 : ¬ e.kind = 3) (h4 : ¬ e.kind = 11) : e.kids.length = 2 := by
 have := (ab9 hs).1
 unfold i8 at this
 rw [if_neg (by omega)] at this
 rw [if_neg h3] at this
 split at this <;> first | omega | (split at this <;> omega)
theorem bq4 (hm : mfB nv na m = true) (hs : d7 nv na (d + 1) e = true) : ∀ x ∈ (l8 m e.kids).1, inV x := by
 have h := (ab9 hs).2.2.2
 have key : ∀ l : List b5, l.all (d7 nv na d) = true → ∀ y ∈ (l8 m l).1, inV y := by
  intro l
  induction l with
  | nil => intro _ y hy; simp [l8] at hy
  | cons a r ih =>
   intro hl y hy
   rw [List.all_cons, bE8] at hl
   simp only [l8, bI2] at hy
   rcases hy with rfl | hy
   ·exact aX0 hm d a hl.1
   ·exact ih hl.2 y hy
 exact key _ h
end
theorem bo2 {ks : List b5} {k : Nat} (hk : k < ks.length) : m6 (ks.take k) + G7 (ks.getD k bF3) + 1 ≤ m6 ks := by
 have h1 : m6 ks = m6 (ks.take k) + m6 (ks.drop k) := by
  rw [← O9, List.take_append_drop]
 rw [List.drop_eq_getElem_cons hk] at h1
 rw [n6 hk, h1]
 simp only [m6]; omega
section
variable {m : w4} {e : b5}
theorem bx0 (h : e.kind = 1) : J4 m e = (e.value, (l8 m e.kids).2) := by rw [U1, evK, if_pos h]
theorem bw9 (h : e.kind = 2) : J4 m e = (m.vals.getD e.value.toNat 0, (l8 m e.kids).2) := by rw [U1, evK, if_neg (by omega), if_pos h]
theorem bw8 (h : e.kind = 3) : J4 m e = ((m.arrs.getD e.value.toNat []).getD (((l8 m e.kids).1.getD 0 0).tmod 4).toNat 0, (l8 m e.kids).2 ++ [(2, e.value * 4 + ((l8 m e.kids).1.getD 0 0).tmod 4)]) := by rw [U1, evK, if_neg (by omega), if_neg (by omega), if_pos h]
theorem ba6 (h : e.kind = 11) (h2 : ¬ (l8 m e.kids).1.getD 0 0 = 0) : J4 m e = ((l8 m e.kids).1.getD 1 0, (l8 m e.kids).2) := by rw [U1, evK, if_neg (by omega), if_neg (by omega), if_neg (by omega), if_pos h, if_neg h2]
theorem ba7 (h : e.kind = 11) (h2 : (l8 m e.kids).1.getD 0 0 = 0) : J4 m e = ((l8 m e.kids).1.getD 2 0, (l8 m e.kids).2) := by rw [U1, evK, if_neg (by omega), if_neg (by omega), if_neg (by omega), if_pos h, if_pos h2]
theorem bn1 (h1 : ¬ e.kind = 1) (h2 : ¬ e.kind = 2) (h3 : ¬ e.kind = 3) (h4 : ¬ e.kind = 11) : J4 m e = (n4 e.kind ((l8 m e.kids).1.getD 0 0) ((l8 m e.kids).1.getD 1 0), (l8 m e.kids).2) := by rw [U1, evK, if_neg h1, if_neg h2, if_neg h3, if_neg h4]
theorem bA9 {nv na : Nat} (hm : mfB nv na m = true) {i : Int} (h0 : 0 ≤ i) (h1 : i < na) : (m.arrs.getD i.toNat []).length = 4 := by
 obtain ⟨f1, f2, f3, f4⟩ := aC1 hm
 have hi : i.toNat < m.arrs.length := by omega
 have := bF5.1 f4 (m.arrs.getD i.toNat []) (by rw [n6 hi]; exact bG3 hi)
 unfold au1 at this
 simp only [bE8, decide_eq_true_eq] at this
 exact this.1
end
abbrev ieC (m : w4) (e : b5) (l : List (Int × Int)) : i6 := ⟨40, [.ptr 0 0, eA e 4], [.box [.ref 1, .ref 2, .ref 3], dI m.vals, dR m.arrs, .row 65 (.events l), dE e.kids], [.box [.ref 1, .ref 2, .ref 5], dI m.vals, dR m.arrs, .dead, dE e.kids, .row 65 (.events (l ++ (J4 m e).2))], iA (J4 m e).1⟩
abbrev U8 (m : w4) (e : b5) (l : List (Int × Int)) : List It := [.box [.ref 1, .ref 2, .ref 5], dI m.vals, dR m.arrs, .dead, dE e.kids, .row 65 (D.events (l ++ (J4 m e).snd))]
theorem bg0 (m : w4) (nv na d : Nat) (e : b5) (hm : mfB nv na m = true) (hna : na ≤ 2) (hs : d7 nv na (d + 1) e = true) (ih : ∀ (u : b5), u ∈ e.kids → ∀ (l : List (Int × Int)), l.length + G7 u + 1 ≤ 5000000 → i6.ok Try.prog (ieC m u l)) (l : List (Int × Int)) (r1 : l.length + G7 e + 1 ≤ 5000000) : i6.ok Try.prog (ieC m e l) := by
  refine E2 85 Try.func40 [.box (pL 1), dI m.vals, dR m.arrs, .row 65 (D.events l), dE e.kids] [(0, .ptr 0 0), (1, eA e 4)] fun G => ?_
  have hlen : e.kids.length ≤ G7 e := by cases e; exact aF1 _
  have hvs := bq4 hm hs; have hvl := as8 m e.kids; have hfi := aC1 hm; refine wp_seq (j7 G f7 (rg 6) [.box (pL 1), dI m.vals, dR m.arrs, .row 65 (D.events l), dE e.kids, .box (eL e 4)] [(0, .ptr 0 0), (3, .ptr 5 0), (4, iA 0)] fun G => b6 (wp_seq (l5 G f7 [(5, .v (.slice none 0 0))] fun G => b6 (wp_seq (wp_seq (J1 G f7 [(0, .ptr 0 0), (3, .ptr 5 0), (4, iA 0), (5, .v (.slice none 0 0)), (9, .ref 4), (10, iA (e.kids.length : Int)), (11, iA 0)] fun G => b6 (wp_block ?_))))))); have Gx := G.shift 3 6 [.box [.ref 1, .ref 2, .ref 6], dI m.vals, dR m.arrs, .dead, dE e.kids, .box (eL e 4), .row 65 (D.events l)] [(0, .ptr 0 0), (3, .ptr 5 0), (4, iA 0), (5, .v (.slice none 0 0)), (9, .ref 4), (10, iA (e.kids.length : Int)), (11, iA 0)]; clear G; obtain ⟨ρ, G⟩ := Gx; have Gx := G.nil 7 3 (.ints []) 1 [.box [.ref 1, .ref 2, .ref 6], dI m.vals, dR m.arrs, .dead, dE e.kids, .box (eL e 4), .row 65 (D.events l)] [(0, .ptr 0 0), (3, .ptr 5 0), (4, iA 0), (5, .ref 7), (9, .ref 4), (10, iA (e.kids.length : Int)), (11, iA 0)]; clear G; obtain ⟨ρ, G⟩ := Gx; replace G := t7.at G [.box [.ref 1, .ref 2, .ref 6], dI m.vals, dR m.arrs, .dead, dE e.kids, .box (eL e 4), .row 65 (D.events l), .row 3 (D.ints [])] [(0, .ptr 0 0), (3, .ptr 5 0), (4, iA 0), (5, .ref 7), (9, .ref 4), (10, iA (e.kids.length : Int)), (11, iA 0)]; replace G := G.as [.box [.ref 1, .ref 2, .ref 6], dI m.vals, dR m.arrs, .dead, dE e.kids, .box (eL e 4), .row 65 (D.events (l ++ (l8 m (bG7 0 e.kids)).snd)), .row 3 (D.ints (l8 m (bG7 0 e.kids)).fst)] [(0, .ptr 0 0), (3, .ptr 5 0), (4, iA 0), (5, .ref 7), (9, .ref 4), (10, iA (e.kids.length : Int)), (11, iA 0)] (by have e1 : (l ++ (l8 m (bG7 0 e.kids)).snd : List (Int × Int)) = (l) := (List.append_nil _); (first | rw [e1] | simp only [e1]) <;> rfl) (by kernel_rfl); refine A4 (κ := Nat) (fun k => k ≤ e.kids.length) (fun k => e.kids.length - k) (fun k => [.box [.ref 1, .ref 2, .ref 6], dI m.vals, dR m.arrs, .dead, dE e.kids, .box (eL e 4), .row 65 (.events (l ++ (l8 m (e.kids.take k)).2)), .row 3 (.ints (l8 m (e.kids.take k)).1)]) (fun k => [(0, .ptr 0 0), (3, .ptr 5 0), (4, iA 0), (5, .ref 7), (9, .ref 4), (10, iA (e.kids.length : Int)), (11, iA k)]) 0 (by omega) (t7.at G _ _) ?_; clear G; intro k ρ a w hp G; replace G := t7.at G [.box [.ref 1, .ref 2, .ref 6], dI m.vals, dR m.arrs, .dead, dE e.kids, .box (eL e 4), .row 65 (D.events (l ++ (l8 m (bG7 k e.kids)).snd)), .row 3 (D.ints (l8 m (bG7 k e.kids)).fst)] [(0, .ptr 0 0), (3, .ptr 5 0), (4, iA 0), (5, .ref 7), (9, .ref 4), (10, iA (e.kids.length : Int)), (11, iA k)]; have hkl := as8 m (e.kids.take k)
  have hkm : (e.kids.take k).length ≤ e.kids.length := by rw [List.length_take]; exact Nat.min_le_right _ _
  refine wp_seq (J1 G f7 [(0, .ptr 0 0), (3, .ptr 5 0), (4, iA 0), (5, .ref 7), (9, .ref 4), (10, iA (e.kids.length : Int)), (11, iA k), (12, bA (decide ((k : Int) < e.kids.length)))] fun G => b6 (wp_seq ?_)); cases h0 : (decide ((k : Int) < e.kids.length))
  ·
   have q0 := Y1 h0
   obtain rfl : k = e.kids.length := by omega
   rw [List.take_length] at G; refine rF G (decide ((e.kids.length : Int) < e.kids.length)) (by assumption) (wp_exit (A2 (A2 (A1 (b6 (wp_seq (wp_seq (J1 G f7 [(0, .ptr 0 0), (3, .ptr 5 0), (4, iA 0), (5, .ref 7), (23, iA e.kind)] fun G => b6 (wp_block (wp_seq (J1 G f7 [(0, .ptr 0 0), (3, .ptr 5 0), (4, iA 0), (5, .ref 7), (23, iA e.kind), (24, bA (e.kind == 1))] fun G => b6 ?_))))))))))); cases h1 : (e.kind == 1)
   ·
    have q1 := ne_of_beq_false h1; refine rF G _ h1 (wp_seq (J1 G f7 [(0, .ptr 0 0), (3, .ptr 5 0), (4, iA 0), (5, .ref 7), (23, iA e.kind), (28, bA (e.kind == 2))] fun G => b6 ?_)); cases h2 : (e.kind == 2)
    ·
     have q2 := ne_of_beq_false h2; refine rF G _ h2 (wp_seq (J1 G f7 [(0, .ptr 0 0), (3, .ptr 5 0), (4, iA 0), (5, .ref 7), (23, iA e.kind), (39, bA (e.kind == 3))] fun G => b6 ?_)); cases h3 : (e.kind == 3)
     ·
      have q3 := ne_of_beq_false h3; refine rF G _ h3 (wp_seq (J1 G f7 [(3, .ptr 5 0), (4, iA 0), (5, .ref 7), (64, bA (e.kind == 11))] fun G => b6 ?_)); cases h4 : (e.kind == 11)
      · have q4 := ne_of_beq_false h4; have hqe := bs2 hs (by omega) (by omega) (by omega) (by omega); refine rF G _ h4 (wp_skip (v7 (b6 (wp_seq (R7 G (t8 8 [] (a02 e.kind ((l8 m e.kids).fst.getD 0 0) ((l8 m e.kids).fst.getD 1 0) (aB8 hvs _) (aB8 hvs _))) [0, 1, 0, 4, 12, 0, 32, 96, 255, 511] [0, 1, 2, 3, 4, 6] [.box [.ref 1, .ref 2, .ref 5], dI m.vals, dR m.arrs, .dead, dE e.kids, .row 65 (D.events (l ++ (l8 m e.kids).snd))] [(4, iA (n4 e.kind ((l8 m e.kids).fst.getD 0 0) ((l8 m e.kids).fst.getD 1 0)))] (iX 0 0 ((l8 m e.kids).fst.length) (iX 1 1 ((l8 m e.kids).fst.length) [])) (iK (by omega) (iK (by omega) bF1)) fun G => b6 (wp_ret ?_)))))); exact Y9 (n4 e.kind ((l8 m e.kids).fst.getD 0 0) ((l8 m e.kids).fst.getD 1 0)) G (rg 6) (by rw [bn1 (by omega) (by omega) (by omega) (by omega)]) (by show _ = mR (rg 6) (U8 m e l); unfold U8; have e1 : (l ++ (J4 m e).snd : List (Int × Int)) = (l ++ (l8 m e.kids).snd) := (by rw [bn1 (by omega) (by omega) (by omega) (by omega)]); (first | rw [e1] | simp only [e1]) <;> rfl)
      ·
       have q4 := eq_of_beq h4; have hq11 := bs3 hs (by omega); refine rT G _ h4 (wp_seq (wp_seq (K5 G f7 [(69, bA ((l8 m e.kids).fst.getD 0 0 != 0))] (iX 0 0 ((l8 m e.kids).fst.length) []) (iK (by omega) bF1) fun G => b6 (rcN G (fun h5 q5 => ?_) fun h5 q5 => ?_))))
       · refine wp_skip (b6 (wp_seq (K5 G f7 [(4, iA ((l8 m e.kids).fst.getD 2 0))] (iX 2 2 ((l8 m e.kids).fst.length) []) (iK (by omega) bF1) fun G => b6 (wp_ret (C1 (j8 ?_)))))); exact Y9 ((l8 m e.kids).fst.getD 2 0) G [0, 1, 2, 3, 4, 6] (by rw [ba7 (by omega) (by omega)]) (by show _ = mR [0, 1, 2, 3, 4, 6] (U8 m e l); unfold U8; have e1 : (l ++ (J4 m e).snd : List (Int × Int)) = (l ++ (l8 m e.kids).snd) := (by rw [ba7 (by omega) (by omega)]); (first | rw [e1] | simp only [e1]) <;> rfl)
       · refine wp_seq (K5 G f7 [(4, iA ((l8 m e.kids).fst.getD 1 0))] (iX 1 1 ((l8 m e.kids).fst.length) []) (iK (by omega) bF1) fun G => b6 (wp_ret (j8 (C1 (j8 ?_))))); exact Y9 ((l8 m e.kids).fst.getD 1 0) G [0, 1, 2, 3, 4, 6] (by rw [ba6 (by omega) (by omega)]) (by show _ = mR [0, 1, 2, 3, 4, 6] (U8 m e l); unfold U8; have e1 : (l ++ (J4 m e).snd : List (Int × Int)) = (l ++ (l8 m e.kids).snd) := (by rw [ba6 (by omega) (by omega)]); (first | rw [e1] | simp only [e1]) <;> rfl)
     · have q3 := eq_of_beq h3; have hq3 := bz9 hs (by omega); have hr4 := bA9 hm (i := e.value) (by omega) (by omega); have htm := tmV (aB8 hvs 0); refine rT G _ h3 (wp_seq (R7 G (y9 (m9 6 [] (a11 e.value ((l8 m e.kids).fst.getD 0 0) (by omega) (aB8 hvs _)) (m9 7 [0, 1, 2, 6] (bk0 m.vals m.arrs (l ++ (l8 m e.kids).snd) 2 (e.value * 4 + ((l8 m e.kids).fst.getD 0 0).tmod 4) (by have h8 := ag2 m e.kids; have h7 : G7 e = m6 e.kids := B7 e; simp only [bH8, bH3, List.length_nil]; omega)) y8)) fz []) [0, 0, 2, 0, 8, 24, 62, 127] [0, 1, 2, 3, 4, 5, 7, 64] [.box [.ref 1, .ref 2, .ref 7], dI m.vals, dR m.arrs, .dead, dE e.kids, .box (eL e 4), .row 3 (D.ints (l8 m e.kids).fst), .row 65 (D.events (l ++ (l8 m e.kids).snd ++ [(2, e.value * 4 + ((l8 m e.kids).fst.getD 0 0).tmod 4)]))] [(0, .ptr 0 0), (3, .ptr 5 0), (4, iA 0), (5, .ref 6)] (iX 0 0 ((l8 m e.kids).fst.length) []) (iK (by omega) bF1) fun G => b6 (wp_seq (aO2 G f7 [0, 1, 3, 7, 15, 0, 32, 127, 255, 0, 512, 1536, 3584, 8191, 16383, 32767] [(4, iA ((m.arrs.getD e.value.toNat []).getD (((l8 m e.kids).fst.getD 0 0).tmod 4).toNat 0))] (iX e.value e.value.toNat m.arrs.length (iX 0 0 ((l8 m e.kids).fst.length) (((4 : Int) ≠ 0) :: (iX (((l8 m e.kids).fst.getD (0 : Nat) (0 : Int)).tmod (4 : Int)) ((((l8 m e.kids).fst.getD (0 : Nat) (0 : Int)).tmod (4 : Int)).toNat) ((m.arrs.getD e.value.toNat []).length) [])))) (iK (by omega) (iK (by omega) ⟨(by omega), (iK (by omega) bF1)⟩)) fun G => b6 (wp_ret (C1 (j8 ?_))))))); exact Y9 ((m.arrs.getD e.value.toNat []).getD (((l8 m e.kids).fst.getD 0 0).tmod 4).toNat 0) G [0, 1, 2, 3, 4, 7] (by rw [bw8 (by omega)]) (by show _ = mR [0, 1, 2, 3, 4, 7] (U8 m e l); unfold U8; have e1 : (l ++ (J4 m e).snd : List (Int × Int)) = (l ++ (l8 m e.kids).snd ++ [(2, e.value * 4 + ((l8 m e.kids).fst.getD 0 0).tmod 4)]) := (by rw [bw8 (by omega), ← List.append_assoc]); (first | rw [e1] | simp only [e1]) <;> rfl)
    · have q2 := eq_of_beq h2; have hq2 := bA0 hs (by omega); refine rT G _ h2 (wp_seq (aO2 G f7 [0, 1, 3, 7, 15, 0, 32, 127, 255, 511] [(4, iA (m.vals.getD e.value.toNat 0))] (iX e.value e.value.toNat m.vals.length []) (iK (by omega) bF1) fun G => b6 (wp_ret (C1 (j8 ?_))))); exact Y9 (m.vals.getD e.value.toNat 0) G [0, 1, 2, 3, 4, 6] (by rw [bw9 (by omega)]) (by show _ = mR [0, 1, 2, 3, 4, 6] (U8 m e l); unfold U8; have e1 : (l ++ (J4 m e).snd : List (Int × Int)) = (l ++ (l8 m e.kids).snd) := (by rw [bw9 (by omega)]); (first | rw [e1] | simp only [e1]) <;> rfl)
   · have q1 := eq_of_beq h1; have hq1 := bA1 hs (by omega); refine rT G _ h1 (wp_seq (l5 G f7 [(4, iA e.value)] fun G => b6 (wp_ret (C1 (j8 ?_))))); exact Y9 e.value G [0, 1, 2, 3, 4, 6] (by rw [bx0 (by omega)]) (by show _ = mR [0, 1, 2, 3, 4, 6] (U8 m e l); unfold U8; have e1 : (l ++ (J4 m e).snd : List (Int × Int)) = (l ++ (l8 m e.kids).snd) := (by rw [bx0 (by omega)]); (first | rw [e1] | simp only [e1]) <;> rfl)
  · have q0 := Y0 h0; refine rT G _ h0 (wp_skip (b6 (wp_seq (wp_block (wp_seq (W0 G f7 [0, 1, 2, 3, 4, 5, 6, 7, 16, 24] [.box [.ref 1, .ref 2, .ref 6], dI m.vals, dR m.arrs, .dead, dE e.kids, .box (eL e 4), .row 65 (D.events (l ++ (l8 m (bG7 k e.kids)).snd)), .row 3 (D.ints (l8 m (bG7 k e.kids)).fst), dE (e.kids.getD k bF3).kids, .box (eL (e.kids.getD k bF3) 8)] [(0, .ptr 0 0), (3, .ptr 5 0), (4, iA 0), (5, .ref 7), (7, .ptr 9 0), (9, .ref 4), (10, iA (e.kids.length : Int)), (11, iA k)] (iX k k e.kids.length []) (iK (by omega) bF1) fun G => b6 (W0 G (t8 3 [0, 1, 2, 6, 8] (ih (e.kids.getD k bF3) (as2 (by omega)) (l ++ (l8 m (bG7 k e.kids)).snd) (by have h9 := bo2 (ks := e.kids) (k := k) (by omega); have h8 := ag2 m (e.kids.take k); have h7 : G7 e = m6 e.kids := B7 e; simp only [bH8]; omega))) [0, 1, 2, 3, 4, 5, 34, 50] [.box [.ref 1, .ref 2, .ref 6], dI m.vals, dR m.arrs, .dead, dE e.kids, .box (eL e 4), .row 65 (D.events (l ++ (l8 m (bG7 k e.kids)).snd ++ (J4 m (e.kids.getD k bF3)).snd)), .row 3 (D.ints ((l8 m (bG7 k e.kids)).fst ++ ([(J4 m (e.kids.getD k bF3)).fst] ++ [])))] [(0, .ptr 0 0), (3, .ptr 5 0), (4, iA 0), (5, .ref 7), (9, .ref 4), (10, iA (e.kids.length : Int)), (11, iA k)] (aP ((l8 m (bG7 k e.kids)).fst.length + 1) 8 []) (aK (by omega) bF1) fun G => v7 (b6 (K5 G f7 [(11, iA ((k : Int) + 1))] [wO ((k : Int) + 1)] (o1 (by omega)) fun G => b6 ?_))))))))); exact rxn G (k + 1) (by omega) (by omega) (rg 8) (by have e1 : (l ++ (l8 m (bG7 (k + 1) e.kids)).snd : List (Int × Int)) = (l ++ (l8 m (bG7 k e.kids)).snd ++ (J4 m (e.kids.getD k bF3)).snd) := (by rw [ax2 (by omega), ← List.append_assoc]); have e2 : ((l8 m (bG7 (k + 1) e.kids)).fst : List Int) = ((l8 m (bG7 k e.kids)).fst ++ ([(J4 m (e.kids.getD k bF3)).fst] ++ [])) := (by rw [ax2 (by omega)]; rfl); (first | rw [e1, e2] | simp only [e1, e2]) <;> rfl)
theorem aX5 (m : w4) (nv na : Nat) (hm : mfB nv na m = true) (hna : na ≤ 2) : ∀ (d : Nat) (e : b5), d7 nv na d e = true → ∀ (l : List (Int × Int)), l.length + G7 e + 1 ≤ 5000000 → i6.ok Try.prog (ieC m e l)
 | 0, _, h, _, _ => by simp [d7] at h
 | d + 1, e, h, l, r1 => bg0 m nv na d e hm hna h (fun u hu l' r' => aX5 m nv na hm hna d u (bF5.1 (ab9 h).2.2.2 u hu) l' r') l r1
theorem bx6 (p : f5) (m : w4) : i6.ok Try.prog (J3 38 [pA 0, mA 3] (pS p ++ mS m) (bA (mvB p m))) := at6 p.vars p.arrays p.body m.vals m.arrs
def I2 (p : f5) (m : w4) (e : b5) : Bool := mvB p m && d8 p.vars.length p.arrays.length e
def E3 (p : f5) (m : w4) (e : b5) : Int × List (Int × Int) := if I2 p m e = true then J4 m e else (0, [])
section
variable {p : f5} {m : w4} {e : b5}
theorem ba5 (h : mvB p m = false) : I2 p m e = false ∧ E3 p m e = (0, []) := by
 have : I2 p m e = false := by unfold I2; rw [h]; rfl
 exact ⟨this, by unfold E3; rw [if_neg (by rw [this]; decide)]⟩
theorem ba4 (h : d8 p.vars.length p.arrays.length e = false) : I2 p m e = false ∧ E3 p m e = (0, []) := by
 have : I2 p m e = false := by unfold I2; rw [h]; simp
 exact ⟨this, by unfold E3; rw [if_neg (by rw [this]; decide)]⟩
theorem bq3 (h : mvB p m = true) (h2 : d8 p.vars.length p.arrays.length e = true) : I2 p m e = true ∧ E3 p m e = J4 m e := by
 have : I2 p m e = true := by unfold I2; rw [h, h2]; rfl
 exact ⟨this, by unfold E3; rw [if_pos this]⟩
theorem X3 (h : d8 p.vars.length p.arrays.length e = true) : d7 p.vars.length p.arrays.length 5 e = true ∧ G7 e ≤ 14 := by
 unfold d8 at h
 simp only [bE8, decide_eq_true_eq] at h
 exact ⟨h.1, by omega⟩
theorem aP6 (h : mvB p m = true) : mfB p.vars.length p.arrays.length m = true ∧ p.arrays.length ≤ 2 := by
 have h1 := bh7 h
 unfold mvB at h
 rw [bE8] at h
 exact ⟨h.2, h1.2.2.2.2.2.2⟩
theorem bj3 (h : mvB p m = true) (h2 : d8 p.vars.length p.arrays.length e = true) : i6.ok Try.prog (ieC m e []) := aX5 m _ _ (aP6 h).1 (aP6 h).2 5 e (X3 h2).1 [] (by have := (X3 h2).2; simp; omega)
end
abbrev av4 (p : f5) (m : w4) (e : b5) : List It := [dI p.vars, dI p.arrays, dT p.body, dI m.vals, dR m.arrs, dE e.kids, .row 65 (D.events (E3 p m e).snd)]
abbrev aa4 (p : f5) (m : w4) (e : b5) (r0 : List It) : List It := dI p.vars :: dI p.arrays :: dT p.body :: dI m.vals :: dR m.arrs :: dE e.kids :: r0
abbrev aj8 (r0 : List (Nat × AV)) : List (Nat × AV) := (6, iA 0) :: (7, .v (.slice none 0 0)) :: (8, bA false) :: r0
theorem al0 (p : f5) (m : w4) (e : b5) : i6.ok Try.prog ⟨11, [pA 0, mA 3, eA e 5], pS p ++ mS m ++ eS e, pS p ++ mS m ++ eS e ++ [.row 65 (.events (E3 p m e).2)], .tup [iA (E3 p m e).1, .ref 6, bA (I2 p m e)]⟩ := by
  have hmv := bx6 p m
  have hie := fun h h2 => bj3 (p := p) (m := m) (e := e) h h2
  refine E2 32 Try.func11 (aa4 p m e []) [(0, pA 0), (1, .agg [.ref 3, .ref 4]), (2, eA e 5)] fun G => ?_; refine wp_seq (j7 G f7 [0, 1, 2, 3, 4, 5, 6, 14, 22] (aa4 p m e [.box (pL 0), .box [.ref 3, .ref 4], .box (eL e 5)]) ((3, .ptr 6 0) :: (4, .ptr 7 0) :: (5, .ptr 8 0) :: (aj8 [])) fun G => b6 (wp_seq (wp_seq ?_))); cases h0 : (!mvB p m)
  ·
   have q0 : (mvB p m) = true := (Eq.mp (bG2 _) h0); refine j7 G (y9 (m9 2 (rg 5) hmv (m9 7 [0, 1, 2, 5] (K2 p e) y8)) (fc h0 fz) (us [(5, 8, 0), (1009, 1009, 0)])) [0, 1, 2, 3, 4, 5, 7, 8] (aa4 p m e [.box [.ref 3, .ref 4], .box (eL e 5)]) ((4, .ptr 6 0) :: (5, .ptr 7 0) :: (aj8 [(20, .v (.bool !d8 p.vars.length p.arrays.length e))])) fun G => b6 ?_; cases h1 : (!d8 p.vars.length p.arrays.length e)
   · have q1 : (d8 p.vars.length p.arrays.length e) = true := (Eq.mp (bG2 _) h1); refine rF G _ h1 (wp_skip (b6 (wp_seq (j7 G f7 [0, 1, 2, 3, 4, 5, 7, 24] (aa4 p m e [.box (eL e 5), .box [.ref 3, .ref 4, .v (.slice none 0 0)]]) ((5, .ptr 6 0) :: (aj8 [(9, .ptr 7 0)])) fun G => b6 (wp_seq ?_))))); obtain ⟨ρ, G⟩ := G.nil 8 65 (.events []) 6 (aa4 p m e [.box (eL e 5), .box [.ref 3, .ref 4, .ref 8]]) ((5, .ptr 6 0) :: (aj8 [(9, .ptr 7 0)])); refine j7 G (t8 2 [7, 3, 4, 8, 5] (hie (by assumption) (by assumption))) [0, 1, 2, 3, 4, 5, 7, 25] (aa4 p m e [.box [.ref 3, .ref 4, .ref 7], .row 65 (D.events ([] ++ (J4 m e).snd))]) (aj8 [(9, .ptr 6 0), (10, iA (J4 m e).fst)]) fun G => b6 (wp_seq (O3 G f7 [0, 0, 2, 6, 14, 1, 63, 127] [0, 1, 2, 3, 4, 5, 7] (aa4 p m e [.row 65 (D.events ([] ++ (J4 m e).snd))]) [(6, iA (J4 m e).fst), (7, .ref 6), (8, bA true)] fun G => b6 (wp_ret ?_))); exact rxv (.tup [iA (J4 m e).fst, .ref 6, bA true]) G (rg 7) (by have e1 : ((E3 p m e).fst : Int) = ((J4 m e).fst) := (by rw [(bq3 (by with_reducible assumption) (by with_reducible assumption)).2]); have e2 : (I2 p m e : Bool) = (true) := ((bq3 (by with_reducible assumption) (by with_reducible assumption)).1); (first | rw [e1, e2] | simp only [e1, e2]) <;> rfl) (by show _ = mR (rg 7) (av4 p m e); unfold av4; rw [(bq3 (by with_reducible assumption) (by with_reducible assumption)).2] <;> rfl)
   · have q1 : (d8 p.vars.length p.arrays.length e) = false := (Eq.mp (bF8 _) h1); refine rT G _ h1 (wp_seq (J1 G f7 ((4, .ptr 6 0) :: (5, .ptr 7 0) :: (aj8 [])) fun G => b6 (wp_ret (j8 ?_)))); obtain ⟨ρ, G⟩ := G.nil 8 65 (.events []) 6 (aa4 p m e [.box [.ref 3, .ref 4], .box (eL e 5)]) [(4, .ptr 6 0), (5, .ptr 7 0), (6, iA 0), (7, .ref 8), (8, bA false)]; exact rxv (.tup [iA 0, .ref 8, bA false]) G [0, 1, 2, 3, 4, 5, 8] (by have e1 : ((E3 p m e).fst : Int) = (0) := (by rw [(ba4 (by with_reducible assumption)).2]); have e2 : (I2 p m e : Bool) = (false) := ((ba4 (by with_reducible assumption)).1); (first | rw [e1, e2] | simp only [e1, e2]) <;> rfl) (by show _ = mR [0, 1, 2, 3, 4, 5, 8] (av4 p m e); unfold av4; have e1 : ((E3 p m e).snd : List (Int × Int)) = ([]) := (by rw [(ba4 (by with_reducible assumption)).2]); (first | rw [e1] | simp only [e1]) <;> rfl)
  · have q0 : (mvB p m) = false := (Eq.mp (bF8 _) h0); refine j7 G (y9 (m9 2 (rg 5) hmv y8) (fc h0 fz) (us [(5, 8, 0), (1009, 1009, 0)])) [0, 1, 2, 3, 4, 5, 7, 8] (aa4 p m e [.box [.ref 3, .ref 4], .box (eL e 5)]) ((4, .ptr 6 0) :: (5, .ptr 7 0) :: (aj8 [(20, bA true)])) fun G => b6 (rT G true (by kernel_rfl) (wp_seq (J1 G f7 ((4, .ptr 6 0) :: (5, .ptr 7 0) :: (aj8 [])) fun G => b6 (wp_ret (j8 ?_))))); obtain ⟨ρ, G⟩ := G.nil 8 65 (.events []) 6 (aa4 p m e [.box [.ref 3, .ref 4], .box (eL e 5)]) [(4, .ptr 6 0), (5, .ptr 7 0), (6, iA 0), (7, .ref 8), (8, bA false)]; exact rxv (.tup [iA 0, .ref 8, bA false]) G [0, 1, 2, 3, 4, 5, 8] (by have e1 : ((E3 p m e).fst : Int) = (0) := (by rw [(ba5 (by with_reducible assumption)).2]); have e2 : (I2 p m e : Bool) = (false) := ((ba5 (by with_reducible assumption)).1); (first | rw [e1, e2] | simp only [e1, e2]) <;> rfl) (by show _ = mR [0, 1, 2, 3, 4, 5, 8] (av4 p m e); unfold av4; have e1 : ((E3 p m e).snd : List (Int × Int)) = ([]) := (by rw [(ba5 (by with_reducible assumption)).2]); (first | rw [e1] | simp only [e1]) <;> rfl)
theorem bi7 {x x' y : Int} (h : flB x y = true) (hx : m8 x' = true) (hle : X7 x' x) : flB x' y = true := by
 unfold flB at h ⊢
 simp only [bE8, beq_iff_eq] at h ⊢
 exact ⟨⟨hx, h.1.2⟩, a70 (hle.trans (a84 h.2)) h.1.2⟩
theorem ap8 {nv na : Nat} {e : b5} (h : d8 nv na e = true) : d8 nv na (b9 e) = true := by
 unfold d8 at h ⊢
 simp only [bE8, decide_eq_true_eq] at h ⊢
 have := ba0 e
 exact ⟨(af8 [] [] nv na 5 e h.1).1, by omega⟩
section
variable {vs ars : List Int} (hv : vs.all m8 = true) (ha : ars.all m8 = true)
include hv ha
end
def feX (p : f5) (e : b5) : b5 := if l0 p e = true then b9 e else ⟨0, 0, []⟩
section
variable {p : f5} {e : b5}
theorem au9 (h : l0 p e = true) : feX p e = b9 e := if_pos h
theorem aZ7 (h : l0 p e = false) : feX p e = ⟨0, 0, []⟩ := if_neg (by rw [h]; decide)
end
abbrev feC (f : FuncId) (p : f5) (e : b5) : i6 := ⟨f, [pA 0, eA e 3], pS p ++ eS e, pS p ++ eS e ++ [dE (feX p e).kids], .tup [.agg [iA (feX p e).kind, iA (feX p e).value, .ref 4], bA (l0 p e)]⟩
theorem aW3 {p : f5} {e : b5} (h : l0 p e = true) : l0 p (b9 e) = true := by
 unfold l0 at h ⊢
 rw [bE8] at h ⊢
 exact ⟨h.1, ap8 h.2⟩
theorem bn0 {p : f5} {m : w4} {e : b5} (h : l0 p e = true) : I2 p m (b9 e) = I2 p m e ∧ E3 p m (b9 e) = E3 p m e := by
 have h1 : d8 p.vars.length p.arrays.length e = true := by
  unfold l0 at h; rw [bE8] at h; exact h.2
 have h2 := ap8 h1
 have h3 : I2 p m (b9 e) = I2 p m e := by unfold I2; rw [h1, h2]
 refine ⟨h3, ?_⟩
 unfold E3
 rw [h3]
 split
 ·rename_i h4
  unfold I2 at h4
  rw [bE8] at h4
  exact aW4 (aP6 h4.1).1 5 e (X3 h1).1
 ·rfl
abbrev foC (f : FuncId) (e : b5) : i6 := ⟨f, [eA e 0], eS e, eS e ++ [dE (b9 e).kids], .agg [iA (b9 e).kind, iA (b9 e).value, .ref 1]⟩
theorem al7 {f : FuncId} {e : b5} (h : ∀ (φ : Nat → Prop) (v : Value) (w : World), E8 w φ v e → Calls Try.prog f #[v] w fun x w' => G4 w e x w') : i6.ok Try.prog ⟨f, [eA e 0], eS e, eS e ++ [.tree (.exprs (b9 e).kids)], .agg [iA (b9 e).kind, iA (b9 e).value, .tref 1]⟩ := by
 intro ι φ ψ w0 w F ρ M
 refine (h (O2 φ (l7 F ρ (n5 (eS e)))) _ w ⟨ρ 0, rfl, M.datAt (id := 0) (d := .exprs e.kids) rfl⟩).mono ?_
 rintro x w' ⟨v1, c, S, rfl, hO, hS, hbl⟩
 obtain ⟨z, hz1, hz2⟩ := ac9 (.slice v1 (b9 e).kids.length c) S w'.heap.size fun b h => (hS b h).2
 have e0 : x8 z = S := funext fun b => propext (hz2 b)
 refine ⟨fun i => if i = 1 then z else ρ i, fun i hi => if_neg (show ¬ i = 1 by have : i < 1 := hi; omega), by simp [AV.val, AV.vals, hz1], ?_⟩
 refine M.grow hbl (fun k => k = .inr 1) (fun k hk => ?_) ?_ ?_ ?_
 ·cases k with
  | inl i => rfl
  | inr j =>
   match j, hk with
   | 0, _ => rfl
   | 1, h => exact absurd rfl h
   | j + 2, _ => rfl
 ·rintro k rfl b hb
  exact (hS b ((hz2 b).1 hb)).1
 ·rintro j k b hjk rfl rfl; exact absurd rfl hjk
 ·rintro k rfl
  show (Rs.own (x8 z) fun w => A8 w (x8 z) (.exprs (b9 e).kids) (z9 z)).holds _ _
  rw [hz1, e0]
  exact ⟨fun _ _ h hs => h.same hs, A8.kids.2 hO, fun b hb => (hS b hb).2⟩
theorem bb7 (e : b5) (hg : C9 e = true) : i6.ok Try.prog (foC 36 e) :=
 i6.datPost (S0 := eS e) (S := eS e) (d := .exprs (b9 e).kids) (al7 fun φ v w h => aF6 e hg φ v w h) (.agg [iA (b9 e).kind, iA (b9 e).value, .ref 1])
theorem bq9 (e : b5) (hg : C9 e = true) : i6.ok Try.prog (foC 34 e) :=
 i6.datPost (S0 := eS e) (S := eS e) (d := .exprs (b9 e).kids) (al7 fun φ v w h => aZ5 e hg φ v w h) (.agg [iA (b9 e).kind, iA (b9 e).value, .ref 1])
theorem bw1 {x y : Int} (h : m8 x = false) : flB x y = false := by unfold flB; rw [h]; rfl
theorem bw0 {x y : Int} (h : m8 y = false) : flB x y = false := by unfold flB; rw [h, Bool.and_false]; rfl
theorem bv9 {x y : Int} (hx : m8 x = true) (hy : m8 y = true) : flB x y = (anI x y == 0) := by rw [ba1 hx hy]; unfold flB; rw [hx, hy]; rfl
theorem av0 (x y : Int) : i6.ok Try.prog (J3 14 [iA x, iA y] [] (bA (flB x y))) := by
  refine E2 16 Try.func14 [] [(0, iA x), (1, iA y)] fun G => ?_; refine wp_seq (l5 G f7 [(4, bA false)] fun G => b6 (wp_seq ?_)); cases h0 : (m8 x)
  · refine l5 G (y9 (m9 1 [] (G3 x) y8) (fc h0 (fc (b := false) rfl fz)) (us [(3, 4, 0), (1005, 1005, 0), (7, 9, 1), (1010, 1010, 1)])) [] fun G => b6 (wp_ret ?_); exact w8 false G [] (bw1 (by with_reducible assumption))
  ·
   cases h1 : (m8 y)
   · refine l5 G (y9 (m9 1 [] (G3 x) (m9 4 [] (G3 y) y8)) (fc h0 (fc h1 fz)) (us [(3, 4, 0), (1005, 1005, 0), (7, 9, 1), (1010, 1010, 1)])) [] fun G => b6 (wp_ret ?_); exact w8 false G [] (bw0 (by with_reducible assumption))
   · refine l5 G (y9 (m9 1 [] (G3 x) (m9 4 [] (G3 y) (m9 9 [] (bj9 x y) y8))) (fc h0 (fc h1 fz)) (us [(3, 4, 0), (1005, 1005, 0), (7, 9, 1), (1010, 1010, 1)])) [(4, bA (anI x y == 0))] fun G => b6 (wp_ret ?_); exact w8 (anI x y == 0) G [] (bv9 (by with_reducible assumption) (by with_reducible assumption))
theorem by0 (p : f5) (e : b5) : i6.ok Try.prog (feC 9 p e) := by
 have hev := by1 p e
 have hfo := fun h => bb7 e h
 refine E2 13 Try.func9 [dI p.vars, dI p.arrays, dT p.body, dE e.kids] [(0, pA 0), (1, eA e 3)] fun G => ?_; refine wp_seq (j7 G f7 [0, 1, 2, 3, 4, 12, 20] [dI p.vars, dI p.arrays, dT p.body, dE e.kids, .box (pL 0), .box (eL e 3), .box [iA 0, iA 0, .v (.slice none 0 0)]] [(2, .ptr 4 0), (3, .ptr 5 0), (4, .ptr 6 0), (5, bA false)] fun G => b6 (wp_seq (wp_seq (j7 G (t8 2 (rg 4) hev) [0, 1, 2, 3, 5, 6] [dI p.vars, dI p.arrays, dT p.body, dE e.kids, .box (eL e 3), .box [iA 0, iA 0, .v (.slice none 0 0)]] [(3, .ptr 4 0), (4, .ptr 5 0), (5, bA false), (9, .v (.bool !l0 p e))] fun G => b6 ?_)))); cases h0 : (!l0 p e)
 ·have q0 : (l0 p e) = true := (Eq.mp (bG2 _) h0); refine rF G _ h0 (wp_skip (b6 (wp_seq (j7 G (t8 1 [3] (hfo (ar9 _ _ 5 _ (aT9 (by with_reducible assumption))))) [0, 1, 2, 3, 5, 14] [dI p.vars, dI p.arrays, dT p.body, dE e.kids, .box (eL (b9 e) 5), dE (b9 e).kids] [(4, .ptr 4 0), (5, bA true)] fun G => b6 (wp_ret ?_))))); exact rxv (.tup [eA (b9 e) 5, bA true]) G [0, 1, 2, 3, 5] (by have e1 : ((feX p e).kind : Int) = ((b9 e).kind) := (by rw [au9 (by with_reducible assumption)]; done); have e2 : ((feX p e).value : Int) = ((b9 e).value) := (by rw [au9 (by with_reducible assumption)]; done); have e3 : (l0 p e : Bool) = (true) := (by assumption); (first | rw [e1, e2, e3] | simp only [e1, e2, e3]) <;> rfl) (by show _ = mR [0, 1, 2, 3, 5] [dI p.vars, dI p.arrays, dT p.body, dE e.kids, dE (feX p e).kids]; rw [au9 (by with_reducible assumption)] <;> rfl)
 ·have q0 : (l0 p e) = false := (Eq.mp (bF8 _) h0); refine rT G _ h0 (wp_seq (J1 G f7 [(3, .ptr 4 0), (4, .ptr 5 0), (5, bA false)] fun G => b6 (wp_ret (j8 ?_)))); obtain ⟨ρ, G⟩ := G.nil 6 0 (.exprs []) 9 [dI p.vars, dI p.arrays, dT p.body, dE e.kids, .box (eL e 3), .box [iA 0, iA 0, .ref 6]] [(3, .ptr 4 0), (4, .ptr 5 0), (5, bA false)]; obtain ⟨ρ, G⟩ := G.frz [.no, .no, .no, .no, .no, .no, .row 0] [dI p.vars, dI p.arrays, dT p.body, dE e.kids, .box (eL e 3), .box [iA 0, iA 0, .ref 6], dE []] [(3, .ptr 4 0), (4, .ptr 5 0), (5, bA false)]; exact rxv (.tup [.agg [iA 0, iA 0, .ref 6], bA false]) G [0, 1, 2, 3, 6] (by have e1 : ((feX p e).kind : Int) = (0) := (by rw [aZ7 (by with_reducible assumption)]; rfl); have e2 : ((feX p e).value : Int) = (0) := (by rw [aZ7 (by with_reducible assumption)]; rfl); have e3 : (l0 p e : Bool) = (false) := (by assumption); (first | rw [e1, e2, e3] | simp only [e1, e2, e3]) <;> rfl) (by show _ = mR [0, 1, 2, 3, 6] [dI p.vars, dI p.arrays, dT p.body, dE e.kids, dE (feX p e).kids]; rw [aZ7 (by with_reducible assumption)] <;> rfl)
theorem bn5 (p : f5) (e : b5) : i6.ok Try.prog (feC 8 p e) := by
 have hev := bc9 p e
 have hfo := fun h => bq9 e h
 refine E2 13 Try.func8 [dI p.vars, dI p.arrays, dT p.body, dE e.kids] [(0, pA 0), (1, eA e 3)] fun G => ?_; refine wp_seq (j7 G f7 [0, 1, 2, 3, 4, 12, 20] [dI p.vars, dI p.arrays, dT p.body, dE e.kids, .box (pL 0), .box (eL e 3), .box [iA 0, iA 0, .v (.slice none 0 0)]] [(2, .ptr 4 0), (3, .ptr 5 0), (4, .ptr 6 0), (5, bA false)] fun G => b6 (wp_seq (wp_seq (j7 G (t8 2 (rg 4) hev) [0, 1, 2, 3, 5, 6] [dI p.vars, dI p.arrays, dT p.body, dE e.kids, .box (eL e 3), .box [iA 0, iA 0, .v (.slice none 0 0)]] [(3, .ptr 4 0), (4, .ptr 5 0), (5, bA false), (9, .v (.bool !l0 p e))] fun G => b6 ?_)))); cases h0 : (!l0 p e)
 ·have q0 : (l0 p e) = true := (Eq.mp (bG2 _) h0); refine rF G _ h0 (wp_skip (b6 (wp_seq (j7 G (t8 1 [3] (hfo (ar9 _ _ 5 _ (aT9 (by with_reducible assumption))))) [0, 1, 2, 3, 5, 14] [dI p.vars, dI p.arrays, dT p.body, dE e.kids, .box (eL (b9 e) 5), dE (b9 e).kids] [(4, .ptr 4 0), (5, bA true)] fun G => b6 (wp_ret ?_))))); exact rxv (.tup [eA (b9 e) 5, bA true]) G [0, 1, 2, 3, 5] (by have e1 : ((feX p e).kind : Int) = ((b9 e).kind) := (by rw [au9 (by with_reducible assumption)]; done); have e2 : ((feX p e).value : Int) = ((b9 e).value) := (by rw [au9 (by with_reducible assumption)]; done); have e3 : (l0 p e : Bool) = (true) := (by assumption); (first | rw [e1, e2, e3] | simp only [e1, e2, e3]) <;> rfl) (by show _ = mR [0, 1, 2, 3, 5] [dI p.vars, dI p.arrays, dT p.body, dE e.kids, dE (feX p e).kids]; rw [au9 (by with_reducible assumption)] <;> rfl)
 ·have q0 : (l0 p e) = false := (Eq.mp (bF8 _) h0); refine rT G _ h0 (wp_seq (J1 G f7 [(3, .ptr 4 0), (4, .ptr 5 0), (5, bA false)] fun G => b6 (wp_ret (j8 ?_)))); obtain ⟨ρ, G⟩ := G.nil 6 0 (.exprs []) 9 [dI p.vars, dI p.arrays, dT p.body, dE e.kids, .box (eL e 3), .box [iA 0, iA 0, .ref 6]] [(3, .ptr 4 0), (4, .ptr 5 0), (5, bA false)]; obtain ⟨ρ, G⟩ := G.frz [.no, .no, .no, .no, .no, .no, .row 0] [dI p.vars, dI p.arrays, dT p.body, dE e.kids, .box (eL e 3), .box [iA 0, iA 0, .ref 6], dE []] [(3, .ptr 4 0), (4, .ptr 5 0), (5, bA false)]; exact rxv (.tup [.agg [iA 0, iA 0, .ref 6], bA false]) G [0, 1, 2, 3, 6] (by have e1 : ((feX p e).kind : Int) = (0) := (by rw [aZ7 (by with_reducible assumption)]; rfl); have e2 : ((feX p e).value : Int) = (0) := (by rw [aZ7 (by with_reducible assumption)]; rfl); have e3 : (l0 p e : Bool) = (false) := (by assumption); (first | rw [e1, e2, e3] | simp only [e1, e2, e3]) <;> rfl) (by show _ = mR [0, 1, 2, 3, 6] [dI p.vars, dI p.arrays, dT p.body, dE e.kids, dE (feX p e).kids]; rw [aZ7 (by with_reducible assumption)] <;> rfl)
abbrev aT3 : It := .box [.v (.slice none 0 0), .v (.slice none 0 0), .v (.slice none 0 0)]
abbrev aT2 : It := .box [.v (.slice none 0 0), .v (.slice none 0 0)]
abbrev a26 (j : Int) (r0 : List It) : List It := .box [.v (.slice none 0 0), .v (.slice none 0 0), .v (.slice none 0 0)] :: .box [.v (.slice none 0 0), .v (.slice none 0 0)] :: .box [.ref 4, iA j] :: r0
abbrev aD9 (r0 : List (Nat × AV)) : List (Nat × AV) := (2, .ptr 1 0) :: (3, .ptr 2 0) :: (4, .ptr 3 0) :: (5, .ptr 8 0) :: r0
theorem a58 (c b : List UInt8) (p q : f5) (vs : List Int) (rs : List (List Int)) (m : w4) (j k l i : Int)
  (h0 : i6.ok Try.prog ⟨23, [.ref 0], [dY c], [dY c, .box [.ref 2, iA 0], dY b], .ptr 1 0⟩)
  (h1 : i6.ok Try.prog ⟨24, [.ptr 0 0], [.box [.ref 1, iA 0], dY b], [.box [.ref 1, iA j], dY b] ++ oP p, oA 2⟩)
  (h2 : i6.ok Try.prog ⟨57, [.ptr 0 0, pA 2], [.box [.ref 1, iA j], dY b, dI p.vars, dI p.arrays, dT p.body], [.box [.ref 1, iA k], dY b, dI p.vars, dI p.arrays, dT p.body] ++ mS ⟨vs, rs⟩, mA 5⟩)
  (h3 : i6.ok Try.prog (beC b k vs rs m l))
  (h4 : i6.ok Try.prog ⟨32, [.ptr 0 0, pA 2], [.box [.ref 1, iA l], dY b] ++ pS p, [.box [.ref 1, iA i], dY b] ++ pS p ++ oP q, oA 5⟩) : i6.ok Try.prog ⟨33, [.ref 0], [dY c], [dY c] ++ pS q ++ mS m, .tup [pA 1, mA 4]⟩ := by
 have ho := h0; have hpg := h1; have hmm := h2; have hbe := h3; have hmt := h4; refine E2 20 Try.func33 [dY c] [(0, .ref 0)] fun G => ?_; refine wp_seq (j7 G f7 [0, 1, 9] [dY c, aT3, aT2] [(0, .ref 0), (2, .ptr 1 0), (3, .ptr 2 0)] fun G => b6 (wp_seq (j7 G (t8 1 [0] ho) [0, 1, 2, 11, 12] [dY c, aT3, aT2, .box [.ref 4, iA 0], dY b] [(2, .ptr 1 0), (3, .ptr 2 0), (4, .ptr 3 0)] fun G => b6 (wp_seq (j7 G (t8 1 [3, 4] hpg) [0, 1, 2, 3, 4, 13, 14, 15, 21] [dY c, aT3, aT2, .box [.ref 4, iA j], dY b, .row 3 (D.ints p.vars), .row 3 (D.ints p.arrays), .tree (D.stmts p.body), .box [.ref 5, .ref 6, .tref 7]] (aD9 []) fun G => b6 (wp_seq ?_)))))); obtain ⟨ρ, G⟩ := G.frz [.no, .no, .no, .no, .no, .row 3] (dY c :: (a26 j [dY b, dI p.vars, .row 3 (D.ints p.arrays), .tree (D.stmts p.body), .box [.ref 5, .ref 6, .tref 7]])) (aD9 []); obtain ⟨ρ, G⟩ := G.frz [.no, .no, .no, .no, .no, .no, .row 3] (dY c :: (a26 j [dY b, dI p.vars, dI p.arrays, .tree (D.stmts p.body), .box [.ref 5, .ref 6, .tref 7]])) (aD9 []); obtain ⟨ρ, G⟩ := G.frz [.no, .no, .no, .no, .no, .no, .no, .tree] (dY c :: (a26 j [dY b, dI p.vars, dI p.arrays, dT p.body, .box (pL 5)])) (aD9 []); refine j7 G (y9 (m9 3 [3, 4, 5, 6, 7] hmm (m9 4 [3, 4, 33, 34] hbe y8)) fz []) [0, 1, 2, 3, 4, 5, 6, 7, 8, 41, 42, 49] [dY c, aT3, aT2, .box [.ref 4, iA l], dY b, dI p.vars, dI p.arrays, dT p.body, .box (pL 5), dI m.vals, dR m.arrs, .box [.ref 9, .ref 10]] (aD9 [(6, .ptr 11 0)]) fun G => b6 (wp_seq (O3 G (t8 2 [3, 4, 5, 6, 7] hmt) [0, 0, 3, 0, 7, 31] [0, 1, 2, 9, 10, 28, 29, 30] [dY c, .box [.ref 5, .ref 6, .tref 7], .box [.ref 3, .ref 4], dI m.vals, dR m.arrs, .row 3 (D.ints q.vars), .row 3 (D.ints q.arrays), .tree (D.stmts q.body)] [(2, .ptr 1 0), (3, .ptr 2 0)] fun G => b6 (wp_ret ?_))); obtain ⟨ρ, G⟩ := G.frz [.no, .no, .no, .no, .no, .row 3, .row 3, .tree] [dY c, .box (pL 5), .box [.ref 3, .ref 4], dI m.vals, dR m.arrs, dI q.vars, dI q.arrays, dT q.body] [(2, .ptr 1 0), (3, .ptr 2 0)]; exact I7 G [0, 5, 6, 7, 3, 4]
theorem aR2 (b : List UInt8) (j : Int) (vs ars : List Int) (bd : List b8) (r0 : 0 ≤ j) (r1 : j ≤ 900000000) : i6.ok Try.prog ⟨30, [.ptr 0 0, pA 2], dwS b j vs ars bd, dwS b (j + 2) vs ars bd ++ [dE (i5 b vs.length j).kids], .agg [iA (i5 b vs.length j).kind, iA (i5 b vs.length j).value, .ref 5]⟩ := by
 refine E2 18 Try.func30 [.box [.ref 1, iA j], dY b, dI vs, dI ars, dT bd] [(0, .ptr 0 0), (1, pA 2)] fun G => ?_; refine wp_seq (j7 G f7 [0, 1, 2, 3, 4, 5, 13] [.box [.ref 1, iA j], dY b, dI vs, dI ars, dT bd, .box (pL 2), .box [iA 0, iA 0, .v (.slice none 0 0)]] [(0, .ptr 0 0), (3, .ptr 5 0), (4, .ptr 6 0)] fun G => b6 (wp_seq (wp_seq (j7 G (t8 1 [0, 1] (r6 b j 3 (by assumption) (by omega))) (rg 7) [.box [.ref 1, iA (j + 1)], dY b, dI vs, dI ars, dT bd, .box (pL 2), .box [iA 0, iA 0, .v (.slice none 0 0)]] [(0, .ptr 0 0), (3, .ptr 5 0), (4, .ptr 6 0), (7, bA (pk b j 3 == 0))] fun G => b6 (W5 G (fun h0 q0 => ?_) fun h0 q0 => ?_)))))
 ·refine wp_skip (b6 (wp_seq (j7 G (t8 4 [0, 1] (r6 b (j + 1) ((vs.length : Int)) (by omega) (by omega))) [0, 1, 2, 3, 4, 6] [.box [.ref 1, iA (j + 1 + 1)], dY b, dI vs, dI ars, dT bd, .box [iA 2, iA (pk b (j + 1) (vs.length : Int)), .v (.slice none 0 0)]] [(4, .ptr 5 0)] fun G => b6 (wp_ret ?_)))); obtain ⟨ρ, G⟩ := G.nil 6 0 (.exprs []) 9 [.box [.ref 1, iA (j + 1 + 1)], dY b, dI vs, dI ars, dT bd, .box [iA 2, iA (pk b (j + 1) (vs.length : Int)), .ref 6]] [(4, .ptr 5 0)]; obtain ⟨ρ, G⟩ := G.frz [.no, .no, .no, .no, .no, .no, .row 0] [.box [.ref 1, iA (j + 1 + 1)], dY b, dI vs, dI ars, dT bd, .box [iA 2, iA (pk b (j + 1) (vs.length : Int)), .ref 6], dE []] [(4, .ptr 5 0)]; exact rxv (.agg [iA 2, iA (pk b (j + 1) (vs.length : Int)), .ref 6]) G [0, 1, 2, 3, 4, 6] (by have e1 : ((i5 b (vs.length : Int) j).kind : Int) = (2) := (by rw [be0 (by omega)]; rfl); have e2 : ((i5 b (vs.length : Int) j).value : Int) = (pk b (j + 1) (vs.length : Int)) := (by rw [be0 (by omega)]; rfl); (first | rw [e1, e2] | simp only [e1, e2]) <;> rfl) (by show _ = mR [0, 1, 2, 3, 4, 6] [.box [.ref 1, iA (j + 2)], dY b, dI vs, dI ars, dT bd, dE (i5 b (vs.length : Int) j).kids]; have e1 : (j + 2 : Int) = (j + 1 + 1) := (by omega); rw [e1, be0 (by omega)] <;> rfl)
 ·refine wp_seq (j7 G (t8 2 [0, 1, 15] (i6.lend (C3 b (j + 1) atL (by simp [h0]) (by omega) (by omega)) [.no, .no, .row 3])) (rg 7) [.box [.ref 1, iA (j + 1 + 1)], dY b, dI vs, dI ars, dT bd, .box (pL 2), .box [iA 1, iA (nm b (j + 1) atL), .v (.slice none 0 0)]] [(0, .ptr 0 0), (3, .ptr 5 0), (4, .ptr 6 0)] fun G => b6 (wp_ret (j8 ?_))); obtain ⟨ρ, G⟩ := G.nil 7 0 (.exprs []) 9 [.box [.ref 1, iA (j + 1 + 1)], dY b, dI vs, dI ars, dT bd, .box (pL 2), .box [iA 1, iA (nm b (j + 1) atL), .ref 7]] [(0, .ptr 0 0), (3, .ptr 5 0), (4, .ptr 6 0)]; obtain ⟨ρ, G⟩ := G.frz [.no, .no, .no, .no, .no, .no, .no, .row 0] [.box [.ref 1, iA (j + 1 + 1)], dY b, dI vs, dI ars, dT bd, .box (pL 2), .box [iA 1, iA (nm b (j + 1) atL), .ref 7], dE []] [(0, .ptr 0 0), (3, .ptr 5 0), (4, .ptr 6 0)]; exact rxv (.agg [iA 1, iA (nm b (j + 1) atL), .ref 7]) G [0, 1, 2, 3, 4, 7] (by have e1 : ((i5 b (vs.length : Int) j).kind : Int) = (1) := (by rw [be1 (by omega)]; rfl); have e2 : ((i5 b (vs.length : Int) j).value : Int) = (nm b (j + 1) atL) := (by rw [be1 (by omega)]; rfl); (first | rw [e1, e2] | simp only [e1, e2]) <;> rfl) (by show _ = mR [0, 1, 2, 3, 4, 7] [.box [.ref 1, iA (j + 2)], dY b, dI vs, dI ars, dT bd, dE (i5 b (vs.length : Int) j).kids]; have e1 : (j + 2 : Int) = (j + 1 + 1) := (by omega); rw [e1, be1 (by omega)] <;> rfl)
abbrev fdL : List Int := [4] ++ ([6] ++ ([5] ++ ([8] ++ ([10] ++ []))))
abbrev feD (c : List UInt8) (p : f5) (e : b5) : i6 := ⟨6, [.ref 0], [dY c], [dY c] ++ pS p ++ eS e, .tup [pA 1, eA e 4]⟩
theorem U4 (vs ars : List Int) (bd : List b8) (ky vy : Int) (ks : List b5) : i6.ok Try.prog (J3 31 [pA 0, .agg [iA ky, iA vy, .ref 3]] [dI vs, dI ars, dT bd, dE ks] (bA (d8 vs.length ars.length ⟨ky, vy, ks⟩))) := ad0 vs ars bd ⟨ky, vy, ks⟩
theorem bd2 {b : Bool} (h : b = true) (h' : b = false) : False := by rw [h] at h'; cases h'
abbrev ak2 : It := .box [.v (.slice none 0 0), .v (.slice none 0 0), .v (.slice none 0 0)]
abbrev a30 (b : List UInt8) (ek : Int) (ev : Int) (ks : List b5) (k : Int) : It := dE ([F0 (b5.mk ek ev ks)] ++ ([b5.mk 1 (pk b (k + 1) 2) []] ++ []))
abbrev ak1 : It := .box [iA 0, iA 0, .v (.slice none 0 0)]
abbrev a29 (b : List UInt8) (k : Int) : It := .box [iA (nm b k ([4] ++ ([6] ++ ([5] ++ ([8] ++ ([10] ++ [])))))), iA 0, .ref 11]
abbrev ad6 (r0 : List (Nat × AV)) : List (Nat × AV) := (2, .ptr 1 0) :: (3, .ptr 2 0) :: (4, .ptr 3 0) :: (5, .ptr 8 0) :: r0
abbrev aD8 (p : f5) (ek : Int) (ev : Int) (ks : List b5) (r0 : List It) : List It := dI p.vars :: dI p.arrays :: dT p.body :: .box (pL 5) :: dE (b5.mk ek ev ks).kids :: .box (eL (b5.mk ek ev ks) 9) :: r0
abbrev a25 (j : Int) (r0 : List It) : List It := .box [.v (.slice none 0 0), .v (.slice none 0 0), .v (.slice none 0 0)] :: .box [iA 0, iA 0, .v (.slice none 0 0)] :: .box [.ref 4, iA j] :: r0
theorem bu1 (c b : List UInt8) (p q : f5) (ek ev : Int) (ks : List b5) (j k l : Int) (s0 : ¬ pk b (k + 1 + 1) 3 = 0) (s1 : pk b (k + 1 + 1 + 1) 3 = 0) (r0 : 0 ≤ k) (r1 : k ≤ 10000000)
    (h0 : i6.ok Try.prog ⟨23, [.ref 0], [dY c], [dY c, .box [.ref 2, iA 0], dY b], .ptr 1 0⟩)
    (h1 : i6.ok Try.prog ⟨24, [.ptr 0 0], [.box [.ref 1, iA 0], dY b], [.box [.ref 1, iA j], dY b] ++ oP p, oA 2⟩)
    (h2 : i6.ok Try.prog ⟨25, [.ptr 0 0, pA 2], [.box [.ref 1, iA j], dY b] ++ pS p, [.box [.ref 1, iA k], dY b] ++ pS p ++ eS ⟨ek, ev, ks⟩, eA ⟨ek, ev, ks⟩ 5⟩)
    (h3 : i6.ok Try.prog ⟨32, [.ptr 0 0, pA 2], [.box [.ref 1, iA (k + 1 + 1 + 1 + 1)], dY b] ++ pS p, [.box [.ref 1, iA l], dY b] ++ pS p ++ oP q, oA 5⟩) : i6.ok Try.prog (feD c q ⟨ek, ev, ks⟩) := by
  have ho := h0; have hpg := h1; have hsm := h2; have hmt := h3; refine E2 50 Try.func6 [dY c] [(0, .ref 0)] fun G => ?_; refine wp_seq (j7 G f7 [0, 1, 9] [dY c, ak2, ak1] [(0, .ref 0), (2, .ptr 1 0), (3, .ptr 2 0)] fun G => b6 (wp_seq (j7 G (t8 1 [0] ho) [0, 1, 2, 11, 12] [dY c, ak2, ak1, .box [.ref 4, iA 0], dY b] [(2, .ptr 1 0), (3, .ptr 2 0), (4, .ptr 3 0)] fun G => b6 (wp_seq (j7 G (t8 1 [3, 4] hpg) [0, 1, 2, 3, 4, 13, 14, 15, 21] [dY c, ak2, ak1, .box [.ref 4, iA j], dY b, .row 3 (D.ints p.vars), .row 3 (D.ints p.arrays), .tree (D.stmts p.body), .box [.ref 5, .ref 6, .tref 7]] (ad6 []) fun G => b6 (wp_seq ?_)))))); obtain ⟨ρ, G⟩ := G.frz [.no, .no, .no, .no, .no, .row 3] (dY c :: (a25 j [dY b, dI p.vars, .row 3 (D.ints p.arrays), .tree (D.stmts p.body), .box [.ref 5, .ref 6, .tref 7]])) (ad6 []); obtain ⟨ρ, G⟩ := G.frz [.no, .no, .no, .no, .no, .no, .row 3] (dY c :: (a25 j [dY b, dI p.vars, dI p.arrays, .tree (D.stmts p.body), .box [.ref 5, .ref 6, .tref 7]])) (ad6 []); obtain ⟨ρ, G⟩ := G.frz [.no, .no, .no, .no, .no, .no, .no, .tree] (dY c :: (a25 j [dY b, dI p.vars, dI p.arrays, dT p.body, .box (pL 5)])) (ad6 []); refine j7 G (t8 2 [3, 4, 5, 6, 7] hsm) [0, 1, 2, 3, 4, 5, 6, 7, 8, 25, 33] (dY c :: ak2 :: ak1 :: .box [.ref 4, iA k] :: dY b :: (aD8 p ek ev ks [])) (ad6 [(6, .ptr 10 0)]) fun G => b6 (wp_seq (O3 G (y9 (m9 2 [3, 4, 19] (i6.lend (C3 b k ([4] ++ ([6] ++ ([5] ++ ([8] ++ ([10] ++ []))))) (List.cons_ne_nil _ _) (by assumption) (by omega)) [.no, .no, .row 3]) (m9 5 [3, 4] (r6 b (k + 1) 2 (by omega) (by omega)) (m9 6 [] (F7 (pk b (k + 1) 2)) (m9 8 [67] (I4 (nm b k ([4] ++ ([6] ++ ([5] ++ ([8] ++ ([10] ++ [])))))) ([F0 (b5.mk ek ev ks)] ++ ([b5.mk 1 (pk b (k + 1) 2) []] ++ []))) y8)))) fz []) [0, 0, 3, 0, 0, 23, 55, 127, 255, 0, 1023] [0, 1, 2, 3, 4, 5, 6, 7, 8, 9, 10, 67, 83] (dY c :: ak2 :: ak1 :: .box [.ref 4, iA (k + 1 + 1)] :: dY b :: (aD8 p ek ev ks [a30 b ek ev ks k, a29 b k])) (ad6 [(6, .ptr 10 0), (7, .ptr 12 0)]) fun G => b6 (wp_seq (wp_seq (j7 G (t8 1 [3, 4] (r6 b (k + 1 + 1) 3 (by omega) (by omega))) (rg 13) (dY c :: ak2 :: ak1 :: .box [.ref 4, iA (k + 1 + 1 + 1)] :: dY b :: (aD8 p ek ev ks [a30 b ek ev ks k, a29 b k])) (ad6 [(6, .ptr 10 0), (7, .ptr 12 0), (26, bA (pk b (k + 1 + 1) 3 == 0))]) fun G => ?_)))))
  refine b6 ?_; cases h0 : (pk b (k + 1 + 1) (3 : Int) == 0)
  ·
   have q0 := ne_of_beq_false h0; refine rF G _ h0 (wp_skip (b6 (wp_seq (wp_seq ?_)))); cases h1 : (pk b (k + 1 + 1 + 1) (3 : Int) == 0)
   · have q1 := ne_of_beq_false h1; exact False.elim (by omega)
   · have q1 := eq_of_beq h1; refine j7 G (y9 (m9 1 [3, 4] (r6 b (k + 1 + 1 + 1) 3 (by omega) (by omega)) y8) (fc h1 fz) (us [(4, 7, 0), (1008, 1008, 0)])) (rg 13) (dY c :: ak2 :: ak1 :: .box [.ref 4, iA (k + 1 + 1 + 1 + 1)] :: dY b :: (aD8 p ek ev ks [a30 b ek ev ks k, a29 b k])) (ad6 [(6, .ptr 10 0), (7, .ptr 12 0), (44, bA true)]) fun G => b6 (rT G true (by kernel_rfl) (j7 G f7 [0, 1, 2, 3, 4, 5, 6, 7, 8, 9, 12] (dY c :: ak2 :: ak1 :: .box [.ref 4, iA (k + 1 + 1 + 1 + 1)] :: dY b :: (aD8 p ek ev ks [])) (ad6 [(7, .ptr 10 0)]) fun G => b6 (wp_seq (O3 G (t8 2 [3, 4, 5, 6, 7] hmt) [0, 0, 3, 0, 7, 31] [0, 1, 2, 9, 27, 28, 29] [dY c, .box [.ref 4, .ref 5, .tref 6], .box (eL (b5.mk ek ev ks) 3), dE (b5.mk ek ev ks).kids, .row 3 (D.ints q.vars), .row 3 (D.ints q.arrays), .tree (D.stmts q.body)] [(2, .ptr 1 0), (3, .ptr 2 0)] fun G => b6 (wp_ret ?_))))); obtain ⟨ρ, G⟩ := G.frz [.no, .no, .no, .no, .row 3, .row 3, .tree] [dY c, .box (pL 4), .box (eL (b5.mk ek ev ks) 3), dE (b5.mk ek ev ks).kids, dI q.vars, dI q.arrays, dT q.body] [(2, .ptr 1 0), (3, .ptr 2 0)]; exact I7 G [0, 4, 5, 6, 3]
  · have q0 := eq_of_beq h0; exact False.elim (by omega)
abbrev ak0 : It := .box [.v (.slice none 0 0), .v (.slice none 0 0), .v (.slice none 0 0)]
abbrev a28 (b : List UInt8) (ek : Int) (ev : Int) (ks : List b5) (k : Int) : It := dE ([F0 (b5.mk ek ev ks)] ++ ([b5.mk 1 (pk b (k + 1) 2) []] ++ []))
abbrev aj9 : It := .box [iA 0, iA 0, .v (.slice none 0 0)]
abbrev a27 (b : List UInt8) (k : Int) : It := .box [iA (nm b k ([4] ++ ([6] ++ ([5] ++ ([8] ++ ([10] ++ [])))))), iA 0, .ref 11]
abbrev ad5 (r0 : List (Nat × AV)) : List (Nat × AV) := (2, .ptr 1 0) :: (3, .ptr 2 0) :: (4, .ptr 3 0) :: (5, .ptr 8 0) :: r0
abbrev aD7 (p : f5) (ek : Int) (ev : Int) (ks : List b5) (r0 : List It) : List It := dI p.vars :: dI p.arrays :: dT p.body :: .box (pL 5) :: dE (b5.mk ek ev ks).kids :: .box (eL (b5.mk ek ev ks) 9) :: r0
abbrev a24 (j : Int) (r0 : List It) : List It := .box [.v (.slice none 0 0), .v (.slice none 0 0), .v (.slice none 0 0)] :: .box [iA 0, iA 0, .v (.slice none 0 0)] :: .box [.ref 4, iA j] :: r0
theorem bu0 (c b : List UInt8) (p q : f5) (ek ev : Int) (ks : List b5) (j k l : Int) (s0 : ¬ pk b (k + 1 + 1) 3 = 0) (s1 : ¬ pk b (k + 1 + 1 + 1) 3 = 0) (s2 : d8 p.vars.length p.arrays.length ⟨nm b k fdL, 0, [⟨ek, ev, ks⟩, ⟨1, pk b (k + 1) 2, []⟩]⟩ = false) (r0 : 0 ≤ k) (r1 : k ≤ 10000000)
    (h0 : i6.ok Try.prog ⟨23, [.ref 0], [dY c], [dY c, .box [.ref 2, iA 0], dY b], .ptr 1 0⟩)
    (h1 : i6.ok Try.prog ⟨24, [.ptr 0 0], [.box [.ref 1, iA 0], dY b], [.box [.ref 1, iA j], dY b] ++ oP p, oA 2⟩)
    (h2 : i6.ok Try.prog ⟨25, [.ptr 0 0, pA 2], [.box [.ref 1, iA j], dY b] ++ pS p, [.box [.ref 1, iA k], dY b] ++ pS p ++ eS ⟨ek, ev, ks⟩, eA ⟨ek, ev, ks⟩ 5⟩)
    (h3 : i6.ok Try.prog ⟨32, [.ptr 0 0, pA 2], [.box [.ref 1, iA (k + 1 + 1 + 1 + 1)], dY b] ++ pS p, [.box [.ref 1, iA l], dY b] ++ pS p ++ oP q, oA 5⟩) : i6.ok Try.prog (feD c q ⟨ek, ev, ks⟩) := by
  have ho := h0; have hpg := h1; have hsm := h2; have hmt := h3; refine E2 50 Try.func6 [dY c] [(0, .ref 0)] fun G => ?_; refine wp_seq (j7 G f7 [0, 1, 9] [dY c, ak0, aj9] [(0, .ref 0), (2, .ptr 1 0), (3, .ptr 2 0)] fun G => b6 (wp_seq (j7 G (t8 1 [0] ho) [0, 1, 2, 11, 12] [dY c, ak0, aj9, .box [.ref 4, iA 0], dY b] [(2, .ptr 1 0), (3, .ptr 2 0), (4, .ptr 3 0)] fun G => b6 (wp_seq (j7 G (t8 1 [3, 4] hpg) [0, 1, 2, 3, 4, 13, 14, 15, 21] [dY c, ak0, aj9, .box [.ref 4, iA j], dY b, .row 3 (D.ints p.vars), .row 3 (D.ints p.arrays), .tree (D.stmts p.body), .box [.ref 5, .ref 6, .tref 7]] (ad5 []) fun G => b6 (wp_seq ?_)))))); obtain ⟨ρ, G⟩ := G.frz [.no, .no, .no, .no, .no, .row 3] (dY c :: (a24 j [dY b, dI p.vars, .row 3 (D.ints p.arrays), .tree (D.stmts p.body), .box [.ref 5, .ref 6, .tref 7]])) (ad5 []); obtain ⟨ρ, G⟩ := G.frz [.no, .no, .no, .no, .no, .no, .row 3] (dY c :: (a24 j [dY b, dI p.vars, dI p.arrays, .tree (D.stmts p.body), .box [.ref 5, .ref 6, .tref 7]])) (ad5 []); obtain ⟨ρ, G⟩ := G.frz [.no, .no, .no, .no, .no, .no, .no, .tree] (dY c :: (a24 j [dY b, dI p.vars, dI p.arrays, dT p.body, .box (pL 5)])) (ad5 []); refine j7 G (t8 2 [3, 4, 5, 6, 7] hsm) [0, 1, 2, 3, 4, 5, 6, 7, 8, 25, 33] (dY c :: ak0 :: aj9 :: .box [.ref 4, iA k] :: dY b :: (aD7 p ek ev ks [])) (ad5 [(6, .ptr 10 0)]) fun G => b6 (wp_seq (O3 G (y9 (m9 2 [3, 4, 19] (i6.lend (C3 b k ([4] ++ ([6] ++ ([5] ++ ([8] ++ ([10] ++ []))))) (by simp [s2]) (by assumption) (by omega)) [.no, .no, .row 3]) (m9 5 [3, 4] (r6 b (k + 1) 2 (by omega) (by omega)) (m9 6 [] (F7 (pk b (k + 1) 2)) (m9 8 [67] (I4 (nm b k ([4] ++ ([6] ++ ([5] ++ ([8] ++ ([10] ++ [])))))) ([F0 (b5.mk ek ev ks)] ++ ([b5.mk 1 (pk b (k + 1) 2) []] ++ []))) y8)))) fz []) [0, 0, 3, 0, 0, 23, 55, 127, 255, 0, 1023] [0, 1, 2, 3, 4, 5, 6, 7, 8, 9, 10, 67, 83] (dY c :: ak0 :: aj9 :: .box [.ref 4, iA (k + 1 + 1)] :: dY b :: (aD7 p ek ev ks [a28 b ek ev ks k, a27 b k])) (ad5 [(6, .ptr 10 0), (7, .ptr 12 0)]) fun G => b6 (wp_seq (wp_seq (j7 G (t8 1 [3, 4] (r6 b (k + 1 + 1) 3 (by omega) (by omega))) (rg 13) (dY c :: ak0 :: aj9 :: .box [.ref 4, iA (k + 1 + 1 + 1)] :: dY b :: (aD7 p ek ev ks [a28 b ek ev ks k, a27 b k])) (ad5 [(6, .ptr 10 0), (7, .ptr 12 0), (26, bA (pk b (k + 1 + 1) 3 == 0))]) fun G => ?_)))))
  refine b6 ?_; cases h0 : (pk b (k + 1 + 1) (3 : Int) == 0)
  ·
   have q0 := ne_of_beq_false h0; refine rF G _ h0 (wp_skip (b6 (wp_seq (wp_seq ?_)))); cases h1 : (pk b (k + 1 + 1 + 1) (3 : Int) == 0)
   ·
    have q1 := ne_of_beq_false h1; refine j7 G (y9 (m9 1 [3, 4] (r6 b (k + 1 + 1 + 1) 3 (by omega) (by omega)) (m9 6 [5, 6, 7, 11] (U4 p.vars p.arrays p.body (nm b k ([4] ++ ([6] ++ ([5] ++ ([8] ++ ([10] ++ [])))))) 0 ([F0 (b5.mk ek ev ks)] ++ ([b5.mk 1 (pk b (k + 1) 2) []] ++ []))) y8)) (fc h1 fz) (us [(4, 7, 0), (1008, 1008, 0)])) (rg 13) (dY c :: ak0 :: aj9 :: .box [.ref 4, iA (k + 1 + 1 + 1 + 1)] :: dY b :: (aD7 p ek ev ks [a28 b ek ev ks k, a27 b k])) (ad5 [(6, .ptr 10 0), (7, .ptr 12 0), (44, .v (.bool !d8 p.vars.length p.arrays.length (b5.mk (nm b k ([4] ++ ([6] ++ ([5] ++ ([8] ++ ([10] ++ [])))))) 0 ([F0 (b5.mk ek ev ks)] ++ ([b5.mk 1 (pk b (k + 1) 2) []] ++ [])))))]) fun G => b6 ?_; cases h2 : (!d8 p.vars.length p.arrays.length (b5.mk (nm b k ([(4 : Int)] ++ ([(6 : Int)] ++ ([(5 : Int)] ++ ([(8 : Int)] ++ ([(10 : Int)] ++ [])))))) (0 : Int) ([F0 (b5.mk ek ev ks)] ++ ([b5.mk (1 : Int) (pk b (k + 1) (2 : Int)) []] ++ []))))
    · have q2 : (d8 p.vars.length p.arrays.length (b5.mk (nm b k ([4] ++ ([6] ++ ([5] ++ ([8] ++ ([10] ++ [])))))) 0 ([F0 (b5.mk ek ev ks)] ++ ([b5.mk 1 (pk b (k + 1) 2) []] ++ [])))) = true := (Eq.mp (bG2 _) h2); exact False.elim (bd2 (by assumption) s2)
    · have q2 : (d8 p.vars.length p.arrays.length (b5.mk (nm b k ([4] ++ ([6] ++ ([5] ++ ([8] ++ ([10] ++ [])))))) 0 ([F0 (b5.mk ek ev ks)] ++ ([b5.mk 1 (pk b (k + 1) 2) []] ++ [])))) = false := (Eq.mp (bF8 _) h2); refine rT G _ h2 (j7 G f7 [0, 1, 2, 3, 4, 5, 6, 7, 8, 9, 12] (dY c :: ak0 :: aj9 :: .box [.ref 4, iA (k + 1 + 1 + 1 + 1)] :: dY b :: (aD7 p ek ev ks [])) (ad5 [(7, .ptr 10 0)]) fun G => b6 (wp_seq (O3 G (t8 2 [3, 4, 5, 6, 7] hmt) [0, 0, 3, 0, 7, 31] [0, 1, 2, 9, 27, 28, 29] [dY c, .box [.ref 4, .ref 5, .tref 6], .box (eL (b5.mk ek ev ks) 3), dE (b5.mk ek ev ks).kids, .row 3 (D.ints q.vars), .row 3 (D.ints q.arrays), .tree (D.stmts q.body)] [(2, .ptr 1 0), (3, .ptr 2 0)] fun G => b6 (wp_ret ?_)))); obtain ⟨ρ, G⟩ := G.frz [.no, .no, .no, .no, .row 3, .row 3, .tree] [dY c, .box (pL 4), .box (eL (b5.mk ek ev ks) 3), dE (b5.mk ek ev ks).kids, dI q.vars, dI q.arrays, dT q.body] [(2, .ptr 1 0), (3, .ptr 2 0)]; exact I7 G [0, 4, 5, 6, 3]
   · have q1 := eq_of_beq h1; exact False.elim (by omega)
  · have q0 := eq_of_beq h0; exact False.elim (by omega)
abbrev ay4 (b : List UInt8) (ek : Int) (ev : Int) (ks : List b5) (k : Int) : It := dE ([F0 (b5.mk ek ev ks)] ++ ([b5.mk 1 (pk b (k + 1) 2) []] ++ []))
abbrev ab5 : It := .box [.v (.slice none 0 0), .v (.slice none 0 0), .v (.slice none 0 0)]
abbrev ab4 : It := .box [iA 0, iA 0, .v (.slice none 0 0)]
abbrev aL9 (b : List UInt8) (k : Int) : It := .box [iA (nm b k ([4] ++ ([6] ++ ([5] ++ ([8] ++ ([10] ++ [])))))), iA 0, .ref 11]
abbrev aj7 (r0 : List (Nat × AV)) : List (Nat × AV) := (2, .ptr 1 0) :: (3, .ptr 2 0) :: (4, .ptr 3 0) :: (5, .ptr 8 0) :: r0
abbrev a23 (j : Int) (r0 : List It) : List It := .box [.v (.slice none 0 0), .v (.slice none 0 0), .v (.slice none 0 0)] :: .box [iA 0, iA 0, .v (.slice none 0 0)] :: .box [.ref 4, iA j] :: r0
abbrev ay1 (p : f5) (ek : Int) (ev : Int) (ks : List b5) (r0 : List It) : List It := dI p.vars :: dI p.arrays :: dT p.body :: .box (pL 5) :: dE (b5.mk ek ev ks).kids :: .box (eL (b5.mk ek ev ks) 9) :: r0
theorem bt9 (c b : List UInt8) (p q : f5) (ek ev : Int) (ks : List b5) (j k l : Int) (s0 : ¬ pk b (k + 1 + 1) 3 = 0) (s1 : ¬ pk b (k + 1 + 1 + 1) 3 = 0) (s2 : d8 p.vars.length p.arrays.length ⟨nm b k fdL, 0, [⟨ek, ev, ks⟩, ⟨1, pk b (k + 1) 2, []⟩]⟩ = true) (r0 : 0 ≤ k) (r1 : k ≤ 10000000)
    (h0 : i6.ok Try.prog ⟨23, [.ref 0], [dY c], [dY c, .box [.ref 2, iA 0], dY b], .ptr 1 0⟩)
    (h1 : i6.ok Try.prog ⟨24, [.ptr 0 0], [.box [.ref 1, iA 0], dY b], [.box [.ref 1, iA j], dY b] ++ oP p, oA 2⟩)
    (h2 : i6.ok Try.prog ⟨25, [.ptr 0 0, pA 2], [.box [.ref 1, iA j], dY b] ++ pS p, [.box [.ref 1, iA k], dY b] ++ pS p ++ eS ⟨ek, ev, ks⟩, eA ⟨ek, ev, ks⟩ 5⟩)
    (h3 : i6.ok Try.prog ⟨32, [.ptr 0 0, pA 2], [.box [.ref 1, iA (k + 1 + 1 + 1 + 1)], dY b] ++ pS p, [.box [.ref 1, iA l], dY b] ++ pS p ++ oP q, oA 5⟩) : i6.ok Try.prog (feD c q ⟨nm b k fdL, 0, [⟨ek, ev, ks⟩, ⟨1, pk b (k + 1) 2, []⟩]⟩) := by
  have ho := h0; have hpg := h1; have hsm := h2; have hmt := h3; refine E2 50 Try.func6 [dY c] [(0, .ref 0)] fun G => ?_; refine wp_seq (j7 G f7 [0, 1, 9] [dY c, ab5, ab4] [(0, .ref 0), (2, .ptr 1 0), (3, .ptr 2 0)] fun G => b6 (wp_seq (j7 G (t8 1 [0] ho) [0, 1, 2, 11, 12] [dY c, ab5, ab4, .box [.ref 4, iA 0], dY b] [(2, .ptr 1 0), (3, .ptr 2 0), (4, .ptr 3 0)] fun G => b6 (wp_seq (j7 G (t8 1 [3, 4] hpg) [0, 1, 2, 3, 4, 13, 14, 15, 21] [dY c, ab5, ab4, .box [.ref 4, iA j], dY b, .row 3 (D.ints p.vars), .row 3 (D.ints p.arrays), .tree (D.stmts p.body), .box [.ref 5, .ref 6, .tref 7]] (aj7 []) fun G => b6 (wp_seq ?_)))))); obtain ⟨ρ, G⟩ := G.frz [.no, .no, .no, .no, .no, .row 3] (dY c :: (a23 j [dY b, dI p.vars, .row 3 (D.ints p.arrays), .tree (D.stmts p.body), .box [.ref 5, .ref 6, .tref 7]])) (aj7 []); obtain ⟨ρ, G⟩ := G.frz [.no, .no, .no, .no, .no, .no, .row 3] (dY c :: (a23 j [dY b, dI p.vars, dI p.arrays, .tree (D.stmts p.body), .box [.ref 5, .ref 6, .tref 7]])) (aj7 []); obtain ⟨ρ, G⟩ := G.frz [.no, .no, .no, .no, .no, .no, .no, .tree] (dY c :: (a23 j [dY b, dI p.vars, dI p.arrays, dT p.body, .box (pL 5)])) (aj7 []); refine j7 G (t8 2 [3, 4, 5, 6, 7] hsm) [0, 1, 2, 3, 4, 5, 6, 7, 8, 25, 33] (dY c :: ab5 :: ab4 :: .box [.ref 4, iA k] :: dY b :: (ay1 p ek ev ks [])) (aj7 [(6, .ptr 10 0)]) fun G => b6 (wp_seq (O3 G (y9 (m9 2 [3, 4, 19] (i6.lend (C3 b k ([4] ++ ([6] ++ ([5] ++ ([8] ++ ([10] ++ []))))) (by simp [s2]) (by assumption) (by omega)) [.no, .no, .row 3]) (m9 5 [3, 4] (r6 b (k + 1) 2 (by omega) (by omega)) (m9 6 [] (F7 (pk b (k + 1) 2)) (m9 8 [67] (I4 (nm b k ([4] ++ ([6] ++ ([5] ++ ([8] ++ ([10] ++ [])))))) ([F0 (b5.mk ek ev ks)] ++ ([b5.mk 1 (pk b (k + 1) 2) []] ++ []))) y8)))) fz []) [0, 0, 3, 0, 0, 23, 55, 127, 255, 0, 1023] [0, 1, 2, 3, 4, 5, 6, 7, 8, 9, 10, 67, 83] (dY c :: ab5 :: ab4 :: .box [.ref 4, iA (k + 1 + 1)] :: dY b :: (ay1 p ek ev ks [ay4 b ek ev ks k, aL9 b k])) (aj7 [(6, .ptr 10 0), (7, .ptr 12 0)]) fun G => b6 (wp_seq (wp_seq (j7 G (t8 1 [3, 4] (r6 b (k + 1 + 1) 3 (by omega) (by omega))) (rg 13) (dY c :: ab5 :: ab4 :: .box [.ref 4, iA (k + 1 + 1 + 1)] :: dY b :: (ay1 p ek ev ks [ay4 b ek ev ks k, aL9 b k])) (aj7 [(6, .ptr 10 0), (7, .ptr 12 0), (26, bA (pk b (k + 1 + 1) 3 == 0))]) fun G => ?_)))))
  refine b6 ?_; cases h0 : (pk b (k + 1 + 1) (3 : Int) == 0)
  ·
   have q0 := ne_of_beq_false h0; refine rF G _ h0 (wp_skip (b6 (wp_seq (wp_seq ?_)))); cases h1 : (pk b (k + 1 + 1 + 1) (3 : Int) == 0)
   ·
    have q1 := ne_of_beq_false h1; refine j7 G (y9 (m9 1 [3, 4] (r6 b (k + 1 + 1 + 1) 3 (by omega) (by omega)) (m9 6 [5, 6, 7, 11] (U4 p.vars p.arrays p.body (nm b k ([4] ++ ([6] ++ ([5] ++ ([8] ++ ([10] ++ [])))))) 0 ([F0 (b5.mk ek ev ks)] ++ ([b5.mk 1 (pk b (k + 1) 2) []] ++ []))) y8)) (fc h1 fz) (us [(4, 7, 0), (1008, 1008, 0)])) (rg 13) (dY c :: ab5 :: ab4 :: .box [.ref 4, iA (k + 1 + 1 + 1 + 1)] :: dY b :: (ay1 p ek ev ks [ay4 b ek ev ks k, aL9 b k])) (aj7 [(6, .ptr 10 0), (7, .ptr 12 0), (44, .v (.bool !d8 p.vars.length p.arrays.length (b5.mk (nm b k ([4] ++ ([6] ++ ([5] ++ ([8] ++ ([10] ++ [])))))) 0 ([F0 (b5.mk ek ev ks)] ++ ([b5.mk 1 (pk b (k + 1) 2) []] ++ [])))))]) fun G => b6 ?_; cases h2 : (!d8 p.vars.length p.arrays.length (b5.mk (nm b k ([(4 : Int)] ++ ([(6 : Int)] ++ ([(5 : Int)] ++ ([(8 : Int)] ++ ([(10 : Int)] ++ [])))))) (0 : Int) ([F0 (b5.mk ek ev ks)] ++ ([b5.mk (1 : Int) (pk b (k + 1) (2 : Int)) []] ++ []))))
    · have q2 : (d8 p.vars.length p.arrays.length (b5.mk (nm b k ([4] ++ ([6] ++ ([5] ++ ([8] ++ ([10] ++ [])))))) 0 ([F0 (b5.mk ek ev ks)] ++ ([b5.mk 1 (pk b (k + 1) 2) []] ++ [])))) = true := (Eq.mp (bG2 _) h2); refine rF G _ h2 (wp_skip (b6 (wp_seq (O3 G (t8 2 [3, 4, 5, 6, 7] hmt) [0, 0, 3, 0, 7, 31] [0, 1, 2, 11, 29, 30, 31] [dY c, .box [.ref 4, .ref 5, .tref 6], .box [iA (nm b k ([4] ++ ([6] ++ ([5] ++ ([8] ++ ([10] ++ [])))))), iA 0, .ref 3], ay4 b ek ev ks k, .row 3 (D.ints q.vars), .row 3 (D.ints q.arrays), .tree (D.stmts q.body)] [(2, .ptr 1 0), (3, .ptr 2 0)] fun G => b6 (wp_ret ?_))))); obtain ⟨ρ, G⟩ := G.frz [.no, .no, .no, .no, .row 3, .row 3, .tree] [dY c, .box (pL 4), .box [iA (nm b k ([4] ++ ([6] ++ ([5] ++ ([8] ++ ([10] ++ [])))))), iA 0, .ref 3], dE ([F0 (b5.mk ek ev ks)] ++ ([b5.mk 1 (pk b (k + 1) 2) []] ++ [])), dI q.vars, dI q.arrays, dT q.body] [(2, .ptr 1 0), (3, .ptr 2 0)]; exact I7 G [0, 4, 5, 6, 3]
    · have q2 : (d8 p.vars.length p.arrays.length (b5.mk (nm b k ([4] ++ ([6] ++ ([5] ++ ([8] ++ ([10] ++ [])))))) 0 ([F0 (b5.mk ek ev ks)] ++ ([b5.mk 1 (pk b (k + 1) 2) []] ++ [])))) = false := (Eq.mp (bF8 _) h2); exact False.elim (bd2 s2 (by assumption))
   · have q1 := eq_of_beq h1; exact False.elim (by omega)
  · have q0 := eq_of_beq h0; exact False.elim (by omega)
abbrev a33 (b : List UInt8) (p : f5) (k : Int) := i5 b (p.vars.length : Int) (k + 1 + 1 + 1 + 1)
abbrev T1 : It := .box [.v (.slice none 0 0), .v (.slice none 0 0), .v (.slice none 0 0)]
abbrev a32 (b : List UInt8) (p : f5) (ek : Int) (ev : Int) (ks : List b5) (k : Int) : It := dE ([b5.mk 1 (pk b (k + 1 + 1 + 1) 2) []] ++ ([F0 (b5.mk ek ev ks)] ++ ([F0 (a33 b p k)] ++ [])))
abbrev T0 : It := .box [iA 0, iA 0, .v (.slice none 0 0)]
abbrev Q3 (r0 : List (Nat × AV)) : List (Nat × AV) := (2, .ptr 1 0) :: (3, .ptr 2 0) :: (4, .ptr 3 0) :: (5, .ptr 8 0) :: r0
abbrev ah0 (p : f5) (ek : Int) (ev : Int) (ks : List b5) (r0 : List It) : List It := dI p.vars :: dI p.arrays :: dT p.body :: .box (pL 5) :: dE (b5.mk ek ev ks).kids :: .box (eL (b5.mk ek ev ks) 9) :: r0
abbrev aL7 (j : Int) (r0 : List It) : List It := .box [.v (.slice none 0 0), .v (.slice none 0 0), .v (.slice none 0 0)] :: .box [iA 0, iA 0, .v (.slice none 0 0)] :: .box [.ref 4, iA j] :: r0
theorem bt8 (c b : List UInt8) (p q : f5) (ek ev : Int) (ks : List b5) (j k l : Int) (s0 : pk b (k + 1 + 1) 3 = 0) (s1 : pk b (k + 1 + 1 + 1 + 1 + 2) 3 = 0) (r0 : 0 ≤ k) (r1 : k ≤ 10000000)
    (h0 : i6.ok Try.prog ⟨23, [.ref 0], [dY c], [dY c, .box [.ref 2, iA 0], dY b], .ptr 1 0⟩)
    (h1 : i6.ok Try.prog ⟨24, [.ptr 0 0], [.box [.ref 1, iA 0], dY b], [.box [.ref 1, iA j], dY b] ++ oP p, oA 2⟩)
    (h2 : i6.ok Try.prog ⟨25, [.ptr 0 0, pA 2], [.box [.ref 1, iA j], dY b] ++ pS p, [.box [.ref 1, iA k], dY b] ++ pS p ++ eS ⟨ek, ev, ks⟩, eA ⟨ek, ev, ks⟩ 5⟩)
    (h3 : i6.ok Try.prog ⟨32, [.ptr 0 0, pA 2], [.box [.ref 1, iA (k + 1 + 1 + 1 + 1 + 2 + 1)], dY b] ++ pS p, [.box [.ref 1, iA l], dY b] ++ pS p ++ oP q, oA 5⟩) : i6.ok Try.prog (feD c q ⟨ek, ev, ks⟩) := by
  have ho := h0; have hpg := h1; have hsm := h2; have hmt := h3; have hat := aR2 b (k + 1 + 1 + 1 + 1) p.vars p.arrays p.body (by omega) (by omega); refine E2 50 Try.func6 [dY c] [(0, .ref 0)] fun G => ?_; refine wp_seq (j7 G f7 [0, 1, 9] [dY c, T1, T0] [(0, .ref 0), (2, .ptr 1 0), (3, .ptr 2 0)] fun G => b6 (wp_seq (j7 G (t8 1 [0] ho) [0, 1, 2, 11, 12] [dY c, T1, T0, .box [.ref 4, iA 0], dY b] [(2, .ptr 1 0), (3, .ptr 2 0), (4, .ptr 3 0)] fun G => b6 (wp_seq (j7 G (t8 1 [3, 4] hpg) [0, 1, 2, 3, 4, 13, 14, 15, 21] [dY c, T1, T0, .box [.ref 4, iA j], dY b, .row 3 (D.ints p.vars), .row 3 (D.ints p.arrays), .tree (D.stmts p.body), .box [.ref 5, .ref 6, .tref 7]] (Q3 []) fun G => b6 (wp_seq ?_)))))); obtain ⟨ρ, G⟩ := G.frz [.no, .no, .no, .no, .no, .row 3] (dY c :: (aL7 j [dY b, dI p.vars, .row 3 (D.ints p.arrays), .tree (D.stmts p.body), .box [.ref 5, .ref 6, .tref 7]])) (Q3 []); obtain ⟨ρ, G⟩ := G.frz [.no, .no, .no, .no, .no, .no, .row 3] (dY c :: (aL7 j [dY b, dI p.vars, dI p.arrays, .tree (D.stmts p.body), .box [.ref 5, .ref 6, .tref 7]])) (Q3 []); obtain ⟨ρ, G⟩ := G.frz [.no, .no, .no, .no, .no, .no, .no, .tree] (dY c :: (aL7 j [dY b, dI p.vars, dI p.arrays, dT p.body, .box (pL 5)])) (Q3 []); refine j7 G (t8 2 [3, 4, 5, 6, 7] hsm) [0, 1, 2, 3, 4, 5, 6, 7, 8, 25, 33] (dY c :: T1 :: T0 :: .box [.ref 4, iA k] :: dY b :: (ah0 p ek ev ks [])) (Q3 [(6, .ptr 10 0)]) fun G => b6 (wp_seq (O3 G (y9 (m9 2 [3, 4, 19] (i6.lend (C3 b k ([4] ++ ([6] ++ ([5] ++ ([8] ++ ([10] ++ []))))) (List.cons_ne_nil _ _) (by assumption) (by omega)) [.no, .no, .row 3]) (m9 5 [3, 4] (r6 b (k + 1) 2 (by omega) (by omega)) (m9 6 [] (F7 (pk b (k + 1) 2)) (m9 8 [67] (I4 (nm b k ([4] ++ ([6] ++ ([5] ++ ([8] ++ ([10] ++ [])))))) ([F0 (b5.mk ek ev ks)] ++ ([b5.mk 1 (pk b (k + 1) 2) []] ++ []))) y8)))) fz []) [0, 0, 3, 0, 0, 23, 55, 127, 255, 0, 1023] [0, 1, 2, 3, 4, 5, 6, 7, 8, 9, 10, 67, 83] (dY c :: T1 :: T0 :: .box [.ref 4, iA (k + 1 + 1)] :: dY b :: (ah0 p ek ev ks [dE ([F0 (b5.mk ek ev ks)] ++ ([b5.mk 1 (pk b (k + 1) 2) []] ++ [])), .box [iA (nm b k ([4] ++ ([6] ++ ([5] ++ ([8] ++ ([10] ++ [])))))), iA 0, .ref 11]])) (Q3 [(6, .ptr 10 0), (7, .ptr 12 0)]) fun G => b6 (wp_seq (wp_seq (j7 G (t8 1 [3, 4] (r6 b (k + 1 + 1) 3 (by omega) (by omega))) (rg 13) (dY c :: T1 :: T0 :: .box [.ref 4, iA (k + 1 + 1 + 1)] :: dY b :: (ah0 p ek ev ks [dE ([F0 (b5.mk ek ev ks)] ++ ([b5.mk 1 (pk b (k + 1) 2) []] ++ [])), .box [iA (nm b k ([4] ++ ([6] ++ ([5] ++ ([8] ++ ([10] ++ [])))))), iA 0, .ref 11]])) (Q3 [(6, .ptr 10 0), (7, .ptr 12 0), (26, bA (pk b (k + 1 + 1) 3 == 0))]) fun G => ?_)))))
  refine b6 ?_; cases h0 : (pk b (k + 1 + 1) (3 : Int) == 0)
  · have q0 := ne_of_beq_false h0; exact False.elim (by omega)
  ·
   have q0 := eq_of_beq h0; refine rT G _ h0 (O3 G (y9 (m9 1 [3, 4] (r6 b (k + 1 + 1 + 1) 2 (by omega) (by omega)) (m9 2 [] (F7 (pk b (k + 1 + 1 + 1) 2)) (m9 6 [3, 4, 5, 6, 7] hat (m9 8 [69] (I4 11 ([b5.mk 1 (pk b (k + 1 + 1 + 1) 2) []] ++ ([F0 (b5.mk ek ev ks)] ++ ([F0 (a33 b p k)] ++ [])))) y8)))) fz []) [0, 1, 3, 0, 0, 0, 55, 127, 255, 511] [0, 1, 2, 3, 4, 5, 6, 7, 8, 9, 10, 12, 69] (dY c :: T1 :: T0 :: .box [.ref 4, iA (k + 1 + 1 + 1 + 1 + 2)] :: dY b :: (ah0 p ek ev ks [.box [iA 11, iA 0, .ref 12], a32 b p ek ev ks k])) (Q3 [(6, .ptr 10 0), (7, .ptr 11 0)]) fun G => b6 (wp_seq (wp_seq ?_))); cases h1 : (pk b (k + 1 + 1 + 1 + 1 + 2) (3 : Int) == 0)
   · have q1 := ne_of_beq_false h1; exact False.elim (by omega)
   · have q1 := eq_of_beq h1; refine j7 G (y9 (m9 1 [3, 4] (r6 b (k + 1 + 1 + 1 + 1 + 2) 3 (by omega) (by omega)) y8) (fc h1 fz) (us [(4, 7, 0), (1008, 1008, 0)])) (rg 13) (dY c :: T1 :: T0 :: .box [.ref 4, iA (k + 1 + 1 + 1 + 1 + 2 + 1)] :: dY b :: (ah0 p ek ev ks [.box [iA 11, iA 0, .ref 12], a32 b p ek ev ks k])) (Q3 [(6, .ptr 10 0), (7, .ptr 11 0), (44, bA true)]) fun G => b6 (rT G true (by kernel_rfl) (j7 G f7 [0, 1, 2, 3, 4, 5, 6, 7, 8, 9, 11] (dY c :: T1 :: T0 :: .box [.ref 4, iA (k + 1 + 1 + 1 + 1 + 2 + 1)] :: dY b :: (ah0 p ek ev ks [])) (Q3 [(7, .ptr 10 0)]) fun G => b6 (wp_seq (O3 G (t8 2 [3, 4, 5, 6, 7] hmt) [0, 0, 3, 0, 7, 31] [0, 1, 2, 9, 27, 28, 29] [dY c, .box [.ref 4, .ref 5, .tref 6], .box (eL (b5.mk ek ev ks) 3), dE (b5.mk ek ev ks).kids, .row 3 (D.ints q.vars), .row 3 (D.ints q.arrays), .tree (D.stmts q.body)] [(2, .ptr 1 0), (3, .ptr 2 0)] fun G => b6 (wp_ret ?_))))); obtain ⟨ρ, G⟩ := G.frz [.no, .no, .no, .no, .row 3, .row 3, .tree] [dY c, .box (pL 4), .box (eL (b5.mk ek ev ks) 3), dE (b5.mk ek ev ks).kids, dI q.vars, dI q.arrays, dT q.body] [(2, .ptr 1 0), (3, .ptr 2 0)]; exact I7 G [0, 4, 5, 6, 3]
abbrev ay3 (b : List UInt8) (p : f5) (k : Int) := i5 b (p.vars.length : Int) (k + 1 + 1 + 1 + 1)
abbrev S9 : It := .box [.v (.slice none 0 0), .v (.slice none 0 0), .v (.slice none 0 0)]
abbrev a31 (b : List UInt8) (p : f5) (ek : Int) (ev : Int) (ks : List b5) (k : Int) : It := dE ([b5.mk 1 (pk b (k + 1 + 1 + 1) 2) []] ++ ([F0 (b5.mk ek ev ks)] ++ ([F0 (ay3 b p k)] ++ [])))
abbrev S8 : It := .box [iA 0, iA 0, .v (.slice none 0 0)]
abbrev Q1 (r0 : List (Nat × AV)) : List (Nat × AV) := (2, .ptr 1 0) :: (3, .ptr 2 0) :: (4, .ptr 3 0) :: (5, .ptr 8 0) :: r0
abbrev ag9 (p : f5) (ek : Int) (ev : Int) (ks : List b5) (r0 : List It) : List It := dI p.vars :: dI p.arrays :: dT p.body :: .box (pL 5) :: dE (b5.mk ek ev ks).kids :: .box (eL (b5.mk ek ev ks) 9) :: r0
abbrev aL6 (j : Int) (r0 : List It) : List It := .box [.v (.slice none 0 0), .v (.slice none 0 0), .v (.slice none 0 0)] :: .box [iA 0, iA 0, .v (.slice none 0 0)] :: .box [.ref 4, iA j] :: r0
theorem bt7 (c b : List UInt8) (p q : f5) (ek ev : Int) (ks : List b5) (j k l : Int) (s0 : pk b (k + 1 + 1) 3 = 0) (s1 : ¬ pk b (k + 1 + 1 + 1 + 1 + 2) 3 = 0) (s2 : d8 p.vars.length p.arrays.length ⟨11, 0, [⟨1, pk b (k + 1 + 1 + 1) 2, []⟩, ⟨ek, ev, ks⟩, ⟨(i5 b p.vars.length (k + 1 + 1 + 1 + 1)).kind, (i5 b p.vars.length (k + 1 + 1 + 1 + 1)).value, (i5 b p.vars.length (k + 1 + 1 + 1 + 1)).kids⟩]⟩ = false) (r0 : 0 ≤ k) (r1 : k ≤ 10000000)
    (h0 : i6.ok Try.prog ⟨23, [.ref 0], [dY c], [dY c, .box [.ref 2, iA 0], dY b], .ptr 1 0⟩)
    (h1 : i6.ok Try.prog ⟨24, [.ptr 0 0], [.box [.ref 1, iA 0], dY b], [.box [.ref 1, iA j], dY b] ++ oP p, oA 2⟩)
    (h2 : i6.ok Try.prog ⟨25, [.ptr 0 0, pA 2], [.box [.ref 1, iA j], dY b] ++ pS p, [.box [.ref 1, iA k], dY b] ++ pS p ++ eS ⟨ek, ev, ks⟩, eA ⟨ek, ev, ks⟩ 5⟩)
    (h3 : i6.ok Try.prog ⟨32, [.ptr 0 0, pA 2], [.box [.ref 1, iA (k + 1 + 1 + 1 + 1 + 2 + 1)], dY b] ++ pS p, [.box [.ref 1, iA l], dY b] ++ pS p ++ oP q, oA 5⟩) : i6.ok Try.prog (feD c q ⟨ek, ev, ks⟩) := by
  have ho := h0; have hpg := h1; have hsm := h2; have hmt := h3; have hat := aR2 b (k + 1 + 1 + 1 + 1) p.vars p.arrays p.body (by omega) (by omega); refine E2 50 Try.func6 [dY c] [(0, .ref 0)] fun G => ?_; refine wp_seq (j7 G f7 [0, 1, 9] [dY c, S9, S8] [(0, .ref 0), (2, .ptr 1 0), (3, .ptr 2 0)] fun G => b6 (wp_seq (j7 G (t8 1 [0] ho) [0, 1, 2, 11, 12] [dY c, S9, S8, .box [.ref 4, iA 0], dY b] [(2, .ptr 1 0), (3, .ptr 2 0), (4, .ptr 3 0)] fun G => b6 (wp_seq (j7 G (t8 1 [3, 4] hpg) [0, 1, 2, 3, 4, 13, 14, 15, 21] [dY c, S9, S8, .box [.ref 4, iA j], dY b, .row 3 (D.ints p.vars), .row 3 (D.ints p.arrays), .tree (D.stmts p.body), .box [.ref 5, .ref 6, .tref 7]] (Q1 []) fun G => b6 (wp_seq ?_)))))); obtain ⟨ρ, G⟩ := G.frz [.no, .no, .no, .no, .no, .row 3] (dY c :: (aL6 j [dY b, dI p.vars, .row 3 (D.ints p.arrays), .tree (D.stmts p.body), .box [.ref 5, .ref 6, .tref 7]])) (Q1 []); obtain ⟨ρ, G⟩ := G.frz [.no, .no, .no, .no, .no, .no, .row 3] (dY c :: (aL6 j [dY b, dI p.vars, dI p.arrays, .tree (D.stmts p.body), .box [.ref 5, .ref 6, .tref 7]])) (Q1 []); obtain ⟨ρ, G⟩ := G.frz [.no, .no, .no, .no, .no, .no, .no, .tree] (dY c :: (aL6 j [dY b, dI p.vars, dI p.arrays, dT p.body, .box (pL 5)])) (Q1 []); refine j7 G (t8 2 [3, 4, 5, 6, 7] hsm) [0, 1, 2, 3, 4, 5, 6, 7, 8, 25, 33] (dY c :: S9 :: S8 :: .box [.ref 4, iA k] :: dY b :: (ag9 p ek ev ks [])) (Q1 [(6, .ptr 10 0)]) fun G => b6 (wp_seq (O3 G (y9 (m9 2 [3, 4, 19] (i6.lend (C3 b k ([4] ++ ([6] ++ ([5] ++ ([8] ++ ([10] ++ []))))) (by simp [s2]) (by assumption) (by omega)) [.no, .no, .row 3]) (m9 5 [3, 4] (r6 b (k + 1) 2 (by omega) (by omega)) (m9 6 [] (F7 (pk b (k + 1) 2)) (m9 8 [67] (I4 (nm b k ([4] ++ ([6] ++ ([5] ++ ([8] ++ ([10] ++ [])))))) ([F0 (b5.mk ek ev ks)] ++ ([b5.mk 1 (pk b (k + 1) 2) []] ++ []))) y8)))) fz []) [0, 0, 3, 0, 0, 23, 55, 127, 255, 0, 1023] [0, 1, 2, 3, 4, 5, 6, 7, 8, 9, 10, 67, 83] (dY c :: S9 :: S8 :: .box [.ref 4, iA (k + 1 + 1)] :: dY b :: (ag9 p ek ev ks [dE ([F0 (b5.mk ek ev ks)] ++ ([b5.mk 1 (pk b (k + 1) 2) []] ++ [])), .box [iA (nm b k ([4] ++ ([6] ++ ([5] ++ ([8] ++ ([10] ++ [])))))), iA 0, .ref 11]])) (Q1 [(6, .ptr 10 0), (7, .ptr 12 0)]) fun G => b6 (wp_seq (wp_seq (j7 G (t8 1 [3, 4] (r6 b (k + 1 + 1) 3 (by omega) (by omega))) (rg 13) (dY c :: S9 :: S8 :: .box [.ref 4, iA (k + 1 + 1 + 1)] :: dY b :: (ag9 p ek ev ks [dE ([F0 (b5.mk ek ev ks)] ++ ([b5.mk 1 (pk b (k + 1) 2) []] ++ [])), .box [iA (nm b k ([4] ++ ([6] ++ ([5] ++ ([8] ++ ([10] ++ [])))))), iA 0, .ref 11]])) (Q1 [(6, .ptr 10 0), (7, .ptr 12 0), (26, bA (pk b (k + 1 + 1) 3 == 0))]) fun G => ?_)))))
  refine b6 ?_; cases h0 : (pk b (k + 1 + 1) (3 : Int) == 0)
  · have q0 := ne_of_beq_false h0; exact False.elim (by omega)
  ·
   have q0 := eq_of_beq h0; refine rT G _ h0 (O3 G (y9 (m9 1 [3, 4] (r6 b (k + 1 + 1 + 1) 2 (by omega) (by omega)) (m9 2 [] (F7 (pk b (k + 1 + 1 + 1) 2)) (m9 6 [3, 4, 5, 6, 7] hat (m9 8 [69] (I4 11 ([b5.mk 1 (pk b (k + 1 + 1 + 1) 2) []] ++ ([F0 (b5.mk ek ev ks)] ++ ([F0 (ay3 b p k)] ++ [])))) y8)))) fz []) [0, 1, 3, 0, 0, 0, 55, 127, 255, 511] [0, 1, 2, 3, 4, 5, 6, 7, 8, 9, 10, 12, 69] (dY c :: S9 :: S8 :: .box [.ref 4, iA (k + 1 + 1 + 1 + 1 + 2)] :: dY b :: (ag9 p ek ev ks [.box [iA 11, iA 0, .ref 12], a31 b p ek ev ks k])) (Q1 [(6, .ptr 10 0), (7, .ptr 11 0)]) fun G => b6 (wp_seq (wp_seq ?_))); cases h1 : (pk b (k + 1 + 1 + 1 + 1 + 2) (3 : Int) == 0)
   ·
    have q1 := ne_of_beq_false h1; refine j7 G (y9 (m9 1 [3, 4] (r6 b (k + 1 + 1 + 1 + 1 + 2) 3 (by omega) (by omega)) (m9 6 [5, 6, 7, 12] (U4 p.vars p.arrays p.body 11 0 ([b5.mk 1 (pk b (k + 1 + 1 + 1) 2) []] ++ ([F0 (b5.mk ek ev ks)] ++ ([F0 (ay3 b p k)] ++ [])))) y8)) (fc h1 fz) (us [(4, 7, 0), (1008, 1008, 0)])) (rg 13) (dY c :: S9 :: S8 :: .box [.ref 4, iA (k + 1 + 1 + 1 + 1 + 2 + 1)] :: dY b :: (ag9 p ek ev ks [.box [iA 11, iA 0, .ref 12], a31 b p ek ev ks k])) (Q1 [(6, .ptr 10 0), (7, .ptr 11 0), (44, .v (.bool !d8 p.vars.length p.arrays.length (b5.mk 11 0 ([b5.mk 1 (pk b (k + 1 + 1 + 1) 2) []] ++ ([F0 (b5.mk ek ev ks)] ++ ([F0 (ay3 b p k)] ++ []))))))]) fun G => b6 ?_; cases h2 : (!d8 p.vars.length p.arrays.length (b5.mk (11 : Int) (0 : Int) ([b5.mk (1 : Int) (pk b (k + 1 + 1 + 1) (2 : Int)) []] ++ ([F0 (b5.mk ek ev ks)] ++ ([F0 (i5 b (p.vars.length : Int) (k + 1 + 1 + 1 + 1))] ++ [])))))
    · have q2 : (d8 p.vars.length p.arrays.length (b5.mk 11 0 ([b5.mk 1 (pk b (k + 1 + 1 + 1) 2) []] ++ ([F0 (b5.mk ek ev ks)] ++ ([F0 (i5 b (p.vars.length : Int) (k + 1 + 1 + 1 + 1))] ++ []))))) = true := (Eq.mp (bG2 _) h2); exact False.elim (bd2 (by assumption) s2)
    · have q2 : (d8 p.vars.length p.arrays.length (b5.mk 11 0 ([b5.mk 1 (pk b (k + 1 + 1 + 1) 2) []] ++ ([F0 (b5.mk ek ev ks)] ++ ([F0 (i5 b (p.vars.length : Int) (k + 1 + 1 + 1 + 1))] ++ []))))) = false := (Eq.mp (bF8 _) h2); refine rT G _ h2 (j7 G f7 [0, 1, 2, 3, 4, 5, 6, 7, 8, 9, 11] (dY c :: S9 :: S8 :: .box [.ref 4, iA (k + 1 + 1 + 1 + 1 + 2 + 1)] :: dY b :: (ag9 p ek ev ks [])) (Q1 [(7, .ptr 10 0)]) fun G => b6 (wp_seq (O3 G (t8 2 [3, 4, 5, 6, 7] hmt) [0, 0, 3, 0, 7, 31] [0, 1, 2, 9, 27, 28, 29] [dY c, .box [.ref 4, .ref 5, .tref 6], .box (eL (b5.mk ek ev ks) 3), dE (b5.mk ek ev ks).kids, .row 3 (D.ints q.vars), .row 3 (D.ints q.arrays), .tree (D.stmts q.body)] [(2, .ptr 1 0), (3, .ptr 2 0)] fun G => b6 (wp_ret ?_)))); obtain ⟨ρ, G⟩ := G.frz [.no, .no, .no, .no, .row 3, .row 3, .tree] [dY c, .box (pL 4), .box (eL (b5.mk ek ev ks) 3), dE (b5.mk ek ev ks).kids, dI q.vars, dI q.arrays, dT q.body] [(2, .ptr 1 0), (3, .ptr 2 0)]; exact I7 G [0, 4, 5, 6, 3]
   · have q1 := eq_of_beq h1; exact False.elim (by omega)
abbrev ay2 (b : List UInt8) (p : f5) (k : Int) := i5 b (p.vars.length : Int) (k + 1 + 1 + 1 + 1)
abbrev aL8 (b : List UInt8) (p : f5) (ek : Int) (ev : Int) (ks : List b5) (k : Int) : It := dE ([b5.mk 1 (pk b (k + 1 + 1 + 1) 2) []] ++ ([F0 (b5.mk ek ev ks)] ++ ([F0 (ay2 b p k)] ++ [])))
abbrev W7 : It := .box [.v (.slice none 0 0), .v (.slice none 0 0), .v (.slice none 0 0)]
abbrev W6 : It := .box [iA 0, iA 0, .v (.slice none 0 0)]
abbrev S7 (r0 : List (Nat × AV)) : List (Nat × AV) := (2, .ptr 1 0) :: (3, .ptr 2 0) :: (4, .ptr 3 0) :: (5, .ptr 8 0) :: r0
abbrev ao0 (p : f5) (ek : Int) (ev : Int) (ks : List b5) (r0 : List It) : List It := dI p.vars :: dI p.arrays :: dT p.body :: .box (pL 5) :: dE (b5.mk ek ev ks).kids :: .box (eL (b5.mk ek ev ks) 9) :: r0
abbrev aL5 (j : Int) (r0 : List It) : List It := .box [.v (.slice none 0 0), .v (.slice none 0 0), .v (.slice none 0 0)] :: .box [iA 0, iA 0, .v (.slice none 0 0)] :: .box [.ref 4, iA j] :: r0
theorem bt6 (c b : List UInt8) (p q : f5) (ek ev : Int) (ks : List b5) (j k l : Int) (s0 : pk b (k + 1 + 1) 3 = 0) (s1 : ¬ pk b (k + 1 + 1 + 1 + 1 + 2) 3 = 0) (s2 : d8 p.vars.length p.arrays.length ⟨11, 0, [⟨1, pk b (k + 1 + 1 + 1) 2, []⟩, ⟨ek, ev, ks⟩, ⟨(i5 b p.vars.length (k + 1 + 1 + 1 + 1)).kind, (i5 b p.vars.length (k + 1 + 1 + 1 + 1)).value, (i5 b p.vars.length (k + 1 + 1 + 1 + 1)).kids⟩]⟩ = true) (r0 : 0 ≤ k) (r1 : k ≤ 10000000)
    (h0 : i6.ok Try.prog ⟨23, [.ref 0], [dY c], [dY c, .box [.ref 2, iA 0], dY b], .ptr 1 0⟩)
    (h1 : i6.ok Try.prog ⟨24, [.ptr 0 0], [.box [.ref 1, iA 0], dY b], [.box [.ref 1, iA j], dY b] ++ oP p, oA 2⟩)
    (h2 : i6.ok Try.prog ⟨25, [.ptr 0 0, pA 2], [.box [.ref 1, iA j], dY b] ++ pS p, [.box [.ref 1, iA k], dY b] ++ pS p ++ eS ⟨ek, ev, ks⟩, eA ⟨ek, ev, ks⟩ 5⟩)
    (h3 : i6.ok Try.prog ⟨32, [.ptr 0 0, pA 2], [.box [.ref 1, iA (k + 1 + 1 + 1 + 1 + 2 + 1)], dY b] ++ pS p, [.box [.ref 1, iA l], dY b] ++ pS p ++ oP q, oA 5⟩) : i6.ok Try.prog (feD c q ⟨11, 0, [⟨1, pk b (k + 1 + 1 + 1) 2, []⟩, ⟨ek, ev, ks⟩, ⟨(i5 b p.vars.length (k + 1 + 1 + 1 + 1)).kind, (i5 b p.vars.length (k + 1 + 1 + 1 + 1)).value, (i5 b p.vars.length (k + 1 + 1 + 1 + 1)).kids⟩]⟩) := by
  have ho := h0; have hpg := h1; have hsm := h2; have hmt := h3; have hat := aR2 b (k + 1 + 1 + 1 + 1) p.vars p.arrays p.body (by omega) (by omega); refine E2 50 Try.func6 [dY c] [(0, .ref 0)] fun G => ?_; refine wp_seq (j7 G f7 [0, 1, 9] [dY c, W7, W6] [(0, .ref 0), (2, .ptr 1 0), (3, .ptr 2 0)] fun G => b6 (wp_seq (j7 G (t8 1 [0] ho) [0, 1, 2, 11, 12] [dY c, W7, W6, .box [.ref 4, iA 0], dY b] [(2, .ptr 1 0), (3, .ptr 2 0), (4, .ptr 3 0)] fun G => b6 (wp_seq (j7 G (t8 1 [3, 4] hpg) [0, 1, 2, 3, 4, 13, 14, 15, 21] [dY c, W7, W6, .box [.ref 4, iA j], dY b, .row 3 (D.ints p.vars), .row 3 (D.ints p.arrays), .tree (D.stmts p.body), .box [.ref 5, .ref 6, .tref 7]] (S7 []) fun G => b6 (wp_seq ?_)))))); obtain ⟨ρ, G⟩ := G.frz [.no, .no, .no, .no, .no, .row 3] (dY c :: (aL5 j [dY b, dI p.vars, .row 3 (D.ints p.arrays), .tree (D.stmts p.body), .box [.ref 5, .ref 6, .tref 7]])) (S7 []); obtain ⟨ρ, G⟩ := G.frz [.no, .no, .no, .no, .no, .no, .row 3] (dY c :: (aL5 j [dY b, dI p.vars, dI p.arrays, .tree (D.stmts p.body), .box [.ref 5, .ref 6, .tref 7]])) (S7 []); obtain ⟨ρ, G⟩ := G.frz [.no, .no, .no, .no, .no, .no, .no, .tree] (dY c :: (aL5 j [dY b, dI p.vars, dI p.arrays, dT p.body, .box (pL 5)])) (S7 []); refine j7 G (t8 2 [3, 4, 5, 6, 7] hsm) [0, 1, 2, 3, 4, 5, 6, 7, 8, 25, 33] (dY c :: W7 :: W6 :: .box [.ref 4, iA k] :: dY b :: (ao0 p ek ev ks [])) (S7 [(6, .ptr 10 0)]) fun G => b6 (wp_seq (O3 G (y9 (m9 2 [3, 4, 19] (i6.lend (C3 b k ([4] ++ ([6] ++ ([5] ++ ([8] ++ ([10] ++ []))))) (by simp [s2]) (by assumption) (by omega)) [.no, .no, .row 3]) (m9 5 [3, 4] (r6 b (k + 1) 2 (by omega) (by omega)) (m9 6 [] (F7 (pk b (k + 1) 2)) (m9 8 [67] (I4 (nm b k ([4] ++ ([6] ++ ([5] ++ ([8] ++ ([10] ++ [])))))) ([F0 (b5.mk ek ev ks)] ++ ([b5.mk 1 (pk b (k + 1) 2) []] ++ []))) y8)))) fz []) [0, 0, 3, 0, 0, 23, 55, 127, 255, 0, 1023] [0, 1, 2, 3, 4, 5, 6, 7, 8, 9, 10, 67, 83] (dY c :: W7 :: W6 :: .box [.ref 4, iA (k + 1 + 1)] :: dY b :: (ao0 p ek ev ks [dE ([F0 (b5.mk ek ev ks)] ++ ([b5.mk 1 (pk b (k + 1) 2) []] ++ [])), .box [iA (nm b k ([4] ++ ([6] ++ ([5] ++ ([8] ++ ([10] ++ [])))))), iA 0, .ref 11]])) (S7 [(6, .ptr 10 0), (7, .ptr 12 0)]) fun G => b6 (wp_seq (wp_seq (j7 G (t8 1 [3, 4] (r6 b (k + 1 + 1) 3 (by omega) (by omega))) (rg 13) (dY c :: W7 :: W6 :: .box [.ref 4, iA (k + 1 + 1 + 1)] :: dY b :: (ao0 p ek ev ks [dE ([F0 (b5.mk ek ev ks)] ++ ([b5.mk 1 (pk b (k + 1) 2) []] ++ [])), .box [iA (nm b k ([4] ++ ([6] ++ ([5] ++ ([8] ++ ([10] ++ [])))))), iA 0, .ref 11]])) (S7 [(6, .ptr 10 0), (7, .ptr 12 0), (26, bA (pk b (k + 1 + 1) 3 == 0))]) fun G => ?_)))))
  refine b6 ?_; cases h0 : (pk b (k + 1 + 1) (3 : Int) == 0)
  · have q0 := ne_of_beq_false h0; exact False.elim (by omega)
  ·
   have q0 := eq_of_beq h0; refine rT G _ h0 (O3 G (y9 (m9 1 [3, 4] (r6 b (k + 1 + 1 + 1) 2 (by omega) (by omega)) (m9 2 [] (F7 (pk b (k + 1 + 1 + 1) 2)) (m9 6 [3, 4, 5, 6, 7] hat (m9 8 [69] (I4 11 ([b5.mk 1 (pk b (k + 1 + 1 + 1) 2) []] ++ ([F0 (b5.mk ek ev ks)] ++ ([F0 (ay2 b p k)] ++ [])))) y8)))) fz []) [0, 1, 3, 0, 0, 0, 55, 127, 255, 511] [0, 1, 2, 3, 4, 5, 6, 7, 8, 9, 10, 12, 69] (dY c :: W7 :: W6 :: .box [.ref 4, iA (k + 1 + 1 + 1 + 1 + 2)] :: dY b :: (ao0 p ek ev ks [.box [iA 11, iA 0, .ref 12], aL8 b p ek ev ks k])) (S7 [(6, .ptr 10 0), (7, .ptr 11 0)]) fun G => b6 (wp_seq (wp_seq ?_))); cases h1 : (pk b (k + 1 + 1 + 1 + 1 + 2) (3 : Int) == 0)
   ·
    have q1 := ne_of_beq_false h1; refine j7 G (y9 (m9 1 [3, 4] (r6 b (k + 1 + 1 + 1 + 1 + 2) 3 (by omega) (by omega)) (m9 6 [5, 6, 7, 12] (U4 p.vars p.arrays p.body 11 0 ([b5.mk 1 (pk b (k + 1 + 1 + 1) 2) []] ++ ([F0 (b5.mk ek ev ks)] ++ ([F0 (ay2 b p k)] ++ [])))) y8)) (fc h1 fz) (us [(4, 7, 0), (1008, 1008, 0)])) (rg 13) (dY c :: W7 :: W6 :: .box [.ref 4, iA (k + 1 + 1 + 1 + 1 + 2 + 1)] :: dY b :: (ao0 p ek ev ks [.box [iA 11, iA 0, .ref 12], aL8 b p ek ev ks k])) (S7 [(6, .ptr 10 0), (7, .ptr 11 0), (44, .v (.bool !d8 p.vars.length p.arrays.length (b5.mk 11 0 ([b5.mk 1 (pk b (k + 1 + 1 + 1) 2) []] ++ ([F0 (b5.mk ek ev ks)] ++ ([F0 (ay2 b p k)] ++ []))))))]) fun G => b6 ?_; cases h2 : (!d8 p.vars.length p.arrays.length (b5.mk (11 : Int) (0 : Int) ([b5.mk (1 : Int) (pk b (k + 1 + 1 + 1) (2 : Int)) []] ++ ([F0 (b5.mk ek ev ks)] ++ ([F0 (i5 b (p.vars.length : Int) (k + 1 + 1 + 1 + 1))] ++ [])))))
    · have q2 : (d8 p.vars.length p.arrays.length (b5.mk 11 0 ([b5.mk 1 (pk b (k + 1 + 1 + 1) 2) []] ++ ([F0 (b5.mk ek ev ks)] ++ ([F0 (i5 b (p.vars.length : Int) (k + 1 + 1 + 1 + 1))] ++ []))))) = true := (Eq.mp (bG2 _) h2); refine rF G _ h2 (wp_skip (b6 (wp_seq (O3 G (t8 2 [3, 4, 5, 6, 7] hmt) [0, 0, 3, 0, 7, 31] [0, 1, 2, 12, 29, 30, 31] [dY c, .box [.ref 4, .ref 5, .tref 6], .box [iA 11, iA 0, .ref 3], aL8 b p ek ev ks k, .row 3 (D.ints q.vars), .row 3 (D.ints q.arrays), .tree (D.stmts q.body)] [(2, .ptr 1 0), (3, .ptr 2 0)] fun G => b6 (wp_ret ?_))))); obtain ⟨ρ, G⟩ := G.frz [.no, .no, .no, .no, .row 3, .row 3, .tree] [dY c, .box (pL 4), .box [iA 11, iA 0, .ref 3], dE ([b5.mk 1 (pk b (k + 1 + 1 + 1) 2) []] ++ ([F0 (b5.mk ek ev ks)] ++ ([F0 (i5 b (p.vars.length : Int) (k + 1 + 1 + 1 + 1))] ++ []))), dI q.vars, dI q.arrays, dT q.body] [(2, .ptr 1 0), (3, .ptr 2 0)]; exact I7 G [0, 4, 5, 6, 3]
    · have q2 : (d8 p.vars.length p.arrays.length (b5.mk 11 0 ([b5.mk 1 (pk b (k + 1 + 1 + 1) 2) []] ++ ([F0 (b5.mk ek ev ks)] ++ ([F0 (i5 b (p.vars.length : Int) (k + 1 + 1 + 1 + 1))] ++ []))))) = false := (Eq.mp (bF8 _) h2); exact False.elim (bd2 s2 (by assumption))
   · have q1 := eq_of_beq h1; exact False.elim (by omega)
abbrev bk9 (b : List UInt8) (vs : List Int) (ars : List Int) (j : Int) : It := .box [iA (A9 b (vs.length : Int) (ars.length : Int) (nm b j G5).toNat (j + 1)).fst.kind, iA (A9 b (vs.length : Int) (ars.length : Int) (nm b j G5).toNat (j + 1)).fst.value, .tref 7]
theorem bj2 (b : List UInt8) (vs ars : List Int) (bd : List b8) (j : Int) (r0 : 0 ≤ j) (r1 : j ≤ 700000000) : i6.ok Try.prog ⟨25, [.ptr 0 0, pA 2], dwS b j vs ars bd, dwS b (o8 b vs.length ars.length j).2 vs ars bd ++ [dE (o8 b vs.length ars.length j).1.kids], .agg [iA (o8 b vs.length ars.length j).1.kind, iA (o8 b vs.length ars.length j).1.value, .ref 5]⟩ := by
 have hdr := fun (i n : Int) => aS1 b vs ars bd (nm b j G5).toNat i n (bH6 (dp4 b r0 (by omega)).2.2 (by omega))
 refine E2 19 Try.func25 [.box [.ref 1, iA j], dY b, dI vs, dI ars, dT bd] [(0, .ptr 0 0), (1, pA 2)] fun G => ?_; have hd4 := bs4 (b := b) r0 r1; have hdb := ax4 b vs.length ars.length (nm b j G5).toNat (j + 1); refine wp_seq (j7 G f7 [0, 1, 2, 3, 4, 5, 13] [.box [.ref 1, iA j], dY b, dI vs, dI ars, dT bd, .box (pL 2), .box [iA 0, iA 0, .v (.slice none 0 0)]] [(0, .ptr 0 0), (3, .ptr 5 0), (4, .ptr 6 0)] fun G => b6 (wp_seq (O3 G (y9 (m9 4 [0, 1, 31] (i6.lend (C3 b j G5 (List.cons_ne_nil _ _) (by assumption) (by omega)) [.no, .no, .row 3]) (m9 5 (rg 5) (hdr (j + 1) (nm b j G5) (bb4 b (by omega) (by omega)) (by omega) (by omega)) y8)) fz []) [0, 0, 0, 0, 12, 31, 0, 127] [0, 1, 2, 3, 4, 5, 6, 47, 55] [.box [.ref 1, iA (A9 b (vs.length : Int) (ars.length : Int) (nm b j G5).toNat (j + 1)).snd], dY b, dI vs, dI ars, dT bd, .box (pL 2), .box [iA 0, iA 0, .v (.slice none 0 0)], .tree (D.exprs (A9 b (vs.length : Int) (ars.length : Int) (nm b j G5).toNat (j + 1)).fst.kids), bk9 b vs ars j] [(0, .ptr 0 0), (3, .ptr 5 0), (4, .ptr 6 0), (5, .ptr 8 0)] fun G => b6 (wp_seq (wp_seq (l5 G (t8 2 [2, 3, 4, 7] (i6.lend (ad0 vs ars bd ((A9 b (vs.length : Int) (ars.length : Int) (nm b j G5).toNat (j + 1)).fst)) [.no, .no, .no, .tree])) [(14, bA (d8 vs.length ars.length (A9 b (vs.length : Int) (ars.length : Int) (nm b j G5).toNat (j + 1)).fst))] fun G => b6 (rcB G (fun h0 => ?_) fun h0 => ?_)))))))
 ·refine wp_skip (b6 (wp_seq (j7 G (t8 2 (rg 5) (ad2 b ((A9 b (vs.length : Int) (ars.length : Int) (nm b j G5).toNat (j + 1)).snd) vs ars bd (by omega) (by omega))) [0, 1, 2, 3, 4, 6, 25] [.box [.ref 1, iA ((A9 b (vs.length : Int) (ars.length : Int) (nm b j G5).toNat (j + 1)).snd + 2)], dY b, dI vs, dI ars, dT bd, .box [iA (i5 b (vs.length : Int) (A9 b (vs.length : Int) (ars.length : Int) (nm b j G5).toNat (j + 1)).snd).kind, iA (i5 b (vs.length : Int) (A9 b (vs.length : Int) (ars.length : Int) (nm b j G5).toNat (j + 1)).snd).value, .tref 6], .tree (D.exprs (i5 b (vs.length : Int) (A9 b (vs.length : Int) (ars.length : Int) (nm b j G5).toNat (j + 1)).snd).kids)] [(4, .ptr 5 0)] fun G => b6 (wp_ret ?_)))); obtain ⟨ρ, G⟩ := G.frz [.no, .no, .no, .no, .no, .no, .tree] [.box [.ref 1, iA ((A9 b (vs.length : Int) (ars.length : Int) (nm b j G5).toNat (j + 1)).snd + 2)], dY b, dI vs, dI ars, dT bd, .box [iA (i5 b (vs.length : Int) (A9 b (vs.length : Int) (ars.length : Int) (nm b j G5).toNat (j + 1)).snd).kind, iA (i5 b (vs.length : Int) (A9 b (vs.length : Int) (ars.length : Int) (nm b j G5).toNat (j + 1)).snd).value, .ref 6], dE (i5 b (vs.length : Int) (A9 b (vs.length : Int) (ars.length : Int) (nm b j G5).toNat (j + 1)).snd).kids] [(4, .ptr 5 0)]; exact rxv (.agg [iA (i5 b (vs.length : Int) (A9 b (vs.length : Int) (ars.length : Int) (nm b j G5).toNat (j + 1)).snd).kind, iA (i5 b (vs.length : Int) (A9 b (vs.length : Int) (ars.length : Int) (nm b j G5).toNat (j + 1)).snd).value, .ref 6]) G [0, 1, 2, 3, 4, 6] (by have e1 : ((o8 b vs.length ars.length j).fst.kind : Int) = ((i5 b (vs.length : Int) (A9 b (vs.length : Int) (ars.length : Int) (nm b j G5).toNat (j + 1)).snd).kind) := (by rw [a46 (by with_reducible assumption)]; done); have e2 : ((o8 b vs.length ars.length j).fst.value : Int) = ((i5 b (vs.length : Int) (A9 b (vs.length : Int) (ars.length : Int) (nm b j G5).toNat (j + 1)).snd).value) := (by rw [a46 (by with_reducible assumption)]; done); (first | rw [e1, e2] | simp only [e1, e2]) <;> rfl) (by show _ = mR [0, 1, 2, 3, 4, 6] [.box [.ref 1, iA (o8 b vs.length ars.length j).snd], dY b, dI vs, dI ars, dT bd, dE (o8 b vs.length ars.length j).fst.kids]; rw [a46 (by with_reducible assumption)] <;> rfl)
 ·refine wp_seq (j7 G f7 (rg 8) [.box [.ref 1, iA (A9 b (vs.length : Int) (ars.length : Int) (nm b j G5).toNat (j + 1)).snd], dY b, dI vs, dI ars, dT bd, .box (pL 2), bk9 b vs ars j, .tree (D.exprs (A9 b (vs.length : Int) (ars.length : Int) (nm b j G5).toNat (j + 1)).fst.kids)] [(0, .ptr 0 0), (3, .ptr 5 0), (4, .ptr 6 0)] fun G => b6 (wp_ret (j8 ?_))); obtain ⟨ρ, G⟩ := G.frz [.no, .no, .no, .no, .no, .no, .no, .tree] [.box [.ref 1, iA (A9 b (vs.length : Int) (ars.length : Int) (nm b j G5).toNat (j + 1)).snd], dY b, dI vs, dI ars, dT bd, .box (pL 2), .box [iA (A9 b (vs.length : Int) (ars.length : Int) (nm b j G5).toNat (j + 1)).fst.kind, iA (A9 b (vs.length : Int) (ars.length : Int) (nm b j G5).toNat (j + 1)).fst.value, .ref 7], dE (A9 b (vs.length : Int) (ars.length : Int) (nm b j G5).toNat (j + 1)).fst.kids] [(0, .ptr 0 0), (3, .ptr 5 0), (4, .ptr 6 0)]; exact rxv (.agg [iA (A9 b (vs.length : Int) (ars.length : Int) (nm b j G5).toNat (j + 1)).fst.kind, iA (A9 b (vs.length : Int) (ars.length : Int) (nm b j G5).toNat (j + 1)).fst.value, .ref 7]) G [0, 1, 2, 3, 4, 7] (by have e1 : ((o8 b vs.length ars.length j).fst.kind : Int) = ((A9 b (vs.length : Int) (ars.length : Int) (nm b j G5).toNat (j + 1)).fst.kind) := (by rw [a47 (by with_reducible assumption)]; done); have e2 : ((o8 b vs.length ars.length j).fst.value : Int) = ((A9 b (vs.length : Int) (ars.length : Int) (nm b j G5).toNat (j + 1)).fst.value) := (by rw [a47 (by with_reducible assumption)]; done); (first | rw [e1, e2] | simp only [e1, e2]) <;> rfl) (by show _ = mR [0, 1, 2, 3, 4, 7] [.box [.ref 1, iA (o8 b vs.length ars.length j).snd], dY b, dI vs, dI ars, dT bd, dE (o8 b vs.length ars.length j).fst.kids]; rw [a47 (by with_reducible assumption)] <;> rfl)
theorem bb9 (c : List UInt8) : ∃ (p : f5) (e : b5), i6.ok Try.prog (feD c p e) := by
 have hb := bd0 (W4 c)
 have h1 := al8 (W4 c) 0 (by omega) (by omega)
 have hp := pg0 (W4 c)
 unfold pgC at h1
 generalize bdD (W4 c) 0 = bj at *
 generalize pgD (W4 c) 0 = p at *
 obtain ⟨bd, j⟩ := bj
 dsimp only at hb h1
 have h2 := bj2 (W4 c) p.vars p.arrays p.body j (by omega) (by omega)
 have h3 := aF8 (W4 c) p.vars.length p.arrays.length (k := j) (by omega) (by omega)
 unfold dwS at h2
 generalize o8 (W4 c) p.vars.length p.arrays.length j = x at *
 obtain ⟨⟨ek, ev, ks⟩, k⟩ := x
 dsimp only at h2 h3
 have h0 := ax8 c
 have ha : ∀ x : b5, ∃ b, d8 p.vars.length p.arrays.length x = b := fun x => ⟨_, rfl⟩
 by_cases s0 : pk (W4 c) (k + 1 + 1) 3 = 0
 ·have hm := ad1 (W4 c) p (k + 1 + 1 + 1 + 1 + 2 + 1) hp (by omega) (by omega)
  by_cases s1 : pk (W4 c) (k + 1 + 1 + 1 + 1 + 2) 3 = 0
  ·exact ⟨_, _, bt8 c (W4 c) p _ ek ev ks j k _ s0 s1 (by omega) (by omega) h0 h1 h2 hm⟩
  ·by_cases s2 : d8 p.vars.length p.arrays.length ⟨11, 0, [⟨1, pk (W4 c) (k + 1 + 1 + 1) 2, []⟩, ⟨ek, ev, ks⟩, ⟨(i5 (W4 c) p.vars.length (k + 1 + 1 + 1 + 1)).kind, (i5 (W4 c) p.vars.length (k + 1 + 1 + 1 + 1)).value, (i5 (W4 c) p.vars.length (k + 1 + 1 + 1 + 1)).kids⟩]⟩ = true
   ·exact ⟨_, _, bt6 c (W4 c) p _ ek ev ks j k _ s0 s1 s2 (by omega) (by omega) h0 h1 h2 hm⟩
   ·exact ⟨_, _, bt7 c (W4 c) p _ ek ev ks j k _ s0 s1 (Bool.eq_false_iff.2 s2) (by omega) (by omega) h0 h1 h2 hm⟩
 ·have hm := ad1 (W4 c) p (k + 1 + 1 + 1 + 1) hp (by omega) (by omega)
  by_cases s1 : pk (W4 c) (k + 1 + 1 + 1) 3 = 0
  ·exact ⟨_, _, bu1 c (W4 c) p _ ek ev ks j k _ s0 s1 (by omega) (by omega) h0 h1 h2 hm⟩
  ·by_cases s2 : d8 p.vars.length p.arrays.length ⟨nm (W4 c) k fdL, 0, [⟨ek, ev, ks⟩, ⟨1, pk (W4 c) (k + 1) 2, []⟩]⟩ = true
   ·exact ⟨_, _, bt9 c (W4 c) p _ ek ev ks j k _ s0 s1 s2 (by omega) (by omega) h0 h1 h2 hm⟩
   ·exact ⟨_, _, bu0 c (W4 c) p _ ek ev ks j k _ s0 s1 (Bool.eq_false_iff.2 s2) (by omega) (by omega) h0 h1 h2 hm⟩
abbrev rpC (f : FuncId) (c : List UInt8) (p : f5) (m : w4) : i6 := ⟨f, [.ref 0], [dY c], [dY c] ++ pS p ++ mS m, .tup [pA 1, mA 4]⟩
theorem bb8 (c : List UInt8) : ∃ (p : f5) (m : w4), i6.ok Try.prog (rpC 33 c p m) := by
 have hb := bd0 (W4 c)
 have h1 := al8 (W4 c) 0 (by omega) (by omega)
 have hp := pg0 (W4 c)
 unfold pgC at h1
 generalize bdD (W4 c) 0 = bj at *
 generalize pgD (W4 c) 0 = p at *
 obtain ⟨bd, j⟩ := bj
 dsimp only at hb h1
 have hn : p.vars.length ≤ 1000000 ∧ p.arrays.length ≤ 1000000 := by unfold f5.size at hp; omega
 have h2 := aR4 (W4 c) j p.vars p.arrays p.body hn.1 hn.2 (by omega) (by omega)
 have h5 := bE1 (W4 c) j p.vars.length p.arrays.length
 obtain ⟨⟨m, k⟩, hm⟩ : ∃ x, x = bmD (W4 c) j p.vars.length p.arrays.length := ⟨_, rfl⟩
 rw [← hm] at h5
 dsimp only at h5
 exact ⟨_, m, a58 c (W4 c) p _ _ _ m j _ k _ (ax8 c) h1 h2 (bk4 hm.symm hn.1 hn.2 (by omega) (by omega)) (ad1 (W4 c) p k hp (by omega) (by omega))⟩
theorem be7 : ∀ x : Fin 4, ∀ y : Fin 4, zB 1 (orI x.val y.val) = (zB 1 (x.val : Int) || zB 1 (y.val : Int)) ∧ m8 (orI x.val y.val) = true := by decide +kernel
theorem zor {x y : Int} (hx : m8 x = true) (hy : m8 y = true) : zB 1 (orI x y) = (zB 1 x || zB 1 y) ∧ m8 (orI x y) = true := by
 obtain ⟨a, rfl⟩ := af5 hx
 obtain ⟨b, rfl⟩ := af5 hy
 exact be7 a b
theorem bk8 {f : b5 → Int} : ∀ (ks : List b5) (x : Int), m8 x = true → (∀ k ∈ ks, m8 (f k) = true) → m8 (ks.foldl (fun a k => orI a (f k)) x) = true ∧ (zB 1 (ks.foldl (fun a k => orI a (f k)) x) = false → zB 1 x = false ∧ ∀ k ∈ ks, zB 1 (f k) = false)
 | [], x, h, _ => ⟨h, fun h => ⟨h, fun k hk => absurd hk List.not_mem_nil⟩⟩
 | a :: r, x, h, hk => by
  have h1 := zor h (hk a bF7)
  have h2 := bk8 r _ h1.2 fun k hh => hk k (bG0 _ hh)
  refine ⟨h2.1, fun h3 => ?_⟩
  have h4 := h2.2 h3
  rw [h1.1, Bool.or_eq_false_iff] at h4
  refine ⟨h4.1.1, fun k hh => ?_⟩
  rcases bI2.1 hh with rfl | hh
  ·exact h4.1.2
  ·exact h4.2 k hh
theorem aH6 {l : List Int} (h : l.all m8 = true) (i : Nat) : m8 (l.getD i 0) = true := by
 rw [bF2]
 cases hx : l[i]? with
 | none => rfl
 | some x => exact bF5.1 h x (bE9 hx)
theorem bh1 {vs ars : List Int} (hv : vs.all m8 = true) (ha : ars.all m8 = true) (e : b5) : m8 (au6 vs ars e) = true := by
 unfold au6
 split
 ·exact aH6 hv _
 ·split
  ·exact aH6 ha _
  ·rfl
theorem a85 {vs ars : List Int} (hv : vs.all m8 = true) (ha : ars.all m8 = true) : ∀ (d : Nat) (e : b5), m8 (C0 vs ars d e) = true
 | 0, _ => rfl
 | d + 1, e => by
  rw [C0]
  exact (bk8 (f := C0 vs ars d) e.kids _ (bh1 hv ha e) fun k _ => a85 hv ha d k).1
structure Pub (vs ars : List Int) (a b : w4) : Prop where
 v : ∀ i : Nat, zB 1 (vs.getD i 0) = false → a.vals.getD i 0 = b.vals.getD i 0
 a : ∀ i : Nat, zB 1 (ars.getD i 0) = false → a.arrs.getD i [] = b.arrs.getD i []
abbrev evF (l : List (Int × Int)) : List Value := l.flatMap fun x => [Value.int .i64 x.1, .int .i64 x.2]
theorem K9.ev {w : World} {v : Value} {l : List (Int × Int)} (h : K9 w v l.length 2 (evF l)) : ∃ a cap, v = .slice a l.length cap ∧ l.length ≤ cap ∧ l.length ≤ 9223372036854775807 ∧ cap ≤ 9223372036854775807 ∧
  ∀ i (hi : i < l.length), ∃ b off, a = some ⟨b, off, none⟩ ∧ b < w.heap.size ∧ w.cell? ⟨b, off + i * 2, none⟩ = some (.int .i64 l[i].1) ∧ w.cell? ⟨b, off + i * 2 + 1, none⟩ = some (.int .i64 l[i].2) := by
 obtain ⟨a, cap, h0, h1, h2, h3, h4⟩ := h.open
 refine ⟨a, cap, h0, h1, h2, h3, fun i hi => ?_⟩
 obtain ⟨b, off, e, hb, hc⟩ := h4 i hi
 have c0 := hc 0 (by omega)
 have c1 := hc 1 (by omega)
 obtain ⟨y0, e0, g0⟩ := aW7 l (j := 0) (x := .v (.int .i64 l[i].1)) hi (by rw [n6 hi]; rfl)
 obtain ⟨y1, e1, g1⟩ := aW7 l (j := 1) (x := .v (.int .i64 l[i].2)) hi (by rw [n6 hi]; rfl)
 cases e0
 cases e1
 simp only [Nat.add_zero] at c0 g0
 exact ⟨b, off, e, hb, by rw [c0]; exact g0, by rw [c1]; exact g1⟩
theorem bq5 (x y : Int × Int) (w : World) : (binOp .neq 65 (.agg #[.int .i64 x.1, .int .i64 x.2]) (.agg #[.int .i64 y.1, .int .i64 y.2])).run Try.prog w = .ok (.bool (!decide (x = y))) w := by
 rw [run_neq_struct, run_equalIn_struct _ _ _ _ _ (by kernel_rfl) (by kernel_rfl)]
 rw [show (Try.prog.fieldsOf 65).toList = [⟨"Kind", 3, 0, false, "", "", 0⟩, ⟨"Value", 3, 1, false, "", "", 8⟩] from by kernel_rfl]
 simp only [Prod.ext_iff]
 simp [go_sem, Op.eqFields]
 (repeat' split) <;> simp_all
theorem ba8 (v1 v2 : Value) (xs ys : List (Int × Int)) (w : World) (h1 : K9 w v1 xs.length 2 (evF xs)) (h2 : K9 w v2 ys.length 2 (evF ys)) :
  Calls Try.prog 42 #[v1, v2] w fun e w' => e = .returned (.bool (decide (xs = ys))) ∧ ∃ n, w' = w.drewN n := by
 obtain ⟨a1, c1, rfl, -, hm1, -, hc1⟩ := h1.ev
 obtain ⟨a2, c2, rfl, -, hm2, -, hc2⟩ := h2.ev
 by_cases hl : xs.length = ys.length
 ·have heq : ((xs.length : Int) == (ys.length : Int)) = true := by simp; omega
  have HL : Hid (xs.length = ys.length) := hl
  clear h1 h2 hl
  go_enter Try.func42, Try.ntmps42
  go_wp2
  go_loopw [5, 13] (fun _ i wr => ∃ k : Nat, k ≤ xs.length ∧ i = .int .i64 k ∧ xs.take k = ys.take k ∧ ∃ n, wr = w.drewN n) (fun _ i _ => xs.length - (intOf i).toNat)
  case atStart => exact ⟨0, bI1 _, rfl, rfl, 0, rfl⟩
  case round =>
   obtain ⟨k, hk, rfl, ht, nd, rfl⟩ := hrel
   have HT : Hid (xs.take k = ys.take k) := ht
   clear ht
   by_cases hlt : k < xs.length
   ·have hlt2 : k < ys.length := by have := HL.out; omega
    obtain ⟨b1, o1, e1, hb1, i0, i1⟩ := hc1 k hlt
    obtain ⟨b2, o2, e2, hb2, j0, j1⟩ := hc2 k hlt2
    have hq := fun w => bq5 xs[k] ys[k] w
    have HE := show Hid _ from (fun (h : xs[k] = ys[k]) => ay8 HT.out hlt hlt2 h)
    obtain ⟨q, hq0⟩ : ∃ q, q = !decide (xs[k] = ys[k]) := ⟨_, rfl⟩
    rw [← hq0] at hq
    have HQ0 := show Hid _ from hq0
    obtain ⟨x, hx⟩ : ∃ x, x = xs[k] := ⟨_, rfl⟩
    obtain ⟨y, hy⟩ : ∃ y, y = ys[k] := ⟨_, rfl⟩
    rw [← hx] at i0 i1
    rw [← hy] at j0 j1
    simp only [← hx, ← hy] at hq
    subst e1 e2
    clear hc1 hc2 hq0 hx hy
    cases q
    ·go_wp2
     go_quiet (fail)
     go_wp2
     refine ⟨⟨k + 1, by omega, by go_num, HE.out (by have := HQ0.out; simpa using this), _, by first | rfl | exact World.drewN_drewN _ _ _⟩, by simp [intOf]; omega⟩
    ·go_wp2
     go_quiet (fail)
     go_wp2
     go_ret
     exact ⟨f8 (by symm; simp; intro h; subst h; simpa using HQ0.out), _, by first | rfl | exact World.drewN_drewN _ _ _⟩
   ·go_wp2
    go_ret
    exact ⟨f8 (by symm; simp; exact aF0 HT.out (by omega) (by have := HL.out; omega)), _, rfl⟩
 ·have hne : ((xs.length : Int) == (ys.length : Int)) = false := by simp; omega
  clear hc1 hc2
  go_enter Try.func42, Try.ntmps42
  go_wp2
  go_ret
  exact ⟨f8 (by symm; simp; intro h; exact hl (by rw [h])), 0, rfl⟩
theorem bd1 (l m : List (Int × Int)) : i6.ok Try.prog (J3 42 [.ref 0, .ref 1] [.dat (.events l), .dat (.events m)] (bA (decide (l = m)))) :=
 Q7 fun φ w ρ h => (ba8 _ _ l m w (w3.row (h 0 _ rfl)) (w3.row (h 1 _ rfl))).mono fun e w' ⟨h1, n, h2⟩ => ⟨h1, h2 ▸ below_drewN (Below.refl _ _) n⟩
theorem by6 (l m : List (Int × Int)) : i6.ok Try.prog (J3 13 [.ref 0, .ref 1] [.dat (.events l), .dat (.events m)] (bA (decide (l = m)))) := by
 refine E2 8 Try.func13 [dV l, dV m] [(0, .ref 0), (1, .ref 1)] fun G => ?_; refine wp_seq (l5 G f7 [(4, bA false)] fun G => b6 (wp_seq (l5 G (t8 2 [0, 1] (bd1 l m)) [(4, bA (decide (l = m)))] fun G => b6 (wp_ret ?_)))); exact I7 G [0, 1]
end Go.Proofs.Ytmokkddidcmglaa
