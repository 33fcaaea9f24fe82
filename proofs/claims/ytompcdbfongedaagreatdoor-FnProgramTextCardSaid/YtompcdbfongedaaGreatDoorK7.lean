/- Part 7: functions on the way, plain laws. Conditions: as said. -/
import Derived.Shelf.Strings.SplitCore
import Derived.Shelf.Strings.Search3
import Derived.Shelf.Strings.Count
import Derived.Lib.SplitLaws
import Derived.Test.YtompcdbfongedaaGreatDoorK4
import Derived.Test.YtompcdbfongedaaGreatDoorK5
import Derived.Test.YtompcdbfongedaaGreatDoorK6
set_option maxRecDepth 100000
set_option maxHeartbeats 16000000
set_option linter.unusedVariables false
set_option linter.unusedSimpArgs false
open Bool renaming not_eq_false' → b67, not_eq_true' → b65
open Inhabited renaming default → b55
open List renaming getElem?_append_left → b95, getElem?_eq_some_iff → b66, length_append → b69, length_cons → b58, length_nil → b60, map → b88, mem_cons → b76, take → b63
open Nat renaming le_refl → b71, le_trans → b54, zero_le → b92
open True renaming intro → b70

namespace Go.Proofs.YtompcdbfongedaaGreatDoor
open Go
section
variable {r : IR} {w : List UInt8} {f : Nat}
theorem s7 (h : r.2 = true) : (c6 r w).2 = true := by unfold c6; split <;> simp [h]
theorem ae1 (h : r.2 = true) : (d9 r).2.2 = true := by unfold d9; split <;> simp [h]
theorem a86 (h : r.2 = true) : (G4 r).2.2 = true := by unfold G4; simp [h]
theorem K6 : ∀ (f : Nat) (r : IR), r.2 = true -> (iE f r).2.2 = true
 | 0, r, h => by rw [iE]; exact s7 rfl
 | f + 1, r, h => by
  rw [iE]
  split
  ·exact a86 h
  split
  ·exact ae1 h
  split
  ·exact s7 (K6 f _ (s7 (ae1 h)))
  split
  ·exact s7 h
  have h2 := ae1 (K6 f (c6 r [40]) (s7 h))
  dsimp only
  split
  ·exact s7 (K6 f _ (s7 (K6 f _ h2)))
  exact s7 (K6 f _ h2)
def bF8 (B : IR -> List b5 × IR) : Prop := ∀ r, (r.2 = true -> (B r).2.2 = true) /\ (B r).2.1.length <= r.1.length
theorem bk1 (h : O9 r.1 w = true) (hw : 0 < w.length) : (c6 r w).1.length < r.1.length := by
 have : w.length <= r.1.length := by
  unfold O9 at h
  have := congrArg List.length (eq_of_beq h)
  rw [List.length_take] at this; omega
 unfold c6; rw [if_pos h]; simp; omega
theorem aZ9 (h : (d9 r).2.2 = false) (h0 : r.1 ≠ []) : (d9 r).2.1.length < r.1.length := by
 have := List.length_pos_iff.2 h0
 unfold d9 at h ⊢
 split at h
 ·cases h
 rw [if_neg (by assumption)]; simp; omega
theorem aK6 {p q : Bool} (h : p = true -> q = true) (hq : q = false) : p = false := by cases p; rfl; rw [h rfl] at hq; cases hq
theorem aS9 {B : IR -> List b5 × IR} (hB : bF8 B) (r : IR) : (r.2 = true -> (iSF B r).2.2 = true) /\ (iSF B r).2.1.length <= r.1.length /\ (r.1 ≠ [] -> (iSF B r).2.2 = false -> (iSF B r).2.1.length < r.1.length) := by
 rw [iSF]
 split
 ·rename_i hp
  have l1 := bk1 (r := r) (w := [105, 102]) hp (by decide)
  have l2 := b54 (n6 5 (c6 r [105, 102])) (Nat.le_of_lt l1)
  have l3 := (n6 5 (c6 r [105, 102]))
  dsimp only
  have l4 := b54 (hB (c6 (iE 5 (c6 r [105, 102])).2 [123])).2 (b54 j7 l3)
  have l5 := b54 (hB (c6 (c6 (B (c6 (iE 5 (c6 r [105, 102])).2 [123])).2 [125]) [123])).2 (b54 j7 (b54 j7 l4))
  have l6 := b54 (j7 (r := (B (c6 (c6 (B (c6 (iE 5 (c6 r [105, 102])).2 [123])).2 [125]) [123])).2) (w := [125])) l5
  refine ⟨fun h => s7 ((hB _).1 (s7 (s7 ((hB _).1 (s7 (K6 5 _ (s7 h))))))), by omega, fun _ _ => by omega⟩
 split
 ·rename_i hp
  have l1 := bk1 (r := r) (w := iSF.repL) hp (by decide)
  dsimp only
  have l3 := m5 (r := c6 r iSF.repL)
  have l4 := b54 (hB (c6 (G4 (c6 r iSF.repL)).2 [123])).2 (b54 j7 l3)
  have l6 := b54 (j7 (r := (B (c6 (G4 (c6 r iSF.repL)).2 [123])).2) (w := [125])) l4
  exact ⟨fun h => s7 ((hB _).1 (s7 (a86 (s7 h)))), by omega, fun _ _ => by omega⟩
 split
 ·split
  ·dsimp only
   have l3 := b54 (j7 (r := (iE 5 (c6 (d9 r).2 [33, 61])).2) (w := [59])) (b54 (n6 5 _) j7)
   have l4 := l7 (r := r)
   refine ⟨fun h => s7 (K6 5 _ (s7 (ae1 h))), by omega, fun h0 h => ?_⟩
   have := aZ9 (aK6 (fun hb => s7 (K6 5 _ (s7 hb))) h) h0
   omega
  dsimp only
  have l3 := b54 (j7 (r := (iE 5 (c6 (d9 r).2 [58, 61])).2) (w := [59])) (b54 (n6 5 _) j7)
  have l4 := l7 (r := r)
  refine ⟨fun h => s7 (K6 5 _ (s7 (ae1 h))), by omega, fun h0 h => ?_⟩
  have := aZ9 (aK6 (fun hb => s7 (K6 5 _ (s7 hb))) h) h0
  omega
 split
 ·dsimp only
  have l2 := b54 (n6 5 (c6 (d9 r).2 [91])) j7
  have l3 := b54 (j7 (r := (iE 5 (c6 (iE 5 (c6 (d9 r).2 [91])).2 [93, 58, 61])).2) (w := [59])) (b54 (n6 5 _) (b54 j7 l2))
  have l4 := l7 (r := r)
  refine ⟨fun h => s7 (K6 5 _ (s7 (K6 5 _ (s7 (ae1 h))))), by omega, fun h0 h => ?_⟩
  have := aZ9 (aK6 (fun hb => s7 (K6 5 _ (s7 (K6 5 _ (s7 hb))))) h) h0
  omega
 dsimp only
 have l3 := b54 (j7 (r := (iE 5 ((d9 r).2.1, true)).2) (w := [59])) (n6 5 _)
 have l4 := l7 (r := r)
 have hb := s7 (w := [59]) (K6 5 ((d9 r).2.1, true) rfl)
 exact ⟨fun _ => hb, by simp only at l3; omega, fun _ h => by rw [hb] at h; cases h⟩
theorem aS8 {R : IR -> b5 × IR} (hR : ∀ r, (r.2 = true -> (R r).2.2 = true) /\ (R r).2.1.length <= r.1.length) : ∀ (g : Nat) (x : List b5 × IR), (x.2.2 = true -> (iSs R g x).2.2 = true) /\ (iSs R g x).2.1.length <= x.2.1.length
 | 0, x => ⟨fun h => h, b71 _⟩
 | g + 1, x => by
  rw [iSs]
  split
  ·rename_i hc
   exact ⟨fun h => absurd h (by rw [hc.1]; decide), b54 (aS8 hR g (x.1 ++ [(R x.2).1], (R x.2).2)).2 (hR x.2).2⟩
  exact ⟨fun h => h, b71 _⟩
theorem az3 : ∀ f, bF8 (B9 f)
 | 0 => fun r => by
  rw [B9, iS0]
  split
  ·exact ⟨fun _ => rfl, b71 _⟩
  exact ⟨fun h => h, b71 _⟩
 | f + 1 => fun r => by
  rw [B9]
  exact aS8 (R := A0 f) (fun r => by
   rw [S5]
   have := aS9 (az3 f) r
   exact ⟨this.1, this.2.1⟩) (r.1.length + 1) ([], r)
theorem aS7 (d : Nat) (r : IR) : (r.2 = true -> (A0 d r).2.2 = true) /\ (A0 d r).2.1.length <= r.1.length /\ (r.1 ≠ [] -> (A0 d r).2.2 = false -> (A0 d r).2.1.length < r.1.length) := by
 rw [S5]; exact aS9 (az3 d) r
theorem A6 (f : Nat) (r : IR) : (B9 f r).2.1.length <= r.1.length := (az3 f r).2
theorem bM2 (d : Nat) (r : IR) : (A0 d r).2.1.length <= r.1.length := (aS7 d r).2.1
def J9 (d : Nat) (r : IR) : Nat -> List b5 × IR
 | 0 => ([], r)
 | k + 1 => ((J9 d r k).1 ++ [(A0 d (J9 d r k).2).1], (A0 d (J9 d r k).2).2)
theorem bz3 (d : Nat) (r : IR) (k : Nat) : (J9 d r k).1.length = k := by
 induction k with
 | zero => rfl
 | succ k ih => rw [J9, b69, ih]; rfl
theorem bL7 (d : Nat) (r : IR) (k : Nat) : (J9 d r k).2.1.length <= r.1.length := by
 induction k with
 | zero => exact b71 _
 | succ k ih => exact b54 (bM2 d _) ih
def itI (d : Nat) (r : IR) (k : Nat) : Prop := B9 (d + 1) r = iSs (A0 d) (r.1.length + 1 - k) (J9 d r k) /\ k <= r.1.length + 1 /\ ((J9 d r k).2.2 = false -> k + (J9 d r k).2.1.length <= r.1.length)
theorem bU6 (d : Nat) (r : IR) : itI d r 0 := ⟨rfl, by omega, fun _ => by simp [J9]⟩
variable {d k : Nat}
theorem bp2 (h : itI d r k) (h1 : (J9 d r k).2.2 = false) (h2 : (J9 d r k).2.1 ≠ []) : k < r.1.length := by
 have := h.2.2 h1
 have := List.length_pos_iff.2 h2
 omega
theorem bp1 (h : itI d r k) (h1 : (J9 d r k).2.2 = false) (h2 : (J9 d r k).2.1 ≠ []) (h3 : F8 (J9 d r k).2 ≠ 125) : itI d r (k + 1) := by
 have hk := bp2 h h1 h2
 have hl := h.2.2 h1
 refine ⟨?_, by omega, fun hb => ?_⟩
 ·rw [h.1, show r.1.length + 1 - k = (r.1.length + 1 - (k + 1)) + 1 by omega, iSs, if_pos ⟨h1, h2, h3⟩]; rfl
 have := (aS7 d (J9 d r k).2).2.2 h2 hb
 show k + 1 + (A0 d (J9 d r k).2).2.1.length <= _
 omega
theorem ay9 (h : itI d r k) (h1 : (J9 d r k).2.2 = true \/ (J9 d r k).2.1 = [] \/ F8 (J9 d r k).2 = 125) : B9 (d + 1) r = J9 d r k := by
 rw [h.1]
 cases hg : r.1.length + 1 - k with
 | zero => rfl
 | succ g =>
  rw [iSs, if_neg]
  rintro ⟨a, b, c⟩
  rcases h1 with h1 | h1 | h1
  ·rw [h1] at a; cases a
  ·exact b h1
  exact c h1
end
end Go.Proofs.YtompcdbfongedaaGreatDoor

namespace Go.Proofs.YtompcdbfongedaaGreatDoor
open Go Go.RowKit
section
variable {s : List UInt8} {b : Bool} {x : UInt8} {f d k : Nat} {r : IR}
theorem aI4 (h : ((b6 s).toList == (⟨#[]⟩ : ByteArray).toList) = true) : s = [] := by
 rw [show (⟨#[]⟩ : ByteArray) = b6 [] from rfl, C0, C0] at h; exact eq_of_beq h
theorem bq3 (h : b = false) (h1 : ((b6 s).toList == (⟨#[]⟩ : ByteArray).toList) = false) (h2 : ¬ ((F8 (s, b)).toNat : Int) = 125) : B9 0 (s, b) = ([], (s, true)) := by
 rw [B9, iS0, if_pos ⟨h, O5 h1, fun e => h2 (by rw [e]; rfl)⟩]
theorem a14 (h1 : ((b6 s).toList == (⟨#[]⟩ : ByteArray).toList) = true) : B9 0 (s, b) = ([], (s, b)) := by
 rw [B9, iS0, if_neg (by rw [aI4 h1]; simp)]
theorem a15 (h2 : ((F8 (s, b)).toNat : Int) = 125) : B9 0 (s, b) = ([], (s, b)) := by
 rw [B9, iS0, if_neg]
 rintro ⟨_, _, h⟩
 exact h (N5 (y := 125) h2)
theorem bj1 (h : itI d r k) (h1 : (J9 d r k).2.2 = true) : B9 (d + 1) r = J9 d r k := ay9 h (.inl h1)
theorem bj0 (h : itI d r k) (h1 : ((b6 (J9 d r k).2.1).toList == (⟨#[]⟩ : ByteArray).toList) = true) : B9 (d + 1) r = J9 d r k := ay9 h (.inr (.inl (aI4 h1)))
theorem bi9 (h : itI d r k) (h1 : ((F8 (J9 d r k).2).toNat : Int) = 125) : B9 (d + 1) r = J9 d r k := ay9 h (.inr (.inr (N5 (y := 125) h1)))
theorem bP4 (h : itI d r k) (h1 : (J9 d r k).2.2 = false) (h2 : ((b6 (J9 d r k).2.1).toList == (⟨#[]⟩ : ByteArray).toList) = false) (h3 : ¬ ((F8 (J9 d r k).2).toNat : Int) = 125) : itI d r (k + 1) := bp1 h h1 (O5 h2) (fun e => h3 (by rw [e]; rfl))
theorem bP5 (h : itI d r k) (h1 : (J9 d r k).2.2 = false) (h2 : ((b6 (J9 d r k).2.1).toList == (⟨#[]⟩ : ByteArray).toList) = false) : k < r.1.length := bp2 h h1 (O5 h2)
end
abbrev isC (f : Nat) (s : List UInt8) (b : Bool) (m : Int) : j1 := ⟨22, [.ptr 0 0, iA m], [rdB s b], [.box [.v (.string (b6 (B9 f (s, b)).2.1)), .v (.bool (B9 f (s, b)).2.2)], .tree (.stmts (B9 f (s, b)).1)], .tref 1⟩
abbrev itC (d : Nat) (s : List UInt8) (b : Bool) (m : Int) : j1 := ⟨50, [.ptr 0 0, iA m], [rdB s b], [.box [.v (.string (b6 (A0 d (s, b)).2.1)), .v (.bool (A0 d (s, b)).2.2)], .tree (.exprs (A0 d (s, b)).1.index.kids), .tree (.exprs (A0 d (s, b)).1.value.kids), .tree (.stmts (A0 d (s, b)).1.body), .tree (.stmts (A0 d (s, b)).1.els)],
 .agg [iA (A0 d (s, b)).1.kind, iA (A0 d (s, b)).1.target, iA (A0 d (s, b)).1.index.kind, iA (A0 d (s, b)).1.index.value, .tref 1, iA (A0 d (s, b)).1.value.kind, iA (A0 d (s, b)).1.value.value, .tref 2, iA (A0 d (s, b)).1.count, .tref 3, .tref 4]⟩
abbrev aq7 (s : List UInt8) (b : Bool) : List It := [.box [.v (.string (b6 (B9 0 (s, b)).snd.fst)), bA (B9 0 (s, b)).snd.snd], .tree (D.stmts (B9 0 (s, b)).fst)]
abbrev aO0 (m : Int) (r0 : List (Nat × AV)) : List (Nat × AV) := (0, .ptr 0 0) :: (1, iA m) :: (4, .v (.slice none 0 0)) :: (5, .v (.slice none 0 0)) :: r0
theorem bt1 (s : List UInt8) (b : Bool) (m : Int) (hm : m = 6) (hs : s.length <= 100000000) : j1.ok Tryz.prog (isC 0 s b m) := by
  refine D2 35 Tryz.func22 [.box [.v (.string (b6 s)), bA b]] [(0, .ptr 0 0), (1, iA m)] fun G => ?_; refine wp_seq (j3 G d7 [(4, .v (.slice none 0 0))] fun G => b0 (wp_seq (A4 G d7 (aO0 m []) fun G => b0 (wp_seq (wp_block ?_))))); refine x4 (κ := Nat) (fun k => k = 0) (fun k => 0) (fun k => [.box [.v (.string (b6 s)), bA b]]) (fun k => (aO0 m [])) 0 (by kernel_rfl) (w6.at G _ _) ?_; clear G; intro k ρ a w hp G; refine wp_seq (wp_seq ?_); cases h0 : (!b)
  · have q0 : (b) = true := (Eq.mp (b67 _) h0); refine j3 G (y7 (fc h0 (fc (b := false) rfl fz)) (us [(6, 10, 0), (1011, 1011, 0), (13, 15, 1), (1016, 1016, 1)])) [(22, bA false)] fun G => b0 (rF G false (by kernel_rfl) (wp_exit (p8 (p8 (p7 (b0 (wp_seq (A4 G d7 [(4, .v (.slice none 0 0))] fun G => b0 (wp_ret ?_))))))))); obtain ⟨ρ, G⟩ := G.nilT 1 (.stmts []) [.box [.v (.string (b6 s)), bA b]] [(4, .tref 1)]; exact H9 G [0, 1] (by show _ = mR [0, 1] (aq7 s b); unfold aq7; rw [q0] <;> rfl)
  have q0 : (b) = false := (Eq.mp (b65 _) h0); cases h1 : (!(b6 s).toList == (ByteArray.mk #[]).toList)
  · have q1 : ((b6 s).toList == (ByteArray.mk #[]).toList) = true := (Eq.mp (b67 _) h1); refine j3 G (y7 (fc h0 (fc h1 fz)) (us [(6, 10, 0), (1011, 1011, 0), (13, 15, 1), (1016, 1016, 1)])) [(22, bA false)] fun G => b0 (rF G false (by kernel_rfl) (wp_exit (p8 (p8 (p7 (b0 (wp_seq (A4 G d7 [(4, .v (.slice none 0 0))] fun G => b0 (wp_ret ?_))))))))); obtain ⟨ρ, G⟩ := G.nilT 1 (.stmts []) [.box [.v (.string (b6 s)), bA b]] [(4, .tref 1)]; exact H9 G [0, 1] (by show _ = mR [0, 1] (aq7 s b); unfold aq7; have e1 : (b6 (B9 0 (s, b)).snd.fst : ByteArray) = (b6 s) := (by rw [a14 (by with_reducible assumption)]); have e2 : ((B9 0 (s, b)).snd.snd : Bool) = (b) := (by rw [a14 (by with_reducible assumption)]); have e3 : ((B9 0 (s, b)).fst : List b5) = ([]) := (by rw [a14 (by with_reducible assumption)]); (first | rw [e1, e2, e3] | simp only [e1, e2, e3]) <;> rfl)
  have q1 : ((b6 s).toList == (ByteArray.mk #[]).toList) = false := (Eq.mp (b65 _) h1); refine j3 G (x8 (m8 14 [0] (ap5 s b) x7) (fc h0 (fc h1 fz)) (us [(6, 10, 0), (1011, 1011, 0), (13, 15, 1), (1016, 1016, 1)])) [(22, bA (((F8 (s, b)).toNat : Int) != 125))] fun G => b0 (rcN G (fun h2 q2 => ?_) fun h2 q2 => ?_)
  · refine wp_exit (p8 (p8 (p7 (b0 (wp_seq (A4 G d7 [(4, .v (.slice none 0 0))] fun G => b0 (wp_ret ?_))))))); obtain ⟨ρ, G⟩ := G.nilT 1 (.stmts []) [.box [.v (.string (b6 s)), bA b]] [(4, .tref 1)]; exact H9 G [0, 1] (by show _ = mR [0, 1] (aq7 s b); unfold aq7; have e1 : (b6 (B9 0 (s, b)).snd.fst : ByteArray) = (b6 s) := (by rw [a15 (by assumption)]); have e2 : ((B9 0 (s, b)).snd.snd : Bool) = (b) := (by rw [a15 (by assumption)]); have e3 : ((B9 0 (s, b)).fst : List b5) = ([]) := (by rw [a15 (by assumption)]); (first | rw [e1, e2, e3] | simp only [e1, e2, e3]) <;> rfl)
  refine wp_skip (b0 (wp_block (wp_seq (wp_seq (A4 G d7 (aO0 m [(24, bA (decide (m > 5)))]) fun G => b0 ?_))))); cases h3 : (decide (m > 5))
  · have q3 := L3 h3; exact False.elim (by omega)
  have q3 := L2 h3; refine rT G _ h3 (wp_seq (j5 G d7 [0] [.box [.v (.string (b6 s)), bA true]] (aO0 m []) fun G => b0 (wp_seq (A4 G d7 (aO0 m []) fun G => b0 (wp_ret (j2 (A2 (j2 (A2 (j2 ?_)))))))))); obtain ⟨ρ, G⟩ := G.nilT 1 (.stmts []) [.box [.v (.string (b6 s)), bA true]] [(0, .ptr 0 0), (1, iA m), (4, .tref 1), (5, .v (.slice none 0 0))]; exact H9 G [0, 1] (by show _ = mR [0, 1] (aq7 s b); unfold aq7; have e1 : (b6 (B9 0 (s, b)).snd.fst : ByteArray) = (b6 s) := (by rw [bq3 (by assumption) (by with_reducible assumption) (by assumption)]); have e2 : ((B9 0 (s, b)).snd.snd : Bool) = (true) := (by rw [bq3 (by assumption) (by with_reducible assumption) (by assumption)]); have e3 : ((B9 0 (s, b)).fst : List b5) = ([]) := (by rw [bq3 (by assumption) (by with_reducible assumption) (by assumption)]); (first | rw [e1, e2, e3] | simp only [e1, e2, e3]) <;> rfl)
abbrev aD4 (d : Nat) (s : List UInt8) (b : Bool) : List It := [.box [.v (.string (b6 (B9 (d + 1) (s, b)).snd.fst)), bA (B9 (d + 1) (s, b)).snd.snd], .tree (D.stmts (B9 (d + 1) (s, b)).fst)]
theorem bw4 (d : Nat) (hd : d <= 4) (ih : ∀ (s : List UInt8) (b : Bool) (m : Int), m = 5 - (d : Int) -> s.length <= 100000000 -> j1.ok Tryz.prog (itC d s b m)) (s : List UInt8) (b : Bool) (m : Int) (hm : m = 6 - ((d + 1 : Nat) : Int)) (hs : s.length <= 100000000) : j1.ok Tryz.prog (isC (d + 1) s b m) := by
  refine D2 35 Tryz.func22 [.box [.v (.string (b6 s)), bA b]] [(0, .ptr 0 0), (1, iA m)] fun G => ?_; refine wp_seq (j3 G d7 [(4, .v (.slice none 0 0))] fun G => b0 (wp_seq (A4 G d7 [(0, .ptr 0 0), (1, iA m), (4, .v (.slice none 0 0)), (5, .v (.slice none 0 0))] fun G => b0 (wp_seq (wp_block ?_))))); obtain ⟨ρ, G⟩ := G.nilT 1 (.stmts []) [.box [.v (.string (b6 s)), bA b]] [(0, .ptr 0 0), (1, iA m), (4, .v (.slice none 0 0)), (5, .tref 1)]; refine x4 (κ := Nat) (fun k => itI d (s, b) k) (fun k => s.length + 1 - k) (fun k => [.box [.v (.string (b6 (J9 d (s, b) k).2.1)), bA (J9 d (s, b) k).2.2], .tree (.stmts (J9 d (s, b) k).1)]) (fun k => [(0, .ptr 0 0), (1, iA m), (4, .v (.slice none 0 0)), (5, .tref 1)]) 0 (bU6 _ _) (w6.at G _ _) ?_; clear G; intro k ρ a w hp G; replace G := w6.at G [.box [.v (.string (b6 (J9 d (s, b) k).snd.fst)), bA (J9 d (s, b) k).snd.snd], .tree (D.stmts (J9 d (s, b) k).fst)] [(0, .ptr 0 0), (1, iA m), (4, .v (.slice none 0 0)), (5, .tref 1)]; have hk9 : k <= s.length + 1 := hp.2.1; refine wp_seq (wp_seq ?_); cases h0 : (!(J9 d (s, b) k).snd.snd)
  · have q0 : ((J9 d (s, b) k).snd.snd) = true := (Eq.mp (b67 _) h0); refine j3 G (y7 (fc h0 (fc (b := false) rfl fz)) (us [(6, 10, 0), (1011, 1011, 0), (13, 15, 1), (1016, 1016, 1)])) [(22, bA false)] fun G => b0 (rF G false (by kernel_rfl) (wp_exit (p8 (p8 (p7 (b0 (wp_seq (j3 G d7 [(4, .tref 1)] fun G => b0 (wp_ret ?_))))))))); exact H9 G [0, 1] (by show _ = mR [0, 1] (aD4 d s b); unfold aD4; have e1 : (b6 (B9 (d + 1) (s, b)).snd.fst : ByteArray) = (b6 (J9 d (s, b) k).snd.fst) := (by rw [bj1 hp (by assumption)]); have e2 : ((B9 (d + 1) (s, b)).snd.snd : Bool) = ((J9 d (s, b) k).snd.snd) := (by rw [bj1 hp (by assumption)]); have e3 : ((B9 (d + 1) (s, b)).fst : List b5) = ((J9 d (s, b) k).fst) := (by rw [bj1 hp (by assumption)]); (first | rw [e1, e2, e3] | simp only [e1, e2, e3]) <;> rfl)
  have q0 : ((J9 d (s, b) k).snd.snd) = false := (Eq.mp (b65 _) h0); cases h1 : (!(b6 (J9 d (s, b) k).snd.fst).toList == (ByteArray.mk #[]).toList)
  · have q1 : ((b6 (J9 d (s, b) k).snd.fst).toList == (ByteArray.mk #[]).toList) = true := (Eq.mp (b67 _) h1); refine j3 G (y7 (fc h0 (fc h1 fz)) (us [(6, 10, 0), (1011, 1011, 0), (13, 15, 1), (1016, 1016, 1)])) [(22, bA false)] fun G => b0 (rF G false (by kernel_rfl) (wp_exit (p8 (p8 (p7 (b0 (wp_seq (j3 G d7 [(4, .tref 1)] fun G => b0 (wp_ret ?_))))))))); exact H9 G [0, 1] (by show _ = mR [0, 1] (aD4 d s b); unfold aD4; have e1 : (b6 (B9 (d + 1) (s, b)).snd.fst : ByteArray) = (b6 (J9 d (s, b) k).snd.fst) := (by rw [bj0 hp (by with_reducible assumption)]); have e2 : ((B9 (d + 1) (s, b)).snd.snd : Bool) = ((J9 d (s, b) k).snd.snd) := (by rw [bj0 hp (by with_reducible assumption)]); have e3 : ((B9 (d + 1) (s, b)).fst : List b5) = ((J9 d (s, b) k).fst) := (by rw [bj0 hp (by with_reducible assumption)]); (first | rw [e1, e2, e3] | simp only [e1, e2, e3]) <;> rfl)
  have q1 : ((b6 (J9 d (s, b) k).snd.fst).toList == (ByteArray.mk #[]).toList) = false := (Eq.mp (b65 _) h1); refine j3 G (x8 (m8 14 [0] (ap5 ((J9 d (s, b) k).snd.fst) ((J9 d (s, b) k).snd.snd)) x7) (fc h0 (fc h1 fz)) (us [(6, 10, 0), (1011, 1011, 0), (13, 15, 1), (1016, 1016, 1)])) [(22, bA (((F8 (J9 d (s, b) k).snd).toNat : Int) != 125))] fun G => b0 (rcN G (fun h2 q2 => ?_) fun h2 q2 => ?_)
  · refine wp_exit (p8 (p8 (p7 (b0 (wp_seq (j3 G d7 [(4, .tref 1)] fun G => b0 (wp_ret ?_))))))); exact H9 G [0, 1] (by show _ = mR [0, 1] (aD4 d s b); unfold aD4; have e1 : (b6 (B9 (d + 1) (s, b)).snd.fst : ByteArray) = (b6 (J9 d (s, b) k).snd.fst) := (by rw [bi9 hp (by assumption)]); have e2 : ((B9 (d + 1) (s, b)).snd.snd : Bool) = ((J9 d (s, b) k).snd.snd) := (by rw [bi9 hp (by assumption)]); have e3 : ((B9 (d + 1) (s, b)).fst : List b5) = ((J9 d (s, b) k).fst) := (by rw [bi9 hp (by assumption)]); (first | rw [e1, e2, e3] | simp only [e1, e2, e3]) <;> rfl)
  refine wp_skip (b0 (wp_block (wp_seq (wp_seq (A4 G d7 [(0, .ptr 0 0), (1, iA m), (4, .v (.slice none 0 0)), (5, .tref 1), (24, bA (decide (m > 5)))] fun G => b0 ?_))))); cases h3 : (decide (m > 5))
  · have q3 := L3 h3; refine rF G _ h3 (wp_skip (b0 (G8 G (n4 3 [0] (ih ((J9 d (s, b) k).snd.fst) ((J9 d (s, b) k).snd.snd) m (by omega) (b54 (bL7 d (s, b) k) hs))) [0, 42] [.box [.v (.string (b6 (A0 d (J9 d (s, b) k).snd).snd.fst)), bA (A0 d (J9 d (s, b) k).snd).snd.snd], .tree (D.stmts ((J9 d (s, b) k).fst ++ [qzS (A0 d (J9 d (s, b) k).snd).fst]))] [(0, .ptr 0 0), (1, iA m), (4, .v (.slice none 0 0)), (5, .tref 1)] (aP ((J9 d (s, b) k).fst.length + [qzS (A0 d (J9 d (s, b) k).snd).fst].length) 152 []) (aK (by simp only [b69, b58, b60, bz3]; omega) b70) fun G => o9 (b0 ?_)))); exact Z9 G (k + 1) (bP4 hp (by assumption) (by with_reducible assumption) (by assumption)) (by have h9 : k < s.length := bP5 hp (by assumption) (by with_reducible assumption) ; omega) [0, 1] (by have e1 : ((J9 d (s, b) (k + 1)).fst : List b5) = ((J9 d (s, b) k).fst ++ [qzS (A0 d (J9 d (s, b) k).snd).fst]) := (by simp only [qzS, b7.eta, b5.eta]; rfl); (first | rw [e1] | simp only [e1]) <;> rfl)
  have q3 := L2 h3; exact False.elim (by omega)
end Go.Proofs.YtompcdbfongedaaGreatDoor

namespace Go.Proofs.YtompcdbfongedaaGreatDoor
open Go
def ji1 (r : IR) : b7 × IR := iE 5 (c6 r [105, 102])
def ji2 (d : Nat) (r : IR) : List b5 × IR := B9 d (c6 (ji1 r).2 [123])
def ji3 (d : Nat) (r : IR) : List b5 × IR := B9 d (c6 (c6 (ji2 d r).2 [125]) [123])
def jr1 (r : IR) : Int × IR := G4 (c6 r [114, 101, 112, 101, 97, 116])
def jr2 (d : Nat) (r : IR) : List b5 × IR := B9 d (c6 (jr1 r).2 [123])
def jv (r : IR) : b7 × IR := iE 5 (c6 (d9 r).2 [58, 61])
def jw (r : IR) : b7 × IR := iE 5 (c6 (d9 r).2 [33, 61])
def ja1 (r : IR) : b7 × IR := iE 5 (c6 (d9 r).2 [91])
def ja2 (r : IR) : b7 × IR := iE 5 (c6 (ja1 r).2 [93, 58, 61])
def jb (r : IR) : b7 × IR := iE 5 ((d9 r).2.1, true)
section
variable {d : Nat} {r : IR}
theorem bU4 (h : O9 r.1 [105, 102] = true) : A0 d r = (⟨3, 0, zE, (ji1 r).1, 0, (ji2 d r).1, (ji3 d r).1⟩, c6 (ji3 d r).2 [125]) := by
 rw [S5, iSF, if_pos h]; rfl
theorem bU2 (h : O9 r.1 [105, 102] = false) (h1 : O9 r.1 [114, 101, 112, 101, 97, 116] = true) : A0 d r = (⟨4, 0, zE, zE, (jr1 r).1, (jr2 d r).1, []⟩, c6 (jr2 d r).2 [125]) := by
 rw [S5, iSF, if_neg (by rw [h]; decide), if_pos (show O9 r.1 iSF.repL = true from h1)]; rfl
section
variable (h : O9 r.1 [105, 102] = false) (h1 : O9 r.1 [114, 101, 112, 101, 97, 116] = false)
include h h1
theorem bU3 (h2 : ak8 (d9 r).1 = true) (h3 : F8 (d9 r).2 = 33) : A0 d r = (⟨5, (((d9 r).1.toNat - 97 : Nat) : Int), zE, (jw r).1, 0, [], []⟩, c6 (jw r).2 [59]) := by
 rw [S5, iSF, if_neg (by rw [h]; decide), if_neg (by rw [show O9 r.1 iSF.repL = false from h1]; decide), if_pos h2, if_pos h3]; rfl
theorem bU5 (h2 : ak8 (d9 r).1 = true) (h3 : ¬ F8 (d9 r).2 = 33) : A0 d r = (⟨1, (((d9 r).1.toNat - 97 : Nat) : Int), zE, (jv r).1, 0, [], []⟩, c6 (jv r).2 [59]) := by
 rw [S5, iSF, if_neg (by rw [h]; decide), if_neg (by rw [show O9 r.1 iSF.repL = false from h1]; decide), if_pos h2, if_neg h3]; rfl
theorem bF0 (h2 : ak8 (d9 r).1 = false) (h3 : az0 (d9 r).1 = true) : A0 d r = (⟨2, (((d9 r).1.toNat - 80 : Nat) : Int), (ja1 r).1, (ja2 r).1, 0, [], []⟩, c6 (ja2 r).2 [59]) := by
 rw [S5, iSF, if_neg (by rw [h]; decide), if_neg (by rw [show O9 r.1 iSF.repL = false from h1]; decide), if_neg (by rw [h2]; decide), if_pos h3]; rfl
theorem bF1 (h2 : ak8 (d9 r).1 = false) (h3 : az0 (d9 r).1 = false) : A0 d r = (⟨1, 0, zE, (jb r).1, 0, [], []⟩, c6 (jb r).2 [59]) := by
 rw [S5, iSF, if_neg (by rw [h]; decide), if_neg (by rw [show O9 r.1 iSF.repL = false from h1]; decide), if_neg (by rw [h2]; decide), if_neg (by rw [h3]; decide)]; rfl
end
end
end Go.Proofs.YtompcdbfongedaaGreatDoor

namespace Go.Proofs.YtompcdbfongedaaGreatDoor
open Go Go.RowKit
theorem b48 {x : Bool} (h : x = true) (h1 : x = false) : False := by rw [h] at h1; cases h1
theorem bX3 (s : List UInt8) (b : Bool) (m : Int) (hm : m = 6) (hs : s.length <= 100000000) : j1.ok Tryz.prog (ieC 0 s b m) := by
  have hx : ((F8 (s, true)).toNat : Int) = 0 := rfl; refine D2 106 Tryz.func82 [.box [.v (.string (b6 s)), bA b]] [(0, .ptr 0 0), (1, iA m)] fun G => ?_; refine wp_seq (j5 G d7 [0, 1] [.box [.v (.string (b6 s)), bA b], .box [iA 0, iA 0, .v (.slice none 0 0)]] [(0, .ptr 0 0), (1, iA m), (4, .ptr 1 0)] fun G => b0 (wp_seq (wp_seq (A4 G d7 [(0, .ptr 0 0), (1, iA m), (4, .ptr 1 0), (10, bA (decide (m > 5)))] fun G => b0 ?_)))); cases h0 : (decide (m > 5))
  · have q0 := L3 h0; exact False.elim (by omega)
  have q0 := L2 h0; refine rT G _ h0 (j5 G d7 [0, 1] [.box [.v (.string (b6 s)), bA true], .box [iA 0, iA 0, .v (.slice none 0 0)]] [(0, .ptr 0 0), (1, iA m), (4, .ptr 1 0)] fun G => b0 (wp_seq (wp_seq (j3 G (n4 1 [0] (ap5 s true)) [(5, .v (.int .u8 ((F8 (s, true)).toNat : Int)))] fun G => b0 (wp_block (wp_seq (j3 G (y7 (fc (b := false) rfl fz) [(3, 0), (4, 0), (1005, 0)]) [(16, bA false)] fun G => b0 (rF G false (by kernel_rfl) (wp_seq (j3 G (y7 (fc (b := false) rfl fz) [(3, 0), (4, 0), (1005, 0)]) [(26, bA false)] fun G => b0 (rF G false (by kernel_rfl) (wp_seq (j3 G (y7 (fc (b := false) rfl fz) [(3, 0), (4, 0), (1005, 0)]) [(38, bA false)] fun G => b0 (rF G false (by kernel_rfl) (wp_skip (o9 (b0 (wp_seq (j5 G (n4 1 [0] (F3 s ([40]) true (by assumption))) [0, 1] [.box [.v (.string (b6 (c6 (s, true) [40]).fst)), bA (c6 (s, true) [40]).snd], .box [iA 0, iA 0, .v (.slice none 0 0)]] [(0, .ptr 0 0), (1, iA m), (4, .ptr 1 0)] fun G => b0 (wp_seq (wp_seq (A4 G d7 [(0, .ptr 0 0), (1, iA m), (4, .ptr 1 0), (66, bA (c6 (s, true) [40]).snd)] fun G => b0 ?_)))))))))))))))))))))); cases h1 : ((c6 (s, true) [(40 : UInt8)]).snd)
  · exact False.elim (b48 (bI1 (s := s) (w := [40])) (by with_reducible assumption))
  refine rT G _ h1 (wp_seq (A4 G d7 [(0, .ptr 0 0), (1, iA m), (4, .ptr 1 0)] fun G => b0 (wp_ret (j2 ?_)))); obtain ⟨ρ, G⟩ := G.nilT 2 (.exprs []) [.box [.v (.string (b6 (c6 (s, true) [40]).fst)), bA (c6 (s, true) [40]).snd], .box [iA 0, iA 0, .tref 2]] [(0, .ptr 0 0), (1, iA m), (4, .ptr 1 0)]; exact H9 G [0, 2]
theorem iED : ∀ (f : Nat), f <= 5 -> ∀ (s : List UInt8) (b : Bool) (m : Int), m = 6 - (f : Int) -> s.length <= 100000000 -> j1.ok Tryz.prog (ieC f s b m)
 | 0, _, s, b, m, hm, hs => bX3 s b m (by omega) hs
 | f + 1, hf, s, b, m, hm, hs => bZ4 f (by omega) (iED f (by omega)) s b m hm hs
theorem bO1 (s : List UInt8) (b : Bool) (m : Int) (hm : m = 1) (hs : s.length <= 100000000) : j1.ok Tryz.prog (ieC 5 s b m) := iED 5 (by omega) s b m (by omega) hs
abbrev ibC (f : Nat) (s : List UInt8) (b : Bool) (m : Int) : j1 := ⟨83, [.ptr 0 0, iA m], [rdB s b], [.box [.v (.string (b6 (c6 (B9 f (c6 (s, b) [123])).2 [125]).1)), .v (.bool (c6 (B9 f (c6 (s, b) [123])).2 [125]).2)], .tree (.stmts (B9 f (c6 (s, b) [123])).1)], .tref 1⟩
theorem bk8 (f : Nat) (ih : ∀ (s : List UInt8) (b : Bool) (m : Int), m = 6 - (f : Int) -> s.length <= 100000000 -> j1.ok Tryz.prog (isC f s b m)) (s : List UInt8) (b : Bool) (m : Int) (hm : m = 6 - (f : Int)) (hs : s.length <= 100000000) : j1.ok Tryz.prog (ibC f s b m) := by
 refine D2 14 Tryz.func83 [.box [.v (.string (b6 s)), bA b]] [(0, .ptr 0 0), (1, iA m)] fun G => ?_; refine wp_seq (j3 G d7 [(4, .v (.slice none 0 0))] fun G => b0 (wp_seq (j5 G (n4 1 [0] (F3 s ([123]) b (by assumption))) [0] [.box [.v (.string (b6 (c6 (s, b) [123]).fst)), bA (c6 (s, b) [123]).snd]] [(0, .ptr 0 0), (1, iA m), (4, .v (.slice none 0 0))] fun G => b0 (wp_seq (j5 G (n4 2 [0] (ih ((c6 (s, b) [123]).fst) ((c6 (s, b) [123]).snd) m (by assumption) (by repeat (first | exact hs | with_reducible refine b54 (A6 f _) ?_ | with_reducible refine b54 j7 ?_)))) [0, 17] [.box [.v (.string (b6 (B9 f (c6 (s, b) [123])).snd.fst)), bA (B9 f (c6 (s, b) [123])).snd.snd], .tree (D.stmts (B9 f (c6 (s, b) [123])).fst)] [(0, .ptr 0 0), (4, .v (.slice none 0 0)), (5, .tref 1)] fun G => b0 (wp_seq (j5 G (n4 1 [0] (F3 ((B9 f (c6 (s, b) [123])).snd.fst) ([125]) ((B9 f (c6 (s, b) [123])).snd.snd) (by repeat (first | exact hs | with_reducible refine b54 (A6 f _) ?_ | with_reducible refine b54 j7 ?_)))) [0, 1] [.box [.v (.string (b6 (c6 (B9 f (c6 (s, b) [123])).snd [125]).fst)), bA (c6 (B9 f (c6 (s, b) [123])).snd [125]).snd], .tree (D.stmts (B9 f (c6 (s, b) [123])).fst)] [(4, .v (.slice none 0 0)), (5, .tref 1)] fun G => b0 (wp_seq (j3 G d7 [(4, .tref 1)] fun G => b0 (wp_ret ?_)))))))))); exact H9 G [0, 1]
attribute [local irreducible] iE B9 A0 c6 d9 G4 F8 O9
abbrev rdR (r : IR) : It := .box [.v (.string (b6 r.1)), .v (.bool r.2)]
abbrev nxR (r : IR) : j1 := ⟨49, [.ptr 0 0], [rdR r], [rdR r], uA (F8 r)⟩
abbrev skR (r : IR) (u : List UInt8) : j1 := ⟨81, [.ptr 0 0, tA u], [rdR r], [rdR (c6 r u)], .tup []⟩
abbrev onR (r : IR) : j1 := ⟨85, [.ptr 0 0], [rdR r], [rdR (d9 r).2], uA (d9 r).1⟩
abbrev nuR (r : IR) : j1 := ⟨84, [.ptr 0 0], [rdR r], [rdR (G4 r).2], iA (G4 r).1⟩
abbrev ieR (r : IR) (m : Int) : j1 := ⟨82, [.ptr 0 0, iA m], [rdR r], [rdR (iE 5 r).2, .tree (.exprs (iE 5 r).1.kids)], .agg [iA (iE 5 r).1.kind, iA (iE 5 r).1.value, .tref 1]⟩
abbrev ibR (f : Nat) (r : IR) (m : Int) : j1 := ⟨83, [.ptr 0 0, iA m], [rdR r], [rdR (c6 (B9 f (c6 r [123])).2 [125]), .tree (.stmts (B9 f (c6 r [123])).1)], .tref 1⟩
abbrev itR (d : Nat) (r : IR) (m : Int) : j1 := ⟨50, [.ptr 0 0, iA m], [rdR r], [rdR (A0 d r).2, .tree (.exprs (A0 d r).1.index.kids), .tree (.exprs (A0 d r).1.value.kids), .tree (.stmts (A0 d r).1.body), .tree (.stmts (A0 d r).1.els)],
 .agg [iA (A0 d r).1.kind, iA (A0 d r).1.target, iA (A0 d r).1.index.kind, iA (A0 d r).1.index.value, .tref 1, iA (A0 d r).1.value.kind, iA (A0 d r).1.value.value, .tref 2, iA (A0 d r).1.count, .tref 3, .tref 4]⟩
abbrev V9 (r : IR) := iE 5 (c6 (iE 5 (c6 (d9 r).snd [91])).snd [93, 58, 61])
abbrev ag0 (d : Nat) (r : IR) := B9 d (c6 (iE 5 (c6 r [105, 102])).snd [123])
abbrev aD3 (d : Nat) (r : IR) := B9 d (c6 (G4 (c6 r [114, 101, 112, 101, 97, 116])).snd [123])
abbrev bB8 (r : IR) := c6 (iE 5 ((d9 r).snd.fst, true)).snd [59]
abbrev Q7 (d : Nat) (r : IR) : List It := [.box [.v (.string (b6 (A0 d r).snd.fst)), bA (A0 d r).snd.snd], .tree (D.exprs (A0 d r).fst.index.kids), .tree (D.exprs (A0 d r).fst.value.kids), .tree (D.stmts (A0 d r).fst.body), .tree (D.stmts (A0 d r).fst.els)]
abbrev A7 : It := .box [iA 0, iA 0, iA 0, iA 0, .v (.slice none 0 0), iA 0, iA 0, .v (.slice none 0 0), iA 0, .v (.slice none 0 0), .v (.slice none 0 0)]
abbrev a45 (r : IR) : It := .box [iA 2, iA (((d9 r).fst.toNat : Int) - 80), iA (iE 5 (c6 (d9 r).snd [91])).fst.kind, iA (iE 5 (c6 (d9 r).snd [91])).fst.value, .tref 3, iA (V9 r).fst.kind, iA (V9 r).fst.value, .tref 4, iA 0, .v (.slice none 0 0), .v (.slice none 0 0)]
abbrev a44 (r : IR) : It := .box [iA 2, iA (((d9 r).fst.toNat : Int) - 80), iA (iE 5 (c6 (d9 r).snd [91])).fst.kind, iA (iE 5 (c6 (d9 r).snd [91])).fst.value, .tref 3, iA 0, iA 0, .v (.slice none 0 0), iA 0, .v (.slice none 0 0), .v (.slice none 0 0)]
abbrev a43 (r : IR) : It := .box [iA 1, iA 0, iA 0, iA 0, .v (.slice none 0 0), iA (iE 5 ((d9 r).snd.fst, true)).fst.kind, iA (iE 5 ((d9 r).snd.fst, true)).fst.value, .tref 3, iA 0, .v (.slice none 0 0), .v (.slice none 0 0)]
abbrev a42 (r : IR) : It := .box [iA 2, iA (((d9 r).fst.toNat : Int) - 80), iA 0, iA 0, .v (.slice none 0 0), iA 0, iA 0, .v (.slice none 0 0), iA 0, .v (.slice none 0 0), .v (.slice none 0 0)]
abbrev aH4 : It := .box [iA 1, iA 0, iA 0, iA 0, .v (.slice none 0 0), iA 0, iA 0, .v (.slice none 0 0), iA 0, .v (.slice none 0 0), .v (.slice none 0 0)]
abbrev V1 (r : IR) : It := .tree (D.exprs (iE 5 (c6 (d9 r).snd [91])).fst.kids)
abbrev bh3 (r : IR) : It := .box [iA 2, iA (((d9 r).fst.toNat : Int) - 80), iA (iE 5 (c6 (d9 r).snd [91])).fst.kind, iA (iE 5 (c6 (d9 r).snd [91])).fst.value, .tref 2, iA (V9 r).fst.kind, iA (V9 r).fst.value, .tref 3, iA 0, .v (.slice none 0 0), .v (.slice none 0 0)]
abbrev bh2 (r : IR) : It := .box [iA 1, iA (((d9 r).fst.toNat : Int) - 97), iA 0, iA 0, .v (.slice none 0 0), iA (iE 5 (c6 (d9 r).snd [58, 61])).fst.kind, iA (iE 5 (c6 (d9 r).snd [58, 61])).fst.value, .tref 3, iA 0, .v (.slice none 0 0), .v (.slice none 0 0)]
abbrev bh1 (r : IR) : It := .box [iA 5, iA (((d9 r).fst.toNat : Int) - 97), iA 0, iA 0, .v (.slice none 0 0), iA (iE 5 (c6 (d9 r).snd [33, 61])).fst.kind, iA (iE 5 (c6 (d9 r).snd [33, 61])).fst.value, .tref 3, iA 0, .v (.slice none 0 0), .v (.slice none 0 0)]
abbrev bh0 (r : IR) : It := .box [iA 1, iA 0, iA 0, iA 0, .v (.slice none 0 0), iA (iE 5 ((d9 r).snd.fst, true)).fst.kind, iA (iE 5 ((d9 r).snd.fst, true)).fst.value, .tref 2, iA 0, .v (.slice none 0 0), .v (.slice none 0 0)]
abbrev aH3 (r : IR) : It := .box [.v (.string (b6 (c6 (V9 r).snd [59]).fst)), bA (c6 (V9 r).snd [59]).snd]
abbrev bg9 (r : IR) : It := .box [iA 1, iA (((d9 r).fst.toNat : Int) - 97), iA 0, iA 0, .v (.slice none 0 0), iA 0, iA 0, .v (.slice none 0 0), iA 0, .v (.slice none 0 0), .v (.slice none 0 0)]
abbrev bg8 (r : IR) : It := .box [iA 5, iA (((d9 r).fst.toNat : Int) - 97), iA 0, iA 0, .v (.slice none 0 0), iA 0, iA 0, .v (.slice none 0 0), iA 0, .v (.slice none 0 0), .v (.slice none 0 0)]
abbrev am5 (r : IR) : It := .tree (D.exprs (iE 5 ((d9 r).snd.fst, true)).fst.kids)
abbrev bg7 (d : Nat) (r : IR) : It := .box [.v (.string (b6 (c6 (B9 d (c6 (c6 (ag0 d r).snd [125]) [123])).snd [125]).fst)), bA (c6 (B9 d (c6 (c6 (ag0 d r).snd [125]) [123])).snd [125]).snd]
abbrev av3 (r : IR) : It := .box [.v (.string (b6 (d9 r).snd.fst)), bA (d9 r).snd.snd]
abbrev bg6 (r : IR) : It := .box [.v (.string (b6 (c6 (iE 5 (c6 (d9 r).snd [91])).snd [93, 58, 61]).fst)), bA (c6 (iE 5 (c6 (d9 r).snd [91])).snd [93, 58, 61]).snd]
abbrev bg5 (r : IR) : It := .box [.v (.string (b6 (c6 (iE 5 (c6 (d9 r).snd [58, 61])).snd [59]).fst)), bA (c6 (iE 5 (c6 (d9 r).snd [58, 61])).snd [59]).snd]
abbrev bg4 (r : IR) : It := .box [.v (.string (b6 (c6 (iE 5 (c6 (d9 r).snd [33, 61])).snd [59]).fst)), bA (c6 (iE 5 (c6 (d9 r).snd [33, 61])).snd [59]).snd]
abbrev aH2 (r : IR) : It := .box [.v (.string (b6 (bB8 r).fst)), bA (bB8 r).snd]
abbrev am4 (r : IR) : It := .tree (D.exprs (V9 r).fst.kids)
abbrev av2 (r : IR) : AV := .v (.int .u8 ((d9 r).fst.toNat : Int))
abbrev aH1 (r : IR) : It := .tree (D.exprs (iE 5 (c6 r [105, 102])).fst.kids)
abbrev E8 (r0 : List (Nat × AV)) : List (Nat × AV) := (0, .ptr 0 0) :: (4, .ptr 1 0) :: (7, .ptr 2 0) :: r0
theorem bI4 (d : Nat) (hd : d <= 4) (r : IR) (m : Int) (hm : m = 5 - (d : Int)) (hs : r.1.length <= 100000000) (ih : ∀ (r : IR) (m : Int), m = 6 - (d : Int) -> r.1.length <= 100000000 -> j1.ok Tryz.prog (ibR d r m))
    (kn : ∀ (r : IR), j1.ok Tryz.prog (nxR r)) (kk : ∀ (r : IR) (u : List UInt8), r.1.length <= 100000000 -> j1.ok Tryz.prog (skR r u)) (ko : ∀ (r : IR), r.1.length <= 100000000 -> j1.ok Tryz.prog (onR r))
    (ku : ∀ (r : IR), r.1.length <= 100000000 -> j1.ok Tryz.prog (nuR r)) (ke : ∀ (r : IR) (m : Int), m = 1 -> r.1.length <= 100000000 -> j1.ok Tryz.prog (ieR r m)) : j1.ok Tryz.prog (itR d r m) := by
  have hx : (d9 r).1.toNat < 256 := UInt8.toNat_lt _; refine D2 98 Tryz.func50 [.box [.v (.string (b6 r.fst)), bA r.snd]] [(0, .ptr 0 0), (1, iA m)] fun G => ?_; refine wp_seq (j5 G d7 [0, 1] [.box [.v (.string (b6 r.fst)), bA r.snd], A7] [(0, .ptr 0 0), (1, iA m), (4, .ptr 1 0)] fun G => b0 (wp_seq (wp_block (wp_seq (A4 G (n4 4 [] (as4 r.fst ([105, 102]))) [(0, .ptr 0 0), (1, iA m), (4, .ptr 1 0), (9, bA (O9 r.fst [105, 102]))] fun G => b0 ?_))))); cases h0 : (O9 r.fst [(105 : UInt8), (102 : UInt8)])
  ·
   refine rF G _ h0 (wp_seq (A4 G (n4 4 [] (as4 r.fst ([114, 101, 112, 101, 97, 116]))) [(0, .ptr 0 0), (1, iA m), (4, .ptr 1 0), (31, bA (O9 r.fst [114, 101, 112, 101, 97, 116]))] fun G => b0 ?_)); cases h1 : (O9 r.fst [(114 : UInt8), (101 : UInt8), (112 : UInt8), (101 : UInt8), (97 : UInt8), (116 : UInt8)])
   ·
    refine rF G _ h1 (wp_skip (o9 (b0 (wp_seq (j5 G d7 [0, 1, 10] [.box [.v (.string (b6 r.fst)), bA r.snd], A7, aH4] (E8 []) fun G => b0 (wp_seq (wp_seq (j5 G (n4 1 [0] (ko r (by assumption))) [0, 1, 2] [av3 r, A7, aH4] (E8 [(8, av2 r)]) fun G => b0 (wp_block (wp_seq ?_)))))))))); cases h2 : (decide (((d9 r).fst.toNat : Int) >= 97))
    ·
     have q2 := L3 h2; refine A4 G (y7 (fc h2 fz) [(3, 0), (4, 0), (1005, 0)]) (E8 [(8, av2 r), (54, bA false)]) fun G => b0 (rF G false (by kernel_rfl) (wp_seq ?_)); cases h3 : (((d9 r).fst.toNat : Int) == 80)
     ·
      have q3 := ne_of_beq_false h3; refine A4 G (y7 (fc h3 fz) [(3, 0), (4, 0), (1005, 0)]) (E8 [(8, av2 r), (73, bA (((d9 r).fst.toNat : Int) == 81))]) fun G => b0 ?_; cases h4 : (((d9 r).fst.toNat : Int) == 81)
      · have q4 := ne_of_beq_false h4; have e9 := bF1 (d := d) (r := r) (by with_reducible assumption) (by with_reducible assumption) (o8 (by omega)) (v7 (by omega) (by omega)); refine rF G _ h4 (j5 G d7 [0, 1, 2] [.box [.v (.string (b6 (d9 r).snd.fst)), bA true], A7, aH4] (E8 []) fun G => o9 (b0 (wp_seq (j5 G (n4 1 [0] (bO1 ((d9 r).snd.fst) true 1 (by kernel_rfl) (by repeat (first | exact hs | with_reducible refine b54 (n6 5 _) ?_ | with_reducible refine b54 j7 ?_ | with_reducible refine b54 l7 ?_ | with_reducible refine b54 m5 ?_ | with_reducible refine b54 (A6 d _) ?_)))) [0, 1, 2, 11] [.box [.v (.string (b6 (iE 5 ((d9 r).snd.fst, true)).snd.fst)), bA (iE 5 ((d9 r).snd.fst, true)).snd.snd], A7, a43 r, am5 r] (E8 []) fun G => b0 (wp_seq (j5 G (n4 1 [0] (kk ((iE 5 ((d9 r).snd.fst, true)).snd) ([59]) (by repeat (first | exact hs | with_reducible refine b54 (n6 5 _) ?_ | with_reducible refine b54 j7 ?_ | with_reducible refine b54 l7 ?_ | with_reducible refine b54 m5 ?_ | with_reducible refine b54 (A6 d _) ?_)))) (rg 4) [aH2 r, A7, a43 r, am5 r] [(4, .ptr 1 0), (7, .ptr 2 0)] fun G => b0 (wp_seq (j5 G d7 [0, 1, 3] [aH2 r, bh0 r, am5 r] [(4, .ptr 1 0)] fun G => b0 (wp_ret ?_))))))))); obtain ⟨ρ, G⟩ := G.nilT 3 (.exprs []) [.box [.v (.string (b6 (c6 (iE 5 ((d9 r).snd.fst, true)).snd [59]).fst)), bA (c6 (iE 5 ((d9 r).snd.fst, true)).snd [59]).snd], .box [iA 1, iA 0, iA 0, iA 0, .tref 3, iA (iE 5 ((d9 r).snd.fst, true)).fst.kind, iA (iE 5 ((d9 r).snd.fst, true)).fst.value, .tref 2, iA 0, .v (.slice none 0 0), .v (.slice none 0 0)], .tree (D.exprs (iE 5 ((d9 r).snd.fst, true)).fst.kids)] [(4, .ptr 1 0)]; obtain ⟨ρ, G⟩ := G.nilT 4 (.stmts []) [.box [.v (.string (b6 (c6 (iE 5 ((d9 r).snd.fst, true)).snd [59]).fst)), bA (c6 (iE 5 ((d9 r).snd.fst, true)).snd [59]).snd], .box [iA 1, iA 0, iA 0, iA 0, .tref 3, iA (iE 5 ((d9 r).snd.fst, true)).fst.kind, iA (iE 5 ((d9 r).snd.fst, true)).fst.value, .tref 2, iA 0, .tref 4, .v (.slice none 0 0)], .tree (D.exprs (iE 5 ((d9 r).snd.fst, true)).fst.kids), .tree (D.exprs [])] [(4, .ptr 1 0)]; obtain ⟨ρ, G⟩ := G.nilT 5 (.stmts []) [.box [.v (.string (b6 (c6 (iE 5 ((d9 r).snd.fst, true)).snd [59]).fst)), bA (c6 (iE 5 ((d9 r).snd.fst, true)).snd [59]).snd], .box [iA 1, iA 0, iA 0, iA 0, .tref 3, iA (iE 5 ((d9 r).snd.fst, true)).fst.kind, iA (iE 5 ((d9 r).snd.fst, true)).fst.value, .tref 2, iA 0, .tref 4, .tref 5], .tree (D.exprs (iE 5 ((d9 r).snd.fst, true)).fst.kids), .tree (D.exprs []), .tree (D.stmts [])] [(4, .ptr 1 0)]; exact E0 (.agg [iA 1, iA 0, iA 0, iA 0, .tref 3, iA (iE 5 ((d9 r).snd.fst, true)).fst.kind, iA (iE 5 ((d9 r).snd.fst, true)).fst.value, .tref 2, iA 0, .tref 4, .tref 5]) G [0, 3, 2, 4, 5] (by have e1 : ((A0 d r).fst.kind : Int) = (1) := (by rw [e9]; rfl); have e2 : ((A0 d r).fst.target : Int) = (0) := (by rw [e9]; rfl); have e3 : ((A0 d r).fst.index.kind : Int) = (0) := (by rw [e9]; rfl); have e4 : ((A0 d r).fst.index.value : Int) = (0) := (by rw [e9]; rfl); have e5 : ((A0 d r).fst.value.kind : Int) = ((iE 5 ((d9 r).snd.fst, true)).fst.kind) := (by rw [e9]; rfl); have e6 : ((A0 d r).fst.value.value : Int) = ((iE 5 ((d9 r).snd.fst, true)).fst.value) := (by rw [e9]; rfl); have e7 : ((A0 d r).fst.count : Int) = (0) := (by rw [e9]; rfl); (first | rw [e1, e2, e3, e4, e5, e6, e7] | simp only [e1, e2, e3, e4, e5, e6, e7]) <;> rfl) (by show _ = mR [0, 3, 2, 4, 5] (Q7 d r); unfold Q7; rw [e9] <;> rfl)
      have q4 := eq_of_beq h4; have e9 := bF0 (d := d) (r := r) (by with_reducible assumption) (by with_reducible assumption) (o8 (by omega)) (Q5 (by omega)); refine rT G _ h4 (wp_seq (G8 G d7 [0, 1, 2] [av3 r, A7, a42 r] (E8 []) [IntKind.u8.wrap (((d9 r).fst.toNat : Int) - 80) = ((d9 r).fst.toNat : Int) - 80, wO (((d9 r).fst.toNat : Int) - 80)] ⟨(w8 (by omega) (by omega)), (oW (by omega)), b70⟩ fun G => b0 (wp_seq (j5 G (n4 1 [0] (kk ((d9 r).snd) ([91]) (by repeat (first | exact hs | with_reducible refine b54 (n6 5 _) ?_ | with_reducible refine b54 j7 ?_ | with_reducible refine b54 l7 ?_ | with_reducible refine b54 m5 ?_ | with_reducible refine b54 (A6 d _) ?_)))) [0, 1, 2] [.box [.v (.string (b6 (c6 (d9 r).snd [91]).fst)), bA (c6 (d9 r).snd [91]).snd], A7, a42 r] (E8 []) fun G => b0 (wp_seq (j5 G (n4 1 [0] (ke (c6 (d9 r).snd [91]) 1 (by kernel_rfl) (by repeat (first | exact hs | with_reducible refine b54 (n6 5 _) ?_ | with_reducible refine b54 j7 ?_ | with_reducible refine b54 l7 ?_ | with_reducible refine b54 m5 ?_ | with_reducible refine b54 (A6 d _) ?_)))) [0, 1, 2, 11] [.box [.v (.string (b6 (iE 5 (c6 (d9 r).snd [91])).snd.fst)), bA (iE 5 (c6 (d9 r).snd [91])).snd.snd], A7, a44 r, V1 r] (E8 []) fun G => b0 (j5 G (n4 1 [0] (kk ((iE 5 (c6 (d9 r).snd [91])).snd) ([93, 58, 61]) (by repeat (first | exact hs | with_reducible refine b54 (n6 5 _) ?_ | with_reducible refine b54 j7 ?_ | with_reducible refine b54 l7 ?_ | with_reducible refine b54 m5 ?_ | with_reducible refine b54 (A6 d _) ?_)))) (rg 4) [bg6 r, A7, a44 r, V1 r] (E8 []) fun G => o9 (b0 (wp_seq (j5 G (n4 1 [0] (ke (c6 (iE 5 (c6 (d9 r).snd [91])).snd [93, 58, 61]) 1 (by kernel_rfl) (by repeat (first | exact hs | with_reducible refine b54 (n6 5 _) ?_ | with_reducible refine b54 j7 ?_ | with_reducible refine b54 l7 ?_ | with_reducible refine b54 m5 ?_ | with_reducible refine b54 (A6 d _) ?_)))) [0, 1, 2, 3, 12] [.box [.v (.string (b6 (V9 r).snd.fst)), bA (V9 r).snd.snd], A7, a45 r, V1 r, am4 r] (E8 []) fun G => b0 (wp_seq (j5 G (n4 1 [0] (kk ((V9 r).snd) ([59]) (by repeat (first | exact hs | with_reducible refine b54 (n6 5 _) ?_ | with_reducible refine b54 j7 ?_ | with_reducible refine b54 l7 ?_ | with_reducible refine b54 m5 ?_ | with_reducible refine b54 (A6 d _) ?_)))) (rg 5) [aH3 r, A7, a45 r, V1 r, am4 r] [(4, .ptr 1 0), (7, .ptr 2 0)] fun G => b0 (wp_seq (j5 G d7 [0, 1, 3, 4] [aH3 r, bh3 r, V1 r, am4 r] [(4, .ptr 1 0)] fun G => b0 ?_))))))))))))))
      refine wp_ret ?_; obtain ⟨ρ, G⟩ := G.nilT 4 (.stmts []) [.box [.v (.string (b6 (c6 (iE 5 (c6 (iE 5 (c6 (d9 r).snd [91])).snd [93, 58, 61])).snd [59]).fst)), bA (c6 (iE 5 (c6 (iE 5 (c6 (d9 r).snd [91])).snd [93, 58, 61])).snd [59]).snd], .box [iA 2, iA (((d9 r).fst.toNat : Int) - 80), iA (iE 5 (c6 (d9 r).snd [91])).fst.kind, iA (iE 5 (c6 (d9 r).snd [91])).fst.value, .tref 2, iA (iE 5 (c6 (iE 5 (c6 (d9 r).snd [91])).snd [93, 58, 61])).fst.kind, iA (iE 5 (c6 (iE 5 (c6 (d9 r).snd [91])).snd [93, 58, 61])).fst.value, .tref 3, iA 0, .tref 4, .v (.slice none 0 0)], .tree (D.exprs (iE 5 (c6 (d9 r).snd [91])).fst.kids), .tree (D.exprs (iE 5 (c6 (iE 5 (c6 (d9 r).snd [91])).snd [93, 58, 61])).fst.kids)] [(4, .ptr 1 0)]; obtain ⟨ρ, G⟩ := G.nilT 5 (.stmts []) [.box [.v (.string (b6 (c6 (iE 5 (c6 (iE 5 (c6 (d9 r).snd [91])).snd [93, 58, 61])).snd [59]).fst)), bA (c6 (iE 5 (c6 (iE 5 (c6 (d9 r).snd [91])).snd [93, 58, 61])).snd [59]).snd], .box [iA 2, iA (((d9 r).fst.toNat : Int) - 80), iA (iE 5 (c6 (d9 r).snd [91])).fst.kind, iA (iE 5 (c6 (d9 r).snd [91])).fst.value, .tref 2, iA (iE 5 (c6 (iE 5 (c6 (d9 r).snd [91])).snd [93, 58, 61])).fst.kind, iA (iE 5 (c6 (iE 5 (c6 (d9 r).snd [91])).snd [93, 58, 61])).fst.value, .tref 3, iA 0, .tref 4, .tref 5], .tree (D.exprs (iE 5 (c6 (d9 r).snd [91])).fst.kids), .tree (D.exprs (iE 5 (c6 (iE 5 (c6 (d9 r).snd [91])).snd [93, 58, 61])).fst.kids), .tree (D.stmts [])] [(4, .ptr 1 0)]; exact E0 (.agg [iA 2, iA (((d9 r).fst.toNat : Int) - 80), iA (iE 5 (c6 (d9 r).snd [91])).fst.kind, iA (iE 5 (c6 (d9 r).snd [91])).fst.value, .tref 2, iA (iE 5 (c6 (iE 5 (c6 (d9 r).snd [91])).snd [93, 58, 61])).fst.kind, iA (iE 5 (c6 (iE 5 (c6 (d9 r).snd [91])).snd [93, 58, 61])).fst.value, .tref 3, iA 0, .tref 4, .tref 5]) G [0, 2, 3, 4, 5] (by have e1 : ((A0 d r).fst.kind : Int) = (2) := (by rw [e9]; rfl); have e2 : ((A0 d r).fst.target : Int) = (((d9 r).fst.toNat : Int) - 80) := (by rw [e9]; show ((_ - _ : Nat) : Int) = _; omega); have e3 : ((A0 d r).fst.index.kind : Int) = ((iE 5 (c6 (d9 r).snd [91])).fst.kind) := (by rw [e9]; rfl); have e4 : ((A0 d r).fst.index.value : Int) = ((iE 5 (c6 (d9 r).snd [91])).fst.value) := (by rw [e9]; rfl); have e5 : ((A0 d r).fst.value.kind : Int) = ((iE 5 (c6 (iE 5 (c6 (d9 r).snd [91])).snd [93, 58, 61])).fst.kind) := (by rw [e9]; rfl); have e6 : ((A0 d r).fst.value.value : Int) = ((iE 5 (c6 (iE 5 (c6 (d9 r).snd [91])).snd [93, 58, 61])).fst.value) := (by rw [e9]; rfl); have e7 : ((A0 d r).fst.count : Int) = (0) := (by rw [e9]; rfl); (first | rw [e1, e2, e3, e4, e5, e6, e7] | simp only [e1, e2, e3, e4, e5, e6, e7]) <;> rfl) (by show _ = mR [0, 2, 3, 4, 5] (Q7 d r); unfold Q7; rw [e9] <;> rfl)
     have q3 := eq_of_beq h3; have e9 := bF0 (d := d) (r := r) (by with_reducible assumption) (by with_reducible assumption) (o8 (by omega)) (Q5 (by omega)); refine j3 G (y7 (fc h3 fz) [(3, 0), (4, 0), (1005, 0)]) [(73, bA true)] fun G => b0 (rT G true (by kernel_rfl) (wp_seq (G8 G d7 [0, 1, 2] [av3 r, A7, a42 r] (E8 []) [IntKind.u8.wrap (((d9 r).fst.toNat : Int) - 80) = ((d9 r).fst.toNat : Int) - 80, wO (((d9 r).fst.toNat : Int) - 80)] ⟨(w8 (by omega) (by omega)), (oW (by omega)), b70⟩ fun G => b0 (wp_seq (j5 G (n4 1 [0] (kk ((d9 r).snd) ([91]) (by repeat (first | exact hs | with_reducible refine b54 (n6 5 _) ?_ | with_reducible refine b54 j7 ?_ | with_reducible refine b54 l7 ?_ | with_reducible refine b54 m5 ?_ | with_reducible refine b54 (A6 d _) ?_)))) [0, 1, 2] [.box [.v (.string (b6 (c6 (d9 r).snd [91]).fst)), bA (c6 (d9 r).snd [91]).snd], A7, a42 r] (E8 []) fun G => b0 (wp_seq (j5 G (n4 1 [0] (ke (c6 (d9 r).snd [91]) 1 (by kernel_rfl) (by repeat (first | exact hs | with_reducible refine b54 (n6 5 _) ?_ | with_reducible refine b54 j7 ?_ | with_reducible refine b54 l7 ?_ | with_reducible refine b54 m5 ?_ | with_reducible refine b54 (A6 d _) ?_)))) [0, 1, 2, 11] [.box [.v (.string (b6 (iE 5 (c6 (d9 r).snd [91])).snd.fst)), bA (iE 5 (c6 (d9 r).snd [91])).snd.snd], A7, a44 r, V1 r] (E8 []) fun G => b0 (j5 G (n4 1 [0] (kk ((iE 5 (c6 (d9 r).snd [91])).snd) ([93, 58, 61]) (by repeat (first | exact hs | with_reducible refine b54 (n6 5 _) ?_ | with_reducible refine b54 j7 ?_ | with_reducible refine b54 l7 ?_ | with_reducible refine b54 m5 ?_ | with_reducible refine b54 (A6 d _) ?_)))) (rg 4) [bg6 r, A7, a44 r, V1 r] (E8 []) fun G => o9 (b0 (wp_seq (j5 G (n4 1 [0] (ke (c6 (iE 5 (c6 (d9 r).snd [91])).snd [93, 58, 61]) 1 (by kernel_rfl) (by repeat (first | exact hs | with_reducible refine b54 (n6 5 _) ?_ | with_reducible refine b54 j7 ?_ | with_reducible refine b54 l7 ?_ | with_reducible refine b54 m5 ?_ | with_reducible refine b54 (A6 d _) ?_)))) [0, 1, 2, 3, 12] [.box [.v (.string (b6 (V9 r).snd.fst)), bA (V9 r).snd.snd], A7, a45 r, V1 r, am4 r] (E8 []) fun G => b0 (wp_seq (j5 G (n4 1 [0] (kk ((V9 r).snd) ([59]) (by repeat (first | exact hs | with_reducible refine b54 (n6 5 _) ?_ | with_reducible refine b54 j7 ?_ | with_reducible refine b54 l7 ?_ | with_reducible refine b54 m5 ?_ | with_reducible refine b54 (A6 d _) ?_)))) (rg 5) [aH3 r, A7, a45 r, V1 r, am4 r] [(4, .ptr 1 0), (7, .ptr 2 0)] fun G => ?_)))))))))))))
     refine b0 (wp_seq (j5 G d7 [0, 1, 3, 4] [aH3 r, bh3 r, V1 r, am4 r] [(4, .ptr 1 0)] fun G => b0 (wp_ret ?_))); obtain ⟨ρ, G⟩ := G.nilT 4 (.stmts []) [.box [.v (.string (b6 (c6 (iE 5 (c6 (iE 5 (c6 (d9 r).snd [91])).snd [93, 58, 61])).snd [59]).fst)), bA (c6 (iE 5 (c6 (iE 5 (c6 (d9 r).snd [91])).snd [93, 58, 61])).snd [59]).snd], .box [iA 2, iA (((d9 r).fst.toNat : Int) - 80), iA (iE 5 (c6 (d9 r).snd [91])).fst.kind, iA (iE 5 (c6 (d9 r).snd [91])).fst.value, .tref 2, iA (iE 5 (c6 (iE 5 (c6 (d9 r).snd [91])).snd [93, 58, 61])).fst.kind, iA (iE 5 (c6 (iE 5 (c6 (d9 r).snd [91])).snd [93, 58, 61])).fst.value, .tref 3, iA 0, .tref 4, .v (.slice none 0 0)], .tree (D.exprs (iE 5 (c6 (d9 r).snd [91])).fst.kids), .tree (D.exprs (iE 5 (c6 (iE 5 (c6 (d9 r).snd [91])).snd [93, 58, 61])).fst.kids)] [(4, .ptr 1 0)]; obtain ⟨ρ, G⟩ := G.nilT 5 (.stmts []) [.box [.v (.string (b6 (c6 (iE 5 (c6 (iE 5 (c6 (d9 r).snd [91])).snd [93, 58, 61])).snd [59]).fst)), bA (c6 (iE 5 (c6 (iE 5 (c6 (d9 r).snd [91])).snd [93, 58, 61])).snd [59]).snd], .box [iA 2, iA (((d9 r).fst.toNat : Int) - 80), iA (iE 5 (c6 (d9 r).snd [91])).fst.kind, iA (iE 5 (c6 (d9 r).snd [91])).fst.value, .tref 2, iA (iE 5 (c6 (iE 5 (c6 (d9 r).snd [91])).snd [93, 58, 61])).fst.kind, iA (iE 5 (c6 (iE 5 (c6 (d9 r).snd [91])).snd [93, 58, 61])).fst.value, .tref 3, iA 0, .tref 4, .tref 5], .tree (D.exprs (iE 5 (c6 (d9 r).snd [91])).fst.kids), .tree (D.exprs (iE 5 (c6 (iE 5 (c6 (d9 r).snd [91])).snd [93, 58, 61])).fst.kids), .tree (D.stmts [])] [(4, .ptr 1 0)]; exact E0 (.agg [iA 2, iA (((d9 r).fst.toNat : Int) - 80), iA (iE 5 (c6 (d9 r).snd [91])).fst.kind, iA (iE 5 (c6 (d9 r).snd [91])).fst.value, .tref 2, iA (iE 5 (c6 (iE 5 (c6 (d9 r).snd [91])).snd [93, 58, 61])).fst.kind, iA (iE 5 (c6 (iE 5 (c6 (d9 r).snd [91])).snd [93, 58, 61])).fst.value, .tref 3, iA 0, .tref 4, .tref 5]) G [0, 2, 3, 4, 5] (by have e1 : ((A0 d r).fst.kind : Int) = (2) := (by rw [e9]; rfl); have e2 : ((A0 d r).fst.target : Int) = (((d9 r).fst.toNat : Int) - 80) := (by rw [e9]; show ((_ - _ : Nat) : Int) = _; omega); have e3 : ((A0 d r).fst.index.kind : Int) = ((iE 5 (c6 (d9 r).snd [91])).fst.kind) := (by rw [e9]; rfl); have e4 : ((A0 d r).fst.index.value : Int) = ((iE 5 (c6 (d9 r).snd [91])).fst.value) := (by rw [e9]; rfl); have e5 : ((A0 d r).fst.value.kind : Int) = ((iE 5 (c6 (iE 5 (c6 (d9 r).snd [91])).snd [93, 58, 61])).fst.kind) := (by rw [e9]; rfl); have e6 : ((A0 d r).fst.value.value : Int) = ((iE 5 (c6 (iE 5 (c6 (d9 r).snd [91])).snd [93, 58, 61])).fst.value) := (by rw [e9]; rfl); have e7 : ((A0 d r).fst.count : Int) = (0) := (by rw [e9]; rfl); (first | rw [e1, e2, e3, e4, e5, e6, e7] | simp only [e1, e2, e3, e4, e5, e6, e7]) <;> rfl) (by show _ = mR [0, 2, 3, 4, 5] (Q7 d r); unfold Q7; rw [e9] <;> rfl)
    have q2 := L2 h2; refine A4 G (y7 (fc h2 fz) [(3, 0), (4, 0), (1005, 0)]) (E8 [(8, av2 r), (54, bA (decide (((d9 r).fst.toNat : Int) <= 108)))]) fun G => b0 ?_; cases h5 : (decide (((d9 r).fst.toNat : Int) <= 108))
    ·
     have q5 := L3 h5; have e9 := bF1 (d := d) (r := r) (by with_reducible assumption) (by with_reducible assumption) (o8 (by omega)) (v7 (by omega) (by omega)); refine rF G _ h5 (wp_seq ?_); cases h6 : (((d9 r).fst.toNat : Int) == 80)
     ·
      have q6 := ne_of_beq_false h6; refine A4 G (y7 (fc h6 fz) [(3, 0), (4, 0), (1005, 0)]) (E8 [(8, av2 r), (73, bA (((d9 r).fst.toNat : Int) == 81))]) fun G => b0 ?_; cases h7 : (((d9 r).fst.toNat : Int) == 81)
      · have q7 := ne_of_beq_false h7; refine rF G _ h7 (j5 G d7 [0, 1, 2] [.box [.v (.string (b6 (d9 r).snd.fst)), bA true], A7, aH4] (E8 []) fun G => o9 (b0 (wp_seq (j5 G (n4 1 [0] (bO1 ((d9 r).snd.fst) true 1 (by kernel_rfl) (by repeat (first | exact hs | with_reducible refine b54 (n6 5 _) ?_ | with_reducible refine b54 j7 ?_ | with_reducible refine b54 l7 ?_ | with_reducible refine b54 m5 ?_ | with_reducible refine b54 (A6 d _) ?_)))) [0, 1, 2, 11] [.box [.v (.string (b6 (iE 5 ((d9 r).snd.fst, true)).snd.fst)), bA (iE 5 ((d9 r).snd.fst, true)).snd.snd], A7, a43 r, am5 r] (E8 []) fun G => b0 (wp_seq (j5 G (n4 1 [0] (kk ((iE 5 ((d9 r).snd.fst, true)).snd) ([59]) (by repeat (first | exact hs | with_reducible refine b54 (n6 5 _) ?_ | with_reducible refine b54 j7 ?_ | with_reducible refine b54 l7 ?_ | with_reducible refine b54 m5 ?_ | with_reducible refine b54 (A6 d _) ?_)))) (rg 4) [aH2 r, A7, a43 r, am5 r] [(4, .ptr 1 0), (7, .ptr 2 0)] fun G => b0 (wp_seq (j5 G d7 [0, 1, 3] [aH2 r, bh0 r, am5 r] [(4, .ptr 1 0)] fun G => b0 (wp_ret ?_))))))))); obtain ⟨ρ, G⟩ := G.nilT 3 (.exprs []) [.box [.v (.string (b6 (c6 (iE 5 ((d9 r).snd.fst, true)).snd [59]).fst)), bA (c6 (iE 5 ((d9 r).snd.fst, true)).snd [59]).snd], .box [iA 1, iA 0, iA 0, iA 0, .tref 3, iA (iE 5 ((d9 r).snd.fst, true)).fst.kind, iA (iE 5 ((d9 r).snd.fst, true)).fst.value, .tref 2, iA 0, .v (.slice none 0 0), .v (.slice none 0 0)], .tree (D.exprs (iE 5 ((d9 r).snd.fst, true)).fst.kids)] [(4, .ptr 1 0)]; obtain ⟨ρ, G⟩ := G.nilT 4 (.stmts []) [.box [.v (.string (b6 (c6 (iE 5 ((d9 r).snd.fst, true)).snd [59]).fst)), bA (c6 (iE 5 ((d9 r).snd.fst, true)).snd [59]).snd], .box [iA 1, iA 0, iA 0, iA 0, .tref 3, iA (iE 5 ((d9 r).snd.fst, true)).fst.kind, iA (iE 5 ((d9 r).snd.fst, true)).fst.value, .tref 2, iA 0, .tref 4, .v (.slice none 0 0)], .tree (D.exprs (iE 5 ((d9 r).snd.fst, true)).fst.kids), .tree (D.exprs [])] [(4, .ptr 1 0)]; obtain ⟨ρ, G⟩ := G.nilT 5 (.stmts []) [.box [.v (.string (b6 (c6 (iE 5 ((d9 r).snd.fst, true)).snd [59]).fst)), bA (c6 (iE 5 ((d9 r).snd.fst, true)).snd [59]).snd], .box [iA 1, iA 0, iA 0, iA 0, .tref 3, iA (iE 5 ((d9 r).snd.fst, true)).fst.kind, iA (iE 5 ((d9 r).snd.fst, true)).fst.value, .tref 2, iA 0, .tref 4, .tref 5], .tree (D.exprs (iE 5 ((d9 r).snd.fst, true)).fst.kids), .tree (D.exprs []), .tree (D.stmts [])] [(4, .ptr 1 0)]; exact E0 (.agg [iA 1, iA 0, iA 0, iA 0, .tref 3, iA (iE 5 ((d9 r).snd.fst, true)).fst.kind, iA (iE 5 ((d9 r).snd.fst, true)).fst.value, .tref 2, iA 0, .tref 4, .tref 5]) G [0, 3, 2, 4, 5] (by have e1 : ((A0 d r).fst.kind : Int) = (1) := (by rw [e9]; rfl); have e2 : ((A0 d r).fst.target : Int) = (0) := (by rw [e9]; rfl); have e3 : ((A0 d r).fst.index.kind : Int) = (0) := (by rw [e9]; rfl); have e4 : ((A0 d r).fst.index.value : Int) = (0) := (by rw [e9]; rfl); have e5 : ((A0 d r).fst.value.kind : Int) = ((iE 5 ((d9 r).snd.fst, true)).fst.kind) := (by rw [e9]; rfl); have e6 : ((A0 d r).fst.value.value : Int) = ((iE 5 ((d9 r).snd.fst, true)).fst.value) := (by rw [e9]; rfl); have e7 : ((A0 d r).fst.count : Int) = (0) := (by rw [e9]; rfl); (first | rw [e1, e2, e3, e4, e5, e6, e7] | simp only [e1, e2, e3, e4, e5, e6, e7]) <;> rfl) (by show _ = mR [0, 3, 2, 4, 5] (Q7 d r); unfold Q7; rw [e9] <;> rfl)
      have q7 := eq_of_beq h7; exact False.elim (by omega)
     have q6 := eq_of_beq h6; exact False.elim (by omega)
    have q5 := L2 h5; refine rT G _ h5 (wp_seq (G8 G d7 [0, 1, 2] [av3 r, A7, bg9 r] (E8 []) [IntKind.u8.wrap (((d9 r).fst.toNat : Int) - 97) = ((d9 r).fst.toNat : Int) - 97, wO (((d9 r).fst.toNat : Int) - 97)] ⟨(w8 (by omega) (by omega)), (oW (by omega)), b70⟩ fun G => b0 (wp_seq (A4 G (n4 1 [0] (kn ((d9 r).snd))) (E8 [(67, bA (((F8 (d9 r).snd).toNat : Int) == 33))]) fun G => b0 ?_)))); cases h8 : (((F8 (d9 r).snd).toNat : Int) == 33)
    ·
     have q8 := ne_of_beq_false h8; have e9 := bU5 (d := d) (r := r) (by with_reducible assumption) (by with_reducible assumption) (ag9 (by omega) (by omega)) (R0 (y := 33) (by assumption)); refine rF G _ h8 (j5 G (n4 1 [0] (kk ((d9 r).snd) ([58, 61]) (by repeat (first | exact hs | with_reducible refine b54 (n6 5 _) ?_ | with_reducible refine b54 j7 ?_ | with_reducible refine b54 l7 ?_ | with_reducible refine b54 m5 ?_ | with_reducible refine b54 (A6 d _) ?_)))) [0, 1, 2] [.box [.v (.string (b6 (c6 (d9 r).snd [58, 61]).fst)), bA (c6 (d9 r).snd [58, 61]).snd], A7, bg9 r] (E8 []) fun G => o9 (b0 (wp_seq (j5 G (n4 1 [0] (ke (c6 (d9 r).snd [58, 61]) 1 (by kernel_rfl) (by repeat (first | exact hs | with_reducible refine b54 (n6 5 _) ?_ | with_reducible refine b54 j7 ?_ | with_reducible refine b54 l7 ?_ | with_reducible refine b54 m5 ?_ | with_reducible refine b54 (A6 d _) ?_)))) [0, 1, 2, 11] [.box [.v (.string (b6 (iE 5 (c6 (d9 r).snd [58, 61])).snd.fst)), bA (iE 5 (c6 (d9 r).snd [58, 61])).snd.snd], A7, bh2 r, .tree (D.exprs (iE 5 (c6 (d9 r).snd [58, 61])).fst.kids)] (E8 []) fun G => b0 (wp_seq (j5 G (n4 1 [0] (kk ((iE 5 (c6 (d9 r).snd [58, 61])).snd) ([59]) (by repeat (first | exact hs | with_reducible refine b54 (n6 5 _) ?_ | with_reducible refine b54 j7 ?_ | with_reducible refine b54 l7 ?_ | with_reducible refine b54 m5 ?_ | with_reducible refine b54 (A6 d _) ?_)))) (rg 4) [bg5 r, A7, bh2 r, .tree (D.exprs (iE 5 (c6 (d9 r).snd [58, 61])).fst.kids)] [(4, .ptr 1 0), (7, .ptr 2 0)] fun G => b0 (wp_seq (j5 G d7 [0, 1, 3] [bg5 r, .box [iA 1, iA (((d9 r).fst.toNat : Int) - 97), iA 0, iA 0, .v (.slice none 0 0), iA (iE 5 (c6 (d9 r).snd [58, 61])).fst.kind, iA (iE 5 (c6 (d9 r).snd [58, 61])).fst.value, .tref 2, iA 0, .v (.slice none 0 0), .v (.slice none 0 0)], .tree (D.exprs (iE 5 (c6 (d9 r).snd [58, 61])).fst.kids)] [(4, .ptr 1 0)] fun G => b0 (wp_ret ?_))))))))); obtain ⟨ρ, G⟩ := G.nilT 3 (.exprs []) [.box [.v (.string (b6 (c6 (iE 5 (c6 (d9 r).snd [58, 61])).snd [59]).fst)), bA (c6 (iE 5 (c6 (d9 r).snd [58, 61])).snd [59]).snd], .box [iA 1, iA (((d9 r).fst.toNat : Int) - 97), iA 0, iA 0, .tref 3, iA (iE 5 (c6 (d9 r).snd [58, 61])).fst.kind, iA (iE 5 (c6 (d9 r).snd [58, 61])).fst.value, .tref 2, iA 0, .v (.slice none 0 0), .v (.slice none 0 0)], .tree (D.exprs (iE 5 (c6 (d9 r).snd [58, 61])).fst.kids)] [(4, .ptr 1 0)]; obtain ⟨ρ, G⟩ := G.nilT 4 (.stmts []) [.box [.v (.string (b6 (c6 (iE 5 (c6 (d9 r).snd [58, 61])).snd [59]).fst)), bA (c6 (iE 5 (c6 (d9 r).snd [58, 61])).snd [59]).snd], .box [iA 1, iA (((d9 r).fst.toNat : Int) - 97), iA 0, iA 0, .tref 3, iA (iE 5 (c6 (d9 r).snd [58, 61])).fst.kind, iA (iE 5 (c6 (d9 r).snd [58, 61])).fst.value, .tref 2, iA 0, .tref 4, .v (.slice none 0 0)], .tree (D.exprs (iE 5 (c6 (d9 r).snd [58, 61])).fst.kids), .tree (D.exprs [])] [(4, .ptr 1 0)]; obtain ⟨ρ, G⟩ := G.nilT 5 (.stmts []) [.box [.v (.string (b6 (c6 (iE 5 (c6 (d9 r).snd [58, 61])).snd [59]).fst)), bA (c6 (iE 5 (c6 (d9 r).snd [58, 61])).snd [59]).snd], .box [iA 1, iA (((d9 r).fst.toNat : Int) - 97), iA 0, iA 0, .tref 3, iA (iE 5 (c6 (d9 r).snd [58, 61])).fst.kind, iA (iE 5 (c6 (d9 r).snd [58, 61])).fst.value, .tref 2, iA 0, .tref 4, .tref 5], .tree (D.exprs (iE 5 (c6 (d9 r).snd [58, 61])).fst.kids), .tree (D.exprs []), .tree (D.stmts [])] [(4, .ptr 1 0)]
     exact E0 (.agg [iA 1, iA (((d9 r).fst.toNat : Int) - 97), iA 0, iA 0, .tref 3, iA (iE 5 (c6 (d9 r).snd [58, 61])).fst.kind, iA (iE 5 (c6 (d9 r).snd [58, 61])).fst.value, .tref 2, iA 0, .tref 4, .tref 5]) G [0, 3, 2, 4, 5] (by have e1 : ((A0 d r).fst.kind : Int) = (1) := (by rw [e9]; rfl); have e2 : ((A0 d r).fst.target : Int) = (((d9 r).fst.toNat : Int) - 97) := (by rw [e9]; show ((_ - _ : Nat) : Int) = _; omega); have e3 : ((A0 d r).fst.index.kind : Int) = (0) := (by rw [e9]; rfl); have e4 : ((A0 d r).fst.index.value : Int) = (0) := (by rw [e9]; rfl); have e5 : ((A0 d r).fst.value.kind : Int) = ((iE 5 (c6 (d9 r).snd [58, 61])).fst.kind) := (by rw [e9]; rfl); have e6 : ((A0 d r).fst.value.value : Int) = ((iE 5 (c6 (d9 r).snd [58, 61])).fst.value) := (by rw [e9]; rfl); have e7 : ((A0 d r).fst.count : Int) = (0) := (by rw [e9]; rfl); (first | rw [e1, e2, e3, e4, e5, e6, e7] | simp only [e1, e2, e3, e4, e5, e6, e7]) <;> rfl) (by show _ = mR [0, 3, 2, 4, 5] (Q7 d r); unfold Q7; rw [e9] <;> rfl)
    have q8 := eq_of_beq h8; have e9 := bU3 (d := d) (r := r) (by with_reducible assumption) (by with_reducible assumption) (ag9 (by omega) (by omega)) (N5 (y := 33) (by assumption)); refine rT G _ h8 (wp_seq (j5 G d7 [0, 1, 2] [av3 r, A7, bg8 r] (E8 []) fun G => b0 (j5 G (n4 1 [0] (kk ((d9 r).snd) ([33, 61]) (by repeat (first | exact hs | with_reducible refine b54 (n6 5 _) ?_ | with_reducible refine b54 j7 ?_ | with_reducible refine b54 l7 ?_ | with_reducible refine b54 m5 ?_ | with_reducible refine b54 (A6 d _) ?_)))) [0, 1, 2] [.box [.v (.string (b6 (c6 (d9 r).snd [33, 61]).fst)), bA (c6 (d9 r).snd [33, 61]).snd], A7, bg8 r] (E8 []) fun G => o9 (b0 (wp_seq (j5 G (n4 1 [0] (ke (c6 (d9 r).snd [33, 61]) 1 (by kernel_rfl) (by repeat (first | exact hs | with_reducible refine b54 (n6 5 _) ?_ | with_reducible refine b54 j7 ?_ | with_reducible refine b54 l7 ?_ | with_reducible refine b54 m5 ?_ | with_reducible refine b54 (A6 d _) ?_)))) [0, 1, 2, 11] [.box [.v (.string (b6 (iE 5 (c6 (d9 r).snd [33, 61])).snd.fst)), bA (iE 5 (c6 (d9 r).snd [33, 61])).snd.snd], A7, bh1 r, .tree (D.exprs (iE 5 (c6 (d9 r).snd [33, 61])).fst.kids)] (E8 []) fun G => b0 (wp_seq (j5 G (n4 1 [0] (kk ((iE 5 (c6 (d9 r).snd [33, 61])).snd) ([59]) (by repeat (first | exact hs | with_reducible refine b54 (n6 5 _) ?_ | with_reducible refine b54 j7 ?_ | with_reducible refine b54 l7 ?_ | with_reducible refine b54 m5 ?_ | with_reducible refine b54 (A6 d _) ?_)))) (rg 4) [bg4 r, A7, bh1 r, .tree (D.exprs (iE 5 (c6 (d9 r).snd [33, 61])).fst.kids)] [(4, .ptr 1 0), (7, .ptr 2 0)] fun G => b0 (wp_seq (j5 G d7 [0, 1, 3] [bg4 r, .box [iA 5, iA (((d9 r).fst.toNat : Int) - 97), iA 0, iA 0, .v (.slice none 0 0), iA (iE 5 (c6 (d9 r).snd [33, 61])).fst.kind, iA (iE 5 (c6 (d9 r).snd [33, 61])).fst.value, .tref 2, iA 0, .v (.slice none 0 0), .v (.slice none 0 0)], .tree (D.exprs (iE 5 (c6 (d9 r).snd [33, 61])).fst.kids)] [(4, .ptr 1 0)] fun G => b0 (wp_ret ?_))))))))))); obtain ⟨ρ, G⟩ := G.nilT 3 (.exprs []) [.box [.v (.string (b6 (c6 (iE 5 (c6 (d9 r).snd [33, 61])).snd [59]).fst)), bA (c6 (iE 5 (c6 (d9 r).snd [33, 61])).snd [59]).snd], .box [iA 5, iA (((d9 r).fst.toNat : Int) - 97), iA 0, iA 0, .tref 3, iA (iE 5 (c6 (d9 r).snd [33, 61])).fst.kind, iA (iE 5 (c6 (d9 r).snd [33, 61])).fst.value, .tref 2, iA 0, .v (.slice none 0 0), .v (.slice none 0 0)], .tree (D.exprs (iE 5 (c6 (d9 r).snd [33, 61])).fst.kids)] [(4, .ptr 1 0)]; obtain ⟨ρ, G⟩ := G.nilT 4 (.stmts []) [.box [.v (.string (b6 (c6 (iE 5 (c6 (d9 r).snd [33, 61])).snd [59]).fst)), bA (c6 (iE 5 (c6 (d9 r).snd [33, 61])).snd [59]).snd], .box [iA 5, iA (((d9 r).fst.toNat : Int) - 97), iA 0, iA 0, .tref 3, iA (iE 5 (c6 (d9 r).snd [33, 61])).fst.kind, iA (iE 5 (c6 (d9 r).snd [33, 61])).fst.value, .tref 2, iA 0, .tref 4, .v (.slice none 0 0)], .tree (D.exprs (iE 5 (c6 (d9 r).snd [33, 61])).fst.kids), .tree (D.exprs [])] [(4, .ptr 1 0)]; obtain ⟨ρ, G⟩ := G.nilT 5 (.stmts []) [.box [.v (.string (b6 (c6 (iE 5 (c6 (d9 r).snd [33, 61])).snd [59]).fst)), bA (c6 (iE 5 (c6 (d9 r).snd [33, 61])).snd [59]).snd], .box [iA 5, iA (((d9 r).fst.toNat : Int) - 97), iA 0, iA 0, .tref 3, iA (iE 5 (c6 (d9 r).snd [33, 61])).fst.kind, iA (iE 5 (c6 (d9 r).snd [33, 61])).fst.value, .tref 2, iA 0, .tref 4, .tref 5], .tree (D.exprs (iE 5 (c6 (d9 r).snd [33, 61])).fst.kids), .tree (D.exprs []), .tree (D.stmts [])] [(4, .ptr 1 0)]
    exact E0 (.agg [iA 5, iA (((d9 r).fst.toNat : Int) - 97), iA 0, iA 0, .tref 3, iA (iE 5 (c6 (d9 r).snd [33, 61])).fst.kind, iA (iE 5 (c6 (d9 r).snd [33, 61])).fst.value, .tref 2, iA 0, .tref 4, .tref 5]) G [0, 3, 2, 4, 5] (by have e1 : ((A0 d r).fst.kind : Int) = (5) := (by rw [e9]; rfl); have e2 : ((A0 d r).fst.target : Int) = (((d9 r).fst.toNat : Int) - 97) := (by rw [e9]; show ((_ - _ : Nat) : Int) = _; omega); have e3 : ((A0 d r).fst.index.kind : Int) = (0) := (by rw [e9]; rfl); have e4 : ((A0 d r).fst.index.value : Int) = (0) := (by rw [e9]; rfl); have e5 : ((A0 d r).fst.value.kind : Int) = ((iE 5 (c6 (d9 r).snd [33, 61])).fst.kind) := (by rw [e9]; rfl); have e6 : ((A0 d r).fst.value.value : Int) = ((iE 5 (c6 (d9 r).snd [33, 61])).fst.value) := (by rw [e9]; rfl); have e7 : ((A0 d r).fst.count : Int) = (0) := (by rw [e9]; rfl); (first | rw [e1, e2, e3, e4, e5, e6, e7] | simp only [e1, e2, e3, e4, e5, e6, e7]) <;> rfl) (by show _ = mR [0, 3, 2, 4, 5] (Q7 d r); unfold Q7; rw [e9] <;> rfl)
   have e9 := bU2 (d := d) (r := r) (by with_reducible assumption) (by with_reducible assumption); refine rT G _ h1 (wp_seq (j5 G (n4 1 [0] (kk r ([114, 101, 112, 101, 97, 116]) (by assumption))) [0, 1] [.box [.v (.string (b6 (c6 r [114, 101, 112, 101, 97, 116]).fst)), bA (c6 r [114, 101, 112, 101, 97, 116]).snd], A7] [(0, .ptr 0 0), (1, iA m), (4, .ptr 1 0)] fun G => b0 (wp_seq (j5 G (n4 1 [0] (ku (c6 r [114, 101, 112, 101, 97, 116]) (by repeat (first | exact hs | with_reducible refine b54 (n6 5 _) ?_ | with_reducible refine b54 j7 ?_ | with_reducible refine b54 l7 ?_ | with_reducible refine b54 m5 ?_ | with_reducible refine b54 (A6 d _) ?_)))) [0, 1, 26] [.box [.v (.string (b6 (G4 (c6 r [114, 101, 112, 101, 97, 116])).snd.fst)), bA (G4 (c6 r [114, 101, 112, 101, 97, 116])).snd.snd], A7, .box [iA 4, iA 0, iA 0, iA 0, .v (.slice none 0 0), iA 0, iA 0, .v (.slice none 0 0), iA (G4 (c6 r [114, 101, 112, 101, 97, 116])).fst, .v (.slice none 0 0), .v (.slice none 0 0)]] [(0, .ptr 0 0), (1, iA m), (4, .ptr 1 0), (6, .ptr 2 0)] fun G => b0 (wp_seq (G8 G (n4 3 [0] (ih ((G4 (c6 r [114, 101, 112, 101, 97, 116])).snd) (m + 1) (by omega) (by repeat (first | exact hs | with_reducible refine b54 (n6 5 _) ?_ | with_reducible refine b54 j7 ?_ | with_reducible refine b54 l7 ?_ | with_reducible refine b54 m5 ?_ | with_reducible refine b54 (A6 d _) ?_)))) [0, 1, 2, 27] [.box [.v (.string (b6 (c6 (aD3 d r).snd [125]).fst)), bA (c6 (aD3 d r).snd [125]).snd], A7, .box [iA 4, iA 0, iA 0, iA 0, .v (.slice none 0 0), iA 0, iA 0, .v (.slice none 0 0), iA (G4 (c6 r [114, 101, 112, 101, 97, 116])).fst, .tref 3, .v (.slice none 0 0)], .tree (D.stmts (aD3 d r).fst)] [(0, .ptr 0 0), (4, .ptr 1 0), (6, .ptr 2 0)] [wO (m + 1)] (o1 (by omega)) fun G => b0 (wp_seq (j5 G d7 [0, 1, 3] [.box [.v (.string (b6 (c6 (aD3 d r).snd [125]).fst)), bA (c6 (aD3 d r).snd [125]).snd], .box [iA 4, iA 0, iA 0, iA 0, .v (.slice none 0 0), iA 0, iA 0, .v (.slice none 0 0), iA (G4 (c6 r [114, 101, 112, 101, 97, 116])).fst, .tref 2, .v (.slice none 0 0)], .tree (D.stmts (aD3 d r).fst)] [(0, .ptr 0 0), (4, .ptr 1 0)] fun G => b0 (wp_ret (A2 (j2 ?_))))))))))); obtain ⟨ρ, G⟩ := G.nilT 3 (.exprs []) [.box [.v (.string (b6 (c6 (B9 d (c6 (G4 (c6 r [114, 101, 112, 101, 97, 116])).snd [123])).snd [125]).fst)), bA (c6 (B9 d (c6 (G4 (c6 r [114, 101, 112, 101, 97, 116])).snd [123])).snd [125]).snd], .box [iA 4, iA 0, iA 0, iA 0, .tref 3, iA 0, iA 0, .v (.slice none 0 0), iA (G4 (c6 r [114, 101, 112, 101, 97, 116])).fst, .tref 2, .v (.slice none 0 0)], .tree (D.stmts (B9 d (c6 (G4 (c6 r [114, 101, 112, 101, 97, 116])).snd [123])).fst)] [(0, .ptr 0 0), (4, .ptr 1 0)]; obtain ⟨ρ, G⟩ := G.nilT 4 (.exprs []) [.box [.v (.string (b6 (c6 (B9 d (c6 (G4 (c6 r [114, 101, 112, 101, 97, 116])).snd [123])).snd [125]).fst)), bA (c6 (B9 d (c6 (G4 (c6 r [114, 101, 112, 101, 97, 116])).snd [123])).snd [125]).snd], .box [iA 4, iA 0, iA 0, iA 0, .tref 3, iA 0, iA 0, .tref 4, iA (G4 (c6 r [114, 101, 112, 101, 97, 116])).fst, .tref 2, .v (.slice none 0 0)], .tree (D.stmts (B9 d (c6 (G4 (c6 r [114, 101, 112, 101, 97, 116])).snd [123])).fst), .tree (D.exprs [])] [(0, .ptr 0 0), (4, .ptr 1 0)]; obtain ⟨ρ, G⟩ := G.nilT 5 (.stmts []) [.box [.v (.string (b6 (c6 (B9 d (c6 (G4 (c6 r [114, 101, 112, 101, 97, 116])).snd [123])).snd [125]).fst)), bA (c6 (B9 d (c6 (G4 (c6 r [114, 101, 112, 101, 97, 116])).snd [123])).snd [125]).snd], .box [iA 4, iA 0, iA 0, iA 0, .tref 3, iA 0, iA 0, .tref 4, iA (G4 (c6 r [114, 101, 112, 101, 97, 116])).fst, .tref 2, .tref 5], .tree (D.stmts (B9 d (c6 (G4 (c6 r [114, 101, 112, 101, 97, 116])).snd [123])).fst), .tree (D.exprs []), .tree (D.exprs [])] [(0, .ptr 0 0), (4, .ptr 1 0)]
   exact E0 (.agg [iA 4, iA 0, iA 0, iA 0, .tref 3, iA 0, iA 0, .tref 4, iA (G4 (c6 r [114, 101, 112, 101, 97, 116])).fst, .tref 2, .tref 5]) G [0, 3, 4, 2, 5] (by have e1 : ((A0 d r).fst.kind : Int) = (4) := (by rw [e9]; rfl); have e2 : ((A0 d r).fst.target : Int) = (0) := (by rw [e9]; rfl); have e3 : ((A0 d r).fst.index.kind : Int) = (0) := (by rw [e9]; rfl); have e4 : ((A0 d r).fst.index.value : Int) = (0) := (by rw [e9]; rfl); have e5 : ((A0 d r).fst.value.kind : Int) = (0) := (by rw [e9]; rfl); have e6 : ((A0 d r).fst.value.value : Int) = (0) := (by rw [e9]; rfl); have e7 : ((A0 d r).fst.count : Int) = ((G4 (c6 r [114, 101, 112, 101, 97, 116])).fst) := (by rw [e9]; rfl); (first | rw [e1, e2, e3, e4, e5, e6, e7] | simp only [e1, e2, e3, e4, e5, e6, e7]) <;> rfl) (by show _ = mR [0, 3, 4, 2, 5] (Q7 d r); unfold Q7; rw [e9] <;> rfl)
  have e9 := bU4 (d := d) (r := r) (by with_reducible assumption); refine rT G _ h0 (wp_seq (j5 G (n4 1 [0] (kk r ([105, 102]) (by assumption))) [0, 1] [.box [.v (.string (b6 (c6 r [105, 102]).fst)), bA (c6 r [105, 102]).snd], A7] [(0, .ptr 0 0), (1, iA m), (4, .ptr 1 0)] fun G => b0 (wp_seq (j5 G (n4 1 [0] (ke (c6 r [105, 102]) 1 (by kernel_rfl) (by repeat (first | exact hs | with_reducible refine b54 (n6 5 _) ?_ | with_reducible refine b54 j7 ?_ | with_reducible refine b54 l7 ?_ | with_reducible refine b54 m5 ?_ | with_reducible refine b54 (A6 d _) ?_)))) [0, 1, 10, 26] [.box [.v (.string (b6 (iE 5 (c6 r [105, 102])).snd.fst)), bA (iE 5 (c6 r [105, 102])).snd.snd], A7, aH1 r, .box [iA 3, iA 0, iA 0, iA 0, .v (.slice none 0 0), iA (iE 5 (c6 r [105, 102])).fst.kind, iA (iE 5 (c6 r [105, 102])).fst.value, .tref 2, iA 0, .v (.slice none 0 0), .v (.slice none 0 0)]] [(0, .ptr 0 0), (1, iA m), (4, .ptr 1 0), (5, .ptr 3 0)] fun G => b0 (wp_seq (G8 G (n4 3 [0] (ih ((iE 5 (c6 r [105, 102])).snd) (m + 1) (by omega) (by repeat (first | exact hs | with_reducible refine b54 (n6 5 _) ?_ | with_reducible refine b54 j7 ?_ | with_reducible refine b54 l7 ?_ | with_reducible refine b54 m5 ?_ | with_reducible refine b54 (A6 d _) ?_)))) [0, 1, 2, 3, 28] [.box [.v (.string (b6 (c6 (ag0 d r).snd [125]).fst)), bA (c6 (ag0 d r).snd [125]).snd], A7, aH1 r, .box [iA 3, iA 0, iA 0, iA 0, .v (.slice none 0 0), iA (iE 5 (c6 r [105, 102])).fst.kind, iA (iE 5 (c6 r [105, 102])).fst.value, .tref 2, iA 0, .tref 4, .v (.slice none 0 0)], .tree (D.stmts (ag0 d r).fst)] [(0, .ptr 0 0), (1, iA m), (4, .ptr 1 0), (5, .ptr 3 0)] [wO (m + 1)] (o1 (by omega)) fun G => b0 (wp_seq (G8 G (n4 3 [0] (ih (c6 (ag0 d r).snd [125]) (m + 1) (by omega) (by repeat (first | exact hs | with_reducible refine b54 (n6 5 _) ?_ | with_reducible refine b54 j7 ?_ | with_reducible refine b54 l7 ?_ | with_reducible refine b54 m5 ?_ | with_reducible refine b54 (A6 d _) ?_)))) [0, 1, 2, 3, 4, 29] [bg7 d r, A7, aH1 r, .box [iA 3, iA 0, iA 0, iA 0, .v (.slice none 0 0), iA (iE 5 (c6 r [105, 102])).fst.kind, iA (iE 5 (c6 r [105, 102])).fst.value, .tref 2, iA 0, .tref 4, .tref 5], .tree (D.stmts (ag0 d r).fst), .tree (D.stmts (B9 d (c6 (c6 (ag0 d r).snd [125]) [123])).fst)] [(0, .ptr 0 0), (4, .ptr 1 0), (5, .ptr 3 0)] [wO (m + 1)] (o1 (by omega)) fun G => b0 (wp_seq (j5 G d7 [0, 1, 2, 4, 5] [bg7 d r, .box [iA 3, iA 0, iA 0, iA 0, .v (.slice none 0 0), iA (iE 5 (c6 r [105, 102])).fst.kind, iA (iE 5 (c6 r [105, 102])).fst.value, .tref 2, iA 0, .tref 3, .tref 4], aH1 r, .tree (D.stmts (ag0 d r).fst), .tree (D.stmts (B9 d (c6 (c6 (ag0 d r).snd [125]) [123])).fst)] [(0, .ptr 0 0), (4, .ptr 1 0)] fun G => b0 (wp_ret (A2 (j2 ?_))))))))))))); obtain ⟨ρ, G⟩ := G.nilT 5 (.exprs []) [.box [.v (.string (b6 (c6 (B9 d (c6 (c6 (B9 d (c6 (iE 5 (c6 r [105, 102])).snd [123])).snd [125]) [123])).snd [125]).fst)), bA (c6 (B9 d (c6 (c6 (B9 d (c6 (iE 5 (c6 r [105, 102])).snd [123])).snd [125]) [123])).snd [125]).snd], .box [iA 3, iA 0, iA 0, iA 0, .tref 5, iA (iE 5 (c6 r [105, 102])).fst.kind, iA (iE 5 (c6 r [105, 102])).fst.value, .tref 2, iA 0, .tref 3, .tref 4], .tree (D.exprs (iE 5 (c6 r [105, 102])).fst.kids), .tree (D.stmts (B9 d (c6 (iE 5 (c6 r [105, 102])).snd [123])).fst), .tree (D.stmts (B9 d (c6 (c6 (B9 d (c6 (iE 5 (c6 r [105, 102])).snd [123])).snd [125]) [123])).fst)] [(0, .ptr 0 0), (4, .ptr 1 0)]
  exact E0 (.agg [iA 3, iA 0, iA 0, iA 0, .tref 5, iA (iE 5 (c6 r [105, 102])).fst.kind, iA (iE 5 (c6 r [105, 102])).fst.value, .tref 2, iA 0, .tref 3, .tref 4]) G [0, 5, 2, 3, 4] (by have e1 : ((A0 d r).fst.kind : Int) = (3) := (by rw [e9]; rfl); have e2 : ((A0 d r).fst.target : Int) = (0) := (by rw [e9]; rfl); have e3 : ((A0 d r).fst.index.kind : Int) = (0) := (by rw [e9]; rfl); have e4 : ((A0 d r).fst.index.value : Int) = (0) := (by rw [e9]; rfl); have e5 : ((A0 d r).fst.value.kind : Int) = ((iE 5 (c6 r [105, 102])).fst.kind) := (by rw [e9]; rfl); have e6 : ((A0 d r).fst.value.value : Int) = ((iE 5 (c6 r [105, 102])).fst.value) := (by rw [e9]; rfl); have e7 : ((A0 d r).fst.count : Int) = (0) := (by rw [e9]; rfl); (first | rw [e1, e2, e3, e4, e5, e6, e7] | simp only [e1, e2, e3, e4, e5, e6, e7]) <;> rfl) (by show _ = mR [0, 5, 2, 3, 4] (Q7 d r); unfold Q7; rw [e9] <;> rfl)
theorem bw5 (d : Nat) (hd : d <= 4) (ih : ∀ (s : List UInt8) (b : Bool) (m : Int), m = 6 - (d : Int) -> s.length <= 100000000 -> j1.ok Tryz.prog (ibC d s b m)) (s : List UInt8) (b : Bool) (m : Int) (hm : m = 5 - (d : Int)) (hs : s.length <= 100000000) : j1.ok Tryz.prog (itC d s b m) :=
 bI4 d hd (s, b) m hm hs (fun r m h h1 => ih r.1 r.2 m h h1) (fun r => ap5 r.1 r.2) (fun r u h => F3 r.1 u r.2 h) (fun r h => aA4 r.1 r.2 h) (fun r h => aV1 r.1 r.2 h) (fun r m h h1 => bO1 r.1 r.2 m h h1)
end Go.Proofs.YtompcdbfongedaaGreatDoor

namespace Go.Proofs.YtompcdbfongedaaGreatDoor
open Go Go.RowKit Go.Shelf
def aS0 : Go.Shelf.Ren := ⟨fun | 138 => 77 | 143 => 78 | 195 => 106 | 197 => 107 | 217 => 79 | 218 => 108 | 219 => 109 | 221 => 47 | 224 => 127 | 225 => 126 | 260 => 125 | 266 => 110 | 267 => 128 | 268 => 76 | 314 => 139 | n => n, fun | 0 => 0 | 3 => 3 | 4 => 4 | 5 => 5 | 9 => 9 | 21 => 21 | 31 => 37 | 46 => 137 | 51 => 148 | 105 => 123 | 119 => 144 | 138 => 146 | 139 => 147 | 146 => 149 | n => n, fun | 1 => 0 | 3 => 1 | 4 => 2 | n => n⟩
theorem aL3 : Go.Proofs.Lays.n221 Tryz.prog aS0 := {
 mixed := by kernel_rfl
 f138 := Tryz.func77.trans (congrArg some (by kernel_rfl))
 f143 := Tryz.func78.trans (congrArg some (by kernel_rfl))
 f195 := Tryz.func106.trans (congrArg some (by kernel_rfl))
 f197 := Tryz.func107.trans (congrArg some (by kernel_rfl))
 f217 := Tryz.func79.trans (congrArg some (by kernel_rfl))
 f218 := Tryz.func108.trans (congrArg some (by kernel_rfl))
 f219 := Tryz.func109.trans (congrArg some (by kernel_rfl))
 f221 := Tryz.func47.trans (congrArg some (by kernel_rfl))
 f224 := Tryz.func127.trans (congrArg some (by kernel_rfl))
 f225 := Tryz.func126.trans (congrArg some (by kernel_rfl))
 f260 := Tryz.func125.trans (congrArg some (by kernel_rfl))
 f266 := Tryz.func110.trans (congrArg some (by kernel_rfl))
 f267 := Tryz.func128.trans (congrArg some (by kernel_rfl))
 f268 := Tryz.func76.trans (congrArg some (by kernel_rfl))
 f314 := Tryz.func139.trans (congrArg some (by kernel_rfl))
 t0 := Tryz.underlying0
 a0 := Tryz.isAgg0
 z0 := Tryz.sizeOf0
 v0 := Tryz.zeroValue0
 t3 := Tryz.underlying3
 a3 := Tryz.isAgg3
 z3 := Tryz.sizeOf3
 v3 := Tryz.zeroValue3
 t4 := Tryz.underlying4
 a4 := Tryz.isAgg4
 z4 := Tryz.sizeOf4
 v4 := Tryz.zeroValue4
 t5 := Tryz.underlying5
 a5 := Tryz.isAgg5
 z5 := Tryz.sizeOf5
 v5 := Tryz.zeroValue5
 t9 := Tryz.underlying9
 a9 := Tryz.isAgg9
 z9 := Tryz.sizeOf9
 v9 := Tryz.zeroValue9
 t21 := Tryz.underlying21
 a21 := Tryz.isAgg21
 z21 := Tryz.sizeOf21
 v21 := Tryz.zeroValue21
 t31 := Tryz.underlying37
 a31 := Tryz.isAgg37
 z31 := Tryz.sizeOf37
 v31 := Tryz.zeroValue37
 t46 := Tryz.underlying137
 a46 := Tryz.isAgg137
 z46 := Tryz.sizeOf137
 v46 := Tryz.zeroValue137
 t51 := Tryz.underlying148
 a51 := Tryz.isAgg148
 z51 := Tryz.sizeOf148
 v51 := Tryz.zeroValue148
 t105 := Tryz.underlying123
 a105 := Tryz.isAgg123
 z105 := Tryz.sizeOf123
 v105 := Tryz.zeroValue123
 t119 := Tryz.underlying144
 a119 := Tryz.isAgg144
 z119 := Tryz.sizeOf144
 t138 := Tryz.underlying146
 a138 := Tryz.isAgg146
 z138 := Tryz.sizeOf146
 v138 := Tryz.zeroValue146
 t139 := Tryz.underlying147
 a139 := Tryz.isAgg147
 z139 := Tryz.sizeOf147
 v139 := Tryz.zeroValue147
 t146 := Tryz.underlying149
 a146 := Tryz.isAgg149
 z146 := Tryz.sizeOf149
 v146 := Tryz.zeroValue149
 g1 := by kernel_rfl
 g3 := by kernel_rfl
 g4 := by kernel_rfl }
theorem bM1 : (Tryz.prog.info? 9).map (fun i => (i.zero, i.size, i.bytes)) = some (some (.string ByteArray.empty), 1, 16) := by kernel_rfl
theorem b41 (s : ByteArray) (w : World) (hs : s.size < 4294967281) (N : Nat) (hN : (N : Int) = min 3 ((s.size : Int) + 1)) :
  Calls Tryz.prog 47 #[.string s, .string ⟨#[47]⟩, .int .i64 0, .int .i64 3] w fun e w' =>
   e = .returned (.slice (some ⟨w.heap.size, 0, none⟩) (Lib.splitB ⟨#[47]⟩ 0 (N - 1) s).length N) /\ w' = w.alloc (.cells (Lib.cellsOf (Lib.splitB ⟨#[47]⟩ 0 (N - 1) s) N) 9) := by
 have h1 : 1 <= (⟨#[47]⟩ : ByteArray).size := b71 _
 exact Any.strings_genSplit_core aL3 bM1 s ⟨#[47]⟩ 0 3 N w hs h1 (b92 _)
  (fun x _ _ => (Any.strings_Index_one { aL3 with } x 47 _).mono fun e w' ⟨he, hw⟩ => ⟨by
   rw [he]
   show _ = Ending.returned (Value.int .i64 (Lib.index x.data.toList [47]))
   rw [Lib.index_one], hw⟩)
  ((Any.strings_Count_one { aL3 with } s 47 w).mono fun e w' ⟨he, hw⟩ => ⟨by
   rw [he]
   show _ = Ending.returned (Value.int .i64 ((Lib.count s.data.toList [47] : Nat) : Int))
   rw [Lib.count_one]
   rfl, hw⟩) (by decide) (by decide) (by rw [if_neg (by decide)]; exact hN)
theorem bF4 {c : UInt8} : ∀ {l : List UInt8}, c ∉ l -> Lib.indexByte l c = -1
 | [], _ => rfl
 | x :: r, h => by
  simp only [b76, not_or] at h
  unfold Lib.indexByte
  rw [show (x == c) = false from by simpa using fun e => h.1 e.symm, bF4 h.2]; rfl
theorem bq0 {c : UInt8} : ∀ {a r : List UInt8}, c ∉ a -> Lib.indexByte (a ++ c :: r) c = a.length
 | [], r, _ => by simp [Lib.indexByte]
 | x :: a, r, h => by
  simp only [b76, not_or] at h
  rw [List.cons_append, Lib.indexByte, show (x == c) = false from by simpa using fun e => h.1 e.symm, bq0 h.2]
  have : ((a.length : Int) == -1) = false := by simp
  simp only [Bool.false_eq_true, if_false, this, b58]
  omega
theorem bF5 (l : List UInt8) : Lib.indexB (b6 l) ⟨#[47]⟩ = Lib.indexByte l 47 := by
 show Lib.index l [47] = _
 rw [Lib.index_one]
theorem aw7 : ∀ {l p : List UInt8}, sn1 p l = none -> (47 : UInt8) ∉ l
 | [], _, _ => by simp
 | x :: r, p, h => by
  rw [sn1] at h
  split at h
  ·cases h
  rename_i hx
  simp only [b76, not_or]
  exact ⟨fun e => hx e.symm, aw7 h⟩
theorem ab2 : ∀ {l p a r : List UInt8}, sn1 p l = some (a, r) -> ∃ q, a = p ++ q /\ l = q ++ 47 :: r /\ (47 : UInt8) ∉ q
 | [], _, _, _, h => by cases h
 | x :: l, p, a, r, h => by
  rw [sn1] at h
  split at h
  ·rename_i hx
   cases h
   exact ⟨[], by simp, by rw [hx]; rfl, by simp⟩
  rename_i hx
  obtain ⟨q, h1, h2, h3⟩ := ab2 h
  refine ⟨x :: q, by rw [h1]; simp, by rw [h2]; rfl, ?_⟩
  simp only [b76, not_or]
  exact ⟨fun e => hx e.symm, h3⟩
theorem bE1 {l : List UInt8} (h : (47 : UInt8) ∉ l) (k : Nat) : Lib.splitB ⟨#[47]⟩ 0 k (b6 l) = [b6 l] := Lib.splitB_miss _ _ _ _ (by rw [bF5, bF4 h])
theorem aY5 {a r : List UInt8} (h : (47 : UInt8) ∉ a) (k : Nat) : Lib.splitB ⟨#[47]⟩ 0 (k + 1) (b6 (a ++ 47 :: r)) = b6 a :: Lib.splitB ⟨#[47]⟩ 0 k (b6 r) := by
 rw [Lib.splitB_hit _ _ _ _ a.length (by rw [bF5, bq0 h])]
 congr 1
 ·rw [L9]; simp
 congr 1
 rw [show (⟨#[47]⟩ : ByteArray).size = 1 from rfl, f9, L9, List.take_length]
 congr 1
 rw [List.drop_append]
 simp
theorem bl1 (t : List UInt8) (N : Nat) (hN : (N : Int) = min 3 ((t.length : Int) + 1)) : Lib.splitB ⟨#[47]⟩ 0 (N - 1) (b6 t) = (sn3 t).map b6 := by
 unfold sn3
 cases h : sn1 [] t with
 | none => exact bE1 (aw7 h) _
 | some x =>
  obtain ⟨a, r⟩ := x
  obtain ⟨q, h1, h2, h3⟩ := ab2 h
  have h1' : a = q := by simpa using h1
  subst h1'
  have hl : t.length = a.length + (r.length + 1) := by rw [h2]; simp
  dsimp only
  cases h4 : sn1 [] r with
  | none =>
   obtain ⟨j, hj⟩ : ∃ j, N - 1 = j + 1 := ⟨N - 2, by omega⟩
   rw [hj, h2, aY5 h3, bE1 (aw7 h4)]; rfl
  | some y =>
   obtain ⟨b, c⟩ := y
   obtain ⟨q2, h5, h6, h7⟩ := ab2 h4
   have h5' : b = q2 := by simpa using h5
   subst h5'
   have hl2 : r.length = b.length + (c.length + 1) := by rw [h6]; simp
   rw [show N - 1 = 1 + 1 by omega, h2, aY5 h3, h6, aY5 h7]; rfl
end Go.Proofs.YtompcdbfongedaaGreatDoor

namespace Go.Proofs.YtompcdbfongedaaGreatDoor
open Go Go.RowKit
theorem bn4 {P : Program} {f : FuncId} {args : List AV} {d : D} (h : ∀ (w : World) (ρ : Nat -> Value), Calls P f (AV.vals ρ args).toArray w fun e w' => ∃ v, e = .returned v /\ Below w.heap.size w w' /\ ∀ φ' : Nat -> Prop, (∀ g, w.heap.size <= g -> φ' g) -> RD w' φ' d v) : j1.ok P ⟨f, args, [], [.dat d], .ref 0⟩ := by
 intro ι φ ψ w0 w F ρ M
 refine (h w ρ).mono ?_
 rintro e w' ⟨v, rfl, hb, hr⟩
 have M1 := M.call hb
 have hnone : ∀ j, s4 [] j = It.none := fun j => by simp [s4]
 have hinv : Inv (s4 []) ρ [0] := fun ρ' _ j => by rw [hnone j]; rfl
 obtain ⟨ρ', h1, M2, h2⟩ := M1.newDat (id := 0) (d := d) (v := v) (hnone 0) hinv (hr _ fun g hg => M.frFresh g hg)
 refine ⟨ρ', fun i hi => absurd hi (Nat.not_lt_zero i), ?_, ?_⟩
 ·simp only [AV.val]; rw [h2]
 have e : m7 (s4 []) [(0, It.dat d)] = s4 [It.dat d] := by
  funext j
  cases j with
  | zero => rfl
  | succ j => simp [m7, s4]
 rw [e] at M2
 exact M2
theorem bv5 (t : List UInt8) (hs : t.length <= 100000000) (w : World) (N : Nat) (hN : (N : Int) = min 3 ((t.length : Int) + 1)) :
  Calls Tryz.prog 20 #[.string (b6 t), .string ⟨#[47]⟩, .int .i64 3] w fun e w' =>
   e = .returned (.slice (some ⟨w.heap.size, 0, none⟩) (Lib.splitB ⟨#[47]⟩ 0 (N - 1) (b6 t)).length N) /\ w' = w.alloc (.cells (Lib.cellsOf (Lib.splitB ⟨#[47]⟩ 0 (N - 1) (b6 t)) N) 9) := by
 have hg := b41 (b6 t) w (by rw [f9]; omega) N (by rw [f9]; exact hN)
 clear hN
 generalize Lib.splitB ⟨#[47]⟩ 0 (N - 1) (b6 t) = L at *
 generalize b6 t = S at *
 have HG : Hid (Calls Tryz.prog 47 #[.string S, .string ⟨#[47]⟩, .int .i64 0, .int .i64 3] w fun e w' =>
   e = .returned (.slice (some ⟨w.heap.size, 0, none⟩) L.length N) /\ w' = w.alloc (.cells (Lib.cellsOf L N) 9)) := hg
 clear hg
 go_enter Tryz.func20, Tryz.ntmps20
 go_wp2_with fail
 refine HG.out.mono ?_
 rintro e w1 ⟨rfl, rfl⟩
 go_wp2_with fail
 go_ret
 exact ⟨rfl, rfl⟩
theorem aV6 (t : List UInt8) (hs : t.length <= 100000000) : j1.ok Tryz.prog ⟨20, [tA t, tA [47], iA 3], [], [.dat (.strs ((sn3 t).map b6))], .ref 0⟩ :=
 bn4 fun w ρ => by
  obtain ⟨N, hN⟩ : ∃ N : Nat, (N : Int) = min 3 ((t.length : Int) + 1) := ⟨(min 3 ((t.length : Int) + 1)).toNat, by omega⟩
  refine (bv5 t hs w N hN).mono ?_
  rintro e w' ⟨he, hw⟩
  rw [bl1 t N hN] at he hw
  have hl := Lib.splitB_length_le ⟨#[47]⟩ 0 (N - 1) (b6 t)
  rw [bl1 t N hN] at hl
  generalize (sn3 t).map b6 = L at *
  refine ⟨_, he, by rw [hw]; exact (Below.refl _ _).alloc (b71 _) _, fun φ' hφ => ?_⟩
  refine ⟨by simp [D.len], some ⟨w.heap.size, 0, none⟩, N, rfl, by show L.length <= N; omega, by unfold maxLen; omega, fun _ => ⟨w.heap.size, 0, rfl, by rw [hw]; have h9 : (w.alloc (.cells (Lib.cellsOf L N) 9)).heap.size = w.heap.size + 1 := (by simp); omega, hφ _ (b71 _), fun j u hj => ?_⟩⟩
  have hj' : (L.map Value.string)[j]? = some u := hj
  have hlt : j < L.length := by simpa using (b66.1 hj').1
  rw [hw]
  have hc : (Lib.cellsOf L N)[j]? = some u := by
   unfold Lib.cellsOf
   rw [List.getElem?_toArray, b95 (by simpa using hlt)]
   exact hj'
  have hB := (T9.new w (Lib.cellsOf L N).toList 9).cell j
  rw [Array.toArray_toList] at hB
  have h8 : (Lib.cellsOf L N).toList[j]? = some u := by rw [Array.getElem?_toList]; exact hc
  simpa using hB.trans h8
abbrev aN4 (t : List UInt8) (r0 : List (Nat × AV)) : List (Nat × AV) := (0, .v (.string (b6 t))) :: (2, .v (.slice none 0 0)) :: (3, bA false) :: r0
theorem ad1 (t : List UInt8) (hs : t.length <= 100000000) : j1.ok Tryz.prog ⟨21, [tA t], [], [.row 3 (.ints (L5 t).1)], .tup [.ref 0, bA (L5 t).2]⟩ := by
  have hz : (b6 t).size = t.length := rfl; refine D2 24 Tryz.func21 [] [(0, .v (.string (b6 t)))] fun G => ?_; refine wp_seq (j3 G d7 [(2, .v (.slice none 0 0)), (3, bA false)] fun G => b0 (wp_seq (j3 G d7 [(4, .v (.slice none 0 0))] fun G => b0 (wp_seq (wp_seq (A4 G d7 (aN4 t [(4, .v (.slice none 0 0)), (8, iA ((b6 t).size : Int)), (9, iA 0)]) fun G => b0 (wp_block ?_))))))); obtain ⟨ρ, G⟩ := G.nil 0 3 (.ints []) 1 [] (aN4 t [(4, .ref 0), (8, iA ((b6 t).size : Int)), (9, iA 0)]); refine x4 (κ := Nat) (fun k => k <= t.length /\ (t.take k).all lbG = true) (fun k => t.length - k) (fun k => [.row 3 (.ints ((t.take k).map Y2))]) (fun k => [(0, .v (.string (b6 t))), (2, .v (.slice none 0 0)), (3, bA false), (4, .ref 0), (8, iA ((b6 t).size : Int)), (9, iA k)]) 0 (⟨b92 _, rfl⟩) (w6.at G _ _) ?_; clear G; intro k ρ a w hp G; replace G := w6.at G [.row 3 (D.ints (b88 Y2 (b63 k t)))] (aN4 t [(4, .ref 0), (8, iA ((b6 t).size : Int)), (9, iA k)]); refine wp_seq (j3 G d7 [(10, bA (decide ((k : Int) < ((b6 t).size : Int))))] fun G => b0 (wp_seq (S9 G (fun h0 q0 => ?_) fun h0 q0 => ?_)))
  · refine wp_exit (p8 (p8 (p7 (b0 (wp_seq (j3 G d7 [(2, .ref 0), (3, bA true)] fun G => b0 (wp_ret ?_))))))); exact E0 (.tup [.ref 0, bA true]) G [0] (by have e1 : ((L5 t).snd : Bool) = (true) := (by rw [aJ7 (k := k) (by omega) hp.2]); (first | rw [e1] | simp only [e1]) <;> rfl) (by show _ = mR [0] [.row 3 (D.ints (L5 t).fst)]; have e1 : ((L5 t).fst : List Int) = (b88 Y2 (b63 k t)) := (by rw [aJ7 (k := k) (by omega) hp.2]); (first | rw [e1] | simp only [e1]) <;> rfl)
  refine wp_skip (b0 (wp_seq (wp_block (wp_seq (j3 G d7 [(5, iA k)] fun G => b0 (wp_seq (G7 G (n4 3 [] (U9 ([76, 72, 85, 88]) ((b6 t).data.toList.getD k 0) (by simp [h0]))) [(6, iA (F4 ((b6 t).data.toList.getD k 0) [76, 72, 85, 88] 0))] [(0 : Int) <= (k : Int), (k : Int) < ((b6 t).size : Int)] ⟨(by omega), (by assumption), b70⟩ fun G => b0 (wp_seq (wp_seq (j3 G d7 [(17, bA (decide (F4 ((b6 t).data.toList.getD k 0) [76, 72, 85, 88] 0 < 0)))] fun G => b0 (S9 (p := F4 ((b6 t).data.toList.getD k (0 : UInt8)) [(76 : UInt8), (72 : UInt8), (85 : UInt8), (88 : UInt8)] (0 : Int) < 0) G (fun h1 q1 => ?_) fun h1 q1 => ?_)))))))))))
  · refine wp_skip (b0 (G8 G d7 [25] [.row 3 (D.ints (b88 Y2 (b63 k t) ++ ([F4 ((b6 t).data.toList.getD k 0) [76, 72, 85, 88] 0] ++ [])))] (aN4 t [(4, .ref 0), (8, iA ((b6 t).size : Int)), (9, iA k)]) (aP ((b88 Y2 (b63 k t)).length + ([F4 ((b6 t).data.toList.getD k (0 : UInt8)) [(76 : UInt8), (72 : UInt8), (85 : UInt8), (88 : UInt8)] (0 : Int)] ++ []).length) 8 []) (aK (by simp only [b69, List.length_map, List.length_take, b58, b60]; omega) b70) fun G => o9 (b0 (G7 G d7 [(9, iA ((k : Int) + 1))] [wO ((k : Int) + 1)] (o1 (by omega)) fun G => b0 ?_)))); exact Z9 G (k + 1) (⟨by omega, a77 (by omega) hp.2 (by assumption)⟩) (by omega) [0] (by have e1 : (b88 Y2 (b63 (k + 1) t) : List Int) = (b88 Y2 (b63 k t) ++ ([F4 ((b6 t).data.toList.getD k 0) [76, 72, 85, 88] 0] ++ [])) := ((bm1 (by omega)).symm); (first | rw [e1] | simp only [e1]) <;> rfl)
  refine wp_seq (A4 G d7 (aN4 t [(4, .ref 0), (6, iA (F4 ((b6 t).data.toList.getD k 0) [76, 72, 85, 88] 0)), (8, iA ((b6 t).size : Int)), (9, iA k)]) fun G => b0 (wp_ret (j2 (A2 (j2 (j2 (A2 (j2 ?_)))))))); obtain ⟨ρ, G⟩ := G.nil 1 3 (.ints []) 1 [.row 3 (D.ints (b88 Y2 (b63 k t)))] [(0, .v (.string (b6 t))), (2, .ref 1), (3, bA false), (4, .ref 0), (6, iA (F4 ((b6 t).data.toList.getD k 0) [76, 72, 85, 88] 0)), (8, iA ((b6 t).size : Int)), (9, iA k)]; exact E0 (.tup [.ref 1, bA false]) G [1] (by have e1 : ((L5 t).snd : Bool) = (false) := (by rw [aJ6 (k := k) (by omega) (by assumption)]); (first | rw [e1] | simp only [e1]) <;> rfl) (by show _ = mR [1] [.row 3 (D.ints (L5 t).fst)]; have e1 : ((L5 t).fst : List Int) = ([]) := (by rw [aJ6 (k := k) (by omega) (by assumption)]); (first | rw [e1] | simp only [e1]) <;> rfl)
theorem isD : ∀ (f : Nat), f <= 5 -> ∀ (s : List UInt8) (b : Bool) (m : Int), m = 6 - (f : Int) -> s.length <= 100000000 -> j1.ok Tryz.prog (isC f s b m)
 | 0, _, s, b, m, hm, hs => bt1 s b m (by omega) hs
 | f + 1, hf, s, b, m, hm, hs => bw4 f (by omega) (fun s b m hm hs => bw5 f (by omega) (fun s b m hm hs => bk8 f (isD f (by omega)) s b m hm hs) s b m hm hs) s b m hm hs
theorem bA5 (s : List UInt8) (b : Bool) (m : Int) (hm : m = 1) (hs : s.length <= 100000000) : j1.ok Tryz.prog (isC 5 s b m) := isD 5 (by omega) s b m (by omega) hs
abbrev ipC (t : List UInt8) : j1 := ⟨6, [tA t], [], [.row 3 (.ints (N2 t).1.vars), .row 3 (.ints (N2 t).1.arrays), .tree (.stmts (N2 t).1.body)], .tup [.agg [.ref 0, .ref 1, .tref 2], bA (N2 t).2]⟩
section
variable {t a1 b1 c1 : List UInt8}
theorem bL8 (h : sn3 t = [a1, b1, c1]) : a1.length <= t.length /\ b1.length <= t.length /\ c1.length <= t.length := by
 unfold sn3 at h
 split at h
 ·cases h
 rename_i a r h1
 obtain ⟨q, e1, e2, e3⟩ := ab2 h1
 split at h
 ·cases h
 rename_i b c h2
 obtain ⟨q2, f1, f2, f3⟩ := ab2 h2
 cases h
 have l1 := congrArg List.length e2
 have l2 := congrArg List.length f2
 simp only [List.nil_append] at e1 f1
 subst e1 f1
 simp only [b69, b58] at l1 l2
 omega
theorem a96 (h : (sn3 t).length ≠ 3) : N2 t = (zP, false) := by
 unfold N2
 split
 ·rename_i e; rw [e] at h; simp at h
 rfl
theorem bU7 (h : sn3 t = [a1, b1, c1]) (h1 : (L5 a1).2 = true) (h2 : (L5 b1).2 = true) (h3 : (B9 5 (c1, false)).2.2 = false) (h4 : ((b6 (B9 5 (c1, false)).2.1).toList == (⟨#[]⟩ : ByteArray).toList) = true) (h5 : o6 (ipQ a1 b1 c1) = true) (h6 : ((b6 (F0 (ipQ a1 b1 c1))).toList == (b6 t).toList) = true) : N2 t = (ipQ a1 b1 c1, true) := by
 rw [C0, C0] at h6
 unfold N2; rw [h]
 exact if_pos ⟨h1, h2, h3, aI4 h4, h5, eq_of_beq h6⟩
theorem S4 (h : sn3 t = [a1, b1, c1]) (hn : (L5 a1).2 = false \/ (L5 b1).2 = false \/ (B9 5 (c1, false)).2.2 = true \/ ((b6 (B9 5 (c1, false)).2.1).toList == (⟨#[]⟩ : ByteArray).toList) = false \/ o6 (ipQ a1 b1 c1) = false \/ ((b6 (F0 (ipQ a1 b1 c1))).toList == (b6 t).toList) = false) : N2 t = (zP, false) := by
 unfold N2; rw [h]
 refine if_neg fun h2 => ?_
 obtain ⟨g1, g2, g3, g4, g5, g6⟩ := h2
 rcases hn with h | h | h | h | h | h
 ·rw [g1] at h; cases h
 ·rw [g2] at h; cases h
 ·rw [g3] at h; cases h
 ·exact O5 h g4
 ·rw [g5] at h; cases h
 rw [C0, C0, g6] at h; simp at h
end
attribute [local irreducible] iE B9 A0 c6 d9 G4 F8 O9 N2
abbrev aC9 (t : List UInt8) (r0 : List (Nat × AV)) : List (Nat × AV) := (0, .v (.string (b6 t))) :: (2, .ptr 0 0) :: (3, bA false) :: (4, .ref 1) :: r0
theorem bR7 (t : List UInt8) (hs : t.length <= 100000000) (h : (sn3 t).length ≠ 3) (h2 : (sn3 t).length <= 3) : j1.ok Tryz.prog (ipC t) := by
 have hc9 : (((sn3 t).map b6).length : Int) < 3 := by rw [List.length_map]; omega
 refine D2 73 Tryz.func6 [] [(0, .v (.string (b6 t)))] fun G => ?_; refine wp_seq (j5 G d7 [0] [.box [.v (.slice none 0 0), .v (.slice none 0 0), .v (.slice none 0 0)]] [(0, .v (.string (b6 t))), (2, .ptr 0 0), (3, bA false)] fun G => b0 (wp_seq (j5 G (n4 1 [] (aV6 t (by assumption))) [0, 9] [.box [.v (.slice none 0 0), .v (.slice none 0 0), .v (.slice none 0 0)], .dat (D.strs (b88 b6 (sn3 t)))] (aC9 t []) fun G => b0 (wp_seq (wp_seq (A4 G d7 (aC9 t [(15, bA (decide (((b88 b6 (sn3 t)).length : Int) < 3)))]) fun G => b0 ?_)))))); cases h0 : (decide (((b88 b6 (sn3 t)).length : Int) < 3))
 ·have q0 := L3 h0; exact False.elim (by omega)
 have q0 := L2 h0; refine rT G _ h0 (wp_seq (A4 G d7 (aC9 t []) fun G => b0 (wp_ret (j2 ?_)))); obtain ⟨ρ, G⟩ := G.nil 2 3 (.ints []) 1 [.box [.ref 2, .v (.slice none 0 0), .v (.slice none 0 0)], .dat (D.strs (b88 b6 (sn3 t)))] (aC9 t []); obtain ⟨ρ, G⟩ := G.nil 3 3 (.ints []) 1 [.box [.ref 2, .ref 3, .v (.slice none 0 0)], .dat (D.strs (b88 b6 (sn3 t))), .row 3 (D.ints [])] (aC9 t []); obtain ⟨ρ, G⟩ := G.nilT 4 (.stmts []) [.box [.ref 2, .ref 3, .tref 4], .dat (D.strs (b88 b6 (sn3 t))), .row 3 (D.ints []), .row 3 (D.ints [])] (aC9 t []); exact E0 (.tup [.agg [.ref 2, .ref 3, .tref 4], bA false]) G [2, 3, 4] (by have e1 : ((N2 t).snd : Bool) = (false) := (by rw [a96 h]); (first | rw [e1] | simp only [e1]) <;> rfl) (by show _ = mR [2, 3, 4] [.row 3 (D.ints (N2 t).fst.vars), .row 3 (D.ints (N2 t).fst.arrays), .tree (D.stmts (N2 t).fst.body)]; have e1 : ((N2 t).fst.vars : List Int) = ([]) := (by rw [a96 h]); have e2 : ((N2 t).fst.arrays : List Int) = ([]) := (by rw [a96 h]); have e3 : ((N2 t).fst.body : List b5) = ([]) := (by rw [a96 h]); (first | rw [e1, e2, e3] | simp only [e1, e2, e3]) <;> rfl)
abbrev U1 (t : List UInt8) : List It := [.row 3 (D.ints (N2 t).fst.vars), .row 3 (D.ints (N2 t).fst.arrays), .tree (D.stmts (N2 t).fst.body)]
abbrev Z7 : It := .box [.v (.slice none 0 0), .v (.slice none 0 0), .v (.slice none 0 0)]
abbrev aq6 (c1 : List UInt8) : It := .tree (D.stmts (B9 5 (c1, false)).fst)
abbrev av1 : It := .box [.ref 1, .ref 2, .tref 3]
abbrev N4 (a1 : List UInt8) (b1 : List UInt8) (c1 : List UInt8) (r0 : List It) : List It := .row 3 (D.ints (L5 a1).fst) :: .row 3 (D.ints (L5 b1).fst) :: .tree (D.stmts (B9 5 (c1, false)).fst) :: .box [.ref 1, .ref 2, .tref 3] :: r0
abbrev D4 (r0 : List (Nat × AV)) : List (Nat × AV) := (2, .ptr 0 0) :: (3, bA false) :: (10, .ptr 4 0) :: r0
abbrev af4 (a1 : List UInt8) (b1 : List UInt8) (r0 : List It) : List It := .row 3 (D.ints (L5 a1).fst) :: .row 3 (D.ints (L5 b1).fst) :: r0
abbrev aC8 (t : List UInt8) (r0 : List (Nat × AV)) : List (Nat × AV) := (0, .v (.string (b6 t))) :: (2, .ptr 0 0) :: (3, bA false) :: r0
theorem bR6 (t a1 b1 c1 : List UInt8) (hs : t.length <= 100000000) (h : sn3 t = [a1, b1, c1]) (hcut : j1.ok Tryz.prog ⟨20, [tA t, tA [47], iA 3], [], [.dat (.strs [b6 a1, b6 b1, b6 c1])], .ref 0⟩) : j1.ok Tryz.prog (ipC t) := by
  have hcu := hcut; have hlen := bL8 h; have hv9 := Q3 (ipQ a1 b1 c1)
  have ht9 := fun hp => ag6 (ipQ a1 b1 c1) hp
  refine D2 73 Tryz.func6 [] [(0, .v (.string (b6 t)))] fun G => ?_; refine wp_seq (j5 G d7 [0] [Z7] (aC8 t []) fun G => b0 (wp_seq (j5 G (n4 1 [] hcu) [0, 9] [Z7, .dat (D.strs [b6 a1, b6 b1, b6 c1])] (aC8 t [(4, .ref 1)]) fun G => b0 (wp_seq (wp_seq (j3 G d7 [(15, bA false)] fun G => b0 (rF G false (by kernel_rfl) (wp_skip (b0 (wp_seq (G8 G (n4 3 [] (ad1 a1 (by omega))) [0, 1, 26] [Z7, .dat (D.strs [b6 a1, b6 b1, b6 c1]), .row 3 (D.ints (L5 a1).fst)] (aC8 t [(4, .ref 1), (5, .ref 2), (6, bA (L5 a1).snd)]) [(0 : Int) <= 0, (0 : Int) < ([b6 a1, b6 b1, b6 c1].length : Int), (0 : Nat) < [b6 a1, b6 b1, b6 c1].length] ⟨(by omega), (by simp), (by simp), b70⟩ fun G => b0 (wp_seq (G8 G (n4 3 [] (ad1 b1 (by omega))) [0, 1, 2, 27] (Z7 :: .dat (D.strs [b6 a1, b6 b1, b6 c1]) :: (af4 a1 b1 [])) (aC8 t [(4, .ref 1), (5, .ref 2), (6, bA (L5 a1).snd), (7, .ref 3), (8, bA (L5 b1).snd)]) [(0 : Int) <= 1, (1 : Int) < ([b6 a1, b6 b1, b6 c1].length : Int), (1 : Nat) < [b6 a1, b6 b1, b6 c1].length] ⟨(by omega), (by simp), (by simp), b70⟩ fun G => b0 (wp_seq (G8 G d7 [0, 2, 3, 36] (Z7 :: (af4 a1 b1 [.box [.v (.string ([b6 a1, b6 b1, b6 c1].getD 2 ByteArray.empty)), bA false]])) (aC8 t [(5, .ref 1), (6, bA (L5 a1).snd), (7, .ref 2), (8, bA (L5 b1).snd), (9, .ptr 3 0)]) [(0 : Int) <= 2, (2 : Int) < ([b6 a1, b6 b1, b6 c1].length : Int), (2 : Nat) < [b6 a1, b6 b1, b6 c1].length] ⟨(by omega), (by simp), (by simp), b70⟩ fun G => b0 (wp_seq (j5 G (n4 3 [3] (bA5 c1 false 1 (by kernel_rfl) (by omega))) [0, 1, 2, 3, 28, 44] (Z7 :: (af4 a1 b1 [.box [.v (.string (b6 (B9 5 (c1, false)).snd.fst)), bA (B9 5 (c1, false)).snd.snd], aq6 c1, .box [.ref 1, .ref 2, .tref 4]])) (aC8 t [(6, bA (L5 a1).snd), (8, bA (L5 b1).snd), (9, .ptr 3 0), (10, .ptr 5 0)]) fun G => b0 (wp_seq (wp_seq ?_))))))))))))))))))); cases h0 : (!(L5 a1).snd)
  ·
   have q0 : ((L5 a1).snd) = true := (Eq.mp (b67 _) h0); cases h1 : (!(L5 b1).snd)
   ·
    have q1 : ((L5 b1).snd) = true := (Eq.mp (b67 _) h1); cases h2 : ((B9 (5 : Nat) (c1, false)).snd.snd)
    ·
     cases h3 : (!(b6 (B9 (5 : Nat) (c1, false)).snd.fst).toList == (ByteArray.mk #[]).toList)
     ·
      have q3 : ((b6 (B9 5 (c1, false)).snd.fst).toList == (ByteArray.mk #[]).toList) = true := (Eq.mp (b67 _) h3); cases h4 : (!o6 (ipQ a1 b1 c1))
      ·
       have q4 : (o6 (ipQ a1 b1 c1)) = true := (Eq.mp (b67 _) h4); refine j5 G (x8 (m8 21 [1, 2, 4] (j1.lend hv9 [.row 3, .row 3, .tree]) (m8 26 [1, 2, 4] (j1.lend (ht9 (by assumption)) [.row 3, .row 3, .tree]) x7)) (fc h0 (fc h1 (fc h2 (fc h3 (fc h4 fz))))) (us [(3, 4, 0), (1005, 1005, 0), (7, 10, 1), (1011, 1011, 1), (13, 17, 2), (1018, 1018, 2), (20, 22, 3), (1023, 1023, 3), (25, 28, 4), (1029, 1029, 4)])) [0, 1, 2, 4, 5] (Z7 :: (af4 a1 b1 [aq6 c1, av1])) (D4 [(70, .v (.bool !(b6 (F0 (ipQ a1 b1 c1))).toList == (b6 t).toList))]) fun G => b0 ?_; cases h5 : (!(b6 (F0 (ipQ a1 b1 c1))).toList == (b6 t).toList)
       · have q5 : ((b6 (F0 (ipQ a1 b1 c1))).toList == (b6 t).toList) = true := (Eq.mp (b67 _) h5); refine rF G _ h5 (wp_skip (b0 (wp_seq (j5 G d7 (rg 4) (av1 :: (af4 a1 b1 [aq6 c1])) [(2, .ptr 0 0), (3, bA true)] fun G => b0 (wp_ret ?_))))); exact E0 (.tup [.agg [.ref 1, .ref 2, .tref 3], bA true]) G [1, 2, 3] (by have e1 : ((N2 t).snd : Bool) = (true) := (by rw [bU7 h (by with_reducible assumption) (by with_reducible assumption) (by with_reducible assumption) (by with_reducible assumption) (by with_reducible assumption) (by with_reducible assumption)]); (first | rw [e1] | simp only [e1]) <;> rfl) (by show _ = mR [1, 2, 3] (U1 t); unfold U1; rw [bU7 h (by with_reducible assumption) (by with_reducible assumption) (by with_reducible assumption) (by with_reducible assumption) (by with_reducible assumption) (by with_reducible assumption)] <;> rfl)
       have q5 : ((b6 (F0 (ipQ a1 b1 c1))).toList == (b6 t).toList) = false := (Eq.mp (b65 _) h5); refine rT G _ h5 (wp_seq (A4 G d7 (D4 []) fun G => b0 (wp_ret (j2 ?_)))); obtain ⟨ρ, G⟩ := G.nil 5 3 (.ints []) 1 (.box [.ref 5, .v (.slice none 0 0), .v (.slice none 0 0)] :: (N4 a1 b1 c1 [])) (D4 []); obtain ⟨ρ, G⟩ := G.nil 6 3 (.ints []) 1 (.box [.ref 5, .ref 6, .v (.slice none 0 0)] :: (N4 a1 b1 c1 [.row 3 (D.ints [])])) (D4 []); obtain ⟨ρ, G⟩ := G.nilT 7 (.stmts []) (.box [.ref 5, .ref 6, .tref 7] :: (N4 a1 b1 c1 [.row 3 (D.ints []), .row 3 (D.ints [])])) (D4 []); exact E0 (.tup [.agg [.ref 5, .ref 6, .tref 7], bA false]) G [5, 6, 7] (by have e1 : ((N2 t).snd : Bool) = (false) := (by rw [S4 h (.inr (.inr (.inr (.inr (.inr (by with_reducible assumption))))))]); (first | rw [e1] | simp only [e1]) <;> rfl) (by show _ = mR [5, 6, 7] (U1 t); unfold U1; have e1 : ((N2 t).fst.vars : List Int) = ([]) := (by rw [S4 h (.inr (.inr (.inr (.inr (.inr (by with_reducible assumption))))))]); have e2 : ((N2 t).fst.arrays : List Int) = ([]) := (by rw [S4 h (.inr (.inr (.inr (.inr (.inr (by with_reducible assumption))))))]); have e3 : ((N2 t).fst.body : List b5) = ([]) := (by rw [S4 h (.inr (.inr (.inr (.inr (.inr (by with_reducible assumption))))))]); (first | rw [e1, e2, e3] | simp only [e1, e2, e3]) <;> rfl)
      have q4 : (o6 (ipQ a1 b1 c1)) = false := (Eq.mp (b65 _) h4); refine j5 G (x8 (m8 21 [1, 2, 4] (j1.lend hv9 [.row 3, .row 3, .tree]) x7) (fc h0 (fc h1 (fc h2 (fc h3 (fc h4 fz))))) (us [(3, 4, 0), (1005, 1005, 0), (7, 10, 1), (1011, 1011, 1), (13, 17, 2), (1018, 1018, 2), (20, 22, 3), (1023, 1023, 3), (25, 28, 4), (1029, 1029, 4)])) [0, 1, 2, 4, 5] (Z7 :: (af4 a1 b1 [aq6 c1, av1])) (D4 [(70, bA true)]) fun G => b0 (rT G true (by kernel_rfl) (wp_seq (A4 G d7 (D4 []) fun G => b0 (wp_ret (j2 ?_))))); obtain ⟨ρ, G⟩ := G.nil 5 3 (.ints []) 1 (.box [.ref 5, .v (.slice none 0 0), .v (.slice none 0 0)] :: (N4 a1 b1 c1 [])) (D4 []); obtain ⟨ρ, G⟩ := G.nil 6 3 (.ints []) 1 (.box [.ref 5, .ref 6, .v (.slice none 0 0)] :: (N4 a1 b1 c1 [.row 3 (D.ints [])])) (D4 []); obtain ⟨ρ, G⟩ := G.nilT 7 (.stmts []) (.box [.ref 5, .ref 6, .tref 7] :: (N4 a1 b1 c1 [.row 3 (D.ints []), .row 3 (D.ints [])])) (D4 []); exact E0 (.tup [.agg [.ref 5, .ref 6, .tref 7], bA false]) G [5, 6, 7] (by have e1 : ((N2 t).snd : Bool) = (false) := (by rw [S4 h (.inr (.inr (.inr (.inr (.inl (by with_reducible assumption))))))]); (first | rw [e1] | simp only [e1]) <;> rfl) (by show _ = mR [5, 6, 7] (U1 t); unfold U1; have e1 : ((N2 t).fst.vars : List Int) = ([]) := (by rw [S4 h (.inr (.inr (.inr (.inr (.inl (by with_reducible assumption))))))]); have e2 : ((N2 t).fst.arrays : List Int) = ([]) := (by rw [S4 h (.inr (.inr (.inr (.inr (.inl (by with_reducible assumption))))))]); have e3 : ((N2 t).fst.body : List b5) = ([]) := (by rw [S4 h (.inr (.inr (.inr (.inr (.inl (by with_reducible assumption))))))]); (first | rw [e1, e2, e3] | simp only [e1, e2, e3]) <;> rfl)
     have q3 : ((b6 (B9 5 (c1, false)).snd.fst).toList == (ByteArray.mk #[]).toList) = false := (Eq.mp (b65 _) h3); refine j5 G (y7 (fc h0 (fc h1 (fc h2 (fc h3 (fc (b := true) rfl fz))))) (us [(3, 4, 0), (1005, 1005, 0), (7, 10, 1), (1011, 1011, 1), (13, 17, 2), (1018, 1018, 2), (20, 22, 3), (1023, 1023, 3), (25, 28, 4), (1029, 1029, 4)])) [0, 1, 2, 4, 5] (Z7 :: (af4 a1 b1 [aq6 c1, av1])) (D4 [(70, bA true)]) fun G => b0 (rT G true (by kernel_rfl) (wp_seq (A4 G d7 (D4 []) fun G => b0 (wp_ret (j2 ?_))))); obtain ⟨ρ, G⟩ := G.nil 5 3 (.ints []) 1 (.box [.ref 5, .v (.slice none 0 0), .v (.slice none 0 0)] :: (N4 a1 b1 c1 [])) (D4 []); obtain ⟨ρ, G⟩ := G.nil 6 3 (.ints []) 1 (.box [.ref 5, .ref 6, .v (.slice none 0 0)] :: (N4 a1 b1 c1 [.row 3 (D.ints [])])) (D4 []); obtain ⟨ρ, G⟩ := G.nilT 7 (.stmts []) (.box [.ref 5, .ref 6, .tref 7] :: (N4 a1 b1 c1 [.row 3 (D.ints []), .row 3 (D.ints [])])) (D4 []); exact E0 (.tup [.agg [.ref 5, .ref 6, .tref 7], bA false]) G [5, 6, 7] (by have e1 : ((N2 t).snd : Bool) = (false) := (by rw [S4 h (.inr (.inr (.inr (.inl (by with_reducible assumption)))))]); (first | rw [e1] | simp only [e1]) <;> rfl) (by show _ = mR [5, 6, 7] (U1 t); unfold U1; have e1 : ((N2 t).fst.vars : List Int) = ([]) := (by rw [S4 h (.inr (.inr (.inr (.inl (by with_reducible assumption)))))]); have e2 : ((N2 t).fst.arrays : List Int) = ([]) := (by rw [S4 h (.inr (.inr (.inr (.inl (by with_reducible assumption)))))]); have e3 : ((N2 t).fst.body : List b5) = ([]) := (by rw [S4 h (.inr (.inr (.inr (.inl (by with_reducible assumption)))))]); (first | rw [e1, e2, e3] | simp only [e1, e2, e3]) <;> rfl)
    refine j5 G (y7 (fc h0 (fc h1 (fc h2 (fc (b := true) rfl fz)))) (us [(3, 4, 0), (1005, 1005, 0), (7, 10, 1), (1011, 1011, 1), (13, 17, 2), (1018, 1018, 2), (20, 22, 3), (1023, 1023, 3), (25, 28, 3), (1029, 1029, 3)])) [0, 1, 2, 4, 5] (Z7 :: (af4 a1 b1 [aq6 c1, av1])) (D4 [(70, bA true)]) fun G => b0 (rT G true (by kernel_rfl) (wp_seq (A4 G d7 (D4 []) fun G => b0 (wp_ret (j2 ?_))))); obtain ⟨ρ, G⟩ := G.nil 5 3 (.ints []) 1 (.box [.ref 5, .v (.slice none 0 0), .v (.slice none 0 0)] :: (N4 a1 b1 c1 [])) (D4 []); obtain ⟨ρ, G⟩ := G.nil 6 3 (.ints []) 1 (.box [.ref 5, .ref 6, .v (.slice none 0 0)] :: (N4 a1 b1 c1 [.row 3 (D.ints [])])) (D4 []); obtain ⟨ρ, G⟩ := G.nilT 7 (.stmts []) (.box [.ref 5, .ref 6, .tref 7] :: (N4 a1 b1 c1 [.row 3 (D.ints []), .row 3 (D.ints [])])) (D4 []); exact E0 (.tup [.agg [.ref 5, .ref 6, .tref 7], bA false]) G [5, 6, 7] (by have e1 : ((N2 t).snd : Bool) = (false) := (by rw [S4 h (.inr (.inr (.inl (by with_reducible assumption))))]); (first | rw [e1] | simp only [e1]) <;> rfl) (by show _ = mR [5, 6, 7] (U1 t); unfold U1; have e1 : ((N2 t).fst.vars : List Int) = ([]) := (by rw [S4 h (.inr (.inr (.inl (by with_reducible assumption))))]); have e2 : ((N2 t).fst.arrays : List Int) = ([]) := (by rw [S4 h (.inr (.inr (.inl (by with_reducible assumption))))]); have e3 : ((N2 t).fst.body : List b5) = ([]) := (by rw [S4 h (.inr (.inr (.inl (by with_reducible assumption))))]); (first | rw [e1, e2, e3] | simp only [e1, e2, e3]) <;> rfl)
   have q1 : ((L5 b1).snd) = false := (Eq.mp (b65 _) h1); refine j5 G (y7 (fc h0 (fc h1 (fc (b := true) rfl fz))) (us [(3, 4, 0), (1005, 1005, 0), (7, 10, 1), (1011, 1011, 1), (13, 17, 2), (1018, 1018, 2), (20, 22, 2), (1023, 1023, 2), (25, 28, 2), (1029, 1029, 2)])) [0, 1, 2, 4, 5] (Z7 :: (af4 a1 b1 [aq6 c1, av1])) (D4 [(70, bA true)]) fun G => b0 (rT G true (by kernel_rfl) (wp_seq (A4 G d7 (D4 []) fun G => b0 (wp_ret (j2 ?_))))); obtain ⟨ρ, G⟩ := G.nil 5 3 (.ints []) 1 (.box [.ref 5, .v (.slice none 0 0), .v (.slice none 0 0)] :: (N4 a1 b1 c1 [])) (D4 []); obtain ⟨ρ, G⟩ := G.nil 6 3 (.ints []) 1 (.box [.ref 5, .ref 6, .v (.slice none 0 0)] :: (N4 a1 b1 c1 [.row 3 (D.ints [])])) (D4 []); obtain ⟨ρ, G⟩ := G.nilT 7 (.stmts []) (.box [.ref 5, .ref 6, .tref 7] :: (N4 a1 b1 c1 [.row 3 (D.ints []), .row 3 (D.ints [])])) (D4 []); exact E0 (.tup [.agg [.ref 5, .ref 6, .tref 7], bA false]) G [5, 6, 7] (by have e1 : ((N2 t).snd : Bool) = (false) := (by rw [S4 h (.inr (.inl (by assumption)))]); (first | rw [e1] | simp only [e1]) <;> rfl) (by show _ = mR [5, 6, 7] (U1 t); unfold U1; have e1 : ((N2 t).fst.vars : List Int) = ([]) := (by rw [S4 h (.inr (.inl (by assumption)))]); have e2 : ((N2 t).fst.arrays : List Int) = ([]) := (by rw [S4 h (.inr (.inl (by assumption)))]); have e3 : ((N2 t).fst.body : List b5) = ([]) := (by rw [S4 h (.inr (.inl (by assumption)))]); (first | rw [e1, e2, e3] | simp only [e1, e2, e3]) <;> rfl)
  have q0 : ((L5 a1).snd) = false := (Eq.mp (b65 _) h0); refine j5 G (y7 (fc h0 (fc (b := true) rfl fz)) (us [(3, 4, 0), (1005, 1005, 0), (7, 10, 1), (1011, 1011, 1), (13, 17, 1), (1018, 1018, 1), (20, 22, 1), (1023, 1023, 1), (25, 28, 1), (1029, 1029, 1)])) [0, 1, 2, 4, 5] (Z7 :: (af4 a1 b1 [aq6 c1, av1])) (D4 [(70, bA true)]) fun G => b0 (rT G true (by kernel_rfl) (wp_seq (A4 G d7 (D4 []) fun G => b0 (wp_ret (j2 ?_))))); obtain ⟨ρ, G⟩ := G.nil 5 3 (.ints []) 1 (.box [.ref 5, .v (.slice none 0 0), .v (.slice none 0 0)] :: (N4 a1 b1 c1 [])) (D4 []); obtain ⟨ρ, G⟩ := G.nil 6 3 (.ints []) 1 (.box [.ref 5, .ref 6, .v (.slice none 0 0)] :: (N4 a1 b1 c1 [.row 3 (D.ints [])])) (D4 []); obtain ⟨ρ, G⟩ := G.nilT 7 (.stmts []) (.box [.ref 5, .ref 6, .tref 7] :: (N4 a1 b1 c1 [.row 3 (D.ints []), .row 3 (D.ints [])])) (D4 []); exact E0 (.tup [.agg [.ref 5, .ref 6, .tref 7], bA false]) G [5, 6, 7] (by have e1 : ((N2 t).snd : Bool) = (false) := (by rw [S4 h (.inl (by with_reducible assumption))]); (first | rw [e1] | simp only [e1]) <;> rfl) (by show _ = mR [5, 6, 7] (U1 t); unfold U1; have e1 : ((N2 t).fst.vars : List Int) = ([]) := (by rw [S4 h (.inl (by with_reducible assumption))]); have e2 : ((N2 t).fst.arrays : List Int) = ([]) := (by rw [S4 h (.inl (by with_reducible assumption))]); have e3 : ((N2 t).fst.body : List b5) = ([]) := (by rw [S4 h (.inl (by with_reducible assumption))]); (first | rw [e1, e2, e3] | simp only [e1, e2, e3]) <;> rfl)
theorem bH7 (t : List UInt8) : (sn3 t).length <= 3 := by
 unfold sn3
 split
 ·simp
 split <;> simp
theorem bG5 (t : List UInt8) (hs : t.length <= 100000000) : j1.ok Tryz.prog (ipC t) := by
 by_cases h : (sn3 t).length = 3
 ·obtain ⟨a1, b1, c1, e⟩ : ∃ a b c, sn3 t = [a, b, c] := by
   match hc : sn3 t, h with
   | [a, b, c], _ => exact ⟨a, b, c, rfl⟩
  have h1 := aV6 t hs
  rw [e] at h1
  exact bR6 t a1 b1 c1 hs e h1
 exact bR7 t hs h (bH7 t)
theorem ad4 (xs ys : List Int) : j1.ok Tryz.prog (F9 38 [.ref 0, .ref 1] [dI xs, dI ys] (bA (decide (xs = ys)))) := by
  refine D2 26 Tryz.func38 [dI xs, dI ys] [(0, .ref 0), (1, .ref 1)] fun G => ?_; have hl : xs.length <= 9223372036854775807 := G.len 0 (d := .ints xs) (by kernel_rfl); refine wp_seq (A4 G d7 [(0, .ref 0), (1, .ref 1), (4, bA false)] fun G => b0 (wp_seq (wp_seq (j3 G d7 [(10, bA ((xs.length : Int) != (ys.length : Int)))] fun G => b0 (rcN G (fun h0 q0 => ?_) fun h0 q0 => ?_)))))
  ·
   refine wp_skip (b0 (wp_seq (wp_seq (A4 G d7 [(0, .ref 0), (1, .ref 1), (4, bA false), (12, iA (xs.length : Int)), (13, iA 0)] fun G => b0 (wp_block ?_))))); refine x4 (κ := Nat) (fun k => k <= xs.length /\ xs.take k = ys.take k) (fun k => xs.length - k) (fun k => [dI xs, dI ys]) (fun k => [(0, .ref 0), (1, .ref 1), (4, bA false), (12, iA (xs.length : Int)), (13, iA k)]) 0 (by simp [h0]) (w6.at G _ _) ?_; clear G; intro k ρ a w hp G; refine wp_seq (j3 G d7 [(14, bA (decide ((k : Int) < xs.length)))] fun G => b0 (wp_seq (S9 G (fun h1 q1 => ?_) fun h1 q1 => ?_)))
   · refine wp_exit (p8 (p8 (p7 (b0 (wp_seq (j3 G d7 [(4, bA true)] fun G => b0 (wp_ret ?_))))))); exact y9 true G [0, 1] (decide_eq_true (av9 hp.2 (by omega) (by omega)))
   refine wp_skip (b0 (wp_seq (wp_block (wp_seq (j3 G d7 [(5, iA k)] fun G => b0 (wp_seq (aQ7 G d7 [0, 0, 3, 7, 0, 0, 48, 112, 255] [(24, bA (xs.getD k 0 != ys.getD k 0))] (iX k k xs.length (iX k k ys.length [])) (iK (by omega) (iK (by omega) b70)) fun G => b0 (rcN G (fun h2 q2 => ?_) fun h2 q2 => ?_))))))))
   · refine wp_skip (o9 (b0 (G7 G d7 [(13, iA ((k : Int) + 1))] [wO ((k : Int) + 1)] (o1 (by omega)) fun G => b0 ?_))); exact Z9 G (k + 1) (⟨by omega, an4 hp.2 (by omega) (by omega) (by omega)⟩) (by omega) [0, 1]
   refine wp_seq (j3 G d7 [] fun G => b0 (wp_ret (A2 (j2 (j2 (A2 (j2 ?_))))))); exact y9 false G [0, 1] (by exact decide_eq_false fun e => by subst e; omega)
  refine wp_seq (j3 G d7 [] fun G => b0 (wp_ret (j2 ?_))); exact y9 false G [0, 1] (by exact decide_eq_false fun e => by subst e; omega)
theorem sk1 {l m : List b7} (h : ¬ (l.length : Int) = m.length) : I6 l m = false := by
 cases e : I6 l m
 ·rfl
 exact absurd (congrArg (fun x : List b7 => (x.length : Int)) ((W4 l m).1 e)) h
theorem sk2 {l m : List b7} {k : Nat} (h : I7 (l.getD k b55) (m.getD k b55) = false) : I6 l m = false := by
 cases e : I6 l m
 ·rfl
 rw [(W4 l m).1 e, (K1 _ _).2 rfl] at h; cases h
theorem sk3 {l m : List b7} {k : Nat} (h3 : (l.length : Int) = m.length) (h : l.take k = m.take k) (hk : l.length <= k) : I6 l m = true := (W4 _ _).2 (av9 h hk h3)
abbrev ixS (a b : b7) : j1 := F9 67 [eA a 0, eA b 1] [dE a.kids, dE b.kids] (bA (I7 a b))
theorem bl0 (l m : List b7) (ih : ∀ (u : b7), u ∈ l -> ∀ (v : b7), j1.ok Tryz.prog (ixS u v)) : j1.ok Tryz.prog (F9 104 [.ref 0, .ref 1, .fn 67 []] [dE l, dE m] (bA (I6 l m))) := by
  refine D2 32 Tryz.func104 [dE l, dE m] [(0, .ref 0), (1, .ref 1), (2, .fn 67 [])] fun G => ?_; have hl : l.length <= 9223372036854775807 := G.len 0 (d := .exprs l) (by kernel_rfl); refine wp_seq (A4 G d7 [(0, .ref 0), (1, .ref 1), (2, .fn 67 []), (6, bA false)] fun G => b0 (wp_seq (wp_seq (j3 G d7 [(14, bA ((l.length : Int) != (m.length : Int)))] fun G => b0 (rcN G (fun h0 q0 => ?_) fun h0 q0 => ?_)))))
  ·
   refine wp_skip (b0 (wp_seq (wp_seq (A4 G d7 [(1, .ref 1), (2, .fn 67 []), (6, bA false), (15, .ref 0), (16, iA (l.length : Int)), (17, iA 0)] fun G => b0 (wp_block ?_))))); refine x4 (κ := Nat) (fun k => k <= l.length /\ l.take k = m.take k) (fun k => l.length - k) (fun k => [dE l, dE m]) (fun k => [(1, .ref 1), (2, .fn 67 []), (6, bA false), (15, .ref 0), (16, iA (l.length : Int)), (17, iA k)]) 0 (by simp [h0]) (w6.at G _ _) ?_; clear G; intro k ρ a w hp G; refine wp_seq (j3 G d7 [(18, bA (decide ((k : Int) < l.length)))] fun G => b0 (wp_seq (S9 G (fun h1 q1 => ?_) fun h1 q1 => ?_)))
   · refine wp_exit (p8 (p8 (p7 (b0 (wp_seq (j3 G d7 [(6, bA true)] fun G => b0 (wp_ret ?_))))))); exact y9 true G [0, 1] (sk3 (by omega) hp.2 (by omega))
   refine wp_skip (b0 (wp_seq (wp_block (wp_seq (G8 G d7 [0, 1, 18, 26] [dE l, dE m, dE (l.getD k b55).kids, .box (eL (l.getD k b55) 2)] [(1, .ref 1), (2, .fn 67 []), (6, bA false), (7, iA k), (8, .ptr 3 0), (15, .ref 0), (16, iA (l.length : Int)), (17, iA k)] (iX k k l.length []) (iK (by omega) b70) fun G => b0 (wp_seq (G8 G d7 [0, 1, 2, 3, 28, 36] [dE l, dE m, dE (l.getD k b55).kids, .box (eL (l.getD k b55) 2), dE (m.getD k b55).kids, .box (eL (m.getD k b55) 4)] [(1, .ref 1), (2, .fn 67 []), (6, bA false), (8, .ptr 3 0), (9, .ptr 5 0), (15, .ref 0), (16, iA (l.length : Int)), (17, iA k)] (iX k k m.length []) (iK (by omega) b70) fun G => b0 (wp_seq (j5 G (n4 3 [2, 4] (ih (l.getD k b55) (aT2 (by omega)) (m.getD k b55))) [0, 1] [dE l, dE m] [(1, .ref 1), (2, .fn 67 []), (6, bA false), (15, .ref 0), (16, iA (l.length : Int)), (17, iA k), (30, .v (.bool !I7 (l.getD k b55) (m.getD k b55)))] fun G => b0 ?_))))))))); cases h2 : (!I7 (l.getD k b55) (m.getD k b55))
   · have q2 : (I7 (l.getD k b55) (m.getD k b55)) = true := (Eq.mp (b67 _) h2); refine rF G _ h2 (wp_skip (o9 (b0 (G7 G d7 [(17, iA ((k : Int) + 1))] [wO ((k : Int) + 1)] (o1 (by omega)) fun G => b0 ?_)))); exact Z9 G (k + 1) (⟨by omega, an4 hp.2 (by omega) (by omega) ((K1 _ _).1 (by with_reducible assumption))⟩) (by omega) [0, 1]
   have q2 : (I7 (l.getD k b55) (m.getD k b55)) = false := (Eq.mp (b65 _) h2); refine rT G _ h2 (wp_seq (j3 G d7 [] fun G => b0 (wp_ret (A2 (j2 (j2 (A2 (j2 ?_)))))))); exact y9 false G [0, 1] (sk2 (k := k) (by with_reducible assumption))
  refine wp_seq (j3 G d7 [] fun G => b0 (wp_ret (j2 ?_))); exact y9 false G [0, 1] (sk1 (by omega))
theorem ie1 {a b : b7} (h1 : a.kind = b.kind) (h2 : a.value = b.value) : I7 a b = I6 a.kids b.kids := by
 obtain ⟨k, n, ks⟩ := a
 obtain ⟨k', n', ks'⟩ := b
 simp only [b7.kind, b7.value] at h1 h2
 rw [I7, decide_eq_true h1, decide_eq_true h2]
 rfl
theorem bR4 (x y : b7) (ih : ∀ (m : List b7), j1.ok Tryz.prog (F9 104 [.ref 0, .ref 1, .fn 67 []] [dE x.kids, dE m] (bA (I6 x.kids m)))) : j1.ok Tryz.prog (ixS x y) := by
  refine D2 24 Tryz.func67 [dE x.kids, dE y.kids] [(0, eA x 0), (1, eA y 1)] fun G => ?_; refine wp_seq (j5 G d7 [0, 1, 2, 10] [dE x.kids, dE y.kids, .box (eL x 0), .box (eL y 1)] [(2, .ptr 2 0), (3, .ptr 3 0), (4, bA false)] fun G => b0 (wp_seq ?_)); cases h0 : (x.kind == y.kind)
  · have q0 := ne_of_beq_false h0; refine j5 G (y7 (fc h0 (fc (b := false) rfl fz)) (us [(6, 10, 0), (1011, 1011, 0), (13, 17, 1), (1018, 1018, 1)])) [0, 1] [dE x.kids, dE y.kids] [(4, bA false)] fun G => b0 (wp_ret ?_); exact y9 false G [0, 1] (sx1 (by omega))
  have q0 := eq_of_beq h0; cases h1 : (x.value == y.value)
  · have q1 := ne_of_beq_false h1; refine j5 G (y7 (fc h0 (fc h1 fz)) (us [(6, 10, 0), (1011, 1011, 0), (13, 17, 1), (1018, 1018, 1)])) [0, 1] [dE x.kids, dE y.kids] [(4, bA false)] fun G => b0 (wp_ret ?_); exact y9 false G [0, 1] (sx2 (by omega))
  have q1 := eq_of_beq h1; refine j5 G (x8 (m8 17 [0, 1] (ih y.kids) x7) (fc h0 (fc h1 fz)) (us [(6, 10, 0), (1011, 1011, 0), (13, 17, 1), (1018, 1018, 1)])) [0, 1] [dE x.kids, dE y.kids] [(4, bA (I6 x.kids y.kids))] fun G => b0 (wp_ret ?_); exact y9 (I6 x.kids y.kids) G [0, 1] (ie1 (by omega) (by omega))
theorem al9 (x : b7) : ∀ (y : b7), j1.ok Tryz.prog (ixS x y) :=
 b7.ind (P := fun x => ∀ (y : b7), j1.ok Tryz.prog (ixS x y)) (fun k n ks ih y => bR4 ⟨k, n, ks⟩ y fun m => bl0 ks m fun u hu => ih u hu) x
abbrev isS (s t : b5) : j1 := F9 66 [sA s 0, sA t 4] (sS s ++ sS t) (bA (M4 s t))
abbrev isB (l m : List b5) : j1 := F9 39 [.ref 0, .ref 1] [dT l, dT m] (bA (z7 l m))
theorem aw9 (l m : List b5) (ih : ∀ (u : b5), u ∈ l -> ∀ (v : b5), j1.ok Tryz.prog (isS u v)) : j1.ok Tryz.prog (F9 65 [.ref 0, .ref 1, .fn 66 []] [dT l, dT m] (bA (z7 l m))) := by
  refine D2 32 Tryz.func65 [dT l, dT m] [(0, .ref 0), (1, .ref 1), (2, .fn 66 [])] fun G => ?_; have hl : l.length <= 9223372036854775807 := G.len 0 (d := .stmts l) (by kernel_rfl); refine wp_seq (A4 G d7 [(0, .ref 0), (1, .ref 1), (2, .fn 66 []), (6, bA false)] fun G => b0 (wp_seq (wp_seq (j3 G d7 [(14, bA ((l.length : Int) != (m.length : Int)))] fun G => b0 (rcN G (fun h0 q0 => ?_) fun h0 q0 => ?_)))))
  ·
   refine wp_skip (b0 (wp_seq (wp_seq (A4 G d7 [(1, .ref 1), (2, .fn 66 []), (6, bA false), (15, .ref 0), (16, iA (l.length : Int)), (17, iA 0)] fun G => b0 (wp_block ?_))))); refine x4 (κ := Nat) (fun k => k <= l.length /\ l.take k = m.take k) (fun k => l.length - k) (fun k => [dT l, dT m]) (fun k => [(1, .ref 1), (2, .fn 66 []), (6, bA false), (15, .ref 0), (16, iA (l.length : Int)), (17, iA k)]) 0 (by simp [h0]) (w6.at G _ _) ?_; clear G; intro k ρ a w hp G; refine wp_seq (j3 G d7 [(18, bA (decide ((k : Int) < l.length)))] fun G => b0 (wp_seq (S9 G (fun h1 q1 => ?_) fun h1 q1 => ?_)))
   · refine wp_exit (p8 (p8 (p7 (b0 (wp_seq (j3 G d7 [(6, bA true)] fun G => b0 (wp_ret ?_))))))); exact y9 true G [0, 1] (sb3 (by omega) hp.2 (by omega))
   refine wp_skip (b0 (wp_seq (wp_block (wp_seq (G8 G d7 [0, 1, 18, 19, 20, 21, 26] [dT l, dT m, dE (l.getD k b55).index.kids, dE (l.getD k b55).value.kids, dT (l.getD k b55).body, dT (l.getD k b55).els, .box (sL (l.getD k b55) 2)] [(1, .ref 1), (2, .fn 66 []), (6, bA false), (7, iA k), (8, .ptr 6 0), (15, .ref 0), (16, iA (l.length : Int)), (17, iA k)] (iX k k l.length []) (iK (by omega) b70) fun G => b0 (wp_seq (G8 G d7 [0, 1, 2, 3, 4, 5, 6, 31, 32, 33, 34, 39] [dT l, dT m, dE (l.getD k b55).index.kids, dE (l.getD k b55).value.kids, dT (l.getD k b55).body, dT (l.getD k b55).els, .box (sL (l.getD k b55) 2), dE (m.getD k b55).index.kids, dE (m.getD k b55).value.kids, dT (m.getD k b55).body, dT (m.getD k b55).els, .box (sL (m.getD k b55) 7)] [(1, .ref 1), (2, .fn 66 []), (6, bA false), (8, .ptr 6 0), (9, .ptr 11 0), (15, .ref 0), (16, iA (l.length : Int)), (17, iA k)] (iX k k m.length []) (iK (by omega) b70) fun G => b0 (wp_seq (j5 G (n4 3 [2, 3, 4, 5, 7, 8, 9, 10] (ih (l.getD k b55) (al2 (by omega)) (m.getD k b55))) [0, 1] [dT l, dT m] [(1, .ref 1), (2, .fn 66 []), (6, bA false), (15, .ref 0), (16, iA (l.length : Int)), (17, iA k), (30, .v (.bool !M4 (l.getD k b55) (m.getD k b55)))] fun G => b0 ?_))))))))); cases h2 : (!M4 (l.getD k b55) (m.getD k b55))
   · have q2 : (M4 (l.getD k b55) (m.getD k b55)) = true := (Eq.mp (b67 _) h2); refine rF G _ h2 (wp_skip (o9 (b0 (G7 G d7 [(17, iA ((k : Int) + 1))] [wO ((k : Int) + 1)] (o1 (by omega)) fun G => b0 ?_)))); exact Z9 G (k + 1) (⟨by omega, an4 hp.2 (by omega) (by omega) ((ab5 _ _).1 (by with_reducible assumption))⟩) (by omega) [0, 1]
   have q2 : (M4 (l.getD k b55) (m.getD k b55)) = false := (Eq.mp (b65 _) h2); refine rT G _ h2 (wp_seq (j3 G d7 [] fun G => b0 (wp_ret (A2 (j2 (j2 (A2 (j2 ?_)))))))); exact y9 false G [0, 1] (sb2 (k := k) (by with_reducible assumption))
  refine wp_seq (j3 G d7 [] fun G => b0 (wp_ret (j2 ?_))); exact y9 false G [0, 1] (sb1 (by omega))
theorem bk7 (l m : List b5) (ih : j1.ok Tryz.prog (F9 65 [.ref 0, .ref 1, .fn 66 []] [dT l, dT m] (bA (z7 l m)))) : j1.ok Tryz.prog (isB l m) := by
 refine D2 8 Tryz.func39 [dT l, dT m] [(0, .ref 0), (1, .ref 1)] fun G => ?_; refine wp_seq (j3 G d7 [(4, bA false)] fun G => b0 (wp_seq (j3 G (n4 2 [0, 1] ih) [(4, bA (z7 l m))] fun G => b0 (wp_ret ?_)))); exact H9 G [0, 1]
abbrev ai9 (s : b5) (t : b5) (r0 : List It) : List It := dE s.index.kids :: dE s.value.kids :: dT s.body :: dT s.els :: dE t.index.kids :: dE t.value.kids :: dT t.body :: dT t.els :: r0
theorem bR5 (s t : b5) (ih1 : ∀ (m : List b5), j1.ok Tryz.prog (isB s.body m)) (ih2 : ∀ (m : List b5), j1.ok Tryz.prog (isB s.els m)) : j1.ok Tryz.prog (isS s t) := by
  refine D2 52 Tryz.func66 (ai9 s t []) [(0, sA s 0), (1, sA t 4)] fun G => ?_; refine wp_seq (j5 G d7 [0, 1, 2, 3, 4, 5, 6, 7, 8, 16] (ai9 s t [.box (sL s 0), .box (sL t 4)]) [(2, .ptr 8 0), (3, .ptr 9 0), (4, bA false)] fun G => b0 (wp_seq ?_)); cases h0 : (s.kind == t.kind)
  · have q0 := ne_of_beq_false h0; refine j5 G (y7 (fc h0 (fc (b := false) rfl fz)) (us [(6, 10, 0), (1011, 1011, 0), (13, 17, 1), (1018, 1018, 1), (20, 24, 1), (1025, 1025, 1), (27, 31, 1), (1032, 1032, 1), (34, 38, 1), (1039, 1039, 1), (41, 45, 1), (1046, 1046, 1)])) (rg 8) (ai9 s t []) [(4, bA false)] fun G => b0 (wp_ret ?_); exact y9 false G (rg 8) (sr1 (by omega))
  have q0 := eq_of_beq h0; cases h1 : (s.target == t.target)
  · have q1 := ne_of_beq_false h1; refine j5 G (y7 (fc h0 (fc h1 (fc (b := false) rfl fz))) (us [(6, 10, 0), (1011, 1011, 0), (13, 17, 1), (1018, 1018, 1), (20, 24, 2), (1025, 1025, 2), (27, 31, 2), (1032, 1032, 2), (34, 38, 2), (1039, 1039, 2), (41, 45, 2), (1046, 1046, 2)])) (rg 8) (ai9 s t []) [(4, bA false)] fun G => b0 (wp_ret ?_); exact y9 false G (rg 8) (sr2 (by omega))
  have q1 := eq_of_beq h1; cases h2 : (I7 s.index t.index)
  · refine j5 G (x8 (m8 17 [0, 4] (al9 s.index t.index) x7) (fc h0 (fc h1 (fc h2 (fc (b := false) rfl fz)))) (us [(6, 10, 0), (1011, 1011, 0), (13, 17, 1), (1018, 1018, 1), (20, 24, 2), (1025, 1025, 2), (27, 31, 3), (1032, 1032, 3), (34, 38, 3), (1039, 1039, 3), (41, 45, 3), (1046, 1046, 3)])) (rg 8) (ai9 s t []) [(4, bA false)] fun G => b0 (wp_ret ?_); exact y9 false G (rg 8) (sr4 (by with_reducible assumption))
  cases h3 : (I7 s.value t.value)
  · refine j5 G (x8 (m8 17 [0, 4] (al9 s.index t.index) (m8 24 [1, 5] (al9 s.value t.value) x7)) (fc h0 (fc h1 (fc h2 (fc h3 (fc (b := false) rfl fz))))) (us [(6, 10, 0), (1011, 1011, 0), (13, 17, 1), (1018, 1018, 1), (20, 24, 2), (1025, 1025, 2), (27, 31, 3), (1032, 1032, 3), (34, 38, 4), (1039, 1039, 4), (41, 45, 4), (1046, 1046, 4)])) (rg 8) (ai9 s t []) [(4, bA false)] fun G => b0 (wp_ret ?_); exact y9 false G (rg 8) (sr5 (by with_reducible assumption))
  cases h4 : (s.count == t.count)
  · have q4 := ne_of_beq_false h4; refine j5 G (x8 (m8 17 [0, 4] (al9 s.index t.index) (m8 24 [1, 5] (al9 s.value t.value) x7)) (fc h0 (fc h1 (fc h2 (fc h3 (fc h4 (fc (b := false) rfl fz)))))) (us [(6, 10, 0), (1011, 1011, 0), (13, 17, 1), (1018, 1018, 1), (20, 24, 2), (1025, 1025, 2), (27, 31, 3), (1032, 1032, 3), (34, 38, 4), (1039, 1039, 4), (41, 45, 5), (1046, 1046, 5)])) (rg 8) (ai9 s t []) [(4, bA false)] fun G => b0 (wp_ret ?_); exact y9 false G (rg 8) (sr3 (by omega))
  have q4 := eq_of_beq h4; cases h5 : (z7 s.body t.body)
  · refine j5 G (x8 (m8 17 [0, 4] (al9 s.index t.index) (m8 24 [1, 5] (al9 s.value t.value) (m8 38 [2, 6] (ih1 t.body) x7))) (fc h0 (fc h1 (fc h2 (fc h3 (fc h4 (fc h5 fz)))))) (us [(6, 10, 0), (1011, 1011, 0), (13, 17, 1), (1018, 1018, 1), (20, 24, 2), (1025, 1025, 2), (27, 31, 3), (1032, 1032, 3), (34, 38, 4), (1039, 1039, 4), (41, 45, 5), (1046, 1046, 5)])) (rg 8) (ai9 s t []) [(4, bA false)] fun G => b0 (wp_ret ?_); exact y9 false G (rg 8) (sr6 (by with_reducible assumption))
  refine j5 G (x8 (m8 17 [0, 4] (al9 s.index t.index) (m8 24 [1, 5] (al9 s.value t.value) (m8 38 [2, 6] (ih1 t.body) (m8 45 [3, 7] (ih2 t.els) x7)))) (fc h0 (fc h1 (fc h2 (fc h3 (fc h4 (fc h5 fz)))))) (us [(6, 10, 0), (1011, 1011, 0), (13, 17, 1), (1018, 1018, 1), (20, 24, 2), (1025, 1025, 2), (27, 31, 3), (1032, 1032, 3), (34, 38, 4), (1039, 1039, 4), (41, 45, 5), (1046, 1046, 5)])) (rg 8) (ai9 s t []) [(4, bA (z7 s.els t.els))] fun G => b0 (wp_ret ?_); exact y9 (z7 s.els t.els) G (rg 8) (sr8 (by omega) (by omega) (by omega) (by with_reducible assumption) (by with_reducible assumption) (by with_reducible assumption))
theorem b34 (s : b5) : ∀ (t : b5), j1.ok Tryz.prog (isS s t) :=
 b5.ind (P := fun s => ∀ (t : b5), j1.ok Tryz.prog (isS s t)) (fun k t i v c b e h1 h2 u => bR5 ⟨k, t, i, v, c, b, e⟩ u (fun m => bk7 b m (aw9 b m fun s hs => h1 s hs)) fun m => bk7 e m (aw9 e m fun s hs => h2 s hs)) s
theorem bX2 (l m : List b5) : j1.ok Tryz.prog (isB l m) := bk7 l m (aw9 l m fun s _ => b34 s)
theorem aB1 (xs xt : List Int) (l : List b5) (ys yt : List Int) (m : List b5) : j1.ok Tryz.prog (F9 15 [pA 0, pA 3] [dI xs, dI xt, dT l, dI ys, dI yt, dT m] (bA (decide (xs = ys) && (decide (xt = yt) && z7 l m)))) := by
  refine D2 24 Tryz.func15 [dI xs, dI xt, dT l, dI ys, dI yt, dT m] [(0, pA 0), (1, pA 3)] fun G => ?_; refine wp_seq (j5 G d7 [0, 1, 2, 3, 4, 5, 6, 14] [dI xs, dI xt, dT l, dI ys, dI yt, dT m, .box (pL 0), .box (pL 3)] [(2, .ptr 6 0), (3, .ptr 7 0), (4, bA false)] fun G => b0 (wp_seq ?_)); cases h0 : (decide (xs = ys))
  · have q0 := L3 h0; refine j5 G (x8 (m8 4 [0, 3] (ad4 xs ys) x7) (fc h0 (fc (b := false) rfl fz)) (us [(6, 10, 0), (1011, 1011, 0), (13, 17, 1), (1018, 1018, 1)])) (rg 6) [dI xs, dI xt, dT l, dI ys, dI yt, dT m] [(4, bA false)] fun G => b0 (wp_ret ?_); exact H9 G (rg 6)
  have q0 := L2 h0; cases h1 : (decide (xt = yt))
  · have q1 := L3 h1; refine j5 G (x8 (m8 4 [0, 3] (ad4 xs ys) (m8 10 [1, 4] (ad4 xt yt) x7)) (fc h0 (fc h1 fz)) (us [(6, 10, 0), (1011, 1011, 0), (13, 17, 1), (1018, 1018, 1)])) (rg 6) [dI xs, dI xt, dT l, dI ys, dI yt, dT m] [(4, bA false)] fun G => b0 (wp_ret ?_); exact H9 G (rg 6)
  have q1 := L2 h1; refine j5 G (x8 (m8 4 [0, 3] (ad4 xs ys) (m8 10 [1, 4] (ad4 xt yt) (m8 17 [2, 5] (bX2 l m) x7))) (fc h0 (fc h1 fz)) (us [(6, 10, 0), (1011, 1011, 0), (13, 17, 1), (1018, 1018, 1)])) (rg 6) [dI xs, dI xt, dT l, dI ys, dI yt, dT m] [(4, bA (z7 l m))] fun G => b0 (wp_ret ?_); exact H9 G (rg 6)
theorem bG4 (p q : j0) : j1.ok Tryz.prog (F9 15 [pA 0, pA 3] (pS p ++ pS q) (bA (bv6 p q))) := aB1 p.vars p.arrays p.body q.vars q.arrays q.body
theorem bd3 (w : World) (he : bf8 (fun _ => True) w := by intro _ _; trivial) : k8 (fun _ => True) (fun _ => True) w w (n8 (fun _ : Empty => Rs.none) (fun _ => undef) (s4 [])) := by
 refine (k8.start (ι := Empty ⊕ Nat) (w0 := w) (φ := fun _ => True) (ψ := fun _ => True) (fun _ _ => trivial) he).map (fun k => some k) (fun k k' i a b => by cases a; cases b; rfl) fun k => ?_
 cases k with
 | inl e => exact e.elim
 | inr j => exact .inr rfl
theorem aG9 (w : World) : I5 (fun _ => True) (T8 (fun _ => True) (n8 (fun _ : Empty => Rs.none) (fun _ => undef) (s4 []))) w w := I5.mono fun b _ _ => ⟨b70, fun i => by
 cases i with
 | inl e => exact e.elim
 | inr j => exact fun h => h.elim⟩
abbrev u8s (c : List UInt8) : List Value := c.map fun b => Value.int .u8 (b.toNat : Int)
theorem a29 {P : Program} {f : FuncId} {x : Value} {c d : List UInt8} {post : List It} (hc : j1.ok P ⟨f, [.ref 0, .ref 1], [dY c, dY d], post, .v x⟩) (u v : Value) (w : World) (hp : z8 w (fun _ => True) u c.length 1 (u8s c)) (hq : z8 w (fun _ => True) v d.length 1 (u8s d)) (he : bf8 (fun _ => True) w := by intro _ _; trivial) :
  Calls P f #[u, v] w fun e w' => e = .returned x /\ Below w.heap.size w w' := by
 obtain ⟨ρ', g1, M2, g2⟩ := k8.dats [.sl (.bytes c), .sl (.bytes d)] [u, v] 0 (bd3 w he) ⟨RD.nice (.bytes c) _ _ _ _ _ (aG9 w) hp, RD.nice (.bytes d) _ _ _ _ _ (aG9 w) hq, b70⟩ (fun _ _ => rfl) (fun _ _ _ => rfl)
 have e : m7 (s4 []) (P9 [.sl (.bytes c), .sl (.bytes d)] 0) = s4 [dY c, dY d] := by
  funext j
  match j with
  | 0 => rfl
  | 1 => rfl
  | j + 2 => simp [P9, m7, s4]
 rw [e] at M2
 simp only [xav, AV.vals, AV.val, List.cons.injEq, and_true] at g2
 obtain ⟨rfl, rfl⟩ := g2
 refine (hc Empty _ _ w w _ ρ' M2).mono ?_
 rintro e w' ⟨ρ2, -, rfl, M3⟩
 exact ⟨rfl, M3.below fun _ _ => trivial⟩
end Go.Proofs.YtompcdbfongedaaGreatDoor
