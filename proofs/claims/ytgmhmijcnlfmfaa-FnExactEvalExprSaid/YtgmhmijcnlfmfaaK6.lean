/- Part 6: functions on the way, plain laws. Conditions: as said. -/
import Derived.Deep.RegionWith
import Derived.Test.YtgmhmijcnlfmfaaK1
import Derived.Test.YtgmhmijcnlfmfaaK3
import Derived.Test.YtgmhmijcnlfmfaaK4
import Derived.Test.YtgmhmijcnlfmfaaK5
set_option maxRecDepth 100000
set_option maxHeartbeats 16000000
set_option linter.unusedVariables false
set_option linter.unusedSimpArgs false
open Bool renaming and_eq_true → bf0, not_eq_false' → bg1, not_eq_true' → bf8
open Inhabited renaming default → bh2
open List renaming all_eq_true → bf9, drop → bi7, getD_eq_getElem?_getD → bf2, getElem?_append_left → bh5, getElem?_append_right → bh6, getElem?_eq_getElem → be9, getElem?_eq_some_iff → bf3, getElem_mem → bg4, length_append → bh9, length_cons → bi0, length_take → bi5, map_cons → bh1, mem_append → bg8, mem_cons → bi6, mem_cons_of_mem → bg5, mem_cons_self → bg2, mem_of_getElem? → bf7, mem_singleton → bh3, range → bg0, take → bg7, take_of_length_le → bf6
open Nat renaming add_zero → bi2, lt_of_lt_of_le → bg6, zero_le → bg3
open True renaming intro → bf4

namespace Go.Proofs.Ytgmhmijcnlfmfaa
open Go Go.RowKit
section
variable {l : List J0} {fr : List Int} {at0 d : Int} {s : b6}
end
section
variable {ss : List b6} {k : Nat} {d : Int} {l : List J0} {fr : List Int} {at0 : Int}
end
def gX (nv na : Nat) (L : Int) (x : J0) : Prop :=
 (x.op = 1 ∧ (0 ≤ x.a ∧ x.a ≤ 13) ∧ (0 ≤ x.b ∧ x.b ≤ 255) ∧ x.c = 0 ∧ x.d = 0) ∨
 (x.op = 2 ∧ (0 ≤ x.a ∧ x.a ≤ 13) ∧ (0 ≤ x.b ∧ x.b < nv) ∧ x.c = 0 ∧ x.d = 0) ∨
 (x.op = 3 ∧ (0 ≤ x.a ∧ x.a < nv) ∧ (0 ≤ x.b ∧ x.b ≤ 13) ∧ x.c = 0 ∧ x.d = 0) ∨
 (x.op = 4 ∧ (0 ≤ x.a ∧ x.a ≤ 13) ∧ (0 ≤ x.b ∧ x.b < na) ∧ (0 ≤ x.c ∧ x.c ≤ 13) ∧ x.d = 0) ∨
 (x.op = 5 ∧ (0 ≤ x.a ∧ x.a < na) ∧ (0 ≤ x.b ∧ x.b ≤ 13) ∧ (0 ≤ x.c ∧ x.c ≤ 13) ∧ x.d = 0) ∨
 (x.op = 6 ∧ (0 ≤ x.a ∧ x.a ≤ 13) ∧ (4 ≤ x.b ∧ x.b ≤ 10) ∧ (0 ≤ x.c ∧ x.c ≤ 13) ∧ (0 ≤ x.d ∧ x.d ≤ 13)) ∨
 (x.op = 7 ∧ (0 ≤ x.a ∧ x.a ≤ 13) ∧ (0 ≤ x.b ∧ x.b ≤ 13) ∧ (0 ≤ x.c ∧ x.c ≤ 13) ∧ (0 ≤ x.d ∧ x.d ≤ 13)) ∨
 (x.op = 8 ∧ (0 ≤ x.a ∧ x.a < L) ∧ x.b = 0 ∧ x.c = 0 ∧ x.d = 0) ∨
 (x.op = 9 ∧ (0 ≤ x.a ∧ x.a ≤ 13) ∧ (0 ≤ x.b ∧ x.b < L) ∧ x.c = 0 ∧ x.d = 0) ∨
 (x.op = 10 ∧ (0 ≤ x.a ∧ x.a ≤ 13) ∧ (0 ≤ x.b ∧ x.b < L) ∧ x.c = 0 ∧ x.d = 0) ∨
 (x.op = 11 ∧ (0 ≤ x.a ∧ x.a ≤ 13) ∧ x.b = 0 ∧ x.c = 0 ∧ x.d = 0)
def gL (nv na : Nat) (L : Int) (l : List J0) : Prop := ∀ x ∈ l, gX nv na L x
theorem a81 {nv na : Nat} {L : Int} {a b : List J0} (h : gL nv na L a) (k : gL nv na L b) : gL nv na L (a ++ b) := by
 intro x hx
 rcases bg8.1 hx with hx | hx
 ·exact h x hx
 ·exact k x hx
theorem av6 {nv na : Nat} {L : Int} {a : J0} (h : gX nv na L a) : gL nv na L [a] := by
 intro x hx
 rw [bh3] at hx
 subst hx; exact h
theorem ai0 {nv na n : Nat} {k v : Int} {ks : List b7} (h : l5 nv na (n + 1) ⟨k, v, ks⟩ = true) : (ks.length : Int) = C2 k ∧ 0 ≤ v ∧ v < G2 nv na k ∧ ks.all (l5 nv na n) = true := by
 rw [l5] at h
 simp only [bf0, E1, decide_eq_true_eq] at h
 exact ⟨h.1.1.1.1, h.1.1.1.2, h.1.1.2, h.1.2⟩
def Gd (nv na : Nat) (L : Int) (x y : aP1) : Prop := ∃ ys, y.1 = x.1 ++ ys ∧ gL nv na L ys
theorem Gd.refl {nv na : Nat} {L : Int} (x : aP1) : Gd nv na L x x := ⟨[], by simp, fun x hx => by cases hx⟩
theorem Gd.trans {nv na : Nat} {L : Int} {x y z : aP1} (h : Gd nv na L x y) (k : Gd nv na L y z) : Gd nv na L x z := by
 obtain ⟨a, a1, a2⟩ := h
 obtain ⟨b, b1, b2⟩ := k
 exact ⟨a ++ b, by rw [b1, a1, List.append_assoc], a81 a2 b2⟩
theorem Gd.add {nv na : Nat} {L : Int} {x : aP1} {n : Int} {c : List J0} (h : gL nv na L c) : Gd nv na L x (be7 x n c) := ⟨c, rfl, h⟩
theorem a71 : (0 : Int) ≤ 0 ∧ (0 : Int) ≤ 13 := by decide
theorem bd7 : (0 : Int) ≤ 1 ∧ (1 : Int) ≤ 13 := by decide
theorem g1 {nv na : Nat} {L a b : Int} (h1 : 0 ≤ a ∧ a ≤ 13) (h2 : 0 ≤ b ∧ b ≤ 255) : gL nv na L [⟨1, a, b, 0, 0⟩] := av6 (.inl ⟨rfl, h1, h2, rfl, rfl⟩)
theorem g3 {nv na : Nat} {L a : Int} (h1 : 0 ≤ a ∧ a < nv) : gL nv na L [⟨3, a, 0, 0, 0⟩] := av6 (.inr (.inr (.inl ⟨rfl, h1, a71, rfl, rfl⟩)))
theorem g5 {nv na : Nat} {L a : Int} (h1 : 0 ≤ a ∧ a < na) : gL nv na L [⟨5, a, 1, 0, 0⟩] := av6 (.inr (.inr (.inr (.inr (.inl ⟨rfl, h1, bd7, a71, rfl⟩)))))
theorem g8 {nv na : Nat} {L a : Int} (h1 : 0 ≤ a ∧ a < L) : gX nv na L ⟨8, a, 0, 0, 0⟩ := .inr (.inr (.inr (.inr (.inr (.inr (.inr (.inl ⟨rfl, h1, rfl, rfl, rfl⟩)))))))
theorem g9 {nv na : Nat} {L b : Int} (h1 : 0 ≤ b ∧ b < L) : gX nv na L ⟨9, 0, b, 0, 0⟩ := .inr (.inr (.inr (.inr (.inr (.inr (.inr (.inr (.inl ⟨rfl, a71, h1, rfl, rfl⟩))))))))
theorem g10 {nv na : Nat} {L a b : Int} (h0 : 0 ≤ a ∧ a ≤ 13) (h1 : 0 ≤ b ∧ b < L) : gL nv na L [⟨10, a, b, 0, 0⟩] := av6 (.inr (.inr (.inr (.inr (.inr (.inr (.inr (.inr (.inr (.inl ⟨rfl, h0, h1, rfl, rfl⟩))))))))))
def evK (m : A6) (k n : Int) (vs : List Int) (tr : List (Int × Int)) : Int × List (Int × Int) :=
 if k = 1 then (n, tr) else if k = 2 then (m.vals.getD n.toNat 0, tr)
 else if k = 3 then ((m.arrs.getD n.toNat []).getD ((vs.getD 0 0).tmod 4).toNat 0, tr ++ [(2, n * 4 + (vs.getD 0 0).tmod 4)])
 else if k = 11 then (if vs.getD 0 0 = 0 then vs.getD 2 0 else vs.getD 1 0, tr)
 else (A5 k (vs.getD 0 0) (vs.getD 1 0), tr)
mutual
def I1 (m : A6) : b7 → Int × List (Int × Int)
 | ⟨k, n, ks⟩ => evK m k n (l7 m ks).1 (l7 m ks).2
def l7 (m : A6) : List b7 → List Int × List (Int × Int)
 | [] => ([], [])
 | e :: r => ((I1 m e).1 :: (l7 m r).1, (I1 m e).2 ++ (l7 m r).2)
end
theorem ag1 (m : A6) (e : b7) : I1 m e = evK m e.kind e.value (l7 m e.kids).1 (l7 m e.kids).2 := by cases e; rw [I1]; rfl
theorem ar5 (m : A6) (e : b7) : ∀ l : List b7, l7 m (l ++ [e]) = ((l7 m l).1 ++ [(I1 m e).1], (l7 m l).2 ++ (I1 m e).2)
 | [] => by simp [l7]
 | a :: r => by simp [l7, ar5 m e r]
theorem X8 (m : A6) : ∀ l : List b7, (l7 m l).1.length = l.length
 | [] => rfl
 | a :: r => by simp [l7, X8 m r]
theorem Z1 {m : A6} {l : List b7} {k : Nat} (hk : k < l.length) : l7 m (l.take (k + 1)) = ((l7 m (l.take k)).1 ++ [(I1 m (l.getD k bh2)).1], (l7 m (l.take k)).2 ++ (I1 m (l.getD k bh2)).2) := by
 rw [s8 _ _ hk, ar5, w8 hk]
mutual
theorem aK4 (m : A6) : ∀ e : b7, (I1 m e).2.length ≤ B9 e + 1
 | ⟨k, n, ks⟩ => by
  have h := T3 m ks
  rw [I1, B9]
  unfold evK
  repeat' split
  all_goals simp only [bh9, bi0, List.length_nil]
  all_goals omega
theorem T3 (m : A6) : ∀ l : List b7, (l7 m l).2.length ≤ m6 l
 | [] => by simp [l7]
 | a :: r => by
  have h1 := aK4 m a
  have h2 := T3 m r
  rw [l7, m6]
  simp only [bh9]
  omega
end
def inV (x : Int) : Prop := 0 ≤ x ∧ x ≤ 255
theorem af8 {l : List Int} (h : ∀ x ∈ l, inV x) (i : Nat) : inV (l.getD i 0) := by
 rw [bf2]
 cases hx : l[i]? with
 | none => exact ⟨Int.le_refl _, by decide⟩
 | some x => exact h x (bf7 hx)
theorem a87 {l : List Int} (h : H9 l = true) : ∀ x ∈ l, inV x := fun x hx => by
 have := bf9.1 h x hx
 simpa [inV] using this
theorem bd4 {l : List (List Int)} (h : l.all R4 = true) (i : Nat) : ∀ x ∈ l.getD i [], inV x := by
 rw [bf2]
 cases hx : l[i]? with
 | none => intro x hx; simp at hx
 | some r =>
  have := bf9.1 h r (bf7 hx)
  unfold R4 at this
  rw [bf0] at this
  exact a87 this.2
theorem a55 {m : A6} {nv na : Nat} (hm : mfB nv na m = true) : ∀ (d : Nat) (e : b7), l5 nv na d e = true → inV (I1 m e).1
 | 0, _, h => by simp [l5] at h
 | d + 1, ⟨k, n, ks⟩, h => by
  obtain ⟨f1, f2, f3, f4⟩ := am9 hm
  obtain ⟨s1, s2, s3, s4⟩ := ai0 h
  have hk : ∀ l : List b7, (∀ x ∈ l, l5 nv na d x = true) → ∀ y ∈ (l7 m l).1, inV y := by
   intro l
   induction l with
   | nil => intro _ y hy; simp [l7] at hy
   | cons a r ih =>
    intro hl y hy
    simp only [l7, bi6] at hy
    rcases hy with rfl | hy
    ·exact a55 hm d a (hl a bg2)
    ·exact ih (fun x hx => hl x (bg5 _ hx)) y hy
  have hk := hk ks fun x hx => bf9.1 s4 x hx
  rw [I1]
  unfold evK
  split
  ·rename_i e
   subst e
   refine ⟨s2, ?_⟩
   have : G2 nv na 1 = 256 := rfl
   omega
  split
  ·exact af8 (a87 f3) _
  split
  ·exact af8 (bd4 f4 _) _
  split
  ·split <;> exact af8 hk _
  ·have a := af8 hk 0
   have b := af8 hk 1
   exact aA7 a.1 a.2 b.1 b.2
theorem aH5 (vs ars : List Int) (bd : List b6) (e : b7) : t6.ok Try.prog (L4 100 [pA 0, eA e 3] ([dI vs, dI ars, dT bd] ++ eS e) (bA (l8 vs.length ars.length e))) := G7 ⟨vs, ars, bd⟩ e
section
variable {b : List UInt8} {nv na : Int} {d : Nat} {j : Int}
end
section
variable {b : List UInt8} {nv na : Nat} {j : Int}
end
section
variable {b : List UInt8} {nv na d : Nat} {j : Int}
end
section
variable (b : List UInt8) {j : Int}
end
section
variable {b : List UInt8} {nv na d : Nat} {j : Int}
end
section
variable {b : List UInt8} {p : l9} {j : Int}
end
section
variable {b : List UInt8} {j i at0 n X : Int} {nv na : Nat} {ks : List UInt8} {k : Nat} {x : UInt8}
theorem be4 {v : Int} (hk : k < 4) (h : ptD b (j + k) nv na at0 n (ks.getD k 0) = v) : psD b j nv na at0 n ks (k + 1) = (psD b j nv na at0 n ks k).set k v := by rw [aS3 b j nv na at0 n ks hk, h]
def RnR (b : List UInt8) (j at0 n : Int) (nv na : Nat) (R : Int → Nat → List Int) : Prop := ∀ X k, R X k = psD b (j + 1) nv na at0 n (af9 X) k
variable {R : Int → Nat → List Int}
theorem RnR.len (h : RnR b j at0 n nv na R) (X : Int) (k : Nat) : (R X k).length = 4 := by rw [h X k, aI9]
theorem RnR.start (h : RnR b j at0 n nv na R) (X : Int) : R X 0 = [0, 0, 0, 0] := h X 0
theorem RnR.next (h : RnR b j at0 n nv na R) {X v : Int} (hk : k < 4) (hp : ptD b (j + 1 + k) nv na at0 n ((af9 X).getD k 0) = v) : R X (k + 1) = (R X k).set k v := by rw [h X (k + 1), h X k]; exact be4 hk hp
end
abbrev mA (r : Nat) : AV := .agg [.ref r, .ref (r + 1)]
abbrev mT (r : Nat) : AV := .agg [.ref r, .tref (r + 1)]
abbrev mS (m : A6) : List It := [dI m.vals, dR m.arrs]
abbrev mO (m : A6) : List It := [.row 3 (.ints m.vals), .tree (.rows m.arrs)]
theorem an7 (l : List Int) : t6.ok Try.prog (L4 177 [.ref 0] [dI l] (bA (H9 l))) := by
  refine M7 22 Try.func177 [dI l] [(0, .ref 0)] fun G => ?_; have hl : l.length ≤ 9223372036854775807 := G.len 0 (d := .ints l) (by kernel_rfl); refine wp_seq (O5 G l6 [(0, .ref 0), (2, bA false)] fun G => b5 (wp_seq (wp_seq (O5 G l6 [(0, .ref 0), (2, bA false), (3, iA 0)] fun G => b5 (wp_block ?_))))); refine E9 (κ := Nat) (fun k => k ≤ l.length ∧ (l.take k).all (fun n => decide (0 ≤ n) && decide (n ≤ 255)) = true) (fun k => l.length - k) (fun k => [dI l]) (fun k => [(0, .ref 0), (2, bA false), (3, iA k)]) 0 (⟨bg3 _, rfl⟩) (B4.at G _ _) ?_; clear G; intro k ρ a w hp G; refine wp_seq (wp_seq (n6 G l6 [(7, bA (decide ((k : Int) < l.length)))] fun G => b5 (rcD G (fun h0 q0 => ?_) fun h0 q0 => ?_)))
  · refine wp_exit (E6 (E6 (E5 (b5 (wp_seq (n6 G l6 [(2, bA true)] fun G => b5 (wp_ret ?_))))))); exact B5 true G [0] (aX6 hp.2 (by omega))
  ·
   refine wp_skip (b5 (wp_seq (wp_block (wp_seq ?_)))); cases h1 : (decide (l.getD k (0 : Int) < 0))
   ·
    have q1 := dFf h1; refine J6 G (N0 (fc h1 fz) (us [(6, 10, 0), (1011, 1011, 0)])) [(21, bA (decide (l.getD k 0 > 255)))] (iX k k l.length (iX k k l.length [])) (iK (by omega) (iK (by omega) bf4)) fun G => b5 (rcD G (fun h2 q2 => ?_) fun h2 q2 => ?_)
    · refine wp_skip (I9 (b5 (J6 G l6 [(3, iA ((k : Int) + 1))] [wO ((k : Int) + 1)] (o1 (by omega)) fun G => b5 ?_))); exact rxn G (k + 1) (⟨by omega, aP6 hp.2 (by omega) (by omega) (by omega)⟩) (by omega) [0]
    · refine wp_seq (n6 G l6 [] fun G => b5 (wp_ret (B8 (m7 (m7 (B8 (m7 ?_))))))); exact B5 false G [0] (aP5 (k := k) (by omega) (by omega))
   · have q1 := dTt h1; refine J6 G (N0 (fc h1 fz) (us [(6, 10, 0), (1011, 1011, 0)])) [(21, bA true)] (iX k k l.length []) (iK (by omega) bf4) fun G => b5 (rT G true (by kernel_rfl) (wp_seq (n6 G l6 [] fun G => b5 (wp_ret (B8 (m7 (m7 (B8 (m7 ?_))))))))); exact B5 false G [0] (aP5 (k := k) (by omega) (by omega))
theorem aW7 (vs ars : List Int) (bd : List b6) (xs : List Int) (rs : List (List Int)) : t6.ok Try.prog (L4 111 [pA 0, mA 3] [dI vs, dI ars, dT bd, dI xs, dR rs] (bA (mfB vs.length ars.length ⟨xs, rs⟩))) := by
  refine M7 51 Try.func111 [dI vs, dI ars, dT bd, dI xs, dR rs] [(0, pA 0), (1, .agg [.ref 3, .ref 4])] fun G => ?_; have hl : rs.length ≤ 9223372036854775807 := G.len 4 (d := .rows rs) (by kernel_rfl); refine wp_seq (B6 G l6 [0, 1, 2, 3, 4, 5, 13] [dI vs, dI ars, dT bd, dI xs, dR rs, .box (pL 0), .box [.ref 3, .ref 4]] [(2, .ptr 5 0), (3, .ptr 6 0), (4, bA false)] fun G => b5 (wp_seq (wp_seq ?_))); cases h0 : ((xs.length : Int) != (vs.length : Int))
  ·
   have q0 := bne_eq_false_iff_eq.1 h0; cases h1 : ((rs.length : Int) != (ars.length : Int))
   ·
    have q1 := bne_eq_false_iff_eq.1 h1; refine B6 G (E3 (A1 19 [3] (an7 xs) E2) (fc h0 (fc h1 fz)) (us [(8, 14, 0), (1015, 1015, 0), (17, 20, 1), (1021, 1021, 1)])) [0, 1, 2, 3, 4, 6] [dI vs, dI ars, dT bd, dI xs, dR rs, .box [.ref 3, .ref 4]] [(3, .ptr 5 0), (4, bA false), (27, .v (.bool !H9 xs))] fun G => b5 ?_; cases h2 : (!H9 xs)
    ·
     have q2 : (H9 xs) = true := (Eq.mp (bg1 _) h2); refine rF G _ h2 (wp_skip (b5 (wp_seq (wp_seq (O5 G l6 [(3, .ptr 5 0), (4, bA false), (5, iA 0)] fun G => b5 (wp_block ?_)))))); refine E9 (κ := Nat) (fun k => k ≤ rs.length ∧ (rs.take k).all R4 = true) (fun k => rs.length - k) (fun k => [dI vs, dI ars, dT bd, dI xs, dR rs, .box [.ref 3, .ref 4]]) (fun k => [(3, .ptr 5 0), (4, bA false), (5, iA k)]) 0 (by simp [h0, h1, h2, q2]) (B4.at G _ _) ?_; clear G; intro k ρ a w hp G; refine wp_seq (wp_seq (n6 G l6 [(32, bA (decide ((k : Int) < rs.length)))] fun G => b5 (rcD G (fun h3 q3 => ?_) fun h3 q3 => ?_)))
     · refine wp_exit (E6 (E6 (E5 (b5 (wp_seq (B6 G l6 (rg 5) [dI vs, dI ars, dT bd, dI xs, dR rs] [(4, bA true)] fun G => b5 (wp_ret ?_))))))); exact B5 true G (rg 5) (bb1 (by dsimp only; omega) (by dsimp only; omega) (by with_reducible assumption) (a36 (l := rs) hp.2 (by omega)))
     ·
      refine wp_skip (b5 (wp_seq (wp_block (wp_seq ?_)))); cases h4 : (((rs.getD k []).length : Int) != 4)
      ·
       have q4 := bne_eq_false_iff_eq.1 h4; refine J6 G (E3 (A1 13 [102] (an7 (rs.getD k [])) E2) (fc h4 fz) (us [(8, 14, 0), (1015, 1015, 0)])) [(50, .v (.bool !H9 (rs.getD k [])))] (iX k k rs.length (iX k k rs.length [])) (iK (by omega) (iK (by omega) bf4)) fun G => b5 ?_; cases h5 : (!H9 (rs.getD k []))
       · have q5 : (H9 (rs.getD k [])) = true := (Eq.mp (bg1 _) h5); refine rF G _ h5 (wp_skip (I9 (b5 (J6 G l6 [(5, iA ((k : Int) + 1))] [wO ((k : Int) + 1)] (o1 (by omega)) fun G => b5 ?_)))); exact rxn G (k + 1) (⟨by omega, aX2 hp.2 (by omega) (by omega) (by with_reducible assumption)⟩) (by omega) (rg 6)
       · have q5 : (H9 (rs.getD k [])) = false := (Eq.mp (bf8 _) h5); refine rT G _ h5 (wp_seq (n6 G l6 [] fun G => b5 (wp_ret (B8 (m7 (m7 (B8 (m7 ?_)))))))); exact B5 false G (rg 5) (a51 (aX1 (l := rs) (k := k) (by omega) (.inr (by with_reducible assumption))))
      · have q4 := bne_iff_ne.1 h4; refine J6 G (N0 (fc h4 fz) (us [(8, 14, 0), (1015, 1015, 0)])) [(50, bA true)] (iX k k rs.length []) (iK (by omega) bf4) fun G => b5 (rT G true (by kernel_rfl) (wp_seq (n6 G l6 [] fun G => b5 (wp_ret (B8 (m7 (m7 (B8 (m7 ?_))))))))); exact B5 false G (rg 5) (a51 (aX1 (l := rs) (k := k) (by omega) (.inl (by omega))))
    · have q2 : (H9 xs) = false := (Eq.mp (bf8 _) h2); refine rT G _ h2 (wp_seq (n6 G l6 [] fun G => b5 (wp_ret (m7 ?_)))); exact B5 false G (rg 5) (a52 (by with_reducible assumption))
   · have q1 := bne_iff_ne.1 h1; refine B6 G (N0 (fc h0 (fc h1 fz)) (us [(8, 14, 0), (1015, 1015, 0), (17, 20, 1), (1021, 1021, 1)])) [0, 1, 2, 3, 4, 6] [dI vs, dI ars, dT bd, dI xs, dR rs, .box [.ref 3, .ref 4]] [(3, .ptr 5 0), (4, bA false), (27, bA true)] fun G => b5 (rT G true (by kernel_rfl) (wp_seq (n6 G l6 [] fun G => b5 (wp_ret (m7 ?_))))); exact B5 false G (rg 5) (a53 (by dsimp only; omega))
  · have q0 := bne_iff_ne.1 h0; refine B6 G (N0 (fc h0 (fc (b := true) rfl fz)) (us [(8, 14, 0), (1015, 1015, 0), (17, 20, 1), (1021, 1021, 1)])) [0, 1, 2, 3, 4, 6] [dI vs, dI ars, dT bd, dI xs, dR rs, .box [.ref 3, .ref 4]] [(3, .ptr 5 0), (4, bA false), (27, bA true)] fun G => b5 (rT G true (by kernel_rfl) (wp_seq (n6 G l6 [] fun G => b5 (wp_ret (m7 ?_))))); exact B5 false G (rg 5) (a54 (by dsimp only; omega))
section
variable {vs ars : List Int} {l : Int} {s : b6} {pc pd : Int}
end
section
variable (vs ars : List Int) (bd : List b6)
theorem aO2 : t6.ok Try.prog (L4 16 [pA 0] [dI vs, dI ars, dT bd] (bA (K7 ⟨vs, ars, bd⟩))) := aj0 ⟨vs, ars, bd⟩
end
abbrev nvB (n : Int) : Bool := !(decide (0 ≤ n) && decide (n ≤ 255))
theorem a34 (n : Int) : t6.ok Try.prog (L4 202 [iA n] [] (bA (nvB n))) := by
 refine M7 6 Try.func202 [] [(0, iA n)] fun G => ?_; refine wp_seq (n6 G l6 [(2, bA false)] fun G => b5 (wp_seq (n6 G (Q6 1 [] (A3 n 0 255)) [(2, .v (.bool !(decide (0 ≤ n) && decide (n ≤ 255))))] fun G => b5 (wp_ret ?_)))); exact rxr G []
theorem bb7 (l : List Int) : t6.ok Try.prog (L4 231 [.ref 0, .fn 202 []] [dI l] (iA (V8 nvB l))) := by
  refine M7 19 Try.func231 [dI l] [(0, .ref 0), (1, .fn 202 [])] fun G => ?_; have hl : l.length ≤ 9223372036854775807 := G.len 0 (d := .ints l) (by kernel_rfl); refine wp_seq (O5 G l6 [(0, .ref 0), (1, .fn 202 []), (4, iA 0)] fun G => b5 (wp_seq (wp_seq (O5 G l6 [(0, .ref 0), (1, .fn 202 []), (4, iA 0), (7, iA (l.length : Int)), (8, iA 0)] fun G => b5 (wp_block ?_))))); refine E9 (κ := Nat) (fun k => k ≤ l.length ∧ (l.take k).any nvB = false) (fun k => l.length - k) (fun k => [dI l]) (fun k => [(0, .ref 0), (1, .fn 202 []), (4, iA 0), (7, iA (l.length : Int)), (8, iA k)]) 0 (⟨bg3 _, rfl⟩) (B4.at G _ _) ?_; clear G; intro k ρ a w hp G; refine wp_seq (n6 G l6 [(9, bA (decide ((k : Int) < l.length)))] fun G => b5 (wp_seq (rcD G (fun h0 q0 => ?_) fun h0 q0 => ?_)))
  · refine wp_exit (E6 (E6 (E5 (b5 (wp_seq (n6 G l6 [(4, iA (-1))] fun G => b5 (wp_ret ?_))))))); exact Y6 (-1) G [0] (an1 (aD0 hp.2 (by omega)))
  ·
   refine wp_skip (b5 (wp_seq (wp_block (wp_seq (n6 G l6 [(5, iA k)] fun G => b5 (wp_seq (J6 G (Q6 5 [] (a34 (l.getD k 0))) [(16, bA (nvB (l.getD k 0)))] (iX k k l.length []) (iK (by omega) bf4) fun G => b5 (rcB G (fun h1 => ?_) fun h1 => ?_))))))))
   · refine wp_skip (I9 (b5 (J6 G l6 [(8, iA ((k : Int) + 1))] [wO ((k : Int) + 1)] (o1 (by omega)) fun G => b5 ?_))); exact rxn G (k + 1) (⟨by omega, aC9 (z := 0) hp.2 (by omega) (by assumption)⟩) (by omega) [0]
   · refine wp_seq (n6 G l6 [(4, iA k)] fun G => b5 (wp_ret (B8 (m7 (m7 (B8 (m7 ?_))))))); exact Y6 ((k : Int)) G [0] (ar1 (z := 0) (by omega) hp.2 (by assumption))
theorem bb9 (l : List Int) : t6.ok Try.prog (L4 189 [.ref 0, .fn 202 []] [dI l] (bA (l.any nvB))) := by
 refine M7 9 Try.func189 [dI l] [(0, .ref 0), (1, .fn 202 [])] fun G => ?_; refine wp_seq (n6 G l6 [(4, bA false)] fun G => b5 (wp_seq (n6 G (Q6 2 [0] (bb7 l)) [(4, bA (decide (V8 nvB l ≥ 0)))] fun G => b5 (wp_ret ?_)))); exact B5 (decide (V8 nvB l ≥ 0)) G [0] ((ar2 _ _).symm)
theorem aP7 (l : List Int) : (!l.any nvB) = H9 l := by
 unfold H9
 rw [List.all_eq_not_any_not]
theorem ai3 (l : List Int) : t6.ok Try.prog (L4 154 [.ref 0] [dI l] (bA (H9 l))) := by
 refine M7 6 Try.func154 [dI l] [(0, .ref 0)] fun G => ?_; refine wp_seq (n6 G l6 [(2, bA false)] fun G => b5 (wp_seq (n6 G (Q6 1 [0] (bb9 l)) [(2, .v (.bool !l.any nvB))] fun G => b5 (wp_ret ?_)))); exact rxv (.v (.bool !l.any nvB)) G [0] (by have e1 : (H9 l : Bool) = (!l.any nvB) := ((aP7 l).symm); (first | rw [e1] | simp only [e1]) <;> rfl)
abbrev naB (a : List Int) : Bool := !(R4 a)
theorem be6 {a : List Int} (h : ¬ (a.length : Int) = 4) : naB a = true := by unfold naB R4; rw [decide_eq_false (p := a.length = 4) (by omega)]; rfl
theorem be5 {a : List Int} (h : (a.length : Int) = 4) : naB a = !(H9 a) := by unfold naB R4; rw [decide_eq_true (p := a.length = 4) (by omega)]; rfl
theorem a84 (l : List Int) : t6.ok Try.prog (L4 180 [.ref 0] [dI l] (bA (naB l))) := by
 refine M7 11 Try.func180 [dI l] [(0, .ref 0)] fun G => ?_; refine wp_seq (n6 G l6 [(2, bA false)] fun G => b5 (wp_seq ?_)); cases h0 : ((l.length : Int) != 4)
 ·have q0 := bne_eq_false_iff_eq.1 h0; refine n6 G (E3 (A1 5 [0] (ai3 l) E2) (fc h0 fz) [(4, 0), (5, 0), (6, 0), (1007, 0)]) [(2, .v (.bool !H9 l))] fun G => b5 (wp_ret ?_); exact rxv (.v (.bool !H9 l)) G [0] (by have e1 : (naB l : Bool) = (!H9 l) := (be5 (by omega)); (first | rw [e1] | simp only [e1]) <;> rfl)
 ·have q0 := bne_iff_ne.1 h0; refine n6 G (N0 (fc h0 fz) [(4, 0), (5, 0), (6, 0), (1007, 0)]) [(2, bA true)] fun G => b5 (wp_ret ?_); exact B5 true G [0] (be6 (by omega))
theorem bb8 (l : List (List Int)) : t6.ok Try.prog (L4 217 [.ref 0, .fn 180 []] [dR l] (iA (V8 naB l))) := by
  refine M7 19 Try.func217 [dR l] [(0, .ref 0), (1, .fn 180 [])] fun G => ?_; have hl : l.length ≤ 9223372036854775807 := G.len 0 (d := .rows l) (by kernel_rfl); refine wp_seq (O5 G l6 [(0, .ref 0), (1, .fn 180 []), (4, iA 0)] fun G => b5 (wp_seq (wp_seq (O5 G l6 [(0, .ref 0), (1, .fn 180 []), (4, iA 0), (7, iA (l.length : Int)), (8, iA 0)] fun G => b5 (wp_block ?_))))); refine E9 (κ := Nat) (fun k => k ≤ l.length ∧ (l.take k).any naB = false) (fun k => l.length - k) (fun k => [dR l]) (fun k => [(0, .ref 0), (1, .fn 180 []), (4, iA 0), (7, iA (l.length : Int)), (8, iA k)]) 0 (⟨bg3 _, rfl⟩) (B4.at G _ _) ?_; clear G; intro k ρ a w hp G; refine wp_seq (n6 G l6 [(9, bA (decide ((k : Int) < l.length)))] fun G => b5 (wp_seq (rcD G (fun h0 q0 => ?_) fun h0 q0 => ?_)))
  · refine wp_exit (E6 (E6 (E5 (b5 (wp_seq (n6 G l6 [(4, iA (-1))] fun G => b5 (wp_ret ?_))))))); exact Y6 (-1) G [0] (an1 (aD0 hp.2 (by omega)))
  ·
   refine wp_skip (b5 (wp_seq (wp_block (wp_seq (n6 G l6 [(5, iA k)] fun G => b5 (wp_seq (J6 G (Q6 5 [33] (a84 (l.getD k []))) [(16, bA (naB (l.getD k [])))] (iX k k l.length []) (iK (by omega) bf4) fun G => b5 (rcB G (fun h1 => ?_) fun h1 => ?_))))))))
   · refine wp_skip (I9 (b5 (J6 G l6 [(8, iA ((k : Int) + 1))] [wO ((k : Int) + 1)] (o1 (by omega)) fun G => b5 ?_))); exact rxn G (k + 1) (⟨by omega, aC9 (z := []) hp.2 (by omega) (by assumption)⟩) (by omega) [0]
   · refine wp_seq (n6 G l6 [(4, iA k)] fun G => b5 (wp_ret (B8 (m7 (m7 (B8 (m7 ?_))))))); exact Y6 ((k : Int)) G [0] (ar1 (z := []) (by omega) hp.2 (by assumption))
theorem bc0 (l : List (List Int)) : t6.ok Try.prog (L4 179 [.ref 0, .fn 180 []] [dR l] (bA (l.any naB))) := by
 refine M7 9 Try.func179 [dR l] [(0, .ref 0), (1, .fn 180 [])] fun G => ?_; refine wp_seq (n6 G l6 [(4, bA false)] fun G => b5 (wp_seq (n6 G (Q6 2 [0] (bb8 l)) [(4, bA (decide (V8 naB l ≥ 0)))] fun G => b5 (wp_ret ?_)))); exact B5 (decide (V8 naB l ≥ 0)) G [0] ((ar2 _ _).symm)
theorem a35 (l : List (List Int)) : (!l.any naB) = l.all R4 := by
 rw [List.all_eq_not_any_not]
theorem ba9 {nv na : Nat} {m : A6} (h1 : (m.vals.length : Int) = nv) (h2 : (m.arrs.length : Int) = na) (h3 : H9 m.vals = true) : (!m.arrs.any naB) = mfB nv na m := by
 rw [bb0 h1 h2 h3]; exact a35 _
theorem aH7 (vs ars xs : List Int) (rs : List (List Int)) : t6.ok Try.prog (L4 116 [.ref 0, .ref 1, mA 2] [dI vs, dI ars, dI xs, dR rs] (bA (mfB vs.length ars.length ⟨xs, rs⟩))) := by
  refine M7 31 Try.func116 [dI vs, dI ars, dI xs, dR rs] [(0, .ref 0), (1, .ref 1), (2, .agg [.ref 2, .ref 3])] fun G => ?_; refine wp_seq (B6 G l6 (rg 5) [dI vs, dI ars, dI xs, dR rs, .box [.ref 2, .ref 3]] [(0, .ref 0), (1, .ref 1), (5, .ptr 4 0), (6, bA false)] fun G => b5 (wp_seq (wp_seq ?_))); cases h0 : ((xs.length : Int) != (vs.length : Int))
  ·
   have q0 := bne_eq_false_iff_eq.1 h0; cases h1 : ((rs.length : Int) != (ars.length : Int))
   ·
    have q1 := bne_eq_false_iff_eq.1 h1; refine n6 G (E3 (A1 17 [2] (ai3 xs) E2) (fc h0 (fc h1 fz)) (us [(7, 12, 0), (1013, 1013, 0), (15, 18, 1), (1019, 1019, 1)])) [(26, .v (.bool !H9 xs))] fun G => b5 ?_; cases h2 : (!H9 xs)
    · have q2 : (H9 xs) = true := (Eq.mp (bg1 _) h2); refine rF G _ h2 (wp_skip (b5 (wp_seq (B6 G (Q6 2 [3] (bc0 rs)) (rg 4) [dI vs, dI ars, dI xs, dR rs] [(6, .v (.bool !rs.any naB))] fun G => b5 (wp_ret ?_))))); exact rxv (.v (.bool !rs.any naB)) G (rg 4) (by have e1 : (mfB vs.length ars.length (A6.mk xs rs) : Bool) = (!rs.any naB) := ((ba9 (m := ⟨xs, rs⟩) (by dsimp only; omega) (by dsimp only; omega) (by with_reducible assumption)).symm); (first | rw [e1] | simp only [e1]) <;> rfl)
    · have q2 : (H9 xs) = false := (Eq.mp (bf8 _) h2); refine rT G _ h2 (wp_seq (n6 G l6 [] fun G => b5 (wp_ret (m7 ?_)))); exact B5 false G (rg 4) (a52 (by with_reducible assumption))
   · have q1 := bne_iff_ne.1 h1; refine n6 G (N0 (fc h0 (fc h1 fz)) (us [(7, 12, 0), (1013, 1013, 0), (15, 18, 1), (1019, 1019, 1)])) [(26, bA true)] fun G => b5 (rT G true (by kernel_rfl) (wp_seq (n6 G l6 [] fun G => b5 (wp_ret (m7 ?_))))); exact B5 false G (rg 4) (a53 (by dsimp only; omega))
  · have q0 := bne_iff_ne.1 h0; refine n6 G (N0 (fc h0 (fc (b := true) rfl fz)) (us [(7, 12, 0), (1013, 1013, 0), (15, 18, 1), (1019, 1019, 1)])) [(26, bA true)] fun G => b5 (rT G true (by kernel_rfl) (wp_seq (n6 G l6 [] fun G => b5 (wp_ret (m7 ?_))))); exact B5 false G (rg 4) (a54 (by dsimp only; omega))
theorem ao0 (vs ars : List Int) (bd : List b6) (xs : List Int) (rs : List (List Int)) : t6.ok Try.prog (L4 91 [pA 0, mA 3] [dI vs, dI ars, dT bd, dI xs, dR rs] (bA (K7 ⟨vs, ars, bd⟩ && mfB vs.length ars.length ⟨xs, rs⟩))) := by
 have hv := aO2 (vs := vs) (ars := ars) (bd := bd); refine M7 15 Try.func91 [dI vs, dI ars, dT bd, dI xs, dR rs] [(0, pA 0), (1, .agg [.ref 3, .ref 4])] fun G => ?_; refine wp_seq (B6 G l6 [0, 1, 2, 3, 4, 5, 13] [dI vs, dI ars, dT bd, dI xs, dR rs, .box (pL 0), .box [.ref 3, .ref 4]] [(2, .ptr 5 0), (3, .ptr 6 0), (4, bA false)] fun G => b5 (wp_seq ?_)); cases h0 : (K7 (l9.mk vs ars bd))
 ·refine B6 G (E3 (A1 1 [0, 1, 2] hv E2) (fc h0 fz) (us [(3, 8, 0), (1009, 1009, 0)])) (rg 5) [dI vs, dI ars, dT bd, dI xs, dR rs] [(4, bA false)] fun G => b5 (wp_ret ?_); exact rxr G (rg 5)
 ·refine B6 G (E3 (A1 1 [0, 1, 2] hv (A1 8 [0, 1, 3, 4] (aH7 vs ars xs rs) E2)) (fc h0 fz) (us [(3, 8, 0), (1009, 1009, 0)])) (rg 5) [dI vs, dI ars, dT bd, dI xs, dR rs] [(4, bA (mfB vs.length ars.length (A6.mk xs rs)))] fun G => b5 (wp_ret ?_); exact rxr G (rg 5)
theorem m0.sel {ι : Type} {φ ψ : Nat → Prop} {w0 w : World} {F : ι → Rs} {ρ : Nat → Value} {S S1 : List It} {js : List Nat} (M : m0 φ ψ w0 w (n7 F ρ (t4 S))) (hn : js.Nodup) (hl : js.length = S1.length) (hS : js.map (t4 S) = S1.map (It.ren (nth js))) : m0 φ ψ w0 w (n7 F (fun i => ρ (nth js i)) (t4 S1)) := by
 refine M.map (fun k : ι ⊕ Nat => (match k with | .inl i => some (.inl i) | .inr i => if i < js.length then some (.inr (nth js i)) else none : Option (ι ⊕ Nat))) ?_ ?_
 ·intro k k' x h1 h2
  match k, k' with
  | .inl i, .inl i' => simp at h1 h2; rw [← h1] at h2; simpa using h2.symm
  | .inl i, .inr j => simp only at h1 h2; cases h1; split at h2 <;> simp at h2
  | .inr j, .inl i => simp only at h1 h2; cases h2; split at h1 <;> simp at h1
  | .inr j, .inr j' =>
   simp at h1 h2
   obtain ⟨f1, f2⟩ := h1
   obtain ⟨g1, g2⟩ := h2
   rw [← f2] at g2
   have hj := Sum.inr.inj g2
   have e1 := be9 f1
   have e2 := be9 g1
   rw [F7 e2, F7 e1] at hj
   have := (List.getElem?_inj f1 hn).1 (e1.trans (by rw [← hj]; exact e2.symm))
   rw [this]
 ·intro k
  match k with
  | .inl i => exact .inl ⟨_, rfl, rfl⟩
  | .inr i =>
   by_cases hlt : i < js.length
   ·refine .inl ⟨.inr (nth js i), by simp [hlt], ?_⟩
    have h1 := congrArg (·[i]?) hS
    have hlt' : i < S1.length := by omega
    simp only [List.getElem?_map, be9 hlt, be9 hlt', Option.map_some, Option.some.injEq] at h1
    simp only [n7]
    rw [ab2 hlt', F7 (be9 hlt), h1, ← It.res_ren, F7 (be9 hlt)]
   ·refine .inr ?_
    simp only [n7]
    rw [v6 (by omega)]
    rfl
theorem t6.nilArg {P : Program} {f : FuncId} {args args0 : List AV} {pre post post' : List It} {res res' : AV} {e : TypeId} {d : D} (hc : t6.ok P ⟨f, args0, pre ++ [.row e d], post, res⟩) (k : Nat) (js : List Nat) (hd : D.nil k = some d) (ha : args = AV.denL false pre.length args0) (hid : (T0 pre.length (AV.idsL args) && pre.all (fun x => T0 pre.length x.ids) && nodupB js && natEq js.length post'.length && a46 pre.length js) = true) (hS : js.map (t4 post) = post'.map (It.ren (nth js))) (hr : res = res'.ren (nth js)) : t6.ok P ⟨f, args, pre, post', res'⟩ := by
 intro ι φ ψ w0 w F ρ M
 simp only [bf0, natEq, beq_iff_eq] at hid
 obtain ⟨⟨⟨⟨h1, h2⟩, h3⟩, h4⟩, h5⟩ := hid
 have hz := D.nil_len hd
 have hvals := (AV.vals_den (ρ := ρ) (t := false) (n := pre.length) (z := .slice none 0 0) (by simp) args0 (by rw [← ha]; exact G6 h1)).1
 have hlt : ∀ j, j < pre.length → t4 (pre ++ [.row e d]) j = t4 pre j := fun j hj => by simp [t4, bf2, bh5 hj]
 have hids : ∀ j, ∀ i ∈ (t4 pre j).ids, i < pre.length := fun j => by
  by_cases hj : j < pre.length
  ·rw [ab2 hj]
   exact G6 (bf9.1 h2 _ (bg4 hj))
  ·rw [v6 (by omega)]; intro i hi; cases hi
 have M1 : m0 φ ψ w0 w (n7 F (fun j => if j = pre.length then .slice none 0 0 else ρ j) (t4 (pre ++ [.row e d]))) := by
  refine m0.put M (.inr pre.length) (fun k hk => ?_) (v9.refl _ _) ?_ ?_
  ·cases k with
   | inl i => rfl
   | inr j =>
    simp only [n7]
    rcases Nat.lt_trichotomy j pre.length with h | h | h
    ·rw [hlt j h]
     exact It.res_congr _ (fun i hi => if_neg (by have := hids j i hi; omega)) (.inr (.inr (if_neg (by omega))))
    ·exact absurd (by rw [h]) hk
    ·rw [v6 (show (pre ++ [It.row e d]).length ≤ j by simp; omega), v6 (show pre.length ≤ j by omega)]; rfl
  ·have : t4 (pre ++ [.row e d]) pre.length = .row e d := by simp [t4, bf2]
   simp only [n7, this, It.res, if_true]
   refine ⟨fun xs => RW.nice d xs, [], ?_, RW.nil hz _⟩
   rw [hz]; exact World.ownsRow_nil _ _ _ _
  ·intro g hg
   have : t4 (pre ++ [.row e d]) pre.length = .row e d := by simp [t4, bf2]
   simp only [n7, this, It.res, if_true] at hg
   cases hg
 have h := hc ι φ ψ w0 w F _ M1
 simp only [hvals, ← ha] at h
 refine h.mono ?_
 rintro x w' ⟨ρ2, g1, rfl, M2⟩
 have hk : ∀ i, i < pre.length → nth js i = i := fun i hi => by
  have := bf9.1 h5 i (List.mem_range.2 hi)
  simp only [bf0, natEq, beq_iff_eq] at this
  exact this.1
 refine ⟨fun i => ρ2 (nth js i), fun i hi => ?_, ?_, M2.sel (ab1 h3) h4 hS⟩
 ·have hi : i < pre.length := hi
  simp only [hk i hi]
  rw [g1 i (by simp; omega), if_neg (by omega)]
 ·show Ending.returned (res.val ρ2) = .returned (res'.val _)
  rw [hr, AV.val_ren]
theorem a32 (k x y : Int) (r0 : inV x) (r1 : inV y) : t6.ok Try.prog (L4 184 [iA k, iA x, iA y] [] (iA (A5 k x y))) :=
 N1 fun φ w ρ h => (aE3 k x y w r0.1 r0.2 r1.1 r1.2).mono fun e w' ⟨h1, h2⟩ => ⟨h1, h2 ▸ Below.refl _ _⟩
theorem aN5 (k x y : Int) (r0 : inV x) (r1 : inV y) : t6.ok Try.prog (L4 156 [iA k, iA x, iA y] [] (iA (A5 k x y))) :=
 N1 fun φ w ρ h => (av4 k x y w r0.1 r0.2 r1.1 r1.2).mono fun e w' ⟨h1, h2⟩ => ⟨h1, h2 ▸ Below.refl _ _⟩
theorem tmV {x : Int} (h : inV x) : 0 ≤ x.tmod 4 ∧ x.tmod 4 < 4 := by
 have h1 : 0 ≤ x ∧ x ≤ 255 := h
 rw [Int.tmod_eq_emod_of_nonneg (by omega)]; omega
theorem aC1 (x y : Int) (r0 : 0 ≤ x ∧ x ≤ 1000) (r1 : inV y) : t6.ok Try.prog (L4 183 [iA x, iA y] [] (iA (x * 4 + y.tmod 4))) := by
 refine M7 10 Try.func183 [] [(0, iA x), (1, iA y)] fun G => ?_; have htm := tmV r1; have hyy : 0 ≤ y ∧ y ≤ 255 := r1; refine wp_seq (n6 G l6 [(4, iA 0)] fun G => b5 (wp_seq (J6 G l6 [(4, iA (x * 4 + y.tmod 4))] [wO (x * 4), (4 : Int) ≠ 0, wO (x * 4 + y.tmod (4 : Int))] ⟨oW (by omega), (by omega), (oW (by omega)), bf4⟩ fun G => b5 (wp_ret ?_)))); exact rxr G []
theorem aO5 (x y : Int) (r0 : 0 ≤ x ∧ x ≤ 1000) (r1 : inV y) : t6.ok Try.prog (L4 155 [iA x, iA y] [] (iA (x * 4 + y.tmod 4))) := by
 refine M7 10 Try.func155 [] [(0, iA x), (1, iA y)] fun G => ?_; have htm := tmV r1; have hyy : 0 ≤ y ∧ y ≤ 255 := r1; refine wp_seq (n6 G l6 [(4, iA 0)] fun G => b5 (wp_seq (J6 G l6 [(4, iA (x * 4 + y.tmod 4))] [wO (x * 4), (4 : Int) ≠ 0, wO (x * 4 + y.tmod (4 : Int))] ⟨oW (by omega), (by omega), (oW (by omega)), bf4⟩ fun G => b5 (wp_ret ?_)))); exact rxr G []
theorem a33 (vs : List Int) (rs : List (List Int)) (l : List (Int × Int)) (x y : Int) (r0 : l.length ≤ 5000000) : t6.ok Try.prog ⟨164, [.ptr 0 0, iA x, iA y], [.box [.ref 1, .ref 2, .ref 3], dI vs, dR rs, .row 54 (.events l)], [.box [.ref 1, .ref 2, .ref 4], dI vs, dR rs, .dead, .row 54 (.events (l ++ [(x, y)]))], .tup []⟩ := by
 refine M7 18 Try.func164 [.box (pL 1), dI vs, dR rs, .row 54 (D.events l)] [(0, .ptr 0 0), (1, iA x), (2, iA y)] fun G => ?_; refine rA1 G l6 [0, 1, 2, 3, 76] [.box [.ref 1, .ref 2, .ref 4], dI vs, dR rs, .dead, .row 54 (D.events (l ++ ([(x, y)] ++ [])))] [] (aP (l.length + ([(x, y)] ++ []).length) 16 []) (aK (by simp; omega) bf4) fun G => ?_; exact bd1 G (rg 5)
section
variable {nv na d : Nat} {m : A6} {e : b7}
theorem W7 (hs : l5 nv na (d + 1) e = true) : (e.kids.length : Int) = C2 e.kind ∧ 0 ≤ e.value ∧ e.value < G2 nv na e.kind ∧ e.kids.all (l5 nv na d) = true := by
 obtain ⟨k, v, ks⟩ := e
 exact ai0 hs
theorem a62 (hs : l5 nv na (d + 1) e = true) (h : e.kind = 1) : e.kids.length = 0 := by
 have := W7 hs
 rw [h] at this
 have h2 : C2 1 = 0 := rfl
 omega
theorem a61 (hs : l5 nv na (d + 1) e = true) (h : e.kind = 2) : e.kids.length = 0 ∧ 0 ≤ e.value ∧ e.value < nv := by
 have := W7 hs
 rw [h] at this
 have h2 : C2 2 = 0 := rfl
 have h3 : G2 nv na 2 = nv := rfl
 omega
theorem a89 (hs : l5 nv na (d + 1) e = true) (h : e.kind = 3) : e.kids.length = 1 ∧ 0 ≤ e.value ∧ e.value < na := by
 have := W7 hs
 rw [h] at this
 have h2 : C2 3 = 1 := rfl
 have h3 : G2 nv na 3 = na := rfl
 omega
theorem a41 (hs : l5 nv na (d + 1) e = true) (h : e.kind = 11) : e.kids.length = 3 := by
 have := W7 hs
 rw [h] at this
 have h2 : C2 11 = 3 := rfl
 omega
theorem a40 (hs : l5 nv na (d + 1) e = true) (h1 : ¬ e.kind = 1) (h2 : ¬ e.kind = 2) (h3 : ¬ e.kind = 3) (h4 : ¬ e.kind = 11) : e.kids.length = 2 := by
 have := (W7 hs).1
 unfold C2 at this
 rw [if_neg (by omega)] at this
 rw [if_neg h3] at this
 split at this <;> first | omega | (split at this <;> omega)
theorem aV8 (hm : mfB nv na m = true) (hs : l5 nv na (d + 1) e = true) : ∀ x ∈ (l7 m e.kids).1, inV x := by
 have h := (W7 hs).2.2.2
 have key : ∀ l : List b7, l.all (l5 nv na d) = true → ∀ y ∈ (l7 m l).1, inV y := by
  intro l
  induction l with
  | nil => intro _ y hy; simp [l7] at hy
  | cons a r ih =>
   intro hl y hy
   rw [List.all_cons, bf0] at hl
   simp only [l7, bi6] at hy
   rcases hy with rfl | hy
   ·exact a55 hm d a hl.1
   ·exact ih hl.2 y hy
 exact key _ h
end
theorem aQ1 {ks : List b7} {k : Nat} (hk : k < ks.length) : m6 (ks.take k) + B9 (ks.getD k bh2) + 1 ≤ m6 ks := by
 have h1 : m6 ks = m6 (ks.take k) + m6 (ks.drop k) := by
  rw [← M5, List.take_append_drop]
 rw [List.drop_eq_getElem_cons hk] at h1
 rw [w8 hk, h1]
 simp only [m6]; omega
section
variable {m : A6} {e : b7}
theorem a26 (h : e.kind = 1) : I1 m e = (e.value, (l7 m e.kids).2) := by rw [ag1, evK, if_pos h]
theorem a25 (h : e.kind = 2) : I1 m e = (m.vals.getD e.value.toNat 0, (l7 m e.kids).2) := by rw [ag1, evK, if_neg (by omega), if_pos h]
theorem a24 (h : e.kind = 3) : I1 m e = ((m.arrs.getD e.value.toNat []).getD (((l7 m e.kids).1.getD 0 0).tmod 4).toNat 0, (l7 m e.kids).2 ++ [(2, e.value * 4 + ((l7 m e.kids).1.getD 0 0).tmod 4)]) := by rw [ag1, evK, if_neg (by omega), if_neg (by omega), if_pos h]
theorem av7 (h : e.kind = 11) (h2 : ¬ (l7 m e.kids).1.getD 0 0 = 0) : I1 m e = ((l7 m e.kids).1.getD 1 0, (l7 m e.kids).2) := by rw [ag1, evK, if_neg (by omega), if_neg (by omega), if_neg (by omega), if_pos h, if_neg h2]
theorem av8 (h : e.kind = 11) (h2 : (l7 m e.kids).1.getD 0 0 = 0) : I1 m e = ((l7 m e.kids).1.getD 2 0, (l7 m e.kids).2) := by rw [ag1, evK, if_neg (by omega), if_neg (by omega), if_neg (by omega), if_pos h, if_pos h2]
theorem aK3 (h1 : ¬ e.kind = 1) (h2 : ¬ e.kind = 2) (h3 : ¬ e.kind = 3) (h4 : ¬ e.kind = 11) : I1 m e = (A5 e.kind ((l7 m e.kids).1.getD 0 0) ((l7 m e.kids).1.getD 1 0), (l7 m e.kids).2) := by rw [ag1, evK, if_neg h1, if_neg h2, if_neg h3, if_neg h4]
theorem bb2 {nv na d : Nat} (hs : l5 nv na (d + 1) e = true) (h : e.kind = 1 ∨ e.kind = 2) : (I1 m e).2 = [] := by
 have hk : e.kids = [] := List.eq_nil_of_length_eq_zero (by
  rcases h with h | h
  ·exact a62 hs h
  ·exact (a61 hs h).1)
 rcases h with h | h
 ·rw [a26 h, hk]; rfl
 ·rw [a25 h, hk]; rfl
theorem a99 {nv na : Nat} (hm : mfB nv na m = true) {i : Int} (h0 : 0 ≤ i) (h1 : i < na) : (m.arrs.getD i.toNat []).length = 4 := by
 obtain ⟨f1, f2, f3, f4⟩ := am9 hm
 have hi : i.toNat < m.arrs.length := by omega
 have := bf9.1 f4 (m.arrs.getD i.toNat []) (by rw [w8 hi]; exact bg4 hi)
 unfold R4 at this
 simp only [bf0, decide_eq_true_eq] at this
 exact this.1
end
abbrev ieC (m : A6) (e : b7) (l : List (Int × Int)) : t6 := ⟨93, [.ptr 0 0, eA e 4], [.box [.ref 1, .ref 2, .ref 3], dI m.vals, dR m.arrs, .row 54 (.events l), dE e.kids], [.box [.ref 1, .ref 2, .ref 5], dI m.vals, dR m.arrs, .dead, dE e.kids, .row 54 (.events (l ++ (I1 m e).2))], iA (I1 m e).1⟩
abbrev V4 (m : A6) (e : b7) (l : List (Int × Int)) : List It := [.box [.ref 1, .ref 2, .ref 5], dI m.vals, dR m.arrs, .dead, dE e.kids, .row 54 (D.events (l ++ (I1 m e).snd))]
theorem aZ3 (m : A6) (nv na d : Nat) (e : b7) (hm : mfB nv na m = true) (hna : na ≤ 2) (hs : l5 nv na (d + 1) e = true) (ih : ∀ (u : b7), u ∈ e.kids → ∀ (l : List (Int × Int)), l.length + B9 u + 1 ≤ 5000000 → t6.ok Try.prog (ieC m u l)) (l : List (Int × Int)) (r1 : l.length + B9 e + 1 ≤ 5000000) : t6.ok Try.prog (ieC m e l) := by
  refine M7 85 Try.func93 [.box (pL 1), dI m.vals, dR m.arrs, .row 54 (D.events l), dE e.kids] [(0, .ptr 0 0), (1, eA e 4)] fun G => ?_
  have hlen : e.kids.length ≤ B9 e := by cases e; exact S0 _
  have hvs := aV8 hm hs; have hvl := X8 m e.kids; have hfi := am9 hm; refine wp_seq (B6 G l6 (rg 6) [.box (pL 1), dI m.vals, dR m.arrs, .row 54 (D.events l), dE e.kids, .box (eL e 4)] [(0, .ptr 0 0), (3, .ptr 5 0), (4, iA 0)] fun G => b5 (wp_seq (n6 G l6 [(5, .v (.slice none 0 0))] fun G => b5 (wp_seq (wp_seq (O5 G l6 [(0, .ptr 0 0), (3, .ptr 5 0), (4, iA 0), (5, .v (.slice none 0 0)), (9, .ref 4), (10, iA (e.kids.length : Int)), (11, iA 0)] fun G => b5 (wp_block ?_))))))); have Gx := G.shift 3 6 [.box [.ref 1, .ref 2, .ref 6], dI m.vals, dR m.arrs, .dead, dE e.kids, .box (eL e 4), .row 54 (D.events l)] [(0, .ptr 0 0), (3, .ptr 5 0), (4, iA 0), (5, .v (.slice none 0 0)), (9, .ref 4), (10, iA (e.kids.length : Int)), (11, iA 0)]; clear G; obtain ⟨ρ, G⟩ := Gx; have Gx := G.nil 7 3 (.ints []) 1 [.box [.ref 1, .ref 2, .ref 6], dI m.vals, dR m.arrs, .dead, dE e.kids, .box (eL e 4), .row 54 (D.events l)] [(0, .ptr 0 0), (3, .ptr 5 0), (4, iA 0), (5, .ref 7), (9, .ref 4), (10, iA (e.kids.length : Int)), (11, iA 0)]; clear G; obtain ⟨ρ, G⟩ := Gx; replace G := B4.at G [.box [.ref 1, .ref 2, .ref 6], dI m.vals, dR m.arrs, .dead, dE e.kids, .box (eL e 4), .row 54 (D.events l), .row 3 (D.ints [])] [(0, .ptr 0 0), (3, .ptr 5 0), (4, iA 0), (5, .ref 7), (9, .ref 4), (10, iA (e.kids.length : Int)), (11, iA 0)]; replace G := G.as [.box [.ref 1, .ref 2, .ref 6], dI m.vals, dR m.arrs, .dead, dE e.kids, .box (eL e 4), .row 54 (D.events (l ++ (l7 m (bg7 0 e.kids)).snd)), .row 3 (D.ints (l7 m (bg7 0 e.kids)).fst)] [(0, .ptr 0 0), (3, .ptr 5 0), (4, iA 0), (5, .ref 7), (9, .ref 4), (10, iA (e.kids.length : Int)), (11, iA 0)] (by have e1 : (l ++ (l7 m (bg7 0 e.kids)).snd : List (Int × Int)) = (l) := (List.append_nil _); (first | rw [e1] | simp only [e1]) <;> rfl) (by kernel_rfl); refine E9 (κ := Nat) (fun k => k ≤ e.kids.length) (fun k => e.kids.length - k) (fun k => [.box [.ref 1, .ref 2, .ref 6], dI m.vals, dR m.arrs, .dead, dE e.kids, .box (eL e 4), .row 54 (.events (l ++ (l7 m (e.kids.take k)).2)), .row 3 (.ints (l7 m (e.kids.take k)).1)]) (fun k => [(0, .ptr 0 0), (3, .ptr 5 0), (4, iA 0), (5, .ref 7), (9, .ref 4), (10, iA (e.kids.length : Int)), (11, iA k)]) 0 (by omega) (B4.at G _ _) ?_; clear G; intro k ρ a w hp G; replace G := B4.at G [.box [.ref 1, .ref 2, .ref 6], dI m.vals, dR m.arrs, .dead, dE e.kids, .box (eL e 4), .row 54 (D.events (l ++ (l7 m (bg7 k e.kids)).snd)), .row 3 (D.ints (l7 m (bg7 k e.kids)).fst)] [(0, .ptr 0 0), (3, .ptr 5 0), (4, iA 0), (5, .ref 7), (9, .ref 4), (10, iA (e.kids.length : Int)), (11, iA k)]; have hkl := X8 m (e.kids.take k)
  have hkm : (e.kids.take k).length ≤ e.kids.length := by rw [bi5]; exact Nat.min_le_right _ _
  refine wp_seq (O5 G l6 [(0, .ptr 0 0), (3, .ptr 5 0), (4, iA 0), (5, .ref 7), (9, .ref 4), (10, iA (e.kids.length : Int)), (11, iA k), (12, bA (decide ((k : Int) < e.kids.length)))] fun G => b5 (wp_seq ?_)); cases h0 : (decide ((k : Int) < e.kids.length))
  ·
   have q0 := dFf h0
   obtain rfl : k = e.kids.length := by omega
   rw [List.take_length] at G; refine rF G (decide ((e.kids.length : Int) < e.kids.length)) (by assumption) (wp_exit (E6 (E6 (E5 (b5 (wp_seq (wp_seq (O5 G l6 [(0, .ptr 0 0), (3, .ptr 5 0), (4, iA 0), (5, .ref 7), (23, iA e.kind)] fun G => b5 (wp_block (wp_seq (O5 G l6 [(0, .ptr 0 0), (3, .ptr 5 0), (4, iA 0), (5, .ref 7), (23, iA e.kind), (24, bA (e.kind == 1))] fun G => b5 ?_))))))))))); cases h1 : (e.kind == 1)
   ·
    have q1 := ne_of_beq_false h1; refine rF G _ h1 (wp_seq (O5 G l6 [(0, .ptr 0 0), (3, .ptr 5 0), (4, iA 0), (5, .ref 7), (23, iA e.kind), (28, bA (e.kind == 2))] fun G => b5 ?_)); cases h2 : (e.kind == 2)
    ·
     have q2 := ne_of_beq_false h2; refine rF G _ h2 (wp_seq (O5 G l6 [(0, .ptr 0 0), (3, .ptr 5 0), (4, iA 0), (5, .ref 7), (23, iA e.kind), (39, bA (e.kind == 3))] fun G => b5 ?_)); cases h3 : (e.kind == 3)
     ·
      have q3 := ne_of_beq_false h3; refine rF G _ h3 (wp_seq (O5 G l6 [(3, .ptr 5 0), (4, iA 0), (5, .ref 7), (64, bA (e.kind == 11))] fun G => b5 ?_)); cases h4 : (e.kind == 11)
      · have q4 := ne_of_beq_false h4; have hqe := a40 hs (by omega) (by omega) (by omega) (by omega); refine rF G _ h4 (wp_skip (I9 (b5 (wp_seq (aM2 G (Q6 8 [] (aN5 e.kind ((l7 m e.kids).fst.getD 0 0) ((l7 m e.kids).fst.getD 1 0) (af8 hvs _) (af8 hvs _))) [0, 1, 0, 4, 12, 0, 32, 96, 255, 511] [0, 1, 2, 3, 4, 6] [.box [.ref 1, .ref 2, .ref 5], dI m.vals, dR m.arrs, .dead, dE e.kids, .row 54 (D.events (l ++ (l7 m e.kids).snd))] [(4, iA (A5 e.kind ((l7 m e.kids).fst.getD 0 0) ((l7 m e.kids).fst.getD 1 0)))] (iX 0 0 ((l7 m e.kids).fst.length) (iX 1 1 ((l7 m e.kids).fst.length) [])) (iK (by omega) (iK (by omega) bf4)) fun G => b5 (wp_ret ?_)))))); exact Y6 (A5 e.kind ((l7 m e.kids).fst.getD 0 0) ((l7 m e.kids).fst.getD 1 0)) G (rg 6) (by rw [aK3 (by omega) (by omega) (by omega) (by omega)]) (by show _ = mR (rg 6) (V4 m e l); unfold V4; have e1 : (l ++ (I1 m e).snd : List (Int × Int)) = (l ++ (l7 m e.kids).snd) := (by rw [aK3 (by omega) (by omega) (by omega) (by omega)]); (first | rw [e1] | simp only [e1]) <;> rfl)
      ·
       have q4 := eq_of_beq h4; have hq11 := a41 hs (by omega); refine rT G _ h4 (wp_seq (wp_seq (J6 G l6 [(69, bA ((l7 m e.kids).fst.getD 0 0 != 0))] (iX 0 0 ((l7 m e.kids).fst.length) []) (iK (by omega) bf4) fun G => b5 (rcN G (fun h5 q5 => ?_) fun h5 q5 => ?_))))
       · refine wp_skip (b5 (wp_seq (J6 G l6 [(4, iA ((l7 m e.kids).fst.getD 2 0))] (iX 2 2 ((l7 m e.kids).fst.length) []) (iK (by omega) bf4) fun G => b5 (wp_ret (B8 (m7 ?_)))))); exact Y6 ((l7 m e.kids).fst.getD 2 0) G [0, 1, 2, 3, 4, 6] (by rw [av8 (by omega) (by omega)]) (by show _ = mR [0, 1, 2, 3, 4, 6] (V4 m e l); unfold V4; have e1 : (l ++ (I1 m e).snd : List (Int × Int)) = (l ++ (l7 m e.kids).snd) := (by rw [av8 (by omega) (by omega)]); (first | rw [e1] | simp only [e1]) <;> rfl)
       · refine wp_seq (J6 G l6 [(4, iA ((l7 m e.kids).fst.getD 1 0))] (iX 1 1 ((l7 m e.kids).fst.length) []) (iK (by omega) bf4) fun G => b5 (wp_ret (m7 (B8 (m7 ?_))))); exact Y6 ((l7 m e.kids).fst.getD 1 0) G [0, 1, 2, 3, 4, 6] (by rw [av7 (by omega) (by omega)]) (by show _ = mR [0, 1, 2, 3, 4, 6] (V4 m e l); unfold V4; have e1 : (l ++ (I1 m e).snd : List (Int × Int)) = (l ++ (l7 m e.kids).snd) := (by rw [av7 (by omega) (by omega)]); (first | rw [e1] | simp only [e1]) <;> rfl)
     · have q3 := eq_of_beq h3; have hq3 := a89 hs (by omega); have hr4 := a99 hm (i := e.value) (by omega) (by omega); have htm := tmV (af8 hvs 0); refine rT G _ h3 (wp_seq (aM2 G (E3 (A1 6 [] (aO5 e.value ((l7 m e.kids).fst.getD 0 0) (by omega) (af8 hvs _)) (A1 7 [0, 1, 2, 6] (a33 m.vals m.arrs (l ++ (l7 m e.kids).snd) 2 (e.value * 4 + ((l7 m e.kids).fst.getD 0 0).tmod 4) (by have h8 := T3 m e.kids; have h7 : B9 e = m6 e.kids := G0 e; simp only [bh9, bi0, List.length_nil]; omega)) E2)) fz []) [0, 0, 2, 0, 8, 24, 62, 127] [0, 1, 2, 3, 4, 5, 7, 64] [.box [.ref 1, .ref 2, .ref 7], dI m.vals, dR m.arrs, .dead, dE e.kids, .box (eL e 4), .row 3 (D.ints (l7 m e.kids).fst), .row 54 (D.events (l ++ (l7 m e.kids).snd ++ [(2, e.value * 4 + ((l7 m e.kids).fst.getD 0 0).tmod 4)]))] [(0, .ptr 0 0), (3, .ptr 5 0), (4, iA 0), (5, .ref 6)] (iX 0 0 ((l7 m e.kids).fst.length) []) (iK (by omega) bf4) fun G => b5 (wp_seq (at6 G l6 [0, 1, 3, 7, 15, 0, 32, 127, 255, 0, 512, 1536, 3584, 8191, 16383, 32767] [(4, iA ((m.arrs.getD e.value.toNat []).getD (((l7 m e.kids).fst.getD 0 0).tmod 4).toNat 0))] (iX e.value e.value.toNat m.arrs.length (iX 0 0 ((l7 m e.kids).fst.length) (((4 : Int) ≠ 0) :: (iX (((l7 m e.kids).fst.getD (0 : Nat) (0 : Int)).tmod (4 : Int)) ((((l7 m e.kids).fst.getD (0 : Nat) (0 : Int)).tmod (4 : Int)).toNat) ((m.arrs.getD e.value.toNat []).length) [])))) (iK (by omega) (iK (by omega) ⟨(by omega), (iK (by omega) bf4)⟩)) fun G => b5 (wp_ret (B8 (m7 ?_))))))); exact Y6 ((m.arrs.getD e.value.toNat []).getD (((l7 m e.kids).fst.getD 0 0).tmod 4).toNat 0) G [0, 1, 2, 3, 4, 7] (by rw [a24 (by omega)]) (by show _ = mR [0, 1, 2, 3, 4, 7] (V4 m e l); unfold V4; have e1 : (l ++ (I1 m e).snd : List (Int × Int)) = (l ++ (l7 m e.kids).snd ++ [(2, e.value * 4 + ((l7 m e.kids).fst.getD 0 0).tmod 4)]) := (by rw [a24 (by omega), ← List.append_assoc]); (first | rw [e1] | simp only [e1]) <;> rfl)
    · have q2 := eq_of_beq h2; have hq2 := a61 hs (by omega); refine rT G _ h2 (wp_seq (at6 G l6 [0, 1, 3, 7, 15, 0, 32, 127, 255, 511] [(4, iA (m.vals.getD e.value.toNat 0))] (iX e.value e.value.toNat m.vals.length []) (iK (by omega) bf4) fun G => b5 (wp_ret (B8 (m7 ?_))))); exact Y6 (m.vals.getD e.value.toNat 0) G [0, 1, 2, 3, 4, 6] (by rw [a25 (by omega)]) (by show _ = mR [0, 1, 2, 3, 4, 6] (V4 m e l); unfold V4; have e1 : (l ++ (I1 m e).snd : List (Int × Int)) = (l ++ (l7 m e.kids).snd) := (by rw [a25 (by omega)]); (first | rw [e1] | simp only [e1]) <;> rfl)
   · have q1 := eq_of_beq h1; have hq1 := a62 hs (by omega); refine rT G _ h1 (wp_seq (n6 G l6 [(4, iA e.value)] fun G => b5 (wp_ret (B8 (m7 ?_))))); exact Y6 e.value G [0, 1, 2, 3, 4, 6] (by rw [a26 (by omega)]) (by show _ = mR [0, 1, 2, 3, 4, 6] (V4 m e l); unfold V4; have e1 : (l ++ (I1 m e).snd : List (Int × Int)) = (l ++ (l7 m e.kids).snd) := (by rw [a26 (by omega)]); (first | rw [e1] | simp only [e1]) <;> rfl)
  · have q0 := dTt h0; refine rT G _ h0 (wp_skip (b5 (wp_seq (wp_block (wp_seq (rA1 G l6 [0, 1, 2, 3, 4, 5, 6, 7, 16, 24] [.box [.ref 1, .ref 2, .ref 6], dI m.vals, dR m.arrs, .dead, dE e.kids, .box (eL e 4), .row 54 (D.events (l ++ (l7 m (bg7 k e.kids)).snd)), .row 3 (D.ints (l7 m (bg7 k e.kids)).fst), dE (e.kids.getD k bh2).kids, .box (eL (e.kids.getD k bh2) 8)] [(0, .ptr 0 0), (3, .ptr 5 0), (4, iA 0), (5, .ref 7), (7, .ptr 9 0), (9, .ref 4), (10, iA (e.kids.length : Int)), (11, iA k)] (iX k k e.kids.length []) (iK (by omega) bf4) fun G => b5 (rA1 G (Q6 3 [0, 1, 2, 6, 8] (ih (e.kids.getD k bh2) (aA6 (by omega)) (l ++ (l7 m (bg7 k e.kids)).snd) (by have h9 := aQ1 (ks := e.kids) (k := k) (by omega); have h8 := T3 m (e.kids.take k); have h7 : B9 e = m6 e.kids := G0 e; simp only [bh9]; omega))) [0, 1, 2, 3, 4, 5, 34, 50] [.box [.ref 1, .ref 2, .ref 6], dI m.vals, dR m.arrs, .dead, dE e.kids, .box (eL e 4), .row 54 (D.events (l ++ (l7 m (bg7 k e.kids)).snd ++ (I1 m (e.kids.getD k bh2)).snd)), .row 3 (D.ints ((l7 m (bg7 k e.kids)).fst ++ ([(I1 m (e.kids.getD k bh2)).fst] ++ [])))] [(0, .ptr 0 0), (3, .ptr 5 0), (4, iA 0), (5, .ref 7), (9, .ref 4), (10, iA (e.kids.length : Int)), (11, iA k)] (aP ((l7 m (bg7 k e.kids)).fst.length + 1) 8 []) (aK (by omega) bf4) fun G => I9 (b5 (J6 G l6 [(11, iA ((k : Int) + 1))] [wO ((k : Int) + 1)] (o1 (by omega)) fun G => b5 ?_))))))))); exact rxn G (k + 1) (by omega) (by omega) (rg 8) (by have e1 : (l ++ (l7 m (bg7 (k + 1) e.kids)).snd : List (Int × Int)) = (l ++ (l7 m (bg7 k e.kids)).snd ++ (I1 m (e.kids.getD k bh2)).snd) := (by rw [Z1 (by omega), ← List.append_assoc]); have e2 : ((l7 m (bg7 (k + 1) e.kids)).fst : List Int) = ((l7 m (bg7 k e.kids)).fst ++ ([(I1 m (e.kids.getD k bh2)).fst] ++ [])) := (by rw [Z1 (by omega)]; rfl); (first | rw [e1, e2] | simp only [e1, e2]) <;> rfl)
theorem aL0 (m : A6) (nv na : Nat) (hm : mfB nv na m = true) (hna : na ≤ 2) : ∀ (d : Nat) (e : b7), l5 nv na d e = true → ∀ (l : List (Int × Int)), l.length + B9 e + 1 ≤ 5000000 → t6.ok Try.prog (ieC m e l)
 | 0, _, h, _, _ => by simp [l5] at h
 | d + 1, e, h, l, r1 => aZ3 m nv na d e hm hna h (fun u hu l' r' => aL0 m nv na hm hna d u (bf9.1 (W7 h).2.2.2 u hu) l' r') l r1
abbrev seC (m : A6) (e : b7) (l : List (Int × Int)) : t6 := ⟨133, [mA 0, eA e 2, .ref 3], [dI m.vals, dR m.arrs, dE e.kids, .row 54 (.events l)], [dI m.vals, dR m.arrs, dE e.kids, .dead, .row 54 (.events (l ++ (I1 m e).2))], .tup [iA (I1 m e).1, .ref 4]⟩
abbrev V3 (m : A6) (e : b7) (l : List (Int × Int)) : List It := [dI m.vals, dR m.arrs, dE e.kids, .dead, .row 54 (D.events (l ++ (I1 m e).snd))]
theorem aZ2 (m : A6) (nv na d : Nat) (e : b7) (hm : mfB nv na m = true) (hna : na ≤ 2) (hs : l5 nv na (d + 1) e = true) (ih : ∀ (u : b7), u ∈ e.kids → ∀ (l : List (Int × Int)), l.length + B9 u + 1 ≤ 5000000 → t6.ok Try.prog (seC m u l)) (l : List (Int × Int)) (r1 : l.length + B9 e + 1 ≤ 5000000) : t6.ok Try.prog (seC m e l) := by
  refine M7 100 Try.func133 [dI m.vals, dR m.arrs, dE e.kids, .row 54 (D.events l)] [(0, .agg [.ref 0, .ref 1]), (1, eA e 2), (2, .ref 3)] fun G => ?_; have Gx := G.shift 3 4 [dI m.vals, dR m.arrs, dE e.kids, .dead, .row 54 (.events l)] [(0, mA 0), (1, eA e 2), (2, .ref 4)]; clear G; obtain ⟨ρ, G⟩ := Gx
  have hlen : e.kids.length ≤ B9 e := by cases e; exact S0 _
  have hvs := aV8 hm hs; have hvl := X8 m e.kids; have hfi := am9 hm; refine wp_seq (B6 G l6 [0, 1, 2, 3, 4, 5, 13] [dI m.vals, dR m.arrs, dE e.kids, .dead, .row 54 (D.events l), .box [.ref 0, .ref 1], .box (eL e 2)] [(2, .ref 4), (3, .ptr 5 0), (4, .ptr 6 0), (6, iA 0), (7, .v (.slice none 0 0))] fun G => b5 (wp_seq (wp_seq (n6 G l6 [(12, iA e.kind)] fun G => b5 (wp_block (wp_seq (O5 G l6 [(2, .ref 4), (3, .ptr 5 0), (4, .ptr 6 0), (6, iA 0), (7, .v (.slice none 0 0)), (12, iA e.kind), (13, bA (e.kind == 1))] fun G => b5 ?_))))))); cases h0 : (e.kind == 1)
  ·
   have q0 := ne_of_beq_false h0; refine rF G _ h0 (wp_seq (O5 G l6 [(2, .ref 4), (3, .ptr 5 0), (4, .ptr 6 0), (6, iA 0), (7, .v (.slice none 0 0)), (18, bA (e.kind == 2))] fun G => b5 ?_)); cases h1 : (e.kind == 2)
   ·
    have q1 := ne_of_beq_false h1; refine rF G _ h1 (wp_skip (I9 (b5 (wp_seq (B6 G l6 (rg 8) [dI m.vals, dR m.arrs, dE e.kids, .dead, .row 54 (D.events l), .box [.ref 0, .ref 1], .box (eL e 2), .row 3 (D.ints [])] [(2, .ref 4), (3, .ptr 5 0), (4, .ptr 6 0), (6, iA 0), (7, .v (.slice none 0 0)), (8, .ref 7)] fun G => b5 (wp_seq (wp_seq (O5 G l6 [(2, .ref 4), (3, .ptr 5 0), (4, .ptr 6 0), (6, iA 0), (7, .v (.slice none 0 0)), (8, .ref 7), (9, iA 0)] fun G => b5 (wp_block ?_))))))))); replace G := G.as [dI m.vals, dR m.arrs, dE e.kids, .dead, .row 54 (D.events (l ++ (l7 m (bg7 0 e.kids)).snd)), .box [.ref 0, .ref 1], .box (eL e 2), .row 3 (D.ints (l7 m (bg7 0 e.kids)).fst)] [(2, .ref 4), (3, .ptr 5 0), (4, .ptr 6 0), (6, iA 0), (7, .v (.slice none 0 0)), (8, .ref 7), (9, iA 0)] (by have e1 : (l ++ (l7 m (bg7 0 e.kids)).snd : List (Int × Int)) = (l) := (List.append_nil _); (first | rw [e1] | simp only [e1]) <;> rfl) (by kernel_rfl); refine E9 (κ := Nat) (fun k => k ≤ e.kids.length) (fun k => e.kids.length - k) (fun k => [dI m.vals, dR m.arrs, dE e.kids, .dead, .row 54 (.events (l ++ (l7 m (e.kids.take k)).2)), .box [.ref 0, .ref 1], .box (eL e 2), .row 3 (.ints (l7 m (e.kids.take k)).1)]) (fun k => [(2, .ref 4), (3, .ptr 5 0), (4, .ptr 6 0), (6, iA 0), (7, .v (.slice none 0 0)), (8, .ref 7), (9, iA k)]) 0 (by omega) (B4.at G _ _) ?_; clear G; intro k ρ a w hp G; replace G := B4.at G [dI m.vals, dR m.arrs, dE e.kids, .dead, .row 54 (D.events (l ++ (l7 m (bg7 k e.kids)).snd)), .box [.ref 0, .ref 1], .box (eL e 2), .row 3 (D.ints (l7 m (bg7 k e.kids)).fst)] [(2, .ref 4), (3, .ptr 5 0), (4, .ptr 6 0), (6, iA 0), (7, .v (.slice none 0 0)), (8, .ref 7), (9, iA k)]; have hkl := X8 m (e.kids.take k)
    have hkm : (e.kids.take k).length ≤ e.kids.length := by rw [bi5]; exact Nat.min_le_right _ _
    refine wp_seq (wp_seq (O5 G l6 [(2, .ref 4), (3, .ptr 5 0), (4, .ptr 6 0), (6, iA 0), (7, .v (.slice none 0 0)), (8, .ref 7), (9, iA k), (32, bA (decide ((k : Int) < e.kids.length)))] fun G => b5 ?_)); cases h2 : (decide ((k : Int) < e.kids.length))
    ·
     have q2 := dFf h2
     obtain rfl : k = e.kids.length := by omega
     rw [List.take_length] at G; refine rF G (decide ((e.kids.length : Int) < e.kids.length)) (by assumption) (wp_exit (E6 (E6 (E5 (b5 (wp_seq (wp_seq (O5 G l6 [(2, .ref 4), (3, .ptr 5 0), (4, .ptr 6 0), (6, iA 0), (7, .v (.slice none 0 0)), (8, .ref 7), (51, iA e.kind)] fun G => b5 (wp_block (wp_seq (O5 G l6 [(2, .ref 4), (3, .ptr 5 0), (4, .ptr 6 0), (6, iA 0), (7, .v (.slice none 0 0)), (8, .ref 7), (51, iA e.kind), (52, bA (e.kind == 3))] fun G => b5 ?_))))))))))); cases h3 : (e.kind == 3)
     ·
      have q3 := ne_of_beq_false h3; refine rF G _ h3 (wp_seq (B6 G l6 [0, 1, 2, 3, 4, 6, 7] [dI m.vals, dR m.arrs, dE e.kids, .dead, .row 54 (D.events (l ++ (l7 m e.kids).snd)), .box (eL e 2), .row 3 (D.ints (l7 m e.kids).fst)] [(2, .ref 4), (4, .ptr 5 0), (6, iA 0), (7, .v (.slice none 0 0)), (8, .ref 6), (76, bA (e.kind == 11))] fun G => b5 ?_)); cases h4 : (e.kind == 11)
      · have q4 := ne_of_beq_false h4; have hqe := a40 hs (by omega) (by omega) (by omega) (by omega); refine rF G _ h4 (wp_skip (I9 (b5 (wp_seq (aM2 G (Q6 8 [] (a32 e.kind ((l7 m e.kids).fst.getD 0 0) ((l7 m e.kids).fst.getD 1 0) (af8 hvs _) (af8 hvs _))) [0, 1, 0, 4, 12, 0, 32, 96, 255, 0, 511, 2047] (rg 5) [dI m.vals, dR m.arrs, dE e.kids, .dead, .row 54 (D.events (l ++ (l7 m e.kids).snd))] [(6, iA (A5 e.kind ((l7 m e.kids).fst.getD 0 0) ((l7 m e.kids).fst.getD 1 0))), (7, .ref 4)] (iX 0 0 ((l7 m e.kids).fst.length) (iX 1 1 ((l7 m e.kids).fst.length) [])) (iK (by omega) (iK (by omega) bf4)) fun G => b5 (wp_ret ?_)))))); exact rxv (.tup [iA (A5 e.kind ((l7 m e.kids).fst.getD 0 0) ((l7 m e.kids).fst.getD 1 0)), .ref 4]) G (rg 5) (by have e1 : ((I1 m e).fst : Int) = (A5 e.kind ((l7 m e.kids).fst.getD 0 0) ((l7 m e.kids).fst.getD 1 0)) := (by rw [aK3 (by omega) (by omega) (by omega) (by omega)]); (first | rw [e1] | simp only [e1]) <;> rfl) (by show _ = mR (rg 5) (V3 m e l); unfold V3; have e1 : (l ++ (I1 m e).snd : List (Int × Int)) = (l ++ (l7 m e.kids).snd) := (by rw [aK3 (by omega) (by omega) (by omega) (by omega)]); (first | rw [e1] | simp only [e1]) <;> rfl)
      ·
       have q4 := eq_of_beq h4; have hq11 := a41 hs (by omega); refine rT G _ h4 (wp_seq (wp_seq (J6 G l6 [(81, bA ((l7 m e.kids).fst.getD 0 0 != 0))] (iX 0 0 ((l7 m e.kids).fst.length) []) (iK (by omega) bf4) fun G => b5 (rcN G (fun h5 q5 => ?_) fun h5 q5 => ?_))))
       · refine wp_skip (b5 (wp_seq (J6 G l6 [(6, iA ((l7 m e.kids).fst.getD 2 0)), (7, .ref 4)] (iX 2 2 ((l7 m e.kids).fst.length) []) (iK (by omega) bf4) fun G => b5 (wp_ret (B8 (m7 ?_)))))); exact rxv (.tup [iA ((l7 m e.kids).fst.getD 2 0), .ref 4]) G (rg 5) (by have e1 : ((I1 m e).fst : Int) = ((l7 m e.kids).fst.getD 2 0) := (by rw [av8 (by omega) (by omega)]); (first | rw [e1] | simp only [e1]) <;> rfl) (by show _ = mR (rg 5) (V3 m e l); unfold V3; have e1 : (l ++ (I1 m e).snd : List (Int × Int)) = (l ++ (l7 m e.kids).snd) := (by rw [av8 (by omega) (by omega)]); (first | rw [e1] | simp only [e1]) <;> rfl)
       · refine wp_seq (J6 G l6 [(6, iA ((l7 m e.kids).fst.getD 1 0)), (7, .ref 4)] (iX 1 1 ((l7 m e.kids).fst.length) []) (iK (by omega) bf4) fun G => b5 (wp_ret (m7 (B8 (m7 ?_))))); exact rxv (.tup [iA ((l7 m e.kids).fst.getD 1 0), .ref 4]) G (rg 5) (by have e1 : ((I1 m e).fst : Int) = ((l7 m e.kids).fst.getD 1 0) := (by rw [av7 (by omega) (by omega)]); (first | rw [e1] | simp only [e1]) <;> rfl) (by show _ = mR (rg 5) (V3 m e l); unfold V3; have e1 : (l ++ (I1 m e).snd : List (Int × Int)) = (l ++ (l7 m e.kids).snd) := (by rw [av7 (by omega) (by omega)]); (first | rw [e1] | simp only [e1]) <;> rfl)
     · have q3 := eq_of_beq h3; have hq3 := a89 hs (by omega); have hr4 := a99 hm (i := e.value) (by omega) (by omega); have htm := tmV (af8 hvs 0); refine rT G _ h3 (wp_seq (aM2 G (Q6 18 [] (aC1 e.value ((l7 m e.kids).fst.getD 0 0) (by omega) (af8 hvs _))) [0, 1, 0, 4, 15, 31, 0, 64, 192, 448, 1023, 2047, 0, 0, 8192, 0, 32768, 98304, 253952, 516096, 1040384, 2093056, 4194303, 8388607] [0, 1, 2, 3, 4, 6, 7, 176] [dI m.vals, dR m.arrs, dE e.kids, .dead, .dead, .box (eL e 2), .row 3 (D.ints (l7 m e.kids).fst), .row 54 (D.events (l ++ (l7 m e.kids).snd ++ ([(2, e.value * 4 + ((l7 m e.kids).fst.getD 0 0).tmod 4)] ++ [])))] [(2, .ref 4), (4, .ptr 5 0), (6, iA ((m.arrs.getD e.value.toNat []).getD (((l7 m e.kids).fst.getD 0 0).tmod 4).toNat 0)), (7, .ref 7), (8, .ref 6)] (iX e.value e.value.toNat m.arrs.length (iX 0 0 ((l7 m e.kids).fst.length) (((4 : Int) ≠ 0) :: (iX (((l7 m e.kids).fst.getD (0 : Nat) (0 : Int)).tmod (4 : Int)) ((((l7 m e.kids).fst.getD (0 : Nat) (0 : Int)).tmod (4 : Int)).toNat) ((m.arrs.getD e.value.toNat []).length) (iX 0 0 ((l7 m e.kids).fst.length) (aP ((l ++ (l7 m e.kids).snd).length + ([((2 : Int), e.value * 4 + ((l7 m e.kids).fst.getD (0 : Nat) (0 : Int)).tmod (4 : Int))] ++ []).length) 16 [])))))) (iK (by omega) (iK (by omega) ⟨(by omega), (iK (by omega) (iK (by omega) (aK (by have h8 := T3 m e.kids; have h7 : B9 e = m6 e.kids := G0 e; simp only [bh9, bi0, List.length_nil]; omega) bf4)))⟩)) fun G => b5 (wp_ret (B8 (m7 ?_))))); exact rxv (.tup [iA ((m.arrs.getD e.value.toNat []).getD (((l7 m e.kids).fst.getD 0 0).tmod 4).toNat 0), .ref 7]) G [0, 1, 2, 3, 7] (by have e1 : ((I1 m e).fst : Int) = ((m.arrs.getD e.value.toNat []).getD (((l7 m e.kids).fst.getD 0 0).tmod 4).toNat 0) := (by rw [a24 (by omega)]); (first | rw [e1] | simp only [e1]) <;> rfl) (by show _ = mR [0, 1, 2, 3, 7] (V3 m e l); unfold V3; have e1 : (l ++ (I1 m e).snd : List (Int × Int)) = (l ++ (l7 m e.kids).snd ++ ([(2, e.value * 4 + ((l7 m e.kids).fst.getD 0 0).tmod 4)] ++ [])) := (by rw [a24 (by omega), ← List.append_assoc]; rfl); (first | rw [e1] | simp only [e1]) <;> rfl)
    · have q2 := dTt h2; refine rT G _ h2 (wp_skip (b5 (wp_seq (wp_block (wp_seq (n6 G l6 [(10, iA 0)] fun G => b5 (wp_seq (aM2 G (Q6 7 [0, 1, 48, 4] (ih (e.kids.getD k bh2) (aA6 (by omega)) (l ++ (l7 m (bg7 k e.kids)).snd) (by have h9 := aQ1 (ks := e.kids) (k := k) (by omega); have h8 := T3 m (e.kids.take k); have h7 : B9 e = m6 e.kids := G0 e; simp only [bh9]; omega))) [0, 0, 2, 0, 14, 30, 0, 127, 255, 511, 511, 1023, 4095] [0, 1, 2, 3, 5, 6, 7, 64] [dI m.vals, dR m.arrs, dE e.kids, .dead, .box [.ref 0, .ref 1], .box (eL e 2), .row 3 (D.ints (l7 m (bg7 k e.kids)).fst), .row 54 (D.events (l ++ (l7 m (bg7 k e.kids)).snd ++ (I1 m (e.kids.getD k bh2)).snd))] [(2, .ref 7), (3, .ptr 4 0), (4, .ptr 5 0), (6, iA 0), (7, .v (.slice none 0 0)), (8, .ref 6), (9, iA k), (10, iA (I1 m (e.kids.getD k bh2)).fst)] (iX k k e.kids.length []) (iK (by omega) bf4) fun G => b5 (rA1 G l6 [0, 1, 2, 3, 4, 5, 7, 32] [dI m.vals, dR m.arrs, dE e.kids, .dead, .box [.ref 0, .ref 1], .box (eL e 2), .row 54 (D.events (l ++ (l7 m (bg7 k e.kids)).snd ++ (I1 m (e.kids.getD k bh2)).snd)), .row 3 (D.ints ((l7 m (bg7 k e.kids)).fst ++ ([(I1 m (e.kids.getD k bh2)).fst] ++ [])))] [(2, .ref 6), (3, .ptr 4 0), (4, .ptr 5 0), (6, iA 0), (7, .v (.slice none 0 0)), (8, .ref 7), (9, iA k)] (aP ((l7 m (bg7 k e.kids)).fst.length + 1) 8 []) (aK (by omega) bf4) fun G => I9 (b5 (J6 G l6 [(9, iA ((k : Int) + 1))] [wO ((k : Int) + 1)] (o1 (by omega)) fun G => b5 ?_))))))))))); exact rxn G (k + 1) (by omega) (by omega) [0, 1, 2, 3, 6, 4, 5, 7] (by have e1 : (l ++ (l7 m (bg7 (k + 1) e.kids)).snd : List (Int × Int)) = (l ++ (l7 m (bg7 k e.kids)).snd ++ (I1 m (e.kids.getD k bh2)).snd) := (by rw [Z1 (by omega), ← List.append_assoc]); have e2 : ((l7 m (bg7 (k + 1) e.kids)).fst : List Int) = ((l7 m (bg7 k e.kids)).fst ++ ([(I1 m (e.kids.getD k bh2)).fst] ++ [])) := (by rw [Z1 (by omega)]; rfl); (first | rw [e1, e2] | simp only [e1, e2]) <;> rfl)
   · have q1 := eq_of_beq h1; have hq2 := a61 hs (by omega); refine rT G _ h1 (wp_seq (J6 G l6 [(6, iA (m.vals.getD e.value.toNat 0)), (7, .ref 4)] (iX e.value e.value.toNat m.vals.length []) (iK (by omega) bf4) fun G => b5 (wp_ret (B8 (m7 ?_))))); exact rxv (.tup [iA (m.vals.getD e.value.toNat 0), .ref 4]) G (rg 5) (by have e1 : ((I1 m e).fst : Int) = (m.vals.getD e.value.toNat 0) := (by rw [a25 (by omega)]); (first | rw [e1] | simp only [e1]) <;> rfl) (by show _ = mR (rg 5) (V3 m e l); unfold V3; have e1 : (l ++ (I1 m e).snd : List (Int × Int)) = (l) := (by rw [bb2 hs (by omega)]; exact List.append_nil _); (first | rw [e1] | simp only [e1]) <;> rfl)
  · have q0 := eq_of_beq h0; have hq1 := a62 hs (by omega); refine rT G _ h0 (wp_seq (n6 G l6 [(6, iA e.value), (7, .ref 4)] fun G => b5 (wp_ret (B8 (m7 ?_))))); exact rxv (.tup [iA e.value, .ref 4]) G (rg 5) (by have e1 : ((I1 m e).fst : Int) = (e.value) := (by rw [a26 (by omega)]); (first | rw [e1] | simp only [e1]) <;> rfl) (by show _ = mR (rg 5) (V3 m e l); unfold V3; have e1 : (l ++ (I1 m e).snd : List (Int × Int)) = (l) := (by rw [bb2 hs (by omega)]; exact List.append_nil _); (first | rw [e1] | simp only [e1]) <;> rfl)
theorem aK9 (m : A6) (nv na : Nat) (hm : mfB nv na m = true) (hna : na ≤ 2) : ∀ (d : Nat) (e : b7), l5 nv na d e = true → ∀ (l : List (Int × Int)), l.length + B9 e + 1 ≤ 5000000 → t6.ok Try.prog (seC m e l)
 | 0, _, h, _, _ => by simp [l5] at h
 | d + 1, e, h, l, r1 => aZ2 m nv na d e hm hna h (fun u hu l' r' => aK9 m nv na hm hna d u (bf9.1 (W7 h).2.2.2 u hu) l' r') l r1
def mvB (p : l9) (m : A6) : Bool := K7 p && mfB p.vars.length p.arrays.length m
section
variable {bit : Int} {p : l9} {m : A6}
theorem a13 (h : mvB p m = true) : p.vars.all F5 = true ∧ p.arrays.all F5 = true ∧ m.vals.length = p.vars.length ∧ m.arrs.length = p.arrays.length ∧ m.arrs.all R4 = true ∧ p.vars.length ≤ 12 ∧ p.arrays.length ≤ 2 := by
 unfold mvB at h
 rw [bf0] at h
 obtain ⟨f1, f2, f3, f4⟩ := am9 h.2
 have h2 := h.1
 unfold K7 at h2
 simp only [bf0] at h2
 have h6 := h2.1.1
 unfold H7 at h6
 simp only [bf0, decide_eq_true_eq] at h6
 refine ⟨h6.1.1.1.1, ?_, f1, f2, f4, ?_, ?_⟩
 ·exact h6.1.1.1.2
 ·omega
 ·omega
end
section
variable {ls xs : List Int} {rs : List (List Int)} {k : Nat} {b : Bool}
end
theorem aZ7 {w : World} {φ : Nat → Prop} {v : Value} {m : List (List Int)} (h : RD w φ (.rows m) v) : Q9 w v m := by
 obtain ⟨vs, h1, h2⟩ := h
 refine ⟨vs, B2.row h1, fun i u r hu hr => ?_⟩
 have hi : i < m.length := (bf3.1 hr).1
 obtain ⟨u', a, b⟩ := h2 i hi
 rw [hu] at a; cases a
 rw [be9 hi] at hr; cases hr
 exact B2.row b
theorem aU5 {w : World} {lo hi : Nat} {v : Value} {m : List (List Int)} (h : I2 w lo hi v m) : A7 w (fun b => lo ≤ b ∧ b < hi) (.rows m) v := by
 obtain ⟨vs, h1, h2, h3, h4⟩ := h
 have hl : vs.length = m.length := by have := h1.1.1; omega
 refine ⟨_, vs, fun b => ∃ (i : Nat) (u : Value), vs[i]? = some u ∧ u.ownBlock = some b, rfl, D2 h1.1 (bg3 _), fun g hg => ⟨⟨(h1.lt g hg).1, (h1.lt g hg).2.1⟩, ?_⟩, ?_, ao6.tree ⟨hl, fun i hi' => ?_, fun i j u u' hij hu hu' g hg => ?_⟩⟩
 ·rintro ⟨i, u, hu, hb⟩
  exact h4 i u hu g hb hg
 ·rintro b ⟨i, u, hu, hb⟩
  have hi' : i < m.length := by have := (bf3.1 hu).1; omega
  have := (h2 i u _ hu (be9 hi')).lt b hb
  exact ⟨this.1, this.2.1⟩
 ·have hv : i < vs.length := by omega
  exact ⟨vs[i], be9 hv, fun _ => D2 (h2 i _ _ (be9 hv) (be9 hi')).1 (bg3 _), fun g hg => ⟨i, _, be9 hv, hg⟩⟩
 ·exact h3 i j u u' hij hu hu' g hg
theorem X9 (p : l9) (m : A6) (hb : t7 p.body ≤ 1048576) : t6.ok Try.prog (L4 127 [pA 0, mA 3] (pS p ++ mS m) (bA (mvB p m))) := by
 refine M7 12 Try.func127 [dI p.vars, dI p.arrays, dT p.body, dI m.vals, dR m.arrs] [(0, pA 0), (1, .agg [.ref 3, .ref 4])] fun G => ?_; refine wp_seq (B6 G l6 [0, 1, 2, 3, 4, 5, 13] [dI p.vars, dI p.arrays, dT p.body, dI m.vals, dR m.arrs, .box (pL 0), .box [.ref 3, .ref 4]] [(2, .ptr 5 0), (3, .ptr 6 0), (4, bA false)] fun G => b5 (wp_seq ?_)); cases h0 : (K7 p)
 ·refine B6 G (E3 (A1 1 [0, 1, 2] (Y1 p (by assumption)) E2) (fc h0 fz) [(3, 0), (4, 0), (5, 0), (1006, 0)]) (rg 5) [dI p.vars, dI p.arrays, dT p.body, dI m.vals, dR m.arrs] [(4, bA false)] fun G => b5 (wp_ret ?_); exact B5 false G (rg 5) (by unfold mvB; rw [show K7 p = false by assumption]; rfl)
 ·refine B6 G (E3 (A1 1 [0, 1, 2] (Y1 p (by assumption)) (A1 5 (rg 5) (aW7 p.vars p.arrays p.body m.vals m.arrs) E2)) (fc h0 fz) [(3, 0), (4, 0), (5, 0), (1006, 0)]) (rg 5) [dI p.vars, dI p.arrays, dT p.body, dI m.vals, dR m.arrs] [(4, bA (mfB p.vars.length p.arrays.length (A6.mk m.vals m.arrs)))] fun G => b5 (wp_ret ?_); exact B5 (mfB p.vars.length p.arrays.length (A6.mk m.vals m.arrs)) G (rg 5) (by unfold mvB; rw [show K7 p = true by assumption]; rfl)
theorem bb3 (p : l9) (m : A6) : t6.ok Try.prog (L4 91 [pA 0, mA 3] (pS p ++ mS m) (bA (mvB p m))) := ao0 p.vars p.arrays p.body m.vals m.arrs
def F9 (p : l9) (m : A6) (e : b7) : Bool := mvB p m && l8 p.vars.length p.arrays.length e
def A9 (p : l9) (m : A6) (e : b7) : Int × List (Int × Int) := if F9 p m e = true then I1 m e else (0, [])
section
variable {p : l9} {m : A6} {e : b7}
theorem ar4 (h : mvB p m = false) : F9 p m e = false ∧ A9 p m e = (0, []) := by
 have : F9 p m e = false := by unfold F9; rw [h]; rfl
 exact ⟨this, by unfold A9; rw [if_neg (by rw [this]; decide)]⟩
theorem ar3 (h : l8 p.vars.length p.arrays.length e = false) : F9 p m e = false ∧ A9 p m e = (0, []) := by
 have : F9 p m e = false := by unfold F9; rw [h]; simp
 exact ⟨this, by unfold A9; rw [if_neg (by rw [this]; decide)]⟩
theorem aM9 (h : mvB p m = true) (h2 : l8 p.vars.length p.arrays.length e = true) : F9 p m e = true ∧ A9 p m e = I1 m e := by
 have : F9 p m e = true := by unfold F9; rw [h, h2]; rfl
 exact ⟨this, by unfold A9; rw [if_pos this]⟩
theorem Q1 (h : l8 p.vars.length p.arrays.length e = true) : l5 p.vars.length p.arrays.length 5 e = true ∧ B9 e ≤ 14 := by
 unfold l8 at h
 simp only [bf0, decide_eq_true_eq] at h
 exact ⟨h.1, by omega⟩
theorem au3 (h : mvB p m = true) : mfB p.vars.length p.arrays.length m = true ∧ p.arrays.length ≤ 2 := by
 have h1 := a13 h
 unfold mvB at h
 rw [bf0] at h
 exact ⟨h.2, h1.2.2.2.2.2.2⟩
theorem aW2 (h : mvB p m = true) (h2 : l8 p.vars.length p.arrays.length e = true) : t6.ok Try.prog ⟨133, [mA 0, eA e 2, .v (.slice none 0 0)], [dI m.vals, dR m.arrs, dE e.kids], [dI m.vals, dR m.arrs, dE e.kids, .row 54 (.events (I1 m e).2)], .tup [iA (I1 m e).1, .ref 3]⟩ :=
 t6.nilArg (pre := [dI m.vals, dR m.arrs, dE e.kids]) (aK9 m _ _ (au3 h).1 (au3 h).2 5 e (Q1 h2).1 [] (by have := (Q1 h2).2; simp; omega)) 6 [0, 1, 2, 4] rfl rfl rfl rfl rfl
theorem a27 (h : mvB p m = true) (h2 : l8 p.vars.length p.arrays.length e = true) : t6.ok Try.prog (ieC m e []) := aL0 m _ _ (au3 h).1 (au3 h).2 5 e (Q1 h2).1 [] (by have := (Q1 h2).2; simp; omega)
end
abbrev aq1 (p : l9) (m : A6) (e : b7) : List It := [dI p.vars, dI p.arrays, dT p.body, dI m.vals, dR m.arrs, dE e.kids, .row 54 (D.events (A9 p m e).snd)]
abbrev ak1 (p : l9) (m : A6) (e : b7) (r0 : List It) : List It := dI p.vars :: dI p.arrays :: dT p.body :: dI m.vals :: dR m.arrs :: dE e.kids :: r0
theorem ax6 (p : l9) (m : A6) (e : b7) (hb : t7 p.body ≤ 1048576) : t6.ok Try.prog ⟨56, [pA 0, mA 3, eA e 5], pS p ++ mS m ++ eS e, pS p ++ mS m ++ eS e ++ [.row 54 (.events (A9 p m e).2)], .tup [iA (A9 p m e).1, .ref 6, bA (F9 p m e)]⟩ := by
  have hse := fun h h2 => aW2 (p := p) (m := m) (e := e) h h2
  refine M7 30 Try.func56 (ak1 p m e []) [(0, pA 0), (1, .agg [.ref 3, .ref 4]), (2, eA e 5)] fun G => ?_; refine wp_seq (B6 G l6 [0, 1, 2, 3, 4, 5, 6, 14, 22] (ak1 p m e [.box (pL 0), .box [.ref 3, .ref 4], .box (eL e 5)]) [(3, .ptr 6 0), (4, .ptr 7 0), (5, .ptr 8 0), (6, iA 0), (7, .v (.slice none 0 0)), (8, bA false)] fun G => b5 (wp_seq (wp_seq ?_))); cases h0 : (!mvB p m)
  ·
   have q0 : (mvB p m) = true := (Eq.mp (bg1 _) h0); refine B6 G (E3 (A1 2 (rg 5) (X9 p m (by assumption)) (A1 7 [0, 1, 2, 5] (aH5 p.vars p.arrays p.body e) E2)) (fc h0 fz) (us [(5, 8, 0), (1009, 1009, 0)])) [0, 1, 2, 3, 4, 5, 7, 8] (ak1 p m e [.box [.ref 3, .ref 4], .box (eL e 5)]) [(4, .ptr 6 0), (5, .ptr 7 0), (6, iA 0), (7, .v (.slice none 0 0)), (8, bA false), (20, .v (.bool !l8 p.vars.length p.arrays.length e))] fun G => b5 ?_; cases h1 : (!l8 p.vars.length p.arrays.length e)
   · have q1 : (l8 p.vars.length p.arrays.length e) = true := (Eq.mp (bg1 _) h1); refine rF G _ h1 (wp_skip (b5 (wp_seq (B6 G (Q6 2 [3, 4, 5] (hse (by assumption) (by assumption))) [0, 1, 2, 3, 4, 5, 24] (ak1 p m e [.row 54 (D.events (I1 m e).snd)]) [(6, iA 0), (7, .v (.slice none 0 0)), (8, bA false), (9, iA (I1 m e).fst), (10, .ref 6)] fun G => b5 (wp_seq (n6 G l6 [(6, iA (I1 m e).fst), (7, .ref 6), (8, bA true)] fun G => b5 (wp_ret ?_))))))); exact rxv (.tup [iA (I1 m e).fst, .ref 6, bA true]) G (rg 7) (by have e1 : ((A9 p m e).fst : Int) = ((I1 m e).fst) := (by rw [(aM9 (by with_reducible assumption) (by with_reducible assumption)).2]); have e2 : (F9 p m e : Bool) = (true) := ((aM9 (by with_reducible assumption) (by with_reducible assumption)).1); (first | rw [e1, e2] | simp only [e1, e2]) <;> rfl) (by show _ = mR (rg 7) (aq1 p m e); unfold aq1; have e1 : ((A9 p m e).snd : List (Int × Int)) = ((I1 m e).snd) := (by rw [(aM9 (by with_reducible assumption) (by with_reducible assumption)).2]); (first | rw [e1] | simp only [e1]) <;> rfl)
   · have q1 : (l8 p.vars.length p.arrays.length e) = false := (Eq.mp (bf8 _) h1); refine rT G _ h1 (wp_seq (B6 G l6 (rg 9) (ak1 p m e [.box [.ref 3, .ref 4], .box (eL e 5), .row 54 (D.events [])]) [(4, .ptr 6 0), (5, .ptr 7 0), (6, iA 0), (7, .ref 8), (8, bA false)] fun G => b5 (wp_ret (m7 ?_)))); exact rxv (.tup [iA 0, .ref 8, bA false]) G [0, 1, 2, 3, 4, 5, 8] (by have e1 : ((A9 p m e).fst : Int) = (0) := (by rw [(ar3 (by with_reducible assumption)).2]); have e2 : (F9 p m e : Bool) = (false) := ((ar3 (by with_reducible assumption)).1); (first | rw [e1, e2] | simp only [e1, e2]) <;> rfl) (by show _ = mR [0, 1, 2, 3, 4, 5, 8] (aq1 p m e); unfold aq1; have e1 : ((A9 p m e).snd : List (Int × Int)) = ([]) := (by rw [(ar3 (by with_reducible assumption)).2]); (first | rw [e1] | simp only [e1]) <;> rfl)
  · have q0 : (mvB p m) = false := (Eq.mp (bf8 _) h0); refine B6 G (E3 (A1 2 (rg 5) (X9 p m (by assumption)) E2) (fc h0 fz) (us [(5, 8, 0), (1009, 1009, 0)])) [0, 1, 2, 3, 4, 5, 7, 8] (ak1 p m e [.box [.ref 3, .ref 4], .box (eL e 5)]) [(4, .ptr 6 0), (5, .ptr 7 0), (6, iA 0), (7, .v (.slice none 0 0)), (8, bA false), (20, bA true)] fun G => b5 (rT G true (by kernel_rfl) (wp_seq (B6 G l6 (rg 9) (ak1 p m e [.box [.ref 3, .ref 4], .box (eL e 5), .row 54 (D.events [])]) [(4, .ptr 6 0), (5, .ptr 7 0), (6, iA 0), (7, .ref 8), (8, bA false)] fun G => b5 (wp_ret (m7 ?_))))); exact rxv (.tup [iA 0, .ref 8, bA false]) G [0, 1, 2, 3, 4, 5, 8] (by have e1 : ((A9 p m e).fst : Int) = (0) := (by rw [(ar4 (by with_reducible assumption)).2]); have e2 : (F9 p m e : Bool) = (false) := ((ar4 (by with_reducible assumption)).1); (first | rw [e1, e2] | simp only [e1, e2]) <;> rfl) (by show _ = mR [0, 1, 2, 3, 4, 5, 8] (aq1 p m e); unfold aq1; have e1 : ((A9 p m e).snd : List (Int × Int)) = ([]) := (by rw [(ar4 (by with_reducible assumption)).2]); (first | rw [e1] | simp only [e1]) <;> rfl)
abbrev aq0 (p : l9) (m : A6) (e : b7) : List It := [dI p.vars, dI p.arrays, dT p.body, dI m.vals, dR m.arrs, dE e.kids, .row 54 (D.events (A9 p m e).snd)]
abbrev Z6 (p : l9) (m : A6) (e : b7) (r0 : List It) : List It := dI p.vars :: dI p.arrays :: dT p.body :: dI m.vals :: dR m.arrs :: dE e.kids :: r0
abbrev ah3 (r0 : List (Nat × AV)) : List (Nat × AV) := (6, iA 0) :: (7, .v (.slice none 0 0)) :: (8, bA false) :: r0
theorem ax7 (p : l9) (m : A6) (e : b7) : t6.ok Try.prog ⟨29, [pA 0, mA 3, eA e 5], pS p ++ mS m ++ eS e, pS p ++ mS m ++ eS e ++ [.row 54 (.events (A9 p m e).2)], .tup [iA (A9 p m e).1, .ref 6, bA (F9 p m e)]⟩ := by
  have hmv := bb3 p m
  have hie := fun h h2 => a27 (p := p) (m := m) (e := e) h h2
  refine M7 32 Try.func29 (Z6 p m e []) [(0, pA 0), (1, .agg [.ref 3, .ref 4]), (2, eA e 5)] fun G => ?_; refine wp_seq (B6 G l6 [0, 1, 2, 3, 4, 5, 6, 14, 22] (Z6 p m e [.box (pL 0), .box [.ref 3, .ref 4], .box (eL e 5)]) ((3, .ptr 6 0) :: (4, .ptr 7 0) :: (5, .ptr 8 0) :: (ah3 [])) fun G => b5 (wp_seq (wp_seq ?_))); cases h0 : (!mvB p m)
  ·
   have q0 : (mvB p m) = true := (Eq.mp (bg1 _) h0); refine B6 G (E3 (A1 2 (rg 5) hmv (A1 7 [0, 1, 2, 5] (L6 p e) E2)) (fc h0 fz) (us [(5, 8, 0), (1009, 1009, 0)])) [0, 1, 2, 3, 4, 5, 7, 8] (Z6 p m e [.box [.ref 3, .ref 4], .box (eL e 5)]) ((4, .ptr 6 0) :: (5, .ptr 7 0) :: (ah3 [(20, .v (.bool !l8 p.vars.length p.arrays.length e))])) fun G => b5 ?_; cases h1 : (!l8 p.vars.length p.arrays.length e)
   · have q1 : (l8 p.vars.length p.arrays.length e) = true := (Eq.mp (bg1 _) h1); refine rF G _ h1 (wp_skip (b5 (wp_seq (B6 G l6 [0, 1, 2, 3, 4, 5, 7, 24] (Z6 p m e [.box (eL e 5), .box [.ref 3, .ref 4, .v (.slice none 0 0)]]) ((5, .ptr 6 0) :: (ah3 [(9, .ptr 7 0)])) fun G => b5 (wp_seq ?_))))); obtain ⟨ρ, G⟩ := G.nil 8 54 (.events []) 6 (Z6 p m e [.box (eL e 5), .box [.ref 3, .ref 4, .ref 8]]) ((5, .ptr 6 0) :: (ah3 [(9, .ptr 7 0)])); refine B6 G (Q6 2 [7, 3, 4, 8, 5] (hie (by assumption) (by assumption))) [0, 1, 2, 3, 4, 5, 7, 25] (Z6 p m e [.box [.ref 3, .ref 4, .ref 7], .row 54 (D.events ([] ++ (I1 m e).snd))]) (ah3 [(9, .ptr 6 0), (10, iA (I1 m e).fst)]) fun G => b5 (wp_seq (a70 G l6 [0, 0, 2, 6, 14, 1, 63, 127] [0, 1, 2, 3, 4, 5, 7] (Z6 p m e [.row 54 (D.events ([] ++ (I1 m e).snd))]) [(6, iA (I1 m e).fst), (7, .ref 6), (8, bA true)] fun G => b5 (wp_ret ?_))); exact rxv (.tup [iA (I1 m e).fst, .ref 6, bA true]) G (rg 7) (by have e1 : ((A9 p m e).fst : Int) = ((I1 m e).fst) := (by rw [(aM9 (by with_reducible assumption) (by with_reducible assumption)).2]); have e2 : (F9 p m e : Bool) = (true) := ((aM9 (by with_reducible assumption) (by with_reducible assumption)).1); (first | rw [e1, e2] | simp only [e1, e2]) <;> rfl) (by show _ = mR (rg 7) (aq0 p m e); unfold aq0; rw [(aM9 (by with_reducible assumption) (by with_reducible assumption)).2] <;> rfl)
   · have q1 : (l8 p.vars.length p.arrays.length e) = false := (Eq.mp (bf8 _) h1); refine rT G _ h1 (wp_seq (O5 G l6 ((4, .ptr 6 0) :: (5, .ptr 7 0) :: (ah3 [])) fun G => b5 (wp_ret (m7 ?_)))); obtain ⟨ρ, G⟩ := G.nil 8 54 (.events []) 6 (Z6 p m e [.box [.ref 3, .ref 4], .box (eL e 5)]) [(4, .ptr 6 0), (5, .ptr 7 0), (6, iA 0), (7, .ref 8), (8, bA false)]; exact rxv (.tup [iA 0, .ref 8, bA false]) G [0, 1, 2, 3, 4, 5, 8] (by have e1 : ((A9 p m e).fst : Int) = (0) := (by rw [(ar3 (by with_reducible assumption)).2]); have e2 : (F9 p m e : Bool) = (false) := ((ar3 (by with_reducible assumption)).1); (first | rw [e1, e2] | simp only [e1, e2]) <;> rfl) (by show _ = mR [0, 1, 2, 3, 4, 5, 8] (aq0 p m e); unfold aq0; have e1 : ((A9 p m e).snd : List (Int × Int)) = ([]) := (by rw [(ar3 (by with_reducible assumption)).2]); (first | rw [e1] | simp only [e1]) <;> rfl)
  · have q0 : (mvB p m) = false := (Eq.mp (bf8 _) h0); refine B6 G (E3 (A1 2 (rg 5) hmv E2) (fc h0 fz) (us [(5, 8, 0), (1009, 1009, 0)])) [0, 1, 2, 3, 4, 5, 7, 8] (Z6 p m e [.box [.ref 3, .ref 4], .box (eL e 5)]) ((4, .ptr 6 0) :: (5, .ptr 7 0) :: (ah3 [(20, bA true)])) fun G => b5 (rT G true (by kernel_rfl) (wp_seq (O5 G l6 ((4, .ptr 6 0) :: (5, .ptr 7 0) :: (ah3 [])) fun G => b5 (wp_ret (m7 ?_))))); obtain ⟨ρ, G⟩ := G.nil 8 54 (.events []) 6 (Z6 p m e [.box [.ref 3, .ref 4], .box (eL e 5)]) [(4, .ptr 6 0), (5, .ptr 7 0), (6, iA 0), (7, .ref 8), (8, bA false)]; exact rxv (.tup [iA 0, .ref 8, bA false]) G [0, 1, 2, 3, 4, 5, 8] (by have e1 : ((A9 p m e).fst : Int) = (0) := (by rw [(ar4 (by with_reducible assumption)).2]); have e2 : (F9 p m e : Bool) = (false) := ((ar4 (by with_reducible assumption)).1); (first | rw [e1, e2] | simp only [e1, e2]) <;> rfl) (by show _ = mR [0, 1, 2, 3, 4, 5, 8] (aq0 p m e); unfold aq0; have e1 : ((A9 p m e).snd : List (Int × Int)) = ([]) := (by rw [(ar4 (by with_reducible assumption)).2]); (first | rw [e1] | simp only [e1]) <;> rfl)
def W3 (x : Int) (n : Nat) : List Int := (bg0 n).map fun (i : Nat) => x + (i : Int)
theorem aJ4 (x : Int) (n : Nat) : (W3 x n).length = n := by simp [W3]
theorem aU1 (x : Int) (n : Nat) : W3 x (n + 1) = W3 x n ++ [x + (n : Int)] := by unfold W3; rw [List.range_succ, List.map_append]; rfl
theorem aT4 {α : Type} {l m : List α} {j : Nat} {y : α} (hl : l.length = j) (hj : j < m.length) : (l ++ m.drop j).set j y = (l ++ [y]) ++ m.drop (j + 1) := by
 rw [List.set_append_right _ _ (by omega), hl, Nat.sub_self, List.drop_eq_getElem_cons hj, List.set_cons_zero, List.append_assoc]
 rfl
theorem a16 {l : List Int} {x : Int} {j : Nat} (hj : (j : Int) < l.length) : (W3 x j ++ l.drop j).set j (x + (j : Int)) = W3 x (j + 1) ++ l.drop (j + 1) := by
 rw [aT4 (aJ4 x j) (by omega), aU1]
theorem a18 {l : List Int} {x : Int} {j : Nat} (hj : l.length ≤ j) (h2 : j ≤ l.length) : W3 x j ++ l.drop j = W3 x l.length := by
 rw [List.drop_eq_nil_of_le hj, List.append_nil, Nat.le_antisymm h2 hj]
theorem aU3 {l : List Int} {x : Int} {j : Nat} (hj : l.length ≤ j) (h2 : j ≤ l.length) : W3 x l.length = W3 x j ++ l.drop j := (a18 hj h2).symm
theorem a17 {l : List Int} {x : Int} {j : Nat} (h2 : j ≤ l.length) : (W3 x j ++ l.drop j).length = l.length := by simp [aJ4]; omega
theorem aC4 (xs : List Int) : t6.ok Try.prog (L4 119 [.ref 0, .ref 1] [dI xs, dI xs] (bA true)) := by
 refine M7 26 Try.func119 [dI xs, dI xs] [(0, .ref 0), (1, .ref 1)] fun G => ?_; have hl : xs.length ≤ 9223372036854775807 := G.len 0 (d := .ints xs) (by kernel_rfl); refine wp_seq (O5 G l6 [(0, .ref 0), (1, .ref 1), (4, bA false)] fun G => b5 (wp_seq (wp_seq (n6 G l6 [(10, bA ((xs.length : Int) != (xs.length : Int)))] fun G => b5 (rF G ((xs.length : Int) != (xs.length : Int)) (by simp) (wp_skip (b5 (wp_seq (wp_seq (O5 G l6 [(0, .ref 0), (1, .ref 1), (4, bA false), (5, iA 0)] fun G => b5 (wp_block ?_))))))))))); refine E9 (κ := Nat) (fun k => k ≤ xs.length) (fun k => xs.length - k) (fun k => [dI xs, dI xs]) (fun k => [(0, .ref 0), (1, .ref 1), (4, bA false), (5, iA k)]) 0 (by omega) (B4.at G _ _) ?_; clear G; intro k ρ a w hp G; refine wp_seq (wp_seq (n6 G l6 [(14, bA (decide ((k : Int) < xs.length)))] fun G => b5 (rcD G (fun h0 q0 => ?_) fun h0 q0 => ?_)))
 ·refine wp_exit (E6 (E6 (E5 (b5 (wp_seq (n6 G l6 [(4, bA true)] fun G => b5 (wp_ret ?_))))))); exact rxr G [0, 1]
 ·refine wp_skip (b5 (wp_seq (wp_block (wp_seq (at6 G l6 [0, 0, 3, 7, 0, 0, 48, 112, 255] [(25, bA (xs.getD k 0 != xs.getD k 0))] (iX k k xs.length (iX k k xs.length [])) (iK (by omega) (iK (by omega) bf4)) fun G => b5 (rF G (xs.getD k (0 : Int) != xs.getD k (0 : Int)) (by simp [h0]) (wp_skip (I9 (b5 (J6 G l6 [(5, iA ((k : Int) + 1))] [wO ((k : Int) + 1)] (o1 (by omega)) fun G => b5 ?_)))))))))); exact rxn G (k + 1) (by omega) (by omega) [0, 1]
theorem aU2 {l : List Int} {x y : Int} {j : Nat} (hy : y = x + (j : Int)) (hj : (j : Int) < l.length) : W3 x (j + 1) ++ l.drop (j + 1) = (W3 x j ++ l.drop j).set j y := by rw [hy, a16 hj]
theorem an6 (l : List Int) (x : Int) (r0 : 0 ≤ x) (r1 : x + l.length ≤ 9000000000000000000) : t6.ok Try.prog ⟨122, [.ref 0, iA x], [.row 3 (.ints l)], [.row 3 (.ints (W3 x l.length))], iA (x + l.length)⟩ := by
 refine M7 19 Try.func122 [.row 3 (D.ints l)] [(0, .ref 0), (1, iA x)] fun G => ?_; refine wp_seq (n6 G l6 [(4, iA 0)] fun G => b5 (wp_seq (wp_seq (O5 G l6 [(0, .ref 0), (1, iA x), (4, iA 0), (5, iA 0)] fun G => b5 (wp_block ?_))))); refine E9 (κ := Nat × Int) (fun k => k.2 = x + (k.1 : Int) ∧ k.1 ≤ l.length) (fun k => l.length - k.1) (fun k => [.row 3 (.ints (W3 x k.1 ++ l.drop k.1))]) (fun k => [(0, .ref 0), (1, iA k.2), (4, iA 0), (5, iA k.1)]) ((0, x)) (by omega) (B4.at G _ _) ?_; clear G; intro k ρ a w hp G; replace G := B4.at G [.row 3 (D.ints (W3 x k.fst ++ bi7 k.fst l))] [(0, .ref 0), (1, iA k.snd), (4, iA 0), (5, iA (k.fst : Int))]; have hrl := a17 (l := l) (x := x) hp.2; refine wp_seq (wp_seq (n6 G l6 [(9, bA (decide ((k.fst : Int) < ((W3 x k.fst ++ bi7 k.fst l).length : Int))))] fun G => b5 (rcD G (fun h0 q0 => ?_) fun h0 q0 => ?_)))
 ·refine wp_exit (E6 (E6 (E5 (b5 (wp_seq (n6 G l6 [(4, iA k.snd)] fun G => b5 (wp_ret ?_))))))); exact Y6 k.snd G [0] (by omega) (by show _ = mR [0] [.row 3 (D.ints (W3 x l.length))]; have e1 : (W3 x l.length : List Int) = (W3 x k.fst ++ bi7 k.fst l) := (by have h2 := hp.2; exact aU3 (by omega) (by omega)); (first | rw [e1] | simp only [e1]) <;> rfl)
 ·refine wp_skip (b5 (wp_seq (wp_block (wp_seq (rA1 G l6 [0] [.row 3 (D.ints ((W3 x k.fst ++ bi7 k.fst l).set k.fst k.snd))] [(0, .ref 0), (1, iA k.snd), (4, iA 0), (5, iA (k.fst : Int))] (iX k.fst k.fst ((W3 x k.fst ++ bi7 k.fst l).length) []) (iK (by omega) bf4) fun G => b5 (J6 G l6 [(1, iA (k.snd + 1))] [wO (k.snd + 1)] (o1 (by omega)) fun G => I9 (b5 (J6 G l6 [(5, iA ((k.fst : Int) + 1))] [wO ((k.fst : Int) + 1)] (o1 (by omega)) fun G => b5 ?_)))))))); exact rxn G ((k.1 + 1, k.2 + 1)) (by omega) (by omega) [0] (by have e1 : (W3 x (k.fst + 1) ++ bi7 (k.fst + 1) l : List Int) = ((W3 x k.fst ++ bi7 k.fst l).set k.fst k.snd) := (aU2 hp.1 (by omega)); (first | rw [e1] | simp only [e1]) <;> rfl)
def T6 (m : List (List Int)) : Nat := (m.map List.length).sum
theorem ac9 {m : List (List Int)} {k : Nat} (h : k < m.length) : T6 (m.take (k + 1)) = T6 (m.take k) + (m.getD k []).length := by
 unfold T6
 rw [s8 _ _ h, List.map_append, List.sum_append, w8 h]
 simp only [bh1, List.map_nil, List.sum_cons, List.sum_nil, bi2]
theorem aR7 (m : List (List Int)) (k : Nat) : T6 (m.take k) ≤ T6 m := by
 have := congrArg T6 (List.take_append_drop k m)
 simp only [T6, List.map_append, List.sum_append] at this ⊢
 omega
theorem aI5 {m : List (List Int)} {k : Nat} (h : m.length ≤ k) : T6 (m.take k) = T6 m := by rw [bf6 h]
def mkR : Int → List (List Int) → List (List Int)
 | _, [] => []
 | x, r :: m => W3 x r.length :: mkR (x + r.length) m
theorem ad3 : ∀ (x : Int) (m : List (List Int)), (mkR x m).length = m.length
 | _, [] => rfl
 | x, r :: m => by simp [mkR, ad3]
theorem aT8 : ∀ (x : Int) (m : List (List Int)) (k : Nat), k < m.length → (mkR x m).getD k [] = W3 (x + T6 (m.take k)) (m.getD k []).length
 | _, [], k, h => by simp at h
 | x, r :: m, 0, _ => by simp [mkR, T6]
 | x, r :: m, k + 1, h => by
  have := aT8 (x + r.length) m k (by simpa using h)
  simp only [mkR, List.getD_cons_succ, List.take_succ_cons]
  rw [this]
  simp [T6, Int.add_assoc]
def mxR (x : Int) (m : List (List Int)) (k : Nat) : List (List Int) := (mkR x m).take k ++ m.drop k
theorem a08 (x : Int) (m : List (List Int)) (k : Nat) : (mxR x m k).length = m.length := by
 unfold mxR
 rw [bh9, bi5, List.length_drop, ad3]
 omega
theorem a09 {x : Int} {m : List (List Int)} {k : Nat} (h : m.length ≤ k) : mxR x m k = mkR x m := by
 unfold mxR
 rw [bf6 (by rw [ad3]; exact h), List.drop_eq_nil_of_le h, List.append_nil]
theorem aG2 {x : Int} {m : List (List Int)} {k : Nat} (h : k < m.length) : (mxR x m k).getD k [] = m.getD k [] := by
 unfold mxR
 rw [bf2, bh6 (by rw [bi5]; omega), bi5, ad3, Nat.min_eq_left (by omega), Nat.sub_self, List.getElem?_drop, bi2, ← bf2]
theorem aT1 {x : Int} {m : List (List Int)} {k : Nat} (h : k < m.length) : mxR x m (k + 1) = (mxR x m k).set k (W3 (x + T6 (m.take k)) (m.getD k []).length) := by
 have hk : k < (mkR x m).length := by rw [ad3]; exact h
 have hl : ((mkR x m).take k).length = k := by rw [bi5]; omega
 have hat := aT8 x m k h
 rw [w8 hk] at hat
 unfold mxR
 rw [List.set_append_right _ _ (by omega), hl, Nat.sub_self, List.drop_eq_getElem_cons h, List.set_cons_zero, s8 _ _ hk, hat]
 simp
theorem az3 {ι : Type} {φ ψ : Nat → Prop} {w0 w w' : World} {F : ι → Rs} {ρ : Nat → Value} {d0 d : D} {u : Value} {T : Nat → Prop} (M : m0 φ ψ w0 w (n7 F ρ (t4 [.dat d0]))) (hbl : Below w.heap.size w w') (hT : A7 w' T d u) (hg : ∀ b, T b → w.heap.size ≤ b) :
  ∃ ρ', (∀ i, i < [It.dat d0].length → ρ' i = ρ i) ∧ Ending.returned u = .returned ((AV.tref 1).val ρ') ∧ m0 φ ψ w0 w' (n7 F ρ' (t4 [.dat d0, .tree d])) := by
 obtain ⟨z, hz1, hz2⟩ := ac0 u (fun b => T b ∧ b < w'.heap.size) w'.heap.size fun b h => h.2
 refine ⟨fun i => if i = 1 then z else ρ i, fun i hi => if_neg (show ¬ i = 1 by have : i < 1 := hi; omega), by simp [AV.val, hz1], ?_⟩
 refine M.grow hbl (fun k => k = .inr 1) (fun k hk => ?_) ?_ ?_ ?_
 ·cases k with
  | inl i => rfl
  | inr j =>
   match j, hk with
   | 0, _ => rfl
   | 1, h => exact absurd rfl h
   | j + 2, _ => rfl
 ·rintro k rfl b hb; exact hg b ((hz2 b).1 hb).1
 ·rintro j k b hjk rfl rfl; exact absurd rfl hjk
 ·rintro k rfl
  have e : v5 z = fun b => T b ∧ b < w'.heap.size := funext fun b => propext (hz2 b)
  show (Rs.own (v5 z) fun w => A7 w (v5 z) d (D8 z)).holds _ _
  rw [hz1, e]
  exact ⟨fun _ _ h hs => h.same hs, hT.cut, fun b hb => hb.2⟩
theorem aS8 {ι : Type} {φ ψ : Nat → Prop} {w0 w w' : World} {F : ι → Rs} {ρ : Nat → Value} {d0 : D} {u : Value} {l : List Int} {hi : Nat} (M : m0 φ ψ w0 w (n7 F ρ (t4 [.dat d0]))) (hbl : Below w.heap.size w w') (ho : I5 w' w.heap.size hi 3 1 u l.length (ints l)) :
  ∃ ρ', (∀ i, i < [It.dat d0].length → ρ' i = ρ i) ∧ Ending.returned u = .returned ((AV.ref 1).val ρ') ∧ m0 φ ψ w0 w' (n7 F ρ' (t4 [.dat d0, .row 3 (.ints l)])) := by
 refine ⟨fun i => if i = 1 then u else ρ i, fun i hi => if_neg (show ¬ i = 1 by have : i < 1 := hi; omega), by simp [AV.val], ?_⟩
 refine M.grow hbl (fun k => k = .inr 1) (fun k hk => ?_) ?_ ?_ ?_
 ·cases k with
  | inl i => rfl
  | inr j =>
   match j, hk with
   | 0, _ => rfl
   | 1, h => exact absurd rfl h
   | j + 2, _ => rfl
 ·rintro k rfl b hb; exact (World.ownsRow.lt ho.1 b hb).1
 ·rintro j k b hjk rfl rfl; exact absurd rfl hjk
 ·rintro k rfl; exact S8 (D2 ho.1 (bg3 _))
theorem aP9 (l : List Int) (hb : l.length ≤ 1048576) : t6.ok Try.prog ⟨113, [.ref 0], [dI l], [dI l, .row 3 (.ints l)], .ref 1⟩ := by
 intro ι φ ψ w0 w F ρ M
 have hr := M.datAt (id := 0) (d := .ints l) rfl
 refine (T8 (ρ 0) l w (B2.row hr) (by omega)).mono ?_
 rintro e w' ⟨u, rfl, ho, hbl⟩
 exact aS8 M hbl ho
theorem aL6 (m : List (List Int)) (hb : m.length + T6 m ≤ 1048576) : t6.ok Try.prog ⟨115, [.ref 0], [dR m], [dR m, .tree (.rows m)], .tref 1⟩ := by
 intro ι φ ψ w0 w F ρ M
 have hr := M.datAt (id := 0) (d := .rows m) rfl
 refine (ax4 (ρ 0) m w (aZ7 hr) hb).mono ?_
 rintro e w' ⟨u, rfl, ho, hbl⟩
 exact az3 M hbl (aU5 ho) fun b h => h.1
theorem aB7 (l : List Int) (q : Int) (h0 : 0 ≤ q) (h1 : q ≤ 1048576) : t6.ok Try.prog (L4 108 [.ref 0, iA q] [dI l] (iA (m8 q l.length))) :=
 N1 fun φ w ρ h => (aa6 (ρ 0) l.length (ints l) q w (B2.row (h 0 (.ints l) rfl)) h0 h1).mono fun e w' ⟨h1, h2⟩ => ⟨h1, h2 ▸ Below.refl _ _⟩
theorem a59 {q : Int} {n : Nat} (h : m8 q n < 0) (h0 : 0 ≤ q) : q < n := by
 rcases Int.lt_or_le q n with h1 | h1
 ·exact h1
 ·rw [v8 (by omega)] at h; omega
theorem aQ2 {q : Int} {n : Nat} (h : ¬ m8 q n < 0) : ¬ q < n ∧ m8 q n = q - n := by
 by_cases h1 : q < n
 ·rw [s5 h1] at h; omega
 ·exact ⟨h1, v8 h1⟩
theorem aN4 (m : List (List Int)) (q : Int) (r0 : 0 ≤ q) (r1 : q ≤ 1048576) : t6.ok Try.prog (L4 110 [.ref 0, iA q] [dR m] (iA (m8 q (m.length + T6 m)))) := by
  refine M7 27 Try.func110 [dR m] [(0, .ref 0), (1, iA q)] fun G => ?_; have hl : m.length ≤ 9223372036854775807 := G.len 0 (d := .rows m) (by kernel_rfl); refine wp_seq (O5 G l6 [(0, .ref 0), (1, iA q), (4, iA 0)] fun G => b5 (wp_seq (J6 G l6 [(1, iA (q - (m.length : Int)))] [wO (q - (m.length : Int))] (o1 (by omega)) fun G => b5 (wp_seq (wp_seq (n6 G l6 [(11, bA (decide (q - (m.length : Int) < 0)))] fun G => b5 (rcD G (fun h0 q0 => ?_) fun h0 q0 => ?_)))))))
  ·
   refine wp_skip (b5 (wp_seq (wp_seq (O5 G l6 [(0, .ref 0), (1, iA (q - (m.length : Int))), (4, iA 0), (5, iA 0)] fun G => b5 (wp_block ?_))))); refine E9 (κ := Nat × Int) (fun k => k.2 = q - m.length - T6 (m.take k.1) ∧ k.1 ≤ m.length ∧ 0 ≤ k.2) (fun k => m.length - k.1) (fun k => [dR m]) (fun k => [(0, .ref 0), (1, iA k.2), (4, iA 0), (5, iA k.1)]) ((0, q - m.length)) (⟨by simp [T6], bg3 _, by omega⟩) (B4.at G _ _) ?_; clear G; intro k ρ a w hp G; replace G := B4.at G [dR m] [(0, .ref 0), (1, iA k.snd), (4, iA 0), (5, iA (k.fst : Int))]; refine wp_seq (wp_seq (n6 G l6 [(15, bA (decide ((k.fst : Int) < m.length)))] fun G => b5 (rcD G (fun h1 q1 => ?_) fun h1 q1 => ?_)))
   · refine wp_exit (E6 (E6 (E5 (b5 (wp_seq (n6 G l6 [(4, iA k.snd)] fun G => b5 (wp_ret ?_))))))); exact Y6 k.snd G [0] (by have h9 := aI5 (m := m) (k := k.1) (by omega); have h8 := hp.1; have h7 := hp.2.2; rw [v8 (by omega)]; omega)
   ·
    refine wp_skip (b5 (wp_seq (wp_block (wp_seq (J6 G (Q6 5 [25] (aB7 (m.getD k.fst []) k.snd (by omega) (by omega))) [(1, iA (m8 k.snd (m.getD k.fst []).length))] (iX k.fst k.fst m.length []) (iK (by omega) bf4) fun G => b5 (wp_seq (n6 G l6 [(25, bA (decide (m8 k.snd (m.getD k.fst []).length < 0)))] fun G => b5 (rcD G (fun h2 q2 => ?_) fun h2 q2 => ?_))))))))
    · refine wp_skip (I9 (b5 (J6 G l6 [(5, iA ((k.fst : Int) + 1))] [wO ((k.fst : Int) + 1)] (o1 (by omega)) fun G => b5 ?_))); exact rxn G ((k.1 + 1, k.2 - ((m.getD k.1 []).length : Int))) (by have h9 := aQ2 (q := k.2) (n := (m.getD k.1 []).length) (by omega); exact ⟨by have h1 := hp.1; have h2 := ac9 (m := m) (k := k.1) (by omega); show k.2 - _ = q - _ - ((T6 (m.take (k.1 + 1)) : Nat) : Int); omega, by have h1 := hp.2.1; show k.1 + 1 ≤ _; omega, by show 0 ≤ k.2 - _; omega⟩) (by omega) [0] (ht := by have e1 : (k.snd - ((m.getD k.fst []).length : Int) : Int) = (m8 k.snd (m.getD k.fst []).length) := ((aQ2 (by omega)).2.symm); (first | rw [e1] | simp only [e1]) <;> rfl)
    · refine wp_seq (n6 G l6 [(4, iA (-1))] fun G => b5 (wp_ret (B8 (m7 (m7 (B8 (m7 ?_))))))); exact Y6 (-1) G [0] (by have h9 := a59 (q := k.2) (n := (m.getD k.1 []).length) (by omega) hp.2.2; have h8 := ac9 (m := m) (k := k.1) (by omega); have h7 := aR7 m (k.1 + 1); have h6 := hp.1; exact s5 (by omega))
  · refine wp_seq (n6 G l6 [(4, iA (-1))] fun G => b5 (wp_ret (m7 ?_))); exact Y6 (-1) G [0] (s5 (by omega))
abbrev mZ (m : A6) : Nat := m.vals.length + (m.arrs.length + T6 m.arrs)
theorem aQ3 (q : Int) (a b : Nat) (h : ¬ m8 q a < 0) (h0 : 0 ≤ q) : m8 (m8 q a) b = m8 q (a + b) := by
 obtain ⟨h1, h2⟩ := aQ2 h
 rw [h2]
 by_cases h3 : q - (a : Int) < b
 ·rw [s5 h3, s5 (by omega)]
 ·rw [v8 h3, v8 (by omega)]; omega
theorem a60 (q : Int) (a b : Nat) (h : m8 q a < 0) (h0 : 0 ≤ q) : -1 = m8 q (a + b) := by
 have := a59 h h0
 rw [s5 (by omega)]
theorem aY0 (q : Int) (a b : Nat) (h : ¬ m8 q a < 0) (h2 : m8 (m8 q a) b < 0) (h0 : 0 ≤ q) : -1 = m8 q (a + b) := by
 rw [← aQ3 q a b h h0]
 have := a59 h2 (by omega)
 rw [s5 this]
theorem aH2 (m : A6) (q : Int) (r0 : 0 ≤ q) (r1 : q ≤ 1048576) : t6.ok Try.prog (L4 39 [mA 0, iA q] (mS m) (iA (m8 q (mZ m)))) := by
  refine M7 18 Try.func39 [dI m.vals, dR m.arrs] [(0, .agg [.ref 0, .ref 1]), (1, iA q)] fun G => ?_; refine wp_seq (B6 G l6 [0, 1, 2] [dI m.vals, dR m.arrs, .box [.ref 0, .ref 1]] [(1, iA q), (2, .ptr 2 0), (4, iA 0)] fun G => b5 (wp_seq (n6 G (Q6 3 [0] (aB7 m.vals q (by assumption) (by assumption))) [(1, iA (m8 q m.vals.length))] fun G => b5 (wp_seq (wp_seq (n6 G l6 [(10, bA (decide (m8 q m.vals.length < 0)))] fun G => b5 (rcD G (fun h0 q0 => ?_) fun h0 q0 => ?_)))))))
  ·
   refine wp_skip (b5 (wp_seq (B6 G (Q6 3 [1] (aN4 m.arrs (m8 q m.vals.length) (by omega) (by have h9 := aQ2 (q := q) (n := m.vals.length) (by omega); omega))) [0, 1] [dI m.vals, dR m.arrs] [(1, iA (m8 (m8 q m.vals.length) (m.arrs.length + T6 m.arrs))), (4, iA 0)] fun G => b5 (wp_seq (wp_seq (n6 G l6 [(16, bA (decide (m8 (m8 q m.vals.length) (m.arrs.length + T6 m.arrs) < 0)))] fun G => b5 (rcD G (fun h1 q1 => ?_) fun h1 q1 => ?_)))))))
   · refine wp_skip (b5 (wp_seq (n6 G l6 [(4, iA (m8 (m8 q m.vals.length) (m.arrs.length + T6 m.arrs)))] fun G => b5 (wp_ret ?_)))); exact Y6 (m8 (m8 q m.vals.length) (m.arrs.length + T6 m.arrs)) G [0, 1] ((aQ3 _ _ _ (by omega) r0).symm)
   · refine wp_seq (n6 G l6 [(4, iA (-1))] fun G => b5 (wp_ret (m7 ?_))); exact Y6 (-1) G [0, 1] ((aY0 _ _ _ (by omega) (by omega) r0).symm)
  · refine wp_seq (n6 G l6 [(4, iA (-1))] fun G => b5 (wp_ret (m7 ?_))); exact Y6 (-1) G [0, 1] ((a60 _ _ _ (by omega) r0).symm)
abbrev ax1 : It := .box [.v (.slice none 0 0), .v (.slice none 0 0)]
theorem aD7 (m : A6) (hb : mZ m ≤ 1048576) : t6.ok Try.prog ⟨42, [mA 0], mS m, mS m ++ mO m, mT 2⟩ := by
 have hb2 : m.vals.length + (m.arrs.length + T6 m.arrs) ≤ 1048576 := hb; have ha := aP9 m.vals (by omega); have hc := aL6 m.arrs (by omega); refine M7 13 Try.func42 [dI m.vals, dR m.arrs] [(0, .agg [.ref 0, .ref 1])] fun G => ?_; refine wp_seq (B6 G l6 [0, 1, 2, 10] [dI m.vals, dR m.arrs, .box [.ref 0, .ref 1], ax1] [(1, .ptr 2 0), (2, .ptr 3 0)] fun G => b5 (wp_seq (B6 G l6 (rg 5) [dI m.vals, dR m.arrs, .box [.ref 0, .ref 1], ax1, ax1] [(1, .ptr 2 0), (2, .ptr 3 0), (3, .ptr 4 0)] fun G => b5 (wp_seq (B6 G (Q6 2 [0] ha) [0, 1, 2, 3, 4, 21] [dI m.vals, dR m.arrs, .box [.ref 0, .ref 1], ax1, .box [.ref 5, .v (.slice none 0 0)], .row 3 (D.ints m.vals)] [(1, .ptr 2 0), (2, .ptr 3 0), (3, .ptr 4 0)] fun G => b5 (wp_seq (B6 G (Q6 2 [1] hc) [0, 1, 3, 4, 5, 22] [dI m.vals, dR m.arrs, ax1, .box [.ref 4, .tref 5], .row 3 (D.ints m.vals), .tree (D.rows m.arrs)] [(2, .ptr 2 0), (3, .ptr 3 0)] fun G => b5 (wp_seq (B6 G l6 [0, 1, 2, 4, 5] [dI m.vals, dR m.arrs, .box [.ref 3, .tref 4], .row 3 (D.ints m.vals), .tree (D.rows m.arrs)] [(2, .ptr 2 0)] fun G => b5 (wp_ret ?_)))))))))); exact rxr G [0, 1, 3, 4]
theorem aO3 (xs : List (List Int)) : t6.ok Try.prog (L4 120 [.ref 0, .ref 1] [dR xs, dR xs] (bA true)) := by
 refine M7 27 Try.func120 [dR xs, dR xs] [(0, .ref 0), (1, .ref 1)] fun G => ?_; have hl : xs.length ≤ 9223372036854775807 := G.len 0 (d := .rows xs) (by kernel_rfl); refine wp_seq (O5 G l6 [(0, .ref 0), (1, .ref 1), (4, bA false)] fun G => b5 (wp_seq (wp_seq (n6 G l6 [(10, bA ((xs.length : Int) != (xs.length : Int)))] fun G => b5 (rF G ((xs.length : Int) != (xs.length : Int)) (by simp) (wp_skip (b5 (wp_seq (wp_seq (O5 G l6 [(0, .ref 0), (1, .ref 1), (4, bA false), (5, iA 0)] fun G => b5 (wp_block ?_))))))))))); refine E9 (κ := Nat) (fun k => k ≤ xs.length) (fun k => xs.length - k) (fun k => [dR xs, dR xs]) (fun k => [(0, .ref 0), (1, .ref 1), (4, bA false), (5, iA k)]) 0 (by omega) (B4.at G _ _) ?_; clear G; intro k ρ a w hp G; refine wp_seq (wp_seq (n6 G l6 [(14, bA (decide ((k : Int) < xs.length)))] fun G => b5 (rcD G (fun h0 q0 => ?_) fun h0 q0 => ?_)))
 ·refine wp_exit (E6 (E6 (E5 (b5 (wp_seq (n6 G l6 [(4, bA true)] fun G => b5 (wp_ret ?_))))))); exact rxr G [0, 1]
 ·refine wp_skip (b5 (wp_seq (wp_block (wp_seq (at6 G (Q6 8 [26, 58] (aC4 (xs.getD k []))) [0, 0, 3, 7, 0, 0, 48, 112, 255, 511] [(26, bA false)] (iX k k xs.length (iX k k xs.length [])) (iK (by omega) (iK (by omega) bf4)) fun G => b5 (rF G false (by kernel_rfl) (wp_skip (I9 (b5 (J6 G l6 [(5, iA ((k : Int) + 1))] [wO ((k : Int) + 1)] (o1 (by omega)) fun G => b5 ?_)))))))))); exact rxn G (k + 1) (by omega) (by omega) [0, 1]
theorem aH8 (m : A6) : t6.ok Try.prog (L4 44 [mA 0, mA 2] (mS m ++ mS m) (bA true)) := by
 refine M7 17 Try.func44 [dI m.vals, dR m.arrs, dI m.vals, dR m.arrs] [(0, .agg [.ref 0, .ref 1]), (1, .agg [.ref 2, .ref 3])] fun G => ?_; refine wp_seq (B6 G l6 [0, 1, 2, 3, 4, 12] [dI m.vals, dR m.arrs, dI m.vals, dR m.arrs, .box [.ref 0, .ref 1], .box [.ref 2, .ref 3]] [(2, .ptr 4 0), (3, .ptr 5 0), (4, bA false)] fun G => b5 (wp_seq (wp_seq (n6 G (Q6 4 [0, 2] (aC4 m.vals)) [(10, bA false)] fun G => b5 (rF G false (by kernel_rfl) (wp_skip (b5 (wp_seq (wp_seq (B6 G (Q6 4 [1, 3] (aO3 m.arrs)) (rg 4) [dI m.vals, dR m.arrs, dI m.vals, dR m.arrs] [(4, bA false), (16, bA false)] fun G => b5 (rF G false (by kernel_rfl) (wp_skip (b5 (wp_seq (n6 G l6 [(4, bA true)] fun G => b5 (wp_ret ?_)))))))))))))))); exact rxr G (rg 4)
theorem a68 {m : List (List Int)} {x : Int} {k : Nat × Int} (hk : k.1 < m.length) (h1 : k.2 = x + (T6 (m.take k.1) : Nat)) (r1 : x + T6 m ≤ 9000000000000000000) : k.2 + (m.getD k.1 []).length ≤ 9000000000000000000 := by
 have h2 := ac9 hk
 have h3 := aR7 m (k.1 + 1)
 omega
theorem a05 {m : List (List Int)} {x : Int} {k : Nat × Int} (hk : k.1 < m.length) (h1 : k.2 = x + (T6 (m.take k.1) : Nat)) : mxR x m (k.1 + 1) = (mxR x m k.1).set k.1 (W3 k.2 ((mxR x m k.1).getD k.1 []).length) := by
 rw [aG2 hk, aT1 hk, h1]
theorem aC0 (m : List (List Int)) (x : Int) (r0 : 0 ≤ x) (r1 : x + T6 m ≤ 9000000000000000000) (r2 : m.length ≤ 1048576) : t6.ok Try.prog ⟨124, [.tref 0, iA x], [.tree (.rows m)], [.tree (.rows (mkR x m))], iA (x + T6 m)⟩ := by
 refine M7 19 Try.func124 [.tree (D.rows m)] [(0, .tref 0), (1, iA x)] fun G => ?_; refine wp_seq (n6 G l6 [(4, iA 0)] fun G => b5 (wp_seq (wp_seq (O5 G l6 [(0, .tref 0), (1, iA x), (4, iA 0), (5, iA 0)] fun G => b5 (wp_block ?_))))); refine E9 (κ := Nat × Int) (fun k => k.2 = x + (T6 (m.take k.1) : Nat) ∧ k.1 ≤ m.length) (fun k => m.length - k.1) (fun k => [.tree (.rows (mxR x m k.1))]) (fun k => [(0, .tref 0), (1, iA k.2), (4, iA 0), (5, iA k.1)]) ((0, x)) (⟨by simp [T6], bg3 _⟩) (B4.at G _ _) ?_; clear G; intro k ρ a w hp G; replace G := B4.at G [.tree (D.rows (mxR x m k.fst))] [(0, .tref 0), (1, iA k.snd), (4, iA 0), (5, iA (k.fst : Int))]; have hrl := a08 x m k.1; refine wp_seq (wp_seq (n6 G l6 [(9, bA (decide ((k.fst : Int) < ((mxR x m k.fst).length : Int))))] fun G => b5 (rcD G (fun h0 q0 => ?_) fun h0 q0 => ?_)))
 ·refine wp_exit (E6 (E6 (E5 (b5 (wp_seq (n6 G l6 [(4, iA k.snd)] fun G => b5 (wp_ret ?_))))))); exact Y6 k.snd G [0] (by have h9 := aI5 (m := m) (k := k.1) (by omega); have h1 := hp.1; omega) (by show _ = mR [0] [.tree (D.rows (mkR x m))]; have e1 : (mkR x m : List (List Int)) = (mxR x m k.fst) := ((a09 (by have h1 := hp.2; omega)).symm); (first | rw [e1] | simp only [e1]) <;> rfl)
 ·refine wp_skip (b5 (wp_seq (wp_block (rA1 G (Q6 5 [25] (an6 ((mxR x m k.fst).getD k.fst []) k.snd (by omega) (by rw [aG2 (by omega)]; exact a68 (by omega) hp.1 r1))) [0, 25] [.hole 1 k.fst (mxR x m k.fst), .row 3 (D.ints (W3 k.snd ((mxR x m k.fst).getD k.fst []).length))] [(0, .tref 0), (1, iA (k.snd + (((mxR x m k.fst).getD k.fst []).length : Int))), (4, iA 0), (5, iA (k.fst : Int))] (iX k.fst k.fst ((mxR x m k.fst).length) []) (iK (by omega) bf4) fun G => ?_)))); replace G := G.heal 0 1 k.fst (mxR x m k.fst) (W3 k.snd ((mxR x m k.fst).getD k.fst []).length) [.tree (D.rows ((mxR x m k.fst).set k.fst (W3 k.snd ((mxR x m k.fst).getD k.fst []).length))), .dead]; refine I9 (b5 (rA1 G l6 [0] [.tree (D.rows ((mxR x m k.fst).set k.fst (W3 k.snd ((mxR x m k.fst).getD k.fst []).length)))] [(0, .tref 0), (1, iA (k.snd + (((mxR x m k.fst).getD k.fst []).length : Int))), (4, iA 0), (5, iA ((k.fst : Int) + 1))] [wO ((k.fst : Int) + 1)] (o1 (by omega)) fun G => b5 ?_)); exact rxn G ((k.1 + 1, k.2 + ((m.getD k.1 []).length : Int))) (⟨by have h1 := hp.1; have h2 := ac9 (m := m) (k := k.1) (by omega); show k.2 + _ = x + ((T6 (m.take (k.1 + 1)) : Nat) : Int); omega, by have h1 := hp.2; show k.1 + 1 ≤ _; omega⟩) (by omega) [0] (by have e1 : (mxR x m (k.fst + 1) : List (List Int)) = ((mxR x m k.fst).set k.fst (W3 k.snd ((mxR x m k.fst).getD k.fst []).length)) := (a05 (by omega) hp.1); (first | rw [e1] | simp only [e1]) <;> rfl) (ht := by have e1 : (k.snd + ((m.getD k.fst []).length : Int) : Int) = (k.snd + (((mxR x m k.fst).getD k.fst []).length : Int)) := (by rw [aG2 (by omega)]); (first | rw [e1] | simp only [e1]) <;> rfl)
def mkM (m : A6) (x : Int) : A6 := ⟨W3 x m.vals.length, mkR (x + m.vals.length) m.arrs⟩
def al6 (m : A6) : Nat := m.vals.length + T6 m.arrs
theorem aw4 (m : A6) (x : Int) (r0 : 0 ≤ x) (r1 : x + al6 m ≤ 9000000000000000000) (r2 : m.arrs.length ≤ 1048576) : t6.ok Try.prog ⟨47, [mT 0, iA x], mO m, mO (mkM m x), iA (x + al6 m)⟩ := by
 refine M7 14 Try.func47 [.row 3 (D.ints m.vals), .tree (D.rows m.arrs)] [(0, .agg [.ref 0, .tref 1]), (1, iA x)] fun G => ?_
 have hmn : (al6 m : Int) = m.vals.length + T6 m.arrs := by unfold al6; omega
 refine wp_seq (B6 G l6 [0, 1, 2] [.row 3 (D.ints m.vals), .tree (D.rows m.arrs), .box [.ref 0, .tref 1]] [(1, iA x), (2, .ptr 2 0), (4, iA 0)] fun G => b5 (wp_seq (B6 G (Q6 3 [0] (an6 m.vals x (by assumption) (by omega))) [0, 1, 2] [.row 3 (D.ints (W3 x m.vals.length)), .tree (D.rows m.arrs), .box [.ref 0, .tref 1]] [(1, iA (x + (m.vals.length : Int))), (2, .ptr 2 0), (4, iA 0)] fun G => b5 (wp_seq (B6 G (Q6 3 [1] (aC0 m.arrs (x + (m.vals.length : Int)) (by omega) (by omega) (by assumption))) [0, 1] [.row 3 (D.ints (W3 x m.vals.length)), .tree (D.rows (mkR (x + (m.vals.length : Int)) m.arrs))] [(1, iA (x + (m.vals.length : Int) + (↑(T6 m.arrs) : Int))), (4, iA 0)] fun G => b5 (wp_seq (n6 G l6 [(4, iA (x + (m.vals.length : Int) + (↑(T6 m.arrs) : Int)))] fun G => b5 (wp_ret ?_)))))))); exact Y6 (x + (m.vals.length : Int) + (↑(T6 m.arrs) : Int)) G [0, 1] (by omega)
end Go.Proofs.Ytgmhmijcnlfmfaa

namespace Go.Proofs.Ytgmhmijcnlfmfaa
open Go Go.RowKit Go.ChangeShapes Go.WideShapes Go.Deep
def bc5 (w : World) (φ : Nat → Prop) (v : Value) (m : A6) : Prop := ∃ v1 v2, v = .agg #[v1, v2] ∧ RD w φ (.ints m.vals) v1 ∧ RD w φ (.rows m.arrs) v2
section
variable {H : Type} {enc : TypeId × Value → H} {W : World}
theorem at3 {fuel : Nat} {t : TypeId} {v : Value} {x : DataW H × List MemPlace} (ht : Try.prog.underlying t = some (.slice 23))
  (h : DataW.trod enc Try.prog W 0 (fun _ => true) true fuel t [v] = some x) : ∃ m : List (List Int), RD W (fun _ => True) (.rows m) v := by
 obtain ⟨n, q, C, hr, hC, hx⟩ := ai1 ht (sz := 1) (by kernel_rfl) (by omega) h
 obtain ⟨g, hg⟩ := choose_lt (α := Value × List Int) (n := n) (p := fun i p => C i = [p.1] ∧ K5 W p.1 p.2.length 1 (ints p.2)) (fun i hi => by
  obtain ⟨y, hy⟩ := hx i hi
  obtain ⟨u, hu⟩ : ∃ u, C i = [u] := by
   have := hC i
   match hci : C i, this with
   | [u], _ => exact ⟨u, rfl⟩
  rw [hu] at hy
  obtain ⟨l, hl⟩ := O6 Try.underlying23 hy
  exact ⟨(u, l), hu, hl⟩)
 refine ⟨(bg0 n).map fun i => (g i).2, (bg0 n).map fun i => (g i).1, ?_, ?_⟩
 ·rw [List.length_map, List.length_range]
  have := X6 n C id (fun i => (g i).1) (fun i hi => (hg i hi).1)
  rw [List.map_id] at this
  rw [← this]
  exact hr.rowF fun _ _ => trivial
 ·intro i hi
  have hi' : i < n := by simpa using hi
  refine ⟨(g i).1, by simp [hi'], ?_⟩
  have := (hg i hi').2
  simp only [List.getElem_map, List.getElem_range]
  exact this.rowF fun _ _ => trivial
theorem az8 {r : Reach} {b0 : Nat} {v : Value} {d : DataW H} {p : List MemPlace} (hv : Value.okWide Try.prog W r b0 77 v)
  (h : DataW.Trod enc Try.prog W 0 (fun _ => true) true 77 v d p) : ∃ c : A6, bc5 W (fun _ => True) v c := by
 obtain ⟨v0, v1, y0, y1, n, rfl, -, -, h0, h1⟩ := Joins.open_agg2 Try.underlying77 (by kernel_rfl) (by kernel_rfl) hv h
 obtain ⟨l0, r0⟩ := O6 Try.underlying23 h0
 obtain ⟨l1, r1⟩ := at3 Try.underlying35 h1
 exact ⟨⟨l0, l1⟩, _, _, rfl, r0.rowF fun _ _ => trivial, r1⟩
end
end Go.Proofs.Ytgmhmijcnlfmfaa

namespace Go.Proofs.Ytgmhmijcnlfmfaa
open Go Go.RowKit
theorem aI0 : ∀ (ds : List D) (n j : Nat), s0 (t4 []) (K9 (ds.map X.sl) n) j = if n ≤ j then t4 (ds.map It.dat) (j - n) else .none
 | [], n, j => by simp [K9, s0, t4]
 | d :: r, n, j => by
  simp only [bh1, K9, s0]
  by_cases e : j = n
  ·subst e; simp [t4]
  ·rw [if_neg e, aI0 r (n + 1) j]
   by_cases h : n + 1 ≤ j
   ·rw [if_pos h, if_pos (by omega), show j - n = (j - (n + 1)) + 1 by omega]; simp [t4]
   ·rw [if_neg h, if_neg (by omega)]
theorem aP3 : ∀ (ds : List D) (n : Nat) (ρ : Nat → Value) (vs : List Value), vs = AV.vals ρ (xav (ds.map X.sl) n) → vs.length = ds.length ∧ ∀ i, i < ds.length → ρ (n + i) = vs.getD i undef
 | [], _, _, vs, h => by simp only [List.map_nil, xav, AV.vals] at h; subst h; exact ⟨rfl, fun i hi => by simp at hi⟩
 | d :: r, n, ρ, vs, h => by
  simp only [bh1, xav, AV.vals, AV.val] at h
  subst h
  obtain ⟨h1, h2⟩ := aP3 r (n + 1) ρ _ rfl
  refine ⟨by simp [h1], fun i hi => ?_⟩
  cases i with
  | zero => simp
  | succ i =>
   have := h2 i (by simpa using hi)
   rw [show n + (i + 1) = n + 1 + i by omega, this]; simp
theorem aX3 {P : Program} {f : FuncId} {args : List AV} {x : Value} {post : List It} (ds : List D) (vs : List Value) (hc : t6.ok P ⟨f, args, ds.map It.dat, post, .v x⟩) (hi : ∀ id ∈ AV.idsL args, id < ds.length) (w : World) (h : XHs w (fun _ => True) (ds.map X.sl) vs) :
  Calls P f (AV.vals (fun i => vs.getD i undef) args).toArray w fun e w' => e = .returned x ∧ Below w.heap.size w w' := by
 have M0 : m0 (fun _ => True) (fun _ => True) w w (n7 (fun _ : Empty => Rs.none) (fun _ => undef) (t4 [])) := by
  refine (m0.start (ι := Empty ⊕ Nat) (w0 := w) (φ := fun _ => True) (ψ := fun _ => True) fun _ _ => trivial).map (fun k => some k) (fun k k' i a b => by cases a; cases b; rfl) fun k => ?_
  cases k with
  | inl e => exact e.elim
  | inr j => exact .inr rfl
 have ha : I8 (fun _ => True) (R6 (fun _ => True) (n7 (fun _ : Empty => Rs.none) (fun _ => undef) (t4 []))) w w := I8.mono fun b _ _ => ⟨bf4, fun i => by
  cases i with
  | inl e => exact e.elim
  | inr j => exact fun h => h.elim⟩
 obtain ⟨ρ', g1, M2, g2⟩ := m0.dats (ds.map X.sl) vs 0 M0 (XHs.agr ha h) (fun _ _ => rfl) (fun _ _ _ => rfl)
 have e : s0 (t4 []) (K9 (ds.map X.sl) 0) = t4 (ds.map It.dat) := by
  funext j
  rw [aI0]; simp
 rw [e] at M2
 obtain ⟨h1, h2⟩ := aP3 ds 0 ρ' vs g2
 have hv : AV.vals ρ' args = AV.vals (fun i => vs.getD i undef) args := AV.vals_congr args fun id hid => by
  have := h2 id (hi id hid)
  simpa using this
 rw [← hv]
 refine (hc Empty _ _ w w _ ρ' M2).mono ?_
 rintro e w' ⟨ρ2, -, rfl, M3⟩
 exact ⟨rfl, M3.below fun _ _ => trivial⟩
theorem fzq {q : Int} {n : Nat} (h : ¬ m8 q n < 0) (h0 : 0 ≤ q) : (n : Int) ≤ q ∧ m8 q n = q - n := by
 obtain ⟨h1, h2⟩ := aQ2 h
 exact ⟨by omega, h2⟩
theorem aF4 (p : l9) : t7 p.body ≤ p.size ∧ p.vars.length ≤ p.size ∧ p.arrays.length ≤ p.size ∧ 0 ≤ X3 p ∧ X3 p ≤ 7 * p.size := by
 have h := F8 p.body
 unfold l9.size X3
 omega
theorem aM6 (m : A6) : m.vals.length ≤ mZ m ∧ m.arrs.length ≤ mZ m ∧ T6 m.arrs ≤ mZ m ∧ (al6 m : Int) ≤ mZ m := by
 have e : mZ m = m.vals.length + (m.arrs.length + T6 m.arrs) := rfl
 have e2 : al6 m = m.vals.length + T6 m.arrs := rfl
 generalize mZ m = z at *
 generalize al6 m = y at *
 omega
theorem aX8 (p : l9) (x : Int) (r0 : 0 ≤ x) (r1 : x + X3 p ≤ 9000000000000000000) : t6.ok Try.prog ⟨46, [oA 0, iA x], oP p, oP (mkP p x.toNat), iA (x + X3 p)⟩ := by
 obtain ⟨k, rfl⟩ := Int.eq_ofNat_of_zero_le r0
 exact ap7 p k r1
theorem aE6 (p : l9) : p.same p = true := l9.same_eq.2 rfl
theorem aR2 (q : l9) : ¬ ((!q.same q) = true) := by rw [aE6]; decide
theorem aW5 (e : b7) (q : Int) (r0 : 0 ≤ q) (r1 : q ≤ 1048576) : t6.ok Try.prog (L4 55 [eA e 0, iA q] (eS e) (iA (m8 q (B9 e)))) :=
 N1 fun φ w ρ h => aa7 e φ _ q w ⟨ρ 0, rfl, h 0 _ rfl⟩ r0 r1
theorem aW9 (e : b7) : t6.ok Try.prog (L4 59 [eA e 0, eA e 1] (eS e ++ eS e) (bA (J1 e e))) :=
 N1 fun φ w ρ h => ab9 e φ φ _ _ e w ⟨ρ 0, rfl, h 0 _ rfl⟩ ⟨ρ 1, rfl, h 1 _ rfl⟩
theorem aQ0 (e : b7) (hb : B9 e ≤ 1048576) : t6.ok Try.prog ⟨57, [eA e 0], eS e, eS e ++ [.tree (.exprs e.kids)], .agg [iA e.kind, iA e.value, .tref 1]⟩ := by
 intro ι φ ψ w0 w F ρ M
 have hr := M.datAt (id := 0) (d := .exprs e.kids) rfl
 refine (aa3 e _ _ w ⟨ρ 0, rfl, hr⟩ hb).mono ?_
 rintro x w' ⟨c1, c2, S, rfl, hO, hS, hbl⟩
 obtain ⟨ρ', h1, h2, h3⟩ := az3 M hbl (A7.kids.2 hO) fun b h => (hS b h).1
 refine ⟨ρ', h1, ?_, h3⟩
 have h4 := Ending.returned.inj h2
 rw [h4]; rfl
theorem aX9 (i j : Int) (ks : List b7) (x : Int) (r0 : 0 ≤ x) (r1 : x + 2 * m6 ks ≤ 9000000000000000000) : t6.ok Try.prog ⟨60, [.agg [iA i, iA j, .tref 0], iA x], [.tree (.exprs ks)], [.tree (.exprs (W4 ks x))], iA (x + 2 * m6 ks)⟩ := by
 intro ι φ ψ w0 w F ρ M
 have r3 := (M.holds (.inr 0)).2.1
 refine (au7 i j ks _ x w (v5 (ρ 0)) (A7.kids.1 r3) r0 r1).mono ?_
 rintro e w' ⟨rfl, hO, hk⟩
 refine ⟨ρ, fun _ _ => rfl, rfl, M.turns (fun k b => ?_) (fun k => k = .inr 0) (fun k hk => ?_) ?_ ?_⟩
 ·cases k with
  | inl i => rfl
  | inr j =>
   match j with
   | 0 => exact Iff.rfl
   | j + 1 => exact Iff.rfl
 ·cases k with
  | inl i => rfl
  | inr j =>
   match j, hk with
   | 0, h => exact absurd rfl h
   | j + 1, _ => rfl
 ·refine ⟨hk.os, hk.tape, hk.output, hk.size, fun b hb hn => hk.block b hb ?_⟩
  intro h
  exact hn ⟨_, rfl, h⟩
 ·rintro k rfl
  exact ⟨fun _ _ h hs => h.same hs, A7.kids.2 hO, fun b hb => bg6 (M.lt (i := .inr 0) hb) hk.size⟩
def N5 (x : Int) (n : Nat) : List (Int × Int) := (bg0 n).map fun (i : Nat) => (x + 2 * (i : Int), x + 2 * (i : Int) + 1)
theorem au4 (x : Int) (n : Nat) : (N5 x n).length = n := by simp [N5]
theorem aT7 {x : Int} {n j : Nat} (h : j < n) : (N5 x n).getD j (0, 0) = (x + 2 * (j : Int), x + 2 * (j : Int) + 1) := by simp [N5, bf2, h]
theorem aT5 (x : Int) (n : Nat) : N5 x (n + 1) = N5 x n ++ [(x + 2 * (n : Int), x + 2 * (n : Int) + 1)] := by unfold N5; rw [List.range_succ, List.map_append]; rfl
theorem aJ3 {l : List (Int × Int)} {x : Int} {j : Nat} (h2 : j ≤ l.length) : (N5 x j ++ l.drop j).length = l.length := by simp [au4]; omega
theorem a14 {l : List (Int × Int)} {x : Int} {j : Nat} (hj : l.length ≤ j) (h2 : j ≤ l.length) : N5 x l.length = N5 x j ++ l.drop j := by
 rw [List.drop_eq_nil_of_le hj, List.append_nil, Nat.le_antisymm h2 hj]
theorem aT6 {l : List (Int × Int)} {x y b : Int} {k : Nat} (hy : y = x + 2 * (k : Int)) (hk : k < l.length) : N5 x (k + 1) ++ l.drop (k + 1) = ((N5 x k ++ l.drop k).set k (y, b)).set k ((((N5 x k ++ l.drop k).set k (y, b)).getD k (0, 0)).1, y + 1) := by
 have hl : k < (N5 x k ++ l.drop k).length := by rw [aJ3 (by omega)]; exact hk
 have e : ((N5 x k ++ l.drop k).set k (y, b)).getD k (0, 0) = (y, b) := by
  rw [bf2, List.getElem?_set_self hl]; rfl
 rw [e, List.set_set, aT4 (au4 x k) hk, aT5, hy]
theorem aO4 (x : Int × Int) : t6.ok Try.prog (L4 135 [.agg [iA x.1, iA x.2], .agg [iA x.1, iA x.2]] [] (bA true)) := by
 refine M7 15 Try.func135 [] [(0, .agg [iA x.fst, iA x.snd]), (1, .agg [iA x.fst, iA x.snd])] fun G => ?_; refine wp_seq (B6 G l6 [0, 8] [.box [iA x.fst, iA x.snd], .box [iA x.fst, iA x.snd]] [(2, .ptr 0 0), (3, .ptr 1 0), (4, bA false)] fun G => b5 (wp_seq (wp_seq (n6 G l6 [(9, bA (x.fst != x.fst))] fun G => b5 (rF G (x.fst != x.fst) (by simp) (wp_skip (b5 (wp_seq (wp_seq (B6 G l6 [] [] [(4, bA false), (14, bA (x.snd != x.snd))] fun G => b5 (rF G (x.snd != x.snd) (by simp) (wp_skip (b5 (wp_seq (n6 G l6 [(4, bA true)] fun G => b5 (wp_ret ?_)))))))))))))))); exact rxr G []
theorem ac1 (l : List (Int × Int)) : t6.ok Try.prog (L4 58 [.ref 0, .ref 1] [dV l, dV l] (bA true)) := by
 have hee : ∀ x : Int × Int, t6.ok Try.prog (L4 135 [.agg [iA x.1, iA x.2], .agg [iA x.1, iA x.2]] [] (bA true)) := aO4; refine M7 27 Try.func58 [dV l, dV l] [(0, .ref 0), (1, .ref 1)] fun G => ?_; have hl : l.length ≤ 9223372036854775807 := G.len 0 (d := .events l) (by kernel_rfl); refine wp_seq (O5 G l6 [(0, .ref 0), (1, .ref 1), (4, bA false)] fun G => b5 (wp_seq (wp_seq (n6 G l6 [(10, bA ((l.length : Int) != (l.length : Int)))] fun G => b5 (rF G ((l.length : Int) != (l.length : Int)) (by simp) (wp_skip (b5 (wp_seq (wp_seq (O5 G l6 [(0, .ref 0), (1, .ref 1), (4, bA false), (5, iA 0)] fun G => b5 (wp_block ?_))))))))))); refine E9 (κ := Nat) (fun k => k ≤ l.length) (fun k => l.length - k) (fun k => [dV l, dV l]) (fun k => [(0, .ref 0), (1, .ref 1), (4, bA false), (5, iA k)]) 0 (by omega) (B4.at G _ _) ?_; clear G; intro k ρ a w hp G; refine wp_seq (wp_seq (n6 G l6 [(14, bA (decide ((k : Int) < l.length)))] fun G => b5 (rcD G (fun h0 q0 => ?_) fun h0 q0 => ?_)))
 ·refine wp_exit (E6 (E6 (E5 (b5 (wp_seq (n6 G l6 [(4, bA true)] fun G => b5 (wp_ret ?_))))))); exact rxr G [0, 1]
 ·refine wp_skip (b5 (wp_seq (wp_block (wp_seq (at6 G (Q6 8 [] (hee (l.getD k (0, 0)))) [0, 0, 3, 7, 0, 0, 48, 112, 255, 511] [(26, bA false)] (iX k k l.length (iX k k l.length [])) (iK (by omega) (iK (by omega) bf4)) fun G => b5 (rF G false (by kernel_rfl) (wp_skip (I9 (b5 (J6 G l6 [(5, iA ((k : Int) + 1))] [wO ((k : Int) + 1)] (o1 (by omega)) fun G => b5 ?_)))))))))); exact rxn G (k + 1) (by omega) (by omega) [0, 1]
theorem ae3 (n : Nat) (x : Int) (r0 : 0 ≤ x) (r1 : x + 2 * n ≤ 9000000000000000000) : t6.ok Try.prog (L4 62 [.ref 0, iA x] [dV (N5 x n)] (iA (x + 2 * n))) := by
  refine M7 31 Try.func62 [dV (N5 x n)] [(0, .ref 0), (1, iA x)] fun G => ?_; have hnl := au4 x n; refine wp_seq (n6 G l6 [(4, iA 0)] fun G => b5 (wp_seq (wp_seq (O5 G l6 [(0, .ref 0), (1, iA x), (4, iA 0), (5, iA 0)] fun G => b5 (wp_block ?_))))); refine E9 (κ := Nat × Int) (fun k => k.2 = x + 2 * (k.1 : Int) ∧ k.1 ≤ n) (fun k => n - k.1) (fun k => [dV (N5 x n)]) (fun k => [(0, .ref 0), (1, iA k.2), (4, iA 0), (5, iA k.1)]) ((0, x)) (by omega) (B4.at G _ _) ?_; clear G; intro k ρ a w hp G; replace G := B4.at G [dV (N5 x n)] [(0, .ref 0), (1, iA k.snd), (4, iA 0), (5, iA (k.fst : Int))]; refine wp_seq (wp_seq (n6 G l6 [(9, bA (decide ((k.fst : Int) < ((N5 x n).length : Int))))] fun G => b5 (rcD G (fun h0 q0 => ?_) fun h0 q0 => ?_)))
  · refine wp_exit (E6 (E6 (E5 (b5 (wp_seq (n6 G l6 [(4, iA k.snd)] fun G => b5 (wp_ret ?_))))))); exact Y6 k.snd G [0] (by omega)
  ·
   refine wp_skip (b5 (wp_seq (wp_block (wp_seq (wp_seq (rB1 G l6 [(0, .ref 0), (1, iA k.snd), (4, iA 0), (5, iA (k.fst : Int)), (18, bA (((N5 x n).getD k.fst (0, 0)).fst != k.snd))] (iX k.fst k.fst ((N5 x n).length) []) (iK (by omega) bf4) fun G => b5 ?_)))))); cases h1 : (((N5 x n).getD k.fst ((0 : Int), (0 : Int))).fst != k.snd)
   ·
    have q1 := bne_eq_false_iff_eq.1 h1; refine rF G _ h1 (wp_skip (b5 (wp_seq (J6 G l6 [(1, iA (k.snd + 1))] [wO (k.snd + 1)] (o1 (by omega)) fun G => b5 (wp_seq (wp_seq (rB1 G l6 [(0, .ref 0), (1, iA (k.snd + 1)), (4, iA 0), (5, iA (k.fst : Int)), (27, bA (((N5 x n).getD k.fst (0, 0)).snd != k.snd + 1))] (iX k.fst k.fst ((N5 x n).length) []) (iK (by omega) bf4) fun G => b5 ?_))))))); cases h2 : (((N5 x n).getD k.fst ((0 : Int), (0 : Int))).snd != k.snd + 1)
    · have q2 := bne_eq_false_iff_eq.1 h2; refine rF G _ h2 (wp_skip (b5 (J6 G l6 [(1, iA (k.snd + 1 + 1))] [wO (k.snd + 1 + 1)] (o1 (by omega)) fun G => I9 (b5 (J6 G l6 [(5, iA ((k.fst : Int) + 1))] [wO ((k.fst : Int) + 1)] (o1 (by omega)) fun G => b5 ?_))))); exact rxn G ((k.1 + 1, k.2 + 1 + 1)) (by omega) (by omega) [0]
    · have q2 := bne_iff_ne.1 h2; exact False.elim (by have h1 := hp.1; have h2 := aT7 (x := x) (n := n) (j := k.1) (by omega); simp only [h2] at *; omega)
   · have q1 := bne_iff_ne.1 h1; exact False.elim (by have h1 := hp.1; have h2 := aT7 (x := x) (n := n) (j := k.1) (by omega); simp only [h2] at *; omega)
theorem aw5 (l : List (Int × Int)) (x : Int) (r0 : 0 ≤ x) (r1 : x + 2 * l.length ≤ 9000000000000000000) : t6.ok Try.prog ⟨61, [.ref 0, iA x], [.row 54 (.events l)], [.row 54 (.events (N5 x l.length))], iA (x + 2 * l.length)⟩ := by
 refine M7 27 Try.func61 [.row 54 (D.events l)] [(0, .ref 0), (1, iA x)] fun G => ?_; refine wp_seq (n6 G l6 [(4, iA 0)] fun G => b5 (wp_seq (wp_seq (O5 G l6 [(0, .ref 0), (1, iA x), (4, iA 0), (5, iA 0)] fun G => b5 (wp_block ?_))))); refine E9 (κ := Nat × Int) (fun k => k.2 = x + 2 * (k.1 : Int) ∧ k.1 ≤ l.length) (fun k => l.length - k.1) (fun k => [.row 54 (.events (N5 x k.1 ++ l.drop k.1))]) (fun k => [(0, .ref 0), (1, iA k.2), (4, iA 0), (5, iA k.1)]) ((0, x)) (by omega) (B4.at G _ _) ?_; clear G; intro k ρ a w hp G; replace G := B4.at G [.row 54 (D.events (N5 x k.fst ++ bi7 k.fst l))] [(0, .ref 0), (1, iA k.snd), (4, iA 0), (5, iA (k.fst : Int))]; have hrl := aJ3 (l := l) (x := x) hp.2; refine wp_seq (wp_seq (n6 G l6 [(9, bA (decide ((k.fst : Int) < ((N5 x k.fst ++ bi7 k.fst l).length : Int))))] fun G => b5 (rcD G (fun h0 q0 => ?_) fun h0 q0 => ?_)))
 ·refine wp_exit (E6 (E6 (E5 (b5 (wp_seq (n6 G l6 [(4, iA k.snd)] fun G => b5 (wp_ret ?_))))))); exact Y6 k.snd G [0] (by omega) (by show _ = mR [0] [.row 54 (D.events (N5 x l.length))]; have e1 : (N5 x l.length : List (Int × Int)) = (N5 x k.fst ++ bi7 k.fst l) := (by have h2 := hp.2; exact a14 (by omega) (by omega)); (first | rw [e1] | simp only [e1]) <;> rfl)
 ·refine wp_skip (b5 (wp_seq (wp_block (wp_seq (rA1 G l6 [0] [.row 54 (D.events ((N5 x k.fst ++ bi7 k.fst l).set k.fst (k.snd, ((N5 x k.fst ++ bi7 k.fst l).getD k.fst (0, 0)).snd)))] [(0, .ref 0), (1, iA k.snd), (4, iA 0), (5, iA (k.fst : Int))] (iX k.fst k.fst ((N5 x k.fst ++ bi7 k.fst l).length) []) (iK (by omega) bf4) fun G => b5 (wp_seq (J6 G l6 [(1, iA (k.snd + 1))] [wO (k.snd + 1)] (o1 (by omega)) fun G => b5 (wp_seq (rA1 G l6 [0] [.row 54 (D.events (((N5 x k.fst ++ bi7 k.fst l).set k.fst (k.snd, ((N5 x k.fst ++ bi7 k.fst l).getD k.fst (0, 0)).snd)).set k.fst ((((N5 x k.fst ++ bi7 k.fst l).set k.fst (k.snd, ((N5 x k.fst ++ bi7 k.fst l).getD k.fst (0, 0)).snd)).getD k.fst (0, 0)).fst, k.snd + 1)))] [(0, .ref 0), (1, iA (k.snd + 1)), (4, iA 0), (5, iA (k.fst : Int))] (iX k.fst k.fst (((N5 x k.fst ++ bi7 k.fst l).set k.fst (k.snd, ((N5 x k.fst ++ bi7 k.fst l).getD k.fst ((0 : Int), (0 : Int))).snd)).length) []) (iK (by rw [List.length_set]; omega) bf4) fun G => b5 (J6 G l6 [(1, iA (k.snd + 1 + 1))] [wO (k.snd + 1 + 1)] (o1 (by omega)) fun G => I9 (b5 (J6 G l6 [(5, iA ((k.fst : Int) + 1))] [wO ((k.fst : Int) + 1)] (o1 (by omega)) fun G => b5 ?_)))))))))))); exact rxn G ((k.1 + 1, k.2 + 1 + 1)) (by omega) (by omega) [0] (by have e1 : (N5 x (k.fst + 1) ++ bi7 (k.fst + 1) l : List (Int × Int)) = (((N5 x k.fst ++ bi7 k.fst l).set k.fst (k.snd, ((N5 x k.fst ++ bi7 k.fst l).getD k.fst (0, 0)).snd)).set k.fst ((((N5 x k.fst ++ bi7 k.fst l).set k.fst (k.snd, ((N5 x k.fst ++ bi7 k.fst l).getD k.fst (0, 0)).snd)).getD k.fst (0, 0)).fst, k.snd + 1)) := (aT6 hp.1 (by omega)); (first | rw [e1] | simp only [e1]) <;> rfl)
end Go.Proofs.Ytgmhmijcnlfmfaa
