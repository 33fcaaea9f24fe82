/- Part 6: functions on the way, plain laws. Conditions: as said. -/
import Derived.Deep.RegionWith
import Derived.Test.YtgmhmijcnlfmfaaK1
import Derived.Test.YtgmhmijcnlfmfaaK3
import Derived.Test.YtgmhmijcnlfmfaaK4
import Derived.Test.YtgmhmijcnlfmfaaK5
set_option maxRecDepth 100000
set_option maxHeartbeats 16000000
set_option linter.unusedVariables false
set_option linter.unusedSimpArgs false
open Bool renaming not_eq_false' → bc8, not_eq_true' → bc6
open List renaming eq_nil_of_length_eq_zero → bf0, getD_eq_getElem?_getD → bc2, getElem?_append_right → be2, getElem?_eq_getElem → bb7, getElem?_eq_some_iff → bc0, getElem?_set_ne → bf1, getElem_mem → bd2, map_cons → bd8, range → bc7, replicate → bd1, take_of_length_le → bc3
open Nat renaming add_zero → be4, le_refl → bc1, le_trans → be0, lt_or_ge → be3, zero_le → bd0
open True renaming intro → bc4

namespace Go.Proofs.Ytgmhmijcnlfmfaa
open Go Go.RowKit
section
variable {P : Program} {ι κ : Type} {φ ψ : Nat → Prop} {w0 w : World} {F : ι → Rs} {ρ ρ0 : Nat → Value} {N m n : Nat} {S : List It} {tm : List (Nat × AV)} {a : Act}
theorem A6.heal (G : A6 φ ψ w0 F N m ρ0 ρ S tm a w) (id k i : Nat) (l : List (List Int)) (r : List Int) (S1 : List It) (h1 : t6 S id = .hole k i l := by kernel_rfl) (h2 : t6 S k = .row 3 (.ints r) := by kernel_rfl) (hS : S1 = (S.set id (.tree (.rows (l.set i r)))).set k .dead := by kernel_rfl) : A6 φ ψ w0 F N m ρ0 ρ S1 tm a w := by
 subst hS
 have hid : id < S.length := by
  rcases be3 id S.length with h | h
  ·exact h
  ·rw [A4 h] at h1; cases h1
 have hk : k < S.length := by
  rcases be3 k S.length with h | h
  ·exact h
  ·rw [A4 h] at h2; cases h2
 have hne : id ≠ k := fun e => by rw [e, h2] at h1; cases h1
 have hlen : ((S.set id (.tree (.rows (l.set i r)))).set k .dead).length = S.length := by simp
 have hat : ∀ j, t6 ((S.set id (.tree (.rows (l.set i r)))).set k .dead) j = if j = k then .dead else if j = id then .tree (.rows (l.set i r)) else t6 S j := fun j => by
  simp only [t6, bc2, List.getElem?_set]
  by_cases e1 : k = j
  ·subst e1; simp [hk]
  ·have e1' : ¬ j = k := fun h => e1 h.symm
   by_cases e2 : id = j
   ·subst e2; simp [hid, e1, e1']
   ·have e2' : ¬ j = id := fun h => e2 h.symm
    simp [e1, e1', e2, e2']
 refine ⟨G.size, G.defs, G.tmv, fun t x hx q hq => by rw [hlen]; exact G.tmi t x hx q hq, fun j => ⟨fun q hq => ?_, fun hj => ?_⟩, ?_, by rw [hlen]; exact G.le, G.old⟩
 ·rw [hat] at hq
  rw [hlen]
  split at hq
  ·cases hq
  ·split at hq
   ·cases hq
   ·exact (G.bd j).1 q hq
 ·rw [hlen] at hj
  rw [hat, if_neg (by omega), if_neg (by omega)]
  exact A4 hj
 ·have M := G.mem
  have hh := M.holds (.inr id)
  have hr := M.holds (.inr k)
  have l1 : n9 F ρ (t6 S) (.inr id) = .own (fun b => t3 (ρ id) b ∧ (ρ k).ownBlock ≠ some b) fun w => ae1 w (t3 (ρ id)) i l (ρ k) (D4 (ρ id)) := by simp only [n9, h1, It.res]
  have l2 : n9 F ρ (t6 S) (.inr k) = .row 3 1 (ρ k) r.length fun xs w φ => RW w φ (.ints r) xs := by simp only [n9, h2, It.res, D.sz, D.len]
  rw [l1] at hh
  rw [l2] at hr
  obtain ⟨_, hO, hlt⟩ := hh
  obtain ⟨_, xs, o1, o2⟩ := hr
  have hxs : xs = ints r := as0 (by have := o1.1; simpa using this) o2
  subst hxs
  have hT := hO.back o1
  have hu : ∀ g, (ρ k).ownBlock = some g → t3 (ρ id) g := by
   obtain ⟨ys, S', _, _, q3, q4, q5, _, q2, _⟩ := hO
   obtain ⟨u', a', _, c⟩ := q2 i q5
   rw [q4] at a'; cases a'
   exact fun g hg => q3 g (c g hg)
  have m1 : n9 F ρ (t6 ((S.set id (.tree (.rows (l.set i r)))).set k .dead)) (.inr id) = .own (t3 (ρ id)) fun w => A8 w (t3 (ρ id)) (.rows (l.set i r)) (D4 (ρ id)) := by simp only [n9, hat, if_neg hne, if_true, It.res]
  have m2 : n9 F ρ (t6 ((S.set id (.tree (.rows (l.set i r)))).set k .dead)) (.inr k) = Rs.none := by simp only [n9, hat, if_true, It.res]
  have m3 : ∀ q, q ≠ .inr id → q ≠ .inr k → n9 F ρ (t6 ((S.set id (.tree (.rows (l.set i r)))).set k .dead)) q = n9 F ρ (t6 S) q := fun q e1 e2 => by
   cases q with
   | inl _ => rfl
   | inr j => simp only [n9, hat, if_neg (show ¬ j = k from fun e => e2 (by rw [e])), if_neg (show ¬ j = id from fun e => e1 (by rw [e]))]
  generalize n9 F ρ (t6 ((S.set id (.tree (.rows (l.set i r)))).set k .dead)) = L' at *
  have org : ∀ q b, (L' q).blk b → (q = .inr id ∧ ((n9 F ρ (t6 S) (.inr id)).blk b ∨ (n9 F ρ (t6 S) (.inr k)).blk b)) ∨ (q ≠ .inr id ∧ q ≠ .inr k ∧ (n9 F ρ (t6 S) q).blk b) := fun q b hb => by
   by_cases e1 : q = .inr id
   ·subst e1
    rw [m1] at hb
    refine .inl ⟨rfl, ?_⟩
    rw [l1, l2]
    by_cases e : (ρ k).ownBlock = some b
    ·exact .inr e
    ·exact .inl ⟨hb, e⟩
   ·by_cases e2 : q = .inr k
    ·subst e2; rw [m2] at hb; exact hb.elim
    ·rw [m3 q e1 e2] at hb; exact .inr ⟨e1, e2, hb⟩
  refine M.re (fun q b hb => ?_) (fun p q g hpq h1 h2 => ?_) fun q => ?_
  ·rcases org q b hb with ⟨_, h | h⟩ | ⟨_, _, h⟩
   ·exact ⟨_, h⟩
   ·exact ⟨_, h⟩
   ·exact ⟨_, h⟩
  ·rcases org p g h1 with ⟨e1, f1⟩ | ⟨e1, e1', f1⟩
   ·rcases org q g h2 with ⟨e2, f2⟩ | ⟨e2, e2', f2⟩
    ·exact hpq (e1.trans e2.symm)
    ·rcases f1 with f1 | f1
     ·exact M.dis _ _ g (fun e => e2 e.symm) f1 f2
     ·exact M.dis _ _ g (fun e => e2' e.symm) f1 f2
   ·rcases org q g h2 with ⟨e2, f2⟩ | ⟨e2, e2', f2⟩
    ·rcases f2 with f2 | f2
     ·exact M.dis _ _ g e1 f1 f2
     ·exact M.dis _ _ g e1' f1 f2
    ·exact M.dis _ _ g hpq f1 f2
  ·by_cases e1 : q = .inr id
   ·subst e1
    right; intro φ'; rw [m1]
    refine ⟨fun _ _ h hs => h.same hs, hT, fun b hb => ?_⟩
    by_cases e : (ρ k).ownBlock = some b
    ·exact (World.ownsRow.lt o1 b e).2
    ·exact hlt b ⟨hb, e⟩
   ·by_cases e2 : q = .inr k
    ·subst e2
     right; intro φ'; rw [m2]; exact Rs.none_holds _ _
    ·exact .inl (m3 q e1 e2)
end
section
variable {e : k5} {l : List P5} {fr : List Int} {n reg : Int} {k : Nat}
end
section
variable {b : List UInt8} {j i at0 n X : Int} {nv na : Nat} {ks : List UInt8} {k : Nat} {x : UInt8}
theorem bb3 {v : Int} (hk : k < 4) (h : ptD b (j + k) nv na at0 n (ks.getD k 0) = v) : psD b j nv na at0 n ks (k + 1) = (psD b j nv na at0 n ks k).set k v := by rw [aP8 b j nv na at0 n ks hk, h]
def RnR (b : List UInt8) (j at0 n : Int) (nv na : Nat) (R : Int → Nat → List Int) : Prop := ∀ X k, R X k = psD b (j + 1) nv na at0 n (af1 X) k
variable {R : Int → Nat → List Int}
theorem RnR.len (h : RnR b j at0 n nv na R) (X : Int) (k : Nat) : (R X k).length = 4 := by rw [h X k, aH4]
theorem RnR.start (h : RnR b j at0 n nv na R) (X : Int) : R X 0 = [0, 0, 0, 0] := h X 0
theorem RnR.next (h : RnR b j at0 n nv na R) {X v : Int} (hk : k < 4) (hp : ptD b (j + 1 + k) nv na at0 n ((af1 X).getD k 0) = v) : R X (k + 1) = (R X k).set k v := by rw [h X (k + 1), h X k]; exact bb3 hk hp
end
abbrev mA (r : Nat) : AV := .agg [.ref r, .ref (r + 1)]
abbrev mT (r : Nat) : AV := .agg [.ref r, .tref (r + 1)]
abbrev mS (m : D9) : List It := [dI m.vals, dR m.arrs]
abbrev mO (m : D9) : List It := [.row 3 (.ints m.vals), .tree (.rows m.arrs)]
theorem am8 (l : List Int) : t7.ok Try.prog (M4 177 [.ref 0] [dI l] (bA (H1 l))) := by
  refine L8 22 Try.func177 [dI l] [(0, .ref 0)] fun G => ?_; have hl : l.length ≤ 9223372036854775807 := G.len 0 (d := .ints l) (by kernel_rfl); refine wp_seq (Q3 G l5 [(0, .ref 0), (2, bA false)] fun G => b5 (wp_seq (wp_seq (Q3 G l5 [(0, .ref 0), (2, bA false), (3, iA 0)] fun G => b5 (wp_block ?_))))); refine D2 (κ := Nat) (fun k => k ≤ l.length ∧ (l.take k).all (fun n => decide (0 ≤ n) && decide (n ≤ 255)) = true) (fun k => l.length - k) (fun k => [dI l]) (fun k => [(0, .ref 0), (2, bA false), (3, iA k)]) 0 (⟨bd0 _, rfl⟩) (A6.at G _ _) ?_; clear G; intro k ρ a w hp G; refine wp_seq (wp_seq (m6 G l5 [(7, bA (decide ((k : Int) < l.length)))] fun G => b5 (rcD G (fun h0 q0 => ?_) fun h0 q0 => ?_)))
  · refine wp_exit (C8 (C8 (C6 (b5 (wp_seq (m6 G l5 [(2, bA true)] fun G => b5 (wp_ret ?_))))))); exact A9 true G [0] (aU5 hp.2 (by omega))
  ·
   refine wp_skip (b5 (wp_seq (wp_block (wp_seq ?_)))); cases h1 : (decide (l.getD k (0 : Int) < 0))
   ·
    have q1 := Y7 h1; refine J9 G (L9 (fc h1 fz) (us [(6, 10, 0), (1011, 1011, 0)])) [(21, bA (decide (l.getD k 0 > 255)))] (iX k k l.length (iX k k l.length [])) (iK (by omega) (iK (by omega) bc4)) fun G => b5 (rcD G (fun h2 q2 => ?_) fun h2 q2 => ?_)
    · refine wp_skip (G6 (b5 (J9 G l5 [(3, iA ((k : Int) + 1))] [wO ((k : Int) + 1)] (o1 (by omega)) fun G => b5 ?_))); exact rxn G (k + 1) (⟨by omega, aN2 hp.2 (by omega) (by omega) (by omega)⟩) (by omega) [0]
    · refine wp_seq (m6 G l5 [] fun G => b5 (wp_ret (D3 (m5 (m5 (D3 (m5 ?_))))))); exact A9 false G [0] (aN1 (k := k) (by omega) (by omega))
   · have q1 := Y6 h1; refine J9 G (L9 (fc h1 fz) (us [(6, 10, 0), (1011, 1011, 0)])) [(21, bA true)] (iX k k l.length []) (iK (by omega) bc4) fun G => b5 (rT G true (by kernel_rfl) (wp_seq (m6 G l5 [] fun G => b5 (wp_ret (D3 (m5 (m5 (D3 (m5 ?_))))))))); exact A9 false G [0] (aN1 (k := k) (by omega) (by omega))
theorem aT6 (vs ars : List Int) (bd : List b6) (xs : List Int) (rs : List (List Int)) : t7.ok Try.prog (M4 111 [pA 0, mA 3] [dI vs, dI ars, dT bd, dI xs, dR rs] (bA (mfB vs.length ars.length ⟨xs, rs⟩))) := by
  refine L8 51 Try.func111 [dI vs, dI ars, dT bd, dI xs, dR rs] [(0, pA 0), (1, .agg [.ref 3, .ref 4])] fun G => ?_; have hl : rs.length ≤ 9223372036854775807 := G.len 4 (d := .rows rs) (by kernel_rfl); refine wp_seq (B5 G l5 [0, 1, 2, 3, 4, 5, 13] [dI vs, dI ars, dT bd, dI xs, dR rs, .box (pL 0), .box [.ref 3, .ref 4]] [(2, .ptr 5 0), (3, .ptr 6 0), (4, bA false)] fun G => b5 (wp_seq (wp_seq ?_))); cases h0 : ((xs.length : Int) != (vs.length : Int))
  ·
   have q0 := bne_eq_false_iff_eq.1 h0; cases h1 : ((rs.length : Int) != (ars.length : Int))
   ·
    have q1 := bne_eq_false_iff_eq.1 h1; refine B5 G (E4 (A3 19 [3] (am8 xs) E3) (fc h0 (fc h1 fz)) (us [(8, 14, 0), (1015, 1015, 0), (17, 20, 1), (1021, 1021, 1)])) [0, 1, 2, 3, 4, 6] [dI vs, dI ars, dT bd, dI xs, dR rs, .box [.ref 3, .ref 4]] [(3, .ptr 5 0), (4, bA false), (27, .v (.bool !H1 xs))] fun G => b5 ?_; cases h2 : (!H1 xs)
    ·
     have q2 : (H1 xs) = true := (Eq.mp (bc8 _) h2); refine rF G _ h2 (wp_skip (b5 (wp_seq (wp_seq (Q3 G l5 [(3, .ptr 5 0), (4, bA false), (5, iA 0)] fun G => b5 (wp_block ?_)))))); refine D2 (κ := Nat) (fun k => k ≤ rs.length ∧ (rs.take k).all T1 = true) (fun k => rs.length - k) (fun k => [dI vs, dI ars, dT bd, dI xs, dR rs, .box [.ref 3, .ref 4]]) (fun k => [(3, .ptr 5 0), (4, bA false), (5, iA k)]) 0 (by simp [h0, h1, h2, q2]) (A6.at G _ _) ?_; clear G; intro k ρ a w hp G; refine wp_seq (wp_seq (m6 G l5 [(32, bA (decide ((k : Int) < rs.length)))] fun G => b5 (rcD G (fun h3 q3 => ?_) fun h3 q3 => ?_)))
     · refine wp_exit (C8 (C8 (C6 (b5 (wp_seq (B5 G l5 (rg 5) [dI vs, dI ars, dT bd, dI xs, dR rs] [(4, bA true)] fun G => b5 (wp_ret ?_))))))); exact A9 true G (rg 5) (a81 (by dsimp only; omega) (by dsimp only; omega) (by with_reducible assumption) (aZ5 (l := rs) hp.2 (by omega)))
     ·
      refine wp_skip (b5 (wp_seq (wp_block (wp_seq ?_)))); cases h4 : (((rs.getD k []).length : Int) != 4)
      ·
       have q4 := bne_eq_false_iff_eq.1 h4; refine J9 G (E4 (A3 13 [102] (am8 (rs.getD k [])) E3) (fc h4 fz) (us [(8, 14, 0), (1015, 1015, 0)])) [(50, .v (.bool !H1 (rs.getD k [])))] (iX k k rs.length (iX k k rs.length [])) (iK (by omega) (iK (by omega) bc4)) fun G => b5 ?_; cases h5 : (!H1 (rs.getD k []))
       · have q5 : (H1 (rs.getD k [])) = true := (Eq.mp (bc8 _) h5); refine rF G _ h5 (wp_skip (G6 (b5 (J9 G l5 [(5, iA ((k : Int) + 1))] [wO ((k : Int) + 1)] (o1 (by omega)) fun G => b5 ?_)))); exact rxn G (k + 1) (⟨by omega, aU1 hp.2 (by omega) (by omega) (by with_reducible assumption)⟩) (by omega) (rg 6)
       · have q5 : (H1 (rs.getD k [])) = false := (Eq.mp (bc6 _) h5); refine rT G _ h5 (wp_seq (m6 G l5 [] fun G => b5 (wp_ret (D3 (m5 (m5 (D3 (m5 ?_)))))))); exact A9 false G (rg 5) (a12 (aU0 (l := rs) (k := k) (by omega) (.inr (by with_reducible assumption))))
      · have q4 := bne_iff_ne.1 h4; refine J9 G (L9 (fc h4 fz) (us [(8, 14, 0), (1015, 1015, 0)])) [(50, bA true)] (iX k k rs.length []) (iK (by omega) bc4) fun G => b5 (rT G true (by kernel_rfl) (wp_seq (m6 G l5 [] fun G => b5 (wp_ret (D3 (m5 (m5 (D3 (m5 ?_))))))))); exact A9 false G (rg 5) (a12 (aU0 (l := rs) (k := k) (by omega) (.inl (by omega))))
    · have q2 : (H1 xs) = false := (Eq.mp (bc6 _) h2); refine rT G _ h2 (wp_seq (m6 G l5 [] fun G => b5 (wp_ret (m5 ?_)))); exact A9 false G (rg 5) (a13 (by with_reducible assumption))
   · have q1 := bne_iff_ne.1 h1; refine B5 G (L9 (fc h0 (fc h1 fz)) (us [(8, 14, 0), (1015, 1015, 0), (17, 20, 1), (1021, 1021, 1)])) [0, 1, 2, 3, 4, 6] [dI vs, dI ars, dT bd, dI xs, dR rs, .box [.ref 3, .ref 4]] [(3, .ptr 5 0), (4, bA false), (27, bA true)] fun G => b5 (rT G true (by kernel_rfl) (wp_seq (m6 G l5 [] fun G => b5 (wp_ret (m5 ?_))))); exact A9 false G (rg 5) (a14 (by dsimp only; omega))
  · have q0 := bne_iff_ne.1 h0; refine B5 G (L9 (fc h0 (fc (b := true) rfl fz)) (us [(8, 14, 0), (1015, 1015, 0), (17, 20, 1), (1021, 1021, 1)])) [0, 1, 2, 3, 4, 6] [dI vs, dI ars, dT bd, dI xs, dR rs, .box [.ref 3, .ref 4]] [(3, .ptr 5 0), (4, bA false), (27, bA true)] fun G => b5 (rT G true (by kernel_rfl) (wp_seq (m6 G l5 [] fun G => b5 (wp_ret (m5 ?_))))); exact A9 false G (rg 5) (a15 (by dsimp only; omega))
theorem aU7 {l : List (List Int)} {k : Nat} (h : k < l.length) : l.take (k + 1) = l.take k ++ [l.getD k []] := by
 rw [p7 _ _ h, t2 h]
theorem av3 {l : List (List Int)} {k : Nat} (h : l.length ≤ k) : l.take k = l := bc3 h
abbrev aG3 : It := .box [.v (.slice none 0 0), .v (.slice none 0 0)]
theorem aT7 (xs : List Int) (rs : List (List Int)) (hx : xs.length ≤ 1048576) (hr : rs.length ≤ 1048576) (hi : ∀ a ∈ rs, a.length ≤ 1048576) : t7.ok Try.prog ⟨112, [mA 0], [dI xs, dR rs], [dI xs, dR rs, .row 3 (.ints xs), .tree (.rows rs)], mT 2⟩ := by
 refine L8 30 Try.func112 [dI xs, dR rs] [(0, .agg [.ref 0, .ref 1])] fun G => ?_; refine wp_seq (B5 G l5 [0, 1, 2, 10] [dI xs, dR rs, .box [.ref 0, .ref 1], aG3] [(1, .ptr 2 0), (2, .ptr 3 0)] fun G => b5 (wp_seq (rA1 G l5 [0, 1, 2, 3, 28, 44] [dI xs, dR rs, .box [.ref 0, .ref 1], aG3, .row 3 (D.ints ([] ++ xs)), .box [.ref 4, .v (.slice none 0 0)]] [(1, .ptr 2 0), (2, .ptr 3 0), (3, .ptr 5 0)] (aP ((0 : Nat) + xs.length) 8 []) (aK (by omega) bc4) fun G => b5 (wp_seq (wp_seq (Q3 G l5 [(1, .ptr 2 0), (2, .ptr 3 0), (3, .ptr 5 0), (4, iA 0)] fun G => b5 (wp_block ?_))))))); obtain ⟨ρ, G⟩ := G.nilT 6 (.rows []) [dI xs, dR rs, .box [.ref 0, .ref 1], .box [.v (.slice none 0 0), .v (.slice none 0 0)], .row 3 (D.ints ([] ++ xs)), .box [.ref 4, .tref 6]] [(1, .ptr 2 0), (2, .ptr 3 0), (3, .ptr 5 0), (4, iA 0)]; refine D2 (κ := Nat) (fun k => k ≤ rs.length) (fun k => rs.length - k) (fun k => [dI xs, dR rs, .box [.ref 0, .ref 1], .box [.v (.slice none 0 0), .v (.slice none 0 0)], .row 3 (D.ints ([] ++ xs)), .box [.ref 4, .tref 6], .tree (.rows (rs.take k))]) (fun k => [(1, .ptr 2 0), (2, .ptr 3 0), (3, .ptr 5 0), (4, iA k)]) 0 (by omega) (A6.at G _ _) ?_; clear G; intro k ρ a w hp G; replace G := A6.at G [dI xs, dR rs, .box [.ref 0, .ref 1], aG3, .row 3 (D.ints ([] ++ xs)), .box [.ref 4, .tref 6], .tree (D.rows (List.take k rs))] [(1, .ptr 2 0), (2, .ptr 3 0), (3, .ptr 5 0), (4, iA k)]; refine wp_seq (wp_seq (m6 G l5 [(14, bA (decide ((k : Int) < rs.length)))] fun G => b5 (rcD G (fun h0 q0 => ?_) fun h0 q0 => ?_)))
 ·refine wp_exit (C8 (C8 (C6 (b5 (wp_seq (B5 G l5 [0, 1, 3, 4, 6] [dI xs, dR rs, .box [.ref 3, .tref 4], .row 3 (D.ints ([] ++ xs)), .tree (D.rows (List.take k rs))] [(2, .ptr 2 0)] fun G => b5 (wp_ret ?_))))))); exact rxr G [0, 1, 3, 4] (by show _ = mR [0, 1, 3, 4] [dI xs, dR rs, .row 3 (D.ints xs), .tree (D.rows rs)]; have e1 : (List.take k rs : List (List Int)) = (rs) := (av3 (by omega)); (first | rw [e1] | simp only [e1]) <;> rfl)
 ·refine wp_skip (b5 (wp_seq (wp_block (a69 G l5 [0, 1, 0, 0, 8, 0, 56, 120, 252, 508, 1023, 2047, 4095] [0, 1, 2, 3, 4, 5, 87] [dI xs, dR rs, .box [.ref 0, .ref 1], aG3, .row 3 (D.ints ([] ++ xs)), .box [.ref 4, .tref 6], .tree (D.rows (List.take k rs ++ [[] ++ rs.getD k []]))] [(1, .ptr 2 0), (2, .ptr 3 0), (3, .ptr 5 0), (4, iA k)] (iX k k rs.length (aP ((0 : Nat) + (rs.getD k []).length) 8 (aP ((List.take k rs).length + [[] ++ rs.getD k []].length) 24 []))) (iK (by omega) (aK (by have h9 := hi (rs.getD k []) (by rw [t2 (by omega)]; exact bd2 _); omega) (aK (by simp; omega) bc4))) fun G => G6 (b5 (J9 G l5 [(4, iA ((k : Int) + 1))] [wO ((k : Int) + 1)] (o1 (by omega)) fun G => b5 ?_)))))); exact rxn G (k + 1) (by omega) (by omega) (rg 7) (by have e1 : (List.take (k + 1) rs : List (List Int)) = (List.take k rs ++ [[] ++ rs.getD k []]) := (aU7 (by omega)); (first | rw [e1] | simp only [e1]) <;> rfl)
section
variable {vs ars : List Int} {l : Int} {s : b6} {pc pd : Int}
end
section
variable (vs ars : List Int) (bd : List b6)
theorem aM1 : t7.ok Try.prog (M4 16 [pA 0] [dI vs, dI ars, dT bd] (bA (K1 ⟨vs, ars, bd⟩))) := ah5 ⟨vs, ars, bd⟩
end
abbrev nvB (n : Int) : Bool := !(decide (0 ≤ n) && decide (n ≤ 255))
theorem aZ3 (n : Int) : t7.ok Try.prog (M4 202 [iA n] [] (bA (nvB n))) := by
 refine L8 6 Try.func202 [] [(0, iA n)] fun G => ?_; refine wp_seq (m6 G l5 [(2, bA false)] fun G => b5 (wp_seq (m6 G (P4 1 [] (A1 n 0 255)) [(2, .v (.bool !(decide (0 ≤ n) && decide (n ≤ 255))))] fun G => b5 (wp_ret ?_)))); exact rxr G []
theorem a86 (l : List Int) : t7.ok Try.prog (M4 231 [.ref 0, .fn 202 []] [dI l] (iA (V3 nvB l))) := by
  refine L8 19 Try.func231 [dI l] [(0, .ref 0), (1, .fn 202 [])] fun G => ?_; have hl : l.length ≤ 9223372036854775807 := G.len 0 (d := .ints l) (by kernel_rfl); refine wp_seq (Q3 G l5 [(0, .ref 0), (1, .fn 202 []), (4, iA 0)] fun G => b5 (wp_seq (wp_seq (Q3 G l5 [(0, .ref 0), (1, .fn 202 []), (4, iA 0), (7, iA (l.length : Int)), (8, iA 0)] fun G => b5 (wp_block ?_))))); refine D2 (κ := Nat) (fun k => k ≤ l.length ∧ (l.take k).any nvB = false) (fun k => l.length - k) (fun k => [dI l]) (fun k => [(0, .ref 0), (1, .fn 202 []), (4, iA 0), (7, iA (l.length : Int)), (8, iA k)]) 0 (⟨bd0 _, rfl⟩) (A6.at G _ _) ?_; clear G; intro k ρ a w hp G; refine wp_seq (m6 G l5 [(9, bA (decide ((k : Int) < l.length)))] fun G => b5 (wp_seq (rcD G (fun h0 q0 => ?_) fun h0 q0 => ?_)))
  · refine wp_exit (C8 (C8 (C6 (b5 (wp_seq (m6 G l5 [(4, iA (-1))] fun G => b5 (wp_ret ?_))))))); exact Z2 (-1) G [0] (al9 (aA4 hp.2 (by omega)))
  ·
   refine wp_skip (b5 (wp_seq (wp_block (wp_seq (m6 G l5 [(5, iA k)] fun G => b5 (wp_seq (J9 G (P4 5 [] (aZ3 (l.getD k 0))) [(16, bA (nvB (l.getD k 0)))] (iX k k l.length []) (iK (by omega) bc4) fun G => b5 (rcB G (fun h1 => ?_) fun h1 => ?_))))))))
   · refine wp_skip (G6 (b5 (J9 G l5 [(8, iA ((k : Int) + 1))] [wO ((k : Int) + 1)] (o1 (by omega)) fun G => b5 ?_))); exact rxn G (k + 1) (⟨by omega, aA3 (z := 0) hp.2 (by omega) (by assumption)⟩) (by omega) [0]
   · refine wp_seq (m6 G l5 [(4, iA k)] fun G => b5 (wp_ret (D3 (m5 (m5 (D3 (m5 ?_))))))); exact Z2 ((k : Int)) G [0] (aq2 (z := 0) (by omega) hp.2 (by assumption))
theorem a88 (l : List Int) : t7.ok Try.prog (M4 189 [.ref 0, .fn 202 []] [dI l] (bA (l.any nvB))) := by
 refine L8 9 Try.func189 [dI l] [(0, .ref 0), (1, .fn 202 [])] fun G => ?_; refine wp_seq (m6 G l5 [(4, bA false)] fun G => b5 (wp_seq (m6 G (P4 2 [0] (a86 l)) [(4, bA (decide (V3 nvB l ≥ 0)))] fun G => b5 (wp_ret ?_)))); exact A9 (decide (V3 nvB l ≥ 0)) G [0] ((aq3 _ _).symm)
theorem aN3 (l : List Int) : (!l.any nvB) = H1 l := by
 unfold H1
 rw [List.all_eq_not_any_not]
theorem ah0 (l : List Int) : t7.ok Try.prog (M4 154 [.ref 0] [dI l] (bA (H1 l))) := by
 refine L8 6 Try.func154 [dI l] [(0, .ref 0)] fun G => ?_; refine wp_seq (m6 G l5 [(2, bA false)] fun G => b5 (wp_seq (m6 G (P4 1 [0] (a88 l)) [(2, .v (.bool !l.any nvB))] fun G => b5 (wp_ret ?_)))); exact rxv (.v (.bool !l.any nvB)) G [0] (by have e1 : (H1 l : Bool) = (!l.any nvB) := ((aN3 l).symm); (first | rw [e1] | simp only [e1]) <;> rfl)
abbrev naB (a : List Int) : Bool := !(T1 a)
theorem bb5 {a : List Int} (h : ¬ (a.length : Int) = 4) : naB a = true := by unfold naB T1; rw [decide_eq_false (p := a.length = 4) (by omega)]; rfl
theorem bb4 {a : List Int} (h : (a.length : Int) = 4) : naB a = !(H1 a) := by unfold naB T1; rw [decide_eq_true (p := a.length = 4) (by omega)]; rfl
theorem a47 (l : List Int) : t7.ok Try.prog (M4 180 [.ref 0] [dI l] (bA (naB l))) := by
 refine L8 11 Try.func180 [dI l] [(0, .ref 0)] fun G => ?_; refine wp_seq (m6 G l5 [(2, bA false)] fun G => b5 (wp_seq ?_)); cases h0 : ((l.length : Int) != 4)
 ·have q0 := bne_eq_false_iff_eq.1 h0; refine m6 G (E4 (A3 5 [0] (ah0 l) E3) (fc h0 fz) [(4, 0), (5, 0), (6, 0), (1007, 0)]) [(2, .v (.bool !H1 l))] fun G => b5 (wp_ret ?_); exact rxv (.v (.bool !H1 l)) G [0] (by have e1 : (naB l : Bool) = (!H1 l) := (bb4 (by omega)); (first | rw [e1] | simp only [e1]) <;> rfl)
 ·have q0 := bne_iff_ne.1 h0; refine m6 G (L9 (fc h0 fz) [(4, 0), (5, 0), (6, 0), (1007, 0)]) [(2, bA true)] fun G => b5 (wp_ret ?_); exact A9 true G [0] (bb5 (by omega))
theorem a87 (l : List (List Int)) : t7.ok Try.prog (M4 217 [.ref 0, .fn 180 []] [dR l] (iA (V3 naB l))) := by
  refine L8 19 Try.func217 [dR l] [(0, .ref 0), (1, .fn 180 [])] fun G => ?_; have hl : l.length ≤ 9223372036854775807 := G.len 0 (d := .rows l) (by kernel_rfl); refine wp_seq (Q3 G l5 [(0, .ref 0), (1, .fn 180 []), (4, iA 0)] fun G => b5 (wp_seq (wp_seq (Q3 G l5 [(0, .ref 0), (1, .fn 180 []), (4, iA 0), (7, iA (l.length : Int)), (8, iA 0)] fun G => b5 (wp_block ?_))))); refine D2 (κ := Nat) (fun k => k ≤ l.length ∧ (l.take k).any naB = false) (fun k => l.length - k) (fun k => [dR l]) (fun k => [(0, .ref 0), (1, .fn 180 []), (4, iA 0), (7, iA (l.length : Int)), (8, iA k)]) 0 (⟨bd0 _, rfl⟩) (A6.at G _ _) ?_; clear G; intro k ρ a w hp G; refine wp_seq (m6 G l5 [(9, bA (decide ((k : Int) < l.length)))] fun G => b5 (wp_seq (rcD G (fun h0 q0 => ?_) fun h0 q0 => ?_)))
  · refine wp_exit (C8 (C8 (C6 (b5 (wp_seq (m6 G l5 [(4, iA (-1))] fun G => b5 (wp_ret ?_))))))); exact Z2 (-1) G [0] (al9 (aA4 hp.2 (by omega)))
  ·
   refine wp_skip (b5 (wp_seq (wp_block (wp_seq (m6 G l5 [(5, iA k)] fun G => b5 (wp_seq (J9 G (P4 5 [33] (a47 (l.getD k []))) [(16, bA (naB (l.getD k [])))] (iX k k l.length []) (iK (by omega) bc4) fun G => b5 (rcB G (fun h1 => ?_) fun h1 => ?_))))))))
   · refine wp_skip (G6 (b5 (J9 G l5 [(8, iA ((k : Int) + 1))] [wO ((k : Int) + 1)] (o1 (by omega)) fun G => b5 ?_))); exact rxn G (k + 1) (⟨by omega, aA3 (z := []) hp.2 (by omega) (by assumption)⟩) (by omega) [0]
   · refine wp_seq (m6 G l5 [(4, iA k)] fun G => b5 (wp_ret (D3 (m5 (m5 (D3 (m5 ?_))))))); exact Z2 ((k : Int)) G [0] (aq2 (z := []) (by omega) hp.2 (by assumption))
theorem a89 (l : List (List Int)) : t7.ok Try.prog (M4 179 [.ref 0, .fn 180 []] [dR l] (bA (l.any naB))) := by
 refine L8 9 Try.func179 [dR l] [(0, .ref 0), (1, .fn 180 [])] fun G => ?_; refine wp_seq (m6 G l5 [(4, bA false)] fun G => b5 (wp_seq (m6 G (P4 2 [0] (a87 l)) [(4, bA (decide (V3 naB l ≥ 0)))] fun G => b5 (wp_ret ?_)))); exact A9 (decide (V3 naB l ≥ 0)) G [0] ((aq3 _ _).symm)
theorem aZ4 (l : List (List Int)) : (!l.any naB) = l.all T1 := by
 rw [List.all_eq_not_any_not]
theorem a79 {nv na : Nat} {m : D9} (h1 : (m.vals.length : Int) = nv) (h2 : (m.arrs.length : Int) = na) (h3 : H1 m.vals = true) : (!m.arrs.any naB) = mfB nv na m := by
 rw [a80 h1 h2 h3]; exact aZ4 _
theorem aF5 (vs ars xs : List Int) (rs : List (List Int)) : t7.ok Try.prog (M4 116 [.ref 0, .ref 1, mA 2] [dI vs, dI ars, dI xs, dR rs] (bA (mfB vs.length ars.length ⟨xs, rs⟩))) := by
  refine L8 31 Try.func116 [dI vs, dI ars, dI xs, dR rs] [(0, .ref 0), (1, .ref 1), (2, .agg [.ref 2, .ref 3])] fun G => ?_; refine wp_seq (B5 G l5 (rg 5) [dI vs, dI ars, dI xs, dR rs, .box [.ref 2, .ref 3]] [(0, .ref 0), (1, .ref 1), (5, .ptr 4 0), (6, bA false)] fun G => b5 (wp_seq (wp_seq ?_))); cases h0 : ((xs.length : Int) != (vs.length : Int))
  ·
   have q0 := bne_eq_false_iff_eq.1 h0; cases h1 : ((rs.length : Int) != (ars.length : Int))
   ·
    have q1 := bne_eq_false_iff_eq.1 h1; refine m6 G (E4 (A3 17 [2] (ah0 xs) E3) (fc h0 (fc h1 fz)) (us [(7, 12, 0), (1013, 1013, 0), (15, 18, 1), (1019, 1019, 1)])) [(26, .v (.bool !H1 xs))] fun G => b5 ?_; cases h2 : (!H1 xs)
    · have q2 : (H1 xs) = true := (Eq.mp (bc8 _) h2); refine rF G _ h2 (wp_skip (b5 (wp_seq (B5 G (P4 2 [3] (a89 rs)) (rg 4) [dI vs, dI ars, dI xs, dR rs] [(6, .v (.bool !rs.any naB))] fun G => b5 (wp_ret ?_))))); exact rxv (.v (.bool !rs.any naB)) G (rg 4) (by have e1 : (mfB vs.length ars.length (D9.mk xs rs) : Bool) = (!rs.any naB) := ((a79 (m := ⟨xs, rs⟩) (by dsimp only; omega) (by dsimp only; omega) (by with_reducible assumption)).symm); (first | rw [e1] | simp only [e1]) <;> rfl)
    · have q2 : (H1 xs) = false := (Eq.mp (bc6 _) h2); refine rT G _ h2 (wp_seq (m6 G l5 [] fun G => b5 (wp_ret (m5 ?_)))); exact A9 false G (rg 4) (a13 (by with_reducible assumption))
   · have q1 := bne_iff_ne.1 h1; refine m6 G (L9 (fc h0 (fc h1 fz)) (us [(7, 12, 0), (1013, 1013, 0), (15, 18, 1), (1019, 1019, 1)])) [(26, bA true)] fun G => b5 (rT G true (by kernel_rfl) (wp_seq (m6 G l5 [] fun G => b5 (wp_ret (m5 ?_))))); exact A9 false G (rg 4) (a14 (by dsimp only; omega))
  · have q0 := bne_iff_ne.1 h0; refine m6 G (L9 (fc h0 (fc (b := true) rfl fz)) (us [(7, 12, 0), (1013, 1013, 0), (15, 18, 1), (1019, 1019, 1)])) [(26, bA true)] fun G => b5 (rT G true (by kernel_rfl) (wp_seq (m6 G l5 [] fun G => b5 (wp_ret (m5 ?_))))); exact A9 false G (rg 4) (a15 (by dsimp only; omega))
theorem an1 (vs ars : List Int) (bd : List b6) (xs : List Int) (rs : List (List Int)) : t7.ok Try.prog (M4 91 [pA 0, mA 3] [dI vs, dI ars, dT bd, dI xs, dR rs] (bA (K1 ⟨vs, ars, bd⟩ && mfB vs.length ars.length ⟨xs, rs⟩))) := by
 have hv := aM1 (vs := vs) (ars := ars) (bd := bd); refine L8 15 Try.func91 [dI vs, dI ars, dT bd, dI xs, dR rs] [(0, pA 0), (1, .agg [.ref 3, .ref 4])] fun G => ?_; refine wp_seq (B5 G l5 [0, 1, 2, 3, 4, 5, 13] [dI vs, dI ars, dT bd, dI xs, dR rs, .box (pL 0), .box [.ref 3, .ref 4]] [(2, .ptr 5 0), (3, .ptr 6 0), (4, bA false)] fun G => b5 (wp_seq ?_)); cases h0 : (K1 (l6.mk vs ars bd))
 ·refine B5 G (E4 (A3 1 [0, 1, 2] hv E3) (fc h0 fz) (us [(3, 8, 0), (1009, 1009, 0)])) (rg 5) [dI vs, dI ars, dT bd, dI xs, dR rs] [(4, bA false)] fun G => b5 (wp_ret ?_); exact rxr G (rg 5)
 ·refine B5 G (E4 (A3 1 [0, 1, 2] hv (A3 8 [0, 1, 3, 4] (aF5 vs ars xs rs) E3)) (fc h0 fz) (us [(3, 8, 0), (1009, 1009, 0)])) (rg 5) [dI vs, dI ars, dT bd, dI xs, dR rs] [(4, bA (mfB vs.length ars.length (D9.mk xs rs)))] fun G => b5 (wp_ret ?_); exact rxr G (rg 5)
theorem aF0 (v : Value) (n : Nat) (t : List Value) (w : World) (h : H6 w v n 1 t) (h1 : ∀ u ∈ t, u.oneCell' = true) (hb : n ≤ 1000000000000) :
  Calls Try.prog 181 #[v] w fun e w' => ∃ u, e = .returned u ∧ E9 w' w.heap.size w'.heap.size 23 1 u n t ∧ Below w.heap.size w w' := by
 obtain ⟨a, cap, rfl, hc1, hc2, hc3, -⟩ := h.open
 have hnil := fun w => Lib.run_eql_slice_nil (P := Try.prog) w 35 23 a n cap 0 0 Try.underlying35
 rcases a with _ | a
 ·have hn : n = 0 := by
   rcases Nat.eq_zero_or_pos n with h0 | h0
   ·exact h0
   ·obtain ⟨_, a, c, he, _, _, hx⟩ := h
    cases he
    obtain ⟨_, _, he, _⟩ := hx h0
    cases he
  subst hn
  have ht : t = [] := bf0 (by have := h.1; omega)
  subst ht
  simp only [Option.isNone_none] at hnil
  go_enter Try.func181, Try.ntmps181
  go_wp2_with fail
  go_ret
  exact ⟨_, rfl, ⟨World.ownsRow_nil _ _ _ _, fun g hg => by cases hg⟩, Below.refl _ _⟩
 ·go_enter Try.func181, Try.ntmps181
  simp only [Option.isNone_some] at hnil
  have ba := (Below.refl w.heap.size w).alloc (bc1 _) (.cells #[] 23)
  go_wp2_with (at_builtin; refine ai9 rfl _ _ rfl Try.underlying35 aI3 rfl (by omega) rfl (S7 w #[] 0 1 _ rfl rfl (by omega)).1 rfl (h.below ba) h1 (by omega) (by omega) (by simp) ?_; rintro a4 q4 w4 o4 b4 - -)
  go_ret
  refine ⟨_, rfl, E9.mk' (by simpa using o4), ba.trans b4⟩
theorem aY4 (v1 v2 : Value) (xs : List Int) (rs : List (List Int)) (w : World) (h1 : H6 w v1 xs.length 1 (ints xs)) (h2 : O1 w v2 rs) (hx : xs.length ≤ 1048576) (hr : rs.length ≤ 1048576) (hi : ∀ r ∈ rs, r.length ≤ 1048576) :
  Calls Try.prog 117 #[.agg #[v1, v2]] w fun e w' => ∃ u1 u2 mid, w.heap.size ≤ mid ∧ e = .returned (.agg #[u1, u2]) ∧ E9 w' w.heap.size mid 3 1 u1 xs.length (ints xs) ∧ G2 w' mid w'.heap.size u2 rs ∧ Below w.heap.size w w' := by
 obtain ⟨vs, hv, hrows⟩ := h2
 have hvl : vs.length = rs.length := by have := hv.1; omega
 have hone : ∀ u ∈ vs, u.oneCell' = true := by
  intro u hu
  obtain ⟨i, hi, rfl⟩ := List.mem_iff_getElem.1 hu
  obtain ⟨a', c', e⟩ := (hrows i _ _ (bb7 hi) (bb7 (by omega))).form
  rw [e]; rfl
 obtain ⟨n, hn⟩ : ∃ n, n = w.heap.size := ⟨_, rfl⟩
 obtain ⟨W, hW⟩ : ∃ W, W = (w.alloc (.cells #[v1, v2] 37)).alloc (.cells #[.slice none 0 0, .slice none 0 0] 37) := ⟨_, rfl⟩
 have B0 : Below n w W := by rw [hW, hn]; go_grown
 have sW : W.heap.size = n + 1 + 1 := by rw [hW, hn]; simp
 have L1 : I8 W n [v1, v2] := by rw [hW, hn]; exact (I8.new w [v1, v2] _).alloc _
 have L2 : I8 W (n + 1) [.slice none 0 0, .slice none 0 0] := by rw [hW, hn]; exact I8.new' (w.alloc _) [.slice none 0 0, .slice none 0 0] _ (by simp)
 have HR1 := show Hid (∀ W', Below n w W' → H6 W' v1 xs.length 1 (ints xs)) from fun W' g => h1.below (by rw [← hn]; exact g)
 have HR2 := show Hid (∀ W', Below n w W' → H6 W' v2 rs.length 1 vs) from fun W' g => hv.below (by rw [← hn]; exact g)
 have HR3 := show Hid (∀ W', Below n w W' → ∀ (i : Nat) (u : Value) (r : List Int), vs[i]? = some u → rs[i]? = some r → H6 W' u r.length 1 (ints r)) from fun W' g i u r a b => (hrows i u r a b).below (by rw [← hn]; exact g)
 have HA := show Hid (∀ W', Below (n + 1 + 1) W W' → Below n w W') from fun W' g => B0.trans (g.mono (by omega))
 have HT := show Hid (∀ W', Below (n + 1 + 1) W W' → W'.cell? ⟨n, 0, none⟩ = some v1 ∧ W'.cell? ⟨n, 1, none⟩ = some v2 ∧ W'.frozen? ⟨n, 0, none⟩ = false ∧ W'.frozen? ⟨n, 1, none⟩ = false) from by
  intro W' hb
  have L' := L1.below hb (by omega)
  exact ⟨by simpa using L'.cell 0, by simpa using L'.cell 1, L'.free 0, L'.free 1⟩
 have HQ := show Hid (∀ W' W'', Below (n + 1 + 1) W W' → Below W'.heap.size W' W'' → Below (n + 1 + 1) W W'') from fun W' W'' g k => g.trans (k.mono (by have := g.size; omega))
 have hb0 : Below (n + 1 + 1) W W.drew := (Below.refl _ W).drew
 obtain ⟨c0, c1, f0, f1⟩ := HT.out _ hb0
 have HN := show Hid (n = w.heap.size) from hn
 have HB0 := show Hid _ from B0
 have HL2 := show Hid _ from L2
 have HL1 := show Hid _ from L1
 have HO := show Hid _ from hone
 have HVL := show Hid _ from hvl
 clear h1 hv hrows B0 L1 L2 hone hvl
 go_enter Try.func117, Try.ntmps117
 go_wp2_with fail
 rw [← HN.out]
 rw [← hW]
 clear hn hW
 go_region_with (first
  | (go_at_call 118; refine (am3 v1 xs _ (HR1.out _ (HA.out _ hb0)) (by omega)).mono ?_; rintro e w7 ⟨u1, rfl, o1, b7⟩; obtain ⟨x1, k1, rfl⟩ := o1.form; have q7 := HQ.out _ _ hb0 b7; obtain ⟨c2, c3, f2, f3⟩ := HT.out _ q7)
  | (go_at_call 181; refine (aF0 v2 rs.length vs _ (HR2.out _ (HA.out _ q7)) HO.out (by omega)).mono ?_; rintro e w8 ⟨u2, rfl, o2, b8⟩; obtain ⟨x2, k2, rfl⟩ := o2.form; have q8 := HQ.out _ _ q7 b8; obtain ⟨c4, c5, f4, f5⟩ := HT.out _ q8))
 all_goals
  have s7 := b7.size
  have s8 := b8.size
  have sd : W.drew.heap.size = n + 1 + 1 := sW
  have LX := ((I8.below HL1.out q8 (by omega)).set (j := 0) (.slice x1 xs.length k1)).set (j := 1) (.slice x2 rs.length k2)
  have MX := ((I8.below HL2.out q8 (by omega)).other (p := ⟨n, 0, none⟩) (by show n + 1 ≠ n; omega) (.slice x1 xs.length k1)).other (p := ⟨n, 1, none⟩) (by show n + 1 ≠ n; omega) (.slice x2 rs.length k2)
  have OX := ((o1.keep b8 (bc1 _)).other (b := n) (by omega) 0 (.slice x1 xs.length k1)).other (b := n) (by omega) 1 (.slice x2 rs.length k2)
  have PX := (o2.other (b := n) (by omega) 0 (.slice x1 xs.length k1)).other (b := n) (by omega) 1 (.slice x2 rs.length k2)
  have BX := ((HB0.out.trans (q8.mono (by omega))).setCell (p := ⟨n, 0, none⟩) (bc1 _) (.slice x1 xs.length k1)).setCell (p := ⟨n, 1, none⟩) (bc1 _) (.slice x2 rs.length k2)
  have SX : ((w8.setCell ⟨n, 0, none⟩ (.slice x1 xs.length k1)).setCell ⟨n, 1, none⟩ (.slice x2 rs.length k2)).heap.size = w8.heap.size := by simp
  generalize (w8.setCell ⟨n, 0, none⟩ (.slice x1 xs.length k1)).setCell ⟨n, 1, none⟩ (.slice x2 rs.length k2) = wX at *
  clear c0 c1 c2 c3 c4 c5 f0 f1 f2 f3 f4 f5 hb0 q7 q8 HQ HT HA HL1 HL2 HB0 b7 b8 o1 o2
  have r0 := LX.cell 0
  have r1 := LX.cell 1
  simp at r0 r1
  obtain ⟨A, hA⟩ : ∃ A, A = w7.heap.size := ⟨_, rfl⟩
  obtain ⟨B, hB⟩ : ∃ B, B = w8.heap.size := ⟨_, rfl⟩
  rw [← hA] at OX PX s7 s8
  rw [← hB] at PX s8 SX
  rw [sd] at OX s7
  have HLX := show Hid _ from LX
  have HMX := show Hid _ from MX
  clear hA hB LX MX sd sW
  go_wp2_with fail
  clear r0 r1
  go_loopw [3, 4, 16] (fun _ _ i wr => ∃ (k : Nat) (cs : List Value), k ≤ rs.length ∧ i = .int .i64 k ∧ E9 wr A B 23 1 (.slice x2 rs.length k2) rs.length cs ∧ (∀ (i : Nat) (u : Value) (r : List Int), i < k → cs[i]? = some u → rs[i]? = some r → E9 wr B wr.heap.size 3 1 u r.length (ints r)) ∧
    (∀ (i j : Nat) (u u' : Value), i < j → j < k → cs[i]? = some u → cs[j]? = some u' → an9 u u') ∧ (∀ i, k ≤ i → cs[i]? = vs[i]?) ∧ E9 wr (n + 1 + 1) A 3 1 (.slice x1 xs.length k1) xs.length (ints xs) ∧ I8 wr n [.slice x1 xs.length k1, .slice x2 rs.length k2] ∧ I8 wr (n + 1) [.slice none 0 0, .slice none 0 0] ∧ Below n w wr ∧ B ≤ wr.heap.size) (fun _ _ i _ => rs.length - (intOf i).toNat)
  case atStart => exact ⟨0, vs, bd0 _, rfl, PX, fun i u r h => by omega, fun i j u u' _ h => by omega, fun i _ => rfl, OX, HLX.out, HMX.out, BX, Nat.le_of_eq SX.symm⟩
  case round =>
   obtain ⟨k, cs, hk, rfl, ho, hrow, hdis, hrest, hvals, hL, hM, hb, hsz⟩ := hrel
   have HROW := show Hid _ from hrow
   have HDIS := show Hid _ from hdis
   have HREST := show Hid _ from hrest
   have HLL := show Hid _ from hL
   have HMM := show Hid _ from hM
   have hcl : cs.length = rs.length := by have := ho.1.1; omega
   clear hrow hdis hrest OX PX BX SX HLX HMX
   have r1 := hL.cell 1
   simp at r1
   by_cases hlt : k < rs.length
   ·obtain ⟨g, cap, hv, hg1, hg2, hg3, -, -, hfz, hcc⟩ := ho.open (by omega)
    cases hv
    have hkc : k < cs.length := by omega
    obtain ⟨u0, hu0⟩ : ∃ u0, u0 = cs[k] := ⟨_, rfl⟩
    have hcu : cs[k]? = some u0 := by rw [hu0]; exact bb7 hkc
    have hvu : vs[k]? = some u0 := by rw [← HREST.out k (bc1 _)]; exact hcu
    have hrk : rs[k]? = some rs[k] := bb7 hlt
    have hrow := HR3.out wr hb k u0 rs[k] hvu hrk
    obtain ⟨au, cu, rfl⟩ := hrow.form
    have hx := hcc k _ hcu
    have f0 := hfz k
    have hlen := hi rs[k] (bd2 hlt)
    have HCU := show Hid _ from hcu
    have HHR := show Hid _ from hrow
    have HHO := show Hid _ from ho
    have HVA := show Hid _ from hvals
    have HB := show Hid _ from hb
    have HRK := show Hid _ from hrk
    have hm1 : rs.length ≤ 9223372036854775807 := by omega
    have HRR := show Hid (H6 wr.drew (.slice au rs[k].length cu) rs[k].length 1 (ints rs[k])) from HR3.out wr.drew hb.drew k _ rs[k] hvu hrk
    have h0g : n + 1 < g := by omega
    clear hu0 hcc hfz hcu hvu hrow ho hvals hb hL hM hrk
    go_wp2_with fail
    go_region_with (go_at_call 118; refine (am3 _ rs[k] _ HRR.out (by omega)).mono ?_; rintro e w9 ⟨u9, rfl, o9, b9⟩; obtain ⟨x9, k9, rfl⟩ := o9.form; have q9 := aF6 b9 (Below.refl _ wr).drew (bc1 _); have f9 := ((P3 q9).2 g k hg3).trans f0; have c9 := ((P3 q9).1 g k hg3).trans hx; have r9 := ((P3 q9).1 n 1 (by omega)).trans r1)
    all_goals
     have s9 := q9.size
     have sz9 : wr.drew.heap.size = wr.heap.size := rfl
     rw [sz9] at o9 b9
     clear f0 hx r1 f9 c9 r9 HRR
     go_wp2_with fail
     refine ⟨⟨k + 1, cs.set k (.slice x9 rs[k].length k9), by omega, by go_num, E9.setCell (E9.keep HHO.out q9 (by omega)) hkc _, ?_, ?_, ?_, (E9.other (E9.keep HVA.out q9 (by omega)) (b := g) (by omega) _ _), (I8.other (I8.below HLL.out q9 (by omega)) (p := ⟨g, k, none⟩) (by show n ≠ g; omega) _), (I8.other (I8.below HMM.out q9 (by omega)) (p := ⟨g, k, none⟩) (by show n + 1 ≠ g; omega) _), (HB.out.trans (q9.mono (by omega))).setCell (p := ⟨g, k, none⟩) (by show n ≤ g; omega) _, by simp; omega⟩, by simp [intOf]; omega⟩
     ·intro i u r hik hu hr'
      by_cases e : i = k
      ·subst e
       rw [List.getElem?_set_self hkc] at hu
       cases hu
       rw [HRK.out] at hr'
       cases hr'
       exact (o9.other (b := g) (by omega) _ _).wide (by omega) (by simp)
      ·rw [bf1 (by omega)] at hu
       exact (((HROW.out i u r (by omega) hu hr').keep q9 (bc1 _)).other (b := g) (by omega) _ _).wide (bc1 _) (by simpa using s9)
     ·intro i j u u' hij hj hu hu'
      rw [bf1 (by omega)] at hu
      by_cases e : j = k
      ·subst e
       rw [List.getElem?_set_self hkc] at hu'
       cases hu'
       exact ai0 (HROW.out i u _ (by omega) hu (bb7 (by omega))) o9 (by omega)
      ·rw [bf1 (by omega)] at hu'
       exact HDIS.out i j u u' hij (by omega) hu hu'
     ·intro i hik
      rw [bf1 (by omega)]
      exact HREST.out i (by omega)
   ·have hke : k = rs.length := by omega
    subst hke
    have r0 := hL.cell 0
    have m0 := hM.cell 0
    have m1 := hM.cell 1
    have fm0 := hM.free 0
    have fm1 := hM.free 1
    simp at r0 m0 m1
    have hF := ((hM.set (j := 0) (.slice x1 xs.length k1)).set (j := 1) (.slice x2 rs.length k2))
    have BF := (hb.setCell (p := ⟨n + 1, 0, none⟩) (by show n ≤ n + 1; omega) (.slice x1 xs.length k1)).setCell (p := ⟨n + 1, 1, none⟩) (by show n ≤ n + 1; omega) (.slice x2 rs.length k2)
    have OF := (hvals.other (b := n + 1) (by omega) 0 (.slice x1 xs.length k1)).other (b := n + 1) (by omega) 1 (.slice x2 rs.length k2)
    have PF := (ho.other (b := n + 1) (by omega) 0 (.slice x1 xs.length k1)).other (b := n + 1) (by omega) 1 (.slice x2 rs.length k2)
    have HRF := show Hid (∀ (i : Nat) (u : Value) (r : List Int), cs[i]? = some u → rs[i]? = some r → E9 ((wr.setCell ⟨n + 1, 0, none⟩ (.slice x1 xs.length k1)).setCell ⟨n + 1, 1, none⟩ (.slice x2 rs.length k2)) B wr.heap.size 3 1 u r.length (ints r)) from fun i u r hu hr' =>
     ((HROW.out i u r (by have := (bc0.1 hr').1; omega) hu hr').other (b := n + 1) (by omega) 0 _).other (b := n + 1) (by omega) 1 _
    have zF : ((wr.setCell ⟨n + 1, 0, none⟩ (.slice x1 xs.length k1)).setCell ⟨n + 1, 1, none⟩ (.slice x2 rs.length k2)).heap.size = wr.heap.size := by simp
    have y0 := hF.cell 0
    have y1 := hF.cell 1
    simp at y0 y1
    have HBF := show Hid _ from BF
    have HOF := show Hid _ from OF
    have HPF := show Hid _ from PF
    have HZF := show Hid _ from zF
    clear hF BF OF PF zF ho hvals hL hM hb
    go_wp2_with fail
    refine bodyPost_ret (v := .agg #[.slice x1 xs.length k1, .slice x2 rs.length k2]) (by simp [results, Try.results117, go_sem, y0, y1]) rfl ⟨_, _, A, by rw [← HN.out]; omega, rfl, ?_, ⟨cs, ?_, ?_, ?_, ?_⟩, ?_⟩
    ·rw [← HN.out]; exact E9.wide HOF.out (by omega) (bc1 _)
    ·exact E9.wide HPF.out (bc1 _) (by rw [HZF.out]; omega)
    ·intro i u r hu hr'
     exact (HRF.out i u r hu hr').wide (by omega) (by rw [HZF.out]; exact bc1 _)
    ·intro i j u u' hij hu hu'
     exact HDIS.out i j u u' hij (by have := (bc0.1 hu').1; omega) hu hu'
    ·intro i u hu
     have hil : i < rs.length := by have := (bc0.1 hu).1; omega
     exact ai0 (HRF.out i u _ hu (bb7 hil)) HPF.out (by omega)
    ·rw [← HN.out]; exact HBF.out
theorem aH2 {w : World} {φ : Nat → Prop} {v : Value} {m : List (List Int)} (h : RD w φ (.rows m) v) : O1 w v m := by
 obtain ⟨vs, h1, h2⟩ := h
 refine ⟨vs, A5.row h1, fun i u r hu hr => ?_⟩
 have hi : i < m.length := (bc0.1 hr).1
 obtain ⟨u', a, b⟩ := h2 i hi
 rw [hu] at a; cases a
 rw [bb7 hi] at hr; cases hr
 exact A5.row b
theorem ax4 {w : World} {lo hi : Nat} {v : Value} {m : List (List Int)} (h : G2 w lo hi v m) : A8 w (fun b => lo ≤ b ∧ b < hi) (.rows m) v := by
 obtain ⟨vs, h1, h2, h3, h4⟩ := h
 have hl : vs.length = m.length := by have := h1.1.1; omega
 refine ⟨_, vs, fun b => ∃ (i : Nat) (u : Value), vs[i]? = some u ∧ u.ownBlock = some b, rfl, C0 h1.1 (bd0 _), fun g hg => ⟨⟨(h1.lt g hg).1, (h1.lt g hg).2.1⟩, ?_⟩, ?_, an8.tree ⟨hl, fun i hi' => ?_, fun i j u u' hij hu hu' g hg => ?_⟩⟩
 ·rintro ⟨i, u, hu, hb⟩
  exact h4 i u hu g hb hg
 ·rintro b ⟨i, u, hu, hb⟩
  have hi' : i < m.length := by have := (bc0.1 hu).1; omega
  have := (h2 i u _ hu (bb7 hi')).lt b hb
  exact ⟨this.1, this.2.1⟩
 ·have hv : i < vs.length := by omega
  exact ⟨vs[i], bb7 hv, fun _ => C0 (h2 i _ _ (bb7 hv) (bb7 hi')).1 (bd0 _), fun g hg => ⟨i, _, bb7 hv, hg⟩⟩
 ·exact h3 i j u u' hij hu hu' g hg
theorem a59 (m : D9) (hx : m.vals.length ≤ 1048576) (hr : m.arrs.length ≤ 1048576) (hi : ∀ r ∈ m.arrs, r.length ≤ 1048576) : t7.ok Try.prog ⟨117, [mA 0], mS m, mS m ++ mO m, mT 2⟩ := by
 intro ι φ ψ w0 w F ρ M
 have r1 := M.datAt (id := 0) (d := .ints m.vals) rfl
 have r2 := M.datAt (id := 1) (d := .rows m.arrs) rfl
 refine (aY4 (ρ 0) (ρ 1) m.vals m.arrs w (A5.row r1) (aH2 r2) hx hr hi).mono ?_
 rintro e w' ⟨u1, u2, mid, hmid, rfl, o1, o2, hbl⟩
 obtain ⟨z, hz1, hz2⟩ := P2 u2 (fun b => mid ≤ b ∧ b < w'.heap.size) w'.heap.size fun b h => h.2
 refine ⟨fun i => if i = 2 then u1 else if i = 3 then z else ρ i, fun i hi => ?_, by simp [AV.val, AV.vals, hz1], ?_⟩
 ·have : i < 2 := hi
  simp only [if_neg (show ¬ i = 2 by omega), if_neg (show ¬ i = 3 by omega)]
 ·refine M.grow hbl (fun k => k = .inr 2 ∨ k = .inr 3) (fun k hk => ?_) ?_ ?_ ?_
  ·cases k with
   | inl i => rfl
   | inr j =>
    match j, hk with
    | 0, _ => rfl
    | 1, _ => rfl
    | 2, h => exact absurd (.inl rfl) h
    | 3, h => exact absurd (.inr rfl) h
    | j + 4, _ => rfl
  ·rintro k (rfl | rfl) b hb
   ·exact (o1.lt b hb).1
   ·exact be0 hmid ((hz2 b).1 hb).1
  ·rintro j k b hjk (rfl | rfl) (rfl | rfl) hj hk
   ·exact hjk rfl
   ·have h1 := (o1.lt b hj).2.1
    have h2 := ((hz2 b).1 hk).1
    omega
   ·have h1 := (o1.lt b hk).2.1
    have h2 := ((hz2 b).1 hj).1
    omega
   ·exact hjk rfl
  ·rintro k (rfl | rfl)
   ·exact O3 (C0 o1.1 (bd0 _))
   ·have e : t3 z = fun b => mid ≤ b ∧ b < w'.heap.size := funext fun b => propext (hz2 b)
    show (Rs.own (t3 z) fun w => A8 w (t3 z) (.rows m.arrs) (D4 z)).holds _ _
    rw [hz1, e]
    exact ⟨fun _ _ h hs => h.same hs, ax4 o2, fun b hb => hb.2⟩
theorem am6 (p : l6) (m : D9) (hb : s6 p.body ≤ 1048576) : t7.ok Try.prog (M4 127 [pA 0, mA 3] (pS p ++ mS m) (bA (Q7 p m))) := by
 refine L8 12 Try.func127 [dI p.vars, dI p.arrays, dT p.body, dI m.vals, dR m.arrs] [(0, pA 0), (1, .agg [.ref 3, .ref 4])] fun G => ?_; refine wp_seq (B5 G l5 [0, 1, 2, 3, 4, 5, 13] [dI p.vars, dI p.arrays, dT p.body, dI m.vals, dR m.arrs, .box (pL 0), .box [.ref 3, .ref 4]] [(2, .ptr 5 0), (3, .ptr 6 0), (4, bA false)] fun G => b5 (wp_seq ?_)); cases h0 : (K1 p)
 ·refine B5 G (E4 (A3 1 [0, 1, 2] (X1 p (by assumption)) E3) (fc h0 fz) [(3, 0), (4, 0), (5, 0), (1006, 0)]) (rg 5) [dI p.vars, dI p.arrays, dT p.body, dI m.vals, dR m.arrs] [(4, bA false)] fun G => b5 (wp_ret ?_); exact A9 false G (rg 5) (by unfold Q7; rw [show K1 p = false by assumption]; rfl)
 ·refine B5 G (E4 (A3 1 [0, 1, 2] (X1 p (by assumption)) (A3 5 (rg 5) (aT6 p.vars p.arrays p.body m.vals m.arrs) E3)) (fc h0 fz) [(3, 0), (4, 0), (5, 0), (1006, 0)]) (rg 5) [dI p.vars, dI p.arrays, dT p.body, dI m.vals, dR m.arrs] [(4, bA (mfB p.vars.length p.arrays.length (D9.mk m.vals m.arrs)))] fun G => b5 (wp_ret ?_); exact A9 (mfB p.vars.length p.arrays.length (D9.mk m.vals m.arrs)) G (rg 5) (by unfold Q7; rw [show K1 p = true by assumption]; rfl)
abbrev ai7 : It := .box [.v (.slice none 0 0), .v (.slice none 0 0)]
abbrev M7 (bit : Int) (r0 : List (Nat × AV)) : List (Nat × AV) := (2, iA bit) :: (3, .ptr 5 0) :: (6, .ptr 6 0) :: (7, .ptr 9 0) :: r0
abbrev V8 (p : l6) (m : D9) (r0 : List It) : List It := dI p.vars :: dI p.arrays :: dT p.body :: dI m.vals :: dR m.arrs :: .box (pL 0) :: r0
theorem aN6 (bit : Int) (p : l6) (m : D9) (hv : Q7 p m = true) (hx : m.vals.length ≤ 1048576) (hr : m.arrs.length ≤ 1048576) (hi : ∀ l ∈ m.arrs, l.length ≤ 1048576) : t7.ok Try.prog ⟨128, [pA 0, mA 3, iA bit], pS p ++ mS m, pS p ++ mS m ++ mO (ae9 bit p m), mT 5⟩ := by
  refine L8 59 Try.func128 [dI p.vars, dI p.arrays, dT p.body, dI m.vals, dR m.arrs] [(0, pA 0), (1, .agg [.ref 3, .ref 4]), (2, iA bit)] fun G => ?_; obtain ⟨-, -, hv3, hv4, hv5, -, -⟩ := aH8 hv; refine wp_seq (B5 G l5 [0, 1, 2, 3, 4, 5, 13, 21] (V8 p m [.box [.ref 3, .ref 4], ai7]) [(2, iA bit), (3, .ptr 5 0), (4, .ptr 6 0), (6, .ptr 7 0)] fun G => b5 (wp_seq (B5 G (P4 1 [3, 4] (aT7 m.vals m.arrs (by assumption) (by assumption) (by assumption))) [0, 1, 2, 3, 4, 5, 7, 16, 17, 24] (V8 p m [ai7, .row 3 (D.ints m.vals), .tree (D.rows m.arrs), .box [.ref 7, .tref 8]]) (M7 bit []) fun G => b5 (wp_seq (wp_seq (Q3 G l5 (M7 bit [(8, iA 0)]) fun G => b5 (wp_block ?_))))))); replace G := G.as (V8 p m [.box [.v (.slice none 0 0), .v (.slice none 0 0)], .row 3 (D.ints (zL bit p.vars m.vals 0)), .tree (D.rows m.arrs), .box [.ref 7, .tref 8]]) (M7 bit [(8, iA 0)]) (by have e1 : (zL bit p.vars m.vals 0 : List Int) = (m.vals) := (a56 _ _ _); (first | rw [e1] | simp only [e1]) <;> rfl) (by kernel_rfl); refine D2 (κ := Nat) (fun i => i ≤ m.vals.length) (fun i => m.vals.length - i) (fun i => [dI p.vars, dI p.arrays, dT p.body, dI m.vals, dR m.arrs, .box (pL 0), .box [.v (.slice none 0 0), .v (.slice none 0 0)], .row 3 (.ints (zL bit p.vars m.vals i)), .tree (D.rows m.arrs), .box [.ref 7, .tref 8]]) (fun i => [(2, iA bit), (3, .ptr 5 0), (6, .ptr 6 0), (7, .ptr 9 0), (8, iA i)]) 0 (by omega) (A6.at G _ _) ?_; clear G; intro i ρ a w hp G; replace G := A6.at G (V8 p m [ai7, .row 3 (D.ints (zL bit p.vars m.vals i)), .tree (D.rows m.arrs), .box [.ref 7, .tref 8]]) (M7 bit [(8, iA i)]); have hzl := aA7 bit p.vars m.vals i; refine wp_seq (wp_seq (Q3 G l5 (M7 bit [(8, iA i), (17, bA (decide ((i : Int) < ((zL bit p.vars m.vals i).length : Int))))]) fun G => b5 ?_)); cases h0 : (decide ((i : Int) < ((zL bit p.vars m.vals i).length : Int)))
  ·
   have q0 := Y7 h0
   obtain rfl : i = m.vals.length := by omega
   refine rF G (decide ((m.vals.length : Int) < ((zL bit p.vars m.vals m.vals.length).length : Int))) (by assumption) (wp_exit (C8 (C8 (C6 (b5 (wp_seq (wp_seq (Q3 G l5 (M7 bit [(9, iA 0)]) fun G => b5 (wp_block ?_))))))))); replace G := G.as (V8 p m [.box [.v (.slice none 0 0), .v (.slice none 0 0)], .row 3 (D.ints (zL bit p.vars m.vals m.vals.length)), .tree (D.rows (zR bit p.arrays m.arrs 0)), .box [.ref 7, .tref 8]]) (M7 bit [(9, iA 0)]) (by have e1 : (zR bit p.arrays m.arrs 0 : List (List Int)) = (m.arrs) := (a52 _ _ _); (first | rw [e1] | simp only [e1]) <;> rfl) (by kernel_rfl); refine D2 (κ := Nat) (fun i2 => i2 ≤ m.arrs.length) (fun i2 => m.arrs.length - i2) (fun i2 => [dI p.vars, dI p.arrays, dT p.body, dI m.vals, dR m.arrs, .box (pL 0), .box [.v (.slice none 0 0), .v (.slice none 0 0)], .row 3 (D.ints (zL bit p.vars m.vals m.vals.length)), .tree (.rows (zR bit p.arrays m.arrs i2)), .box [.ref 7, .tref 8]]) (fun i2 => [(2, iA bit), (3, .ptr 5 0), (6, .ptr 6 0), (7, .ptr 9 0), (9, iA i2)]) 0 (by omega) (A6.at G _ _) ?_; clear G; intro i2 ρ a w hp G; replace G := A6.at G (V8 p m [ai7, .row 3 (D.ints (zL bit p.vars m.vals m.vals.length)), .tree (D.rows (zR bit p.arrays m.arrs i2)), .box [.ref 7, .tref 8]]) (M7 bit [(9, iA i2)]); have hzr := Z7 bit p.arrays m.arrs i2; refine wp_seq (wp_seq (Q3 G l5 (M7 bit [(9, iA i2), (36, bA (decide ((i2 : Int) < ((zR bit p.arrays m.arrs i2).length : Int))))]) fun G => b5 ?_)); cases h2 : (decide ((i2 : Int) < ((zR bit p.arrays m.arrs i2).length : Int)))
   ·
    have q2 := Y7 h2
    obtain rfl : i2 = m.arrs.length := by omega
    refine rF G (decide ((m.arrs.length : Int) < ((zR bit p.arrays m.arrs m.arrs.length).length : Int))) (by assumption) (wp_exit (C8 (C8 (C6 (b5 (wp_seq (B5 G l5 [0, 1, 2, 3, 4, 6, 7, 8] [dI p.vars, dI p.arrays, dT p.body, dI m.vals, dR m.arrs, .box [.ref 6, .tref 7], .row 3 (D.ints (zL bit p.vars m.vals m.vals.length)), .tree (D.rows (zR bit p.arrays m.arrs m.arrs.length))] [(6, .ptr 5 0)] fun G => b5 (wp_ret ?_)))))))); exact rxr G [0, 1, 2, 3, 4, 6, 7]
   ·
    have q2 := Y6 h2; refine rT G _ h2 (wp_skip (b5 (wp_seq (wp_block (wp_seq (Q3 G l5 (M7 bit [(9, iA i2), (10, iA 0)]) fun G => b5 (wp_block ?_))))))); replace G := G.as (V8 p m [.box [.v (.slice none 0 0), .v (.slice none 0 0)], .row 3 (D.ints (zL bit p.vars m.vals m.vals.length)), .tree (D.rows (zQ bit p.arrays m.arrs i2 0)), .box [.ref 7, .tref 8]]) (M7 bit [(9, iA i2), (10, iA 0)]) (by have e1 : (zQ bit p.arrays m.arrs i2 0 : List (List Int)) = (zR bit p.arrays m.arrs i2) := (a53 (by omega)); (first | rw [e1] | simp only [e1]) <;> rfl) (by kernel_rfl); refine D2 (κ := Nat) (fun k2 => k2 ≤ 4) (fun k2 => 4 - k2) (fun k2 => [dI p.vars, dI p.arrays, dT p.body, dI m.vals, dR m.arrs, .box (pL 0), .box [.v (.slice none 0 0), .v (.slice none 0 0)], .row 3 (D.ints (zL bit p.vars m.vals m.vals.length)), .tree (.rows (zQ bit p.arrays m.arrs i2 k2)), .box [.ref 7, .tref 8]]) (fun k2 => [(2, iA bit), (3, .ptr 5 0), (6, .ptr 6 0), (7, .ptr 9 0), (9, iA i2), (10, iA k2)]) 0 (by omega) (A6.at G _ _) ?_; clear G; intro k2 ρ a w hp G; replace G := A6.at G (V8 p m [ai7, .row 3 (D.ints (zL bit p.vars m.vals m.vals.length)), .tree (D.rows (zQ bit p.arrays m.arrs i2 k2)), .box [.ref 7, .tref 8]]) (M7 bit [(9, iA i2), (10, iA k2)]); have ha4 := a17 (m := m) hv5 (i := i2) (by omega); have hql := a19 bit p.arrays m.arrs i2 k2; have hqr := a18 (bit := bit) (ls := p.arrays) (rs := m.arrs) (i := i2) (k := k2) (by omega) (by omega); refine wp_seq (wp_seq (Q3 G l5 (M7 bit [(9, iA i2), (10, iA k2), (40, bA (decide ((k2 : Int) < 4)))]) fun G => b5 ?_)); cases h3 : (decide ((k2 : Int) < 4))
    ·
     have q3 := Y7 h3
     obtain rfl : k2 = 4 := by omega
     refine rF G false (by kernel_rfl) (wp_exit (C8 (C8 (C6 (G6 (b5 (J9 G l5 [(9, iA ((i2 : Int) + 1))] [wO ((i2 : Int) + 1)] (o1 (by omega)) fun G => b5 ?_))))))); exact rxn G (i2 + 1) (by omega) (by omega) (rg 10) (by have e1 : (zR bit p.arrays m.arrs (i2 + 1) : List (List Int)) = (zQ bit p.arrays m.arrs i2 4) := ((a20 (by omega) (by omega)).symm); (first | rw [e1] | simp only [e1]) <;> rfl)
    ·
     have q3 := Y6 h3; refine rT G _ h3 (wp_skip (b5 (wp_seq (wp_block (wp_seq (J9 G l5 [(50, bA (aF8 (p.arrays.getD i2 0) bit != 0))] (iX i2 i2 p.arrays.length []) (iK (by omega) bc4) fun G => b5 (rcN G (fun h4 q4 => ?_) fun h4 q4 => ?_)))))))
     · refine wp_skip (G6 (b5 (J9 G l5 [(10, iA ((k2 : Int) + 1))] [wO ((k2 : Int) + 1)] (o1 (by omega)) fun G => b5 ?_))); exact rxn G (k2 + 1) (by omega) (by omega) (rg 10) (by have e1 : (zQ bit p.arrays m.arrs i2 (k2 + 1) : List (List Int)) = (zQ bit p.arrays m.arrs i2 k2) := (a96 (zbf (by omega))); (first | rw [e1] | simp only [e1]) <;> rfl)
     · refine rA1 G l5 [0, 1, 2, 3, 4, 5, 6, 7, 8, 9, 42] [dI p.vars, dI p.arrays, dT p.body, dI m.vals, dR m.arrs, .box (pL 0), .box [.v (.slice none 0 0), .v (.slice none 0 0)], .row 3 (D.ints (zL bit p.vars m.vals m.vals.length)), .hole 10 i2 (zQ bit p.arrays m.arrs i2 k2), .box [.ref 7, .tref 8], .row 3 (D.ints (((zQ bit p.arrays m.arrs i2 k2).getD i2 []).set k2 0))] (M7 bit [(9, iA i2), (10, iA k2)]) (iX i2 i2 ((zQ bit p.arrays m.arrs i2 k2).length) (iX k2 k2 (((zQ bit p.arrays m.arrs i2 k2).getD i2 []).length) [])) (iK (by omega) (iK (by omega) bc4)) fun G => ?_; replace G := G.heal 8 10 i2 (zQ bit p.arrays m.arrs i2 k2) (((zQ bit p.arrays m.arrs i2 k2).getD i2 []).set k2 0) (V8 p m [.box [.v (.slice none 0 0), .v (.slice none 0 0)], .row 3 (D.ints (zL bit p.vars m.vals m.vals.length)), .tree (D.rows ((zQ bit p.arrays m.arrs i2 k2).set i2 (((zQ bit p.arrays m.arrs i2 k2).getD i2 []).set k2 0))), .box [.ref 7, .tref 8], .dead]); refine G6 (b5 (rA1 G l5 (rg 10) (V8 p m [ai7, .row 3 (D.ints (zL bit p.vars m.vals m.vals.length)), .tree (D.rows ((zQ bit p.arrays m.arrs i2 k2).set i2 (((zQ bit p.arrays m.arrs i2 k2).getD i2 []).set k2 0))), .box [.ref 7, .tref 8]]) (M7 bit [(9, iA i2), (10, iA ((k2 : Int) + 1))]) [wO ((k2 : Int) + 1)] (o1 (by omega)) fun G => b5 ?_)); exact rxn G (k2 + 1) (by omega) (by omega) (rg 10) (by have e1 : (zQ bit p.arrays m.arrs i2 (k2 + 1) : List (List Int)) = ((zQ bit p.arrays m.arrs i2 k2).set i2 (((zQ bit p.arrays m.arrs i2 k2).getD i2 []).set k2 0)) := (a95 (by omega) (by omega) (zbt (by omega))); (first | rw [e1] | simp only [e1]) <;> rfl)
  ·
   have q0 := Y6 h0; refine rT G _ h0 (wp_skip (b5 (wp_seq (wp_block (wp_seq (J9 G l5 [(27, bA (aF8 (p.vars.getD i 0) bit != 0))] (iX i i p.vars.length []) (iK (by omega) bc4) fun G => b5 (rcN G (fun h1 q1 => ?_) fun h1 q1 => ?_)))))))
   · refine wp_skip (G6 (b5 (J9 G l5 [(8, iA ((i : Int) + 1))] [wO ((i : Int) + 1)] (o1 (by omega)) fun G => b5 ?_))); exact rxn G (i + 1) (by omega) (by omega) (rg 10) (by have e1 : (zL bit p.vars m.vals (i + 1) : List Int) = (zL bit p.vars m.vals i) := (a55 (zbf (by omega))); (first | rw [e1] | simp only [e1]) <;> rfl)
   · refine rA1 G l5 (rg 10) (V8 p m [ai7, .row 3 (D.ints ((zL bit p.vars m.vals i).set i 0)), .tree (D.rows m.arrs), .box [.ref 7, .tref 8]]) (M7 bit [(8, iA i)]) (iX i i ((zL bit p.vars m.vals i).length) []) (iK (by omega) bc4) fun G => G6 (b5 (J9 G l5 [(8, iA ((i : Int) + 1))] [wO ((i : Int) + 1)] (o1 (by omega)) fun G => b5 ?_)); exact rxn G (i + 1) (by omega) (by omega) (rg 10) (by have e1 : (zL bit p.vars m.vals (i + 1) : List Int) = ((zL bit p.vars m.vals i).set i 0) := (a54 (by omega) (zbt (by omega))); (first | rw [e1] | simp only [e1]) <;> rfl)
theorem aT4 (l : Int) : t7.ok Try.prog (M4 130 [iA l] [] (bA (!(t9 l && decide (l ≤ 1))))) := by
 refine L8 6 Try.func130 [] [(0, iA l)] fun G => ?_; refine wp_seq (m6 G l5 [(2, bA false)] fun G => b5 (wp_seq (m6 G (P4 1 [] (ah6 l)) [(2, .v (.bool !(t9 l && decide (l ≤ 1))))] fun G => b5 (wp_ret ?_)))); exact rxr G []
abbrev ap2 : It := .box [.v (.slice none 0 0), .v (.slice none 0 0)]
abbrev ap1 (p : l6) (r0 : List (Nat × AV)) : List (Nat × AV) := (3, .fn 130 []) :: (8, .ptr 4 0) :: (9, .ptr 7 0) :: (31, .ref 1) :: (32, iA (p.arrays.length : Int)) :: r0
abbrev au8 (p : l6) (r0 : List (Nat × AV)) : List (Nat × AV) := (1, .ref 1) :: (3, .fn 130 []) :: (8, .ptr 4 0) :: (9, .ptr 7 0) :: (16, .ref 0) :: (17, iA (p.vars.length : Int)) :: r0
abbrev U8 (p : l6) (m : D9) (r0 : List It) : List It := dI p.vars :: dI p.arrays :: dI m.vals :: dR m.arrs :: r0
theorem aB2 (p : l6) (m : D9) (hv : Q7 p m = true) (hx : m.vals.length ≤ 1048576) (hr : m.arrs.length ≤ 1048576) (hi : ∀ l ∈ m.arrs, l.length ≤ 1048576) : t7.ok Try.prog ⟨129, [.ref 0, .ref 1, mA 2, .fn 130 []], [dI p.vars, dI p.arrays, dI m.vals, dR m.arrs], [dI p.vars, dI p.arrays, dI m.vals, dR m.arrs] ++ mO (ae9 2 p m), mT 4⟩ := by
  have how := a59 m (by omega) (by omega) hi; refine L8 48 Try.func129 (U8 p m []) [(0, .ref 0), (1, .ref 1), (2, .agg [.ref 2, .ref 3]), (3, .fn 130 [])] fun G => ?_; obtain ⟨hv1, hv2, hv3, hv4, hv5, hv6, hv7⟩ := aH8 hv; refine wp_seq (B5 G l5 [0, 1, 2, 3, 4, 12] (U8 p m [.box [.ref 2, .ref 3], ap2]) [(0, .ref 0), (1, .ref 1), (3, .fn 130 []), (6, .ptr 4 0), (8, .ptr 5 0)] fun G => b5 (wp_seq (B5 G (P4 1 [2, 3] how) [0, 1, 2, 3, 5, 14, 15, 22] (U8 p m [ap2, .row 3 (D.ints m.vals), .tree (D.rows m.arrs), .box [.ref 5, .tref 6]]) [(0, .ref 0), (1, .ref 1), (3, .fn 130 []), (8, .ptr 4 0), (9, .ptr 7 0)] fun G => b5 (wp_seq (wp_seq (Q3 G l5 (au8 p [(18, iA 0)]) fun G => b5 (wp_block ?_))))))); replace G := G.as (U8 p m [.box [.v (.slice none 0 0), .v (.slice none 0 0)], .row 3 (D.ints (zL 2 p.vars m.vals 0)), .tree (D.rows m.arrs), .box [.ref 5, .tref 6]]) (au8 p [(18, iA 0)]) (by have e1 : (zL 2 p.vars m.vals 0 : List Int) = (m.vals) := (a56 _ _ _); (first | rw [e1] | simp only [e1]) <;> rfl) (by kernel_rfl); refine D2 (κ := Nat) (fun i => i ≤ p.vars.length) (fun i => p.vars.length - i) (fun i => [dI p.vars, dI p.arrays, dI m.vals, dR m.arrs, .box [.v (.slice none 0 0), .v (.slice none 0 0)], .row 3 (.ints (zL 2 p.vars m.vals i)), .tree (D.rows m.arrs), .box [.ref 5, .tref 6]]) (fun i => [(1, .ref 1), (3, .fn 130 []), (8, .ptr 4 0), (9, .ptr 7 0), (16, .ref 0), (17, iA (p.vars.length : Int)), (18, iA i)]) 0 (by omega) (A6.at G _ _) ?_; clear G; intro i ρ a w hp G; replace G := A6.at G (U8 p m [ap2, .row 3 (D.ints (zL 2 p.vars m.vals i)), .tree (D.rows m.arrs), .box [.ref 5, .tref 6]]) (au8 p [(18, iA i)]); have hzl := aA7 2 p.vars m.vals i; refine wp_seq (Q3 G l5 (au8 p [(18, iA i), (19, bA (decide ((i : Int) < p.vars.length)))]) fun G => b5 (wp_seq ?_)); cases h0 : (decide ((i : Int) < p.vars.length))
  ·
   have q0 := Y7 h0
   obtain rfl : i = p.vars.length := by omega
   refine rF G (decide ((p.vars.length : Int) < p.vars.length)) (by assumption) (wp_exit (C8 (C8 (C6 (b5 (wp_seq (wp_seq (Q3 G l5 (ap1 p [(33, iA 0)]) fun G => b5 (wp_block ?_))))))))); replace G := G.as (U8 p m [.box [.v (.slice none 0 0), .v (.slice none 0 0)], .row 3 (D.ints (zL 2 p.vars m.vals p.vars.length)), .tree (D.rows (zR 2 p.arrays m.arrs 0)), .box [.ref 5, .tref 6]]) (ap1 p [(33, iA 0)]) (by have e1 : (zR 2 p.arrays m.arrs 0 : List (List Int)) = (m.arrs) := (a52 _ _ _); (first | rw [e1] | simp only [e1]) <;> rfl) (by kernel_rfl); refine D2 (κ := Nat) (fun i2 => i2 ≤ p.arrays.length) (fun i2 => p.arrays.length - i2) (fun i2 => [dI p.vars, dI p.arrays, dI m.vals, dR m.arrs, .box [.v (.slice none 0 0), .v (.slice none 0 0)], .row 3 (D.ints (zL 2 p.vars m.vals p.vars.length)), .tree (.rows (zR 2 p.arrays m.arrs i2)), .box [.ref 5, .tref 6]]) (fun i2 => [(3, .fn 130 []), (8, .ptr 4 0), (9, .ptr 7 0), (31, .ref 1), (32, iA (p.arrays.length : Int)), (33, iA i2)]) 0 (by omega) (A6.at G _ _) ?_; clear G; intro i2 ρ a w hp G; replace G := A6.at G (U8 p m [ap2, .row 3 (D.ints (zL 2 p.vars m.vals p.vars.length)), .tree (D.rows (zR 2 p.arrays m.arrs i2)), .box [.ref 5, .tref 6]]) (ap1 p [(33, iA i2)]); have hzr := Z7 2 p.arrays m.arrs i2; refine wp_seq (Q3 G l5 (ap1 p [(33, iA i2), (34, bA (decide ((i2 : Int) < p.arrays.length)))]) fun G => b5 (wp_seq ?_)); cases h2 : (decide ((i2 : Int) < p.arrays.length))
   ·
    have q2 := Y7 h2
    obtain rfl : i2 = p.arrays.length := by omega
    refine rF G (decide ((p.arrays.length : Int) < p.arrays.length)) (by assumption) (wp_exit (C8 (C8 (C6 (b5 (wp_seq (B5 G l5 (rg 7) (U8 p m [.box [.ref 5, .tref 6], .row 3 (D.ints (zL 2 p.vars m.vals p.vars.length)), .tree (D.rows (zR 2 p.arrays m.arrs p.arrays.length))]) [(8, .ptr 4 0)] fun G => b5 (wp_ret ?_)))))))); exact rxr G [0, 1, 2, 3, 5, 6] (by show _ = mR [0, 1, 2, 3, 5, 6] (U8 p m [.row 3 (D.ints (ae9 2 p m).vals), .tree (D.rows (ae9 2 p m).arrs)]); have e1 : ((ae9 2 p m).vals : List Int) = (zL 2 p.vars m.vals p.vars.length) := (congrArg (zL _ _ _) hv3); have e2 : ((ae9 2 p m).arrs : List (List Int)) = (zR 2 p.arrays m.arrs p.arrays.length) := (congrArg (zR _ _ _) hv4); (first | rw [e1, e2] | simp only [e1, e2]) <;> rfl)
   ·
    have q2 := Y6 h2; refine rT G _ h2 (wp_skip (b5 (wp_seq (wp_block (wp_seq (J9 G l5 [(12, iA i2), (13, iA (p.arrays.getD i2 0))] (iX i2 i2 p.arrays.length []) (iK (by omega) bc4) fun G => b5 (wp_seq (m6 G (P4 2 [] (aT4 (p.arrays.getD i2 0))) [(40, .v (.bool !(t9 (p.arrays.getD i2 0) && decide (p.arrays.getD i2 0 ≤ 1))))] fun G => b5 ?_)))))))); cases h3 : (!(t9 (p.arrays.getD i2 (0 : Int)) && decide (p.arrays.getD i2 (0 : Int) ≤ 1)))
    · have q3 : ((t9 (p.arrays.getD i2 0)) = true) ∧ (p.arrays.getD i2 0 ≤ 1) := (fun hq => And.imp (fun hq => (hq)) (fun hq => of_decide_eq_true hq) (Bool.and_eq_true_iff.1 hq)) (Eq.mp (bc8 _) h3); refine rF G _ h3 (wp_skip (G6 (b5 (J9 G l5 [(33, iA ((i2 : Int) + 1))] [wO ((i2 : Int) + 1)] (o1 (by omega)) fun G => b5 ?_)))); exact rxn G (i2 + 1) (by omega) (by omega) (rg 8) (by have e1 : (zR 2 p.arrays m.arrs (i2 + 1) : List (List Int)) = (zR 2 p.arrays m.arrs i2) := (a51 (zc2 hv2 (by omega) (by with_reducible assumption))); (first | rw [e1] | simp only [e1]) <;> rfl)
    · have q3 : ((t9 (p.arrays.getD i2 0)) = false) ∨ (¬ (p.arrays.getD i2 0 ≤ 1)) := (fun hq => Or.imp (fun hq => (hq)) (fun hq => of_decide_eq_false hq) (Bool.and_eq_false_iff.1 hq)) (Eq.mp (bc6 _) h3); refine rT G _ h3 (rA1 G l5 [0, 1, 2, 3, 4, 5, 6, 7, 40] [dI p.vars, dI p.arrays, dI m.vals, dR m.arrs, .box [.v (.slice none 0 0), .v (.slice none 0 0)], .row 3 (D.ints (zL 2 p.vars m.vals p.vars.length)), .hole 8 i2 (zR 2 p.arrays m.arrs i2), .box [.ref 5, .tref 6], .row 3 (D.ints (bd1 ((zR 2 p.arrays m.arrs i2).getD i2 []).length 0))] (ap1 p [(33, iA i2)]) (iX i2 i2 ((zR (2 : Int) p.arrays m.arrs i2).length) (((0 : Nat) < ((zR (2 : Int) p.arrays m.arrs i2).getD i2 []).length) :: [])) (iK (by omega) ⟨(by rw [aG0 (by omega) (bc1 _), a17 (m := m) hv5 (by omega)]; decide), bc4⟩) fun G => ?_); replace G := G.heal 6 8 i2 (zR 2 p.arrays m.arrs i2) (bd1 ((zR 2 p.arrays m.arrs i2).getD i2 []).length 0) (U8 p m [.box [.v (.slice none 0 0), .v (.slice none 0 0)], .row 3 (D.ints (zL 2 p.vars m.vals p.vars.length)), .tree (D.rows ((zR 2 p.arrays m.arrs i2).set i2 (bd1 ((zR 2 p.arrays m.arrs i2).getD i2 []).length 0))), .box [.ref 5, .tref 6], .dead]); refine G6 (b5 (rA1 G l5 (rg 8) (U8 p m [ap2, .row 3 (D.ints (zL 2 p.vars m.vals p.vars.length)), .tree (D.rows ((zR 2 p.arrays m.arrs i2).set i2 (bd1 ((zR 2 p.arrays m.arrs i2).getD i2 []).length 0))), .box [.ref 5, .tref 6]]) (ap1 p [(33, iA ((i2 : Int) + 1))]) [wO ((i2 : Int) + 1)] (o1 (by omega)) fun G => b5 ?_)); exact rxn G (i2 + 1) (by omega) (by omega) (rg 8) (by have e1 : (zR 2 p.arrays m.arrs (i2 + 1) : List (List Int)) = ((zR 2 p.arrays m.arrs i2).set i2 (bd1 ((zR 2 p.arrays m.arrs i2).getD i2 []).length 0)) := (a50 (by omega) (zc2 hv2 (by omega) (by with_reducible assumption))); (first | rw [e1] | simp only [e1]) <;> rfl)
  ·
   have q0 := Y6 h0; refine rT G _ h0 (wp_skip (b5 (wp_seq (wp_block (wp_seq (J9 G l5 [(10, iA i), (11, iA (p.vars.getD i 0))] (iX i i p.vars.length []) (iK (by omega) bc4) fun G => b5 (wp_seq (m6 G (P4 2 [] (aT4 (p.vars.getD i 0))) [(25, .v (.bool !(t9 (p.vars.getD i 0) && decide (p.vars.getD i 0 ≤ 1))))] fun G => b5 ?_)))))))); cases h1 : (!(t9 (p.vars.getD i (0 : Int)) && decide (p.vars.getD i (0 : Int) ≤ 1)))
   · have q1 : ((t9 (p.vars.getD i 0)) = true) ∧ (p.vars.getD i 0 ≤ 1) := (fun hq => And.imp (fun hq => (hq)) (fun hq => of_decide_eq_true hq) (Bool.and_eq_true_iff.1 hq)) (Eq.mp (bc8 _) h1); refine rF G _ h1 (wp_skip (G6 (b5 (J9 G l5 [(18, iA ((i : Int) + 1))] [wO ((i : Int) + 1)] (o1 (by omega)) fun G => b5 ?_)))); exact rxn G (i + 1) (by omega) (by omega) (rg 8) (by have e1 : (zL 2 p.vars m.vals (i + 1) : List Int) = (zL 2 p.vars m.vals i) := (a55 (zc2 hv1 (by omega) (by with_reducible assumption))); (first | rw [e1] | simp only [e1]) <;> rfl)
   · have q1 : ((t9 (p.vars.getD i 0)) = false) ∨ (¬ (p.vars.getD i 0 ≤ 1)) := (fun hq => Or.imp (fun hq => (hq)) (fun hq => of_decide_eq_false hq) (Bool.and_eq_false_iff.1 hq)) (Eq.mp (bc6 _) h1); refine rT G _ h1 (rA1 G l5 (rg 8) (U8 p m [ap2, .row 3 (D.ints ((zL 2 p.vars m.vals i).set i 0)), .tree (D.rows m.arrs), .box [.ref 5, .tref 6]]) (au8 p [(18, iA i)]) (iX i i ((zL (2 : Int) p.vars m.vals i).length) []) (iK (by omega) bc4) fun G => G6 (b5 (J9 G l5 [(18, iA ((i : Int) + 1))] [wO ((i : Int) + 1)] (o1 (by omega)) fun G => b5 ?_))); exact rxn G (i + 1) (by omega) (by omega) (rg 8) (by have e1 : (zL 2 p.vars m.vals (i + 1) : List Int) = ((zL 2 p.vars m.vals i).set i 0) := (a54 (by omega) (zc2 hv1 (by omega) (by with_reducible assumption))); (first | rw [e1] | simp only [e1]) <;> rfl)
theorem a82 (p : l6) (m : D9) : t7.ok Try.prog (M4 91 [pA 0, mA 3] (pS p ++ mS m) (bA (Q7 p m))) := an1 p.vars p.arrays p.body m.vals m.arrs
abbrev aG2 (p : l6) (m : D9) : List It := [dI p.vars, dI p.arrays, dT p.body, dI m.vals, dR m.arrs, .row 3 (D.ints (B3 2 p m).vals), .tree (D.rows (B3 2 p m).arrs)]
theorem aj4 (p : l6) (m : D9) (hb : s6 p.body ≤ 1048576) (hx : m.vals.length ≤ 1048576) (hr : m.arrs.length ≤ 1048576) (hi : ∀ l ∈ m.arrs, l.length ≤ 1048576) : t7.ok Try.prog ⟨53, [pA 0, mA 3], pS p ++ mS m, pS p ++ mS m ++ mO (B3 2 p m), .tup [mT 5, bA (Q7 p m)]⟩ := by
 have hl3 := fun hv => aN6 2 p m hv hx hr hi
 refine L8 14 Try.func53 [dI p.vars, dI p.arrays, dT p.body, dI m.vals, dR m.arrs] [(0, pA 0), (1, .agg [.ref 3, .ref 4])] fun G => ?_; refine wp_seq (B5 G l5 [0, 1, 2, 3, 4, 5, 13, 21] [dI p.vars, dI p.arrays, dT p.body, dI m.vals, dR m.arrs, .box (pL 0), .box [.ref 3, .ref 4], .box [.v (.slice none 0 0), .v (.slice none 0 0)]] [(2, .ptr 5 0), (3, .ptr 6 0), (4, .ptr 7 0), (5, bA false)] fun G => b5 (wp_seq (wp_seq (m6 G (P4 2 (rg 5) (am6 p m (by assumption))) [(9, .v (.bool !Q7 p m))] fun G => b5 ?_)))); cases h0 : (!Q7 p m)
 ·have q0 : (Q7 p m) = true := (Eq.mp (bc8 _) h0); refine rF G _ h0 (wp_skip (b5 (wp_seq (B5 G (P4 2 (rg 5) (hl3 (by assumption))) [0, 1, 2, 3, 4, 7, 24, 25] [dI p.vars, dI p.arrays, dT p.body, dI m.vals, dR m.arrs, .box [.ref 6, .tref 7], .row 3 (D.ints (ae9 2 p m).vals), .tree (D.rows (ae9 2 p m).arrs)] [(4, .ptr 5 0), (5, bA true)] fun G => b5 (wp_ret ?_))))); exact rxv (.tup [.agg [.ref 6, .tref 7], bA true]) G [0, 1, 2, 3, 4, 6, 7] (by have e1 : (Q7 p m : Bool) = (true) := (by assumption); (first | rw [e1] | simp only [e1]) <;> rfl) (by show _ = mR [0, 1, 2, 3, 4, 6, 7] (aG2 p m); unfold aG2; rw [a03 (by with_reducible assumption)] <;> rfl)
 ·have q0 : (Q7 p m) = false := (Eq.mp (bc6 _) h0); refine rT G _ h0 (wp_seq (Q3 G l5 [(2, .ptr 5 0), (3, .ptr 6 0), (4, .ptr 7 0), (5, bA false)] fun G => b5 (wp_ret (m5 ?_)))); obtain ⟨ρ, G⟩ := G.nil 8 3 (.ints []) 1 [dI p.vars, dI p.arrays, dT p.body, dI m.vals, dR m.arrs, .box (pL 0), .box [.ref 3, .ref 4], .box [.ref 8, .v (.slice none 0 0)]] [(2, .ptr 5 0), (3, .ptr 6 0), (4, .ptr 7 0), (5, bA false)]; obtain ⟨ρ, G⟩ := G.nilT 9 (.rows []) [dI p.vars, dI p.arrays, dT p.body, dI m.vals, dR m.arrs, .box (pL 0), .box [.ref 3, .ref 4], .box [.ref 8, .tref 9], .row 3 (D.ints [])] [(2, .ptr 5 0), (3, .ptr 6 0), (4, .ptr 7 0), (5, bA false)]; exact rxv (.tup [.agg [.ref 8, .tref 9], bA false]) G [0, 1, 2, 3, 4, 8, 9] (by have e1 : (Q7 p m : Bool) = (false) := (by assumption); (first | rw [e1] | simp only [e1]) <;> rfl) (by show _ = mR [0, 1, 2, 3, 4, 8, 9] (aG2 p m); unfold aG2; rw [a04 (by with_reducible assumption)] <;> rfl)
abbrev aG1 (p : l6) (m : D9) : List It := [dI p.vars, dI p.arrays, dT p.body, dI m.vals, dR m.arrs, .row 3 (D.ints (B3 2 p m).vals), .tree (D.rows (B3 2 p m).arrs)]
theorem aj5 (p : l6) (m : D9) (hx : m.vals.length ≤ 1048576) (hr : m.arrs.length ≤ 1048576) (hi : ∀ l ∈ m.arrs, l.length ≤ 1048576) : t7.ok Try.prog ⟨54, [pA 0, mA 3], pS p ++ mS m, pS p ++ mS m ++ mO (B3 2 p m), .tup [mT 5, bA (Q7 p m)]⟩ := by
 have hmv := a82 p m
 have hcl := fun hv => aB2 p m hv hx hr hi
 refine L8 17 Try.func54 [dI p.vars, dI p.arrays, dT p.body, dI m.vals, dR m.arrs] [(0, pA 0), (1, .agg [.ref 3, .ref 4])] fun G => ?_; refine wp_seq (B5 G l5 [0, 1, 2, 3, 4, 5, 13, 21] [dI p.vars, dI p.arrays, dT p.body, dI m.vals, dR m.arrs, .box (pL 0), .box [.ref 3, .ref 4], .box [.v (.slice none 0 0), .v (.slice none 0 0)]] [(2, .ptr 5 0), (3, .ptr 6 0), (4, .ptr 7 0), (5, bA false)] fun G => b5 (wp_seq (wp_seq (m6 G (P4 2 (rg 5) hmv) [(9, .v (.bool !Q7 p m))] fun G => b5 ?_)))); cases h0 : (!Q7 p m)
 ·have q0 : (Q7 p m) = true := (Eq.mp (bc8 _) h0); refine rF G _ h0 (wp_skip (b5 (wp_seq (B5 G (P4 5 [0, 1, 3, 4] (hcl (by assumption))) [0, 1, 2, 3, 4, 7, 48, 49] [dI p.vars, dI p.arrays, dT p.body, dI m.vals, dR m.arrs, .box [.ref 6, .tref 7], .row 3 (D.ints (ae9 2 p m).vals), .tree (D.rows (ae9 2 p m).arrs)] [(4, .ptr 5 0), (5, bA true)] fun G => b5 (wp_ret ?_))))); exact rxv (.tup [.agg [.ref 6, .tref 7], bA true]) G [0, 1, 2, 3, 4, 6, 7] (by have e1 : (Q7 p m : Bool) = (true) := (by assumption); (first | rw [e1] | simp only [e1]) <;> rfl) (by show _ = mR [0, 1, 2, 3, 4, 6, 7] (aG1 p m); unfold aG1; rw [a03 (by with_reducible assumption)] <;> rfl)
 ·have q0 : (Q7 p m) = false := (Eq.mp (bc6 _) h0); refine rT G _ h0 (wp_seq (Q3 G l5 [(2, .ptr 5 0), (3, .ptr 6 0), (4, .ptr 7 0), (5, bA false)] fun G => b5 (wp_ret (m5 ?_)))); obtain ⟨ρ, G⟩ := G.nil 8 3 (.ints []) 1 [dI p.vars, dI p.arrays, dT p.body, dI m.vals, dR m.arrs, .box (pL 0), .box [.ref 3, .ref 4], .box [.ref 8, .v (.slice none 0 0)]] [(2, .ptr 5 0), (3, .ptr 6 0), (4, .ptr 7 0), (5, bA false)]; obtain ⟨ρ, G⟩ := G.nilT 9 (.rows []) [dI p.vars, dI p.arrays, dT p.body, dI m.vals, dR m.arrs, .box (pL 0), .box [.ref 3, .ref 4], .box [.ref 8, .tref 9], .row 3 (D.ints [])] [(2, .ptr 5 0), (3, .ptr 6 0), (4, .ptr 7 0), (5, bA false)]; exact rxv (.tup [.agg [.ref 8, .tref 9], bA false]) G [0, 1, 2, 3, 4, 8, 9] (by have e1 : (Q7 p m : Bool) = (false) := (by assumption); (first | rw [e1] | simp only [e1]) <;> rfl) (by show _ = mR [0, 1, 2, 3, 4, 8, 9] (aG1 p m); unfold aG1; rw [a04 (by with_reducible assumption)] <;> rfl)
def O9 (x : Int) (n : Nat) : List Int := (bc7 n).map fun (i : Nat) => x + (i : Int)
theorem at2 (x : Int) (n : Nat) : (O9 x n).length = n := by simp [O9]
theorem a42 {x : Int} {n j : Nat} (h : j < n) : (O9 x n).getD j 0 = x + (j : Int) := by simp [O9, bc2, h]
theorem aR2 (x : Int) (n : Nat) : O9 x (n + 1) = O9 x n ++ [x + (n : Int)] := by unfold O9; rw [List.range_succ, List.map_append]; rfl
theorem a41 {α : Type} {l m : List α} {j : Nat} {y : α} (hl : l.length = j) (hj : j < m.length) : (l ++ m.drop j).set j y = (l ++ [y]) ++ m.drop (j + 1) := by
 rw [List.set_append_right _ _ (by omega), hl, Nat.sub_self, List.drop_eq_getElem_cons hj, List.set_cons_zero, List.append_assoc]
 rfl
theorem aY1 {l : List Int} {x : Int} {j : Nat} (hj : (j : Int) < l.length) : (O9 x j ++ l.drop j).set j (x + (j : Int)) = O9 x (j + 1) ++ l.drop (j + 1) := by
 rw [a41 (at2 x j) (by omega), aR2]
theorem aY3 {l : List Int} {x : Int} {j : Nat} (hj : l.length ≤ j) (h2 : j ≤ l.length) : O9 x j ++ l.drop j = O9 x l.length := by
 rw [List.drop_eq_nil_of_le hj, List.append_nil, Nat.le_antisymm h2 hj]
theorem aR4 {l : List Int} {x : Int} {j : Nat} (hj : l.length ≤ j) (h2 : j ≤ l.length) : O9 x l.length = O9 x j ++ l.drop j := (aY3 hj h2).symm
theorem aY2 {l : List Int} {x : Int} {j : Nat} (h2 : j ≤ l.length) : (O9 x j ++ l.drop j).length = l.length := by simp [at2]; omega
theorem az8 (xs : List Int) : t7.ok Try.prog (M4 119 [.ref 0, .ref 1] [dI xs, dI xs] (bA true)) := by
 refine L8 26 Try.func119 [dI xs, dI xs] [(0, .ref 0), (1, .ref 1)] fun G => ?_; have hl : xs.length ≤ 9223372036854775807 := G.len 0 (d := .ints xs) (by kernel_rfl); refine wp_seq (Q3 G l5 [(0, .ref 0), (1, .ref 1), (4, bA false)] fun G => b5 (wp_seq (wp_seq (m6 G l5 [(10, bA ((xs.length : Int) != (xs.length : Int)))] fun G => b5 (rF G ((xs.length : Int) != (xs.length : Int)) (by simp) (wp_skip (b5 (wp_seq (wp_seq (Q3 G l5 [(0, .ref 0), (1, .ref 1), (4, bA false), (5, iA 0)] fun G => b5 (wp_block ?_))))))))))); refine D2 (κ := Nat) (fun k => k ≤ xs.length) (fun k => xs.length - k) (fun k => [dI xs, dI xs]) (fun k => [(0, .ref 0), (1, .ref 1), (4, bA false), (5, iA k)]) 0 (by omega) (A6.at G _ _) ?_; clear G; intro k ρ a w hp G; refine wp_seq (wp_seq (m6 G l5 [(14, bA (decide ((k : Int) < xs.length)))] fun G => b5 (rcD G (fun h0 q0 => ?_) fun h0 q0 => ?_)))
 ·refine wp_exit (C8 (C8 (C6 (b5 (wp_seq (m6 G l5 [(4, bA true)] fun G => b5 (wp_ret ?_))))))); exact rxr G [0, 1]
 ·refine wp_skip (b5 (wp_seq (wp_block (wp_seq (aK3 G l5 [0, 0, 3, 7, 0, 0, 48, 112, 255] [(25, bA (xs.getD k 0 != xs.getD k 0))] (iX k k xs.length (iX k k xs.length [])) (iK (by omega) (iK (by omega) bc4)) fun G => b5 (rF G (xs.getD k (0 : Int) != xs.getD k (0 : Int)) (by simp [h0]) (wp_skip (G6 (b5 (J9 G l5 [(5, iA ((k : Int) + 1))] [wO ((k : Int) + 1)] (o1 (by omega)) fun G => b5 ?_)))))))))); exact rxn G (k + 1) (by omega) (by omega) [0, 1]
theorem aR3 {l : List Int} {x y : Int} {j : Nat} (hy : y = x + (j : Int)) (hj : (j : Int) < l.length) : O9 x (j + 1) ++ l.drop (j + 1) = (O9 x j ++ l.drop j).set j y := by rw [hy, aY1 hj]
theorem am7 (l : List Int) (x : Int) (r0 : 0 ≤ x) (r1 : x + l.length ≤ 9000000000000000000) : t7.ok Try.prog ⟨122, [.ref 0, iA x], [.row 3 (.ints l)], [.row 3 (.ints (O9 x l.length))], iA (x + l.length)⟩ := by
 refine L8 19 Try.func122 [.row 3 (D.ints l)] [(0, .ref 0), (1, iA x)] fun G => ?_; refine wp_seq (m6 G l5 [(4, iA 0)] fun G => b5 (wp_seq (wp_seq (Q3 G l5 [(0, .ref 0), (1, iA x), (4, iA 0), (5, iA 0)] fun G => b5 (wp_block ?_))))); refine D2 (κ := Nat × Int) (fun k => k.2 = x + (k.1 : Int) ∧ k.1 ≤ l.length) (fun k => l.length - k.1) (fun k => [.row 3 (.ints (O9 x k.1 ++ l.drop k.1))]) (fun k => [(0, .ref 0), (1, iA k.2), (4, iA 0), (5, iA k.1)]) ((0, x)) (by omega) (A6.at G _ _) ?_; clear G; intro k ρ a w hp G; replace G := A6.at G [.row 3 (D.ints (O9 x k.fst ++ List.drop k.fst l))] [(0, .ref 0), (1, iA k.snd), (4, iA 0), (5, iA (k.fst : Int))]; have hrl := aY2 (l := l) (x := x) hp.2; refine wp_seq (wp_seq (m6 G l5 [(9, bA (decide ((k.fst : Int) < ((O9 x k.fst ++ List.drop k.fst l).length : Int))))] fun G => b5 (rcD G (fun h0 q0 => ?_) fun h0 q0 => ?_)))
 ·refine wp_exit (C8 (C8 (C6 (b5 (wp_seq (m6 G l5 [(4, iA k.snd)] fun G => b5 (wp_ret ?_))))))); exact Z2 k.snd G [0] (by omega) (by show _ = mR [0] [.row 3 (D.ints (O9 x l.length))]; have e1 : (O9 x l.length : List Int) = (O9 x k.fst ++ List.drop k.fst l) := (by have h2 := hp.2; exact aR4 (by omega) (by omega)); (first | rw [e1] | simp only [e1]) <;> rfl)
 ·refine wp_skip (b5 (wp_seq (wp_block (wp_seq (rA1 G l5 [0] [.row 3 (D.ints ((O9 x k.fst ++ List.drop k.fst l).set k.fst k.snd))] [(0, .ref 0), (1, iA k.snd), (4, iA 0), (5, iA (k.fst : Int))] (iX k.fst k.fst ((O9 x k.fst ++ List.drop k.fst l).length) []) (iK (by omega) bc4) fun G => b5 (J9 G l5 [(1, iA (k.snd + 1))] [wO (k.snd + 1)] (o1 (by omega)) fun G => G6 (b5 (J9 G l5 [(5, iA ((k.fst : Int) + 1))] [wO ((k.fst : Int) + 1)] (o1 (by omega)) fun G => b5 ?_)))))))); exact rxn G ((k.1 + 1, k.2 + 1)) (by omega) (by omega) [0] (by have e1 : (O9 x (k.fst + 1) ++ List.drop (k.fst + 1) l : List Int) = ((O9 x k.fst ++ List.drop k.fst l).set k.fst k.snd) := (aR3 hp.1 (by omega)); (first | rw [e1] | simp only [e1]) <;> rfl)
theorem an2 (n : Nat) (x : Int) (r0 : 0 ≤ x) (r1 : x + n ≤ 9000000000000000000) : t7.ok Try.prog (M4 125 [.ref 0, iA x] [dI (O9 x n)] (iA (x + n))) := by
  refine L8 21 Try.func125 [dI (O9 x n)] [(0, .ref 0), (1, iA x)] fun G => ?_; have hnl := at2 x n; refine wp_seq (m6 G l5 [(4, iA 0)] fun G => b5 (wp_seq (wp_seq (Q3 G l5 [(0, .ref 0), (1, iA x), (4, iA 0), (5, iA 0)] fun G => b5 (wp_block ?_))))); refine D2 (κ := Nat × Int) (fun k => k.2 = x + (k.1 : Int) ∧ k.1 ≤ n) (fun k => n - k.1) (fun k => [dI (O9 x n)]) (fun k => [(0, .ref 0), (1, iA k.2), (4, iA 0), (5, iA k.1)]) ((0, x)) (by omega) (A6.at G _ _) ?_; clear G; intro k ρ a w hp G; replace G := A6.at G [dI (O9 x n)] [(0, .ref 0), (1, iA k.snd), (4, iA 0), (5, iA (k.fst : Int))]; refine wp_seq (wp_seq (m6 G l5 [(9, bA (decide ((k.fst : Int) < ((O9 x n).length : Int))))] fun G => b5 (rcD G (fun h0 q0 => ?_) fun h0 q0 => ?_)))
  · refine wp_exit (C8 (C8 (C6 (b5 (wp_seq (m6 G l5 [(4, iA k.snd)] fun G => b5 (wp_ret ?_))))))); exact Z2 k.snd G [0] (by omega)
  ·
   refine wp_skip (b5 (wp_seq (wp_block (wp_seq (wp_seq (rB1 G l5 [(0, .ref 0), (1, iA k.snd), (4, iA 0), (5, iA (k.fst : Int)), (17, bA ((O9 x n).getD k.fst 0 != k.snd))] (iX k.fst k.fst ((O9 x n).length) []) (iK (by omega) bc4) fun G => b5 ?_)))))); cases h1 : ((O9 x n).getD k.fst (0 : Int) != k.snd)
   · have q1 := bne_eq_false_iff_eq.1 h1; refine rF G _ h1 (wp_skip (b5 (J9 G l5 [(1, iA (k.snd + 1))] [wO (k.snd + 1)] (o1 (by omega)) fun G => G6 (b5 (J9 G l5 [(5, iA ((k.fst : Int) + 1))] [wO ((k.fst : Int) + 1)] (o1 (by omega)) fun G => b5 ?_))))); exact rxn G ((k.1 + 1, k.2 + 1)) (by omega) (by omega) [0]
   · have q1 := bne_iff_ne.1 h1; exact False.elim (by have h1 := hp.1; have h2 := a42 (x := x) (n := n) (j := k.1) (by omega); omega)
def I7 (m : List (List Int)) : Nat := (m.map List.length).sum
theorem S5 {m : List (List Int)} {k : Nat} (h : k < m.length) : I7 (m.take (k + 1)) = I7 (m.take k) + (m.getD k []).length := by
 unfold I7
 rw [p7 _ _ h, List.map_append, List.sum_append, t2 h]
 simp only [bd8, List.map_nil, List.sum_cons, List.sum_nil, be4]
theorem aC3 (m : List (List Int)) (k : Nat) : I7 (m.take k) ≤ I7 m := by
 have := congrArg I7 (List.take_append_drop k m)
 simp only [I7, List.map_append, List.sum_append] at this ⊢
 omega
theorem aW2 {m : List (List Int)} {k : Nat} (h : k < m.length) : (m.getD k []).length ≤ I7 m := by
 have h1 := S5 h
 have h2 := aC3 m (k + 1)
 omega
theorem as1 {m : List (List Int)} {k : Nat} (h : m.length ≤ k) : I7 (m.take k) = I7 m := by rw [bc3 h]
def mkR : Int → List (List Int) → List (List Int)
 | _, [] => []
 | x, r :: m => O9 x r.length :: mkR (x + r.length) m
theorem X7 : ∀ (x : Int) (m : List (List Int)), (mkR x m).length = m.length
 | _, [] => rfl
 | x, r :: m => by simp [mkR, X7]
theorem aD9 : ∀ (x : Int) (m : List (List Int)) (k : Nat), k < m.length → (mkR x m).getD k [] = O9 (x + I7 (m.take k)) (m.getD k []).length
 | _, [], k, h => by simp at h
 | x, r :: m, 0, _ => by simp [mkR, I7]
 | x, r :: m, k + 1, h => by
  have := aD9 (x + r.length) m k (by simpa using h)
  simp only [mkR, List.getD_cons_succ, List.take_succ_cons]
  rw [this]
  simp [I7, Int.add_assoc]
def Z3 (x : Int) (m : List (List Int)) (k : Nat) : List (List Int) := (mkR x m).take k ++ m.drop k
theorem aX6 (x : Int) (m : List (List Int)) (k : Nat) : (Z3 x m k).length = m.length := by
 unfold Z3
 rw [List.length_append, List.length_take, List.length_drop, X7]
 omega
theorem aX7 {x : Int} {m : List (List Int)} {k : Nat} (h : m.length ≤ k) : Z3 x m k = mkR x m := by
 unfold Z3
 rw [bc3 (by rw [X7]; exact h), List.drop_eq_nil_of_le h, List.append_nil]
theorem aD8 {x : Int} {m : List (List Int)} {k : Nat} (h : k < m.length) : (Z3 x m k).getD k [] = m.getD k [] := by
 unfold Z3
 rw [bc2, be2 (by rw [List.length_take]; omega), List.length_take, X7, Nat.min_eq_left (by omega), Nat.sub_self, List.getElem?_drop, be4, ← bc2]
theorem aQ7 {x : Int} {m : List (List Int)} {k : Nat} (h : k < m.length) : Z3 x m (k + 1) = (Z3 x m k).set k (O9 (x + I7 (m.take k)) (m.getD k []).length) := by
 have hk : k < (mkR x m).length := by rw [X7]; exact h
 have hl : ((mkR x m).take k).length = k := by rw [List.length_take]; omega
 have hat := aD9 x m k h
 rw [t2 hk] at hat
 unfold Z3
 rw [List.set_append_right _ _ (by omega), hl, Nat.sub_self, List.drop_eq_getElem_cons h, List.set_cons_zero, p7 _ _ hk, hat]
 simp
theorem aQ3 {ι : Type} {φ ψ : Nat → Prop} {w0 w w' : World} {F : ι → Rs} {ρ : Nat → Value} {d0 d : D} {u : Value} {T : Nat → Prop} (M : l8 φ ψ w0 w (n9 F ρ (t6 [.dat d0]))) (hbl : Below w.heap.size w w') (hT : A8 w' T d u) (hg : ∀ b, T b → w.heap.size ≤ b) :
  ∃ ρ', (∀ i, i < [It.dat d0].length → ρ' i = ρ i) ∧ Ending.returned u = .returned ((AV.tref 1).val ρ') ∧ l8 φ ψ w0 w' (n9 F ρ' (t6 [.dat d0, .tree d])) := by
 obtain ⟨z, hz1, hz2⟩ := P2 u (fun b => T b ∧ b < w'.heap.size) w'.heap.size fun b h => h.2
 refine ⟨fun i => if i = 1 then z else ρ i, fun i hi => if_neg (show ¬ i = 1 by have : i < 1 := hi; omega), by simp [AV.val, hz1], ?_⟩
 refine M.grow hbl (fun k => k = .inr 1) (fun k hk => ?_) ?_ ?_ ?_
 ·cases k with
  | inl i => rfl
  | inr j =>
   match j, hk with
   | 0, _ => rfl
   | 1, h => exact absurd rfl h
   | j + 2, _ => rfl
 ·rintro k rfl b hb; exact hg b ((hz2 b).1 hb).1
 ·rintro j k b hjk rfl rfl; exact absurd rfl hjk
 ·rintro k rfl
  have e : t3 z = fun b => T b ∧ b < w'.heap.size := funext fun b => propext (hz2 b)
  show (Rs.own (t3 z) fun w => A8 w (t3 z) d (D4 z)).holds _ _
  rw [hz1, e]
  exact ⟨fun _ _ h hs => h.same hs, hT.cut, fun b hb => hb.2⟩
theorem aQ4 {ι : Type} {φ ψ : Nat → Prop} {w0 w w' : World} {F : ι → Rs} {ρ : Nat → Value} {d0 : D} {u : Value} {l : List Int} {hi : Nat} (M : l8 φ ψ w0 w (n9 F ρ (t6 [.dat d0]))) (hbl : Below w.heap.size w w') (ho : E9 w' w.heap.size hi 3 1 u l.length (ints l)) :
  ∃ ρ', (∀ i, i < [It.dat d0].length → ρ' i = ρ i) ∧ Ending.returned u = .returned ((AV.ref 1).val ρ') ∧ l8 φ ψ w0 w' (n9 F ρ' (t6 [.dat d0, .row 3 (.ints l)])) := by
 refine ⟨fun i => if i = 1 then u else ρ i, fun i hi => if_neg (show ¬ i = 1 by have : i < 1 := hi; omega), by simp [AV.val], ?_⟩
 refine M.grow hbl (fun k => k = .inr 1) (fun k hk => ?_) ?_ ?_ ?_
 ·cases k with
  | inl i => rfl
  | inr j =>
   match j, hk with
   | 0, _ => rfl
   | 1, h => exact absurd rfl h
   | j + 2, _ => rfl
 ·rintro k rfl b hb; exact (World.ownsRow.lt ho.1 b hb).1
 ·rintro j k b hjk rfl rfl; exact absurd rfl hjk
 ·rintro k rfl; exact O3 (C0 ho.1 (bd0 _))
theorem aN5 (l : List Int) (hb : l.length ≤ 1048576) : t7.ok Try.prog ⟨113, [.ref 0], [dI l], [dI l, .row 3 (.ints l)], .ref 1⟩ := by
 intro ι φ ψ w0 w F ρ M
 have hr := M.datAt (id := 0) (d := .ints l) rfl
 refine (T3 (ρ 0) l w (A5.row hr) (by omega)).mono ?_
 rintro e w' ⟨u, rfl, ho, hbl⟩
 exact aQ4 M hbl ho
theorem aJ7 (m : List (List Int)) (hb : m.length + I7 m ≤ 1048576) : t7.ok Try.prog ⟨115, [.ref 0], [dR m], [dR m, .tree (.rows m)], .tref 1⟩ := by
 intro ι φ ψ w0 w F ρ M
 have hr := M.datAt (id := 0) (d := .rows m) rfl
 refine (av2 (ρ 0) m w (aH2 hr) hb).mono ?_
 rintro e w' ⟨u, rfl, ho, hbl⟩
 exact aQ3 M hbl (ax4 ho) fun b h => h.1
theorem az1 (l : List Int) (q : Int) (h0 : 0 ≤ q) (h1 : q ≤ 1048576) : t7.ok Try.prog (M4 108 [.ref 0, iA q] [dI l] (iA (p9 q l.length))) :=
 T9 fun φ w ρ h => (aa2 (ρ 0) l.length (ints l) q w (A5.row (h 0 (.ints l) rfl)) h0 h1).mono fun e w' ⟨h1, h2⟩ => ⟨h1, h2 ▸ Below.refl _ _⟩
theorem a24 {q : Int} {n : Nat} (h : p9 q n < 0) (h0 : 0 ≤ q) : q < n := by
 rcases Int.lt_or_le q n with h1 | h1
 ·exact h1
 ·rw [t8 (by omega)] at h; omega
theorem aN7 {q : Int} {n : Nat} (h : ¬ p9 q n < 0) : ¬ q < n ∧ p9 q n = q - n := by
 by_cases h1 : q < n
 ·rw [p6 h1] at h; omega
 ·exact ⟨h1, t8 h1⟩
theorem aL4 (m : List (List Int)) (q : Int) (r0 : 0 ≤ q) (r1 : q ≤ 1048576) : t7.ok Try.prog (M4 110 [.ref 0, iA q] [dR m] (iA (p9 q (m.length + I7 m)))) := by
  refine L8 27 Try.func110 [dR m] [(0, .ref 0), (1, iA q)] fun G => ?_; have hl : m.length ≤ 9223372036854775807 := G.len 0 (d := .rows m) (by kernel_rfl); refine wp_seq (Q3 G l5 [(0, .ref 0), (1, iA q), (4, iA 0)] fun G => b5 (wp_seq (J9 G l5 [(1, iA (q - (m.length : Int)))] [wO (q - (m.length : Int))] (o1 (by omega)) fun G => b5 (wp_seq (wp_seq (m6 G l5 [(11, bA (decide (q - (m.length : Int) < 0)))] fun G => b5 (rcD G (fun h0 q0 => ?_) fun h0 q0 => ?_)))))))
  ·
   refine wp_skip (b5 (wp_seq (wp_seq (Q3 G l5 [(0, .ref 0), (1, iA (q - (m.length : Int))), (4, iA 0), (5, iA 0)] fun G => b5 (wp_block ?_))))); refine D2 (κ := Nat × Int) (fun k => k.2 = q - m.length - I7 (m.take k.1) ∧ k.1 ≤ m.length ∧ 0 ≤ k.2) (fun k => m.length - k.1) (fun k => [dR m]) (fun k => [(0, .ref 0), (1, iA k.2), (4, iA 0), (5, iA k.1)]) ((0, q - m.length)) (⟨by simp [I7], bd0 _, by omega⟩) (A6.at G _ _) ?_; clear G; intro k ρ a w hp G; replace G := A6.at G [dR m] [(0, .ref 0), (1, iA k.snd), (4, iA 0), (5, iA (k.fst : Int))]; refine wp_seq (wp_seq (m6 G l5 [(15, bA (decide ((k.fst : Int) < m.length)))] fun G => b5 (rcD G (fun h1 q1 => ?_) fun h1 q1 => ?_)))
   · refine wp_exit (C8 (C8 (C6 (b5 (wp_seq (m6 G l5 [(4, iA k.snd)] fun G => b5 (wp_ret ?_))))))); exact Z2 k.snd G [0] (by have h9 := as1 (m := m) (k := k.1) (by omega); have h8 := hp.1; have h7 := hp.2.2; rw [t8 (by omega)]; omega)
   ·
    refine wp_skip (b5 (wp_seq (wp_block (wp_seq (J9 G (P4 5 [25] (az1 (m.getD k.fst []) k.snd (by omega) (by omega))) [(1, iA (p9 k.snd (m.getD k.fst []).length))] (iX k.fst k.fst m.length []) (iK (by omega) bc4) fun G => b5 (wp_seq (m6 G l5 [(25, bA (decide (p9 k.snd (m.getD k.fst []).length < 0)))] fun G => b5 (rcD G (fun h2 q2 => ?_) fun h2 q2 => ?_))))))))
    · refine wp_skip (G6 (b5 (J9 G l5 [(5, iA ((k.fst : Int) + 1))] [wO ((k.fst : Int) + 1)] (o1 (by omega)) fun G => b5 ?_))); exact rxn G ((k.1 + 1, k.2 - ((m.getD k.1 []).length : Int))) (by have h9 := aN7 (q := k.2) (n := (m.getD k.1 []).length) (by omega); exact ⟨by have h1 := hp.1; have h2 := S5 (m := m) (k := k.1) (by omega); show k.2 - _ = q - _ - ((I7 (m.take (k.1 + 1)) : Nat) : Int); omega, by have h1 := hp.2.1; show k.1 + 1 ≤ _; omega, by show 0 ≤ k.2 - _; omega⟩) (by omega) [0] (ht := by have e1 : (k.snd - ((m.getD k.fst []).length : Int) : Int) = (p9 k.snd (m.getD k.fst []).length) := ((aN7 (by omega)).2.symm); (first | rw [e1] | simp only [e1]) <;> rfl)
    · refine wp_seq (m6 G l5 [(4, iA (-1))] fun G => b5 (wp_ret (D3 (m5 (m5 (D3 (m5 ?_))))))); exact Z2 (-1) G [0] (by have h9 := a24 (q := k.2) (n := (m.getD k.1 []).length) (by omega) hp.2.2; have h8 := S5 (m := m) (k := k.1) (by omega); have h7 := aC3 m (k.1 + 1); have h6 := hp.1; exact p6 (by omega))
  · refine wp_seq (m6 G l5 [(4, iA (-1))] fun G => b5 (wp_ret (m5 ?_))); exact Z2 (-1) G [0] (p6 (by omega))
abbrev mZ (m : D9) : Nat := m.vals.length + (m.arrs.length + I7 m.arrs)
theorem aN8 (q : Int) (a b : Nat) (h : ¬ p9 q a < 0) (h0 : 0 ≤ q) : p9 (p9 q a) b = p9 q (a + b) := by
 obtain ⟨h1, h2⟩ := aN7 h
 rw [h2]
 by_cases h3 : q - (a : Int) < b
 ·rw [p6 h3, p6 (by omega)]
 ·rw [t8 h3, t8 (by omega)]; omega
theorem a25 (q : Int) (a b : Nat) (h : p9 q a < 0) (h0 : 0 ≤ q) : -1 = p9 q (a + b) := by
 have := a24 h h0
 rw [p6 (by omega)]
theorem aU9 (q : Int) (a b : Nat) (h : ¬ p9 q a < 0) (h2 : p9 (p9 q a) b < 0) (h0 : 0 ≤ q) : -1 = p9 q (a + b) := by
 rw [← aN8 q a b h h0]
 have := a24 h2 (by omega)
 rw [p6 this]
theorem aF1 (m : D9) (q : Int) (r0 : 0 ≤ q) (r1 : q ≤ 1048576) : t7.ok Try.prog (M4 39 [mA 0, iA q] (mS m) (iA (p9 q (mZ m)))) := by
  refine L8 18 Try.func39 [dI m.vals, dR m.arrs] [(0, .agg [.ref 0, .ref 1]), (1, iA q)] fun G => ?_; refine wp_seq (B5 G l5 [0, 1, 2] [dI m.vals, dR m.arrs, .box [.ref 0, .ref 1]] [(1, iA q), (2, .ptr 2 0), (4, iA 0)] fun G => b5 (wp_seq (m6 G (P4 3 [0] (az1 m.vals q (by assumption) (by assumption))) [(1, iA (p9 q m.vals.length))] fun G => b5 (wp_seq (wp_seq (m6 G l5 [(10, bA (decide (p9 q m.vals.length < 0)))] fun G => b5 (rcD G (fun h0 q0 => ?_) fun h0 q0 => ?_)))))))
  ·
   refine wp_skip (b5 (wp_seq (B5 G (P4 3 [1] (aL4 m.arrs (p9 q m.vals.length) (by omega) (by have h9 := aN7 (q := q) (n := m.vals.length) (by omega); omega))) [0, 1] [dI m.vals, dR m.arrs] [(1, iA (p9 (p9 q m.vals.length) (m.arrs.length + I7 m.arrs))), (4, iA 0)] fun G => b5 (wp_seq (wp_seq (m6 G l5 [(16, bA (decide (p9 (p9 q m.vals.length) (m.arrs.length + I7 m.arrs) < 0)))] fun G => b5 (rcD G (fun h1 q1 => ?_) fun h1 q1 => ?_)))))))
   · refine wp_skip (b5 (wp_seq (m6 G l5 [(4, iA (p9 (p9 q m.vals.length) (m.arrs.length + I7 m.arrs)))] fun G => b5 (wp_ret ?_)))); exact Z2 (p9 (p9 q m.vals.length) (m.arrs.length + I7 m.arrs)) G [0, 1] ((aN8 _ _ _ (by omega) r0).symm)
   · refine wp_seq (m6 G l5 [(4, iA (-1))] fun G => b5 (wp_ret (m5 ?_))); exact Z2 (-1) G [0, 1] ((aU9 _ _ _ (by omega) (by omega) r0).symm)
  · refine wp_seq (m6 G l5 [(4, iA (-1))] fun G => b5 (wp_ret (m5 ?_))); exact Z2 (-1) G [0, 1] ((a25 _ _ _ (by omega) r0).symm)
abbrev au9 : It := .box [.v (.slice none 0 0), .v (.slice none 0 0)]
theorem aB1 (m : D9) (hb : mZ m ≤ 1048576) : t7.ok Try.prog ⟨42, [mA 0], mS m, mS m ++ mO m, mT 2⟩ := by
 have hb2 : m.vals.length + (m.arrs.length + I7 m.arrs) ≤ 1048576 := hb; have ha := aN5 m.vals (by omega); have hc := aJ7 m.arrs (by omega); refine L8 13 Try.func42 [dI m.vals, dR m.arrs] [(0, .agg [.ref 0, .ref 1])] fun G => ?_; refine wp_seq (B5 G l5 [0, 1, 2, 10] [dI m.vals, dR m.arrs, .box [.ref 0, .ref 1], au9] [(1, .ptr 2 0), (2, .ptr 3 0)] fun G => b5 (wp_seq (B5 G l5 (rg 5) [dI m.vals, dR m.arrs, .box [.ref 0, .ref 1], au9, au9] [(1, .ptr 2 0), (2, .ptr 3 0), (3, .ptr 4 0)] fun G => b5 (wp_seq (B5 G (P4 2 [0] ha) [0, 1, 2, 3, 4, 21] [dI m.vals, dR m.arrs, .box [.ref 0, .ref 1], au9, .box [.ref 5, .v (.slice none 0 0)], .row 3 (D.ints m.vals)] [(1, .ptr 2 0), (2, .ptr 3 0), (3, .ptr 4 0)] fun G => b5 (wp_seq (B5 G (P4 2 [1] hc) [0, 1, 3, 4, 5, 22] [dI m.vals, dR m.arrs, au9, .box [.ref 4, .tref 5], .row 3 (D.ints m.vals), .tree (D.rows m.arrs)] [(2, .ptr 2 0), (3, .ptr 3 0)] fun G => b5 (wp_seq (B5 G l5 [0, 1, 2, 4, 5] [dI m.vals, dR m.arrs, .box [.ref 3, .tref 4], .row 3 (D.ints m.vals), .tree (D.rows m.arrs)] [(2, .ptr 2 0)] fun G => b5 (wp_ret ?_)))))))))); exact rxr G [0, 1, 3, 4]
theorem aM2 (xs : List (List Int)) : t7.ok Try.prog (M4 120 [.ref 0, .ref 1] [dR xs, dR xs] (bA true)) := by
 refine L8 27 Try.func120 [dR xs, dR xs] [(0, .ref 0), (1, .ref 1)] fun G => ?_; have hl : xs.length ≤ 9223372036854775807 := G.len 0 (d := .rows xs) (by kernel_rfl); refine wp_seq (Q3 G l5 [(0, .ref 0), (1, .ref 1), (4, bA false)] fun G => b5 (wp_seq (wp_seq (m6 G l5 [(10, bA ((xs.length : Int) != (xs.length : Int)))] fun G => b5 (rF G ((xs.length : Int) != (xs.length : Int)) (by simp) (wp_skip (b5 (wp_seq (wp_seq (Q3 G l5 [(0, .ref 0), (1, .ref 1), (4, bA false), (5, iA 0)] fun G => b5 (wp_block ?_))))))))))); refine D2 (κ := Nat) (fun k => k ≤ xs.length) (fun k => xs.length - k) (fun k => [dR xs, dR xs]) (fun k => [(0, .ref 0), (1, .ref 1), (4, bA false), (5, iA k)]) 0 (by omega) (A6.at G _ _) ?_; clear G; intro k ρ a w hp G; refine wp_seq (wp_seq (m6 G l5 [(14, bA (decide ((k : Int) < xs.length)))] fun G => b5 (rcD G (fun h0 q0 => ?_) fun h0 q0 => ?_)))
 ·refine wp_exit (C8 (C8 (C6 (b5 (wp_seq (m6 G l5 [(4, bA true)] fun G => b5 (wp_ret ?_))))))); exact rxr G [0, 1]
 ·refine wp_skip (b5 (wp_seq (wp_block (wp_seq (aK3 G (P4 8 [26, 58] (az8 (xs.getD k []))) [0, 0, 3, 7, 0, 0, 48, 112, 255, 511] [(26, bA false)] (iX k k xs.length (iX k k xs.length [])) (iK (by omega) (iK (by omega) bc4)) fun G => b5 (rF G false (by kernel_rfl) (wp_skip (G6 (b5 (J9 G l5 [(5, iA ((k : Int) + 1))] [wO ((k : Int) + 1)] (o1 (by omega)) fun G => b5 ?_)))))))))); exact rxn G (k + 1) (by omega) (by omega) [0, 1]
theorem U6 (m : D9) : t7.ok Try.prog (M4 44 [mA 0, mA 2] (mS m ++ mS m) (bA true)) := by
 refine L8 17 Try.func44 [dI m.vals, dR m.arrs, dI m.vals, dR m.arrs] [(0, .agg [.ref 0, .ref 1]), (1, .agg [.ref 2, .ref 3])] fun G => ?_; refine wp_seq (B5 G l5 [0, 1, 2, 3, 4, 12] [dI m.vals, dR m.arrs, dI m.vals, dR m.arrs, .box [.ref 0, .ref 1], .box [.ref 2, .ref 3]] [(2, .ptr 4 0), (3, .ptr 5 0), (4, bA false)] fun G => b5 (wp_seq (wp_seq (m6 G (P4 4 [0, 2] (az8 m.vals)) [(10, bA false)] fun G => b5 (rF G false (by kernel_rfl) (wp_skip (b5 (wp_seq (wp_seq (B5 G (P4 4 [1, 3] (aM2 m.arrs)) (rg 4) [dI m.vals, dR m.arrs, dI m.vals, dR m.arrs] [(4, bA false), (16, bA false)] fun G => b5 (rF G false (by kernel_rfl) (wp_skip (b5 (wp_seq (m6 G l5 [(4, bA true)] fun G => b5 (wp_ret ?_)))))))))))))))); exact rxr G (rg 4)
theorem aP2 {m : List (List Int)} {x : Int} {k : Nat × Int} (hk : k.1 < m.length) (h1 : k.2 = x + (I7 (m.take k.1) : Nat)) (r1 : x + I7 m ≤ 9000000000000000000) : k.2 + (m.getD k.1 []).length ≤ 9000000000000000000 := by
 have h2 := S5 hk
 have h3 := aC3 m (k.1 + 1)
 omega
theorem aX3 {m : List (List Int)} {x : Int} {k : Nat × Int} (hk : k.1 < m.length) (h1 : k.2 = x + (I7 (m.take k.1) : Nat)) : Z3 x m (k.1 + 1) = (Z3 x m k.1).set k.1 (O9 k.2 ((Z3 x m k.1).getD k.1 []).length) := by
 rw [aD8 hk, aQ7 hk, h1]
theorem az4 (m : List (List Int)) (x : Int) (r0 : 0 ≤ x) (r1 : x + I7 m ≤ 9000000000000000000) (r2 : m.length ≤ 1048576) : t7.ok Try.prog ⟨124, [.tref 0, iA x], [.tree (.rows m)], [.tree (.rows (mkR x m))], iA (x + I7 m)⟩ := by
 refine L8 19 Try.func124 [.tree (D.rows m)] [(0, .tref 0), (1, iA x)] fun G => ?_; refine wp_seq (m6 G l5 [(4, iA 0)] fun G => b5 (wp_seq (wp_seq (Q3 G l5 [(0, .tref 0), (1, iA x), (4, iA 0), (5, iA 0)] fun G => b5 (wp_block ?_))))); refine D2 (κ := Nat × Int) (fun k => k.2 = x + (I7 (m.take k.1) : Nat) ∧ k.1 ≤ m.length) (fun k => m.length - k.1) (fun k => [.tree (.rows (Z3 x m k.1))]) (fun k => [(0, .tref 0), (1, iA k.2), (4, iA 0), (5, iA k.1)]) ((0, x)) (⟨by simp [I7], bd0 _⟩) (A6.at G _ _) ?_; clear G; intro k ρ a w hp G; replace G := A6.at G [.tree (D.rows (Z3 x m k.fst))] [(0, .tref 0), (1, iA k.snd), (4, iA 0), (5, iA (k.fst : Int))]; have hrl := aX6 x m k.1; refine wp_seq (wp_seq (m6 G l5 [(9, bA (decide ((k.fst : Int) < ((Z3 x m k.fst).length : Int))))] fun G => b5 (rcD G (fun h0 q0 => ?_) fun h0 q0 => ?_)))
 ·refine wp_exit (C8 (C8 (C6 (b5 (wp_seq (m6 G l5 [(4, iA k.snd)] fun G => b5 (wp_ret ?_))))))); exact Z2 k.snd G [0] (by have h9 := as1 (m := m) (k := k.1) (by omega); have h1 := hp.1; omega) (by show _ = mR [0] [.tree (D.rows (mkR x m))]; have e1 : (mkR x m : List (List Int)) = (Z3 x m k.fst) := ((aX7 (by have h1 := hp.2; omega)).symm); (first | rw [e1] | simp only [e1]) <;> rfl)
 ·refine wp_skip (b5 (wp_seq (wp_block (rA1 G (P4 5 [25] (am7 ((Z3 x m k.fst).getD k.fst []) k.snd (by omega) (by rw [aD8 (by omega)]; exact aP2 (by omega) hp.1 r1))) [0, 25] [.hole 1 k.fst (Z3 x m k.fst), .row 3 (D.ints (O9 k.snd ((Z3 x m k.fst).getD k.fst []).length))] [(0, .tref 0), (1, iA (k.snd + (((Z3 x m k.fst).getD k.fst []).length : Int))), (4, iA 0), (5, iA (k.fst : Int))] (iX k.fst k.fst ((Z3 x m k.fst).length) []) (iK (by omega) bc4) fun G => ?_)))); replace G := G.heal 0 1 k.fst (Z3 x m k.fst) (O9 k.snd ((Z3 x m k.fst).getD k.fst []).length) [.tree (D.rows ((Z3 x m k.fst).set k.fst (O9 k.snd ((Z3 x m k.fst).getD k.fst []).length))), .dead]; refine G6 (b5 (rA1 G l5 [0] [.tree (D.rows ((Z3 x m k.fst).set k.fst (O9 k.snd ((Z3 x m k.fst).getD k.fst []).length)))] [(0, .tref 0), (1, iA (k.snd + (((Z3 x m k.fst).getD k.fst []).length : Int))), (4, iA 0), (5, iA ((k.fst : Int) + 1))] [wO ((k.fst : Int) + 1)] (o1 (by omega)) fun G => b5 ?_)); exact rxn G ((k.1 + 1, k.2 + ((m.getD k.1 []).length : Int))) (⟨by have h1 := hp.1; have h2 := S5 (m := m) (k := k.1) (by omega); show k.2 + _ = x + ((I7 (m.take (k.1 + 1)) : Nat) : Int); omega, by have h1 := hp.2; show k.1 + 1 ≤ _; omega⟩) (by omega) [0] (by have e1 : (Z3 x m (k.fst + 1) : List (List Int)) = ((Z3 x m k.fst).set k.fst (O9 k.snd ((Z3 x m k.fst).getD k.fst []).length)) := (aX3 (by omega) hp.1); (first | rw [e1] | simp only [e1]) <;> rfl) (ht := by have e1 : (k.snd + ((m.getD k.fst []).length : Int) : Int) = (k.snd + (((Z3 x m k.fst).getD k.fst []).length : Int)) := (by rw [aD8 (by omega)]); (first | rw [e1] | simp only [e1]) <;> rfl)
theorem a46 {m : List (List Int)} {x : Int} (r0 : 0 ≤ x) (r1 : x + I7 m ≤ 9000000000000000000) (k : Nat × Int) (hk : k.1 < m.length) (h1 : k.2 = x + (I7 (m.take k.1) : Nat)) : t7.ok Try.prog (M4 125 [.ref 0, iA k.2] [dI ((mkR x m).getD k.1 [])] (iA (k.2 + (m.getD k.1 []).length))) := by
 rw [aD9 x m k.1 hk, ← h1]
 have := aP2 hk h1 r1
 exact an2 _ _ (by omega) this
theorem az6 (m : List (List Int)) (x : Int) (r0 : 0 ≤ x) (r1 : x + I7 m ≤ 9000000000000000000) (r2 : m.length ≤ 1048576) : t7.ok Try.prog (M4 126 [.ref 0, iA x] [dR (mkR x m)] (iA (x + I7 m))) := by
  have hdh := a46 r0 r1; refine L8 21 Try.func126 [dR (mkR x m)] [(0, .ref 0), (1, iA x)] fun G => ?_; have hrl := X7 x m; refine wp_seq (m6 G l5 [(4, iA 0)] fun G => b5 (wp_seq (wp_seq (Q3 G l5 [(0, .ref 0), (1, iA x), (4, iA 0), (5, iA 0)] fun G => b5 (wp_block ?_))))); refine D2 (κ := Nat × Int) (fun k => k.2 = x + (I7 (m.take k.1) : Nat) ∧ k.1 ≤ m.length) (fun k => m.length - k.1) (fun k => [dR (mkR x m)]) (fun k => [(0, .ref 0), (1, iA k.2), (4, iA 0), (5, iA k.1)]) ((0, x)) (⟨by simp [I7], bd0 _⟩) (A6.at G _ _) ?_; clear G; intro k ρ a w hp G; replace G := A6.at G [dR (mkR x m)] [(0, .ref 0), (1, iA k.snd), (4, iA 0), (5, iA (k.fst : Int))]; refine wp_seq (wp_seq (m6 G l5 [(9, bA (decide ((k.fst : Int) < ((mkR x m).length : Int))))] fun G => b5 (rcD G (fun h0 q0 => ?_) fun h0 q0 => ?_)))
  · refine wp_exit (C8 (C8 (C6 (b5 (wp_seq (m6 G l5 [(4, iA k.snd)] fun G => b5 (wp_ret ?_))))))); exact Z2 k.snd G [0] (by have h9 := as1 (m := m) (k := k.1) (by omega); have h1 := hp.1; omega)
  ·
   refine wp_skip (b5 (wp_seq (wp_block (wp_seq (J9 G (P4 5 [25] (hdh k (by omega) (by omega))) [(1, iA (k.snd + ((m.getD k.fst []).length : Int)))] (iX k.fst k.fst ((mkR x m).length) []) (iK (by omega) bc4) fun G => b5 (wp_seq (m6 G l5 [(19, bA (decide (k.snd + ((m.getD k.fst []).length : Int) < 0)))] fun G => b5 (rcD G (fun h1 q1 => ?_) fun h1 q1 => ?_))))))))
   · refine wp_skip (G6 (b5 (J9 G l5 [(5, iA ((k.fst : Int) + 1))] [wO ((k.fst : Int) + 1)] (o1 (by omega)) fun G => b5 ?_))); exact rxn G ((k.1 + 1, k.2 + ((m.getD k.1 []).length : Int))) (⟨by have h1 := hp.1; have h2 := S5 (m := m) (k := k.1) (by omega); show k.2 + _ = x + ((I7 (m.take (k.1 + 1)) : Nat) : Int); omega, by have h1 := hp.2; show k.1 + 1 ≤ _; omega⟩) (by omega) [0]
   · refine wp_seq (m6 G l5 [(4, iA (-1))] fun G => b5 (wp_ret (D3 (m5 (m5 (D3 (m5 ?_))))))); exact Z2 (-1) G [0] (by omega)
def mkM (m : D9) (x : Int) : D9 := ⟨O9 x m.vals.length, mkR (x + m.vals.length) m.arrs⟩
def J4 (m : D9) : Nat := m.vals.length + I7 m.arrs
theorem ad6 (m : D9) (x : Int) (r0 : 0 ≤ x) (r1 : x + J4 m ≤ 9000000000000000000) (r2 : m.arrs.length ≤ 1048576) : t7.ok Try.prog ⟨47, [mT 0, iA x], mO m, mO (mkM m x), iA (x + J4 m)⟩ := by
 refine L8 14 Try.func47 [.row 3 (D.ints m.vals), .tree (D.rows m.arrs)] [(0, .agg [.ref 0, .tref 1]), (1, iA x)] fun G => ?_
 have hmn : (J4 m : Int) = m.vals.length + I7 m.arrs := by unfold J4; omega
 refine wp_seq (B5 G l5 [0, 1, 2] [.row 3 (D.ints m.vals), .tree (D.rows m.arrs), .box [.ref 0, .tref 1]] [(1, iA x), (2, .ptr 2 0), (4, iA 0)] fun G => b5 (wp_seq (B5 G (P4 3 [0] (am7 m.vals x (by assumption) (by omega))) [0, 1, 2] [.row 3 (D.ints (O9 x m.vals.length)), .tree (D.rows m.arrs), .box [.ref 0, .tref 1]] [(1, iA (x + (m.vals.length : Int))), (2, .ptr 2 0), (4, iA 0)] fun G => b5 (wp_seq (B5 G (P4 3 [1] (az4 m.arrs (x + (m.vals.length : Int)) (by omega) (by omega) (by assumption))) [0, 1] [.row 3 (D.ints (O9 x m.vals.length)), .tree (D.rows (mkR (x + (m.vals.length : Int)) m.arrs))] [(1, iA (x + (m.vals.length : Int) + (↑(I7 m.arrs) : Int))), (4, iA 0)] fun G => b5 (wp_seq (m6 G l5 [(4, iA (x + (m.vals.length : Int) + (↑(I7 m.arrs) : Int)))] fun G => b5 (wp_ret ?_)))))))); exact Z2 (x + (m.vals.length : Int) + (↑(I7 m.arrs) : Int)) G [0, 1] (by omega)
theorem ad7 (m : D9) (x : Int) (r0 : 0 ≤ x) (r1 : x + J4 m ≤ 9000000000000000000) (r2 : m.arrs.length ≤ 1048576) : t7.ok Try.prog (M4 48 [mA 0, iA x] (mS (mkM m x)) (iA (x + J4 m))) := by
  refine L8 18 Try.func48 [dI (mkM m x).vals, dR (mkM m x).arrs] [(0, .agg [.ref 0, .ref 1]), (1, iA x)] fun G => ?_
  have hmn : (J4 m : Int) = m.vals.length + I7 m.arrs := by unfold J4; omega
  refine wp_seq (B5 G l5 [0, 1, 2] [dI (mkM m x).vals, dR (mkM m x).arrs, .box [.ref 0, .ref 1]] [(1, iA x), (2, .ptr 2 0), (4, iA 0)] fun G => b5 (wp_seq (m6 G (P4 3 [0] (an2 m.vals.length x (by assumption) (by omega))) [(1, iA (x + (m.vals.length : Int)))] fun G => b5 (wp_seq (wp_seq (m6 G l5 [(10, bA (decide (x + (m.vals.length : Int) < 0)))] fun G => b5 (rcD G (fun h0 q0 => ?_) fun h0 q0 => ?_)))))))
  ·
   refine wp_skip (b5 (wp_seq (B5 G (P4 3 [1] (az6 m.arrs (x + (m.vals.length : Int)) (by omega) (by omega) (by assumption))) [0, 1] [dI (mkM m x).vals, dR (mkM m x).arrs] [(1, iA (x + (m.vals.length : Int) + (↑(I7 m.arrs) : Int))), (4, iA 0)] fun G => b5 (wp_seq (wp_seq (m6 G l5 [(16, bA (decide (x + (m.vals.length : Int) + (↑(I7 m.arrs) : Int) < 0)))] fun G => b5 (rcD G (fun h1 q1 => ?_) fun h1 q1 => ?_)))))))
   · refine wp_skip (b5 (wp_seq (m6 G l5 [(4, iA (x + (m.vals.length : Int) + (↑(I7 m.arrs) : Int)))] fun G => b5 (wp_ret ?_)))); exact Z2 (x + (m.vals.length : Int) + (↑(I7 m.arrs) : Int)) G [0, 1] (by omega)
   · refine wp_seq (m6 G l5 [(4, iA (-1))] fun G => b5 (wp_ret (m5 ?_))); exact Z2 (-1) G [0, 1] (by omega)
  · refine wp_seq (m6 G l5 [(4, iA (-1))] fun G => b5 (wp_ret (m5 ?_))); exact Z2 (-1) G [0, 1] (by omega)
end Go.Proofs.Ytgmhmijcnlfmfaa

namespace Go.Proofs.Ytgmhmijcnlfmfaa
open Go Go.RowKit Go.ChangeShapes Go.WideShapes Go.Deep
def a94 (w : World) (φ : Nat → Prop) (v : Value) (m : D9) : Prop := ∃ v1 v2, v = .agg #[v1, v2] ∧ RD w φ (.ints m.vals) v1 ∧ RD w φ (.rows m.arrs) v2
section
variable {H : Type} {enc : TypeId × Value → H} {W : World}
theorem as2 {fuel : Nat} {t : TypeId} {v : Value} {x : DataW H × List MemPlace} (ht : Try.prog.underlying t = some (.slice 23))
  (h : DataW.trod enc Try.prog W 0 (fun _ => true) true fuel t [v] = some x) : ∃ m : List (List Int), RD W (fun _ => True) (.rows m) v := by
 obtain ⟨n, q, C, hr, hC, hx⟩ := ag8 ht (sz := 1) (by kernel_rfl) (by omega) h
 obtain ⟨g, hg⟩ := choose_lt (α := Value × List Int) (n := n) (p := fun i p => C i = [p.1] ∧ H6 W p.1 p.2.length 1 (ints p.2)) (fun i hi => by
  obtain ⟨y, hy⟩ := hx i hi
  obtain ⟨u, hu⟩ : ∃ u, C i = [u] := by
   have := hC i
   match hci : C i, this with
   | [u], _ => exact ⟨u, rfl⟩
  rw [hu] at hy
  obtain ⟨l, hl⟩ := N9 Try.underlying23 hy
  exact ⟨(u, l), hu, hl⟩)
 refine ⟨(bc7 n).map fun i => (g i).2, (bc7 n).map fun i => (g i).1, ?_, ?_⟩
 ·rw [List.length_map, List.length_range]
  have := W7 n C id (fun i => (g i).1) (fun i hi => (hg i hi).1)
  rw [List.map_id] at this
  rw [← this]
  exact hr.rowF fun _ _ => trivial
 ·intro i hi
  have hi' : i < n := by simpa using hi
  refine ⟨(g i).1, by simp [hi'], ?_⟩
  have := (hg i hi').2
  simp only [List.getElem_map, List.getElem_range]
  exact this.rowF fun _ _ => trivial
theorem ax3 {r : Reach} {b0 : Nat} {v : Value} {d : DataW H} {p : List MemPlace} (hv : Value.okWide Try.prog W r b0 77 v)
  (h : DataW.Trod enc Try.prog W 0 (fun _ => true) true 77 v d p) : ∃ c : D9, a94 W (fun _ => True) v c := by
 obtain ⟨v0, v1, y0, y1, n, rfl, -, -, h0, h1⟩ := Joins.open_agg2 Try.underlying77 (by kernel_rfl) (by kernel_rfl) hv h
 obtain ⟨l0, r0⟩ := N9 Try.underlying23 h0
 obtain ⟨l1, r1⟩ := as2 Try.underlying35 h1
 exact ⟨⟨l0, l1⟩, _, _, rfl, r0.rowF fun _ _ => trivial, r1⟩
end
end Go.Proofs.Ytgmhmijcnlfmfaa

namespace Go.Proofs.Ytgmhmijcnlfmfaa
open Go Go.RowKit
theorem aG4 : ∀ (ds : List D) (n j : Nat), n8 (t6 []) (K3 (ds.map X.sl) n) j = if n ≤ j then t6 (ds.map It.dat) (j - n) else .none
 | [], n, j => by simp [K3, n8, t6]
 | d :: r, n, j => by
  simp only [bd8, K3, n8]
  by_cases e : j = n
  ·subst e; simp [t6]
  ·rw [if_neg e, aG4 r (n + 1) j]
   by_cases h : n + 1 ≤ j
   ·rw [if_pos h, if_pos (by omega), show j - n = (j - (n + 1)) + 1 by omega]; simp [t6]
   ·rw [if_neg h, if_neg (by omega)]
theorem aM9 : ∀ (ds : List D) (n : Nat) (ρ : Nat → Value) (vs : List Value), vs = AV.vals ρ (xav (ds.map X.sl) n) → vs.length = ds.length ∧ ∀ i, i < ds.length → ρ (n + i) = vs.getD i undef
 | [], _, _, vs, h => by simp only [List.map_nil, xav, AV.vals] at h; subst h; exact ⟨rfl, fun i hi => by simp at hi⟩
 | d :: r, n, ρ, vs, h => by
  simp only [bd8, xav, AV.vals, AV.val] at h
  subst h
  obtain ⟨h1, h2⟩ := aM9 r (n + 1) ρ _ rfl
  refine ⟨by simp [h1], fun i hi => ?_⟩
  cases i with
  | zero => simp
  | succ i =>
   have := h2 i (by simpa using hi)
   rw [show n + (i + 1) = n + 1 + i by omega, this]; simp
theorem aU2 {P : Program} {f : FuncId} {args : List AV} {x : Value} {post : List It} (ds : List D) (vs : List Value) (hc : t7.ok P ⟨f, args, ds.map It.dat, post, .v x⟩) (hi : ∀ id ∈ AV.idsL args, id < ds.length) (w : World) (h : XHs w (fun _ => True) (ds.map X.sl) vs) :
  Calls P f (AV.vals (fun i => vs.getD i undef) args).toArray w fun e w' => e = .returned x ∧ Below w.heap.size w w' := by
 have M0 : l8 (fun _ => True) (fun _ => True) w w (n9 (fun _ : Empty => Rs.none) (fun _ => undef) (t6 [])) := by
  refine (l8.start (ι := Empty ⊕ Nat) (w0 := w) (φ := fun _ => True) (ψ := fun _ => True) fun _ _ => trivial).map (fun k => some k) (fun k k' i a b => by cases a; cases b; rfl) fun k => ?_
  cases k with
  | inl e => exact e.elim
  | inr j => exact .inr rfl
 have ha : H7 (fun _ => True) (R4 (fun _ => True) (n9 (fun _ : Empty => Rs.none) (fun _ => undef) (t6 []))) w w := H7.mono fun b _ _ => ⟨bc4, fun i => by
  cases i with
  | inl e => exact e.elim
  | inr j => exact fun h => h.elim⟩
 obtain ⟨ρ', g1, M2, g2⟩ := l8.dats (ds.map X.sl) vs 0 M0 (XHs.agr ha h) (fun _ _ => rfl) (fun _ _ _ => rfl)
 have e : n8 (t6 []) (K3 (ds.map X.sl) 0) = t6 (ds.map It.dat) := by
  funext j
  rw [aG4]; simp
 rw [e] at M2
 obtain ⟨h1, h2⟩ := aM9 ds 0 ρ' vs g2
 have hv : AV.vals ρ' args = AV.vals (fun i => vs.getD i undef) args := AV.vals_congr args fun id hid => by
  have := h2 id (hi id hid)
  simpa using this
 rw [← hv]
 refine (hc Empty _ _ w w _ ρ' M2).mono ?_
 rintro e w' ⟨ρ2, -, rfl, M3⟩
 exact ⟨rfl, M3.below fun _ _ => trivial⟩
theorem fzq {q : Int} {n : Nat} (h : ¬ p9 q n < 0) (h0 : 0 ≤ q) : (n : Int) ≤ q ∧ p9 q n = q - n := by
 obtain ⟨h1, h2⟩ := aN7 h
 exact ⟨by omega, h2⟩
theorem aD0 (p : l6) : s6 p.body ≤ p.size ∧ p.vars.length ≤ p.size ∧ p.arrays.length ≤ p.size ∧ 0 ≤ aa6 p ∧ aa6 p ≤ 7 * p.size := by
 have h := F0 p.body
 unfold l6.size aa6
 omega
theorem aW3 {m : List (List Int)} : ∀ l ∈ m, l.length ≤ I7 m := by
 intro l hl
 obtain ⟨i, hi, rfl⟩ := List.mem_iff_getElem.1 hl
 have := aW2 hi
 rwa [t2 hi] at this
theorem af0 (m : D9) : m.vals.length ≤ mZ m ∧ m.arrs.length ≤ mZ m ∧ I7 m.arrs ≤ mZ m ∧ (J4 m : Int) ≤ mZ m := by
 have e : mZ m = m.vals.length + (m.arrs.length + I7 m.arrs) := rfl
 have e2 : J4 m = m.vals.length + I7 m.arrs := rfl
 generalize mZ m = z at *
 generalize J4 m = y at *
 omega
theorem aE0 {m : D9} {n : Nat} (h : mZ m ≤ n) : ∀ l ∈ m.arrs, l.length ≤ n := fun l hl => by
 have h1 := aW3 l hl
 have h2 := (af0 m).2.2.1
 omega
theorem aU8 (p : l6) (x : Int) (r0 : 0 ≤ x) (r1 : x + aa6 p ≤ 9000000000000000000) : t7.ok Try.prog ⟨46, [oA 0, iA x], oP p, oP (mkP p x.toNat), iA (x + aa6 p)⟩ := by
 obtain ⟨k, rfl⟩ := Int.eq_ofNat_of_zero_le r0
 exact ao9 p k r1
theorem aC0 (p : l6) : p.same p = true := l6.same_eq.2 rfl
theorem aO7 (q : l6) : ¬ ((!q.same q) = true) := by rw [aC0]; decide
end Go.Proofs.Ytgmhmijcnlfmfaa
