/- Part 5: functions on the way, plain laws. Conditions: as said. -/
import Derived.Test.YtgmhmijcnlfmfaaGreatK1
import Derived.Test.YtgmhmijcnlfmfaaGreatK3
import Derived.Test.YtgmhmijcnlfmfaaGreatK4
set_option maxRecDepth 100000
set_option maxHeartbeats 16000000
set_option linter.unusedVariables false
set_option linter.unusedSimpArgs false
open Bool renaming and_eq_false_iff → bX3, and_eq_true → bU8, and_eq_true_iff → bX4, not_eq_false' → bV5, not_eq_true' → bV2
open Inhabited renaming default → bU7
open Int renaming mul_le_mul_of_nonneg_right → bY6
open List renaming all_eq_true → bV4, eq_nil_of_length_eq_zero → bX0, getD_eq_getElem?_getD → bU9, getElem?_eq_getElem → bV0, getElem?_eq_none → bW7, getElem_mem → bW2, length_append → bW0, length_cons → bV7, length_nil → bX5, map_cons → bX9, mem_append → bW9, mem_cons → bY2, range → bW6, replicate → bW8, take → bV3, take_of_length_le → bV8
open Nat renaming le_refl → bV9, le_trans → bW4, lt_or_ge → bY0, zero_le → bY1
open True renaming intro → bW1

namespace Go.Proofs.YtgmhmijcnlfmfaaGreat
open Go Go.RowKit
theorem bG1 {l : List b7} {k : Nat} (hk : k < l.length) : l.take k ++ [⟨(l.getD k bU7).kind, (l.getD k bU7).value, (l.getD k bU7).kids⟩] = l.take (k + 1) := by
 rw [b7.eta, k8 _ _ hk, f8 hk]
theorem bG0 {l : List b6} {k : Nat} (hk : k < l.length) : l.take k ++ [⟨(l.getD k bU7).kind, (l.getD k bU7).target, ⟨(l.getD k bU7).index.kind, (l.getD k bU7).index.value, (l.getD k bU7).index.kids⟩, ⟨(l.getD k bU7).value.kind, (l.getD k bU7).value.value, (l.getD k bU7).value.kids⟩, (l.getD k bU7).count, (l.getD k bU7).body, (l.getD k bU7).els⟩] = l.take (k + 1) := by
 rw [b7.eta, b7.eta, b6.eta, k8 _ _ hk, f8 hk]
theorem a06 {α : Type} {l : List α} {k : Nat} (h1 : k ≤ l.length) (h2 : ¬ (k : Int) < l.length) : l.take k = l := by rw [bV8 (by omega)]
theorem bh5 {α : Type} {l : List α} {k n : Nat} (h1 : k ≤ l.length) (h : l.length ≤ n) : (l.take k).length ≤ n := by rw [List.length_take]; omega
theorem bi0 {e : b7} (h : s4 e ≤ 1048576) : e.kids.length ≤ 1048576 := by
 have h1 := as1 e.kids
 have h2 : s4 e = j3 e.kids := by cases e; rfl
 omega
theorem ba1 {l : List b6} (h : c9 l ≤ 1048576) : l.length ≤ 1048576 := bW4 (D7 l) h
theorem br4 {α : Type} {l : List α} {x : α} {k : Nat} (h1 : k ≤ l.length) (h : l.length ≤ 1048576) : (l.take k).length + [x].length ≤ 1048577 := by
 have := bh5 (k := k) h1 h
 simp only [bV7, bX5]; omega
theorem bM4 {a b : Nat} (ha : a ≤ 1048577) (hb : Nat.ble b 1000 = true) : a * b ≤ 140737488355328 := by
 have h1 := Nat.le_of_ble_eq_true hb
 have h2 := Nat.mul_le_mul ha h1
 omega
theorem av5 {l : List b7} {k : Nat} (h : (k : Int) < l.length) : l.getD k bU7 ∈ l := by rw [f8 (by omega)]; exact bW2 (by omega)
theorem ah7 {l : List b6} {k : Nat} (h : (k : Int) < l.length) : l.getD k bU7 ∈ l := by rw [f8 (by omega)]; exact bW2 (by omega)
abbrev cpC (e : b7) : d9 := ⟨70, [eA e 0], eS e, eS e ++ [.tree (.exprs e.kids)], .agg [iA e.kind, iA e.value, .tref 1]⟩
abbrev aJ3 (e : b7) (r0 : List It) : List It := dE e.kids :: .box (eL e 0) :: .box [iA 0, iA 0, .v (.slice none 0 0)] :: r0
theorem be0 (e : b7) (hb : s4 e ≤ 1048576) (ih : ∀ (x : b7), x ∈ e.kids → d9.ok Tryz.prog (cpC x)) : d9.ok Tryz.prog (cpC e) := by
 refine t8 29 Tryz.func70 [dE e.kids] [(0, eA e 0)] fun G => ?_; have hl := bi0 hb; refine wp_seq (e5 G c3 [0, 1, 9] (aJ3 e []) [(1, .ptr 1 0), (2, .ptr 2 0)] fun G => b5 (wp_seq (e5 G c3 [0, 1, 2, 43] (aJ3 e [.box [iA e.kind, iA e.value, .v (.slice none 0 0)]]) [(1, .ptr 1 0), (2, .ptr 2 0), (3, .ptr 3 0)] fun G => b5 (wp_seq (wp_seq (w5 G c3 [(1, .ptr 1 0), (2, .ptr 2 0), (3, .ptr 3 0), (4, iA 0)] fun G => b5 (wp_block ?_))))))); obtain ⟨ρ, G⟩ := G.nilT 4 (.exprs []) (aJ3 e [.box [iA e.kind, iA e.value, .tref 4]]) [(1, .ptr 1 0), (2, .ptr 2 0), (3, .ptr 3 0), (4, iA 0)]; refine l0 (κ := Nat) (fun k => k ≤ e.kids.length) (fun k => e.kids.length - k) (fun k => [dE e.kids, .box (eL e 0), .box [iA 0, iA 0, .v (.slice none 0 0)], .box [iA e.kind, iA e.value, .tref 4], .tree (.exprs (e.kids.take k))]) (fun k => [(1, .ptr 1 0), (2, .ptr 2 0), (3, .ptr 3 0), (4, iA k)]) 0 (by omega) (l7.at G _ _) ?_; clear G; intro k ρ a w hp G; replace G := l7.at G (aJ3 e [.box [iA e.kind, iA e.value, .tref 4], .tree (D.exprs (bV3 k e.kids))]) [(1, .ptr 1 0), (2, .ptr 2 0), (3, .ptr 3 0), (4, iA k)]; refine wp_seq (wp_seq (d8 G c3 [(14, bA (decide ((k : Int) < e.kids.length)))] fun G => b5 (H2 G (fun h0 q0 => ?_) fun h0 q0 => ?_)))
 ·refine wp_exit (k6 (k6 (j8 (b5 (wp_seq (e5 G c3 [0, 2, 4] [dE e.kids, .box [iA e.kind, iA e.value, .tref 2], .tree (D.exprs (bV3 k e.kids))] [(2, .ptr 1 0)] fun G => b5 (wp_ret ?_))))))); exact A0 G [0, 2] (by show _ = mR [0, 2] [dE e.kids, .tree (D.exprs e.kids)]; have e1 : (bV3 k e.kids : List b7) = (e.kids) := (a06 hp (by assumption)); (first | rw [e1] | simp only [e1]) <;> rfl)
 ·refine wp_skip (b5 (wp_seq (wp_block (E1 G (n7 7 [53] (ih (e.kids.getD k bU7) (av5 (by assumption)))) [0, 1, 0, 4, 0, 28, 60, 124, 252, 511, 1023, 2047] [0, 1, 2, 3, 77] (aJ3 e [.box [iA e.kind, iA e.value, .tref 4], .tree (D.exprs (bV3 k e.kids ++ [n4 (e.kids.getD k bU7)]))]) [(1, .ptr 1 0), (2, .ptr 2 0), (3, .ptr 3 0), (4, iA k)] (iX k k e.kids.length (((bV3 k e.kids).length + [n4 (e.kids.getD k bU7)].length ≤ (9223372036854775807 : Nat)) :: ((((bV3 k e.kids).length + [n4 (e.kids.getD k bU7)].length) * (40 : Nat) ≤ (140737488355328 : Nat)) :: []))) (iK (by omega) ⟨(by have := br4 (x := (bU7 : b7)) hp hl; simp only [bV7, bX5] at this ⊢; omega), ⟨(bM4 (br4 hp hl) (by kernel_rfl)), bW1⟩⟩) fun G => j0 (b5 (z3 G c3 [(4, iA ((k : Int) + 1))] [wO ((k : Int) + 1)] (o1 (by omega)) fun G => b5 ?_)))))); exact H9 G (k + 1) (by omega) (by omega) (rg 5) (by have e1 : (bV3 (k + 1) e.kids : List b7) = (bV3 k e.kids ++ [n4 (e.kids.getD k bU7)]) := ((bG1 (by omega)).symm); (first | rw [e1] | simp only [e1]) <;> rfl)
theorem aI7 (e : b7) : s4 e ≤ 1048576 → d9.ok Tryz.prog (cpC e) :=
 b7.ind (P := fun e => s4 e ≤ 1048576 → d9.ok Tryz.prog (cpC e)) (fun k n ks ih hb => be0 ⟨k, n, ks⟩ hb fun x hx => ih x hx (by
  have h1 := bo2 (show x ∈ ks from hx)
  have h2 : s4 ⟨k, n, ks⟩ = j3 ks := rfl
  omega)) e
abbrev aP7 (l : List b6) : d9 := ⟨60, [.ref 0], [dT l], [dT l, .tree (.stmts l)], .tref 1⟩
theorem a45 {l : List b6} {k : Nat} (hb : c9 l ≤ 1048576) (h : (k : Int) < l.length) : s4 (l.getD k bU7).index ≤ 1048576 ∧ s4 (l.getD k bU7).value ≤ 1048576 ∧ c9 (l.getD k bU7).body ≤ 1048576 ∧ c9 (l.getD k bU7).els ≤ 1048576 := by
 have h1 := O7 (ah7 h)
 generalize l.getD k bU7 = s at *
 rcases s with ⟨_, _, i, v, _, b, e⟩
 simp only [B4] at h1
 simp only [b6.index, b6.value, b6.body, b6.els]
 omega
abbrev ap9 (k : Nat) (r0 : List (Nat × AV)) : List (Nat × AV) := (0, .ref 0) :: (2, .v (.slice none 0 0)) :: (3, .tref 1) :: (4, iA (k : Int)) :: r0
theorem at1 (l : List b6) (hb : c9 l ≤ 1048576) (ih1 : ∀ (s : b6), s ∈ l → d9.ok Tryz.prog (aP7 s.body)) (ih2 : ∀ (s : b6), s ∈ l → d9.ok Tryz.prog (aP7 s.els)) : d9.ok Tryz.prog (aP7 l) := by
  refine t8 38 Tryz.func60 [dT l] [(0, .ref 0)] fun G => ?_; have hl := ba1 hb; refine wp_seq (d8 G c3 [(2, .v (.slice none 0 0))] fun G => b5 (wp_seq (e5 G c3 [0, 1] [dT l, .tree (D.stmts [])] [(0, .ref 0), (2, .v (.slice none 0 0)), (3, .tref 1)] fun G => b5 (wp_seq (wp_seq (w5 G c3 [(0, .ref 0), (2, .v (.slice none 0 0)), (3, .tref 1), (4, iA 0)] fun G => b5 (wp_block ?_))))))); refine l0 (κ := Nat) (fun k => k ≤ l.length) (fun k => l.length - k) (fun k => [dT l, .tree (.stmts (l.take k))]) (fun k => [(0, .ref 0), (2, .v (.slice none 0 0)), (3, .tref 1), (4, iA k)]) 0 (by omega) (l7.at G _ _) ?_; clear G; intro k ρ a w hp G; replace G := l7.at G [dT l, .tree (D.stmts (bV3 k l))] (ap9 k []); refine wp_seq (wp_seq (d8 G c3 [(10, bA (decide ((k : Int) < l.length)))] fun G => b5 (H2 G (fun h0 q0 => ?_) fun h0 q0 => ?_)))
  · refine wp_exit (k6 (k6 (j8 (b5 (wp_seq (d8 G c3 [(2, .tref 1)] fun G => b5 (wp_ret ?_))))))); exact A0 G [0, 1] (by show _ = mR [0, 1] [dT l, .tree (D.stmts l)]; have e1 : (bV3 k l : List b6) = (l) := (a06 hp (by assumption)); (first | rw [e1] | simp only [e1]) <;> rfl)
  ·
   refine wp_skip (b5 (wp_seq (wp_block (wp_seq (L5 G c3 [0, 1, 26, 27, 28, 29, 34] [dT l, .tree (D.stmts (bV3 k l)), dE (l.getD k bU7).index.kids, dE (l.getD k bU7).value.kids, dT (l.getD k bU7).body, dT (l.getD k bU7).els, .box (sL (l.getD k bU7) 2)] (ap9 k [(5, .ptr 6 0)]) (iX k k l.length []) (iK (by omega) bW1) fun G => b5 (wp_seq (e5 G (n7 2 [2] (aI7 ((l.getD k bU7).index) ((a45 hb (by assumption)).1))) [0, 1, 3, 4, 5, 6, 23] [dT l, .tree (D.stmts (bV3 k l)), dE (l.getD k bU7).value.kids, dT (l.getD k bU7).body, dT (l.getD k bU7).els, .box [iA (l.getD k bU7).kind, iA (l.getD k bU7).target, iA (l.getD k bU7).index.kind, iA (l.getD k bU7).index.value, .tref 6, iA (l.getD k bU7).value.kind, iA (l.getD k bU7).value.value, .ref 2, iA (l.getD k bU7).count, .ref 3, .ref 4], .tree (D.exprs (l.getD k bU7).index.kids)] (ap9 k [(5, .ptr 5 0)]) fun G => b5 (wp_seq (e5 G (n7 2 [2] (aI7 ((l.getD k bU7).value) ((a45 hb (by assumption)).2.1))) [0, 1, 3, 4, 5, 6, 23] [dT l, .tree (D.stmts (bV3 k l)), dT (l.getD k bU7).body, dT (l.getD k bU7).els, .box [iA (l.getD k bU7).kind, iA (l.getD k bU7).target, iA (l.getD k bU7).index.kind, iA (l.getD k bU7).index.value, .tref 5, iA (l.getD k bU7).value.kind, iA (l.getD k bU7).value.value, .tref 6, iA (l.getD k bU7).count, .ref 2, .ref 3], .tree (D.exprs (l.getD k bU7).index.kids), .tree (D.exprs (l.getD k bU7).value.kids)] (ap9 k [(5, .ptr 4 0)]) fun G => b5 (wp_seq (e5 G (n7 2 [2] (ih1 (l.getD k bU7) (ah7 (by assumption)))) [0, 1, 3, 4, 5, 6, 23] [dT l, .tree (D.stmts (bV3 k l)), dT (l.getD k bU7).els, .box [iA (l.getD k bU7).kind, iA (l.getD k bU7).target, iA (l.getD k bU7).index.kind, iA (l.getD k bU7).index.value, .tref 4, iA (l.getD k bU7).value.kind, iA (l.getD k bU7).value.value, .tref 5, iA (l.getD k bU7).count, .tref 6, .ref 2], .tree (D.exprs (l.getD k bU7).index.kids), .tree (D.exprs (l.getD k bU7).value.kids), .tree (D.stmts (l.getD k bU7).body)] (ap9 k [(5, .ptr 3 0)]) fun G => b5 (wp_seq (e5 G (n7 2 [2] (ih2 (l.getD k bU7) (ah7 (by assumption)))) [0, 1, 3, 4, 5, 6, 23] [dT l, .tree (D.stmts (bV3 k l)), .box [iA (l.getD k bU7).kind, iA (l.getD k bU7).target, iA (l.getD k bU7).index.kind, iA (l.getD k bU7).index.value, .tref 3, iA (l.getD k bU7).value.kind, iA (l.getD k bU7).value.value, .tref 4, iA (l.getD k bU7).count, .tref 5, .tref 6], .tree (D.exprs (l.getD k bU7).index.kids), .tree (D.exprs (l.getD k bU7).value.kids), .tree (D.stmts (l.getD k bU7).body), .tree (D.stmts (l.getD k bU7).els)] (ap9 k [(5, .ptr 2 0)]) fun G => b5 (L5 G c3 [0, 31] [dT l, .tree (D.stmts (bV3 k l ++ [qzS (l.getD k bU7)]))] (ap9 k []) [(bV3 k l).length + [qzS (l.getD k bU7)].length ≤ (9223372036854775807 : Nat), ((bV3 k l).length + [qzS (l.getD k bU7)].length) * (152 : Nat) ≤ (140737488355328 : Nat)] ⟨(by have := br4 (x := (bU7 : b6)) hp hl; simp only [bV7, bX5] at this ⊢; omega), (bM4 (br4 hp hl) (by kernel_rfl)), bW1⟩ fun G => ?_))))))))))))))
   refine j0 (b5 (z3 G c3 [(4, iA ((k : Int) + 1))] [wO ((k : Int) + 1)] (o1 (by omega)) fun G => b5 ?_)); exact H9 G (k + 1) (by omega) (by omega) [0, 1] (by have e1 : (bV3 (k + 1) l : List b6) = (bV3 k l ++ [qzS (l.getD k bU7)]) := ((bG0 (by omega)).symm); (first | rw [e1] | simp only [e1]) <;> rfl)
theorem bt7 (l : List b6) : c9 l ≤ 1048576 → d9.ok Tryz.prog (aP7 l) := fun hb => at1 l hb
 (fun s hs => (c_copyS2 s).1 (bW4 (Nat.le_of_lt (O7 hs)) hb)) fun s hs => (c_copyS2 s).2 (bW4 (Nat.le_of_lt (O7 hs)) hb)
where
 c_copyS2 (s : b6) : (B4 s ≤ 1048576 → d9.ok Tryz.prog (aP7 s.body)) ∧ (B4 s ≤ 1048576 → d9.ok Tryz.prog (aP7 s.els)) :=
  b6.ind (P := fun s => (B4 s ≤ 1048576 → d9.ok Tryz.prog (aP7 s.body)) ∧ (B4 s ≤ 1048576 → d9.ok Tryz.prog (aP7 s.els))) (fun k t i v c b e h1 h2 => by
   have hz : B4 ⟨k, t, i, v, c, b, e⟩ = s4 i + s4 v + c9 b + c9 e := rfl
   constructor
   ·intro hb
    refine at1 b (by omega) (fun s hs => (h1 s hs).1 ?_) fun s hs => (h1 s hs).2 ?_
    ·have := O7 hs; omega
    ·have := O7 hs; omega
   ·intro hb
    refine at1 e (by omega) (fun s hs => (h2 s hs).1 ?_) fun s hs => (h2 s hs).2 ?_
    ·have := O7 hs; omega
    ·have := O7 hs; omega) s
theorem bl5 (p : b8) (hb : p.size ≤ 1048576) : d9.ok Tryz.prog ⟨45, [pA 0], pS p, pS p ++ oP p, oA 3⟩ := by
 refine t8 15 Tryz.func45 [dI p.vars, dI p.arrays, dT p.body] [(0, pA 0)] fun G => ?_
 have hb1 : p.vars.length ≤ 1048576 ∧ p.arrays.length ≤ 1048576 ∧ c9 p.body ≤ 1048576 := by unfold b8.size at hb; omega
 refine wp_seq (e5 G c3 [0, 1, 2, 3, 11] [dI p.vars, dI p.arrays, dT p.body, .box (pL 0), .box [.v (.slice none 0 0), .v (.slice none 0 0), .v (.slice none 0 0)]] [(1, .ptr 3 0), (2, .ptr 4 0)] fun G => b5 (wp_seq (E1 G (n7 10 [2] (bt7 p.body (by omega))) [0, 0, 2, 7, 0, 0, 32, 127, 0, 256, 1023, 2047, 4095] [0, 1, 2, 4, 29, 61, 85] [dI p.vars, dI p.arrays, dT p.body, .box [.ref 4, .ref 5, .tref 6], .row 3 (D.ints ([] ++ p.vars)), .row 3 (D.ints ([] ++ p.arrays)), .tree (D.stmts p.body)] [(2, .ptr 3 0)] (aP ((0 : Nat) + p.vars.length) 8 (aP ((0 : Nat) + p.arrays.length) 8 [])) (aK (by omega) (aK (by omega) bW1)) fun G => b5 (wp_ret ?_)))); exact A0 G [0, 1, 2, 4, 5, 6]
def an8 (vs ars : List Int) (e : b7) : Int := if e.kind = 2 then vs.getD e.value.toNat 0 else if e.kind = 3 then ars.getD e.value.toNat 0 else 0
def c6 (vs ars : List Int) : Nat → b7 → Int
 | 0, _ => 0
 | d + 1, e => e.kids.foldl (fun a k => f9 a (c6 vs ars d k)) (an8 vs ars e)
def w3 (vs ars : List Int) (d : Nat) (x : Int) (ks : List b7) (k : Nat) : Int := (ks.take k).foldl (fun a k => f9 a (c6 vs ars d k)) x
theorem L8 {vs ars : List Int} {d k : Nat} {x : Int} {ks : List b7} (h : k < ks.length) : w3 vs ars d x ks (k + 1) = f9 (w3 vs ars d x ks k) (c6 vs ars d (ks.getD k bU7)) := by
 unfold w3; rw [C5 ks k h, List.foldl_append, f8 h]; rfl
theorem R8 {vs ars : List Int} {d k : Nat} {x : Int} {e : b7} (h : e.kids.length ≤ k) (hx : an8 vs ars e = x) : c6 vs ars (d + 1) e = w3 vs ars d x e.kids k := by
 unfold w3; rw [bV8 h, c6, hx]
section
variable {nv na d : Nat} {e : b7}
theorem aF1 (h : c4 nv na (d + 1) e = true) : s5 nv na e = true := by simp only [c4, bU8] at h; exact h.1.1
theorem ak4 (h : c4 nv na (d + 1) e = true) (k : e.kind = 2) : 0 ≤ e.value ∧ e.value < nv ∧ e.value.toNat < nv := by
 have := aF1 h
 simp [s5, y8, k] at this; omega
theorem ak5 (h : c4 nv na (d + 1) e = true) (k : e.kind = 3) : 0 ≤ e.value ∧ e.value < na ∧ e.value.toNat < na := by
 have := aF1 h
 simp [s5, y8, k] at this; omega
theorem M4 {k : Nat} (h : c4 nv na (d + 1) e = true) (hk : k < e.kids.length) : c4 nv na d (e.kids.getD k bU7) = true := by
 simp only [c4, bU8] at h
 rw [f8 hk]; exact bV4.1 h.1.2 _ (bW2 hk)
theorem as7 (h : c4 nv na (d + 1) e = true) (k : e.kind = 3) : 0 < e.kids.length := by
 have := aF1 h
 simp [s5, j2, k] at this; omega
end
theorem aC0 {x : Int} (h : c5 x = true) : x = 0 ∨ x = 1 ∨ x = 2 ∨ x = 3 := by simp [c5] at h; omega
theorem A8 (l : Int) : d9.ok Tryz.prog (C0 67 [iA l] [] (bA (c5 l && decide (l % 2 = 1)))) := by
 refine t8 10 Tryz.func67 [] [(0, iA l)] fun G => ?_; refine wp_seq (d8 G c3 [(2, bA false)] fun G => b5 (wp_seq ?_)); cases h0 : (c5 l)
 ·refine d8 G (m5 (f6 1 [] (v5 l) m0) (fc h0 fz) [(3, 0), (4, 0), (5, 0), (1006, 0)]) [] fun G => b5 (wp_ret ?_); exact A0 G []
 ·refine d8 G (m5 (f6 1 [] (v5 l) m0) (fc h0 fz) [(3, 0), (4, 0), (5, 0), (1006, 0)]) [(2, bA (bu8 l 1 == 1))] fun G => b5 (wp_ret ?_); exact l9 (bu8 l 1 == 1) G [] (by rcases aC0 h0 with rfl | rfl | rfl | rfl <;> kernel_rfl)
theorem Y9 (l : Int) : d9.ok Tryz.prog (C0 103 [iA l] [] (bA (c5 l && decide (l ≤ 1)))) := by
 refine t8 10 Tryz.func103 [] [(0, iA l)] fun G => ?_; refine wp_seq (d8 G c3 [(2, bA false)] fun G => b5 (wp_seq ?_)); cases h0 : (c5 l)
 ·refine d8 G (m5 (f6 1 [] (v5 l) m0) (fc h0 fz) [(3, 0), (4, 0), (5, 0), (1006, 0)]) [] fun G => b5 (wp_ret ?_); exact A0 G []
 ·refine d8 G (m5 (f6 1 [] (v5 l) m0) (fc h0 fz) [(3, 0), (4, 0), (5, 0), (1006, 0)]) [(2, bA (bu8 l 2 == 0))] fun G => b5 (wp_ret ?_); exact l9 (bu8 l 2 == 0) G [] (by rcases aC0 h0 with rfl | rfl | rfl | rfl <;> kernel_rfl)
theorem ai9 (x y : Int) : d9.ok Tryz.prog (C0 102 [iA x, iA y] [] (bA (c5 x && c5 y && (f9 x y == y)))) := by
  refine t8 18 Tryz.func102 [] [(0, iA x), (1, iA y)] fun G => ?_; refine wp_seq (d8 G c3 [(4, bA false)] fun G => b5 (wp_seq ?_)); cases h0 : (c5 x)
  · refine d8 G (m5 (f6 1 [] (v5 x) m0) (fc h0 (fc (b := false) rfl fz)) (us [(3, 4, 0), (1005, 1005, 0), (7, 11, 1), (1012, 1012, 1)])) [] fun G => b5 (wp_ret ?_); exact A0 G []
  ·
   cases h1 : (c5 y)
   · refine d8 G (m5 (f6 1 [] (v5 x) (f6 4 [] (v5 y) m0)) (fc h0 (fc h1 fz)) (us [(3, 4, 0), (1005, 1005, 0), (7, 11, 1), (1012, 1012, 1)])) [] fun G => b5 (wp_ret ?_); exact A0 G []
   · refine d8 G (m5 (f6 1 [] (v5 x) (f6 4 [] (v5 y) m0)) (fc h0 (fc h1 fz)) (us [(3, 4, 0), (1005, 1005, 0), (7, 11, 1), (1012, 1012, 1)])) [(4, bA (f9 x y == y))] fun G => b5 (wp_ret ?_); exact A0 G []
theorem L3 {x : Int} (h : c5 x = true) : ∃ a : Fin 4, x = (a.val : Int) := by
 simp [c5] at h
 exact ⟨⟨x.toNat, by omega⟩, by simp; omega⟩
theorem aX1 (p : b8) (d : Nat) (ih : ∀ (e : b7), c4 p.vars.length p.arrays.length d e = true → d9.ok Tryz.prog (C0 68 [pA 0, eA e 3] (pS p ++ eS e) (iA (c6 p.vars p.arrays d e))))
    (e : b7) (he : c4 p.vars.length p.arrays.length (d + 1) e = true) : d9.ok Tryz.prog (C0 68 [pA 0, eA e 3] (pS p ++ eS e) (iA (c6 p.vars p.arrays (d + 1) e))) := by
  refine t8 42 Tryz.func68 [dI p.vars, dI p.arrays, dT p.body, dE e.kids] [(0, pA 0), (1, eA e 3)] fun G => ?_; refine wp_seq (e5 G c3 [0, 1, 2, 3, 4, 12] [dI p.vars, dI p.arrays, dT p.body, dE e.kids, .box (pL 0), .box (eL e 3)] [(2, .ptr 4 0), (3, .ptr 5 0), (4, iA 0)] fun G => b5 (wp_seq (d8 G c3 [(5, iA 0)] fun G => b5 (wp_seq (wp_seq (d8 G c3 [(8, iA e.kind)] fun G => b5 (wp_block (wp_seq (d8 G c3 [(9, bA (e.kind == 2))] fun G => b5 (I1 G (fun h0 q0 => ?_) fun h0 q0 => ?_))))))))))
  ·
   refine wp_seq (d8 G c3 [(17, bA (e.kind == 3))] fun G => b5 (I1 G (fun h1 q1 => ?_) fun h1 q1 => ?_))
   ·
    refine wp_skip (j0 (b5 (wp_seq (wp_seq (w5 G c3 [(2, .ptr 4 0), (3, .ptr 5 0), (4, iA 0), (5, iA 0), (6, iA 0)] fun G => b5 (wp_block ?_)))))); refine l0 (κ := Nat) (fun k => k ≤ e.kids.length) (fun k => e.kids.length - k) (fun k => [dI p.vars, dI p.arrays, dT p.body, dE e.kids, .box (pL 0), .box (eL e 3)]) (fun k => [(2, .ptr 4 0), (3, .ptr 5 0), (4, iA 0), (5, iA (w3 p.vars p.arrays d 0 e.kids k)), (6, iA k)]) 0 (by omega) (l7.at G _ _) ?_; clear G; intro k ρ a w hp G; have hlen : e.kids.length ≤ 9223372036854775807 := G.len 3 (d := .exprs e.kids) (by kernel_rfl); refine wp_seq (wp_seq (w5 G c3 [(2, .ptr 4 0), (3, .ptr 5 0), (4, iA 0), (5, iA (w3 p.vars p.arrays d 0 e.kids k)), (6, iA k), (29, bA (decide ((k : Int) < e.kids.length)))] fun G => b5 (H2 G (fun h2 q2 => ?_) fun h2 q2 => ?_)))
    · refine wp_exit (k6 (k6 (j8 (b5 (wp_seq (e5 G c3 (rg 4) [dI p.vars, dI p.arrays, dT p.body, dE e.kids] [(4, iA (w3 p.vars p.arrays d 0 e.kids k))] fun G => b5 (wp_ret ?_))))))); exact J8 (w3 p.vars p.arrays d 0 e.kids k) G (rg 4) (R8 (by omega) (by simp [an8, h0, q0, h1, q1, h2, q2]; done))
    · refine wp_skip (b5 (wp_seq (wp_block (R5 G (n7 7 [0, 1, 2, 54] (ih (e.kids.getD k bU7) (M4 he (by omega)))) [0, 0, 0, 4, 0, 28, 60, 126, 255, 511] [(5, iA (f9 (w3 p.vars p.arrays d 0 e.kids k) (c6 p.vars p.arrays d (e.kids.getD k bU7))))] (iX k k e.kids.length []) (iK (by omega) bW1) fun G => j0 (b5 (z3 G c3 [(6, iA ((k : Int) + 1))] [wO ((k : Int) + 1)] (o1 (by omega)) fun G => b5 ?_)))))); exact H9 G (k + 1) (by omega) (by omega) (rg 6) (ht := by have e1 : (w3 p.vars p.arrays d 0 e.kids (k + 1) : Int) = (f9 (w3 p.vars p.arrays d 0 e.kids k) (c6 p.vars p.arrays d (e.kids.getD k bU7))) := (L8 (by omega)); (first | rw [e1] | simp only [e1]) <;> rfl)
   ·
    refine z3 G c3 [(5, iA (p.arrays.getD e.value.toNat 0))] [(0 : Int) ≤ e.value, e.value < (p.arrays.length : Int), e.value.toNat < p.arrays.length] ⟨((ak5 he (by assumption)).1), ((ak5 he (by assumption)).2.1), ((ak5 he (by assumption)).2.2), bW1⟩ fun G => j0 (b5 (wp_seq (wp_seq (w5 G c3 [(2, .ptr 4 0), (3, .ptr 5 0), (4, iA 0), (5, iA (p.arrays.getD e.value.toNat 0)), (6, iA 0)] fun G => b5 (wp_block ?_))))); refine l0 (κ := Nat) (fun k => k ≤ e.kids.length) (fun k => e.kids.length - k) (fun k => [dI p.vars, dI p.arrays, dT p.body, dE e.kids, .box (pL 0), .box (eL e 3)]) (fun k => [(2, .ptr 4 0), (3, .ptr 5 0), (4, iA 0), (5, iA (w3 p.vars p.arrays d (p.arrays.getD e.value.toNat 0) e.kids k)), (6, iA k)]) 0 (by omega) (l7.at G _ _) ?_; clear G; intro k ρ a w hp G; have hlen : e.kids.length ≤ 9223372036854775807 := G.len 3 (d := .exprs e.kids) (by kernel_rfl); refine wp_seq (wp_seq (w5 G c3 [(2, .ptr 4 0), (3, .ptr 5 0), (4, iA 0), (5, iA (w3 p.vars p.arrays d (p.arrays.getD e.value.toNat 0) e.kids k)), (6, iA k), (29, bA (decide ((k : Int) < e.kids.length)))] fun G => b5 (H2 G (fun h3 q3 => ?_) fun h3 q3 => ?_)))
    · refine wp_exit (k6 (k6 (j8 (b5 (wp_seq (e5 G c3 (rg 4) [dI p.vars, dI p.arrays, dT p.body, dE e.kids] [(4, iA (w3 p.vars p.arrays d (p.arrays.getD e.value.toNat 0) e.kids k))] fun G => b5 (wp_ret ?_))))))); exact J8 (w3 p.vars p.arrays d (p.arrays.getD e.value.toNat 0) e.kids k) G (rg 4) (R8 (by omega) (by simp [an8, h0, q0, h1, q1, h3, q3]; done))
    · refine wp_skip (b5 (wp_seq (wp_block (R5 G (n7 7 [0, 1, 2, 54] (ih (e.kids.getD k bU7) (M4 he (by omega)))) [0, 0, 0, 4, 0, 28, 60, 126, 255, 511] [(5, iA (f9 (w3 p.vars p.arrays d (p.arrays.getD e.value.toNat 0) e.kids k) (c6 p.vars p.arrays d (e.kids.getD k bU7))))] (iX k k e.kids.length []) (iK (by omega) bW1) fun G => j0 (b5 (z3 G c3 [(6, iA ((k : Int) + 1))] [wO ((k : Int) + 1)] (o1 (by omega)) fun G => b5 ?_)))))); exact H9 G (k + 1) (by omega) (by omega) (rg 6) (ht := by have e1 : (w3 p.vars p.arrays d (p.arrays.getD e.value.toNat 0) e.kids (k + 1) : Int) = (f9 (w3 p.vars p.arrays d (p.arrays.getD e.value.toNat 0) e.kids k) (c6 p.vars p.arrays d (e.kids.getD k bU7))) := (L8 (by omega)); (first | rw [e1] | simp only [e1]) <;> rfl)
  ·
   refine z3 G c3 [(5, iA (p.vars.getD e.value.toNat 0))] [(0 : Int) ≤ e.value, e.value < (p.vars.length : Int), e.value.toNat < p.vars.length] ⟨((ak4 he (by assumption)).1), ((ak4 he (by assumption)).2.1), ((ak4 he (by assumption)).2.2), bW1⟩ fun G => j0 (b5 (wp_seq (wp_seq (w5 G c3 [(2, .ptr 4 0), (3, .ptr 5 0), (4, iA 0), (5, iA (p.vars.getD e.value.toNat 0)), (6, iA 0)] fun G => b5 (wp_block ?_))))); refine l0 (κ := Nat) (fun k => k ≤ e.kids.length) (fun k => e.kids.length - k) (fun k => [dI p.vars, dI p.arrays, dT p.body, dE e.kids, .box (pL 0), .box (eL e 3)]) (fun k => [(2, .ptr 4 0), (3, .ptr 5 0), (4, iA 0), (5, iA (w3 p.vars p.arrays d (p.vars.getD e.value.toNat 0) e.kids k)), (6, iA k)]) 0 (by omega) (l7.at G _ _) ?_; clear G; intro k ρ a w hp G; have hlen : e.kids.length ≤ 9223372036854775807 := G.len 3 (d := .exprs e.kids) (by kernel_rfl); refine wp_seq (wp_seq (w5 G c3 [(2, .ptr 4 0), (3, .ptr 5 0), (4, iA 0), (5, iA (w3 p.vars p.arrays d (p.vars.getD e.value.toNat 0) e.kids k)), (6, iA k), (29, bA (decide ((k : Int) < e.kids.length)))] fun G => b5 (H2 G (fun h4 q4 => ?_) fun h4 q4 => ?_)))
   · refine wp_exit (k6 (k6 (j8 (b5 (wp_seq (e5 G c3 (rg 4) [dI p.vars, dI p.arrays, dT p.body, dE e.kids] [(4, iA (w3 p.vars p.arrays d (p.vars.getD e.value.toNat 0) e.kids k))] fun G => b5 (wp_ret ?_))))))); exact J8 (w3 p.vars p.arrays d (p.vars.getD e.value.toNat 0) e.kids k) G (rg 4) (R8 (by omega) (by simp [an8, h0, q0, h4, q4]; done))
   · refine wp_skip (b5 (wp_seq (wp_block (R5 G (n7 7 [0, 1, 2, 54] (ih (e.kids.getD k bU7) (M4 he (by omega)))) [0, 0, 0, 4, 0, 28, 60, 126, 255, 511] [(5, iA (f9 (w3 p.vars p.arrays d (p.vars.getD e.value.toNat 0) e.kids k) (c6 p.vars p.arrays d (e.kids.getD k bU7))))] (iX k k e.kids.length []) (iK (by omega) bW1) fun G => j0 (b5 (z3 G c3 [(6, iA ((k : Int) + 1))] [wO ((k : Int) + 1)] (o1 (by omega)) fun G => b5 ?_)))))); exact H9 G (k + 1) (by omega) (by omega) (rg 6) (ht := by have e1 : (w3 p.vars p.arrays d (p.vars.getD e.value.toNat 0) e.kids (k + 1) : Int) = (f9 (w3 p.vars p.arrays d (p.vars.getD e.value.toNat 0) e.kids k) (c6 p.vars p.arrays d (e.kids.getD k bU7))) := (L8 (by omega)); (first | rw [e1] | simp only [e1]) <;> rfl)
theorem aw6 (p : b8) : ∀ (d : Nat) (e : b7), c4 p.vars.length p.arrays.length d e = true → d9.ok Tryz.prog (C0 68 [pA 0, eA e 3] (pS p ++ eS e) (iA (c6 p.vars p.arrays d e))) := by
 intro d
 induction d with
 | zero => intro e h; simp [c4] at h
 | succ d ih => intro e h; exact aX1 p d ih e h
def H1 (vs ars : List Int) : Nat → b7 → Bool
 | 0, _ => false
 | d + 1, e => (decide (e.kind = 3) && (c5 (c6 vs ars d (e.kids.getD 0 bU7)) && decide (c6 vs ars d (e.kids.getD 0 bU7) % 2 = 1))) || e.kids.any (H1 vs ars d)
section
variable {vs ars : List Int} {d : Nat} {e : b7}
theorem bz6 (k : e.kind = 3) (h : (c5 (c6 vs ars d (e.kids.getD 0 bU7)) && decide (c6 vs ars d (e.kids.getD 0 bU7) % 2 = 1)) = true) : H1 vs ars (d + 1) e = true := by rw [H1, h]; simp [k]
theorem bz7 (h : e.kids.any (H1 vs ars d) = false) (k : ¬ e.kind = 3) : H1 vs ars (d + 1) e = false := by rw [H1, h]; simp [k]
theorem bp1 (h : e.kids.any (H1 vs ars d) = false) (k : (c5 (c6 vs ars d (e.kids.getD 0 bU7)) && decide (c6 vs ars d (e.kids.getD 0 bU7) % 2 = 1)) = false) : H1 vs ars (d + 1) e = false := by rw [H1, h, k]; simp
end
theorem aj1 {α : Type} {l : List α} {k : Nat} {p : α → Bool} {z : α} (h : (l.take k).any p = false) (hk : k < l.length) (hp : p (l.getD k z) = false) : (l.take (k + 1)).any p = false := by
 rw [C5 l k hk, List.any_append, h, ← f8 (d := z) hk, List.any_cons, hp]; rfl
theorem aj2 {α : Type} {l : List α} {k : Nat} {p : α → Bool} (h : (l.take k).any p = false) (hk : l.length ≤ k) : l.any p = false := by
 rw [bV8 hk] at h; exact h
theorem a55 {α : Type} {l : List α} {k : Nat} {p : α → Bool} {z : α} (hk : k < l.length) (hp : p (l.getD k z) = true) : l.any p = true := by
 rw [f8 hk] at hp
 exact List.any_eq_true.2 ⟨_, bW2 hk, hp⟩
theorem aQ5 (p : b8) (d : Nat) (ih : ∀ (e : b7), c4 p.vars.length p.arrays.length d e = true → d9.ok Tryz.prog (C0 104 [pA 0, eA e 3] (pS p ++ eS e) (bA (H1 p.vars p.arrays d e))))
    (ihl : ∀ (e : b7), c4 p.vars.length p.arrays.length d e = true → d9.ok Tryz.prog (C0 68 [pA 0, eA e 3] (pS p ++ eS e) (iA (c6 p.vars p.arrays d e))))
    (e : b7) (he : c4 p.vars.length p.arrays.length (d + 1) e = true) : d9.ok Tryz.prog (C0 104 [pA 0, eA e 3] (pS p ++ eS e) (bA (H1 p.vars p.arrays (d + 1) e))) := by
  refine t8 32 Tryz.func104 [dI p.vars, dI p.arrays, dT p.body, dE e.kids] [(0, pA 0), (1, eA e 3)] fun G => ?_; have hlen : e.kids.length ≤ 9223372036854775807 := G.len 3 (d := .exprs e.kids) (by kernel_rfl); refine wp_seq (e5 G c3 [0, 1, 2, 3, 4, 12] [dI p.vars, dI p.arrays, dT p.body, dE e.kids, .box (pL 0), .box (eL e 3)] [(2, .ptr 4 0), (3, .ptr 5 0), (4, bA false)] fun G => b5 (wp_seq (wp_seq ?_))); cases h0 : (e.kind == 3)
  ·
   have q0 := ne_of_beq_false h0; refine a69 G (z4 (fc h0 fz) (us [(4, 10, 0), (1011, 1011, 0)])) [0, 1, 3, 7, 15, 15, 47, 111, 239, 511, 1023, 2047] [(17, bA false)] fun G => b5 (rF G false (by kernel_rfl) (wp_skip (b5 (wp_seq (wp_seq (w5 G c3 [(2, .ptr 4 0), (3, .ptr 5 0), (4, bA false), (5, iA 0)] fun G => b5 (wp_block ?_))))))); refine l0 (κ := Nat) (fun k => k ≤ e.kids.length ∧ (e.kids.take k).any (H1 p.vars p.arrays d) = false) (fun k => e.kids.length - k) (fun k => [dI p.vars, dI p.arrays, dT p.body, dE e.kids, .box (pL 0), .box (eL e 3)]) (fun k => [(2, .ptr 4 0), (3, .ptr 5 0), (4, bA false), (5, iA k)]) 0 (by simp [he, h0]) (l7.at G _ _) ?_; clear G; intro k ρ a w hp G; refine wp_seq (wp_seq (d8 G c3 [(22, bA (decide ((k : Int) < e.kids.length)))] fun G => b5 (H2 G (fun h2 q2 => ?_) fun h2 q2 => ?_)))
   · refine wp_exit (k6 (k6 (j8 (b5 (wp_seq (e5 G c3 (rg 4) [dI p.vars, dI p.arrays, dT p.body, dE e.kids] [(4, bA false)] fun G => b5 (wp_ret ?_))))))); exact l9 false G (rg 4) (bz7 (aj2 hp.2 (by omega)) (by assumption))
   ·
    refine wp_skip (b5 (wp_seq (wp_block (wp_seq (R5 G (n7 6 [0, 1, 2, 46] (ih (e.kids.getD k bU7) (M4 he (by omega)))) [0, 0, 2, 0, 14, 30, 63] [(31, bA (H1 p.vars p.arrays d (e.kids.getD k bU7)))] (iX k k e.kids.length []) (iK (by omega) bW1) fun G => b5 (rcB G (fun h3 => ?_) fun h3 => ?_))))))
    · refine wp_skip (j0 (b5 (z3 G c3 [(5, iA ((k : Int) + 1))] [wO ((k : Int) + 1)] (o1 (by omega)) fun G => b5 ?_))); exact H9 G (k + 1) (⟨by omega, aj1 hp.2 (by omega) (by assumption)⟩) (by omega) (rg 6)
    · refine wp_seq (d8 G c3 [(4, bA true)] fun G => b5 (wp_ret (m7 (c8 (c8 (m7 (c8 ?_))))))); exact l9 true G (rg 4) (by rw [H1, a55 (k := k) (by omega) (by assumption), Bool.or_true])
  ·
   have q0 := eq_of_beq h0; refine R5 G (m5 (f6 9 [0, 1, 2, 70] (ihl (e.kids.getD 0 bU7) (M4 he (as7 he (by assumption)))) (f6 10 [] (A8 (c6 p.vars p.arrays d (e.kids.getD 0 bU7))) m0)) (fc h0 fz) (us [(4, 10, 0), (1011, 1011, 0)])) [0, 1, 3, 7, 15, 15, 47, 111, 239, 511, 1023, 2047] [(17, bA (c5 (c6 p.vars p.arrays d (e.kids.getD 0 bU7)) && decide (c6 p.vars p.arrays d (e.kids.getD 0 bU7) % 2 = 1)))] (iX 0 0 e.kids.length []) (iK (by have := as7 he (by assumption); omega) bW1) fun G => b5 ?_; cases h1 : (c5 (c6 p.vars p.arrays d (e.kids.getD (0 : Nat) bU7)) && decide (c6 p.vars p.arrays d (e.kids.getD (0 : Nat) bU7) % (2 : Int) = 1))
   ·
    have q1 : ((c5 (c6 p.vars p.arrays d (e.kids.getD 0 bU7))) = false) ∨ (¬ (c6 p.vars p.arrays d (e.kids.getD 0 bU7) % 2 = 1)) := Or.imp (fun hq => (hq)) (fun hq => of_decide_eq_false hq) (bX3.1 h1); refine rF G _ h1 (wp_skip (b5 (wp_seq (wp_seq (w5 G c3 [(2, .ptr 4 0), (3, .ptr 5 0), (4, bA false), (5, iA 0)] fun G => b5 (wp_block ?_)))))); refine l0 (κ := Nat) (fun k => k ≤ e.kids.length ∧ (e.kids.take k).any (H1 p.vars p.arrays d) = false) (fun k => e.kids.length - k) (fun k => [dI p.vars, dI p.arrays, dT p.body, dE e.kids, .box (pL 0), .box (eL e 3)]) (fun k => [(2, .ptr 4 0), (3, .ptr 5 0), (4, bA false), (5, iA k)]) 0 (by simp [he, h0, h1]) (l7.at G _ _) ?_; clear G; intro k ρ a w hp G; refine wp_seq (wp_seq (d8 G c3 [(22, bA (decide ((k : Int) < e.kids.length)))] fun G => b5 (H2 G (fun h4 q4 => ?_) fun h4 q4 => ?_)))
    · refine wp_exit (k6 (k6 (j8 (b5 (wp_seq (e5 G c3 (rg 4) [dI p.vars, dI p.arrays, dT p.body, dE e.kids] [(4, bA false)] fun G => b5 (wp_ret ?_))))))); exact l9 false G (rg 4) (bp1 (aj2 hp.2 (by omega)) (by assumption))
    ·
     refine wp_skip (b5 (wp_seq (wp_block (wp_seq (R5 G (n7 6 [0, 1, 2, 46] (ih (e.kids.getD k bU7) (M4 he (by omega)))) [0, 0, 2, 0, 14, 30, 63] [(31, bA (H1 p.vars p.arrays d (e.kids.getD k bU7)))] (iX k k e.kids.length []) (iK (by omega) bW1) fun G => b5 (rcB G (fun h5 => ?_) fun h5 => ?_))))))
     · refine wp_skip (j0 (b5 (z3 G c3 [(5, iA ((k : Int) + 1))] [wO ((k : Int) + 1)] (o1 (by omega)) fun G => b5 ?_))); exact H9 G (k + 1) (⟨by omega, aj1 hp.2 (by omega) (by assumption)⟩) (by omega) (rg 6)
     · refine wp_seq (d8 G c3 [(4, bA true)] fun G => b5 (wp_ret (m7 (c8 (c8 (m7 (c8 ?_))))))); exact l9 true G (rg 4) (by rw [H1, a55 (k := k) (by omega) (by assumption), Bool.or_true])
   · have q1 : ((c5 (c6 p.vars p.arrays d (e.kids.getD 0 bU7))) = true) ∧ (c6 p.vars p.arrays d (e.kids.getD 0 bU7) % 2 = 1) := And.imp (fun hq => (hq)) (fun hq => of_decide_eq_true hq) (bX4.1 h1); refine rT G _ h1 (wp_seq (d8 G c3 [(4, bA true)] fun G => b5 (wp_ret (c8 ?_)))); exact l9 true G (rg 4) (bz6 (by assumption) (by assumption))
def flB (x y : Int) : Bool := c5 x && c5 y && (f9 x y == y)
abbrev i7 (p : b8) (e : b7) : Int := c6 p.vars p.arrays 5 e
def P9 (x : Int) : Bool := c5 x && decide (x % 2 = 1)
def F7 (p : b8) (s : b6) (pc : Int) : Int :=
 if s.kind = 1 then if flB (f9 (i7 p s.value) pc) (p.vars.getD s.target.toNat 0) then 0 else 1
 else if s.kind = 2 then if flB (f9 (f9 (i7 p s.value) (i7 p s.index)) pc) (p.arrays.getD s.target.toNat 0) then 0 else 1
 else if s.kind = 5 then if (c5 (i7 p s.value) && decide (i7 p s.value ≤ 1)) && decide (pc = 0) then 0 else 2
 else 0
def ac6 (p : b8) (s : b6) : Int :=
 if s.kind = 3 ∧ P9 (i7 p s.value) = true then 3
 else if (s.kind ≠ 4 ∧ H1 p.vars p.arrays 5 s.value = true) ∨ (s.kind = 2 ∧ P9 (i7 p s.index) = true) then 4 else 0
def N8 (p : b8) (s : b6) (pc : Int) (strict : Bool) : Int := if F7 p s pc = 0 then (if strict then ac6 p s else 0) else F7 p s pc
theorem C9 (p : b8) (e : b7) (he : c4 p.vars.length p.arrays.length 5 e = true) : d9.ok Tryz.prog (C0 68 [pA 0, eA e 3] (pS p ++ eS e) (iA (i7 p e))) := aw6 p 5 e he
theorem aQ6 (p : b8) : ∀ (d : Nat) (e : b7), c4 p.vars.length p.arrays.length d e = true → d9.ok Tryz.prog (C0 104 [pA 0, eA e 3] (pS p ++ eS e) (bA (H1 p.vars p.arrays d e))) := by
 intro d
 induction d with
 | zero => intro e h; simp [c4] at h
 | succ d ih => intro e h; exact aQ5 p d ih (aw6 p d) e h
theorem x8 (p : b8) (e : b7) (he : c4 p.vars.length p.arrays.length 5 e = true) : d9.ok Tryz.prog (C0 104 [pA 0, eA e 3] (pS p ++ eS e) (bA (H1 p.vars p.arrays 5 e))) := aQ6 p 5 e he
section
variable {nv na : Nat} {s : b6}
theorem X9 {e : b7} (h : f7 nv na e = true) : c4 nv na 5 e = true := by unfold f7 at h; simp only [bU8] at h; exact h.1
variable (h : s8 nv na s = true)
include h
theorem r8 (k : ¬ s.kind = 4) : c4 nv na 5 s.value = true := by
 apply X9
 by_cases k1 : s.kind = 1 ∨ s.kind = 5
 ·rw [s9 k1] at h; simp only [bU8] at h; exact h.2.2
 by_cases k2 : s.kind = 2
 ·rw [C6 k2] at h; simp only [bU8] at h; exact h.2.2.2
 by_cases k3 : s.kind = 3
 ·rw [P1 k3] at h; simp only [bU8] at h; exact h.2.2
 ·rw [aC2 (by omega)] at h; cases h
theorem av3 (k : s.kind = 2) : c4 nv na 5 s.index = true := by
 rw [C6 k] at h; simp only [bU8] at h; exact X9 h.2.1
theorem av2 (k : s.kind = 1 ∨ s.kind = 5) : 0 ≤ s.target ∧ s.target < nv ∧ s.target.toNat < nv := by
 rw [s9 k] at h; simp only [bU8, decide_eq_true_eq] at h; omega
theorem av4 (k : s.kind = 2) : 0 ≤ s.target ∧ s.target < na ∧ s.target.toNat < na := by
 rw [C6 k] at h; simp only [bU8, decide_eq_true_eq] at h; omega
end
section
variable {p : b8} {s : b6} {pc : Int} {strict : Bool} {x : Int}
theorem ah0 (h : F7 p s pc = x) (hx : x ≠ 0) : N8 p s pc strict = x := by rw [N8, h, if_neg hx]
theorem Y1 (h : F7 p s pc = 0) : N8 p s pc false = 0 := by rw [N8, h]; rfl
theorem r7 (h : F7 p s pc = 0) (hl : ac6 p s = x) : N8 p s pc true = x := by rw [N8, h, hl]; rfl
theorem bC6 (k : s.kind = 1) (h : (!(c5 (f9 (i7 p s.value) pc) && c5 (p.vars.getD s.target.toNat 0) && (f9 (f9 (i7 p s.value) pc) (p.vars.getD s.target.toNat 0) == (p.vars.getD s.target.toNat 0)))) = false) : F7 p s pc = 0 := by rw [F7, if_pos k, if_pos (by unfold flB; first | (rw [bV5] at h; exact h) | (rw [bV2] at h; rw [h]; simp))]
theorem bU0 (k : s.kind = 1) (h : (!(c5 (f9 (i7 p s.value) pc) && c5 (p.vars.getD s.target.toNat 0) && (f9 (f9 (i7 p s.value) pc) (p.vars.getD s.target.toNat 0) == (p.vars.getD s.target.toNat 0)))) = true) : F7 p s pc = 1 := by rw [F7, if_pos k, if_neg (by unfold flB; first | (rw [bV5] at h; exact h) | (rw [bV2] at h; rw [h]; simp))]
theorem bs1 (k : s.kind = 2) (h : (!(c5 (f9 (f9 (i7 p s.value) (i7 p s.index)) pc) && c5 (p.arrays.getD s.target.toNat 0) && (f9 (f9 (f9 (i7 p s.value) (i7 p s.index)) pc) (p.arrays.getD s.target.toNat 0) == (p.arrays.getD s.target.toNat 0)))) = false) : F7 p s pc = 0 := by rw [F7, if_neg (by omega), if_pos k, if_pos (by unfold flB; first | (rw [bV5] at h; exact h) | (rw [bV2] at h; rw [h]; simp))]
theorem bT9 (k : s.kind = 2) (h : (!(c5 (f9 (f9 (i7 p s.value) (i7 p s.index)) pc) && c5 (p.arrays.getD s.target.toNat 0) && (f9 (f9 (f9 (i7 p s.value) (i7 p s.index)) pc) (p.arrays.getD s.target.toNat 0) == (p.arrays.getD s.target.toNat 0)))) = true) : F7 p s pc = 1 := by rw [F7, if_neg (by omega), if_pos k, if_neg (by unfold flB; first | (rw [bV5] at h; exact h) | (rw [bV2] at h; rw [h]; simp))]
theorem bC5 (k : s.kind = 5) (h : (!(c5 (i7 p s.value) && decide (i7 p s.value ≤ 1))) = false) (h2 : pc = 0) : F7 p s pc = 0 := by
 rw [bV5] at h
 rw [F7, if_neg (by omega), if_neg (by omega), if_pos k, h, decide_eq_true h2]; rfl
theorem bL9 (k : s.kind = 5) (h : (!(c5 (i7 p s.value) && decide (i7 p s.value ≤ 1))) = true ∨ ¬ pc = 0) : F7 p s pc = 2 := by
 rw [F7, if_neg (by omega), if_neg (by omega), if_pos k]
 rcases h with h | h
 ·rw [bV2] at h
  rw [h]; rfl
 ·rw [decide_eq_false h, Bool.and_false]; rfl
theorem fl0 (k : ¬ s.kind = 1 ∧ ¬ s.kind = 2 ∧ ¬ s.kind = 5) : F7 p s pc = 0 := by rw [F7, if_neg k.1, if_neg k.2.1, if_neg k.2.2]
theorem lk3 (k : s.kind = 3) (h : (c5 (i7 p s.value) && decide (i7 p s.value % 2 = 1)) = true) : ac6 p s = 3 := by rw [ac6, if_pos ⟨k, (show P9 _ = true from h)⟩]
theorem lkv (h3 : ¬ s.kind = 3 ∨ (c5 (i7 p s.value) && decide (i7 p s.value % 2 = 1)) = false) (k : ¬ s.kind = 4) (h : H1 p.vars p.arrays 5 s.value = true) : ac6 p s = 4 := by
 rw [ac6, if_neg (by rintro ⟨a, b⟩; exact h3.elim (fun h => h a) (fun h => Bool.false_ne_true (h.symm.trans b))), if_pos (.inl ⟨k, h⟩)]
theorem lki (k : s.kind = 2) (h : (c5 (i7 p s.index) && decide (i7 p s.index % 2 = 1)) = true) : ac6 p s = 4 := by
 rw [ac6, if_neg (by omega), if_pos (.inr ⟨k, (show P9 _ = true from h)⟩)]
theorem lk0 (h3 : ¬ s.kind = 3 ∨ (c5 (i7 p s.value) && decide (i7 p s.value % 2 = 1)) = false) (h4 : s.kind = 4 ∨ H1 p.vars p.arrays 5 s.value = false) (h2 : ¬ s.kind = 2 ∨ (c5 (i7 p s.index) && decide (i7 p s.index % 2 = 1)) = false) : ac6 p s = 0 := by
 rw [ac6, if_neg (by rintro ⟨a, b⟩; exact h3.elim (fun h => h a) (fun h => Bool.false_ne_true (h.symm.trans b))), if_neg]
 rintro (⟨a, b⟩ | ⟨a, b⟩)
 ·rcases h4 with h | h
  ·exact a h
  ·rw [h] at b; cases b
 ·rcases h2 with h | h
  ·exact h a
  ·exact Bool.false_ne_true (h.symm.trans b)
end
abbrev G4 (p : b8) (s : b6) (r0 : List It) : List It := dI p.vars :: dI p.arrays :: dT p.body :: dE s.index.kids :: dE s.value.kids :: dT s.body :: dT s.els :: r0
theorem bt6 (p : b8) (s : b6) (pc : Int) (strict : Bool) (h : s8 p.vars.length p.arrays.length s = true) : d9.ok Tryz.prog (C0 94 [pA 0, sA s 3, iA pc, bA strict] (pS p ++ sS s) (iA (N8 p s pc strict))) := by
  refine t8 94 Tryz.func94 (G4 p s []) [(0, pA 0), (1, sA s 3), (2, iA pc), (3, bA strict)] fun G => ?_; refine wp_seq (e5 G c3 [0, 1, 2, 3, 4, 5, 6, 7, 15] (G4 p s [.box (pL 0), .box (sL s 3)]) [(2, iA pc), (3, bA strict), (4, .ptr 7 0), (5, .ptr 8 0), (8, iA 0)] fun G => b5 (wp_seq (wp_seq (d8 G c3 [(10, iA s.kind)] fun G => b5 (wp_block (wp_seq (d8 G c3 [(11, bA (s.kind == 1))] fun G => b5 (I1 G (fun h0 q0 => ?_) fun h0 q0 => ?_))))))))
  ·
   refine wp_seq (d8 G c3 [(27, bA (s.kind == 2))] fun G => b5 (I1 G (fun h1 q1 => ?_) fun h1 q1 => ?_))
   ·
    refine wp_seq (d8 G c3 [(48, bA (s.kind == 5))] fun G => b5 (I1 G (fun h2 q2 => ?_) fun h2 q2 => ?_))
    ·
     refine wp_seq (d8 G c3 [(60, bA (s.kind == 3))] fun G => b5 (I1 G (fun h3 q3 => ?_) fun h3 q3 => ?_))
     ·
      refine wp_skip (j0 (b5 (wp_seq (wp_seq ?_)))); cases h4 : (strict)
      · refine e5 G (z4 (fc h4 fz) (us [(2, 5, 0), (10, 11, 0), (22, 22, 0), (1023, 1023, 0)])) (rg 7) (G4 p s []) [(8, iA 0), (93, bA false)] fun G => b5 (rF G false (by kernel_rfl) (wp_skip (b5 (wp_seq (d8 G c3 [] fun G => b5 (wp_ret ?_)))))); exact J8 0 G (rg 7) (Y1 (fl0 (by omega)))
      ·
       cases h5 : (s.kind != 4)
       · have q5 := bne_eq_false_iff_eq.1 h5; refine e5 G (z4 (fc h4 (fc h5 (fc (b := false) rfl (fc h1 fz)))) (us [(2, 5, 0), (6, 9, 1), (10, 10, 0), (1010, 1010, 1), (11, 11, 0), (12, 15, 2), (16, 20, 3), (21, 21, 2), (1021, 1021, 3), (22, 22, 0), (1022, 1022, 2), (1023, 1023, 0)])) (rg 7) (G4 p s []) [(8, iA 0), (93, bA false)] fun G => b5 (rF G false (by kernel_rfl) (wp_skip (b5 (wp_seq (d8 G c3 [] fun G => b5 (wp_ret ?_)))))); exact J8 0 G (rg 7) (r7 (fl0 (by omega)) (lk0 (by exact .inl (by omega)) (by exact .inl (by omega)) (by exact .inl (by omega))))
       ·
        have q5 := bne_iff_ne.1 h5; cases h6 : (H1 p.vars p.arrays (5 : Nat) s.value)
        · refine e5 G (m5 (f6 9 [0, 1, 2, 4] (x8 p s.value (r8 h (by omega))) m0) (fc h4 (fc h5 (fc h6 (fc h1 fz)))) (us [(2, 5, 0), (6, 9, 1), (10, 10, 0), (1010, 1010, 1), (11, 11, 0), (12, 15, 2), (16, 20, 3), (21, 21, 2), (1021, 1021, 3), (22, 22, 0), (1022, 1022, 2), (1023, 1023, 0)])) (rg 7) (G4 p s []) [(8, iA 0), (93, bA false)] fun G => b5 (rF G false (by kernel_rfl) (wp_skip (b5 (wp_seq (d8 G c3 [] fun G => b5 (wp_ret ?_)))))); exact J8 0 G (rg 7) (r7 (fl0 (by omega)) (lk0 (by exact .inl (by omega)) (by exact .inr (by with_reducible assumption)) (by exact .inl (by omega))))
        · refine e5 G (m5 (f6 9 [0, 1, 2, 4] (x8 p s.value (r8 h (by omega))) m0) (fc h4 (fc h5 (fc h6 fz))) (us [(2, 5, 0), (6, 9, 1), (10, 10, 0), (1010, 1010, 1), (11, 11, 0), (12, 15, 2), (21, 21, 2), (22, 22, 0), (1022, 1022, 2), (1023, 1023, 0)])) (rg 7) (G4 p s []) [(8, iA 0), (93, bA true)] fun G => b5 (rT G true (by kernel_rfl) (wp_seq (d8 G c3 [(8, iA 4)] fun G => b5 (wp_ret (c8 ?_))))); exact J8 4 G (rg 7) (r7 (fl0 (by omega)) (lkv (by exact .inl (by omega)) (by omega) (by with_reducible assumption)))
     ·
      refine wp_seq ?_; cases h7 : (strict)
      · refine d8 G (z4 (fc h7 fz) (us [(2, 6, 0), (1007, 1007, 0)])) [(69, bA false)] fun G => b5 (rF G false (by kernel_rfl) (wp_skip (j0 (b5 (wp_seq (wp_seq (e5 G (z4 (fc h7 fz) (us [(2, 5, 0), (10, 11, 0), (22, 22, 0), (1023, 1023, 0)])) (rg 7) (G4 p s []) [(8, iA 0), (93, bA false)] fun G => b5 (rF G false (by kernel_rfl) (wp_skip (b5 (wp_seq (d8 G c3 [] fun G => b5 (wp_ret ?_))))))))))))); exact J8 0 G (rg 7) (Y1 (fl0 (by omega)))
      ·
       refine w5 G (m5 (f6 5 [0, 1, 2, 4] (C9 p s.value (r8 h (by omega))) (f6 6 [] (A8 (i7 p s.value)) m0)) (fc h7 fz) (us [(2, 6, 0), (1007, 1007, 0)])) [(3, bA strict), (4, .ptr 7 0), (5, .ptr 8 0), (8, iA 0), (69, bA (c5 (i7 p s.value) && decide (i7 p s.value % 2 = 1)))] fun G => b5 ?_; cases h8 : (c5 (i7 p s.value) && decide (i7 p s.value % (2 : Int) = 1))
       ·
        have q8 : ((c5 (i7 p s.value)) = false) ∨ (¬ (i7 p s.value % 2 = 1)) := Or.imp (fun hq => (hq)) (fun hq => of_decide_eq_false hq) (bX3.1 h8); refine rF G _ h8 (wp_skip (j0 (b5 (wp_seq (wp_seq ?_))))); cases h9 : (s.kind != 4)
        · have q9 := bne_eq_false_iff_eq.1 h9; exact False.elim (by omega)
        ·
         have q9 := bne_iff_ne.1 h9; cases h10 : (H1 p.vars p.arrays (5 : Nat) s.value)
         · refine e5 G (m5 (f6 9 [0, 1, 2, 4] (x8 p s.value (r8 h (by omega))) m0) (fc h7 (fc h9 (fc h10 (fc h1 fz)))) (us [(2, 5, 0), (6, 9, 1), (10, 10, 0), (1010, 1010, 1), (11, 11, 0), (12, 15, 2), (16, 20, 3), (21, 21, 2), (1021, 1021, 3), (22, 22, 0), (1022, 1022, 2), (1023, 1023, 0)])) (rg 7) (G4 p s []) [(8, iA 0), (93, bA false)] fun G => b5 (rF G false (by kernel_rfl) (wp_skip (b5 (wp_seq (d8 G c3 [] fun G => b5 (wp_ret ?_)))))); exact J8 0 G (rg 7) (r7 (fl0 (by omega)) (lk0 (by exact .inr (by with_reducible assumption)) (by exact .inr (by with_reducible assumption)) (by exact .inl (by omega))))
         · refine e5 G (m5 (f6 9 [0, 1, 2, 4] (x8 p s.value (r8 h (by omega))) m0) (fc h7 (fc h9 (fc h10 fz))) (us [(2, 5, 0), (6, 9, 1), (10, 10, 0), (1010, 1010, 1), (11, 11, 0), (12, 15, 2), (21, 21, 2), (22, 22, 0), (1022, 1022, 2), (1023, 1023, 0)])) (rg 7) (G4 p s []) [(8, iA 0), (93, bA true)] fun G => b5 (rT G true (by kernel_rfl) (wp_seq (d8 G c3 [(8, iA 4)] fun G => b5 (wp_ret (c8 ?_))))); exact J8 4 G (rg 7) (r7 (fl0 (by omega)) (lkv (by exact .inr (by with_reducible assumption)) (by omega) (by with_reducible assumption)))
       · have q8 : ((c5 (i7 p s.value)) = true) ∧ (i7 p s.value % 2 = 1) := And.imp (fun hq => (hq)) (fun hq => of_decide_eq_true hq) (bX4.1 h8); refine rT G _ h8 (wp_seq (d8 G c3 [(8, iA 3)] fun G => b5 (wp_ret (m7 (c8 ?_))))); exact J8 3 G (rg 7) (r7 (fl0 (by omega)) (lk3 (by with_reducible assumption) (by with_reducible assumption)))
    ·
     refine wp_seq ?_; cases h11 : (!(c5 (i7 p s.value) && decide (i7 p s.value ≤ 1)))
     ·
      have q11 : ((c5 (i7 p s.value)) = true) ∧ (i7 p s.value ≤ 1) := (fun hq => And.imp (fun hq => (hq)) (fun hq => of_decide_eq_true hq) (bX4.1 hq)) (Eq.mp (bV5 _) h11); refine w5 G (m5 (f6 3 [0, 1, 2, 4] (C9 p s.value (r8 h (by omega))) (f6 4 [] (Y9 (i7 p s.value)) m0)) (fc h11 fz) [(7, 0), (8, 0), (1009, 0)]) [(3, bA strict), (4, .ptr 7 0), (5, .ptr 8 0), (8, iA 0), (59, bA (pc != 0))] fun G => b5 (rcN G (fun h12 q12 => ?_) fun h12 q12 => ?_)
      ·
       refine wp_skip (j0 (b5 (wp_seq (wp_seq ?_)))); cases h13 : (strict)
       · refine e5 G (z4 (fc h13 fz) (us [(2, 5, 0), (10, 11, 0), (22, 22, 0), (1023, 1023, 0)])) (rg 7) (G4 p s []) [(8, iA 0), (93, bA false)] fun G => b5 (rF G false (by kernel_rfl) (wp_skip (b5 (wp_seq (d8 G c3 [] fun G => b5 (wp_ret ?_)))))); exact J8 0 G (rg 7) (Y1 (bC5 (by with_reducible assumption) (by with_reducible assumption) (by with_reducible assumption)))
       ·
        cases h14 : (s.kind != 4)
        · have q14 := bne_eq_false_iff_eq.1 h14; exact False.elim (by omega)
        ·
         have q14 := bne_iff_ne.1 h14; cases h15 : (H1 p.vars p.arrays (5 : Nat) s.value)
         · refine e5 G (m5 (f6 9 [0, 1, 2, 4] (x8 p s.value (r8 h (by omega))) m0) (fc h13 (fc h14 (fc h15 (fc h1 fz)))) (us [(2, 5, 0), (6, 9, 1), (10, 10, 0), (1010, 1010, 1), (11, 11, 0), (12, 15, 2), (16, 20, 3), (21, 21, 2), (1021, 1021, 3), (22, 22, 0), (1022, 1022, 2), (1023, 1023, 0)])) (rg 7) (G4 p s []) [(8, iA 0), (93, bA false)] fun G => b5 (rF G false (by kernel_rfl) (wp_skip (b5 (wp_seq (d8 G c3 [] fun G => b5 (wp_ret ?_)))))); exact J8 0 G (rg 7) (r7 (bC5 (by with_reducible assumption) (by with_reducible assumption) (by with_reducible assumption)) (lk0 (by exact .inl (by omega)) (by exact .inr (by with_reducible assumption)) (by exact .inl (by omega))))
         · refine e5 G (m5 (f6 9 [0, 1, 2, 4] (x8 p s.value (r8 h (by omega))) m0) (fc h13 (fc h14 (fc h15 fz))) (us [(2, 5, 0), (6, 9, 1), (10, 10, 0), (1010, 1010, 1), (11, 11, 0), (12, 15, 2), (21, 21, 2), (22, 22, 0), (1022, 1022, 2), (1023, 1023, 0)])) (rg 7) (G4 p s []) [(8, iA 0), (93, bA true)] fun G => b5 (rT G true (by kernel_rfl) (wp_seq (d8 G c3 [(8, iA 4)] fun G => b5 (wp_ret (c8 ?_))))); exact J8 4 G (rg 7) (r7 (bC5 (by with_reducible assumption) (by with_reducible assumption) (by with_reducible assumption)) (lkv (by exact .inl (by omega)) (by omega) (by with_reducible assumption)))
      · refine wp_seq (d8 G c3 [(8, iA 2)] fun G => b5 (wp_ret (m7 (c8 ?_)))); exact J8 2 G (rg 7) (ah0 (bL9 (by with_reducible assumption) (.inr (by with_reducible assumption))) (by decide))
     · have q11 : ((c5 (i7 p s.value)) = false) ∨ (¬ (i7 p s.value ≤ 1)) := (fun hq => Or.imp (fun hq => (hq)) (fun hq => of_decide_eq_false hq) (bX3.1 hq)) (Eq.mp (bV2 _) h11); refine d8 G (m5 (f6 3 [0, 1, 2, 4] (C9 p s.value (r8 h (by omega))) (f6 4 [] (Y9 (i7 p s.value)) m0)) (fc h11 fz) [(7, 0), (8, 0), (1009, 0)]) [(59, bA true)] fun G => b5 (rT G true (by kernel_rfl) (wp_seq (d8 G c3 [(8, iA 2)] fun G => b5 (wp_ret (m7 (c8 ?_)))))); exact J8 2 G (rg 7) (ah0 (bL9 (by with_reducible assumption) (.inl (by with_reducible assumption))) (by decide))
   ·
    refine wp_seq (bI1 G (m5 (f6 3 [0, 1, 2, 4] (C9 p s.value (r8 h (by omega))) (f6 7 (rg 4) (C9 p s.index (av3 h (by with_reducible assumption))) (f6 17 [] (ai9 (f9 (f9 (i7 p s.value) (i7 p s.index)) pc) (p.arrays.getD s.target.toNat 0)) m0))) fz []) [0, 0, 2, 7, 0, 0, 32, 127, 255, 0, 1023, 0, 2048, 0, 8192, 30720, 63488, 131071, 262143] [(3, bA strict), (4, .ptr 7 0), (5, .ptr 8 0), (8, iA 0), (47, .v (.bool !(c5 (f9 (f9 (i7 p s.value) (i7 p s.index)) pc) && c5 (p.arrays.getD s.target.toNat 0) && f9 (f9 (f9 (i7 p s.value) (i7 p s.index)) pc) (p.arrays.getD s.target.toNat 0) == p.arrays.getD s.target.toNat 0)))] [(0 : Int) ≤ s.target, s.target < (p.arrays.length : Int), s.target.toNat < p.arrays.length] ⟨((av4 h (by omega)).1), ((av4 h (by omega)).2.1), ((av4 h (by omega)).2.2), bW1⟩ fun G => b5 ?_); cases h16 : (!(c5 (f9 (f9 (i7 p s.value) (i7 p s.index)) pc) && c5 (p.arrays.getD s.target.toNat (0 : Int)) && f9 (f9 (f9 (i7 p s.value) (i7 p s.index)) pc) (p.arrays.getD s.target.toNat (0 : Int)) == p.arrays.getD s.target.toNat (0 : Int)))
    ·
     have q16 : (((c5 (f9 (f9 (i7 p s.value) (i7 p s.index)) pc)) = true) ∧ ((c5 (p.arrays.getD s.target.toNat 0)) = true)) ∧ (f9 (f9 (f9 (i7 p s.value) (i7 p s.index)) pc) (p.arrays.getD s.target.toNat 0) = p.arrays.getD s.target.toNat 0) := (fun hq => And.imp (fun hq => And.imp (fun hq => (hq)) (fun hq => (hq)) (bX4.1 hq)) (fun hq => eq_of_beq hq) (bX4.1 hq)) (Eq.mp (bV5 _) h16); refine rF G _ h16 (wp_skip (j0 (b5 (wp_seq (wp_seq ?_))))); cases h17 : (strict)
     · refine e5 G (z4 (fc h17 fz) (us [(2, 5, 0), (10, 11, 0), (22, 22, 0), (1023, 1023, 0)])) (rg 7) (G4 p s []) [(8, iA 0), (93, bA false)] fun G => b5 (rF G false (by kernel_rfl) (wp_skip (b5 (wp_seq (d8 G c3 [] fun G => b5 (wp_ret ?_)))))); exact J8 0 G (rg 7) (Y1 (bs1 (by with_reducible assumption) (by with_reducible assumption)))
     ·
      cases h18 : (s.kind != 4)
      · have q18 := bne_eq_false_iff_eq.1 h18; exact False.elim (by omega)
      ·
       have q18 := bne_iff_ne.1 h18; cases h19 : (H1 p.vars p.arrays (5 : Nat) s.value)
       ·
        refine e5 G (m5 (f6 9 [0, 1, 2, 4] (x8 p s.value (r8 h (by omega))) (f6 19 (rg 4) (C9 p s.index (av3 h (by with_reducible assumption))) (f6 20 [] (A8 (i7 p s.index)) m0))) (fc h17 (fc h18 (fc h19 (fc h1 fz)))) (us [(2, 5, 0), (6, 9, 1), (10, 10, 0), (1010, 1010, 1), (11, 11, 0), (12, 15, 2), (16, 20, 3), (21, 21, 2), (1021, 1021, 3), (22, 22, 0), (1022, 1022, 2), (1023, 1023, 0)])) (rg 7) (G4 p s []) [(8, iA 0), (93, bA (c5 (i7 p s.index) && decide (i7 p s.index % 2 = 1)))] fun G => b5 ?_; cases h20 : (c5 (i7 p s.index) && decide (i7 p s.index % (2 : Int) = 1))
        · have q20 : ((c5 (i7 p s.index)) = false) ∨ (¬ (i7 p s.index % 2 = 1)) := Or.imp (fun hq => (hq)) (fun hq => of_decide_eq_false hq) (bX3.1 h20); refine rF G _ h20 (wp_skip (b5 (wp_seq (d8 G c3 [] fun G => b5 (wp_ret ?_))))); exact J8 0 G (rg 7) (r7 (bs1 (by with_reducible assumption) (by with_reducible assumption)) (lk0 (by exact .inl (by omega)) (by exact .inr (by with_reducible assumption)) (by exact .inr (by with_reducible assumption))))
        · have q20 : ((c5 (i7 p s.index)) = true) ∧ (i7 p s.index % 2 = 1) := And.imp (fun hq => (hq)) (fun hq => of_decide_eq_true hq) (bX4.1 h20); refine rT G _ h20 (wp_seq (d8 G c3 [(8, iA 4)] fun G => b5 (wp_ret (c8 ?_)))); exact J8 4 G (rg 7) (r7 (bs1 (by with_reducible assumption) (by with_reducible assumption)) (lki (by with_reducible assumption) (by with_reducible assumption)))
       · refine e5 G (m5 (f6 9 [0, 1, 2, 4] (x8 p s.value (r8 h (by omega))) m0) (fc h17 (fc h18 (fc h19 fz))) (us [(2, 5, 0), (6, 9, 1), (10, 10, 0), (1010, 1010, 1), (11, 11, 0), (12, 15, 2), (21, 21, 2), (22, 22, 0), (1022, 1022, 2), (1023, 1023, 0)])) (rg 7) (G4 p s []) [(8, iA 0), (93, bA true)] fun G => b5 (rT G true (by kernel_rfl) (wp_seq (d8 G c3 [(8, iA 4)] fun G => b5 (wp_ret (c8 ?_))))); exact J8 4 G (rg 7) (r7 (bs1 (by with_reducible assumption) (by with_reducible assumption)) (lkv (by exact .inl (by omega)) (by omega) (by with_reducible assumption)))
    · have q16 : (((c5 (f9 (f9 (i7 p s.value) (i7 p s.index)) pc)) = false) ∨ ((c5 (p.arrays.getD s.target.toNat 0)) = false)) ∨ (¬ (f9 (f9 (f9 (i7 p s.value) (i7 p s.index)) pc) (p.arrays.getD s.target.toNat 0) = p.arrays.getD s.target.toNat 0)) := (fun hq => Or.imp (fun hq => Or.imp (fun hq => (hq)) (fun hq => (hq)) (bX3.1 hq)) (fun hq => ne_of_beq_false hq) (bX3.1 hq)) (Eq.mp (bV2 _) h16); refine rT G _ h16 (wp_seq (d8 G c3 [(8, iA 1)] fun G => b5 (wp_ret (m7 (c8 ?_))))); exact J8 1 G (rg 7) (ah0 (bT9 (by with_reducible assumption) (by with_reducible assumption)) (by decide))
  ·
   refine wp_seq (bI1 G (m5 (f6 3 [0, 1, 2, 4] (C9 p s.value (r8 h (by omega))) (f6 12 [] (ai9 (f9 (i7 p s.value) pc) (p.vars.getD s.target.toNat 0)) m0)) fz []) [0, 0, 2, 7, 0, 31, 0, 64, 0, 256, 960, 1984, 4095, 8191] [(3, bA strict), (4, .ptr 7 0), (5, .ptr 8 0), (8, iA 0), (26, .v (.bool !(c5 (f9 (i7 p s.value) pc) && c5 (p.vars.getD s.target.toNat 0) && f9 (f9 (i7 p s.value) pc) (p.vars.getD s.target.toNat 0) == p.vars.getD s.target.toNat 0)))] [(0 : Int) ≤ s.target, s.target < (p.vars.length : Int), s.target.toNat < p.vars.length] ⟨((av2 h (by omega)).1), ((av2 h (by omega)).2.1), ((av2 h (by omega)).2.2), bW1⟩ fun G => b5 ?_); cases h21 : (!(c5 (f9 (i7 p s.value) pc) && c5 (p.vars.getD s.target.toNat (0 : Int)) && f9 (f9 (i7 p s.value) pc) (p.vars.getD s.target.toNat (0 : Int)) == p.vars.getD s.target.toNat (0 : Int)))
   ·
    have q21 : (((c5 (f9 (i7 p s.value) pc)) = true) ∧ ((c5 (p.vars.getD s.target.toNat 0)) = true)) ∧ (f9 (f9 (i7 p s.value) pc) (p.vars.getD s.target.toNat 0) = p.vars.getD s.target.toNat 0) := (fun hq => And.imp (fun hq => And.imp (fun hq => (hq)) (fun hq => (hq)) (bX4.1 hq)) (fun hq => eq_of_beq hq) (bX4.1 hq)) (Eq.mp (bV5 _) h21); refine rF G _ h21 (wp_skip (j0 (b5 (wp_seq (wp_seq ?_))))); cases h22 : (strict)
    · refine e5 G (z4 (fc h22 fz) (us [(2, 5, 0), (10, 11, 0), (22, 22, 0), (1023, 1023, 0)])) (rg 7) (G4 p s []) [(8, iA 0), (93, bA false)] fun G => b5 (rF G false (by kernel_rfl) (wp_skip (b5 (wp_seq (d8 G c3 [] fun G => b5 (wp_ret ?_)))))); exact J8 0 G (rg 7) (Y1 (bC6 (by with_reducible assumption) (by with_reducible assumption)))
    ·
     cases h23 : (s.kind != 4)
     · have q23 := bne_eq_false_iff_eq.1 h23; exact False.elim (by omega)
     ·
      have q23 := bne_iff_ne.1 h23; cases h24 : (H1 p.vars p.arrays (5 : Nat) s.value)
      ·
       cases h25 : (s.kind == 2)
       · have q25 := ne_of_beq_false h25; refine e5 G (m5 (f6 9 [0, 1, 2, 4] (x8 p s.value (r8 h (by omega))) m0) (fc h22 (fc h23 (fc h24 (fc h25 fz)))) (us [(2, 5, 0), (6, 9, 1), (10, 10, 0), (1010, 1010, 1), (11, 11, 0), (12, 15, 2), (16, 20, 3), (21, 21, 2), (1021, 1021, 3), (22, 22, 0), (1022, 1022, 2), (1023, 1023, 0)])) (rg 7) (G4 p s []) [(8, iA 0), (93, bA false)] fun G => b5 (rF G false (by kernel_rfl) (wp_skip (b5 (wp_seq (d8 G c3 [] fun G => b5 (wp_ret ?_)))))); exact J8 0 G (rg 7) (r7 (bC6 (by with_reducible assumption) (by with_reducible assumption)) (lk0 (by exact .inl (by omega)) (by exact .inr (by with_reducible assumption)) (by exact .inl (by omega))))
       · have q25 := eq_of_beq h25; exact False.elim (by omega)
      · refine e5 G (m5 (f6 9 [0, 1, 2, 4] (x8 p s.value (r8 h (by omega))) m0) (fc h22 (fc h23 (fc h24 fz))) (us [(2, 5, 0), (6, 9, 1), (10, 10, 0), (1010, 1010, 1), (11, 11, 0), (12, 15, 2), (21, 21, 2), (22, 22, 0), (1022, 1022, 2), (1023, 1023, 0)])) (rg 7) (G4 p s []) [(8, iA 0), (93, bA true)] fun G => b5 (rT G true (by kernel_rfl) (wp_seq (d8 G c3 [(8, iA 4)] fun G => b5 (wp_ret (c8 ?_))))); exact J8 4 G (rg 7) (r7 (bC6 (by with_reducible assumption) (by with_reducible assumption)) (lkv (by exact .inl (by omega)) (by omega) (by with_reducible assumption)))
   · have q21 : (((c5 (f9 (i7 p s.value) pc)) = false) ∨ ((c5 (p.vars.getD s.target.toNat 0)) = false)) ∨ (¬ (f9 (f9 (i7 p s.value) pc) (p.vars.getD s.target.toNat 0) = p.vars.getD s.target.toNat 0)) := (fun hq => Or.imp (fun hq => Or.imp (fun hq => (hq)) (fun hq => (hq)) (bX3.1 hq)) (fun hq => ne_of_beq_false hq) (bX3.1 hq)) (Eq.mp (bV2 _) h21); refine rT G _ h21 (wp_seq (d8 G c3 [(8, iA 1)] fun G => b5 (wp_ret (m7 (c8 ?_))))); exact J8 1 G (rg 7) (ah0 (bU0 (by with_reducible assumption) (by with_reducible assumption)) (by decide))
def x3 (F : Nat → b6 → Int × Nat) : Nat → List b6 → Int × Nat
 | c, [] => (0, c)
 | c, s :: r => if (F c s).1 = 0 then x3 F (F c s).2 r else F c s
def Y6 (p : b8) (s : b6) (pc : Int) : Int := if s.kind = 3 then f9 pc (i7 p s.value) else pc
def stC (p : b8) (strict : Bool) : Nat → Int → Nat → b6 → Int × Nat
  | 0, _, c, _ => (0, c)
  | d + 1, pc, c, s => if N8 p s pc strict = 0 then
      (if (x3 (stC p strict d (Y6 p s pc)) (c + 1) s.body).1 = 0 then x3 (stC p strict d (Y6 p s pc)) (x3 (stC p strict d (Y6 p s pc)) (c + 1) s.body).2 s.els
       else x3 (stC p strict d (Y6 p s pc)) (c + 1) s.body)
    else (N8 p s pc strict, c)
abbrev m8 (p : b8) (strict : Bool) (d : Nat) (pc : Int) (c : Nat) (ss : List b6) : Int × Nat := x3 (stC p strict d pc) c ss
theorem U2 (F : Nat → b6 → Int × Nat) : ∀ (a b : List b6) (c : Nat), x3 F c (a ++ b) = if (x3 F c a).1 = 0 then x3 F (x3 F c a).2 b else x3 F c a
 | [], b, c => by simp [x3]
 | x :: r, b, c => by
  simp only [List.cons_append, x3]
  by_cases h : (F c x).1 = 0
  ·simp only [h, if_true]; exact U2 F r b _
  ·simp [h]
theorem N1 {F : Nat → b6 → Int × Nat} {c k : Nat} {ss : List b6} (h : (x3 F c (ss.take k)).1 = 0) (hk : k < ss.length) : x3 F c (ss.take (k + 1)) = F (x3 F c (ss.take k)).2 (ss.getD k bU7) := by
 rw [k8 _ _ hk, U2, if_pos h, f8 hk]
 simp only [x3]
 split
 ·rename_i h; exact Prod.ext h.symm rfl
 ·rfl
theorem x7 {F : Nat → b6 → Int × Nat} {c k : Nat} {ss : List b6} (h : (x3 F c (ss.take k)).1 = 0) (hk : k < ss.length) (hf : ¬ (F (x3 F c (ss.take k)).2 (ss.getD k bU7)).1 = 0) : x3 F c ss = F (x3 F c (ss.take k)).2 (ss.getD k bU7) := by
 conv => lhs; rw [← List.take_append_drop (k + 1) ss]
 rw [U2, N1 h hk, if_neg hf]
theorem av8 {F : Nat → b6 → Int × Nat} {c k : Nat} {ss : List b6} (hk : ss.length ≤ k) : x3 F c ss = x3 F c (ss.take k) := by rw [bV8 hk]
theorem ai0 {F : Nat → b6 → Int × Nat} (hF : ∀ c s, (F c s).2 ≤ c + nS s) : ∀ (ss : List b6) (c : Nat), (x3 F c ss).2 ≤ c + L7 ss
 | [], c => by simp [x3]
 | s :: r, c => by
  simp only [x3, L7]
  have h1 := hF c s
  have h2 := ai0 hF r (F c s).2
  split <;> omega
theorem aT5 {p : b8} {strict : Bool} : ∀ (d : Nat) (pc : Int) (c : Nat) (s : b6), (stC p strict d pc c s).2 ≤ c + nS s
 | 0, _, c, s => by simp [stC]
 | d + 1, pc, c, s => by
  have hs := ak8 s
  have h1 := ai0 (aT5 (p := p) (strict := strict) d (Y6 p s pc)) s.body (c + 1)
  have h2 := ai0 (aT5 (p := p) (strict := strict) d (Y6 p s pc)) s.els (x3 (stC p strict d (Y6 p s pc)) (c + 1) s.body).2
  rw [stC]
  split
  ·split <;> omega
  ·simp only; omega
theorem aY3 {p : b8} {strict : Bool} {d : Nat} {pc : Int} {c : Nat} {ss : List b6} : (m8 p strict d pc c ss).2 ≤ c + L7 ss := ai0 (aT5 d pc) ss c
theorem G5 {nv na d k : Nat} {ss : List b6} (hs : ss.all (d7 nv na (d + 1)) = true) (hk : k < ss.length) : s8 nv na (ss.getD k bU7) = true ∧ (ss.getD k bU7).body.all (d7 nv na d) = true ∧ (ss.getD k bU7).els.all (d7 nv na d) = true := by
 have h := bV4.1 hs _ (bW2 hk)
 rw [H0, bU8, bU8] at h
 rw [f8 hk]; exact h
theorem by0 {k : Nat} {ss : List b6} (hk : k < ss.length) : L7 (ss.take k) + (1 + L7 (ss.getD k bU7).body + L7 (ss.getD k bU7).els) ≤ L7 ss := by
 have h1 := a72 hk
 have h2 := aN5 ss (k + 1)
 rw [ak8] at h1
 rw [f8 hk]; omega
section
variable {p : b8} {strict : Bool} {d c : Nat} {pc : Int} {s : b6}
theorem ao6 (h : ¬ N8 p s pc strict = 0) : stC p strict (d + 1) pc c s = (N8 p s pc strict, c) := by rw [stC, if_neg h]
theorem I5 {x : Int} (h : N8 p s pc strict = 0) (hx : Y6 p s pc = x) (h2 : ¬ (m8 p strict d x (c + 1) s.body).1 = 0) : stC p strict (d + 1) pc c s = m8 p strict d x (c + 1) s.body := by
 subst hx; rw [stC, if_pos h, if_neg h2]
theorem E0 {x : Int} (h : N8 p s pc strict = 0) (hx : Y6 p s pc = x) (h2 : (m8 p strict d x (c + 1) s.body).1 = 0) : stC p strict (d + 1) pc c s = m8 p strict d x (m8 p strict d x (c + 1) s.body).2 s.els := by
 subst hx; rw [stC, if_pos h, if_pos h2]
theorem Q5 (k : s.kind = 3) : Y6 p s pc = f9 pc (i7 p s.value) := if_pos k
theorem Q4 (k : ¬ s.kind = 3) : Y6 p s pc = pc := if_neg k
end
theorem ax5 {p : b8} {strict : Bool} {d k c : Nat} {pc : Int} {ss : List b6} (hc : c + L7 ss ≤ 4000000) (hk : k < ss.length) : (m8 p strict (d + 1) pc c (ss.take k)).2 + 1 + L7 (ss.getD k bU7).body ≤ 4000000 := by
 have h1 := by0 (k := k) (ss := ss) hk
 have h2 := aY3 (p := p) (strict := strict) (d := d + 1) (pc := pc) (c := c) (ss := ss.take k)
 omega
theorem aD0 {p : b8} {strict : Bool} {d k c : Nat} {pc x : Int} {ss : List b6} (hc : c + L7 ss ≤ 4000000) (hk : k < ss.length) : (m8 p strict d x ((m8 p strict (d + 1) pc c (ss.take k)).2 + 1) (ss.getD k bU7).body).2 + L7 (ss.getD k bU7).els ≤ 4000000 := by
 have h1 := by0 (k := k) (ss := ss) hk
 have h2 := aY3 (p := p) (strict := strict) (d := d + 1) (pc := pc) (c := c) (ss := ss.take k)
 have h3 := aY3 (p := p) (strict := strict) (d := d) (pc := x) (c := (m8 p strict (d + 1) pc c (ss.take k)).2 + 1) (ss := (ss.getD k bU7).body)
 omega
theorem bu1 {p : b8} {strict : Bool} {d k c : Nat} {pc : Int} {ss : List b6} (hc : c + L7 ss ≤ 4000000) (hk : k < ss.length) : IntKind.i64.wrap (((m8 p strict (d + 1) pc c (ss.take k)).2 : Int) + 1) = ((m8 p strict (d + 1) pc c (ss.take k)).2 : Int) + 1 := by
 have h1 := ax5 (p := p) (strict := strict) (d := d) (pc := pc) hc hk
 exact w64 (by omega) (by omega)
abbrev bu0 (p : b8) (d : Nat) (ss : List b6) (pc : Int) (c : Nat) (strict : Bool) : d9 := C0 83 [pA 0, .ref 3, iA pc, iA c, bA strict] (pS p ++ [.dat (.stmts ss)]) (.tup [iA (m8 p strict d pc c ss).1, iA (m8 p strict d pc c ss).2])
theorem aX4 (p : b8) (pc : Int) (c : Nat) (strict : Bool) : d9.ok Tryz.prog (bu0 p 0 [] pc c strict) := by
 refine t8 74 Tryz.func83 [dI p.vars, dI p.arrays, dT p.body, dT []] [(0, pA 0), (1, .ref 3), (2, iA pc), (3, iA c), (4, bA strict)] fun G => ?_; refine wp_seq (e5 G c3 (rg 5) [dI p.vars, dI p.arrays, dT p.body, dT [], .box (pL 0)] [(1, .ref 3), (2, iA pc), (3, iA c), (4, bA strict), (5, .ptr 4 0), (10, iA 0), (11, iA 0)] fun G => b5 (wp_seq (wp_seq (w5 G c3 [(1, .ref 3), (2, iA pc), (3, iA c), (4, bA strict), (5, .ptr 4 0), (10, iA 0), (11, iA 0), (12, iA 0)] fun G => b5 (wp_block ?_))))); refine l0 (κ := Nat) (fun k => k = 0) (fun k => 0) (fun k => [dI p.vars, dI p.arrays, dT p.body, dT [], .box (pL 0)]) (fun k => [(1, .ref 3), (2, iA pc), (3, iA c), (4, bA strict), (5, .ptr 4 0), (10, iA 0), (11, iA 0), (12, iA 0)]) 0 (by kernel_rfl) (l7.at G _ _) ?_; clear G; intro k ρ a w hp G; refine wp_seq (wp_seq (d8 G c3 [(19, bA false)] fun G => b5 (rF G false (by kernel_rfl) (wp_exit (k6 (k6 (j8 (b5 (wp_seq (e5 G c3 (rg 4) [dI p.vars, dI p.arrays, dT p.body, dT []] [(10, iA 0), (11, iA c)] fun G => b5 (wp_ret ?_))))))))))); exact A0 G (rg 4)
abbrev ab7 (p : b8) (d : Nat) (strict : Bool) (ss : List b6) (pc : Int) (c : Nat) (k : Nat) := m8 p strict d (f9 pc (i7 p (ss.getD k bU7).value)) ((m8 p strict (d + 1) pc c (bV3 k ss)).snd + 1) (ss.getD k bU7).body
abbrev O4 (p : b8) (d : Nat) (strict : Bool) (ss : List b6) (pc : Int) (c : Nat) (k : Nat) := m8 p strict d pc ((m8 p strict (d + 1) pc c (bV3 k ss)).snd + 1) (ss.getD k bU7).body
abbrev aK0 (p : b8) (d : Nat) (strict : Bool) (ss : List b6) (pc : Int) (c : Nat) (k : Nat) := m8 p strict d (f9 pc (i7 p (ss.getD k bU7).value)) (ab7 p d strict ss pc c k).snd (ss.getD k bU7).els
abbrev az1 (strict : Bool) (k : Nat) (r0 : List (Nat × AV)) : List (Nat × AV) := (4, bA strict) :: (5, .ptr 4 0) :: (10, iA 0) :: (11, iA 0) :: (12, iA (k : Int)) :: r0
abbrev aq2 (p : b8) (ss : List b6) (r0 : List It) : List It := dI p.vars :: dI p.arrays :: dT p.body :: dT ss :: .box (pL 0) :: r0
theorem aX2 (p : b8) (d : Nat) (strict : Bool) (ih : ∀ (ss : List b6) (pc : Int) (c : Nat), ss.all (d7 p.vars.length p.arrays.length d) = true → c + L7 ss ≤ 4000000 → d9.ok Tryz.prog (bu0 p d ss pc c strict))
    (ss : List b6) (pc : Int) (c : Nat) (hs : ss.all (d7 p.vars.length p.arrays.length (d + 1)) = true) (hc : c + L7 ss ≤ 4000000) : d9.ok Tryz.prog (bu0 p (d + 1) ss pc c strict) := by
  refine t8 74 Tryz.func83 [dI p.vars, dI p.arrays, dT p.body, dT ss] [(0, pA 0), (1, .ref 3), (2, iA pc), (3, iA c), (4, bA strict)] fun G => ?_; have hlen : ss.length ≤ 9223372036854775807 := G.len 3 (d := .stmts ss) (by kernel_rfl); refine wp_seq (e5 G c3 (rg 5) (aq2 p ss []) [(1, .ref 3), (2, iA pc), (3, iA c), (4, bA strict), (5, .ptr 4 0), (10, iA 0), (11, iA 0)] fun G => b5 (wp_seq (wp_seq (w5 G c3 [(1, .ref 3), (2, iA pc), (3, iA c), (4, bA strict), (5, .ptr 4 0), (10, iA 0), (11, iA 0), (12, iA 0)] fun G => b5 (wp_block ?_))))); refine l0 (κ := Nat) (fun k => k ≤ ss.length ∧ (m8 p strict (d + 1) pc c (ss.take k)).1 = 0) (fun k => ss.length - k) (fun k => [dI p.vars, dI p.arrays, dT p.body, dT ss, .box (pL 0)]) (fun k => [(1, .ref 3), (2, iA pc), (3, iA (m8 p strict (d + 1) pc c (ss.take k)).2), (4, bA strict), (5, .ptr 4 0), (10, iA 0), (11, iA 0), (12, iA k)]) 0 (⟨bY1 _, rfl⟩) (l7.at G _ _) ?_; clear G; intro k ρ a w hp G; replace G := l7.at G (aq2 p ss []) ((1, .ref 3) :: (2, iA pc) :: (3, iA ((m8 p strict (d + 1) pc c (bV3 k ss)).snd : Int)) :: (az1 strict k [])); refine wp_seq (wp_seq (d8 G c3 [(19, bA (decide ((k : Int) < ss.length)))] fun G => b5 (H2 G (fun h0 q0 => ?_) fun h0 q0 => ?_)))
  · refine wp_exit (k6 (k6 (j8 (b5 (wp_seq (e5 G c3 (rg 4) [dI p.vars, dI p.arrays, dT p.body, dT ss] [(10, iA 0), (11, iA ((m8 p strict (d + 1) pc c (bV3 k ss)).snd : Int))] fun G => b5 (wp_ret ?_))))))); exact N7 (.tup [iA 0, iA ((m8 p strict (d + 1) pc c (bV3 k ss)).snd : Int)]) G (rg 4) (by have e1 : ((m8 p strict (d + 1) pc c ss).fst : Int) = (0) := (by rw [m8, av8 (k := k) (by omega)]; exact hp.2); have e2 : (((m8 p strict (d + 1) pc c ss).snd : Int) : Int) = (((m8 p strict (d + 1) pc c (bV3 k ss)).snd : Int)) := (by rw [m8, av8 (k := k) (by omega)]); (first | rw [e1, e2] | simp only [e1, e2]) <;> rfl)
  ·
   refine wp_skip (b5 (wp_seq (wp_block (wp_seq (L5 G c3 [0, 1, 2, 3, 4, 29, 30, 31, 32, 37] (aq2 p ss [dE (ss.getD k bU7).index.kids, dE (ss.getD k bU7).value.kids, dT (ss.getD k bU7).body, dT (ss.getD k bU7).els, .box (sL (ss.getD k bU7) 5)]) ((1, .ref 3) :: (2, iA pc) :: (3, iA ((m8 p strict (d + 1) pc c (bV3 k ss)).snd : Int)) :: (az1 strict k [(13, .ptr 9 0)])) (iX k k ss.length []) (iK (by omega) bW1) fun G => b5 (wp_seq (d8 G (n7 4 [0, 1, 2, 5, 6, 7, 8] (bt6 p (ss.getD k bU7) pc strict ((G5 hs (by omega)).1))) [(14, iA (N8 p (ss.getD k bU7) pc strict))] fun G => b5 (wp_seq (wp_seq (d8 G c3 [(32, bA (N8 p (ss.getD k bU7) pc strict != 0))] fun G => b5 (rcN G (fun h1 q1 => ?_) fun h1 q1 => ?_)))))))))))
   ·
    refine wp_skip (b5 (wp_seq (z3 G c3 [(3, iA (((m8 p strict (d + 1) pc c (bV3 k ss)).snd : Int) + 1))] [wO (((m8 p strict (d + (1 : Nat)) pc c (bV3 k ss)).snd : Int) + 1)] ⟨(bu1 hc (by omega)), bW1⟩ fun G => b5 (wp_seq (d8 G c3 [(15, iA pc)] fun G => b5 (wp_seq (wp_seq (d8 G c3 [(40, bA ((ss.getD k bU7).kind == 3))] fun G => b5 (I1 G (fun h2 q2 => ?_) fun h2 q2 => ?_)))))))))
    ·
     refine wp_skip (b5 (wp_seq (d8 G (n7 6 [0, 1, 2, 7] (ih ((ss.getD k bU7).body) pc ((m8 p strict (d + 1) pc c (bV3 k ss)).snd + 1) ((G5 hs (by omega)).2.1) (ax5 hc (by omega)))) [(3, iA ((O4 p d strict ss pc c k).snd : Int)), (14, iA (O4 p d strict ss pc c k).fst)] fun G => b5 (wp_seq (wp_seq (d8 G c3 [(58, bA ((O4 p d strict ss pc c k).fst == 0))] fun G => b5 (I1 (u := ((m8 p strict d pc ((m8 p strict (d + (1 : Nat)) pc c (bV3 k ss)).snd + (1 : Nat)) (ss.getD k bU7).body).fst)) (v := (0 : Int)) G (fun h3 q3 => ?_) fun h3 q3 => ?_)))))))
     ·
      refine wp_skip (b5 (wp_seq (e5 G c3 (rg 5) (aq2 p ss []) ((1, .ref 3) :: (2, iA pc) :: (3, iA ((O4 p d strict ss pc c k).snd : Int)) :: (az1 strict k [(14, iA (O4 p d strict ss pc c k).fst), (70, bA ((O4 p d strict ss pc c k).fst != 0))])) fun G => b5 ?_))); cases h4 : ((m8 p strict d pc ((m8 p strict (d + (1 : Nat)) pc c (bV3 k ss)).snd + (1 : Nat)) (ss.getD k bU7).body).fst != 0)
      · have q4 := bne_eq_false_iff_eq.1 h4; exact False.elim (by omega)
      · have q4 := bne_iff_ne.1 h4; refine rT G _ h4 (wp_seq (d8 G c3 [(10, iA (O4 p d strict ss pc c k).fst), (11, iA ((O4 p d strict ss pc c k).snd : Int))] fun G => b5 (wp_ret (m7 (c8 (c8 (m7 (c8 ?_)))))))); exact N7 (.tup [iA (m8 p strict d pc ((m8 p strict (d + 1) pc c (bV3 k ss)).snd + 1) (ss.getD k bU7).body).fst, iA ((m8 p strict d pc ((m8 p strict (d + 1) pc c (bV3 k ss)).snd + 1) (ss.getD k bU7).body).snd : Int)]) G (rg 4) (by have e1 : ((m8 p strict (d + 1) pc c ss).fst : Int) = ((m8 p strict d pc ((m8 p strict (d + 1) pc c (bV3 k ss)).snd + 1) (ss.getD k bU7).body).fst) := (by rw [m8, x7 hp.2 (by omega) (by rw [I5 (by with_reducible assumption) (Q4 (by with_reducible assumption)) (by with_reducible assumption)]; with_reducible assumption), I5 (by with_reducible assumption) (Q4 (by with_reducible assumption)) (by with_reducible assumption)]); have e2 : (((m8 p strict (d + 1) pc c ss).snd : Int) : Int) = (((m8 p strict d pc ((m8 p strict (d + 1) pc c (bV3 k ss)).snd + 1) (ss.getD k bU7).body).snd : Int)) := (by rw [m8, x7 hp.2 (by omega) (by rw [I5 (by with_reducible assumption) (Q4 (by with_reducible assumption)) (by with_reducible assumption)]; with_reducible assumption), I5 (by with_reducible assumption) (Q4 (by with_reducible assumption)) (by with_reducible assumption)]); (first | rw [e1, e2] | simp only [e1, e2]) <;> rfl)
     ·
      refine e5 G (n7 6 [0, 1, 2, 8] (ih ((ss.getD k bU7).els) pc ((O4 p d strict ss pc c k).snd) ((G5 hs (by omega)).2.2) (aD0 hc (by omega)))) (rg 5) (aq2 p ss []) ((1, .ref 3) :: (2, iA pc) :: (3, iA ((m8 p strict d pc (O4 p d strict ss pc c k).snd (ss.getD k bU7).els).snd : Int)) :: (az1 strict k [(14, iA (m8 p strict d pc (O4 p d strict ss pc c k).snd (ss.getD k bU7).els).fst)])) fun G => b5 (wp_seq (d8 G c3 [(70, bA ((m8 p strict d pc (O4 p d strict ss pc c k).snd (ss.getD k bU7).els).fst != 0))] fun G => b5 (rcN (u := ((m8 p strict d pc (m8 p strict d pc ((m8 p strict (d + (1 : Nat)) pc c (bV3 k ss)).snd + (1 : Nat)) (ss.getD k bU7).body).snd (ss.getD k bU7).els).fst)) (v := (0 : Int)) G (fun h5 q5 => ?_) fun h5 q5 => ?_)))
      · refine wp_skip (j0 (b5 (z3 G c3 [(12, iA ((k : Int) + 1))] [wO ((k : Int) + 1)] (o1 (by omega)) fun G => b5 ?_))); exact H9 G (k + 1) (⟨by omega, by rw [m8, N1 hp.2 (by omega), E0 (by with_reducible assumption) (Q4 (by with_reducible assumption)) (by with_reducible assumption)]; with_reducible assumption⟩) (by omega) (rg 5) (ht := by have e1 : (((m8 p strict (d + 1) pc c (bV3 (k + 1) ss)).snd : Int) : Int) = (((m8 p strict d pc (m8 p strict d pc ((m8 p strict (d + 1) pc c (bV3 k ss)).snd + 1) (ss.getD k bU7).body).snd (ss.getD k bU7).els).snd : Int)) := (by rw [m8, N1 hp.2 (by omega), E0 (by with_reducible assumption) (Q4 (by with_reducible assumption)) (by with_reducible assumption)]); (first | rw [e1] | simp only [e1]) <;> rfl)
      · refine wp_seq (d8 G c3 [(10, iA (m8 p strict d pc (O4 p d strict ss pc c k).snd (ss.getD k bU7).els).fst), (11, iA ((m8 p strict d pc (O4 p d strict ss pc c k).snd (ss.getD k bU7).els).snd : Int))] fun G => b5 (wp_ret (m7 (c8 (c8 (m7 (c8 ?_))))))); exact N7 (.tup [iA (m8 p strict d pc (m8 p strict d pc ((m8 p strict (d + 1) pc c (bV3 k ss)).snd + 1) (ss.getD k bU7).body).snd (ss.getD k bU7).els).fst, iA ((m8 p strict d pc (m8 p strict d pc ((m8 p strict (d + 1) pc c (bV3 k ss)).snd + 1) (ss.getD k bU7).body).snd (ss.getD k bU7).els).snd : Int)]) G (rg 4) (by have e1 : ((m8 p strict (d + 1) pc c ss).fst : Int) = ((m8 p strict d pc (m8 p strict d pc ((m8 p strict (d + 1) pc c (bV3 k ss)).snd + 1) (ss.getD k bU7).body).snd (ss.getD k bU7).els).fst) := (by rw [m8, x7 hp.2 (by omega) (by rw [E0 (by with_reducible assumption) (Q4 (by with_reducible assumption)) (by with_reducible assumption)]; with_reducible assumption), E0 (by with_reducible assumption) (Q4 (by with_reducible assumption)) (by with_reducible assumption)]); have e2 : (((m8 p strict (d + 1) pc c ss).snd : Int) : Int) = (((m8 p strict d pc (m8 p strict d pc ((m8 p strict (d + 1) pc c (bV3 k ss)).snd + 1) (ss.getD k bU7).body).snd (ss.getD k bU7).els).snd : Int)) := (by rw [m8, x7 hp.2 (by omega) (by rw [E0 (by with_reducible assumption) (Q4 (by with_reducible assumption)) (by with_reducible assumption)]; with_reducible assumption), E0 (by with_reducible assumption) (Q4 (by with_reducible assumption)) (by with_reducible assumption)]); (first | rw [e1, e2] | simp only [e1, e2]) <;> rfl)
    ·
     refine d8 G (n7 4 [0, 1, 2, 6] (C9 p ((ss.getD k bU7).value) (r8 (G5 hs (by omega)).1 (by omega)))) [(15, iA (f9 pc (i7 p (ss.getD k bU7).value)))] fun G => b5 (wp_seq (d8 G (n7 6 [0, 1, 2, 7] (ih ((ss.getD k bU7).body) (f9 pc (i7 p (ss.getD k bU7).value)) ((m8 p strict (d + 1) pc c (bV3 k ss)).snd + 1) ((G5 hs (by omega)).2.1) (ax5 hc (by omega)))) [(3, iA ((ab7 p d strict ss pc c k).snd : Int)), (14, iA (ab7 p d strict ss pc c k).fst)] fun G => b5 (wp_seq (wp_seq (d8 G c3 [(58, bA ((ab7 p d strict ss pc c k).fst == 0))] fun G => b5 (I1 (u := ((m8 p strict d (f9 pc (i7 p (ss.getD k bU7).value)) ((m8 p strict (d + (1 : Nat)) pc c (bV3 k ss)).snd + (1 : Nat)) (ss.getD k bU7).body).fst)) (v := (0 : Int)) G (fun h6 q6 => ?_) fun h6 q6 => ?_))))))
     ·
      refine wp_skip (b5 (wp_seq (e5 G c3 (rg 5) (aq2 p ss []) ((1, .ref 3) :: (2, iA pc) :: (3, iA ((ab7 p d strict ss pc c k).snd : Int)) :: (az1 strict k [(14, iA (ab7 p d strict ss pc c k).fst), (70, bA ((ab7 p d strict ss pc c k).fst != 0))])) fun G => b5 ?_))); cases h7 : ((m8 p strict d (f9 pc (i7 p (ss.getD k bU7).value)) ((m8 p strict (d + (1 : Nat)) pc c (bV3 k ss)).snd + (1 : Nat)) (ss.getD k bU7).body).fst != 0)
      · have q7 := bne_eq_false_iff_eq.1 h7; exact False.elim (by omega)
      · have q7 := bne_iff_ne.1 h7; refine rT G _ h7 (wp_seq (d8 G c3 [(10, iA (ab7 p d strict ss pc c k).fst), (11, iA ((ab7 p d strict ss pc c k).snd : Int))] fun G => b5 (wp_ret (m7 (c8 (c8 (m7 (c8 ?_)))))))); exact N7 (.tup [iA (m8 p strict d (f9 pc (i7 p (ss.getD k bU7).value)) ((m8 p strict (d + 1) pc c (bV3 k ss)).snd + 1) (ss.getD k bU7).body).fst, iA ((m8 p strict d (f9 pc (i7 p (ss.getD k bU7).value)) ((m8 p strict (d + 1) pc c (bV3 k ss)).snd + 1) (ss.getD k bU7).body).snd : Int)]) G (rg 4) (by have e1 : ((m8 p strict (d + 1) pc c ss).fst : Int) = ((m8 p strict d (f9 pc (i7 p (ss.getD k bU7).value)) ((m8 p strict (d + 1) pc c (bV3 k ss)).snd + 1) (ss.getD k bU7).body).fst) := (by rw [m8, x7 hp.2 (by omega) (by rw [I5 (by with_reducible assumption) (Q5 (by with_reducible assumption)) (by with_reducible assumption)]; with_reducible assumption), I5 (by with_reducible assumption) (Q5 (by with_reducible assumption)) (by with_reducible assumption)]); have e2 : (((m8 p strict (d + 1) pc c ss).snd : Int) : Int) = (((m8 p strict d (f9 pc (i7 p (ss.getD k bU7).value)) ((m8 p strict (d + 1) pc c (bV3 k ss)).snd + 1) (ss.getD k bU7).body).snd : Int)) := (by rw [m8, x7 hp.2 (by omega) (by rw [I5 (by with_reducible assumption) (Q5 (by with_reducible assumption)) (by with_reducible assumption)]; with_reducible assumption), I5 (by with_reducible assumption) (Q5 (by with_reducible assumption)) (by with_reducible assumption)]); (first | rw [e1, e2] | simp only [e1, e2]) <;> rfl)
     ·
      refine e5 G (n7 6 [0, 1, 2, 8] (ih ((ss.getD k bU7).els) (f9 pc (i7 p (ss.getD k bU7).value)) ((ab7 p d strict ss pc c k).snd) ((G5 hs (by omega)).2.2) (aD0 hc (by omega)))) (rg 5) (aq2 p ss []) ((1, .ref 3) :: (2, iA pc) :: (3, iA ((aK0 p d strict ss pc c k).snd : Int)) :: (az1 strict k [(14, iA (aK0 p d strict ss pc c k).fst)])) fun G => b5 (wp_seq (d8 G c3 [(70, bA ((aK0 p d strict ss pc c k).fst != 0))] fun G => b5 (rcN (u := ((m8 p strict d (f9 pc (i7 p (ss.getD k bU7).value)) (m8 p strict d (f9 pc (i7 p (ss.getD k bU7).value)) ((m8 p strict (d + (1 : Nat)) pc c (bV3 k ss)).snd + (1 : Nat)) (ss.getD k bU7).body).snd (ss.getD k bU7).els).fst)) (v := (0 : Int)) G (fun h8 q8 => ?_) fun h8 q8 => ?_)))
      · refine wp_skip (j0 (b5 (z3 G c3 [(12, iA ((k : Int) + 1))] [wO ((k : Int) + 1)] (o1 (by omega)) fun G => b5 ?_))); exact H9 G (k + 1) (⟨by omega, by rw [m8, N1 hp.2 (by omega), E0 (by with_reducible assumption) (Q5 (by with_reducible assumption)) (by with_reducible assumption)]; with_reducible assumption⟩) (by omega) (rg 5) (ht := by have e1 : (((m8 p strict (d + 1) pc c (bV3 (k + 1) ss)).snd : Int) : Int) = (((m8 p strict d (f9 pc (i7 p (ss.getD k bU7).value)) (m8 p strict d (f9 pc (i7 p (ss.getD k bU7).value)) ((m8 p strict (d + 1) pc c (bV3 k ss)).snd + 1) (ss.getD k bU7).body).snd (ss.getD k bU7).els).snd : Int)) := (by rw [m8, N1 hp.2 (by omega), E0 (by with_reducible assumption) (Q5 (by with_reducible assumption)) (by with_reducible assumption)]); (first | rw [e1] | simp only [e1]) <;> rfl)
      · refine wp_seq (d8 G c3 [(10, iA (aK0 p d strict ss pc c k).fst), (11, iA ((aK0 p d strict ss pc c k).snd : Int))] fun G => b5 (wp_ret (m7 (c8 (c8 (m7 (c8 ?_))))))); exact N7 (.tup [iA (m8 p strict d (f9 pc (i7 p (ss.getD k bU7).value)) (m8 p strict d (f9 pc (i7 p (ss.getD k bU7).value)) ((m8 p strict (d + 1) pc c (bV3 k ss)).snd + 1) (ss.getD k bU7).body).snd (ss.getD k bU7).els).fst, iA ((m8 p strict d (f9 pc (i7 p (ss.getD k bU7).value)) (m8 p strict d (f9 pc (i7 p (ss.getD k bU7).value)) ((m8 p strict (d + 1) pc c (bV3 k ss)).snd + 1) (ss.getD k bU7).body).snd (ss.getD k bU7).els).snd : Int)]) G (rg 4) (by have e1 : ((m8 p strict (d + 1) pc c ss).fst : Int) = ((m8 p strict d (f9 pc (i7 p (ss.getD k bU7).value)) (m8 p strict d (f9 pc (i7 p (ss.getD k bU7).value)) ((m8 p strict (d + 1) pc c (bV3 k ss)).snd + 1) (ss.getD k bU7).body).snd (ss.getD k bU7).els).fst) := (by rw [m8, x7 hp.2 (by omega) (by rw [E0 (by with_reducible assumption) (Q5 (by with_reducible assumption)) (by with_reducible assumption)]; with_reducible assumption), E0 (by with_reducible assumption) (Q5 (by with_reducible assumption)) (by with_reducible assumption)]); have e2 : (((m8 p strict (d + 1) pc c ss).snd : Int) : Int) = (((m8 p strict d (f9 pc (i7 p (ss.getD k bU7).value)) (m8 p strict d (f9 pc (i7 p (ss.getD k bU7).value)) ((m8 p strict (d + 1) pc c (bV3 k ss)).snd + 1) (ss.getD k bU7).body).snd (ss.getD k bU7).els).snd : Int)) := (by rw [m8, x7 hp.2 (by omega) (by rw [E0 (by with_reducible assumption) (Q5 (by with_reducible assumption)) (by with_reducible assumption)]; with_reducible assumption), E0 (by with_reducible assumption) (Q5 (by with_reducible assumption)) (by with_reducible assumption)]); (first | rw [e1, e2] | simp only [e1, e2]) <;> rfl)
   · refine wp_seq (d8 G c3 [(10, iA (N8 p (ss.getD k bU7) pc strict)), (11, iA ((m8 p strict (d + 1) pc c (bV3 k ss)).snd : Int))] fun G => b5 (wp_ret (c8 (m7 (c8 (c8 (m7 (c8 ?_)))))))); exact N7 (.tup [iA (N8 p (ss.getD k bU7) pc strict), iA ((m8 p strict (d + 1) pc c (bV3 k ss)).snd : Int)]) G (rg 4) (by have e1 : ((m8 p strict (d + 1) pc c ss).fst : Int) = (N8 p (ss.getD k bU7) pc strict) := (by rw [m8, x7 hp.2 (by omega) (by rw [ao6 (by with_reducible assumption)]; with_reducible assumption), ao6 (by with_reducible assumption)]); have e2 : (((m8 p strict (d + 1) pc c ss).snd : Int) : Int) = (((m8 p strict (d + 1) pc c (bV3 k ss)).snd : Int)) := (by rw [m8, x7 hp.2 (by omega) (by rw [ao6 (by with_reducible assumption)]; with_reducible assumption), ao6 (by with_reducible assumption)]); (first | rw [e1, e2] | simp only [e1, e2]) <;> rfl)
theorem aX3 (p : b8) (strict : Bool) : ∀ (d : Nat) (ss : List b6) (pc : Int) (c : Nat), ss.all (d7 p.vars.length p.arrays.length d) = true → c + L7 ss ≤ 4000000 → d9.ok Tryz.prog (bu0 p d ss pc c strict) := by
 intro d
 induction d with
 | zero =>
  intro ss pc c h hc
  cases ss with
  | nil => exact aX4 p pc c strict
  | cons s r => simp [d7] at h
 | succ d ih => intro ss pc c h hc; exact aX2 p d strict ih ss pc c h hc
theorem ak6 {p : b8} (h : e6 p = true) : p.body.all (d7 p.vars.length p.arrays.length 5) = true ∧ L7 p.body ≤ 60 := by
 simp only [e6, U8, bU8, decide_eq_true_eq] at h
 exact ⟨h.1.2, h.2⟩
theorem bl2 (p : b8) (strict : Bool) (h : e6 p = true) : d9.ok Tryz.prog (C0 83 [pA 0, .ref 2, iA 0, iA 0, bA strict] (pS p) (.tup [iA (m8 p strict 5 0 0 p.body).1, iA (m8 p strict 5 0 0 p.body).2])) :=
 d9.dup (S := pS p) (S' := pS p) (d := .stmts p.body) (i := 2) (aX3 p strict 5 p.body 0 0 (ak6 h).1 (by have := (ak6 h).2; omega)) rfl rfl rfl (fun ρ h => by simp only [AV.vals, AV.val]; rw [show ρ 3 = ρ 2 from h]; rfl) rfl
def J1 (p : b8) (strict : Bool) : Int × Int := if e6 p then (if (m8 p strict 5 0 0 p.body).1 = 0 then (0, -1) else ((m8 p strict 5 0 0 p.body).1, ((m8 p strict 5 0 0 p.body).2 : Int))) else (5, -1)
section
variable {p : b8} {strict : Bool}
theorem bx9 (h : e6 p = false) : J1 p strict = (5, -1) := by rw [J1, h]; rfl
theorem a49 (h : e6 p = true) (h1 : (m8 p strict 5 0 0 p.body).1 = 0) : J1 p strict = (0, -1) := by rw [J1, h, h1]; rfl
theorem bk8 (h : e6 p = true) (h1 : ¬ (m8 p strict 5 0 0 p.body).1 = 0) : J1 p strict = ((m8 p strict 5 0 0 p.body).1, ((m8 p strict 5 0 0 p.body).2 : Int)) := by rw [J1, h, if_neg h1]; rfl
end
theorem a86 (p : b8) (strict : Bool) (hb : c9 p.body ≤ 1048576) : d9.ok Tryz.prog (C0 59 [pA 0, bA strict] (pS p) (.tup [iA (J1 p strict).1, iA (J1 p strict).2])) := by
  refine t8 24 Tryz.func59 [dI p.vars, dI p.arrays, dT p.body] [(0, pA 0), (1, bA strict)] fun G => ?_; refine wp_seq (e5 G c3 (rg 4) [dI p.vars, dI p.arrays, dT p.body, .box (pL 0)] [(1, bA strict), (2, .ptr 3 0), (4, iA 0), (5, iA 0)] fun G => b5 (wp_seq (wp_seq (d8 G (n7 1 [0, 1, 2] (N4 p (by assumption))) [(10, .v (.bool !e6 p))] fun G => b5 ?_)))); cases h0 : (!e6 p)
  ·
   have q0 : (e6 p) = true := (Eq.mp (bV5 _) h0); refine rF G _ h0 (wp_skip (b5 (wp_seq (e5 G (n7 4 [0, 1, 2] (bl2 p strict (by assumption))) [0, 1, 2] [dI p.vars, dI p.arrays, dT p.body] [(4, iA 0), (5, iA 0), (6, iA (m8 p strict 5 0 0 p.body).fst), (7, iA ((m8 p strict 5 0 0 p.body).snd : Int))] fun G => b5 (wp_seq (wp_seq (d8 G c3 [(20, bA ((m8 p strict 5 0 0 p.body).fst == 0))] fun G => b5 (I1 G (fun h1 q1 => ?_) fun h1 q1 => ?_))))))))
   · refine wp_skip (b5 (wp_seq (d8 G c3 [(4, iA (m8 p strict 5 0 0 p.body).fst), (5, iA ((m8 p strict 5 0 0 p.body).snd : Int))] fun G => b5 (wp_ret ?_)))); exact N7 (.tup [iA (m8 p strict 5 0 0 p.body).fst, iA ((m8 p strict 5 0 0 p.body).snd : Int)]) G [0, 1, 2] (by have e1 : ((J1 p strict).fst : Int) = ((m8 p strict 5 0 0 p.body).fst) := (by rw [bk8 (by assumption) (by assumption)]; done); have e2 : ((J1 p strict).snd : Int) = (((m8 p strict 5 0 0 p.body).snd : Int)) := (by rw [bk8 (by assumption) (by assumption)]; done); (first | rw [e1, e2] | simp only [e1, e2]) <;> rfl)
   · refine wp_seq (d8 G c3 [(4, iA (m8 p strict 5 0 0 p.body).fst), (5, iA (-1))] fun G => b5 (wp_ret (c8 ?_))); exact N7 (.tup [iA (m8 p strict 5 0 0 p.body).fst, iA (-1)]) G [0, 1, 2] (by have e1 : ((J1 p strict).fst : Int) = ((m8 p strict 5 0 0 p.body).fst) := ((congrArg Prod.fst (a49 (by assumption) (by assumption))).trans (Eq.symm (by assumption))); have e2 : ((J1 p strict).snd : Int) = (-1) := (by rw [a49 (by assumption) (by assumption)]; done); (first | rw [e1, e2] | simp only [e1, e2]) <;> rfl)
  · have q0 : (e6 p) = false := (Eq.mp (bV2 _) h0); refine rT G _ h0 (wp_seq (d8 G c3 [(4, iA 5), (5, iA (-1))] fun G => b5 (wp_ret (c8 ?_)))); exact N7 (.tup [iA 5, iA (-1)]) G [0, 1, 2] (by have e1 : ((J1 p strict).fst : Int) = (5) := (by rw [bx9 (by assumption)]; done); have e2 : ((J1 p strict).snd : Int) = (-1) := (by rw [bx9 (by assumption)]; done); (first | rw [e1, e2] | simp only [e1, e2]) <;> rfl)
theorem P4 (p : b8) (hb : c9 p.body ≤ 1048576) : d9.ok Tryz.prog (C0 44 [pA 0] (pS p) (.tup [iA (J1 p false).1, iA (J1 p false).2])) := by
 refine t8 8 Tryz.func44 [dI p.vars, dI p.arrays, dT p.body] [(0, pA 0)] fun G => ?_; refine wp_seq (e5 G c3 (rg 4) [dI p.vars, dI p.arrays, dT p.body, .box (pL 0)] [(1, .ptr 3 0), (2, iA 0), (3, iA 0)] fun G => b5 (wp_seq (e5 G (n7 1 [0, 1, 2] (a86 p false (by assumption))) [0, 1, 2] [dI p.vars, dI p.arrays, dT p.body] [(2, iA (J1 p false).fst), (3, iA (J1 p false).snd)] fun G => b5 (wp_ret ?_)))); exact A0 G [0, 1, 2]
section
variable {p : b8} {s : b6} {cx : Int}
end
theorem bA4 : ∀ x : Fin 4, ∀ y : Fin 4, ∃ z : Fin 4, f9 x.val y.val = (z.val : Int) := by decide +kernel
theorem at4 {x y : Int} (hx : c5 x = true) (hy : c5 y = true) : c5 (f9 x y) = true := by
 obtain ⟨a, rfl⟩ := L3 hx
 obtain ⟨b, rfl⟩ := L3 hy
 obtain ⟨c, h⟩ := bA4 a b
 rw [h]
 simp [c5]; omega
theorem aa3 {l : List Int} (h : l.all c5 = true) (i : Nat) : c5 (l.getD i 0) = true := by
 rcases bY0 i l.length with hi | hi
 ·rw [f8 hi]; exact bV4.1 h _ (bW2 hi)
 ·rw [bU9, bW7 hi]; rfl
theorem ah5 {vs ars : List Int} (h1 : vs.all c5 = true) (h2 : ars.all c5 = true) : ∀ (d : Nat) (e : b7), c5 (c6 vs ars d e) = true
 | 0, _ => rfl
 | d + 1, e => by
  rw [c6]
  have key : ∀ (ks : List b7) (a : Int), c5 a = true → c5 (ks.foldl (fun a k => f9 a (c6 vs ars d k)) a) = true := by
   intro ks
   induction ks with
   | nil => intro a ha; exact ha
   | cons x r ih => intro a ha; rw [List.foldl_cons]; exact ih _ (at4 ha (ah5 h1 h2 d x))
  refine key _ _ ?_
  unfold an8
  split
  ·exact aa3 h1 _
  ·split
   ·exact aa3 h2 _
   ·rfl
def bh7 (p : b8) : Bool := p.vars.all c5 && p.arrays.all c5
theorem aU7 {p : b8} (h : e6 p = true) : bh7 p = true := by
 unfold e6 y9 at h
 simp only [bU8] at h
 unfold bh7
 rw [h.1.1.1.1.1.1, h.1.1.1.1.1.2]; rfl
def V5 {α : Type} (f : α → Bool) (l : List α) : Int := match l.findIdx? f with
 | some i => i
 | none => -1
theorem aC3 {α : Type} {f : α → Bool} {l : List α} {k : Nat} {z : α} (hk : k < l.length) (h : (l.take k).any f = false) (hf : f (l.getD k z) = true) : V5 f l = k := by
 have : l.findIdx? f = some k := by
  rw [List.findIdx?_eq_some_iff_getElem]
  rw [f8 hk] at hf
  refine ⟨hk, hf, fun j hj => ?_⟩
  rw [List.any_eq_false] at h
  have hm : l[j] ∈ l.take k := List.mem_take_iff_getElem.2 ⟨j, by omega, rfl⟩
  exact h _ hm
 unfold V5; rw [this]
theorem aw1 {α : Type} {f : α → Bool} {l : List α} (h : l.any f = false) : V5 f l = -1 := by
 have : l.findIdx? f = none := by
  rw [List.findIdx?_eq_none_iff]
  intro x hx
  rw [List.any_eq_false] at h
  simpa using h x hx
 unfold V5; rw [this]
theorem aC4 {α : Type} (f : α → Bool) (l : List α) : decide (V5 f l ≥ 0) = l.any f := by
 cases h : l.any f
 ·rw [aw1 h]; rfl
 ·unfold V5
  cases h2 : l.findIdx? f with
  | none =>
   rw [List.findIdx?_eq_none_iff] at h2
   obtain ⟨x, hx, hf⟩ := List.any_eq_true.1 h
   rw [h2 x hx] at hf; cases hf
  | some i => simp
section
variable {p : b8} {s : b6}
end
section
variable {R : b6 × Int → Int} {c a : Int} {n : Nat} {x : b6 × Int}
end
section
variable {R : b6 × Int → Int} {p : b8} {d : Nat} {cx : Int} {ss : List b6} {c b : Int} {n k : Nat}
end
abbrev C8 : Type := List Int × List Int
def bv (x : Int) : BitVec 64 := BitVec.ofInt 64 x
def ofb (b : BitVec 64) : Int := IntKind.i64.wrap (b.toNat : Int)
theorem bE0 (b : BitVec 64) : bv (ofb b) = b := by
 apply BitVec.eq_of_toNat_eq
 unfold bv ofb
 rw [BitVec.toNat_ofInt]
 have h := b.isLt
 unfold IntKind.wrap
 simp only [IntKind.bits, IntKind.signed, Bool.true_and, decide_eq_true_eq]
 split <;> omega
theorem bq4 (x y : Int) : f9 x y = ofb (bv x ||| bv y) := rfl
theorem bl9 (x y : Int) : bv (f9 x y) = bv x ||| bv y := by rw [bq4, bE0]
def N9 (x y : Int) : Prop := bv x ||| bv y = bv y
theorem N9.refl (x : Int) : N9 x x := BitVec.or_self
theorem N9.trans {x y z : Int} (h : N9 x y) (k : N9 y z) : N9 x z := by
 unfold N9 at *
 rw [← k, ← BitVec.or_assoc, h]
theorem au7 (x y : Int) : N9 x (f9 x y) := by unfold N9; rw [bl9, ← BitVec.or_assoc, BitVec.or_self]
theorem T7 {x y a b : Int} (h : N9 x a) (k : N9 y b) : N9 (f9 x y) (f9 a b) := by
 unfold N9 at *
 rw [bl9, bl9, BitVec.or_assoc, ← BitVec.or_assoc (bv y), BitVec.or_comm (bv y) (bv a), BitVec.or_assoc (bv a), k, ← BitVec.or_assoc, h]
theorem bE1 : ∀ x : Fin 4, ∀ y : Fin 4, bv x.val = bv y.val → x = y := by decide +kernel
theorem bB9 : ∀ x : Fin 4, ∀ y : Fin 4, bv x.val ||| bv y.val = bv y.val → x.val ≤ y.val := by decide +kernel
theorem N9.anti {x y : Int} (h : N9 x y) (k : N9 y x) (hx : c5 x = true) (hy : c5 y = true) : x = y := by
 obtain ⟨a, rfl⟩ := L3 hx
 obtain ⟨b, rfl⟩ := L3 hy
 unfold N9 at *
 rw [BitVec.or_comm, h] at k
 rw [bE1 b a k]
theorem N9.nat {x y : Int} (h : N9 x y) (hx : c5 x = true) (hy : c5 y = true) : x.toNat ≤ y.toNat := by
 obtain ⟨a, rfl⟩ := L3 hx
 obtain ⟨b, rfl⟩ := L3 hy
 have := bB9 a b h
 omega
def leP (q r : C8) : Prop := (∀ i, N9 (q.1.getD i 0) (r.1.getD i 0)) ∧ ∀ i, N9 (q.2.getD i 0) (r.2.getD i 0)
def shP (q r : C8) : Prop := r.1.length = q.1.length ∧ r.2.length = q.2.length
def okP (q : C8) : Prop := q.1.all c5 = true ∧ q.2.all c5 = true
theorem leP.refl (q : C8) : leP q q := ⟨fun _ => N9.refl _, fun _ => N9.refl _⟩
theorem leP.trans {q r s : C8} (h : leP q r) (k : leP r s) : leP q s := ⟨fun i => (h.1 i).trans (k.1 i), fun i => (h.2 i).trans (k.2 i)⟩
theorem shP.refl (q : C8) : shP q q := ⟨rfl, rfl⟩
theorem shP.trans {q r s : C8} (h : shP q r) (k : shP r s) : shP q s := ⟨k.1.trans h.1, k.2.trans h.2⟩
theorem shP.symm {q r : C8} (h : shP q r) : shP r q := ⟨h.1.symm, h.2.symm⟩
theorem aB9 {a b : List Int} (hl : b.length = a.length) (h : ∀ i, N9 (a.getD i 0) (b.getD i 0)) (k : ∀ i, N9 (b.getD i 0) (a.getD i 0)) (ha : a.all c5 = true) (hb : b.all c5 = true) : a = b := by
 apply List.ext_getElem (by omega)
 intro i h1 h2
 have := (h i).anti (k i) (aa3 ha i) (aa3 hb i)
 rw [f8 h1, f8 h2] at this
 exact this
theorem leP.anti {q r : C8} (h : leP q r) (k : leP r q) (hs : shP q r) (hq : okP q) (hr : okP r) : q = r :=
 Prod.ext (aB9 hs.1 h.1 k.1 hq.1 hr.1) (aB9 hs.2 h.2 k.2 hq.2 hr.2)
theorem bf7 {q r : C8} (h : leP q r) (e : b7) : N9 (an8 q.1 q.2 e) (an8 r.1 r.2 e) := by
 unfold an8
 split
 ·exact h.1 _
 ·split
  ·exact h.2 _
  ·exact N9.refl _
theorem Y5 {q r : C8} (h : leP q r) : ∀ (d : Nat) (e : b7), N9 (c6 q.1 q.2 d e) (c6 r.1 r.2 d e)
 | 0, _ => N9.refl _
 | d + 1, e => by
  rw [c6, c6]
  have key : ∀ (ks : List b7) (a b : Int), N9 a b → N9 (ks.foldl (fun a k => f9 a (c6 q.1 q.2 d k)) a) (ks.foldl (fun a k => f9 a (c6 r.1 r.2 d k)) b) := by
   intro ks
   induction ks with
   | nil => intro a b hab; exact hab
   | cons x t ih => intro a b hab; rw [List.foldl_cons, List.foldl_cons]; exact ih _ _ (T7 hab (Y5 h d x))
  exact key _ _ _ (bf7 h e)
def B1 (q : C8) (s : b6) (cx : Int) : C8 :=
 if s.kind = 1 then (q.1.set s.target.toNat (f9 (f9 (q.1.getD s.target.toNat 0) (c6 q.1 q.2 5 s.value)) cx), q.2)
 else if s.kind = 2 then (q.1, q.2.set s.target.toNat (f9 (f9 (f9 (q.2.getD s.target.toNat 0) (c6 q.1 q.2 5 s.value)) (c6 q.1 q.2 5 s.index)) cx))
 else q
def V8 (q : C8) (s : b6) (cx : Int) : Int := if s.kind = 3 then f9 cx (c6 q.1 q.2 5 s.value) else cx
def upS (b : Bool) : Nat → C8 → Int → b6 → C8
 | 0, q, _, _ => q
 | d + 1, q, cx, s => s.els.foldl (fun r t => upS b d r (V8 (if b then s.body.foldl (fun r t => upS b d r (V8 (B1 q s cx) s cx) t) (B1 q s cx) else B1 q s cx) s cx) t) (s.body.foldl (fun r t => upS b d r (V8 (B1 q s cx) s cx) t) (B1 q s cx))
abbrev s3 (b : Bool) (d : Nat) (q : C8) (cx : Int) (ss : List b6) : C8 := ss.foldl (fun r t => upS b d r cx t) q
theorem X0 (b : Bool) (d : Nat) (q : C8) (cx : Int) (s : b6) : upS b (d + 1) q cx s = s3 b d (s3 b d (B1 q s cx) (V8 (B1 q s cx) s cx) s.body) (V8 (if b then s3 b d (B1 q s cx) (V8 (B1 q s cx) s cx) s.body else B1 q s cx) s cx) s.els := by rw [upS]
theorem as8 (l : List Int) (t i : Nat) (x : Int) : (l.set t x).getD i 0 = if t = i ∧ t < l.length then x else l.getD i 0 := by
 simp only [bU9, List.getElem?_set]
 by_cases h : t = i
 ·subst h
  by_cases h2 : t < l.length
  ·simp [h2]
  ·simp [h2]
 ·simp [h]
theorem a16 {l : List Int} {t : Nat} {x : Int} (h : l.all c5 = true) (hx : c5 x = true) : (l.set t x).all c5 = true := by
 rw [bV4] at *
 intro y hy
 rcases List.mem_or_eq_of_mem_set hy with h1 | h1
 ·exact h y h1
 ·rw [h1]; exact hx
theorem aV1 (q : C8) (s : b6) (cx : Int) : shP q (B1 q s cx) := by
 unfold B1
 split
 ·exact ⟨by simp, rfl⟩
 ·split
  ·exact ⟨rfl, by simp⟩
  ·exact shP.refl _
theorem aL9 {l : List Int} {t : Nat} {x : Int} (h : N9 (l.getD t 0) x) (i : Nat) : N9 (l.getD i 0) ((l.set t x).getD i 0) := by
 rw [as8]
 split
 ·rename_i h1; rw [← h1.1]; exact h
 ·exact N9.refl _
theorem aL8 {l m : List Int} {t : Nat} {x y : Int} (hl : m.length = l.length) (h : ∀ i, N9 (l.getD i 0) (m.getD i 0)) (hx : N9 x y) (i : Nat) : N9 ((l.set t x).getD i 0) ((m.set t y).getD i 0) := by
 rw [as8, as8, hl]
 split
 ·exact hx
 ·exact h i
theorem bg0 (q : C8) (s : b6) (cx : Int) : leP q (B1 q s cx) := by
 unfold B1
 split
 ·exact ⟨aL9 ((au7 _ _).trans (au7 _ _)), fun _ => N9.refl _⟩
 ·split
  ·exact ⟨fun _ => N9.refl _, aL9 (((au7 _ _).trans (au7 _ _)).trans (au7 _ _))⟩
  ·exact leP.refl _
theorem bf9 {q r : C8} (h : leP q r) (hs : shP q r) {cx cy : Int} (hc : N9 cx cy) (s : b6) : leP (B1 q s cx) (B1 r s cy) := by
 unfold B1
 split
 ·exact ⟨aL8 hs.1 h.1 (T7 (T7 (h.1 _) (Y5 h 5 _)) hc), h.2⟩
 ·split
  ·exact ⟨h.1, aL8 hs.2 h.2 (T7 (T7 (T7 (h.2 _) (Y5 h 5 _)) (Y5 h 5 _)) hc)⟩
  ·exact h
theorem bA6 {q : C8} (h : okP q) {cx : Int} (hc : c5 cx = true) (s : b6) : okP (B1 q s cx) := by
 unfold B1
 split
 ·exact ⟨a16 h.1 (at4 (at4 (aa3 h.1 _) (ah5 h.1 h.2 5 _)) hc), h.2⟩
 ·split
  ·exact ⟨h.1, a16 h.2 (at4 (at4 (at4 (aa3 h.2 _) (ah5 h.1 h.2 5 _)) (ah5 h.1 h.2 5 _)) hc)⟩
  ·exact h
theorem aO2 {q r : C8} (h : leP q r) {cx cy : Int} (hc : N9 cx cy) (s : b6) : N9 (V8 q s cx) (V8 r s cy) := by
 unfold V8
 split
 ·exact T7 hc (Y5 h 5 _)
 ·exact hc
theorem bi8 {q : C8} (h : okP q) {cx : Int} (hc : c5 cx = true) (s : b6) : c5 (V8 q s cx) = true := by
 unfold V8
 split
 ·exact at4 hc (ah5 h.1 h.2 5 _)
 ·exact hc
theorem aa4 {F : C8 → b6 → C8} (hF : ∀ q s, shP q (F q s)) : ∀ (ss : List b6) (q : C8), shP q (ss.foldl F q)
 | [], q => shP.refl q
 | s :: r, q => (hF q s).trans (aa4 hF r _)
theorem R9 {F : C8 → b6 → C8} (hF : ∀ q s, leP q (F q s)) : ∀ (ss : List b6) (q : C8), leP q (ss.foldl F q)
 | [], q => leP.refl q
 | s :: r, q => (hF q s).trans (R9 hF r _)
theorem ap1 {F : C8 → b6 → C8} (hF : ∀ q s, okP q → okP (F q s)) : ∀ (ss : List b6) (q : C8), okP q → okP (ss.foldl F q)
 | [], _, h => h
 | s :: r, q, h => ap1 hF r _ (hF q s h)
theorem aa5 {F G : C8 → b6 → C8} (hF : ∀ q s, shP q (F q s)) (hG : ∀ q s, shP q (G q s)) (h : ∀ q r s, shP q r → leP q r → leP (F q s) (G r s)) : ∀ (ss : List b6) (q r : C8), shP q r → leP q r → leP (ss.foldl F q) (ss.foldl G r)
 | [], _, _, _, hl => hl
 | s :: t, q, r, hs, hl => aa5 hF hG h t _ _ (((hF q s).symm.trans hs).trans (hG r s)) (h q r s hs hl)
theorem W9 (b : Bool) : ∀ (d : Nat) (cx : Int) (q : C8) (s : b6), shP q (upS b d q cx s)
 | 0, _, q, _ => shP.refl q
 | d + 1, cx, q, s => by
  rw [X0]
  exact ((aV1 q s cx).trans (aa4 (fun q s => W9 b d _ q s) _ _)).trans (aa4 (fun q s => W9 b d _ q s) _ _)
theorem ao4 (b : Bool) : ∀ (d : Nat) (cx : Int) (q : C8) (s : b6), leP q (upS b d q cx s)
 | 0, _, q, _ => leP.refl q
 | d + 1, cx, q, s => by
  rw [X0]
  exact ((bg0 q s cx).trans (R9 (fun q s => ao4 b d _ q s) _ _)).trans (R9 (fun q s => ao4 b d _ q s) _ _)
theorem bc0 (b : Bool) : ∀ (d : Nat) (cx : Int) (q : C8) (s : b6), c5 cx = true → okP q → okP (upS b d q cx s)
 | 0, _, _, _, _, h => h
 | d + 1, cx, q, s, hc, h => by
  rw [X0]
  have h1 := bA6 h hc s
  have h2 : okP (s3 b d (B1 q s cx) (V8 (B1 q s cx) s cx) s.body) := ap1 (fun q t hq => bc0 b d _ q t (bi8 h1 hc s) hq) _ _ h1
  refine ap1 (fun q t hq => bc0 b d _ q t (bi8 ?_ hc s) hq) _ _ h2
  split
  ·exact h2
  ·exact h1
theorem aE5 {b b' : Bool} (hb : b = true → b' = true) : ∀ (d : Nat) (cx cy : Int) (q r : C8) (s : b6), N9 cx cy → shP q r → leP q r → leP (upS b d q cx s) (upS b' d r cy s)
 | 0, _, _, _, _, _, _, _, h => h
 | d + 1, cx, cy, q, r, s, hc, hs, h => by
  rw [X0, X0]
  have h1 := bf9 h hs hc s
  have s1 : shP (B1 q s cx) (B1 r s cy) := ((aV1 q s cx).symm.trans hs).trans (aV1 r s cy)
  have hi := aO2 h1 hc s
  have h2 : leP (s3 b d (B1 q s cx) (V8 (B1 q s cx) s cx) s.body) (s3 b' d (B1 r s cy) (V8 (B1 r s cy) s cy) s.body) := aa5 (fun q t => W9 b d _ q t) (fun q t => W9 b' d _ q t) (fun q r t hs hl => aE5 hb d _ _ q r t hi hs hl) _ _ _ s1 h1
  have s2 : shP (s3 b d (B1 q s cx) (V8 (B1 q s cx) s cx) s.body) (s3 b' d (B1 r s cy) (V8 (B1 r s cy) s cy) s.body) := ((aa4 (fun q t => W9 b d _ q t) _ _).symm.trans s1).trans (aa4 (fun q t => W9 b' d _ q t) _ _)
  refine aa5 (fun q t => W9 b d _ q t) (fun q t => W9 b' d _ q t) (fun q r t hs hl => aE5 hb d _ _ q r t ?_ hs hl) _ _ _ s2 h2
  refine aO2 ?_ hc s
  cases b with
  | true =>
   have e := hb rfl
   subst e
   exact h2
  | false =>
   simp only [Bool.false_eq_true, if_false]
   split
   ·exact h1.trans (R9 (fun q t => ao4 b' d _ q t) _ _)
   ·exact h1
section
variable {b : Bool} {d : Nat} {cx : Int} {q r : C8} {ss : List b6}
theorem ad8 : shP q (s3 b d q cx ss) := aa4 (fun q t => W9 b d _ q t) _ _
theorem ar7 : leP q (s3 b d q cx ss) := R9 (fun q t => ao4 b d _ q t) _ _
theorem bc1 (hc : c5 cx = true) (h : okP q) : okP (s3 b d q cx ss) := ap1 (fun q t hq => bc0 b d _ q t hc hq) _ _ h
end
def aE7 (l : List Int) : Nat := (l.map Int.toNat).sum
def ay2 (q : C8) : Nat := aE7 q.1 + aE7 q.2
theorem aE6 : ∀ {a b : List Int}, b.length = a.length → a.all c5 = true → b.all c5 = true → (∀ i, N9 (a.getD i 0) (b.getD i 0)) → aE7 a ≤ aE7 b ∧ (aE7 a = aE7 b → a = b)
 | [], b, hl, _, _, _ => by rw [bX0 hl]; exact ⟨bV9 _, fun _ => rfl⟩
 | x :: r, [], hl, _, _, _ => by cases hl
 | x :: r, y :: t, hl, ha, hb, h => by
  simp only [List.all_cons, bU8] at ha hb
  have h0 := h 0
  simp at h0
  obtain ⟨k1, k2⟩ := aE6 (a := r) (b := t) (by simpa using hl) ha.2 hb.2 fun i => by have := h (i + 1); simpa using this
  have k3 := h0.nat ha.1 hb.1
  simp only [aE7, bX9, List.sum_cons] at k1 k2 ⊢
  refine ⟨by omega, fun e => ?_⟩
  obtain ⟨a, rfl⟩ := L3 ha.1
  obtain ⟨b, rfl⟩ := L3 hb.1
  rw [k2 (by omega)]
  congr 1
  omega
theorem as2 : ∀ {l : List Int}, l.all c5 = true → aE7 l ≤ 3 * l.length
 | [], _ => bY1 _
 | x :: r, h => by
  simp only [List.all_cons, bU8] at h
  have h1 := as2 h.2
  obtain ⟨a, rfl⟩ := L3 h.1
  simp only [aE7, bX9, List.sum_cons, bV7] at h1 ⊢
  omega
theorem a12 {q r : C8} (hs : shP q r) (hq : okP q) (hr : okP r) (h : leP q r) (hne : ¬ r = q) : ay2 q < ay2 r := by
 obtain ⟨a1, a2⟩ := aE6 hs.1 hq.1 hr.1 h.1
 obtain ⟨b1, b2⟩ := aE6 hs.2 hq.2 hr.2 h.2
 unfold ay2
 refine Nat.lt_of_not_le fun hle => hne (Prod.ext (a2 (by omega)).symm (b2 (by omega)).symm)
theorem aL1 {q : C8} (hq : okP q) : ay2 q ≤ 3 * (q.1.length + q.2.length) := by
 have h1 := as2 hq.1
 have h2 := as2 hq.2
 unfold ay2; omega
def W3 (b : List b6) (p q : C8) : Prop := shP p q ∧ okP q ∧ leP p q ∧ ∀ r, shP p r → okP r → leP p r → s3 true 5 r 0 b = r → leP q r
theorem ae7 {b : List b6} {p : C8} (h : okP p) : W3 b p p := ⟨shP.refl _, h, leP.refl _, fun _ _ _ h _ => h⟩
theorem aa2 {b : List b6} {p q : C8} {f : Bool} (h : W3 b p q) : W3 b p (s3 f 5 q 0 b) :=
 ⟨h.1.trans ad8, bc1 rfl h.2.1, h.2.2.1.trans ar7, fun r h1 h2 h3 h4 => by
  have h5 := h.2.2.2 r h1 h2 h3 h4
  have := aa5 (fun q t => W9 f 5 0 q t) (fun q t => W9 true 5 0 q t) (fun q r t hs hl => aE5 (b := f) (b' := true) (fun _ => rfl) 5 0 0 q r t (N9.refl _) hs hl) b q r (h.1.symm.trans h1) h5
  rw [show b.foldl (fun q t => upS true 5 q 0 t) r = r from h4] at this
  exact this⟩
theorem aO3 {b : List b6} {p q r : C8} (hq : W3 b p q) (hr : W3 b p r) (fq : s3 true 5 q 0 b = q) (fr : s3 true 5 r 0 b = r) : q = r :=
 (hq.2.2.2 r hr.1 hr.2.1 hr.2.2.1 fr).anti (hr.2.2.2 q hq.1 hq.2.1 hq.2.2.1 fq) (hq.1.symm.trans hr.1) hq.2.1 hr.2.1
def ay4 (b : List b6) : Nat → C8 → C8
 | 0, q => q
 | n + 1, q => ay4 b n (s3 true 5 q 0 b)
def ak9 (p : b8) : C8 := ay4 p.body 64 (p.vars, p.arrays)
theorem aO4 {b : List b6} {p : C8} : ∀ (n : Nat) (q : C8), W3 b p q → W3 b p (ay4 b n q)
 | 0, _, h => h
 | n + 1, q, h => aO4 n _ (aa2 h)
theorem aO5 {b : List b6} : ∀ (n : Nat) {q : C8}, s3 true 5 q 0 b = q → ay4 b n q = q
 | 0, _, _ => rfl
 | n + 1, q, h => by rw [ay4, h]; exact aO5 n h
theorem aO6 {b : List b6} {p : C8} : ∀ (n : Nat) (q : C8), W3 b p q → s3 true 5 (ay4 b n q) 0 b = ay4 b n q ∨ ay2 q + n ≤ ay2 (ay4 b n q)
 | 0, _, _ => .inr (bV9 _)
 | n + 1, q, h => by
  rw [ay4]
  by_cases e : s3 true 5 q 0 b = q
  ·left
   rw [e, aO5 n e, e]
  ·have h1 := a12 ad8 h.2.1 (bc1 rfl h.2.1) ar7 e
   rcases aO6 n _ (aa2 (f := true) h) with h2 | h2
   ·exact .inl h2
   ·right; omega
theorem aH5 {p : b8} (h : e6 p = true) : okP (p.vars, p.arrays) := by
 have := aU7 h
 simp only [bh7, bU8] at this
 exact this
theorem av0 {p : b8} (h : e6 p = true) : W3 p.body (p.vars, p.arrays) (ak9 p) := aO4 64 _ (ae7 (aH5 h))
theorem bj0 {p : b8} (h : e6 p = true) (hl : p.vars.length + p.arrays.length ≤ 14) : s3 true 5 (ak9 p) 0 p.body = ak9 p := by
 rcases aO6 (b := p.body) 64 (p.vars, p.arrays) (ae7 (aH5 h)) with h1 | h1
 ·exact h1
 ·have h2 := av0 h
  have h3 := aL1 h2.2.1
  have h4 := h2.1
  have h5 : ay4 p.body 64 (p.vars, p.arrays) = ak9 p := rfl
  rw [h5] at h1
  rw [h4.1, h4.2] at h3
  simp only at h3
  omega
theorem a40 {p : b8} {q : C8} (h : e6 p = true) (hl : p.vars.length + p.arrays.length ≤ 14) (hq : W3 p.body (p.vars, p.arrays) q) (hf : s3 true 5 q 0 p.body = q) : ak9 p = q :=
 aO3 (av0 h) hq (bj0 h hl) hf
theorem a11 {a b : b7} (h : ¬ a = b) : B5 a b = false := by
 cases e : B5 a b
 ·rfl
 ·exact absurd ((C4 a b).1 e) h
section
variable {a b : b7} {k : Nat}
theorem sx1 (h : ¬ a.kind = b.kind) : B5 a b = false := a11 fun e => h (by rw [e])
theorem sx2 (h : ¬ a.value = b.value) : B5 a b = false := a11 fun e => h (by rw [e])
theorem sx3 (h : ¬ (a.kids.length : Int) = b.kids.length) : B5 a b = false := a11 fun e => h (by rw [e])
theorem sx4 (h : B5 (a.kids.getD k bU7) (b.kids.getD k bU7) = false) : B5 a b = false := a11 fun e => by
 subst e
 rw [(C4 _ _).2 rfl] at h; cases h
theorem R2 {α : Type} {l m : List α} {k : Nat} {z : α} (h : l.take k = m.take k) (h1 : k < l.length) (h2 : k < m.length) (e : l.getD k z = m.getD k z) : l.take (k + 1) = m.take (k + 1) := by
 rw [k8 _ _ h1, k8 _ _ h2, h, ← f8 (d := z) h1, ← f8 (d := z) h2, e]
theorem X2 {α : Type} {l m : List α} {k : Nat} (h : l.take k = m.take k) (h1 : l.length ≤ k) (h2 : (l.length : Int) = m.length) : l = m := by
 rw [bV8 h1, bV8 (by omega)] at h
 exact h
theorem sx5 (h1 : a.kind = b.kind) (h2 : a.value = b.value) (h3 : (a.kids.length : Int) = b.kids.length) (h : a.kids.take k = b.kids.take k) (hk : a.kids.length ≤ k) : B5 a b = true := by
 refine (C4 _ _).2 ?_
 rw [← b7.eta a, ← b7.eta b, h1, h2, X2 h hk h3]
end
abbrev sxC (a b : b7) : d9 := C0 108 [eA a 0, eA b 1] [dE a.kids, dE b.kids] (bA (B5 a b))
theorem bp2 (x y : b7) (ih : ∀ (u : b7), u ∈ x.kids → ∀ (v : b7), d9.ok Tryz.prog (sxC u v)) : d9.ok Tryz.prog (sxC x y) := by
  refine t8 46 Tryz.func108 [dE x.kids, dE y.kids] [(0, eA x 0), (1, eA y 1)] fun G => ?_; have hl : x.kids.length ≤ 9223372036854775807 := G.len 0 (d := .exprs x.kids) (by kernel_rfl); refine wp_seq (e5 G c3 [0, 1, 2, 10] [dE x.kids, dE y.kids, .box (eL x 0), .box (eL y 1)] [(2, .ptr 2 0), (3, .ptr 3 0), (4, bA false)] fun G => b5 (wp_seq (wp_seq ?_))); cases h0 : (x.kind != y.kind)
  ·
   have q0 := bne_eq_false_iff_eq.1 h0; cases h1 : (x.value != y.value)
   ·
    have q1 := bne_eq_false_iff_eq.1 h1; refine d8 G (z4 (fc h0 (fc h1 fz)) (us [(6, 10, 0), (1011, 1011, 0), (13, 19, 1), (1020, 1020, 1)])) [(26, bA ((x.kids.length : Int) != (y.kids.length : Int)))] fun G => b5 (rcN G (fun h2 q2 => ?_) fun h2 q2 => ?_)
    ·
     refine wp_skip (b5 (wp_seq (wp_seq (w5 G c3 [(2, .ptr 2 0), (3, .ptr 3 0), (4, bA false), (5, iA 0)] fun G => b5 (wp_block ?_))))); refine l0 (κ := Nat) (fun k => k ≤ x.kids.length ∧ x.kids.take k = y.kids.take k) (fun k => x.kids.length - k) (fun k => [dE x.kids, dE y.kids, .box (eL x 0), .box (eL y 1)]) (fun k => [(2, .ptr 2 0), (3, .ptr 3 0), (4, bA false), (5, iA k)]) 0 (by simp [h0, h1, h2]) (l7.at G _ _) ?_; clear G; intro k ρ a w hp G; refine wp_seq (wp_seq (d8 G c3 [(31, bA (decide ((k : Int) < x.kids.length)))] fun G => b5 (H2 G (fun h3 q3 => ?_) fun h3 q3 => ?_)))
     · refine wp_exit (k6 (k6 (j8 (b5 (wp_seq (e5 G c3 [0, 1] [dE x.kids, dE y.kids] [(4, bA true)] fun G => b5 (wp_ret ?_))))))); exact l9 true G [0, 1] (sx5 (by omega) (by omega) (by omega) hp.2 (by omega))
     ·
      refine wp_skip (b5 (wp_seq (wp_block (wp_seq (R5 G (n7 10 [36, 76] (ih (x.kids.getD k bU7) (av5 (by omega)) (y.kids.getD k bU7))) [0, 1, 0, 7, 15, 0, 32, 0, 224, 480, 1023, 2047] [(45, .v (.bool !B5 (x.kids.getD k bU7) (y.kids.getD k bU7)))] (iX k k x.kids.length (iX k k y.kids.length [])) (iK (by omega) (iK (by omega) bW1)) fun G => b5 ?_))))); cases h4 : (!B5 (x.kids.getD k bU7) (y.kids.getD k bU7))
      · have q4 : (B5 (x.kids.getD k bU7) (y.kids.getD k bU7)) = true := (Eq.mp (bV5 _) h4); refine rF G _ h4 (wp_skip (j0 (b5 (z3 G c3 [(5, iA ((k : Int) + 1))] [wO ((k : Int) + 1)] (o1 (by omega)) fun G => b5 ?_)))); exact H9 G (k + 1) (⟨by omega, R2 hp.2 (by omega) (by omega) ((C4 _ _).1 (by with_reducible assumption))⟩) (by omega) (rg 4)
      · have q4 : (B5 (x.kids.getD k bU7) (y.kids.getD k bU7)) = false := (Eq.mp (bV2 _) h4); refine rT G _ h4 (wp_seq (d8 G c3 [] fun G => b5 (wp_ret (m7 (c8 (c8 (m7 (c8 ?_)))))))); exact l9 false G [0, 1] (sx4 (by with_reducible assumption))
    · refine wp_seq (d8 G c3 [] fun G => b5 (wp_ret (c8 ?_))); exact l9 false G [0, 1] (sx3 (by omega))
   · have q1 := bne_iff_ne.1 h1; refine d8 G (z4 (fc h0 (fc h1 fz)) (us [(6, 10, 0), (1011, 1011, 0), (13, 19, 1), (1020, 1020, 1)])) [(26, bA true)] fun G => b5 (rT G true (by kernel_rfl) (wp_seq (d8 G c3 [] fun G => b5 (wp_ret (c8 ?_))))); exact l9 false G [0, 1] (sx2 (by omega))
  · have q0 := bne_iff_ne.1 h0; refine d8 G (z4 (fc h0 (fc (b := true) rfl fz)) (us [(6, 10, 0), (1011, 1011, 0), (13, 19, 1), (1020, 1020, 1)])) [(26, bA true)] fun G => b5 (rT G true (by kernel_rfl) (wp_seq (d8 G c3 [] fun G => b5 (wp_ret (c8 ?_))))); exact l9 false G [0, 1] (sx1 (by omega))
theorem U7 (x : b7) : ∀ (y : b7), d9.ok Tryz.prog (sxC x y) :=
 b7.ind (P := fun x => ∀ (y : b7), d9.ok Tryz.prog (sxC x y)) (fun k n ks ih y => bp2 ⟨k, n, ks⟩ y fun u hu => ih u hu) x
theorem J2 (xs ys : List Int) : d9.ok Tryz.prog (C0 39 [.ref 0, .ref 1] [dI xs, dI ys] (bA (decide (xs = ys)))) := by
  refine t8 26 Tryz.func39 [dI xs, dI ys] [(0, .ref 0), (1, .ref 1)] fun G => ?_; have hl : xs.length ≤ 9223372036854775807 := G.len 0 (d := .ints xs) (by kernel_rfl); refine wp_seq (w5 G c3 [(0, .ref 0), (1, .ref 1), (4, bA false)] fun G => b5 (wp_seq (wp_seq (d8 G c3 [(10, bA ((xs.length : Int) != (ys.length : Int)))] fun G => b5 (rcN G (fun h0 q0 => ?_) fun h0 q0 => ?_)))))
  ·
   refine wp_skip (b5 (wp_seq (wp_seq (w5 G c3 [(0, .ref 0), (1, .ref 1), (4, bA false), (5, iA 0)] fun G => b5 (wp_block ?_))))); refine l0 (κ := Nat) (fun k => k ≤ xs.length ∧ xs.take k = ys.take k) (fun k => xs.length - k) (fun k => [dI xs, dI ys]) (fun k => [(0, .ref 0), (1, .ref 1), (4, bA false), (5, iA k)]) 0 (by simp [h0]) (l7.at G _ _) ?_; clear G; intro k ρ a w hp G; refine wp_seq (wp_seq (d8 G c3 [(14, bA (decide ((k : Int) < xs.length)))] fun G => b5 (H2 G (fun h1 q1 => ?_) fun h1 q1 => ?_)))
   · refine wp_exit (k6 (k6 (j8 (b5 (wp_seq (d8 G c3 [(4, bA true)] fun G => b5 (wp_ret ?_))))))); exact l9 true G [0, 1] (decide_eq_true (X2 hp.2 (by omega) (by omega)))
   ·
    refine wp_skip (b5 (wp_seq (wp_block (wp_seq (R5 G c3 [0, 0, 3, 7, 0, 0, 48, 112, 255] [(25, bA (xs.getD k 0 != ys.getD k 0))] (iX k k xs.length (iX k k ys.length [])) (iK (by omega) (iK (by omega) bW1)) fun G => b5 (rcN G (fun h2 q2 => ?_) fun h2 q2 => ?_))))))
    · refine wp_skip (j0 (b5 (z3 G c3 [(5, iA ((k : Int) + 1))] [wO ((k : Int) + 1)] (o1 (by omega)) fun G => b5 ?_))); exact H9 G (k + 1) (⟨by omega, R2 hp.2 (by omega) (by omega) (by omega)⟩) (by omega) [0, 1]
    · refine wp_seq (d8 G c3 [] fun G => b5 (wp_ret (m7 (c8 (c8 (m7 (c8 ?_))))))); exact l9 false G [0, 1] (by exact decide_eq_false fun e => by subst e; omega)
  · refine wp_seq (d8 G c3 [] fun G => b5 (wp_ret (c8 ?_))); exact l9 false G [0, 1] (by exact decide_eq_false fun e => by subst e; omega)
theorem as5 {s t : b6} (h : ¬ s = t) : F4 s t = false := by
 cases e : F4 s t
 ·rfl
 ·exact absurd ((X8 s t).1 e) h
theorem bw2 {l m : List b6} (h : ¬ l = m) : p8 l m = false := by
 cases e : p8 l m
 ·rfl
 ·exact absurd ((A4 l m).1 e) h
section
variable {s t : b6} {l m : List b6} {k : Nat}
theorem sr1 (h : ¬ s.kind = t.kind) : F4 s t = false := as5 fun e => h (by rw [e])
theorem sr2 (h : ¬ s.target = t.target) : F4 s t = false := as5 fun e => h (by rw [e])
theorem sr3 (h : ¬ s.count = t.count) : F4 s t = false := as5 fun e => h (by rw [e])
theorem sr4 (h : B5 s.index t.index = false) : F4 s t = false := as5 fun e => by subst e; rw [(C4 _ _).2 rfl] at h; cases h
theorem sr5 (h : B5 s.value t.value = false) : F4 s t = false := as5 fun e => by subst e; rw [(C4 _ _).2 rfl] at h; cases h
theorem sr6 (h : p8 s.body t.body = false) : F4 s t = false := as5 fun e => by subst e; rw [(A4 _ _).2 rfl] at h; cases h
theorem sr7 (h : p8 s.els t.els = false) : F4 s t = false := as5 fun e => by subst e; rw [(A4 _ _).2 rfl] at h; cases h
theorem sr8 (h1 : s.kind = t.kind) (h2 : s.target = t.target) (h3 : s.count = t.count) (h4 : B5 s.index t.index = true) (h5 : B5 s.value t.value = true) (h6 : p8 s.body t.body = true) : F4 s t = p8 s.els t.els := by
 cases e : p8 s.els t.els
 ·exact sr7 e
 ·refine (X8 _ _).2 ?_
  rw [← b6.eta s, ← b6.eta t, h1, h2, h3, (C4 _ _).1 h4, (C4 _ _).1 h5, (A4 _ _).1 h6, (A4 _ _).1 e]
theorem sb1 (h : ¬ (l.length : Int) = m.length) : p8 l m = false := bw2 fun e => h (by rw [e])
theorem sb2 (h : F4 (l.getD k bU7) (m.getD k bU7) = false) : p8 l m = false := bw2 fun e => by
 subst e
 rw [(X8 _ _).2 rfl] at h; cases h
theorem sb3 (h3 : (l.length : Int) = m.length) (h : l.take k = m.take k) (hk : l.length ≤ k) : p8 l m = true := (A4 _ _).2 (X2 h hk h3)
end
abbrev sbC (l m : List b6) : d9 := C0 93 [.ref 0, .ref 1] [dT l, dT m] (bA (p8 l m))
abbrev ssC (s t : b6) : d9 := C0 101 [sA s 0, sA t 4] (sS s ++ sS t) (bA (F4 s t))
abbrev af5 (s : b6) (t : b6) (r0 : List It) : List It := dE s.index.kids :: dE s.value.kids :: dT s.body :: dT s.els :: dE t.index.kids :: dE t.value.kids :: dT t.body :: dT t.els :: r0
theorem bp3 (s t : b6) (ih1 : ∀ (m : List b6), d9.ok Tryz.prog (sbC s.body m)) (ih2 : ∀ (m : List b6), d9.ok Tryz.prog (sbC s.els m)) : d9.ok Tryz.prog (ssC s t) := by
  refine t8 52 Tryz.func101 (af5 s t []) [(0, sA s 0), (1, sA t 4)] fun G => ?_; refine wp_seq (e5 G c3 [0, 1, 2, 3, 4, 5, 6, 7, 8, 16] (af5 s t [.box (sL s 0), .box (sL t 4)]) [(2, .ptr 8 0), (3, .ptr 9 0), (4, bA false)] fun G => b5 (wp_seq ?_)); cases h0 : (s.kind == t.kind)
  · have q0 := ne_of_beq_false h0; refine e5 G (z4 (fc h0 (fc (b := false) rfl fz)) (us [(6, 10, 0), (1011, 1011, 0), (13, 17, 1), (1018, 1018, 1), (20, 24, 1), (1025, 1025, 1), (27, 31, 1), (1032, 1032, 1), (34, 38, 1), (1039, 1039, 1), (41, 45, 1), (1046, 1046, 1)])) (rg 8) (af5 s t []) [(4, bA false)] fun G => b5 (wp_ret ?_); exact l9 false G (rg 8) (sr1 (by omega))
  ·
   have q0 := eq_of_beq h0; cases h1 : (s.target == t.target)
   · have q1 := ne_of_beq_false h1; refine e5 G (z4 (fc h0 (fc h1 (fc (b := false) rfl fz))) (us [(6, 10, 0), (1011, 1011, 0), (13, 17, 1), (1018, 1018, 1), (20, 24, 2), (1025, 1025, 2), (27, 31, 2), (1032, 1032, 2), (34, 38, 2), (1039, 1039, 2), (41, 45, 2), (1046, 1046, 2)])) (rg 8) (af5 s t []) [(4, bA false)] fun G => b5 (wp_ret ?_); exact l9 false G (rg 8) (sr2 (by omega))
   ·
    have q1 := eq_of_beq h1; cases h2 : (s.count == t.count)
    · have q2 := ne_of_beq_false h2; refine e5 G (z4 (fc h0 (fc h1 (fc h2 (fc (b := false) rfl fz)))) (us [(6, 10, 0), (1011, 1011, 0), (13, 17, 1), (1018, 1018, 1), (20, 24, 2), (1025, 1025, 2), (27, 31, 3), (1032, 1032, 3), (34, 38, 3), (1039, 1039, 3), (41, 45, 3), (1046, 1046, 3)])) (rg 8) (af5 s t []) [(4, bA false)] fun G => b5 (wp_ret ?_); exact l9 false G (rg 8) (sr3 (by omega))
    ·
     have q2 := eq_of_beq h2; cases h3 : (B5 s.index t.index)
     · refine e5 G (m5 (f6 24 [0, 4] (U7 s.index t.index) m0) (fc h0 (fc h1 (fc h2 (fc h3 (fc (b := false) rfl fz))))) (us [(6, 10, 0), (1011, 1011, 0), (13, 17, 1), (1018, 1018, 1), (20, 24, 2), (1025, 1025, 2), (27, 31, 3), (1032, 1032, 3), (34, 38, 4), (1039, 1039, 4), (41, 45, 4), (1046, 1046, 4)])) (rg 8) (af5 s t []) [(4, bA false)] fun G => b5 (wp_ret ?_); exact l9 false G (rg 8) (sr4 (by with_reducible assumption))
     ·
      cases h4 : (B5 s.value t.value)
      · refine e5 G (m5 (f6 24 [0, 4] (U7 s.index t.index) (f6 31 [1, 5] (U7 s.value t.value) m0)) (fc h0 (fc h1 (fc h2 (fc h3 (fc h4 (fc (b := false) rfl fz)))))) (us [(6, 10, 0), (1011, 1011, 0), (13, 17, 1), (1018, 1018, 1), (20, 24, 2), (1025, 1025, 2), (27, 31, 3), (1032, 1032, 3), (34, 38, 4), (1039, 1039, 4), (41, 45, 5), (1046, 1046, 5)])) (rg 8) (af5 s t []) [(4, bA false)] fun G => b5 (wp_ret ?_); exact l9 false G (rg 8) (sr5 (by with_reducible assumption))
      ·
       cases h5 : (p8 s.body t.body)
       · refine e5 G (m5 (f6 24 [0, 4] (U7 s.index t.index) (f6 31 [1, 5] (U7 s.value t.value) (f6 38 [2, 6] (ih1 t.body) m0))) (fc h0 (fc h1 (fc h2 (fc h3 (fc h4 (fc h5 fz)))))) (us [(6, 10, 0), (1011, 1011, 0), (13, 17, 1), (1018, 1018, 1), (20, 24, 2), (1025, 1025, 2), (27, 31, 3), (1032, 1032, 3), (34, 38, 4), (1039, 1039, 4), (41, 45, 5), (1046, 1046, 5)])) (rg 8) (af5 s t []) [(4, bA false)] fun G => b5 (wp_ret ?_); exact l9 false G (rg 8) (sr6 (by with_reducible assumption))
       · refine e5 G (m5 (f6 24 [0, 4] (U7 s.index t.index) (f6 31 [1, 5] (U7 s.value t.value) (f6 38 [2, 6] (ih1 t.body) (f6 45 [3, 7] (ih2 t.els) m0)))) (fc h0 (fc h1 (fc h2 (fc h3 (fc h4 (fc h5 fz)))))) (us [(6, 10, 0), (1011, 1011, 0), (13, 17, 1), (1018, 1018, 1), (20, 24, 2), (1025, 1025, 2), (27, 31, 3), (1032, 1032, 3), (34, 38, 4), (1039, 1039, 4), (41, 45, 5), (1046, 1046, 5)])) (rg 8) (af5 s t []) [(4, bA (p8 s.els t.els))] fun G => b5 (wp_ret ?_); exact l9 (p8 s.els t.els) G (rg 8) (sr8 (by omega) (by omega) (by omega) (by with_reducible assumption) (by with_reducible assumption) (by with_reducible assumption))
theorem aF5 (l m : List b6) (ih : ∀ (s : b6), s ∈ l → ∀ (t : b6), d9.ok Tryz.prog (ssC s t)) : d9.ok Tryz.prog (sbC l m) := by
  refine t8 27 Tryz.func93 [dT l, dT m] [(0, .ref 0), (1, .ref 1)] fun G => ?_; have hl : l.length ≤ 9223372036854775807 := G.len 0 (d := .stmts l) (by kernel_rfl); refine wp_seq (w5 G c3 [(0, .ref 0), (1, .ref 1), (4, bA false)] fun G => b5 (wp_seq (wp_seq (d8 G c3 [(10, bA ((l.length : Int) != (m.length : Int)))] fun G => b5 (rcN G (fun h0 q0 => ?_) fun h0 q0 => ?_)))))
  ·
   refine wp_skip (b5 (wp_seq (wp_seq (w5 G c3 [(0, .ref 0), (1, .ref 1), (4, bA false), (5, iA 0)] fun G => b5 (wp_block ?_))))); refine l0 (κ := Nat) (fun k => k ≤ l.length ∧ l.take k = m.take k) (fun k => l.length - k) (fun k => [dT l, dT m]) (fun k => [(0, .ref 0), (1, .ref 1), (4, bA false), (5, iA k)]) 0 (by simp [h0]) (l7.at G _ _) ?_; clear G; intro k ρ a w hp G; refine wp_seq (wp_seq (d8 G c3 [(14, bA (decide ((k : Int) < l.length)))] fun G => b5 (H2 G (fun h1 q1 => ?_) fun h1 q1 => ?_)))
   · refine wp_exit (k6 (k6 (j8 (b5 (wp_seq (d8 G c3 [(4, bA true)] fun G => b5 (wp_ret ?_))))))); exact l9 true G [0, 1] (sb3 (by omega) hp.2 (by omega))
   ·
    refine wp_skip (b5 (wp_seq (wp_block (wp_seq (R5 G (n7 8 [26, 27, 28, 29, 58, 59, 60, 61] (ih (l.getD k bU7) (ah7 (by omega)) (m.getD k bU7))) [0, 0, 3, 7, 0, 0, 48, 112, 255, 511] [(26, .v (.bool !F4 (l.getD k bU7) (m.getD k bU7)))] (iX k k l.length (iX k k m.length [])) (iK (by omega) (iK (by omega) bW1)) fun G => b5 ?_))))); cases h2 : (!F4 (l.getD k bU7) (m.getD k bU7))
    · have q2 : (F4 (l.getD k bU7) (m.getD k bU7)) = true := (Eq.mp (bV5 _) h2); refine rF G _ h2 (wp_skip (j0 (b5 (z3 G c3 [(5, iA ((k : Int) + 1))] [wO ((k : Int) + 1)] (o1 (by omega)) fun G => b5 ?_)))); exact H9 G (k + 1) (⟨by omega, R2 hp.2 (by omega) (by omega) ((X8 _ _).1 (by with_reducible assumption))⟩) (by omega) [0, 1]
    · have q2 : (F4 (l.getD k bU7) (m.getD k bU7)) = false := (Eq.mp (bV2 _) h2); refine rT G _ h2 (wp_seq (d8 G c3 [] fun G => b5 (wp_ret (m7 (c8 (c8 (m7 (c8 ?_)))))))); exact l9 false G [0, 1] (sb2 (by with_reducible assumption))
  · refine wp_seq (d8 G c3 [] fun G => b5 (wp_ret (c8 ?_))); exact l9 false G [0, 1] (sb1 (by omega))
theorem bz8 (s : b6) : ∀ (t : b6), d9.ok Tryz.prog (ssC s t) :=
 b6.ind (P := fun s => ∀ (t : b6), d9.ok Tryz.prog (ssC s t)) (fun k t i v c b e h1 h2 u => bp3 ⟨k, t, i, v, c, b, e⟩ u (fun m => aF5 b m fun s hs => h1 s hs) fun m => aF5 e m fun s hs => h2 s hs) s
theorem bt5 (l m : List b6) : d9.ok Tryz.prog (sbC l m) := aF5 l m fun s _ => bz8 s
theorem ay8 (xs xt : List Int) (l : List b6) (ys yt : List Int) (m : List b6) : d9.ok Tryz.prog (C0 82 [pA 0, pA 3] [dI xs, dI xt, dT l, dI ys, dI yt, dT m] (bA (decide (xs = ys) && (decide (xt = yt) && p8 l m)))) := by
  refine t8 24 Tryz.func82 [dI xs, dI xt, dT l, dI ys, dI yt, dT m] [(0, pA 0), (1, pA 3)] fun G => ?_; refine wp_seq (e5 G c3 [0, 1, 2, 3, 4, 5, 6, 14] [dI xs, dI xt, dT l, dI ys, dI yt, dT m, .box (pL 0), .box (pL 3)] [(2, .ptr 6 0), (3, .ptr 7 0), (4, bA false)] fun G => b5 (wp_seq ?_)); cases h0 : (decide (xs = ys))
  · have q0 := P3 h0; refine e5 G (m5 (f6 4 [0, 3] (J2 xs ys) m0) (fc h0 (fc (b := false) rfl fz)) (us [(6, 10, 0), (1011, 1011, 0), (13, 17, 1), (1018, 1018, 1)])) (rg 6) [dI xs, dI xt, dT l, dI ys, dI yt, dT m] [(4, bA false)] fun G => b5 (wp_ret ?_); exact A0 G (rg 6)
  ·
   have q0 := P2 h0; cases h1 : (decide (xt = yt))
   · have q1 := P3 h1; refine e5 G (m5 (f6 4 [0, 3] (J2 xs ys) (f6 10 [1, 4] (J2 xt yt) m0)) (fc h0 (fc h1 fz)) (us [(6, 10, 0), (1011, 1011, 0), (13, 17, 1), (1018, 1018, 1)])) (rg 6) [dI xs, dI xt, dT l, dI ys, dI yt, dT m] [(4, bA false)] fun G => b5 (wp_ret ?_); exact A0 G (rg 6)
   · have q1 := P2 h1; refine e5 G (m5 (f6 4 [0, 3] (J2 xs ys) (f6 10 [1, 4] (J2 xt yt) (f6 17 [2, 5] (bt5 l m) m0))) (fc h0 (fc h1 fz)) (us [(6, 10, 0), (1011, 1011, 0), (13, 17, 1), (1018, 1018, 1)])) (rg 6) [dI xs, dI xt, dT l, dI ys, dI yt, dT m] [(4, bA (p8 l m))] fun G => b5 (wp_ret ?_); exact A0 G (rg 6)
theorem N2 (vs ars : List Int) (b : List b6) (e : b7) (he : c4 vs.length ars.length 5 e = true) : d9.ok Tryz.prog (C0 68 [pA 0, eA e 3] ([dI vs, dI ars, dT b] ++ eS e) (iA (c6 vs ars 5 e))) := C9 ⟨vs, ars, b⟩ e he
theorem S5 (vs ars : List Int) (b : List b6) (hb : vs.length + ars.length + c9 b ≤ 1048576) : d9.ok Tryz.prog ⟨45, [pA 0], [dI vs, dI ars, dT b], [dI vs, dI ars, dT b, .row 3 (.ints vs), .row 3 (.ints ars), .tree (.stmts b)], oA 3⟩ := bl5 ⟨vs, ars, b⟩ hb
theorem aI8 (vs ars : List Int) (b : List b6) (hb : c9 b ≤ 1048576) : d9.ok Tryz.prog (C0 44 [pA 0] [dI vs, dI ars, dT b] (.tup [iA (J1 ⟨vs, ars, b⟩ false).1, iA (J1 ⟨vs, ars, b⟩ false).2])) := P4 ⟨vs, ars, b⟩ hb
section
variable {vs ars : List Int} {cx : Int} {s : b6} {d : Nat} {b : Bool}
theorem on1 (k : s.kind = 1) : B1 (vs, ars) s cx = (vs.set s.target.toNat (f9 (f9 (vs.getD s.target.toNat 0) (c6 vs ars 5 s.value)) cx), ars) := if_pos k
theorem on2 (k : s.kind = 2) : B1 (vs, ars) s cx = (vs, ars.set s.target.toNat (f9 (f9 (f9 (ars.getD s.target.toNat 0) (c6 vs ars 5 s.value)) (c6 vs ars 5 s.index)) cx)) := by unfold B1; rw [if_neg (by omega), if_pos k]
theorem on0 {q : C8} (k1 : ¬ s.kind = 1) (k2 : ¬ s.kind = 2) : B1 q s cx = q := by unfold B1; rw [if_neg k1, if_neg k2]
theorem up1 {q : C8} (h1 : s.body = []) (h2 : s.els = []) : upS b (d + 1) q cx s = B1 q s cx := by rw [X0, h1, h2]; rfl
theorem up3 {q : C8} (k : s.kind = 3) : upS true (d + 1) q cx s = s3 true d (s3 true d q (f9 cx (c6 q.1 q.2 5 s.value)) s.body) (f9 cx (c6 (s3 true d q (f9 cx (c6 q.1 q.2 5 s.value)) s.body).1 (s3 true d q (f9 cx (c6 q.1 q.2 5 s.value)) s.body).2 5 s.value)) s.els := by
 rw [X0, on0 (by omega) (by omega)]
 unfold V8
 simp only [if_pos k, if_true]
theorem up4 {q : C8} (k : s.kind = 4) (h2 : s.els = []) : upS b (d + 1) q cx s = s3 b d q cx s.body := by
 rw [X0, on0 (by omega) (by omega), h2]
 unfold V8
 simp only [if_neg (show ¬ s.kind = 3 by omega)]
 rfl
theorem X1 {q : C8} {ss : List b6} {k : Nat} (hk : k < ss.length) : s3 b d q cx (ss.take (k + 1)) = upS b d (s3 b d q cx (ss.take k)) cx (ss.getD k bU7) := by
 unfold s3
 rw [k8 _ _ hk, List.foldl_append, f8 hk]; rfl
theorem ao5 {nv na d k : Nat} {ss : List b6} (hs : ss.all (d7 nv na (d + 1)) = true) (hk : k < ss.length) (k3 : ¬ (ss.getD k bU7).kind = 3) : (ss.getD k bU7).els = [] ∧ (¬ (ss.getD k bU7).kind = 4 → (ss.getD k bU7).body = []) := by
 have h0 := bV4.1 hs _ (bW2 hk)
 rw [← f8 (d := bU7) hk] at h0
 rw [d7, bU8] at h0
 have h1 := h0.1
 unfold j6 at h1
 by_cases k4 : (ss.getD k bU7).kind = 4
 ·rw [if_pos (.inr k4), if_pos k4] at h1
  simp only [bU8, decide_eq_true_eq] at h1
  exact ⟨bX0 h1.2.1.1.1.1, fun h => absurd k4 h⟩
 ·rw [if_neg (by omega)] at h1
  simp only [bU8, decide_eq_true_eq] at h1
  exact ⟨bX0 h1.1.1.2, fun _ => bX0 h1.1.1.1⟩
section
variable {nv na d k : Nat} {ss : List b6} {q : C8} {cx : Int}
theorem rn1 (hs : ss.all (d7 nv na (d + 1)) = true) (hk : k < ss.length) (k1 : (ss.getD k bU7).kind = 1) : s3 true (d + 1) q cx (ss.take (k + 1)) = ((s3 true (d + 1) q cx (ss.take k)).1.set (ss.getD k bU7).target.toNat (f9 (f9 ((s3 true (d + 1) q cx (ss.take k)).1.getD (ss.getD k bU7).target.toNat 0) (c6 (s3 true (d + 1) q cx (ss.take k)).1 (s3 true (d + 1) q cx (ss.take k)).2 5 (ss.getD k bU7).value)) cx), (s3 true (d + 1) q cx (ss.take k)).2) := by
 have h1 := ao5 hs hk (by omega)
 rw [X1 hk, up1 (h1.2 (by omega)) h1.1]
 exact on1 k1
theorem rn2 (hs : ss.all (d7 nv na (d + 1)) = true) (hk : k < ss.length) (k2 : (ss.getD k bU7).kind = 2) : s3 true (d + 1) q cx (ss.take (k + 1)) = ((s3 true (d + 1) q cx (ss.take k)).1, (s3 true (d + 1) q cx (ss.take k)).2.set (ss.getD k bU7).target.toNat (f9 (f9 (f9 ((s3 true (d + 1) q cx (ss.take k)).2.getD (ss.getD k bU7).target.toNat 0) (c6 (s3 true (d + 1) q cx (ss.take k)).1 (s3 true (d + 1) q cx (ss.take k)).2 5 (ss.getD k bU7).value)) (c6 (s3 true (d + 1) q cx (ss.take k)).1 (s3 true (d + 1) q cx (ss.take k)).2 5 (ss.getD k bU7).index)) cx)) := by
 have h1 := ao5 hs hk (by omega)
 rw [X1 hk, up1 (h1.2 (by omega)) h1.1]
 exact on2 k2
theorem rn3 (hk : k < ss.length) (k3 : (ss.getD k bU7).kind = 3) : s3 true (d + 1) q cx (ss.take (k + 1)) = s3 true d (s3 true d (s3 true (d + 1) q cx (ss.take k)) (f9 cx (c6 (s3 true (d + 1) q cx (ss.take k)).1 (s3 true (d + 1) q cx (ss.take k)).2 5 (ss.getD k bU7).value)) (ss.getD k bU7).body) (f9 cx (c6 (s3 true d (s3 true (d + 1) q cx (ss.take k)) (f9 cx (c6 (s3 true (d + 1) q cx (ss.take k)).1 (s3 true (d + 1) q cx (ss.take k)).2 5 (ss.getD k bU7).value)) (ss.getD k bU7).body).1 (s3 true d (s3 true (d + 1) q cx (ss.take k)) (f9 cx (c6 (s3 true (d + 1) q cx (ss.take k)).1 (s3 true (d + 1) q cx (ss.take k)).2 5 (ss.getD k bU7).value)) (ss.getD k bU7).body).2 5 (ss.getD k bU7).value)) (ss.getD k bU7).els := by
 rw [X1 hk, up3 k3]
theorem rn4 (hs : ss.all (d7 nv na (d + 1)) = true) (hk : k < ss.length) (k4 : (ss.getD k bU7).kind = 4) : s3 true (d + 1) q cx (ss.take (k + 1)) = s3 true d (s3 true (d + 1) q cx (ss.take k)) cx (ss.getD k bU7).body := by
 rw [X1 hk, up4 k4 (ao5 hs hk (by omega)).1]
theorem rn0 (hs : ss.all (d7 nv na (d + 1)) = true) (hk : k < ss.length) (k1 : ¬ (ss.getD k bU7).kind = 1) (k2 : ¬ (ss.getD k bU7).kind = 2) (k3 : ¬ (ss.getD k bU7).kind = 3) (k4 : ¬ (ss.getD k bU7).kind = 4) : s3 true (d + 1) q cx (ss.take (k + 1)) = s3 true (d + 1) q cx (ss.take k) := by
 have h1 := ao5 hs hk k3
 rw [X1 hk, up1 (h1.2 k4) h1.1, on0 k1 k2]
theorem be8 (hk : ss.length ≤ k) : s3 true (d + 1) q cx ss = s3 true (d + 1) q cx (ss.take k) := by rw [bV8 hk]
theorem aF0 {q r : C8} {s : b6} (h : shP q r) (hv : q.1.length = nv) (ha : q.2.length = na) (hh : s8 nv na s = true) (k : ¬ s.kind = 4) : c4 r.1.length r.2.length 5 s.value = true := by rw [h.1, h.2, hv, ha]; exact r8 hh k
theorem bz5 {q r : C8} {s : b6} (h : shP q r) (hv : q.1.length = nv) (ha : q.2.length = na) (hh : s8 nv na s = true) (k : s.kind = 2) : c4 r.1.length r.2.length 5 s.index = true := by rw [h.1, h.2, hv, ha]; exact av3 hh k
end
end
abbrev raC (vs ars : List Int) (d : Nat) (bd ss : List b6) (cx : Int) : d9 := ⟨81, [pA 0, .ref 3, iA cx], [.row 3 (.ints vs), .row 3 (.ints ars), dT bd, dT ss], [.row 3 (.ints (s3 true d (vs, ars) cx ss).1), .row 3 (.ints (s3 true d (vs, ars) cx ss).2), dT bd, dT ss], .tup []⟩
abbrev W6 (d : Nat) (ss : List b6) (vs : List Int) (ars : List Int) (cx : Int) (k : Nat) := s3 true d (s3 true (d + 1) (vs, ars) cx (bV3 k ss)) (f9 cx (c6 (s3 true (d + 1) (vs, ars) cx (bV3 k ss)).fst (s3 true (d + 1) (vs, ars) cx (bV3 k ss)).snd 5 (ss.getD k bU7).value)) (ss.getD k bU7).body
abbrev m6 (d : Nat) (ss : List b6) (vs : List Int) (ars : List Int) (cx : Int) (k : Nat) := s3 true (d + 1) (vs, ars) cx (bV3 k ss)
abbrev aZ3 (d : Nat) (ss : List b6) (vs : List Int) (ars : List Int) (cx : Int) (k : Nat) := s3 true d (W6 d ss vs ars cx k) (f9 cx (c6 (W6 d ss vs ars cx k).fst (W6 d ss vs ars cx k).snd 5 (ss.getD k bU7).value)) (ss.getD k bU7).els
abbrev ap8 (cx : Int) (k : Nat) (r0 : List (Nat × AV)) : List (Nat × AV) := (1, .ref 3) :: (2, iA cx) :: (3, .ptr 4 0) :: (6, iA (k : Int)) :: r0
theorem aB1 (nv na d : Nat) (bd ss : List b6) (ih : ∀ (vs ars : List Int) (tt : List b6) (cx : Int), 0 < ss.length → vs.length = nv → ars.length = na → tt.all (d7 nv na d) = true → d9.ok Tryz.prog (raC vs ars d bd tt cx))
    (vs ars : List Int) (cx : Int) (hv : vs.length = nv) (ha : ars.length = na) (hs : ss.all (d7 nv na (d + 1)) = true) : d9.ok Tryz.prog (raC vs ars (d + 1) bd ss cx) := by
  refine t8 94 Tryz.func81 [.row 3 (D.ints vs), .row 3 (D.ints ars), dT bd, dT ss] [(0, pA 0), (1, .ref 3), (2, iA cx)] fun G => ?_; have hlen : ss.length ≤ 9223372036854775807 := G.len 3 (d := .stmts ss) (by kernel_rfl); refine wp_seq (e5 G c3 (rg 5) [.row 3 (D.ints vs), .row 3 (D.ints ars), dT bd, dT ss, .box (pL 0)] [(1, .ref 3), (2, iA cx), (3, .ptr 4 0)] fun G => b5 (wp_seq (w5 G c3 [(1, .ref 3), (2, iA cx), (3, .ptr 4 0), (6, iA 0)] fun G => b5 (wp_block ?_)))); refine l0 (κ := Nat) (fun k => k ≤ ss.length) (fun k => ss.length - k) (fun k => [.row 3 (.ints (s3 true (d + 1) (vs, ars) cx (ss.take k)).1), .row 3 (.ints (s3 true (d + 1) (vs, ars) cx (ss.take k)).2), dT bd, dT ss, .box (pL 0)]) (fun k => [(1, .ref 3), (2, iA cx), (3, .ptr 4 0), (6, iA k)]) 0 (by omega) (l7.at G _ _) ?_; clear G; intro k ρ a w hp G; replace G := l7.at G [.row 3 (D.ints (m6 d ss vs ars cx k).fst), .row 3 (D.ints (m6 d ss vs ars cx k).snd), dT bd, dT ss, .box (pL 0)] (ap8 cx k []); have hsh : shP (vs, ars) (s3 true (d + 1) (vs, ars) cx (ss.take k)) := ad8; refine wp_seq (wp_seq (d8 G c3 [(11, bA (decide ((k : Int) < ss.length)))] fun G => b5 (H2 G (fun h0 q0 => ?_) fun h0 q0 => ?_)))
  · refine wp_exit (k6 (k6 (j8 ?_))); exact bQ2 G (rg 4) (by show _ = mR (rg 4) [.row 3 (D.ints (s3 true (d + 1) (vs, ars) cx ss).fst), .row 3 (D.ints (s3 true (d + 1) (vs, ars) cx ss).snd), dT bd, dT ss]; have e1 : ((s3 true (d + 1) (vs, ars) cx ss).fst : List Int) = ((m6 d ss vs ars cx k).fst) := (congrArg Prod.fst (be8 (by omega))); have e2 : ((s3 true (d + 1) (vs, ars) cx ss).snd : List Int) = ((m6 d ss vs ars cx k).snd) := (congrArg Prod.snd (be8 (by omega))); (first | rw [e1, e2] | simp only [e1, e2]) <;> rfl)
  ·
   refine wp_skip (b5 (wp_seq (wp_block (wp_seq (L5 G c3 [0, 1, 2, 3, 4, 29, 30, 31, 32, 37] [.row 3 (D.ints (m6 d ss vs ars cx k).fst), .row 3 (D.ints (m6 d ss vs ars cx k).snd), dT bd, dT ss, .box (pL 0), dE (ss.getD k bU7).index.kids, dE (ss.getD k bU7).value.kids, dT (ss.getD k bU7).body, dT (ss.getD k bU7).els, .box (sL (ss.getD k bU7) 5)] (ap8 cx k [(7, .ptr 9 0)]) (iX k k ss.length []) (iK (by omega) bW1) fun G => b5 (wp_seq (d8 G c3 [(19, iA (ss.getD k bU7).kind)] fun G => b5 (wp_block (wp_seq (d8 G c3 [(20, bA ((ss.getD k bU7).kind == 1))] fun G => b5 (I1 G (fun h1 q1 => ?_) fun h1 q1 => ?_)))))))))))
   ·
    refine wp_seq (d8 G c3 [(40, bA ((ss.getD k bU7).kind == 2))] fun G => b5 (I1 G (fun h2 q2 => ?_) fun h2 q2 => ?_))
    ·
     refine wp_seq (d8 G c3 [(65, bA ((ss.getD k bU7).kind == 3))] fun G => b5 (I1 G (fun h3 q3 => ?_) fun h3 q3 => ?_))
     ·
      refine wp_seq (d8 G c3 [(87, bA ((ss.getD k bU7).kind == 4))] fun G => b5 (I1 G (fun h4 q4 => ?_) fun h4 q4 => ?_))
      · refine wp_skip (j0 (j0 (b5 (L5 G c3 (rg 5) [.row 3 (D.ints (m6 d ss vs ars cx k).fst), .row 3 (D.ints (m6 d ss vs ars cx k).snd), dT bd, dT ss, .box (pL 0)] [(1, .ref 3), (2, iA cx), (3, .ptr 4 0), (6, iA ((k : Int) + 1))] [wO ((k : Int) + 1)] (o1 (by omega)) fun G => b5 ?_)))); exact H9 G (k + 1) (by omega) (by omega) (rg 5) (by have e1 : ((s3 true (d + 1) (vs, ars) cx (bV3 (k + 1) ss)).fst : List Int) = ((m6 d ss vs ars cx k).fst) := (congrArg Prod.fst (rn0 hs (by omega) (by omega) (by omega) (by omega) (by omega))); have e2 : ((s3 true (d + 1) (vs, ars) cx (bV3 (k + 1) ss)).snd : List Int) = ((m6 d ss vs ars cx k).snd) := (congrArg Prod.snd (rn0 hs (by omega) (by omega) (by omega) (by omega) (by omega))); (first | rw [e1, e2] | simp only [e1, e2]) <;> rfl)
      · refine e5 G (n7 4 [0, 1, 2, 7] (ih ((m6 d ss vs ars cx k).fst) ((m6 d ss vs ars cx k).snd) ((ss.getD k bU7).body) cx (by omega) (hsh.1.trans hv) (hsh.2.trans ha) ((G5 hs (by omega)).2.1))) (rg 5) [.row 3 (D.ints (s3 true d (m6 d ss vs ars cx k) cx (ss.getD k bU7).body).fst), .row 3 (D.ints (s3 true d (m6 d ss vs ars cx k) cx (ss.getD k bU7).body).snd), dT bd, dT ss, .box (pL 0)] (ap8 cx k []) fun G => j0 (j0 (b5 (z3 G c3 [(6, iA ((k : Int) + 1))] [wO ((k : Int) + 1)] (o1 (by omega)) fun G => b5 ?_))); exact H9 G (k + 1) (by omega) (by omega) (rg 5) (by have e1 : ((s3 true (d + 1) (vs, ars) cx (bV3 (k + 1) ss)).fst : List Int) = ((s3 true d (m6 d ss vs ars cx k) cx (ss.getD k bU7).body).fst) := (congrArg Prod.fst (rn4 hs (by omega) (by omega))); have e2 : ((s3 true (d + 1) (vs, ars) cx (bV3 (k + 1) ss)).snd : List Int) = ((s3 true d (m6 d ss vs ars cx k) cx (ss.getD k bU7).body).snd) := (congrArg Prod.snd (rn4 hs (by omega) (by omega))); (first | rw [e1, e2] | simp only [e1, e2]) <;> rfl)
     · refine wp_seq (F5 G (m5 (f6 7 [0, 1, 2, 6] (d9.lend (N2 ((m6 d ss vs ars cx k).fst) ((m6 d ss vs ars cx k).snd) bd ((ss.getD k bU7).value) (aF0 hsh hv ha (G5 hs (by omega)).1 (by omega))) [.row 3, .row 3]) (f6 9 [0, 1, 2, 7] (ih ((m6 d ss vs ars cx k).fst) ((m6 d ss vs ars cx k).snd) ((ss.getD k bU7).body) (f9 cx (c6 (m6 d ss vs ars cx k).fst (m6 d ss vs ars cx k).snd 5 (ss.getD k bU7).value)) (by omega) (hsh.1.trans hv) (hsh.2.trans ha) ((G5 hs (by omega)).2.1)) m0)) fz []) [0, 0, 2, 0, 0, 0, 32, 112, 248, 511] (rg 10) [.row 3 (D.ints (W6 d ss vs ars cx k).fst), .row 3 (D.ints (W6 d ss vs ars cx k).snd), dT bd, dT ss, .box (pL 0), dE (ss.getD k bU7).index.kids, dE (ss.getD k bU7).value.kids, dT (ss.getD k bU7).body, dT (ss.getD k bU7).els, .box (sL (ss.getD k bU7) 5)] (ap8 cx k [(7, .ptr 9 0)]) fun G => b5 (F5 G (m5 (f6 7 [0, 1, 2, 6] (d9.lend (N2 ((W6 d ss vs ars cx k).fst) ((W6 d ss vs ars cx k).snd) bd ((ss.getD k bU7).value) (aF0 (hsh.trans ad8) hv ha (G5 hs (by omega)).1 (by omega))) [.row 3, .row 3]) (f6 9 [0, 1, 2, 8] (ih ((W6 d ss vs ars cx k).fst) ((W6 d ss vs ars cx k).snd) ((ss.getD k bU7).els) (f9 cx (c6 (W6 d ss vs ars cx k).fst (W6 d ss vs ars cx k).snd 5 (ss.getD k bU7).value)) (by omega) ((hsh.trans ad8).1.trans hv) ((hsh.trans ad8).2.trans ha) ((G5 hs (by omega)).2.2)) m0)) fz []) [0, 0, 2, 0, 0, 0, 32, 112, 248, 511] (rg 5) [.row 3 (D.ints (aZ3 d ss vs ars cx k).fst), .row 3 (D.ints (aZ3 d ss vs ars cx k).snd), dT bd, dT ss, .box (pL 0)] (ap8 cx k []) fun G => j0 (j0 (b5 (z3 G c3 [(6, iA ((k : Int) + 1))] [wO ((k : Int) + 1)] (o1 (by omega)) fun G => b5 ?_))))); exact H9 G (k + 1) (by omega) (by omega) (rg 5) (by have e1 : ((s3 true (d + 1) (vs, ars) cx (bV3 (k + 1) ss)).fst : List Int) = ((aZ3 d ss vs ars cx k).fst) := (congrArg Prod.fst (rn3 (by omega) (by omega))); have e2 : ((s3 true (d + 1) (vs, ars) cx (bV3 (k + 1) ss)).snd : List Int) = ((aZ3 d ss vs ars cx k).snd) := (congrArg Prod.snd (rn3 (by omega) (by omega))); (first | rw [e1, e2] | simp only [e1, e2]) <;> rfl)
    · refine E1 G (m5 (f6 13 [0, 1, 2, 6] (d9.lend (N2 ((m6 d ss vs ars cx k).fst) ((m6 d ss vs ars cx k).snd) bd ((ss.getD k bU7).value) (aF0 hsh hv ha (G5 hs (by omega)).1 (by omega))) [.row 3, .row 3]) (f6 18 [0, 1, 2, 5] (d9.lend (N2 ((m6 d ss vs ars cx k).fst) ((m6 d ss vs ars cx k).snd) bd ((ss.getD k bU7).index) (bz5 hsh hv ha (G5 hs (by omega)).1 (by omega))) [.row 3, .row 3]) m0)) fz []) [0, 1, 0, 4, 0, 16, 0, 64, 240, 496, 0, 0, 2048, 7168, 16368, 0, 0, 65536, 244736, 524272, 0, 2097136, 4194303, 8388607] (rg 5) [.row 3 (D.ints (m6 d ss vs ars cx k).fst), .row 3 (D.ints ((m6 d ss vs ars cx k).snd.set (ss.getD k bU7).target.toNat (f9 (f9 (f9 ((m6 d ss vs ars cx k).snd.getD (ss.getD k bU7).target.toNat 0) (c6 (m6 d ss vs ars cx k).fst (m6 d ss vs ars cx k).snd 5 (ss.getD k bU7).value)) (c6 (m6 d ss vs ars cx k).fst (m6 d ss vs ars cx k).snd 5 (ss.getD k bU7).index)) cx))), dT bd, dT ss, .box (pL 0)] (ap8 cx k []) (iX ((ss.getD k bU7).target) ((ss.getD k bU7).target.toNat) ((s3 true (d + (1 : Nat)) (vs, ars) cx (bV3 k ss)).snd.length) (iX ((ss.getD k bU7).target) ((ss.getD k bU7).target.toNat) ((s3 true (d + (1 : Nat)) (vs, ars) cx (bV3 k ss)).snd.length) [])) (iK (by have h9 := av4 (G5 (k := k) hs (by omega)).1 (by omega); have h8 := hsh.2.trans ha; omega) (iK (by have h9 := av4 (G5 (k := k) hs (by omega)).1 (by omega); have h8 := hsh.2.trans ha; omega) bW1)) fun G => j0 (j0 (b5 (z3 G c3 [(6, iA ((k : Int) + 1))] [wO ((k : Int) + 1)] (o1 (by omega)) fun G => b5 ?_))); exact H9 G (k + 1) (by omega) (by omega) (rg 5) (by have e2 : ((s3 true (d + 1) (vs, ars) cx (bV3 (k + 1) ss)).snd : List Int) = ((m6 d ss vs ars cx k).snd.set (ss.getD k bU7).target.toNat (f9 (f9 (f9 ((m6 d ss vs ars cx k).snd.getD (ss.getD k bU7).target.toNat 0) (c6 (m6 d ss vs ars cx k).fst (m6 d ss vs ars cx k).snd 5 (ss.getD k bU7).value)) (c6 (m6 d ss vs ars cx k).fst (m6 d ss vs ars cx k).snd 5 (ss.getD k bU7).index)) cx)) := (congrArg Prod.snd (rn2 hs (by omega) (by omega))); have h9 := rn2 (q := (vs, ars)) (cx := cx) hs (show k < _ by omega) (by omega); rw [e2, h9] <;> rfl)
   · refine E1 G (n7 13 [0, 1, 2, 6] (d9.lend (N2 ((m6 d ss vs ars cx k).fst) ((m6 d ss vs ars cx k).snd) bd ((ss.getD k bU7).value) (aF0 hsh hv ha (G5 hs (by omega)).1 (by omega))) [.row 3, .row 3])) [0, 1, 0, 4, 0, 16, 0, 64, 240, 496, 0, 0, 2048, 7168, 16368, 0, 65520, 131071, 262143] (rg 5) [.row 3 (D.ints ((m6 d ss vs ars cx k).fst.set (ss.getD k bU7).target.toNat (f9 (f9 ((m6 d ss vs ars cx k).fst.getD (ss.getD k bU7).target.toNat 0) (c6 (m6 d ss vs ars cx k).fst (m6 d ss vs ars cx k).snd 5 (ss.getD k bU7).value)) cx))), .row 3 (D.ints (m6 d ss vs ars cx k).snd), dT bd, dT ss, .box (pL 0)] (ap8 cx k []) (iX ((ss.getD k bU7).target) ((ss.getD k bU7).target.toNat) ((s3 true (d + (1 : Nat)) (vs, ars) cx (bV3 k ss)).fst.length) (iX ((ss.getD k bU7).target) ((ss.getD k bU7).target.toNat) ((s3 true (d + (1 : Nat)) (vs, ars) cx (bV3 k ss)).fst.length) [])) (iK (by have h9 := av2 (G5 (k := k) hs (by omega)).1 (by omega); have h8 := hsh.1.trans hv; omega) (iK (by have h9 := av2 (G5 (k := k) hs (by omega)).1 (by omega); have h8 := hsh.1.trans hv; omega) bW1)) fun G => j0 (j0 (b5 (z3 G c3 [(6, iA ((k : Int) + 1))] [wO ((k : Int) + 1)] (o1 (by omega)) fun G => b5 ?_))); exact H9 G (k + 1) (by omega) (by omega) (rg 5) (by have e1 : ((s3 true (d + 1) (vs, ars) cx (bV3 (k + 1) ss)).fst : List Int) = ((m6 d ss vs ars cx k).fst.set (ss.getD k bU7).target.toNat (f9 (f9 ((m6 d ss vs ars cx k).fst.getD (ss.getD k bU7).target.toNat 0) (c6 (m6 d ss vs ars cx k).fst (m6 d ss vs ars cx k).snd 5 (ss.getD k bU7).value)) cx)) := (congrArg Prod.fst (rn1 hs (by omega) (by omega))); have h9 := rn1 (q := (vs, ars)) (cx := cx) hs (show k < _ by omega) (by omega); rw [e1, h9] <;> rfl)
theorem aX0 (nv na : Nat) (bd : List b6) : ∀ (d : Nat) (vs ars : List Int) (ss : List b6) (cx : Int), vs.length = nv → ars.length = na → ss.all (d7 nv na d) = true → d9.ok Tryz.prog (raC vs ars d bd ss cx) := by
 intro d
 induction d with
 | zero =>
  intro vs ars ss cx hv ha hs
  have h0 : ss = [] := by
   cases ss with
   | nil => rfl
   | cons a r => simp [d7] at hs
  subst h0
  exact aB1 nv na 0 bd [] (fun _ _ _ _ h => absurd h (by simp)) vs ars cx hv ha rfl
 | succ d ih => intro vs ars ss cx hv ha hs; exact aB1 nv na d bd ss (fun vs ars tt cx _ h1 h2 h3 => ih vs ars tt cx h1 h2 h3) vs ars cx hv ha hs
theorem aW9 (vs ars : List Int) (b : List b6) (hs : b.all (d7 vs.length ars.length 5) = true) : d9.ok Tryz.prog ⟨81, [pA 0, .ref 2, iA 0], [.row 3 (.ints vs), .row 3 (.ints ars), dT b], [.row 3 (.ints (s3 true 5 (vs, ars) 0 b).1), .row 3 (.ints (s3 true 5 (vs, ars) 0 b).2), dT b], .tup []⟩ :=
 d9.dup (S := [.row 3 (.ints vs), .row 3 (.ints ars), dT b]) (S' := [.row 3 (.ints (s3 true 5 (vs, ars) 0 b).1), .row 3 (.ints (s3 true 5 (vs, ars) 0 b).2), dT b]) (d := .stmts b) (i := 2) (aX0 _ _ b 5 vs ars b 0 rfl rfl hs) rfl rfl rfl (fun ρ h => by simp only [AV.vals, AV.val]; rw [show ρ 3 = ρ 2 from h]) rfl
def okI (p : b8) : Bool := e6 p && decide ((J1 ⟨(ak9 p).1, (ak9 p).2, p.body⟩ false).1 = 0)
def V9 (p : b8) : b8 := if okI p = true then ⟨(ak9 p).1, (ak9 p).2, p.body⟩ else ⟨[], [], []⟩
theorem at3 {p : b8} (h : e6 p = true) : p.vars.length + p.arrays.length ≤ 14 := by
 unfold e6 y9 at h
 simp only [bU8, decide_eq_true_eq] at h
 omega
section
variable {p : b8} {q : C8} {b : List b6} {X : C8}
theorem R4 (h : (decide (X.1 = q.1) && (decide (X.2 = q.2) && p8 b b)) = true) : X = q := by
 simp only [bU8, decide_eq_true_eq] at h
 exact Prod.ext h.1 h.2.1
theorem aT9 (h : (decide (X.1 = q.1) && (decide (X.2 = q.2) && p8 b b)) = false) : ¬ X = q := fun e => by
 subst e
 rw [(A4 b b).2 rfl] at h
 simp at h
theorem bi9 {f : Bool} (hp : e6 p = true) (h : W3 p.body (p.vars, p.arrays) q) (hne : ¬ s3 f 5 q 0 p.body = q) : 100 - ay2 (s3 f 5 q 0 p.body) < 100 - ay2 q := by
 have h1 := aa2 (f := f) h
 have h2 := a12 ad8 h.2.1 h1.2.1 ar7 hne
 have h3 := aL1 h1.2.1
 have h4 := at3 hp
 rw [h1.1.1, h1.1.2] at h3
 simp only at h3
 omega
theorem br8 (hb : p.size ≤ 1048576) (h : W3 p.body (p.vars, p.arrays) q) : q.1.length + q.2.length + c9 p.body ≤ 1048576 := by
 have h1 := h.1.1
 have h2 := h.1.2
 unfold b8.size at hb
 simp only at h1 h2
 omega
theorem a78 (hp : e6 p = true) (h : W3 p.body (p.vars, p.arrays) q) : p.body.all (d7 q.1.length q.2.length 5) = true := by
 rw [h.1.1, h.1.2]; exact (ak6 hp).1
theorem bg4 (h : e6 p = false) : okI p = false := by unfold okI; rw [h]; rfl
theorem bg5 (hp : e6 p = true) (h : W3 p.body (p.vars, p.arrays) q) (hf : s3 true 5 q 0 p.body = q) : okI p = decide ((J1 ⟨q.1, q.2, p.body⟩ false).1 = 0) := by
 unfold okI; rw [hp, a40 hp (at3 hp) h hf]; rfl
theorem a39 (h : okI p = false) : V9 p = ⟨[], [], []⟩ := by unfold V9; rw [h]; rfl
theorem bs0 (hp : e6 p = true) (h : W3 p.body (p.vars, p.arrays) q) (hf : s3 true 5 q 0 p.body = q) (hk : okI p = true) : V9 p = ⟨q.1, q.2, p.body⟩ := by unfold V9; rw [hk, a40 hp (at3 hp) h hf]; rfl
theorem bI8 (hp : e6 p = true) (h : W3 p.body (p.vars, p.arrays) q) (hf : s3 true 5 q 0 p.body = q) (hc : (J1 ⟨q.1, q.2, p.body⟩ false).1 = 0) : okI p = true := by rw [bg5 hp h hf]; exact decide_eq_true hc
theorem bI9 (hp : e6 p = true) (h : W3 p.body (p.vars, p.arrays) q) (hf : s3 true 5 q 0 p.body = q) (hc : ¬ (J1 ⟨q.1, q.2, p.body⟩ false).1 = 0) : okI p = false := by rw [bg5 hp h hf]; exact decide_eq_false hc
end
abbrev az6 (p : b8) : List It := [dI p.vars, dI p.arrays, dT p.body, .row 3 (D.ints (V9 p).vars), .row 3 (D.ints (V9 p).arrays), .tree (D.stmts (V9 p).body)]
abbrev am3 : It := .box [.v (.slice none 0 0), .v (.slice none 0 0), .v (.slice none 0 0)]
abbrev aq5 : It := .box [.ref 4, .ref 5, .tref 6]
abbrev af4 (p : b8) (q : C8) (r0 : List It) : List It := .row 3 (D.ints q.fst) :: .row 3 (D.ints q.snd) :: .tree (D.stmts p.body) :: r0
abbrev W5 (r0 : List (Nat × AV)) : List (Nat × AV) := (2, .ptr 3 0) :: (3, bA false) :: (4, .ptr 7 0) :: r0
abbrev K1 (p : b8) (r0 : List It) : List It := dI p.vars :: dI p.arrays :: dT p.body :: r0
theorem ay9 (p : b8) (hb : p.size ≤ 1048576) : d9.ok Tryz.prog ⟨58, [pA 0], pS p, pS p ++ oP (V9 p), .tup [oA 3, bA (okI p)]⟩ := by
  refine t8 33 Tryz.func58 (K1 p []) [(0, pA 0)] fun G => ?_
  have hb1 : p.vars.length ≤ 1048576 ∧ p.arrays.length ≤ 1048576 ∧ c9 p.body ≤ 1048576 := by unfold b8.size at hb; omega
  refine wp_seq (e5 G c3 [0, 1, 2, 3, 11] (K1 p [.box (pL 0), am3]) [(1, .ptr 3 0), (2, .ptr 4 0), (3, bA false)] fun G => b5 (wp_seq (wp_seq (d8 G (n7 1 [0, 1, 2] (N4 p (by omega))) [(10, .v (.bool !e6 p))] fun G => b5 ?_)))); cases h0 : (!e6 p)
  ·
   have q0 : (e6 p) = true := (Eq.mp (bV5 _) h0); refine rF G _ h0 (wp_skip (b5 (wp_seq (e5 G (n7 1 [0, 1, 2] (S5 p.vars p.arrays p.body (by assumption))) [0, 1, 2, 4, 13, 14, 15, 21] (K1 p [am3, .row 3 (D.ints p.vars), .row 3 (D.ints p.arrays), .tree (D.stmts p.body), aq5]) (W5 []) fun G => b5 (wp_seq (wp_block ?_)))))); refine l0 (κ := C8) (fun q => W3 p.body (p.vars, p.arrays) q) (fun q => 100 - ay2 q) (fun q => (K1 p [am3, .row 3 (.ints q.1), .row 3 (.ints q.2), .tree (D.stmts p.body), aq5])) (fun q => (W5 [])) ((p.vars, p.arrays)) (ae7 (aH5 (by with_reducible assumption))) (l7.at G _ _) ?_; clear G; intro q ρ a w hp G; replace G := l7.at G (K1 p (am3 :: (af4 p q [aq5]))) (W5 []); refine wp_block (wp_seq (e5 G (n7 1 [4, 5, 6] (d9.lend (S5 q.fst q.snd p.body (br8 hb (by with_reducible assumption))) [.row 3, .row 3, .tree])) [0, 1, 2, 3, 4, 5, 6, 7, 16, 17, 18, 24] (K1 p (am3 :: (af4 p q (aq5 :: (af4 p q [.box [.ref 8, .ref 9, .tref 10]]))))) (W5 [(5, .ptr 11 0)]) fun G => b5 (wp_seq (e5 G (n7 3 [8, 9, 10] (d9.lend (aW9 q.fst q.snd p.body (a78 (by with_reducible assumption) (by with_reducible assumption))) [.no, .no, .tree])) (rg 12) (K1 p (am3 :: (af4 p q [aq5, .row 3 (D.ints (s3 true 5 q 0 p.body).fst), .row 3 (D.ints (s3 true 5 q 0 p.body).snd), .tree (D.stmts p.body), .box [.ref 8, .ref 9, .tref 10]]))) (W5 [(5, .ptr 11 0)]) fun G => b5 (wp_seq (wp_seq (w5 G (n7 2 [8, 9, 10, 4, 5, 6] (d9.lend (ay8 ((s3 true 5 q 0 p.body).fst) ((s3 true 5 q 0 p.body).snd) p.body q.fst q.snd p.body) [.row 3, .row 3, .tree, .row 3, .row 3, .tree])) (W5 [(5, .ptr 11 0), (22, bA (decide ((s3 true 5 q 0 p.body).fst = q.fst) && (decide ((s3 true 5 q 0 p.body).snd = q.snd) && p8 p.body p.body)))]) fun G => b5 ?_))))))); cases h1 : (decide ((s3 true (5 : Nat) q (0 : Int) p.body).fst = q.fst) && (decide ((s3 true (5 : Nat) q (0 : Int) p.body).snd = q.snd) && p8 p.body p.body))
   · have q1 : (¬ ((s3 true 5 q 0 p.body).fst = q.fst)) ∨ ((¬ ((s3 true 5 q 0 p.body).snd = q.snd)) ∨ ((p8 p.body p.body) = false)) := Or.imp (fun hq => of_decide_eq_false hq) (fun hq => Or.imp (fun hq => of_decide_eq_false hq) (fun hq => (hq)) (bX3.1 hq)) (bX3.1 h1); refine rF G _ h1 (wp_skip (b5 (e5 G c3 [0, 1, 2, 3, 7, 8, 9, 10] (K1 p [am3, .box [.ref 5, .ref 6, .tref 7], .row 3 (D.ints (s3 true 5 q 0 p.body).fst), .row 3 (D.ints (s3 true 5 q 0 p.body).snd), .tree (D.stmts p.body)]) [(2, .ptr 3 0), (3, bA false), (4, .ptr 4 0)] fun G => j0 (b5 ?_)))); exact H9 G (s3 true 5 q 0 p.body) (aa2 (by with_reducible assumption)) (bi9 (by with_reducible assumption) (by with_reducible assumption) (aT9 (by with_reducible assumption))) [0, 1, 2, 3, 5, 6, 7, 4]
   ·
    have q1 : ((s3 true 5 q 0 p.body).fst = q.fst) ∧ (((s3 true 5 q 0 p.body).snd = q.snd) ∧ ((p8 p.body p.body) = true)) := And.imp (fun hq => of_decide_eq_true hq) (fun hq => And.imp (fun hq => of_decide_eq_true hq) (fun hq => (hq)) (bX4.1 hq)) (bX4.1 h1); refine rT G _ h1 (wp_exit (k6 ?_)); refine bu2 (by kernel_rfl) ?_; refine k6 (j8 (b5 (wp_seq (e5 G (n7 1 [4, 5, 6] (d9.lend (aI8 q.fst q.snd p.body (by omega)) [.row 3, .row 3, .tree])) (rg 8) (K1 p (am3 :: (af4 p q [aq5]))) (W5 [(6, iA (J1 (b8.mk q.fst q.snd p.body) false).fst)]) fun G => b5 (wp_seq (wp_seq (d8 G c3 [(30, bA ((J1 (b8.mk q.fst q.snd p.body) false).fst != 0))] fun G => b5 (rcN G (fun h2 q2 => ?_) fun h2 q2 => ?_))))))))
    · refine wp_skip (b5 (wp_seq (e5 G c3 (rg 7) (K1 p (aq5 :: (af4 p q []))) [(2, .ptr 3 0), (3, bA true)] fun G => b5 (wp_ret ?_)))); exact N7 (.tup [.agg [.ref 4, .ref 5, .tref 6], bA true]) G [0, 1, 2, 4, 5, 6] (by have e1 : (okI p : Bool) = (true) := (bI8 (by with_reducible assumption) (by with_reducible assumption) (R4 (by with_reducible assumption)) (by with_reducible assumption)); (first | rw [e1] | simp only [e1]) <;> rfl) (by show _ = mR [0, 1, 2, 4, 5, 6] (az6 p); unfold az6; rw [bs0 (by with_reducible assumption) (by with_reducible assumption) (R4 (by with_reducible assumption)) (bI8 (by with_reducible assumption) (by with_reducible assumption) (R4 (by with_reducible assumption)) (by with_reducible assumption))] <;> rfl)
    · refine wp_seq (w5 G c3 (W5 []) fun G => b5 (wp_ret (c8 ?_))); obtain ⟨ρ, G⟩ := G.nil 8 3 (.ints []) 1 (K1 p (.box [.ref 8, .v (.slice none 0 0), .v (.slice none 0 0)] :: (af4 p q [.box [.ref 4, .ref 5, .tref 6]]))) (W5 []); obtain ⟨ρ, G⟩ := G.nil 9 3 (.ints []) 1 (K1 p (.box [.ref 8, .ref 9, .v (.slice none 0 0)] :: (af4 p q [.box [.ref 4, .ref 5, .tref 6], .row 3 (D.ints [])]))) (W5 []); obtain ⟨ρ, G⟩ := G.nilT 10 (.stmts []) (K1 p (.box [.ref 8, .ref 9, .tref 10] :: (af4 p q [.box [.ref 4, .ref 5, .tref 6], .row 3 (D.ints []), .row 3 (D.ints [])]))) (W5 []); exact N7 (.tup [.agg [.ref 8, .ref 9, .tref 10], bA false]) G [0, 1, 2, 8, 9, 10] (by have e1 : (okI p : Bool) = (false) := (bI9 (by with_reducible assumption) (by with_reducible assumption) (R4 (by with_reducible assumption)) (by with_reducible assumption)); (first | rw [e1] | simp only [e1]) <;> rfl) (by show _ = mR [0, 1, 2, 8, 9, 10] (az6 p); unfold az6; rw [a39 (bI9 (by with_reducible assumption) (by with_reducible assumption) (R4 (by with_reducible assumption)) (by with_reducible assumption))] <;> rfl)
  · have q0 : (e6 p) = false := (Eq.mp (bV2 _) h0); refine rT G _ h0 (wp_seq (w5 G c3 [(1, .ptr 3 0), (2, .ptr 4 0), (3, bA false)] fun G => b5 (wp_ret (c8 ?_)))); obtain ⟨ρ, G⟩ := G.nil 5 3 (.ints []) 1 (K1 p [.box (pL 0), .box [.ref 5, .v (.slice none 0 0), .v (.slice none 0 0)]]) [(1, .ptr 3 0), (2, .ptr 4 0), (3, bA false)]; obtain ⟨ρ, G⟩ := G.nil 6 3 (.ints []) 1 (K1 p [.box (pL 0), .box [.ref 5, .ref 6, .v (.slice none 0 0)], .row 3 (D.ints [])]) [(1, .ptr 3 0), (2, .ptr 4 0), (3, bA false)]; obtain ⟨ρ, G⟩ := G.nilT 7 (.stmts []) (K1 p [.box (pL 0), .box [.ref 5, .ref 6, .tref 7], .row 3 (D.ints []), .row 3 (D.ints [])]) [(1, .ptr 3 0), (2, .ptr 4 0), (3, bA false)]; exact N7 (.tup [.agg [.ref 5, .ref 6, .tref 7], bA false]) G [0, 1, 2, 5, 6, 7] (by have e1 : (okI p : Bool) = (false) := (bg4 (by with_reducible assumption)); (first | rw [e1] | simp only [e1]) <;> rfl) (by show _ = mR [0, 1, 2, 5, 6, 7] (az6 p); unfold az6; rw [a39 (bg4 (by with_reducible assumption))] <;> rfl)
abbrev V3 : List Int := [3] ++ ([4] ++ ([2] ++ ([5] ++ [])))
abbrev viL : List Int := [0] ++ ([1] ++ ([0] ++ ([1] ++ ([2] ++ ([3] ++ [])))))
abbrev T0 : List Int := [1] ++ ([2] ++ ([0] ++ ([1] ++ [])))
abbrev aiL : List Int := [0] ++ ([1] ++ ([0] ++ ([1] ++ ([3] ++ []))))
abbrev nbL : List Int := [2] ++ ([3] ++ ([1] ++ ([4] ++ [])))
def nsD (b : List UInt8) (l : List Int) (n : Nat) (k : Int) : List Int := (bW6 n).map fun (i : Nat) => nm b (k + (i : Int)) l
theorem Z9 (b : List UInt8) (l : List Int) (n : Nat) (k : Int) : (nsD b l n k).length = n := by simp [nsD]
theorem bg6 (b : List UInt8) (l : List Int) (n : Nat) (k : Int) : nsD b l (n + 1) k = nsD b l n k ++ [nm b (k + (n : Int)) l] := by
 unfold nsD; rw [List.range_succ, List.map_append]; rfl
def A5 (b : List UInt8) (k : Int) : Int := k + 1 + nm b k V3
def kp2 (b : List UInt8) (k : Int) : Int := A5 b k + 1 + nm b (A5 b k) T0
def Z4 (b : List UInt8) (k : Int) : List Int := nsD b viL (nm b k V3).toNat (k + 1)
def asD (b : List UInt8) (k : Int) : List Int := nsD b aiL (nm b (A5 b k) T0).toNat (A5 b k + 1)
def S8 (b : List UInt8) (k : Int) : List b6 × Int := z7 (t7 b (Z4 b k).length (asD b k).length 3) (nm b (kp2 b k) nbL).toNat (kp2 b k + 1)
def rwD (b : List UInt8) (k : Int) : b8 := ⟨Z4 b k, asD b k, (S8 b k).1⟩
def fbP : b8 := ⟨[0, 1], [], [⟨1, 1, noE, ⟨2, 0, []⟩, 0, [], []⟩]⟩
def pgD (b : List UInt8) (k : Int) : b8 := if e6 (rwD b k) = true then rwD b k else fbP
section
variable (b : List UInt8) {k : Int}
theorem bB1 (hk : 0 ≤ k) (hk2 : k ≤ 1000000000) : 0 ≤ nm b k V3 ∧ nm b k V3 ≤ 5 := aB3 b (by simp) (by simp) hk hk2
theorem bJ3 (hk : 0 ≤ k) (hk2 : k ≤ 1000000000) : 0 ≤ nm b k nbL ∧ nm b k nbL ≤ 4 := aB3 b (by simp) (by simp) hk hk2
theorem bB4 (hk : 0 ≤ k) (hk2 : k ≤ 1000000000) : 0 ≤ nm b k T0 ∧ nm b k T0 ≤ 2 := aB3 b (by simp) (by simp) hk hk2
theorem bh8 (hk : 0 ≤ k) (hk2 : k ≤ 10000000) : k + 1 ≤ A5 b k ∧ A5 b k ≤ k + 6 := by
 have := bB1 b hk (by omega); unfold A5; omega
theorem a37 (hk : 0 ≤ k) (hk2 : k ≤ 10000000) : k + 2 ≤ kp2 b k ∧ kp2 b k ≤ k + 9 := by
 have h1 := bh8 b hk hk2
 have := bB4 b (k := A5 b k) (by omega) (by omega); unfold kp2; omega
theorem cS3 : cS 3 = 34170 ∧ cS 2 = 8442 := by decide
theorem bU2 (nv na : Nat) : Drw (t7 b nv na 3) 34170 := fun j h1 h2 => by
 have e := cS3.1
 have h3 := aL4 b nv na 3 j h1 (by omega)
 have h4 := aT4 b nv na 3 j h1 (by omega)
 omega
theorem a54 (hk : 0 ≤ k) (hk2 : k ≤ 10000000) : kp2 b k ≤ (S8 b k).2 ∧ (S8 b k).2 ≤ k + 150000 ∧ c9 (S8 b k).1 ≤ 150000 := by
 have h1 := a37 b hk hk2
 have h2 := bJ3 b (k := kp2 b k) (by omega) (by omega)
 have h3 := aI0 (f := t7 b (Z4 b k).length (asD b k).length 3) (by omega) (bU2 b _ _) (nm b (kp2 b k) nbL).toNat (kp2 b k + 1) (by omega) (by omega)
 unfold S8
 omega
theorem bb4 (hk : 0 ≤ k) (hk2 : k ≤ 10000000) : (Z4 b k).length ≤ 5 := by
 have := bB1 b hk (by omega); unfold Z4; rw [Z9]; omega
theorem bm5 (hk : 0 ≤ k) (hk2 : k ≤ 10000000) : (asD b k).length ≤ 2 := by
 have h1 := bh8 b hk hk2
 have := bB4 b (k := A5 b k) (by omega) (by omega); unfold asD; rw [Z9]; omega
theorem bf6 (hk : 0 ≤ k) (hk2 : k ≤ 10000000) : (pgD b k).size ≤ 160000 := by
 have h1 := a54 b hk hk2
 have h2 := bb4 b hk hk2
 have h3 := bm5 b hk hk2
 unfold pgD; split
 ·show (Z4 b k).length + (asD b k).length + c9 (S8 b k).1 ≤ 160000
  omega
 ·decide
end
abbrev m2L : List Int := [0] ++ ([6] ++ ([1] ++ ([5] ++ ([2] ++ []))))
abbrev m3L : List Int := [-1] ++ ([12] ++ ([1] ++ ([9223372036854775807] ++ [])))
abbrev m4L : List Int := [-1] ++ ([256] ++ ([12] ++ ([1] ++ [])))
abbrev m5L : List Int := [1] ++ ([4] ++ ([-1] ++ ([2] ++ [])))
def kdS (s : b6) (x : Int) : b6 := ⟨x, s.target, s.index, s.value, s.count, s.body, s.els⟩
def tgS (s : b6) (x : Int) : b6 := ⟨s.kind, x, s.index, s.value, s.count, s.body, s.els⟩
def vvS (s : b6) (x : Int) : b6 := ⟨s.kind, s.target, s.index, ⟨s.value.kind, x, s.value.kids⟩, s.count, s.body, s.els⟩
def ctS (s : b6) (x : Int) : b6 := ⟨s.kind, s.target, s.index, s.value, x, s.body, s.els⟩
def Q3 (b : List UInt8) (p : b8) (k : Int) : b8 × Int :=
 if pk b k 60 = 0 then (if 0 < p.vars.length then (⟨p.vars.set 0 (l1D b (k + 1)), p.arrays, p.body⟩, k + 1 + 2) else (p, k + 1))
 else if pk b k 60 = 1 then (⟨p.vars ++ bW8 (13 - p.vars.length) 1, p.arrays, p.body⟩, k + 1)
 else if pk b k 60 = 2 then (if 0 < p.body.length then (⟨p.vars, p.arrays, p.body.set 0 (kdS (p.body.getD 0 bU7) (nm b (k + 1) m2L))⟩, k + 1 + 1) else (p, k + 1))
 else if pk b k 60 = 3 then (if 0 < p.body.length then (⟨p.vars, p.arrays, p.body.set ((p.body.length : Int) - 1).toNat (tgS (p.body.getD ((p.body.length : Int) - 1).toNat bU7) (nm b (k + 1) m3L))⟩, k + 1 + 1) else (p, k + 1))
 else if pk b k 60 = 4 then (if 0 < p.body.length then (⟨p.vars, p.arrays, p.body.set 0 (vvS (p.body.getD 0 bU7) (nm b (k + 1) m4L))⟩, k + 1 + 1) else (p, k + 1))
 else if pk b k 60 = 5 then (if 0 < p.body.length then (⟨p.vars, p.arrays, p.body.set 0 (ctS (p.body.getD 0 bU7) (nm b (k + 1) m5L))⟩, k + 1 + 1) else (p, k + 1))
 else if pk b k 60 = 6 then (⟨[], [], []⟩, k + 1)
 else (p, k + 1)
theorem bc2 {l : List b6} {i : Nat} {s : b6} (h : B4 s ≤ B4 (l.getD i bU7)) : c9 (l.set i s) ≤ c9 l := by
 induction l generalizing i with
 | nil => simp [c9]
 | cons a r ih =>
  cases i with
  | zero => simp only [List.set_cons_zero, c9]; simp at h; omega
  | succ i =>
   simp only [List.set_cons_succ, c9]
   have := ih (i := i) (by simpa using h)
   omega
theorem bC0 (s : b6) (x : Int) : B4 (kdS s x) = B4 s := by cases s; rfl
theorem bz0 (s : b6) (x : Int) : B4 (tgS s x) = B4 s := by cases s; rfl
theorem by9 (s : b6) (x : Int) : B4 (vvS s x) = B4 s := by obtain ⟨_, _, _, ⟨_, _, _⟩, _, _, _⟩ := s; rfl
theorem bD5 (s : b6) (x : Int) : B4 (ctS s x) = B4 s := by cases s; rfl
theorem aG8 (b : List UInt8) (p : b8) (k : Int) : (Q3 b p k).1.size ≤ p.size + 13 ∧ k ≤ (Q3 b p k).2 ∧ (Q3 b p k).2 ≤ k + 3 := by
 have hs : ∀ i s, B4 s = B4 (p.body.getD i bU7) → c9 (p.body.set i s) ≤ c9 p.body := fun i s h => bc2 (by omega)
 have h2 := hs 0 _ (bC0 (p.body.getD 0 bU7) (nm b (k + 1) m2L))
 have h3 := hs ((p.body.length : Int) - 1).toNat _ (bz0 (p.body.getD ((p.body.length : Int) - 1).toNat bU7) (nm b (k + 1) m3L))
 have h4 := hs 0 _ (by9 (p.body.getD 0 bU7) (nm b (k + 1) m4L))
 have h5 := hs 0 _ (bD5 (p.body.getD 0 bU7) (nm b (k + 1) m5L))
 unfold Q3
 simp only [b8.size]
 (repeat' split) <;> (simp only [List.length_set, bW0, List.length_replicate, bX5, c9]; omega)
def J6 (b : List UInt8) (k : Int) : b8 := if pk b (S8 b k).2 4 = 0 then pgD b k else if okI (pgD b k) = true then V9 (pgD b k) else pgD b k
theorem br9 {p : b8} : (V9 p).size ≤ p.size := by
 unfold V9
 split
 ·have h := (av0 (p := p) (by rename_i h; unfold okI at h; simp at h; exact h.1)).1
  show (ak9 p).1.length + (ak9 p).2.length + c9 p.body ≤ _
  unfold b8.size
  have h1 : (ak9 p).1.length = p.vars.length := h.1
  have h2 : (ak9 p).2.length = p.arrays.length := h.2
  omega
 ·simp [b8.size, c9]
theorem aS7 (b : List UInt8) {k : Int} (hk : 0 ≤ k) (hk2 : k ≤ 10000000) : (J6 b k).size ≤ 160000 := by
 have h1 := bf6 b hk hk2
 have h2 := br9 (p := pgD b k)
 unfold J6
 (repeat' split) <;> omega
def bsD (c : List UInt8) : List UInt8 := c.take 2000
abbrev vaL : List Int := [0] ++ ([1] ++ ([2] ++ ([3] ++ ([255] ++ ([128] ++ ([7] ++ ([4] ++ ([100] ++ []))))))))
def ptD (b : List UInt8) (j : Int) (nv na : Nat) (at0 n : Int) (kd : UInt8) : Int :=
 if kd = 114 then pk b j 3 else if kd = 99 then nm b j vaL else if kd = 118 then pk b j nv else if kd = 97 then pk b j na else if kd = 111 then 4 + pk b j 7 else at0 + 1 + pk b j (n - at0 - 1)
def psD (b : List UInt8) (j : Int) (nv na : Nat) (at0 n : Int) (ks : List UInt8) (k : Nat) : List Int := (bW6 4).map fun i => if i < k then ptD b (j + i) nv na at0 n (ks.getD i 0) else 0
theorem a23 (b : List UInt8) (j : Int) (nv na : Nat) (at0 n : Int) (ks : List UInt8) (k : Nat) : (psD b j nv na at0 n ks k).length = 4 := by simp [psD]
theorem bf4 (b : List UInt8) (j : Int) (nv na : Nat) (at0 n : Int) (ks : List UInt8) {k : Nat} (hk : k < 4) : psD b j nv na at0 n ks (k + 1) = (psD b j nv na at0 n ks k).set k (ptD b (j + k) nv na at0 n (ks.getD k 0)) := by
 apply List.ext_getElem (by simp [a23])
 intro i h1 h2
 rw [List.getElem_set]
 simp only [psD, List.getElem_map, List.getElem_range]
 by_cases e : k = i
 ·subst e; simp
 ·rw [if_neg e]
  have : (i < k + 1) ↔ (i < k) := by omega
  simp only [this]
structure t4 where
 vals : List Int
 arrs : List (List Int)
def B9 (l : List Int) : Bool := l.all fun n => decide (0 ≤ n) && decide (n ≤ 255)
def Z1 (a : List Int) : Bool := decide (a.length = 4) && B9 a
def T1 (nv na : Nat) (m : t4) : Bool := decide (m.vals.length = nv) && (decide (m.arrs.length = na) && (B9 m.vals && m.arrs.all Z1))
def vlD (b : List UInt8) (j : Int) (n : Nat) : List Int := (bW6 n).map fun i : Nat => nm b (j + i) vaL
theorem ar6 (b : List UInt8) (j : Int) (n : Nat) : (vlD b j n).length = n := by simp [vlD]
theorem a05 (b : List UInt8) (j : Int) (k : Nat) : vlD b j (k + 1) = vlD b j k ++ [nm b (j + k) vaL] := by
 unfold vlD; rw [List.range_succ, List.map_append]; rfl
def arD (b : List UInt8) (j : Int) (n : Nat) : List (List Int) := (bW6 n).map fun i : Nat => vlD b (j + 4 * i) 4
theorem aY6 (b : List UInt8) (j : Int) (n : Nat) : (arD b j n).length = n := by simp [arD]
theorem bu6 (b : List UInt8) (j : Int) (k : Nat) : arD b j (k + 1) = arD b j k ++ [vlD b (j + 4 * k) 4] := by
 unfold arD; rw [List.range_succ, List.map_append]; rfl
theorem bm9 (b : List UInt8) (j : Int) (n : Nat) : ∀ a ∈ arD b j n, a.length = 4 := by
 intro a ha
 obtain ⟨i, _, rfl⟩ := List.mem_map.1 ha
 exact ar6 _ _ _
def mmD (b : List UInt8) (j : Int) (nv na : Nat) : t4 := ⟨vlD b j nv, arD b (j + nv) na⟩
abbrev bnL : List Int := [-1] ++ ([256] ++ ([9223372036854775807] ++ []))
def beD (b : List UInt8) (j : Int) (m : t4) : t4 × Int :=
 if pk b j 60 = 0 then (⟨m.vals ++ [0], m.arrs⟩, j + 1)
 else if pk b j 60 = 1 then (if 0 < m.vals.length then (⟨m.vals.set 0 (nm b (j + 1) bnL), m.arrs⟩, j + 2) else (m, j + 1))
 else if pk b j 60 = 2 then (if 0 < m.arrs.length then (⟨m.vals, m.arrs.set 0 (((m.arrs.getD 0 []).take 3).drop 0)⟩, j + 1) else (m, j + 1))
 else if pk b j 60 = 3 then (⟨[], []⟩, j + 1)
 else (m, j + 1)
theorem bU4 (b : List UInt8) (j : Int) (m : t4) : (beD b j m).1.vals.length ≤ m.vals.length + 1 ∧ (beD b j m).1.arrs.length ≤ m.arrs.length ∧ j + 1 ≤ (beD b j m).2 ∧ (beD b j m).2 ≤ j + 2 := by
 unfold beD
 repeat' split
 all_goals simp
 all_goals omega
theorem bO6 (b : List UInt8) (j : Int) (m : t4) (n : Nat) (h : ∀ a ∈ m.arrs, a.length ≤ n) : ∀ a ∈ (beD b j m).1.arrs, a.length ≤ n := by
 intro a
 unfold beD
 split
 ·exact h a
 split
 ·split <;> exact h a
 split
 ·split
  ·intro ha
   rename_i hl
   rcases List.mem_or_eq_of_mem_set ha with h1 | h1
   ·exact h a h1
   ·subst h1
    have := h (m.arrs.getD 0 []) (by rw [bU9, bV0 hl]; exact bW2 hl)
    simp at this ⊢; omega
  ·exact h a
 split
 ·intro ha; simp at ha
 ·exact h a
theorem bb7 {l : List Int} {k : Nat} (h : (l.take k).all (fun n => decide (0 ≤ n) && decide (n ≤ 255)) = true) (hk : k < l.length) (h1 : 0 ≤ l.getD k 0) (h2 : l.getD k 0 ≤ 255) : (l.take (k + 1)).all (fun n => decide (0 ≤ n) && decide (n ≤ 255)) = true :=
 aj3 (z := 0) h hk (by simp only [decide_eq_true h1, decide_eq_true h2]; rfl)
theorem bb6 {l : List Int} {k : Nat} (hk : k < l.length) (h : l.getD k 0 < 0 ∨ 255 < l.getD k 0) : B9 l = false := by
 unfold B9
 rw [List.all_eq_false]
 refine ⟨l.getD k 0, by rw [f8 hk]; exact bW2 hk, ?_⟩
 simp only [bU8, decide_eq_true_eq]
 omega
theorem bn7 {l : List Int} {k : Nat} (h : (l.take k).all (fun n => decide (0 ≤ n) && decide (n ≤ 255)) = true) (hk : l.length ≤ k) : B9 l = true := by
 rw [bV8 hk] at h; exact h
theorem bm8 {l : List (List Int)} {k : Nat} (h : (l.take k).all Z1 = true) (hk : k < l.length) (h1 : ((l.getD k []).length : Int) = 4) (h2 : B9 (l.getD k []) = true) : (l.take (k + 1)).all Z1 = true :=
 aj3 (z := []) h hk (by unfold Z1; rw [decide_eq_true (p := (l.getD k []).length = 4) (by omega), h2]; rfl)
theorem bm7 {l : List (List Int)} {k : Nat} (hk : k < l.length) (h : ¬ ((l.getD k []).length : Int) = 4 ∨ B9 (l.getD k []) = false) : l.all Z1 = false := by
 rw [List.all_eq_false]
 refine ⟨l.getD k [], by rw [f8 hk]; exact bW2 hk, ?_⟩
 unfold Z1
 rcases h with h | h
 ·rw [decide_eq_false (p := (l.getD k []).length = 4) (by omega)]; simp
 ·rw [h]; simp
theorem bu5 {l : List (List Int)} {k : Nat} (h : (l.take k).all Z1 = true) (hk : l.length ≤ k) : l.all Z1 = true := by
 rw [bV8 hk] at h; exact h
section
variable {nv na : Nat} {m : t4}
theorem bx6 (h : ¬ (m.vals.length : Int) = nv) : T1 nv na m = false := by unfold T1; rw [decide_eq_false (p := m.vals.length = nv) (by omega)]; rfl
theorem bx5 (h : ¬ (m.arrs.length : Int) = na) : T1 nv na m = false := by unfold T1; rw [decide_eq_false (p := m.arrs.length = na) (by omega)]; simp
theorem bx4 (h : B9 m.vals = false) : T1 nv na m = false := by unfold T1; rw [h]; simp
theorem bx3 (h : m.arrs.all Z1 = false) : T1 nv na m = false := by unfold T1; rw [h]; simp
theorem bM3 (h1 : (m.vals.length : Int) = nv) (h2 : (m.arrs.length : Int) = na) (h3 : B9 m.vals = true) (h4 : m.arrs.all Z1 = true) : T1 nv na m = true := by
 unfold T1
 rw [decide_eq_true (p := m.vals.length = nv) (by omega), decide_eq_true (p := m.arrs.length = na) (by omega), h3, h4]; rfl
theorem bM2 (h1 : (m.vals.length : Int) = nv) (h2 : (m.arrs.length : Int) = na) (h3 : B9 m.vals = true) : T1 nv na m = m.arrs.all Z1 := by
 unfold T1
 rw [decide_eq_true (p := m.vals.length = nv) (by omega), decide_eq_true (p := m.arrs.length = na) (by omega), h3]; rfl
theorem aH8 (h : T1 nv na m = true) : m.vals.length = nv ∧ m.arrs.length = na ∧ B9 m.vals = true ∧ m.arrs.all Z1 = true := by
 unfold T1 at h
 simpa [bU8] using h
end
theorem bS0 {b : List UInt8} {j n : Int} (h : n < 1) : pk b j n = 0 := by unfold pk; rw [if_pos (.inl h)]
theorem bR9 {b : List UInt8} {j n : Int} (h : (b.length : Int) = 0) : pk b j n = 0 := by unfold pk; rw [if_pos (.inr (by omega))]
theorem bR8 {b : List UInt8} {j n : Int} (h : ¬ n < 1) (h1 : ¬ (b.length : Int) = 0) (h2 : j + 1 - 1 < b.length) : pk b j n = ((b.getD (j + 1 - 1).toNat 0).toNat : Int).tmod n := by
 unfold pk; rw [if_neg (by omega), if_pos (by omega), Int.add_sub_cancel]
theorem bR7 {b : List UInt8} {j n : Int} (h : ¬ n < 1) (h1 : ¬ (b.length : Int) = 0) (h2 : ¬ j + 1 - 1 < b.length) : pk b j n = (aS5 (pkX b (j + 1 - 1)) ((pkX b (j + 1 - 1)).tdiv 64)).tmod n := by
 unfold pk; rw [if_neg (by omega), if_neg (by omega), Int.add_sub_cancel]
theorem a75 {x : Int} {n : Nat} (hx : 0 ≤ x) (hn : ¬ (n : Int) = 0) : 0 ≤ x.tmod n ∧ x.tmod n < n ∧ (x.tmod n).toNat < n := by
 have := aS8 (x := x) (n := n) hx (by omega); omega
theorem B2 (b : List UInt8) (j n : Int) (r0 : 0 ≤ j) (r1 : j ≤ 1000000000) : d9.ok Tryz.prog ⟨30, [.ptr 0 0, iA n], [.box [.ref 1, iA j], dY b], [.box [.ref 1, iA (j + 1)], dY b], iA (pk b j n)⟩ := by
  refine t8 99 Tryz.func30 [.box [.ref 1, iA j], dY b] [(0, .ptr 0 0), (1, iA n)] fun G => ?_; have hu1 := aK8 (b.getD ((j + 1 - 1).tmod b.length).toNat 0); have hu2 := aK8 (b.getD (((j + 1 - 1) * 7 + 3).tmod b.length).toNat 0); refine wp_seq (d8 G c3 [(4, iA 0)] fun G => b5 (wp_seq (L5 G c3 [0, 1] [.box [.ref 1, iA (j + 1)], dY b] [(0, .ptr 0 0), (1, iA n), (4, iA 0)] [wO (j + 1)] (o1 (by omega)) fun G => b5 (wp_seq (wp_seq ?_))))); cases h0 : (decide (n < 1))
  ·
   have q0 := P3 h0; refine d8 G (z4 (fc h0 fz) (us [(3, 8, 0), (1009, 1009, 0)])) [(24, bA ((b.length : Int) == 0))] fun G => b5 (I1 G (fun h1 q1 => ?_) fun h1 q1 => ?_)
   ·
    refine wp_skip (b5 (wp_seq (z3 G c3 [(5, iA (j + 1 - 1))] [wO (j + 1 - 1)] (o1 (by omega)) fun G => b5 (wp_seq (wp_seq (d8 G c3 [(36, bA (decide (j + 1 - 1 < (b.length : Int))))] fun G => b5 (H2 G (fun h2 q2 => ?_) fun h2 q2 => ?_)))))))
    ·
     refine wp_skip (b5 (wp_seq (R5 G c3 [0, 1, 3, 7, 0, 0, 32, 96, 224, 480, 1008, 2047, 4095, 8191, 16383, 0, 32768, 98304, 229376, 0, 524288, 1572864, 0, 4194304, 12582912, 29360128, 62914560, 133693440, 268402688, 536838144, 1073709056, 2147450880, 4294967295, 0, 8589934592, 34359738367, 0, 0, 137438953472, 412316860416, 962072674304, 2061584302080, 4329327034368, 8727373545472, 17592186044415, 35184372088831] [(6, iA (((b.getD ((j + 1 - 1).tmod (b.length : Int)).toNat 0).toNat : Int) * 131 + ((b.getD (((j + 1 - 1) * 7 + 3).tmod (b.length : Int)).toNat 0).toNat : Int) * 1117 + (j + 1 - 1) * 29 + (j + 1 - 1).tdiv (b.length : Int) * 53))] [(b.length : Int) ≠ 0, (0 : Int) ≤ (j + 1 - 1).tmod (b.length : Int), (j + 1 - 1).tmod (b.length : Int) < b.length, ((j + 1 - 1).tmod (b.length : Int)).toNat < b.length, IntKind.i64.wrap ((b.getD ((j + 1 - 1).tmod (b.length : Int)).toNat (0 : UInt8)).toNat : Int) = ((b.getD ((j + 1 - 1).tmod (b.length : Int)).toNat (0 : UInt8)).toNat : Int), wO (((b.getD ((j + 1 - 1).tmod (b.length : Int)).toNat (0 : UInt8)).toNat : Int) * 131), wO ((j + 1 - 1) * 7), wO ((j + 1 - 1) * 7 + 3), (b.length : Int) ≠ 0, (0 : Int) ≤ ((j + 1 - 1) * 7 + 3).tmod (b.length : Int), ((j + 1 - 1) * 7 + 3).tmod (b.length : Int) < b.length, (((j + 1 - 1) * 7 + 3).tmod (b.length : Int)).toNat < b.length, IntKind.i64.wrap ((b.getD (((j + 1 - 1) * 7 + 3).tmod (b.length : Int)).toNat (0 : UInt8)).toNat : Int) = ((b.getD (((j + 1 - 1) * 7 + 3).tmod (b.length : Int)).toNat (0 : UInt8)).toNat : Int), wO (((b.getD (((j + 1 - 1) * 7 + 3).tmod (b.length : Int)).toNat (0 : UInt8)).toNat : Int) * 1117), wO (((b.getD ((j + 1 - 1).tmod (b.length : Int)).toNat (0 : UInt8)).toNat : Int) * 131 + ((b.getD (((j + 1 - 1) * 7 + 3).tmod (b.length : Int)).toNat (0 : UInt8)).toNat : Int) * 1117), wO ((j + 1 - 1) * 29), wO (((b.getD ((j + 1 - 1).tmod (b.length : Int)).toNat (0 : UInt8)).toNat : Int) * 131 + ((b.getD (((j + 1 - 1) * 7 + 3).tmod (b.length : Int)).toNat (0 : UInt8)).toNat : Int) * 1117 + (j + 1 - 1) * 29), (b.length : Int) ≠ 0, wO ((j + 1 - 1).tdiv (b.length : Int)), wO ((j + 1 - 1).tdiv (b.length : Int) * 53), wO (((b.getD ((j + 1 - 1).tmod (b.length : Int)).toNat (0 : UInt8)).toNat : Int) * 131 + ((b.getD (((j + 1 - 1) * 7 + 3).tmod (b.length : Int)).toNat (0 : UInt8)).toNat : Int) * 1117 + (j + 1 - 1) * 29 + (j + 1 - 1).tdiv (b.length : Int) * 53)] ⟨(by assumption), ((a75 (by omega) (by omega)).1), ((a75 (by omega) (by omega)).2.1), ((a75 (by omega) (by omega)).2.2), (w64 (by omega) (by omega)), (oW (by omega)), (oW (by omega)), (oW (by omega)), (by assumption), ((a75 (by omega) (by omega)).1), ((a75 (by omega) (by omega)).2.1), ((a75 (by omega) (by omega)).2.2), (w64 (by omega) (by omega)), (oW (by omega)), (oW (by omega)), (oW (by omega)), (oW (by omega)), (by assumption), (by have := aN2 (b := b) (k := j + 1 - 1) (by omega) (by omega) (by omega); exact w64 (by unfold pkX at this; omega) (by unfold pkX at this; omega)), (by have := aN2 (b := b) (k := j + 1 - 1) (by omega) (by omega) (by omega); exact w64 (by unfold pkX at this; omega) (by unfold pkX at this; omega)), (by have := aN2 (b := b) (k := j + 1 - 1) (by omega) (by omega) (by omega); exact w64 (by unfold pkX at this; omega) (by unfold pkX at this; omega)), bW1⟩ fun G => ?_)))
     refine b5 (wp_seq (z3 G c3 [(6, iA (aS5 (((b.getD ((j + 1 - 1).tmod (b.length : Int)).toNat 0).toNat : Int) * 131 + ((b.getD (((j + 1 - 1) * 7 + 3).tmod (b.length : Int)).toNat 0).toNat : Int) * 1117 + (j + 1 - 1) * 29 + (j + 1 - 1).tdiv (b.length : Int) * 53) ((((b.getD ((j + 1 - 1).tmod (b.length : Int)).toNat 0).toNat : Int) * 131 + ((b.getD (((j + 1 - 1) * 7 + 3).tmod (b.length : Int)).toNat 0).toNat : Int) * 1117 + (j + 1 - 1) * 29 + (j + 1 - 1).tdiv (b.length : Int) * 53).tdiv 64)))] [(64 : Int) ≠ 0, wO ((((b.getD ((j + 1 - 1).tmod (b.length : Int)).toNat (0 : UInt8)).toNat : Int) * 131 + ((b.getD (((j + 1 - 1) * 7 + 3).tmod (b.length : Int)).toNat (0 : UInt8)).toNat : Int) * 1117 + (j + 1 - 1) * 29 + (j + 1 - 1).tdiv (b.length : Int) * 53).tdiv (64 : Int))] ⟨(by omega), (by have := bw3 (b := b) (k := j + 1 - 1) (by omega) (by omega) (by omega); exact w64 (by unfold pkX at this; omega) (by unfold pkX at this; omega)), bW1⟩ fun G => b5 (wp_seq (z3 G c3 [(4, iA ((aS5 (((b.getD ((j + 1 - 1).tmod (b.length : Int)).toNat 0).toNat : Int) * 131 + ((b.getD (((j + 1 - 1) * 7 + 3).tmod (b.length : Int)).toNat 0).toNat : Int) * 1117 + (j + 1 - 1) * 29 + (j + 1 - 1).tdiv (b.length : Int) * 53) ((((b.getD ((j + 1 - 1).tmod (b.length : Int)).toNat 0).toNat : Int) * 131 + ((b.getD (((j + 1 - 1) * 7 + 3).tmod (b.length : Int)).toNat 0).toNat : Int) * 1117 + (j + 1 - 1) * 29 + (j + 1 - 1).tdiv (b.length : Int) * 53).tdiv 64)).tmod n))] [n ≠ 0] ⟨(by omega), bW1⟩ fun G => b5 (wp_ret ?_))))); exact J8 ((aS5 (((b.getD ((j + 1 - 1).tmod (b.length : Int)).toNat 0).toNat : Int) * 131 + ((b.getD (((j + 1 - 1) * 7 + 3).tmod (b.length : Int)).toNat 0).toNat : Int) * 1117 + (j + 1 - 1) * 29 + (j + 1 - 1).tdiv (b.length : Int) * 53) ((((b.getD ((j + 1 - 1).tmod (b.length : Int)).toNat 0).toNat : Int) * 131 + ((b.getD (((j + 1 - 1) * 7 + 3).tmod (b.length : Int)).toNat 0).toNat : Int) * 1117 + (j + 1 - 1) * 29 + (j + 1 - 1).tdiv (b.length : Int) * 53).tdiv 64)).tmod n) G [0, 1] (bR7 (by omega) (by omega) (by omega))
    · refine wp_seq (z3 G c3 [(4, iA (((b.getD (j + 1 - 1).toNat 0).toNat : Int).tmod n))] (iX (j + 1 - 1) ((j + 1 - 1).toNat) b.length ((IntKind.i64.wrap ((b.getD (j + 1 - 1).toNat (0 : UInt8)).toNat : Int) = ((b.getD (j + 1 - 1).toNat (0 : UInt8)).toNat : Int)) :: ((n ≠ 0) :: []))) (iK (by omega) ⟨(by have := aK8 (b.getD (j + 1 - 1).toNat 0); exact w64 (by omega) (by omega)), ⟨(by omega), bW1⟩⟩) fun G => b5 (wp_ret (c8 ?_))); exact J8 (((b.getD (j + 1 - 1).toNat 0).toNat : Int).tmod n) G [0, 1] (bR8 (by omega) (by omega) (by omega))
   · refine wp_seq (d8 G c3 [] fun G => b5 (wp_ret (c8 ?_))); exact J8 0 G [0, 1] (bR9 (by omega))
  · have q0 := P2 h0; refine d8 G (z4 (fc h0 fz) (us [(3, 8, 0), (1009, 1009, 0)])) [(24, bA true)] fun G => b5 (rT G true (by kernel_rfl) (wp_seq (d8 G c3 [] fun G => b5 (wp_ret (c8 ?_))))); exact J8 0 G [0, 1] (bS0 (by omega))
theorem E8 (b : List UInt8) (j : Int) (l : List Int) (hl : l ≠ []) (r0 : 0 ≤ j) (r1 : j ≤ 1000000000) : d9.ok Tryz.prog ⟨32, [.ptr 0 0, .ref 2], [.box [.ref 1, iA j], dY b, dI l], [.box [.ref 1, iA (j + 1)], dY b, dI l], iA (nm b j l)⟩ := by
 refine t8 12 Tryz.func32 [.box [.ref 1, iA j], dY b, dI l] [(0, .ptr 0 0), (1, .ref 2)] fun G => ?_; refine wp_seq (d8 G c3 [(4, iA 0)] fun G => b5 (wp_seq (L5 G (n7 4 [0, 1] (B2 b j ((l.length : Int)) (by assumption) (by assumption))) [0, 1, 2] [.box [.ref 1, iA (j + 1)], dY b, dI l] [(4, iA (l.getD (pk b j (l.length : Int)).toNat 0))] [(0 : Int) ≤ pk b j (l.length : Int), pk b j (l.length : Int) < l.length, (pk b j (l.length : Int)).toNat < l.length] ⟨((a29 b r0 r1 hl).1), ((a29 b r0 r1 hl).2.1), ((a29 b r0 r1 hl).2.2), bW1⟩ fun G => b5 (wp_ret ?_)))); exact A0 G [0, 1, 2]
theorem bl6 (b : List UInt8) (j : Int) (r0 : 0 ≤ j) (r1 : j ≤ 900000000) : d9.ok Tryz.prog ⟨47, [.ptr 0 0], [.box [.ref 1, iA j], dY b], [.box [.ref 1, iA (j + 2)], dY b], iA (l1D b j)⟩ := by
 refine t8 11 Tryz.func47 [.box [.ref 1, iA j], dY b] [(0, .ptr 0 0)] fun G => ?_; refine wp_seq (d8 G c3 [(2, iA 0)] fun G => b5 (wp_seq (wp_seq (e5 G (n7 1 [0, 1] (B2 b j 12 (by assumption) (by omega))) [0, 1] [.box [.ref 1, iA (j + 1)], dY b] [(0, .ptr 0 0), (2, iA 0), (5, bA (pk b j 12 == 0))] fun G => b5 (I1 G (fun h0 q0 => ?_) fun h0 q0 => ?_)))))
 ·refine wp_skip (b5 (wp_seq (e5 G (n7 1 [0, 1] (B2 b (j + 1) 4 (by omega) (by omega))) [0, 1] [.box [.ref 1, iA (j + 1 + 1)], dY b] [(2, iA (pk b (j + 1) 4))] fun G => b5 (wp_ret ?_)))); exact J8 (pk b (j + 1) 4) G [0, 1] (by unfold l1D; rw [if_neg (by omega)]; done) (by show _ = mR [0, 1] [.box [.ref 1, iA (j + 2)], dY b]; have e1 : (j + 2 : Int) = (j + 1 + 1) := (by omega); (first | rw [e1] | simp only [e1]) <;> rfl)
 ·refine wp_seq (e5 G (n7 2 [0, 1, 10] (d9.lend (E8 b (j + 1) l1L (by simp [h0]) (by omega) (by omega)) [.no, .no, .row 3])) [0, 1] [.box [.ref 1, iA (j + 1 + 1)], dY b] [(0, .ptr 0 0), (2, iA (nm b (j + 1) l1L))] fun G => b5 (wp_ret (c8 ?_))); exact J8 (nm b (j + 1) l1L) G [0, 1] (by unfold l1D; rw [if_pos (by omega)]; done) (by show _ = mR [0, 1] [.box [.ref 1, iA (j + 2)], dY b]; have e1 : (j + 2 : Int) = (j + 1 + 1) := (by omega); (first | rw [e1] | simp only [e1]) <;> rfl)
theorem aY2 (c : List UInt8) (hc : c.length ≤ 2000) : d9.ok Tryz.prog ⟨15, [.ref 0], [dY c], [dY c, .box [.ref 0, iA 0]], .ptr 1 0⟩ := by
 refine t8 11 Tryz.func15 [dY c] [(0, .ref 0)] fun G => ?_; refine wp_seq (d8 G c3 [(2, .v (.pointer none))] fun G => b5 (wp_seq (wp_seq (w5 G c3 [(0, .ref 0), (2, .v (.pointer none)), (5, bA (decide ((c.length : Int) > 2000)))] fun G => b5 ?_)))); cases h0 : (decide ((c.length : Int) > 2000))
 ·have q0 := P3 h0; refine rF G _ h0 (wp_skip (b5 (wp_seq (e5 G c3 [0, 17] [dY c, .box [.ref 0, iA 0]] [(2, .ptr 1 0)] fun G => b5 (wp_ret ?_))))); exact A0 G [0, 1]
 ·have q0 := P2 h0; exact False.elim (by omega)
theorem aY1 (c : List UInt8) (hc : 2000 < c.length) : d9.ok Tryz.prog ⟨15, [.ref 0], [dY c], [dY c, .box [.ref 2, iA 0], dY ((c.take 2000).drop 0)], .ptr 1 0⟩ := by
 refine t8 11 Tryz.func15 [dY c] [(0, .ref 0)] fun G => ?_; refine wp_seq (d8 G c3 [(2, .v (.pointer none))] fun G => b5 (wp_seq (wp_seq (w5 G c3 [(0, .ref 0), (2, .v (.pointer none)), (5, bA (decide ((c.length : Int) > 2000)))] fun G => b5 ?_)))); cases h0 : (decide ((c.length : Int) > 2000))
 ·have q0 := P3 h0; exact False.elim (by omega)
 ·have q0 := P2 h0; refine rT G _ h0 (L5 G c3 [0, 9] [dY c, dY (List.drop 0 (bV3 (Int.toNat 2000) c))] [(0, .ref 1), (2, .v (.pointer none))] [(0 : Int) ≤ 2000, (2000 : Int) ≤ c.length] ⟨(by omega), (by omega), bW1⟩ fun G => b5 (wp_seq (e5 G c3 [0, 1, 18] [dY c, dY (List.drop 0 (bV3 (Int.toNat 2000) c)), .box [.ref 1, iA 0]] [(2, .ptr 2 0)] fun G => b5 (wp_ret ?_)))); exact A0 G [0, 2, 1]
abbrev dwS (b : List UInt8) (j : Int) (vs ars : List Int) (bd : List b6) : List It := [.box [.ref 1, iA j], dY b, dI vs, dI ars, dT bd]
abbrev exO (e : b7) : List It := [.tree (.exprs e.kids)]
abbrev exA (e : b7) (r : Nat) : AV := .agg [iA e.kind, iA e.value, .tref r]
theorem bO8 {b : List UInt8} {nv j : Int} (h : pk b j 3 = 0) : j5 b nv j = ⟨1, nm b (j + 1) atL, []⟩ := if_pos h
theorem bO7 {b : List UInt8} {nv j : Int} (h : ¬ pk b j 3 = 0) : j5 b nv j = ⟨2, pk b (j + 1) nv, []⟩ := if_neg h
theorem al8 (b : List UInt8) (j : Int) (vs ars : List Int) (bd : List b6) (r0 : 0 ≤ j) (r1 : j ≤ 900000000) : d9.ok Tryz.prog ⟨99, [.ptr 0 0, pA 2], dwS b j vs ars bd, dwS b (j + 2) vs ars bd ++ exO (j5 b vs.length j), exA (j5 b vs.length j) 5⟩ := by
 refine t8 18 Tryz.func99 [.box [.ref 1, iA j], dY b, dI vs, dI ars, dT bd] [(0, .ptr 0 0), (1, pA 2)] fun G => ?_; refine wp_seq (e5 G c3 [0, 1, 2, 3, 4, 5, 13] [.box [.ref 1, iA j], dY b, dI vs, dI ars, dT bd, .box (pL 2), .box [iA 0, iA 0, .v (.slice none 0 0)]] [(0, .ptr 0 0), (3, .ptr 5 0), (4, .ptr 6 0)] fun G => b5 (wp_seq (wp_seq (e5 G (n7 1 [0, 1] (B2 b j 3 (by assumption) (by omega))) (rg 7) [.box [.ref 1, iA (j + 1)], dY b, dI vs, dI ars, dT bd, .box (pL 2), .box [iA 0, iA 0, .v (.slice none 0 0)]] [(0, .ptr 0 0), (3, .ptr 5 0), (4, .ptr 6 0), (7, bA (pk b j 3 == 0))] fun G => b5 (I1 G (fun h0 q0 => ?_) fun h0 q0 => ?_)))))
 ·refine wp_skip (b5 (wp_seq (e5 G (n7 4 [0, 1] (B2 b (j + 1) ((vs.length : Int)) (by omega) (by omega))) [0, 1, 2, 3, 4, 6] [.box [.ref 1, iA (j + 1 + 1)], dY b, dI vs, dI ars, dT bd, .box [iA 2, iA (pk b (j + 1) (vs.length : Int)), .v (.slice none 0 0)]] [(4, .ptr 5 0)] fun G => b5 (wp_ret ?_)))); obtain ⟨ρ, G⟩ := G.nilT 6 (.exprs []) [.box [.ref 1, iA (j + 1 + 1)], dY b, dI vs, dI ars, dT bd, .box [iA 2, iA (pk b (j + 1) (vs.length : Int)), .tref 6]] [(4, .ptr 5 0)]; exact N7 (.agg [iA 2, iA (pk b (j + 1) (vs.length : Int)), .tref 6]) G [0, 1, 2, 3, 4, 6] (by show _ = AV.ren (nth [0, 1, 2, 3, 4, 6]) (.agg [iA (j5 b (vs.length : Int) j).kind, iA (j5 b (vs.length : Int) j).value, .tref 5]); rw [bO7 (by omega)] <;> rfl) (by show _ = mR [0, 1, 2, 3, 4, 6] [.box [.ref 1, iA (j + 2)], dY b, dI vs, dI ars, dT bd, .tree (D.exprs (j5 b (vs.length : Int) j).kids)]; have e1 : (j + 2 : Int) = (j + 1 + 1) := (by omega); rw [e1, bO7 (by omega)] <;> rfl)
 ·refine wp_seq (e5 G (n7 2 [0, 1, 15] (d9.lend (E8 b (j + 1) atL (by simp [h0]) (by omega) (by omega)) [.no, .no, .row 3])) (rg 7) [.box [.ref 1, iA (j + 1 + 1)], dY b, dI vs, dI ars, dT bd, .box (pL 2), .box [iA 1, iA (nm b (j + 1) atL), .v (.slice none 0 0)]] [(0, .ptr 0 0), (3, .ptr 5 0), (4, .ptr 6 0)] fun G => b5 (wp_ret (c8 ?_))); obtain ⟨ρ, G⟩ := G.nilT 7 (.exprs []) [.box [.ref 1, iA (j + 1 + 1)], dY b, dI vs, dI ars, dT bd, .box (pL 2), .box [iA 1, iA (nm b (j + 1) atL), .tref 7]] [(0, .ptr 0 0), (3, .ptr 5 0), (4, .ptr 6 0)]; exact N7 (.agg [iA 1, iA (nm b (j + 1) atL), .tref 7]) G [0, 1, 2, 3, 4, 7] (by show _ = AV.ren (nth [0, 1, 2, 3, 4, 7]) (.agg [iA (j5 b (vs.length : Int) j).kind, iA (j5 b (vs.length : Int) j).value, .tref 5]); rw [bO8 (by omega)] <;> rfl) (by show _ = mR [0, 1, 2, 3, 4, 7] [.box [.ref 1, iA (j + 2)], dY b, dI vs, dI ars, dT bd, .tree (D.exprs (j5 b (vs.length : Int) j).kids)]; have e1 : (j + 2 : Int) = (j + 1 + 1) := (by omega); rw [e1, bO8 (by omega)] <;> rfl)
theorem aX8 (vs ars : List Int) (bd : List b6) (e : b7) : d9.ok Tryz.prog (C0 89 [pA 0, eA e 3] ([dI vs, dI ars, dT bd] ++ eS e) (bA (f7 vs.length ars.length e))) := A7 ⟨vs, ars, bd⟩ e
abbrev drC (b : List UInt8) (vs ars : List Int) (bd : List b6) (d : Nat) (j n : Int) : d9 := ⟨107, [.ptr 0 0, pA 2, iA n], dwS b j vs ars bd, dwS b (D5 b vs.length ars.length d j).2 vs ars bd ++ exO (D5 b vs.length ars.length d j).1, exA (D5 b vs.length ars.length d j).1 5⟩
section
variable {b : List UInt8} {nv na : Int} {d : Nat} {j : Int}
theorem bN3 (h : d < 2) : D5 b nv na d j = (j5 b nv j, j + 2) := by
 match d, h with
 | 0, _ => rfl
 | 1, _ => simp [D5]
theorem bD0 (h : 0 < d) (h1 : pk b j 4 = 0) : D5 b nv na (d + 1) j = (j5 b nv (j + 1), j + 3) := by rw [D5, if_neg (by omega), if_pos h1]
theorem bs6 (h : 0 < d) (h1 : ¬ pk b j 4 = 0) (h2 : nm b (j + 1) E6 = 3) (h3 : na = 0) : D5 b nv na (d + 1) j = (j5 b nv (j + 2), j + 4) := by rw [D5, if_neg (by omega), if_neg h1, if_pos h2, if_pos h3]
theorem bs5 (h : 0 < d) (h1 : ¬ pk b j 4 = 0) (h2 : nm b (j + 1) E6 = 3) (h3 : ¬ na = 0) : D5 b nv na (d + 1) j = (⟨3, pk b (j + 2) na, [j5 b nv (j + 3)]⟩, j + 5) := by rw [D5, if_neg (by omega), if_neg h1, if_pos h2, if_neg h3]
abbrev drK (b : List UInt8) (nv na : Int) (d : Nat) (j : Int) (k : Nat) : List b7 × Int := z7 (D5 b nv na d) k (j + 2)
theorem bN2 (h : 0 < d) (h1 : ¬ pk b j 4 = 0) (h2 : ¬ nm b (j + 1) E6 = 3) {m : Int} (h3 : 0 ≤ m) (h4 : ¬ m > 0) : D5 b nv na (d + 1) j = (⟨nm b (j + 1) E6, 0, (drK b nv na d j (j2 (nm b (j + 1) E6) - m).toNat).1⟩, (drK b nv na d j (j2 (nm b (j + 1) E6) - m).toNat).2) := by
 have e : m = 0 := by omega
 rw [e, Int.sub_zero, D5, if_neg (by omega), if_neg h1, if_neg h2]
theorem a48 {x m : Int} (h3 : m > 0) (h4 : m ≤ x) : drK b nv na d j (x - (m - 1)).toNat = ((drK b nv na d j (x - m).toNat).1 ++ [(D5 b nv na d (drK b nv na d j (x - m).toNat).2).1], (D5 b nv na d (drK b nv na d j (x - m).toNat).2).2) := by
 rw [show (x - (m - 1)).toNat = (x - m).toNat + 1 by omega]; rfl
theorem bO9 (r0 : 0 ≤ j) (r1 : j ≤ 900000000) : 0 ≤ j2 (nm b (j + 1) E6) ∧ j2 (nm b (j + 1) E6) ≤ 3 := by
 have h := aG7 b (k := j + 1) (l := E6) (by omega) (by omega) (by simp)
 simp only [bW9, bY2, List.not_mem_nil, or_false] at h
 rcases h with h | h | h | h | h | h | h | h | h <;> rw [h] <;> decide
theorem bN5 (r0 : 0 ≤ j) {k : Nat} (hk : k ≤ 3) : j + 2 ≤ (drK b nv na d j k).2 ∧ (drK b nv na d j k).2 ≤ j + 2 + 3 * cE d := by
 have hc := ax4 d
 have h := bk1 (f := D5 b nv na d) (c := cE d) (m := 3) (by omega) k (j + 2) hk fun i _ _ => aP5 b nv na d i
 have h4 : (k : Int) * cE d ≤ 3 * cE d := bY6 (by omega) (by omega)
 unfold drK; omega
theorem bN4 {x m : Int} (r0 : 0 ≤ j) (h3 : m > 0) (h4 : m ≤ x) (h5 : x ≤ 3) (r1 : j + cE (d + 1) ≤ 800000000) : (drK b nv na d j (x - m).toNat).2 + cE d ≤ 800000000 := by
 have hc := ax4 d
 have hce : cE (d + 1) = 5 + 3 * cE d := rfl
 have hm : (x - m).toNat ≤ 2 := by omega
 have h := bk1 (f := D5 b nv na d) (c := cE d) (m := 2) (by omega) (x - m).toNat (j + 2) hm fun i _ _ => aP5 b nv na d i
 have h4 : ((x - m).toNat : Int) * cE d ≤ 2 * cE d := bY6 (by omega) (by omega)
 unfold drK; omega
end
theorem a17 (b : List UInt8) (vs ars : List Int) (bd : List b6) (d : Nat) (hd : d < 2) (j n : Int) (hn : n = d) (r0 : 0 ≤ j) (r1 : j ≤ 900000000) : d9.ok Tryz.prog (drC b vs ars bd d j n) := by
 refine t8 62 Tryz.func107 [.box [.ref 1, iA j], dY b, dI vs, dI ars, dT bd] [(0, .ptr 0 0), (1, pA 2), (2, iA n)] fun G => ?_; refine wp_seq (e5 G c3 [0, 1, 2, 3, 4, 5, 13] [.box [.ref 1, iA j], dY b, dI vs, dI ars, dT bd, .box (pL 2), .box [iA 0, iA 0, .v (.slice none 0 0)]] [(0, .ptr 0 0), (2, iA n), (4, .ptr 5 0), (6, .ptr 6 0)] fun G => b5 (wp_seq (wp_seq ?_))); cases h0 : (decide (n < 2))
 ·have q0 := P3 h0; exact False.elim (by omega)
 ·have q0 := P2 h0; refine d8 G (z4 (fc h0 fz) [(3, 0), (4, 0), (5, 0), (1006, 0)]) [(16, bA true)] fun G => b5 (rT G true (by kernel_rfl) (wp_seq (e5 G (n7 2 (rg 5) (al8 b j vs ars bd (by assumption) (by assumption))) [0, 1, 2, 3, 4, 5, 6, 23] [.box [.ref 1, iA (j + 2)], dY b, dI vs, dI ars, dT bd, .box (pL 2), .box [iA (j5 b (vs.length : Int) j).kind, iA (j5 b (vs.length : Int) j).value, .tref 7], .tree (D.exprs (j5 b (vs.length : Int) j).kids)] [(0, .ptr 0 0), (2, iA n), (4, .ptr 5 0), (6, .ptr 6 0)] fun G => b5 (wp_ret (c8 ?_))))); exact N7 (.agg [iA (j5 b (vs.length : Int) j).kind, iA (j5 b (vs.length : Int) j).value, .tref 7]) G [0, 1, 2, 3, 4, 7] (by show _ = AV.ren (nth [0, 1, 2, 3, 4, 7]) (.agg [iA (D5 b (vs.length : Int) (ars.length : Int) d j).fst.kind, iA (D5 b (vs.length : Int) (ars.length : Int) d j).fst.value, .tref 5]); rw [bN3 hd] <;> rfl) (by show _ = mR [0, 1, 2, 3, 4, 7] [.box [.ref 1, iA (D5 b (vs.length : Int) (ars.length : Int) d j).snd], dY b, dI vs, dI ars, dT bd, .tree (D.exprs (D5 b (vs.length : Int) (ars.length : Int) d j).fst.kids)]; rw [bN3 hd] <;> rfl)
abbrev ar0 (b : List UInt8) (vs : List Int) (ars : List Int) (d : Nat) (j : Int) (k : Int) := drK b (vs.length : Int) (ars.length : Int) d j (j2 (nm b (j + 1) E6) - k).toNat
abbrev am6 (b : List UInt8) (vs : List Int) (ars : List Int) (d : Nat) (j : Int) : AV := (.agg [iA (D5 b (vs.length : Int) (ars.length : Int) (d + 1) j).fst.kind, iA (D5 b (vs.length : Int) (ars.length : Int) (d + 1) j).fst.value, .tref 5])
abbrev am5 (b : List UInt8) (vs : List Int) (ars : List Int) (bd : List b6) (d : Nat) (j : Int) : List It := [.box [.ref 1, iA (D5 b (vs.length : Int) (ars.length : Int) (d + 1) j).snd], dY b, dI vs, dI ars, dT bd, .tree (D.exprs (D5 b (vs.length : Int) (ars.length : Int) (d + 1) j).fst.kids)]
abbrev aA4 : It := .box [iA 0, iA 0, .v (.slice none 0 0)]
abbrev V2 (n : Int) (r0 : List (Nat × AV)) : List (Nat × AV) := (0, .ptr 0 0) :: (2, iA n) :: (4, .ptr 5 0) :: (6, .ptr 6 0) :: r0
theorem bp4 (b : List UInt8) (vs ars : List Int) (bd : List b6) (d : Nat) (hd : 0 < d) (hd2 : d ≤ 100) (ih : ∀ (j n : Int), n = d → 0 ≤ j → j + cE d ≤ 800000000 → d9.ok Tryz.prog (drC b vs ars bd d j n)) (j n : Int) (hn : n = ((d + 1 : Nat) : Int)) (r0 : 0 ≤ j) (r1 : j + cE (d + 1) ≤ 800000000) : d9.ok Tryz.prog (drC b vs ars bd (d + 1) j n) := by
  refine t8 62 Tryz.func107 [.box [.ref 1, iA j], dY b, dI vs, dI ars, dT bd] [(0, .ptr 0 0), (1, pA 2), (2, iA n)] fun G => ?_; have hc := ax4 d; have hce : cE (d + 1) = 5 + 3 * cE d := rfl; have har := bO9 (b := b) (j := j) r0 (by omega); refine wp_seq (e5 G c3 [0, 1, 2, 3, 4, 5, 13] [.box [.ref 1, iA j], dY b, dI vs, dI ars, dT bd, .box (pL 2), aA4] (V2 n []) fun G => b5 (wp_seq (wp_seq ?_))); cases h0 : (decide (n < 2))
  ·
   have q0 := P3 h0; refine e5 G (m5 (f6 4 [0, 1] (B2 b j 4 (by assumption) (by omega)) m0) (fc h0 fz) [(3, 0), (4, 0), (5, 0), (1006, 0)]) (rg 7) [.box [.ref 1, iA (j + 1)], dY b, dI vs, dI ars, dT bd, .box (pL 2), aA4] (V2 n [(16, bA (pk b j 4 == 0))]) fun G => b5 (I1 G (fun h1 q1 => ?_) fun h1 q1 => ?_)
   ·
    refine wp_skip (b5 (wp_seq (e5 G (n7 2 [0, 1, 15] (d9.lend (E8 b (j + 1) E6 (by simp [h0, h1]) (by omega) (by omega)) [.no, .no, .row 3])) (rg 7) [.box [.ref 1, iA (j + 1 + 1)], dY b, dI vs, dI ars, dT bd, .box (pL 2), aA4] (V2 n [(7, iA (nm b (j + 1) E6))]) fun G => b5 (wp_seq (wp_seq (d8 G c3 [(24, bA (nm b (j + 1) E6 == 3))] fun G => b5 (I1 G (fun h2 q2 => ?_) fun h2 q2 => ?_)))))))
    ·
     refine wp_skip (b5 (wp_seq (e5 G c3 [0, 1, 2, 3, 4, 5, 6, 23] [.box [.ref 1, iA (j + 1 + 1)], dY b, dI vs, dI ars, dT bd, .box (pL 2), aA4, .box [iA (nm b (j + 1) E6), iA 0, .v (.slice none 0 0)]] (V2 n [(7, iA (nm b (j + 1) E6)), (8, .ptr 7 0)]) fun G => b5 (wp_seq (wp_seq (w5 G (n7 1 [] (ab1 (nm b (j + 1) E6))) (V2 n [(8, .ptr 7 0), (9, iA (j2 (nm b (j + 1) E6)))]) fun G => b5 (wp_block ?_))))))); obtain ⟨ρ, G⟩ := G.nilT 8 (.exprs []) [.box [.ref 1, iA (j + 1 + 1)], dY b, dI vs, dI ars, dT bd, .box (pL 2), .box [iA 0, iA 0, .v (.slice none 0 0)], .box [iA (nm b (j + 1) E6), iA 0, .tref 8]] (V2 n [(8, .ptr 7 0), (9, iA (j2 (nm b (j + 1) E6)))]); replace G := G.as [.box [.ref 1, iA (drK b (vs.length : Int) (ars.length : Int) d j (j2 (nm b (j + 1) E6) - j2 (nm b (j + 1) E6)).toNat).snd], dY b, dI vs, dI ars, dT bd, .box (pL 2), .box [iA 0, iA 0, .v (.slice none 0 0)], .box [iA (nm b (j + 1) E6), iA 0, .tref 8], .tree (D.exprs (drK b (vs.length : Int) (ars.length : Int) d j (j2 (nm b (j + 1) E6) - j2 (nm b (j + 1) E6)).toNat).fst)] (V2 n [(8, .ptr 7 0), (9, iA (j2 (nm b (j + 1) E6)))]) (by have e1 : ((drK b (vs.length : Int) (ars.length : Int) d j (j2 (nm b (j + 1) E6) - j2 (nm b (j + 1) E6)).toNat).snd : Int) = (j + 1 + 1) := (by rw [Int.sub_self]; show j + 2 = j + 1 + 1; omega); have e2 : ((drK b (vs.length : Int) (ars.length : Int) d j (j2 (nm b (j + 1) E6) - j2 (nm b (j + 1) E6)).toNat).fst : List b7) = ([]) := (by rw [Int.sub_self]; rfl); (first | rw [e1, e2] | simp only [e1, e2]) <;> rfl) (by kernel_rfl); refine l0 (κ := Int) (fun k => 0 ≤ k ∧ k ≤ j2 (nm b (j + 1) E6)) (fun k => k.toNat) (fun k => [.box [.ref 1, iA (drK b vs.length ars.length d j (j2 (nm b (j + 1) E6) - k).toNat).2], dY b, dI vs, dI ars, dT bd, .box (pL 2), .box [iA 0, iA 0, .v (.slice none 0 0)], .box [iA (nm b (j + 1) E6), iA 0, .tref 8], .tree (.exprs (drK b vs.length ars.length d j (j2 (nm b (j + 1) E6) - k).toNat).1)]) (fun k => [(0, .ptr 0 0), (2, iA n), (4, .ptr 5 0), (6, .ptr 6 0), (8, .ptr 7 0), (9, iA k)]) (j2 (nm b (j + 1) E6)) (by omega) (l7.at G _ _) ?_; clear G; intro k ρ a w hp G; replace G := l7.at G [.box [.ref 1, iA (ar0 b vs ars d j k).snd], dY b, dI vs, dI ars, dT bd, .box (pL 2), aA4, .box [iA (nm b (j + 1) E6), iA 0, .tref 8], .tree (D.exprs (ar0 b vs ars d j k).fst)] (V2 n [(8, .ptr 7 0), (9, iA k)]); have hkb := bN5 (b := b) (nv := vs.length) (na := ars.length) (d := d) (j := j) r0 (k := (j2 (nm b (j + 1) E6) - k).toNat) (by omega); have hkl : (drK b vs.length ars.length d j (j2 (nm b (j + 1) E6) - k).toNat).1.length = (j2 (nm b (j + 1) E6) - k).toNat := aI1 _ _ _; refine wp_seq (wp_seq (d8 G c3 [(48, bA (decide (k > 0)))] fun G => b5 (H2 G (fun h4 q4 => ?_) fun h4 q4 => ?_)))
     · refine wp_exit (k6 (k6 (j8 (b5 (wp_seq (e5 G c3 [0, 1, 2, 3, 4, 6, 8] [.box [.ref 1, iA (ar0 b vs ars d j k).snd], dY b, dI vs, dI ars, dT bd, .box [iA (nm b (j + 1) E6), iA 0, .tref 6], .tree (D.exprs (ar0 b vs ars d j k).fst)] [(6, .ptr 5 0)] fun G => b5 (wp_ret ?_))))))); exact N7 (.agg [iA (nm b (j + 1) E6), iA 0, .tref 6]) G [0, 1, 2, 3, 4, 6] (by show _ = AV.ren (nth [0, 1, 2, 3, 4, 6]) (am6 b vs ars d j); unfold am6; rw [bN2 (m := k) hd (by omega) (by omega) (by omega) (by omega)] <;> rfl) (by show _ = mR [0, 1, 2, 3, 4, 6] (am5 b vs ars bd d j); unfold am5; rw [bN2 (m := k) hd (by omega) (by omega) (by omega) (by omega)] <;> rfl)
     · refine wp_skip (b5 (wp_seq (wp_block (E1 G (n7 6 (rg 5) (ih ((drK b (vs.length : Int) (ars.length : Int) d j (j2 (nm b (j + 1) E6) - k).toNat).snd) (n - 1) (by omega) (by omega) (bN4 (by omega) (by omega) (by omega) (by omega) r1))) [0, 1, 0, 0, 0, 16, 60, 124, 255, 511, 1023] [0, 1, 2, 3, 4, 5, 6, 7, 73] [.box [.ref 1, iA (D5 b (vs.length : Int) (ars.length : Int) d (ar0 b vs ars d j k).snd).snd], dY b, dI vs, dI ars, dT bd, .box (pL 2), aA4, .box [iA (nm b (j + 1) E6), iA 0, .tref 8], .tree (D.exprs ((ar0 b vs ars d j k).fst ++ [n4 (D5 b (vs.length : Int) (ars.length : Int) d (ar0 b vs ars d j k).snd).fst]))] (V2 n [(8, .ptr 7 0), (9, iA k)]) ((wO (n - 1)) :: (aP ((drK b (vs.length : Int) (ars.length : Int) d j (j2 (nm b (j + 1) E6) - k).toNat).fst.length + 1) 40 [])) ⟨oW (by omega), (aK (by omega) bW1)⟩ fun G => j0 (b5 (z3 G c3 [(9, iA (k - 1))] [wO (k - 1)] (o1 (by omega)) fun G => b5 ?_)))))); exact H9 G (k - 1) (by omega) (by omega) (rg 9) (by have e1 : ((drK b (vs.length : Int) (ars.length : Int) d j (j2 (nm b (j + 1) E6) - (k - 1)).toNat).snd : Int) = ((D5 b (vs.length : Int) (ars.length : Int) d (drK b (vs.length : Int) (ars.length : Int) d j (j2 (nm b (j + 1) E6) - k).toNat).snd).snd) := (by rw [a48 (by omega) (by omega)]; done); have e2 : ((drK b (vs.length : Int) (ars.length : Int) d j (j2 (nm b (j + 1) E6) - (k - 1)).toNat).fst : List b7) = ((drK b (vs.length : Int) (ars.length : Int) d j (j2 (nm b (j + 1) E6) - k).toNat).fst ++ [n4 (D5 b (vs.length : Int) (ars.length : Int) d (drK b (vs.length : Int) (ars.length : Int) d j (j2 (nm b (j + 1) E6) - k).toNat).snd).fst]) := (by rw [a48 (by omega) (by omega)]; (simp only [b7.eta]; done)); (first | rw [e1, e2] | simp only [e1, e2]) <;> rfl)
    ·
     refine wp_seq (wp_seq (d8 G c3 [(28, bA ((ars.length : Int) == 0))] fun G => b5 (I1 G (fun h3 q3 => ?_) fun h3 q3 => ?_)))
     · refine wp_skip (b5 (wp_seq (F5 G (m5 (f6 5 [0, 1] (B2 b (j + 1 + 1) ((ars.length : Int)) (by omega) (by omega)) (f6 8 (rg 5) (al8 b (j + 1 + 1 + 1) vs ars bd (by omega) (by omega)) m0)) fz []) [0, 0, 0, 4, 12, 30, 0, 0, 254, 510, 1023, 2047] [0, 1, 2, 3, 4, 5, 6, 79] [.box [.ref 1, iA (j + 1 + 1 + 1 + 2)], dY b, dI vs, dI ars, dT bd, .box (pL 2), .box [iA (nm b (j + 1) E6), iA (pk b (j + 1 + 1) (ars.length : Int)), .tref 7], .tree (D.exprs [n4 (j5 b (vs.length : Int) (j + 1 + 1 + 1))])] (V2 n [(7, iA (nm b (j + 1) E6))]) fun G => b5 (wp_ret (c8 ?_))))); exact N7 (.agg [iA (nm b (j + 1) E6), iA (pk b (j + 1 + 1) (ars.length : Int)), .tref 7]) G [0, 1, 2, 3, 4, 7] (by show _ = AV.ren (nth [0, 1, 2, 3, 4, 7]) (am6 b vs ars d j); unfold am6; have e1 : ((D5 b (vs.length : Int) (ars.length : Int) (d + 1) j).fst.kind : Int) = (nm b (j + 1) E6) := (by rw [bs5 hd (by omega) (by omega) (by omega)]; (simp only [Int.add_assoc, Int.reduceAdd, b7.eta, b7.kids, b7.kind, b7.value]; omega)); have e2 : ((D5 b (vs.length : Int) (ars.length : Int) (d + 1) j).fst.value : Int) = (pk b (j + 1 + 1) (ars.length : Int)) := (by rw [bs5 hd (by omega) (by omega) (by omega)]; (simp only [Int.add_assoc, Int.reduceAdd, b7.eta, b7.kids, b7.kind, b7.value]; done)); (first | rw [e1, e2] | simp only [e1, e2]) <;> rfl) (by show _ = mR [0, 1, 2, 3, 4, 7] (am5 b vs ars bd d j); unfold am5; have e1 : ((D5 b (vs.length : Int) (ars.length : Int) (d + 1) j).snd : Int) = (j + 1 + 1 + 1 + 2) := (by rw [bs5 hd (by omega) (by omega) (by omega)]; (simp only [Int.add_assoc, Int.reduceAdd, b7.eta, b7.kids, b7.kind, b7.value]; done)); have e2 : ((D5 b (vs.length : Int) (ars.length : Int) (d + 1) j).fst.kids : List b7) = ([n4 (j5 b (vs.length : Int) (j + 1 + 1 + 1))]) := (by rw [bs5 hd (by omega) (by omega) (by omega)]; show [_] = _; simp only [Int.add_assoc, Int.reduceAdd, b7.eta]; done); (first | rw [e1, e2] | simp only [e1, e2]) <;> rfl)
     · refine wp_seq (e5 G (n7 2 (rg 5) (al8 b (j + 1 + 1) vs ars bd (by omega) (by omega))) [0, 1, 2, 3, 4, 5, 6, 23] [.box [.ref 1, iA (j + 1 + 1 + 2)], dY b, dI vs, dI ars, dT bd, .box (pL 2), .box [iA (j5 b (vs.length : Int) (j + 1 + 1)).kind, iA (j5 b (vs.length : Int) (j + 1 + 1)).value, .tref 7], .tree (D.exprs (j5 b (vs.length : Int) (j + 1 + 1)).kids)] (V2 n [(7, iA (nm b (j + 1) E6))]) fun G => b5 (wp_ret (c8 (c8 ?_)))); exact N7 (.agg [iA (j5 b (vs.length : Int) (j + 1 + 1)).kind, iA (j5 b (vs.length : Int) (j + 1 + 1)).value, .tref 7]) G [0, 1, 2, 3, 4, 7] (by show _ = AV.ren (nth [0, 1, 2, 3, 4, 7]) (am6 b vs ars d j); unfold am6; have e1 : ((D5 b (vs.length : Int) (ars.length : Int) (d + 1) j).fst.kind : Int) = ((j5 b (vs.length : Int) (j + 1 + 1)).kind) := (by rw [bs6 hd (by omega) (by omega) (by omega)]; (simp only [Int.add_assoc, Int.reduceAdd, b7.eta, b7.kids, b7.kind, b7.value]; done)); have e2 : ((D5 b (vs.length : Int) (ars.length : Int) (d + 1) j).fst.value : Int) = ((j5 b (vs.length : Int) (j + 1 + 1)).value) := (by rw [bs6 hd (by omega) (by omega) (by omega)]; (simp only [Int.add_assoc, Int.reduceAdd, b7.eta, b7.kids, b7.kind, b7.value]; done)); (first | rw [e1, e2] | simp only [e1, e2]) <;> rfl) (by show _ = mR [0, 1, 2, 3, 4, 7] (am5 b vs ars bd d j); unfold am5; have e1 : ((D5 b (vs.length : Int) (ars.length : Int) (d + 1) j).snd : Int) = (j + 1 + 1 + 2) := (by rw [bs6 hd (by omega) (by omega) (by omega)]; (simp only [Int.add_assoc, Int.reduceAdd, b7.eta, b7.kids, b7.kind, b7.value]; done)); have e2 : ((D5 b (vs.length : Int) (ars.length : Int) (d + 1) j).fst : b7) = (j5 b (vs.length : Int) (j + 1 + 1)) := (by rw [bs6 hd (by omega) (by omega) (by omega)]; (simp only [Int.add_assoc, Int.reduceAdd, b7.eta, b7.kids, b7.kind, b7.value]; done)); (first | rw [e1, e2] | simp only [e1, e2]) <;> rfl)
   · refine wp_seq (e5 G (n7 2 (rg 5) (al8 b (j + 1) vs ars bd (by omega) (by omega))) [0, 1, 2, 3, 4, 5, 6, 23] [.box [.ref 1, iA (j + 1 + 2)], dY b, dI vs, dI ars, dT bd, .box (pL 2), .box [iA (j5 b (vs.length : Int) (j + 1)).kind, iA (j5 b (vs.length : Int) (j + 1)).value, .tref 7], .tree (D.exprs (j5 b (vs.length : Int) (j + 1)).kids)] (V2 n []) fun G => b5 (wp_ret (c8 ?_))); exact N7 (.agg [iA (j5 b (vs.length : Int) (j + 1)).kind, iA (j5 b (vs.length : Int) (j + 1)).value, .tref 7]) G [0, 1, 2, 3, 4, 7] (by show _ = AV.ren (nth [0, 1, 2, 3, 4, 7]) (am6 b vs ars d j); unfold am6; rw [bD0 hd (by omega)] <;> rfl) (by show _ = mR [0, 1, 2, 3, 4, 7] (am5 b vs ars bd d j); unfold am5; have e1 : ((D5 b (vs.length : Int) (ars.length : Int) (d + 1) j).snd : Int) = (j + 1 + 2) := (by rw [bD0 hd (by omega)]; (simp only [Int.add_assoc, Int.reduceAdd, b7.eta, b7.kids, b7.kind, b7.value]; done)); rw [e1, bD0 hd (by omega)] <;> rfl)
  · have q0 := P2 h0; exact False.elim (by omega)
theorem bl8 (b : List UInt8) (vs ars : List Int) (bd : List b6) : ∀ (d : Nat) (j n : Int), d ≤ 100 → n = d → 0 ≤ j → j + cE d ≤ 800000000 → d9.ok Tryz.prog (drC b vs ars bd d j n)
 | 0, j, n, _, hn, r0, r1 => a17 b vs ars bd 0 (by omega) j n hn r0 (by have := ax4 0; omega)
 | 1, j, n, _, hn, r0, r1 => a17 b vs ars bd 1 (by omega) j n hn r0 (by have := ax4 1; omega)
 | d + 2, j, n, hd, hn, r0, r1 => bp4 b vs ars bd (d + 1) (by omega) (by omega) (fun j n => bl8 b vs ars bd (d + 1) j n (by omega)) j n hn r0 r1
abbrev smC (b : List UInt8) (vs ars : List Int) (bd : List b6) (j : Int) : d9 := ⟨100, [.ptr 0 0, pA 2], dwS b j vs ars bd, dwS b (n5 b vs.length ars.length j).2 vs ars bd ++ exO (n5 b vs.length ars.length j).1, exA (n5 b vs.length ars.length j).1 5⟩
section
variable {b : List UInt8} {nv na : Nat} {j : Int}
theorem bG6 (h : f7 nv na (D5 b nv na (nm b j dpL).toNat (j + 1)).1 = true) : n5 b nv na j = D5 b nv na (nm b j dpL).toNat (j + 1) := if_pos h
theorem bG5 (h : f7 nv na (D5 b nv na (nm b j dpL).toNat (j + 1)).1 = false) : n5 b nv na j = (j5 b nv (D5 b nv na (nm b j dpL).toNat (j + 1)).2, (D5 b nv na (nm b j dpL).toNat (j + 1)).2 + 2) := if_neg (by rw [h]; decide)
theorem bP8 (r0 : 0 ≤ j) (r1 : j ≤ 700000000) : cE (nm b j dpL).toNat ≤ 364 := cE4 (dp4 b r0 (by omega)).2.2
end
abbrev R1 (b : List UInt8) (vs : List Int) (ars : List Int) (j : Int) := D5 b (vs.length : Int) (ars.length : Int) (nm b j dpL).toNat (j + 1)
theorem U6 (b : List UInt8) (vs ars : List Int) (bd : List b6) (j : Int) (r0 : 0 ≤ j) (r1 : j ≤ 700000000) : d9.ok Tryz.prog (smC b vs ars bd j) := by
 have hdr := fun (i n : Int) => bl8 b vs ars bd (nm b j dpL).toNat i n (bW4 (dp4 b r0 (by omega)).2.2 (by omega))
 refine t8 19 Tryz.func100 [.box [.ref 1, iA j], dY b, dI vs, dI ars, dT bd] [(0, .ptr 0 0), (1, pA 2)] fun G => ?_; have hd4 := bP8 (b := b) r0 r1; have hdb := aP5 b vs.length ars.length (nm b j dpL).toNat (j + 1); refine wp_seq (e5 G c3 [0, 1, 2, 3, 4, 5, 13] [.box [.ref 1, iA j], dY b, dI vs, dI ars, dT bd, .box (pL 2), .box [iA 0, iA 0, .v (.slice none 0 0)]] [(0, .ptr 0 0), (3, .ptr 5 0), (4, .ptr 6 0)] fun G => b5 (wp_seq (F5 G (m5 (f6 4 [0, 1, 31] (d9.lend (E8 b j dpL (List.cons_ne_nil _ _) (by assumption) (by omega)) [.no, .no, .row 3]) (f6 5 (rg 5) (hdr (j + 1) (nm b j dpL) (bD2 b (by omega) (by omega)) (by omega) (by omega)) m0)) fz []) [0, 0, 0, 0, 12, 31, 0, 127] [0, 1, 2, 3, 4, 5, 6, 47, 55] [.box [.ref 1, iA (R1 b vs ars j).snd], dY b, dI vs, dI ars, dT bd, .box (pL 2), .box [iA 0, iA 0, .v (.slice none 0 0)], .tree (D.exprs (R1 b vs ars j).fst.kids), .box [iA (R1 b vs ars j).fst.kind, iA (R1 b vs ars j).fst.value, .tref 7]] [(0, .ptr 0 0), (3, .ptr 5 0), (4, .ptr 6 0), (5, .ptr 8 0)] fun G => b5 (wp_seq (wp_seq (d8 G (n7 2 [2, 3, 4, 7] (d9.lend (aX8 vs ars bd ((D5 b (vs.length : Int) (ars.length : Int) (nm b j dpL).toNat (j + 1)).fst)) [.no, .no, .no, .tree])) [(14, bA (f7 vs.length ars.length (R1 b vs ars j).fst))] fun G => b5 (rcB (b := f7 vs.length ars.length (D5 b (vs.length : Int) (ars.length : Int) (nm b j dpL).toNat (j + 1)).fst) G (fun h0 => ?_) fun h0 => ?_)))))))
 ·refine wp_skip (b5 (wp_seq (e5 G (n7 2 (rg 5) (al8 b ((D5 b (vs.length : Int) (ars.length : Int) (nm b j dpL).toNat (j + 1)).snd) vs ars bd (by omega) (by omega))) [0, 1, 2, 3, 4, 6, 25] [.box [.ref 1, iA ((R1 b vs ars j).snd + 2)], dY b, dI vs, dI ars, dT bd, .box [iA (j5 b (vs.length : Int) (R1 b vs ars j).snd).kind, iA (j5 b (vs.length : Int) (R1 b vs ars j).snd).value, .tref 6], .tree (D.exprs (j5 b (vs.length : Int) (R1 b vs ars j).snd).kids)] [(4, .ptr 5 0)] fun G => b5 (wp_ret ?_)))); exact N7 (.agg [iA (j5 b (vs.length : Int) (D5 b (vs.length : Int) (ars.length : Int) (nm b j dpL).toNat (j + 1)).snd).kind, iA (j5 b (vs.length : Int) (D5 b (vs.length : Int) (ars.length : Int) (nm b j dpL).toNat (j + 1)).snd).value, .tref 6]) G [0, 1, 2, 3, 4, 6] (by show _ = AV.ren (nth [0, 1, 2, 3, 4, 6]) (.agg [iA (n5 b vs.length ars.length j).fst.kind, iA (n5 b vs.length ars.length j).fst.value, .tref 5]); rw [bG5 (by with_reducible assumption)] <;> rfl) (by show _ = mR [0, 1, 2, 3, 4, 6] [.box [.ref 1, iA (n5 b vs.length ars.length j).snd], dY b, dI vs, dI ars, dT bd, .tree (D.exprs (n5 b vs.length ars.length j).fst.kids)]; rw [bG5 (by with_reducible assumption)] <;> rfl)
 ·refine wp_seq (e5 G c3 (rg 8) [.box [.ref 1, iA (R1 b vs ars j).snd], dY b, dI vs, dI ars, dT bd, .box (pL 2), .box [iA (R1 b vs ars j).fst.kind, iA (R1 b vs ars j).fst.value, .tref 7], .tree (D.exprs (R1 b vs ars j).fst.kids)] [(0, .ptr 0 0), (3, .ptr 5 0), (4, .ptr 6 0)] fun G => b5 (wp_ret (c8 ?_))); exact N7 (.agg [iA (D5 b (vs.length : Int) (ars.length : Int) (nm b j dpL).toNat (j + 1)).fst.kind, iA (D5 b (vs.length : Int) (ars.length : Int) (nm b j dpL).toNat (j + 1)).fst.value, .tref 7]) G [0, 1, 2, 3, 4, 7] (by show _ = AV.ren (nth [0, 1, 2, 3, 4, 7]) (.agg [iA (n5 b vs.length ars.length j).fst.kind, iA (n5 b vs.length ars.length j).fst.value, .tref 5]); rw [bG6 (by with_reducible assumption)] <;> rfl) (by show _ = mR [0, 1, 2, 3, 4, 7] [.box [.ref 1, iA (n5 b vs.length ars.length j).snd], dY b, dI vs, dI ars, dT bd, .tree (D.exprs (n5 b vs.length ars.length j).fst.kids)]; rw [bG6 (by with_reducible assumption)] <;> rfl)
abbrev stO (s : b6) : List It := [.tree (.exprs s.index.kids), .tree (.exprs s.value.kids), .tree (.stmts s.body), .tree (.stmts s.els)]
abbrev stA (s : b6) (r : Nat) : AV := .agg [iA s.kind, iA s.target, iA s.index.kind, iA s.index.value, .tref r, iA s.value.kind, iA s.value.value, .tref (r + 1), iA s.count, .tref (r + 2), .tref (r + 3)]
abbrev dsC (b : List UInt8) (vs ars : List Int) (bd : List b6) (d : Nat) (j n : Int) : d9 := ⟨92, [.ptr 0 0, pA 2, iA n], dwS b j vs ars bd, dwS b (t7 b vs.length ars.length d j).2 vs ars bd ++ stO (t7 b vs.length ars.length d j).1, stA (t7 b vs.length ars.length d j).1 5⟩
abbrev dbC (b : List UInt8) (vs ars : List Int) (bd : List b6) (d : Nat) (m : Nat) (j n c : Int) : d9 := ⟨80, [.ptr 0 0, pA 2, iA n, iA c], dwS b j vs ars bd, dwS b (z7 (t7 b vs.length ars.length d) m j).2 vs ars bd ++ [.tree (.stmts (z7 (t7 b vs.length ars.length d) m j).1)], .tref 5⟩
section
variable {b : List UInt8} {nv na d : Nat} {j : Int}
theorem bc8 (h : nm b j C7 = 2) (h1 : 0 < (na : Int)) : t7 b nv na d j = soS b nv na (j + 1) := by
 cases d <;> (rw [t7, if_pos ⟨h, by omega⟩])
theorem bG4 (h : nm b j C7 = 3) (h1 : 0 < d) : t7 b nv na (d + 1) j = ifS b nv na (t7 b nv na d) (j + 1) := by
 rw [t7, if_neg (by omega), if_pos ⟨h, by omega⟩]
theorem bG3 (h : nm b j C7 = 4) (h1 : 0 < d) : t7 b nv na (d + 1) j = rpS b (t7 b nv na d) (j + 1) := by
 rw [t7, if_neg (by omega), if_neg (by omega), if_pos ⟨h, by omega⟩]
theorem X4 (h : ¬ (nm b j C7 = 2 ∧ 0 < (na : Int))) (h1 : d < 2 ∨ (¬ nm b j C7 = 3 ∧ ¬ nm b j C7 = 4)) : t7 b nv na d j = dfS b nv na (nm b j C7) (j + 1) := by
 match d, h1 with
 | 0, _ => rw [t7, if_neg (by omega)]
 | d + 1, h1 => rw [t7, if_neg (by omega), if_neg (by omega), if_neg (by omega)]
theorem bD3 {kd : Int} (h : kd = 5) : dfS b nv na kd j = (⟨5, pk b j nv, noE, (n5 b nv na (j + 1)).1, 0, [], []⟩, (n5 b nv na (j + 1)).2) := by rw [dfS, if_pos h]
theorem aP6 {kd : Int} (h : ¬ kd = 5) : dfS b nv na kd j = (⟨1, pk b j nv, noE, (n5 b nv na (j + 1)).1, 0, [], []⟩, (n5 b nv na (j + 1)).2) := by rw [dfS, if_neg h]
end
section
variable (b : List UInt8) {j : Int}
theorem bT8 (r0 : 0 ≤ j) (r1 : j ≤ 1000000000) : 0 ≤ nm b j ibL ∧ nm b j ibL ≤ 2 := aB3 b (by simp) aW1 r0 r1
theorem bT7 (r0 : 0 ≤ j) (r1 : j ≤ 1000000000) : 0 ≤ nm b j ieL ∧ nm b j ieL ≤ 2 := aB3 b (by simp) aV9 r0 r1
theorem bQ8 (r0 : 0 ≤ j) (r1 : j ≤ 1000000000) : 0 ≤ nm b j rbL ∧ nm b j rbL ≤ 2 := aB3 b (by simp) aU4 r0 r1
theorem bt9 (d : Nat) : (d = 0 ∧ cS (d - 1) = 402 ∧ cS d ≤ 2010) ∨ cS d = 402 + 4 * cS (d - 1) := by
 cases d with
 | zero => exact .inl ⟨rfl, rfl, by decide⟩
 | succ d => exact .inr rfl
end
section
variable {b : List UInt8} {nv na d : Nat} {j : Int}
theorem aT3 (h : nm b j C7 = 3) (h1 : 1 < d) : t7 b nv na d j = ifS b nv na (t7 b nv na (d - 1)) (j + 1) := by
 match d, h1 with
 | d + 1, h1 => exact bG4 h (by omega)
theorem aT2 (h : nm b j C7 = 4) (h1 : 1 < d) : t7 b nv na d j = rpS b (t7 b nv na (d - 1)) (j + 1) := by
 match d, h1 with
 | d + 1, h1 => exact bG3 h (by omega)
end
abbrev bv3 (b : List UInt8) (vs : List Int) (ars : List Int) (d : Nat) (j : Int) (k : Nat) := t7 b vs.length ars.length d (z7 (t7 b vs.length ars.length d) k j).snd
abbrev aJ7 (n : Int) (c : Int) (r0 : List (Nat × AV)) : List (Nat × AV) := (0, .ptr 0 0) :: (2, iA n) :: (3, iA c) :: (5, .ptr 5 0) :: (8, .v (.slice none 0 0)) :: r0
theorem bp5 (b : List UInt8) (vs ars : List Int) (bd : List b6) (d m : Nat) (ih : ∀ (j n : Int), n = d → 0 ≤ j → j + cS d ≤ 600000000 → d9.ok Tryz.prog (dsC b vs ars bd d j n)) (j n c : Int) (hn : n = d) (hm : c = m) (hm2 : m ≤ 4) (B : Int) (hB : (m : Int) * cS d ≤ B) (r0 : 0 ≤ j) (r1 : j + B ≤ 600000000) : d9.ok Tryz.prog (dbC b vs ars bd d m j n c) := by
 refine t8 25 Tryz.func80 [.box [.ref 1, iA j], dY b, dI vs, dI ars, dT bd] [(0, .ptr 0 0), (1, pA 2), (2, iA n), (3, iA c)] fun G => ?_; have hc := an6 d; refine wp_seq (e5 G c3 (rg 6) [.box [.ref 1, iA j], dY b, dI vs, dI ars, dT bd, .box (pL 2)] (aJ7 n c []) fun G => b5 (wp_seq (e5 G c3 (rg 7) [.box [.ref 1, iA j], dY b, dI vs, dI ars, dT bd, .box (pL 2), .tree (D.stmts [])] (aJ7 n c [(9, .tref 6)]) fun G => b5 (wp_seq (wp_seq (w5 G c3 (aJ7 n c [(9, .tref 6), (10, iA 0)]) fun G => b5 (wp_block ?_))))))); refine l0 (κ := Nat) (fun k => k ≤ m) (fun k => m - k) (fun k => [.box [.ref 1, iA (z7 (t7 b vs.length ars.length d) k j).2], dY b, dI vs, dI ars, dT bd, .box (pL 2), .tree (.stmts (z7 (t7 b vs.length ars.length d) k j).1)]) (fun k => [(0, .ptr 0 0), (2, iA n), (3, iA c), (5, .ptr 5 0), (8, .v (.slice none 0 0)), (9, .tref 6), (10, iA k)]) 0 (by omega) (l7.at G _ _) ?_; clear G; intro k ρ a w hp G; replace G := l7.at G [.box [.ref 1, iA (z7 (t7 b vs.length ars.length d) k j).snd], dY b, dI vs, dI ars, dT bd, .box (pL 2), .tree (D.stmts (z7 (t7 b vs.length ars.length d) k j).fst)] (aJ7 n c [(9, .tref 6), (10, iA k)]); have hkb := by1 b vs.length ars.length (k := j) (i := k) hB (by omega) r0 (by omega); have hkl : (z7 (t7 b vs.length ars.length d) k j).1.length = k := aI1 _ _ _; refine wp_seq (wp_seq (d8 G c3 [(14, bA (decide ((k : Int) < c)))] fun G => b5 (H2 G (fun h0 q0 => ?_) fun h0 q0 => ?_)))
 ·refine wp_exit (k6 (k6 (j8 (b5 (wp_seq (e5 G c3 [0, 1, 2, 3, 4, 6] [.box [.ref 1, iA (z7 (t7 b vs.length ars.length d) k j).snd], dY b, dI vs, dI ars, dT bd, .tree (D.stmts (z7 (t7 b vs.length ars.length d) k j).fst)] [(8, .tref 5)] fun G => b5 (wp_ret ?_))))))); exact A0 G (rg 6) (by show _ = mR (rg 6) [.box [.ref 1, iA (z7 (t7 b vs.length ars.length d) m j).snd], dY b, dI vs, dI ars, dT bd, .tree (D.stmts (z7 (t7 b vs.length ars.length d) m j).fst)]; rw [show m = k by omega] <;> rfl)
 ·refine wp_skip (b5 (wp_seq (wp_block (L5 G (n7 4 (rg 5) (ih ((z7 (t7 b vs.length ars.length d) k j).snd) n (by assumption) (by omega) (by have := bO4 b vs.length ars.length (k := j) (i := k) hB (by omega) r0 (by omega); omega))) [0, 1, 2, 3, 4, 5, 55] [.box [.ref 1, iA (bv3 b vs ars d j k).snd], dY b, dI vs, dI ars, dT bd, .box (pL 2), .tree (D.stmts ((z7 (t7 b vs.length ars.length d) k j).fst ++ [qzS (bv3 b vs ars d j k).fst]))] (aJ7 n c [(9, .tref 6), (10, iA k)]) (aP ((z7 (t7 b vs.length ars.length d) k j).fst.length + 1) 152 []) (aK (by omega) bW1) fun G => j0 (b5 (z3 G c3 [(10, iA ((k : Int) + 1))] [wO ((k : Int) + 1)] (o1 (by omega)) fun G => b5 ?_)))))); exact H9 G (k + 1) (by omega) (by omega) (rg 7) (by have e1 : ((z7 (t7 b vs.length ars.length d) (k + 1) j).fst : List b6) = ((z7 (t7 b vs.length ars.length d) k j).fst ++ [qzS (t7 b vs.length ars.length d (z7 (t7 b vs.length ars.length d) k j).snd).fst]) := (by show _ ++ [_] = _ ++ [_]; unfold qzS; rw [b7.eta, b7.eta, b6.eta]; done); (first | rw [e1] | simp only [e1]) <;> rfl)
abbrev aA3 (b : List UInt8) (vs : List Int) (ars : List Int) (d : Nat) (j : Int) := z7 (t7 b vs.length ars.length (d - 1)) (nm b (n5 b vs.length ars.length (j + 1)).snd ibL).toNat ((n5 b vs.length ars.length (j + 1)).snd + 1)
abbrev a03 (b : List UInt8) (vs : List Int) (ars : List Int) (d : Nat) (j : Int) := z7 (t7 b vs.length ars.length (d - 1)) (nm b (aA3 b vs ars d j).snd ieL).toNat ((aA3 b vs ars d j).snd + 1)
abbrev K4 (b : List UInt8) (vs : List Int) (ars : List Int) (d : Nat) (j : Int) : AV := (.agg [iA (t7 b vs.length ars.length d j).fst.kind, iA (t7 b vs.length ars.length d j).fst.target, iA (t7 b vs.length ars.length d j).fst.index.kind, iA (t7 b vs.length ars.length d j).fst.index.value, .tref 5, iA (t7 b vs.length ars.length d j).fst.value.kind, iA (t7 b vs.length ars.length d j).fst.value.value, .tref 6, iA (t7 b vs.length ars.length d j).fst.count, .tref 7, .tref 8])
abbrev K3 (b : List UInt8) (vs : List Int) (ars : List Int) (bd : List b6) (d : Nat) (j : Int) : List It := [.box [.ref 1, iA (t7 b vs.length ars.length d j).snd], dY b, dI vs, dI ars, dT bd, .tree (D.exprs (t7 b vs.length ars.length d j).fst.index.kids), .tree (D.exprs (t7 b vs.length ars.length d j).fst.value.kids), .tree (D.stmts (t7 b vs.length ars.length d j).fst.body), .tree (D.stmts (t7 b vs.length ars.length d j).fst.els)]
abbrev af8 : It := .box [iA 0, iA 0, iA 0, iA 0, .v (.slice none 0 0), iA 0, iA 0, .v (.slice none 0 0), iA 0, .v (.slice none 0 0), .v (.slice none 0 0)]
abbrev a02 (b : List UInt8) (vs : List Int) (ars : List Int) (j : Int) : It := .box [iA 1, iA (pk b (j + 1) (vs.length : Int)), iA 0, iA 0, .v (.slice none 0 0), iA (n5 b vs.length ars.length (j + 1 + 1)).fst.kind, iA (n5 b vs.length ars.length (j + 1 + 1)).fst.value, .tref 7, iA 0, .v (.slice none 0 0), .v (.slice none 0 0)]
abbrev a01 (b : List UInt8) (vs : List Int) (ars : List Int) (j : Int) : It := .box [iA 1, iA (pk b (j + 1) (vs.length : Int)), iA 0, iA 0, .v (.slice none 0 0), iA (n5 b vs.length ars.length (j + 1 + 1)).fst.kind, iA (n5 b vs.length ars.length (j + 1 + 1)).fst.value, .tref 6, iA 0, .v (.slice none 0 0), .v (.slice none 0 0)]
abbrev a00 (b : List UInt8) (vs : List Int) (j : Int) : It := .box [iA 1, iA (pk b (j + 1) (vs.length : Int)), iA 0, iA 0, .v (.slice none 0 0), iA 0, iA 0, .v (.slice none 0 0), iA 0, .v (.slice none 0 0), .v (.slice none 0 0)]
abbrev ac1 (b : List UInt8) (vs : List Int) (ars : List Int) (j : Int) : It := .tree (D.exprs (n5 b vs.length ars.length (j + 1 + 1)).fst.kids)
abbrev P7 (b : List UInt8) (vs : List Int) (ars : List Int) (j : Int) : It := .box [.ref 1, iA (n5 b vs.length ars.length (j + 1 + 1)).snd]
abbrev aE0 : It := .box [iA 1, iA 0, iA 0, iA 0, .v (.slice none 0 0), iA 0, iA 0, .v (.slice none 0 0), iA 0, .v (.slice none 0 0), .v (.slice none 0 0)]
abbrev aZ2 (b : List UInt8) (vs : List Int) (ars : List Int) (bd : List b6) (j : Int) (r0 : List It) : List It := .box [.ref 1, iA (n5 b vs.length ars.length (j + 1 + 1)).snd] :: dY b :: dI vs :: dI ars :: dT bd :: .box [iA 1, iA (pk b (j + 1) (vs.length : Int)), iA 0, iA 0, .tref 7, iA (n5 b vs.length ars.length (j + 1 + 1)).fst.kind, iA (n5 b vs.length ars.length (j + 1 + 1)).fst.value, .tref 6, iA 0, .tref 8, .tref 9] :: .tree (D.exprs (n5 b vs.length ars.length (j + 1 + 1)).fst.kids) :: .tree (D.exprs []) :: .tree (D.stmts []) :: r0
abbrev aZ1 (b : List UInt8) (vs : List Int) (ars : List Int) (bd : List b6) (j : Int) (r0 : List It) : List It := .box [.ref 1, iA (n5 b vs.length ars.length (j + 1 + 1)).snd] :: dY b :: dI vs :: dI ars :: dT bd :: .box [iA 1, iA (pk b (j + 1) (vs.length : Int)), iA 0, iA 0, .tref 7, iA (n5 b vs.length ars.length (j + 1 + 1)).fst.kind, iA (n5 b vs.length ars.length (j + 1 + 1)).fst.value, .tref 6, iA 0, .tref 8, .v (.slice none 0 0)] :: .tree (D.exprs (n5 b vs.length ars.length (j + 1 + 1)).fst.kids) :: .tree (D.exprs []) :: r0
abbrev aZ0 (b : List UInt8) (vs : List Int) (ars : List Int) (bd : List b6) (j : Int) (r0 : List It) : List It := .box [.ref 1, iA (n5 b vs.length ars.length (j + 1 + 1)).snd] :: dY b :: dI vs :: dI ars :: dT bd :: .box [iA 1, iA (pk b (j + 1) (vs.length : Int)), iA 0, iA 0, .tref 7, iA (n5 b vs.length ars.length (j + 1 + 1)).fst.kind, iA (n5 b vs.length ars.length (j + 1 + 1)).fst.value, .tref 6, iA 0, .v (.slice none 0 0), .v (.slice none 0 0)] :: .tree (D.exprs (n5 b vs.length ars.length (j + 1 + 1)).fst.kids) :: r0
abbrev O3 (r0 : List (Nat × AV)) : List (Nat × AV) := (0, .ptr 0 0) :: (4, .ptr 5 0) :: (6, .ptr 6 0) :: (8, .ptr 7 0) :: r0
abbrev aJ6 (b : List UInt8) (vs : List Int) (ars : List Int) (d : Nat) (j : Int) (r0 : List It) : List It := .box [.ref 1, iA (z7 (t7 b vs.length ars.length (d - 1)) (nm b (j + 1 + 1) rbL).toNat (j + 1 + 1 + 1)).snd] :: dY b :: dI vs :: dI ars :: r0
abbrev af7 (n : Int) (r0 : List (Nat × AV)) : List (Nat × AV) := (0, .ptr 0 0) :: (2, iA n) :: (4, .ptr 5 0) :: (6, .ptr 6 0) :: r0
abbrev I3 (b : List UInt8) (vs : List Int) (ars : List Int) (bd : List b6) (r0 : List It) : List It := dY b :: dI vs :: dI ars :: dT bd :: .box (pL 2) :: af8 :: r0
abbrev aY9 (b : List UInt8) (vs : List Int) (ars : List Int) (j : Int) (r0 : List It) : List It := .tree (D.exprs (j5 b (vs.length : Int) (j + 1 + 1)).kids) :: .tree (D.exprs (n5 b vs.length ars.length (j + 1 + 1 + 2)).fst.kids) :: r0
theorem bd6 (b : List UInt8) (vs ars : List Int) (bd : List b6) (d : Nat) (hd : d ≤ 3) (ih : ∀ (j n c : Int), 1 < d → n = (d : Int) - 1 → 0 ≤ c → c ≤ 2 → 0 ≤ j → j + 2 * cS (d - 1) ≤ 600000000 → d9.ok Tryz.prog (dbC b vs ars bd (d - 1) c.toNat j n c)) (j n : Int) (hn : n = d) (r0 : 0 ≤ j) (r1 : j + cS d ≤ 600000000) : d9.ok Tryz.prog (dsC b vs ars bd d j n) := by
  refine t8 100 Tryz.func92 [.box [.ref 1, iA j], dY b, dI vs, dI ars, dT bd] [(0, .ptr 0 0), (1, pA 2), (2, iA n)] fun G => ?_; have hc := an6 (d - 1); have hcd := bt9 d; have hcn := an6 d; have hsm := a14 b vs.length ars.length (k := j + 1) (by omega) (by omega); have hib := bT8 b (j := (n5 b vs.length ars.length (j + 1)).2) (by omega) (by omega); have hbb := by1 b vs.length ars.length (k := (n5 b vs.length ars.length (j + 1)).2 + 1) (i := (nm b (n5 b vs.length ars.length (j + 1)).2 ibL).toNat) (bJ5 hib.1 hib.2 (show 0 ≤ cS (d - 1) by omega)) (bV9 _) (by omega) (by omega); have hie := bT7 b (j := (z7 (t7 b vs.length ars.length (d - 1)) (nm b (n5 b vs.length ars.length (j + 1)).2 ibL).toNat ((n5 b vs.length ars.length (j + 1)).2 + 1)).2) (by omega) (by omega); have hrb := bQ8 b (j := j + 1 + 1) (by omega) (by omega); refine wp_seq (e5 G c3 [0, 1, 2, 3, 4, 5, 13] (.box [.ref 1, iA j] :: (I3 b vs ars bd [])) (af7 n []) fun G => b5 (wp_seq (e5 G (n7 2 [0, 1, 15] (d9.lend (E8 b j C7 (List.cons_ne_nil _ _) (by assumption) (by omega)) [.no, .no, .row 3])) (rg 7) (.box [.ref 1, iA (j + 1)] :: (I3 b vs ars bd [])) (af7 n [(7, iA (nm b j C7))]) fun G => b5 (wp_seq (e5 G c3 [0, 1, 2, 3, 4, 5, 6, 23] (.box [.ref 1, iA (j + 1)] :: (I3 b vs ars bd [.box [iA (nm b j C7), iA 0, iA 0, iA 0, .v (.slice none 0 0), iA 0, iA 0, .v (.slice none 0 0), iA 0, .v (.slice none 0 0), .v (.slice none 0 0)]])) (af7 n [(7, iA (nm b j C7)), (8, .ptr 7 0)]) fun G => b5 (wp_seq (wp_block (wp_seq ?_)))))))); cases h0 : (nm b j C7 == 2)
  ·
   have q0 := ne_of_beq_false h0; refine d8 G (z4 (fc h0 fz) (us [(3, 6, 0), (1007, 1007, 0)])) [(27, bA false)] fun G => b5 (rF G false (by kernel_rfl) (wp_seq ?_)); cases h1 : (nm b j C7 == 3)
   ·
    have q1 := ne_of_beq_false h1; refine d8 G (z4 (fc h1 fz) [(3, 0), (4, 0), (1005, 0)]) [(50, bA false)] fun G => b5 (rF G false (by kernel_rfl) (wp_seq ?_)); cases h2 : (nm b j C7 == 4)
    ·
     have q2 := ne_of_beq_false h2; refine d8 G (z4 (fc h2 fz) [(3, 0), (4, 0), (1005, 0)]) [(79, bA false)] fun G => b5 (rF G false (by kernel_rfl) (wp_seq (wp_seq (d8 G c3 [(15, bA (nm b j C7 != 5))] fun G => b5 (rcN G (fun h3 q3 => ?_) fun h3 q3 => ?_)))))
     · refine wp_skip (b5 (wp_seq (e5 G (n7 4 [0, 1] (B2 b (j + 1) ((vs.length : Int)) (by omega) (by omega))) (rg 8) (.box [.ref 1, iA (j + 1 + 1)] :: (I3 b vs ars bd [.box [iA (nm b j C7), iA (pk b (j + 1) (vs.length : Int)), iA 0, iA 0, .v (.slice none 0 0), iA 0, iA 0, .v (.slice none 0 0), iA 0, .v (.slice none 0 0), .v (.slice none 0 0)]])) (O3 []) fun G => b5 (e5 G (n7 2 (rg 5) (U6 b vs ars bd (j + 1 + 1) (by omega) (by omega))) [0, 1, 2, 3, 4, 6, 7, 24] [P7 b vs ars j, dY b, dI vs, dI ars, dT bd, af8, .box [iA (nm b j C7), iA (pk b (j + 1) (vs.length : Int)), iA 0, iA 0, .v (.slice none 0 0), iA (n5 b vs.length ars.length (j + 1 + 1)).fst.kind, iA (n5 b vs.length ars.length (j + 1 + 1)).fst.value, .tref 7, iA 0, .v (.slice none 0 0), .v (.slice none 0 0)], ac1 b vs ars j] [(6, .ptr 5 0), (8, .ptr 6 0)] fun G => j0 (b5 (wp_seq (e5 G c3 [0, 1, 2, 3, 4, 5, 7] [P7 b vs ars j, dY b, dI vs, dI ars, dT bd, .box [iA (nm b j C7), iA (pk b (j + 1) (vs.length : Int)), iA 0, iA 0, .v (.slice none 0 0), iA (n5 b vs.length ars.length (j + 1 + 1)).fst.kind, iA (n5 b vs.length ars.length (j + 1 + 1)).fst.value, .tref 6, iA 0, .v (.slice none 0 0), .v (.slice none 0 0)], ac1 b vs ars j] [(6, .ptr 5 0)] fun G => b5 (wp_ret ?_)))))))); obtain ⟨ρ, G⟩ := G.nilT 7 (.exprs []) [.box [.ref 1, iA (n5 b vs.length ars.length (j + 1 + 1)).snd], dY b, dI vs, dI ars, dT bd, .box [iA (nm b j C7), iA (pk b (j + 1) (vs.length : Int)), iA 0, iA 0, .tref 7, iA (n5 b vs.length ars.length (j + 1 + 1)).fst.kind, iA (n5 b vs.length ars.length (j + 1 + 1)).fst.value, .tref 6, iA 0, .v (.slice none 0 0), .v (.slice none 0 0)], .tree (D.exprs (n5 b vs.length ars.length (j + 1 + 1)).fst.kids)] [(6, .ptr 5 0)]; obtain ⟨ρ, G⟩ := G.nilT 8 (.stmts []) [.box [.ref 1, iA (n5 b vs.length ars.length (j + 1 + 1)).snd], dY b, dI vs, dI ars, dT bd, .box [iA (nm b j C7), iA (pk b (j + 1) (vs.length : Int)), iA 0, iA 0, .tref 7, iA (n5 b vs.length ars.length (j + 1 + 1)).fst.kind, iA (n5 b vs.length ars.length (j + 1 + 1)).fst.value, .tref 6, iA 0, .tref 8, .v (.slice none 0 0)], .tree (D.exprs (n5 b vs.length ars.length (j + 1 + 1)).fst.kids), .tree (D.exprs [])] [(6, .ptr 5 0)]; obtain ⟨ρ, G⟩ := G.nilT 9 (.stmts []) [.box [.ref 1, iA (n5 b vs.length ars.length (j + 1 + 1)).snd], dY b, dI vs, dI ars, dT bd, .box [iA (nm b j C7), iA (pk b (j + 1) (vs.length : Int)), iA 0, iA 0, .tref 7, iA (n5 b vs.length ars.length (j + 1 + 1)).fst.kind, iA (n5 b vs.length ars.length (j + 1 + 1)).fst.value, .tref 6, iA 0, .tref 8, .tref 9], .tree (D.exprs (n5 b vs.length ars.length (j + 1 + 1)).fst.kids), .tree (D.exprs []), .tree (D.stmts [])] [(6, .ptr 5 0)]; exact N7 (.agg [iA (nm b j C7), iA (pk b (j + 1) (vs.length : Int)), iA 0, iA 0, .tref 7, iA (n5 b vs.length ars.length (j + 1 + 1)).fst.kind, iA (n5 b vs.length ars.length (j + 1 + 1)).fst.value, .tref 6, iA 0, .tref 8, .tref 9]) G [0, 1, 2, 3, 4, 7, 6, 8, 9] (by show _ = AV.ren (nth [0, 1, 2, 3, 4, 7, 6, 8, 9]) (K4 b vs ars d j); unfold K4; have e1 : ((t7 b vs.length ars.length d j).fst.kind : Int) = (nm b j C7) := (by rw [X4 (by omega) (by omega), bD3 (by omega)]; show (5 : Int) = _; omega); rw [e1, X4 (by omega) (by omega), bD3 (by omega)] <;> rfl) (by show _ = mR [0, 1, 2, 3, 4, 7, 6, 8, 9] (K3 b vs ars bd d j); unfold K3; rw [X4 (by omega) (by omega), bD3 (by omega)] <;> rfl)
     · refine e5 G c3 (rg 8) (.box [.ref 1, iA (j + 1)] :: (I3 b vs ars bd [aE0])) (O3 []) fun G => b5 (wp_seq (e5 G (n7 4 [0, 1] (B2 b (j + 1) ((vs.length : Int)) (by omega) (by omega))) (rg 8) (.box [.ref 1, iA (j + 1 + 1)] :: (I3 b vs ars bd [a00 b vs j])) (O3 []) fun G => b5 (e5 G (n7 2 (rg 5) (U6 b vs ars bd (j + 1 + 1) (by omega) (by omega))) [0, 1, 2, 3, 4, 6, 7, 24] [P7 b vs ars j, dY b, dI vs, dI ars, dT bd, af8, a02 b vs ars j, ac1 b vs ars j] [(6, .ptr 5 0), (8, .ptr 6 0)] fun G => j0 (b5 (wp_seq (e5 G c3 [0, 1, 2, 3, 4, 5, 7] [P7 b vs ars j, dY b, dI vs, dI ars, dT bd, a01 b vs ars j, ac1 b vs ars j] [(6, .ptr 5 0)] fun G => b5 (wp_ret ?_))))))); obtain ⟨ρ, G⟩ := G.nilT 7 (.exprs []) (aZ0 b vs ars bd j []) [(6, .ptr 5 0)]; obtain ⟨ρ, G⟩ := G.nilT 8 (.stmts []) (aZ1 b vs ars bd j []) [(6, .ptr 5 0)]; obtain ⟨ρ, G⟩ := G.nilT 9 (.stmts []) (aZ2 b vs ars bd j []) [(6, .ptr 5 0)]; exact N7 (.agg [iA 1, iA (pk b (j + 1) (vs.length : Int)), iA 0, iA 0, .tref 7, iA (n5 b vs.length ars.length (j + 1 + 1)).fst.kind, iA (n5 b vs.length ars.length (j + 1 + 1)).fst.value, .tref 6, iA 0, .tref 8, .tref 9]) G [0, 1, 2, 3, 4, 7, 6, 8, 9] (by show _ = AV.ren (nth [0, 1, 2, 3, 4, 7, 6, 8, 9]) (K4 b vs ars d j); unfold K4; rw [X4 (by omega) (by omega), aP6 (by omega)] <;> rfl) (by show _ = mR [0, 1, 2, 3, 4, 7, 6, 8, 9] (K3 b vs ars bd d j); unfold K3; rw [X4 (by omega) (by omega), aP6 (by omega)] <;> rfl)
    ·
     have q2 := eq_of_beq h2; refine d8 G (z4 (fc h2 fz) [(3, 0), (4, 0), (1005, 0)]) [(79, bA (decide (n > 1)))] fun G => b5 (H2 G (fun h4 q4 => ?_) fun h4 q4 => ?_)
     ·
      refine wp_seq (wp_seq (w5 G c3 (O3 [(15, bA (nm b j C7 != 5))]) fun G => b5 ?_)); cases h5 : (nm b j C7 != 5)
      · have q5 := bne_eq_false_iff_eq.1 h5; exact False.elim (by omega)
      · have q5 := bne_iff_ne.1 h5; refine rT G _ h5 (e5 G c3 (rg 8) (.box [.ref 1, iA (j + 1)] :: (I3 b vs ars bd [aE0])) (O3 []) fun G => b5 (wp_seq (e5 G (n7 4 [0, 1] (B2 b (j + 1) ((vs.length : Int)) (by omega) (by omega))) (rg 8) (.box [.ref 1, iA (j + 1 + 1)] :: (I3 b vs ars bd [a00 b vs j])) (O3 []) fun G => b5 (e5 G (n7 2 (rg 5) (U6 b vs ars bd (j + 1 + 1) (by omega) (by omega))) [0, 1, 2, 3, 4, 6, 7, 24] [P7 b vs ars j, dY b, dI vs, dI ars, dT bd, af8, a02 b vs ars j, ac1 b vs ars j] [(6, .ptr 5 0), (8, .ptr 6 0)] fun G => j0 (b5 (wp_seq (e5 G c3 [0, 1, 2, 3, 4, 5, 7] [P7 b vs ars j, dY b, dI vs, dI ars, dT bd, a01 b vs ars j, ac1 b vs ars j] [(6, .ptr 5 0)] fun G => b5 (wp_ret ?_)))))))); obtain ⟨ρ, G⟩ := G.nilT 7 (.exprs []) (aZ0 b vs ars bd j []) [(6, .ptr 5 0)]; obtain ⟨ρ, G⟩ := G.nilT 8 (.stmts []) (aZ1 b vs ars bd j []) [(6, .ptr 5 0)]; obtain ⟨ρ, G⟩ := G.nilT 9 (.stmts []) (aZ2 b vs ars bd j []) [(6, .ptr 5 0)]; exact N7 (.agg [iA 1, iA (pk b (j + 1) (vs.length : Int)), iA 0, iA 0, .tref 7, iA (n5 b vs.length ars.length (j + 1 + 1)).fst.kind, iA (n5 b vs.length ars.length (j + 1 + 1)).fst.value, .tref 6, iA 0, .tref 8, .tref 9]) G [0, 1, 2, 3, 4, 7, 6, 8, 9] (by show _ = AV.ren (nth [0, 1, 2, 3, 4, 7, 6, 8, 9]) (K4 b vs ars d j); unfold K4; rw [X4 (by omega) (by omega), aP6 (by omega)] <;> rfl) (by show _ = mR [0, 1, 2, 3, 4, 7, 6, 8, 9] (K3 b vs ars bd d j); unfold K3; rw [X4 (by omega) (by omega), aP6 (by omega)] <;> rfl)
     · refine wp_seq (e5 G (n7 2 [0, 1, 16] (d9.lend (E8 b (j + 1) rcL (by simp [h0, h1, h2, h4]) (by omega) (by omega)) [.no, .no, .row 3])) (rg 8) (.box [.ref 1, iA (j + 1 + 1)] :: (I3 b vs ars bd [.box [iA (nm b j C7), iA 0, iA 0, iA 0, .v (.slice none 0 0), iA 0, iA 0, .v (.slice none 0 0), iA (nm b (j + 1) rcL), .v (.slice none 0 0), .v (.slice none 0 0)]])) (af7 n [(8, .ptr 7 0)]) fun G => b5 (E1 G (m5 (f6 6 [0, 1, 48] (d9.lend (E8 b (j + 1 + 1) rbL (by simp [h0, h1, h2, h4]) (by omega) (by omega)) [.no, .no, .row 3]) (f6 7 (rg 5) (ih (j + 1 + 1 + 1) (n - 1) (nm b (j + 1 + 1) rbL) (by omega) (by omega) (by omega) (by omega) (by omega) (by omega)) m0)) fz []) [0, 0, 0, 4, 0, 0, 48, 127, 255, 511] [0, 1, 2, 3, 4, 6, 7, 64] (aJ6 b vs ars d j [dT bd, af8, .box [iA (nm b j C7), iA 0, iA 0, iA 0, .v (.slice none 0 0), iA 0, iA 0, .v (.slice none 0 0), iA (nm b (j + 1) rcL), .tref 7, .v (.slice none 0 0)], .tree (D.stmts (z7 (t7 b vs.length ars.length (d - 1)) (nm b (j + 1 + 1) rbL).toNat (j + 1 + 1 + 1)).fst)]) [(6, .ptr 5 0), (8, .ptr 6 0)] [wO (n - 1)] (o1 (by omega)) fun G => j0 (b5 (wp_seq (e5 G c3 [0, 1, 2, 3, 4, 5, 7] (aJ6 b vs ars d j [dT bd, .box [iA (nm b j C7), iA 0, iA 0, iA 0, .v (.slice none 0 0), iA 0, iA 0, .v (.slice none 0 0), iA (nm b (j + 1) rcL), .tref 6, .v (.slice none 0 0)], .tree (D.stmts (z7 (t7 b vs.length ars.length (d - 1)) (nm b (j + 1 + 1) rbL).toNat (j + 1 + 1 + 1)).fst)]) [(6, .ptr 5 0)] fun G => b5 (wp_ret ?_)))))); obtain ⟨ρ, G⟩ := G.nilT 7 (.exprs []) (aJ6 b vs ars d j [dT bd, .box [iA (nm b j C7), iA 0, iA 0, iA 0, .tref 7, iA 0, iA 0, .v (.slice none 0 0), iA (nm b (j + 1) rcL), .tref 6, .v (.slice none 0 0)], .tree (D.stmts (z7 (t7 b vs.length ars.length (d - 1)) (nm b (j + 1 + 1) rbL).toNat (j + 1 + 1 + 1)).fst)]) [(6, .ptr 5 0)]; obtain ⟨ρ, G⟩ := G.nilT 8 (.exprs []) (aJ6 b vs ars d j [dT bd, .box [iA (nm b j C7), iA 0, iA 0, iA 0, .tref 7, iA 0, iA 0, .tref 8, iA (nm b (j + 1) rcL), .tref 6, .v (.slice none 0 0)], .tree (D.stmts (z7 (t7 b vs.length ars.length (d - 1)) (nm b (j + 1 + 1) rbL).toNat (j + 1 + 1 + 1)).fst), .tree (D.exprs [])]) [(6, .ptr 5 0)]; obtain ⟨ρ, G⟩ := G.nilT 9 (.stmts []) (aJ6 b vs ars d j [dT bd, .box [iA (nm b j C7), iA 0, iA 0, iA 0, .tref 7, iA 0, iA 0, .tref 8, iA (nm b (j + 1) rcL), .tref 6, .tref 9], .tree (D.stmts (z7 (t7 b vs.length ars.length (d - 1)) (nm b (j + 1 + 1) rbL).toNat (j + 1 + 1 + 1)).fst), .tree (D.exprs []), .tree (D.exprs [])]) [(6, .ptr 5 0)]; exact N7 (.agg [iA (nm b j C7), iA 0, iA 0, iA 0, .tref 7, iA 0, iA 0, .tref 8, iA (nm b (j + 1) rcL), .tref 6, .tref 9]) G [0, 1, 2, 3, 4, 7, 8, 6, 9] (by show _ = AV.ren (nth [0, 1, 2, 3, 4, 7, 8, 6, 9]) (K4 b vs ars d j); unfold K4; have e1 : ((t7 b vs.length ars.length d j).fst.kind : Int) = (nm b j C7) := (by rw [aT2 (by omega) (by omega)]; show (4 : Int) = _; omega); rw [e1, aT2 (by omega) (by omega)] <;> rfl) (by show _ = mR [0, 1, 2, 3, 4, 7, 8, 6, 9] (K3 b vs ars bd d j); unfold K3; rw [aT2 (by omega) (by omega)] <;> rfl)
   ·
    have q1 := eq_of_beq h1; refine w5 G (z4 (fc h1 fz) [(3, 0), (4, 0), (1005, 0)]) (af7 n [(7, iA (nm b j C7)), (8, .ptr 7 0), (50, bA (decide (n > 1)))]) fun G => b5 (H2 G (fun h6 q6 => ?_) fun h6 q6 => ?_)
    ·
     refine wp_seq ?_; cases h7 : (nm b j C7 == 4)
     ·
      have q7 := ne_of_beq_false h7; refine d8 G (z4 (fc h7 fz) [(3, 0), (4, 0), (1005, 0)]) [(79, bA false)] fun G => b5 (rF G false (by kernel_rfl) (wp_seq (wp_seq (w5 G c3 (O3 [(15, bA (nm b j C7 != 5))]) fun G => b5 ?_)))); cases h8 : (nm b j C7 != 5)
      · have q8 := bne_eq_false_iff_eq.1 h8; exact False.elim (by omega)
      · have q8 := bne_iff_ne.1 h8; refine rT G _ h8 (e5 G c3 (rg 8) (.box [.ref 1, iA (j + 1)] :: (I3 b vs ars bd [aE0])) (O3 []) fun G => b5 (wp_seq (e5 G (n7 4 [0, 1] (B2 b (j + 1) ((vs.length : Int)) (by omega) (by omega))) (rg 8) (.box [.ref 1, iA (j + 1 + 1)] :: (I3 b vs ars bd [a00 b vs j])) (O3 []) fun G => b5 (e5 G (n7 2 (rg 5) (U6 b vs ars bd (j + 1 + 1) (by omega) (by omega))) [0, 1, 2, 3, 4, 6, 7, 24] [P7 b vs ars j, dY b, dI vs, dI ars, dT bd, af8, a02 b vs ars j, ac1 b vs ars j] [(6, .ptr 5 0), (8, .ptr 6 0)] fun G => j0 (b5 (wp_seq (e5 G c3 [0, 1, 2, 3, 4, 5, 7] [P7 b vs ars j, dY b, dI vs, dI ars, dT bd, a01 b vs ars j, ac1 b vs ars j] [(6, .ptr 5 0)] fun G => b5 (wp_ret ?_)))))))); obtain ⟨ρ, G⟩ := G.nilT 7 (.exprs []) (aZ0 b vs ars bd j []) [(6, .ptr 5 0)]; obtain ⟨ρ, G⟩ := G.nilT 8 (.stmts []) (aZ1 b vs ars bd j []) [(6, .ptr 5 0)]; obtain ⟨ρ, G⟩ := G.nilT 9 (.stmts []) (aZ2 b vs ars bd j []) [(6, .ptr 5 0)]; exact N7 (.agg [iA 1, iA (pk b (j + 1) (vs.length : Int)), iA 0, iA 0, .tref 7, iA (n5 b vs.length ars.length (j + 1 + 1)).fst.kind, iA (n5 b vs.length ars.length (j + 1 + 1)).fst.value, .tref 6, iA 0, .tref 8, .tref 9]) G [0, 1, 2, 3, 4, 7, 6, 8, 9] (by show _ = AV.ren (nth [0, 1, 2, 3, 4, 7, 6, 8, 9]) (K4 b vs ars d j); unfold K4; rw [X4 (by omega) (by omega), aP6 (by omega)] <;> rfl) (by show _ = mR [0, 1, 2, 3, 4, 7, 6, 8, 9] (K3 b vs ars bd d j); unfold K3; rw [X4 (by omega) (by omega), aP6 (by omega)] <;> rfl)
     · have q7 := eq_of_beq h7; exact False.elim (by omega)
    ·
     refine wp_seq (e5 G (n7 2 (rg 5) (U6 b vs ars bd (j + 1) (by omega) (by omega))) [0, 1, 2, 3, 4, 5, 6, 7, 24] (.box [.ref 1, iA (n5 b vs.length ars.length (j + 1)).snd] :: (I3 b vs ars bd [.box [iA (nm b j C7), iA 0, iA 0, iA 0, .v (.slice none 0 0), iA (n5 b vs.length ars.length (j + 1)).fst.kind, iA (n5 b vs.length ars.length (j + 1)).fst.value, .tref 8, iA 0, .v (.slice none 0 0), .v (.slice none 0 0)], .tree (D.exprs (n5 b vs.length ars.length (j + 1)).fst.kids)])) (af7 n [(8, .ptr 7 0)]) fun G => b5 (wp_seq (E1 G (m5 (f6 6 [0, 1, 49] (d9.lend (E8 b ((n5 b vs.length ars.length (j + 1)).snd) ibL (by simp [h0, h1, h6]) (by omega) (by omega)) [.no, .no, .row 3]) (f6 7 (rg 5) (ih ((n5 b vs.length ars.length (j + 1)).snd + 1) (n - 1) (nm b (n5 b vs.length ars.length (j + 1)).snd ibL) (by omega) (by omega) (by omega) (by omega) (by omega) (by omega)) m0)) fz []) [0, 0, 0, 4, 0, 0, 48, 127, 255, 511] [0, 1, 2, 3, 4, 5, 6, 7, 8, 65] (.box [.ref 1, iA (aA3 b vs ars d j).snd] :: (I3 b vs ars bd [.box [iA (nm b j C7), iA 0, iA 0, iA 0, .v (.slice none 0 0), iA (n5 b vs.length ars.length (j + 1)).fst.kind, iA (n5 b vs.length ars.length (j + 1)).fst.value, .tref 8, iA 0, .tref 9, .v (.slice none 0 0)], .tree (D.exprs (n5 b vs.length ars.length (j + 1)).fst.kids), .tree (D.stmts (aA3 b vs ars d j).fst)])) (af7 n [(8, .ptr 7 0)]) [wO (n - 1)] (o1 (by omega)) fun G => b5 (E1 G (m5 (f6 6 [0, 1, 50] (d9.lend (E8 b ((z7 (t7 b vs.length ars.length (d - 1)) (nm b (n5 b vs.length ars.length (j + 1)).snd ibL).toNat ((n5 b vs.length ars.length (j + 1)).snd + 1)).snd) ieL (by simp [h0, h1, h6]) (by omega) (by omega)) [.no, .no, .row 3]) (f6 7 (rg 5) (ih ((z7 (t7 b vs.length ars.length (d - 1)) (nm b (n5 b vs.length ars.length (j + 1)).snd ibL).toNat ((n5 b vs.length ars.length (j + 1)).snd + 1)).snd + 1) (n - 1) (nm b (z7 (t7 b vs.length ars.length (d - 1)) (nm b (n5 b vs.length ars.length (j + 1)).snd ibL).toNat ((n5 b vs.length ars.length (j + 1)).snd + 1)).snd ieL) (by omega) (by omega) (by omega) (by omega) (by omega) (by omega)) m0)) fz []) [0, 0, 0, 4, 0, 0, 48, 127, 255, 511] [0, 1, 2, 3, 4, 6, 7, 8, 9, 66] [.box [.ref 1, iA (a03 b vs ars d j).snd], dY b, dI vs, dI ars, dT bd, af8, .box [iA (nm b j C7), iA 0, iA 0, iA 0, .v (.slice none 0 0), iA (n5 b vs.length ars.length (j + 1)).fst.kind, iA (n5 b vs.length ars.length (j + 1)).fst.value, .tref 7, iA 0, .tref 8, .tref 9], .tree (D.exprs (n5 b vs.length ars.length (j + 1)).fst.kids), .tree (D.stmts (aA3 b vs ars d j).fst), .tree (D.stmts (a03 b vs ars d j).fst)] [(6, .ptr 5 0), (8, .ptr 6 0)] [wO (n - 1)] (o1 (by omega)) fun G => j0 (b5 (wp_seq (e5 G c3 [0, 1, 2, 3, 4, 5, 7, 8, 9] [.box [.ref 1, iA (a03 b vs ars d j).snd], dY b, dI vs, dI ars, dT bd, .box [iA (nm b j C7), iA 0, iA 0, iA 0, .v (.slice none 0 0), iA (n5 b vs.length ars.length (j + 1)).fst.kind, iA (n5 b vs.length ars.length (j + 1)).fst.value, .tref 6, iA 0, .tref 7, .tref 8], .tree (D.exprs (n5 b vs.length ars.length (j + 1)).fst.kids), .tree (D.stmts (aA3 b vs ars d j).fst), .tree (D.stmts (a03 b vs ars d j).fst)] [(6, .ptr 5 0)] fun G => b5 (wp_ret ?_)))))))); obtain ⟨ρ, G⟩ := G.nilT 9 (.exprs []) [.box [.ref 1, iA (z7 (t7 b vs.length ars.length (d - 1)) (nm b (z7 (t7 b vs.length ars.length (d - 1)) (nm b (n5 b vs.length ars.length (j + 1)).snd ibL).toNat ((n5 b vs.length ars.length (j + 1)).snd + 1)).snd ieL).toNat ((z7 (t7 b vs.length ars.length (d - 1)) (nm b (n5 b vs.length ars.length (j + 1)).snd ibL).toNat ((n5 b vs.length ars.length (j + 1)).snd + 1)).snd + 1)).snd], dY b, dI vs, dI ars, dT bd, .box [iA (nm b j C7), iA 0, iA 0, iA 0, .tref 9, iA (n5 b vs.length ars.length (j + 1)).fst.kind, iA (n5 b vs.length ars.length (j + 1)).fst.value, .tref 6, iA 0, .tref 7, .tref 8], .tree (D.exprs (n5 b vs.length ars.length (j + 1)).fst.kids), .tree (D.stmts (z7 (t7 b vs.length ars.length (d - 1)) (nm b (n5 b vs.length ars.length (j + 1)).snd ibL).toNat ((n5 b vs.length ars.length (j + 1)).snd + 1)).fst), .tree (D.stmts (z7 (t7 b vs.length ars.length (d - 1)) (nm b (z7 (t7 b vs.length ars.length (d - 1)) (nm b (n5 b vs.length ars.length (j + 1)).snd ibL).toNat ((n5 b vs.length ars.length (j + 1)).snd + 1)).snd ieL).toNat ((z7 (t7 b vs.length ars.length (d - 1)) (nm b (n5 b vs.length ars.length (j + 1)).snd ibL).toNat ((n5 b vs.length ars.length (j + 1)).snd + 1)).snd + 1)).fst)] [(6, .ptr 5 0)]
     exact N7 (.agg [iA (nm b j C7), iA 0, iA 0, iA 0, .tref 9, iA (n5 b vs.length ars.length (j + 1)).fst.kind, iA (n5 b vs.length ars.length (j + 1)).fst.value, .tref 6, iA 0, .tref 7, .tref 8]) G [0, 1, 2, 3, 4, 9, 6, 7, 8] (by show _ = AV.ren (nth [0, 1, 2, 3, 4, 9, 6, 7, 8]) (K4 b vs ars d j); unfold K4; have e1 : ((t7 b vs.length ars.length d j).fst.kind : Int) = (nm b j C7) := (by rw [aT3 (by omega) (by omega)]; show (3 : Int) = _; omega); rw [e1, aT3 (by omega) (by omega)] <;> rfl) (by show _ = mR [0, 1, 2, 3, 4, 9, 6, 7, 8] (K3 b vs ars bd d j); unfold K3; rw [aT3 (by omega) (by omega)] <;> rfl)
  ·
   have q0 := eq_of_beq h0; refine w5 G (z4 (fc h0 fz) (us [(3, 6, 0), (1007, 1007, 0)])) (af7 n [(7, iA (nm b j C7)), (8, .ptr 7 0), (27, bA (decide ((ars.length : Int) > 0)))]) fun G => b5 (H2 G (fun h9 q9 => ?_) fun h9 q9 => ?_)
   ·
    refine wp_seq ?_; cases h10 : (nm b j C7 == 3)
    ·
     have q10 := ne_of_beq_false h10; refine w5 G (z4 (fc h10 fz) [(3, 0), (4, 0), (1005, 0)]) (af7 n [(7, iA (nm b j C7)), (8, .ptr 7 0), (50, bA false)]) fun G => b5 (rF G false (by kernel_rfl) (wp_seq ?_)); cases h11 : (nm b j C7 == 4)
     ·
      have q11 := ne_of_beq_false h11; refine d8 G (z4 (fc h11 fz) [(3, 0), (4, 0), (1005, 0)]) [(79, bA false)] fun G => b5 (rF G false (by kernel_rfl) (wp_seq (wp_seq (w5 G c3 (O3 [(15, bA (nm b j C7 != 5))]) fun G => b5 ?_)))); cases h12 : (nm b j C7 != 5)
      · have q12 := bne_eq_false_iff_eq.1 h12; exact False.elim (by omega)
      · have q12 := bne_iff_ne.1 h12; refine rT G _ h12 (e5 G c3 (rg 8) (.box [.ref 1, iA (j + 1)] :: (I3 b vs ars bd [aE0])) (O3 []) fun G => b5 (wp_seq (e5 G (n7 4 [0, 1] (B2 b (j + 1) ((vs.length : Int)) (by omega) (by omega))) (rg 8) (.box [.ref 1, iA (j + 1 + 1)] :: (I3 b vs ars bd [a00 b vs j])) (O3 []) fun G => b5 (e5 G (n7 2 (rg 5) (U6 b vs ars bd (j + 1 + 1) (by omega) (by omega))) [0, 1, 2, 3, 4, 6, 7, 24] [P7 b vs ars j, dY b, dI vs, dI ars, dT bd, af8, a02 b vs ars j, ac1 b vs ars j] [(6, .ptr 5 0), (8, .ptr 6 0)] fun G => j0 (b5 (wp_seq (e5 G c3 [0, 1, 2, 3, 4, 5, 7] [P7 b vs ars j, dY b, dI vs, dI ars, dT bd, a01 b vs ars j, ac1 b vs ars j] [(6, .ptr 5 0)] fun G => b5 (wp_ret ?_)))))))); obtain ⟨ρ, G⟩ := G.nilT 7 (.exprs []) (aZ0 b vs ars bd j []) [(6, .ptr 5 0)]; obtain ⟨ρ, G⟩ := G.nilT 8 (.stmts []) (aZ1 b vs ars bd j []) [(6, .ptr 5 0)]; obtain ⟨ρ, G⟩ := G.nilT 9 (.stmts []) (aZ2 b vs ars bd j []) [(6, .ptr 5 0)]; exact N7 (.agg [iA 1, iA (pk b (j + 1) (vs.length : Int)), iA 0, iA 0, .tref 7, iA (n5 b vs.length ars.length (j + 1 + 1)).fst.kind, iA (n5 b vs.length ars.length (j + 1 + 1)).fst.value, .tref 6, iA 0, .tref 8, .tref 9]) G [0, 1, 2, 3, 4, 7, 6, 8, 9] (by show _ = AV.ren (nth [0, 1, 2, 3, 4, 7, 6, 8, 9]) (K4 b vs ars d j); unfold K4; rw [X4 (by omega) (by omega), aP6 (by omega)] <;> rfl) (by show _ = mR [0, 1, 2, 3, 4, 7, 6, 8, 9] (K3 b vs ars bd d j); unfold K3; rw [X4 (by omega) (by omega), aP6 (by omega)] <;> rfl)
     · have q11 := eq_of_beq h11; exact False.elim (by omega)
    · have q10 := eq_of_beq h10; exact False.elim (by omega)
   ·
    refine wp_seq (e5 G (n7 4 [0, 1] (B2 b (j + 1) ((ars.length : Int)) (by omega) (by omega))) (rg 8) (.box [.ref 1, iA (j + 1 + 1)] :: (I3 b vs ars bd [.box [iA (nm b j C7), iA (pk b (j + 1) (ars.length : Int)), iA 0, iA 0, .v (.slice none 0 0), iA 0, iA 0, .v (.slice none 0 0), iA 0, .v (.slice none 0 0), .v (.slice none 0 0)]])) (O3 []) fun G => b5 (wp_seq (e5 G (n7 2 (rg 5) (al8 b (j + 1 + 1) vs ars bd (by omega) (by omega))) [0, 1, 2, 3, 4, 5, 6, 7, 24] (.box [.ref 1, iA (j + 1 + 1 + 2)] :: (I3 b vs ars bd [.box [iA (nm b j C7), iA (pk b (j + 1) (ars.length : Int)), iA (j5 b (vs.length : Int) (j + 1 + 1)).kind, iA (j5 b (vs.length : Int) (j + 1 + 1)).value, .tref 8, iA 0, iA 0, .v (.slice none 0 0), iA 0, .v (.slice none 0 0), .v (.slice none 0 0)], .tree (D.exprs (j5 b (vs.length : Int) (j + 1 + 1)).kids)])) (O3 []) fun G => b5 (e5 G (n7 2 (rg 5) (U6 b vs ars bd (j + 1 + 1 + 2) (by omega) (by omega))) [0, 1, 2, 3, 4, 6, 7, 8, 25] (.box [.ref 1, iA (n5 b vs.length ars.length (j + 1 + 1 + 2)).snd] :: dY b :: dI vs :: dI ars :: dT bd :: af8 :: .box [iA (nm b j C7), iA (pk b (j + 1) (ars.length : Int)), iA (j5 b (vs.length : Int) (j + 1 + 1)).kind, iA (j5 b (vs.length : Int) (j + 1 + 1)).value, .tref 7, iA (n5 b vs.length ars.length (j + 1 + 1 + 2)).fst.kind, iA (n5 b vs.length ars.length (j + 1 + 1 + 2)).fst.value, .tref 8, iA 0, .v (.slice none 0 0), .v (.slice none 0 0)] :: (aY9 b vs ars j [])) [(6, .ptr 5 0), (8, .ptr 6 0)] fun G => j0 (b5 (wp_seq (e5 G c3 [0, 1, 2, 3, 4, 5, 7, 8] (.box [.ref 1, iA (n5 b vs.length ars.length (j + 1 + 1 + 2)).snd] :: dY b :: dI vs :: dI ars :: dT bd :: .box [iA (nm b j C7), iA (pk b (j + 1) (ars.length : Int)), iA (j5 b (vs.length : Int) (j + 1 + 1)).kind, iA (j5 b (vs.length : Int) (j + 1 + 1)).value, .tref 6, iA (n5 b vs.length ars.length (j + 1 + 1 + 2)).fst.kind, iA (n5 b vs.length ars.length (j + 1 + 1 + 2)).fst.value, .tref 7, iA 0, .v (.slice none 0 0), .v (.slice none 0 0)] :: (aY9 b vs ars j [])) [(6, .ptr 5 0)] fun G => b5 (wp_ret ?_)))))))); obtain ⟨ρ, G⟩ := G.nilT 8 (.stmts []) (.box [.ref 1, iA (n5 b vs.length ars.length (j + 1 + 1 + 2)).snd] :: dY b :: dI vs :: dI ars :: dT bd :: .box [iA (nm b j C7), iA (pk b (j + 1) (ars.length : Int)), iA (j5 b (vs.length : Int) (j + 1 + 1)).kind, iA (j5 b (vs.length : Int) (j + 1 + 1)).value, .tref 6, iA (n5 b vs.length ars.length (j + 1 + 1 + 2)).fst.kind, iA (n5 b vs.length ars.length (j + 1 + 1 + 2)).fst.value, .tref 7, iA 0, .tref 8, .v (.slice none 0 0)] :: (aY9 b vs ars j [])) [(6, .ptr 5 0)]; obtain ⟨ρ, G⟩ := G.nilT 9 (.stmts []) (.box [.ref 1, iA (n5 b vs.length ars.length (j + 1 + 1 + 2)).snd] :: dY b :: dI vs :: dI ars :: dT bd :: .box [iA (nm b j C7), iA (pk b (j + 1) (ars.length : Int)), iA (j5 b (vs.length : Int) (j + 1 + 1)).kind, iA (j5 b (vs.length : Int) (j + 1 + 1)).value, .tref 6, iA (n5 b vs.length ars.length (j + 1 + 1 + 2)).fst.kind, iA (n5 b vs.length ars.length (j + 1 + 1 + 2)).fst.value, .tref 7, iA 0, .tref 8, .tref 9] :: (aY9 b vs ars j [.tree (D.stmts [])])) [(6, .ptr 5 0)]
    exact N7 (.agg [iA (nm b j C7), iA (pk b (j + 1) (ars.length : Int)), iA (j5 b (vs.length : Int) (j + 1 + 1)).kind, iA (j5 b (vs.length : Int) (j + 1 + 1)).value, .tref 6, iA (n5 b vs.length ars.length (j + 1 + 1 + 2)).fst.kind, iA (n5 b vs.length ars.length (j + 1 + 1 + 2)).fst.value, .tref 7, iA 0, .tref 8, .tref 9]) G [0, 1, 2, 3, 4, 6, 7, 8, 9] (by show _ = AV.ren (nth [0, 1, 2, 3, 4, 6, 7, 8, 9]) (K4 b vs ars d j); unfold K4; have e1 : ((t7 b vs.length ars.length d j).fst.kind : Int) = (nm b j C7) := (by rw [bc8 (by omega) (by omega)]; show (2 : Int) = _; omega); rw [e1, bc8 (by omega) (by omega)] <;> rfl) (by show _ = mR [0, 1, 2, 3, 4, 6, 7, 8, 9] (K3 b vs ars bd d j); unfold K3; rw [bc8 (by omega) (by omega)] <;> rfl)
theorem aR0 (b : List UInt8) (vs ars : List Int) (bd : List b6) (d : Nat) (h : ∀ (j n : Int), n = d → 0 ≤ j → j + cS d ≤ 600000000 → d9.ok Tryz.prog (dsC b vs ars bd d j n)) (m : Nat) (j n c B : Int) (hn : n = d) (hm : c = m) (hm2 : m ≤ 4) (hB : (m : Int) * cS d ≤ B) (r0 : 0 ≤ j) (r1 : j + B ≤ 600000000) : d9.ok Tryz.prog (dbC b vs ars bd d m j n c) :=
 bp5 b vs ars bd d m h j n c hn hm hm2 B hB r0 r1
theorem bk4 (b : List UInt8) (vs ars : List Int) (bd : List b6) : ∀ (d : Nat), d ≤ 3 → ∀ (j n : Int), n = d → 0 ≤ j → j + cS d ≤ 600000000 → d9.ok Tryz.prog (dsC b vs ars bd d j n)
 | 0, hd, j, n, hn, r0, r1 => bd6 b vs ars bd 0 (by omega) (fun j n c h => absurd h (by omega)) j n hn r0 r1
 | d + 1, hd, j, n, hn, r0, r1 => bd6 b vs ars bd (d + 1) hd (fun j n c h hn h0 h2 r0 r1 => aR0 b vs ars bd d (bk4 b vs ars bd d (by omega)) c.toNat j n c (2 * cS d) (by omega) (by omega) (by omega) (bJ5 h0 h2 (Int.le_trans (by decide) (an6 d))) r0 (by simpa using r1)) j n hn r0 r1
theorem bO3 : cS 3 = 34170 := by decide
theorem bD9 (b : List UInt8) (vs ars : List Int) (bd : List b6) (j n c : Int) (hn : n = 3) (h0 : 0 ≤ c) (h4 : c ≤ 4) (r0 : 0 ≤ j) (r1 : j ≤ 100000000) : d9.ok Tryz.prog (dbC b vs ars bd 3 c.toNat j n c) :=
 aR0 b vs ars bd 3 (bk4 b vs ars bd 3 (by omega)) c.toNat j n c (4 * cS 3) (by omega) (by omega) (by omega) (bS5 h0 h4 (by rw [bO3]; decide)) r0 (by rw [bO3]; omega)
abbrev pgC (b : List UInt8) (j : Int) : d9 := ⟨57, [.ptr 0 0], [.box [.ref 1, iA j], dY b], [.box [.ref 1, iA (S8 b j).2], dY b] ++ oP (pgD b j), oA 2⟩
theorem a28 {b : List UInt8} {l : List Int} {n i p : Int} (h : i > 0) (h2 : i ≤ n) : nsD b l (n - (i - 1)).toNat p = nsD b l (n - i).toNat p ++ [nm b (p + (n - i)) l] := by
 rw [show (n - (i - 1)).toNat = (n - i).toNat + 1 by omega, bg6, show (((n - i).toNat : Nat) : Int) = n - i by omega]
theorem a27 {b : List UInt8} {l : List Int} {n p : Int} : nsD b l (n - n).toNat p = [] := by rw [Int.sub_self]; rfl
theorem l8 (vs ars : List Int) (bd : List b6) (hb : c9 bd ≤ 1048576) : d9.ok Tryz.prog (C0 38 [pA 0] [dI vs, dI ars, dT bd] (bA (e6 ⟨vs, ars, bd⟩))) := N4 ⟨vs, ars, bd⟩ hb
theorem bS2 {b : List UInt8} {j : Int} (h : e6 ⟨Z4 b j, asD b j, (z7 (t7 b (Z4 b j).length (asD b j).length 3) (nm b (kp2 b j) nbL).toNat (kp2 b j + 1)).1⟩ = true) : pgD b j = ⟨Z4 b j, asD b j, (S8 b j).1⟩ := if_pos h
theorem bS1 {b : List UInt8} {j : Int} (h : e6 ⟨Z4 b j, asD b j, (z7 (t7 b (Z4 b j).length (asD b j).length 3) (nm b (kp2 b j) nbL).toNat (kp2 b j + 1)).1⟩ = false) : pgD b j = fbP := if_neg (by intro h2; have h3 : e6 ⟨Z4 b j, asD b j, (z7 (t7 b (Z4 b j).length (asD b j).length 3) (nm b (kp2 b j) nbL).toNat (kp2 b j + 1)).1⟩ = true := h2; rw [h] at h3; cases h3)
theorem bI6 (b : List UInt8) (j : Int) : j + 1 + (nm b j V3 - 0) = A5 b j := by unfold A5; omega
theorem bI5 (b : List UInt8) (j : Int) : nsD b viL (nm b j V3 - 0).toNat (j + 1) = Z4 b j := by unfold Z4; rw [Int.sub_zero]
theorem bI4 (b : List UInt8) (j : Int) : A5 b j + 1 + (nm b (A5 b j) T0 - 0) = kp2 b j := by unfold kp2; omega
theorem bI3 (b : List UInt8) (j : Int) : nsD b aiL (nm b (A5 b j) T0 - 0).toNat (A5 b j + 1) = asD b j := by unfold asD; rw [Int.sub_zero]
abbrev am4 (b : List UInt8) (j : Int) := z7 (t7 b (Z4 b j).length (asD b j).length 3) (nm b (kp2 b j) nbL).toNat (kp2 b j + 1)
abbrev aZ9 (b : List UInt8) (j : Int) : List It := [.box [.ref 1, iA (S8 b j).snd], dY b, .row 3 (D.ints (pgD b j).vars), .row 3 (D.ints (pgD b j).arrays), .tree (D.stmts (pgD b j).body)]
abbrev I4 : It := .box [.v (.slice none 0 0), .v (.slice none 0 0), .v (.slice none 0 0)]
abbrev aK5 : It := .box [.ref 4, .v (.slice none 0 0), .v (.slice none 0 0)]
abbrev bb0 : It := .tree (D.stmts [b6.mk 1 1 (b7.mk 0 0 []) (b7.mk 2 0 []) 0 [] []])
theorem aQ8 (b : List UInt8) (j : Int) (r0 : 0 ≤ j) (r1 : j ≤ 10000000) : d9.ok Tryz.prog (pgC b j) := by
  refine t8 52 Tryz.func57 [.box [.ref 1, iA j], dY b] [(0, .ptr 0 0)] fun G => ?_; have hnv := bB1 b r0 (by omega); have hk1 := bh8 b r0 r1; have hk2 := a37 b r0 r1; have hna := bB4 b (k := A5 b j) (by omega) (by omega); have hnb := bJ3 b (k := kp2 b j) (by omega) (by omega); have hvl := bb4 b r0 r1; have hal := bm5 b r0 r1; have hbd := a54 b r0 r1; have hbs : c9 (z7 (t7 b (Z4 b j).length (asD b j).length 3) (nm b (kp2 b j) nbL).toNat (kp2 b j + 1)).1 ≤ 1048576 := bW4 hbd.2.2 (by omega); refine wp_seq (e5 G c3 [0, 1, 2] [.box [.ref 1, iA j], dY b, I4] [(0, .ptr 0 0), (2, .ptr 2 0)] fun G => b5 (wp_seq (e5 G c3 [0, 1, 2, 11] [.box [.ref 1, iA j], dY b, I4, I4] [(0, .ptr 0 0), (2, .ptr 2 0), (3, .ptr 3 0)] fun G => b5 (wp_seq (wp_seq (e5 G (n7 2 [0, 1, 12] (d9.lend (E8 b j V3 (List.cons_ne_nil _ _) (by assumption) (by omega)) [.no, .no, .row 3])) (rg 4) [.box [.ref 1, iA (j + 1)], dY b, I4, I4] [(0, .ptr 0 0), (2, .ptr 2 0), (3, .ptr 3 0), (4, iA (nm b j V3))] fun G => b5 (wp_block ?_))))))); have Gx := G.nil 4 3 (.ints []) 1 [.box [.ref 1, iA (j + 1)], dY b, I4, aK5] [(0, .ptr 0 0), (2, .ptr 2 0), (3, .ptr 3 0), (4, iA (nm b j V3))]; clear G; obtain ⟨ρ, G⟩ := Gx; replace G := l7.at G [.box [.ref 1, iA (j + 1)], dY b, I4, aK5, .row 3 (D.ints [])] [(0, .ptr 0 0), (2, .ptr 2 0), (3, .ptr 3 0), (4, iA (nm b j V3))]; replace G := G.as [.box [.ref 1, iA (j + 1 + (nm b j V3 - nm b j V3))], dY b, .box [.v (.slice none 0 0), .v (.slice none 0 0), .v (.slice none 0 0)], .box [.ref 4, .v (.slice none 0 0), .v (.slice none 0 0)], .row 3 (D.ints (nsD b viL (nm b j V3 - nm b j V3).toNat (j + 1)))] [(0, .ptr 0 0), (2, .ptr 2 0), (3, .ptr 3 0), (4, iA (nm b j V3))] (by have e1 : (j + 1 + (nm b j V3 - nm b j V3) : Int) = (j + 1) := (by omega); have e2 : (nsD b viL (nm b j V3 - nm b j V3).toNat (j + 1) : List Int) = ([]) := a27; (first | rw [e1, e2] | simp only [e1, e2]) <;> rfl) (by kernel_rfl); refine l0 (κ := Int) (fun i => 0 ≤ i ∧ i ≤ nm b j V3) (fun i => i.toNat) (fun i => [.box [.ref 1, iA (j + 1 + (nm b j V3 - i))], dY b, .box [.v (.slice none 0 0), .v (.slice none 0 0), .v (.slice none 0 0)], .box [.ref 4, .v (.slice none 0 0), .v (.slice none 0 0)], .row 3 (.ints (nsD b viL (nm b j V3 - i).toNat (j + 1)))]) (fun i => [(0, .ptr 0 0), (2, .ptr 2 0), (3, .ptr 3 0), (4, iA i)]) (nm b j V3) (by omega) (l7.at G _ _) ?_; clear G; intro i ρ a w hp G; replace G := l7.at G [.box [.ref 1, iA (j + 1 + (nm b j V3 - i))], dY b, I4, aK5, .row 3 (D.ints (nsD b viL (nm b j V3 - i).toNat (j + 1)))] [(0, .ptr 0 0), (2, .ptr 2 0), (3, .ptr 3 0), (4, iA i)]; have hlen : (nsD b viL (nm b j V3 - i).toNat (j + 1)).length = (nm b j V3 - i).toNat := Z9 _ _ _ _; refine wp_seq (wp_seq (w5 G c3 [(0, .ptr 0 0), (2, .ptr 2 0), (3, .ptr 3 0), (4, iA i), (11, bA (decide (i > 0)))] fun G => b5 ?_)); cases h0 : (decide (i > 0))
  ·
   have q0 := P3 h0
   obtain rfl : i = 0 := by omega
   rw [bI6, bI5] at G; refine rF G false (by kernel_rfl) (wp_exit (k6 (k6 (j8 (b5 (wp_seq (wp_seq (e5 G (n7 2 [0, 1, 13] (d9.lend (E8 b (A5 b j) T0 (by simp [h0]) (by omega) (by omega)) [.no, .no, .row 3])) (rg 5) [.box [.ref 1, iA (A5 b j + 1)], dY b, I4, aK5, .row 3 (D.ints (Z4 b j))] [(0, .ptr 0 0), (2, .ptr 2 0), (3, .ptr 3 0), (5, iA (nm b (A5 b j) T0))] fun G => b5 (wp_block ?_))))))))); have Gx := G.nil 5 3 (.ints []) 1 [.box [.ref 1, iA (A5 b j + 1)], dY b, I4, .box [.ref 4, .ref 5, .v (.slice none 0 0)], .row 3 (D.ints (Z4 b j))] [(0, .ptr 0 0), (2, .ptr 2 0), (3, .ptr 3 0), (5, iA (nm b (A5 b j) T0))]; clear G; obtain ⟨ρ, G⟩ := Gx; replace G := l7.at G [.box [.ref 1, iA (A5 b j + 1)], dY b, I4, .box [.ref 4, .ref 5, .v (.slice none 0 0)], .row 3 (D.ints (Z4 b j)), .row 3 (D.ints [])] [(0, .ptr 0 0), (2, .ptr 2 0), (3, .ptr 3 0), (5, iA (nm b (A5 b j) T0))]; have Gx := G.nilT 6 (.stmts []) [.box [.ref 1, iA (A5 b j + 1)], dY b, I4, .box [.ref 4, .ref 5, .tref 6], .row 3 (D.ints (Z4 b j)), .row 3 (D.ints [])] [(0, .ptr 0 0), (2, .ptr 2 0), (3, .ptr 3 0), (5, iA (nm b (A5 b j) T0))]; clear G; obtain ⟨ρ, G⟩ := Gx; replace G := l7.at G [.box [.ref 1, iA (A5 b j + 1)], dY b, I4, .box [.ref 4, .ref 5, .tref 6], .row 3 (D.ints (Z4 b j)), .row 3 (D.ints []), .tree (D.stmts [])] [(0, .ptr 0 0), (2, .ptr 2 0), (3, .ptr 3 0), (5, iA (nm b (A5 b j) T0))]; replace G := G.as [.box [.ref 1, iA (A5 b j + 1 + (nm b (A5 b j) T0 - nm b (A5 b j) T0))], dY b, .box [.v (.slice none 0 0), .v (.slice none 0 0), .v (.slice none 0 0)], .box [.ref 4, .ref 5, .tref 6], .row 3 (D.ints (Z4 b j)), .row 3 (D.ints (nsD b aiL (nm b (A5 b j) T0 - nm b (A5 b j) T0).toNat (A5 b j + 1))), .tree (D.stmts [])] [(0, .ptr 0 0), (2, .ptr 2 0), (3, .ptr 3 0), (5, iA (nm b (A5 b j) T0))] (by have e1 : (A5 b j + 1 + (nm b (A5 b j) T0 - nm b (A5 b j) T0) : Int) = (A5 b j + 1) := (by omega); have e2 : (nsD b aiL (nm b (A5 b j) T0 - nm b (A5 b j) T0).toNat (A5 b j + 1) : List Int) = ([]) := a27; (first | rw [e1, e2] | simp only [e1, e2]) <;> rfl) (by kernel_rfl); refine l0 (κ := Int) (fun i2 => 0 ≤ i2 ∧ i2 ≤ nm b (A5 b j) T0) (fun i2 => i2.toNat) (fun i2 => [.box [.ref 1, iA (A5 b j + 1 + (nm b (A5 b j) T0 - i2))], dY b, .box [.v (.slice none 0 0), .v (.slice none 0 0), .v (.slice none 0 0)], .box [.ref 4, .ref 5, .tref 6], .row 3 (D.ints (Z4 b j)), .row 3 (.ints (nsD b aiL (nm b (A5 b j) T0 - i2).toNat (A5 b j + 1))), .tree (D.stmts [])]) (fun i2 => [(0, .ptr 0 0), (2, .ptr 2 0), (3, .ptr 3 0), (5, iA i2)]) (nm b (A5 b j) T0) (by omega) (l7.at G _ _) ?_; clear G; intro i2 ρ a w hp G; replace G := l7.at G [.box [.ref 1, iA (A5 b j + 1 + (nm b (A5 b j) T0 - i2))], dY b, I4, .box [.ref 4, .ref 5, .tref 6], .row 3 (D.ints (Z4 b j)), .row 3 (D.ints (nsD b aiL (nm b (A5 b j) T0 - i2).toNat (A5 b j + 1))), .tree (D.stmts [])] [(0, .ptr 0 0), (2, .ptr 2 0), (3, .ptr 3 0), (5, iA i2)]; have hlen : (nsD b aiL (nm b (A5 b j) T0 - i2).toNat (A5 b j + 1)).length = (nm b (A5 b j) T0 - i2).toNat := Z9 _ _ _ _; refine wp_seq (wp_seq (w5 G c3 [(0, .ptr 0 0), (2, .ptr 2 0), (3, .ptr 3 0), (5, iA i2), (26, bA (decide (i2 > 0)))] fun G => b5 ?_)); cases h1 : (decide (i2 > 0))
   ·
    have q1 := P3 h1
    obtain rfl : i2 = 0 := by omega
    rw [bI4, bI3] at G; refine rF G false (by kernel_rfl) (wp_exit (k6 (k6 (j8 (b5 (wp_seq (F5 G (m5 (f6 4 [0, 1, 31] (d9.lend (E8 b (kp2 b j) nbL (by simp [h0, h1]) (by omega) (by omega)) [.no, .no, .row 3]) (f6 5 [0, 1, 4, 5, 6] (d9.lend (bD9 b (Z4 b j) (asD b j) ([]) (kp2 b j + 1) 3 (nm b (kp2 b j) nbL) (by kernel_rfl) (by omega) (by omega) (by omega) (by omega)) [.no, .no, .row 3, .row 3, .tree]) m0)) fz []) [0, 0, 0, 0, 12, 31, 63, 127] [0, 1, 2, 3, 4, 5, 47] [.box [.ref 1, iA (am4 b j).snd], dY b, I4, .box [.ref 4, .ref 5, .tref 6], .row 3 (D.ints (Z4 b j)), .row 3 (D.ints (asD b j)), .tree (D.stmts (am4 b j).fst)] [(2, .ptr 2 0), (3, .ptr 3 0)] fun G => b5 (wp_seq (wp_seq (d8 G (n7 1 [4, 5, 6] (d9.lend (l8 (Z4 b j) (asD b j) ((z7 (t7 b (Z4 b j).length (asD b j).length 3) (nm b (kp2 b j) nbL).toNat (kp2 b j + 1)).fst) (by assumption)) [.row 3, .row 3, .tree])) [(45, bA (e6 (b8.mk (Z4 b j) (asD b j) (am4 b j).fst)))] fun G => b5 (rcB (b := e6 (b8.mk (Z4 b j) (asD b j) (z7 (t7 b (Z4 b j).length (asD b j).length (3 : Nat)) (nm b (kp2 b j) nbL).toNat (kp2 b j + 1)).fst)) G (fun h2 => ?_) fun h2 => ?_)))))))))))
    · refine wp_skip (b5 (wp_seq (e5 G c3 [0, 1, 2, 7, 31] [.box [.ref 1, iA (am4 b j).snd], dY b, .box [.ref 3, .v (.slice none 0 0), .tref 4], .row 3 (D.ints ([0] ++ ([1] ++ []))), bb0] [(2, .ptr 2 0)] fun G => b5 (wp_ret ?_)))); have Gx := G.nil 5 3 (.ints []) 1 [.box [.ref 1, iA (am4 b j).snd], dY b, .box [.ref 3, .ref 5, .tref 4], .row 3 (D.ints ([0] ++ ([1] ++ []))), bb0] [(2, .ptr 2 0)]; clear G; obtain ⟨ρ, G⟩ := Gx; replace G := l7.at G [.box [.ref 1, iA (am4 b j).snd], dY b, .box [.ref 3, .ref 5, .tref 4], .row 3 (D.ints ([0] ++ ([1] ++ []))), bb0, .row 3 (D.ints [])] [(2, .ptr 2 0)]; exact A0 G [0, 1, 3, 5, 4] (by show _ = mR [0, 1, 3, 5, 4] (aZ9 b j); unfold aZ9; rw [bS1 (by with_reducible assumption)] <;> rfl)
    · refine wp_seq (e5 G c3 [0, 1, 2, 4, 5, 6] [.box [.ref 1, iA (am4 b j).snd], dY b, .box [.ref 3, .ref 4, .tref 5], .row 3 (D.ints (Z4 b j)), .row 3 (D.ints (asD b j)), .tree (D.stmts (am4 b j).fst)] [(2, .ptr 2 0)] fun G => b5 (wp_ret (c8 ?_))); exact A0 G [0, 1, 3, 4, 5] (by show _ = mR [0, 1, 3, 4, 5] (aZ9 b j); unfold aZ9; rw [bS2 (by with_reducible assumption)] <;> rfl)
   · have q1 := P2 h1; refine rT G _ h1 (wp_skip (b5 (wp_seq (wp_block (E1 G (n7 4 [0, 1, 31] (d9.lend (E8 b (A5 b j + 1 + (nm b (A5 b j) T0 - i2)) aiL (by simp [h0, h1]) (by omega) (by omega)) [.no, .no, .row 3])) [0, 1, 0, 0, 12, 28, 63, 127, 255] [0, 1, 2, 3, 4, 6, 55] [.box [.ref 1, iA (A5 b j + 1 + (nm b (A5 b j) T0 - i2) + 1)], dY b, I4, .box [.ref 4, .ref 6, .tref 5], .row 3 (D.ints (Z4 b j)), .tree (D.stmts []), .row 3 (D.ints (nsD b aiL (nm b (A5 b j) T0 - i2).toNat (A5 b j + 1) ++ ([nm b (A5 b j + 1 + (nm b (A5 b j) T0 - i2)) aiL] ++ [])))] [(0, .ptr 0 0), (2, .ptr 2 0), (3, .ptr 3 0), (5, iA i2)] (aP ((nsD b aiL (nm b (A5 b j) T0 - i2).toNat (A5 b j + 1)).length + ([nm b (A5 b j + 1 + (nm b (A5 b j) T0 - i2)) aiL] ++ []).length) 8 []) (aK (by simp only [bW0, bV7, bX5, Z9]; omega) bW1) fun G => j0 (b5 (z3 G c3 [(5, iA (i2 - 1))] [wO (i2 - 1)] (o1 (by omega)) fun G => b5 ?_))))))); exact H9 G (i2 - 1) (by omega) (by omega) [0, 1, 2, 3, 4, 6, 5] (by have e1 : (A5 b j + 1 + (nm b (A5 b j) T0 - (i2 - 1)) : Int) = (A5 b j + 1 + (nm b (A5 b j) T0 - i2) + 1) := (by omega); have e2 : (nsD b aiL (nm b (A5 b j) T0 - (i2 - 1)).toNat (A5 b j + 1) : List Int) = (nsD b aiL (nm b (A5 b j) T0 - i2).toNat (A5 b j + 1) ++ ([nm b (A5 b j + 1 + (nm b (A5 b j) T0 - i2)) aiL] ++ [])) := (a28 (by omega) (by omega)); (first | rw [e1, e2] | simp only [e1, e2]) <;> rfl)
  · have q0 := P2 h0; refine rT G _ h0 (wp_skip (b5 (wp_seq (wp_block (E1 G (n7 4 [0, 1, 29] (d9.lend (E8 b (j + 1 + (nm b j V3 - i)) viL (by simp [h0]) (by omega) (by omega)) [.no, .no, .row 3])) [0, 1, 0, 0, 12, 28, 63, 127, 255] [0, 1, 2, 3, 53] [.box [.ref 1, iA (j + 1 + (nm b j V3 - i) + 1)], dY b, I4, aK5, .row 3 (D.ints (nsD b viL (nm b j V3 - i).toNat (j + 1) ++ ([nm b (j + 1 + (nm b j V3 - i)) viL] ++ [])))] [(0, .ptr 0 0), (2, .ptr 2 0), (3, .ptr 3 0), (4, iA i)] (aP ((nsD b viL (nm b j V3 - i).toNat (j + 1)).length + ([nm b (j + 1 + (nm b j V3 - i)) viL] ++ []).length) 8 []) (aK (by simp only [bW0, bV7, bX5, Z9]; omega) bW1) fun G => j0 (b5 (z3 G c3 [(4, iA (i - 1))] [wO (i - 1)] (o1 (by omega)) fun G => b5 ?_))))))); exact H9 G (i - 1) (by omega) (by omega) (rg 5) (by have e1 : (j + 1 + (nm b j V3 - (i - 1)) : Int) = (j + 1 + (nm b j V3 - i) + 1) := (by omega); have e2 : (nsD b viL (nm b j V3 - (i - 1)).toNat (j + 1) : List Int) = (nsD b viL (nm b j V3 - i).toNat (j + 1) ++ ([nm b (j + 1 + (nm b j V3 - i)) viL] ++ [])) := (a28 (by omega) (by omega)); (first | rw [e1, e2] | simp only [e1, e2]) <;> rfl)
end Go.Proofs.YtgmhmijcnlfmfaaGreat
