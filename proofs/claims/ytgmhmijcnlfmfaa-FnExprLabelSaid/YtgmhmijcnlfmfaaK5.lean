/- Part 5: functions on the way, plain laws. Conditions: as said. -/
import Derived.Test.YtgmhmijcnlfmfaaK1
import Derived.Test.YtgmhmijcnlfmfaaK3
import Derived.Test.YtgmhmijcnlfmfaaK4
set_option maxRecDepth 100000
set_option maxHeartbeats 16000000
set_option linter.unusedVariables false
set_option linter.unusedSimpArgs false
open Bool renaming and_eq_false_iff → bI6, and_eq_true → bF9, and_eq_true_iff → bJ1, not_eq_false' → bG7, not_eq_true' → bG6
open Inhabited renaming default → bF8
open Int renaming mul_le_mul_of_nonneg_right → bJ6
open List renaming all_eq_true → bG4, eq_nil_of_length_eq_zero → bI8, getD_eq_getElem?_getD → bG1, getElem?_eq_none → bH9, getElem_mem → bH8, length_append → bI0, length_cons → bH7, map_cons → bI5, mem_append → bH4, mem_cons → bI7, range → bH5, replicate → bH1, take → bG3, take_of_length_le → bG9
open Nat renaming le_refl → bH3, le_trans → bI3, lt_or_ge → bI9, zero_le → bJ2
open True renaming intro → bG8

namespace Go.Proofs.Ytgmhmijcnlfmfaa
open Go Go.RowKit
theorem bt1 {l : List b6} {k : Nat} (hk : k < l.length) : l.take k ++ [⟨(l.getD k bF8).kind, (l.getD k bF8).value, (l.getD k bF8).kids⟩] = l.take (k + 1) := by
 rw [b6.eta, m0 _ _ hk, f7 hk]
theorem bt0 {l : List b5} {k : Nat} (hk : k < l.length) : l.take k ++ [⟨(l.getD k bF8).kind, (l.getD k bF8).target, ⟨(l.getD k bF8).index.kind, (l.getD k bF8).index.value, (l.getD k bF8).index.kids⟩, ⟨(l.getD k bF8).value.kind, (l.getD k bF8).value.value, (l.getD k bF8).value.kids⟩, (l.getD k bF8).count, (l.getD k bF8).body, (l.getD k bF8).els⟩] = l.take (k + 1) := by
 rw [b6.eta, b6.eta, b5.eta, m0 _ _ hk, f7 hk]
theorem aU5 {α : Type} {l : List α} {k : Nat} (h1 : k ≤ l.length) (h2 : ¬ (k : Int) < l.length) : l.take k = l := by rw [bG9 (by omega)]
theorem a88 {α : Type} {l : List α} {k n : Nat} (h1 : k ≤ l.length) (h : l.length ≤ n) : (l.take k).length ≤ n := by rw [List.length_take]; omega
theorem a93 {e : b6} (h : G8 e ≤ 1048576) : e.kids.length ≤ 1048576 := by
 have h1 := aG3 e.kids
 have h2 : G8 e = i9 e.kids := by cases e; rfl
 omega
theorem a24 {l : List b5} (h : r6 l ≤ 1048576) : l.length ≤ 1048576 := bI3 (ac9 l) h
theorem bh5 {α : Type} {l : List α} {x : α} {k : Nat} (h1 : k ≤ l.length) (h : l.length ≤ 1048576) : (l.take k).length + [x].length ≤ 1048577 := by
 have := a88 (k := k) h1 h
 simp only [bH7, List.length_nil]; omega
theorem bx8 {a b : Nat} (ha : a ≤ 1048577) (hb : Nat.ble b 1000 = true) : a * b ≤ 140737488355328 := by
 have h1 := Nat.le_of_ble_eq_true hb
 have h2 := Nat.mul_le_mul ha h1
 omega
theorem ar7 {l : List b6} {k : Nat} (h : (k : Int) < l.length) : l.getD k bF8 ∈ l := by rw [f7 (by omega)]; exact bH8 (by omega)
theorem ae3 {l : List b5} {k : Nat} (h : (k : Int) < l.length) : l.getD k bF8 ∈ l := by rw [f7 (by omega)]; exact bH8 (by omega)
abbrev cpC (e : b6) : c8 := ⟨228, [eA e 0], eS e, eS e ++ [.tree (.exprs e.kids)], .agg [iA e.kind, iA e.value, .tref 1]⟩
abbrev aE8 (e : b6) (r0 : List It) : List It := dE e.kids :: .box (eL e 0) :: .box [iA 0, iA 0, .v (.slice none 0 0)] :: r0
theorem a57 (e : b6) (hb : G8 e ≤ 1048576) (ih : ∀ (x : b6), x ∈ e.kids → c8.ok Try.prog (cpC x)) : c8.ok Try.prog (cpC e) := by
 refine z7 29 Try.func228 [dE e.kids] [(0, eA e 0)] fun G => ?_; have hl := a93 hb; refine wp_seq (d7 G b8 [0, 1, 9] (aE8 e []) [(1, .ptr 1 0), (2, .ptr 2 0)] fun G => b0 (wp_seq (d7 G b8 [0, 1, 2, 43] (aE8 e [.box [iA e.kind, iA e.value, .v (.slice none 0 0)]]) [(1, .ptr 1 0), (2, .ptr 2 0), (3, .ptr 3 0)] fun G => b0 (wp_seq (wp_seq (y5 G b8 [(1, .ptr 1 0), (2, .ptr 2 0), (3, .ptr 3 0), (4, iA 0)] fun G => b0 (wp_block ?_))))))); obtain ⟨ρ, G⟩ := G.nilT 4 (.exprs []) (aE8 e [.box [iA e.kind, iA e.value, .tref 4]]) [(1, .ptr 1 0), (2, .ptr 2 0), (3, .ptr 3 0), (4, iA 0)]; refine l7 (κ := Nat) (fun k => k ≤ e.kids.length) (fun k => e.kids.length - k) (fun k => [dE e.kids, .box (eL e 0), .box [iA 0, iA 0, .v (.slice none 0 0)], .box [iA e.kind, iA e.value, .tref 4], .tree (.exprs (e.kids.take k))]) (fun k => [(1, .ptr 1 0), (2, .ptr 2 0), (3, .ptr 3 0), (4, iA k)]) 0 (by omega) (l9.at G _ _) ?_; clear G; intro k ρ a w hp G; replace G := l9.at G (aE8 e [.box [iA e.kind, iA e.value, .tref 4], .tree (D.exprs (bG3 k e.kids))]) [(1, .ptr 1 0), (2, .ptr 2 0), (3, .ptr 3 0), (4, iA k)]; refine wp_seq (wp_seq (c7 G b8 [(14, bA (decide ((k : Int) < e.kids.length)))] fun G => b0 (Q7 G (fun h0 q0 => ?_) fun h0 q0 => ?_)))
 ·refine wp_exit (l6 (l6 (l5 (b0 (wp_seq (d7 G b8 [0, 2, 4] [dE e.kids, .box [iA e.kind, iA e.value, .tref 2], .tree (D.exprs (bG3 k e.kids))] [(2, .ptr 1 0)] fun G => b0 (wp_ret ?_))))))); exact F8 G [0, 2] (by show _ = mR [0, 2] [dE e.kids, .tree (D.exprs e.kids)]; have e1 : (bG3 k e.kids : List b6) = (e.kids) := (aU5 hp (by assumption)); (first | rw [e1] | simp only [e1]) <;> rfl)
 ·refine wp_skip (b0 (wp_seq (wp_block (L7 G (n8 7 [53] (ih (e.kids.getD k bF8) (ar7 (by assumption)))) [0, 1, 0, 4, 0, 28, 60, 124, 252, 511, 1023, 2047] [0, 1, 2, 3, 77] (aE8 e [.box [iA e.kind, iA e.value, .tref 4], .tree (D.exprs (bG3 k e.kids ++ [qzE (e.kids.getD k bF8)]))]) [(1, .ptr 1 0), (2, .ptr 2 0), (3, .ptr 3 0), (4, iA k)] (iX k k e.kids.length (((bG3 k e.kids).length + [qzE (e.kids.getD k bF8)].length ≤ (9223372036854775807 : Nat)) :: ((((bG3 k e.kids).length + [qzE (e.kids.getD k bF8)].length) * (40 : Nat) ≤ (140737488355328 : Nat)) :: []))) (iK (by omega) ⟨(by have := bh5 (x := (bF8 : b6)) hp hl; simp only [bH7, List.length_nil] at this ⊢; omega), ⟨(bx8 (bh5 hp hl) (by kernel_rfl)), bG8⟩⟩) fun G => j4 (b0 (C1 G b8 [(4, iA ((k : Int) + 1))] [wO ((k : Int) + 1)] (o1 (by omega)) fun G => b0 ?_)))))); exact N8 G (k + 1) (by omega) (by omega) (rg 5) (by have e1 : (bG3 (k + 1) e.kids : List b6) = (bG3 k e.kids ++ [qzE (e.kids.getD k bF8)]) := ((bt1 (by omega)).symm); (first | rw [e1] | simp only [e1]) <;> rfl)
theorem aY5 (e : b6) : G8 e ≤ 1048576 → c8.ok Try.prog (cpC e) :=
 b6.ind (P := fun e => G8 e ≤ 1048576 → c8.ok Try.prog (cpC e)) (fun k n ks ih hb => a57 ⟨k, n, ks⟩ hb fun x hx => ih x hx (by
  have h1 := be4 (show x ∈ ks from hx)
  have h2 : G8 ⟨k, n, ks⟩ = i9 ks := rfl
  omega)) e
abbrev aL0 (l : List b5) : c8 := ⟨213, [.ref 0], [dT l], [dT l, .tree (.stmts l)], .tref 1⟩
theorem aX7 {l : List b5} {k : Nat} (hb : r6 l ≤ 1048576) (h : (k : Int) < l.length) : G8 (l.getD k bF8).index ≤ 1048576 ∧ G8 (l.getD k bF8).value ≤ 1048576 ∧ r6 (l.getD k bF8).body ≤ 1048576 ∧ r6 (l.getD k bF8).els ≤ 1048576 := by
 have h1 := M6 (ae3 h)
 generalize l.getD k bF8 = s at *
 rcases s with ⟨_, _, i, v, _, b, e⟩
 simp only [szS] at h1
 simp only [b5.index, b5.value, b5.body, b5.els]
 omega
abbrev am8 (k : Nat) (r0 : List (Nat × AV)) : List (Nat × AV) := (0, .ref 0) :: (2, .v (.slice none 0 0)) :: (3, .tref 1) :: (4, iA (k : Int)) :: r0
theorem ao9 (l : List b5) (hb : r6 l ≤ 1048576) (ih1 : ∀ (s : b5), s ∈ l → c8.ok Try.prog (aL0 s.body)) (ih2 : ∀ (s : b5), s ∈ l → c8.ok Try.prog (aL0 s.els)) : c8.ok Try.prog (aL0 l) := by
  refine z7 38 Try.func213 [dT l] [(0, .ref 0)] fun G => ?_; have hl := a24 hb; refine wp_seq (c7 G b8 [(2, .v (.slice none 0 0))] fun G => b0 (wp_seq (d7 G b8 [0, 1] [dT l, .tree (D.stmts [])] [(0, .ref 0), (2, .v (.slice none 0 0)), (3, .tref 1)] fun G => b0 (wp_seq (wp_seq (y5 G b8 [(0, .ref 0), (2, .v (.slice none 0 0)), (3, .tref 1), (4, iA 0)] fun G => b0 (wp_block ?_))))))); refine l7 (κ := Nat) (fun k => k ≤ l.length) (fun k => l.length - k) (fun k => [dT l, .tree (.stmts (l.take k))]) (fun k => [(0, .ref 0), (2, .v (.slice none 0 0)), (3, .tref 1), (4, iA k)]) 0 (by omega) (l9.at G _ _) ?_; clear G; intro k ρ a w hp G; replace G := l9.at G [dT l, .tree (D.stmts (bG3 k l))] (am8 k []); refine wp_seq (wp_seq (c7 G b8 [(10, bA (decide ((k : Int) < l.length)))] fun G => b0 (Q7 G (fun h0 q0 => ?_) fun h0 q0 => ?_)))
  · refine wp_exit (l6 (l6 (l5 (b0 (wp_seq (c7 G b8 [(2, .tref 1)] fun G => b0 (wp_ret ?_))))))); exact F8 G [0, 1] (by show _ = mR [0, 1] [dT l, .tree (D.stmts l)]; have e1 : (bG3 k l : List b5) = (l) := (aU5 hp (by assumption)); (first | rw [e1] | simp only [e1]) <;> rfl)
  ·
   refine wp_skip (b0 (wp_seq (wp_block (wp_seq (P5 G b8 [0, 1, 26, 27, 28, 29, 34] [dT l, .tree (D.stmts (bG3 k l)), dE (l.getD k bF8).index.kids, dE (l.getD k bF8).value.kids, dT (l.getD k bF8).body, dT (l.getD k bF8).els, .box (sL (l.getD k bF8) 2)] (am8 k [(5, .ptr 6 0)]) (iX k k l.length []) (iK (by omega) bG8) fun G => b0 (wp_seq (d7 G (n8 2 [2] (aY5 ((l.getD k bF8).index) ((aX7 hb (by assumption)).1))) [0, 1, 3, 4, 5, 6, 23] [dT l, .tree (D.stmts (bG3 k l)), dE (l.getD k bF8).value.kids, dT (l.getD k bF8).body, dT (l.getD k bF8).els, .box [iA (l.getD k bF8).kind, iA (l.getD k bF8).target, iA (l.getD k bF8).index.kind, iA (l.getD k bF8).index.value, .tref 6, iA (l.getD k bF8).value.kind, iA (l.getD k bF8).value.value, .ref 2, iA (l.getD k bF8).count, .ref 3, .ref 4], .tree (D.exprs (l.getD k bF8).index.kids)] (am8 k [(5, .ptr 5 0)]) fun G => b0 (wp_seq (d7 G (n8 2 [2] (aY5 ((l.getD k bF8).value) ((aX7 hb (by assumption)).2.1))) [0, 1, 3, 4, 5, 6, 23] [dT l, .tree (D.stmts (bG3 k l)), dT (l.getD k bF8).body, dT (l.getD k bF8).els, .box [iA (l.getD k bF8).kind, iA (l.getD k bF8).target, iA (l.getD k bF8).index.kind, iA (l.getD k bF8).index.value, .tref 5, iA (l.getD k bF8).value.kind, iA (l.getD k bF8).value.value, .tref 6, iA (l.getD k bF8).count, .ref 2, .ref 3], .tree (D.exprs (l.getD k bF8).index.kids), .tree (D.exprs (l.getD k bF8).value.kids)] (am8 k [(5, .ptr 4 0)]) fun G => b0 (wp_seq (d7 G (n8 2 [2] (ih1 (l.getD k bF8) (ae3 (by assumption)))) [0, 1, 3, 4, 5, 6, 23] [dT l, .tree (D.stmts (bG3 k l)), dT (l.getD k bF8).els, .box [iA (l.getD k bF8).kind, iA (l.getD k bF8).target, iA (l.getD k bF8).index.kind, iA (l.getD k bF8).index.value, .tref 4, iA (l.getD k bF8).value.kind, iA (l.getD k bF8).value.value, .tref 5, iA (l.getD k bF8).count, .tref 6, .ref 2], .tree (D.exprs (l.getD k bF8).index.kids), .tree (D.exprs (l.getD k bF8).value.kids), .tree (D.stmts (l.getD k bF8).body)] (am8 k [(5, .ptr 3 0)]) fun G => b0 (wp_seq (d7 G (n8 2 [2] (ih2 (l.getD k bF8) (ae3 (by assumption)))) [0, 1, 3, 4, 5, 6, 23] [dT l, .tree (D.stmts (bG3 k l)), .box [iA (l.getD k bF8).kind, iA (l.getD k bF8).target, iA (l.getD k bF8).index.kind, iA (l.getD k bF8).index.value, .tref 3, iA (l.getD k bF8).value.kind, iA (l.getD k bF8).value.value, .tref 4, iA (l.getD k bF8).count, .tref 5, .tref 6], .tree (D.exprs (l.getD k bF8).index.kids), .tree (D.exprs (l.getD k bF8).value.kids), .tree (D.stmts (l.getD k bF8).body), .tree (D.stmts (l.getD k bF8).els)] (am8 k [(5, .ptr 2 0)]) fun G => b0 (P5 G b8 [0, 31] [dT l, .tree (D.stmts (bG3 k l ++ [qzS (l.getD k bF8)]))] (am8 k []) [(bG3 k l).length + [qzS (l.getD k bF8)].length ≤ (9223372036854775807 : Nat), ((bG3 k l).length + [qzS (l.getD k bF8)].length) * (152 : Nat) ≤ (140737488355328 : Nat)] ⟨(by have := bh5 (x := (bF8 : b5)) hp hl; simp only [bH7, List.length_nil] at this ⊢; omega), (bx8 (bh5 hp hl) (by kernel_rfl)), bG8⟩ fun G => ?_))))))))))))))
   refine j4 (b0 (C1 G b8 [(4, iA ((k : Int) + 1))] [wO ((k : Int) + 1)] (o1 (by omega)) fun G => b0 ?_)); exact N8 G (k + 1) (by omega) (by omega) [0, 1] (by have e1 : (bG3 (k + 1) l : List b5) = (bG3 k l ++ [qzS (l.getD k bF8)]) := ((bt0 (by omega)).symm); (first | rw [e1] | simp only [e1]) <;> rfl)
theorem bj5 (l : List b5) : r6 l ≤ 1048576 → c8.ok Try.prog (aL0 l) := fun hb => ao9 l hb
 (fun s hs => (c_copyS2 s).1 (bI3 (Nat.le_of_lt (M6 hs)) hb)) fun s hs => (c_copyS2 s).2 (bI3 (Nat.le_of_lt (M6 hs)) hb)
where
 c_copyS2 (s : b5) : (szS s ≤ 1048576 → c8.ok Try.prog (aL0 s.body)) ∧ (szS s ≤ 1048576 → c8.ok Try.prog (aL0 s.els)) :=
  b5.ind (P := fun s => (szS s ≤ 1048576 → c8.ok Try.prog (aL0 s.body)) ∧ (szS s ≤ 1048576 → c8.ok Try.prog (aL0 s.els))) (fun k t i v c b e h1 h2 => by
   have hz : szS ⟨k, t, i, v, c, b, e⟩ = G8 i + G8 v + r6 b + r6 e := rfl
   constructor
   ·intro hb
    refine ao9 b (by omega) (fun s hs => (h1 s hs).1 ?_) fun s hs => (h1 s hs).2 ?_
    ·have := M6 hs; omega
    ·have := M6 hs; omega
   ·intro hb
    refine ao9 e (by omega) (fun s hs => (h2 s hs).1 ?_) fun s hs => (h2 s hs).2 ?_
    ·have := M6 hs; omega
    ·have := M6 hs; omega) s
theorem bc9 (p : b7) (hb : p.size ≤ 1048576) : c8.ok Try.prog ⟨169, [pA 0], pS p, pS p ++ oP p, oA 3⟩ := by
 refine z7 15 Try.func169 [dI p.vars, dI p.arrays, dT p.body] [(0, pA 0)] fun G => ?_
 have hb1 : p.vars.length ≤ 1048576 ∧ p.arrays.length ≤ 1048576 ∧ r6 p.body ≤ 1048576 := by unfold b7.size at hb; omega
 refine wp_seq (d7 G b8 [0, 1, 2, 3, 11] [dI p.vars, dI p.arrays, dT p.body, .box (pL 0), .box [.v (.slice none 0 0), .v (.slice none 0 0), .v (.slice none 0 0)]] [(1, .ptr 3 0), (2, .ptr 4 0)] fun G => b0 (wp_seq (L7 G (n8 10 [2] (bj5 p.body (by omega))) [0, 0, 2, 7, 0, 0, 32, 127, 0, 256, 1023, 2047, 4095] [0, 1, 2, 4, 29, 61, 85] [dI p.vars, dI p.arrays, dT p.body, .box [.ref 4, .ref 5, .tref 6], .row 3 (D.ints ([] ++ p.vars)), .row 3 (D.ints ([] ++ p.arrays)), .tree (D.stmts p.body)] [(2, .ptr 3 0)] (aP ((0 : Nat) + p.vars.length) 8 (aP ((0 : Nat) + p.arrays.length) 8 [])) (aK (by omega) (aK (by omega) bG8)) fun G => b0 (wp_ret ?_)))); exact F8 G [0, 1, 2, 4, 5, 6]
def ad8 (vs ars : List Int) (e : b6) : Int := if e.kind = 2 then vs.getD e.value.toNat 0 else if e.kind = 3 then ars.getD e.value.toNat 0 else 0
def j8 (vs ars : List Int) : Nat → b6 → Int
 | 0, _ => 0
 | d + 1, e => e.kids.foldl (fun a k => m6 a (j8 vs ars d k)) (ad8 vs ars e)
def w3 (vs ars : List Int) (d : Nat) (x : Int) (ks : List b6) (k : Nat) : Int := (ks.take k).foldl (fun a k => m6 a (j8 vs ars d k)) x
theorem K2 {vs ars : List Int} {d k : Nat} {x : Int} {ks : List b6} (h : k < ks.length) : w3 vs ars d x ks (k + 1) = m6 (w3 vs ars d x ks k) (j8 vs ars d (ks.getD k bF8)) := by
 unfold w3; rw [A0 ks k h, List.foldl_append, f7 h]; rfl
theorem P8 {vs ars : List Int} {d k : Nat} {x : Int} {e : b6} (h : e.kids.length ≤ k) (hx : ad8 vs ars e = x) : j8 vs ars (d + 1) e = w3 vs ars d x e.kids k := by
 unfold w3; rw [bG9 h, j8, hx]
section
variable {nv na d : Nat} {e : b6}
theorem aA7 (h : b9 nv na (d + 1) e = true) : o7 nv na e = true := by simp only [b9, bF9] at h; exact h.1.1
theorem ag3 (h : b9 nv na (d + 1) e = true) (k : e.kind = 2) : 0 ≤ e.value ∧ e.value < nv ∧ e.value.toNat < nv := by
 have := aA7 h
 simp [o7, v9, k] at this; omega
theorem ag4 (h : b9 nv na (d + 1) e = true) (k : e.kind = 3) : 0 ≤ e.value ∧ e.value < na ∧ e.value.toNat < na := by
 have := aA7 h
 simp [o7, v9, k] at this; omega
theorem R2 {k : Nat} (h : b9 nv na (d + 1) e = true) (hk : k < e.kids.length) : b9 nv na d (e.kids.getD k bF8) = true := by
 simp only [b9, bF9] at h
 rw [f7 hk]; exact bG4.1 h.1.2 _ (bH8 hk)
theorem a53 (h : b9 nv na (d + 1) e = true) (k : e.kind = 3) : 0 < e.kids.length := by
 have := aA7 h
 simp [o7, e7, k] at this; omega
end
theorem ah0 {x : Int} (h : c3 x = true) : x = 0 ∨ x = 1 ∨ x = 2 ∨ x = 3 := by simp [c3] at h; omega
theorem O4 (l : Int) : c8.ok Try.prog (C6 226 [iA l] [] (bA (c3 l && decide (l % 2 = 1)))) := by
 refine z7 10 Try.func226 [] [(0, iA l)] fun G => ?_; refine wp_seq (c7 G b8 [(2, bA false)] fun G => b0 (wp_seq ?_)); cases h0 : (c3 l)
 ·refine c7 G (s7 (j5 1 [] (w4 l) s6) (fc h0 fz) [(3, 0), (4, 0), (5, 0), (1006, 0)]) [] fun G => b0 (wp_ret ?_); exact F8 G []
 ·refine c7 G (s7 (j5 1 [] (w4 l) s6) (fc h0 fz) [(3, 0), (4, 0), (5, 0), (1006, 0)]) [(2, bA (au0 l 1 == 1))] fun G => b0 (wp_ret ?_); exact o5 (au0 l 1 == 1) G [] (by rcases ah0 h0 with rfl | rfl | rfl | rfl <;> kernel_rfl)
theorem at3 (l : Int) : c8.ok Try.prog (C6 28 [iA l] [] (bA (c3 l && decide (l % 2 = 1)))) := by
 refine z7 10 Try.func28 [] [(0, iA l)] fun G => ?_; refine wp_seq (c7 G b8 [(2, bA false)] fun G => b0 (wp_seq ?_)); cases h0 : (c3 l)
 ·refine c7 G (s7 (j5 1 [] (aa2 l) s6) (fc h0 fz) [(3, 0), (4, 0), (5, 0), (1006, 0)]) [] fun G => b0 (wp_ret ?_); exact F8 G []
 ·refine c7 G (s7 (j5 1 [] (aa2 l) s6) (fc h0 fz) [(3, 0), (4, 0), (5, 0), (1006, 0)]) [(2, bA (au0 l 1 != 0))] fun G => b0 (wp_ret ?_); exact o5 (au0 l 1 != 0) G [] (by rcases ah0 h0 with rfl | rfl | rfl | rfl <;> kernel_rfl)
theorem W3 (l : Int) : c8.ok Try.prog (C6 246 [iA l] [] (bA (c3 l && decide (l ≤ 1)))) := by
 refine z7 10 Try.func246 [] [(0, iA l)] fun G => ?_; refine wp_seq (c7 G b8 [(2, bA false)] fun G => b0 (wp_seq ?_)); cases h0 : (c3 l)
 ·refine c7 G (s7 (j5 1 [] (w4 l) s6) (fc h0 fz) [(3, 0), (4, 0), (5, 0), (1006, 0)]) [] fun G => b0 (wp_ret ?_); exact F8 G []
 ·refine c7 G (s7 (j5 1 [] (w4 l) s6) (fc h0 fz) [(3, 0), (4, 0), (5, 0), (1006, 0)]) [(2, bA (au0 l 2 == 0))] fun G => b0 (wp_ret ?_); exact o5 (au0 l 2 == 0) G [] (by rcases ah0 h0 with rfl | rfl | rfl | rfl <;> kernel_rfl)
theorem af1 (x y : Int) : c8.ok Try.prog (C6 245 [iA x, iA y] [] (bA (c3 x && c3 y && (m6 x y == y)))) := by
  refine z7 18 Try.func245 [] [(0, iA x), (1, iA y)] fun G => ?_; refine wp_seq (c7 G b8 [(4, bA false)] fun G => b0 (wp_seq ?_)); cases h0 : (c3 x)
  · refine c7 G (s7 (j5 1 [] (w4 x) s6) (fc h0 (fc (b := false) rfl fz)) (us [(3, 4, 0), (1005, 1005, 0), (7, 11, 1), (1012, 1012, 1)])) [] fun G => b0 (wp_ret ?_); exact F8 G []
  ·
   cases h1 : (c3 y)
   · refine c7 G (s7 (j5 1 [] (w4 x) (j5 4 [] (w4 y) s6)) (fc h0 (fc h1 fz)) (us [(3, 4, 0), (1005, 1005, 0), (7, 11, 1), (1012, 1012, 1)])) [] fun G => b0 (wp_ret ?_); exact F8 G []
   · refine c7 G (s7 (j5 1 [] (w4 x) (j5 4 [] (w4 y) s6)) (fc h0 (fc h1 fz)) (us [(3, 4, 0), (1005, 1005, 0), (7, 11, 1), (1012, 1012, 1)])) [(4, bA (m6 x y == y))] fun G => b0 (wp_ret ?_); exact F8 G []
theorem F0 {x : Int} (h : c3 x = true) : ∃ a : Fin 4, x = (a.val : Int) := by
 simp [c3] at h
 exact ⟨⟨x.toNat, by omega⟩, by simp; omega⟩
theorem aR6 (p : b7) (d : Nat) (ih : ∀ (e : b6), b9 p.vars.length p.arrays.length d e = true → c8.ok Try.prog (C6 89 [pA 0, eA e 3] (pS p ++ eS e) (iA (j8 p.vars p.arrays d e))))
    (e : b6) (he : b9 p.vars.length p.arrays.length (d + 1) e = true) : c8.ok Try.prog (C6 89 [pA 0, eA e 3] (pS p ++ eS e) (iA (j8 p.vars p.arrays (d + 1) e))) := by
  refine z7 42 Try.func89 [dI p.vars, dI p.arrays, dT p.body, dE e.kids] [(0, pA 0), (1, eA e 3)] fun G => ?_; refine wp_seq (d7 G b8 [0, 1, 2, 3, 4, 12] [dI p.vars, dI p.arrays, dT p.body, dE e.kids, .box (pL 0), .box (eL e 3)] [(2, .ptr 4 0), (3, .ptr 5 0), (4, iA 0)] fun G => b0 (wp_seq (c7 G b8 [(5, iA 0)] fun G => b0 (wp_seq (wp_seq (c7 G b8 [(8, iA e.kind)] fun G => b0 (wp_block (wp_seq (c7 G b8 [(9, bA (e.kind == 2))] fun G => b0 (L5 G (fun h0 q0 => ?_) fun h0 q0 => ?_))))))))))
  ·
   refine wp_seq (c7 G b8 [(17, bA (e.kind == 3))] fun G => b0 (L5 G (fun h1 q1 => ?_) fun h1 q1 => ?_))
   ·
    refine wp_skip (j4 (b0 (wp_seq (wp_seq (y5 G b8 [(2, .ptr 4 0), (3, .ptr 5 0), (4, iA 0), (5, iA 0), (6, iA 0)] fun G => b0 (wp_block ?_)))))); refine l7 (κ := Nat) (fun k => k ≤ e.kids.length) (fun k => e.kids.length - k) (fun k => [dI p.vars, dI p.arrays, dT p.body, dE e.kids, .box (pL 0), .box (eL e 3)]) (fun k => [(2, .ptr 4 0), (3, .ptr 5 0), (4, iA 0), (5, iA (w3 p.vars p.arrays d 0 e.kids k)), (6, iA k)]) 0 (by omega) (l9.at G _ _) ?_; clear G; intro k ρ a w hp G; have hlen : e.kids.length ≤ 9223372036854775807 := G.len 3 (d := .exprs e.kids) (by kernel_rfl); refine wp_seq (wp_seq (y5 G b8 [(2, .ptr 4 0), (3, .ptr 5 0), (4, iA 0), (5, iA (w3 p.vars p.arrays d 0 e.kids k)), (6, iA k), (29, bA (decide ((k : Int) < e.kids.length)))] fun G => b0 (Q7 G (fun h2 q2 => ?_) fun h2 q2 => ?_)))
    · refine wp_exit (l6 (l6 (l5 (b0 (wp_seq (d7 G b8 (rg 4) [dI p.vars, dI p.arrays, dT p.body, dE e.kids] [(4, iA (w3 p.vars p.arrays d 0 e.kids k))] fun G => b0 (wp_ret ?_))))))); exact E4 (w3 p.vars p.arrays d 0 e.kids k) G (rg 4) (P8 (by omega) (by simp [ad8, h0, q0, h1, q1, h2, q2]; done))
    · refine wp_skip (b0 (wp_seq (wp_block (Y6 G (n8 7 [0, 1, 2, 54] (ih (e.kids.getD k bF8) (R2 he (by omega)))) [0, 0, 0, 4, 0, 28, 60, 126, 255, 511] [(5, iA (m6 (w3 p.vars p.arrays d 0 e.kids k) (j8 p.vars p.arrays d (e.kids.getD k bF8))))] (iX k k e.kids.length []) (iK (by omega) bG8) fun G => j4 (b0 (C1 G b8 [(6, iA ((k : Int) + 1))] [wO ((k : Int) + 1)] (o1 (by omega)) fun G => b0 ?_)))))); exact N8 G (k + 1) (by omega) (by omega) (rg 6) (ht := by have e1 : (w3 p.vars p.arrays d 0 e.kids (k + 1) : Int) = (m6 (w3 p.vars p.arrays d 0 e.kids k) (j8 p.vars p.arrays d (e.kids.getD k bF8))) := (K2 (by omega)); (first | rw [e1] | simp only [e1]) <;> rfl)
   ·
    refine C1 G b8 [(5, iA (p.arrays.getD e.value.toNat 0))] [(0 : Int) ≤ e.value, e.value < (p.arrays.length : Int), e.value.toNat < p.arrays.length] ⟨((ag4 he (by assumption)).1), ((ag4 he (by assumption)).2.1), ((ag4 he (by assumption)).2.2), bG8⟩ fun G => j4 (b0 (wp_seq (wp_seq (y5 G b8 [(2, .ptr 4 0), (3, .ptr 5 0), (4, iA 0), (5, iA (p.arrays.getD e.value.toNat 0)), (6, iA 0)] fun G => b0 (wp_block ?_))))); refine l7 (κ := Nat) (fun k => k ≤ e.kids.length) (fun k => e.kids.length - k) (fun k => [dI p.vars, dI p.arrays, dT p.body, dE e.kids, .box (pL 0), .box (eL e 3)]) (fun k => [(2, .ptr 4 0), (3, .ptr 5 0), (4, iA 0), (5, iA (w3 p.vars p.arrays d (p.arrays.getD e.value.toNat 0) e.kids k)), (6, iA k)]) 0 (by omega) (l9.at G _ _) ?_; clear G; intro k ρ a w hp G; have hlen : e.kids.length ≤ 9223372036854775807 := G.len 3 (d := .exprs e.kids) (by kernel_rfl); refine wp_seq (wp_seq (y5 G b8 [(2, .ptr 4 0), (3, .ptr 5 0), (4, iA 0), (5, iA (w3 p.vars p.arrays d (p.arrays.getD e.value.toNat 0) e.kids k)), (6, iA k), (29, bA (decide ((k : Int) < e.kids.length)))] fun G => b0 (Q7 G (fun h3 q3 => ?_) fun h3 q3 => ?_)))
    · refine wp_exit (l6 (l6 (l5 (b0 (wp_seq (d7 G b8 (rg 4) [dI p.vars, dI p.arrays, dT p.body, dE e.kids] [(4, iA (w3 p.vars p.arrays d (p.arrays.getD e.value.toNat 0) e.kids k))] fun G => b0 (wp_ret ?_))))))); exact E4 (w3 p.vars p.arrays d (p.arrays.getD e.value.toNat 0) e.kids k) G (rg 4) (P8 (by omega) (by simp [ad8, h0, q0, h1, q1, h3, q3]; done))
    · refine wp_skip (b0 (wp_seq (wp_block (Y6 G (n8 7 [0, 1, 2, 54] (ih (e.kids.getD k bF8) (R2 he (by omega)))) [0, 0, 0, 4, 0, 28, 60, 126, 255, 511] [(5, iA (m6 (w3 p.vars p.arrays d (p.arrays.getD e.value.toNat 0) e.kids k) (j8 p.vars p.arrays d (e.kids.getD k bF8))))] (iX k k e.kids.length []) (iK (by omega) bG8) fun G => j4 (b0 (C1 G b8 [(6, iA ((k : Int) + 1))] [wO ((k : Int) + 1)] (o1 (by omega)) fun G => b0 ?_)))))); exact N8 G (k + 1) (by omega) (by omega) (rg 6) (ht := by have e1 : (w3 p.vars p.arrays d (p.arrays.getD e.value.toNat 0) e.kids (k + 1) : Int) = (m6 (w3 p.vars p.arrays d (p.arrays.getD e.value.toNat 0) e.kids k) (j8 p.vars p.arrays d (e.kids.getD k bF8))) := (K2 (by omega)); (first | rw [e1] | simp only [e1]) <;> rfl)
  ·
   refine C1 G b8 [(5, iA (p.vars.getD e.value.toNat 0))] [(0 : Int) ≤ e.value, e.value < (p.vars.length : Int), e.value.toNat < p.vars.length] ⟨((ag3 he (by assumption)).1), ((ag3 he (by assumption)).2.1), ((ag3 he (by assumption)).2.2), bG8⟩ fun G => j4 (b0 (wp_seq (wp_seq (y5 G b8 [(2, .ptr 4 0), (3, .ptr 5 0), (4, iA 0), (5, iA (p.vars.getD e.value.toNat 0)), (6, iA 0)] fun G => b0 (wp_block ?_))))); refine l7 (κ := Nat) (fun k => k ≤ e.kids.length) (fun k => e.kids.length - k) (fun k => [dI p.vars, dI p.arrays, dT p.body, dE e.kids, .box (pL 0), .box (eL e 3)]) (fun k => [(2, .ptr 4 0), (3, .ptr 5 0), (4, iA 0), (5, iA (w3 p.vars p.arrays d (p.vars.getD e.value.toNat 0) e.kids k)), (6, iA k)]) 0 (by omega) (l9.at G _ _) ?_; clear G; intro k ρ a w hp G; have hlen : e.kids.length ≤ 9223372036854775807 := G.len 3 (d := .exprs e.kids) (by kernel_rfl); refine wp_seq (wp_seq (y5 G b8 [(2, .ptr 4 0), (3, .ptr 5 0), (4, iA 0), (5, iA (w3 p.vars p.arrays d (p.vars.getD e.value.toNat 0) e.kids k)), (6, iA k), (29, bA (decide ((k : Int) < e.kids.length)))] fun G => b0 (Q7 G (fun h4 q4 => ?_) fun h4 q4 => ?_)))
   · refine wp_exit (l6 (l6 (l5 (b0 (wp_seq (d7 G b8 (rg 4) [dI p.vars, dI p.arrays, dT p.body, dE e.kids] [(4, iA (w3 p.vars p.arrays d (p.vars.getD e.value.toNat 0) e.kids k))] fun G => b0 (wp_ret ?_))))))); exact E4 (w3 p.vars p.arrays d (p.vars.getD e.value.toNat 0) e.kids k) G (rg 4) (P8 (by omega) (by simp [ad8, h0, q0, h4, q4]; done))
   · refine wp_skip (b0 (wp_seq (wp_block (Y6 G (n8 7 [0, 1, 2, 54] (ih (e.kids.getD k bF8) (R2 he (by omega)))) [0, 0, 0, 4, 0, 28, 60, 126, 255, 511] [(5, iA (m6 (w3 p.vars p.arrays d (p.vars.getD e.value.toNat 0) e.kids k) (j8 p.vars p.arrays d (e.kids.getD k bF8))))] (iX k k e.kids.length []) (iK (by omega) bG8) fun G => j4 (b0 (C1 G b8 [(6, iA ((k : Int) + 1))] [wO ((k : Int) + 1)] (o1 (by omega)) fun G => b0 ?_)))))); exact N8 G (k + 1) (by omega) (by omega) (rg 6) (ht := by have e1 : (w3 p.vars p.arrays d (p.vars.getD e.value.toNat 0) e.kids (k + 1) : Int) = (m6 (w3 p.vars p.arrays d (p.vars.getD e.value.toNat 0) e.kids k) (j8 p.vars p.arrays d (e.kids.getD k bF8))) := (K2 (by omega)); (first | rw [e1] | simp only [e1]) <;> rfl)
abbrev ac0 (e : b6) (k : Nat) (r0 : List (Nat × AV)) : List (Nat × AV) := (27, .ref 3) :: (28, iA (e.kids.length : Int)) :: (29, iA (k : Int)) :: r0
abbrev L9 (p : b7) (e : b6) (r0 : List It) : List It := dI p.vars :: dI p.arrays :: dT p.body :: dE e.kids :: r0
theorem bc4 (p : b7) (d : Nat) (ih : ∀ (e : b6), b9 p.vars.length p.arrays.length d e = true → c8.ok Try.prog (C6 87 [pA 0, eA e 3] (pS p ++ eS e) (iA (j8 p.vars p.arrays d e))))
    (e : b6) (he : b9 p.vars.length p.arrays.length (d + 1) e = true) : c8.ok Try.prog (C6 87 [pA 0, eA e 3] (pS p ++ eS e) (iA (j8 p.vars p.arrays (d + 1) e))) := by
  refine z7 40 Try.func87 (L9 p e []) [(0, pA 0), (1, eA e 3)] fun G => ?_; refine wp_seq (d7 G b8 [0, 1, 2, 3, 4, 12] (L9 p e [.box (pL 0), .box (eL e 3)]) [(2, .ptr 4 0), (3, .ptr 5 0), (4, iA 0)] fun G => b0 (wp_seq (c7 G b8 [(5, iA 0)] fun G => b0 (wp_seq (wp_seq (c7 G b8 [(9, iA e.kind)] fun G => b0 (wp_block (wp_seq (c7 G b8 [(10, bA (e.kind == 2))] fun G => b0 (L5 G (fun h0 q0 => ?_) fun h0 q0 => ?_))))))))))
  ·
   refine wp_seq (c7 G b8 [(18, bA (e.kind == 3))] fun G => b0 (L5 G (fun h1 q1 => ?_) fun h1 q1 => ?_))
   ·
    refine wp_skip (j4 (b0 (wp_seq (wp_seq (d7 G b8 (rg 5) (L9 p e [.box (pL 0)]) [(2, .ptr 4 0), (4, iA 0), (5, iA 0), (27, .ref 3), (28, iA (e.kids.length : Int)), (29, iA 0)] fun G => b0 (wp_block ?_)))))); refine l7 (κ := Nat) (fun k => k ≤ e.kids.length) (fun k => e.kids.length - k) (fun k => [dI p.vars, dI p.arrays, dT p.body, dE e.kids, .box (pL 0)]) (fun k => [(2, .ptr 4 0), (4, iA 0), (5, iA (w3 p.vars p.arrays d 0 e.kids k)), (27, .ref 3), (28, iA (e.kids.length : Int)), (29, iA k)]) 0 (by omega) (l9.at G _ _) ?_; clear G; intro k ρ a w hp G; have hlen : e.kids.length ≤ 9223372036854775807 := G.len 3 (d := .exprs e.kids) (by kernel_rfl); refine wp_seq (y5 G b8 ((2, .ptr 4 0) :: (4, iA 0) :: (5, iA (w3 p.vars p.arrays d 0 e.kids k)) :: (ac0 e k [(30, bA (decide ((k : Int) < e.kids.length)))])) fun G => b0 (wp_seq (Q7 G (fun h2 q2 => ?_) fun h2 q2 => ?_)))
    · refine wp_exit (l6 (l6 (l5 (b0 (wp_seq (d7 G b8 (rg 4) (L9 p e []) [(4, iA (w3 p.vars p.arrays d 0 e.kids k))] fun G => b0 (wp_ret ?_))))))); exact E4 (w3 p.vars p.arrays d 0 e.kids k) G (rg 4) (P8 (by omega) (by simp [ad8, h0, q0, h1, q1, h2, q2]; done))
    · refine wp_skip (b0 (wp_seq (wp_block (wp_seq (P5 G b8 [0, 1, 2, 3, 4, 13, 21] (L9 p e [.box (pL 0), dE (e.kids.getD k bF8).kids, .box (eL (e.kids.getD k bF8) 5)]) ((2, .ptr 4 0) :: (4, iA 0) :: (5, iA (w3 p.vars p.arrays d 0 e.kids k)) :: (7, .ptr 6 0) :: (ac0 e k [])) (iX k k e.kids.length []) (iK (by omega) bG8) fun G => b0 (d7 G (n8 3 [0, 1, 2, 5] (ih (e.kids.getD k bF8) (R2 he (by omega)))) (rg 5) (L9 p e [.box (pL 0)]) ((2, .ptr 4 0) :: (4, iA 0) :: (5, iA (m6 (w3 p.vars p.arrays d 0 e.kids k) (j8 p.vars p.arrays d (e.kids.getD k bF8)))) :: (ac0 e k [])) fun G => j4 (b0 (C1 G b8 [(29, iA ((k : Int) + 1))] [wO ((k : Int) + 1)] (o1 (by omega)) fun G => b0 ?_)))))))); exact N8 G (k + 1) (by omega) (by omega) (rg 5) (ht := by have e1 : (w3 p.vars p.arrays d 0 e.kids (k + 1) : Int) = (m6 (w3 p.vars p.arrays d 0 e.kids k) (j8 p.vars p.arrays d (e.kids.getD k bF8))) := (K2 (by omega)); (first | rw [e1] | simp only [e1]) <;> rfl)
   ·
    refine C1 G b8 [(5, iA (p.arrays.getD e.value.toNat 0))] [(0 : Int) ≤ e.value, e.value < (p.arrays.length : Int), e.value.toNat < p.arrays.length] ⟨((ag4 he (by assumption)).1), ((ag4 he (by assumption)).2.1), ((ag4 he (by assumption)).2.2), bG8⟩ fun G => j4 (b0 (wp_seq (wp_seq (d7 G b8 (rg 5) (L9 p e [.box (pL 0)]) [(2, .ptr 4 0), (4, iA 0), (5, iA (p.arrays.getD e.value.toNat 0)), (27, .ref 3), (28, iA (e.kids.length : Int)), (29, iA 0)] fun G => b0 (wp_block ?_))))); refine l7 (κ := Nat) (fun k => k ≤ e.kids.length) (fun k => e.kids.length - k) (fun k => [dI p.vars, dI p.arrays, dT p.body, dE e.kids, .box (pL 0)]) (fun k => [(2, .ptr 4 0), (4, iA 0), (5, iA (w3 p.vars p.arrays d (p.arrays.getD e.value.toNat 0) e.kids k)), (27, .ref 3), (28, iA (e.kids.length : Int)), (29, iA k)]) 0 (by omega) (l9.at G _ _) ?_; clear G; intro k ρ a w hp G; have hlen : e.kids.length ≤ 9223372036854775807 := G.len 3 (d := .exprs e.kids) (by kernel_rfl); refine wp_seq (y5 G b8 ((2, .ptr 4 0) :: (4, iA 0) :: (5, iA (w3 p.vars p.arrays d (p.arrays.getD e.value.toNat 0) e.kids k)) :: (ac0 e k [(30, bA (decide ((k : Int) < e.kids.length)))])) fun G => b0 (wp_seq (Q7 G (fun h3 q3 => ?_) fun h3 q3 => ?_)))
    · refine wp_exit (l6 (l6 (l5 (b0 (wp_seq (d7 G b8 (rg 4) (L9 p e []) [(4, iA (w3 p.vars p.arrays d (p.arrays.getD e.value.toNat 0) e.kids k))] fun G => b0 (wp_ret ?_))))))); exact E4 (w3 p.vars p.arrays d (p.arrays.getD e.value.toNat 0) e.kids k) G (rg 4) (P8 (by omega) (by simp [ad8, h0, q0, h1, q1, h3, q3]; done))
    · refine wp_skip (b0 (wp_seq (wp_block (wp_seq (P5 G b8 [0, 1, 2, 3, 4, 13, 21] (L9 p e [.box (pL 0), dE (e.kids.getD k bF8).kids, .box (eL (e.kids.getD k bF8) 5)]) ((2, .ptr 4 0) :: (4, iA 0) :: (5, iA (w3 p.vars p.arrays d (p.arrays.getD e.value.toNat 0) e.kids k)) :: (7, .ptr 6 0) :: (ac0 e k [])) (iX k k e.kids.length []) (iK (by omega) bG8) fun G => b0 (d7 G (n8 3 [0, 1, 2, 5] (ih (e.kids.getD k bF8) (R2 he (by omega)))) (rg 5) (L9 p e [.box (pL 0)]) ((2, .ptr 4 0) :: (4, iA 0) :: (5, iA (m6 (w3 p.vars p.arrays d (p.arrays.getD e.value.toNat 0) e.kids k) (j8 p.vars p.arrays d (e.kids.getD k bF8)))) :: (ac0 e k [])) fun G => j4 (b0 (C1 G b8 [(29, iA ((k : Int) + 1))] [wO ((k : Int) + 1)] (o1 (by omega)) fun G => b0 ?_)))))))); exact N8 G (k + 1) (by omega) (by omega) (rg 5) (ht := by have e1 : (w3 p.vars p.arrays d (p.arrays.getD e.value.toNat 0) e.kids (k + 1) : Int) = (m6 (w3 p.vars p.arrays d (p.arrays.getD e.value.toNat 0) e.kids k) (j8 p.vars p.arrays d (e.kids.getD k bF8))) := (K2 (by omega)); (first | rw [e1] | simp only [e1]) <;> rfl)
  ·
   refine C1 G b8 [(5, iA (p.vars.getD e.value.toNat 0))] [(0 : Int) ≤ e.value, e.value < (p.vars.length : Int), e.value.toNat < p.vars.length] ⟨((ag3 he (by assumption)).1), ((ag3 he (by assumption)).2.1), ((ag3 he (by assumption)).2.2), bG8⟩ fun G => j4 (b0 (wp_seq (wp_seq (d7 G b8 (rg 5) (L9 p e [.box (pL 0)]) [(2, .ptr 4 0), (4, iA 0), (5, iA (p.vars.getD e.value.toNat 0)), (27, .ref 3), (28, iA (e.kids.length : Int)), (29, iA 0)] fun G => b0 (wp_block ?_))))); refine l7 (κ := Nat) (fun k => k ≤ e.kids.length) (fun k => e.kids.length - k) (fun k => [dI p.vars, dI p.arrays, dT p.body, dE e.kids, .box (pL 0)]) (fun k => [(2, .ptr 4 0), (4, iA 0), (5, iA (w3 p.vars p.arrays d (p.vars.getD e.value.toNat 0) e.kids k)), (27, .ref 3), (28, iA (e.kids.length : Int)), (29, iA k)]) 0 (by omega) (l9.at G _ _) ?_; clear G; intro k ρ a w hp G; have hlen : e.kids.length ≤ 9223372036854775807 := G.len 3 (d := .exprs e.kids) (by kernel_rfl); refine wp_seq (y5 G b8 ((2, .ptr 4 0) :: (4, iA 0) :: (5, iA (w3 p.vars p.arrays d (p.vars.getD e.value.toNat 0) e.kids k)) :: (ac0 e k [(30, bA (decide ((k : Int) < e.kids.length)))])) fun G => b0 (wp_seq (Q7 G (fun h4 q4 => ?_) fun h4 q4 => ?_)))
   · refine wp_exit (l6 (l6 (l5 (b0 (wp_seq (d7 G b8 (rg 4) (L9 p e []) [(4, iA (w3 p.vars p.arrays d (p.vars.getD e.value.toNat 0) e.kids k))] fun G => b0 (wp_ret ?_))))))); exact E4 (w3 p.vars p.arrays d (p.vars.getD e.value.toNat 0) e.kids k) G (rg 4) (P8 (by omega) (by simp [ad8, h0, q0, h4, q4]; done))
   · refine wp_skip (b0 (wp_seq (wp_block (wp_seq (P5 G b8 [0, 1, 2, 3, 4, 13, 21] (L9 p e [.box (pL 0), dE (e.kids.getD k bF8).kids, .box (eL (e.kids.getD k bF8) 5)]) ((2, .ptr 4 0) :: (4, iA 0) :: (5, iA (w3 p.vars p.arrays d (p.vars.getD e.value.toNat 0) e.kids k)) :: (7, .ptr 6 0) :: (ac0 e k [])) (iX k k e.kids.length []) (iK (by omega) bG8) fun G => b0 (d7 G (n8 3 [0, 1, 2, 5] (ih (e.kids.getD k bF8) (R2 he (by omega)))) (rg 5) (L9 p e [.box (pL 0)]) ((2, .ptr 4 0) :: (4, iA 0) :: (5, iA (m6 (w3 p.vars p.arrays d (p.vars.getD e.value.toNat 0) e.kids k) (j8 p.vars p.arrays d (e.kids.getD k bF8)))) :: (ac0 e k [])) fun G => j4 (b0 (C1 G b8 [(29, iA ((k : Int) + 1))] [wO ((k : Int) + 1)] (o1 (by omega)) fun G => b0 ?_)))))))); exact N8 G (k + 1) (by omega) (by omega) (rg 5) (ht := by have e1 : (w3 p.vars p.arrays d (p.vars.getD e.value.toNat 0) e.kids (k + 1) : Int) = (m6 (w3 p.vars p.arrays d (p.vars.getD e.value.toNat 0) e.kids k) (j8 p.vars p.arrays d (e.kids.getD k bF8))) := (K2 (by omega)); (first | rw [e1] | simp only [e1]) <;> rfl)
theorem as8 (p : b7) : ∀ (d : Nat) (e : b6), b9 p.vars.length p.arrays.length d e = true → c8.ok Try.prog (C6 89 [pA 0, eA e 3] (pS p ++ eS e) (iA (j8 p.vars p.arrays d e))) := by
 intro d
 induction d with
 | zero => intro e h; simp [b9] at h
 | succ d ih => intro e h; exact aR6 p d ih e h
theorem bc5 (p : b7) : ∀ (d : Nat) (e : b6), b9 p.vars.length p.arrays.length d e = true → c8.ok Try.prog (C6 87 [pA 0, eA e 3] (pS p ++ eS e) (iA (j8 p.vars p.arrays d e))) := by
 intro d
 induction d with
 | zero => intro e h; simp [b9] at h
 | succ d ih => intro e h; exact bc4 p d ih e h
def H1 (vs ars : List Int) : Nat → b6 → Bool
 | 0, _ => false
 | d + 1, e => (decide (e.kind = 3) && (c3 (j8 vs ars d (e.kids.getD 0 bF8)) && decide (j8 vs ars d (e.kids.getD 0 bF8) % 2 = 1))) || e.kids.any (H1 vs ars d)
section
variable {vs ars : List Int} {d : Nat} {e : b6}
theorem bo8 (k : e.kind = 3) (h : (c3 (j8 vs ars d (e.kids.getD 0 bF8)) && decide (j8 vs ars d (e.kids.getD 0 bF8) % 2 = 1)) = true) : H1 vs ars (d + 1) e = true := by rw [H1, h]; simp [k]
theorem bo9 (h : e.kids.any (H1 vs ars d) = false) (k : ¬ e.kind = 3) : H1 vs ars (d + 1) e = false := by rw [H1, h]; simp [k]
theorem bf3 (h : e.kids.any (H1 vs ars d) = false) (k : (c3 (j8 vs ars d (e.kids.getD 0 bF8)) && decide (j8 vs ars d (e.kids.getD 0 bF8) % 2 = 1)) = false) : H1 vs ars (d + 1) e = false := by rw [H1, h, k]; simp
end
theorem af3 {α : Type} {l : List α} {k : Nat} {p : α → Bool} {z : α} (h : (l.take k).any p = false) (hk : k < l.length) (hp : p (l.getD k z) = false) : (l.take (k + 1)).any p = false := by
 rw [A0 l k hk, List.any_append, h, ← f7 (d := z) hk, List.any_cons, hp]; rfl
theorem af4 {α : Type} {l : List α} {k : Nat} {p : α → Bool} (h : (l.take k).any p = false) (hk : l.length ≤ k) : l.any p = false := by
 rw [bG9 hk] at h; exact h
theorem aY8 {α : Type} {l : List α} {k : Nat} {p : α → Bool} {z : α} (hk : k < l.length) (hp : p (l.getD k z) = true) : l.any p = true := by
 rw [f7 hk] at hp
 exact List.any_eq_true.2 ⟨_, bH8 hk, hp⟩
theorem aL5 (p : b7) (d : Nat) (ih : ∀ (e : b6), b9 p.vars.length p.arrays.length d e = true → c8.ok Try.prog (C6 247 [pA 0, eA e 3] (pS p ++ eS e) (bA (H1 p.vars p.arrays d e))))
    (ihl : ∀ (e : b6), b9 p.vars.length p.arrays.length d e = true → c8.ok Try.prog (C6 89 [pA 0, eA e 3] (pS p ++ eS e) (iA (j8 p.vars p.arrays d e))))
    (e : b6) (he : b9 p.vars.length p.arrays.length (d + 1) e = true) : c8.ok Try.prog (C6 247 [pA 0, eA e 3] (pS p ++ eS e) (bA (H1 p.vars p.arrays (d + 1) e))) := by
  refine z7 32 Try.func247 [dI p.vars, dI p.arrays, dT p.body, dE e.kids] [(0, pA 0), (1, eA e 3)] fun G => ?_; have hlen : e.kids.length ≤ 9223372036854775807 := G.len 3 (d := .exprs e.kids) (by kernel_rfl); refine wp_seq (d7 G b8 [0, 1, 2, 3, 4, 12] [dI p.vars, dI p.arrays, dT p.body, dE e.kids, .box (pL 0), .box (eL e 3)] [(2, .ptr 4 0), (3, .ptr 5 0), (4, bA false)] fun G => b0 (wp_seq (wp_seq ?_))); cases h0 : (e.kind == 3)
  ·
   have q0 := ne_of_beq_false h0; refine a66 G (A6 (fc h0 fz) (us [(4, 10, 0), (1011, 1011, 0)])) [0, 1, 3, 7, 15, 15, 47, 111, 239, 511, 1023, 2047] [(17, bA false)] fun G => b0 (rF G false (by kernel_rfl) (wp_skip (b0 (wp_seq (wp_seq (y5 G b8 [(2, .ptr 4 0), (3, .ptr 5 0), (4, bA false), (5, iA 0)] fun G => b0 (wp_block ?_))))))); refine l7 (κ := Nat) (fun k => k ≤ e.kids.length ∧ (e.kids.take k).any (H1 p.vars p.arrays d) = false) (fun k => e.kids.length - k) (fun k => [dI p.vars, dI p.arrays, dT p.body, dE e.kids, .box (pL 0), .box (eL e 3)]) (fun k => [(2, .ptr 4 0), (3, .ptr 5 0), (4, bA false), (5, iA k)]) 0 (by simp [he, h0]) (l9.at G _ _) ?_; clear G; intro k ρ a w hp G; refine wp_seq (wp_seq (c7 G b8 [(22, bA (decide ((k : Int) < e.kids.length)))] fun G => b0 (Q7 G (fun h2 q2 => ?_) fun h2 q2 => ?_)))
   · refine wp_exit (l6 (l6 (l5 (b0 (wp_seq (d7 G b8 (rg 4) [dI p.vars, dI p.arrays, dT p.body, dE e.kids] [(4, bA false)] fun G => b0 (wp_ret ?_))))))); exact o5 false G (rg 4) (bo9 (af4 hp.2 (by omega)) (by assumption))
   ·
    refine wp_skip (b0 (wp_seq (wp_block (wp_seq (Y6 G (n8 6 [0, 1, 2, 46] (ih (e.kids.getD k bF8) (R2 he (by omega)))) [0, 0, 2, 0, 14, 30, 63] [(31, bA (H1 p.vars p.arrays d (e.kids.getD k bF8)))] (iX k k e.kids.length []) (iK (by omega) bG8) fun G => b0 (rcB G (fun h3 => ?_) fun h3 => ?_))))))
    · refine wp_skip (j4 (b0 (C1 G b8 [(5, iA ((k : Int) + 1))] [wO ((k : Int) + 1)] (o1 (by omega)) fun G => b0 ?_))); exact N8 G (k + 1) (⟨by omega, af3 hp.2 (by omega) (by assumption)⟩) (by omega) (rg 6)
    · refine wp_seq (c7 G b8 [(4, bA true)] fun G => b0 (wp_ret (o4 (c5 (c5 (o4 (c5 ?_))))))); exact o5 true G (rg 4) (by rw [H1, aY8 (k := k) (by omega) (by assumption), Bool.or_true])
  ·
   have q0 := eq_of_beq h0; refine Y6 G (s7 (j5 9 [0, 1, 2, 70] (ihl (e.kids.getD 0 bF8) (R2 he (a53 he (by assumption)))) (j5 10 [] (O4 (j8 p.vars p.arrays d (e.kids.getD 0 bF8))) s6)) (fc h0 fz) (us [(4, 10, 0), (1011, 1011, 0)])) [0, 1, 3, 7, 15, 15, 47, 111, 239, 511, 1023, 2047] [(17, bA (c3 (j8 p.vars p.arrays d (e.kids.getD 0 bF8)) && decide (j8 p.vars p.arrays d (e.kids.getD 0 bF8) % 2 = 1)))] (iX 0 0 e.kids.length []) (iK (by have := a53 he (by assumption); omega) bG8) fun G => b0 ?_; cases h1 : (c3 (j8 p.vars p.arrays d (e.kids.getD (0 : Nat) bF8)) && decide (j8 p.vars p.arrays d (e.kids.getD (0 : Nat) bF8) % (2 : Int) = 1))
   ·
    have q1 : ((c3 (j8 p.vars p.arrays d (e.kids.getD 0 bF8))) = false) ∨ (¬ (j8 p.vars p.arrays d (e.kids.getD 0 bF8) % 2 = 1)) := Or.imp (fun hq => (hq)) (fun hq => of_decide_eq_false hq) (bI6.1 h1); refine rF G _ h1 (wp_skip (b0 (wp_seq (wp_seq (y5 G b8 [(2, .ptr 4 0), (3, .ptr 5 0), (4, bA false), (5, iA 0)] fun G => b0 (wp_block ?_)))))); refine l7 (κ := Nat) (fun k => k ≤ e.kids.length ∧ (e.kids.take k).any (H1 p.vars p.arrays d) = false) (fun k => e.kids.length - k) (fun k => [dI p.vars, dI p.arrays, dT p.body, dE e.kids, .box (pL 0), .box (eL e 3)]) (fun k => [(2, .ptr 4 0), (3, .ptr 5 0), (4, bA false), (5, iA k)]) 0 (by simp [he, h0, h1]) (l9.at G _ _) ?_; clear G; intro k ρ a w hp G; refine wp_seq (wp_seq (c7 G b8 [(22, bA (decide ((k : Int) < e.kids.length)))] fun G => b0 (Q7 G (fun h4 q4 => ?_) fun h4 q4 => ?_)))
    · refine wp_exit (l6 (l6 (l5 (b0 (wp_seq (d7 G b8 (rg 4) [dI p.vars, dI p.arrays, dT p.body, dE e.kids] [(4, bA false)] fun G => b0 (wp_ret ?_))))))); exact o5 false G (rg 4) (bf3 (af4 hp.2 (by omega)) (by assumption))
    ·
     refine wp_skip (b0 (wp_seq (wp_block (wp_seq (Y6 G (n8 6 [0, 1, 2, 46] (ih (e.kids.getD k bF8) (R2 he (by omega)))) [0, 0, 2, 0, 14, 30, 63] [(31, bA (H1 p.vars p.arrays d (e.kids.getD k bF8)))] (iX k k e.kids.length []) (iK (by omega) bG8) fun G => b0 (rcB G (fun h5 => ?_) fun h5 => ?_))))))
     · refine wp_skip (j4 (b0 (C1 G b8 [(5, iA ((k : Int) + 1))] [wO ((k : Int) + 1)] (o1 (by omega)) fun G => b0 ?_))); exact N8 G (k + 1) (⟨by omega, af3 hp.2 (by omega) (by assumption)⟩) (by omega) (rg 6)
     · refine wp_seq (c7 G b8 [(4, bA true)] fun G => b0 (wp_ret (o4 (c5 (c5 (o4 (c5 ?_))))))); exact o5 true G (rg 4) (by rw [H1, aY8 (k := k) (by omega) (by assumption), Bool.or_true])
   · have q1 : ((c3 (j8 p.vars p.arrays d (e.kids.getD 0 bF8))) = true) ∧ (j8 p.vars p.arrays d (e.kids.getD 0 bF8) % 2 = 1) := And.imp (fun hq => (hq)) (fun hq => of_decide_eq_true hq) (bJ1.1 h1); refine rT G _ h1 (wp_seq (c7 G b8 [(4, bA true)] fun G => b0 (wp_ret (c5 ?_)))); exact o5 true G (rg 4) (bo8 (by assumption) (by assumption))
def flB (x y : Int) : Bool := c3 x && c3 y && (m6 x y == y)
abbrev f5 (p : b7) (e : b6) : Int := j8 p.vars p.arrays 5 e
def bf4 (x : Int) : Bool := c3 x && decide (x % 2 = 1)
def F2 (p : b7) (s : b5) (pc : Int) : Int :=
 if s.kind = 1 then if flB (m6 (f5 p s.value) pc) (p.vars.getD s.target.toNat 0) then 0 else 1
 else if s.kind = 2 then if flB (m6 (m6 (f5 p s.value) (f5 p s.index)) pc) (p.arrays.getD s.target.toNat 0) then 0 else 1
 else if s.kind = 5 then if (c3 (f5 p s.value) && decide (f5 p s.value ≤ 1)) && decide (pc = 0) then 0 else 2
 else 0
def aa0 (p : b7) (s : b5) : Int :=
 if s.kind = 3 ∧ bf4 (f5 p s.value) = true then 3
 else if (s.kind ≠ 4 ∧ H1 p.vars p.arrays 5 s.value = true) ∨ (s.kind = 2 ∧ bf4 (f5 p s.index) = true) then 4 else 0
def T7 (p : b7) (s : b5) (pc : Int) (strict : Bool) : Int := if F2 p s pc = 0 then (if strict then aa0 p s else 0) else F2 p s pc
theorem B5 (p : b7) (e : b6) (he : b9 p.vars.length p.arrays.length 5 e = true) : c8.ok Try.prog (C6 89 [pA 0, eA e 3] (pS p ++ eS e) (iA (f5 p e))) := as8 p 5 e he
theorem aL6 (p : b7) : ∀ (d : Nat) (e : b6), b9 p.vars.length p.arrays.length d e = true → c8.ok Try.prog (C6 247 [pA 0, eA e 3] (pS p ++ eS e) (bA (H1 p.vars p.arrays d e))) := by
 intro d
 induction d with
 | zero => intro e h; simp [b9] at h
 | succ d ih => intro e h; exact aL5 p d ih (as8 p d) e h
theorem x9 (p : b7) (e : b6) (he : b9 p.vars.length p.arrays.length 5 e = true) : c8.ok Try.prog (C6 247 [pA 0, eA e 3] (pS p ++ eS e) (bA (H1 p.vars p.arrays 5 e))) := aL6 p 5 e he
section
variable {nv na : Nat} {s : b5}
theorem aj9 {e : b6} (h : c6 nv na e = true) : b9 nv na 5 e = true := by unfold c6 at h; simp only [bF9] at h; exact h.1
variable (h : C3 nv na s = true)
include h
theorem t6 (k : ¬ s.kind = 4) : b9 nv na 5 s.value = true := by
 apply aj9
 by_cases k1 : s.kind = 1 ∨ s.kind = 5
 ·rw [v6 k1] at h; simp only [bF9] at h; exact h.2.2
 by_cases k2 : s.kind = 2
 ·rw [D7 k2] at h; simp only [bF9] at h; exact h.2.2.2
 by_cases k3 : s.kind = 3
 ·rw [P9 k3] at h; simp only [bF9] at h; exact h.2.2
 ·rw [ba2 (by omega)] at h; cases h
theorem ar5 (k : s.kind = 2) : b9 nv na 5 s.index = true := by
 rw [D7 k] at h; simp only [bF9] at h; exact aj9 h.2.1
theorem ar4 (k : s.kind = 1 ∨ s.kind = 5) : 0 ≤ s.target ∧ s.target < nv ∧ s.target.toNat < nv := by
 rw [v6 k] at h; simp only [bF9, decide_eq_true_eq] at h; omega
theorem ar6 (k : s.kind = 2) : 0 ≤ s.target ∧ s.target < na ∧ s.target.toNat < na := by
 rw [D7 k] at h; simp only [bF9, decide_eq_true_eq] at h; omega
end
section
variable {p : b7} {s : b5} {pc : Int} {strict : Bool} {x : Int}
theorem ad7 (h : F2 p s pc = x) (hx : x ≠ 0) : T7 p s pc strict = x := by rw [T7, h, if_neg hx]
theorem V7 (h : F2 p s pc = 0) : T7 p s pc false = 0 := by rw [T7, h]; rfl
theorem r7 (h : F2 p s pc = 0) (hl : aa0 p s = x) : T7 p s pc true = x := by rw [T7, h, hl]; rfl
theorem br2 (k : s.kind = 1) (h : (!(c3 (m6 (f5 p s.value) pc) && c3 (p.vars.getD s.target.toNat 0) && (m6 (m6 (f5 p s.value) pc) (p.vars.getD s.target.toNat 0) == (p.vars.getD s.target.toNat 0)))) = false) : F2 p s pc = 0 := by rw [F2, if_pos k, if_pos (by unfold flB; first | (rw [bG7] at h; exact h) | (rw [bG6] at h; rw [h]; simp))]
theorem bF4 (k : s.kind = 1) (h : (!(c3 (m6 (f5 p s.value) pc) && c3 (p.vars.getD s.target.toNat 0) && (m6 (m6 (f5 p s.value) pc) (p.vars.getD s.target.toNat 0) == (p.vars.getD s.target.toNat 0)))) = true) : F2 p s pc = 1 := by rw [F2, if_pos k, if_neg (by unfold flB; first | (rw [bG7] at h; exact h) | (rw [bG6] at h; rw [h]; simp))]
theorem bi1 (k : s.kind = 2) (h : (!(c3 (m6 (m6 (f5 p s.value) (f5 p s.index)) pc) && c3 (p.arrays.getD s.target.toNat 0) && (m6 (m6 (m6 (f5 p s.value) (f5 p s.index)) pc) (p.arrays.getD s.target.toNat 0) == (p.arrays.getD s.target.toNat 0)))) = false) : F2 p s pc = 0 := by rw [F2, if_neg (by omega), if_pos k, if_pos (by unfold flB; first | (rw [bG7] at h; exact h) | (rw [bG6] at h; rw [h]; simp))]
theorem bF3 (k : s.kind = 2) (h : (!(c3 (m6 (m6 (f5 p s.value) (f5 p s.index)) pc) && c3 (p.arrays.getD s.target.toNat 0) && (m6 (m6 (m6 (f5 p s.value) (f5 p s.index)) pc) (p.arrays.getD s.target.toNat 0) == (p.arrays.getD s.target.toNat 0)))) = true) : F2 p s pc = 1 := by rw [F2, if_neg (by omega), if_pos k, if_neg (by unfold flB; first | (rw [bG7] at h; exact h) | (rw [bG6] at h; rw [h]; simp))]
theorem br1 (k : s.kind = 5) (h : (!(c3 (f5 p s.value) && decide (f5 p s.value ≤ 1))) = false) (h2 : pc = 0) : F2 p s pc = 0 := by
 rw [bG7] at h
 rw [F2, if_neg (by omega), if_neg (by omega), if_pos k, h, decide_eq_true h2]; rfl
theorem bx2 (k : s.kind = 5) (h : (!(c3 (f5 p s.value) && decide (f5 p s.value ≤ 1))) = true ∨ ¬ pc = 0) : F2 p s pc = 2 := by
 rw [F2, if_neg (by omega), if_neg (by omega), if_pos k]
 rcases h with h | h
 ·rw [bG6] at h
  rw [h]; rfl
 ·rw [decide_eq_false h, Bool.and_false]; rfl
theorem fl0 (k : ¬ s.kind = 1 ∧ ¬ s.kind = 2 ∧ ¬ s.kind = 5) : F2 p s pc = 0 := by rw [F2, if_neg k.1, if_neg k.2.1, if_neg k.2.2]
theorem lk3 (k : s.kind = 3) (h : (c3 (f5 p s.value) && decide (f5 p s.value % 2 = 1)) = true) : aa0 p s = 3 := by rw [aa0, if_pos ⟨k, (show bf4 _ = true from h)⟩]
theorem lkv (h3 : ¬ s.kind = 3 ∨ (c3 (f5 p s.value) && decide (f5 p s.value % 2 = 1)) = false) (k : ¬ s.kind = 4) (h : H1 p.vars p.arrays 5 s.value = true) : aa0 p s = 4 := by
 rw [aa0, if_neg (by rintro ⟨a, b⟩; exact h3.elim (fun h => h a) (fun h => Bool.false_ne_true (h.symm.trans b))), if_pos (.inl ⟨k, h⟩)]
theorem lki (k : s.kind = 2) (h : (c3 (f5 p s.index) && decide (f5 p s.index % 2 = 1)) = true) : aa0 p s = 4 := by
 rw [aa0, if_neg (by omega), if_pos (.inr ⟨k, (show bf4 _ = true from h)⟩)]
theorem lk0 (h3 : ¬ s.kind = 3 ∨ (c3 (f5 p s.value) && decide (f5 p s.value % 2 = 1)) = false) (h4 : s.kind = 4 ∨ H1 p.vars p.arrays 5 s.value = false) (h2 : ¬ s.kind = 2 ∨ (c3 (f5 p s.index) && decide (f5 p s.index % 2 = 1)) = false) : aa0 p s = 0 := by
 rw [aa0, if_neg (by rintro ⟨a, b⟩; exact h3.elim (fun h => h a) (fun h => Bool.false_ne_true (h.symm.trans b))), if_neg]
 rintro (⟨a, b⟩ | ⟨a, b⟩)
 ·rcases h4 with h | h
  ·exact a h
  ·rw [h] at b; cases b
 ·rcases h2 with h | h
  ·exact h a
  ·exact Bool.false_ne_true (h.symm.trans b)
end
abbrev G4 (p : b7) (s : b5) (r0 : List It) : List It := dI p.vars :: dI p.arrays :: dT p.body :: dE s.index.kids :: dE s.value.kids :: dT s.body :: dT s.els :: r0
theorem bj3 (p : b7) (s : b5) (pc : Int) (strict : Bool) (h : C3 p.vars.length p.arrays.length s = true) : c8.ok Try.prog (C6 242 [pA 0, sA s 3, iA pc, bA strict] (pS p ++ sS s) (iA (T7 p s pc strict))) := by
  refine z7 94 Try.func242 (G4 p s []) [(0, pA 0), (1, sA s 3), (2, iA pc), (3, bA strict)] fun G => ?_; refine wp_seq (d7 G b8 [0, 1, 2, 3, 4, 5, 6, 7, 15] (G4 p s [.box (pL 0), .box (sL s 3)]) [(2, iA pc), (3, bA strict), (4, .ptr 7 0), (5, .ptr 8 0), (8, iA 0)] fun G => b0 (wp_seq (wp_seq (c7 G b8 [(10, iA s.kind)] fun G => b0 (wp_block (wp_seq (c7 G b8 [(11, bA (s.kind == 1))] fun G => b0 (L5 G (fun h0 q0 => ?_) fun h0 q0 => ?_))))))))
  ·
   refine wp_seq (c7 G b8 [(27, bA (s.kind == 2))] fun G => b0 (L5 G (fun h1 q1 => ?_) fun h1 q1 => ?_))
   ·
    refine wp_seq (c7 G b8 [(48, bA (s.kind == 5))] fun G => b0 (L5 G (fun h2 q2 => ?_) fun h2 q2 => ?_))
    ·
     refine wp_seq (c7 G b8 [(60, bA (s.kind == 3))] fun G => b0 (L5 G (fun h3 q3 => ?_) fun h3 q3 => ?_))
     ·
      refine wp_skip (j4 (b0 (wp_seq (wp_seq ?_)))); cases h4 : (strict)
      · refine d7 G (A6 (fc h4 fz) (us [(2, 5, 0), (10, 11, 0), (22, 22, 0), (1023, 1023, 0)])) (rg 7) (G4 p s []) [(8, iA 0), (93, bA false)] fun G => b0 (rF G false (by kernel_rfl) (wp_skip (b0 (wp_seq (c7 G b8 [] fun G => b0 (wp_ret ?_)))))); exact E4 0 G (rg 7) (V7 (fl0 (by omega)))
      ·
       cases h5 : (s.kind != 4)
       · have q5 := bne_eq_false_iff_eq.1 h5; refine d7 G (A6 (fc h4 (fc h5 (fc (b := false) rfl (fc h1 fz)))) (us [(2, 5, 0), (6, 9, 1), (10, 10, 0), (1010, 1010, 1), (11, 11, 0), (12, 15, 2), (16, 20, 3), (21, 21, 2), (1021, 1021, 3), (22, 22, 0), (1022, 1022, 2), (1023, 1023, 0)])) (rg 7) (G4 p s []) [(8, iA 0), (93, bA false)] fun G => b0 (rF G false (by kernel_rfl) (wp_skip (b0 (wp_seq (c7 G b8 [] fun G => b0 (wp_ret ?_)))))); exact E4 0 G (rg 7) (r7 (fl0 (by omega)) (lk0 (by exact .inl (by omega)) (by exact .inl (by omega)) (by exact .inl (by omega))))
       ·
        have q5 := bne_iff_ne.1 h5; cases h6 : (H1 p.vars p.arrays (5 : Nat) s.value)
        · refine d7 G (s7 (j5 9 [0, 1, 2, 4] (x9 p s.value (t6 h (by omega))) s6) (fc h4 (fc h5 (fc h6 (fc h1 fz)))) (us [(2, 5, 0), (6, 9, 1), (10, 10, 0), (1010, 1010, 1), (11, 11, 0), (12, 15, 2), (16, 20, 3), (21, 21, 2), (1021, 1021, 3), (22, 22, 0), (1022, 1022, 2), (1023, 1023, 0)])) (rg 7) (G4 p s []) [(8, iA 0), (93, bA false)] fun G => b0 (rF G false (by kernel_rfl) (wp_skip (b0 (wp_seq (c7 G b8 [] fun G => b0 (wp_ret ?_)))))); exact E4 0 G (rg 7) (r7 (fl0 (by omega)) (lk0 (by exact .inl (by omega)) (by exact .inr (by with_reducible assumption)) (by exact .inl (by omega))))
        · refine d7 G (s7 (j5 9 [0, 1, 2, 4] (x9 p s.value (t6 h (by omega))) s6) (fc h4 (fc h5 (fc h6 fz))) (us [(2, 5, 0), (6, 9, 1), (10, 10, 0), (1010, 1010, 1), (11, 11, 0), (12, 15, 2), (21, 21, 2), (22, 22, 0), (1022, 1022, 2), (1023, 1023, 0)])) (rg 7) (G4 p s []) [(8, iA 0), (93, bA true)] fun G => b0 (rT G true (by kernel_rfl) (wp_seq (c7 G b8 [(8, iA 4)] fun G => b0 (wp_ret (c5 ?_))))); exact E4 4 G (rg 7) (r7 (fl0 (by omega)) (lkv (by exact .inl (by omega)) (by omega) (by with_reducible assumption)))
     ·
      refine wp_seq ?_; cases h7 : (strict)
      · refine c7 G (A6 (fc h7 fz) (us [(2, 6, 0), (1007, 1007, 0)])) [(69, bA false)] fun G => b0 (rF G false (by kernel_rfl) (wp_skip (j4 (b0 (wp_seq (wp_seq (d7 G (A6 (fc h7 fz) (us [(2, 5, 0), (10, 11, 0), (22, 22, 0), (1023, 1023, 0)])) (rg 7) (G4 p s []) [(8, iA 0), (93, bA false)] fun G => b0 (rF G false (by kernel_rfl) (wp_skip (b0 (wp_seq (c7 G b8 [] fun G => b0 (wp_ret ?_))))))))))))); exact E4 0 G (rg 7) (V7 (fl0 (by omega)))
      ·
       refine y5 G (s7 (j5 5 [0, 1, 2, 4] (B5 p s.value (t6 h (by omega))) (j5 6 [] (O4 (f5 p s.value)) s6)) (fc h7 fz) (us [(2, 6, 0), (1007, 1007, 0)])) [(3, bA strict), (4, .ptr 7 0), (5, .ptr 8 0), (8, iA 0), (69, bA (c3 (f5 p s.value) && decide (f5 p s.value % 2 = 1)))] fun G => b0 ?_; cases h8 : (c3 (f5 p s.value) && decide (f5 p s.value % (2 : Int) = 1))
       ·
        have q8 : ((c3 (f5 p s.value)) = false) ∨ (¬ (f5 p s.value % 2 = 1)) := Or.imp (fun hq => (hq)) (fun hq => of_decide_eq_false hq) (bI6.1 h8); refine rF G _ h8 (wp_skip (j4 (b0 (wp_seq (wp_seq ?_))))); cases h9 : (s.kind != 4)
        · have q9 := bne_eq_false_iff_eq.1 h9; exact False.elim (by omega)
        ·
         have q9 := bne_iff_ne.1 h9; cases h10 : (H1 p.vars p.arrays (5 : Nat) s.value)
         · refine d7 G (s7 (j5 9 [0, 1, 2, 4] (x9 p s.value (t6 h (by omega))) s6) (fc h7 (fc h9 (fc h10 (fc h1 fz)))) (us [(2, 5, 0), (6, 9, 1), (10, 10, 0), (1010, 1010, 1), (11, 11, 0), (12, 15, 2), (16, 20, 3), (21, 21, 2), (1021, 1021, 3), (22, 22, 0), (1022, 1022, 2), (1023, 1023, 0)])) (rg 7) (G4 p s []) [(8, iA 0), (93, bA false)] fun G => b0 (rF G false (by kernel_rfl) (wp_skip (b0 (wp_seq (c7 G b8 [] fun G => b0 (wp_ret ?_)))))); exact E4 0 G (rg 7) (r7 (fl0 (by omega)) (lk0 (by exact .inr (by with_reducible assumption)) (by exact .inr (by with_reducible assumption)) (by exact .inl (by omega))))
         · refine d7 G (s7 (j5 9 [0, 1, 2, 4] (x9 p s.value (t6 h (by omega))) s6) (fc h7 (fc h9 (fc h10 fz))) (us [(2, 5, 0), (6, 9, 1), (10, 10, 0), (1010, 1010, 1), (11, 11, 0), (12, 15, 2), (21, 21, 2), (22, 22, 0), (1022, 1022, 2), (1023, 1023, 0)])) (rg 7) (G4 p s []) [(8, iA 0), (93, bA true)] fun G => b0 (rT G true (by kernel_rfl) (wp_seq (c7 G b8 [(8, iA 4)] fun G => b0 (wp_ret (c5 ?_))))); exact E4 4 G (rg 7) (r7 (fl0 (by omega)) (lkv (by exact .inr (by with_reducible assumption)) (by omega) (by with_reducible assumption)))
       · have q8 : ((c3 (f5 p s.value)) = true) ∧ (f5 p s.value % 2 = 1) := And.imp (fun hq => (hq)) (fun hq => of_decide_eq_true hq) (bJ1.1 h8); refine rT G _ h8 (wp_seq (c7 G b8 [(8, iA 3)] fun G => b0 (wp_ret (o4 (c5 ?_))))); exact E4 3 G (rg 7) (r7 (fl0 (by omega)) (lk3 (by with_reducible assumption) (by with_reducible assumption)))
    ·
     refine wp_seq ?_; cases h11 : (!(c3 (f5 p s.value) && decide (f5 p s.value ≤ 1)))
     ·
      have q11 : ((c3 (f5 p s.value)) = true) ∧ (f5 p s.value ≤ 1) := (fun hq => And.imp (fun hq => (hq)) (fun hq => of_decide_eq_true hq) (bJ1.1 hq)) (Eq.mp (bG7 _) h11); refine y5 G (s7 (j5 3 [0, 1, 2, 4] (B5 p s.value (t6 h (by omega))) (j5 4 [] (W3 (f5 p s.value)) s6)) (fc h11 fz) [(7, 0), (8, 0), (1009, 0)]) [(3, bA strict), (4, .ptr 7 0), (5, .ptr 8 0), (8, iA 0), (59, bA (pc != 0))] fun G => b0 (rcN G (fun h12 q12 => ?_) fun h12 q12 => ?_)
      ·
       refine wp_skip (j4 (b0 (wp_seq (wp_seq ?_)))); cases h13 : (strict)
       · refine d7 G (A6 (fc h13 fz) (us [(2, 5, 0), (10, 11, 0), (22, 22, 0), (1023, 1023, 0)])) (rg 7) (G4 p s []) [(8, iA 0), (93, bA false)] fun G => b0 (rF G false (by kernel_rfl) (wp_skip (b0 (wp_seq (c7 G b8 [] fun G => b0 (wp_ret ?_)))))); exact E4 0 G (rg 7) (V7 (br1 (by with_reducible assumption) (by with_reducible assumption) (by with_reducible assumption)))
       ·
        cases h14 : (s.kind != 4)
        · have q14 := bne_eq_false_iff_eq.1 h14; exact False.elim (by omega)
        ·
         have q14 := bne_iff_ne.1 h14; cases h15 : (H1 p.vars p.arrays (5 : Nat) s.value)
         · refine d7 G (s7 (j5 9 [0, 1, 2, 4] (x9 p s.value (t6 h (by omega))) s6) (fc h13 (fc h14 (fc h15 (fc h1 fz)))) (us [(2, 5, 0), (6, 9, 1), (10, 10, 0), (1010, 1010, 1), (11, 11, 0), (12, 15, 2), (16, 20, 3), (21, 21, 2), (1021, 1021, 3), (22, 22, 0), (1022, 1022, 2), (1023, 1023, 0)])) (rg 7) (G4 p s []) [(8, iA 0), (93, bA false)] fun G => b0 (rF G false (by kernel_rfl) (wp_skip (b0 (wp_seq (c7 G b8 [] fun G => b0 (wp_ret ?_)))))); exact E4 0 G (rg 7) (r7 (br1 (by with_reducible assumption) (by with_reducible assumption) (by with_reducible assumption)) (lk0 (by exact .inl (by omega)) (by exact .inr (by with_reducible assumption)) (by exact .inl (by omega))))
         · refine d7 G (s7 (j5 9 [0, 1, 2, 4] (x9 p s.value (t6 h (by omega))) s6) (fc h13 (fc h14 (fc h15 fz))) (us [(2, 5, 0), (6, 9, 1), (10, 10, 0), (1010, 1010, 1), (11, 11, 0), (12, 15, 2), (21, 21, 2), (22, 22, 0), (1022, 1022, 2), (1023, 1023, 0)])) (rg 7) (G4 p s []) [(8, iA 0), (93, bA true)] fun G => b0 (rT G true (by kernel_rfl) (wp_seq (c7 G b8 [(8, iA 4)] fun G => b0 (wp_ret (c5 ?_))))); exact E4 4 G (rg 7) (r7 (br1 (by with_reducible assumption) (by with_reducible assumption) (by with_reducible assumption)) (lkv (by exact .inl (by omega)) (by omega) (by with_reducible assumption)))
      · refine wp_seq (c7 G b8 [(8, iA 2)] fun G => b0 (wp_ret (o4 (c5 ?_)))); exact E4 2 G (rg 7) (ad7 (bx2 (by with_reducible assumption) (.inr (by with_reducible assumption))) (by decide))
     · have q11 : ((c3 (f5 p s.value)) = false) ∨ (¬ (f5 p s.value ≤ 1)) := (fun hq => Or.imp (fun hq => (hq)) (fun hq => of_decide_eq_false hq) (bI6.1 hq)) (Eq.mp (bG6 _) h11); refine c7 G (s7 (j5 3 [0, 1, 2, 4] (B5 p s.value (t6 h (by omega))) (j5 4 [] (W3 (f5 p s.value)) s6)) (fc h11 fz) [(7, 0), (8, 0), (1009, 0)]) [(59, bA true)] fun G => b0 (rT G true (by kernel_rfl) (wp_seq (c7 G b8 [(8, iA 2)] fun G => b0 (wp_ret (o4 (c5 ?_)))))); exact E4 2 G (rg 7) (ad7 (bx2 (by with_reducible assumption) (.inl (by with_reducible assumption))) (by decide))
   ·
    refine wp_seq (bv5 G (s7 (j5 3 [0, 1, 2, 4] (B5 p s.value (t6 h (by omega))) (j5 7 (rg 4) (B5 p s.index (ar5 h (by with_reducible assumption))) (j5 17 [] (af1 (m6 (m6 (f5 p s.value) (f5 p s.index)) pc) (p.arrays.getD s.target.toNat 0)) s6))) fz []) [0, 0, 2, 7, 0, 0, 32, 127, 255, 0, 1023, 0, 2048, 0, 8192, 30720, 63488, 131071, 262143] [(3, bA strict), (4, .ptr 7 0), (5, .ptr 8 0), (8, iA 0), (47, .v (.bool !(c3 (m6 (m6 (f5 p s.value) (f5 p s.index)) pc) && c3 (p.arrays.getD s.target.toNat 0) && m6 (m6 (m6 (f5 p s.value) (f5 p s.index)) pc) (p.arrays.getD s.target.toNat 0) == p.arrays.getD s.target.toNat 0)))] [(0 : Int) ≤ s.target, s.target < (p.arrays.length : Int), s.target.toNat < p.arrays.length] ⟨((ar6 h (by omega)).1), ((ar6 h (by omega)).2.1), ((ar6 h (by omega)).2.2), bG8⟩ fun G => b0 ?_); cases h16 : (!(c3 (m6 (m6 (f5 p s.value) (f5 p s.index)) pc) && c3 (p.arrays.getD s.target.toNat (0 : Int)) && m6 (m6 (m6 (f5 p s.value) (f5 p s.index)) pc) (p.arrays.getD s.target.toNat (0 : Int)) == p.arrays.getD s.target.toNat (0 : Int)))
    ·
     have q16 : (((c3 (m6 (m6 (f5 p s.value) (f5 p s.index)) pc)) = true) ∧ ((c3 (p.arrays.getD s.target.toNat 0)) = true)) ∧ (m6 (m6 (m6 (f5 p s.value) (f5 p s.index)) pc) (p.arrays.getD s.target.toNat 0) = p.arrays.getD s.target.toNat 0) := (fun hq => And.imp (fun hq => And.imp (fun hq => (hq)) (fun hq => (hq)) (bJ1.1 hq)) (fun hq => eq_of_beq hq) (bJ1.1 hq)) (Eq.mp (bG7 _) h16); refine rF G _ h16 (wp_skip (j4 (b0 (wp_seq (wp_seq ?_))))); cases h17 : (strict)
     · refine d7 G (A6 (fc h17 fz) (us [(2, 5, 0), (10, 11, 0), (22, 22, 0), (1023, 1023, 0)])) (rg 7) (G4 p s []) [(8, iA 0), (93, bA false)] fun G => b0 (rF G false (by kernel_rfl) (wp_skip (b0 (wp_seq (c7 G b8 [] fun G => b0 (wp_ret ?_)))))); exact E4 0 G (rg 7) (V7 (bi1 (by with_reducible assumption) (by with_reducible assumption)))
     ·
      cases h18 : (s.kind != 4)
      · have q18 := bne_eq_false_iff_eq.1 h18; exact False.elim (by omega)
      ·
       have q18 := bne_iff_ne.1 h18; cases h19 : (H1 p.vars p.arrays (5 : Nat) s.value)
       ·
        refine d7 G (s7 (j5 9 [0, 1, 2, 4] (x9 p s.value (t6 h (by omega))) (j5 19 (rg 4) (B5 p s.index (ar5 h (by with_reducible assumption))) (j5 20 [] (O4 (f5 p s.index)) s6))) (fc h17 (fc h18 (fc h19 (fc h1 fz)))) (us [(2, 5, 0), (6, 9, 1), (10, 10, 0), (1010, 1010, 1), (11, 11, 0), (12, 15, 2), (16, 20, 3), (21, 21, 2), (1021, 1021, 3), (22, 22, 0), (1022, 1022, 2), (1023, 1023, 0)])) (rg 7) (G4 p s []) [(8, iA 0), (93, bA (c3 (f5 p s.index) && decide (f5 p s.index % 2 = 1)))] fun G => b0 ?_; cases h20 : (c3 (f5 p s.index) && decide (f5 p s.index % (2 : Int) = 1))
        · have q20 : ((c3 (f5 p s.index)) = false) ∨ (¬ (f5 p s.index % 2 = 1)) := Or.imp (fun hq => (hq)) (fun hq => of_decide_eq_false hq) (bI6.1 h20); refine rF G _ h20 (wp_skip (b0 (wp_seq (c7 G b8 [] fun G => b0 (wp_ret ?_))))); exact E4 0 G (rg 7) (r7 (bi1 (by with_reducible assumption) (by with_reducible assumption)) (lk0 (by exact .inl (by omega)) (by exact .inr (by with_reducible assumption)) (by exact .inr (by with_reducible assumption))))
        · have q20 : ((c3 (f5 p s.index)) = true) ∧ (f5 p s.index % 2 = 1) := And.imp (fun hq => (hq)) (fun hq => of_decide_eq_true hq) (bJ1.1 h20); refine rT G _ h20 (wp_seq (c7 G b8 [(8, iA 4)] fun G => b0 (wp_ret (c5 ?_)))); exact E4 4 G (rg 7) (r7 (bi1 (by with_reducible assumption) (by with_reducible assumption)) (lki (by with_reducible assumption) (by with_reducible assumption)))
       · refine d7 G (s7 (j5 9 [0, 1, 2, 4] (x9 p s.value (t6 h (by omega))) s6) (fc h17 (fc h18 (fc h19 fz))) (us [(2, 5, 0), (6, 9, 1), (10, 10, 0), (1010, 1010, 1), (11, 11, 0), (12, 15, 2), (21, 21, 2), (22, 22, 0), (1022, 1022, 2), (1023, 1023, 0)])) (rg 7) (G4 p s []) [(8, iA 0), (93, bA true)] fun G => b0 (rT G true (by kernel_rfl) (wp_seq (c7 G b8 [(8, iA 4)] fun G => b0 (wp_ret (c5 ?_))))); exact E4 4 G (rg 7) (r7 (bi1 (by with_reducible assumption) (by with_reducible assumption)) (lkv (by exact .inl (by omega)) (by omega) (by with_reducible assumption)))
    · have q16 : (((c3 (m6 (m6 (f5 p s.value) (f5 p s.index)) pc)) = false) ∨ ((c3 (p.arrays.getD s.target.toNat 0)) = false)) ∨ (¬ (m6 (m6 (m6 (f5 p s.value) (f5 p s.index)) pc) (p.arrays.getD s.target.toNat 0) = p.arrays.getD s.target.toNat 0)) := (fun hq => Or.imp (fun hq => Or.imp (fun hq => (hq)) (fun hq => (hq)) (bI6.1 hq)) (fun hq => ne_of_beq_false hq) (bI6.1 hq)) (Eq.mp (bG6 _) h16); refine rT G _ h16 (wp_seq (c7 G b8 [(8, iA 1)] fun G => b0 (wp_ret (o4 (c5 ?_))))); exact E4 1 G (rg 7) (ad7 (bF3 (by with_reducible assumption) (by with_reducible assumption)) (by decide))
  ·
   refine wp_seq (bv5 G (s7 (j5 3 [0, 1, 2, 4] (B5 p s.value (t6 h (by omega))) (j5 12 [] (af1 (m6 (f5 p s.value) pc) (p.vars.getD s.target.toNat 0)) s6)) fz []) [0, 0, 2, 7, 0, 31, 0, 64, 0, 256, 960, 1984, 4095, 8191] [(3, bA strict), (4, .ptr 7 0), (5, .ptr 8 0), (8, iA 0), (26, .v (.bool !(c3 (m6 (f5 p s.value) pc) && c3 (p.vars.getD s.target.toNat 0) && m6 (m6 (f5 p s.value) pc) (p.vars.getD s.target.toNat 0) == p.vars.getD s.target.toNat 0)))] [(0 : Int) ≤ s.target, s.target < (p.vars.length : Int), s.target.toNat < p.vars.length] ⟨((ar4 h (by omega)).1), ((ar4 h (by omega)).2.1), ((ar4 h (by omega)).2.2), bG8⟩ fun G => b0 ?_); cases h21 : (!(c3 (m6 (f5 p s.value) pc) && c3 (p.vars.getD s.target.toNat (0 : Int)) && m6 (m6 (f5 p s.value) pc) (p.vars.getD s.target.toNat (0 : Int)) == p.vars.getD s.target.toNat (0 : Int)))
   ·
    have q21 : (((c3 (m6 (f5 p s.value) pc)) = true) ∧ ((c3 (p.vars.getD s.target.toNat 0)) = true)) ∧ (m6 (m6 (f5 p s.value) pc) (p.vars.getD s.target.toNat 0) = p.vars.getD s.target.toNat 0) := (fun hq => And.imp (fun hq => And.imp (fun hq => (hq)) (fun hq => (hq)) (bJ1.1 hq)) (fun hq => eq_of_beq hq) (bJ1.1 hq)) (Eq.mp (bG7 _) h21); refine rF G _ h21 (wp_skip (j4 (b0 (wp_seq (wp_seq ?_))))); cases h22 : (strict)
    · refine d7 G (A6 (fc h22 fz) (us [(2, 5, 0), (10, 11, 0), (22, 22, 0), (1023, 1023, 0)])) (rg 7) (G4 p s []) [(8, iA 0), (93, bA false)] fun G => b0 (rF G false (by kernel_rfl) (wp_skip (b0 (wp_seq (c7 G b8 [] fun G => b0 (wp_ret ?_)))))); exact E4 0 G (rg 7) (V7 (br2 (by with_reducible assumption) (by with_reducible assumption)))
    ·
     cases h23 : (s.kind != 4)
     · have q23 := bne_eq_false_iff_eq.1 h23; exact False.elim (by omega)
     ·
      have q23 := bne_iff_ne.1 h23; cases h24 : (H1 p.vars p.arrays (5 : Nat) s.value)
      ·
       cases h25 : (s.kind == 2)
       · have q25 := ne_of_beq_false h25; refine d7 G (s7 (j5 9 [0, 1, 2, 4] (x9 p s.value (t6 h (by omega))) s6) (fc h22 (fc h23 (fc h24 (fc h25 fz)))) (us [(2, 5, 0), (6, 9, 1), (10, 10, 0), (1010, 1010, 1), (11, 11, 0), (12, 15, 2), (16, 20, 3), (21, 21, 2), (1021, 1021, 3), (22, 22, 0), (1022, 1022, 2), (1023, 1023, 0)])) (rg 7) (G4 p s []) [(8, iA 0), (93, bA false)] fun G => b0 (rF G false (by kernel_rfl) (wp_skip (b0 (wp_seq (c7 G b8 [] fun G => b0 (wp_ret ?_)))))); exact E4 0 G (rg 7) (r7 (br2 (by with_reducible assumption) (by with_reducible assumption)) (lk0 (by exact .inl (by omega)) (by exact .inr (by with_reducible assumption)) (by exact .inl (by omega))))
       · have q25 := eq_of_beq h25; exact False.elim (by omega)
      · refine d7 G (s7 (j5 9 [0, 1, 2, 4] (x9 p s.value (t6 h (by omega))) s6) (fc h22 (fc h23 (fc h24 fz))) (us [(2, 5, 0), (6, 9, 1), (10, 10, 0), (1010, 1010, 1), (11, 11, 0), (12, 15, 2), (21, 21, 2), (22, 22, 0), (1022, 1022, 2), (1023, 1023, 0)])) (rg 7) (G4 p s []) [(8, iA 0), (93, bA true)] fun G => b0 (rT G true (by kernel_rfl) (wp_seq (c7 G b8 [(8, iA 4)] fun G => b0 (wp_ret (c5 ?_))))); exact E4 4 G (rg 7) (r7 (br2 (by with_reducible assumption) (by with_reducible assumption)) (lkv (by exact .inl (by omega)) (by omega) (by with_reducible assumption)))
   · have q21 : (((c3 (m6 (f5 p s.value) pc)) = false) ∨ ((c3 (p.vars.getD s.target.toNat 0)) = false)) ∨ (¬ (m6 (m6 (f5 p s.value) pc) (p.vars.getD s.target.toNat 0) = p.vars.getD s.target.toNat 0)) := (fun hq => Or.imp (fun hq => Or.imp (fun hq => (hq)) (fun hq => (hq)) (bI6.1 hq)) (fun hq => ne_of_beq_false hq) (bI6.1 hq)) (Eq.mp (bG6 _) h21); refine rT G _ h21 (wp_seq (c7 G b8 [(8, iA 1)] fun G => b0 (wp_ret (o4 (c5 ?_))))); exact E4 1 G (rg 7) (ad7 (bF4 (by with_reducible assumption) (by with_reducible assumption)) (by decide))
def z6 (F : Nat → b5 → Int × Nat) : Nat → List b5 → Int × Nat
 | c, [] => (0, c)
 | c, s :: r => if (F c s).1 = 0 then z6 F (F c s).2 r else F c s
def aq9 (p : b7) (s : b5) (pc : Int) : Int := if s.kind = 3 then m6 pc (f5 p s.value) else pc
def stC (p : b7) (strict : Bool) : Nat → Int → Nat → b5 → Int × Nat
  | 0, _, c, _ => (0, c)
  | d + 1, pc, c, s => if T7 p s pc strict = 0 then
      (if (z6 (stC p strict d (aq9 p s pc)) (c + 1) s.body).1 = 0 then z6 (stC p strict d (aq9 p s pc)) (z6 (stC p strict d (aq9 p s pc)) (c + 1) s.body).2 s.els
       else z6 (stC p strict d (aq9 p s pc)) (c + 1) s.body)
    else (T7 p s pc strict, c)
abbrev m7 (p : b7) (strict : Bool) (d : Nat) (pc : Int) (c : Nat) (ss : List b5) : Int × Nat := z6 (stC p strict d pc) c ss
theorem R9 (F : Nat → b5 → Int × Nat) : ∀ (a b : List b5) (c : Nat), z6 F c (a ++ b) = if (z6 F c a).1 = 0 then z6 F (z6 F c a).2 b else z6 F c a
 | [], b, c => by simp [z6]
 | x :: r, b, c => by
  simp only [List.cons_append, z6]
  by_cases h : (F c x).1 = 0
  ·simp only [h, if_true]; exact R9 F r b _
  ·simp [h]
theorem L0 {F : Nat → b5 → Int × Nat} {c k : Nat} {ss : List b5} (h : (z6 F c (ss.take k)).1 = 0) (hk : k < ss.length) : z6 F c (ss.take (k + 1)) = F (z6 F c (ss.take k)).2 (ss.getD k bF8) := by
 rw [m0 _ _ hk, R9, if_pos h, f7 hk]
 simp only [z6]
 split
 ·rename_i h; exact Prod.ext h.symm rfl
 ·rfl
theorem x7 {F : Nat → b5 → Int × Nat} {c k : Nat} {ss : List b5} (h : (z6 F c (ss.take k)).1 = 0) (hk : k < ss.length) (hf : ¬ (F (z6 F c (ss.take k)).2 (ss.getD k bF8)).1 = 0) : z6 F c ss = F (z6 F c (ss.take k)).2 (ss.getD k bF8) := by
 conv => lhs; rw [← List.take_append_drop (k + 1) ss]
 rw [R9, L0 h hk, if_neg hf]
theorem as0 {F : Nat → b5 → Int × Nat} {c k : Nat} {ss : List b5} (hk : ss.length ≤ k) : z6 F c ss = z6 F c (ss.take k) := by rw [bG9 hk]
theorem ae6 {F : Nat → b5 → Int × Nat} (hF : ∀ c s, (F c s).2 ≤ c + nS s) : ∀ (ss : List b5) (c : Nat), (z6 F c ss).2 ≤ c + L6 ss
 | [], c => by simp [z6]
 | s :: r, c => by
  simp only [z6, L6]
  have h1 := hF c s
  have h2 := ae6 hF r (F c s).2
  split <;> omega
theorem aO2 {p : b7} {strict : Bool} : ∀ (d : Nat) (pc : Int) (c : Nat) (s : b5), (stC p strict d pc c s).2 ≤ c + nS s
 | 0, _, c, s => by simp [stC]
 | d + 1, pc, c, s => by
  have hs := ap9 s
  have h1 := ae6 (aO2 (p := p) (strict := strict) d (aq9 p s pc)) s.body (c + 1)
  have h2 := ae6 (aO2 (p := p) (strict := strict) d (aq9 p s pc)) s.els (z6 (stC p strict d (aq9 p s pc)) (c + 1) s.body).2
  rw [stC]
  split
  ·split <;> omega
  ·simp only; omega
theorem aS8 {p : b7} {strict : Bool} {d : Nat} {pc : Int} {c : Nat} {ss : List b5} : (m7 p strict d pc c ss).2 ≤ c + L6 ss := ae6 (aO2 d pc) ss c
theorem G5 {nv na d k : Nat} {ss : List b5} (hs : ss.all (e5 nv na (d + 1)) = true) (hk : k < ss.length) : C3 nv na (ss.getD k bF8) = true ∧ (ss.getD k bF8).body.all (e5 nv na d) = true ∧ (ss.getD k bF8).els.all (e5 nv na d) = true := by
 have h := bG4.1 hs _ (bH8 hk)
 rw [aa7, bF9, bF9] at h
 rw [f7 hk]; exact h
theorem bn3 {k : Nat} {ss : List b5} (hk : k < ss.length) : L6 (ss.take k) + (1 + L6 (ss.getD k bF8).body + L6 (ss.getD k bF8).els) ≤ L6 ss := by
 have h1 := aZ8 hk
 have h2 := aI8 ss (k + 1)
 rw [ap9] at h1
 rw [f7 hk]; omega
section
variable {p : b7} {strict : Bool} {d c : Nat} {pc : Int} {s : b5}
theorem al5 (h : ¬ T7 p s pc strict = 0) : stC p strict (d + 1) pc c s = (T7 p s pc strict, c) := by rw [stC, if_neg h]
theorem I2 {x : Int} (h : T7 p s pc strict = 0) (hx : aq9 p s pc = x) (h2 : ¬ (m7 p strict d x (c + 1) s.body).1 = 0) : stC p strict (d + 1) pc c s = m7 p strict d x (c + 1) s.body := by
 subst hx; rw [stC, if_pos h, if_neg h2]
theorem E0 {x : Int} (h : T7 p s pc strict = 0) (hx : aq9 p s pc = x) (h2 : (m7 p strict d x (c + 1) s.body).1 = 0) : stC p strict (d + 1) pc c s = m7 p strict d x (m7 p strict d x (c + 1) s.body).2 s.els := by
 subst hx; rw [stC, if_pos h, if_pos h2]
theorem O2 (k : s.kind = 3) : aq9 p s pc = m6 pc (f5 p s.value) := if_pos k
theorem O1 (k : ¬ s.kind = 3) : aq9 p s pc = pc := if_neg k
end
theorem at6 {p : b7} {strict : Bool} {d k c : Nat} {pc : Int} {ss : List b5} (hc : c + L6 ss ≤ 4000000) (hk : k < ss.length) : (m7 p strict (d + 1) pc c (ss.take k)).2 + 1 + L6 (ss.getD k bF8).body ≤ 4000000 := by
 have h1 := bn3 (k := k) (ss := ss) hk
 have h2 := aS8 (p := p) (strict := strict) (d := d + 1) (pc := pc) (c := c) (ss := ss.take k)
 omega
theorem ay9 {p : b7} {strict : Bool} {d k c : Nat} {pc x : Int} {ss : List b5} (hc : c + L6 ss ≤ 4000000) (hk : k < ss.length) : (m7 p strict d x ((m7 p strict (d + 1) pc c (ss.take k)).2 + 1) (ss.getD k bF8).body).2 + L6 (ss.getD k bF8).els ≤ 4000000 := by
 have h1 := bn3 (k := k) (ss := ss) hk
 have h2 := aS8 (p := p) (strict := strict) (d := d + 1) (pc := pc) (c := c) (ss := ss.take k)
 have h3 := aS8 (p := p) (strict := strict) (d := d) (pc := x) (c := (m7 p strict (d + 1) pc c (ss.take k)).2 + 1) (ss := (ss.getD k bF8).body)
 omega
theorem bj9 {p : b7} {strict : Bool} {d k c : Nat} {pc : Int} {ss : List b5} (hc : c + L6 ss ≤ 4000000) (hk : k < ss.length) : IntKind.i64.wrap (((m7 p strict (d + 1) pc c (ss.take k)).2 : Int) + 1) = ((m7 p strict (d + 1) pc c (ss.take k)).2 : Int) + 1 := by
 have h1 := at6 (p := p) (strict := strict) (d := d) (pc := pc) hc hk
 exact w64 (by omega) (by omega)
abbrev bj8 (p : b7) (d : Nat) (ss : List b5) (pc : Int) (c : Nat) (strict : Bool) : c8 := C6 236 [pA 0, .ref 3, iA pc, iA c, bA strict] (pS p ++ [.dat (.stmts ss)]) (.tup [iA (m7 p strict d pc c ss).1, iA (m7 p strict d pc c ss).2])
theorem aR9 (p : b7) (pc : Int) (c : Nat) (strict : Bool) : c8.ok Try.prog (bj8 p 0 [] pc c strict) := by
 refine z7 74 Try.func236 [dI p.vars, dI p.arrays, dT p.body, dT []] [(0, pA 0), (1, .ref 3), (2, iA pc), (3, iA c), (4, bA strict)] fun G => ?_; refine wp_seq (d7 G b8 (rg 5) [dI p.vars, dI p.arrays, dT p.body, dT [], .box (pL 0)] [(1, .ref 3), (2, iA pc), (3, iA c), (4, bA strict), (5, .ptr 4 0), (10, iA 0), (11, iA 0)] fun G => b0 (wp_seq (wp_seq (y5 G b8 [(1, .ref 3), (2, iA pc), (3, iA c), (4, bA strict), (5, .ptr 4 0), (10, iA 0), (11, iA 0), (12, iA 0)] fun G => b0 (wp_block ?_))))); refine l7 (κ := Nat) (fun k => k = 0) (fun k => 0) (fun k => [dI p.vars, dI p.arrays, dT p.body, dT [], .box (pL 0)]) (fun k => [(1, .ref 3), (2, iA pc), (3, iA c), (4, bA strict), (5, .ptr 4 0), (10, iA 0), (11, iA 0), (12, iA 0)]) 0 (by kernel_rfl) (l9.at G _ _) ?_; clear G; intro k ρ a w hp G; refine wp_seq (wp_seq (c7 G b8 [(19, bA false)] fun G => b0 (rF G false (by kernel_rfl) (wp_exit (l6 (l6 (l5 (b0 (wp_seq (d7 G b8 (rg 4) [dI p.vars, dI p.arrays, dT p.body, dT []] [(10, iA 0), (11, iA c)] fun G => b0 (wp_ret ?_))))))))))); exact F8 G (rg 4)
abbrev Z2 (p : b7) (d : Nat) (strict : Bool) (ss : List b5) (pc : Int) (c : Nat) (k : Nat) := m7 p strict d (m6 pc (f5 p (ss.getD k bF8).value)) ((m7 p strict (d + 1) pc c (bG3 k ss)).snd + 1) (ss.getD k bF8).body
abbrev M4 (p : b7) (d : Nat) (strict : Bool) (ss : List b5) (pc : Int) (c : Nat) (k : Nat) := m7 p strict d pc ((m7 p strict (d + 1) pc c (bG3 k ss)).snd + 1) (ss.getD k bF8).body
abbrev aF3 (p : b7) (d : Nat) (strict : Bool) (ss : List b5) (pc : Int) (c : Nat) (k : Nat) := m7 p strict d (m6 pc (f5 p (ss.getD k bF8).value)) (Z2 p d strict ss pc c k).snd (ss.getD k bF8).els
abbrev av0 (strict : Bool) (k : Nat) (r0 : List (Nat × AV)) : List (Nat × AV) := (4, bA strict) :: (5, .ptr 4 0) :: (10, iA 0) :: (11, iA 0) :: (12, iA (k : Int)) :: r0
abbrev am9 (p : b7) (ss : List b5) (r0 : List It) : List It := dI p.vars :: dI p.arrays :: dT p.body :: dT ss :: .box (pL 0) :: r0
theorem aR7 (p : b7) (d : Nat) (strict : Bool) (ih : ∀ (ss : List b5) (pc : Int) (c : Nat), ss.all (e5 p.vars.length p.arrays.length d) = true → c + L6 ss ≤ 4000000 → c8.ok Try.prog (bj8 p d ss pc c strict))
    (ss : List b5) (pc : Int) (c : Nat) (hs : ss.all (e5 p.vars.length p.arrays.length (d + 1)) = true) (hc : c + L6 ss ≤ 4000000) : c8.ok Try.prog (bj8 p (d + 1) ss pc c strict) := by
  refine z7 74 Try.func236 [dI p.vars, dI p.arrays, dT p.body, dT ss] [(0, pA 0), (1, .ref 3), (2, iA pc), (3, iA c), (4, bA strict)] fun G => ?_; have hlen : ss.length ≤ 9223372036854775807 := G.len 3 (d := .stmts ss) (by kernel_rfl); refine wp_seq (d7 G b8 (rg 5) (am9 p ss []) [(1, .ref 3), (2, iA pc), (3, iA c), (4, bA strict), (5, .ptr 4 0), (10, iA 0), (11, iA 0)] fun G => b0 (wp_seq (wp_seq (y5 G b8 [(1, .ref 3), (2, iA pc), (3, iA c), (4, bA strict), (5, .ptr 4 0), (10, iA 0), (11, iA 0), (12, iA 0)] fun G => b0 (wp_block ?_))))); refine l7 (κ := Nat) (fun k => k ≤ ss.length ∧ (m7 p strict (d + 1) pc c (ss.take k)).1 = 0) (fun k => ss.length - k) (fun k => [dI p.vars, dI p.arrays, dT p.body, dT ss, .box (pL 0)]) (fun k => [(1, .ref 3), (2, iA pc), (3, iA (m7 p strict (d + 1) pc c (ss.take k)).2), (4, bA strict), (5, .ptr 4 0), (10, iA 0), (11, iA 0), (12, iA k)]) 0 (⟨bJ2 _, rfl⟩) (l9.at G _ _) ?_; clear G; intro k ρ a w hp G; replace G := l9.at G (am9 p ss []) ((1, .ref 3) :: (2, iA pc) :: (3, iA ((m7 p strict (d + 1) pc c (bG3 k ss)).snd : Int)) :: (av0 strict k [])); refine wp_seq (wp_seq (c7 G b8 [(19, bA (decide ((k : Int) < ss.length)))] fun G => b0 (Q7 G (fun h0 q0 => ?_) fun h0 q0 => ?_)))
  · refine wp_exit (l6 (l6 (l5 (b0 (wp_seq (d7 G b8 (rg 4) [dI p.vars, dI p.arrays, dT p.body, dT ss] [(10, iA 0), (11, iA ((m7 p strict (d + 1) pc c (bG3 k ss)).snd : Int))] fun G => b0 (wp_ret ?_))))))); exact V5 (.tup [iA 0, iA ((m7 p strict (d + 1) pc c (bG3 k ss)).snd : Int)]) G (rg 4) (by have e1 : ((m7 p strict (d + 1) pc c ss).fst : Int) = (0) := (by rw [m7, as0 (k := k) (by omega)]; exact hp.2); have e2 : (((m7 p strict (d + 1) pc c ss).snd : Int) : Int) = (((m7 p strict (d + 1) pc c (bG3 k ss)).snd : Int)) := (by rw [m7, as0 (k := k) (by omega)]); (first | rw [e1, e2] | simp only [e1, e2]) <;> rfl)
  ·
   refine wp_skip (b0 (wp_seq (wp_block (wp_seq (P5 G b8 [0, 1, 2, 3, 4, 29, 30, 31, 32, 37] (am9 p ss [dE (ss.getD k bF8).index.kids, dE (ss.getD k bF8).value.kids, dT (ss.getD k bF8).body, dT (ss.getD k bF8).els, .box (sL (ss.getD k bF8) 5)]) ((1, .ref 3) :: (2, iA pc) :: (3, iA ((m7 p strict (d + 1) pc c (bG3 k ss)).snd : Int)) :: (av0 strict k [(13, .ptr 9 0)])) (iX k k ss.length []) (iK (by omega) bG8) fun G => b0 (wp_seq (c7 G (n8 4 [0, 1, 2, 5, 6, 7, 8] (bj3 p (ss.getD k bF8) pc strict ((G5 hs (by omega)).1))) [(14, iA (T7 p (ss.getD k bF8) pc strict))] fun G => b0 (wp_seq (wp_seq (c7 G b8 [(32, bA (T7 p (ss.getD k bF8) pc strict != 0))] fun G => b0 (rcN G (fun h1 q1 => ?_) fun h1 q1 => ?_)))))))))))
   ·
    refine wp_skip (b0 (wp_seq (C1 G b8 [(3, iA (((m7 p strict (d + 1) pc c (bG3 k ss)).snd : Int) + 1))] [wO (((m7 p strict (d + (1 : Nat)) pc c (bG3 k ss)).snd : Int) + 1)] ⟨(bj9 hc (by omega)), bG8⟩ fun G => b0 (wp_seq (c7 G b8 [(15, iA pc)] fun G => b0 (wp_seq (wp_seq (c7 G b8 [(40, bA ((ss.getD k bF8).kind == 3))] fun G => b0 (L5 G (fun h2 q2 => ?_) fun h2 q2 => ?_)))))))))
    ·
     refine wp_skip (b0 (wp_seq (c7 G (n8 6 [0, 1, 2, 7] (ih ((ss.getD k bF8).body) pc ((m7 p strict (d + 1) pc c (bG3 k ss)).snd + 1) ((G5 hs (by omega)).2.1) (at6 hc (by omega)))) [(3, iA ((M4 p d strict ss pc c k).snd : Int)), (14, iA (M4 p d strict ss pc c k).fst)] fun G => b0 (wp_seq (wp_seq (c7 G b8 [(58, bA ((M4 p d strict ss pc c k).fst == 0))] fun G => b0 (L5 (u := ((m7 p strict d pc ((m7 p strict (d + (1 : Nat)) pc c (bG3 k ss)).snd + (1 : Nat)) (ss.getD k bF8).body).fst)) (v := (0 : Int)) G (fun h3 q3 => ?_) fun h3 q3 => ?_)))))))
     ·
      refine wp_skip (b0 (wp_seq (d7 G b8 (rg 5) (am9 p ss []) ((1, .ref 3) :: (2, iA pc) :: (3, iA ((M4 p d strict ss pc c k).snd : Int)) :: (av0 strict k [(14, iA (M4 p d strict ss pc c k).fst), (70, bA ((M4 p d strict ss pc c k).fst != 0))])) fun G => b0 ?_))); cases h4 : ((m7 p strict d pc ((m7 p strict (d + (1 : Nat)) pc c (bG3 k ss)).snd + (1 : Nat)) (ss.getD k bF8).body).fst != 0)
      · have q4 := bne_eq_false_iff_eq.1 h4; exact False.elim (by omega)
      · have q4 := bne_iff_ne.1 h4; refine rT G _ h4 (wp_seq (c7 G b8 [(10, iA (M4 p d strict ss pc c k).fst), (11, iA ((M4 p d strict ss pc c k).snd : Int))] fun G => b0 (wp_ret (o4 (c5 (c5 (o4 (c5 ?_)))))))); exact V5 (.tup [iA (m7 p strict d pc ((m7 p strict (d + 1) pc c (bG3 k ss)).snd + 1) (ss.getD k bF8).body).fst, iA ((m7 p strict d pc ((m7 p strict (d + 1) pc c (bG3 k ss)).snd + 1) (ss.getD k bF8).body).snd : Int)]) G (rg 4) (by have e1 : ((m7 p strict (d + 1) pc c ss).fst : Int) = ((m7 p strict d pc ((m7 p strict (d + 1) pc c (bG3 k ss)).snd + 1) (ss.getD k bF8).body).fst) := (by rw [m7, x7 hp.2 (by omega) (by rw [I2 (by with_reducible assumption) (O1 (by with_reducible assumption)) (by with_reducible assumption)]; with_reducible assumption), I2 (by with_reducible assumption) (O1 (by with_reducible assumption)) (by with_reducible assumption)]); have e2 : (((m7 p strict (d + 1) pc c ss).snd : Int) : Int) = (((m7 p strict d pc ((m7 p strict (d + 1) pc c (bG3 k ss)).snd + 1) (ss.getD k bF8).body).snd : Int)) := (by rw [m7, x7 hp.2 (by omega) (by rw [I2 (by with_reducible assumption) (O1 (by with_reducible assumption)) (by with_reducible assumption)]; with_reducible assumption), I2 (by with_reducible assumption) (O1 (by with_reducible assumption)) (by with_reducible assumption)]); (first | rw [e1, e2] | simp only [e1, e2]) <;> rfl)
     ·
      refine d7 G (n8 6 [0, 1, 2, 8] (ih ((ss.getD k bF8).els) pc ((M4 p d strict ss pc c k).snd) ((G5 hs (by omega)).2.2) (ay9 hc (by omega)))) (rg 5) (am9 p ss []) ((1, .ref 3) :: (2, iA pc) :: (3, iA ((m7 p strict d pc (M4 p d strict ss pc c k).snd (ss.getD k bF8).els).snd : Int)) :: (av0 strict k [(14, iA (m7 p strict d pc (M4 p d strict ss pc c k).snd (ss.getD k bF8).els).fst)])) fun G => b0 (wp_seq (c7 G b8 [(70, bA ((m7 p strict d pc (M4 p d strict ss pc c k).snd (ss.getD k bF8).els).fst != 0))] fun G => b0 (rcN (u := ((m7 p strict d pc (m7 p strict d pc ((m7 p strict (d + (1 : Nat)) pc c (bG3 k ss)).snd + (1 : Nat)) (ss.getD k bF8).body).snd (ss.getD k bF8).els).fst)) (v := (0 : Int)) G (fun h5 q5 => ?_) fun h5 q5 => ?_)))
      · refine wp_skip (j4 (b0 (C1 G b8 [(12, iA ((k : Int) + 1))] [wO ((k : Int) + 1)] (o1 (by omega)) fun G => b0 ?_))); exact N8 G (k + 1) (⟨by omega, by rw [m7, L0 hp.2 (by omega), E0 (by with_reducible assumption) (O1 (by with_reducible assumption)) (by with_reducible assumption)]; with_reducible assumption⟩) (by omega) (rg 5) (ht := by have e1 : (((m7 p strict (d + 1) pc c (bG3 (k + 1) ss)).snd : Int) : Int) = (((m7 p strict d pc (m7 p strict d pc ((m7 p strict (d + 1) pc c (bG3 k ss)).snd + 1) (ss.getD k bF8).body).snd (ss.getD k bF8).els).snd : Int)) := (by rw [m7, L0 hp.2 (by omega), E0 (by with_reducible assumption) (O1 (by with_reducible assumption)) (by with_reducible assumption)]); (first | rw [e1] | simp only [e1]) <;> rfl)
      · refine wp_seq (c7 G b8 [(10, iA (m7 p strict d pc (M4 p d strict ss pc c k).snd (ss.getD k bF8).els).fst), (11, iA ((m7 p strict d pc (M4 p d strict ss pc c k).snd (ss.getD k bF8).els).snd : Int))] fun G => b0 (wp_ret (o4 (c5 (c5 (o4 (c5 ?_))))))); exact V5 (.tup [iA (m7 p strict d pc (m7 p strict d pc ((m7 p strict (d + 1) pc c (bG3 k ss)).snd + 1) (ss.getD k bF8).body).snd (ss.getD k bF8).els).fst, iA ((m7 p strict d pc (m7 p strict d pc ((m7 p strict (d + 1) pc c (bG3 k ss)).snd + 1) (ss.getD k bF8).body).snd (ss.getD k bF8).els).snd : Int)]) G (rg 4) (by have e1 : ((m7 p strict (d + 1) pc c ss).fst : Int) = ((m7 p strict d pc (m7 p strict d pc ((m7 p strict (d + 1) pc c (bG3 k ss)).snd + 1) (ss.getD k bF8).body).snd (ss.getD k bF8).els).fst) := (by rw [m7, x7 hp.2 (by omega) (by rw [E0 (by with_reducible assumption) (O1 (by with_reducible assumption)) (by with_reducible assumption)]; with_reducible assumption), E0 (by with_reducible assumption) (O1 (by with_reducible assumption)) (by with_reducible assumption)]); have e2 : (((m7 p strict (d + 1) pc c ss).snd : Int) : Int) = (((m7 p strict d pc (m7 p strict d pc ((m7 p strict (d + 1) pc c (bG3 k ss)).snd + 1) (ss.getD k bF8).body).snd (ss.getD k bF8).els).snd : Int)) := (by rw [m7, x7 hp.2 (by omega) (by rw [E0 (by with_reducible assumption) (O1 (by with_reducible assumption)) (by with_reducible assumption)]; with_reducible assumption), E0 (by with_reducible assumption) (O1 (by with_reducible assumption)) (by with_reducible assumption)]); (first | rw [e1, e2] | simp only [e1, e2]) <;> rfl)
    ·
     refine c7 G (n8 4 [0, 1, 2, 6] (B5 p ((ss.getD k bF8).value) (t6 (G5 hs (by omega)).1 (by omega)))) [(15, iA (m6 pc (f5 p (ss.getD k bF8).value)))] fun G => b0 (wp_seq (c7 G (n8 6 [0, 1, 2, 7] (ih ((ss.getD k bF8).body) (m6 pc (f5 p (ss.getD k bF8).value)) ((m7 p strict (d + 1) pc c (bG3 k ss)).snd + 1) ((G5 hs (by omega)).2.1) (at6 hc (by omega)))) [(3, iA ((Z2 p d strict ss pc c k).snd : Int)), (14, iA (Z2 p d strict ss pc c k).fst)] fun G => b0 (wp_seq (wp_seq (c7 G b8 [(58, bA ((Z2 p d strict ss pc c k).fst == 0))] fun G => b0 (L5 (u := ((m7 p strict d (m6 pc (f5 p (ss.getD k bF8).value)) ((m7 p strict (d + (1 : Nat)) pc c (bG3 k ss)).snd + (1 : Nat)) (ss.getD k bF8).body).fst)) (v := (0 : Int)) G (fun h6 q6 => ?_) fun h6 q6 => ?_))))))
     ·
      refine wp_skip (b0 (wp_seq (d7 G b8 (rg 5) (am9 p ss []) ((1, .ref 3) :: (2, iA pc) :: (3, iA ((Z2 p d strict ss pc c k).snd : Int)) :: (av0 strict k [(14, iA (Z2 p d strict ss pc c k).fst), (70, bA ((Z2 p d strict ss pc c k).fst != 0))])) fun G => b0 ?_))); cases h7 : ((m7 p strict d (m6 pc (f5 p (ss.getD k bF8).value)) ((m7 p strict (d + (1 : Nat)) pc c (bG3 k ss)).snd + (1 : Nat)) (ss.getD k bF8).body).fst != 0)
      · have q7 := bne_eq_false_iff_eq.1 h7; exact False.elim (by omega)
      · have q7 := bne_iff_ne.1 h7; refine rT G _ h7 (wp_seq (c7 G b8 [(10, iA (Z2 p d strict ss pc c k).fst), (11, iA ((Z2 p d strict ss pc c k).snd : Int))] fun G => b0 (wp_ret (o4 (c5 (c5 (o4 (c5 ?_)))))))); exact V5 (.tup [iA (m7 p strict d (m6 pc (f5 p (ss.getD k bF8).value)) ((m7 p strict (d + 1) pc c (bG3 k ss)).snd + 1) (ss.getD k bF8).body).fst, iA ((m7 p strict d (m6 pc (f5 p (ss.getD k bF8).value)) ((m7 p strict (d + 1) pc c (bG3 k ss)).snd + 1) (ss.getD k bF8).body).snd : Int)]) G (rg 4) (by have e1 : ((m7 p strict (d + 1) pc c ss).fst : Int) = ((m7 p strict d (m6 pc (f5 p (ss.getD k bF8).value)) ((m7 p strict (d + 1) pc c (bG3 k ss)).snd + 1) (ss.getD k bF8).body).fst) := (by rw [m7, x7 hp.2 (by omega) (by rw [I2 (by with_reducible assumption) (O2 (by with_reducible assumption)) (by with_reducible assumption)]; with_reducible assumption), I2 (by with_reducible assumption) (O2 (by with_reducible assumption)) (by with_reducible assumption)]); have e2 : (((m7 p strict (d + 1) pc c ss).snd : Int) : Int) = (((m7 p strict d (m6 pc (f5 p (ss.getD k bF8).value)) ((m7 p strict (d + 1) pc c (bG3 k ss)).snd + 1) (ss.getD k bF8).body).snd : Int)) := (by rw [m7, x7 hp.2 (by omega) (by rw [I2 (by with_reducible assumption) (O2 (by with_reducible assumption)) (by with_reducible assumption)]; with_reducible assumption), I2 (by with_reducible assumption) (O2 (by with_reducible assumption)) (by with_reducible assumption)]); (first | rw [e1, e2] | simp only [e1, e2]) <;> rfl)
     ·
      refine d7 G (n8 6 [0, 1, 2, 8] (ih ((ss.getD k bF8).els) (m6 pc (f5 p (ss.getD k bF8).value)) ((Z2 p d strict ss pc c k).snd) ((G5 hs (by omega)).2.2) (ay9 hc (by omega)))) (rg 5) (am9 p ss []) ((1, .ref 3) :: (2, iA pc) :: (3, iA ((aF3 p d strict ss pc c k).snd : Int)) :: (av0 strict k [(14, iA (aF3 p d strict ss pc c k).fst)])) fun G => b0 (wp_seq (c7 G b8 [(70, bA ((aF3 p d strict ss pc c k).fst != 0))] fun G => b0 (rcN (u := ((m7 p strict d (m6 pc (f5 p (ss.getD k bF8).value)) (m7 p strict d (m6 pc (f5 p (ss.getD k bF8).value)) ((m7 p strict (d + (1 : Nat)) pc c (bG3 k ss)).snd + (1 : Nat)) (ss.getD k bF8).body).snd (ss.getD k bF8).els).fst)) (v := (0 : Int)) G (fun h8 q8 => ?_) fun h8 q8 => ?_)))
      · refine wp_skip (j4 (b0 (C1 G b8 [(12, iA ((k : Int) + 1))] [wO ((k : Int) + 1)] (o1 (by omega)) fun G => b0 ?_))); exact N8 G (k + 1) (⟨by omega, by rw [m7, L0 hp.2 (by omega), E0 (by with_reducible assumption) (O2 (by with_reducible assumption)) (by with_reducible assumption)]; with_reducible assumption⟩) (by omega) (rg 5) (ht := by have e1 : (((m7 p strict (d + 1) pc c (bG3 (k + 1) ss)).snd : Int) : Int) = (((m7 p strict d (m6 pc (f5 p (ss.getD k bF8).value)) (m7 p strict d (m6 pc (f5 p (ss.getD k bF8).value)) ((m7 p strict (d + 1) pc c (bG3 k ss)).snd + 1) (ss.getD k bF8).body).snd (ss.getD k bF8).els).snd : Int)) := (by rw [m7, L0 hp.2 (by omega), E0 (by with_reducible assumption) (O2 (by with_reducible assumption)) (by with_reducible assumption)]); (first | rw [e1] | simp only [e1]) <;> rfl)
      · refine wp_seq (c7 G b8 [(10, iA (aF3 p d strict ss pc c k).fst), (11, iA ((aF3 p d strict ss pc c k).snd : Int))] fun G => b0 (wp_ret (o4 (c5 (c5 (o4 (c5 ?_))))))); exact V5 (.tup [iA (m7 p strict d (m6 pc (f5 p (ss.getD k bF8).value)) (m7 p strict d (m6 pc (f5 p (ss.getD k bF8).value)) ((m7 p strict (d + 1) pc c (bG3 k ss)).snd + 1) (ss.getD k bF8).body).snd (ss.getD k bF8).els).fst, iA ((m7 p strict d (m6 pc (f5 p (ss.getD k bF8).value)) (m7 p strict d (m6 pc (f5 p (ss.getD k bF8).value)) ((m7 p strict (d + 1) pc c (bG3 k ss)).snd + 1) (ss.getD k bF8).body).snd (ss.getD k bF8).els).snd : Int)]) G (rg 4) (by have e1 : ((m7 p strict (d + 1) pc c ss).fst : Int) = ((m7 p strict d (m6 pc (f5 p (ss.getD k bF8).value)) (m7 p strict d (m6 pc (f5 p (ss.getD k bF8).value)) ((m7 p strict (d + 1) pc c (bG3 k ss)).snd + 1) (ss.getD k bF8).body).snd (ss.getD k bF8).els).fst) := (by rw [m7, x7 hp.2 (by omega) (by rw [E0 (by with_reducible assumption) (O2 (by with_reducible assumption)) (by with_reducible assumption)]; with_reducible assumption), E0 (by with_reducible assumption) (O2 (by with_reducible assumption)) (by with_reducible assumption)]); have e2 : (((m7 p strict (d + 1) pc c ss).snd : Int) : Int) = (((m7 p strict d (m6 pc (f5 p (ss.getD k bF8).value)) (m7 p strict d (m6 pc (f5 p (ss.getD k bF8).value)) ((m7 p strict (d + 1) pc c (bG3 k ss)).snd + 1) (ss.getD k bF8).body).snd (ss.getD k bF8).els).snd : Int)) := (by rw [m7, x7 hp.2 (by omega) (by rw [E0 (by with_reducible assumption) (O2 (by with_reducible assumption)) (by with_reducible assumption)]; with_reducible assumption), E0 (by with_reducible assumption) (O2 (by with_reducible assumption)) (by with_reducible assumption)]); (first | rw [e1, e2] | simp only [e1, e2]) <;> rfl)
   · refine wp_seq (c7 G b8 [(10, iA (T7 p (ss.getD k bF8) pc strict)), (11, iA ((m7 p strict (d + 1) pc c (bG3 k ss)).snd : Int))] fun G => b0 (wp_ret (c5 (o4 (c5 (c5 (o4 (c5 ?_)))))))); exact V5 (.tup [iA (T7 p (ss.getD k bF8) pc strict), iA ((m7 p strict (d + 1) pc c (bG3 k ss)).snd : Int)]) G (rg 4) (by have e1 : ((m7 p strict (d + 1) pc c ss).fst : Int) = (T7 p (ss.getD k bF8) pc strict) := (by rw [m7, x7 hp.2 (by omega) (by rw [al5 (by with_reducible assumption)]; with_reducible assumption), al5 (by with_reducible assumption)]); have e2 : (((m7 p strict (d + 1) pc c ss).snd : Int) : Int) = (((m7 p strict (d + 1) pc c (bG3 k ss)).snd : Int)) := (by rw [m7, x7 hp.2 (by omega) (by rw [al5 (by with_reducible assumption)]; with_reducible assumption), al5 (by with_reducible assumption)]); (first | rw [e1, e2] | simp only [e1, e2]) <;> rfl)
theorem aR8 (p : b7) (strict : Bool) : ∀ (d : Nat) (ss : List b5) (pc : Int) (c : Nat), ss.all (e5 p.vars.length p.arrays.length d) = true → c + L6 ss ≤ 4000000 → c8.ok Try.prog (bj8 p d ss pc c strict) := by
 intro d
 induction d with
 | zero =>
  intro ss pc c h hc
  cases ss with
  | nil => exact aR9 p pc c strict
  | cons s r => simp [e5] at h
 | succ d ih => intro ss pc c h hc; exact aR7 p d strict ih ss pc c h hc
theorem ag7 {p : b7} (h : j9 p = true) : p.body.all (e5 p.vars.length p.arrays.length 5) = true ∧ L6 p.body ≤ 60 := by
 simp only [j9, W4, bF9, decide_eq_true_eq] at h
 exact ⟨h.1.2, h.2⟩
theorem bc6 (p : b7) (strict : Bool) (h : j9 p = true) : c8.ok Try.prog (C6 236 [pA 0, .ref 2, iA 0, iA 0, bA strict] (pS p) (.tup [iA (m7 p strict 5 0 0 p.body).1, iA (m7 p strict 5 0 0 p.body).2])) :=
 c8.dup (S := pS p) (S' := pS p) (d := .stmts p.body) (i := 2) (aR8 p strict 5 p.body 0 0 (ag7 h).1 (by have := (ag7 h).2; omega)) rfl rfl rfl (fun ρ h => by simp only [AV.vals, AV.val]; rw [show ρ 3 = ρ 2 from h]; rfl) rfl
def ckR (p : b7) (strict : Bool) : Int × Int := if j9 p then (if (m7 p strict 5 0 0 p.body).1 = 0 then (0, -1) else ((m7 p strict 5 0 0 p.body).1, ((m7 p strict 5 0 0 p.body).2 : Int))) else (5, -1)
section
variable {p : b7} {strict : Bool}
theorem bn1 (h : j9 p = false) : ckR p strict = (5, -1) := by rw [ckR, h]; rfl
theorem aY1 (h : j9 p = true) (h1 : (m7 p strict 5 0 0 p.body).1 = 0) : ckR p strict = (0, -1) := by rw [ckR, h, h1]; rfl
theorem bc2 (h : j9 p = true) (h1 : ¬ (m7 p strict 5 0 0 p.body).1 = 0) : ckR p strict = ((m7 p strict 5 0 0 p.body).1, ((m7 p strict 5 0 0 p.body).2 : Int)) := by rw [ckR, h, if_neg h1]; rfl
end
theorem a11 (p : b7) (strict : Bool) (hb : r6 p.body ≤ 1048576) : c8.ok Try.prog (C6 219 [pA 0, bA strict] (pS p) (.tup [iA (ckR p strict).1, iA (ckR p strict).2])) := by
  refine z7 24 Try.func219 [dI p.vars, dI p.arrays, dT p.body] [(0, pA 0), (1, bA strict)] fun G => ?_; refine wp_seq (d7 G b8 (rg 4) [dI p.vars, dI p.arrays, dT p.body, .box (pL 0)] [(1, bA strict), (2, .ptr 3 0), (4, iA 0), (5, iA 0)] fun G => b0 (wp_seq (wp_seq (c7 G (n8 1 [0, 1, 2] (L2 p (by assumption))) [(10, .v (.bool !j9 p))] fun G => b0 ?_)))); cases h0 : (!j9 p)
  ·
   have q0 : (j9 p) = true := (Eq.mp (bG7 _) h0); refine rF G _ h0 (wp_skip (b0 (wp_seq (d7 G (n8 4 [0, 1, 2] (bc6 p strict (by assumption))) [0, 1, 2] [dI p.vars, dI p.arrays, dT p.body] [(4, iA 0), (5, iA 0), (6, iA (m7 p strict 5 0 0 p.body).fst), (7, iA ((m7 p strict 5 0 0 p.body).snd : Int))] fun G => b0 (wp_seq (wp_seq (c7 G b8 [(20, bA ((m7 p strict 5 0 0 p.body).fst == 0))] fun G => b0 (L5 G (fun h1 q1 => ?_) fun h1 q1 => ?_))))))))
   · refine wp_skip (b0 (wp_seq (c7 G b8 [(4, iA (m7 p strict 5 0 0 p.body).fst), (5, iA ((m7 p strict 5 0 0 p.body).snd : Int))] fun G => b0 (wp_ret ?_)))); exact V5 (.tup [iA (m7 p strict 5 0 0 p.body).fst, iA ((m7 p strict 5 0 0 p.body).snd : Int)]) G [0, 1, 2] (by have e1 : ((ckR p strict).fst : Int) = ((m7 p strict 5 0 0 p.body).fst) := (by rw [bc2 (by assumption) (by assumption)]; done); have e2 : ((ckR p strict).snd : Int) = (((m7 p strict 5 0 0 p.body).snd : Int)) := (by rw [bc2 (by assumption) (by assumption)]; done); (first | rw [e1, e2] | simp only [e1, e2]) <;> rfl)
   · refine wp_seq (c7 G b8 [(4, iA (m7 p strict 5 0 0 p.body).fst), (5, iA (-1))] fun G => b0 (wp_ret (c5 ?_))); exact V5 (.tup [iA (m7 p strict 5 0 0 p.body).fst, iA (-1)]) G [0, 1, 2] (by have e1 : ((ckR p strict).fst : Int) = ((m7 p strict 5 0 0 p.body).fst) := ((congrArg Prod.fst (aY1 (by assumption) (by assumption))).trans (Eq.symm (by assumption))); have e2 : ((ckR p strict).snd : Int) = (-1) := (by rw [aY1 (by assumption) (by assumption)]; done); (first | rw [e1, e2] | simp only [e1, e2]) <;> rfl)
  · have q0 : (j9 p) = false := (Eq.mp (bG6 _) h0); refine rT G _ h0 (wp_seq (c7 G b8 [(4, iA 5), (5, iA (-1))] fun G => b0 (wp_ret (c5 ?_)))); exact V5 (.tup [iA 5, iA (-1)]) G [0, 1, 2] (by have e1 : ((ckR p strict).fst : Int) = (5) := (by rw [bn1 (by assumption)]; done); have e2 : ((ckR p strict).snd : Int) = (-1) := (by rw [bn1 (by assumption)]; done); (first | rw [e1, e2] | simp only [e1, e2]) <;> rfl)
theorem aM0 (p : b7) (hb : r6 p.body ≤ 1048576) : c8.ok Try.prog (C6 185 [pA 0] (pS p) (.tup [iA (ckR p false).1, iA (ckR p false).2])) := by
 refine z7 8 Try.func185 [dI p.vars, dI p.arrays, dT p.body] [(0, pA 0)] fun G => ?_; refine wp_seq (d7 G b8 (rg 4) [dI p.vars, dI p.arrays, dT p.body, .box (pL 0)] [(1, .ptr 3 0), (2, iA 0), (3, iA 0)] fun G => b0 (wp_seq (d7 G (n8 1 [0, 1, 2] (a11 p false (by assumption))) [0, 1, 2] [dI p.vars, dI p.arrays, dT p.body] [(2, iA (ckR p false).fst), (3, iA (ckR p false).snd)] fun G => b0 (wp_ret ?_)))); exact F8 G [0, 1, 2]
theorem bj2 (p : b7) (e : b6) (he : b9 p.vars.length p.arrays.length 5 e = true) : c8.ok Try.prog (C6 87 [pA 0, eA e 3] (pS p ++ eS e) (iA (f5 p e))) := bc5 p 5 e he
section
variable {p : b7} {s : b5} {cx : Int}
end
theorem bp9 : ∀ x : Fin 4, ∀ y : Fin 4, ∃ z : Fin 4, m6 x.val y.val = (z.val : Int) := by decide +kernel
theorem ap3 {x y : Int} (hx : c3 x = true) (hy : c3 y = true) : c3 (m6 x y) = true := by
 obtain ⟨a, rfl⟩ := F0 hx
 obtain ⟨b, rfl⟩ := F0 hy
 obtain ⟨c, h⟩ := bp9 a b
 rw [h]
 simp [c3]; omega
theorem X5 {l : List Int} (h : l.all c3 = true) (i : Nat) : c3 (l.getD i 0) = true := by
 rcases bI9 i l.length with hi | hi
 ·rw [f7 hi]; exact bG4.1 h _ (bH8 hi)
 ·rw [bG1, bH9 hi]; rfl
theorem ae1 {vs ars : List Int} (h1 : vs.all c3 = true) (h2 : ars.all c3 = true) : ∀ (d : Nat) (e : b6), c3 (j8 vs ars d e) = true
 | 0, _ => rfl
 | d + 1, e => by
  rw [j8]
  have key : ∀ (ks : List b6) (a : Int), c3 a = true → c3 (ks.foldl (fun a k => m6 a (j8 vs ars d k)) a) = true := by
   intro ks
   induction ks with
   | nil => intro a ha; exact ha
   | cons x r ih => intro a ha; rw [List.foldl_cons]; exact ih _ (ap3 ha (ae1 h1 h2 d x))
  refine key _ _ ?_
  unfold ad8
  split
  ·exact X5 h1 _
  ·split
   ·exact X5 h2 _
   ·rfl
def a90 (p : b7) : Bool := p.vars.all c3 && p.arrays.all c3
theorem aP3 {p : b7} (h : j9 p = true) : a90 p = true := by
 unfold j9 t5 at h
 simp only [bF9] at h
 unfold a90
 rw [h.1.1.1.1.1.1, h.1.1.1.1.1.2]; rfl
def T4 {α : Type} (f : α → Bool) (l : List α) : Int := match l.findIdx? f with
 | some i => i
 | none => -1
theorem ay1 {α : Type} {f : α → Bool} {l : List α} {k : Nat} {z : α} (hk : k < l.length) (h : (l.take k).any f = false) (hf : f (l.getD k z) = true) : T4 f l = k := by
 have : l.findIdx? f = some k := by
  rw [List.findIdx?_eq_some_iff_getElem]
  rw [f7 hk] at hf
  refine ⟨hk, hf, fun j hj => ?_⟩
  rw [List.any_eq_false] at h
  have hm : l[j] ∈ l.take k := List.mem_take_iff_getElem.2 ⟨j, by omega, rfl⟩
  exact h _ hm
 unfold T4; rw [this]
theorem as2 {α : Type} {f : α → Bool} {l : List α} (h : l.any f = false) : T4 f l = -1 := by
 have : l.findIdx? f = none := by
  rw [List.findIdx?_eq_none_iff]
  intro x hx
  rw [List.any_eq_false] at h
  simpa using h x hx
 unfold T4; rw [this]
theorem ay2 {α : Type} (f : α → Bool) (l : List α) : decide (T4 f l ≥ 0) = l.any f := by
 cases h : l.any f
 ·rw [as2 h]; rfl
 ·unfold T4
  cases h2 : l.findIdx? f with
  | none =>
   rw [List.findIdx?_eq_none_iff] at h2
   obtain ⟨x, hx, hf⟩ := List.any_eq_true.1 h
   rw [h2 x hx] at hf; cases hf
  | some i => simp
section
variable {p : b7} {s : b5}
end
section
variable {R : b5 × Int → Int} {c a : Int} {n : Nat} {x : b5 × Int}
end
section
variable {R : b5 × Int → Int} {p : b7} {d : Nat} {cx : Int} {ss : List b5} {c b : Int} {n k : Nat}
end
abbrev D3 : Type := List Int × List Int
def bv (x : Int) : BitVec 64 := BitVec.ofInt 64 x
def ofb (b : BitVec 64) : Int := IntKind.i64.wrap (b.toNat : Int)
theorem bs1 (b : BitVec 64) : bv (ofb b) = b := by
 apply BitVec.eq_of_toNat_eq
 unfold bv ofb
 rw [BitVec.toNat_ofInt]
 have h := b.isLt
 unfold IntKind.wrap
 simp only [IntKind.bits, IntKind.signed, Bool.true_and, decide_eq_true_eq]
 split <;> omega
theorem bg6 (x y : Int) : m6 x y = ofb (bv x ||| bv y) := rfl
theorem bd3 (x y : Int) : bv (m6 x y) = bv x ||| bv y := by rw [bg6, bs1]
def L8 (x y : Int) : Prop := bv x ||| bv y = bv y
theorem L8.refl (x : Int) : L8 x x := BitVec.or_self
theorem L8.trans {x y z : Int} (h : L8 x y) (k : L8 y z) : L8 x z := by
 unfold L8 at *
 rw [← k, ← BitVec.or_assoc, h]
theorem aq6 (x y : Int) : L8 x (m6 x y) := by unfold L8; rw [bd3, ← BitVec.or_assoc, BitVec.or_self]
theorem R5 {x y a b : Int} (h : L8 x a) (k : L8 y b) : L8 (m6 x y) (m6 a b) := by
 unfold L8 at *
 rw [bd3, bd3, BitVec.or_assoc, ← BitVec.or_assoc (bv y), BitVec.or_comm (bv y) (bv a), BitVec.or_assoc (bv a), k, ← BitVec.or_assoc, h]
theorem bs2 : ∀ x : Fin 4, ∀ y : Fin 4, bv x.val = bv y.val → x = y := by decide +kernel
theorem bq8 : ∀ x : Fin 4, ∀ y : Fin 4, bv x.val ||| bv y.val = bv y.val → x.val ≤ y.val := by decide +kernel
theorem L8.anti {x y : Int} (h : L8 x y) (k : L8 y x) (hx : c3 x = true) (hy : c3 y = true) : x = y := by
 obtain ⟨a, rfl⟩ := F0 hx
 obtain ⟨b, rfl⟩ := F0 hy
 unfold L8 at *
 rw [BitVec.or_comm, h] at k
 rw [bs2 b a k]
theorem L8.nat {x y : Int} (h : L8 x y) (hx : c3 x = true) (hy : c3 y = true) : x.toNat ≤ y.toNat := by
 obtain ⟨a, rfl⟩ := F0 hx
 obtain ⟨b, rfl⟩ := F0 hy
 have := bq8 a b h
 omega
def X3 (q r : D3) : Prop := (∀ i, L8 (q.1.getD i 0) (r.1.getD i 0)) ∧ ∀ i, L8 (q.2.getD i 0) (r.2.getD i 0)
def Y5 (q r : D3) : Prop := r.1.length = q.1.length ∧ r.2.length = q.2.length
def okP (q : D3) : Prop := q.1.all c3 = true ∧ q.2.all c3 = true
theorem X3.refl (q : D3) : X3 q q := ⟨fun _ => L8.refl _, fun _ => L8.refl _⟩
theorem X3.trans {q r s : D3} (h : X3 q r) (k : X3 r s) : X3 q s := ⟨fun i => (h.1 i).trans (k.1 i), fun i => (h.2 i).trans (k.2 i)⟩
theorem Y5.refl (q : D3) : Y5 q q := ⟨rfl, rfl⟩
theorem Y5.trans {q r s : D3} (h : Y5 q r) (k : Y5 r s) : Y5 q s := ⟨k.1.trans h.1, k.2.trans h.2⟩
theorem Y5.symm {q r : D3} (h : Y5 q r) : Y5 r q := ⟨h.1.symm, h.2.symm⟩
theorem ax9 {a b : List Int} (hl : b.length = a.length) (h : ∀ i, L8 (a.getD i 0) (b.getD i 0)) (k : ∀ i, L8 (b.getD i 0) (a.getD i 0)) (ha : a.all c3 = true) (hb : b.all c3 = true) : a = b := by
 apply List.ext_getElem (by omega)
 intro i h1 h2
 have := (h i).anti (k i) (X5 ha i) (X5 hb i)
 rw [f7 h1, f7 h2] at this
 exact this
theorem X3.anti {q r : D3} (h : X3 q r) (k : X3 r q) (hs : Y5 q r) (hq : okP q) (hr : okP r) : q = r :=
 Prod.ext (ax9 hs.1 h.1 k.1 hq.1 hr.1) (ax9 hs.2 h.2 k.2 hq.2 hr.2)
theorem a71 {q r : D3} (h : X3 q r) (e : b6) : L8 (ad8 q.1 q.2 e) (ad8 r.1 r.2 e) := by
 unfold ad8
 split
 ·exact h.1 _
 ·split
  ·exact h.2 _
  ·exact L8.refl _
theorem V9 {q r : D3} (h : X3 q r) : ∀ (d : Nat) (e : b6), L8 (j8 q.1 q.2 d e) (j8 r.1 r.2 d e)
 | 0, _ => L8.refl _
 | d + 1, e => by
  rw [j8, j8]
  have key : ∀ (ks : List b6) (a b : Int), L8 a b → L8 (ks.foldl (fun a k => m6 a (j8 q.1 q.2 d k)) a) (ks.foldl (fun a k => m6 a (j8 r.1 r.2 d k)) b) := by
   intro ks
   induction ks with
   | nil => intro a b hab; exact hab
   | cons x t ih => intro a b hab; rw [List.foldl_cons, List.foldl_cons]; exact ih _ _ (R5 hab (V9 h d x))
  exact key _ _ _ (a71 h e)
def B8 (q : D3) (s : b5) (cx : Int) : D3 :=
 if s.kind = 1 then (q.1.set s.target.toNat (m6 (m6 (q.1.getD s.target.toNat 0) (j8 q.1 q.2 5 s.value)) cx), q.2)
 else if s.kind = 2 then (q.1, q.2.set s.target.toNat (m6 (m6 (m6 (q.2.getD s.target.toNat 0) (j8 q.1 q.2 5 s.value)) (j8 q.1 q.2 5 s.index)) cx))
 else q
def T8 (q : D3) (s : b5) (cx : Int) : Int := if s.kind = 3 then m6 cx (j8 q.1 q.2 5 s.value) else cx
def upS (b : Bool) : Nat → D3 → Int → b5 → D3
 | 0, q, _, _ => q
 | d + 1, q, cx, s => s.els.foldl (fun r t => upS b d r (T8 (if b then s.body.foldl (fun r t => upS b d r (T8 (B8 q s cx) s cx) t) (B8 q s cx) else B8 q s cx) s cx) t) (s.body.foldl (fun r t => upS b d r (T8 (B8 q s cx) s cx) t) (B8 q s cx))
abbrev s0 (b : Bool) (d : Nat) (q : D3) (cx : Int) (ss : List b5) : D3 := ss.foldl (fun r t => upS b d r cx t) q
theorem U7 (b : Bool) (d : Nat) (q : D3) (cx : Int) (s : b5) : upS b (d + 1) q cx s = s0 b d (s0 b d (B8 q s cx) (T8 (B8 q s cx) s cx) s.body) (T8 (if b then s0 b d (B8 q s cx) (T8 (B8 q s cx) s cx) s.body else B8 q s cx) s cx) s.els := by rw [upS]
theorem ao7 (l : List Int) (t i : Nat) (x : Int) : (l.set t x).getD i 0 = if t = i ∧ t < l.length then x else l.getD i 0 := by
 simp only [bG1, List.getElem?_set]
 by_cases h : t = i
 ·subst h
  by_cases h2 : t < l.length
  ·simp [h2]
  ·simp [h2]
 ·simp [h]
theorem aV0 {l : List Int} {t : Nat} {x : Int} (h : l.all c3 = true) (hx : c3 x = true) : (l.set t x).all c3 = true := by
 rw [bG4] at *
 intro y hy
 rcases List.mem_or_eq_of_mem_set hy with h1 | h1
 ·exact h y h1
 ·rw [h1]; exact hx
theorem aP8 (q : D3) (s : b5) (cx : Int) : Y5 q (B8 q s cx) := by
 unfold B8
 split
 ·exact ⟨by simp, rfl⟩
 ·split
  ·exact ⟨rfl, by simp⟩
  ·exact Y5.refl _
theorem aH3 {l : List Int} {t : Nat} {x : Int} (h : L8 (l.getD t 0) x) (i : Nat) : L8 (l.getD i 0) ((l.set t x).getD i 0) := by
 rw [ao7]
 split
 ·rename_i h1; rw [← h1.1]; exact h
 ·exact L8.refl _
theorem aH2 {l m : List Int} {t : Nat} {x y : Int} (hl : m.length = l.length) (h : ∀ i, L8 (l.getD i 0) (m.getD i 0)) (hx : L8 x y) (i : Nat) : L8 ((l.set t x).getD i 0) ((m.set t y).getD i 0) := by
 rw [ao7, ao7, hl]
 split
 ·exact hx
 ·exact h i
theorem a74 (q : D3) (s : b5) (cx : Int) : X3 q (B8 q s cx) := by
 unfold B8
 split
 ·exact ⟨aH3 ((aq6 _ _).trans (aq6 _ _)), fun _ => L8.refl _⟩
 ·split
  ·exact ⟨fun _ => L8.refl _, aH3 (((aq6 _ _).trans (aq6 _ _)).trans (aq6 _ _))⟩
  ·exact X3.refl _
theorem a73 {q r : D3} (h : X3 q r) (hs : Y5 q r) {cx cy : Int} (hc : L8 cx cy) (s : b5) : X3 (B8 q s cx) (B8 r s cy) := by
 unfold B8
 split
 ·exact ⟨aH2 hs.1 h.1 (R5 (R5 (h.1 _) (V9 h 5 _)) hc), h.2⟩
 ·split
  ·exact ⟨h.1, aH2 hs.2 h.2 (R5 (R5 (R5 (h.2 _) (V9 h 5 _)) (V9 h 5 _)) hc)⟩
  ·exact h
theorem bq1 {q : D3} (h : okP q) {cx : Int} (hc : c3 cx = true) (s : b5) : okP (B8 q s cx) := by
 unfold B8
 split
 ·exact ⟨aV0 h.1 (ap3 (ap3 (X5 h.1 _) (ae1 h.1 h.2 5 _)) hc), h.2⟩
 ·split
  ·exact ⟨h.1, aV0 h.2 (ap3 (ap3 (ap3 (X5 h.2 _) (ae1 h.1 h.2 5 _)) (ae1 h.1 h.2 5 _)) hc)⟩
  ·exact h
theorem aJ5 {q r : D3} (h : X3 q r) {cx cy : Int} (hc : L8 cx cy) (s : b5) : L8 (T8 q s cx) (T8 r s cy) := by
 unfold T8
 split
 ·exact R5 hc (V9 h 5 _)
 ·exact hc
theorem a99 {q : D3} (h : okP q) {cx : Int} (hc : c3 cx = true) (s : b5) : c3 (T8 q s cx) = true := by
 unfold T8
 split
 ·exact ap3 hc (ae1 h.1 h.2 5 _)
 ·exact hc
theorem X6 {F : D3 → b5 → D3} (hF : ∀ q s, Y5 q (F q s)) : ∀ (ss : List b5) (q : D3), Y5 q (ss.foldl F q)
 | [], q => Y5.refl q
 | s :: r, q => (hF q s).trans (X6 hF r _)
theorem Q1 {F : D3 → b5 → D3} (hF : ∀ q s, X3 q (F q s)) : ∀ (ss : List b5) (q : D3), X3 q (ss.foldl F q)
 | [], q => X3.refl q
 | s :: r, q => (hF q s).trans (Q1 hF r _)
theorem al9 {F : D3 → b5 → D3} (hF : ∀ q s, okP q → okP (F q s)) : ∀ (ss : List b5) (q : D3), okP q → okP (ss.foldl F q)
 | [], _, h => h
 | s :: r, q, h => al9 hF r _ (hF q s h)
theorem X7 {F G : D3 → b5 → D3} (hF : ∀ q s, Y5 q (F q s)) (hG : ∀ q s, Y5 q (G q s)) (h : ∀ q r s, Y5 q r → X3 q r → X3 (F q s) (G r s)) : ∀ (ss : List b5) (q r : D3), Y5 q r → X3 q r → X3 (ss.foldl F q) (ss.foldl G r)
 | [], _, _, _, hl => hl
 | s :: t, q, r, hs, hl => X7 hF hG h t _ _ (((hF q s).symm.trans hs).trans (hG r s)) (h q r s hs hl)
theorem U6 (b : Bool) : ∀ (d : Nat) (cx : Int) (q : D3) (s : b5), Y5 q (upS b d q cx s)
 | 0, _, q, _ => Y5.refl q
 | d + 1, cx, q, s => by
  rw [U7]
  exact ((aP8 q s cx).trans (X6 (fun q s => U6 b d _ q s) _ _)).trans (X6 (fun q s => U6 b d _ q s) _ _)
theorem al3 (b : Bool) : ∀ (d : Nat) (cx : Int) (q : D3) (s : b5), X3 q (upS b d q cx s)
 | 0, _, q, _ => X3.refl q
 | d + 1, cx, q, s => by
  rw [U7]
  exact ((a74 q s cx).trans (Q1 (fun q s => al3 b d _ q s) _ _)).trans (Q1 (fun q s => al3 b d _ q s) _ _)
theorem a42 (b : Bool) : ∀ (d : Nat) (cx : Int) (q : D3) (s : b5), c3 cx = true → okP q → okP (upS b d q cx s)
 | 0, _, _, _, _, h => h
 | d + 1, cx, q, s, hc, h => by
  rw [U7]
  have h1 := bq1 h hc s
  have h2 : okP (s0 b d (B8 q s cx) (T8 (B8 q s cx) s cx) s.body) := al9 (fun q t hq => a42 b d _ q t (a99 h1 hc s) hq) _ _ h1
  refine al9 (fun q t hq => a42 b d _ q t (a99 ?_ hc s) hq) _ _ h2
  split
  ·exact h2
  ·exact h1
theorem az7 {b b' : Bool} (hb : b = true → b' = true) : ∀ (d : Nat) (cx cy : Int) (q r : D3) (s : b5), L8 cx cy → Y5 q r → X3 q r → X3 (upS b d q cx s) (upS b' d r cy s)
 | 0, _, _, _, _, _, _, _, h => h
 | d + 1, cx, cy, q, r, s, hc, hs, h => by
  rw [U7, U7]
  have h1 := a73 h hs hc s
  have s1 : Y5 (B8 q s cx) (B8 r s cy) := ((aP8 q s cx).symm.trans hs).trans (aP8 r s cy)
  have hi := aJ5 h1 hc s
  have h2 : X3 (s0 b d (B8 q s cx) (T8 (B8 q s cx) s cx) s.body) (s0 b' d (B8 r s cy) (T8 (B8 r s cy) s cy) s.body) := X7 (fun q t => U6 b d _ q t) (fun q t => U6 b' d _ q t) (fun q r t hs hl => az7 hb d _ _ q r t hi hs hl) _ _ _ s1 h1
  have s2 : Y5 (s0 b d (B8 q s cx) (T8 (B8 q s cx) s cx) s.body) (s0 b' d (B8 r s cy) (T8 (B8 r s cy) s cy) s.body) := ((X6 (fun q t => U6 b d _ q t) _ _).symm.trans s1).trans (X6 (fun q t => U6 b' d _ q t) _ _)
  refine X7 (fun q t => U6 b d _ q t) (fun q t => U6 b' d _ q t) (fun q r t hs hl => az7 hb d _ _ q r t ?_ hs hl) _ _ _ s2 h2
  refine aJ5 ?_ hc s
  cases b with
  | true =>
   have e := hb rfl
   subst e
   exact h2
  | false =>
   simp only [Bool.false_eq_true, if_false]
   split
   ·exact h1.trans (Q1 (fun q t => al3 b' d _ q t) _ _)
   ·exact h1
section
variable {b : Bool} {d : Nat} {cx : Int} {q r : D3} {ss : List b5}
theorem aa5 : Y5 q (s0 b d q cx ss) := X6 (fun q t => U6 b d _ q t) _ _
theorem an6 : X3 q (s0 b d q cx ss) := Q1 (fun q t => al3 b d _ q t) _ _
theorem a43 (hc : c3 cx = true) (h : okP q) : okP (s0 b d q cx ss) := al9 (fun q t hq => a42 b d _ q t hc hq) _ _ h
end
def az9 (l : List Int) : Nat := (l.map Int.toNat).sum
def au2 (q : D3) : Nat := az9 q.1 + az9 q.2
theorem az8 : ∀ {a b : List Int}, b.length = a.length → a.all c3 = true → b.all c3 = true → (∀ i, L8 (a.getD i 0) (b.getD i 0)) → az9 a ≤ az9 b ∧ (az9 a = az9 b → a = b)
 | [], b, hl, _, _, _ => by rw [bI8 hl]; exact ⟨bH3 _, fun _ => rfl⟩
 | x :: r, [], hl, _, _, _ => by cases hl
 | x :: r, y :: t, hl, ha, hb, h => by
  simp only [List.all_cons, bF9] at ha hb
  have h0 := h 0
  simp at h0
  obtain ⟨k1, k2⟩ := az8 (a := r) (b := t) (by simpa using hl) ha.2 hb.2 fun i => by have := h (i + 1); simpa using this
  have k3 := h0.nat ha.1 hb.1
  simp only [az9, bI5, List.sum_cons] at k1 k2 ⊢
  refine ⟨by omega, fun e => ?_⟩
  obtain ⟨a, rfl⟩ := F0 ha.1
  obtain ⟨b, rfl⟩ := F0 hb.1
  rw [k2 (by omega)]
  congr 1
  omega
theorem ao1 : ∀ {l : List Int}, l.all c3 = true → az9 l ≤ 3 * l.length
 | [], _ => bJ2 _
 | x :: r, h => by
  simp only [List.all_cons, bF9] at h
  have h1 := ao1 h.2
  obtain ⟨a, rfl⟩ := F0 h.1
  simp only [az9, bI5, List.sum_cons, bH7] at h1 ⊢
  omega
theorem aU8 {q r : D3} (hs : Y5 q r) (hq : okP q) (hr : okP r) (h : X3 q r) (hne : ¬ r = q) : au2 q < au2 r := by
 obtain ⟨a1, a2⟩ := az8 hs.1 hq.1 hr.1 h.1
 obtain ⟨b1, b2⟩ := az8 hs.2 hq.2 hr.2 h.2
 unfold au2
 refine Nat.lt_of_not_le fun hle => hne (Prod.ext (a2 (by omega)).symm (b2 (by omega)).symm)
theorem aG4 {q : D3} (hq : okP q) : au2 q ≤ 3 * (q.1.length + q.2.length) := by
 have h1 := ao1 hq.1
 have h2 := ao1 hq.2
 unfold au2; omega
def U1 (b : List b5) (p q : D3) : Prop := Y5 p q ∧ okP q ∧ X3 p q ∧ ∀ r, Y5 p r → okP r → X3 p r → s0 true 5 r 0 b = r → X3 q r
theorem ab2 {b : List b5} {p : D3} (h : okP p) : U1 b p p := ⟨Y5.refl _, h, X3.refl _, fun _ _ _ h _ => h⟩
theorem X4 {b : List b5} {p q : D3} {f : Bool} (h : U1 b p q) : U1 b p (s0 f 5 q 0 b) :=
 ⟨h.1.trans aa5, a43 rfl h.2.1, h.2.2.1.trans an6, fun r h1 h2 h3 h4 => by
  have h5 := h.2.2.2 r h1 h2 h3 h4
  have := X7 (fun q t => U6 f 5 0 q t) (fun q t => U6 true 5 0 q t) (fun q r t hs hl => az7 (b := f) (b' := true) (fun _ => rfl) 5 0 0 q r t (L8.refl _) hs hl) b q r (h.1.symm.trans h1) h5
  rw [show b.foldl (fun q t => upS true 5 q 0 t) r = r from h4] at this
  exact this⟩
theorem aJ6 {b : List b5} {p q r : D3} (hq : U1 b p q) (hr : U1 b p r) (fq : s0 true 5 q 0 b = q) (fr : s0 true 5 r 0 b = r) : q = r :=
 (hq.2.2.2 r hr.1 hr.2.1 hr.2.2.1 fr).anti (hr.2.2.2 q hq.1 hq.2.1 hq.2.2.1 fq) (hq.1.symm.trans hr.1) hq.2.1 hr.2.1
def au4 (b : List b5) : Nat → D3 → D3
 | 0, q => q
 | n + 1, q => au4 b n (s0 true 5 q 0 b)
def ah1 (p : b7) : D3 := au4 p.body 64 (p.vars, p.arrays)
theorem aJ7 {b : List b5} {p : D3} : ∀ (n : Nat) (q : D3), U1 b p q → U1 b p (au4 b n q)
 | 0, _, h => h
 | n + 1, q, h => aJ7 n _ (X4 h)
theorem aJ8 {b : List b5} : ∀ (n : Nat) {q : D3}, s0 true 5 q 0 b = q → au4 b n q = q
 | 0, _, _ => rfl
 | n + 1, q, h => by rw [au4, h]; exact aJ8 n h
theorem aJ9 {b : List b5} {p : D3} : ∀ (n : Nat) (q : D3), U1 b p q → s0 true 5 (au4 b n q) 0 b = au4 b n q ∨ au2 q + n ≤ au2 (au4 b n q)
 | 0, _, _ => .inr (bH3 _)
 | n + 1, q, h => by
  rw [au4]
  by_cases e : s0 true 5 q 0 b = q
  ·left
   rw [e, aJ8 n e, e]
  ·have h1 := aU8 aa5 h.2.1 (a43 rfl h.2.1) an6 e
   rcases aJ9 n _ (X4 (f := true) h) with h2 | h2
   ·exact .inl h2
   ·right; omega
theorem aC6 {p : b7} (h : j9 p = true) : okP (p.vars, p.arrays) := by
 have := aP3 h
 simp only [a90, bF9] at this
 exact this
theorem ar0 {p : b7} (h : j9 p = true) : U1 p.body (p.vars, p.arrays) (ah1 p) := aJ7 64 _ (ab2 (aC6 h))
theorem ba1 {p : b7} (h : j9 p = true) (hl : p.vars.length + p.arrays.length ≤ 14) : s0 true 5 (ah1 p) 0 p.body = ah1 p := by
 rcases aJ9 (b := p.body) 64 (p.vars, p.arrays) (ab2 (aC6 h)) with h1 | h1
 ·exact h1
 ·have h2 := ar0 h
  have h3 := aG4 h2.2.1
  have h4 := h2.1
  have h5 : au4 p.body 64 (p.vars, p.arrays) = ah1 p := rfl
  rw [h5] at h1
  rw [h4.1, h4.2] at h3
  simp only at h3
  omega
theorem aX2 {p : b7} {q : D3} (h : j9 p = true) (hl : p.vars.length + p.arrays.length ≤ 14) (hq : U1 p.body (p.vars, p.arrays) q) (hf : s0 true 5 q 0 p.body = q) : ah1 p = q :=
 aJ6 (ar0 h) hq (ba1 h hl) hf
theorem aU7 {a b : b6} (h : ¬ a = b) : C0 a b = false := by
 cases e : C0 a b
 ·rfl
 ·exact absurd ((C8 a b).1 e) h
section
variable {a b : b6} {k : Nat}
theorem sx1 (h : ¬ a.kind = b.kind) : C0 a b = false := aU7 fun e => h (by rw [e])
theorem sx2 (h : ¬ a.value = b.value) : C0 a b = false := aU7 fun e => h (by rw [e])
theorem sx3 (h : ¬ (a.kids.length : Int) = b.kids.length) : C0 a b = false := aU7 fun e => h (by rw [e])
theorem sx4 (h : C0 (a.kids.getD k bF8) (b.kids.getD k bF8) = false) : C0 a b = false := aU7 fun e => by
 subst e
 rw [(C8 _ _).2 rfl] at h; cases h
theorem ag1 {α : Type} {l m : List α} {k : Nat} {z : α} (h : l.take k = m.take k) (h1 : k < l.length) (h2 : k < m.length) (e : l.getD k z = m.getD k z) : l.take (k + 1) = m.take (k + 1) := by
 rw [m0 _ _ h1, m0 _ _ h2, h, ← f7 (d := z) h1, ← f7 (d := z) h2, e]
theorem an9 {α : Type} {l m : List α} {k : Nat} (h : l.take k = m.take k) (h1 : l.length ≤ k) (h2 : (l.length : Int) = m.length) : l = m := by
 rw [bG9 h1, bG9 (by omega)] at h
 exact h
theorem sx5 (h1 : a.kind = b.kind) (h2 : a.value = b.value) (h3 : (a.kids.length : Int) = b.kids.length) (h : a.kids.take k = b.kids.take k) (hk : a.kids.length ≤ k) : C0 a b = true := by
 refine (C8 _ _).2 ?_
 rw [← b6.eta a, ← b6.eta b, h1, h2, an9 h hk h3]
end
abbrev sxC (a b : b6) : c8 := C6 244 [eA a 0, eA b 1] [dE a.kids, dE b.kids] (bA (C0 a b))
theorem bf6 (x y : b6) (ih : ∀ (u : b6), u ∈ x.kids → ∀ (v : b6), c8.ok Try.prog (sxC u v)) : c8.ok Try.prog (sxC x y) := by
  refine z7 46 Try.func244 [dE x.kids, dE y.kids] [(0, eA x 0), (1, eA y 1)] fun G => ?_; have hl : x.kids.length ≤ 9223372036854775807 := G.len 0 (d := .exprs x.kids) (by kernel_rfl); refine wp_seq (d7 G b8 [0, 1, 2, 10] [dE x.kids, dE y.kids, .box (eL x 0), .box (eL y 1)] [(2, .ptr 2 0), (3, .ptr 3 0), (4, bA false)] fun G => b0 (wp_seq (wp_seq ?_))); cases h0 : (x.kind != y.kind)
  ·
   have q0 := bne_eq_false_iff_eq.1 h0; cases h1 : (x.value != y.value)
   ·
    have q1 := bne_eq_false_iff_eq.1 h1; refine c7 G (A6 (fc h0 (fc h1 fz)) (us [(6, 10, 0), (1011, 1011, 0), (13, 19, 1), (1020, 1020, 1)])) [(26, bA ((x.kids.length : Int) != (y.kids.length : Int)))] fun G => b0 (rcN G (fun h2 q2 => ?_) fun h2 q2 => ?_)
    ·
     refine wp_skip (b0 (wp_seq (wp_seq (y5 G b8 [(2, .ptr 2 0), (3, .ptr 3 0), (4, bA false), (5, iA 0)] fun G => b0 (wp_block ?_))))); refine l7 (κ := Nat) (fun k => k ≤ x.kids.length ∧ x.kids.take k = y.kids.take k) (fun k => x.kids.length - k) (fun k => [dE x.kids, dE y.kids, .box (eL x 0), .box (eL y 1)]) (fun k => [(2, .ptr 2 0), (3, .ptr 3 0), (4, bA false), (5, iA k)]) 0 (by simp [h0, h1, h2]) (l9.at G _ _) ?_; clear G; intro k ρ a w hp G; refine wp_seq (wp_seq (c7 G b8 [(31, bA (decide ((k : Int) < x.kids.length)))] fun G => b0 (Q7 G (fun h3 q3 => ?_) fun h3 q3 => ?_)))
     · refine wp_exit (l6 (l6 (l5 (b0 (wp_seq (d7 G b8 [0, 1] [dE x.kids, dE y.kids] [(4, bA true)] fun G => b0 (wp_ret ?_))))))); exact o5 true G [0, 1] (sx5 (by omega) (by omega) (by omega) hp.2 (by omega))
     ·
      refine wp_skip (b0 (wp_seq (wp_block (wp_seq (Y6 G (n8 10 [36, 76] (ih (x.kids.getD k bF8) (ar7 (by omega)) (y.kids.getD k bF8))) [0, 1, 0, 7, 15, 0, 32, 0, 224, 480, 1023, 2047] [(45, .v (.bool !C0 (x.kids.getD k bF8) (y.kids.getD k bF8)))] (iX k k x.kids.length (iX k k y.kids.length [])) (iK (by omega) (iK (by omega) bG8)) fun G => b0 ?_))))); cases h4 : (!C0 (x.kids.getD k bF8) (y.kids.getD k bF8))
      · have q4 : (C0 (x.kids.getD k bF8) (y.kids.getD k bF8)) = true := (Eq.mp (bG7 _) h4); refine rF G _ h4 (wp_skip (j4 (b0 (C1 G b8 [(5, iA ((k : Int) + 1))] [wO ((k : Int) + 1)] (o1 (by omega)) fun G => b0 ?_)))); exact N8 G (k + 1) (⟨by omega, ag1 hp.2 (by omega) (by omega) ((C8 _ _).1 (by with_reducible assumption))⟩) (by omega) (rg 4)
      · have q4 : (C0 (x.kids.getD k bF8) (y.kids.getD k bF8)) = false := (Eq.mp (bG6 _) h4); refine rT G _ h4 (wp_seq (c7 G b8 [] fun G => b0 (wp_ret (o4 (c5 (c5 (o4 (c5 ?_)))))))); exact o5 false G [0, 1] (sx4 (by with_reducible assumption))
    · refine wp_seq (c7 G b8 [] fun G => b0 (wp_ret (c5 ?_))); exact o5 false G [0, 1] (sx3 (by omega))
   · have q1 := bne_iff_ne.1 h1; refine c7 G (A6 (fc h0 (fc h1 fz)) (us [(6, 10, 0), (1011, 1011, 0), (13, 19, 1), (1020, 1020, 1)])) [(26, bA true)] fun G => b0 (rT G true (by kernel_rfl) (wp_seq (c7 G b8 [] fun G => b0 (wp_ret (c5 ?_))))); exact o5 false G [0, 1] (sx2 (by omega))
  · have q0 := bne_iff_ne.1 h0; refine c7 G (A6 (fc h0 (fc (b := true) rfl fz)) (us [(6, 10, 0), (1011, 1011, 0), (13, 19, 1), (1020, 1020, 1)])) [(26, bA true)] fun G => b0 (rT G true (by kernel_rfl) (wp_seq (c7 G b8 [] fun G => b0 (wp_ret (c5 ?_))))); exact o5 false G [0, 1] (sx1 (by omega))
theorem S5 (x : b6) : ∀ (y : b6), c8.ok Try.prog (sxC x y) :=
 b6.ind (P := fun x => ∀ (y : b6), c8.ok Try.prog (sxC x y)) (fun k n ks ih y => bf6 ⟨k, n, ks⟩ y fun u hu => ih u hu) x
theorem W2 (xs ys : List Int) : c8.ok Try.prog (C6 68 [.ref 0, .ref 1] [dI xs, dI ys] (bA (decide (xs = ys)))) := by
  refine z7 26 Try.func68 [dI xs, dI ys] [(0, .ref 0), (1, .ref 1)] fun G => ?_; have hl : xs.length ≤ 9223372036854775807 := G.len 0 (d := .ints xs) (by kernel_rfl); refine wp_seq (y5 G b8 [(0, .ref 0), (1, .ref 1), (4, bA false)] fun G => b0 (wp_seq (wp_seq (c7 G b8 [(10, bA ((xs.length : Int) != (ys.length : Int)))] fun G => b0 (rcN G (fun h0 q0 => ?_) fun h0 q0 => ?_)))))
  ·
   refine wp_skip (b0 (wp_seq (wp_seq (y5 G b8 [(0, .ref 0), (1, .ref 1), (4, bA false), (5, iA 0)] fun G => b0 (wp_block ?_))))); refine l7 (κ := Nat) (fun k => k ≤ xs.length ∧ xs.take k = ys.take k) (fun k => xs.length - k) (fun k => [dI xs, dI ys]) (fun k => [(0, .ref 0), (1, .ref 1), (4, bA false), (5, iA k)]) 0 (by simp [h0]) (l9.at G _ _) ?_; clear G; intro k ρ a w hp G; refine wp_seq (wp_seq (c7 G b8 [(14, bA (decide ((k : Int) < xs.length)))] fun G => b0 (Q7 G (fun h1 q1 => ?_) fun h1 q1 => ?_)))
   · refine wp_exit (l6 (l6 (l5 (b0 (wp_seq (c7 G b8 [(4, bA true)] fun G => b0 (wp_ret ?_))))))); exact o5 true G [0, 1] (decide_eq_true (an9 hp.2 (by omega) (by omega)))
   ·
    refine wp_skip (b0 (wp_seq (wp_block (wp_seq (Y6 G b8 [0, 0, 3, 7, 0, 0, 48, 112, 255] [(25, bA (xs.getD k 0 != ys.getD k 0))] (iX k k xs.length (iX k k ys.length [])) (iK (by omega) (iK (by omega) bG8)) fun G => b0 (rcN G (fun h2 q2 => ?_) fun h2 q2 => ?_))))))
    · refine wp_skip (j4 (b0 (C1 G b8 [(5, iA ((k : Int) + 1))] [wO ((k : Int) + 1)] (o1 (by omega)) fun G => b0 ?_))); exact N8 G (k + 1) (⟨by omega, ag1 hp.2 (by omega) (by omega) (by omega)⟩) (by omega) [0, 1]
    · refine wp_seq (c7 G b8 [] fun G => b0 (wp_ret (o4 (c5 (c5 (o4 (c5 ?_))))))); exact o5 false G [0, 1] (by exact decide_eq_false fun e => by subst e; omega)
  · refine wp_seq (c7 G b8 [] fun G => b0 (wp_ret (c5 ?_))); exact o5 false G [0, 1] (by exact decide_eq_false fun e => by subst e; omega)
theorem ao4 {s t : b5} (h : ¬ s = t) : E8 s t = false := by
 cases e : E8 s t
 ·rfl
 ·exact absurd ((V4 s t).1 e) h
theorem bm0 {l m : List b5} (h : ¬ l = m) : o8 l m = false := by
 cases e : o8 l m
 ·rfl
 ·exact absurd ((B1 l m).1 e) h
section
variable {s t : b5} {l m : List b5} {k : Nat}
theorem sr1 (h : ¬ s.kind = t.kind) : E8 s t = false := ao4 fun e => h (by rw [e])
theorem sr2 (h : ¬ s.target = t.target) : E8 s t = false := ao4 fun e => h (by rw [e])
theorem sr3 (h : ¬ s.count = t.count) : E8 s t = false := ao4 fun e => h (by rw [e])
theorem sr4 (h : C0 s.index t.index = false) : E8 s t = false := ao4 fun e => by subst e; rw [(C8 _ _).2 rfl] at h; cases h
theorem sr5 (h : C0 s.value t.value = false) : E8 s t = false := ao4 fun e => by subst e; rw [(C8 _ _).2 rfl] at h; cases h
theorem sr6 (h : o8 s.body t.body = false) : E8 s t = false := ao4 fun e => by subst e; rw [(B1 _ _).2 rfl] at h; cases h
theorem sr7 (h : o8 s.els t.els = false) : E8 s t = false := ao4 fun e => by subst e; rw [(B1 _ _).2 rfl] at h; cases h
theorem sr8 (h1 : s.kind = t.kind) (h2 : s.target = t.target) (h3 : s.count = t.count) (h4 : C0 s.index t.index = true) (h5 : C0 s.value t.value = true) (h6 : o8 s.body t.body = true) : E8 s t = o8 s.els t.els := by
 cases e : o8 s.els t.els
 ·exact sr7 e
 ·refine (V4 _ _).2 ?_
  rw [← b5.eta s, ← b5.eta t, h1, h2, h3, (C8 _ _).1 h4, (C8 _ _).1 h5, (B1 _ _).1 h6, (B1 _ _).1 e]
theorem sb1 (h : ¬ (l.length : Int) = m.length) : o8 l m = false := bm0 fun e => h (by rw [e])
theorem sb2 (h : E8 (l.getD k bF8) (m.getD k bF8) = false) : o8 l m = false := bm0 fun e => by
 subst e
 rw [(V4 _ _).2 rfl] at h; cases h
theorem sb3 (h3 : (l.length : Int) = m.length) (h : l.take k = m.take k) (hk : l.length ≤ k) : o8 l m = true := (B1 _ _).2 (an9 h hk h3)
end
abbrev sbC (l m : List b5) : c8 := C6 234 [.ref 0, .ref 1] [dT l, dT m] (bA (o8 l m))
abbrev ssC (s t : b5) : c8 := C6 241 [sA s 0, sA t 4] (sS s ++ sS t) (bA (E8 s t))
abbrev ab9 (s : b5) (t : b5) (r0 : List It) : List It := dE s.index.kids :: dE s.value.kids :: dT s.body :: dT s.els :: dE t.index.kids :: dE t.value.kids :: dT t.body :: dT t.els :: r0
theorem bf7 (s t : b5) (ih1 : ∀ (m : List b5), c8.ok Try.prog (sbC s.body m)) (ih2 : ∀ (m : List b5), c8.ok Try.prog (sbC s.els m)) : c8.ok Try.prog (ssC s t) := by
  refine z7 52 Try.func241 (ab9 s t []) [(0, sA s 0), (1, sA t 4)] fun G => ?_; refine wp_seq (d7 G b8 [0, 1, 2, 3, 4, 5, 6, 7, 8, 16] (ab9 s t [.box (sL s 0), .box (sL t 4)]) [(2, .ptr 8 0), (3, .ptr 9 0), (4, bA false)] fun G => b0 (wp_seq ?_)); cases h0 : (s.kind == t.kind)
  · have q0 := ne_of_beq_false h0; refine d7 G (A6 (fc h0 (fc (b := false) rfl fz)) (us [(6, 10, 0), (1011, 1011, 0), (13, 17, 1), (1018, 1018, 1), (20, 24, 1), (1025, 1025, 1), (27, 31, 1), (1032, 1032, 1), (34, 38, 1), (1039, 1039, 1), (41, 45, 1), (1046, 1046, 1)])) (rg 8) (ab9 s t []) [(4, bA false)] fun G => b0 (wp_ret ?_); exact o5 false G (rg 8) (sr1 (by omega))
  ·
   have q0 := eq_of_beq h0; cases h1 : (s.target == t.target)
   · have q1 := ne_of_beq_false h1; refine d7 G (A6 (fc h0 (fc h1 (fc (b := false) rfl fz))) (us [(6, 10, 0), (1011, 1011, 0), (13, 17, 1), (1018, 1018, 1), (20, 24, 2), (1025, 1025, 2), (27, 31, 2), (1032, 1032, 2), (34, 38, 2), (1039, 1039, 2), (41, 45, 2), (1046, 1046, 2)])) (rg 8) (ab9 s t []) [(4, bA false)] fun G => b0 (wp_ret ?_); exact o5 false G (rg 8) (sr2 (by omega))
   ·
    have q1 := eq_of_beq h1; cases h2 : (s.count == t.count)
    · have q2 := ne_of_beq_false h2; refine d7 G (A6 (fc h0 (fc h1 (fc h2 (fc (b := false) rfl fz)))) (us [(6, 10, 0), (1011, 1011, 0), (13, 17, 1), (1018, 1018, 1), (20, 24, 2), (1025, 1025, 2), (27, 31, 3), (1032, 1032, 3), (34, 38, 3), (1039, 1039, 3), (41, 45, 3), (1046, 1046, 3)])) (rg 8) (ab9 s t []) [(4, bA false)] fun G => b0 (wp_ret ?_); exact o5 false G (rg 8) (sr3 (by omega))
    ·
     have q2 := eq_of_beq h2; cases h3 : (C0 s.index t.index)
     · refine d7 G (s7 (j5 24 [0, 4] (S5 s.index t.index) s6) (fc h0 (fc h1 (fc h2 (fc h3 (fc (b := false) rfl fz))))) (us [(6, 10, 0), (1011, 1011, 0), (13, 17, 1), (1018, 1018, 1), (20, 24, 2), (1025, 1025, 2), (27, 31, 3), (1032, 1032, 3), (34, 38, 4), (1039, 1039, 4), (41, 45, 4), (1046, 1046, 4)])) (rg 8) (ab9 s t []) [(4, bA false)] fun G => b0 (wp_ret ?_); exact o5 false G (rg 8) (sr4 (by with_reducible assumption))
     ·
      cases h4 : (C0 s.value t.value)
      · refine d7 G (s7 (j5 24 [0, 4] (S5 s.index t.index) (j5 31 [1, 5] (S5 s.value t.value) s6)) (fc h0 (fc h1 (fc h2 (fc h3 (fc h4 (fc (b := false) rfl fz)))))) (us [(6, 10, 0), (1011, 1011, 0), (13, 17, 1), (1018, 1018, 1), (20, 24, 2), (1025, 1025, 2), (27, 31, 3), (1032, 1032, 3), (34, 38, 4), (1039, 1039, 4), (41, 45, 5), (1046, 1046, 5)])) (rg 8) (ab9 s t []) [(4, bA false)] fun G => b0 (wp_ret ?_); exact o5 false G (rg 8) (sr5 (by with_reducible assumption))
      ·
       cases h5 : (o8 s.body t.body)
       · refine d7 G (s7 (j5 24 [0, 4] (S5 s.index t.index) (j5 31 [1, 5] (S5 s.value t.value) (j5 38 [2, 6] (ih1 t.body) s6))) (fc h0 (fc h1 (fc h2 (fc h3 (fc h4 (fc h5 fz)))))) (us [(6, 10, 0), (1011, 1011, 0), (13, 17, 1), (1018, 1018, 1), (20, 24, 2), (1025, 1025, 2), (27, 31, 3), (1032, 1032, 3), (34, 38, 4), (1039, 1039, 4), (41, 45, 5), (1046, 1046, 5)])) (rg 8) (ab9 s t []) [(4, bA false)] fun G => b0 (wp_ret ?_); exact o5 false G (rg 8) (sr6 (by with_reducible assumption))
       · refine d7 G (s7 (j5 24 [0, 4] (S5 s.index t.index) (j5 31 [1, 5] (S5 s.value t.value) (j5 38 [2, 6] (ih1 t.body) (j5 45 [3, 7] (ih2 t.els) s6)))) (fc h0 (fc h1 (fc h2 (fc h3 (fc h4 (fc h5 fz)))))) (us [(6, 10, 0), (1011, 1011, 0), (13, 17, 1), (1018, 1018, 1), (20, 24, 2), (1025, 1025, 2), (27, 31, 3), (1032, 1032, 3), (34, 38, 4), (1039, 1039, 4), (41, 45, 5), (1046, 1046, 5)])) (rg 8) (ab9 s t []) [(4, bA (o8 s.els t.els))] fun G => b0 (wp_ret ?_); exact o5 (o8 s.els t.els) G (rg 8) (sr8 (by omega) (by omega) (by omega) (by with_reducible assumption) (by with_reducible assumption) (by with_reducible assumption))
theorem aB4 (l m : List b5) (ih : ∀ (s : b5), s ∈ l → ∀ (t : b5), c8.ok Try.prog (ssC s t)) : c8.ok Try.prog (sbC l m) := by
  refine z7 27 Try.func234 [dT l, dT m] [(0, .ref 0), (1, .ref 1)] fun G => ?_; have hl : l.length ≤ 9223372036854775807 := G.len 0 (d := .stmts l) (by kernel_rfl); refine wp_seq (y5 G b8 [(0, .ref 0), (1, .ref 1), (4, bA false)] fun G => b0 (wp_seq (wp_seq (c7 G b8 [(10, bA ((l.length : Int) != (m.length : Int)))] fun G => b0 (rcN G (fun h0 q0 => ?_) fun h0 q0 => ?_)))))
  ·
   refine wp_skip (b0 (wp_seq (wp_seq (y5 G b8 [(0, .ref 0), (1, .ref 1), (4, bA false), (5, iA 0)] fun G => b0 (wp_block ?_))))); refine l7 (κ := Nat) (fun k => k ≤ l.length ∧ l.take k = m.take k) (fun k => l.length - k) (fun k => [dT l, dT m]) (fun k => [(0, .ref 0), (1, .ref 1), (4, bA false), (5, iA k)]) 0 (by simp [h0]) (l9.at G _ _) ?_; clear G; intro k ρ a w hp G; refine wp_seq (wp_seq (c7 G b8 [(14, bA (decide ((k : Int) < l.length)))] fun G => b0 (Q7 G (fun h1 q1 => ?_) fun h1 q1 => ?_)))
   · refine wp_exit (l6 (l6 (l5 (b0 (wp_seq (c7 G b8 [(4, bA true)] fun G => b0 (wp_ret ?_))))))); exact o5 true G [0, 1] (sb3 (by omega) hp.2 (by omega))
   ·
    refine wp_skip (b0 (wp_seq (wp_block (wp_seq (Y6 G (n8 8 [26, 27, 28, 29, 58, 59, 60, 61] (ih (l.getD k bF8) (ae3 (by omega)) (m.getD k bF8))) [0, 0, 3, 7, 0, 0, 48, 112, 255, 511] [(26, .v (.bool !E8 (l.getD k bF8) (m.getD k bF8)))] (iX k k l.length (iX k k m.length [])) (iK (by omega) (iK (by omega) bG8)) fun G => b0 ?_))))); cases h2 : (!E8 (l.getD k bF8) (m.getD k bF8))
    · have q2 : (E8 (l.getD k bF8) (m.getD k bF8)) = true := (Eq.mp (bG7 _) h2); refine rF G _ h2 (wp_skip (j4 (b0 (C1 G b8 [(5, iA ((k : Int) + 1))] [wO ((k : Int) + 1)] (o1 (by omega)) fun G => b0 ?_)))); exact N8 G (k + 1) (⟨by omega, ag1 hp.2 (by omega) (by omega) ((V4 _ _).1 (by with_reducible assumption))⟩) (by omega) [0, 1]
    · have q2 : (E8 (l.getD k bF8) (m.getD k bF8)) = false := (Eq.mp (bG6 _) h2); refine rT G _ h2 (wp_seq (c7 G b8 [] fun G => b0 (wp_ret (o4 (c5 (c5 (o4 (c5 ?_)))))))); exact o5 false G [0, 1] (sb2 (by with_reducible assumption))
  · refine wp_seq (c7 G b8 [] fun G => b0 (wp_ret (c5 ?_))); exact o5 false G [0, 1] (sb1 (by omega))
theorem bp2 (s : b5) : ∀ (t : b5), c8.ok Try.prog (ssC s t) :=
 b5.ind (P := fun s => ∀ (t : b5), c8.ok Try.prog (ssC s t)) (fun k t i v c b e h1 h2 u => bf7 ⟨k, t, i, v, c, b, e⟩ u (fun m => aB4 b m fun s hs => h1 s hs) fun m => aB4 e m fun s hs => h2 s hs) s
theorem bj1 (l m : List b5) : c8.ok Try.prog (sbC l m) := aB4 l m fun s _ => bp2 s
theorem au7 (xs xt : List Int) (l : List b5) (ys yt : List Int) (m : List b5) : c8.ok Try.prog (C6 207 [pA 0, pA 3] [dI xs, dI xt, dT l, dI ys, dI yt, dT m] (bA (decide (xs = ys) && (decide (xt = yt) && o8 l m)))) := by
  refine z7 24 Try.func207 [dI xs, dI xt, dT l, dI ys, dI yt, dT m] [(0, pA 0), (1, pA 3)] fun G => ?_; refine wp_seq (d7 G b8 [0, 1, 2, 3, 4, 5, 6, 14] [dI xs, dI xt, dT l, dI ys, dI yt, dT m, .box (pL 0), .box (pL 3)] [(2, .ptr 6 0), (3, .ptr 7 0), (4, bA false)] fun G => b0 (wp_seq ?_)); cases h0 : (decide (xs = ys))
  · have q0 := O8 h0; refine d7 G (s7 (j5 4 [0, 3] (W2 xs ys) s6) (fc h0 (fc (b := false) rfl fz)) (us [(6, 10, 0), (1011, 1011, 0), (13, 17, 1), (1018, 1018, 1)])) (rg 6) [dI xs, dI xt, dT l, dI ys, dI yt, dT m] [(4, bA false)] fun G => b0 (wp_ret ?_); exact F8 G (rg 6)
  ·
   have q0 := O7 h0; cases h1 : (decide (xt = yt))
   · have q1 := O8 h1; refine d7 G (s7 (j5 4 [0, 3] (W2 xs ys) (j5 10 [1, 4] (W2 xt yt) s6)) (fc h0 (fc h1 fz)) (us [(6, 10, 0), (1011, 1011, 0), (13, 17, 1), (1018, 1018, 1)])) (rg 6) [dI xs, dI xt, dT l, dI ys, dI yt, dT m] [(4, bA false)] fun G => b0 (wp_ret ?_); exact F8 G (rg 6)
   · have q1 := O7 h1; refine d7 G (s7 (j5 4 [0, 3] (W2 xs ys) (j5 10 [1, 4] (W2 xt yt) (j5 17 [2, 5] (bj1 l m) s6))) (fc h0 (fc h1 fz)) (us [(6, 10, 0), (1011, 1011, 0), (13, 17, 1), (1018, 1018, 1)])) (rg 6) [dI xs, dI xt, dT l, dI ys, dI yt, dT m] [(4, bA (o8 l m))] fun G => b0 (wp_ret ?_); exact F8 G (rg 6)
theorem L1 (vs ars : List Int) (b : List b5) (e : b6) (he : b9 vs.length ars.length 5 e = true) : c8.ok Try.prog (C6 89 [pA 0, eA e 3] ([dI vs, dI ars, dT b] ++ eS e) (iA (j8 vs ars 5 e))) := B5 ⟨vs, ars, b⟩ e he
theorem ai0 (vs ars : List Int) (b : List b5) (hb : vs.length + ars.length + r6 b ≤ 1048576) : c8.ok Try.prog ⟨169, [pA 0], [dI vs, dI ars, dT b], [dI vs, dI ars, dT b, .row 3 (.ints vs), .row 3 (.ints ars), .tree (.stmts b)], oA 3⟩ := bc9 ⟨vs, ars, b⟩ hb
theorem aE0 (vs ars : List Int) (b : List b5) (hb : r6 b ≤ 1048576) : c8.ok Try.prog (C6 185 [pA 0] [dI vs, dI ars, dT b] (.tup [iA (ckR ⟨vs, ars, b⟩ false).1, iA (ckR ⟨vs, ars, b⟩ false).2])) := aM0 ⟨vs, ars, b⟩ hb
section
variable {vs ars : List Int} {cx : Int} {s : b5} {d : Nat} {b : Bool}
theorem on1 (k : s.kind = 1) : B8 (vs, ars) s cx = (vs.set s.target.toNat (m6 (m6 (vs.getD s.target.toNat 0) (j8 vs ars 5 s.value)) cx), ars) := if_pos k
theorem on2 (k : s.kind = 2) : B8 (vs, ars) s cx = (vs, ars.set s.target.toNat (m6 (m6 (m6 (ars.getD s.target.toNat 0) (j8 vs ars 5 s.value)) (j8 vs ars 5 s.index)) cx)) := by unfold B8; rw [if_neg (by omega), if_pos k]
theorem on0 {q : D3} (k1 : ¬ s.kind = 1) (k2 : ¬ s.kind = 2) : B8 q s cx = q := by unfold B8; rw [if_neg k1, if_neg k2]
theorem up1 {q : D3} (h1 : s.body = []) (h2 : s.els = []) : upS b (d + 1) q cx s = B8 q s cx := by rw [U7, h1, h2]; rfl
theorem up3 {q : D3} (k : s.kind = 3) : upS true (d + 1) q cx s = s0 true d (s0 true d q (m6 cx (j8 q.1 q.2 5 s.value)) s.body) (m6 cx (j8 (s0 true d q (m6 cx (j8 q.1 q.2 5 s.value)) s.body).1 (s0 true d q (m6 cx (j8 q.1 q.2 5 s.value)) s.body).2 5 s.value)) s.els := by
 rw [U7, on0 (by omega) (by omega)]
 unfold T8
 simp only [if_pos k, if_true]
theorem up4 {q : D3} (k : s.kind = 4) (h2 : s.els = []) : upS b (d + 1) q cx s = s0 b d q cx s.body := by
 rw [U7, on0 (by omega) (by omega), h2]
 unfold T8
 simp only [if_neg (show ¬ s.kind = 3 by omega)]
 rfl
theorem U8 {q : D3} {ss : List b5} {k : Nat} (hk : k < ss.length) : s0 b d q cx (ss.take (k + 1)) = upS b d (s0 b d q cx (ss.take k)) cx (ss.getD k bF8) := by
 unfold s0
 rw [m0 _ _ hk, List.foldl_append, f7 hk]; rfl
theorem al4 {nv na d k : Nat} {ss : List b5} (hs : ss.all (e5 nv na (d + 1)) = true) (hk : k < ss.length) (k3 : ¬ (ss.getD k bF8).kind = 3) : (ss.getD k bF8).els = [] ∧ (¬ (ss.getD k bF8).kind = 4 → (ss.getD k bF8).body = []) := by
 have h0 := bG4.1 hs _ (bH8 hk)
 rw [← f7 (d := bF8) hk] at h0
 rw [e5, bF9] at h0
 have h1 := h0.1
 unfold i7 at h1
 by_cases k4 : (ss.getD k bF8).kind = 4
 ·rw [if_pos (.inr k4), if_pos k4] at h1
  simp only [bF9, decide_eq_true_eq] at h1
  exact ⟨bI8 h1.2.1.1.1.1, fun h => absurd k4 h⟩
 ·rw [if_neg (by omega)] at h1
  simp only [bF9, decide_eq_true_eq] at h1
  exact ⟨bI8 h1.1.1.2, fun _ => bI8 h1.1.1.1⟩
section
variable {nv na d k : Nat} {ss : List b5} {q : D3} {cx : Int}
theorem rn1 (hs : ss.all (e5 nv na (d + 1)) = true) (hk : k < ss.length) (k1 : (ss.getD k bF8).kind = 1) : s0 true (d + 1) q cx (ss.take (k + 1)) = ((s0 true (d + 1) q cx (ss.take k)).1.set (ss.getD k bF8).target.toNat (m6 (m6 ((s0 true (d + 1) q cx (ss.take k)).1.getD (ss.getD k bF8).target.toNat 0) (j8 (s0 true (d + 1) q cx (ss.take k)).1 (s0 true (d + 1) q cx (ss.take k)).2 5 (ss.getD k bF8).value)) cx), (s0 true (d + 1) q cx (ss.take k)).2) := by
 have h1 := al4 hs hk (by omega)
 rw [U8 hk, up1 (h1.2 (by omega)) h1.1]
 exact on1 k1
theorem rn2 (hs : ss.all (e5 nv na (d + 1)) = true) (hk : k < ss.length) (k2 : (ss.getD k bF8).kind = 2) : s0 true (d + 1) q cx (ss.take (k + 1)) = ((s0 true (d + 1) q cx (ss.take k)).1, (s0 true (d + 1) q cx (ss.take k)).2.set (ss.getD k bF8).target.toNat (m6 (m6 (m6 ((s0 true (d + 1) q cx (ss.take k)).2.getD (ss.getD k bF8).target.toNat 0) (j8 (s0 true (d + 1) q cx (ss.take k)).1 (s0 true (d + 1) q cx (ss.take k)).2 5 (ss.getD k bF8).value)) (j8 (s0 true (d + 1) q cx (ss.take k)).1 (s0 true (d + 1) q cx (ss.take k)).2 5 (ss.getD k bF8).index)) cx)) := by
 have h1 := al4 hs hk (by omega)
 rw [U8 hk, up1 (h1.2 (by omega)) h1.1]
 exact on2 k2
theorem rn3 (hk : k < ss.length) (k3 : (ss.getD k bF8).kind = 3) : s0 true (d + 1) q cx (ss.take (k + 1)) = s0 true d (s0 true d (s0 true (d + 1) q cx (ss.take k)) (m6 cx (j8 (s0 true (d + 1) q cx (ss.take k)).1 (s0 true (d + 1) q cx (ss.take k)).2 5 (ss.getD k bF8).value)) (ss.getD k bF8).body) (m6 cx (j8 (s0 true d (s0 true (d + 1) q cx (ss.take k)) (m6 cx (j8 (s0 true (d + 1) q cx (ss.take k)).1 (s0 true (d + 1) q cx (ss.take k)).2 5 (ss.getD k bF8).value)) (ss.getD k bF8).body).1 (s0 true d (s0 true (d + 1) q cx (ss.take k)) (m6 cx (j8 (s0 true (d + 1) q cx (ss.take k)).1 (s0 true (d + 1) q cx (ss.take k)).2 5 (ss.getD k bF8).value)) (ss.getD k bF8).body).2 5 (ss.getD k bF8).value)) (ss.getD k bF8).els := by
 rw [U8 hk, up3 k3]
theorem rn4 (hs : ss.all (e5 nv na (d + 1)) = true) (hk : k < ss.length) (k4 : (ss.getD k bF8).kind = 4) : s0 true (d + 1) q cx (ss.take (k + 1)) = s0 true d (s0 true (d + 1) q cx (ss.take k)) cx (ss.getD k bF8).body := by
 rw [U8 hk, up4 k4 (al4 hs hk (by omega)).1]
theorem rn0 (hs : ss.all (e5 nv na (d + 1)) = true) (hk : k < ss.length) (k1 : ¬ (ss.getD k bF8).kind = 1) (k2 : ¬ (ss.getD k bF8).kind = 2) (k3 : ¬ (ss.getD k bF8).kind = 3) (k4 : ¬ (ss.getD k bF8).kind = 4) : s0 true (d + 1) q cx (ss.take (k + 1)) = s0 true (d + 1) q cx (ss.take k) := by
 have h1 := al4 hs hk k3
 rw [U8 hk, up1 (h1.2 k4) h1.1, on0 k1 k2]
theorem a64 (hk : ss.length ≤ k) : s0 true (d + 1) q cx ss = s0 true (d + 1) q cx (ss.take k) := by rw [bG9 hk]
theorem aA6 {q r : D3} {s : b5} (h : Y5 q r) (hv : q.1.length = nv) (ha : q.2.length = na) (hh : C3 nv na s = true) (k : ¬ s.kind = 4) : b9 r.1.length r.2.length 5 s.value = true := by rw [h.1, h.2, hv, ha]; exact t6 hh k
theorem bo7 {q r : D3} {s : b5} (h : Y5 q r) (hv : q.1.length = nv) (ha : q.2.length = na) (hh : C3 nv na s = true) (k : s.kind = 2) : b9 r.1.length r.2.length 5 s.index = true := by rw [h.1, h.2, hv, ha]; exact ar5 hh k
end
end
abbrev raC (vs ars : List Int) (d : Nat) (bd ss : List b5) (cx : Int) : c8 := ⟨206, [pA 0, .ref 3, iA cx], [.row 3 (.ints vs), .row 3 (.ints ars), dT bd, dT ss], [.row 3 (.ints (s0 true d (vs, ars) cx ss).1), .row 3 (.ints (s0 true d (vs, ars) cx ss).2), dT bd, dT ss], .tup []⟩
abbrev U4 (d : Nat) (ss : List b5) (vs : List Int) (ars : List Int) (cx : Int) (k : Nat) := s0 true d (s0 true (d + 1) (vs, ars) cx (bG3 k ss)) (m6 cx (j8 (s0 true (d + 1) (vs, ars) cx (bG3 k ss)).fst (s0 true (d + 1) (vs, ars) cx (bG3 k ss)).snd 5 (ss.getD k bF8).value)) (ss.getD k bF8).body
abbrev m5 (d : Nat) (ss : List b5) (vs : List Int) (ars : List Int) (cx : Int) (k : Nat) := s0 true (d + 1) (vs, ars) cx (bG3 k ss)
abbrev aT5 (d : Nat) (ss : List b5) (vs : List Int) (ars : List Int) (cx : Int) (k : Nat) := s0 true d (U4 d ss vs ars cx k) (m6 cx (j8 (U4 d ss vs ars cx k).fst (U4 d ss vs ars cx k).snd 5 (ss.getD k bF8).value)) (ss.getD k bF8).els
abbrev am7 (cx : Int) (k : Nat) (r0 : List (Nat × AV)) : List (Nat × AV) := (1, .ref 3) :: (2, iA cx) :: (3, .ptr 4 0) :: (6, iA (k : Int)) :: r0
theorem ax2 (nv na d : Nat) (bd ss : List b5) (ih : ∀ (vs ars : List Int) (tt : List b5) (cx : Int), 0 < ss.length → vs.length = nv → ars.length = na → tt.all (e5 nv na d) = true → c8.ok Try.prog (raC vs ars d bd tt cx))
    (vs ars : List Int) (cx : Int) (hv : vs.length = nv) (ha : ars.length = na) (hs : ss.all (e5 nv na (d + 1)) = true) : c8.ok Try.prog (raC vs ars (d + 1) bd ss cx) := by
  refine z7 94 Try.func206 [.row 3 (D.ints vs), .row 3 (D.ints ars), dT bd, dT ss] [(0, pA 0), (1, .ref 3), (2, iA cx)] fun G => ?_; have hlen : ss.length ≤ 9223372036854775807 := G.len 3 (d := .stmts ss) (by kernel_rfl); refine wp_seq (d7 G b8 (rg 5) [.row 3 (D.ints vs), .row 3 (D.ints ars), dT bd, dT ss, .box (pL 0)] [(1, .ref 3), (2, iA cx), (3, .ptr 4 0)] fun G => b0 (wp_seq (y5 G b8 [(1, .ref 3), (2, iA cx), (3, .ptr 4 0), (6, iA 0)] fun G => b0 (wp_block ?_)))); refine l7 (κ := Nat) (fun k => k ≤ ss.length) (fun k => ss.length - k) (fun k => [.row 3 (.ints (s0 true (d + 1) (vs, ars) cx (ss.take k)).1), .row 3 (.ints (s0 true (d + 1) (vs, ars) cx (ss.take k)).2), dT bd, dT ss, .box (pL 0)]) (fun k => [(1, .ref 3), (2, iA cx), (3, .ptr 4 0), (6, iA k)]) 0 (by omega) (l9.at G _ _) ?_; clear G; intro k ρ a w hp G; replace G := l9.at G [.row 3 (D.ints (m5 d ss vs ars cx k).fst), .row 3 (D.ints (m5 d ss vs ars cx k).snd), dT bd, dT ss, .box (pL 0)] (am7 cx k []); have hsh : Y5 (vs, ars) (s0 true (d + 1) (vs, ars) cx (ss.take k)) := aa5; refine wp_seq (wp_seq (c7 G b8 [(11, bA (decide ((k : Int) < ss.length)))] fun G => b0 (Q7 G (fun h0 q0 => ?_) fun h0 q0 => ?_)))
  · refine wp_exit (l6 (l6 (l5 ?_))); exact bv3 G (rg 4) (by show _ = mR (rg 4) [.row 3 (D.ints (s0 true (d + 1) (vs, ars) cx ss).fst), .row 3 (D.ints (s0 true (d + 1) (vs, ars) cx ss).snd), dT bd, dT ss]; have e1 : ((s0 true (d + 1) (vs, ars) cx ss).fst : List Int) = ((m5 d ss vs ars cx k).fst) := (congrArg Prod.fst (a64 (by omega))); have e2 : ((s0 true (d + 1) (vs, ars) cx ss).snd : List Int) = ((m5 d ss vs ars cx k).snd) := (congrArg Prod.snd (a64 (by omega))); (first | rw [e1, e2] | simp only [e1, e2]) <;> rfl)
  ·
   refine wp_skip (b0 (wp_seq (wp_block (wp_seq (P5 G b8 [0, 1, 2, 3, 4, 29, 30, 31, 32, 37] [.row 3 (D.ints (m5 d ss vs ars cx k).fst), .row 3 (D.ints (m5 d ss vs ars cx k).snd), dT bd, dT ss, .box (pL 0), dE (ss.getD k bF8).index.kids, dE (ss.getD k bF8).value.kids, dT (ss.getD k bF8).body, dT (ss.getD k bF8).els, .box (sL (ss.getD k bF8) 5)] (am7 cx k [(7, .ptr 9 0)]) (iX k k ss.length []) (iK (by omega) bG8) fun G => b0 (wp_seq (c7 G b8 [(19, iA (ss.getD k bF8).kind)] fun G => b0 (wp_block (wp_seq (c7 G b8 [(20, bA ((ss.getD k bF8).kind == 1))] fun G => b0 (L5 G (fun h1 q1 => ?_) fun h1 q1 => ?_)))))))))))
   ·
    refine wp_seq (c7 G b8 [(40, bA ((ss.getD k bF8).kind == 2))] fun G => b0 (L5 G (fun h2 q2 => ?_) fun h2 q2 => ?_))
    ·
     refine wp_seq (c7 G b8 [(65, bA ((ss.getD k bF8).kind == 3))] fun G => b0 (L5 G (fun h3 q3 => ?_) fun h3 q3 => ?_))
     ·
      refine wp_seq (c7 G b8 [(87, bA ((ss.getD k bF8).kind == 4))] fun G => b0 (L5 G (fun h4 q4 => ?_) fun h4 q4 => ?_))
      · refine wp_skip (j4 (j4 (b0 (P5 G b8 (rg 5) [.row 3 (D.ints (m5 d ss vs ars cx k).fst), .row 3 (D.ints (m5 d ss vs ars cx k).snd), dT bd, dT ss, .box (pL 0)] [(1, .ref 3), (2, iA cx), (3, .ptr 4 0), (6, iA ((k : Int) + 1))] [wO ((k : Int) + 1)] (o1 (by omega)) fun G => b0 ?_)))); exact N8 G (k + 1) (by omega) (by omega) (rg 5) (by have e1 : ((s0 true (d + 1) (vs, ars) cx (bG3 (k + 1) ss)).fst : List Int) = ((m5 d ss vs ars cx k).fst) := (congrArg Prod.fst (rn0 hs (by omega) (by omega) (by omega) (by omega) (by omega))); have e2 : ((s0 true (d + 1) (vs, ars) cx (bG3 (k + 1) ss)).snd : List Int) = ((m5 d ss vs ars cx k).snd) := (congrArg Prod.snd (rn0 hs (by omega) (by omega) (by omega) (by omega) (by omega))); (first | rw [e1, e2] | simp only [e1, e2]) <;> rfl)
      · refine d7 G (n8 4 [0, 1, 2, 7] (ih ((m5 d ss vs ars cx k).fst) ((m5 d ss vs ars cx k).snd) ((ss.getD k bF8).body) cx (by omega) (hsh.1.trans hv) (hsh.2.trans ha) ((G5 hs (by omega)).2.1))) (rg 5) [.row 3 (D.ints (s0 true d (m5 d ss vs ars cx k) cx (ss.getD k bF8).body).fst), .row 3 (D.ints (s0 true d (m5 d ss vs ars cx k) cx (ss.getD k bF8).body).snd), dT bd, dT ss, .box (pL 0)] (am7 cx k []) fun G => j4 (j4 (b0 (C1 G b8 [(6, iA ((k : Int) + 1))] [wO ((k : Int) + 1)] (o1 (by omega)) fun G => b0 ?_))); exact N8 G (k + 1) (by omega) (by omega) (rg 5) (by have e1 : ((s0 true (d + 1) (vs, ars) cx (bG3 (k + 1) ss)).fst : List Int) = ((s0 true d (m5 d ss vs ars cx k) cx (ss.getD k bF8).body).fst) := (congrArg Prod.fst (rn4 hs (by omega) (by omega))); have e2 : ((s0 true (d + 1) (vs, ars) cx (bG3 (k + 1) ss)).snd : List Int) = ((s0 true d (m5 d ss vs ars cx k) cx (ss.getD k bF8).body).snd) := (congrArg Prod.snd (rn4 hs (by omega) (by omega))); (first | rw [e1, e2] | simp only [e1, e2]) <;> rfl)
     · refine wp_seq (ap1 G (s7 (j5 7 [0, 1, 2, 6] (c8.lend (L1 ((m5 d ss vs ars cx k).fst) ((m5 d ss vs ars cx k).snd) bd ((ss.getD k bF8).value) (aA6 hsh hv ha (G5 hs (by omega)).1 (by omega))) [.row 3, .row 3]) (j5 9 [0, 1, 2, 7] (ih ((m5 d ss vs ars cx k).fst) ((m5 d ss vs ars cx k).snd) ((ss.getD k bF8).body) (m6 cx (j8 (m5 d ss vs ars cx k).fst (m5 d ss vs ars cx k).snd 5 (ss.getD k bF8).value)) (by omega) (hsh.1.trans hv) (hsh.2.trans ha) ((G5 hs (by omega)).2.1)) s6)) fz []) [0, 0, 2, 0, 0, 0, 32, 112, 248, 511] (rg 10) [.row 3 (D.ints (U4 d ss vs ars cx k).fst), .row 3 (D.ints (U4 d ss vs ars cx k).snd), dT bd, dT ss, .box (pL 0), dE (ss.getD k bF8).index.kids, dE (ss.getD k bF8).value.kids, dT (ss.getD k bF8).body, dT (ss.getD k bF8).els, .box (sL (ss.getD k bF8) 5)] (am7 cx k [(7, .ptr 9 0)]) fun G => b0 (ap1 G (s7 (j5 7 [0, 1, 2, 6] (c8.lend (L1 ((U4 d ss vs ars cx k).fst) ((U4 d ss vs ars cx k).snd) bd ((ss.getD k bF8).value) (aA6 (hsh.trans aa5) hv ha (G5 hs (by omega)).1 (by omega))) [.row 3, .row 3]) (j5 9 [0, 1, 2, 8] (ih ((U4 d ss vs ars cx k).fst) ((U4 d ss vs ars cx k).snd) ((ss.getD k bF8).els) (m6 cx (j8 (U4 d ss vs ars cx k).fst (U4 d ss vs ars cx k).snd 5 (ss.getD k bF8).value)) (by omega) ((hsh.trans aa5).1.trans hv) ((hsh.trans aa5).2.trans ha) ((G5 hs (by omega)).2.2)) s6)) fz []) [0, 0, 2, 0, 0, 0, 32, 112, 248, 511] (rg 5) [.row 3 (D.ints (aT5 d ss vs ars cx k).fst), .row 3 (D.ints (aT5 d ss vs ars cx k).snd), dT bd, dT ss, .box (pL 0)] (am7 cx k []) fun G => j4 (j4 (b0 (C1 G b8 [(6, iA ((k : Int) + 1))] [wO ((k : Int) + 1)] (o1 (by omega)) fun G => b0 ?_))))); exact N8 G (k + 1) (by omega) (by omega) (rg 5) (by have e1 : ((s0 true (d + 1) (vs, ars) cx (bG3 (k + 1) ss)).fst : List Int) = ((aT5 d ss vs ars cx k).fst) := (congrArg Prod.fst (rn3 (by omega) (by omega))); have e2 : ((s0 true (d + 1) (vs, ars) cx (bG3 (k + 1) ss)).snd : List Int) = ((aT5 d ss vs ars cx k).snd) := (congrArg Prod.snd (rn3 (by omega) (by omega))); (first | rw [e1, e2] | simp only [e1, e2]) <;> rfl)
    · refine L7 G (s7 (j5 13 [0, 1, 2, 6] (c8.lend (L1 ((m5 d ss vs ars cx k).fst) ((m5 d ss vs ars cx k).snd) bd ((ss.getD k bF8).value) (aA6 hsh hv ha (G5 hs (by omega)).1 (by omega))) [.row 3, .row 3]) (j5 18 [0, 1, 2, 5] (c8.lend (L1 ((m5 d ss vs ars cx k).fst) ((m5 d ss vs ars cx k).snd) bd ((ss.getD k bF8).index) (bo7 hsh hv ha (G5 hs (by omega)).1 (by omega))) [.row 3, .row 3]) s6)) fz []) [0, 1, 0, 4, 0, 16, 0, 64, 240, 496, 0, 0, 2048, 7168, 16368, 0, 0, 65536, 244736, 524272, 0, 2097136, 4194303, 8388607] (rg 5) [.row 3 (D.ints (m5 d ss vs ars cx k).fst), .row 3 (D.ints ((m5 d ss vs ars cx k).snd.set (ss.getD k bF8).target.toNat (m6 (m6 (m6 ((m5 d ss vs ars cx k).snd.getD (ss.getD k bF8).target.toNat 0) (j8 (m5 d ss vs ars cx k).fst (m5 d ss vs ars cx k).snd 5 (ss.getD k bF8).value)) (j8 (m5 d ss vs ars cx k).fst (m5 d ss vs ars cx k).snd 5 (ss.getD k bF8).index)) cx))), dT bd, dT ss, .box (pL 0)] (am7 cx k []) (iX ((ss.getD k bF8).target) ((ss.getD k bF8).target.toNat) ((s0 true (d + (1 : Nat)) (vs, ars) cx (bG3 k ss)).snd.length) (iX ((ss.getD k bF8).target) ((ss.getD k bF8).target.toNat) ((s0 true (d + (1 : Nat)) (vs, ars) cx (bG3 k ss)).snd.length) [])) (iK (by have h9 := ar6 (G5 (k := k) hs (by omega)).1 (by omega); have h8 := hsh.2.trans ha; omega) (iK (by have h9 := ar6 (G5 (k := k) hs (by omega)).1 (by omega); have h8 := hsh.2.trans ha; omega) bG8)) fun G => j4 (j4 (b0 (C1 G b8 [(6, iA ((k : Int) + 1))] [wO ((k : Int) + 1)] (o1 (by omega)) fun G => b0 ?_))); exact N8 G (k + 1) (by omega) (by omega) (rg 5) (by have e2 : ((s0 true (d + 1) (vs, ars) cx (bG3 (k + 1) ss)).snd : List Int) = ((m5 d ss vs ars cx k).snd.set (ss.getD k bF8).target.toNat (m6 (m6 (m6 ((m5 d ss vs ars cx k).snd.getD (ss.getD k bF8).target.toNat 0) (j8 (m5 d ss vs ars cx k).fst (m5 d ss vs ars cx k).snd 5 (ss.getD k bF8).value)) (j8 (m5 d ss vs ars cx k).fst (m5 d ss vs ars cx k).snd 5 (ss.getD k bF8).index)) cx)) := (congrArg Prod.snd (rn2 hs (by omega) (by omega))); have h9 := rn2 (q := (vs, ars)) (cx := cx) hs (show k < _ by omega) (by omega); rw [e2, h9] <;> rfl)
   · refine L7 G (n8 13 [0, 1, 2, 6] (c8.lend (L1 ((m5 d ss vs ars cx k).fst) ((m5 d ss vs ars cx k).snd) bd ((ss.getD k bF8).value) (aA6 hsh hv ha (G5 hs (by omega)).1 (by omega))) [.row 3, .row 3])) [0, 1, 0, 4, 0, 16, 0, 64, 240, 496, 0, 0, 2048, 7168, 16368, 0, 65520, 131071, 262143] (rg 5) [.row 3 (D.ints ((m5 d ss vs ars cx k).fst.set (ss.getD k bF8).target.toNat (m6 (m6 ((m5 d ss vs ars cx k).fst.getD (ss.getD k bF8).target.toNat 0) (j8 (m5 d ss vs ars cx k).fst (m5 d ss vs ars cx k).snd 5 (ss.getD k bF8).value)) cx))), .row 3 (D.ints (m5 d ss vs ars cx k).snd), dT bd, dT ss, .box (pL 0)] (am7 cx k []) (iX ((ss.getD k bF8).target) ((ss.getD k bF8).target.toNat) ((s0 true (d + (1 : Nat)) (vs, ars) cx (bG3 k ss)).fst.length) (iX ((ss.getD k bF8).target) ((ss.getD k bF8).target.toNat) ((s0 true (d + (1 : Nat)) (vs, ars) cx (bG3 k ss)).fst.length) [])) (iK (by have h9 := ar4 (G5 (k := k) hs (by omega)).1 (by omega); have h8 := hsh.1.trans hv; omega) (iK (by have h9 := ar4 (G5 (k := k) hs (by omega)).1 (by omega); have h8 := hsh.1.trans hv; omega) bG8)) fun G => j4 (j4 (b0 (C1 G b8 [(6, iA ((k : Int) + 1))] [wO ((k : Int) + 1)] (o1 (by omega)) fun G => b0 ?_))); exact N8 G (k + 1) (by omega) (by omega) (rg 5) (by have e1 : ((s0 true (d + 1) (vs, ars) cx (bG3 (k + 1) ss)).fst : List Int) = ((m5 d ss vs ars cx k).fst.set (ss.getD k bF8).target.toNat (m6 (m6 ((m5 d ss vs ars cx k).fst.getD (ss.getD k bF8).target.toNat 0) (j8 (m5 d ss vs ars cx k).fst (m5 d ss vs ars cx k).snd 5 (ss.getD k bF8).value)) cx)) := (congrArg Prod.fst (rn1 hs (by omega) (by omega))); have h9 := rn1 (q := (vs, ars)) (cx := cx) hs (show k < _ by omega) (by omega); rw [e1, h9] <;> rfl)
theorem aR5 (nv na : Nat) (bd : List b5) : ∀ (d : Nat) (vs ars : List Int) (ss : List b5) (cx : Int), vs.length = nv → ars.length = na → ss.all (e5 nv na d) = true → c8.ok Try.prog (raC vs ars d bd ss cx) := by
 intro d
 induction d with
 | zero =>
  intro vs ars ss cx hv ha hs
  have h0 : ss = [] := by
   cases ss with
   | nil => rfl
   | cons a r => simp [e5] at hs
  subst h0
  exact ax2 nv na 0 bd [] (fun _ _ _ _ h => absurd h (by simp)) vs ars cx hv ha rfl
 | succ d ih => intro vs ars ss cx hv ha hs; exact ax2 nv na d bd ss (fun vs ars tt cx _ h1 h2 h3 => ih vs ars tt cx h1 h2 h3) vs ars cx hv ha hs
theorem aR4 (vs ars : List Int) (b : List b5) (hs : b.all (e5 vs.length ars.length 5) = true) : c8.ok Try.prog ⟨206, [pA 0, .ref 2, iA 0], [.row 3 (.ints vs), .row 3 (.ints ars), dT b], [.row 3 (.ints (s0 true 5 (vs, ars) 0 b).1), .row 3 (.ints (s0 true 5 (vs, ars) 0 b).2), dT b], .tup []⟩ :=
 c8.dup (S := [.row 3 (.ints vs), .row 3 (.ints ars), dT b]) (S' := [.row 3 (.ints (s0 true 5 (vs, ars) 0 b).1), .row 3 (.ints (s0 true 5 (vs, ars) 0 b).2), dT b]) (d := .stmts b) (i := 2) (aR5 _ _ b 5 vs ars b 0 rfl rfl hs) rfl rfl rfl (fun ρ h => by simp only [AV.vals, AV.val]; rw [show ρ 3 = ρ 2 from h]) rfl
def okI (p : b7) : Bool := j9 p && decide ((ckR ⟨(ah1 p).1, (ah1 p).2, p.body⟩ false).1 = 0)
def T9 (p : b7) : b7 := if okI p = true then ⟨(ah1 p).1, (ah1 p).2, p.body⟩ else ⟨[], [], []⟩
theorem ap2 {p : b7} (h : j9 p = true) : p.vars.length + p.arrays.length ≤ 14 := by
 unfold j9 t5 at h
 simp only [bF9, decide_eq_true_eq] at h
 omega
section
variable {p : b7} {q : D3} {b : List b5} {X : D3}
theorem P4 (h : (decide (X.1 = q.1) && (decide (X.2 = q.2) && o8 b b)) = true) : X = q := by
 simp only [bF9, decide_eq_true_eq] at h
 exact Prod.ext h.1 h.2.1
theorem aO6 (h : (decide (X.1 = q.1) && (decide (X.2 = q.2) && o8 b b)) = false) : ¬ X = q := fun e => by
 subst e
 rw [(B1 b b).2 rfl] at h
 simp at h
theorem ba0 {f : Bool} (hp : j9 p = true) (h : U1 p.body (p.vars, p.arrays) q) (hne : ¬ s0 f 5 q 0 p.body = q) : 100 - au2 (s0 f 5 q 0 p.body) < 100 - au2 q := by
 have h1 := X4 (f := f) h
 have h2 := aU8 aa5 h.2.1 h1.2.1 an6 hne
 have h3 := aG4 h1.2.1
 have h4 := ap2 hp
 rw [h1.1.1, h1.1.2] at h3
 simp only at h3
 omega
theorem bh8 (hb : p.size ≤ 1048576) (h : U1 p.body (p.vars, p.arrays) q) : q.1.length + q.2.length + r6 p.body ≤ 1048576 := by
 have h1 := h.1.1
 have h2 := h.1.2
 unfold b7.size at hb
 simp only at h1 h2
 omega
theorem a02 (hp : j9 p = true) (h : U1 p.body (p.vars, p.arrays) q) : p.body.all (e5 q.1.length q.2.length 5) = true := by
 rw [h.1.1, h.1.2]; exact (ag7 hp).1
theorem a78 (h : j9 p = false) : okI p = false := by unfold okI; rw [h]; rfl
theorem a79 (hp : j9 p = true) (h : U1 p.body (p.vars, p.arrays) q) (hf : s0 true 5 q 0 p.body = q) : okI p = decide ((ckR ⟨q.1, q.2, p.body⟩ false).1 = 0) := by
 unfold okI; rw [hp, aX2 hp (ap2 hp) h hf]; rfl
theorem aX1 (h : okI p = false) : T9 p = ⟨[], [], []⟩ := by unfold T9; rw [h]; rfl
theorem bi0 (hp : j9 p = true) (h : U1 p.body (p.vars, p.arrays) q) (hf : s0 true 5 q 0 p.body = q) (hk : okI p = true) : T9 p = ⟨q.1, q.2, p.body⟩ := by unfold T9; rw [hk, aX2 hp (ap2 hp) h hf]; rfl
theorem bw0 (hp : j9 p = true) (h : U1 p.body (p.vars, p.arrays) q) (hf : s0 true 5 q 0 p.body = q) (hc : (ckR ⟨q.1, q.2, p.body⟩ false).1 = 0) : okI p = true := by rw [a79 hp h hf]; exact decide_eq_true hc
theorem bw1 (hp : j9 p = true) (h : U1 p.body (p.vars, p.arrays) q) (hf : s0 true 5 q 0 p.body = q) (hc : ¬ (ckR ⟨q.1, q.2, p.body⟩ false).1 = 0) : okI p = false := by rw [a79 hp h hf]; exact decide_eq_false hc
end
abbrev av4 (p : b7) : List It := [dI p.vars, dI p.arrays, dT p.body, .row 3 (D.ints (T9 p).vars), .row 3 (D.ints (T9 p).arrays), .tree (D.stmts (T9 p).body)]
abbrev ai9 : It := .box [.v (.slice none 0 0), .v (.slice none 0 0), .v (.slice none 0 0)]
abbrev an1 : It := .box [.ref 4, .ref 5, .tref 6]
abbrev ab8 (p : b7) (q : D3) (r0 : List It) : List It := .row 3 (D.ints q.fst) :: .row 3 (D.ints q.snd) :: .tree (D.stmts p.body) :: r0
abbrev U2 (r0 : List (Nat × AV)) : List (Nat × AV) := (2, .ptr 3 0) :: (3, bA false) :: (4, .ptr 7 0) :: r0
abbrev I7 (p : b7) (r0 : List It) : List It := dI p.vars :: dI p.arrays :: dT p.body :: r0
theorem au8 (p : b7) (hb : p.size ≤ 1048576) : c8.ok Try.prog ⟨162, [pA 0], pS p, pS p ++ oP (T9 p), .tup [oA 3, bA (okI p)]⟩ := by
  refine z7 33 Try.func162 (I7 p []) [(0, pA 0)] fun G => ?_
  have hb1 : p.vars.length ≤ 1048576 ∧ p.arrays.length ≤ 1048576 ∧ r6 p.body ≤ 1048576 := by unfold b7.size at hb; omega
  refine wp_seq (d7 G b8 [0, 1, 2, 3, 11] (I7 p [.box (pL 0), ai9]) [(1, .ptr 3 0), (2, .ptr 4 0), (3, bA false)] fun G => b0 (wp_seq (wp_seq (c7 G (n8 1 [0, 1, 2] (L2 p (by omega))) [(10, .v (.bool !j9 p))] fun G => b0 ?_)))); cases h0 : (!j9 p)
  ·
   have q0 : (j9 p) = true := (Eq.mp (bG7 _) h0); refine rF G _ h0 (wp_skip (b0 (wp_seq (d7 G (n8 1 [0, 1, 2] (ai0 p.vars p.arrays p.body (by assumption))) [0, 1, 2, 4, 13, 14, 15, 21] (I7 p [ai9, .row 3 (D.ints p.vars), .row 3 (D.ints p.arrays), .tree (D.stmts p.body), an1]) (U2 []) fun G => b0 (wp_seq (wp_block ?_)))))); refine l7 (κ := D3) (fun q => U1 p.body (p.vars, p.arrays) q) (fun q => 100 - au2 q) (fun q => (I7 p [ai9, .row 3 (.ints q.1), .row 3 (.ints q.2), .tree (D.stmts p.body), an1])) (fun q => (U2 [])) ((p.vars, p.arrays)) (ab2 (aC6 (by with_reducible assumption))) (l9.at G _ _) ?_; clear G; intro q ρ a w hp G; replace G := l9.at G (I7 p (ai9 :: (ab8 p q [an1]))) (U2 []); refine wp_block (wp_seq (d7 G (n8 1 [4, 5, 6] (c8.lend (ai0 q.fst q.snd p.body (bh8 hb (by with_reducible assumption))) [.row 3, .row 3, .tree])) [0, 1, 2, 3, 4, 5, 6, 7, 16, 17, 18, 24] (I7 p (ai9 :: (ab8 p q (an1 :: (ab8 p q [.box [.ref 8, .ref 9, .tref 10]]))))) (U2 [(5, .ptr 11 0)]) fun G => b0 (wp_seq (d7 G (n8 3 [8, 9, 10] (c8.lend (aR4 q.fst q.snd p.body (a02 (by with_reducible assumption) (by with_reducible assumption))) [.no, .no, .tree])) (rg 12) (I7 p (ai9 :: (ab8 p q [an1, .row 3 (D.ints (s0 true 5 q 0 p.body).fst), .row 3 (D.ints (s0 true 5 q 0 p.body).snd), .tree (D.stmts p.body), .box [.ref 8, .ref 9, .tref 10]]))) (U2 [(5, .ptr 11 0)]) fun G => b0 (wp_seq (wp_seq (y5 G (n8 2 [8, 9, 10, 4, 5, 6] (c8.lend (au7 ((s0 true 5 q 0 p.body).fst) ((s0 true 5 q 0 p.body).snd) p.body q.fst q.snd p.body) [.row 3, .row 3, .tree, .row 3, .row 3, .tree])) (U2 [(5, .ptr 11 0), (22, bA (decide ((s0 true 5 q 0 p.body).fst = q.fst) && (decide ((s0 true 5 q 0 p.body).snd = q.snd) && o8 p.body p.body)))]) fun G => b0 ?_))))))); cases h1 : (decide ((s0 true (5 : Nat) q (0 : Int) p.body).fst = q.fst) && (decide ((s0 true (5 : Nat) q (0 : Int) p.body).snd = q.snd) && o8 p.body p.body))
   · have q1 : (¬ ((s0 true 5 q 0 p.body).fst = q.fst)) ∨ ((¬ ((s0 true 5 q 0 p.body).snd = q.snd)) ∨ ((o8 p.body p.body) = false)) := Or.imp (fun hq => of_decide_eq_false hq) (fun hq => Or.imp (fun hq => of_decide_eq_false hq) (fun hq => (hq)) (bI6.1 hq)) (bI6.1 h1); refine rF G _ h1 (wp_skip (b0 (d7 G b8 [0, 1, 2, 3, 7, 8, 9, 10] (I7 p [ai9, .box [.ref 5, .ref 6, .tref 7], .row 3 (D.ints (s0 true 5 q 0 p.body).fst), .row 3 (D.ints (s0 true 5 q 0 p.body).snd), .tree (D.stmts p.body)]) [(2, .ptr 3 0), (3, bA false), (4, .ptr 4 0)] fun G => j4 (b0 ?_)))); exact N8 G (s0 true 5 q 0 p.body) (X4 (by with_reducible assumption)) (ba0 (by with_reducible assumption) (by with_reducible assumption) (aO6 (by with_reducible assumption))) [0, 1, 2, 3, 5, 6, 7, 4]
   ·
    have q1 : ((s0 true 5 q 0 p.body).fst = q.fst) ∧ (((s0 true 5 q 0 p.body).snd = q.snd) ∧ ((o8 p.body p.body) = true)) := And.imp (fun hq => of_decide_eq_true hq) (fun hq => And.imp (fun hq => of_decide_eq_true hq) (fun hq => (hq)) (bJ1.1 hq)) (bJ1.1 h1); refine rT G _ h1 (wp_exit (l6 ?_)); refine bk0 (by kernel_rfl) ?_; refine l6 (l5 (b0 (wp_seq (d7 G (n8 1 [4, 5, 6] (c8.lend (aE0 q.fst q.snd p.body (by omega)) [.row 3, .row 3, .tree])) (rg 8) (I7 p (ai9 :: (ab8 p q [an1]))) (U2 [(6, iA (ckR (b7.mk q.fst q.snd p.body) false).fst)]) fun G => b0 (wp_seq (wp_seq (c7 G b8 [(30, bA ((ckR (b7.mk q.fst q.snd p.body) false).fst != 0))] fun G => b0 (rcN G (fun h2 q2 => ?_) fun h2 q2 => ?_))))))))
    · refine wp_skip (b0 (wp_seq (d7 G b8 (rg 7) (I7 p (an1 :: (ab8 p q []))) [(2, .ptr 3 0), (3, bA true)] fun G => b0 (wp_ret ?_)))); exact V5 (.tup [.agg [.ref 4, .ref 5, .tref 6], bA true]) G [0, 1, 2, 4, 5, 6] (by have e1 : (okI p : Bool) = (true) := (bw0 (by with_reducible assumption) (by with_reducible assumption) (P4 (by with_reducible assumption)) (by with_reducible assumption)); (first | rw [e1] | simp only [e1]) <;> rfl) (by show _ = mR [0, 1, 2, 4, 5, 6] (av4 p); unfold av4; rw [bi0 (by with_reducible assumption) (by with_reducible assumption) (P4 (by with_reducible assumption)) (bw0 (by with_reducible assumption) (by with_reducible assumption) (P4 (by with_reducible assumption)) (by with_reducible assumption))] <;> rfl)
    · refine wp_seq (y5 G b8 (U2 []) fun G => b0 (wp_ret (c5 ?_))); obtain ⟨ρ, G⟩ := G.nil 8 3 (.ints []) 1 (I7 p (.box [.ref 8, .v (.slice none 0 0), .v (.slice none 0 0)] :: (ab8 p q [.box [.ref 4, .ref 5, .tref 6]]))) (U2 []); obtain ⟨ρ, G⟩ := G.nil 9 3 (.ints []) 1 (I7 p (.box [.ref 8, .ref 9, .v (.slice none 0 0)] :: (ab8 p q [.box [.ref 4, .ref 5, .tref 6], .row 3 (D.ints [])]))) (U2 []); obtain ⟨ρ, G⟩ := G.nilT 10 (.stmts []) (I7 p (.box [.ref 8, .ref 9, .tref 10] :: (ab8 p q [.box [.ref 4, .ref 5, .tref 6], .row 3 (D.ints []), .row 3 (D.ints [])]))) (U2 []); exact V5 (.tup [.agg [.ref 8, .ref 9, .tref 10], bA false]) G [0, 1, 2, 8, 9, 10] (by have e1 : (okI p : Bool) = (false) := (bw1 (by with_reducible assumption) (by with_reducible assumption) (P4 (by with_reducible assumption)) (by with_reducible assumption)); (first | rw [e1] | simp only [e1]) <;> rfl) (by show _ = mR [0, 1, 2, 8, 9, 10] (av4 p); unfold av4; rw [aX1 (bw1 (by with_reducible assumption) (by with_reducible assumption) (P4 (by with_reducible assumption)) (by with_reducible assumption))] <;> rfl)
  · have q0 : (j9 p) = false := (Eq.mp (bG6 _) h0); refine rT G _ h0 (wp_seq (y5 G b8 [(1, .ptr 3 0), (2, .ptr 4 0), (3, bA false)] fun G => b0 (wp_ret (c5 ?_)))); obtain ⟨ρ, G⟩ := G.nil 5 3 (.ints []) 1 (I7 p [.box (pL 0), .box [.ref 5, .v (.slice none 0 0), .v (.slice none 0 0)]]) [(1, .ptr 3 0), (2, .ptr 4 0), (3, bA false)]; obtain ⟨ρ, G⟩ := G.nil 6 3 (.ints []) 1 (I7 p [.box (pL 0), .box [.ref 5, .ref 6, .v (.slice none 0 0)], .row 3 (D.ints [])]) [(1, .ptr 3 0), (2, .ptr 4 0), (3, bA false)]; obtain ⟨ρ, G⟩ := G.nilT 7 (.stmts []) (I7 p [.box (pL 0), .box [.ref 5, .ref 6, .tref 7], .row 3 (D.ints []), .row 3 (D.ints [])]) [(1, .ptr 3 0), (2, .ptr 4 0), (3, bA false)]; exact V5 (.tup [.agg [.ref 5, .ref 6, .tref 7], bA false]) G [0, 1, 2, 5, 6, 7] (by have e1 : (okI p : Bool) = (false) := (a78 (by with_reducible assumption)); (first | rw [e1] | simp only [e1]) <;> rfl) (by show _ = mR [0, 1, 2, 5, 6, 7] (av4 p); unfold av4; rw [aX1 (a78 (by with_reducible assumption))] <;> rfl)
abbrev T1 : List Int := [3] ++ ([4] ++ ([2] ++ ([5] ++ [])))
abbrev viL : List Int := [0] ++ ([1] ++ ([0] ++ ([1] ++ ([2] ++ ([3] ++ [])))))
abbrev Q8 : List Int := [1] ++ ([2] ++ ([0] ++ ([1] ++ [])))
abbrev aiL : List Int := [0] ++ ([1] ++ ([0] ++ ([1] ++ ([3] ++ []))))
abbrev nbL : List Int := [2] ++ ([3] ++ ([1] ++ ([4] ++ [])))
def nsD (b : List UInt8) (l : List Int) (n : Nat) (k : Int) : List Int := (bH5 n).map fun (i : Nat) => nm b (k + (i : Int)) l
theorem X1 (b : List UInt8) (l : List Int) (n : Nat) (k : Int) : (nsD b l n k).length = n := by simp [nsD]
theorem a80 (b : List UInt8) (l : List Int) (n : Nat) (k : Int) : nsD b l (n + 1) k = nsD b l n k ++ [nm b (k + (n : Int)) l] := by
 unfold nsD; rw [List.range_succ, List.map_append]; rfl
def B4 (b : List UInt8) (k : Int) : Int := k + 1 + nm b k T1
def kp2 (b : List UInt8) (k : Int) : Int := B4 b k + 1 + nm b (B4 b k) Q8
def W6 (b : List UInt8) (k : Int) : List Int := nsD b viL (nm b k T1).toNat (k + 1)
def asD (b : List UInt8) (k : Int) : List Int := nsD b aiL (nm b (B4 b k) Q8).toNat (B4 b k + 1)
def G0 (b : List UInt8) (k : Int) : List b5 × Int := A1 (v8 b (W6 b k).length (asD b k).length 3) (nm b (kp2 b k) nbL).toNat (kp2 b k + 1)
def rwD (b : List UInt8) (k : Int) : b7 := ⟨W6 b k, asD b k, (G0 b k).1⟩
def fbP : b7 := ⟨[0, 1], [], [⟨1, 1, noE, ⟨2, 0, []⟩, 0, [], []⟩]⟩
def pgD (b : List UInt8) (k : Int) : b7 := if j9 (rwD b k) = true then rwD b k else fbP
section
variable (b : List UInt8) {k : Int}
theorem bq4 (hk : 0 ≤ k) (hk2 : k ≤ 1000000000) : 0 ≤ nm b k T1 ∧ nm b k T1 ≤ 5 := ax5 b (by simp) (by simp) hk hk2
theorem bw4 (hk : 0 ≤ k) (hk2 : k ≤ 1000000000) : 0 ≤ nm b k nbL ∧ nm b k nbL ≤ 4 := ax5 b (by simp) (by simp) hk hk2
theorem bq7 (hk : 0 ≤ k) (hk2 : k ≤ 1000000000) : 0 ≤ nm b k Q8 ∧ nm b k Q8 ≤ 2 := ax5 b (by simp) (by simp) hk hk2
theorem a91 (hk : 0 ≤ k) (hk2 : k ≤ 10000000) : k + 1 ≤ B4 b k ∧ B4 b k ≤ k + 6 := by
 have := bq4 b hk (by omega); unfold B4; omega
theorem aW9 (hk : 0 ≤ k) (hk2 : k ≤ 10000000) : k + 2 ≤ kp2 b k ∧ kp2 b k ≤ k + 9 := by
 have h1 := a91 b hk hk2
 have := bq7 b (k := B4 b k) (by omega) (by omega); unfold kp2; omega
theorem cS3 : cS 3 = 34170 ∧ cS 2 = 8442 := by decide
theorem bF5 (nv na : Nat) : Drw (v8 b nv na 3) 34170 := fun j h1 h2 => by
 have e := cS3.1
 have h3 := aG7 b nv na 3 j h1 (by omega)
 have h4 := aO1 b nv na 3 j h1 (by omega)
 omega
theorem aY7 (hk : 0 ≤ k) (hk2 : k ≤ 10000000) : kp2 b k ≤ (G0 b k).2 ∧ (G0 b k).2 ≤ k + 150000 ∧ r6 (G0 b k).1 ≤ 150000 := by
 have h1 := aW9 b hk hk2
 have h2 := bw4 b (k := kp2 b k) (by omega) (by omega)
 have h3 := aD3 (f := v8 b (W6 b k).length (asD b k).length 3) (by omega) (bF5 b _ _) (nm b (kp2 b k) nbL).toNat (kp2 b k + 1) (by omega) (by omega)
 unfold G0
 omega
theorem a39 (hk : 0 ≤ k) (hk2 : k ≤ 10000000) : (W6 b k).length ≤ 5 := by
 have := bq4 b hk (by omega); unfold W6; rw [X1]; omega
theorem bd4 (hk : 0 ≤ k) (hk2 : k ≤ 10000000) : (asD b k).length ≤ 2 := by
 have h1 := a91 b hk hk2
 have := bq7 b (k := B4 b k) (by omega) (by omega); unfold asD; rw [X1]; omega
theorem aP4 (hk : 0 ≤ k) (hk2 : k ≤ 10000000) : (pgD b k).size ≤ 160000 := by
 have h1 := aY7 b hk hk2
 have h2 := a39 b hk hk2
 have h3 := bd4 b hk hk2
 unfold pgD; split
 ·show (W6 b k).length + (asD b k).length + r6 (G0 b k).1 ≤ 160000
  omega
 ·decide
end
abbrev m2L : List Int := [0] ++ ([6] ++ ([1] ++ ([5] ++ ([2] ++ []))))
abbrev m3L : List Int := [-1] ++ ([12] ++ ([1] ++ ([9223372036854775807] ++ [])))
abbrev m4L : List Int := [-1] ++ ([256] ++ ([12] ++ ([1] ++ [])))
abbrev m5L : List Int := [1] ++ ([4] ++ ([-1] ++ ([2] ++ [])))
def kdS (s : b5) (x : Int) : b5 := ⟨x, s.target, s.index, s.value, s.count, s.body, s.els⟩
def tgS (s : b5) (x : Int) : b5 := ⟨s.kind, x, s.index, s.value, s.count, s.body, s.els⟩
def vvS (s : b5) (x : Int) : b5 := ⟨s.kind, s.target, s.index, ⟨s.value.kind, x, s.value.kids⟩, s.count, s.body, s.els⟩
def ctS (s : b5) (x : Int) : b5 := ⟨s.kind, s.target, s.index, s.value, x, s.body, s.els⟩
def mtD (b : List UInt8) (p : b7) (k : Int) : b7 × Int :=
 if pk b k 60 = 0 then (if 0 < p.vars.length then (⟨p.vars.set 0 (l1D b (k + 1)), p.arrays, p.body⟩, k + 1 + 2) else (p, k + 1))
 else if pk b k 60 = 1 then (⟨p.vars ++ bH1 (13 - p.vars.length) 1, p.arrays, p.body⟩, k + 1)
 else if pk b k 60 = 2 then (if 0 < p.body.length then (⟨p.vars, p.arrays, p.body.set 0 (kdS (p.body.getD 0 bF8) (nm b (k + 1) m2L))⟩, k + 1 + 1) else (p, k + 1))
 else if pk b k 60 = 3 then (if 0 < p.body.length then (⟨p.vars, p.arrays, p.body.set ((p.body.length : Int) - 1).toNat (tgS (p.body.getD ((p.body.length : Int) - 1).toNat bF8) (nm b (k + 1) m3L))⟩, k + 1 + 1) else (p, k + 1))
 else if pk b k 60 = 4 then (if 0 < p.body.length then (⟨p.vars, p.arrays, p.body.set 0 (vvS (p.body.getD 0 bF8) (nm b (k + 1) m4L))⟩, k + 1 + 1) else (p, k + 1))
 else if pk b k 60 = 5 then (if 0 < p.body.length then (⟨p.vars, p.arrays, p.body.set 0 (ctS (p.body.getD 0 bF8) (nm b (k + 1) m5L))⟩, k + 1 + 1) else (p, k + 1))
 else if pk b k 60 = 6 then (⟨[], [], []⟩, k + 1)
 else (p, k + 1)
def v5 (b : List UInt8) (k : Int) : b7 := if pk b (G0 b k).2 4 = 0 then pgD b k else if okI (pgD b k) = true then T9 (pgD b k) else pgD b k
theorem bh9 {p : b7} : (T9 p).size ≤ p.size := by
 unfold T9
 split
 ·have h := (ar0 (p := p) (by rename_i h; unfold okI at h; simp at h; exact h.1)).1
  show (ah1 p).1.length + (ah1 p).2.length + r6 p.body ≤ _
  unfold b7.size
  have h1 : (ah1 p).1.length = p.vars.length := h.1
  have h2 : (ah1 p).2.length = p.arrays.length := h.2
  omega
 ·simp [b7.size, r6]
theorem bo1 (b : List UInt8) {k : Int} (hk : 0 ≤ k) (hk2 : k ≤ 10000000) : (v5 b k).size ≤ 160000 := by
 have h1 := aP4 b hk hk2
 have h2 := bh9 (p := pgD b k)
 unfold v5
 (repeat' split) <;> omega
def j6 (c : List UInt8) : List UInt8 := c.take 2000
abbrev vaL : List Int := [0] ++ ([1] ++ ([2] ++ ([3] ++ ([255] ++ ([128] ++ ([7] ++ ([4] ++ ([100] ++ []))))))))
def ptD (b : List UInt8) (j : Int) (nv na : Nat) (at0 n : Int) (kd : UInt8) : Int :=
 if kd = 114 then pk b j 3 else if kd = 99 then nm b j vaL else if kd = 118 then pk b j nv else if kd = 97 then pk b j na else if kd = 111 then 4 + pk b j 7 else at0 + 1 + pk b j (n - at0 - 1)
def psD (b : List UInt8) (j : Int) (nv na : Nat) (at0 n : Int) (ks : List UInt8) (k : Nat) : List Int := (bH5 4).map fun i => if i < k then ptD b (j + i) nv na at0 n (ks.getD i 0) else 0
theorem aV9 (b : List UInt8) (j : Int) (nv na : Nat) (at0 n : Int) (ks : List UInt8) (k : Nat) : (psD b j nv na at0 n ks k).length = 4 := by simp [psD]
theorem a69 (b : List UInt8) (j : Int) (nv na : Nat) (at0 n : Int) (ks : List UInt8) {k : Nat} (hk : k < 4) : psD b j nv na at0 n ks (k + 1) = (psD b j nv na at0 n ks k).set k (ptD b (j + k) nv na at0 n (ks.getD k 0)) := by
 apply List.ext_getElem (by simp [aV9])
 intro i h1 h2
 rw [List.getElem_set]
 simp only [psD, List.getElem_map, List.getElem_range]
 by_cases e : k = i
 ·subst e; simp
 ·rw [if_neg e]
  have : (i < k + 1) ↔ (i < k) := by omega
  simp only [this]
structure t3 where
 vals : List Int
 arrs : List (List Int)
def I1 (l : List Int) : Bool := l.all fun n => decide (0 ≤ n) && decide (n ≤ 255)
def O5 (a : List Int) : Bool := decide (a.length = 4) && I1 a
def mfB (nv na : Nat) (m : t3) : Bool := decide (m.vals.length = nv) && (decide (m.arrs.length = na) && (I1 m.vals && m.arrs.all O5))
def Q6 (b : List UInt8) (j : Int) (n : Nat) : List Int := (bH5 n).map fun i : Nat => nm b (j + i) vaL
theorem aa3 (b : List UInt8) (j : Int) (n : Nat) : (Q6 b j n).length = n := by simp [Q6]
theorem bA8 (b : List UInt8) (j : Int) : Q6 b j 0 = [] := rfl
theorem az6 (b : List UInt8) (j : Int) (k : Nat) : Q6 b j (k + 1) = Q6 b j k ++ [nm b (j + k) vaL] := by
 unfold Q6; rw [List.range_succ, List.map_append]; rfl
def arD (b : List UInt8) (j : Int) (n : Nat) : List (List Int) := (bH5 n).map fun i : Nat => Q6 b (j + 4 * i) 4
theorem bd6 (b : List UInt8) (j : Int) (n : Nat) : (arD b j n).length = n := by simp [arD]
theorem bk2 (b : List UInt8) (j : Int) (k : Nat) : arD b j (k + 1) = arD b j k ++ [Q6 b (j + 4 * k) 4] := by
 unfold arD; rw [List.range_succ, List.map_append]; rfl
theorem bn5 (b : List UInt8) (j : Int) (n : Nat) : ∀ a ∈ arD b j n, a.length = 4 := by
 intro a ha
 obtain ⟨i, _, rfl⟩ := List.mem_map.1 ha
 exact aa3 _ _ _
def mmD (b : List UInt8) (j : Int) (nv na : Nat) : t3 := ⟨Q6 b j nv, arD b (j + nv) na⟩
section
variable {nv na : Nat} {m : t3}
theorem bx7 (h : ¬ (m.vals.length : Int) = nv) : mfB nv na m = false := by unfold mfB; rw [decide_eq_false (p := m.vals.length = nv) (by omega)]; rfl
theorem bx6 (h : ¬ (m.arrs.length : Int) = na) : mfB nv na m = false := by unfold mfB; rw [decide_eq_false (p := m.arrs.length = na) (by omega)]; simp
theorem bx5 (h : I1 m.vals = false) : mfB nv na m = false := by unfold mfB; rw [h]; simp
theorem bx4 (h1 : (m.vals.length : Int) = nv) (h2 : (m.arrs.length : Int) = na) (h3 : I1 m.vals = true) : mfB nv na m = m.arrs.all O5 := by
 unfold mfB
 rw [decide_eq_true (p := m.vals.length = nv) (by omega), decide_eq_true (p := m.arrs.length = na) (by omega), h3]; rfl
theorem aD2 (h : mfB nv na m = true) : m.vals.length = nv ∧ m.arrs.length = na ∧ I1 m.vals = true ∧ m.arrs.all O5 = true := by
 unfold mfB at h
 simpa [bF9] using h
end
def zB (bit : Int) (l : Int) : Bool := !(au0 l bit == 0)
def mvB (p : b7) (m : t3) : Bool := j9 p && mfB p.vars.length p.arrays.length m
section
variable {bit : Int} {p : b7} {m : t3}
theorem bh1 (h : mvB p m = true) : p.vars.all c3 = true ∧ p.arrays.all c3 = true ∧ m.vals.length = p.vars.length ∧ m.arrs.length = p.arrays.length ∧ m.arrs.all O5 = true ∧ p.vars.length ≤ 12 ∧ p.arrays.length ≤ 2 := by
 unfold mvB at h
 rw [bF9] at h
 obtain ⟨f1, f2, f3, f4⟩ := aD2 h.2
 have h2 := h.1
 unfold j9 at h2
 simp only [bF9] at h2
 have h6 := h2.1.1
 unfold t5 at h6
 simp only [bF9, decide_eq_true_eq] at h6
 refine ⟨h6.1.1.1.1, ?_, f1, f2, f4, ?_, ?_⟩
 ·exact h6.1.1.1.2
 ·omega
 ·omega
theorem bA3 (h : m.arrs.all O5 = true) {i : Nat} (hi : i < m.arrs.length) : (m.arrs.getD i []).length = 4 := by
 have := bG4.1 h (m.arrs.getD i []) (by rw [f7 hi]; exact bH8 hi)
 unfold O5 at this
 simp only [bF9, decide_eq_true_eq] at this
 exact this.1
end
theorem bn6 : ∀ x : Fin 4, zB 1 (x.val : Int) = decide ((x.val : Int) % 2 = 1) := by decide +kernel
theorem bs5 {l : Int} (h : c3 l = true) : (c3 l && decide (l % 2 = 1)) = zB 1 l := by
 unfold c3 at h ⊢
 simp only [bF9, decide_eq_true_eq] at h
 obtain ⟨x, rfl⟩ : ∃ x : Fin 4, l = (x.val : Int) := ⟨⟨l.toNat, by omega⟩, by show l = (l.toNat : Int); omega⟩
 rw [bn6, decide_eq_true h.1, decide_eq_true h.2]; rfl
section
variable {ls xs : List Int} {rs : List (List Int)} {k : Nat} {b : Bool}
end
theorem zbt {bit l : Int} (h : ¬ au0 l bit = 0) : zB bit l = true := by unfold zB; rw [beq_eq_false_iff_ne.2 h]; rfl
theorem zbf {bit l : Int} (h : au0 l bit = 0) : zB bit l = false := by unfold zB; rw [h]; rfl
def s5 (b : List UInt8) (bit : Int) (ls : List Int) (j : Int) (xs : List Int) : Nat → List Int × Int
 | 0 => (xs, j)
 | k + 1 => if zB bit (ls.getD k 0) = true then ((s5 b bit ls j xs k).1.set k (nm b (s5 b bit ls j xs k).2 vaL), (s5 b bit ls j xs k).2 + 1) else s5 b bit ls j xs k
theorem ax0 (b : List UInt8) (bit : Int) (ls : List Int) (j : Int) (xs : List Int) : ∀ k : Nat, (s5 b bit ls j xs k).1.length = xs.length ∧ j ≤ (s5 b bit ls j xs k).2 ∧ (s5 b bit ls j xs k).2 ≤ j + k
 | 0 => ⟨rfl, Int.le_refl _, by simp [s5]⟩
 | k + 1 => by
  have h := ax0 b bit ls j xs k
  rw [s5]
  split
  ·refine ⟨by simp [h.1], ?_, ?_⟩ <;> dsimp only <;> omega
  ·omega
theorem bl5 {b : List UInt8} {bit : Int} {ls : List Int} {j : Int} {xs : List Int} {k : Nat} (h : zB bit (ls.getD k 0) = true) : s5 b bit ls j xs (k + 1) = ((s5 b bit ls j xs k).1.set k (nm b (s5 b bit ls j xs k).2 vaL), (s5 b bit ls j xs k).2 + 1) := by rw [s5, if_pos h]
theorem bl6 {b : List UInt8} {bit : Int} {ls : List Int} {j : Int} {xs : List Int} {k : Nat} (h : zB bit (ls.getD k 0) = false) : s5 b bit ls j xs (k + 1) = s5 b bit ls j xs k := by rw [s5, if_neg (by rw [h]; decide)]
theorem aV1 (b : List UInt8) (bit : Int) (ls : List Int) (j : Int) (xs : List Int) (i : Nat) (h : zB bit (ls.getD i 0) = false) : ∀ k : Nat, (s5 b bit ls j xs k).1.getD i 0 = xs.getD i 0
 | 0 => rfl
 | k + 1 => by
  have ih := aV1 b bit ls j xs i h k
  rw [s5]
  split
  ·rename_i hk
   have : k ≠ i := fun e => by rw [e, h] at hk; cases hk
   dsimp only
   rw [bG1, List.getElem?_set_ne this, ← bG1]; exact ih
  ·exact ih
theorem aB2 (b : List UInt8) (bit : Int) (ls : List Int) {j : Int} (xs : List Int) (hx : I1 xs = true) (r0 : 0 ≤ j) : ∀ k : Nat, j + k ≤ 1000000000 → I1 (s5 b bit ls j xs k).1 = true
 | 0, _ => hx
 | k + 1, r1 => by
  have ih := aB2 b bit ls xs hx r0 k (by omega)
  have hb := ax0 b bit ls j xs k
  rw [s5]
  split
  ·unfold I1 at ih ⊢
   rw [bG4] at ih ⊢
   intro x hx
   rcases List.mem_or_eq_of_mem_set hx with h | h
   ·exact ih x h
   ·subst h; exact va_in b (by omega) (by omega)
  ·exact ih
where
 va_in (b : List UInt8) {j : Int} (r0 : 0 ≤ j) (r1 : j ≤ 1000000000) : (decide (0 ≤ nm b j vaL) && decide (nm b j vaL ≤ 255)) = true := by
  have h := ap7 b r0 r1 (l := vaL) (List.cons_ne_nil _ _)
  have key : ∀ x ∈ vaL, (decide (0 ≤ x) && decide (x ≤ 255)) = true := by decide
  exact key _ h
theorem bo0 (b : List UInt8) {j : Int} (r0 : 0 ≤ j) (r1 : j ≤ 1000000000) : (decide (0 ≤ nm b j vaL) && decide (nm b j vaL ≤ 255)) = true := aB2.va_in b r0 r1
theorem aN4 (b : List UInt8) {j : Int} (r0 : 0 ≤ j) (n : Nat) (r1 : j + n ≤ 1000000000) : I1 (Q6 b j n) = true := by
 unfold I1
 rw [bG4]
 intro x hx
 unfold Q6 at hx
 obtain ⟨i, hi, rfl⟩ := List.mem_map.1 hx
 have hi := List.mem_range.1 hi
 exact bo0 b (by omega) (by omega)
def V3 (b : List UInt8) (bit : Int) (ls : List Int) (j : Int) (rs : List (List Int)) : Nat → List (List Int) × Int
 | 0 => (rs, j)
 | i + 1 => if zB bit (ls.getD i 0) = true then ((V3 b bit ls j rs i).1.set i (Q6 b (V3 b bit ls j rs i).2 4), (V3 b bit ls j rs i).2 + 4) else V3 b bit ls j rs i
theorem ao8 (b : List UInt8) (bit : Int) (ls : List Int) (j : Int) (rs : List (List Int)) : ∀ k : Nat, (V3 b bit ls j rs k).1.length = rs.length ∧ j ≤ (V3 b bit ls j rs k).2 ∧ (V3 b bit ls j rs k).2 ≤ j + 4 * k
 | 0 => ⟨rfl, Int.le_refl _, by simp [V3]⟩
 | k + 1 => by
  have h := ao8 b bit ls j rs k
  rw [V3]
  split
  ·refine ⟨by simp [h.1], ?_, ?_⟩ <;> dsimp only <;> omega
  ·omega
theorem aB3 (b : List UInt8) (bit : Int) (ls : List Int) (j : Int) (rs : List (List Int)) (i : Nat) : ∀ k : Nat, k ≤ i ∨ zB bit (ls.getD i 0) = false → (V3 b bit ls j rs k).1.getD i [] = rs.getD i []
 | 0, _ => rfl
 | k + 1, h => by
  have ih := aB3 b bit ls j rs i k (h.elim (fun h => .inl (by omega)) .inr)
  rw [V3]
  split
  ·rename_i hk
   have : k ≠ i := fun e => by
    rcases h with h | h
    ·omega
    ·rw [e, h] at hk; cases hk
   dsimp only
   rw [bG1, List.getElem?_set_ne this, ← bG1]; exact ih
  ·exact ih
theorem aV3 (b : List UInt8) (bit : Int) (ls : List Int) {j : Int} (rs : List (List Int)) (hx : rs.all O5 = true) (r0 : 0 ≤ j) : ∀ k : Nat, j + 4 * k ≤ 1000000000 → (V3 b bit ls j rs k).1.all O5 = true
 | 0, _ => hx
 | k + 1, r1 => by
  have ih := aV3 b bit ls rs hx r0 k (by omega)
  have hb := ao8 b bit ls j rs k
  rw [V3]
  split
  ·rw [bG4] at ih ⊢
   intro x hx
   rcases List.mem_or_eq_of_mem_set hx with h | h
   ·exact ih x h
   ·subst h
    unfold O5
    rw [aa3, aN4 b (by omega) 4 (by omega)]; rfl
  ·exact ih
def C5 (b : List UInt8) (bit : Int) (ls : List Int) (j : Int) (rs : List (List Int)) (i k : Nat) : List (List Int) × Int :=
 if zB bit (ls.getD i 0) = true then ((V3 b bit ls j rs i).1.set i (Q6 b (V3 b bit ls j rs i).2 k ++ (rs.getD i []).drop k), (V3 b bit ls j rs i).2 + k) else V3 b bit ls j rs i
section
variable {b : List UInt8} {bit : Int} {ls : List Int} {j : Int} {rs : List (List Int)} {i k : Nat}
theorem bu7 : (C5 b bit ls j rs i k).1.length = rs.length ∧ j ≤ (C5 b bit ls j rs i k).2 ∧ (C5 b bit ls j rs i k).2 ≤ j + 4 * i + k := by
 have h := ao8 b bit ls j rs i
 unfold C5
 split
 ·refine ⟨by simp [h.1], ?_, ?_⟩ <;> dsimp only <;> omega
 ·omega
theorem bl9 (hi : i < rs.length) : C5 b bit ls j rs i 0 = V3 b bit ls j rs i := by
 have h := ao8 b bit ls j rs i
 have h2 := aB3 b bit ls j rs i i (.inl (bH3 _))
 unfold C5
 split
 ·rw [bA8, List.nil_append, List.drop_zero, ← h2, f7 (by omega)]
  rw [List.set_getElem_self]; simp
 ·rfl
theorem a54 (hi : i < rs.length) : (C5 b bit ls j rs i k).1.getD i [] = if zB bit (ls.getD i 0) = true then Q6 b (V3 b bit ls j rs i).2 k ++ (rs.getD i []).drop k else rs.getD i [] := by
 have h := ao8 b bit ls j rs i
 unfold C5
 split
 ·dsimp only
  rw [bG1, List.getElem?_set_self (by omega)]; rfl
 ·exact aB3 b bit ls j rs i i (.inl (bH3 _))
theorem bf5 (hi : i < rs.length) (hr : (rs.getD i []).length = 4) (hk : k ≤ 4) : ((C5 b bit ls j rs i k).1.getD i []).length = 4 := by
 rw [a54 hi]; split
 ·simp only [bI0, aa3, List.length_drop]; omega
 ·exact hr
theorem bl7 (hi : i < rs.length) (hr : (rs.getD i []).length = 4) (hk : k < 4) (h : zB bit (ls.getD i 0) = true) : C5 b bit ls j rs i (k + 1) = ((C5 b bit ls j rs i k).1.set i (((C5 b bit ls j rs i k).1.getD i []).set k (nm b (C5 b bit ls j rs i k).2 vaL)), (C5 b bit ls j rs i k).2 + 1) := by
 rw [a54 hi, if_pos h]
 unfold C5
 rw [if_pos h, if_pos h]
 dsimp only
 rw [List.set_set, mk_set' (aa3 _ _ _) (by omega), az6]
 exact Prod.ext rfl (by dsimp only; omega)
where
 mk_set' {l m : List Int} {j : Nat} {y : Int} (hl : l.length = j) (hj : j < m.length) : (l ++ m.drop j).set j y = (l ++ [y]) ++ m.drop (j + 1) := by
  rw [List.set_append_right _ _ (by omega), hl, Nat.sub_self, List.drop_eq_getElem_cons hj, List.set_cons_zero, List.append_assoc]
  rfl
theorem bl8 (h : zB bit (ls.getD i 0) = false) : C5 b bit ls j rs i (k + 1) = C5 b bit ls j rs i k := by
 unfold C5; rw [if_neg (by rw [h]; decide), if_neg (by rw [h]; decide)]
theorem aV2 (hi : i < rs.length) (hr : (rs.getD i []).length = 4) : C5 b bit ls j rs i 4 = V3 b bit ls j rs (i + 1) := by
 unfold C5
 rw [V3]
 split
 ·rw [List.drop_eq_nil_of_le (by omega), List.append_nil]; rfl
 ·rfl
end
def scM (b : List UInt8) (bit : Int) (p : b7) (m : t3) (j : Int) : t3 × Int :=
 (⟨(s5 b bit p.vars j m.vals m.vals.length).1, (V3 b bit p.arrays (s5 b bit p.vars j m.vals m.vals.length).2 m.arrs m.arrs.length).1⟩, (V3 b bit p.arrays (s5 b bit p.vars j m.vals m.vals.length).2 m.arrs m.arrs.length).2)
theorem bD8 {b : List UInt8} {j n : Int} (h : n < 1) : pk b j n = 0 := by unfold pk; rw [if_pos (.inl h)]
theorem bD7 {b : List UInt8} {j n : Int} (h : (b.length : Int) = 0) : pk b j n = 0 := by unfold pk; rw [if_pos (.inr (by omega))]
theorem bD6 {b : List UInt8} {j n : Int} (h : ¬ n < 1) (h1 : ¬ (b.length : Int) = 0) (h2 : j + 1 - 1 < b.length) : pk b j n = ((b.getD (j + 1 - 1).toNat 0).toNat : Int).tmod n := by
 unfold pk; rw [if_neg (by omega), if_pos (by omega), Int.add_sub_cancel]
theorem bD5 {b : List UInt8} {j n : Int} (h : ¬ n < 1) (h1 : ¬ (b.length : Int) = 0) (h2 : ¬ j + 1 - 1 < b.length) : pk b j n = (aN2 (pkX b (j + 1 - 1)) ((pkX b (j + 1 - 1)).tdiv 64)).tmod n := by
 unfold pk; rw [if_neg (by omega), if_neg (by omega), Int.add_sub_cancel]
theorem a01 {x : Int} {n : Nat} (hx : 0 ≤ x) (hn : ¬ (n : Int) = 0) : 0 ≤ x.tmod n ∧ x.tmod n < n ∧ (x.tmod n).toNat < n := by
 have := aN5 (x := x) (n := n) hx (by omega); omega
theorem A4 (b : List UInt8) (j n : Int) (r0 : 0 ≤ j) (r1 : j ≤ 1000000000) : c8.ok Try.prog ⟨65, [.ptr 0 0, iA n], [.box [.ref 1, iA j], dY b], [.box [.ref 1, iA (j + 1)], dY b], iA (pk b j n)⟩ := by
  refine z7 99 Try.func65 [.box [.ref 1, iA j], dY b] [(0, .ptr 0 0), (1, iA n)] fun G => ?_; have hu1 := aG0 (b.getD ((j + 1 - 1).tmod b.length).toNat 0); have hu2 := aG0 (b.getD (((j + 1 - 1) * 7 + 3).tmod b.length).toNat 0); refine wp_seq (c7 G b8 [(4, iA 0)] fun G => b0 (wp_seq (P5 G b8 [0, 1] [.box [.ref 1, iA (j + 1)], dY b] [(0, .ptr 0 0), (1, iA n), (4, iA 0)] [wO (j + 1)] (o1 (by omega)) fun G => b0 (wp_seq (wp_seq ?_))))); cases h0 : (decide (n < 1))
  ·
   have q0 := O8 h0; refine c7 G (A6 (fc h0 fz) (us [(3, 8, 0), (1009, 1009, 0)])) [(24, bA ((b.length : Int) == 0))] fun G => b0 (L5 G (fun h1 q1 => ?_) fun h1 q1 => ?_)
   ·
    refine wp_skip (b0 (wp_seq (C1 G b8 [(5, iA (j + 1 - 1))] [wO (j + 1 - 1)] (o1 (by omega)) fun G => b0 (wp_seq (wp_seq (c7 G b8 [(36, bA (decide (j + 1 - 1 < (b.length : Int))))] fun G => b0 (Q7 G (fun h2 q2 => ?_) fun h2 q2 => ?_)))))))
    ·
     refine wp_skip (b0 (wp_seq (Y6 G b8 [0, 1, 3, 7, 0, 0, 32, 96, 224, 480, 1008, 2047, 4095, 8191, 16383, 0, 32768, 98304, 229376, 0, 524288, 1572864, 0, 4194304, 12582912, 29360128, 62914560, 133693440, 268402688, 536838144, 1073709056, 2147450880, 4294967295, 0, 8589934592, 34359738367, 0, 0, 137438953472, 412316860416, 962072674304, 2061584302080, 4329327034368, 8727373545472, 17592186044415, 35184372088831] [(6, iA (((b.getD ((j + 1 - 1).tmod (b.length : Int)).toNat 0).toNat : Int) * 131 + ((b.getD (((j + 1 - 1) * 7 + 3).tmod (b.length : Int)).toNat 0).toNat : Int) * 1117 + (j + 1 - 1) * 29 + (j + 1 - 1).tdiv (b.length : Int) * 53))] [(b.length : Int) ≠ 0, (0 : Int) ≤ (j + 1 - 1).tmod (b.length : Int), (j + 1 - 1).tmod (b.length : Int) < b.length, ((j + 1 - 1).tmod (b.length : Int)).toNat < b.length, IntKind.i64.wrap ((b.getD ((j + 1 - 1).tmod (b.length : Int)).toNat (0 : UInt8)).toNat : Int) = ((b.getD ((j + 1 - 1).tmod (b.length : Int)).toNat (0 : UInt8)).toNat : Int), wO (((b.getD ((j + 1 - 1).tmod (b.length : Int)).toNat (0 : UInt8)).toNat : Int) * 131), wO ((j + 1 - 1) * 7), wO ((j + 1 - 1) * 7 + 3), (b.length : Int) ≠ 0, (0 : Int) ≤ ((j + 1 - 1) * 7 + 3).tmod (b.length : Int), ((j + 1 - 1) * 7 + 3).tmod (b.length : Int) < b.length, (((j + 1 - 1) * 7 + 3).tmod (b.length : Int)).toNat < b.length, IntKind.i64.wrap ((b.getD (((j + 1 - 1) * 7 + 3).tmod (b.length : Int)).toNat (0 : UInt8)).toNat : Int) = ((b.getD (((j + 1 - 1) * 7 + 3).tmod (b.length : Int)).toNat (0 : UInt8)).toNat : Int), wO (((b.getD (((j + 1 - 1) * 7 + 3).tmod (b.length : Int)).toNat (0 : UInt8)).toNat : Int) * 1117), wO (((b.getD ((j + 1 - 1).tmod (b.length : Int)).toNat (0 : UInt8)).toNat : Int) * 131 + ((b.getD (((j + 1 - 1) * 7 + 3).tmod (b.length : Int)).toNat (0 : UInt8)).toNat : Int) * 1117), wO ((j + 1 - 1) * 29), wO (((b.getD ((j + 1 - 1).tmod (b.length : Int)).toNat (0 : UInt8)).toNat : Int) * 131 + ((b.getD (((j + 1 - 1) * 7 + 3).tmod (b.length : Int)).toNat (0 : UInt8)).toNat : Int) * 1117 + (j + 1 - 1) * 29), (b.length : Int) ≠ 0, wO ((j + 1 - 1).tdiv (b.length : Int)), wO ((j + 1 - 1).tdiv (b.length : Int) * 53), wO (((b.getD ((j + 1 - 1).tmod (b.length : Int)).toNat (0 : UInt8)).toNat : Int) * 131 + ((b.getD (((j + 1 - 1) * 7 + 3).tmod (b.length : Int)).toNat (0 : UInt8)).toNat : Int) * 1117 + (j + 1 - 1) * 29 + (j + 1 - 1).tdiv (b.length : Int) * 53)] ⟨(by assumption), ((a01 (by omega) (by omega)).1), ((a01 (by omega) (by omega)).2.1), ((a01 (by omega) (by omega)).2.2), (w64 (by omega) (by omega)), (oW (by omega)), (oW (by omega)), (oW (by omega)), (by assumption), ((a01 (by omega) (by omega)).1), ((a01 (by omega) (by omega)).2.1), ((a01 (by omega) (by omega)).2.2), (w64 (by omega) (by omega)), (oW (by omega)), (oW (by omega)), (oW (by omega)), (oW (by omega)), (by assumption), (by have := aI5 (b := b) (k := j + 1 - 1) (by omega) (by omega) (by omega); exact w64 (by unfold pkX at this; omega) (by unfold pkX at this; omega)), (by have := aI5 (b := b) (k := j + 1 - 1) (by omega) (by omega) (by omega); exact w64 (by unfold pkX at this; omega) (by unfold pkX at this; omega)), (by have := aI5 (b := b) (k := j + 1 - 1) (by omega) (by omega) (by omega); exact w64 (by unfold pkX at this; omega) (by unfold pkX at this; omega)), bG8⟩ fun G => ?_)))
     refine b0 (wp_seq (C1 G b8 [(6, iA (aN2 (((b.getD ((j + 1 - 1).tmod (b.length : Int)).toNat 0).toNat : Int) * 131 + ((b.getD (((j + 1 - 1) * 7 + 3).tmod (b.length : Int)).toNat 0).toNat : Int) * 1117 + (j + 1 - 1) * 29 + (j + 1 - 1).tdiv (b.length : Int) * 53) ((((b.getD ((j + 1 - 1).tmod (b.length : Int)).toNat 0).toNat : Int) * 131 + ((b.getD (((j + 1 - 1) * 7 + 3).tmod (b.length : Int)).toNat 0).toNat : Int) * 1117 + (j + 1 - 1) * 29 + (j + 1 - 1).tdiv (b.length : Int) * 53).tdiv 64)))] [(64 : Int) ≠ 0, wO ((((b.getD ((j + 1 - 1).tmod (b.length : Int)).toNat (0 : UInt8)).toNat : Int) * 131 + ((b.getD (((j + 1 - 1) * 7 + 3).tmod (b.length : Int)).toNat (0 : UInt8)).toNat : Int) * 1117 + (j + 1 - 1) * 29 + (j + 1 - 1).tdiv (b.length : Int) * 53).tdiv (64 : Int))] ⟨(by omega), (by have := bm1 (b := b) (k := j + 1 - 1) (by omega) (by omega) (by omega); exact w64 (by unfold pkX at this; omega) (by unfold pkX at this; omega)), bG8⟩ fun G => b0 (wp_seq (C1 G b8 [(4, iA ((aN2 (((b.getD ((j + 1 - 1).tmod (b.length : Int)).toNat 0).toNat : Int) * 131 + ((b.getD (((j + 1 - 1) * 7 + 3).tmod (b.length : Int)).toNat 0).toNat : Int) * 1117 + (j + 1 - 1) * 29 + (j + 1 - 1).tdiv (b.length : Int) * 53) ((((b.getD ((j + 1 - 1).tmod (b.length : Int)).toNat 0).toNat : Int) * 131 + ((b.getD (((j + 1 - 1) * 7 + 3).tmod (b.length : Int)).toNat 0).toNat : Int) * 1117 + (j + 1 - 1) * 29 + (j + 1 - 1).tdiv (b.length : Int) * 53).tdiv 64)).tmod n))] [n ≠ 0] ⟨(by omega), bG8⟩ fun G => b0 (wp_ret ?_))))); exact E4 ((aN2 (((b.getD ((j + 1 - 1).tmod (b.length : Int)).toNat 0).toNat : Int) * 131 + ((b.getD (((j + 1 - 1) * 7 + 3).tmod (b.length : Int)).toNat 0).toNat : Int) * 1117 + (j + 1 - 1) * 29 + (j + 1 - 1).tdiv (b.length : Int) * 53) ((((b.getD ((j + 1 - 1).tmod (b.length : Int)).toNat 0).toNat : Int) * 131 + ((b.getD (((j + 1 - 1) * 7 + 3).tmod (b.length : Int)).toNat 0).toNat : Int) * 1117 + (j + 1 - 1) * 29 + (j + 1 - 1).tdiv (b.length : Int) * 53).tdiv 64)).tmod n) G [0, 1] (bD5 (by omega) (by omega) (by omega))
    · refine wp_seq (C1 G b8 [(4, iA (((b.getD (j + 1 - 1).toNat 0).toNat : Int).tmod n))] (iX (j + 1 - 1) ((j + 1 - 1).toNat) b.length ((IntKind.i64.wrap ((b.getD (j + 1 - 1).toNat (0 : UInt8)).toNat : Int) = ((b.getD (j + 1 - 1).toNat (0 : UInt8)).toNat : Int)) :: ((n ≠ 0) :: []))) (iK (by omega) ⟨(by have := aG0 (b.getD (j + 1 - 1).toNat 0); exact w64 (by omega) (by omega)), ⟨(by omega), bG8⟩⟩) fun G => b0 (wp_ret (c5 ?_))); exact E4 (((b.getD (j + 1 - 1).toNat 0).toNat : Int).tmod n) G [0, 1] (bD6 (by omega) (by omega) (by omega))
   · refine wp_seq (c7 G b8 [] fun G => b0 (wp_ret (c5 ?_))); exact E4 0 G [0, 1] (bD7 (by omega))
  · have q0 := O7 h0; refine c7 G (A6 (fc h0 fz) (us [(3, 8, 0), (1009, 1009, 0)])) [(24, bA true)] fun G => b0 (rT G true (by kernel_rfl) (wp_seq (c7 G b8 [] fun G => b0 (wp_ret (c5 ?_))))); exact E4 0 G [0, 1] (bD8 (by omega))
theorem D9 (b : List UInt8) (j : Int) (l : List Int) (hl : l ≠ []) (r0 : 0 ≤ j) (r1 : j ≤ 1000000000) : c8.ok Try.prog ⟨97, [.ptr 0 0, .ref 2], [.box [.ref 1, iA j], dY b, dI l], [.box [.ref 1, iA (j + 1)], dY b, dI l], iA (nm b j l)⟩ := by
 refine z7 12 Try.func97 [.box [.ref 1, iA j], dY b, dI l] [(0, .ptr 0 0), (1, .ref 2)] fun G => ?_; refine wp_seq (c7 G b8 [(4, iA 0)] fun G => b0 (wp_seq (P5 G (n8 4 [0, 1] (A4 b j ((l.length : Int)) (by assumption) (by assumption))) [0, 1, 2] [.box [.ref 1, iA (j + 1)], dY b, dI l] [(4, iA (l.getD (pk b j (l.length : Int)).toNat 0))] [(0 : Int) ≤ pk b j (l.length : Int), pk b j (l.length : Int) < l.length, (pk b j (l.length : Int)).toNat < l.length] ⟨((aW6 b r0 r1 hl).1), ((aW6 b r0 r1 hl).2.1), ((aW6 b r0 r1 hl).2.2), bG8⟩ fun G => b0 (wp_ret ?_)))); exact F8 G [0, 1, 2]
theorem bd1 (b : List UInt8) (j : Int) (r0 : 0 ≤ j) (r1 : j ≤ 900000000) : c8.ok Try.prog ⟨170, [.ptr 0 0], [.box [.ref 1, iA j], dY b], [.box [.ref 1, iA (j + 2)], dY b], iA (l1D b j)⟩ := by
 refine z7 11 Try.func170 [.box [.ref 1, iA j], dY b] [(0, .ptr 0 0)] fun G => ?_; refine wp_seq (c7 G b8 [(2, iA 0)] fun G => b0 (wp_seq (wp_seq (d7 G (n8 1 [0, 1] (A4 b j 12 (by assumption) (by omega))) [0, 1] [.box [.ref 1, iA (j + 1)], dY b] [(0, .ptr 0 0), (2, iA 0), (5, bA (pk b j 12 == 0))] fun G => b0 (L5 G (fun h0 q0 => ?_) fun h0 q0 => ?_)))))
 ·refine wp_skip (b0 (wp_seq (d7 G (n8 1 [0, 1] (A4 b (j + 1) 4 (by omega) (by omega))) [0, 1] [.box [.ref 1, iA (j + 1 + 1)], dY b] [(2, iA (pk b (j + 1) 4))] fun G => b0 (wp_ret ?_)))); exact E4 (pk b (j + 1) 4) G [0, 1] (by unfold l1D; rw [if_neg (by omega)]; done) (by show _ = mR [0, 1] [.box [.ref 1, iA (j + 2)], dY b]; have e1 : (j + 2 : Int) = (j + 1 + 1) := (by omega); (first | rw [e1] | simp only [e1]) <;> rfl)
 ·refine wp_seq (d7 G (n8 2 [0, 1, 10] (c8.lend (D9 b (j + 1) l1L (by simp [h0]) (by omega) (by omega)) [.no, .no, .row 3])) [0, 1] [.box [.ref 1, iA (j + 1 + 1)], dY b] [(0, .ptr 0 0), (2, iA (nm b (j + 1) l1L))] fun G => b0 (wp_ret (c5 ?_))); exact E4 (nm b (j + 1) l1L) G [0, 1] (by unfold l1D; rw [if_pos (by omega)]; done) (by show _ = mR [0, 1] [.box [.ref 1, iA (j + 2)], dY b]; have e1 : (j + 2 : Int) = (j + 1 + 1) := (by omega); (first | rw [e1] | simp only [e1]) <;> rfl)
theorem aS6 (c : List UInt8) (hc : c.length ≤ 2000) : c8.ok Try.prog ⟨63, [.ref 0], [dY c], [dY c, .box [.ref 0, iA 0]], .ptr 1 0⟩ := by
 refine z7 11 Try.func63 [dY c] [(0, .ref 0)] fun G => ?_; refine wp_seq (c7 G b8 [(2, .v (.pointer none))] fun G => b0 (wp_seq (wp_seq (y5 G b8 [(0, .ref 0), (2, .v (.pointer none)), (5, bA (decide ((c.length : Int) > 2000)))] fun G => b0 ?_)))); cases h0 : (decide ((c.length : Int) > 2000))
 ·have q0 := O8 h0; refine rF G _ h0 (wp_skip (b0 (wp_seq (d7 G b8 [0, 17] [dY c, .box [.ref 0, iA 0]] [(2, .ptr 1 0)] fun G => b0 (wp_ret ?_))))); exact F8 G [0, 1]
 ·have q0 := O7 h0; exact False.elim (by omega)
theorem aS5 (c : List UInt8) (hc : 2000 < c.length) : c8.ok Try.prog ⟨63, [.ref 0], [dY c], [dY c, .box [.ref 2, iA 0], dY ((c.take 2000).drop 0)], .ptr 1 0⟩ := by
 refine z7 11 Try.func63 [dY c] [(0, .ref 0)] fun G => ?_; refine wp_seq (c7 G b8 [(2, .v (.pointer none))] fun G => b0 (wp_seq (wp_seq (y5 G b8 [(0, .ref 0), (2, .v (.pointer none)), (5, bA (decide ((c.length : Int) > 2000)))] fun G => b0 ?_)))); cases h0 : (decide ((c.length : Int) > 2000))
 ·have q0 := O8 h0; exact False.elim (by omega)
 ·have q0 := O7 h0; refine rT G _ h0 (P5 G b8 [0, 9] [dY c, dY (List.drop 0 (bG3 (Int.toNat 2000) c))] [(0, .ref 1), (2, .v (.pointer none))] [(0 : Int) ≤ 2000, (2000 : Int) ≤ c.length] ⟨(by omega), (by omega), bG8⟩ fun G => b0 (wp_seq (d7 G b8 [0, 1, 18] [dY c, dY (List.drop 0 (bG3 (Int.toNat 2000) c)), .box [.ref 1, iA 0]] [(2, .ptr 2 0)] fun G => b0 (wp_ret ?_)))); exact F8 G [0, 2, 1]
abbrev dwS (b : List UInt8) (j : Int) (vs ars : List Int) (bd : List b5) : List It := [.box [.ref 1, iA j], dY b, dI vs, dI ars, dT bd]
abbrev exO (e : b6) : List It := [.tree (.exprs e.kids)]
abbrev exA (e : b6) (r : Nat) : AV := .agg [iA e.kind, iA e.value, .tref r]
theorem bA2 {b : List UInt8} {nv j : Int} (h : pk b j 3 = 0) : i6 b nv j = ⟨1, nm b (j + 1) atL, []⟩ := if_pos h
theorem bA1 {b : List UInt8} {nv j : Int} (h : ¬ pk b j 3 = 0) : i6 b nv j = ⟨2, pk b (j + 1) nv, []⟩ := if_neg h
theorem ai2 (b : List UInt8) (j : Int) (vs ars : List Int) (bd : List b5) (r0 : 0 ≤ j) (r1 : j ≤ 900000000) : c8.ok Try.prog ⟨99, [.ptr 0 0, pA 2], dwS b j vs ars bd, dwS b (j + 2) vs ars bd ++ exO (i6 b vs.length j), exA (i6 b vs.length j) 5⟩ := by
 refine z7 18 Try.func99 [.box [.ref 1, iA j], dY b, dI vs, dI ars, dT bd] [(0, .ptr 0 0), (1, pA 2)] fun G => ?_; refine wp_seq (d7 G b8 [0, 1, 2, 3, 4, 5, 13] [.box [.ref 1, iA j], dY b, dI vs, dI ars, dT bd, .box (pL 2), .box [iA 0, iA 0, .v (.slice none 0 0)]] [(0, .ptr 0 0), (3, .ptr 5 0), (4, .ptr 6 0)] fun G => b0 (wp_seq (wp_seq (d7 G (n8 1 [0, 1] (A4 b j 3 (by assumption) (by omega))) (rg 7) [.box [.ref 1, iA (j + 1)], dY b, dI vs, dI ars, dT bd, .box (pL 2), .box [iA 0, iA 0, .v (.slice none 0 0)]] [(0, .ptr 0 0), (3, .ptr 5 0), (4, .ptr 6 0), (7, bA (pk b j 3 == 0))] fun G => b0 (L5 G (fun h0 q0 => ?_) fun h0 q0 => ?_)))))
 ·refine wp_skip (b0 (wp_seq (d7 G (n8 4 [0, 1] (A4 b (j + 1) ((vs.length : Int)) (by omega) (by omega))) [0, 1, 2, 3, 4, 6] [.box [.ref 1, iA (j + 1 + 1)], dY b, dI vs, dI ars, dT bd, .box [iA 2, iA (pk b (j + 1) (vs.length : Int)), .v (.slice none 0 0)]] [(4, .ptr 5 0)] fun G => b0 (wp_ret ?_)))); obtain ⟨ρ, G⟩ := G.nilT 6 (.exprs []) [.box [.ref 1, iA (j + 1 + 1)], dY b, dI vs, dI ars, dT bd, .box [iA 2, iA (pk b (j + 1) (vs.length : Int)), .tref 6]] [(4, .ptr 5 0)]; exact V5 (.agg [iA 2, iA (pk b (j + 1) (vs.length : Int)), .tref 6]) G [0, 1, 2, 3, 4, 6] (by show _ = AV.ren (nth [0, 1, 2, 3, 4, 6]) (.agg [iA (i6 b (vs.length : Int) j).kind, iA (i6 b (vs.length : Int) j).value, .tref 5]); rw [bA1 (by omega)] <;> rfl) (by show _ = mR [0, 1, 2, 3, 4, 6] [.box [.ref 1, iA (j + 2)], dY b, dI vs, dI ars, dT bd, .tree (D.exprs (i6 b (vs.length : Int) j).kids)]; have e1 : (j + 2 : Int) = (j + 1 + 1) := (by omega); rw [e1, bA1 (by omega)] <;> rfl)
 ·refine wp_seq (d7 G (n8 2 [0, 1, 15] (c8.lend (D9 b (j + 1) atL (by simp [h0]) (by omega) (by omega)) [.no, .no, .row 3])) (rg 7) [.box [.ref 1, iA (j + 1 + 1)], dY b, dI vs, dI ars, dT bd, .box (pL 2), .box [iA 1, iA (nm b (j + 1) atL), .v (.slice none 0 0)]] [(0, .ptr 0 0), (3, .ptr 5 0), (4, .ptr 6 0)] fun G => b0 (wp_ret (c5 ?_))); obtain ⟨ρ, G⟩ := G.nilT 7 (.exprs []) [.box [.ref 1, iA (j + 1 + 1)], dY b, dI vs, dI ars, dT bd, .box (pL 2), .box [iA 1, iA (nm b (j + 1) atL), .tref 7]] [(0, .ptr 0 0), (3, .ptr 5 0), (4, .ptr 6 0)]; exact V5 (.agg [iA 1, iA (nm b (j + 1) atL), .tref 7]) G [0, 1, 2, 3, 4, 7] (by show _ = AV.ren (nth [0, 1, 2, 3, 4, 7]) (.agg [iA (i6 b (vs.length : Int) j).kind, iA (i6 b (vs.length : Int) j).value, .tref 5]); rw [bA2 (by omega)] <;> rfl) (by show _ = mR [0, 1, 2, 3, 4, 7] [.box [.ref 1, iA (j + 2)], dY b, dI vs, dI ars, dT bd, .tree (D.exprs (i6 b (vs.length : Int) j).kids)]; have e1 : (j + 2 : Int) = (j + 1 + 1) := (by omega); rw [e1, bA2 (by omega)] <;> rfl)
theorem aS3 (vs ars : List Int) (bd : List b5) (e : b6) : c8.ok Try.prog (C6 100 [pA 0, eA e 3] ([dI vs, dI ars, dT bd] ++ eS e) (bA (c6 vs.length ars.length e))) := B6 ⟨vs, ars, bd⟩ e
abbrev drC (b : List UInt8) (vs ars : List Int) (bd : List b5) (d : Nat) (j n : Int) : c8 := ⟨166, [.ptr 0 0, pA 2, iA n], dwS b j vs ars bd, dwS b (D5 b vs.length ars.length d j).2 vs ars bd ++ exO (D5 b vs.length ars.length d j).1, exA (D5 b vs.length ars.length d j).1 5⟩
section
variable {b : List UInt8} {nv na : Int} {d : Nat} {j : Int}
theorem by4 (h : d < 2) : D5 b nv na d j = (i6 b nv j, j + 2) := by
 match d, h with
 | 0, _ => rfl
 | 1, _ => simp [D5]
theorem br5 (h : 0 < d) (h1 : pk b j 4 = 0) : D5 b nv na (d + 1) j = (i6 b nv (j + 1), j + 3) := by rw [D5, if_neg (by omega), if_pos h1]
theorem bi4 (h : 0 < d) (h1 : ¬ pk b j 4 = 0) (h2 : nm b (j + 1) E2 = 3) (h3 : na = 0) : D5 b nv na (d + 1) j = (i6 b nv (j + 2), j + 4) := by rw [D5, if_neg (by omega), if_neg h1, if_pos h2, if_pos h3]
theorem bi3 (h : 0 < d) (h1 : ¬ pk b j 4 = 0) (h2 : nm b (j + 1) E2 = 3) (h3 : ¬ na = 0) : D5 b nv na (d + 1) j = (⟨3, pk b (j + 2) na, [i6 b nv (j + 3)]⟩, j + 5) := by rw [D5, if_neg (by omega), if_neg h1, if_pos h2, if_neg h3]
abbrev drK (b : List UInt8) (nv na : Int) (d : Nat) (j : Int) (k : Nat) : List b6 × Int := A1 (D5 b nv na d) k (j + 2)
theorem by3 (h : 0 < d) (h1 : ¬ pk b j 4 = 0) (h2 : ¬ nm b (j + 1) E2 = 3) {m : Int} (h3 : 0 ≤ m) (h4 : ¬ m > 0) : D5 b nv na (d + 1) j = (⟨nm b (j + 1) E2, 0, (drK b nv na d j (e7 (nm b (j + 1) E2) - m).toNat).1⟩, (drK b nv na d j (e7 (nm b (j + 1) E2) - m).toNat).2) := by
 have e : m = 0 := by omega
 rw [e, Int.sub_zero, D5, if_neg (by omega), if_neg h1, if_neg h2]
theorem aY0 {x m : Int} (h3 : m > 0) (h4 : m ≤ x) : drK b nv na d j (x - (m - 1)).toNat = ((drK b nv na d j (x - m).toNat).1 ++ [(D5 b nv na d (drK b nv na d j (x - m).toNat).2).1], (D5 b nv na d (drK b nv na d j (x - m).toNat).2).2) := by
 rw [show (x - (m - 1)).toNat = (x - m).toNat + 1 by omega]; rfl
theorem bA4 (r0 : 0 ≤ j) (r1 : j ≤ 900000000) : 0 ≤ e7 (nm b (j + 1) E2) ∧ e7 (nm b (j + 1) E2) ≤ 3 := by
 have h := ap7 b (k := j + 1) (l := E2) (by omega) (by omega) (by simp)
 simp only [bH4, bI7, List.not_mem_nil, or_false] at h
 rcases h with h | h | h | h | h | h | h | h | h <;> rw [h] <;> decide
theorem by6 (r0 : 0 ≤ j) {k : Nat} (hk : k ≤ 3) : j + 2 ≤ (drK b nv na d j k).2 ∧ (drK b nv na d j k).2 ≤ j + 2 + 3 * cE d := by
 have hc := at5 d
 have h := bb4 (f := D5 b nv na d) (c := cE d) (m := 3) (by omega) k (j + 2) hk fun i _ _ => aK8 b nv na d i
 have h4 : (k : Int) * cE d ≤ 3 * cE d := bJ6 (by omega) (by omega)
 unfold drK; omega
theorem by5 {x m : Int} (r0 : 0 ≤ j) (h3 : m > 0) (h4 : m ≤ x) (h5 : x ≤ 3) (r1 : j + cE (d + 1) ≤ 800000000) : (drK b nv na d j (x - m).toNat).2 + cE d ≤ 800000000 := by
 have hc := at5 d
 have hce : cE (d + 1) = 5 + 3 * cE d := rfl
 have hm : (x - m).toNat ≤ 2 := by omega
 have h := bb4 (f := D5 b nv na d) (c := cE d) (m := 2) (by omega) (x - m).toNat (j + 2) hm fun i _ _ => aK8 b nv na d i
 have h4 : ((x - m).toNat : Int) * cE d ≤ 2 * cE d := bJ6 (by omega) (by omega)
 unfold drK; omega
end
theorem aV4 (b : List UInt8) (vs ars : List Int) (bd : List b5) (d : Nat) (hd : d < 2) (j n : Int) (hn : n = d) (r0 : 0 ≤ j) (r1 : j ≤ 900000000) : c8.ok Try.prog (drC b vs ars bd d j n) := by
 refine z7 62 Try.func166 [.box [.ref 1, iA j], dY b, dI vs, dI ars, dT bd] [(0, .ptr 0 0), (1, pA 2), (2, iA n)] fun G => ?_; refine wp_seq (d7 G b8 [0, 1, 2, 3, 4, 5, 13] [.box [.ref 1, iA j], dY b, dI vs, dI ars, dT bd, .box (pL 2), .box [iA 0, iA 0, .v (.slice none 0 0)]] [(0, .ptr 0 0), (2, iA n), (4, .ptr 5 0), (6, .ptr 6 0)] fun G => b0 (wp_seq (wp_seq ?_))); cases h0 : (decide (n < 2))
 ·have q0 := O8 h0; exact False.elim (by omega)
 ·have q0 := O7 h0; refine c7 G (A6 (fc h0 fz) [(3, 0), (4, 0), (5, 0), (1006, 0)]) [(16, bA true)] fun G => b0 (rT G true (by kernel_rfl) (wp_seq (d7 G (n8 2 (rg 5) (ai2 b j vs ars bd (by assumption) (by assumption))) [0, 1, 2, 3, 4, 5, 6, 23] [.box [.ref 1, iA (j + 2)], dY b, dI vs, dI ars, dT bd, .box (pL 2), .box [iA (i6 b (vs.length : Int) j).kind, iA (i6 b (vs.length : Int) j).value, .tref 7], .tree (D.exprs (i6 b (vs.length : Int) j).kids)] [(0, .ptr 0 0), (2, iA n), (4, .ptr 5 0), (6, .ptr 6 0)] fun G => b0 (wp_ret (c5 ?_))))); exact V5 (.agg [iA (i6 b (vs.length : Int) j).kind, iA (i6 b (vs.length : Int) j).value, .tref 7]) G [0, 1, 2, 3, 4, 7] (by show _ = AV.ren (nth [0, 1, 2, 3, 4, 7]) (.agg [iA (D5 b (vs.length : Int) (ars.length : Int) d j).fst.kind, iA (D5 b (vs.length : Int) (ars.length : Int) d j).fst.value, .tref 5]); rw [by4 hd] <;> rfl) (by show _ = mR [0, 1, 2, 3, 4, 7] [.box [.ref 1, iA (D5 b (vs.length : Int) (ars.length : Int) d j).snd], dY b, dI vs, dI ars, dT bd, .tree (D.exprs (D5 b (vs.length : Int) (ars.length : Int) d j).fst.kids)]; rw [by4 hd] <;> rfl)
abbrev an3 (b : List UInt8) (vs : List Int) (ars : List Int) (d : Nat) (j : Int) (k : Int) := drK b (vs.length : Int) (ars.length : Int) d j (e7 (nm b (j + 1) E2) - k).toNat
abbrev aj3 (b : List UInt8) (vs : List Int) (ars : List Int) (d : Nat) (j : Int) : AV := (.agg [iA (D5 b (vs.length : Int) (ars.length : Int) (d + 1) j).fst.kind, iA (D5 b (vs.length : Int) (ars.length : Int) (d + 1) j).fst.value, .tref 5])
abbrev aj2 (b : List UInt8) (vs : List Int) (ars : List Int) (bd : List b5) (d : Nat) (j : Int) : List It := [.box [.ref 1, iA (D5 b (vs.length : Int) (ars.length : Int) (d + 1) j).snd], dY b, dI vs, dI ars, dT bd, .tree (D.exprs (D5 b (vs.length : Int) (ars.length : Int) (d + 1) j).fst.kids)]
abbrev aw6 : It := .box [iA 0, iA 0, .v (.slice none 0 0)]
abbrev S9 (n : Int) (r0 : List (Nat × AV)) : List (Nat × AV) := (0, .ptr 0 0) :: (2, iA n) :: (4, .ptr 5 0) :: (6, .ptr 6 0) :: r0
theorem bf9 (b : List UInt8) (vs ars : List Int) (bd : List b5) (d : Nat) (hd : 0 < d) (hd2 : d ≤ 100) (ih : ∀ (j n : Int), n = d → 0 ≤ j → j + cE d ≤ 800000000 → c8.ok Try.prog (drC b vs ars bd d j n)) (j n : Int) (hn : n = ((d + 1 : Nat) : Int)) (r0 : 0 ≤ j) (r1 : j + cE (d + 1) ≤ 800000000) : c8.ok Try.prog (drC b vs ars bd (d + 1) j n) := by
  refine z7 62 Try.func166 [.box [.ref 1, iA j], dY b, dI vs, dI ars, dT bd] [(0, .ptr 0 0), (1, pA 2), (2, iA n)] fun G => ?_; have hc := at5 d; have hce : cE (d + 1) = 5 + 3 * cE d := rfl; have har := bA4 (b := b) (j := j) r0 (by omega); refine wp_seq (d7 G b8 [0, 1, 2, 3, 4, 5, 13] [.box [.ref 1, iA j], dY b, dI vs, dI ars, dT bd, .box (pL 2), aw6] (S9 n []) fun G => b0 (wp_seq (wp_seq ?_))); cases h0 : (decide (n < 2))
  ·
   have q0 := O8 h0; refine d7 G (s7 (j5 4 [0, 1] (A4 b j 4 (by assumption) (by omega)) s6) (fc h0 fz) [(3, 0), (4, 0), (5, 0), (1006, 0)]) (rg 7) [.box [.ref 1, iA (j + 1)], dY b, dI vs, dI ars, dT bd, .box (pL 2), aw6] (S9 n [(16, bA (pk b j 4 == 0))]) fun G => b0 (L5 G (fun h1 q1 => ?_) fun h1 q1 => ?_)
   ·
    refine wp_skip (b0 (wp_seq (d7 G (n8 2 [0, 1, 15] (c8.lend (D9 b (j + 1) E2 (by simp [h0, h1]) (by omega) (by omega)) [.no, .no, .row 3])) (rg 7) [.box [.ref 1, iA (j + 1 + 1)], dY b, dI vs, dI ars, dT bd, .box (pL 2), aw6] (S9 n [(7, iA (nm b (j + 1) E2))]) fun G => b0 (wp_seq (wp_seq (c7 G b8 [(24, bA (nm b (j + 1) E2 == 3))] fun G => b0 (L5 G (fun h2 q2 => ?_) fun h2 q2 => ?_)))))))
    ·
     refine wp_skip (b0 (wp_seq (d7 G b8 [0, 1, 2, 3, 4, 5, 6, 23] [.box [.ref 1, iA (j + 1 + 1)], dY b, dI vs, dI ars, dT bd, .box (pL 2), aw6, .box [iA (nm b (j + 1) E2), iA 0, .v (.slice none 0 0)]] (S9 n [(7, iA (nm b (j + 1) E2)), (8, .ptr 7 0)]) fun G => b0 (wp_seq (wp_seq (y5 G (n8 1 [] (Y2 (nm b (j + 1) E2))) (S9 n [(8, .ptr 7 0), (9, iA (e7 (nm b (j + 1) E2)))]) fun G => b0 (wp_block ?_))))))); obtain ⟨ρ, G⟩ := G.nilT 8 (.exprs []) [.box [.ref 1, iA (j + 1 + 1)], dY b, dI vs, dI ars, dT bd, .box (pL 2), .box [iA 0, iA 0, .v (.slice none 0 0)], .box [iA (nm b (j + 1) E2), iA 0, .tref 8]] (S9 n [(8, .ptr 7 0), (9, iA (e7 (nm b (j + 1) E2)))]); replace G := G.as [.box [.ref 1, iA (drK b (vs.length : Int) (ars.length : Int) d j (e7 (nm b (j + 1) E2) - e7 (nm b (j + 1) E2)).toNat).snd], dY b, dI vs, dI ars, dT bd, .box (pL 2), .box [iA 0, iA 0, .v (.slice none 0 0)], .box [iA (nm b (j + 1) E2), iA 0, .tref 8], .tree (D.exprs (drK b (vs.length : Int) (ars.length : Int) d j (e7 (nm b (j + 1) E2) - e7 (nm b (j + 1) E2)).toNat).fst)] (S9 n [(8, .ptr 7 0), (9, iA (e7 (nm b (j + 1) E2)))]) (by have e1 : ((drK b (vs.length : Int) (ars.length : Int) d j (e7 (nm b (j + 1) E2) - e7 (nm b (j + 1) E2)).toNat).snd : Int) = (j + 1 + 1) := (by rw [Int.sub_self]; show j + 2 = j + 1 + 1; omega); have e2 : ((drK b (vs.length : Int) (ars.length : Int) d j (e7 (nm b (j + 1) E2) - e7 (nm b (j + 1) E2)).toNat).fst : List b6) = ([]) := (by rw [Int.sub_self]; rfl); (first | rw [e1, e2] | simp only [e1, e2]) <;> rfl) (by kernel_rfl); refine l7 (κ := Int) (fun k => 0 ≤ k ∧ k ≤ e7 (nm b (j + 1) E2)) (fun k => k.toNat) (fun k => [.box [.ref 1, iA (drK b vs.length ars.length d j (e7 (nm b (j + 1) E2) - k).toNat).2], dY b, dI vs, dI ars, dT bd, .box (pL 2), .box [iA 0, iA 0, .v (.slice none 0 0)], .box [iA (nm b (j + 1) E2), iA 0, .tref 8], .tree (.exprs (drK b vs.length ars.length d j (e7 (nm b (j + 1) E2) - k).toNat).1)]) (fun k => [(0, .ptr 0 0), (2, iA n), (4, .ptr 5 0), (6, .ptr 6 0), (8, .ptr 7 0), (9, iA k)]) (e7 (nm b (j + 1) E2)) (by omega) (l9.at G _ _) ?_; clear G; intro k ρ a w hp G; replace G := l9.at G [.box [.ref 1, iA (an3 b vs ars d j k).snd], dY b, dI vs, dI ars, dT bd, .box (pL 2), aw6, .box [iA (nm b (j + 1) E2), iA 0, .tref 8], .tree (D.exprs (an3 b vs ars d j k).fst)] (S9 n [(8, .ptr 7 0), (9, iA k)]); have hkb := by6 (b := b) (nv := vs.length) (na := ars.length) (d := d) (j := j) r0 (k := (e7 (nm b (j + 1) E2) - k).toNat) (by omega); have hkl : (drK b vs.length ars.length d j (e7 (nm b (j + 1) E2) - k).toNat).1.length = (e7 (nm b (j + 1) E2) - k).toNat := aD4 _ _ _; refine wp_seq (wp_seq (c7 G b8 [(48, bA (decide (k > 0)))] fun G => b0 (Q7 G (fun h4 q4 => ?_) fun h4 q4 => ?_)))
     · refine wp_exit (l6 (l6 (l5 (b0 (wp_seq (d7 G b8 [0, 1, 2, 3, 4, 6, 8] [.box [.ref 1, iA (an3 b vs ars d j k).snd], dY b, dI vs, dI ars, dT bd, .box [iA (nm b (j + 1) E2), iA 0, .tref 6], .tree (D.exprs (an3 b vs ars d j k).fst)] [(6, .ptr 5 0)] fun G => b0 (wp_ret ?_))))))); exact V5 (.agg [iA (nm b (j + 1) E2), iA 0, .tref 6]) G [0, 1, 2, 3, 4, 6] (by show _ = AV.ren (nth [0, 1, 2, 3, 4, 6]) (aj3 b vs ars d j); unfold aj3; rw [by3 (m := k) hd (by omega) (by omega) (by omega) (by omega)] <;> rfl) (by show _ = mR [0, 1, 2, 3, 4, 6] (aj2 b vs ars bd d j); unfold aj2; rw [by3 (m := k) hd (by omega) (by omega) (by omega) (by omega)] <;> rfl)
     · refine wp_skip (b0 (wp_seq (wp_block (L7 G (n8 6 (rg 5) (ih ((drK b (vs.length : Int) (ars.length : Int) d j (e7 (nm b (j + 1) E2) - k).toNat).snd) (n - 1) (by omega) (by omega) (by5 (by omega) (by omega) (by omega) (by omega) r1))) [0, 1, 0, 0, 0, 16, 60, 124, 255, 511, 1023] [0, 1, 2, 3, 4, 5, 6, 7, 73] [.box [.ref 1, iA (D5 b (vs.length : Int) (ars.length : Int) d (an3 b vs ars d j k).snd).snd], dY b, dI vs, dI ars, dT bd, .box (pL 2), aw6, .box [iA (nm b (j + 1) E2), iA 0, .tref 8], .tree (D.exprs ((an3 b vs ars d j k).fst ++ [qzE (D5 b (vs.length : Int) (ars.length : Int) d (an3 b vs ars d j k).snd).fst]))] (S9 n [(8, .ptr 7 0), (9, iA k)]) ((wO (n - 1)) :: (aP ((drK b (vs.length : Int) (ars.length : Int) d j (e7 (nm b (j + 1) E2) - k).toNat).fst.length + 1) 40 [])) ⟨oW (by omega), (aK (by omega) bG8)⟩ fun G => j4 (b0 (C1 G b8 [(9, iA (k - 1))] [wO (k - 1)] (o1 (by omega)) fun G => b0 ?_)))))); exact N8 G (k - 1) (by omega) (by omega) (rg 9) (by have e1 : ((drK b (vs.length : Int) (ars.length : Int) d j (e7 (nm b (j + 1) E2) - (k - 1)).toNat).snd : Int) = ((D5 b (vs.length : Int) (ars.length : Int) d (drK b (vs.length : Int) (ars.length : Int) d j (e7 (nm b (j + 1) E2) - k).toNat).snd).snd) := (by rw [aY0 (by omega) (by omega)]; done); have e2 : ((drK b (vs.length : Int) (ars.length : Int) d j (e7 (nm b (j + 1) E2) - (k - 1)).toNat).fst : List b6) = ((drK b (vs.length : Int) (ars.length : Int) d j (e7 (nm b (j + 1) E2) - k).toNat).fst ++ [qzE (D5 b (vs.length : Int) (ars.length : Int) d (drK b (vs.length : Int) (ars.length : Int) d j (e7 (nm b (j + 1) E2) - k).toNat).snd).fst]) := (by rw [aY0 (by omega) (by omega)]; (simp only [b6.eta]; done)); (first | rw [e1, e2] | simp only [e1, e2]) <;> rfl)
    ·
     refine wp_seq (wp_seq (c7 G b8 [(28, bA ((ars.length : Int) == 0))] fun G => b0 (L5 G (fun h3 q3 => ?_) fun h3 q3 => ?_)))
     · refine wp_skip (b0 (wp_seq (ap1 G (s7 (j5 5 [0, 1] (A4 b (j + 1 + 1) ((ars.length : Int)) (by omega) (by omega)) (j5 8 (rg 5) (ai2 b (j + 1 + 1 + 1) vs ars bd (by omega) (by omega)) s6)) fz []) [0, 0, 0, 4, 12, 30, 0, 0, 254, 510, 1023, 2047] [0, 1, 2, 3, 4, 5, 6, 79] [.box [.ref 1, iA (j + 1 + 1 + 1 + 2)], dY b, dI vs, dI ars, dT bd, .box (pL 2), .box [iA (nm b (j + 1) E2), iA (pk b (j + 1 + 1) (ars.length : Int)), .tref 7], .tree (D.exprs [qzE (i6 b (vs.length : Int) (j + 1 + 1 + 1))])] (S9 n [(7, iA (nm b (j + 1) E2))]) fun G => b0 (wp_ret (c5 ?_))))); exact V5 (.agg [iA (nm b (j + 1) E2), iA (pk b (j + 1 + 1) (ars.length : Int)), .tref 7]) G [0, 1, 2, 3, 4, 7] (by show _ = AV.ren (nth [0, 1, 2, 3, 4, 7]) (aj3 b vs ars d j); unfold aj3; have e1 : ((D5 b (vs.length : Int) (ars.length : Int) (d + 1) j).fst.kind : Int) = (nm b (j + 1) E2) := (by rw [bi3 hd (by omega) (by omega) (by omega)]; (simp only [Int.add_assoc, Int.reduceAdd, b6.eta, b6.kids, b6.kind, b6.value]; omega)); have e2 : ((D5 b (vs.length : Int) (ars.length : Int) (d + 1) j).fst.value : Int) = (pk b (j + 1 + 1) (ars.length : Int)) := (by rw [bi3 hd (by omega) (by omega) (by omega)]; (simp only [Int.add_assoc, Int.reduceAdd, b6.eta, b6.kids, b6.kind, b6.value]; done)); (first | rw [e1, e2] | simp only [e1, e2]) <;> rfl) (by show _ = mR [0, 1, 2, 3, 4, 7] (aj2 b vs ars bd d j); unfold aj2; have e1 : ((D5 b (vs.length : Int) (ars.length : Int) (d + 1) j).snd : Int) = (j + 1 + 1 + 1 + 2) := (by rw [bi3 hd (by omega) (by omega) (by omega)]; (simp only [Int.add_assoc, Int.reduceAdd, b6.eta, b6.kids, b6.kind, b6.value]; done)); have e2 : ((D5 b (vs.length : Int) (ars.length : Int) (d + 1) j).fst.kids : List b6) = ([qzE (i6 b (vs.length : Int) (j + 1 + 1 + 1))]) := (by rw [bi3 hd (by omega) (by omega) (by omega)]; show [_] = _; simp only [Int.add_assoc, Int.reduceAdd, b6.eta]; done); (first | rw [e1, e2] | simp only [e1, e2]) <;> rfl)
     · refine wp_seq (d7 G (n8 2 (rg 5) (ai2 b (j + 1 + 1) vs ars bd (by omega) (by omega))) [0, 1, 2, 3, 4, 5, 6, 23] [.box [.ref 1, iA (j + 1 + 1 + 2)], dY b, dI vs, dI ars, dT bd, .box (pL 2), .box [iA (i6 b (vs.length : Int) (j + 1 + 1)).kind, iA (i6 b (vs.length : Int) (j + 1 + 1)).value, .tref 7], .tree (D.exprs (i6 b (vs.length : Int) (j + 1 + 1)).kids)] (S9 n [(7, iA (nm b (j + 1) E2))]) fun G => b0 (wp_ret (c5 (c5 ?_)))); exact V5 (.agg [iA (i6 b (vs.length : Int) (j + 1 + 1)).kind, iA (i6 b (vs.length : Int) (j + 1 + 1)).value, .tref 7]) G [0, 1, 2, 3, 4, 7] (by show _ = AV.ren (nth [0, 1, 2, 3, 4, 7]) (aj3 b vs ars d j); unfold aj3; have e1 : ((D5 b (vs.length : Int) (ars.length : Int) (d + 1) j).fst.kind : Int) = ((i6 b (vs.length : Int) (j + 1 + 1)).kind) := (by rw [bi4 hd (by omega) (by omega) (by omega)]; (simp only [Int.add_assoc, Int.reduceAdd, b6.eta, b6.kids, b6.kind, b6.value]; done)); have e2 : ((D5 b (vs.length : Int) (ars.length : Int) (d + 1) j).fst.value : Int) = ((i6 b (vs.length : Int) (j + 1 + 1)).value) := (by rw [bi4 hd (by omega) (by omega) (by omega)]; (simp only [Int.add_assoc, Int.reduceAdd, b6.eta, b6.kids, b6.kind, b6.value]; done)); (first | rw [e1, e2] | simp only [e1, e2]) <;> rfl) (by show _ = mR [0, 1, 2, 3, 4, 7] (aj2 b vs ars bd d j); unfold aj2; have e1 : ((D5 b (vs.length : Int) (ars.length : Int) (d + 1) j).snd : Int) = (j + 1 + 1 + 2) := (by rw [bi4 hd (by omega) (by omega) (by omega)]; (simp only [Int.add_assoc, Int.reduceAdd, b6.eta, b6.kids, b6.kind, b6.value]; done)); have e2 : ((D5 b (vs.length : Int) (ars.length : Int) (d + 1) j).fst : b6) = (i6 b (vs.length : Int) (j + 1 + 1)) := (by rw [bi4 hd (by omega) (by omega) (by omega)]; (simp only [Int.add_assoc, Int.reduceAdd, b6.eta, b6.kids, b6.kind, b6.value]; done)); (first | rw [e1, e2] | simp only [e1, e2]) <;> rfl)
   · refine wp_seq (d7 G (n8 2 (rg 5) (ai2 b (j + 1) vs ars bd (by omega) (by omega))) [0, 1, 2, 3, 4, 5, 6, 23] [.box [.ref 1, iA (j + 1 + 2)], dY b, dI vs, dI ars, dT bd, .box (pL 2), .box [iA (i6 b (vs.length : Int) (j + 1)).kind, iA (i6 b (vs.length : Int) (j + 1)).value, .tref 7], .tree (D.exprs (i6 b (vs.length : Int) (j + 1)).kids)] (S9 n []) fun G => b0 (wp_ret (c5 ?_))); exact V5 (.agg [iA (i6 b (vs.length : Int) (j + 1)).kind, iA (i6 b (vs.length : Int) (j + 1)).value, .tref 7]) G [0, 1, 2, 3, 4, 7] (by show _ = AV.ren (nth [0, 1, 2, 3, 4, 7]) (aj3 b vs ars d j); unfold aj3; rw [br5 hd (by omega)] <;> rfl) (by show _ = mR [0, 1, 2, 3, 4, 7] (aj2 b vs ars bd d j); unfold aj2; have e1 : ((D5 b (vs.length : Int) (ars.length : Int) (d + 1) j).snd : Int) = (j + 1 + 2) := (by rw [br5 hd (by omega)]; (simp only [Int.add_assoc, Int.reduceAdd, b6.eta, b6.kids, b6.kind, b6.value]; done)); rw [e1, br5 hd (by omega)] <;> rfl)
  · have q0 := O7 h0; exact False.elim (by omega)
theorem bd2 (b : List UInt8) (vs ars : List Int) (bd : List b5) : ∀ (d : Nat) (j n : Int), d ≤ 100 → n = d → 0 ≤ j → j + cE d ≤ 800000000 → c8.ok Try.prog (drC b vs ars bd d j n)
 | 0, j, n, _, hn, r0, r1 => aV4 b vs ars bd 0 (by omega) j n hn r0 (by have := at5 0; omega)
 | 1, j, n, _, hn, r0, r1 => aV4 b vs ars bd 1 (by omega) j n hn r0 (by have := at5 1; omega)
 | d + 2, j, n, hd, hn, r0, r1 => bf9 b vs ars bd (d + 1) (by omega) (by omega) (fun j n => bd2 b vs ars bd (d + 1) j n (by omega)) j n hn r0 r1
abbrev smC (b : List UInt8) (vs ars : List Int) (bd : List b5) (j : Int) : c8 := ⟨95, [.ptr 0 0, pA 2], dwS b j vs ars bd, dwS b (m9 b vs.length ars.length j).2 vs ars bd ++ exO (m9 b vs.length ars.length j).1, exA (m9 b vs.length ars.length j).1 5⟩
section
variable {b : List UInt8} {nv na : Nat} {j : Int}
theorem bt8 (h : c6 nv na (D5 b nv na (nm b j dpL).toNat (j + 1)).1 = true) : m9 b nv na j = D5 b nv na (nm b j dpL).toNat (j + 1) := if_pos h
theorem bt7 (h : c6 nv na (D5 b nv na (nm b j dpL).toNat (j + 1)).1 = false) : m9 b nv na j = (i6 b nv (D5 b nv na (nm b j dpL).toNat (j + 1)).2, (D5 b nv na (nm b j dpL).toNat (j + 1)).2 + 2) := if_neg (by rw [h]; decide)
theorem bB5 (r0 : 0 ≤ j) (r1 : j ≤ 700000000) : cE (nm b j dpL).toNat ≤ 364 := cE4 (dp4 b r0 (by omega)).2.2
end
abbrev P2 (b : List UInt8) (vs : List Int) (ars : List Int) (j : Int) := D5 b (vs.length : Int) (ars.length : Int) (nm b j dpL).toNat (j + 1)
theorem N3 (b : List UInt8) (vs ars : List Int) (bd : List b5) (j : Int) (r0 : 0 ≤ j) (r1 : j ≤ 700000000) : c8.ok Try.prog (smC b vs ars bd j) := by
 have hdr := fun (i n : Int) => bd2 b vs ars bd (nm b j dpL).toNat i n (bI3 (dp4 b r0 (by omega)).2.2 (by omega))
 refine z7 19 Try.func95 [.box [.ref 1, iA j], dY b, dI vs, dI ars, dT bd] [(0, .ptr 0 0), (1, pA 2)] fun G => ?_; have hd4 := bB5 (b := b) r0 r1; have hdb := aK8 b vs.length ars.length (nm b j dpL).toNat (j + 1); refine wp_seq (d7 G b8 [0, 1, 2, 3, 4, 5, 13] [.box [.ref 1, iA j], dY b, dI vs, dI ars, dT bd, .box (pL 2), .box [iA 0, iA 0, .v (.slice none 0 0)]] [(0, .ptr 0 0), (3, .ptr 5 0), (4, .ptr 6 0)] fun G => b0 (wp_seq (ap1 G (s7 (j5 4 [0, 1, 31] (c8.lend (D9 b j dpL (List.cons_ne_nil _ _) (by assumption) (by omega)) [.no, .no, .row 3]) (j5 5 (rg 5) (hdr (j + 1) (nm b j dpL) (br6 b (by omega) (by omega)) (by omega) (by omega)) s6)) fz []) [0, 0, 0, 0, 12, 31, 0, 127] [0, 1, 2, 3, 4, 5, 6, 47, 55] [.box [.ref 1, iA (P2 b vs ars j).snd], dY b, dI vs, dI ars, dT bd, .box (pL 2), .box [iA 0, iA 0, .v (.slice none 0 0)], .tree (D.exprs (P2 b vs ars j).fst.kids), .box [iA (P2 b vs ars j).fst.kind, iA (P2 b vs ars j).fst.value, .tref 7]] [(0, .ptr 0 0), (3, .ptr 5 0), (4, .ptr 6 0), (5, .ptr 8 0)] fun G => b0 (wp_seq (wp_seq (c7 G (n8 2 [2, 3, 4, 7] (c8.lend (aS3 vs ars bd ((D5 b (vs.length : Int) (ars.length : Int) (nm b j dpL).toNat (j + 1)).fst)) [.no, .no, .no, .tree])) [(14, bA (c6 vs.length ars.length (P2 b vs ars j).fst))] fun G => b0 (rcB (b := c6 vs.length ars.length (D5 b (vs.length : Int) (ars.length : Int) (nm b j dpL).toNat (j + 1)).fst) G (fun h0 => ?_) fun h0 => ?_)))))))
 ·refine wp_skip (b0 (wp_seq (d7 G (n8 2 (rg 5) (ai2 b ((D5 b (vs.length : Int) (ars.length : Int) (nm b j dpL).toNat (j + 1)).snd) vs ars bd (by omega) (by omega))) [0, 1, 2, 3, 4, 6, 25] [.box [.ref 1, iA ((P2 b vs ars j).snd + 2)], dY b, dI vs, dI ars, dT bd, .box [iA (i6 b (vs.length : Int) (P2 b vs ars j).snd).kind, iA (i6 b (vs.length : Int) (P2 b vs ars j).snd).value, .tref 6], .tree (D.exprs (i6 b (vs.length : Int) (P2 b vs ars j).snd).kids)] [(4, .ptr 5 0)] fun G => b0 (wp_ret ?_)))); exact V5 (.agg [iA (i6 b (vs.length : Int) (D5 b (vs.length : Int) (ars.length : Int) (nm b j dpL).toNat (j + 1)).snd).kind, iA (i6 b (vs.length : Int) (D5 b (vs.length : Int) (ars.length : Int) (nm b j dpL).toNat (j + 1)).snd).value, .tref 6]) G [0, 1, 2, 3, 4, 6] (by show _ = AV.ren (nth [0, 1, 2, 3, 4, 6]) (.agg [iA (m9 b vs.length ars.length j).fst.kind, iA (m9 b vs.length ars.length j).fst.value, .tref 5]); rw [bt7 (by with_reducible assumption)] <;> rfl) (by show _ = mR [0, 1, 2, 3, 4, 6] [.box [.ref 1, iA (m9 b vs.length ars.length j).snd], dY b, dI vs, dI ars, dT bd, .tree (D.exprs (m9 b vs.length ars.length j).fst.kids)]; rw [bt7 (by with_reducible assumption)] <;> rfl)
 ·refine wp_seq (d7 G b8 (rg 8) [.box [.ref 1, iA (P2 b vs ars j).snd], dY b, dI vs, dI ars, dT bd, .box (pL 2), .box [iA (P2 b vs ars j).fst.kind, iA (P2 b vs ars j).fst.value, .tref 7], .tree (D.exprs (P2 b vs ars j).fst.kids)] [(0, .ptr 0 0), (3, .ptr 5 0), (4, .ptr 6 0)] fun G => b0 (wp_ret (c5 ?_))); exact V5 (.agg [iA (D5 b (vs.length : Int) (ars.length : Int) (nm b j dpL).toNat (j + 1)).fst.kind, iA (D5 b (vs.length : Int) (ars.length : Int) (nm b j dpL).toNat (j + 1)).fst.value, .tref 7]) G [0, 1, 2, 3, 4, 7] (by show _ = AV.ren (nth [0, 1, 2, 3, 4, 7]) (.agg [iA (m9 b vs.length ars.length j).fst.kind, iA (m9 b vs.length ars.length j).fst.value, .tref 5]); rw [bt8 (by with_reducible assumption)] <;> rfl) (by show _ = mR [0, 1, 2, 3, 4, 7] [.box [.ref 1, iA (m9 b vs.length ars.length j).snd], dY b, dI vs, dI ars, dT bd, .tree (D.exprs (m9 b vs.length ars.length j).fst.kids)]; rw [bt8 (by with_reducible assumption)] <;> rfl)
abbrev stO (s : b5) : List It := [.tree (.exprs s.index.kids), .tree (.exprs s.value.kids), .tree (.stmts s.body), .tree (.stmts s.els)]
abbrev stA (s : b5) (r : Nat) : AV := .agg [iA s.kind, iA s.target, iA s.index.kind, iA s.index.value, .tref r, iA s.value.kind, iA s.value.value, .tref (r + 1), iA s.count, .tref (r + 2), .tref (r + 3)]
abbrev dsC (b : List UInt8) (vs ars : List Int) (bd : List b5) (d : Nat) (j n : Int) : c8 := ⟨209, [.ptr 0 0, pA 2, iA n], dwS b j vs ars bd, dwS b (v8 b vs.length ars.length d j).2 vs ars bd ++ stO (v8 b vs.length ars.length d j).1, stA (v8 b vs.length ars.length d j).1 5⟩
abbrev dbC (b : List UInt8) (vs ars : List Int) (bd : List b5) (d : Nat) (m : Nat) (j n c : Int) : c8 := ⟨165, [.ptr 0 0, pA 2, iA n, iA c], dwS b j vs ars bd, dwS b (A1 (v8 b vs.length ars.length d) m j).2 vs ars bd ++ [.tree (.stmts (A1 (v8 b vs.length ars.length d) m j).1)], .tref 5⟩
section
variable {b : List UInt8} {nv na d : Nat} {j : Int}
theorem a48 (h : nm b j D2 = 2) (h1 : 0 < (na : Int)) : v8 b nv na d j = soS b nv na (j + 1) := by
 cases d <;> (rw [v8, if_pos ⟨h, by omega⟩])
theorem bt4 (h : nm b j D2 = 3) (h1 : 0 < d) : v8 b nv na (d + 1) j = ifS b nv na (v8 b nv na d) (j + 1) := by
 rw [v8, if_neg (by omega), if_pos ⟨h, by omega⟩]
theorem bt3 (h : nm b j D2 = 4) (h1 : 0 < d) : v8 b nv na (d + 1) j = rpS b (v8 b nv na d) (j + 1) := by
 rw [v8, if_neg (by omega), if_neg (by omega), if_pos ⟨h, by omega⟩]
theorem U9 (h : ¬ (nm b j D2 = 2 ∧ 0 < (na : Int))) (h1 : d < 2 ∨ (¬ nm b j D2 = 3 ∧ ¬ nm b j D2 = 4)) : v8 b nv na d j = dfS b nv na (nm b j D2) (j + 1) := by
 match d, h1 with
 | 0, _ => rw [v8, if_neg (by omega)]
 | d + 1, h1 => rw [v8, if_neg (by omega), if_neg (by omega), if_neg (by omega)]
theorem br7 {kd : Int} (h : kd = 5) : dfS b nv na kd j = (⟨5, pk b j nv, noE, (m9 b nv na (j + 1)).1, 0, [], []⟩, (m9 b nv na (j + 1)).2) := by rw [dfS, if_pos h]
theorem aK9 {kd : Int} (h : ¬ kd = 5) : dfS b nv na kd j = (⟨1, pk b j nv, noE, (m9 b nv na (j + 1)).1, 0, [], []⟩, (m9 b nv na (j + 1)).2) := by rw [dfS, if_neg h]
end
section
variable (b : List UInt8) {j : Int}
theorem bF2 (r0 : 0 ≤ j) (r1 : j ≤ 1000000000) : 0 ≤ nm b j ibL ∧ nm b j ibL ≤ 2 := ax5 b (by simp) aQ9 r0 r1
theorem bF1 (r0 : 0 ≤ j) (r1 : j ≤ 1000000000) : 0 ≤ nm b j ieL ∧ nm b j ieL ≤ 2 := ax5 b (by simp) aQ7 r0 r1
theorem bC4 (r0 : 0 ≤ j) (r1 : j ≤ 1000000000) : 0 ≤ nm b j rbL ∧ nm b j rbL ≤ 2 := ax5 b (by simp) aP0 r0 r1
theorem bj7 (d : Nat) : (d = 0 ∧ cS (d - 1) = 402 ∧ cS d ≤ 2010) ∨ cS d = 402 + 4 * cS (d - 1) := by
 cases d with
 | zero => exact .inl ⟨rfl, rfl, by decide⟩
 | succ d => exact .inr rfl
end
section
variable {b : List UInt8} {nv na d : Nat} {j : Int}
theorem aO0 (h : nm b j D2 = 3) (h1 : 1 < d) : v8 b nv na d j = ifS b nv na (v8 b nv na (d - 1)) (j + 1) := by
 match d, h1 with
 | d + 1, h1 => exact bt4 h (by omega)
theorem aN9 (h : nm b j D2 = 4) (h1 : 1 < d) : v8 b nv na d j = rpS b (v8 b nv na (d - 1)) (j + 1) := by
 match d, h1 with
 | d + 1, h1 => exact bt3 h (by omega)
end
abbrev bk8 (b : List UInt8) (vs : List Int) (ars : List Int) (d : Nat) (j : Int) (k : Nat) := v8 b vs.length ars.length d (A1 (v8 b vs.length ars.length d) k j).snd
abbrev aF2 (n : Int) (c : Int) (r0 : List (Nat × AV)) : List (Nat × AV) := (0, .ptr 0 0) :: (2, iA n) :: (3, iA c) :: (5, .ptr 5 0) :: (8, .v (.slice none 0 0)) :: r0
theorem bg0 (b : List UInt8) (vs ars : List Int) (bd : List b5) (d m : Nat) (ih : ∀ (j n : Int), n = d → 0 ≤ j → j + cS d ≤ 600000000 → c8.ok Try.prog (dsC b vs ars bd d j n)) (j n c : Int) (hn : n = d) (hm : c = m) (hm2 : m ≤ 4) (B : Int) (hB : (m : Int) * cS d ≤ B) (r0 : 0 ≤ j) (r1 : j + B ≤ 600000000) : c8.ok Try.prog (dbC b vs ars bd d m j n c) := by
 refine z7 25 Try.func165 [.box [.ref 1, iA j], dY b, dI vs, dI ars, dT bd] [(0, .ptr 0 0), (1, pA 2), (2, iA n), (3, iA c)] fun G => ?_; have hc := ak4 d; refine wp_seq (d7 G b8 (rg 6) [.box [.ref 1, iA j], dY b, dI vs, dI ars, dT bd, .box (pL 2)] (aF2 n c []) fun G => b0 (wp_seq (d7 G b8 (rg 7) [.box [.ref 1, iA j], dY b, dI vs, dI ars, dT bd, .box (pL 2), .tree (D.stmts [])] (aF2 n c [(9, .tref 6)]) fun G => b0 (wp_seq (wp_seq (y5 G b8 (aF2 n c [(9, .tref 6), (10, iA 0)]) fun G => b0 (wp_block ?_))))))); refine l7 (κ := Nat) (fun k => k ≤ m) (fun k => m - k) (fun k => [.box [.ref 1, iA (A1 (v8 b vs.length ars.length d) k j).2], dY b, dI vs, dI ars, dT bd, .box (pL 2), .tree (.stmts (A1 (v8 b vs.length ars.length d) k j).1)]) (fun k => [(0, .ptr 0 0), (2, iA n), (3, iA c), (5, .ptr 5 0), (8, .v (.slice none 0 0)), (9, .tref 6), (10, iA k)]) 0 (by omega) (l9.at G _ _) ?_; clear G; intro k ρ a w hp G; replace G := l9.at G [.box [.ref 1, iA (A1 (v8 b vs.length ars.length d) k j).snd], dY b, dI vs, dI ars, dT bd, .box (pL 2), .tree (D.stmts (A1 (v8 b vs.length ars.length d) k j).fst)] (aF2 n c [(9, .tref 6), (10, iA k)]); have hkb := bn4 b vs.length ars.length (k := j) (i := k) hB (by omega) r0 (by omega); have hkl : (A1 (v8 b vs.length ars.length d) k j).1.length = k := aD4 _ _ _; refine wp_seq (wp_seq (c7 G b8 [(14, bA (decide ((k : Int) < c)))] fun G => b0 (Q7 G (fun h0 q0 => ?_) fun h0 q0 => ?_)))
 ·refine wp_exit (l6 (l6 (l5 (b0 (wp_seq (d7 G b8 [0, 1, 2, 3, 4, 6] [.box [.ref 1, iA (A1 (v8 b vs.length ars.length d) k j).snd], dY b, dI vs, dI ars, dT bd, .tree (D.stmts (A1 (v8 b vs.length ars.length d) k j).fst)] [(8, .tref 5)] fun G => b0 (wp_ret ?_))))))); exact F8 G (rg 6) (by show _ = mR (rg 6) [.box [.ref 1, iA (A1 (v8 b vs.length ars.length d) m j).snd], dY b, dI vs, dI ars, dT bd, .tree (D.stmts (A1 (v8 b vs.length ars.length d) m j).fst)]; rw [show m = k by omega] <;> rfl)
 ·refine wp_skip (b0 (wp_seq (wp_block (P5 G (n8 4 (rg 5) (ih ((A1 (v8 b vs.length ars.length d) k j).snd) n (by assumption) (by omega) (by have := bz9 b vs.length ars.length (k := j) (i := k) hB (by omega) r0 (by omega); omega))) [0, 1, 2, 3, 4, 5, 55] [.box [.ref 1, iA (bk8 b vs ars d j k).snd], dY b, dI vs, dI ars, dT bd, .box (pL 2), .tree (D.stmts ((A1 (v8 b vs.length ars.length d) k j).fst ++ [qzS (bk8 b vs ars d j k).fst]))] (aF2 n c [(9, .tref 6), (10, iA k)]) (aP ((A1 (v8 b vs.length ars.length d) k j).fst.length + 1) 152 []) (aK (by omega) bG8) fun G => j4 (b0 (C1 G b8 [(10, iA ((k : Int) + 1))] [wO ((k : Int) + 1)] (o1 (by omega)) fun G => b0 ?_)))))); exact N8 G (k + 1) (by omega) (by omega) (rg 7) (by have e1 : ((A1 (v8 b vs.length ars.length d) (k + 1) j).fst : List b5) = ((A1 (v8 b vs.length ars.length d) k j).fst ++ [qzS (v8 b vs.length ars.length d (A1 (v8 b vs.length ars.length d) k j).snd).fst]) := (by show _ ++ [_] = _ ++ [_]; unfold qzS; rw [b6.eta, b6.eta, b5.eta]; done); (first | rw [e1] | simp only [e1]) <;> rfl)
abbrev aw5 (b : List UInt8) (vs : List Int) (ars : List Int) (d : Nat) (j : Int) := A1 (v8 b vs.length ars.length (d - 1)) (nm b (m9 b vs.length ars.length (j + 1)).snd ibL).toNat ((m9 b vs.length ars.length (j + 1)).snd + 1)
abbrev aU3 (b : List UInt8) (vs : List Int) (ars : List Int) (d : Nat) (j : Int) := A1 (v8 b vs.length ars.length (d - 1)) (nm b (aw5 b vs ars d j).snd ieL).toNat ((aw5 b vs ars d j).snd + 1)
abbrev J0 (b : List UInt8) (vs : List Int) (ars : List Int) (d : Nat) (j : Int) : AV := (.agg [iA (v8 b vs.length ars.length d j).fst.kind, iA (v8 b vs.length ars.length d j).fst.target, iA (v8 b vs.length ars.length d j).fst.index.kind, iA (v8 b vs.length ars.length d j).fst.index.value, .tref 5, iA (v8 b vs.length ars.length d j).fst.value.kind, iA (v8 b vs.length ars.length d j).fst.value.value, .tref 6, iA (v8 b vs.length ars.length d j).fst.count, .tref 7, .tref 8])
abbrev I9 (b : List UInt8) (vs : List Int) (ars : List Int) (bd : List b5) (d : Nat) (j : Int) : List It := [.box [.ref 1, iA (v8 b vs.length ars.length d j).snd], dY b, dI vs, dI ars, dT bd, .tree (D.exprs (v8 b vs.length ars.length d j).fst.index.kids), .tree (D.exprs (v8 b vs.length ars.length d j).fst.value.kids), .tree (D.stmts (v8 b vs.length ars.length d j).fst.body), .tree (D.stmts (v8 b vs.length ars.length d j).fst.els)]
abbrev ac6 : It := .box [iA 0, iA 0, iA 0, iA 0, .v (.slice none 0 0), iA 0, iA 0, .v (.slice none 0 0), iA 0, .v (.slice none 0 0), .v (.slice none 0 0)]
abbrev aU2 (b : List UInt8) (vs : List Int) (ars : List Int) (j : Int) : It := .box [iA 1, iA (pk b (j + 1) (vs.length : Int)), iA 0, iA 0, .v (.slice none 0 0), iA (m9 b vs.length ars.length (j + 1 + 1)).fst.kind, iA (m9 b vs.length ars.length (j + 1 + 1)).fst.value, .tref 7, iA 0, .v (.slice none 0 0), .v (.slice none 0 0)]
abbrev aU1 (b : List UInt8) (vs : List Int) (ars : List Int) (j : Int) : It := .box [iA 1, iA (pk b (j + 1) (vs.length : Int)), iA 0, iA 0, .v (.slice none 0 0), iA (m9 b vs.length ars.length (j + 1 + 1)).fst.kind, iA (m9 b vs.length ars.length (j + 1 + 1)).fst.value, .tref 6, iA 0, .v (.slice none 0 0), .v (.slice none 0 0)]
abbrev aU0 (b : List UInt8) (vs : List Int) (j : Int) : It := .box [iA 1, iA (pk b (j + 1) (vs.length : Int)), iA 0, iA 0, .v (.slice none 0 0), iA 0, iA 0, .v (.slice none 0 0), iA 0, .v (.slice none 0 0), .v (.slice none 0 0)]
abbrev Z6 (b : List UInt8) (vs : List Int) (ars : List Int) (j : Int) : It := .tree (D.exprs (m9 b vs.length ars.length (j + 1 + 1)).fst.kids)
abbrev N6 (b : List UInt8) (vs : List Int) (ars : List Int) (j : Int) : It := .box [.ref 1, iA (m9 b vs.length ars.length (j + 1 + 1)).snd]
abbrev az3 : It := .box [iA 1, iA 0, iA 0, iA 0, .v (.slice none 0 0), iA 0, iA 0, .v (.slice none 0 0), iA 0, .v (.slice none 0 0), .v (.slice none 0 0)]
abbrev aT4 (b : List UInt8) (vs : List Int) (ars : List Int) (bd : List b5) (j : Int) (r0 : List It) : List It := .box [.ref 1, iA (m9 b vs.length ars.length (j + 1 + 1)).snd] :: dY b :: dI vs :: dI ars :: dT bd :: .box [iA 1, iA (pk b (j + 1) (vs.length : Int)), iA 0, iA 0, .tref 7, iA (m9 b vs.length ars.length (j + 1 + 1)).fst.kind, iA (m9 b vs.length ars.length (j + 1 + 1)).fst.value, .tref 6, iA 0, .tref 8, .tref 9] :: .tree (D.exprs (m9 b vs.length ars.length (j + 1 + 1)).fst.kids) :: .tree (D.exprs []) :: .tree (D.stmts []) :: r0
abbrev aT3 (b : List UInt8) (vs : List Int) (ars : List Int) (bd : List b5) (j : Int) (r0 : List It) : List It := .box [.ref 1, iA (m9 b vs.length ars.length (j + 1 + 1)).snd] :: dY b :: dI vs :: dI ars :: dT bd :: .box [iA 1, iA (pk b (j + 1) (vs.length : Int)), iA 0, iA 0, .tref 7, iA (m9 b vs.length ars.length (j + 1 + 1)).fst.kind, iA (m9 b vs.length ars.length (j + 1 + 1)).fst.value, .tref 6, iA 0, .tref 8, .v (.slice none 0 0)] :: .tree (D.exprs (m9 b vs.length ars.length (j + 1 + 1)).fst.kids) :: .tree (D.exprs []) :: r0
abbrev aT2 (b : List UInt8) (vs : List Int) (ars : List Int) (bd : List b5) (j : Int) (r0 : List It) : List It := .box [.ref 1, iA (m9 b vs.length ars.length (j + 1 + 1)).snd] :: dY b :: dI vs :: dI ars :: dT bd :: .box [iA 1, iA (pk b (j + 1) (vs.length : Int)), iA 0, iA 0, .tref 7, iA (m9 b vs.length ars.length (j + 1 + 1)).fst.kind, iA (m9 b vs.length ars.length (j + 1 + 1)).fst.value, .tref 6, iA 0, .v (.slice none 0 0), .v (.slice none 0 0)] :: .tree (D.exprs (m9 b vs.length ars.length (j + 1 + 1)).fst.kids) :: r0
abbrev M0 (r0 : List (Nat × AV)) : List (Nat × AV) := (0, .ptr 0 0) :: (4, .ptr 5 0) :: (6, .ptr 6 0) :: (8, .ptr 7 0) :: r0
abbrev aF1 (b : List UInt8) (vs : List Int) (ars : List Int) (d : Nat) (j : Int) (r0 : List It) : List It := .box [.ref 1, iA (A1 (v8 b vs.length ars.length (d - 1)) (nm b (j + 1 + 1) rbL).toNat (j + 1 + 1 + 1)).snd] :: dY b :: dI vs :: dI ars :: r0
abbrev ac4 (n : Int) (r0 : List (Nat × AV)) : List (Nat × AV) := (0, .ptr 0 0) :: (2, iA n) :: (4, .ptr 5 0) :: (6, .ptr 6 0) :: r0
abbrev H8 (b : List UInt8) (vs : List Int) (ars : List Int) (bd : List b5) (r0 : List It) : List It := dY b :: dI vs :: dI ars :: dT bd :: .box (pL 2) :: ac6 :: r0
abbrev aT1 (b : List UInt8) (vs : List Int) (ars : List Int) (j : Int) (r0 : List It) : List It := .tree (D.exprs (i6 b (vs.length : Int) (j + 1 + 1)).kids) :: .tree (D.exprs (m9 b vs.length ars.length (j + 1 + 1 + 2)).fst.kids) :: r0
theorem a55 (b : List UInt8) (vs ars : List Int) (bd : List b5) (d : Nat) (hd : d ≤ 3) (ih : ∀ (j n c : Int), 1 < d → n = (d : Int) - 1 → 0 ≤ c → c ≤ 2 → 0 ≤ j → j + 2 * cS (d - 1) ≤ 600000000 → c8.ok Try.prog (dbC b vs ars bd (d - 1) c.toNat j n c)) (j n : Int) (hn : n = d) (r0 : 0 ≤ j) (r1 : j + cS d ≤ 600000000) : c8.ok Try.prog (dsC b vs ars bd d j n) := by
  refine z7 100 Try.func209 [.box [.ref 1, iA j], dY b, dI vs, dI ars, dT bd] [(0, .ptr 0 0), (1, pA 2), (2, iA n)] fun G => ?_; have hc := ak4 (d - 1); have hcd := bj7 d; have hcn := ak4 d; have hsm := aH0 b vs.length ars.length (k := j + 1) (by omega) (by omega); have hib := bF2 b (j := (m9 b vs.length ars.length (j + 1)).2) (by omega) (by omega); have hbb := bn4 b vs.length ars.length (k := (m9 b vs.length ars.length (j + 1)).2 + 1) (i := (nm b (m9 b vs.length ars.length (j + 1)).2 ibL).toNat) (bw5 hib.1 hib.2 (show 0 ≤ cS (d - 1) by omega)) (bH3 _) (by omega) (by omega); have hie := bF1 b (j := (A1 (v8 b vs.length ars.length (d - 1)) (nm b (m9 b vs.length ars.length (j + 1)).2 ibL).toNat ((m9 b vs.length ars.length (j + 1)).2 + 1)).2) (by omega) (by omega); have hrb := bC4 b (j := j + 1 + 1) (by omega) (by omega); refine wp_seq (d7 G b8 [0, 1, 2, 3, 4, 5, 13] (.box [.ref 1, iA j] :: (H8 b vs ars bd [])) (ac4 n []) fun G => b0 (wp_seq (d7 G (n8 2 [0, 1, 15] (c8.lend (D9 b j D2 (List.cons_ne_nil _ _) (by assumption) (by omega)) [.no, .no, .row 3])) (rg 7) (.box [.ref 1, iA (j + 1)] :: (H8 b vs ars bd [])) (ac4 n [(7, iA (nm b j D2))]) fun G => b0 (wp_seq (d7 G b8 [0, 1, 2, 3, 4, 5, 6, 23] (.box [.ref 1, iA (j + 1)] :: (H8 b vs ars bd [.box [iA (nm b j D2), iA 0, iA 0, iA 0, .v (.slice none 0 0), iA 0, iA 0, .v (.slice none 0 0), iA 0, .v (.slice none 0 0), .v (.slice none 0 0)]])) (ac4 n [(7, iA (nm b j D2)), (8, .ptr 7 0)]) fun G => b0 (wp_seq (wp_block (wp_seq ?_)))))))); cases h0 : (nm b j D2 == 2)
  ·
   have q0 := ne_of_beq_false h0; refine c7 G (A6 (fc h0 fz) (us [(3, 6, 0), (1007, 1007, 0)])) [(27, bA false)] fun G => b0 (rF G false (by kernel_rfl) (wp_seq ?_)); cases h1 : (nm b j D2 == 3)
   ·
    have q1 := ne_of_beq_false h1; refine c7 G (A6 (fc h1 fz) [(3, 0), (4, 0), (1005, 0)]) [(50, bA false)] fun G => b0 (rF G false (by kernel_rfl) (wp_seq ?_)); cases h2 : (nm b j D2 == 4)
    ·
     have q2 := ne_of_beq_false h2; refine c7 G (A6 (fc h2 fz) [(3, 0), (4, 0), (1005, 0)]) [(79, bA false)] fun G => b0 (rF G false (by kernel_rfl) (wp_seq (wp_seq (c7 G b8 [(15, bA (nm b j D2 != 5))] fun G => b0 (rcN G (fun h3 q3 => ?_) fun h3 q3 => ?_)))))
     · refine wp_skip (b0 (wp_seq (d7 G (n8 4 [0, 1] (A4 b (j + 1) ((vs.length : Int)) (by omega) (by omega))) (rg 8) (.box [.ref 1, iA (j + 1 + 1)] :: (H8 b vs ars bd [.box [iA (nm b j D2), iA (pk b (j + 1) (vs.length : Int)), iA 0, iA 0, .v (.slice none 0 0), iA 0, iA 0, .v (.slice none 0 0), iA 0, .v (.slice none 0 0), .v (.slice none 0 0)]])) (M0 []) fun G => b0 (d7 G (n8 2 (rg 5) (N3 b vs ars bd (j + 1 + 1) (by omega) (by omega))) [0, 1, 2, 3, 4, 6, 7, 24] [N6 b vs ars j, dY b, dI vs, dI ars, dT bd, ac6, .box [iA (nm b j D2), iA (pk b (j + 1) (vs.length : Int)), iA 0, iA 0, .v (.slice none 0 0), iA (m9 b vs.length ars.length (j + 1 + 1)).fst.kind, iA (m9 b vs.length ars.length (j + 1 + 1)).fst.value, .tref 7, iA 0, .v (.slice none 0 0), .v (.slice none 0 0)], Z6 b vs ars j] [(6, .ptr 5 0), (8, .ptr 6 0)] fun G => j4 (b0 (wp_seq (d7 G b8 [0, 1, 2, 3, 4, 5, 7] [N6 b vs ars j, dY b, dI vs, dI ars, dT bd, .box [iA (nm b j D2), iA (pk b (j + 1) (vs.length : Int)), iA 0, iA 0, .v (.slice none 0 0), iA (m9 b vs.length ars.length (j + 1 + 1)).fst.kind, iA (m9 b vs.length ars.length (j + 1 + 1)).fst.value, .tref 6, iA 0, .v (.slice none 0 0), .v (.slice none 0 0)], Z6 b vs ars j] [(6, .ptr 5 0)] fun G => b0 (wp_ret ?_)))))))); obtain ⟨ρ, G⟩ := G.nilT 7 (.exprs []) [.box [.ref 1, iA (m9 b vs.length ars.length (j + 1 + 1)).snd], dY b, dI vs, dI ars, dT bd, .box [iA (nm b j D2), iA (pk b (j + 1) (vs.length : Int)), iA 0, iA 0, .tref 7, iA (m9 b vs.length ars.length (j + 1 + 1)).fst.kind, iA (m9 b vs.length ars.length (j + 1 + 1)).fst.value, .tref 6, iA 0, .v (.slice none 0 0), .v (.slice none 0 0)], .tree (D.exprs (m9 b vs.length ars.length (j + 1 + 1)).fst.kids)] [(6, .ptr 5 0)]; obtain ⟨ρ, G⟩ := G.nilT 8 (.stmts []) [.box [.ref 1, iA (m9 b vs.length ars.length (j + 1 + 1)).snd], dY b, dI vs, dI ars, dT bd, .box [iA (nm b j D2), iA (pk b (j + 1) (vs.length : Int)), iA 0, iA 0, .tref 7, iA (m9 b vs.length ars.length (j + 1 + 1)).fst.kind, iA (m9 b vs.length ars.length (j + 1 + 1)).fst.value, .tref 6, iA 0, .tref 8, .v (.slice none 0 0)], .tree (D.exprs (m9 b vs.length ars.length (j + 1 + 1)).fst.kids), .tree (D.exprs [])] [(6, .ptr 5 0)]; obtain ⟨ρ, G⟩ := G.nilT 9 (.stmts []) [.box [.ref 1, iA (m9 b vs.length ars.length (j + 1 + 1)).snd], dY b, dI vs, dI ars, dT bd, .box [iA (nm b j D2), iA (pk b (j + 1) (vs.length : Int)), iA 0, iA 0, .tref 7, iA (m9 b vs.length ars.length (j + 1 + 1)).fst.kind, iA (m9 b vs.length ars.length (j + 1 + 1)).fst.value, .tref 6, iA 0, .tref 8, .tref 9], .tree (D.exprs (m9 b vs.length ars.length (j + 1 + 1)).fst.kids), .tree (D.exprs []), .tree (D.stmts [])] [(6, .ptr 5 0)]; exact V5 (.agg [iA (nm b j D2), iA (pk b (j + 1) (vs.length : Int)), iA 0, iA 0, .tref 7, iA (m9 b vs.length ars.length (j + 1 + 1)).fst.kind, iA (m9 b vs.length ars.length (j + 1 + 1)).fst.value, .tref 6, iA 0, .tref 8, .tref 9]) G [0, 1, 2, 3, 4, 7, 6, 8, 9] (by show _ = AV.ren (nth [0, 1, 2, 3, 4, 7, 6, 8, 9]) (J0 b vs ars d j); unfold J0; have e1 : ((v8 b vs.length ars.length d j).fst.kind : Int) = (nm b j D2) := (by rw [U9 (by omega) (by omega), br7 (by omega)]; show (5 : Int) = _; omega); rw [e1, U9 (by omega) (by omega), br7 (by omega)] <;> rfl) (by show _ = mR [0, 1, 2, 3, 4, 7, 6, 8, 9] (I9 b vs ars bd d j); unfold I9; rw [U9 (by omega) (by omega), br7 (by omega)] <;> rfl)
     · refine d7 G b8 (rg 8) (.box [.ref 1, iA (j + 1)] :: (H8 b vs ars bd [az3])) (M0 []) fun G => b0 (wp_seq (d7 G (n8 4 [0, 1] (A4 b (j + 1) ((vs.length : Int)) (by omega) (by omega))) (rg 8) (.box [.ref 1, iA (j + 1 + 1)] :: (H8 b vs ars bd [aU0 b vs j])) (M0 []) fun G => b0 (d7 G (n8 2 (rg 5) (N3 b vs ars bd (j + 1 + 1) (by omega) (by omega))) [0, 1, 2, 3, 4, 6, 7, 24] [N6 b vs ars j, dY b, dI vs, dI ars, dT bd, ac6, aU2 b vs ars j, Z6 b vs ars j] [(6, .ptr 5 0), (8, .ptr 6 0)] fun G => j4 (b0 (wp_seq (d7 G b8 [0, 1, 2, 3, 4, 5, 7] [N6 b vs ars j, dY b, dI vs, dI ars, dT bd, aU1 b vs ars j, Z6 b vs ars j] [(6, .ptr 5 0)] fun G => b0 (wp_ret ?_))))))); obtain ⟨ρ, G⟩ := G.nilT 7 (.exprs []) (aT2 b vs ars bd j []) [(6, .ptr 5 0)]; obtain ⟨ρ, G⟩ := G.nilT 8 (.stmts []) (aT3 b vs ars bd j []) [(6, .ptr 5 0)]; obtain ⟨ρ, G⟩ := G.nilT 9 (.stmts []) (aT4 b vs ars bd j []) [(6, .ptr 5 0)]; exact V5 (.agg [iA 1, iA (pk b (j + 1) (vs.length : Int)), iA 0, iA 0, .tref 7, iA (m9 b vs.length ars.length (j + 1 + 1)).fst.kind, iA (m9 b vs.length ars.length (j + 1 + 1)).fst.value, .tref 6, iA 0, .tref 8, .tref 9]) G [0, 1, 2, 3, 4, 7, 6, 8, 9] (by show _ = AV.ren (nth [0, 1, 2, 3, 4, 7, 6, 8, 9]) (J0 b vs ars d j); unfold J0; rw [U9 (by omega) (by omega), aK9 (by omega)] <;> rfl) (by show _ = mR [0, 1, 2, 3, 4, 7, 6, 8, 9] (I9 b vs ars bd d j); unfold I9; rw [U9 (by omega) (by omega), aK9 (by omega)] <;> rfl)
    ·
     have q2 := eq_of_beq h2; refine c7 G (A6 (fc h2 fz) [(3, 0), (4, 0), (1005, 0)]) [(79, bA (decide (n > 1)))] fun G => b0 (Q7 G (fun h4 q4 => ?_) fun h4 q4 => ?_)
     ·
      refine wp_seq (wp_seq (y5 G b8 (M0 [(15, bA (nm b j D2 != 5))]) fun G => b0 ?_)); cases h5 : (nm b j D2 != 5)
      · have q5 := bne_eq_false_iff_eq.1 h5; exact False.elim (by omega)
      · have q5 := bne_iff_ne.1 h5; refine rT G _ h5 (d7 G b8 (rg 8) (.box [.ref 1, iA (j + 1)] :: (H8 b vs ars bd [az3])) (M0 []) fun G => b0 (wp_seq (d7 G (n8 4 [0, 1] (A4 b (j + 1) ((vs.length : Int)) (by omega) (by omega))) (rg 8) (.box [.ref 1, iA (j + 1 + 1)] :: (H8 b vs ars bd [aU0 b vs j])) (M0 []) fun G => b0 (d7 G (n8 2 (rg 5) (N3 b vs ars bd (j + 1 + 1) (by omega) (by omega))) [0, 1, 2, 3, 4, 6, 7, 24] [N6 b vs ars j, dY b, dI vs, dI ars, dT bd, ac6, aU2 b vs ars j, Z6 b vs ars j] [(6, .ptr 5 0), (8, .ptr 6 0)] fun G => j4 (b0 (wp_seq (d7 G b8 [0, 1, 2, 3, 4, 5, 7] [N6 b vs ars j, dY b, dI vs, dI ars, dT bd, aU1 b vs ars j, Z6 b vs ars j] [(6, .ptr 5 0)] fun G => b0 (wp_ret ?_)))))))); obtain ⟨ρ, G⟩ := G.nilT 7 (.exprs []) (aT2 b vs ars bd j []) [(6, .ptr 5 0)]; obtain ⟨ρ, G⟩ := G.nilT 8 (.stmts []) (aT3 b vs ars bd j []) [(6, .ptr 5 0)]; obtain ⟨ρ, G⟩ := G.nilT 9 (.stmts []) (aT4 b vs ars bd j []) [(6, .ptr 5 0)]; exact V5 (.agg [iA 1, iA (pk b (j + 1) (vs.length : Int)), iA 0, iA 0, .tref 7, iA (m9 b vs.length ars.length (j + 1 + 1)).fst.kind, iA (m9 b vs.length ars.length (j + 1 + 1)).fst.value, .tref 6, iA 0, .tref 8, .tref 9]) G [0, 1, 2, 3, 4, 7, 6, 8, 9] (by show _ = AV.ren (nth [0, 1, 2, 3, 4, 7, 6, 8, 9]) (J0 b vs ars d j); unfold J0; rw [U9 (by omega) (by omega), aK9 (by omega)] <;> rfl) (by show _ = mR [0, 1, 2, 3, 4, 7, 6, 8, 9] (I9 b vs ars bd d j); unfold I9; rw [U9 (by omega) (by omega), aK9 (by omega)] <;> rfl)
     · refine wp_seq (d7 G (n8 2 [0, 1, 16] (c8.lend (D9 b (j + 1) rcL (by simp [h0, h1, h2, h4]) (by omega) (by omega)) [.no, .no, .row 3])) (rg 8) (.box [.ref 1, iA (j + 1 + 1)] :: (H8 b vs ars bd [.box [iA (nm b j D2), iA 0, iA 0, iA 0, .v (.slice none 0 0), iA 0, iA 0, .v (.slice none 0 0), iA (nm b (j + 1) rcL), .v (.slice none 0 0), .v (.slice none 0 0)]])) (ac4 n [(8, .ptr 7 0)]) fun G => b0 (L7 G (s7 (j5 6 [0, 1, 48] (c8.lend (D9 b (j + 1 + 1) rbL (by simp [h0, h1, h2, h4]) (by omega) (by omega)) [.no, .no, .row 3]) (j5 7 (rg 5) (ih (j + 1 + 1 + 1) (n - 1) (nm b (j + 1 + 1) rbL) (by omega) (by omega) (by omega) (by omega) (by omega) (by omega)) s6)) fz []) [0, 0, 0, 4, 0, 0, 48, 127, 255, 511] [0, 1, 2, 3, 4, 6, 7, 64] (aF1 b vs ars d j [dT bd, ac6, .box [iA (nm b j D2), iA 0, iA 0, iA 0, .v (.slice none 0 0), iA 0, iA 0, .v (.slice none 0 0), iA (nm b (j + 1) rcL), .tref 7, .v (.slice none 0 0)], .tree (D.stmts (A1 (v8 b vs.length ars.length (d - 1)) (nm b (j + 1 + 1) rbL).toNat (j + 1 + 1 + 1)).fst)]) [(6, .ptr 5 0), (8, .ptr 6 0)] [wO (n - 1)] (o1 (by omega)) fun G => j4 (b0 (wp_seq (d7 G b8 [0, 1, 2, 3, 4, 5, 7] (aF1 b vs ars d j [dT bd, .box [iA (nm b j D2), iA 0, iA 0, iA 0, .v (.slice none 0 0), iA 0, iA 0, .v (.slice none 0 0), iA (nm b (j + 1) rcL), .tref 6, .v (.slice none 0 0)], .tree (D.stmts (A1 (v8 b vs.length ars.length (d - 1)) (nm b (j + 1 + 1) rbL).toNat (j + 1 + 1 + 1)).fst)]) [(6, .ptr 5 0)] fun G => b0 (wp_ret ?_)))))); obtain ⟨ρ, G⟩ := G.nilT 7 (.exprs []) (aF1 b vs ars d j [dT bd, .box [iA (nm b j D2), iA 0, iA 0, iA 0, .tref 7, iA 0, iA 0, .v (.slice none 0 0), iA (nm b (j + 1) rcL), .tref 6, .v (.slice none 0 0)], .tree (D.stmts (A1 (v8 b vs.length ars.length (d - 1)) (nm b (j + 1 + 1) rbL).toNat (j + 1 + 1 + 1)).fst)]) [(6, .ptr 5 0)]; obtain ⟨ρ, G⟩ := G.nilT 8 (.exprs []) (aF1 b vs ars d j [dT bd, .box [iA (nm b j D2), iA 0, iA 0, iA 0, .tref 7, iA 0, iA 0, .tref 8, iA (nm b (j + 1) rcL), .tref 6, .v (.slice none 0 0)], .tree (D.stmts (A1 (v8 b vs.length ars.length (d - 1)) (nm b (j + 1 + 1) rbL).toNat (j + 1 + 1 + 1)).fst), .tree (D.exprs [])]) [(6, .ptr 5 0)]; obtain ⟨ρ, G⟩ := G.nilT 9 (.stmts []) (aF1 b vs ars d j [dT bd, .box [iA (nm b j D2), iA 0, iA 0, iA 0, .tref 7, iA 0, iA 0, .tref 8, iA (nm b (j + 1) rcL), .tref 6, .tref 9], .tree (D.stmts (A1 (v8 b vs.length ars.length (d - 1)) (nm b (j + 1 + 1) rbL).toNat (j + 1 + 1 + 1)).fst), .tree (D.exprs []), .tree (D.exprs [])]) [(6, .ptr 5 0)]; exact V5 (.agg [iA (nm b j D2), iA 0, iA 0, iA 0, .tref 7, iA 0, iA 0, .tref 8, iA (nm b (j + 1) rcL), .tref 6, .tref 9]) G [0, 1, 2, 3, 4, 7, 8, 6, 9] (by show _ = AV.ren (nth [0, 1, 2, 3, 4, 7, 8, 6, 9]) (J0 b vs ars d j); unfold J0; have e1 : ((v8 b vs.length ars.length d j).fst.kind : Int) = (nm b j D2) := (by rw [aN9 (by omega) (by omega)]; show (4 : Int) = _; omega); rw [e1, aN9 (by omega) (by omega)] <;> rfl) (by show _ = mR [0, 1, 2, 3, 4, 7, 8, 6, 9] (I9 b vs ars bd d j); unfold I9; rw [aN9 (by omega) (by omega)] <;> rfl)
   ·
    have q1 := eq_of_beq h1; refine y5 G (A6 (fc h1 fz) [(3, 0), (4, 0), (1005, 0)]) (ac4 n [(7, iA (nm b j D2)), (8, .ptr 7 0), (50, bA (decide (n > 1)))]) fun G => b0 (Q7 G (fun h6 q6 => ?_) fun h6 q6 => ?_)
    ·
     refine wp_seq ?_; cases h7 : (nm b j D2 == 4)
     ·
      have q7 := ne_of_beq_false h7; refine c7 G (A6 (fc h7 fz) [(3, 0), (4, 0), (1005, 0)]) [(79, bA false)] fun G => b0 (rF G false (by kernel_rfl) (wp_seq (wp_seq (y5 G b8 (M0 [(15, bA (nm b j D2 != 5))]) fun G => b0 ?_)))); cases h8 : (nm b j D2 != 5)
      · have q8 := bne_eq_false_iff_eq.1 h8; exact False.elim (by omega)
      · have q8 := bne_iff_ne.1 h8; refine rT G _ h8 (d7 G b8 (rg 8) (.box [.ref 1, iA (j + 1)] :: (H8 b vs ars bd [az3])) (M0 []) fun G => b0 (wp_seq (d7 G (n8 4 [0, 1] (A4 b (j + 1) ((vs.length : Int)) (by omega) (by omega))) (rg 8) (.box [.ref 1, iA (j + 1 + 1)] :: (H8 b vs ars bd [aU0 b vs j])) (M0 []) fun G => b0 (d7 G (n8 2 (rg 5) (N3 b vs ars bd (j + 1 + 1) (by omega) (by omega))) [0, 1, 2, 3, 4, 6, 7, 24] [N6 b vs ars j, dY b, dI vs, dI ars, dT bd, ac6, aU2 b vs ars j, Z6 b vs ars j] [(6, .ptr 5 0), (8, .ptr 6 0)] fun G => j4 (b0 (wp_seq (d7 G b8 [0, 1, 2, 3, 4, 5, 7] [N6 b vs ars j, dY b, dI vs, dI ars, dT bd, aU1 b vs ars j, Z6 b vs ars j] [(6, .ptr 5 0)] fun G => b0 (wp_ret ?_)))))))); obtain ⟨ρ, G⟩ := G.nilT 7 (.exprs []) (aT2 b vs ars bd j []) [(6, .ptr 5 0)]; obtain ⟨ρ, G⟩ := G.nilT 8 (.stmts []) (aT3 b vs ars bd j []) [(6, .ptr 5 0)]; obtain ⟨ρ, G⟩ := G.nilT 9 (.stmts []) (aT4 b vs ars bd j []) [(6, .ptr 5 0)]; exact V5 (.agg [iA 1, iA (pk b (j + 1) (vs.length : Int)), iA 0, iA 0, .tref 7, iA (m9 b vs.length ars.length (j + 1 + 1)).fst.kind, iA (m9 b vs.length ars.length (j + 1 + 1)).fst.value, .tref 6, iA 0, .tref 8, .tref 9]) G [0, 1, 2, 3, 4, 7, 6, 8, 9] (by show _ = AV.ren (nth [0, 1, 2, 3, 4, 7, 6, 8, 9]) (J0 b vs ars d j); unfold J0; rw [U9 (by omega) (by omega), aK9 (by omega)] <;> rfl) (by show _ = mR [0, 1, 2, 3, 4, 7, 6, 8, 9] (I9 b vs ars bd d j); unfold I9; rw [U9 (by omega) (by omega), aK9 (by omega)] <;> rfl)
     · have q7 := eq_of_beq h7; exact False.elim (by omega)
    ·
     refine wp_seq (d7 G (n8 2 (rg 5) (N3 b vs ars bd (j + 1) (by omega) (by omega))) [0, 1, 2, 3, 4, 5, 6, 7, 24] (.box [.ref 1, iA (m9 b vs.length ars.length (j + 1)).snd] :: (H8 b vs ars bd [.box [iA (nm b j D2), iA 0, iA 0, iA 0, .v (.slice none 0 0), iA (m9 b vs.length ars.length (j + 1)).fst.kind, iA (m9 b vs.length ars.length (j + 1)).fst.value, .tref 8, iA 0, .v (.slice none 0 0), .v (.slice none 0 0)], .tree (D.exprs (m9 b vs.length ars.length (j + 1)).fst.kids)])) (ac4 n [(8, .ptr 7 0)]) fun G => b0 (wp_seq (L7 G (s7 (j5 6 [0, 1, 49] (c8.lend (D9 b ((m9 b vs.length ars.length (j + 1)).snd) ibL (by simp [h0, h1, h6]) (by omega) (by omega)) [.no, .no, .row 3]) (j5 7 (rg 5) (ih ((m9 b vs.length ars.length (j + 1)).snd + 1) (n - 1) (nm b (m9 b vs.length ars.length (j + 1)).snd ibL) (by omega) (by omega) (by omega) (by omega) (by omega) (by omega)) s6)) fz []) [0, 0, 0, 4, 0, 0, 48, 127, 255, 511] [0, 1, 2, 3, 4, 5, 6, 7, 8, 65] (.box [.ref 1, iA (aw5 b vs ars d j).snd] :: (H8 b vs ars bd [.box [iA (nm b j D2), iA 0, iA 0, iA 0, .v (.slice none 0 0), iA (m9 b vs.length ars.length (j + 1)).fst.kind, iA (m9 b vs.length ars.length (j + 1)).fst.value, .tref 8, iA 0, .tref 9, .v (.slice none 0 0)], .tree (D.exprs (m9 b vs.length ars.length (j + 1)).fst.kids), .tree (D.stmts (aw5 b vs ars d j).fst)])) (ac4 n [(8, .ptr 7 0)]) [wO (n - 1)] (o1 (by omega)) fun G => b0 (L7 G (s7 (j5 6 [0, 1, 50] (c8.lend (D9 b ((A1 (v8 b vs.length ars.length (d - 1)) (nm b (m9 b vs.length ars.length (j + 1)).snd ibL).toNat ((m9 b vs.length ars.length (j + 1)).snd + 1)).snd) ieL (by simp [h0, h1, h6]) (by omega) (by omega)) [.no, .no, .row 3]) (j5 7 (rg 5) (ih ((A1 (v8 b vs.length ars.length (d - 1)) (nm b (m9 b vs.length ars.length (j + 1)).snd ibL).toNat ((m9 b vs.length ars.length (j + 1)).snd + 1)).snd + 1) (n - 1) (nm b (A1 (v8 b vs.length ars.length (d - 1)) (nm b (m9 b vs.length ars.length (j + 1)).snd ibL).toNat ((m9 b vs.length ars.length (j + 1)).snd + 1)).snd ieL) (by omega) (by omega) (by omega) (by omega) (by omega) (by omega)) s6)) fz []) [0, 0, 0, 4, 0, 0, 48, 127, 255, 511] [0, 1, 2, 3, 4, 6, 7, 8, 9, 66] [.box [.ref 1, iA (aU3 b vs ars d j).snd], dY b, dI vs, dI ars, dT bd, ac6, .box [iA (nm b j D2), iA 0, iA 0, iA 0, .v (.slice none 0 0), iA (m9 b vs.length ars.length (j + 1)).fst.kind, iA (m9 b vs.length ars.length (j + 1)).fst.value, .tref 7, iA 0, .tref 8, .tref 9], .tree (D.exprs (m9 b vs.length ars.length (j + 1)).fst.kids), .tree (D.stmts (aw5 b vs ars d j).fst), .tree (D.stmts (aU3 b vs ars d j).fst)] [(6, .ptr 5 0), (8, .ptr 6 0)] [wO (n - 1)] (o1 (by omega)) fun G => j4 (b0 (wp_seq (d7 G b8 [0, 1, 2, 3, 4, 5, 7, 8, 9] [.box [.ref 1, iA (aU3 b vs ars d j).snd], dY b, dI vs, dI ars, dT bd, .box [iA (nm b j D2), iA 0, iA 0, iA 0, .v (.slice none 0 0), iA (m9 b vs.length ars.length (j + 1)).fst.kind, iA (m9 b vs.length ars.length (j + 1)).fst.value, .tref 6, iA 0, .tref 7, .tref 8], .tree (D.exprs (m9 b vs.length ars.length (j + 1)).fst.kids), .tree (D.stmts (aw5 b vs ars d j).fst), .tree (D.stmts (aU3 b vs ars d j).fst)] [(6, .ptr 5 0)] fun G => b0 (wp_ret ?_)))))))); obtain ⟨ρ, G⟩ := G.nilT 9 (.exprs []) [.box [.ref 1, iA (A1 (v8 b vs.length ars.length (d - 1)) (nm b (A1 (v8 b vs.length ars.length (d - 1)) (nm b (m9 b vs.length ars.length (j + 1)).snd ibL).toNat ((m9 b vs.length ars.length (j + 1)).snd + 1)).snd ieL).toNat ((A1 (v8 b vs.length ars.length (d - 1)) (nm b (m9 b vs.length ars.length (j + 1)).snd ibL).toNat ((m9 b vs.length ars.length (j + 1)).snd + 1)).snd + 1)).snd], dY b, dI vs, dI ars, dT bd, .box [iA (nm b j D2), iA 0, iA 0, iA 0, .tref 9, iA (m9 b vs.length ars.length (j + 1)).fst.kind, iA (m9 b vs.length ars.length (j + 1)).fst.value, .tref 6, iA 0, .tref 7, .tref 8], .tree (D.exprs (m9 b vs.length ars.length (j + 1)).fst.kids), .tree (D.stmts (A1 (v8 b vs.length ars.length (d - 1)) (nm b (m9 b vs.length ars.length (j + 1)).snd ibL).toNat ((m9 b vs.length ars.length (j + 1)).snd + 1)).fst), .tree (D.stmts (A1 (v8 b vs.length ars.length (d - 1)) (nm b (A1 (v8 b vs.length ars.length (d - 1)) (nm b (m9 b vs.length ars.length (j + 1)).snd ibL).toNat ((m9 b vs.length ars.length (j + 1)).snd + 1)).snd ieL).toNat ((A1 (v8 b vs.length ars.length (d - 1)) (nm b (m9 b vs.length ars.length (j + 1)).snd ibL).toNat ((m9 b vs.length ars.length (j + 1)).snd + 1)).snd + 1)).fst)] [(6, .ptr 5 0)]
     exact V5 (.agg [iA (nm b j D2), iA 0, iA 0, iA 0, .tref 9, iA (m9 b vs.length ars.length (j + 1)).fst.kind, iA (m9 b vs.length ars.length (j + 1)).fst.value, .tref 6, iA 0, .tref 7, .tref 8]) G [0, 1, 2, 3, 4, 9, 6, 7, 8] (by show _ = AV.ren (nth [0, 1, 2, 3, 4, 9, 6, 7, 8]) (J0 b vs ars d j); unfold J0; have e1 : ((v8 b vs.length ars.length d j).fst.kind : Int) = (nm b j D2) := (by rw [aO0 (by omega) (by omega)]; show (3 : Int) = _; omega); rw [e1, aO0 (by omega) (by omega)] <;> rfl) (by show _ = mR [0, 1, 2, 3, 4, 9, 6, 7, 8] (I9 b vs ars bd d j); unfold I9; rw [aO0 (by omega) (by omega)] <;> rfl)
  ·
   have q0 := eq_of_beq h0; refine y5 G (A6 (fc h0 fz) (us [(3, 6, 0), (1007, 1007, 0)])) (ac4 n [(7, iA (nm b j D2)), (8, .ptr 7 0), (27, bA (decide ((ars.length : Int) > 0)))]) fun G => b0 (Q7 G (fun h9 q9 => ?_) fun h9 q9 => ?_)
   ·
    refine wp_seq ?_; cases h10 : (nm b j D2 == 3)
    ·
     have q10 := ne_of_beq_false h10; refine y5 G (A6 (fc h10 fz) [(3, 0), (4, 0), (1005, 0)]) (ac4 n [(7, iA (nm b j D2)), (8, .ptr 7 0), (50, bA false)]) fun G => b0 (rF G false (by kernel_rfl) (wp_seq ?_)); cases h11 : (nm b j D2 == 4)
     ·
      have q11 := ne_of_beq_false h11; refine c7 G (A6 (fc h11 fz) [(3, 0), (4, 0), (1005, 0)]) [(79, bA false)] fun G => b0 (rF G false (by kernel_rfl) (wp_seq (wp_seq (y5 G b8 (M0 [(15, bA (nm b j D2 != 5))]) fun G => b0 ?_)))); cases h12 : (nm b j D2 != 5)
      · have q12 := bne_eq_false_iff_eq.1 h12; exact False.elim (by omega)
      · have q12 := bne_iff_ne.1 h12; refine rT G _ h12 (d7 G b8 (rg 8) (.box [.ref 1, iA (j + 1)] :: (H8 b vs ars bd [az3])) (M0 []) fun G => b0 (wp_seq (d7 G (n8 4 [0, 1] (A4 b (j + 1) ((vs.length : Int)) (by omega) (by omega))) (rg 8) (.box [.ref 1, iA (j + 1 + 1)] :: (H8 b vs ars bd [aU0 b vs j])) (M0 []) fun G => b0 (d7 G (n8 2 (rg 5) (N3 b vs ars bd (j + 1 + 1) (by omega) (by omega))) [0, 1, 2, 3, 4, 6, 7, 24] [N6 b vs ars j, dY b, dI vs, dI ars, dT bd, ac6, aU2 b vs ars j, Z6 b vs ars j] [(6, .ptr 5 0), (8, .ptr 6 0)] fun G => j4 (b0 (wp_seq (d7 G b8 [0, 1, 2, 3, 4, 5, 7] [N6 b vs ars j, dY b, dI vs, dI ars, dT bd, aU1 b vs ars j, Z6 b vs ars j] [(6, .ptr 5 0)] fun G => b0 (wp_ret ?_)))))))); obtain ⟨ρ, G⟩ := G.nilT 7 (.exprs []) (aT2 b vs ars bd j []) [(6, .ptr 5 0)]; obtain ⟨ρ, G⟩ := G.nilT 8 (.stmts []) (aT3 b vs ars bd j []) [(6, .ptr 5 0)]; obtain ⟨ρ, G⟩ := G.nilT 9 (.stmts []) (aT4 b vs ars bd j []) [(6, .ptr 5 0)]; exact V5 (.agg [iA 1, iA (pk b (j + 1) (vs.length : Int)), iA 0, iA 0, .tref 7, iA (m9 b vs.length ars.length (j + 1 + 1)).fst.kind, iA (m9 b vs.length ars.length (j + 1 + 1)).fst.value, .tref 6, iA 0, .tref 8, .tref 9]) G [0, 1, 2, 3, 4, 7, 6, 8, 9] (by show _ = AV.ren (nth [0, 1, 2, 3, 4, 7, 6, 8, 9]) (J0 b vs ars d j); unfold J0; rw [U9 (by omega) (by omega), aK9 (by omega)] <;> rfl) (by show _ = mR [0, 1, 2, 3, 4, 7, 6, 8, 9] (I9 b vs ars bd d j); unfold I9; rw [U9 (by omega) (by omega), aK9 (by omega)] <;> rfl)
     · have q11 := eq_of_beq h11; exact False.elim (by omega)
    · have q10 := eq_of_beq h10; exact False.elim (by omega)
   ·
    refine wp_seq (d7 G (n8 4 [0, 1] (A4 b (j + 1) ((ars.length : Int)) (by omega) (by omega))) (rg 8) (.box [.ref 1, iA (j + 1 + 1)] :: (H8 b vs ars bd [.box [iA (nm b j D2), iA (pk b (j + 1) (ars.length : Int)), iA 0, iA 0, .v (.slice none 0 0), iA 0, iA 0, .v (.slice none 0 0), iA 0, .v (.slice none 0 0), .v (.slice none 0 0)]])) (M0 []) fun G => b0 (wp_seq (d7 G (n8 2 (rg 5) (ai2 b (j + 1 + 1) vs ars bd (by omega) (by omega))) [0, 1, 2, 3, 4, 5, 6, 7, 24] (.box [.ref 1, iA (j + 1 + 1 + 2)] :: (H8 b vs ars bd [.box [iA (nm b j D2), iA (pk b (j + 1) (ars.length : Int)), iA (i6 b (vs.length : Int) (j + 1 + 1)).kind, iA (i6 b (vs.length : Int) (j + 1 + 1)).value, .tref 8, iA 0, iA 0, .v (.slice none 0 0), iA 0, .v (.slice none 0 0), .v (.slice none 0 0)], .tree (D.exprs (i6 b (vs.length : Int) (j + 1 + 1)).kids)])) (M0 []) fun G => b0 (d7 G (n8 2 (rg 5) (N3 b vs ars bd (j + 1 + 1 + 2) (by omega) (by omega))) [0, 1, 2, 3, 4, 6, 7, 8, 25] (.box [.ref 1, iA (m9 b vs.length ars.length (j + 1 + 1 + 2)).snd] :: dY b :: dI vs :: dI ars :: dT bd :: ac6 :: .box [iA (nm b j D2), iA (pk b (j + 1) (ars.length : Int)), iA (i6 b (vs.length : Int) (j + 1 + 1)).kind, iA (i6 b (vs.length : Int) (j + 1 + 1)).value, .tref 7, iA (m9 b vs.length ars.length (j + 1 + 1 + 2)).fst.kind, iA (m9 b vs.length ars.length (j + 1 + 1 + 2)).fst.value, .tref 8, iA 0, .v (.slice none 0 0), .v (.slice none 0 0)] :: (aT1 b vs ars j [])) [(6, .ptr 5 0), (8, .ptr 6 0)] fun G => j4 (b0 (wp_seq (d7 G b8 [0, 1, 2, 3, 4, 5, 7, 8] (.box [.ref 1, iA (m9 b vs.length ars.length (j + 1 + 1 + 2)).snd] :: dY b :: dI vs :: dI ars :: dT bd :: .box [iA (nm b j D2), iA (pk b (j + 1) (ars.length : Int)), iA (i6 b (vs.length : Int) (j + 1 + 1)).kind, iA (i6 b (vs.length : Int) (j + 1 + 1)).value, .tref 6, iA (m9 b vs.length ars.length (j + 1 + 1 + 2)).fst.kind, iA (m9 b vs.length ars.length (j + 1 + 1 + 2)).fst.value, .tref 7, iA 0, .v (.slice none 0 0), .v (.slice none 0 0)] :: (aT1 b vs ars j [])) [(6, .ptr 5 0)] fun G => b0 (wp_ret ?_)))))))); obtain ⟨ρ, G⟩ := G.nilT 8 (.stmts []) (.box [.ref 1, iA (m9 b vs.length ars.length (j + 1 + 1 + 2)).snd] :: dY b :: dI vs :: dI ars :: dT bd :: .box [iA (nm b j D2), iA (pk b (j + 1) (ars.length : Int)), iA (i6 b (vs.length : Int) (j + 1 + 1)).kind, iA (i6 b (vs.length : Int) (j + 1 + 1)).value, .tref 6, iA (m9 b vs.length ars.length (j + 1 + 1 + 2)).fst.kind, iA (m9 b vs.length ars.length (j + 1 + 1 + 2)).fst.value, .tref 7, iA 0, .tref 8, .v (.slice none 0 0)] :: (aT1 b vs ars j [])) [(6, .ptr 5 0)]; obtain ⟨ρ, G⟩ := G.nilT 9 (.stmts []) (.box [.ref 1, iA (m9 b vs.length ars.length (j + 1 + 1 + 2)).snd] :: dY b :: dI vs :: dI ars :: dT bd :: .box [iA (nm b j D2), iA (pk b (j + 1) (ars.length : Int)), iA (i6 b (vs.length : Int) (j + 1 + 1)).kind, iA (i6 b (vs.length : Int) (j + 1 + 1)).value, .tref 6, iA (m9 b vs.length ars.length (j + 1 + 1 + 2)).fst.kind, iA (m9 b vs.length ars.length (j + 1 + 1 + 2)).fst.value, .tref 7, iA 0, .tref 8, .tref 9] :: (aT1 b vs ars j [.tree (D.stmts [])])) [(6, .ptr 5 0)]
    exact V5 (.agg [iA (nm b j D2), iA (pk b (j + 1) (ars.length : Int)), iA (i6 b (vs.length : Int) (j + 1 + 1)).kind, iA (i6 b (vs.length : Int) (j + 1 + 1)).value, .tref 6, iA (m9 b vs.length ars.length (j + 1 + 1 + 2)).fst.kind, iA (m9 b vs.length ars.length (j + 1 + 1 + 2)).fst.value, .tref 7, iA 0, .tref 8, .tref 9]) G [0, 1, 2, 3, 4, 6, 7, 8, 9] (by show _ = AV.ren (nth [0, 1, 2, 3, 4, 6, 7, 8, 9]) (J0 b vs ars d j); unfold J0; have e1 : ((v8 b vs.length ars.length d j).fst.kind : Int) = (nm b j D2) := (by rw [a48 (by omega) (by omega)]; show (2 : Int) = _; omega); rw [e1, a48 (by omega) (by omega)] <;> rfl) (by show _ = mR [0, 1, 2, 3, 4, 6, 7, 8, 9] (I9 b vs ars bd d j); unfold I9; rw [a48 (by omega) (by omega)] <;> rfl)
theorem aL9 (b : List UInt8) (vs ars : List Int) (bd : List b5) (d : Nat) (h : ∀ (j n : Int), n = d → 0 ≤ j → j + cS d ≤ 600000000 → c8.ok Try.prog (dsC b vs ars bd d j n)) (m : Nat) (j n c B : Int) (hn : n = d) (hm : c = m) (hm2 : m ≤ 4) (hB : (m : Int) * cS d ≤ B) (r0 : 0 ≤ j) (r1 : j + B ≤ 600000000) : c8.ok Try.prog (dbC b vs ars bd d m j n c) :=
 bg0 b vs ars bd d m h j n c hn hm hm2 B hB r0 r1
theorem bb7 (b : List UInt8) (vs ars : List Int) (bd : List b5) : ∀ (d : Nat), d ≤ 3 → ∀ (j n : Int), n = d → 0 ≤ j → j + cS d ≤ 600000000 → c8.ok Try.prog (dsC b vs ars bd d j n)
 | 0, hd, j, n, hn, r0, r1 => a55 b vs ars bd 0 (by omega) (fun j n c h => absurd h (by omega)) j n hn r0 r1
 | d + 1, hd, j, n, hn, r0, r1 => a55 b vs ars bd (d + 1) hd (fun j n c h hn h0 h2 r0 r1 => aL9 b vs ars bd d (bb7 b vs ars bd d (by omega)) c.toNat j n c (2 * cS d) (by omega) (by omega) (by omega) (bw5 h0 h2 (Int.le_trans (by decide) (ak4 d))) r0 (by simpa using r1)) j n hn r0 r1
theorem bz8 : cS 3 = 34170 := by decide
theorem bs0 (b : List UInt8) (vs ars : List Int) (bd : List b5) (j n c : Int) (hn : n = 3) (h0 : 0 ≤ c) (h4 : c ≤ 4) (r0 : 0 ≤ j) (r1 : j ≤ 100000000) : c8.ok Try.prog (dbC b vs ars bd 3 c.toNat j n c) :=
 aL9 b vs ars bd 3 (bb7 b vs ars bd 3 (by omega)) c.toNat j n c (4 * cS 3) (by omega) (by omega) (by omega) (bE3 h0 h4 (by rw [bz8]; decide)) r0 (by rw [bz8]; omega)
end Go.Proofs.Ytgmhmijcnlfmfaa
