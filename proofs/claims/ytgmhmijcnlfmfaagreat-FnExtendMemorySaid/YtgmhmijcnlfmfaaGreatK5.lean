/- Part 5: functions on the way, plain laws. Conditions: as said. -/
import Derived.Test.YtgmhmijcnlfmfaaGreatK1
import Derived.Test.YtgmhmijcnlfmfaaGreatK3
import Derived.Test.YtgmhmijcnlfmfaaGreatK4
set_option maxRecDepth 100000
set_option maxHeartbeats 16000000
set_option linter.unusedVariables false
set_option linter.unusedSimpArgs false
open Bool renaming and_eq_false_iff → bY6, and_eq_true → bW2, and_eq_true_iff → bY8, not_eq_false' → bW7, not_eq_true' → bW6
open Inhabited renaming default → bW1
open Int renaming mul_le_mul_of_nonneg_right → b00
open List renaming all_eq_true → bX0, eq_nil_of_length_eq_zero → bY4, getD_eq_getElem?_getD → bW3, getElem?_eq_getElem → bW4, getElem?_eq_none → bY2, getElem_mem → bX7, length_append → bX5, length_cons → bX2, length_nil → bY9, map_cons → bZ3, mem_append → bY3, mem_cons → bZ6, range → bY1, replicate → bW8, take → bW9, take_of_length_le → bX3
open Nat renaming le_refl → bX4, le_trans → bX9, lt_or_ge → bZ4, zero_le → bZ5
open True renaming intro → bX6

namespace Go.Proofs.YtgmhmijcnlfmfaaGreat
open Go Go.RowKit
theorem bH2 {l : List b7} {k : Nat} (hk : k < l.length) : l.take k ++ [⟨(l.getD k bW1).kind, (l.getD k bW1).value, (l.getD k bW1).kids⟩] = l.take (k + 1) := by
 rw [b7.eta, l0 _ _ hk, f8 hk]
theorem bH1 {l : List b6} {k : Nat} (hk : k < l.length) : l.take k ++ [⟨(l.getD k bW1).kind, (l.getD k bW1).target, ⟨(l.getD k bW1).index.kind, (l.getD k bW1).index.value, (l.getD k bW1).index.kids⟩, ⟨(l.getD k bW1).value.kind, (l.getD k bW1).value.value, (l.getD k bW1).value.kids⟩, (l.getD k bW1).count, (l.getD k bW1).body, (l.getD k bW1).els⟩] = l.take (k + 1) := by
 rw [b7.eta, b7.eta, b6.eta, l0 _ _ hk, f8 hk]
theorem a16 {α : Type} {l : List α} {k : Nat} (h1 : k ≤ l.length) (h2 : ¬ (k : Int) < l.length) : l.take k = l := by rw [bX3 (by omega)]
theorem bi2 {α : Type} {l : List α} {k n : Nat} (h1 : k ≤ l.length) (h : l.length ≤ n) : (l.take k).length ≤ n := by rw [List.length_take]; omega
theorem bi7 {e : b7} (h : s5 e ≤ 1048576) : e.kids.length ≤ 1048576 := by
 have h1 := at3 e.kids
 have h2 : s5 e = j3 e.kids := by cases e; rfl
 omega
theorem bb0 {l : List b6} (h : c9 l ≤ 1048576) : l.length ≤ 1048576 := bX9 (D8 l) h
theorem bs3 {α : Type} {l : List α} {x : α} {k : Nat} (h1 : k ≤ l.length) (h : l.length ≤ 1048576) : (l.take k).length + [x].length ≤ 1048577 := by
 have := bi2 (k := k) h1 h
 simp only [bX2, bY9]; omega
theorem bN7 {a b : Nat} (ha : a ≤ 1048577) (hb : Nat.ble b 1000 = true) : a * b ≤ 140737488355328 := by
 have h1 := Nat.le_of_ble_eq_true hb
 have h2 := Nat.mul_le_mul ha h1
 omega
theorem aw6 {l : List b7} {k : Nat} (h : (k : Int) < l.length) : l.getD k bW1 ∈ l := by rw [f8 (by omega)]; exact bX7 (by omega)
theorem ai5 {l : List b6} {k : Nat} (h : (k : Int) < l.length) : l.getD k bW1 ∈ l := by rw [f8 (by omega)]; exact bX7 (by omega)
abbrev cpC (e : b7) : d8 := ⟨70, [eA e 0], eS e, eS e ++ [.tree (.exprs e.kids)], .agg [iA e.kind, iA e.value, .tref 1]⟩
abbrev aK3 (e : b7) (r0 : List It) : List It := dE e.kids :: .box (eL e 0) :: .box [iA 0, iA 0, .v (.slice none 0 0)] :: r0
theorem be8 (e : b7) (hb : s5 e ≤ 1048576) (ih : ∀ (x : b7), x ∈ e.kids → d8.ok Tryz.prog (cpC x)) : d8.ok Tryz.prog (cpC e) := by
 refine t8 29 Tryz.func70 [dE e.kids] [(0, eA e 0)] fun G => ?_; have hl := bi7 hb; refine wp_seq (e5 G c3 [0, 1, 9] (aK3 e []) [(1, .ptr 1 0), (2, .ptr 2 0)] fun G => b5 (wp_seq (e5 G c3 [0, 1, 2, 43] (aK3 e [.box [iA e.kind, iA e.value, .v (.slice none 0 0)]]) [(1, .ptr 1 0), (2, .ptr 2 0), (3, .ptr 3 0)] fun G => b5 (wp_seq (wp_seq (w3 G c3 [(1, .ptr 1 0), (2, .ptr 2 0), (3, .ptr 3 0), (4, iA 0)] fun G => b5 (wp_block ?_))))))); obtain ⟨ρ, G⟩ := G.nilT 4 (.exprs []) (aK3 e [.box [iA e.kind, iA e.value, .tref 4]]) [(1, .ptr 1 0), (2, .ptr 2 0), (3, .ptr 3 0), (4, iA 0)]; refine k8 (κ := Nat) (fun k => k ≤ e.kids.length) (fun k => e.kids.length - k) (fun k => [dE e.kids, .box (eL e 0), .box [iA 0, iA 0, .v (.slice none 0 0)], .box [iA e.kind, iA e.value, .tref 4], .tree (.exprs (e.kids.take k))]) (fun k => [(1, .ptr 1 0), (2, .ptr 2 0), (3, .ptr 3 0), (4, iA k)]) 0 (by omega) (l7.at G _ _) ?_; clear G; intro k ρ a w hp G; replace G := l7.at G (aK3 e [.box [iA e.kind, iA e.value, .tref 4], .tree (D.exprs (bW9 k e.kids))]) [(1, .ptr 1 0), (2, .ptr 2 0), (3, .ptr 3 0), (4, iA k)]; refine wp_seq (wp_seq (d9 G c3 [(14, bA (decide ((k : Int) < e.kids.length)))] fun G => b5 (I2 G (fun h0 q0 => ?_) fun h0 q0 => ?_)))
 ·refine wp_exit (j9 (j9 (j7 (b5 (wp_seq (e5 G c3 [0, 2, 4] [dE e.kids, .box [iA e.kind, iA e.value, .tref 2], .tree (D.exprs (bW9 k e.kids))] [(2, .ptr 1 0)] fun G => b5 (wp_ret ?_))))))); exact A3 G [0, 2] (by show _ = mR [0, 2] [dE e.kids, .tree (D.exprs e.kids)]; have e1 : (bW9 k e.kids : List b7) = (e.kids) := (a16 hp (by assumption)); (first | rw [e1] | simp only [e1]) <;> rfl)
 ·refine wp_skip (b5 (wp_seq (wp_block (F0 G (n5 7 [53] (ih (e.kids.getD k bW1) (aw6 (by assumption)))) [0, 1, 0, 4, 0, 28, 60, 124, 252, 511, 1023, 2047] [0, 1, 2, 3, 77] (aK3 e [.box [iA e.kind, iA e.value, .tref 4], .tree (D.exprs (bW9 k e.kids ++ [n4 (e.kids.getD k bW1)]))]) [(1, .ptr 1 0), (2, .ptr 2 0), (3, .ptr 3 0), (4, iA k)] (iX k k e.kids.length (((bW9 k e.kids).length + [n4 (e.kids.getD k bW1)].length ≤ (9223372036854775807 : Nat)) :: ((((bW9 k e.kids).length + [n4 (e.kids.getD k bW1)].length) * (40 : Nat) ≤ (140737488355328 : Nat)) :: []))) (iK (by omega) ⟨(by have := bs3 (x := (bW1 : b7)) hp hl; simp only [bX2, bY9] at this ⊢; omega), ⟨(bN7 (bs3 hp hl) (by kernel_rfl)), bX6⟩⟩) fun G => i9 (b5 (z5 G c3 [(4, iA ((k : Int) + 1))] [wO ((k : Int) + 1)] (o1 (by omega)) fun G => b5 ?_)))))); exact H3 G (k + 1) (by omega) (by omega) (rg 5) (by have e1 : (bW9 (k + 1) e.kids : List b7) = (bW9 k e.kids ++ [n4 (e.kids.getD k bW1)]) := ((bH2 (by omega)).symm); (first | rw [e1] | simp only [e1]) <;> rfl)
theorem aJ7 (e : b7) : s5 e ≤ 1048576 → d8.ok Tryz.prog (cpC e) :=
 b7.ind (P := fun e => s5 e ≤ 1048576 → d8.ok Tryz.prog (cpC e)) (fun k n ks ih hb => be8 ⟨k, n, ks⟩ hb fun x hx => ih x hx (by
  have h1 := bp1 (show x ∈ ks from hx)
  have h2 : s5 ⟨k, n, ks⟩ = j3 ks := rfl
  omega)) e
abbrev aQ6 (l : List b6) : d8 := ⟨60, [.ref 0], [dT l], [dT l, .tree (.stmts l)], .tref 1⟩
theorem a52 {l : List b6} {k : Nat} (hb : c9 l ≤ 1048576) (h : (k : Int) < l.length) : s5 (l.getD k bW1).index ≤ 1048576 ∧ s5 (l.getD k bW1).value ≤ 1048576 ∧ c9 (l.getD k bW1).body ≤ 1048576 ∧ c9 (l.getD k bW1).els ≤ 1048576 := by
 have h1 := P3 (ai5 h)
 generalize l.getD k bW1 = s at *
 rcases s with ⟨_, _, i, v, _, b, e⟩
 simp only [B6] at h1
 simp only [b6.index, b6.value, b6.body, b6.els]
 omega
abbrev ar0 (k : Nat) (r0 : List (Nat × AV)) : List (Nat × AV) := (0, .ref 0) :: (2, .v (.slice none 0 0)) :: (3, .tref 1) :: (4, iA (k : Int)) :: r0
theorem au2 (l : List b6) (hb : c9 l ≤ 1048576) (ih1 : ∀ (s : b6), s ∈ l → d8.ok Tryz.prog (aQ6 s.body)) (ih2 : ∀ (s : b6), s ∈ l → d8.ok Tryz.prog (aQ6 s.els)) : d8.ok Tryz.prog (aQ6 l) := by
  refine t8 38 Tryz.func60 [dT l] [(0, .ref 0)] fun G => ?_; have hl := bb0 hb; refine wp_seq (d9 G c3 [(2, .v (.slice none 0 0))] fun G => b5 (wp_seq (e5 G c3 [0, 1] [dT l, .tree (D.stmts [])] [(0, .ref 0), (2, .v (.slice none 0 0)), (3, .tref 1)] fun G => b5 (wp_seq (wp_seq (w3 G c3 [(0, .ref 0), (2, .v (.slice none 0 0)), (3, .tref 1), (4, iA 0)] fun G => b5 (wp_block ?_))))))); refine k8 (κ := Nat) (fun k => k ≤ l.length) (fun k => l.length - k) (fun k => [dT l, .tree (.stmts (l.take k))]) (fun k => [(0, .ref 0), (2, .v (.slice none 0 0)), (3, .tref 1), (4, iA k)]) 0 (by omega) (l7.at G _ _) ?_; clear G; intro k ρ a w hp G; replace G := l7.at G [dT l, .tree (D.stmts (bW9 k l))] (ar0 k []); refine wp_seq (wp_seq (d9 G c3 [(10, bA (decide ((k : Int) < l.length)))] fun G => b5 (I2 G (fun h0 q0 => ?_) fun h0 q0 => ?_)))
  · refine wp_exit (j9 (j9 (j7 (b5 (wp_seq (d9 G c3 [(2, .tref 1)] fun G => b5 (wp_ret ?_))))))); exact A3 G [0, 1] (by show _ = mR [0, 1] [dT l, .tree (D.stmts l)]; have e1 : (bW9 k l : List b6) = (l) := (a16 hp (by assumption)); (first | rw [e1] | simp only [e1]) <;> rfl)
  ·
   refine wp_skip (b5 (wp_seq (wp_block (wp_seq (L6 G c3 [0, 1, 26, 27, 28, 29, 34] [dT l, .tree (D.stmts (bW9 k l)), dE (l.getD k bW1).index.kids, dE (l.getD k bW1).value.kids, dT (l.getD k bW1).body, dT (l.getD k bW1).els, .box (sL (l.getD k bW1) 2)] (ar0 k [(5, .ptr 6 0)]) (iX k k l.length []) (iK (by omega) bX6) fun G => b5 (wp_seq (e5 G (n5 2 [2] (aJ7 ((l.getD k bW1).index) ((a52 hb (by assumption)).1))) [0, 1, 3, 4, 5, 6, 23] [dT l, .tree (D.stmts (bW9 k l)), dE (l.getD k bW1).value.kids, dT (l.getD k bW1).body, dT (l.getD k bW1).els, .box [iA (l.getD k bW1).kind, iA (l.getD k bW1).target, iA (l.getD k bW1).index.kind, iA (l.getD k bW1).index.value, .tref 6, iA (l.getD k bW1).value.kind, iA (l.getD k bW1).value.value, .ref 2, iA (l.getD k bW1).count, .ref 3, .ref 4], .tree (D.exprs (l.getD k bW1).index.kids)] (ar0 k [(5, .ptr 5 0)]) fun G => b5 (wp_seq (e5 G (n5 2 [2] (aJ7 ((l.getD k bW1).value) ((a52 hb (by assumption)).2.1))) [0, 1, 3, 4, 5, 6, 23] [dT l, .tree (D.stmts (bW9 k l)), dT (l.getD k bW1).body, dT (l.getD k bW1).els, .box [iA (l.getD k bW1).kind, iA (l.getD k bW1).target, iA (l.getD k bW1).index.kind, iA (l.getD k bW1).index.value, .tref 5, iA (l.getD k bW1).value.kind, iA (l.getD k bW1).value.value, .tref 6, iA (l.getD k bW1).count, .ref 2, .ref 3], .tree (D.exprs (l.getD k bW1).index.kids), .tree (D.exprs (l.getD k bW1).value.kids)] (ar0 k [(5, .ptr 4 0)]) fun G => b5 (wp_seq (e5 G (n5 2 [2] (ih1 (l.getD k bW1) (ai5 (by assumption)))) [0, 1, 3, 4, 5, 6, 23] [dT l, .tree (D.stmts (bW9 k l)), dT (l.getD k bW1).els, .box [iA (l.getD k bW1).kind, iA (l.getD k bW1).target, iA (l.getD k bW1).index.kind, iA (l.getD k bW1).index.value, .tref 4, iA (l.getD k bW1).value.kind, iA (l.getD k bW1).value.value, .tref 5, iA (l.getD k bW1).count, .tref 6, .ref 2], .tree (D.exprs (l.getD k bW1).index.kids), .tree (D.exprs (l.getD k bW1).value.kids), .tree (D.stmts (l.getD k bW1).body)] (ar0 k [(5, .ptr 3 0)]) fun G => b5 (wp_seq (e5 G (n5 2 [2] (ih2 (l.getD k bW1) (ai5 (by assumption)))) [0, 1, 3, 4, 5, 6, 23] [dT l, .tree (D.stmts (bW9 k l)), .box [iA (l.getD k bW1).kind, iA (l.getD k bW1).target, iA (l.getD k bW1).index.kind, iA (l.getD k bW1).index.value, .tref 3, iA (l.getD k bW1).value.kind, iA (l.getD k bW1).value.value, .tref 4, iA (l.getD k bW1).count, .tref 5, .tref 6], .tree (D.exprs (l.getD k bW1).index.kids), .tree (D.exprs (l.getD k bW1).value.kids), .tree (D.stmts (l.getD k bW1).body), .tree (D.stmts (l.getD k bW1).els)] (ar0 k [(5, .ptr 2 0)]) fun G => b5 (L6 G c3 [0, 31] [dT l, .tree (D.stmts (bW9 k l ++ [qzS (l.getD k bW1)]))] (ar0 k []) [(bW9 k l).length + [qzS (l.getD k bW1)].length ≤ (9223372036854775807 : Nat), ((bW9 k l).length + [qzS (l.getD k bW1)].length) * (152 : Nat) ≤ (140737488355328 : Nat)] ⟨(by have := bs3 (x := (bW1 : b6)) hp hl; simp only [bX2, bY9] at this ⊢; omega), (bN7 (bs3 hp hl) (by kernel_rfl)), bX6⟩ fun G => ?_))))))))))))))
   refine i9 (b5 (z5 G c3 [(4, iA ((k : Int) + 1))] [wO ((k : Int) + 1)] (o1 (by omega)) fun G => b5 ?_)); exact H3 G (k + 1) (by omega) (by omega) [0, 1] (by have e1 : (bW9 (k + 1) l : List b6) = (bW9 k l ++ [qzS (l.getD k bW1)]) := ((bH1 (by omega)).symm); (first | rw [e1] | simp only [e1]) <;> rfl)
theorem bu7 (l : List b6) : c9 l ≤ 1048576 → d8.ok Tryz.prog (aQ6 l) := fun hb => au2 l hb
 (fun s hs => (c_copyS2 s).1 (bX9 (Nat.le_of_lt (P3 hs)) hb)) fun s hs => (c_copyS2 s).2 (bX9 (Nat.le_of_lt (P3 hs)) hb)
where
 c_copyS2 (s : b6) : (B6 s ≤ 1048576 → d8.ok Tryz.prog (aQ6 s.body)) ∧ (B6 s ≤ 1048576 → d8.ok Tryz.prog (aQ6 s.els)) :=
  b6.ind (P := fun s => (B6 s ≤ 1048576 → d8.ok Tryz.prog (aQ6 s.body)) ∧ (B6 s ≤ 1048576 → d8.ok Tryz.prog (aQ6 s.els))) (fun k t i v c b e h1 h2 => by
   have hz : B6 ⟨k, t, i, v, c, b, e⟩ = s5 i + s5 v + c9 b + c9 e := rfl
   constructor
   ·intro hb
    refine au2 b (by omega) (fun s hs => (h1 s hs).1 ?_) fun s hs => (h1 s hs).2 ?_
    ·have := P3 hs; omega
    ·have := P3 hs; omega
   ·intro hb
    refine au2 e (by omega) (fun s hs => (h2 s hs).1 ?_) fun s hs => (h2 s hs).2 ?_
    ·have := P3 hs; omega
    ·have := P3 hs; omega) s
theorem bm3 (p : b8) (hb : p.size ≤ 1048576) : d8.ok Tryz.prog ⟨45, [pA 0], pS p, pS p ++ oP p, oA 3⟩ := by
 refine t8 15 Tryz.func45 [dI p.vars, dI p.arrays, dT p.body] [(0, pA 0)] fun G => ?_
 have hb1 : p.vars.length ≤ 1048576 ∧ p.arrays.length ≤ 1048576 ∧ c9 p.body ≤ 1048576 := by unfold b8.size at hb; omega
 refine wp_seq (e5 G c3 [0, 1, 2, 3, 11] [dI p.vars, dI p.arrays, dT p.body, .box (pL 0), .box [.v (.slice none 0 0), .v (.slice none 0 0), .v (.slice none 0 0)]] [(1, .ptr 3 0), (2, .ptr 4 0)] fun G => b5 (wp_seq (F0 G (n5 10 [2] (bu7 p.body (by omega))) [0, 0, 2, 7, 0, 0, 32, 127, 0, 256, 1023, 2047, 4095] [0, 1, 2, 4, 29, 61, 85] [dI p.vars, dI p.arrays, dT p.body, .box [.ref 4, .ref 5, .tref 6], .row 3 (D.ints ([] ++ p.vars)), .row 3 (D.ints ([] ++ p.arrays)), .tree (D.stmts p.body)] [(2, .ptr 3 0)] (aP ((0 : Nat) + p.vars.length) 8 (aP ((0 : Nat) + p.arrays.length) 8 [])) (aK (by omega) (aK (by omega) bX6)) fun G => b5 (wp_ret ?_)))); exact A3 G [0, 1, 2, 4, 5, 6]
def ao6 (vs ars : List Int) (e : b7) : Int := if e.kind = 2 then vs.getD e.value.toNat 0 else if e.kind = 3 then ars.getD e.value.toNat 0 else 0
def c6 (vs ars : List Int) : Nat → b7 → Int
 | 0, _ => 0
 | d + 1, e => e.kids.foldl (fun a k => f9 a (c6 vs ars d k)) (ao6 vs ars e)
def w5 (vs ars : List Int) (d : Nat) (x : Int) (ks : List b7) (k : Nat) : Int := (ks.take k).foldl (fun a k => f9 a (c6 vs ars d k)) x
theorem M6 {vs ars : List Int} {d k : Nat} {x : Int} {ks : List b7} (h : k < ks.length) : w5 vs ars d x ks (k + 1) = f9 (w5 vs ars d x ks k) (c6 vs ars d (ks.getD k bW1)) := by
 unfold w5; rw [C6 ks k h, List.foldl_append, f8 h]; rfl
theorem S6 {vs ars : List Int} {d k : Nat} {x : Int} {e : b7} (h : e.kids.length ≤ k) (hx : ao6 vs ars e = x) : c6 vs ars (d + 1) e = w5 vs ars d x e.kids k := by
 unfold w5; rw [bX3 h, c6, hx]
section
variable {nv na d : Nat} {e : b7}
theorem aG4 (h : c4 nv na (d + 1) e = true) : s6 nv na e = true := by simp only [c4, bW2] at h; exact h.1.1
theorem al1 (h : c4 nv na (d + 1) e = true) (k : e.kind = 2) : 0 ≤ e.value ∧ e.value < nv ∧ e.value.toNat < nv := by
 have := aG4 h
 simp [s6, z3, k] at this; omega
theorem al2 (h : c4 nv na (d + 1) e = true) (k : e.kind = 3) : 0 ≤ e.value ∧ e.value < na ∧ e.value.toNat < na := by
 have := aG4 h
 simp [s6, z3, k] at this; omega
theorem M9 {k : Nat} (h : c4 nv na (d + 1) e = true) (hk : k < e.kids.length) : c4 nv na d (e.kids.getD k bW1) = true := by
 simp only [c4, bW2] at h
 rw [f8 hk]; exact bX0.1 h.1.2 _ (bX7 hk)
theorem at9 (h : c4 nv na (d + 1) e = true) (k : e.kind = 3) : 0 < e.kids.length := by
 have := aG4 h
 simp [s6, j2, k] at this; omega
end
theorem aD3 {x : Int} (h : c5 x = true) : x = 0 ∨ x = 1 ∨ x = 2 ∨ x = 3 := by simp [c5] at h; omega
theorem A9 (l : Int) : d8.ok Tryz.prog (C9 67 [iA l] [] (bA (c5 l && decide (l % 2 = 1)))) := by
 refine t8 10 Tryz.func67 [] [(0, iA l)] fun G => ?_; refine wp_seq (d9 G c3 [(2, bA false)] fun G => b5 (wp_seq ?_)); cases h0 : (c5 l)
 ·refine d9 G (l9 (f6 1 [] (v5 l) l8) (fc h0 fz) [(3, 0), (4, 0), (5, 0), (1006, 0)]) [] fun G => b5 (wp_ret ?_); exact A3 G []
 ·refine d9 G (l9 (f6 1 [] (v5 l) l8) (fc h0 fz) [(3, 0), (4, 0), (5, 0), (1006, 0)]) [(2, bA (bv8 l 1 == 1))] fun G => b5 (wp_ret ?_); exact m5 (bv8 l 1 == 1) G [] (by rcases aD3 h0 with rfl | rfl | rfl | rfl <;> kernel_rfl)
theorem Z4 (l : Int) : d8.ok Tryz.prog (C9 103 [iA l] [] (bA (c5 l && decide (l ≤ 1)))) := by
 refine t8 10 Tryz.func103 [] [(0, iA l)] fun G => ?_; refine wp_seq (d9 G c3 [(2, bA false)] fun G => b5 (wp_seq ?_)); cases h0 : (c5 l)
 ·refine d9 G (l9 (f6 1 [] (v5 l) l8) (fc h0 fz) [(3, 0), (4, 0), (5, 0), (1006, 0)]) [] fun G => b5 (wp_ret ?_); exact A3 G []
 ·refine d9 G (l9 (f6 1 [] (v5 l) l8) (fc h0 fz) [(3, 0), (4, 0), (5, 0), (1006, 0)]) [(2, bA (bv8 l 2 == 0))] fun G => b5 (wp_ret ?_); exact m5 (bv8 l 2 == 0) G [] (by rcases aD3 h0 with rfl | rfl | rfl | rfl <;> kernel_rfl)
theorem aj6 (x y : Int) : d8.ok Tryz.prog (C9 102 [iA x, iA y] [] (bA (c5 x && c5 y && (f9 x y == y)))) := by
  refine t8 18 Tryz.func102 [] [(0, iA x), (1, iA y)] fun G => ?_; refine wp_seq (d9 G c3 [(4, bA false)] fun G => b5 (wp_seq ?_)); cases h0 : (c5 x)
  · refine d9 G (l9 (f6 1 [] (v5 x) l8) (fc h0 (fc (b := false) rfl fz)) (us [(3, 4, 0), (1005, 1005, 0), (7, 11, 1), (1012, 1012, 1)])) [] fun G => b5 (wp_ret ?_); exact A3 G []
  ·
   cases h1 : (c5 y)
   · refine d9 G (l9 (f6 1 [] (v5 x) (f6 4 [] (v5 y) l8)) (fc h0 (fc h1 fz)) (us [(3, 4, 0), (1005, 1005, 0), (7, 11, 1), (1012, 1012, 1)])) [] fun G => b5 (wp_ret ?_); exact A3 G []
   · refine d9 G (l9 (f6 1 [] (v5 x) (f6 4 [] (v5 y) l8)) (fc h0 (fc h1 fz)) (us [(3, 4, 0), (1005, 1005, 0), (7, 11, 1), (1012, 1012, 1)])) [(4, bA (f9 x y == y))] fun G => b5 (wp_ret ?_); exact A3 G []
theorem L8 {x : Int} (h : c5 x = true) : ∃ a : Fin 4, x = (a.val : Int) := by
 simp [c5] at h
 exact ⟨⟨x.toNat, by omega⟩, by simp; omega⟩
theorem aY0 (p : b8) (d : Nat) (ih : ∀ (e : b7), c4 p.vars.length p.arrays.length d e = true → d8.ok Tryz.prog (C9 68 [pA 0, eA e 3] (pS p ++ eS e) (iA (c6 p.vars p.arrays d e))))
    (e : b7) (he : c4 p.vars.length p.arrays.length (d + 1) e = true) : d8.ok Tryz.prog (C9 68 [pA 0, eA e 3] (pS p ++ eS e) (iA (c6 p.vars p.arrays (d + 1) e))) := by
  refine t8 42 Tryz.func68 [dI p.vars, dI p.arrays, dT p.body, dE e.kids] [(0, pA 0), (1, eA e 3)] fun G => ?_; refine wp_seq (e5 G c3 [0, 1, 2, 3, 4, 12] [dI p.vars, dI p.arrays, dT p.body, dE e.kids, .box (pL 0), .box (eL e 3)] [(2, .ptr 4 0), (3, .ptr 5 0), (4, iA 0)] fun G => b5 (wp_seq (d9 G c3 [(5, iA 0)] fun G => b5 (wp_seq (wp_seq (d9 G c3 [(8, iA e.kind)] fun G => b5 (wp_block (wp_seq (d9 G c3 [(9, bA (e.kind == 2))] fun G => b5 (I1 G (fun h0 q0 => ?_) fun h0 q0 => ?_))))))))))
  ·
   refine wp_seq (d9 G c3 [(17, bA (e.kind == 3))] fun G => b5 (I1 G (fun h1 q1 => ?_) fun h1 q1 => ?_))
   ·
    refine wp_skip (i9 (b5 (wp_seq (wp_seq (w3 G c3 [(2, .ptr 4 0), (3, .ptr 5 0), (4, iA 0), (5, iA 0), (6, iA 0)] fun G => b5 (wp_block ?_)))))); refine k8 (κ := Nat) (fun k => k ≤ e.kids.length) (fun k => e.kids.length - k) (fun k => [dI p.vars, dI p.arrays, dT p.body, dE e.kids, .box (pL 0), .box (eL e 3)]) (fun k => [(2, .ptr 4 0), (3, .ptr 5 0), (4, iA 0), (5, iA (w5 p.vars p.arrays d 0 e.kids k)), (6, iA k)]) 0 (by omega) (l7.at G _ _) ?_; clear G; intro k ρ a w hp G; have hlen : e.kids.length ≤ 9223372036854775807 := G.len 3 (d := .exprs e.kids) (by kernel_rfl); refine wp_seq (wp_seq (w3 G c3 [(2, .ptr 4 0), (3, .ptr 5 0), (4, iA 0), (5, iA (w5 p.vars p.arrays d 0 e.kids k)), (6, iA k), (29, bA (decide ((k : Int) < e.kids.length)))] fun G => b5 (I2 G (fun h2 q2 => ?_) fun h2 q2 => ?_)))
    · refine wp_exit (j9 (j9 (j7 (b5 (wp_seq (e5 G c3 (rg 4) [dI p.vars, dI p.arrays, dT p.body, dE e.kids] [(4, iA (w5 p.vars p.arrays d 0 e.kids k))] fun G => b5 (wp_ret ?_))))))); exact J9 (w5 p.vars p.arrays d 0 e.kids k) G (rg 4) (S6 (by omega) (by simp [ao6, h0, q0, h1, q1, h2, q2]; done))
    · refine wp_skip (b5 (wp_seq (wp_block (T9 G (n5 7 [0, 1, 2, 54] (ih (e.kids.getD k bW1) (M9 he (by omega)))) [0, 0, 0, 4, 0, 28, 60, 126, 255, 511] [(5, iA (f9 (w5 p.vars p.arrays d 0 e.kids k) (c6 p.vars p.arrays d (e.kids.getD k bW1))))] (iX k k e.kids.length []) (iK (by omega) bX6) fun G => i9 (b5 (z5 G c3 [(6, iA ((k : Int) + 1))] [wO ((k : Int) + 1)] (o1 (by omega)) fun G => b5 ?_)))))); exact H3 G (k + 1) (by omega) (by omega) (rg 6) (ht := by have e1 : (w5 p.vars p.arrays d 0 e.kids (k + 1) : Int) = (f9 (w5 p.vars p.arrays d 0 e.kids k) (c6 p.vars p.arrays d (e.kids.getD k bW1))) := (M6 (by omega)); (first | rw [e1] | simp only [e1]) <;> rfl)
   ·
    refine z5 G c3 [(5, iA (p.arrays.getD e.value.toNat 0))] [(0 : Int) ≤ e.value, e.value < (p.arrays.length : Int), e.value.toNat < p.arrays.length] ⟨((al2 he (by assumption)).1), ((al2 he (by assumption)).2.1), ((al2 he (by assumption)).2.2), bX6⟩ fun G => i9 (b5 (wp_seq (wp_seq (w3 G c3 [(2, .ptr 4 0), (3, .ptr 5 0), (4, iA 0), (5, iA (p.arrays.getD e.value.toNat 0)), (6, iA 0)] fun G => b5 (wp_block ?_))))); refine k8 (κ := Nat) (fun k => k ≤ e.kids.length) (fun k => e.kids.length - k) (fun k => [dI p.vars, dI p.arrays, dT p.body, dE e.kids, .box (pL 0), .box (eL e 3)]) (fun k => [(2, .ptr 4 0), (3, .ptr 5 0), (4, iA 0), (5, iA (w5 p.vars p.arrays d (p.arrays.getD e.value.toNat 0) e.kids k)), (6, iA k)]) 0 (by omega) (l7.at G _ _) ?_; clear G; intro k ρ a w hp G; have hlen : e.kids.length ≤ 9223372036854775807 := G.len 3 (d := .exprs e.kids) (by kernel_rfl); refine wp_seq (wp_seq (w3 G c3 [(2, .ptr 4 0), (3, .ptr 5 0), (4, iA 0), (5, iA (w5 p.vars p.arrays d (p.arrays.getD e.value.toNat 0) e.kids k)), (6, iA k), (29, bA (decide ((k : Int) < e.kids.length)))] fun G => b5 (I2 G (fun h3 q3 => ?_) fun h3 q3 => ?_)))
    · refine wp_exit (j9 (j9 (j7 (b5 (wp_seq (e5 G c3 (rg 4) [dI p.vars, dI p.arrays, dT p.body, dE e.kids] [(4, iA (w5 p.vars p.arrays d (p.arrays.getD e.value.toNat 0) e.kids k))] fun G => b5 (wp_ret ?_))))))); exact J9 (w5 p.vars p.arrays d (p.arrays.getD e.value.toNat 0) e.kids k) G (rg 4) (S6 (by omega) (by simp [ao6, h0, q0, h1, q1, h3, q3]; done))
    · refine wp_skip (b5 (wp_seq (wp_block (T9 G (n5 7 [0, 1, 2, 54] (ih (e.kids.getD k bW1) (M9 he (by omega)))) [0, 0, 0, 4, 0, 28, 60, 126, 255, 511] [(5, iA (f9 (w5 p.vars p.arrays d (p.arrays.getD e.value.toNat 0) e.kids k) (c6 p.vars p.arrays d (e.kids.getD k bW1))))] (iX k k e.kids.length []) (iK (by omega) bX6) fun G => i9 (b5 (z5 G c3 [(6, iA ((k : Int) + 1))] [wO ((k : Int) + 1)] (o1 (by omega)) fun G => b5 ?_)))))); exact H3 G (k + 1) (by omega) (by omega) (rg 6) (ht := by have e1 : (w5 p.vars p.arrays d (p.arrays.getD e.value.toNat 0) e.kids (k + 1) : Int) = (f9 (w5 p.vars p.arrays d (p.arrays.getD e.value.toNat 0) e.kids k) (c6 p.vars p.arrays d (e.kids.getD k bW1))) := (M6 (by omega)); (first | rw [e1] | simp only [e1]) <;> rfl)
  ·
   refine z5 G c3 [(5, iA (p.vars.getD e.value.toNat 0))] [(0 : Int) ≤ e.value, e.value < (p.vars.length : Int), e.value.toNat < p.vars.length] ⟨((al1 he (by assumption)).1), ((al1 he (by assumption)).2.1), ((al1 he (by assumption)).2.2), bX6⟩ fun G => i9 (b5 (wp_seq (wp_seq (w3 G c3 [(2, .ptr 4 0), (3, .ptr 5 0), (4, iA 0), (5, iA (p.vars.getD e.value.toNat 0)), (6, iA 0)] fun G => b5 (wp_block ?_))))); refine k8 (κ := Nat) (fun k => k ≤ e.kids.length) (fun k => e.kids.length - k) (fun k => [dI p.vars, dI p.arrays, dT p.body, dE e.kids, .box (pL 0), .box (eL e 3)]) (fun k => [(2, .ptr 4 0), (3, .ptr 5 0), (4, iA 0), (5, iA (w5 p.vars p.arrays d (p.vars.getD e.value.toNat 0) e.kids k)), (6, iA k)]) 0 (by omega) (l7.at G _ _) ?_; clear G; intro k ρ a w hp G; have hlen : e.kids.length ≤ 9223372036854775807 := G.len 3 (d := .exprs e.kids) (by kernel_rfl); refine wp_seq (wp_seq (w3 G c3 [(2, .ptr 4 0), (3, .ptr 5 0), (4, iA 0), (5, iA (w5 p.vars p.arrays d (p.vars.getD e.value.toNat 0) e.kids k)), (6, iA k), (29, bA (decide ((k : Int) < e.kids.length)))] fun G => b5 (I2 G (fun h4 q4 => ?_) fun h4 q4 => ?_)))
   · refine wp_exit (j9 (j9 (j7 (b5 (wp_seq (e5 G c3 (rg 4) [dI p.vars, dI p.arrays, dT p.body, dE e.kids] [(4, iA (w5 p.vars p.arrays d (p.vars.getD e.value.toNat 0) e.kids k))] fun G => b5 (wp_ret ?_))))))); exact J9 (w5 p.vars p.arrays d (p.vars.getD e.value.toNat 0) e.kids k) G (rg 4) (S6 (by omega) (by simp [ao6, h0, q0, h4, q4]; done))
   · refine wp_skip (b5 (wp_seq (wp_block (T9 G (n5 7 [0, 1, 2, 54] (ih (e.kids.getD k bW1) (M9 he (by omega)))) [0, 0, 0, 4, 0, 28, 60, 126, 255, 511] [(5, iA (f9 (w5 p.vars p.arrays d (p.vars.getD e.value.toNat 0) e.kids k) (c6 p.vars p.arrays d (e.kids.getD k bW1))))] (iX k k e.kids.length []) (iK (by omega) bX6) fun G => i9 (b5 (z5 G c3 [(6, iA ((k : Int) + 1))] [wO ((k : Int) + 1)] (o1 (by omega)) fun G => b5 ?_)))))); exact H3 G (k + 1) (by omega) (by omega) (rg 6) (ht := by have e1 : (w5 p.vars p.arrays d (p.vars.getD e.value.toNat 0) e.kids (k + 1) : Int) = (f9 (w5 p.vars p.arrays d (p.vars.getD e.value.toNat 0) e.kids k) (c6 p.vars p.arrays d (e.kids.getD k bW1))) := (M6 (by omega)); (first | rw [e1] | simp only [e1]) <;> rfl)
theorem ax8 (p : b8) : ∀ (d : Nat) (e : b7), c4 p.vars.length p.arrays.length d e = true → d8.ok Tryz.prog (C9 68 [pA 0, eA e 3] (pS p ++ eS e) (iA (c6 p.vars p.arrays d e))) := by
 intro d
 induction d with
 | zero => intro e h; simp [c4] at h
 | succ d ih => intro e h; exact aY0 p d ih e h
def H2 (vs ars : List Int) : Nat → b7 → Bool
 | 0, _ => false
 | d + 1, e => (decide (e.kind = 3) && (c5 (c6 vs ars d (e.kids.getD 0 bW1)) && decide (c6 vs ars d (e.kids.getD 0 bW1) % 2 = 1))) || e.kids.any (H2 vs ars d)
section
variable {vs ars : List Int} {d : Nat} {e : b7}
theorem bA8 (k : e.kind = 3) (h : (c5 (c6 vs ars d (e.kids.getD 0 bW1)) && decide (c6 vs ars d (e.kids.getD 0 bW1) % 2 = 1)) = true) : H2 vs ars (d + 1) e = true := by rw [H2, h]; simp [k]
theorem bA9 (h : e.kids.any (H2 vs ars d) = false) (k : ¬ e.kind = 3) : H2 vs ars (d + 1) e = false := by rw [H2, h]; simp [k]
theorem bq0 (h : e.kids.any (H2 vs ars d) = false) (k : (c5 (c6 vs ars d (e.kids.getD 0 bW1)) && decide (c6 vs ars d (e.kids.getD 0 bW1) % 2 = 1)) = false) : H2 vs ars (d + 1) e = false := by rw [H2, h, k]; simp
end
theorem aj8 {α : Type} {l : List α} {k : Nat} {p : α → Bool} {z : α} (h : (l.take k).any p = false) (hk : k < l.length) (hp : p (l.getD k z) = false) : (l.take (k + 1)).any p = false := by
 rw [C6 l k hk, List.any_append, h, ← f8 (d := z) hk, List.any_cons, hp]; rfl
theorem aj9 {α : Type} {l : List α} {k : Nat} {p : α → Bool} (h : (l.take k).any p = false) (hk : l.length ≤ k) : l.any p = false := by
 rw [bX3 hk] at h; exact h
theorem a65 {α : Type} {l : List α} {k : Nat} {p : α → Bool} {z : α} (hk : k < l.length) (hp : p (l.getD k z) = true) : l.any p = true := by
 rw [f8 hk] at hp
 exact List.any_eq_true.2 ⟨_, bX7 hk, hp⟩
theorem aR4 (p : b8) (d : Nat) (ih : ∀ (e : b7), c4 p.vars.length p.arrays.length d e = true → d8.ok Tryz.prog (C9 104 [pA 0, eA e 3] (pS p ++ eS e) (bA (H2 p.vars p.arrays d e))))
    (ihl : ∀ (e : b7), c4 p.vars.length p.arrays.length d e = true → d8.ok Tryz.prog (C9 68 [pA 0, eA e 3] (pS p ++ eS e) (iA (c6 p.vars p.arrays d e))))
    (e : b7) (he : c4 p.vars.length p.arrays.length (d + 1) e = true) : d8.ok Tryz.prog (C9 104 [pA 0, eA e 3] (pS p ++ eS e) (bA (H2 p.vars p.arrays (d + 1) e))) := by
  refine t8 32 Tryz.func104 [dI p.vars, dI p.arrays, dT p.body, dE e.kids] [(0, pA 0), (1, eA e 3)] fun G => ?_; have hlen : e.kids.length ≤ 9223372036854775807 := G.len 3 (d := .exprs e.kids) (by kernel_rfl); refine wp_seq (e5 G c3 [0, 1, 2, 3, 4, 12] [dI p.vars, dI p.arrays, dT p.body, dE e.kids, .box (pL 0), .box (eL e 3)] [(2, .ptr 4 0), (3, .ptr 5 0), (4, bA false)] fun G => b5 (wp_seq (wp_seq ?_))); cases h0 : (e.kind == 3)
  ·
   have q0 := ne_of_beq_false h0; refine a79 G (z4 (fc h0 fz) (us [(4, 10, 0), (1011, 1011, 0)])) [0, 1, 3, 7, 15, 15, 47, 111, 239, 511, 1023, 2047] [(17, bA false)] fun G => b5 (rF G false (by kernel_rfl) (wp_skip (b5 (wp_seq (wp_seq (w3 G c3 [(2, .ptr 4 0), (3, .ptr 5 0), (4, bA false), (5, iA 0)] fun G => b5 (wp_block ?_))))))); refine k8 (κ := Nat) (fun k => k ≤ e.kids.length ∧ (e.kids.take k).any (H2 p.vars p.arrays d) = false) (fun k => e.kids.length - k) (fun k => [dI p.vars, dI p.arrays, dT p.body, dE e.kids, .box (pL 0), .box (eL e 3)]) (fun k => [(2, .ptr 4 0), (3, .ptr 5 0), (4, bA false), (5, iA k)]) 0 (by simp [he, h0]) (l7.at G _ _) ?_; clear G; intro k ρ a w hp G; refine wp_seq (wp_seq (d9 G c3 [(22, bA (decide ((k : Int) < e.kids.length)))] fun G => b5 (I2 G (fun h2 q2 => ?_) fun h2 q2 => ?_)))
   · refine wp_exit (j9 (j9 (j7 (b5 (wp_seq (e5 G c3 (rg 4) [dI p.vars, dI p.arrays, dT p.body, dE e.kids] [(4, bA false)] fun G => b5 (wp_ret ?_))))))); exact m5 false G (rg 4) (bA9 (aj9 hp.2 (by omega)) (by assumption))
   ·
    refine wp_skip (b5 (wp_seq (wp_block (wp_seq (T9 G (n5 6 [0, 1, 2, 46] (ih (e.kids.getD k bW1) (M9 he (by omega)))) [0, 0, 2, 0, 14, 30, 63] [(31, bA (H2 p.vars p.arrays d (e.kids.getD k bW1)))] (iX k k e.kids.length []) (iK (by omega) bX6) fun G => b5 (rcB G (fun h3 => ?_) fun h3 => ?_))))))
    · refine wp_skip (i9 (b5 (z5 G c3 [(5, iA ((k : Int) + 1))] [wO ((k : Int) + 1)] (o1 (by omega)) fun G => b5 ?_))); exact H3 G (k + 1) (⟨by omega, aj8 hp.2 (by omega) (by assumption)⟩) (by omega) (rg 6)
    · refine wp_seq (d9 G c3 [(4, bA true)] fun G => b5 (wp_ret (m7 (c8 (c8 (m7 (c8 ?_))))))); exact m5 true G (rg 4) (by rw [H2, a65 (k := k) (by omega) (by assumption), Bool.or_true])
  ·
   have q0 := eq_of_beq h0; refine T9 G (l9 (f6 9 [0, 1, 2, 70] (ihl (e.kids.getD 0 bW1) (M9 he (at9 he (by assumption)))) (f6 10 [] (A9 (c6 p.vars p.arrays d (e.kids.getD 0 bW1))) l8)) (fc h0 fz) (us [(4, 10, 0), (1011, 1011, 0)])) [0, 1, 3, 7, 15, 15, 47, 111, 239, 511, 1023, 2047] [(17, bA (c5 (c6 p.vars p.arrays d (e.kids.getD 0 bW1)) && decide (c6 p.vars p.arrays d (e.kids.getD 0 bW1) % 2 = 1)))] (iX 0 0 e.kids.length []) (iK (by have := at9 he (by assumption); omega) bX6) fun G => b5 ?_; cases h1 : (c5 (c6 p.vars p.arrays d (e.kids.getD (0 : Nat) bW1)) && decide (c6 p.vars p.arrays d (e.kids.getD (0 : Nat) bW1) % (2 : Int) = 1))
   ·
    have q1 : ((c5 (c6 p.vars p.arrays d (e.kids.getD 0 bW1))) = false) ∨ (¬ (c6 p.vars p.arrays d (e.kids.getD 0 bW1) % 2 = 1)) := Or.imp (fun hq => (hq)) (fun hq => of_decide_eq_false hq) (bY6.1 h1); refine rF G _ h1 (wp_skip (b5 (wp_seq (wp_seq (w3 G c3 [(2, .ptr 4 0), (3, .ptr 5 0), (4, bA false), (5, iA 0)] fun G => b5 (wp_block ?_)))))); refine k8 (κ := Nat) (fun k => k ≤ e.kids.length ∧ (e.kids.take k).any (H2 p.vars p.arrays d) = false) (fun k => e.kids.length - k) (fun k => [dI p.vars, dI p.arrays, dT p.body, dE e.kids, .box (pL 0), .box (eL e 3)]) (fun k => [(2, .ptr 4 0), (3, .ptr 5 0), (4, bA false), (5, iA k)]) 0 (by simp [he, h0, h1]) (l7.at G _ _) ?_; clear G; intro k ρ a w hp G; refine wp_seq (wp_seq (d9 G c3 [(22, bA (decide ((k : Int) < e.kids.length)))] fun G => b5 (I2 G (fun h4 q4 => ?_) fun h4 q4 => ?_)))
    · refine wp_exit (j9 (j9 (j7 (b5 (wp_seq (e5 G c3 (rg 4) [dI p.vars, dI p.arrays, dT p.body, dE e.kids] [(4, bA false)] fun G => b5 (wp_ret ?_))))))); exact m5 false G (rg 4) (bq0 (aj9 hp.2 (by omega)) (by assumption))
    ·
     refine wp_skip (b5 (wp_seq (wp_block (wp_seq (T9 G (n5 6 [0, 1, 2, 46] (ih (e.kids.getD k bW1) (M9 he (by omega)))) [0, 0, 2, 0, 14, 30, 63] [(31, bA (H2 p.vars p.arrays d (e.kids.getD k bW1)))] (iX k k e.kids.length []) (iK (by omega) bX6) fun G => b5 (rcB G (fun h5 => ?_) fun h5 => ?_))))))
     · refine wp_skip (i9 (b5 (z5 G c3 [(5, iA ((k : Int) + 1))] [wO ((k : Int) + 1)] (o1 (by omega)) fun G => b5 ?_))); exact H3 G (k + 1) (⟨by omega, aj8 hp.2 (by omega) (by assumption)⟩) (by omega) (rg 6)
     · refine wp_seq (d9 G c3 [(4, bA true)] fun G => b5 (wp_ret (m7 (c8 (c8 (m7 (c8 ?_))))))); exact m5 true G (rg 4) (by rw [H2, a65 (k := k) (by omega) (by assumption), Bool.or_true])
   · have q1 : ((c5 (c6 p.vars p.arrays d (e.kids.getD 0 bW1))) = true) ∧ (c6 p.vars p.arrays d (e.kids.getD 0 bW1) % 2 = 1) := And.imp (fun hq => (hq)) (fun hq => of_decide_eq_true hq) (bY8.1 h1); refine rT G _ h1 (wp_seq (d9 G c3 [(4, bA true)] fun G => b5 (wp_ret (c8 ?_)))); exact m5 true G (rg 4) (bA8 (by assumption) (by assumption))
def flB (x y : Int) : Bool := c5 x && c5 y && (f9 x y == y)
abbrev i7 (p : b8) (e : b7) : Int := c6 p.vars p.arrays 5 e
def Q5 (x : Int) : Bool := c5 x && decide (x % 2 = 1)
def F8 (p : b8) (s : b6) (pc : Int) : Int :=
 if s.kind = 1 then if flB (f9 (i7 p s.value) pc) (p.vars.getD s.target.toNat 0) then 0 else 1
 else if s.kind = 2 then if flB (f9 (f9 (i7 p s.value) (i7 p s.index)) pc) (p.arrays.getD s.target.toNat 0) then 0 else 1
 else if s.kind = 5 then if (c5 (i7 p s.value) && decide (i7 p s.value ≤ 1)) && decide (pc = 0) then 0 else 2
 else 0
def ad2 (p : b8) (s : b6) : Int :=
 if s.kind = 3 ∧ Q5 (i7 p s.value) = true then 3
 else if (s.kind ≠ 4 ∧ H2 p.vars p.arrays 5 s.value = true) ∨ (s.kind = 2 ∧ Q5 (i7 p s.index) = true) then 4 else 0
def O5 (p : b8) (s : b6) (pc : Int) (strict : Bool) : Int := if F8 p s pc = 0 then (if strict then ad2 p s else 0) else F8 p s pc
theorem D2 (p : b8) (e : b7) (he : c4 p.vars.length p.arrays.length 5 e = true) : d8.ok Tryz.prog (C9 68 [pA 0, eA e 3] (pS p ++ eS e) (iA (i7 p e))) := ax8 p 5 e he
theorem aR5 (p : b8) : ∀ (d : Nat) (e : b7), c4 p.vars.length p.arrays.length d e = true → d8.ok Tryz.prog (C9 104 [pA 0, eA e 3] (pS p ++ eS e) (bA (H2 p.vars p.arrays d e))) := by
 intro d
 induction d with
 | zero => intro e h; simp [c4] at h
 | succ d ih => intro e h; exact aR4 p d ih (ax8 p d) e h
theorem x9 (p : b8) (e : b7) (he : c4 p.vars.length p.arrays.length 5 e = true) : d8.ok Tryz.prog (C9 104 [pA 0, eA e 3] (pS p ++ eS e) (bA (H2 p.vars p.arrays 5 e))) := aR5 p 5 e he
section
variable {nv na : Nat} {s : b6}
theorem Y4 {e : b7} (h : f7 nv na e = true) : c4 nv na 5 e = true := by unfold f7 at h; simp only [bW2] at h; exact h.1
variable (h : s9 nv na s = true)
include h
theorem r8 (k : ¬ s.kind = 4) : c4 nv na 5 s.value = true := by
 apply Y4
 by_cases k1 : s.kind = 1 ∨ s.kind = 5
 ·rw [t0 k1] at h; simp only [bW2] at h; exact h.2.2
 by_cases k2 : s.kind = 2
 ·rw [C7 k2] at h; simp only [bW2] at h; exact h.2.2.2
 by_cases k3 : s.kind = 3
 ·rw [P7 k3] at h; simp only [bW2] at h; exact h.2.2
 ·rw [aD5 (by omega)] at h; cases h
theorem aw4 (k : s.kind = 2) : c4 nv na 5 s.index = true := by
 rw [C7 k] at h; simp only [bW2] at h; exact Y4 h.2.1
theorem aw3 (k : s.kind = 1 ∨ s.kind = 5) : 0 ≤ s.target ∧ s.target < nv ∧ s.target.toNat < nv := by
 rw [t0 k] at h; simp only [bW2, decide_eq_true_eq] at h; omega
theorem aw5 (k : s.kind = 2) : 0 ≤ s.target ∧ s.target < na ∧ s.target.toNat < na := by
 rw [C7 k] at h; simp only [bW2, decide_eq_true_eq] at h; omega
end
section
variable {p : b8} {s : b6} {pc : Int} {strict : Bool} {x : Int}
theorem ah8 (h : F8 p s pc = x) (hx : x ≠ 0) : O5 p s pc strict = x := by rw [O5, h, if_neg hx]
theorem Y6 (h : F8 p s pc = 0) : O5 p s pc false = 0 := by rw [O5, h]; rfl
theorem r7 (h : F8 p s pc = 0) (hl : ad2 p s = x) : O5 p s pc true = x := by rw [O5, h, hl]; rfl
theorem bD7 (k : s.kind = 1) (h : (!(c5 (f9 (i7 p s.value) pc) && c5 (p.vars.getD s.target.toNat 0) && (f9 (f9 (i7 p s.value) pc) (p.vars.getD s.target.toNat 0) == (p.vars.getD s.target.toNat 0)))) = false) : F8 p s pc = 0 := by rw [F8, if_pos k, if_pos (by unfold flB; first | (rw [bW7] at h; exact h) | (rw [bW6] at h; rw [h]; simp))]
theorem bV3 (k : s.kind = 1) (h : (!(c5 (f9 (i7 p s.value) pc) && c5 (p.vars.getD s.target.toNat 0) && (f9 (f9 (i7 p s.value) pc) (p.vars.getD s.target.toNat 0) == (p.vars.getD s.target.toNat 0)))) = true) : F8 p s pc = 1 := by rw [F8, if_pos k, if_neg (by unfold flB; first | (rw [bW7] at h; exact h) | (rw [bW6] at h; rw [h]; simp))]
theorem bt0 (k : s.kind = 2) (h : (!(c5 (f9 (f9 (i7 p s.value) (i7 p s.index)) pc) && c5 (p.arrays.getD s.target.toNat 0) && (f9 (f9 (f9 (i7 p s.value) (i7 p s.index)) pc) (p.arrays.getD s.target.toNat 0) == (p.arrays.getD s.target.toNat 0)))) = false) : F8 p s pc = 0 := by rw [F8, if_neg (by omega), if_pos k, if_pos (by unfold flB; first | (rw [bW7] at h; exact h) | (rw [bW6] at h; rw [h]; simp))]
theorem bV2 (k : s.kind = 2) (h : (!(c5 (f9 (f9 (i7 p s.value) (i7 p s.index)) pc) && c5 (p.arrays.getD s.target.toNat 0) && (f9 (f9 (f9 (i7 p s.value) (i7 p s.index)) pc) (p.arrays.getD s.target.toNat 0) == (p.arrays.getD s.target.toNat 0)))) = true) : F8 p s pc = 1 := by rw [F8, if_neg (by omega), if_pos k, if_neg (by unfold flB; first | (rw [bW7] at h; exact h) | (rw [bW6] at h; rw [h]; simp))]
theorem bD6 (k : s.kind = 5) (h : (!(c5 (i7 p s.value) && decide (i7 p s.value ≤ 1))) = false) (h2 : pc = 0) : F8 p s pc = 0 := by
 rw [bW7] at h
 rw [F8, if_neg (by omega), if_neg (by omega), if_pos k, h, decide_eq_true h2]; rfl
theorem bN2 (k : s.kind = 5) (h : (!(c5 (i7 p s.value) && decide (i7 p s.value ≤ 1))) = true ∨ ¬ pc = 0) : F8 p s pc = 2 := by
 rw [F8, if_neg (by omega), if_neg (by omega), if_pos k]
 rcases h with h | h
 ·rw [bW6] at h
  rw [h]; rfl
 ·rw [decide_eq_false h, Bool.and_false]; rfl
theorem fl0 (k : ¬ s.kind = 1 ∧ ¬ s.kind = 2 ∧ ¬ s.kind = 5) : F8 p s pc = 0 := by rw [F8, if_neg k.1, if_neg k.2.1, if_neg k.2.2]
theorem lk3 (k : s.kind = 3) (h : (c5 (i7 p s.value) && decide (i7 p s.value % 2 = 1)) = true) : ad2 p s = 3 := by rw [ad2, if_pos ⟨k, (show Q5 _ = true from h)⟩]
theorem lkv (h3 : ¬ s.kind = 3 ∨ (c5 (i7 p s.value) && decide (i7 p s.value % 2 = 1)) = false) (k : ¬ s.kind = 4) (h : H2 p.vars p.arrays 5 s.value = true) : ad2 p s = 4 := by
 rw [ad2, if_neg (by rintro ⟨a, b⟩; exact h3.elim (fun h => h a) (fun h => Bool.false_ne_true (h.symm.trans b))), if_pos (.inl ⟨k, h⟩)]
theorem lki (k : s.kind = 2) (h : (c5 (i7 p s.index) && decide (i7 p s.index % 2 = 1)) = true) : ad2 p s = 4 := by
 rw [ad2, if_neg (by omega), if_pos (.inr ⟨k, (show Q5 _ = true from h)⟩)]
theorem lk0 (h3 : ¬ s.kind = 3 ∨ (c5 (i7 p s.value) && decide (i7 p s.value % 2 = 1)) = false) (h4 : s.kind = 4 ∨ H2 p.vars p.arrays 5 s.value = false) (h2 : ¬ s.kind = 2 ∨ (c5 (i7 p s.index) && decide (i7 p s.index % 2 = 1)) = false) : ad2 p s = 0 := by
 rw [ad2, if_neg (by rintro ⟨a, b⟩; exact h3.elim (fun h => h a) (fun h => Bool.false_ne_true (h.symm.trans b))), if_neg]
 rintro (⟨a, b⟩ | ⟨a, b⟩)
 ·rcases h4 with h | h
  ·exact a h
  ·rw [h] at b; cases b
 ·rcases h2 with h | h
  ·exact h a
  ·exact Bool.false_ne_true (h.symm.trans b)
end
abbrev G5 (p : b8) (s : b6) (r0 : List It) : List It := dI p.vars :: dI p.arrays :: dT p.body :: dE s.index.kids :: dE s.value.kids :: dT s.body :: dT s.els :: r0
theorem bu6 (p : b8) (s : b6) (pc : Int) (strict : Bool) (h : s9 p.vars.length p.arrays.length s = true) : d8.ok Tryz.prog (C9 94 [pA 0, sA s 3, iA pc, bA strict] (pS p ++ sS s) (iA (O5 p s pc strict))) := by
  refine t8 94 Tryz.func94 (G5 p s []) [(0, pA 0), (1, sA s 3), (2, iA pc), (3, bA strict)] fun G => ?_; refine wp_seq (e5 G c3 [0, 1, 2, 3, 4, 5, 6, 7, 15] (G5 p s [.box (pL 0), .box (sL s 3)]) [(2, iA pc), (3, bA strict), (4, .ptr 7 0), (5, .ptr 8 0), (8, iA 0)] fun G => b5 (wp_seq (wp_seq (d9 G c3 [(10, iA s.kind)] fun G => b5 (wp_block (wp_seq (d9 G c3 [(11, bA (s.kind == 1))] fun G => b5 (I1 G (fun h0 q0 => ?_) fun h0 q0 => ?_))))))))
  ·
   refine wp_seq (d9 G c3 [(27, bA (s.kind == 2))] fun G => b5 (I1 G (fun h1 q1 => ?_) fun h1 q1 => ?_))
   ·
    refine wp_seq (d9 G c3 [(48, bA (s.kind == 5))] fun G => b5 (I1 G (fun h2 q2 => ?_) fun h2 q2 => ?_))
    ·
     refine wp_seq (d9 G c3 [(60, bA (s.kind == 3))] fun G => b5 (I1 G (fun h3 q3 => ?_) fun h3 q3 => ?_))
     ·
      refine wp_skip (i9 (b5 (wp_seq (wp_seq ?_)))); cases h4 : (strict)
      · refine e5 G (z4 (fc h4 fz) (us [(2, 5, 0), (10, 11, 0), (22, 22, 0), (1023, 1023, 0)])) (rg 7) (G5 p s []) [(8, iA 0), (93, bA false)] fun G => b5 (rF G false (by kernel_rfl) (wp_skip (b5 (wp_seq (d9 G c3 [] fun G => b5 (wp_ret ?_)))))); exact J9 0 G (rg 7) (Y6 (fl0 (by omega)))
      ·
       cases h5 : (s.kind != 4)
       · have q5 := bne_eq_false_iff_eq.1 h5; refine e5 G (z4 (fc h4 (fc h5 (fc (b := false) rfl (fc h1 fz)))) (us [(2, 5, 0), (6, 9, 1), (10, 10, 0), (1010, 1010, 1), (11, 11, 0), (12, 15, 2), (16, 20, 3), (21, 21, 2), (1021, 1021, 3), (22, 22, 0), (1022, 1022, 2), (1023, 1023, 0)])) (rg 7) (G5 p s []) [(8, iA 0), (93, bA false)] fun G => b5 (rF G false (by kernel_rfl) (wp_skip (b5 (wp_seq (d9 G c3 [] fun G => b5 (wp_ret ?_)))))); exact J9 0 G (rg 7) (r7 (fl0 (by omega)) (lk0 (by exact .inl (by omega)) (by exact .inl (by omega)) (by exact .inl (by omega))))
       ·
        have q5 := bne_iff_ne.1 h5; cases h6 : (H2 p.vars p.arrays (5 : Nat) s.value)
        · refine e5 G (l9 (f6 9 [0, 1, 2, 4] (x9 p s.value (r8 h (by omega))) l8) (fc h4 (fc h5 (fc h6 (fc h1 fz)))) (us [(2, 5, 0), (6, 9, 1), (10, 10, 0), (1010, 1010, 1), (11, 11, 0), (12, 15, 2), (16, 20, 3), (21, 21, 2), (1021, 1021, 3), (22, 22, 0), (1022, 1022, 2), (1023, 1023, 0)])) (rg 7) (G5 p s []) [(8, iA 0), (93, bA false)] fun G => b5 (rF G false (by kernel_rfl) (wp_skip (b5 (wp_seq (d9 G c3 [] fun G => b5 (wp_ret ?_)))))); exact J9 0 G (rg 7) (r7 (fl0 (by omega)) (lk0 (by exact .inl (by omega)) (by exact .inr (by with_reducible assumption)) (by exact .inl (by omega))))
        · refine e5 G (l9 (f6 9 [0, 1, 2, 4] (x9 p s.value (r8 h (by omega))) l8) (fc h4 (fc h5 (fc h6 fz))) (us [(2, 5, 0), (6, 9, 1), (10, 10, 0), (1010, 1010, 1), (11, 11, 0), (12, 15, 2), (21, 21, 2), (22, 22, 0), (1022, 1022, 2), (1023, 1023, 0)])) (rg 7) (G5 p s []) [(8, iA 0), (93, bA true)] fun G => b5 (rT G true (by kernel_rfl) (wp_seq (d9 G c3 [(8, iA 4)] fun G => b5 (wp_ret (c8 ?_))))); exact J9 4 G (rg 7) (r7 (fl0 (by omega)) (lkv (by exact .inl (by omega)) (by omega) (by with_reducible assumption)))
     ·
      refine wp_seq ?_; cases h7 : (strict)
      · refine d9 G (z4 (fc h7 fz) (us [(2, 6, 0), (1007, 1007, 0)])) [(69, bA false)] fun G => b5 (rF G false (by kernel_rfl) (wp_skip (i9 (b5 (wp_seq (wp_seq (e5 G (z4 (fc h7 fz) (us [(2, 5, 0), (10, 11, 0), (22, 22, 0), (1023, 1023, 0)])) (rg 7) (G5 p s []) [(8, iA 0), (93, bA false)] fun G => b5 (rF G false (by kernel_rfl) (wp_skip (b5 (wp_seq (d9 G c3 [] fun G => b5 (wp_ret ?_))))))))))))); exact J9 0 G (rg 7) (Y6 (fl0 (by omega)))
      ·
       refine w3 G (l9 (f6 5 [0, 1, 2, 4] (D2 p s.value (r8 h (by omega))) (f6 6 [] (A9 (i7 p s.value)) l8)) (fc h7 fz) (us [(2, 6, 0), (1007, 1007, 0)])) [(3, bA strict), (4, .ptr 7 0), (5, .ptr 8 0), (8, iA 0), (69, bA (c5 (i7 p s.value) && decide (i7 p s.value % 2 = 1)))] fun G => b5 ?_; cases h8 : (c5 (i7 p s.value) && decide (i7 p s.value % (2 : Int) = 1))
       ·
        have q8 : ((c5 (i7 p s.value)) = false) ∨ (¬ (i7 p s.value % 2 = 1)) := Or.imp (fun hq => (hq)) (fun hq => of_decide_eq_false hq) (bY6.1 h8); refine rF G _ h8 (wp_skip (i9 (b5 (wp_seq (wp_seq ?_))))); cases h9 : (s.kind != 4)
        · have q9 := bne_eq_false_iff_eq.1 h9; exact False.elim (by omega)
        ·
         have q9 := bne_iff_ne.1 h9; cases h10 : (H2 p.vars p.arrays (5 : Nat) s.value)
         · refine e5 G (l9 (f6 9 [0, 1, 2, 4] (x9 p s.value (r8 h (by omega))) l8) (fc h7 (fc h9 (fc h10 (fc h1 fz)))) (us [(2, 5, 0), (6, 9, 1), (10, 10, 0), (1010, 1010, 1), (11, 11, 0), (12, 15, 2), (16, 20, 3), (21, 21, 2), (1021, 1021, 3), (22, 22, 0), (1022, 1022, 2), (1023, 1023, 0)])) (rg 7) (G5 p s []) [(8, iA 0), (93, bA false)] fun G => b5 (rF G false (by kernel_rfl) (wp_skip (b5 (wp_seq (d9 G c3 [] fun G => b5 (wp_ret ?_)))))); exact J9 0 G (rg 7) (r7 (fl0 (by omega)) (lk0 (by exact .inr (by with_reducible assumption)) (by exact .inr (by with_reducible assumption)) (by exact .inl (by omega))))
         · refine e5 G (l9 (f6 9 [0, 1, 2, 4] (x9 p s.value (r8 h (by omega))) l8) (fc h7 (fc h9 (fc h10 fz))) (us [(2, 5, 0), (6, 9, 1), (10, 10, 0), (1010, 1010, 1), (11, 11, 0), (12, 15, 2), (21, 21, 2), (22, 22, 0), (1022, 1022, 2), (1023, 1023, 0)])) (rg 7) (G5 p s []) [(8, iA 0), (93, bA true)] fun G => b5 (rT G true (by kernel_rfl) (wp_seq (d9 G c3 [(8, iA 4)] fun G => b5 (wp_ret (c8 ?_))))); exact J9 4 G (rg 7) (r7 (fl0 (by omega)) (lkv (by exact .inr (by with_reducible assumption)) (by omega) (by with_reducible assumption)))
       · have q8 : ((c5 (i7 p s.value)) = true) ∧ (i7 p s.value % 2 = 1) := And.imp (fun hq => (hq)) (fun hq => of_decide_eq_true hq) (bY8.1 h8); refine rT G _ h8 (wp_seq (d9 G c3 [(8, iA 3)] fun G => b5 (wp_ret (m7 (c8 ?_))))); exact J9 3 G (rg 7) (r7 (fl0 (by omega)) (lk3 (by with_reducible assumption) (by with_reducible assumption)))
    ·
     refine wp_seq ?_; cases h11 : (!(c5 (i7 p s.value) && decide (i7 p s.value ≤ 1)))
     ·
      have q11 : ((c5 (i7 p s.value)) = true) ∧ (i7 p s.value ≤ 1) := (fun hq => And.imp (fun hq => (hq)) (fun hq => of_decide_eq_true hq) (bY8.1 hq)) (Eq.mp (bW7 _) h11); refine w3 G (l9 (f6 3 [0, 1, 2, 4] (D2 p s.value (r8 h (by omega))) (f6 4 [] (Z4 (i7 p s.value)) l8)) (fc h11 fz) [(7, 0), (8, 0), (1009, 0)]) [(3, bA strict), (4, .ptr 7 0), (5, .ptr 8 0), (8, iA 0), (59, bA (pc != 0))] fun G => b5 (rcN G (fun h12 q12 => ?_) fun h12 q12 => ?_)
      ·
       refine wp_skip (i9 (b5 (wp_seq (wp_seq ?_)))); cases h13 : (strict)
       · refine e5 G (z4 (fc h13 fz) (us [(2, 5, 0), (10, 11, 0), (22, 22, 0), (1023, 1023, 0)])) (rg 7) (G5 p s []) [(8, iA 0), (93, bA false)] fun G => b5 (rF G false (by kernel_rfl) (wp_skip (b5 (wp_seq (d9 G c3 [] fun G => b5 (wp_ret ?_)))))); exact J9 0 G (rg 7) (Y6 (bD6 (by with_reducible assumption) (by with_reducible assumption) (by with_reducible assumption)))
       ·
        cases h14 : (s.kind != 4)
        · have q14 := bne_eq_false_iff_eq.1 h14; exact False.elim (by omega)
        ·
         have q14 := bne_iff_ne.1 h14; cases h15 : (H2 p.vars p.arrays (5 : Nat) s.value)
         · refine e5 G (l9 (f6 9 [0, 1, 2, 4] (x9 p s.value (r8 h (by omega))) l8) (fc h13 (fc h14 (fc h15 (fc h1 fz)))) (us [(2, 5, 0), (6, 9, 1), (10, 10, 0), (1010, 1010, 1), (11, 11, 0), (12, 15, 2), (16, 20, 3), (21, 21, 2), (1021, 1021, 3), (22, 22, 0), (1022, 1022, 2), (1023, 1023, 0)])) (rg 7) (G5 p s []) [(8, iA 0), (93, bA false)] fun G => b5 (rF G false (by kernel_rfl) (wp_skip (b5 (wp_seq (d9 G c3 [] fun G => b5 (wp_ret ?_)))))); exact J9 0 G (rg 7) (r7 (bD6 (by with_reducible assumption) (by with_reducible assumption) (by with_reducible assumption)) (lk0 (by exact .inl (by omega)) (by exact .inr (by with_reducible assumption)) (by exact .inl (by omega))))
         · refine e5 G (l9 (f6 9 [0, 1, 2, 4] (x9 p s.value (r8 h (by omega))) l8) (fc h13 (fc h14 (fc h15 fz))) (us [(2, 5, 0), (6, 9, 1), (10, 10, 0), (1010, 1010, 1), (11, 11, 0), (12, 15, 2), (21, 21, 2), (22, 22, 0), (1022, 1022, 2), (1023, 1023, 0)])) (rg 7) (G5 p s []) [(8, iA 0), (93, bA true)] fun G => b5 (rT G true (by kernel_rfl) (wp_seq (d9 G c3 [(8, iA 4)] fun G => b5 (wp_ret (c8 ?_))))); exact J9 4 G (rg 7) (r7 (bD6 (by with_reducible assumption) (by with_reducible assumption) (by with_reducible assumption)) (lkv (by exact .inl (by omega)) (by omega) (by with_reducible assumption)))
      · refine wp_seq (d9 G c3 [(8, iA 2)] fun G => b5 (wp_ret (m7 (c8 ?_)))); exact J9 2 G (rg 7) (ah8 (bN2 (by with_reducible assumption) (.inr (by with_reducible assumption))) (by decide))
     · have q11 : ((c5 (i7 p s.value)) = false) ∨ (¬ (i7 p s.value ≤ 1)) := (fun hq => Or.imp (fun hq => (hq)) (fun hq => of_decide_eq_false hq) (bY6.1 hq)) (Eq.mp (bW6 _) h11); refine d9 G (l9 (f6 3 [0, 1, 2, 4] (D2 p s.value (r8 h (by omega))) (f6 4 [] (Z4 (i7 p s.value)) l8)) (fc h11 fz) [(7, 0), (8, 0), (1009, 0)]) [(59, bA true)] fun G => b5 (rT G true (by kernel_rfl) (wp_seq (d9 G c3 [(8, iA 2)] fun G => b5 (wp_ret (m7 (c8 ?_)))))); exact J9 2 G (rg 7) (ah8 (bN2 (by with_reducible assumption) (.inl (by with_reducible assumption))) (by decide))
   ·
    refine wp_seq (bJ4 G (l9 (f6 3 [0, 1, 2, 4] (D2 p s.value (r8 h (by omega))) (f6 7 (rg 4) (D2 p s.index (aw4 h (by with_reducible assumption))) (f6 17 [] (aj6 (f9 (f9 (i7 p s.value) (i7 p s.index)) pc) (p.arrays.getD s.target.toNat 0)) l8))) fz []) [0, 0, 2, 7, 0, 0, 32, 127, 255, 0, 1023, 0, 2048, 0, 8192, 30720, 63488, 131071, 262143] [(3, bA strict), (4, .ptr 7 0), (5, .ptr 8 0), (8, iA 0), (47, .v (.bool !(c5 (f9 (f9 (i7 p s.value) (i7 p s.index)) pc) && c5 (p.arrays.getD s.target.toNat 0) && f9 (f9 (f9 (i7 p s.value) (i7 p s.index)) pc) (p.arrays.getD s.target.toNat 0) == p.arrays.getD s.target.toNat 0)))] [(0 : Int) ≤ s.target, s.target < (p.arrays.length : Int), s.target.toNat < p.arrays.length] ⟨((aw5 h (by omega)).1), ((aw5 h (by omega)).2.1), ((aw5 h (by omega)).2.2), bX6⟩ fun G => b5 ?_); cases h16 : (!(c5 (f9 (f9 (i7 p s.value) (i7 p s.index)) pc) && c5 (p.arrays.getD s.target.toNat (0 : Int)) && f9 (f9 (f9 (i7 p s.value) (i7 p s.index)) pc) (p.arrays.getD s.target.toNat (0 : Int)) == p.arrays.getD s.target.toNat (0 : Int)))
    ·
     have q16 : (((c5 (f9 (f9 (i7 p s.value) (i7 p s.index)) pc)) = true) ∧ ((c5 (p.arrays.getD s.target.toNat 0)) = true)) ∧ (f9 (f9 (f9 (i7 p s.value) (i7 p s.index)) pc) (p.arrays.getD s.target.toNat 0) = p.arrays.getD s.target.toNat 0) := (fun hq => And.imp (fun hq => And.imp (fun hq => (hq)) (fun hq => (hq)) (bY8.1 hq)) (fun hq => eq_of_beq hq) (bY8.1 hq)) (Eq.mp (bW7 _) h16); refine rF G _ h16 (wp_skip (i9 (b5 (wp_seq (wp_seq ?_))))); cases h17 : (strict)
     · refine e5 G (z4 (fc h17 fz) (us [(2, 5, 0), (10, 11, 0), (22, 22, 0), (1023, 1023, 0)])) (rg 7) (G5 p s []) [(8, iA 0), (93, bA false)] fun G => b5 (rF G false (by kernel_rfl) (wp_skip (b5 (wp_seq (d9 G c3 [] fun G => b5 (wp_ret ?_)))))); exact J9 0 G (rg 7) (Y6 (bt0 (by with_reducible assumption) (by with_reducible assumption)))
     ·
      cases h18 : (s.kind != 4)
      · have q18 := bne_eq_false_iff_eq.1 h18; exact False.elim (by omega)
      ·
       have q18 := bne_iff_ne.1 h18; cases h19 : (H2 p.vars p.arrays (5 : Nat) s.value)
       ·
        refine e5 G (l9 (f6 9 [0, 1, 2, 4] (x9 p s.value (r8 h (by omega))) (f6 19 (rg 4) (D2 p s.index (aw4 h (by with_reducible assumption))) (f6 20 [] (A9 (i7 p s.index)) l8))) (fc h17 (fc h18 (fc h19 (fc h1 fz)))) (us [(2, 5, 0), (6, 9, 1), (10, 10, 0), (1010, 1010, 1), (11, 11, 0), (12, 15, 2), (16, 20, 3), (21, 21, 2), (1021, 1021, 3), (22, 22, 0), (1022, 1022, 2), (1023, 1023, 0)])) (rg 7) (G5 p s []) [(8, iA 0), (93, bA (c5 (i7 p s.index) && decide (i7 p s.index % 2 = 1)))] fun G => b5 ?_; cases h20 : (c5 (i7 p s.index) && decide (i7 p s.index % (2 : Int) = 1))
        · have q20 : ((c5 (i7 p s.index)) = false) ∨ (¬ (i7 p s.index % 2 = 1)) := Or.imp (fun hq => (hq)) (fun hq => of_decide_eq_false hq) (bY6.1 h20); refine rF G _ h20 (wp_skip (b5 (wp_seq (d9 G c3 [] fun G => b5 (wp_ret ?_))))); exact J9 0 G (rg 7) (r7 (bt0 (by with_reducible assumption) (by with_reducible assumption)) (lk0 (by exact .inl (by omega)) (by exact .inr (by with_reducible assumption)) (by exact .inr (by with_reducible assumption))))
        · have q20 : ((c5 (i7 p s.index)) = true) ∧ (i7 p s.index % 2 = 1) := And.imp (fun hq => (hq)) (fun hq => of_decide_eq_true hq) (bY8.1 h20); refine rT G _ h20 (wp_seq (d9 G c3 [(8, iA 4)] fun G => b5 (wp_ret (c8 ?_)))); exact J9 4 G (rg 7) (r7 (bt0 (by with_reducible assumption) (by with_reducible assumption)) (lki (by with_reducible assumption) (by with_reducible assumption)))
       · refine e5 G (l9 (f6 9 [0, 1, 2, 4] (x9 p s.value (r8 h (by omega))) l8) (fc h17 (fc h18 (fc h19 fz))) (us [(2, 5, 0), (6, 9, 1), (10, 10, 0), (1010, 1010, 1), (11, 11, 0), (12, 15, 2), (21, 21, 2), (22, 22, 0), (1022, 1022, 2), (1023, 1023, 0)])) (rg 7) (G5 p s []) [(8, iA 0), (93, bA true)] fun G => b5 (rT G true (by kernel_rfl) (wp_seq (d9 G c3 [(8, iA 4)] fun G => b5 (wp_ret (c8 ?_))))); exact J9 4 G (rg 7) (r7 (bt0 (by with_reducible assumption) (by with_reducible assumption)) (lkv (by exact .inl (by omega)) (by omega) (by with_reducible assumption)))
    · have q16 : (((c5 (f9 (f9 (i7 p s.value) (i7 p s.index)) pc)) = false) ∨ ((c5 (p.arrays.getD s.target.toNat 0)) = false)) ∨ (¬ (f9 (f9 (f9 (i7 p s.value) (i7 p s.index)) pc) (p.arrays.getD s.target.toNat 0) = p.arrays.getD s.target.toNat 0)) := (fun hq => Or.imp (fun hq => Or.imp (fun hq => (hq)) (fun hq => (hq)) (bY6.1 hq)) (fun hq => ne_of_beq_false hq) (bY6.1 hq)) (Eq.mp (bW6 _) h16); refine rT G _ h16 (wp_seq (d9 G c3 [(8, iA 1)] fun G => b5 (wp_ret (m7 (c8 ?_))))); exact J9 1 G (rg 7) (ah8 (bV2 (by with_reducible assumption) (by with_reducible assumption)) (by decide))
  ·
   refine wp_seq (bJ4 G (l9 (f6 3 [0, 1, 2, 4] (D2 p s.value (r8 h (by omega))) (f6 12 [] (aj6 (f9 (i7 p s.value) pc) (p.vars.getD s.target.toNat 0)) l8)) fz []) [0, 0, 2, 7, 0, 31, 0, 64, 0, 256, 960, 1984, 4095, 8191] [(3, bA strict), (4, .ptr 7 0), (5, .ptr 8 0), (8, iA 0), (26, .v (.bool !(c5 (f9 (i7 p s.value) pc) && c5 (p.vars.getD s.target.toNat 0) && f9 (f9 (i7 p s.value) pc) (p.vars.getD s.target.toNat 0) == p.vars.getD s.target.toNat 0)))] [(0 : Int) ≤ s.target, s.target < (p.vars.length : Int), s.target.toNat < p.vars.length] ⟨((aw3 h (by omega)).1), ((aw3 h (by omega)).2.1), ((aw3 h (by omega)).2.2), bX6⟩ fun G => b5 ?_); cases h21 : (!(c5 (f9 (i7 p s.value) pc) && c5 (p.vars.getD s.target.toNat (0 : Int)) && f9 (f9 (i7 p s.value) pc) (p.vars.getD s.target.toNat (0 : Int)) == p.vars.getD s.target.toNat (0 : Int)))
   ·
    have q21 : (((c5 (f9 (i7 p s.value) pc)) = true) ∧ ((c5 (p.vars.getD s.target.toNat 0)) = true)) ∧ (f9 (f9 (i7 p s.value) pc) (p.vars.getD s.target.toNat 0) = p.vars.getD s.target.toNat 0) := (fun hq => And.imp (fun hq => And.imp (fun hq => (hq)) (fun hq => (hq)) (bY8.1 hq)) (fun hq => eq_of_beq hq) (bY8.1 hq)) (Eq.mp (bW7 _) h21); refine rF G _ h21 (wp_skip (i9 (b5 (wp_seq (wp_seq ?_))))); cases h22 : (strict)
    · refine e5 G (z4 (fc h22 fz) (us [(2, 5, 0), (10, 11, 0), (22, 22, 0), (1023, 1023, 0)])) (rg 7) (G5 p s []) [(8, iA 0), (93, bA false)] fun G => b5 (rF G false (by kernel_rfl) (wp_skip (b5 (wp_seq (d9 G c3 [] fun G => b5 (wp_ret ?_)))))); exact J9 0 G (rg 7) (Y6 (bD7 (by with_reducible assumption) (by with_reducible assumption)))
    ·
     cases h23 : (s.kind != 4)
     · have q23 := bne_eq_false_iff_eq.1 h23; exact False.elim (by omega)
     ·
      have q23 := bne_iff_ne.1 h23; cases h24 : (H2 p.vars p.arrays (5 : Nat) s.value)
      ·
       cases h25 : (s.kind == 2)
       · have q25 := ne_of_beq_false h25; refine e5 G (l9 (f6 9 [0, 1, 2, 4] (x9 p s.value (r8 h (by omega))) l8) (fc h22 (fc h23 (fc h24 (fc h25 fz)))) (us [(2, 5, 0), (6, 9, 1), (10, 10, 0), (1010, 1010, 1), (11, 11, 0), (12, 15, 2), (16, 20, 3), (21, 21, 2), (1021, 1021, 3), (22, 22, 0), (1022, 1022, 2), (1023, 1023, 0)])) (rg 7) (G5 p s []) [(8, iA 0), (93, bA false)] fun G => b5 (rF G false (by kernel_rfl) (wp_skip (b5 (wp_seq (d9 G c3 [] fun G => b5 (wp_ret ?_)))))); exact J9 0 G (rg 7) (r7 (bD7 (by with_reducible assumption) (by with_reducible assumption)) (lk0 (by exact .inl (by omega)) (by exact .inr (by with_reducible assumption)) (by exact .inl (by omega))))
       · have q25 := eq_of_beq h25; exact False.elim (by omega)
      · refine e5 G (l9 (f6 9 [0, 1, 2, 4] (x9 p s.value (r8 h (by omega))) l8) (fc h22 (fc h23 (fc h24 fz))) (us [(2, 5, 0), (6, 9, 1), (10, 10, 0), (1010, 1010, 1), (11, 11, 0), (12, 15, 2), (21, 21, 2), (22, 22, 0), (1022, 1022, 2), (1023, 1023, 0)])) (rg 7) (G5 p s []) [(8, iA 0), (93, bA true)] fun G => b5 (rT G true (by kernel_rfl) (wp_seq (d9 G c3 [(8, iA 4)] fun G => b5 (wp_ret (c8 ?_))))); exact J9 4 G (rg 7) (r7 (bD7 (by with_reducible assumption) (by with_reducible assumption)) (lkv (by exact .inl (by omega)) (by omega) (by with_reducible assumption)))
   · have q21 : (((c5 (f9 (i7 p s.value) pc)) = false) ∨ ((c5 (p.vars.getD s.target.toNat 0)) = false)) ∨ (¬ (f9 (f9 (i7 p s.value) pc) (p.vars.getD s.target.toNat 0) = p.vars.getD s.target.toNat 0)) := (fun hq => Or.imp (fun hq => Or.imp (fun hq => (hq)) (fun hq => (hq)) (bY6.1 hq)) (fun hq => ne_of_beq_false hq) (bY6.1 hq)) (Eq.mp (bW6 _) h21); refine rT G _ h21 (wp_seq (d9 G c3 [(8, iA 1)] fun G => b5 (wp_ret (m7 (c8 ?_))))); exact J9 1 G (rg 7) (ah8 (bV3 (by with_reducible assumption) (by with_reducible assumption)) (by decide))
def x3 (F : Nat → b6 → Int × Nat) : Nat → List b6 → Int × Nat
 | c, [] => (0, c)
 | c, s :: r => if (F c s).1 = 0 then x3 F (F c s).2 r else F c s
def Z1 (p : b8) (s : b6) (pc : Int) : Int := if s.kind = 3 then f9 pc (i7 p s.value) else pc
def stC (p : b8) (strict : Bool) : Nat → Int → Nat → b6 → Int × Nat
  | 0, _, c, _ => (0, c)
  | d + 1, pc, c, s => if O5 p s pc strict = 0 then
      (if (x3 (stC p strict d (Z1 p s pc)) (c + 1) s.body).1 = 0 then x3 (stC p strict d (Z1 p s pc)) (x3 (stC p strict d (Z1 p s pc)) (c + 1) s.body).2 s.els
       else x3 (stC p strict d (Z1 p s pc)) (c + 1) s.body)
    else (O5 p s pc strict, c)
abbrev m8 (p : b8) (strict : Bool) (d : Nat) (pc : Int) (c : Nat) (ss : List b6) : Int × Nat := x3 (stC p strict d pc) c ss
theorem U6 (F : Nat → b6 → Int × Nat) : ∀ (a b : List b6) (c : Nat), x3 F c (a ++ b) = if (x3 F c a).1 = 0 then x3 F (x3 F c a).2 b else x3 F c a
 | [], b, c => by simp [x3]
 | x :: r, b, c => by
  simp only [List.cons_append, x3]
  by_cases h : (F c x).1 = 0
  ·simp only [h, if_true]; exact U6 F r b _
  ·simp [h]
theorem N6 {F : Nat → b6 → Int × Nat} {c k : Nat} {ss : List b6} (h : (x3 F c (ss.take k)).1 = 0) (hk : k < ss.length) : x3 F c (ss.take (k + 1)) = F (x3 F c (ss.take k)).2 (ss.getD k bW1) := by
 rw [l0 _ _ hk, U6, if_pos h, f8 hk]
 simp only [x3]
 split
 ·rename_i h; exact Prod.ext h.symm rfl
 ·rfl
theorem x8 {F : Nat → b6 → Int × Nat} {c k : Nat} {ss : List b6} (h : (x3 F c (ss.take k)).1 = 0) (hk : k < ss.length) (hf : ¬ (F (x3 F c (ss.take k)).2 (ss.getD k bW1)).1 = 0) : x3 F c ss = F (x3 F c (ss.take k)).2 (ss.getD k bW1) := by
 conv => lhs; rw [← List.take_append_drop (k + 1) ss]
 rw [U6, N6 h hk, if_neg hf]
theorem aw9 {F : Nat → b6 → Int × Nat} {c k : Nat} {ss : List b6} (hk : ss.length ≤ k) : x3 F c ss = x3 F c (ss.take k) := by rw [bX3 hk]
theorem ai8 {F : Nat → b6 → Int × Nat} (hF : ∀ c s, (F c s).2 ≤ c + nS s) : ∀ (ss : List b6) (c : Nat), (x3 F c ss).2 ≤ c + M5 ss
 | [], c => by simp [x3]
 | s :: r, c => by
  simp only [x3, M5]
  have h1 := hF c s
  have h2 := ai8 hF r (F c s).2
  split <;> omega
theorem aU4 {p : b8} {strict : Bool} : ∀ (d : Nat) (pc : Int) (c : Nat) (s : b6), (stC p strict d pc c s).2 ≤ c + nS s
 | 0, _, c, s => by simp [stC]
 | d + 1, pc, c, s => by
  have hs := al5 s
  have h1 := ai8 (aU4 (p := p) (strict := strict) d (Z1 p s pc)) s.body (c + 1)
  have h2 := ai8 (aU4 (p := p) (strict := strict) d (Z1 p s pc)) s.els (x3 (stC p strict d (Z1 p s pc)) (c + 1) s.body).2
  rw [stC]
  split
  ·split <;> omega
  ·simp only; omega
theorem aZ2 {p : b8} {strict : Bool} {d : Nat} {pc : Int} {c : Nat} {ss : List b6} : (m8 p strict d pc c ss).2 ≤ c + M5 ss := ai8 (aU4 d pc) ss c
theorem G6 {nv na d k : Nat} {ss : List b6} (hs : ss.all (d7 nv na (d + 1)) = true) (hk : k < ss.length) : s9 nv na (ss.getD k bW1) = true ∧ (ss.getD k bW1).body.all (d7 nv na d) = true ∧ (ss.getD k bW1).els.all (d7 nv na d) = true := by
 have h := bX0.1 hs _ (bX7 hk)
 rw [H1, bW2, bW2] at h
 rw [f8 hk]; exact h
theorem bz2 {k : Nat} {ss : List b6} (hk : k < ss.length) : M5 (ss.take k) + (1 + M5 (ss.getD k bW1).body + M5 (ss.getD k bW1).els) ≤ M5 ss := by
 have h1 := a82 hk
 have h2 := aO4 ss (k + 1)
 rw [al5] at h1
 rw [f8 hk]; omega
section
variable {p : b8} {strict : Bool} {d c : Nat} {pc : Int} {s : b6}
theorem ap6 (h : ¬ O5 p s pc strict = 0) : stC p strict (d + 1) pc c s = (O5 p s pc strict, c) := by rw [stC, if_neg h]
theorem I6 {x : Int} (h : O5 p s pc strict = 0) (hx : Z1 p s pc = x) (h2 : ¬ (m8 p strict d x (c + 1) s.body).1 = 0) : stC p strict (d + 1) pc c s = m8 p strict d x (c + 1) s.body := by
 subst hx; rw [stC, if_pos h, if_neg h2]
theorem E1 {x : Int} (h : O5 p s pc strict = 0) (hx : Z1 p s pc = x) (h2 : (m8 p strict d x (c + 1) s.body).1 = 0) : stC p strict (d + 1) pc c s = m8 p strict d x (m8 p strict d x (c + 1) s.body).2 s.els := by
 subst hx; rw [stC, if_pos h, if_pos h2]
theorem Q9 (k : s.kind = 3) : Z1 p s pc = f9 pc (i7 p s.value) := if_pos k
theorem Q8 (k : ¬ s.kind = 3) : Z1 p s pc = pc := if_neg k
end
theorem ay5 {p : b8} {strict : Bool} {d k c : Nat} {pc : Int} {ss : List b6} (hc : c + M5 ss ≤ 4000000) (hk : k < ss.length) : (m8 p strict (d + 1) pc c (ss.take k)).2 + 1 + M5 (ss.getD k bW1).body ≤ 4000000 := by
 have h1 := bz2 (k := k) (ss := ss) hk
 have h2 := aZ2 (p := p) (strict := strict) (d := d + 1) (pc := pc) (c := c) (ss := ss.take k)
 omega
theorem aE3 {p : b8} {strict : Bool} {d k c : Nat} {pc x : Int} {ss : List b6} (hc : c + M5 ss ≤ 4000000) (hk : k < ss.length) : (m8 p strict d x ((m8 p strict (d + 1) pc c (ss.take k)).2 + 1) (ss.getD k bW1).body).2 + M5 (ss.getD k bW1).els ≤ 4000000 := by
 have h1 := bz2 (k := k) (ss := ss) hk
 have h2 := aZ2 (p := p) (strict := strict) (d := d + 1) (pc := pc) (c := c) (ss := ss.take k)
 have h3 := aZ2 (p := p) (strict := strict) (d := d) (pc := x) (c := (m8 p strict (d + 1) pc c (ss.take k)).2 + 1) (ss := (ss.getD k bW1).body)
 omega
theorem bv1 {p : b8} {strict : Bool} {d k c : Nat} {pc : Int} {ss : List b6} (hc : c + M5 ss ≤ 4000000) (hk : k < ss.length) : IntKind.i64.wrap (((m8 p strict (d + 1) pc c (ss.take k)).2 : Int) + 1) = ((m8 p strict (d + 1) pc c (ss.take k)).2 : Int) + 1 := by
 have h1 := ay5 (p := p) (strict := strict) (d := d) (pc := pc) hc hk
 exact w64 (by omega) (by omega)
abbrev bv0 (p : b8) (d : Nat) (ss : List b6) (pc : Int) (c : Nat) (strict : Bool) : d8 := C9 83 [pA 0, .ref 3, iA pc, iA c, bA strict] (pS p ++ [.dat (.stmts ss)]) (.tup [iA (m8 p strict d pc c ss).1, iA (m8 p strict d pc c ss).2])
theorem aY3 (p : b8) (pc : Int) (c : Nat) (strict : Bool) : d8.ok Tryz.prog (bv0 p 0 [] pc c strict) := by
 refine t8 74 Tryz.func83 [dI p.vars, dI p.arrays, dT p.body, dT []] [(0, pA 0), (1, .ref 3), (2, iA pc), (3, iA c), (4, bA strict)] fun G => ?_; refine wp_seq (e5 G c3 (rg 5) [dI p.vars, dI p.arrays, dT p.body, dT [], .box (pL 0)] [(1, .ref 3), (2, iA pc), (3, iA c), (4, bA strict), (5, .ptr 4 0), (10, iA 0), (11, iA 0)] fun G => b5 (wp_seq (wp_seq (w3 G c3 [(1, .ref 3), (2, iA pc), (3, iA c), (4, bA strict), (5, .ptr 4 0), (10, iA 0), (11, iA 0), (12, iA 0)] fun G => b5 (wp_block ?_))))); refine k8 (κ := Nat) (fun k => k = 0) (fun k => 0) (fun k => [dI p.vars, dI p.arrays, dT p.body, dT [], .box (pL 0)]) (fun k => [(1, .ref 3), (2, iA pc), (3, iA c), (4, bA strict), (5, .ptr 4 0), (10, iA 0), (11, iA 0), (12, iA 0)]) 0 (by kernel_rfl) (l7.at G _ _) ?_; clear G; intro k ρ a w hp G; refine wp_seq (wp_seq (d9 G c3 [(19, bA false)] fun G => b5 (rF G false (by kernel_rfl) (wp_exit (j9 (j9 (j7 (b5 (wp_seq (e5 G c3 (rg 4) [dI p.vars, dI p.arrays, dT p.body, dT []] [(10, iA 0), (11, iA c)] fun G => b5 (wp_ret ?_))))))))))); exact A3 G (rg 4)
abbrev ac3 (p : b8) (d : Nat) (strict : Bool) (ss : List b6) (pc : Int) (c : Nat) (k : Nat) := m8 p strict d (f9 pc (i7 p (ss.getD k bW1).value)) ((m8 p strict (d + 1) pc c (bW9 k ss)).snd + 1) (ss.getD k bW1).body
abbrev P0 (p : b8) (d : Nat) (strict : Bool) (ss : List b6) (pc : Int) (c : Nat) (k : Nat) := m8 p strict d pc ((m8 p strict (d + 1) pc c (bW9 k ss)).snd + 1) (ss.getD k bW1).body
abbrev aL0 (p : b8) (d : Nat) (strict : Bool) (ss : List b6) (pc : Int) (c : Nat) (k : Nat) := m8 p strict d (f9 pc (i7 p (ss.getD k bW1).value)) (ac3 p d strict ss pc c k).snd (ss.getD k bW1).els
abbrev aA1 (strict : Bool) (k : Nat) (r0 : List (Nat × AV)) : List (Nat × AV) := (4, bA strict) :: (5, .ptr 4 0) :: (10, iA 0) :: (11, iA 0) :: (12, iA (k : Int)) :: r0
abbrev ar4 (p : b8) (ss : List b6) (r0 : List It) : List It := dI p.vars :: dI p.arrays :: dT p.body :: dT ss :: .box (pL 0) :: r0
theorem aY1 (p : b8) (d : Nat) (strict : Bool) (ih : ∀ (ss : List b6) (pc : Int) (c : Nat), ss.all (d7 p.vars.length p.arrays.length d) = true → c + M5 ss ≤ 4000000 → d8.ok Tryz.prog (bv0 p d ss pc c strict))
    (ss : List b6) (pc : Int) (c : Nat) (hs : ss.all (d7 p.vars.length p.arrays.length (d + 1)) = true) (hc : c + M5 ss ≤ 4000000) : d8.ok Tryz.prog (bv0 p (d + 1) ss pc c strict) := by
  refine t8 74 Tryz.func83 [dI p.vars, dI p.arrays, dT p.body, dT ss] [(0, pA 0), (1, .ref 3), (2, iA pc), (3, iA c), (4, bA strict)] fun G => ?_; have hlen : ss.length ≤ 9223372036854775807 := G.len 3 (d := .stmts ss) (by kernel_rfl); refine wp_seq (e5 G c3 (rg 5) (ar4 p ss []) [(1, .ref 3), (2, iA pc), (3, iA c), (4, bA strict), (5, .ptr 4 0), (10, iA 0), (11, iA 0)] fun G => b5 (wp_seq (wp_seq (w3 G c3 [(1, .ref 3), (2, iA pc), (3, iA c), (4, bA strict), (5, .ptr 4 0), (10, iA 0), (11, iA 0), (12, iA 0)] fun G => b5 (wp_block ?_))))); refine k8 (κ := Nat) (fun k => k ≤ ss.length ∧ (m8 p strict (d + 1) pc c (ss.take k)).1 = 0) (fun k => ss.length - k) (fun k => [dI p.vars, dI p.arrays, dT p.body, dT ss, .box (pL 0)]) (fun k => [(1, .ref 3), (2, iA pc), (3, iA (m8 p strict (d + 1) pc c (ss.take k)).2), (4, bA strict), (5, .ptr 4 0), (10, iA 0), (11, iA 0), (12, iA k)]) 0 (⟨bZ5 _, rfl⟩) (l7.at G _ _) ?_; clear G; intro k ρ a w hp G; replace G := l7.at G (ar4 p ss []) ((1, .ref 3) :: (2, iA pc) :: (3, iA ((m8 p strict (d + 1) pc c (bW9 k ss)).snd : Int)) :: (aA1 strict k [])); refine wp_seq (wp_seq (d9 G c3 [(19, bA (decide ((k : Int) < ss.length)))] fun G => b5 (I2 G (fun h0 q0 => ?_) fun h0 q0 => ?_)))
  · refine wp_exit (j9 (j9 (j7 (b5 (wp_seq (e5 G c3 (rg 4) [dI p.vars, dI p.arrays, dT p.body, dT ss] [(10, iA 0), (11, iA ((m8 p strict (d + 1) pc c (bW9 k ss)).snd : Int))] fun G => b5 (wp_ret ?_))))))); exact M0 (.tup [iA 0, iA ((m8 p strict (d + 1) pc c (bW9 k ss)).snd : Int)]) G (rg 4) (by have e1 : ((m8 p strict (d + 1) pc c ss).fst : Int) = (0) := (by rw [m8, aw9 (k := k) (by omega)]; exact hp.2); have e2 : (((m8 p strict (d + 1) pc c ss).snd : Int) : Int) = (((m8 p strict (d + 1) pc c (bW9 k ss)).snd : Int)) := (by rw [m8, aw9 (k := k) (by omega)]); (first | rw [e1, e2] | simp only [e1, e2]) <;> rfl)
  ·
   refine wp_skip (b5 (wp_seq (wp_block (wp_seq (L6 G c3 [0, 1, 2, 3, 4, 29, 30, 31, 32, 37] (ar4 p ss [dE (ss.getD k bW1).index.kids, dE (ss.getD k bW1).value.kids, dT (ss.getD k bW1).body, dT (ss.getD k bW1).els, .box (sL (ss.getD k bW1) 5)]) ((1, .ref 3) :: (2, iA pc) :: (3, iA ((m8 p strict (d + 1) pc c (bW9 k ss)).snd : Int)) :: (aA1 strict k [(13, .ptr 9 0)])) (iX k k ss.length []) (iK (by omega) bX6) fun G => b5 (wp_seq (d9 G (n5 4 [0, 1, 2, 5, 6, 7, 8] (bu6 p (ss.getD k bW1) pc strict ((G6 hs (by omega)).1))) [(14, iA (O5 p (ss.getD k bW1) pc strict))] fun G => b5 (wp_seq (wp_seq (d9 G c3 [(32, bA (O5 p (ss.getD k bW1) pc strict != 0))] fun G => b5 (rcN G (fun h1 q1 => ?_) fun h1 q1 => ?_)))))))))))
   ·
    refine wp_skip (b5 (wp_seq (z5 G c3 [(3, iA (((m8 p strict (d + 1) pc c (bW9 k ss)).snd : Int) + 1))] [wO (((m8 p strict (d + (1 : Nat)) pc c (bW9 k ss)).snd : Int) + 1)] ⟨(bv1 hc (by omega)), bX6⟩ fun G => b5 (wp_seq (d9 G c3 [(15, iA pc)] fun G => b5 (wp_seq (wp_seq (d9 G c3 [(40, bA ((ss.getD k bW1).kind == 3))] fun G => b5 (I1 G (fun h2 q2 => ?_) fun h2 q2 => ?_)))))))))
    ·
     refine wp_skip (b5 (wp_seq (d9 G (n5 6 [0, 1, 2, 7] (ih ((ss.getD k bW1).body) pc ((m8 p strict (d + 1) pc c (bW9 k ss)).snd + 1) ((G6 hs (by omega)).2.1) (ay5 hc (by omega)))) [(3, iA ((P0 p d strict ss pc c k).snd : Int)), (14, iA (P0 p d strict ss pc c k).fst)] fun G => b5 (wp_seq (wp_seq (d9 G c3 [(58, bA ((P0 p d strict ss pc c k).fst == 0))] fun G => b5 (I1 (u := ((m8 p strict d pc ((m8 p strict (d + (1 : Nat)) pc c (bW9 k ss)).snd + (1 : Nat)) (ss.getD k bW1).body).fst)) (v := (0 : Int)) G (fun h3 q3 => ?_) fun h3 q3 => ?_)))))))
     ·
      refine wp_skip (b5 (wp_seq (e5 G c3 (rg 5) (ar4 p ss []) ((1, .ref 3) :: (2, iA pc) :: (3, iA ((P0 p d strict ss pc c k).snd : Int)) :: (aA1 strict k [(14, iA (P0 p d strict ss pc c k).fst), (70, bA ((P0 p d strict ss pc c k).fst != 0))])) fun G => b5 ?_))); cases h4 : ((m8 p strict d pc ((m8 p strict (d + (1 : Nat)) pc c (bW9 k ss)).snd + (1 : Nat)) (ss.getD k bW1).body).fst != 0)
      · have q4 := bne_eq_false_iff_eq.1 h4; exact False.elim (by omega)
      · have q4 := bne_iff_ne.1 h4; refine rT G _ h4 (wp_seq (d9 G c3 [(10, iA (P0 p d strict ss pc c k).fst), (11, iA ((P0 p d strict ss pc c k).snd : Int))] fun G => b5 (wp_ret (m7 (c8 (c8 (m7 (c8 ?_)))))))); exact M0 (.tup [iA (m8 p strict d pc ((m8 p strict (d + 1) pc c (bW9 k ss)).snd + 1) (ss.getD k bW1).body).fst, iA ((m8 p strict d pc ((m8 p strict (d + 1) pc c (bW9 k ss)).snd + 1) (ss.getD k bW1).body).snd : Int)]) G (rg 4) (by have e1 : ((m8 p strict (d + 1) pc c ss).fst : Int) = ((m8 p strict d pc ((m8 p strict (d + 1) pc c (bW9 k ss)).snd + 1) (ss.getD k bW1).body).fst) := (by rw [m8, x8 hp.2 (by omega) (by rw [I6 (by with_reducible assumption) (Q8 (by with_reducible assumption)) (by with_reducible assumption)]; with_reducible assumption), I6 (by with_reducible assumption) (Q8 (by with_reducible assumption)) (by with_reducible assumption)]); have e2 : (((m8 p strict (d + 1) pc c ss).snd : Int) : Int) = (((m8 p strict d pc ((m8 p strict (d + 1) pc c (bW9 k ss)).snd + 1) (ss.getD k bW1).body).snd : Int)) := (by rw [m8, x8 hp.2 (by omega) (by rw [I6 (by with_reducible assumption) (Q8 (by with_reducible assumption)) (by with_reducible assumption)]; with_reducible assumption), I6 (by with_reducible assumption) (Q8 (by with_reducible assumption)) (by with_reducible assumption)]); (first | rw [e1, e2] | simp only [e1, e2]) <;> rfl)
     ·
      refine e5 G (n5 6 [0, 1, 2, 8] (ih ((ss.getD k bW1).els) pc ((P0 p d strict ss pc c k).snd) ((G6 hs (by omega)).2.2) (aE3 hc (by omega)))) (rg 5) (ar4 p ss []) ((1, .ref 3) :: (2, iA pc) :: (3, iA ((m8 p strict d pc (P0 p d strict ss pc c k).snd (ss.getD k bW1).els).snd : Int)) :: (aA1 strict k [(14, iA (m8 p strict d pc (P0 p d strict ss pc c k).snd (ss.getD k bW1).els).fst)])) fun G => b5 (wp_seq (d9 G c3 [(70, bA ((m8 p strict d pc (P0 p d strict ss pc c k).snd (ss.getD k bW1).els).fst != 0))] fun G => b5 (rcN (u := ((m8 p strict d pc (m8 p strict d pc ((m8 p strict (d + (1 : Nat)) pc c (bW9 k ss)).snd + (1 : Nat)) (ss.getD k bW1).body).snd (ss.getD k bW1).els).fst)) (v := (0 : Int)) G (fun h5 q5 => ?_) fun h5 q5 => ?_)))
      · refine wp_skip (i9 (b5 (z5 G c3 [(12, iA ((k : Int) + 1))] [wO ((k : Int) + 1)] (o1 (by omega)) fun G => b5 ?_))); exact H3 G (k + 1) (⟨by omega, by rw [m8, N6 hp.2 (by omega), E1 (by with_reducible assumption) (Q8 (by with_reducible assumption)) (by with_reducible assumption)]; with_reducible assumption⟩) (by omega) (rg 5) (ht := by have e1 : (((m8 p strict (d + 1) pc c (bW9 (k + 1) ss)).snd : Int) : Int) = (((m8 p strict d pc (m8 p strict d pc ((m8 p strict (d + 1) pc c (bW9 k ss)).snd + 1) (ss.getD k bW1).body).snd (ss.getD k bW1).els).snd : Int)) := (by rw [m8, N6 hp.2 (by omega), E1 (by with_reducible assumption) (Q8 (by with_reducible assumption)) (by with_reducible assumption)]); (first | rw [e1] | simp only [e1]) <;> rfl)
      · refine wp_seq (d9 G c3 [(10, iA (m8 p strict d pc (P0 p d strict ss pc c k).snd (ss.getD k bW1).els).fst), (11, iA ((m8 p strict d pc (P0 p d strict ss pc c k).snd (ss.getD k bW1).els).snd : Int))] fun G => b5 (wp_ret (m7 (c8 (c8 (m7 (c8 ?_))))))); exact M0 (.tup [iA (m8 p strict d pc (m8 p strict d pc ((m8 p strict (d + 1) pc c (bW9 k ss)).snd + 1) (ss.getD k bW1).body).snd (ss.getD k bW1).els).fst, iA ((m8 p strict d pc (m8 p strict d pc ((m8 p strict (d + 1) pc c (bW9 k ss)).snd + 1) (ss.getD k bW1).body).snd (ss.getD k bW1).els).snd : Int)]) G (rg 4) (by have e1 : ((m8 p strict (d + 1) pc c ss).fst : Int) = ((m8 p strict d pc (m8 p strict d pc ((m8 p strict (d + 1) pc c (bW9 k ss)).snd + 1) (ss.getD k bW1).body).snd (ss.getD k bW1).els).fst) := (by rw [m8, x8 hp.2 (by omega) (by rw [E1 (by with_reducible assumption) (Q8 (by with_reducible assumption)) (by with_reducible assumption)]; with_reducible assumption), E1 (by with_reducible assumption) (Q8 (by with_reducible assumption)) (by with_reducible assumption)]); have e2 : (((m8 p strict (d + 1) pc c ss).snd : Int) : Int) = (((m8 p strict d pc (m8 p strict d pc ((m8 p strict (d + 1) pc c (bW9 k ss)).snd + 1) (ss.getD k bW1).body).snd (ss.getD k bW1).els).snd : Int)) := (by rw [m8, x8 hp.2 (by omega) (by rw [E1 (by with_reducible assumption) (Q8 (by with_reducible assumption)) (by with_reducible assumption)]; with_reducible assumption), E1 (by with_reducible assumption) (Q8 (by with_reducible assumption)) (by with_reducible assumption)]); (first | rw [e1, e2] | simp only [e1, e2]) <;> rfl)
    ·
     refine d9 G (n5 4 [0, 1, 2, 6] (D2 p ((ss.getD k bW1).value) (r8 (G6 hs (by omega)).1 (by omega)))) [(15, iA (f9 pc (i7 p (ss.getD k bW1).value)))] fun G => b5 (wp_seq (d9 G (n5 6 [0, 1, 2, 7] (ih ((ss.getD k bW1).body) (f9 pc (i7 p (ss.getD k bW1).value)) ((m8 p strict (d + 1) pc c (bW9 k ss)).snd + 1) ((G6 hs (by omega)).2.1) (ay5 hc (by omega)))) [(3, iA ((ac3 p d strict ss pc c k).snd : Int)), (14, iA (ac3 p d strict ss pc c k).fst)] fun G => b5 (wp_seq (wp_seq (d9 G c3 [(58, bA ((ac3 p d strict ss pc c k).fst == 0))] fun G => b5 (I1 (u := ((m8 p strict d (f9 pc (i7 p (ss.getD k bW1).value)) ((m8 p strict (d + (1 : Nat)) pc c (bW9 k ss)).snd + (1 : Nat)) (ss.getD k bW1).body).fst)) (v := (0 : Int)) G (fun h6 q6 => ?_) fun h6 q6 => ?_))))))
     ·
      refine wp_skip (b5 (wp_seq (e5 G c3 (rg 5) (ar4 p ss []) ((1, .ref 3) :: (2, iA pc) :: (3, iA ((ac3 p d strict ss pc c k).snd : Int)) :: (aA1 strict k [(14, iA (ac3 p d strict ss pc c k).fst), (70, bA ((ac3 p d strict ss pc c k).fst != 0))])) fun G => b5 ?_))); cases h7 : ((m8 p strict d (f9 pc (i7 p (ss.getD k bW1).value)) ((m8 p strict (d + (1 : Nat)) pc c (bW9 k ss)).snd + (1 : Nat)) (ss.getD k bW1).body).fst != 0)
      · have q7 := bne_eq_false_iff_eq.1 h7; exact False.elim (by omega)
      · have q7 := bne_iff_ne.1 h7; refine rT G _ h7 (wp_seq (d9 G c3 [(10, iA (ac3 p d strict ss pc c k).fst), (11, iA ((ac3 p d strict ss pc c k).snd : Int))] fun G => b5 (wp_ret (m7 (c8 (c8 (m7 (c8 ?_)))))))); exact M0 (.tup [iA (m8 p strict d (f9 pc (i7 p (ss.getD k bW1).value)) ((m8 p strict (d + 1) pc c (bW9 k ss)).snd + 1) (ss.getD k bW1).body).fst, iA ((m8 p strict d (f9 pc (i7 p (ss.getD k bW1).value)) ((m8 p strict (d + 1) pc c (bW9 k ss)).snd + 1) (ss.getD k bW1).body).snd : Int)]) G (rg 4) (by have e1 : ((m8 p strict (d + 1) pc c ss).fst : Int) = ((m8 p strict d (f9 pc (i7 p (ss.getD k bW1).value)) ((m8 p strict (d + 1) pc c (bW9 k ss)).snd + 1) (ss.getD k bW1).body).fst) := (by rw [m8, x8 hp.2 (by omega) (by rw [I6 (by with_reducible assumption) (Q9 (by with_reducible assumption)) (by with_reducible assumption)]; with_reducible assumption), I6 (by with_reducible assumption) (Q9 (by with_reducible assumption)) (by with_reducible assumption)]); have e2 : (((m8 p strict (d + 1) pc c ss).snd : Int) : Int) = (((m8 p strict d (f9 pc (i7 p (ss.getD k bW1).value)) ((m8 p strict (d + 1) pc c (bW9 k ss)).snd + 1) (ss.getD k bW1).body).snd : Int)) := (by rw [m8, x8 hp.2 (by omega) (by rw [I6 (by with_reducible assumption) (Q9 (by with_reducible assumption)) (by with_reducible assumption)]; with_reducible assumption), I6 (by with_reducible assumption) (Q9 (by with_reducible assumption)) (by with_reducible assumption)]); (first | rw [e1, e2] | simp only [e1, e2]) <;> rfl)
     ·
      refine e5 G (n5 6 [0, 1, 2, 8] (ih ((ss.getD k bW1).els) (f9 pc (i7 p (ss.getD k bW1).value)) ((ac3 p d strict ss pc c k).snd) ((G6 hs (by omega)).2.2) (aE3 hc (by omega)))) (rg 5) (ar4 p ss []) ((1, .ref 3) :: (2, iA pc) :: (3, iA ((aL0 p d strict ss pc c k).snd : Int)) :: (aA1 strict k [(14, iA (aL0 p d strict ss pc c k).fst)])) fun G => b5 (wp_seq (d9 G c3 [(70, bA ((aL0 p d strict ss pc c k).fst != 0))] fun G => b5 (rcN (u := ((m8 p strict d (f9 pc (i7 p (ss.getD k bW1).value)) (m8 p strict d (f9 pc (i7 p (ss.getD k bW1).value)) ((m8 p strict (d + (1 : Nat)) pc c (bW9 k ss)).snd + (1 : Nat)) (ss.getD k bW1).body).snd (ss.getD k bW1).els).fst)) (v := (0 : Int)) G (fun h8 q8 => ?_) fun h8 q8 => ?_)))
      · refine wp_skip (i9 (b5 (z5 G c3 [(12, iA ((k : Int) + 1))] [wO ((k : Int) + 1)] (o1 (by omega)) fun G => b5 ?_))); exact H3 G (k + 1) (⟨by omega, by rw [m8, N6 hp.2 (by omega), E1 (by with_reducible assumption) (Q9 (by with_reducible assumption)) (by with_reducible assumption)]; with_reducible assumption⟩) (by omega) (rg 5) (ht := by have e1 : (((m8 p strict (d + 1) pc c (bW9 (k + 1) ss)).snd : Int) : Int) = (((m8 p strict d (f9 pc (i7 p (ss.getD k bW1).value)) (m8 p strict d (f9 pc (i7 p (ss.getD k bW1).value)) ((m8 p strict (d + 1) pc c (bW9 k ss)).snd + 1) (ss.getD k bW1).body).snd (ss.getD k bW1).els).snd : Int)) := (by rw [m8, N6 hp.2 (by omega), E1 (by with_reducible assumption) (Q9 (by with_reducible assumption)) (by with_reducible assumption)]); (first | rw [e1] | simp only [e1]) <;> rfl)
      · refine wp_seq (d9 G c3 [(10, iA (aL0 p d strict ss pc c k).fst), (11, iA ((aL0 p d strict ss pc c k).snd : Int))] fun G => b5 (wp_ret (m7 (c8 (c8 (m7 (c8 ?_))))))); exact M0 (.tup [iA (m8 p strict d (f9 pc (i7 p (ss.getD k bW1).value)) (m8 p strict d (f9 pc (i7 p (ss.getD k bW1).value)) ((m8 p strict (d + 1) pc c (bW9 k ss)).snd + 1) (ss.getD k bW1).body).snd (ss.getD k bW1).els).fst, iA ((m8 p strict d (f9 pc (i7 p (ss.getD k bW1).value)) (m8 p strict d (f9 pc (i7 p (ss.getD k bW1).value)) ((m8 p strict (d + 1) pc c (bW9 k ss)).snd + 1) (ss.getD k bW1).body).snd (ss.getD k bW1).els).snd : Int)]) G (rg 4) (by have e1 : ((m8 p strict (d + 1) pc c ss).fst : Int) = ((m8 p strict d (f9 pc (i7 p (ss.getD k bW1).value)) (m8 p strict d (f9 pc (i7 p (ss.getD k bW1).value)) ((m8 p strict (d + 1) pc c (bW9 k ss)).snd + 1) (ss.getD k bW1).body).snd (ss.getD k bW1).els).fst) := (by rw [m8, x8 hp.2 (by omega) (by rw [E1 (by with_reducible assumption) (Q9 (by with_reducible assumption)) (by with_reducible assumption)]; with_reducible assumption), E1 (by with_reducible assumption) (Q9 (by with_reducible assumption)) (by with_reducible assumption)]); have e2 : (((m8 p strict (d + 1) pc c ss).snd : Int) : Int) = (((m8 p strict d (f9 pc (i7 p (ss.getD k bW1).value)) (m8 p strict d (f9 pc (i7 p (ss.getD k bW1).value)) ((m8 p strict (d + 1) pc c (bW9 k ss)).snd + 1) (ss.getD k bW1).body).snd (ss.getD k bW1).els).snd : Int)) := (by rw [m8, x8 hp.2 (by omega) (by rw [E1 (by with_reducible assumption) (Q9 (by with_reducible assumption)) (by with_reducible assumption)]; with_reducible assumption), E1 (by with_reducible assumption) (Q9 (by with_reducible assumption)) (by with_reducible assumption)]); (first | rw [e1, e2] | simp only [e1, e2]) <;> rfl)
   · refine wp_seq (d9 G c3 [(10, iA (O5 p (ss.getD k bW1) pc strict)), (11, iA ((m8 p strict (d + 1) pc c (bW9 k ss)).snd : Int))] fun G => b5 (wp_ret (c8 (m7 (c8 (c8 (m7 (c8 ?_)))))))); exact M0 (.tup [iA (O5 p (ss.getD k bW1) pc strict), iA ((m8 p strict (d + 1) pc c (bW9 k ss)).snd : Int)]) G (rg 4) (by have e1 : ((m8 p strict (d + 1) pc c ss).fst : Int) = (O5 p (ss.getD k bW1) pc strict) := (by rw [m8, x8 hp.2 (by omega) (by rw [ap6 (by with_reducible assumption)]; with_reducible assumption), ap6 (by with_reducible assumption)]); have e2 : (((m8 p strict (d + 1) pc c ss).snd : Int) : Int) = (((m8 p strict (d + 1) pc c (bW9 k ss)).snd : Int)) := (by rw [m8, x8 hp.2 (by omega) (by rw [ap6 (by with_reducible assumption)]; with_reducible assumption), ap6 (by with_reducible assumption)]); (first | rw [e1, e2] | simp only [e1, e2]) <;> rfl)
theorem aY2 (p : b8) (strict : Bool) : ∀ (d : Nat) (ss : List b6) (pc : Int) (c : Nat), ss.all (d7 p.vars.length p.arrays.length d) = true → c + M5 ss ≤ 4000000 → d8.ok Tryz.prog (bv0 p d ss pc c strict) := by
 intro d
 induction d with
 | zero =>
  intro ss pc c h hc
  cases ss with
  | nil => exact aY3 p pc c strict
  | cons s r => simp [d7] at h
 | succ d ih => intro ss pc c h hc; exact aY1 p d strict ih ss pc c h hc
theorem al3 {p : b8} (h : e6 p = true) : p.body.all (d7 p.vars.length p.arrays.length 5) = true ∧ M5 p.body ≤ 60 := by
 simp only [e6, V2, bW2, decide_eq_true_eq] at h
 exact ⟨h.1.2, h.2⟩
theorem bm0 (p : b8) (strict : Bool) (h : e6 p = true) : d8.ok Tryz.prog (C9 83 [pA 0, .ref 2, iA 0, iA 0, bA strict] (pS p) (.tup [iA (m8 p strict 5 0 0 p.body).1, iA (m8 p strict 5 0 0 p.body).2])) :=
 d8.dup (S := pS p) (S' := pS p) (d := .stmts p.body) (i := 2) (aY2 p strict 5 p.body 0 0 (al3 h).1 (by have := (al3 h).2; omega)) rfl rfl rfl (fun ρ h => by simp only [AV.vals, AV.val]; rw [show ρ 3 = ρ 2 from h]; rfl) rfl
def J2 (p : b8) (strict : Bool) : Int × Int := if e6 p then (if (m8 p strict 5 0 0 p.body).1 = 0 then (0, -1) else ((m8 p strict 5 0 0 p.body).1, ((m8 p strict 5 0 0 p.body).2 : Int))) else (5, -1)
section
variable {p : b8} {strict : Bool}
theorem bz1 (h : e6 p = false) : J2 p strict = (5, -1) := by rw [J2, h]; rfl
theorem a58 (h : e6 p = true) (h1 : (m8 p strict 5 0 0 p.body).1 = 0) : J2 p strict = (0, -1) := by rw [J2, h, h1]; rfl
theorem bl5 (h : e6 p = true) (h1 : ¬ (m8 p strict 5 0 0 p.body).1 = 0) : J2 p strict = ((m8 p strict 5 0 0 p.body).1, ((m8 p strict 5 0 0 p.body).2 : Int)) := by rw [J2, h, if_neg h1]; rfl
end
theorem a97 (p : b8) (strict : Bool) (hb : c9 p.body ≤ 1048576) : d8.ok Tryz.prog (C9 59 [pA 0, bA strict] (pS p) (.tup [iA (J2 p strict).1, iA (J2 p strict).2])) := by
  refine t8 24 Tryz.func59 [dI p.vars, dI p.arrays, dT p.body] [(0, pA 0), (1, bA strict)] fun G => ?_; refine wp_seq (e5 G c3 (rg 4) [dI p.vars, dI p.arrays, dT p.body, .box (pL 0)] [(1, bA strict), (2, .ptr 3 0), (4, iA 0), (5, iA 0)] fun G => b5 (wp_seq (wp_seq (d9 G (n5 1 [0, 1, 2] (O0 p (by assumption))) [(10, .v (.bool !e6 p))] fun G => b5 ?_)))); cases h0 : (!e6 p)
  ·
   have q0 : (e6 p) = true := (Eq.mp (bW7 _) h0); refine rF G _ h0 (wp_skip (b5 (wp_seq (e5 G (n5 4 [0, 1, 2] (bm0 p strict (by assumption))) [0, 1, 2] [dI p.vars, dI p.arrays, dT p.body] [(4, iA 0), (5, iA 0), (6, iA (m8 p strict 5 0 0 p.body).fst), (7, iA ((m8 p strict 5 0 0 p.body).snd : Int))] fun G => b5 (wp_seq (wp_seq (d9 G c3 [(20, bA ((m8 p strict 5 0 0 p.body).fst == 0))] fun G => b5 (I1 G (fun h1 q1 => ?_) fun h1 q1 => ?_))))))))
   · refine wp_skip (b5 (wp_seq (d9 G c3 [(4, iA (m8 p strict 5 0 0 p.body).fst), (5, iA ((m8 p strict 5 0 0 p.body).snd : Int))] fun G => b5 (wp_ret ?_)))); exact M0 (.tup [iA (m8 p strict 5 0 0 p.body).fst, iA ((m8 p strict 5 0 0 p.body).snd : Int)]) G [0, 1, 2] (by have e1 : ((J2 p strict).fst : Int) = ((m8 p strict 5 0 0 p.body).fst) := (by rw [bl5 (by assumption) (by assumption)]; done); have e2 : ((J2 p strict).snd : Int) = (((m8 p strict 5 0 0 p.body).snd : Int)) := (by rw [bl5 (by assumption) (by assumption)]; done); (first | rw [e1, e2] | simp only [e1, e2]) <;> rfl)
   · refine wp_seq (d9 G c3 [(4, iA (m8 p strict 5 0 0 p.body).fst), (5, iA (-1))] fun G => b5 (wp_ret (c8 ?_))); exact M0 (.tup [iA (m8 p strict 5 0 0 p.body).fst, iA (-1)]) G [0, 1, 2] (by have e1 : ((J2 p strict).fst : Int) = ((m8 p strict 5 0 0 p.body).fst) := ((congrArg Prod.fst (a58 (by assumption) (by assumption))).trans (Eq.symm (by assumption))); have e2 : ((J2 p strict).snd : Int) = (-1) := (by rw [a58 (by assumption) (by assumption)]; done); (first | rw [e1, e2] | simp only [e1, e2]) <;> rfl)
  · have q0 : (e6 p) = false := (Eq.mp (bW6 _) h0); refine rT G _ h0 (wp_seq (d9 G c3 [(4, iA 5), (5, iA (-1))] fun G => b5 (wp_ret (c8 ?_)))); exact M0 (.tup [iA 5, iA (-1)]) G [0, 1, 2] (by have e1 : ((J2 p strict).fst : Int) = (5) := (by rw [bz1 (by assumption)]; done); have e2 : ((J2 p strict).snd : Int) = (-1) := (by rw [bz1 (by assumption)]; done); (first | rw [e1, e2] | simp only [e1, e2]) <;> rfl)
theorem P8 (p : b8) (hb : c9 p.body ≤ 1048576) : d8.ok Tryz.prog (C9 44 [pA 0] (pS p) (.tup [iA (J2 p false).1, iA (J2 p false).2])) := by
 refine t8 8 Tryz.func44 [dI p.vars, dI p.arrays, dT p.body] [(0, pA 0)] fun G => ?_; refine wp_seq (e5 G c3 (rg 4) [dI p.vars, dI p.arrays, dT p.body, .box (pL 0)] [(1, .ptr 3 0), (2, iA 0), (3, iA 0)] fun G => b5 (wp_seq (e5 G (n5 1 [0, 1, 2] (a97 p false (by assumption))) [0, 1, 2] [dI p.vars, dI p.arrays, dT p.body] [(2, iA (J2 p false).fst), (3, iA (J2 p false).snd)] fun G => b5 (wp_ret ?_)))); exact A3 G [0, 1, 2]
section
variable {p : b8} {s : b6} {cx : Int}
end
theorem bB6 : ∀ x : Fin 4, ∀ y : Fin 4, ∃ z : Fin 4, f9 x.val y.val = (z.val : Int) := by decide +kernel
theorem au5 {x y : Int} (hx : c5 x = true) (hy : c5 y = true) : c5 (f9 x y) = true := by
 obtain ⟨a, rfl⟩ := L8 hx
 obtain ⟨b, rfl⟩ := L8 hy
 obtain ⟨c, h⟩ := bB6 a b
 rw [h]
 simp [c5]; omega
theorem aa8 {l : List Int} (h : l.all c5 = true) (i : Nat) : c5 (l.getD i 0) = true := by
 rcases bZ4 i l.length with hi | hi
 ·rw [f8 hi]; exact bX0.1 h _ (bX7 hi)
 ·rw [bW3, bY2 hi]; rfl
theorem ai3 {vs ars : List Int} (h1 : vs.all c5 = true) (h2 : ars.all c5 = true) : ∀ (d : Nat) (e : b7), c5 (c6 vs ars d e) = true
 | 0, _ => rfl
 | d + 1, e => by
  rw [c6]
  have key : ∀ (ks : List b7) (a : Int), c5 a = true → c5 (ks.foldl (fun a k => f9 a (c6 vs ars d k)) a) = true := by
   intro ks
   induction ks with
   | nil => intro a ha; exact ha
   | cons x r ih => intro a ha; rw [List.foldl_cons]; exact ih _ (au5 ha (ai3 h1 h2 d x))
  refine key _ _ ?_
  unfold ao6
  split
  ·exact aa8 h1 _
  ·split
   ·exact aa8 h2 _
   ·rfl
def bi4 (p : b8) : Bool := p.vars.all c5 && p.arrays.all c5
theorem aV6 {p : b8} (h : e6 p = true) : bi4 p = true := by
 unfold e6 x7 at h
 simp only [bW2] at h
 unfold bi4
 rw [h.1.1.1.1.1.1, h.1.1.1.1.1.2]; rfl
def V9 {α : Type} (f : α → Bool) (l : List α) : Int := match l.findIdx? f with
 | some i => i
 | none => -1
theorem aD6 {α : Type} {f : α → Bool} {l : List α} {k : Nat} {z : α} (hk : k < l.length) (h : (l.take k).any f = false) (hf : f (l.getD k z) = true) : V9 f l = k := by
 have : l.findIdx? f = some k := by
  rw [List.findIdx?_eq_some_iff_getElem]
  rw [f8 hk] at hf
  refine ⟨hk, hf, fun j hj => ?_⟩
  rw [List.any_eq_false] at h
  have hm : l[j] ∈ l.take k := List.mem_take_iff_getElem.2 ⟨j, by omega, rfl⟩
  exact h _ hm
 unfold V9; rw [this]
theorem ax3 {α : Type} {f : α → Bool} {l : List α} (h : l.any f = false) : V9 f l = -1 := by
 have : l.findIdx? f = none := by
  rw [List.findIdx?_eq_none_iff]
  intro x hx
  rw [List.any_eq_false] at h
  simpa using h x hx
 unfold V9; rw [this]
theorem aD7 {α : Type} (f : α → Bool) (l : List α) : decide (V9 f l ≥ 0) = l.any f := by
 cases h : l.any f
 ·rw [ax3 h]; rfl
 ·unfold V9
  cases h2 : l.findIdx? f with
  | none =>
   rw [List.findIdx?_eq_none_iff] at h2
   obtain ⟨x, hx, hf⟩ := List.any_eq_true.1 h
   rw [h2 x hx] at hf; cases hf
  | some i => simp
section
variable {p : b8} {s : b6}
end
section
variable {R : b6 × Int → Int} {c a : Int} {n : Nat} {x : b6 × Int}
end
section
variable {R : b6 × Int → Int} {p : b8} {d : Nat} {cx : Int} {ss : List b6} {c b : Int} {n k : Nat}
end
abbrev D0 : Type := List Int × List Int
def bv (x : Int) : BitVec 64 := BitVec.ofInt 64 x
def ofb (b : BitVec 64) : Int := IntKind.i64.wrap (b.toNat : Int)
theorem bF1 (b : BitVec 64) : bv (ofb b) = b := by
 apply BitVec.eq_of_toNat_eq
 unfold bv ofb
 rw [BitVec.toNat_ofInt]
 have h := b.isLt
 unfold IntKind.wrap
 simp only [IntKind.bits, IntKind.signed, Bool.true_and, decide_eq_true_eq]
 split <;> omega
theorem br3 (x y : Int) : f9 x y = ofb (bv x ||| bv y) := rfl
theorem bm7 (x y : Int) : bv (f9 x y) = bv x ||| bv y := by rw [br3, bF1]
def O6 (x y : Int) : Prop := bv x ||| bv y = bv y
theorem O6.refl (x : Int) : O6 x x := BitVec.or_self
theorem O6.trans {x y z : Int} (h : O6 x y) (k : O6 y z) : O6 x z := by
 unfold O6 at *
 rw [← k, ← BitVec.or_assoc, h]
theorem av8 (x y : Int) : O6 x (f9 x y) := by unfold O6; rw [bm7, ← BitVec.or_assoc, BitVec.or_self]
theorem U1 {x y a b : Int} (h : O6 x a) (k : O6 y b) : O6 (f9 x y) (f9 a b) := by
 unfold O6 at *
 rw [bm7, bm7, BitVec.or_assoc, ← BitVec.or_assoc (bv y), BitVec.or_comm (bv y) (bv a), BitVec.or_assoc (bv a), k, ← BitVec.or_assoc, h]
theorem bF2 : ∀ x : Fin 4, ∀ y : Fin 4, bv x.val = bv y.val → x = y := by decide +kernel
theorem bD0 : ∀ x : Fin 4, ∀ y : Fin 4, bv x.val ||| bv y.val = bv y.val → x.val ≤ y.val := by decide +kernel
theorem O6.anti {x y : Int} (h : O6 x y) (k : O6 y x) (hx : c5 x = true) (hy : c5 y = true) : x = y := by
 obtain ⟨a, rfl⟩ := L8 hx
 obtain ⟨b, rfl⟩ := L8 hy
 unfold O6 at *
 rw [BitVec.or_comm, h] at k
 rw [bF2 b a k]
theorem O6.nat {x y : Int} (h : O6 x y) (hx : c5 x = true) (hy : c5 y = true) : x.toNat ≤ y.toNat := by
 obtain ⟨a, rfl⟩ := L8 hx
 obtain ⟨b, rfl⟩ := L8 hy
 have := bD0 a b h
 omega
def leP (q r : D0) : Prop := (∀ i, O6 (q.1.getD i 0) (r.1.getD i 0)) ∧ ∀ i, O6 (q.2.getD i 0) (r.2.getD i 0)
def shP (q r : D0) : Prop := r.1.length = q.1.length ∧ r.2.length = q.2.length
def okP (q : D0) : Prop := q.1.all c5 = true ∧ q.2.all c5 = true
theorem leP.refl (q : D0) : leP q q := ⟨fun _ => O6.refl _, fun _ => O6.refl _⟩
theorem leP.trans {q r s : D0} (h : leP q r) (k : leP r s) : leP q s := ⟨fun i => (h.1 i).trans (k.1 i), fun i => (h.2 i).trans (k.2 i)⟩
theorem shP.refl (q : D0) : shP q q := ⟨rfl, rfl⟩
theorem shP.trans {q r s : D0} (h : shP q r) (k : shP r s) : shP q s := ⟨k.1.trans h.1, k.2.trans h.2⟩
theorem shP.symm {q r : D0} (h : shP q r) : shP r q := ⟨h.1.symm, h.2.symm⟩
theorem aD2 {a b : List Int} (hl : b.length = a.length) (h : ∀ i, O6 (a.getD i 0) (b.getD i 0)) (k : ∀ i, O6 (b.getD i 0) (a.getD i 0)) (ha : a.all c5 = true) (hb : b.all c5 = true) : a = b := by
 apply List.ext_getElem (by omega)
 intro i h1 h2
 have := (h i).anti (k i) (aa8 ha i) (aa8 hb i)
 rw [f8 h1, f8 h2] at this
 exact this
theorem leP.anti {q r : D0} (h : leP q r) (k : leP r q) (hs : shP q r) (hq : okP q) (hr : okP r) : q = r :=
 Prod.ext (aD2 hs.1 h.1 k.1 hq.1 hr.1) (aD2 hs.2 h.2 k.2 hq.2 hr.2)
theorem bg4 {q r : D0} (h : leP q r) (e : b7) : O6 (ao6 q.1 q.2 e) (ao6 r.1 r.2 e) := by
 unfold ao6
 split
 ·exact h.1 _
 ·split
  ·exact h.2 _
  ·exact O6.refl _
theorem Z0 {q r : D0} (h : leP q r) : ∀ (d : Nat) (e : b7), O6 (c6 q.1 q.2 d e) (c6 r.1 r.2 d e)
 | 0, _ => O6.refl _
 | d + 1, e => by
  rw [c6, c6]
  have key : ∀ (ks : List b7) (a b : Int), O6 a b → O6 (ks.foldl (fun a k => f9 a (c6 q.1 q.2 d k)) a) (ks.foldl (fun a k => f9 a (c6 r.1 r.2 d k)) b) := by
   intro ks
   induction ks with
   | nil => intro a b hab; exact hab
   | cons x t ih => intro a b hab; rw [List.foldl_cons, List.foldl_cons]; exact ih _ _ (U1 hab (Z0 h d x))
  exact key _ _ _ (bg4 h e)
def B2 (q : D0) (s : b6) (cx : Int) : D0 :=
 if s.kind = 1 then (q.1.set s.target.toNat (f9 (f9 (q.1.getD s.target.toNat 0) (c6 q.1 q.2 5 s.value)) cx), q.2)
 else if s.kind = 2 then (q.1, q.2.set s.target.toNat (f9 (f9 (f9 (q.2.getD s.target.toNat 0) (c6 q.1 q.2 5 s.value)) (c6 q.1 q.2 5 s.index)) cx))
 else q
def W3 (q : D0) (s : b6) (cx : Int) : Int := if s.kind = 3 then f9 cx (c6 q.1 q.2 5 s.value) else cx
def upS (b : Bool) : Nat → D0 → Int → b6 → D0
 | 0, q, _, _ => q
 | d + 1, q, cx, s => s.els.foldl (fun r t => upS b d r (W3 (if b then s.body.foldl (fun r t => upS b d r (W3 (B2 q s cx) s cx) t) (B2 q s cx) else B2 q s cx) s cx) t) (s.body.foldl (fun r t => upS b d r (W3 (B2 q s cx) s cx) t) (B2 q s cx))
abbrev s3 (b : Bool) (d : Nat) (q : D0) (cx : Int) (ss : List b6) : D0 := ss.foldl (fun r t => upS b d r cx t) q
theorem X5 (b : Bool) (d : Nat) (q : D0) (cx : Int) (s : b6) : upS b (d + 1) q cx s = s3 b d (s3 b d (B2 q s cx) (W3 (B2 q s cx) s cx) s.body) (W3 (if b then s3 b d (B2 q s cx) (W3 (B2 q s cx) s cx) s.body else B2 q s cx) s cx) s.els := by rw [upS]
theorem au0 (l : List Int) (t i : Nat) (x : Int) : (l.set t x).getD i 0 = if t = i ∧ t < l.length then x else l.getD i 0 := by
 simp only [bW3, List.getElem?_set]
 by_cases h : t = i
 ·subst h
  by_cases h2 : t < l.length
  ·simp [h2]
  ·simp [h2]
 ·simp [h]
theorem a25 {l : List Int} {t : Nat} {x : Int} (h : l.all c5 = true) (hx : c5 x = true) : (l.set t x).all c5 = true := by
 rw [bX0] at *
 intro y hy
 rcases List.mem_or_eq_of_mem_set hy with h1 | h1
 ·exact h y h1
 ·rw [h1]; exact hx
theorem aW0 (q : D0) (s : b6) (cx : Int) : shP q (B2 q s cx) := by
 unfold B2
 split
 ·exact ⟨by simp, rfl⟩
 ·split
  ·exact ⟨rfl, by simp⟩
  ·exact shP.refl _
theorem aM8 {l : List Int} {t : Nat} {x : Int} (h : O6 (l.getD t 0) x) (i : Nat) : O6 (l.getD i 0) ((l.set t x).getD i 0) := by
 rw [au0]
 split
 ·rename_i h1; rw [← h1.1]; exact h
 ·exact O6.refl _
theorem aM7 {l m : List Int} {t : Nat} {x y : Int} (hl : m.length = l.length) (h : ∀ i, O6 (l.getD i 0) (m.getD i 0)) (hx : O6 x y) (i : Nat) : O6 ((l.set t x).getD i 0) ((m.set t y).getD i 0) := by
 rw [au0, au0, hl]
 split
 ·exact hx
 ·exact h i
theorem bg7 (q : D0) (s : b6) (cx : Int) : leP q (B2 q s cx) := by
 unfold B2
 split
 ·exact ⟨aM8 ((av8 _ _).trans (av8 _ _)), fun _ => O6.refl _⟩
 ·split
  ·exact ⟨fun _ => O6.refl _, aM8 (((av8 _ _).trans (av8 _ _)).trans (av8 _ _))⟩
  ·exact leP.refl _
theorem bg6 {q r : D0} (h : leP q r) (hs : shP q r) {cx cy : Int} (hc : O6 cx cy) (s : b6) : leP (B2 q s cx) (B2 r s cy) := by
 unfold B2
 split
 ·exact ⟨aM7 hs.1 h.1 (U1 (U1 (h.1 _) (Z0 h 5 _)) hc), h.2⟩
 ·split
  ·exact ⟨h.1, aM7 hs.2 h.2 (U1 (U1 (U1 (h.2 _) (Z0 h 5 _)) (Z0 h 5 _)) hc)⟩
  ·exact h
theorem bB8 {q : D0} (h : okP q) {cx : Int} (hc : c5 cx = true) (s : b6) : okP (B2 q s cx) := by
 unfold B2
 split
 ·exact ⟨a25 h.1 (au5 (au5 (aa8 h.1 _) (ai3 h.1 h.2 5 _)) hc), h.2⟩
 ·split
  ·exact ⟨h.1, a25 h.2 (au5 (au5 (au5 (aa8 h.2 _) (ai3 h.1 h.2 5 _)) (ai3 h.1 h.2 5 _)) hc)⟩
  ·exact h
theorem aP1 {q r : D0} (h : leP q r) {cx cy : Int} (hc : O6 cx cy) (s : b6) : O6 (W3 q s cx) (W3 r s cy) := by
 unfold W3
 split
 ·exact U1 hc (Z0 h 5 _)
 ·exact hc
theorem bj5 {q : D0} (h : okP q) {cx : Int} (hc : c5 cx = true) (s : b6) : c5 (W3 q s cx) = true := by
 unfold W3
 split
 ·exact au5 hc (ai3 h.1 h.2 5 _)
 ·exact hc
theorem aa9 {F : D0 → b6 → D0} (hF : ∀ q s, shP q (F q s)) : ∀ (ss : List b6) (q : D0), shP q (ss.foldl F q)
 | [], q => shP.refl q
 | s :: r, q => (hF q s).trans (aa9 hF r _)
theorem S7 {F : D0 → b6 → D0} (hF : ∀ q s, leP q (F q s)) : ∀ (ss : List b6) (q : D0), leP q (ss.foldl F q)
 | [], q => leP.refl q
 | s :: r, q => (hF q s).trans (S7 hF r _)
theorem aq1 {F : D0 → b6 → D0} (hF : ∀ q s, okP q → okP (F q s)) : ∀ (ss : List b6) (q : D0), okP q → okP (ss.foldl F q)
 | [], _, h => h
 | s :: r, q, h => aq1 hF r _ (hF q s h)
theorem ab0 {F G : D0 → b6 → D0} (hF : ∀ q s, shP q (F q s)) (hG : ∀ q s, shP q (G q s)) (h : ∀ q r s, shP q r → leP q r → leP (F q s) (G r s)) : ∀ (ss : List b6) (q r : D0), shP q r → leP q r → leP (ss.foldl F q) (ss.foldl G r)
 | [], _, _, _, hl => hl
 | s :: t, q, r, hs, hl => ab0 hF hG h t _ _ (((hF q s).symm.trans hs).trans (hG r s)) (h q r s hs hl)
theorem X4 (b : Bool) : ∀ (d : Nat) (cx : Int) (q : D0) (s : b6), shP q (upS b d q cx s)
 | 0, _, q, _ => shP.refl q
 | d + 1, cx, q, s => by
  rw [X5]
  exact ((aW0 q s cx).trans (aa9 (fun q s => X4 b d _ q s) _ _)).trans (aa9 (fun q s => X4 b d _ q s) _ _)
theorem ap4 (b : Bool) : ∀ (d : Nat) (cx : Int) (q : D0) (s : b6), leP q (upS b d q cx s)
 | 0, _, q, _ => leP.refl q
 | d + 1, cx, q, s => by
  rw [X5]
  exact ((bg7 q s cx).trans (S7 (fun q s => ap4 b d _ q s) _ _)).trans (S7 (fun q s => ap4 b d _ q s) _ _)
theorem bc8 (b : Bool) : ∀ (d : Nat) (cx : Int) (q : D0) (s : b6), c5 cx = true → okP q → okP (upS b d q cx s)
 | 0, _, _, _, _, h => h
 | d + 1, cx, q, s, hc, h => by
  rw [X5]
  have h1 := bB8 h hc s
  have h2 : okP (s3 b d (B2 q s cx) (W3 (B2 q s cx) s cx) s.body) := aq1 (fun q t hq => bc8 b d _ q t (bj5 h1 hc s) hq) _ _ h1
  refine aq1 (fun q t hq => bc8 b d _ q t (bj5 ?_ hc s) hq) _ _ h2
  split
  ·exact h2
  ·exact h1
theorem aF8 {b b' : Bool} (hb : b = true → b' = true) : ∀ (d : Nat) (cx cy : Int) (q r : D0) (s : b6), O6 cx cy → shP q r → leP q r → leP (upS b d q cx s) (upS b' d r cy s)
 | 0, _, _, _, _, _, _, _, h => h
 | d + 1, cx, cy, q, r, s, hc, hs, h => by
  rw [X5, X5]
  have h1 := bg6 h hs hc s
  have s1 : shP (B2 q s cx) (B2 r s cy) := ((aW0 q s cx).symm.trans hs).trans (aW0 r s cy)
  have hi := aP1 h1 hc s
  have h2 : leP (s3 b d (B2 q s cx) (W3 (B2 q s cx) s cx) s.body) (s3 b' d (B2 r s cy) (W3 (B2 r s cy) s cy) s.body) := ab0 (fun q t => X4 b d _ q t) (fun q t => X4 b' d _ q t) (fun q r t hs hl => aF8 hb d _ _ q r t hi hs hl) _ _ _ s1 h1
  have s2 : shP (s3 b d (B2 q s cx) (W3 (B2 q s cx) s cx) s.body) (s3 b' d (B2 r s cy) (W3 (B2 r s cy) s cy) s.body) := ((aa9 (fun q t => X4 b d _ q t) _ _).symm.trans s1).trans (aa9 (fun q t => X4 b' d _ q t) _ _)
  refine ab0 (fun q t => X4 b d _ q t) (fun q t => X4 b' d _ q t) (fun q r t hs hl => aF8 hb d _ _ q r t ?_ hs hl) _ _ _ s2 h2
  refine aP1 ?_ hc s
  cases b with
  | true =>
   have e := hb rfl
   subst e
   exact h2
  | false =>
   simp only [Bool.false_eq_true, if_false]
   split
   ·exact h1.trans (S7 (fun q t => ap4 b' d _ q t) _ _)
   ·exact h1
section
variable {b : Bool} {d : Nat} {cx : Int} {q r : D0} {ss : List b6}
theorem ae3 : shP q (s3 b d q cx ss) := aa9 (fun q t => X4 b d _ q t) _ _
theorem as8 : leP q (s3 b d q cx ss) := S7 (fun q t => ap4 b d _ q t) _ _
theorem bc9 (hc : c5 cx = true) (h : okP q) : okP (s3 b d q cx ss) := aq1 (fun q t hq => bc8 b d _ q t hc hq) _ _ h
end
def aG0 (l : List Int) : Nat := (l.map Int.toNat).sum
def az2 (q : D0) : Nat := aG0 q.1 + aG0 q.2
theorem aF9 : ∀ {a b : List Int}, b.length = a.length → a.all c5 = true → b.all c5 = true → (∀ i, O6 (a.getD i 0) (b.getD i 0)) → aG0 a ≤ aG0 b ∧ (aG0 a = aG0 b → a = b)
 | [], b, hl, _, _, _ => by rw [bY4 hl]; exact ⟨bX4 _, fun _ => rfl⟩
 | x :: r, [], hl, _, _, _ => by cases hl
 | x :: r, y :: t, hl, ha, hb, h => by
  simp only [List.all_cons, bW2] at ha hb
  have h0 := h 0
  simp at h0
  obtain ⟨k1, k2⟩ := aF9 (a := r) (b := t) (by simpa using hl) ha.2 hb.2 fun i => by have := h (i + 1); simpa using this
  have k3 := h0.nat ha.1 hb.1
  simp only [aG0, bZ3, List.sum_cons] at k1 k2 ⊢
  refine ⟨by omega, fun e => ?_⟩
  obtain ⟨a, rfl⟩ := L8 ha.1
  obtain ⟨b, rfl⟩ := L8 hb.1
  rw [k2 (by omega)]
  congr 1
  omega
theorem at4 : ∀ {l : List Int}, l.all c5 = true → aG0 l ≤ 3 * l.length
 | [], _ => bZ5 _
 | x :: r, h => by
  simp only [List.all_cons, bW2] at h
  have h1 := at4 h.2
  obtain ⟨a, rfl⟩ := L8 h.1
  simp only [aG0, bZ3, List.sum_cons, bX2] at h1 ⊢
  omega
theorem a21 {q r : D0} (hs : shP q r) (hq : okP q) (hr : okP r) (h : leP q r) (hne : ¬ r = q) : az2 q < az2 r := by
 obtain ⟨a1, a2⟩ := aF9 hs.1 hq.1 hr.1 h.1
 obtain ⟨b1, b2⟩ := aF9 hs.2 hq.2 hr.2 h.2
 unfold az2
 refine Nat.lt_of_not_le fun hle => hne (Prod.ext (a2 (by omega)).symm (b2 (by omega)).symm)
theorem aM0 {q : D0} (hq : okP q) : az2 q ≤ 3 * (q.1.length + q.2.length) := by
 have h1 := at4 hq.1
 have h2 := at4 hq.2
 unfold az2; omega
def W7 (b : List b6) (p q : D0) : Prop := shP p q ∧ okP q ∧ leP p q ∧ ∀ r, shP p r → okP r → leP p r → s3 true 5 r 0 b = r → leP q r
theorem af2 {b : List b6} {p : D0} (h : okP p) : W7 b p p := ⟨shP.refl _, h, leP.refl _, fun _ _ _ h _ => h⟩
theorem aa7 {b : List b6} {p q : D0} {f : Bool} (h : W7 b p q) : W7 b p (s3 f 5 q 0 b) :=
 ⟨h.1.trans ae3, bc9 rfl h.2.1, h.2.2.1.trans as8, fun r h1 h2 h3 h4 => by
  have h5 := h.2.2.2 r h1 h2 h3 h4
  have := ab0 (fun q t => X4 f 5 0 q t) (fun q t => X4 true 5 0 q t) (fun q r t hs hl => aF8 (b := f) (b' := true) (fun _ => rfl) 5 0 0 q r t (O6.refl _) hs hl) b q r (h.1.symm.trans h1) h5
  rw [show b.foldl (fun q t => upS true 5 q 0 t) r = r from h4] at this
  exact this⟩
theorem aP2 {b : List b6} {p q r : D0} (hq : W7 b p q) (hr : W7 b p r) (fq : s3 true 5 q 0 b = q) (fr : s3 true 5 r 0 b = r) : q = r :=
 (hq.2.2.2 r hr.1 hr.2.1 hr.2.2.1 fr).anti (hr.2.2.2 q hq.1 hq.2.1 hq.2.2.1 fq) (hq.1.symm.trans hr.1) hq.2.1 hr.2.1
def az4 (b : List b6) : Nat → D0 → D0
 | 0, q => q
 | n + 1, q => az4 b n (s3 true 5 q 0 b)
def al6 (p : b8) : D0 := az4 p.body 64 (p.vars, p.arrays)
theorem aP3 {b : List b6} {p : D0} : ∀ (n : Nat) (q : D0), W7 b p q → W7 b p (az4 b n q)
 | 0, _, h => h
 | n + 1, q, h => aP3 n _ (aa7 h)
theorem aP4 {b : List b6} : ∀ (n : Nat) {q : D0}, s3 true 5 q 0 b = q → az4 b n q = q
 | 0, _, _ => rfl
 | n + 1, q, h => by rw [az4, h]; exact aP4 n h
theorem aP5 {b : List b6} {p : D0} : ∀ (n : Nat) (q : D0), W7 b p q → s3 true 5 (az4 b n q) 0 b = az4 b n q ∨ az2 q + n ≤ az2 (az4 b n q)
 | 0, _, _ => .inr (bX4 _)
 | n + 1, q, h => by
  rw [az4]
  by_cases e : s3 true 5 q 0 b = q
  ·left
   rw [e, aP4 n e, e]
  ·have h1 := a21 ae3 h.2.1 (bc9 rfl h.2.1) as8 e
   rcases aP5 n _ (aa7 (f := true) h) with h2 | h2
   ·exact .inl h2
   ·right; omega
theorem aI7 {p : b8} (h : e6 p = true) : okP (p.vars, p.arrays) := by
 have := aV6 h
 simp only [bi4, bW2] at this
 exact this
theorem aw1 {p : b8} (h : e6 p = true) : W7 p.body (p.vars, p.arrays) (al6 p) := aP3 64 _ (af2 (aI7 h))
theorem bj7 {p : b8} (h : e6 p = true) (hl : p.vars.length + p.arrays.length ≤ 14) : s3 true 5 (al6 p) 0 p.body = al6 p := by
 rcases aP5 (b := p.body) 64 (p.vars, p.arrays) (af2 (aI7 h)) with h1 | h1
 ·exact h1
 ·have h2 := aw1 h
  have h3 := aM0 h2.2.1
  have h4 := h2.1
  have h5 : az4 p.body 64 (p.vars, p.arrays) = al6 p := rfl
  rw [h5] at h1
  rw [h4.1, h4.2] at h3
  simp only at h3
  omega
theorem a47 {p : b8} {q : D0} (h : e6 p = true) (hl : p.vars.length + p.arrays.length ≤ 14) (hq : W7 p.body (p.vars, p.arrays) q) (hf : s3 true 5 q 0 p.body = q) : al6 p = q :=
 aP2 (aw1 h) hq (bj7 h hl) hf
theorem a20 {a b : b7} (h : ¬ a = b) : B7 a b = false := by
 cases e : B7 a b
 ·rfl
 ·exact absurd ((C5 a b).1 e) h
section
variable {a b : b7} {k : Nat}
theorem sx1 (h : ¬ a.kind = b.kind) : B7 a b = false := a20 fun e => h (by rw [e])
theorem sx2 (h : ¬ a.value = b.value) : B7 a b = false := a20 fun e => h (by rw [e])
theorem sx3 (h : ¬ (a.kids.length : Int) = b.kids.length) : B7 a b = false := a20 fun e => h (by rw [e])
theorem sx4 (h : B7 (a.kids.getD k bW1) (b.kids.getD k bW1) = false) : B7 a b = false := a20 fun e => by
 subst e
 rw [(C5 _ _).2 rfl] at h; cases h
theorem R7 {α : Type} {l m : List α} {k : Nat} {z : α} (h : l.take k = m.take k) (h1 : k < l.length) (h2 : k < m.length) (e : l.getD k z = m.getD k z) : l.take (k + 1) = m.take (k + 1) := by
 rw [l0 _ _ h1, l0 _ _ h2, h, ← f8 (d := z) h1, ← f8 (d := z) h2, e]
theorem X7 {α : Type} {l m : List α} {k : Nat} (h : l.take k = m.take k) (h1 : l.length ≤ k) (h2 : (l.length : Int) = m.length) : l = m := by
 rw [bX3 h1, bX3 (by omega)] at h
 exact h
theorem sx5 (h1 : a.kind = b.kind) (h2 : a.value = b.value) (h3 : (a.kids.length : Int) = b.kids.length) (h : a.kids.take k = b.kids.take k) (hk : a.kids.length ≤ k) : B7 a b = true := by
 refine (C5 _ _).2 ?_
 rw [← b7.eta a, ← b7.eta b, h1, h2, X7 h hk h3]
end
abbrev sxC (a b : b7) : d8 := C9 108 [eA a 0, eA b 1] [dE a.kids, dE b.kids] (bA (B7 a b))
theorem bq1 (x y : b7) (ih : ∀ (u : b7), u ∈ x.kids → ∀ (v : b7), d8.ok Tryz.prog (sxC u v)) : d8.ok Tryz.prog (sxC x y) := by
  refine t8 46 Tryz.func108 [dE x.kids, dE y.kids] [(0, eA x 0), (1, eA y 1)] fun G => ?_; have hl : x.kids.length ≤ 9223372036854775807 := G.len 0 (d := .exprs x.kids) (by kernel_rfl); refine wp_seq (e5 G c3 [0, 1, 2, 10] [dE x.kids, dE y.kids, .box (eL x 0), .box (eL y 1)] [(2, .ptr 2 0), (3, .ptr 3 0), (4, bA false)] fun G => b5 (wp_seq (wp_seq ?_))); cases h0 : (x.kind != y.kind)
  ·
   have q0 := bne_eq_false_iff_eq.1 h0; cases h1 : (x.value != y.value)
   ·
    have q1 := bne_eq_false_iff_eq.1 h1; refine d9 G (z4 (fc h0 (fc h1 fz)) (us [(6, 10, 0), (1011, 1011, 0), (13, 19, 1), (1020, 1020, 1)])) [(26, bA ((x.kids.length : Int) != (y.kids.length : Int)))] fun G => b5 (rcN G (fun h2 q2 => ?_) fun h2 q2 => ?_)
    ·
     refine wp_skip (b5 (wp_seq (wp_seq (w3 G c3 [(2, .ptr 2 0), (3, .ptr 3 0), (4, bA false), (5, iA 0)] fun G => b5 (wp_block ?_))))); refine k8 (κ := Nat) (fun k => k ≤ x.kids.length ∧ x.kids.take k = y.kids.take k) (fun k => x.kids.length - k) (fun k => [dE x.kids, dE y.kids, .box (eL x 0), .box (eL y 1)]) (fun k => [(2, .ptr 2 0), (3, .ptr 3 0), (4, bA false), (5, iA k)]) 0 (by simp [h0, h1, h2]) (l7.at G _ _) ?_; clear G; intro k ρ a w hp G; refine wp_seq (wp_seq (d9 G c3 [(31, bA (decide ((k : Int) < x.kids.length)))] fun G => b5 (I2 G (fun h3 q3 => ?_) fun h3 q3 => ?_)))
     · refine wp_exit (j9 (j9 (j7 (b5 (wp_seq (e5 G c3 [0, 1] [dE x.kids, dE y.kids] [(4, bA true)] fun G => b5 (wp_ret ?_))))))); exact m5 true G [0, 1] (sx5 (by omega) (by omega) (by omega) hp.2 (by omega))
     ·
      refine wp_skip (b5 (wp_seq (wp_block (wp_seq (T9 G (n5 10 [36, 76] (ih (x.kids.getD k bW1) (aw6 (by omega)) (y.kids.getD k bW1))) [0, 1, 0, 7, 15, 0, 32, 0, 224, 480, 1023, 2047] [(45, .v (.bool !B7 (x.kids.getD k bW1) (y.kids.getD k bW1)))] (iX k k x.kids.length (iX k k y.kids.length [])) (iK (by omega) (iK (by omega) bX6)) fun G => b5 ?_))))); cases h4 : (!B7 (x.kids.getD k bW1) (y.kids.getD k bW1))
      · have q4 : (B7 (x.kids.getD k bW1) (y.kids.getD k bW1)) = true := (Eq.mp (bW7 _) h4); refine rF G _ h4 (wp_skip (i9 (b5 (z5 G c3 [(5, iA ((k : Int) + 1))] [wO ((k : Int) + 1)] (o1 (by omega)) fun G => b5 ?_)))); exact H3 G (k + 1) (⟨by omega, R7 hp.2 (by omega) (by omega) ((C5 _ _).1 (by with_reducible assumption))⟩) (by omega) (rg 4)
      · have q4 : (B7 (x.kids.getD k bW1) (y.kids.getD k bW1)) = false := (Eq.mp (bW6 _) h4); refine rT G _ h4 (wp_seq (d9 G c3 [] fun G => b5 (wp_ret (m7 (c8 (c8 (m7 (c8 ?_)))))))); exact m5 false G [0, 1] (sx4 (by with_reducible assumption))
    · refine wp_seq (d9 G c3 [] fun G => b5 (wp_ret (c8 ?_))); exact m5 false G [0, 1] (sx3 (by omega))
   · have q1 := bne_iff_ne.1 h1; refine d9 G (z4 (fc h0 (fc h1 fz)) (us [(6, 10, 0), (1011, 1011, 0), (13, 19, 1), (1020, 1020, 1)])) [(26, bA true)] fun G => b5 (rT G true (by kernel_rfl) (wp_seq (d9 G c3 [] fun G => b5 (wp_ret (c8 ?_))))); exact m5 false G [0, 1] (sx2 (by omega))
  · have q0 := bne_iff_ne.1 h0; refine d9 G (z4 (fc h0 (fc (b := true) rfl fz)) (us [(6, 10, 0), (1011, 1011, 0), (13, 19, 1), (1020, 1020, 1)])) [(26, bA true)] fun G => b5 (rT G true (by kernel_rfl) (wp_seq (d9 G c3 [] fun G => b5 (wp_ret (c8 ?_))))); exact m5 false G [0, 1] (sx1 (by omega))
theorem V1 (x : b7) : ∀ (y : b7), d8.ok Tryz.prog (sxC x y) :=
 b7.ind (P := fun x => ∀ (y : b7), d8.ok Tryz.prog (sxC x y)) (fun k n ks ih y => bq1 ⟨k, n, ks⟩ y fun u hu => ih u hu) x
theorem J3 (xs ys : List Int) : d8.ok Tryz.prog (C9 39 [.ref 0, .ref 1] [dI xs, dI ys] (bA (decide (xs = ys)))) := by
  refine t8 26 Tryz.func39 [dI xs, dI ys] [(0, .ref 0), (1, .ref 1)] fun G => ?_; have hl : xs.length ≤ 9223372036854775807 := G.len 0 (d := .ints xs) (by kernel_rfl); refine wp_seq (w3 G c3 [(0, .ref 0), (1, .ref 1), (4, bA false)] fun G => b5 (wp_seq (wp_seq (d9 G c3 [(10, bA ((xs.length : Int) != (ys.length : Int)))] fun G => b5 (rcN G (fun h0 q0 => ?_) fun h0 q0 => ?_)))))
  ·
   refine wp_skip (b5 (wp_seq (wp_seq (w3 G c3 [(0, .ref 0), (1, .ref 1), (4, bA false), (5, iA 0)] fun G => b5 (wp_block ?_))))); refine k8 (κ := Nat) (fun k => k ≤ xs.length ∧ xs.take k = ys.take k) (fun k => xs.length - k) (fun k => [dI xs, dI ys]) (fun k => [(0, .ref 0), (1, .ref 1), (4, bA false), (5, iA k)]) 0 (by simp [h0]) (l7.at G _ _) ?_; clear G; intro k ρ a w hp G; refine wp_seq (wp_seq (d9 G c3 [(14, bA (decide ((k : Int) < xs.length)))] fun G => b5 (I2 G (fun h1 q1 => ?_) fun h1 q1 => ?_)))
   · refine wp_exit (j9 (j9 (j7 (b5 (wp_seq (d9 G c3 [(4, bA true)] fun G => b5 (wp_ret ?_))))))); exact m5 true G [0, 1] (decide_eq_true (X7 hp.2 (by omega) (by omega)))
   ·
    refine wp_skip (b5 (wp_seq (wp_block (wp_seq (T9 G c3 [0, 0, 3, 7, 0, 0, 48, 112, 255] [(25, bA (xs.getD k 0 != ys.getD k 0))] (iX k k xs.length (iX k k ys.length [])) (iK (by omega) (iK (by omega) bX6)) fun G => b5 (rcN G (fun h2 q2 => ?_) fun h2 q2 => ?_))))))
    · refine wp_skip (i9 (b5 (z5 G c3 [(5, iA ((k : Int) + 1))] [wO ((k : Int) + 1)] (o1 (by omega)) fun G => b5 ?_))); exact H3 G (k + 1) (⟨by omega, R7 hp.2 (by omega) (by omega) (by omega)⟩) (by omega) [0, 1]
    · refine wp_seq (d9 G c3 [] fun G => b5 (wp_ret (m7 (c8 (c8 (m7 (c8 ?_))))))); exact m5 false G [0, 1] (by exact decide_eq_false fun e => by subst e; omega)
  · refine wp_seq (d9 G c3 [] fun G => b5 (wp_ret (c8 ?_))); exact m5 false G [0, 1] (by exact decide_eq_false fun e => by subst e; omega)
theorem at7 {s t : b6} (h : ¬ s = t) : F5 s t = false := by
 cases e : F5 s t
 ·rfl
 ·exact absurd ((Y3 s t).1 e) h
theorem bx2 {l m : List b6} (h : ¬ l = m) : p8 l m = false := by
 cases e : p8 l m
 ·rfl
 ·exact absurd ((A5 l m).1 e) h
section
variable {s t : b6} {l m : List b6} {k : Nat}
theorem sr1 (h : ¬ s.kind = t.kind) : F5 s t = false := at7 fun e => h (by rw [e])
theorem sr2 (h : ¬ s.target = t.target) : F5 s t = false := at7 fun e => h (by rw [e])
theorem sr3 (h : ¬ s.count = t.count) : F5 s t = false := at7 fun e => h (by rw [e])
theorem sr4 (h : B7 s.index t.index = false) : F5 s t = false := at7 fun e => by subst e; rw [(C5 _ _).2 rfl] at h; cases h
theorem sr5 (h : B7 s.value t.value = false) : F5 s t = false := at7 fun e => by subst e; rw [(C5 _ _).2 rfl] at h; cases h
theorem sr6 (h : p8 s.body t.body = false) : F5 s t = false := at7 fun e => by subst e; rw [(A5 _ _).2 rfl] at h; cases h
theorem sr7 (h : p8 s.els t.els = false) : F5 s t = false := at7 fun e => by subst e; rw [(A5 _ _).2 rfl] at h; cases h
theorem sr8 (h1 : s.kind = t.kind) (h2 : s.target = t.target) (h3 : s.count = t.count) (h4 : B7 s.index t.index = true) (h5 : B7 s.value t.value = true) (h6 : p8 s.body t.body = true) : F5 s t = p8 s.els t.els := by
 cases e : p8 s.els t.els
 ·exact sr7 e
 ·refine (Y3 _ _).2 ?_
  rw [← b6.eta s, ← b6.eta t, h1, h2, h3, (C5 _ _).1 h4, (C5 _ _).1 h5, (A5 _ _).1 h6, (A5 _ _).1 e]
theorem sb1 (h : ¬ (l.length : Int) = m.length) : p8 l m = false := bx2 fun e => h (by rw [e])
theorem sb2 (h : F5 (l.getD k bW1) (m.getD k bW1) = false) : p8 l m = false := bx2 fun e => by
 subst e
 rw [(Y3 _ _).2 rfl] at h; cases h
theorem sb3 (h3 : (l.length : Int) = m.length) (h : l.take k = m.take k) (hk : l.length ≤ k) : p8 l m = true := (A5 _ _).2 (X7 h hk h3)
end
abbrev sbC (l m : List b6) : d8 := C9 93 [.ref 0, .ref 1] [dT l, dT m] (bA (p8 l m))
abbrev ssC (s t : b6) : d8 := C9 101 [sA s 0, sA t 4] (sS s ++ sS t) (bA (F5 s t))
abbrev ag1 (s : b6) (t : b6) (r0 : List It) : List It := dE s.index.kids :: dE s.value.kids :: dT s.body :: dT s.els :: dE t.index.kids :: dE t.value.kids :: dT t.body :: dT t.els :: r0
theorem bq2 (s t : b6) (ih1 : ∀ (m : List b6), d8.ok Tryz.prog (sbC s.body m)) (ih2 : ∀ (m : List b6), d8.ok Tryz.prog (sbC s.els m)) : d8.ok Tryz.prog (ssC s t) := by
  refine t8 52 Tryz.func101 (ag1 s t []) [(0, sA s 0), (1, sA t 4)] fun G => ?_; refine wp_seq (e5 G c3 [0, 1, 2, 3, 4, 5, 6, 7, 8, 16] (ag1 s t [.box (sL s 0), .box (sL t 4)]) [(2, .ptr 8 0), (3, .ptr 9 0), (4, bA false)] fun G => b5 (wp_seq ?_)); cases h0 : (s.kind == t.kind)
  · have q0 := ne_of_beq_false h0; refine e5 G (z4 (fc h0 (fc (b := false) rfl fz)) (us [(6, 10, 0), (1011, 1011, 0), (13, 17, 1), (1018, 1018, 1), (20, 24, 1), (1025, 1025, 1), (27, 31, 1), (1032, 1032, 1), (34, 38, 1), (1039, 1039, 1), (41, 45, 1), (1046, 1046, 1)])) (rg 8) (ag1 s t []) [(4, bA false)] fun G => b5 (wp_ret ?_); exact m5 false G (rg 8) (sr1 (by omega))
  ·
   have q0 := eq_of_beq h0; cases h1 : (s.target == t.target)
   · have q1 := ne_of_beq_false h1; refine e5 G (z4 (fc h0 (fc h1 (fc (b := false) rfl fz))) (us [(6, 10, 0), (1011, 1011, 0), (13, 17, 1), (1018, 1018, 1), (20, 24, 2), (1025, 1025, 2), (27, 31, 2), (1032, 1032, 2), (34, 38, 2), (1039, 1039, 2), (41, 45, 2), (1046, 1046, 2)])) (rg 8) (ag1 s t []) [(4, bA false)] fun G => b5 (wp_ret ?_); exact m5 false G (rg 8) (sr2 (by omega))
   ·
    have q1 := eq_of_beq h1; cases h2 : (s.count == t.count)
    · have q2 := ne_of_beq_false h2; refine e5 G (z4 (fc h0 (fc h1 (fc h2 (fc (b := false) rfl fz)))) (us [(6, 10, 0), (1011, 1011, 0), (13, 17, 1), (1018, 1018, 1), (20, 24, 2), (1025, 1025, 2), (27, 31, 3), (1032, 1032, 3), (34, 38, 3), (1039, 1039, 3), (41, 45, 3), (1046, 1046, 3)])) (rg 8) (ag1 s t []) [(4, bA false)] fun G => b5 (wp_ret ?_); exact m5 false G (rg 8) (sr3 (by omega))
    ·
     have q2 := eq_of_beq h2; cases h3 : (B7 s.index t.index)
     · refine e5 G (l9 (f6 24 [0, 4] (V1 s.index t.index) l8) (fc h0 (fc h1 (fc h2 (fc h3 (fc (b := false) rfl fz))))) (us [(6, 10, 0), (1011, 1011, 0), (13, 17, 1), (1018, 1018, 1), (20, 24, 2), (1025, 1025, 2), (27, 31, 3), (1032, 1032, 3), (34, 38, 4), (1039, 1039, 4), (41, 45, 4), (1046, 1046, 4)])) (rg 8) (ag1 s t []) [(4, bA false)] fun G => b5 (wp_ret ?_); exact m5 false G (rg 8) (sr4 (by with_reducible assumption))
     ·
      cases h4 : (B7 s.value t.value)
      · refine e5 G (l9 (f6 24 [0, 4] (V1 s.index t.index) (f6 31 [1, 5] (V1 s.value t.value) l8)) (fc h0 (fc h1 (fc h2 (fc h3 (fc h4 (fc (b := false) rfl fz)))))) (us [(6, 10, 0), (1011, 1011, 0), (13, 17, 1), (1018, 1018, 1), (20, 24, 2), (1025, 1025, 2), (27, 31, 3), (1032, 1032, 3), (34, 38, 4), (1039, 1039, 4), (41, 45, 5), (1046, 1046, 5)])) (rg 8) (ag1 s t []) [(4, bA false)] fun G => b5 (wp_ret ?_); exact m5 false G (rg 8) (sr5 (by with_reducible assumption))
      ·
       cases h5 : (p8 s.body t.body)
       · refine e5 G (l9 (f6 24 [0, 4] (V1 s.index t.index) (f6 31 [1, 5] (V1 s.value t.value) (f6 38 [2, 6] (ih1 t.body) l8))) (fc h0 (fc h1 (fc h2 (fc h3 (fc h4 (fc h5 fz)))))) (us [(6, 10, 0), (1011, 1011, 0), (13, 17, 1), (1018, 1018, 1), (20, 24, 2), (1025, 1025, 2), (27, 31, 3), (1032, 1032, 3), (34, 38, 4), (1039, 1039, 4), (41, 45, 5), (1046, 1046, 5)])) (rg 8) (ag1 s t []) [(4, bA false)] fun G => b5 (wp_ret ?_); exact m5 false G (rg 8) (sr6 (by with_reducible assumption))
       · refine e5 G (l9 (f6 24 [0, 4] (V1 s.index t.index) (f6 31 [1, 5] (V1 s.value t.value) (f6 38 [2, 6] (ih1 t.body) (f6 45 [3, 7] (ih2 t.els) l8)))) (fc h0 (fc h1 (fc h2 (fc h3 (fc h4 (fc h5 fz)))))) (us [(6, 10, 0), (1011, 1011, 0), (13, 17, 1), (1018, 1018, 1), (20, 24, 2), (1025, 1025, 2), (27, 31, 3), (1032, 1032, 3), (34, 38, 4), (1039, 1039, 4), (41, 45, 5), (1046, 1046, 5)])) (rg 8) (ag1 s t []) [(4, bA (p8 s.els t.els))] fun G => b5 (wp_ret ?_); exact m5 (p8 s.els t.els) G (rg 8) (sr8 (by omega) (by omega) (by omega) (by with_reducible assumption) (by with_reducible assumption) (by with_reducible assumption))
theorem aG8 (l m : List b6) (ih : ∀ (s : b6), s ∈ l → ∀ (t : b6), d8.ok Tryz.prog (ssC s t)) : d8.ok Tryz.prog (sbC l m) := by
  refine t8 27 Tryz.func93 [dT l, dT m] [(0, .ref 0), (1, .ref 1)] fun G => ?_; have hl : l.length ≤ 9223372036854775807 := G.len 0 (d := .stmts l) (by kernel_rfl); refine wp_seq (w3 G c3 [(0, .ref 0), (1, .ref 1), (4, bA false)] fun G => b5 (wp_seq (wp_seq (d9 G c3 [(10, bA ((l.length : Int) != (m.length : Int)))] fun G => b5 (rcN G (fun h0 q0 => ?_) fun h0 q0 => ?_)))))
  ·
   refine wp_skip (b5 (wp_seq (wp_seq (w3 G c3 [(0, .ref 0), (1, .ref 1), (4, bA false), (5, iA 0)] fun G => b5 (wp_block ?_))))); refine k8 (κ := Nat) (fun k => k ≤ l.length ∧ l.take k = m.take k) (fun k => l.length - k) (fun k => [dT l, dT m]) (fun k => [(0, .ref 0), (1, .ref 1), (4, bA false), (5, iA k)]) 0 (by simp [h0]) (l7.at G _ _) ?_; clear G; intro k ρ a w hp G; refine wp_seq (wp_seq (d9 G c3 [(14, bA (decide ((k : Int) < l.length)))] fun G => b5 (I2 G (fun h1 q1 => ?_) fun h1 q1 => ?_)))
   · refine wp_exit (j9 (j9 (j7 (b5 (wp_seq (d9 G c3 [(4, bA true)] fun G => b5 (wp_ret ?_))))))); exact m5 true G [0, 1] (sb3 (by omega) hp.2 (by omega))
   ·
    refine wp_skip (b5 (wp_seq (wp_block (wp_seq (T9 G (n5 8 [26, 27, 28, 29, 58, 59, 60, 61] (ih (l.getD k bW1) (ai5 (by omega)) (m.getD k bW1))) [0, 0, 3, 7, 0, 0, 48, 112, 255, 511] [(26, .v (.bool !F5 (l.getD k bW1) (m.getD k bW1)))] (iX k k l.length (iX k k m.length [])) (iK (by omega) (iK (by omega) bX6)) fun G => b5 ?_))))); cases h2 : (!F5 (l.getD k bW1) (m.getD k bW1))
    · have q2 : (F5 (l.getD k bW1) (m.getD k bW1)) = true := (Eq.mp (bW7 _) h2); refine rF G _ h2 (wp_skip (i9 (b5 (z5 G c3 [(5, iA ((k : Int) + 1))] [wO ((k : Int) + 1)] (o1 (by omega)) fun G => b5 ?_)))); exact H3 G (k + 1) (⟨by omega, R7 hp.2 (by omega) (by omega) ((Y3 _ _).1 (by with_reducible assumption))⟩) (by omega) [0, 1]
    · have q2 : (F5 (l.getD k bW1) (m.getD k bW1)) = false := (Eq.mp (bW6 _) h2); refine rT G _ h2 (wp_seq (d9 G c3 [] fun G => b5 (wp_ret (m7 (c8 (c8 (m7 (c8 ?_)))))))); exact m5 false G [0, 1] (sb2 (by with_reducible assumption))
  · refine wp_seq (d9 G c3 [] fun G => b5 (wp_ret (c8 ?_))); exact m5 false G [0, 1] (sb1 (by omega))
theorem bB0 (s : b6) : ∀ (t : b6), d8.ok Tryz.prog (ssC s t) :=
 b6.ind (P := fun s => ∀ (t : b6), d8.ok Tryz.prog (ssC s t)) (fun k t i v c b e h1 h2 u => bq2 ⟨k, t, i, v, c, b, e⟩ u (fun m => aG8 b m fun s hs => h1 s hs) fun m => aG8 e m fun s hs => h2 s hs) s
theorem bu5 (l m : List b6) : d8.ok Tryz.prog (sbC l m) := aG8 l m fun s _ => bB0 s
theorem az8 (xs xt : List Int) (l : List b6) (ys yt : List Int) (m : List b6) : d8.ok Tryz.prog (C9 82 [pA 0, pA 3] [dI xs, dI xt, dT l, dI ys, dI yt, dT m] (bA (decide (xs = ys) && (decide (xt = yt) && p8 l m)))) := by
  refine t8 24 Tryz.func82 [dI xs, dI xt, dT l, dI ys, dI yt, dT m] [(0, pA 0), (1, pA 3)] fun G => ?_; refine wp_seq (e5 G c3 [0, 1, 2, 3, 4, 5, 6, 14] [dI xs, dI xt, dT l, dI ys, dI yt, dT m, .box (pL 0), .box (pL 3)] [(2, .ptr 6 0), (3, .ptr 7 0), (4, bA false)] fun G => b5 (wp_seq ?_)); cases h0 : (decide (xs = ys))
  · have q0 := O4 h0; refine e5 G (l9 (f6 4 [0, 3] (J3 xs ys) l8) (fc h0 (fc (b := false) rfl fz)) (us [(6, 10, 0), (1011, 1011, 0), (13, 17, 1), (1018, 1018, 1)])) (rg 6) [dI xs, dI xt, dT l, dI ys, dI yt, dT m] [(4, bA false)] fun G => b5 (wp_ret ?_); exact A3 G (rg 6)
  ·
   have q0 := O3 h0; cases h1 : (decide (xt = yt))
   · have q1 := O4 h1; refine e5 G (l9 (f6 4 [0, 3] (J3 xs ys) (f6 10 [1, 4] (J3 xt yt) l8)) (fc h0 (fc h1 fz)) (us [(6, 10, 0), (1011, 1011, 0), (13, 17, 1), (1018, 1018, 1)])) (rg 6) [dI xs, dI xt, dT l, dI ys, dI yt, dT m] [(4, bA false)] fun G => b5 (wp_ret ?_); exact A3 G (rg 6)
   · have q1 := O3 h1; refine e5 G (l9 (f6 4 [0, 3] (J3 xs ys) (f6 10 [1, 4] (J3 xt yt) (f6 17 [2, 5] (bu5 l m) l8))) (fc h0 (fc h1 fz)) (us [(6, 10, 0), (1011, 1011, 0), (13, 17, 1), (1018, 1018, 1)])) (rg 6) [dI xs, dI xt, dT l, dI ys, dI yt, dT m] [(4, bA (p8 l m))] fun G => b5 (wp_ret ?_); exact A3 G (rg 6)
theorem N7 (vs ars : List Int) (b : List b6) (e : b7) (he : c4 vs.length ars.length 5 e = true) : d8.ok Tryz.prog (C9 68 [pA 0, eA e 3] ([dI vs, dI ars, dT b] ++ eS e) (iA (c6 vs ars 5 e))) := D2 ⟨vs, ars, b⟩ e he
theorem S9 (vs ars : List Int) (b : List b6) (hb : vs.length + ars.length + c9 b ≤ 1048576) : d8.ok Tryz.prog ⟨45, [pA 0], [dI vs, dI ars, dT b], [dI vs, dI ars, dT b, .row 3 (.ints vs), .row 3 (.ints ars), .tree (.stmts b)], oA 3⟩ := bm3 ⟨vs, ars, b⟩ hb
theorem aJ8 (vs ars : List Int) (b : List b6) (hb : c9 b ≤ 1048576) : d8.ok Tryz.prog (C9 44 [pA 0] [dI vs, dI ars, dT b] (.tup [iA (J2 ⟨vs, ars, b⟩ false).1, iA (J2 ⟨vs, ars, b⟩ false).2])) := P8 ⟨vs, ars, b⟩ hb
section
variable {vs ars : List Int} {cx : Int} {s : b6} {d : Nat} {b : Bool}
theorem on1 (k : s.kind = 1) : B2 (vs, ars) s cx = (vs.set s.target.toNat (f9 (f9 (vs.getD s.target.toNat 0) (c6 vs ars 5 s.value)) cx), ars) := if_pos k
theorem on2 (k : s.kind = 2) : B2 (vs, ars) s cx = (vs, ars.set s.target.toNat (f9 (f9 (f9 (ars.getD s.target.toNat 0) (c6 vs ars 5 s.value)) (c6 vs ars 5 s.index)) cx)) := by unfold B2; rw [if_neg (by omega), if_pos k]
theorem on0 {q : D0} (k1 : ¬ s.kind = 1) (k2 : ¬ s.kind = 2) : B2 q s cx = q := by unfold B2; rw [if_neg k1, if_neg k2]
theorem up1 {q : D0} (h1 : s.body = []) (h2 : s.els = []) : upS b (d + 1) q cx s = B2 q s cx := by rw [X5, h1, h2]; rfl
theorem up3 {q : D0} (k : s.kind = 3) : upS true (d + 1) q cx s = s3 true d (s3 true d q (f9 cx (c6 q.1 q.2 5 s.value)) s.body) (f9 cx (c6 (s3 true d q (f9 cx (c6 q.1 q.2 5 s.value)) s.body).1 (s3 true d q (f9 cx (c6 q.1 q.2 5 s.value)) s.body).2 5 s.value)) s.els := by
 rw [X5, on0 (by omega) (by omega)]
 unfold W3
 simp only [if_pos k, if_true]
theorem up4 {q : D0} (k : s.kind = 4) (h2 : s.els = []) : upS b (d + 1) q cx s = s3 b d q cx s.body := by
 rw [X5, on0 (by omega) (by omega), h2]
 unfold W3
 simp only [if_neg (show ¬ s.kind = 3 by omega)]
 rfl
theorem X6 {q : D0} {ss : List b6} {k : Nat} (hk : k < ss.length) : s3 b d q cx (ss.take (k + 1)) = upS b d (s3 b d q cx (ss.take k)) cx (ss.getD k bW1) := by
 unfold s3
 rw [l0 _ _ hk, List.foldl_append, f8 hk]; rfl
theorem ap5 {nv na d k : Nat} {ss : List b6} (hs : ss.all (d7 nv na (d + 1)) = true) (hk : k < ss.length) (k3 : ¬ (ss.getD k bW1).kind = 3) : (ss.getD k bW1).els = [] ∧ (¬ (ss.getD k bW1).kind = 4 → (ss.getD k bW1).body = []) := by
 have h0 := bX0.1 hs _ (bX7 hk)
 rw [← f8 (d := bW1) hk] at h0
 rw [d7, bW2] at h0
 have h1 := h0.1
 unfold j6 at h1
 by_cases k4 : (ss.getD k bW1).kind = 4
 ·rw [if_pos (.inr k4), if_pos k4] at h1
  simp only [bW2, decide_eq_true_eq] at h1
  exact ⟨bY4 h1.2.1.1.1.1, fun h => absurd k4 h⟩
 ·rw [if_neg (by omega)] at h1
  simp only [bW2, decide_eq_true_eq] at h1
  exact ⟨bY4 h1.1.1.2, fun _ => bY4 h1.1.1.1⟩
section
variable {nv na d k : Nat} {ss : List b6} {q : D0} {cx : Int}
theorem rn1 (hs : ss.all (d7 nv na (d + 1)) = true) (hk : k < ss.length) (k1 : (ss.getD k bW1).kind = 1) : s3 true (d + 1) q cx (ss.take (k + 1)) = ((s3 true (d + 1) q cx (ss.take k)).1.set (ss.getD k bW1).target.toNat (f9 (f9 ((s3 true (d + 1) q cx (ss.take k)).1.getD (ss.getD k bW1).target.toNat 0) (c6 (s3 true (d + 1) q cx (ss.take k)).1 (s3 true (d + 1) q cx (ss.take k)).2 5 (ss.getD k bW1).value)) cx), (s3 true (d + 1) q cx (ss.take k)).2) := by
 have h1 := ap5 hs hk (by omega)
 rw [X6 hk, up1 (h1.2 (by omega)) h1.1]
 exact on1 k1
theorem rn2 (hs : ss.all (d7 nv na (d + 1)) = true) (hk : k < ss.length) (k2 : (ss.getD k bW1).kind = 2) : s3 true (d + 1) q cx (ss.take (k + 1)) = ((s3 true (d + 1) q cx (ss.take k)).1, (s3 true (d + 1) q cx (ss.take k)).2.set (ss.getD k bW1).target.toNat (f9 (f9 (f9 ((s3 true (d + 1) q cx (ss.take k)).2.getD (ss.getD k bW1).target.toNat 0) (c6 (s3 true (d + 1) q cx (ss.take k)).1 (s3 true (d + 1) q cx (ss.take k)).2 5 (ss.getD k bW1).value)) (c6 (s3 true (d + 1) q cx (ss.take k)).1 (s3 true (d + 1) q cx (ss.take k)).2 5 (ss.getD k bW1).index)) cx)) := by
 have h1 := ap5 hs hk (by omega)
 rw [X6 hk, up1 (h1.2 (by omega)) h1.1]
 exact on2 k2
theorem rn3 (hk : k < ss.length) (k3 : (ss.getD k bW1).kind = 3) : s3 true (d + 1) q cx (ss.take (k + 1)) = s3 true d (s3 true d (s3 true (d + 1) q cx (ss.take k)) (f9 cx (c6 (s3 true (d + 1) q cx (ss.take k)).1 (s3 true (d + 1) q cx (ss.take k)).2 5 (ss.getD k bW1).value)) (ss.getD k bW1).body) (f9 cx (c6 (s3 true d (s3 true (d + 1) q cx (ss.take k)) (f9 cx (c6 (s3 true (d + 1) q cx (ss.take k)).1 (s3 true (d + 1) q cx (ss.take k)).2 5 (ss.getD k bW1).value)) (ss.getD k bW1).body).1 (s3 true d (s3 true (d + 1) q cx (ss.take k)) (f9 cx (c6 (s3 true (d + 1) q cx (ss.take k)).1 (s3 true (d + 1) q cx (ss.take k)).2 5 (ss.getD k bW1).value)) (ss.getD k bW1).body).2 5 (ss.getD k bW1).value)) (ss.getD k bW1).els := by
 rw [X6 hk, up3 k3]
theorem rn4 (hs : ss.all (d7 nv na (d + 1)) = true) (hk : k < ss.length) (k4 : (ss.getD k bW1).kind = 4) : s3 true (d + 1) q cx (ss.take (k + 1)) = s3 true d (s3 true (d + 1) q cx (ss.take k)) cx (ss.getD k bW1).body := by
 rw [X6 hk, up4 k4 (ap5 hs hk (by omega)).1]
theorem rn0 (hs : ss.all (d7 nv na (d + 1)) = true) (hk : k < ss.length) (k1 : ¬ (ss.getD k bW1).kind = 1) (k2 : ¬ (ss.getD k bW1).kind = 2) (k3 : ¬ (ss.getD k bW1).kind = 3) (k4 : ¬ (ss.getD k bW1).kind = 4) : s3 true (d + 1) q cx (ss.take (k + 1)) = s3 true (d + 1) q cx (ss.take k) := by
 have h1 := ap5 hs hk k3
 rw [X6 hk, up1 (h1.2 k4) h1.1, on0 k1 k2]
theorem bf6 (hk : ss.length ≤ k) : s3 true (d + 1) q cx ss = s3 true (d + 1) q cx (ss.take k) := by rw [bX3 hk]
theorem aG3 {q r : D0} {s : b6} (h : shP q r) (hv : q.1.length = nv) (ha : q.2.length = na) (hh : s9 nv na s = true) (k : ¬ s.kind = 4) : c4 r.1.length r.2.length 5 s.value = true := by rw [h.1, h.2, hv, ha]; exact r8 hh k
theorem bA7 {q r : D0} {s : b6} (h : shP q r) (hv : q.1.length = nv) (ha : q.2.length = na) (hh : s9 nv na s = true) (k : s.kind = 2) : c4 r.1.length r.2.length 5 s.index = true := by rw [h.1, h.2, hv, ha]; exact aw4 hh k
end
end
abbrev raC (vs ars : List Int) (d : Nat) (bd ss : List b6) (cx : Int) : d8 := ⟨81, [pA 0, .ref 3, iA cx], [.row 3 (.ints vs), .row 3 (.ints ars), dT bd, dT ss], [.row 3 (.ints (s3 true d (vs, ars) cx ss).1), .row 3 (.ints (s3 true d (vs, ars) cx ss).2), dT bd, dT ss], .tup []⟩
abbrev X1 (d : Nat) (ss : List b6) (vs : List Int) (ars : List Int) (cx : Int) (k : Nat) := s3 true d (s3 true (d + 1) (vs, ars) cx (bW9 k ss)) (f9 cx (c6 (s3 true (d + 1) (vs, ars) cx (bW9 k ss)).fst (s3 true (d + 1) (vs, ars) cx (bW9 k ss)).snd 5 (ss.getD k bW1).value)) (ss.getD k bW1).body
abbrev m6 (d : Nat) (ss : List b6) (vs : List Int) (ars : List Int) (cx : Int) (k : Nat) := s3 true (d + 1) (vs, ars) cx (bW9 k ss)
abbrev a02 (d : Nat) (ss : List b6) (vs : List Int) (ars : List Int) (cx : Int) (k : Nat) := s3 true d (X1 d ss vs ars cx k) (f9 cx (c6 (X1 d ss vs ars cx k).fst (X1 d ss vs ars cx k).snd 5 (ss.getD k bW1).value)) (ss.getD k bW1).els
abbrev aq9 (cx : Int) (k : Nat) (r0 : List (Nat × AV)) : List (Nat × AV) := (1, .ref 3) :: (2, iA cx) :: (3, .ptr 4 0) :: (6, iA (k : Int)) :: r0
theorem aC4 (nv na d : Nat) (bd ss : List b6) (ih : ∀ (vs ars : List Int) (tt : List b6) (cx : Int), 0 < ss.length → vs.length = nv → ars.length = na → tt.all (d7 nv na d) = true → d8.ok Tryz.prog (raC vs ars d bd tt cx))
    (vs ars : List Int) (cx : Int) (hv : vs.length = nv) (ha : ars.length = na) (hs : ss.all (d7 nv na (d + 1)) = true) : d8.ok Tryz.prog (raC vs ars (d + 1) bd ss cx) := by
  refine t8 94 Tryz.func81 [.row 3 (D.ints vs), .row 3 (D.ints ars), dT bd, dT ss] [(0, pA 0), (1, .ref 3), (2, iA cx)] fun G => ?_; have hlen : ss.length ≤ 9223372036854775807 := G.len 3 (d := .stmts ss) (by kernel_rfl); refine wp_seq (e5 G c3 (rg 5) [.row 3 (D.ints vs), .row 3 (D.ints ars), dT bd, dT ss, .box (pL 0)] [(1, .ref 3), (2, iA cx), (3, .ptr 4 0)] fun G => b5 (wp_seq (w3 G c3 [(1, .ref 3), (2, iA cx), (3, .ptr 4 0), (6, iA 0)] fun G => b5 (wp_block ?_)))); refine k8 (κ := Nat) (fun k => k ≤ ss.length) (fun k => ss.length - k) (fun k => [.row 3 (.ints (s3 true (d + 1) (vs, ars) cx (ss.take k)).1), .row 3 (.ints (s3 true (d + 1) (vs, ars) cx (ss.take k)).2), dT bd, dT ss, .box (pL 0)]) (fun k => [(1, .ref 3), (2, iA cx), (3, .ptr 4 0), (6, iA k)]) 0 (by omega) (l7.at G _ _) ?_; clear G; intro k ρ a w hp G; replace G := l7.at G [.row 3 (D.ints (m6 d ss vs ars cx k).fst), .row 3 (D.ints (m6 d ss vs ars cx k).snd), dT bd, dT ss, .box (pL 0)] (aq9 cx k []); have hsh : shP (vs, ars) (s3 true (d + 1) (vs, ars) cx (ss.take k)) := ae3; refine wp_seq (wp_seq (d9 G c3 [(11, bA (decide ((k : Int) < ss.length)))] fun G => b5 (I2 G (fun h0 q0 => ?_) fun h0 q0 => ?_)))
  · refine wp_exit (j9 (j9 (j7 ?_))); exact bR6 G (rg 4) (by show _ = mR (rg 4) [.row 3 (D.ints (s3 true (d + 1) (vs, ars) cx ss).fst), .row 3 (D.ints (s3 true (d + 1) (vs, ars) cx ss).snd), dT bd, dT ss]; have e1 : ((s3 true (d + 1) (vs, ars) cx ss).fst : List Int) = ((m6 d ss vs ars cx k).fst) := (congrArg Prod.fst (bf6 (by omega))); have e2 : ((s3 true (d + 1) (vs, ars) cx ss).snd : List Int) = ((m6 d ss vs ars cx k).snd) := (congrArg Prod.snd (bf6 (by omega))); (first | rw [e1, e2] | simp only [e1, e2]) <;> rfl)
  ·
   refine wp_skip (b5 (wp_seq (wp_block (wp_seq (L6 G c3 [0, 1, 2, 3, 4, 29, 30, 31, 32, 37] [.row 3 (D.ints (m6 d ss vs ars cx k).fst), .row 3 (D.ints (m6 d ss vs ars cx k).snd), dT bd, dT ss, .box (pL 0), dE (ss.getD k bW1).index.kids, dE (ss.getD k bW1).value.kids, dT (ss.getD k bW1).body, dT (ss.getD k bW1).els, .box (sL (ss.getD k bW1) 5)] (aq9 cx k [(7, .ptr 9 0)]) (iX k k ss.length []) (iK (by omega) bX6) fun G => b5 (wp_seq (d9 G c3 [(19, iA (ss.getD k bW1).kind)] fun G => b5 (wp_block (wp_seq (d9 G c3 [(20, bA ((ss.getD k bW1).kind == 1))] fun G => b5 (I1 G (fun h1 q1 => ?_) fun h1 q1 => ?_)))))))))))
   ·
    refine wp_seq (d9 G c3 [(40, bA ((ss.getD k bW1).kind == 2))] fun G => b5 (I1 G (fun h2 q2 => ?_) fun h2 q2 => ?_))
    ·
     refine wp_seq (d9 G c3 [(65, bA ((ss.getD k bW1).kind == 3))] fun G => b5 (I1 G (fun h3 q3 => ?_) fun h3 q3 => ?_))
     ·
      refine wp_seq (d9 G c3 [(87, bA ((ss.getD k bW1).kind == 4))] fun G => b5 (I1 G (fun h4 q4 => ?_) fun h4 q4 => ?_))
      · refine wp_skip (i9 (i9 (b5 (L6 G c3 (rg 5) [.row 3 (D.ints (m6 d ss vs ars cx k).fst), .row 3 (D.ints (m6 d ss vs ars cx k).snd), dT bd, dT ss, .box (pL 0)] [(1, .ref 3), (2, iA cx), (3, .ptr 4 0), (6, iA ((k : Int) + 1))] [wO ((k : Int) + 1)] (o1 (by omega)) fun G => b5 ?_)))); exact H3 G (k + 1) (by omega) (by omega) (rg 5) (by have e1 : ((s3 true (d + 1) (vs, ars) cx (bW9 (k + 1) ss)).fst : List Int) = ((m6 d ss vs ars cx k).fst) := (congrArg Prod.fst (rn0 hs (by omega) (by omega) (by omega) (by omega) (by omega))); have e2 : ((s3 true (d + 1) (vs, ars) cx (bW9 (k + 1) ss)).snd : List Int) = ((m6 d ss vs ars cx k).snd) := (congrArg Prod.snd (rn0 hs (by omega) (by omega) (by omega) (by omega) (by omega))); (first | rw [e1, e2] | simp only [e1, e2]) <;> rfl)
      · refine e5 G (n5 4 [0, 1, 2, 7] (ih ((m6 d ss vs ars cx k).fst) ((m6 d ss vs ars cx k).snd) ((ss.getD k bW1).body) cx (by omega) (hsh.1.trans hv) (hsh.2.trans ha) ((G6 hs (by omega)).2.1))) (rg 5) [.row 3 (D.ints (s3 true d (m6 d ss vs ars cx k) cx (ss.getD k bW1).body).fst), .row 3 (D.ints (s3 true d (m6 d ss vs ars cx k) cx (ss.getD k bW1).body).snd), dT bd, dT ss, .box (pL 0)] (aq9 cx k []) fun G => i9 (i9 (b5 (z5 G c3 [(6, iA ((k : Int) + 1))] [wO ((k : Int) + 1)] (o1 (by omega)) fun G => b5 ?_))); exact H3 G (k + 1) (by omega) (by omega) (rg 5) (by have e1 : ((s3 true (d + 1) (vs, ars) cx (bW9 (k + 1) ss)).fst : List Int) = ((s3 true d (m6 d ss vs ars cx k) cx (ss.getD k bW1).body).fst) := (congrArg Prod.fst (rn4 hs (by omega) (by omega))); have e2 : ((s3 true (d + 1) (vs, ars) cx (bW9 (k + 1) ss)).snd : List Int) = ((s3 true d (m6 d ss vs ars cx k) cx (ss.getD k bW1).body).snd) := (congrArg Prod.snd (rn4 hs (by omega) (by omega))); (first | rw [e1, e2] | simp only [e1, e2]) <;> rfl)
     · refine wp_seq (F6 G (l9 (f6 7 [0, 1, 2, 6] (d8.lend (N7 ((m6 d ss vs ars cx k).fst) ((m6 d ss vs ars cx k).snd) bd ((ss.getD k bW1).value) (aG3 hsh hv ha (G6 hs (by omega)).1 (by omega))) [.row 3, .row 3]) (f6 9 [0, 1, 2, 7] (ih ((m6 d ss vs ars cx k).fst) ((m6 d ss vs ars cx k).snd) ((ss.getD k bW1).body) (f9 cx (c6 (m6 d ss vs ars cx k).fst (m6 d ss vs ars cx k).snd 5 (ss.getD k bW1).value)) (by omega) (hsh.1.trans hv) (hsh.2.trans ha) ((G6 hs (by omega)).2.1)) l8)) fz []) [0, 0, 2, 0, 0, 0, 32, 112, 248, 511] (rg 10) [.row 3 (D.ints (X1 d ss vs ars cx k).fst), .row 3 (D.ints (X1 d ss vs ars cx k).snd), dT bd, dT ss, .box (pL 0), dE (ss.getD k bW1).index.kids, dE (ss.getD k bW1).value.kids, dT (ss.getD k bW1).body, dT (ss.getD k bW1).els, .box (sL (ss.getD k bW1) 5)] (aq9 cx k [(7, .ptr 9 0)]) fun G => b5 (F6 G (l9 (f6 7 [0, 1, 2, 6] (d8.lend (N7 ((X1 d ss vs ars cx k).fst) ((X1 d ss vs ars cx k).snd) bd ((ss.getD k bW1).value) (aG3 (hsh.trans ae3) hv ha (G6 hs (by omega)).1 (by omega))) [.row 3, .row 3]) (f6 9 [0, 1, 2, 8] (ih ((X1 d ss vs ars cx k).fst) ((X1 d ss vs ars cx k).snd) ((ss.getD k bW1).els) (f9 cx (c6 (X1 d ss vs ars cx k).fst (X1 d ss vs ars cx k).snd 5 (ss.getD k bW1).value)) (by omega) ((hsh.trans ae3).1.trans hv) ((hsh.trans ae3).2.trans ha) ((G6 hs (by omega)).2.2)) l8)) fz []) [0, 0, 2, 0, 0, 0, 32, 112, 248, 511] (rg 5) [.row 3 (D.ints (a02 d ss vs ars cx k).fst), .row 3 (D.ints (a02 d ss vs ars cx k).snd), dT bd, dT ss, .box (pL 0)] (aq9 cx k []) fun G => i9 (i9 (b5 (z5 G c3 [(6, iA ((k : Int) + 1))] [wO ((k : Int) + 1)] (o1 (by omega)) fun G => b5 ?_))))); exact H3 G (k + 1) (by omega) (by omega) (rg 5) (by have e1 : ((s3 true (d + 1) (vs, ars) cx (bW9 (k + 1) ss)).fst : List Int) = ((a02 d ss vs ars cx k).fst) := (congrArg Prod.fst (rn3 (by omega) (by omega))); have e2 : ((s3 true (d + 1) (vs, ars) cx (bW9 (k + 1) ss)).snd : List Int) = ((a02 d ss vs ars cx k).snd) := (congrArg Prod.snd (rn3 (by omega) (by omega))); (first | rw [e1, e2] | simp only [e1, e2]) <;> rfl)
    · refine F0 G (l9 (f6 13 [0, 1, 2, 6] (d8.lend (N7 ((m6 d ss vs ars cx k).fst) ((m6 d ss vs ars cx k).snd) bd ((ss.getD k bW1).value) (aG3 hsh hv ha (G6 hs (by omega)).1 (by omega))) [.row 3, .row 3]) (f6 18 [0, 1, 2, 5] (d8.lend (N7 ((m6 d ss vs ars cx k).fst) ((m6 d ss vs ars cx k).snd) bd ((ss.getD k bW1).index) (bA7 hsh hv ha (G6 hs (by omega)).1 (by omega))) [.row 3, .row 3]) l8)) fz []) [0, 1, 0, 4, 0, 16, 0, 64, 240, 496, 0, 0, 2048, 7168, 16368, 0, 0, 65536, 244736, 524272, 0, 2097136, 4194303, 8388607] (rg 5) [.row 3 (D.ints (m6 d ss vs ars cx k).fst), .row 3 (D.ints ((m6 d ss vs ars cx k).snd.set (ss.getD k bW1).target.toNat (f9 (f9 (f9 ((m6 d ss vs ars cx k).snd.getD (ss.getD k bW1).target.toNat 0) (c6 (m6 d ss vs ars cx k).fst (m6 d ss vs ars cx k).snd 5 (ss.getD k bW1).value)) (c6 (m6 d ss vs ars cx k).fst (m6 d ss vs ars cx k).snd 5 (ss.getD k bW1).index)) cx))), dT bd, dT ss, .box (pL 0)] (aq9 cx k []) (iX ((ss.getD k bW1).target) ((ss.getD k bW1).target.toNat) ((s3 true (d + (1 : Nat)) (vs, ars) cx (bW9 k ss)).snd.length) (iX ((ss.getD k bW1).target) ((ss.getD k bW1).target.toNat) ((s3 true (d + (1 : Nat)) (vs, ars) cx (bW9 k ss)).snd.length) [])) (iK (by have h9 := aw5 (G6 (k := k) hs (by omega)).1 (by omega); have h8 := hsh.2.trans ha; omega) (iK (by have h9 := aw5 (G6 (k := k) hs (by omega)).1 (by omega); have h8 := hsh.2.trans ha; omega) bX6)) fun G => i9 (i9 (b5 (z5 G c3 [(6, iA ((k : Int) + 1))] [wO ((k : Int) + 1)] (o1 (by omega)) fun G => b5 ?_))); exact H3 G (k + 1) (by omega) (by omega) (rg 5) (by have e2 : ((s3 true (d + 1) (vs, ars) cx (bW9 (k + 1) ss)).snd : List Int) = ((m6 d ss vs ars cx k).snd.set (ss.getD k bW1).target.toNat (f9 (f9 (f9 ((m6 d ss vs ars cx k).snd.getD (ss.getD k bW1).target.toNat 0) (c6 (m6 d ss vs ars cx k).fst (m6 d ss vs ars cx k).snd 5 (ss.getD k bW1).value)) (c6 (m6 d ss vs ars cx k).fst (m6 d ss vs ars cx k).snd 5 (ss.getD k bW1).index)) cx)) := (congrArg Prod.snd (rn2 hs (by omega) (by omega))); have h9 := rn2 (q := (vs, ars)) (cx := cx) hs (show k < _ by omega) (by omega); rw [e2, h9] <;> rfl)
   · refine F0 G (n5 13 [0, 1, 2, 6] (d8.lend (N7 ((m6 d ss vs ars cx k).fst) ((m6 d ss vs ars cx k).snd) bd ((ss.getD k bW1).value) (aG3 hsh hv ha (G6 hs (by omega)).1 (by omega))) [.row 3, .row 3])) [0, 1, 0, 4, 0, 16, 0, 64, 240, 496, 0, 0, 2048, 7168, 16368, 0, 65520, 131071, 262143] (rg 5) [.row 3 (D.ints ((m6 d ss vs ars cx k).fst.set (ss.getD k bW1).target.toNat (f9 (f9 ((m6 d ss vs ars cx k).fst.getD (ss.getD k bW1).target.toNat 0) (c6 (m6 d ss vs ars cx k).fst (m6 d ss vs ars cx k).snd 5 (ss.getD k bW1).value)) cx))), .row 3 (D.ints (m6 d ss vs ars cx k).snd), dT bd, dT ss, .box (pL 0)] (aq9 cx k []) (iX ((ss.getD k bW1).target) ((ss.getD k bW1).target.toNat) ((s3 true (d + (1 : Nat)) (vs, ars) cx (bW9 k ss)).fst.length) (iX ((ss.getD k bW1).target) ((ss.getD k bW1).target.toNat) ((s3 true (d + (1 : Nat)) (vs, ars) cx (bW9 k ss)).fst.length) [])) (iK (by have h9 := aw3 (G6 (k := k) hs (by omega)).1 (by omega); have h8 := hsh.1.trans hv; omega) (iK (by have h9 := aw3 (G6 (k := k) hs (by omega)).1 (by omega); have h8 := hsh.1.trans hv; omega) bX6)) fun G => i9 (i9 (b5 (z5 G c3 [(6, iA ((k : Int) + 1))] [wO ((k : Int) + 1)] (o1 (by omega)) fun G => b5 ?_))); exact H3 G (k + 1) (by omega) (by omega) (rg 5) (by have e1 : ((s3 true (d + 1) (vs, ars) cx (bW9 (k + 1) ss)).fst : List Int) = ((m6 d ss vs ars cx k).fst.set (ss.getD k bW1).target.toNat (f9 (f9 ((m6 d ss vs ars cx k).fst.getD (ss.getD k bW1).target.toNat 0) (c6 (m6 d ss vs ars cx k).fst (m6 d ss vs ars cx k).snd 5 (ss.getD k bW1).value)) cx)) := (congrArg Prod.fst (rn1 hs (by omega) (by omega))); have h9 := rn1 (q := (vs, ars)) (cx := cx) hs (show k < _ by omega) (by omega); rw [e1, h9] <;> rfl)
theorem aX9 (nv na : Nat) (bd : List b6) : ∀ (d : Nat) (vs ars : List Int) (ss : List b6) (cx : Int), vs.length = nv → ars.length = na → ss.all (d7 nv na d) = true → d8.ok Tryz.prog (raC vs ars d bd ss cx) := by
 intro d
 induction d with
 | zero =>
  intro vs ars ss cx hv ha hs
  have h0 : ss = [] := by
   cases ss with
   | nil => rfl
   | cons a r => simp [d7] at hs
  subst h0
  exact aC4 nv na 0 bd [] (fun _ _ _ _ h => absurd h (by simp)) vs ars cx hv ha rfl
 | succ d ih => intro vs ars ss cx hv ha hs; exact aC4 nv na d bd ss (fun vs ars tt cx _ h1 h2 h3 => ih vs ars tt cx h1 h2 h3) vs ars cx hv ha hs
theorem aX8 (vs ars : List Int) (b : List b6) (hs : b.all (d7 vs.length ars.length 5) = true) : d8.ok Tryz.prog ⟨81, [pA 0, .ref 2, iA 0], [.row 3 (.ints vs), .row 3 (.ints ars), dT b], [.row 3 (.ints (s3 true 5 (vs, ars) 0 b).1), .row 3 (.ints (s3 true 5 (vs, ars) 0 b).2), dT b], .tup []⟩ :=
 d8.dup (S := [.row 3 (.ints vs), .row 3 (.ints ars), dT b]) (S' := [.row 3 (.ints (s3 true 5 (vs, ars) 0 b).1), .row 3 (.ints (s3 true 5 (vs, ars) 0 b).2), dT b]) (d := .stmts b) (i := 2) (aX9 _ _ b 5 vs ars b 0 rfl rfl hs) rfl rfl rfl (fun ρ h => by simp only [AV.vals, AV.val]; rw [show ρ 3 = ρ 2 from h]) rfl
def okI (p : b8) : Bool := e6 p && decide ((J2 ⟨(al6 p).1, (al6 p).2, p.body⟩ false).1 = 0)
def W4 (p : b8) : b8 := if okI p = true then ⟨(al6 p).1, (al6 p).2, p.body⟩ else ⟨[], [], []⟩
theorem au4 {p : b8} (h : e6 p = true) : p.vars.length + p.arrays.length ≤ 14 := by
 unfold e6 x7 at h
 simp only [bW2, decide_eq_true_eq] at h
 omega
section
variable {p : b8} {q : D0} {b : List b6} {X : D0}
theorem R9 (h : (decide (X.1 = q.1) && (decide (X.2 = q.2) && p8 b b)) = true) : X = q := by
 simp only [bW2, decide_eq_true_eq] at h
 exact Prod.ext h.1 h.2.1
theorem aU8 (h : (decide (X.1 = q.1) && (decide (X.2 = q.2) && p8 b b)) = false) : ¬ X = q := fun e => by
 subst e
 rw [(A5 b b).2 rfl] at h
 simp at h
theorem bj6 {f : Bool} (hp : e6 p = true) (h : W7 p.body (p.vars, p.arrays) q) (hne : ¬ s3 f 5 q 0 p.body = q) : 100 - az2 (s3 f 5 q 0 p.body) < 100 - az2 q := by
 have h1 := aa7 (f := f) h
 have h2 := a21 ae3 h.2.1 h1.2.1 as8 hne
 have h3 := aM0 h1.2.1
 have h4 := au4 hp
 rw [h1.1.1, h1.1.2] at h3
 simp only at h3
 omega
theorem bs7 (hb : p.size ≤ 1048576) (h : W7 p.body (p.vars, p.arrays) q) : q.1.length + q.2.length + c9 p.body ≤ 1048576 := by
 have h1 := h.1.1
 have h2 := h.1.2
 unfold b8.size at hb
 simp only at h1 h2
 omega
theorem a88 (hp : e6 p = true) (h : W7 p.body (p.vars, p.arrays) q) : p.body.all (d7 q.1.length q.2.length 5) = true := by
 rw [h.1.1, h.1.2]; exact (al3 hp).1
theorem bh1 (h : e6 p = false) : okI p = false := by unfold okI; rw [h]; rfl
theorem bh2 (hp : e6 p = true) (h : W7 p.body (p.vars, p.arrays) q) (hf : s3 true 5 q 0 p.body = q) : okI p = decide ((J2 ⟨q.1, q.2, p.body⟩ false).1 = 0) := by
 unfold okI; rw [hp, a47 hp (au4 hp) h hf]; rfl
theorem a46 (h : okI p = false) : W4 p = ⟨[], [], []⟩ := by unfold W4; rw [h]; rfl
theorem bs9 (hp : e6 p = true) (h : W7 p.body (p.vars, p.arrays) q) (hf : s3 true 5 q 0 p.body = q) (hk : okI p = true) : W4 p = ⟨q.1, q.2, p.body⟩ := by unfold W4; rw [hk, a47 hp (au4 hp) h hf]; rfl
theorem bK1 (hp : e6 p = true) (h : W7 p.body (p.vars, p.arrays) q) (hf : s3 true 5 q 0 p.body = q) (hc : (J2 ⟨q.1, q.2, p.body⟩ false).1 = 0) : okI p = true := by rw [bh2 hp h hf]; exact decide_eq_true hc
theorem bK2 (hp : e6 p = true) (h : W7 p.body (p.vars, p.arrays) q) (hf : s3 true 5 q 0 p.body = q) (hc : ¬ (J2 ⟨q.1, q.2, p.body⟩ false).1 = 0) : okI p = false := by rw [bh2 hp h hf]; exact decide_eq_false hc
end
abbrev aA6 (p : b8) : List It := [dI p.vars, dI p.arrays, dT p.body, .row 3 (D.ints (W4 p).vars), .row 3 (D.ints (W4 p).arrays), .tree (D.stmts (W4 p).body)]
abbrev an1 : It := .box [.v (.slice none 0 0), .v (.slice none 0 0), .v (.slice none 0 0)]
abbrev ar7 : It := .box [.ref 4, .ref 5, .tref 6]
abbrev ag0 (p : b8) (q : D0) (r0 : List It) : List It := .row 3 (D.ints q.fst) :: .row 3 (D.ints q.snd) :: .tree (D.stmts p.body) :: r0
abbrev X0 (r0 : List (Nat × AV)) : List (Nat × AV) := (2, .ptr 3 0) :: (3, bA false) :: (4, .ptr 7 0) :: r0
abbrev K2 (p : b8) (r0 : List It) : List It := dI p.vars :: dI p.arrays :: dT p.body :: r0
theorem az9 (p : b8) (hb : p.size ≤ 1048576) : d8.ok Tryz.prog ⟨58, [pA 0], pS p, pS p ++ oP (W4 p), .tup [oA 3, bA (okI p)]⟩ := by
  refine t8 33 Tryz.func58 (K2 p []) [(0, pA 0)] fun G => ?_
  have hb1 : p.vars.length ≤ 1048576 ∧ p.arrays.length ≤ 1048576 ∧ c9 p.body ≤ 1048576 := by unfold b8.size at hb; omega
  refine wp_seq (e5 G c3 [0, 1, 2, 3, 11] (K2 p [.box (pL 0), an1]) [(1, .ptr 3 0), (2, .ptr 4 0), (3, bA false)] fun G => b5 (wp_seq (wp_seq (d9 G (n5 1 [0, 1, 2] (O0 p (by omega))) [(10, .v (.bool !e6 p))] fun G => b5 ?_)))); cases h0 : (!e6 p)
  ·
   have q0 : (e6 p) = true := (Eq.mp (bW7 _) h0); refine rF G _ h0 (wp_skip (b5 (wp_seq (e5 G (n5 1 [0, 1, 2] (S9 p.vars p.arrays p.body (by assumption))) [0, 1, 2, 4, 13, 14, 15, 21] (K2 p [an1, .row 3 (D.ints p.vars), .row 3 (D.ints p.arrays), .tree (D.stmts p.body), ar7]) (X0 []) fun G => b5 (wp_seq (wp_block ?_)))))); refine k8 (κ := D0) (fun q => W7 p.body (p.vars, p.arrays) q) (fun q => 100 - az2 q) (fun q => (K2 p [an1, .row 3 (.ints q.1), .row 3 (.ints q.2), .tree (D.stmts p.body), ar7])) (fun q => (X0 [])) ((p.vars, p.arrays)) (af2 (aI7 (by with_reducible assumption))) (l7.at G _ _) ?_; clear G; intro q ρ a w hp G; replace G := l7.at G (K2 p (an1 :: (ag0 p q [ar7]))) (X0 []); refine wp_block (wp_seq (e5 G (n5 1 [4, 5, 6] (d8.lend (S9 q.fst q.snd p.body (bs7 hb (by with_reducible assumption))) [.row 3, .row 3, .tree])) [0, 1, 2, 3, 4, 5, 6, 7, 16, 17, 18, 24] (K2 p (an1 :: (ag0 p q (ar7 :: (ag0 p q [.box [.ref 8, .ref 9, .tref 10]]))))) (X0 [(5, .ptr 11 0)]) fun G => b5 (wp_seq (e5 G (n5 3 [8, 9, 10] (d8.lend (aX8 q.fst q.snd p.body (a88 (by with_reducible assumption) (by with_reducible assumption))) [.no, .no, .tree])) (rg 12) (K2 p (an1 :: (ag0 p q [ar7, .row 3 (D.ints (s3 true 5 q 0 p.body).fst), .row 3 (D.ints (s3 true 5 q 0 p.body).snd), .tree (D.stmts p.body), .box [.ref 8, .ref 9, .tref 10]]))) (X0 [(5, .ptr 11 0)]) fun G => b5 (wp_seq (wp_seq (w3 G (n5 2 [8, 9, 10, 4, 5, 6] (d8.lend (az8 ((s3 true 5 q 0 p.body).fst) ((s3 true 5 q 0 p.body).snd) p.body q.fst q.snd p.body) [.row 3, .row 3, .tree, .row 3, .row 3, .tree])) (X0 [(5, .ptr 11 0), (22, bA (decide ((s3 true 5 q 0 p.body).fst = q.fst) && (decide ((s3 true 5 q 0 p.body).snd = q.snd) && p8 p.body p.body)))]) fun G => b5 ?_))))))); cases h1 : (decide ((s3 true (5 : Nat) q (0 : Int) p.body).fst = q.fst) && (decide ((s3 true (5 : Nat) q (0 : Int) p.body).snd = q.snd) && p8 p.body p.body))
   · have q1 : (¬ ((s3 true 5 q 0 p.body).fst = q.fst)) ∨ ((¬ ((s3 true 5 q 0 p.body).snd = q.snd)) ∨ ((p8 p.body p.body) = false)) := Or.imp (fun hq => of_decide_eq_false hq) (fun hq => Or.imp (fun hq => of_decide_eq_false hq) (fun hq => (hq)) (bY6.1 hq)) (bY6.1 h1); refine rF G _ h1 (wp_skip (b5 (e5 G c3 [0, 1, 2, 3, 7, 8, 9, 10] (K2 p [an1, .box [.ref 5, .ref 6, .tref 7], .row 3 (D.ints (s3 true 5 q 0 p.body).fst), .row 3 (D.ints (s3 true 5 q 0 p.body).snd), .tree (D.stmts p.body)]) [(2, .ptr 3 0), (3, bA false), (4, .ptr 4 0)] fun G => i9 (b5 ?_)))); exact H3 G (s3 true 5 q 0 p.body) (aa7 (by with_reducible assumption)) (bj6 (by with_reducible assumption) (by with_reducible assumption) (aU8 (by with_reducible assumption))) [0, 1, 2, 3, 5, 6, 7, 4]
   ·
    have q1 : ((s3 true 5 q 0 p.body).fst = q.fst) ∧ (((s3 true 5 q 0 p.body).snd = q.snd) ∧ ((p8 p.body p.body) = true)) := And.imp (fun hq => of_decide_eq_true hq) (fun hq => And.imp (fun hq => of_decide_eq_true hq) (fun hq => (hq)) (bY8.1 hq)) (bY8.1 h1); refine rT G _ h1 (wp_exit (j9 ?_)); refine bv2 (by kernel_rfl) ?_; refine j9 (j7 (b5 (wp_seq (e5 G (n5 1 [4, 5, 6] (d8.lend (aJ8 q.fst q.snd p.body (by omega)) [.row 3, .row 3, .tree])) (rg 8) (K2 p (an1 :: (ag0 p q [ar7]))) (X0 [(6, iA (J2 (b8.mk q.fst q.snd p.body) false).fst)]) fun G => b5 (wp_seq (wp_seq (d9 G c3 [(30, bA ((J2 (b8.mk q.fst q.snd p.body) false).fst != 0))] fun G => b5 (rcN G (fun h2 q2 => ?_) fun h2 q2 => ?_))))))))
    · refine wp_skip (b5 (wp_seq (e5 G c3 (rg 7) (K2 p (ar7 :: (ag0 p q []))) [(2, .ptr 3 0), (3, bA true)] fun G => b5 (wp_ret ?_)))); exact M0 (.tup [.agg [.ref 4, .ref 5, .tref 6], bA true]) G [0, 1, 2, 4, 5, 6] (by have e1 : (okI p : Bool) = (true) := (bK1 (by with_reducible assumption) (by with_reducible assumption) (R9 (by with_reducible assumption)) (by with_reducible assumption)); (first | rw [e1] | simp only [e1]) <;> rfl) (by show _ = mR [0, 1, 2, 4, 5, 6] (aA6 p); unfold aA6; rw [bs9 (by with_reducible assumption) (by with_reducible assumption) (R9 (by with_reducible assumption)) (bK1 (by with_reducible assumption) (by with_reducible assumption) (R9 (by with_reducible assumption)) (by with_reducible assumption))] <;> rfl)
    · refine wp_seq (w3 G c3 (X0 []) fun G => b5 (wp_ret (c8 ?_))); obtain ⟨ρ, G⟩ := G.nil 8 3 (.ints []) 1 (K2 p (.box [.ref 8, .v (.slice none 0 0), .v (.slice none 0 0)] :: (ag0 p q [.box [.ref 4, .ref 5, .tref 6]]))) (X0 []); obtain ⟨ρ, G⟩ := G.nil 9 3 (.ints []) 1 (K2 p (.box [.ref 8, .ref 9, .v (.slice none 0 0)] :: (ag0 p q [.box [.ref 4, .ref 5, .tref 6], .row 3 (D.ints [])]))) (X0 []); obtain ⟨ρ, G⟩ := G.nilT 10 (.stmts []) (K2 p (.box [.ref 8, .ref 9, .tref 10] :: (ag0 p q [.box [.ref 4, .ref 5, .tref 6], .row 3 (D.ints []), .row 3 (D.ints [])]))) (X0 []); exact M0 (.tup [.agg [.ref 8, .ref 9, .tref 10], bA false]) G [0, 1, 2, 8, 9, 10] (by have e1 : (okI p : Bool) = (false) := (bK2 (by with_reducible assumption) (by with_reducible assumption) (R9 (by with_reducible assumption)) (by with_reducible assumption)); (first | rw [e1] | simp only [e1]) <;> rfl) (by show _ = mR [0, 1, 2, 8, 9, 10] (aA6 p); unfold aA6; rw [a46 (bK2 (by with_reducible assumption) (by with_reducible assumption) (R9 (by with_reducible assumption)) (by with_reducible assumption))] <;> rfl)
  · have q0 : (e6 p) = false := (Eq.mp (bW6 _) h0); refine rT G _ h0 (wp_seq (w3 G c3 [(1, .ptr 3 0), (2, .ptr 4 0), (3, bA false)] fun G => b5 (wp_ret (c8 ?_)))); obtain ⟨ρ, G⟩ := G.nil 5 3 (.ints []) 1 (K2 p [.box (pL 0), .box [.ref 5, .v (.slice none 0 0), .v (.slice none 0 0)]]) [(1, .ptr 3 0), (2, .ptr 4 0), (3, bA false)]; obtain ⟨ρ, G⟩ := G.nil 6 3 (.ints []) 1 (K2 p [.box (pL 0), .box [.ref 5, .ref 6, .v (.slice none 0 0)], .row 3 (D.ints [])]) [(1, .ptr 3 0), (2, .ptr 4 0), (3, bA false)]; obtain ⟨ρ, G⟩ := G.nilT 7 (.stmts []) (K2 p [.box (pL 0), .box [.ref 5, .ref 6, .tref 7], .row 3 (D.ints []), .row 3 (D.ints [])]) [(1, .ptr 3 0), (2, .ptr 4 0), (3, bA false)]; exact M0 (.tup [.agg [.ref 5, .ref 6, .tref 7], bA false]) G [0, 1, 2, 5, 6, 7] (by have e1 : (okI p : Bool) = (false) := (bh1 (by with_reducible assumption)); (first | rw [e1] | simp only [e1]) <;> rfl) (by show _ = mR [0, 1, 2, 5, 6, 7] (aA6 p); unfold aA6; rw [a46 (bh1 (by with_reducible assumption))] <;> rfl)
abbrev V7 : List Int := [3] ++ ([4] ++ ([2] ++ ([5] ++ [])))
abbrev viL : List Int := [0] ++ ([1] ++ ([0] ++ ([1] ++ ([2] ++ ([3] ++ [])))))
abbrev T4 : List Int := [1] ++ ([2] ++ ([0] ++ ([1] ++ [])))
abbrev aiL : List Int := [0] ++ ([1] ++ ([0] ++ ([1] ++ ([3] ++ []))))
abbrev nbL : List Int := [2] ++ ([3] ++ ([1] ++ ([4] ++ [])))
def nsD (b : List UInt8) (l : List Int) (n : Nat) (k : Int) : List Int := (bY1 n).map fun (i : Nat) => nm b (k + (i : Int)) l
theorem aa4 (b : List UInt8) (l : List Int) (n : Nat) (k : Int) : (nsD b l n k).length = n := by simp [nsD]
theorem bh3 (b : List UInt8) (l : List Int) (n : Nat) (k : Int) : nsD b l (n + 1) k = nsD b l n k ++ [nm b (k + (n : Int)) l] := by
 unfold nsD; rw [List.range_succ, List.map_append]; rfl
def A6 (b : List UInt8) (k : Int) : Int := k + 1 + nm b k V7
def kp2 (b : List UInt8) (k : Int) : Int := A6 b k + 1 + nm b (A6 b k) T4
def Z9 (b : List UInt8) (k : Int) : List Int := nsD b viL (nm b k V7).toNat (k + 1)
def asD (b : List UInt8) (k : Int) : List Int := nsD b aiL (nm b (A6 b k) T4).toNat (A6 b k + 1)
def T2 (b : List UInt8) (k : Int) : List b6 × Int := z8 (t7 b (Z9 b k).length (asD b k).length 3) (nm b (kp2 b k) nbL).toNat (kp2 b k + 1)
def rwD (b : List UInt8) (k : Int) : b8 := ⟨Z9 b k, asD b k, (T2 b k).1⟩
def fbP : b8 := ⟨[0, 1], [], [⟨1, 1, noE, ⟨2, 0, []⟩, 0, [], []⟩]⟩
def pgD (b : List UInt8) (k : Int) : b8 := if e6 (rwD b k) = true then rwD b k else fbP
section
variable (b : List UInt8) {k : Int}
theorem bC3 (hk : 0 ≤ k) (hk2 : k ≤ 1000000000) : 0 ≤ nm b k V7 ∧ nm b k V7 ≤ 5 := aC6 b (by simp) (by simp) hk hk2
theorem bK6 (hk : 0 ≤ k) (hk2 : k ≤ 1000000000) : 0 ≤ nm b k nbL ∧ nm b k nbL ≤ 4 := aC6 b (by simp) (by simp) hk hk2
theorem bC6 (hk : 0 ≤ k) (hk2 : k ≤ 1000000000) : 0 ≤ nm b k T4 ∧ nm b k T4 ≤ 2 := aC6 b (by simp) (by simp) hk hk2
theorem bi5 (hk : 0 ≤ k) (hk2 : k ≤ 10000000) : k + 1 ≤ A6 b k ∧ A6 b k ≤ k + 6 := by
 have := bC3 b hk (by omega); unfold A6; omega
theorem a44 (hk : 0 ≤ k) (hk2 : k ≤ 10000000) : k + 2 ≤ kp2 b k ∧ kp2 b k ≤ k + 9 := by
 have h1 := bi5 b hk hk2
 have := bC6 b (k := A6 b k) (by omega) (by omega); unfold kp2; omega
theorem cS3 : cS 3 = 34170 ∧ cS 2 = 8442 := by decide
theorem bV6 (nv na : Nat) : Drw (t7 b nv na 3) 34170 := fun j h1 h2 => by
 have e := cS3.1
 have h3 := aM3 b nv na 3 j h1 (by omega)
 have h4 := aU3 b nv na 3 j h1 (by omega)
 omega
theorem a63 (hk : 0 ≤ k) (hk2 : k ≤ 10000000) : kp2 b k ≤ (T2 b k).2 ∧ (T2 b k).2 ≤ k + 150000 ∧ c9 (T2 b k).1 ≤ 150000 := by
 have h1 := a44 b hk hk2
 have h2 := bK6 b (k := kp2 b k) (by omega) (by omega)
 have h3 := aJ0 (f := t7 b (Z9 b k).length (asD b k).length 3) (by omega) (bV6 b _ _) (nm b (kp2 b k) nbL).toNat (kp2 b k + 1) (by omega) (by omega)
 unfold T2
 omega
theorem bc3 (hk : 0 ≤ k) (hk2 : k ≤ 10000000) : (Z9 b k).length ≤ 5 := by
 have := bC3 b hk (by omega); unfold Z9; rw [aa4]; omega
theorem bn3 (hk : 0 ≤ k) (hk2 : k ≤ 10000000) : (asD b k).length ≤ 2 := by
 have h1 := bi5 b hk hk2
 have := bC6 b (k := A6 b k) (by omega) (by omega); unfold asD; rw [aa4]; omega
theorem bg3 (hk : 0 ≤ k) (hk2 : k ≤ 10000000) : (pgD b k).size ≤ 160000 := by
 have h1 := a63 b hk hk2
 have h2 := bc3 b hk hk2
 have h3 := bn3 b hk hk2
 unfold pgD; split
 ·show (Z9 b k).length + (asD b k).length + c9 (T2 b k).1 ≤ 160000
  omega
 ·decide
end
abbrev m2L : List Int := [0] ++ ([6] ++ ([1] ++ ([5] ++ ([2] ++ []))))
abbrev m3L : List Int := [-1] ++ ([12] ++ ([1] ++ ([9223372036854775807] ++ [])))
abbrev m4L : List Int := [-1] ++ ([256] ++ ([12] ++ ([1] ++ [])))
abbrev m5L : List Int := [1] ++ ([4] ++ ([-1] ++ ([2] ++ [])))
def kdS (s : b6) (x : Int) : b6 := ⟨x, s.target, s.index, s.value, s.count, s.body, s.els⟩
def tgS (s : b6) (x : Int) : b6 := ⟨s.kind, x, s.index, s.value, s.count, s.body, s.els⟩
def vvS (s : b6) (x : Int) : b6 := ⟨s.kind, s.target, s.index, ⟨s.value.kind, x, s.value.kids⟩, s.count, s.body, s.els⟩
def ctS (s : b6) (x : Int) : b6 := ⟨s.kind, s.target, s.index, s.value, x, s.body, s.els⟩
def Q7 (b : List UInt8) (p : b8) (k : Int) : b8 × Int :=
 if pk b k 60 = 0 then (if 0 < p.vars.length then (⟨p.vars.set 0 (l1D b (k + 1)), p.arrays, p.body⟩, k + 1 + 2) else (p, k + 1))
 else if pk b k 60 = 1 then (⟨p.vars ++ bW8 (13 - p.vars.length) 1, p.arrays, p.body⟩, k + 1)
 else if pk b k 60 = 2 then (if 0 < p.body.length then (⟨p.vars, p.arrays, p.body.set 0 (kdS (p.body.getD 0 bW1) (nm b (k + 1) m2L))⟩, k + 1 + 1) else (p, k + 1))
 else if pk b k 60 = 3 then (if 0 < p.body.length then (⟨p.vars, p.arrays, p.body.set ((p.body.length : Int) - 1).toNat (tgS (p.body.getD ((p.body.length : Int) - 1).toNat bW1) (nm b (k + 1) m3L))⟩, k + 1 + 1) else (p, k + 1))
 else if pk b k 60 = 4 then (if 0 < p.body.length then (⟨p.vars, p.arrays, p.body.set 0 (vvS (p.body.getD 0 bW1) (nm b (k + 1) m4L))⟩, k + 1 + 1) else (p, k + 1))
 else if pk b k 60 = 5 then (if 0 < p.body.length then (⟨p.vars, p.arrays, p.body.set 0 (ctS (p.body.getD 0 bW1) (nm b (k + 1) m5L))⟩, k + 1 + 1) else (p, k + 1))
 else if pk b k 60 = 6 then (⟨[], [], []⟩, k + 1)
 else (p, k + 1)
theorem bd0 {l : List b6} {i : Nat} {s : b6} (h : B6 s ≤ B6 (l.getD i bW1)) : c9 (l.set i s) ≤ c9 l := by
 induction l generalizing i with
 | nil => simp [c9]
 | cons a r ih =>
  cases i with
  | zero => simp only [List.set_cons_zero, c9]; simp at h; omega
  | succ i =>
   simp only [List.set_cons_succ, c9]
   have := ih (i := i) (by simpa using h)
   omega
theorem bD1 (s : b6) (x : Int) : B6 (kdS s x) = B6 s := by cases s; rfl
theorem bA2 (s : b6) (x : Int) : B6 (tgS s x) = B6 s := by cases s; rfl
theorem bA1 (s : b6) (x : Int) : B6 (vvS s x) = B6 s := by obtain ⟨_, _, _, ⟨_, _, _⟩, _, _, _⟩ := s; rfl
theorem bE7 (s : b6) (x : Int) : B6 (ctS s x) = B6 s := by cases s; rfl
theorem aI0 (b : List UInt8) (p : b8) (k : Int) : (Q7 b p k).1.size ≤ p.size + 13 ∧ k ≤ (Q7 b p k).2 ∧ (Q7 b p k).2 ≤ k + 3 := by
 have hs : ∀ i s, B6 s = B6 (p.body.getD i bW1) → c9 (p.body.set i s) ≤ c9 p.body := fun i s h => bd0 (by omega)
 have h2 := hs 0 _ (bD1 (p.body.getD 0 bW1) (nm b (k + 1) m2L))
 have h3 := hs ((p.body.length : Int) - 1).toNat _ (bA2 (p.body.getD ((p.body.length : Int) - 1).toNat bW1) (nm b (k + 1) m3L))
 have h4 := hs 0 _ (bA1 (p.body.getD 0 bW1) (nm b (k + 1) m4L))
 have h5 := hs 0 _ (bE7 (p.body.getD 0 bW1) (nm b (k + 1) m5L))
 unfold Q7
 simp only [b8.size]
 (repeat' split) <;> (simp only [List.length_set, bX5, List.length_replicate, bY9, c9]; omega)
def J7 (b : List UInt8) (k : Int) : b8 := if pk b (T2 b k).2 4 = 0 then pgD b k else if okI (pgD b k) = true then W4 (pgD b k) else pgD b k
theorem bs8 {p : b8} : (W4 p).size ≤ p.size := by
 unfold W4
 split
 ·have h := (aw1 (p := p) (by rename_i h; unfold okI at h; simp at h; exact h.1)).1
  show (al6 p).1.length + (al6 p).2.length + c9 p.body ≤ _
  unfold b8.size
  have h1 : (al6 p).1.length = p.vars.length := h.1
  have h2 : (al6 p).2.length = p.arrays.length := h.2
  omega
 ·simp [b8.size, c9]
theorem aT6 (b : List UInt8) {k : Int} (hk : 0 ≤ k) (hk2 : k ≤ 10000000) : (J7 b k).size ≤ 160000 := by
 have h1 := bg3 b hk hk2
 have h2 := bs8 (p := pgD b k)
 unfold J7
 (repeat' split) <;> omega
def bsD (c : List UInt8) : List UInt8 := c.take 2000
abbrev vaL : List Int := [0] ++ ([1] ++ ([2] ++ ([3] ++ ([255] ++ ([128] ++ ([7] ++ ([4] ++ ([100] ++ []))))))))
def ptD (b : List UInt8) (j : Int) (nv na : Nat) (at0 n : Int) (kd : UInt8) : Int :=
 if kd = 114 then pk b j 3 else if kd = 99 then nm b j vaL else if kd = 118 then pk b j nv else if kd = 97 then pk b j na else if kd = 111 then 4 + pk b j 7 else at0 + 1 + pk b j (n - at0 - 1)
def psD (b : List UInt8) (j : Int) (nv na : Nat) (at0 n : Int) (ks : List UInt8) (k : Nat) : List Int := (bY1 4).map fun i => if i < k then ptD b (j + i) nv na at0 n (ks.getD i 0) else 0
theorem a30 (b : List UInt8) (j : Int) (nv na : Nat) (at0 n : Int) (ks : List UInt8) (k : Nat) : (psD b j nv na at0 n ks k).length = 4 := by simp [psD]
theorem bg1 (b : List UInt8) (j : Int) (nv na : Nat) (at0 n : Int) (ks : List UInt8) {k : Nat} (hk : k < 4) : psD b j nv na at0 n ks (k + 1) = (psD b j nv na at0 n ks k).set k (ptD b (j + k) nv na at0 n (ks.getD k 0)) := by
 apply List.ext_getElem (by simp [a30])
 intro i h1 h2
 rw [List.getElem_set]
 simp only [psD, List.getElem_map, List.getElem_range]
 by_cases e : k = i
 ·subst e; simp
 ·rw [if_neg e]
  have : (i < k + 1) ↔ (i < k) := by omega
  simp only [this]
structure s4 where
 vals : List Int
 arrs : List (List Int)
def C1 (l : List Int) : Bool := l.all fun n => decide (0 ≤ n) && decide (n ≤ 255)
def Z6 (a : List Int) : Bool := decide (a.length = 4) && C1 a
def L7 (nv na : Nat) (m : s4) : Bool := decide (m.vals.length = nv) && (decide (m.arrs.length = na) && (C1 m.vals && m.arrs.all Z6))
def vlD (b : List UInt8) (j : Int) (n : Nat) : List Int := (bY1 n).map fun i : Nat => nm b (j + i) vaL
theorem as7 (b : List UInt8) (j : Int) (n : Nat) : (vlD b j n).length = n := by simp [vlD]
theorem a15 (b : List UInt8) (j : Int) (k : Nat) : vlD b j (k + 1) = vlD b j k ++ [nm b (j + k) vaL] := by
 unfold vlD; rw [List.range_succ, List.map_append]; rfl
def arD (b : List UInt8) (j : Int) (n : Nat) : List (List Int) := (bY1 n).map fun i : Nat => vlD b (j + 4 * i) 4
theorem aZ5 (b : List UInt8) (j : Int) (n : Nat) : (arD b j n).length = n := by simp [arD]
theorem bv6 (b : List UInt8) (j : Int) (k : Nat) : arD b j (k + 1) = arD b j k ++ [vlD b (j + 4 * k) 4] := by
 unfold arD; rw [List.range_succ, List.map_append]; rfl
theorem bn7 (b : List UInt8) (j : Int) (n : Nat) : ∀ a ∈ arD b j n, a.length = 4 := by
 intro a ha
 obtain ⟨i, _, rfl⟩ := List.mem_map.1 ha
 exact as7 _ _ _
def mmD (b : List UInt8) (j : Int) (nv na : Nat) : s4 := ⟨vlD b j nv, arD b (j + nv) na⟩
abbrev bnL : List Int := [-1] ++ ([256] ++ ([9223372036854775807] ++ []))
def beD (b : List UInt8) (j : Int) (m : s4) : s4 × Int :=
 if pk b j 60 = 0 then (⟨m.vals ++ [0], m.arrs⟩, j + 1)
 else if pk b j 60 = 1 then (if 0 < m.vals.length then (⟨m.vals.set 0 (nm b (j + 1) bnL), m.arrs⟩, j + 2) else (m, j + 1))
 else if pk b j 60 = 2 then (if 0 < m.arrs.length then (⟨m.vals, m.arrs.set 0 (((m.arrs.getD 0 []).take 3).drop 0)⟩, j + 1) else (m, j + 1))
 else if pk b j 60 = 3 then (⟨[], []⟩, j + 1)
 else (m, j + 1)
theorem bV8 (b : List UInt8) (j : Int) (m : s4) : (beD b j m).1.vals.length ≤ m.vals.length + 1 ∧ (beD b j m).1.arrs.length ≤ m.arrs.length ∧ j + 1 ≤ (beD b j m).2 ∧ (beD b j m).2 ≤ j + 2 := by
 unfold beD
 repeat' split
 all_goals simp
 all_goals omega
theorem bQ0 (b : List UInt8) (j : Int) (m : s4) (n : Nat) (h : ∀ a ∈ m.arrs, a.length ≤ n) : ∀ a ∈ (beD b j m).1.arrs, a.length ≤ n := by
 intro a
 unfold beD
 split
 ·exact h a
 split
 ·split <;> exact h a
 split
 ·split
  ·intro ha
   rename_i hl
   rcases List.mem_or_eq_of_mem_set ha with h1 | h1
   ·exact h a h1
   ·subst h1
    have := h (m.arrs.getD 0 []) (by rw [bW3, bW4 hl]; exact bX7 hl)
    simp at this ⊢; omega
  ·exact h a
 split
 ·intro ha; simp at ha
 ·exact h a
theorem bc5 {l : List Int} {k : Nat} (h : (l.take k).all (fun n => decide (0 ≤ n) && decide (n ≤ 255)) = true) (hk : k < l.length) (h1 : 0 ≤ l.getD k 0) (h2 : l.getD k 0 ≤ 255) : (l.take (k + 1)).all (fun n => decide (0 ≤ n) && decide (n ≤ 255)) = true :=
 ak0 (z := 0) h hk (by simp only [decide_eq_true h1, decide_eq_true h2]; rfl)
theorem bc4 {l : List Int} {k : Nat} (hk : k < l.length) (h : l.getD k 0 < 0 ∨ 255 < l.getD k 0) : C1 l = false := by
 unfold C1
 rw [List.all_eq_false]
 refine ⟨l.getD k 0, by rw [f8 hk]; exact bX7 hk, ?_⟩
 simp only [bW2, decide_eq_true_eq]
 omega
theorem bo6 {l : List Int} {k : Nat} (h : (l.take k).all (fun n => decide (0 ≤ n) && decide (n ≤ 255)) = true) (hk : l.length ≤ k) : C1 l = true := by
 rw [bX3 hk] at h; exact h
theorem bn6 {l : List (List Int)} {k : Nat} (h : (l.take k).all Z6 = true) (hk : k < l.length) (h1 : ((l.getD k []).length : Int) = 4) (h2 : C1 (l.getD k []) = true) : (l.take (k + 1)).all Z6 = true :=
 ak0 (z := []) h hk (by unfold Z6; rw [decide_eq_true (p := (l.getD k []).length = 4) (by omega), h2]; rfl)
theorem bn5 {l : List (List Int)} {k : Nat} (hk : k < l.length) (h : ¬ ((l.getD k []).length : Int) = 4 ∨ C1 (l.getD k []) = false) : l.all Z6 = false := by
 rw [List.all_eq_false]
 refine ⟨l.getD k [], by rw [f8 hk]; exact bX7 hk, ?_⟩
 unfold Z6
 rcases h with h | h
 ·rw [decide_eq_false (p := (l.getD k []).length = 4) (by omega)]; simp
 ·rw [h]; simp
theorem bv5 {l : List (List Int)} {k : Nat} (h : (l.take k).all Z6 = true) (hk : l.length ≤ k) : l.all Z6 = true := by
 rw [bX3 hk] at h; exact h
section
variable {nv na : Nat} {m : s4}
theorem by8 (h : ¬ (m.vals.length : Int) = nv) : L7 nv na m = false := by unfold L7; rw [decide_eq_false (p := m.vals.length = nv) (by omega)]; rfl
theorem by7 (h : ¬ (m.arrs.length : Int) = na) : L7 nv na m = false := by unfold L7; rw [decide_eq_false (p := m.arrs.length = na) (by omega)]; simp
theorem by6 (h : C1 m.vals = false) : L7 nv na m = false := by unfold L7; rw [h]; simp
theorem by5 (h : m.arrs.all Z6 = false) : L7 nv na m = false := by unfold L7; rw [h]; simp
theorem bN6 (h1 : (m.vals.length : Int) = nv) (h2 : (m.arrs.length : Int) = na) (h3 : C1 m.vals = true) (h4 : m.arrs.all Z6 = true) : L7 nv na m = true := by
 unfold L7
 rw [decide_eq_true (p := m.vals.length = nv) (by omega), decide_eq_true (p := m.arrs.length = na) (by omega), h3, h4]; rfl
theorem bN5 (h1 : (m.vals.length : Int) = nv) (h2 : (m.arrs.length : Int) = na) (h3 : C1 m.vals = true) : L7 nv na m = m.arrs.all Z6 := by
 unfold L7
 rw [decide_eq_true (p := m.vals.length = nv) (by omega), decide_eq_true (p := m.arrs.length = na) (by omega), h3]; rfl
theorem ax1 (h : L7 nv na m = true) : m.vals.length = nv ∧ m.arrs.length = na ∧ C1 m.vals = true ∧ m.arrs.all Z6 = true := by
 unfold L7 at h
 simpa [bW2] using h
end
theorem bT3 {b : List UInt8} {j n : Int} (h : n < 1) : pk b j n = 0 := by unfold pk; rw [if_pos (.inl h)]
theorem bT2 {b : List UInt8} {j n : Int} (h : (b.length : Int) = 0) : pk b j n = 0 := by unfold pk; rw [if_pos (.inr (by omega))]
theorem bT1 {b : List UInt8} {j n : Int} (h : ¬ n < 1) (h1 : ¬ (b.length : Int) = 0) (h2 : j + 1 - 1 < b.length) : pk b j n = ((b.getD (j + 1 - 1).toNat 0).toNat : Int).tmod n := by
 unfold pk; rw [if_neg (by omega), if_pos (by omega), Int.add_sub_cancel]
theorem bT0 {b : List UInt8} {j n : Int} (h : ¬ n < 1) (h1 : ¬ (b.length : Int) = 0) (h2 : ¬ j + 1 - 1 < b.length) : pk b j n = (aT4 (pkX b (j + 1 - 1)) ((pkX b (j + 1 - 1)).tdiv 64)).tmod n := by
 unfold pk; rw [if_neg (by omega), if_neg (by omega), Int.add_sub_cancel]
theorem a85 {x : Int} {n : Nat} (hx : 0 ≤ x) (hn : ¬ (n : Int) = 0) : 0 ≤ x.tmod n ∧ x.tmod n < n ∧ (x.tmod n).toNat < n := by
 have := aT7 (x := x) (n := n) hx (by omega); omega
theorem B3 (b : List UInt8) (j n : Int) (r0 : 0 ≤ j) (r1 : j ≤ 1000000000) : d8.ok Tryz.prog ⟨30, [.ptr 0 0, iA n], [.box [.ref 1, iA j], dY b], [.box [.ref 1, iA (j + 1)], dY b], iA (pk b j n)⟩ := by
  refine t8 99 Tryz.func30 [.box [.ref 1, iA j], dY b] [(0, .ptr 0 0), (1, iA n)] fun G => ?_; have hu1 := aL7 (b.getD ((j + 1 - 1).tmod b.length).toNat 0); have hu2 := aL7 (b.getD (((j + 1 - 1) * 7 + 3).tmod b.length).toNat 0); refine wp_seq (d9 G c3 [(4, iA 0)] fun G => b5 (wp_seq (L6 G c3 [0, 1] [.box [.ref 1, iA (j + 1)], dY b] [(0, .ptr 0 0), (1, iA n), (4, iA 0)] [wO (j + 1)] (o1 (by omega)) fun G => b5 (wp_seq (wp_seq ?_))))); cases h0 : (decide (n < 1))
  ·
   have q0 := O4 h0; refine d9 G (z4 (fc h0 fz) (us [(3, 8, 0), (1009, 1009, 0)])) [(24, bA ((b.length : Int) == 0))] fun G => b5 (I1 G (fun h1 q1 => ?_) fun h1 q1 => ?_)
   ·
    refine wp_skip (b5 (wp_seq (z5 G c3 [(5, iA (j + 1 - 1))] [wO (j + 1 - 1)] (o1 (by omega)) fun G => b5 (wp_seq (wp_seq (d9 G c3 [(36, bA (decide (j + 1 - 1 < (b.length : Int))))] fun G => b5 (I2 G (fun h2 q2 => ?_) fun h2 q2 => ?_)))))))
    ·
     refine wp_skip (b5 (wp_seq (T9 G c3 [0, 1, 3, 7, 0, 0, 32, 96, 224, 480, 1008, 2047, 4095, 8191, 16383, 0, 32768, 98304, 229376, 0, 524288, 1572864, 0, 4194304, 12582912, 29360128, 62914560, 133693440, 268402688, 536838144, 1073709056, 2147450880, 4294967295, 0, 8589934592, 34359738367, 0, 0, 137438953472, 412316860416, 962072674304, 2061584302080, 4329327034368, 8727373545472, 17592186044415, 35184372088831] [(6, iA (((b.getD ((j + 1 - 1).tmod (b.length : Int)).toNat 0).toNat : Int) * 131 + ((b.getD (((j + 1 - 1) * 7 + 3).tmod (b.length : Int)).toNat 0).toNat : Int) * 1117 + (j + 1 - 1) * 29 + (j + 1 - 1).tdiv (b.length : Int) * 53))] [(b.length : Int) ≠ 0, (0 : Int) ≤ (j + 1 - 1).tmod (b.length : Int), (j + 1 - 1).tmod (b.length : Int) < b.length, ((j + 1 - 1).tmod (b.length : Int)).toNat < b.length, IntKind.i64.wrap ((b.getD ((j + 1 - 1).tmod (b.length : Int)).toNat (0 : UInt8)).toNat : Int) = ((b.getD ((j + 1 - 1).tmod (b.length : Int)).toNat (0 : UInt8)).toNat : Int), wO (((b.getD ((j + 1 - 1).tmod (b.length : Int)).toNat (0 : UInt8)).toNat : Int) * 131), wO ((j + 1 - 1) * 7), wO ((j + 1 - 1) * 7 + 3), (b.length : Int) ≠ 0, (0 : Int) ≤ ((j + 1 - 1) * 7 + 3).tmod (b.length : Int), ((j + 1 - 1) * 7 + 3).tmod (b.length : Int) < b.length, (((j + 1 - 1) * 7 + 3).tmod (b.length : Int)).toNat < b.length, IntKind.i64.wrap ((b.getD (((j + 1 - 1) * 7 + 3).tmod (b.length : Int)).toNat (0 : UInt8)).toNat : Int) = ((b.getD (((j + 1 - 1) * 7 + 3).tmod (b.length : Int)).toNat (0 : UInt8)).toNat : Int), wO (((b.getD (((j + 1 - 1) * 7 + 3).tmod (b.length : Int)).toNat (0 : UInt8)).toNat : Int) * 1117), wO (((b.getD ((j + 1 - 1).tmod (b.length : Int)).toNat (0 : UInt8)).toNat : Int) * 131 + ((b.getD (((j + 1 - 1) * 7 + 3).tmod (b.length : Int)).toNat (0 : UInt8)).toNat : Int) * 1117), wO ((j + 1 - 1) * 29), wO (((b.getD ((j + 1 - 1).tmod (b.length : Int)).toNat (0 : UInt8)).toNat : Int) * 131 + ((b.getD (((j + 1 - 1) * 7 + 3).tmod (b.length : Int)).toNat (0 : UInt8)).toNat : Int) * 1117 + (j + 1 - 1) * 29), (b.length : Int) ≠ 0, wO ((j + 1 - 1).tdiv (b.length : Int)), wO ((j + 1 - 1).tdiv (b.length : Int) * 53), wO (((b.getD ((j + 1 - 1).tmod (b.length : Int)).toNat (0 : UInt8)).toNat : Int) * 131 + ((b.getD (((j + 1 - 1) * 7 + 3).tmod (b.length : Int)).toNat (0 : UInt8)).toNat : Int) * 1117 + (j + 1 - 1) * 29 + (j + 1 - 1).tdiv (b.length : Int) * 53)] ⟨(by assumption), ((a85 (by omega) (by omega)).1), ((a85 (by omega) (by omega)).2.1), ((a85 (by omega) (by omega)).2.2), (w64 (by omega) (by omega)), (oW (by omega)), (oW (by omega)), (oW (by omega)), (by assumption), ((a85 (by omega) (by omega)).1), ((a85 (by omega) (by omega)).2.1), ((a85 (by omega) (by omega)).2.2), (w64 (by omega) (by omega)), (oW (by omega)), (oW (by omega)), (oW (by omega)), (oW (by omega)), (by assumption), (by have := aO1 (b := b) (k := j + 1 - 1) (by omega) (by omega) (by omega); exact w64 (by unfold pkX at this; omega) (by unfold pkX at this; omega)), (by have := aO1 (b := b) (k := j + 1 - 1) (by omega) (by omega) (by omega); exact w64 (by unfold pkX at this; omega) (by unfold pkX at this; omega)), (by have := aO1 (b := b) (k := j + 1 - 1) (by omega) (by omega) (by omega); exact w64 (by unfold pkX at this; omega) (by unfold pkX at this; omega)), bX6⟩ fun G => ?_)))
     refine b5 (wp_seq (z5 G c3 [(6, iA (aT4 (((b.getD ((j + 1 - 1).tmod (b.length : Int)).toNat 0).toNat : Int) * 131 + ((b.getD (((j + 1 - 1) * 7 + 3).tmod (b.length : Int)).toNat 0).toNat : Int) * 1117 + (j + 1 - 1) * 29 + (j + 1 - 1).tdiv (b.length : Int) * 53) ((((b.getD ((j + 1 - 1).tmod (b.length : Int)).toNat 0).toNat : Int) * 131 + ((b.getD (((j + 1 - 1) * 7 + 3).tmod (b.length : Int)).toNat 0).toNat : Int) * 1117 + (j + 1 - 1) * 29 + (j + 1 - 1).tdiv (b.length : Int) * 53).tdiv 64)))] [(64 : Int) ≠ 0, wO ((((b.getD ((j + 1 - 1).tmod (b.length : Int)).toNat (0 : UInt8)).toNat : Int) * 131 + ((b.getD (((j + 1 - 1) * 7 + 3).tmod (b.length : Int)).toNat (0 : UInt8)).toNat : Int) * 1117 + (j + 1 - 1) * 29 + (j + 1 - 1).tdiv (b.length : Int) * 53).tdiv (64 : Int))] ⟨(by omega), (by have := bx5 (b := b) (k := j + 1 - 1) (by omega) (by omega) (by omega); exact w64 (by unfold pkX at this; omega) (by unfold pkX at this; omega)), bX6⟩ fun G => b5 (wp_seq (z5 G c3 [(4, iA ((aT4 (((b.getD ((j + 1 - 1).tmod (b.length : Int)).toNat 0).toNat : Int) * 131 + ((b.getD (((j + 1 - 1) * 7 + 3).tmod (b.length : Int)).toNat 0).toNat : Int) * 1117 + (j + 1 - 1) * 29 + (j + 1 - 1).tdiv (b.length : Int) * 53) ((((b.getD ((j + 1 - 1).tmod (b.length : Int)).toNat 0).toNat : Int) * 131 + ((b.getD (((j + 1 - 1) * 7 + 3).tmod (b.length : Int)).toNat 0).toNat : Int) * 1117 + (j + 1 - 1) * 29 + (j + 1 - 1).tdiv (b.length : Int) * 53).tdiv 64)).tmod n))] [n ≠ 0] ⟨(by omega), bX6⟩ fun G => b5 (wp_ret ?_))))); exact J9 ((aT4 (((b.getD ((j + 1 - 1).tmod (b.length : Int)).toNat 0).toNat : Int) * 131 + ((b.getD (((j + 1 - 1) * 7 + 3).tmod (b.length : Int)).toNat 0).toNat : Int) * 1117 + (j + 1 - 1) * 29 + (j + 1 - 1).tdiv (b.length : Int) * 53) ((((b.getD ((j + 1 - 1).tmod (b.length : Int)).toNat 0).toNat : Int) * 131 + ((b.getD (((j + 1 - 1) * 7 + 3).tmod (b.length : Int)).toNat 0).toNat : Int) * 1117 + (j + 1 - 1) * 29 + (j + 1 - 1).tdiv (b.length : Int) * 53).tdiv 64)).tmod n) G [0, 1] (bT0 (by omega) (by omega) (by omega))
    · refine wp_seq (z5 G c3 [(4, iA (((b.getD (j + 1 - 1).toNat 0).toNat : Int).tmod n))] (iX (j + 1 - 1) ((j + 1 - 1).toNat) b.length ((IntKind.i64.wrap ((b.getD (j + 1 - 1).toNat (0 : UInt8)).toNat : Int) = ((b.getD (j + 1 - 1).toNat (0 : UInt8)).toNat : Int)) :: ((n ≠ 0) :: []))) (iK (by omega) ⟨(by have := aL7 (b.getD (j + 1 - 1).toNat 0); exact w64 (by omega) (by omega)), ⟨(by omega), bX6⟩⟩) fun G => b5 (wp_ret (c8 ?_))); exact J9 (((b.getD (j + 1 - 1).toNat 0).toNat : Int).tmod n) G [0, 1] (bT1 (by omega) (by omega) (by omega))
   · refine wp_seq (d9 G c3 [] fun G => b5 (wp_ret (c8 ?_))); exact J9 0 G [0, 1] (bT2 (by omega))
  · have q0 := O3 h0; refine d9 G (z4 (fc h0 fz) (us [(3, 8, 0), (1009, 1009, 0)])) [(24, bA true)] fun G => b5 (rT G true (by kernel_rfl) (wp_seq (d9 G c3 [] fun G => b5 (wp_ret (c8 ?_))))); exact J9 0 G [0, 1] (bT3 (by omega))
theorem E8 (b : List UInt8) (j : Int) (l : List Int) (hl : l ≠ []) (r0 : 0 ≤ j) (r1 : j ≤ 1000000000) : d8.ok Tryz.prog ⟨32, [.ptr 0 0, .ref 2], [.box [.ref 1, iA j], dY b, dI l], [.box [.ref 1, iA (j + 1)], dY b, dI l], iA (nm b j l)⟩ := by
 refine t8 12 Tryz.func32 [.box [.ref 1, iA j], dY b, dI l] [(0, .ptr 0 0), (1, .ref 2)] fun G => ?_; refine wp_seq (d9 G c3 [(4, iA 0)] fun G => b5 (wp_seq (L6 G (n5 4 [0, 1] (B3 b j ((l.length : Int)) (by assumption) (by assumption))) [0, 1, 2] [.box [.ref 1, iA (j + 1)], dY b, dI l] [(4, iA (l.getD (pk b j (l.length : Int)).toNat 0))] [(0 : Int) ≤ pk b j (l.length : Int), pk b j (l.length : Int) < l.length, (pk b j (l.length : Int)).toNat < l.length] ⟨((a36 b r0 r1 hl).1), ((a36 b r0 r1 hl).2.1), ((a36 b r0 r1 hl).2.2), bX6⟩ fun G => b5 (wp_ret ?_)))); exact A3 G [0, 1, 2]
theorem bm4 (b : List UInt8) (j : Int) (r0 : 0 ≤ j) (r1 : j ≤ 900000000) : d8.ok Tryz.prog ⟨47, [.ptr 0 0], [.box [.ref 1, iA j], dY b], [.box [.ref 1, iA (j + 2)], dY b], iA (l1D b j)⟩ := by
 refine t8 11 Tryz.func47 [.box [.ref 1, iA j], dY b] [(0, .ptr 0 0)] fun G => ?_; refine wp_seq (d9 G c3 [(2, iA 0)] fun G => b5 (wp_seq (wp_seq (e5 G (n5 1 [0, 1] (B3 b j 12 (by assumption) (by omega))) [0, 1] [.box [.ref 1, iA (j + 1)], dY b] [(0, .ptr 0 0), (2, iA 0), (5, bA (pk b j 12 == 0))] fun G => b5 (I1 G (fun h0 q0 => ?_) fun h0 q0 => ?_)))))
 ·refine wp_skip (b5 (wp_seq (e5 G (n5 1 [0, 1] (B3 b (j + 1) 4 (by omega) (by omega))) [0, 1] [.box [.ref 1, iA (j + 1 + 1)], dY b] [(2, iA (pk b (j + 1) 4))] fun G => b5 (wp_ret ?_)))); exact J9 (pk b (j + 1) 4) G [0, 1] (by unfold l1D; rw [if_neg (by omega)]; done) (by show _ = mR [0, 1] [.box [.ref 1, iA (j + 2)], dY b]; have e1 : (j + 2 : Int) = (j + 1 + 1) := (by omega); (first | rw [e1] | simp only [e1]) <;> rfl)
 ·refine wp_seq (e5 G (n5 2 [0, 1, 10] (d8.lend (E8 b (j + 1) l1L (by simp [h0]) (by omega) (by omega)) [.no, .no, .row 3])) [0, 1] [.box [.ref 1, iA (j + 1 + 1)], dY b] [(0, .ptr 0 0), (2, iA (nm b (j + 1) l1L))] fun G => b5 (wp_ret (c8 ?_))); exact J9 (nm b (j + 1) l1L) G [0, 1] (by unfold l1D; rw [if_pos (by omega)]; done) (by show _ = mR [0, 1] [.box [.ref 1, iA (j + 2)], dY b]; have e1 : (j + 2 : Int) = (j + 1 + 1) := (by omega); (first | rw [e1] | simp only [e1]) <;> rfl)
theorem aZ1 (c : List UInt8) (hc : c.length ≤ 2000) : d8.ok Tryz.prog ⟨15, [.ref 0], [dY c], [dY c, .box [.ref 0, iA 0]], .ptr 1 0⟩ := by
 refine t8 11 Tryz.func15 [dY c] [(0, .ref 0)] fun G => ?_; refine wp_seq (d9 G c3 [(2, .v (.pointer none))] fun G => b5 (wp_seq (wp_seq (w3 G c3 [(0, .ref 0), (2, .v (.pointer none)), (5, bA (decide ((c.length : Int) > 2000)))] fun G => b5 ?_)))); cases h0 : (decide ((c.length : Int) > 2000))
 ·have q0 := O4 h0; refine rF G _ h0 (wp_skip (b5 (wp_seq (e5 G c3 [0, 17] [dY c, .box [.ref 0, iA 0]] [(2, .ptr 1 0)] fun G => b5 (wp_ret ?_))))); exact A3 G [0, 1]
 ·have q0 := O3 h0; exact False.elim (by omega)
theorem aZ0 (c : List UInt8) (hc : 2000 < c.length) : d8.ok Tryz.prog ⟨15, [.ref 0], [dY c], [dY c, .box [.ref 2, iA 0], dY ((c.take 2000).drop 0)], .ptr 1 0⟩ := by
 refine t8 11 Tryz.func15 [dY c] [(0, .ref 0)] fun G => ?_; refine wp_seq (d9 G c3 [(2, .v (.pointer none))] fun G => b5 (wp_seq (wp_seq (w3 G c3 [(0, .ref 0), (2, .v (.pointer none)), (5, bA (decide ((c.length : Int) > 2000)))] fun G => b5 ?_)))); cases h0 : (decide ((c.length : Int) > 2000))
 ·have q0 := O4 h0; exact False.elim (by omega)
 ·have q0 := O3 h0; refine rT G _ h0 (L6 G c3 [0, 9] [dY c, dY (List.drop 0 (bW9 (Int.toNat 2000) c))] [(0, .ref 1), (2, .v (.pointer none))] [(0 : Int) ≤ 2000, (2000 : Int) ≤ c.length] ⟨(by omega), (by omega), bX6⟩ fun G => b5 (wp_seq (e5 G c3 [0, 1, 18] [dY c, dY (List.drop 0 (bW9 (Int.toNat 2000) c)), .box [.ref 1, iA 0]] [(2, .ptr 2 0)] fun G => b5 (wp_ret ?_)))); exact A3 G [0, 2, 1]
abbrev dwS (b : List UInt8) (j : Int) (vs ars : List Int) (bd : List b6) : List It := [.box [.ref 1, iA j], dY b, dI vs, dI ars, dT bd]
abbrev exO (e : b7) : List It := [.tree (.exprs e.kids)]
abbrev exA (e : b7) (r : Nat) : AV := .agg [iA e.kind, iA e.value, .tref r]
theorem bQ2 {b : List UInt8} {nv j : Int} (h : pk b j 3 = 0) : j5 b nv j = ⟨1, nm b (j + 1) atL, []⟩ := if_pos h
theorem bQ1 {b : List UInt8} {nv j : Int} (h : ¬ pk b j 3 = 0) : j5 b nv j = ⟨2, pk b (j + 1) nv, []⟩ := if_neg h
theorem am6 (b : List UInt8) (j : Int) (vs ars : List Int) (bd : List b6) (r0 : 0 ≤ j) (r1 : j ≤ 900000000) : d8.ok Tryz.prog ⟨99, [.ptr 0 0, pA 2], dwS b j vs ars bd, dwS b (j + 2) vs ars bd ++ exO (j5 b vs.length j), exA (j5 b vs.length j) 5⟩ := by
 refine t8 18 Tryz.func99 [.box [.ref 1, iA j], dY b, dI vs, dI ars, dT bd] [(0, .ptr 0 0), (1, pA 2)] fun G => ?_; refine wp_seq (e5 G c3 [0, 1, 2, 3, 4, 5, 13] [.box [.ref 1, iA j], dY b, dI vs, dI ars, dT bd, .box (pL 2), .box [iA 0, iA 0, .v (.slice none 0 0)]] [(0, .ptr 0 0), (3, .ptr 5 0), (4, .ptr 6 0)] fun G => b5 (wp_seq (wp_seq (e5 G (n5 1 [0, 1] (B3 b j 3 (by assumption) (by omega))) (rg 7) [.box [.ref 1, iA (j + 1)], dY b, dI vs, dI ars, dT bd, .box (pL 2), .box [iA 0, iA 0, .v (.slice none 0 0)]] [(0, .ptr 0 0), (3, .ptr 5 0), (4, .ptr 6 0), (7, bA (pk b j 3 == 0))] fun G => b5 (I1 G (fun h0 q0 => ?_) fun h0 q0 => ?_)))))
 ·refine wp_skip (b5 (wp_seq (e5 G (n5 4 [0, 1] (B3 b (j + 1) ((vs.length : Int)) (by omega) (by omega))) [0, 1, 2, 3, 4, 6] [.box [.ref 1, iA (j + 1 + 1)], dY b, dI vs, dI ars, dT bd, .box [iA 2, iA (pk b (j + 1) (vs.length : Int)), .v (.slice none 0 0)]] [(4, .ptr 5 0)] fun G => b5 (wp_ret ?_)))); obtain ⟨ρ, G⟩ := G.nilT 6 (.exprs []) [.box [.ref 1, iA (j + 1 + 1)], dY b, dI vs, dI ars, dT bd, .box [iA 2, iA (pk b (j + 1) (vs.length : Int)), .tref 6]] [(4, .ptr 5 0)]; exact M0 (.agg [iA 2, iA (pk b (j + 1) (vs.length : Int)), .tref 6]) G [0, 1, 2, 3, 4, 6] (by show _ = AV.ren (nth [0, 1, 2, 3, 4, 6]) (.agg [iA (j5 b (vs.length : Int) j).kind, iA (j5 b (vs.length : Int) j).value, .tref 5]); rw [bQ1 (by omega)] <;> rfl) (by show _ = mR [0, 1, 2, 3, 4, 6] [.box [.ref 1, iA (j + 2)], dY b, dI vs, dI ars, dT bd, .tree (D.exprs (j5 b (vs.length : Int) j).kids)]; have e1 : (j + 2 : Int) = (j + 1 + 1) := (by omega); rw [e1, bQ1 (by omega)] <;> rfl)
 ·refine wp_seq (e5 G (n5 2 [0, 1, 15] (d8.lend (E8 b (j + 1) atL (by simp [h0]) (by omega) (by omega)) [.no, .no, .row 3])) (rg 7) [.box [.ref 1, iA (j + 1 + 1)], dY b, dI vs, dI ars, dT bd, .box (pL 2), .box [iA 1, iA (nm b (j + 1) atL), .v (.slice none 0 0)]] [(0, .ptr 0 0), (3, .ptr 5 0), (4, .ptr 6 0)] fun G => b5 (wp_ret (c8 ?_))); obtain ⟨ρ, G⟩ := G.nilT 7 (.exprs []) [.box [.ref 1, iA (j + 1 + 1)], dY b, dI vs, dI ars, dT bd, .box (pL 2), .box [iA 1, iA (nm b (j + 1) atL), .tref 7]] [(0, .ptr 0 0), (3, .ptr 5 0), (4, .ptr 6 0)]; exact M0 (.agg [iA 1, iA (nm b (j + 1) atL), .tref 7]) G [0, 1, 2, 3, 4, 7] (by show _ = AV.ren (nth [0, 1, 2, 3, 4, 7]) (.agg [iA (j5 b (vs.length : Int) j).kind, iA (j5 b (vs.length : Int) j).value, .tref 5]); rw [bQ2 (by omega)] <;> rfl) (by show _ = mR [0, 1, 2, 3, 4, 7] [.box [.ref 1, iA (j + 2)], dY b, dI vs, dI ars, dT bd, .tree (D.exprs (j5 b (vs.length : Int) j).kids)]; have e1 : (j + 2 : Int) = (j + 1 + 1) := (by omega); rw [e1, bQ2 (by omega)] <;> rfl)
theorem aY7 (vs ars : List Int) (bd : List b6) (e : b7) : d8.ok Tryz.prog (C9 89 [pA 0, eA e 3] ([dI vs, dI ars, dT bd] ++ eS e) (bA (f7 vs.length ars.length e))) := A8 ⟨vs, ars, bd⟩ e
abbrev drC (b : List UInt8) (vs ars : List Int) (bd : List b6) (d : Nat) (j n : Int) : d8 := ⟨107, [.ptr 0 0, pA 2, iA n], dwS b j vs ars bd, dwS b (D6 b vs.length ars.length d j).2 vs ars bd ++ exO (D6 b vs.length ars.length d j).1, exA (D6 b vs.length ars.length d j).1 5⟩
section
variable {b : List UInt8} {nv na : Int} {d : Nat} {j : Int}
theorem bO7 (h : d < 2) : D6 b nv na d j = (j5 b nv j, j + 2) := by
 match d, h with
 | 0, _ => rfl
 | 1, _ => simp [D6]
theorem bE2 (h : 0 < d) (h1 : pk b j 4 = 0) : D6 b nv na (d + 1) j = (j5 b nv (j + 1), j + 3) := by rw [D6, if_neg (by omega), if_pos h1]
theorem bt6 (h : 0 < d) (h1 : ¬ pk b j 4 = 0) (h2 : nm b (j + 1) E6 = 3) (h3 : na = 0) : D6 b nv na (d + 1) j = (j5 b nv (j + 2), j + 4) := by rw [D6, if_neg (by omega), if_neg h1, if_pos h2, if_pos h3]
theorem bt5 (h : 0 < d) (h1 : ¬ pk b j 4 = 0) (h2 : nm b (j + 1) E6 = 3) (h3 : ¬ na = 0) : D6 b nv na (d + 1) j = (⟨3, pk b (j + 2) na, [j5 b nv (j + 3)]⟩, j + 5) := by rw [D6, if_neg (by omega), if_neg h1, if_pos h2, if_neg h3]
abbrev drK (b : List UInt8) (nv na : Int) (d : Nat) (j : Int) (k : Nat) : List b7 × Int := z8 (D6 b nv na d) k (j + 2)
theorem bO6 (h : 0 < d) (h1 : ¬ pk b j 4 = 0) (h2 : ¬ nm b (j + 1) E6 = 3) {m : Int} (h3 : 0 ≤ m) (h4 : ¬ m > 0) : D6 b nv na (d + 1) j = (⟨nm b (j + 1) E6, 0, (drK b nv na d j (j2 (nm b (j + 1) E6) - m).toNat).1⟩, (drK b nv na d j (j2 (nm b (j + 1) E6) - m).toNat).2) := by
 have e : m = 0 := by omega
 rw [e, Int.sub_zero, D6, if_neg (by omega), if_neg h1, if_neg h2]
theorem a57 {x m : Int} (h3 : m > 0) (h4 : m ≤ x) : drK b nv na d j (x - (m - 1)).toNat = ((drK b nv na d j (x - m).toNat).1 ++ [(D6 b nv na d (drK b nv na d j (x - m).toNat).2).1], (D6 b nv na d (drK b nv na d j (x - m).toNat).2).2) := by
 rw [show (x - (m - 1)).toNat = (x - m).toNat + 1 by omega]; rfl
theorem bQ3 (r0 : 0 ≤ j) (r1 : j ≤ 900000000) : 0 ≤ j2 (nm b (j + 1) E6) ∧ j2 (nm b (j + 1) E6) ≤ 3 := by
 have h := aH9 b (k := j + 1) (l := E6) (by omega) (by omega) (by simp)
 simp only [bY3, bZ6, List.not_mem_nil, or_false] at h
 rcases h with h | h | h | h | h | h | h | h | h <;> rw [h] <;> decide
theorem bO9 (r0 : 0 ≤ j) {k : Nat} (hk : k ≤ 3) : j + 2 ≤ (drK b nv na d j k).2 ∧ (drK b nv na d j k).2 ≤ j + 2 + 3 * cE d := by
 have hc := ay4 d
 have h := bk8 (f := D6 b nv na d) (c := cE d) (m := 3) (by omega) k (j + 2) hk fun i _ _ => aQ4 b nv na d i
 have h4 : (k : Int) * cE d ≤ 3 * cE d := b00 (by omega) (by omega)
 unfold drK; omega
theorem bO8 {x m : Int} (r0 : 0 ≤ j) (h3 : m > 0) (h4 : m ≤ x) (h5 : x ≤ 3) (r1 : j + cE (d + 1) ≤ 800000000) : (drK b nv na d j (x - m).toNat).2 + cE d ≤ 800000000 := by
 have hc := ay4 d
 have hce : cE (d + 1) = 5 + 3 * cE d := rfl
 have hm : (x - m).toNat ≤ 2 := by omega
 have h := bk8 (f := D6 b nv na d) (c := cE d) (m := 2) (by omega) (x - m).toNat (j + 2) hm fun i _ _ => aQ4 b nv na d i
 have h4 : ((x - m).toNat : Int) * cE d ≤ 2 * cE d := b00 (by omega) (by omega)
 unfold drK; omega
end
theorem a26 (b : List UInt8) (vs ars : List Int) (bd : List b6) (d : Nat) (hd : d < 2) (j n : Int) (hn : n = d) (r0 : 0 ≤ j) (r1 : j ≤ 900000000) : d8.ok Tryz.prog (drC b vs ars bd d j n) := by
 refine t8 62 Tryz.func107 [.box [.ref 1, iA j], dY b, dI vs, dI ars, dT bd] [(0, .ptr 0 0), (1, pA 2), (2, iA n)] fun G => ?_; refine wp_seq (e5 G c3 [0, 1, 2, 3, 4, 5, 13] [.box [.ref 1, iA j], dY b, dI vs, dI ars, dT bd, .box (pL 2), .box [iA 0, iA 0, .v (.slice none 0 0)]] [(0, .ptr 0 0), (2, iA n), (4, .ptr 5 0), (6, .ptr 6 0)] fun G => b5 (wp_seq (wp_seq ?_))); cases h0 : (decide (n < 2))
 ·have q0 := O4 h0; exact False.elim (by omega)
 ·have q0 := O3 h0; refine d9 G (z4 (fc h0 fz) [(3, 0), (4, 0), (5, 0), (1006, 0)]) [(16, bA true)] fun G => b5 (rT G true (by kernel_rfl) (wp_seq (e5 G (n5 2 (rg 5) (am6 b j vs ars bd (by assumption) (by assumption))) [0, 1, 2, 3, 4, 5, 6, 23] [.box [.ref 1, iA (j + 2)], dY b, dI vs, dI ars, dT bd, .box (pL 2), .box [iA (j5 b (vs.length : Int) j).kind, iA (j5 b (vs.length : Int) j).value, .tref 7], .tree (D.exprs (j5 b (vs.length : Int) j).kids)] [(0, .ptr 0 0), (2, iA n), (4, .ptr 5 0), (6, .ptr 6 0)] fun G => b5 (wp_ret (c8 ?_))))); exact M0 (.agg [iA (j5 b (vs.length : Int) j).kind, iA (j5 b (vs.length : Int) j).value, .tref 7]) G [0, 1, 2, 3, 4, 7] (by show _ = AV.ren (nth [0, 1, 2, 3, 4, 7]) (.agg [iA (D6 b (vs.length : Int) (ars.length : Int) d j).fst.kind, iA (D6 b (vs.length : Int) (ars.length : Int) d j).fst.value, .tref 5]); rw [bO7 hd] <;> rfl) (by show _ = mR [0, 1, 2, 3, 4, 7] [.box [.ref 1, iA (D6 b (vs.length : Int) (ars.length : Int) d j).snd], dY b, dI vs, dI ars, dT bd, .tree (D.exprs (D6 b (vs.length : Int) (ars.length : Int) d j).fst.kids)]; rw [bO7 hd] <;> rfl)
abbrev as2 (b : List UInt8) (vs : List Int) (ars : List Int) (d : Nat) (j : Int) (k : Int) := drK b (vs.length : Int) (ars.length : Int) d j (j2 (nm b (j + 1) E6) - k).toNat
abbrev an4 (b : List UInt8) (vs : List Int) (ars : List Int) (d : Nat) (j : Int) : AV := (.agg [iA (D6 b (vs.length : Int) (ars.length : Int) (d + 1) j).fst.kind, iA (D6 b (vs.length : Int) (ars.length : Int) (d + 1) j).fst.value, .tref 5])
abbrev an3 (b : List UInt8) (vs : List Int) (ars : List Int) (bd : List b6) (d : Nat) (j : Int) : List It := [.box [.ref 1, iA (D6 b (vs.length : Int) (ars.length : Int) (d + 1) j).snd], dY b, dI vs, dI ars, dT bd, .tree (D.exprs (D6 b (vs.length : Int) (ars.length : Int) (d + 1) j).fst.kids)]
abbrev aB7 : It := .box [iA 0, iA 0, .v (.slice none 0 0)]
abbrev V6 (n : Int) (r0 : List (Nat × AV)) : List (Nat × AV) := (0, .ptr 0 0) :: (2, iA n) :: (4, .ptr 5 0) :: (6, .ptr 6 0) :: r0
theorem bq3 (b : List UInt8) (vs ars : List Int) (bd : List b6) (d : Nat) (hd : 0 < d) (hd2 : d ≤ 100) (ih : ∀ (j n : Int), n = d → 0 ≤ j → j + cE d ≤ 800000000 → d8.ok Tryz.prog (drC b vs ars bd d j n)) (j n : Int) (hn : n = ((d + 1 : Nat) : Int)) (r0 : 0 ≤ j) (r1 : j + cE (d + 1) ≤ 800000000) : d8.ok Tryz.prog (drC b vs ars bd (d + 1) j n) := by
  refine t8 62 Tryz.func107 [.box [.ref 1, iA j], dY b, dI vs, dI ars, dT bd] [(0, .ptr 0 0), (1, pA 2), (2, iA n)] fun G => ?_; have hc := ay4 d; have hce : cE (d + 1) = 5 + 3 * cE d := rfl; have har := bQ3 (b := b) (j := j) r0 (by omega); refine wp_seq (e5 G c3 [0, 1, 2, 3, 4, 5, 13] [.box [.ref 1, iA j], dY b, dI vs, dI ars, dT bd, .box (pL 2), aB7] (V6 n []) fun G => b5 (wp_seq (wp_seq ?_))); cases h0 : (decide (n < 2))
  ·
   have q0 := O4 h0; refine e5 G (l9 (f6 4 [0, 1] (B3 b j 4 (by assumption) (by omega)) l8) (fc h0 fz) [(3, 0), (4, 0), (5, 0), (1006, 0)]) (rg 7) [.box [.ref 1, iA (j + 1)], dY b, dI vs, dI ars, dT bd, .box (pL 2), aB7] (V6 n [(16, bA (pk b j 4 == 0))]) fun G => b5 (I1 G (fun h1 q1 => ?_) fun h1 q1 => ?_)
   ·
    refine wp_skip (b5 (wp_seq (e5 G (n5 2 [0, 1, 15] (d8.lend (E8 b (j + 1) E6 (by simp [h0, h1]) (by omega) (by omega)) [.no, .no, .row 3])) (rg 7) [.box [.ref 1, iA (j + 1 + 1)], dY b, dI vs, dI ars, dT bd, .box (pL 2), aB7] (V6 n [(7, iA (nm b (j + 1) E6))]) fun G => b5 (wp_seq (wp_seq (d9 G c3 [(24, bA (nm b (j + 1) E6 == 3))] fun G => b5 (I1 G (fun h2 q2 => ?_) fun h2 q2 => ?_)))))))
    ·
     refine wp_skip (b5 (wp_seq (e5 G c3 [0, 1, 2, 3, 4, 5, 6, 23] [.box [.ref 1, iA (j + 1 + 1)], dY b, dI vs, dI ars, dT bd, .box (pL 2), aB7, .box [iA (nm b (j + 1) E6), iA 0, .v (.slice none 0 0)]] (V6 n [(7, iA (nm b (j + 1) E6)), (8, .ptr 7 0)]) fun G => b5 (wp_seq (wp_seq (w3 G (n5 1 [] (ab6 (nm b (j + 1) E6))) (V6 n [(8, .ptr 7 0), (9, iA (j2 (nm b (j + 1) E6)))]) fun G => b5 (wp_block ?_))))))); obtain ⟨ρ, G⟩ := G.nilT 8 (.exprs []) [.box [.ref 1, iA (j + 1 + 1)], dY b, dI vs, dI ars, dT bd, .box (pL 2), .box [iA 0, iA 0, .v (.slice none 0 0)], .box [iA (nm b (j + 1) E6), iA 0, .tref 8]] (V6 n [(8, .ptr 7 0), (9, iA (j2 (nm b (j + 1) E6)))]); replace G := G.as [.box [.ref 1, iA (drK b (vs.length : Int) (ars.length : Int) d j (j2 (nm b (j + 1) E6) - j2 (nm b (j + 1) E6)).toNat).snd], dY b, dI vs, dI ars, dT bd, .box (pL 2), .box [iA 0, iA 0, .v (.slice none 0 0)], .box [iA (nm b (j + 1) E6), iA 0, .tref 8], .tree (D.exprs (drK b (vs.length : Int) (ars.length : Int) d j (j2 (nm b (j + 1) E6) - j2 (nm b (j + 1) E6)).toNat).fst)] (V6 n [(8, .ptr 7 0), (9, iA (j2 (nm b (j + 1) E6)))]) (by have e1 : ((drK b (vs.length : Int) (ars.length : Int) d j (j2 (nm b (j + 1) E6) - j2 (nm b (j + 1) E6)).toNat).snd : Int) = (j + 1 + 1) := (by rw [Int.sub_self]; show j + 2 = j + 1 + 1; omega); have e2 : ((drK b (vs.length : Int) (ars.length : Int) d j (j2 (nm b (j + 1) E6) - j2 (nm b (j + 1) E6)).toNat).fst : List b7) = ([]) := (by rw [Int.sub_self]; rfl); (first | rw [e1, e2] | simp only [e1, e2]) <;> rfl) (by kernel_rfl); refine k8 (κ := Int) (fun k => 0 ≤ k ∧ k ≤ j2 (nm b (j + 1) E6)) (fun k => k.toNat) (fun k => [.box [.ref 1, iA (drK b vs.length ars.length d j (j2 (nm b (j + 1) E6) - k).toNat).2], dY b, dI vs, dI ars, dT bd, .box (pL 2), .box [iA 0, iA 0, .v (.slice none 0 0)], .box [iA (nm b (j + 1) E6), iA 0, .tref 8], .tree (.exprs (drK b vs.length ars.length d j (j2 (nm b (j + 1) E6) - k).toNat).1)]) (fun k => [(0, .ptr 0 0), (2, iA n), (4, .ptr 5 0), (6, .ptr 6 0), (8, .ptr 7 0), (9, iA k)]) (j2 (nm b (j + 1) E6)) (by omega) (l7.at G _ _) ?_; clear G; intro k ρ a w hp G; replace G := l7.at G [.box [.ref 1, iA (as2 b vs ars d j k).snd], dY b, dI vs, dI ars, dT bd, .box (pL 2), aB7, .box [iA (nm b (j + 1) E6), iA 0, .tref 8], .tree (D.exprs (as2 b vs ars d j k).fst)] (V6 n [(8, .ptr 7 0), (9, iA k)]); have hkb := bO9 (b := b) (nv := vs.length) (na := ars.length) (d := d) (j := j) r0 (k := (j2 (nm b (j + 1) E6) - k).toNat) (by omega); have hkl : (drK b vs.length ars.length d j (j2 (nm b (j + 1) E6) - k).toNat).1.length = (j2 (nm b (j + 1) E6) - k).toNat := aJ1 _ _ _; refine wp_seq (wp_seq (d9 G c3 [(48, bA (decide (k > 0)))] fun G => b5 (I2 G (fun h4 q4 => ?_) fun h4 q4 => ?_)))
     · refine wp_exit (j9 (j9 (j7 (b5 (wp_seq (e5 G c3 [0, 1, 2, 3, 4, 6, 8] [.box [.ref 1, iA (as2 b vs ars d j k).snd], dY b, dI vs, dI ars, dT bd, .box [iA (nm b (j + 1) E6), iA 0, .tref 6], .tree (D.exprs (as2 b vs ars d j k).fst)] [(6, .ptr 5 0)] fun G => b5 (wp_ret ?_))))))); exact M0 (.agg [iA (nm b (j + 1) E6), iA 0, .tref 6]) G [0, 1, 2, 3, 4, 6] (by show _ = AV.ren (nth [0, 1, 2, 3, 4, 6]) (an4 b vs ars d j); unfold an4; rw [bO6 (m := k) hd (by omega) (by omega) (by omega) (by omega)] <;> rfl) (by show _ = mR [0, 1, 2, 3, 4, 6] (an3 b vs ars bd d j); unfold an3; rw [bO6 (m := k) hd (by omega) (by omega) (by omega) (by omega)] <;> rfl)
     · refine wp_skip (b5 (wp_seq (wp_block (F0 G (n5 6 (rg 5) (ih ((drK b (vs.length : Int) (ars.length : Int) d j (j2 (nm b (j + 1) E6) - k).toNat).snd) (n - 1) (by omega) (by omega) (bO8 (by omega) (by omega) (by omega) (by omega) r1))) [0, 1, 0, 0, 0, 16, 60, 124, 255, 511, 1023] [0, 1, 2, 3, 4, 5, 6, 7, 73] [.box [.ref 1, iA (D6 b (vs.length : Int) (ars.length : Int) d (as2 b vs ars d j k).snd).snd], dY b, dI vs, dI ars, dT bd, .box (pL 2), aB7, .box [iA (nm b (j + 1) E6), iA 0, .tref 8], .tree (D.exprs ((as2 b vs ars d j k).fst ++ [n4 (D6 b (vs.length : Int) (ars.length : Int) d (as2 b vs ars d j k).snd).fst]))] (V6 n [(8, .ptr 7 0), (9, iA k)]) ((wO (n - 1)) :: (aP ((drK b (vs.length : Int) (ars.length : Int) d j (j2 (nm b (j + 1) E6) - k).toNat).fst.length + 1) 40 [])) ⟨oW (by omega), (aK (by omega) bX6)⟩ fun G => i9 (b5 (z5 G c3 [(9, iA (k - 1))] [wO (k - 1)] (o1 (by omega)) fun G => b5 ?_)))))); exact H3 G (k - 1) (by omega) (by omega) (rg 9) (by have e1 : ((drK b (vs.length : Int) (ars.length : Int) d j (j2 (nm b (j + 1) E6) - (k - 1)).toNat).snd : Int) = ((D6 b (vs.length : Int) (ars.length : Int) d (drK b (vs.length : Int) (ars.length : Int) d j (j2 (nm b (j + 1) E6) - k).toNat).snd).snd) := (by rw [a57 (by omega) (by omega)]; done); have e2 : ((drK b (vs.length : Int) (ars.length : Int) d j (j2 (nm b (j + 1) E6) - (k - 1)).toNat).fst : List b7) = ((drK b (vs.length : Int) (ars.length : Int) d j (j2 (nm b (j + 1) E6) - k).toNat).fst ++ [n4 (D6 b (vs.length : Int) (ars.length : Int) d (drK b (vs.length : Int) (ars.length : Int) d j (j2 (nm b (j + 1) E6) - k).toNat).snd).fst]) := (by rw [a57 (by omega) (by omega)]; (simp only [b7.eta]; done)); (first | rw [e1, e2] | simp only [e1, e2]) <;> rfl)
    ·
     refine wp_seq (wp_seq (d9 G c3 [(28, bA ((ars.length : Int) == 0))] fun G => b5 (I1 G (fun h3 q3 => ?_) fun h3 q3 => ?_)))
     · refine wp_skip (b5 (wp_seq (F6 G (l9 (f6 5 [0, 1] (B3 b (j + 1 + 1) ((ars.length : Int)) (by omega) (by omega)) (f6 8 (rg 5) (am6 b (j + 1 + 1 + 1) vs ars bd (by omega) (by omega)) l8)) fz []) [0, 0, 0, 4, 12, 30, 0, 0, 254, 510, 1023, 2047] [0, 1, 2, 3, 4, 5, 6, 79] [.box [.ref 1, iA (j + 1 + 1 + 1 + 2)], dY b, dI vs, dI ars, dT bd, .box (pL 2), .box [iA (nm b (j + 1) E6), iA (pk b (j + 1 + 1) (ars.length : Int)), .tref 7], .tree (D.exprs [n4 (j5 b (vs.length : Int) (j + 1 + 1 + 1))])] (V6 n [(7, iA (nm b (j + 1) E6))]) fun G => b5 (wp_ret (c8 ?_))))); exact M0 (.agg [iA (nm b (j + 1) E6), iA (pk b (j + 1 + 1) (ars.length : Int)), .tref 7]) G [0, 1, 2, 3, 4, 7] (by show _ = AV.ren (nth [0, 1, 2, 3, 4, 7]) (an4 b vs ars d j); unfold an4; have e1 : ((D6 b (vs.length : Int) (ars.length : Int) (d + 1) j).fst.kind : Int) = (nm b (j + 1) E6) := (by rw [bt5 hd (by omega) (by omega) (by omega)]; (simp only [Int.add_assoc, Int.reduceAdd, b7.eta, b7.kids, b7.kind, b7.value]; omega)); have e2 : ((D6 b (vs.length : Int) (ars.length : Int) (d + 1) j).fst.value : Int) = (pk b (j + 1 + 1) (ars.length : Int)) := (by rw [bt5 hd (by omega) (by omega) (by omega)]; (simp only [Int.add_assoc, Int.reduceAdd, b7.eta, b7.kids, b7.kind, b7.value]; done)); (first | rw [e1, e2] | simp only [e1, e2]) <;> rfl) (by show _ = mR [0, 1, 2, 3, 4, 7] (an3 b vs ars bd d j); unfold an3; have e1 : ((D6 b (vs.length : Int) (ars.length : Int) (d + 1) j).snd : Int) = (j + 1 + 1 + 1 + 2) := (by rw [bt5 hd (by omega) (by omega) (by omega)]; (simp only [Int.add_assoc, Int.reduceAdd, b7.eta, b7.kids, b7.kind, b7.value]; done)); have e2 : ((D6 b (vs.length : Int) (ars.length : Int) (d + 1) j).fst.kids : List b7) = ([n4 (j5 b (vs.length : Int) (j + 1 + 1 + 1))]) := (by rw [bt5 hd (by omega) (by omega) (by omega)]; show [_] = _; simp only [Int.add_assoc, Int.reduceAdd, b7.eta]; done); (first | rw [e1, e2] | simp only [e1, e2]) <;> rfl)
     · refine wp_seq (e5 G (n5 2 (rg 5) (am6 b (j + 1 + 1) vs ars bd (by omega) (by omega))) [0, 1, 2, 3, 4, 5, 6, 23] [.box [.ref 1, iA (j + 1 + 1 + 2)], dY b, dI vs, dI ars, dT bd, .box (pL 2), .box [iA (j5 b (vs.length : Int) (j + 1 + 1)).kind, iA (j5 b (vs.length : Int) (j + 1 + 1)).value, .tref 7], .tree (D.exprs (j5 b (vs.length : Int) (j + 1 + 1)).kids)] (V6 n [(7, iA (nm b (j + 1) E6))]) fun G => b5 (wp_ret (c8 (c8 ?_)))); exact M0 (.agg [iA (j5 b (vs.length : Int) (j + 1 + 1)).kind, iA (j5 b (vs.length : Int) (j + 1 + 1)).value, .tref 7]) G [0, 1, 2, 3, 4, 7] (by show _ = AV.ren (nth [0, 1, 2, 3, 4, 7]) (an4 b vs ars d j); unfold an4; have e1 : ((D6 b (vs.length : Int) (ars.length : Int) (d + 1) j).fst.kind : Int) = ((j5 b (vs.length : Int) (j + 1 + 1)).kind) := (by rw [bt6 hd (by omega) (by omega) (by omega)]; (simp only [Int.add_assoc, Int.reduceAdd, b7.eta, b7.kids, b7.kind, b7.value]; done)); have e2 : ((D6 b (vs.length : Int) (ars.length : Int) (d + 1) j).fst.value : Int) = ((j5 b (vs.length : Int) (j + 1 + 1)).value) := (by rw [bt6 hd (by omega) (by omega) (by omega)]; (simp only [Int.add_assoc, Int.reduceAdd, b7.eta, b7.kids, b7.kind, b7.value]; done)); (first | rw [e1, e2] | simp only [e1, e2]) <;> rfl) (by show _ = mR [0, 1, 2, 3, 4, 7] (an3 b vs ars bd d j); unfold an3; have e1 : ((D6 b (vs.length : Int) (ars.length : Int) (d + 1) j).snd : Int) = (j + 1 + 1 + 2) := (by rw [bt6 hd (by omega) (by omega) (by omega)]; (simp only [Int.add_assoc, Int.reduceAdd, b7.eta, b7.kids, b7.kind, b7.value]; done)); have e2 : ((D6 b (vs.length : Int) (ars.length : Int) (d + 1) j).fst : b7) = (j5 b (vs.length : Int) (j + 1 + 1)) := (by rw [bt6 hd (by omega) (by omega) (by omega)]; (simp only [Int.add_assoc, Int.reduceAdd, b7.eta, b7.kids, b7.kind, b7.value]; done)); (first | rw [e1, e2] | simp only [e1, e2]) <;> rfl)
   · refine wp_seq (e5 G (n5 2 (rg 5) (am6 b (j + 1) vs ars bd (by omega) (by omega))) [0, 1, 2, 3, 4, 5, 6, 23] [.box [.ref 1, iA (j + 1 + 2)], dY b, dI vs, dI ars, dT bd, .box (pL 2), .box [iA (j5 b (vs.length : Int) (j + 1)).kind, iA (j5 b (vs.length : Int) (j + 1)).value, .tref 7], .tree (D.exprs (j5 b (vs.length : Int) (j + 1)).kids)] (V6 n []) fun G => b5 (wp_ret (c8 ?_))); exact M0 (.agg [iA (j5 b (vs.length : Int) (j + 1)).kind, iA (j5 b (vs.length : Int) (j + 1)).value, .tref 7]) G [0, 1, 2, 3, 4, 7] (by show _ = AV.ren (nth [0, 1, 2, 3, 4, 7]) (an4 b vs ars d j); unfold an4; rw [bE2 hd (by omega)] <;> rfl) (by show _ = mR [0, 1, 2, 3, 4, 7] (an3 b vs ars bd d j); unfold an3; have e1 : ((D6 b (vs.length : Int) (ars.length : Int) (d + 1) j).snd : Int) = (j + 1 + 2) := (by rw [bE2 hd (by omega)]; (simp only [Int.add_assoc, Int.reduceAdd, b7.eta, b7.kids, b7.kind, b7.value]; done)); rw [e1, bE2 hd (by omega)] <;> rfl)
  · have q0 := O3 h0; exact False.elim (by omega)
theorem bm6 (b : List UInt8) (vs ars : List Int) (bd : List b6) : ∀ (d : Nat) (j n : Int), d ≤ 100 → n = d → 0 ≤ j → j + cE d ≤ 800000000 → d8.ok Tryz.prog (drC b vs ars bd d j n)
 | 0, j, n, _, hn, r0, r1 => a26 b vs ars bd 0 (by omega) j n hn r0 (by have := ay4 0; omega)
 | 1, j, n, _, hn, r0, r1 => a26 b vs ars bd 1 (by omega) j n hn r0 (by have := ay4 1; omega)
 | d + 2, j, n, hd, hn, r0, r1 => bq3 b vs ars bd (d + 1) (by omega) (by omega) (fun j n => bm6 b vs ars bd (d + 1) j n (by omega)) j n hn r0 r1
abbrev smC (b : List UInt8) (vs ars : List Int) (bd : List b6) (j : Int) : d8 := ⟨100, [.ptr 0 0, pA 2], dwS b j vs ars bd, dwS b (n6 b vs.length ars.length j).2 vs ars bd ++ exO (n6 b vs.length ars.length j).1, exA (n6 b vs.length ars.length j).1 5⟩
section
variable {b : List UInt8} {nv na : Nat} {j : Int}
theorem bH7 (h : f7 nv na (D6 b nv na (nm b j dpL).toNat (j + 1)).1 = true) : n6 b nv na j = D6 b nv na (nm b j dpL).toNat (j + 1) := if_pos h
theorem bH6 (h : f7 nv na (D6 b nv na (nm b j dpL).toNat (j + 1)).1 = false) : n6 b nv na j = (j5 b nv (D6 b nv na (nm b j dpL).toNat (j + 1)).2, (D6 b nv na (nm b j dpL).toNat (j + 1)).2 + 2) := if_neg (by rw [h]; decide)
theorem bR2 (r0 : 0 ≤ j) (r1 : j ≤ 700000000) : cE (nm b j dpL).toNat ≤ 364 := cE4 (dp4 b r0 (by omega)).2.2
end
abbrev R6 (b : List UInt8) (vs : List Int) (ars : List Int) (j : Int) := D6 b (vs.length : Int) (ars.length : Int) (nm b j dpL).toNat (j + 1)
theorem V0 (b : List UInt8) (vs ars : List Int) (bd : List b6) (j : Int) (r0 : 0 ≤ j) (r1 : j ≤ 700000000) : d8.ok Tryz.prog (smC b vs ars bd j) := by
 have hdr := fun (i n : Int) => bm6 b vs ars bd (nm b j dpL).toNat i n (bX9 (dp4 b r0 (by omega)).2.2 (by omega))
 refine t8 19 Tryz.func100 [.box [.ref 1, iA j], dY b, dI vs, dI ars, dT bd] [(0, .ptr 0 0), (1, pA 2)] fun G => ?_; have hd4 := bR2 (b := b) r0 r1; have hdb := aQ4 b vs.length ars.length (nm b j dpL).toNat (j + 1); refine wp_seq (e5 G c3 [0, 1, 2, 3, 4, 5, 13] [.box [.ref 1, iA j], dY b, dI vs, dI ars, dT bd, .box (pL 2), .box [iA 0, iA 0, .v (.slice none 0 0)]] [(0, .ptr 0 0), (3, .ptr 5 0), (4, .ptr 6 0)] fun G => b5 (wp_seq (F6 G (l9 (f6 4 [0, 1, 31] (d8.lend (E8 b j dpL (List.cons_ne_nil _ _) (by assumption) (by omega)) [.no, .no, .row 3]) (f6 5 (rg 5) (hdr (j + 1) (nm b j dpL) (bE4 b (by omega) (by omega)) (by omega) (by omega)) l8)) fz []) [0, 0, 0, 0, 12, 31, 0, 127] [0, 1, 2, 3, 4, 5, 6, 47, 55] [.box [.ref 1, iA (R6 b vs ars j).snd], dY b, dI vs, dI ars, dT bd, .box (pL 2), .box [iA 0, iA 0, .v (.slice none 0 0)], .tree (D.exprs (R6 b vs ars j).fst.kids), .box [iA (R6 b vs ars j).fst.kind, iA (R6 b vs ars j).fst.value, .tref 7]] [(0, .ptr 0 0), (3, .ptr 5 0), (4, .ptr 6 0), (5, .ptr 8 0)] fun G => b5 (wp_seq (wp_seq (d9 G (n5 2 [2, 3, 4, 7] (d8.lend (aY7 vs ars bd ((D6 b (vs.length : Int) (ars.length : Int) (nm b j dpL).toNat (j + 1)).fst)) [.no, .no, .no, .tree])) [(14, bA (f7 vs.length ars.length (R6 b vs ars j).fst))] fun G => b5 (rcB (b := f7 vs.length ars.length (D6 b (vs.length : Int) (ars.length : Int) (nm b j dpL).toNat (j + 1)).fst) G (fun h0 => ?_) fun h0 => ?_)))))))
 ·refine wp_skip (b5 (wp_seq (e5 G (n5 2 (rg 5) (am6 b ((D6 b (vs.length : Int) (ars.length : Int) (nm b j dpL).toNat (j + 1)).snd) vs ars bd (by omega) (by omega))) [0, 1, 2, 3, 4, 6, 25] [.box [.ref 1, iA ((R6 b vs ars j).snd + 2)], dY b, dI vs, dI ars, dT bd, .box [iA (j5 b (vs.length : Int) (R6 b vs ars j).snd).kind, iA (j5 b (vs.length : Int) (R6 b vs ars j).snd).value, .tref 6], .tree (D.exprs (j5 b (vs.length : Int) (R6 b vs ars j).snd).kids)] [(4, .ptr 5 0)] fun G => b5 (wp_ret ?_)))); exact M0 (.agg [iA (j5 b (vs.length : Int) (D6 b (vs.length : Int) (ars.length : Int) (nm b j dpL).toNat (j + 1)).snd).kind, iA (j5 b (vs.length : Int) (D6 b (vs.length : Int) (ars.length : Int) (nm b j dpL).toNat (j + 1)).snd).value, .tref 6]) G [0, 1, 2, 3, 4, 6] (by show _ = AV.ren (nth [0, 1, 2, 3, 4, 6]) (.agg [iA (n6 b vs.length ars.length j).fst.kind, iA (n6 b vs.length ars.length j).fst.value, .tref 5]); rw [bH6 (by with_reducible assumption)] <;> rfl) (by show _ = mR [0, 1, 2, 3, 4, 6] [.box [.ref 1, iA (n6 b vs.length ars.length j).snd], dY b, dI vs, dI ars, dT bd, .tree (D.exprs (n6 b vs.length ars.length j).fst.kids)]; rw [bH6 (by with_reducible assumption)] <;> rfl)
 ·refine wp_seq (e5 G c3 (rg 8) [.box [.ref 1, iA (R6 b vs ars j).snd], dY b, dI vs, dI ars, dT bd, .box (pL 2), .box [iA (R6 b vs ars j).fst.kind, iA (R6 b vs ars j).fst.value, .tref 7], .tree (D.exprs (R6 b vs ars j).fst.kids)] [(0, .ptr 0 0), (3, .ptr 5 0), (4, .ptr 6 0)] fun G => b5 (wp_ret (c8 ?_))); exact M0 (.agg [iA (D6 b (vs.length : Int) (ars.length : Int) (nm b j dpL).toNat (j + 1)).fst.kind, iA (D6 b (vs.length : Int) (ars.length : Int) (nm b j dpL).toNat (j + 1)).fst.value, .tref 7]) G [0, 1, 2, 3, 4, 7] (by show _ = AV.ren (nth [0, 1, 2, 3, 4, 7]) (.agg [iA (n6 b vs.length ars.length j).fst.kind, iA (n6 b vs.length ars.length j).fst.value, .tref 5]); rw [bH7 (by with_reducible assumption)] <;> rfl) (by show _ = mR [0, 1, 2, 3, 4, 7] [.box [.ref 1, iA (n6 b vs.length ars.length j).snd], dY b, dI vs, dI ars, dT bd, .tree (D.exprs (n6 b vs.length ars.length j).fst.kids)]; rw [bH7 (by with_reducible assumption)] <;> rfl)
abbrev stO (s : b6) : List It := [.tree (.exprs s.index.kids), .tree (.exprs s.value.kids), .tree (.stmts s.body), .tree (.stmts s.els)]
abbrev stA (s : b6) (r : Nat) : AV := .agg [iA s.kind, iA s.target, iA s.index.kind, iA s.index.value, .tref r, iA s.value.kind, iA s.value.value, .tref (r + 1), iA s.count, .tref (r + 2), .tref (r + 3)]
abbrev dsC (b : List UInt8) (vs ars : List Int) (bd : List b6) (d : Nat) (j n : Int) : d8 := ⟨92, [.ptr 0 0, pA 2, iA n], dwS b j vs ars bd, dwS b (t7 b vs.length ars.length d j).2 vs ars bd ++ stO (t7 b vs.length ars.length d j).1, stA (t7 b vs.length ars.length d j).1 5⟩
abbrev dbC (b : List UInt8) (vs ars : List Int) (bd : List b6) (d : Nat) (m : Nat) (j n c : Int) : d8 := ⟨80, [.ptr 0 0, pA 2, iA n, iA c], dwS b j vs ars bd, dwS b (z8 (t7 b vs.length ars.length d) m j).2 vs ars bd ++ [.tree (.stmts (z8 (t7 b vs.length ars.length d) m j).1)], .tref 5⟩
section
variable {b : List UInt8} {nv na d : Nat} {j : Int}
theorem bd6 (h : nm b j C8 = 2) (h1 : 0 < (na : Int)) : t7 b nv na d j = soS b nv na (j + 1) := by
 cases d <;> (rw [t7, if_pos ⟨h, by omega⟩])
theorem bH5 (h : nm b j C8 = 3) (h1 : 0 < d) : t7 b nv na (d + 1) j = ifS b nv na (t7 b nv na d) (j + 1) := by
 rw [t7, if_neg (by omega), if_pos ⟨h, by omega⟩]
theorem bH4 (h : nm b j C8 = 4) (h1 : 0 < d) : t7 b nv na (d + 1) j = rpS b (t7 b nv na d) (j + 1) := by
 rw [t7, if_neg (by omega), if_neg (by omega), if_pos ⟨h, by omega⟩]
theorem X9 (h : ¬ (nm b j C8 = 2 ∧ 0 < (na : Int))) (h1 : d < 2 ∨ (¬ nm b j C8 = 3 ∧ ¬ nm b j C8 = 4)) : t7 b nv na d j = dfS b nv na (nm b j C8) (j + 1) := by
 match d, h1 with
 | 0, _ => rw [t7, if_neg (by omega)]
 | d + 1, h1 => rw [t7, if_neg (by omega), if_neg (by omega), if_neg (by omega)]
theorem bE5 {kd : Int} (h : kd = 5) : dfS b nv na kd j = (⟨5, pk b j nv, noE, (n6 b nv na (j + 1)).1, 0, [], []⟩, (n6 b nv na (j + 1)).2) := by rw [dfS, if_pos h]
theorem aQ5 {kd : Int} (h : ¬ kd = 5) : dfS b nv na kd j = (⟨1, pk b j nv, noE, (n6 b nv na (j + 1)).1, 0, [], []⟩, (n6 b nv na (j + 1)).2) := by rw [dfS, if_neg h]
end
section
variable (b : List UInt8) {j : Int}
theorem bV1 (r0 : 0 ≤ j) (r1 : j ≤ 1000000000) : 0 ≤ nm b j ibL ∧ nm b j ibL ≤ 2 := aC6 b (by simp) aX0 r0 r1
theorem bV0 (r0 : 0 ≤ j) (r1 : j ≤ 1000000000) : 0 ≤ nm b j ieL ∧ nm b j ieL ≤ 2 := aC6 b (by simp) aW8 r0 r1
theorem bS1 (r0 : 0 ≤ j) (r1 : j ≤ 1000000000) : 0 ≤ nm b j rbL ∧ nm b j rbL ≤ 2 := aC6 b (by simp) aV3 r0 r1
theorem bu9 (d : Nat) : (d = 0 ∧ cS (d - 1) = 402 ∧ cS d ≤ 2010) ∨ cS d = 402 + 4 * cS (d - 1) := by
 cases d with
 | zero => exact .inl ⟨rfl, rfl, by decide⟩
 | succ d => exact .inr rfl
end
section
variable {b : List UInt8} {nv na d : Nat} {j : Int}
theorem aU2 (h : nm b j C8 = 3) (h1 : 1 < d) : t7 b nv na d j = ifS b nv na (t7 b nv na (d - 1)) (j + 1) := by
 match d, h1 with
 | d + 1, h1 => exact bH5 h (by omega)
theorem aU1 (h : nm b j C8 = 4) (h1 : 1 < d) : t7 b nv na d j = rpS b (t7 b nv na (d - 1)) (j + 1) := by
 match d, h1 with
 | d + 1, h1 => exact bH4 h (by omega)
end
abbrev bw3 (b : List UInt8) (vs : List Int) (ars : List Int) (d : Nat) (j : Int) (k : Nat) := t7 b vs.length ars.length d (z8 (t7 b vs.length ars.length d) k j).snd
abbrev aK7 (n : Int) (c : Int) (r0 : List (Nat × AV)) : List (Nat × AV) := (0, .ptr 0 0) :: (2, iA n) :: (3, iA c) :: (5, .ptr 5 0) :: (8, .v (.slice none 0 0)) :: r0
theorem bq4 (b : List UInt8) (vs ars : List Int) (bd : List b6) (d m : Nat) (ih : ∀ (j n : Int), n = d → 0 ≤ j → j + cS d ≤ 600000000 → d8.ok Tryz.prog (dsC b vs ars bd d j n)) (j n c : Int) (hn : n = d) (hm : c = m) (hm2 : m ≤ 4) (B : Int) (hB : (m : Int) * cS d ≤ B) (r0 : 0 ≤ j) (r1 : j + B ≤ 600000000) : d8.ok Tryz.prog (dbC b vs ars bd d m j n c) := by
 refine t8 25 Tryz.func80 [.box [.ref 1, iA j], dY b, dI vs, dI ars, dT bd] [(0, .ptr 0 0), (1, pA 2), (2, iA n), (3, iA c)] fun G => ?_; have hc := ao4 d; refine wp_seq (e5 G c3 (rg 6) [.box [.ref 1, iA j], dY b, dI vs, dI ars, dT bd, .box (pL 2)] (aK7 n c []) fun G => b5 (wp_seq (e5 G c3 (rg 7) [.box [.ref 1, iA j], dY b, dI vs, dI ars, dT bd, .box (pL 2), .tree (D.stmts [])] (aK7 n c [(9, .tref 6)]) fun G => b5 (wp_seq (wp_seq (w3 G c3 (aK7 n c [(9, .tref 6), (10, iA 0)]) fun G => b5 (wp_block ?_))))))); refine k8 (κ := Nat) (fun k => k ≤ m) (fun k => m - k) (fun k => [.box [.ref 1, iA (z8 (t7 b vs.length ars.length d) k j).2], dY b, dI vs, dI ars, dT bd, .box (pL 2), .tree (.stmts (z8 (t7 b vs.length ars.length d) k j).1)]) (fun k => [(0, .ptr 0 0), (2, iA n), (3, iA c), (5, .ptr 5 0), (8, .v (.slice none 0 0)), (9, .tref 6), (10, iA k)]) 0 (by omega) (l7.at G _ _) ?_; clear G; intro k ρ a w hp G; replace G := l7.at G [.box [.ref 1, iA (z8 (t7 b vs.length ars.length d) k j).snd], dY b, dI vs, dI ars, dT bd, .box (pL 2), .tree (D.stmts (z8 (t7 b vs.length ars.length d) k j).fst)] (aK7 n c [(9, .tref 6), (10, iA k)]); have hkb := bz3 b vs.length ars.length (k := j) (i := k) hB (by omega) r0 (by omega); have hkl : (z8 (t7 b vs.length ars.length d) k j).1.length = k := aJ1 _ _ _; refine wp_seq (wp_seq (d9 G c3 [(14, bA (decide ((k : Int) < c)))] fun G => b5 (I2 G (fun h0 q0 => ?_) fun h0 q0 => ?_)))
 ·refine wp_exit (j9 (j9 (j7 (b5 (wp_seq (e5 G c3 [0, 1, 2, 3, 4, 6] [.box [.ref 1, iA (z8 (t7 b vs.length ars.length d) k j).snd], dY b, dI vs, dI ars, dT bd, .tree (D.stmts (z8 (t7 b vs.length ars.length d) k j).fst)] [(8, .tref 5)] fun G => b5 (wp_ret ?_))))))); exact A3 G (rg 6) (by show _ = mR (rg 6) [.box [.ref 1, iA (z8 (t7 b vs.length ars.length d) m j).snd], dY b, dI vs, dI ars, dT bd, .tree (D.stmts (z8 (t7 b vs.length ars.length d) m j).fst)]; rw [show m = k by omega] <;> rfl)
 ·refine wp_skip (b5 (wp_seq (wp_block (L6 G (n5 4 (rg 5) (ih ((z8 (t7 b vs.length ars.length d) k j).snd) n (by assumption) (by omega) (by have := bP8 b vs.length ars.length (k := j) (i := k) hB (by omega) r0 (by omega); omega))) [0, 1, 2, 3, 4, 5, 55] [.box [.ref 1, iA (bw3 b vs ars d j k).snd], dY b, dI vs, dI ars, dT bd, .box (pL 2), .tree (D.stmts ((z8 (t7 b vs.length ars.length d) k j).fst ++ [qzS (bw3 b vs ars d j k).fst]))] (aK7 n c [(9, .tref 6), (10, iA k)]) (aP ((z8 (t7 b vs.length ars.length d) k j).fst.length + 1) 152 []) (aK (by omega) bX6) fun G => i9 (b5 (z5 G c3 [(10, iA ((k : Int) + 1))] [wO ((k : Int) + 1)] (o1 (by omega)) fun G => b5 ?_)))))); exact H3 G (k + 1) (by omega) (by omega) (rg 7) (by have e1 : ((z8 (t7 b vs.length ars.length d) (k + 1) j).fst : List b6) = ((z8 (t7 b vs.length ars.length d) k j).fst ++ [qzS (t7 b vs.length ars.length d (z8 (t7 b vs.length ars.length d) k j).snd).fst]) := (by show _ ++ [_] = _ ++ [_]; unfold qzS; rw [b7.eta, b7.eta, b6.eta]; done); (first | rw [e1] | simp only [e1]) <;> rfl)
abbrev aB6 (b : List UInt8) (vs : List Int) (ars : List Int) (d : Nat) (j : Int) := z8 (t7 b vs.length ars.length (d - 1)) (nm b (n6 b vs.length ars.length (j + 1)).snd ibL).toNat ((n6 b vs.length ars.length (j + 1)).snd + 1)
abbrev a13 (b : List UInt8) (vs : List Int) (ars : List Int) (d : Nat) (j : Int) := z8 (t7 b vs.length ars.length (d - 1)) (nm b (aB6 b vs ars d j).snd ieL).toNat ((aB6 b vs ars d j).snd + 1)
abbrev K7 (b : List UInt8) (vs : List Int) (ars : List Int) (d : Nat) (j : Int) : AV := (.agg [iA (t7 b vs.length ars.length d j).fst.kind, iA (t7 b vs.length ars.length d j).fst.target, iA (t7 b vs.length ars.length d j).fst.index.kind, iA (t7 b vs.length ars.length d j).fst.index.value, .tref 5, iA (t7 b vs.length ars.length d j).fst.value.kind, iA (t7 b vs.length ars.length d j).fst.value.value, .tref 6, iA (t7 b vs.length ars.length d j).fst.count, .tref 7, .tref 8])
abbrev K6 (b : List UInt8) (vs : List Int) (ars : List Int) (bd : List b6) (d : Nat) (j : Int) : List It := [.box [.ref 1, iA (t7 b vs.length ars.length d j).snd], dY b, dI vs, dI ars, dT bd, .tree (D.exprs (t7 b vs.length ars.length d j).fst.index.kids), .tree (D.exprs (t7 b vs.length ars.length d j).fst.value.kids), .tree (D.stmts (t7 b vs.length ars.length d j).fst.body), .tree (D.stmts (t7 b vs.length ars.length d j).fst.els)]
abbrev ag6 : It := .box [iA 0, iA 0, iA 0, iA 0, .v (.slice none 0 0), iA 0, iA 0, .v (.slice none 0 0), iA 0, .v (.slice none 0 0), .v (.slice none 0 0)]
abbrev a12 (b : List UInt8) (vs : List Int) (ars : List Int) (j : Int) : It := .box [iA 1, iA (pk b (j + 1) (vs.length : Int)), iA 0, iA 0, .v (.slice none 0 0), iA (n6 b vs.length ars.length (j + 1 + 1)).fst.kind, iA (n6 b vs.length ars.length (j + 1 + 1)).fst.value, .tref 7, iA 0, .v (.slice none 0 0), .v (.slice none 0 0)]
abbrev a11 (b : List UInt8) (vs : List Int) (ars : List Int) (j : Int) : It := .box [iA 1, iA (pk b (j + 1) (vs.length : Int)), iA 0, iA 0, .v (.slice none 0 0), iA (n6 b vs.length ars.length (j + 1 + 1)).fst.kind, iA (n6 b vs.length ars.length (j + 1 + 1)).fst.value, .tref 6, iA 0, .v (.slice none 0 0), .v (.slice none 0 0)]
abbrev a09 (b : List UInt8) (vs : List Int) (j : Int) : It := .box [iA 1, iA (pk b (j + 1) (vs.length : Int)), iA 0, iA 0, .v (.slice none 0 0), iA 0, iA 0, .v (.slice none 0 0), iA 0, .v (.slice none 0 0), .v (.slice none 0 0)]
abbrev ac7 (b : List UInt8) (vs : List Int) (ars : List Int) (j : Int) : It := .tree (D.exprs (n6 b vs.length ars.length (j + 1 + 1)).fst.kids)
abbrev Q3 (b : List UInt8) (vs : List Int) (ars : List Int) (j : Int) : It := .box [.ref 1, iA (n6 b vs.length ars.length (j + 1 + 1)).snd]
abbrev aF3 : It := .box [iA 1, iA 0, iA 0, iA 0, .v (.slice none 0 0), iA 0, iA 0, .v (.slice none 0 0), iA 0, .v (.slice none 0 0), .v (.slice none 0 0)]
abbrev a01 (b : List UInt8) (vs : List Int) (ars : List Int) (bd : List b6) (j : Int) (r0 : List It) : List It := .box [.ref 1, iA (n6 b vs.length ars.length (j + 1 + 1)).snd] :: dY b :: dI vs :: dI ars :: dT bd :: .box [iA 1, iA (pk b (j + 1) (vs.length : Int)), iA 0, iA 0, .tref 7, iA (n6 b vs.length ars.length (j + 1 + 1)).fst.kind, iA (n6 b vs.length ars.length (j + 1 + 1)).fst.value, .tref 6, iA 0, .tref 8, .tref 9] :: .tree (D.exprs (n6 b vs.length ars.length (j + 1 + 1)).fst.kids) :: .tree (D.exprs []) :: .tree (D.stmts []) :: r0
abbrev a00 (b : List UInt8) (vs : List Int) (ars : List Int) (bd : List b6) (j : Int) (r0 : List It) : List It := .box [.ref 1, iA (n6 b vs.length ars.length (j + 1 + 1)).snd] :: dY b :: dI vs :: dI ars :: dT bd :: .box [iA 1, iA (pk b (j + 1) (vs.length : Int)), iA 0, iA 0, .tref 7, iA (n6 b vs.length ars.length (j + 1 + 1)).fst.kind, iA (n6 b vs.length ars.length (j + 1 + 1)).fst.value, .tref 6, iA 0, .tref 8, .v (.slice none 0 0)] :: .tree (D.exprs (n6 b vs.length ars.length (j + 1 + 1)).fst.kids) :: .tree (D.exprs []) :: r0
abbrev aZ9 (b : List UInt8) (vs : List Int) (ars : List Int) (bd : List b6) (j : Int) (r0 : List It) : List It := .box [.ref 1, iA (n6 b vs.length ars.length (j + 1 + 1)).snd] :: dY b :: dI vs :: dI ars :: dT bd :: .box [iA 1, iA (pk b (j + 1) (vs.length : Int)), iA 0, iA 0, .tref 7, iA (n6 b vs.length ars.length (j + 1 + 1)).fst.kind, iA (n6 b vs.length ars.length (j + 1 + 1)).fst.value, .tref 6, iA 0, .v (.slice none 0 0), .v (.slice none 0 0)] :: .tree (D.exprs (n6 b vs.length ars.length (j + 1 + 1)).fst.kids) :: r0
abbrev O9 (r0 : List (Nat × AV)) : List (Nat × AV) := (0, .ptr 0 0) :: (4, .ptr 5 0) :: (6, .ptr 6 0) :: (8, .ptr 7 0) :: r0
abbrev aK6 (b : List UInt8) (vs : List Int) (ars : List Int) (d : Nat) (j : Int) (r0 : List It) : List It := .box [.ref 1, iA (z8 (t7 b vs.length ars.length (d - 1)) (nm b (j + 1 + 1) rbL).toNat (j + 1 + 1 + 1)).snd] :: dY b :: dI vs :: dI ars :: r0
abbrev ag5 (n : Int) (r0 : List (Nat × AV)) : List (Nat × AV) := (0, .ptr 0 0) :: (2, iA n) :: (4, .ptr 5 0) :: (6, .ptr 6 0) :: r0
abbrev I4 (b : List UInt8) (vs : List Int) (ars : List Int) (bd : List b6) (r0 : List It) : List It := dY b :: dI vs :: dI ars :: dT bd :: .box (pL 2) :: ag6 :: r0
abbrev aZ8 (b : List UInt8) (vs : List Int) (ars : List Int) (j : Int) (r0 : List It) : List It := .tree (D.exprs (j5 b (vs.length : Int) (j + 1 + 1)).kids) :: .tree (D.exprs (n6 b vs.length ars.length (j + 1 + 1 + 2)).fst.kids) :: r0
theorem be4 (b : List UInt8) (vs ars : List Int) (bd : List b6) (d : Nat) (hd : d ≤ 3) (ih : ∀ (j n c : Int), 1 < d → n = (d : Int) - 1 → 0 ≤ c → c ≤ 2 → 0 ≤ j → j + 2 * cS (d - 1) ≤ 600000000 → d8.ok Tryz.prog (dbC b vs ars bd (d - 1) c.toNat j n c)) (j n : Int) (hn : n = d) (r0 : 0 ≤ j) (r1 : j + cS d ≤ 600000000) : d8.ok Tryz.prog (dsC b vs ars bd d j n) := by
  refine t8 100 Tryz.func92 [.box [.ref 1, iA j], dY b, dI vs, dI ars, dT bd] [(0, .ptr 0 0), (1, pA 2), (2, iA n)] fun G => ?_; have hc := ao4 (d - 1); have hcd := bu9 d; have hcn := ao4 d; have hsm := a23 b vs.length ars.length (k := j + 1) (by omega) (by omega); have hib := bV1 b (j := (n6 b vs.length ars.length (j + 1)).2) (by omega) (by omega); have hbb := bz3 b vs.length ars.length (k := (n6 b vs.length ars.length (j + 1)).2 + 1) (i := (nm b (n6 b vs.length ars.length (j + 1)).2 ibL).toNat) (bK8 hib.1 hib.2 (show 0 ≤ cS (d - 1) by omega)) (bX4 _) (by omega) (by omega); have hie := bV0 b (j := (z8 (t7 b vs.length ars.length (d - 1)) (nm b (n6 b vs.length ars.length (j + 1)).2 ibL).toNat ((n6 b vs.length ars.length (j + 1)).2 + 1)).2) (by omega) (by omega); have hrb := bS1 b (j := j + 1 + 1) (by omega) (by omega); refine wp_seq (e5 G c3 [0, 1, 2, 3, 4, 5, 13] (.box [.ref 1, iA j] :: (I4 b vs ars bd [])) (ag5 n []) fun G => b5 (wp_seq (e5 G (n5 2 [0, 1, 15] (d8.lend (E8 b j C8 (List.cons_ne_nil _ _) (by assumption) (by omega)) [.no, .no, .row 3])) (rg 7) (.box [.ref 1, iA (j + 1)] :: (I4 b vs ars bd [])) (ag5 n [(7, iA (nm b j C8))]) fun G => b5 (wp_seq (e5 G c3 [0, 1, 2, 3, 4, 5, 6, 23] (.box [.ref 1, iA (j + 1)] :: (I4 b vs ars bd [.box [iA (nm b j C8), iA 0, iA 0, iA 0, .v (.slice none 0 0), iA 0, iA 0, .v (.slice none 0 0), iA 0, .v (.slice none 0 0), .v (.slice none 0 0)]])) (ag5 n [(7, iA (nm b j C8)), (8, .ptr 7 0)]) fun G => b5 (wp_seq (wp_block (wp_seq ?_)))))))); cases h0 : (nm b j C8 == 2)
  ·
   have q0 := ne_of_beq_false h0; refine d9 G (z4 (fc h0 fz) (us [(3, 6, 0), (1007, 1007, 0)])) [(27, bA false)] fun G => b5 (rF G false (by kernel_rfl) (wp_seq ?_)); cases h1 : (nm b j C8 == 3)
   ·
    have q1 := ne_of_beq_false h1; refine d9 G (z4 (fc h1 fz) [(3, 0), (4, 0), (1005, 0)]) [(50, bA false)] fun G => b5 (rF G false (by kernel_rfl) (wp_seq ?_)); cases h2 : (nm b j C8 == 4)
    ·
     have q2 := ne_of_beq_false h2; refine d9 G (z4 (fc h2 fz) [(3, 0), (4, 0), (1005, 0)]) [(79, bA false)] fun G => b5 (rF G false (by kernel_rfl) (wp_seq (wp_seq (d9 G c3 [(15, bA (nm b j C8 != 5))] fun G => b5 (rcN G (fun h3 q3 => ?_) fun h3 q3 => ?_)))))
     · refine wp_skip (b5 (wp_seq (e5 G (n5 4 [0, 1] (B3 b (j + 1) ((vs.length : Int)) (by omega) (by omega))) (rg 8) (.box [.ref 1, iA (j + 1 + 1)] :: (I4 b vs ars bd [.box [iA (nm b j C8), iA (pk b (j + 1) (vs.length : Int)), iA 0, iA 0, .v (.slice none 0 0), iA 0, iA 0, .v (.slice none 0 0), iA 0, .v (.slice none 0 0), .v (.slice none 0 0)]])) (O9 []) fun G => b5 (e5 G (n5 2 (rg 5) (V0 b vs ars bd (j + 1 + 1) (by omega) (by omega))) [0, 1, 2, 3, 4, 6, 7, 24] [Q3 b vs ars j, dY b, dI vs, dI ars, dT bd, ag6, .box [iA (nm b j C8), iA (pk b (j + 1) (vs.length : Int)), iA 0, iA 0, .v (.slice none 0 0), iA (n6 b vs.length ars.length (j + 1 + 1)).fst.kind, iA (n6 b vs.length ars.length (j + 1 + 1)).fst.value, .tref 7, iA 0, .v (.slice none 0 0), .v (.slice none 0 0)], ac7 b vs ars j] [(6, .ptr 5 0), (8, .ptr 6 0)] fun G => i9 (b5 (wp_seq (e5 G c3 [0, 1, 2, 3, 4, 5, 7] [Q3 b vs ars j, dY b, dI vs, dI ars, dT bd, .box [iA (nm b j C8), iA (pk b (j + 1) (vs.length : Int)), iA 0, iA 0, .v (.slice none 0 0), iA (n6 b vs.length ars.length (j + 1 + 1)).fst.kind, iA (n6 b vs.length ars.length (j + 1 + 1)).fst.value, .tref 6, iA 0, .v (.slice none 0 0), .v (.slice none 0 0)], ac7 b vs ars j] [(6, .ptr 5 0)] fun G => b5 (wp_ret ?_)))))))); obtain ⟨ρ, G⟩ := G.nilT 7 (.exprs []) [.box [.ref 1, iA (n6 b vs.length ars.length (j + 1 + 1)).snd], dY b, dI vs, dI ars, dT bd, .box [iA (nm b j C8), iA (pk b (j + 1) (vs.length : Int)), iA 0, iA 0, .tref 7, iA (n6 b vs.length ars.length (j + 1 + 1)).fst.kind, iA (n6 b vs.length ars.length (j + 1 + 1)).fst.value, .tref 6, iA 0, .v (.slice none 0 0), .v (.slice none 0 0)], .tree (D.exprs (n6 b vs.length ars.length (j + 1 + 1)).fst.kids)] [(6, .ptr 5 0)]; obtain ⟨ρ, G⟩ := G.nilT 8 (.stmts []) [.box [.ref 1, iA (n6 b vs.length ars.length (j + 1 + 1)).snd], dY b, dI vs, dI ars, dT bd, .box [iA (nm b j C8), iA (pk b (j + 1) (vs.length : Int)), iA 0, iA 0, .tref 7, iA (n6 b vs.length ars.length (j + 1 + 1)).fst.kind, iA (n6 b vs.length ars.length (j + 1 + 1)).fst.value, .tref 6, iA 0, .tref 8, .v (.slice none 0 0)], .tree (D.exprs (n6 b vs.length ars.length (j + 1 + 1)).fst.kids), .tree (D.exprs [])] [(6, .ptr 5 0)]; obtain ⟨ρ, G⟩ := G.nilT 9 (.stmts []) [.box [.ref 1, iA (n6 b vs.length ars.length (j + 1 + 1)).snd], dY b, dI vs, dI ars, dT bd, .box [iA (nm b j C8), iA (pk b (j + 1) (vs.length : Int)), iA 0, iA 0, .tref 7, iA (n6 b vs.length ars.length (j + 1 + 1)).fst.kind, iA (n6 b vs.length ars.length (j + 1 + 1)).fst.value, .tref 6, iA 0, .tref 8, .tref 9], .tree (D.exprs (n6 b vs.length ars.length (j + 1 + 1)).fst.kids), .tree (D.exprs []), .tree (D.stmts [])] [(6, .ptr 5 0)]; exact M0 (.agg [iA (nm b j C8), iA (pk b (j + 1) (vs.length : Int)), iA 0, iA 0, .tref 7, iA (n6 b vs.length ars.length (j + 1 + 1)).fst.kind, iA (n6 b vs.length ars.length (j + 1 + 1)).fst.value, .tref 6, iA 0, .tref 8, .tref 9]) G [0, 1, 2, 3, 4, 7, 6, 8, 9] (by show _ = AV.ren (nth [0, 1, 2, 3, 4, 7, 6, 8, 9]) (K7 b vs ars d j); unfold K7; have e1 : ((t7 b vs.length ars.length d j).fst.kind : Int) = (nm b j C8) := (by rw [X9 (by omega) (by omega), bE5 (by omega)]; show (5 : Int) = _; omega); rw [e1, X9 (by omega) (by omega), bE5 (by omega)] <;> rfl) (by show _ = mR [0, 1, 2, 3, 4, 7, 6, 8, 9] (K6 b vs ars bd d j); unfold K6; rw [X9 (by omega) (by omega), bE5 (by omega)] <;> rfl)
     · refine e5 G c3 (rg 8) (.box [.ref 1, iA (j + 1)] :: (I4 b vs ars bd [aF3])) (O9 []) fun G => b5 (wp_seq (e5 G (n5 4 [0, 1] (B3 b (j + 1) ((vs.length : Int)) (by omega) (by omega))) (rg 8) (.box [.ref 1, iA (j + 1 + 1)] :: (I4 b vs ars bd [a09 b vs j])) (O9 []) fun G => b5 (e5 G (n5 2 (rg 5) (V0 b vs ars bd (j + 1 + 1) (by omega) (by omega))) [0, 1, 2, 3, 4, 6, 7, 24] [Q3 b vs ars j, dY b, dI vs, dI ars, dT bd, ag6, a12 b vs ars j, ac7 b vs ars j] [(6, .ptr 5 0), (8, .ptr 6 0)] fun G => i9 (b5 (wp_seq (e5 G c3 [0, 1, 2, 3, 4, 5, 7] [Q3 b vs ars j, dY b, dI vs, dI ars, dT bd, a11 b vs ars j, ac7 b vs ars j] [(6, .ptr 5 0)] fun G => b5 (wp_ret ?_))))))); obtain ⟨ρ, G⟩ := G.nilT 7 (.exprs []) (aZ9 b vs ars bd j []) [(6, .ptr 5 0)]; obtain ⟨ρ, G⟩ := G.nilT 8 (.stmts []) (a00 b vs ars bd j []) [(6, .ptr 5 0)]; obtain ⟨ρ, G⟩ := G.nilT 9 (.stmts []) (a01 b vs ars bd j []) [(6, .ptr 5 0)]; exact M0 (.agg [iA 1, iA (pk b (j + 1) (vs.length : Int)), iA 0, iA 0, .tref 7, iA (n6 b vs.length ars.length (j + 1 + 1)).fst.kind, iA (n6 b vs.length ars.length (j + 1 + 1)).fst.value, .tref 6, iA 0, .tref 8, .tref 9]) G [0, 1, 2, 3, 4, 7, 6, 8, 9] (by show _ = AV.ren (nth [0, 1, 2, 3, 4, 7, 6, 8, 9]) (K7 b vs ars d j); unfold K7; rw [X9 (by omega) (by omega), aQ5 (by omega)] <;> rfl) (by show _ = mR [0, 1, 2, 3, 4, 7, 6, 8, 9] (K6 b vs ars bd d j); unfold K6; rw [X9 (by omega) (by omega), aQ5 (by omega)] <;> rfl)
    ·
     have q2 := eq_of_beq h2; refine d9 G (z4 (fc h2 fz) [(3, 0), (4, 0), (1005, 0)]) [(79, bA (decide (n > 1)))] fun G => b5 (I2 G (fun h4 q4 => ?_) fun h4 q4 => ?_)
     ·
      refine wp_seq (wp_seq (w3 G c3 (O9 [(15, bA (nm b j C8 != 5))]) fun G => b5 ?_)); cases h5 : (nm b j C8 != 5)
      · have q5 := bne_eq_false_iff_eq.1 h5; exact False.elim (by omega)
      · have q5 := bne_iff_ne.1 h5; refine rT G _ h5 (e5 G c3 (rg 8) (.box [.ref 1, iA (j + 1)] :: (I4 b vs ars bd [aF3])) (O9 []) fun G => b5 (wp_seq (e5 G (n5 4 [0, 1] (B3 b (j + 1) ((vs.length : Int)) (by omega) (by omega))) (rg 8) (.box [.ref 1, iA (j + 1 + 1)] :: (I4 b vs ars bd [a09 b vs j])) (O9 []) fun G => b5 (e5 G (n5 2 (rg 5) (V0 b vs ars bd (j + 1 + 1) (by omega) (by omega))) [0, 1, 2, 3, 4, 6, 7, 24] [Q3 b vs ars j, dY b, dI vs, dI ars, dT bd, ag6, a12 b vs ars j, ac7 b vs ars j] [(6, .ptr 5 0), (8, .ptr 6 0)] fun G => i9 (b5 (wp_seq (e5 G c3 [0, 1, 2, 3, 4, 5, 7] [Q3 b vs ars j, dY b, dI vs, dI ars, dT bd, a11 b vs ars j, ac7 b vs ars j] [(6, .ptr 5 0)] fun G => b5 (wp_ret ?_)))))))); obtain ⟨ρ, G⟩ := G.nilT 7 (.exprs []) (aZ9 b vs ars bd j []) [(6, .ptr 5 0)]; obtain ⟨ρ, G⟩ := G.nilT 8 (.stmts []) (a00 b vs ars bd j []) [(6, .ptr 5 0)]; obtain ⟨ρ, G⟩ := G.nilT 9 (.stmts []) (a01 b vs ars bd j []) [(6, .ptr 5 0)]; exact M0 (.agg [iA 1, iA (pk b (j + 1) (vs.length : Int)), iA 0, iA 0, .tref 7, iA (n6 b vs.length ars.length (j + 1 + 1)).fst.kind, iA (n6 b vs.length ars.length (j + 1 + 1)).fst.value, .tref 6, iA 0, .tref 8, .tref 9]) G [0, 1, 2, 3, 4, 7, 6, 8, 9] (by show _ = AV.ren (nth [0, 1, 2, 3, 4, 7, 6, 8, 9]) (K7 b vs ars d j); unfold K7; rw [X9 (by omega) (by omega), aQ5 (by omega)] <;> rfl) (by show _ = mR [0, 1, 2, 3, 4, 7, 6, 8, 9] (K6 b vs ars bd d j); unfold K6; rw [X9 (by omega) (by omega), aQ5 (by omega)] <;> rfl)
     · refine wp_seq (e5 G (n5 2 [0, 1, 16] (d8.lend (E8 b (j + 1) rcL (by simp [h0, h1, h2, h4]) (by omega) (by omega)) [.no, .no, .row 3])) (rg 8) (.box [.ref 1, iA (j + 1 + 1)] :: (I4 b vs ars bd [.box [iA (nm b j C8), iA 0, iA 0, iA 0, .v (.slice none 0 0), iA 0, iA 0, .v (.slice none 0 0), iA (nm b (j + 1) rcL), .v (.slice none 0 0), .v (.slice none 0 0)]])) (ag5 n [(8, .ptr 7 0)]) fun G => b5 (F0 G (l9 (f6 6 [0, 1, 48] (d8.lend (E8 b (j + 1 + 1) rbL (by simp [h0, h1, h2, h4]) (by omega) (by omega)) [.no, .no, .row 3]) (f6 7 (rg 5) (ih (j + 1 + 1 + 1) (n - 1) (nm b (j + 1 + 1) rbL) (by omega) (by omega) (by omega) (by omega) (by omega) (by omega)) l8)) fz []) [0, 0, 0, 4, 0, 0, 48, 127, 255, 511] [0, 1, 2, 3, 4, 6, 7, 64] (aK6 b vs ars d j [dT bd, ag6, .box [iA (nm b j C8), iA 0, iA 0, iA 0, .v (.slice none 0 0), iA 0, iA 0, .v (.slice none 0 0), iA (nm b (j + 1) rcL), .tref 7, .v (.slice none 0 0)], .tree (D.stmts (z8 (t7 b vs.length ars.length (d - 1)) (nm b (j + 1 + 1) rbL).toNat (j + 1 + 1 + 1)).fst)]) [(6, .ptr 5 0), (8, .ptr 6 0)] [wO (n - 1)] (o1 (by omega)) fun G => i9 (b5 (wp_seq (e5 G c3 [0, 1, 2, 3, 4, 5, 7] (aK6 b vs ars d j [dT bd, .box [iA (nm b j C8), iA 0, iA 0, iA 0, .v (.slice none 0 0), iA 0, iA 0, .v (.slice none 0 0), iA (nm b (j + 1) rcL), .tref 6, .v (.slice none 0 0)], .tree (D.stmts (z8 (t7 b vs.length ars.length (d - 1)) (nm b (j + 1 + 1) rbL).toNat (j + 1 + 1 + 1)).fst)]) [(6, .ptr 5 0)] fun G => b5 (wp_ret ?_)))))); obtain ⟨ρ, G⟩ := G.nilT 7 (.exprs []) (aK6 b vs ars d j [dT bd, .box [iA (nm b j C8), iA 0, iA 0, iA 0, .tref 7, iA 0, iA 0, .v (.slice none 0 0), iA (nm b (j + 1) rcL), .tref 6, .v (.slice none 0 0)], .tree (D.stmts (z8 (t7 b vs.length ars.length (d - 1)) (nm b (j + 1 + 1) rbL).toNat (j + 1 + 1 + 1)).fst)]) [(6, .ptr 5 0)]; obtain ⟨ρ, G⟩ := G.nilT 8 (.exprs []) (aK6 b vs ars d j [dT bd, .box [iA (nm b j C8), iA 0, iA 0, iA 0, .tref 7, iA 0, iA 0, .tref 8, iA (nm b (j + 1) rcL), .tref 6, .v (.slice none 0 0)], .tree (D.stmts (z8 (t7 b vs.length ars.length (d - 1)) (nm b (j + 1 + 1) rbL).toNat (j + 1 + 1 + 1)).fst), .tree (D.exprs [])]) [(6, .ptr 5 0)]; obtain ⟨ρ, G⟩ := G.nilT 9 (.stmts []) (aK6 b vs ars d j [dT bd, .box [iA (nm b j C8), iA 0, iA 0, iA 0, .tref 7, iA 0, iA 0, .tref 8, iA (nm b (j + 1) rcL), .tref 6, .tref 9], .tree (D.stmts (z8 (t7 b vs.length ars.length (d - 1)) (nm b (j + 1 + 1) rbL).toNat (j + 1 + 1 + 1)).fst), .tree (D.exprs []), .tree (D.exprs [])]) [(6, .ptr 5 0)]; exact M0 (.agg [iA (nm b j C8), iA 0, iA 0, iA 0, .tref 7, iA 0, iA 0, .tref 8, iA (nm b (j + 1) rcL), .tref 6, .tref 9]) G [0, 1, 2, 3, 4, 7, 8, 6, 9] (by show _ = AV.ren (nth [0, 1, 2, 3, 4, 7, 8, 6, 9]) (K7 b vs ars d j); unfold K7; have e1 : ((t7 b vs.length ars.length d j).fst.kind : Int) = (nm b j C8) := (by rw [aU1 (by omega) (by omega)]; show (4 : Int) = _; omega); rw [e1, aU1 (by omega) (by omega)] <;> rfl) (by show _ = mR [0, 1, 2, 3, 4, 7, 8, 6, 9] (K6 b vs ars bd d j); unfold K6; rw [aU1 (by omega) (by omega)] <;> rfl)
   ·
    have q1 := eq_of_beq h1; refine w3 G (z4 (fc h1 fz) [(3, 0), (4, 0), (1005, 0)]) (ag5 n [(7, iA (nm b j C8)), (8, .ptr 7 0), (50, bA (decide (n > 1)))]) fun G => b5 (I2 G (fun h6 q6 => ?_) fun h6 q6 => ?_)
    ·
     refine wp_seq ?_; cases h7 : (nm b j C8 == 4)
     ·
      have q7 := ne_of_beq_false h7; refine d9 G (z4 (fc h7 fz) [(3, 0), (4, 0), (1005, 0)]) [(79, bA false)] fun G => b5 (rF G false (by kernel_rfl) (wp_seq (wp_seq (w3 G c3 (O9 [(15, bA (nm b j C8 != 5))]) fun G => b5 ?_)))); cases h8 : (nm b j C8 != 5)
      · have q8 := bne_eq_false_iff_eq.1 h8; exact False.elim (by omega)
      · have q8 := bne_iff_ne.1 h8; refine rT G _ h8 (e5 G c3 (rg 8) (.box [.ref 1, iA (j + 1)] :: (I4 b vs ars bd [aF3])) (O9 []) fun G => b5 (wp_seq (e5 G (n5 4 [0, 1] (B3 b (j + 1) ((vs.length : Int)) (by omega) (by omega))) (rg 8) (.box [.ref 1, iA (j + 1 + 1)] :: (I4 b vs ars bd [a09 b vs j])) (O9 []) fun G => b5 (e5 G (n5 2 (rg 5) (V0 b vs ars bd (j + 1 + 1) (by omega) (by omega))) [0, 1, 2, 3, 4, 6, 7, 24] [Q3 b vs ars j, dY b, dI vs, dI ars, dT bd, ag6, a12 b vs ars j, ac7 b vs ars j] [(6, .ptr 5 0), (8, .ptr 6 0)] fun G => i9 (b5 (wp_seq (e5 G c3 [0, 1, 2, 3, 4, 5, 7] [Q3 b vs ars j, dY b, dI vs, dI ars, dT bd, a11 b vs ars j, ac7 b vs ars j] [(6, .ptr 5 0)] fun G => b5 (wp_ret ?_)))))))); obtain ⟨ρ, G⟩ := G.nilT 7 (.exprs []) (aZ9 b vs ars bd j []) [(6, .ptr 5 0)]; obtain ⟨ρ, G⟩ := G.nilT 8 (.stmts []) (a00 b vs ars bd j []) [(6, .ptr 5 0)]; obtain ⟨ρ, G⟩ := G.nilT 9 (.stmts []) (a01 b vs ars bd j []) [(6, .ptr 5 0)]; exact M0 (.agg [iA 1, iA (pk b (j + 1) (vs.length : Int)), iA 0, iA 0, .tref 7, iA (n6 b vs.length ars.length (j + 1 + 1)).fst.kind, iA (n6 b vs.length ars.length (j + 1 + 1)).fst.value, .tref 6, iA 0, .tref 8, .tref 9]) G [0, 1, 2, 3, 4, 7, 6, 8, 9] (by show _ = AV.ren (nth [0, 1, 2, 3, 4, 7, 6, 8, 9]) (K7 b vs ars d j); unfold K7; rw [X9 (by omega) (by omega), aQ5 (by omega)] <;> rfl) (by show _ = mR [0, 1, 2, 3, 4, 7, 6, 8, 9] (K6 b vs ars bd d j); unfold K6; rw [X9 (by omega) (by omega), aQ5 (by omega)] <;> rfl)
     · have q7 := eq_of_beq h7; exact False.elim (by omega)
    ·
     refine wp_seq (e5 G (n5 2 (rg 5) (V0 b vs ars bd (j + 1) (by omega) (by omega))) [0, 1, 2, 3, 4, 5, 6, 7, 24] (.box [.ref 1, iA (n6 b vs.length ars.length (j + 1)).snd] :: (I4 b vs ars bd [.box [iA (nm b j C8), iA 0, iA 0, iA 0, .v (.slice none 0 0), iA (n6 b vs.length ars.length (j + 1)).fst.kind, iA (n6 b vs.length ars.length (j + 1)).fst.value, .tref 8, iA 0, .v (.slice none 0 0), .v (.slice none 0 0)], .tree (D.exprs (n6 b vs.length ars.length (j + 1)).fst.kids)])) (ag5 n [(8, .ptr 7 0)]) fun G => b5 (wp_seq (F0 G (l9 (f6 6 [0, 1, 49] (d8.lend (E8 b ((n6 b vs.length ars.length (j + 1)).snd) ibL (by simp [h0, h1, h6]) (by omega) (by omega)) [.no, .no, .row 3]) (f6 7 (rg 5) (ih ((n6 b vs.length ars.length (j + 1)).snd + 1) (n - 1) (nm b (n6 b vs.length ars.length (j + 1)).snd ibL) (by omega) (by omega) (by omega) (by omega) (by omega) (by omega)) l8)) fz []) [0, 0, 0, 4, 0, 0, 48, 127, 255, 511] [0, 1, 2, 3, 4, 5, 6, 7, 8, 65] (.box [.ref 1, iA (aB6 b vs ars d j).snd] :: (I4 b vs ars bd [.box [iA (nm b j C8), iA 0, iA 0, iA 0, .v (.slice none 0 0), iA (n6 b vs.length ars.length (j + 1)).fst.kind, iA (n6 b vs.length ars.length (j + 1)).fst.value, .tref 8, iA 0, .tref 9, .v (.slice none 0 0)], .tree (D.exprs (n6 b vs.length ars.length (j + 1)).fst.kids), .tree (D.stmts (aB6 b vs ars d j).fst)])) (ag5 n [(8, .ptr 7 0)]) [wO (n - 1)] (o1 (by omega)) fun G => b5 (F0 G (l9 (f6 6 [0, 1, 50] (d8.lend (E8 b ((z8 (t7 b vs.length ars.length (d - 1)) (nm b (n6 b vs.length ars.length (j + 1)).snd ibL).toNat ((n6 b vs.length ars.length (j + 1)).snd + 1)).snd) ieL (by simp [h0, h1, h6]) (by omega) (by omega)) [.no, .no, .row 3]) (f6 7 (rg 5) (ih ((z8 (t7 b vs.length ars.length (d - 1)) (nm b (n6 b vs.length ars.length (j + 1)).snd ibL).toNat ((n6 b vs.length ars.length (j + 1)).snd + 1)).snd + 1) (n - 1) (nm b (z8 (t7 b vs.length ars.length (d - 1)) (nm b (n6 b vs.length ars.length (j + 1)).snd ibL).toNat ((n6 b vs.length ars.length (j + 1)).snd + 1)).snd ieL) (by omega) (by omega) (by omega) (by omega) (by omega) (by omega)) l8)) fz []) [0, 0, 0, 4, 0, 0, 48, 127, 255, 511] [0, 1, 2, 3, 4, 6, 7, 8, 9, 66] [.box [.ref 1, iA (a13 b vs ars d j).snd], dY b, dI vs, dI ars, dT bd, ag6, .box [iA (nm b j C8), iA 0, iA 0, iA 0, .v (.slice none 0 0), iA (n6 b vs.length ars.length (j + 1)).fst.kind, iA (n6 b vs.length ars.length (j + 1)).fst.value, .tref 7, iA 0, .tref 8, .tref 9], .tree (D.exprs (n6 b vs.length ars.length (j + 1)).fst.kids), .tree (D.stmts (aB6 b vs ars d j).fst), .tree (D.stmts (a13 b vs ars d j).fst)] [(6, .ptr 5 0), (8, .ptr 6 0)] [wO (n - 1)] (o1 (by omega)) fun G => i9 (b5 (wp_seq (e5 G c3 [0, 1, 2, 3, 4, 5, 7, 8, 9] [.box [.ref 1, iA (a13 b vs ars d j).snd], dY b, dI vs, dI ars, dT bd, .box [iA (nm b j C8), iA 0, iA 0, iA 0, .v (.slice none 0 0), iA (n6 b vs.length ars.length (j + 1)).fst.kind, iA (n6 b vs.length ars.length (j + 1)).fst.value, .tref 6, iA 0, .tref 7, .tref 8], .tree (D.exprs (n6 b vs.length ars.length (j + 1)).fst.kids), .tree (D.stmts (aB6 b vs ars d j).fst), .tree (D.stmts (a13 b vs ars d j).fst)] [(6, .ptr 5 0)] fun G => b5 (wp_ret ?_)))))))); obtain ⟨ρ, G⟩ := G.nilT 9 (.exprs []) [.box [.ref 1, iA (z8 (t7 b vs.length ars.length (d - 1)) (nm b (z8 (t7 b vs.length ars.length (d - 1)) (nm b (n6 b vs.length ars.length (j + 1)).snd ibL).toNat ((n6 b vs.length ars.length (j + 1)).snd + 1)).snd ieL).toNat ((z8 (t7 b vs.length ars.length (d - 1)) (nm b (n6 b vs.length ars.length (j + 1)).snd ibL).toNat ((n6 b vs.length ars.length (j + 1)).snd + 1)).snd + 1)).snd], dY b, dI vs, dI ars, dT bd, .box [iA (nm b j C8), iA 0, iA 0, iA 0, .tref 9, iA (n6 b vs.length ars.length (j + 1)).fst.kind, iA (n6 b vs.length ars.length (j + 1)).fst.value, .tref 6, iA 0, .tref 7, .tref 8], .tree (D.exprs (n6 b vs.length ars.length (j + 1)).fst.kids), .tree (D.stmts (z8 (t7 b vs.length ars.length (d - 1)) (nm b (n6 b vs.length ars.length (j + 1)).snd ibL).toNat ((n6 b vs.length ars.length (j + 1)).snd + 1)).fst), .tree (D.stmts (z8 (t7 b vs.length ars.length (d - 1)) (nm b (z8 (t7 b vs.length ars.length (d - 1)) (nm b (n6 b vs.length ars.length (j + 1)).snd ibL).toNat ((n6 b vs.length ars.length (j + 1)).snd + 1)).snd ieL).toNat ((z8 (t7 b vs.length ars.length (d - 1)) (nm b (n6 b vs.length ars.length (j + 1)).snd ibL).toNat ((n6 b vs.length ars.length (j + 1)).snd + 1)).snd + 1)).fst)] [(6, .ptr 5 0)]
     exact M0 (.agg [iA (nm b j C8), iA 0, iA 0, iA 0, .tref 9, iA (n6 b vs.length ars.length (j + 1)).fst.kind, iA (n6 b vs.length ars.length (j + 1)).fst.value, .tref 6, iA 0, .tref 7, .tref 8]) G [0, 1, 2, 3, 4, 9, 6, 7, 8] (by show _ = AV.ren (nth [0, 1, 2, 3, 4, 9, 6, 7, 8]) (K7 b vs ars d j); unfold K7; have e1 : ((t7 b vs.length ars.length d j).fst.kind : Int) = (nm b j C8) := (by rw [aU2 (by omega) (by omega)]; show (3 : Int) = _; omega); rw [e1, aU2 (by omega) (by omega)] <;> rfl) (by show _ = mR [0, 1, 2, 3, 4, 9, 6, 7, 8] (K6 b vs ars bd d j); unfold K6; rw [aU2 (by omega) (by omega)] <;> rfl)
  ·
   have q0 := eq_of_beq h0; refine w3 G (z4 (fc h0 fz) (us [(3, 6, 0), (1007, 1007, 0)])) (ag5 n [(7, iA (nm b j C8)), (8, .ptr 7 0), (27, bA (decide ((ars.length : Int) > 0)))]) fun G => b5 (I2 G (fun h9 q9 => ?_) fun h9 q9 => ?_)
   ·
    refine wp_seq ?_; cases h10 : (nm b j C8 == 3)
    ·
     have q10 := ne_of_beq_false h10; refine w3 G (z4 (fc h10 fz) [(3, 0), (4, 0), (1005, 0)]) (ag5 n [(7, iA (nm b j C8)), (8, .ptr 7 0), (50, bA false)]) fun G => b5 (rF G false (by kernel_rfl) (wp_seq ?_)); cases h11 : (nm b j C8 == 4)
     ·
      have q11 := ne_of_beq_false h11; refine d9 G (z4 (fc h11 fz) [(3, 0), (4, 0), (1005, 0)]) [(79, bA false)] fun G => b5 (rF G false (by kernel_rfl) (wp_seq (wp_seq (w3 G c3 (O9 [(15, bA (nm b j C8 != 5))]) fun G => b5 ?_)))); cases h12 : (nm b j C8 != 5)
      · have q12 := bne_eq_false_iff_eq.1 h12; exact False.elim (by omega)
      · have q12 := bne_iff_ne.1 h12; refine rT G _ h12 (e5 G c3 (rg 8) (.box [.ref 1, iA (j + 1)] :: (I4 b vs ars bd [aF3])) (O9 []) fun G => b5 (wp_seq (e5 G (n5 4 [0, 1] (B3 b (j + 1) ((vs.length : Int)) (by omega) (by omega))) (rg 8) (.box [.ref 1, iA (j + 1 + 1)] :: (I4 b vs ars bd [a09 b vs j])) (O9 []) fun G => b5 (e5 G (n5 2 (rg 5) (V0 b vs ars bd (j + 1 + 1) (by omega) (by omega))) [0, 1, 2, 3, 4, 6, 7, 24] [Q3 b vs ars j, dY b, dI vs, dI ars, dT bd, ag6, a12 b vs ars j, ac7 b vs ars j] [(6, .ptr 5 0), (8, .ptr 6 0)] fun G => i9 (b5 (wp_seq (e5 G c3 [0, 1, 2, 3, 4, 5, 7] [Q3 b vs ars j, dY b, dI vs, dI ars, dT bd, a11 b vs ars j, ac7 b vs ars j] [(6, .ptr 5 0)] fun G => b5 (wp_ret ?_)))))))); obtain ⟨ρ, G⟩ := G.nilT 7 (.exprs []) (aZ9 b vs ars bd j []) [(6, .ptr 5 0)]; obtain ⟨ρ, G⟩ := G.nilT 8 (.stmts []) (a00 b vs ars bd j []) [(6, .ptr 5 0)]; obtain ⟨ρ, G⟩ := G.nilT 9 (.stmts []) (a01 b vs ars bd j []) [(6, .ptr 5 0)]; exact M0 (.agg [iA 1, iA (pk b (j + 1) (vs.length : Int)), iA 0, iA 0, .tref 7, iA (n6 b vs.length ars.length (j + 1 + 1)).fst.kind, iA (n6 b vs.length ars.length (j + 1 + 1)).fst.value, .tref 6, iA 0, .tref 8, .tref 9]) G [0, 1, 2, 3, 4, 7, 6, 8, 9] (by show _ = AV.ren (nth [0, 1, 2, 3, 4, 7, 6, 8, 9]) (K7 b vs ars d j); unfold K7; rw [X9 (by omega) (by omega), aQ5 (by omega)] <;> rfl) (by show _ = mR [0, 1, 2, 3, 4, 7, 6, 8, 9] (K6 b vs ars bd d j); unfold K6; rw [X9 (by omega) (by omega), aQ5 (by omega)] <;> rfl)
     · have q11 := eq_of_beq h11; exact False.elim (by omega)
    · have q10 := eq_of_beq h10; exact False.elim (by omega)
   ·
    refine wp_seq (e5 G (n5 4 [0, 1] (B3 b (j + 1) ((ars.length : Int)) (by omega) (by omega))) (rg 8) (.box [.ref 1, iA (j + 1 + 1)] :: (I4 b vs ars bd [.box [iA (nm b j C8), iA (pk b (j + 1) (ars.length : Int)), iA 0, iA 0, .v (.slice none 0 0), iA 0, iA 0, .v (.slice none 0 0), iA 0, .v (.slice none 0 0), .v (.slice none 0 0)]])) (O9 []) fun G => b5 (wp_seq (e5 G (n5 2 (rg 5) (am6 b (j + 1 + 1) vs ars bd (by omega) (by omega))) [0, 1, 2, 3, 4, 5, 6, 7, 24] (.box [.ref 1, iA (j + 1 + 1 + 2)] :: (I4 b vs ars bd [.box [iA (nm b j C8), iA (pk b (j + 1) (ars.length : Int)), iA (j5 b (vs.length : Int) (j + 1 + 1)).kind, iA (j5 b (vs.length : Int) (j + 1 + 1)).value, .tref 8, iA 0, iA 0, .v (.slice none 0 0), iA 0, .v (.slice none 0 0), .v (.slice none 0 0)], .tree (D.exprs (j5 b (vs.length : Int) (j + 1 + 1)).kids)])) (O9 []) fun G => b5 (e5 G (n5 2 (rg 5) (V0 b vs ars bd (j + 1 + 1 + 2) (by omega) (by omega))) [0, 1, 2, 3, 4, 6, 7, 8, 25] (.box [.ref 1, iA (n6 b vs.length ars.length (j + 1 + 1 + 2)).snd] :: dY b :: dI vs :: dI ars :: dT bd :: ag6 :: .box [iA (nm b j C8), iA (pk b (j + 1) (ars.length : Int)), iA (j5 b (vs.length : Int) (j + 1 + 1)).kind, iA (j5 b (vs.length : Int) (j + 1 + 1)).value, .tref 7, iA (n6 b vs.length ars.length (j + 1 + 1 + 2)).fst.kind, iA (n6 b vs.length ars.length (j + 1 + 1 + 2)).fst.value, .tref 8, iA 0, .v (.slice none 0 0), .v (.slice none 0 0)] :: (aZ8 b vs ars j [])) [(6, .ptr 5 0), (8, .ptr 6 0)] fun G => i9 (b5 (wp_seq (e5 G c3 [0, 1, 2, 3, 4, 5, 7, 8] (.box [.ref 1, iA (n6 b vs.length ars.length (j + 1 + 1 + 2)).snd] :: dY b :: dI vs :: dI ars :: dT bd :: .box [iA (nm b j C8), iA (pk b (j + 1) (ars.length : Int)), iA (j5 b (vs.length : Int) (j + 1 + 1)).kind, iA (j5 b (vs.length : Int) (j + 1 + 1)).value, .tref 6, iA (n6 b vs.length ars.length (j + 1 + 1 + 2)).fst.kind, iA (n6 b vs.length ars.length (j + 1 + 1 + 2)).fst.value, .tref 7, iA 0, .v (.slice none 0 0), .v (.slice none 0 0)] :: (aZ8 b vs ars j [])) [(6, .ptr 5 0)] fun G => b5 (wp_ret ?_)))))))); obtain ⟨ρ, G⟩ := G.nilT 8 (.stmts []) (.box [.ref 1, iA (n6 b vs.length ars.length (j + 1 + 1 + 2)).snd] :: dY b :: dI vs :: dI ars :: dT bd :: .box [iA (nm b j C8), iA (pk b (j + 1) (ars.length : Int)), iA (j5 b (vs.length : Int) (j + 1 + 1)).kind, iA (j5 b (vs.length : Int) (j + 1 + 1)).value, .tref 6, iA (n6 b vs.length ars.length (j + 1 + 1 + 2)).fst.kind, iA (n6 b vs.length ars.length (j + 1 + 1 + 2)).fst.value, .tref 7, iA 0, .tref 8, .v (.slice none 0 0)] :: (aZ8 b vs ars j [])) [(6, .ptr 5 0)]; obtain ⟨ρ, G⟩ := G.nilT 9 (.stmts []) (.box [.ref 1, iA (n6 b vs.length ars.length (j + 1 + 1 + 2)).snd] :: dY b :: dI vs :: dI ars :: dT bd :: .box [iA (nm b j C8), iA (pk b (j + 1) (ars.length : Int)), iA (j5 b (vs.length : Int) (j + 1 + 1)).kind, iA (j5 b (vs.length : Int) (j + 1 + 1)).value, .tref 6, iA (n6 b vs.length ars.length (j + 1 + 1 + 2)).fst.kind, iA (n6 b vs.length ars.length (j + 1 + 1 + 2)).fst.value, .tref 7, iA 0, .tref 8, .tref 9] :: (aZ8 b vs ars j [.tree (D.stmts [])])) [(6, .ptr 5 0)]
    exact M0 (.agg [iA (nm b j C8), iA (pk b (j + 1) (ars.length : Int)), iA (j5 b (vs.length : Int) (j + 1 + 1)).kind, iA (j5 b (vs.length : Int) (j + 1 + 1)).value, .tref 6, iA (n6 b vs.length ars.length (j + 1 + 1 + 2)).fst.kind, iA (n6 b vs.length ars.length (j + 1 + 1 + 2)).fst.value, .tref 7, iA 0, .tref 8, .tref 9]) G [0, 1, 2, 3, 4, 6, 7, 8, 9] (by show _ = AV.ren (nth [0, 1, 2, 3, 4, 6, 7, 8, 9]) (K7 b vs ars d j); unfold K7; have e1 : ((t7 b vs.length ars.length d j).fst.kind : Int) = (nm b j C8) := (by rw [bd6 (by omega) (by omega)]; show (2 : Int) = _; omega); rw [e1, bd6 (by omega) (by omega)] <;> rfl) (by show _ = mR [0, 1, 2, 3, 4, 6, 7, 8, 9] (K6 b vs ars bd d j); unfold K6; rw [bd6 (by omega) (by omega)] <;> rfl)
theorem aR9 (b : List UInt8) (vs ars : List Int) (bd : List b6) (d : Nat) (h : ∀ (j n : Int), n = d → 0 ≤ j → j + cS d ≤ 600000000 → d8.ok Tryz.prog (dsC b vs ars bd d j n)) (m : Nat) (j n c B : Int) (hn : n = d) (hm : c = m) (hm2 : m ≤ 4) (hB : (m : Int) * cS d ≤ B) (r0 : 0 ≤ j) (r1 : j + B ≤ 600000000) : d8.ok Tryz.prog (dbC b vs ars bd d m j n c) :=
 bq4 b vs ars bd d m h j n c hn hm hm2 B hB r0 r1
theorem bl1 (b : List UInt8) (vs ars : List Int) (bd : List b6) : ∀ (d : Nat), d ≤ 3 → ∀ (j n : Int), n = d → 0 ≤ j → j + cS d ≤ 600000000 → d8.ok Tryz.prog (dsC b vs ars bd d j n)
 | 0, hd, j, n, hn, r0, r1 => be4 b vs ars bd 0 (by omega) (fun j n c h => absurd h (by omega)) j n hn r0 r1
 | d + 1, hd, j, n, hn, r0, r1 => be4 b vs ars bd (d + 1) hd (fun j n c h hn h0 h2 r0 r1 => aR9 b vs ars bd d (bl1 b vs ars bd d (by omega)) c.toNat j n c (2 * cS d) (by omega) (by omega) (by omega) (bK8 h0 h2 (Int.le_trans (by decide) (ao4 d))) r0 (by simpa using r1)) j n hn r0 r1
theorem bP7 : cS 3 = 34170 := by decide
theorem bF0 (b : List UInt8) (vs ars : List Int) (bd : List b6) (j n c : Int) (hn : n = 3) (h0 : 0 ≤ c) (h4 : c ≤ 4) (r0 : 0 ≤ j) (r1 : j ≤ 100000000) : d8.ok Tryz.prog (dbC b vs ars bd 3 c.toNat j n c) :=
 aR9 b vs ars bd 3 (bl1 b vs ars bd 3 (by omega)) c.toNat j n c (4 * cS 3) (by omega) (by omega) (by omega) (bT8 h0 h4 (by rw [bP7]; decide)) r0 (by rw [bP7]; omega)
abbrev pgC (b : List UInt8) (j : Int) : d8 := ⟨57, [.ptr 0 0], [.box [.ref 1, iA j], dY b], [.box [.ref 1, iA (T2 b j).2], dY b] ++ oP (pgD b j), oA 2⟩
theorem a35 {b : List UInt8} {l : List Int} {n i p : Int} (h : i > 0) (h2 : i ≤ n) : nsD b l (n - (i - 1)).toNat p = nsD b l (n - i).toNat p ++ [nm b (p + (n - i)) l] := by
 rw [show (n - (i - 1)).toNat = (n - i).toNat + 1 by omega, bh3, show (((n - i).toNat : Nat) : Int) = n - i by omega]
theorem a34 {b : List UInt8} {l : List Int} {n p : Int} : nsD b l (n - n).toNat p = [] := by rw [Int.sub_self]; rfl
theorem m0 (vs ars : List Int) (bd : List b6) (hb : c9 bd ≤ 1048576) : d8.ok Tryz.prog (C9 38 [pA 0] [dI vs, dI ars, dT bd] (bA (e6 ⟨vs, ars, bd⟩))) := O0 ⟨vs, ars, bd⟩ hb
theorem bT5 {b : List UInt8} {j : Int} (h : e6 ⟨Z9 b j, asD b j, (z8 (t7 b (Z9 b j).length (asD b j).length 3) (nm b (kp2 b j) nbL).toNat (kp2 b j + 1)).1⟩ = true) : pgD b j = ⟨Z9 b j, asD b j, (T2 b j).1⟩ := if_pos h
theorem bT4 {b : List UInt8} {j : Int} (h : e6 ⟨Z9 b j, asD b j, (z8 (t7 b (Z9 b j).length (asD b j).length 3) (nm b (kp2 b j) nbL).toNat (kp2 b j + 1)).1⟩ = false) : pgD b j = fbP := if_neg (by intro h2; have h3 : e6 ⟨Z9 b j, asD b j, (z8 (t7 b (Z9 b j).length (asD b j).length 3) (nm b (kp2 b j) nbL).toNat (kp2 b j + 1)).1⟩ = true := h2; rw [h] at h3; cases h3)
theorem bJ9 (b : List UInt8) (j : Int) : j + 1 + (nm b j V7 - 0) = A6 b j := by unfold A6; omega
theorem bJ8 (b : List UInt8) (j : Int) : nsD b viL (nm b j V7 - 0).toNat (j + 1) = Z9 b j := by unfold Z9; rw [Int.sub_zero]
theorem bJ7 (b : List UInt8) (j : Int) : A6 b j + 1 + (nm b (A6 b j) T4 - 0) = kp2 b j := by unfold kp2; omega
theorem bJ6 (b : List UInt8) (j : Int) : nsD b aiL (nm b (A6 b j) T4 - 0).toNat (A6 b j + 1) = asD b j := by unfold asD; rw [Int.sub_zero]
abbrev an2 (b : List UInt8) (j : Int) := z8 (t7 b (Z9 b j).length (asD b j).length 3) (nm b (kp2 b j) nbL).toNat (kp2 b j + 1)
abbrev a08 (b : List UInt8) (j : Int) : List It := [.box [.ref 1, iA (T2 b j).snd], dY b, .row 3 (D.ints (pgD b j).vars), .row 3 (D.ints (pgD b j).arrays), .tree (D.stmts (pgD b j).body)]
abbrev I5 : It := .box [.v (.slice none 0 0), .v (.slice none 0 0), .v (.slice none 0 0)]
abbrev aL4 : It := .box [.ref 4, .v (.slice none 0 0), .v (.slice none 0 0)]
abbrev bb9 : It := .tree (D.stmts [b6.mk 1 1 (b7.mk 0 0 []) (b7.mk 2 0 []) 0 [] []])
theorem aR7 (b : List UInt8) (j : Int) (r0 : 0 ≤ j) (r1 : j ≤ 10000000) : d8.ok Tryz.prog (pgC b j) := by
  refine t8 52 Tryz.func57 [.box [.ref 1, iA j], dY b] [(0, .ptr 0 0)] fun G => ?_; have hnv := bC3 b r0 (by omega); have hk1 := bi5 b r0 r1; have hk2 := a44 b r0 r1; have hna := bC6 b (k := A6 b j) (by omega) (by omega); have hnb := bK6 b (k := kp2 b j) (by omega) (by omega); have hvl := bc3 b r0 r1; have hal := bn3 b r0 r1; have hbd := a63 b r0 r1; have hbs : c9 (z8 (t7 b (Z9 b j).length (asD b j).length 3) (nm b (kp2 b j) nbL).toNat (kp2 b j + 1)).1 ≤ 1048576 := bX9 hbd.2.2 (by omega); refine wp_seq (e5 G c3 [0, 1, 2] [.box [.ref 1, iA j], dY b, I5] [(0, .ptr 0 0), (2, .ptr 2 0)] fun G => b5 (wp_seq (e5 G c3 [0, 1, 2, 11] [.box [.ref 1, iA j], dY b, I5, I5] [(0, .ptr 0 0), (2, .ptr 2 0), (3, .ptr 3 0)] fun G => b5 (wp_seq (wp_seq (e5 G (n5 2 [0, 1, 12] (d8.lend (E8 b j V7 (List.cons_ne_nil _ _) (by assumption) (by omega)) [.no, .no, .row 3])) (rg 4) [.box [.ref 1, iA (j + 1)], dY b, I5, I5] [(0, .ptr 0 0), (2, .ptr 2 0), (3, .ptr 3 0), (4, iA (nm b j V7))] fun G => b5 (wp_block ?_))))))); have Gx := G.nil 4 3 (.ints []) 1 [.box [.ref 1, iA (j + 1)], dY b, I5, aL4] [(0, .ptr 0 0), (2, .ptr 2 0), (3, .ptr 3 0), (4, iA (nm b j V7))]; clear G; obtain ⟨ρ, G⟩ := Gx; replace G := l7.at G [.box [.ref 1, iA (j + 1)], dY b, I5, aL4, .row 3 (D.ints [])] [(0, .ptr 0 0), (2, .ptr 2 0), (3, .ptr 3 0), (4, iA (nm b j V7))]; replace G := G.as [.box [.ref 1, iA (j + 1 + (nm b j V7 - nm b j V7))], dY b, .box [.v (.slice none 0 0), .v (.slice none 0 0), .v (.slice none 0 0)], .box [.ref 4, .v (.slice none 0 0), .v (.slice none 0 0)], .row 3 (D.ints (nsD b viL (nm b j V7 - nm b j V7).toNat (j + 1)))] [(0, .ptr 0 0), (2, .ptr 2 0), (3, .ptr 3 0), (4, iA (nm b j V7))] (by have e1 : (j + 1 + (nm b j V7 - nm b j V7) : Int) = (j + 1) := (by omega); have e2 : (nsD b viL (nm b j V7 - nm b j V7).toNat (j + 1) : List Int) = ([]) := a34; (first | rw [e1, e2] | simp only [e1, e2]) <;> rfl) (by kernel_rfl); refine k8 (κ := Int) (fun i => 0 ≤ i ∧ i ≤ nm b j V7) (fun i => i.toNat) (fun i => [.box [.ref 1, iA (j + 1 + (nm b j V7 - i))], dY b, .box [.v (.slice none 0 0), .v (.slice none 0 0), .v (.slice none 0 0)], .box [.ref 4, .v (.slice none 0 0), .v (.slice none 0 0)], .row 3 (.ints (nsD b viL (nm b j V7 - i).toNat (j + 1)))]) (fun i => [(0, .ptr 0 0), (2, .ptr 2 0), (3, .ptr 3 0), (4, iA i)]) (nm b j V7) (by omega) (l7.at G _ _) ?_; clear G; intro i ρ a w hp G; replace G := l7.at G [.box [.ref 1, iA (j + 1 + (nm b j V7 - i))], dY b, I5, aL4, .row 3 (D.ints (nsD b viL (nm b j V7 - i).toNat (j + 1)))] [(0, .ptr 0 0), (2, .ptr 2 0), (3, .ptr 3 0), (4, iA i)]; have hlen : (nsD b viL (nm b j V7 - i).toNat (j + 1)).length = (nm b j V7 - i).toNat := aa4 _ _ _ _; refine wp_seq (wp_seq (w3 G c3 [(0, .ptr 0 0), (2, .ptr 2 0), (3, .ptr 3 0), (4, iA i), (11, bA (decide (i > 0)))] fun G => b5 ?_)); cases h0 : (decide (i > 0))
  ·
   have q0 := O4 h0
   obtain rfl : i = 0 := by omega
   rw [bJ9, bJ8] at G; refine rF G false (by kernel_rfl) (wp_exit (j9 (j9 (j7 (b5 (wp_seq (wp_seq (e5 G (n5 2 [0, 1, 13] (d8.lend (E8 b (A6 b j) T4 (by simp [h0]) (by omega) (by omega)) [.no, .no, .row 3])) (rg 5) [.box [.ref 1, iA (A6 b j + 1)], dY b, I5, aL4, .row 3 (D.ints (Z9 b j))] [(0, .ptr 0 0), (2, .ptr 2 0), (3, .ptr 3 0), (5, iA (nm b (A6 b j) T4))] fun G => b5 (wp_block ?_))))))))); have Gx := G.nil 5 3 (.ints []) 1 [.box [.ref 1, iA (A6 b j + 1)], dY b, I5, .box [.ref 4, .ref 5, .v (.slice none 0 0)], .row 3 (D.ints (Z9 b j))] [(0, .ptr 0 0), (2, .ptr 2 0), (3, .ptr 3 0), (5, iA (nm b (A6 b j) T4))]; clear G; obtain ⟨ρ, G⟩ := Gx; replace G := l7.at G [.box [.ref 1, iA (A6 b j + 1)], dY b, I5, .box [.ref 4, .ref 5, .v (.slice none 0 0)], .row 3 (D.ints (Z9 b j)), .row 3 (D.ints [])] [(0, .ptr 0 0), (2, .ptr 2 0), (3, .ptr 3 0), (5, iA (nm b (A6 b j) T4))]; have Gx := G.nilT 6 (.stmts []) [.box [.ref 1, iA (A6 b j + 1)], dY b, I5, .box [.ref 4, .ref 5, .tref 6], .row 3 (D.ints (Z9 b j)), .row 3 (D.ints [])] [(0, .ptr 0 0), (2, .ptr 2 0), (3, .ptr 3 0), (5, iA (nm b (A6 b j) T4))]; clear G; obtain ⟨ρ, G⟩ := Gx; replace G := l7.at G [.box [.ref 1, iA (A6 b j + 1)], dY b, I5, .box [.ref 4, .ref 5, .tref 6], .row 3 (D.ints (Z9 b j)), .row 3 (D.ints []), .tree (D.stmts [])] [(0, .ptr 0 0), (2, .ptr 2 0), (3, .ptr 3 0), (5, iA (nm b (A6 b j) T4))]; replace G := G.as [.box [.ref 1, iA (A6 b j + 1 + (nm b (A6 b j) T4 - nm b (A6 b j) T4))], dY b, .box [.v (.slice none 0 0), .v (.slice none 0 0), .v (.slice none 0 0)], .box [.ref 4, .ref 5, .tref 6], .row 3 (D.ints (Z9 b j)), .row 3 (D.ints (nsD b aiL (nm b (A6 b j) T4 - nm b (A6 b j) T4).toNat (A6 b j + 1))), .tree (D.stmts [])] [(0, .ptr 0 0), (2, .ptr 2 0), (3, .ptr 3 0), (5, iA (nm b (A6 b j) T4))] (by have e1 : (A6 b j + 1 + (nm b (A6 b j) T4 - nm b (A6 b j) T4) : Int) = (A6 b j + 1) := (by omega); have e2 : (nsD b aiL (nm b (A6 b j) T4 - nm b (A6 b j) T4).toNat (A6 b j + 1) : List Int) = ([]) := a34; (first | rw [e1, e2] | simp only [e1, e2]) <;> rfl) (by kernel_rfl); refine k8 (κ := Int) (fun i2 => 0 ≤ i2 ∧ i2 ≤ nm b (A6 b j) T4) (fun i2 => i2.toNat) (fun i2 => [.box [.ref 1, iA (A6 b j + 1 + (nm b (A6 b j) T4 - i2))], dY b, .box [.v (.slice none 0 0), .v (.slice none 0 0), .v (.slice none 0 0)], .box [.ref 4, .ref 5, .tref 6], .row 3 (D.ints (Z9 b j)), .row 3 (.ints (nsD b aiL (nm b (A6 b j) T4 - i2).toNat (A6 b j + 1))), .tree (D.stmts [])]) (fun i2 => [(0, .ptr 0 0), (2, .ptr 2 0), (3, .ptr 3 0), (5, iA i2)]) (nm b (A6 b j) T4) (by omega) (l7.at G _ _) ?_; clear G; intro i2 ρ a w hp G; replace G := l7.at G [.box [.ref 1, iA (A6 b j + 1 + (nm b (A6 b j) T4 - i2))], dY b, I5, .box [.ref 4, .ref 5, .tref 6], .row 3 (D.ints (Z9 b j)), .row 3 (D.ints (nsD b aiL (nm b (A6 b j) T4 - i2).toNat (A6 b j + 1))), .tree (D.stmts [])] [(0, .ptr 0 0), (2, .ptr 2 0), (3, .ptr 3 0), (5, iA i2)]; have hlen : (nsD b aiL (nm b (A6 b j) T4 - i2).toNat (A6 b j + 1)).length = (nm b (A6 b j) T4 - i2).toNat := aa4 _ _ _ _; refine wp_seq (wp_seq (w3 G c3 [(0, .ptr 0 0), (2, .ptr 2 0), (3, .ptr 3 0), (5, iA i2), (26, bA (decide (i2 > 0)))] fun G => b5 ?_)); cases h1 : (decide (i2 > 0))
   ·
    have q1 := O4 h1
    obtain rfl : i2 = 0 := by omega
    rw [bJ7, bJ6] at G; refine rF G false (by kernel_rfl) (wp_exit (j9 (j9 (j7 (b5 (wp_seq (F6 G (l9 (f6 4 [0, 1, 31] (d8.lend (E8 b (kp2 b j) nbL (by simp [h0, h1]) (by omega) (by omega)) [.no, .no, .row 3]) (f6 5 [0, 1, 4, 5, 6] (d8.lend (bF0 b (Z9 b j) (asD b j) ([]) (kp2 b j + 1) 3 (nm b (kp2 b j) nbL) (by kernel_rfl) (by omega) (by omega) (by omega) (by omega)) [.no, .no, .row 3, .row 3, .tree]) l8)) fz []) [0, 0, 0, 0, 12, 31, 63, 127] [0, 1, 2, 3, 4, 5, 47] [.box [.ref 1, iA (an2 b j).snd], dY b, I5, .box [.ref 4, .ref 5, .tref 6], .row 3 (D.ints (Z9 b j)), .row 3 (D.ints (asD b j)), .tree (D.stmts (an2 b j).fst)] [(2, .ptr 2 0), (3, .ptr 3 0)] fun G => b5 (wp_seq (wp_seq (d9 G (n5 1 [4, 5, 6] (d8.lend (m0 (Z9 b j) (asD b j) ((z8 (t7 b (Z9 b j).length (asD b j).length 3) (nm b (kp2 b j) nbL).toNat (kp2 b j + 1)).fst) (by assumption)) [.row 3, .row 3, .tree])) [(45, bA (e6 (b8.mk (Z9 b j) (asD b j) (an2 b j).fst)))] fun G => b5 (rcB (b := e6 (b8.mk (Z9 b j) (asD b j) (z8 (t7 b (Z9 b j).length (asD b j).length (3 : Nat)) (nm b (kp2 b j) nbL).toNat (kp2 b j + 1)).fst)) G (fun h2 => ?_) fun h2 => ?_)))))))))))
    · refine wp_skip (b5 (wp_seq (e5 G c3 [0, 1, 2, 7, 31] [.box [.ref 1, iA (an2 b j).snd], dY b, .box [.ref 3, .v (.slice none 0 0), .tref 4], .row 3 (D.ints ([0] ++ ([1] ++ []))), bb9] [(2, .ptr 2 0)] fun G => b5 (wp_ret ?_)))); have Gx := G.nil 5 3 (.ints []) 1 [.box [.ref 1, iA (an2 b j).snd], dY b, .box [.ref 3, .ref 5, .tref 4], .row 3 (D.ints ([0] ++ ([1] ++ []))), bb9] [(2, .ptr 2 0)]; clear G; obtain ⟨ρ, G⟩ := Gx; replace G := l7.at G [.box [.ref 1, iA (an2 b j).snd], dY b, .box [.ref 3, .ref 5, .tref 4], .row 3 (D.ints ([0] ++ ([1] ++ []))), bb9, .row 3 (D.ints [])] [(2, .ptr 2 0)]; exact A3 G [0, 1, 3, 5, 4] (by show _ = mR [0, 1, 3, 5, 4] (a08 b j); unfold a08; rw [bT4 (by with_reducible assumption)] <;> rfl)
    · refine wp_seq (e5 G c3 [0, 1, 2, 4, 5, 6] [.box [.ref 1, iA (an2 b j).snd], dY b, .box [.ref 3, .ref 4, .tref 5], .row 3 (D.ints (Z9 b j)), .row 3 (D.ints (asD b j)), .tree (D.stmts (an2 b j).fst)] [(2, .ptr 2 0)] fun G => b5 (wp_ret (c8 ?_))); exact A3 G [0, 1, 3, 4, 5] (by show _ = mR [0, 1, 3, 4, 5] (a08 b j); unfold a08; rw [bT5 (by with_reducible assumption)] <;> rfl)
   · have q1 := O3 h1; refine rT G _ h1 (wp_skip (b5 (wp_seq (wp_block (F0 G (n5 4 [0, 1, 31] (d8.lend (E8 b (A6 b j + 1 + (nm b (A6 b j) T4 - i2)) aiL (by simp [h0, h1]) (by omega) (by omega)) [.no, .no, .row 3])) [0, 1, 0, 0, 12, 28, 63, 127, 255] [0, 1, 2, 3, 4, 6, 55] [.box [.ref 1, iA (A6 b j + 1 + (nm b (A6 b j) T4 - i2) + 1)], dY b, I5, .box [.ref 4, .ref 6, .tref 5], .row 3 (D.ints (Z9 b j)), .tree (D.stmts []), .row 3 (D.ints (nsD b aiL (nm b (A6 b j) T4 - i2).toNat (A6 b j + 1) ++ ([nm b (A6 b j + 1 + (nm b (A6 b j) T4 - i2)) aiL] ++ [])))] [(0, .ptr 0 0), (2, .ptr 2 0), (3, .ptr 3 0), (5, iA i2)] (aP ((nsD b aiL (nm b (A6 b j) T4 - i2).toNat (A6 b j + 1)).length + ([nm b (A6 b j + 1 + (nm b (A6 b j) T4 - i2)) aiL] ++ []).length) 8 []) (aK (by simp only [bX5, bX2, bY9, aa4]; omega) bX6) fun G => i9 (b5 (z5 G c3 [(5, iA (i2 - 1))] [wO (i2 - 1)] (o1 (by omega)) fun G => b5 ?_))))))); exact H3 G (i2 - 1) (by omega) (by omega) [0, 1, 2, 3, 4, 6, 5] (by have e1 : (A6 b j + 1 + (nm b (A6 b j) T4 - (i2 - 1)) : Int) = (A6 b j + 1 + (nm b (A6 b j) T4 - i2) + 1) := (by omega); have e2 : (nsD b aiL (nm b (A6 b j) T4 - (i2 - 1)).toNat (A6 b j + 1) : List Int) = (nsD b aiL (nm b (A6 b j) T4 - i2).toNat (A6 b j + 1) ++ ([nm b (A6 b j + 1 + (nm b (A6 b j) T4 - i2)) aiL] ++ [])) := (a35 (by omega) (by omega)); (first | rw [e1, e2] | simp only [e1, e2]) <;> rfl)
  · have q0 := O3 h0; refine rT G _ h0 (wp_skip (b5 (wp_seq (wp_block (F0 G (n5 4 [0, 1, 29] (d8.lend (E8 b (j + 1 + (nm b j V7 - i)) viL (by simp [h0]) (by omega) (by omega)) [.no, .no, .row 3])) [0, 1, 0, 0, 12, 28, 63, 127, 255] [0, 1, 2, 3, 53] [.box [.ref 1, iA (j + 1 + (nm b j V7 - i) + 1)], dY b, I5, aL4, .row 3 (D.ints (nsD b viL (nm b j V7 - i).toNat (j + 1) ++ ([nm b (j + 1 + (nm b j V7 - i)) viL] ++ [])))] [(0, .ptr 0 0), (2, .ptr 2 0), (3, .ptr 3 0), (4, iA i)] (aP ((nsD b viL (nm b j V7 - i).toNat (j + 1)).length + ([nm b (j + 1 + (nm b j V7 - i)) viL] ++ []).length) 8 []) (aK (by simp only [bX5, bX2, bY9, aa4]; omega) bX6) fun G => i9 (b5 (z5 G c3 [(4, iA (i - 1))] [wO (i - 1)] (o1 (by omega)) fun G => b5 ?_))))))); exact H3 G (i - 1) (by omega) (by omega) (rg 5) (by have e1 : (j + 1 + (nm b j V7 - (i - 1)) : Int) = (j + 1 + (nm b j V7 - i) + 1) := (by omega); have e2 : (nsD b viL (nm b j V7 - (i - 1)).toNat (j + 1) : List Int) = (nsD b viL (nm b j V7 - i).toNat (j + 1) ++ ([nm b (j + 1 + (nm b j V7 - i)) viL] ++ [])) := (a35 (by omega) (by omega)); (first | rw [e1, e2] | simp only [e1, e2]) <;> rfl)
end Go.Proofs.YtgmhmijcnlfmfaaGreat
