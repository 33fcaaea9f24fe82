/- Part 5: functions on the way, plain laws. Conditions: as said. -/
import Derived.Deep.RegionWith
import Derived.Test.YtmokkddidcmglaaK1
import Derived.Test.YtmokkddidcmglaaK2
import Derived.Test.YtmokkddidcmglaaK3
import Derived.Test.YtmokkddidcmglaaK4
set_option maxRecDepth 100000
set_option maxHeartbeats 16000000
set_option linter.unusedVariables false
set_option linter.unusedSimpArgs false
open Bool renaming and_eq_true → bE8, not_eq_false' → bG2, not_eq_true' → bF8
open Inhabited renaming default → bF3
open Int renaming mul_le_mul_of_nonneg_right → bI9, tmod_eq_emod_of_nonneg → bI3
open List renaming all_eq_true → bF5, getD_eq_getElem?_getD → bF2, getElem?_append_left → bH1, getElem?_append_right → bI6, getElem?_cons_succ → bG9, getElem?_cons_zero → bG1, getElem?_eq_getElem → bF0, getElem?_eq_none → bH2, getElem?_eq_some_iff → bF6, getElem_mem → bG3, length_append → bH8, length_cons → bH3, map_cons → bH5, mem_append → bG8, mem_cons → bI2, mem_cons_of_mem → bG0, mem_cons_self → bF7, mem_map → bI7, mem_of_getElem? → bE9, mem_singleton → bH4, range → bH0, replicate → bG6, take → bG7, take_of_length_le → bF9
open Nat renaming le_refl → bG4, le_trans → bH6, lt_or_ge → bH7, zero_le → bI1
open True renaming intro → bF1

namespace Go.Proofs.Ytmokkddidcmglaa
open Go Go.RowKit
theorem br8 {l : List b5} {k : Nat} (hk : k < l.length) : l.take k ++ [⟨(l.getD k bF3).kind, (l.getD k bF3).value, (l.getD k bF3).kids⟩] = l.take (k + 1) := by
 rw [b5.eta, n8 _ _ hk, n6 hk]
theorem br7 {l : List b8} {k : Nat} (hk : k < l.length) : l.take k ++ [⟨(l.getD k bF3).kind, (l.getD k bF3).target, ⟨(l.getD k bF3).index.kind, (l.getD k bF3).index.value, (l.getD k bF3).index.kids⟩, ⟨(l.getD k bF3).value.kind, (l.getD k bF3).value.value, (l.getD k bF3).value.kids⟩, (l.getD k bF3).count, (l.getD k bF3).body, (l.getD k bF3).els⟩] = l.take (k + 1) := by
 rw [b5.eta, b5.eta, b8.eta, n8 _ _ hk, n6 hk]
theorem aU2 {α : Type} {l : List α} {k : Nat} (h1 : k ≤ l.length) (h2 : ¬ (k : Int) < l.length) : l.take k = l := by rw [bF9 (by omega)]
theorem a81 {α : Type} {l : List α} {k n : Nat} (h1 : k ≤ l.length) (h : l.length ≤ n) : (l.take k).length ≤ n := by rw [List.length_take]; omega
theorem a91 {e : b5} (h : G7 e ≤ 1048576) : e.kids.length ≤ 1048576 := by
 have h1 := aF1 e.kids
 have h2 : G7 e = m6 e.kids := by cases e; rfl
 omega
theorem a16 {l : List b8} (h : x9 l ≤ 1048576) : l.length ≤ 1048576 := bH6 (ae2 l) h
theorem bi1 {α : Type} {l : List α} {x : α} {k : Nat} (h1 : k ≤ l.length) (h : l.length ≤ 1048576) : (l.take k).length + [x].length ≤ 1048577 := by
 have := a81 (k := k) h1 h
 simp only [bH3, List.length_nil]; omega
theorem bw7 {a b : Nat} (ha : a ≤ 1048577) (hb : Nat.ble b 1000 = true) : a * b ≤ 140737488355328 := by
 have h1 := Nat.le_of_ble_eq_true hb
 have h2 := Nat.mul_le_mul ha h1
 omega
theorem as2 {l : List b5} {k : Nat} (h : (k : Int) < l.length) : l.getD k bF3 ∈ l := by rw [n6 (by omega)]; exact bG3 (by omega)
theorem as1 {l : List b8} {k : Nat} (h : (k : Int) < l.length) : l.getD k bF3 ∈ l := by rw [n6 (by omega)]; exact bG3 (by omega)
abbrev cpC (e : b5) : i6 := ⟨132, [eA e 0], eS e, eS e ++ [.tree (.exprs e.kids)], .agg [iA e.kind, iA e.value, .tref 1]⟩
abbrev aD4 (e : b5) (r0 : List It) : List It := dE e.kids :: .box (eL e 0) :: .box [iA 0, iA 0, .v (.slice none 0 0)] :: r0
theorem a55 (e : b5) (hb : G7 e ≤ 1048576) (ih : ∀ (x : b5), x ∈ e.kids → i6.ok Try.prog (cpC x)) : i6.ok Try.prog (cpC e) := by
 refine E2 29 Try.func132 [dE e.kids] [(0, eA e 0)] fun G => ?_; have hl := a91 hb; refine wp_seq (j7 G f7 [0, 1, 9] (aD4 e []) [(1, .ptr 1 0), (2, .ptr 2 0)] fun G => b6 (wp_seq (j7 G f7 [0, 1, 2, 43] (aD4 e [.box [iA e.kind, iA e.value, .v (.slice none 0 0)]]) [(1, .ptr 1 0), (2, .ptr 2 0), (3, .ptr 3 0)] fun G => b6 (wp_seq (wp_seq (J1 G f7 [(1, .ptr 1 0), (2, .ptr 2 0), (3, .ptr 3 0), (4, iA 0)] fun G => b6 (wp_block ?_))))))); obtain ⟨ρ, G⟩ := G.nilT 4 (.exprs []) (aD4 e [.box [iA e.kind, iA e.value, .tref 4]]) [(1, .ptr 1 0), (2, .ptr 2 0), (3, .ptr 3 0), (4, iA 0)]; refine A4 (κ := Nat) (fun k => k ≤ e.kids.length) (fun k => e.kids.length - k) (fun k => [dE e.kids, .box (eL e 0), .box [iA 0, iA 0, .v (.slice none 0 0)], .box [iA e.kind, iA e.value, .tref 4], .tree (.exprs (e.kids.take k))]) (fun k => [(1, .ptr 1 0), (2, .ptr 2 0), (3, .ptr 3 0), (4, iA k)]) 0 (by omega) (t7.at G _ _) ?_; clear G; intro k ρ a w hp G; replace G := t7.at G (aD4 e [.box [iA e.kind, iA e.value, .tref 4], .tree (D.exprs (bG7 k e.kids))]) [(1, .ptr 1 0), (2, .ptr 2 0), (3, .ptr 3 0), (4, iA k)]; refine wp_seq (wp_seq (l5 G f7 [(14, bA (decide ((k : Int) < e.kids.length)))] fun G => b6 (rcD G (fun h0 q0 => ?_) fun h0 q0 => ?_)))
 ·refine wp_exit (A2 (A2 (A1 (b6 (wp_seq (j7 G f7 [0, 2, 4] [dE e.kids, .box [iA e.kind, iA e.value, .tref 2], .tree (D.exprs (bG7 k e.kids))] [(2, .ptr 1 0)] fun G => b6 (wp_ret ?_))))))); exact I7 G [0, 2] (by show _ = mR [0, 2] [dE e.kids, .tree (D.exprs e.kids)]; have e1 : (bG7 k e.kids : List b5) = (e.kids) := (aU2 hp (by assumption)); (first | rw [e1] | simp only [e1]) <;> rfl)
 ·refine wp_skip (b6 (wp_seq (wp_block (R7 G (t8 7 [53] (ih (e.kids.getD k bF3) (as2 (by assumption)))) [0, 1, 0, 4, 0, 28, 60, 124, 252, 511, 1023, 2047] [0, 1, 2, 3, 77] (aD4 e [.box [iA e.kind, iA e.value, .tref 4], .tree (D.exprs (bG7 k e.kids ++ [F0 (e.kids.getD k bF3)]))]) [(1, .ptr 1 0), (2, .ptr 2 0), (3, .ptr 3 0), (4, iA k)] (iX k k e.kids.length (((bG7 k e.kids).length + [F0 (e.kids.getD k bF3)].length ≤ (9223372036854775807 : Nat)) :: ((((bG7 k e.kids).length + [F0 (e.kids.getD k bF3)].length) * (40 : Nat) ≤ (140737488355328 : Nat)) :: []))) (iK (by omega) ⟨(by have := bi1 (x := (bF3 : b5)) hp hl; simp only [bH3, List.length_nil] at this ⊢; omega), ⟨(bw7 (bi1 hp hl) (by kernel_rfl)), bF1⟩⟩) fun G => v7 (b6 (K5 G f7 [(4, iA ((k : Int) + 1))] [wO ((k : Int) + 1)] (o1 (by omega)) fun G => b6 ?_)))))); exact rxn G (k + 1) (by omega) (by omega) (rg 5) (by have e1 : (bG7 (k + 1) e.kids : List b5) = (bG7 k e.kids ++ [F0 (e.kids.getD k bF3)]) := ((br8 (by omega)).symm); (first | rw [e1] | simp only [e1]) <;> rfl)
theorem aX6 (e : b5) : G7 e ≤ 1048576 → i6.ok Try.prog (cpC e) :=
 b5.ind (P := fun e => G7 e ≤ 1048576 → i6.ok Try.prog (cpC e)) (fun k n ks ih hb => a55 ⟨k, n, ks⟩ hb fun x hx => ih x hx (by
  have h1 := aU4 (show x ∈ ks from hx)
  have h2 : G7 ⟨k, n, ks⟩ = m6 ks := rfl
  omega)) e
abbrev aJ4 (l : List b8) : i6 := ⟨104, [.ref 0], [dT l], [dT l, .tree (.stmts l)], .tref 1⟩
theorem aW8 {l : List b8} {k : Nat} (hb : x9 l ≤ 1048576) (h : (k : Int) < l.length) : G7 (l.getD k bF3).index ≤ 1048576 ∧ G7 (l.getD k bF3).value ≤ 1048576 ∧ x9 (l.getD k bF3).body ≤ 1048576 ∧ x9 (l.getD k bF3).els ≤ 1048576 := by
 have h1 := O8 (as1 h)
 generalize l.getD k bF3 = s at *
 rcases s with ⟨_, _, i, v, _, b, e⟩
 simp only [szS] at h1
 simp only [b8.index, b8.value, b8.body, b8.els]
 omega
abbrev an9 (k : Nat) (r0 : List (Nat × AV)) : List (Nat × AV) := (0, .ref 0) :: (2, .v (.slice none 0 0)) :: (3, .tref 1) :: (4, iA (k : Int)) :: r0
theorem ap6 (l : List b8) (hb : x9 l ≤ 1048576) (ih1 : ∀ (s : b8), s ∈ l → i6.ok Try.prog (aJ4 s.body)) (ih2 : ∀ (s : b8), s ∈ l → i6.ok Try.prog (aJ4 s.els)) : i6.ok Try.prog (aJ4 l) := by
  refine E2 38 Try.func104 [dT l] [(0, .ref 0)] fun G => ?_; have hl := a16 hb; refine wp_seq (l5 G f7 [(2, .v (.slice none 0 0))] fun G => b6 (wp_seq (j7 G f7 [0, 1] [dT l, .tree (D.stmts [])] [(0, .ref 0), (2, .v (.slice none 0 0)), (3, .tref 1)] fun G => b6 (wp_seq (wp_seq (J1 G f7 [(0, .ref 0), (2, .v (.slice none 0 0)), (3, .tref 1), (4, iA 0)] fun G => b6 (wp_block ?_))))))); refine A4 (κ := Nat) (fun k => k ≤ l.length) (fun k => l.length - k) (fun k => [dT l, .tree (.stmts (l.take k))]) (fun k => [(0, .ref 0), (2, .v (.slice none 0 0)), (3, .tref 1), (4, iA k)]) 0 (by omega) (t7.at G _ _) ?_; clear G; intro k ρ a w hp G; replace G := t7.at G [dT l, .tree (D.stmts (bG7 k l))] (an9 k []); refine wp_seq (wp_seq (l5 G f7 [(10, bA (decide ((k : Int) < l.length)))] fun G => b6 (rcD G (fun h0 q0 => ?_) fun h0 q0 => ?_)))
  · refine wp_exit (A2 (A2 (A1 (b6 (wp_seq (l5 G f7 [(2, .tref 1)] fun G => b6 (wp_ret ?_))))))); exact I7 G [0, 1] (by show _ = mR [0, 1] [dT l, .tree (D.stmts l)]; have e1 : (bG7 k l : List b8) = (l) := (aU2 hp (by assumption)); (first | rw [e1] | simp only [e1]) <;> rfl)
  ·
   refine wp_skip (b6 (wp_seq (wp_block (wp_seq (W0 G f7 [0, 1, 26, 27, 28, 29, 34] [dT l, .tree (D.stmts (bG7 k l)), dE (l.getD k bF3).index.kids, dE (l.getD k bF3).value.kids, dT (l.getD k bF3).body, dT (l.getD k bF3).els, .box (sL (l.getD k bF3) 2)] (an9 k [(5, .ptr 6 0)]) (iX k k l.length []) (iK (by omega) bF1) fun G => b6 (wp_seq (j7 G (t8 2 [2] (aX6 ((l.getD k bF3).index) ((aW8 hb (by assumption)).1))) [0, 1, 3, 4, 5, 6, 23] [dT l, .tree (D.stmts (bG7 k l)), dE (l.getD k bF3).value.kids, dT (l.getD k bF3).body, dT (l.getD k bF3).els, .box [iA (l.getD k bF3).kind, iA (l.getD k bF3).target, iA (l.getD k bF3).index.kind, iA (l.getD k bF3).index.value, .tref 6, iA (l.getD k bF3).value.kind, iA (l.getD k bF3).value.value, .ref 2, iA (l.getD k bF3).count, .ref 3, .ref 4], .tree (D.exprs (l.getD k bF3).index.kids)] (an9 k [(5, .ptr 5 0)]) fun G => b6 (wp_seq (j7 G (t8 2 [2] (aX6 ((l.getD k bF3).value) ((aW8 hb (by assumption)).2.1))) [0, 1, 3, 4, 5, 6, 23] [dT l, .tree (D.stmts (bG7 k l)), dT (l.getD k bF3).body, dT (l.getD k bF3).els, .box [iA (l.getD k bF3).kind, iA (l.getD k bF3).target, iA (l.getD k bF3).index.kind, iA (l.getD k bF3).index.value, .tref 5, iA (l.getD k bF3).value.kind, iA (l.getD k bF3).value.value, .tref 6, iA (l.getD k bF3).count, .ref 2, .ref 3], .tree (D.exprs (l.getD k bF3).index.kids), .tree (D.exprs (l.getD k bF3).value.kids)] (an9 k [(5, .ptr 4 0)]) fun G => b6 (wp_seq (j7 G (t8 2 [2] (ih1 (l.getD k bF3) (as1 (by assumption)))) [0, 1, 3, 4, 5, 6, 23] [dT l, .tree (D.stmts (bG7 k l)), dT (l.getD k bF3).els, .box [iA (l.getD k bF3).kind, iA (l.getD k bF3).target, iA (l.getD k bF3).index.kind, iA (l.getD k bF3).index.value, .tref 4, iA (l.getD k bF3).value.kind, iA (l.getD k bF3).value.value, .tref 5, iA (l.getD k bF3).count, .tref 6, .ref 2], .tree (D.exprs (l.getD k bF3).index.kids), .tree (D.exprs (l.getD k bF3).value.kids), .tree (D.stmts (l.getD k bF3).body)] (an9 k [(5, .ptr 3 0)]) fun G => b6 (wp_seq (j7 G (t8 2 [2] (ih2 (l.getD k bF3) (as1 (by assumption)))) [0, 1, 3, 4, 5, 6, 23] [dT l, .tree (D.stmts (bG7 k l)), .box [iA (l.getD k bF3).kind, iA (l.getD k bF3).target, iA (l.getD k bF3).index.kind, iA (l.getD k bF3).index.value, .tref 3, iA (l.getD k bF3).value.kind, iA (l.getD k bF3).value.value, .tref 4, iA (l.getD k bF3).count, .tref 5, .tref 6], .tree (D.exprs (l.getD k bF3).index.kids), .tree (D.exprs (l.getD k bF3).value.kids), .tree (D.stmts (l.getD k bF3).body), .tree (D.stmts (l.getD k bF3).els)] (an9 k [(5, .ptr 2 0)]) fun G => b6 (W0 G f7 [0, 31] [dT l, .tree (D.stmts (bG7 k l ++ [qzS (l.getD k bF3)]))] (an9 k []) [(bG7 k l).length + [qzS (l.getD k bF3)].length ≤ (9223372036854775807 : Nat), ((bG7 k l).length + [qzS (l.getD k bF3)].length) * (152 : Nat) ≤ (140737488355328 : Nat)] ⟨(by have := bi1 (x := (bF3 : b8)) hp hl; simp only [bH3, List.length_nil] at this ⊢; omega), (bw7 (bi1 hp hl) (by kernel_rfl)), bF1⟩ fun G => ?_))))))))))))))
   refine v7 (b6 (K5 G f7 [(4, iA ((k : Int) + 1))] [wO ((k : Int) + 1)] (o1 (by omega)) fun G => b6 ?_)); exact rxn G (k + 1) (by omega) (by omega) [0, 1] (by have e1 : (bG7 (k + 1) l : List b8) = (bG7 k l ++ [qzS (l.getD k bF3)]) := ((br7 (by omega)).symm); (first | rw [e1] | simp only [e1]) <;> rfl)
theorem bk1 (l : List b8) : x9 l ≤ 1048576 → i6.ok Try.prog (aJ4 l) := fun hb => ap6 l hb
 (fun s hs => (c_copyS2 s).1 (bH6 (Nat.le_of_lt (O8 hs)) hb)) fun s hs => (c_copyS2 s).2 (bH6 (Nat.le_of_lt (O8 hs)) hb)
where
 c_copyS2 (s : b8) : (szS s ≤ 1048576 → i6.ok Try.prog (aJ4 s.body)) ∧ (szS s ≤ 1048576 → i6.ok Try.prog (aJ4 s.els)) :=
  b8.ind (P := fun s => (szS s ≤ 1048576 → i6.ok Try.prog (aJ4 s.body)) ∧ (szS s ≤ 1048576 → i6.ok Try.prog (aJ4 s.els))) (fun k t i v c b e h1 h2 => by
   have hz : szS ⟨k, t, i, v, c, b, e⟩ = G7 i + G7 v + x9 b + x9 e := rfl
   constructor
   ·intro hb
    refine ap6 b (by omega) (fun s hs => (h1 s hs).1 ?_) fun s hs => (h1 s hs).2 ?_
    ·have := O8 hs; omega
    ·have := O8 hs; omega
   ·intro hb
    refine ap6 e (by omega) (fun s hs => (h2 s hs).1 ?_) fun s hs => (h2 s hs).2 ?_
    ·have := O8 hs; omega
    ·have := O8 hs; omega) s
theorem bc7 (p : f5) (hb : p.size ≤ 1048576) : i6.ok Try.prog ⟨65, [pA 0], pS p, pS p ++ oP p, oA 3⟩ := by
 refine E2 15 Try.func65 [dI p.vars, dI p.arrays, dT p.body] [(0, pA 0)] fun G => ?_
 have hb1 : p.vars.length ≤ 1048576 ∧ p.arrays.length ≤ 1048576 ∧ x9 p.body ≤ 1048576 := by unfold f5.size at hb; omega
 refine wp_seq (j7 G f7 [0, 1, 2, 3, 11] [dI p.vars, dI p.arrays, dT p.body, .box (pL 0), .box [.v (.slice none 0 0), .v (.slice none 0 0), .v (.slice none 0 0)]] [(1, .ptr 3 0), (2, .ptr 4 0)] fun G => b6 (wp_seq (R7 G (t8 10 [2] (bk1 p.body (by omega))) [0, 0, 2, 7, 0, 0, 32, 127, 0, 256, 1023, 2047, 4095] [0, 1, 2, 4, 29, 61, 85] [dI p.vars, dI p.arrays, dT p.body, .box [.ref 4, .ref 5, .tref 6], .row 3 (D.ints ([] ++ p.vars)), .row 3 (D.ints ([] ++ p.arrays)), .tree (D.stmts p.body)] [(2, .ptr 3 0)] (aP ((0 : Nat) + p.vars.length) 8 (aP ((0 : Nat) + p.arrays.length) 8 [])) (aK (by omega) (aK (by omega) bF1)) fun G => b6 (wp_ret ?_)))); exact I7 G [0, 1, 2, 4, 5, 6]
def au6 (vs ars : List Int) (e : b5) : Int := if e.kind = 2 then vs.getD e.value.toNat 0 else if e.kind = 3 then ars.getD e.value.toNat 0 else 0
def C0 (vs ars : List Int) : Nat → b5 → Int
 | 0, _ => 0
 | d + 1, e => e.kids.foldl (fun a k => orI a (C0 vs ars d k)) (au6 vs ars e)
def I1 (vs ars : List Int) (d : Nat) (x : Int) (ks : List b5) (k : Nat) : Int := (ks.take k).foldl (fun a k => orI a (C0 vs ars d k)) x
theorem ah9 {vs ars : List Int} {d k : Nat} {x : Int} {ks : List b5} (h : k < ks.length) : I1 vs ars d x ks (k + 1) = orI (I1 vs ars d x ks k) (C0 vs ars d (ks.getD k bF3)) := by
 unfold I1; rw [B9 ks k h, List.foldl_append, n6 h]; rfl
theorem ar1 {vs ars : List Int} {d k : Nat} {x : Int} {e : b5} (h : e.kids.length ≤ k) (hx : au6 vs ars e = x) : C0 vs ars (d + 1) e = I1 vs ars d x e.kids k := by
 unfold I1; rw [bF9 h, C0, hx]
section
variable {nv na d : Nat} {e : b5}
theorem aU6 (h : d7 nv na (d + 1) e = true) : r9 nv na e = true := by simp only [d7, bE8] at h; exact h.1.1
theorem aN4 (h : d7 nv na (d + 1) e = true) (k : e.kind = 2) : 0 ≤ e.value ∧ e.value < nv ∧ e.value.toNat < nv := by
 have := aU6 h
 simp [r9, w6, k] at this; omega
theorem aN6 (h : d7 nv na (d + 1) e = true) (k : e.kind = 3) : 0 ≤ e.value ∧ e.value < na ∧ e.value.toNat < na := by
 have := aU6 h
 simp [r9, w6, k] at this; omega
theorem aN5 {k : Nat} (h : d7 nv na (d + 1) e = true) (hk : k < e.kids.length) : d7 nv na d (e.kids.getD k bF3) = true := by
 simp only [d7, bE8] at h
 rw [n6 hk]; exact bF5.1 h.1.2 _ (bG3 hk)
end
theorem aZ6 : ∀ x : Fin 4, ∀ y : Fin 4, (anI x.val y.val == 0) = (orI x.val y.val == (y.val : Int)) := by decide +kernel
theorem af5 {x : Int} (h : m8 x = true) : ∃ a : Fin 4, x = (a.val : Int) := by
 simp [m8] at h
 exact ⟨⟨x.toNat, by omega⟩, by simp; omega⟩
theorem ba1 {x y : Int} (hx : m8 x = true) (hy : m8 y = true) : (anI x y == 0) = (orI x y == y) := by
 obtain ⟨a, rfl⟩ := af5 hx
 obtain ⟨b, rfl⟩ := af5 hy
 exact aZ6 a b
theorem bj9 (x y : Int) : i6.ok Try.prog (J3 44 [iA x, iA y] [] (bA (anI x y == 0))) := by
 refine E2 9 Try.func44 [] [(0, iA x), (1, iA y)] fun G => ?_; refine wp_seq (l5 G f7 [(4, bA false)] fun G => b6 (wp_seq (l5 G f7 [(4, bA (anI x y == 0))] fun G => b6 (wp_ret ?_)))); exact I7 G []
abbrev ad4 (e : b5) (k : Nat) (r0 : List (Nat × AV)) : List (Nat × AV) := (27, .ref 3) :: (28, iA (e.kids.length : Int)) :: (29, iA (k : Int)) :: r0
abbrev O4 (p : f5) (e : b5) (r0 : List It) : List It := dI p.vars :: dI p.arrays :: dT p.body :: dE e.kids :: r0
theorem bc3 (p : f5) (d : Nat) (ih : ∀ (e : b5), d7 p.vars.length p.arrays.length d e = true → i6.ok Try.prog (J3 45 [pA 0, eA e 3] (pS p ++ eS e) (iA (C0 p.vars p.arrays d e))))
    (e : b5) (he : d7 p.vars.length p.arrays.length (d + 1) e = true) : i6.ok Try.prog (J3 45 [pA 0, eA e 3] (pS p ++ eS e) (iA (C0 p.vars p.arrays (d + 1) e))) := by
  refine E2 40 Try.func45 (O4 p e []) [(0, pA 0), (1, eA e 3)] fun G => ?_; refine wp_seq (j7 G f7 [0, 1, 2, 3, 4, 12] (O4 p e [.box (pL 0), .box (eL e 3)]) [(2, .ptr 4 0), (3, .ptr 5 0), (4, iA 0)] fun G => b6 (wp_seq (l5 G f7 [(5, iA 0)] fun G => b6 (wp_seq (wp_seq (l5 G f7 [(9, iA e.kind)] fun G => b6 (wp_block (wp_seq (l5 G f7 [(10, bA (e.kind == 2))] fun G => b6 (W5 G (fun h0 q0 => ?_) fun h0 q0 => ?_))))))))))
  ·
   refine wp_seq (l5 G f7 [(18, bA (e.kind == 3))] fun G => b6 (W5 G (fun h1 q1 => ?_) fun h1 q1 => ?_))
   ·
    refine wp_skip (v7 (b6 (wp_seq (wp_seq (j7 G f7 (rg 5) (O4 p e [.box (pL 0)]) [(2, .ptr 4 0), (4, iA 0), (5, iA 0), (27, .ref 3), (28, iA (e.kids.length : Int)), (29, iA 0)] fun G => b6 (wp_block ?_)))))); refine A4 (κ := Nat) (fun k => k ≤ e.kids.length) (fun k => e.kids.length - k) (fun k => [dI p.vars, dI p.arrays, dT p.body, dE e.kids, .box (pL 0)]) (fun k => [(2, .ptr 4 0), (4, iA 0), (5, iA (I1 p.vars p.arrays d 0 e.kids k)), (27, .ref 3), (28, iA (e.kids.length : Int)), (29, iA k)]) 0 (by omega) (t7.at G _ _) ?_; clear G; intro k ρ a w hp G; have hlen : e.kids.length ≤ 9223372036854775807 := G.len 3 (d := .exprs e.kids) (by kernel_rfl); refine wp_seq (J1 G f7 ((2, .ptr 4 0) :: (4, iA 0) :: (5, iA (I1 p.vars p.arrays d 0 e.kids k)) :: (ad4 e k [(30, bA (decide ((k : Int) < e.kids.length)))])) fun G => b6 (wp_seq (rcD G (fun h2 q2 => ?_) fun h2 q2 => ?_)))
    · refine wp_exit (A2 (A2 (A1 (b6 (wp_seq (j7 G f7 (rg 4) (O4 p e []) [(4, iA (I1 p.vars p.arrays d 0 e.kids k))] fun G => b6 (wp_ret ?_))))))); exact Y9 (I1 p.vars p.arrays d 0 e.kids k) G (rg 4) (ar1 (by omega) (by simp [au6, h0, q0, h1, q1, h2, q2]; done))
    · refine wp_skip (b6 (wp_seq (wp_block (wp_seq (W0 G f7 [0, 1, 2, 3, 4, 13, 21] (O4 p e [.box (pL 0), dE (e.kids.getD k bF3).kids, .box (eL (e.kids.getD k bF3) 5)]) ((2, .ptr 4 0) :: (4, iA 0) :: (5, iA (I1 p.vars p.arrays d 0 e.kids k)) :: (7, .ptr 6 0) :: (ad4 e k [])) (iX k k e.kids.length []) (iK (by omega) bF1) fun G => b6 (j7 G (t8 3 [0, 1, 2, 5] (ih (e.kids.getD k bF3) (aN5 he (by omega)))) (rg 5) (O4 p e [.box (pL 0)]) ((2, .ptr 4 0) :: (4, iA 0) :: (5, iA (orI (I1 p.vars p.arrays d 0 e.kids k) (C0 p.vars p.arrays d (e.kids.getD k bF3)))) :: (ad4 e k [])) fun G => v7 (b6 (K5 G f7 [(29, iA ((k : Int) + 1))] [wO ((k : Int) + 1)] (o1 (by omega)) fun G => b6 ?_)))))))); exact rxn G (k + 1) (by omega) (by omega) (rg 5) (ht := by have e1 : (I1 p.vars p.arrays d 0 e.kids (k + 1) : Int) = (orI (I1 p.vars p.arrays d 0 e.kids k) (C0 p.vars p.arrays d (e.kids.getD k bF3))) := (ah9 (by omega)); (first | rw [e1] | simp only [e1]) <;> rfl)
   ·
    refine K5 G f7 [(5, iA (p.arrays.getD e.value.toNat 0))] [(0 : Int) ≤ e.value, e.value < (p.arrays.length : Int), e.value.toNat < p.arrays.length] ⟨((aN6 he (by assumption)).1), ((aN6 he (by assumption)).2.1), ((aN6 he (by assumption)).2.2), bF1⟩ fun G => v7 (b6 (wp_seq (wp_seq (j7 G f7 (rg 5) (O4 p e [.box (pL 0)]) [(2, .ptr 4 0), (4, iA 0), (5, iA (p.arrays.getD e.value.toNat 0)), (27, .ref 3), (28, iA (e.kids.length : Int)), (29, iA 0)] fun G => b6 (wp_block ?_))))); refine A4 (κ := Nat) (fun k => k ≤ e.kids.length) (fun k => e.kids.length - k) (fun k => [dI p.vars, dI p.arrays, dT p.body, dE e.kids, .box (pL 0)]) (fun k => [(2, .ptr 4 0), (4, iA 0), (5, iA (I1 p.vars p.arrays d (p.arrays.getD e.value.toNat 0) e.kids k)), (27, .ref 3), (28, iA (e.kids.length : Int)), (29, iA k)]) 0 (by omega) (t7.at G _ _) ?_; clear G; intro k ρ a w hp G; have hlen : e.kids.length ≤ 9223372036854775807 := G.len 3 (d := .exprs e.kids) (by kernel_rfl); refine wp_seq (J1 G f7 ((2, .ptr 4 0) :: (4, iA 0) :: (5, iA (I1 p.vars p.arrays d (p.arrays.getD e.value.toNat 0) e.kids k)) :: (ad4 e k [(30, bA (decide ((k : Int) < e.kids.length)))])) fun G => b6 (wp_seq (rcD G (fun h3 q3 => ?_) fun h3 q3 => ?_)))
    · refine wp_exit (A2 (A2 (A1 (b6 (wp_seq (j7 G f7 (rg 4) (O4 p e []) [(4, iA (I1 p.vars p.arrays d (p.arrays.getD e.value.toNat 0) e.kids k))] fun G => b6 (wp_ret ?_))))))); exact Y9 (I1 p.vars p.arrays d (p.arrays.getD e.value.toNat 0) e.kids k) G (rg 4) (ar1 (by omega) (by simp [au6, h0, q0, h1, q1, h3, q3]; done))
    · refine wp_skip (b6 (wp_seq (wp_block (wp_seq (W0 G f7 [0, 1, 2, 3, 4, 13, 21] (O4 p e [.box (pL 0), dE (e.kids.getD k bF3).kids, .box (eL (e.kids.getD k bF3) 5)]) ((2, .ptr 4 0) :: (4, iA 0) :: (5, iA (I1 p.vars p.arrays d (p.arrays.getD e.value.toNat 0) e.kids k)) :: (7, .ptr 6 0) :: (ad4 e k [])) (iX k k e.kids.length []) (iK (by omega) bF1) fun G => b6 (j7 G (t8 3 [0, 1, 2, 5] (ih (e.kids.getD k bF3) (aN5 he (by omega)))) (rg 5) (O4 p e [.box (pL 0)]) ((2, .ptr 4 0) :: (4, iA 0) :: (5, iA (orI (I1 p.vars p.arrays d (p.arrays.getD e.value.toNat 0) e.kids k) (C0 p.vars p.arrays d (e.kids.getD k bF3)))) :: (ad4 e k [])) fun G => v7 (b6 (K5 G f7 [(29, iA ((k : Int) + 1))] [wO ((k : Int) + 1)] (o1 (by omega)) fun G => b6 ?_)))))))); exact rxn G (k + 1) (by omega) (by omega) (rg 5) (ht := by have e1 : (I1 p.vars p.arrays d (p.arrays.getD e.value.toNat 0) e.kids (k + 1) : Int) = (orI (I1 p.vars p.arrays d (p.arrays.getD e.value.toNat 0) e.kids k) (C0 p.vars p.arrays d (e.kids.getD k bF3))) := (ah9 (by omega)); (first | rw [e1] | simp only [e1]) <;> rfl)
  ·
   refine K5 G f7 [(5, iA (p.vars.getD e.value.toNat 0))] [(0 : Int) ≤ e.value, e.value < (p.vars.length : Int), e.value.toNat < p.vars.length] ⟨((aN4 he (by assumption)).1), ((aN4 he (by assumption)).2.1), ((aN4 he (by assumption)).2.2), bF1⟩ fun G => v7 (b6 (wp_seq (wp_seq (j7 G f7 (rg 5) (O4 p e [.box (pL 0)]) [(2, .ptr 4 0), (4, iA 0), (5, iA (p.vars.getD e.value.toNat 0)), (27, .ref 3), (28, iA (e.kids.length : Int)), (29, iA 0)] fun G => b6 (wp_block ?_))))); refine A4 (κ := Nat) (fun k => k ≤ e.kids.length) (fun k => e.kids.length - k) (fun k => [dI p.vars, dI p.arrays, dT p.body, dE e.kids, .box (pL 0)]) (fun k => [(2, .ptr 4 0), (4, iA 0), (5, iA (I1 p.vars p.arrays d (p.vars.getD e.value.toNat 0) e.kids k)), (27, .ref 3), (28, iA (e.kids.length : Int)), (29, iA k)]) 0 (by omega) (t7.at G _ _) ?_; clear G; intro k ρ a w hp G; have hlen : e.kids.length ≤ 9223372036854775807 := G.len 3 (d := .exprs e.kids) (by kernel_rfl); refine wp_seq (J1 G f7 ((2, .ptr 4 0) :: (4, iA 0) :: (5, iA (I1 p.vars p.arrays d (p.vars.getD e.value.toNat 0) e.kids k)) :: (ad4 e k [(30, bA (decide ((k : Int) < e.kids.length)))])) fun G => b6 (wp_seq (rcD G (fun h4 q4 => ?_) fun h4 q4 => ?_)))
   · refine wp_exit (A2 (A2 (A1 (b6 (wp_seq (j7 G f7 (rg 4) (O4 p e []) [(4, iA (I1 p.vars p.arrays d (p.vars.getD e.value.toNat 0) e.kids k))] fun G => b6 (wp_ret ?_))))))); exact Y9 (I1 p.vars p.arrays d (p.vars.getD e.value.toNat 0) e.kids k) G (rg 4) (ar1 (by omega) (by simp [au6, h0, q0, h4, q4]; done))
   · refine wp_skip (b6 (wp_seq (wp_block (wp_seq (W0 G f7 [0, 1, 2, 3, 4, 13, 21] (O4 p e [.box (pL 0), dE (e.kids.getD k bF3).kids, .box (eL (e.kids.getD k bF3) 5)]) ((2, .ptr 4 0) :: (4, iA 0) :: (5, iA (I1 p.vars p.arrays d (p.vars.getD e.value.toNat 0) e.kids k)) :: (7, .ptr 6 0) :: (ad4 e k [])) (iX k k e.kids.length []) (iK (by omega) bF1) fun G => b6 (j7 G (t8 3 [0, 1, 2, 5] (ih (e.kids.getD k bF3) (aN5 he (by omega)))) (rg 5) (O4 p e [.box (pL 0)]) ((2, .ptr 4 0) :: (4, iA 0) :: (5, iA (orI (I1 p.vars p.arrays d (p.vars.getD e.value.toNat 0) e.kids k) (C0 p.vars p.arrays d (e.kids.getD k bF3)))) :: (ad4 e k [])) fun G => v7 (b6 (K5 G f7 [(29, iA ((k : Int) + 1))] [wO ((k : Int) + 1)] (o1 (by omega)) fun G => b6 ?_)))))))); exact rxn G (k + 1) (by omega) (by omega) (rg 5) (ht := by have e1 : (I1 p.vars p.arrays d (p.vars.getD e.value.toNat 0) e.kids (k + 1) : Int) = (orI (I1 p.vars p.arrays d (p.vars.getD e.value.toNat 0) e.kids k) (C0 p.vars p.arrays d (e.kids.getD k bF3))) := (ah9 (by omega)); (first | rw [e1] | simp only [e1]) <;> rfl)
theorem bc4 (p : f5) : ∀ (d : Nat) (e : b5), d7 p.vars.length p.arrays.length d e = true → i6.ok Try.prog (J3 45 [pA 0, eA e 3] (pS p ++ eS e) (iA (C0 p.vars p.arrays d e))) := by
 intro d
 induction d with
 | zero => intro e h; simp [d7] at h
 | succ d ih => intro e h; exact bc3 p d ih e h
def V9 (vs ars : List Int) : Nat → b5 → Bool
 | 0, _ => false
 | d + 1, e => (decide (e.kind = 3) && (m8 (C0 vs ars d (e.kids.getD 0 bF3)) && decide (C0 vs ars d (e.kids.getD 0 bF3) % 2 = 1))) || e.kids.any (V9 vs ars d)
section
variable {vs ars : List Int} {d : Nat} {e : b5}
end
theorem aK7 {α : Type} {l : List α} {k : Nat} {p : α → Bool} {z : α} (h : (l.take k).any p = false) (hk : k < l.length) (hp : p (l.getD k z) = false) : (l.take (k + 1)).any p = false := by
 rw [B9 l k hk, List.any_append, h, ← n6 (d := z) hk, List.any_cons, hp]; rfl
theorem aK8 {α : Type} {l : List α} {k : Nat} {p : α → Bool} (h : (l.take k).any p = false) (hk : l.length ≤ k) : l.any p = false := by
 rw [bF9 hk] at h; exact h
def flB (x y : Int) : Bool := m8 x && m8 y && (orI x y == y)
abbrev a87 (p : f5) (e : b5) : Int := C0 p.vars p.arrays 5 e
section
variable {nv na : Nat} {s : b8}
variable (h : H0 nv na s = true)
include h
end
section
variable {p : f5} {s : b8} {pc : Int} {strict : Bool} {x : Int}
end
section
variable {p : f5} {strict : Bool} {d c : Nat} {pc : Int} {s : b8}
end
section
variable {p : f5} {strict : Bool}
end
theorem bj8 (p : f5) (e : b5) (he : d7 p.vars.length p.arrays.length 5 e = true) : i6.ok Try.prog (J3 45 [pA 0, eA e 3] (pS p ++ eS e) (iA (a87 p e))) := bc4 p 5 e he
section
variable {p : f5} {s : b8} {cx : Int}
end
def V6 {α : Type} (f : α → Bool) (l : List α) : Int := match l.findIdx? f with
 | some i => i
 | none => -1
theorem aw9 {α : Type} {f : α → Bool} {l : List α} {k : Nat} {z : α} (hk : k < l.length) (h : (l.take k).any f = false) (hf : f (l.getD k z) = true) : V6 f l = k := by
 have : l.findIdx? f = some k := by
  rw [List.findIdx?_eq_some_iff_getElem]
  rw [n6 hk] at hf
  refine ⟨hk, hf, fun j hj => ?_⟩
  rw [List.any_eq_false] at h
  have hm : l[j] ∈ l.take k := List.mem_take_iff_getElem.2 ⟨j, by omega, rfl⟩
  exact h _ hm
 unfold V6; rw [this]
theorem as6 {α : Type} {f : α → Bool} {l : List α} (h : l.any f = false) : V6 f l = -1 := by
 have : l.findIdx? f = none := by
  rw [List.findIdx?_eq_none_iff]
  intro x hx
  rw [List.any_eq_false] at h
  simpa using h x hx
 unfold V6; rw [this]
theorem ax0 {α : Type} (f : α → Bool) (l : List α) : decide (V6 f l ≥ 0) = l.any f := by
 cases h : l.any f
 ·rw [as6 h]; rfl
 ·unfold V6
  cases h2 : l.findIdx? f with
  | none =>
   rw [List.findIdx?_eq_none_iff] at h2
   obtain ⟨x, hx, hf⟩ := List.any_eq_true.1 h
   rw [h2 x hx] at hf; cases hf
  | some i => simp
section
variable {p : f5} {s : b8}
end
section
variable {R : b8 × Int → Int} {c a : Int} {n : Nat} {x : b8 × Int}
end
section
variable {R : b8 × Int → Int} {p : f5} {d : Nat} {cx : Int} {ss : List b8} {c b : Int} {n k : Nat}
end
abbrev Lab : Type := List Int × List Int
def bv (x : Int) : BitVec 64 := BitVec.ofInt 64 x
def ofb (b : BitVec 64) : Int := IntKind.i64.wrap (b.toNat : Int)
theorem br2 (b : BitVec 64) : bv (ofb b) = b := by
 apply BitVec.eq_of_toNat_eq
 unfold bv ofb
 rw [BitVec.toNat_ofInt]
 have h := b.isLt
 unfold IntKind.wrap
 simp only [IntKind.bits, IntKind.signed, Bool.true_and, decide_eq_true_eq]
 split <;> omega
theorem aV3 (x y : Int) : orI x y = ofb (bv x ||| bv y) := rfl
theorem aX7 (x y : Int) : bv (orI x y) = bv x ||| bv y := by rw [aV3, br2]
def X7 (x y : Int) : Prop := bv x ||| bv y = bv y
theorem X7.refl (x : Int) : X7 x x := BitVec.or_self
theorem X7.trans {x y z : Int} (h : X7 x y) (k : X7 y z) : X7 x z := by
 unfold X7 at *
 rw [← k, ← BitVec.or_assoc, h]
theorem a83 (x y : Int) : X7 x (orI x y) := by unfold X7; rw [aX7, ← BitVec.or_assoc, BitVec.or_self]
def leP (q r : Lab) : Prop := (∀ i, X7 (q.1.getD i 0) (r.1.getD i 0)) ∧ ∀ i, X7 (q.2.getD i 0) (r.2.getD i 0)
def shP (q r : Lab) : Prop := r.1.length = q.1.length ∧ r.2.length = q.2.length
theorem leP.refl (q : Lab) : leP q q := ⟨fun _ => X7.refl _, fun _ => X7.refl _⟩
theorem leP.trans {q r s : Lab} (h : leP q r) (k : leP r s) : leP q s := ⟨fun i => (h.1 i).trans (k.1 i), fun i => (h.2 i).trans (k.2 i)⟩
theorem shP.refl (q : Lab) : shP q q := ⟨rfl, rfl⟩
theorem shP.trans {q r s : Lab} (h : shP q r) (k : shP r s) : shP q s := ⟨k.1.trans h.1, k.2.trans h.2⟩
theorem shP.symm {q r : Lab} (h : shP q r) : shP r q := ⟨h.1.symm, h.2.symm⟩
section
variable {b : Bool} {d : Nat} {cx : Int} {q r : Lab} {ss : List b8}
end
theorem bl6 {a b : b5} (h : ¬ a = b) : J0 a b = false := by
 cases e : J0 a b
 ·rfl
 ·exact absurd ((X2 a b).1 e) h
section
variable {a b : b5} {k : Nat}
theorem sx1 (h : ¬ a.kind = b.kind) : J0 a b = false := bl6 fun e => h (by rw [e])
theorem sx2 (h : ¬ a.value = b.value) : J0 a b = false := bl6 fun e => h (by rw [e])
theorem aY6 {α : Type} {l m : List α} {k : Nat} {z : α} (h : l.take k = m.take k) (h1 : k < l.length) (h2 : k < m.length) (e : l.getD k z = m.getD k z) : l.take (k + 1) = m.take (k + 1) := by
 rw [n8 _ _ h1, n8 _ _ h2, h, ← n6 (d := z) h1, ← n6 (d := z) h2, e]
theorem a39 {α : Type} {l m : List α} {k : Nat} (h : l.take k = m.take k) (h1 : l.length ≤ k) (h2 : (l.length : Int) = m.length) : l = m := by
 rw [bF9 h1, bF9 (by omega)] at h
 exact h
end
section
variable {s t : b8} {l m : List b8} {k : Nat}
end
section
variable {vs ars : List Int} {cx : Int} {s : b8} {d : Nat} {b : Bool}
section
variable {nv na d k : Nat} {ss : List b8} {q : Lab} {cx : Int}
end
end
section
variable {p : f5} {q : Lab} {b : List b8} {X : Lab}
end
abbrev V2 : List Int := [3] ++ ([4] ++ ([2] ++ ([5] ++ [])))
abbrev viL : List Int := [0] ++ ([1] ++ ([0] ++ ([1] ++ ([2] ++ ([3] ++ [])))))
abbrev S6 : List Int := [1] ++ ([2] ++ ([0] ++ ([1] ++ [])))
abbrev aiL : List Int := [0] ++ ([1] ++ ([0] ++ ([1] ++ ([3] ++ []))))
abbrev nbL : List Int := [2] ++ ([3] ++ ([1] ++ ([4] ++ [])))
def nsD (b : List UInt8) (l : List Int) (n : Nat) (k : Int) : List Int := (bH0 n).map fun (i : Nat) => nm b (k + (i : Int)) l
theorem Z3 (b : List UInt8) (l : List Int) (n : Nat) (k : Int) : (nsD b l n k).length = n := by simp [nsD]
theorem a74 (b : List UInt8) (l : List Int) (n : Nat) (k : Int) : nsD b l (n + 1) k = nsD b l n k ++ [nm b (k + (n : Int)) l] := by
 unfold nsD; rw [List.range_succ, List.map_append]; rfl
def D9 (b : List UInt8) (k : Int) : Int := k + 1 + nm b k V2
def kp2 (b : List UInt8) (k : Int) : Int := D9 b k + 1 + nm b (D9 b k) S6
def Y6 (b : List UInt8) (k : Int) : List Int := nsD b viL (nm b k V2).toNat (k + 1)
def asD (b : List UInt8) (k : Int) : List Int := nsD b aiL (nm b (D9 b k) S6).toNat (D9 b k + 1)
def bdD (b : List UInt8) (k : Int) : List b8 × Int := D0 (A3 b (Y6 b k).length (asD b k).length 3) (nm b (kp2 b k) nbL).toNat (kp2 b k + 1)
def rwD (b : List UInt8) (k : Int) : f5 := ⟨Y6 b k, asD b k, (bdD b k).1⟩
def fbP : f5 := ⟨[0, 1], [], [⟨1, 1, noE, ⟨2, 0, []⟩, 0, [], []⟩]⟩
def pgD (b : List UInt8) (k : Int) : f5 := if F2 (rwD b k) = true then rwD b k else fbP
section
variable (b : List UInt8) {k : Int}
theorem bp7 (hk : 0 ≤ k) (hk2 : k ≤ 1000000000) : 0 ≤ nm b k V2 ∧ nm b k V2 ≤ 5 := aw3 b (by simp) (by simp) hk hk2
theorem bv1 (hk : 0 ≤ k) (hk2 : k ≤ 1000000000) : 0 ≤ nm b k nbL ∧ nm b k nbL ≤ 4 := aw3 b (by simp) (by simp) hk hk2
theorem bq0 (hk : 0 ≤ k) (hk2 : k ≤ 1000000000) : 0 ≤ nm b k S6 ∧ nm b k S6 ≤ 2 := aw3 b (by simp) (by simp) hk hk2
theorem a89 (hk : 0 ≤ k) (hk2 : k ≤ 10000000) : k + 1 ≤ D9 b k ∧ D9 b k ≤ k + 6 := by
 have := bp7 b hk (by omega); unfold D9; omega
theorem a88 (hk : 0 ≤ k) (hk2 : k ≤ 10000000) : k + 2 ≤ kp2 b k ∧ kp2 b k ≤ k + 9 := by
 have h1 := a89 b hk hk2
 have := bq0 b (k := D9 b k) (by omega) (by omega); unfold kp2; omega
theorem cS3 : cS 3 = 34170 ∧ cS 2 = 8442 := by decide
theorem bE0 (nv na : Nat) : Drw (A3 b nv na 3) 34170 := fun j h1 h2 => by
 have e := cS3.1
 have h3 := aF4 b nv na 3 j h1 (by omega)
 have h4 := aM9 b nv na 3 j h1 (by omega)
 omega
theorem bd8 (hk : 0 ≤ k) (hk2 : k ≤ 10000000) : kp2 b k ≤ (bdD b k).2 ∧ (bdD b k).2 ≤ k + 150000 ∧ x9 (bdD b k).1 ≤ 150000 := by
 have h1 := a88 b hk hk2
 have h2 := bv1 b (k := kp2 b k) (by omega) (by omega)
 have h3 := aC2 (f := A3 b (Y6 b k).length (asD b k).length 3) (by omega) (bE0 b _ _) (nm b (kp2 b k) nbL).toNat (kp2 b k + 1) (by omega) (by omega)
 unfold bdD
 omega
theorem a36 (hk : 0 ≤ k) (hk2 : k ≤ 10000000) : (Y6 b k).length ≤ 5 := by
 have := bp7 b hk (by omega); unfold Y6; rw [Z3]; omega
theorem be2 (hk : 0 ≤ k) (hk2 : k ≤ 10000000) : (asD b k).length ≤ 2 := by
 have h1 := a89 b hk hk2
 have := bq0 b (k := D9 b k) (by omega) (by omega); unfold asD; rw [Z3]; omega
theorem bp1 (hk : 0 ≤ k) (hk2 : k ≤ 10000000) : (pgD b k).size ≤ 160000 := by
 have h1 := bd8 b hk hk2
 have h2 := a36 b hk hk2
 have h3 := be2 b hk hk2
 unfold pgD; split
 ·show (Y6 b k).length + (asD b k).length + x9 (bdD b k).1 ≤ 160000
  omega
 ·decide
end
abbrev m2L : List Int := [0] ++ ([6] ++ ([1] ++ ([5] ++ ([2] ++ []))))
abbrev m3L : List Int := [-1] ++ ([12] ++ ([1] ++ ([9223372036854775807] ++ [])))
abbrev m4L : List Int := [-1] ++ ([256] ++ ([12] ++ ([1] ++ [])))
abbrev m5L : List Int := [1] ++ ([4] ++ ([-1] ++ ([2] ++ [])))
def kdS (s : b8) (x : Int) : b8 := ⟨x, s.target, s.index, s.value, s.count, s.body, s.els⟩
def tgS (s : b8) (x : Int) : b8 := ⟨s.kind, x, s.index, s.value, s.count, s.body, s.els⟩
def vvS (s : b8) (x : Int) : b8 := ⟨s.kind, s.target, s.index, ⟨s.value.kind, x, s.value.kids⟩, s.count, s.body, s.els⟩
def ctS (s : b8) (x : Int) : b8 := ⟨s.kind, s.target, s.index, s.value, x, s.body, s.els⟩
def mtD (b : List UInt8) (p : f5) (k : Int) : f5 × Int :=
 if pk b k 60 = 0 then (if 0 < p.vars.length then (⟨p.vars.set 0 (l1D b (k + 1)), p.arrays, p.body⟩, k + 1 + 2) else (p, k + 1))
 else if pk b k 60 = 1 then (⟨p.vars ++ bG6 (13 - p.vars.length) 1, p.arrays, p.body⟩, k + 1)
 else if pk b k 60 = 2 then (if 0 < p.body.length then (⟨p.vars, p.arrays, p.body.set 0 (kdS (p.body.getD 0 bF3) (nm b (k + 1) m2L))⟩, k + 1 + 1) else (p, k + 1))
 else if pk b k 60 = 3 then (if 0 < p.body.length then (⟨p.vars, p.arrays, p.body.set ((p.body.length : Int) - 1).toNat (tgS (p.body.getD ((p.body.length : Int) - 1).toNat bF3) (nm b (k + 1) m3L))⟩, k + 1 + 1) else (p, k + 1))
 else if pk b k 60 = 4 then (if 0 < p.body.length then (⟨p.vars, p.arrays, p.body.set 0 (vvS (p.body.getD 0 bF3) (nm b (k + 1) m4L))⟩, k + 1 + 1) else (p, k + 1))
 else if pk b k 60 = 5 then (if 0 < p.body.length then (⟨p.vars, p.arrays, p.body.set 0 (ctS (p.body.getD 0 bF3) (nm b (k + 1) m5L))⟩, k + 1 + 1) else (p, k + 1))
 else if pk b k 60 = 6 then (⟨[], [], []⟩, k + 1)
 else (p, k + 1)
def W4 (c : List UInt8) : List UInt8 := c.take 2000
abbrev vaL : List Int := [0] ++ ([1] ++ ([2] ++ ([3] ++ ([255] ++ ([128] ++ ([7] ++ ([4] ++ ([100] ++ []))))))))
def ptD (b : List UInt8) (j : Int) (nv na : Nat) (at0 n : Int) (kd : UInt8) : Int :=
 if kd = 114 then pk b j 3 else if kd = 99 then nm b j vaL else if kd = 118 then pk b j nv else if kd = 97 then pk b j na else if kd = 111 then 4 + pk b j 7 else at0 + 1 + pk b j (n - at0 - 1)
def psD (b : List UInt8) (j : Int) (nv na : Nat) (at0 n : Int) (ks : List UInt8) (k : Nat) : List Int := (bH0 4).map fun i => if i < k then ptD b (j + i) nv na at0 n (ks.getD i 0) else 0
theorem aV1 (b : List UInt8) (j : Int) (nv na : Nat) (at0 n : Int) (ks : List UInt8) (k : Nat) : (psD b j nv na at0 n ks k).length = 4 := by simp [psD]
theorem a67 (b : List UInt8) (j : Int) (nv na : Nat) (at0 n : Int) (ks : List UInt8) {k : Nat} (hk : k < 4) : psD b j nv na at0 n ks (k + 1) = (psD b j nv na at0 n ks k).set k (ptD b (j + k) nv na at0 n (ks.getD k 0)) := by
 apply List.ext_getElem (by simp [aV1])
 intro i h1 h2
 rw [List.getElem_set]
 simp only [psD, List.getElem_map, List.getElem_range]
 by_cases e : k = i
 ·subst e; simp
 ·rw [if_neg e]
  have : (i < k + 1) ↔ (i < k) := by omega
  simp only [this]
structure w4 where
 vals : List Int
 arrs : List (List Int)
def T2 (l : List Int) : Bool := l.all fun n => decide (0 ≤ n) && decide (n ≤ 255)
def au1 (a : List Int) : Bool := decide (a.length = 4) && T2 a
def mfB (nv na : Nat) (m : w4) : Bool := decide (m.vals.length = nv) && (decide (m.arrs.length = na) && (T2 m.vals && m.arrs.all au1))
def vlD (b : List UInt8) (j : Int) (n : Nat) : List Int := (bH0 n).map fun i : Nat => nm b (j + i) vaL
theorem ao7 (b : List UInt8) (j : Int) (n : Nat) : (vlD b j n).length = n := by simp [vlD]
theorem aU1 (b : List UInt8) (j : Int) (k : Nat) : vlD b j (k + 1) = vlD b j k ++ [nm b (j + k) vaL] := by
 unfold vlD; rw [List.range_succ, List.map_append]; rfl
def arD (b : List UInt8) (j : Int) (n : Nat) : List (List Int) := (bH0 n).map fun i : Nat => vlD b (j + 4 * i) 4
theorem aS4 (b : List UInt8) (j : Int) (n : Nat) : (arD b j n).length = n := by simp [arD]
theorem bk6 (b : List UInt8) (j : Int) (k : Nat) : arD b j (k + 1) = arD b j k ++ [vlD b (j + 4 * k) 4] := by
 unfold arD; rw [List.range_succ, List.map_append]; rfl
theorem be4 (b : List UInt8) (j : Int) (n : Nat) : ∀ a ∈ arD b j n, a.length = 4 := by
 intro a ha
 obtain ⟨i, _, rfl⟩ := bI7.1 ha
 exact ao7 _ _ _
def mmD (b : List UInt8) (j : Int) (nv na : Nat) : w4 := ⟨vlD b j nv, arD b (j + nv) na⟩
abbrev bnL : List Int := [-1] ++ ([256] ++ ([9223372036854775807] ++ []))
def beD (b : List UInt8) (j : Int) (m : w4) : w4 × Int :=
 if pk b j 60 = 0 then (⟨m.vals ++ [0], m.arrs⟩, j + 1)
 else if pk b j 60 = 1 then (if 0 < m.vals.length then (⟨m.vals.set 0 (nm b (j + 1) bnL), m.arrs⟩, j + 2) else (m, j + 1))
 else if pk b j 60 = 2 then (if 0 < m.arrs.length then (⟨m.vals, m.arrs.set 0 (((m.arrs.getD 0 []).take 3).drop 0)⟩, j + 1) else (m, j + 1))
 else if pk b j 60 = 3 then (⟨[], []⟩, j + 1)
 else (m, j + 1)
theorem bE2 (b : List UInt8) (j : Int) (m : w4) : (beD b j m).1.vals.length ≤ m.vals.length + 1 ∧ (beD b j m).1.arrs.length ≤ m.arrs.length ∧ j + 1 ≤ (beD b j m).2 ∧ (beD b j m).2 ≤ j + 2 := by
 unfold beD
 repeat' split
 all_goals simp
 all_goals omega
theorem bz2 (b : List UInt8) (j : Int) (m : w4) (n : Nat) (h : ∀ a ∈ m.arrs, a.length ≤ n) : ∀ a ∈ (beD b j m).1.arrs, a.length ≤ n := by
 intro a
 unfold beD
 split
 ·exact h a
 split
 ·split <;> exact h a
 split
 ·split
  ·intro ha
   rename_i hl
   rcases List.mem_or_eq_of_mem_set ha with h1 | h1
   ·exact h a h1
   ·subst h1
    have := h (m.arrs.getD 0 []) (by rw [bF2, bF0 hl]; exact bG3 hl)
    simp at this ⊢; omega
  ·exact h a
 split
 ·intro ha; simp at ha
 ·exact h a
section
variable {nv na : Nat} {m : w4}
theorem bw6 (h : ¬ (m.vals.length : Int) = nv) : mfB nv na m = false := by unfold mfB; rw [decide_eq_false (p := m.vals.length = nv) (by omega)]; rfl
theorem bw5 (h : ¬ (m.arrs.length : Int) = na) : mfB nv na m = false := by unfold mfB; rw [decide_eq_false (p := m.arrs.length = na) (by omega)]; simp
theorem bw4 (h : T2 m.vals = false) : mfB nv na m = false := by unfold mfB; rw [h]; simp
theorem bw3 (h1 : (m.vals.length : Int) = nv) (h2 : (m.arrs.length : Int) = na) (h3 : T2 m.vals = true) : mfB nv na m = m.arrs.all au1 := by
 unfold mfB
 rw [decide_eq_true (p := m.vals.length = nv) (by omega), decide_eq_true (p := m.arrs.length = na) (by omega), h3]; rfl
theorem aC1 (h : mfB nv na m = true) : m.vals.length = nv ∧ m.arrs.length = na ∧ T2 m.vals = true ∧ m.arrs.all au1 = true := by
 unfold mfB at h
 simpa [bE8] using h
end
def zB (bit : Int) (l : Int) : Bool := !(bE5 l bit == 0)
def mvB (p : f5) (m : w4) : Bool := F2 p && mfB p.vars.length p.arrays.length m
section
variable {bit : Int} {p : f5} {m : w4}
theorem bh7 (h : mvB p m = true) : p.vars.all m8 = true ∧ p.arrays.all m8 = true ∧ m.vals.length = p.vars.length ∧ m.arrs.length = p.arrays.length ∧ m.arrs.all au1 = true ∧ p.vars.length ≤ 12 ∧ p.arrays.length ≤ 2 := by
 unfold mvB at h
 rw [bE8] at h
 obtain ⟨f1, f2, f3, f4⟩ := aC1 h.2
 have h2 := h.1
 unfold F2 at h2
 simp only [bE8] at h2
 have h6 := h2.1.1
 unfold A5 at h6
 simp only [bE8, decide_eq_true_eq] at h6
 refine ⟨h6.1.1.1.1, ?_, f1, f2, f4, ?_, ?_⟩
 ·exact h6.1.1.1.2
 ·omega
 ·omega
end
section
variable {ls xs : List Int} {rs : List (List Int)} {k : Nat} {b : Bool}
end
section
variable {b : List UInt8} {bit : Int} {ls : List Int} {j : Int} {rs : List (List Int)} {i k : Nat}
end
theorem bC4 {b : List UInt8} {j n : Int} (h : n < 1) : pk b j n = 0 := by unfold pk; rw [if_pos (.inl h)]
theorem bC3 {b : List UInt8} {j n : Int} (h : (b.length : Int) = 0) : pk b j n = 0 := by unfold pk; rw [if_pos (.inr (by omega))]
theorem bC2 {b : List UInt8} {j n : Int} (h : ¬ n < 1) (h1 : ¬ (b.length : Int) = 0) (h2 : j + 1 - 1 < b.length) : pk b j n = ((b.getD (j + 1 - 1).toNat 0).toNat : Int).tmod n := by
 unfold pk; rw [if_neg (by omega), if_pos (by omega), Int.add_sub_cancel]
theorem bC1 {b : List UInt8} {j n : Int} (h : ¬ n < 1) (h1 : ¬ (b.length : Int) = 0) (h2 : ¬ j + 1 - 1 < b.length) : pk b j n = (aM0 (pkX b (j + 1 - 1)) ((pkX b (j + 1 - 1)).tdiv 64)).tmod n := by
 unfold pk; rw [if_neg (by omega), if_neg (by omega), Int.add_sub_cancel]
theorem aZ3 {x : Int} {n : Nat} (hx : 0 ≤ x) (hn : ¬ (n : Int) = 0) : 0 ≤ x.tmod n ∧ x.tmod n < n ∧ (x.tmod n).toNat < n := by
 have := aM3 (x := x) (n := n) hx (by omega); omega
theorem r6 (b : List UInt8) (j n : Int) (r0 : 0 ≤ j) (r1 : j ≤ 1000000000) : i6.ok Try.prog ⟨29, [.ptr 0 0, iA n], [.box [.ref 1, iA j], dY b], [.box [.ref 1, iA (j + 1)], dY b], iA (pk b j n)⟩ := by
  refine E2 99 Try.func29 [.box [.ref 1, iA j], dY b] [(0, .ptr 0 0), (1, iA n)] fun G => ?_; have hu1 := aE7 (b.getD ((j + 1 - 1).tmod b.length).toNat 0); have hu2 := aE7 (b.getD (((j + 1 - 1) * 7 + 3).tmod b.length).toNat 0); refine wp_seq (l5 G f7 [(4, iA 0)] fun G => b6 (wp_seq (W0 G f7 [0, 1] [.box [.ref 1, iA (j + 1)], dY b] [(0, .ptr 0 0), (1, iA n), (4, iA 0)] [wO (j + 1)] (o1 (by omega)) fun G => b6 (wp_seq (wp_seq ?_))))); cases h0 : (decide (n < 1))
  ·
   have q0 := Y1 h0; refine l5 G (H2 (fc h0 fz) (us [(3, 8, 0), (1009, 1009, 0)])) [(24, bA ((b.length : Int) == 0))] fun G => b6 (W5 G (fun h1 q1 => ?_) fun h1 q1 => ?_)
   ·
    refine wp_skip (b6 (wp_seq (K5 G f7 [(5, iA (j + 1 - 1))] [wO (j + 1 - 1)] (o1 (by omega)) fun G => b6 (wp_seq (wp_seq (l5 G f7 [(36, bA (decide (j + 1 - 1 < (b.length : Int))))] fun G => b6 (rcD G (fun h2 q2 => ?_) fun h2 q2 => ?_)))))))
    ·
     refine wp_skip (b6 (wp_seq (aO2 G f7 [0, 1, 3, 7, 0, 0, 32, 96, 224, 480, 1008, 2047, 4095, 8191, 16383, 0, 32768, 98304, 229376, 0, 524288, 1572864, 0, 4194304, 12582912, 29360128, 62914560, 133693440, 268402688, 536838144, 1073709056, 2147450880, 4294967295, 0, 8589934592, 34359738367, 0, 0, 137438953472, 412316860416, 962072674304, 2061584302080, 4329327034368, 8727373545472, 17592186044415, 35184372088831] [(6, iA (((b.getD ((j + 1 - 1).tmod (b.length : Int)).toNat 0).toNat : Int) * 131 + ((b.getD (((j + 1 - 1) * 7 + 3).tmod (b.length : Int)).toNat 0).toNat : Int) * 1117 + (j + 1 - 1) * 29 + (j + 1 - 1).tdiv (b.length : Int) * 53))] [(b.length : Int) ≠ 0, (0 : Int) ≤ (j + 1 - 1).tmod (b.length : Int), (j + 1 - 1).tmod (b.length : Int) < b.length, ((j + 1 - 1).tmod (b.length : Int)).toNat < b.length, IntKind.i64.wrap ((b.getD ((j + 1 - 1).tmod (b.length : Int)).toNat (0 : UInt8)).toNat : Int) = ((b.getD ((j + 1 - 1).tmod (b.length : Int)).toNat (0 : UInt8)).toNat : Int), wO (((b.getD ((j + 1 - 1).tmod (b.length : Int)).toNat (0 : UInt8)).toNat : Int) * 131), wO ((j + 1 - 1) * 7), wO ((j + 1 - 1) * 7 + 3), (b.length : Int) ≠ 0, (0 : Int) ≤ ((j + 1 - 1) * 7 + 3).tmod (b.length : Int), ((j + 1 - 1) * 7 + 3).tmod (b.length : Int) < b.length, (((j + 1 - 1) * 7 + 3).tmod (b.length : Int)).toNat < b.length, IntKind.i64.wrap ((b.getD (((j + 1 - 1) * 7 + 3).tmod (b.length : Int)).toNat (0 : UInt8)).toNat : Int) = ((b.getD (((j + 1 - 1) * 7 + 3).tmod (b.length : Int)).toNat (0 : UInt8)).toNat : Int), wO (((b.getD (((j + 1 - 1) * 7 + 3).tmod (b.length : Int)).toNat (0 : UInt8)).toNat : Int) * 1117), wO (((b.getD ((j + 1 - 1).tmod (b.length : Int)).toNat (0 : UInt8)).toNat : Int) * 131 + ((b.getD (((j + 1 - 1) * 7 + 3).tmod (b.length : Int)).toNat (0 : UInt8)).toNat : Int) * 1117), wO ((j + 1 - 1) * 29), wO (((b.getD ((j + 1 - 1).tmod (b.length : Int)).toNat (0 : UInt8)).toNat : Int) * 131 + ((b.getD (((j + 1 - 1) * 7 + 3).tmod (b.length : Int)).toNat (0 : UInt8)).toNat : Int) * 1117 + (j + 1 - 1) * 29), (b.length : Int) ≠ 0, wO ((j + 1 - 1).tdiv (b.length : Int)), wO ((j + 1 - 1).tdiv (b.length : Int) * 53), wO (((b.getD ((j + 1 - 1).tmod (b.length : Int)).toNat (0 : UInt8)).toNat : Int) * 131 + ((b.getD (((j + 1 - 1) * 7 + 3).tmod (b.length : Int)).toNat (0 : UInt8)).toNat : Int) * 1117 + (j + 1 - 1) * 29 + (j + 1 - 1).tdiv (b.length : Int) * 53)] ⟨(by assumption), ((aZ3 (by omega) (by omega)).1), ((aZ3 (by omega) (by omega)).2.1), ((aZ3 (by omega) (by omega)).2.2), (w64 (by omega) (by omega)), (oW (by omega)), (oW (by omega)), (oW (by omega)), (by assumption), ((aZ3 (by omega) (by omega)).1), ((aZ3 (by omega) (by omega)).2.1), ((aZ3 (by omega) (by omega)).2.2), (w64 (by omega) (by omega)), (oW (by omega)), (oW (by omega)), (oW (by omega)), (oW (by omega)), (by assumption), (by have := aH1 (b := b) (k := j + 1 - 1) (by omega) (by omega) (by omega); exact w64 (by unfold pkX at this; omega) (by unfold pkX at this; omega)), (by have := aH1 (b := b) (k := j + 1 - 1) (by omega) (by omega) (by omega); exact w64 (by unfold pkX at this; omega) (by unfold pkX at this; omega)), (by have := aH1 (b := b) (k := j + 1 - 1) (by omega) (by omega) (by omega); exact w64 (by unfold pkX at this; omega) (by unfold pkX at this; omega)), bF1⟩ fun G => ?_)))
     refine b6 (wp_seq (K5 G f7 [(6, iA (aM0 (((b.getD ((j + 1 - 1).tmod (b.length : Int)).toNat 0).toNat : Int) * 131 + ((b.getD (((j + 1 - 1) * 7 + 3).tmod (b.length : Int)).toNat 0).toNat : Int) * 1117 + (j + 1 - 1) * 29 + (j + 1 - 1).tdiv (b.length : Int) * 53) ((((b.getD ((j + 1 - 1).tmod (b.length : Int)).toNat 0).toNat : Int) * 131 + ((b.getD (((j + 1 - 1) * 7 + 3).tmod (b.length : Int)).toNat 0).toNat : Int) * 1117 + (j + 1 - 1) * 29 + (j + 1 - 1).tdiv (b.length : Int) * 53).tdiv 64)))] [(64 : Int) ≠ 0, wO ((((b.getD ((j + 1 - 1).tmod (b.length : Int)).toNat (0 : UInt8)).toNat : Int) * 131 + ((b.getD (((j + 1 - 1) * 7 + 3).tmod (b.length : Int)).toNat (0 : UInt8)).toNat : Int) * 1117 + (j + 1 - 1) * 29 + (j + 1 - 1).tdiv (b.length : Int) * 53).tdiv (64 : Int))] ⟨(by omega), (by have := bm3 (b := b) (k := j + 1 - 1) (by omega) (by omega) (by omega); exact w64 (by unfold pkX at this; omega) (by unfold pkX at this; omega)), bF1⟩ fun G => b6 (wp_seq (K5 G f7 [(4, iA ((aM0 (((b.getD ((j + 1 - 1).tmod (b.length : Int)).toNat 0).toNat : Int) * 131 + ((b.getD (((j + 1 - 1) * 7 + 3).tmod (b.length : Int)).toNat 0).toNat : Int) * 1117 + (j + 1 - 1) * 29 + (j + 1 - 1).tdiv (b.length : Int) * 53) ((((b.getD ((j + 1 - 1).tmod (b.length : Int)).toNat 0).toNat : Int) * 131 + ((b.getD (((j + 1 - 1) * 7 + 3).tmod (b.length : Int)).toNat 0).toNat : Int) * 1117 + (j + 1 - 1) * 29 + (j + 1 - 1).tdiv (b.length : Int) * 53).tdiv 64)).tmod n))] [n ≠ 0] ⟨(by omega), bF1⟩ fun G => b6 (wp_ret ?_))))); exact Y9 ((aM0 (((b.getD ((j + 1 - 1).tmod (b.length : Int)).toNat 0).toNat : Int) * 131 + ((b.getD (((j + 1 - 1) * 7 + 3).tmod (b.length : Int)).toNat 0).toNat : Int) * 1117 + (j + 1 - 1) * 29 + (j + 1 - 1).tdiv (b.length : Int) * 53) ((((b.getD ((j + 1 - 1).tmod (b.length : Int)).toNat 0).toNat : Int) * 131 + ((b.getD (((j + 1 - 1) * 7 + 3).tmod (b.length : Int)).toNat 0).toNat : Int) * 1117 + (j + 1 - 1) * 29 + (j + 1 - 1).tdiv (b.length : Int) * 53).tdiv 64)).tmod n) G [0, 1] (bC1 (by omega) (by omega) (by omega))
    · refine wp_seq (K5 G f7 [(4, iA (((b.getD (j + 1 - 1).toNat 0).toNat : Int).tmod n))] (iX (j + 1 - 1) ((j + 1 - 1).toNat) b.length ((IntKind.i64.wrap ((b.getD (j + 1 - 1).toNat (0 : UInt8)).toNat : Int) = ((b.getD (j + 1 - 1).toNat (0 : UInt8)).toNat : Int)) :: ((n ≠ 0) :: []))) (iK (by omega) ⟨(by have := aE7 (b.getD (j + 1 - 1).toNat 0); exact w64 (by omega) (by omega)), ⟨(by omega), bF1⟩⟩) fun G => b6 (wp_ret (j8 ?_))); exact Y9 (((b.getD (j + 1 - 1).toNat 0).toNat : Int).tmod n) G [0, 1] (bC2 (by omega) (by omega) (by omega))
   · refine wp_seq (l5 G f7 [] fun G => b6 (wp_ret (j8 ?_))); exact Y9 0 G [0, 1] (bC3 (by omega))
  · have q0 := Y0 h0; refine l5 G (H2 (fc h0 fz) (us [(3, 8, 0), (1009, 1009, 0)])) [(24, bA true)] fun G => b6 (rT G true (by kernel_rfl) (wp_seq (l5 G f7 [] fun G => b6 (wp_ret (j8 ?_))))); exact Y9 0 G [0, 1] (bC4 (by omega))
theorem C3 (b : List UInt8) (j : Int) (l : List Int) (hl : l ≠ []) (r0 : 0 ≤ j) (r1 : j ≤ 1000000000) : i6.ok Try.prog ⟨27, [.ptr 0 0, .ref 2], [.box [.ref 1, iA j], dY b, dI l], [.box [.ref 1, iA (j + 1)], dY b, dI l], iA (nm b j l)⟩ := by
 refine E2 12 Try.func27 [.box [.ref 1, iA j], dY b, dI l] [(0, .ptr 0 0), (1, .ref 2)] fun G => ?_; refine wp_seq (l5 G f7 [(4, iA 0)] fun G => b6 (wp_seq (W0 G (t8 4 [0, 1] (r6 b j ((l.length : Int)) (by assumption) (by assumption))) [0, 1, 2] [.box [.ref 1, iA (j + 1)], dY b, dI l] [(4, iA (l.getD (pk b j (l.length : Int)).toNat 0))] [(0 : Int) ≤ pk b j (l.length : Int), pk b j (l.length : Int) < l.length, (pk b j (l.length : Int)).toNat < l.length] ⟨((aV8 b r0 r1 hl).1), ((aV8 b r0 r1 hl).2.1), ((aV8 b r0 r1 hl).2.2), bF1⟩ fun G => b6 (wp_ret ?_)))); exact I7 G [0, 1, 2]
theorem bc8 (b : List UInt8) (j : Int) (r0 : 0 ≤ j) (r1 : j ≤ 900000000) : i6.ok Try.prog ⟨66, [.ptr 0 0], [.box [.ref 1, iA j], dY b], [.box [.ref 1, iA (j + 2)], dY b], iA (l1D b j)⟩ := by
 refine E2 11 Try.func66 [.box [.ref 1, iA j], dY b] [(0, .ptr 0 0)] fun G => ?_; refine wp_seq (l5 G f7 [(2, iA 0)] fun G => b6 (wp_seq (wp_seq (j7 G (t8 1 [0, 1] (r6 b j 12 (by assumption) (by omega))) [0, 1] [.box [.ref 1, iA (j + 1)], dY b] [(0, .ptr 0 0), (2, iA 0), (5, bA (pk b j 12 == 0))] fun G => b6 (W5 G (fun h0 q0 => ?_) fun h0 q0 => ?_)))))
 ·refine wp_skip (b6 (wp_seq (j7 G (t8 1 [0, 1] (r6 b (j + 1) 4 (by omega) (by omega))) [0, 1] [.box [.ref 1, iA (j + 1 + 1)], dY b] [(2, iA (pk b (j + 1) 4))] fun G => b6 (wp_ret ?_)))); exact Y9 (pk b (j + 1) 4) G [0, 1] (by unfold l1D; rw [if_neg (by omega)]; done) (by show _ = mR [0, 1] [.box [.ref 1, iA (j + 2)], dY b]; have e1 : (j + 2 : Int) = (j + 1 + 1) := (by omega); (first | rw [e1] | simp only [e1]) <;> rfl)
 ·refine wp_seq (j7 G (t8 2 [0, 1, 10] (i6.lend (C3 b (j + 1) l1L (by simp [h0]) (by omega) (by omega)) [.no, .no, .row 3])) [0, 1] [.box [.ref 1, iA (j + 1 + 1)], dY b] [(0, .ptr 0 0), (2, iA (nm b (j + 1) l1L))] fun G => b6 (wp_ret (j8 ?_))); exact Y9 (nm b (j + 1) l1L) G [0, 1] (by unfold l1D; rw [if_pos (by omega)]; done) (by show _ = mR [0, 1] [.box [.ref 1, iA (j + 2)], dY b]; have e1 : (j + 2 : Int) = (j + 1 + 1) := (by omega); (first | rw [e1] | simp only [e1]) <;> rfl)
theorem aR9 (c : List UInt8) (hc : c.length ≤ 2000) : i6.ok Try.prog ⟨23, [.ref 0], [dY c], [dY c, .box [.ref 0, iA 0]], .ptr 1 0⟩ := by
 refine E2 11 Try.func23 [dY c] [(0, .ref 0)] fun G => ?_; refine wp_seq (l5 G f7 [(2, .v (.pointer none))] fun G => b6 (wp_seq (wp_seq (J1 G f7 [(0, .ref 0), (2, .v (.pointer none)), (5, bA (decide ((c.length : Int) > 2000)))] fun G => b6 ?_)))); cases h0 : (decide ((c.length : Int) > 2000))
 ·have q0 := Y1 h0; refine rF G _ h0 (wp_skip (b6 (wp_seq (j7 G f7 [0, 17] [dY c, .box [.ref 0, iA 0]] [(2, .ptr 1 0)] fun G => b6 (wp_ret ?_))))); exact I7 G [0, 1]
 ·have q0 := Y0 h0; exact False.elim (by omega)
theorem aR8 (c : List UInt8) (hc : 2000 < c.length) : i6.ok Try.prog ⟨23, [.ref 0], [dY c], [dY c, .box [.ref 2, iA 0], dY ((c.take 2000).drop 0)], .ptr 1 0⟩ := by
 refine E2 11 Try.func23 [dY c] [(0, .ref 0)] fun G => ?_; refine wp_seq (l5 G f7 [(2, .v (.pointer none))] fun G => b6 (wp_seq (wp_seq (J1 G f7 [(0, .ref 0), (2, .v (.pointer none)), (5, bA (decide ((c.length : Int) > 2000)))] fun G => b6 ?_)))); cases h0 : (decide ((c.length : Int) > 2000))
 ·have q0 := Y1 h0; exact False.elim (by omega)
 ·have q0 := Y0 h0; refine rT G _ h0 (W0 G f7 [0, 9] [dY c, dY (List.drop 0 (bG7 (Int.toNat 2000) c))] [(0, .ref 1), (2, .v (.pointer none))] [(0 : Int) ≤ 2000, (2000 : Int) ≤ c.length] ⟨(by omega), (by omega), bF1⟩ fun G => b6 (wp_seq (j7 G f7 [0, 1, 18] [dY c, dY (List.drop 0 (bG7 (Int.toNat 2000) c)), .box [.ref 1, iA 0]] [(2, .ptr 2 0)] fun G => b6 (wp_ret ?_)))); exact I7 G [0, 2, 1]
abbrev dwS (b : List UInt8) (j : Int) (vs ars : List Int) (bd : List b8) : List It := [.box [.ref 1, iA j], dY b, dI vs, dI ars, dT bd]
abbrev exO (e : b5) : List It := [.tree (.exprs e.kids)]
abbrev exA (e : b5) (r : Nat) : AV := .agg [iA e.kind, iA e.value, .tref r]
theorem be1 {b : List UInt8} {nv j : Int} (h : pk b j 3 = 0) : i5 b nv j = ⟨1, nm b (j + 1) atL, []⟩ := if_pos h
theorem be0 {b : List UInt8} {nv j : Int} (h : ¬ pk b j 3 = 0) : i5 b nv j = ⟨2, pk b (j + 1) nv, []⟩ := if_neg h
theorem ad2 (b : List UInt8) (j : Int) (vs ars : List Int) (bd : List b8) (r0 : 0 ≤ j) (r1 : j ≤ 900000000) : i6.ok Try.prog ⟨30, [.ptr 0 0, pA 2], dwS b j vs ars bd, dwS b (j + 2) vs ars bd ++ exO (i5 b vs.length j), exA (i5 b vs.length j) 5⟩ := by
 refine E2 18 Try.func30 [.box [.ref 1, iA j], dY b, dI vs, dI ars, dT bd] [(0, .ptr 0 0), (1, pA 2)] fun G => ?_; refine wp_seq (j7 G f7 [0, 1, 2, 3, 4, 5, 13] [.box [.ref 1, iA j], dY b, dI vs, dI ars, dT bd, .box (pL 2), .box [iA 0, iA 0, .v (.slice none 0 0)]] [(0, .ptr 0 0), (3, .ptr 5 0), (4, .ptr 6 0)] fun G => b6 (wp_seq (wp_seq (j7 G (t8 1 [0, 1] (r6 b j 3 (by assumption) (by omega))) (rg 7) [.box [.ref 1, iA (j + 1)], dY b, dI vs, dI ars, dT bd, .box (pL 2), .box [iA 0, iA 0, .v (.slice none 0 0)]] [(0, .ptr 0 0), (3, .ptr 5 0), (4, .ptr 6 0), (7, bA (pk b j 3 == 0))] fun G => b6 (W5 G (fun h0 q0 => ?_) fun h0 q0 => ?_)))))
 ·refine wp_skip (b6 (wp_seq (j7 G (t8 4 [0, 1] (r6 b (j + 1) ((vs.length : Int)) (by omega) (by omega))) [0, 1, 2, 3, 4, 6] [.box [.ref 1, iA (j + 1 + 1)], dY b, dI vs, dI ars, dT bd, .box [iA 2, iA (pk b (j + 1) (vs.length : Int)), .v (.slice none 0 0)]] [(4, .ptr 5 0)] fun G => b6 (wp_ret ?_)))); obtain ⟨ρ, G⟩ := G.nilT 6 (.exprs []) [.box [.ref 1, iA (j + 1 + 1)], dY b, dI vs, dI ars, dT bd, .box [iA 2, iA (pk b (j + 1) (vs.length : Int)), .tref 6]] [(4, .ptr 5 0)]; exact rxv (.agg [iA 2, iA (pk b (j + 1) (vs.length : Int)), .tref 6]) G [0, 1, 2, 3, 4, 6] (by show _ = AV.ren (nth [0, 1, 2, 3, 4, 6]) (.agg [iA (i5 b (vs.length : Int) j).kind, iA (i5 b (vs.length : Int) j).value, .tref 5]); rw [be0 (by omega)] <;> rfl) (by show _ = mR [0, 1, 2, 3, 4, 6] [.box [.ref 1, iA (j + 2)], dY b, dI vs, dI ars, dT bd, .tree (D.exprs (i5 b (vs.length : Int) j).kids)]; have e1 : (j + 2 : Int) = (j + 1 + 1) := (by omega); rw [e1, be0 (by omega)] <;> rfl)
 ·refine wp_seq (j7 G (t8 2 [0, 1, 15] (i6.lend (C3 b (j + 1) atL (by simp [h0]) (by omega) (by omega)) [.no, .no, .row 3])) (rg 7) [.box [.ref 1, iA (j + 1 + 1)], dY b, dI vs, dI ars, dT bd, .box (pL 2), .box [iA 1, iA (nm b (j + 1) atL), .v (.slice none 0 0)]] [(0, .ptr 0 0), (3, .ptr 5 0), (4, .ptr 6 0)] fun G => b6 (wp_ret (j8 ?_))); obtain ⟨ρ, G⟩ := G.nilT 7 (.exprs []) [.box [.ref 1, iA (j + 1 + 1)], dY b, dI vs, dI ars, dT bd, .box (pL 2), .box [iA 1, iA (nm b (j + 1) atL), .tref 7]] [(0, .ptr 0 0), (3, .ptr 5 0), (4, .ptr 6 0)]; exact rxv (.agg [iA 1, iA (nm b (j + 1) atL), .tref 7]) G [0, 1, 2, 3, 4, 7] (by show _ = AV.ren (nth [0, 1, 2, 3, 4, 7]) (.agg [iA (i5 b (vs.length : Int) j).kind, iA (i5 b (vs.length : Int) j).value, .tref 5]); rw [be1 (by omega)] <;> rfl) (by show _ = mR [0, 1, 2, 3, 4, 7] [.box [.ref 1, iA (j + 2)], dY b, dI vs, dI ars, dT bd, .tree (D.exprs (i5 b (vs.length : Int) j).kids)]; have e1 : (j + 2 : Int) = (j + 1 + 1) := (by omega); rw [e1, be1 (by omega)] <;> rfl)
theorem ad0 (vs ars : List Int) (bd : List b8) (e : b5) : i6.ok Try.prog (J3 31 [pA 0, eA e 3] ([dI vs, dI ars, dT bd] ++ eS e) (bA (d8 vs.length ars.length e))) := E0 ⟨vs, ars, bd⟩ e
abbrev drC (b : List UInt8) (vs ars : List Int) (bd : List b8) (d : Nat) (j n : Int) : i6 := ⟨62, [.ptr 0 0, pA 2, iA n], dwS b j vs ars bd, dwS b (A9 b vs.length ars.length d j).2 vs ars bd ++ exO (A9 b vs.length ars.length d j).1, exA (A9 b vs.length ars.length d j).1 5⟩
section
variable {b : List UInt8} {nv na : Int} {d : Nat} {j : Int}
theorem bx3 (h : d < 2) : A9 b nv na d j = (i5 b nv j, j + 2) := by
 match d, h with
 | 0, _ => rfl
 | 1, _ => simp [A9]
theorem bq6 (h : 0 < d) (h1 : pk b j 4 = 0) : A9 b nv na (d + 1) j = (i5 b nv (j + 1), j + 3) := by rw [A9, if_neg (by omega), if_pos h1]
theorem bj0 (h : 0 < d) (h1 : ¬ pk b j 4 = 0) (h2 : nm b (j + 1) G9 = 3) (h3 : na = 0) : A9 b nv na (d + 1) j = (i5 b nv (j + 2), j + 4) := by rw [A9, if_neg (by omega), if_neg h1, if_pos h2, if_pos h3]
theorem bi9 (h : 0 < d) (h1 : ¬ pk b j 4 = 0) (h2 : nm b (j + 1) G9 = 3) (h3 : ¬ na = 0) : A9 b nv na (d + 1) j = (⟨3, pk b (j + 2) na, [i5 b nv (j + 3)]⟩, j + 5) := by rw [A9, if_neg (by omega), if_neg h1, if_pos h2, if_neg h3]
abbrev drK (b : List UInt8) (nv na : Int) (d : Nat) (j : Int) (k : Nat) : List b5 × Int := D0 (A9 b nv na d) k (j + 2)
theorem bx2 (h : 0 < d) (h1 : ¬ pk b j 4 = 0) (h2 : ¬ nm b (j + 1) G9 = 3) {m : Int} (h3 : 0 ≤ m) (h4 : ¬ m > 0) : A9 b nv na (d + 1) j = (⟨nm b (j + 1) G9, 0, (drK b nv na d j (i8 (nm b (j + 1) G9) - m).toNat).1⟩, (drK b nv na d j (i8 (nm b (j + 1) G9) - m).toNat).2) := by
 have e : m = 0 := by omega
 rw [e, Int.sub_zero, A9, if_neg (by omega), if_neg h1, if_neg h2]
theorem aX2 {x m : Int} (h3 : m > 0) (h4 : m ≤ x) : drK b nv na d j (x - (m - 1)).toNat = ((drK b nv na d j (x - m).toNat).1 ++ [(A9 b nv na d (drK b nv na d j (x - m).toNat).2).1], (A9 b nv na d (drK b nv na d j (x - m).toNat).2).2) := by
 rw [show (x - (m - 1)).toNat = (x - m).toNat + 1 by omega]; rfl
theorem bz3 (r0 : 0 ≤ j) (r1 : j ≤ 900000000) : 0 ≤ i8 (nm b (j + 1) G9) ∧ i8 (nm b (j + 1) G9) ≤ 3 := by
 have h := aB0 b (k := j + 1) (l := G9) (by omega) (by omega) (by simp)
 simp only [bG8, bI2, List.not_mem_nil, or_false] at h
 rcases h with h | h | h | h | h | h | h | h | h <;> rw [h] <;> decide
theorem bx5 (r0 : 0 ≤ j) {k : Nat} (hk : k ≤ 3) : j + 2 ≤ (drK b nv na d j k).2 ∧ (drK b nv na d j k).2 ≤ j + 2 + 3 * cE d := by
 have hc := at9 d
 have h := bb2 (f := A9 b nv na d) (c := cE d) (m := 3) (by omega) k (j + 2) hk fun i _ _ => ax4 b nv na d i
 have h4 : (k : Int) * cE d ≤ 3 * cE d := bI9 (by omega) (by omega)
 unfold drK; omega
theorem bx4 {x m : Int} (r0 : 0 ≤ j) (h3 : m > 0) (h4 : m ≤ x) (h5 : x ≤ 3) (r1 : j + cE (d + 1) ≤ 800000000) : (drK b nv na d j (x - m).toNat).2 + cE d ≤ 800000000 := by
 have hc := at9 d
 have hce : cE (d + 1) = 5 + 3 * cE d := rfl
 have hm : (x - m).toNat ≤ 2 := by omega
 have h := bb2 (f := A9 b nv na d) (c := cE d) (m := 2) (by omega) (x - m).toNat (j + 2) hm fun i _ _ => ax4 b nv na d i
 have h4 : ((x - m).toNat : Int) * cE d ≤ 2 * cE d := bI9 (by omega) (by omega)
 unfold drK; omega
end
theorem aU7 (b : List UInt8) (vs ars : List Int) (bd : List b8) (d : Nat) (hd : d < 2) (j n : Int) (hn : n = d) (r0 : 0 ≤ j) (r1 : j ≤ 900000000) : i6.ok Try.prog (drC b vs ars bd d j n) := by
 refine E2 62 Try.func62 [.box [.ref 1, iA j], dY b, dI vs, dI ars, dT bd] [(0, .ptr 0 0), (1, pA 2), (2, iA n)] fun G => ?_; refine wp_seq (j7 G f7 [0, 1, 2, 3, 4, 5, 13] [.box [.ref 1, iA j], dY b, dI vs, dI ars, dT bd, .box (pL 2), .box [iA 0, iA 0, .v (.slice none 0 0)]] [(0, .ptr 0 0), (2, iA n), (4, .ptr 5 0), (6, .ptr 6 0)] fun G => b6 (wp_seq (wp_seq ?_))); cases h0 : (decide (n < 2))
 ·have q0 := Y1 h0; exact False.elim (by omega)
 ·have q0 := Y0 h0; refine l5 G (H2 (fc h0 fz) [(3, 0), (4, 0), (5, 0), (1006, 0)]) [(16, bA true)] fun G => b6 (rT G true (by kernel_rfl) (wp_seq (j7 G (t8 2 (rg 5) (ad2 b j vs ars bd (by assumption) (by assumption))) [0, 1, 2, 3, 4, 5, 6, 23] [.box [.ref 1, iA (j + 2)], dY b, dI vs, dI ars, dT bd, .box (pL 2), .box [iA (i5 b (vs.length : Int) j).kind, iA (i5 b (vs.length : Int) j).value, .tref 7], .tree (D.exprs (i5 b (vs.length : Int) j).kids)] [(0, .ptr 0 0), (2, iA n), (4, .ptr 5 0), (6, .ptr 6 0)] fun G => b6 (wp_ret (j8 ?_))))); exact rxv (.agg [iA (i5 b (vs.length : Int) j).kind, iA (i5 b (vs.length : Int) j).value, .tref 7]) G [0, 1, 2, 3, 4, 7] (by show _ = AV.ren (nth [0, 1, 2, 3, 4, 7]) (.agg [iA (A9 b (vs.length : Int) (ars.length : Int) d j).fst.kind, iA (A9 b (vs.length : Int) (ars.length : Int) d j).fst.value, .tref 5]); rw [bx3 hd] <;> rfl) (by show _ = mR [0, 1, 2, 3, 4, 7] [.box [.ref 1, iA (A9 b (vs.length : Int) (ars.length : Int) d j).snd], dY b, dI vs, dI ars, dT bd, .tree (D.exprs (A9 b (vs.length : Int) (ars.length : Int) d j).fst.kids)]; rw [bx3 hd] <;> rfl)
abbrev ao2 (b : List UInt8) (vs : List Int) (ars : List Int) (d : Nat) (j : Int) (k : Int) := drK b (vs.length : Int) (ars.length : Int) d j (i8 (nm b (j + 1) G9) - k).toNat
abbrev ak5 (b : List UInt8) (vs : List Int) (ars : List Int) (d : Nat) (j : Int) : AV := (.agg [iA (A9 b (vs.length : Int) (ars.length : Int) (d + 1) j).fst.kind, iA (A9 b (vs.length : Int) (ars.length : Int) (d + 1) j).fst.value, .tref 5])
abbrev ak4 (b : List UInt8) (vs : List Int) (ars : List Int) (bd : List b8) (d : Nat) (j : Int) : List It := [.box [.ref 1, iA (A9 b (vs.length : Int) (ars.length : Int) (d + 1) j).snd], dY b, dI vs, dI ars, dT bd, .tree (D.exprs (A9 b (vs.length : Int) (ars.length : Int) (d + 1) j).fst.kids)]
abbrev av7 : It := .box [iA 0, iA 0, .v (.slice none 0 0)]
abbrev U7 (n : Int) (r0 : List (Nat × AV)) : List (Nat × AV) := (0, .ptr 0 0) :: (2, iA n) :: (4, .ptr 5 0) :: (6, .ptr 6 0) :: r0
theorem bg1 (b : List UInt8) (vs ars : List Int) (bd : List b8) (d : Nat) (hd : 0 < d) (hd2 : d ≤ 100) (ih : ∀ (j n : Int), n = d → 0 ≤ j → j + cE d ≤ 800000000 → i6.ok Try.prog (drC b vs ars bd d j n)) (j n : Int) (hn : n = ((d + 1 : Nat) : Int)) (r0 : 0 ≤ j) (r1 : j + cE (d + 1) ≤ 800000000) : i6.ok Try.prog (drC b vs ars bd (d + 1) j n) := by
  refine E2 62 Try.func62 [.box [.ref 1, iA j], dY b, dI vs, dI ars, dT bd] [(0, .ptr 0 0), (1, pA 2), (2, iA n)] fun G => ?_; have hc := at9 d; have hce : cE (d + 1) = 5 + 3 * cE d := rfl; have har := bz3 (b := b) (j := j) r0 (by omega); refine wp_seq (j7 G f7 [0, 1, 2, 3, 4, 5, 13] [.box [.ref 1, iA j], dY b, dI vs, dI ars, dT bd, .box (pL 2), av7] (U7 n []) fun G => b6 (wp_seq (wp_seq ?_))); cases h0 : (decide (n < 2))
  ·
   have q0 := Y1 h0; refine j7 G (y9 (m9 4 [0, 1] (r6 b j 4 (by assumption) (by omega)) y8) (fc h0 fz) [(3, 0), (4, 0), (5, 0), (1006, 0)]) (rg 7) [.box [.ref 1, iA (j + 1)], dY b, dI vs, dI ars, dT bd, .box (pL 2), av7] (U7 n [(16, bA (pk b j 4 == 0))]) fun G => b6 (W5 G (fun h1 q1 => ?_) fun h1 q1 => ?_)
   ·
    refine wp_skip (b6 (wp_seq (j7 G (t8 2 [0, 1, 15] (i6.lend (C3 b (j + 1) G9 (by simp [h0, h1]) (by omega) (by omega)) [.no, .no, .row 3])) (rg 7) [.box [.ref 1, iA (j + 1 + 1)], dY b, dI vs, dI ars, dT bd, .box (pL 2), av7] (U7 n [(7, iA (nm b (j + 1) G9))]) fun G => b6 (wp_seq (wp_seq (l5 G f7 [(24, bA (nm b (j + 1) G9 == 3))] fun G => b6 (W5 G (fun h2 q2 => ?_) fun h2 q2 => ?_)))))))
    ·
     refine wp_skip (b6 (wp_seq (j7 G f7 [0, 1, 2, 3, 4, 5, 6, 23] [.box [.ref 1, iA (j + 1 + 1)], dY b, dI vs, dI ars, dT bd, .box (pL 2), av7, .box [iA (nm b (j + 1) G9), iA 0, .v (.slice none 0 0)]] (U7 n [(7, iA (nm b (j + 1) G9)), (8, .ptr 7 0)]) fun G => b6 (wp_seq (wp_seq (J1 G (t8 1 [] (Z9 (nm b (j + 1) G9))) (U7 n [(8, .ptr 7 0), (9, iA (i8 (nm b (j + 1) G9)))]) fun G => b6 (wp_block ?_))))))); obtain ⟨ρ, G⟩ := G.nilT 8 (.exprs []) [.box [.ref 1, iA (j + 1 + 1)], dY b, dI vs, dI ars, dT bd, .box (pL 2), .box [iA 0, iA 0, .v (.slice none 0 0)], .box [iA (nm b (j + 1) G9), iA 0, .tref 8]] (U7 n [(8, .ptr 7 0), (9, iA (i8 (nm b (j + 1) G9)))]); replace G := G.as [.box [.ref 1, iA (drK b (vs.length : Int) (ars.length : Int) d j (i8 (nm b (j + 1) G9) - i8 (nm b (j + 1) G9)).toNat).snd], dY b, dI vs, dI ars, dT bd, .box (pL 2), .box [iA 0, iA 0, .v (.slice none 0 0)], .box [iA (nm b (j + 1) G9), iA 0, .tref 8], .tree (D.exprs (drK b (vs.length : Int) (ars.length : Int) d j (i8 (nm b (j + 1) G9) - i8 (nm b (j + 1) G9)).toNat).fst)] (U7 n [(8, .ptr 7 0), (9, iA (i8 (nm b (j + 1) G9)))]) (by have e1 : ((drK b (vs.length : Int) (ars.length : Int) d j (i8 (nm b (j + 1) G9) - i8 (nm b (j + 1) G9)).toNat).snd : Int) = (j + 1 + 1) := (by rw [Int.sub_self]; show j + 2 = j + 1 + 1; omega); have e2 : ((drK b (vs.length : Int) (ars.length : Int) d j (i8 (nm b (j + 1) G9) - i8 (nm b (j + 1) G9)).toNat).fst : List b5) = ([]) := (by rw [Int.sub_self]; rfl); (first | rw [e1, e2] | simp only [e1, e2]) <;> rfl) (by kernel_rfl); refine A4 (κ := Int) (fun k => 0 ≤ k ∧ k ≤ i8 (nm b (j + 1) G9)) (fun k => k.toNat) (fun k => [.box [.ref 1, iA (drK b vs.length ars.length d j (i8 (nm b (j + 1) G9) - k).toNat).2], dY b, dI vs, dI ars, dT bd, .box (pL 2), .box [iA 0, iA 0, .v (.slice none 0 0)], .box [iA (nm b (j + 1) G9), iA 0, .tref 8], .tree (.exprs (drK b vs.length ars.length d j (i8 (nm b (j + 1) G9) - k).toNat).1)]) (fun k => [(0, .ptr 0 0), (2, iA n), (4, .ptr 5 0), (6, .ptr 6 0), (8, .ptr 7 0), (9, iA k)]) (i8 (nm b (j + 1) G9)) (by omega) (t7.at G _ _) ?_; clear G; intro k ρ a w hp G; replace G := t7.at G [.box [.ref 1, iA (ao2 b vs ars d j k).snd], dY b, dI vs, dI ars, dT bd, .box (pL 2), av7, .box [iA (nm b (j + 1) G9), iA 0, .tref 8], .tree (D.exprs (ao2 b vs ars d j k).fst)] (U7 n [(8, .ptr 7 0), (9, iA k)]); have hkb := bx5 (b := b) (nv := vs.length) (na := ars.length) (d := d) (j := j) r0 (k := (i8 (nm b (j + 1) G9) - k).toNat) (by omega); have hkl : (drK b vs.length ars.length d j (i8 (nm b (j + 1) G9) - k).toNat).1.length = (i8 (nm b (j + 1) G9) - k).toNat := aC3 _ _ _; refine wp_seq (wp_seq (l5 G f7 [(48, bA (decide (k > 0)))] fun G => b6 (rcD G (fun h4 q4 => ?_) fun h4 q4 => ?_)))
     · refine wp_exit (A2 (A2 (A1 (b6 (wp_seq (j7 G f7 [0, 1, 2, 3, 4, 6, 8] [.box [.ref 1, iA (ao2 b vs ars d j k).snd], dY b, dI vs, dI ars, dT bd, .box [iA (nm b (j + 1) G9), iA 0, .tref 6], .tree (D.exprs (ao2 b vs ars d j k).fst)] [(6, .ptr 5 0)] fun G => b6 (wp_ret ?_))))))); exact rxv (.agg [iA (nm b (j + 1) G9), iA 0, .tref 6]) G [0, 1, 2, 3, 4, 6] (by show _ = AV.ren (nth [0, 1, 2, 3, 4, 6]) (ak5 b vs ars d j); unfold ak5; rw [bx2 (m := k) hd (by omega) (by omega) (by omega) (by omega)] <;> rfl) (by show _ = mR [0, 1, 2, 3, 4, 6] (ak4 b vs ars bd d j); unfold ak4; rw [bx2 (m := k) hd (by omega) (by omega) (by omega) (by omega)] <;> rfl)
     · refine wp_skip (b6 (wp_seq (wp_block (R7 G (t8 6 (rg 5) (ih ((drK b (vs.length : Int) (ars.length : Int) d j (i8 (nm b (j + 1) G9) - k).toNat).snd) (n - 1) (by omega) (by omega) (bx4 (by omega) (by omega) (by omega) (by omega) r1))) [0, 1, 0, 0, 0, 16, 60, 124, 255, 511, 1023] [0, 1, 2, 3, 4, 5, 6, 7, 73] [.box [.ref 1, iA (A9 b (vs.length : Int) (ars.length : Int) d (ao2 b vs ars d j k).snd).snd], dY b, dI vs, dI ars, dT bd, .box (pL 2), av7, .box [iA (nm b (j + 1) G9), iA 0, .tref 8], .tree (D.exprs ((ao2 b vs ars d j k).fst ++ [F0 (A9 b (vs.length : Int) (ars.length : Int) d (ao2 b vs ars d j k).snd).fst]))] (U7 n [(8, .ptr 7 0), (9, iA k)]) ((wO (n - 1)) :: (aP ((drK b (vs.length : Int) (ars.length : Int) d j (i8 (nm b (j + 1) G9) - k).toNat).fst.length + 1) 40 [])) ⟨oW (by omega), (aK (by omega) bF1)⟩ fun G => v7 (b6 (K5 G f7 [(9, iA (k - 1))] [wO (k - 1)] (o1 (by omega)) fun G => b6 ?_)))))); exact rxn G (k - 1) (by omega) (by omega) (rg 9) (by have e1 : ((drK b (vs.length : Int) (ars.length : Int) d j (i8 (nm b (j + 1) G9) - (k - 1)).toNat).snd : Int) = ((A9 b (vs.length : Int) (ars.length : Int) d (drK b (vs.length : Int) (ars.length : Int) d j (i8 (nm b (j + 1) G9) - k).toNat).snd).snd) := (by rw [aX2 (by omega) (by omega)]; done); have e2 : ((drK b (vs.length : Int) (ars.length : Int) d j (i8 (nm b (j + 1) G9) - (k - 1)).toNat).fst : List b5) = ((drK b (vs.length : Int) (ars.length : Int) d j (i8 (nm b (j + 1) G9) - k).toNat).fst ++ [F0 (A9 b (vs.length : Int) (ars.length : Int) d (drK b (vs.length : Int) (ars.length : Int) d j (i8 (nm b (j + 1) G9) - k).toNat).snd).fst]) := (by rw [aX2 (by omega) (by omega)]; (simp only [b5.eta]; done)); (first | rw [e1, e2] | simp only [e1, e2]) <;> rfl)
    ·
     refine wp_seq (wp_seq (l5 G f7 [(28, bA ((ars.length : Int) == 0))] fun G => b6 (W5 G (fun h3 q3 => ?_) fun h3 q3 => ?_)))
     · refine wp_skip (b6 (wp_seq (O3 G (y9 (m9 5 [0, 1] (r6 b (j + 1 + 1) ((ars.length : Int)) (by omega) (by omega)) (m9 8 (rg 5) (ad2 b (j + 1 + 1 + 1) vs ars bd (by omega) (by omega)) y8)) fz []) [0, 0, 0, 4, 12, 30, 0, 0, 254, 510, 1023, 2047] [0, 1, 2, 3, 4, 5, 6, 79] [.box [.ref 1, iA (j + 1 + 1 + 1 + 2)], dY b, dI vs, dI ars, dT bd, .box (pL 2), .box [iA (nm b (j + 1) G9), iA (pk b (j + 1 + 1) (ars.length : Int)), .tref 7], .tree (D.exprs [F0 (i5 b (vs.length : Int) (j + 1 + 1 + 1))])] (U7 n [(7, iA (nm b (j + 1) G9))]) fun G => b6 (wp_ret (j8 ?_))))); exact rxv (.agg [iA (nm b (j + 1) G9), iA (pk b (j + 1 + 1) (ars.length : Int)), .tref 7]) G [0, 1, 2, 3, 4, 7] (by show _ = AV.ren (nth [0, 1, 2, 3, 4, 7]) (ak5 b vs ars d j); unfold ak5; have e1 : ((A9 b (vs.length : Int) (ars.length : Int) (d + 1) j).fst.kind : Int) = (nm b (j + 1) G9) := (by rw [bi9 hd (by omega) (by omega) (by omega)]; (simp only [Int.add_assoc, Int.reduceAdd, b5.eta, b5.kids, b5.kind, b5.value]; omega)); have e2 : ((A9 b (vs.length : Int) (ars.length : Int) (d + 1) j).fst.value : Int) = (pk b (j + 1 + 1) (ars.length : Int)) := (by rw [bi9 hd (by omega) (by omega) (by omega)]; (simp only [Int.add_assoc, Int.reduceAdd, b5.eta, b5.kids, b5.kind, b5.value]; done)); (first | rw [e1, e2] | simp only [e1, e2]) <;> rfl) (by show _ = mR [0, 1, 2, 3, 4, 7] (ak4 b vs ars bd d j); unfold ak4; have e1 : ((A9 b (vs.length : Int) (ars.length : Int) (d + 1) j).snd : Int) = (j + 1 + 1 + 1 + 2) := (by rw [bi9 hd (by omega) (by omega) (by omega)]; (simp only [Int.add_assoc, Int.reduceAdd, b5.eta, b5.kids, b5.kind, b5.value]; done)); have e2 : ((A9 b (vs.length : Int) (ars.length : Int) (d + 1) j).fst.kids : List b5) = ([F0 (i5 b (vs.length : Int) (j + 1 + 1 + 1))]) := (by rw [bi9 hd (by omega) (by omega) (by omega)]; show [_] = _; simp only [Int.add_assoc, Int.reduceAdd, b5.eta]; done); (first | rw [e1, e2] | simp only [e1, e2]) <;> rfl)
     · refine wp_seq (j7 G (t8 2 (rg 5) (ad2 b (j + 1 + 1) vs ars bd (by omega) (by omega))) [0, 1, 2, 3, 4, 5, 6, 23] [.box [.ref 1, iA (j + 1 + 1 + 2)], dY b, dI vs, dI ars, dT bd, .box (pL 2), .box [iA (i5 b (vs.length : Int) (j + 1 + 1)).kind, iA (i5 b (vs.length : Int) (j + 1 + 1)).value, .tref 7], .tree (D.exprs (i5 b (vs.length : Int) (j + 1 + 1)).kids)] (U7 n [(7, iA (nm b (j + 1) G9))]) fun G => b6 (wp_ret (j8 (j8 ?_)))); exact rxv (.agg [iA (i5 b (vs.length : Int) (j + 1 + 1)).kind, iA (i5 b (vs.length : Int) (j + 1 + 1)).value, .tref 7]) G [0, 1, 2, 3, 4, 7] (by show _ = AV.ren (nth [0, 1, 2, 3, 4, 7]) (ak5 b vs ars d j); unfold ak5; have e1 : ((A9 b (vs.length : Int) (ars.length : Int) (d + 1) j).fst.kind : Int) = ((i5 b (vs.length : Int) (j + 1 + 1)).kind) := (by rw [bj0 hd (by omega) (by omega) (by omega)]; (simp only [Int.add_assoc, Int.reduceAdd, b5.eta, b5.kids, b5.kind, b5.value]; done)); have e2 : ((A9 b (vs.length : Int) (ars.length : Int) (d + 1) j).fst.value : Int) = ((i5 b (vs.length : Int) (j + 1 + 1)).value) := (by rw [bj0 hd (by omega) (by omega) (by omega)]; (simp only [Int.add_assoc, Int.reduceAdd, b5.eta, b5.kids, b5.kind, b5.value]; done)); (first | rw [e1, e2] | simp only [e1, e2]) <;> rfl) (by show _ = mR [0, 1, 2, 3, 4, 7] (ak4 b vs ars bd d j); unfold ak4; have e1 : ((A9 b (vs.length : Int) (ars.length : Int) (d + 1) j).snd : Int) = (j + 1 + 1 + 2) := (by rw [bj0 hd (by omega) (by omega) (by omega)]; (simp only [Int.add_assoc, Int.reduceAdd, b5.eta, b5.kids, b5.kind, b5.value]; done)); have e2 : ((A9 b (vs.length : Int) (ars.length : Int) (d + 1) j).fst : b5) = (i5 b (vs.length : Int) (j + 1 + 1)) := (by rw [bj0 hd (by omega) (by omega) (by omega)]; (simp only [Int.add_assoc, Int.reduceAdd, b5.eta, b5.kids, b5.kind, b5.value]; done)); (first | rw [e1, e2] | simp only [e1, e2]) <;> rfl)
   · refine wp_seq (j7 G (t8 2 (rg 5) (ad2 b (j + 1) vs ars bd (by omega) (by omega))) [0, 1, 2, 3, 4, 5, 6, 23] [.box [.ref 1, iA (j + 1 + 2)], dY b, dI vs, dI ars, dT bd, .box (pL 2), .box [iA (i5 b (vs.length : Int) (j + 1)).kind, iA (i5 b (vs.length : Int) (j + 1)).value, .tref 7], .tree (D.exprs (i5 b (vs.length : Int) (j + 1)).kids)] (U7 n []) fun G => b6 (wp_ret (j8 ?_))); exact rxv (.agg [iA (i5 b (vs.length : Int) (j + 1)).kind, iA (i5 b (vs.length : Int) (j + 1)).value, .tref 7]) G [0, 1, 2, 3, 4, 7] (by show _ = AV.ren (nth [0, 1, 2, 3, 4, 7]) (ak5 b vs ars d j); unfold ak5; rw [bq6 hd (by omega)] <;> rfl) (by show _ = mR [0, 1, 2, 3, 4, 7] (ak4 b vs ars bd d j); unfold ak4; have e1 : ((A9 b (vs.length : Int) (ars.length : Int) (d + 1) j).snd : Int) = (j + 1 + 2) := (by rw [bq6 hd (by omega)]; (simp only [Int.add_assoc, Int.reduceAdd, b5.eta, b5.kids, b5.kind, b5.value]; done)); rw [e1, bq6 hd (by omega)] <;> rfl)
  · have q0 := Y0 h0; exact False.elim (by omega)
theorem aS1 (b : List UInt8) (vs ars : List Int) (bd : List b8) : ∀ (d : Nat) (j n : Int), d ≤ 100 → n = d → 0 ≤ j → j + cE d ≤ 800000000 → i6.ok Try.prog (drC b vs ars bd d j n)
 | 0, j, n, _, hn, r0, r1 => aU7 b vs ars bd 0 (by omega) j n hn r0 (by have := at9 0; omega)
 | 1, j, n, _, hn, r0, r1 => aU7 b vs ars bd 1 (by omega) j n hn r0 (by have := at9 1; omega)
 | d + 2, j, n, hd, hn, r0, r1 => bg1 b vs ars bd (d + 1) (by omega) (by omega) (fun j n => aS1 b vs ars bd (d + 1) j n (by omega)) j n hn r0 r1
abbrev smC (b : List UInt8) (vs ars : List Int) (bd : List b8) (j : Int) : i6 := ⟨25, [.ptr 0 0, pA 2], dwS b j vs ars bd, dwS b (o8 b vs.length ars.length j).2 vs ars bd ++ exO (o8 b vs.length ars.length j).1, exA (o8 b vs.length ars.length j).1 5⟩
section
variable {b : List UInt8} {nv na : Nat} {j : Int}
theorem a47 (h : d8 nv na (A9 b nv na (nm b j G5).toNat (j + 1)).1 = true) : o8 b nv na j = A9 b nv na (nm b j G5).toNat (j + 1) := if_pos h
theorem a46 (h : d8 nv na (A9 b nv na (nm b j G5).toNat (j + 1)).1 = false) : o8 b nv na j = (i5 b nv (A9 b nv na (nm b j G5).toNat (j + 1)).2, (A9 b nv na (nm b j G5).toNat (j + 1)).2 + 2) := if_neg (by rw [h]; decide)
theorem bs4 (r0 : 0 ≤ j) (r1 : j ≤ 700000000) : cE (nm b j G5).toNat ≤ 364 := cE4 (dp4 b r0 (by omega)).2.2
end
abbrev R4 (b : List UInt8) (vs : List Int) (ars : List Int) (j : Int) := A9 b (vs.length : Int) (ars.length : Int) (nm b j G5).toNat (j + 1)
theorem U3 (b : List UInt8) (vs ars : List Int) (bd : List b8) (j : Int) (r0 : 0 ≤ j) (r1 : j ≤ 700000000) : i6.ok Try.prog (smC b vs ars bd j) := by
 have hdr := fun (i n : Int) => aS1 b vs ars bd (nm b j G5).toNat i n (bH6 (dp4 b r0 (by omega)).2.2 (by omega))
 refine E2 19 Try.func25 [.box [.ref 1, iA j], dY b, dI vs, dI ars, dT bd] [(0, .ptr 0 0), (1, pA 2)] fun G => ?_; have hd4 := bs4 (b := b) r0 r1; have hdb := ax4 b vs.length ars.length (nm b j G5).toNat (j + 1); refine wp_seq (j7 G f7 [0, 1, 2, 3, 4, 5, 13] [.box [.ref 1, iA j], dY b, dI vs, dI ars, dT bd, .box (pL 2), .box [iA 0, iA 0, .v (.slice none 0 0)]] [(0, .ptr 0 0), (3, .ptr 5 0), (4, .ptr 6 0)] fun G => b6 (wp_seq (O3 G (y9 (m9 4 [0, 1, 31] (i6.lend (C3 b j G5 (List.cons_ne_nil _ _) (by assumption) (by omega)) [.no, .no, .row 3]) (m9 5 (rg 5) (hdr (j + 1) (nm b j G5) (bb4 b (by omega) (by omega)) (by omega) (by omega)) y8)) fz []) [0, 0, 0, 0, 12, 31, 0, 127] [0, 1, 2, 3, 4, 5, 6, 47, 55] [.box [.ref 1, iA (R4 b vs ars j).snd], dY b, dI vs, dI ars, dT bd, .box (pL 2), .box [iA 0, iA 0, .v (.slice none 0 0)], .tree (D.exprs (R4 b vs ars j).fst.kids), .box [iA (R4 b vs ars j).fst.kind, iA (R4 b vs ars j).fst.value, .tref 7]] [(0, .ptr 0 0), (3, .ptr 5 0), (4, .ptr 6 0), (5, .ptr 8 0)] fun G => b6 (wp_seq (wp_seq (l5 G (t8 2 [2, 3, 4, 7] (i6.lend (ad0 vs ars bd ((A9 b (vs.length : Int) (ars.length : Int) (nm b j G5).toNat (j + 1)).fst)) [.no, .no, .no, .tree])) [(14, bA (d8 vs.length ars.length (R4 b vs ars j).fst))] fun G => b6 (rcB (b := d8 vs.length ars.length (A9 b (vs.length : Int) (ars.length : Int) (nm b j G5).toNat (j + 1)).fst) G (fun h0 => ?_) fun h0 => ?_)))))))
 ·refine wp_skip (b6 (wp_seq (j7 G (t8 2 (rg 5) (ad2 b ((A9 b (vs.length : Int) (ars.length : Int) (nm b j G5).toNat (j + 1)).snd) vs ars bd (by omega) (by omega))) [0, 1, 2, 3, 4, 6, 25] [.box [.ref 1, iA ((R4 b vs ars j).snd + 2)], dY b, dI vs, dI ars, dT bd, .box [iA (i5 b (vs.length : Int) (R4 b vs ars j).snd).kind, iA (i5 b (vs.length : Int) (R4 b vs ars j).snd).value, .tref 6], .tree (D.exprs (i5 b (vs.length : Int) (R4 b vs ars j).snd).kids)] [(4, .ptr 5 0)] fun G => b6 (wp_ret ?_)))); exact rxv (.agg [iA (i5 b (vs.length : Int) (A9 b (vs.length : Int) (ars.length : Int) (nm b j G5).toNat (j + 1)).snd).kind, iA (i5 b (vs.length : Int) (A9 b (vs.length : Int) (ars.length : Int) (nm b j G5).toNat (j + 1)).snd).value, .tref 6]) G [0, 1, 2, 3, 4, 6] (by show _ = AV.ren (nth [0, 1, 2, 3, 4, 6]) (.agg [iA (o8 b vs.length ars.length j).fst.kind, iA (o8 b vs.length ars.length j).fst.value, .tref 5]); rw [a46 (by with_reducible assumption)] <;> rfl) (by show _ = mR [0, 1, 2, 3, 4, 6] [.box [.ref 1, iA (o8 b vs.length ars.length j).snd], dY b, dI vs, dI ars, dT bd, .tree (D.exprs (o8 b vs.length ars.length j).fst.kids)]; rw [a46 (by with_reducible assumption)] <;> rfl)
 ·refine wp_seq (j7 G f7 (rg 8) [.box [.ref 1, iA (R4 b vs ars j).snd], dY b, dI vs, dI ars, dT bd, .box (pL 2), .box [iA (R4 b vs ars j).fst.kind, iA (R4 b vs ars j).fst.value, .tref 7], .tree (D.exprs (R4 b vs ars j).fst.kids)] [(0, .ptr 0 0), (3, .ptr 5 0), (4, .ptr 6 0)] fun G => b6 (wp_ret (j8 ?_))); exact rxv (.agg [iA (A9 b (vs.length : Int) (ars.length : Int) (nm b j G5).toNat (j + 1)).fst.kind, iA (A9 b (vs.length : Int) (ars.length : Int) (nm b j G5).toNat (j + 1)).fst.value, .tref 7]) G [0, 1, 2, 3, 4, 7] (by show _ = AV.ren (nth [0, 1, 2, 3, 4, 7]) (.agg [iA (o8 b vs.length ars.length j).fst.kind, iA (o8 b vs.length ars.length j).fst.value, .tref 5]); rw [a47 (by with_reducible assumption)] <;> rfl) (by show _ = mR [0, 1, 2, 3, 4, 7] [.box [.ref 1, iA (o8 b vs.length ars.length j).snd], dY b, dI vs, dI ars, dT bd, .tree (D.exprs (o8 b vs.length ars.length j).fst.kids)]; rw [a47 (by with_reducible assumption)] <;> rfl)
abbrev stO (s : b8) : List It := [.tree (.exprs s.index.kids), .tree (.exprs s.value.kids), .tree (.stmts s.body), .tree (.stmts s.els)]
abbrev stA (s : b8) (r : Nat) : AV := .agg [iA s.kind, iA s.target, iA s.index.kind, iA s.index.value, .tref r, iA s.value.kind, iA s.value.value, .tref (r + 1), iA s.count, .tref (r + 2), .tref (r + 3)]
abbrev dsC (b : List UInt8) (vs ars : List Int) (bd : List b8) (d : Nat) (j n : Int) : i6 := ⟨98, [.ptr 0 0, pA 2, iA n], dwS b j vs ars bd, dwS b (A3 b vs.length ars.length d j).2 vs ars bd ++ stO (A3 b vs.length ars.length d j).1, stA (A3 b vs.length ars.length d j).1 5⟩
abbrev dbC (b : List UInt8) (vs ars : List Int) (bd : List b8) (d : Nat) (m : Nat) (j n c : Int) : i6 := ⟨60, [.ptr 0 0, pA 2, iA n, iA c], dwS b j vs ars bd, dwS b (D0 (A3 b vs.length ars.length d) m j).2 vs ars bd ++ [.tree (.stmts (D0 (A3 b vs.length ars.length d) m j).1)], .tref 5⟩
section
variable {b : List UInt8} {nv na d : Nat} {j : Int}
theorem a44 (h : nm b j F5 = 2) (h1 : 0 < (na : Int)) : A3 b nv na d j = soS b nv na (j + 1) := by
 cases d <;> (rw [A3, if_pos ⟨h, by omega⟩])
theorem bs1 (h : nm b j F5 = 3) (h1 : 0 < d) : A3 b nv na (d + 1) j = ifS b nv na (A3 b nv na d) (j + 1) := by
 rw [A3, if_neg (by omega), if_pos ⟨h, by omega⟩]
theorem bs0 (h : nm b j F5 = 4) (h1 : 0 < d) : A3 b nv na (d + 1) j = rpS b (A3 b nv na d) (j + 1) := by
 rw [A3, if_neg (by omega), if_neg (by omega), if_pos ⟨h, by omega⟩]
theorem W9 (h : ¬ (nm b j F5 = 2 ∧ 0 < (na : Int))) (h1 : d < 2 ∨ (¬ nm b j F5 = 3 ∧ ¬ nm b j F5 = 4)) : A3 b nv na d j = dfS b nv na (nm b j F5) (j + 1) := by
 match d, h1 with
 | 0, _ => rw [A3, if_neg (by omega)]
 | d + 1, h1 => rw [A3, if_neg (by omega), if_neg (by omega), if_neg (by omega)]
theorem bq7 {kd : Int} (h : kd = 5) : dfS b nv na kd j = (⟨5, pk b j nv, noE, (o8 b nv na (j + 1)).1, 0, [], []⟩, (o8 b nv na (j + 1)).2) := by rw [dfS, if_pos h]
theorem aJ3 {kd : Int} (h : ¬ kd = 5) : dfS b nv na kd j = (⟨1, pk b j nv, noE, (o8 b nv na (j + 1)).1, 0, [], []⟩, (o8 b nv na (j + 1)).2) := by rw [dfS, if_neg h]
end
section
variable (b : List UInt8) {j : Int}
theorem bD9 (r0 : 0 ≤ j) (r1 : j ≤ 1000000000) : 0 ≤ nm b j ibL ∧ nm b j ibL ≤ 2 := aw3 b (by simp) aQ4 r0 r1
theorem bD8 (r0 : 0 ≤ j) (r1 : j ≤ 1000000000) : 0 ≤ nm b j ieL ∧ nm b j ieL ≤ 2 := aw3 b (by simp) aQ2 r0 r1
theorem bB1 (r0 : 0 ≤ j) (r1 : j ≤ 1000000000) : 0 ≤ nm b j rbL ∧ nm b j rbL ≤ 2 := aw3 b (by simp) aO3 r0 r1
theorem bk3 (d : Nat) : (d = 0 ∧ cS (d - 1) = 402 ∧ cS d ≤ 2010) ∨ cS d = 402 + 4 * cS (d - 1) := by
 cases d with
 | zero => exact .inl ⟨rfl, rfl, by decide⟩
 | succ d => exact .inr rfl
end
section
variable {b : List UInt8} {nv na d : Nat} {j : Int}
theorem aM8 (h : nm b j F5 = 3) (h1 : 1 < d) : A3 b nv na d j = ifS b nv na (A3 b nv na (d - 1)) (j + 1) := by
 match d, h1 with
 | d + 1, h1 => exact bs1 h (by omega)
theorem aM7 (h : nm b j F5 = 4) (h1 : 1 < d) : A3 b nv na d j = rpS b (A3 b nv na (d - 1)) (j + 1) := by
 match d, h1 with
 | d + 1, h1 => exact bs0 h (by omega)
end
abbrev bl4 (b : List UInt8) (vs : List Int) (ars : List Int) (d : Nat) (j : Int) (k : Nat) := A3 b vs.length ars.length d (D0 (A3 b vs.length ars.length d) k j).snd
abbrev aE1 (n : Int) (c : Int) (r0 : List (Nat × AV)) : List (Nat × AV) := (0, .ptr 0 0) :: (2, iA n) :: (3, iA c) :: (5, .ptr 5 0) :: (8, .v (.slice none 0 0)) :: r0
theorem bg2 (b : List UInt8) (vs ars : List Int) (bd : List b8) (d m : Nat) (ih : ∀ (j n : Int), n = d → 0 ≤ j → j + cS d ≤ 600000000 → i6.ok Try.prog (dsC b vs ars bd d j n)) (j n c : Int) (hn : n = d) (hm : c = m) (hm2 : m ≤ 4) (B : Int) (hB : (m : Int) * cS d ≤ B) (r0 : 0 ≤ j) (r1 : j + B ≤ 600000000) : i6.ok Try.prog (dbC b vs ars bd d m j n c) := by
 refine E2 25 Try.func60 [.box [.ref 1, iA j], dY b, dI vs, dI ars, dT bd] [(0, .ptr 0 0), (1, pA 2), (2, iA n), (3, iA c)] fun G => ?_; have hc := am0 d; refine wp_seq (j7 G f7 (rg 6) [.box [.ref 1, iA j], dY b, dI vs, dI ars, dT bd, .box (pL 2)] (aE1 n c []) fun G => b6 (wp_seq (j7 G f7 (rg 7) [.box [.ref 1, iA j], dY b, dI vs, dI ars, dT bd, .box (pL 2), .tree (D.stmts [])] (aE1 n c [(9, .tref 6)]) fun G => b6 (wp_seq (wp_seq (J1 G f7 (aE1 n c [(9, .tref 6), (10, iA 0)]) fun G => b6 (wp_block ?_))))))); refine A4 (κ := Nat) (fun k => k ≤ m) (fun k => m - k) (fun k => [.box [.ref 1, iA (D0 (A3 b vs.length ars.length d) k j).2], dY b, dI vs, dI ars, dT bd, .box (pL 2), .tree (.stmts (D0 (A3 b vs.length ars.length d) k j).1)]) (fun k => [(0, .ptr 0 0), (2, iA n), (3, iA c), (5, .ptr 5 0), (8, .v (.slice none 0 0)), (9, .tref 6), (10, iA k)]) 0 (by omega) (t7.at G _ _) ?_; clear G; intro k ρ a w hp G; replace G := t7.at G [.box [.ref 1, iA (D0 (A3 b vs.length ars.length d) k j).snd], dY b, dI vs, dI ars, dT bd, .box (pL 2), .tree (D.stmts (D0 (A3 b vs.length ars.length d) k j).fst)] (aE1 n c [(9, .tref 6), (10, iA k)]); have hkb := bn6 b vs.length ars.length (k := j) (i := k) hB (by omega) r0 (by omega); have hkl : (D0 (A3 b vs.length ars.length d) k j).1.length = k := aC3 _ _ _; refine wp_seq (wp_seq (l5 G f7 [(14, bA (decide ((k : Int) < c)))] fun G => b6 (rcD G (fun h0 q0 => ?_) fun h0 q0 => ?_)))
 ·refine wp_exit (A2 (A2 (A1 (b6 (wp_seq (j7 G f7 [0, 1, 2, 3, 4, 6] [.box [.ref 1, iA (D0 (A3 b vs.length ars.length d) k j).snd], dY b, dI vs, dI ars, dT bd, .tree (D.stmts (D0 (A3 b vs.length ars.length d) k j).fst)] [(8, .tref 5)] fun G => b6 (wp_ret ?_))))))); exact I7 G (rg 6) (by show _ = mR (rg 6) [.box [.ref 1, iA (D0 (A3 b vs.length ars.length d) m j).snd], dY b, dI vs, dI ars, dT bd, .tree (D.stmts (D0 (A3 b vs.length ars.length d) m j).fst)]; rw [show m = k by omega] <;> rfl)
 ·refine wp_skip (b6 (wp_seq (wp_block (W0 G (t8 4 (rg 5) (ih ((D0 (A3 b vs.length ars.length d) k j).snd) n (by assumption) (by omega) (by have := bz0 b vs.length ars.length (k := j) (i := k) hB (by omega) r0 (by omega); omega))) [0, 1, 2, 3, 4, 5, 55] [.box [.ref 1, iA (bl4 b vs ars d j k).snd], dY b, dI vs, dI ars, dT bd, .box (pL 2), .tree (D.stmts ((D0 (A3 b vs.length ars.length d) k j).fst ++ [qzS (bl4 b vs ars d j k).fst]))] (aE1 n c [(9, .tref 6), (10, iA k)]) (aP ((D0 (A3 b vs.length ars.length d) k j).fst.length + 1) 152 []) (aK (by omega) bF1) fun G => v7 (b6 (K5 G f7 [(10, iA ((k : Int) + 1))] [wO ((k : Int) + 1)] (o1 (by omega)) fun G => b6 ?_)))))); exact rxn G (k + 1) (by omega) (by omega) (rg 7) (by have e1 : ((D0 (A3 b vs.length ars.length d) (k + 1) j).fst : List b8) = ((D0 (A3 b vs.length ars.length d) k j).fst ++ [qzS (A3 b vs.length ars.length d (D0 (A3 b vs.length ars.length d) k j).snd).fst]) := (by show _ ++ [_] = _ ++ [_]; unfold qzS; rw [b5.eta, b5.eta, b8.eta]; done); (first | rw [e1] | simp only [e1]) <;> rfl)
abbrev av6 (b : List UInt8) (vs : List Int) (ars : List Int) (d : Nat) (j : Int) := D0 (A3 b vs.length ars.length (d - 1)) (nm b (o8 b vs.length ars.length (j + 1)).snd ibL).toNat ((o8 b vs.length ars.length (j + 1)).snd + 1)
abbrev aT8 (b : List UInt8) (vs : List Int) (ars : List Int) (d : Nat) (j : Int) := D0 (A3 b vs.length ars.length (d - 1)) (nm b (av6 b vs ars d j).snd ieL).toNat ((av6 b vs ars d j).snd + 1)
abbrev L9 (b : List UInt8) (vs : List Int) (ars : List Int) (d : Nat) (j : Int) : AV := (.agg [iA (A3 b vs.length ars.length d j).fst.kind, iA (A3 b vs.length ars.length d j).fst.target, iA (A3 b vs.length ars.length d j).fst.index.kind, iA (A3 b vs.length ars.length d j).fst.index.value, .tref 5, iA (A3 b vs.length ars.length d j).fst.value.kind, iA (A3 b vs.length ars.length d j).fst.value.value, .tref 6, iA (A3 b vs.length ars.length d j).fst.count, .tref 7, .tref 8])
abbrev L8 (b : List UInt8) (vs : List Int) (ars : List Int) (bd : List b8) (d : Nat) (j : Int) : List It := [.box [.ref 1, iA (A3 b vs.length ars.length d j).snd], dY b, dI vs, dI ars, dT bd, .tree (D.exprs (A3 b vs.length ars.length d j).fst.index.kids), .tree (D.exprs (A3 b vs.length ars.length d j).fst.value.kids), .tree (D.stmts (A3 b vs.length ars.length d j).fst.body), .tree (D.stmts (A3 b vs.length ars.length d j).fst.els)]
abbrev ad9 : It := .box [iA 0, iA 0, iA 0, iA 0, .v (.slice none 0 0), iA 0, iA 0, .v (.slice none 0 0), iA 0, .v (.slice none 0 0), .v (.slice none 0 0)]
abbrev aT7 (b : List UInt8) (vs : List Int) (ars : List Int) (j : Int) : It := .box [iA 1, iA (pk b (j + 1) (vs.length : Int)), iA 0, iA 0, .v (.slice none 0 0), iA (o8 b vs.length ars.length (j + 1 + 1)).fst.kind, iA (o8 b vs.length ars.length (j + 1 + 1)).fst.value, .tref 7, iA 0, .v (.slice none 0 0), .v (.slice none 0 0)]
abbrev aT6 (b : List UInt8) (vs : List Int) (ars : List Int) (j : Int) : It := .box [iA 1, iA (pk b (j + 1) (vs.length : Int)), iA 0, iA 0, .v (.slice none 0 0), iA (o8 b vs.length ars.length (j + 1 + 1)).fst.kind, iA (o8 b vs.length ars.length (j + 1 + 1)).fst.value, .tref 6, iA 0, .v (.slice none 0 0), .v (.slice none 0 0)]
abbrev aT5 (b : List UInt8) (vs : List Int) (j : Int) : It := .box [iA 1, iA (pk b (j + 1) (vs.length : Int)), iA 0, iA 0, .v (.slice none 0 0), iA 0, iA 0, .v (.slice none 0 0), iA 0, .v (.slice none 0 0), .v (.slice none 0 0)]
abbrev aa9 (b : List UInt8) (vs : List Int) (ars : List Int) (j : Int) : It := .tree (D.exprs (o8 b vs.length ars.length (j + 1 + 1)).fst.kids)
abbrev Q4 (b : List UInt8) (vs : List Int) (ars : List Int) (j : Int) : It := .box [.ref 1, iA (o8 b vs.length ars.length (j + 1 + 1)).snd]
abbrev ay5 : It := .box [iA 1, iA 0, iA 0, iA 0, .v (.slice none 0 0), iA 0, iA 0, .v (.slice none 0 0), iA 0, .v (.slice none 0 0), .v (.slice none 0 0)]
abbrev aT0 (b : List UInt8) (vs : List Int) (ars : List Int) (bd : List b8) (j : Int) (r0 : List It) : List It := .box [.ref 1, iA (o8 b vs.length ars.length (j + 1 + 1)).snd] :: dY b :: dI vs :: dI ars :: dT bd :: .box [iA 1, iA (pk b (j + 1) (vs.length : Int)), iA 0, iA 0, .tref 7, iA (o8 b vs.length ars.length (j + 1 + 1)).fst.kind, iA (o8 b vs.length ars.length (j + 1 + 1)).fst.value, .tref 6, iA 0, .tref 8, .tref 9] :: .tree (D.exprs (o8 b vs.length ars.length (j + 1 + 1)).fst.kids) :: .tree (D.exprs []) :: .tree (D.stmts []) :: r0
abbrev aS9 (b : List UInt8) (vs : List Int) (ars : List Int) (bd : List b8) (j : Int) (r0 : List It) : List It := .box [.ref 1, iA (o8 b vs.length ars.length (j + 1 + 1)).snd] :: dY b :: dI vs :: dI ars :: dT bd :: .box [iA 1, iA (pk b (j + 1) (vs.length : Int)), iA 0, iA 0, .tref 7, iA (o8 b vs.length ars.length (j + 1 + 1)).fst.kind, iA (o8 b vs.length ars.length (j + 1 + 1)).fst.value, .tref 6, iA 0, .tref 8, .v (.slice none 0 0)] :: .tree (D.exprs (o8 b vs.length ars.length (j + 1 + 1)).fst.kids) :: .tree (D.exprs []) :: r0
abbrev aS8 (b : List UInt8) (vs : List Int) (ars : List Int) (bd : List b8) (j : Int) (r0 : List It) : List It := .box [.ref 1, iA (o8 b vs.length ars.length (j + 1 + 1)).snd] :: dY b :: dI vs :: dI ars :: dT bd :: .box [iA 1, iA (pk b (j + 1) (vs.length : Int)), iA 0, iA 0, .tref 7, iA (o8 b vs.length ars.length (j + 1 + 1)).fst.kind, iA (o8 b vs.length ars.length (j + 1 + 1)).fst.value, .tref 6, iA 0, .v (.slice none 0 0), .v (.slice none 0 0)] :: .tree (D.exprs (o8 b vs.length ars.length (j + 1 + 1)).fst.kids) :: r0
abbrev O5 (r0 : List (Nat × AV)) : List (Nat × AV) := (0, .ptr 0 0) :: (4, .ptr 5 0) :: (6, .ptr 6 0) :: (8, .ptr 7 0) :: r0
abbrev aE0 (b : List UInt8) (vs : List Int) (ars : List Int) (d : Nat) (j : Int) (r0 : List It) : List It := .box [.ref 1, iA (D0 (A3 b vs.length ars.length (d - 1)) (nm b (j + 1 + 1) rbL).toNat (j + 1 + 1 + 1)).snd] :: dY b :: dI vs :: dI ars :: r0
abbrev ad8 (n : Int) (r0 : List (Nat × AV)) : List (Nat × AV) := (0, .ptr 0 0) :: (2, iA n) :: (4, .ptr 5 0) :: (6, .ptr 6 0) :: r0
abbrev L0 (b : List UInt8) (vs : List Int) (ars : List Int) (bd : List b8) (r0 : List It) : List It := dY b :: dI vs :: dI ars :: dT bd :: .box (pL 2) :: ad9 :: r0
abbrev aS7 (b : List UInt8) (vs : List Int) (ars : List Int) (j : Int) (r0 : List It) : List It := .tree (D.exprs (i5 b (vs.length : Int) (j + 1 + 1)).kids) :: .tree (D.exprs (o8 b vs.length ars.length (j + 1 + 1 + 2)).fst.kids) :: r0
theorem a52 (b : List UInt8) (vs ars : List Int) (bd : List b8) (d : Nat) (hd : d ≤ 3) (ih : ∀ (j n c : Int), 1 < d → n = (d : Int) - 1 → 0 ≤ c → c ≤ 2 → 0 ≤ j → j + 2 * cS (d - 1) ≤ 600000000 → i6.ok Try.prog (dbC b vs ars bd (d - 1) c.toNat j n c)) (j n : Int) (hn : n = d) (r0 : 0 ≤ j) (r1 : j + cS d ≤ 600000000) : i6.ok Try.prog (dsC b vs ars bd d j n) := by
  refine E2 100 Try.func98 [.box [.ref 1, iA j], dY b, dI vs, dI ars, dT bd] [(0, .ptr 0 0), (1, pA 2), (2, iA n)] fun G => ?_; have hc := am0 (d - 1); have hcd := bk3 d; have hcn := am0 d; have hsm := aF8 b vs.length ars.length (k := j + 1) (by omega) (by omega); have hib := bD9 b (j := (o8 b vs.length ars.length (j + 1)).2) (by omega) (by omega); have hbb := bn6 b vs.length ars.length (k := (o8 b vs.length ars.length (j + 1)).2 + 1) (i := (nm b (o8 b vs.length ars.length (j + 1)).2 ibL).toNat) (bv2 hib.1 hib.2 (show 0 ≤ cS (d - 1) by omega)) (bG4 _) (by omega) (by omega); have hie := bD8 b (j := (D0 (A3 b vs.length ars.length (d - 1)) (nm b (o8 b vs.length ars.length (j + 1)).2 ibL).toNat ((o8 b vs.length ars.length (j + 1)).2 + 1)).2) (by omega) (by omega); have hrb := bB1 b (j := j + 1 + 1) (by omega) (by omega); refine wp_seq (j7 G f7 [0, 1, 2, 3, 4, 5, 13] (.box [.ref 1, iA j] :: (L0 b vs ars bd [])) (ad8 n []) fun G => b6 (wp_seq (j7 G (t8 2 [0, 1, 15] (i6.lend (C3 b j F5 (List.cons_ne_nil _ _) (by assumption) (by omega)) [.no, .no, .row 3])) (rg 7) (.box [.ref 1, iA (j + 1)] :: (L0 b vs ars bd [])) (ad8 n [(7, iA (nm b j F5))]) fun G => b6 (wp_seq (j7 G f7 [0, 1, 2, 3, 4, 5, 6, 23] (.box [.ref 1, iA (j + 1)] :: (L0 b vs ars bd [.box [iA (nm b j F5), iA 0, iA 0, iA 0, .v (.slice none 0 0), iA 0, iA 0, .v (.slice none 0 0), iA 0, .v (.slice none 0 0), .v (.slice none 0 0)]])) (ad8 n [(7, iA (nm b j F5)), (8, .ptr 7 0)]) fun G => b6 (wp_seq (wp_block (wp_seq ?_)))))))); cases h0 : (nm b j F5 == 2)
  ·
   have q0 := ne_of_beq_false h0; refine l5 G (H2 (fc h0 fz) (us [(3, 6, 0), (1007, 1007, 0)])) [(27, bA false)] fun G => b6 (rF G false (by kernel_rfl) (wp_seq ?_)); cases h1 : (nm b j F5 == 3)
   ·
    have q1 := ne_of_beq_false h1; refine l5 G (H2 (fc h1 fz) [(3, 0), (4, 0), (1005, 0)]) [(50, bA false)] fun G => b6 (rF G false (by kernel_rfl) (wp_seq ?_)); cases h2 : (nm b j F5 == 4)
    ·
     have q2 := ne_of_beq_false h2; refine l5 G (H2 (fc h2 fz) [(3, 0), (4, 0), (1005, 0)]) [(79, bA false)] fun G => b6 (rF G false (by kernel_rfl) (wp_seq (wp_seq (l5 G f7 [(15, bA (nm b j F5 != 5))] fun G => b6 (rcN G (fun h3 q3 => ?_) fun h3 q3 => ?_)))))
     · refine wp_skip (b6 (wp_seq (j7 G (t8 4 [0, 1] (r6 b (j + 1) ((vs.length : Int)) (by omega) (by omega))) (rg 8) (.box [.ref 1, iA (j + 1 + 1)] :: (L0 b vs ars bd [.box [iA (nm b j F5), iA (pk b (j + 1) (vs.length : Int)), iA 0, iA 0, .v (.slice none 0 0), iA 0, iA 0, .v (.slice none 0 0), iA 0, .v (.slice none 0 0), .v (.slice none 0 0)]])) (O5 []) fun G => b6 (j7 G (t8 2 (rg 5) (U3 b vs ars bd (j + 1 + 1) (by omega) (by omega))) [0, 1, 2, 3, 4, 6, 7, 24] [Q4 b vs ars j, dY b, dI vs, dI ars, dT bd, ad9, .box [iA (nm b j F5), iA (pk b (j + 1) (vs.length : Int)), iA 0, iA 0, .v (.slice none 0 0), iA (o8 b vs.length ars.length (j + 1 + 1)).fst.kind, iA (o8 b vs.length ars.length (j + 1 + 1)).fst.value, .tref 7, iA 0, .v (.slice none 0 0), .v (.slice none 0 0)], aa9 b vs ars j] [(6, .ptr 5 0), (8, .ptr 6 0)] fun G => v7 (b6 (wp_seq (j7 G f7 [0, 1, 2, 3, 4, 5, 7] [Q4 b vs ars j, dY b, dI vs, dI ars, dT bd, .box [iA (nm b j F5), iA (pk b (j + 1) (vs.length : Int)), iA 0, iA 0, .v (.slice none 0 0), iA (o8 b vs.length ars.length (j + 1 + 1)).fst.kind, iA (o8 b vs.length ars.length (j + 1 + 1)).fst.value, .tref 6, iA 0, .v (.slice none 0 0), .v (.slice none 0 0)], aa9 b vs ars j] [(6, .ptr 5 0)] fun G => b6 (wp_ret ?_)))))))); obtain ⟨ρ, G⟩ := G.nilT 7 (.exprs []) [.box [.ref 1, iA (o8 b vs.length ars.length (j + 1 + 1)).snd], dY b, dI vs, dI ars, dT bd, .box [iA (nm b j F5), iA (pk b (j + 1) (vs.length : Int)), iA 0, iA 0, .tref 7, iA (o8 b vs.length ars.length (j + 1 + 1)).fst.kind, iA (o8 b vs.length ars.length (j + 1 + 1)).fst.value, .tref 6, iA 0, .v (.slice none 0 0), .v (.slice none 0 0)], .tree (D.exprs (o8 b vs.length ars.length (j + 1 + 1)).fst.kids)] [(6, .ptr 5 0)]; obtain ⟨ρ, G⟩ := G.nilT 8 (.stmts []) [.box [.ref 1, iA (o8 b vs.length ars.length (j + 1 + 1)).snd], dY b, dI vs, dI ars, dT bd, .box [iA (nm b j F5), iA (pk b (j + 1) (vs.length : Int)), iA 0, iA 0, .tref 7, iA (o8 b vs.length ars.length (j + 1 + 1)).fst.kind, iA (o8 b vs.length ars.length (j + 1 + 1)).fst.value, .tref 6, iA 0, .tref 8, .v (.slice none 0 0)], .tree (D.exprs (o8 b vs.length ars.length (j + 1 + 1)).fst.kids), .tree (D.exprs [])] [(6, .ptr 5 0)]; obtain ⟨ρ, G⟩ := G.nilT 9 (.stmts []) [.box [.ref 1, iA (o8 b vs.length ars.length (j + 1 + 1)).snd], dY b, dI vs, dI ars, dT bd, .box [iA (nm b j F5), iA (pk b (j + 1) (vs.length : Int)), iA 0, iA 0, .tref 7, iA (o8 b vs.length ars.length (j + 1 + 1)).fst.kind, iA (o8 b vs.length ars.length (j + 1 + 1)).fst.value, .tref 6, iA 0, .tref 8, .tref 9], .tree (D.exprs (o8 b vs.length ars.length (j + 1 + 1)).fst.kids), .tree (D.exprs []), .tree (D.stmts [])] [(6, .ptr 5 0)]; exact rxv (.agg [iA (nm b j F5), iA (pk b (j + 1) (vs.length : Int)), iA 0, iA 0, .tref 7, iA (o8 b vs.length ars.length (j + 1 + 1)).fst.kind, iA (o8 b vs.length ars.length (j + 1 + 1)).fst.value, .tref 6, iA 0, .tref 8, .tref 9]) G [0, 1, 2, 3, 4, 7, 6, 8, 9] (by show _ = AV.ren (nth [0, 1, 2, 3, 4, 7, 6, 8, 9]) (L9 b vs ars d j); unfold L9; have e1 : ((A3 b vs.length ars.length d j).fst.kind : Int) = (nm b j F5) := (by rw [W9 (by omega) (by omega), bq7 (by omega)]; show (5 : Int) = _; omega); rw [e1, W9 (by omega) (by omega), bq7 (by omega)] <;> rfl) (by show _ = mR [0, 1, 2, 3, 4, 7, 6, 8, 9] (L8 b vs ars bd d j); unfold L8; rw [W9 (by omega) (by omega), bq7 (by omega)] <;> rfl)
     · refine j7 G f7 (rg 8) (.box [.ref 1, iA (j + 1)] :: (L0 b vs ars bd [ay5])) (O5 []) fun G => b6 (wp_seq (j7 G (t8 4 [0, 1] (r6 b (j + 1) ((vs.length : Int)) (by omega) (by omega))) (rg 8) (.box [.ref 1, iA (j + 1 + 1)] :: (L0 b vs ars bd [aT5 b vs j])) (O5 []) fun G => b6 (j7 G (t8 2 (rg 5) (U3 b vs ars bd (j + 1 + 1) (by omega) (by omega))) [0, 1, 2, 3, 4, 6, 7, 24] [Q4 b vs ars j, dY b, dI vs, dI ars, dT bd, ad9, aT7 b vs ars j, aa9 b vs ars j] [(6, .ptr 5 0), (8, .ptr 6 0)] fun G => v7 (b6 (wp_seq (j7 G f7 [0, 1, 2, 3, 4, 5, 7] [Q4 b vs ars j, dY b, dI vs, dI ars, dT bd, aT6 b vs ars j, aa9 b vs ars j] [(6, .ptr 5 0)] fun G => b6 (wp_ret ?_))))))); obtain ⟨ρ, G⟩ := G.nilT 7 (.exprs []) (aS8 b vs ars bd j []) [(6, .ptr 5 0)]; obtain ⟨ρ, G⟩ := G.nilT 8 (.stmts []) (aS9 b vs ars bd j []) [(6, .ptr 5 0)]; obtain ⟨ρ, G⟩ := G.nilT 9 (.stmts []) (aT0 b vs ars bd j []) [(6, .ptr 5 0)]; exact rxv (.agg [iA 1, iA (pk b (j + 1) (vs.length : Int)), iA 0, iA 0, .tref 7, iA (o8 b vs.length ars.length (j + 1 + 1)).fst.kind, iA (o8 b vs.length ars.length (j + 1 + 1)).fst.value, .tref 6, iA 0, .tref 8, .tref 9]) G [0, 1, 2, 3, 4, 7, 6, 8, 9] (by show _ = AV.ren (nth [0, 1, 2, 3, 4, 7, 6, 8, 9]) (L9 b vs ars d j); unfold L9; rw [W9 (by omega) (by omega), aJ3 (by omega)] <;> rfl) (by show _ = mR [0, 1, 2, 3, 4, 7, 6, 8, 9] (L8 b vs ars bd d j); unfold L8; rw [W9 (by omega) (by omega), aJ3 (by omega)] <;> rfl)
    ·
     have q2 := eq_of_beq h2; refine l5 G (H2 (fc h2 fz) [(3, 0), (4, 0), (1005, 0)]) [(79, bA (decide (n > 1)))] fun G => b6 (rcD G (fun h4 q4 => ?_) fun h4 q4 => ?_)
     ·
      refine wp_seq (wp_seq (J1 G f7 (O5 [(15, bA (nm b j F5 != 5))]) fun G => b6 ?_)); cases h5 : (nm b j F5 != 5)
      · have q5 := bne_eq_false_iff_eq.1 h5; exact False.elim (by omega)
      · have q5 := bne_iff_ne.1 h5; refine rT G _ h5 (j7 G f7 (rg 8) (.box [.ref 1, iA (j + 1)] :: (L0 b vs ars bd [ay5])) (O5 []) fun G => b6 (wp_seq (j7 G (t8 4 [0, 1] (r6 b (j + 1) ((vs.length : Int)) (by omega) (by omega))) (rg 8) (.box [.ref 1, iA (j + 1 + 1)] :: (L0 b vs ars bd [aT5 b vs j])) (O5 []) fun G => b6 (j7 G (t8 2 (rg 5) (U3 b vs ars bd (j + 1 + 1) (by omega) (by omega))) [0, 1, 2, 3, 4, 6, 7, 24] [Q4 b vs ars j, dY b, dI vs, dI ars, dT bd, ad9, aT7 b vs ars j, aa9 b vs ars j] [(6, .ptr 5 0), (8, .ptr 6 0)] fun G => v7 (b6 (wp_seq (j7 G f7 [0, 1, 2, 3, 4, 5, 7] [Q4 b vs ars j, dY b, dI vs, dI ars, dT bd, aT6 b vs ars j, aa9 b vs ars j] [(6, .ptr 5 0)] fun G => b6 (wp_ret ?_)))))))); obtain ⟨ρ, G⟩ := G.nilT 7 (.exprs []) (aS8 b vs ars bd j []) [(6, .ptr 5 0)]; obtain ⟨ρ, G⟩ := G.nilT 8 (.stmts []) (aS9 b vs ars bd j []) [(6, .ptr 5 0)]; obtain ⟨ρ, G⟩ := G.nilT 9 (.stmts []) (aT0 b vs ars bd j []) [(6, .ptr 5 0)]; exact rxv (.agg [iA 1, iA (pk b (j + 1) (vs.length : Int)), iA 0, iA 0, .tref 7, iA (o8 b vs.length ars.length (j + 1 + 1)).fst.kind, iA (o8 b vs.length ars.length (j + 1 + 1)).fst.value, .tref 6, iA 0, .tref 8, .tref 9]) G [0, 1, 2, 3, 4, 7, 6, 8, 9] (by show _ = AV.ren (nth [0, 1, 2, 3, 4, 7, 6, 8, 9]) (L9 b vs ars d j); unfold L9; rw [W9 (by omega) (by omega), aJ3 (by omega)] <;> rfl) (by show _ = mR [0, 1, 2, 3, 4, 7, 6, 8, 9] (L8 b vs ars bd d j); unfold L8; rw [W9 (by omega) (by omega), aJ3 (by omega)] <;> rfl)
     · refine wp_seq (j7 G (t8 2 [0, 1, 16] (i6.lend (C3 b (j + 1) rcL (by simp [h0, h1, h2, h4]) (by omega) (by omega)) [.no, .no, .row 3])) (rg 8) (.box [.ref 1, iA (j + 1 + 1)] :: (L0 b vs ars bd [.box [iA (nm b j F5), iA 0, iA 0, iA 0, .v (.slice none 0 0), iA 0, iA 0, .v (.slice none 0 0), iA (nm b (j + 1) rcL), .v (.slice none 0 0), .v (.slice none 0 0)]])) (ad8 n [(8, .ptr 7 0)]) fun G => b6 (R7 G (y9 (m9 6 [0, 1, 48] (i6.lend (C3 b (j + 1 + 1) rbL (by simp [h0, h1, h2, h4]) (by omega) (by omega)) [.no, .no, .row 3]) (m9 7 (rg 5) (ih (j + 1 + 1 + 1) (n - 1) (nm b (j + 1 + 1) rbL) (by omega) (by omega) (by omega) (by omega) (by omega) (by omega)) y8)) fz []) [0, 0, 0, 4, 0, 0, 48, 127, 255, 511] [0, 1, 2, 3, 4, 6, 7, 64] (aE0 b vs ars d j [dT bd, ad9, .box [iA (nm b j F5), iA 0, iA 0, iA 0, .v (.slice none 0 0), iA 0, iA 0, .v (.slice none 0 0), iA (nm b (j + 1) rcL), .tref 7, .v (.slice none 0 0)], .tree (D.stmts (D0 (A3 b vs.length ars.length (d - 1)) (nm b (j + 1 + 1) rbL).toNat (j + 1 + 1 + 1)).fst)]) [(6, .ptr 5 0), (8, .ptr 6 0)] [wO (n - 1)] (o1 (by omega)) fun G => v7 (b6 (wp_seq (j7 G f7 [0, 1, 2, 3, 4, 5, 7] (aE0 b vs ars d j [dT bd, .box [iA (nm b j F5), iA 0, iA 0, iA 0, .v (.slice none 0 0), iA 0, iA 0, .v (.slice none 0 0), iA (nm b (j + 1) rcL), .tref 6, .v (.slice none 0 0)], .tree (D.stmts (D0 (A3 b vs.length ars.length (d - 1)) (nm b (j + 1 + 1) rbL).toNat (j + 1 + 1 + 1)).fst)]) [(6, .ptr 5 0)] fun G => b6 (wp_ret ?_)))))); obtain ⟨ρ, G⟩ := G.nilT 7 (.exprs []) (aE0 b vs ars d j [dT bd, .box [iA (nm b j F5), iA 0, iA 0, iA 0, .tref 7, iA 0, iA 0, .v (.slice none 0 0), iA (nm b (j + 1) rcL), .tref 6, .v (.slice none 0 0)], .tree (D.stmts (D0 (A3 b vs.length ars.length (d - 1)) (nm b (j + 1 + 1) rbL).toNat (j + 1 + 1 + 1)).fst)]) [(6, .ptr 5 0)]; obtain ⟨ρ, G⟩ := G.nilT 8 (.exprs []) (aE0 b vs ars d j [dT bd, .box [iA (nm b j F5), iA 0, iA 0, iA 0, .tref 7, iA 0, iA 0, .tref 8, iA (nm b (j + 1) rcL), .tref 6, .v (.slice none 0 0)], .tree (D.stmts (D0 (A3 b vs.length ars.length (d - 1)) (nm b (j + 1 + 1) rbL).toNat (j + 1 + 1 + 1)).fst), .tree (D.exprs [])]) [(6, .ptr 5 0)]; obtain ⟨ρ, G⟩ := G.nilT 9 (.stmts []) (aE0 b vs ars d j [dT bd, .box [iA (nm b j F5), iA 0, iA 0, iA 0, .tref 7, iA 0, iA 0, .tref 8, iA (nm b (j + 1) rcL), .tref 6, .tref 9], .tree (D.stmts (D0 (A3 b vs.length ars.length (d - 1)) (nm b (j + 1 + 1) rbL).toNat (j + 1 + 1 + 1)).fst), .tree (D.exprs []), .tree (D.exprs [])]) [(6, .ptr 5 0)]; exact rxv (.agg [iA (nm b j F5), iA 0, iA 0, iA 0, .tref 7, iA 0, iA 0, .tref 8, iA (nm b (j + 1) rcL), .tref 6, .tref 9]) G [0, 1, 2, 3, 4, 7, 8, 6, 9] (by show _ = AV.ren (nth [0, 1, 2, 3, 4, 7, 8, 6, 9]) (L9 b vs ars d j); unfold L9; have e1 : ((A3 b vs.length ars.length d j).fst.kind : Int) = (nm b j F5) := (by rw [aM7 (by omega) (by omega)]; show (4 : Int) = _; omega); rw [e1, aM7 (by omega) (by omega)] <;> rfl) (by show _ = mR [0, 1, 2, 3, 4, 7, 8, 6, 9] (L8 b vs ars bd d j); unfold L8; rw [aM7 (by omega) (by omega)] <;> rfl)
   ·
    have q1 := eq_of_beq h1; refine J1 G (H2 (fc h1 fz) [(3, 0), (4, 0), (1005, 0)]) (ad8 n [(7, iA (nm b j F5)), (8, .ptr 7 0), (50, bA (decide (n > 1)))]) fun G => b6 (rcD G (fun h6 q6 => ?_) fun h6 q6 => ?_)
    ·
     refine wp_seq ?_; cases h7 : (nm b j F5 == 4)
     ·
      have q7 := ne_of_beq_false h7; refine l5 G (H2 (fc h7 fz) [(3, 0), (4, 0), (1005, 0)]) [(79, bA false)] fun G => b6 (rF G false (by kernel_rfl) (wp_seq (wp_seq (J1 G f7 (O5 [(15, bA (nm b j F5 != 5))]) fun G => b6 ?_)))); cases h8 : (nm b j F5 != 5)
      · have q8 := bne_eq_false_iff_eq.1 h8; exact False.elim (by omega)
      · have q8 := bne_iff_ne.1 h8; refine rT G _ h8 (j7 G f7 (rg 8) (.box [.ref 1, iA (j + 1)] :: (L0 b vs ars bd [ay5])) (O5 []) fun G => b6 (wp_seq (j7 G (t8 4 [0, 1] (r6 b (j + 1) ((vs.length : Int)) (by omega) (by omega))) (rg 8) (.box [.ref 1, iA (j + 1 + 1)] :: (L0 b vs ars bd [aT5 b vs j])) (O5 []) fun G => b6 (j7 G (t8 2 (rg 5) (U3 b vs ars bd (j + 1 + 1) (by omega) (by omega))) [0, 1, 2, 3, 4, 6, 7, 24] [Q4 b vs ars j, dY b, dI vs, dI ars, dT bd, ad9, aT7 b vs ars j, aa9 b vs ars j] [(6, .ptr 5 0), (8, .ptr 6 0)] fun G => v7 (b6 (wp_seq (j7 G f7 [0, 1, 2, 3, 4, 5, 7] [Q4 b vs ars j, dY b, dI vs, dI ars, dT bd, aT6 b vs ars j, aa9 b vs ars j] [(6, .ptr 5 0)] fun G => b6 (wp_ret ?_)))))))); obtain ⟨ρ, G⟩ := G.nilT 7 (.exprs []) (aS8 b vs ars bd j []) [(6, .ptr 5 0)]; obtain ⟨ρ, G⟩ := G.nilT 8 (.stmts []) (aS9 b vs ars bd j []) [(6, .ptr 5 0)]; obtain ⟨ρ, G⟩ := G.nilT 9 (.stmts []) (aT0 b vs ars bd j []) [(6, .ptr 5 0)]; exact rxv (.agg [iA 1, iA (pk b (j + 1) (vs.length : Int)), iA 0, iA 0, .tref 7, iA (o8 b vs.length ars.length (j + 1 + 1)).fst.kind, iA (o8 b vs.length ars.length (j + 1 + 1)).fst.value, .tref 6, iA 0, .tref 8, .tref 9]) G [0, 1, 2, 3, 4, 7, 6, 8, 9] (by show _ = AV.ren (nth [0, 1, 2, 3, 4, 7, 6, 8, 9]) (L9 b vs ars d j); unfold L9; rw [W9 (by omega) (by omega), aJ3 (by omega)] <;> rfl) (by show _ = mR [0, 1, 2, 3, 4, 7, 6, 8, 9] (L8 b vs ars bd d j); unfold L8; rw [W9 (by omega) (by omega), aJ3 (by omega)] <;> rfl)
     · have q7 := eq_of_beq h7; exact False.elim (by omega)
    ·
     refine wp_seq (j7 G (t8 2 (rg 5) (U3 b vs ars bd (j + 1) (by omega) (by omega))) [0, 1, 2, 3, 4, 5, 6, 7, 24] (.box [.ref 1, iA (o8 b vs.length ars.length (j + 1)).snd] :: (L0 b vs ars bd [.box [iA (nm b j F5), iA 0, iA 0, iA 0, .v (.slice none 0 0), iA (o8 b vs.length ars.length (j + 1)).fst.kind, iA (o8 b vs.length ars.length (j + 1)).fst.value, .tref 8, iA 0, .v (.slice none 0 0), .v (.slice none 0 0)], .tree (D.exprs (o8 b vs.length ars.length (j + 1)).fst.kids)])) (ad8 n [(8, .ptr 7 0)]) fun G => b6 (wp_seq (R7 G (y9 (m9 6 [0, 1, 49] (i6.lend (C3 b ((o8 b vs.length ars.length (j + 1)).snd) ibL (by simp [h0, h1, h6]) (by omega) (by omega)) [.no, .no, .row 3]) (m9 7 (rg 5) (ih ((o8 b vs.length ars.length (j + 1)).snd + 1) (n - 1) (nm b (o8 b vs.length ars.length (j + 1)).snd ibL) (by omega) (by omega) (by omega) (by omega) (by omega) (by omega)) y8)) fz []) [0, 0, 0, 4, 0, 0, 48, 127, 255, 511] [0, 1, 2, 3, 4, 5, 6, 7, 8, 65] (.box [.ref 1, iA (av6 b vs ars d j).snd] :: (L0 b vs ars bd [.box [iA (nm b j F5), iA 0, iA 0, iA 0, .v (.slice none 0 0), iA (o8 b vs.length ars.length (j + 1)).fst.kind, iA (o8 b vs.length ars.length (j + 1)).fst.value, .tref 8, iA 0, .tref 9, .v (.slice none 0 0)], .tree (D.exprs (o8 b vs.length ars.length (j + 1)).fst.kids), .tree (D.stmts (av6 b vs ars d j).fst)])) (ad8 n [(8, .ptr 7 0)]) [wO (n - 1)] (o1 (by omega)) fun G => b6 (R7 G (y9 (m9 6 [0, 1, 50] (i6.lend (C3 b ((D0 (A3 b vs.length ars.length (d - 1)) (nm b (o8 b vs.length ars.length (j + 1)).snd ibL).toNat ((o8 b vs.length ars.length (j + 1)).snd + 1)).snd) ieL (by simp [h0, h1, h6]) (by omega) (by omega)) [.no, .no, .row 3]) (m9 7 (rg 5) (ih ((D0 (A3 b vs.length ars.length (d - 1)) (nm b (o8 b vs.length ars.length (j + 1)).snd ibL).toNat ((o8 b vs.length ars.length (j + 1)).snd + 1)).snd + 1) (n - 1) (nm b (D0 (A3 b vs.length ars.length (d - 1)) (nm b (o8 b vs.length ars.length (j + 1)).snd ibL).toNat ((o8 b vs.length ars.length (j + 1)).snd + 1)).snd ieL) (by omega) (by omega) (by omega) (by omega) (by omega) (by omega)) y8)) fz []) [0, 0, 0, 4, 0, 0, 48, 127, 255, 511] [0, 1, 2, 3, 4, 6, 7, 8, 9, 66] [.box [.ref 1, iA (aT8 b vs ars d j).snd], dY b, dI vs, dI ars, dT bd, ad9, .box [iA (nm b j F5), iA 0, iA 0, iA 0, .v (.slice none 0 0), iA (o8 b vs.length ars.length (j + 1)).fst.kind, iA (o8 b vs.length ars.length (j + 1)).fst.value, .tref 7, iA 0, .tref 8, .tref 9], .tree (D.exprs (o8 b vs.length ars.length (j + 1)).fst.kids), .tree (D.stmts (av6 b vs ars d j).fst), .tree (D.stmts (aT8 b vs ars d j).fst)] [(6, .ptr 5 0), (8, .ptr 6 0)] [wO (n - 1)] (o1 (by omega)) fun G => v7 (b6 (wp_seq (j7 G f7 [0, 1, 2, 3, 4, 5, 7, 8, 9] [.box [.ref 1, iA (aT8 b vs ars d j).snd], dY b, dI vs, dI ars, dT bd, .box [iA (nm b j F5), iA 0, iA 0, iA 0, .v (.slice none 0 0), iA (o8 b vs.length ars.length (j + 1)).fst.kind, iA (o8 b vs.length ars.length (j + 1)).fst.value, .tref 6, iA 0, .tref 7, .tref 8], .tree (D.exprs (o8 b vs.length ars.length (j + 1)).fst.kids), .tree (D.stmts (av6 b vs ars d j).fst), .tree (D.stmts (aT8 b vs ars d j).fst)] [(6, .ptr 5 0)] fun G => b6 (wp_ret ?_)))))))); obtain ⟨ρ, G⟩ := G.nilT 9 (.exprs []) [.box [.ref 1, iA (D0 (A3 b vs.length ars.length (d - 1)) (nm b (D0 (A3 b vs.length ars.length (d - 1)) (nm b (o8 b vs.length ars.length (j + 1)).snd ibL).toNat ((o8 b vs.length ars.length (j + 1)).snd + 1)).snd ieL).toNat ((D0 (A3 b vs.length ars.length (d - 1)) (nm b (o8 b vs.length ars.length (j + 1)).snd ibL).toNat ((o8 b vs.length ars.length (j + 1)).snd + 1)).snd + 1)).snd], dY b, dI vs, dI ars, dT bd, .box [iA (nm b j F5), iA 0, iA 0, iA 0, .tref 9, iA (o8 b vs.length ars.length (j + 1)).fst.kind, iA (o8 b vs.length ars.length (j + 1)).fst.value, .tref 6, iA 0, .tref 7, .tref 8], .tree (D.exprs (o8 b vs.length ars.length (j + 1)).fst.kids), .tree (D.stmts (D0 (A3 b vs.length ars.length (d - 1)) (nm b (o8 b vs.length ars.length (j + 1)).snd ibL).toNat ((o8 b vs.length ars.length (j + 1)).snd + 1)).fst), .tree (D.stmts (D0 (A3 b vs.length ars.length (d - 1)) (nm b (D0 (A3 b vs.length ars.length (d - 1)) (nm b (o8 b vs.length ars.length (j + 1)).snd ibL).toNat ((o8 b vs.length ars.length (j + 1)).snd + 1)).snd ieL).toNat ((D0 (A3 b vs.length ars.length (d - 1)) (nm b (o8 b vs.length ars.length (j + 1)).snd ibL).toNat ((o8 b vs.length ars.length (j + 1)).snd + 1)).snd + 1)).fst)] [(6, .ptr 5 0)]
     exact rxv (.agg [iA (nm b j F5), iA 0, iA 0, iA 0, .tref 9, iA (o8 b vs.length ars.length (j + 1)).fst.kind, iA (o8 b vs.length ars.length (j + 1)).fst.value, .tref 6, iA 0, .tref 7, .tref 8]) G [0, 1, 2, 3, 4, 9, 6, 7, 8] (by show _ = AV.ren (nth [0, 1, 2, 3, 4, 9, 6, 7, 8]) (L9 b vs ars d j); unfold L9; have e1 : ((A3 b vs.length ars.length d j).fst.kind : Int) = (nm b j F5) := (by rw [aM8 (by omega) (by omega)]; show (3 : Int) = _; omega); rw [e1, aM8 (by omega) (by omega)] <;> rfl) (by show _ = mR [0, 1, 2, 3, 4, 9, 6, 7, 8] (L8 b vs ars bd d j); unfold L8; rw [aM8 (by omega) (by omega)] <;> rfl)
  ·
   have q0 := eq_of_beq h0; refine J1 G (H2 (fc h0 fz) (us [(3, 6, 0), (1007, 1007, 0)])) (ad8 n [(7, iA (nm b j F5)), (8, .ptr 7 0), (27, bA (decide ((ars.length : Int) > 0)))]) fun G => b6 (rcD G (fun h9 q9 => ?_) fun h9 q9 => ?_)
   ·
    refine wp_seq ?_; cases h10 : (nm b j F5 == 3)
    ·
     have q10 := ne_of_beq_false h10; refine J1 G (H2 (fc h10 fz) [(3, 0), (4, 0), (1005, 0)]) (ad8 n [(7, iA (nm b j F5)), (8, .ptr 7 0), (50, bA false)]) fun G => b6 (rF G false (by kernel_rfl) (wp_seq ?_)); cases h11 : (nm b j F5 == 4)
     ·
      have q11 := ne_of_beq_false h11; refine l5 G (H2 (fc h11 fz) [(3, 0), (4, 0), (1005, 0)]) [(79, bA false)] fun G => b6 (rF G false (by kernel_rfl) (wp_seq (wp_seq (J1 G f7 (O5 [(15, bA (nm b j F5 != 5))]) fun G => b6 ?_)))); cases h12 : (nm b j F5 != 5)
      · have q12 := bne_eq_false_iff_eq.1 h12; exact False.elim (by omega)
      · have q12 := bne_iff_ne.1 h12; refine rT G _ h12 (j7 G f7 (rg 8) (.box [.ref 1, iA (j + 1)] :: (L0 b vs ars bd [ay5])) (O5 []) fun G => b6 (wp_seq (j7 G (t8 4 [0, 1] (r6 b (j + 1) ((vs.length : Int)) (by omega) (by omega))) (rg 8) (.box [.ref 1, iA (j + 1 + 1)] :: (L0 b vs ars bd [aT5 b vs j])) (O5 []) fun G => b6 (j7 G (t8 2 (rg 5) (U3 b vs ars bd (j + 1 + 1) (by omega) (by omega))) [0, 1, 2, 3, 4, 6, 7, 24] [Q4 b vs ars j, dY b, dI vs, dI ars, dT bd, ad9, aT7 b vs ars j, aa9 b vs ars j] [(6, .ptr 5 0), (8, .ptr 6 0)] fun G => v7 (b6 (wp_seq (j7 G f7 [0, 1, 2, 3, 4, 5, 7] [Q4 b vs ars j, dY b, dI vs, dI ars, dT bd, aT6 b vs ars j, aa9 b vs ars j] [(6, .ptr 5 0)] fun G => b6 (wp_ret ?_)))))))); obtain ⟨ρ, G⟩ := G.nilT 7 (.exprs []) (aS8 b vs ars bd j []) [(6, .ptr 5 0)]; obtain ⟨ρ, G⟩ := G.nilT 8 (.stmts []) (aS9 b vs ars bd j []) [(6, .ptr 5 0)]; obtain ⟨ρ, G⟩ := G.nilT 9 (.stmts []) (aT0 b vs ars bd j []) [(6, .ptr 5 0)]; exact rxv (.agg [iA 1, iA (pk b (j + 1) (vs.length : Int)), iA 0, iA 0, .tref 7, iA (o8 b vs.length ars.length (j + 1 + 1)).fst.kind, iA (o8 b vs.length ars.length (j + 1 + 1)).fst.value, .tref 6, iA 0, .tref 8, .tref 9]) G [0, 1, 2, 3, 4, 7, 6, 8, 9] (by show _ = AV.ren (nth [0, 1, 2, 3, 4, 7, 6, 8, 9]) (L9 b vs ars d j); unfold L9; rw [W9 (by omega) (by omega), aJ3 (by omega)] <;> rfl) (by show _ = mR [0, 1, 2, 3, 4, 7, 6, 8, 9] (L8 b vs ars bd d j); unfold L8; rw [W9 (by omega) (by omega), aJ3 (by omega)] <;> rfl)
     · have q11 := eq_of_beq h11; exact False.elim (by omega)
    · have q10 := eq_of_beq h10; exact False.elim (by omega)
   ·
    refine wp_seq (j7 G (t8 4 [0, 1] (r6 b (j + 1) ((ars.length : Int)) (by omega) (by omega))) (rg 8) (.box [.ref 1, iA (j + 1 + 1)] :: (L0 b vs ars bd [.box [iA (nm b j F5), iA (pk b (j + 1) (ars.length : Int)), iA 0, iA 0, .v (.slice none 0 0), iA 0, iA 0, .v (.slice none 0 0), iA 0, .v (.slice none 0 0), .v (.slice none 0 0)]])) (O5 []) fun G => b6 (wp_seq (j7 G (t8 2 (rg 5) (ad2 b (j + 1 + 1) vs ars bd (by omega) (by omega))) [0, 1, 2, 3, 4, 5, 6, 7, 24] (.box [.ref 1, iA (j + 1 + 1 + 2)] :: (L0 b vs ars bd [.box [iA (nm b j F5), iA (pk b (j + 1) (ars.length : Int)), iA (i5 b (vs.length : Int) (j + 1 + 1)).kind, iA (i5 b (vs.length : Int) (j + 1 + 1)).value, .tref 8, iA 0, iA 0, .v (.slice none 0 0), iA 0, .v (.slice none 0 0), .v (.slice none 0 0)], .tree (D.exprs (i5 b (vs.length : Int) (j + 1 + 1)).kids)])) (O5 []) fun G => b6 (j7 G (t8 2 (rg 5) (U3 b vs ars bd (j + 1 + 1 + 2) (by omega) (by omega))) [0, 1, 2, 3, 4, 6, 7, 8, 25] (.box [.ref 1, iA (o8 b vs.length ars.length (j + 1 + 1 + 2)).snd] :: dY b :: dI vs :: dI ars :: dT bd :: ad9 :: .box [iA (nm b j F5), iA (pk b (j + 1) (ars.length : Int)), iA (i5 b (vs.length : Int) (j + 1 + 1)).kind, iA (i5 b (vs.length : Int) (j + 1 + 1)).value, .tref 7, iA (o8 b vs.length ars.length (j + 1 + 1 + 2)).fst.kind, iA (o8 b vs.length ars.length (j + 1 + 1 + 2)).fst.value, .tref 8, iA 0, .v (.slice none 0 0), .v (.slice none 0 0)] :: (aS7 b vs ars j [])) [(6, .ptr 5 0), (8, .ptr 6 0)] fun G => v7 (b6 (wp_seq (j7 G f7 [0, 1, 2, 3, 4, 5, 7, 8] (.box [.ref 1, iA (o8 b vs.length ars.length (j + 1 + 1 + 2)).snd] :: dY b :: dI vs :: dI ars :: dT bd :: .box [iA (nm b j F5), iA (pk b (j + 1) (ars.length : Int)), iA (i5 b (vs.length : Int) (j + 1 + 1)).kind, iA (i5 b (vs.length : Int) (j + 1 + 1)).value, .tref 6, iA (o8 b vs.length ars.length (j + 1 + 1 + 2)).fst.kind, iA (o8 b vs.length ars.length (j + 1 + 1 + 2)).fst.value, .tref 7, iA 0, .v (.slice none 0 0), .v (.slice none 0 0)] :: (aS7 b vs ars j [])) [(6, .ptr 5 0)] fun G => b6 (wp_ret ?_)))))))); obtain ⟨ρ, G⟩ := G.nilT 8 (.stmts []) (.box [.ref 1, iA (o8 b vs.length ars.length (j + 1 + 1 + 2)).snd] :: dY b :: dI vs :: dI ars :: dT bd :: .box [iA (nm b j F5), iA (pk b (j + 1) (ars.length : Int)), iA (i5 b (vs.length : Int) (j + 1 + 1)).kind, iA (i5 b (vs.length : Int) (j + 1 + 1)).value, .tref 6, iA (o8 b vs.length ars.length (j + 1 + 1 + 2)).fst.kind, iA (o8 b vs.length ars.length (j + 1 + 1 + 2)).fst.value, .tref 7, iA 0, .tref 8, .v (.slice none 0 0)] :: (aS7 b vs ars j [])) [(6, .ptr 5 0)]; obtain ⟨ρ, G⟩ := G.nilT 9 (.stmts []) (.box [.ref 1, iA (o8 b vs.length ars.length (j + 1 + 1 + 2)).snd] :: dY b :: dI vs :: dI ars :: dT bd :: .box [iA (nm b j F5), iA (pk b (j + 1) (ars.length : Int)), iA (i5 b (vs.length : Int) (j + 1 + 1)).kind, iA (i5 b (vs.length : Int) (j + 1 + 1)).value, .tref 6, iA (o8 b vs.length ars.length (j + 1 + 1 + 2)).fst.kind, iA (o8 b vs.length ars.length (j + 1 + 1 + 2)).fst.value, .tref 7, iA 0, .tref 8, .tref 9] :: (aS7 b vs ars j [.tree (D.stmts [])])) [(6, .ptr 5 0)]
    exact rxv (.agg [iA (nm b j F5), iA (pk b (j + 1) (ars.length : Int)), iA (i5 b (vs.length : Int) (j + 1 + 1)).kind, iA (i5 b (vs.length : Int) (j + 1 + 1)).value, .tref 6, iA (o8 b vs.length ars.length (j + 1 + 1 + 2)).fst.kind, iA (o8 b vs.length ars.length (j + 1 + 1 + 2)).fst.value, .tref 7, iA 0, .tref 8, .tref 9]) G [0, 1, 2, 3, 4, 6, 7, 8, 9] (by show _ = AV.ren (nth [0, 1, 2, 3, 4, 6, 7, 8, 9]) (L9 b vs ars d j); unfold L9; have e1 : ((A3 b vs.length ars.length d j).fst.kind : Int) = (nm b j F5) := (by rw [a44 (by omega) (by omega)]; show (2 : Int) = _; omega); rw [e1, a44 (by omega) (by omega)] <;> rfl) (by show _ = mR [0, 1, 2, 3, 4, 6, 7, 8, 9] (L8 b vs ars bd d j); unfold L8; rw [a44 (by omega) (by omega)] <;> rfl)
theorem aK0 (b : List UInt8) (vs ars : List Int) (bd : List b8) (d : Nat) (h : ∀ (j n : Int), n = d → 0 ≤ j → j + cS d ≤ 600000000 → i6.ok Try.prog (dsC b vs ars bd d j n)) (m : Nat) (j n c B : Int) (hn : n = d) (hm : c = m) (hm2 : m ≤ 4) (hB : (m : Int) * cS d ≤ B) (r0 : 0 ≤ j) (r1 : j + B ≤ 600000000) : i6.ok Try.prog (dbC b vs ars bd d m j n c) :=
 bg2 b vs ars bd d m h j n c hn hm hm2 B hB r0 r1
theorem bb6 (b : List UInt8) (vs ars : List Int) (bd : List b8) : ∀ (d : Nat), d ≤ 3 → ∀ (j n : Int), n = d → 0 ≤ j → j + cS d ≤ 600000000 → i6.ok Try.prog (dsC b vs ars bd d j n)
 | 0, hd, j, n, hn, r0, r1 => a52 b vs ars bd 0 (by omega) (fun j n c h => absurd h (by omega)) j n hn r0 r1
 | d + 1, hd, j, n, hn, r0, r1 => a52 b vs ars bd (d + 1) hd (fun j n c h hn h0 h2 r0 r1 => aK0 b vs ars bd d (bb6 b vs ars bd d (by omega)) c.toNat j n c (2 * cS d) (by omega) (by omega) (by omega) (bv2 h0 h2 (Int.le_trans (by decide) (am0 d))) r0 (by simpa using r1)) j n hn r0 r1
theorem by9 : cS 3 = 34170 := by decide
theorem br1 (b : List UInt8) (vs ars : List Int) (bd : List b8) (j n c : Int) (hn : n = 3) (h0 : 0 ≤ c) (h4 : c ≤ 4) (r0 : 0 ≤ j) (r1 : j ≤ 100000000) : i6.ok Try.prog (dbC b vs ars bd 3 c.toNat j n c) :=
 aK0 b vs ars bd 3 (bb6 b vs ars bd 3 (by omega)) c.toNat j n c (4 * cS 3) (by omega) (by omega) (by omega) (bC9 h0 h4 (by rw [by9]; decide)) r0 (by rw [by9]; omega)
abbrev pgC (b : List UInt8) (j : Int) : i6 := ⟨24, [.ptr 0 0], [.box [.ref 1, iA j], dY b], [.box [.ref 1, iA (bdD b j).2], dY b] ++ oP (pgD b j), oA 2⟩
theorem aV7 {b : List UInt8} {l : List Int} {n i p : Int} (h : i > 0) (h2 : i ≤ n) : nsD b l (n - (i - 1)).toNat p = nsD b l (n - i).toNat p ++ [nm b (p + (n - i)) l] := by
 rw [show (n - (i - 1)).toNat = (n - i).toNat + 1 by omega, a74, show (((n - i).toNat : Nat) : Int) = n - i by omega]
theorem aV6 {b : List UInt8} {l : List Int} {n p : Int} : nsD b l (n - n).toNat p = [] := by rw [Int.sub_self]; rfl
theorem am9 (vs ars : List Int) (bd : List b8) (hb : x9 bd ≤ 1048576) : i6.ok Try.prog (J3 61 [pA 0] [dI vs, dI ars, dT bd] (bA (F2 ⟨vs, ars, bd⟩))) := at8 ⟨vs, ars, bd⟩ hb
theorem bC6 {b : List UInt8} {j : Int} (h : F2 ⟨Y6 b j, asD b j, (D0 (A3 b (Y6 b j).length (asD b j).length 3) (nm b (kp2 b j) nbL).toNat (kp2 b j + 1)).1⟩ = true) : pgD b j = ⟨Y6 b j, asD b j, (bdD b j).1⟩ := if_pos h
theorem bC5 {b : List UInt8} {j : Int} (h : F2 ⟨Y6 b j, asD b j, (D0 (A3 b (Y6 b j).length (asD b j).length 3) (nm b (kp2 b j) nbL).toNat (kp2 b j + 1)).1⟩ = false) : pgD b j = fbP := if_neg (by intro h2; have h3 : F2 ⟨Y6 b j, asD b j, (D0 (A3 b (Y6 b j).length (asD b j).length 3) (nm b (kp2 b j) nbL).toNat (kp2 b j + 1)).1⟩ = true := h2; rw [h] at h3; cases h3)
theorem bu7 (b : List UInt8) (j : Int) : j + 1 + (nm b j V2 - 0) = D9 b j := by unfold D9; omega
theorem bu6 (b : List UInt8) (j : Int) : nsD b viL (nm b j V2 - 0).toNat (j + 1) = Y6 b j := by unfold Y6; rw [Int.sub_zero]
theorem bu5 (b : List UInt8) (j : Int) : D9 b j + 1 + (nm b (D9 b j) S6 - 0) = kp2 b j := by unfold kp2; omega
theorem bu4 (b : List UInt8) (j : Int) : nsD b aiL (nm b (D9 b j) S6 - 0).toNat (D9 b j + 1) = asD b j := by unfold asD; rw [Int.sub_zero]
abbrev ak3 (b : List UInt8) (j : Int) := D0 (A3 b (Y6 b j).length (asD b j).length 3) (nm b (kp2 b j) nbL).toNat (kp2 b j + 1)
abbrev aT4 (b : List UInt8) (j : Int) : List It := [.box [.ref 1, iA (bdD b j).snd], dY b, .row 3 (D.ints (pgD b j).vars), .row 3 (D.ints (pgD b j).arrays), .tree (D.stmts (pgD b j).body)]
abbrev L1 : It := .box [.v (.slice none 0 0), .v (.slice none 0 0), .v (.slice none 0 0)]
abbrev aE3 : It := .box [.ref 4, .v (.slice none 0 0), .v (.slice none 0 0)]
abbrev a34 : It := .tree (D.stmts [b8.mk 1 1 (b5.mk 0 0 []) (b5.mk 2 0 []) 0 [] []])
theorem al8 (b : List UInt8) (j : Int) (r0 : 0 ≤ j) (r1 : j ≤ 10000000) : i6.ok Try.prog (pgC b j) := by
  refine E2 52 Try.func24 [.box [.ref 1, iA j], dY b] [(0, .ptr 0 0)] fun G => ?_; have hnv := bp7 b r0 (by omega); have hk1 := a89 b r0 r1; have hk2 := a88 b r0 r1; have hna := bq0 b (k := D9 b j) (by omega) (by omega); have hnb := bv1 b (k := kp2 b j) (by omega) (by omega); have hvl := a36 b r0 r1; have hal := be2 b r0 r1; have hbd := bd8 b r0 r1; have hbs : x9 (D0 (A3 b (Y6 b j).length (asD b j).length 3) (nm b (kp2 b j) nbL).toNat (kp2 b j + 1)).1 ≤ 1048576 := bH6 hbd.2.2 (by omega); refine wp_seq (j7 G f7 [0, 1, 2] [.box [.ref 1, iA j], dY b, L1] [(0, .ptr 0 0), (2, .ptr 2 0)] fun G => b6 (wp_seq (j7 G f7 [0, 1, 2, 11] [.box [.ref 1, iA j], dY b, L1, L1] [(0, .ptr 0 0), (2, .ptr 2 0), (3, .ptr 3 0)] fun G => b6 (wp_seq (wp_seq (j7 G (t8 2 [0, 1, 12] (i6.lend (C3 b j V2 (List.cons_ne_nil _ _) (by assumption) (by omega)) [.no, .no, .row 3])) (rg 4) [.box [.ref 1, iA (j + 1)], dY b, L1, L1] [(0, .ptr 0 0), (2, .ptr 2 0), (3, .ptr 3 0), (4, iA (nm b j V2))] fun G => b6 (wp_block ?_))))))); have Gx := G.nil 4 3 (.ints []) 1 [.box [.ref 1, iA (j + 1)], dY b, L1, aE3] [(0, .ptr 0 0), (2, .ptr 2 0), (3, .ptr 3 0), (4, iA (nm b j V2))]; clear G; obtain ⟨ρ, G⟩ := Gx; replace G := t7.at G [.box [.ref 1, iA (j + 1)], dY b, L1, aE3, .row 3 (D.ints [])] [(0, .ptr 0 0), (2, .ptr 2 0), (3, .ptr 3 0), (4, iA (nm b j V2))]; replace G := G.as [.box [.ref 1, iA (j + 1 + (nm b j V2 - nm b j V2))], dY b, .box [.v (.slice none 0 0), .v (.slice none 0 0), .v (.slice none 0 0)], .box [.ref 4, .v (.slice none 0 0), .v (.slice none 0 0)], .row 3 (D.ints (nsD b viL (nm b j V2 - nm b j V2).toNat (j + 1)))] [(0, .ptr 0 0), (2, .ptr 2 0), (3, .ptr 3 0), (4, iA (nm b j V2))] (by have e1 : (j + 1 + (nm b j V2 - nm b j V2) : Int) = (j + 1) := (by omega); have e2 : (nsD b viL (nm b j V2 - nm b j V2).toNat (j + 1) : List Int) = ([]) := aV6; (first | rw [e1, e2] | simp only [e1, e2]) <;> rfl) (by kernel_rfl); refine A4 (κ := Int) (fun i => 0 ≤ i ∧ i ≤ nm b j V2) (fun i => i.toNat) (fun i => [.box [.ref 1, iA (j + 1 + (nm b j V2 - i))], dY b, .box [.v (.slice none 0 0), .v (.slice none 0 0), .v (.slice none 0 0)], .box [.ref 4, .v (.slice none 0 0), .v (.slice none 0 0)], .row 3 (.ints (nsD b viL (nm b j V2 - i).toNat (j + 1)))]) (fun i => [(0, .ptr 0 0), (2, .ptr 2 0), (3, .ptr 3 0), (4, iA i)]) (nm b j V2) (by omega) (t7.at G _ _) ?_; clear G; intro i ρ a w hp G; replace G := t7.at G [.box [.ref 1, iA (j + 1 + (nm b j V2 - i))], dY b, L1, aE3, .row 3 (D.ints (nsD b viL (nm b j V2 - i).toNat (j + 1)))] [(0, .ptr 0 0), (2, .ptr 2 0), (3, .ptr 3 0), (4, iA i)]; have hlen : (nsD b viL (nm b j V2 - i).toNat (j + 1)).length = (nm b j V2 - i).toNat := Z3 _ _ _ _; refine wp_seq (wp_seq (J1 G f7 [(0, .ptr 0 0), (2, .ptr 2 0), (3, .ptr 3 0), (4, iA i), (11, bA (decide (i > 0)))] fun G => b6 ?_)); cases h0 : (decide (i > 0))
  ·
   have q0 := Y1 h0
   obtain rfl : i = 0 := by omega
   rw [bu7, bu6] at G; refine rF G false (by kernel_rfl) (wp_exit (A2 (A2 (A1 (b6 (wp_seq (wp_seq (j7 G (t8 2 [0, 1, 13] (i6.lend (C3 b (D9 b j) S6 (by simp [h0]) (by omega) (by omega)) [.no, .no, .row 3])) (rg 5) [.box [.ref 1, iA (D9 b j + 1)], dY b, L1, aE3, .row 3 (D.ints (Y6 b j))] [(0, .ptr 0 0), (2, .ptr 2 0), (3, .ptr 3 0), (5, iA (nm b (D9 b j) S6))] fun G => b6 (wp_block ?_))))))))); have Gx := G.nil 5 3 (.ints []) 1 [.box [.ref 1, iA (D9 b j + 1)], dY b, L1, .box [.ref 4, .ref 5, .v (.slice none 0 0)], .row 3 (D.ints (Y6 b j))] [(0, .ptr 0 0), (2, .ptr 2 0), (3, .ptr 3 0), (5, iA (nm b (D9 b j) S6))]; clear G; obtain ⟨ρ, G⟩ := Gx; replace G := t7.at G [.box [.ref 1, iA (D9 b j + 1)], dY b, L1, .box [.ref 4, .ref 5, .v (.slice none 0 0)], .row 3 (D.ints (Y6 b j)), .row 3 (D.ints [])] [(0, .ptr 0 0), (2, .ptr 2 0), (3, .ptr 3 0), (5, iA (nm b (D9 b j) S6))]; have Gx := G.nilT 6 (.stmts []) [.box [.ref 1, iA (D9 b j + 1)], dY b, L1, .box [.ref 4, .ref 5, .tref 6], .row 3 (D.ints (Y6 b j)), .row 3 (D.ints [])] [(0, .ptr 0 0), (2, .ptr 2 0), (3, .ptr 3 0), (5, iA (nm b (D9 b j) S6))]; clear G; obtain ⟨ρ, G⟩ := Gx; replace G := t7.at G [.box [.ref 1, iA (D9 b j + 1)], dY b, L1, .box [.ref 4, .ref 5, .tref 6], .row 3 (D.ints (Y6 b j)), .row 3 (D.ints []), .tree (D.stmts [])] [(0, .ptr 0 0), (2, .ptr 2 0), (3, .ptr 3 0), (5, iA (nm b (D9 b j) S6))]; replace G := G.as [.box [.ref 1, iA (D9 b j + 1 + (nm b (D9 b j) S6 - nm b (D9 b j) S6))], dY b, .box [.v (.slice none 0 0), .v (.slice none 0 0), .v (.slice none 0 0)], .box [.ref 4, .ref 5, .tref 6], .row 3 (D.ints (Y6 b j)), .row 3 (D.ints (nsD b aiL (nm b (D9 b j) S6 - nm b (D9 b j) S6).toNat (D9 b j + 1))), .tree (D.stmts [])] [(0, .ptr 0 0), (2, .ptr 2 0), (3, .ptr 3 0), (5, iA (nm b (D9 b j) S6))] (by have e1 : (D9 b j + 1 + (nm b (D9 b j) S6 - nm b (D9 b j) S6) : Int) = (D9 b j + 1) := (by omega); have e2 : (nsD b aiL (nm b (D9 b j) S6 - nm b (D9 b j) S6).toNat (D9 b j + 1) : List Int) = ([]) := aV6; (first | rw [e1, e2] | simp only [e1, e2]) <;> rfl) (by kernel_rfl); refine A4 (κ := Int) (fun i2 => 0 ≤ i2 ∧ i2 ≤ nm b (D9 b j) S6) (fun i2 => i2.toNat) (fun i2 => [.box [.ref 1, iA (D9 b j + 1 + (nm b (D9 b j) S6 - i2))], dY b, .box [.v (.slice none 0 0), .v (.slice none 0 0), .v (.slice none 0 0)], .box [.ref 4, .ref 5, .tref 6], .row 3 (D.ints (Y6 b j)), .row 3 (.ints (nsD b aiL (nm b (D9 b j) S6 - i2).toNat (D9 b j + 1))), .tree (D.stmts [])]) (fun i2 => [(0, .ptr 0 0), (2, .ptr 2 0), (3, .ptr 3 0), (5, iA i2)]) (nm b (D9 b j) S6) (by omega) (t7.at G _ _) ?_; clear G; intro i2 ρ a w hp G; replace G := t7.at G [.box [.ref 1, iA (D9 b j + 1 + (nm b (D9 b j) S6 - i2))], dY b, L1, .box [.ref 4, .ref 5, .tref 6], .row 3 (D.ints (Y6 b j)), .row 3 (D.ints (nsD b aiL (nm b (D9 b j) S6 - i2).toNat (D9 b j + 1))), .tree (D.stmts [])] [(0, .ptr 0 0), (2, .ptr 2 0), (3, .ptr 3 0), (5, iA i2)]; have hlen : (nsD b aiL (nm b (D9 b j) S6 - i2).toNat (D9 b j + 1)).length = (nm b (D9 b j) S6 - i2).toNat := Z3 _ _ _ _; refine wp_seq (wp_seq (J1 G f7 [(0, .ptr 0 0), (2, .ptr 2 0), (3, .ptr 3 0), (5, iA i2), (26, bA (decide (i2 > 0)))] fun G => b6 ?_)); cases h1 : (decide (i2 > 0))
   ·
    have q1 := Y1 h1
    obtain rfl : i2 = 0 := by omega
    rw [bu5, bu4] at G; refine rF G false (by kernel_rfl) (wp_exit (A2 (A2 (A1 (b6 (wp_seq (O3 G (y9 (m9 4 [0, 1, 31] (i6.lend (C3 b (kp2 b j) nbL (by simp [h0, h1]) (by omega) (by omega)) [.no, .no, .row 3]) (m9 5 [0, 1, 4, 5, 6] (i6.lend (br1 b (Y6 b j) (asD b j) ([]) (kp2 b j + 1) 3 (nm b (kp2 b j) nbL) (by kernel_rfl) (by omega) (by omega) (by omega) (by omega)) [.no, .no, .row 3, .row 3, .tree]) y8)) fz []) [0, 0, 0, 0, 12, 31, 63, 127] [0, 1, 2, 3, 4, 5, 47] [.box [.ref 1, iA (ak3 b j).snd], dY b, L1, .box [.ref 4, .ref 5, .tref 6], .row 3 (D.ints (Y6 b j)), .row 3 (D.ints (asD b j)), .tree (D.stmts (ak3 b j).fst)] [(2, .ptr 2 0), (3, .ptr 3 0)] fun G => b6 (wp_seq (wp_seq (l5 G (t8 1 [4, 5, 6] (i6.lend (am9 (Y6 b j) (asD b j) ((D0 (A3 b (Y6 b j).length (asD b j).length 3) (nm b (kp2 b j) nbL).toNat (kp2 b j + 1)).fst) (by assumption)) [.row 3, .row 3, .tree])) [(45, bA (F2 (f5.mk (Y6 b j) (asD b j) (ak3 b j).fst)))] fun G => b6 (rcB (b := F2 (f5.mk (Y6 b j) (asD b j) (D0 (A3 b (Y6 b j).length (asD b j).length (3 : Nat)) (nm b (kp2 b j) nbL).toNat (kp2 b j + 1)).fst)) G (fun h2 => ?_) fun h2 => ?_)))))))))))
    · refine wp_skip (b6 (wp_seq (j7 G f7 [0, 1, 2, 7, 31] [.box [.ref 1, iA (ak3 b j).snd], dY b, .box [.ref 3, .v (.slice none 0 0), .tref 4], .row 3 (D.ints ([0] ++ ([1] ++ []))), a34] [(2, .ptr 2 0)] fun G => b6 (wp_ret ?_)))); have Gx := G.nil 5 3 (.ints []) 1 [.box [.ref 1, iA (ak3 b j).snd], dY b, .box [.ref 3, .ref 5, .tref 4], .row 3 (D.ints ([0] ++ ([1] ++ []))), a34] [(2, .ptr 2 0)]; clear G; obtain ⟨ρ, G⟩ := Gx; replace G := t7.at G [.box [.ref 1, iA (ak3 b j).snd], dY b, .box [.ref 3, .ref 5, .tref 4], .row 3 (D.ints ([0] ++ ([1] ++ []))), a34, .row 3 (D.ints [])] [(2, .ptr 2 0)]; exact I7 G [0, 1, 3, 5, 4] (by show _ = mR [0, 1, 3, 5, 4] (aT4 b j); unfold aT4; rw [bC5 (by with_reducible assumption)] <;> rfl)
    · refine wp_seq (j7 G f7 [0, 1, 2, 4, 5, 6] [.box [.ref 1, iA (ak3 b j).snd], dY b, .box [.ref 3, .ref 4, .tref 5], .row 3 (D.ints (Y6 b j)), .row 3 (D.ints (asD b j)), .tree (D.stmts (ak3 b j).fst)] [(2, .ptr 2 0)] fun G => b6 (wp_ret (j8 ?_))); exact I7 G [0, 1, 3, 4, 5] (by show _ = mR [0, 1, 3, 4, 5] (aT4 b j); unfold aT4; rw [bC6 (by with_reducible assumption)] <;> rfl)
   · have q1 := Y0 h1; refine rT G _ h1 (wp_skip (b6 (wp_seq (wp_block (R7 G (t8 4 [0, 1, 31] (i6.lend (C3 b (D9 b j + 1 + (nm b (D9 b j) S6 - i2)) aiL (by simp [h0, h1]) (by omega) (by omega)) [.no, .no, .row 3])) [0, 1, 0, 0, 12, 28, 63, 127, 255] [0, 1, 2, 3, 4, 6, 55] [.box [.ref 1, iA (D9 b j + 1 + (nm b (D9 b j) S6 - i2) + 1)], dY b, L1, .box [.ref 4, .ref 6, .tref 5], .row 3 (D.ints (Y6 b j)), .tree (D.stmts []), .row 3 (D.ints (nsD b aiL (nm b (D9 b j) S6 - i2).toNat (D9 b j + 1) ++ ([nm b (D9 b j + 1 + (nm b (D9 b j) S6 - i2)) aiL] ++ [])))] [(0, .ptr 0 0), (2, .ptr 2 0), (3, .ptr 3 0), (5, iA i2)] (aP ((nsD b aiL (nm b (D9 b j) S6 - i2).toNat (D9 b j + 1)).length + ([nm b (D9 b j + 1 + (nm b (D9 b j) S6 - i2)) aiL] ++ []).length) 8 []) (aK (by simp only [bH8, bH3, List.length_nil, Z3]; omega) bF1) fun G => v7 (b6 (K5 G f7 [(5, iA (i2 - 1))] [wO (i2 - 1)] (o1 (by omega)) fun G => b6 ?_))))))); exact rxn G (i2 - 1) (by omega) (by omega) [0, 1, 2, 3, 4, 6, 5] (by have e1 : (D9 b j + 1 + (nm b (D9 b j) S6 - (i2 - 1)) : Int) = (D9 b j + 1 + (nm b (D9 b j) S6 - i2) + 1) := (by omega); have e2 : (nsD b aiL (nm b (D9 b j) S6 - (i2 - 1)).toNat (D9 b j + 1) : List Int) = (nsD b aiL (nm b (D9 b j) S6 - i2).toNat (D9 b j + 1) ++ ([nm b (D9 b j + 1 + (nm b (D9 b j) S6 - i2)) aiL] ++ [])) := (aV7 (by omega) (by omega)); (first | rw [e1, e2] | simp only [e1, e2]) <;> rfl)
  · have q0 := Y0 h0; refine rT G _ h0 (wp_skip (b6 (wp_seq (wp_block (R7 G (t8 4 [0, 1, 29] (i6.lend (C3 b (j + 1 + (nm b j V2 - i)) viL (by simp [h0]) (by omega) (by omega)) [.no, .no, .row 3])) [0, 1, 0, 0, 12, 28, 63, 127, 255] [0, 1, 2, 3, 53] [.box [.ref 1, iA (j + 1 + (nm b j V2 - i) + 1)], dY b, L1, aE3, .row 3 (D.ints (nsD b viL (nm b j V2 - i).toNat (j + 1) ++ ([nm b (j + 1 + (nm b j V2 - i)) viL] ++ [])))] [(0, .ptr 0 0), (2, .ptr 2 0), (3, .ptr 3 0), (4, iA i)] (aP ((nsD b viL (nm b j V2 - i).toNat (j + 1)).length + ([nm b (j + 1 + (nm b j V2 - i)) viL] ++ []).length) 8 []) (aK (by simp only [bH8, bH3, List.length_nil, Z3]; omega) bF1) fun G => v7 (b6 (K5 G f7 [(4, iA (i - 1))] [wO (i - 1)] (o1 (by omega)) fun G => b6 ?_))))))); exact rxn G (i - 1) (by omega) (by omega) (rg 5) (by have e1 : (j + 1 + (nm b j V2 - (i - 1)) : Int) = (j + 1 + (nm b j V2 - i) + 1) := (by omega); have e2 : (nsD b viL (nm b j V2 - (i - 1)).toNat (j + 1) : List Int) = (nsD b viL (nm b j V2 - i).toNat (j + 1) ++ ([nm b (j + 1 + (nm b j V2 - i)) viL] ++ [])) := (aV7 (by omega) (by omega)); (first | rw [e1, e2] | simp only [e1, e2]) <;> rfl)
abbrev mtC (b : List UInt8) (p : f5) (j : Int) : i6 := ⟨32, [.ptr 0 0, pA 2], [.box [.ref 1, iA j], dY b] ++ pS p, [.box [.ref 1, iA (mtD b p j).2], dY b] ++ pS p ++ oP (mtD b p j).1, oA 5⟩
section
variable {b : List UInt8} {p : f5} {j : Int}
theorem bD0 (h : pk b j 60 = 0) (h1 : (p.vars.length : Int) > 0) : mtD b p j = (⟨p.vars.set 0 (l1D b (j + 1)), p.arrays, p.body⟩, j + 1 + 2) := by
 rw [mtD, if_pos h, if_pos (by omega)]
theorem bD1 (h : pk b j 60 = 1) : mtD b p j = (⟨p.vars ++ bG6 (13 - p.vars.length) 1, p.arrays, p.body⟩, j + 1) := by
 rw [mtD, if_neg (by omega), if_pos h]
theorem bD6 (h : pk b j 60 = 2) (h1 : (p.body.length : Int) > 0) : mtD b p j = (⟨p.vars, p.arrays, p.body.set 0 (kdS (p.body.getD 0 bF3) (nm b (j + 1) m2L))⟩, j + 1 + 1) := by
 rw [mtD, if_neg (by omega), if_neg (by omega), if_pos h, if_pos (by omega)]
theorem bD5 (h : pk b j 60 = 3) (h1 : (p.body.length : Int) > 0) : mtD b p j = (⟨p.vars, p.arrays, p.body.set ((p.body.length : Int) - 1).toNat (tgS (p.body.getD ((p.body.length : Int) - 1).toNat bF3) (nm b (j + 1) m3L))⟩, j + 1 + 1) := by
 rw [mtD, if_neg (by omega), if_neg (by omega), if_neg (by omega), if_pos h, if_pos (by omega)]
theorem bD4 (h : pk b j 60 = 4) (h1 : (p.body.length : Int) > 0) : mtD b p j = (⟨p.vars, p.arrays, p.body.set 0 (vvS (p.body.getD 0 bF3) (nm b (j + 1) m4L))⟩, j + 1 + 1) := by
 rw [mtD, if_neg (by omega), if_neg (by omega), if_neg (by omega), if_neg (by omega), if_pos h, if_pos (by omega)]
theorem bD3 (h : pk b j 60 = 5) (h1 : (p.body.length : Int) > 0) : mtD b p j = (⟨p.vars, p.arrays, p.body.set 0 (ctS (p.body.getD 0 bF3) (nm b (j + 1) m5L))⟩, j + 1 + 1) := by
 rw [mtD, if_neg (by omega), if_neg (by omega), if_neg (by omega), if_neg (by omega), if_neg (by omega), if_pos h, if_pos (by omega)]
theorem bD2 (h : pk b j 60 = 6) : mtD b p j = (⟨[], [], []⟩, j + 1) := by
 rw [mtD, if_neg (by omega), if_neg (by omega), if_neg (by omega), if_neg (by omega), if_neg (by omega), if_neg (by omega), if_pos h]
theorem aZ1 (h : (pk b j 60 = 0 ∧ ¬ (p.vars.length : Int) > 0) ∨ ((pk b j 60 = 2 ∨ pk b j 60 = 3 ∨ pk b j 60 = 4 ∨ pk b j 60 = 5) ∧ ¬ (p.body.length : Int) > 0) ∨ (¬ pk b j 60 = 0 ∧ ¬ pk b j 60 = 1 ∧ ¬ pk b j 60 = 2 ∧ ¬ pk b j 60 = 3 ∧ ¬ pk b j 60 = 4 ∧ ¬ pk b j 60 = 5 ∧ ¬ pk b j 60 = 6)) : mtD b p j = (p, j + 1) := by
 unfold mtD
 (repeat' split) <;> first | rfl | (exfalso; omega)
theorem a64 {k : Nat} : p.vars ++ bG6 (k + 1) 1 = (p.vars ++ bG6 k 1) ++ [1] := by
 rw [List.replicate_succ', List.append_assoc]
theorem bv3 {k : Nat} (h : pk b j 60 = 1) (h1 : k ≤ 13 - p.vars.length) (h2 : ¬ (((p.vars ++ bG6 k (1 : Int)).length : Nat) : Int) ≤ 12) : mtD b p j = (⟨p.vars ++ bG6 k 1, p.arrays, p.body⟩, j + 1) := by
 simp only [bH8, List.length_replicate] at h2
 rw [bD1 h, show 13 - p.vars.length = k by omega]
end
abbrev av5 (p : f5) := p.body.getD ((p.body.length : Int) - 1).toNat bF3
abbrev C7 (b : List UInt8) (p : f5) (j : Int) : List It := [.box [.ref 1, iA (mtD b p j).snd], dY b, dI p.vars, dI p.arrays, dT p.body, .row 3 (D.ints (mtD b p j).fst.vars), .row 3 (D.ints (mtD b p j).fst.arrays), .tree (D.stmts (mtD b p j).fst.body)]
abbrev aE2 : It := .box [.v (.slice none 0 0), .v (.slice none 0 0), .v (.slice none 0 0)]
abbrev bl3 (b : List UInt8) (p : f5) (j : Int) : It := .tree (D.stmts (p.body.set 0 (b8.mk (p.body.getD 0 bF3).kind (p.body.getD 0 bF3).target (p.body.getD 0 bF3).index (b5.mk (p.body.getD 0 bF3).value.kind (nm b (j + 1) m4L) (p.body.getD 0 bF3).value.kids) (p.body.getD 0 bF3).count (p.body.getD 0 bF3).body (p.body.getD 0 bF3).els)))
abbrev W8 : It := .box [.ref 6, .ref 7, .tref 8]
abbrev bl2 (b : List UInt8) (p : f5) (j : Int) : It := .tree (D.stmts (p.body.set 0 (b8.mk (nm b (j + 1) m2L) (p.body.getD 0 bF3).target (p.body.getD 0 bF3).index (p.body.getD 0 bF3).value (p.body.getD 0 bF3).count (p.body.getD 0 bF3).body (p.body.getD 0 bF3).els)))
abbrev bl1 (b : List UInt8) (p : f5) (j : Int) : It := .tree (D.stmts (p.body.set 0 (b8.mk (p.body.getD 0 bF3).kind (p.body.getD 0 bF3).target (p.body.getD 0 bF3).index (p.body.getD 0 bF3).value (nm b (j + 1) m5L) (p.body.getD 0 bF3).body (p.body.getD 0 bF3).els)))
abbrev bl0 (b : List UInt8) (p : f5) (j : Int) : It := .tree (D.stmts (p.body.set ((p.body.length : Int) - 1).toNat (b8.mk (av5 p).kind (nm b (j + 1) m3L) (av5 p).index (av5 p).value (av5 p).count (av5 p).body (av5 p).els)))
abbrev aa5 (b : List UInt8) (p : f5) (r0 : List It) : List It := dY b :: dI p.vars :: dI p.arrays :: dT p.body :: W8 :: .row 3 (D.ints p.vars) :: .row 3 (D.ints p.arrays) :: r0
abbrev av2 (p : f5) (r0 : List It) : List It := dI p.vars :: dI p.arrays :: dT p.body :: aE2 :: .row 3 (D.ints p.vars) :: .row 3 (D.ints p.arrays) :: r0
abbrev ad7 (p : f5) (r0 : List It) : List It := .row 3 (D.ints p.arrays) :: .tree (D.stmts p.body) :: r0
abbrev ao1 (b : List UInt8) (p : f5) (j : Int) (r0 : List It) : List It := .box [.ref 1, iA (j + 1)] :: dY b :: dI p.vars :: dI p.arrays :: dT p.body :: r0
abbrev aS6 (b : List UInt8) (p : f5) (j : Int) (r0 : List (Nat × AV)) : List (Nat × AV) := (0, .ptr 0 0) :: (4, .ptr 5 0) :: (5, .ptr 9 0) :: (6, iA (p.body.length : Int)) :: (13, iA (pk b j 60)) :: r0
theorem ad1 (b : List UInt8) (p : f5) (j : Int) (hb : p.size ≤ 1000000) (r0 : 0 ≤ j) (r1 : j ≤ 100000000) : i6.ok Try.prog (mtC b p j) := by
  refine E2 87 Try.func32 [.box [.ref 1, iA j], dY b, dI p.vars, dI p.arrays, dT p.body] [(0, .ptr 0 0), (1, pA 2)] fun G => ?_
  have hb1 : p.vars.length ≤ 1048576 ∧ p.arrays.length ≤ 1048576 ∧ x9 p.body ≤ 1048576 := by unfold f5.size at hb; omega
  have hb2 : p.body.length ≤ 1048576 := bH6 (ae2 _) hb1.2.2; refine wp_seq (j7 G f7 [0, 1, 2, 3, 4, 5, 13] [.box [.ref 1, iA j], dY b, dI p.vars, dI p.arrays, dT p.body, .box (pL 2), aE2] [(0, .ptr 0 0), (3, .ptr 5 0), (4, .ptr 6 0)] fun G => b6 (wp_seq (j7 G (t8 1 [2, 3, 4] (bc7 p (by omega))) [0, 1, 2, 3, 4, 6, 15, 16, 17, 23] (.box [.ref 1, iA j] :: dY b :: (av2 p [.tree (D.stmts p.body), W8])) [(0, .ptr 0 0), (4, .ptr 5 0), (5, .ptr 9 0)] fun G => b6 (wp_seq (l5 G f7 [(6, iA (p.body.length : Int))] fun G => b6 (wp_seq (wp_seq (j7 G (t8 1 [0, 1] (r6 b j 60 (by assumption) (by omega))) (rg 10) (.box [.ref 1, iA (j + 1)] :: dY b :: (av2 p [.tree (D.stmts p.body), W8])) (aS6 b p j []) fun G => b6 (wp_block (wp_seq (l5 G f7 [(14, bA (pk b j 60 == 0))] fun G => b6 (W5 G (fun h0 q0 => ?_) fun h0 q0 => ?_))))))))))))
  ·
   refine wp_seq (J1 G f7 (aS6 b p j [(25, bA (pk b j 60 == 1))]) fun G => b6 (W5 G (fun h1 q1 => ?_) fun h1 q1 => ?_))
   ·
    refine wp_seq (l5 G f7 [(36, bA (pk b j 60 == 2))] fun G => b6 (W5 G (fun h2 q2 => ?_) fun h2 q2 => ?_))
    ·
     refine wp_seq (l5 G f7 [(47, bA (pk b j 60 == 3))] fun G => b6 (W5 G (fun h3 q3 => ?_) fun h3 q3 => ?_))
     ·
      refine wp_seq (l5 G f7 [(60, bA (pk b j 60 == 4))] fun G => b6 (W5 G (fun h4 q4 => ?_) fun h4 q4 => ?_))
      ·
       refine wp_seq (l5 G f7 [(72, bA (pk b j 60 == 5))] fun G => b6 (W5 G (fun h5 q5 => ?_) fun h5 q5 => ?_))
       ·
        refine wp_seq (l5 G f7 [(83, bA (pk b j 60 == 6))] fun G => b6 (W5 G (fun h6 q6 => ?_) fun h6 q6 => ?_))
        · refine wp_skip (v7 (b6 (wp_seq (j7 G f7 (rg 9) (.box [.ref 1, iA (j + 1)] :: (aa5 b p [.tree (D.stmts p.body)])) [(4, .ptr 5 0)] fun G => b6 (wp_ret ?_))))); exact I7 G [0, 1, 2, 3, 4, 6, 7, 8] (by show _ = mR [0, 1, 2, 3, 4, 6, 7, 8] (C7 b p j); unfold C7; rw [aZ1 (by omega)] <;> rfl)
        · refine wp_seq (J1 G f7 [(4, .ptr 5 0), (5, .ptr 9 0)] fun G => b6 (wp_ret (C1 (j8 ?_)))); obtain ⟨ρ, G⟩ := G.nil 10 3 (.ints []) 1 (ao1 b p j (.box [.ref 10, .v (.slice none 0 0), .v (.slice none 0 0)] :: .row 3 (D.ints p.vars) :: (ad7 p [.box [.ref 6, .ref 7, .tref 8]]))) [(4, .ptr 5 0), (5, .ptr 9 0)]; obtain ⟨ρ, G⟩ := G.nil 11 3 (.ints []) 1 (ao1 b p j (.box [.ref 10, .ref 11, .v (.slice none 0 0)] :: .row 3 (D.ints p.vars) :: (ad7 p [.box [.ref 6, .ref 7, .tref 8], .row 3 (D.ints [])]))) [(4, .ptr 5 0), (5, .ptr 9 0)]; obtain ⟨ρ, G⟩ := G.nilT 12 (.stmts []) (ao1 b p j (.box [.ref 10, .ref 11, .tref 12] :: .row 3 (D.ints p.vars) :: (ad7 p [.box [.ref 6, .ref 7, .tref 8], .row 3 (D.ints []), .row 3 (D.ints [])]))) [(4, .ptr 5 0), (5, .ptr 9 0)]; exact I7 G [0, 1, 2, 3, 4, 10, 11, 12] (by show _ = mR [0, 1, 2, 3, 4, 10, 11, 12] (C7 b p j); unfold C7; rw [bD2 (by omega)] <;> rfl)
       ·
        refine wp_seq (l5 G f7 [(75, bA (decide ((p.body.length : Int) > 0)))] fun G => b6 (rcD G (fun h7 q7 => ?_) fun h7 q7 => ?_))
        · refine wp_skip (v7 (b6 (wp_seq (j7 G f7 (rg 9) (.box [.ref 1, iA (j + 1)] :: (aa5 b p [.tree (D.stmts p.body)])) [(4, .ptr 5 0)] fun G => b6 (wp_ret ?_))))); exact I7 G [0, 1, 2, 3, 4, 6, 7, 8] (by show _ = mR [0, 1, 2, 3, 4, 6, 7, 8] (C7 b p j); unfold C7; rw [aZ1 (by omega)] <;> rfl)
        · refine R7 G (t8 4 [0, 1, 34] (i6.lend (C3 b (j + 1) m5L (by simp [h0, h1, h2, h3, h4, h5, h7]) (by omega) (by omega)) [.no, .no, .row 3])) [0, 1, 0, 0, 12, 31, 63, 127] (rg 10) (.box [.ref 1, iA (j + 1 + 1)] :: dY b :: (av2 p [bl1 b p j, W8])) [(4, .ptr 5 0), (5, .ptr 9 0)] (iX 0 0 p.body.length []) (iK (by omega) bF1) fun G => v7 (b6 (wp_seq (j7 G f7 (rg 9) (.box [.ref 1, iA (j + 1 + 1)] :: (aa5 b p [bl1 b p j])) [(4, .ptr 5 0)] fun G => b6 (wp_ret ?_)))); exact I7 G [0, 1, 2, 3, 4, 6, 7, 8] (by show _ = mR [0, 1, 2, 3, 4, 6, 7, 8] (C7 b p j); unfold C7; rw [bD3 (by omega) (by omega)] <;> rfl)
      ·
       refine wp_seq (l5 G f7 [(63, bA (decide ((p.body.length : Int) > 0)))] fun G => b6 (rcD G (fun h8 q8 => ?_) fun h8 q8 => ?_))
       · refine wp_skip (v7 (b6 (wp_seq (j7 G f7 (rg 9) (.box [.ref 1, iA (j + 1)] :: (aa5 b p [.tree (D.stmts p.body)])) [(4, .ptr 5 0)] fun G => b6 (wp_ret ?_))))); exact I7 G [0, 1, 2, 3, 4, 6, 7, 8] (by show _ = mR [0, 1, 2, 3, 4, 6, 7, 8] (C7 b p j); unfold C7; rw [aZ1 (by omega)] <;> rfl)
       · refine R7 G (t8 4 [0, 1, 34] (i6.lend (C3 b (j + 1) m4L (by simp [h0, h1, h2, h3, h4, h8]) (by omega) (by omega)) [.no, .no, .row 3])) [0, 1, 0, 0, 12, 31, 63, 127, 255] (rg 10) (.box [.ref 1, iA (j + 1 + 1)] :: dY b :: (av2 p [bl3 b p j, W8])) [(4, .ptr 5 0), (5, .ptr 9 0)] (iX 0 0 p.body.length []) (iK (by omega) bF1) fun G => v7 (b6 (wp_seq (j7 G f7 (rg 9) (.box [.ref 1, iA (j + 1 + 1)] :: (aa5 b p [bl3 b p j])) [(4, .ptr 5 0)] fun G => b6 (wp_ret ?_)))); exact I7 G [0, 1, 2, 3, 4, 6, 7, 8] (by show _ = mR [0, 1, 2, 3, 4, 6, 7, 8] (C7 b p j); unfold C7; rw [bD4 (by omega) (by omega)] <;> rfl)
     ·
      refine wp_seq (l5 G f7 [(50, bA (decide ((p.body.length : Int) > 0)))] fun G => b6 (rcD G (fun h9 q9 => ?_) fun h9 q9 => ?_))
      · refine wp_skip (v7 (b6 (wp_seq (j7 G f7 (rg 9) (.box [.ref 1, iA (j + 1)] :: (aa5 b p [.tree (D.stmts p.body)])) [(4, .ptr 5 0)] fun G => b6 (wp_ret ?_))))); exact I7 G [0, 1, 2, 3, 4, 6, 7, 8] (by show _ = mR [0, 1, 2, 3, 4, 6, 7, 8] (C7 b p j); unfold C7; rw [aZ1 (by omega)] <;> rfl)
      · refine R7 G (t8 6 [0, 1, 50] (i6.lend (C3 b (j + 1) m3L (by simp [h0, h1, h2, h3, h9]) (by omega) (by omega)) [.no, .no, .row 3])) [0, 1, 0, 4, 0, 0, 48, 127, 255, 511] (rg 10) (.box [.ref 1, iA (j + 1 + 1)] :: dY b :: (av2 p [bl0 b p j, W8])) [(4, .ptr 5 0), (5, .ptr 9 0)] ((wO ((p.body.length : Int) - 1)) :: (iX ((p.body.length : Int) - 1) (((p.body.length : Int) - 1).toNat) p.body.length [])) ⟨oW (by omega), (iK (by omega) bF1)⟩ fun G => v7 (b6 (wp_seq (j7 G f7 (rg 9) (.box [.ref 1, iA (j + 1 + 1)] :: (aa5 b p [bl0 b p j])) [(4, .ptr 5 0)] fun G => b6 (wp_ret ?_)))); exact I7 G [0, 1, 2, 3, 4, 6, 7, 8] (by show _ = mR [0, 1, 2, 3, 4, 6, 7, 8] (C7 b p j); unfold C7; rw [bD5 (by omega) (by omega)] <;> rfl)
    ·
     refine wp_seq (l5 G f7 [(39, bA (decide ((p.body.length : Int) > 0)))] fun G => b6 (rcD G (fun h10 q10 => ?_) fun h10 q10 => ?_))
     · refine wp_skip (v7 (b6 (wp_seq (j7 G f7 (rg 9) (.box [.ref 1, iA (j + 1)] :: (aa5 b p [.tree (D.stmts p.body)])) [(4, .ptr 5 0)] fun G => b6 (wp_ret ?_))))); exact I7 G [0, 1, 2, 3, 4, 6, 7, 8] (by show _ = mR [0, 1, 2, 3, 4, 6, 7, 8] (C7 b p j); unfold C7; rw [aZ1 (by omega)] <;> rfl)
     · refine R7 G (t8 4 [0, 1, 34] (i6.lend (C3 b (j + 1) m2L (by simp [h0, h1, h2, h10]) (by omega) (by omega)) [.no, .no, .row 3])) [0, 1, 0, 0, 12, 31, 63, 127] (rg 10) (.box [.ref 1, iA (j + 1 + 1)] :: dY b :: (av2 p [bl2 b p j, W8])) [(4, .ptr 5 0), (5, .ptr 9 0)] (iX 0 0 p.body.length []) (iK (by omega) bF1) fun G => v7 (b6 (wp_seq (j7 G f7 (rg 9) (.box [.ref 1, iA (j + 1 + 1)] :: (aa5 b p [bl2 b p j])) [(4, .ptr 5 0)] fun G => b6 (wp_ret ?_)))); exact I7 G [0, 1, 2, 3, 4, 6, 7, 8] (by show _ = mR [0, 1, 2, 3, 4, 6, 7, 8] (C7 b p j); unfold C7; rw [bD6 (by omega) (by omega)] <;> rfl)
   ·
    refine wp_block ?_; replace G := G.as (ao1 b p j (.box [.v (.slice none 0 0), .v (.slice none 0 0), .v (.slice none 0 0)] :: .row 3 (D.ints (p.vars ++ bG6 0 1)) :: (ad7 p [.box [.ref 6, .ref 7, .tref 8]]))) (aS6 b p j [(25, bA (pk b j 60 == 1))]) (by have e1 : (p.vars ++ bG6 0 1 : List Int) = (p.vars) := (by simp [h0, h1]); (first | rw [e1] | simp only [e1]) <;> rfl) (by kernel_rfl); refine A4 (κ := Nat) (fun k => k ≤ 13 - p.vars.length) (fun k => 13 - p.vars.length - k) (fun k => [.box [.ref 1, iA (j + 1)], dY b, dI p.vars, dI p.arrays, dT p.body, .box [.v (.slice none 0 0), .v (.slice none 0 0), .v (.slice none 0 0)], .row 3 (.ints (p.vars ++ bG6 k 1)), .row 3 (D.ints p.arrays), .tree (D.stmts p.body), .box [.ref 6, .ref 7, .tref 8]]) (fun k => [(0, .ptr 0 0), (4, .ptr 5 0), (5, .ptr 9 0), (6, iA (p.body.length : Int)), (13, iA (pk b j 60)), (25, bA (pk b j 60 == 1))]) 0 (by omega) (t7.at G _ _) ?_; clear G; intro k ρ a w hp G; replace G := t7.at G (ao1 b p j (aE2 :: .row 3 (D.ints (p.vars ++ bG6 k 1)) :: (ad7 p [W8]))) (aS6 b p j [(25, bA (pk b j 60 == 1))]); refine wp_seq (wp_seq (l5 G f7 [(30, bA (decide (((p.vars ++ bG6 k 1).length : Int) ≤ 12)))] fun G => b6 (rcD G (fun h12 q12 => ?_) fun h12 q12 => ?_)))
    · refine wp_exit (A2 (A2 (A1 (v7 (b6 (wp_seq (j7 G f7 (rg 9) (ao1 b p j (W8 :: .row 3 (D.ints (p.vars ++ bG6 k 1)) :: (ad7 p []))) [(4, .ptr 5 0)] fun G => b6 (wp_ret ?_)))))))); exact I7 G [0, 1, 2, 3, 4, 6, 7, 8] (by show _ = mR [0, 1, 2, 3, 4, 6, 7, 8] (C7 b p j); unfold C7; rw [bv3 (k := k) (by omega) (by omega) (by omega)] <;> rfl)
    · refine wp_skip (b6 (wp_block (W0 G f7 [0, 1, 2, 3, 4, 5, 7, 8, 9, 34] (ao1 b p j (aE2 :: (ad7 p [.box [.ref 9, .ref 6, .tref 7], .row 3 (D.ints (p.vars ++ bG6 k 1 ++ ([1] ++ [])))]))) [(0, .ptr 0 0), (4, .ptr 5 0), (5, .ptr 8 0), (6, iA (p.body.length : Int)), (13, iA (pk b j 60)), (25, bA (pk b j 60 == 1))] (aP ((p.vars ++ bG6 k (1 : Int)).length + ([(1 : Int)] ++ []).length) 8 []) (aK (by simp only [bH8, List.length_replicate, bH3, List.length_nil] at *; omega) bF1) fun G => v7 (b6 ?_)))); exact rxn G (k + 1) (by simp only [bH8, List.length_replicate, bH3, List.length_nil] at *; omega) (by simp only [bH8, List.length_replicate, bH3, List.length_nil] at *; omega) [0, 1, 2, 3, 4, 5, 9, 6, 7, 8] (by have e1 : (p.vars ++ bG6 (k + 1) 1 : List Int) = (p.vars ++ bG6 k 1 ++ ([1] ++ [])) := a64; (first | rw [e1] | simp only [e1]) <;> rfl)
  ·
   refine wp_seq (l5 G f7 [(19, bA (decide ((p.vars.length : Int) > 0)))] fun G => b6 (rcD G (fun h11 q11 => ?_) fun h11 q11 => ?_))
   · refine wp_skip (v7 (b6 (wp_seq (j7 G f7 (rg 9) (.box [.ref 1, iA (j + 1)] :: (aa5 b p [.tree (D.stmts p.body)])) [(4, .ptr 5 0)] fun G => b6 (wp_ret ?_))))); exact I7 G [0, 1, 2, 3, 4, 6, 7, 8] (by show _ = mR [0, 1, 2, 3, 4, 6, 7, 8] (C7 b p j); unfold C7; rw [aZ1 (by omega)] <;> rfl)
   · refine R7 G (t8 3 [0, 1] (bc8 b (j + 1) (by omega) (by omega))) [0, 1, 0, 4, 15, 31] (rg 10) (.box [.ref 1, iA (j + 1 + 2)] :: dY b :: dI p.vars :: dI p.arrays :: dT p.body :: aE2 :: .row 3 (D.ints (p.vars.set 0 (l1D b (j + 1)))) :: (ad7 p [W8])) [(4, .ptr 5 0), (5, .ptr 9 0)] (iX 0 0 p.vars.length []) (iK (by omega) bF1) fun G => v7 (b6 (wp_seq (j7 G f7 (rg 9) (.box [.ref 1, iA (j + 1 + 2)] :: dY b :: dI p.vars :: dI p.arrays :: dT p.body :: W8 :: .row 3 (D.ints (p.vars.set 0 (l1D b (j + 1)))) :: (ad7 p [])) [(4, .ptr 5 0)] fun G => b6 (wp_ret ?_)))); exact I7 G [0, 1, 2, 3, 4, 6, 7, 8] (by show _ = mR [0, 1, 2, 3, 4, 6, 7, 8] (C7 b p j); unfold C7; rw [bD0 (by omega) (by omega)] <;> rfl)
abbrev a21 : Type := List I8 × List Int × Int
def bE6 (x : a21) (n : Int) (c : List I8) : a21 := (x.1 ++ c, x.2.1 ++ bG6 c.length n, x.2.2)
section
variable {P : Program} {ι κ : Type} {φ ψ : Nat → Prop} {w0 w : World} {F : ι → Rs} {ρ ρ0 : Nat → Value} {N m n : Nat} {S : List It} {tm : List (Nat × AV)} {a : Act}
theorem i9.shrink {L L' : κ → Rs} (M : i9 φ ψ w0 w L) (h : ∀ k, L' k = L k ∨ ((∀ b, (L' k).blk b → (L k).blk b) ∧ ∀ φ', (∀ b, O2 φ L b → φ' b) → (∀ b, (L k).blk b → ¬ (L' k).blk b → φ' b) → (L' k).holds w φ')) : i9 φ ψ w0 w L' := by
 have old : ∀ k b, (L' k).blk b → (L k).blk b := fun k b hb => by
  rcases h k with e | ⟨h1, _⟩
  ·rw [e] at hb; exact hb
  ·exact h1 b hb
 have hfr : ∀ b, O2 φ L b → O2 φ L' b := fun b hb => ⟨hb.1, fun k hk => hb.2 k (old k b hk)⟩
 refine ⟨M.kept, M.fresh, fun k => ?_, fun i j g hij h1 h2 => M.dis i j g hij (old i g h1) (old j g h2), fun i b hb => M.ge i b (old i b hb), fun i b hb => M.ph i b (old i b hb)⟩
 rcases h k with e | ⟨h1, h2⟩
 ·rw [e]; exact Rs.keep (M.holds k) (O1.mono fun b _ hf => hfr b hf) fun _ _ => rfl
 ·refine h2 _ hfr fun b hb hn => ⟨M.ph k b hb, fun j hj => ?_⟩
  by_cases e : j = k
  ·subst e; exact hn hj
  ·exact M.dis j k b e (old j b hj) hb
def F8 (n : Nat) : List Ln := bG6 n .no ++ [.tree]
theorem X5 (n i : Nat) : t4 (F8 n) i = if i = n then .tree else .no := by
 unfold t4 F8
 rw [bF2]
 rcases Nat.lt_trichotomy i n with h | h | h
 ·rw [bH1 (by simpa using h), if_neg (by omega)]
  simp [List.getElem?_replicate, h]
 ·subst h; simp
 ·rw [bH2 (by simp; omega), if_neg (by omega)]; rfl
theorem i6.datPost {f : FuncId} {args : List AV} {S0 S : List It} {d : D} {res : AV} (hc : i6.ok P ⟨f, args, S0, S ++ [.tree d], res⟩) (res1 : AV) (hr : res = res1.tr (F8 S.length) := by kernel_rfl) (hk : (decide (S0.length ≤ S.length) && (res1.trOk (F8 S.length) && S.all fun x => x.ids.isEmpty)) = true := by kernel_rfl) : i6.ok P ⟨f, args, S0, S ++ [.dat d], res1⟩ := by
 simp only [bE8, decide_eq_true_eq] at hk
 obtain ⟨hl0, hk⟩ := hk
 subst hr
 intro ι φ ψ w0 w F ρ M
 refine (hc ι φ ψ w0 w F ρ M).mono ?_
 rintro x w' ⟨ρ', h1, rfl, M2⟩
 let ρ1 : Nat → Value := fun i => if (t4 (F8 S.length) i).isT then z9 (ρ' i) else ρ' i
 have hρ1 : ∀ i, ρ1 i = if (t4 (F8 S.length) i).isT then z9 (ρ' i) else ρ' i := fun _ => rfl
 have hne : ∀ i, i ≠ S.length → ρ1 i = ρ' i := fun i hi => by rw [hρ1, X5, if_neg hi]; rfl
 have heq : ρ1 S.length = z9 (ρ' S.length) := by rw [hρ1, X5, if_pos rfl]; rfl
 refine ⟨ρ1, fun i hi => by rw [hne i (by simp only at hi; omega)]; exact h1 i hi, by rw [AV.val_tr hρ1 res1 hk.1], ?_⟩
 refine M2.release fun k => ?_
 cases k with
 | inl i => exact .inl rfl
 | inr j =>
  simp only [l7]
  rcases Nat.lt_trichotomy j S.length with hj | hj | hj
  ·have e1 : n5 (S ++ [.dat d]) j = n5 S j := by simp [n5, bF2, bH1 hj]
   have e2 : n5 (S ++ [.tree d]) j = n5 S j := by simp [n5, bF2, bH1 hj]
   rw [e1, e2]
   left
   have h2 : (n5 S j).ids = [] := by
    have h3 := bF5.1 hk.2 _ (bG3 hj)
    rw [ac2 hj]
    simpa using h3
   exact It.res_congr _ (fun i hi => by rw [h2] at hi; cases hi) (.inr (.inr (hne j (by omega))))
  ·subst hj
   have e1 : n5 (S ++ [.dat d]) S.length = .dat d := by simp [n5, bF2]
   have e2 : n5 (S ++ [.tree d]) S.length = .tree d := by simp [n5, bF2]
   rw [e1, e2]
   refine .inr ⟨fun b hb => hb, fun φ' hf hown => ⟨RD.nice _ _, ?_⟩⟩
   have hh := M2.holds (.inr S.length)
   simp only [l7] at hh
   rw [e2] at hh
   rw [heq]
   exact A8.read hh.2.1 fun b hb => hown b (by rw [show (It.tree d).res ρ' S.length = Rs.own (x8 (ρ' S.length)) _ from rfl]; exact hb)
  ·rw [s9 (by simp; omega), s9 (by simp; omega)]; exact .inl rfl
def aA3 : D → Bool
 | .rows _ => true
 | d => natEq d.len 0
theorem G6.rw {w : World} {S φ : Nat → Prop} {d : D} {xs : List Value} (hd : aA3 d = true) (h : G6 w d S xs) (hs : ∀ b, S b → φ b) : RW w φ d xs := by
 cases d with
 | rows l =>
  obtain ⟨k1, k2⟩ := D2.at h
  intro i hi j x hx
  obtain ⟨u, a, b, c⟩ := k2 i hi
  cases j with
  | zero =>
   simp only [D.elem, bG1, Option.some.injEq] at hx
   subst hx
   refine ⟨u, by simpa [D.sz] using a, ?_⟩
   have e : l.getD i [] = l[i]'hi := by rw [bF2, bF0 hi]; rfl
   show w3 w φ u (l.getD i []).length 1 (ints (l.getD i []))
   rw [e]
   exact A0 b fun g hg => hs g (c g hg)
  | succ j => simp [D.elem] at hx
 | _ => exact RW.nil (by simpa [aA3, natEq] using hd) _
def bu3 (i m : Nat) (e : TypeId) (d : D) (S1 : List It) (tm1 : List (Nat × AV)) : Bool :=
 decide (m ≤ i) && decide (i < S1.length) && aA3 d && ab7 d e && (bH0 S1.length).all (fun j => match n5 S1 j with
  | .box cs => AV.trOkL (F8 i) cs
  | .hole _ _ _ => false
  | _ => true) && (match n5 S1 i with | .row _ _ => true | _ => false) && tm1.all fun p => p.2.trOk (F8 i)
theorem t7.treeRow (G : t7 φ ψ w0 F N m ρ0 ρ S tm a w) (i : Nat) (e : TypeId) (d : D) (S1 : List It) (tm1 : List (Nat × AV)) (hb : bu3 i m e d S1 tm1 = true := by kernel_rfl) (hi : n5 S1 i = .row e d := by kernel_rfl) (hS : S = (E6 (F8 i) S1).set i (.tree d) := by kernel_rfl) (ht : tm = tm1.map (fun p => (p.1, p.2.tr (F8 i))) := by kernel_rfl) :
  ∃ ρ', t7 φ ψ w0 F N m ρ0 ρ' S1 tm1 a w := by
 subst hS
 subst ht
 simp only [bu3, bE8, decide_eq_true_eq] at hb
 obtain ⟨⟨⟨⟨⟨⟨hm, hil⟩, hd0⟩, hte⟩, hall⟩, -⟩, htm⟩ := hb
 have hte := J8 hte
 have hlen : ((E6 (F8 i) S1).set i (.tree d)).length = S1.length := by simp [E6]
 have hlen0 : (E6 (F8 i) S1).length = S1.length := by simp [E6]
 have hat : ∀ j, n5 ((E6 (F8 i) S1).set i (.tree d)) j = if j = i then .tree d else t0 (F8 i) .no (n5 S1 j) := fun j => by
  by_cases e : j = i
  ·subst e
   rw [if_pos rfl]
   simp [n5, bF2, hlen0, hil]
  ·rw [if_neg e]
   have h1 : n5 ((E6 (F8 i) S1).set i (.tree d)) j = n5 (E6 (F8 i) S1) j := by
    simp only [n5, bF2]
    rw [List.getElem?_set_ne (fun h => e h.symm)]
   rw [h1, L4, X5, if_neg e]
 have hbox : ∀ j cs, n5 S1 j = .box cs → AV.trOkL (F8 i) cs = true := fun j cs h => by
  rcases bH7 j S1.length with hj | hj
  ·have h2 := bF5.1 hall j (List.mem_range.2 hj)
   rw [h] at h2; exact h2
  ·rw [s9 hj] at h; cases h
 have hhole : ∀ j k q ls, n5 S1 j = .hole k q ls → False := fun j k q ls h => by
  rcases bH7 j S1.length with hj | hj
  ·have h2 := bF5.1 hall j (List.mem_range.2 hj)
   rw [h] at h2; cases h2
  ·rw [s9 hj] at h; cases h
 let ρ1 : Nat → Value := fun j => if (t4 (F8 i) j).isT then z9 (ρ j) else ρ j
 have hρ1 : ∀ j, ρ1 j = if (t4 (F8 i) j).isT then z9 (ρ j) else ρ j := fun _ => rfl
 have hne : ∀ j, j ≠ i → ρ1 j = ρ j := fun j hj => by rw [hρ1, X5, if_neg hj]; rfl
 have heq : ρ1 i = z9 (ρ i) := by rw [hρ1, X5, if_pos rfl]; rfl
 refine ⟨ρ1, G.size, G.defs, fun t x hx => ?_, fun t x hx j hj => ?_, fun j => ⟨fun q hq => ?_, fun hj => s9 hj⟩, ?_, ?_, fun j hj => ?_⟩
 ·obtain ⟨h1, p, h2, h3⟩ := af4 (M := F8 i) hx
  rw [G.tmv t _ h1, AV.val_tr hρ1 x (by rw [← h3]; exact bF5.1 htm p h2)]
 ·obtain ⟨h1, _⟩ := af4 (M := F8 i) hx
  have := G.tmi t _ h1 j (by rw [AV.ids_tr]; exact hj)
  rw [hlen] at this; exact this
 ·by_cases e : j = i
  ·subst e; rw [hi] at hq; cases hq
  ·have h1 := (G.bd j).1 q
   rw [hat, if_neg e, hlen] at h1
   rcases It.ids_lend (F8 i) .no (n5 S1 j) with h | h
   ·rw [h] at hq; cases hq
   ·exact h1 (by rw [h]; exact hq)
 ·refine G.mem.shrink fun k => ?_
  cases k with
  | inl q => exact .inl rfl
  | inr j =>
   simp only [l7]
   rw [hat]
   by_cases e1 : j = i
   ·subst e1
    rw [if_pos rfl, hi]
    have hh := G.mem.holds (.inr j)
    simp only [l7] at hh
    rw [hat, if_pos rfl] at hh
    obtain ⟨_, ⟨e', xs, S', h0, h1, h2, h3, h4⟩, _⟩ := hh
    rw [hte] at h0; cases h0
    refine .inr ⟨fun b hb => ?_, fun φ' _ hfree => ?_⟩
    ·simp only [It.res, Rs.blk] at hb ⊢
     rw [heq] at hb
     exact (h2 b hb).1
    ·simp only [It.res, Rs.blk] at hfree ⊢
     rw [heq] at hfree ⊢
     exact ⟨fun xs => RW.nice d xs, xs, h1, h4.rw hd0 fun b hb => hfree b (h3 b hb) fun he => (h2 b he).2 hb⟩
   ·rw [if_neg e1]
    left
    cases hx : n5 S1 j with
    | box cs =>
     simp only [t0, It.res]
     rw [hne j e1, AV.vals_tr hρ1 cs (hbox j cs hx)]
    | none => rfl
    | dead => rfl
    | dat d => simp only [t0, It.res]; rw [hne j e1]
    | row e' d => simp only [t0, It.res]; rw [hne j e1]
    | tree d => simp only [t0, It.res]; rw [hne j e1]
    | kept e' d => cases e' <;> (simp only [t0, It.res]; rw [hne j e1])
    | hole k q ls => exact (hhole j k q ls hx).elim
 ·have := G.le; rw [hlen] at this; exact this
 ·rw [hne j (by omega)]; exact G.old j hj
theorem It.res_ren' {σ : Nat → Nat} {i j : Nat} {ρ : Nat → Value} (x : It) (h : σ i = j) : (x.ren σ).res ρ j = x.res (fun i => ρ (σ i)) i := by
 subst h; exact It.res_ren x
def mv (i n j : Nat) : Nat := if natEq j i then n else j
theorem aq9 {f : AV → AV} {t : Nat} {y : AV} : ∀ {tm : List (Nat × AV)}, v8 (tm.map fun p => (p.1, f p.2)) t = some y → ∃ x, v8 tm t = some x ∧ y = f x
 | [], h => by cases h
 | (k, z) :: r, h => by
  simp only [v8, bH5] at h ⊢
  split at h
  ·rename_i hk; cases h; exact ⟨z, by rw [if_pos hk], rfl⟩
  ·rename_i hk
   obtain ⟨x, h1, h2⟩ := aq9 h
   exact ⟨x, by rw [if_neg hk]; exact h1, h2⟩
theorem bq1 {i n : Nat} {x : AV} : ∀ j ∈ (x.ren (mv i n)).ids, (∃ k ∈ x.ids, mv i n k = j) := by
 have key : (∀ x : AV, ∀ j ∈ (x.ren (mv i n)).ids, ∃ k ∈ x.ids, mv i n k = j) ∧ (∀ l : List AV, ∀ j ∈ AV.idsL (AV.renL (mv i n) l), ∃ k ∈ AV.idsL l, mv i n k = j) := by
  have hL : ∀ (l : List AV), (∀ x ∈ l, ∀ j ∈ (x.ren (mv i n)).ids, ∃ k ∈ x.ids, mv i n k = j) → ∀ j ∈ AV.idsL (AV.renL (mv i n) l), ∃ k ∈ AV.idsL l, mv i n k = j := by
   intro l
   induction l with
   | nil => intro _ j hj; cases hj
   | cons y r ih =>
    intro h j hj
    simp only [AV.renL, AV.idsL, bG8] at hj ⊢
    rcases hj with hj | hj
    ·obtain ⟨k, h1, h2⟩ := h y bF7 j hj
     exact ⟨k, .inl h1, h2⟩
    ·obtain ⟨k, h1, h2⟩ := ih (fun x hx => h x (bG0 _ hx)) j hj
     exact ⟨k, .inr h1, h2⟩
  have hx : ∀ x : AV, ∀ j ∈ (x.ren (mv i n)).ids, ∃ k ∈ x.ids, mv i n k = j := fun x => goX hL x
  exact ⟨hx, fun l => hL l fun x _ => hx x⟩
 exact key.1 x
where
 goX {i n : Nat} (hL : ∀ (l : List AV), (∀ x ∈ l, ∀ j ∈ (x.ren (mv i n)).ids, ∃ k ∈ x.ids, mv i n k = j) → ∀ j ∈ AV.idsL (AV.renL (mv i n) l), ∃ k ∈ AV.idsL l, mv i n k = j) : ∀ x : AV, ∀ j ∈ (x.ren (mv i n)).ids, ∃ k ∈ x.ids, mv i n k = j
  | .v _, j, hj => by cases hj
  | .ptr a b, j, hj => ⟨a, bH4.2 rfl, (bH4.1 hj).symm⟩
  | .ea a b c d, j, hj => ⟨a, bH4.2 rfl, (bH4.1 hj).symm⟩
  | .ref a, j, hj => ⟨a, bH4.2 rfl, (bH4.1 hj).symm⟩
  | .tref a, j, hj => ⟨a, bH4.2 rfl, (bH4.1 hj).symm⟩
  | .agg l, j, hj => hL l (fun x _ => goX hL x) j hj
  | .tup l, j, hj => hL l (fun x _ => goX hL x) j hj
  | .fn _ l, j, hj => hL l (fun x _ => goX hL x) j hj
  | .bm _ l, j, hj => hL l (fun x _ => goX hL x) j hj
theorem t7.shift (G : t7 φ ψ w0 F N m ρ0 ρ S tm a w) (i n : Nat) (S1 : List It) (tm1 : List (Nat × AV)) (hn : (natEq S.length n && decide (i < n)) = true := by kernel_rfl) (hS : S1 = (S.map (It.ren (mv i n))).set i .dead ++ [(n5 S i).ren (mv i n)] := by kernel_rfl) (ht : tm1 = tm.map (fun p => (p.1, p.2.ren (mv i n))) := by kernel_rfl) :
  ∃ ρ', t7 φ ψ w0 F N m ρ0 ρ' S1 tm1 a w := by
 subst hS
 subst ht
 simp only [bE8, natEq, beq_iff_eq, decide_eq_true_eq] at hn
 obtain ⟨hn, hin⟩ := hn
 have hlen : ((S.map (It.ren (mv i n))).set i .dead ++ [(n5 S i).ren (mv i n)]).length = n + 1 := by simp [hn]
 have hat : ∀ j, n5 ((S.map (It.ren (mv i n))).set i .dead ++ [(n5 S i).ren (mv i n)]) j = if j = n then (n5 S i).ren (mv i n) else if j = i then .dead else (n5 S j).ren (mv i n) := fun j => by
  by_cases e : j = n
  ·subst e
   rw [if_pos rfl]
   simp only [n5, bF2]
   rw [bI6 (by simp [hn])]
   simp [hn]
  ·rw [if_neg e]
   by_cases e2 : j = i
   ·subst e2
    rw [if_pos rfl]
    simp only [n5, bF2]
    rw [bH1 (by simp; omega)]
    simp [show j < S.length by omega]
   ·rw [if_neg e2]
    simp only [n5, bF2]
    rcases bH7 j n with h | h
    ·rw [bH1 (by simp; omega), List.getElem?_set_ne (fun h => e2 h.symm), List.getElem?_map, bF0 (by omega)]
     rfl
    ·rw [bH2 (by simp; omega), bH2 (by omega)]; rfl
 have hbd : ∀ x : AV, (∀ j ∈ x.ids, j < n) → ∀ j ∈ (x.ren (mv i n)).ids, j < n + 1 := fun x h j hj => by
  obtain ⟨k, h1, h2⟩ := bq1 j hj
  have := h k h1
  rw [← h2]; unfold mv
  split <;> omega
 let ρ1 : Nat → Value := fun j => if j = n then ρ i else ρ j
 have hmv : ∀ j, j < n → ρ1 (mv i n j) = ρ j := fun j hj => by
  show (if mv i n j = n then ρ i else ρ (mv i n j)) = ρ j
  by_cases e : j = i
  ·subst e; simp [mv, natEq]
  ·have h : mv i n j = j := by simp [mv, natEq, e]
   rw [h, if_neg (by omega)]
 have hval : ∀ x : AV, (∀ j ∈ x.ids, j < n) → (x.ren (mv i n)).val ρ1 = x.val ρ := fun x h => by
  rw [AV.val_ren]
  exact AV.val_congr x fun j hj => hmv j (h j hj)
 have hids : ∀ j, ∀ q ∈ (n5 S j).ids, q < n := fun j q hq => by have := (G.bd j).1 q hq; omega
 have hitem : ∀ j, ∀ q ∈ ((n5 S j).ren (mv i n)).ids, q < n + 1 := fun j q hq => by
  cases hx : n5 S j with
  | box cs =>
   rw [hx] at hq
   have h1 := hids j
   rw [hx] at h1
   exact hbd (.agg cs) h1 q hq
  | hole k d ls =>
   rw [hx] at hq
   have h1 := hids j
   rw [hx] at h1
   exact hbd (.ref k) h1 q hq
  | _ => rw [hx] at hq; cases hq
 refine ⟨ρ1, G.size, G.defs, fun t y hy => ?_, fun t y hy j hj => ?_, fun j => ⟨fun q hq => ?_, fun hj => s9 hj⟩, ?_, ?_, fun j hj => ?_⟩
 ·obtain ⟨x, h1, rfl⟩ := aq9 hy
  rw [G.tmv t x h1, hval x fun j hj => by have := G.tmi t x h1 j hj; omega]
 ·obtain ⟨x, h1, rfl⟩ := aq9 hy
  rw [hlen]
  exact hbd x (fun j hj => by have := G.tmi t x h1 j hj; omega) j hj
 ·rw [hlen]
  rw [hat] at hq
  split at hq
  ·exact hitem i q hq
  ·split at hq
   ·cases hq
   ·exact hitem j q hq
 ·refine G.mem.map (fun k : ι ⊕ Nat => (match k with | .inl q => some (.inl q) | .inr j => if j = n then some (.inr i) else if j = i then none else some (.inr j) : Option (ι ⊕ Nat))) ?_ ?_
  ·intro k k' x h1 h2
   match k, k' with
   | .inl q, .inl q' => simp at h1 h2; rw [← h1] at h2; simpa using h2.symm
   | .inl q, .inr j => simp at h1; subst h1; simp at h2; split at h2 <;> simp at h2
   | .inr j, .inl q => simp at h2; subst h2; simp at h1; split at h1 <;> simp at h1
   | .inr j, .inr j' =>
    simp only at h1 h2
    by_cases e1 : j = n <;> by_cases e2 : j' = n
    ·rw [e1, e2]
    ·rw [if_pos e1] at h1
     rw [if_neg e2] at h2
     by_cases e3 : j' = i
     ·rw [if_pos e3] at h2; cases h2
     ·rw [if_neg e3] at h2
      simp at h1 h2
      rw [← h1] at h2
      exact absurd (Sum.inr.inj h2) e3
    ·rw [if_pos e2] at h2
     rw [if_neg e1] at h1
     by_cases e3 : j = i
     ·rw [if_pos e3] at h1; cases h1
     ·rw [if_neg e3] at h1
      simp at h1 h2
      rw [← h2] at h1
      exact absurd (Sum.inr.inj h1) e3
    ·rw [if_neg e1] at h1
     rw [if_neg e2] at h2
     by_cases e3 : j = i
     ·rw [if_pos e3] at h1; cases h1
     ·by_cases e4 : j' = i
      ·rw [if_pos e4] at h2; cases h2
      ·rw [if_neg e3] at h1
       rw [if_neg e4] at h2
       simp at h1 h2
       rw [← h1] at h2
       rw [Sum.inr.inj h2]
  ·intro k
   match k with
   | .inl q => exact .inl ⟨_, rfl, rfl⟩
   | .inr j =>
    by_cases e : j = n
    ·refine .inl ⟨.inr i, by simp [e], ?_⟩
     simp only [l7]
     rw [hat, if_pos e]
     subst e
     have h1 : mv i j i = j := by simp [mv, natEq]
     rw [It.res_ren' (n5 S i) h1]
     exact It.res_congr _ (fun q hq => hmv q (hids i q hq)) (.inr (.inr (hmv i hin)))
    ·by_cases e2 : j = i
     ·refine .inr ?_
      simp only [l7]
      rw [hat, if_neg e, if_pos e2]
      rfl
     ·refine .inl ⟨.inr j, by simp [e, e2], ?_⟩
      simp only [l7]
      rw [hat, if_neg e, if_neg e2]
      rcases bH7 j n with hj | hj
      ·have h1 : mv i n j = j := by simp [mv, natEq, e2]
       rw [It.res_ren' (n5 S j) h1]
       exact It.res_congr _ (fun q hq => hmv q (hids j q hq)) (.inr (.inr (hmv j hj)))
      ·rw [s9 (by omega)]; rfl
 ·have := G.le; rw [hlen]; omega
 ·have := G.le
  show (if j = n then ρ i else ρ j) = ρ0 j
  rw [if_neg (by omega)]; exact G.old j hj
end
section
variable {e : b5} {l : List I8} {fr : List Int} {n reg : Int} {k : Nat}
end
theorem ax7 (b : List UInt8) (j : Int) (r0 : 0 ≤ j) (r1 : j ≤ 900000000) : i6.ok Try.prog ⟨93, [.ptr 0 0], [.box [.ref 1, iA j], dY b], [.box [.ref 1, iA (j + 1)], dY b], iA (nm b j vaL)⟩ := by
 refine E2 6 Try.func93 [.box [.ref 1, iA j], dY b] [(0, .ptr 0 0)] fun G => ?_; refine wp_seq (l5 G f7 [(2, iA 0)] fun G => b6 (wp_seq (j7 G (t8 2 [0, 1, 10] (i6.lend (C3 b j ([0] ++ ([1] ++ ([2] ++ ([3] ++ ([255] ++ ([128] ++ ([7] ++ ([4] ++ ([100] ++ []))))))))) (List.cons_ne_nil _ _) (by assumption) (by omega)) [.no, .no, .row 3])) [0, 1] [.box [.ref 1, iA (j + 1)], dY b] [(2, iA (nm b j ([0] ++ ([1] ++ ([2] ++ ([3] ++ ([255] ++ ([128] ++ ([7] ++ ([4] ++ ([100] ++ [])))))))))))] fun G => b6 (wp_ret ?_)))); exact I7 G [0, 1]
section
variable {b : List UInt8} {j i at0 n X : Int} {nv na : Nat} {ks : List UInt8} {k : Nat} {x : UInt8}
theorem bB9 {v : Int} (hk : k < 4) (h : ptD b (j + k) nv na at0 n (ks.getD k 0) = v) : psD b j nv na at0 n ks (k + 1) = (psD b j nv na at0 n ks k).set k v := by rw [a67 b j nv na at0 n ks hk, h]
def RnR (b : List UInt8) (j at0 n : Int) (nv na : Nat) (R : Int → Nat → List Int) : Prop := ∀ X k, R X k = psD b (j + 1) nv na at0 n (ai2 X) k
variable {R : Int → Nat → List Int}
theorem RnR.len (h : RnR b j at0 n nv na R) (X : Int) (k : Nat) : (R X k).length = 4 := by rw [h X k, aV1]
theorem RnR.start (h : RnR b j at0 n nv na R) (X : Int) : R X 0 = [0, 0, 0, 0] := h X 0
theorem RnR.next (h : RnR b j at0 n nv na R) {X v : Int} (hk : k < 4) (hp : ptD b (j + 1 + k) nv na at0 n ((ai2 X).getD k 0) = v) : R X (k + 1) = (R X k).set k v := by rw [h X (k + 1), h X k]; exact bB9 hk hp
end
abbrev mA (r : Nat) : AV := .agg [.ref r, .ref (r + 1)]
abbrev mT (r : Nat) : AV := .agg [.ref r, .tref (r + 1)]
abbrev mS (m : w4) : List It := [dI m.vals, dR m.arrs]
theorem bf0 {l : List (List Int)} {k : Nat} (h : k < l.length) : l.take (k + 1) = l.take k ++ [l.getD k []] := by
 rw [n8 _ _ h, n6 h]
theorem aE8 {l : List (List Int)} {k : Nat} (h : l.length ≤ k) : l.take k = l := bF9 h
abbrev aT1 : It := .box [.v (.slice none 0 0), .v (.slice none 0 0)]
theorem bc5 (xs : List Int) (rs : List (List Int)) (hx : xs.length ≤ 1048576) (hr : rs.length ≤ 1048576) (hi : ∀ a ∈ rs, a.length ≤ 1048576) : i6.ok Try.prog ⟨94, [mA 0], [dI xs, dR rs], [dI xs, dR rs, .row 3 (.ints xs), .tree (.rows rs)], mT 2⟩ := by
 refine E2 30 Try.func94 [dI xs, dR rs] [(0, .agg [.ref 0, .ref 1])] fun G => ?_; refine wp_seq (j7 G f7 [0, 1, 2, 10] [dI xs, dR rs, .box [.ref 0, .ref 1], aT1] [(1, .ptr 2 0), (2, .ptr 3 0)] fun G => b6 (wp_seq (W0 G f7 [0, 1, 2, 3, 28, 44] [dI xs, dR rs, .box [.ref 0, .ref 1], aT1, .row 3 (D.ints ([] ++ xs)), .box [.ref 4, .v (.slice none 0 0)]] [(1, .ptr 2 0), (2, .ptr 3 0), (3, .ptr 5 0)] (aP ((0 : Nat) + xs.length) 8 []) (aK (by omega) bF1) fun G => b6 (wp_seq (wp_seq (J1 G f7 [(1, .ptr 2 0), (2, .ptr 3 0), (3, .ptr 5 0), (4, iA 0)] fun G => b6 (wp_block ?_))))))); obtain ⟨ρ, G⟩ := G.nilT 6 (.rows []) [dI xs, dR rs, .box [.ref 0, .ref 1], .box [.v (.slice none 0 0), .v (.slice none 0 0)], .row 3 (D.ints ([] ++ xs)), .box [.ref 4, .tref 6]] [(1, .ptr 2 0), (2, .ptr 3 0), (3, .ptr 5 0), (4, iA 0)]; refine A4 (κ := Nat) (fun k => k ≤ rs.length) (fun k => rs.length - k) (fun k => [dI xs, dR rs, .box [.ref 0, .ref 1], .box [.v (.slice none 0 0), .v (.slice none 0 0)], .row 3 (D.ints ([] ++ xs)), .box [.ref 4, .tref 6], .tree (.rows (rs.take k))]) (fun k => [(1, .ptr 2 0), (2, .ptr 3 0), (3, .ptr 5 0), (4, iA k)]) 0 (by omega) (t7.at G _ _) ?_; clear G; intro k ρ a w hp G; replace G := t7.at G [dI xs, dR rs, .box [.ref 0, .ref 1], aT1, .row 3 (D.ints ([] ++ xs)), .box [.ref 4, .tref 6], .tree (D.rows (bG7 k rs))] [(1, .ptr 2 0), (2, .ptr 3 0), (3, .ptr 5 0), (4, iA k)]; refine wp_seq (wp_seq (l5 G f7 [(14, bA (decide ((k : Int) < rs.length)))] fun G => b6 (rcD G (fun h0 q0 => ?_) fun h0 q0 => ?_)))
 ·refine wp_exit (A2 (A2 (A1 (b6 (wp_seq (j7 G f7 [0, 1, 3, 4, 6] [dI xs, dR rs, .box [.ref 3, .tref 4], .row 3 (D.ints ([] ++ xs)), .tree (D.rows (bG7 k rs))] [(2, .ptr 2 0)] fun G => b6 (wp_ret ?_))))))); exact I7 G [0, 1, 3, 4] (by show _ = mR [0, 1, 3, 4] [dI xs, dR rs, .row 3 (D.ints xs), .tree (D.rows rs)]; have e1 : (bG7 k rs : List (List Int)) = (rs) := (aE8 (by omega)); (first | rw [e1] | simp only [e1]) <;> rfl)
 ·refine wp_skip (b6 (wp_seq (wp_block (R7 G f7 [0, 1, 0, 0, 8, 0, 56, 120, 252, 508, 1023, 2047, 4095] [0, 1, 2, 3, 4, 5, 87] [dI xs, dR rs, .box [.ref 0, .ref 1], aT1, .row 3 (D.ints ([] ++ xs)), .box [.ref 4, .tref 6], .tree (D.rows (bG7 k rs ++ [[] ++ rs.getD k []]))] [(1, .ptr 2 0), (2, .ptr 3 0), (3, .ptr 5 0), (4, iA k)] (iX k k rs.length (aP ((0 : Nat) + (rs.getD k []).length) 8 (aP ((bG7 k rs).length + [[] ++ rs.getD k []].length) 24 []))) (iK (by omega) (aK (by have h9 := hi (rs.getD k []) (by rw [n6 (by omega)]; exact bG3 _); omega) (aK (by simp; omega) bF1))) fun G => v7 (b6 (K5 G f7 [(4, iA ((k : Int) + 1))] [wO ((k : Int) + 1)] (o1 (by omega)) fun G => b6 ?_)))))); exact rxn G (k + 1) (by omega) (by omega) (rg 7) (by have e1 : (bG7 (k + 1) rs : List (List Int)) = (bG7 k rs ++ [[] ++ rs.getD k []]) := (bf0 (by omega)); (first | rw [e1] | simp only [e1]) <;> rfl)
abbrev aa8 : It := .box [.v (.slice none 0 0), .v (.slice none 0 0)]
abbrev H6 (r0 : List (Nat × AV)) : List (Nat × AV) := (0, .ptr 0 0) :: (3, .ptr 5 0) :: (4, .ptr 6 0) :: (5, .ptr 7 0) :: r0
abbrev aD6 (b : List UInt8) (j : Int) (vs : List Int) (i : Nat) (r0 : List It) : List It := .box [.ref 8, .tref 9] :: .row 3 (D.ints (vlD b j vs.length)) :: .tree (D.rows (arD b (j + (vs.length : Int)) i)) :: r0
abbrev aD5 (r0 : List It) : List It := .box (pL 2) :: .box [.v (.slice none 0 0), .v (.slice none 0 0)] :: r0
theorem aR4 (b : List UInt8) (j : Int) (vs ars : List Int) (bd : List b8) (h1 : vs.length ≤ 1000000) (h2 : ars.length ≤ 1000000) (r0 : 0 ≤ j) (r1 : j ≤ 100000000) : i6.ok Try.prog ⟨57, [.ptr 0 0, pA 2], [.box [.ref 1, iA j], dY b, dI vs, dI ars, dT bd], [.box [.ref 1, iA (j + vs.length + 4 * ars.length)], dY b, dI vs, dI ars, dT bd] ++ mS (mmD b j vs.length ars.length), mA 5⟩ := by
  refine E2 49 Try.func57 [.box [.ref 1, iA j], dY b, dI vs, dI ars, dT bd] [(0, .ptr 0 0), (1, pA 2)] fun G => ?_; refine wp_seq (j7 G f7 [0, 1, 2, 3, 4, 5, 13] [.box [.ref 1, iA j], dY b, dI vs, dI ars, dT bd, .box (pL 2), aa8] [(0, .ptr 0 0), (3, .ptr 5 0), (4, .ptr 6 0)] fun G => b6 (wp_seq (j7 G f7 [0, 1, 2, 3, 4, 5, 6, 15] [.box [.ref 1, iA j], dY b, dI vs, dI ars, dT bd, .box (pL 2), aa8, aa8] (H6 []) fun G => b6 (wp_seq (wp_seq (J1 G f7 (H6 [(6, iA 0)]) fun G => b6 (wp_block ?_))))))); obtain ⟨ρ, G⟩ := G.nil 8 3 (.ints []) 1 (.box [.ref 1, iA j] :: dY b :: dI vs :: dI ars :: dT bd :: (aD5 [.box [.ref 8, .v (.slice none 0 0)]])) (H6 [(6, iA 0)]); replace G := G.as (.box [.ref 1, iA (j + 0)] :: dY b :: dI vs :: dI ars :: dT bd :: (aD5 [.box [.ref 8, .v (.slice none 0 0)], .row 3 (D.ints (vlD b j 0))])) (H6 [(6, iA 0)]) (by have e1 : (j + 0 : Int) = (j) := (by omega); (first | rw [e1] | simp only [e1]) <;> rfl) (by kernel_rfl); refine A4 (κ := Nat) (fun k => k ≤ vs.length) (fun k => vs.length - k) (fun k => [.box [.ref 1, iA (j + k)], dY b, dI vs, dI ars, dT bd, .box (pL 2), .box [.v (.slice none 0 0), .v (.slice none 0 0)], .box [.ref 8, .v (.slice none 0 0)], .row 3 (.ints (vlD b j k))]) (fun k => [(0, .ptr 0 0), (3, .ptr 5 0), (4, .ptr 6 0), (5, .ptr 7 0), (6, iA k)]) 0 (by omega) (t7.at G _ _) ?_; clear G; intro k ρ a w hp G; replace G := t7.at G [.box [.ref 1, iA (j + (k : Int))], dY b, dI vs, dI ars, dT bd, .box (pL 2), aa8, .box [.ref 8, .v (.slice none 0 0)], .row 3 (D.ints (vlD b j k))] (H6 [(6, iA k)]); have hvl := ao7 b j k; refine wp_seq (wp_seq (J1 G f7 (H6 [(6, iA k), (15, bA (decide ((k : Int) < vs.length)))]) fun G => b6 ?_)); cases h0 : (decide ((k : Int) < vs.length))
  ·
   have q0 := Y1 h0
   obtain rfl : k = vs.length := by omega
   refine rF G (decide ((vs.length : Int) < vs.length)) (by assumption) (wp_exit (A2 (A2 (A1 (b6 (wp_seq (wp_seq (J1 G f7 (H6 [(7, iA 0)]) fun G => b6 (wp_block ?_))))))))); obtain ⟨ρ, G⟩ := G.nilT 9 (.rows []) (.box [.ref 1, iA (j + (vs.length : Int))] :: dY b :: dI vs :: dI ars :: dT bd :: (aD5 [.box [.ref 8, .tref 9], .row 3 (D.ints (vlD b j vs.length))])) (H6 [(7, iA 0)]); replace G := G.as (.box [.ref 1, iA (j + (vs.length : Int) + 4 * (0 : Int))] :: dY b :: dI vs :: dI ars :: dT bd :: (aD5 [.box [.ref 8, .tref 9], .row 3 (D.ints (vlD b j vs.length)), .tree (D.rows (arD b (j + (vs.length : Int)) 0))])) (H6 [(7, iA 0)]) (by have e1 : (j + (vs.length : Int) + 4 * (0 : Int) : Int) = (j + (vs.length : Int)) := (by omega); (first | rw [e1] | simp only [e1]) <;> rfl) (by kernel_rfl); refine A4 (κ := Nat) (fun i => i ≤ ars.length) (fun i => ars.length - i) (fun i => [.box [.ref 1, iA (j + vs.length + 4 * i)], dY b, dI vs, dI ars, dT bd, .box (pL 2), .box [.v (.slice none 0 0), .v (.slice none 0 0)], .box [.ref 8, .tref 9], .row 3 (D.ints (vlD b j vs.length)), .tree (.rows (arD b (j + vs.length) i))]) (fun i => [(0, .ptr 0 0), (3, .ptr 5 0), (4, .ptr 6 0), (5, .ptr 7 0), (7, iA i)]) 0 (by omega) (t7.at G _ _) ?_; clear G; intro i ρ a w hp G; replace G := t7.at G (.box [.ref 1, iA (j + (vs.length : Int) + 4 * (i : Int))] :: dY b :: dI vs :: dI ars :: dT bd :: .box (pL 2) :: aa8 :: (aD6 b j vs i [])) (H6 [(7, iA i)]); have hal := aS4 b (j + vs.length) i; refine wp_seq (wp_seq (J1 G f7 (H6 [(7, iA i), (29, bA (decide ((i : Int) < ars.length)))]) fun G => b6 ?_)); cases h1 : (decide ((i : Int) < ars.length))
   ·
    have q1 := Y1 h1
    obtain rfl : i = ars.length := by omega
    refine rF G (decide ((ars.length : Int) < ars.length)) (by assumption) (wp_exit (A2 (A2 (A1 (b6 (wp_seq (j7 G f7 [0, 1, 2, 3, 4, 6, 8, 9] [.box [.ref 1, iA (j + (vs.length : Int) + 4 * (ars.length : Int))], dY b, dI vs, dI ars, dT bd, .box [.ref 6, .tref 7], .row 3 (D.ints (vlD b j vs.length)), .tree (D.rows (arD b (j + (vs.length : Int)) ars.length))] [(4, .ptr 5 0)] fun G => b6 (wp_ret ?_)))))))); obtain ⟨ρ, G⟩ := G.frz [.no, .no, .no, .no, .no, .no, .row 3, .tree] [.box [.ref 1, iA (j + (vs.length : Int) + 4 * (ars.length : Int))], dY b, dI vs, dI ars, dT bd, .box [.ref 6, .ref 7], dI (vlD b j vs.length), dR (arD b (j + (vs.length : Int)) ars.length)] [(4, .ptr 5 0)]; exact I7 G [0, 1, 2, 3, 4, 6, 7]
   ·
    have q1 := Y0 h1; refine rT G _ h1 (wp_skip (b6 (wp_seq (wp_block (wp_seq (j7 G f7 (rg 11) (.box [.ref 1, iA (j + (vs.length : Int) + 4 * (i : Int))] :: dY b :: dI vs :: dI ars :: dT bd :: .box (pL 2) :: aa8 :: (aD6 b j vs i [.row 3 (D.ints [])])) (H6 [(7, iA i), (8, .ref 10)]) fun G => b6 (wp_seq (wp_seq (J1 G f7 (H6 [(7, iA i), (8, .ref 10), (9, iA 0)]) fun G => b6 (wp_block ?_)))))))))); replace G := G.as (.box [.ref 1, iA (j + (vs.length : Int) + 4 * (i : Int) + 0)] :: dY b :: dI vs :: dI ars :: dT bd :: (aD5 (aD6 b j vs i [.row 3 (D.ints (vlD b (j + (vs.length : Int) + 4 * (i : Int)) 0))]))) (H6 [(7, iA i), (8, .ref 10), (9, iA 0)]) (by have e1 : (j + (vs.length : Int) + 4 * (i : Int) + 0 : Int) = (j + (vs.length : Int) + 4 * (i : Int)) := (by omega); (first | rw [e1] | simp only [e1]) <;> rfl) (by kernel_rfl); refine A4 (κ := Nat) (fun k2 => k2 ≤ 4) (fun k2 => 4 - k2) (fun k2 => [.box [.ref 1, iA (j + vs.length + 4 * i + k2)], dY b, dI vs, dI ars, dT bd, .box (pL 2), .box [.v (.slice none 0 0), .v (.slice none 0 0)], .box [.ref 8, .tref 9], .row 3 (D.ints (vlD b j vs.length)), .tree (D.rows (arD b (j + (vs.length : Int)) i)), .row 3 (.ints (vlD b (j + vs.length + 4 * i) k2))]) (fun k2 => [(0, .ptr 0 0), (3, .ptr 5 0), (4, .ptr 6 0), (5, .ptr 7 0), (7, iA i), (8, .ref 10), (9, iA k2)]) 0 (by omega) (t7.at G _ _) ?_; clear G; intro k2 ρ a w hp G; replace G := t7.at G (.box [.ref 1, iA (j + (vs.length : Int) + 4 * (i : Int) + (k2 : Int))] :: dY b :: dI vs :: dI ars :: dT bd :: .box (pL 2) :: aa8 :: (aD6 b j vs i [.row 3 (D.ints (vlD b (j + (vs.length : Int) + 4 * (i : Int)) k2))])) (H6 [(7, iA i), (8, .ref 10), (9, iA k2)]); have hvl2 := ao7 b (j + vs.length + 4 * i) k2; refine wp_seq (wp_seq (J1 G f7 (H6 [(7, iA i), (8, .ref 10), (9, iA k2), (34, bA (decide ((k2 : Int) < 4)))]) fun G => b6 ?_)); cases h2 : (decide ((k2 : Int) < 4))
    ·
     have q2 := Y1 h2
     obtain rfl : k2 = 4 := by omega
     refine rF G false (by kernel_rfl) (wp_exit (A2 (A2 (A1 (b6 (W0 G f7 [0, 1, 2, 3, 4, 5, 6, 7, 8, 43] [.box [.ref 1, iA (j + (vs.length : Int) + 4 * (i : Int) + 4)], dY b, dI vs, dI ars, dT bd, .box (pL 2), aa8, .box [.ref 8, .tref 9], .row 3 (D.ints (vlD b j vs.length)), .tree (D.rows (arD b (j + (vs.length : Int)) i ++ [vlD b (j + (vs.length : Int) + 4 * (i : Int)) 4]))] (H6 [(7, iA i)]) (aP ((arD b (j + (vs.length : Int)) i).length + [vlD b (j + (vs.length : Int) + 4 * (i : Int)) (4 : Nat)].length) 24 []) (aK (by simp; omega) bF1) fun G => v7 (b6 (K5 G f7 [(7, iA ((i : Int) + 1))] [wO ((i : Int) + 1)] (o1 (by omega)) fun G => b6 ?_)))))))); exact rxn G (i + 1) (by omega) (by omega) (rg 10) (by have e1 : (j + (vs.length : Int) + 4 * (↑(i + 1) : Int) : Int) = (j + (vs.length : Int) + 4 * (i : Int) + 4) := (by omega); have e2 : (arD b (j + (vs.length : Int)) (i + 1) : List (List Int)) = (arD b (j + (vs.length : Int)) i ++ [vlD b (j + (vs.length : Int) + 4 * (i : Int)) 4]) := (bk6 _ _ _); (first | rw [e1, e2] | simp only [e1, e2]) <;> rfl)
    · have q2 := Y0 h2; refine rT G _ h2 (wp_skip (b6 (wp_seq (wp_block (W0 G (t8 2 [0, 1] (ax7 b (j + (vs.length : Int) + 4 * (i : Int) + (k2 : Int)) (by omega) (by omega))) [0, 1, 2, 3, 4, 5, 6, 7, 8, 9, 43] (.box [.ref 1, iA (j + (vs.length : Int) + 4 * (i : Int) + (k2 : Int) + 1)] :: dY b :: dI vs :: dI ars :: dT bd :: .box (pL 2) :: aa8 :: (aD6 b j vs i [.row 3 (D.ints (vlD b (j + (vs.length : Int) + 4 * (i : Int)) k2 ++ ([nm b (j + (vs.length : Int) + 4 * (i : Int) + (k2 : Int)) vaL] ++ [])))])) (H6 [(7, iA i), (8, .ref 10), (9, iA k2)]) (aP ((vlD b (j + (vs.length : Int) + 4 * (i : Int)) k2).length + ([nm b (j + (vs.length : Int) + 4 * (i : Int) + (k2 : Int)) vaL] ++ []).length) 8 []) (aK (by simp; omega) bF1) fun G => v7 (b6 (K5 G f7 [(9, iA ((k2 : Int) + 1))] [wO ((k2 : Int) + 1)] (o1 (by omega)) fun G => b6 ?_))))))); exact rxn G (k2 + 1) (by omega) (by omega) (rg 11) (by have e1 : (j + (vs.length : Int) + 4 * (i : Int) + (↑(k2 + 1) : Int) : Int) = (j + (vs.length : Int) + 4 * (i : Int) + (k2 : Int) + 1) := (by omega); have e2 : (vlD b (j + (vs.length : Int) + 4 * (i : Int)) (k2 + 1) : List Int) = (vlD b (j + (vs.length : Int) + 4 * (i : Int)) k2 ++ ([nm b (j + (vs.length : Int) + 4 * (i : Int) + (k2 : Int)) vaL] ++ [])) := (aU1 _ _ _); (first | rw [e1, e2] | simp only [e1, e2]) <;> rfl)
  · have q0 := Y0 h0; refine rT G _ h0 (wp_skip (b6 (wp_seq (wp_block (R7 G (t8 3 [0, 1] (ax7 b (j + (k : Int)) (by omega) (by omega))) [0, 1, 0, 4, 12, 31, 63, 127] [0, 1, 2, 3, 4, 5, 6, 7, 49] [.box [.ref 1, iA (j + (k : Int) + 1)], dY b, dI vs, dI ars, dT bd, .box (pL 2), aa8, .box [.ref 8, .v (.slice none 0 0)], .row 3 (D.ints (vlD b j k ++ ([nm b (j + (k : Int)) vaL] ++ [])))] (H6 [(6, iA k)]) (aP ((vlD b j k).length + ([nm b (j + (k : Int)) vaL] ++ []).length) 8 []) (aK (by simp; omega) bF1) fun G => v7 (b6 (K5 G f7 [(6, iA ((k : Int) + 1))] [wO ((k : Int) + 1)] (o1 (by omega)) fun G => b6 ?_))))))); exact rxn G (k + 1) (by omega) (by omega) (rg 9) (by have e1 : (j + (↑(k + 1) : Int) : Int) = (j + (k : Int) + 1) := (by omega); have e2 : (vlD b j (k + 1) : List Int) = (vlD b j k ++ ([nm b (j + (k : Int)) vaL] ++ [])) := (aU1 _ _ _); (first | rw [e1, e2] | simp only [e1, e2]) <;> rfl)
theorem sk1 {l m : List b5} (h : ¬ (l.length : Int) = m.length) : E9 l m = false := by
 cases e : E9 l m
 ·rfl
 ·exact absurd (congrArg (fun x : List b5 => (x.length : Int)) ((R6 l m).1 e)) h
theorem sk2 {l m : List b5} {k : Nat} (h : J0 (l.getD k bF3) (m.getD k bF3) = false) : E9 l m = false := by
 cases e : E9 l m
 ·rfl
 ·rw [(R6 l m).1 e, (X2 _ _).2 rfl] at h; cases h
theorem sk3 {l m : List b5} {k : Nat} (h3 : (l.length : Int) = m.length) (h : l.take k = m.take k) (hk : l.length ≤ k) : E9 l m = true := (R6 _ _).2 (a39 h hk h3)
abbrev ixS (a b : b5) : i6 := J3 10 [eA a 0, eA b 1] [dE a.kids, dE b.kids] (bA (J0 a b))
theorem a56 (l m : List b5) (ih : ∀ (u : b5), u ∈ l → ∀ (v : b5), i6.ok Try.prog (ixS u v)) : i6.ok Try.prog (J3 37 [.ref 0, .ref 1, .fn 10 []] [dE l, dE m] (bA (E9 l m))) := by
  refine E2 32 Try.func37 [dE l, dE m] [(0, .ref 0), (1, .ref 1), (2, .fn 10 [])] fun G => ?_; have hl : l.length ≤ 9223372036854775807 := G.len 0 (d := .exprs l) (by kernel_rfl); refine wp_seq (J1 G f7 [(0, .ref 0), (1, .ref 1), (2, .fn 10 []), (6, bA false)] fun G => b6 (wp_seq (wp_seq (l5 G f7 [(14, bA ((l.length : Int) != (m.length : Int)))] fun G => b6 (rcN G (fun h0 q0 => ?_) fun h0 q0 => ?_)))))
  ·
   refine wp_skip (b6 (wp_seq (wp_seq (J1 G f7 [(1, .ref 1), (2, .fn 10 []), (6, bA false), (15, .ref 0), (16, iA (l.length : Int)), (17, iA 0)] fun G => b6 (wp_block ?_))))); refine A4 (κ := Nat) (fun k => k ≤ l.length ∧ l.take k = m.take k) (fun k => l.length - k) (fun k => [dE l, dE m]) (fun k => [(1, .ref 1), (2, .fn 10 []), (6, bA false), (15, .ref 0), (16, iA (l.length : Int)), (17, iA k)]) 0 (by simp [h0]) (t7.at G _ _) ?_; clear G; intro k ρ a w hp G; refine wp_seq (l5 G f7 [(18, bA (decide ((k : Int) < l.length)))] fun G => b6 (wp_seq (rcD G (fun h1 q1 => ?_) fun h1 q1 => ?_)))
   · refine wp_exit (A2 (A2 (A1 (b6 (wp_seq (l5 G f7 [(6, bA true)] fun G => b6 (wp_ret ?_))))))); exact w8 true G [0, 1] (sk3 (by omega) hp.2 (by omega))
   ·
    refine wp_skip (b6 (wp_seq (wp_block (wp_seq (W0 G f7 [0, 1, 18, 26] [dE l, dE m, dE (l.getD k bF3).kids, .box (eL (l.getD k bF3) 2)] [(1, .ref 1), (2, .fn 10 []), (6, bA false), (7, iA k), (8, .ptr 3 0), (15, .ref 0), (16, iA (l.length : Int)), (17, iA k)] (iX k k l.length []) (iK (by omega) bF1) fun G => b6 (wp_seq (W0 G f7 [0, 1, 2, 3, 28, 36] [dE l, dE m, dE (l.getD k bF3).kids, .box (eL (l.getD k bF3) 2), dE (m.getD k bF3).kids, .box (eL (m.getD k bF3) 4)] [(1, .ref 1), (2, .fn 10 []), (6, bA false), (8, .ptr 3 0), (9, .ptr 5 0), (15, .ref 0), (16, iA (l.length : Int)), (17, iA k)] (iX k k m.length []) (iK (by omega) bF1) fun G => b6 (wp_seq (j7 G (t8 3 [2, 4] (ih (l.getD k bF3) (as2 (by omega)) (m.getD k bF3))) [0, 1] [dE l, dE m] [(1, .ref 1), (2, .fn 10 []), (6, bA false), (15, .ref 0), (16, iA (l.length : Int)), (17, iA k), (30, .v (.bool !J0 (l.getD k bF3) (m.getD k bF3)))] fun G => b6 ?_))))))))); cases h2 : (!J0 (l.getD k bF3) (m.getD k bF3))
    · have q2 : (J0 (l.getD k bF3) (m.getD k bF3)) = true := (Eq.mp (bG2 _) h2); refine rF G _ h2 (wp_skip (v7 (b6 (K5 G f7 [(17, iA ((k : Int) + 1))] [wO ((k : Int) + 1)] (o1 (by omega)) fun G => b6 ?_)))); exact rxn G (k + 1) (⟨by omega, aY6 hp.2 (by omega) (by omega) ((X2 _ _).1 (by with_reducible assumption))⟩) (by omega) [0, 1]
    · have q2 : (J0 (l.getD k bF3) (m.getD k bF3)) = false := (Eq.mp (bF8 _) h2); refine rT G _ h2 (wp_seq (l5 G f7 [] fun G => b6 (wp_ret (C1 (j8 (j8 (C1 (j8 ?_)))))))); exact w8 false G [0, 1] (sk2 (k := k) (by with_reducible assumption))
  · refine wp_seq (l5 G f7 [] fun G => b6 (wp_ret (j8 ?_))); exact w8 false G [0, 1] (sk1 (by omega))
theorem ie1 {a b : b5} (h1 : a.kind = b.kind) (h2 : a.value = b.value) : J0 a b = E9 a.kids b.kids := by
 obtain ⟨k, n, ks⟩ := a
 obtain ⟨k', n', ks'⟩ := b
 simp only [b5.kind, b5.value] at h1 h2
 rw [J0, decide_eq_true h1, decide_eq_true h2]
 rfl
theorem bt5 (x y : b5) (ih : ∀ (m : List b5), i6.ok Try.prog (J3 37 [.ref 0, .ref 1, .fn 10 []] [dE x.kids, dE m] (bA (E9 x.kids m)))) : i6.ok Try.prog (ixS x y) := by
  refine E2 24 Try.func10 [dE x.kids, dE y.kids] [(0, eA x 0), (1, eA y 1)] fun G => ?_; refine wp_seq (j7 G f7 [0, 1, 2, 10] [dE x.kids, dE y.kids, .box (eL x 0), .box (eL y 1)] [(2, .ptr 2 0), (3, .ptr 3 0), (4, bA false)] fun G => b6 (wp_seq ?_)); cases h0 : (x.kind == y.kind)
  · have q0 := ne_of_beq_false h0; refine j7 G (H2 (fc h0 (fc (b := false) rfl fz)) (us [(6, 10, 0), (1011, 1011, 0), (13, 17, 1), (1018, 1018, 1)])) [0, 1] [dE x.kids, dE y.kids] [(4, bA false)] fun G => b6 (wp_ret ?_); exact w8 false G [0, 1] (sx1 (by omega))
  ·
   have q0 := eq_of_beq h0; cases h1 : (x.value == y.value)
   · have q1 := ne_of_beq_false h1; refine j7 G (H2 (fc h0 (fc h1 fz)) (us [(6, 10, 0), (1011, 1011, 0), (13, 17, 1), (1018, 1018, 1)])) [0, 1] [dE x.kids, dE y.kids] [(4, bA false)] fun G => b6 (wp_ret ?_); exact w8 false G [0, 1] (sx2 (by omega))
   · have q1 := eq_of_beq h1; refine j7 G (y9 (m9 17 [0, 1] (ih y.kids) y8) (fc h0 (fc h1 fz)) (us [(6, 10, 0), (1011, 1011, 0), (13, 17, 1), (1018, 1018, 1)])) [0, 1] [dE x.kids, dE y.kids] [(4, bA (E9 x.kids y.kids))] fun G => b6 (wp_ret ?_); exact w8 (E9 x.kids y.kids) G [0, 1] (ie1 (by omega) (by omega))
theorem by4 (x : b5) : ∀ (y : b5), i6.ok Try.prog (ixS x y) :=
 b5.ind (P := fun x => ∀ (y : b5), i6.ok Try.prog (ixS x y)) (fun k n ks ih y => bt5 ⟨k, n, ks⟩ y fun m => a56 ks m fun u hu => ih u hu) x
theorem bp6 {x : Int} (h : m8 x = true) : ofb (bv x) = x := by
 obtain ⟨c, rfl⟩ := af5 h
 have key : ∀ c : Fin 4, ofb (bv (c.val : Int)) = (c.val : Int) := by decide +kernel
 exact key c
theorem a70 {x y : Int} (h : X7 x y) (hy : m8 y = true) : orI x y = y := by
 rw [aV3, h]; exact bp6 hy
theorem a84 {x y : Int} (h : orI x y = y) : X7 x y := by
 unfold X7
 rw [← aX7, h]
theorem a82 (x y : Int) : X7 y (orI x y) := by unfold X7; rw [aX7, ← BitVec.or_assoc, BitVec.or_comm (bv y) (bv x), BitVec.or_assoc, BitVec.or_self]
theorem bu8 {x y z : Int} (h : X7 x z) (k : X7 y z) : X7 (orI x y) z := by unfold X7 at *; rw [aX7, BitVec.or_assoc, k, h]
theorem bi2 (y : Int) : X7 0 y := by unfold X7; show (BitVec.ofInt 64 0) ||| bv y = bv y; simp
section
variable {vs ars : List Int} {l : Int} {s : b8} {pc pd : Int}
end
section
variable (vs ars : List Int) (bd : List b8)
theorem a09 : i6.ok Try.prog (J3 75 [pA 0] [dI vs, dI ars, dT bd] (bA (F2 ⟨vs, ars, bd⟩))) := am8 ⟨vs, ars, bd⟩
end
abbrev nvB (n : Int) : Bool := !(decide (0 ≤ n) && decide (n ≤ 255))
theorem bk2 (n : Int) : i6.ok Try.prog (J3 127 [iA n] [] (bA (nvB n))) := by
 refine E2 6 Try.func127 [] [(0, iA n)] fun G => ?_; refine wp_seq (l5 G f7 [(2, bA false)] fun G => b6 (wp_seq (l5 G (t8 1 [] (t6 n 0 255)) [(2, .v (.bool !(decide (0 ≤ n) && decide (n ≤ 255))))] fun G => b6 (wp_ret ?_)))); exact I7 G []
theorem by3 (l : List Int) : i6.ok Try.prog (J3 137 [.ref 0, .fn 127 []] [dI l] (iA (V6 nvB l))) := by
  refine E2 19 Try.func137 [dI l] [(0, .ref 0), (1, .fn 127 [])] fun G => ?_; have hl : l.length ≤ 9223372036854775807 := G.len 0 (d := .ints l) (by kernel_rfl); refine wp_seq (J1 G f7 [(0, .ref 0), (1, .fn 127 []), (4, iA 0)] fun G => b6 (wp_seq (wp_seq (J1 G f7 [(0, .ref 0), (1, .fn 127 []), (4, iA 0), (7, iA (l.length : Int)), (8, iA 0)] fun G => b6 (wp_block ?_))))); refine A4 (κ := Nat) (fun k => k ≤ l.length ∧ (l.take k).any nvB = false) (fun k => l.length - k) (fun k => [dI l]) (fun k => [(0, .ref 0), (1, .fn 127 []), (4, iA 0), (7, iA (l.length : Int)), (8, iA k)]) 0 (⟨bI1 _, rfl⟩) (t7.at G _ _) ?_; clear G; intro k ρ a w hp G; refine wp_seq (l5 G f7 [(9, bA (decide ((k : Int) < l.length)))] fun G => b6 (wp_seq (rcD G (fun h0 q0 => ?_) fun h0 q0 => ?_)))
  · refine wp_exit (A2 (A2 (A1 (b6 (wp_seq (l5 G f7 [(4, iA (-1))] fun G => b6 (wp_ret ?_))))))); exact Y9 (-1) G [0] (as6 (aK8 hp.2 (by omega)))
  ·
   refine wp_skip (b6 (wp_seq (wp_block (wp_seq (l5 G f7 [(5, iA k)] fun G => b6 (wp_seq (K5 G (t8 5 [] (bk2 (l.getD k 0))) [(16, bA (nvB (l.getD k 0)))] (iX k k l.length []) (iK (by omega) bF1) fun G => b6 (rcB G (fun h1 => ?_) fun h1 => ?_))))))))
   · refine wp_skip (v7 (b6 (K5 G f7 [(8, iA ((k : Int) + 1))] [wO ((k : Int) + 1)] (o1 (by omega)) fun G => b6 ?_))); exact rxn G (k + 1) (⟨by omega, aK7 (z := 0) hp.2 (by omega) (by assumption)⟩) (by omega) [0]
   · refine wp_seq (l5 G f7 [(4, iA k)] fun G => b6 (wp_ret (C1 (j8 (j8 (C1 (j8 ?_))))))); exact Y9 ((k : Int)) G [0] (aw9 (z := 0) (by omega) hp.2 (by assumption))
theorem by7 (l : List Int) : i6.ok Try.prog (J3 116 [.ref 0, .fn 127 []] [dI l] (bA (l.any nvB))) := by
 refine E2 9 Try.func116 [dI l] [(0, .ref 0), (1, .fn 127 [])] fun G => ?_; refine wp_seq (l5 G f7 [(4, bA false)] fun G => b6 (wp_seq (l5 G (t8 2 [0] (by3 l)) [(4, bA (decide (V6 nvB l ≥ 0)))] fun G => b6 (wp_ret ?_)))); exact w8 (decide (V6 nvB l ≥ 0)) G [0] ((ax0 _ _).symm)
theorem a37 (l : List Int) : (!l.any nvB) = T2 l := by
 unfold T2
 rw [List.all_eq_not_any_not]
theorem al9 (l : List Int) : i6.ok Try.prog (J3 89 [.ref 0] [dI l] (bA (T2 l))) := by
 refine E2 6 Try.func89 [dI l] [(0, .ref 0)] fun G => ?_; refine wp_seq (l5 G f7 [(2, bA false)] fun G => b6 (wp_seq (l5 G (t8 1 [0] (by7 l)) [(2, .v (.bool !l.any nvB))] fun G => b6 (wp_ret ?_)))); exact rxv (.v (.bool !l.any nvB)) G [0] (by have e1 : (T2 l : Bool) = (!l.any nvB) := ((a37 l).symm); (first | rw [e1] | simp only [e1]) <;> rfl)
abbrev naB (a : List Int) : Bool := !(au1 a)
theorem bC8 {a : List Int} (h : ¬ (a.length : Int) = 4) : naB a = true := by unfold naB au1; rw [decide_eq_false (p := a.length = 4) (by omega)]; rfl
theorem bC7 {a : List Int} (h : (a.length : Int) = 4) : naB a = !(T2 a) := by unfold naB au1; rw [decide_eq_true (p := a.length = 4) (by omega)]; rfl
theorem br0 (l : List Int) : i6.ok Try.prog (J3 113 [.ref 0] [dI l] (bA (naB l))) := by
 refine E2 11 Try.func113 [dI l] [(0, .ref 0)] fun G => ?_; refine wp_seq (l5 G f7 [(2, bA false)] fun G => b6 (wp_seq ?_)); cases h0 : ((l.length : Int) != 4)
 ·have q0 := bne_eq_false_iff_eq.1 h0; refine l5 G (y9 (m9 5 [0] (al9 l) y8) (fc h0 fz) [(4, 0), (5, 0), (6, 0), (1007, 0)]) [(2, .v (.bool !T2 l))] fun G => b6 (wp_ret ?_); exact rxv (.v (.bool !T2 l)) G [0] (by have e1 : (naB l : Bool) = (!T2 l) := (bC7 (by omega)); (first | rw [e1] | simp only [e1]) <;> rfl)
 ·have q0 := bne_iff_ne.1 h0; refine l5 G (H2 (fc h0 fz) [(4, 0), (5, 0), (6, 0), (1007, 0)]) [(2, bA true)] fun G => b6 (wp_ret ?_); exact w8 true G [0] (bC8 (by omega))
theorem by5 (l : List (List Int)) : i6.ok Try.prog (J3 136 [.ref 0, .fn 113 []] [dR l] (iA (V6 naB l))) := by
  refine E2 19 Try.func136 [dR l] [(0, .ref 0), (1, .fn 113 [])] fun G => ?_; have hl : l.length ≤ 9223372036854775807 := G.len 0 (d := .rows l) (by kernel_rfl); refine wp_seq (J1 G f7 [(0, .ref 0), (1, .fn 113 []), (4, iA 0)] fun G => b6 (wp_seq (wp_seq (J1 G f7 [(0, .ref 0), (1, .fn 113 []), (4, iA 0), (7, iA (l.length : Int)), (8, iA 0)] fun G => b6 (wp_block ?_))))); refine A4 (κ := Nat) (fun k => k ≤ l.length ∧ (l.take k).any naB = false) (fun k => l.length - k) (fun k => [dR l]) (fun k => [(0, .ref 0), (1, .fn 113 []), (4, iA 0), (7, iA (l.length : Int)), (8, iA k)]) 0 (⟨bI1 _, rfl⟩) (t7.at G _ _) ?_; clear G; intro k ρ a w hp G; refine wp_seq (l5 G f7 [(9, bA (decide ((k : Int) < l.length)))] fun G => b6 (wp_seq (rcD G (fun h0 q0 => ?_) fun h0 q0 => ?_)))
  · refine wp_exit (A2 (A2 (A1 (b6 (wp_seq (l5 G f7 [(4, iA (-1))] fun G => b6 (wp_ret ?_))))))); exact Y9 (-1) G [0] (as6 (aK8 hp.2 (by omega)))
  ·
   refine wp_skip (b6 (wp_seq (wp_block (wp_seq (l5 G f7 [(5, iA k)] fun G => b6 (wp_seq (K5 G (t8 5 [33] (br0 (l.getD k []))) [(16, bA (naB (l.getD k [])))] (iX k k l.length []) (iK (by omega) bF1) fun G => b6 (rcB G (fun h1 => ?_) fun h1 => ?_))))))))
   · refine wp_skip (v7 (b6 (K5 G f7 [(8, iA ((k : Int) + 1))] [wO ((k : Int) + 1)] (o1 (by omega)) fun G => b6 ?_))); exact rxn G (k + 1) (⟨by omega, aK7 (z := []) hp.2 (by omega) (by assumption)⟩) (by omega) [0]
   · refine wp_seq (l5 G f7 [(4, iA k)] fun G => b6 (wp_ret (C1 (j8 (j8 (C1 (j8 ?_))))))); exact Y9 ((k : Int)) G [0] (aw9 (z := []) (by omega) hp.2 (by assumption))
theorem by8 (l : List (List Int)) : i6.ok Try.prog (J3 112 [.ref 0, .fn 113 []] [dR l] (bA (l.any naB))) := by
 refine E2 9 Try.func112 [dR l] [(0, .ref 0), (1, .fn 113 [])] fun G => ?_; refine wp_seq (l5 G f7 [(4, bA false)] fun G => b6 (wp_seq (l5 G (t8 2 [0] (by5 l)) [(4, bA (decide (V6 naB l ≥ 0)))] fun G => b6 (wp_ret ?_)))); exact w8 (decide (V6 naB l ≥ 0)) G [0] ((ax0 _ _).symm)
theorem bk5 (l : List (List Int)) : (!l.any naB) = l.all au1 := by
 rw [List.all_eq_not_any_not]
theorem bw2 {nv na : Nat} {m : w4} (h1 : (m.vals.length : Int) = nv) (h2 : (m.arrs.length : Int) = na) (h3 : T2 m.vals = true) : (!m.arrs.any naB) = mfB nv na m := by
 rw [bw3 h1 h2 h3]; exact bk5 _
theorem aS0 (vs ars xs : List Int) (rs : List (List Int)) : i6.ok Try.prog (J3 76 [.ref 0, .ref 1, mA 2] [dI vs, dI ars, dI xs, dR rs] (bA (mfB vs.length ars.length ⟨xs, rs⟩))) := by
  refine E2 31 Try.func76 [dI vs, dI ars, dI xs, dR rs] [(0, .ref 0), (1, .ref 1), (2, .agg [.ref 2, .ref 3])] fun G => ?_; refine wp_seq (j7 G f7 (rg 5) [dI vs, dI ars, dI xs, dR rs, .box [.ref 2, .ref 3]] [(0, .ref 0), (1, .ref 1), (5, .ptr 4 0), (6, bA false)] fun G => b6 (wp_seq (wp_seq ?_))); cases h0 : ((xs.length : Int) != (vs.length : Int))
  ·
   have q0 := bne_eq_false_iff_eq.1 h0; cases h1 : ((rs.length : Int) != (ars.length : Int))
   ·
    have q1 := bne_eq_false_iff_eq.1 h1; refine l5 G (y9 (m9 17 [2] (al9 xs) y8) (fc h0 (fc h1 fz)) (us [(7, 12, 0), (1013, 1013, 0), (15, 18, 1), (1019, 1019, 1)])) [(26, .v (.bool !T2 xs))] fun G => b6 ?_; cases h2 : (!T2 xs)
    · have q2 : (T2 xs) = true := (Eq.mp (bG2 _) h2); refine rF G _ h2 (wp_skip (b6 (wp_seq (j7 G (t8 2 [3] (by8 rs)) (rg 4) [dI vs, dI ars, dI xs, dR rs] [(6, .v (.bool !rs.any naB))] fun G => b6 (wp_ret ?_))))); exact rxv (.v (.bool !rs.any naB)) G (rg 4) (by have e1 : (mfB vs.length ars.length (w4.mk xs rs) : Bool) = (!rs.any naB) := ((bw2 (m := ⟨xs, rs⟩) (by dsimp only; omega) (by dsimp only; omega) (by with_reducible assumption)).symm); (first | rw [e1] | simp only [e1]) <;> rfl)
    · have q2 : (T2 xs) = false := (Eq.mp (bF8 _) h2); refine rT G _ h2 (wp_seq (l5 G f7 [] fun G => b6 (wp_ret (j8 ?_)))); exact w8 false G (rg 4) (bw4 (by with_reducible assumption))
   · have q1 := bne_iff_ne.1 h1; refine l5 G (H2 (fc h0 (fc h1 fz)) (us [(7, 12, 0), (1013, 1013, 0), (15, 18, 1), (1019, 1019, 1)])) [(26, bA true)] fun G => b6 (rT G true (by kernel_rfl) (wp_seq (l5 G f7 [] fun G => b6 (wp_ret (j8 ?_))))); exact w8 false G (rg 4) (bw5 (by dsimp only; omega))
  · have q0 := bne_iff_ne.1 h0; refine l5 G (H2 (fc h0 (fc (b := true) rfl fz)) (us [(7, 12, 0), (1013, 1013, 0), (15, 18, 1), (1019, 1019, 1)])) [(26, bA true)] fun G => b6 (rT G true (by kernel_rfl) (wp_seq (l5 G f7 [] fun G => b6 (wp_ret (j8 ?_))))); exact w8 false G (rg 4) (bw6 (by dsimp only; omega))
theorem at6 (vs ars : List Int) (bd : List b8) (xs : List Int) (rs : List (List Int)) : i6.ok Try.prog (J3 38 [pA 0, mA 3] [dI vs, dI ars, dT bd, dI xs, dR rs] (bA (F2 ⟨vs, ars, bd⟩ && mfB vs.length ars.length ⟨xs, rs⟩))) := by
 have hv := a09 (vs := vs) (ars := ars) (bd := bd); refine E2 15 Try.func38 [dI vs, dI ars, dT bd, dI xs, dR rs] [(0, pA 0), (1, .agg [.ref 3, .ref 4])] fun G => ?_; refine wp_seq (j7 G f7 [0, 1, 2, 3, 4, 5, 13] [dI vs, dI ars, dT bd, dI xs, dR rs, .box (pL 0), .box [.ref 3, .ref 4]] [(2, .ptr 5 0), (3, .ptr 6 0), (4, bA false)] fun G => b6 (wp_seq ?_)); cases h0 : (F2 (f5.mk vs ars bd))
 ·refine j7 G (y9 (m9 1 [0, 1, 2] hv y8) (fc h0 fz) (us [(3, 8, 0), (1009, 1009, 0)])) (rg 5) [dI vs, dI ars, dT bd, dI xs, dR rs] [(4, bA false)] fun G => b6 (wp_ret ?_); exact I7 G (rg 5)
 ·refine j7 G (y9 (m9 1 [0, 1, 2] hv (m9 8 [0, 1, 3, 4] (aS0 vs ars xs rs) y8)) (fc h0 fz) (us [(3, 8, 0), (1009, 1009, 0)])) (rg 5) [dI vs, dI ars, dT bd, dI xs, dR rs] [(4, bA (mfB vs.length ars.length (w4.mk xs rs)))] fun G => b6 (wp_ret ?_); exact I7 G (rg 5)
abbrev LnS : Type := List Int × List b8
section
variable {ars : List Int} {s : b8} {m pc : Int} {x : LnS}
end
structure Grw (nv na d : Nat) (sz : Nat) (s : LnS) (r : LnS) : Prop where
 lo : s.1.length ≤ r.1.length
 hi : r.1.length ≤ s.1.length + sz
 st : x9 r.2 ≤ x9 s.2 + 40 * sz
 len : s.2.length ≤ r.2.length
section
variable {p : f5} {l k : Int} (h : F2 p = true) (hl : m8 l = true)
include h hl
end
section
variable {p : f5} {l : Int}
end
section
variable {p q : f5} {m : w4}
end
section
variable {b : List UInt8} {j : Int} {m : w4}
theorem bd7 (h : pk b j 60 = 0) : beD b j m = (⟨m.vals ++ [0], m.arrs⟩, j + 1) := by unfold beD; rw [if_pos h]
theorem bd6 (h : pk b j 60 = 1) (h2 : 0 < m.vals.length) : beD b j m = (⟨m.vals.set 0 (nm b (j + 1) bnL), m.arrs⟩, j + 2) := by unfold beD; rw [if_neg (by omega), if_pos h, if_pos h2]
theorem aS3 (h : pk b j 60 = 1) (h2 : ¬ 0 < m.vals.length) : beD b j m = (m, j + 1) := by unfold beD; rw [if_neg (by omega), if_pos h, if_neg h2]
theorem bd5 (h : pk b j 60 = 2) (h2 : 0 < m.arrs.length) : beD b j m = (⟨m.vals, m.arrs.set 0 (((m.arrs.getD 0 []).take 3).drop 0)⟩, j + 1) := by unfold beD; rw [if_neg (by omega), if_neg (by omega), if_pos h, if_pos h2]
theorem aS2 (h : pk b j 60 = 2) (h2 : ¬ 0 < m.arrs.length) : beD b j m = (m, j + 1) := by unfold beD; rw [if_neg (by omega), if_neg (by omega), if_pos h, if_neg h2]
theorem bd4 (h : pk b j 60 = 3) : beD b j m = (⟨[], []⟩, j + 1) := by unfold beD; rw [if_neg (by omega), if_neg (by omega), if_neg (by omega), if_pos h]
theorem bd3 (h0 : ¬ pk b j 60 = 0) (h1 : ¬ pk b j 60 = 1) (h2 : ¬ pk b j 60 = 2) (h3 : ¬ pk b j 60 = 3) : beD b j m = (m, j + 1) := by unfold beD; rw [if_neg h0, if_neg h1, if_neg h2, if_neg h3]
end
abbrev beC (b : List UInt8) (j : Int) (vs : List Int) (rs : List (List Int)) (m' : w4) (j' : Int) : i6 := ⟨67, [.ptr 0 0, mA 2], [.box [.ref 1, iA j], dY b, dI vs, dR rs], [.box [.ref 1, iA j'], dY b, dI vs, dR rs] ++ mS m', mA 4⟩
abbrev O6 (b : List UInt8) (vs : List Int) (rs : List (List Int)) (m' : w4) (j' : Int) : List It := [.box [.ref 1, iA j'], dY b, dI vs, dR rs, dI m'.vals, dR m'.arrs]
abbrev av3 : It := .box [.v (.slice none 0 0), .v (.slice none 0 0)]
abbrev L7 (b : List UInt8) (j : Int) (vs : List Int) (rs : List (List Int)) (r0 : List It) : List It := .box [.ref 1, iA (j + 1)] :: dY b :: dI vs :: dR rs :: r0
theorem a53 (b : List UInt8) (j : Int) (vs : List Int) (rs : List (List Int)) (m' : w4) (j' : Int) (hm : beD b j ⟨vs, rs⟩ = (m', j')) (hx : vs.length ≤ 1000000) (hr : rs.length ≤ 1000000) (hi : ∀ l ∈ rs, l.length ≤ 4) (h3 : 0 < rs.length → 3 ≤ (rs.getD 0 []).length) (r0 : 0 ≤ j) (r1 : j ≤ 100000000) : i6.ok Try.prog (beC b j vs rs m' j') := by
  refine E2 47 Try.func67 [.box [.ref 1, iA j], dY b, dI vs, dR rs] [(0, .ptr 0 0), (1, .agg [.ref 2, .ref 3])] fun G => ?_; refine wp_seq (j7 G f7 [0, 1, 2, 3, 4, 12] [.box [.ref 1, iA j], dY b, dI vs, dR rs, .box [.ref 2, .ref 3], av3] [(0, .ptr 0 0), (3, .ptr 4 0), (4, .ptr 5 0)] fun G => b6 (wp_seq (j7 G (t8 1 [2, 3] (bc5 vs rs (by omega) (by omega) (fun l hl => bH6 (hi l hl) (by decide)))) [0, 1, 2, 3, 5, 14, 15, 22] [.box [.ref 1, iA j], dY b, dI vs, dR rs, av3, .row 3 (D.ints vs), .tree (D.rows rs), .box [.ref 5, .tref 6]] [(0, .ptr 0 0), (4, .ptr 4 0), (5, .ptr 7 0)] fun G => b6 (wp_seq (wp_seq ?_))))); obtain ⟨ρ, G⟩ := G.treeRow 6 23 (D.rows rs) [.box [.ref 1, iA j], dY b, dI vs, dR rs, .box [.v (.slice none 0 0), .v (.slice none 0 0)], .row 3 (D.ints vs), .row 23 (D.rows rs), .box [.ref 5, .ref 6]] [(0, .ptr 0 0), (4, .ptr 4 0), (5, .ptr 7 0)]; refine j7 G (t8 1 [0, 1] (r6 b j 60 (by assumption) (by omega))) (rg 8) (L7 b j vs rs [av3, .row 3 (D.ints vs), .row 23 (D.rows rs), .box [.ref 5, .ref 6]]) [(0, .ptr 0 0), (4, .ptr 4 0), (5, .ptr 7 0), (9, iA (pk b j 60))] fun G => b6 (wp_block (wp_seq (l5 G f7 [(10, bA (pk b j 60 == 0))] fun G => b6 (W5 G (fun h0 q0 => ?_) fun h0 q0 => ?_))))
  ·
   refine wp_seq (l5 G f7 [(17, bA (pk b j 60 == 1))] fun G => b6 (W5 G (fun h1 q1 => ?_) fun h1 q1 => ?_))
   ·
    refine wp_seq (l5 G f7 [(29, bA (pk b j 60 == 2))] fun G => b6 (W5 G (fun h2 q2 => ?_) fun h2 q2 => ?_))
    ·
     refine wp_seq (l5 G f7 [(43, bA (pk b j 60 == 3))] fun G => b6 (W5 G (fun h3 q3 => ?_) fun h3 q3 => ?_))
     · refine wp_skip (v7 (b6 (wp_seq (j7 G f7 (rg 7) (L7 b j vs rs [.box [.ref 5, .ref 6], .row 3 (D.ints vs), .row 23 (D.rows rs)]) [(4, .ptr 4 0)] fun G => b6 (wp_ret ?_))))); obtain ⟨ρ, G⟩ := G.frz [.no, .no, .no, .no, .no, .row 3, .row 23] (L7 b j vs rs [.box [.ref 5, .ref 6], dI vs, dR rs]) [(4, .ptr 4 0)]; exact I7 G [0, 1, 2, 3, 5, 6] (by show _ = mR [0, 1, 2, 3, 5, 6] (O6 b vs rs m' j'); unfold O6; have e1 : (j' : Int) = (j + 1) := (by rw [bd3 (by omega) (by omega) (by omega) (by omega)] at hm; cases hm; rfl); have e2 : (m'.vals : List Int) = (vs) := (by rw [bd3 (by omega) (by omega) (by omega) (by omega)] at hm; cases hm; rfl); have e3 : (m'.arrs : List (List Int)) = (rs) := (by rw [bd3 (by omega) (by omega) (by omega) (by omega)] at hm; cases hm; rfl); (first | rw [e1, e2, e3] | simp only [e1, e2, e3]) <;> rfl)
     · refine wp_seq (J1 G f7 [(4, .ptr 4 0), (5, .ptr 7 0)] fun G => b6 (wp_ret (C1 (j8 ?_)))); obtain ⟨ρ, G⟩ := G.nil 8 0 (.ints []) 1 (L7 b j vs rs [.box [.ref 8, .v (.slice none 0 0)], .row 3 (D.ints vs), .row 23 (D.rows rs), .box [.ref 5, .ref 6]]) [(4, .ptr 4 0), (5, .ptr 7 0)]; obtain ⟨ρ, G⟩ := G.nil 9 0 (.rows []) 7 (L7 b j vs rs [.box [.ref 8, .ref 9], .row 3 (D.ints vs), .row 23 (D.rows rs), .box [.ref 5, .ref 6], .row 0 (D.ints [])]) [(4, .ptr 4 0), (5, .ptr 7 0)]; obtain ⟨ρ, G⟩ := G.frz [.no, .no, .no, .no, .no, .no, .no, .no, .row 0, .row 0] (L7 b j vs rs [.box [.ref 8, .ref 9], .row 3 (D.ints vs), .row 23 (D.rows rs), .box [.ref 5, .ref 6], dI [], dR []]) [(4, .ptr 4 0), (5, .ptr 7 0)]; exact I7 G [0, 1, 2, 3, 8, 9] (by show _ = mR [0, 1, 2, 3, 8, 9] (O6 b vs rs m' j'); unfold O6; have e1 : (j' : Int) = (j + 1) := (by rw [bd4 (by omega)] at hm; cases hm; rfl); have e2 : (m'.vals : List Int) = ([]) := (by rw [bd4 (by omega)] at hm; cases hm; rfl); have e3 : (m'.arrs : List (List Int)) = ([]) := (by rw [bd4 (by omega)] at hm; cases hm; rfl); (first | rw [e1, e2, e3] | simp only [e1, e2, e3]) <;> rfl)
    ·
     refine wp_seq (l5 G f7 [(34, bA (decide ((rs.length : Int) > 0)))] fun G => b6 (rcD G (fun h4 q4 => ?_) fun h4 q4 => ?_))
     · refine wp_skip (v7 (b6 (wp_seq (j7 G f7 (rg 7) (L7 b j vs rs [.box [.ref 5, .ref 6], .row 3 (D.ints vs), .row 23 (D.rows rs)]) [(4, .ptr 4 0)] fun G => b6 (wp_ret ?_))))); obtain ⟨ρ, G⟩ := G.frz [.no, .no, .no, .no, .no, .row 3, .row 23] (L7 b j vs rs [.box [.ref 5, .ref 6], dI vs, dR rs]) [(4, .ptr 4 0)]; exact I7 G [0, 1, 2, 3, 5, 6] (by show _ = mR [0, 1, 2, 3, 5, 6] (O6 b vs rs m' j'); unfold O6; have e1 : (j' : Int) = (j + 1) := (by rw [aS2 (by omega) (by dsimp only; omega)] at hm; cases hm; rfl); have e2 : (m'.vals : List Int) = (vs) := (by rw [aS2 (by omega) (by dsimp only; omega)] at hm; cases hm; rfl); have e3 : (m'.arrs : List (List Int)) = (rs) := (by rw [aS2 (by omega) (by dsimp only; omega)] at hm; cases hm; rfl); (first | rw [e1, e2, e3] | simp only [e1, e2, e3]) <;> rfl)
     · refine R7 G f7 [0, 1, 0, 4, 12, 28, 60, 127, 255] (rg 8) (L7 b j vs rs [av3, .row 3 (D.ints vs), .row 23 (D.rows (rs.set 0 (List.drop 0 (bG7 (Int.toNat 3) (rs.getD 0 []))))), .box [.ref 5, .ref 6]]) [(4, .ptr 4 0), (5, .ptr 7 0)] (iX 0 0 rs.length (((0 : Int) ≤ 3) :: (((3 : Int) ≤ ((rs.getD (0 : Nat) []).length : Int)) :: (iX 0 0 rs.length [])))) (iK (by omega) ⟨(by omega), ⟨(by omega), (iK (by omega) bF1)⟩⟩) fun G => v7 (b6 (wp_seq (j7 G f7 (rg 7) (L7 b j vs rs [.box [.ref 5, .ref 6], .row 3 (D.ints vs), .row 23 (D.rows (rs.set 0 (List.drop 0 (bG7 (Int.toNat 3) (rs.getD 0 [])))))]) [(4, .ptr 4 0)] fun G => b6 (wp_ret ?_)))); obtain ⟨ρ, G⟩ := G.frz [.no, .no, .no, .no, .no, .row 3, .row 23] (L7 b j vs rs [.box [.ref 5, .ref 6], dI vs, dR (rs.set 0 (List.drop 0 (bG7 (Int.toNat 3) (rs.getD 0 []))))]) [(4, .ptr 4 0)]; exact I7 G [0, 1, 2, 3, 5, 6] (by show _ = mR [0, 1, 2, 3, 5, 6] (O6 b vs rs m' j'); unfold O6; have e1 : (j' : Int) = (j + 1) := (by rw [bd5 (by omega) (by dsimp only; omega)] at hm; cases hm; rfl); have e2 : (m'.vals : List Int) = (vs) := (by rw [bd5 (by omega) (by dsimp only; omega)] at hm; cases hm; rfl); have e3 : (m'.arrs : List (List Int)) = (rs.set 0 (List.drop 0 (bG7 (Int.toNat 3) (rs.getD 0 [])))) := (by rw [bd5 (by omega) (by dsimp only; omega)] at hm; cases hm; rfl); (first | rw [e1, e2, e3] | simp only [e1, e2, e3]) <;> rfl)
   ·
    refine wp_seq (l5 G f7 [(22, bA (decide ((vs.length : Int) > 0)))] fun G => b6 (rcD G (fun h5 q5 => ?_) fun h5 q5 => ?_))
    · refine wp_skip (v7 (b6 (wp_seq (j7 G f7 (rg 7) (L7 b j vs rs [.box [.ref 5, .ref 6], .row 3 (D.ints vs), .row 23 (D.rows rs)]) [(4, .ptr 4 0)] fun G => b6 (wp_ret ?_))))); obtain ⟨ρ, G⟩ := G.frz [.no, .no, .no, .no, .no, .row 3, .row 23] (L7 b j vs rs [.box [.ref 5, .ref 6], dI vs, dR rs]) [(4, .ptr 4 0)]; exact I7 G [0, 1, 2, 3, 5, 6] (by show _ = mR [0, 1, 2, 3, 5, 6] (O6 b vs rs m' j'); unfold O6; have e1 : (j' : Int) = (j + 1) := (by rw [aS3 (by omega) (by dsimp only; omega)] at hm; cases hm; rfl); have e2 : (m'.vals : List Int) = (vs) := (by rw [aS3 (by omega) (by dsimp only; omega)] at hm; cases hm; rfl); have e3 : (m'.arrs : List (List Int)) = (rs) := (by rw [aS3 (by omega) (by dsimp only; omega)] at hm; cases hm; rfl); (first | rw [e1, e2, e3] | simp only [e1, e2, e3]) <;> rfl)
    · refine R7 G (t8 4 [0, 1, 32] (i6.lend (C3 b (j + 1) ([-1] ++ ([256] ++ ([9223372036854775807] ++ []))) (by simp [h0, h1, h5]) (by omega) (by omega)) [.no, .no, .row 3])) [0, 1, 0, 0, 12, 31, 63] (rg 8) [.box [.ref 1, iA (j + 1 + 1)], dY b, dI vs, dR rs, av3, .row 3 (D.ints (vs.set 0 (nm b (j + 1) ([-1] ++ ([256] ++ ([9223372036854775807] ++ [])))))), .row 23 (D.rows rs), .box [.ref 5, .ref 6]] [(4, .ptr 4 0), (5, .ptr 7 0)] (iX 0 0 vs.length []) (iK (by omega) bF1) fun G => v7 (b6 (wp_seq (j7 G f7 (rg 7) [.box [.ref 1, iA (j + 1 + 1)], dY b, dI vs, dR rs, .box [.ref 5, .ref 6], .row 3 (D.ints (vs.set 0 (nm b (j + 1) ([-1] ++ ([256] ++ ([9223372036854775807] ++ [])))))), .row 23 (D.rows rs)] [(4, .ptr 4 0)] fun G => b6 (wp_ret ?_)))); obtain ⟨ρ, G⟩ := G.frz [.no, .no, .no, .no, .no, .row 3, .row 23] [.box [.ref 1, iA (j + 1 + 1)], dY b, dI vs, dR rs, .box [.ref 5, .ref 6], dI (vs.set 0 (nm b (j + 1) ([-1] ++ ([256] ++ ([9223372036854775807] ++ []))))), dR rs] [(4, .ptr 4 0)]; exact I7 G [0, 1, 2, 3, 5, 6] (by show _ = mR [0, 1, 2, 3, 5, 6] (O6 b vs rs m' j'); unfold O6; have e1 : (j' : Int) = (j + 1 + 1) := (by rw [bd6 (by omega) (by dsimp only; omega)] at hm; cases hm; omega); have e2 : (m'.vals : List Int) = (vs.set 0 (nm b (j + 1) ([-1] ++ ([256] ++ ([9223372036854775807] ++ []))))) := (by rw [bd6 (by omega) (by dsimp only; omega)] at hm; cases hm; rfl); have e3 : (m'.arrs : List (List Int)) = (rs) := (by rw [bd6 (by omega) (by dsimp only; omega)] at hm; cases hm; rfl); (first | rw [e1, e2, e3] | simp only [e1, e2, e3]) <;> rfl)
  · refine W0 G f7 [0, 1, 2, 3, 4, 6, 7, 32] (L7 b j vs rs [av3, .row 23 (D.rows rs), .box [.ref 7, .ref 5], .row 3 (D.ints (vs ++ ([0] ++ [])))]) [(4, .ptr 4 0), (5, .ptr 6 0)] (aP (vs.length + ([(0 : Int)] ++ []).length) 8 []) (aK (by simp; omega) bF1) fun G => v7 (b6 (wp_seq (j7 G f7 [0, 1, 2, 3, 4, 5, 7] (L7 b j vs rs [.box [.ref 6, .ref 5], .row 23 (D.rows rs), .row 3 (D.ints (vs ++ ([0] ++ [])))]) [(4, .ptr 4 0)] fun G => b6 (wp_ret ?_)))); obtain ⟨ρ, G⟩ := G.frz [.no, .no, .no, .no, .no, .row 23, .row 3] (L7 b j vs rs [.box [.ref 6, .ref 5], dR rs, dI (vs ++ ([0] ++ []))]) [(4, .ptr 4 0)]; exact I7 G [0, 1, 2, 3, 6, 5] (by show _ = mR [0, 1, 2, 3, 6, 5] (O6 b vs rs m' j'); unfold O6; have e1 : (j' : Int) = (j + 1) := (by rw [bd7 (by omega)] at hm; cases hm; rfl); have e2 : (m'.vals : List Int) = (vs ++ ([0] ++ [])) := (by rw [bd7 (by omega)] at hm; cases hm; rfl); have e3 : (m'.arrs : List (List Int)) = (rs) := (by rw [bd7 (by omega)] at hm; cases hm; rfl); (first | rw [e1, e2, e3] | simp only [e1, e2, e3]) <;> rfl)
structure GrS (sz : Nat) (x r : LnS) : Prop where
 lo : x.1.length ≤ r.1.length
 hi : r.1.length ≤ x.1.length + 4 * sz
 st : x9 r.2 ≤ x9 x.2 + 130 * sz
 len : x.2.length ≤ r.2.length
theorem GrS.refl (x : LnS) (n : Nat) : GrS n x x := ⟨bG4 _, by omega, by omega, bG4 _⟩
section
variable {l : List I8} {fr : List Int} {at0 d : Int} {s : b8}
end
section
variable {ss : List b8} {k : Nat} {d : Int} {l : List I8} {fr : List Int} {at0 : Int}
end
section
variable {b : List UInt8} {j : Int}
end
theorem bd0 (b : List UInt8) : 0 ≤ (bdD b 0).2 ∧ (bdD b 0).2 ≤ 150000 := by
 have h := bd8 b (k := 0) (by omega) (by omega)
 have h2 := a88 b (k := 0) (by omega) (by omega)
 omega
theorem pg0 (b : List UInt8) : (pgD b 0).size ≤ 1000000 := bH6 (bp1 b (by omega) (by omega)) (by omega)
theorem F7 (n : Int) : i6.ok Try.prog ⟨28, [iA n], [], [dE []], .agg [iA 1, iA n, .ref 0]⟩ := by
 refine E2 5 Try.func28 [] [(0, iA n)] fun G => ?_; refine wp_seq (j7 G f7 [0] [.box [iA 0, iA 0, .v (.slice none 0 0)]] [(0, iA n), (2, .ptr 0 0)] fun G => b6 (wp_seq (j7 G f7 [0] [.box [iA 1, iA n, .v (.slice none 0 0)]] [(2, .ptr 0 0)] fun G => b6 (wp_ret ?_)))); obtain ⟨ρ, G⟩ := G.nil 1 0 (.exprs []) 9 [.box [iA 1, iA n, .ref 1]] [(2, .ptr 0 0)]; obtain ⟨ρ, G⟩ := G.frz [.no, .row 0] [.box [iA 1, iA n, .ref 1], dE []] [(2, .ptr 0 0)]; exact I7 G [1]
theorem I4 (k : Int) (ks : List b5) : i6.ok Try.prog ⟨26, [iA k, .ref 0], [.row 29 (.exprs ks)], [dE ks], .agg [iA k, iA 0, .ref 0]⟩ := by
 refine E2 8 Try.func26 [.row 29 (D.exprs ks)] [(0, iA k), (1, .ref 0)] fun G => ?_; refine wp_seq (j7 G f7 [0, 1] [.row 29 (D.exprs ks), .box [iA 0, iA 0, .v (.slice none 0 0)]] [(0, iA k), (1, .ref 0), (4, .ptr 1 0)] fun G => b6 (wp_seq (j7 G f7 [0, 1] [.row 29 (D.exprs ks), .box [iA k, iA 0, .ref 0]] [(4, .ptr 1 0)] fun G => b6 (wp_ret ?_)))); obtain ⟨ρ, G⟩ := G.frz [.row 29] [dE ks, .box [iA k, iA 0, .ref 0]] [(4, .ptr 1 0)]; exact I7 G [0]
section
variable {ars vs : List Int} {pc : Int} {bd : List b8} {e : b5} {d k : Nat}
end
section
variable {ars vs : List Int} {bd : List b8} {m pc : Int} {t : b8} {nv dd : Nat}
end
section
variable {ars vs : List Int} {bd : List b8} {m pc l : Int} {t : b8} {nv dd : Nat}
end
section
variable {ars vs : List Int} {bd : List b8} {m pc : Int} {ss : List b8} {nv d k : Nat}
end
theorem i9.sel {ι : Type} {φ ψ : Nat → Prop} {w0 w : World} {F : ι → Rs} {ρ : Nat → Value} {S S1 : List It} {js : List Nat} (M : i9 φ ψ w0 w (l7 F ρ (n5 S))) (hn : js.Nodup) (hl : js.length = S1.length) (hS : js.map (n5 S) = S1.map (It.ren (nth js))) : i9 φ ψ w0 w (l7 F (fun i => ρ (nth js i)) (n5 S1)) := by
 refine M.map (fun k : ι ⊕ Nat => (match k with | .inl i => some (.inl i) | .inr i => if i < js.length then some (.inr (nth js i)) else none : Option (ι ⊕ Nat))) ?_ ?_
 ·intro k k' x h1 h2
  match k, k' with
  | .inl i, .inl i' => simp at h1 h2; rw [← h1] at h2; simpa using h2.symm
  | .inl i, .inr j => simp only at h1 h2; cases h1; split at h2 <;> simp at h2
  | .inr j, .inl i => simp only at h1 h2; cases h2; split at h1 <;> simp at h1
  | .inr j, .inr j' =>
   simp at h1 h2
   obtain ⟨f1, f2⟩ := h1
   obtain ⟨g1, g2⟩ := h2
   rw [← f2] at g2
   have hj := Sum.inr.inj g2
   have e1 := bF0 f1
   have e2 := bF0 g1
   rw [D3 e2, D3 e1] at hj
   have := (List.getElem?_inj f1 hn).1 (e1.trans (by rw [← hj]; exact e2.symm))
   rw [this]
 ·intro k
  match k with
  | .inl i => exact .inl ⟨_, rfl, rfl⟩
  | .inr i =>
   by_cases hlt : i < js.length
   ·refine .inl ⟨.inr (nth js i), by simp [hlt], ?_⟩
    have h1 := congrArg (·[i]?) hS
    have hlt' : i < S1.length := by omega
    simp only [List.getElem?_map, bF0 hlt, bF0 hlt', Option.map_some, Option.some.injEq] at h1
    simp only [l7]
    rw [ac2 hlt', D3 (bF0 hlt), h1, ← It.res_ren, D3 (bF0 hlt)]
   ·refine .inr ?_
    simp only [l7]
    rw [s9 (by omega)]
    rfl
theorem i6.twice {P : Program} {f : FuncId} {args : List AV} {pre S : List It} {d : D} {res : AV} {i : Nat} (hc : i6.ok P ⟨f, args, pre, S, res⟩) (S1 : List It) (hi : S[i]? = some (.dat d)) (hl : pre.length ≤ S.length)
  (hS : S.all (fun x => R9 S.length x.ids) = true) (hg : R9 S.length res.ids = true) (hl1 : S1.length = S.length + 1) (hd : n5 S1 S.length = .dat d) (h2 : ∀ ρ : Nat → Value, ρ S.length = ρ i → ∀ j, j < S.length → (n5 S1 j).res ρ j = (n5 S j).res ρ j) : i6.ok P ⟨f, args, pre, S1, res⟩ := by
 intro ι φ ψ w0 w F ρ M
 refine (hc ι φ ψ w0 w F ρ M).mono ?_
 rintro x w' ⟨ρ1, h1, rfl, M1⟩
 have hi' : n5 S i = .dat d := by simp [n5, hi]
 have hlt : i < S.length := (bF6.1 hi).1
 have hinv : Inv (n5 S) ρ1 [S.length] := fun ρ' h j => by
  by_cases hj : j < S.length
  ·refine It.res_congr _ (fun k hk => h k ?_) (.inr (.inr (h j (by simp; omega))))
   have h1 := D8 (bF5.1 hS (S[j]) (bG3 hj)) k (by simpa [n5, bF2, bF0 hj] using hk)
   simp; omega
  ·rw [show n5 S j = .none by simp only [n5, bF2, bH2 (Nat.le_of_not_lt hj)]; rfl]; rfl
 obtain ⟨ρ2, h3, M2, h4⟩ := M1.newDat (id := S.length) (by simp [n5]) hinv (M1.datAt hi')
 have hρ : ρ2 i = ρ1 i := h3 i (by simp; omega)
 have e : l7 F ρ2 (l6 (n5 S) [(S.length, .dat d)]) = l7 F ρ2 (n5 S1) := by
  funext k
  cases k with
  | inl q => rfl
  | inr j =>
   simp only [l7, l6]
   by_cases hj : j = S.length
   ·subst hj; rw [if_pos rfl, hd]
   ·rw [if_neg hj]
    by_cases hj2 : j < S.length
    ·exact (h2 ρ2 (by rw [← h4, hρ]) j hj2).symm
    ·rw [s9 (by omega), s9 (by omega)]
 rw [e] at M2
 refine ⟨ρ2, fun k hk => by
  have hk : k < pre.length := hk
  rw [h3 k (by simp; omega)]; exact h1 k hk, ?_, M2⟩
 exact congrArg _ (AV.val_congr res fun k hk => by
  have := D8 hg k hk
  exact h3 k (by simp; omega)).symm
theorem ax8 (c : List UInt8) : i6.ok Try.prog ⟨23, [.ref 0], [dY c], [dY c, .box [.ref 2, iA 0], dY (W4 c)], .ptr 1 0⟩ := by
 by_cases h : c.length ≤ 2000
 ·have e : W4 c = c := bF9 h
  rw [e]
  refine i6.twice (aR9 c h) (i := 0) _ rfl (by show (1 : Nat) ≤ 2; omega) rfl rfl rfl rfl fun ρ hρ j hj => ?_
  have hj : j < 2 := hj
  match j, hj with
  | 0, _ => rfl
  | 1, _ =>
   have hρ : ρ 2 = ρ 0 := hρ
   simp only [n5, bF2, bG9, bG1, Option.getD_some, It.res, AV.vals, AV.val, hρ]
 ·exact aR8 c (by omega)
theorem aZ2 (w : World) : i9 (fun _ => True) (fun _ => True) w w (l7 (fun _ : Empty => Rs.none) (fun _ => undef) (n5 [])) := by
 refine (i9.start (ι := Empty ⊕ Nat) (w0 := w) (φ := fun _ => True) (ψ := fun _ => True) fun _ _ => trivial).map (fun k => some k) (fun k k' i a b => by cases a; cases b; rfl) fun k => ?_
 cases k with
 | inl e => exact e.elim
 | inr j => exact .inr rfl
theorem a20 (w : World) : O1 (fun _ => True) (O2 (fun _ => True) (l7 (fun _ : Empty => Rs.none) (fun _ => undef) (n5 []))) w w := O1.mono fun b _ _ => ⟨bF1, fun i => by
 cases i with
 | inl e => exact e.elim
 | inr j => exact fun h => h.elim⟩
abbrev u8s (c : List UInt8) : List Value := c.map fun b => Value.int .u8 (b.toNat : Int)
theorem a12 {P : Program} {f : FuncId} {x : Value} {c : List UInt8} {post : List It} (hc : i6.ok P ⟨f, [.ref 0], [dY c], post, .v x⟩) (u : Value) (w : World) (hp : w3 w (fun _ => True) u c.length 1 (u8s c)) :
  Calls P f #[u] w fun e w' => e = .returned x ∧ Below w.heap.size w w' := by
 obtain ⟨ρ', g1, M2, g2⟩ := i9.dats [.sl (.bytes c)] [u] 0 (aZ2 w) ⟨RD.nice (.bytes c) _ _ _ _ _ (a20 w) hp, bF1⟩ (fun _ _ => rfl) (fun _ _ _ => rfl)
 have e : l6 (n5 []) (L6 [.sl (.bytes c)] 0) = n5 [dY c] := by
  funext j
  match j with
  | 0 => rfl
  | j + 1 => simp [L6, l6, n5]
 rw [e] at M2
 simp only [xav, AV.vals, AV.val, List.cons.injEq, and_true] at g2
 subst g2
 refine (hc Empty _ _ w w _ ρ' M2).mono ?_
 rintro e w' ⟨ρ2, -, rfl, M3⟩
 exact ⟨rfl, M3.below fun _ _ => trivial⟩
def bmD (b : List UInt8) (j : Int) (nv na : Nat) : w4 × Int := beD b (j + nv + 4 * na) (mmD b j nv na)
theorem bE1 (b : List UInt8) (j : Int) (nv na : Nat) : (bmD b j nv na).1.vals.length ≤ nv + 1 ∧ (bmD b j nv na).1.arrs.length ≤ na ∧ (∀ l ∈ (bmD b j nv na).1.arrs, l.length ≤ 4) ∧ j + nv + 4 * na + 1 ≤ (bmD b j nv na).2 ∧ (bmD b j nv na).2 ≤ j + nv + 4 * na + 2 := by
 have h1 := bE2 b (j + nv + 4 * na) (mmD b j nv na)
 have h2 : (mmD b j nv na).vals.length = nv := ao7 _ _ _
 have h3 : (mmD b j nv na).arrs.length = na := aS4 _ _ _
 rw [h2, h3] at h1
 exact ⟨h1.1, h1.2.1, bz2 b _ _ 4 fun l hl => Nat.le_of_eq (be4 _ _ _ l hl), h1.2.2⟩
theorem bD7 (b : List UInt8) (j : Int) (nv na : Nat) (h : 0 < (mmD b j nv na).arrs.length) : 3 ≤ ((mmD b j nv na).arrs.getD 0 []).length := by
 have := be4 b (j + nv) na ((mmD b j nv na).arrs.getD 0 []) (by rw [n6 h]; exact bG3 h)
 omega
theorem bk4 {b : List UInt8} {j : Int} {nv na : Nat} {m : w4} {k : Int} (h : bmD b j nv na = (m, k)) (h1 : nv ≤ 1000000) (h2 : na ≤ 1000000) (r0 : 0 ≤ j) (r1 : j ≤ 10000000) :
  i6.ok Try.prog (beC b (j + nv + 4 * na) (mmD b j nv na).vals (mmD b j nv na).arrs m k) :=
 a53 b _ _ _ m k h (by rw [show (mmD b j nv na).vals.length = nv from ao7 _ _ _]; exact h1) (by rw [show (mmD b j nv na).arrs.length = na from aS4 _ _ _]; exact h2) (fun l hl => Nat.le_of_eq (be4 _ _ _ l hl)) (bD7 b j nv na) (by omega) (by omega)
structure Okd (p q : f5) (m : w4) : Prop where
 bp : x9 p.body ≤ 1048576
 bq : x9 q.body ≤ 1048576
 qv : q.vars.length ≤ 1000000
 mv : m.vals.length ≤ 1000000
 ma : m.arrs.length ≤ 1000000
 mi : ∀ l ∈ m.arrs, l.length ≤ 1000
theorem by1 (p : f5) (e : b5) : i6.ok Try.prog (J3 35 [pA 0, eA e 3] (pS p ++ eS e) (bA (l0 p e))) :=
 Q7 fun φ w ρ h => ap4 p e φ φ _ _ w ⟨ρ 0, ρ 1, ρ 2, rfl, h 0 _ rfl, h 1 _ rfl, h 2 _ rfl⟩ ⟨ρ 3, rfl, h 3 _ rfl⟩
theorem bc9 (p : f5) (e : b5) : i6.ok Try.prog (J3 12 [pA 0, eA e 3] (pS p ++ eS e) (bA (l0 p e))) :=
 Q7 fun φ w ρ h => ar8 p e φ φ _ _ w ⟨ρ 0, ρ 1, ρ 2, rfl, h 0 _ rfl, h 1 _ rfl, h 2 _ rfl⟩ ⟨ρ 3, rfl, h 3 _ rfl⟩
def xlD (p : f5) (e : b5) : Int := if l0 p e = true then a87 p e else 3
section
variable {p : f5} {e : b5}
theorem bn7 (h : l0 p e = true) : xlD p e = a87 p e := if_pos h
theorem bz7 (h : l0 p e = false) : xlD p e = 3 := if_neg (by rw [h]; decide)
theorem aT9 (h : l0 p e = true) : d7 p.vars.length p.arrays.length 5 e = true := by
 unfold l0 d8 at h
 simp only [bE8] at h
 exact h.2.1
end
theorem bn4 (p : f5) (e : b5) : i6.ok Try.prog (J3 15 [pA 0, eA e 3] (pS p ++ eS e) (iA (xlD p e))) := by
 have hev := bc9 p e
 have hla := fun h => bj8 p e h
 refine E2 12 Try.func15 [dI p.vars, dI p.arrays, dT p.body, dE e.kids] [(0, pA 0), (1, eA e 3)] fun G => ?_; refine wp_seq (j7 G f7 [0, 1, 2, 3, 4, 12] [dI p.vars, dI p.arrays, dT p.body, dE e.kids, .box (pL 0), .box (eL e 3)] [(2, .ptr 4 0), (3, .ptr 5 0), (4, iA 0)] fun G => b6 (wp_seq (wp_seq (l5 G (t8 2 (rg 4) hev) [(8, .v (.bool !l0 p e))] fun G => b6 ?_)))); cases h0 : (!l0 p e)
 ·have q0 : (l0 p e) = true := (Eq.mp (bG2 _) h0); refine rF G _ h0 (wp_skip (b6 (wp_seq (j7 G (t8 2 (rg 4) (hla (aT9 (by with_reducible assumption)))) (rg 4) [dI p.vars, dI p.arrays, dT p.body, dE e.kids] [(4, iA (a87 p e))] fun G => b6 (wp_ret ?_))))); exact Y9 (a87 p e) G (rg 4) (by rw [bn7 (by with_reducible assumption)]; done)
 ·have q0 : (l0 p e) = false := (Eq.mp (bF8 _) h0); refine rT G _ h0 (wp_seq (l5 G f7 [(4, iA 3)] fun G => b6 (wp_ret (j8 ?_)))); exact Y9 3 G (rg 4) (by rw [bz7 (by with_reducible assumption)]; done)
def gX (nv na : Nat) (L : Int) (x : I8) : Prop :=
 (x.op = 1 ∧ (0 ≤ x.a ∧ x.a ≤ 13) ∧ (0 ≤ x.b ∧ x.b ≤ 255) ∧ x.c = 0 ∧ x.d = 0) ∨
 (x.op = 2 ∧ (0 ≤ x.a ∧ x.a ≤ 13) ∧ (0 ≤ x.b ∧ x.b < nv) ∧ x.c = 0 ∧ x.d = 0) ∨
 (x.op = 3 ∧ (0 ≤ x.a ∧ x.a < nv) ∧ (0 ≤ x.b ∧ x.b ≤ 13) ∧ x.c = 0 ∧ x.d = 0) ∨
 (x.op = 4 ∧ (0 ≤ x.a ∧ x.a ≤ 13) ∧ (0 ≤ x.b ∧ x.b < na) ∧ (0 ≤ x.c ∧ x.c ≤ 13) ∧ x.d = 0) ∨
 (x.op = 5 ∧ (0 ≤ x.a ∧ x.a < na) ∧ (0 ≤ x.b ∧ x.b ≤ 13) ∧ (0 ≤ x.c ∧ x.c ≤ 13) ∧ x.d = 0) ∨
 (x.op = 6 ∧ (0 ≤ x.a ∧ x.a ≤ 13) ∧ (4 ≤ x.b ∧ x.b ≤ 10) ∧ (0 ≤ x.c ∧ x.c ≤ 13) ∧ (0 ≤ x.d ∧ x.d ≤ 13)) ∨
 (x.op = 7 ∧ (0 ≤ x.a ∧ x.a ≤ 13) ∧ (0 ≤ x.b ∧ x.b ≤ 13) ∧ (0 ≤ x.c ∧ x.c ≤ 13) ∧ (0 ≤ x.d ∧ x.d ≤ 13)) ∨
 (x.op = 8 ∧ (0 ≤ x.a ∧ x.a < L) ∧ x.b = 0 ∧ x.c = 0 ∧ x.d = 0) ∨
 (x.op = 9 ∧ (0 ≤ x.a ∧ x.a ≤ 13) ∧ (0 ≤ x.b ∧ x.b < L) ∧ x.c = 0 ∧ x.d = 0) ∨
 (x.op = 10 ∧ (0 ≤ x.a ∧ x.a ≤ 13) ∧ (0 ≤ x.b ∧ x.b < L) ∧ x.c = 0 ∧ x.d = 0) ∨
 (x.op = 11 ∧ (0 ≤ x.a ∧ x.a ≤ 13) ∧ x.b = 0 ∧ x.c = 0 ∧ x.d = 0)
def gL (nv na : Nat) (L : Int) (l : List I8) : Prop := ∀ x ∈ l, gX nv na L x
theorem bq2 {nv na : Nat} {L : Int} {a b : List I8} (h : gL nv na L a) (k : gL nv na L b) : gL nv na L (a ++ b) := by
 intro x hx
 rcases bG8.1 hx with hx | hx
 ·exact h x hx
 ·exact k x hx
theorem aB9 {nv na : Nat} {L : Int} {a : I8} (h : gX nv na L a) : gL nv na L [a] := by
 intro x hx
 rw [bH4] at hx
 subst hx; exact h
theorem P0 {nv na n : Nat} {k v : Int} {ks : List b5} (h : d7 nv na (n + 1) ⟨k, v, ks⟩ = true) : (ks.length : Int) = i8 k ∧ 0 ≤ v ∧ v < w6 nv na k ∧ ks.all (d7 nv na n) = true := by
 rw [d7] at h
 simp only [bE8, r9, decide_eq_true_eq] at h
 exact ⟨h.1.1.1.1, h.1.1.1.2, h.1.1.2, h.1.2⟩
def Gd (nv na : Nat) (L : Int) (x y : a21) : Prop := ∃ ys, y.1 = x.1 ++ ys ∧ gL nv na L ys
theorem Gd.refl {nv na : Nat} {L : Int} (x : a21) : Gd nv na L x x := ⟨[], by simp, fun x hx => by cases hx⟩
theorem Gd.trans {nv na : Nat} {L : Int} {x y z : a21} (h : Gd nv na L x y) (k : Gd nv na L y z) : Gd nv na L x z := by
 obtain ⟨a, a1, a2⟩ := h
 obtain ⟨b, b1, b2⟩ := k
 exact ⟨a ++ b, by rw [b1, a1, List.append_assoc], bq2 a2 b2⟩
theorem Gd.add {nv na : Nat} {L : Int} {x : a21} {n : Int} {c : List I8} (h : gL nv na L c) : Gd nv na L x (bE6 x n c) := ⟨c, rfl, h⟩
theorem bp0 : (0 : Int) ≤ 0 ∧ (0 : Int) ≤ 13 := by decide
theorem bB2 : (0 : Int) ≤ 1 ∧ (1 : Int) ≤ 13 := by decide
theorem g1 {nv na : Nat} {L a b : Int} (h1 : 0 ≤ a ∧ a ≤ 13) (h2 : 0 ≤ b ∧ b ≤ 255) : gL nv na L [⟨1, a, b, 0, 0⟩] := aB9 (.inl ⟨rfl, h1, h2, rfl, rfl⟩)
theorem g3 {nv na : Nat} {L a : Int} (h1 : 0 ≤ a ∧ a < nv) : gL nv na L [⟨3, a, 0, 0, 0⟩] := aB9 (.inr (.inr (.inl ⟨rfl, h1, bp0, rfl, rfl⟩)))
theorem g5 {nv na : Nat} {L a : Int} (h1 : 0 ≤ a ∧ a < na) : gL nv na L [⟨5, a, 1, 0, 0⟩] := aB9 (.inr (.inr (.inr (.inr (.inl ⟨rfl, h1, bB2, bp0, rfl⟩)))))
theorem g8 {nv na : Nat} {L a : Int} (h1 : 0 ≤ a ∧ a < L) : gX nv na L ⟨8, a, 0, 0, 0⟩ := .inr (.inr (.inr (.inr (.inr (.inr (.inr (.inl ⟨rfl, h1, rfl, rfl, rfl⟩)))))))
theorem g9 {nv na : Nat} {L b : Int} (h1 : 0 ≤ b ∧ b < L) : gX nv na L ⟨9, 0, b, 0, 0⟩ := .inr (.inr (.inr (.inr (.inr (.inr (.inr (.inr (.inl ⟨rfl, bp0, h1, rfl, rfl⟩))))))))
theorem g10 {nv na : Nat} {L a b : Int} (h0 : 0 ≤ a ∧ a ≤ 13) (h1 : 0 ≤ b ∧ b < L) : gL nv na L [⟨10, a, b, 0, 0⟩] := aB9 (.inr (.inr (.inr (.inr (.inr (.inr (.inr (.inr (.inr (.inl ⟨rfl, h0, h1, rfl, rfl⟩))))))))))
def evK (m : w4) (k n : Int) (vs : List Int) (tr : List (Int × Int)) : Int × List (Int × Int) :=
 if k = 1 then (n, tr) else if k = 2 then (m.vals.getD n.toNat 0, tr)
 else if k = 3 then ((m.arrs.getD n.toNat []).getD ((vs.getD 0 0).tmod 4).toNat 0, tr ++ [(2, n * 4 + (vs.getD 0 0).tmod 4)])
 else if k = 11 then (if vs.getD 0 0 = 0 then vs.getD 2 0 else vs.getD 1 0, tr)
 else (n4 k (vs.getD 0 0) (vs.getD 1 0), tr)
mutual
def J4 (m : w4) : b5 → Int × List (Int × Int)
 | ⟨k, n, ks⟩ => evK m k n (l8 m ks).1 (l8 m ks).2
def l8 (m : w4) : List b5 → List Int × List (Int × Int)
 | [] => ([], [])
 | e :: r => ((J4 m e).1 :: (l8 m r).1, (J4 m e).2 ++ (l8 m r).2)
end
theorem U1 (m : w4) (e : b5) : J4 m e = evK m e.kind e.value (l8 m e.kids).1 (l8 m e.kids).2 := by cases e; rw [J4]; rfl
theorem ax1 (m : w4) (e : b5) : ∀ l : List b5, l8 m (l ++ [e]) = ((l8 m l).1 ++ [(J4 m e).1], (l8 m l).2 ++ (J4 m e).2)
 | [] => by simp [l8]
 | a :: r => by simp [l8, ax1 m e r]
theorem as8 (m : w4) : ∀ l : List b5, (l8 m l).1.length = l.length
 | [] => rfl
 | a :: r => by simp [l8, as8 m r]
theorem ax2 {m : w4} {l : List b5} {k : Nat} (hk : k < l.length) : l8 m (l.take (k + 1)) = ((l8 m (l.take k)).1 ++ [(J4 m (l.getD k bF3)).1], (l8 m (l.take k)).2 ++ (J4 m (l.getD k bF3)).2) := by
 rw [n8 _ _ hk, ax1, n6 hk]
mutual
theorem bi8 (m : w4) : ∀ e : b5, (J4 m e).2.length ≤ G7 e + 1
 | ⟨k, n, ks⟩ => by
  have h := ag2 m ks
  rw [J4, G7]
  unfold evK
  repeat' split
  all_goals simp only [bH8, bH3, List.length_nil]
  all_goals omega
theorem ag2 (m : w4) : ∀ l : List b5, (l8 m l).2.length ≤ m6 l
 | [] => by simp [l8]
 | a :: r => by
  have h1 := bi8 m a
  have h2 := ag2 m r
  rw [l8, m6]
  simp only [bH8]
  omega
end
def inV (x : Int) : Prop := 0 ≤ x ∧ x ≤ 255
theorem aB8 {l : List Int} (h : ∀ x ∈ l, inV x) (i : Nat) : inV (l.getD i 0) := by
 rw [bF2]
 cases hx : l[i]? with
 | none => exact ⟨Int.le_refl _, by decide⟩
 | some x => exact h x (bE9 hx)
theorem br6 {l : List Int} (h : T2 l = true) : ∀ x ∈ l, inV x := fun x hx => by
 have := bF5.1 h x hx
 simpa [inV] using this
theorem bA8 {l : List (List Int)} (h : l.all au1 = true) (i : Nat) : ∀ x ∈ l.getD i [], inV x := by
 rw [bF2]
 cases hx : l[i]? with
 | none => intro x hx; simp at hx
 | some r =>
  have := bF5.1 h r (bE9 hx)
  unfold au1 at this
  rw [bE8] at this
  exact br6 this.2
theorem aX0 {m : w4} {nv na : Nat} (hm : mfB nv na m = true) : ∀ (d : Nat) (e : b5), d7 nv na d e = true → inV (J4 m e).1
 | 0, _, h => by simp [d7] at h
 | d + 1, ⟨k, n, ks⟩, h => by
  obtain ⟨f1, f2, f3, f4⟩ := aC1 hm
  obtain ⟨s1, s2, s3, s4⟩ := P0 h
  have hk : ∀ l : List b5, (∀ x ∈ l, d7 nv na d x = true) → ∀ y ∈ (l8 m l).1, inV y := by
   intro l
   induction l with
   | nil => intro _ y hy; simp [l8] at hy
   | cons a r ih =>
    intro hl y hy
    simp only [l8, bI2] at hy
    rcases hy with rfl | hy
    ·exact aX0 hm d a (hl a bF7)
    ·exact ih (fun x hx => hl x (bG0 _ hx)) y hy
  have hk := hk ks fun x hx => bF5.1 s4 x hx
  rw [J4]
  unfold evK
  split
  ·rename_i e
   subst e
   refine ⟨s2, ?_⟩
   have : w6 nv na 1 = 256 := rfl
   omega
  split
  ·exact aB8 (br6 f3) _
  split
  ·exact aB8 (bA8 f4 _) _
  split
  ·split <;> exact aB8 hk _
  ·have a := aB8 hk 0
   have b := aB8 hk 1
   exact X9 a.1 a.2 b.1 b.2
section
variable {ss : List b8} {k : Nat}
end
theorem bm2 (nv na : Nat) : ∀ (n : Nat) (e : b5), d7 nv na n e = true → d7 nv na (n + 1) e = true
 | 0, _, h => by simp [d7] at h
 | n + 1, e, h => by
  rw [d7, bE8, bE8] at h
  rw [d7, h.1.1, h.2, bF5.2 fun k hk => bm2 nv na n k (bF5.1 h.1.2 k hk)]
  rfl
theorem aI5 {f g : b5 → Int} (ks : List b5) : ∀ (a : Int), (∀ k ∈ ks, f k = g k) → ks.foldl (fun a k => orI a (f k)) a = ks.foldl (fun a k => orI a (g k)) a := by
 induction ks with
 | nil => intro a _; simp only [List.foldl_nil]
 | cons k t ih =>
  intro a h
  simp only [List.foldl_cons]
  rw [h k bF7]
  exact ih _ fun q hq => h q (bG0 _ hq)
theorem aQ0 {vs ars : List Int} (nv na : Nat) : ∀ (n : Nat) (e : b5), d7 nv na n e = true → C0 vs ars (n + 1) e = C0 vs ars n e
 | 0, _, h => by simp [d7] at h
 | n + 1, e, h => by
  rw [d7, bE8, bE8] at h
  rw [C0]
  conv => rhs; rw [C0]
  exact aI5 (f := C0 vs ars (n + 1)) (g := C0 vs ars n) e.kids _ fun k hk => aQ0 nv na n k (bF5.1 h.1.2 k hk)
theorem au3 {f g : b5 → Bool} : ∀ (ks : List b5), (∀ k ∈ ks, f k = g k) → ks.any f = ks.any g
 | [], _ => rfl
 | k :: t, h => by
  simp only [List.any_cons]
  rw [h k bF7, au3 t fun q hq => h q (bG0 _ hq)]
theorem a51 {vs ars : List Int} (nv na : Nat) : ∀ (n : Nat) (e : b5), d7 nv na n e = true → V9 vs ars (n + 1) e = V9 vs ars n e
 | 0, _, h => by simp [d7] at h
 | n + 1, e, h => by
  have h' := h
  rw [d7, bE8, bE8] at h
  have hk : ∀ k ∈ e.kids, d7 nv na n k = true := fun k hk => bF5.1 h.1.2 k hk
  rw [V9]
  conv => rhs; rw [V9]
  rw [au3 (f := V9 vs ars (n + 1)) (g := V9 vs ars n) e.kids fun k hk2 => a51 nv na n k (hk k hk2)]
  by_cases k3 : e.kind = 3
  ·have hne : e.kids ≠ [] := fun h0 => by
    have hn := h.1.1
    simp only [r9, bE8, decide_eq_true_eq] at hn
    have := hn.1.1
    rw [h0, k3] at this
    simp [i8] at this
   have h0 : C0 vs ars (n + 1) (e.kids.getD 0 bF3) = C0 vs ars n (e.kids.getD 0 bF3) := by
    cases hq : e.kids with
    | nil => exact absurd hq hne
    | cons a r => exact aQ0 nv na n a (hk a (by rw [hq]; exact bF7))
   rw [h0]
  ·rw [decide_eq_false k3, Bool.false_and, Bool.false_and]
theorem aI3 {f g : b5 → Int} : ∀ (ks : List b5) (h : b5 → b5) (a b : Int), X7 a b → (∀ k ∈ ks, X7 (f (h k)) (g k)) → X7 ((ks.map h).foldl (fun a k => orI a (f k)) a) (ks.foldl (fun a k => orI a (g k)) b)
 | [], _, _, _, hab, _ => hab
 | k :: t, h, a, b, hab, hk => by
  simp only [bH5, List.foldl_cons]
  exact aI3 t h _ _ (bu8 (hab.trans (a83 _ _)) ((hk k bF7).trans (a82 _ _))) fun q hq => hk q (bG0 _ hq)
theorem aI4 {f : b5 → Int} : ∀ (ks : List b5) (a : Int), X7 a (ks.foldl (fun a k => orI a (f k)) a) ∧ ∀ k ∈ ks, X7 (f k) (ks.foldl (fun a k => orI a (f k)) a)
 | [], a => ⟨X7.refl a, fun k hk => by cases hk⟩
 | k :: t, a => by
  obtain ⟨h1, h2⟩ := aI4 (f := f) t (orI a (f k))
  simp only [List.foldl_cons]
  refine ⟨(a83 _ _).trans h1, fun q hq => ?_⟩
  rcases bI2.1 hq with rfl | hq
  ·exact (a82 _ _).trans h1
  ·exact h2 q hq
theorem ai1 {e : b5} (h : e.kids = []) : b9 e = e := by
 obtain ⟨k, v, ks⟩ := e
 have h : ks = [] := h
 subst h
 rfl
theorem aa0 {nv na n : Nat} {a : b5} (hs : d7 nv na n a = true) (hr : D6 a = true) : a.kids = [] := by
 cases n with
 | zero => simp [d7] at hs
 | succ m =>
  rw [d7, bE8, bE8] at hs
  have h1 := hs.1.1
  simp only [r9, bE8, decide_eq_true_eq] at h1
  have h2 := h1.1.1
  unfold D6 at hr
  simp only [Bool.or_eq_true, decide_eq_true_eq] at hr
  unfold i8 at h2
  rw [if_pos hr] at h2
  exact List.eq_nil_of_length_eq_zero (by omega)
theorem af8 (vs ars : List Int) (nv na : Nat) : ∀ (n : Nat) (e : b5), d7 nv na n e = true → d7 nv na n (b9 e) = true ∧ X7 (C0 vs ars n (b9 e)) (C0 vs ars n e) ∧ (V9 vs ars n (b9 e) = true → V9 vs ars n e = true)
 | 0, _, h => by simp [d7] at h
 | n + 1, e, h => by
  have hh := h
  rw [d7, bE8, bE8] at h
  obtain ⟨⟨hn, hk⟩, hr⟩ := h
  have ih := fun k hk2 => af8 vs ars nv na n k (bF5.1 hk k hk2)
  rw [H1]
  have a1 : d7 nv na (n + 1) ⟨e.kind, e.value, e.kids.map b9⟩ = true := by
   rw [d7, bE8, bE8]
   refine ⟨⟨?_, ?_⟩, ?_⟩
   ·unfold r9 at hn ⊢
    show (decide (((e.kids.map b9).length : Int) = i8 e.kind) && decide (0 ≤ e.value) && decide (e.value < w6 nv na e.kind)) = true
    rw [List.length_map]; exact hn
   ·show (e.kids.map b9).all (d7 nv na n) = true
    rw [bF5]
    intro k hk2
    obtain ⟨q, hq, rfl⟩ := bI7.1 hk2
    exact (ih q hq).1
   ·unfold H8 at hr ⊢
    show (decide (e.kind ≠ 3) || (match e.kids.map b9 with | k :: _ => D6 k | [] => false)) = true
    cases hq : e.kids with
    | nil => rw [hq] at hr; exact hr
    | cons a r =>
     rw [hq] at hr
     simp only [bH5]
     simp only [Bool.or_eq_true] at hr ⊢
     rcases hr with hr | hr
     ·exact .inl hr
     ·right
      have hs := bF5.1 hk a (by rw [hq]; exact bF7)
      have hk0 : a.kids = [] := aa0 hs hr
      rw [ai1 hk0]; exact hr
  have a2 : X7 (C0 vs ars (n + 1) ⟨e.kind, e.value, e.kids.map b9⟩) (C0 vs ars (n + 1) e) := by
   rw [C0]
   conv => arg 2; rw [C0]
   exact aI3 (f := C0 vs ars n) (g := C0 vs ars n) e.kids b9 (au6 vs ars ⟨e.kind, e.value, e.kids.map b9⟩) (au6 vs ars e) (X7.refl _) fun k hk2 => (ih k hk2).2.1
  have a3 : V9 vs ars (n + 1) ⟨e.kind, e.value, e.kids.map b9⟩ = true → V9 vs ars (n + 1) e = true := by
   intro hs
   rw [V9, Bool.or_eq_true] at hs
   rw [V9, Bool.or_eq_true]
   rcases hs with hs | hs
   ·left
    have hs : (decide (e.kind = 3) && (m8 (C0 vs ars n ((e.kids.map b9).getD 0 bF3)) && decide (C0 vs ars n ((e.kids.map b9).getD 0 bF3) % 2 = 1))) = true := hs
    rw [bE8, decide_eq_true_eq] at hs
    have hq : (e.kids.map b9).getD 0 bF3 = e.kids.getD 0 bF3 := by
     unfold H8 at hr
     rw [decide_eq_false (by omega), Bool.false_or] at hr
     cases hq : e.kids with
     | nil => rw [hq] at hr; cases hr
     | cons a r =>
      rw [hq] at hr
      exact ai1 (aa0 (bF5.1 hk a (by rw [hq]; exact bF7)) hr)
    rw [hq] at hs
    rw [decide_eq_true hs.1, hs.2]; rfl
   ·right
    have hs : (e.kids.map b9).any (V9 vs ars n) = true := hs
    rw [List.any_map, List.any_eq_true] at hs
    obtain ⟨k, hk2, hs⟩ := hs
    exact List.any_eq_true.2 ⟨k, hk2, (ih k hk2).2.2 hs⟩
  rcases P5 ⟨e.kind, e.value, e.kids.map b9⟩ with h1 | h1 | ⟨a, b, ha, hb, ka, kb, h1⟩
  ·rw [h1]; exact ⟨a1, a2, a3⟩
  ·have h2 : j6 ⟨e.kind, e.value, e.kids.map b9⟩ ∈ e.kids.map b9 := h1
   obtain ⟨q, hq, hqe⟩ := bI7.1 h2
   rw [← hqe]
   obtain ⟨i1, i2, i3⟩ := ih q hq
   refine ⟨bm2 nv na n _ i1, ?_, ?_⟩
   ·rw [aQ0 nv na n _ i1]
    refine i2.trans ?_
    rw [C0]
    exact (aI4 (f := C0 vs ars n) e.kids (au6 vs ars e)).2 q hq
   ·rw [a51 nv na n _ i1]
    intro hs
    rw [V9, Bool.or_eq_true]
    exact .inr (List.any_eq_true.2 ⟨q, hq, i3 hs⟩)
  ·rw [h1]
   have hval : ∀ a ∈ e.kids.map b9, a.kind = 1 → 0 ≤ a.value ∧ a.value ≤ 255 := fun a ha ka => by
    obtain ⟨q, hq, rfl⟩ := bI7.1 ha
    have hs := (ih q hq).1
    cases n with
    | zero => simp [d7] at hs
    | succ m =>
     rw [d7, bE8, bE8] at hs
     have h1 := hs.1.1
     simp only [r9, bE8, decide_eq_true_eq, w6, ka] at h1
     simp at h1
     omega
   have hb2 := X9 (k := e.kind) (hval a ha ka).1 (hval a ha ka).2 (hval b hb kb).1 (hval b hb kb).2
   refine ⟨?_, ?_, ?_⟩
   ·show d7 nv na (n + 1) ⟨1, n4 e.kind a.value b.value, []⟩ = true
    rw [d7, bE8, bE8]
    refine ⟨⟨?_, rfl⟩, rfl⟩
    show (decide ((0 : Int) = 0) && decide (0 ≤ n4 e.kind a.value b.value) && decide (n4 e.kind a.value b.value < 256)) = true
    rw [decide_eq_true rfl, decide_eq_true hb2.1, decide_eq_true (by omega)]; rfl
   ·show X7 (C0 vs ars (n + 1) ⟨1, n4 e.kind a.value b.value, []⟩) _
    have : C0 vs ars (n + 1) ⟨1, n4 e.kind a.value b.value, []⟩ = 0 := by rw [C0]; rfl
    rw [this]; exact bi2 _
   ·intro hs
    have : V9 vs ars (n + 1) ⟨1, n4 e.kind a.value b.value, []⟩ = false := by rw [V9]; rfl
    have hs : V9 vs ars (n + 1) ⟨1, n4 e.kind a.value b.value, []⟩ = true := hs
    rw [this] at hs; cases hs
theorem aQ5 (e : b5) : b9 (b9 e) = b9 e := by
 refine b5.ind (P := fun e => b9 (b9 e) = b9 e) (fun k n ks ih => ?_) e
 rw [H1 ⟨k, n, ks⟩]
 have hk : (ks.map b9).map b9 = ks.map b9 := by
  rw [List.map_map]
  exact List.map_congr_left fun x hx => ih x hx
 rcases P5 ⟨k, n, ks.map b9⟩ with h1 | h1 | ⟨a, b, -, -, -, -, h1⟩
 ·have h2 : j6 ⟨k, n, ks.map b9⟩ = ⟨k, n, ks.map b9⟩ := h1
  show b9 (j6 ⟨k, n, ks.map b9⟩) = j6 ⟨k, n, ks.map b9⟩
  rw [h2, H1]
  show j6 ⟨k, n, (ks.map b9).map b9⟩ = _
  rw [hk, h2]
 ·obtain ⟨y, hy, h2⟩ := bI7.1 h1
  show b9 (j6 ⟨k, n, ks.map b9⟩) = j6 ⟨k, n, ks.map b9⟩
  rw [← h2]
  exact ih y hy
 ·show b9 (j6 ⟨k, n, ks.map b9⟩) = j6 ⟨k, n, ks.map b9⟩
  rw [h1]; rfl
theorem Y2 (m : w4) {nv na d : Nat} {a : b5} (hs : d7 nv na d a = true) (h : a.kind = 1) : J4 m a = (a.value, []) := by
 have hk : a.kids = [] := aa0 hs (by unfold D6; simp [h])
 rw [U1, h, hk]; rfl
mutual
theorem ap9 (m : w4) : ∀ e : b5, t9 e = true → (J4 m e).2 = []
 | ⟨k, n, ks⟩, h => by
  simp only [t9, bE8, decide_eq_true_eq] at h
  have h2 := aw4 m ks h.2
  rw [J4]
  unfold evK
  rw [h2, if_neg h.1]
  repeat' split
  all_goals rfl
theorem aw4 (m : w4) : ∀ l : List b5, Z1 l = true → (l8 m l).2 = []
 | [], _ => rfl
 | a :: r, h => by
  simp only [Z1, bE8] at h
  rw [l8, ap9 m a h.1, aw4 m r h.2]; rfl
end
theorem bz6 {x : Int} (h : inV x) : ((x.toNat ^^^ (0 : Int).toNat : Nat) : Int) = x := by
 have h := h.1
 show ((x.toNat ^^^ 0 : Nat) : Int) = x
 rw [Nat.xor_zero]; omega
theorem br5 {x : Int} (h : inV x) : (((0 : Int).toNat ^^^ x.toNat : Nat) : Int) = x := by
 have h := h.1
 show ((0 ^^^ x.toNat : Nat) : Int) = x
 rw [Nat.zero_xor]; omega
theorem bo0 {k x c : Int} (h : inV x) (hc : ((k = 4 ∨ k = 8) ∧ c = 0) ∨ (k = 6 ∧ c = 1)) : n4 k c x = x := by
 have h1 := h.1
 have h2 := h.2
 rcases hc with ⟨rfl | rfl, rfl⟩ | ⟨rfl, rfl⟩
 ·show (0 + x).tmod 256 = x
  rw [bI3 (by omega)]; omega
 ·exact br5 h
 ·show (1 * x).tmod 256 = x
  rw [bI3 (by omega)]; omega
theorem bn9 {k x c : Int} (h : inV x) (hc : ((k = 4 ∨ k = 8 ∨ k = 5) ∧ c = 0) ∨ (k = 6 ∧ c = 1)) : n4 k x c = x := by
 have h1 := h.1
 have h2 := h.2
 rcases hc with ⟨rfl | rfl | rfl, rfl⟩ | ⟨rfl, rfl⟩
 ·show (x + 0).tmod 256 = x
  rw [bI3 (by omega)]; omega
 ·exact bz6 h
 ·show (x - 0 + 256).tmod 256 = x
  rw [bI3 (by omega)]; omega
 ·show (x * 1).tmod 256 = x
  rw [bI3 (by omega)]; omega
theorem L5 {a : b5} {c : Int} (h : j5 a c = true) : a.kind = 1 ∧ a.value = c := by
 unfold j5 at h
 simpa using h
theorem bE4 {k : Int} (h : (2 : Int) = i8 k) : ¬ k = 1 ∧ ¬ k = 2 ∧ ¬ k = 3 ∧ ¬ k = 11 := by
 unfold i8 at h
 refine ⟨?_, ?_, ?_, ?_⟩ <;> rintro rfl <;> revert h <;> decide
theorem bE3 {k : Int} (h : (3 : Int) = i8 k) : k = 11 := by
 unfold i8 at h
 revert h
 repeat' split
 all_goals intro h
 all_goals omega
theorem bh5 {m : w4} {nv na d : Nat} (hm : mfB nv na m = true) : ∀ e : b5, d7 nv na (d + 1) e = true → J4 m (j6 e) = J4 m e
 | ⟨k, n, []⟩, _ => rfl
 | ⟨k, n, [_]⟩, _ => rfl
 | ⟨k, n, [a, b]⟩, h => by
  obtain ⟨s1, s2, s3, s4⟩ := P0 h
  have sa : d7 nv na d a = true := bF5.1 s4 a (by simp)
  have sb : d7 nv na d b = true := bF5.1 s4 b (by simp)
  have hk := bE4 (k := k) (by simpa using s1)
  have he : J4 m ⟨k, n, [a, b]⟩ = (n4 k (J4 m a).1 (J4 m b).1, (J4 m a).2 ++ (J4 m b).2) := by
   rw [J4]
   unfold evK
   rw [if_neg hk.1, if_neg hk.2.1, if_neg hk.2.2.1, if_neg hk.2.2.2]
   simp [l8]
  rw [he, C2]
  split
  ·rename_i h1
   rw [Y2 m sa h1.1, Y2 m sb h1.2]; rfl
  split
  ·rename_i h1
   have hb := aX0 hm d b sb
   have hh : a.kind = 1 ∧ (((k = 4 ∨ k = 8) ∧ a.value = 0) ∨ (k = 6 ∧ a.value = 1)) := by
    rcases h1 with ⟨q, r⟩ | ⟨q, r⟩
    ·exact ⟨(L5 r).1, .inl ⟨q, (L5 r).2⟩⟩
    ·exact ⟨(L5 r).1, .inr ⟨q, (L5 r).2⟩⟩
   rw [Y2 m sa hh.1, bo0 hb hh.2]; rfl
  split
  ·rename_i h1
   have ha := aX0 hm d a sa
   have hh : b.kind = 1 ∧ (((k = 4 ∨ k = 8 ∨ k = 5) ∧ b.value = 0) ∨ (k = 6 ∧ b.value = 1)) := by
    rcases h1 with ⟨q, r⟩ | ⟨q, r⟩
    ·exact ⟨(L5 r).1, .inl ⟨q, (L5 r).2⟩⟩
    ·exact ⟨(L5 r).1, .inr ⟨q, (L5 r).2⟩⟩
   rw [Y2 m sb hh.1, bn9 ha hh.2, List.append_nil]
  ·exact he
 | ⟨k, n, [a, b, c]⟩, h => by
  obtain ⟨s1, s2, s3, s4⟩ := P0 h
  have sa : d7 nv na d a = true := bF5.1 s4 a (by simp)
  have hk : k = 11 := bE3 (k := k) (by simpa using s1)
  subst hk
  rw [al6]
  split
  ·rename_i h1
   have q1 := ap9 m b h1.2.1
   have q2 := ap9 m c h1.2.2
   have he : J4 m ⟨11, n, [a, b, c]⟩ = (if a.value = 0 then (J4 m c).1 else (J4 m b).1, []) := by
    rw [J4]
    unfold evK
    simp only [l8, Y2 m sa h1.1, q1, q2]
    rfl
   rw [he]
   by_cases h2 : a.value = 0
   ·rw [if_neg (by omega), if_pos h2]; exact Prod.ext rfl q2
   ·rw [if_pos h2, if_neg h2]; exact Prod.ext rfl q1
  ·rfl
 | ⟨k, n, _ :: _ :: _ :: _ :: _⟩, _ => rfl
theorem a99 {nv na d : Nat} {e : b5} (h : d7 nv na (d + 1) e = true) : d7 nv na (d + 1) ⟨e.kind, e.value, e.kids.map b9⟩ = true := by
 rw [d7, bE8, bE8] at h
 obtain ⟨⟨hn, hk⟩, hr⟩ := h
 rw [d7, bE8, bE8]
 refine ⟨⟨?_, ?_⟩, ?_⟩
 ·unfold r9 at hn ⊢
  show (decide (((e.kids.map b9).length : Int) = i8 e.kind) && decide (0 ≤ e.value) && decide (e.value < w6 nv na e.kind)) = true
  rw [List.length_map]; exact hn
 ·show (e.kids.map b9).all (d7 nv na d) = true
  rw [bF5]
  intro k hk2
  obtain ⟨q, hq, rfl⟩ := bI7.1 hk2
  exact (af8 [] [] nv na d q (bF5.1 hk q hq)).1
 ·unfold H8 at hr ⊢
  show (decide (e.kind ≠ 3) || (match e.kids.map b9 with | k :: _ => D6 k | [] => false)) = true
  cases hq : e.kids with
  | nil => rw [hq] at hr; exact hr
  | cons a r =>
   rw [hq] at hr
   simp only [bH5]
   simp only [Bool.or_eq_true] at hr ⊢
   rcases hr with hr | hr
   ·exact .inl hr
   ·right
    have hs := bF5.1 hk a (by rw [hq]; exact bF7)
    have hk0 : a.kids = [] := aa0 hs hr
    rw [ai1 hk0]; exact hr
theorem aW4 {m : w4} {nv na : Nat} (hm : mfB nv na m = true) : ∀ (d : Nat) (e : b5), d7 nv na d e = true → J4 m (b9 e) = J4 m e
 | 0, _, h => by simp [d7] at h
 | d + 1, e, h => by
  rw [H1, bh5 hm _ (a99 h), U1, U1 m e]
  rw [d7, bE8, bE8] at h
  have hk : ∀ l : List b5, (∀ x ∈ l, x ∈ e.kids) → l8 m (l.map b9) = l8 m l := by
   intro l
   induction l with
   | nil => intro _; rfl
   | cons a r ih =>
    intro hl
    rw [bH5, l8, l8, ih fun x hx => hl x (bG0 _ hx), aW4 hm d a (bF5.1 h.1.2 a (hl a bF7))]
  show evK m e.kind e.value (l8 m (e.kids.map b9)).1 (l8 m (e.kids.map b9)).2 = _
  rw [hk e.kids fun _ h => h]
end Go.Proofs.Ytmokkddidcmglaa
