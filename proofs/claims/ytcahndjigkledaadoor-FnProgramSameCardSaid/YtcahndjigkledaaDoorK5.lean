/- Part 5: functions on the way, plain laws. Conditions: as said. -/
import Derived.Test.YtcahndjigkledaaDoorK1
import Derived.Test.YtcahndjigkledaaDoorK2
import Derived.Test.YtcahndjigkledaaDoorK3
import Derived.Test.YtcahndjigkledaaDoorK4
set_option maxRecDepth 100000
set_option maxHeartbeats 16000000
set_option linter.unusedVariables false
set_option linter.unusedSimpArgs false
open Bool renaming and_eq_true → bk0, eq_iff_iff → bm4, not_eq_false' → bl7, not_eq_true' → bl0
open Inhabited renaming default → bj9
open Int renaming mul_le_mul_of_nonneg_right → bn9
open List renaming all_eq_true → bk6, append_assoc → bn1, eq_nil_of_length_eq_zero → bm2, getD_eq_getElem?_getD → bk3, getElem?_cons_zero → bn4, getElem?_eq_getElem → bk1, getElem?_eq_none → bm7, getElem?_eq_some_iff → bk5, getElem_mem → bk8, length_append → bl6, length_cons → bk4, length_nil → bk7, map_cons → bm8, mem_append → bm1, mem_cons → bn2, mem_cons_of_mem → bl9, mem_cons_self → bl2, range → bm3, replicate → bl4, size_toArray → bl1, take → bl3, take_of_length_le → bm0
open Nat renaming le_refl → bl5, le_trans → bk9, lt_or_ge → bn0
open True renaming intro → bm6

namespace Go.Proofs.YtcahndjigkledaaDoor
open Go Go.RowKit
theorem a87 {l : List b6} {k : Nat} (hk : k < l.length) : l.take k ++ [⟨(l.getD k bj9).kind, (l.getD k bj9).value, (l.getD k bj9).kids⟩] = l.take (k + 1) := by
 rw [b6.eta, p7 _ _ hk, l7 hk]
theorem a86 {l : List b5} {k : Nat} (hk : k < l.length) : l.take k ++ [⟨(l.getD k bj9).kind, (l.getD k bj9).target, ⟨(l.getD k bj9).index.kind, (l.getD k bj9).index.value, (l.getD k bj9).index.kids⟩, ⟨(l.getD k bj9).value.kind, (l.getD k bj9).value.value, (l.getD k bj9).value.kids⟩, (l.getD k bj9).count, (l.getD k bj9).body, (l.getD k bj9).els⟩] = l.take (k + 1) := by
 rw [b6.eta, b6.eta, b5.eta, p7 _ _ hk, l7 hk]
theorem aF1 {α : Type} {l : List α} {k : Nat} (h1 : k <= l.length) (h2 : ¬ (k : Int) < l.length) : l.take k = l := by rw [bm0 (by omega)]
theorem aR2 {α : Type} {l : List α} {k n : Nat} (h1 : k <= l.length) (h : l.length <= n) : (l.take k).length <= n := by rw [List.length_take]; omega
theorem aS1 {e : b6} (h : K5 e <= 1048576) : e.kids.length <= 1048576 := by
 have h1 := aN2 e.kids
 have h2 : K5 e = k8 e.kids := by cases e; rfl
 omega
theorem aL9 {l : List b5} (h : o3 l <= 1048576) : l.length <= 1048576 := bk9 (W7 l) h
theorem aZ1 {α : Type} {l : List α} {x : α} {k : Nat} (h1 : k <= l.length) (h : l.length <= 1048576) : (l.take k).length + [x].length <= 1048577 := by
 have := aR2 (k := k) h1 h
 simp only [bk4, bk7]; omega
theorem bd2 {a b : Nat} (ha : a <= 1048577) (hb : Nat.ble b 1000 = true) : a * b <= 140737488355328 := by
 have h1 := Nat.le_of_ble_eq_true hb
 have h2 := Nat.mul_le_mul ha h1
 omega
theorem ai5 {l : List b6} {k : Nat} (h : (k : Int) < l.length) : l.getD k bj9 ∈ l := by rw [l7 (by omega)]; exact bk8 (by omega)
theorem Q7 {l : List b5} {k : Nat} (h : (k : Int) < l.length) : l.getD k bj9 ∈ l := by rw [l7 (by omega)]; exact bk8 (by omega)
abbrev cpC (e : b6) : f6 := ⟨104, [eA e 0], eS e, eS e ++ [.tree (.exprs e.kids)], .agg [iA e.kind, iA e.value, .tref 1]⟩
abbrev as2 (e : b6) (r0 : List It) : List It := dE e.kids :: .box (eL e 0) :: .box [iA 0, iA 0, .v (.slice none 0 0)] :: r0
theorem aO6 (e : b6) (hb : K5 e <= 1048576) (ih : ∀ (x : b6), x ∈ e.kids -> f6.ok Tryd.prog (cpC x)) : f6.ok Tryd.prog (cpC e) := by
 refine F0 29 Tryd.func104 [dE e.kids] [(0, eA e 0)] fun G => ?_; have hl := aS1 hb; refine wp_seq (j5 G b9 [0, 1, 9] (as2 e []) [(1, .ptr 1 0), (2, .ptr 2 0)] fun G => b0 (wp_seq (j5 G b9 [0, 1, 2, 43] (as2 e [.box [iA e.kind, iA e.value, .v (.slice none 0 0)]]) [(1, .ptr 1 0), (2, .ptr 2 0), (3, .ptr 3 0)] fun G => b0 (wp_seq (wp_seq (J2 G b9 [(1, .ptr 1 0), (2, .ptr 2 0), (3, .ptr 3 0), (4, iA 0)] fun G => b0 (wp_block ?_))))))); obtain ⟨ρ, G⟩ := G.nilT 4 (.exprs []) (as2 e [.box [iA e.kind, iA e.value, .tref 4]]) [(1, .ptr 1 0), (2, .ptr 2 0), (3, .ptr 3 0), (4, iA 0)]; refine x3 (κ := Nat) (fun k => k <= e.kids.length) (fun k => e.kids.length - k) (fun k => [dE e.kids, .box (eL e 0), .box [iA 0, iA 0, .v (.slice none 0 0)], .box [iA e.kind, iA e.value, .tref 4], .tree (.exprs (e.kids.take k))]) (fun k => [(1, .ptr 1 0), (2, .ptr 2 0), (3, .ptr 3 0), (4, iA k)]) 0 (by omega) (o8.at G _ _) ?_; clear G; intro k ρ a w hp G; replace G := o8.at G (as2 e [.box [iA e.kind, iA e.value, .tref 4], .tree (D.exprs (bl3 k e.kids))]) [(1, .ptr 1 0), (2, .ptr 2 0), (3, .ptr 3 0), (4, iA k)]; refine wp_seq (wp_seq (f9 G b9 [(14, bA (decide ((k : Int) < e.kids.length)))] fun G => b0 (V5 G (fun h0 q0 => ?_) fun h0 q0 => ?_)))
 ·refine wp_exit (w6 (w6 (w4 (b0 (wp_seq (j5 G b9 [0, 2, 4] [dE e.kids, .box [iA e.kind, iA e.value, .tref 2], .tree (D.exprs (bl3 k e.kids))] [(2, .ptr 1 0)] fun G => b0 (wp_ret ?_))))))); exact K9 G [0, 2] (by show _ = mR [0, 2] [dE e.kids, .tree (D.exprs e.kids)]; have e1 : (bl3 k e.kids : List b6) = (e.kids) := (aF1 hp (by assumption)); (first | rw [e1] | simp only [e1]) <;> rfl)
 refine wp_skip (b0 (wp_seq (wp_block (L9 G (B3 7 [53] (ih (e.kids.getD k bj9) (ai5 (by assumption)))) [0, 1, 0, 4, 0, 28, 60, 124, 252, 511, 1023, 2047] [0, 1, 2, 3, 77] (as2 e [.box [iA e.kind, iA e.value, .tref 4], .tree (D.exprs (bl3 k e.kids ++ [qzE (e.kids.getD k bj9)]))]) [(1, .ptr 1 0), (2, .ptr 2 0), (3, .ptr 3 0), (4, iA k)] (iX k k e.kids.length (((bl3 k e.kids).length + [qzE (e.kids.getD k bj9)].length <= (9223372036854775807 : Nat)) :: ((((bl3 k e.kids).length + [qzE (e.kids.getD k bj9)].length) * (40 : Nat) <= (140737488355328 : Nat)) :: []))) (iK (by omega) ⟨(by have := aZ1 (x := (bj9 : b6)) hp hl; simp only [bk4, bk7] at this ⊢; omega), ⟨(bd2 (aZ1 hp hl) (by kernel_rfl)), bm6⟩⟩) fun G => o6 (b0 (J1 G b9 [(4, iA ((k : Int) + 1))] [wO ((k : Int) + 1)] (o1 (by omega)) fun G => b0 ?_)))))); exact rxn G (k + 1) (by omega) (by omega) (rg 5) (by have e1 : (bl3 (k + 1) e.kids : List b6) = (bl3 k e.kids ++ [qzE (e.kids.getD k bj9)]) := ((a87 (by omega)).symm); (first | rw [e1] | simp only [e1]) <;> rfl)
theorem aI2 (e : b6) : K5 e <= 1048576 -> f6.ok Tryd.prog (cpC e) :=
 b6.ind (P := fun e => K5 e <= 1048576 -> f6.ok Tryd.prog (cpC e)) (fun k n ks ih hb => aO6 ⟨k, n, ks⟩ hb fun x hx => ih x hx (by
  have h1 := aW2 (show x ∈ ks from hx)
  have h2 : K5 ⟨k, n, ks⟩ = k8 ks := rfl
  omega)) e
abbrev aw8 (l : List b5) : f6 := ⟨95, [.ref 0], [dT l], [dT l, .tree (.stmts l)], .tref 1⟩
theorem aH6 {l : List b5} {k : Nat} (hb : o3 l <= 1048576) (h : (k : Int) < l.length) : K5 (l.getD k bj9).index <= 1048576 /\ K5 (l.getD k bj9).value <= 1048576 /\ o3 (l.getD k bj9).body <= 1048576 /\ o3 (l.getD k bj9).els <= 1048576 := by
 have h1 := J6 (Q7 h)
 generalize l.getD k bj9 = s at *
 rcases s with ⟨_, _, i, v, _, b, e⟩
 simp only [R4] at h1
 simp only [b5.index, b5.value, b5.body, b5.els]
 omega
abbrev af4 (k : Nat) (r0 : List (Nat × AV)) : List (Nat × AV) := (0, .ref 0) :: (2, .v (.slice none 0 0)) :: (3, .tref 1) :: (4, iA (k : Int)) :: r0
theorem ag8 (l : List b5) (hb : o3 l <= 1048576) (ih1 : ∀ (s : b5), s ∈ l -> f6.ok Tryd.prog (aw8 s.body)) (ih2 : ∀ (s : b5), s ∈ l -> f6.ok Tryd.prog (aw8 s.els)) : f6.ok Tryd.prog (aw8 l) := by
  refine F0 38 Tryd.func95 [dT l] [(0, .ref 0)] fun G => ?_; have hl := aL9 hb; refine wp_seq (f9 G b9 [(2, .v (.slice none 0 0))] fun G => b0 (wp_seq (j5 G b9 [0, 1] [dT l, .tree (D.stmts [])] [(0, .ref 0), (2, .v (.slice none 0 0)), (3, .tref 1)] fun G => b0 (wp_seq (wp_seq (J2 G b9 [(0, .ref 0), (2, .v (.slice none 0 0)), (3, .tref 1), (4, iA 0)] fun G => b0 (wp_block ?_))))))); refine x3 (κ := Nat) (fun k => k <= l.length) (fun k => l.length - k) (fun k => [dT l, .tree (.stmts (l.take k))]) (fun k => [(0, .ref 0), (2, .v (.slice none 0 0)), (3, .tref 1), (4, iA k)]) 0 (by omega) (o8.at G _ _) ?_; clear G; intro k ρ a w hp G; replace G := o8.at G [dT l, .tree (D.stmts (bl3 k l))] (af4 k []); refine wp_seq (wp_seq (f9 G b9 [(10, bA (decide ((k : Int) < l.length)))] fun G => b0 (V5 G (fun h0 q0 => ?_) fun h0 q0 => ?_)))
  · refine wp_exit (w6 (w6 (w4 (b0 (wp_seq (f9 G b9 [(2, .tref 1)] fun G => b0 (wp_ret ?_))))))); exact K9 G [0, 1] (by show _ = mR [0, 1] [dT l, .tree (D.stmts l)]; have e1 : (bl3 k l : List b5) = (l) := (aF1 hp (by assumption)); (first | rw [e1] | simp only [e1]) <;> rfl)
  refine wp_skip (b0 (wp_seq (wp_block (wp_seq (V6 G b9 [0, 1, 26, 27, 28, 29, 34] [dT l, .tree (D.stmts (bl3 k l)), dE (l.getD k bj9).index.kids, dE (l.getD k bj9).value.kids, dT (l.getD k bj9).body, dT (l.getD k bj9).els, .box (sL (l.getD k bj9) 2)] (af4 k [(5, .ptr 6 0)]) (iX k k l.length []) (iK (by omega) bm6) fun G => b0 (wp_seq (j5 G (B3 2 [2] (aI2 ((l.getD k bj9).index) ((aH6 hb (by assumption)).1))) [0, 1, 3, 4, 5, 6, 23] [dT l, .tree (D.stmts (bl3 k l)), dE (l.getD k bj9).value.kids, dT (l.getD k bj9).body, dT (l.getD k bj9).els, .box [iA (l.getD k bj9).kind, iA (l.getD k bj9).target, iA (l.getD k bj9).index.kind, iA (l.getD k bj9).index.value, .tref 6, iA (l.getD k bj9).value.kind, iA (l.getD k bj9).value.value, .ref 2, iA (l.getD k bj9).count, .ref 3, .ref 4], .tree (D.exprs (l.getD k bj9).index.kids)] (af4 k [(5, .ptr 5 0)]) fun G => b0 (wp_seq (j5 G (B3 2 [2] (aI2 ((l.getD k bj9).value) ((aH6 hb (by assumption)).2.1))) [0, 1, 3, 4, 5, 6, 23] [dT l, .tree (D.stmts (bl3 k l)), dT (l.getD k bj9).body, dT (l.getD k bj9).els, .box [iA (l.getD k bj9).kind, iA (l.getD k bj9).target, iA (l.getD k bj9).index.kind, iA (l.getD k bj9).index.value, .tref 5, iA (l.getD k bj9).value.kind, iA (l.getD k bj9).value.value, .tref 6, iA (l.getD k bj9).count, .ref 2, .ref 3], .tree (D.exprs (l.getD k bj9).index.kids), .tree (D.exprs (l.getD k bj9).value.kids)] (af4 k [(5, .ptr 4 0)]) fun G => b0 (wp_seq (j5 G (B3 2 [2] (ih1 (l.getD k bj9) (Q7 (by assumption)))) [0, 1, 3, 4, 5, 6, 23] [dT l, .tree (D.stmts (bl3 k l)), dT (l.getD k bj9).els, .box [iA (l.getD k bj9).kind, iA (l.getD k bj9).target, iA (l.getD k bj9).index.kind, iA (l.getD k bj9).index.value, .tref 4, iA (l.getD k bj9).value.kind, iA (l.getD k bj9).value.value, .tref 5, iA (l.getD k bj9).count, .tref 6, .ref 2], .tree (D.exprs (l.getD k bj9).index.kids), .tree (D.exprs (l.getD k bj9).value.kids), .tree (D.stmts (l.getD k bj9).body)] (af4 k [(5, .ptr 3 0)]) fun G => b0 (wp_seq (j5 G (B3 2 [2] (ih2 (l.getD k bj9) (Q7 (by assumption)))) [0, 1, 3, 4, 5, 6, 23] [dT l, .tree (D.stmts (bl3 k l)), .box [iA (l.getD k bj9).kind, iA (l.getD k bj9).target, iA (l.getD k bj9).index.kind, iA (l.getD k bj9).index.value, .tref 3, iA (l.getD k bj9).value.kind, iA (l.getD k bj9).value.value, .tref 4, iA (l.getD k bj9).count, .tref 5, .tref 6], .tree (D.exprs (l.getD k bj9).index.kids), .tree (D.exprs (l.getD k bj9).value.kids), .tree (D.stmts (l.getD k bj9).body), .tree (D.stmts (l.getD k bj9).els)] (af4 k [(5, .ptr 2 0)]) fun G => b0 (V6 G b9 [0, 31] [dT l, .tree (D.stmts (bl3 k l ++ [qzS (l.getD k bj9)]))] (af4 k []) [(bl3 k l).length + [qzS (l.getD k bj9)].length <= (9223372036854775807 : Nat), ((bl3 k l).length + [qzS (l.getD k bj9)].length) * (152 : Nat) <= (140737488355328 : Nat)] ⟨(by have := aZ1 (x := (bj9 : b5)) hp hl; simp only [bk4, bk7] at this ⊢; omega), (bd2 (aZ1 hp hl) (by kernel_rfl)), bm6⟩ fun G => ?_))))))))))))))
  refine o6 (b0 (J1 G b9 [(4, iA ((k : Int) + 1))] [wO ((k : Int) + 1)] (o1 (by omega)) fun G => b0 ?_)); exact rxn G (k + 1) (by omega) (by omega) [0, 1] (by have e1 : (bl3 (k + 1) l : List b5) = (bl3 k l ++ [qzS (l.getD k bj9)]) := ((a86 (by omega)).symm); (first | rw [e1] | simp only [e1]) <;> rfl)
theorem a04 (l : List b5) : o3 l <= 1048576 -> f6.ok Tryd.prog (aw8 l) := fun hb => ag8 l hb
 (fun s hs => (c_copyS2 s).1 (bk9 (Nat.le_of_lt (J6 hs)) hb)) fun s hs => (c_copyS2 s).2 (bk9 (Nat.le_of_lt (J6 hs)) hb)
where
 c_copyS2 (s : b5) : (R4 s <= 1048576 -> f6.ok Tryd.prog (aw8 s.body)) /\ (R4 s <= 1048576 -> f6.ok Tryd.prog (aw8 s.els)) :=
  b5.ind (P := fun s => (R4 s <= 1048576 -> f6.ok Tryd.prog (aw8 s.body)) /\ (R4 s <= 1048576 -> f6.ok Tryd.prog (aw8 s.els))) (fun k t i v c b e h1 h2 => by
   have hz : R4 ⟨k, t, i, v, c, b, e⟩ = K5 i + K5 v + o3 b + o3 e := rfl
   constructor
   ·intro hb
    refine ag8 b (by omega) (fun s hs => (h1 s hs).1 ?_) fun s hs => (h1 s hs).2 ?_
    ·have := J6 hs; omega
    have := J6 hs; omega
   intro hb
   refine ag8 e (by omega) (fun s hs => (h2 s hs).1 ?_) fun s hs => (h2 s hs).2 ?_
   ·have := J6 hs; omega
   have := J6 hs; omega) s
theorem aU9 (p : c9) (hb : p.size <= 1048576) : f6.ok Tryd.prog ⟨73, [pA 0], pS p, pS p ++ oP p, oA 3⟩ := by
 refine F0 15 Tryd.func73 [dI p.vars, dI p.arrays, dT p.body] [(0, pA 0)] fun G => ?_
 have hb1 : p.vars.length <= 1048576 /\ p.arrays.length <= 1048576 /\ o3 p.body <= 1048576 := by unfold c9.size at hb; omega
 refine wp_seq (j5 G b9 [0, 1, 2, 3, 11] [dI p.vars, dI p.arrays, dT p.body, .box (pL 0), .box [.v (.slice none 0 0), .v (.slice none 0 0), .v (.slice none 0 0)]] [(1, .ptr 3 0), (2, .ptr 4 0)] fun G => b0 (wp_seq (L9 G (B3 10 [2] (a04 p.body (by omega))) [0, 0, 2, 7, 0, 0, 32, 127, 0, 256, 1023, 2047, 4095] [0, 1, 2, 4, 29, 61, 85] [dI p.vars, dI p.arrays, dT p.body, .box [.ref 4, .ref 5, .tref 6], .row 3 (D.ints ([] ++ p.vars)), .row 3 (D.ints ([] ++ p.arrays)), .tree (D.stmts p.body)] [(2, .ptr 3 0)] (aP ((0 : Nat) + p.vars.length) 8 (aP ((0 : Nat) + p.arrays.length) 8 [])) (aK (by omega) (aK (by omega) bm6)) fun G => b0 (wp_ret ?_)))); exact K9 G [0, 1, 2, 4, 5, 6]
section
variable {nv na d : Nat} {e : b6}
end
section
variable {vs ars : List Int} {d : Nat} {e : b6}
end
section
variable {nv na : Nat} {s : b5}
variable (h : D2 nv na s = true)
include h
end
section
variable {p : c9} {s : b5} {pc : Int} {strict : Bool} {x : Int}
end
section
variable {p : c9} {strict : Bool} {d c : Nat} {pc : Int} {s : b5}
end
section
variable {p : c9} {strict : Bool}
end
section
variable {p : c9} {s : b5} {cx : Int}
end
section
variable {p : c9} {s : b5}
end
section
variable {R : b5 × Int -> Int} {c a : Int} {n : Nat} {x : b5 × Int}
end
section
variable {R : b5 × Int -> Int} {p : c9} {d : Nat} {cx : Int} {ss : List b5} {c b : Int} {n k : Nat}
end
abbrev Lab : Type := List Int × List Int
def bv (x : Int) : BitVec 64 := BitVec.ofInt 64 x
def leI (x y : Int) : Prop := bv x ||| bv y = bv y
theorem leI.refl (x : Int) : leI x x := BitVec.or_self
theorem leI.trans {x y z : Int} (h : leI x y) (k : leI y z) : leI x z := by
 unfold leI at *
 rw [<- k, <- BitVec.or_assoc, h]
def leP (q r : Lab) : Prop := (∀ i, leI (q.1.getD i 0) (r.1.getD i 0)) /\ ∀ i, leI (q.2.getD i 0) (r.2.getD i 0)
def shP (q r : Lab) : Prop := r.1.length = q.1.length /\ r.2.length = q.2.length
theorem leP.refl (q : Lab) : leP q q := ⟨fun _ => leI.refl _, fun _ => leI.refl _⟩
theorem leP.trans {q r s : Lab} (h : leP q r) (k : leP r s) : leP q s := ⟨fun i => (h.1 i).trans (k.1 i), fun i => (h.2 i).trans (k.2 i)⟩
theorem shP.refl (q : Lab) : shP q q := ⟨rfl, rfl⟩
theorem shP.trans {q r s : Lab} (h : shP q r) (k : shP r s) : shP q s := ⟨k.1.trans h.1, k.2.trans h.2⟩
theorem shP.symm {q r : Lab} (h : shP q r) : shP r q := ⟨h.1.symm, h.2.symm⟩
section
variable {b : Bool} {d : Nat} {cx : Int} {q r : Lab} {ss : List b5}
end
theorem aF3 {a b : b6} (h : ¬ a = b) : r8 a b = false := by
 cases e : r8 a b
 ·rfl
 exact absurd ((x9 a b).1 e) h
section
variable {a b : b6} {k : Nat}
theorem sx1 (h : ¬ a.kind = b.kind) : r8 a b = false := aF3 fun e => h (by rw [e])
theorem sx2 (h : ¬ a.value = b.value) : r8 a b = false := aF3 fun e => h (by rw [e])
theorem sx3 (h : ¬ (a.kids.length : Int) = b.kids.length) : r8 a b = false := aF3 fun e => h (by rw [e])
theorem sx4 (h : r8 (a.kids.getD k bj9) (b.kids.getD k bj9) = false) : r8 a b = false := aF3 fun e => by
 subst e
 rw [(x9 _ _).2 rfl] at h; cases h
theorem I3 {α : Type} {l m : List α} {k : Nat} {z : α} (h : l.take k = m.take k) (h1 : k < l.length) (h2 : k < m.length) (e : l.getD k z = m.getD k z) : l.take (k + 1) = m.take (k + 1) := by
 rw [p7 _ _ h1, p7 _ _ h2, h, <- l7 (d := z) h1, <- l7 (d := z) h2, e]
theorem P5 {α : Type} {l m : List α} {k : Nat} (h : l.take k = m.take k) (h1 : l.length <= k) (h2 : (l.length : Int) = m.length) : l = m := by
 rw [bm0 h1, bm0 (by omega)] at h
 exact h
theorem sx5 (h1 : a.kind = b.kind) (h2 : a.value = b.value) (h3 : (a.kids.length : Int) = b.kids.length) (h : a.kids.take k = b.kids.take k) (hk : a.kids.length <= k) : r8 a b = true := by
 refine (x9 _ _).2 ?_
 rw [<- b6.eta a, <- b6.eta b, h1, h2, P5 h hk h3]
end
abbrev sxC (a b : b6) : f6 := D8 97 [eA a 0, eA b 1] [dE a.kids, dE b.kids] (bA (r8 a b))
theorem aX3 (x y : b6) (ih : ∀ (u : b6), u ∈ x.kids -> ∀ (v : b6), f6.ok Tryd.prog (sxC u v)) : f6.ok Tryd.prog (sxC x y) := by
  refine F0 46 Tryd.func97 [dE x.kids, dE y.kids] [(0, eA x 0), (1, eA y 1)] fun G => ?_; have hl : x.kids.length <= 9223372036854775807 := G.len 0 (d := .exprs x.kids) (by kernel_rfl); refine wp_seq (j5 G b9 [0, 1, 2, 10] [dE x.kids, dE y.kids, .box (eL x 0), .box (eL y 1)] [(2, .ptr 2 0), (3, .ptr 3 0), (4, bA false)] fun G => b0 (wp_seq (wp_seq ?_))); cases h0 : (x.kind != y.kind)
  ·
   have q0 := bne_eq_false_iff_eq.1 h0; cases h1 : (x.value != y.value)
   ·
    have q1 := bne_eq_false_iff_eq.1 h1; refine f9 G (B9 (fc h0 (fc h1 fz)) (us [(6, 10, 0), (1011, 1011, 0), (13, 19, 1), (1020, 1020, 1)])) [(26, bA ((x.kids.length : Int) != (y.kids.length : Int)))] fun G => b0 (rcN G (fun h2 q2 => ?_) fun h2 q2 => ?_)
    ·
     refine wp_skip (b0 (wp_seq (wp_seq (J2 G b9 [(2, .ptr 2 0), (3, .ptr 3 0), (4, bA false), (5, iA 0)] fun G => b0 (wp_block ?_))))); refine x3 (κ := Nat) (fun k => k <= x.kids.length /\ x.kids.take k = y.kids.take k) (fun k => x.kids.length - k) (fun k => [dE x.kids, dE y.kids, .box (eL x 0), .box (eL y 1)]) (fun k => [(2, .ptr 2 0), (3, .ptr 3 0), (4, bA false), (5, iA k)]) 0 (by simp [h0, h1, h2]) (o8.at G _ _) ?_; clear G; intro k ρ a w hp G; refine wp_seq (wp_seq (f9 G b9 [(31, bA (decide ((k : Int) < x.kids.length)))] fun G => b0 (V5 G (fun h3 q3 => ?_) fun h3 q3 => ?_)))
     · refine wp_exit (w6 (w6 (w4 (b0 (wp_seq (j5 G b9 [0, 1] [dE x.kids, dE y.kids] [(4, bA true)] fun G => b0 (wp_ret ?_))))))); exact n5 true G [0, 1] (sx5 (by omega) (by omega) (by omega) hp.2 (by omega))
     refine wp_skip (b0 (wp_seq (wp_block (wp_seq (ap2 G (B3 10 [36, 76] (ih (x.kids.getD k bj9) (ai5 (by omega)) (y.kids.getD k bj9))) [0, 1, 0, 7, 15, 0, 32, 0, 224, 480, 1023, 2047] [(45, .v (.bool !r8 (x.kids.getD k bj9) (y.kids.getD k bj9)))] (iX k k x.kids.length (iX k k y.kids.length [])) (iK (by omega) (iK (by omega) bm6)) fun G => b0 ?_))))); cases h4 : (!r8 (x.kids.getD k bj9) (y.kids.getD k bj9))
     · have q4 : (r8 (x.kids.getD k bj9) (y.kids.getD k bj9)) = true := (Eq.mp (bl7 _) h4); refine rF G _ h4 (wp_skip (o6 (b0 (J1 G b9 [(5, iA ((k : Int) + 1))] [wO ((k : Int) + 1)] (o1 (by omega)) fun G => b0 ?_)))); exact rxn G (k + 1) (⟨by omega, I3 hp.2 (by omega) (by omega) ((x9 _ _).1 (by with_reducible assumption))⟩) (by omega) (rg 4)
     have q4 : (r8 (x.kids.getD k bj9) (y.kids.getD k bj9)) = false := (Eq.mp (bl0 _) h4); refine rT G _ h4 (wp_seq (f9 G b9 [] fun G => b0 (wp_ret (x5 (f7 (f7 (x5 (f7 ?_)))))))); exact n5 false G [0, 1] (sx4 (by with_reducible assumption))
    refine wp_seq (f9 G b9 [] fun G => b0 (wp_ret (f7 ?_))); exact n5 false G [0, 1] (sx3 (by omega))
   have q1 := bne_iff_ne.1 h1; refine f9 G (B9 (fc h0 (fc h1 fz)) (us [(6, 10, 0), (1011, 1011, 0), (13, 19, 1), (1020, 1020, 1)])) [(26, bA true)] fun G => b0 (rT G true (by kernel_rfl) (wp_seq (f9 G b9 [] fun G => b0 (wp_ret (f7 ?_))))); exact n5 false G [0, 1] (sx2 (by omega))
  have q0 := bne_iff_ne.1 h0; refine f9 G (B9 (fc h0 (fc (b := true) rfl fz)) (us [(6, 10, 0), (1011, 1011, 0), (13, 19, 1), (1020, 1020, 1)])) [(26, bA true)] fun G => b0 (rT G true (by kernel_rfl) (wp_seq (f9 G b9 [] fun G => b0 (wp_ret (f7 ?_))))); exact n5 false G [0, 1] (sx1 (by omega))
theorem N9 (x : b6) : ∀ (y : b6), f6.ok Tryd.prog (sxC x y) :=
 b6.ind (P := fun x => ∀ (y : b6), f6.ok Tryd.prog (sxC x y)) (fun k n ks ih y => aX3 ⟨k, n, ks⟩ y fun u hu => ih u hu) x
theorem Q9 (xs ys : List Int) : f6.ok Tryd.prog (D8 47 [.ref 0, .ref 1] [dI xs, dI ys] (bA (decide (xs = ys)))) := by
  refine F0 26 Tryd.func47 [dI xs, dI ys] [(0, .ref 0), (1, .ref 1)] fun G => ?_; have hl : xs.length <= 9223372036854775807 := G.len 0 (d := .ints xs) (by kernel_rfl); refine wp_seq (J2 G b9 [(0, .ref 0), (1, .ref 1), (4, bA false)] fun G => b0 (wp_seq (wp_seq (f9 G b9 [(10, bA ((xs.length : Int) != (ys.length : Int)))] fun G => b0 (rcN G (fun h0 q0 => ?_) fun h0 q0 => ?_)))))
  ·
   refine wp_skip (b0 (wp_seq (wp_seq (J2 G b9 [(0, .ref 0), (1, .ref 1), (4, bA false), (5, iA 0)] fun G => b0 (wp_block ?_))))); refine x3 (κ := Nat) (fun k => k <= xs.length /\ xs.take k = ys.take k) (fun k => xs.length - k) (fun k => [dI xs, dI ys]) (fun k => [(0, .ref 0), (1, .ref 1), (4, bA false), (5, iA k)]) 0 (by simp [h0]) (o8.at G _ _) ?_; clear G; intro k ρ a w hp G; refine wp_seq (wp_seq (f9 G b9 [(14, bA (decide ((k : Int) < xs.length)))] fun G => b0 (V5 G (fun h1 q1 => ?_) fun h1 q1 => ?_)))
   · refine wp_exit (w6 (w6 (w4 (b0 (wp_seq (f9 G b9 [(4, bA true)] fun G => b0 (wp_ret ?_))))))); exact n5 true G [0, 1] (decide_eq_true (P5 hp.2 (by omega) (by omega)))
   refine wp_skip (b0 (wp_seq (wp_block (wp_seq (ap2 G b9 [0, 0, 3, 7, 0, 0, 48, 112, 255] [(25, bA (xs.getD k 0 != ys.getD k 0))] (iX k k xs.length (iX k k ys.length [])) (iK (by omega) (iK (by omega) bm6)) fun G => b0 (rcN G (fun h2 q2 => ?_) fun h2 q2 => ?_))))))
   · refine wp_skip (o6 (b0 (J1 G b9 [(5, iA ((k : Int) + 1))] [wO ((k : Int) + 1)] (o1 (by omega)) fun G => b0 ?_))); exact rxn G (k + 1) (⟨by omega, I3 hp.2 (by omega) (by omega) (by omega)⟩) (by omega) [0, 1]
   refine wp_seq (f9 G b9 [] fun G => b0 (wp_ret (x5 (f7 (f7 (x5 (f7 ?_))))))); exact n5 false G [0, 1] (by exact decide_eq_false fun e => by subst e; omega)
  refine wp_seq (f9 G b9 [] fun G => b0 (wp_ret (f7 ?_))); exact n5 false G [0, 1] (by exact decide_eq_false fun e => by subst e; omega)
theorem ag7 {s t : b5} (h : ¬ s = t) : B1 s t = false := by
 cases e : B1 s t
 ·rfl
 exact absurd ((L6 s t).1 e) h
theorem a24 {l m : List b5} (h : ¬ l = m) : m0 l m = false := by
 cases e : m0 l m
 ·rfl
 exact absurd ((A4 l m).1 e) h
section
variable {s t : b5} {l m : List b5} {k : Nat}
theorem sr1 (h : ¬ s.kind = t.kind) : B1 s t = false := ag7 fun e => h (by rw [e])
theorem sr2 (h : ¬ s.target = t.target) : B1 s t = false := ag7 fun e => h (by rw [e])
theorem sr3 (h : ¬ s.count = t.count) : B1 s t = false := ag7 fun e => h (by rw [e])
theorem sr4 (h : r8 s.index t.index = false) : B1 s t = false := ag7 fun e => by subst e; rw [(x9 _ _).2 rfl] at h; cases h
theorem sr5 (h : r8 s.value t.value = false) : B1 s t = false := ag7 fun e => by subst e; rw [(x9 _ _).2 rfl] at h; cases h
theorem sr6 (h : m0 s.body t.body = false) : B1 s t = false := ag7 fun e => by subst e; rw [(A4 _ _).2 rfl] at h; cases h
theorem sr7 (h : m0 s.els t.els = false) : B1 s t = false := ag7 fun e => by subst e; rw [(A4 _ _).2 rfl] at h; cases h
theorem sr8 (h1 : s.kind = t.kind) (h2 : s.target = t.target) (h3 : s.count = t.count) (h4 : r8 s.index t.index = true) (h5 : r8 s.value t.value = true) (h6 : m0 s.body t.body = true) : B1 s t = m0 s.els t.els := by
 cases e : m0 s.els t.els
 ·exact sr7 e
 refine (L6 _ _).2 ?_
 rw [<- b5.eta s, <- b5.eta t, h1, h2, h3, (x9 _ _).1 h4, (x9 _ _).1 h5, (A4 _ _).1 h6, (A4 _ _).1 e]
theorem sb1 (h : ¬ (l.length : Int) = m.length) : m0 l m = false := a24 fun e => h (by rw [e])
theorem sb2 (h : B1 (l.getD k bj9) (m.getD k bj9) = false) : m0 l m = false := a24 fun e => by
 subst e
 rw [(L6 _ _).2 rfl] at h; cases h
theorem sb3 (h3 : (l.length : Int) = m.length) (h : l.take k = m.take k) (hk : l.length <= k) : m0 l m = true := (A4 _ _).2 (P5 h hk h3)
end
abbrev sbC (l m : List b5) : f6 := D8 48 [.ref 0, .ref 1] [dT l, dT m] (bA (m0 l m))
abbrev ssC (s t : b5) : f6 := D8 78 [sA s 0, sA t 4] (sS s ++ sS t) (bA (B1 s t))
abbrev W0 (s : b5) (t : b5) (r0 : List It) : List It := dE s.index.kids :: dE s.value.kids :: dT s.body :: dT s.els :: dE t.index.kids :: dE t.value.kids :: dT t.body :: dT t.els :: r0
theorem aX4 (s t : b5) (ih1 : ∀ (m : List b5), f6.ok Tryd.prog (sbC s.body m)) (ih2 : ∀ (m : List b5), f6.ok Tryd.prog (sbC s.els m)) : f6.ok Tryd.prog (ssC s t) := by
  refine F0 52 Tryd.func78 (W0 s t []) [(0, sA s 0), (1, sA t 4)] fun G => ?_; refine wp_seq (j5 G b9 [0, 1, 2, 3, 4, 5, 6, 7, 8, 16] (W0 s t [.box (sL s 0), .box (sL t 4)]) [(2, .ptr 8 0), (3, .ptr 9 0), (4, bA false)] fun G => b0 (wp_seq ?_)); cases h0 : (s.kind == t.kind)
  · have q0 := ne_of_beq_false h0; refine j5 G (B9 (fc h0 (fc (b := false) rfl fz)) (us [(6, 10, 0), (1011, 1011, 0), (13, 17, 1), (1018, 1018, 1), (20, 24, 1), (1025, 1025, 1), (27, 31, 1), (1032, 1032, 1), (34, 38, 1), (1039, 1039, 1), (41, 45, 1), (1046, 1046, 1)])) (rg 8) (W0 s t []) [(4, bA false)] fun G => b0 (wp_ret ?_); exact n5 false G (rg 8) (sr1 (by omega))
  have q0 := eq_of_beq h0; cases h1 : (s.target == t.target)
  · have q1 := ne_of_beq_false h1; refine j5 G (B9 (fc h0 (fc h1 (fc (b := false) rfl fz))) (us [(6, 10, 0), (1011, 1011, 0), (13, 17, 1), (1018, 1018, 1), (20, 24, 2), (1025, 1025, 2), (27, 31, 2), (1032, 1032, 2), (34, 38, 2), (1039, 1039, 2), (41, 45, 2), (1046, 1046, 2)])) (rg 8) (W0 s t []) [(4, bA false)] fun G => b0 (wp_ret ?_); exact n5 false G (rg 8) (sr2 (by omega))
  have q1 := eq_of_beq h1; cases h2 : (s.count == t.count)
  · have q2 := ne_of_beq_false h2; refine j5 G (B9 (fc h0 (fc h1 (fc h2 (fc (b := false) rfl fz)))) (us [(6, 10, 0), (1011, 1011, 0), (13, 17, 1), (1018, 1018, 1), (20, 24, 2), (1025, 1025, 2), (27, 31, 3), (1032, 1032, 3), (34, 38, 3), (1039, 1039, 3), (41, 45, 3), (1046, 1046, 3)])) (rg 8) (W0 s t []) [(4, bA false)] fun G => b0 (wp_ret ?_); exact n5 false G (rg 8) (sr3 (by omega))
  have q2 := eq_of_beq h2; cases h3 : (r8 s.index t.index)
  · refine j5 G (s8 (k6 24 [0, 4] (N9 s.index t.index) s7) (fc h0 (fc h1 (fc h2 (fc h3 (fc (b := false) rfl fz))))) (us [(6, 10, 0), (1011, 1011, 0), (13, 17, 1), (1018, 1018, 1), (20, 24, 2), (1025, 1025, 2), (27, 31, 3), (1032, 1032, 3), (34, 38, 4), (1039, 1039, 4), (41, 45, 4), (1046, 1046, 4)])) (rg 8) (W0 s t []) [(4, bA false)] fun G => b0 (wp_ret ?_); exact n5 false G (rg 8) (sr4 (by with_reducible assumption))
  cases h4 : (r8 s.value t.value)
  · refine j5 G (s8 (k6 24 [0, 4] (N9 s.index t.index) (k6 31 [1, 5] (N9 s.value t.value) s7)) (fc h0 (fc h1 (fc h2 (fc h3 (fc h4 (fc (b := false) rfl fz)))))) (us [(6, 10, 0), (1011, 1011, 0), (13, 17, 1), (1018, 1018, 1), (20, 24, 2), (1025, 1025, 2), (27, 31, 3), (1032, 1032, 3), (34, 38, 4), (1039, 1039, 4), (41, 45, 5), (1046, 1046, 5)])) (rg 8) (W0 s t []) [(4, bA false)] fun G => b0 (wp_ret ?_); exact n5 false G (rg 8) (sr5 (by with_reducible assumption))
  cases h5 : (m0 s.body t.body)
  · refine j5 G (s8 (k6 24 [0, 4] (N9 s.index t.index) (k6 31 [1, 5] (N9 s.value t.value) (k6 38 [2, 6] (ih1 t.body) s7))) (fc h0 (fc h1 (fc h2 (fc h3 (fc h4 (fc h5 fz)))))) (us [(6, 10, 0), (1011, 1011, 0), (13, 17, 1), (1018, 1018, 1), (20, 24, 2), (1025, 1025, 2), (27, 31, 3), (1032, 1032, 3), (34, 38, 4), (1039, 1039, 4), (41, 45, 5), (1046, 1046, 5)])) (rg 8) (W0 s t []) [(4, bA false)] fun G => b0 (wp_ret ?_); exact n5 false G (rg 8) (sr6 (by with_reducible assumption))
  refine j5 G (s8 (k6 24 [0, 4] (N9 s.index t.index) (k6 31 [1, 5] (N9 s.value t.value) (k6 38 [2, 6] (ih1 t.body) (k6 45 [3, 7] (ih2 t.els) s7)))) (fc h0 (fc h1 (fc h2 (fc h3 (fc h4 (fc h5 fz)))))) (us [(6, 10, 0), (1011, 1011, 0), (13, 17, 1), (1018, 1018, 1), (20, 24, 2), (1025, 1025, 2), (27, 31, 3), (1032, 1032, 3), (34, 38, 4), (1039, 1039, 4), (41, 45, 5), (1046, 1046, 5)])) (rg 8) (W0 s t []) [(4, bA (m0 s.els t.els))] fun G => b0 (wp_ret ?_); exact n5 (m0 s.els t.els) G (rg 8) (sr8 (by omega) (by omega) (by omega) (by with_reducible assumption) (by with_reducible assumption) (by with_reducible assumption))
theorem ao9 (l m : List b5) (ih : ∀ (s : b5), s ∈ l -> ∀ (t : b5), f6.ok Tryd.prog (ssC s t)) : f6.ok Tryd.prog (sbC l m) := by
  refine F0 27 Tryd.func48 [dT l, dT m] [(0, .ref 0), (1, .ref 1)] fun G => ?_; have hl : l.length <= 9223372036854775807 := G.len 0 (d := .stmts l) (by kernel_rfl); refine wp_seq (J2 G b9 [(0, .ref 0), (1, .ref 1), (4, bA false)] fun G => b0 (wp_seq (wp_seq (f9 G b9 [(10, bA ((l.length : Int) != (m.length : Int)))] fun G => b0 (rcN G (fun h0 q0 => ?_) fun h0 q0 => ?_)))))
  ·
   refine wp_skip (b0 (wp_seq (wp_seq (J2 G b9 [(0, .ref 0), (1, .ref 1), (4, bA false), (5, iA 0)] fun G => b0 (wp_block ?_))))); refine x3 (κ := Nat) (fun k => k <= l.length /\ l.take k = m.take k) (fun k => l.length - k) (fun k => [dT l, dT m]) (fun k => [(0, .ref 0), (1, .ref 1), (4, bA false), (5, iA k)]) 0 (by simp [h0]) (o8.at G _ _) ?_; clear G; intro k ρ a w hp G; refine wp_seq (wp_seq (f9 G b9 [(14, bA (decide ((k : Int) < l.length)))] fun G => b0 (V5 G (fun h1 q1 => ?_) fun h1 q1 => ?_)))
   · refine wp_exit (w6 (w6 (w4 (b0 (wp_seq (f9 G b9 [(4, bA true)] fun G => b0 (wp_ret ?_))))))); exact n5 true G [0, 1] (sb3 (by omega) hp.2 (by omega))
   refine wp_skip (b0 (wp_seq (wp_block (wp_seq (ap2 G (B3 8 [26, 27, 28, 29, 58, 59, 60, 61] (ih (l.getD k bj9) (Q7 (by omega)) (m.getD k bj9))) [0, 0, 3, 7, 0, 0, 48, 112, 255, 511] [(26, .v (.bool !B1 (l.getD k bj9) (m.getD k bj9)))] (iX k k l.length (iX k k m.length [])) (iK (by omega) (iK (by omega) bm6)) fun G => b0 ?_))))); cases h2 : (!B1 (l.getD k bj9) (m.getD k bj9))
   · have q2 : (B1 (l.getD k bj9) (m.getD k bj9)) = true := (Eq.mp (bl7 _) h2); refine rF G _ h2 (wp_skip (o6 (b0 (J1 G b9 [(5, iA ((k : Int) + 1))] [wO ((k : Int) + 1)] (o1 (by omega)) fun G => b0 ?_)))); exact rxn G (k + 1) (⟨by omega, I3 hp.2 (by omega) (by omega) ((L6 _ _).1 (by with_reducible assumption))⟩) (by omega) [0, 1]
   have q2 : (B1 (l.getD k bj9) (m.getD k bj9)) = false := (Eq.mp (bl0 _) h2); refine rT G _ h2 (wp_seq (f9 G b9 [] fun G => b0 (wp_ret (x5 (f7 (f7 (x5 (f7 ?_)))))))); exact n5 false G [0, 1] (sb2 (by with_reducible assumption))
  refine wp_seq (f9 G b9 [] fun G => b0 (wp_ret (f7 ?_))); exact n5 false G [0, 1] (sb1 (by omega))
theorem a52 (s : b5) : ∀ (t : b5), f6.ok Tryd.prog (ssC s t) :=
 b5.ind (P := fun s => ∀ (t : b5), f6.ok Tryd.prog (ssC s t)) (fun k t i v c b e h1 h2 u => aX4 ⟨k, t, i, v, c, b, e⟩ u (fun m => ao9 b m fun s hs => h1 s hs) fun m => ao9 e m fun s hs => h2 s hs) s
theorem a03 (l m : List b5) : f6.ok Tryd.prog (sbC l m) := ao9 l m fun s _ => a52 s
theorem al0 (xs xt : List Int) (l : List b5) (ys yt : List Int) (m : List b5) : f6.ok Tryd.prog (D8 19 [pA 0, pA 3] [dI xs, dI xt, dT l, dI ys, dI yt, dT m] (bA (decide (xs = ys) && (decide (xt = yt) && m0 l m)))) := by
  refine F0 24 Tryd.func19 [dI xs, dI xt, dT l, dI ys, dI yt, dT m] [(0, pA 0), (1, pA 3)] fun G => ?_; refine wp_seq (j5 G b9 [0, 1, 2, 3, 4, 5, 6, 14] [dI xs, dI xt, dT l, dI ys, dI yt, dT m, .box (pL 0), .box (pL 3)] [(2, .ptr 6 0), (3, .ptr 7 0), (4, bA false)] fun G => b0 (wp_seq ?_)); cases h0 : (decide (xs = ys))
  · have q0 := P3 h0; refine j5 G (s8 (k6 4 [0, 3] (Q9 xs ys) s7) (fc h0 (fc (b := false) rfl fz)) (us [(6, 10, 0), (1011, 1011, 0), (13, 17, 1), (1018, 1018, 1)])) (rg 6) [dI xs, dI xt, dT l, dI ys, dI yt, dT m] [(4, bA false)] fun G => b0 (wp_ret ?_); exact K9 G (rg 6)
  have q0 := P2 h0; cases h1 : (decide (xt = yt))
  · have q1 := P3 h1; refine j5 G (s8 (k6 4 [0, 3] (Q9 xs ys) (k6 10 [1, 4] (Q9 xt yt) s7)) (fc h0 (fc h1 fz)) (us [(6, 10, 0), (1011, 1011, 0), (13, 17, 1), (1018, 1018, 1)])) (rg 6) [dI xs, dI xt, dT l, dI ys, dI yt, dT m] [(4, bA false)] fun G => b0 (wp_ret ?_); exact K9 G (rg 6)
  have q1 := P2 h1; refine j5 G (s8 (k6 4 [0, 3] (Q9 xs ys) (k6 10 [1, 4] (Q9 xt yt) (k6 17 [2, 5] (a03 l m) s7))) (fc h0 (fc h1 fz)) (us [(6, 10, 0), (1011, 1011, 0), (13, 17, 1), (1018, 1018, 1)])) (rg 6) [dI xs, dI xt, dT l, dI ys, dI yt, dT m] [(4, bA (m0 l m))] fun G => b0 (wp_ret ?_); exact K9 G (rg 6)
theorem aL2 (vs ars : List Int) (b : List b5) (hb : vs.length + ars.length + o3 b <= 1048576) : f6.ok Tryd.prog ⟨73, [pA 0], [dI vs, dI ars, dT b], [dI vs, dI ars, dT b, .row 3 (.ints vs), .row 3 (.ints ars), .tree (.stmts b)], oA 3⟩ := aU9 ⟨vs, ars, b⟩ hb
section
variable {vs ars : List Int} {cx : Int} {s : b5} {d : Nat} {b : Bool}
section
variable {nv na d k : Nat} {ss : List b5} {q : Lab} {cx : Int}
end
end
section
variable {p : c9} {q : Lab} {b : List b5} {X : Lab}
end
abbrev O5 : List Int := [3] ++ ([4] ++ ([2] ++ ([5] ++ [])))
abbrev viL : List Int := [0] ++ ([1] ++ ([0] ++ ([1] ++ ([2] ++ ([3] ++ [])))))
abbrev M9 : List Int := [1] ++ ([2] ++ ([0] ++ ([1] ++ [])))
abbrev aiL : List Int := [0] ++ ([1] ++ ([0] ++ ([1] ++ ([3] ++ []))))
abbrev nbL : List Int := [2] ++ ([3] ++ ([1] ++ ([4] ++ [])))
def V7 (b : List UInt8) (l : List Int) (n : Nat) (k : Int) : List Int := (bm3 n).map fun (i : Nat) => nm b (k + (i : Int)) l
theorem R9 (b : List UInt8) (l : List Int) (n : Nat) (k : Int) : (V7 b l n k).length = n := by simp [V7]
theorem aQ4 (b : List UInt8) (l : List Int) (n : Nat) (k : Int) : V7 b l (n + 1) k = V7 b l n k ++ [nm b (k + (n : Int)) l] := by
 unfold V7; rw [List.range_succ, List.map_append]; rfl
def A6 (b : List UInt8) (k : Int) : Int := k + 1 + nm b k O5
def Y3 (b : List UInt8) (k : Int) : Int := A6 b k + 1 + nm b (A6 b k) M9
def R2 (b : List UInt8) (k : Int) : List Int := V7 b viL (nm b k O5).toNat (k + 1)
def asD (b : List UInt8) (k : Int) : List Int := V7 b aiL (nm b (A6 b k) M9).toNat (A6 b k + 1)
def bdD (b : List UInt8) (k : Int) : List b5 × Int := y9 (s4 b (R2 b k).length (asD b k).length 3) (nm b (Y3 b k) nbL).toNat (Y3 b k + 1)
def rwD (b : List UInt8) (k : Int) : c9 := ⟨R2 b k, asD b k, (bdD b k).1⟩
def fbP : c9 := ⟨[0, 1], [], [⟨1, 1, noE, ⟨2, 0, []⟩, 0, [], []⟩]⟩
def pgD (b : List UInt8) (k : Int) : c9 := if o9 (rwD b k) = true then rwD b k else fbP
section
variable (b : List UInt8) {k : Int}
theorem a62 (hk : 0 <= k) (hk2 : k <= 1000000000) : 0 <= nm b k O5 /\ nm b k O5 <= 5 := am2 b (by simp) (by simp) hk hk2
theorem bb8 (hk : 0 <= k) (hk2 : k <= 1000000000) : 0 <= nm b k nbL /\ nm b k nbL <= 4 := am2 b (by simp) (by simp) hk hk2
theorem a67 (hk : 0 <= k) (hk2 : k <= 1000000000) : 0 <= nm b k M9 /\ nm b k M9 <= 2 := am2 b (by simp) (by simp) hk hk2
theorem aR9 (hk : 0 <= k) (hk2 : k <= 10000000) : k + 1 <= A6 b k /\ A6 b k <= k + 6 := by
 have := a62 b hk (by omega); unfold A6; omega
theorem aR8 (hk : 0 <= k) (hk2 : k <= 10000000) : k + 2 <= Y3 b k /\ Y3 b k <= k + 9 := by
 have h1 := aR9 b hk hk2
 have := a67 b (k := A6 b k) (by omega) (by omega); unfold Y3; omega
theorem cS3 : cS 3 = 34170 /\ cS 2 = 8442 := by decide
theorem bj5 (nv na : Nat) : Drw (s4 b nv na 3) 34170 := fun j h1 h2 => by
 have e := cS3.1
 have h3 := at4 b nv na 3 j h1 (by omega)
 have h4 := az3 b nv na 3 j h1 (by omega)
 omega
theorem aV2 (hk : 0 <= k) (hk2 : k <= 10000000) : Y3 b k <= (bdD b k).2 /\ (bdD b k).2 <= k + 150000 /\ o3 (bdD b k).1 <= 150000 := by
 have h1 := aR8 b hk hk2
 have h2 := bb8 b (k := Y3 b k) (by omega) (by omega)
 have h3 := aq8 (f := s4 b (R2 b k).length (asD b k).length 3) (by omega) (bj5 b _ _) (nm b (Y3 b k) nbL).toNat (Y3 b k + 1) (by omega) (by omega)
 unfold bdD
 omega
theorem aM7 (hk : 0 <= k) (hk2 : k <= 10000000) : (R2 b k).length <= 5 := by
 have := a62 b hk (by omega); unfold R2; rw [R9]; omega
theorem aV3 (hk : 0 <= k) (hk2 : k <= 10000000) : (asD b k).length <= 2 := by
 have h1 := aR9 b hk hk2
 have := a67 b (k := A6 b k) (by omega) (by omega); unfold asD; rw [R9]; omega
theorem a57 (hk : 0 <= k) (hk2 : k <= 10000000) : (pgD b k).size <= 160000 := by
 have h1 := aV2 b hk hk2
 have h2 := aM7 b hk hk2
 have h3 := aV3 b hk hk2
 unfold pgD; split
 ·show (R2 b k).length + (asD b k).length + o3 (bdD b k).1 <= 160000
  omega
 decide
end
abbrev m2L : List Int := [0] ++ ([6] ++ ([1] ++ ([5] ++ ([2] ++ []))))
abbrev m3L : List Int := [-1] ++ ([12] ++ ([1] ++ ([9223372036854775807] ++ [])))
abbrev m4L : List Int := [-1] ++ ([256] ++ ([12] ++ ([1] ++ [])))
abbrev m5L : List Int := [1] ++ ([4] ++ ([-1] ++ ([2] ++ [])))
def kdS (s : b5) (x : Int) : b5 := ⟨x, s.target, s.index, s.value, s.count, s.body, s.els⟩
def tgS (s : b5) (x : Int) : b5 := ⟨s.kind, x, s.index, s.value, s.count, s.body, s.els⟩
def vvS (s : b5) (x : Int) : b5 := ⟨s.kind, s.target, s.index, ⟨s.value.kind, x, s.value.kids⟩, s.count, s.body, s.els⟩
def ctS (s : b5) (x : Int) : b5 := ⟨s.kind, s.target, s.index, s.value, x, s.body, s.els⟩
def Y1 (b : List UInt8) (p : c9) (k : Int) : c9 × Int :=
 if pk b k 60 = 0 then (if 0 < p.vars.length then (⟨p.vars.set 0 (l1D b (k + 1)), p.arrays, p.body⟩, k + 1 + 2) else (p, k + 1))
 else if pk b k 60 = 1 then (⟨p.vars ++ bl4 (13 - p.vars.length) 1, p.arrays, p.body⟩, k + 1)
 else if pk b k 60 = 2 then (if 0 < p.body.length then (⟨p.vars, p.arrays, p.body.set 0 (kdS (p.body.getD 0 bj9) (nm b (k + 1) m2L))⟩, k + 1 + 1) else (p, k + 1))
 else if pk b k 60 = 3 then (if 0 < p.body.length then (⟨p.vars, p.arrays, p.body.set ((p.body.length : Int) - 1).toNat (tgS (p.body.getD ((p.body.length : Int) - 1).toNat bj9) (nm b (k + 1) m3L))⟩, k + 1 + 1) else (p, k + 1))
 else if pk b k 60 = 4 then (if 0 < p.body.length then (⟨p.vars, p.arrays, p.body.set 0 (vvS (p.body.getD 0 bj9) (nm b (k + 1) m4L))⟩, k + 1 + 1) else (p, k + 1))
 else if pk b k 60 = 5 then (if 0 < p.body.length then (⟨p.vars, p.arrays, p.body.set 0 (ctS (p.body.getD 0 bj9) (nm b (k + 1) m5L))⟩, k + 1 + 1) else (p, k + 1))
 else if pk b k 60 = 6 then (⟨[], [], []⟩, k + 1)
 else (p, k + 1)
theorem aN1 {l : List b5} {i : Nat} {s : b5} (h : R4 s <= R4 (l.getD i bj9)) : o3 (l.set i s) <= o3 l := by
 induction l generalizing i with
 | nil => simp [o3]
 | cons a r ih =>
  cases i with
  | zero => simp only [List.set_cons_zero, o3]; simp at h; omega
  | succ i =>
   simp only [List.set_cons_succ, o3]
   have := ih (i := i) (by simpa using h)
   omega
theorem a73 (s : b5) (x : Int) : R4 (kdS s x) = R4 s := by cases s; rfl
theorem a44 (s : b5) (x : Int) : R4 (tgS s x) = R4 s := by cases s; rfl
theorem a42 (s : b5) (x : Int) : R4 (vvS s x) = R4 s := by obtain ⟨_, _, _, ⟨_, _, _⟩, _, _, _⟩ := s; rfl
theorem a80 (s : b5) (x : Int) : R4 (ctS s x) = R4 s := by cases s; rfl
theorem aQ6 (b : List UInt8) (p : c9) (k : Int) : (Y1 b p k).1.size <= p.size + 13 /\ k <= (Y1 b p k).2 /\ (Y1 b p k).2 <= k + 3 := by
 have hs : ∀ i s, R4 s = R4 (p.body.getD i bj9) -> o3 (p.body.set i s) <= o3 p.body := fun i s h => aN1 (by omega)
 have h2 := hs 0 _ (a73 (p.body.getD 0 bj9) (nm b (k + 1) m2L))
 have h3 := hs ((p.body.length : Int) - 1).toNat _ (a44 (p.body.getD ((p.body.length : Int) - 1).toNat bj9) (nm b (k + 1) m3L))
 have h4 := hs 0 _ (a42 (p.body.getD 0 bj9) (nm b (k + 1) m4L))
 have h5 := hs 0 _ (a80 (p.body.getD 0 bj9) (nm b (k + 1) m5L))
 unfold Y1
 simp only [c9.size]
 (repeat' split) <;> (simp only [List.length_set, bl6, List.length_replicate, bk7, o3]; omega)
def bsD (c : List UInt8) : List UInt8 := c.take 2000
theorem bh5 {b : List UInt8} {j n : Int} (h : n < 1) : pk b j n = 0 := by unfold pk; rw [if_pos (.inl h)]
theorem bh4 {b : List UInt8} {j n : Int} (h : (b.length : Int) = 0) : pk b j n = 0 := by unfold pk; rw [if_pos (.inr (by omega))]
theorem bh3 {b : List UInt8} {j n : Int} (h : ¬ n < 1) (h1 : ¬ (b.length : Int) = 0) (h2 : j + 1 - 1 < b.length) : pk b j n = ((b.getD (j + 1 - 1).toNat 0).toNat : Int).tmod n := by
 unfold pk; rw [if_neg (by omega), if_pos (by omega), Int.add_sub_cancel]
theorem bh2 {b : List UInt8} {j n : Int} (h : ¬ n < 1) (h1 : ¬ (b.length : Int) = 0) (h2 : ¬ j + 1 - 1 < b.length) : pk b j n = (ay5 (pkX b (j + 1 - 1)) ((pkX b (j + 1 - 1)).tdiv 64)).tmod n := by
 unfold pk; rw [if_neg (by omega), if_neg (by omega), Int.add_sub_cancel]
theorem aJ9 {x : Int} {n : Nat} (hx : 0 <= x) (hn : ¬ (n : Int) = 0) : 0 <= x.tmod n /\ x.tmod n < n /\ (x.tmod n).toNat < n := by
 have := ay7 (x := x) (n := n) hx (by omega); omega
theorem C2 (b : List UInt8) (j n : Int) (r0 : 0 <= j) (r1 : j <= 1000000000) : f6.ok Tryd.prog ⟨43, [.ptr 0 0, iA n], [.box [.ref 1, iA j], dY b], [.box [.ref 1, iA (j + 1)], dY b], iA (pk b j n)⟩ := by
  refine F0 99 Tryd.func43 [.box [.ref 1, iA j], dY b] [(0, .ptr 0 0), (1, iA n)] fun G => ?_; have hu1 := as9 (b.getD ((j + 1 - 1).tmod b.length).toNat 0); have hu2 := as9 (b.getD (((j + 1 - 1) * 7 + 3).tmod b.length).toNat 0); refine wp_seq (f9 G b9 [(4, iA 0)] fun G => b0 (wp_seq (V6 G b9 [0, 1] [.box [.ref 1, iA (j + 1)], dY b] [(0, .ptr 0 0), (1, iA n), (4, iA 0)] [wO (j + 1)] (o1 (by omega)) fun G => b0 (wp_seq (wp_seq ?_))))); cases h0 : (decide (n < 1))
  ·
   have q0 := P3 h0; refine f9 G (B9 (fc h0 fz) (us [(3, 8, 0), (1009, 1009, 0)])) [(24, bA ((b.length : Int) == 0))] fun G => b0 (X5 G (fun h1 q1 => ?_) fun h1 q1 => ?_)
   ·
    refine wp_skip (b0 (wp_seq (J1 G b9 [(5, iA (j + 1 - 1))] [wO (j + 1 - 1)] (o1 (by omega)) fun G => b0 (wp_seq (wp_seq (f9 G b9 [(36, bA (decide (j + 1 - 1 < (b.length : Int))))] fun G => b0 (V5 G (fun h2 q2 => ?_) fun h2 q2 => ?_)))))))
    ·
     refine wp_skip (b0 (wp_seq (ap2 G b9 [0, 1, 3, 7, 0, 0, 32, 96, 224, 480, 1008, 2047, 4095, 8191, 16383, 0, 32768, 98304, 229376, 0, 524288, 1572864, 0, 4194304, 12582912, 29360128, 62914560, 133693440, 268402688, 536838144, 1073709056, 2147450880, 4294967295, 0, 8589934592, 34359738367, 0, 0, 137438953472, 412316860416, 962072674304, 2061584302080, 4329327034368, 8727373545472, 17592186044415, 35184372088831] [(6, iA (((b.getD ((j + 1 - 1).tmod (b.length : Int)).toNat 0).toNat : Int) * 131 + ((b.getD (((j + 1 - 1) * 7 + 3).tmod (b.length : Int)).toNat 0).toNat : Int) * 1117 + (j + 1 - 1) * 29 + (j + 1 - 1).tdiv (b.length : Int) * 53))] [(b.length : Int) ≠ 0, (0 : Int) <= (j + 1 - 1).tmod (b.length : Int), (j + 1 - 1).tmod (b.length : Int) < b.length, ((j + 1 - 1).tmod (b.length : Int)).toNat < b.length, IntKind.i64.wrap ((b.getD ((j + 1 - 1).tmod (b.length : Int)).toNat (0 : UInt8)).toNat : Int) = ((b.getD ((j + 1 - 1).tmod (b.length : Int)).toNat (0 : UInt8)).toNat : Int), wO (((b.getD ((j + 1 - 1).tmod (b.length : Int)).toNat (0 : UInt8)).toNat : Int) * 131), wO ((j + 1 - 1) * 7), wO ((j + 1 - 1) * 7 + 3), (b.length : Int) ≠ 0, (0 : Int) <= ((j + 1 - 1) * 7 + 3).tmod (b.length : Int), ((j + 1 - 1) * 7 + 3).tmod (b.length : Int) < b.length, (((j + 1 - 1) * 7 + 3).tmod (b.length : Int)).toNat < b.length, IntKind.i64.wrap ((b.getD (((j + 1 - 1) * 7 + 3).tmod (b.length : Int)).toNat (0 : UInt8)).toNat : Int) = ((b.getD (((j + 1 - 1) * 7 + 3).tmod (b.length : Int)).toNat (0 : UInt8)).toNat : Int), wO (((b.getD (((j + 1 - 1) * 7 + 3).tmod (b.length : Int)).toNat (0 : UInt8)).toNat : Int) * 1117), wO (((b.getD ((j + 1 - 1).tmod (b.length : Int)).toNat (0 : UInt8)).toNat : Int) * 131 + ((b.getD (((j + 1 - 1) * 7 + 3).tmod (b.length : Int)).toNat (0 : UInt8)).toNat : Int) * 1117), wO ((j + 1 - 1) * 29), wO (((b.getD ((j + 1 - 1).tmod (b.length : Int)).toNat (0 : UInt8)).toNat : Int) * 131 + ((b.getD (((j + 1 - 1) * 7 + 3).tmod (b.length : Int)).toNat (0 : UInt8)).toNat : Int) * 1117 + (j + 1 - 1) * 29), (b.length : Int) ≠ 0, wO ((j + 1 - 1).tdiv (b.length : Int)), wO ((j + 1 - 1).tdiv (b.length : Int) * 53), wO (((b.getD ((j + 1 - 1).tmod (b.length : Int)).toNat (0 : UInt8)).toNat : Int) * 131 + ((b.getD (((j + 1 - 1) * 7 + 3).tmod (b.length : Int)).toNat (0 : UInt8)).toNat : Int) * 1117 + (j + 1 - 1) * 29 + (j + 1 - 1).tdiv (b.length : Int) * 53)] ⟨(by assumption), ((aJ9 (by omega) (by omega)).1), ((aJ9 (by omega) (by omega)).2.1), ((aJ9 (by omega) (by omega)).2.2), (w64 (by omega) (by omega)), (oW (by omega)), (oW (by omega)), (oW (by omega)), (by assumption), ((aJ9 (by omega) (by omega)).1), ((aJ9 (by omega) (by omega)).2.1), ((aJ9 (by omega) (by omega)).2.2), (w64 (by omega) (by omega)), (oW (by omega)), (oW (by omega)), (oW (by omega)), (oW (by omega)), (by assumption), (by have := au7 (b := b) (k := j + 1 - 1) (by omega) (by omega) (by omega); exact w64 (by unfold pkX at this; omega) (by unfold pkX at this; omega)), (by have := au7 (b := b) (k := j + 1 - 1) (by omega) (by omega) (by omega); exact w64 (by unfold pkX at this; omega) (by unfold pkX at this; omega)), (by have := au7 (b := b) (k := j + 1 - 1) (by omega) (by omega) (by omega); exact w64 (by unfold pkX at this; omega) (by unfold pkX at this; omega)), bm6⟩ fun G => ?_)))
     refine b0 (wp_seq (J1 G b9 [(6, iA (ay5 (((b.getD ((j + 1 - 1).tmod (b.length : Int)).toNat 0).toNat : Int) * 131 + ((b.getD (((j + 1 - 1) * 7 + 3).tmod (b.length : Int)).toNat 0).toNat : Int) * 1117 + (j + 1 - 1) * 29 + (j + 1 - 1).tdiv (b.length : Int) * 53) ((((b.getD ((j + 1 - 1).tmod (b.length : Int)).toNat 0).toNat : Int) * 131 + ((b.getD (((j + 1 - 1) * 7 + 3).tmod (b.length : Int)).toNat 0).toNat : Int) * 1117 + (j + 1 - 1) * 29 + (j + 1 - 1).tdiv (b.length : Int) * 53).tdiv 64)))] [(64 : Int) ≠ 0, wO ((((b.getD ((j + 1 - 1).tmod (b.length : Int)).toNat (0 : UInt8)).toNat : Int) * 131 + ((b.getD (((j + 1 - 1) * 7 + 3).tmod (b.length : Int)).toNat (0 : UInt8)).toNat : Int) * 1117 + (j + 1 - 1) * 29 + (j + 1 - 1).tdiv (b.length : Int) * 53).tdiv (64 : Int))] ⟨(by omega), (by have := a26 (b := b) (k := j + 1 - 1) (by omega) (by omega) (by omega); exact w64 (by unfold pkX at this; omega) (by unfold pkX at this; omega)), bm6⟩ fun G => b0 (wp_seq (J1 G b9 [(4, iA ((ay5 (((b.getD ((j + 1 - 1).tmod (b.length : Int)).toNat 0).toNat : Int) * 131 + ((b.getD (((j + 1 - 1) * 7 + 3).tmod (b.length : Int)).toNat 0).toNat : Int) * 1117 + (j + 1 - 1) * 29 + (j + 1 - 1).tdiv (b.length : Int) * 53) ((((b.getD ((j + 1 - 1).tmod (b.length : Int)).toNat 0).toNat : Int) * 131 + ((b.getD (((j + 1 - 1) * 7 + 3).tmod (b.length : Int)).toNat 0).toNat : Int) * 1117 + (j + 1 - 1) * 29 + (j + 1 - 1).tdiv (b.length : Int) * 53).tdiv 64)).tmod n))] [n ≠ 0] ⟨(by omega), bm6⟩ fun G => b0 (wp_ret ?_))))); exact rxI ((ay5 (((b.getD ((j + 1 - 1).tmod (b.length : Int)).toNat 0).toNat : Int) * 131 + ((b.getD (((j + 1 - 1) * 7 + 3).tmod (b.length : Int)).toNat 0).toNat : Int) * 1117 + (j + 1 - 1) * 29 + (j + 1 - 1).tdiv (b.length : Int) * 53) ((((b.getD ((j + 1 - 1).tmod (b.length : Int)).toNat 0).toNat : Int) * 131 + ((b.getD (((j + 1 - 1) * 7 + 3).tmod (b.length : Int)).toNat 0).toNat : Int) * 1117 + (j + 1 - 1) * 29 + (j + 1 - 1).tdiv (b.length : Int) * 53).tdiv 64)).tmod n) G [0, 1] (bh2 (by omega) (by omega) (by omega))
    refine wp_seq (J1 G b9 [(4, iA (((b.getD (j + 1 - 1).toNat 0).toNat : Int).tmod n))] (iX (j + 1 - 1) ((j + 1 - 1).toNat) b.length ((IntKind.i64.wrap ((b.getD (j + 1 - 1).toNat (0 : UInt8)).toNat : Int) = ((b.getD (j + 1 - 1).toNat (0 : UInt8)).toNat : Int)) :: ((n ≠ 0) :: []))) (iK (by omega) ⟨(by have := as9 (b.getD (j + 1 - 1).toNat 0); exact w64 (by omega) (by omega)), ⟨(by omega), bm6⟩⟩) fun G => b0 (wp_ret (f7 ?_))); exact rxI (((b.getD (j + 1 - 1).toNat 0).toNat : Int).tmod n) G [0, 1] (bh3 (by omega) (by omega) (by omega))
   refine wp_seq (f9 G b9 [] fun G => b0 (wp_ret (f7 ?_))); exact rxI 0 G [0, 1] (bh4 (by omega))
  have q0 := P2 h0; refine f9 G (B9 (fc h0 fz) (us [(3, 8, 0), (1009, 1009, 0)])) [(24, bA true)] fun G => b0 (rT G true (by kernel_rfl) (wp_seq (f9 G b9 [] fun G => b0 (wp_ret (f7 ?_))))); exact rxI 0 G [0, 1] (bh5 (by omega))
theorem E5 (b : List UInt8) (j : Int) (l : List Int) (hl : l ≠ []) (r0 : 0 <= j) (r1 : j <= 1000000000) : f6.ok Tryd.prog ⟨60, [.ptr 0 0, .ref 2], [.box [.ref 1, iA j], dY b, dI l], [.box [.ref 1, iA (j + 1)], dY b, dI l], iA (nm b j l)⟩ := by
 refine F0 12 Tryd.func60 [.box [.ref 1, iA j], dY b, dI l] [(0, .ptr 0 0), (1, .ref 2)] fun G => ?_; refine wp_seq (f9 G b9 [(4, iA 0)] fun G => b0 (wp_seq (V6 G (B3 4 [0, 1] (C2 b j ((l.length : Int)) (by assumption) (by assumption))) [0, 1, 2] [.box [.ref 1, iA (j + 1)], dY b, dI l] [(4, iA (l.getD (pk b j (l.length : Int)).toNat 0))] [(0 : Int) <= pk b j (l.length : Int), pk b j (l.length : Int) < l.length, (pk b j (l.length : Int)).toNat < l.length] ⟨((aG7 b r0 r1 hl).1), ((aG7 b r0 r1 hl).2.1), ((aG7 b r0 r1 hl).2.2), bm6⟩ fun G => b0 (wp_ret ?_)))); exact K9 G [0, 1, 2]
theorem aV0 (b : List UInt8) (j : Int) (r0 : 0 <= j) (r1 : j <= 900000000) : f6.ok Tryd.prog ⟨74, [.ptr 0 0], [.box [.ref 1, iA j], dY b], [.box [.ref 1, iA (j + 2)], dY b], iA (l1D b j)⟩ := by
 refine F0 11 Tryd.func74 [.box [.ref 1, iA j], dY b] [(0, .ptr 0 0)] fun G => ?_; refine wp_seq (f9 G b9 [(2, iA 0)] fun G => b0 (wp_seq (wp_seq (j5 G (B3 1 [0, 1] (C2 b j 12 (by assumption) (by omega))) [0, 1] [.box [.ref 1, iA (j + 1)], dY b] [(0, .ptr 0 0), (2, iA 0), (5, bA (pk b j 12 == 0))] fun G => b0 (X5 G (fun h0 q0 => ?_) fun h0 q0 => ?_)))))
 ·refine wp_skip (b0 (wp_seq (j5 G (B3 1 [0, 1] (C2 b (j + 1) 4 (by omega) (by omega))) [0, 1] [.box [.ref 1, iA (j + 1 + 1)], dY b] [(2, iA (pk b (j + 1) 4))] fun G => b0 (wp_ret ?_)))); exact rxI (pk b (j + 1) 4) G [0, 1] (by unfold l1D; rw [if_neg (by omega)]; done) (by show _ = mR [0, 1] [.box [.ref 1, iA (j + 2)], dY b]; have e1 : (j + 2 : Int) = (j + 1 + 1) := (by omega); (first | rw [e1] | simp only [e1]) <;> rfl)
 refine wp_seq (j5 G (B3 2 [0, 1, 10] (f6.lend (E5 b (j + 1) l1L (by simp [h0]) (by omega) (by omega)) [.no, .no, .row 3])) [0, 1] [.box [.ref 1, iA (j + 1 + 1)], dY b] [(0, .ptr 0 0), (2, iA (nm b (j + 1) l1L))] fun G => b0 (wp_ret (f7 ?_))); exact rxI (nm b (j + 1) l1L) G [0, 1] (by unfold l1D; rw [if_pos (by omega)]; done) (by show _ = mR [0, 1] [.box [.ref 1, iA (j + 2)], dY b]; have e1 : (j + 2 : Int) = (j + 1 + 1) := (by omega); (first | rw [e1] | simp only [e1]) <;> rfl)
theorem aD3 (c : List UInt8) (hc : c.length <= 2000) : f6.ok Tryd.prog ⟨41, [.ref 0], [dY c], [dY c, .box [.ref 0, iA 0]], .ptr 1 0⟩ := by
 refine F0 11 Tryd.func41 [dY c] [(0, .ref 0)] fun G => ?_; refine wp_seq (f9 G b9 [(2, .v (.pointer none))] fun G => b0 (wp_seq (wp_seq (J2 G b9 [(0, .ref 0), (2, .v (.pointer none)), (5, bA (decide ((c.length : Int) > 2000)))] fun G => b0 ?_)))); cases h0 : (decide ((c.length : Int) > 2000))
 ·have q0 := P3 h0; refine rF G _ h0 (wp_skip (b0 (wp_seq (j5 G b9 [0, 17] [dY c, .box [.ref 0, iA 0]] [(2, .ptr 1 0)] fun G => b0 (wp_ret ?_))))); exact K9 G [0, 1]
 have q0 := P2 h0; exact False.elim (by omega)
theorem aD2 (c : List UInt8) (hc : 2000 < c.length) : f6.ok Tryd.prog ⟨41, [.ref 0], [dY c], [dY c, .box [.ref 2, iA 0], dY ((c.take 2000).drop 0)], .ptr 1 0⟩ := by
 refine F0 11 Tryd.func41 [dY c] [(0, .ref 0)] fun G => ?_; refine wp_seq (f9 G b9 [(2, .v (.pointer none))] fun G => b0 (wp_seq (wp_seq (J2 G b9 [(0, .ref 0), (2, .v (.pointer none)), (5, bA (decide ((c.length : Int) > 2000)))] fun G => b0 ?_)))); cases h0 : (decide ((c.length : Int) > 2000))
 ·have q0 := P3 h0; exact False.elim (by omega)
 have q0 := P2 h0; refine rT G _ h0 (V6 G b9 [0, 9] [dY c, dY (List.drop 0 (bl3 (Int.toNat 2000) c))] [(0, .ref 1), (2, .v (.pointer none))] [(0 : Int) <= 2000, (2000 : Int) <= c.length] ⟨(by omega), (by omega), bm6⟩ fun G => b0 (wp_seq (j5 G b9 [0, 1, 18] [dY c, dY (List.drop 0 (bl3 (Int.toNat 2000) c)), .box [.ref 1, iA 0]] [(2, .ptr 2 0)] fun G => b0 (wp_ret ?_)))); exact K9 G [0, 2, 1]
abbrev dwS (b : List UInt8) (j : Int) (vs ars : List Int) (bd : List b5) : List It := [.box [.ref 1, iA j], dY b, dI vs, dI ars, dT bd]
abbrev exO (e : b6) : List It := [.tree (.exprs e.kids)]
abbrev exA (e : b6) (r : Nat) : AV := .agg [iA e.kind, iA e.value, .tref r]
theorem be8 {b : List UInt8} {nv j : Int} (h : pk b j 3 = 0) : j0 b nv j = ⟨1, nm b (j + 1) atL, []⟩ := if_pos h
theorem be7 {b : List UInt8} {nv j : Int} (h : ¬ pk b j 3 = 0) : j0 b nv j = ⟨2, pk b (j + 1) nv, []⟩ := if_neg h
theorem ab4 (b : List UInt8) (j : Int) (vs ars : List Int) (bd : List b5) (r0 : 0 <= j) (r1 : j <= 900000000) : f6.ok Tryd.prog ⟨85, [.ptr 0 0, pA 2], dwS b j vs ars bd, dwS b (j + 2) vs ars bd ++ exO (j0 b vs.length j), exA (j0 b vs.length j) 5⟩ := by
 refine F0 18 Tryd.func85 [.box [.ref 1, iA j], dY b, dI vs, dI ars, dT bd] [(0, .ptr 0 0), (1, pA 2)] fun G => ?_; refine wp_seq (j5 G b9 [0, 1, 2, 3, 4, 5, 13] [.box [.ref 1, iA j], dY b, dI vs, dI ars, dT bd, .box (pL 2), .box [iA 0, iA 0, .v (.slice none 0 0)]] [(0, .ptr 0 0), (3, .ptr 5 0), (4, .ptr 6 0)] fun G => b0 (wp_seq (wp_seq (j5 G (B3 1 [0, 1] (C2 b j 3 (by assumption) (by omega))) (rg 7) [.box [.ref 1, iA (j + 1)], dY b, dI vs, dI ars, dT bd, .box (pL 2), .box [iA 0, iA 0, .v (.slice none 0 0)]] [(0, .ptr 0 0), (3, .ptr 5 0), (4, .ptr 6 0), (7, bA (pk b j 3 == 0))] fun G => b0 (X5 G (fun h0 q0 => ?_) fun h0 q0 => ?_)))))
 ·refine wp_skip (b0 (wp_seq (j5 G (B3 4 [0, 1] (C2 b (j + 1) ((vs.length : Int)) (by omega) (by omega))) [0, 1, 2, 3, 4, 6] [.box [.ref 1, iA (j + 1 + 1)], dY b, dI vs, dI ars, dT bd, .box [iA 2, iA (pk b (j + 1) (vs.length : Int)), .v (.slice none 0 0)]] [(4, .ptr 5 0)] fun G => b0 (wp_ret ?_)))); obtain ⟨ρ, G⟩ := G.nilT 6 (.exprs []) [.box [.ref 1, iA (j + 1 + 1)], dY b, dI vs, dI ars, dT bd, .box [iA 2, iA (pk b (j + 1) (vs.length : Int)), .tref 6]] [(4, .ptr 5 0)]; exact rxv (.agg [iA 2, iA (pk b (j + 1) (vs.length : Int)), .tref 6]) G [0, 1, 2, 3, 4, 6] (by show _ = AV.ren (nth [0, 1, 2, 3, 4, 6]) (.agg [iA (j0 b (vs.length : Int) j).kind, iA (j0 b (vs.length : Int) j).value, .tref 5]); rw [be7 (by omega)] <;> rfl) (by show _ = mR [0, 1, 2, 3, 4, 6] [.box [.ref 1, iA (j + 2)], dY b, dI vs, dI ars, dT bd, .tree (D.exprs (j0 b (vs.length : Int) j).kids)]; have e1 : (j + 2 : Int) = (j + 1 + 1) := (by omega); rw [e1, be7 (by omega)] <;> rfl)
 refine wp_seq (j5 G (B3 2 [0, 1, 15] (f6.lend (E5 b (j + 1) atL (by simp [h0]) (by omega) (by omega)) [.no, .no, .row 3])) (rg 7) [.box [.ref 1, iA (j + 1 + 1)], dY b, dI vs, dI ars, dT bd, .box (pL 2), .box [iA 1, iA (nm b (j + 1) atL), .v (.slice none 0 0)]] [(0, .ptr 0 0), (3, .ptr 5 0), (4, .ptr 6 0)] fun G => b0 (wp_ret (f7 ?_))); obtain ⟨ρ, G⟩ := G.nilT 7 (.exprs []) [.box [.ref 1, iA (j + 1 + 1)], dY b, dI vs, dI ars, dT bd, .box (pL 2), .box [iA 1, iA (nm b (j + 1) atL), .tref 7]] [(0, .ptr 0 0), (3, .ptr 5 0), (4, .ptr 6 0)]; exact rxv (.agg [iA 1, iA (nm b (j + 1) atL), .tref 7]) G [0, 1, 2, 3, 4, 7] (by show _ = AV.ren (nth [0, 1, 2, 3, 4, 7]) (.agg [iA (j0 b (vs.length : Int) j).kind, iA (j0 b (vs.length : Int) j).value, .tref 5]); rw [be8 (by omega)] <;> rfl) (by show _ = mR [0, 1, 2, 3, 4, 7] [.box [.ref 1, iA (j + 2)], dY b, dI vs, dI ars, dT bd, .tree (D.exprs (j0 b (vs.length : Int) j).kids)]; have e1 : (j + 2 : Int) = (j + 1 + 1) := (by omega); rw [e1, be8 (by omega)] <;> rfl)
theorem aD0 (vs ars : List Int) (bd : List b5) (e : b6) : f6.ok Tryd.prog (D8 37 [pA 0, eA e 3] ([dI vs, dI ars, dT bd] ++ eS e) (bA (c7 vs.length ars.length e))) := A7 ⟨vs, ars, bd⟩ e
abbrev drC (b : List UInt8) (vs ars : List Int) (bd : List b5) (d : Nat) (j n : Int) : f6 := ⟨84, [.ptr 0 0, pA 2, iA n], dwS b j vs ars bd, dwS b (C1 b vs.length ars.length d j).2 vs ars bd ++ exO (C1 b vs.length ars.length d j).1, exA (C1 b vs.length ars.length d j).1 5⟩
section
variable {b : List UInt8} {nv na : Int} {d : Nat} {j : Int}
theorem bd5 (h : d < 2) : C1 b nv na d j = (j0 b nv j, j + 2) := by
 match d, h with
 | 0, _ => rfl
 | 1, _ => simp [C1]
theorem a75 (h : 0 < d) (h1 : pk b j 4 = 0) : C1 b nv na (d + 1) j = (j0 b nv (j + 1), j + 3) := by rw [C1, if_neg (by omega), if_pos h1]
theorem aZ7 (h : 0 < d) (h1 : ¬ pk b j 4 = 0) (h2 : nm b (j + 1) D0 = 3) (h3 : na = 0) : C1 b nv na (d + 1) j = (j0 b nv (j + 2), j + 4) := by rw [C1, if_neg (by omega), if_neg h1, if_pos h2, if_pos h3]
theorem aZ6 (h : 0 < d) (h1 : ¬ pk b j 4 = 0) (h2 : nm b (j + 1) D0 = 3) (h3 : ¬ na = 0) : C1 b nv na (d + 1) j = (⟨3, pk b (j + 2) na, [j0 b nv (j + 3)]⟩, j + 5) := by rw [C1, if_neg (by omega), if_neg h1, if_pos h2, if_neg h3]
abbrev drK (b : List UInt8) (nv na : Int) (d : Nat) (j : Int) (k : Nat) : List b6 × Int := y9 (C1 b nv na d) k (j + 2)
theorem bd4 (h : 0 < d) (h1 : ¬ pk b j 4 = 0) (h2 : ¬ nm b (j + 1) D0 = 3) {m : Int} (h3 : 0 <= m) (h4 : ¬ m > 0) : C1 b nv na (d + 1) j = (⟨nm b (j + 1) D0, 0, (drK b nv na d j (e7 (nm b (j + 1) D0) - m).toNat).1⟩, (drK b nv na d j (e7 (nm b (j + 1) D0) - m).toNat).2) := by
 have e : m = 0 := by omega
 rw [e, Int.sub_zero, C1, if_neg (by omega), if_neg h1, if_neg h2]
theorem aH9 {x m : Int} (h3 : m > 0) (h4 : m <= x) : drK b nv na d j (x - (m - 1)).toNat = ((drK b nv na d j (x - m).toNat).1 ++ [(C1 b nv na d (drK b nv na d j (x - m).toNat).2).1], (C1 b nv na d (drK b nv na d j (x - m).toNat).2).2) := by
 rw [show (x - (m - 1)).toNat = (x - m).toNat + 1 by omega]; rfl
theorem be9 (r0 : 0 <= j) (r1 : j <= 900000000) : 0 <= e7 (nm b (j + 1) D0) /\ e7 (nm b (j + 1) D0) <= 3 := by
 have h := ap9 b (k := j + 1) (l := D0) (by omega) (by omega) (by simp)
 simp only [bm1, bn2, List.not_mem_nil, or_false] at h
 rcases h with h | h | h | h | h | h | h | h | h <;> rw [h] <;> decide
theorem bd7 (r0 : 0 <= j) {k : Nat} (hk : k <= 3) : j + 2 <= (drK b nv na d j k).2 /\ (drK b nv na d j k).2 <= j + 2 + 3 * cE d := by
 have hc := aj8 d
 have h := aT6 (f := C1 b nv na d) (c := cE d) (m := 3) (by omega) k (j + 2) hk fun i _ _ => aw5 b nv na d i
 have h4 : (k : Int) * cE d <= 3 * cE d := bn9 (by omega) (by omega)
 unfold drK; omega
theorem bd6 {x m : Int} (r0 : 0 <= j) (h3 : m > 0) (h4 : m <= x) (h5 : x <= 3) (r1 : j + cE (d + 1) <= 800000000) : (drK b nv na d j (x - m).toNat).2 + cE d <= 800000000 := by
 have hc := aj8 d
 have hce : cE (d + 1) = 5 + 3 * cE d := rfl
 have hm : (x - m).toNat <= 2 := by omega
 have h := aT6 (f := C1 b nv na d) (c := cE d) (m := 2) (by omega) (x - m).toNat (j + 2) hm fun i _ _ => aw5 b nv na d i
 have h4 : ((x - m).toNat : Int) * cE d <= 2 * cE d := bn9 (by omega) (by omega)
 unfold drK; omega
end
theorem aF7 (b : List UInt8) (vs ars : List Int) (bd : List b5) (d : Nat) (hd : d < 2) (j n : Int) (hn : n = d) (r0 : 0 <= j) (r1 : j <= 900000000) : f6.ok Tryd.prog (drC b vs ars bd d j n) := by
 refine F0 62 Tryd.func84 [.box [.ref 1, iA j], dY b, dI vs, dI ars, dT bd] [(0, .ptr 0 0), (1, pA 2), (2, iA n)] fun G => ?_; refine wp_seq (j5 G b9 [0, 1, 2, 3, 4, 5, 13] [.box [.ref 1, iA j], dY b, dI vs, dI ars, dT bd, .box (pL 2), .box [iA 0, iA 0, .v (.slice none 0 0)]] [(0, .ptr 0 0), (2, iA n), (4, .ptr 5 0), (6, .ptr 6 0)] fun G => b0 (wp_seq (wp_seq ?_))); cases h0 : (decide (n < 2))
 ·have q0 := P3 h0; exact False.elim (by omega)
 have q0 := P2 h0; refine f9 G (B9 (fc h0 fz) [(3, 0), (4, 0), (5, 0), (1006, 0)]) [(16, bA true)] fun G => b0 (rT G true (by kernel_rfl) (wp_seq (j5 G (B3 2 (rg 5) (ab4 b j vs ars bd (by assumption) (by assumption))) [0, 1, 2, 3, 4, 5, 6, 23] [.box [.ref 1, iA (j + 2)], dY b, dI vs, dI ars, dT bd, .box (pL 2), .box [iA (j0 b (vs.length : Int) j).kind, iA (j0 b (vs.length : Int) j).value, .tref 7], .tree (D.exprs (j0 b (vs.length : Int) j).kids)] [(0, .ptr 0 0), (2, iA n), (4, .ptr 5 0), (6, .ptr 6 0)] fun G => b0 (wp_ret (f7 ?_))))); exact rxv (.agg [iA (j0 b (vs.length : Int) j).kind, iA (j0 b (vs.length : Int) j).value, .tref 7]) G [0, 1, 2, 3, 4, 7] (by show _ = AV.ren (nth [0, 1, 2, 3, 4, 7]) (.agg [iA (C1 b (vs.length : Int) (ars.length : Int) d j).fst.kind, iA (C1 b (vs.length : Int) (ars.length : Int) d j).fst.value, .tref 5]); rw [bd5 hd] <;> rfl) (by show _ = mR [0, 1, 2, 3, 4, 7] [.box [.ref 1, iA (C1 b (vs.length : Int) (ars.length : Int) d j).snd], dY b, dI vs, dI ars, dT bd, .tree (D.exprs (C1 b (vs.length : Int) (ars.length : Int) d j).fst.kids)]; rw [bd5 hd] <;> rfl)
abbrev af6 (b : List UInt8) (vs : List Int) (ars : List Int) (d : Nat) (j : Int) (k : Int) := drK b (vs.length : Int) (ars.length : Int) d j (e7 (nm b (j + 1) D0) - k).toNat
abbrev ac4 (b : List UInt8) (vs : List Int) (ars : List Int) (d : Nat) (j : Int) : AV := (.agg [iA (C1 b (vs.length : Int) (ars.length : Int) (d + 1) j).fst.kind, iA (C1 b (vs.length : Int) (ars.length : Int) (d + 1) j).fst.value, .tref 5])
abbrev ac3 (b : List UInt8) (vs : List Int) (ars : List Int) (bd : List b5) (d : Nat) (j : Int) : List It := [.box [.ref 1, iA (C1 b (vs.length : Int) (ars.length : Int) (d + 1) j).snd], dY b, dI vs, dI ars, dT bd, .tree (D.exprs (C1 b (vs.length : Int) (ars.length : Int) (d + 1) j).fst.kids)]
abbrev al5 : It := .box [iA 0, iA 0, .v (.slice none 0 0)]
abbrev O3 (n : Int) (r0 : List (Nat × AV)) : List (Nat × AV) := (0, .ptr 0 0) :: (2, iA n) :: (4, .ptr 5 0) :: (6, .ptr 6 0) :: r0
theorem aX5 (b : List UInt8) (vs ars : List Int) (bd : List b5) (d : Nat) (hd : 0 < d) (hd2 : d <= 100) (ih : ∀ (j n : Int), n = d -> 0 <= j -> j + cE d <= 800000000 -> f6.ok Tryd.prog (drC b vs ars bd d j n)) (j n : Int) (hn : n = ((d + 1 : Nat) : Int)) (r0 : 0 <= j) (r1 : j + cE (d + 1) <= 800000000) : f6.ok Tryd.prog (drC b vs ars bd (d + 1) j n) := by
  refine F0 62 Tryd.func84 [.box [.ref 1, iA j], dY b, dI vs, dI ars, dT bd] [(0, .ptr 0 0), (1, pA 2), (2, iA n)] fun G => ?_; have hc := aj8 d; have hce : cE (d + 1) = 5 + 3 * cE d := rfl; have har := be9 (b := b) (j := j) r0 (by omega); refine wp_seq (j5 G b9 [0, 1, 2, 3, 4, 5, 13] [.box [.ref 1, iA j], dY b, dI vs, dI ars, dT bd, .box (pL 2), al5] (O3 n []) fun G => b0 (wp_seq (wp_seq ?_))); cases h0 : (decide (n < 2))
  ·
   have q0 := P3 h0; refine j5 G (s8 (k6 4 [0, 1] (C2 b j 4 (by assumption) (by omega)) s7) (fc h0 fz) [(3, 0), (4, 0), (5, 0), (1006, 0)]) (rg 7) [.box [.ref 1, iA (j + 1)], dY b, dI vs, dI ars, dT bd, .box (pL 2), al5] (O3 n [(16, bA (pk b j 4 == 0))]) fun G => b0 (X5 G (fun h1 q1 => ?_) fun h1 q1 => ?_)
   ·
    refine wp_skip (b0 (wp_seq (j5 G (B3 2 [0, 1, 15] (f6.lend (E5 b (j + 1) D0 (by simp [h0, h1]) (by omega) (by omega)) [.no, .no, .row 3])) (rg 7) [.box [.ref 1, iA (j + 1 + 1)], dY b, dI vs, dI ars, dT bd, .box (pL 2), al5] (O3 n [(7, iA (nm b (j + 1) D0))]) fun G => b0 (wp_seq (wp_seq (f9 G b9 [(24, bA (nm b (j + 1) D0 == 3))] fun G => b0 (X5 G (fun h2 q2 => ?_) fun h2 q2 => ?_)))))))
    ·
     refine wp_skip (b0 (wp_seq (j5 G b9 [0, 1, 2, 3, 4, 5, 6, 23] [.box [.ref 1, iA (j + 1 + 1)], dY b, dI vs, dI ars, dT bd, .box (pL 2), al5, .box [iA (nm b (j + 1) D0), iA 0, .v (.slice none 0 0)]] (O3 n [(7, iA (nm b (j + 1) D0)), (8, .ptr 7 0)]) fun G => b0 (wp_seq (wp_seq (J2 G (B3 1 [] (S8 (nm b (j + 1) D0))) (O3 n [(8, .ptr 7 0), (9, iA (e7 (nm b (j + 1) D0)))]) fun G => b0 (wp_block ?_))))))); obtain ⟨ρ, G⟩ := G.nilT 8 (.exprs []) [.box [.ref 1, iA (j + 1 + 1)], dY b, dI vs, dI ars, dT bd, .box (pL 2), .box [iA 0, iA 0, .v (.slice none 0 0)], .box [iA (nm b (j + 1) D0), iA 0, .tref 8]] (O3 n [(8, .ptr 7 0), (9, iA (e7 (nm b (j + 1) D0)))]); replace G := G.as [.box [.ref 1, iA (drK b (vs.length : Int) (ars.length : Int) d j (e7 (nm b (j + 1) D0) - e7 (nm b (j + 1) D0)).toNat).snd], dY b, dI vs, dI ars, dT bd, .box (pL 2), .box [iA 0, iA 0, .v (.slice none 0 0)], .box [iA (nm b (j + 1) D0), iA 0, .tref 8], .tree (D.exprs (drK b (vs.length : Int) (ars.length : Int) d j (e7 (nm b (j + 1) D0) - e7 (nm b (j + 1) D0)).toNat).fst)] (O3 n [(8, .ptr 7 0), (9, iA (e7 (nm b (j + 1) D0)))]) (by have e1 : ((drK b (vs.length : Int) (ars.length : Int) d j (e7 (nm b (j + 1) D0) - e7 (nm b (j + 1) D0)).toNat).snd : Int) = (j + 1 + 1) := (by rw [Int.sub_self]; show j + 2 = j + 1 + 1; omega); have e2 : ((drK b (vs.length : Int) (ars.length : Int) d j (e7 (nm b (j + 1) D0) - e7 (nm b (j + 1) D0)).toNat).fst : List b6) = ([]) := (by rw [Int.sub_self]; rfl); (first | rw [e1, e2] | simp only [e1, e2]) <;> rfl) (by kernel_rfl); refine x3 (κ := Int) (fun k => 0 <= k /\ k <= e7 (nm b (j + 1) D0)) (fun k => k.toNat) (fun k => [.box [.ref 1, iA (drK b vs.length ars.length d j (e7 (nm b (j + 1) D0) - k).toNat).2], dY b, dI vs, dI ars, dT bd, .box (pL 2), .box [iA 0, iA 0, .v (.slice none 0 0)], .box [iA (nm b (j + 1) D0), iA 0, .tref 8], .tree (.exprs (drK b vs.length ars.length d j (e7 (nm b (j + 1) D0) - k).toNat).1)]) (fun k => [(0, .ptr 0 0), (2, iA n), (4, .ptr 5 0), (6, .ptr 6 0), (8, .ptr 7 0), (9, iA k)]) (e7 (nm b (j + 1) D0)) (by omega) (o8.at G _ _) ?_; clear G; intro k ρ a w hp G; replace G := o8.at G [.box [.ref 1, iA (af6 b vs ars d j k).snd], dY b, dI vs, dI ars, dT bd, .box (pL 2), al5, .box [iA (nm b (j + 1) D0), iA 0, .tref 8], .tree (D.exprs (af6 b vs ars d j k).fst)] (O3 n [(8, .ptr 7 0), (9, iA k)]); have hkb := bd7 (b := b) (nv := vs.length) (na := ars.length) (d := d) (j := j) r0 (k := (e7 (nm b (j + 1) D0) - k).toNat) (by omega); have hkl : (drK b vs.length ars.length d j (e7 (nm b (j + 1) D0) - k).toNat).1.length = (e7 (nm b (j + 1) D0) - k).toNat := aq9 _ _ _; refine wp_seq (wp_seq (f9 G b9 [(48, bA (decide (k > 0)))] fun G => b0 (V5 G (fun h4 q4 => ?_) fun h4 q4 => ?_)))
     · refine wp_exit (w6 (w6 (w4 (b0 (wp_seq (j5 G b9 [0, 1, 2, 3, 4, 6, 8] [.box [.ref 1, iA (af6 b vs ars d j k).snd], dY b, dI vs, dI ars, dT bd, .box [iA (nm b (j + 1) D0), iA 0, .tref 6], .tree (D.exprs (af6 b vs ars d j k).fst)] [(6, .ptr 5 0)] fun G => b0 (wp_ret ?_))))))); exact rxv (.agg [iA (nm b (j + 1) D0), iA 0, .tref 6]) G [0, 1, 2, 3, 4, 6] (by show _ = AV.ren (nth [0, 1, 2, 3, 4, 6]) (ac4 b vs ars d j); unfold ac4; rw [bd4 (m := k) hd (by omega) (by omega) (by omega) (by omega)] <;> rfl) (by show _ = mR [0, 1, 2, 3, 4, 6] (ac3 b vs ars bd d j); unfold ac3; rw [bd4 (m := k) hd (by omega) (by omega) (by omega) (by omega)] <;> rfl)
     refine wp_skip (b0 (wp_seq (wp_block (L9 G (B3 6 (rg 5) (ih ((drK b (vs.length : Int) (ars.length : Int) d j (e7 (nm b (j + 1) D0) - k).toNat).snd) (n - 1) (by omega) (by omega) (bd6 (by omega) (by omega) (by omega) (by omega) r1))) [0, 1, 0, 0, 0, 16, 60, 124, 255, 511, 1023] [0, 1, 2, 3, 4, 5, 6, 7, 73] [.box [.ref 1, iA (C1 b (vs.length : Int) (ars.length : Int) d (af6 b vs ars d j k).snd).snd], dY b, dI vs, dI ars, dT bd, .box (pL 2), al5, .box [iA (nm b (j + 1) D0), iA 0, .tref 8], .tree (D.exprs ((af6 b vs ars d j k).fst ++ [qzE (C1 b (vs.length : Int) (ars.length : Int) d (af6 b vs ars d j k).snd).fst]))] (O3 n [(8, .ptr 7 0), (9, iA k)]) ((wO (n - 1)) :: (aP ((drK b (vs.length : Int) (ars.length : Int) d j (e7 (nm b (j + 1) D0) - k).toNat).fst.length + 1) 40 [])) ⟨oW (by omega), (aK (by omega) bm6)⟩ fun G => o6 (b0 (J1 G b9 [(9, iA (k - 1))] [wO (k - 1)] (o1 (by omega)) fun G => b0 ?_)))))); exact rxn G (k - 1) (by omega) (by omega) (rg 9) (by have e1 : ((drK b (vs.length : Int) (ars.length : Int) d j (e7 (nm b (j + 1) D0) - (k - 1)).toNat).snd : Int) = ((C1 b (vs.length : Int) (ars.length : Int) d (drK b (vs.length : Int) (ars.length : Int) d j (e7 (nm b (j + 1) D0) - k).toNat).snd).snd) := (by rw [aH9 (by omega) (by omega)]; done); have e2 : ((drK b (vs.length : Int) (ars.length : Int) d j (e7 (nm b (j + 1) D0) - (k - 1)).toNat).fst : List b6) = ((drK b (vs.length : Int) (ars.length : Int) d j (e7 (nm b (j + 1) D0) - k).toNat).fst ++ [qzE (C1 b (vs.length : Int) (ars.length : Int) d (drK b (vs.length : Int) (ars.length : Int) d j (e7 (nm b (j + 1) D0) - k).toNat).snd).fst]) := (by rw [aH9 (by omega) (by omega)]; (simp only [b6.eta]; done)); (first | rw [e1, e2] | simp only [e1, e2]) <;> rfl)
    refine wp_seq (wp_seq (f9 G b9 [(28, bA ((ars.length : Int) == 0))] fun G => b0 (X5 G (fun h3 q3 => ?_) fun h3 q3 => ?_)))
    · refine wp_skip (b0 (wp_seq (aP5 G (s8 (k6 5 [0, 1] (C2 b (j + 1 + 1) ((ars.length : Int)) (by omega) (by omega)) (k6 8 (rg 5) (ab4 b (j + 1 + 1 + 1) vs ars bd (by omega) (by omega)) s7)) fz []) [0, 0, 0, 4, 12, 30, 0, 0, 254, 510, 1023, 2047] [0, 1, 2, 3, 4, 5, 6, 79] [.box [.ref 1, iA (j + 1 + 1 + 1 + 2)], dY b, dI vs, dI ars, dT bd, .box (pL 2), .box [iA (nm b (j + 1) D0), iA (pk b (j + 1 + 1) (ars.length : Int)), .tref 7], .tree (D.exprs [qzE (j0 b (vs.length : Int) (j + 1 + 1 + 1))])] (O3 n [(7, iA (nm b (j + 1) D0))]) fun G => b0 (wp_ret (f7 ?_))))); exact rxv (.agg [iA (nm b (j + 1) D0), iA (pk b (j + 1 + 1) (ars.length : Int)), .tref 7]) G [0, 1, 2, 3, 4, 7] (by show _ = AV.ren (nth [0, 1, 2, 3, 4, 7]) (ac4 b vs ars d j); unfold ac4; have e1 : ((C1 b (vs.length : Int) (ars.length : Int) (d + 1) j).fst.kind : Int) = (nm b (j + 1) D0) := (by rw [aZ6 hd (by omega) (by omega) (by omega)]; (simp only [Int.add_assoc, Int.reduceAdd, b6.eta, b6.kids, b6.kind, b6.value]; omega)); have e2 : ((C1 b (vs.length : Int) (ars.length : Int) (d + 1) j).fst.value : Int) = (pk b (j + 1 + 1) (ars.length : Int)) := (by rw [aZ6 hd (by omega) (by omega) (by omega)]; (simp only [Int.add_assoc, Int.reduceAdd, b6.eta, b6.kids, b6.kind, b6.value]; done)); (first | rw [e1, e2] | simp only [e1, e2]) <;> rfl) (by show _ = mR [0, 1, 2, 3, 4, 7] (ac3 b vs ars bd d j); unfold ac3; have e1 : ((C1 b (vs.length : Int) (ars.length : Int) (d + 1) j).snd : Int) = (j + 1 + 1 + 1 + 2) := (by rw [aZ6 hd (by omega) (by omega) (by omega)]; (simp only [Int.add_assoc, Int.reduceAdd, b6.eta, b6.kids, b6.kind, b6.value]; done)); have e2 : ((C1 b (vs.length : Int) (ars.length : Int) (d + 1) j).fst.kids : List b6) = ([qzE (j0 b (vs.length : Int) (j + 1 + 1 + 1))]) := (by rw [aZ6 hd (by omega) (by omega) (by omega)]; show [_] = _; simp only [Int.add_assoc, Int.reduceAdd, b6.eta]; done); (first | rw [e1, e2] | simp only [e1, e2]) <;> rfl)
    refine wp_seq (j5 G (B3 2 (rg 5) (ab4 b (j + 1 + 1) vs ars bd (by omega) (by omega))) [0, 1, 2, 3, 4, 5, 6, 23] [.box [.ref 1, iA (j + 1 + 1 + 2)], dY b, dI vs, dI ars, dT bd, .box (pL 2), .box [iA (j0 b (vs.length : Int) (j + 1 + 1)).kind, iA (j0 b (vs.length : Int) (j + 1 + 1)).value, .tref 7], .tree (D.exprs (j0 b (vs.length : Int) (j + 1 + 1)).kids)] (O3 n [(7, iA (nm b (j + 1) D0))]) fun G => b0 (wp_ret (f7 (f7 ?_)))); exact rxv (.agg [iA (j0 b (vs.length : Int) (j + 1 + 1)).kind, iA (j0 b (vs.length : Int) (j + 1 + 1)).value, .tref 7]) G [0, 1, 2, 3, 4, 7] (by show _ = AV.ren (nth [0, 1, 2, 3, 4, 7]) (ac4 b vs ars d j); unfold ac4; have e1 : ((C1 b (vs.length : Int) (ars.length : Int) (d + 1) j).fst.kind : Int) = ((j0 b (vs.length : Int) (j + 1 + 1)).kind) := (by rw [aZ7 hd (by omega) (by omega) (by omega)]; (simp only [Int.add_assoc, Int.reduceAdd, b6.eta, b6.kids, b6.kind, b6.value]; done)); have e2 : ((C1 b (vs.length : Int) (ars.length : Int) (d + 1) j).fst.value : Int) = ((j0 b (vs.length : Int) (j + 1 + 1)).value) := (by rw [aZ7 hd (by omega) (by omega) (by omega)]; (simp only [Int.add_assoc, Int.reduceAdd, b6.eta, b6.kids, b6.kind, b6.value]; done)); (first | rw [e1, e2] | simp only [e1, e2]) <;> rfl) (by show _ = mR [0, 1, 2, 3, 4, 7] (ac3 b vs ars bd d j); unfold ac3; have e1 : ((C1 b (vs.length : Int) (ars.length : Int) (d + 1) j).snd : Int) = (j + 1 + 1 + 2) := (by rw [aZ7 hd (by omega) (by omega) (by omega)]; (simp only [Int.add_assoc, Int.reduceAdd, b6.eta, b6.kids, b6.kind, b6.value]; done)); have e2 : ((C1 b (vs.length : Int) (ars.length : Int) (d + 1) j).fst : b6) = (j0 b (vs.length : Int) (j + 1 + 1)) := (by rw [aZ7 hd (by omega) (by omega) (by omega)]; (simp only [Int.add_assoc, Int.reduceAdd, b6.eta, b6.kids, b6.kind, b6.value]; done)); (first | rw [e1, e2] | simp only [e1, e2]) <;> rfl)
   refine wp_seq (j5 G (B3 2 (rg 5) (ab4 b (j + 1) vs ars bd (by omega) (by omega))) [0, 1, 2, 3, 4, 5, 6, 23] [.box [.ref 1, iA (j + 1 + 2)], dY b, dI vs, dI ars, dT bd, .box (pL 2), .box [iA (j0 b (vs.length : Int) (j + 1)).kind, iA (j0 b (vs.length : Int) (j + 1)).value, .tref 7], .tree (D.exprs (j0 b (vs.length : Int) (j + 1)).kids)] (O3 n []) fun G => b0 (wp_ret (f7 ?_))); exact rxv (.agg [iA (j0 b (vs.length : Int) (j + 1)).kind, iA (j0 b (vs.length : Int) (j + 1)).value, .tref 7]) G [0, 1, 2, 3, 4, 7] (by show _ = AV.ren (nth [0, 1, 2, 3, 4, 7]) (ac4 b vs ars d j); unfold ac4; rw [a75 hd (by omega)] <;> rfl) (by show _ = mR [0, 1, 2, 3, 4, 7] (ac3 b vs ars bd d j); unfold ac3; have e1 : ((C1 b (vs.length : Int) (ars.length : Int) (d + 1) j).snd : Int) = (j + 1 + 2) := (by rw [a75 hd (by omega)]; (simp only [Int.add_assoc, Int.reduceAdd, b6.eta, b6.kids, b6.kind, b6.value]; done)); rw [e1, a75 hd (by omega)] <;> rfl)
  have q0 := P2 h0; exact False.elim (by omega)
theorem aV1 (b : List UInt8) (vs ars : List Int) (bd : List b5) : ∀ (d : Nat) (j n : Int), d <= 100 -> n = d -> 0 <= j -> j + cE d <= 800000000 -> f6.ok Tryd.prog (drC b vs ars bd d j n)
 | 0, j, n, _, hn, r0, r1 => aF7 b vs ars bd 0 (by omega) j n hn r0 (by have := aj8 0; omega)
 | 1, j, n, _, hn, r0, r1 => aF7 b vs ars bd 1 (by omega) j n hn r0 (by have := aj8 1; omega)
 | d + 2, j, n, hd, hn, r0, r1 => aX5 b vs ars bd (d + 1) (by omega) (by omega) (fun j n => aV1 b vs ars bd (d + 1) j n (by omega)) j n hn r0 r1
abbrev smC (b : List UInt8) (vs ars : List Int) (bd : List b5) (j : Int) : f6 := ⟨59, [.ptr 0 0, pA 2], dwS b j vs ars bd, dwS b (m5 b vs.length ars.length j).2 vs ars bd ++ exO (m5 b vs.length ars.length j).1, exA (m5 b vs.length ars.length j).1 5⟩
section
variable {b : List UInt8} {nv na : Nat} {j : Int}
theorem a94 (h : c7 nv na (C1 b nv na (nm b j V8).toNat (j + 1)).1 = true) : m5 b nv na j = C1 b nv na (nm b j V8).toNat (j + 1) := if_pos h
theorem a93 (h : c7 nv na (C1 b nv na (nm b j V8).toNat (j + 1)).1 = false) : m5 b nv na j = (j0 b nv (C1 b nv na (nm b j V8).toNat (j + 1)).2, (C1 b nv na (nm b j V8).toNat (j + 1)).2 + 2) := if_neg (by rw [h]; decide)
theorem bf4 (r0 : 0 <= j) (r1 : j <= 700000000) : cE (nm b j V8).toNat <= 364 := cE4 (dp4 b r0 (by omega)).2.2
end
abbrev L4 (b : List UInt8) (vs : List Int) (ars : List Int) (j : Int) := C1 b (vs.length : Int) (ars.length : Int) (nm b j V8).toNat (j + 1)
theorem N8 (b : List UInt8) (vs ars : List Int) (bd : List b5) (j : Int) (r0 : 0 <= j) (r1 : j <= 700000000) : f6.ok Tryd.prog (smC b vs ars bd j) := by
 have hdr := fun (i n : Int) => aV1 b vs ars bd (nm b j V8).toNat i n (bk9 (dp4 b r0 (by omega)).2.2 (by omega))
 refine F0 19 Tryd.func59 [.box [.ref 1, iA j], dY b, dI vs, dI ars, dT bd] [(0, .ptr 0 0), (1, pA 2)] fun G => ?_; have hd4 := bf4 (b := b) r0 r1; have hdb := aw5 b vs.length ars.length (nm b j V8).toNat (j + 1); refine wp_seq (j5 G b9 [0, 1, 2, 3, 4, 5, 13] [.box [.ref 1, iA j], dY b, dI vs, dI ars, dT bd, .box (pL 2), .box [iA 0, iA 0, .v (.slice none 0 0)]] [(0, .ptr 0 0), (3, .ptr 5 0), (4, .ptr 6 0)] fun G => b0 (wp_seq (aP5 G (s8 (k6 4 [0, 1, 31] (f6.lend (E5 b j V8 (List.cons_ne_nil _ _) (by assumption) (by omega)) [.no, .no, .row 3]) (k6 5 (rg 5) (hdr (j + 1) (nm b j V8) (a76 b (by omega) (by omega)) (by omega) (by omega)) s7)) fz []) [0, 0, 0, 0, 12, 31, 0, 127] [0, 1, 2, 3, 4, 5, 6, 47, 55] [.box [.ref 1, iA (L4 b vs ars j).snd], dY b, dI vs, dI ars, dT bd, .box (pL 2), .box [iA 0, iA 0, .v (.slice none 0 0)], .tree (D.exprs (L4 b vs ars j).fst.kids), .box [iA (L4 b vs ars j).fst.kind, iA (L4 b vs ars j).fst.value, .tref 7]] [(0, .ptr 0 0), (3, .ptr 5 0), (4, .ptr 6 0), (5, .ptr 8 0)] fun G => b0 (wp_seq (wp_seq (f9 G (B3 2 [2, 3, 4, 7] (f6.lend (aD0 vs ars bd ((C1 b (vs.length : Int) (ars.length : Int) (nm b j V8).toNat (j + 1)).fst)) [.no, .no, .no, .tree])) [(14, bA (c7 vs.length ars.length (L4 b vs ars j).fst))] fun G => b0 (rcB (b := c7 vs.length ars.length (C1 b (vs.length : Int) (ars.length : Int) (nm b j V8).toNat (j + 1)).fst) G (fun h0 => ?_) fun h0 => ?_)))))))
 ·refine wp_skip (b0 (wp_seq (j5 G (B3 2 (rg 5) (ab4 b ((C1 b (vs.length : Int) (ars.length : Int) (nm b j V8).toNat (j + 1)).snd) vs ars bd (by omega) (by omega))) [0, 1, 2, 3, 4, 6, 25] [.box [.ref 1, iA ((L4 b vs ars j).snd + 2)], dY b, dI vs, dI ars, dT bd, .box [iA (j0 b (vs.length : Int) (L4 b vs ars j).snd).kind, iA (j0 b (vs.length : Int) (L4 b vs ars j).snd).value, .tref 6], .tree (D.exprs (j0 b (vs.length : Int) (L4 b vs ars j).snd).kids)] [(4, .ptr 5 0)] fun G => b0 (wp_ret ?_)))); exact rxv (.agg [iA (j0 b (vs.length : Int) (C1 b (vs.length : Int) (ars.length : Int) (nm b j V8).toNat (j + 1)).snd).kind, iA (j0 b (vs.length : Int) (C1 b (vs.length : Int) (ars.length : Int) (nm b j V8).toNat (j + 1)).snd).value, .tref 6]) G [0, 1, 2, 3, 4, 6] (by show _ = AV.ren (nth [0, 1, 2, 3, 4, 6]) (.agg [iA (m5 b vs.length ars.length j).fst.kind, iA (m5 b vs.length ars.length j).fst.value, .tref 5]); rw [a93 (by with_reducible assumption)] <;> rfl) (by show _ = mR [0, 1, 2, 3, 4, 6] [.box [.ref 1, iA (m5 b vs.length ars.length j).snd], dY b, dI vs, dI ars, dT bd, .tree (D.exprs (m5 b vs.length ars.length j).fst.kids)]; rw [a93 (by with_reducible assumption)] <;> rfl)
 refine wp_seq (j5 G b9 (rg 8) [.box [.ref 1, iA (L4 b vs ars j).snd], dY b, dI vs, dI ars, dT bd, .box (pL 2), .box [iA (L4 b vs ars j).fst.kind, iA (L4 b vs ars j).fst.value, .tref 7], .tree (D.exprs (L4 b vs ars j).fst.kids)] [(0, .ptr 0 0), (3, .ptr 5 0), (4, .ptr 6 0)] fun G => b0 (wp_ret (f7 ?_))); exact rxv (.agg [iA (C1 b (vs.length : Int) (ars.length : Int) (nm b j V8).toNat (j + 1)).fst.kind, iA (C1 b (vs.length : Int) (ars.length : Int) (nm b j V8).toNat (j + 1)).fst.value, .tref 7]) G [0, 1, 2, 3, 4, 7] (by show _ = AV.ren (nth [0, 1, 2, 3, 4, 7]) (.agg [iA (m5 b vs.length ars.length j).fst.kind, iA (m5 b vs.length ars.length j).fst.value, .tref 5]); rw [a94 (by with_reducible assumption)] <;> rfl) (by show _ = mR [0, 1, 2, 3, 4, 7] [.box [.ref 1, iA (m5 b vs.length ars.length j).snd], dY b, dI vs, dI ars, dT bd, .tree (D.exprs (m5 b vs.length ars.length j).fst.kids)]; rw [a94 (by with_reducible assumption)] <;> rfl)
abbrev stO (s : b5) : List It := [.tree (.exprs s.index.kids), .tree (.exprs s.value.kids), .tree (.stmts s.body), .tree (.stmts s.els)]
abbrev stA (s : b5) (r : Nat) : AV := .agg [iA s.kind, iA s.target, iA s.index.kind, iA s.index.value, .tref r, iA s.value.kind, iA s.value.value, .tref (r + 1), iA s.count, .tref (r + 2), .tref (r + 3)]
abbrev dsC (b : List UInt8) (vs ars : List Int) (bd : List b5) (d : Nat) (j n : Int) : f6 := ⟨94, [.ptr 0 0, pA 2, iA n], dwS b j vs ars bd, dwS b (s4 b vs.length ars.length d j).2 vs ars bd ++ stO (s4 b vs.length ars.length d j).1, stA (s4 b vs.length ars.length d j).1 5⟩
abbrev dbC (b : List UInt8) (vs ars : List Int) (bd : List b5) (d : Nat) (m : Nat) (j n c : Int) : f6 := ⟨72, [.ptr 0 0, pA 2, iA n, iA c], dwS b j vs ars bd, dwS b (y9 (s4 b vs.length ars.length d) m j).2 vs ars bd ++ [.tree (.stmts (y9 (s4 b vs.length ars.length d) m j).1)], .tref 5⟩
section
variable {b : List UInt8} {nv na d : Nat} {j : Int}
theorem aN7 (h : nm b j B8 = 2) (h1 : 0 < (na : Int)) : s4 b nv na d j = soS b nv na (j + 1) := by
 cases d <;> (rw [s4, if_pos ⟨h, by omega⟩])
theorem a91 (h : nm b j B8 = 3) (h1 : 0 < d) : s4 b nv na (d + 1) j = ifS b nv na (s4 b nv na d) (j + 1) := by
 rw [s4, if_neg (by omega), if_pos ⟨h, by omega⟩]
theorem a90 (h : nm b j B8 = 4) (h1 : 0 < d) : s4 b nv na (d + 1) j = rpS b (s4 b nv na d) (j + 1) := by
 rw [s4, if_neg (by omega), if_neg (by omega), if_pos ⟨h, by omega⟩]
theorem P8 (h : ¬ (nm b j B8 = 2 /\ 0 < (na : Int))) (h1 : d < 2 \/ (¬ nm b j B8 = 3 /\ ¬ nm b j B8 = 4)) : s4 b nv na d j = dfS b nv na (nm b j B8) (j + 1) := by
 match d, h1 with
 | 0, _ => rw [s4, if_neg (by omega)]
 | d + 1, h1 => rw [s4, if_neg (by omega), if_neg (by omega), if_neg (by omega)]
theorem a78 {kd : Int} (h : kd = 5) : dfS b nv na kd j = (⟨5, pk b j nv, noE, (m5 b nv na (j + 1)).1, 0, [], []⟩, (m5 b nv na (j + 1)).2) := by rw [dfS, if_pos h]
theorem aw7 {kd : Int} (h : ¬ kd = 5) : dfS b nv na kd j = (⟨1, pk b j nv, noE, (m5 b nv na (j + 1)).1, 0, [], []⟩, (m5 b nv na (j + 1)).2) := by rw [dfS, if_neg h]
end
section
variable (b : List UInt8) {j : Int}
theorem bj3 (r0 : 0 <= j) (r1 : j <= 1000000000) : 0 <= nm b j ibL /\ nm b j ibL <= 2 := am2 b (by simp) aC2 r0 r1
theorem bj2 (r0 : 0 <= j) (r1 : j <= 1000000000) : 0 <= nm b j ieL /\ nm b j ieL <= 2 := am2 b (by simp) aC0 r0 r1
theorem bg1 (r0 : 0 <= j) (r1 : j <= 1000000000) : 0 <= nm b j rbL /\ nm b j rbL <= 2 := am2 b (by simp) aA1 r0 r1
theorem a05 (d : Nat) : (d = 0 /\ cS (d - 1) = 402 /\ cS d <= 2010) \/ cS d = 402 + 4 * cS (d - 1) := by
 cases d with
 | zero => exact .inl ⟨rfl, rfl, by decide⟩
 | succ d => exact .inr rfl
end
section
variable {b : List UInt8} {nv na d : Nat} {j : Int}
theorem az2 (h : nm b j B8 = 3) (h1 : 1 < d) : s4 b nv na d j = ifS b nv na (s4 b nv na (d - 1)) (j + 1) := by
 match d, h1 with
 | d + 1, h1 => exact a91 h (by omega)
theorem az1 (h : nm b j B8 = 4) (h1 : 1 < d) : s4 b nv na d j = rpS b (s4 b nv na (d - 1)) (j + 1) := by
 match d, h1 with
 | d + 1, h1 => exact a90 h (by omega)
end
abbrev a12 (b : List UInt8) (vs : List Int) (ars : List Int) (d : Nat) (j : Int) (k : Nat) := s4 b vs.length ars.length d (y9 (s4 b vs.length ars.length d) k j).snd
abbrev as4 (n : Int) (c : Int) (r0 : List (Nat × AV)) : List (Nat × AV) := (0, .ptr 0 0) :: (2, iA n) :: (3, iA c) :: (5, .ptr 5 0) :: (8, .v (.slice none 0 0)) :: r0
theorem aX6 (b : List UInt8) (vs ars : List Int) (bd : List b5) (d m : Nat) (ih : ∀ (j n : Int), n = d -> 0 <= j -> j + cS d <= 600000000 -> f6.ok Tryd.prog (dsC b vs ars bd d j n)) (j n c : Int) (hn : n = d) (hm : c = m) (hm2 : m <= 4) (B : Int) (hB : (m : Int) * cS d <= B) (r0 : 0 <= j) (r1 : j + B <= 600000000) : f6.ok Tryd.prog (dbC b vs ars bd d m j n c) := by
 refine F0 25 Tryd.func72 [.box [.ref 1, iA j], dY b, dI vs, dI ars, dT bd] [(0, .ptr 0 0), (1, pA 2), (2, iA n), (3, iA c)] fun G => ?_; have hc := ad5 d; refine wp_seq (j5 G b9 (rg 6) [.box [.ref 1, iA j], dY b, dI vs, dI ars, dT bd, .box (pL 2)] (as4 n c []) fun G => b0 (wp_seq (j5 G b9 (rg 7) [.box [.ref 1, iA j], dY b, dI vs, dI ars, dT bd, .box (pL 2), .tree (D.stmts [])] (as4 n c [(9, .tref 6)]) fun G => b0 (wp_seq (wp_seq (J2 G b9 (as4 n c [(9, .tref 6), (10, iA 0)]) fun G => b0 (wp_block ?_))))))); refine x3 (κ := Nat) (fun k => k <= m) (fun k => m - k) (fun k => [.box [.ref 1, iA (y9 (s4 b vs.length ars.length d) k j).2], dY b, dI vs, dI ars, dT bd, .box (pL 2), .tree (.stmts (y9 (s4 b vs.length ars.length d) k j).1)]) (fun k => [(0, .ptr 0 0), (2, iA n), (3, iA c), (5, .ptr 5 0), (8, .v (.slice none 0 0)), (9, .tref 6), (10, iA k)]) 0 (by omega) (o8.at G _ _) ?_; clear G; intro k ρ a w hp G; replace G := o8.at G [.box [.ref 1, iA (y9 (s4 b vs.length ars.length d) k j).snd], dY b, dI vs, dI ars, dT bd, .box (pL 2), .tree (D.stmts (y9 (s4 b vs.length ars.length d) k j).fst)] (as4 n c [(9, .tref 6), (10, iA k)]); have hkb := a39 b vs.length ars.length (k := j) (i := k) hB (by omega) r0 (by omega); have hkl : (y9 (s4 b vs.length ars.length d) k j).1.length = k := aq9 _ _ _; refine wp_seq (wp_seq (f9 G b9 [(14, bA (decide ((k : Int) < c)))] fun G => b0 (V5 G (fun h0 q0 => ?_) fun h0 q0 => ?_)))
 ·refine wp_exit (w6 (w6 (w4 (b0 (wp_seq (j5 G b9 [0, 1, 2, 3, 4, 6] [.box [.ref 1, iA (y9 (s4 b vs.length ars.length d) k j).snd], dY b, dI vs, dI ars, dT bd, .tree (D.stmts (y9 (s4 b vs.length ars.length d) k j).fst)] [(8, .tref 5)] fun G => b0 (wp_ret ?_))))))); exact K9 G (rg 6) (by show _ = mR (rg 6) [.box [.ref 1, iA (y9 (s4 b vs.length ars.length d) m j).snd], dY b, dI vs, dI ars, dT bd, .tree (D.stmts (y9 (s4 b vs.length ars.length d) m j).fst)]; rw [show m = k by omega] <;> rfl)
 refine wp_skip (b0 (wp_seq (wp_block (V6 G (B3 4 (rg 5) (ih ((y9 (s4 b vs.length ars.length d) k j).snd) n (by assumption) (by omega) (by have := be5 b vs.length ars.length (k := j) (i := k) hB (by omega) r0 (by omega); omega))) [0, 1, 2, 3, 4, 5, 55] [.box [.ref 1, iA (a12 b vs ars d j k).snd], dY b, dI vs, dI ars, dT bd, .box (pL 2), .tree (D.stmts ((y9 (s4 b vs.length ars.length d) k j).fst ++ [qzS (a12 b vs ars d j k).fst]))] (as4 n c [(9, .tref 6), (10, iA k)]) (aP ((y9 (s4 b vs.length ars.length d) k j).fst.length + 1) 152 []) (aK (by omega) bm6) fun G => o6 (b0 (J1 G b9 [(10, iA ((k : Int) + 1))] [wO ((k : Int) + 1)] (o1 (by omega)) fun G => b0 ?_)))))); exact rxn G (k + 1) (by omega) (by omega) (rg 7) (by have e1 : ((y9 (s4 b vs.length ars.length d) (k + 1) j).fst : List b5) = ((y9 (s4 b vs.length ars.length d) k j).fst ++ [qzS (s4 b vs.length ars.length d (y9 (s4 b vs.length ars.length d) k j).snd).fst]) := (by show _ ++ [_] = _ ++ [_]; unfold qzS; rw [b6.eta, b6.eta, b5.eta]; done); (first | rw [e1] | simp only [e1]) <;> rfl)
abbrev al4 (b : List UInt8) (vs : List Int) (ars : List Int) (d : Nat) (j : Int) := y9 (s4 b vs.length ars.length (d - 1)) (nm b (m5 b vs.length ars.length (j + 1)).snd ibL).toNat ((m5 b vs.length ars.length (j + 1)).snd + 1)
abbrev aE8 (b : List UInt8) (vs : List Int) (ars : List Int) (d : Nat) (j : Int) := y9 (s4 b vs.length ars.length (d - 1)) (nm b (al4 b vs ars d j).snd ieL).toNat ((al4 b vs ars d j).snd + 1)
abbrev G7 (b : List UInt8) (vs : List Int) (ars : List Int) (d : Nat) (j : Int) : AV := (.agg [iA (s4 b vs.length ars.length d j).fst.kind, iA (s4 b vs.length ars.length d j).fst.target, iA (s4 b vs.length ars.length d j).fst.index.kind, iA (s4 b vs.length ars.length d j).fst.index.value, .tref 5, iA (s4 b vs.length ars.length d j).fst.value.kind, iA (s4 b vs.length ars.length d j).fst.value.value, .tref 6, iA (s4 b vs.length ars.length d j).fst.count, .tref 7, .tref 8])
abbrev G6 (b : List UInt8) (vs : List Int) (ars : List Int) (bd : List b5) (d : Nat) (j : Int) : List It := [.box [.ref 1, iA (s4 b vs.length ars.length d j).snd], dY b, dI vs, dI ars, dT bd, .tree (D.exprs (s4 b vs.length ars.length d j).fst.index.kids), .tree (D.exprs (s4 b vs.length ars.length d j).fst.value.kids), .tree (D.stmts (s4 b vs.length ars.length d j).fst.body), .tree (D.stmts (s4 b vs.length ars.length d j).fst.els)]
abbrev W4 : It := .box [iA 0, iA 0, iA 0, iA 0, .v (.slice none 0 0), iA 0, iA 0, .v (.slice none 0 0), iA 0, .v (.slice none 0 0), .v (.slice none 0 0)]
abbrev aE7 (b : List UInt8) (vs : List Int) (ars : List Int) (j : Int) : It := .box [iA 1, iA (pk b (j + 1) (vs.length : Int)), iA 0, iA 0, .v (.slice none 0 0), iA (m5 b vs.length ars.length (j + 1 + 1)).fst.kind, iA (m5 b vs.length ars.length (j + 1 + 1)).fst.value, .tref 7, iA 0, .v (.slice none 0 0), .v (.slice none 0 0)]
abbrev aE6 (b : List UInt8) (vs : List Int) (ars : List Int) (j : Int) : It := .box [iA 1, iA (pk b (j + 1) (vs.length : Int)), iA 0, iA 0, .v (.slice none 0 0), iA (m5 b vs.length ars.length (j + 1 + 1)).fst.kind, iA (m5 b vs.length ars.length (j + 1 + 1)).fst.value, .tref 6, iA 0, .v (.slice none 0 0), .v (.slice none 0 0)]
abbrev aE5 (b : List UInt8) (vs : List Int) (j : Int) : It := .box [iA 1, iA (pk b (j + 1) (vs.length : Int)), iA 0, iA 0, .v (.slice none 0 0), iA 0, iA 0, .v (.slice none 0 0), iA 0, .v (.slice none 0 0), .v (.slice none 0 0)]
abbrev T8 (b : List UInt8) (vs : List Int) (ars : List Int) (j : Int) : It := .tree (D.exprs (m5 b vs.length ars.length (j + 1 + 1)).fst.kids)
abbrev K3 (b : List UInt8) (vs : List Int) (ars : List Int) (j : Int) : It := .box [.ref 1, iA (m5 b vs.length ars.length (j + 1 + 1)).snd]
abbrev an6 : It := .box [iA 1, iA 0, iA 0, iA 0, .v (.slice none 0 0), iA 0, iA 0, .v (.slice none 0 0), iA 0, .v (.slice none 0 0), .v (.slice none 0 0)]
abbrev aE3 (b : List UInt8) (vs : List Int) (ars : List Int) (bd : List b5) (j : Int) (r0 : List It) : List It := .box [.ref 1, iA (m5 b vs.length ars.length (j + 1 + 1)).snd] :: dY b :: dI vs :: dI ars :: dT bd :: .box [iA 1, iA (pk b (j + 1) (vs.length : Int)), iA 0, iA 0, .tref 7, iA (m5 b vs.length ars.length (j + 1 + 1)).fst.kind, iA (m5 b vs.length ars.length (j + 1 + 1)).fst.value, .tref 6, iA 0, .tref 8, .tref 9] :: .tree (D.exprs (m5 b vs.length ars.length (j + 1 + 1)).fst.kids) :: .tree (D.exprs []) :: .tree (D.stmts []) :: r0
abbrev aE2 (b : List UInt8) (vs : List Int) (ars : List Int) (bd : List b5) (j : Int) (r0 : List It) : List It := .box [.ref 1, iA (m5 b vs.length ars.length (j + 1 + 1)).snd] :: dY b :: dI vs :: dI ars :: dT bd :: .box [iA 1, iA (pk b (j + 1) (vs.length : Int)), iA 0, iA 0, .tref 7, iA (m5 b vs.length ars.length (j + 1 + 1)).fst.kind, iA (m5 b vs.length ars.length (j + 1 + 1)).fst.value, .tref 6, iA 0, .tref 8, .v (.slice none 0 0)] :: .tree (D.exprs (m5 b vs.length ars.length (j + 1 + 1)).fst.kids) :: .tree (D.exprs []) :: r0
abbrev aE1 (b : List UInt8) (vs : List Int) (ars : List Int) (bd : List b5) (j : Int) (r0 : List It) : List It := .box [.ref 1, iA (m5 b vs.length ars.length (j + 1 + 1)).snd] :: dY b :: dI vs :: dI ars :: dT bd :: .box [iA 1, iA (pk b (j + 1) (vs.length : Int)), iA 0, iA 0, .tref 7, iA (m5 b vs.length ars.length (j + 1 + 1)).fst.kind, iA (m5 b vs.length ars.length (j + 1 + 1)).fst.value, .tref 6, iA 0, .v (.slice none 0 0), .v (.slice none 0 0)] :: .tree (D.exprs (m5 b vs.length ars.length (j + 1 + 1)).fst.kids) :: r0
abbrev J4 (r0 : List (Nat × AV)) : List (Nat × AV) := (0, .ptr 0 0) :: (4, .ptr 5 0) :: (6, .ptr 6 0) :: (8, .ptr 7 0) :: r0
abbrev as3 (b : List UInt8) (vs : List Int) (ars : List Int) (d : Nat) (j : Int) (r0 : List It) : List It := .box [.ref 1, iA (y9 (s4 b vs.length ars.length (d - 1)) (nm b (j + 1 + 1) rbL).toNat (j + 1 + 1 + 1)).snd] :: dY b :: dI vs :: dI ars :: r0
abbrev W3 (n : Int) (r0 : List (Nat × AV)) : List (Nat × AV) := (0, .ptr 0 0) :: (2, iA n) :: (4, .ptr 5 0) :: (6, .ptr 6 0) :: r0
abbrev F7 (b : List UInt8) (vs : List Int) (ars : List Int) (bd : List b5) (r0 : List It) : List It := dY b :: dI vs :: dI ars :: dT bd :: .box (pL 2) :: W4 :: r0
abbrev aE0 (b : List UInt8) (vs : List Int) (ars : List Int) (j : Int) (r0 : List It) : List It := .tree (D.exprs (j0 b (vs.length : Int) (j + 1 + 1)).kids) :: .tree (D.exprs (m5 b vs.length ars.length (j + 1 + 1 + 2)).fst.kids) :: r0
theorem aO3 (b : List UInt8) (vs ars : List Int) (bd : List b5) (d : Nat) (hd : d <= 3) (ih : ∀ (j n c : Int), 1 < d -> n = (d : Int) - 1 -> 0 <= c -> c <= 2 -> 0 <= j -> j + 2 * cS (d - 1) <= 600000000 -> f6.ok Tryd.prog (dbC b vs ars bd (d - 1) c.toNat j n c)) (j n : Int) (hn : n = d) (r0 : 0 <= j) (r1 : j + cS d <= 600000000) : f6.ok Tryd.prog (dsC b vs ars bd d j n) := by
  refine F0 100 Tryd.func94 [.box [.ref 1, iA j], dY b, dI vs, dI ars, dT bd] [(0, .ptr 0 0), (1, pA 2), (2, iA n)] fun G => ?_; have hc := ad5 (d - 1); have hcd := a05 d; have hcn := ad5 d; have hsm := aF5 b vs.length ars.length (k := j + 1) (by omega) (by omega); have hib := bj3 b (j := (m5 b vs.length ars.length (j + 1)).2) (by omega) (by omega); have hbb := a39 b vs.length ars.length (k := (m5 b vs.length ars.length (j + 1)).2 + 1) (i := (nm b (m5 b vs.length ars.length (j + 1)).2 ibL).toNat) (bc0 hib.1 hib.2 (show 0 <= cS (d - 1) by omega)) (bl5 _) (by omega) (by omega); have hie := bj2 b (j := (y9 (s4 b vs.length ars.length (d - 1)) (nm b (m5 b vs.length ars.length (j + 1)).2 ibL).toNat ((m5 b vs.length ars.length (j + 1)).2 + 1)).2) (by omega) (by omega); have hrb := bg1 b (j := j + 1 + 1) (by omega) (by omega); refine wp_seq (j5 G b9 [0, 1, 2, 3, 4, 5, 13] (.box [.ref 1, iA j] :: (F7 b vs ars bd [])) (W3 n []) fun G => b0 (wp_seq (j5 G (B3 2 [0, 1, 15] (f6.lend (E5 b j B8 (List.cons_ne_nil _ _) (by assumption) (by omega)) [.no, .no, .row 3])) (rg 7) (.box [.ref 1, iA (j + 1)] :: (F7 b vs ars bd [])) (W3 n [(7, iA (nm b j B8))]) fun G => b0 (wp_seq (j5 G b9 [0, 1, 2, 3, 4, 5, 6, 23] (.box [.ref 1, iA (j + 1)] :: (F7 b vs ars bd [.box [iA (nm b j B8), iA 0, iA 0, iA 0, .v (.slice none 0 0), iA 0, iA 0, .v (.slice none 0 0), iA 0, .v (.slice none 0 0), .v (.slice none 0 0)]])) (W3 n [(7, iA (nm b j B8)), (8, .ptr 7 0)]) fun G => b0 (wp_seq (wp_block (wp_seq ?_)))))))); cases h0 : (nm b j B8 == 2)
  ·
   have q0 := ne_of_beq_false h0; refine f9 G (B9 (fc h0 fz) (us [(3, 6, 0), (1007, 1007, 0)])) [(27, bA false)] fun G => b0 (rF G false (by kernel_rfl) (wp_seq ?_)); cases h1 : (nm b j B8 == 3)
   ·
    have q1 := ne_of_beq_false h1; refine f9 G (B9 (fc h1 fz) [(3, 0), (4, 0), (1005, 0)]) [(50, bA false)] fun G => b0 (rF G false (by kernel_rfl) (wp_seq ?_)); cases h2 : (nm b j B8 == 4)
    ·
     have q2 := ne_of_beq_false h2; refine f9 G (B9 (fc h2 fz) [(3, 0), (4, 0), (1005, 0)]) [(79, bA false)] fun G => b0 (rF G false (by kernel_rfl) (wp_seq (wp_seq (f9 G b9 [(15, bA (nm b j B8 != 5))] fun G => b0 (rcN G (fun h3 q3 => ?_) fun h3 q3 => ?_)))))
     · refine wp_skip (b0 (wp_seq (j5 G (B3 4 [0, 1] (C2 b (j + 1) ((vs.length : Int)) (by omega) (by omega))) (rg 8) (.box [.ref 1, iA (j + 1 + 1)] :: (F7 b vs ars bd [.box [iA (nm b j B8), iA (pk b (j + 1) (vs.length : Int)), iA 0, iA 0, .v (.slice none 0 0), iA 0, iA 0, .v (.slice none 0 0), iA 0, .v (.slice none 0 0), .v (.slice none 0 0)]])) (J4 []) fun G => b0 (j5 G (B3 2 (rg 5) (N8 b vs ars bd (j + 1 + 1) (by omega) (by omega))) [0, 1, 2, 3, 4, 6, 7, 24] [K3 b vs ars j, dY b, dI vs, dI ars, dT bd, W4, .box [iA (nm b j B8), iA (pk b (j + 1) (vs.length : Int)), iA 0, iA 0, .v (.slice none 0 0), iA (m5 b vs.length ars.length (j + 1 + 1)).fst.kind, iA (m5 b vs.length ars.length (j + 1 + 1)).fst.value, .tref 7, iA 0, .v (.slice none 0 0), .v (.slice none 0 0)], T8 b vs ars j] [(6, .ptr 5 0), (8, .ptr 6 0)] fun G => o6 (b0 (wp_seq (j5 G b9 [0, 1, 2, 3, 4, 5, 7] [K3 b vs ars j, dY b, dI vs, dI ars, dT bd, .box [iA (nm b j B8), iA (pk b (j + 1) (vs.length : Int)), iA 0, iA 0, .v (.slice none 0 0), iA (m5 b vs.length ars.length (j + 1 + 1)).fst.kind, iA (m5 b vs.length ars.length (j + 1 + 1)).fst.value, .tref 6, iA 0, .v (.slice none 0 0), .v (.slice none 0 0)], T8 b vs ars j] [(6, .ptr 5 0)] fun G => b0 (wp_ret ?_)))))))); obtain ⟨ρ, G⟩ := G.nilT 7 (.exprs []) [.box [.ref 1, iA (m5 b vs.length ars.length (j + 1 + 1)).snd], dY b, dI vs, dI ars, dT bd, .box [iA (nm b j B8), iA (pk b (j + 1) (vs.length : Int)), iA 0, iA 0, .tref 7, iA (m5 b vs.length ars.length (j + 1 + 1)).fst.kind, iA (m5 b vs.length ars.length (j + 1 + 1)).fst.value, .tref 6, iA 0, .v (.slice none 0 0), .v (.slice none 0 0)], .tree (D.exprs (m5 b vs.length ars.length (j + 1 + 1)).fst.kids)] [(6, .ptr 5 0)]; obtain ⟨ρ, G⟩ := G.nilT 8 (.stmts []) [.box [.ref 1, iA (m5 b vs.length ars.length (j + 1 + 1)).snd], dY b, dI vs, dI ars, dT bd, .box [iA (nm b j B8), iA (pk b (j + 1) (vs.length : Int)), iA 0, iA 0, .tref 7, iA (m5 b vs.length ars.length (j + 1 + 1)).fst.kind, iA (m5 b vs.length ars.length (j + 1 + 1)).fst.value, .tref 6, iA 0, .tref 8, .v (.slice none 0 0)], .tree (D.exprs (m5 b vs.length ars.length (j + 1 + 1)).fst.kids), .tree (D.exprs [])] [(6, .ptr 5 0)]; obtain ⟨ρ, G⟩ := G.nilT 9 (.stmts []) [.box [.ref 1, iA (m5 b vs.length ars.length (j + 1 + 1)).snd], dY b, dI vs, dI ars, dT bd, .box [iA (nm b j B8), iA (pk b (j + 1) (vs.length : Int)), iA 0, iA 0, .tref 7, iA (m5 b vs.length ars.length (j + 1 + 1)).fst.kind, iA (m5 b vs.length ars.length (j + 1 + 1)).fst.value, .tref 6, iA 0, .tref 8, .tref 9], .tree (D.exprs (m5 b vs.length ars.length (j + 1 + 1)).fst.kids), .tree (D.exprs []), .tree (D.stmts [])] [(6, .ptr 5 0)]; exact rxv (.agg [iA (nm b j B8), iA (pk b (j + 1) (vs.length : Int)), iA 0, iA 0, .tref 7, iA (m5 b vs.length ars.length (j + 1 + 1)).fst.kind, iA (m5 b vs.length ars.length (j + 1 + 1)).fst.value, .tref 6, iA 0, .tref 8, .tref 9]) G [0, 1, 2, 3, 4, 7, 6, 8, 9] (by show _ = AV.ren (nth [0, 1, 2, 3, 4, 7, 6, 8, 9]) (G7 b vs ars d j); unfold G7; have e1 : ((s4 b vs.length ars.length d j).fst.kind : Int) = (nm b j B8) := (by rw [P8 (by omega) (by omega), a78 (by omega)]; show (5 : Int) = _; omega); rw [e1, P8 (by omega) (by omega), a78 (by omega)] <;> rfl) (by show _ = mR [0, 1, 2, 3, 4, 7, 6, 8, 9] (G6 b vs ars bd d j); unfold G6; rw [P8 (by omega) (by omega), a78 (by omega)] <;> rfl)
     refine j5 G b9 (rg 8) (.box [.ref 1, iA (j + 1)] :: (F7 b vs ars bd [an6])) (J4 []) fun G => b0 (wp_seq (j5 G (B3 4 [0, 1] (C2 b (j + 1) ((vs.length : Int)) (by omega) (by omega))) (rg 8) (.box [.ref 1, iA (j + 1 + 1)] :: (F7 b vs ars bd [aE5 b vs j])) (J4 []) fun G => b0 (j5 G (B3 2 (rg 5) (N8 b vs ars bd (j + 1 + 1) (by omega) (by omega))) [0, 1, 2, 3, 4, 6, 7, 24] [K3 b vs ars j, dY b, dI vs, dI ars, dT bd, W4, aE7 b vs ars j, T8 b vs ars j] [(6, .ptr 5 0), (8, .ptr 6 0)] fun G => o6 (b0 (wp_seq (j5 G b9 [0, 1, 2, 3, 4, 5, 7] [K3 b vs ars j, dY b, dI vs, dI ars, dT bd, aE6 b vs ars j, T8 b vs ars j] [(6, .ptr 5 0)] fun G => b0 (wp_ret ?_))))))); obtain ⟨ρ, G⟩ := G.nilT 7 (.exprs []) (aE1 b vs ars bd j []) [(6, .ptr 5 0)]; obtain ⟨ρ, G⟩ := G.nilT 8 (.stmts []) (aE2 b vs ars bd j []) [(6, .ptr 5 0)]; obtain ⟨ρ, G⟩ := G.nilT 9 (.stmts []) (aE3 b vs ars bd j []) [(6, .ptr 5 0)]; exact rxv (.agg [iA 1, iA (pk b (j + 1) (vs.length : Int)), iA 0, iA 0, .tref 7, iA (m5 b vs.length ars.length (j + 1 + 1)).fst.kind, iA (m5 b vs.length ars.length (j + 1 + 1)).fst.value, .tref 6, iA 0, .tref 8, .tref 9]) G [0, 1, 2, 3, 4, 7, 6, 8, 9] (by show _ = AV.ren (nth [0, 1, 2, 3, 4, 7, 6, 8, 9]) (G7 b vs ars d j); unfold G7; rw [P8 (by omega) (by omega), aw7 (by omega)] <;> rfl) (by show _ = mR [0, 1, 2, 3, 4, 7, 6, 8, 9] (G6 b vs ars bd d j); unfold G6; rw [P8 (by omega) (by omega), aw7 (by omega)] <;> rfl)
    have q2 := eq_of_beq h2; refine f9 G (B9 (fc h2 fz) [(3, 0), (4, 0), (1005, 0)]) [(79, bA (decide (n > 1)))] fun G => b0 (V5 G (fun h4 q4 => ?_) fun h4 q4 => ?_)
    ·
     refine wp_seq (wp_seq (J2 G b9 (J4 [(15, bA (nm b j B8 != 5))]) fun G => b0 ?_)); cases h5 : (nm b j B8 != 5)
     · have q5 := bne_eq_false_iff_eq.1 h5; exact False.elim (by omega)
     have q5 := bne_iff_ne.1 h5; refine rT G _ h5 (j5 G b9 (rg 8) (.box [.ref 1, iA (j + 1)] :: (F7 b vs ars bd [an6])) (J4 []) fun G => b0 (wp_seq (j5 G (B3 4 [0, 1] (C2 b (j + 1) ((vs.length : Int)) (by omega) (by omega))) (rg 8) (.box [.ref 1, iA (j + 1 + 1)] :: (F7 b vs ars bd [aE5 b vs j])) (J4 []) fun G => b0 (j5 G (B3 2 (rg 5) (N8 b vs ars bd (j + 1 + 1) (by omega) (by omega))) [0, 1, 2, 3, 4, 6, 7, 24] [K3 b vs ars j, dY b, dI vs, dI ars, dT bd, W4, aE7 b vs ars j, T8 b vs ars j] [(6, .ptr 5 0), (8, .ptr 6 0)] fun G => o6 (b0 (wp_seq (j5 G b9 [0, 1, 2, 3, 4, 5, 7] [K3 b vs ars j, dY b, dI vs, dI ars, dT bd, aE6 b vs ars j, T8 b vs ars j] [(6, .ptr 5 0)] fun G => b0 (wp_ret ?_)))))))); obtain ⟨ρ, G⟩ := G.nilT 7 (.exprs []) (aE1 b vs ars bd j []) [(6, .ptr 5 0)]; obtain ⟨ρ, G⟩ := G.nilT 8 (.stmts []) (aE2 b vs ars bd j []) [(6, .ptr 5 0)]; obtain ⟨ρ, G⟩ := G.nilT 9 (.stmts []) (aE3 b vs ars bd j []) [(6, .ptr 5 0)]; exact rxv (.agg [iA 1, iA (pk b (j + 1) (vs.length : Int)), iA 0, iA 0, .tref 7, iA (m5 b vs.length ars.length (j + 1 + 1)).fst.kind, iA (m5 b vs.length ars.length (j + 1 + 1)).fst.value, .tref 6, iA 0, .tref 8, .tref 9]) G [0, 1, 2, 3, 4, 7, 6, 8, 9] (by show _ = AV.ren (nth [0, 1, 2, 3, 4, 7, 6, 8, 9]) (G7 b vs ars d j); unfold G7; rw [P8 (by omega) (by omega), aw7 (by omega)] <;> rfl) (by show _ = mR [0, 1, 2, 3, 4, 7, 6, 8, 9] (G6 b vs ars bd d j); unfold G6; rw [P8 (by omega) (by omega), aw7 (by omega)] <;> rfl)
    refine wp_seq (j5 G (B3 2 [0, 1, 16] (f6.lend (E5 b (j + 1) rcL (by simp [h0, h1, h2, h4]) (by omega) (by omega)) [.no, .no, .row 3])) (rg 8) (.box [.ref 1, iA (j + 1 + 1)] :: (F7 b vs ars bd [.box [iA (nm b j B8), iA 0, iA 0, iA 0, .v (.slice none 0 0), iA 0, iA 0, .v (.slice none 0 0), iA (nm b (j + 1) rcL), .v (.slice none 0 0), .v (.slice none 0 0)]])) (W3 n [(8, .ptr 7 0)]) fun G => b0 (L9 G (s8 (k6 6 [0, 1, 48] (f6.lend (E5 b (j + 1 + 1) rbL (by simp [h0, h1, h2, h4]) (by omega) (by omega)) [.no, .no, .row 3]) (k6 7 (rg 5) (ih (j + 1 + 1 + 1) (n - 1) (nm b (j + 1 + 1) rbL) (by omega) (by omega) (by omega) (by omega) (by omega) (by omega)) s7)) fz []) [0, 0, 0, 4, 0, 0, 48, 127, 255, 511] [0, 1, 2, 3, 4, 6, 7, 64] (as3 b vs ars d j [dT bd, W4, .box [iA (nm b j B8), iA 0, iA 0, iA 0, .v (.slice none 0 0), iA 0, iA 0, .v (.slice none 0 0), iA (nm b (j + 1) rcL), .tref 7, .v (.slice none 0 0)], .tree (D.stmts (y9 (s4 b vs.length ars.length (d - 1)) (nm b (j + 1 + 1) rbL).toNat (j + 1 + 1 + 1)).fst)]) [(6, .ptr 5 0), (8, .ptr 6 0)] [wO (n - 1)] (o1 (by omega)) fun G => o6 (b0 (wp_seq (j5 G b9 [0, 1, 2, 3, 4, 5, 7] (as3 b vs ars d j [dT bd, .box [iA (nm b j B8), iA 0, iA 0, iA 0, .v (.slice none 0 0), iA 0, iA 0, .v (.slice none 0 0), iA (nm b (j + 1) rcL), .tref 6, .v (.slice none 0 0)], .tree (D.stmts (y9 (s4 b vs.length ars.length (d - 1)) (nm b (j + 1 + 1) rbL).toNat (j + 1 + 1 + 1)).fst)]) [(6, .ptr 5 0)] fun G => b0 (wp_ret ?_)))))); obtain ⟨ρ, G⟩ := G.nilT 7 (.exprs []) (as3 b vs ars d j [dT bd, .box [iA (nm b j B8), iA 0, iA 0, iA 0, .tref 7, iA 0, iA 0, .v (.slice none 0 0), iA (nm b (j + 1) rcL), .tref 6, .v (.slice none 0 0)], .tree (D.stmts (y9 (s4 b vs.length ars.length (d - 1)) (nm b (j + 1 + 1) rbL).toNat (j + 1 + 1 + 1)).fst)]) [(6, .ptr 5 0)]; obtain ⟨ρ, G⟩ := G.nilT 8 (.exprs []) (as3 b vs ars d j [dT bd, .box [iA (nm b j B8), iA 0, iA 0, iA 0, .tref 7, iA 0, iA 0, .tref 8, iA (nm b (j + 1) rcL), .tref 6, .v (.slice none 0 0)], .tree (D.stmts (y9 (s4 b vs.length ars.length (d - 1)) (nm b (j + 1 + 1) rbL).toNat (j + 1 + 1 + 1)).fst), .tree (D.exprs [])]) [(6, .ptr 5 0)]; obtain ⟨ρ, G⟩ := G.nilT 9 (.stmts []) (as3 b vs ars d j [dT bd, .box [iA (nm b j B8), iA 0, iA 0, iA 0, .tref 7, iA 0, iA 0, .tref 8, iA (nm b (j + 1) rcL), .tref 6, .tref 9], .tree (D.stmts (y9 (s4 b vs.length ars.length (d - 1)) (nm b (j + 1 + 1) rbL).toNat (j + 1 + 1 + 1)).fst), .tree (D.exprs []), .tree (D.exprs [])]) [(6, .ptr 5 0)]; exact rxv (.agg [iA (nm b j B8), iA 0, iA 0, iA 0, .tref 7, iA 0, iA 0, .tref 8, iA (nm b (j + 1) rcL), .tref 6, .tref 9]) G [0, 1, 2, 3, 4, 7, 8, 6, 9] (by show _ = AV.ren (nth [0, 1, 2, 3, 4, 7, 8, 6, 9]) (G7 b vs ars d j); unfold G7; have e1 : ((s4 b vs.length ars.length d j).fst.kind : Int) = (nm b j B8) := (by rw [az1 (by omega) (by omega)]; show (4 : Int) = _; omega); rw [e1, az1 (by omega) (by omega)] <;> rfl) (by show _ = mR [0, 1, 2, 3, 4, 7, 8, 6, 9] (G6 b vs ars bd d j); unfold G6; rw [az1 (by omega) (by omega)] <;> rfl)
   have q1 := eq_of_beq h1; refine J2 G (B9 (fc h1 fz) [(3, 0), (4, 0), (1005, 0)]) (W3 n [(7, iA (nm b j B8)), (8, .ptr 7 0), (50, bA (decide (n > 1)))]) fun G => b0 (V5 G (fun h6 q6 => ?_) fun h6 q6 => ?_)
   ·
    refine wp_seq ?_; cases h7 : (nm b j B8 == 4)
    ·
     have q7 := ne_of_beq_false h7; refine f9 G (B9 (fc h7 fz) [(3, 0), (4, 0), (1005, 0)]) [(79, bA false)] fun G => b0 (rF G false (by kernel_rfl) (wp_seq (wp_seq (J2 G b9 (J4 [(15, bA (nm b j B8 != 5))]) fun G => b0 ?_)))); cases h8 : (nm b j B8 != 5)
     · have q8 := bne_eq_false_iff_eq.1 h8; exact False.elim (by omega)
     have q8 := bne_iff_ne.1 h8; refine rT G _ h8 (j5 G b9 (rg 8) (.box [.ref 1, iA (j + 1)] :: (F7 b vs ars bd [an6])) (J4 []) fun G => b0 (wp_seq (j5 G (B3 4 [0, 1] (C2 b (j + 1) ((vs.length : Int)) (by omega) (by omega))) (rg 8) (.box [.ref 1, iA (j + 1 + 1)] :: (F7 b vs ars bd [aE5 b vs j])) (J4 []) fun G => b0 (j5 G (B3 2 (rg 5) (N8 b vs ars bd (j + 1 + 1) (by omega) (by omega))) [0, 1, 2, 3, 4, 6, 7, 24] [K3 b vs ars j, dY b, dI vs, dI ars, dT bd, W4, aE7 b vs ars j, T8 b vs ars j] [(6, .ptr 5 0), (8, .ptr 6 0)] fun G => o6 (b0 (wp_seq (j5 G b9 [0, 1, 2, 3, 4, 5, 7] [K3 b vs ars j, dY b, dI vs, dI ars, dT bd, aE6 b vs ars j, T8 b vs ars j] [(6, .ptr 5 0)] fun G => b0 (wp_ret ?_)))))))); obtain ⟨ρ, G⟩ := G.nilT 7 (.exprs []) (aE1 b vs ars bd j []) [(6, .ptr 5 0)]; obtain ⟨ρ, G⟩ := G.nilT 8 (.stmts []) (aE2 b vs ars bd j []) [(6, .ptr 5 0)]; obtain ⟨ρ, G⟩ := G.nilT 9 (.stmts []) (aE3 b vs ars bd j []) [(6, .ptr 5 0)]; exact rxv (.agg [iA 1, iA (pk b (j + 1) (vs.length : Int)), iA 0, iA 0, .tref 7, iA (m5 b vs.length ars.length (j + 1 + 1)).fst.kind, iA (m5 b vs.length ars.length (j + 1 + 1)).fst.value, .tref 6, iA 0, .tref 8, .tref 9]) G [0, 1, 2, 3, 4, 7, 6, 8, 9] (by show _ = AV.ren (nth [0, 1, 2, 3, 4, 7, 6, 8, 9]) (G7 b vs ars d j); unfold G7; rw [P8 (by omega) (by omega), aw7 (by omega)] <;> rfl) (by show _ = mR [0, 1, 2, 3, 4, 7, 6, 8, 9] (G6 b vs ars bd d j); unfold G6; rw [P8 (by omega) (by omega), aw7 (by omega)] <;> rfl)
    have q7 := eq_of_beq h7; exact False.elim (by omega)
   refine wp_seq (j5 G (B3 2 (rg 5) (N8 b vs ars bd (j + 1) (by omega) (by omega))) [0, 1, 2, 3, 4, 5, 6, 7, 24] (.box [.ref 1, iA (m5 b vs.length ars.length (j + 1)).snd] :: (F7 b vs ars bd [.box [iA (nm b j B8), iA 0, iA 0, iA 0, .v (.slice none 0 0), iA (m5 b vs.length ars.length (j + 1)).fst.kind, iA (m5 b vs.length ars.length (j + 1)).fst.value, .tref 8, iA 0, .v (.slice none 0 0), .v (.slice none 0 0)], .tree (D.exprs (m5 b vs.length ars.length (j + 1)).fst.kids)])) (W3 n [(8, .ptr 7 0)]) fun G => b0 (wp_seq (L9 G (s8 (k6 6 [0, 1, 49] (f6.lend (E5 b ((m5 b vs.length ars.length (j + 1)).snd) ibL (by simp [h0, h1, h6]) (by omega) (by omega)) [.no, .no, .row 3]) (k6 7 (rg 5) (ih ((m5 b vs.length ars.length (j + 1)).snd + 1) (n - 1) (nm b (m5 b vs.length ars.length (j + 1)).snd ibL) (by omega) (by omega) (by omega) (by omega) (by omega) (by omega)) s7)) fz []) [0, 0, 0, 4, 0, 0, 48, 127, 255, 511] [0, 1, 2, 3, 4, 5, 6, 7, 8, 65] (.box [.ref 1, iA (al4 b vs ars d j).snd] :: (F7 b vs ars bd [.box [iA (nm b j B8), iA 0, iA 0, iA 0, .v (.slice none 0 0), iA (m5 b vs.length ars.length (j + 1)).fst.kind, iA (m5 b vs.length ars.length (j + 1)).fst.value, .tref 8, iA 0, .tref 9, .v (.slice none 0 0)], .tree (D.exprs (m5 b vs.length ars.length (j + 1)).fst.kids), .tree (D.stmts (al4 b vs ars d j).fst)])) (W3 n [(8, .ptr 7 0)]) [wO (n - 1)] (o1 (by omega)) fun G => b0 (L9 G (s8 (k6 6 [0, 1, 50] (f6.lend (E5 b ((y9 (s4 b vs.length ars.length (d - 1)) (nm b (m5 b vs.length ars.length (j + 1)).snd ibL).toNat ((m5 b vs.length ars.length (j + 1)).snd + 1)).snd) ieL (by simp [h0, h1, h6]) (by omega) (by omega)) [.no, .no, .row 3]) (k6 7 (rg 5) (ih ((y9 (s4 b vs.length ars.length (d - 1)) (nm b (m5 b vs.length ars.length (j + 1)).snd ibL).toNat ((m5 b vs.length ars.length (j + 1)).snd + 1)).snd + 1) (n - 1) (nm b (y9 (s4 b vs.length ars.length (d - 1)) (nm b (m5 b vs.length ars.length (j + 1)).snd ibL).toNat ((m5 b vs.length ars.length (j + 1)).snd + 1)).snd ieL) (by omega) (by omega) (by omega) (by omega) (by omega) (by omega)) s7)) fz []) [0, 0, 0, 4, 0, 0, 48, 127, 255, 511] [0, 1, 2, 3, 4, 6, 7, 8, 9, 66] [.box [.ref 1, iA (aE8 b vs ars d j).snd], dY b, dI vs, dI ars, dT bd, W4, .box [iA (nm b j B8), iA 0, iA 0, iA 0, .v (.slice none 0 0), iA (m5 b vs.length ars.length (j + 1)).fst.kind, iA (m5 b vs.length ars.length (j + 1)).fst.value, .tref 7, iA 0, .tref 8, .tref 9], .tree (D.exprs (m5 b vs.length ars.length (j + 1)).fst.kids), .tree (D.stmts (al4 b vs ars d j).fst), .tree (D.stmts (aE8 b vs ars d j).fst)] [(6, .ptr 5 0), (8, .ptr 6 0)] [wO (n - 1)] (o1 (by omega)) fun G => o6 (b0 (wp_seq (j5 G b9 [0, 1, 2, 3, 4, 5, 7, 8, 9] [.box [.ref 1, iA (aE8 b vs ars d j).snd], dY b, dI vs, dI ars, dT bd, .box [iA (nm b j B8), iA 0, iA 0, iA 0, .v (.slice none 0 0), iA (m5 b vs.length ars.length (j + 1)).fst.kind, iA (m5 b vs.length ars.length (j + 1)).fst.value, .tref 6, iA 0, .tref 7, .tref 8], .tree (D.exprs (m5 b vs.length ars.length (j + 1)).fst.kids), .tree (D.stmts (al4 b vs ars d j).fst), .tree (D.stmts (aE8 b vs ars d j).fst)] [(6, .ptr 5 0)] fun G => b0 (wp_ret ?_)))))))); obtain ⟨ρ, G⟩ := G.nilT 9 (.exprs []) [.box [.ref 1, iA (y9 (s4 b vs.length ars.length (d - 1)) (nm b (y9 (s4 b vs.length ars.length (d - 1)) (nm b (m5 b vs.length ars.length (j + 1)).snd ibL).toNat ((m5 b vs.length ars.length (j + 1)).snd + 1)).snd ieL).toNat ((y9 (s4 b vs.length ars.length (d - 1)) (nm b (m5 b vs.length ars.length (j + 1)).snd ibL).toNat ((m5 b vs.length ars.length (j + 1)).snd + 1)).snd + 1)).snd], dY b, dI vs, dI ars, dT bd, .box [iA (nm b j B8), iA 0, iA 0, iA 0, .tref 9, iA (m5 b vs.length ars.length (j + 1)).fst.kind, iA (m5 b vs.length ars.length (j + 1)).fst.value, .tref 6, iA 0, .tref 7, .tref 8], .tree (D.exprs (m5 b vs.length ars.length (j + 1)).fst.kids), .tree (D.stmts (y9 (s4 b vs.length ars.length (d - 1)) (nm b (m5 b vs.length ars.length (j + 1)).snd ibL).toNat ((m5 b vs.length ars.length (j + 1)).snd + 1)).fst), .tree (D.stmts (y9 (s4 b vs.length ars.length (d - 1)) (nm b (y9 (s4 b vs.length ars.length (d - 1)) (nm b (m5 b vs.length ars.length (j + 1)).snd ibL).toNat ((m5 b vs.length ars.length (j + 1)).snd + 1)).snd ieL).toNat ((y9 (s4 b vs.length ars.length (d - 1)) (nm b (m5 b vs.length ars.length (j + 1)).snd ibL).toNat ((m5 b vs.length ars.length (j + 1)).snd + 1)).snd + 1)).fst)] [(6, .ptr 5 0)]
   exact rxv (.agg [iA (nm b j B8), iA 0, iA 0, iA 0, .tref 9, iA (m5 b vs.length ars.length (j + 1)).fst.kind, iA (m5 b vs.length ars.length (j + 1)).fst.value, .tref 6, iA 0, .tref 7, .tref 8]) G [0, 1, 2, 3, 4, 9, 6, 7, 8] (by show _ = AV.ren (nth [0, 1, 2, 3, 4, 9, 6, 7, 8]) (G7 b vs ars d j); unfold G7; have e1 : ((s4 b vs.length ars.length d j).fst.kind : Int) = (nm b j B8) := (by rw [az2 (by omega) (by omega)]; show (3 : Int) = _; omega); rw [e1, az2 (by omega) (by omega)] <;> rfl) (by show _ = mR [0, 1, 2, 3, 4, 9, 6, 7, 8] (G6 b vs ars bd d j); unfold G6; rw [az2 (by omega) (by omega)] <;> rfl)
  have q0 := eq_of_beq h0; refine J2 G (B9 (fc h0 fz) (us [(3, 6, 0), (1007, 1007, 0)])) (W3 n [(7, iA (nm b j B8)), (8, .ptr 7 0), (27, bA (decide ((ars.length : Int) > 0)))]) fun G => b0 (V5 G (fun h9 q9 => ?_) fun h9 q9 => ?_)
  ·
   refine wp_seq ?_; cases h10 : (nm b j B8 == 3)
   ·
    have q10 := ne_of_beq_false h10; refine J2 G (B9 (fc h10 fz) [(3, 0), (4, 0), (1005, 0)]) (W3 n [(7, iA (nm b j B8)), (8, .ptr 7 0), (50, bA false)]) fun G => b0 (rF G false (by kernel_rfl) (wp_seq ?_)); cases h11 : (nm b j B8 == 4)
    ·
     have q11 := ne_of_beq_false h11; refine f9 G (B9 (fc h11 fz) [(3, 0), (4, 0), (1005, 0)]) [(79, bA false)] fun G => b0 (rF G false (by kernel_rfl) (wp_seq (wp_seq (J2 G b9 (J4 [(15, bA (nm b j B8 != 5))]) fun G => b0 ?_)))); cases h12 : (nm b j B8 != 5)
     · have q12 := bne_eq_false_iff_eq.1 h12; exact False.elim (by omega)
     have q12 := bne_iff_ne.1 h12; refine rT G _ h12 (j5 G b9 (rg 8) (.box [.ref 1, iA (j + 1)] :: (F7 b vs ars bd [an6])) (J4 []) fun G => b0 (wp_seq (j5 G (B3 4 [0, 1] (C2 b (j + 1) ((vs.length : Int)) (by omega) (by omega))) (rg 8) (.box [.ref 1, iA (j + 1 + 1)] :: (F7 b vs ars bd [aE5 b vs j])) (J4 []) fun G => b0 (j5 G (B3 2 (rg 5) (N8 b vs ars bd (j + 1 + 1) (by omega) (by omega))) [0, 1, 2, 3, 4, 6, 7, 24] [K3 b vs ars j, dY b, dI vs, dI ars, dT bd, W4, aE7 b vs ars j, T8 b vs ars j] [(6, .ptr 5 0), (8, .ptr 6 0)] fun G => o6 (b0 (wp_seq (j5 G b9 [0, 1, 2, 3, 4, 5, 7] [K3 b vs ars j, dY b, dI vs, dI ars, dT bd, aE6 b vs ars j, T8 b vs ars j] [(6, .ptr 5 0)] fun G => b0 (wp_ret ?_)))))))); obtain ⟨ρ, G⟩ := G.nilT 7 (.exprs []) (aE1 b vs ars bd j []) [(6, .ptr 5 0)]; obtain ⟨ρ, G⟩ := G.nilT 8 (.stmts []) (aE2 b vs ars bd j []) [(6, .ptr 5 0)]; obtain ⟨ρ, G⟩ := G.nilT 9 (.stmts []) (aE3 b vs ars bd j []) [(6, .ptr 5 0)]; exact rxv (.agg [iA 1, iA (pk b (j + 1) (vs.length : Int)), iA 0, iA 0, .tref 7, iA (m5 b vs.length ars.length (j + 1 + 1)).fst.kind, iA (m5 b vs.length ars.length (j + 1 + 1)).fst.value, .tref 6, iA 0, .tref 8, .tref 9]) G [0, 1, 2, 3, 4, 7, 6, 8, 9] (by show _ = AV.ren (nth [0, 1, 2, 3, 4, 7, 6, 8, 9]) (G7 b vs ars d j); unfold G7; rw [P8 (by omega) (by omega), aw7 (by omega)] <;> rfl) (by show _ = mR [0, 1, 2, 3, 4, 7, 6, 8, 9] (G6 b vs ars bd d j); unfold G6; rw [P8 (by omega) (by omega), aw7 (by omega)] <;> rfl)
    have q11 := eq_of_beq h11; exact False.elim (by omega)
   have q10 := eq_of_beq h10; exact False.elim (by omega)
  refine wp_seq (j5 G (B3 4 [0, 1] (C2 b (j + 1) ((ars.length : Int)) (by omega) (by omega))) (rg 8) (.box [.ref 1, iA (j + 1 + 1)] :: (F7 b vs ars bd [.box [iA (nm b j B8), iA (pk b (j + 1) (ars.length : Int)), iA 0, iA 0, .v (.slice none 0 0), iA 0, iA 0, .v (.slice none 0 0), iA 0, .v (.slice none 0 0), .v (.slice none 0 0)]])) (J4 []) fun G => b0 (wp_seq (j5 G (B3 2 (rg 5) (ab4 b (j + 1 + 1) vs ars bd (by omega) (by omega))) [0, 1, 2, 3, 4, 5, 6, 7, 24] (.box [.ref 1, iA (j + 1 + 1 + 2)] :: (F7 b vs ars bd [.box [iA (nm b j B8), iA (pk b (j + 1) (ars.length : Int)), iA (j0 b (vs.length : Int) (j + 1 + 1)).kind, iA (j0 b (vs.length : Int) (j + 1 + 1)).value, .tref 8, iA 0, iA 0, .v (.slice none 0 0), iA 0, .v (.slice none 0 0), .v (.slice none 0 0)], .tree (D.exprs (j0 b (vs.length : Int) (j + 1 + 1)).kids)])) (J4 []) fun G => b0 (j5 G (B3 2 (rg 5) (N8 b vs ars bd (j + 1 + 1 + 2) (by omega) (by omega))) [0, 1, 2, 3, 4, 6, 7, 8, 25] (.box [.ref 1, iA (m5 b vs.length ars.length (j + 1 + 1 + 2)).snd] :: dY b :: dI vs :: dI ars :: dT bd :: W4 :: .box [iA (nm b j B8), iA (pk b (j + 1) (ars.length : Int)), iA (j0 b (vs.length : Int) (j + 1 + 1)).kind, iA (j0 b (vs.length : Int) (j + 1 + 1)).value, .tref 7, iA (m5 b vs.length ars.length (j + 1 + 1 + 2)).fst.kind, iA (m5 b vs.length ars.length (j + 1 + 1 + 2)).fst.value, .tref 8, iA 0, .v (.slice none 0 0), .v (.slice none 0 0)] :: (aE0 b vs ars j [])) [(6, .ptr 5 0), (8, .ptr 6 0)] fun G => o6 (b0 (wp_seq (j5 G b9 [0, 1, 2, 3, 4, 5, 7, 8] (.box [.ref 1, iA (m5 b vs.length ars.length (j + 1 + 1 + 2)).snd] :: dY b :: dI vs :: dI ars :: dT bd :: .box [iA (nm b j B8), iA (pk b (j + 1) (ars.length : Int)), iA (j0 b (vs.length : Int) (j + 1 + 1)).kind, iA (j0 b (vs.length : Int) (j + 1 + 1)).value, .tref 6, iA (m5 b vs.length ars.length (j + 1 + 1 + 2)).fst.kind, iA (m5 b vs.length ars.length (j + 1 + 1 + 2)).fst.value, .tref 7, iA 0, .v (.slice none 0 0), .v (.slice none 0 0)] :: (aE0 b vs ars j [])) [(6, .ptr 5 0)] fun G => b0 (wp_ret ?_)))))))); obtain ⟨ρ, G⟩ := G.nilT 8 (.stmts []) (.box [.ref 1, iA (m5 b vs.length ars.length (j + 1 + 1 + 2)).snd] :: dY b :: dI vs :: dI ars :: dT bd :: .box [iA (nm b j B8), iA (pk b (j + 1) (ars.length : Int)), iA (j0 b (vs.length : Int) (j + 1 + 1)).kind, iA (j0 b (vs.length : Int) (j + 1 + 1)).value, .tref 6, iA (m5 b vs.length ars.length (j + 1 + 1 + 2)).fst.kind, iA (m5 b vs.length ars.length (j + 1 + 1 + 2)).fst.value, .tref 7, iA 0, .tref 8, .v (.slice none 0 0)] :: (aE0 b vs ars j [])) [(6, .ptr 5 0)]; obtain ⟨ρ, G⟩ := G.nilT 9 (.stmts []) (.box [.ref 1, iA (m5 b vs.length ars.length (j + 1 + 1 + 2)).snd] :: dY b :: dI vs :: dI ars :: dT bd :: .box [iA (nm b j B8), iA (pk b (j + 1) (ars.length : Int)), iA (j0 b (vs.length : Int) (j + 1 + 1)).kind, iA (j0 b (vs.length : Int) (j + 1 + 1)).value, .tref 6, iA (m5 b vs.length ars.length (j + 1 + 1 + 2)).fst.kind, iA (m5 b vs.length ars.length (j + 1 + 1 + 2)).fst.value, .tref 7, iA 0, .tref 8, .tref 9] :: (aE0 b vs ars j [.tree (D.stmts [])])) [(6, .ptr 5 0)]
  exact rxv (.agg [iA (nm b j B8), iA (pk b (j + 1) (ars.length : Int)), iA (j0 b (vs.length : Int) (j + 1 + 1)).kind, iA (j0 b (vs.length : Int) (j + 1 + 1)).value, .tref 6, iA (m5 b vs.length ars.length (j + 1 + 1 + 2)).fst.kind, iA (m5 b vs.length ars.length (j + 1 + 1 + 2)).fst.value, .tref 7, iA 0, .tref 8, .tref 9]) G [0, 1, 2, 3, 4, 6, 7, 8, 9] (by show _ = AV.ren (nth [0, 1, 2, 3, 4, 6, 7, 8, 9]) (G7 b vs ars d j); unfold G7; have e1 : ((s4 b vs.length ars.length d j).fst.kind : Int) = (nm b j B8) := (by rw [aN7 (by omega) (by omega)]; show (2 : Int) = _; omega); rw [e1, aN7 (by omega) (by omega)] <;> rfl) (by show _ = mR [0, 1, 2, 3, 4, 6, 7, 8, 9] (G6 b vs ars bd d j); unfold G6; rw [aN7 (by omega) (by omega)] <;> rfl)
theorem ax5 (b : List UInt8) (vs ars : List Int) (bd : List b5) (d : Nat) (h : ∀ (j n : Int), n = d -> 0 <= j -> j + cS d <= 600000000 -> f6.ok Tryd.prog (dsC b vs ars bd d j n)) (m : Nat) (j n c B : Int) (hn : n = d) (hm : c = m) (hm2 : m <= 4) (hB : (m : Int) * cS d <= B) (r0 : 0 <= j) (r1 : j + B <= 600000000) : f6.ok Tryd.prog (dbC b vs ars bd d m j n c) :=
 aX6 b vs ars bd d m h j n c hn hm hm2 B hB r0 r1
theorem aU2 (b : List UInt8) (vs ars : List Int) (bd : List b5) : ∀ (d : Nat), d <= 3 -> ∀ (j n : Int), n = d -> 0 <= j -> j + cS d <= 600000000 -> f6.ok Tryd.prog (dsC b vs ars bd d j n)
 | 0, hd, j, n, hn, r0, r1 => aO3 b vs ars bd 0 (by omega) (fun j n c h => absurd h (by omega)) j n hn r0 r1
 | d + 1, hd, j, n, hn, r0, r1 => aO3 b vs ars bd (d + 1) hd (fun j n c h hn h0 h2 r0 r1 => ax5 b vs ars bd d (aU2 b vs ars bd d (by omega)) c.toNat j n c (2 * cS d) (by omega) (by omega) (by omega) (bc0 h0 h2 (Int.le_trans (by decide) (ad5 d))) r0 (by simpa using r1)) j n hn r0 r1
theorem be4 : cS 3 = 34170 := by decide
theorem a81 (b : List UInt8) (vs ars : List Int) (bd : List b5) (j n c : Int) (hn : n = 3) (h0 : 0 <= c) (h4 : c <= 4) (r0 : 0 <= j) (r1 : j <= 100000000) : f6.ok Tryd.prog (dbC b vs ars bd 3 c.toNat j n c) :=
 ax5 b vs ars bd 3 (aU2 b vs ars bd 3 (by omega)) c.toNat j n c (4 * cS 3) (by omega) (by omega) (by omega) (bh8 h0 h4 (by rw [be4]; decide)) r0 (by rw [be4]; omega)
abbrev pgC (b : List UInt8) (j : Int) : f6 := ⟨42, [.ptr 0 0], [.box [.ref 1, iA j], dY b], [.box [.ref 1, iA (bdD b j).2], dY b] ++ oP (pgD b j), oA 2⟩
theorem aG6 {b : List UInt8} {l : List Int} {n i p : Int} (h : i > 0) (h2 : i <= n) : V7 b l (n - (i - 1)).toNat p = V7 b l (n - i).toNat p ++ [nm b (p + (n - i)) l] := by
 rw [show (n - (i - 1)).toNat = (n - i).toNat + 1 by omega, aQ4, show (((n - i).toNat : Nat) : Int) = n - i by omega]
theorem aG5 {b : List UInt8} {l : List Int} {n p : Int} : V7 b l (n - n).toNat p = [] := by rw [Int.sub_self]; rfl
theorem ae3 (vs ars : List Int) (bd : List b5) (hb : o3 bd <= 1048576) : f6.ok Tryd.prog (D8 22 [pA 0] [dI vs, dI ars, dT bd] (bA (o9 ⟨vs, ars, bd⟩))) := aj7 ⟨vs, ars, bd⟩ hb
theorem bh7 {b : List UInt8} {j : Int} (h : o9 ⟨R2 b j, asD b j, (y9 (s4 b (R2 b j).length (asD b j).length 3) (nm b (Y3 b j) nbL).toNat (Y3 b j + 1)).1⟩ = true) : pgD b j = ⟨R2 b j, asD b j, (bdD b j).1⟩ := if_pos h
theorem bh6 {b : List UInt8} {j : Int} (h : o9 ⟨R2 b j, asD b j, (y9 (s4 b (R2 b j).length (asD b j).length 3) (nm b (Y3 b j) nbL).toNat (Y3 b j + 1)).1⟩ = false) : pgD b j = fbP := if_neg (by intro h2; have h3 : o9 ⟨R2 b j, asD b j, (y9 (s4 b (R2 b j).length (asD b j).length 3) (nm b (Y3 b j) nbL).toNat (Y3 b j + 1)).1⟩ = true := h2; rw [h] at h3; cases h3)
theorem bb3 (b : List UInt8) (j : Int) : j + 1 + (nm b j O5 - 0) = A6 b j := by unfold A6; omega
theorem bb2 (b : List UInt8) (j : Int) : V7 b viL (nm b j O5 - 0).toNat (j + 1) = R2 b j := by unfold R2; rw [Int.sub_zero]
theorem bb1 (b : List UInt8) (j : Int) : A6 b j + 1 + (nm b (A6 b j) M9 - 0) = Y3 b j := by unfold Y3; omega
theorem bb0 (b : List UInt8) (j : Int) : V7 b aiL (nm b (A6 b j) M9 - 0).toNat (A6 b j + 1) = asD b j := by unfold asD; rw [Int.sub_zero]
abbrev ac2 (b : List UInt8) (j : Int) := y9 (s4 b (R2 b j).length (asD b j).length 3) (nm b (Y3 b j) nbL).toNat (Y3 b j + 1)
abbrev aE4 (b : List UInt8) (j : Int) : List It := [.box [.ref 1, iA (bdD b j).snd], dY b, .row 3 (D.ints (pgD b j).vars), .row 3 (D.ints (pgD b j).arrays), .tree (D.stmts (pgD b j).body)]
abbrev F8 : It := .box [.v (.slice none 0 0), .v (.slice none 0 0), .v (.slice none 0 0)]
abbrev as6 : It := .box [.ref 4, .v (.slice none 0 0), .v (.slice none 0 0)]
abbrev aM5 : It := .tree (D.stmts [b5.mk 1 1 (b6.mk 0 0 []) (b6.mk 2 0 []) 0 [] []])
theorem ad4 (b : List UInt8) (j : Int) (r0 : 0 <= j) (r1 : j <= 10000000) : f6.ok Tryd.prog (pgC b j) := by
  refine F0 52 Tryd.func42 [.box [.ref 1, iA j], dY b] [(0, .ptr 0 0)] fun G => ?_; have hnv := a62 b r0 (by omega); have hk1 := aR9 b r0 r1; have hk2 := aR8 b r0 r1; have hna := a67 b (k := A6 b j) (by omega) (by omega); have hnb := bb8 b (k := Y3 b j) (by omega) (by omega); have hvl := aM7 b r0 r1; have hal := aV3 b r0 r1; have hbd := aV2 b r0 r1; have hbs : o3 (y9 (s4 b (R2 b j).length (asD b j).length 3) (nm b (Y3 b j) nbL).toNat (Y3 b j + 1)).1 <= 1048576 := bk9 hbd.2.2 (by omega); refine wp_seq (j5 G b9 [0, 1, 2] [.box [.ref 1, iA j], dY b, F8] [(0, .ptr 0 0), (2, .ptr 2 0)] fun G => b0 (wp_seq (j5 G b9 [0, 1, 2, 11] [.box [.ref 1, iA j], dY b, F8, F8] [(0, .ptr 0 0), (2, .ptr 2 0), (3, .ptr 3 0)] fun G => b0 (wp_seq (wp_seq (j5 G (B3 2 [0, 1, 12] (f6.lend (E5 b j O5 (List.cons_ne_nil _ _) (by assumption) (by omega)) [.no, .no, .row 3])) (rg 4) [.box [.ref 1, iA (j + 1)], dY b, F8, F8] [(0, .ptr 0 0), (2, .ptr 2 0), (3, .ptr 3 0), (4, iA (nm b j O5))] fun G => b0 (wp_block ?_))))))); have Gx := G.nil 4 3 (.ints []) 1 [.box [.ref 1, iA (j + 1)], dY b, F8, as6] [(0, .ptr 0 0), (2, .ptr 2 0), (3, .ptr 3 0), (4, iA (nm b j O5))]; clear G; obtain ⟨ρ, G⟩ := Gx; replace G := o8.at G [.box [.ref 1, iA (j + 1)], dY b, F8, as6, .row 3 (D.ints [])] [(0, .ptr 0 0), (2, .ptr 2 0), (3, .ptr 3 0), (4, iA (nm b j O5))]; replace G := G.as [.box [.ref 1, iA (j + 1 + (nm b j O5 - nm b j O5))], dY b, .box [.v (.slice none 0 0), .v (.slice none 0 0), .v (.slice none 0 0)], .box [.ref 4, .v (.slice none 0 0), .v (.slice none 0 0)], .row 3 (D.ints (V7 b viL (nm b j O5 - nm b j O5).toNat (j + 1)))] [(0, .ptr 0 0), (2, .ptr 2 0), (3, .ptr 3 0), (4, iA (nm b j O5))] (by have e1 : (j + 1 + (nm b j O5 - nm b j O5) : Int) = (j + 1) := (by omega); have e2 : (V7 b viL (nm b j O5 - nm b j O5).toNat (j + 1) : List Int) = ([]) := aG5; (first | rw [e1, e2] | simp only [e1, e2]) <;> rfl) (by kernel_rfl); refine x3 (κ := Int) (fun i => 0 <= i /\ i <= nm b j O5) (fun i => i.toNat) (fun i => [.box [.ref 1, iA (j + 1 + (nm b j O5 - i))], dY b, .box [.v (.slice none 0 0), .v (.slice none 0 0), .v (.slice none 0 0)], .box [.ref 4, .v (.slice none 0 0), .v (.slice none 0 0)], .row 3 (.ints (V7 b viL (nm b j O5 - i).toNat (j + 1)))]) (fun i => [(0, .ptr 0 0), (2, .ptr 2 0), (3, .ptr 3 0), (4, iA i)]) (nm b j O5) (by omega) (o8.at G _ _) ?_; clear G; intro i ρ a w hp G; replace G := o8.at G [.box [.ref 1, iA (j + 1 + (nm b j O5 - i))], dY b, F8, as6, .row 3 (D.ints (V7 b viL (nm b j O5 - i).toNat (j + 1)))] [(0, .ptr 0 0), (2, .ptr 2 0), (3, .ptr 3 0), (4, iA i)]; have hlen : (V7 b viL (nm b j O5 - i).toNat (j + 1)).length = (nm b j O5 - i).toNat := R9 _ _ _ _; refine wp_seq (wp_seq (J2 G b9 [(0, .ptr 0 0), (2, .ptr 2 0), (3, .ptr 3 0), (4, iA i), (11, bA (decide (i > 0)))] fun G => b0 ?_)); cases h0 : (decide (i > 0))
  ·
   have q0 := P3 h0
   obtain rfl : i = 0 := by omega
   rw [bb3, bb2] at G; refine rF G false (by kernel_rfl) (wp_exit (w6 (w6 (w4 (b0 (wp_seq (wp_seq (j5 G (B3 2 [0, 1, 13] (f6.lend (E5 b (A6 b j) M9 (by simp [h0]) (by omega) (by omega)) [.no, .no, .row 3])) (rg 5) [.box [.ref 1, iA (A6 b j + 1)], dY b, F8, as6, .row 3 (D.ints (R2 b j))] [(0, .ptr 0 0), (2, .ptr 2 0), (3, .ptr 3 0), (5, iA (nm b (A6 b j) M9))] fun G => b0 (wp_block ?_))))))))); have Gx := G.nil 5 3 (.ints []) 1 [.box [.ref 1, iA (A6 b j + 1)], dY b, F8, .box [.ref 4, .ref 5, .v (.slice none 0 0)], .row 3 (D.ints (R2 b j))] [(0, .ptr 0 0), (2, .ptr 2 0), (3, .ptr 3 0), (5, iA (nm b (A6 b j) M9))]; clear G; obtain ⟨ρ, G⟩ := Gx; replace G := o8.at G [.box [.ref 1, iA (A6 b j + 1)], dY b, F8, .box [.ref 4, .ref 5, .v (.slice none 0 0)], .row 3 (D.ints (R2 b j)), .row 3 (D.ints [])] [(0, .ptr 0 0), (2, .ptr 2 0), (3, .ptr 3 0), (5, iA (nm b (A6 b j) M9))]; have Gx := G.nilT 6 (.stmts []) [.box [.ref 1, iA (A6 b j + 1)], dY b, F8, .box [.ref 4, .ref 5, .tref 6], .row 3 (D.ints (R2 b j)), .row 3 (D.ints [])] [(0, .ptr 0 0), (2, .ptr 2 0), (3, .ptr 3 0), (5, iA (nm b (A6 b j) M9))]; clear G; obtain ⟨ρ, G⟩ := Gx; replace G := o8.at G [.box [.ref 1, iA (A6 b j + 1)], dY b, F8, .box [.ref 4, .ref 5, .tref 6], .row 3 (D.ints (R2 b j)), .row 3 (D.ints []), .tree (D.stmts [])] [(0, .ptr 0 0), (2, .ptr 2 0), (3, .ptr 3 0), (5, iA (nm b (A6 b j) M9))]; replace G := G.as [.box [.ref 1, iA (A6 b j + 1 + (nm b (A6 b j) M9 - nm b (A6 b j) M9))], dY b, .box [.v (.slice none 0 0), .v (.slice none 0 0), .v (.slice none 0 0)], .box [.ref 4, .ref 5, .tref 6], .row 3 (D.ints (R2 b j)), .row 3 (D.ints (V7 b aiL (nm b (A6 b j) M9 - nm b (A6 b j) M9).toNat (A6 b j + 1))), .tree (D.stmts [])] [(0, .ptr 0 0), (2, .ptr 2 0), (3, .ptr 3 0), (5, iA (nm b (A6 b j) M9))] (by have e1 : (A6 b j + 1 + (nm b (A6 b j) M9 - nm b (A6 b j) M9) : Int) = (A6 b j + 1) := (by omega); have e2 : (V7 b aiL (nm b (A6 b j) M9 - nm b (A6 b j) M9).toNat (A6 b j + 1) : List Int) = ([]) := aG5; (first | rw [e1, e2] | simp only [e1, e2]) <;> rfl) (by kernel_rfl); refine x3 (κ := Int) (fun i2 => 0 <= i2 /\ i2 <= nm b (A6 b j) M9) (fun i2 => i2.toNat) (fun i2 => [.box [.ref 1, iA (A6 b j + 1 + (nm b (A6 b j) M9 - i2))], dY b, .box [.v (.slice none 0 0), .v (.slice none 0 0), .v (.slice none 0 0)], .box [.ref 4, .ref 5, .tref 6], .row 3 (D.ints (R2 b j)), .row 3 (.ints (V7 b aiL (nm b (A6 b j) M9 - i2).toNat (A6 b j + 1))), .tree (D.stmts [])]) (fun i2 => [(0, .ptr 0 0), (2, .ptr 2 0), (3, .ptr 3 0), (5, iA i2)]) (nm b (A6 b j) M9) (by omega) (o8.at G _ _) ?_; clear G; intro i2 ρ a w hp G; replace G := o8.at G [.box [.ref 1, iA (A6 b j + 1 + (nm b (A6 b j) M9 - i2))], dY b, F8, .box [.ref 4, .ref 5, .tref 6], .row 3 (D.ints (R2 b j)), .row 3 (D.ints (V7 b aiL (nm b (A6 b j) M9 - i2).toNat (A6 b j + 1))), .tree (D.stmts [])] [(0, .ptr 0 0), (2, .ptr 2 0), (3, .ptr 3 0), (5, iA i2)]; have hlen : (V7 b aiL (nm b (A6 b j) M9 - i2).toNat (A6 b j + 1)).length = (nm b (A6 b j) M9 - i2).toNat := R9 _ _ _ _; refine wp_seq (wp_seq (J2 G b9 [(0, .ptr 0 0), (2, .ptr 2 0), (3, .ptr 3 0), (5, iA i2), (26, bA (decide (i2 > 0)))] fun G => b0 ?_)); cases h1 : (decide (i2 > 0))
   ·
    have q1 := P3 h1
    obtain rfl : i2 = 0 := by omega
    rw [bb1, bb0] at G; refine rF G false (by kernel_rfl) (wp_exit (w6 (w6 (w4 (b0 (wp_seq (aP5 G (s8 (k6 4 [0, 1, 31] (f6.lend (E5 b (Y3 b j) nbL (by simp [h0, h1]) (by omega) (by omega)) [.no, .no, .row 3]) (k6 5 [0, 1, 4, 5, 6] (f6.lend (a81 b (R2 b j) (asD b j) ([]) (Y3 b j + 1) 3 (nm b (Y3 b j) nbL) (by kernel_rfl) (by omega) (by omega) (by omega) (by omega)) [.no, .no, .row 3, .row 3, .tree]) s7)) fz []) [0, 0, 0, 0, 12, 31, 63, 127] [0, 1, 2, 3, 4, 5, 47] [.box [.ref 1, iA (ac2 b j).snd], dY b, F8, .box [.ref 4, .ref 5, .tref 6], .row 3 (D.ints (R2 b j)), .row 3 (D.ints (asD b j)), .tree (D.stmts (ac2 b j).fst)] [(2, .ptr 2 0), (3, .ptr 3 0)] fun G => b0 (wp_seq (wp_seq (f9 G (B3 1 [4, 5, 6] (f6.lend (ae3 (R2 b j) (asD b j) ((y9 (s4 b (R2 b j).length (asD b j).length 3) (nm b (Y3 b j) nbL).toNat (Y3 b j + 1)).fst) (by assumption)) [.row 3, .row 3, .tree])) [(45, bA (o9 (c9.mk (R2 b j) (asD b j) (ac2 b j).fst)))] fun G => b0 (rcB (b := o9 (c9.mk (R2 b j) (asD b j) (y9 (s4 b (R2 b j).length (asD b j).length (3 : Nat)) (nm b (Y3 b j) nbL).toNat (Y3 b j + 1)).fst)) G (fun h2 => ?_) fun h2 => ?_)))))))))))
    · refine wp_skip (b0 (wp_seq (j5 G b9 [0, 1, 2, 7, 31] [.box [.ref 1, iA (ac2 b j).snd], dY b, .box [.ref 3, .v (.slice none 0 0), .tref 4], .row 3 (D.ints ([0] ++ ([1] ++ []))), aM5] [(2, .ptr 2 0)] fun G => b0 (wp_ret ?_)))); have Gx := G.nil 5 3 (.ints []) 1 [.box [.ref 1, iA (ac2 b j).snd], dY b, .box [.ref 3, .ref 5, .tref 4], .row 3 (D.ints ([0] ++ ([1] ++ []))), aM5] [(2, .ptr 2 0)]; clear G; obtain ⟨ρ, G⟩ := Gx; replace G := o8.at G [.box [.ref 1, iA (ac2 b j).snd], dY b, .box [.ref 3, .ref 5, .tref 4], .row 3 (D.ints ([0] ++ ([1] ++ []))), aM5, .row 3 (D.ints [])] [(2, .ptr 2 0)]; exact K9 G [0, 1, 3, 5, 4] (by show _ = mR [0, 1, 3, 5, 4] (aE4 b j); unfold aE4; rw [bh6 (by with_reducible assumption)] <;> rfl)
    refine wp_seq (j5 G b9 [0, 1, 2, 4, 5, 6] [.box [.ref 1, iA (ac2 b j).snd], dY b, .box [.ref 3, .ref 4, .tref 5], .row 3 (D.ints (R2 b j)), .row 3 (D.ints (asD b j)), .tree (D.stmts (ac2 b j).fst)] [(2, .ptr 2 0)] fun G => b0 (wp_ret (f7 ?_))); exact K9 G [0, 1, 3, 4, 5] (by show _ = mR [0, 1, 3, 4, 5] (aE4 b j); unfold aE4; rw [bh7 (by with_reducible assumption)] <;> rfl)
   have q1 := P2 h1; refine rT G _ h1 (wp_skip (b0 (wp_seq (wp_block (L9 G (B3 4 [0, 1, 31] (f6.lend (E5 b (A6 b j + 1 + (nm b (A6 b j) M9 - i2)) aiL (by simp [h0, h1]) (by omega) (by omega)) [.no, .no, .row 3])) [0, 1, 0, 0, 12, 28, 63, 127, 255] [0, 1, 2, 3, 4, 6, 55] [.box [.ref 1, iA (A6 b j + 1 + (nm b (A6 b j) M9 - i2) + 1)], dY b, F8, .box [.ref 4, .ref 6, .tref 5], .row 3 (D.ints (R2 b j)), .tree (D.stmts []), .row 3 (D.ints (V7 b aiL (nm b (A6 b j) M9 - i2).toNat (A6 b j + 1) ++ ([nm b (A6 b j + 1 + (nm b (A6 b j) M9 - i2)) aiL] ++ [])))] [(0, .ptr 0 0), (2, .ptr 2 0), (3, .ptr 3 0), (5, iA i2)] (aP ((V7 b aiL (nm b (A6 b j) M9 - i2).toNat (A6 b j + 1)).length + ([nm b (A6 b j + 1 + (nm b (A6 b j) M9 - i2)) aiL] ++ []).length) 8 []) (aK (by simp only [bl6, bk4, bk7, R9]; omega) bm6) fun G => o6 (b0 (J1 G b9 [(5, iA (i2 - 1))] [wO (i2 - 1)] (o1 (by omega)) fun G => b0 ?_))))))); exact rxn G (i2 - 1) (by omega) (by omega) [0, 1, 2, 3, 4, 6, 5] (by have e1 : (A6 b j + 1 + (nm b (A6 b j) M9 - (i2 - 1)) : Int) = (A6 b j + 1 + (nm b (A6 b j) M9 - i2) + 1) := (by omega); have e2 : (V7 b aiL (nm b (A6 b j) M9 - (i2 - 1)).toNat (A6 b j + 1) : List Int) = (V7 b aiL (nm b (A6 b j) M9 - i2).toNat (A6 b j + 1) ++ ([nm b (A6 b j + 1 + (nm b (A6 b j) M9 - i2)) aiL] ++ [])) := (aG6 (by omega) (by omega)); (first | rw [e1, e2] | simp only [e1, e2]) <;> rfl)
  have q0 := P2 h0; refine rT G _ h0 (wp_skip (b0 (wp_seq (wp_block (L9 G (B3 4 [0, 1, 29] (f6.lend (E5 b (j + 1 + (nm b j O5 - i)) viL (by simp [h0]) (by omega) (by omega)) [.no, .no, .row 3])) [0, 1, 0, 0, 12, 28, 63, 127, 255] [0, 1, 2, 3, 53] [.box [.ref 1, iA (j + 1 + (nm b j O5 - i) + 1)], dY b, F8, as6, .row 3 (D.ints (V7 b viL (nm b j O5 - i).toNat (j + 1) ++ ([nm b (j + 1 + (nm b j O5 - i)) viL] ++ [])))] [(0, .ptr 0 0), (2, .ptr 2 0), (3, .ptr 3 0), (4, iA i)] (aP ((V7 b viL (nm b j O5 - i).toNat (j + 1)).length + ([nm b (j + 1 + (nm b j O5 - i)) viL] ++ []).length) 8 []) (aK (by simp only [bl6, bk4, bk7, R9]; omega) bm6) fun G => o6 (b0 (J1 G b9 [(4, iA (i - 1))] [wO (i - 1)] (o1 (by omega)) fun G => b0 ?_))))))); exact rxn G (i - 1) (by omega) (by omega) (rg 5) (by have e1 : (j + 1 + (nm b j O5 - (i - 1)) : Int) = (j + 1 + (nm b j O5 - i) + 1) := (by omega); have e2 : (V7 b viL (nm b j O5 - (i - 1)).toNat (j + 1) : List Int) = (V7 b viL (nm b j O5 - i).toNat (j + 1) ++ ([nm b (j + 1 + (nm b j O5 - i)) viL] ++ [])) := (aG6 (by omega) (by omega)); (first | rw [e1, e2] | simp only [e1, e2]) <;> rfl)
abbrev mtC (b : List UInt8) (p : c9) (j : Int) : f6 := ⟨44, [.ptr 0 0, pA 2], [.box [.ref 1, iA j], dY b] ++ pS p, [.box [.ref 1, iA (Y1 b p j).2], dY b] ++ pS p ++ oP (Y1 b p j).1, oA 5⟩
section
variable {b : List UInt8} {p : c9} {j : Int}
theorem bh9 (h : pk b j 60 = 0) (h1 : (p.vars.length : Int) > 0) : Y1 b p j = (⟨p.vars.set 0 (l1D b (j + 1)), p.arrays, p.body⟩, j + 1 + 2) := by
 rw [Y1, if_pos h, if_pos (by omega)]
theorem bi0 (h : pk b j 60 = 1) : Y1 b p j = (⟨p.vars ++ bl4 (13 - p.vars.length) 1, p.arrays, p.body⟩, j + 1) := by
 rw [Y1, if_neg (by omega), if_pos h]
theorem bi5 (h : pk b j 60 = 2) (h1 : (p.body.length : Int) > 0) : Y1 b p j = (⟨p.vars, p.arrays, p.body.set 0 (kdS (p.body.getD 0 bj9) (nm b (j + 1) m2L))⟩, j + 1 + 1) := by
 rw [Y1, if_neg (by omega), if_neg (by omega), if_pos h, if_pos (by omega)]
theorem bi4 (h : pk b j 60 = 3) (h1 : (p.body.length : Int) > 0) : Y1 b p j = (⟨p.vars, p.arrays, p.body.set ((p.body.length : Int) - 1).toNat (tgS (p.body.getD ((p.body.length : Int) - 1).toNat bj9) (nm b (j + 1) m3L))⟩, j + 1 + 1) := by
 rw [Y1, if_neg (by omega), if_neg (by omega), if_neg (by omega), if_pos h, if_pos (by omega)]
theorem bi3 (h : pk b j 60 = 4) (h1 : (p.body.length : Int) > 0) : Y1 b p j = (⟨p.vars, p.arrays, p.body.set 0 (vvS (p.body.getD 0 bj9) (nm b (j + 1) m4L))⟩, j + 1 + 1) := by
 rw [Y1, if_neg (by omega), if_neg (by omega), if_neg (by omega), if_neg (by omega), if_pos h, if_pos (by omega)]
theorem bi2 (h : pk b j 60 = 5) (h1 : (p.body.length : Int) > 0) : Y1 b p j = (⟨p.vars, p.arrays, p.body.set 0 (ctS (p.body.getD 0 bj9) (nm b (j + 1) m5L))⟩, j + 1 + 1) := by
 rw [Y1, if_neg (by omega), if_neg (by omega), if_neg (by omega), if_neg (by omega), if_neg (by omega), if_pos h, if_pos (by omega)]
theorem bi1 (h : pk b j 60 = 6) : Y1 b p j = (⟨[], [], []⟩, j + 1) := by
 rw [Y1, if_neg (by omega), if_neg (by omega), if_neg (by omega), if_neg (by omega), if_neg (by omega), if_neg (by omega), if_pos h]
theorem aJ7 (h : (pk b j 60 = 0 /\ ¬ (p.vars.length : Int) > 0) \/ ((pk b j 60 = 2 \/ pk b j 60 = 3 \/ pk b j 60 = 4 \/ pk b j 60 = 5) /\ ¬ (p.body.length : Int) > 0) \/ (¬ pk b j 60 = 0 /\ ¬ pk b j 60 = 1 /\ ¬ pk b j 60 = 2 /\ ¬ pk b j 60 = 3 /\ ¬ pk b j 60 = 4 /\ ¬ pk b j 60 = 5 /\ ¬ pk b j 60 = 6)) : Y1 b p j = (p, j + 1) := by
 unfold Y1
 (repeat' split) <;> first | rfl | (exfalso; omega)
theorem aP4 {k : Nat} : p.vars ++ bl4 (k + 1) 1 = (p.vars ++ bl4 k 1) ++ [1] := by
 rw [List.replicate_succ', bn1]
theorem bc1 {k : Nat} (h : pk b j 60 = 1) (h1 : k <= 13 - p.vars.length) (h2 : ¬ (((p.vars ++ bl4 k (1 : Int)).length : Nat) : Int) <= 12) : Y1 b p j = (⟨p.vars ++ bl4 k 1, p.arrays, p.body⟩, j + 1) := by
 simp only [bl6, List.length_replicate] at h2
 rw [bi0 h, show 13 - p.vars.length = k by omega]
end
abbrev al3 (p : c9) := p.body.getD ((p.body.length : Int) - 1).toNat bj9
abbrev y6 (b : List UInt8) (p : c9) (j : Int) : List It := [.box [.ref 1, iA (Y1 b p j).snd], dY b, dI p.vars, dI p.arrays, dT p.body, .row 3 (D.ints (Y1 b p j).fst.vars), .row 3 (D.ints (Y1 b p j).fst.arrays), .tree (D.stmts (Y1 b p j).fst.body)]
abbrev as5 : It := .box [.v (.slice none 0 0), .v (.slice none 0 0), .v (.slice none 0 0)]
abbrev a11 (b : List UInt8) (p : c9) (j : Int) : It := .tree (D.stmts (p.body.set 0 (b5.mk (p.body.getD 0 bj9).kind (p.body.getD 0 bj9).target (p.body.getD 0 bj9).index (b6.mk (p.body.getD 0 bj9).value.kind (nm b (j + 1) m4L) (p.body.getD 0 bj9).value.kids) (p.body.getD 0 bj9).count (p.body.getD 0 bj9).body (p.body.getD 0 bj9).els)))
abbrev P4 : It := .box [.ref 6, .ref 7, .tref 8]
abbrev a09 (b : List UInt8) (p : c9) (j : Int) : It := .tree (D.stmts (p.body.set 0 (b5.mk (nm b (j + 1) m2L) (p.body.getD 0 bj9).target (p.body.getD 0 bj9).index (p.body.getD 0 bj9).value (p.body.getD 0 bj9).count (p.body.getD 0 bj9).body (p.body.getD 0 bj9).els)))
abbrev a08 (b : List UInt8) (p : c9) (j : Int) : It := .tree (D.stmts (p.body.set 0 (b5.mk (p.body.getD 0 bj9).kind (p.body.getD 0 bj9).target (p.body.getD 0 bj9).index (p.body.getD 0 bj9).value (nm b (j + 1) m5L) (p.body.getD 0 bj9).body (p.body.getD 0 bj9).els)))
abbrev a07 (b : List UInt8) (p : c9) (j : Int) : It := .tree (D.stmts (p.body.set ((p.body.length : Int) - 1).toNat (b5.mk (al3 p).kind (nm b (j + 1) m3L) (al3 p).index (al3 p).value (al3 p).count (al3 p).body (al3 p).els)))
abbrev T5 (b : List UInt8) (p : c9) (r0 : List It) : List It := dY b :: dI p.vars :: dI p.arrays :: dT p.body :: P4 :: .row 3 (D.ints p.vars) :: .row 3 (D.ints p.arrays) :: r0
abbrev al2 (p : c9) (r0 : List It) : List It := dI p.vars :: dI p.arrays :: dT p.body :: as5 :: .row 3 (D.ints p.vars) :: .row 3 (D.ints p.arrays) :: r0
abbrev W2 (p : c9) (r0 : List It) : List It := .row 3 (D.ints p.arrays) :: .tree (D.stmts p.body) :: r0
abbrev af5 (b : List UInt8) (p : c9) (j : Int) (r0 : List It) : List It := .box [.ref 1, iA (j + 1)] :: dY b :: dI p.vars :: dI p.arrays :: dT p.body :: r0
abbrev aD9 (b : List UInt8) (p : c9) (j : Int) (r0 : List (Nat × AV)) : List (Nat × AV) := (0, .ptr 0 0) :: (4, .ptr 5 0) :: (5, .ptr 9 0) :: (6, iA (p.body.length : Int)) :: (13, iA (pk b j 60)) :: r0
theorem V3 (b : List UInt8) (p : c9) (j : Int) (hb : p.size <= 1000000) (r0 : 0 <= j) (r1 : j <= 100000000) : f6.ok Tryd.prog (mtC b p j) := by
  refine F0 87 Tryd.func44 [.box [.ref 1, iA j], dY b, dI p.vars, dI p.arrays, dT p.body] [(0, .ptr 0 0), (1, pA 2)] fun G => ?_
  have hb1 : p.vars.length <= 1048576 /\ p.arrays.length <= 1048576 /\ o3 p.body <= 1048576 := by unfold c9.size at hb; omega
  have hb2 : p.body.length <= 1048576 := bk9 (W7 _) hb1.2.2; refine wp_seq (j5 G b9 [0, 1, 2, 3, 4, 5, 13] [.box [.ref 1, iA j], dY b, dI p.vars, dI p.arrays, dT p.body, .box (pL 2), as5] [(0, .ptr 0 0), (3, .ptr 5 0), (4, .ptr 6 0)] fun G => b0 (wp_seq (j5 G (B3 1 [2, 3, 4] (aL2 p.vars p.arrays p.body (bk9 hb (by omega)))) [0, 1, 2, 3, 4, 6, 15, 16, 17, 23] (.box [.ref 1, iA j] :: dY b :: (al2 p [.tree (D.stmts p.body), P4])) [(0, .ptr 0 0), (4, .ptr 5 0), (5, .ptr 9 0)] fun G => b0 (wp_seq (f9 G b9 [(6, iA (p.body.length : Int))] fun G => b0 (wp_seq (wp_seq (j5 G (B3 1 [0, 1] (C2 b j 60 (by assumption) (by omega))) (rg 10) (.box [.ref 1, iA (j + 1)] :: dY b :: (al2 p [.tree (D.stmts p.body), P4])) (aD9 b p j []) fun G => b0 (wp_block (wp_seq (f9 G b9 [(14, bA (pk b j 60 == 0))] fun G => b0 (X5 G (fun h0 q0 => ?_) fun h0 q0 => ?_))))))))))))
  ·
   refine wp_seq (J2 G b9 (aD9 b p j [(25, bA (pk b j 60 == 1))]) fun G => b0 (X5 G (fun h1 q1 => ?_) fun h1 q1 => ?_))
   ·
    refine wp_seq (f9 G b9 [(36, bA (pk b j 60 == 2))] fun G => b0 (X5 G (fun h2 q2 => ?_) fun h2 q2 => ?_))
    ·
     refine wp_seq (f9 G b9 [(47, bA (pk b j 60 == 3))] fun G => b0 (X5 G (fun h3 q3 => ?_) fun h3 q3 => ?_))
     ·
      refine wp_seq (f9 G b9 [(60, bA (pk b j 60 == 4))] fun G => b0 (X5 G (fun h4 q4 => ?_) fun h4 q4 => ?_))
      ·
       refine wp_seq (f9 G b9 [(72, bA (pk b j 60 == 5))] fun G => b0 (X5 G (fun h5 q5 => ?_) fun h5 q5 => ?_))
       ·
        refine wp_seq (f9 G b9 [(83, bA (pk b j 60 == 6))] fun G => b0 (X5 G (fun h6 q6 => ?_) fun h6 q6 => ?_))
        · refine wp_skip (o6 (b0 (wp_seq (j5 G b9 (rg 9) (.box [.ref 1, iA (j + 1)] :: (T5 b p [.tree (D.stmts p.body)])) [(4, .ptr 5 0)] fun G => b0 (wp_ret ?_))))); exact K9 G [0, 1, 2, 3, 4, 6, 7, 8] (by show _ = mR [0, 1, 2, 3, 4, 6, 7, 8] (y6 b p j); unfold y6; rw [aJ7 (by omega)] <;> rfl)
        refine wp_seq (J2 G b9 [(4, .ptr 5 0), (5, .ptr 9 0)] fun G => b0 (wp_ret (x5 (f7 ?_)))); obtain ⟨ρ, G⟩ := G.nil 10 3 (.ints []) 1 (af5 b p j (.box [.ref 10, .v (.slice none 0 0), .v (.slice none 0 0)] :: .row 3 (D.ints p.vars) :: (W2 p [.box [.ref 6, .ref 7, .tref 8]]))) [(4, .ptr 5 0), (5, .ptr 9 0)]; obtain ⟨ρ, G⟩ := G.nil 11 3 (.ints []) 1 (af5 b p j (.box [.ref 10, .ref 11, .v (.slice none 0 0)] :: .row 3 (D.ints p.vars) :: (W2 p [.box [.ref 6, .ref 7, .tref 8], .row 3 (D.ints [])]))) [(4, .ptr 5 0), (5, .ptr 9 0)]; obtain ⟨ρ, G⟩ := G.nilT 12 (.stmts []) (af5 b p j (.box [.ref 10, .ref 11, .tref 12] :: .row 3 (D.ints p.vars) :: (W2 p [.box [.ref 6, .ref 7, .tref 8], .row 3 (D.ints []), .row 3 (D.ints [])]))) [(4, .ptr 5 0), (5, .ptr 9 0)]; exact K9 G [0, 1, 2, 3, 4, 10, 11, 12] (by show _ = mR [0, 1, 2, 3, 4, 10, 11, 12] (y6 b p j); unfold y6; rw [bi1 (by omega)] <;> rfl)
       refine wp_seq (f9 G b9 [(75, bA (decide ((p.body.length : Int) > 0)))] fun G => b0 (V5 G (fun h7 q7 => ?_) fun h7 q7 => ?_))
       · refine wp_skip (o6 (b0 (wp_seq (j5 G b9 (rg 9) (.box [.ref 1, iA (j + 1)] :: (T5 b p [.tree (D.stmts p.body)])) [(4, .ptr 5 0)] fun G => b0 (wp_ret ?_))))); exact K9 G [0, 1, 2, 3, 4, 6, 7, 8] (by show _ = mR [0, 1, 2, 3, 4, 6, 7, 8] (y6 b p j); unfold y6; rw [aJ7 (by omega)] <;> rfl)
       refine L9 G (B3 4 [0, 1, 34] (f6.lend (E5 b (j + 1) m5L (by simp [h0, h1, h2, h3, h4, h5, h7]) (by omega) (by omega)) [.no, .no, .row 3])) [0, 1, 0, 0, 12, 31, 63, 127] (rg 10) (.box [.ref 1, iA (j + 1 + 1)] :: dY b :: (al2 p [a08 b p j, P4])) [(4, .ptr 5 0), (5, .ptr 9 0)] (iX 0 0 p.body.length []) (iK (by omega) bm6) fun G => o6 (b0 (wp_seq (j5 G b9 (rg 9) (.box [.ref 1, iA (j + 1 + 1)] :: (T5 b p [a08 b p j])) [(4, .ptr 5 0)] fun G => b0 (wp_ret ?_)))); exact K9 G [0, 1, 2, 3, 4, 6, 7, 8] (by show _ = mR [0, 1, 2, 3, 4, 6, 7, 8] (y6 b p j); unfold y6; rw [bi2 (by omega) (by omega)] <;> rfl)
      refine wp_seq (f9 G b9 [(63, bA (decide ((p.body.length : Int) > 0)))] fun G => b0 (V5 G (fun h8 q8 => ?_) fun h8 q8 => ?_))
      · refine wp_skip (o6 (b0 (wp_seq (j5 G b9 (rg 9) (.box [.ref 1, iA (j + 1)] :: (T5 b p [.tree (D.stmts p.body)])) [(4, .ptr 5 0)] fun G => b0 (wp_ret ?_))))); exact K9 G [0, 1, 2, 3, 4, 6, 7, 8] (by show _ = mR [0, 1, 2, 3, 4, 6, 7, 8] (y6 b p j); unfold y6; rw [aJ7 (by omega)] <;> rfl)
      refine L9 G (B3 4 [0, 1, 34] (f6.lend (E5 b (j + 1) m4L (by simp [h0, h1, h2, h3, h4, h8]) (by omega) (by omega)) [.no, .no, .row 3])) [0, 1, 0, 0, 12, 31, 63, 127, 255] (rg 10) (.box [.ref 1, iA (j + 1 + 1)] :: dY b :: (al2 p [a11 b p j, P4])) [(4, .ptr 5 0), (5, .ptr 9 0)] (iX 0 0 p.body.length []) (iK (by omega) bm6) fun G => o6 (b0 (wp_seq (j5 G b9 (rg 9) (.box [.ref 1, iA (j + 1 + 1)] :: (T5 b p [a11 b p j])) [(4, .ptr 5 0)] fun G => b0 (wp_ret ?_)))); exact K9 G [0, 1, 2, 3, 4, 6, 7, 8] (by show _ = mR [0, 1, 2, 3, 4, 6, 7, 8] (y6 b p j); unfold y6; rw [bi3 (by omega) (by omega)] <;> rfl)
     refine wp_seq (f9 G b9 [(50, bA (decide ((p.body.length : Int) > 0)))] fun G => b0 (V5 G (fun h9 q9 => ?_) fun h9 q9 => ?_))
     · refine wp_skip (o6 (b0 (wp_seq (j5 G b9 (rg 9) (.box [.ref 1, iA (j + 1)] :: (T5 b p [.tree (D.stmts p.body)])) [(4, .ptr 5 0)] fun G => b0 (wp_ret ?_))))); exact K9 G [0, 1, 2, 3, 4, 6, 7, 8] (by show _ = mR [0, 1, 2, 3, 4, 6, 7, 8] (y6 b p j); unfold y6; rw [aJ7 (by omega)] <;> rfl)
     refine L9 G (B3 6 [0, 1, 50] (f6.lend (E5 b (j + 1) m3L (by simp [h0, h1, h2, h3, h9]) (by omega) (by omega)) [.no, .no, .row 3])) [0, 1, 0, 4, 0, 0, 48, 127, 255, 511] (rg 10) (.box [.ref 1, iA (j + 1 + 1)] :: dY b :: (al2 p [a07 b p j, P4])) [(4, .ptr 5 0), (5, .ptr 9 0)] ((wO ((p.body.length : Int) - 1)) :: (iX ((p.body.length : Int) - 1) (((p.body.length : Int) - 1).toNat) p.body.length [])) ⟨oW (by omega), (iK (by omega) bm6)⟩ fun G => o6 (b0 (wp_seq (j5 G b9 (rg 9) (.box [.ref 1, iA (j + 1 + 1)] :: (T5 b p [a07 b p j])) [(4, .ptr 5 0)] fun G => b0 (wp_ret ?_)))); exact K9 G [0, 1, 2, 3, 4, 6, 7, 8] (by show _ = mR [0, 1, 2, 3, 4, 6, 7, 8] (y6 b p j); unfold y6; rw [bi4 (by omega) (by omega)] <;> rfl)
    refine wp_seq (f9 G b9 [(39, bA (decide ((p.body.length : Int) > 0)))] fun G => b0 (V5 G (fun h10 q10 => ?_) fun h10 q10 => ?_))
    · refine wp_skip (o6 (b0 (wp_seq (j5 G b9 (rg 9) (.box [.ref 1, iA (j + 1)] :: (T5 b p [.tree (D.stmts p.body)])) [(4, .ptr 5 0)] fun G => b0 (wp_ret ?_))))); exact K9 G [0, 1, 2, 3, 4, 6, 7, 8] (by show _ = mR [0, 1, 2, 3, 4, 6, 7, 8] (y6 b p j); unfold y6; rw [aJ7 (by omega)] <;> rfl)
    refine L9 G (B3 4 [0, 1, 34] (f6.lend (E5 b (j + 1) m2L (by simp [h0, h1, h2, h10]) (by omega) (by omega)) [.no, .no, .row 3])) [0, 1, 0, 0, 12, 31, 63, 127] (rg 10) (.box [.ref 1, iA (j + 1 + 1)] :: dY b :: (al2 p [a09 b p j, P4])) [(4, .ptr 5 0), (5, .ptr 9 0)] (iX 0 0 p.body.length []) (iK (by omega) bm6) fun G => o6 (b0 (wp_seq (j5 G b9 (rg 9) (.box [.ref 1, iA (j + 1 + 1)] :: (T5 b p [a09 b p j])) [(4, .ptr 5 0)] fun G => b0 (wp_ret ?_)))); exact K9 G [0, 1, 2, 3, 4, 6, 7, 8] (by show _ = mR [0, 1, 2, 3, 4, 6, 7, 8] (y6 b p j); unfold y6; rw [bi5 (by omega) (by omega)] <;> rfl)
   refine wp_block ?_; replace G := G.as (af5 b p j (.box [.v (.slice none 0 0), .v (.slice none 0 0), .v (.slice none 0 0)] :: .row 3 (D.ints (p.vars ++ bl4 0 1)) :: (W2 p [.box [.ref 6, .ref 7, .tref 8]]))) (aD9 b p j [(25, bA (pk b j 60 == 1))]) (by have e1 : (p.vars ++ bl4 0 1 : List Int) = (p.vars) := (by simp [h0, h1]); (first | rw [e1] | simp only [e1]) <;> rfl) (by kernel_rfl); refine x3 (κ := Nat) (fun k => k <= 13 - p.vars.length) (fun k => 13 - p.vars.length - k) (fun k => [.box [.ref 1, iA (j + 1)], dY b, dI p.vars, dI p.arrays, dT p.body, .box [.v (.slice none 0 0), .v (.slice none 0 0), .v (.slice none 0 0)], .row 3 (.ints (p.vars ++ bl4 k 1)), .row 3 (D.ints p.arrays), .tree (D.stmts p.body), .box [.ref 6, .ref 7, .tref 8]]) (fun k => [(0, .ptr 0 0), (4, .ptr 5 0), (5, .ptr 9 0), (6, iA (p.body.length : Int)), (13, iA (pk b j 60)), (25, bA (pk b j 60 == 1))]) 0 (by omega) (o8.at G _ _) ?_; clear G; intro k ρ a w hp G; replace G := o8.at G (af5 b p j (as5 :: .row 3 (D.ints (p.vars ++ bl4 k 1)) :: (W2 p [P4]))) (aD9 b p j [(25, bA (pk b j 60 == 1))]); refine wp_seq (wp_seq (f9 G b9 [(30, bA (decide (((p.vars ++ bl4 k 1).length : Int) <= 12)))] fun G => b0 (V5 G (fun h12 q12 => ?_) fun h12 q12 => ?_)))
   · refine wp_exit (w6 (w6 (w4 (o6 (b0 (wp_seq (j5 G b9 (rg 9) (af5 b p j (P4 :: .row 3 (D.ints (p.vars ++ bl4 k 1)) :: (W2 p []))) [(4, .ptr 5 0)] fun G => b0 (wp_ret ?_)))))))); exact K9 G [0, 1, 2, 3, 4, 6, 7, 8] (by show _ = mR [0, 1, 2, 3, 4, 6, 7, 8] (y6 b p j); unfold y6; rw [bc1 (k := k) (by omega) (by omega) (by omega)] <;> rfl)
   refine wp_skip (b0 (wp_block (V6 G b9 [0, 1, 2, 3, 4, 5, 7, 8, 9, 34] (af5 b p j (as5 :: (W2 p [.box [.ref 9, .ref 6, .tref 7], .row 3 (D.ints (p.vars ++ bl4 k 1 ++ ([1] ++ [])))]))) [(0, .ptr 0 0), (4, .ptr 5 0), (5, .ptr 8 0), (6, iA (p.body.length : Int)), (13, iA (pk b j 60)), (25, bA (pk b j 60 == 1))] (aP ((p.vars ++ bl4 k (1 : Int)).length + ([(1 : Int)] ++ []).length) 8 []) (aK (by simp only [bl6, List.length_replicate, bk4, bk7] at *; omega) bm6) fun G => o6 (b0 ?_)))); exact rxn G (k + 1) (by simp only [bl6, List.length_replicate, bk4, bk7] at *; omega) (by simp only [bl6, List.length_replicate, bk4, bk7] at *; omega) [0, 1, 2, 3, 4, 5, 9, 6, 7, 8] (by have e1 : (p.vars ++ bl4 (k + 1) 1 : List Int) = (p.vars ++ bl4 k 1 ++ ([1] ++ [])) := aP4; (first | rw [e1] | simp only [e1]) <;> rfl)
  refine wp_seq (f9 G b9 [(19, bA (decide ((p.vars.length : Int) > 0)))] fun G => b0 (V5 G (fun h11 q11 => ?_) fun h11 q11 => ?_))
  · refine wp_skip (o6 (b0 (wp_seq (j5 G b9 (rg 9) (.box [.ref 1, iA (j + 1)] :: (T5 b p [.tree (D.stmts p.body)])) [(4, .ptr 5 0)] fun G => b0 (wp_ret ?_))))); exact K9 G [0, 1, 2, 3, 4, 6, 7, 8] (by show _ = mR [0, 1, 2, 3, 4, 6, 7, 8] (y6 b p j); unfold y6; rw [aJ7 (by omega)] <;> rfl)
  refine L9 G (B3 3 [0, 1] (aV0 b (j + 1) (by omega) (by omega))) [0, 1, 0, 4, 15, 31] (rg 10) (.box [.ref 1, iA (j + 1 + 2)] :: dY b :: dI p.vars :: dI p.arrays :: dT p.body :: as5 :: .row 3 (D.ints (p.vars.set 0 (l1D b (j + 1)))) :: (W2 p [P4])) [(4, .ptr 5 0), (5, .ptr 9 0)] (iX 0 0 p.vars.length []) (iK (by omega) bm6) fun G => o6 (b0 (wp_seq (j5 G b9 (rg 9) (.box [.ref 1, iA (j + 1 + 2)] :: dY b :: dI p.vars :: dI p.arrays :: dT p.body :: P4 :: .row 3 (D.ints (p.vars.set 0 (l1D b (j + 1)))) :: (W2 p [])) [(4, .ptr 5 0)] fun G => b0 (wp_ret ?_)))); exact K9 G [0, 1, 2, 3, 4, 6, 7, 8] (by show _ = mR [0, 1, 2, 3, 4, 6, 7, 8] (y6 b p j); unfold y6; rw [bh9 (by omega) (by omega)] <;> rfl)
section
variable {b : List UInt8} {j : Int}
end
theorem bd0 (b : List UInt8) : 0 <= (bdD b 0).2 /\ (bdD b 0).2 <= 150000 := by
 have h := aV2 b (k := 0) (by omega) (by omega)
 have h2 := aR8 b (k := 0) (by omega) (by omega)
 omega
theorem f6.twice {P : Program} {f : FuncId} {args : List AV} {pre S : List It} {d : D} {res : AV} {i : Nat} (hc : f6.ok P ⟨f, args, pre, S, res⟩) (S1 : List It) (hi : S[i]? = some (.dat d)) (hl : pre.length <= S.length)
  (hS : S.all (fun x => M4 S.length x.ids) = true) (hg : M4 S.length res.ids = true) (hl1 : S1.length = S.length + 1) (hd : l9 S1 S.length = .dat d) (h2 : ∀ ρ : Nat -> Value, ρ S.length = ρ i -> ∀ j, j < S.length -> (l9 S1 j).res ρ j = (l9 S j).res ρ j) : f6.ok P ⟨f, args, pre, S1, res⟩ := by
 intro ι φ ψ w0 w F ρ M
 refine (hc ι φ ψ w0 w F ρ M).mono ?_
 rintro x w' ⟨ρ1, h1, rfl, M1⟩
 have hi' : l9 S i = .dat d := by simp [l9, hi]
 have hlt : i < S.length := (bk5.1 hi).1
 have hinv : U2 (l9 S) ρ1 [S.length] := fun ρ' h j => by
  by_cases hj : j < S.length
  ·refine It.res_congr _ (fun k hk => h k ?_) (.inr (.inr (h j (by simp; omega))))
   have h1 := A5 (bk6.1 hS (S[j]) (bk8 hj)) k (by simpa [l9, bk3, bk1 hj] using hk)
   simp; omega
  rw [show l9 S j = .none by simp only [l9, bk3, bm7 (Nat.le_of_not_lt hj)]; rfl]; rfl
 obtain ⟨ρ2, h3, M2, h4⟩ := M1.newDat (id := S.length) (by simp [l9]) hinv (M1.datAt hi')
 have hρ : ρ2 i = ρ1 i := h3 i (by simp; omega)
 have e : j2 F ρ2 (i7 (l9 S) [(S.length, .dat d)]) = j2 F ρ2 (l9 S1) := by
  funext k
  cases k with
  | inl q => rfl
  | inr j =>
   simp only [j2, i7]
   by_cases hj : j = S.length
   ·subst hj; rw [if_pos rfl, hd]
   rw [if_neg hj]
   by_cases hj2 : j < S.length
   ·exact (h2 ρ2 (by rw [<- h4, hρ]) j hj2).symm
   rw [s6 (by omega), s6 (by omega)]
 rw [e] at M2
 refine ⟨ρ2, fun k hk => by
  have hk : k < pre.length := hk
  rw [h3 k (by simp; omega)]; exact h1 k hk, ?_, M2⟩
 exact congrArg _ (AV.val_congr res fun k hk => by
  have := A5 hg k hk
  exact h3 k (by simp; omega)).symm
theorem aL4 (c : List UInt8) : f6.ok Tryd.prog ⟨41, [.ref 0], [dY c], [dY c, .box [.ref 2, iA 0], dY (bsD c)], .ptr 1 0⟩ := by
 by_cases h : c.length <= 2000
 ·have e : bsD c = c := bm0 h
  rw [e]
  refine f6.twice (aD3 c h) (i := 0) _ rfl (by show (1 : Nat) <= 2; omega) rfl rfl rfl rfl fun ρ hρ j hj => ?_
  have hj : j < 2 := hj
  match j, hj with
  | 0, _ => rfl
  | 1, _ =>
   have hρ : ρ 2 = ρ 0 := hρ
   simp only [l9, bk3, List.getElem?_cons_succ, bn4, Option.getD_some, It.res, AV.vals, AV.val, hρ]
 exact aD2 c (by omega)
theorem R0 (xs ys : List Int) : f6.ok Tryd.prog (D8 45 [.ref 0, .ref 1] [dI xs, dI ys] (bA (decide (xs = ys)))) := by
  refine F0 26 Tryd.func45 [dI xs, dI ys] [(0, .ref 0), (1, .ref 1)] fun G => ?_; have hl : xs.length <= 9223372036854775807 := G.len 0 (d := .ints xs) (by kernel_rfl); refine wp_seq (J2 G b9 [(0, .ref 0), (1, .ref 1), (4, bA false)] fun G => b0 (wp_seq (wp_seq (f9 G b9 [(10, bA ((xs.length : Int) != (ys.length : Int)))] fun G => b0 (rcN G (fun h0 q0 => ?_) fun h0 q0 => ?_)))))
  ·
   refine wp_skip (b0 (wp_seq (wp_seq (J2 G b9 [(0, .ref 0), (1, .ref 1), (4, bA false), (12, iA (xs.length : Int)), (13, iA 0)] fun G => b0 (wp_block ?_))))); refine x3 (κ := Nat) (fun k => k <= xs.length /\ xs.take k = ys.take k) (fun k => xs.length - k) (fun k => [dI xs, dI ys]) (fun k => [(0, .ref 0), (1, .ref 1), (4, bA false), (12, iA (xs.length : Int)), (13, iA k)]) 0 (by simp [h0]) (o8.at G _ _) ?_; clear G; intro k ρ a w hp G; refine wp_seq (f9 G b9 [(14, bA (decide ((k : Int) < xs.length)))] fun G => b0 (wp_seq (V5 G (fun h1 q1 => ?_) fun h1 q1 => ?_)))
   · refine wp_exit (w6 (w6 (w4 (b0 (wp_seq (f9 G b9 [(4, bA true)] fun G => b0 (wp_ret ?_))))))); exact n5 true G [0, 1] (decide_eq_true (P5 hp.2 (by omega) (by omega)))
   refine wp_skip (b0 (wp_seq (wp_block (wp_seq (f9 G b9 [(5, iA k)] fun G => b0 (wp_seq (ap2 G b9 [0, 0, 3, 7, 0, 0, 48, 112, 255] [(24, bA (xs.getD k 0 != ys.getD k 0))] (iX k k xs.length (iX k k ys.length [])) (iK (by omega) (iK (by omega) bm6)) fun G => b0 (rcN G (fun h2 q2 => ?_) fun h2 q2 => ?_))))))))
   · refine wp_skip (o6 (b0 (J1 G b9 [(13, iA ((k : Int) + 1))] [wO ((k : Int) + 1)] (o1 (by omega)) fun G => b0 ?_))); exact rxn G (k + 1) (⟨by omega, I3 hp.2 (by omega) (by omega) (by omega)⟩) (by omega) [0, 1]
   refine wp_seq (f9 G b9 [] fun G => b0 (wp_ret (x5 (f7 (f7 (x5 (f7 ?_))))))); exact n5 false G [0, 1] (by exact decide_eq_false fun e => by subst e; omega)
  refine wp_seq (f9 G b9 [] fun G => b0 (wp_ret (f7 ?_))); exact n5 false G [0, 1] (by exact decide_eq_false fun e => by subst e; omega)
theorem sk1 {l m : List b6} (h : ¬ (l.length : Int) = m.length) : B4 l m = false := by
 cases e : B4 l m
 ·rfl
 exact absurd (congrArg (fun x : List b6 => (x.length : Int)) ((L7 l m).1 e)) h
theorem sk2 {l m : List b6} {k : Nat} (h : r8 (l.getD k bj9) (m.getD k bj9) = false) : B4 l m = false := by
 cases e : B4 l m
 ·rfl
 rw [(L7 l m).1 e, (x9 _ _).2 rfl] at h; cases h
theorem sk3 {l m : List b6} {k : Nat} (h3 : (l.length : Int) = m.length) (h : l.take k = m.take k) (hk : l.length <= k) : B4 l m = true := (L7 _ _).2 (P5 h hk h3)
abbrev ixS (a b : b6) : f6 := D8 77 [eA a 0, eA b 1] [dE a.kids, dE b.kids] (bA (r8 a b))
theorem aO7 (l m : List b6) (ih : ∀ (u : b6), u ∈ l -> ∀ (v : b6), f6.ok Tryd.prog (ixS u v)) : f6.ok Tryd.prog (D8 96 [.ref 0, .ref 1, .fn 77 []] [dE l, dE m] (bA (B4 l m))) := by
  refine F0 32 Tryd.func96 [dE l, dE m] [(0, .ref 0), (1, .ref 1), (2, .fn 77 [])] fun G => ?_; have hl : l.length <= 9223372036854775807 := G.len 0 (d := .exprs l) (by kernel_rfl); refine wp_seq (J2 G b9 [(0, .ref 0), (1, .ref 1), (2, .fn 77 []), (6, bA false)] fun G => b0 (wp_seq (wp_seq (f9 G b9 [(14, bA ((l.length : Int) != (m.length : Int)))] fun G => b0 (rcN G (fun h0 q0 => ?_) fun h0 q0 => ?_)))))
  ·
   refine wp_skip (b0 (wp_seq (wp_seq (J2 G b9 [(1, .ref 1), (2, .fn 77 []), (6, bA false), (15, .ref 0), (16, iA (l.length : Int)), (17, iA 0)] fun G => b0 (wp_block ?_))))); refine x3 (κ := Nat) (fun k => k <= l.length /\ l.take k = m.take k) (fun k => l.length - k) (fun k => [dE l, dE m]) (fun k => [(1, .ref 1), (2, .fn 77 []), (6, bA false), (15, .ref 0), (16, iA (l.length : Int)), (17, iA k)]) 0 (by simp [h0]) (o8.at G _ _) ?_; clear G; intro k ρ a w hp G; refine wp_seq (f9 G b9 [(18, bA (decide ((k : Int) < l.length)))] fun G => b0 (wp_seq (V5 G (fun h1 q1 => ?_) fun h1 q1 => ?_)))
   · refine wp_exit (w6 (w6 (w4 (b0 (wp_seq (f9 G b9 [(6, bA true)] fun G => b0 (wp_ret ?_))))))); exact n5 true G [0, 1] (sk3 (by omega) hp.2 (by omega))
   refine wp_skip (b0 (wp_seq (wp_block (wp_seq (V6 G b9 [0, 1, 18, 26] [dE l, dE m, dE (l.getD k bj9).kids, .box (eL (l.getD k bj9) 2)] [(1, .ref 1), (2, .fn 77 []), (6, bA false), (7, iA k), (8, .ptr 3 0), (15, .ref 0), (16, iA (l.length : Int)), (17, iA k)] (iX k k l.length []) (iK (by omega) bm6) fun G => b0 (wp_seq (V6 G b9 [0, 1, 2, 3, 28, 36] [dE l, dE m, dE (l.getD k bj9).kids, .box (eL (l.getD k bj9) 2), dE (m.getD k bj9).kids, .box (eL (m.getD k bj9) 4)] [(1, .ref 1), (2, .fn 77 []), (6, bA false), (8, .ptr 3 0), (9, .ptr 5 0), (15, .ref 0), (16, iA (l.length : Int)), (17, iA k)] (iX k k m.length []) (iK (by omega) bm6) fun G => b0 (wp_seq (j5 G (B3 3 [2, 4] (ih (l.getD k bj9) (ai5 (by omega)) (m.getD k bj9))) [0, 1] [dE l, dE m] [(1, .ref 1), (2, .fn 77 []), (6, bA false), (15, .ref 0), (16, iA (l.length : Int)), (17, iA k), (30, .v (.bool !r8 (l.getD k bj9) (m.getD k bj9)))] fun G => b0 ?_))))))))); cases h2 : (!r8 (l.getD k bj9) (m.getD k bj9))
   · have q2 : (r8 (l.getD k bj9) (m.getD k bj9)) = true := (Eq.mp (bl7 _) h2); refine rF G _ h2 (wp_skip (o6 (b0 (J1 G b9 [(17, iA ((k : Int) + 1))] [wO ((k : Int) + 1)] (o1 (by omega)) fun G => b0 ?_)))); exact rxn G (k + 1) (⟨by omega, I3 hp.2 (by omega) (by omega) ((x9 _ _).1 (by with_reducible assumption))⟩) (by omega) [0, 1]
   have q2 : (r8 (l.getD k bj9) (m.getD k bj9)) = false := (Eq.mp (bl0 _) h2); refine rT G _ h2 (wp_seq (f9 G b9 [] fun G => b0 (wp_ret (x5 (f7 (f7 (x5 (f7 ?_)))))))); exact n5 false G [0, 1] (sk2 (k := k) (by with_reducible assumption))
  refine wp_seq (f9 G b9 [] fun G => b0 (wp_ret (f7 ?_))); exact n5 false G [0, 1] (sk1 (by omega))
theorem ie1 {a b : b6} (h1 : a.kind = b.kind) (h2 : a.value = b.value) : r8 a b = B4 a.kids b.kids := by
 obtain ⟨k, n, ks⟩ := a
 obtain ⟨k', n', ks'⟩ := b
 simp only [b6.kind, b6.value] at h1 h2
 rw [r8, decide_eq_true h1, decide_eq_true h2]
 rfl
theorem ba7 (x y : b6) (ih : ∀ (m : List b6), f6.ok Tryd.prog (D8 96 [.ref 0, .ref 1, .fn 77 []] [dE x.kids, dE m] (bA (B4 x.kids m)))) : f6.ok Tryd.prog (ixS x y) := by
  refine F0 24 Tryd.func77 [dE x.kids, dE y.kids] [(0, eA x 0), (1, eA y 1)] fun G => ?_; refine wp_seq (j5 G b9 [0, 1, 2, 10] [dE x.kids, dE y.kids, .box (eL x 0), .box (eL y 1)] [(2, .ptr 2 0), (3, .ptr 3 0), (4, bA false)] fun G => b0 (wp_seq ?_)); cases h0 : (x.kind == y.kind)
  · have q0 := ne_of_beq_false h0; refine j5 G (B9 (fc h0 (fc (b := false) rfl fz)) (us [(6, 10, 0), (1011, 1011, 0), (13, 17, 1), (1018, 1018, 1)])) [0, 1] [dE x.kids, dE y.kids] [(4, bA false)] fun G => b0 (wp_ret ?_); exact n5 false G [0, 1] (sx1 (by omega))
  have q0 := eq_of_beq h0; cases h1 : (x.value == y.value)
  · have q1 := ne_of_beq_false h1; refine j5 G (B9 (fc h0 (fc h1 fz)) (us [(6, 10, 0), (1011, 1011, 0), (13, 17, 1), (1018, 1018, 1)])) [0, 1] [dE x.kids, dE y.kids] [(4, bA false)] fun G => b0 (wp_ret ?_); exact n5 false G [0, 1] (sx2 (by omega))
  have q1 := eq_of_beq h1; refine j5 G (s8 (k6 17 [0, 1] (ih y.kids) s7) (fc h0 (fc h1 fz)) (us [(6, 10, 0), (1011, 1011, 0), (13, 17, 1), (1018, 1018, 1)])) [0, 1] [dE x.kids, dE y.kids] [(4, bA (B4 x.kids y.kids))] fun G => b0 (wp_ret ?_); exact n5 (B4 x.kids y.kids) G [0, 1] (ie1 (by omega) (by omega))
theorem Z2 (x : b6) : ∀ (y : b6), f6.ok Tryd.prog (ixS x y) :=
 b6.ind (P := fun x => ∀ (y : b6), f6.ok Tryd.prog (ixS x y)) (fun k n ks ih y => ba7 ⟨k, n, ks⟩ y fun m => aO7 ks m fun u hu => ih u hu) x
abbrev isS (s t : b5) : f6 := D8 76 [sA s 0, sA t 4] (sS s ++ sS t) (bA (B1 s t))
abbrev isB (l m : List b5) : f6 := D8 46 [.ref 0, .ref 1] [dT l, dT m] (bA (m0 l m))
theorem ag9 (l m : List b5) (ih : ∀ (u : b5), u ∈ l -> ∀ (v : b5), f6.ok Tryd.prog (isS u v)) : f6.ok Tryd.prog (D8 75 [.ref 0, .ref 1, .fn 76 []] [dT l, dT m] (bA (m0 l m))) := by
  refine F0 32 Tryd.func75 [dT l, dT m] [(0, .ref 0), (1, .ref 1), (2, .fn 76 [])] fun G => ?_; have hl : l.length <= 9223372036854775807 := G.len 0 (d := .stmts l) (by kernel_rfl); refine wp_seq (J2 G b9 [(0, .ref 0), (1, .ref 1), (2, .fn 76 []), (6, bA false)] fun G => b0 (wp_seq (wp_seq (f9 G b9 [(14, bA ((l.length : Int) != (m.length : Int)))] fun G => b0 (rcN G (fun h0 q0 => ?_) fun h0 q0 => ?_)))))
  ·
   refine wp_skip (b0 (wp_seq (wp_seq (J2 G b9 [(1, .ref 1), (2, .fn 76 []), (6, bA false), (15, .ref 0), (16, iA (l.length : Int)), (17, iA 0)] fun G => b0 (wp_block ?_))))); refine x3 (κ := Nat) (fun k => k <= l.length /\ l.take k = m.take k) (fun k => l.length - k) (fun k => [dT l, dT m]) (fun k => [(1, .ref 1), (2, .fn 76 []), (6, bA false), (15, .ref 0), (16, iA (l.length : Int)), (17, iA k)]) 0 (by simp [h0]) (o8.at G _ _) ?_; clear G; intro k ρ a w hp G; refine wp_seq (f9 G b9 [(18, bA (decide ((k : Int) < l.length)))] fun G => b0 (wp_seq (V5 G (fun h1 q1 => ?_) fun h1 q1 => ?_)))
   · refine wp_exit (w6 (w6 (w4 (b0 (wp_seq (f9 G b9 [(6, bA true)] fun G => b0 (wp_ret ?_))))))); exact n5 true G [0, 1] (sb3 (by omega) hp.2 (by omega))
   refine wp_skip (b0 (wp_seq (wp_block (wp_seq (V6 G b9 [0, 1, 18, 19, 20, 21, 26] [dT l, dT m, dE (l.getD k bj9).index.kids, dE (l.getD k bj9).value.kids, dT (l.getD k bj9).body, dT (l.getD k bj9).els, .box (sL (l.getD k bj9) 2)] [(1, .ref 1), (2, .fn 76 []), (6, bA false), (7, iA k), (8, .ptr 6 0), (15, .ref 0), (16, iA (l.length : Int)), (17, iA k)] (iX k k l.length []) (iK (by omega) bm6) fun G => b0 (wp_seq (V6 G b9 [0, 1, 2, 3, 4, 5, 6, 31, 32, 33, 34, 39] [dT l, dT m, dE (l.getD k bj9).index.kids, dE (l.getD k bj9).value.kids, dT (l.getD k bj9).body, dT (l.getD k bj9).els, .box (sL (l.getD k bj9) 2), dE (m.getD k bj9).index.kids, dE (m.getD k bj9).value.kids, dT (m.getD k bj9).body, dT (m.getD k bj9).els, .box (sL (m.getD k bj9) 7)] [(1, .ref 1), (2, .fn 76 []), (6, bA false), (8, .ptr 6 0), (9, .ptr 11 0), (15, .ref 0), (16, iA (l.length : Int)), (17, iA k)] (iX k k m.length []) (iK (by omega) bm6) fun G => b0 (wp_seq (j5 G (B3 3 [2, 3, 4, 5, 7, 8, 9, 10] (ih (l.getD k bj9) (Q7 (by omega)) (m.getD k bj9))) [0, 1] [dT l, dT m] [(1, .ref 1), (2, .fn 76 []), (6, bA false), (15, .ref 0), (16, iA (l.length : Int)), (17, iA k), (30, .v (.bool !B1 (l.getD k bj9) (m.getD k bj9)))] fun G => b0 ?_))))))))); cases h2 : (!B1 (l.getD k bj9) (m.getD k bj9))
   · have q2 : (B1 (l.getD k bj9) (m.getD k bj9)) = true := (Eq.mp (bl7 _) h2); refine rF G _ h2 (wp_skip (o6 (b0 (J1 G b9 [(17, iA ((k : Int) + 1))] [wO ((k : Int) + 1)] (o1 (by omega)) fun G => b0 ?_)))); exact rxn G (k + 1) (⟨by omega, I3 hp.2 (by omega) (by omega) ((L6 _ _).1 (by with_reducible assumption))⟩) (by omega) [0, 1]
   have q2 : (B1 (l.getD k bj9) (m.getD k bj9)) = false := (Eq.mp (bl0 _) h2); refine rT G _ h2 (wp_seq (f9 G b9 [] fun G => b0 (wp_ret (x5 (f7 (f7 (x5 (f7 ?_)))))))); exact n5 false G [0, 1] (sb2 (k := k) (by with_reducible assumption))
  refine wp_seq (f9 G b9 [] fun G => b0 (wp_ret (f7 ?_))); exact n5 false G [0, 1] (sb1 (by omega))
theorem aO5 (l m : List b5) (ih : f6.ok Tryd.prog (D8 75 [.ref 0, .ref 1, .fn 76 []] [dT l, dT m] (bA (m0 l m)))) : f6.ok Tryd.prog (isB l m) := by
 refine F0 8 Tryd.func46 [dT l, dT m] [(0, .ref 0), (1, .ref 1)] fun G => ?_; refine wp_seq (f9 G b9 [(4, bA false)] fun G => b0 (wp_seq (f9 G (B3 2 [0, 1] ih) [(4, bA (m0 l m))] fun G => b0 (wp_ret ?_)))); exact K9 G [0, 1]
abbrev V9 (s : b5) (t : b5) (r0 : List It) : List It := dE s.index.kids :: dE s.value.kids :: dT s.body :: dT s.els :: dE t.index.kids :: dE t.value.kids :: dT t.body :: dT t.els :: r0
theorem ba8 (s t : b5) (ih1 : ∀ (m : List b5), f6.ok Tryd.prog (isB s.body m)) (ih2 : ∀ (m : List b5), f6.ok Tryd.prog (isB s.els m)) : f6.ok Tryd.prog (isS s t) := by
  refine F0 52 Tryd.func76 (V9 s t []) [(0, sA s 0), (1, sA t 4)] fun G => ?_; refine wp_seq (j5 G b9 [0, 1, 2, 3, 4, 5, 6, 7, 8, 16] (V9 s t [.box (sL s 0), .box (sL t 4)]) [(2, .ptr 8 0), (3, .ptr 9 0), (4, bA false)] fun G => b0 (wp_seq ?_)); cases h0 : (s.kind == t.kind)
  · have q0 := ne_of_beq_false h0; refine j5 G (B9 (fc h0 (fc (b := false) rfl fz)) (us [(6, 10, 0), (1011, 1011, 0), (13, 17, 1), (1018, 1018, 1), (20, 24, 1), (1025, 1025, 1), (27, 31, 1), (1032, 1032, 1), (34, 38, 1), (1039, 1039, 1), (41, 45, 1), (1046, 1046, 1)])) (rg 8) (V9 s t []) [(4, bA false)] fun G => b0 (wp_ret ?_); exact n5 false G (rg 8) (sr1 (by omega))
  have q0 := eq_of_beq h0; cases h1 : (s.target == t.target)
  · have q1 := ne_of_beq_false h1; refine j5 G (B9 (fc h0 (fc h1 (fc (b := false) rfl fz))) (us [(6, 10, 0), (1011, 1011, 0), (13, 17, 1), (1018, 1018, 1), (20, 24, 2), (1025, 1025, 2), (27, 31, 2), (1032, 1032, 2), (34, 38, 2), (1039, 1039, 2), (41, 45, 2), (1046, 1046, 2)])) (rg 8) (V9 s t []) [(4, bA false)] fun G => b0 (wp_ret ?_); exact n5 false G (rg 8) (sr2 (by omega))
  have q1 := eq_of_beq h1; cases h2 : (r8 s.index t.index)
  · refine j5 G (s8 (k6 17 [0, 4] (Z2 s.index t.index) s7) (fc h0 (fc h1 (fc h2 (fc (b := false) rfl fz)))) (us [(6, 10, 0), (1011, 1011, 0), (13, 17, 1), (1018, 1018, 1), (20, 24, 2), (1025, 1025, 2), (27, 31, 3), (1032, 1032, 3), (34, 38, 3), (1039, 1039, 3), (41, 45, 3), (1046, 1046, 3)])) (rg 8) (V9 s t []) [(4, bA false)] fun G => b0 (wp_ret ?_); exact n5 false G (rg 8) (sr4 (by with_reducible assumption))
  cases h3 : (r8 s.value t.value)
  · refine j5 G (s8 (k6 17 [0, 4] (Z2 s.index t.index) (k6 24 [1, 5] (Z2 s.value t.value) s7)) (fc h0 (fc h1 (fc h2 (fc h3 (fc (b := false) rfl fz))))) (us [(6, 10, 0), (1011, 1011, 0), (13, 17, 1), (1018, 1018, 1), (20, 24, 2), (1025, 1025, 2), (27, 31, 3), (1032, 1032, 3), (34, 38, 4), (1039, 1039, 4), (41, 45, 4), (1046, 1046, 4)])) (rg 8) (V9 s t []) [(4, bA false)] fun G => b0 (wp_ret ?_); exact n5 false G (rg 8) (sr5 (by with_reducible assumption))
  cases h4 : (s.count == t.count)
  · have q4 := ne_of_beq_false h4; refine j5 G (s8 (k6 17 [0, 4] (Z2 s.index t.index) (k6 24 [1, 5] (Z2 s.value t.value) s7)) (fc h0 (fc h1 (fc h2 (fc h3 (fc h4 (fc (b := false) rfl fz)))))) (us [(6, 10, 0), (1011, 1011, 0), (13, 17, 1), (1018, 1018, 1), (20, 24, 2), (1025, 1025, 2), (27, 31, 3), (1032, 1032, 3), (34, 38, 4), (1039, 1039, 4), (41, 45, 5), (1046, 1046, 5)])) (rg 8) (V9 s t []) [(4, bA false)] fun G => b0 (wp_ret ?_); exact n5 false G (rg 8) (sr3 (by omega))
  have q4 := eq_of_beq h4; cases h5 : (m0 s.body t.body)
  · refine j5 G (s8 (k6 17 [0, 4] (Z2 s.index t.index) (k6 24 [1, 5] (Z2 s.value t.value) (k6 38 [2, 6] (ih1 t.body) s7))) (fc h0 (fc h1 (fc h2 (fc h3 (fc h4 (fc h5 fz)))))) (us [(6, 10, 0), (1011, 1011, 0), (13, 17, 1), (1018, 1018, 1), (20, 24, 2), (1025, 1025, 2), (27, 31, 3), (1032, 1032, 3), (34, 38, 4), (1039, 1039, 4), (41, 45, 5), (1046, 1046, 5)])) (rg 8) (V9 s t []) [(4, bA false)] fun G => b0 (wp_ret ?_); exact n5 false G (rg 8) (sr6 (by with_reducible assumption))
  refine j5 G (s8 (k6 17 [0, 4] (Z2 s.index t.index) (k6 24 [1, 5] (Z2 s.value t.value) (k6 38 [2, 6] (ih1 t.body) (k6 45 [3, 7] (ih2 t.els) s7)))) (fc h0 (fc h1 (fc h2 (fc h3 (fc h4 (fc h5 fz)))))) (us [(6, 10, 0), (1011, 1011, 0), (13, 17, 1), (1018, 1018, 1), (20, 24, 2), (1025, 1025, 2), (27, 31, 3), (1032, 1032, 3), (34, 38, 4), (1039, 1039, 4), (41, 45, 5), (1046, 1046, 5)])) (rg 8) (V9 s t []) [(4, bA (m0 s.els t.els))] fun G => b0 (wp_ret ?_); exact n5 (m0 s.els t.els) G (rg 8) (sr8 (by omega) (by omega) (by omega) (by with_reducible assumption) (by with_reducible assumption) (by with_reducible assumption))
theorem bj1 (s : b5) : ∀ (t : b5), f6.ok Tryd.prog (isS s t) :=
 b5.ind (P := fun s => ∀ (t : b5), f6.ok Tryd.prog (isS s t)) (fun k t i v c b e h1 h2 u => ba8 ⟨k, t, i, v, c, b, e⟩ u (fun m => aO5 b m (ag9 b m fun s hs => h1 s hs)) fun m => aO5 e m (ag9 e m fun s hs => h2 s hs)) s
theorem be3 (l m : List b5) : f6.ok Tryd.prog (isB l m) := aO5 l m (ag9 l m fun s _ => bj1 s)
theorem aj5 (xs xt : List Int) (l : List b5) (ys yt : List Int) (m : List b5) : f6.ok Tryd.prog (D8 18 [pA 0, pA 3] [dI xs, dI xt, dT l, dI ys, dI yt, dT m] (bA (decide (xs = ys) && (decide (xt = yt) && m0 l m)))) := by
  refine F0 24 Tryd.func18 [dI xs, dI xt, dT l, dI ys, dI yt, dT m] [(0, pA 0), (1, pA 3)] fun G => ?_; refine wp_seq (j5 G b9 [0, 1, 2, 3, 4, 5, 6, 14] [dI xs, dI xt, dT l, dI ys, dI yt, dT m, .box (pL 0), .box (pL 3)] [(2, .ptr 6 0), (3, .ptr 7 0), (4, bA false)] fun G => b0 (wp_seq ?_)); cases h0 : (decide (xs = ys))
  · have q0 := P3 h0; refine j5 G (s8 (k6 4 [0, 3] (R0 xs ys) s7) (fc h0 (fc (b := false) rfl fz)) (us [(6, 10, 0), (1011, 1011, 0), (13, 17, 1), (1018, 1018, 1)])) (rg 6) [dI xs, dI xt, dT l, dI ys, dI yt, dT m] [(4, bA false)] fun G => b0 (wp_ret ?_); exact K9 G (rg 6)
  have q0 := P2 h0; cases h1 : (decide (xt = yt))
  · have q1 := P3 h1; refine j5 G (s8 (k6 4 [0, 3] (R0 xs ys) (k6 10 [1, 4] (R0 xt yt) s7)) (fc h0 (fc h1 fz)) (us [(6, 10, 0), (1011, 1011, 0), (13, 17, 1), (1018, 1018, 1)])) (rg 6) [dI xs, dI xt, dT l, dI ys, dI yt, dT m] [(4, bA false)] fun G => b0 (wp_ret ?_); exact K9 G (rg 6)
  have q1 := P2 h1; refine j5 G (s8 (k6 4 [0, 3] (R0 xs ys) (k6 10 [1, 4] (R0 xt yt) (k6 17 [2, 5] (be3 l m) s7))) (fc h0 (fc h1 fz)) (us [(6, 10, 0), (1011, 1011, 0), (13, 17, 1), (1018, 1018, 1)])) (rg 6) [dI xs, dI xt, dT l, dI ys, dI yt, dT m] [(4, bA (m0 l m))] fun G => b0 (wp_ret ?_); exact K9 G (rg 6)
end Go.Proofs.YtcahndjigkledaaDoor

namespace Go.Proofs.YtcahndjigkledaaDoor
open Go
def j9 (l : List UInt8) : ByteArray := ⟨l.toArray⟩
theorem j7 (l : List UInt8) : (j9 l).size = l.length := rfl
theorem at1 (l : List UInt8) : (j9 l).toList = l := by
 simp [j9, ByteArray.toList_eq]
theorem W8 (l m : List UInt8) : j9 l ++ j9 m = j9 (l ++ m) := by
 apply ByteArray.ext; simp [j9]
def stT (k t c : Int) (ix v b e : List UInt8) : List UInt8 :=
 if k = 1 then [UInt8.ofNat (97 + t.toNat)] ++ [58, 61] ++ v ++ [59]
 else if k = 5 then [UInt8.ofNat (97 + t.toNat)] ++ [33, 61] ++ v ++ [59]
 else if k = 2 then [UInt8.ofNat (80 + t.toNat)] ++ [91] ++ ix ++ [93, 58, 61] ++ v ++ [59]
 else if k = 3 then [105, 102] ++ v ++ [123] ++ b ++ [125, 123] ++ e ++ [125]
 else [114, 101, 112, 101, 97, 116] ++ Lib.decDigits c.toNat ++ [123] ++ b ++ [125]
mutual
def T1 : b5 -> List UInt8
 | ⟨k, t, ix, v, c, b, e⟩ => stT k t c (c6 ix) (c6 v) (c8 b) (c8 e)
def c8 : List b5 -> List UInt8
 | [] => []
 | s :: r => T1 s ++ c8 r
end
theorem z8 (s : b5) : T1 s = stT s.kind s.target s.count (c6 s.index) (c6 s.value) (c8 s.body) (c8 s.els) := by
 cases s; simp only [T1]; rfl
theorem ao0 (a b : List b5) : c8 (a ++ b) = c8 a ++ c8 b := by
 induction a with
 | nil => simp [c8]
 | cons x r ih => simp [c8, ih]
theorem I4 {ss : List b5} {k : Nat} (h : k < ss.length) : c8 (ss.take (k + 1)) = c8 (ss.take k) ++ T1 (ss.getD k bj9) := by
 rw [B5 ss k h, ao0, l7 h]; simp [c8]
theorem F2 {nv na : Nat} {e : b6} (h : c7 nv na e = true) : (c6 e).length <= 8192 := by
 unfold c7 at h
 simp only [bk0] at h
 exact n7 nv na 5 e h.1
theorem aW5 {k t c : Int} {ix v b e : List UInt8} (hi : k = 2 -> ix.length <= 8192) (hv : k ≠ 4 -> v.length <= 8192) (hc : k = 4 -> c < 1000) (hk : k = 1 \/ k = 2 \/ k = 3 \/ k = 4 \/ k = 5) :
  (stT k t c ix v b e).length <= 20000 + b.length + e.length := by
 unfold stT
 repeat' split
 all_goals (simp only [bl6, bk4, bk7])
 ·have := hv (by omega); omega
 ·have := hv (by omega); omega
 ·have := hv (by omega); have := hi (by omega); omega
 ·have := hv (by omega); omega
 have := aa7 (n := c.toNat) (by have := hc (by omega); omega); omega
theorem r9 {nv na d : Nat} {s : b5} (h : d8 nv na (d + 1) s = true) : (s.kind = 1 \/ s.kind = 2 \/ s.kind = 3 \/ s.kind = 4 \/ s.kind = 5) /\
    ((s.kind = 1 \/ s.kind = 5) -> 0 <= s.target /\ s.target < nv) /\ (s.kind = 2 -> 0 <= s.target /\ s.target < na /\ c7 nv na s.index = true /\ B6 s.index = true) /\
    (s.kind ≠ 4 -> c7 nv na s.value = true) /\ (s.kind = 4 -> 1 <= s.count /\ s.count <= 3) /\ (∀ x ∈ s.body, d8 nv na d x = true) /\ (∀ x ∈ s.els, d8 nv na d x = true) := by
  have hb := H7 h
  rw [d8, bk0] at h
  obtain ⟨h0, h⟩ := h
  refine ⟨?_, ?_, ?_, ?_, ?_, bk6.1 hb.1, bk6.1 hb.2⟩
  all_goals
    by_cases k1 : s.kind = 1 \/ s.kind = 5
    · rw [if_pos k1] at h
      simp only [bk0, decide_eq_true_eq] at h
      first | omega | exact fun _ => ⟨h.1.1, h.1.2⟩ | (intro h2; omega) | exact fun _ => h.2
    rw [if_neg k1] at h
    by_cases k2 : s.kind = 2
    · rw [if_pos k2] at h
      simp only [bk0, decide_eq_true_eq] at h
      first | omega | exact fun _ => ⟨h.1.1.1.1, h.1.1.1.2, h.1.1.2, h.1.2⟩ | (intro h2; omega) | exact fun _ => h.2
    rw [if_neg k2] at h
    by_cases k3 : s.kind = 3
    · rw [if_pos k3] at h
      simp only [bk0] at h
      first | omega | (intro h2; omega) | exact fun _ => h.1.1
    rw [if_neg k3] at h
    by_cases k4 : s.kind = 4
    · first
        | omega
        | (intro h2; omega)
        | (intro _
           unfold i6 at h0
           rw [if_pos (.inr k4), if_pos k4] at h0
           simp only [bk0, decide_eq_true_eq] at h0
           exact ⟨h0.2.1.1.1.2, h0.2.1.1.2⟩)
    rw [if_neg k4] at h; cases h
mutual
theorem aN0 (nv na : Nat) : ∀ (d : Nat) (s : b5), d8 nv na d s = true -> (T1 s).length <= 20000 * nS s
 | 0, s, h => by simp [d8] at h
 | d + 1, s, h => by
  obtain ⟨h1, h2, h3, h4, h5, h6, h7⟩ := r9 h
  have b1 := C8 nv na d s.body h6
  have b2 := C8 nv na d s.els h7
  have hl := aW5 (k := s.kind) (t := s.target) (c := s.count) (ix := c6 s.index) (v := c6 s.value) (b := c8 s.body) (e := c8 s.els) (fun hk => F2 (h3 hk).2.2.1) (fun hk => F2 (h4 hk)) (fun hk => by have := h5 hk; omega) h1
  rw [z8, Q4]
  omega
termination_by d s => (d, 0)
theorem C8 (nv na : Nat) : ∀ (d : Nat) (ss : List b5), (∀ s ∈ ss, d8 nv na d s = true) -> (c8 ss).length <= 20000 * J3 ss
 | _, [], _ => by simp [c8]
 | d, s :: r, h => by
  have b1 := aN0 nv na d s (h s bl2)
  have b2 := C8 nv na d r fun x hx => h x (bl9 _ hx)
  rw [c8, J3, bl6]
  omega
termination_by d ss => (d, ss.length + 1)
end
def aB8 (l : Int) : UInt8 := [76, 72, 85, 88].getD l.toNat 0
def y8 (ls : List Int) : List UInt8 := ls.map aB8
theorem aB7 {ls : List Int} {k : Nat} (h : k < ls.length) : y8 (ls.take (k + 1)) = y8 (ls.take k) ++ [aB8 (ls.getD k 0)] := by
 unfold y8
 rw [B5 ls k h, List.map_append, l7 h]; rfl
def X6 (p : c9) : List UInt8 := y8 p.vars ++ [47] ++ y8 p.arrays ++ [47] ++ c8 p.body
def T4 (p : c9) : List UInt8 := if o9 p then X6 p else []
def fiW (x : UInt8) : List UInt8 -> Int -> Int
 | [], _ => -1
 | y :: r, i => if x = y then i else fiW x r (i + 1)
def aa4 (s : List UInt8) (n : Int) (w : List UInt8) : Bool := decide (0 <= n) && (decide (n + w.length <= s.length) && ((s.drop n.toNat).take w.length == w))
def skW (s : List UInt8) (n : Int) (w : List UInt8) : Int := if aa4 s n w then n + w.length else -1
def nmW (s : List UInt8) (n : Int) (ls : List UInt8) : Int := if n < 0 \/ n >= s.length then -1 else fiW (s.getD n.toNat 0) ls 0
abbrev ae1 : List UInt8 := [48, 49, 50, 51, 52, 53, 54, 55, 56, 57]
abbrev an9 : List UInt8 := [97, 98, 99, 100, 101, 102, 103, 104, 105, 106, 107, 108]
abbrev aD6 : List UInt8 := [80, 81]
abbrev opW : List UInt8 := [43, 45, 42, 38, 94, 61, 60]
def dgL (s : List UInt8) (n : Int) : Nat -> Int × Int -> Int × Int
 | 0, x => x
 | f + 1, x => if x.2 < 3 /\ nmW s (n + x.2) ae1 >= 0 then dgL s n f (x.1 * 10 + nmW s (n + x.2) ae1, x.2 + 1) else x
def dgW (s : List UInt8) (n : Int) : Int × Int := if (dgL s n 3 (0, 0)).2 = 0 then (0, -1) else ((dgL s n 3 (0, 0)).1, n + (dgL s n 3 (0, 0)).2)
def pE (s : List UInt8) : Nat -> Int -> b6 × Int
 | 0, _ => (⟨0, 0, []⟩, -1)
 | d + 1, n => if n < 0 then (⟨0, 0, []⟩, -1) else
  if nmW s n an9 >= 0 then (⟨2, nmW s n an9, []⟩, n + 1) else
  if nmW s n aD6 >= 0 then (⟨3, nmW s n aD6, [(pE s d (skW s (n + 1) [91])).1]⟩, skW s (pE s d (skW s (n + 1) [91])).2 [93]) else
  if aa4 s n [40] = false then (⟨1, (dgW s n).1, []⟩, (dgW s n).2) else
  let a := pE s d (skW s n [40])
  if aa4 s a.2 [63] then
   let b := pE s d (skW s a.2 [63])
   let c := pE s d (skW s b.2 [58])
   (⟨11, 0, [a.1, b.1, c.1]⟩, skW s c.2 [41])
  else if nmW s a.2 opW < 0 then (⟨0, 0, []⟩, -1) else
   let b := pE s d (a.2 + 1)
   (⟨4 + nmW s a.2 opW, 0, [a.1, b.1]⟩, skW s b.2 [41])
abbrev zE : b6 := ⟨0, 0, []⟩
def bb4 (s : List UInt8) (B : Int -> List b5 × Int) (n : Int) : b5 × Int :=
 if aa4 s n [105, 102] then
  let v := pE s 5 (skW s n [105, 102])
  let b := B (skW s v.2 [123])
  let e := B (skW s b.2 [125, 123])
  (⟨3, 0, zE, v.1, 0, b.1, e.1⟩, skW s e.2 [125])
 else if aa4 s n [114, 101, 112, 101, 97, 116] then
  let c := dgW s (skW s n [114, 101, 112, 101, 97, 116])
  let b := B (skW s c.2 [123])
  (⟨4, 0, zE, zE, c.1, b.1, []⟩, skW s b.2 [125])
 else if nmW s n aD6 >= 0 then
  let i := pE s 1 (skW s (n + 1) [91])
  let v := pE s 5 (skW s i.2 [93, 58, 61])
  (⟨2, nmW s n aD6, i.1, v.1, 0, [], []⟩, skW s v.2 [59])
 else if nmW s n an9 < 0 then (⟨0, nmW s n an9, zE, zE, 0, [], []⟩, -1)
 else if aa4 s (n + 1) [33, 61] then
  let v := pE s 5 (skW s (n + 1) [33, 61])
  (⟨5, nmW s n an9, zE, v.1, 0, [], []⟩, skW s v.2 [59])
 else
  let v := pE s 5 (skW s (n + 1) [58, 61])
  (⟨1, nmW s n an9, zE, v.1, 0, [], []⟩, skW s v.2 [59])
def pBk (s : List UInt8) (R : Int -> b5 × Int) : Nat -> List b5 × Int -> List b5 × Int
 | 0, x => x
 | f + 1, x => if 0 <= x.2 /\ x.2 < s.length /\ aa4 s x.2 [125] = false then
   (if x.1.length + 1 > 60 then (x.1 ++ [(R x.2).1], -1) else pBk s R f (x.1 ++ [(R x.2).1], (R x.2).2)) else x
def pSt (s : List UInt8) : Nat -> Int -> b5 × Int
 | 0, _ => (⟨0, 0, zE, zE, 0, [], []⟩, -1)
 | d + 1, n => bb4 s (fun n => pBk s (pSt s d) 61 ([], n)) n
def pBl (s : List UInt8) (d : Nat) (n : Int) : List b5 × Int := pBk s (pSt s d) 61 ([], n)
section
variable {a b r w : List UInt8} {x : UInt8}
theorem a30 (h : (b.take w.length == w) = true) : aa4 (a ++ b) (a.length : Int) w = true := by
 unfold aa4
 simp only [bk0, decide_eq_true_eq, Int.toNat_natCast, List.drop_left, bl6]
 refine ⟨by omega, ?_, h⟩
 have h1 : (b.take w.length).length = w.length := by rw [eq_of_beq h]
 rw [List.length_take] at h1
 omega
theorem bc9 (h : (b.take w.length == w) = false) : aa4 (a ++ b) (a.length : Int) w = false := by
 unfold aa4
 simp only [Int.toNat_natCast, List.drop_left, h, Bool.and_false]
theorem a95 : skW (a ++ (w ++ r)) (a.length : Int) w = (a.length : Int) + w.length := by
 unfold skW
 rw [if_pos (a30 (by simp))]
theorem aB1 (ls : List UInt8) : nmW (a ++ x :: r) (a.length : Int) ls = fiW x ls 0 := by
 unfold nmW
 rw [if_neg (by simp only [bl6, bk4]; omega)]
 simp
theorem a65 (ls : List UInt8) : nmW a (a.length : Int) ls = -1 := by
 unfold nmW
 rw [if_pos (.inr (by omega))]
end
def ah4 (r : List UInt8) : Prop := ∀ x ∈ r.head?, fiW x ae1 0 = -1
theorem a64 {a r : List UInt8} (h : ah4 r) : nmW (a ++ r) (a.length : Int) ae1 = -1 := by
 cases r with
 | nil => rw [List.append_nil]; exact a65 _
 | cons x r => rw [aB1]; exact h x rfl
theorem a34 : ∀ d : Fin 10, fiW (UInt8.ofNat (48 + d)) ae1 0 = (d : Nat) /\ fiW (UInt8.ofNat (48 + d)) an9 0 = -1 /\ fiW (UInt8.ofNat (48 + d)) aD6 0 = -1 /\ UInt8.ofNat (48 + d) ≠ 40 := by decide +kernel
theorem aM8 : ∀ v : Fin 12, fiW (UInt8.ofNat (97 + v)) an9 0 = (v : Nat) /\ fiW (UInt8.ofNat (97 + v)) aD6 0 = -1 /\ UInt8.ofNat (97 + v) ≠ 114 := by decide +kernel
theorem a40 : ∀ v : Fin 2, fiW (UInt8.ofNat (80 + v)) aD6 0 = (v : Nat) /\ fiW (UInt8.ofNat (80 + v)) an9 0 = -1 /\ UInt8.ofNat (80 + v) ≠ 114 /\ UInt8.ofNat (80 + v) ≠ 105 := by decide +kernel
theorem bb5 : ∀ k : Fin 7, fiW (s9 (4 + k)) opW 0 = (k : Nat) /\ s9 (4 + k) ≠ 63 /\ fiW (s9 (4 + k)) ae1 0 = -1 := by decide +kernel
theorem aU1 {n : Nat} (h : n < 10) : Lib.decDigits n = [UInt8.ofNat (48 + n)] := by rw [Lib.decDigits, dif_pos (by omega)]
theorem aU0 {n : Nat} (h : 9 < n) (h2 : n < 100) : Lib.decDigits n = [UInt8.ofNat (48 + n / 10), UInt8.ofNat (48 + n % 10)] := by
 rw [Lib.decDigits, dif_neg (by omega), aU1 (by omega)]; rfl
theorem a36 {n : Nat} (h : 99 < n) (h2 : n < 1000) : Lib.decDigits n = [UInt8.ofNat (48 + n / 10 / 10), UInt8.ofNat (48 + n / 10 % 10), UInt8.ofNat (48 + n % 10)] := by
 rw [Lib.decDigits, dif_neg (by omega), aU0 (by omega) (by omega)]; rfl
theorem an0 {d : Nat} (h : d < 10) : fiW (UInt8.ofNat (48 + d)) ae1 0 = d := (a34 ⟨d, h⟩).1
theorem aw6 {s : List UInt8} {n : Int} {f : Nat} {x : Int × Int} (h : ¬ x.2 < 3 \/ nmW s (n + x.2) ae1 < 0) : dgL s n f x = x := by
 cases f with
 | zero => rfl
 | succ f => rw [dgL, if_neg (by omega)]
theorem aa6 {s : List UInt8} {n : Int} {f : Nat} {x : Int × Int} {d : Int} (h : x.2 < 3) (hd : nmW s (n + x.2) ae1 = d) (h0 : 0 <= d) : dgL s n (f + 1) x = dgL s n f (x.1 * 10 + d, x.2 + 1) := by
 rw [dgL, if_pos ⟨h, by omega⟩, hd]
theorem am6 {a p r : List UInt8} {x : UInt8} {n : Int} (hn : n = (a.length : Int) + p.length) (ls : List UInt8) : nmW (a ++ (p ++ x :: r)) n ls = fiW x ls 0 := by
 have := aB1 (a := a ++ p) (x := x) (r := r) ls
 rw [bn1, bl6] at this
 rw [hn, <- this]; rfl
theorem aQ5 {a p r : List UInt8} {n : Int} (hr : ah4 r) (hn : n = (a.length : Int) + p.length) : nmW (a ++ (p ++ r)) n ae1 < 0 := by
 have := a64 (a := a ++ p) hr
 rw [bn1, bl6] at this
 rw [hn, show (a.length : Int) + p.length = ((a.length + p.length : Nat) : Int) from rfl, this]; decide
theorem a77 {n : Nat} (hn : n < 1000) (a r : List UInt8) (hr : ah4 r) : dgW (a ++ (Lib.decDigits n ++ r)) (a.length : Int) = ((n : Int), (a.length : Int) + (Lib.decDigits n).length) := by
 have key : dgL (a ++ (Lib.decDigits n ++ r)) (a.length : Int) 3 (0, 0) = ((n : Int), ((Lib.decDigits n).length : Int)) := by
  rcases bn0 n 10 with h1 | h1
  ·rw [aU1 h1]
   refine Eq.trans (aa6 (d := (n : Nat)) (by simp) (by exact (am6 (p := []) (by simp) _).trans (an0 h1)) (by omega)) ?_
   refine Eq.trans (aw6 (.inr (by exact aQ5 hr (by simp)))) ?_
   simp
  rcases bn0 n 100 with h2 | h2
  ·rw [aU0 (by omega) h2]
   refine Eq.trans (aa6 (d := (n / 10 : Nat)) (by simp) (by exact (am6 (p := []) (by simp) _).trans (an0 (by omega))) (by omega)) ?_
   refine Eq.trans (aa6 (d := (n % 10 : Nat)) (by simp) (by exact (am6 (p := [UInt8.ofNat (48 + n / 10)]) (by simp) _).trans (an0 (by omega))) (by omega)) ?_
   refine Eq.trans (aw6 (.inr (by exact aQ5 hr (by simp)))) ?_
   simp
   omega
  rw [a36 (by omega) hn]
  refine Eq.trans (aa6 (d := (n / 10 / 10 : Nat)) (by simp) (by exact (am6 (p := []) (by simp) _).trans (an0 (by omega))) (by omega)) ?_
  refine Eq.trans (aa6 (d := (n / 10 % 10 : Nat)) (by simp) (by exact (am6 (p := [UInt8.ofNat (48 + n / 10 / 10)]) (by simp) _).trans (an0 (by omega))) (by omega)) ?_
  refine Eq.trans (aa6 (d := (n % 10 : Nat)) (by simp) (by exact (am6 (p := [UInt8.ofNat (48 + n / 10 / 10), UInt8.ofNat (48 + n / 10 % 10)]) (by simp) _).trans (an0 (by omega))) (by omega)) ?_
  simp only [dgL]
  simp
  omega
 unfold dgW
 rw [key]
 have hl : (Lib.decDigits n).length ≠ 0 := by
  rw [Lib.decDigits]; split <;> simp
 rw [if_neg (by simpa using hl)]
def At (s : List UInt8) (n : Int) (b : List UInt8) : Prop := ∃ a, s = a ++ b /\ n = (a.length : Int)
section
variable {s b r w p : List UInt8} {n : Int} {x : UInt8}
theorem At.skip (h : At s n (p ++ b)) : At s (n + p.length) b := by
 obtain ⟨a, h1, h2⟩ := h
 exact ⟨a ++ p, by rw [h1, bn1], by rw [h2, bl6]; rfl⟩
theorem At.skip1 (h : At s n (x :: b)) : At s (n + 1) b := At.skip (p := [x]) h
theorem At.le (h : At s n b) : 0 <= n /\ n + b.length = s.length := by
 obtain ⟨a, h1, h2⟩ := h
 rw [h1, h2, bl6]; omega
theorem At.has (h : At s n b) (hw : (b.take w.length == w) = true) : aa4 s n w = true := by
 obtain ⟨a, rfl, rfl⟩ := h; exact a30 hw
theorem At.hasN (h : At s n b) (hw : (b.take w.length == w) = false) : aa4 s n w = false := by
 obtain ⟨a, rfl, rfl⟩ := h; exact bc9 hw
theorem At.sk (h : At s n (w ++ r)) : skW s n w = n + w.length := by
 obtain ⟨a, rfl, rfl⟩ := h; exact a95
theorem At.nm (h : At s n (x :: r)) (ls : List UInt8) : nmW s n ls = fiW x ls 0 := by
 obtain ⟨a, rfl, rfl⟩ := h; exact aB1 ls
theorem At.dg {m : Nat} (h : At s n (Lib.decDigits m ++ r)) (hm : m < 1000) (hr : ah4 r) : dgW s n = ((m : Int), n + (Lib.decDigits m).length) := by
 obtain ⟨a, rfl, rfl⟩ := h; exact a77 hm a r hr
theorem At.sk2 (h : At s n (w ++ r)) : At s (skW s n w) r := by rw [h.sk]; exact h.skip
end
theorem aT9 (m : Nat) (h : m < 1000) : ∃ (d : Nat) (t : List UInt8), d < 10 /\ Lib.decDigits m = UInt8.ofNat (48 + d) :: t := by
 rcases bn0 m 10 with h1 | h1
 ·exact ⟨m, [], h1, aU1 h1⟩
 rcases bn0 m 100 with h2 | h2
 ·exact ⟨m / 10, _, by omega, aU0 (by omega) h2⟩
 exact ⟨m / 10 / 10, _, by omega, a36 (by omega) h⟩
theorem s2 {x : UInt8} (h : fiW x ae1 0 = -1) (r : List UInt8) : ah4 (x :: r) := fun y hy => by
 simp at hy; subst hy; exact h
theorem b6.mk_eq {e : b6} {k n : Int} {ks : List b6} (h1 : e.kind = k) (h2 : e.value = n) (h3 : e.kids = ks) : (⟨k, n, ks⟩ : b6) = e := by
 subst h1 h2 h3; cases e; rfl
theorem bc6 {ks : List b6} (h : ks.length = 1) : ∃ x, ks = [x] := List.length_eq_one_iff.1 h
theorem bc5 {ks : List b6} (h : ks.length = 2) : ∃ x y, ks = [x, y] := by
 match ks, h with
 | [x, y], _ => exact ⟨x, y, rfl⟩
theorem bc4 {ks : List b6} (h : ks.length = 3) : ∃ x y z, ks = [x, y, z] := by
 match ks, h with
 | [x, y, z], _ => exact ⟨x, y, z, rfl⟩
theorem ad0 (nv na : Nat) (hnv : nv <= 12) (hna : na <= 2) : ∀ (d : Nat) (e : b6), d7 nv na d e = true -> ∀ (s r : List UInt8) (n : Int), At s n (c6 e ++ r) -> ah4 r -> pE s d n = (e, n + (c6 e).length)
 | 0, e, h => by simp [d7] at h
 | d + 1, e, h => by
  intro s r n hat hr
  have hk := (F4 h).2
  have hn : s5 nv na e = true := by
   unfold d7 at h
   simp only [bk0] at h
   exact h.1.1
  obtain ⟨hl, hv0, hvl⟩ := K1 hn
  obtain ⟨m, hm⟩ : ∃ m : Nat, e.value = m := ⟨e.value.toNat, by omega⟩
  have hn0 := hat.le.1
  have ht := ag0 e
  rw [hm] at hvl ht
  have hK : e.kind = 1 \/ e.kind = 2 \/ e.kind = 3 \/ (4 <= e.kind /\ e.kind <= 10) \/ e.kind = 11 := by
   unfold e7 at hl
   split at hl
   ·omega
   split at hl
   ·omega
   split at hl
   ·omega
   split at hl <;> omega
  rw [pE, if_neg (by omega)]
  rcases hK with k1 | k2 | k3 | k4 | k5
  ·rw [k1] at hvl ht
   have hm' : m < 256 := by simp [v8] at hvl; omega
   have ht' : c6 e = Lib.decDigits m := ht
   rw [ht'] at hat ⊢
   obtain ⟨dd, t, hd, hdt⟩ := aT9 m (by omega)
   have hat2 := hat
   rw [hdt, List.cons_append] at hat2
   obtain ⟨f1, f2, f3, f4⟩ := a34 ⟨dd, hd⟩
   rw [if_neg (by rw [hat2.nm, f2]; decide), if_neg (by rw [hat2.nm, f3]; decide), if_pos (hat2.hasN (by simpa using f4)), hat.dg (by omega) hr]
   have e0 : e.kids = [] := by
    rw [k1] at hl; simp [e7] at hl; exact hl
   rw [b6.mk_eq k1 hm e0]
  ·rw [k2] at hvl ht
   have hm' : m < 12 := by simp [v8] at hvl; omega
   have ht' : c6 e = [UInt8.ofNat (97 + m)] := ht
   rw [ht'] at hat ⊢
   obtain ⟨f1, f2, f3⟩ := aM8 ⟨m, hm'⟩
   have hat2 : At s n (UInt8.ofNat (97 + m) :: r) := hat
   rw [hat2.nm, f1, if_pos (by simp)]
   have e0 : e.kids = [] := by
    rw [k2] at hl; simp [e7] at hl; exact hl
   rw [b6.mk_eq k2 hm e0]; rfl
  ·rw [k3] at hvl ht
   have hm' : m < 2 := by simp [v8] at hvl; omega
   obtain ⟨x, hx⟩ := bc6 (ks := e.kids) (by rw [k3] at hl; simp [e7] at hl; omega)
   have ht' : c6 e = [UInt8.ofNat (80 + m)] ++ [91] ++ c6 x ++ [93] := by rw [ht, hx]; rfl
   rw [ht'] at hat ⊢
   obtain ⟨f1, f2, f3⟩ := a40 ⟨m, hm'⟩
   have hat2 : At s n (UInt8.ofNat (80 + m) :: ([91] ++ (c6 x ++ ([93] ++ r)))) := by simpa using hat
   rw [hat2.nm, hat2.nm, f2, f1, if_neg (by decide), if_pos (by simp)]
   have h1 := hat2.skip1
   have h2 := h1.sk2
   have h3 := ad0 nv na hnv hna d x (hk x (by rw [hx]; simp)) _ _ _ h2 (s2 (by decide) _)
   rw [h3]
   have h4 := h2.skip
   rw [h4.sk, h1.sk, b6.mk_eq k3 hm hx]
   simp; omega
  ·obtain ⟨x, y, hx⟩ := bc5 (ks := e.kids) (by
    unfold e7 at hl
    rw [if_neg (by omega), if_neg (by omega), if_pos (by omega)] at hl; omega)
   have ht' : c6 e = [40] ++ c6 x ++ [s9 e.kind] ++ c6 y ++ [41] := by
    rw [ht, av0, if_neg (by omega), if_neg (by omega), if_neg (by omega), if_neg (by omega), hx]; rfl
   have hm0 : m = 0 := by
    unfold v8 at hvl
    rw [if_neg (by omega), if_neg (by omega), if_neg (by omega)] at hvl; omega
   obtain ⟨j, hj, hj7⟩ : ∃ j : Nat, e.kind = 4 + (j : Int) /\ j < 7 := ⟨(e.kind - 4).toNat, by omega, by omega⟩
   obtain ⟨f1, f2, f3⟩ := bb5 ⟨j, hj7⟩
   rw [ht'] at hat ⊢
   have hat2 : At s n ([40] ++ (c6 x ++ ([s9 e.kind] ++ (c6 y ++ ([41] ++ r))))) := by simpa using hat
   have hat3 : At s n (40 :: (c6 x ++ ([s9 e.kind] ++ (c6 y ++ ([41] ++ r))))) := hat2
   rw [hat3.nm, hat3.nm, if_neg (by decide), if_neg (by decide), if_neg (by rw [hat3.has (w := [40]) (by simp)]; decide)]
   have h2 := hat2.sk2
   have hf : fiW (s9 e.kind) ae1 0 = -1 := by rw [hj]; exact f3
   have h3 := ad0 nv na hnv hna d x (hk x (by rw [hx]; simp)) _ _ _ h2 (s2 hf _)
   rw [h3]
   dsimp only
   have h4 := h2.skip
   have h4' : At s (skW s n [40] + (c6 x).length) (s9 e.kind :: (c6 y ++ ([41] ++ r))) := h4
   have f2' : s9 e.kind ≠ 63 := by rw [hj]; exact f2
   have f1' : fiW (s9 e.kind) opW 0 = j := by rw [hj]; exact f1
   rw [if_neg (by rw [h4'.hasN (w := [63]) (by simpa using f2')]; decide), h4'.nm, f1', if_neg (by omega)]
   have h5 := h4'.skip1
   have h6 := ad0 nv na hnv hna d y (hk y (by rw [hx]; simp)) _ _ _ h5 (s2 (by decide) _)
   rw [h6]
   have h7 := h5.skip
   rw [h7.sk, hat2.sk, b6.mk_eq (e := e) hj (by rw [hm, hm0]; rfl) hx]
   simp; omega
  obtain ⟨x, y, z, hx⟩ := bc4 (ks := e.kids) (by
   unfold e7 at hl
   rw [if_neg (by omega), if_neg (by omega), if_neg (by omega), if_pos (by omega)] at hl; omega)
  have ht' : c6 e = [40] ++ c6 x ++ [63] ++ c6 y ++ [58] ++ c6 z ++ [41] := by
   rw [ht, av0, if_neg (by omega), if_neg (by omega), if_neg (by omega), if_pos (by omega), hx]; rfl
  have hm0 : m = 0 := by
   unfold v8 at hvl
   rw [if_neg (by omega), if_neg (by omega), if_neg (by omega)] at hvl; omega
  rw [ht'] at hat ⊢
  have hat2 : At s n ([40] ++ (c6 x ++ ([63] ++ (c6 y ++ ([58] ++ (c6 z ++ ([41] ++ r))))))) := by simpa using hat
  have hat3 : At s n (40 :: (c6 x ++ ([63] ++ (c6 y ++ ([58] ++ (c6 z ++ ([41] ++ r))))))) := hat2
  rw [hat3.nm, hat3.nm, if_neg (by decide), if_neg (by decide), if_neg (by rw [hat3.has (w := [40]) (by simp)]; decide)]
  have h2 := hat2.sk2
  have h3 := ad0 nv na hnv hna d x (hk x (by rw [hx]; simp)) _ _ _ h2 (s2 (by decide) _)
  rw [h3]
  dsimp only
  have h4 := h2.skip
  rw [if_pos (h4.has (w := [63]) (by simp))]
  have h5 := h4.sk2
  have h6 := ad0 nv na hnv hna d y (hk y (by rw [hx]; simp)) _ _ _ h5 (s2 (by decide) _)
  rw [h6]
  dsimp only
  have h7 := h5.skip
  have h8 := h7.sk2
  have h9 := ad0 nv na hnv hna d z (hk z (by rw [hx]; simp)) _ _ _ h8 (s2 (by decide) _)
  rw [h9]
  dsimp only
  have h10 := h8.skip
  rw [h10.sk, h7.sk, h4.sk, hat2.sk, b6.mk_eq (e := e) k5 (by rw [hm, hm0]; rfl) hx]
  simp; omega
theorem b5.mk_eq {s : b5} {k t c : Int} {i v : b6} {b e : List b5} (h1 : s.kind = k) (h2 : s.target = t) (h3 : s.index = i) (h4 : s.value = v) (h5 : s.count = c) (h6 : s.body = b) (h7 : s.els = e) : (⟨k, t, i, v, c, b, e⟩ : b5) = s := by
 subst h1 h2 h3 h4 h5 h6 h7; cases s; rfl
theorem Y0 {e : b6} (h : noneB e = true) : e = zE := by
 unfold noneB at h
 simp only [bk0, decide_eq_true_eq] at h
 exact (b6.mk_eq h.1.1 h.1.2 (bm2 h.2)).symm
section
variable {s : b5} (h : i6 s = true)
include h
theorem a25 (hk : s.kind = 1 \/ s.kind = 5) : s.index = zE /\ s.count = 0 /\ s.body = [] /\ s.els = [] := by
 unfold i6 at h
 rw [if_neg (by omega)] at h
 simp only [bk0, Bool.or_eq_true, decide_eq_true_eq] at h
 obtain ⟨⟨⟨h1, h2⟩, h3⟩, h4⟩ := h
 exact ⟨Y0 (by rcases h4 with h | h; omega; exact h), h3, bm2 h1, bm2 h2⟩
theorem bh0 (hk : s.kind = 2) : s.count = 0 /\ s.body = [] /\ s.els = [] := by
 unfold i6 at h
 rw [if_neg (by omega)] at h
 simp only [bk0, Bool.or_eq_true, decide_eq_true_eq] at h
 obtain ⟨⟨⟨h1, h2⟩, h3⟩, h4⟩ := h
 exact ⟨h3, bm2 h1, bm2 h2⟩
theorem bg9 (hk : s.kind = 3) : s.target = 0 /\ s.index = zE /\ s.count = 0 := by
 unfold i6 at h
 rw [if_pos (.inl hk), if_neg (by omega)] at h
 simp only [bk0, decide_eq_true_eq] at h
 exact ⟨h.1, Y0 h.2.2, h.2.1⟩
theorem bg8 (hk : s.kind = 4) : s.target = 0 /\ s.index = zE /\ s.value = zE /\ s.els = [] /\ 1 <= s.count /\ s.count <= 3 := by
 unfold i6 at h
 rw [if_pos (.inr hk), if_pos hk] at h
 simp only [bk0, decide_eq_true_eq] at h
 obtain ⟨h0, ⟨⟨⟨⟨h1, h2⟩, h3⟩, h4⟩, h5⟩⟩ := h
 exact ⟨h0, Y0 h4, Y0 h5, bm2 h1, h2, h3⟩
end
def aT2 (r : List UInt8) : Prop := r = [] \/ ∃ t, r = 125 :: t
theorem aW4 {nv na d : Nat} {s : b5} (hnv : nv <= 12) (hna : na <= 2) (h : d8 nv na (d + 1) s = true) : ∃ x t, T1 s = x :: t /\ x ≠ 125 := by
 obtain ⟨h1, h2, h3, -⟩ := r9 h
 rw [z8]
 have hv : ∀ m : Fin 12, UInt8.ofNat (97 + m) ≠ 125 := by decide +kernel
 have ha : ∀ m : Fin 2, UInt8.ofNat (80 + m) ≠ 125 := by decide +kernel
 rcases h1 with k | k | k | k | k
 ·obtain ⟨a, b⟩ := h2 (.inl k)
  rw [stT, if_pos k]
  exact ⟨_, _, rfl, hv ⟨s.target.toNat, by omega⟩⟩
 ·obtain ⟨a, b, -⟩ := h3 k
  rw [stT, if_neg (by omega), if_neg (by omega), if_pos k]
  exact ⟨_, _, rfl, ha ⟨s.target.toNat, by omega⟩⟩
 ·rw [stT, if_neg (by omega), if_neg (by omega), if_neg (by omega), if_pos k]
  exact ⟨_, _, rfl, by decide⟩
 ·rw [stT, if_neg (by omega), if_neg (by omega), if_neg (by omega), if_neg (by omega)]
  exact ⟨_, _, rfl, by decide⟩
 obtain ⟨a, b⟩ := h2 (.inr k)
 rw [stT, if_neg (by omega), if_pos k]
 exact ⟨_, _, rfl, hv ⟨s.target.toNat, by omega⟩⟩
theorem ap7 (nv na d : Nat) (hnv : nv <= 12) (hna : na <= 2) (t : List UInt8) (ih : ∀ s : b5, d8 nv na d s = true -> nS s <= 60 -> ∀ (r : List UInt8) (n : Int), At t n (T1 s ++ r) -> pSt t d n = (s, n + (T1 s).length)) :
  ∀ (ss : List b5), (∀ s ∈ ss, d8 nv na d s = true /\ nS s <= 60) -> ∀ (r : List UInt8), aT2 r -> ∀ (acc : List b5) (f : Nat) (n : Int), acc.length + ss.length <= 60 -> ss.length < f -> At t n (c8 ss ++ r) -> pBk t (pSt t d) f (acc, n) = (acc ++ ss, n + (c8 ss).length)
 | [], _, r, hr, acc, f, n, _, hf, hat => by
  cases f with
  | zero => simp at hf
  | succ f =>
   have hat : At t n r := hat
   rw [pBk, if_neg]
   ·simp [c8]
   rintro ⟨h1, h2, h3⟩
   rcases hr with rfl | ⟨q, rfl⟩
   ·have := hat.le; simp at this; simp only at h2; omega
   rw [hat.has (w := [125]) (by simp)] at h3; cases h3
 | x :: ss, hs, r, hr, acc, f, n, ha, hf, hat => by
  cases f with
  | zero => simp at hf
  | succ f =>
   obtain ⟨h1, h2⟩ := hs x bl2
   have hat1 : At t n (T1 x ++ (c8 ss ++ r)) := by rw [c8, bn1] at hat; exact hat
   have hp := ih x h1 h2 _ n hat1
   obtain ⟨dd, rfl⟩ : ∃ dd, d = dd + 1 := by
    cases d with
    | zero => simp [d8] at h1
    | succ dd => exact ⟨dd, rfl⟩
   obtain ⟨c, q, hc, hc2⟩ := aW4 hnv hna h1
   have hlt := hat1.le
   have hat2 := hat1
   rw [hc, List.cons_append] at hat2
   rw [pBk, if_pos]
   ·dsimp only
    rw [hp, if_neg (by simp at ha ⊢; omega)]
    dsimp only
    rw [ap7 nv na (dd + 1) hnv hna t ih ss (fun s h => hs s (bl9 _ h)) r hr (acc ++ [x]) f _ (by simp at ha ⊢; omega) (by simp at hf; omega) hat1.skip]
    simp [c8]
    omega
   refine ⟨hlt.1, ?_, hat2.hasN (by simpa using hc2)⟩
   have := hat2.le
   simp at this
   show n < _
   omega
theorem psN {x : b5} {ss : List b5} (h : x ∈ ss) : nS x <= J3 ss := by
 induction ss with
 | nil => cases h
 | cons a r ih =>
  rw [J3]
  rcases bn2.1 h with rfl | h
  ·omega
  have := ih h; omega
theorem psL : ∀ ss : List b5, ss.length <= J3 ss
 | [] => bl5 _
 | s :: r => by
  have h1 := Q4 s
  have h2 := psL r
  simp only [J3, bk4]; omega
theorem psA {nv na : Nat} {e : b6} (h : c7 nv na e = true) (ha : B6 e = true) : d7 nv na 1 e = true := by
 unfold c7 at h
 simp only [bk0] at h
 have h1 := h.1
 unfold d7 at h1 ⊢
 simp only [bk0] at h1 ⊢
 refine ⟨⟨h1.1.1, ?_⟩, h1.2⟩
 have hl := (K1 h1.1.1).1
 unfold B6 at ha
 simp only [Bool.or_eq_true, decide_eq_true_eq] at ha
 rw [e7, if_pos ha] at hl
 rw [show e.kids = [] from bm2 (by omega)]; rfl
theorem aA5 (nv na : Nat) (hnv : nv <= 12) (hna : na <= 2) (t : List UInt8) : ∀ (d : Nat) (s : b5), d8 nv na d s = true -> nS s <= 60 -> ∀ (r : List UInt8) (n : Int), At t n (T1 s ++ r) -> pSt t d n = (s, n + (T1 s).length)
 | 0, s, h => by simp [d8] at h
 | d + 1, s, h => by
  intro hz r n hat
  have hpt : i6 s = true := by rw [d8, bk0] at h; exact h.1
  obtain ⟨h1, h2, h3, h4, -, h6, h7⟩ := r9 h
  have hn := Q4 s
  have hb : ∀ x ∈ s.body, d8 nv na d x = true /\ nS x <= 60 := fun x hx => ⟨h6 x hx, by have := psN hx; omega⟩
  have he : ∀ x ∈ s.els, d8 nv na d x = true /\ nS x <= 60 := fun x hx => ⟨h7 x hx, by have := psN hx; omega⟩
  have lb := psL s.body
  have le := psL s.els
  have hB := fun (r : List UInt8) (hr : aT2 r) (n : Int) (ha : At t n (c8 s.body ++ r)) => ap7 nv na d hnv hna t (aA5 nv na hnv hna t d) s.body hb r hr [] 61 n (by simp; omega) (by omega) ha
  have hE := fun (r : List UInt8) (hr : aT2 r) (n : Int) (ha : At t n (c8 s.els ++ r)) => ap7 nv na d hnv hna t (aA5 nv na hnv hna t d) s.els he r hr [] 61 n (by simp; omega) (by omega) ha
  have hV := fun (e : b6) (hr : c7 nv na e = true) (r : List UInt8) (n : Int) (ha : At t n (c6 e ++ r)) (hd : ah4 r) => ad0 nv na hnv hna 5 e (by unfold c7 at hr; simp only [bk0] at hr; exact hr.1) t r n ha hd
  rw [pSt, bb4]
  rcases h1 with k | k | k | k | k
  ·obtain ⟨a0, a1⟩ := h2 (.inl k)
   obtain ⟨p1, p2, p3, p4⟩ := a25 hpt (.inl k)
   obtain ⟨m, hm⟩ : ∃ m : Nat, s.target = m := ⟨s.target.toNat, by omega⟩
   have ht : T1 s = [UInt8.ofNat (97 + m)] ++ [58, 61] ++ c6 s.value ++ [59] := by rw [z8, stT, if_pos k, hm]; rfl
   rw [ht] at hat ⊢
   obtain ⟨f1, f2, f3⟩ := aM8 ⟨m, by omega⟩
   have q1 : At t n (UInt8.ofNat (97 + m) :: 58 :: 61 :: (c6 s.value ++ ([59] ++ r))) := by simpa using hat
   rw [if_neg (by rw [q1.hasN (w := [105, 102]) (by simp)]; decide), if_neg (by rw [q1.hasN (w := [114, 101, 112, 101, 97, 116]) (by simp [f3])]; decide), q1.nm, q1.nm, f2, f1, if_neg (by decide), if_neg (by omega)]
   have q2 := q1.skip1
   rw [if_neg (by rw [q2.hasN (w := [33, 61]) (by simp)]; decide)]
   have q3 : At t (n + 1) ([58, 61] ++ (c6 s.value ++ ([59] ++ r))) := q2
   have q4 := q3.sk2
   rw [hV _ (h4 (by omega)) _ _ q4 (s2 (by decide) _)]
   dsimp only
   rw [q4.skip.sk, q3.sk, b5.mk_eq k hm p1 rfl p2 p3 p4]
   simp; omega
  ·obtain ⟨a0, a1, a2, a3⟩ := h3 k
   obtain ⟨p2, p3, p4⟩ := bh0 hpt k
   obtain ⟨m, hm⟩ : ∃ m : Nat, s.target = m := ⟨s.target.toNat, by omega⟩
   have ht : T1 s = [UInt8.ofNat (80 + m)] ++ [91] ++ c6 s.index ++ [93, 58, 61] ++ c6 s.value ++ [59] := by rw [z8, stT, if_neg (by omega), if_neg (by omega), if_pos k, hm]; rfl
   rw [ht] at hat ⊢
   obtain ⟨f1, f2, f3, f4⟩ := a40 ⟨m, by omega⟩
   have q1 : At t n (UInt8.ofNat (80 + m) :: ([91] ++ (c6 s.index ++ ([93, 58, 61] ++ (c6 s.value ++ ([59] ++ r)))))) := by simpa using hat
   rw [if_neg (by rw [q1.hasN (w := [105, 102]) (by simp [f4])]; decide), if_neg (by rw [q1.hasN (w := [114, 101, 112, 101, 97, 116]) (by simp [f3])]; decide), q1.nm, f1, if_pos (by omega)]
   have q2 := q1.skip1
   have q3 := q2.sk2
   have hi1 : d7 nv na 1 s.index = true := psA a2 a3
   rw [ad0 nv na hnv hna 1 s.index hi1 t _ _ q3 (s2 (by decide) _)]
   dsimp only
   have q4 := q3.skip
   have q5 := q4.sk2
   rw [hV _ (h4 (by omega)) _ _ q5 (s2 (by decide) _)]
   dsimp only
   rw [q5.skip.sk, q4.sk, q2.sk, b5.mk_eq k hm rfl rfl p2 p3 p4]
   simp; omega
  ·obtain ⟨p1, p2, p3⟩ := bg9 hpt k
   have ht : T1 s = [105, 102] ++ c6 s.value ++ [123] ++ c8 s.body ++ [125, 123] ++ c8 s.els ++ [125] := by rw [z8, stT, if_neg (by omega), if_neg (by omega), if_neg (by omega), if_pos k]
   rw [ht] at hat ⊢
   have q1 : At t n ([105, 102] ++ (c6 s.value ++ ([123] ++ (c8 s.body ++ ([125, 123] ++ (c8 s.els ++ ([125] ++ r))))))) := by simpa using hat
   rw [if_pos (q1.has (w := [105, 102]) (by simp))]
   have q2 := q1.sk2
   rw [hV _ (h4 (by omega)) _ _ q2 (s2 (by decide) _)]
   dsimp only
   have q3 := q2.skip
   have q4 := q3.sk2
   rw [hB _ (.inr ⟨_, rfl⟩) _ q4]
   dsimp only
   have q5 := q4.skip
   have q6 := q5.sk2
   rw [hE _ (.inr ⟨_, rfl⟩) _ q6]
   dsimp only
   have q7 := q6.skip
   rw [q7.sk, q5.sk, q3.sk, q1.sk, List.nil_append, List.nil_append, b5.mk_eq k p1 p2 rfl p3 rfl rfl]
   simp; omega
  ·obtain ⟨p1, p2, p3, p4, p5, p6⟩ := bg8 hpt k
   obtain ⟨m, hm⟩ : ∃ m : Nat, s.count = m := ⟨s.count.toNat, by omega⟩
   have ht : T1 s = [114, 101, 112, 101, 97, 116] ++ Lib.decDigits m ++ [123] ++ c8 s.body ++ [125] := by rw [z8, stT, if_neg (by omega), if_neg (by omega), if_neg (by omega), if_neg (by omega), hm]; rfl
   rw [ht] at hat ⊢
   have q1 : At t n ([114, 101, 112, 101, 97, 116] ++ (Lib.decDigits m ++ ([123] ++ (c8 s.body ++ ([125] ++ r))))) := by simpa using hat
   rw [if_neg (by rw [q1.hasN (w := [105, 102]) (by simp)]; decide), if_pos (q1.has (w := [114, 101, 112, 101, 97, 116]) (by simp))]
   have q2 := q1.sk2
   rw [q2.dg (by omega) (s2 (by decide) _)]
   dsimp only
   have q3 := q2.skip
   have q4 := q3.sk2
   rw [hB _ (.inr ⟨_, rfl⟩) _ q4]
   dsimp only
   have q5 := q4.skip
   rw [q5.sk, q3.sk, q1.sk, List.nil_append, b5.mk_eq k p1 p2 p3 hm rfl p4]
   simp; omega
  obtain ⟨a0, a1⟩ := h2 (.inr k)
  obtain ⟨p1, p2, p3, p4⟩ := a25 hpt (.inr k)
  obtain ⟨m, hm⟩ : ∃ m : Nat, s.target = m := ⟨s.target.toNat, by omega⟩
  have ht : T1 s = [UInt8.ofNat (97 + m)] ++ [33, 61] ++ c6 s.value ++ [59] := by rw [z8, stT, if_neg (by omega), if_pos k, hm]; rfl
  rw [ht] at hat ⊢
  obtain ⟨f1, f2, f3⟩ := aM8 ⟨m, by omega⟩
  have q1 : At t n (UInt8.ofNat (97 + m) :: 33 :: 61 :: (c6 s.value ++ ([59] ++ r))) := by simpa using hat
  rw [if_neg (by rw [q1.hasN (w := [105, 102]) (by simp)]; decide), if_neg (by rw [q1.hasN (w := [114, 101, 112, 101, 97, 116]) (by simp [f3])]; decide), q1.nm, q1.nm, f2, f1, if_neg (by decide), if_neg (by omega)]
  have q2 := q1.skip1
  have q3 : At t (n + 1) ([33, 61] ++ (c6 s.value ++ ([59] ++ r))) := q2
  rw [if_pos (q3.has (w := [33, 61]) (by simp))]
  have q4 := q3.sk2
  rw [hV _ (h4 (by omega)) _ _ q4 (s2 (by decide) _)]
  dsimp only
  rw [q4.skip.sk, q3.sk, b5.mk_eq k hm p1 rfl p2 p3 p4]
  simp; omega
theorem aP9 {p : c9} (h : o9 p = true) : pBl (c8 p.body) 5 0 = (p.body, ((c8 p.body).length : Int)) := by
 unfold o9 at h
 simp only [bk0, decide_eq_true_eq] at h
 obtain ⟨⟨h1, h2⟩, h3⟩ := h
 unfold x4 at h1
 simp only [bk0, decide_eq_true_eq] at h1
 unfold pBl
 rw [ap7 p.vars.length p.arrays.length 5 (by omega) (by omega) _ (aA5 _ _ (by omega) (by omega) _ 5) p.body (fun s hs => ⟨bk6.1 h2 s hs, by have := psN hs; omega⟩) [] (.inl rfl) [] 61 0 (by have := psL p.body; simp; omega) (by have := psL p.body; omega) ⟨[], by simp, rfl⟩]
 simp
theorem aC6 {c : UInt8} : ∀ {a a' b b' : List UInt8}, c ∉ a -> c ∉ a' -> a ++ c :: b = a' ++ c :: b' -> a = a' /\ b = b'
 | [], [], b, b', _, _, h => by simpa using h
 | [], x :: a', b, b', _, h2, h => by
  simp at h
  exact absurd (h.1 ▸ bl2) h2
 | x :: a, [], b, b', h1, _, h => by
  simp at h
  exact absurd (h.1 ▸ bl2) h1
 | x :: a, y :: a', b, b', h1, h2, h => by
  simp only [List.cons_append, List.cons.injEq] at h
  obtain ⟨rfl, h⟩ := h
  obtain ⟨h3, h4⟩ := aC6 (fun h => h1 (bl9 _ h)) (fun h => h2 (bl9 _ h)) h
  exact ⟨by rw [h3], h4⟩
def a14 (x : UInt8) : Int := fiW x [76, 72, 85, 88] 0
theorem aI7 {l : Int} (h : n8 l = true) : a14 (aB8 l) = l := by
 unfold n8 at h
 simp only [bk0, decide_eq_true_eq] at h
 have : l = 0 \/ l = 1 \/ l = 2 \/ l = 3 := by omega
 rcases this with rfl | rfl | rfl | rfl <;> decide +kernel
theorem S4 {ls : List Int} (h : ls.all n8 = true) : (y8 ls).map a14 = ls := by
 induction ls with
 | nil => rfl
 | cons a r ih =>
  simp only [List.all_cons, bk0] at h
  rw [y8, bm8, bm8, aI7 h.1]
  exact congrArg _ (ih h.2)
theorem a69 {l : Int} (h : n8 l = true) : aB8 l ≠ 47 := by
 unfold n8 at h
 simp only [bk0, decide_eq_true_eq] at h
 have : l = 0 \/ l = 1 \/ l = 2 \/ l = 3 := by omega
 rcases this with rfl | rfl | rfl | rfl <;> decide +kernel
theorem ae7 {ls : List Int} (h : ls.all n8 = true) : (47 : UInt8) ∉ y8 ls := by
 intro hm
 obtain ⟨l, h1, h2⟩ := List.mem_map.1 hm
 exact a69 (bk6.1 h l h1) h2
theorem ah0 {p : c9} (h : o9 p = true) : p.vars.all n8 = true /\ p.arrays.all n8 = true := by
 unfold o9 x4 at h
 simp only [bk0, decide_eq_true_eq] at h
 exact ⟨h.1.1.1.1.1.1, h.1.1.1.1.1.2⟩
theorem aP7 {p q : c9} (hp : o9 p = true) (hq : o9 q = true) (h : X6 p = X6 q) : p = q := by
 obtain ⟨p1, p2⟩ := ah0 hp
 obtain ⟨q1, q2⟩ := ah0 hq
 unfold X6 at h
 simp only [bn1, List.cons_append, List.nil_append] at h
 obtain ⟨h1, h2⟩ := aC6 (ae7 p1) (ae7 q1) h
 obtain ⟨h3, h4⟩ := aC6 (ae7 p2) (ae7 q2) h2
 have e1 : p.vars = q.vars := by rw [<- S4 p1, <- S4 q1, h1]
 have e2 : p.arrays = q.arrays := by rw [<- S4 p2, <- S4 q2, h3]
 have e3 : p.body = q.body := by
  have a := aP9 hp
  rw [h4, aP9 hq] at a
  exact (congrArg Prod.fst a).symm
 cases p; cases q
 simp only at e1 e2 e3
 subst e1 e2 e3; rfl
def ao4 (p q : c9) : Bool := decide (p.vars = q.vars) && (decide (p.arrays = q.arrays) && m0 p.body q.body)
theorem X1 {p q : c9} : ao4 p q = true ↔ p = q := by
 unfold ao4
 simp only [bk0, decide_eq_true_eq, A4]
 constructor
 ·rintro ⟨h1, h2, h3⟩
  cases p; cases q
  simp only at h1 h2 h3
  subst h1 h2 h3; rfl
 rintro rfl; exact ⟨rfl, rfl, rfl⟩
theorem aJ1 (p q : c9) : ao4 p q = ao4 q p := by
 rw [bm4, X1, X1]; exact ⟨fun h => h.symm, fun h => h.symm⟩
theorem aJ0 (p : c9) : ao4 p p = true := X1.2 rfl
theorem a47 {p q : c9} (hp : T4 p ≠ []) (hq : T4 q ≠ []) : ao4 p q = ((j9 (T4 p)).toList == (j9 (T4 q)).toList) := by
 have gp : o9 p = true := by cases h : o9 p; exact absurd (by unfold T4; rw [h]; rfl) hp; rfl
 have gq : o9 q = true := by cases h : o9 q; exact absurd (by unfold T4; rw [h]; rfl) hq; rfl
 rw [bm4, X1, at1, at1, beq_iff_eq]
 constructor
 ·rintro rfl; rfl
 intro h
 unfold T4 at h
 rw [if_pos gp, if_pos gq] at h
 exact aP7 gp gq h
theorem ah5 {l : List UInt8} (h : ((j9 l).toList == (⟨#[]⟩ : ByteArray).toList) = false) : l ≠ [] := by
 rintro rfl
 have : ((j9 []).toList == (⟨#[]⟩ : ByteArray).toList) = true := by rw [show (⟨#[]⟩ : ByteArray) = j9 [] from rfl]; simp
 rw [this] at h; cases h
end Go.Proofs.YtcahndjigkledaaDoor

namespace Go.Proofs.YtcahndjigkledaaDoor
open Go Go.RowKit
theorem aU7 (p q : c9) : f6.ok Tryd.prog (D8 18 [pA 0, pA 3] (pS p ++ pS q) (bA (ao4 p q))) := aj5 p.vars p.arrays p.body q.vars q.arrays q.body
theorem be1 (p q : c9) : f6.ok Tryd.prog (D8 19 [pA 0, pA 3] (pS p ++ pS q) (bA (ao4 p q))) := al0 p.vars p.arrays p.body q.vars q.arrays q.body
theorem be0 (p : c9) : f6.ok Tryd.prog (D8 18 [pA 0, pA 0] (pS p) (bA true)) := by
 have h := aU7 p p
 rw [aJ0] at h
 have h1 := f6.dup (S := [dI p.vars, dI p.arrays, dT p.body, dI p.vars, dI p.arrays]) (S' := [dI p.vars, dI p.arrays, dT p.body, dI p.vars, dI p.arrays]) (d := .stmts p.body) (i := 2) (args' := [pA 0, .agg [.ref 3, .ref 4, .ref 2]]) h rfl rfl rfl (fun ρ h => by simp only [AV.vals, AV.val]; rw [show ρ 5 = ρ 2 from h]) rfl
 have h2 := f6.dup (S := [dI p.vars, dI p.arrays, dT p.body, dI p.vars]) (S' := [dI p.vars, dI p.arrays, dT p.body, dI p.vars]) (d := .ints p.arrays) (i := 1) (args' := [pA 0, .agg [.ref 3, .ref 1, .ref 2]]) h1 rfl rfl rfl (fun ρ h => by simp only [AV.vals, AV.val]; rw [show ρ 4 = ρ 1 from h]) rfl
 exact f6.dup (S := [dI p.vars, dI p.arrays, dT p.body]) (S' := [dI p.vars, dI p.arrays, dT p.body]) (d := .ints p.vars) (i := 0) (args' := [pA 0, pA 0]) h2 rfl rfl rfl (fun ρ h => by simp only [AV.vals, AV.val]; rw [show ρ 3 = ρ 0 from h]) rfl
abbrev psC (c : List UInt8) (p q : c9) : f6 := ⟨17, [.ref 0], [dY c], [dY c] ++ pS p ++ pS q, .tup [pA 1, pA 4]⟩
abbrev ac0 : It := .box [.v (.slice none 0 0), .v (.slice none 0 0), .v (.slice none 0 0)]
theorem ba5 (c b : List UInt8) (p q : c9) (j k : Int) (hk : pk b j 2 = 0) (r0 : 0 <= j) (r1 : j <= 10000000)
  (h0 : f6.ok Tryd.prog ⟨41, [.ref 0], [dY c], [dY c, .box [.ref 2, iA 0], dY b], .ptr 1 0⟩)
  (h1 : f6.ok Tryd.prog ⟨42, [.ptr 0 0], [.box [.ref 1, iA 0], dY b], [.box [.ref 1, iA j], dY b] ++ oP p, oA 2⟩)
  (h2 : f6.ok Tryd.prog ⟨42, [.ptr 0 0], [.box [.ref 1, iA (j + 1)], dY b], [.box [.ref 1, iA k], dY b] ++ oP q, oA 2⟩) : f6.ok Tryd.prog (psC c p q) := by
 have ho := h0; have hpg := h1; have hpk := h2; refine F0 24 Tryd.func17 [dY c] [(0, .ref 0)] fun G => ?_; refine wp_seq (j5 G b9 [0, 1, 9] [dY c, ac0, ac0] [(0, .ref 0), (2, .ptr 1 0), (3, .ptr 2 0)] fun G => b0 (wp_seq (j5 G (B3 1 [0] ho) [0, 1, 2, 11, 12] [dY c, ac0, ac0, .box [.ref 4, iA 0], dY b] [(2, .ptr 1 0), (3, .ptr 2 0), (4, .ptr 3 0)] fun G => b0 (wp_seq (j5 G (B3 1 [3, 4] hpg) [0, 1, 2, 3, 4, 13, 14, 15, 21] [dY c, ac0, ac0, .box [.ref 4, iA j], dY b, .row 3 (D.ints p.vars), .row 3 (D.ints p.arrays), .tree (D.stmts p.body), .box [.ref 5, .ref 6, .tref 7]] [(2, .ptr 1 0), (3, .ptr 2 0), (4, .ptr 3 0), (5, .ptr 8 0)] fun G => b0 (wp_seq (wp_seq (j5 G (B3 1 [3, 4] (C2 b j 2 (by assumption) (by omega))) (rg 9) [dY c, ac0, ac0, .box [.ref 4, iA (j + 1)], dY b, .row 3 (D.ints p.vars), .row 3 (D.ints p.arrays), .tree (D.stmts p.body), .box [.ref 5, .ref 6, .tref 7]] [(2, .ptr 1 0), (3, .ptr 2 0), (4, .ptr 3 0), (5, .ptr 8 0), (12, bA (pk b j 2 == 0))] fun G => b0 ?_)))))))); cases h0 : (pk b j (2 : Int) == 0)
 ·have q0 := ne_of_beq_false h0; exact False.elim (by omega)
 have q0 := eq_of_beq h0; refine rT G _ h0 (wp_seq (aP5 G (B3 2 [3, 4] hpk) [0, 0, 2, 7, 15] [0, 1, 2, 3, 4, 5, 6, 7, 8, 25, 26, 27] [dY c, .box [.ref 5, .ref 6, .tref 7], .box [.ref 9, .ref 10, .tref 11], .box [.ref 4, iA k], dY b, .row 3 (D.ints p.vars), .row 3 (D.ints p.arrays), .tree (D.stmts p.body), .box [.ref 5, .ref 6, .tref 7], .row 3 (D.ints q.vars), .row 3 (D.ints q.arrays), .tree (D.stmts q.body)] [(2, .ptr 1 0), (3, .ptr 2 0), (4, .ptr 3 0), (5, .ptr 8 0)] fun G => b0 (wp_ret (f7 ?_)))); obtain ⟨ρ, G⟩ := G.frz [.no, .no, .no, .no, .no, .row 3, .row 3, .tree, .no, .row 3, .row 3, .tree] [dY c, .box (pL 5), .box (pL 9), .box [.ref 4, iA k], dY b, dI p.vars, dI p.arrays, dT p.body, .box (pL 5), dI q.vars, dI q.arrays, dT q.body] [(2, .ptr 1 0), (3, .ptr 2 0), (4, .ptr 3 0), (5, .ptr 8 0)]; exact K9 G [0, 5, 6, 7, 9, 10, 11]
abbrev ab9 : It := .box [.v (.slice none 0 0), .v (.slice none 0 0), .v (.slice none 0 0)]
theorem ba4 (c b : List UInt8) (p q q1 q2 : c9) (j k k1 k2 : Int) (hk : ¬ pk b j 2 = 0) (r0 : 0 <= j) (r1 : j <= 10000000)
  (h0 : f6.ok Tryd.prog ⟨41, [.ref 0], [dY c], [dY c, .box [.ref 2, iA 0], dY b], .ptr 1 0⟩)
  (h1 : f6.ok Tryd.prog ⟨42, [.ptr 0 0], [.box [.ref 1, iA 0], dY b], [.box [.ref 1, iA j], dY b] ++ oP p, oA 2⟩)
  (h2 : f6.ok Tryd.prog ⟨44, [.ptr 0 0, pA 2], [.box [.ref 1, iA (j + 1)], dY b] ++ pS p, [.box [.ref 1, iA k1], dY b] ++ pS p ++ oP q1, oA 5⟩)
  (h3 : f6.ok Tryd.prog ⟨44, [.ptr 0 0, pA 2], [.box [.ref 1, iA k1], dY b] ++ pS q1, [.box [.ref 1, iA k2], dY b] ++ pS q1 ++ oP q2, oA 5⟩)
  (h4 : f6.ok Tryd.prog ⟨44, [.ptr 0 0, pA 2], [.box [.ref 1, iA k2], dY b] ++ pS q2, [.box [.ref 1, iA k], dY b] ++ pS q2 ++ oP q, oA 5⟩) : f6.ok Tryd.prog (psC c p q) := by
 have ho := h0; have hpg := h1; have hm1 := h2; have hm2 := h3; have hm3 := h4; refine F0 24 Tryd.func17 [dY c] [(0, .ref 0)] fun G => ?_; refine wp_seq (j5 G b9 [0, 1, 9] [dY c, ab9, ab9] [(0, .ref 0), (2, .ptr 1 0), (3, .ptr 2 0)] fun G => b0 (wp_seq (j5 G (B3 1 [0] ho) [0, 1, 2, 11, 12] [dY c, ab9, ab9, .box [.ref 4, iA 0], dY b] [(2, .ptr 1 0), (3, .ptr 2 0), (4, .ptr 3 0)] fun G => b0 (wp_seq (j5 G (B3 1 [3, 4] hpg) [0, 1, 2, 3, 4, 13, 14, 15, 21] [dY c, ab9, ab9, .box [.ref 4, iA j], dY b, .row 3 (D.ints p.vars), .row 3 (D.ints p.arrays), .tree (D.stmts p.body), .box [.ref 5, .ref 6, .tref 7]] [(2, .ptr 1 0), (3, .ptr 2 0), (4, .ptr 3 0), (5, .ptr 8 0)] fun G => b0 (wp_seq (wp_seq (j5 G (B3 1 [3, 4] (C2 b j 2 (by assumption) (by omega))) (rg 9) [dY c, ab9, ab9, .box [.ref 4, iA (j + 1)], dY b, .row 3 (D.ints p.vars), .row 3 (D.ints p.arrays), .tree (D.stmts p.body), .box [.ref 5, .ref 6, .tref 7]] [(2, .ptr 1 0), (3, .ptr 2 0), (4, .ptr 3 0), (5, .ptr 8 0), (12, bA (pk b j 2 == 0))] fun G => b0 ?_)))))))); cases h0 : (pk b j (2 : Int) == 0)
 ·have q0 := ne_of_beq_false h0; refine rF G _ h0 (wp_skip (b0 (wp_seq (aP5 G (s8 (k6 5 [3, 4, 5, 6, 7] (f6.lend hm1 [.no, .no, .row 3, .row 3, .tree]) (k6 6 [3, 4, 49, 50, 51] (f6.lend hm2 [.no, .no, .row 3, .row 3, .tree]) (k6 7 [3, 4, 57, 58, 59] (f6.lend hm3 [.no, .no, .row 3, .row 3, .tree]) s7))) fz []) [0, 0, 0, 0, 0, 24, 60, 126, 255, 511] [0, 1, 2, 5, 6, 7, 65, 66, 67] [dY c, .box [.ref 3, .ref 4, .tref 5], .box [.ref 6, .ref 7, .tref 8], .row 3 (D.ints p.vars), .row 3 (D.ints p.arrays), .tree (D.stmts p.body), .row 3 (D.ints q.vars), .row 3 (D.ints q.arrays), .tree (D.stmts q.body)] [(2, .ptr 1 0), (3, .ptr 2 0)] fun G => b0 (wp_ret ?_))))); obtain ⟨ρ, G⟩ := G.frz [.no, .no, .no, .row 3, .row 3, .tree, .row 3, .row 3, .tree] [dY c, .box (pL 3), .box (pL 6), dI p.vars, dI p.arrays, dT p.body, dI q.vars, dI q.arrays, dT q.body] [(2, .ptr 1 0), (3, .ptr 2 0)]; exact K9 G [0, 3, 4, 5, 6, 7, 8]
 have q0 := eq_of_beq h0; exact False.elim (by omega)
abbrev tA (l : List UInt8) : AV := .v (.string (j9 l))
theorem e5.tab {ι : Type} {φ ψ : Nat -> Prop} {w0 w : World} {L : ι -> Rs} (M : e5 φ ψ w0 w L) : ar9 w :=
 ⟨w.heap.size, bl5 _, fun w' hb => M.env w' (M.kept.trans (s3.of_below hb fun _ h _ => h))⟩
theorem aG2 {P : Program} {f : FuncId} {args : List AV} {S : List It} {x : Value} (h : ∀ (φ : Nat -> Prop) (w : World) (ρ : Nat -> Value), ar9 w -> (∀ i d, l9 S i = .dat d -> RD w φ d (ρ i)) -> Calls P f (AV.vals ρ args).toArray w fun e w' => e = .returned x /\ Below w.heap.size w w') : f6.ok P (D8 f args S (.v x)) := by
 intro ι φ ψ w0 w F ρ M
 refine (h (L1 φ (j2 F ρ (l9 S))) w ρ M.tab fun i d hi => M.datAt hi).mono ?_
 rintro e w' ⟨rfl, hb⟩
 exact ⟨ρ, fun _ _ => rfl, rfl, M.call hb⟩
theorem aB3 {v : Int} (h : 0 <= v) : ∃ n : Nat, v = n := ⟨v.toNat, by omega⟩
theorem an2 (v : Int) (h0 : 0 <= v) (h1 : v < 12) : f6.ok Tryd.prog (D8 62 [iA v] [] (tA [UInt8.ofNat (97 + v.toNat)])) := by
 obtain ⟨n, rfl⟩ := aB3 h0
 exact Q3 fun φ w ρ _ => Y4 n (by omega) w
theorem ax6 (v : Int) (h0 : 0 <= v) (h1 : v < 2) : f6.ok Tryd.prog (D8 63 [iA v] [] (tA [UInt8.ofNat (80 + v.toNat)])) := by
 obtain ⟨n, rfl⟩ := aB3 h0
 exact Q3 fun φ w ρ _ => Q6 n (by omega) w
theorem a82 (v : Int) (h0 : 0 <= v) (h1 : v < 1000000) : f6.ok Tryd.prog (D8 61 [iA v] [] (tA (Lib.decDigits v.toNat))) := by
 obtain ⟨n, rfl⟩ := aB3 h0
 exact aG2 fun φ w ρ ht _ => aH0 n (by omega) w ht.is
theorem aP3 {nv na : Nat} {e : b6} (h : c7 nv na e = true) : d7 nv na 5 e = true := by
 unfold c7 at h
 simp only [bk0] at h
 exact h.1
theorem aD4 (nv na : Nat) (hnv : nv <= 12) (hna : na <= 2) (e : b6) (h : c7 nv na e = true) : f6.ok Tryd.prog (D8 32 [eA e 0] (eS e) (tA (c6 e))) :=
 aG2 fun φ w ρ ht hd => ak7 nv na hnv hna 5 (by omega) e φ _ w ⟨_, rfl, hd 0 _ rfl⟩ (aP3 h) ht
theorem a92 {nv na d : Nat} {ss : List b5} (h : ∀ s ∈ ss, d8 nv na (d + 1) s = true) {k : Nat} (hk : k < ss.length) : d8 nv na (d + 1) (ss.getD k bj9) = true := by
 rw [l7 hk]; exact h _ (bk8 hk)
theorem bb9 {ss : List b5} {k : Nat} (hk : k < ss.length) : nS (ss.getD k bj9) <= J3 ss := by
 have h1 := aJ6 hk
 have h2 := ad1 ss (k + 1)
 rw [l7 hk]; omega
theorem a68 {ss : List b5} (k : Nat) : J3 (ss.take k) <= J3 ss := ad1 ss k
theorem aR3 : ∀ ss : List b5, ss.length <= J3 ss
 | [] => bl5 _
 | s :: r => by
  have h1 := Q4 s
  have h2 := aR3 r
  simp only [J3, bk4]; omega
theorem a43 {nv na d : Nat} {ss : List b5} (h : ∀ s ∈ ss, d8 nv na d s = true) (k : Nat) : (c8 (ss.take k)).length <= 20000 * J3 ss :=
 bk9 (C8 nv na d _ fun s hs => h s (List.mem_of_mem_take hs)) (Nat.mul_le_mul_left _ (a68 k))
section
variable {nv na d : Nat} {s : b5} (h : d8 nv na (d + 1) s = true)
include h
theorem a16 (hk : s.kind = 1 \/ s.kind = 5) : 0 <= s.target /\ s.target < nv := (r9 h).2.1 hk
theorem a89 (hk : s.kind = 2) : 0 <= s.target /\ s.target < na := ⟨((r9 h).2.2.1 hk).1, ((r9 h).2.2.1 hk).2.1⟩
theorem a17 (hk : s.kind = 2) : c7 nv na s.index = true := ((r9 h).2.2.1 hk).2.2.1
theorem P7 (hk : s.kind ≠ 4) : c7 nv na s.value = true := (r9 h).2.2.2.1 hk
theorem bf3 (k1 : ¬ s.kind = 1) (k2 : ¬ s.kind = 2) (k3 : ¬ s.kind = 3) (k5 : ¬ s.kind = 5) : s.kind = 4 /\ 1 <= s.count /\ s.count <= 3 := by
 have h1 := (r9 h).1
 have h4 : s.kind = 4 := by omega
 exact ⟨h4, (r9 h).2.2.2.2.1 h4⟩
theorem aF4 : ∀ x ∈ s.body, d8 nv na d x = true := (r9 h).2.2.2.2.2.1
theorem a18 : ∀ x ∈ s.els, d8 nv na d x = true := (r9 h).2.2.2.2.2.2
end
theorem j8 (a : Array UInt8) : (⟨a⟩ : ByteArray).size = a.size := rfl
theorem Y2 (l : List UInt8) : (⟨l.toArray⟩ : ByteArray) = j9 l := rfl
section
variable {ss : List b5} {k : Nat} (hk : k < ss.length)
include hk
end
theorem aR6 {ls : List Int} (k : Nat) : (y8 (ls.take k)).length <= ls.length := by
 unfold y8; rw [List.length_map]; exact List.length_take_le' k ls
theorem aK0 {l : Int} (h : n8 l = true) : 0 <= l /\ l <= 3 := by
 unfold n8 at h
 simpa only [bk0, decide_eq_true_eq] using h
theorem a71 {ls : List Int} (h : ls.all n8 = true) {k : Nat} (hk : k < ls.length) : n8 (ls.getD k 0) = true := by
 rw [l7 hk]; exact bk6.1 h _ (bk8 hk)
theorem aD5 (l m : List UInt8) : Lib.byteCells (l ++ m) = Lib.byteCells l ++ Lib.byteCells m := by simp [Lib.byteCells]
theorem aR7 {l : Int} (h : n8 l = true) : ∃ n : Nat, l = n /\ n < 4 /\ ((⟨#[76, 72, 85, 88]⟩ : ByteArray).data.toList.getD n 0) = aB8 l := by
 obtain ⟨h0, h1⟩ := aK0 h
 have : l = 0 \/ l = 1 \/ l = 2 \/ l = 3 := by omega
 rcases this with rfl | rfl | rfl | rfl
 ·exact ⟨0, rfl, by omega, by decide +kernel⟩
 ·exact ⟨1, rfl, by omega, by decide +kernel⟩
 ·exact ⟨2, rfl, by omega, by decide +kernel⟩
 exact ⟨3, rfl, by omega, by decide +kernel⟩
theorem Y6 (v : Value) (ls : List Int) (w : World) (h : L0 w v ls.length 1 (ints ls)) (hok : ls.all n8 = true) (hl : ls.length <= 1000) :
  Calls Tryd.prog 16 #[v] w fun e w' => e = .returned (.string ⟨(y8 ls).toArray⟩) /\ Below w.heap.size w w' := by
 obtain ⟨a, cap, rfl, hcap, hn, hcm, hc⟩ := h.open1
 have HR : Hid (L0 w (.slice a ls.length cap) ls.length 1 (ints ls)) := h
 have HAL : Hid (∀ w' : World, L0 w' (.slice a ls.length cap) ls.length 1 (ints ls) -> Calls Tryd.prog 38 #[.slice a ls.length cap] w' fun e w'' => e = .returned (.bool true) /\ w' = w'') := fun w' h' => by
  have HA := D7 _ ls w' h'
  rw [hok] at HA
  exact HA
 have HOK := show Hid _ from hok
 clear h hok
 have hB0 : Lib.IsBuilder 61 5 w.heap.size w.heap.size (Lib.byteCells (y8 (ls.take 0))) (w.alloc (.cells #[.pointer none, .slice none 0 0] 61)) := Lib.fresh_isBuilder _ _ _
 have HB := show Hid _ from hB0
 clear hB0
 go_enter Tryd.func16, Tryd.ntmps16
 go_wp2_with fail
 refine (HAL.out _ HR.out).mono ?_
 rintro e w1 ⟨rfl, rfl⟩
 go_wp2_with fail
 go_loopw [5, 11] (fun _ i wr => ∃ (k : Nat), k <= ls.length /\ i = .int .i64 k /\ Lib.IsBuilder 61 5 w.heap.size w.heap.size (Lib.byteCells (y8 (ls.take k))) wr /\ Below w.heap.size w wr) (fun _ i _ => ls.length - (intOf i).toNat)
 case atStart => exact ⟨0, Nat.zero_le _, rfl, HB.out, (Below.refl _ _).alloc (bl5 _) _⟩
 case round =>
  obtain ⟨k, hk, rfl, hbd, hbw⟩ := hrel
  have HBD := show Hid _ from hbd
  clear hbd HB
  by_cases hlt : k < ls.length
  ·obtain ⟨b, off, rfl, hb1, hx⟩ := hc k hlt
   have hlo := a71 HOK.out hlt
   rw [l7 hlt] at hlo
   obtain ⟨n, hn1, hn4, hn2⟩ := aR7 hlo
   have hxk : (ints ls)[k]? = some (.int .i64 n) := by simp [ints, hlt, hn1]
   rw [hxk, <- (C6 hbw).1 _ _ hb1] at hx
   have HN := show Hid _ from hn2
   have HLN := aB7 hlt
   rw [l7 hlt] at HLN
   have H1 := show Hid _ from HLN
   have hlen : Hid ((Lib.byteCells (y8 (ls.take k))).length + 1 <= 140737488355328) := by
    have h2 := aR6 (ls := ls) k
    show _ + 1 <= _
    simp only [Lib.byteCells, List.length_map]
    omega
   clear hc hxk hn2 HLN hlo hn1
   go_wp2_with fail
   refine (Z4 w.heap.size w.heap.size _ _ _ HBD.out hlen.out hbw.size).mono ?_
   rintro e w1 ⟨rfl, hba, hbb⟩
   have HBA := show Hid _ from hba
   clear hba
   go_wp2_with fail
   refine ⟨⟨k + 1, by omega, by go_num, ?_, hbw.trans hbb⟩, by simp [intOf]; omega⟩
   rw [H1.out, aD5]
   have h9 := HBA.out
   rw [show (Lib.byteCells [aB8 ls[k]]) = [.int .u8 ((aB8 ls[k]).toNat : Int)] from rfl, <- HN.out]
   have h4 : n = 0 \/ n = 1 \/ n = 2 \/ n = 3 := by omega
   rcases h4 with rfl | rfl | rfl | rfl <;> exact .inr h9
  go_wp2_with fail
  refine (aj9 w.heap.size w.heap.size _ _ HBD.out hbw.size).mono ?_
  rintro e w1 ⟨rfl, hb9⟩
  go_wp2_with fail
  go_ret
  rw [bm0 (by omega)]
  exact ⟨rfl, hbw.trans hb9⟩
theorem O8 (ls : List Int) (h : ls.all n8 = true) (hl : ls.length <= 1000) : f6.ok Tryd.prog (D8 16 [.ref 0] [dI ls] (tA (y8 ls))) :=
 Q3 fun φ w ρ hd => Y6 (ρ 0) ls w (o7.row (hd 0 _ rfl)) h hl
section
variable {ss : List b5} {k : Nat} (hk : k < ss.length)
include hk
theorem bj0 (hq : (ss.getD k bj9).kind = 1) : j9 (c8 (ss.take k)) ++ (j9 [UInt8.ofNat (97 + (ss.getD k bj9).target.toNat)] ++ ⟨#[58, 61]⟩ ++ j9 (c6 (ss.getD k bj9).value) ++ ⟨#[59]⟩) = j9 (c8 (ss.take (k + 1))) := by
 rw [I4 hk, z8, stT, if_pos hq]; show _ = j9 _; simp only [Y2, W8, bn1]
theorem bi6 (hq : (ss.getD k bj9).kind = 5) : j9 (c8 (ss.take k)) ++ (j9 [UInt8.ofNat (97 + (ss.getD k bj9).target.toNat)] ++ ⟨#[33, 61]⟩ ++ j9 (c6 (ss.getD k bj9).value) ++ ⟨#[59]⟩) = j9 (c8 (ss.take (k + 1))) := by
 rw [I4 hk, z8, stT, if_neg (by omega), if_pos hq]; show _ = j9 _; simp only [Y2, W8, bn1]
theorem bi9 (hq : (ss.getD k bj9).kind = 2) : j9 (c8 (ss.take k)) ++ (j9 [UInt8.ofNat (80 + (ss.getD k bj9).target.toNat)] ++ ⟨#[91]⟩ ++ j9 (c6 (ss.getD k bj9).index) ++ ⟨#[93, 58, 61]⟩ ++ j9 (c6 (ss.getD k bj9).value) ++ ⟨#[59]⟩) = j9 (c8 (ss.take (k + 1))) := by
 rw [I4 hk, z8, stT, if_neg (by omega), if_neg (by omega), if_pos hq]; show _ = j9 _; simp only [Y2, W8, bn1]
theorem bi8 (hq : (ss.getD k bj9).kind = 3) : j9 (c8 (ss.take k)) ++ (⟨#[105, 102]⟩ ++ j9 (c6 (ss.getD k bj9).value) ++ ⟨#[123]⟩ ++ j9 (c8 (ss.getD k bj9).body) ++ ⟨#[125, 123]⟩ ++ j9 (c8 (ss.getD k bj9).els) ++ ⟨#[125]⟩) = j9 (c8 (ss.take (k + 1))) := by
 rw [I4 hk, z8, stT, if_neg (by omega), if_neg (by omega), if_neg (by omega), if_pos hq]; show _ = j9 _; simp only [Y2, W8, bn1]
theorem bi7 (hq : (ss.getD k bj9).kind = 4) : j9 (c8 (ss.take k)) ++ (⟨#[114, 101, 112, 101, 97, 116]⟩ ++ j9 (Lib.decDigits (ss.getD k bj9).count.toNat) ++ ⟨#[123]⟩ ++ j9 (c8 (ss.getD k bj9).body) ++ ⟨#[125]⟩) = j9 (c8 (ss.take (k + 1))) := by
 rw [I4 hk, z8, stT, if_neg (by omega), if_neg (by omega), if_neg (by omega), if_neg (by omega)]; show _ = j9 _; simp only [Y2, W8, bn1]
end
theorem aA3 {p : c9} (h : o9 p = true) : x4 p.vars p.arrays = true /\ (∀ s ∈ p.body, d8 p.vars.length p.arrays.length 5 s = true) /\ J3 p.body <= 60 := by
 unfold o9 at h
 simp only [bk0, decide_eq_true_eq] at h
 exact ⟨h.1.1, bk6.1 h.1.2, h.2⟩
theorem av8 {vs ars : List Int} (h : x4 vs ars = true) : vs.all n8 = true /\ ars.all n8 = true /\ 1 <= vs.length /\ vs.length <= 12 /\ ars.length <= 2 := by
 unfold x4 at h
 simp only [bk0, decide_eq_true_eq] at h
 exact ⟨h.1.1.1.1, h.1.1.1.2, h.1.1.2, h.1.2, h.2⟩
theorem av3 (ls : List Int) : (y8 ls).length = ls.length := by simp [y8]
theorem bj4 {p : c9} (h : o9 p = false) : (⟨#[]⟩ : ByteArray) = j9 (T4 p) := by
 unfold T4; rw [h]; rfl
abbrev G5 : AV := .v (.string (ByteArray.mk #[]))
abbrev ac1 (ss : List b5) (k : Nat) : AV := .v (.string (j9 (c8 (bl3 k ss))))
abbrev O2 (ss : List b5) (k : Nat) (r0 : List (Nat × AV)) : List (Nat × AV) := (6, .ref 0) :: (7, iA (ss.length : Int)) :: (8, iA (k : Int)) :: r0
theorem at9 (nv na d : Nat) (hnv : nv <= 12) (hna : na <= 2) (ih : ∀ (ss : List b5), (∀ s ∈ ss, d8 nv na d s = true) -> J3 ss <= 60 -> f6.ok Tryd.prog (D8 57 [.ref 0] [dT ss] (tA (c8 ss)))) (ss : List b5) (h : ∀ s ∈ ss, d8 nv na (d + 1) s = true) (hn : J3 ss <= 60) : f6.ok Tryd.prog (D8 57 [.ref 0] [dT ss] (tA (c8 ss))) := by
  have hl0 := aR3 ss
  have he := fun e h => aD4 nv na hnv hna e h
  refine F0 91 Tryd.func57 [dT ss] [(0, .ref 0)] fun G => ?_; refine wp_seq (f9 G b9 [(2, G5)] fun G => b0 (wp_seq (f9 G b9 [(3, G5)] fun G => b0 (wp_seq (wp_seq (J2 G b9 [(2, G5), (3, G5), (6, .ref 0), (7, iA (ss.length : Int)), (8, iA 0)] fun G => b0 (wp_block ?_))))))); refine x3 (κ := Nat) (fun k => k <= ss.length) (fun k => ss.length - k) (fun k => [dT ss]) (fun k => [(2, .v (.string (ByteArray.mk #[]))), (3, .v (.string (j9 (c8 (ss.take k))))), (6, .ref 0), (7, iA (ss.length : Int)), (8, iA k)]) 0 (by omega) (o8.at G _ _) ?_; clear G; intro k ρ a w hp G; replace G := o8.at G [dT ss] ((2, G5) :: (3, ac1 ss k) :: (O2 ss k [])); have ht := a43 h k; refine wp_seq (J2 G b9 ((2, G5) :: (3, ac1 ss k) :: (O2 ss k [(9, bA (decide ((k : Int) < ss.length)))])) fun G => b0 (wp_seq ?_)); cases h0 : (decide ((k : Int) < ss.length))
  · have q0 := P3 h0; refine rF G _ h0 (wp_exit (w6 (w6 (w4 (b0 (wp_seq (f9 G b9 [(2, ac1 ss k)] fun G => b0 (wp_ret ?_)))))))); exact rxv (.v (.string (j9 (c8 (bl3 k ss))))) G [0] (by show _ = AV.ren (nth [0]) (.v (.string (j9 (c8 ss)))); have e1 : (j9 (c8 ss) : ByteArray) = (j9 (c8 (bl3 k ss))) := (by rw [bm0 (by omega)]); (first | rw [e1] | simp only [e1]) <;> rfl)
  have q0 := P2 h0; have hb := a92 h (show k < ss.length by omega); have b1 := bb9 (ss := ss) (show k < ss.length by omega); have b2 := Q4 (ss.getD k bj9); refine rT G _ h0 (wp_skip (b0 (wp_seq (wp_block (wp_seq (V6 G b9 [0, 9, 10, 11, 12, 17] [dT ss, dE (ss.getD k bj9).index.kids, dE (ss.getD k bj9).value.kids, dT (ss.getD k bj9).body, dT (ss.getD k bj9).els, .box (sL (ss.getD k bj9) 1)] ((2, G5) :: (3, ac1 ss k) :: (5, .ptr 5 0) :: (O2 ss k [])) (iX k k ss.length []) (iK (by omega) bm6) fun G => b0 (wp_seq (f9 G b9 [(13, iA (ss.getD k bj9).kind)] fun G => b0 (wp_block (wp_seq (J2 G b9 ((2, G5) :: (3, ac1 ss k) :: (5, .ptr 5 0) :: (O2 ss k [(13, iA (ss.getD k bj9).kind), (26, bA ((ss.getD k bj9).kind == 1))])) fun G => b0 ?_))))))))))); cases h1 : ((ss.getD k bj9).kind == 1)
  ·
   have q1 := ne_of_beq_false h1; refine rF G _ h1 (wp_seq (J2 G b9 ((2, G5) :: (3, ac1 ss k) :: (5, .ptr 5 0) :: (O2 ss k [(13, iA (ss.getD k bj9).kind), (39, bA ((ss.getD k bj9).kind == 5))])) fun G => b0 ?_)); cases h2 : ((ss.getD k bj9).kind == 5)
   ·
    have q2 := ne_of_beq_false h2; refine rF G _ h2 (wp_seq (J2 G b9 ((2, G5) :: (3, ac1 ss k) :: (5, .ptr 5 0) :: (O2 ss k [(13, iA (ss.getD k bj9).kind), (52, bA ((ss.getD k bj9).kind == 2))])) fun G => b0 ?_)); cases h3 : ((ss.getD k bj9).kind == 2)
    ·
     have q3 := ne_of_beq_false h3; refine rF G _ h3 (wp_seq (J2 G b9 ((2, G5) :: (3, ac1 ss k) :: (5, .ptr 5 0) :: (O2 ss k [(70, bA ((ss.getD k bj9).kind == 3))])) fun G => b0 ?_)); cases h4 : ((ss.getD k bj9).kind == 3)
     · have q4 := ne_of_beq_false h4; have c5 := bf3 hb (by omega) (by omega) (by omega) (by omega); have c3 := C8 nv na d _ (aF4 hb); have l5 := aa7 (n := (ss.getD k bj9).count.toNat) (by omega); refine rF G _ h4 (L9 G (s8 (k6 3 [] (a82 ((ss.getD k bj9).count) (by omega) (by omega)) (k6 8 [3] (ih ((ss.getD k bj9).body) (aF4 hb) (by omega)) s7)) fz []) [0, 0, 2, 6, 14, 30, 0, 64, 206, 510, 1022, 2047, 4095] [0] [dT ss] ((2, G5) :: (3, .v (.string (j9 (c8 (bl3 k ss)) ++ (ByteArray.mk #[114, 101, 112, 101, 97, 116] ++ j9 (Lib.decDigits (ss.getD k bj9).count.toNat) ++ ByteArray.mk #[123] ++ j9 (c8 (ss.getD k bj9).body) ++ ByteArray.mk #[125])))) :: (O2 ss k [])) [(↑((ByteArray.mk #[(114 : UInt8), (101 : UInt8), (112 : UInt8), (101 : UInt8), (97 : UInt8), (116 : UInt8)]).size + (j9 (Lib.decDigits (ss.getD k bj9).count.toNat)).size) : Int) <= 9223372036854775807, (↑((ByteArray.mk #[(114 : UInt8), (101 : UInt8), (112 : UInt8), (101 : UInt8), (97 : UInt8), (116 : UInt8)] ++ j9 (Lib.decDigits (ss.getD k bj9).count.toNat)).size + (ByteArray.mk #[(123 : UInt8)]).size) : Int) <= 9223372036854775807, (↑((ByteArray.mk #[(114 : UInt8), (101 : UInt8), (112 : UInt8), (101 : UInt8), (97 : UInt8), (116 : UInt8)] ++ j9 (Lib.decDigits (ss.getD k bj9).count.toNat) ++ ByteArray.mk #[(123 : UInt8)]).size + (j9 (c8 (ss.getD k bj9).body)).size) : Int) <= 9223372036854775807, (↑((ByteArray.mk #[(114 : UInt8), (101 : UInt8), (112 : UInt8), (101 : UInt8), (97 : UInt8), (116 : UInt8)] ++ j9 (Lib.decDigits (ss.getD k bj9).count.toNat) ++ ByteArray.mk #[(123 : UInt8)] ++ j9 (c8 (ss.getD k bj9).body)).size + (ByteArray.mk #[(125 : UInt8)]).size) : Int) <= 9223372036854775807, (↑((j9 (c8 (bl3 k ss))).size + (ByteArray.mk #[(114 : UInt8), (101 : UInt8), (112 : UInt8), (101 : UInt8), (97 : UInt8), (116 : UInt8)] ++ j9 (Lib.decDigits (ss.getD k bj9).count.toNat) ++ ByteArray.mk #[(123 : UInt8)] ++ j9 (c8 (ss.getD k bj9).body) ++ ByteArray.mk #[(125 : UInt8)]).size) : Int) <= 9223372036854775807] ⟨(by simp only [ByteArray.size_append, j7, j8, bl1, bk4, bk7]; omega), (by simp only [ByteArray.size_append, j7, j8, bl1, bk4, bk7]; omega), (by simp only [ByteArray.size_append, j7, j8, bl1, bk4, bk7]; omega), (by simp only [ByteArray.size_append, j7, j8, bl1, bk4, bk7]; omega), (by simp only [ByteArray.size_append, j7, j8, bl1, bk4, bk7]; omega), bm6⟩ fun G => o6 (o6 (b0 (J1 G b9 [(8, iA ((k : Int) + 1))] [wO ((k : Int) + 1)] (o1 (by omega)) fun G => b0 ?_)))); exact rxn G (k + 1) (by omega) (by omega) [0] (ht := by have e1 : (j9 (c8 (bl3 (k + 1) ss)) : ByteArray) = (j9 (c8 (bl3 k ss)) ++ (ByteArray.mk #[114, 101, 112, 101, 97, 116] ++ j9 (Lib.decDigits (ss.getD k bj9).count.toNat) ++ ByteArray.mk #[123] ++ j9 (c8 (ss.getD k bj9).body) ++ ByteArray.mk #[125])) := (by have h9 : (ss.getD k bj9).kind = 4 := (by omega) ; exact (bi7 (by omega) h9).symm); (first | rw [e1] | simp only [e1]) <;> rfl)
     have q4 := eq_of_beq h4; have c3 := C8 nv na d _ (aF4 hb); have c4 := C8 nv na d _ (a18 hb); have l1 := F2 (P7 hb (by omega)); refine rT G _ h4 (L9 G (s8 (k6 3 [2] (he ((ss.getD k bj9).value) (P7 hb (by omega))) (k6 8 [3] (ih ((ss.getD k bj9).body) (aF4 hb) (by omega)) (k6 13 [4] (ih ((ss.getD k bj9).els) (a18 hb) (by omega)) s7))) fz []) [0, 0, 2, 6, 14, 30, 0, 64, 206, 510, 1022, 0, 2048, 6606, 16382, 32766, 65535, 131071] [0] [dT ss] ((2, G5) :: (3, .v (.string (j9 (c8 (bl3 k ss)) ++ (ByteArray.mk #[105, 102] ++ j9 (c6 (ss.getD k bj9).value) ++ ByteArray.mk #[123] ++ j9 (c8 (ss.getD k bj9).body) ++ ByteArray.mk #[125, 123] ++ j9 (c8 (ss.getD k bj9).els) ++ ByteArray.mk #[125])))) :: (O2 ss k [])) [(↑((ByteArray.mk #[(105 : UInt8), (102 : UInt8)]).size + (j9 (c6 (ss.getD k bj9).value)).size) : Int) <= 9223372036854775807, (↑((ByteArray.mk #[(105 : UInt8), (102 : UInt8)] ++ j9 (c6 (ss.getD k bj9).value)).size + (ByteArray.mk #[(123 : UInt8)]).size) : Int) <= 9223372036854775807, (↑((ByteArray.mk #[(105 : UInt8), (102 : UInt8)] ++ j9 (c6 (ss.getD k bj9).value) ++ ByteArray.mk #[(123 : UInt8)]).size + (j9 (c8 (ss.getD k bj9).body)).size) : Int) <= 9223372036854775807, (↑((ByteArray.mk #[(105 : UInt8), (102 : UInt8)] ++ j9 (c6 (ss.getD k bj9).value) ++ ByteArray.mk #[(123 : UInt8)] ++ j9 (c8 (ss.getD k bj9).body)).size + (ByteArray.mk #[(125 : UInt8), (123 : UInt8)]).size) : Int) <= 9223372036854775807, (↑((ByteArray.mk #[(105 : UInt8), (102 : UInt8)] ++ j9 (c6 (ss.getD k bj9).value) ++ ByteArray.mk #[(123 : UInt8)] ++ j9 (c8 (ss.getD k bj9).body) ++ ByteArray.mk #[(125 : UInt8), (123 : UInt8)]).size + (j9 (c8 (ss.getD k bj9).els)).size) : Int) <= 9223372036854775807, (↑((ByteArray.mk #[(105 : UInt8), (102 : UInt8)] ++ j9 (c6 (ss.getD k bj9).value) ++ ByteArray.mk #[(123 : UInt8)] ++ j9 (c8 (ss.getD k bj9).body) ++ ByteArray.mk #[(125 : UInt8), (123 : UInt8)] ++ j9 (c8 (ss.getD k bj9).els)).size + (ByteArray.mk #[(125 : UInt8)]).size) : Int) <= 9223372036854775807, (↑((j9 (c8 (bl3 k ss))).size + (ByteArray.mk #[(105 : UInt8), (102 : UInt8)] ++ j9 (c6 (ss.getD k bj9).value) ++ ByteArray.mk #[(123 : UInt8)] ++ j9 (c8 (ss.getD k bj9).body) ++ ByteArray.mk #[(125 : UInt8), (123 : UInt8)] ++ j9 (c8 (ss.getD k bj9).els) ++ ByteArray.mk #[(125 : UInt8)]).size) : Int) <= 9223372036854775807] ⟨(by simp only [ByteArray.size_append, j7, j8, bl1, bk4, bk7]; omega), (by simp only [ByteArray.size_append, j7, j8, bl1, bk4, bk7]; omega), (by simp only [ByteArray.size_append, j7, j8, bl1, bk4, bk7]; omega), (by simp only [ByteArray.size_append, j7, j8, bl1, bk4, bk7]; omega), (by simp only [ByteArray.size_append, j7, j8, bl1, bk4, bk7]; omega), (by simp only [ByteArray.size_append, j7, j8, bl1, bk4, bk7]; omega), (by simp only [ByteArray.size_append, j7, j8, bl1, bk4, bk7]; omega), bm6⟩ fun G => o6 (o6 (b0 (J1 G b9 [(8, iA ((k : Int) + 1))] [wO ((k : Int) + 1)] (o1 (by omega)) fun G => b0 ?_)))); exact rxn G (k + 1) (by omega) (by omega) [0] (ht := by have e1 : (j9 (c8 (bl3 (k + 1) ss)) : ByteArray) = (j9 (c8 (bl3 k ss)) ++ (ByteArray.mk #[105, 102] ++ j9 (c6 (ss.getD k bj9).value) ++ ByteArray.mk #[123] ++ j9 (c8 (ss.getD k bj9).body) ++ ByteArray.mk #[125, 123] ++ j9 (c8 (ss.getD k bj9).els) ++ ByteArray.mk #[125])) := (by have h9 : (ss.getD k bj9).kind = 3 := (by omega) ; exact (bi8 (by omega) h9).symm); (first | rw [e1] | simp only [e1]) <;> rfl)
    have q3 := eq_of_beq h3; have c2 := a89 hb (by omega); have l1 := F2 (P7 hb (by omega)); have l2 := F2 (a17 hb (by omega)); refine rT G _ h3 (L9 G (s8 (k6 3 [] (ax6 ((ss.getD k bj9).target) (by omega) (by omega)) (k6 7 [1] (he ((ss.getD k bj9).index) (a17 hb (by omega))) (k6 12 [2] (he ((ss.getD k bj9).value) (P7 hb (by omega))) s7))) fz []) [0, 0, 2, 6, 14, 0, 32, 110, 254, 510, 0, 1024, 3310, 8190, 16382, 32767, 65535] [0] [dT ss] ((2, G5) :: (3, .v (.string (j9 (c8 (bl3 k ss)) ++ (j9 [UInt8.ofNat (80 + (ss.getD k bj9).target.toNat)] ++ ByteArray.mk #[91] ++ j9 (c6 (ss.getD k bj9).index) ++ ByteArray.mk #[93, 58, 61] ++ j9 (c6 (ss.getD k bj9).value) ++ ByteArray.mk #[59])))) :: (O2 ss k [])) [(↑((j9 [UInt8.ofNat ((80 : Nat) + (ss.getD k bj9).target.toNat)]).size + (ByteArray.mk #[(91 : UInt8)]).size) : Int) <= 9223372036854775807, (↑((j9 [UInt8.ofNat ((80 : Nat) + (ss.getD k bj9).target.toNat)] ++ ByteArray.mk #[(91 : UInt8)]).size + (j9 (c6 (ss.getD k bj9).index)).size) : Int) <= 9223372036854775807, (↑((j9 [UInt8.ofNat ((80 : Nat) + (ss.getD k bj9).target.toNat)] ++ ByteArray.mk #[(91 : UInt8)] ++ j9 (c6 (ss.getD k bj9).index)).size + (ByteArray.mk #[(93 : UInt8), (58 : UInt8), (61 : UInt8)]).size) : Int) <= 9223372036854775807, (↑((j9 [UInt8.ofNat ((80 : Nat) + (ss.getD k bj9).target.toNat)] ++ ByteArray.mk #[(91 : UInt8)] ++ j9 (c6 (ss.getD k bj9).index) ++ ByteArray.mk #[(93 : UInt8), (58 : UInt8), (61 : UInt8)]).size + (j9 (c6 (ss.getD k bj9).value)).size) : Int) <= 9223372036854775807, (↑((j9 [UInt8.ofNat ((80 : Nat) + (ss.getD k bj9).target.toNat)] ++ ByteArray.mk #[(91 : UInt8)] ++ j9 (c6 (ss.getD k bj9).index) ++ ByteArray.mk #[(93 : UInt8), (58 : UInt8), (61 : UInt8)] ++ j9 (c6 (ss.getD k bj9).value)).size + (ByteArray.mk #[(59 : UInt8)]).size) : Int) <= 9223372036854775807, (↑((j9 (c8 (bl3 k ss))).size + (j9 [UInt8.ofNat ((80 : Nat) + (ss.getD k bj9).target.toNat)] ++ ByteArray.mk #[(91 : UInt8)] ++ j9 (c6 (ss.getD k bj9).index) ++ ByteArray.mk #[(93 : UInt8), (58 : UInt8), (61 : UInt8)] ++ j9 (c6 (ss.getD k bj9).value) ++ ByteArray.mk #[(59 : UInt8)]).size) : Int) <= 9223372036854775807] ⟨(by simp only [ByteArray.size_append, j7, j8, bl1, bk4, bk7]; omega), (by simp only [ByteArray.size_append, j7, j8, bl1, bk4, bk7]; omega), (by simp only [ByteArray.size_append, j7, j8, bl1, bk4, bk7]; omega), (by simp only [ByteArray.size_append, j7, j8, bl1, bk4, bk7]; omega), (by simp only [ByteArray.size_append, j7, j8, bl1, bk4, bk7]; omega), (by simp only [ByteArray.size_append, j7, j8, bl1, bk4, bk7]; omega), bm6⟩ fun G => o6 (o6 (b0 (J1 G b9 [(8, iA ((k : Int) + 1))] [wO ((k : Int) + 1)] (o1 (by omega)) fun G => b0 ?_)))); exact rxn G (k + 1) (by omega) (by omega) [0] (ht := by have e1 : (j9 (c8 (bl3 (k + 1) ss)) : ByteArray) = (j9 (c8 (bl3 k ss)) ++ (j9 [UInt8.ofNat (80 + (ss.getD k bj9).target.toNat)] ++ ByteArray.mk #[91] ++ j9 (c6 (ss.getD k bj9).index) ++ ByteArray.mk #[93, 58, 61] ++ j9 (c6 (ss.getD k bj9).value) ++ ByteArray.mk #[59])) := (by have h9 : (ss.getD k bj9).kind = 2 := (by omega) ; exact (bi9 (by omega) h9).symm); (first | rw [e1] | simp only [e1]) <;> rfl)
   have q2 := eq_of_beq h2; have c1 := a16 hb (by omega); have l1 := F2 (P7 hb (by omega)); refine rT G _ h2 (L9 G (s8 (k6 3 [] (an2 ((ss.getD k bj9).target) (by omega) (by omega)) (k6 7 [2] (he ((ss.getD k bj9).value) (P7 hb (by omega))) s7)) fz []) [0, 0, 2, 6, 14, 0, 32, 110, 254, 510, 1023, 2047] [0] [dT ss] ((2, G5) :: (3, .v (.string (j9 (c8 (bl3 k ss)) ++ (j9 [UInt8.ofNat (97 + (ss.getD k bj9).target.toNat)] ++ ByteArray.mk #[33, 61] ++ j9 (c6 (ss.getD k bj9).value) ++ ByteArray.mk #[59])))) :: (O2 ss k [])) [(↑((j9 [UInt8.ofNat ((97 : Nat) + (ss.getD k bj9).target.toNat)]).size + (ByteArray.mk #[(33 : UInt8), (61 : UInt8)]).size) : Int) <= 9223372036854775807, (↑((j9 [UInt8.ofNat ((97 : Nat) + (ss.getD k bj9).target.toNat)] ++ ByteArray.mk #[(33 : UInt8), (61 : UInt8)]).size + (j9 (c6 (ss.getD k bj9).value)).size) : Int) <= 9223372036854775807, (↑((j9 [UInt8.ofNat ((97 : Nat) + (ss.getD k bj9).target.toNat)] ++ ByteArray.mk #[(33 : UInt8), (61 : UInt8)] ++ j9 (c6 (ss.getD k bj9).value)).size + (ByteArray.mk #[(59 : UInt8)]).size) : Int) <= 9223372036854775807, (↑((j9 (c8 (bl3 k ss))).size + (j9 [UInt8.ofNat ((97 : Nat) + (ss.getD k bj9).target.toNat)] ++ ByteArray.mk #[(33 : UInt8), (61 : UInt8)] ++ j9 (c6 (ss.getD k bj9).value) ++ ByteArray.mk #[(59 : UInt8)]).size) : Int) <= 9223372036854775807] ⟨(by simp only [ByteArray.size_append, j7, j8, bl1, bk4, bk7]; omega), (by simp only [ByteArray.size_append, j7, j8, bl1, bk4, bk7]; omega), (by simp only [ByteArray.size_append, j7, j8, bl1, bk4, bk7]; omega), (by simp only [ByteArray.size_append, j7, j8, bl1, bk4, bk7]; omega), bm6⟩ fun G => o6 (o6 (b0 (J1 G b9 [(8, iA ((k : Int) + 1))] [wO ((k : Int) + 1)] (o1 (by omega)) fun G => b0 ?_)))); exact rxn G (k + 1) (by omega) (by omega) [0] (ht := by have e1 : (j9 (c8 (bl3 (k + 1) ss)) : ByteArray) = (j9 (c8 (bl3 k ss)) ++ (j9 [UInt8.ofNat (97 + (ss.getD k bj9).target.toNat)] ++ ByteArray.mk #[33, 61] ++ j9 (c6 (ss.getD k bj9).value) ++ ByteArray.mk #[59])) := (by have h9 : (ss.getD k bj9).kind = 5 := (by omega) ; exact (bi6 (by omega) h9).symm); (first | rw [e1] | simp only [e1]) <;> rfl)
  have q1 := eq_of_beq h1; have c1 := a16 hb (by omega); have l1 := F2 (P7 hb (by omega)); refine rT G _ h1 (L9 G (s8 (k6 3 [] (an2 ((ss.getD k bj9).target) (by omega) (by omega)) (k6 7 [2] (he ((ss.getD k bj9).value) (P7 hb (by omega))) s7)) fz []) [0, 0, 2, 6, 14, 0, 32, 110, 254, 510, 1023, 2047] [0] [dT ss] ((2, G5) :: (3, .v (.string (j9 (c8 (bl3 k ss)) ++ (j9 [UInt8.ofNat (97 + (ss.getD k bj9).target.toNat)] ++ ByteArray.mk #[58, 61] ++ j9 (c6 (ss.getD k bj9).value) ++ ByteArray.mk #[59])))) :: (O2 ss k [])) [(↑((j9 [UInt8.ofNat ((97 : Nat) + (ss.getD k bj9).target.toNat)]).size + (ByteArray.mk #[(58 : UInt8), (61 : UInt8)]).size) : Int) <= 9223372036854775807, (↑((j9 [UInt8.ofNat ((97 : Nat) + (ss.getD k bj9).target.toNat)] ++ ByteArray.mk #[(58 : UInt8), (61 : UInt8)]).size + (j9 (c6 (ss.getD k bj9).value)).size) : Int) <= 9223372036854775807, (↑((j9 [UInt8.ofNat ((97 : Nat) + (ss.getD k bj9).target.toNat)] ++ ByteArray.mk #[(58 : UInt8), (61 : UInt8)] ++ j9 (c6 (ss.getD k bj9).value)).size + (ByteArray.mk #[(59 : UInt8)]).size) : Int) <= 9223372036854775807, (↑((j9 (c8 (bl3 k ss))).size + (j9 [UInt8.ofNat ((97 : Nat) + (ss.getD k bj9).target.toNat)] ++ ByteArray.mk #[(58 : UInt8), (61 : UInt8)] ++ j9 (c6 (ss.getD k bj9).value) ++ ByteArray.mk #[(59 : UInt8)]).size) : Int) <= 9223372036854775807] ⟨(by simp only [ByteArray.size_append, j7, j8, bl1, bk4, bk7]; omega), (by simp only [ByteArray.size_append, j7, j8, bl1, bk4, bk7]; omega), (by simp only [ByteArray.size_append, j7, j8, bl1, bk4, bk7]; omega), (by simp only [ByteArray.size_append, j7, j8, bl1, bk4, bk7]; omega), bm6⟩ fun G => o6 (o6 (b0 (J1 G b9 [(8, iA ((k : Int) + 1))] [wO ((k : Int) + 1)] (o1 (by omega)) fun G => b0 ?_)))); exact rxn G (k + 1) (by omega) (by omega) [0] (ht := by have e1 : (j9 (c8 (bl3 (k + 1) ss)) : ByteArray) = (j9 (c8 (bl3 k ss)) ++ (j9 [UInt8.ofNat (97 + (ss.getD k bj9).target.toNat)] ++ ByteArray.mk #[58, 61] ++ j9 (c6 (ss.getD k bj9).value) ++ ByteArray.mk #[59])) := (by have h9 : (ss.getD k bj9).kind = 1 := (by omega) ; exact (bj0 (by omega) h9).symm); (first | rw [e1] | simp only [e1]) <;> rfl)
theorem ar6 : f6.ok Tryd.prog (D8 57 [.ref 0] [dT []] (tA (c8 []))) := by
 refine F0 91 Tryd.func57 [dT []] [(0, .ref 0)] fun G => ?_; refine wp_seq (f9 G b9 [(2, .v (.string (ByteArray.mk #[])))] fun G => b0 (wp_seq (f9 G b9 [(3, .v (.string (ByteArray.mk #[])))] fun G => b0 (wp_seq (wp_seq (J2 G b9 [(2, .v (.string (ByteArray.mk #[]))), (3, .v (.string (ByteArray.mk #[]))), (6, .ref 0), (7, iA 0), (8, iA 0)] fun G => b0 (wp_block ?_))))))); refine x3 (κ := Nat) (fun k => k = 0) (fun k => 0) (fun k => [dT []]) (fun k => [(2, .v (.string (ByteArray.mk #[]))), (3, .v (.string (j9 []))), (6, .ref 0), (7, iA 0), (8, iA k)]) 0 (by kernel_rfl) (o8.at G _ _) ?_; clear G; intro k ρ a w hp G; refine wp_seq (f9 G b9 [(9, bA false)] fun G => b0 (wp_seq (rF G false (by kernel_rfl) (wp_exit (w6 (w6 (w4 (b0 (wp_seq (f9 G b9 [(2, .v (.string (j9 [])))] fun G => b0 (wp_ret ?_))))))))))); exact K9 G [0]
theorem ag3 (nv na : Nat) (hnv : nv <= 12) (hna : na <= 2) : ∀ (d : Nat) (ss : List b5), (∀ s ∈ ss, d8 nv na d s = true) -> J3 ss <= 60 -> f6.ok Tryd.prog (D8 57 [.ref 0] [dT ss] (tA (c8 ss)))
 | 0, [], _, _ => ar6
 | 0, s :: r, h, _ => by have := h s bl2; simp [d8] at this
 | d + 1, ss, h, hn => at9 nv na d hnv hna (ag3 nv na hnv hna d) ss h hn
theorem ak9 (p : c9) (h : o9 p = true) : f6.ok Tryd.prog (D8 28 [pA 0] (pS p) (tA (X6 p))) := by
 obtain ⟨h1, h2, h3⟩ := aA3 h; obtain ⟨g1, g2, g3, g4, g5⟩ := av8 h1; have hl := ag3 p.vars.length p.arrays.length g4 g5 5 p.body h2 h3; have hz := C8 p.vars.length p.arrays.length 5 p.body h2; have z1 := av3 p.vars; have z2 := av3 p.arrays; refine F0 16 Tryd.func28 [dI p.vars, dI p.arrays, dT p.body] [(0, pA 0)] fun G => ?_; refine wp_seq (j5 G b9 (rg 4) [dI p.vars, dI p.arrays, dT p.body, .box (pL 0)] [(1, .ptr 3 0), (2, .v (.string (ByteArray.mk #[])))] fun G => b0 (wp_seq (L9 G (s8 (k6 2 [0] (O8 p.vars (by assumption) (by omega)) (k6 6 [1] (O8 p.arrays (by assumption) (by omega)) (k6 11 [2] hl s7))) fz []) [0, 1, 3, 7, 0, 16, 55, 127, 255, 0, 512, 1655, 4095, 8191] [0, 1, 2] [dI p.vars, dI p.arrays, dT p.body] [(2, .v (.string (j9 (y8 p.vars) ++ ByteArray.mk #[47] ++ j9 (y8 p.arrays) ++ ByteArray.mk #[47] ++ j9 (c8 p.body))))] [(↑((j9 (y8 p.vars)).size + (ByteArray.mk #[(47 : UInt8)]).size) : Int) <= 9223372036854775807, (↑((j9 (y8 p.vars) ++ ByteArray.mk #[(47 : UInt8)]).size + (j9 (y8 p.arrays)).size) : Int) <= 9223372036854775807, (↑((j9 (y8 p.vars) ++ ByteArray.mk #[(47 : UInt8)] ++ j9 (y8 p.arrays)).size + (ByteArray.mk #[(47 : UInt8)]).size) : Int) <= 9223372036854775807, (↑((j9 (y8 p.vars) ++ ByteArray.mk #[(47 : UInt8)] ++ j9 (y8 p.arrays) ++ ByteArray.mk #[(47 : UInt8)]).size + (j9 (c8 p.body)).size) : Int) <= 9223372036854775807] ⟨(by simp only [ByteArray.size_append, j7, j8, bl1, bk4, bk7]; omega), (by simp only [ByteArray.size_append, j7, j8, bl1, bk4, bk7]; omega), (by simp only [ByteArray.size_append, j7, j8, bl1, bk4, bk7]; omega), (by simp only [ByteArray.size_append, j7, j8, bl1, bk4, bk7]; omega), bm6⟩ fun G => b0 (wp_ret ?_)))); exact K9 G [0, 1, 2]
theorem a74 {p : c9} (h : o9 p = true) : T4 p = X6 p := by unfold T4; rw [if_pos h]
theorem M5 (p : c9) : f6.ok Tryd.prog (D8 9 [pA 0] (pS p) (tA (T4 p))) := by
 refine F0 8 Tryd.func9 [dI p.vars, dI p.arrays, dT p.body] [(0, pA 0)] fun G => ?_; refine wp_seq (j5 G b9 (rg 4) [dI p.vars, dI p.arrays, dT p.body, .box (pL 0)] [(1, .ptr 3 0), (2, .v (.string (ByteArray.mk #[])))] fun G => b0 (wp_seq (wp_seq (f9 G (B3 1 [0, 1, 2] (ae2 p)) [(5, .v (.bool !o9 p))] fun G => b0 ?_)))); cases h0 : (!o9 p)
 ·have q0 : (o9 p) = true := (Eq.mp (bl7 _) h0); refine rF G _ h0 (wp_skip (b0 (wp_seq (j5 G (B3 1 [0, 1, 2] (ak9 p (by assumption))) [0, 1, 2] [dI p.vars, dI p.arrays, dT p.body] [(2, .v (.string (j9 (X6 p))))] fun G => b0 (wp_ret ?_))))); exact rxv (.v (.string (j9 (X6 p)))) G [0, 1, 2] (by show _ = AV.ren (nth [0, 1, 2]) (.v (.string (j9 (T4 p)))); have e1 : (j9 (T4 p) : ByteArray) = (j9 (X6 p)) := (by rw [a74 (by assumption)]); (first | rw [e1] | simp only [e1]) <;> rfl)
 have q0 : (o9 p) = false := (Eq.mp (bl0 _) h0); refine rT G _ h0 (wp_seq (f9 G b9 [] fun G => b0 (wp_ret (f7 ?_)))); exact rxv (.v (.string (ByteArray.mk #[]))) G [0, 1, 2] (by show _ = AV.ren (nth [0, 1, 2]) (.v (.string (j9 (T4 p)))); have e1 : (j9 (T4 p) : ByteArray) = (ByteArray.mk #[]) := ((bj4 (by assumption)).symm); (first | rw [e1] | simp only [e1]) <;> rfl)
theorem aJ8 (w : World) (he : aM3 (fun _ => True) w := by intro _ _; trivial) : e5 (fun _ => True) (fun _ => True) w w (j2 (fun _ : Empty => Rs.none) (fun _ => undef) (l9 [])) := by
 refine (e5.start (ι := Empty ⊕ Nat) (w0 := w) (φ := fun _ => True) (ψ := fun _ => True) (fun _ _ => trivial) he).map (fun k => some k) (fun k k' i a b => by cases a; cases b; rfl) fun k => ?_
 cases k with
 | inl e => exact e.elim
 | inr j => exact .inr rfl
theorem aM2 (w : World) : G2 (fun _ => True) (L1 (fun _ => True) (j2 (fun _ : Empty => Rs.none) (fun _ => undef) (l9 []))) w w := G2.mono fun b _ _ => ⟨bm6, fun i => by
 cases i with
 | inl e => exact e.elim
 | inr j => exact fun h => h.elim⟩
abbrev u8s (c : List UInt8) : List Value := c.map fun b => Value.int .u8 (b.toNat : Int)
theorem aL5 {P : Program} {f : FuncId} {x : Value} {c : List UInt8} {post : List It} (hc : f6.ok P ⟨f, [.ref 0], [dY c], post, .v x⟩) (u : Value) (w : World) (hp : o7 w (fun _ => True) u c.length 1 (u8s c)) (he : aM3 (fun _ => True) w := by intro _ _; trivial) :
  Calls P f #[u] w fun e w' => e = .returned x /\ Below w.heap.size w w' := by
 obtain ⟨ρ', g1, M2, g2⟩ := e5.dats [.sl (.bytes c)] [u] 0 (aJ8 w he) ⟨RD.nice (.bytes c) _ _ _ _ _ (aM2 w) hp, bm6⟩ (fun _ _ => rfl) (fun _ _ _ => rfl)
 have e : i7 (l9 []) (G3 [.sl (.bytes c)] 0) = l9 [dY c] := by
  funext j
  match j with
  | 0 => rfl
  | j + 1 => simp [G3, i7, l9]
 rw [e] at M2
 simp only [xav, AV.vals, AV.val, List.cons.injEq, and_true] at g2
 subst g2
 refine (hc Empty _ _ w w _ ρ' M2).mono ?_
 rintro e w' ⟨ρ2, -, rfl, M3⟩
 exact ⟨rfl, M3.below fun _ _ => trivial⟩
end Go.Proofs.YtcahndjigkledaaDoor
