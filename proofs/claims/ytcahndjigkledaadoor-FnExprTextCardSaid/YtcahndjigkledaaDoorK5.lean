/- Part 5: functions on the way, plain laws. Conditions: as said. -/
import Derived.Test.YtcahndjigkledaaDoorK1
import Derived.Test.YtcahndjigkledaaDoorK2
import Derived.Test.YtcahndjigkledaaDoorK3
import Derived.Test.YtcahndjigkledaaDoorK4
set_option maxRecDepth 100000
set_option maxHeartbeats 16000000
set_option linter.unusedVariables false
set_option linter.unusedSimpArgs false
open Bool renaming and_eq_true → bf8, not_eq_false' → bh6, not_eq_true' → bg8
open Inhabited renaming default → bf6
open Int renaming mul_le_mul_of_nonneg_right → bj7
open List renaming all_eq_true → bg6, append_assoc → bj8, getD_eq_getElem?_getD → bf7, getElem?_cons_succ → bh4, getElem?_cons_zero → bg7, getElem?_eq_getElem → bf5, getElem?_eq_none → bi7, getElem?_eq_some_iff → bg3, getElem_mem → bg1, length_append → bi6, length_cons → bg0, length_nil → bg4, mem_append → bh9, mem_cons → bj0, mem_cons_of_mem → bi1, mem_cons_self → bh3, range → bi0, replicate → bh1, size_toArray → bg5, take → bh0, take_of_length_le → bh7
open Nat renaming le_refl → bg9, le_trans → bg2, zero_le → bj5
open Option renaming getD_some → bi8
open True renaming intro → bh8

namespace Go.Proofs.YtcahndjigkledaaDoor
open Go Go.RowKit
theorem a52 {l : List b6} {k : Nat} (hk : k < l.length) : l.take k ++ [⟨(l.getD k bf6).kind, (l.getD k bf6).value, (l.getD k bf6).kids⟩] = l.take (k + 1) := by
 rw [b6.eta, w9 _ _ hk, m5 hk]
theorem a50 {l : List b7} {k : Nat} (hk : k < l.length) : l.take k ++ [⟨(l.getD k bf6).kind, (l.getD k bf6).target, ⟨(l.getD k bf6).index.kind, (l.getD k bf6).index.value, (l.getD k bf6).index.kids⟩, ⟨(l.getD k bf6).value.kind, (l.getD k bf6).value.value, (l.getD k bf6).value.kids⟩, (l.getD k bf6).count, (l.getD k bf6).body, (l.getD k bf6).els⟩] = l.take (k + 1) := by
 rw [b6.eta, b6.eta, b7.eta, w9 _ _ hk, m5 hk]
theorem aE0 {α : Type} {l : List α} {k : Nat} (h1 : k <= l.length) (h2 : ¬ (k : Int) < l.length) : l.take k = l := by rw [bh7 (by omega)]
theorem aP5 {α : Type} {l : List α} {k n : Nat} (h1 : k <= l.length) (h : l.length <= n) : (l.take k).length <= n := by rw [List.length_take]; omega
theorem aQ5 {e : b6} (h : J3 e <= 1048576) : e.kids.length <= 1048576 := by
 have h1 := aM0 e.kids
 have h2 : J3 e = l8 e.kids := by cases e; rfl
 omega
theorem aK5 {l : List b7} (h : s6 l <= 1048576) : l.length <= 1048576 := bg2 (V4 l) h
theorem aX3 {α : Type} {l : List α} {x : α} {k : Nat} (h1 : k <= l.length) (h : l.length <= 1048576) : (l.take k).length + [x].length <= 1048577 := by
 have := aP5 (k := k) h1 h
 simp only [bg0, bg4]; omega
theorem a93 {a b : Nat} (ha : a <= 1048577) (hb : Nat.ble b 1000 = true) : a * b <= 140737488355328 := by
 have h1 := Nat.le_of_ble_eq_true hb
 have h2 := Nat.mul_le_mul ha h1
 omega
theorem aR1 {l : List b6} {k : Nat} (h : (k : Int) < l.length) : l.getD k bf6 ∈ l := by rw [m5 (by omega)]; exact bg1 (by omega)
theorem ag8 {l : List b7} {k : Nat} (h : (k : Int) < l.length) : l.getD k bf6 ∈ l := by rw [m5 (by omega)]; exact bg1 (by omega)
abbrev cpC (e : b6) : i8 := ⟨104, [eA e 0], eS e, eS e ++ [.tree (.exprs e.kids)], .agg [iA e.kind, iA e.value, .tref 1]⟩
abbrev aq6 (e : b6) (r0 : List It) : List It := dE e.kids :: .box (eL e 0) :: .box [iA 0, iA 0, .v (.slice none 0 0)] :: r0
theorem aN4 (e : b6) (hb : J3 e <= 1048576) (ih : ∀ (x : b6), x ∈ e.kids -> i8.ok Tryd.prog (cpC x)) : i8.ok Tryd.prog (cpC e) := by
 refine H7 29 Tryd.func104 [dE e.kids] [(0, eA e 0)] fun G => ?_; have hl := aQ5 hb; refine wp_seq (l7 G e5 [0, 1, 9] (aq6 e []) [(1, .ptr 1 0), (2, .ptr 2 0)] fun G => b0 (wp_seq (l7 G e5 [0, 1, 2, 43] (aq6 e [.box [iA e.kind, iA e.value, .v (.slice none 0 0)]]) [(1, .ptr 1 0), (2, .ptr 2 0), (3, .ptr 3 0)] fun G => b0 (wp_seq (wp_seq (J4 G e5 [(1, .ptr 1 0), (2, .ptr 2 0), (3, .ptr 3 0), (4, iA 0)] fun G => b0 (wp_block ?_))))))); obtain ⟨ρ, G⟩ := G.nilT 4 (.exprs []) (aq6 e [.box [iA e.kind, iA e.value, .tref 4]]) [(1, .ptr 1 0), (2, .ptr 2 0), (3, .ptr 3 0), (4, iA 0)]; refine C3 (κ := Nat) (fun k => k <= e.kids.length) (fun k => e.kids.length - k) (fun k => [dE e.kids, .box (eL e 0), .box [iA 0, iA 0, .v (.slice none 0 0)], .box [iA e.kind, iA e.value, .tref 4], .tree (.exprs (e.kids.take k))]) (fun k => [(1, .ptr 1 0), (2, .ptr 2 0), (3, .ptr 3 0), (4, iA k)]) 0 (by omega) (p9.at G _ _) ?_; clear G; intro k ρ a w hp G; replace G := p9.at G (aq6 e [.box [iA e.kind, iA e.value, .tref 4], .tree (D.exprs (bh0 k e.kids))]) [(1, .ptr 1 0), (2, .ptr 2 0), (3, .ptr 3 0), (4, iA k)]; refine wp_seq (wp_seq (l6 G e5 [(14, bA (decide ((k : Int) < e.kids.length)))] fun G => b0 (rcD G (fun h0 q0 => ?_) fun h0 q0 => ?_)))
 ·refine wp_exit (B7 (B7 (B6 (b0 (wp_seq (l7 G e5 [0, 2, 4] [dE e.kids, .box [iA e.kind, iA e.value, .tref 2], .tree (D.exprs (bh0 k e.kids))] [(2, .ptr 1 0)] fun G => b0 (wp_ret ?_))))))); exact O1 G [0, 2] (by show _ = mR [0, 2] [dE e.kids, .tree (D.exprs e.kids)]; have e1 : (bh0 k e.kids : List b6) = (e.kids) := (aE0 hp (by assumption)); (first | rw [e1] | simp only [e1]) <;> rfl)
 refine wp_skip (b0 (wp_seq (wp_block (K8 G (w7 7 [53] (ih (e.kids.getD k bf6) (aR1 (by assumption)))) [0, 1, 0, 4, 0, 28, 60, 124, 252, 511, 1023, 2047] [0, 1, 2, 3, 77] (aq6 e [.box [iA e.kind, iA e.value, .tref 4], .tree (D.exprs (bh0 k e.kids ++ [qzE (e.kids.getD k bf6)]))]) [(1, .ptr 1 0), (2, .ptr 2 0), (3, .ptr 3 0), (4, iA k)] (iX k k e.kids.length (((bh0 k e.kids).length + [qzE (e.kids.getD k bf6)].length <= (9223372036854775807 : Nat)) :: ((((bh0 k e.kids).length + [qzE (e.kids.getD k bf6)].length) * (40 : Nat) <= (140737488355328 : Nat)) :: []))) (iK (by omega) ⟨(by have := aX3 (x := (bf6 : b6)) hp hl; simp only [bg0, bg4] at this ⊢; omega), ⟨(a93 (aX3 hp hl) (by kernel_rfl)), bh8⟩⟩) fun G => p8 (b0 (M5 G e5 [(4, iA ((k : Int) + 1))] [wO ((k : Int) + 1)] (o1 (by omega)) fun G => b0 ?_)))))); exact rxn G (k + 1) (by omega) (by omega) (rg 5) (by have e1 : (bh0 (k + 1) e.kids : List b6) = (bh0 k e.kids ++ [qzE (e.kids.getD k bf6)]) := ((a52 (by omega)).symm); (first | rw [e1] | simp only [e1]) <;> rfl)
theorem aH0 (e : b6) : J3 e <= 1048576 -> i8.ok Tryd.prog (cpC e) :=
 b6.ind (P := fun e => J3 e <= 1048576 -> i8.ok Tryd.prog (cpC e)) (fun k n ks ih hb => aN4 ⟨k, n, ks⟩ hb fun x hx => ih x hx (by
  have h1 := aU6 (show x ∈ ks from hx)
  have h2 : J3 ⟨k, n, ks⟩ = l8 ks := rfl
  omega)) e
abbrev av8 (l : List b7) : i8 := ⟨95, [.ref 0], [dT l], [dT l, .tree (.stmts l)], .tref 1⟩
theorem aG4 {l : List b7} {k : Nat} (hb : s6 l <= 1048576) (h : (k : Int) < l.length) : J3 (l.getD k bf6).index <= 1048576 /\ J3 (l.getD k bf6).value <= 1048576 /\ s6 (l.getD k bf6).body <= 1048576 /\ s6 (l.getD k bf6).els <= 1048576 := by
 have h1 := J8 (ag8 h)
 generalize l.getD k bf6 = s at *
 rcases s with ⟨_, _, i, v, _, b, e⟩
 simp only [szS] at h1
 simp only [b7.index, b7.value, b7.body, b7.els]
 omega
abbrev ad8 (k : Nat) (r0 : List (Nat × AV)) : List (Nat × AV) := (0, .ref 0) :: (2, .v (.slice none 0 0)) :: (3, .tref 1) :: (4, iA (k : Int)) :: r0
theorem af2 (l : List b7) (hb : s6 l <= 1048576) (ih1 : ∀ (s : b7), s ∈ l -> i8.ok Tryd.prog (av8 s.body)) (ih2 : ∀ (s : b7), s ∈ l -> i8.ok Tryd.prog (av8 s.els)) : i8.ok Tryd.prog (av8 l) := by
  refine H7 38 Tryd.func95 [dT l] [(0, .ref 0)] fun G => ?_; have hl := aK5 hb; refine wp_seq (l6 G e5 [(2, .v (.slice none 0 0))] fun G => b0 (wp_seq (l7 G e5 [0, 1] [dT l, .tree (D.stmts [])] [(0, .ref 0), (2, .v (.slice none 0 0)), (3, .tref 1)] fun G => b0 (wp_seq (wp_seq (J4 G e5 [(0, .ref 0), (2, .v (.slice none 0 0)), (3, .tref 1), (4, iA 0)] fun G => b0 (wp_block ?_))))))); refine C3 (κ := Nat) (fun k => k <= l.length) (fun k => l.length - k) (fun k => [dT l, .tree (.stmts (l.take k))]) (fun k => [(0, .ref 0), (2, .v (.slice none 0 0)), (3, .tref 1), (4, iA k)]) 0 (by omega) (p9.at G _ _) ?_; clear G; intro k ρ a w hp G; replace G := p9.at G [dT l, .tree (D.stmts (bh0 k l))] (ad8 k []); refine wp_seq (wp_seq (l6 G e5 [(10, bA (decide ((k : Int) < l.length)))] fun G => b0 (rcD G (fun h0 q0 => ?_) fun h0 q0 => ?_)))
  · refine wp_exit (B7 (B7 (B6 (b0 (wp_seq (l6 G e5 [(2, .tref 1)] fun G => b0 (wp_ret ?_))))))); exact O1 G [0, 1] (by show _ = mR [0, 1] [dT l, .tree (D.stmts l)]; have e1 : (bh0 k l : List b7) = (l) := (aE0 hp (by assumption)); (first | rw [e1] | simp only [e1]) <;> rfl)
  refine wp_skip (b0 (wp_seq (wp_block (wp_seq (rA1 G e5 [0, 1, 26, 27, 28, 29, 34] [dT l, .tree (D.stmts (bh0 k l)), dE (l.getD k bf6).index.kids, dE (l.getD k bf6).value.kids, dT (l.getD k bf6).body, dT (l.getD k bf6).els, .box (sL (l.getD k bf6) 2)] (ad8 k [(5, .ptr 6 0)]) (iX k k l.length []) (iK (by omega) bh8) fun G => b0 (wp_seq (l7 G (w7 2 [2] (aH0 ((l.getD k bf6).index) ((aG4 hb (by assumption)).1))) [0, 1, 3, 4, 5, 6, 23] [dT l, .tree (D.stmts (bh0 k l)), dE (l.getD k bf6).value.kids, dT (l.getD k bf6).body, dT (l.getD k bf6).els, .box [iA (l.getD k bf6).kind, iA (l.getD k bf6).target, iA (l.getD k bf6).index.kind, iA (l.getD k bf6).index.value, .tref 6, iA (l.getD k bf6).value.kind, iA (l.getD k bf6).value.value, .ref 2, iA (l.getD k bf6).count, .ref 3, .ref 4], .tree (D.exprs (l.getD k bf6).index.kids)] (ad8 k [(5, .ptr 5 0)]) fun G => b0 (wp_seq (l7 G (w7 2 [2] (aH0 ((l.getD k bf6).value) ((aG4 hb (by assumption)).2.1))) [0, 1, 3, 4, 5, 6, 23] [dT l, .tree (D.stmts (bh0 k l)), dT (l.getD k bf6).body, dT (l.getD k bf6).els, .box [iA (l.getD k bf6).kind, iA (l.getD k bf6).target, iA (l.getD k bf6).index.kind, iA (l.getD k bf6).index.value, .tref 5, iA (l.getD k bf6).value.kind, iA (l.getD k bf6).value.value, .tref 6, iA (l.getD k bf6).count, .ref 2, .ref 3], .tree (D.exprs (l.getD k bf6).index.kids), .tree (D.exprs (l.getD k bf6).value.kids)] (ad8 k [(5, .ptr 4 0)]) fun G => b0 (wp_seq (l7 G (w7 2 [2] (ih1 (l.getD k bf6) (ag8 (by assumption)))) [0, 1, 3, 4, 5, 6, 23] [dT l, .tree (D.stmts (bh0 k l)), dT (l.getD k bf6).els, .box [iA (l.getD k bf6).kind, iA (l.getD k bf6).target, iA (l.getD k bf6).index.kind, iA (l.getD k bf6).index.value, .tref 4, iA (l.getD k bf6).value.kind, iA (l.getD k bf6).value.value, .tref 5, iA (l.getD k bf6).count, .tref 6, .ref 2], .tree (D.exprs (l.getD k bf6).index.kids), .tree (D.exprs (l.getD k bf6).value.kids), .tree (D.stmts (l.getD k bf6).body)] (ad8 k [(5, .ptr 3 0)]) fun G => b0 (wp_seq (l7 G (w7 2 [2] (ih2 (l.getD k bf6) (ag8 (by assumption)))) [0, 1, 3, 4, 5, 6, 23] [dT l, .tree (D.stmts (bh0 k l)), .box [iA (l.getD k bf6).kind, iA (l.getD k bf6).target, iA (l.getD k bf6).index.kind, iA (l.getD k bf6).index.value, .tref 3, iA (l.getD k bf6).value.kind, iA (l.getD k bf6).value.value, .tref 4, iA (l.getD k bf6).count, .tref 5, .tref 6], .tree (D.exprs (l.getD k bf6).index.kids), .tree (D.exprs (l.getD k bf6).value.kids), .tree (D.stmts (l.getD k bf6).body), .tree (D.stmts (l.getD k bf6).els)] (ad8 k [(5, .ptr 2 0)]) fun G => b0 (rA1 G e5 [0, 31] [dT l, .tree (D.stmts (bh0 k l ++ [qzS (l.getD k bf6)]))] (ad8 k []) [(bh0 k l).length + [qzS (l.getD k bf6)].length <= (9223372036854775807 : Nat), ((bh0 k l).length + [qzS (l.getD k bf6)].length) * (152 : Nat) <= (140737488355328 : Nat)] ⟨(by have := aX3 (x := (bf6 : b7)) hp hl; simp only [bg0, bg4] at this ⊢; omega), (a93 (aX3 hp hl) (by kernel_rfl)), bh8⟩ fun G => ?_))))))))))))))
  refine p8 (b0 (M5 G e5 [(4, iA ((k : Int) + 1))] [wO ((k : Int) + 1)] (o1 (by omega)) fun G => b0 ?_)); exact rxn G (k + 1) (by omega) (by omega) [0, 1] (by have e1 : (bh0 (k + 1) l : List b7) = (bh0 k l ++ [qzS (l.getD k bf6)]) := ((a50 (by omega)).symm); (first | rw [e1] | simp only [e1]) <;> rfl)
theorem aY7 (l : List b7) : s6 l <= 1048576 -> i8.ok Tryd.prog (av8 l) := fun hb => af2 l hb
 (fun s hs => (c_copyS2 s).1 (bg2 (Nat.le_of_lt (J8 hs)) hb)) fun s hs => (c_copyS2 s).2 (bg2 (Nat.le_of_lt (J8 hs)) hb)
where
 c_copyS2 (s : b7) : (szS s <= 1048576 -> i8.ok Tryd.prog (av8 s.body)) /\ (szS s <= 1048576 -> i8.ok Tryd.prog (av8 s.els)) :=
  b7.ind (P := fun s => (szS s <= 1048576 -> i8.ok Tryd.prog (av8 s.body)) /\ (szS s <= 1048576 -> i8.ok Tryd.prog (av8 s.els))) (fun k t i v c b e h1 h2 => by
   have hz : szS ⟨k, t, i, v, c, b, e⟩ = J3 i + J3 v + s6 b + s6 e := rfl
   constructor
   ·intro hb
    refine af2 b (by omega) (fun s hs => (h1 s hs).1 ?_) fun s hs => (h1 s hs).2 ?_
    ·have := J8 hs; omega
    have := J8 hs; omega
   intro hb
   refine af2 e (by omega) (fun s hs => (h2 s hs).1 ?_) fun s hs => (h2 s hs).2 ?_
   ·have := J8 hs; omega
   have := J8 hs; omega) s
theorem aT4 (p : d8) (hb : p.size <= 1048576) : i8.ok Tryd.prog ⟨73, [pA 0], pS p, pS p ++ oP p, oA 3⟩ := by
 refine H7 15 Tryd.func73 [dI p.vars, dI p.arrays, dT p.body] [(0, pA 0)] fun G => ?_
 have hb1 : p.vars.length <= 1048576 /\ p.arrays.length <= 1048576 /\ s6 p.body <= 1048576 := by unfold d8.size at hb; omega
 refine wp_seq (l7 G e5 [0, 1, 2, 3, 11] [dI p.vars, dI p.arrays, dT p.body, .box (pL 0), .box [.v (.slice none 0 0), .v (.slice none 0 0), .v (.slice none 0 0)]] [(1, .ptr 3 0), (2, .ptr 4 0)] fun G => b0 (wp_seq (K8 G (w7 10 [2] (aY7 p.body (by omega))) [0, 0, 2, 7, 0, 0, 32, 127, 0, 256, 1023, 2047, 4095] [0, 1, 2, 4, 29, 61, 85] [dI p.vars, dI p.arrays, dT p.body, .box [.ref 4, .ref 5, .tref 6], .row 3 (D.ints ([] ++ p.vars)), .row 3 (D.ints ([] ++ p.arrays)), .tree (D.stmts p.body)] [(2, .ptr 3 0)] (aP ((0 : Nat) + p.vars.length) 8 (aP ((0 : Nat) + p.arrays.length) 8 [])) (aK (by omega) (aK (by omega) bh8)) fun G => b0 (wp_ret ?_)))); exact O1 G [0, 1, 2, 4, 5, 6]
section
variable {nv na d : Nat} {e : b6}
end
section
variable {vs ars : List Int} {d : Nat} {e : b6}
end
section
variable {nv na : Nat} {s : b7}
variable (h : D0 nv na s = true)
include h
end
section
variable {p : d8} {s : b7} {pc : Int} {strict : Bool} {x : Int}
end
section
variable {p : d8} {strict : Bool} {d c : Nat} {pc : Int} {s : b7}
end
section
variable {p : d8} {strict : Bool}
end
section
variable {p : d8} {s : b7} {cx : Int}
end
section
variable {p : d8} {s : b7}
end
section
variable {R : b7 × Int -> Int} {c a : Int} {n : Nat} {x : b7 × Int}
end
section
variable {R : b7 × Int -> Int} {p : d8} {d : Nat} {cx : Int} {ss : List b7} {c b : Int} {n k : Nat}
end
abbrev Lab : Type := List Int × List Int
def bv (x : Int) : BitVec 64 := BitVec.ofInt 64 x
def leI (x y : Int) : Prop := bv x ||| bv y = bv y
theorem leI.refl (x : Int) : leI x x := BitVec.or_self
theorem leI.trans {x y z : Int} (h : leI x y) (k : leI y z) : leI x z := by
 unfold leI at *
 rw [<- k, <- BitVec.or_assoc, h]
def leP (q r : Lab) : Prop := (∀ i, leI (q.1.getD i 0) (r.1.getD i 0)) /\ ∀ i, leI (q.2.getD i 0) (r.2.getD i 0)
def shP (q r : Lab) : Prop := r.1.length = q.1.length /\ r.2.length = q.2.length
theorem leP.refl (q : Lab) : leP q q := ⟨fun _ => leI.refl _, fun _ => leI.refl _⟩
theorem leP.trans {q r s : Lab} (h : leP q r) (k : leP r s) : leP q s := ⟨fun i => (h.1 i).trans (k.1 i), fun i => (h.2 i).trans (k.2 i)⟩
theorem shP.refl (q : Lab) : shP q q := ⟨rfl, rfl⟩
theorem shP.trans {q r s : Lab} (h : shP q r) (k : shP r s) : shP q s := ⟨k.1.trans h.1, k.2.trans h.2⟩
theorem shP.symm {q r : Lab} (h : shP q r) : shP r q := ⟨h.1.symm, h.2.symm⟩
section
variable {b : Bool} {d : Nat} {cx : Int} {q r : Lab} {ss : List b7}
end
section
variable {a b : b6} {k : Nat}
end
section
variable {s t : b7} {l m : List b7} {k : Nat}
end
theorem aJ8 (vs ars : List Int) (b : List b7) (hb : vs.length + ars.length + s6 b <= 1048576) : i8.ok Tryd.prog ⟨73, [pA 0], [dI vs, dI ars, dT b], [dI vs, dI ars, dT b, .row 3 (.ints vs), .row 3 (.ints ars), .tree (.stmts b)], oA 3⟩ := aT4 ⟨vs, ars, b⟩ hb
section
variable {vs ars : List Int} {cx : Int} {s : b7} {d : Nat} {b : Bool}
section
variable {nv na d k : Nat} {ss : List b7} {q : Lab} {cx : Int}
end
end
section
variable {p : d8} {q : Lab} {b : List b7} {X : Lab}
end
abbrev O2 : List Int := [3] ++ ([4] ++ ([2] ++ ([5] ++ [])))
abbrev viL : List Int := [0] ++ ([1] ++ ([0] ++ ([1] ++ ([2] ++ ([3] ++ [])))))
abbrev M6 : List Int := [1] ++ ([2] ++ ([0] ++ ([1] ++ [])))
abbrev aiL : List Int := [0] ++ ([1] ++ ([0] ++ ([1] ++ ([3] ++ []))))
abbrev nbL : List Int := [2] ++ ([3] ++ ([1] ++ ([4] ++ [])))
def U4 (b : List UInt8) (l : List Int) (n : Nat) (k : Int) : List Int := (bi0 n).map fun (i : Nat) => nm b (k + (i : Int)) l
theorem Q8 (b : List UInt8) (l : List Int) (n : Nat) (k : Int) : (U4 b l n k).length = n := by simp [U4]
theorem aO9 (b : List UInt8) (l : List Int) (n : Nat) (k : Int) : U4 b l (n + 1) k = U4 b l n k ++ [nm b (k + (n : Int)) l] := by
 unfold U4; rw [List.range_succ, List.map_append]; rfl
def A2 (b : List UInt8) (k : Int) : Int := k + 1 + nm b k O2
def W8 (b : List UInt8) (k : Int) : Int := A2 b k + 1 + nm b (A2 b k) M6
def Q1 (b : List UInt8) (k : Int) : List Int := U4 b viL (nm b k O2).toNat (k + 1)
def asD (b : List UInt8) (k : Int) : List Int := U4 b aiL (nm b (A2 b k) M6).toNat (A2 b k + 1)
def bdD (b : List UInt8) (k : Int) : List b7 × Int := y8 (s4 b (Q1 b k).length (asD b k).length 3) (nm b (W8 b k) nbL).toNat (W8 b k + 1)
def rwD (b : List UInt8) (k : Int) : d8 := ⟨Q1 b k, asD b k, (bdD b k).1⟩
def fbP : d8 := ⟨[0, 1], [], [⟨1, 1, noE, ⟨2, 0, []⟩, 0, [], []⟩]⟩
def pgD (b : List UInt8) (k : Int) : d8 := if w5 (rwD b k) = true then rwD b k else fbP
section
variable (b : List UInt8) {k : Int}
theorem a32 (hk : 0 <= k) (hk2 : k <= 1000000000) : 0 <= nm b k O2 /\ nm b k O2 <= 5 := al0 b (by simp) (by simp) hk hk2
theorem a83 (hk : 0 <= k) (hk2 : k <= 1000000000) : 0 <= nm b k nbL /\ nm b k nbL <= 4 := al0 b (by simp) (by simp) hk hk2
theorem a35 (hk : 0 <= k) (hk2 : k <= 1000000000) : 0 <= nm b k M6 /\ nm b k M6 <= 2 := al0 b (by simp) (by simp) hk hk2
theorem aQ3 (hk : 0 <= k) (hk2 : k <= 10000000) : k + 1 <= A2 b k /\ A2 b k <= k + 6 := by
 have := a32 b hk (by omega); unfold A2; omega
theorem aQ2 (hk : 0 <= k) (hk2 : k <= 10000000) : k + 2 <= W8 b k /\ W8 b k <= k + 9 := by
 have h1 := aQ3 b hk hk2
 have := a35 b (k := A2 b k) (by omega) (by omega); unfold W8; omega
theorem cS3 : cS 3 = 34170 /\ cS 2 = 8442 := by decide
theorem bf2 (nv na : Nat) : Drw (s4 b nv na 3) 34170 := fun j h1 h2 => by
 have e := cS3.1
 have h3 := as2 b nv na 3 j h1 (by omega)
 have h4 := ay4 b nv na 3 j h1 (by omega)
 omega
theorem aT7 (hk : 0 <= k) (hk2 : k <= 10000000) : W8 b k <= (bdD b k).2 /\ (bdD b k).2 <= k + 150000 /\ s6 (bdD b k).1 <= 150000 := by
 have h1 := aQ2 b hk hk2
 have h2 := a83 b (k := W8 b k) (by omega) (by omega)
 have h3 := ap3 (f := s4 b (Q1 b k).length (asD b k).length 3) (by omega) (bf2 b _ _) (nm b (W8 b k) nbL).toNat (W8 b k + 1) (by omega) (by omega)
 unfold bdD
 omega
theorem aL7 (hk : 0 <= k) (hk2 : k <= 10000000) : (Q1 b k).length <= 5 := by
 have := a32 b hk (by omega); unfold Q1; rw [Q8]; omega
theorem aT8 (hk : 0 <= k) (hk2 : k <= 10000000) : (asD b k).length <= 2 := by
 have h1 := aQ3 b hk hk2
 have := a35 b (k := A2 b k) (by omega) (by omega); unfold asD; rw [Q8]; omega
theorem a27 (hk : 0 <= k) (hk2 : k <= 10000000) : (pgD b k).size <= 160000 := by
 have h1 := aT7 b hk hk2
 have h2 := aL7 b hk hk2
 have h3 := aT8 b hk hk2
 unfold pgD; split
 ·show (Q1 b k).length + (asD b k).length + s6 (bdD b k).1 <= 160000
  omega
 decide
end
abbrev m2L : List Int := [0] ++ ([6] ++ ([1] ++ ([5] ++ ([2] ++ []))))
abbrev m3L : List Int := [-1] ++ ([12] ++ ([1] ++ ([9223372036854775807] ++ [])))
abbrev m4L : List Int := [-1] ++ ([256] ++ ([12] ++ ([1] ++ [])))
abbrev m5L : List Int := [1] ++ ([4] ++ ([-1] ++ ([2] ++ [])))
def kdS (s : b7) (x : Int) : b7 := ⟨x, s.target, s.index, s.value, s.count, s.body, s.els⟩
def tgS (s : b7) (x : Int) : b7 := ⟨s.kind, x, s.index, s.value, s.count, s.body, s.els⟩
def vvS (s : b7) (x : Int) : b7 := ⟨s.kind, s.target, s.index, ⟨s.value.kind, x, s.value.kids⟩, s.count, s.body, s.els⟩
def ctS (s : b7) (x : Int) : b7 := ⟨s.kind, s.target, s.index, s.value, x, s.body, s.els⟩
def mtD (b : List UInt8) (p : d8) (k : Int) : d8 × Int :=
 if pk b k 60 = 0 then (if 0 < p.vars.length then (⟨p.vars.set 0 (l1D b (k + 1)), p.arrays, p.body⟩, k + 1 + 2) else (p, k + 1))
 else if pk b k 60 = 1 then (⟨p.vars ++ bh1 (13 - p.vars.length) 1, p.arrays, p.body⟩, k + 1)
 else if pk b k 60 = 2 then (if 0 < p.body.length then (⟨p.vars, p.arrays, p.body.set 0 (kdS (p.body.getD 0 bf6) (nm b (k + 1) m2L))⟩, k + 1 + 1) else (p, k + 1))
 else if pk b k 60 = 3 then (if 0 < p.body.length then (⟨p.vars, p.arrays, p.body.set ((p.body.length : Int) - 1).toNat (tgS (p.body.getD ((p.body.length : Int) - 1).toNat bf6) (nm b (k + 1) m3L))⟩, k + 1 + 1) else (p, k + 1))
 else if pk b k 60 = 4 then (if 0 < p.body.length then (⟨p.vars, p.arrays, p.body.set 0 (vvS (p.body.getD 0 bf6) (nm b (k + 1) m4L))⟩, k + 1 + 1) else (p, k + 1))
 else if pk b k 60 = 5 then (if 0 < p.body.length then (⟨p.vars, p.arrays, p.body.set 0 (ctS (p.body.getD 0 bf6) (nm b (k + 1) m5L))⟩, k + 1 + 1) else (p, k + 1))
 else if pk b k 60 = 6 then (⟨[], [], []⟩, k + 1)
 else (p, k + 1)
def bsD (c : List UInt8) : List UInt8 := c.take 2000
theorem bd3 {b : List UInt8} {j n : Int} (h : n < 1) : pk b j n = 0 := by unfold pk; rw [if_pos (.inl h)]
theorem bd2 {b : List UInt8} {j n : Int} (h : (b.length : Int) = 0) : pk b j n = 0 := by unfold pk; rw [if_pos (.inr (by omega))]
theorem bd1 {b : List UInt8} {j n : Int} (h : ¬ n < 1) (h1 : ¬ (b.length : Int) = 0) (h2 : j + 1 - 1 < b.length) : pk b j n = ((b.getD (j + 1 - 1).toNat 0).toNat : Int).tmod n := by
 unfold pk; rw [if_neg (by omega), if_pos (by omega), Int.add_sub_cancel]
theorem bc9 {b : List UInt8} {j n : Int} (h : ¬ n < 1) (h1 : ¬ (b.length : Int) = 0) (h2 : ¬ j + 1 - 1 < b.length) : pk b j n = (ax6 (pkX b (j + 1 - 1)) ((pkX b (j + 1 - 1)).tdiv 64)).tmod n := by
 unfold pk; rw [if_neg (by omega), if_neg (by omega), Int.add_sub_cancel]
theorem aI6 {x : Int} {n : Nat} (hx : 0 <= x) (hn : ¬ (n : Int) = 0) : 0 <= x.tmod n /\ x.tmod n < n /\ (x.tmod n).toNat < n := by
 have := ax8 (x := x) (n := n) hx (by omega); omega
theorem A6 (b : List UInt8) (j n : Int) (r0 : 0 <= j) (r1 : j <= 1000000000) : i8.ok Tryd.prog ⟨43, [.ptr 0 0, iA n], [.box [.ref 1, iA j], dY b], [.box [.ref 1, iA (j + 1)], dY b], iA (pk b j n)⟩ := by
  refine H7 99 Tryd.func43 [.box [.ref 1, iA j], dY b] [(0, .ptr 0 0), (1, iA n)] fun G => ?_; have hu1 := ar6 (b.getD ((j + 1 - 1).tmod b.length).toNat 0); have hu2 := ar6 (b.getD (((j + 1 - 1) * 7 + 3).tmod b.length).toNat 0); refine wp_seq (l6 G e5 [(4, iA 0)] fun G => b0 (wp_seq (rA1 G e5 [0, 1] [.box [.ref 1, iA (j + 1)], dY b] [(0, .ptr 0 0), (1, iA n), (4, iA 0)] [wO (j + 1)] (o1 (by omega)) fun G => b0 (wp_seq (wp_seq ?_))))); cases h0 : (decide (n < 1))
  ·
   have q0 := T1 h0; refine l6 G (E4 (fc h0 fz) (us [(3, 8, 0), (1009, 1009, 0)])) [(24, bA ((b.length : Int) == 0))] fun G => b0 (W2 G (fun h1 q1 => ?_) fun h1 q1 => ?_)
   ·
    refine wp_skip (b0 (wp_seq (M5 G e5 [(5, iA (j + 1 - 1))] [wO (j + 1 - 1)] (o1 (by omega)) fun G => b0 (wp_seq (wp_seq (l6 G e5 [(36, bA (decide (j + 1 - 1 < (b.length : Int))))] fun G => b0 (rcD G (fun h2 q2 => ?_) fun h2 q2 => ?_)))))))
    ·
     refine wp_skip (b0 (wp_seq (aO1 G e5 [0, 1, 3, 7, 0, 0, 32, 96, 224, 480, 1008, 2047, 4095, 8191, 16383, 0, 32768, 98304, 229376, 0, 524288, 1572864, 0, 4194304, 12582912, 29360128, 62914560, 133693440, 268402688, 536838144, 1073709056, 2147450880, 4294967295, 0, 8589934592, 34359738367, 0, 0, 137438953472, 412316860416, 962072674304, 2061584302080, 4329327034368, 8727373545472, 17592186044415, 35184372088831] [(6, iA (((b.getD ((j + 1 - 1).tmod (b.length : Int)).toNat 0).toNat : Int) * 131 + ((b.getD (((j + 1 - 1) * 7 + 3).tmod (b.length : Int)).toNat 0).toNat : Int) * 1117 + (j + 1 - 1) * 29 + (j + 1 - 1).tdiv (b.length : Int) * 53))] [(b.length : Int) ≠ 0, (0 : Int) <= (j + 1 - 1).tmod (b.length : Int), (j + 1 - 1).tmod (b.length : Int) < b.length, ((j + 1 - 1).tmod (b.length : Int)).toNat < b.length, IntKind.i64.wrap ((b.getD ((j + 1 - 1).tmod (b.length : Int)).toNat (0 : UInt8)).toNat : Int) = ((b.getD ((j + 1 - 1).tmod (b.length : Int)).toNat (0 : UInt8)).toNat : Int), wO (((b.getD ((j + 1 - 1).tmod (b.length : Int)).toNat (0 : UInt8)).toNat : Int) * 131), wO ((j + 1 - 1) * 7), wO ((j + 1 - 1) * 7 + 3), (b.length : Int) ≠ 0, (0 : Int) <= ((j + 1 - 1) * 7 + 3).tmod (b.length : Int), ((j + 1 - 1) * 7 + 3).tmod (b.length : Int) < b.length, (((j + 1 - 1) * 7 + 3).tmod (b.length : Int)).toNat < b.length, IntKind.i64.wrap ((b.getD (((j + 1 - 1) * 7 + 3).tmod (b.length : Int)).toNat (0 : UInt8)).toNat : Int) = ((b.getD (((j + 1 - 1) * 7 + 3).tmod (b.length : Int)).toNat (0 : UInt8)).toNat : Int), wO (((b.getD (((j + 1 - 1) * 7 + 3).tmod (b.length : Int)).toNat (0 : UInt8)).toNat : Int) * 1117), wO (((b.getD ((j + 1 - 1).tmod (b.length : Int)).toNat (0 : UInt8)).toNat : Int) * 131 + ((b.getD (((j + 1 - 1) * 7 + 3).tmod (b.length : Int)).toNat (0 : UInt8)).toNat : Int) * 1117), wO ((j + 1 - 1) * 29), wO (((b.getD ((j + 1 - 1).tmod (b.length : Int)).toNat (0 : UInt8)).toNat : Int) * 131 + ((b.getD (((j + 1 - 1) * 7 + 3).tmod (b.length : Int)).toNat (0 : UInt8)).toNat : Int) * 1117 + (j + 1 - 1) * 29), (b.length : Int) ≠ 0, wO ((j + 1 - 1).tdiv (b.length : Int)), wO ((j + 1 - 1).tdiv (b.length : Int) * 53), wO (((b.getD ((j + 1 - 1).tmod (b.length : Int)).toNat (0 : UInt8)).toNat : Int) * 131 + ((b.getD (((j + 1 - 1) * 7 + 3).tmod (b.length : Int)).toNat (0 : UInt8)).toNat : Int) * 1117 + (j + 1 - 1) * 29 + (j + 1 - 1).tdiv (b.length : Int) * 53)] ⟨(by assumption), ((aI6 (by omega) (by omega)).1), ((aI6 (by omega) (by omega)).2.1), ((aI6 (by omega) (by omega)).2.2), (w64 (by omega) (by omega)), (oW (by omega)), (oW (by omega)), (oW (by omega)), (by assumption), ((aI6 (by omega) (by omega)).1), ((aI6 (by omega) (by omega)).2.1), ((aI6 (by omega) (by omega)).2.2), (w64 (by omega) (by omega)), (oW (by omega)), (oW (by omega)), (oW (by omega)), (oW (by omega)), (by assumption), (by have := au0 (b := b) (k := j + 1 - 1) (by omega) (by omega) (by omega); exact w64 (by unfold pkX at this; omega) (by unfold pkX at this; omega)), (by have := au0 (b := b) (k := j + 1 - 1) (by omega) (by omega) (by omega); exact w64 (by unfold pkX at this; omega) (by unfold pkX at this; omega)), (by have := au0 (b := b) (k := j + 1 - 1) (by omega) (by omega) (by omega); exact w64 (by unfold pkX at this; omega) (by unfold pkX at this; omega)), bh8⟩ fun G => ?_)))
     refine b0 (wp_seq (M5 G e5 [(6, iA (ax6 (((b.getD ((j + 1 - 1).tmod (b.length : Int)).toNat 0).toNat : Int) * 131 + ((b.getD (((j + 1 - 1) * 7 + 3).tmod (b.length : Int)).toNat 0).toNat : Int) * 1117 + (j + 1 - 1) * 29 + (j + 1 - 1).tdiv (b.length : Int) * 53) ((((b.getD ((j + 1 - 1).tmod (b.length : Int)).toNat 0).toNat : Int) * 131 + ((b.getD (((j + 1 - 1) * 7 + 3).tmod (b.length : Int)).toNat 0).toNat : Int) * 1117 + (j + 1 - 1) * 29 + (j + 1 - 1).tdiv (b.length : Int) * 53).tdiv 64)))] [(64 : Int) ≠ 0, wO ((((b.getD ((j + 1 - 1).tmod (b.length : Int)).toNat (0 : UInt8)).toNat : Int) * 131 + ((b.getD (((j + 1 - 1) * 7 + 3).tmod (b.length : Int)).toNat (0 : UInt8)).toNat : Int) * 1117 + (j + 1 - 1) * 29 + (j + 1 - 1).tdiv (b.length : Int) * 53).tdiv (64 : Int))] ⟨(by omega), (by have := a04 (b := b) (k := j + 1 - 1) (by omega) (by omega) (by omega); exact w64 (by unfold pkX at this; omega) (by unfold pkX at this; omega)), bh8⟩ fun G => b0 (wp_seq (M5 G e5 [(4, iA ((ax6 (((b.getD ((j + 1 - 1).tmod (b.length : Int)).toNat 0).toNat : Int) * 131 + ((b.getD (((j + 1 - 1) * 7 + 3).tmod (b.length : Int)).toNat 0).toNat : Int) * 1117 + (j + 1 - 1) * 29 + (j + 1 - 1).tdiv (b.length : Int) * 53) ((((b.getD ((j + 1 - 1).tmod (b.length : Int)).toNat 0).toNat : Int) * 131 + ((b.getD (((j + 1 - 1) * 7 + 3).tmod (b.length : Int)).toNat 0).toNat : Int) * 1117 + (j + 1 - 1) * 29 + (j + 1 - 1).tdiv (b.length : Int) * 53).tdiv 64)).tmod n))] [n ≠ 0] ⟨(by omega), bh8⟩ fun G => b0 (wp_ret ?_))))); exact rxI ((ax6 (((b.getD ((j + 1 - 1).tmod (b.length : Int)).toNat 0).toNat : Int) * 131 + ((b.getD (((j + 1 - 1) * 7 + 3).tmod (b.length : Int)).toNat 0).toNat : Int) * 1117 + (j + 1 - 1) * 29 + (j + 1 - 1).tdiv (b.length : Int) * 53) ((((b.getD ((j + 1 - 1).tmod (b.length : Int)).toNat 0).toNat : Int) * 131 + ((b.getD (((j + 1 - 1) * 7 + 3).tmod (b.length : Int)).toNat 0).toNat : Int) * 1117 + (j + 1 - 1) * 29 + (j + 1 - 1).tdiv (b.length : Int) * 53).tdiv 64)).tmod n) G [0, 1] (bc9 (by omega) (by omega) (by omega))
    refine wp_seq (M5 G e5 [(4, iA (((b.getD (j + 1 - 1).toNat 0).toNat : Int).tmod n))] (iX (j + 1 - 1) ((j + 1 - 1).toNat) b.length ((IntKind.i64.wrap ((b.getD (j + 1 - 1).toNat (0 : UInt8)).toNat : Int) = ((b.getD (j + 1 - 1).toNat (0 : UInt8)).toNat : Int)) :: ((n ≠ 0) :: []))) (iK (by omega) ⟨(by have := ar6 (b.getD (j + 1 - 1).toNat 0); exact w64 (by omega) (by omega)), ⟨(by omega), bh8⟩⟩) fun G => b0 (wp_ret (k8 ?_))); exact rxI (((b.getD (j + 1 - 1).toNat 0).toNat : Int).tmod n) G [0, 1] (bd1 (by omega) (by omega) (by omega))
   refine wp_seq (l6 G e5 [] fun G => b0 (wp_ret (k8 ?_))); exact rxI 0 G [0, 1] (bd2 (by omega))
  have q0 := T0 h0; refine l6 G (E4 (fc h0 fz) (us [(3, 8, 0), (1009, 1009, 0)])) [(24, bA true)] fun G => b0 (rT G true (by kernel_rfl) (wp_seq (l6 G e5 [] fun G => b0 (wp_ret (k8 ?_))))); exact rxI 0 G [0, 1] (bd3 (by omega))
theorem D2 (b : List UInt8) (j : Int) (l : List Int) (hl : l ≠ []) (r0 : 0 <= j) (r1 : j <= 1000000000) : i8.ok Tryd.prog ⟨60, [.ptr 0 0, .ref 2], [.box [.ref 1, iA j], dY b, dI l], [.box [.ref 1, iA (j + 1)], dY b, dI l], iA (nm b j l)⟩ := by
 refine H7 12 Tryd.func60 [.box [.ref 1, iA j], dY b, dI l] [(0, .ptr 0 0), (1, .ref 2)] fun G => ?_; refine wp_seq (l6 G e5 [(4, iA 0)] fun G => b0 (wp_seq (rA1 G (w7 4 [0, 1] (A6 b j ((l.length : Int)) (by assumption) (by assumption))) [0, 1, 2] [.box [.ref 1, iA (j + 1)], dY b, dI l] [(4, iA (l.getD (pk b j (l.length : Int)).toNat 0))] [(0 : Int) <= pk b j (l.length : Int), pk b j (l.length : Int) < l.length, (pk b j (l.length : Int)).toNat < l.length] ⟨((aF5 b r0 r1 hl).1), ((aF5 b r0 r1 hl).2.1), ((aF5 b r0 r1 hl).2.2), bh8⟩ fun G => b0 (wp_ret ?_)))); exact O1 G [0, 1, 2]
theorem aT5 (b : List UInt8) (j : Int) (r0 : 0 <= j) (r1 : j <= 900000000) : i8.ok Tryd.prog ⟨74, [.ptr 0 0], [.box [.ref 1, iA j], dY b], [.box [.ref 1, iA (j + 2)], dY b], iA (l1D b j)⟩ := by
 refine H7 11 Tryd.func74 [.box [.ref 1, iA j], dY b] [(0, .ptr 0 0)] fun G => ?_; refine wp_seq (l6 G e5 [(2, iA 0)] fun G => b0 (wp_seq (wp_seq (l7 G (w7 1 [0, 1] (A6 b j 12 (by assumption) (by omega))) [0, 1] [.box [.ref 1, iA (j + 1)], dY b] [(0, .ptr 0 0), (2, iA 0), (5, bA (pk b j 12 == 0))] fun G => b0 (W2 G (fun h0 q0 => ?_) fun h0 q0 => ?_)))))
 ·refine wp_skip (b0 (wp_seq (l7 G (w7 1 [0, 1] (A6 b (j + 1) 4 (by omega) (by omega))) [0, 1] [.box [.ref 1, iA (j + 1 + 1)], dY b] [(2, iA (pk b (j + 1) 4))] fun G => b0 (wp_ret ?_)))); exact rxI (pk b (j + 1) 4) G [0, 1] (by unfold l1D; rw [if_neg (by omega)]; done) (by show _ = mR [0, 1] [.box [.ref 1, iA (j + 2)], dY b]; have e1 : (j + 2 : Int) = (j + 1 + 1) := (by omega); (first | rw [e1] | simp only [e1]) <;> rfl)
 refine wp_seq (l7 G (w7 2 [0, 1, 10] (i8.lend (D2 b (j + 1) l1L (by simp [h0]) (by omega) (by omega)) [.no, .no, .row 3])) [0, 1] [.box [.ref 1, iA (j + 1 + 1)], dY b] [(0, .ptr 0 0), (2, iA (nm b (j + 1) l1L))] fun G => b0 (wp_ret (k8 ?_))); exact rxI (nm b (j + 1) l1L) G [0, 1] (by unfold l1D; rw [if_pos (by omega)]; done) (by show _ = mR [0, 1] [.box [.ref 1, iA (j + 2)], dY b]; have e1 : (j + 2 : Int) = (j + 1 + 1) := (by omega); (first | rw [e1] | simp only [e1]) <;> rfl)
theorem aC2 (c : List UInt8) (hc : c.length <= 2000) : i8.ok Tryd.prog ⟨41, [.ref 0], [dY c], [dY c, .box [.ref 0, iA 0]], .ptr 1 0⟩ := by
 refine H7 11 Tryd.func41 [dY c] [(0, .ref 0)] fun G => ?_; refine wp_seq (l6 G e5 [(2, .v (.pointer none))] fun G => b0 (wp_seq (wp_seq (J4 G e5 [(0, .ref 0), (2, .v (.pointer none)), (5, bA (decide ((c.length : Int) > 2000)))] fun G => b0 ?_)))); cases h0 : (decide ((c.length : Int) > 2000))
 ·have q0 := T1 h0; refine rF G _ h0 (wp_skip (b0 (wp_seq (l7 G e5 [0, 17] [dY c, .box [.ref 0, iA 0]] [(2, .ptr 1 0)] fun G => b0 (wp_ret ?_))))); exact O1 G [0, 1]
 have q0 := T0 h0; exact False.elim (by omega)
theorem aC1 (c : List UInt8) (hc : 2000 < c.length) : i8.ok Tryd.prog ⟨41, [.ref 0], [dY c], [dY c, .box [.ref 2, iA 0], dY ((c.take 2000).drop 0)], .ptr 1 0⟩ := by
 refine H7 11 Tryd.func41 [dY c] [(0, .ref 0)] fun G => ?_; refine wp_seq (l6 G e5 [(2, .v (.pointer none))] fun G => b0 (wp_seq (wp_seq (J4 G e5 [(0, .ref 0), (2, .v (.pointer none)), (5, bA (decide ((c.length : Int) > 2000)))] fun G => b0 ?_)))); cases h0 : (decide ((c.length : Int) > 2000))
 ·have q0 := T1 h0; exact False.elim (by omega)
 have q0 := T0 h0; refine rT G _ h0 (rA1 G e5 [0, 9] [dY c, dY (List.drop 0 (bh0 (Int.toNat 2000) c))] [(0, .ref 1), (2, .v (.pointer none))] [(0 : Int) <= 2000, (2000 : Int) <= c.length] ⟨(by omega), (by omega), bh8⟩ fun G => b0 (wp_seq (l7 G e5 [0, 1, 18] [dY c, dY (List.drop 0 (bh0 (Int.toNat 2000) c)), .box [.ref 1, iA 0]] [(2, .ptr 2 0)] fun G => b0 (wp_ret ?_)))); exact O1 G [0, 2, 1]
abbrev dwS (b : List UInt8) (j : Int) (vs ars : List Int) (bd : List b7) : List It := [.box [.ref 1, iA j], dY b, dI vs, dI ars, dT bd]
abbrev exO (e : b6) : List It := [.tree (.exprs e.kids)]
abbrev exA (e : b6) (r : Nat) : AV := .agg [iA e.kind, iA e.value, .tref r]
theorem ba6 {b : List UInt8} {nv j : Int} (h : pk b j 3 = 0) : j9 b nv j = ⟨1, nm b (j + 1) atL, []⟩ := if_pos h
theorem ba5 {b : List UInt8} {nv j : Int} (h : ¬ pk b j 3 = 0) : j9 b nv j = ⟨2, pk b (j + 1) nv, []⟩ := if_neg h
theorem aa2 (b : List UInt8) (j : Int) (vs ars : List Int) (bd : List b7) (r0 : 0 <= j) (r1 : j <= 900000000) : i8.ok Tryd.prog ⟨85, [.ptr 0 0, pA 2], dwS b j vs ars bd, dwS b (j + 2) vs ars bd ++ exO (j9 b vs.length j), exA (j9 b vs.length j) 5⟩ := by
 refine H7 18 Tryd.func85 [.box [.ref 1, iA j], dY b, dI vs, dI ars, dT bd] [(0, .ptr 0 0), (1, pA 2)] fun G => ?_; refine wp_seq (l7 G e5 [0, 1, 2, 3, 4, 5, 13] [.box [.ref 1, iA j], dY b, dI vs, dI ars, dT bd, .box (pL 2), .box [iA 0, iA 0, .v (.slice none 0 0)]] [(0, .ptr 0 0), (3, .ptr 5 0), (4, .ptr 6 0)] fun G => b0 (wp_seq (wp_seq (l7 G (w7 1 [0, 1] (A6 b j 3 (by assumption) (by omega))) (rg 7) [.box [.ref 1, iA (j + 1)], dY b, dI vs, dI ars, dT bd, .box (pL 2), .box [iA 0, iA 0, .v (.slice none 0 0)]] [(0, .ptr 0 0), (3, .ptr 5 0), (4, .ptr 6 0), (7, bA (pk b j 3 == 0))] fun G => b0 (W2 G (fun h0 q0 => ?_) fun h0 q0 => ?_)))))
 ·refine wp_skip (b0 (wp_seq (l7 G (w7 4 [0, 1] (A6 b (j + 1) ((vs.length : Int)) (by omega) (by omega))) [0, 1, 2, 3, 4, 6] [.box [.ref 1, iA (j + 1 + 1)], dY b, dI vs, dI ars, dT bd, .box [iA 2, iA (pk b (j + 1) (vs.length : Int)), .v (.slice none 0 0)]] [(4, .ptr 5 0)] fun G => b0 (wp_ret ?_)))); obtain ⟨ρ, G⟩ := G.nilT 6 (.exprs []) [.box [.ref 1, iA (j + 1 + 1)], dY b, dI vs, dI ars, dT bd, .box [iA 2, iA (pk b (j + 1) (vs.length : Int)), .tref 6]] [(4, .ptr 5 0)]; exact rxv (.agg [iA 2, iA (pk b (j + 1) (vs.length : Int)), .tref 6]) G [0, 1, 2, 3, 4, 6] (by show _ = AV.ren (nth [0, 1, 2, 3, 4, 6]) (.agg [iA (j9 b (vs.length : Int) j).kind, iA (j9 b (vs.length : Int) j).value, .tref 5]); rw [ba5 (by omega)] <;> rfl) (by show _ = mR [0, 1, 2, 3, 4, 6] [.box [.ref 1, iA (j + 2)], dY b, dI vs, dI ars, dT bd, .tree (D.exprs (j9 b (vs.length : Int) j).kids)]; have e1 : (j + 2 : Int) = (j + 1 + 1) := (by omega); rw [e1, ba5 (by omega)] <;> rfl)
 refine wp_seq (l7 G (w7 2 [0, 1, 15] (i8.lend (D2 b (j + 1) atL (by simp [h0]) (by omega) (by omega)) [.no, .no, .row 3])) (rg 7) [.box [.ref 1, iA (j + 1 + 1)], dY b, dI vs, dI ars, dT bd, .box (pL 2), .box [iA 1, iA (nm b (j + 1) atL), .v (.slice none 0 0)]] [(0, .ptr 0 0), (3, .ptr 5 0), (4, .ptr 6 0)] fun G => b0 (wp_ret (k8 ?_))); obtain ⟨ρ, G⟩ := G.nilT 7 (.exprs []) [.box [.ref 1, iA (j + 1 + 1)], dY b, dI vs, dI ars, dT bd, .box (pL 2), .box [iA 1, iA (nm b (j + 1) atL), .tref 7]] [(0, .ptr 0 0), (3, .ptr 5 0), (4, .ptr 6 0)]; exact rxv (.agg [iA 1, iA (nm b (j + 1) atL), .tref 7]) G [0, 1, 2, 3, 4, 7] (by show _ = AV.ren (nth [0, 1, 2, 3, 4, 7]) (.agg [iA (j9 b (vs.length : Int) j).kind, iA (j9 b (vs.length : Int) j).value, .tref 5]); rw [ba6 (by omega)] <;> rfl) (by show _ = mR [0, 1, 2, 3, 4, 7] [.box [.ref 1, iA (j + 2)], dY b, dI vs, dI ars, dT bd, .tree (D.exprs (j9 b (vs.length : Int) j).kids)]; have e1 : (j + 2 : Int) = (j + 1 + 1) := (by omega); rw [e1, ba6 (by omega)] <;> rfl)
theorem aB9 (vs ars : List Int) (bd : List b7) (e : b6) : i8.ok Tryd.prog (I3 37 [pA 0, eA e 3] ([dI vs, dI ars, dT bd] ++ eS e) (bA (d9 vs.length ars.length e))) := A3 ⟨vs, ars, bd⟩ e
abbrev drC (b : List UInt8) (vs ars : List Int) (bd : List b7) (d : Nat) (j n : Int) : i8 := ⟨84, [.ptr 0 0, pA 2, iA n], dwS b j vs ars bd, dwS b (B5 b vs.length ars.length d j).2 vs ars bd ++ exO (B5 b vs.length ars.length d j).1, exA (B5 b vs.length ars.length d j).1 5⟩
section
variable {b : List UInt8} {nv na : Int} {d : Nat} {j : Int}
theorem a96 (h : d < 2) : B5 b nv na d j = (j9 b nv j, j + 2) := by
 match d, h with
 | 0, _ => rfl
 | 1, _ => simp [B5]
theorem a39 (h : 0 < d) (h1 : pk b j 4 = 0) : B5 b nv na (d + 1) j = (j9 b nv (j + 1), j + 3) := by rw [B5, if_neg (by omega), if_pos h1]
theorem aY1 (h : 0 < d) (h1 : ¬ pk b j 4 = 0) (h2 : nm b (j + 1) C9 = 3) (h3 : na = 0) : B5 b nv na (d + 1) j = (j9 b nv (j + 2), j + 4) := by rw [B5, if_neg (by omega), if_neg h1, if_pos h2, if_pos h3]
theorem aY0 (h : 0 < d) (h1 : ¬ pk b j 4 = 0) (h2 : nm b (j + 1) C9 = 3) (h3 : ¬ na = 0) : B5 b nv na (d + 1) j = (⟨3, pk b (j + 2) na, [j9 b nv (j + 3)]⟩, j + 5) := by rw [B5, if_neg (by omega), if_neg h1, if_pos h2, if_neg h3]
abbrev drK (b : List UInt8) (nv na : Int) (d : Nat) (j : Int) (k : Nat) : List b6 × Int := y8 (B5 b nv na d) k (j + 2)
theorem a95 (h : 0 < d) (h1 : ¬ pk b j 4 = 0) (h2 : ¬ nm b (j + 1) C9 = 3) {m : Int} (h3 : 0 <= m) (h4 : ¬ m > 0) : B5 b nv na (d + 1) j = (⟨nm b (j + 1) C9, 0, (drK b nv na d j (e7 (nm b (j + 1) C9) - m).toNat).1⟩, (drK b nv na d j (e7 (nm b (j + 1) C9) - m).toNat).2) := by
 have e : m = 0 := by omega
 rw [e, Int.sub_zero, B5, if_neg (by omega), if_neg h1, if_neg h2]
theorem aG7 {x m : Int} (h3 : m > 0) (h4 : m <= x) : drK b nv na d j (x - (m - 1)).toNat = ((drK b nv na d j (x - m).toNat).1 ++ [(B5 b nv na d (drK b nv na d j (x - m).toNat).2).1], (B5 b nv na d (drK b nv na d j (x - m).toNat).2).2) := by
 rw [show (x - (m - 1)).toNat = (x - m).toNat + 1 by omega]; rfl
theorem ba7 (r0 : 0 <= j) (r1 : j <= 900000000) : 0 <= e7 (nm b (j + 1) C9) /\ e7 (nm b (j + 1) C9) <= 3 := by
 have h := ao4 b (k := j + 1) (l := C9) (by omega) (by omega) (by simp)
 simp only [bh9, bj0, List.not_mem_nil, or_false] at h
 rcases h with h | h | h | h | h | h | h | h | h <;> rw [h] <;> decide
theorem a98 (r0 : 0 <= j) {k : Nat} (hk : k <= 3) : j + 2 <= (drK b nv na d j k).2 /\ (drK b nv na d j k).2 <= j + 2 + 3 * cE d := by
 have hc := ai1 d
 have h := aS1 (f := B5 b nv na d) (c := cE d) (m := 3) (by omega) k (j + 2) hk fun i _ _ => av6 b nv na d i
 have h4 : (k : Int) * cE d <= 3 * cE d := bj7 (by omega) (by omega)
 unfold drK; omega
theorem a97 {x m : Int} (r0 : 0 <= j) (h3 : m > 0) (h4 : m <= x) (h5 : x <= 3) (r1 : j + cE (d + 1) <= 800000000) : (drK b nv na d j (x - m).toNat).2 + cE d <= 800000000 := by
 have hc := ai1 d
 have hce : cE (d + 1) = 5 + 3 * cE d := rfl
 have hm : (x - m).toNat <= 2 := by omega
 have h := aS1 (f := B5 b nv na d) (c := cE d) (m := 2) (by omega) (x - m).toNat (j + 2) hm fun i _ _ => av6 b nv na d i
 have h4 : ((x - m).toNat : Int) * cE d <= 2 * cE d := bj7 (by omega) (by omega)
 unfold drK; omega
end
theorem aE4 (b : List UInt8) (vs ars : List Int) (bd : List b7) (d : Nat) (hd : d < 2) (j n : Int) (hn : n = d) (r0 : 0 <= j) (r1 : j <= 900000000) : i8.ok Tryd.prog (drC b vs ars bd d j n) := by
 refine H7 62 Tryd.func84 [.box [.ref 1, iA j], dY b, dI vs, dI ars, dT bd] [(0, .ptr 0 0), (1, pA 2), (2, iA n)] fun G => ?_; refine wp_seq (l7 G e5 [0, 1, 2, 3, 4, 5, 13] [.box [.ref 1, iA j], dY b, dI vs, dI ars, dT bd, .box (pL 2), .box [iA 0, iA 0, .v (.slice none 0 0)]] [(0, .ptr 0 0), (2, iA n), (4, .ptr 5 0), (6, .ptr 6 0)] fun G => b0 (wp_seq (wp_seq ?_))); cases h0 : (decide (n < 2))
 ·have q0 := T1 h0; exact False.elim (by omega)
 have q0 := T0 h0; refine l6 G (E4 (fc h0 fz) [(3, 0), (4, 0), (5, 0), (1006, 0)]) [(16, bA true)] fun G => b0 (rT G true (by kernel_rfl) (wp_seq (l7 G (w7 2 (rg 5) (aa2 b j vs ars bd (by assumption) (by assumption))) [0, 1, 2, 3, 4, 5, 6, 23] [.box [.ref 1, iA (j + 2)], dY b, dI vs, dI ars, dT bd, .box (pL 2), .box [iA (j9 b (vs.length : Int) j).kind, iA (j9 b (vs.length : Int) j).value, .tref 7], .tree (D.exprs (j9 b (vs.length : Int) j).kids)] [(0, .ptr 0 0), (2, iA n), (4, .ptr 5 0), (6, .ptr 6 0)] fun G => b0 (wp_ret (k8 ?_))))); exact rxv (.agg [iA (j9 b (vs.length : Int) j).kind, iA (j9 b (vs.length : Int) j).value, .tref 7]) G [0, 1, 2, 3, 4, 7] (by show _ = AV.ren (nth [0, 1, 2, 3, 4, 7]) (.agg [iA (B5 b (vs.length : Int) (ars.length : Int) d j).fst.kind, iA (B5 b (vs.length : Int) (ars.length : Int) d j).fst.value, .tref 5]); rw [a96 hd] <;> rfl) (by show _ = mR [0, 1, 2, 3, 4, 7] [.box [.ref 1, iA (B5 b (vs.length : Int) (ars.length : Int) d j).snd], dY b, dI vs, dI ars, dT bd, .tree (D.exprs (B5 b (vs.length : Int) (ars.length : Int) d j).fst.kids)]; rw [a96 hd] <;> rfl)
abbrev ae0 (b : List UInt8) (vs : List Int) (ars : List Int) (d : Nat) (j : Int) (k : Int) := drK b (vs.length : Int) (ars.length : Int) d j (e7 (nm b (j + 1) C9) - k).toNat
abbrev ab1 (b : List UInt8) (vs : List Int) (ars : List Int) (d : Nat) (j : Int) : AV := (.agg [iA (B5 b (vs.length : Int) (ars.length : Int) (d + 1) j).fst.kind, iA (B5 b (vs.length : Int) (ars.length : Int) (d + 1) j).fst.value, .tref 5])
abbrev ab0 (b : List UInt8) (vs : List Int) (ars : List Int) (bd : List b7) (d : Nat) (j : Int) : List It := [.box [.ref 1, iA (B5 b (vs.length : Int) (ars.length : Int) (d + 1) j).snd], dY b, dI vs, dI ars, dT bd, .tree (D.exprs (B5 b (vs.length : Int) (ars.length : Int) (d + 1) j).fst.kids)]
abbrev ak3 : It := .box [iA 0, iA 0, .v (.slice none 0 0)]
abbrev N9 (n : Int) (r0 : List (Nat × AV)) : List (Nat × AV) := (0, .ptr 0 0) :: (2, iA n) :: (4, .ptr 5 0) :: (6, .ptr 6 0) :: r0
theorem aV6 (b : List UInt8) (vs ars : List Int) (bd : List b7) (d : Nat) (hd : 0 < d) (hd2 : d <= 100) (ih : ∀ (j n : Int), n = d -> 0 <= j -> j + cE d <= 800000000 -> i8.ok Tryd.prog (drC b vs ars bd d j n)) (j n : Int) (hn : n = ((d + 1 : Nat) : Int)) (r0 : 0 <= j) (r1 : j + cE (d + 1) <= 800000000) : i8.ok Tryd.prog (drC b vs ars bd (d + 1) j n) := by
  refine H7 62 Tryd.func84 [.box [.ref 1, iA j], dY b, dI vs, dI ars, dT bd] [(0, .ptr 0 0), (1, pA 2), (2, iA n)] fun G => ?_; have hc := ai1 d; have hce : cE (d + 1) = 5 + 3 * cE d := rfl; have har := ba7 (b := b) (j := j) r0 (by omega); refine wp_seq (l7 G e5 [0, 1, 2, 3, 4, 5, 13] [.box [.ref 1, iA j], dY b, dI vs, dI ars, dT bd, .box (pL 2), ak3] (N9 n []) fun G => b0 (wp_seq (wp_seq ?_))); cases h0 : (decide (n < 2))
  ·
   have q0 := T1 h0; refine l7 G (x6 (n4 4 [0, 1] (A6 b j 4 (by assumption) (by omega)) x5) (fc h0 fz) [(3, 0), (4, 0), (5, 0), (1006, 0)]) (rg 7) [.box [.ref 1, iA (j + 1)], dY b, dI vs, dI ars, dT bd, .box (pL 2), ak3] (N9 n [(16, bA (pk b j 4 == 0))]) fun G => b0 (W2 G (fun h1 q1 => ?_) fun h1 q1 => ?_)
   ·
    refine wp_skip (b0 (wp_seq (l7 G (w7 2 [0, 1, 15] (i8.lend (D2 b (j + 1) C9 (by simp [h0, h1]) (by omega) (by omega)) [.no, .no, .row 3])) (rg 7) [.box [.ref 1, iA (j + 1 + 1)], dY b, dI vs, dI ars, dT bd, .box (pL 2), ak3] (N9 n [(7, iA (nm b (j + 1) C9))]) fun G => b0 (wp_seq (wp_seq (l6 G e5 [(24, bA (nm b (j + 1) C9 == 3))] fun G => b0 (W2 G (fun h2 q2 => ?_) fun h2 q2 => ?_)))))))
    ·
     refine wp_skip (b0 (wp_seq (l7 G e5 [0, 1, 2, 3, 4, 5, 6, 23] [.box [.ref 1, iA (j + 1 + 1)], dY b, dI vs, dI ars, dT bd, .box (pL 2), ak3, .box [iA (nm b (j + 1) C9), iA 0, .v (.slice none 0 0)]] (N9 n [(7, iA (nm b (j + 1) C9)), (8, .ptr 7 0)]) fun G => b0 (wp_seq (wp_seq (J4 G (w7 1 [] (R3 (nm b (j + 1) C9))) (N9 n [(8, .ptr 7 0), (9, iA (e7 (nm b (j + 1) C9)))]) fun G => b0 (wp_block ?_))))))); obtain ⟨ρ, G⟩ := G.nilT 8 (.exprs []) [.box [.ref 1, iA (j + 1 + 1)], dY b, dI vs, dI ars, dT bd, .box (pL 2), .box [iA 0, iA 0, .v (.slice none 0 0)], .box [iA (nm b (j + 1) C9), iA 0, .tref 8]] (N9 n [(8, .ptr 7 0), (9, iA (e7 (nm b (j + 1) C9)))]); replace G := G.as [.box [.ref 1, iA (drK b (vs.length : Int) (ars.length : Int) d j (e7 (nm b (j + 1) C9) - e7 (nm b (j + 1) C9)).toNat).snd], dY b, dI vs, dI ars, dT bd, .box (pL 2), .box [iA 0, iA 0, .v (.slice none 0 0)], .box [iA (nm b (j + 1) C9), iA 0, .tref 8], .tree (D.exprs (drK b (vs.length : Int) (ars.length : Int) d j (e7 (nm b (j + 1) C9) - e7 (nm b (j + 1) C9)).toNat).fst)] (N9 n [(8, .ptr 7 0), (9, iA (e7 (nm b (j + 1) C9)))]) (by have e1 : ((drK b (vs.length : Int) (ars.length : Int) d j (e7 (nm b (j + 1) C9) - e7 (nm b (j + 1) C9)).toNat).snd : Int) = (j + 1 + 1) := (by rw [Int.sub_self]; show j + 2 = j + 1 + 1; omega); have e2 : ((drK b (vs.length : Int) (ars.length : Int) d j (e7 (nm b (j + 1) C9) - e7 (nm b (j + 1) C9)).toNat).fst : List b6) = ([]) := (by rw [Int.sub_self]; rfl); (first | rw [e1, e2] | simp only [e1, e2]) <;> rfl) (by kernel_rfl); refine C3 (κ := Int) (fun k => 0 <= k /\ k <= e7 (nm b (j + 1) C9)) (fun k => k.toNat) (fun k => [.box [.ref 1, iA (drK b vs.length ars.length d j (e7 (nm b (j + 1) C9) - k).toNat).2], dY b, dI vs, dI ars, dT bd, .box (pL 2), .box [iA 0, iA 0, .v (.slice none 0 0)], .box [iA (nm b (j + 1) C9), iA 0, .tref 8], .tree (.exprs (drK b vs.length ars.length d j (e7 (nm b (j + 1) C9) - k).toNat).1)]) (fun k => [(0, .ptr 0 0), (2, iA n), (4, .ptr 5 0), (6, .ptr 6 0), (8, .ptr 7 0), (9, iA k)]) (e7 (nm b (j + 1) C9)) (by omega) (p9.at G _ _) ?_; clear G; intro k ρ a w hp G; replace G := p9.at G [.box [.ref 1, iA (ae0 b vs ars d j k).snd], dY b, dI vs, dI ars, dT bd, .box (pL 2), ak3, .box [iA (nm b (j + 1) C9), iA 0, .tref 8], .tree (D.exprs (ae0 b vs ars d j k).fst)] (N9 n [(8, .ptr 7 0), (9, iA k)]); have hkb := a98 (b := b) (nv := vs.length) (na := ars.length) (d := d) (j := j) r0 (k := (e7 (nm b (j + 1) C9) - k).toNat) (by omega); have hkl : (drK b vs.length ars.length d j (e7 (nm b (j + 1) C9) - k).toNat).1.length = (e7 (nm b (j + 1) C9) - k).toNat := ap4 _ _ _; refine wp_seq (wp_seq (l6 G e5 [(48, bA (decide (k > 0)))] fun G => b0 (rcD G (fun h4 q4 => ?_) fun h4 q4 => ?_)))
     · refine wp_exit (B7 (B7 (B6 (b0 (wp_seq (l7 G e5 [0, 1, 2, 3, 4, 6, 8] [.box [.ref 1, iA (ae0 b vs ars d j k).snd], dY b, dI vs, dI ars, dT bd, .box [iA (nm b (j + 1) C9), iA 0, .tref 6], .tree (D.exprs (ae0 b vs ars d j k).fst)] [(6, .ptr 5 0)] fun G => b0 (wp_ret ?_))))))); exact rxv (.agg [iA (nm b (j + 1) C9), iA 0, .tref 6]) G [0, 1, 2, 3, 4, 6] (by show _ = AV.ren (nth [0, 1, 2, 3, 4, 6]) (ab1 b vs ars d j); unfold ab1; rw [a95 (m := k) hd (by omega) (by omega) (by omega) (by omega)] <;> rfl) (by show _ = mR [0, 1, 2, 3, 4, 6] (ab0 b vs ars bd d j); unfold ab0; rw [a95 (m := k) hd (by omega) (by omega) (by omega) (by omega)] <;> rfl)
     refine wp_skip (b0 (wp_seq (wp_block (K8 G (w7 6 (rg 5) (ih ((drK b (vs.length : Int) (ars.length : Int) d j (e7 (nm b (j + 1) C9) - k).toNat).snd) (n - 1) (by omega) (by omega) (a97 (by omega) (by omega) (by omega) (by omega) r1))) [0, 1, 0, 0, 0, 16, 60, 124, 255, 511, 1023] [0, 1, 2, 3, 4, 5, 6, 7, 73] [.box [.ref 1, iA (B5 b (vs.length : Int) (ars.length : Int) d (ae0 b vs ars d j k).snd).snd], dY b, dI vs, dI ars, dT bd, .box (pL 2), ak3, .box [iA (nm b (j + 1) C9), iA 0, .tref 8], .tree (D.exprs ((ae0 b vs ars d j k).fst ++ [qzE (B5 b (vs.length : Int) (ars.length : Int) d (ae0 b vs ars d j k).snd).fst]))] (N9 n [(8, .ptr 7 0), (9, iA k)]) ((wO (n - 1)) :: (aP ((drK b (vs.length : Int) (ars.length : Int) d j (e7 (nm b (j + 1) C9) - k).toNat).fst.length + 1) 40 [])) ⟨oW (by omega), (aK (by omega) bh8)⟩ fun G => p8 (b0 (M5 G e5 [(9, iA (k - 1))] [wO (k - 1)] (o1 (by omega)) fun G => b0 ?_)))))); exact rxn G (k - 1) (by omega) (by omega) (rg 9) (by have e1 : ((drK b (vs.length : Int) (ars.length : Int) d j (e7 (nm b (j + 1) C9) - (k - 1)).toNat).snd : Int) = ((B5 b (vs.length : Int) (ars.length : Int) d (drK b (vs.length : Int) (ars.length : Int) d j (e7 (nm b (j + 1) C9) - k).toNat).snd).snd) := (by rw [aG7 (by omega) (by omega)]; done); have e2 : ((drK b (vs.length : Int) (ars.length : Int) d j (e7 (nm b (j + 1) C9) - (k - 1)).toNat).fst : List b6) = ((drK b (vs.length : Int) (ars.length : Int) d j (e7 (nm b (j + 1) C9) - k).toNat).fst ++ [qzE (B5 b (vs.length : Int) (ars.length : Int) d (drK b (vs.length : Int) (ars.length : Int) d j (e7 (nm b (j + 1) C9) - k).toNat).snd).fst]) := (by rw [aG7 (by omega) (by omega)]; (simp only [b6.eta]; done)); (first | rw [e1, e2] | simp only [e1, e2]) <;> rfl)
    refine wp_seq (wp_seq (l6 G e5 [(28, bA ((ars.length : Int) == 0))] fun G => b0 (W2 G (fun h3 q3 => ?_) fun h3 q3 => ?_)))
    · refine wp_skip (b0 (wp_seq (az3 G (x6 (n4 5 [0, 1] (A6 b (j + 1 + 1) ((ars.length : Int)) (by omega) (by omega)) (n4 8 (rg 5) (aa2 b (j + 1 + 1 + 1) vs ars bd (by omega) (by omega)) x5)) fz []) [0, 0, 0, 4, 12, 30, 0, 0, 254, 510, 1023, 2047] [0, 1, 2, 3, 4, 5, 6, 79] [.box [.ref 1, iA (j + 1 + 1 + 1 + 2)], dY b, dI vs, dI ars, dT bd, .box (pL 2), .box [iA (nm b (j + 1) C9), iA (pk b (j + 1 + 1) (ars.length : Int)), .tref 7], .tree (D.exprs [qzE (j9 b (vs.length : Int) (j + 1 + 1 + 1))])] (N9 n [(7, iA (nm b (j + 1) C9))]) fun G => b0 (wp_ret (k8 ?_))))); exact rxv (.agg [iA (nm b (j + 1) C9), iA (pk b (j + 1 + 1) (ars.length : Int)), .tref 7]) G [0, 1, 2, 3, 4, 7] (by show _ = AV.ren (nth [0, 1, 2, 3, 4, 7]) (ab1 b vs ars d j); unfold ab1; have e1 : ((B5 b (vs.length : Int) (ars.length : Int) (d + 1) j).fst.kind : Int) = (nm b (j + 1) C9) := (by rw [aY0 hd (by omega) (by omega) (by omega)]; (simp only [Int.add_assoc, Int.reduceAdd, b6.eta, b6.kids, b6.kind, b6.value]; omega)); have e2 : ((B5 b (vs.length : Int) (ars.length : Int) (d + 1) j).fst.value : Int) = (pk b (j + 1 + 1) (ars.length : Int)) := (by rw [aY0 hd (by omega) (by omega) (by omega)]; (simp only [Int.add_assoc, Int.reduceAdd, b6.eta, b6.kids, b6.kind, b6.value]; done)); (first | rw [e1, e2] | simp only [e1, e2]) <;> rfl) (by show _ = mR [0, 1, 2, 3, 4, 7] (ab0 b vs ars bd d j); unfold ab0; have e1 : ((B5 b (vs.length : Int) (ars.length : Int) (d + 1) j).snd : Int) = (j + 1 + 1 + 1 + 2) := (by rw [aY0 hd (by omega) (by omega) (by omega)]; (simp only [Int.add_assoc, Int.reduceAdd, b6.eta, b6.kids, b6.kind, b6.value]; done)); have e2 : ((B5 b (vs.length : Int) (ars.length : Int) (d + 1) j).fst.kids : List b6) = ([qzE (j9 b (vs.length : Int) (j + 1 + 1 + 1))]) := (by rw [aY0 hd (by omega) (by omega) (by omega)]; show [_] = _; simp only [Int.add_assoc, Int.reduceAdd, b6.eta]; done); (first | rw [e1, e2] | simp only [e1, e2]) <;> rfl)
    refine wp_seq (l7 G (w7 2 (rg 5) (aa2 b (j + 1 + 1) vs ars bd (by omega) (by omega))) [0, 1, 2, 3, 4, 5, 6, 23] [.box [.ref 1, iA (j + 1 + 1 + 2)], dY b, dI vs, dI ars, dT bd, .box (pL 2), .box [iA (j9 b (vs.length : Int) (j + 1 + 1)).kind, iA (j9 b (vs.length : Int) (j + 1 + 1)).value, .tref 7], .tree (D.exprs (j9 b (vs.length : Int) (j + 1 + 1)).kids)] (N9 n [(7, iA (nm b (j + 1) C9))]) fun G => b0 (wp_ret (k8 (k8 ?_)))); exact rxv (.agg [iA (j9 b (vs.length : Int) (j + 1 + 1)).kind, iA (j9 b (vs.length : Int) (j + 1 + 1)).value, .tref 7]) G [0, 1, 2, 3, 4, 7] (by show _ = AV.ren (nth [0, 1, 2, 3, 4, 7]) (ab1 b vs ars d j); unfold ab1; have e1 : ((B5 b (vs.length : Int) (ars.length : Int) (d + 1) j).fst.kind : Int) = ((j9 b (vs.length : Int) (j + 1 + 1)).kind) := (by rw [aY1 hd (by omega) (by omega) (by omega)]; (simp only [Int.add_assoc, Int.reduceAdd, b6.eta, b6.kids, b6.kind, b6.value]; done)); have e2 : ((B5 b (vs.length : Int) (ars.length : Int) (d + 1) j).fst.value : Int) = ((j9 b (vs.length : Int) (j + 1 + 1)).value) := (by rw [aY1 hd (by omega) (by omega) (by omega)]; (simp only [Int.add_assoc, Int.reduceAdd, b6.eta, b6.kids, b6.kind, b6.value]; done)); (first | rw [e1, e2] | simp only [e1, e2]) <;> rfl) (by show _ = mR [0, 1, 2, 3, 4, 7] (ab0 b vs ars bd d j); unfold ab0; have e1 : ((B5 b (vs.length : Int) (ars.length : Int) (d + 1) j).snd : Int) = (j + 1 + 1 + 2) := (by rw [aY1 hd (by omega) (by omega) (by omega)]; (simp only [Int.add_assoc, Int.reduceAdd, b6.eta, b6.kids, b6.kind, b6.value]; done)); have e2 : ((B5 b (vs.length : Int) (ars.length : Int) (d + 1) j).fst : b6) = (j9 b (vs.length : Int) (j + 1 + 1)) := (by rw [aY1 hd (by omega) (by omega) (by omega)]; (simp only [Int.add_assoc, Int.reduceAdd, b6.eta, b6.kids, b6.kind, b6.value]; done)); (first | rw [e1, e2] | simp only [e1, e2]) <;> rfl)
   refine wp_seq (l7 G (w7 2 (rg 5) (aa2 b (j + 1) vs ars bd (by omega) (by omega))) [0, 1, 2, 3, 4, 5, 6, 23] [.box [.ref 1, iA (j + 1 + 2)], dY b, dI vs, dI ars, dT bd, .box (pL 2), .box [iA (j9 b (vs.length : Int) (j + 1)).kind, iA (j9 b (vs.length : Int) (j + 1)).value, .tref 7], .tree (D.exprs (j9 b (vs.length : Int) (j + 1)).kids)] (N9 n []) fun G => b0 (wp_ret (k8 ?_))); exact rxv (.agg [iA (j9 b (vs.length : Int) (j + 1)).kind, iA (j9 b (vs.length : Int) (j + 1)).value, .tref 7]) G [0, 1, 2, 3, 4, 7] (by show _ = AV.ren (nth [0, 1, 2, 3, 4, 7]) (ab1 b vs ars d j); unfold ab1; rw [a39 hd (by omega)] <;> rfl) (by show _ = mR [0, 1, 2, 3, 4, 7] (ab0 b vs ars bd d j); unfold ab0; have e1 : ((B5 b (vs.length : Int) (ars.length : Int) (d + 1) j).snd : Int) = (j + 1 + 2) := (by rw [a39 hd (by omega)]; (simp only [Int.add_assoc, Int.reduceAdd, b6.eta, b6.kids, b6.kind, b6.value]; done)); rw [e1, a39 hd (by omega)] <;> rfl)
  have q0 := T0 h0; exact False.elim (by omega)
theorem aT6 (b : List UInt8) (vs ars : List Int) (bd : List b7) : ∀ (d : Nat) (j n : Int), d <= 100 -> n = d -> 0 <= j -> j + cE d <= 800000000 -> i8.ok Tryd.prog (drC b vs ars bd d j n)
 | 0, j, n, _, hn, r0, r1 => aE4 b vs ars bd 0 (by omega) j n hn r0 (by have := ai1 0; omega)
 | 1, j, n, _, hn, r0, r1 => aE4 b vs ars bd 1 (by omega) j n hn r0 (by have := ai1 1; omega)
 | d + 2, j, n, hd, hn, r0, r1 => aV6 b vs ars bd (d + 1) (by omega) (by omega) (fun j n => aT6 b vs ars bd (d + 1) j n (by omega)) j n hn r0 r1
abbrev smC (b : List UInt8) (vs ars : List Int) (bd : List b7) (j : Int) : i8 := ⟨59, [.ptr 0 0, pA 2], dwS b j vs ars bd, dwS b (m8 b vs.length ars.length j).2 vs ars bd ++ exO (m8 b vs.length ars.length j).1, exA (m8 b vs.length ars.length j).1 5⟩
section
variable {b : List UInt8} {nv na : Nat} {j : Int}
theorem a60 (h : d9 nv na (B5 b nv na (nm b j U5).toNat (j + 1)).1 = true) : m8 b nv na j = B5 b nv na (nm b j U5).toNat (j + 1) := if_pos h
theorem a59 (h : d9 nv na (B5 b nv na (nm b j U5).toNat (j + 1)).1 = false) : m8 b nv na j = (j9 b nv (B5 b nv na (nm b j U5).toNat (j + 1)).2, (B5 b nv na (nm b j U5).toNat (j + 1)).2 + 2) := if_neg (by rw [h]; decide)
theorem bb4 (r0 : 0 <= j) (r1 : j <= 700000000) : cE (nm b j U5).toNat <= 364 := cE4 (dp4 b r0 (by omega)).2.2
end
abbrev L4 (b : List UInt8) (vs : List Int) (ars : List Int) (j : Int) := B5 b (vs.length : Int) (ars.length : Int) (nm b j U5).toNat (j + 1)
theorem K4 (b : List UInt8) (vs ars : List Int) (bd : List b7) (j : Int) (r0 : 0 <= j) (r1 : j <= 700000000) : i8.ok Tryd.prog (smC b vs ars bd j) := by
 have hdr := fun (i n : Int) => aT6 b vs ars bd (nm b j U5).toNat i n (bg2 (dp4 b r0 (by omega)).2.2 (by omega))
 refine H7 19 Tryd.func59 [.box [.ref 1, iA j], dY b, dI vs, dI ars, dT bd] [(0, .ptr 0 0), (1, pA 2)] fun G => ?_; have hd4 := bb4 (b := b) r0 r1; have hdb := av6 b vs.length ars.length (nm b j U5).toNat (j + 1); refine wp_seq (l7 G e5 [0, 1, 2, 3, 4, 5, 13] [.box [.ref 1, iA j], dY b, dI vs, dI ars, dT bd, .box (pL 2), .box [iA 0, iA 0, .v (.slice none 0 0)]] [(0, .ptr 0 0), (3, .ptr 5 0), (4, .ptr 6 0)] fun G => b0 (wp_seq (az3 G (x6 (n4 4 [0, 1, 31] (i8.lend (D2 b j U5 (List.cons_ne_nil _ _) (by assumption) (by omega)) [.no, .no, .row 3]) (n4 5 (rg 5) (hdr (j + 1) (nm b j U5) (a40 b (by omega) (by omega)) (by omega) (by omega)) x5)) fz []) [0, 0, 0, 0, 12, 31, 0, 127] [0, 1, 2, 3, 4, 5, 6, 47, 55] [.box [.ref 1, iA (L4 b vs ars j).snd], dY b, dI vs, dI ars, dT bd, .box (pL 2), .box [iA 0, iA 0, .v (.slice none 0 0)], .tree (D.exprs (L4 b vs ars j).fst.kids), .box [iA (L4 b vs ars j).fst.kind, iA (L4 b vs ars j).fst.value, .tref 7]] [(0, .ptr 0 0), (3, .ptr 5 0), (4, .ptr 6 0), (5, .ptr 8 0)] fun G => b0 (wp_seq (wp_seq (l6 G (w7 2 [2, 3, 4, 7] (i8.lend (aB9 vs ars bd ((B5 b (vs.length : Int) (ars.length : Int) (nm b j U5).toNat (j + 1)).fst)) [.no, .no, .no, .tree])) [(14, bA (d9 vs.length ars.length (L4 b vs ars j).fst))] fun G => b0 (rcB (b := d9 vs.length ars.length (B5 b (vs.length : Int) (ars.length : Int) (nm b j U5).toNat (j + 1)).fst) G (fun h0 => ?_) fun h0 => ?_)))))))
 ·refine wp_skip (b0 (wp_seq (l7 G (w7 2 (rg 5) (aa2 b ((B5 b (vs.length : Int) (ars.length : Int) (nm b j U5).toNat (j + 1)).snd) vs ars bd (by omega) (by omega))) [0, 1, 2, 3, 4, 6, 25] [.box [.ref 1, iA ((L4 b vs ars j).snd + 2)], dY b, dI vs, dI ars, dT bd, .box [iA (j9 b (vs.length : Int) (L4 b vs ars j).snd).kind, iA (j9 b (vs.length : Int) (L4 b vs ars j).snd).value, .tref 6], .tree (D.exprs (j9 b (vs.length : Int) (L4 b vs ars j).snd).kids)] [(4, .ptr 5 0)] fun G => b0 (wp_ret ?_)))); exact rxv (.agg [iA (j9 b (vs.length : Int) (B5 b (vs.length : Int) (ars.length : Int) (nm b j U5).toNat (j + 1)).snd).kind, iA (j9 b (vs.length : Int) (B5 b (vs.length : Int) (ars.length : Int) (nm b j U5).toNat (j + 1)).snd).value, .tref 6]) G [0, 1, 2, 3, 4, 6] (by show _ = AV.ren (nth [0, 1, 2, 3, 4, 6]) (.agg [iA (m8 b vs.length ars.length j).fst.kind, iA (m8 b vs.length ars.length j).fst.value, .tref 5]); rw [a59 (by with_reducible assumption)] <;> rfl) (by show _ = mR [0, 1, 2, 3, 4, 6] [.box [.ref 1, iA (m8 b vs.length ars.length j).snd], dY b, dI vs, dI ars, dT bd, .tree (D.exprs (m8 b vs.length ars.length j).fst.kids)]; rw [a59 (by with_reducible assumption)] <;> rfl)
 refine wp_seq (l7 G e5 (rg 8) [.box [.ref 1, iA (L4 b vs ars j).snd], dY b, dI vs, dI ars, dT bd, .box (pL 2), .box [iA (L4 b vs ars j).fst.kind, iA (L4 b vs ars j).fst.value, .tref 7], .tree (D.exprs (L4 b vs ars j).fst.kids)] [(0, .ptr 0 0), (3, .ptr 5 0), (4, .ptr 6 0)] fun G => b0 (wp_ret (k8 ?_))); exact rxv (.agg [iA (B5 b (vs.length : Int) (ars.length : Int) (nm b j U5).toNat (j + 1)).fst.kind, iA (B5 b (vs.length : Int) (ars.length : Int) (nm b j U5).toNat (j + 1)).fst.value, .tref 7]) G [0, 1, 2, 3, 4, 7] (by show _ = AV.ren (nth [0, 1, 2, 3, 4, 7]) (.agg [iA (m8 b vs.length ars.length j).fst.kind, iA (m8 b vs.length ars.length j).fst.value, .tref 5]); rw [a60 (by with_reducible assumption)] <;> rfl) (by show _ = mR [0, 1, 2, 3, 4, 7] [.box [.ref 1, iA (m8 b vs.length ars.length j).snd], dY b, dI vs, dI ars, dT bd, .tree (D.exprs (m8 b vs.length ars.length j).fst.kids)]; rw [a60 (by with_reducible assumption)] <;> rfl)
abbrev stO (s : b7) : List It := [.tree (.exprs s.index.kids), .tree (.exprs s.value.kids), .tree (.stmts s.body), .tree (.stmts s.els)]
abbrev stA (s : b7) (r : Nat) : AV := .agg [iA s.kind, iA s.target, iA s.index.kind, iA s.index.value, .tref r, iA s.value.kind, iA s.value.value, .tref (r + 1), iA s.count, .tref (r + 2), .tref (r + 3)]
abbrev dsC (b : List UInt8) (vs ars : List Int) (bd : List b7) (d : Nat) (j n : Int) : i8 := ⟨94, [.ptr 0 0, pA 2, iA n], dwS b j vs ars bd, dwS b (s4 b vs.length ars.length d j).2 vs ars bd ++ stO (s4 b vs.length ars.length d j).1, stA (s4 b vs.length ars.length d j).1 5⟩
abbrev dbC (b : List UInt8) (vs ars : List Int) (bd : List b7) (d : Nat) (m : Nat) (j n c : Int) : i8 := ⟨72, [.ptr 0 0, pA 2, iA n, iA c], dwS b j vs ars bd, dwS b (y8 (s4 b vs.length ars.length d) m j).2 vs ars bd ++ [.tree (.stmts (y8 (s4 b vs.length ars.length d) m j).1)], .tref 5⟩
section
variable {b : List UInt8} {nv na d : Nat} {j : Int}
theorem aM5 (h : nm b j B3 = 2) (h1 : 0 < (na : Int)) : s4 b nv na d j = soS b nv na (j + 1) := by
 cases d <;> (rw [s4, if_pos ⟨h, by omega⟩])
theorem a57 (h : nm b j B3 = 3) (h1 : 0 < d) : s4 b nv na (d + 1) j = ifS b nv na (s4 b nv na d) (j + 1) := by
 rw [s4, if_neg (by omega), if_pos ⟨h, by omega⟩]
theorem a56 (h : nm b j B3 = 4) (h1 : 0 < d) : s4 b nv na (d + 1) j = rpS b (s4 b nv na d) (j + 1) := by
 rw [s4, if_neg (by omega), if_neg (by omega), if_pos ⟨h, by omega⟩]
theorem P1 (h : ¬ (nm b j B3 = 2 /\ 0 < (na : Int))) (h1 : d < 2 \/ (¬ nm b j B3 = 3 /\ ¬ nm b j B3 = 4)) : s4 b nv na d j = dfS b nv na (nm b j B3) (j + 1) := by
 match d, h1 with
 | 0, _ => rw [s4, if_neg (by omega)]
 | d + 1, h1 => rw [s4, if_neg (by omega), if_neg (by omega), if_neg (by omega)]
theorem a41 {kd : Int} (h : kd = 5) : dfS b nv na kd j = (⟨5, pk b j nv, noE, (m8 b nv na (j + 1)).1, 0, [], []⟩, (m8 b nv na (j + 1)).2) := by rw [dfS, if_pos h]
theorem av7 {kd : Int} (h : ¬ kd = 5) : dfS b nv na kd j = (⟨1, pk b j nv, noE, (m8 b nv na (j + 1)).1, 0, [], []⟩, (m8 b nv na (j + 1)).2) := by rw [dfS, if_neg h]
end
section
variable (b : List UInt8) {j : Int}
theorem bf0 (r0 : 0 <= j) (r1 : j <= 1000000000) : 0 <= nm b j ibL /\ nm b j ibL <= 2 := al0 b (by simp) aB2 r0 r1
theorem be9 (r0 : 0 <= j) (r1 : j <= 1000000000) : 0 <= nm b j ieL /\ nm b j ieL <= 2 := al0 b (by simp) aB0 r0 r1
theorem bc1 (r0 : 0 <= j) (r1 : j <= 1000000000) : 0 <= nm b j rbL /\ nm b j rbL <= 2 := al0 b (by simp) az4 r0 r1
theorem aY8 (d : Nat) : (d = 0 /\ cS (d - 1) = 402 /\ cS d <= 2010) \/ cS d = 402 + 4 * cS (d - 1) := by
 cases d with
 | zero => exact .inl ⟨rfl, rfl, by decide⟩
 | succ d => exact .inr rfl
end
section
variable {b : List UInt8} {nv na d : Nat} {j : Int}
theorem ay3 (h : nm b j B3 = 3) (h1 : 1 < d) : s4 b nv na d j = ifS b nv na (s4 b nv na (d - 1)) (j + 1) := by
 match d, h1 with
 | d + 1, h1 => exact a57 h (by omega)
theorem ay2 (h : nm b j B3 = 4) (h1 : 1 < d) : s4 b nv na d j = rpS b (s4 b nv na (d - 1)) (j + 1) := by
 match d, h1 with
 | d + 1, h1 => exact a56 h (by omega)
end
abbrev aZ4 (b : List UInt8) (vs : List Int) (ars : List Int) (d : Nat) (j : Int) (k : Nat) := s4 b vs.length ars.length d (y8 (s4 b vs.length ars.length d) k j).snd
abbrev aq8 (n : Int) (c : Int) (r0 : List (Nat × AV)) : List (Nat × AV) := (0, .ptr 0 0) :: (2, iA n) :: (3, iA c) :: (5, .ptr 5 0) :: (8, .v (.slice none 0 0)) :: r0
theorem aV7 (b : List UInt8) (vs ars : List Int) (bd : List b7) (d m : Nat) (ih : ∀ (j n : Int), n = d -> 0 <= j -> j + cS d <= 600000000 -> i8.ok Tryd.prog (dsC b vs ars bd d j n)) (j n c : Int) (hn : n = d) (hm : c = m) (hm2 : m <= 4) (B : Int) (hB : (m : Int) * cS d <= B) (r0 : 0 <= j) (r1 : j + B <= 600000000) : i8.ok Tryd.prog (dbC b vs ars bd d m j n c) := by
 refine H7 25 Tryd.func72 [.box [.ref 1, iA j], dY b, dI vs, dI ars, dT bd] [(0, .ptr 0 0), (1, pA 2), (2, iA n), (3, iA c)] fun G => ?_; have hc := ac0 d; refine wp_seq (l7 G e5 (rg 6) [.box [.ref 1, iA j], dY b, dI vs, dI ars, dT bd, .box (pL 2)] (aq8 n c []) fun G => b0 (wp_seq (l7 G e5 (rg 7) [.box [.ref 1, iA j], dY b, dI vs, dI ars, dT bd, .box (pL 2), .tree (D.stmts [])] (aq8 n c [(9, .tref 6)]) fun G => b0 (wp_seq (wp_seq (J4 G e5 (aq8 n c [(9, .tref 6), (10, iA 0)]) fun G => b0 (wp_block ?_))))))); refine C3 (κ := Nat) (fun k => k <= m) (fun k => m - k) (fun k => [.box [.ref 1, iA (y8 (s4 b vs.length ars.length d) k j).2], dY b, dI vs, dI ars, dT bd, .box (pL 2), .tree (.stmts (y8 (s4 b vs.length ars.length d) k j).1)]) (fun k => [(0, .ptr 0 0), (2, iA n), (3, iA c), (5, .ptr 5 0), (8, .v (.slice none 0 0)), (9, .tref 6), (10, iA k)]) 0 (by omega) (p9.at G _ _) ?_; clear G; intro k ρ a w hp G; replace G := p9.at G [.box [.ref 1, iA (y8 (s4 b vs.length ars.length d) k j).snd], dY b, dI vs, dI ars, dT bd, .box (pL 2), .tree (D.stmts (y8 (s4 b vs.length ars.length d) k j).fst)] (aq8 n c [(9, .tref 6), (10, iA k)]); have hkb := a14 b vs.length ars.length (k := j) (i := k) hB (by omega) r0 (by omega); have hkl : (y8 (s4 b vs.length ars.length d) k j).1.length = k := ap4 _ _ _; refine wp_seq (wp_seq (l6 G e5 [(14, bA (decide ((k : Int) < c)))] fun G => b0 (rcD G (fun h0 q0 => ?_) fun h0 q0 => ?_)))
 ·refine wp_exit (B7 (B7 (B6 (b0 (wp_seq (l7 G e5 [0, 1, 2, 3, 4, 6] [.box [.ref 1, iA (y8 (s4 b vs.length ars.length d) k j).snd], dY b, dI vs, dI ars, dT bd, .tree (D.stmts (y8 (s4 b vs.length ars.length d) k j).fst)] [(8, .tref 5)] fun G => b0 (wp_ret ?_))))))); exact O1 G (rg 6) (by show _ = mR (rg 6) [.box [.ref 1, iA (y8 (s4 b vs.length ars.length d) m j).snd], dY b, dI vs, dI ars, dT bd, .tree (D.stmts (y8 (s4 b vs.length ars.length d) m j).fst)]; rw [show m = k by omega] <;> rfl)
 refine wp_skip (b0 (wp_seq (wp_block (rA1 G (w7 4 (rg 5) (ih ((y8 (s4 b vs.length ars.length d) k j).snd) n (by assumption) (by omega) (by have := ba3 b vs.length ars.length (k := j) (i := k) hB (by omega) r0 (by omega); omega))) [0, 1, 2, 3, 4, 5, 55] [.box [.ref 1, iA (aZ4 b vs ars d j k).snd], dY b, dI vs, dI ars, dT bd, .box (pL 2), .tree (D.stmts ((y8 (s4 b vs.length ars.length d) k j).fst ++ [qzS (aZ4 b vs ars d j k).fst]))] (aq8 n c [(9, .tref 6), (10, iA k)]) (aP ((y8 (s4 b vs.length ars.length d) k j).fst.length + 1) 152 []) (aK (by omega) bh8) fun G => p8 (b0 (M5 G e5 [(10, iA ((k : Int) + 1))] [wO ((k : Int) + 1)] (o1 (by omega)) fun G => b0 ?_)))))); exact rxn G (k + 1) (by omega) (by omega) (rg 7) (by have e1 : ((y8 (s4 b vs.length ars.length d) (k + 1) j).fst : List b7) = ((y8 (s4 b vs.length ars.length d) k j).fst ++ [qzS (s4 b vs.length ars.length d (y8 (s4 b vs.length ars.length d) k j).snd).fst]) := (by show _ ++ [_] = _ ++ [_]; unfold qzS; rw [b6.eta, b6.eta, b7.eta]; done); (first | rw [e1] | simp only [e1]) <;> rfl)
abbrev ak2 (b : List UInt8) (vs : List Int) (ars : List Int) (d : Nat) (j : Int) := y8 (s4 b vs.length ars.length (d - 1)) (nm b (m8 b vs.length ars.length (j + 1)).snd ibL).toNat ((m8 b vs.length ars.length (j + 1)).snd + 1)
abbrev aD6 (b : List UInt8) (vs : List Int) (ars : List Int) (d : Nat) (j : Int) := y8 (s4 b vs.length ars.length (d - 1)) (nm b (ak2 b vs ars d j).snd ieL).toNat ((ak2 b vs ars d j).snd + 1)
abbrev G4 (b : List UInt8) (vs : List Int) (ars : List Int) (d : Nat) (j : Int) : AV := (.agg [iA (s4 b vs.length ars.length d j).fst.kind, iA (s4 b vs.length ars.length d j).fst.target, iA (s4 b vs.length ars.length d j).fst.index.kind, iA (s4 b vs.length ars.length d j).fst.index.value, .tref 5, iA (s4 b vs.length ars.length d j).fst.value.kind, iA (s4 b vs.length ars.length d j).fst.value.value, .tref 6, iA (s4 b vs.length ars.length d j).fst.count, .tref 7, .tref 8])
abbrev G3 (b : List UInt8) (vs : List Int) (ars : List Int) (bd : List b7) (d : Nat) (j : Int) : List It := [.box [.ref 1, iA (s4 b vs.length ars.length d j).snd], dY b, dI vs, dI ars, dT bd, .tree (D.exprs (s4 b vs.length ars.length d j).fst.index.kids), .tree (D.exprs (s4 b vs.length ars.length d j).fst.value.kids), .tree (D.stmts (s4 b vs.length ars.length d j).fst.body), .tree (D.stmts (s4 b vs.length ars.length d j).fst.els)]
abbrev V0 : It := .box [iA 0, iA 0, iA 0, iA 0, .v (.slice none 0 0), iA 0, iA 0, .v (.slice none 0 0), iA 0, .v (.slice none 0 0), .v (.slice none 0 0)]
abbrev aD5 (b : List UInt8) (vs : List Int) (ars : List Int) (j : Int) : It := .box [iA 1, iA (pk b (j + 1) (vs.length : Int)), iA 0, iA 0, .v (.slice none 0 0), iA (m8 b vs.length ars.length (j + 1 + 1)).fst.kind, iA (m8 b vs.length ars.length (j + 1 + 1)).fst.value, .tref 7, iA 0, .v (.slice none 0 0), .v (.slice none 0 0)]
abbrev aD4 (b : List UInt8) (vs : List Int) (ars : List Int) (j : Int) : It := .box [iA 1, iA (pk b (j + 1) (vs.length : Int)), iA 0, iA 0, .v (.slice none 0 0), iA (m8 b vs.length ars.length (j + 1 + 1)).fst.kind, iA (m8 b vs.length ars.length (j + 1 + 1)).fst.value, .tref 6, iA 0, .v (.slice none 0 0), .v (.slice none 0 0)]
abbrev aD3 (b : List UInt8) (vs : List Int) (j : Int) : It := .box [iA 1, iA (pk b (j + 1) (vs.length : Int)), iA 0, iA 0, .v (.slice none 0 0), iA 0, iA 0, .v (.slice none 0 0), iA 0, .v (.slice none 0 0), .v (.slice none 0 0)]
abbrev S5 (b : List UInt8) (vs : List Int) (ars : List Int) (j : Int) : It := .tree (D.exprs (m8 b vs.length ars.length (j + 1 + 1)).fst.kids)
abbrev K5 (b : List UInt8) (vs : List Int) (ars : List Int) (j : Int) : It := .box [.ref 1, iA (m8 b vs.length ars.length (j + 1 + 1)).snd]
abbrev am2 : It := .box [iA 1, iA 0, iA 0, iA 0, .v (.slice none 0 0), iA 0, iA 0, .v (.slice none 0 0), iA 0, .v (.slice none 0 0), .v (.slice none 0 0)]
abbrev aD1 (b : List UInt8) (vs : List Int) (ars : List Int) (bd : List b7) (j : Int) (r0 : List It) : List It := .box [.ref 1, iA (m8 b vs.length ars.length (j + 1 + 1)).snd] :: dY b :: dI vs :: dI ars :: dT bd :: .box [iA 1, iA (pk b (j + 1) (vs.length : Int)), iA 0, iA 0, .tref 7, iA (m8 b vs.length ars.length (j + 1 + 1)).fst.kind, iA (m8 b vs.length ars.length (j + 1 + 1)).fst.value, .tref 6, iA 0, .tref 8, .tref 9] :: .tree (D.exprs (m8 b vs.length ars.length (j + 1 + 1)).fst.kids) :: .tree (D.exprs []) :: .tree (D.stmts []) :: r0
abbrev aD0 (b : List UInt8) (vs : List Int) (ars : List Int) (bd : List b7) (j : Int) (r0 : List It) : List It := .box [.ref 1, iA (m8 b vs.length ars.length (j + 1 + 1)).snd] :: dY b :: dI vs :: dI ars :: dT bd :: .box [iA 1, iA (pk b (j + 1) (vs.length : Int)), iA 0, iA 0, .tref 7, iA (m8 b vs.length ars.length (j + 1 + 1)).fst.kind, iA (m8 b vs.length ars.length (j + 1 + 1)).fst.value, .tref 6, iA 0, .tref 8, .v (.slice none 0 0)] :: .tree (D.exprs (m8 b vs.length ars.length (j + 1 + 1)).fst.kids) :: .tree (D.exprs []) :: r0
abbrev aC9 (b : List UInt8) (vs : List Int) (ars : List Int) (bd : List b7) (j : Int) (r0 : List It) : List It := .box [.ref 1, iA (m8 b vs.length ars.length (j + 1 + 1)).snd] :: dY b :: dI vs :: dI ars :: dT bd :: .box [iA 1, iA (pk b (j + 1) (vs.length : Int)), iA 0, iA 0, .tref 7, iA (m8 b vs.length ars.length (j + 1 + 1)).fst.kind, iA (m8 b vs.length ars.length (j + 1 + 1)).fst.value, .tref 6, iA 0, .v (.slice none 0 0), .v (.slice none 0 0)] :: .tree (D.exprs (m8 b vs.length ars.length (j + 1 + 1)).fst.kids) :: r0
abbrev J6 (r0 : List (Nat × AV)) : List (Nat × AV) := (0, .ptr 0 0) :: (4, .ptr 5 0) :: (6, .ptr 6 0) :: (8, .ptr 7 0) :: r0
abbrev aq7 (b : List UInt8) (vs : List Int) (ars : List Int) (d : Nat) (j : Int) (r0 : List It) : List It := .box [.ref 1, iA (y8 (s4 b vs.length ars.length (d - 1)) (nm b (j + 1 + 1) rbL).toNat (j + 1 + 1 + 1)).snd] :: dY b :: dI vs :: dI ars :: r0
abbrev U9 (n : Int) (r0 : List (Nat × AV)) : List (Nat × AV) := (0, .ptr 0 0) :: (2, iA n) :: (4, .ptr 5 0) :: (6, .ptr 6 0) :: r0
abbrev F5 (b : List UInt8) (vs : List Int) (ars : List Int) (bd : List b7) (r0 : List It) : List It := dY b :: dI vs :: dI ars :: dT bd :: .box (pL 2) :: V0 :: r0
abbrev aC8 (b : List UInt8) (vs : List Int) (ars : List Int) (j : Int) (r0 : List It) : List It := .tree (D.exprs (j9 b (vs.length : Int) (j + 1 + 1)).kids) :: .tree (D.exprs (m8 b vs.length ars.length (j + 1 + 1 + 2)).fst.kids) :: r0
theorem aN2 (b : List UInt8) (vs ars : List Int) (bd : List b7) (d : Nat) (hd : d <= 3) (ih : ∀ (j n c : Int), 1 < d -> n = (d : Int) - 1 -> 0 <= c -> c <= 2 -> 0 <= j -> j + 2 * cS (d - 1) <= 600000000 -> i8.ok Tryd.prog (dbC b vs ars bd (d - 1) c.toNat j n c)) (j n : Int) (hn : n = d) (r0 : 0 <= j) (r1 : j + cS d <= 600000000) : i8.ok Tryd.prog (dsC b vs ars bd d j n) := by
  refine H7 100 Tryd.func94 [.box [.ref 1, iA j], dY b, dI vs, dI ars, dT bd] [(0, .ptr 0 0), (1, pA 2), (2, iA n)] fun G => ?_; have hc := ac0 (d - 1); have hcd := aY8 d; have hcn := ac0 d; have hsm := as7 b vs.length ars.length (k := j + 1) (by omega) (by omega); have hib := bf0 b (j := (m8 b vs.length ars.length (j + 1)).2) (by omega) (by omega); have hbb := a14 b vs.length ars.length (k := (m8 b vs.length ars.length (j + 1)).2 + 1) (i := (nm b (m8 b vs.length ars.length (j + 1)).2 ibL).toNat) (a86 hib.1 hib.2 (show 0 <= cS (d - 1) by omega)) (bg9 _) (by omega) (by omega); have hie := be9 b (j := (y8 (s4 b vs.length ars.length (d - 1)) (nm b (m8 b vs.length ars.length (j + 1)).2 ibL).toNat ((m8 b vs.length ars.length (j + 1)).2 + 1)).2) (by omega) (by omega); have hrb := bc1 b (j := j + 1 + 1) (by omega) (by omega); refine wp_seq (l7 G e5 [0, 1, 2, 3, 4, 5, 13] (.box [.ref 1, iA j] :: (F5 b vs ars bd [])) (U9 n []) fun G => b0 (wp_seq (l7 G (w7 2 [0, 1, 15] (i8.lend (D2 b j B3 (List.cons_ne_nil _ _) (by assumption) (by omega)) [.no, .no, .row 3])) (rg 7) (.box [.ref 1, iA (j + 1)] :: (F5 b vs ars bd [])) (U9 n [(7, iA (nm b j B3))]) fun G => b0 (wp_seq (l7 G e5 [0, 1, 2, 3, 4, 5, 6, 23] (.box [.ref 1, iA (j + 1)] :: (F5 b vs ars bd [.box [iA (nm b j B3), iA 0, iA 0, iA 0, .v (.slice none 0 0), iA 0, iA 0, .v (.slice none 0 0), iA 0, .v (.slice none 0 0), .v (.slice none 0 0)]])) (U9 n [(7, iA (nm b j B3)), (8, .ptr 7 0)]) fun G => b0 (wp_seq (wp_block (wp_seq ?_)))))))); cases h0 : (nm b j B3 == 2)
  ·
   have q0 := ne_of_beq_false h0; refine l6 G (E4 (fc h0 fz) (us [(3, 6, 0), (1007, 1007, 0)])) [(27, bA false)] fun G => b0 (rF G false (by kernel_rfl) (wp_seq ?_)); cases h1 : (nm b j B3 == 3)
   ·
    have q1 := ne_of_beq_false h1; refine l6 G (E4 (fc h1 fz) [(3, 0), (4, 0), (1005, 0)]) [(50, bA false)] fun G => b0 (rF G false (by kernel_rfl) (wp_seq ?_)); cases h2 : (nm b j B3 == 4)
    ·
     have q2 := ne_of_beq_false h2; refine l6 G (E4 (fc h2 fz) [(3, 0), (4, 0), (1005, 0)]) [(79, bA false)] fun G => b0 (rF G false (by kernel_rfl) (wp_seq (wp_seq (l6 G e5 [(15, bA (nm b j B3 != 5))] fun G => b0 (rcN G (fun h3 q3 => ?_) fun h3 q3 => ?_)))))
     · refine wp_skip (b0 (wp_seq (l7 G (w7 4 [0, 1] (A6 b (j + 1) ((vs.length : Int)) (by omega) (by omega))) (rg 8) (.box [.ref 1, iA (j + 1 + 1)] :: (F5 b vs ars bd [.box [iA (nm b j B3), iA (pk b (j + 1) (vs.length : Int)), iA 0, iA 0, .v (.slice none 0 0), iA 0, iA 0, .v (.slice none 0 0), iA 0, .v (.slice none 0 0), .v (.slice none 0 0)]])) (J6 []) fun G => b0 (l7 G (w7 2 (rg 5) (K4 b vs ars bd (j + 1 + 1) (by omega) (by omega))) [0, 1, 2, 3, 4, 6, 7, 24] [K5 b vs ars j, dY b, dI vs, dI ars, dT bd, V0, .box [iA (nm b j B3), iA (pk b (j + 1) (vs.length : Int)), iA 0, iA 0, .v (.slice none 0 0), iA (m8 b vs.length ars.length (j + 1 + 1)).fst.kind, iA (m8 b vs.length ars.length (j + 1 + 1)).fst.value, .tref 7, iA 0, .v (.slice none 0 0), .v (.slice none 0 0)], S5 b vs ars j] [(6, .ptr 5 0), (8, .ptr 6 0)] fun G => p8 (b0 (wp_seq (l7 G e5 [0, 1, 2, 3, 4, 5, 7] [K5 b vs ars j, dY b, dI vs, dI ars, dT bd, .box [iA (nm b j B3), iA (pk b (j + 1) (vs.length : Int)), iA 0, iA 0, .v (.slice none 0 0), iA (m8 b vs.length ars.length (j + 1 + 1)).fst.kind, iA (m8 b vs.length ars.length (j + 1 + 1)).fst.value, .tref 6, iA 0, .v (.slice none 0 0), .v (.slice none 0 0)], S5 b vs ars j] [(6, .ptr 5 0)] fun G => b0 (wp_ret ?_)))))))); obtain ⟨ρ, G⟩ := G.nilT 7 (.exprs []) [.box [.ref 1, iA (m8 b vs.length ars.length (j + 1 + 1)).snd], dY b, dI vs, dI ars, dT bd, .box [iA (nm b j B3), iA (pk b (j + 1) (vs.length : Int)), iA 0, iA 0, .tref 7, iA (m8 b vs.length ars.length (j + 1 + 1)).fst.kind, iA (m8 b vs.length ars.length (j + 1 + 1)).fst.value, .tref 6, iA 0, .v (.slice none 0 0), .v (.slice none 0 0)], .tree (D.exprs (m8 b vs.length ars.length (j + 1 + 1)).fst.kids)] [(6, .ptr 5 0)]; obtain ⟨ρ, G⟩ := G.nilT 8 (.stmts []) [.box [.ref 1, iA (m8 b vs.length ars.length (j + 1 + 1)).snd], dY b, dI vs, dI ars, dT bd, .box [iA (nm b j B3), iA (pk b (j + 1) (vs.length : Int)), iA 0, iA 0, .tref 7, iA (m8 b vs.length ars.length (j + 1 + 1)).fst.kind, iA (m8 b vs.length ars.length (j + 1 + 1)).fst.value, .tref 6, iA 0, .tref 8, .v (.slice none 0 0)], .tree (D.exprs (m8 b vs.length ars.length (j + 1 + 1)).fst.kids), .tree (D.exprs [])] [(6, .ptr 5 0)]; obtain ⟨ρ, G⟩ := G.nilT 9 (.stmts []) [.box [.ref 1, iA (m8 b vs.length ars.length (j + 1 + 1)).snd], dY b, dI vs, dI ars, dT bd, .box [iA (nm b j B3), iA (pk b (j + 1) (vs.length : Int)), iA 0, iA 0, .tref 7, iA (m8 b vs.length ars.length (j + 1 + 1)).fst.kind, iA (m8 b vs.length ars.length (j + 1 + 1)).fst.value, .tref 6, iA 0, .tref 8, .tref 9], .tree (D.exprs (m8 b vs.length ars.length (j + 1 + 1)).fst.kids), .tree (D.exprs []), .tree (D.stmts [])] [(6, .ptr 5 0)]; exact rxv (.agg [iA (nm b j B3), iA (pk b (j + 1) (vs.length : Int)), iA 0, iA 0, .tref 7, iA (m8 b vs.length ars.length (j + 1 + 1)).fst.kind, iA (m8 b vs.length ars.length (j + 1 + 1)).fst.value, .tref 6, iA 0, .tref 8, .tref 9]) G [0, 1, 2, 3, 4, 7, 6, 8, 9] (by show _ = AV.ren (nth [0, 1, 2, 3, 4, 7, 6, 8, 9]) (G4 b vs ars d j); unfold G4; have e1 : ((s4 b vs.length ars.length d j).fst.kind : Int) = (nm b j B3) := (by rw [P1 (by omega) (by omega), a41 (by omega)]; show (5 : Int) = _; omega); rw [e1, P1 (by omega) (by omega), a41 (by omega)] <;> rfl) (by show _ = mR [0, 1, 2, 3, 4, 7, 6, 8, 9] (G3 b vs ars bd d j); unfold G3; rw [P1 (by omega) (by omega), a41 (by omega)] <;> rfl)
     refine l7 G e5 (rg 8) (.box [.ref 1, iA (j + 1)] :: (F5 b vs ars bd [am2])) (J6 []) fun G => b0 (wp_seq (l7 G (w7 4 [0, 1] (A6 b (j + 1) ((vs.length : Int)) (by omega) (by omega))) (rg 8) (.box [.ref 1, iA (j + 1 + 1)] :: (F5 b vs ars bd [aD3 b vs j])) (J6 []) fun G => b0 (l7 G (w7 2 (rg 5) (K4 b vs ars bd (j + 1 + 1) (by omega) (by omega))) [0, 1, 2, 3, 4, 6, 7, 24] [K5 b vs ars j, dY b, dI vs, dI ars, dT bd, V0, aD5 b vs ars j, S5 b vs ars j] [(6, .ptr 5 0), (8, .ptr 6 0)] fun G => p8 (b0 (wp_seq (l7 G e5 [0, 1, 2, 3, 4, 5, 7] [K5 b vs ars j, dY b, dI vs, dI ars, dT bd, aD4 b vs ars j, S5 b vs ars j] [(6, .ptr 5 0)] fun G => b0 (wp_ret ?_))))))); obtain ⟨ρ, G⟩ := G.nilT 7 (.exprs []) (aC9 b vs ars bd j []) [(6, .ptr 5 0)]; obtain ⟨ρ, G⟩ := G.nilT 8 (.stmts []) (aD0 b vs ars bd j []) [(6, .ptr 5 0)]; obtain ⟨ρ, G⟩ := G.nilT 9 (.stmts []) (aD1 b vs ars bd j []) [(6, .ptr 5 0)]; exact rxv (.agg [iA 1, iA (pk b (j + 1) (vs.length : Int)), iA 0, iA 0, .tref 7, iA (m8 b vs.length ars.length (j + 1 + 1)).fst.kind, iA (m8 b vs.length ars.length (j + 1 + 1)).fst.value, .tref 6, iA 0, .tref 8, .tref 9]) G [0, 1, 2, 3, 4, 7, 6, 8, 9] (by show _ = AV.ren (nth [0, 1, 2, 3, 4, 7, 6, 8, 9]) (G4 b vs ars d j); unfold G4; rw [P1 (by omega) (by omega), av7 (by omega)] <;> rfl) (by show _ = mR [0, 1, 2, 3, 4, 7, 6, 8, 9] (G3 b vs ars bd d j); unfold G3; rw [P1 (by omega) (by omega), av7 (by omega)] <;> rfl)
    have q2 := eq_of_beq h2; refine l6 G (E4 (fc h2 fz) [(3, 0), (4, 0), (1005, 0)]) [(79, bA (decide (n > 1)))] fun G => b0 (rcD G (fun h4 q4 => ?_) fun h4 q4 => ?_)
    ·
     refine wp_seq (wp_seq (J4 G e5 (J6 [(15, bA (nm b j B3 != 5))]) fun G => b0 ?_)); cases h5 : (nm b j B3 != 5)
     · have q5 := bne_eq_false_iff_eq.1 h5; exact False.elim (by omega)
     have q5 := bne_iff_ne.1 h5; refine rT G _ h5 (l7 G e5 (rg 8) (.box [.ref 1, iA (j + 1)] :: (F5 b vs ars bd [am2])) (J6 []) fun G => b0 (wp_seq (l7 G (w7 4 [0, 1] (A6 b (j + 1) ((vs.length : Int)) (by omega) (by omega))) (rg 8) (.box [.ref 1, iA (j + 1 + 1)] :: (F5 b vs ars bd [aD3 b vs j])) (J6 []) fun G => b0 (l7 G (w7 2 (rg 5) (K4 b vs ars bd (j + 1 + 1) (by omega) (by omega))) [0, 1, 2, 3, 4, 6, 7, 24] [K5 b vs ars j, dY b, dI vs, dI ars, dT bd, V0, aD5 b vs ars j, S5 b vs ars j] [(6, .ptr 5 0), (8, .ptr 6 0)] fun G => p8 (b0 (wp_seq (l7 G e5 [0, 1, 2, 3, 4, 5, 7] [K5 b vs ars j, dY b, dI vs, dI ars, dT bd, aD4 b vs ars j, S5 b vs ars j] [(6, .ptr 5 0)] fun G => b0 (wp_ret ?_)))))))); obtain ⟨ρ, G⟩ := G.nilT 7 (.exprs []) (aC9 b vs ars bd j []) [(6, .ptr 5 0)]; obtain ⟨ρ, G⟩ := G.nilT 8 (.stmts []) (aD0 b vs ars bd j []) [(6, .ptr 5 0)]; obtain ⟨ρ, G⟩ := G.nilT 9 (.stmts []) (aD1 b vs ars bd j []) [(6, .ptr 5 0)]; exact rxv (.agg [iA 1, iA (pk b (j + 1) (vs.length : Int)), iA 0, iA 0, .tref 7, iA (m8 b vs.length ars.length (j + 1 + 1)).fst.kind, iA (m8 b vs.length ars.length (j + 1 + 1)).fst.value, .tref 6, iA 0, .tref 8, .tref 9]) G [0, 1, 2, 3, 4, 7, 6, 8, 9] (by show _ = AV.ren (nth [0, 1, 2, 3, 4, 7, 6, 8, 9]) (G4 b vs ars d j); unfold G4; rw [P1 (by omega) (by omega), av7 (by omega)] <;> rfl) (by show _ = mR [0, 1, 2, 3, 4, 7, 6, 8, 9] (G3 b vs ars bd d j); unfold G3; rw [P1 (by omega) (by omega), av7 (by omega)] <;> rfl)
    refine wp_seq (l7 G (w7 2 [0, 1, 16] (i8.lend (D2 b (j + 1) rcL (by simp [h0, h1, h2, h4]) (by omega) (by omega)) [.no, .no, .row 3])) (rg 8) (.box [.ref 1, iA (j + 1 + 1)] :: (F5 b vs ars bd [.box [iA (nm b j B3), iA 0, iA 0, iA 0, .v (.slice none 0 0), iA 0, iA 0, .v (.slice none 0 0), iA (nm b (j + 1) rcL), .v (.slice none 0 0), .v (.slice none 0 0)]])) (U9 n [(8, .ptr 7 0)]) fun G => b0 (K8 G (x6 (n4 6 [0, 1, 48] (i8.lend (D2 b (j + 1 + 1) rbL (by simp [h0, h1, h2, h4]) (by omega) (by omega)) [.no, .no, .row 3]) (n4 7 (rg 5) (ih (j + 1 + 1 + 1) (n - 1) (nm b (j + 1 + 1) rbL) (by omega) (by omega) (by omega) (by omega) (by omega) (by omega)) x5)) fz []) [0, 0, 0, 4, 0, 0, 48, 127, 255, 511] [0, 1, 2, 3, 4, 6, 7, 64] (aq7 b vs ars d j [dT bd, V0, .box [iA (nm b j B3), iA 0, iA 0, iA 0, .v (.slice none 0 0), iA 0, iA 0, .v (.slice none 0 0), iA (nm b (j + 1) rcL), .tref 7, .v (.slice none 0 0)], .tree (D.stmts (y8 (s4 b vs.length ars.length (d - 1)) (nm b (j + 1 + 1) rbL).toNat (j + 1 + 1 + 1)).fst)]) [(6, .ptr 5 0), (8, .ptr 6 0)] [wO (n - 1)] (o1 (by omega)) fun G => p8 (b0 (wp_seq (l7 G e5 [0, 1, 2, 3, 4, 5, 7] (aq7 b vs ars d j [dT bd, .box [iA (nm b j B3), iA 0, iA 0, iA 0, .v (.slice none 0 0), iA 0, iA 0, .v (.slice none 0 0), iA (nm b (j + 1) rcL), .tref 6, .v (.slice none 0 0)], .tree (D.stmts (y8 (s4 b vs.length ars.length (d - 1)) (nm b (j + 1 + 1) rbL).toNat (j + 1 + 1 + 1)).fst)]) [(6, .ptr 5 0)] fun G => b0 (wp_ret ?_)))))); obtain ⟨ρ, G⟩ := G.nilT 7 (.exprs []) (aq7 b vs ars d j [dT bd, .box [iA (nm b j B3), iA 0, iA 0, iA 0, .tref 7, iA 0, iA 0, .v (.slice none 0 0), iA (nm b (j + 1) rcL), .tref 6, .v (.slice none 0 0)], .tree (D.stmts (y8 (s4 b vs.length ars.length (d - 1)) (nm b (j + 1 + 1) rbL).toNat (j + 1 + 1 + 1)).fst)]) [(6, .ptr 5 0)]; obtain ⟨ρ, G⟩ := G.nilT 8 (.exprs []) (aq7 b vs ars d j [dT bd, .box [iA (nm b j B3), iA 0, iA 0, iA 0, .tref 7, iA 0, iA 0, .tref 8, iA (nm b (j + 1) rcL), .tref 6, .v (.slice none 0 0)], .tree (D.stmts (y8 (s4 b vs.length ars.length (d - 1)) (nm b (j + 1 + 1) rbL).toNat (j + 1 + 1 + 1)).fst), .tree (D.exprs [])]) [(6, .ptr 5 0)]; obtain ⟨ρ, G⟩ := G.nilT 9 (.stmts []) (aq7 b vs ars d j [dT bd, .box [iA (nm b j B3), iA 0, iA 0, iA 0, .tref 7, iA 0, iA 0, .tref 8, iA (nm b (j + 1) rcL), .tref 6, .tref 9], .tree (D.stmts (y8 (s4 b vs.length ars.length (d - 1)) (nm b (j + 1 + 1) rbL).toNat (j + 1 + 1 + 1)).fst), .tree (D.exprs []), .tree (D.exprs [])]) [(6, .ptr 5 0)]; exact rxv (.agg [iA (nm b j B3), iA 0, iA 0, iA 0, .tref 7, iA 0, iA 0, .tref 8, iA (nm b (j + 1) rcL), .tref 6, .tref 9]) G [0, 1, 2, 3, 4, 7, 8, 6, 9] (by show _ = AV.ren (nth [0, 1, 2, 3, 4, 7, 8, 6, 9]) (G4 b vs ars d j); unfold G4; have e1 : ((s4 b vs.length ars.length d j).fst.kind : Int) = (nm b j B3) := (by rw [ay2 (by omega) (by omega)]; show (4 : Int) = _; omega); rw [e1, ay2 (by omega) (by omega)] <;> rfl) (by show _ = mR [0, 1, 2, 3, 4, 7, 8, 6, 9] (G3 b vs ars bd d j); unfold G3; rw [ay2 (by omega) (by omega)] <;> rfl)
   have q1 := eq_of_beq h1; refine J4 G (E4 (fc h1 fz) [(3, 0), (4, 0), (1005, 0)]) (U9 n [(7, iA (nm b j B3)), (8, .ptr 7 0), (50, bA (decide (n > 1)))]) fun G => b0 (rcD G (fun h6 q6 => ?_) fun h6 q6 => ?_)
   ·
    refine wp_seq ?_; cases h7 : (nm b j B3 == 4)
    ·
     have q7 := ne_of_beq_false h7; refine l6 G (E4 (fc h7 fz) [(3, 0), (4, 0), (1005, 0)]) [(79, bA false)] fun G => b0 (rF G false (by kernel_rfl) (wp_seq (wp_seq (J4 G e5 (J6 [(15, bA (nm b j B3 != 5))]) fun G => b0 ?_)))); cases h8 : (nm b j B3 != 5)
     · have q8 := bne_eq_false_iff_eq.1 h8; exact False.elim (by omega)
     have q8 := bne_iff_ne.1 h8; refine rT G _ h8 (l7 G e5 (rg 8) (.box [.ref 1, iA (j + 1)] :: (F5 b vs ars bd [am2])) (J6 []) fun G => b0 (wp_seq (l7 G (w7 4 [0, 1] (A6 b (j + 1) ((vs.length : Int)) (by omega) (by omega))) (rg 8) (.box [.ref 1, iA (j + 1 + 1)] :: (F5 b vs ars bd [aD3 b vs j])) (J6 []) fun G => b0 (l7 G (w7 2 (rg 5) (K4 b vs ars bd (j + 1 + 1) (by omega) (by omega))) [0, 1, 2, 3, 4, 6, 7, 24] [K5 b vs ars j, dY b, dI vs, dI ars, dT bd, V0, aD5 b vs ars j, S5 b vs ars j] [(6, .ptr 5 0), (8, .ptr 6 0)] fun G => p8 (b0 (wp_seq (l7 G e5 [0, 1, 2, 3, 4, 5, 7] [K5 b vs ars j, dY b, dI vs, dI ars, dT bd, aD4 b vs ars j, S5 b vs ars j] [(6, .ptr 5 0)] fun G => b0 (wp_ret ?_)))))))); obtain ⟨ρ, G⟩ := G.nilT 7 (.exprs []) (aC9 b vs ars bd j []) [(6, .ptr 5 0)]; obtain ⟨ρ, G⟩ := G.nilT 8 (.stmts []) (aD0 b vs ars bd j []) [(6, .ptr 5 0)]; obtain ⟨ρ, G⟩ := G.nilT 9 (.stmts []) (aD1 b vs ars bd j []) [(6, .ptr 5 0)]; exact rxv (.agg [iA 1, iA (pk b (j + 1) (vs.length : Int)), iA 0, iA 0, .tref 7, iA (m8 b vs.length ars.length (j + 1 + 1)).fst.kind, iA (m8 b vs.length ars.length (j + 1 + 1)).fst.value, .tref 6, iA 0, .tref 8, .tref 9]) G [0, 1, 2, 3, 4, 7, 6, 8, 9] (by show _ = AV.ren (nth [0, 1, 2, 3, 4, 7, 6, 8, 9]) (G4 b vs ars d j); unfold G4; rw [P1 (by omega) (by omega), av7 (by omega)] <;> rfl) (by show _ = mR [0, 1, 2, 3, 4, 7, 6, 8, 9] (G3 b vs ars bd d j); unfold G3; rw [P1 (by omega) (by omega), av7 (by omega)] <;> rfl)
    have q7 := eq_of_beq h7; exact False.elim (by omega)
   refine wp_seq (l7 G (w7 2 (rg 5) (K4 b vs ars bd (j + 1) (by omega) (by omega))) [0, 1, 2, 3, 4, 5, 6, 7, 24] (.box [.ref 1, iA (m8 b vs.length ars.length (j + 1)).snd] :: (F5 b vs ars bd [.box [iA (nm b j B3), iA 0, iA 0, iA 0, .v (.slice none 0 0), iA (m8 b vs.length ars.length (j + 1)).fst.kind, iA (m8 b vs.length ars.length (j + 1)).fst.value, .tref 8, iA 0, .v (.slice none 0 0), .v (.slice none 0 0)], .tree (D.exprs (m8 b vs.length ars.length (j + 1)).fst.kids)])) (U9 n [(8, .ptr 7 0)]) fun G => b0 (wp_seq (K8 G (x6 (n4 6 [0, 1, 49] (i8.lend (D2 b ((m8 b vs.length ars.length (j + 1)).snd) ibL (by simp [h0, h1, h6]) (by omega) (by omega)) [.no, .no, .row 3]) (n4 7 (rg 5) (ih ((m8 b vs.length ars.length (j + 1)).snd + 1) (n - 1) (nm b (m8 b vs.length ars.length (j + 1)).snd ibL) (by omega) (by omega) (by omega) (by omega) (by omega) (by omega)) x5)) fz []) [0, 0, 0, 4, 0, 0, 48, 127, 255, 511] [0, 1, 2, 3, 4, 5, 6, 7, 8, 65] (.box [.ref 1, iA (ak2 b vs ars d j).snd] :: (F5 b vs ars bd [.box [iA (nm b j B3), iA 0, iA 0, iA 0, .v (.slice none 0 0), iA (m8 b vs.length ars.length (j + 1)).fst.kind, iA (m8 b vs.length ars.length (j + 1)).fst.value, .tref 8, iA 0, .tref 9, .v (.slice none 0 0)], .tree (D.exprs (m8 b vs.length ars.length (j + 1)).fst.kids), .tree (D.stmts (ak2 b vs ars d j).fst)])) (U9 n [(8, .ptr 7 0)]) [wO (n - 1)] (o1 (by omega)) fun G => b0 (K8 G (x6 (n4 6 [0, 1, 50] (i8.lend (D2 b ((y8 (s4 b vs.length ars.length (d - 1)) (nm b (m8 b vs.length ars.length (j + 1)).snd ibL).toNat ((m8 b vs.length ars.length (j + 1)).snd + 1)).snd) ieL (by simp [h0, h1, h6]) (by omega) (by omega)) [.no, .no, .row 3]) (n4 7 (rg 5) (ih ((y8 (s4 b vs.length ars.length (d - 1)) (nm b (m8 b vs.length ars.length (j + 1)).snd ibL).toNat ((m8 b vs.length ars.length (j + 1)).snd + 1)).snd + 1) (n - 1) (nm b (y8 (s4 b vs.length ars.length (d - 1)) (nm b (m8 b vs.length ars.length (j + 1)).snd ibL).toNat ((m8 b vs.length ars.length (j + 1)).snd + 1)).snd ieL) (by omega) (by omega) (by omega) (by omega) (by omega) (by omega)) x5)) fz []) [0, 0, 0, 4, 0, 0, 48, 127, 255, 511] [0, 1, 2, 3, 4, 6, 7, 8, 9, 66] [.box [.ref 1, iA (aD6 b vs ars d j).snd], dY b, dI vs, dI ars, dT bd, V0, .box [iA (nm b j B3), iA 0, iA 0, iA 0, .v (.slice none 0 0), iA (m8 b vs.length ars.length (j + 1)).fst.kind, iA (m8 b vs.length ars.length (j + 1)).fst.value, .tref 7, iA 0, .tref 8, .tref 9], .tree (D.exprs (m8 b vs.length ars.length (j + 1)).fst.kids), .tree (D.stmts (ak2 b vs ars d j).fst), .tree (D.stmts (aD6 b vs ars d j).fst)] [(6, .ptr 5 0), (8, .ptr 6 0)] [wO (n - 1)] (o1 (by omega)) fun G => p8 (b0 (wp_seq (l7 G e5 [0, 1, 2, 3, 4, 5, 7, 8, 9] [.box [.ref 1, iA (aD6 b vs ars d j).snd], dY b, dI vs, dI ars, dT bd, .box [iA (nm b j B3), iA 0, iA 0, iA 0, .v (.slice none 0 0), iA (m8 b vs.length ars.length (j + 1)).fst.kind, iA (m8 b vs.length ars.length (j + 1)).fst.value, .tref 6, iA 0, .tref 7, .tref 8], .tree (D.exprs (m8 b vs.length ars.length (j + 1)).fst.kids), .tree (D.stmts (ak2 b vs ars d j).fst), .tree (D.stmts (aD6 b vs ars d j).fst)] [(6, .ptr 5 0)] fun G => b0 (wp_ret ?_)))))))); obtain ⟨ρ, G⟩ := G.nilT 9 (.exprs []) [.box [.ref 1, iA (y8 (s4 b vs.length ars.length (d - 1)) (nm b (y8 (s4 b vs.length ars.length (d - 1)) (nm b (m8 b vs.length ars.length (j + 1)).snd ibL).toNat ((m8 b vs.length ars.length (j + 1)).snd + 1)).snd ieL).toNat ((y8 (s4 b vs.length ars.length (d - 1)) (nm b (m8 b vs.length ars.length (j + 1)).snd ibL).toNat ((m8 b vs.length ars.length (j + 1)).snd + 1)).snd + 1)).snd], dY b, dI vs, dI ars, dT bd, .box [iA (nm b j B3), iA 0, iA 0, iA 0, .tref 9, iA (m8 b vs.length ars.length (j + 1)).fst.kind, iA (m8 b vs.length ars.length (j + 1)).fst.value, .tref 6, iA 0, .tref 7, .tref 8], .tree (D.exprs (m8 b vs.length ars.length (j + 1)).fst.kids), .tree (D.stmts (y8 (s4 b vs.length ars.length (d - 1)) (nm b (m8 b vs.length ars.length (j + 1)).snd ibL).toNat ((m8 b vs.length ars.length (j + 1)).snd + 1)).fst), .tree (D.stmts (y8 (s4 b vs.length ars.length (d - 1)) (nm b (y8 (s4 b vs.length ars.length (d - 1)) (nm b (m8 b vs.length ars.length (j + 1)).snd ibL).toNat ((m8 b vs.length ars.length (j + 1)).snd + 1)).snd ieL).toNat ((y8 (s4 b vs.length ars.length (d - 1)) (nm b (m8 b vs.length ars.length (j + 1)).snd ibL).toNat ((m8 b vs.length ars.length (j + 1)).snd + 1)).snd + 1)).fst)] [(6, .ptr 5 0)]
   exact rxv (.agg [iA (nm b j B3), iA 0, iA 0, iA 0, .tref 9, iA (m8 b vs.length ars.length (j + 1)).fst.kind, iA (m8 b vs.length ars.length (j + 1)).fst.value, .tref 6, iA 0, .tref 7, .tref 8]) G [0, 1, 2, 3, 4, 9, 6, 7, 8] (by show _ = AV.ren (nth [0, 1, 2, 3, 4, 9, 6, 7, 8]) (G4 b vs ars d j); unfold G4; have e1 : ((s4 b vs.length ars.length d j).fst.kind : Int) = (nm b j B3) := (by rw [ay3 (by omega) (by omega)]; show (3 : Int) = _; omega); rw [e1, ay3 (by omega) (by omega)] <;> rfl) (by show _ = mR [0, 1, 2, 3, 4, 9, 6, 7, 8] (G3 b vs ars bd d j); unfold G3; rw [ay3 (by omega) (by omega)] <;> rfl)
  have q0 := eq_of_beq h0; refine J4 G (E4 (fc h0 fz) (us [(3, 6, 0), (1007, 1007, 0)])) (U9 n [(7, iA (nm b j B3)), (8, .ptr 7 0), (27, bA (decide ((ars.length : Int) > 0)))]) fun G => b0 (rcD G (fun h9 q9 => ?_) fun h9 q9 => ?_)
  ·
   refine wp_seq ?_; cases h10 : (nm b j B3 == 3)
   ·
    have q10 := ne_of_beq_false h10; refine J4 G (E4 (fc h10 fz) [(3, 0), (4, 0), (1005, 0)]) (U9 n [(7, iA (nm b j B3)), (8, .ptr 7 0), (50, bA false)]) fun G => b0 (rF G false (by kernel_rfl) (wp_seq ?_)); cases h11 : (nm b j B3 == 4)
    ·
     have q11 := ne_of_beq_false h11; refine l6 G (E4 (fc h11 fz) [(3, 0), (4, 0), (1005, 0)]) [(79, bA false)] fun G => b0 (rF G false (by kernel_rfl) (wp_seq (wp_seq (J4 G e5 (J6 [(15, bA (nm b j B3 != 5))]) fun G => b0 ?_)))); cases h12 : (nm b j B3 != 5)
     · have q12 := bne_eq_false_iff_eq.1 h12; exact False.elim (by omega)
     have q12 := bne_iff_ne.1 h12; refine rT G _ h12 (l7 G e5 (rg 8) (.box [.ref 1, iA (j + 1)] :: (F5 b vs ars bd [am2])) (J6 []) fun G => b0 (wp_seq (l7 G (w7 4 [0, 1] (A6 b (j + 1) ((vs.length : Int)) (by omega) (by omega))) (rg 8) (.box [.ref 1, iA (j + 1 + 1)] :: (F5 b vs ars bd [aD3 b vs j])) (J6 []) fun G => b0 (l7 G (w7 2 (rg 5) (K4 b vs ars bd (j + 1 + 1) (by omega) (by omega))) [0, 1, 2, 3, 4, 6, 7, 24] [K5 b vs ars j, dY b, dI vs, dI ars, dT bd, V0, aD5 b vs ars j, S5 b vs ars j] [(6, .ptr 5 0), (8, .ptr 6 0)] fun G => p8 (b0 (wp_seq (l7 G e5 [0, 1, 2, 3, 4, 5, 7] [K5 b vs ars j, dY b, dI vs, dI ars, dT bd, aD4 b vs ars j, S5 b vs ars j] [(6, .ptr 5 0)] fun G => b0 (wp_ret ?_)))))))); obtain ⟨ρ, G⟩ := G.nilT 7 (.exprs []) (aC9 b vs ars bd j []) [(6, .ptr 5 0)]; obtain ⟨ρ, G⟩ := G.nilT 8 (.stmts []) (aD0 b vs ars bd j []) [(6, .ptr 5 0)]; obtain ⟨ρ, G⟩ := G.nilT 9 (.stmts []) (aD1 b vs ars bd j []) [(6, .ptr 5 0)]; exact rxv (.agg [iA 1, iA (pk b (j + 1) (vs.length : Int)), iA 0, iA 0, .tref 7, iA (m8 b vs.length ars.length (j + 1 + 1)).fst.kind, iA (m8 b vs.length ars.length (j + 1 + 1)).fst.value, .tref 6, iA 0, .tref 8, .tref 9]) G [0, 1, 2, 3, 4, 7, 6, 8, 9] (by show _ = AV.ren (nth [0, 1, 2, 3, 4, 7, 6, 8, 9]) (G4 b vs ars d j); unfold G4; rw [P1 (by omega) (by omega), av7 (by omega)] <;> rfl) (by show _ = mR [0, 1, 2, 3, 4, 7, 6, 8, 9] (G3 b vs ars bd d j); unfold G3; rw [P1 (by omega) (by omega), av7 (by omega)] <;> rfl)
    have q11 := eq_of_beq h11; exact False.elim (by omega)
   have q10 := eq_of_beq h10; exact False.elim (by omega)
  refine wp_seq (l7 G (w7 4 [0, 1] (A6 b (j + 1) ((ars.length : Int)) (by omega) (by omega))) (rg 8) (.box [.ref 1, iA (j + 1 + 1)] :: (F5 b vs ars bd [.box [iA (nm b j B3), iA (pk b (j + 1) (ars.length : Int)), iA 0, iA 0, .v (.slice none 0 0), iA 0, iA 0, .v (.slice none 0 0), iA 0, .v (.slice none 0 0), .v (.slice none 0 0)]])) (J6 []) fun G => b0 (wp_seq (l7 G (w7 2 (rg 5) (aa2 b (j + 1 + 1) vs ars bd (by omega) (by omega))) [0, 1, 2, 3, 4, 5, 6, 7, 24] (.box [.ref 1, iA (j + 1 + 1 + 2)] :: (F5 b vs ars bd [.box [iA (nm b j B3), iA (pk b (j + 1) (ars.length : Int)), iA (j9 b (vs.length : Int) (j + 1 + 1)).kind, iA (j9 b (vs.length : Int) (j + 1 + 1)).value, .tref 8, iA 0, iA 0, .v (.slice none 0 0), iA 0, .v (.slice none 0 0), .v (.slice none 0 0)], .tree (D.exprs (j9 b (vs.length : Int) (j + 1 + 1)).kids)])) (J6 []) fun G => b0 (l7 G (w7 2 (rg 5) (K4 b vs ars bd (j + 1 + 1 + 2) (by omega) (by omega))) [0, 1, 2, 3, 4, 6, 7, 8, 25] (.box [.ref 1, iA (m8 b vs.length ars.length (j + 1 + 1 + 2)).snd] :: dY b :: dI vs :: dI ars :: dT bd :: V0 :: .box [iA (nm b j B3), iA (pk b (j + 1) (ars.length : Int)), iA (j9 b (vs.length : Int) (j + 1 + 1)).kind, iA (j9 b (vs.length : Int) (j + 1 + 1)).value, .tref 7, iA (m8 b vs.length ars.length (j + 1 + 1 + 2)).fst.kind, iA (m8 b vs.length ars.length (j + 1 + 1 + 2)).fst.value, .tref 8, iA 0, .v (.slice none 0 0), .v (.slice none 0 0)] :: (aC8 b vs ars j [])) [(6, .ptr 5 0), (8, .ptr 6 0)] fun G => p8 (b0 (wp_seq (l7 G e5 [0, 1, 2, 3, 4, 5, 7, 8] (.box [.ref 1, iA (m8 b vs.length ars.length (j + 1 + 1 + 2)).snd] :: dY b :: dI vs :: dI ars :: dT bd :: .box [iA (nm b j B3), iA (pk b (j + 1) (ars.length : Int)), iA (j9 b (vs.length : Int) (j + 1 + 1)).kind, iA (j9 b (vs.length : Int) (j + 1 + 1)).value, .tref 6, iA (m8 b vs.length ars.length (j + 1 + 1 + 2)).fst.kind, iA (m8 b vs.length ars.length (j + 1 + 1 + 2)).fst.value, .tref 7, iA 0, .v (.slice none 0 0), .v (.slice none 0 0)] :: (aC8 b vs ars j [])) [(6, .ptr 5 0)] fun G => b0 (wp_ret ?_)))))))); obtain ⟨ρ, G⟩ := G.nilT 8 (.stmts []) (.box [.ref 1, iA (m8 b vs.length ars.length (j + 1 + 1 + 2)).snd] :: dY b :: dI vs :: dI ars :: dT bd :: .box [iA (nm b j B3), iA (pk b (j + 1) (ars.length : Int)), iA (j9 b (vs.length : Int) (j + 1 + 1)).kind, iA (j9 b (vs.length : Int) (j + 1 + 1)).value, .tref 6, iA (m8 b vs.length ars.length (j + 1 + 1 + 2)).fst.kind, iA (m8 b vs.length ars.length (j + 1 + 1 + 2)).fst.value, .tref 7, iA 0, .tref 8, .v (.slice none 0 0)] :: (aC8 b vs ars j [])) [(6, .ptr 5 0)]; obtain ⟨ρ, G⟩ := G.nilT 9 (.stmts []) (.box [.ref 1, iA (m8 b vs.length ars.length (j + 1 + 1 + 2)).snd] :: dY b :: dI vs :: dI ars :: dT bd :: .box [iA (nm b j B3), iA (pk b (j + 1) (ars.length : Int)), iA (j9 b (vs.length : Int) (j + 1 + 1)).kind, iA (j9 b (vs.length : Int) (j + 1 + 1)).value, .tref 6, iA (m8 b vs.length ars.length (j + 1 + 1 + 2)).fst.kind, iA (m8 b vs.length ars.length (j + 1 + 1 + 2)).fst.value, .tref 7, iA 0, .tref 8, .tref 9] :: (aC8 b vs ars j [.tree (D.stmts [])])) [(6, .ptr 5 0)]
  exact rxv (.agg [iA (nm b j B3), iA (pk b (j + 1) (ars.length : Int)), iA (j9 b (vs.length : Int) (j + 1 + 1)).kind, iA (j9 b (vs.length : Int) (j + 1 + 1)).value, .tref 6, iA (m8 b vs.length ars.length (j + 1 + 1 + 2)).fst.kind, iA (m8 b vs.length ars.length (j + 1 + 1 + 2)).fst.value, .tref 7, iA 0, .tref 8, .tref 9]) G [0, 1, 2, 3, 4, 6, 7, 8, 9] (by show _ = AV.ren (nth [0, 1, 2, 3, 4, 6, 7, 8, 9]) (G4 b vs ars d j); unfold G4; have e1 : ((s4 b vs.length ars.length d j).fst.kind : Int) = (nm b j B3) := (by rw [aM5 (by omega) (by omega)]; show (2 : Int) = _; omega); rw [e1, aM5 (by omega) (by omega)] <;> rfl) (by show _ = mR [0, 1, 2, 3, 4, 6, 7, 8, 9] (G3 b vs ars bd d j); unfold G3; rw [aM5 (by omega) (by omega)] <;> rfl)
theorem aw5 (b : List UInt8) (vs ars : List Int) (bd : List b7) (d : Nat) (h : ∀ (j n : Int), n = d -> 0 <= j -> j + cS d <= 600000000 -> i8.ok Tryd.prog (dsC b vs ars bd d j n)) (m : Nat) (j n c B : Int) (hn : n = d) (hm : c = m) (hm2 : m <= 4) (hB : (m : Int) * cS d <= B) (r0 : 0 <= j) (r1 : j + B <= 600000000) : i8.ok Tryd.prog (dbC b vs ars bd d m j n c) :=
 aV7 b vs ars bd d m h j n c hn hm hm2 B hB r0 r1
theorem aS5 (b : List UInt8) (vs ars : List Int) (bd : List b7) : ∀ (d : Nat), d <= 3 -> ∀ (j n : Int), n = d -> 0 <= j -> j + cS d <= 600000000 -> i8.ok Tryd.prog (dsC b vs ars bd d j n)
 | 0, hd, j, n, hn, r0, r1 => aN2 b vs ars bd 0 (by omega) (fun j n c h => absurd h (by omega)) j n hn r0 r1
 | d + 1, hd, j, n, hn, r0, r1 => aN2 b vs ars bd (d + 1) hd (fun j n c h hn h0 h2 r0 r1 => aw5 b vs ars bd d (aS5 b vs ars bd d (by omega)) c.toNat j n c (2 * cS d) (by omega) (by omega) (by omega) (a86 h0 h2 (Int.le_trans (by decide) (ac0 d))) r0 (by simpa using r1)) j n hn r0 r1
theorem ba2 : cS 3 = 34170 := by decide
theorem a44 (b : List UInt8) (vs ars : List Int) (bd : List b7) (j n c : Int) (hn : n = 3) (h0 : 0 <= c) (h4 : c <= 4) (r0 : 0 <= j) (r1 : j <= 100000000) : i8.ok Tryd.prog (dbC b vs ars bd 3 c.toNat j n c) :=
 aw5 b vs ars bd 3 (aS5 b vs ars bd 3 (by omega)) c.toNat j n c (4 * cS 3) (by omega) (by omega) (by omega) (bd6 h0 h4 (by rw [ba2]; decide)) r0 (by rw [ba2]; omega)
abbrev pgC (b : List UInt8) (j : Int) : i8 := ⟨42, [.ptr 0 0], [.box [.ref 1, iA j], dY b], [.box [.ref 1, iA (bdD b j).2], dY b] ++ oP (pgD b j), oA 2⟩
theorem aF3 {b : List UInt8} {l : List Int} {n i p : Int} (h : i > 0) (h2 : i <= n) : U4 b l (n - (i - 1)).toNat p = U4 b l (n - i).toNat p ++ [nm b (p + (n - i)) l] := by
 rw [show (n - (i - 1)).toNat = (n - i).toNat + 1 by omega, aO9, show (((n - i).toNat : Nat) : Int) = n - i by omega]
theorem aF2 {b : List UInt8} {l : List Int} {n p : Int} : U4 b l (n - n).toNat p = [] := by rw [Int.sub_self]; rfl
theorem ac8 (vs ars : List Int) (bd : List b7) (hb : s6 bd <= 1048576) : i8.ok Tryd.prog (I3 22 [pA 0] [dI vs, dI ars, dT bd] (bA (w5 ⟨vs, ars, bd⟩))) := ai0 ⟨vs, ars, bd⟩ hb
theorem bd5 {b : List UInt8} {j : Int} (h : w5 ⟨Q1 b j, asD b j, (y8 (s4 b (Q1 b j).length (asD b j).length 3) (nm b (W8 b j) nbL).toNat (W8 b j + 1)).1⟩ = true) : pgD b j = ⟨Q1 b j, asD b j, (bdD b j).1⟩ := if_pos h
theorem bd4 {b : List UInt8} {j : Int} (h : w5 ⟨Q1 b j, asD b j, (y8 (s4 b (Q1 b j).length (asD b j).length 3) (nm b (W8 b j) nbL).toNat (W8 b j + 1)).1⟩ = false) : pgD b j = fbP := if_neg (by intro h2; have h3 : w5 ⟨Q1 b j, asD b j, (y8 (s4 b (Q1 b j).length (asD b j).length 3) (nm b (W8 b j) nbL).toNat (W8 b j + 1)).1⟩ = true := h2; rw [h] at h3; cases h3)
theorem a80 (b : List UInt8) (j : Int) : j + 1 + (nm b j O2 - 0) = A2 b j := by unfold A2; omega
theorem a79 (b : List UInt8) (j : Int) : U4 b viL (nm b j O2 - 0).toNat (j + 1) = Q1 b j := by unfold Q1; rw [Int.sub_zero]
theorem a78 (b : List UInt8) (j : Int) : A2 b j + 1 + (nm b (A2 b j) M6 - 0) = W8 b j := by unfold W8; omega
theorem a77 (b : List UInt8) (j : Int) : U4 b aiL (nm b (A2 b j) M6 - 0).toNat (A2 b j + 1) = asD b j := by unfold asD; rw [Int.sub_zero]
abbrev aa9 (b : List UInt8) (j : Int) := y8 (s4 b (Q1 b j).length (asD b j).length 3) (nm b (W8 b j) nbL).toNat (W8 b j + 1)
abbrev aD2 (b : List UInt8) (j : Int) : List It := [.box [.ref 1, iA (bdD b j).snd], dY b, .row 3 (D.ints (pgD b j).vars), .row 3 (D.ints (pgD b j).arrays), .tree (D.stmts (pgD b j).body)]
abbrev F6 : It := .box [.v (.slice none 0 0), .v (.slice none 0 0), .v (.slice none 0 0)]
abbrev ar2 : It := .box [.ref 4, .v (.slice none 0 0), .v (.slice none 0 0)]
abbrev aL5 : It := .tree (D.stmts [b7.mk 1 1 (b6.mk 0 0 []) (b6.mk 2 0 []) 0 [] []])
theorem aw3 (b : List UInt8) (j : Int) (r0 : 0 <= j) (r1 : j <= 10000000) : i8.ok Tryd.prog (pgC b j) := by
  refine H7 52 Tryd.func42 [.box [.ref 1, iA j], dY b] [(0, .ptr 0 0)] fun G => ?_; have hnv := a32 b r0 (by omega); have hk1 := aQ3 b r0 r1; have hk2 := aQ2 b r0 r1; have hna := a35 b (k := A2 b j) (by omega) (by omega); have hnb := a83 b (k := W8 b j) (by omega) (by omega); have hvl := aL7 b r0 r1; have hal := aT8 b r0 r1; have hbd := aT7 b r0 r1; have hbs : s6 (y8 (s4 b (Q1 b j).length (asD b j).length 3) (nm b (W8 b j) nbL).toNat (W8 b j + 1)).1 <= 1048576 := bg2 hbd.2.2 (by omega); refine wp_seq (l7 G e5 [0, 1, 2] [.box [.ref 1, iA j], dY b, F6] [(0, .ptr 0 0), (2, .ptr 2 0)] fun G => b0 (wp_seq (l7 G e5 [0, 1, 2, 11] [.box [.ref 1, iA j], dY b, F6, F6] [(0, .ptr 0 0), (2, .ptr 2 0), (3, .ptr 3 0)] fun G => b0 (wp_seq (wp_seq (l7 G (w7 2 [0, 1, 12] (i8.lend (D2 b j O2 (List.cons_ne_nil _ _) (by assumption) (by omega)) [.no, .no, .row 3])) (rg 4) [.box [.ref 1, iA (j + 1)], dY b, F6, F6] [(0, .ptr 0 0), (2, .ptr 2 0), (3, .ptr 3 0), (4, iA (nm b j O2))] fun G => b0 (wp_block ?_))))))); have Gx := G.nil 4 3 (.ints []) 1 [.box [.ref 1, iA (j + 1)], dY b, F6, ar2] [(0, .ptr 0 0), (2, .ptr 2 0), (3, .ptr 3 0), (4, iA (nm b j O2))]; clear G; obtain ⟨ρ, G⟩ := Gx; replace G := p9.at G [.box [.ref 1, iA (j + 1)], dY b, F6, ar2, .row 3 (D.ints [])] [(0, .ptr 0 0), (2, .ptr 2 0), (3, .ptr 3 0), (4, iA (nm b j O2))]; replace G := G.as [.box [.ref 1, iA (j + 1 + (nm b j O2 - nm b j O2))], dY b, .box [.v (.slice none 0 0), .v (.slice none 0 0), .v (.slice none 0 0)], .box [.ref 4, .v (.slice none 0 0), .v (.slice none 0 0)], .row 3 (D.ints (U4 b viL (nm b j O2 - nm b j O2).toNat (j + 1)))] [(0, .ptr 0 0), (2, .ptr 2 0), (3, .ptr 3 0), (4, iA (nm b j O2))] (by have e1 : (j + 1 + (nm b j O2 - nm b j O2) : Int) = (j + 1) := (by omega); have e2 : (U4 b viL (nm b j O2 - nm b j O2).toNat (j + 1) : List Int) = ([]) := aF2; (first | rw [e1, e2] | simp only [e1, e2]) <;> rfl) (by kernel_rfl); refine C3 (κ := Int) (fun i => 0 <= i /\ i <= nm b j O2) (fun i => i.toNat) (fun i => [.box [.ref 1, iA (j + 1 + (nm b j O2 - i))], dY b, .box [.v (.slice none 0 0), .v (.slice none 0 0), .v (.slice none 0 0)], .box [.ref 4, .v (.slice none 0 0), .v (.slice none 0 0)], .row 3 (.ints (U4 b viL (nm b j O2 - i).toNat (j + 1)))]) (fun i => [(0, .ptr 0 0), (2, .ptr 2 0), (3, .ptr 3 0), (4, iA i)]) (nm b j O2) (by omega) (p9.at G _ _) ?_; clear G; intro i ρ a w hp G; replace G := p9.at G [.box [.ref 1, iA (j + 1 + (nm b j O2 - i))], dY b, F6, ar2, .row 3 (D.ints (U4 b viL (nm b j O2 - i).toNat (j + 1)))] [(0, .ptr 0 0), (2, .ptr 2 0), (3, .ptr 3 0), (4, iA i)]; have hlen : (U4 b viL (nm b j O2 - i).toNat (j + 1)).length = (nm b j O2 - i).toNat := Q8 _ _ _ _; refine wp_seq (wp_seq (J4 G e5 [(0, .ptr 0 0), (2, .ptr 2 0), (3, .ptr 3 0), (4, iA i), (11, bA (decide (i > 0)))] fun G => b0 ?_)); cases h0 : (decide (i > 0))
  ·
   have q0 := T1 h0
   obtain rfl : i = 0 := by omega
   rw [a80, a79] at G; refine rF G false (by kernel_rfl) (wp_exit (B7 (B7 (B6 (b0 (wp_seq (wp_seq (l7 G (w7 2 [0, 1, 13] (i8.lend (D2 b (A2 b j) M6 (by simp [h0]) (by omega) (by omega)) [.no, .no, .row 3])) (rg 5) [.box [.ref 1, iA (A2 b j + 1)], dY b, F6, ar2, .row 3 (D.ints (Q1 b j))] [(0, .ptr 0 0), (2, .ptr 2 0), (3, .ptr 3 0), (5, iA (nm b (A2 b j) M6))] fun G => b0 (wp_block ?_))))))))); have Gx := G.nil 5 3 (.ints []) 1 [.box [.ref 1, iA (A2 b j + 1)], dY b, F6, .box [.ref 4, .ref 5, .v (.slice none 0 0)], .row 3 (D.ints (Q1 b j))] [(0, .ptr 0 0), (2, .ptr 2 0), (3, .ptr 3 0), (5, iA (nm b (A2 b j) M6))]; clear G; obtain ⟨ρ, G⟩ := Gx; replace G := p9.at G [.box [.ref 1, iA (A2 b j + 1)], dY b, F6, .box [.ref 4, .ref 5, .v (.slice none 0 0)], .row 3 (D.ints (Q1 b j)), .row 3 (D.ints [])] [(0, .ptr 0 0), (2, .ptr 2 0), (3, .ptr 3 0), (5, iA (nm b (A2 b j) M6))]; have Gx := G.nilT 6 (.stmts []) [.box [.ref 1, iA (A2 b j + 1)], dY b, F6, .box [.ref 4, .ref 5, .tref 6], .row 3 (D.ints (Q1 b j)), .row 3 (D.ints [])] [(0, .ptr 0 0), (2, .ptr 2 0), (3, .ptr 3 0), (5, iA (nm b (A2 b j) M6))]; clear G; obtain ⟨ρ, G⟩ := Gx; replace G := p9.at G [.box [.ref 1, iA (A2 b j + 1)], dY b, F6, .box [.ref 4, .ref 5, .tref 6], .row 3 (D.ints (Q1 b j)), .row 3 (D.ints []), .tree (D.stmts [])] [(0, .ptr 0 0), (2, .ptr 2 0), (3, .ptr 3 0), (5, iA (nm b (A2 b j) M6))]; replace G := G.as [.box [.ref 1, iA (A2 b j + 1 + (nm b (A2 b j) M6 - nm b (A2 b j) M6))], dY b, .box [.v (.slice none 0 0), .v (.slice none 0 0), .v (.slice none 0 0)], .box [.ref 4, .ref 5, .tref 6], .row 3 (D.ints (Q1 b j)), .row 3 (D.ints (U4 b aiL (nm b (A2 b j) M6 - nm b (A2 b j) M6).toNat (A2 b j + 1))), .tree (D.stmts [])] [(0, .ptr 0 0), (2, .ptr 2 0), (3, .ptr 3 0), (5, iA (nm b (A2 b j) M6))] (by have e1 : (A2 b j + 1 + (nm b (A2 b j) M6 - nm b (A2 b j) M6) : Int) = (A2 b j + 1) := (by omega); have e2 : (U4 b aiL (nm b (A2 b j) M6 - nm b (A2 b j) M6).toNat (A2 b j + 1) : List Int) = ([]) := aF2; (first | rw [e1, e2] | simp only [e1, e2]) <;> rfl) (by kernel_rfl); refine C3 (κ := Int) (fun i2 => 0 <= i2 /\ i2 <= nm b (A2 b j) M6) (fun i2 => i2.toNat) (fun i2 => [.box [.ref 1, iA (A2 b j + 1 + (nm b (A2 b j) M6 - i2))], dY b, .box [.v (.slice none 0 0), .v (.slice none 0 0), .v (.slice none 0 0)], .box [.ref 4, .ref 5, .tref 6], .row 3 (D.ints (Q1 b j)), .row 3 (.ints (U4 b aiL (nm b (A2 b j) M6 - i2).toNat (A2 b j + 1))), .tree (D.stmts [])]) (fun i2 => [(0, .ptr 0 0), (2, .ptr 2 0), (3, .ptr 3 0), (5, iA i2)]) (nm b (A2 b j) M6) (by omega) (p9.at G _ _) ?_; clear G; intro i2 ρ a w hp G; replace G := p9.at G [.box [.ref 1, iA (A2 b j + 1 + (nm b (A2 b j) M6 - i2))], dY b, F6, .box [.ref 4, .ref 5, .tref 6], .row 3 (D.ints (Q1 b j)), .row 3 (D.ints (U4 b aiL (nm b (A2 b j) M6 - i2).toNat (A2 b j + 1))), .tree (D.stmts [])] [(0, .ptr 0 0), (2, .ptr 2 0), (3, .ptr 3 0), (5, iA i2)]; have hlen : (U4 b aiL (nm b (A2 b j) M6 - i2).toNat (A2 b j + 1)).length = (nm b (A2 b j) M6 - i2).toNat := Q8 _ _ _ _; refine wp_seq (wp_seq (J4 G e5 [(0, .ptr 0 0), (2, .ptr 2 0), (3, .ptr 3 0), (5, iA i2), (26, bA (decide (i2 > 0)))] fun G => b0 ?_)); cases h1 : (decide (i2 > 0))
   ·
    have q1 := T1 h1
    obtain rfl : i2 = 0 := by omega
    rw [a78, a77] at G; refine rF G false (by kernel_rfl) (wp_exit (B7 (B7 (B6 (b0 (wp_seq (az3 G (x6 (n4 4 [0, 1, 31] (i8.lend (D2 b (W8 b j) nbL (by simp [h0, h1]) (by omega) (by omega)) [.no, .no, .row 3]) (n4 5 [0, 1, 4, 5, 6] (i8.lend (a44 b (Q1 b j) (asD b j) ([]) (W8 b j + 1) 3 (nm b (W8 b j) nbL) (by kernel_rfl) (by omega) (by omega) (by omega) (by omega)) [.no, .no, .row 3, .row 3, .tree]) x5)) fz []) [0, 0, 0, 0, 12, 31, 63, 127] [0, 1, 2, 3, 4, 5, 47] [.box [.ref 1, iA (aa9 b j).snd], dY b, F6, .box [.ref 4, .ref 5, .tref 6], .row 3 (D.ints (Q1 b j)), .row 3 (D.ints (asD b j)), .tree (D.stmts (aa9 b j).fst)] [(2, .ptr 2 0), (3, .ptr 3 0)] fun G => b0 (wp_seq (wp_seq (l6 G (w7 1 [4, 5, 6] (i8.lend (ac8 (Q1 b j) (asD b j) ((y8 (s4 b (Q1 b j).length (asD b j).length 3) (nm b (W8 b j) nbL).toNat (W8 b j + 1)).fst) (by assumption)) [.row 3, .row 3, .tree])) [(45, bA (w5 (d8.mk (Q1 b j) (asD b j) (aa9 b j).fst)))] fun G => b0 (rcB (b := w5 (d8.mk (Q1 b j) (asD b j) (y8 (s4 b (Q1 b j).length (asD b j).length (3 : Nat)) (nm b (W8 b j) nbL).toNat (W8 b j + 1)).fst)) G (fun h2 => ?_) fun h2 => ?_)))))))))))
    · refine wp_skip (b0 (wp_seq (l7 G e5 [0, 1, 2, 7, 31] [.box [.ref 1, iA (aa9 b j).snd], dY b, .box [.ref 3, .v (.slice none 0 0), .tref 4], .row 3 (D.ints ([0] ++ ([1] ++ []))), aL5] [(2, .ptr 2 0)] fun G => b0 (wp_ret ?_)))); have Gx := G.nil 5 3 (.ints []) 1 [.box [.ref 1, iA (aa9 b j).snd], dY b, .box [.ref 3, .ref 5, .tref 4], .row 3 (D.ints ([0] ++ ([1] ++ []))), aL5] [(2, .ptr 2 0)]; clear G; obtain ⟨ρ, G⟩ := Gx; replace G := p9.at G [.box [.ref 1, iA (aa9 b j).snd], dY b, .box [.ref 3, .ref 5, .tref 4], .row 3 (D.ints ([0] ++ ([1] ++ []))), aL5, .row 3 (D.ints [])] [(2, .ptr 2 0)]; exact O1 G [0, 1, 3, 5, 4] (by show _ = mR [0, 1, 3, 5, 4] (aD2 b j); unfold aD2; rw [bd4 (by with_reducible assumption)] <;> rfl)
    refine wp_seq (l7 G e5 [0, 1, 2, 4, 5, 6] [.box [.ref 1, iA (aa9 b j).snd], dY b, .box [.ref 3, .ref 4, .tref 5], .row 3 (D.ints (Q1 b j)), .row 3 (D.ints (asD b j)), .tree (D.stmts (aa9 b j).fst)] [(2, .ptr 2 0)] fun G => b0 (wp_ret (k8 ?_))); exact O1 G [0, 1, 3, 4, 5] (by show _ = mR [0, 1, 3, 4, 5] (aD2 b j); unfold aD2; rw [bd5 (by with_reducible assumption)] <;> rfl)
   have q1 := T0 h1; refine rT G _ h1 (wp_skip (b0 (wp_seq (wp_block (K8 G (w7 4 [0, 1, 31] (i8.lend (D2 b (A2 b j + 1 + (nm b (A2 b j) M6 - i2)) aiL (by simp [h0, h1]) (by omega) (by omega)) [.no, .no, .row 3])) [0, 1, 0, 0, 12, 28, 63, 127, 255] [0, 1, 2, 3, 4, 6, 55] [.box [.ref 1, iA (A2 b j + 1 + (nm b (A2 b j) M6 - i2) + 1)], dY b, F6, .box [.ref 4, .ref 6, .tref 5], .row 3 (D.ints (Q1 b j)), .tree (D.stmts []), .row 3 (D.ints (U4 b aiL (nm b (A2 b j) M6 - i2).toNat (A2 b j + 1) ++ ([nm b (A2 b j + 1 + (nm b (A2 b j) M6 - i2)) aiL] ++ [])))] [(0, .ptr 0 0), (2, .ptr 2 0), (3, .ptr 3 0), (5, iA i2)] (aP ((U4 b aiL (nm b (A2 b j) M6 - i2).toNat (A2 b j + 1)).length + ([nm b (A2 b j + 1 + (nm b (A2 b j) M6 - i2)) aiL] ++ []).length) 8 []) (aK (by simp only [bi6, bg0, bg4, Q8]; omega) bh8) fun G => p8 (b0 (M5 G e5 [(5, iA (i2 - 1))] [wO (i2 - 1)] (o1 (by omega)) fun G => b0 ?_))))))); exact rxn G (i2 - 1) (by omega) (by omega) [0, 1, 2, 3, 4, 6, 5] (by have e1 : (A2 b j + 1 + (nm b (A2 b j) M6 - (i2 - 1)) : Int) = (A2 b j + 1 + (nm b (A2 b j) M6 - i2) + 1) := (by omega); have e2 : (U4 b aiL (nm b (A2 b j) M6 - (i2 - 1)).toNat (A2 b j + 1) : List Int) = (U4 b aiL (nm b (A2 b j) M6 - i2).toNat (A2 b j + 1) ++ ([nm b (A2 b j + 1 + (nm b (A2 b j) M6 - i2)) aiL] ++ [])) := (aF3 (by omega) (by omega)); (first | rw [e1, e2] | simp only [e1, e2]) <;> rfl)
  have q0 := T0 h0; refine rT G _ h0 (wp_skip (b0 (wp_seq (wp_block (K8 G (w7 4 [0, 1, 29] (i8.lend (D2 b (j + 1 + (nm b j O2 - i)) viL (by simp [h0]) (by omega) (by omega)) [.no, .no, .row 3])) [0, 1, 0, 0, 12, 28, 63, 127, 255] [0, 1, 2, 3, 53] [.box [.ref 1, iA (j + 1 + (nm b j O2 - i) + 1)], dY b, F6, ar2, .row 3 (D.ints (U4 b viL (nm b j O2 - i).toNat (j + 1) ++ ([nm b (j + 1 + (nm b j O2 - i)) viL] ++ [])))] [(0, .ptr 0 0), (2, .ptr 2 0), (3, .ptr 3 0), (4, iA i)] (aP ((U4 b viL (nm b j O2 - i).toNat (j + 1)).length + ([nm b (j + 1 + (nm b j O2 - i)) viL] ++ []).length) 8 []) (aK (by simp only [bi6, bg0, bg4, Q8]; omega) bh8) fun G => p8 (b0 (M5 G e5 [(4, iA (i - 1))] [wO (i - 1)] (o1 (by omega)) fun G => b0 ?_))))))); exact rxn G (i - 1) (by omega) (by omega) (rg 5) (by have e1 : (j + 1 + (nm b j O2 - (i - 1)) : Int) = (j + 1 + (nm b j O2 - i) + 1) := (by omega); have e2 : (U4 b viL (nm b j O2 - (i - 1)).toNat (j + 1) : List Int) = (U4 b viL (nm b j O2 - i).toNat (j + 1) ++ ([nm b (j + 1 + (nm b j O2 - i)) viL] ++ [])) := (aF3 (by omega) (by omega)); (first | rw [e1, e2] | simp only [e1, e2]) <;> rfl)
abbrev mtC (b : List UInt8) (p : d8) (j : Int) : i8 := ⟨44, [.ptr 0 0, pA 2], [.box [.ref 1, iA j], dY b] ++ pS p, [.box [.ref 1, iA (mtD b p j).2], dY b] ++ pS p ++ oP (mtD b p j).1, oA 5⟩
section
variable {b : List UInt8} {p : d8} {j : Int}
theorem bd7 (h : pk b j 60 = 0) (h1 : (p.vars.length : Int) > 0) : mtD b p j = (⟨p.vars.set 0 (l1D b (j + 1)), p.arrays, p.body⟩, j + 1 + 2) := by
 rw [mtD, if_pos h, if_pos (by omega)]
theorem bd8 (h : pk b j 60 = 1) : mtD b p j = (⟨p.vars ++ bh1 (13 - p.vars.length) 1, p.arrays, p.body⟩, j + 1) := by
 rw [mtD, if_neg (by omega), if_pos h]
theorem be3 (h : pk b j 60 = 2) (h1 : (p.body.length : Int) > 0) : mtD b p j = (⟨p.vars, p.arrays, p.body.set 0 (kdS (p.body.getD 0 bf6) (nm b (j + 1) m2L))⟩, j + 1 + 1) := by
 rw [mtD, if_neg (by omega), if_neg (by omega), if_pos h, if_pos (by omega)]
theorem be2 (h : pk b j 60 = 3) (h1 : (p.body.length : Int) > 0) : mtD b p j = (⟨p.vars, p.arrays, p.body.set ((p.body.length : Int) - 1).toNat (tgS (p.body.getD ((p.body.length : Int) - 1).toNat bf6) (nm b (j + 1) m3L))⟩, j + 1 + 1) := by
 rw [mtD, if_neg (by omega), if_neg (by omega), if_neg (by omega), if_pos h, if_pos (by omega)]
theorem be1 (h : pk b j 60 = 4) (h1 : (p.body.length : Int) > 0) : mtD b p j = (⟨p.vars, p.arrays, p.body.set 0 (vvS (p.body.getD 0 bf6) (nm b (j + 1) m4L))⟩, j + 1 + 1) := by
 rw [mtD, if_neg (by omega), if_neg (by omega), if_neg (by omega), if_neg (by omega), if_pos h, if_pos (by omega)]
theorem be0 (h : pk b j 60 = 5) (h1 : (p.body.length : Int) > 0) : mtD b p j = (⟨p.vars, p.arrays, p.body.set 0 (ctS (p.body.getD 0 bf6) (nm b (j + 1) m5L))⟩, j + 1 + 1) := by
 rw [mtD, if_neg (by omega), if_neg (by omega), if_neg (by omega), if_neg (by omega), if_neg (by omega), if_pos h, if_pos (by omega)]
theorem bd9 (h : pk b j 60 = 6) : mtD b p j = (⟨[], [], []⟩, j + 1) := by
 rw [mtD, if_neg (by omega), if_neg (by omega), if_neg (by omega), if_neg (by omega), if_neg (by omega), if_neg (by omega), if_pos h]
theorem aI4 (h : (pk b j 60 = 0 /\ ¬ (p.vars.length : Int) > 0) \/ ((pk b j 60 = 2 \/ pk b j 60 = 3 \/ pk b j 60 = 4 \/ pk b j 60 = 5) /\ ¬ (p.body.length : Int) > 0) \/ (¬ pk b j 60 = 0 /\ ¬ pk b j 60 = 1 /\ ¬ pk b j 60 = 2 /\ ¬ pk b j 60 = 3 /\ ¬ pk b j 60 = 4 /\ ¬ pk b j 60 = 5 /\ ¬ pk b j 60 = 6)) : mtD b p j = (p, j + 1) := by
 unfold mtD
 (repeat' split) <;> first | rfl | (exfalso; omega)
theorem aO0 {k : Nat} : p.vars ++ bh1 (k + 1) 1 = (p.vars ++ bh1 k 1) ++ [1] := by
 rw [List.replicate_succ', bj8]
theorem a87 {k : Nat} (h : pk b j 60 = 1) (h1 : k <= 13 - p.vars.length) (h2 : ¬ (((p.vars ++ bh1 k (1 : Int)).length : Nat) : Int) <= 12) : mtD b p j = (⟨p.vars ++ bh1 k 1, p.arrays, p.body⟩, j + 1) := by
 simp only [bi6, List.length_replicate] at h2
 rw [bd8 h, show 13 - p.vars.length = k by omega]
end
abbrev ak1 (p : d8) := p.body.getD ((p.body.length : Int) - 1).toNat bf6
abbrev y5 (b : List UInt8) (p : d8) (j : Int) : List It := [.box [.ref 1, iA (mtD b p j).snd], dY b, dI p.vars, dI p.arrays, dT p.body, .row 3 (D.ints (mtD b p j).fst.vars), .row 3 (D.ints (mtD b p j).fst.arrays), .tree (D.stmts (mtD b p j).fst.body)]
abbrev ar1 : It := .box [.v (.slice none 0 0), .v (.slice none 0 0), .v (.slice none 0 0)]
abbrev aZ3 (b : List UInt8) (p : d8) (j : Int) : It := .tree (D.stmts (p.body.set 0 (b7.mk (p.body.getD 0 bf6).kind (p.body.getD 0 bf6).target (p.body.getD 0 bf6).index (b6.mk (p.body.getD 0 bf6).value.kind (nm b (j + 1) m4L) (p.body.getD 0 bf6).value.kids) (p.body.getD 0 bf6).count (p.body.getD 0 bf6).body (p.body.getD 0 bf6).els)))
abbrev O8 : It := .box [.ref 6, .ref 7, .tref 8]
abbrev aZ2 (b : List UInt8) (p : d8) (j : Int) : It := .tree (D.stmts (p.body.set 0 (b7.mk (nm b (j + 1) m2L) (p.body.getD 0 bf6).target (p.body.getD 0 bf6).index (p.body.getD 0 bf6).value (p.body.getD 0 bf6).count (p.body.getD 0 bf6).body (p.body.getD 0 bf6).els)))
abbrev aZ1 (b : List UInt8) (p : d8) (j : Int) : It := .tree (D.stmts (p.body.set 0 (b7.mk (p.body.getD 0 bf6).kind (p.body.getD 0 bf6).target (p.body.getD 0 bf6).index (p.body.getD 0 bf6).value (nm b (j + 1) m5L) (p.body.getD 0 bf6).body (p.body.getD 0 bf6).els)))
abbrev aZ0 (b : List UInt8) (p : d8) (j : Int) : It := .tree (D.stmts (p.body.set ((p.body.length : Int) - 1).toNat (b7.mk (ak1 p).kind (nm b (j + 1) m3L) (ak1 p).index (ak1 p).value (ak1 p).count (ak1 p).body (ak1 p).els)))
abbrev R9 (b : List UInt8) (p : d8) (r0 : List It) : List It := dY b :: dI p.vars :: dI p.arrays :: dT p.body :: O8 :: .row 3 (D.ints p.vars) :: .row 3 (D.ints p.arrays) :: r0
abbrev aj4 (p : d8) (r0 : List It) : List It := dI p.vars :: dI p.arrays :: dT p.body :: ar1 :: .row 3 (D.ints p.vars) :: .row 3 (D.ints p.arrays) :: r0
abbrev U8 (p : d8) (r0 : List It) : List It := .row 3 (D.ints p.arrays) :: .tree (D.stmts p.body) :: r0
abbrev ad9 (b : List UInt8) (p : d8) (j : Int) (r0 : List It) : List It := .box [.ref 1, iA (j + 1)] :: dY b :: dI p.vars :: dI p.arrays :: dT p.body :: r0
abbrev aC7 (b : List UInt8) (p : d8) (j : Int) (r0 : List (Nat × AV)) : List (Nat × AV) := (0, .ptr 0 0) :: (4, .ptr 5 0) :: (5, .ptr 9 0) :: (6, iA (p.body.length : Int)) :: (13, iA (pk b j 60)) :: r0
theorem N5 (b : List UInt8) (p : d8) (j : Int) (hb : p.size <= 1000000) (r0 : 0 <= j) (r1 : j <= 100000000) : i8.ok Tryd.prog (mtC b p j) := by
  refine H7 87 Tryd.func44 [.box [.ref 1, iA j], dY b, dI p.vars, dI p.arrays, dT p.body] [(0, .ptr 0 0), (1, pA 2)] fun G => ?_
  have hb1 : p.vars.length <= 1048576 /\ p.arrays.length <= 1048576 /\ s6 p.body <= 1048576 := by unfold d8.size at hb; omega
  have hb2 : p.body.length <= 1048576 := bg2 (V4 _) hb1.2.2; refine wp_seq (l7 G e5 [0, 1, 2, 3, 4, 5, 13] [.box [.ref 1, iA j], dY b, dI p.vars, dI p.arrays, dT p.body, .box (pL 2), ar1] [(0, .ptr 0 0), (3, .ptr 5 0), (4, .ptr 6 0)] fun G => b0 (wp_seq (l7 G (w7 1 [2, 3, 4] (aJ8 p.vars p.arrays p.body (bg2 hb (by omega)))) [0, 1, 2, 3, 4, 6, 15, 16, 17, 23] (.box [.ref 1, iA j] :: dY b :: (aj4 p [.tree (D.stmts p.body), O8])) [(0, .ptr 0 0), (4, .ptr 5 0), (5, .ptr 9 0)] fun G => b0 (wp_seq (l6 G e5 [(6, iA (p.body.length : Int))] fun G => b0 (wp_seq (wp_seq (l7 G (w7 1 [0, 1] (A6 b j 60 (by assumption) (by omega))) (rg 10) (.box [.ref 1, iA (j + 1)] :: dY b :: (aj4 p [.tree (D.stmts p.body), O8])) (aC7 b p j []) fun G => b0 (wp_block (wp_seq (l6 G e5 [(14, bA (pk b j 60 == 0))] fun G => b0 (W2 G (fun h0 q0 => ?_) fun h0 q0 => ?_))))))))))))
  ·
   refine wp_seq (J4 G e5 (aC7 b p j [(25, bA (pk b j 60 == 1))]) fun G => b0 (W2 G (fun h1 q1 => ?_) fun h1 q1 => ?_))
   ·
    refine wp_seq (l6 G e5 [(36, bA (pk b j 60 == 2))] fun G => b0 (W2 G (fun h2 q2 => ?_) fun h2 q2 => ?_))
    ·
     refine wp_seq (l6 G e5 [(47, bA (pk b j 60 == 3))] fun G => b0 (W2 G (fun h3 q3 => ?_) fun h3 q3 => ?_))
     ·
      refine wp_seq (l6 G e5 [(60, bA (pk b j 60 == 4))] fun G => b0 (W2 G (fun h4 q4 => ?_) fun h4 q4 => ?_))
      ·
       refine wp_seq (l6 G e5 [(72, bA (pk b j 60 == 5))] fun G => b0 (W2 G (fun h5 q5 => ?_) fun h5 q5 => ?_))
       ·
        refine wp_seq (l6 G e5 [(83, bA (pk b j 60 == 6))] fun G => b0 (W2 G (fun h6 q6 => ?_) fun h6 q6 => ?_))
        · refine wp_skip (p8 (b0 (wp_seq (l7 G e5 (rg 9) (.box [.ref 1, iA (j + 1)] :: (R9 b p [.tree (D.stmts p.body)])) [(4, .ptr 5 0)] fun G => b0 (wp_ret ?_))))); exact O1 G [0, 1, 2, 3, 4, 6, 7, 8] (by show _ = mR [0, 1, 2, 3, 4, 6, 7, 8] (y5 b p j); unfold y5; rw [aI4 (by omega)] <;> rfl)
        refine wp_seq (J4 G e5 [(4, .ptr 5 0), (5, .ptr 9 0)] fun G => b0 (wp_ret (C5 (k8 ?_)))); obtain ⟨ρ, G⟩ := G.nil 10 3 (.ints []) 1 (ad9 b p j (.box [.ref 10, .v (.slice none 0 0), .v (.slice none 0 0)] :: .row 3 (D.ints p.vars) :: (U8 p [.box [.ref 6, .ref 7, .tref 8]]))) [(4, .ptr 5 0), (5, .ptr 9 0)]; obtain ⟨ρ, G⟩ := G.nil 11 3 (.ints []) 1 (ad9 b p j (.box [.ref 10, .ref 11, .v (.slice none 0 0)] :: .row 3 (D.ints p.vars) :: (U8 p [.box [.ref 6, .ref 7, .tref 8], .row 3 (D.ints [])]))) [(4, .ptr 5 0), (5, .ptr 9 0)]; obtain ⟨ρ, G⟩ := G.nilT 12 (.stmts []) (ad9 b p j (.box [.ref 10, .ref 11, .tref 12] :: .row 3 (D.ints p.vars) :: (U8 p [.box [.ref 6, .ref 7, .tref 8], .row 3 (D.ints []), .row 3 (D.ints [])]))) [(4, .ptr 5 0), (5, .ptr 9 0)]; exact O1 G [0, 1, 2, 3, 4, 10, 11, 12] (by show _ = mR [0, 1, 2, 3, 4, 10, 11, 12] (y5 b p j); unfold y5; rw [bd9 (by omega)] <;> rfl)
       refine wp_seq (l6 G e5 [(75, bA (decide ((p.body.length : Int) > 0)))] fun G => b0 (rcD G (fun h7 q7 => ?_) fun h7 q7 => ?_))
       · refine wp_skip (p8 (b0 (wp_seq (l7 G e5 (rg 9) (.box [.ref 1, iA (j + 1)] :: (R9 b p [.tree (D.stmts p.body)])) [(4, .ptr 5 0)] fun G => b0 (wp_ret ?_))))); exact O1 G [0, 1, 2, 3, 4, 6, 7, 8] (by show _ = mR [0, 1, 2, 3, 4, 6, 7, 8] (y5 b p j); unfold y5; rw [aI4 (by omega)] <;> rfl)
       refine K8 G (w7 4 [0, 1, 34] (i8.lend (D2 b (j + 1) m5L (by simp [h0, h1, h2, h3, h4, h5, h7]) (by omega) (by omega)) [.no, .no, .row 3])) [0, 1, 0, 0, 12, 31, 63, 127] (rg 10) (.box [.ref 1, iA (j + 1 + 1)] :: dY b :: (aj4 p [aZ1 b p j, O8])) [(4, .ptr 5 0), (5, .ptr 9 0)] (iX 0 0 p.body.length []) (iK (by omega) bh8) fun G => p8 (b0 (wp_seq (l7 G e5 (rg 9) (.box [.ref 1, iA (j + 1 + 1)] :: (R9 b p [aZ1 b p j])) [(4, .ptr 5 0)] fun G => b0 (wp_ret ?_)))); exact O1 G [0, 1, 2, 3, 4, 6, 7, 8] (by show _ = mR [0, 1, 2, 3, 4, 6, 7, 8] (y5 b p j); unfold y5; rw [be0 (by omega) (by omega)] <;> rfl)
      refine wp_seq (l6 G e5 [(63, bA (decide ((p.body.length : Int) > 0)))] fun G => b0 (rcD G (fun h8 q8 => ?_) fun h8 q8 => ?_))
      · refine wp_skip (p8 (b0 (wp_seq (l7 G e5 (rg 9) (.box [.ref 1, iA (j + 1)] :: (R9 b p [.tree (D.stmts p.body)])) [(4, .ptr 5 0)] fun G => b0 (wp_ret ?_))))); exact O1 G [0, 1, 2, 3, 4, 6, 7, 8] (by show _ = mR [0, 1, 2, 3, 4, 6, 7, 8] (y5 b p j); unfold y5; rw [aI4 (by omega)] <;> rfl)
      refine K8 G (w7 4 [0, 1, 34] (i8.lend (D2 b (j + 1) m4L (by simp [h0, h1, h2, h3, h4, h8]) (by omega) (by omega)) [.no, .no, .row 3])) [0, 1, 0, 0, 12, 31, 63, 127, 255] (rg 10) (.box [.ref 1, iA (j + 1 + 1)] :: dY b :: (aj4 p [aZ3 b p j, O8])) [(4, .ptr 5 0), (5, .ptr 9 0)] (iX 0 0 p.body.length []) (iK (by omega) bh8) fun G => p8 (b0 (wp_seq (l7 G e5 (rg 9) (.box [.ref 1, iA (j + 1 + 1)] :: (R9 b p [aZ3 b p j])) [(4, .ptr 5 0)] fun G => b0 (wp_ret ?_)))); exact O1 G [0, 1, 2, 3, 4, 6, 7, 8] (by show _ = mR [0, 1, 2, 3, 4, 6, 7, 8] (y5 b p j); unfold y5; rw [be1 (by omega) (by omega)] <;> rfl)
     refine wp_seq (l6 G e5 [(50, bA (decide ((p.body.length : Int) > 0)))] fun G => b0 (rcD G (fun h9 q9 => ?_) fun h9 q9 => ?_))
     · refine wp_skip (p8 (b0 (wp_seq (l7 G e5 (rg 9) (.box [.ref 1, iA (j + 1)] :: (R9 b p [.tree (D.stmts p.body)])) [(4, .ptr 5 0)] fun G => b0 (wp_ret ?_))))); exact O1 G [0, 1, 2, 3, 4, 6, 7, 8] (by show _ = mR [0, 1, 2, 3, 4, 6, 7, 8] (y5 b p j); unfold y5; rw [aI4 (by omega)] <;> rfl)
     refine K8 G (w7 6 [0, 1, 50] (i8.lend (D2 b (j + 1) m3L (by simp [h0, h1, h2, h3, h9]) (by omega) (by omega)) [.no, .no, .row 3])) [0, 1, 0, 4, 0, 0, 48, 127, 255, 511] (rg 10) (.box [.ref 1, iA (j + 1 + 1)] :: dY b :: (aj4 p [aZ0 b p j, O8])) [(4, .ptr 5 0), (5, .ptr 9 0)] ((wO ((p.body.length : Int) - 1)) :: (iX ((p.body.length : Int) - 1) (((p.body.length : Int) - 1).toNat) p.body.length [])) ⟨oW (by omega), (iK (by omega) bh8)⟩ fun G => p8 (b0 (wp_seq (l7 G e5 (rg 9) (.box [.ref 1, iA (j + 1 + 1)] :: (R9 b p [aZ0 b p j])) [(4, .ptr 5 0)] fun G => b0 (wp_ret ?_)))); exact O1 G [0, 1, 2, 3, 4, 6, 7, 8] (by show _ = mR [0, 1, 2, 3, 4, 6, 7, 8] (y5 b p j); unfold y5; rw [be2 (by omega) (by omega)] <;> rfl)
    refine wp_seq (l6 G e5 [(39, bA (decide ((p.body.length : Int) > 0)))] fun G => b0 (rcD G (fun h10 q10 => ?_) fun h10 q10 => ?_))
    · refine wp_skip (p8 (b0 (wp_seq (l7 G e5 (rg 9) (.box [.ref 1, iA (j + 1)] :: (R9 b p [.tree (D.stmts p.body)])) [(4, .ptr 5 0)] fun G => b0 (wp_ret ?_))))); exact O1 G [0, 1, 2, 3, 4, 6, 7, 8] (by show _ = mR [0, 1, 2, 3, 4, 6, 7, 8] (y5 b p j); unfold y5; rw [aI4 (by omega)] <;> rfl)
    refine K8 G (w7 4 [0, 1, 34] (i8.lend (D2 b (j + 1) m2L (by simp [h0, h1, h2, h10]) (by omega) (by omega)) [.no, .no, .row 3])) [0, 1, 0, 0, 12, 31, 63, 127] (rg 10) (.box [.ref 1, iA (j + 1 + 1)] :: dY b :: (aj4 p [aZ2 b p j, O8])) [(4, .ptr 5 0), (5, .ptr 9 0)] (iX 0 0 p.body.length []) (iK (by omega) bh8) fun G => p8 (b0 (wp_seq (l7 G e5 (rg 9) (.box [.ref 1, iA (j + 1 + 1)] :: (R9 b p [aZ2 b p j])) [(4, .ptr 5 0)] fun G => b0 (wp_ret ?_)))); exact O1 G [0, 1, 2, 3, 4, 6, 7, 8] (by show _ = mR [0, 1, 2, 3, 4, 6, 7, 8] (y5 b p j); unfold y5; rw [be3 (by omega) (by omega)] <;> rfl)
   refine wp_block ?_; replace G := G.as (ad9 b p j (.box [.v (.slice none 0 0), .v (.slice none 0 0), .v (.slice none 0 0)] :: .row 3 (D.ints (p.vars ++ bh1 0 1)) :: (U8 p [.box [.ref 6, .ref 7, .tref 8]]))) (aC7 b p j [(25, bA (pk b j 60 == 1))]) (by have e1 : (p.vars ++ bh1 0 1 : List Int) = (p.vars) := (by simp [h0, h1]); (first | rw [e1] | simp only [e1]) <;> rfl) (by kernel_rfl); refine C3 (κ := Nat) (fun k => k <= 13 - p.vars.length) (fun k => 13 - p.vars.length - k) (fun k => [.box [.ref 1, iA (j + 1)], dY b, dI p.vars, dI p.arrays, dT p.body, .box [.v (.slice none 0 0), .v (.slice none 0 0), .v (.slice none 0 0)], .row 3 (.ints (p.vars ++ bh1 k 1)), .row 3 (D.ints p.arrays), .tree (D.stmts p.body), .box [.ref 6, .ref 7, .tref 8]]) (fun k => [(0, .ptr 0 0), (4, .ptr 5 0), (5, .ptr 9 0), (6, iA (p.body.length : Int)), (13, iA (pk b j 60)), (25, bA (pk b j 60 == 1))]) 0 (by omega) (p9.at G _ _) ?_; clear G; intro k ρ a w hp G; replace G := p9.at G (ad9 b p j (ar1 :: .row 3 (D.ints (p.vars ++ bh1 k 1)) :: (U8 p [O8]))) (aC7 b p j [(25, bA (pk b j 60 == 1))]); refine wp_seq (wp_seq (l6 G e5 [(30, bA (decide (((p.vars ++ bh1 k 1).length : Int) <= 12)))] fun G => b0 (rcD G (fun h12 q12 => ?_) fun h12 q12 => ?_)))
   · refine wp_exit (B7 (B7 (B6 (p8 (b0 (wp_seq (l7 G e5 (rg 9) (ad9 b p j (O8 :: .row 3 (D.ints (p.vars ++ bh1 k 1)) :: (U8 p []))) [(4, .ptr 5 0)] fun G => b0 (wp_ret ?_)))))))); exact O1 G [0, 1, 2, 3, 4, 6, 7, 8] (by show _ = mR [0, 1, 2, 3, 4, 6, 7, 8] (y5 b p j); unfold y5; rw [a87 (k := k) (by omega) (by omega) (by omega)] <;> rfl)
   refine wp_skip (b0 (wp_block (rA1 G e5 [0, 1, 2, 3, 4, 5, 7, 8, 9, 34] (ad9 b p j (ar1 :: (U8 p [.box [.ref 9, .ref 6, .tref 7], .row 3 (D.ints (p.vars ++ bh1 k 1 ++ ([1] ++ [])))]))) [(0, .ptr 0 0), (4, .ptr 5 0), (5, .ptr 8 0), (6, iA (p.body.length : Int)), (13, iA (pk b j 60)), (25, bA (pk b j 60 == 1))] (aP ((p.vars ++ bh1 k (1 : Int)).length + ([(1 : Int)] ++ []).length) 8 []) (aK (by simp only [bi6, List.length_replicate, bg0, bg4] at *; omega) bh8) fun G => p8 (b0 ?_)))); exact rxn G (k + 1) (by simp only [bi6, List.length_replicate, bg0, bg4] at *; omega) (by simp only [bi6, List.length_replicate, bg0, bg4] at *; omega) [0, 1, 2, 3, 4, 5, 9, 6, 7, 8] (by have e1 : (p.vars ++ bh1 (k + 1) 1 : List Int) = (p.vars ++ bh1 k 1 ++ ([1] ++ [])) := aO0; (first | rw [e1] | simp only [e1]) <;> rfl)
  refine wp_seq (l6 G e5 [(19, bA (decide ((p.vars.length : Int) > 0)))] fun G => b0 (rcD G (fun h11 q11 => ?_) fun h11 q11 => ?_))
  · refine wp_skip (p8 (b0 (wp_seq (l7 G e5 (rg 9) (.box [.ref 1, iA (j + 1)] :: (R9 b p [.tree (D.stmts p.body)])) [(4, .ptr 5 0)] fun G => b0 (wp_ret ?_))))); exact O1 G [0, 1, 2, 3, 4, 6, 7, 8] (by show _ = mR [0, 1, 2, 3, 4, 6, 7, 8] (y5 b p j); unfold y5; rw [aI4 (by omega)] <;> rfl)
  refine K8 G (w7 3 [0, 1] (aT5 b (j + 1) (by omega) (by omega))) [0, 1, 0, 4, 15, 31] (rg 10) (.box [.ref 1, iA (j + 1 + 2)] :: dY b :: dI p.vars :: dI p.arrays :: dT p.body :: ar1 :: .row 3 (D.ints (p.vars.set 0 (l1D b (j + 1)))) :: (U8 p [O8])) [(4, .ptr 5 0), (5, .ptr 9 0)] (iX 0 0 p.vars.length []) (iK (by omega) bh8) fun G => p8 (b0 (wp_seq (l7 G e5 (rg 9) (.box [.ref 1, iA (j + 1 + 2)] :: dY b :: dI p.vars :: dI p.arrays :: dT p.body :: O8 :: .row 3 (D.ints (p.vars.set 0 (l1D b (j + 1)))) :: (U8 p [])) [(4, .ptr 5 0)] fun G => b0 (wp_ret ?_)))); exact O1 G [0, 1, 2, 3, 4, 6, 7, 8] (by show _ = mR [0, 1, 2, 3, 4, 6, 7, 8] (y5 b p j); unfold y5; rw [bd7 (by omega) (by omega)] <;> rfl)
section
variable {b : List UInt8} {j : Int}
end
theorem bd0 (b : List UInt8) : 0 <= (bdD b 0).2 /\ (bdD b 0).2 <= 150000 := by
 have h := aT7 b (k := 0) (by omega) (by omega)
 have h2 := aQ2 b (k := 0) (by omega) (by omega)
 omega
theorem pg0 (b : List UInt8) : (pgD b 0).size <= 1000000 := bg2 (a27 b (by omega) (by omega)) (by omega)
theorem i8.twice {P : Program} {f : FuncId} {args : List AV} {pre S : List It} {d : D} {res : AV} {i : Nat} (hc : i8.ok P ⟨f, args, pre, S, res⟩) (S1 : List It) (hi : S[i]? = some (.dat d)) (hl : pre.length <= S.length)
  (hS : S.all (fun x => L8 S.length x.ids) = true) (hg : L8 S.length res.ids = true) (hl1 : S1.length = S.length + 1) (hd : m7 S1 S.length = .dat d) (h2 : ∀ ρ : Nat -> Value, ρ S.length = ρ i -> ∀ j, j < S.length -> (m7 S1 j).res ρ j = (m7 S j).res ρ j) : i8.ok P ⟨f, args, pre, S1, res⟩ := by
 intro ι φ ψ w0 w F ρ M
 refine (hc ι φ ψ w0 w F ρ M).mono ?_
 rintro x w' ⟨ρ1, h1, rfl, M1⟩
 have hi' : m7 S i = .dat d := by simp [m7, hi]
 have hlt : i < S.length := (bg3.1 hi).1
 have hinv : T3 (m7 S) ρ1 [S.length] := fun ρ' h j => by
  by_cases hj : j < S.length
  ·refine It.res_congr _ (fun k hk => h k ?_) (.inr (.inr (h j (by simp; omega))))
   have h1 := A1 (bg6.1 hS (S[j]) (bg1 hj)) k (by simpa [m7, bf7, bf5 hj] using hk)
   simp; omega
  rw [show m7 S j = .none by simp only [m7, bf7, bi7 (Nat.le_of_not_lt hj)]; rfl]; rfl
 obtain ⟨ρ2, h3, M2, h4⟩ := M1.newDat (id := S.length) (by simp [m7]) hinv (M1.datAt hi')
 have hρ : ρ2 i = ρ1 i := h3 i (by simp; omega)
 have e : l0 F ρ2 (j3 (m7 S) [(S.length, .dat d)]) = l0 F ρ2 (m7 S1) := by
  funext k
  cases k with
  | inl q => rfl
  | inr j =>
   simp only [l0, j3]
   by_cases hj : j = S.length
   ·subst hj; rw [if_pos rfl, hd]
   rw [if_neg hj]
   by_cases hj2 : j < S.length
   ·exact (h2 ρ2 (by rw [<- h4, hρ]) j hj2).symm
   rw [s7 (by omega), s7 (by omega)]
 rw [e] at M2
 refine ⟨ρ2, fun k hk => by
  have hk : k < pre.length := hk
  rw [h3 k (by simp; omega)]; exact h1 k hk, ?_, M2⟩
 exact congrArg _ (AV.val_congr res fun k hk => by
  have := A1 hg k hk
  exact h3 k (by simp; omega)).symm
theorem aK0 (c : List UInt8) : i8.ok Tryd.prog ⟨41, [.ref 0], [dY c], [dY c, .box [.ref 2, iA 0], dY (bsD c)], .ptr 1 0⟩ := by
 by_cases h : c.length <= 2000
 ·have e : bsD c = c := bh7 h
  rw [e]
  refine i8.twice (aC2 c h) (i := 0) _ rfl (by show (1 : Nat) <= 2; omega) rfl rfl rfl rfl fun ρ hρ j hj => ?_
  have hj : j < 2 := hj
  match j, hj with
  | 0, _ => rfl
  | 1, _ =>
   have hρ : ρ 2 = ρ 0 := hρ
   simp only [m7, bf7, bh4, bg7, bi8, It.res, AV.vals, AV.val, hρ]
 exact aC1 c (by omega)
abbrev xvL : List Int := [-1] ++ ([256] ++ ([1] ++ ([12] ++ [])))
abbrev xkL : List Int := [0] ++ ([12] ++ ([3] ++ ([4] ++ ([11] ++ []))))
abbrev evC (c : List UInt8) (p : d8) (e : b6) : i8 := ⟨31, [.ref 0], [dY c], [dY c] ++ pS p ++ eS e, .tup [pA 1, eA e 4]⟩
abbrev ak0 : It := .box [.v (.slice none 0 0), .v (.slice none 0 0), .v (.slice none 0 0)]
abbrev aj9 : It := .box [iA 0, iA 0, .v (.slice none 0 0)]
abbrev aa7 (r0 : List (Nat × AV)) : List (Nat × AV) := (2, .ptr 1 0) :: (3, .ptr 2 0) :: (4, .ptr 3 0) :: (5, .ptr 8 0) :: r0
abbrev aL4 (j : Int) (r0 : List It) : List It := .box [.v (.slice none 0 0), .v (.slice none 0 0), .v (.slice none 0 0)] :: .box [iA 0, iA 0, .v (.slice none 0 0)] :: .box [.ref 4, iA j] :: r0
theorem a75 (c b : List UInt8) (p q : d8) (ek ev : Int) (ks : List b6) (j k l : Int) (hk : pk b k 16 = 0) (r0 : 0 <= k) (r1 : k <= 10000000)
  (h0 : i8.ok Tryd.prog ⟨41, [.ref 0], [dY c], [dY c, .box [.ref 2, iA 0], dY b], .ptr 1 0⟩)
  (h1 : i8.ok Tryd.prog ⟨42, [.ptr 0 0], [.box [.ref 1, iA 0], dY b], [.box [.ref 1, iA j], dY b] ++ oP p, oA 2⟩)
  (h2 : i8.ok Tryd.prog ⟨59, [.ptr 0 0, pA 2], [.box [.ref 1, iA j], dY b] ++ pS p, [.box [.ref 1, iA k], dY b] ++ pS p ++ exO ⟨ek, ev, ks⟩, exA ⟨ek, ev, ks⟩ 5⟩)
  (h3 : i8.ok Tryd.prog ⟨44, [.ptr 0 0, pA 2], [.box [.ref 1, iA (k + 1 + 1)], dY b] ++ pS p, [.box [.ref 1, iA l], dY b] ++ pS p ++ oP q, oA 5⟩) : i8.ok Tryd.prog (evC c q ⟨ek, nm b (k + 1) xvL, ks⟩) := by
 have ho := h0; have hpg := h1; have hsm := h2; have hmt := h3; refine H7 37 Tryd.func31 [dY c] [(0, .ref 0)] fun G => ?_; refine wp_seq (l7 G e5 [0, 1, 9] [dY c, ak0, aj9] [(0, .ref 0), (2, .ptr 1 0), (3, .ptr 2 0)] fun G => b0 (wp_seq (l7 G (w7 1 [0] ho) [0, 1, 2, 11, 12] [dY c, ak0, aj9, .box [.ref 4, iA 0], dY b] [(2, .ptr 1 0), (3, .ptr 2 0), (4, .ptr 3 0)] fun G => b0 (wp_seq (l7 G (w7 1 [3, 4] hpg) [0, 1, 2, 3, 4, 13, 14, 15, 21] [dY c, ak0, aj9, .box [.ref 4, iA j], dY b, .row 3 (D.ints p.vars), .row 3 (D.ints p.arrays), .tree (D.stmts p.body), .box [.ref 5, .ref 6, .tref 7]] (aa7 []) fun G => b0 (wp_seq ?_)))))); obtain ⟨ρ, G⟩ := G.frz [.no, .no, .no, .no, .no, .row 3] (dY c :: (aL4 j [dY b, dI p.vars, .row 3 (D.ints p.arrays), .tree (D.stmts p.body), .box [.ref 5, .ref 6, .tref 7]])) (aa7 []); obtain ⟨ρ, G⟩ := G.frz [.no, .no, .no, .no, .no, .no, .row 3] (dY c :: (aL4 j [dY b, dI p.vars, dI p.arrays, .tree (D.stmts p.body), .box [.ref 5, .ref 6, .tref 7]])) (aa7 []); obtain ⟨ρ, G⟩ := G.frz [.no, .no, .no, .no, .no, .no, .no, .tree] (dY c :: (aL4 j [dY b, dI p.vars, dI p.arrays, dT p.body, .box (pL 5)])) (aa7 []); refine l7 G (w7 2 [3, 4, 5, 6, 7] hsm) [0, 1, 2, 3, 4, 5, 6, 7, 8, 25, 33] [dY c, ak0, aj9, .box [.ref 4, iA k], dY b, dI p.vars, dI p.arrays, dT p.body, .box (pL 5), .tree (D.exprs (b6.mk ek ev ks).kids), .box [iA (b6.mk ek ev ks).kind, iA (b6.mk ek ev ks).value, .tref 9]] (aa7 [(6, .ptr 10 0)]) fun G => b0 (wp_seq (wp_seq (l7 G (w7 1 [3, 4] (A6 b k 16 (by assumption) (by omega))) (rg 11) [dY c, ak0, aj9, .box [.ref 4, iA (k + 1)], dY b, dI p.vars, dI p.arrays, dT p.body, .box (pL 5), .tree (D.exprs (b6.mk ek ev ks).kids), .box [iA (b6.mk ek ev ks).kind, iA (b6.mk ek ev ks).value, .tref 9]] (aa7 [(6, .ptr 10 0), (15, iA (pk b k 16))]) fun G => b0 (wp_block (wp_seq (J4 G e5 (aa7 [(6, .ptr 10 0), (15, iA (pk b k 16)), (16, bA (pk b k 16 == 0))]) fun G => b0 ?_)))))); cases h0 : (pk b k (16 : Int) == 0)
 ·have q0 := ne_of_beq_false h0; exact False.elim (by omega)
 have q0 := eq_of_beq h0; refine rT G _ h0 (l7 G (w7 2 [3, 4, 19] (i8.lend (D2 b (k + 1) ([-1] ++ ([256] ++ ([1] ++ ([12] ++ [])))) (by simp [h0]) (by omega) (by omega)) [.no, .no, .row 3])) (rg 11) [dY c, ak0, aj9, .box [.ref 4, iA (k + 1 + 1)], dY b, dI p.vars, dI p.arrays, dT p.body, .box (pL 5), .tree (D.exprs (b6.mk ek ev ks).kids), .box [iA (b6.mk ek ev ks).kind, iA (nm b (k + 1) ([-1] ++ ([256] ++ ([1] ++ ([12] ++ []))))), .tref 9]] (aa7 [(6, .ptr 10 0)]) fun G => p8 (b0 (wp_seq (az3 G (w7 2 [3, 4, 5, 6, 7] hmt) [0, 0, 3, 0, 7, 31] [0, 1, 2, 9, 27, 28, 29] [dY c, .box [.ref 4, .ref 5, .tref 6], .box [iA (b6.mk ek ev ks).kind, iA (nm b (k + 1) ([-1] ++ ([256] ++ ([1] ++ ([12] ++ []))))), .tref 3], .tree (D.exprs (b6.mk ek ev ks).kids), .row 3 (D.ints q.vars), .row 3 (D.ints q.arrays), .tree (D.stmts q.body)] [(2, .ptr 1 0), (3, .ptr 2 0)] fun G => b0 (wp_ret ?_))))); obtain ⟨ρ, G⟩ := G.frz [.no, .no, .no, .tree, .row 3, .row 3, .tree] [dY c, .box (pL 4), .box [iA (b6.mk ek ev ks).kind, iA (nm b (k + 1) ([-1] ++ ([256] ++ ([1] ++ ([12] ++ []))))), .ref 3], dE (b6.mk ek ev ks).kids, dI q.vars, dI q.arrays, dT q.body] [(2, .ptr 1 0), (3, .ptr 2 0)]; exact O1 G [0, 4, 5, 6, 3]
abbrev aj8 : It := .box [.v (.slice none 0 0), .v (.slice none 0 0), .v (.slice none 0 0)]
abbrev aj7 : It := .box [iA 0, iA 0, .v (.slice none 0 0)]
abbrev U7 (r0 : List (Nat × AV)) : List (Nat × AV) := (2, .ptr 1 0) :: (3, .ptr 2 0) :: (4, .ptr 3 0) :: (5, .ptr 8 0) :: r0
abbrev aL3 (j : Int) (r0 : List It) : List It := .box [.v (.slice none 0 0), .v (.slice none 0 0), .v (.slice none 0 0)] :: .box [iA 0, iA 0, .v (.slice none 0 0)] :: .box [.ref 4, iA j] :: r0
theorem a74 (c b : List UInt8) (p q : d8) (ek ev : Int) (ks : List b6) (j k l : Int) (hk : pk b k 16 = 1) (r0 : 0 <= k) (r1 : k <= 10000000)
    (h0 : i8.ok Tryd.prog ⟨41, [.ref 0], [dY c], [dY c, .box [.ref 2, iA 0], dY b], .ptr 1 0⟩)
    (h1 : i8.ok Tryd.prog ⟨42, [.ptr 0 0], [.box [.ref 1, iA 0], dY b], [.box [.ref 1, iA j], dY b] ++ oP p, oA 2⟩)
    (h2 : i8.ok Tryd.prog ⟨59, [.ptr 0 0, pA 2], [.box [.ref 1, iA j], dY b] ++ pS p, [.box [.ref 1, iA k], dY b] ++ pS p ++ exO ⟨ek, ev, ks⟩, exA ⟨ek, ev, ks⟩ 5⟩)
    (h3 : i8.ok Tryd.prog ⟨44, [.ptr 0 0, pA 2], [.box [.ref 1, iA (k + 1 + 1)], dY b] ++ pS p, [.box [.ref 1, iA l], dY b] ++ pS p ++ oP q, oA 5⟩) : i8.ok Tryd.prog (evC c q ⟨nm b (k + 1) xkL, ev, ks⟩) := by
  have ho := h0; have hpg := h1; have hsm := h2; have hmt := h3; refine H7 37 Tryd.func31 [dY c] [(0, .ref 0)] fun G => ?_; refine wp_seq (l7 G e5 [0, 1, 9] [dY c, aj8, aj7] [(0, .ref 0), (2, .ptr 1 0), (3, .ptr 2 0)] fun G => b0 (wp_seq (l7 G (w7 1 [0] ho) [0, 1, 2, 11, 12] [dY c, aj8, aj7, .box [.ref 4, iA 0], dY b] [(2, .ptr 1 0), (3, .ptr 2 0), (4, .ptr 3 0)] fun G => b0 (wp_seq (l7 G (w7 1 [3, 4] hpg) [0, 1, 2, 3, 4, 13, 14, 15, 21] [dY c, aj8, aj7, .box [.ref 4, iA j], dY b, .row 3 (D.ints p.vars), .row 3 (D.ints p.arrays), .tree (D.stmts p.body), .box [.ref 5, .ref 6, .tref 7]] (U7 []) fun G => b0 (wp_seq ?_)))))); obtain ⟨ρ, G⟩ := G.frz [.no, .no, .no, .no, .no, .row 3] (dY c :: (aL3 j [dY b, dI p.vars, .row 3 (D.ints p.arrays), .tree (D.stmts p.body), .box [.ref 5, .ref 6, .tref 7]])) (U7 []); obtain ⟨ρ, G⟩ := G.frz [.no, .no, .no, .no, .no, .no, .row 3] (dY c :: (aL3 j [dY b, dI p.vars, dI p.arrays, .tree (D.stmts p.body), .box [.ref 5, .ref 6, .tref 7]])) (U7 []); obtain ⟨ρ, G⟩ := G.frz [.no, .no, .no, .no, .no, .no, .no, .tree] (dY c :: (aL3 j [dY b, dI p.vars, dI p.arrays, dT p.body, .box (pL 5)])) (U7 []); refine l7 G (w7 2 [3, 4, 5, 6, 7] hsm) [0, 1, 2, 3, 4, 5, 6, 7, 8, 25, 33] [dY c, aj8, aj7, .box [.ref 4, iA k], dY b, dI p.vars, dI p.arrays, dT p.body, .box (pL 5), .tree (D.exprs (b6.mk ek ev ks).kids), .box [iA (b6.mk ek ev ks).kind, iA (b6.mk ek ev ks).value, .tref 9]] (U7 [(6, .ptr 10 0)]) fun G => b0 (wp_seq (wp_seq (l7 G (w7 1 [3, 4] (A6 b k 16 (by assumption) (by omega))) (rg 11) [dY c, aj8, aj7, .box [.ref 4, iA (k + 1)], dY b, dI p.vars, dI p.arrays, dT p.body, .box (pL 5), .tree (D.exprs (b6.mk ek ev ks).kids), .box [iA (b6.mk ek ev ks).kind, iA (b6.mk ek ev ks).value, .tref 9]] (U7 [(6, .ptr 10 0), (15, iA (pk b k 16))]) fun G => b0 (wp_block (wp_seq (J4 G e5 (U7 [(6, .ptr 10 0), (15, iA (pk b k 16)), (16, bA (pk b k 16 == 0))]) fun G => b0 ?_)))))); cases h0 : (pk b k (16 : Int) == 0)
  ·
   have q0 := ne_of_beq_false h0; refine rF G _ h0 (wp_seq (J4 G e5 (U7 [(6, .ptr 10 0), (15, iA (pk b k 16)), (22, bA (pk b k 16 == 1))]) fun G => b0 ?_)); cases h1 : (pk b k (16 : Int) == 1)
   · have q1 := ne_of_beq_false h1; exact False.elim (by omega)
   have q1 := eq_of_beq h1; refine rT G _ h1 (l7 G (w7 2 [3, 4, 19] (i8.lend (D2 b (k + 1) ([0] ++ ([12] ++ ([3] ++ ([4] ++ ([11] ++ []))))) (by simp [h0, h1]) (by omega) (by omega)) [.no, .no, .row 3])) (rg 11) [dY c, aj8, aj7, .box [.ref 4, iA (k + 1 + 1)], dY b, dI p.vars, dI p.arrays, dT p.body, .box (pL 5), .tree (D.exprs (b6.mk ek ev ks).kids), .box [iA (nm b (k + 1) ([0] ++ ([12] ++ ([3] ++ ([4] ++ ([11] ++ [])))))), iA (b6.mk ek ev ks).value, .tref 9]] (U7 [(6, .ptr 10 0)]) fun G => p8 (b0 (wp_seq (az3 G (w7 2 [3, 4, 5, 6, 7] hmt) [0, 0, 3, 0, 7, 31] [0, 1, 2, 9, 27, 28, 29] [dY c, .box [.ref 4, .ref 5, .tref 6], .box [iA (nm b (k + 1) ([0] ++ ([12] ++ ([3] ++ ([4] ++ ([11] ++ [])))))), iA (b6.mk ek ev ks).value, .tref 3], .tree (D.exprs (b6.mk ek ev ks).kids), .row 3 (D.ints q.vars), .row 3 (D.ints q.arrays), .tree (D.stmts q.body)] [(2, .ptr 1 0), (3, .ptr 2 0)] fun G => b0 (wp_ret ?_))))); obtain ⟨ρ, G⟩ := G.frz [.no, .no, .no, .tree, .row 3, .row 3, .tree] [dY c, .box (pL 4), .box [iA (nm b (k + 1) ([0] ++ ([12] ++ ([3] ++ ([4] ++ ([11] ++ [])))))), iA (b6.mk ek ev ks).value, .ref 3], dE (b6.mk ek ev ks).kids, dI q.vars, dI q.arrays, dT q.body] [(2, .ptr 1 0), (3, .ptr 2 0)]; exact O1 G [0, 4, 5, 6, 3]
  have q0 := eq_of_beq h0; exact False.elim (by omega)
abbrev aj6 : It := .box [.v (.slice none 0 0), .v (.slice none 0 0), .v (.slice none 0 0)]
abbrev aj5 : It := .box [iA 0, iA 0, .v (.slice none 0 0)]
abbrev R8 (r0 : List (Nat × AV)) : List (Nat × AV) := (2, .ptr 1 0) :: (3, .ptr 2 0) :: (4, .ptr 3 0) :: (5, .ptr 8 0) :: r0
abbrev aL2 (j : Int) (r0 : List It) : List It := .box [.v (.slice none 0 0), .v (.slice none 0 0), .v (.slice none 0 0)] :: .box [iA 0, iA 0, .v (.slice none 0 0)] :: .box [.ref 4, iA j] :: r0
theorem a73 (c b : List UInt8) (p q : d8) (ek ev : Int) (ks : List b6) (j k l : Int) (hk : pk b k 16 = 2) (r0 : 0 <= k) (r1 : k <= 10000000)
    (h0 : i8.ok Tryd.prog ⟨41, [.ref 0], [dY c], [dY c, .box [.ref 2, iA 0], dY b], .ptr 1 0⟩)
    (h1 : i8.ok Tryd.prog ⟨42, [.ptr 0 0], [.box [.ref 1, iA 0], dY b], [.box [.ref 1, iA j], dY b] ++ oP p, oA 2⟩)
    (h2 : i8.ok Tryd.prog ⟨59, [.ptr 0 0, pA 2], [.box [.ref 1, iA j], dY b] ++ pS p, [.box [.ref 1, iA k], dY b] ++ pS p ++ exO ⟨ek, ev, ks⟩, exA ⟨ek, ev, ks⟩ 5⟩)
    (h3 : i8.ok Tryd.prog ⟨44, [.ptr 0 0, pA 2], [.box [.ref 1, iA (k + 1)], dY b] ++ pS p, [.box [.ref 1, iA l], dY b] ++ pS p ++ oP q, oA 5⟩) : i8.ok Tryd.prog (evC c q ⟨3, 0, [⟨ek, ev, ks⟩]⟩) := by
  have ho := h0; have hpg := h1; have hsm := h2; have hmt := h3; refine H7 37 Tryd.func31 [dY c] [(0, .ref 0)] fun G => ?_; refine wp_seq (l7 G e5 [0, 1, 9] [dY c, aj6, aj5] [(0, .ref 0), (2, .ptr 1 0), (3, .ptr 2 0)] fun G => b0 (wp_seq (l7 G (w7 1 [0] ho) [0, 1, 2, 11, 12] [dY c, aj6, aj5, .box [.ref 4, iA 0], dY b] [(2, .ptr 1 0), (3, .ptr 2 0), (4, .ptr 3 0)] fun G => b0 (wp_seq (l7 G (w7 1 [3, 4] hpg) [0, 1, 2, 3, 4, 13, 14, 15, 21] [dY c, aj6, aj5, .box [.ref 4, iA j], dY b, .row 3 (D.ints p.vars), .row 3 (D.ints p.arrays), .tree (D.stmts p.body), .box [.ref 5, .ref 6, .tref 7]] (R8 []) fun G => b0 (wp_seq ?_)))))); obtain ⟨ρ, G⟩ := G.frz [.no, .no, .no, .no, .no, .row 3] (dY c :: (aL2 j [dY b, dI p.vars, .row 3 (D.ints p.arrays), .tree (D.stmts p.body), .box [.ref 5, .ref 6, .tref 7]])) (R8 []); obtain ⟨ρ, G⟩ := G.frz [.no, .no, .no, .no, .no, .no, .row 3] (dY c :: (aL2 j [dY b, dI p.vars, dI p.arrays, .tree (D.stmts p.body), .box [.ref 5, .ref 6, .tref 7]])) (R8 []); obtain ⟨ρ, G⟩ := G.frz [.no, .no, .no, .no, .no, .no, .no, .tree] (dY c :: (aL2 j [dY b, dI p.vars, dI p.arrays, dT p.body, .box (pL 5)])) (R8 []); refine l7 G (w7 2 [3, 4, 5, 6, 7] hsm) [0, 1, 2, 3, 4, 5, 6, 7, 8, 25, 33] [dY c, aj6, aj5, .box [.ref 4, iA k], dY b, dI p.vars, dI p.arrays, dT p.body, .box (pL 5), .tree (D.exprs (b6.mk ek ev ks).kids), .box [iA (b6.mk ek ev ks).kind, iA (b6.mk ek ev ks).value, .tref 9]] (R8 [(6, .ptr 10 0)]) fun G => b0 (wp_seq (wp_seq (l7 G (w7 1 [3, 4] (A6 b k 16 (by assumption) (by omega))) (rg 11) [dY c, aj6, aj5, .box [.ref 4, iA (k + 1)], dY b, dI p.vars, dI p.arrays, dT p.body, .box (pL 5), .tree (D.exprs (b6.mk ek ev ks).kids), .box [iA (b6.mk ek ev ks).kind, iA (b6.mk ek ev ks).value, .tref 9]] (R8 [(6, .ptr 10 0), (15, iA (pk b k 16))]) fun G => b0 (wp_block (wp_seq (J4 G e5 (R8 [(6, .ptr 10 0), (15, iA (pk b k 16)), (16, bA (pk b k 16 == 0))]) fun G => b0 ?_)))))); cases h0 : (pk b k (16 : Int) == 0)
  ·
   have q0 := ne_of_beq_false h0; refine rF G _ h0 (wp_seq (J4 G e5 (R8 [(6, .ptr 10 0), (15, iA (pk b k 16)), (22, bA (pk b k 16 == 1))]) fun G => b0 ?_)); cases h1 : (pk b k (16 : Int) == 1)
   ·
    have q1 := ne_of_beq_false h1; refine rF G _ h1 (wp_seq (J4 G e5 (R8 [(6, .ptr 10 0), (28, bA (pk b k 16 == 2))]) fun G => b0 ?_)); cases h2 : (pk b k (16 : Int) == 2)
    · have q2 := ne_of_beq_false h2; exact False.elim (by omega)
    have q2 := eq_of_beq h2; refine rT G _ h2 (l7 G e5 [0, 1, 2, 3, 4, 5, 6, 7, 8, 10, 19] [dY c, aj6, aj5, .box [.ref 4, iA (k + 1)], dY b, dI p.vars, dI p.arrays, dT p.body, .box (pL 5), .box [iA 3, iA 0, .tref 10], .tree (D.exprs [qzE (b6.mk ek ev ks)])] (R8 [(6, .ptr 9 0)]) fun G => p8 (b0 (wp_seq (az3 G (w7 2 [3, 4, 5, 6, 7] hmt) [0, 0, 3, 0, 7, 31] [0, 1, 2, 10, 27, 28, 29] [dY c, .box [.ref 4, .ref 5, .tref 6], .box [iA 3, iA 0, .tref 3], .tree (D.exprs [qzE (b6.mk ek ev ks)]), .row 3 (D.ints q.vars), .row 3 (D.ints q.arrays), .tree (D.stmts q.body)] [(2, .ptr 1 0), (3, .ptr 2 0)] fun G => b0 (wp_ret ?_))))); obtain ⟨ρ, G⟩ := G.frz [.no, .no, .no, .tree, .row 3, .row 3, .tree] [dY c, .box (pL 4), .box [iA 3, iA 0, .ref 3], dE [qzE (b6.mk ek ev ks)], dI q.vars, dI q.arrays, dT q.body] [(2, .ptr 1 0), (3, .ptr 2 0)]; exact O1 G [0, 4, 5, 6, 3]
   have q1 := eq_of_beq h1; exact False.elim (by omega)
  have q0 := eq_of_beq h0; exact False.elim (by omega)
abbrev ar0 : It := .box [.v (.slice none 0 0), .v (.slice none 0 0), .v (.slice none 0 0)]
abbrev aq9 : It := .box [iA 0, iA 0, .v (.slice none 0 0)]
abbrev U6 (r0 : List (Nat × AV)) : List (Nat × AV) := (2, .ptr 1 0) :: (3, .ptr 2 0) :: (4, .ptr 3 0) :: (5, .ptr 8 0) :: r0
abbrev aL1 (j : Int) (r0 : List It) : List It := .box [.v (.slice none 0 0), .v (.slice none 0 0), .v (.slice none 0 0)] :: .box [iA 0, iA 0, .v (.slice none 0 0)] :: .box [.ref 4, iA j] :: r0
theorem a71 (c b : List UInt8) (p q : d8) (ek ev : Int) (ks : List b6) (j k l : Int) (hk : ¬ pk b k 16 = 0 /\ ¬ pk b k 16 = 1 /\ ¬ pk b k 16 = 2) (r0 : 0 <= k) (r1 : k <= 10000000)
    (h0 : i8.ok Tryd.prog ⟨41, [.ref 0], [dY c], [dY c, .box [.ref 2, iA 0], dY b], .ptr 1 0⟩)
    (h1 : i8.ok Tryd.prog ⟨42, [.ptr 0 0], [.box [.ref 1, iA 0], dY b], [.box [.ref 1, iA j], dY b] ++ oP p, oA 2⟩)
    (h2 : i8.ok Tryd.prog ⟨59, [.ptr 0 0, pA 2], [.box [.ref 1, iA j], dY b] ++ pS p, [.box [.ref 1, iA k], dY b] ++ pS p ++ exO ⟨ek, ev, ks⟩, exA ⟨ek, ev, ks⟩ 5⟩)
    (h3 : i8.ok Tryd.prog ⟨44, [.ptr 0 0, pA 2], [.box [.ref 1, iA (k + 1)], dY b] ++ pS p, [.box [.ref 1, iA l], dY b] ++ pS p ++ oP q, oA 5⟩) : i8.ok Tryd.prog (evC c q ⟨ek, ev, ks⟩) := by
  have ho := h0; have hpg := h1; have hsm := h2; have hmt := h3; refine H7 37 Tryd.func31 [dY c] [(0, .ref 0)] fun G => ?_; refine wp_seq (l7 G e5 [0, 1, 9] [dY c, ar0, aq9] [(0, .ref 0), (2, .ptr 1 0), (3, .ptr 2 0)] fun G => b0 (wp_seq (l7 G (w7 1 [0] ho) [0, 1, 2, 11, 12] [dY c, ar0, aq9, .box [.ref 4, iA 0], dY b] [(2, .ptr 1 0), (3, .ptr 2 0), (4, .ptr 3 0)] fun G => b0 (wp_seq (l7 G (w7 1 [3, 4] hpg) [0, 1, 2, 3, 4, 13, 14, 15, 21] [dY c, ar0, aq9, .box [.ref 4, iA j], dY b, .row 3 (D.ints p.vars), .row 3 (D.ints p.arrays), .tree (D.stmts p.body), .box [.ref 5, .ref 6, .tref 7]] (U6 []) fun G => b0 (wp_seq ?_)))))); obtain ⟨ρ, G⟩ := G.frz [.no, .no, .no, .no, .no, .row 3] (dY c :: (aL1 j [dY b, dI p.vars, .row 3 (D.ints p.arrays), .tree (D.stmts p.body), .box [.ref 5, .ref 6, .tref 7]])) (U6 []); obtain ⟨ρ, G⟩ := G.frz [.no, .no, .no, .no, .no, .no, .row 3] (dY c :: (aL1 j [dY b, dI p.vars, dI p.arrays, .tree (D.stmts p.body), .box [.ref 5, .ref 6, .tref 7]])) (U6 []); obtain ⟨ρ, G⟩ := G.frz [.no, .no, .no, .no, .no, .no, .no, .tree] (dY c :: (aL1 j [dY b, dI p.vars, dI p.arrays, dT p.body, .box (pL 5)])) (U6 []); refine l7 G (w7 2 [3, 4, 5, 6, 7] hsm) [0, 1, 2, 3, 4, 5, 6, 7, 8, 25, 33] [dY c, ar0, aq9, .box [.ref 4, iA k], dY b, dI p.vars, dI p.arrays, dT p.body, .box (pL 5), .tree (D.exprs (b6.mk ek ev ks).kids), .box [iA (b6.mk ek ev ks).kind, iA (b6.mk ek ev ks).value, .tref 9]] (U6 [(6, .ptr 10 0)]) fun G => b0 (wp_seq (wp_seq (l7 G (w7 1 [3, 4] (A6 b k 16 (by assumption) (by omega))) (rg 11) [dY c, ar0, aq9, .box [.ref 4, iA (k + 1)], dY b, dI p.vars, dI p.arrays, dT p.body, .box (pL 5), .tree (D.exprs (b6.mk ek ev ks).kids), .box [iA (b6.mk ek ev ks).kind, iA (b6.mk ek ev ks).value, .tref 9]] (U6 [(6, .ptr 10 0), (15, iA (pk b k 16))]) fun G => b0 (wp_block (wp_seq (J4 G e5 (U6 [(6, .ptr 10 0), (15, iA (pk b k 16)), (16, bA (pk b k 16 == 0))]) fun G => b0 ?_)))))); cases h0 : (pk b k (16 : Int) == 0)
  ·
   have q0 := ne_of_beq_false h0; refine rF G _ h0 (wp_seq (J4 G e5 (U6 [(6, .ptr 10 0), (15, iA (pk b k 16)), (22, bA (pk b k 16 == 1))]) fun G => b0 ?_)); cases h1 : (pk b k (16 : Int) == 1)
   ·
    have q1 := ne_of_beq_false h1; refine rF G _ h1 (wp_seq (J4 G e5 (U6 [(6, .ptr 10 0), (28, bA (pk b k 16 == 2))]) fun G => b0 ?_)); cases h2 : (pk b k (16 : Int) == 2)
    · have q2 := ne_of_beq_false h2; refine rF G _ h2 (wp_skip (p8 (b0 (wp_seq (az3 G (w7 2 [3, 4, 5, 6, 7] hmt) [0, 0, 3, 0, 7, 31] [0, 1, 2, 9, 27, 28, 29] [dY c, .box [.ref 4, .ref 5, .tref 6], .box [iA (b6.mk ek ev ks).kind, iA (b6.mk ek ev ks).value, .tref 3], .tree (D.exprs (b6.mk ek ev ks).kids), .row 3 (D.ints q.vars), .row 3 (D.ints q.arrays), .tree (D.stmts q.body)] [(2, .ptr 1 0), (3, .ptr 2 0)] fun G => b0 (wp_ret ?_)))))); obtain ⟨ρ, G⟩ := G.frz [.no, .no, .no, .tree, .row 3, .row 3, .tree] [dY c, .box (pL 4), .box (eL (b6.mk ek ev ks) 3), dE (b6.mk ek ev ks).kids, dI q.vars, dI q.arrays, dT q.body] [(2, .ptr 1 0), (3, .ptr 2 0)]; exact O1 G [0, 4, 5, 6, 3]
    have q2 := eq_of_beq h2; exact False.elim (by omega)
   have q1 := eq_of_beq h1; exact False.elim (by omega)
  have q0 := eq_of_beq h0; exact False.elim (by omega)
theorem aS6 (c : List UInt8) : ∃ (p : d8) (e : b6), i8.ok Tryd.prog (evC c p e) := by
 have hb := bd0 (bsD c)
 have h1 := aw3 (bsD c) 0 (by omega) (by omega)
 have hp := pg0 (bsD c)
 unfold pgC at h1
 generalize bdD (bsD c) 0 = bj at *
 generalize pgD (bsD c) 0 = p at *
 obtain ⟨bd, j⟩ := bj
 dsimp only at hb h1
 have h2 := K4 (bsD c) p.vars p.arrays p.body j (by omega) (by omega)
 have h3 := as7 (bsD c) p.vars.length p.arrays.length (k := j) (by omega) (by omega)
 unfold smC dwS at h2
 generalize m8 (bsD c) p.vars.length p.arrays.length j = x at *
 obtain ⟨⟨ek, ev, ks⟩, k⟩ := x
 dsimp only at h2 h3
 have h0 := aK0 c
 by_cases e0 : pk (bsD c) k 16 = 0
 ·exact ⟨_, _, a75 c (bsD c) p _ ek ev ks j k _ e0 (by omega) (by omega) h0 h1 h2 (N5 (bsD c) p (k + 1 + 1) hp (by omega) (by omega))⟩
 by_cases e1 : pk (bsD c) k 16 = 1
 ·exact ⟨_, _, a74 c (bsD c) p _ ek ev ks j k _ e1 (by omega) (by omega) h0 h1 h2 (N5 (bsD c) p (k + 1 + 1) hp (by omega) (by omega))⟩
 by_cases e2 : pk (bsD c) k 16 = 2
 ·exact ⟨_, _, a73 c (bsD c) p _ ek ev ks j k _ e2 (by omega) (by omega) h0 h1 h2 (N5 (bsD c) p (k + 1) hp (by omega) (by omega))⟩
 exact ⟨_, _, a71 c (bsD c) p _ ek ev ks j k _ ⟨e0, e1, e2⟩ (by omega) (by omega) h0 h1 h2 (N5 (bsD c) p (k + 1) hp (by omega) (by omega))⟩
end Go.Proofs.YtcahndjigkledaaDoor

namespace Go.Proofs.YtcahndjigkledaaDoor
open Go
def j6 (l : List UInt8) : ByteArray := ⟨l.toArray⟩
theorem j4 (l : List UInt8) : (j6 l).size = l.length := rfl
theorem ar9 (l : List UInt8) : (j6 l).toList = l := by
 simp [j6, ByteArray.toList_eq]
theorem Q4 (l m : List UInt8) : j6 l ++ j6 m = j6 (l ++ m) := by
 apply ByteArray.ext; simp [j6]
def stT (k t c : Int) (ix v b e : List UInt8) : List UInt8 :=
 if k = 1 then [UInt8.ofNat (97 + t.toNat)] ++ [58, 61] ++ v ++ [59]
 else if k = 5 then [UInt8.ofNat (97 + t.toNat)] ++ [33, 61] ++ v ++ [59]
 else if k = 2 then [UInt8.ofNat (80 + t.toNat)] ++ [91] ++ ix ++ [93, 58, 61] ++ v ++ [59]
 else if k = 3 then [105, 102] ++ v ++ [123] ++ b ++ [125, 123] ++ e ++ [125]
 else [114, 101, 112, 101, 97, 116] ++ Lib.decDigits c.toNat ++ [123] ++ b ++ [125]
mutual
def aH5 : b7 -> List UInt8
 | ⟨k, t, ix, v, c, b, e⟩ => stT k t c (c6 ix) (c6 v) (f9 b) (f9 e)
def f9 : List b7 -> List UInt8
 | [] => []
 | s :: r => aH5 s ++ f9 r
end
theorem L5 (s : b7) : aH5 s = stT s.kind s.target s.count (c6 s.index) (c6 s.value) (f9 s.body) (f9 s.els) := by
 cases s; simp only [aH5]; rfl
theorem am5 (a b : List b7) : f9 (a ++ b) = f9 a ++ f9 b := by
 induction a with
 | nil => simp [f9]
 | cons x r ih => simp [f9, ih]
theorem I4 {ss : List b7} {k : Nat} (h : k < ss.length) : f9 (ss.take (k + 1)) = f9 (ss.take k) ++ aH5 (ss.getD k bf6) := by
 rw [y7 ss k h, am5, m5 h]; simp [f9]
theorem C8 {nv na : Nat} {e : b6} (h : d9 nv na e = true) : (c6 e).length <= 8192 := by
 unfold d9 at h
 simp only [bf8] at h
 exact i7 nv na 5 e h.1
theorem aU8 {k t c : Int} {ix v b e : List UInt8} (hi : k = 2 -> ix.length <= 8192) (hv : k ≠ 4 -> v.length <= 8192) (hc : k = 4 -> c < 1000) (hk : k = 1 \/ k = 2 \/ k = 3 \/ k = 4 \/ k = 5) :
  (stT k t c ix v b e).length <= 20000 + b.length + e.length := by
 unfold stT
 repeat' split
 all_goals (simp only [bi6, bg0, bg4])
 ·have := hv (by omega); omega
 ·have := hv (by omega); omega
 ·have := hv (by omega); have := hi (by omega); omega
 ·have := hv (by omega); omega
 have := Z4 (n := c.toNat) (by have := hc (by omega); omega); omega
theorem x3 {nv na d : Nat} {s : b7} (h : f8 nv na (d + 1) s = true) : (s.kind = 1 \/ s.kind = 2 \/ s.kind = 3 \/ s.kind = 4 \/ s.kind = 5) /\
    ((s.kind = 1 \/ s.kind = 5) -> 0 <= s.target /\ s.target < nv) /\ (s.kind = 2 -> 0 <= s.target /\ s.target < na /\ d9 nv na s.index = true /\ C1 s.index = true) /\
    (s.kind ≠ 4 -> d9 nv na s.value = true) /\ (s.kind = 4 -> 1 <= s.count /\ s.count <= 3) /\ (∀ x ∈ s.body, f8 nv na d x = true) /\ (∀ x ∈ s.els, f8 nv na d x = true) := by
  have hb := H3 h
  rw [f8, bf8] at h
  obtain ⟨h0, h⟩ := h
  refine ⟨?_, ?_, ?_, ?_, ?_, bg6.1 hb.1, bg6.1 hb.2⟩
  all_goals
    by_cases k1 : s.kind = 1 \/ s.kind = 5
    · rw [if_pos k1] at h
      simp only [bf8, decide_eq_true_eq] at h
      first | omega | exact fun _ => ⟨h.1.1, h.1.2⟩ | (intro h2; omega) | exact fun _ => h.2
    rw [if_neg k1] at h
    by_cases k2 : s.kind = 2
    · rw [if_pos k2] at h
      simp only [bf8, decide_eq_true_eq] at h
      first | omega | exact fun _ => ⟨h.1.1.1.1, h.1.1.1.2, h.1.1.2, h.1.2⟩ | (intro h2; omega) | exact fun _ => h.2
    rw [if_neg k2] at h
    by_cases k3 : s.kind = 3
    · rw [if_pos k3] at h
      simp only [bf8] at h
      first | omega | (intro h2; omega) | exact fun _ => h.1.1
    rw [if_neg k3] at h
    by_cases k4 : s.kind = 4
    · first
        | omega
        | (intro h2; omega)
        | (intro _
           unfold j7 at h0
           rw [if_pos (.inr k4), if_pos k4] at h0
           simp only [bf8, decide_eq_true_eq] at h0
           exact ⟨h0.2.1.1.1.2, h0.2.1.1.2⟩)
    rw [if_neg k4] at h; cases h
mutual
theorem aL9 (nv na : Nat) : ∀ (d : Nat) (s : b7), f8 nv na d s = true -> (aH5 s).length <= 20000 * nS s
 | 0, s, h => by simp [f8] at h
 | d + 1, s, h => by
  obtain ⟨h1, h2, h3, h4, h5, h6, h7⟩ := x3 h
  have b1 := C6 nv na d s.body h6
  have b2 := C6 nv na d s.els h7
  have hl := aU8 (k := s.kind) (t := s.target) (c := s.count) (ix := c6 s.index) (v := c6 s.value) (b := f9 s.body) (e := f9 s.els) (fun hk => C8 (h3 hk).2.2.1) (fun hk => C8 (h4 hk)) (fun hk => by have := h5 hk; omega) h1
  rw [L5, Z1]
  omega
termination_by d s => (d, 0)
theorem C6 (nv na : Nat) : ∀ (d : Nat) (ss : List b7), (∀ s ∈ ss, f8 nv na d s = true) -> (f9 ss).length <= 20000 * K9 ss
 | _, [], _ => by simp [f9]
 | d, s :: r, h => by
  have b1 := aL9 nv na d s (h s bh3)
  have b2 := C6 nv na d r fun x hx => h x (bi1 _ hx)
  rw [f9, K9, bi6]
  omega
termination_by d ss => (d, ss.length + 1)
end
def aQ1 (l : Int) : UInt8 := [76, 72, 85, 88].getD l.toNat 0
def o7 (ls : List Int) : List UInt8 := ls.map aQ1
theorem aA8 {ls : List Int} {k : Nat} (h : k < ls.length) : o7 (ls.take (k + 1)) = o7 (ls.take k) ++ [aQ1 (ls.getD k 0)] := by
 unfold o7
 rw [y7 ls k h, List.map_append, m5 h]; rfl
def af4 (p : d8) : List UInt8 := o7 p.vars ++ [47] ++ o7 p.arrays ++ [47] ++ f9 p.body
def Z2 (p : d8) : List UInt8 := if w5 p then af4 p else []
def ac5 (p : d8) (e : b6) : List UInt8 := if p7 p.vars p.arrays && d9 p.vars.length p.arrays.length e then c6 e else []
end Go.Proofs.YtcahndjigkledaaDoor

namespace Go.Proofs.YtcahndjigkledaaDoor
open Go Go.RowKit
abbrev tA (l : List UInt8) : AV := .v (.string (j6 l))
theorem f6.tab {ι : Type} {φ ψ : Nat -> Prop} {w0 w : World} {L : ι -> Rs} (M : f6 φ ψ w0 w L) : aq3 w :=
 ⟨w.heap.size, bg9 _, fun w' hb => M.env w' (M.kept.trans (s3.of_below hb fun _ h _ => h))⟩
theorem aE9 {P : Program} {f : FuncId} {args : List AV} {S : List It} {x : Value} (h : ∀ (φ : Nat -> Prop) (w : World) (ρ : Nat -> Value), aq3 w -> (∀ i d, m7 S i = .dat d -> RD w φ d (ρ i)) -> Calls P f (AV.vals ρ args).toArray w fun e w' => e = .returned x /\ Below w.heap.size w w') : i8.ok P (I3 f args S (.v x)) := by
 intro ι φ ψ w0 w F ρ M
 refine (h (L1 φ (l0 F ρ (m7 S))) w ρ M.tab fun i d hi => M.datAt hi).mono ?_
 rintro e w' ⟨rfl, hb⟩
 exact ⟨ρ, fun _ _ => rfl, rfl, M.call hb⟩
theorem aA4 {v : Int} (h : 0 <= v) : ∃ n : Nat, v = n := ⟨v.toNat, by omega⟩
theorem al8 (v : Int) (h0 : 0 <= v) (h1 : v < 12) : i8.ok Tryd.prog (I3 62 [iA v] [] (tA [UInt8.ofNat (97 + v.toNat)])) := by
 obtain ⟨n, rfl⟩ := aA4 h0
 exact I6 fun φ w ρ _ => W9 n (by omega) w
theorem aw6 (v : Int) (h0 : 0 <= v) (h1 : v < 2) : i8.ok Tryd.prog (I3 63 [iA v] [] (tA [UInt8.ofNat (80 + v.toNat)])) := by
 obtain ⟨n, rfl⟩ := aA4 h0
 exact I6 fun φ w ρ _ => P6 n (by omega) w
theorem a45 (v : Int) (h0 : 0 <= v) (h1 : v < 1000000) : i8.ok Tryd.prog (I3 61 [iA v] [] (tA (Lib.decDigits v.toNat))) := by
 obtain ⟨n, rfl⟩ := aA4 h0
 exact aE9 fun φ w ρ ht _ => aF8 n (by omega) w ht.is
theorem af3 {nv na : Nat} {e : b6} (h : d9 nv na e = true) : d7 nv na 5 e = true := by
 unfold d9 at h
 simp only [bf8] at h
 exact h.1
theorem aT3 (nv na : Nat) (hnv : nv <= 12) (hna : na <= 2) (e : b6) (h : d9 nv na e = true) : i8.ok Tryd.prog (I3 33 [eA e 0] (eS e) (tA (c6 e))) :=
 I6 fun φ w ρ hd => as3 nv na hnv hna 5 (by omega) e φ _ w ⟨_, rfl, hd 0 _ rfl⟩ (af3 h)
theorem ah8 (nv na : Nat) (hnv : nv <= 12) (hna : na <= 2) (e : b6) (h : d9 nv na e = true) : i8.ok Tryd.prog (I3 32 [eA e 0] (eS e) (tA (c6 e))) :=
 aE9 fun φ w ρ ht hd => aj1 nv na hnv hna 5 (by omega) e φ _ w ⟨_, rfl, hd 0 _ rfl⟩ (af3 h) ht
theorem a58 {nv na d : Nat} {ss : List b7} (h : ∀ s ∈ ss, f8 nv na (d + 1) s = true) {k : Nat} (hk : k < ss.length) : f8 nv na (d + 1) (ss.getD k bf6) = true := by
 rw [m5 hk]; exact h _ (bg1 hk)
theorem a85 {ss : List b7} {k : Nat} (hk : k < ss.length) : nS (ss.getD k bf6) <= K9 ss := by
 have h1 := aI3 hk
 have h2 := ab7 ss (k + 1)
 rw [m5 hk]; omega
theorem a36 {ss : List b7} (k : Nat) : K9 (ss.take k) <= K9 ss := ab7 ss k
theorem aP6 : ∀ ss : List b7, ss.length <= K9 ss
 | [] => bg9 _
 | s :: r => by
  have h1 := Z1 s
  have h2 := aP6 r
  simp only [K9, bg0]; omega
theorem a16 {nv na d : Nat} {ss : List b7} (h : ∀ s ∈ ss, f8 nv na d s = true) (k : Nat) : (f9 (ss.take k)).length <= 20000 * K9 ss :=
 bg2 (C6 nv na d _ fun s hs => h s (List.mem_of_mem_take hs)) (Nat.mul_le_mul_left _ (a36 k))
section
variable {nv na d : Nat} {s : b7} (h : f8 nv na (d + 1) s = true)
include h
theorem aZ7 (hk : s.kind = 1 \/ s.kind = 5) : 0 <= s.target /\ s.target < nv := (x3 h).2.1 hk
theorem a55 (hk : s.kind = 2) : 0 <= s.target /\ s.target < na := ⟨((x3 h).2.2.1 hk).1, ((x3 h).2.2.1 hk).2.1⟩
theorem aZ8 (hk : s.kind = 2) : d9 nv na s.index = true := ((x3 h).2.2.1 hk).2.2.1
theorem P0 (hk : s.kind ≠ 4) : d9 nv na s.value = true := (x3 h).2.2.2.1 hk
theorem bb3 (k1 : ¬ s.kind = 1) (k2 : ¬ s.kind = 2) (k3 : ¬ s.kind = 3) (k5 : ¬ s.kind = 5) : s.kind = 4 /\ 1 <= s.count /\ s.count <= 3 := by
 have h1 := (x3 h).1
 have h4 : s.kind = 4 := by omega
 exact ⟨h4, (x3 h).2.2.2.2.1 h4⟩
theorem aE2 : ∀ x ∈ s.body, f8 nv na d x = true := (x3 h).2.2.2.2.2.1
theorem aZ9 : ∀ x ∈ s.els, f8 nv na d x = true := (x3 h).2.2.2.2.2.2
end
theorem j5 (a : Array UInt8) : (⟨a⟩ : ByteArray).size = a.size := rfl
theorem W6 (l : List UInt8) : (⟨l.toArray⟩ : ByteArray) = j6 l := rfl
section
variable {ss : List b7} {k : Nat} (hk : k < ss.length)
include hk
end
theorem aP9 {ls : List Int} (k : Nat) : (o7 (ls.take k)).length <= ls.length := by
 unfold o7; rw [List.length_map]; exact List.length_take_le' k ls
theorem aI7 {l : Int} (h : s5 l = true) : 0 <= l /\ l <= 3 := by
 unfold s5 at h
 simpa only [bf8, decide_eq_true_eq] using h
theorem a38 {ls : List Int} (h : ls.all s5 = true) {k : Nat} (hk : k < ls.length) : s5 (ls.getD k 0) = true := by
 rw [m5 hk]; exact bg6.1 h _ (bg1 hk)
theorem aC4 (l m : List UInt8) : Lib.byteCells (l ++ m) = Lib.byteCells l ++ Lib.byteCells m := by simp [Lib.byteCells]
theorem aQ0 {l : Int} (h : s5 l = true) : ∃ n : Nat, l = n /\ n < 4 /\ ((⟨#[76, 72, 85, 88]⟩ : ByteArray).data.toList.getD n 0) = aQ1 l := by
 obtain ⟨h0, h1⟩ := aI7 h
 have : l = 0 \/ l = 1 \/ l = 2 \/ l = 3 := by omega
 rcases this with rfl | rfl | rfl | rfl
 ·exact ⟨0, rfl, by omega, by decide +kernel⟩
 ·exact ⟨1, rfl, by omega, by decide +kernel⟩
 ·exact ⟨2, rfl, by omega, by decide +kernel⟩
 exact ⟨3, rfl, by omega, by decide +kernel⟩
theorem X1 (v : Value) (ls : List Int) (w : World) (h : J2 w v ls.length 1 (ints ls)) (hok : ls.all s5 = true) (hl : ls.length <= 1000) :
  Calls Tryd.prog 16 #[v] w fun e w' => e = .returned (.string ⟨(o7 ls).toArray⟩) /\ Below w.heap.size w w' := by
 obtain ⟨a, cap, rfl, hcap, hn, hcm, hc⟩ := h.open1
 have HR : Hid (J2 w (.slice a ls.length cap) ls.length 1 (ints ls)) := h
 have HAL : Hid (∀ w' : World, J2 w' (.slice a ls.length cap) ls.length 1 (ints ls) -> Calls Tryd.prog 38 #[.slice a ls.length cap] w' fun e w'' => e = .returned (.bool true) /\ w' = w'') := fun w' h' => by
  have HA := D8 _ ls w' h'
  rw [hok] at HA
  exact HA
 have HOK := show Hid _ from hok
 clear h hok
 have hB0 : Lib.IsBuilder 61 5 w.heap.size w.heap.size (Lib.byteCells (o7 (ls.take 0))) (w.alloc (.cells #[.pointer none, .slice none 0 0] 61)) := Lib.fresh_isBuilder _ _ _
 have HB := show Hid _ from hB0
 clear hB0
 go_enter Tryd.func16, Tryd.ntmps16
 go_wp2_with fail
 refine (HAL.out _ HR.out).mono ?_
 rintro e w1 ⟨rfl, rfl⟩
 go_wp2_with fail
 go_loopw [5, 11] (fun _ i wr => ∃ (k : Nat), k <= ls.length /\ i = .int .i64 k /\ Lib.IsBuilder 61 5 w.heap.size w.heap.size (Lib.byteCells (o7 (ls.take k))) wr /\ Below w.heap.size w wr) (fun _ i _ => ls.length - (intOf i).toNat)
 case atStart => exact ⟨0, bj5 _, rfl, HB.out, (Below.refl _ _).alloc (bg9 _) _⟩
 case round =>
  obtain ⟨k, hk, rfl, hbd, hbw⟩ := hrel
  have HBD := show Hid _ from hbd
  clear hbd HB
  by_cases hlt : k < ls.length
  ·obtain ⟨b, off, rfl, hb1, hx⟩ := hc k hlt
   have hlo := a38 HOK.out hlt
   rw [m5 hlt] at hlo
   obtain ⟨n, hn1, hn4, hn2⟩ := aQ0 hlo
   have hxk : (ints ls)[k]? = some (.int .i64 n) := by simp [ints, hlt, hn1]
   rw [hxk, <- (n7 hbw).1 _ _ hb1] at hx
   have HN := show Hid _ from hn2
   have HLN := aA8 hlt
   rw [m5 hlt] at HLN
   have H1 := show Hid _ from HLN
   have hlen : Hid ((Lib.byteCells (o7 (ls.take k))).length + 1 <= 140737488355328) := by
    have h2 := aP9 (ls := ls) k
    show _ + 1 <= _
    simp only [Lib.byteCells, List.length_map]
    omega
   clear hc hxk hn2 HLN hlo hn1
   go_wp2_with fail
   refine (Y0 w.heap.size w.heap.size _ _ _ HBD.out hlen.out hbw.size).mono ?_
   rintro e w1 ⟨rfl, hba, hbb⟩
   have HBA := show Hid _ from hba
   clear hba
   go_wp2_with fail
   refine ⟨⟨k + 1, by omega, by go_num, ?_, hbw.trans hbb⟩, by simp [intOf]; omega⟩
   rw [H1.out, aC4]
   have h9 := HBA.out
   rw [show (Lib.byteCells [aQ1 ls[k]]) = [.int .u8 ((aQ1 ls[k]).toNat : Int)] from rfl, <- HN.out]
   have h4 : n = 0 \/ n = 1 \/ n = 2 \/ n = 3 := by omega
   rcases h4 with rfl | rfl | rfl | rfl <;> exact .inr h9
  go_wp2_with fail
  refine (ai2 w.heap.size w.heap.size _ _ HBD.out hbw.size).mono ?_
  rintro e w1 ⟨rfl, hb9⟩
  go_wp2_with fail
  go_ret
  rw [bh7 (by omega)]
  exact ⟨rfl, hbw.trans hb9⟩
theorem C2 (ls : List Int) (h : ls.all s5 = true) (hl : ls.length <= 1000) : i8.ok Tryd.prog (I3 16 [.ref 0] [dI ls] (tA (o7 ls))) :=
 I6 fun φ w ρ hd => X1 (ρ 0) ls w (p6.row (hd 0 _ rfl)) h hl
section
variable {ss : List b7} {k : Nat} (hk : k < ss.length)
include hk
theorem be8 (hq : (ss.getD k bf6).kind = 1) : j6 (f9 (ss.take k)) ++ (j6 [UInt8.ofNat (97 + (ss.getD k bf6).target.toNat)] ++ ⟨#[58, 61]⟩ ++ j6 (c6 (ss.getD k bf6).value) ++ ⟨#[59]⟩) = j6 (f9 (ss.take (k + 1))) := by
 rw [I4 hk, L5, stT, if_pos hq]; show _ = j6 _; simp only [W6, Q4, bj8]
theorem be4 (hq : (ss.getD k bf6).kind = 5) : j6 (f9 (ss.take k)) ++ (j6 [UInt8.ofNat (97 + (ss.getD k bf6).target.toNat)] ++ ⟨#[33, 61]⟩ ++ j6 (c6 (ss.getD k bf6).value) ++ ⟨#[59]⟩) = j6 (f9 (ss.take (k + 1))) := by
 rw [I4 hk, L5, stT, if_neg (by omega), if_pos hq]; show _ = j6 _; simp only [W6, Q4, bj8]
theorem be7 (hq : (ss.getD k bf6).kind = 2) : j6 (f9 (ss.take k)) ++ (j6 [UInt8.ofNat (80 + (ss.getD k bf6).target.toNat)] ++ ⟨#[91]⟩ ++ j6 (c6 (ss.getD k bf6).index) ++ ⟨#[93, 58, 61]⟩ ++ j6 (c6 (ss.getD k bf6).value) ++ ⟨#[59]⟩) = j6 (f9 (ss.take (k + 1))) := by
 rw [I4 hk, L5, stT, if_neg (by omega), if_neg (by omega), if_pos hq]; show _ = j6 _; simp only [W6, Q4, bj8]
theorem be6 (hq : (ss.getD k bf6).kind = 3) : j6 (f9 (ss.take k)) ++ (⟨#[105, 102]⟩ ++ j6 (c6 (ss.getD k bf6).value) ++ ⟨#[123]⟩ ++ j6 (f9 (ss.getD k bf6).body) ++ ⟨#[125, 123]⟩ ++ j6 (f9 (ss.getD k bf6).els) ++ ⟨#[125]⟩) = j6 (f9 (ss.take (k + 1))) := by
 rw [I4 hk, L5, stT, if_neg (by omega), if_neg (by omega), if_neg (by omega), if_pos hq]; show _ = j6 _; simp only [W6, Q4, bj8]
theorem be5 (hq : (ss.getD k bf6).kind = 4) : j6 (f9 (ss.take k)) ++ (⟨#[114, 101, 112, 101, 97, 116]⟩ ++ j6 (Lib.decDigits (ss.getD k bf6).count.toNat) ++ ⟨#[123]⟩ ++ j6 (f9 (ss.getD k bf6).body) ++ ⟨#[125]⟩) = j6 (f9 (ss.take (k + 1))) := by
 rw [I4 hk, L5, stT, if_neg (by omega), if_neg (by omega), if_neg (by omega), if_neg (by omega)]; show _ = j6 _; simp only [W6, Q4, bj8]
end
theorem az6 {p : d8} (h : w5 p = true) : p7 p.vars p.arrays = true /\ (∀ s ∈ p.body, f8 p.vars.length p.arrays.length 5 s = true) /\ K9 p.body <= 60 := by
 unfold w5 at h
 simp only [bf8, decide_eq_true_eq] at h
 exact ⟨h.1.1, bg6.1 h.1.2, h.2⟩
theorem A9 {vs ars : List Int} (h : p7 vs ars = true) : vs.all s5 = true /\ ars.all s5 = true /\ 1 <= vs.length /\ vs.length <= 12 /\ ars.length <= 2 := by
 unfold p7 at h
 simp only [bf8, decide_eq_true_eq] at h
 exact ⟨h.1.1.1.1, h.1.1.1.2, h.1.1.2, h.1.2, h.2⟩
theorem W7 (ls : List Int) : (o7 ls).length = ls.length := by simp [o7]
theorem bf1 {p : d8} (h : w5 p = false) : (⟨#[]⟩ : ByteArray) = j6 (Z2 p) := by
 unfold Z2; rw [h]; rfl
abbrev G2 : AV := .v (.string (ByteArray.mk #[]))
abbrev aa8 (ss : List b7) (k : Nat) : AV := .v (.string (j6 (f9 (bh0 k ss))))
abbrev N8 (ss : List b7) (k : Nat) (r0 : List (Nat × AV)) : List (Nat × AV) := (6, .ref 0) :: (7, iA (ss.length : Int)) :: (8, iA (k : Int)) :: r0
theorem at1 (nv na d : Nat) (hnv : nv <= 12) (hna : na <= 2) (ih : ∀ (ss : List b7), (∀ s ∈ ss, f8 nv na d s = true) -> K9 ss <= 60 -> i8.ok Tryd.prog (I3 57 [.ref 0] [dT ss] (tA (f9 ss)))) (ss : List b7) (h : ∀ s ∈ ss, f8 nv na (d + 1) s = true) (hn : K9 ss <= 60) : i8.ok Tryd.prog (I3 57 [.ref 0] [dT ss] (tA (f9 ss))) := by
  have hl0 := aP6 ss
  have he := fun e h => ah8 nv na hnv hna e h
  refine H7 91 Tryd.func57 [dT ss] [(0, .ref 0)] fun G => ?_; refine wp_seq (l6 G e5 [(2, G2)] fun G => b0 (wp_seq (l6 G e5 [(3, G2)] fun G => b0 (wp_seq (wp_seq (J4 G e5 [(2, G2), (3, G2), (6, .ref 0), (7, iA (ss.length : Int)), (8, iA 0)] fun G => b0 (wp_block ?_))))))); refine C3 (κ := Nat) (fun k => k <= ss.length) (fun k => ss.length - k) (fun k => [dT ss]) (fun k => [(2, .v (.string (ByteArray.mk #[]))), (3, .v (.string (j6 (f9 (ss.take k))))), (6, .ref 0), (7, iA (ss.length : Int)), (8, iA k)]) 0 (by omega) (p9.at G _ _) ?_; clear G; intro k ρ a w hp G; replace G := p9.at G [dT ss] ((2, G2) :: (3, aa8 ss k) :: (N8 ss k [])); have ht := a16 h k; refine wp_seq (J4 G e5 ((2, G2) :: (3, aa8 ss k) :: (N8 ss k [(9, bA (decide ((k : Int) < ss.length)))])) fun G => b0 (wp_seq ?_)); cases h0 : (decide ((k : Int) < ss.length))
  · have q0 := T1 h0; refine rF G _ h0 (wp_exit (B7 (B7 (B6 (b0 (wp_seq (l6 G e5 [(2, aa8 ss k)] fun G => b0 (wp_ret ?_)))))))); exact rxv (.v (.string (j6 (f9 (bh0 k ss))))) G [0] (by show _ = AV.ren (nth [0]) (.v (.string (j6 (f9 ss)))); have e1 : (j6 (f9 ss) : ByteArray) = (j6 (f9 (bh0 k ss))) := (by rw [bh7 (by omega)]); (first | rw [e1] | simp only [e1]) <;> rfl)
  have q0 := T0 h0; have hb := a58 h (show k < ss.length by omega); have b1 := a85 (ss := ss) (show k < ss.length by omega); have b2 := Z1 (ss.getD k bf6); refine rT G _ h0 (wp_skip (b0 (wp_seq (wp_block (wp_seq (rA1 G e5 [0, 9, 10, 11, 12, 17] [dT ss, dE (ss.getD k bf6).index.kids, dE (ss.getD k bf6).value.kids, dT (ss.getD k bf6).body, dT (ss.getD k bf6).els, .box (sL (ss.getD k bf6) 1)] ((2, G2) :: (3, aa8 ss k) :: (5, .ptr 5 0) :: (N8 ss k [])) (iX k k ss.length []) (iK (by omega) bh8) fun G => b0 (wp_seq (l6 G e5 [(13, iA (ss.getD k bf6).kind)] fun G => b0 (wp_block (wp_seq (J4 G e5 ((2, G2) :: (3, aa8 ss k) :: (5, .ptr 5 0) :: (N8 ss k [(13, iA (ss.getD k bf6).kind), (26, bA ((ss.getD k bf6).kind == 1))])) fun G => b0 ?_))))))))))); cases h1 : ((ss.getD k bf6).kind == 1)
  ·
   have q1 := ne_of_beq_false h1; refine rF G _ h1 (wp_seq (J4 G e5 ((2, G2) :: (3, aa8 ss k) :: (5, .ptr 5 0) :: (N8 ss k [(13, iA (ss.getD k bf6).kind), (39, bA ((ss.getD k bf6).kind == 5))])) fun G => b0 ?_)); cases h2 : ((ss.getD k bf6).kind == 5)
   ·
    have q2 := ne_of_beq_false h2; refine rF G _ h2 (wp_seq (J4 G e5 ((2, G2) :: (3, aa8 ss k) :: (5, .ptr 5 0) :: (N8 ss k [(13, iA (ss.getD k bf6).kind), (52, bA ((ss.getD k bf6).kind == 2))])) fun G => b0 ?_)); cases h3 : ((ss.getD k bf6).kind == 2)
    ·
     have q3 := ne_of_beq_false h3; refine rF G _ h3 (wp_seq (J4 G e5 ((2, G2) :: (3, aa8 ss k) :: (5, .ptr 5 0) :: (N8 ss k [(70, bA ((ss.getD k bf6).kind == 3))])) fun G => b0 ?_)); cases h4 : ((ss.getD k bf6).kind == 3)
     · have q4 := ne_of_beq_false h4; have c5 := bb3 hb (by omega) (by omega) (by omega) (by omega); have c3 := C6 nv na d _ (aE2 hb); have l5 := Z4 (n := (ss.getD k bf6).count.toNat) (by omega); refine rF G _ h4 (K8 G (x6 (n4 3 [] (a45 ((ss.getD k bf6).count) (by omega) (by omega)) (n4 8 [3] (ih ((ss.getD k bf6).body) (aE2 hb) (by omega)) x5)) fz []) [0, 0, 2, 6, 14, 30, 0, 64, 206, 510, 1022, 2047, 4095] [0] [dT ss] ((2, G2) :: (3, .v (.string (j6 (f9 (bh0 k ss)) ++ (ByteArray.mk #[114, 101, 112, 101, 97, 116] ++ j6 (Lib.decDigits (ss.getD k bf6).count.toNat) ++ ByteArray.mk #[123] ++ j6 (f9 (ss.getD k bf6).body) ++ ByteArray.mk #[125])))) :: (N8 ss k [])) [(↑((ByteArray.mk #[(114 : UInt8), (101 : UInt8), (112 : UInt8), (101 : UInt8), (97 : UInt8), (116 : UInt8)]).size + (j6 (Lib.decDigits (ss.getD k bf6).count.toNat)).size) : Int) <= 9223372036854775807, (↑((ByteArray.mk #[(114 : UInt8), (101 : UInt8), (112 : UInt8), (101 : UInt8), (97 : UInt8), (116 : UInt8)] ++ j6 (Lib.decDigits (ss.getD k bf6).count.toNat)).size + (ByteArray.mk #[(123 : UInt8)]).size) : Int) <= 9223372036854775807, (↑((ByteArray.mk #[(114 : UInt8), (101 : UInt8), (112 : UInt8), (101 : UInt8), (97 : UInt8), (116 : UInt8)] ++ j6 (Lib.decDigits (ss.getD k bf6).count.toNat) ++ ByteArray.mk #[(123 : UInt8)]).size + (j6 (f9 (ss.getD k bf6).body)).size) : Int) <= 9223372036854775807, (↑((ByteArray.mk #[(114 : UInt8), (101 : UInt8), (112 : UInt8), (101 : UInt8), (97 : UInt8), (116 : UInt8)] ++ j6 (Lib.decDigits (ss.getD k bf6).count.toNat) ++ ByteArray.mk #[(123 : UInt8)] ++ j6 (f9 (ss.getD k bf6).body)).size + (ByteArray.mk #[(125 : UInt8)]).size) : Int) <= 9223372036854775807, (↑((j6 (f9 (bh0 k ss))).size + (ByteArray.mk #[(114 : UInt8), (101 : UInt8), (112 : UInt8), (101 : UInt8), (97 : UInt8), (116 : UInt8)] ++ j6 (Lib.decDigits (ss.getD k bf6).count.toNat) ++ ByteArray.mk #[(123 : UInt8)] ++ j6 (f9 (ss.getD k bf6).body) ++ ByteArray.mk #[(125 : UInt8)]).size) : Int) <= 9223372036854775807] ⟨(by simp only [ByteArray.size_append, j4, j5, bg5, bg0, bg4]; omega), (by simp only [ByteArray.size_append, j4, j5, bg5, bg0, bg4]; omega), (by simp only [ByteArray.size_append, j4, j5, bg5, bg0, bg4]; omega), (by simp only [ByteArray.size_append, j4, j5, bg5, bg0, bg4]; omega), (by simp only [ByteArray.size_append, j4, j5, bg5, bg0, bg4]; omega), bh8⟩ fun G => p8 (p8 (b0 (M5 G e5 [(8, iA ((k : Int) + 1))] [wO ((k : Int) + 1)] (o1 (by omega)) fun G => b0 ?_)))); exact rxn G (k + 1) (by omega) (by omega) [0] (ht := by have e1 : (j6 (f9 (bh0 (k + 1) ss)) : ByteArray) = (j6 (f9 (bh0 k ss)) ++ (ByteArray.mk #[114, 101, 112, 101, 97, 116] ++ j6 (Lib.decDigits (ss.getD k bf6).count.toNat) ++ ByteArray.mk #[123] ++ j6 (f9 (ss.getD k bf6).body) ++ ByteArray.mk #[125])) := (by have h9 : (ss.getD k bf6).kind = 4 := (by omega) ; exact (be5 (by omega) h9).symm); (first | rw [e1] | simp only [e1]) <;> rfl)
     have q4 := eq_of_beq h4; have c3 := C6 nv na d _ (aE2 hb); have c4 := C6 nv na d _ (aZ9 hb); have l1 := C8 (P0 hb (by omega)); refine rT G _ h4 (K8 G (x6 (n4 3 [2] (he ((ss.getD k bf6).value) (P0 hb (by omega))) (n4 8 [3] (ih ((ss.getD k bf6).body) (aE2 hb) (by omega)) (n4 13 [4] (ih ((ss.getD k bf6).els) (aZ9 hb) (by omega)) x5))) fz []) [0, 0, 2, 6, 14, 30, 0, 64, 206, 510, 1022, 0, 2048, 6606, 16382, 32766, 65535, 131071] [0] [dT ss] ((2, G2) :: (3, .v (.string (j6 (f9 (bh0 k ss)) ++ (ByteArray.mk #[105, 102] ++ j6 (c6 (ss.getD k bf6).value) ++ ByteArray.mk #[123] ++ j6 (f9 (ss.getD k bf6).body) ++ ByteArray.mk #[125, 123] ++ j6 (f9 (ss.getD k bf6).els) ++ ByteArray.mk #[125])))) :: (N8 ss k [])) [(↑((ByteArray.mk #[(105 : UInt8), (102 : UInt8)]).size + (j6 (c6 (ss.getD k bf6).value)).size) : Int) <= 9223372036854775807, (↑((ByteArray.mk #[(105 : UInt8), (102 : UInt8)] ++ j6 (c6 (ss.getD k bf6).value)).size + (ByteArray.mk #[(123 : UInt8)]).size) : Int) <= 9223372036854775807, (↑((ByteArray.mk #[(105 : UInt8), (102 : UInt8)] ++ j6 (c6 (ss.getD k bf6).value) ++ ByteArray.mk #[(123 : UInt8)]).size + (j6 (f9 (ss.getD k bf6).body)).size) : Int) <= 9223372036854775807, (↑((ByteArray.mk #[(105 : UInt8), (102 : UInt8)] ++ j6 (c6 (ss.getD k bf6).value) ++ ByteArray.mk #[(123 : UInt8)] ++ j6 (f9 (ss.getD k bf6).body)).size + (ByteArray.mk #[(125 : UInt8), (123 : UInt8)]).size) : Int) <= 9223372036854775807, (↑((ByteArray.mk #[(105 : UInt8), (102 : UInt8)] ++ j6 (c6 (ss.getD k bf6).value) ++ ByteArray.mk #[(123 : UInt8)] ++ j6 (f9 (ss.getD k bf6).body) ++ ByteArray.mk #[(125 : UInt8), (123 : UInt8)]).size + (j6 (f9 (ss.getD k bf6).els)).size) : Int) <= 9223372036854775807, (↑((ByteArray.mk #[(105 : UInt8), (102 : UInt8)] ++ j6 (c6 (ss.getD k bf6).value) ++ ByteArray.mk #[(123 : UInt8)] ++ j6 (f9 (ss.getD k bf6).body) ++ ByteArray.mk #[(125 : UInt8), (123 : UInt8)] ++ j6 (f9 (ss.getD k bf6).els)).size + (ByteArray.mk #[(125 : UInt8)]).size) : Int) <= 9223372036854775807, (↑((j6 (f9 (bh0 k ss))).size + (ByteArray.mk #[(105 : UInt8), (102 : UInt8)] ++ j6 (c6 (ss.getD k bf6).value) ++ ByteArray.mk #[(123 : UInt8)] ++ j6 (f9 (ss.getD k bf6).body) ++ ByteArray.mk #[(125 : UInt8), (123 : UInt8)] ++ j6 (f9 (ss.getD k bf6).els) ++ ByteArray.mk #[(125 : UInt8)]).size) : Int) <= 9223372036854775807] ⟨(by simp only [ByteArray.size_append, j4, j5, bg5, bg0, bg4]; omega), (by simp only [ByteArray.size_append, j4, j5, bg5, bg0, bg4]; omega), (by simp only [ByteArray.size_append, j4, j5, bg5, bg0, bg4]; omega), (by simp only [ByteArray.size_append, j4, j5, bg5, bg0, bg4]; omega), (by simp only [ByteArray.size_append, j4, j5, bg5, bg0, bg4]; omega), (by simp only [ByteArray.size_append, j4, j5, bg5, bg0, bg4]; omega), (by simp only [ByteArray.size_append, j4, j5, bg5, bg0, bg4]; omega), bh8⟩ fun G => p8 (p8 (b0 (M5 G e5 [(8, iA ((k : Int) + 1))] [wO ((k : Int) + 1)] (o1 (by omega)) fun G => b0 ?_)))); exact rxn G (k + 1) (by omega) (by omega) [0] (ht := by have e1 : (j6 (f9 (bh0 (k + 1) ss)) : ByteArray) = (j6 (f9 (bh0 k ss)) ++ (ByteArray.mk #[105, 102] ++ j6 (c6 (ss.getD k bf6).value) ++ ByteArray.mk #[123] ++ j6 (f9 (ss.getD k bf6).body) ++ ByteArray.mk #[125, 123] ++ j6 (f9 (ss.getD k bf6).els) ++ ByteArray.mk #[125])) := (by have h9 : (ss.getD k bf6).kind = 3 := (by omega) ; exact (be6 (by omega) h9).symm); (first | rw [e1] | simp only [e1]) <;> rfl)
    have q3 := eq_of_beq h3; have c2 := a55 hb (by omega); have l1 := C8 (P0 hb (by omega)); have l2 := C8 (aZ8 hb (by omega)); refine rT G _ h3 (K8 G (x6 (n4 3 [] (aw6 ((ss.getD k bf6).target) (by omega) (by omega)) (n4 7 [1] (he ((ss.getD k bf6).index) (aZ8 hb (by omega))) (n4 12 [2] (he ((ss.getD k bf6).value) (P0 hb (by omega))) x5))) fz []) [0, 0, 2, 6, 14, 0, 32, 110, 254, 510, 0, 1024, 3310, 8190, 16382, 32767, 65535] [0] [dT ss] ((2, G2) :: (3, .v (.string (j6 (f9 (bh0 k ss)) ++ (j6 [UInt8.ofNat (80 + (ss.getD k bf6).target.toNat)] ++ ByteArray.mk #[91] ++ j6 (c6 (ss.getD k bf6).index) ++ ByteArray.mk #[93, 58, 61] ++ j6 (c6 (ss.getD k bf6).value) ++ ByteArray.mk #[59])))) :: (N8 ss k [])) [(↑((j6 [UInt8.ofNat ((80 : Nat) + (ss.getD k bf6).target.toNat)]).size + (ByteArray.mk #[(91 : UInt8)]).size) : Int) <= 9223372036854775807, (↑((j6 [UInt8.ofNat ((80 : Nat) + (ss.getD k bf6).target.toNat)] ++ ByteArray.mk #[(91 : UInt8)]).size + (j6 (c6 (ss.getD k bf6).index)).size) : Int) <= 9223372036854775807, (↑((j6 [UInt8.ofNat ((80 : Nat) + (ss.getD k bf6).target.toNat)] ++ ByteArray.mk #[(91 : UInt8)] ++ j6 (c6 (ss.getD k bf6).index)).size + (ByteArray.mk #[(93 : UInt8), (58 : UInt8), (61 : UInt8)]).size) : Int) <= 9223372036854775807, (↑((j6 [UInt8.ofNat ((80 : Nat) + (ss.getD k bf6).target.toNat)] ++ ByteArray.mk #[(91 : UInt8)] ++ j6 (c6 (ss.getD k bf6).index) ++ ByteArray.mk #[(93 : UInt8), (58 : UInt8), (61 : UInt8)]).size + (j6 (c6 (ss.getD k bf6).value)).size) : Int) <= 9223372036854775807, (↑((j6 [UInt8.ofNat ((80 : Nat) + (ss.getD k bf6).target.toNat)] ++ ByteArray.mk #[(91 : UInt8)] ++ j6 (c6 (ss.getD k bf6).index) ++ ByteArray.mk #[(93 : UInt8), (58 : UInt8), (61 : UInt8)] ++ j6 (c6 (ss.getD k bf6).value)).size + (ByteArray.mk #[(59 : UInt8)]).size) : Int) <= 9223372036854775807, (↑((j6 (f9 (bh0 k ss))).size + (j6 [UInt8.ofNat ((80 : Nat) + (ss.getD k bf6).target.toNat)] ++ ByteArray.mk #[(91 : UInt8)] ++ j6 (c6 (ss.getD k bf6).index) ++ ByteArray.mk #[(93 : UInt8), (58 : UInt8), (61 : UInt8)] ++ j6 (c6 (ss.getD k bf6).value) ++ ByteArray.mk #[(59 : UInt8)]).size) : Int) <= 9223372036854775807] ⟨(by simp only [ByteArray.size_append, j4, j5, bg5, bg0, bg4]; omega), (by simp only [ByteArray.size_append, j4, j5, bg5, bg0, bg4]; omega), (by simp only [ByteArray.size_append, j4, j5, bg5, bg0, bg4]; omega), (by simp only [ByteArray.size_append, j4, j5, bg5, bg0, bg4]; omega), (by simp only [ByteArray.size_append, j4, j5, bg5, bg0, bg4]; omega), (by simp only [ByteArray.size_append, j4, j5, bg5, bg0, bg4]; omega), bh8⟩ fun G => p8 (p8 (b0 (M5 G e5 [(8, iA ((k : Int) + 1))] [wO ((k : Int) + 1)] (o1 (by omega)) fun G => b0 ?_)))); exact rxn G (k + 1) (by omega) (by omega) [0] (ht := by have e1 : (j6 (f9 (bh0 (k + 1) ss)) : ByteArray) = (j6 (f9 (bh0 k ss)) ++ (j6 [UInt8.ofNat (80 + (ss.getD k bf6).target.toNat)] ++ ByteArray.mk #[91] ++ j6 (c6 (ss.getD k bf6).index) ++ ByteArray.mk #[93, 58, 61] ++ j6 (c6 (ss.getD k bf6).value) ++ ByteArray.mk #[59])) := (by have h9 : (ss.getD k bf6).kind = 2 := (by omega) ; exact (be7 (by omega) h9).symm); (first | rw [e1] | simp only [e1]) <;> rfl)
   have q2 := eq_of_beq h2; have c1 := aZ7 hb (by omega); have l1 := C8 (P0 hb (by omega)); refine rT G _ h2 (K8 G (x6 (n4 3 [] (al8 ((ss.getD k bf6).target) (by omega) (by omega)) (n4 7 [2] (he ((ss.getD k bf6).value) (P0 hb (by omega))) x5)) fz []) [0, 0, 2, 6, 14, 0, 32, 110, 254, 510, 1023, 2047] [0] [dT ss] ((2, G2) :: (3, .v (.string (j6 (f9 (bh0 k ss)) ++ (j6 [UInt8.ofNat (97 + (ss.getD k bf6).target.toNat)] ++ ByteArray.mk #[33, 61] ++ j6 (c6 (ss.getD k bf6).value) ++ ByteArray.mk #[59])))) :: (N8 ss k [])) [(↑((j6 [UInt8.ofNat ((97 : Nat) + (ss.getD k bf6).target.toNat)]).size + (ByteArray.mk #[(33 : UInt8), (61 : UInt8)]).size) : Int) <= 9223372036854775807, (↑((j6 [UInt8.ofNat ((97 : Nat) + (ss.getD k bf6).target.toNat)] ++ ByteArray.mk #[(33 : UInt8), (61 : UInt8)]).size + (j6 (c6 (ss.getD k bf6).value)).size) : Int) <= 9223372036854775807, (↑((j6 [UInt8.ofNat ((97 : Nat) + (ss.getD k bf6).target.toNat)] ++ ByteArray.mk #[(33 : UInt8), (61 : UInt8)] ++ j6 (c6 (ss.getD k bf6).value)).size + (ByteArray.mk #[(59 : UInt8)]).size) : Int) <= 9223372036854775807, (↑((j6 (f9 (bh0 k ss))).size + (j6 [UInt8.ofNat ((97 : Nat) + (ss.getD k bf6).target.toNat)] ++ ByteArray.mk #[(33 : UInt8), (61 : UInt8)] ++ j6 (c6 (ss.getD k bf6).value) ++ ByteArray.mk #[(59 : UInt8)]).size) : Int) <= 9223372036854775807] ⟨(by simp only [ByteArray.size_append, j4, j5, bg5, bg0, bg4]; omega), (by simp only [ByteArray.size_append, j4, j5, bg5, bg0, bg4]; omega), (by simp only [ByteArray.size_append, j4, j5, bg5, bg0, bg4]; omega), (by simp only [ByteArray.size_append, j4, j5, bg5, bg0, bg4]; omega), bh8⟩ fun G => p8 (p8 (b0 (M5 G e5 [(8, iA ((k : Int) + 1))] [wO ((k : Int) + 1)] (o1 (by omega)) fun G => b0 ?_)))); exact rxn G (k + 1) (by omega) (by omega) [0] (ht := by have e1 : (j6 (f9 (bh0 (k + 1) ss)) : ByteArray) = (j6 (f9 (bh0 k ss)) ++ (j6 [UInt8.ofNat (97 + (ss.getD k bf6).target.toNat)] ++ ByteArray.mk #[33, 61] ++ j6 (c6 (ss.getD k bf6).value) ++ ByteArray.mk #[59])) := (by have h9 : (ss.getD k bf6).kind = 5 := (by omega) ; exact (be4 (by omega) h9).symm); (first | rw [e1] | simp only [e1]) <;> rfl)
  have q1 := eq_of_beq h1; have c1 := aZ7 hb (by omega); have l1 := C8 (P0 hb (by omega)); refine rT G _ h1 (K8 G (x6 (n4 3 [] (al8 ((ss.getD k bf6).target) (by omega) (by omega)) (n4 7 [2] (he ((ss.getD k bf6).value) (P0 hb (by omega))) x5)) fz []) [0, 0, 2, 6, 14, 0, 32, 110, 254, 510, 1023, 2047] [0] [dT ss] ((2, G2) :: (3, .v (.string (j6 (f9 (bh0 k ss)) ++ (j6 [UInt8.ofNat (97 + (ss.getD k bf6).target.toNat)] ++ ByteArray.mk #[58, 61] ++ j6 (c6 (ss.getD k bf6).value) ++ ByteArray.mk #[59])))) :: (N8 ss k [])) [(↑((j6 [UInt8.ofNat ((97 : Nat) + (ss.getD k bf6).target.toNat)]).size + (ByteArray.mk #[(58 : UInt8), (61 : UInt8)]).size) : Int) <= 9223372036854775807, (↑((j6 [UInt8.ofNat ((97 : Nat) + (ss.getD k bf6).target.toNat)] ++ ByteArray.mk #[(58 : UInt8), (61 : UInt8)]).size + (j6 (c6 (ss.getD k bf6).value)).size) : Int) <= 9223372036854775807, (↑((j6 [UInt8.ofNat ((97 : Nat) + (ss.getD k bf6).target.toNat)] ++ ByteArray.mk #[(58 : UInt8), (61 : UInt8)] ++ j6 (c6 (ss.getD k bf6).value)).size + (ByteArray.mk #[(59 : UInt8)]).size) : Int) <= 9223372036854775807, (↑((j6 (f9 (bh0 k ss))).size + (j6 [UInt8.ofNat ((97 : Nat) + (ss.getD k bf6).target.toNat)] ++ ByteArray.mk #[(58 : UInt8), (61 : UInt8)] ++ j6 (c6 (ss.getD k bf6).value) ++ ByteArray.mk #[(59 : UInt8)]).size) : Int) <= 9223372036854775807] ⟨(by simp only [ByteArray.size_append, j4, j5, bg5, bg0, bg4]; omega), (by simp only [ByteArray.size_append, j4, j5, bg5, bg0, bg4]; omega), (by simp only [ByteArray.size_append, j4, j5, bg5, bg0, bg4]; omega), (by simp only [ByteArray.size_append, j4, j5, bg5, bg0, bg4]; omega), bh8⟩ fun G => p8 (p8 (b0 (M5 G e5 [(8, iA ((k : Int) + 1))] [wO ((k : Int) + 1)] (o1 (by omega)) fun G => b0 ?_)))); exact rxn G (k + 1) (by omega) (by omega) [0] (ht := by have e1 : (j6 (f9 (bh0 (k + 1) ss)) : ByteArray) = (j6 (f9 (bh0 k ss)) ++ (j6 [UInt8.ofNat (97 + (ss.getD k bf6).target.toNat)] ++ ByteArray.mk #[58, 61] ++ j6 (c6 (ss.getD k bf6).value) ++ ByteArray.mk #[59])) := (by have h9 : (ss.getD k bf6).kind = 1 := (by omega) ; exact (be8 (by omega) h9).symm); (first | rw [e1] | simp only [e1]) <;> rfl)
theorem aq0 : i8.ok Tryd.prog (I3 57 [.ref 0] [dT []] (tA (f9 []))) := by
 refine H7 91 Tryd.func57 [dT []] [(0, .ref 0)] fun G => ?_; refine wp_seq (l6 G e5 [(2, .v (.string (ByteArray.mk #[])))] fun G => b0 (wp_seq (l6 G e5 [(3, .v (.string (ByteArray.mk #[])))] fun G => b0 (wp_seq (wp_seq (J4 G e5 [(2, .v (.string (ByteArray.mk #[]))), (3, .v (.string (ByteArray.mk #[]))), (6, .ref 0), (7, iA 0), (8, iA 0)] fun G => b0 (wp_block ?_))))))); refine C3 (κ := Nat) (fun k => k = 0) (fun k => 0) (fun k => [dT []]) (fun k => [(2, .v (.string (ByteArray.mk #[]))), (3, .v (.string (j6 []))), (6, .ref 0), (7, iA 0), (8, iA k)]) 0 (by kernel_rfl) (p9.at G _ _) ?_; clear G; intro k ρ a w hp G; refine wp_seq (l6 G e5 [(9, bA false)] fun G => b0 (wp_seq (rF G false (by kernel_rfl) (wp_exit (B7 (B7 (B6 (b0 (wp_seq (l6 G e5 [(2, .v (.string (j6 [])))] fun G => b0 (wp_ret ?_))))))))))); exact O1 G [0]
theorem ae6 (nv na : Nat) (hnv : nv <= 12) (hna : na <= 2) : ∀ (d : Nat) (ss : List b7), (∀ s ∈ ss, f8 nv na d s = true) -> K9 ss <= 60 -> i8.ok Tryd.prog (I3 57 [.ref 0] [dT ss] (tA (f9 ss)))
 | 0, [], _, _ => aq0
 | 0, s :: r, h, _ => by have := h s bh3; simp [f8] at this
 | d + 1, ss, h, hn => at1 nv na d hnv hna (ae6 nv na hnv hna d) ss h hn
theorem aj2 (p : d8) (h : w5 p = true) : i8.ok Tryd.prog (I3 28 [pA 0] (pS p) (tA (af4 p))) := by
 obtain ⟨h1, h2, h3⟩ := az6 h; obtain ⟨g1, g2, g3, g4, g5⟩ := A9 h1; have hl := ae6 p.vars.length p.arrays.length g4 g5 5 p.body h2 h3; have hz := C6 p.vars.length p.arrays.length 5 p.body h2; have z1 := W7 p.vars; have z2 := W7 p.arrays; refine H7 16 Tryd.func28 [dI p.vars, dI p.arrays, dT p.body] [(0, pA 0)] fun G => ?_; refine wp_seq (l7 G e5 (rg 4) [dI p.vars, dI p.arrays, dT p.body, .box (pL 0)] [(1, .ptr 3 0), (2, .v (.string (ByteArray.mk #[])))] fun G => b0 (wp_seq (K8 G (x6 (n4 2 [0] (C2 p.vars (by assumption) (by omega)) (n4 6 [1] (C2 p.arrays (by assumption) (by omega)) (n4 11 [2] hl x5))) fz []) [0, 1, 3, 7, 0, 16, 55, 127, 255, 0, 512, 1655, 4095, 8191] [0, 1, 2] [dI p.vars, dI p.arrays, dT p.body] [(2, .v (.string (j6 (o7 p.vars) ++ ByteArray.mk #[47] ++ j6 (o7 p.arrays) ++ ByteArray.mk #[47] ++ j6 (f9 p.body))))] [(↑((j6 (o7 p.vars)).size + (ByteArray.mk #[(47 : UInt8)]).size) : Int) <= 9223372036854775807, (↑((j6 (o7 p.vars) ++ ByteArray.mk #[(47 : UInt8)]).size + (j6 (o7 p.arrays)).size) : Int) <= 9223372036854775807, (↑((j6 (o7 p.vars) ++ ByteArray.mk #[(47 : UInt8)] ++ j6 (o7 p.arrays)).size + (ByteArray.mk #[(47 : UInt8)]).size) : Int) <= 9223372036854775807, (↑((j6 (o7 p.vars) ++ ByteArray.mk #[(47 : UInt8)] ++ j6 (o7 p.arrays) ++ ByteArray.mk #[(47 : UInt8)]).size + (j6 (f9 p.body)).size) : Int) <= 9223372036854775807] ⟨(by simp only [ByteArray.size_append, j4, j5, bg5, bg0, bg4]; omega), (by simp only [ByteArray.size_append, j4, j5, bg5, bg0, bg4]; omega), (by simp only [ByteArray.size_append, j4, j5, bg5, bg0, bg4]; omega), (by simp only [ByteArray.size_append, j4, j5, bg5, bg0, bg4]; omega), bh8⟩ fun G => b0 (wp_ret ?_)))); exact O1 G [0, 1, 2]
theorem aR4 {p : d8} (h : w5 p = true) : Z2 p = af4 p := by unfold Z2; rw [if_pos h]
theorem aa1 (p : d8) : i8.ok Tryd.prog (I3 9 [pA 0] (pS p) (tA (Z2 p))) := by
 refine H7 8 Tryd.func9 [dI p.vars, dI p.arrays, dT p.body] [(0, pA 0)] fun G => ?_; refine wp_seq (l7 G e5 (rg 4) [dI p.vars, dI p.arrays, dT p.body, .box (pL 0)] [(1, .ptr 3 0), (2, .v (.string (ByteArray.mk #[])))] fun G => b0 (wp_seq (wp_seq (l6 G (w7 1 [0, 1, 2] (ac7 p)) [(5, .v (.bool !w5 p))] fun G => b0 ?_)))); cases h0 : (!w5 p)
 ·have q0 : (w5 p) = true := (Eq.mp (bh6 _) h0); refine rF G _ h0 (wp_skip (b0 (wp_seq (l7 G (w7 1 [0, 1, 2] (aj2 p (by assumption))) [0, 1, 2] [dI p.vars, dI p.arrays, dT p.body] [(2, .v (.string (j6 (af4 p))))] fun G => b0 (wp_ret ?_))))); exact rxv (.v (.string (j6 (af4 p)))) G [0, 1, 2] (by show _ = AV.ren (nth [0, 1, 2]) (.v (.string (j6 (Z2 p)))); have e1 : (j6 (Z2 p) : ByteArray) = (j6 (af4 p)) := (by rw [aR4 (by assumption)]); (first | rw [e1] | simp only [e1]) <;> rfl)
 have q0 : (w5 p) = false := (Eq.mp (bg8 _) h0); refine rT G _ h0 (wp_seq (l6 G e5 [] fun G => b0 (wp_ret (k8 ?_)))); exact rxv (.v (.string (ByteArray.mk #[]))) G [0, 1, 2] (by show _ = AV.ren (nth [0, 1, 2]) (.v (.string (j6 (Z2 p)))); have e1 : (j6 (Z2 p) : ByteArray) = (ByteArray.mk #[]) := ((bf1 (by assumption)).symm); (first | rw [e1] | simp only [e1]) <;> rfl)
theorem aS9 (p : d8) (e : b6) : i8.ok Tryd.prog (I3 15 [pA 0, eA e 3] (pS p ++ eS e) (bA (s8 p e))) :=
 I6 fun φ w ρ h => af0 p e φ φ _ _ w ⟨ρ 0, ρ 1, ρ 2, rfl, h 0 _ rfl, h 1 _ rfl, h 2 _ rfl⟩ ⟨ρ 3, rfl, h 3 _ rfl⟩
theorem aT0 (p : d8) (e : b6) : i8.ok Tryd.prog (I3 14 [pA 0, eA e 3] (pS p ++ eS e) (bA (s8 p e))) :=
 I6 fun φ w ρ h => ag7 p e φ φ _ _ w ⟨ρ 0, ρ 1, ρ 2, rfl, h 0 _ rfl, h 1 _ rfl, h 2 _ rfl⟩ ⟨ρ 3, rfl, h 3 _ rfl⟩
section
variable {p : d8} {e : b6}
theorem ai7 (h : s8 p e = true) : p7 p.vars p.arrays = true /\ d9 p.vars.length p.arrays.length e = true := by
 unfold s8 at h; simpa only [bf8] using h
theorem bb0 (h : s8 p e = true) : i8.ok Tryd.prog (I3 33 [eA e 0] (eS e) (tA (c6 e))) :=
 aT3 _ _ (A9 (ai7 h).1).2.2.2.1 (A9 (ai7 h).1).2.2.2.2 e (ai7 h).2
theorem bb1 (h : s8 p e = true) : i8.ok Tryd.prog (I3 32 [eA e 0] (eS e) (tA (c6 e))) :=
 ah8 _ _ (A9 (ai7 h).1).2.2.2.1 (A9 (ai7 h).1).2.2.2.2 e (ai7 h).2
theorem aX8 (h : s8 p e = true) : ac5 p e = c6 e := by unfold ac5; exact if_pos h
theorem aX9 (h : s8 p e = false) : ac5 p e = [] := by unfold ac5; rw [show (p7 p.vars p.arrays && d9 p.vars.length p.arrays.length e) = false from h]; rfl
end
theorem X8 (p : d8) (e : b6) : i8.ok Tryd.prog (I3 13 [pA 0, eA e 3] (pS p ++ eS e) (tA (ac5 p e))) := by
 refine H7 11 Tryd.func13 [dI p.vars, dI p.arrays, dT p.body, dE e.kids] [(0, pA 0), (1, eA e 3)] fun G => ?_; refine wp_seq (l7 G e5 [0, 1, 2, 3, 4, 12] [dI p.vars, dI p.arrays, dT p.body, dE e.kids, .box (pL 0), .box (eL e 3)] [(2, .ptr 4 0), (3, .ptr 5 0), (4, .v (.string (ByteArray.mk #[])))] fun G => b0 (wp_seq (wp_seq (l7 G (w7 2 (rg 4) (aS9 p e)) [0, 1, 2, 3, 5] [dI p.vars, dI p.arrays, dT p.body, dE e.kids, .box (eL e 3)] [(3, .ptr 4 0), (4, .v (.string (ByteArray.mk #[]))), (8, .v (.bool !s8 p e))] fun G => b0 ?_)))); cases h0 : (!s8 p e)
 ·have q0 : (s8 p e) = true := (Eq.mp (bh6 _) h0); have hx := bb0 (p := p) (e := e) (by assumption); refine rF G _ h0 (wp_skip (b0 (wp_seq (l7 G (w7 1 [3] hx) (rg 4) [dI p.vars, dI p.arrays, dT p.body, dE e.kids] [(4, .v (.string (j6 (c6 e))))] fun G => b0 (wp_ret ?_))))); exact rxv (.v (.string (j6 (c6 e)))) G (rg 4) (by show _ = AV.ren (nth (rg 4)) (.v (.string (j6 (ac5 p e)))); have e1 : (j6 (ac5 p e) : ByteArray) = (j6 (c6 e)) := (by rw [aX8 (by assumption)]); (first | rw [e1] | simp only [e1]) <;> rfl)
 have q0 : (s8 p e) = false := (Eq.mp (bg8 _) h0); refine rT G _ h0 (wp_seq (l6 G e5 [] fun G => b0 (wp_ret (k8 ?_)))); exact rxv (.v (.string (ByteArray.mk #[]))) G (rg 4) (by show _ = AV.ren (nth (rg 4)) (.v (.string (j6 (ac5 p e)))); rw [aX9 (by assumption)] <;> rfl)
theorem T2 (p : d8) (e : b6) : i8.ok Tryd.prog (I3 12 [pA 0, eA e 3] (pS p ++ eS e) (tA (ac5 p e))) := by
 refine H7 11 Tryd.func12 [dI p.vars, dI p.arrays, dT p.body, dE e.kids] [(0, pA 0), (1, eA e 3)] fun G => ?_; refine wp_seq (l7 G e5 [0, 1, 2, 3, 4, 12] [dI p.vars, dI p.arrays, dT p.body, dE e.kids, .box (pL 0), .box (eL e 3)] [(2, .ptr 4 0), (3, .ptr 5 0), (4, .v (.string (ByteArray.mk #[])))] fun G => b0 (wp_seq (wp_seq (l7 G (w7 2 (rg 4) (aT0 p e)) [0, 1, 2, 3, 5] [dI p.vars, dI p.arrays, dT p.body, dE e.kids, .box (eL e 3)] [(3, .ptr 4 0), (4, .v (.string (ByteArray.mk #[]))), (8, .v (.bool !s8 p e))] fun G => b0 ?_)))); cases h0 : (!s8 p e)
 ·have q0 : (s8 p e) = true := (Eq.mp (bh6 _) h0); have hx := bb1 (p := p) (e := e) (by assumption); refine rF G _ h0 (wp_skip (b0 (wp_seq (l7 G (w7 1 [3] hx) (rg 4) [dI p.vars, dI p.arrays, dT p.body, dE e.kids] [(4, .v (.string (j6 (c6 e))))] fun G => b0 (wp_ret ?_))))); exact rxv (.v (.string (j6 (c6 e)))) G (rg 4) (by show _ = AV.ren (nth (rg 4)) (.v (.string (j6 (ac5 p e)))); have e1 : (j6 (ac5 p e) : ByteArray) = (j6 (c6 e)) := (by rw [aX8 (by assumption)]); (first | rw [e1] | simp only [e1]) <;> rfl)
 have q0 : (s8 p e) = false := (Eq.mp (bg8 _) h0); refine rT G _ h0 (wp_seq (l6 G e5 [] fun G => b0 (wp_ret (k8 ?_)))); exact rxv (.v (.string (ByteArray.mk #[]))) G (rg 4) (by show _ = AV.ren (nth (rg 4)) (.v (.string (j6 (ac5 p e)))); rw [aX9 (by assumption)] <;> rfl)
def au3 (p : d8) (e : b6) : d8 := ⟨p.vars, p.arrays, [⟨1, 0, ⟨0, 0, []⟩, e, 0, [], []⟩]⟩
theorem aW6 {p : d8} {e : b6} (h : s8 p e = true) : w5 (au3 p e) = true := by
 obtain ⟨h1, h2⟩ := ai7 h
 have h3 := (A9 h1).2.2.1
 unfold w5 au3
 dsimp only
 rw [h1, Bool.true_and]
 simp only [P8, List.all_cons, List.all_nil, Bool.and_true, K9, nS]
 rw [f8]
 simp only [j7, noneB]
 have h5 : p.vars ≠ [] := by intro e0; rw [e0] at h3; simp at h3
 simp [h2, h5, b7.kind, b7.target, b7.count, b7.index, b7.value, b7.body, b7.els, b6.kind, b6.value, b6.kids]
 omega
theorem aO6 {p : d8} {e : b6} (h : s8 p e = true) : j6 (Z2 (au3 p e)) = j6 (o7 p.vars) ++ ⟨#[47]⟩ ++ j6 (o7 p.arrays) ++ ⟨#[47, 97, 58, 61]⟩ ++ j6 (c6 e) ++ ⟨#[59]⟩ := by
 rw [aR4 (aW6 h), af4]
 show _ = j6 _ ++ j6 [47] ++ j6 _ ++ j6 [47, 97, 58, 61] ++ j6 _ ++ j6 [59]
 simp only [Q4, au3, f9, aH5, stT]
 simp
theorem aU4 {e : b6} {nv na d : Nat} (h : d7 nv na d e = true) : c6 e ≠ [] := by
 rw [V3]
 unfold aF4
 repeat' split
 ·rw [Lib.decDigits]; split <;> simp
 all_goals simp
theorem aX2 {l : List UInt8} (h : l ≠ []) : ((j6 l).toList == (⟨#[]⟩ : ByteArray).toList) = false := by
 rw [ar9, show (⟨#[]⟩ : ByteArray).toList = [] from ar9 []]
 cases l with
 | nil => exact absurd rfl h
 | cons a r => rfl
theorem ar7 {s t : ByteArray} (h : s = t) : (s.toList == t.toList) = true := by subst h; simp
theorem aI5 (w : World) (he : aK9 (fun _ => True) w := by intro _ _; trivial) : f6 (fun _ => True) (fun _ => True) w w (l0 (fun _ : Empty => Rs.none) (fun _ => undef) (m7 [])) := by
 refine (f6.start (ι := Empty ⊕ Nat) (w0 := w) (φ := fun _ => True) (ψ := fun _ => True) (fun _ _ => trivial) he).map (fun k => some k) (fun k k' i a b => by cases a; cases b; rfl) fun k => ?_
 cases k with
 | inl e => exact e.elim
 | inr j => exact .inr rfl
theorem aK8 (w : World) : A4 (fun _ => True) (L1 (fun _ => True) (l0 (fun _ : Empty => Rs.none) (fun _ => undef) (m7 []))) w w := A4.mono fun b _ _ => ⟨bh8, fun i => by
 cases i with
 | inl e => exact e.elim
 | inr j => exact fun h => h.elim⟩
abbrev u8s (c : List UInt8) : List Value := c.map fun b => Value.int .u8 (b.toNat : Int)
theorem aK1 {P : Program} {f : FuncId} {x : Value} {c : List UInt8} {post : List It} (hc : i8.ok P ⟨f, [.ref 0], [dY c], post, .v x⟩) (u : Value) (w : World) (hp : p6 w (fun _ => True) u c.length 1 (u8s c)) (he : aK9 (fun _ => True) w := by intro _ _; trivial) :
  Calls P f #[u] w fun e w' => e = .returned x /\ Below w.heap.size w w' := by
 obtain ⟨ρ', g1, M2, g2⟩ := f6.dats [.sl (.bytes c)] [u] 0 (aI5 w he) ⟨RD.nice (.bytes c) _ _ _ _ _ (aK8 w) hp, bh8⟩ (fun _ _ => rfl) (fun _ _ _ => rfl)
 have e : j3 (m7 []) (F9 [.sl (.bytes c)] 0) = m7 [dY c] := by
  funext j
  match j with
  | 0 => rfl
  | j + 1 => simp [F9, j3, m7]
 rw [e] at M2
 simp only [xav, AV.vals, AV.val, List.cons.injEq, and_true] at g2
 subst g2
 refine (hc Empty _ _ w w _ ρ' M2).mono ?_
 rintro e w' ⟨ρ2, -, rfl, M3⟩
 exact ⟨rfl, M3.below fun _ _ => trivial⟩
end Go.Proofs.YtcahndjigkledaaDoor
