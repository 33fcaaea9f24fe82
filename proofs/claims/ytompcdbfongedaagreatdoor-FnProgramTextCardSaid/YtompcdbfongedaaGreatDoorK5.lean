/- Part 5: functions on the way, plain laws. Conditions: as said. -/
import Derived.Test.YtompcdbfongedaaGreatDoorK1
import Derived.Test.YtompcdbfongedaaGreatDoorK2
import Derived.Test.YtompcdbfongedaaGreatDoorK3
import Derived.Test.YtompcdbfongedaaGreatDoorK4
set_option maxRecDepth 100000
set_option maxHeartbeats 16000000
set_option linter.unusedVariables false
set_option linter.unusedSimpArgs false
open Bool renaming and_eq_true → b57, not_eq_false' → b67, not_eq_true' → b65
open Inhabited renaming default → b55
open Int renaming mul_le_mul_of_nonneg_right → ca0
open List renaming all_eq_true → b68, append_assoc → b83, getD_eq_getElem?_getD → b59, getElem?_append_left → b95, getElem?_cons_succ → b81, getElem?_cons_zero → b74, getElem?_eq_getElem → b56, getElem?_eq_none → b87, getElem?_eq_some_iff → b66, getElem_mem → b64, length_append → b69, length_cons → b58, length_nil → b60, mem_append → b73, mem_cons → b76, mem_cons_of_mem → b80, mem_cons_self → b72, not_mem_nil → b98, range → b82, replicate → b77, size_toArray → b62, take → b63, take_of_length_le → b75
open Nat renaming le_refl → b71, le_trans → b54, lt_or_ge → b86, zero_le → b92
open Option renaming getD_some → b93
open True renaming intro → b70

namespace Go.Proofs.YtompcdbfongedaaGreatDoor
open Go Go.RowKit
theorem bP2 {l : List b7} {k : Nat} (hk : k < l.length) : l.take k ++ [⟨(l.getD k b55).kind, (l.getD k b55).value, (l.getD k b55).kids⟩] = l.take (k + 1) := by
 rw [b7.eta, B1 _ _ hk, m9 hk]
theorem bP1 {l : List b5} {k : Nat} (hk : k < l.length) : l.take k ++ [⟨(l.getD k b55).kind, (l.getD k b55).target, ⟨(l.getD k b55).index.kind, (l.getD k b55).index.value, (l.getD k b55).index.kids⟩, ⟨(l.getD k b55).value.kind, (l.getD k b55).value.value, (l.getD k b55).value.kids⟩, (l.getD k b55).count, (l.getD k b55).body, (l.getD k b55).els⟩] = l.take (k + 1) := by
 rw [b7.eta, b7.eta, b5.eta, B1 _ _ hk, m9 hk]
theorem a58 {α : Type} {l : List α} {k : Nat} (h1 : k <= l.length) (h2 : ¬ (k : Int) < l.length) : l.take k = l := by rw [b75 (by omega)]
theorem bo0 {α : Type} {l : List α} {k n : Nat} (h1 : k <= l.length) (h : l.length <= n) : (l.take k).length <= n := by rw [List.length_take]; omega
theorem bo8 {e : b7} (h : L8 e <= 1048576) : e.kids.length <= 1048576 := by
 have h1 := bi8 e.kids
 have h2 : L8 e = s2 e.kids := by cases e; rfl
 omega
theorem bf5 {l : List b5} (h : p9 l <= 1048576) : l.length <= 1048576 := b54 (aj7 l) h
theorem bd5 {α : Type} {l : List α} {x : α} {k : Nat} (h1 : k <= l.length) (h : l.length <= 1048576) : (l.take k).length + [x].length <= 1048577 := by
 have := bo0 (k := k) h1 h
 simp only [b58, b60]; omega
theorem bV3 {a b : Nat} (ha : a <= 1048577) (hb : Nat.ble b 1000 = true) : a * b <= 140737488355328 := by
 have h1 := Nat.le_of_ble_eq_true hb
 have h2 := Nat.mul_le_mul ha h1
 omega
theorem aT2 {l : List b7} {k : Nat} (h : (k : Int) < l.length) : l.getD k b55 ∈ l := by rw [m9 (by omega)]; exact b64 (by omega)
theorem al2 {l : List b5} {k : Nat} (h : (k : Int) < l.length) : l.getD k b55 ∈ l := by rw [m9 (by omega)]; exact b64 (by omega)
abbrev cpC (e : b7) : j1 := ⟨134, [eA e 0], eS e, eS e ++ [.tree (.exprs e.kids)], .agg [iA e.kind, iA e.value, .tref 1]⟩
abbrev aN9 (e : b7) (r0 : List It) : List It := dE e.kids :: .box (eL e 0) :: .box [iA 0, iA 0, .v (.slice none 0 0)] :: r0
theorem bk9 (e : b7) (hb : L8 e <= 1048576) (ih : ∀ (x : b7), x ∈ e.kids -> j1.ok Tryz.prog (cpC x)) : j1.ok Tryz.prog (cpC e) := by
 refine D2 29 Tryz.func134 [dE e.kids] [(0, eA e 0)] fun G => ?_; have hl := bo8 hb; refine wp_seq (j5 G d7 [0, 1, 9] (aN9 e []) [(1, .ptr 1 0), (2, .ptr 2 0)] fun G => b0 (wp_seq (j5 G d7 [0, 1, 2, 43] (aN9 e [.box [iA e.kind, iA e.value, .v (.slice none 0 0)]]) [(1, .ptr 1 0), (2, .ptr 2 0), (3, .ptr 3 0)] fun G => b0 (wp_seq (wp_seq (A4 G d7 [(1, .ptr 1 0), (2, .ptr 2 0), (3, .ptr 3 0), (4, iA 0)] fun G => b0 (wp_block ?_))))))); obtain ⟨ρ, G⟩ := G.nilT 4 (.exprs []) (aN9 e [.box [iA e.kind, iA e.value, .tref 4]]) [(1, .ptr 1 0), (2, .ptr 2 0), (3, .ptr 3 0), (4, iA 0)]; refine x4 (κ := Nat) (fun k => k <= e.kids.length) (fun k => e.kids.length - k) (fun k => [dE e.kids, .box (eL e 0), .box [iA 0, iA 0, .v (.slice none 0 0)], .box [iA e.kind, iA e.value, .tref 4], .tree (.exprs (e.kids.take k))]) (fun k => [(1, .ptr 1 0), (2, .ptr 2 0), (3, .ptr 3 0), (4, iA k)]) 0 (by omega) (w6.at G _ _) ?_; clear G; intro k ρ a w hp G; replace G := w6.at G (aN9 e [.box [iA e.kind, iA e.value, .tref 4], .tree (D.exprs (b63 k e.kids))]) [(1, .ptr 1 0), (2, .ptr 2 0), (3, .ptr 3 0), (4, iA k)]; refine wp_seq (wp_seq (j3 G d7 [(14, bA (decide ((k : Int) < e.kids.length)))] fun G => b0 (S9 G (fun h0 q0 => ?_) fun h0 q0 => ?_)))
 ·refine wp_exit (p8 (p8 (p7 (b0 (wp_seq (j5 G d7 [0, 2, 4] [dE e.kids, .box [iA e.kind, iA e.value, .tref 2], .tree (D.exprs (b63 k e.kids))] [(2, .ptr 1 0)] fun G => b0 (wp_ret ?_))))))); exact H9 G [0, 2] (by show _ = mR [0, 2] [dE e.kids, .tree (D.exprs e.kids)]; have e1 : (b63 k e.kids : List b7) = (e.kids) := (a58 hp (by assumption)); (first | rw [e1] | simp only [e1]) <;> rfl)
 refine wp_skip (b0 (wp_seq (wp_block (B2 G (n4 7 [53] (ih (e.kids.getD k b55) (aT2 (by assumption)))) [0, 1, 0, 4, 0, 28, 60, 124, 252, 511, 1023, 2047] [0, 1, 2, 3, 77] (aN9 e [.box [iA e.kind, iA e.value, .tref 4], .tree (D.exprs (b63 k e.kids ++ [C8 (e.kids.getD k b55)]))]) [(1, .ptr 1 0), (2, .ptr 2 0), (3, .ptr 3 0), (4, iA k)] (iX k k e.kids.length (((b63 k e.kids).length + [C8 (e.kids.getD k b55)].length <= (9223372036854775807 : Nat)) :: ((((b63 k e.kids).length + [C8 (e.kids.getD k b55)].length) * (40 : Nat) <= (140737488355328 : Nat)) :: []))) (iK (by omega) ⟨(by have := bd5 (x := (b55 : b7)) hp hl; simp only [b58, b60] at this ⊢; omega), ⟨(bV3 (bd5 hp hl) (by kernel_rfl)), b70⟩⟩) fun G => o9 (b0 (G7 G d7 [(4, iA ((k : Int) + 1))] [wO ((k : Int) + 1)] (o1 (by omega)) fun G => b0 ?_)))))); exact Z9 G (k + 1) (by omega) (by omega) (rg 5) (by have e1 : (b63 (k + 1) e.kids : List b7) = (b63 k e.kids ++ [C8 (e.kids.getD k b55)]) := ((bP2 (by omega)).symm); (first | rw [e1] | simp only [e1]) <;> rfl)
theorem bb4 (e : b7) : L8 e <= 1048576 -> j1.ok Tryz.prog (cpC e) :=
 b7.ind (P := fun e => L8 e <= 1048576 -> j1.ok Tryz.prog (cpC e)) (fun k n ks ih hb => bk9 ⟨k, n, ks⟩ hb fun x hx => ih x hx (by
  have h1 := bv2 (show x ∈ ks from hx)
  have h2 : L8 ⟨k, n, ks⟩ = s2 ks := rfl
  omega)) e
abbrev aU6 (l : List b5) : j1 := ⟨117, [.ref 0], [dT l], [dT l, .tree (.stmts l)], .tref 1⟩
theorem ba2 {l : List b5} {k : Nat} (hb : p9 l <= 1048576) (h : (k : Int) < l.length) : L8 (l.getD k b55).index <= 1048576 /\ L8 (l.getD k b55).value <= 1048576 /\ p9 (l.getD k b55).body <= 1048576 /\ p9 (l.getD k b55).els <= 1048576 := by
 have h1 := U3 (al2 h)
 generalize l.getD k b55 = s at *
 rcases s with ⟨_, _, i, v, _, b, e⟩
 simp only [szS] at h1
 simp only [b5.index, b5.value, b5.body, b5.els]
 omega
abbrev au7 (k : Nat) (r0 : List (Nat × AV)) : List (Nat × AV) := (0, .ref 0) :: (2, .v (.slice none 0 0)) :: (3, .tref 1) :: (4, iA (k : Int)) :: r0
theorem aw8 (l : List b5) (hb : p9 l <= 1048576) (ih1 : ∀ (s : b5), s ∈ l -> j1.ok Tryz.prog (aU6 s.body)) (ih2 : ∀ (s : b5), s ∈ l -> j1.ok Tryz.prog (aU6 s.els)) : j1.ok Tryz.prog (aU6 l) := by
  refine D2 38 Tryz.func117 [dT l] [(0, .ref 0)] fun G => ?_; have hl := bf5 hb; refine wp_seq (j3 G d7 [(2, .v (.slice none 0 0))] fun G => b0 (wp_seq (j5 G d7 [0, 1] [dT l, .tree (D.stmts [])] [(0, .ref 0), (2, .v (.slice none 0 0)), (3, .tref 1)] fun G => b0 (wp_seq (wp_seq (A4 G d7 [(0, .ref 0), (2, .v (.slice none 0 0)), (3, .tref 1), (4, iA 0)] fun G => b0 (wp_block ?_))))))); refine x4 (κ := Nat) (fun k => k <= l.length) (fun k => l.length - k) (fun k => [dT l, .tree (.stmts (l.take k))]) (fun k => [(0, .ref 0), (2, .v (.slice none 0 0)), (3, .tref 1), (4, iA k)]) 0 (by omega) (w6.at G _ _) ?_; clear G; intro k ρ a w hp G; replace G := w6.at G [dT l, .tree (D.stmts (b63 k l))] (au7 k []); refine wp_seq (wp_seq (j3 G d7 [(10, bA (decide ((k : Int) < l.length)))] fun G => b0 (S9 G (fun h0 q0 => ?_) fun h0 q0 => ?_)))
  · refine wp_exit (p8 (p8 (p7 (b0 (wp_seq (j3 G d7 [(2, .tref 1)] fun G => b0 (wp_ret ?_))))))); exact H9 G [0, 1] (by show _ = mR [0, 1] [dT l, .tree (D.stmts l)]; have e1 : (b63 k l : List b5) = (l) := (a58 hp (by assumption)); (first | rw [e1] | simp only [e1]) <;> rfl)
  refine wp_skip (b0 (wp_seq (wp_block (wp_seq (G8 G d7 [0, 1, 26, 27, 28, 29, 34] [dT l, .tree (D.stmts (b63 k l)), dE (l.getD k b55).index.kids, dE (l.getD k b55).value.kids, dT (l.getD k b55).body, dT (l.getD k b55).els, .box (sL (l.getD k b55) 2)] (au7 k [(5, .ptr 6 0)]) (iX k k l.length []) (iK (by omega) b70) fun G => b0 (wp_seq (j5 G (n4 2 [2] (bb4 ((l.getD k b55).index) ((ba2 hb (by assumption)).1))) [0, 1, 3, 4, 5, 6, 23] [dT l, .tree (D.stmts (b63 k l)), dE (l.getD k b55).value.kids, dT (l.getD k b55).body, dT (l.getD k b55).els, .box [iA (l.getD k b55).kind, iA (l.getD k b55).target, iA (l.getD k b55).index.kind, iA (l.getD k b55).index.value, .tref 6, iA (l.getD k b55).value.kind, iA (l.getD k b55).value.value, .ref 2, iA (l.getD k b55).count, .ref 3, .ref 4], .tree (D.exprs (l.getD k b55).index.kids)] (au7 k [(5, .ptr 5 0)]) fun G => b0 (wp_seq (j5 G (n4 2 [2] (bb4 ((l.getD k b55).value) ((ba2 hb (by assumption)).2.1))) [0, 1, 3, 4, 5, 6, 23] [dT l, .tree (D.stmts (b63 k l)), dT (l.getD k b55).body, dT (l.getD k b55).els, .box [iA (l.getD k b55).kind, iA (l.getD k b55).target, iA (l.getD k b55).index.kind, iA (l.getD k b55).index.value, .tref 5, iA (l.getD k b55).value.kind, iA (l.getD k b55).value.value, .tref 6, iA (l.getD k b55).count, .ref 2, .ref 3], .tree (D.exprs (l.getD k b55).index.kids), .tree (D.exprs (l.getD k b55).value.kids)] (au7 k [(5, .ptr 4 0)]) fun G => b0 (wp_seq (j5 G (n4 2 [2] (ih1 (l.getD k b55) (al2 (by assumption)))) [0, 1, 3, 4, 5, 6, 23] [dT l, .tree (D.stmts (b63 k l)), dT (l.getD k b55).els, .box [iA (l.getD k b55).kind, iA (l.getD k b55).target, iA (l.getD k b55).index.kind, iA (l.getD k b55).index.value, .tref 4, iA (l.getD k b55).value.kind, iA (l.getD k b55).value.value, .tref 5, iA (l.getD k b55).count, .tref 6, .ref 2], .tree (D.exprs (l.getD k b55).index.kids), .tree (D.exprs (l.getD k b55).value.kids), .tree (D.stmts (l.getD k b55).body)] (au7 k [(5, .ptr 3 0)]) fun G => b0 (wp_seq (j5 G (n4 2 [2] (ih2 (l.getD k b55) (al2 (by assumption)))) [0, 1, 3, 4, 5, 6, 23] [dT l, .tree (D.stmts (b63 k l)), .box [iA (l.getD k b55).kind, iA (l.getD k b55).target, iA (l.getD k b55).index.kind, iA (l.getD k b55).index.value, .tref 3, iA (l.getD k b55).value.kind, iA (l.getD k b55).value.value, .tref 4, iA (l.getD k b55).count, .tref 5, .tref 6], .tree (D.exprs (l.getD k b55).index.kids), .tree (D.exprs (l.getD k b55).value.kids), .tree (D.stmts (l.getD k b55).body), .tree (D.stmts (l.getD k b55).els)] (au7 k [(5, .ptr 2 0)]) fun G => b0 (G8 G d7 [0, 31] [dT l, .tree (D.stmts (b63 k l ++ [qzS (l.getD k b55)]))] (au7 k []) [(b63 k l).length + [qzS (l.getD k b55)].length <= (9223372036854775807 : Nat), ((b63 k l).length + [qzS (l.getD k b55)].length) * (152 : Nat) <= (140737488355328 : Nat)] ⟨(by have := bd5 (x := (b55 : b5)) hp hl; simp only [b58, b60] at this ⊢; omega), (bV3 (bd5 hp hl) (by kernel_rfl)), b70⟩ fun G => ?_))))))))))))))
  refine o9 (b0 (G7 G d7 [(4, iA ((k : Int) + 1))] [wO ((k : Int) + 1)] (o1 (by omega)) fun G => b0 ?_)); exact Z9 G (k + 1) (by omega) (by omega) [0, 1] (by have e1 : (b63 (k + 1) l : List b5) = (b63 k l ++ [qzS (l.getD k b55)]) := ((bP1 (by omega)).symm); (first | rw [e1] | simp only [e1]) <;> rfl)
theorem bA9 (l : List b5) : p9 l <= 1048576 -> j1.ok Tryz.prog (aU6 l) := fun hb => aw8 l hb
 (fun s hs => (c_copyS2 s).1 (b54 (Nat.le_of_lt (U3 hs)) hb)) fun s hs => (c_copyS2 s).2 (b54 (Nat.le_of_lt (U3 hs)) hb)
where
 c_copyS2 (s : b5) : (szS s <= 1048576 -> j1.ok Tryz.prog (aU6 s.body)) /\ (szS s <= 1048576 -> j1.ok Tryz.prog (aU6 s.els)) :=
  b5.ind (P := fun s => (szS s <= 1048576 -> j1.ok Tryz.prog (aU6 s.body)) /\ (szS s <= 1048576 -> j1.ok Tryz.prog (aU6 s.els))) (fun k t i v c b e h1 h2 => by
   have hz : szS ⟨k, t, i, v, c, b, e⟩ = L8 i + L8 v + p9 b + p9 e := rfl
   constructor
   ·intro hb
    refine aw8 b (by omega) (fun s hs => (h1 s hs).1 ?_) fun s hs => (h1 s hs).2 ?_
    ·have := U3 hs; omega
    have := U3 hs; omega
   intro hb
   refine aw8 e (by omega) (fun s hs => (h2 s hs).1 ?_) fun s hs => (h2 s hs).2 ?_
   ·have := U3 hs; omega
   have := U3 hs; omega) s
theorem bt5 (p : j0) (hb : p.size <= 1048576) : j1.ok Tryz.prog ⟨93, [pA 0], pS p, pS p ++ oP p, oA 3⟩ := by
 refine D2 15 Tryz.func93 [dI p.vars, dI p.arrays, dT p.body] [(0, pA 0)] fun G => ?_
 have hb1 : p.vars.length <= 1048576 /\ p.arrays.length <= 1048576 /\ p9 p.body <= 1048576 := by unfold j0.size at hb; omega
 refine wp_seq (j5 G d7 [0, 1, 2, 3, 11] [dI p.vars, dI p.arrays, dT p.body, .box (pL 0), .box [.v (.slice none 0 0), .v (.slice none 0 0), .v (.slice none 0 0)]] [(1, .ptr 3 0), (2, .ptr 4 0)] fun G => b0 (wp_seq (B2 G (n4 10 [2] (bA9 p.body (by omega))) [0, 0, 2, 7, 0, 0, 32, 127, 0, 256, 1023, 2047, 4095] [0, 1, 2, 4, 29, 61, 85] [dI p.vars, dI p.arrays, dT p.body, .box [.ref 4, .ref 5, .tref 6], .row 3 (D.ints ([] ++ p.vars)), .row 3 (D.ints ([] ++ p.arrays)), .tree (D.stmts p.body)] [(2, .ptr 3 0)] (aP ((0 : Nat) + p.vars.length) 8 (aP ((0 : Nat) + p.arrays.length) 8 [])) (aK (by omega) (aK (by omega) b70)) fun G => b0 (wp_ret ?_)))); exact H9 G [0, 1, 2, 4, 5, 6]
section
variable {nv na d : Nat} {e : b7}
end
section
variable {vs ars : List Int} {d : Nat} {e : b7}
end
section
variable {nv na : Nat} {s : b5}
variable (h : L1 nv na s = true)
include h
end
section
variable {p : j0} {s : b5} {pc : Int} {strict : Bool} {x : Int}
end
section
variable {p : j0} {strict : Bool} {d c : Nat} {pc : Int} {s : b5}
end
section
variable {p : j0} {strict : Bool}
end
section
variable {p : j0} {s : b5} {cx : Int}
end
section
variable {p : j0} {s : b5}
end
section
variable {R : b5 × Int -> Int} {c a : Int} {n : Nat} {x : b5 × Int}
end
section
variable {R : b5 × Int -> Int} {p : j0} {d : Nat} {cx : Int} {ss : List b5} {c b : Int} {n k : Nat}
end
abbrev Lab : Type := List Int × List Int
def bv (x : Int) : BitVec 64 := BitVec.ofInt 64 x
def leI (x y : Int) : Prop := bv x ||| bv y = bv y
theorem leI.refl (x : Int) : leI x x := BitVec.or_self
theorem leI.trans {x y z : Int} (h : leI x y) (k : leI y z) : leI x z := by
 unfold leI at *
 rw [<- k, <- BitVec.or_assoc, h]
def leP (q r : Lab) : Prop := (∀ i, leI (q.1.getD i 0) (r.1.getD i 0)) /\ ∀ i, leI (q.2.getD i 0) (r.2.getD i 0)
def shP (q r : Lab) : Prop := r.1.length = q.1.length /\ r.2.length = q.2.length
theorem leP.refl (q : Lab) : leP q q := ⟨fun _ => leI.refl _, fun _ => leI.refl _⟩
theorem leP.trans {q r s : Lab} (h : leP q r) (k : leP r s) : leP q s := ⟨fun i => (h.1 i).trans (k.1 i), fun i => (h.2 i).trans (k.2 i)⟩
theorem shP.refl (q : Lab) : shP q q := ⟨rfl, rfl⟩
theorem shP.trans {q r s : Lab} (h : shP q r) (k : shP r s) : shP q s := ⟨k.1.trans h.1, k.2.trans h.2⟩
theorem shP.symm {q r : Lab} (h : shP q r) : shP r q := ⟨h.1.symm, h.2.symm⟩
section
variable {b : Bool} {d : Nat} {cx : Int} {q r : Lab} {ss : List b5}
end
theorem bC8 {a b : b7} (h : ¬ a = b) : I7 a b = false := by
 cases e : I7 a b
 ·rfl
 exact absurd ((K1 a b).1 e) h
section
variable {a b : b7} {k : Nat}
theorem sx1 (h : ¬ a.kind = b.kind) : I7 a b = false := bC8 fun e => h (by rw [e])
theorem sx2 (h : ¬ a.value = b.value) : I7 a b = false := bC8 fun e => h (by rw [e])
theorem an4 {α : Type} {l m : List α} {k : Nat} {z : α} (h : l.take k = m.take k) (h1 : k < l.length) (h2 : k < m.length) (e : l.getD k z = m.getD k z) : l.take (k + 1) = m.take (k + 1) := by
 rw [B1 _ _ h1, B1 _ _ h2, h, <- m9 (d := z) h1, <- m9 (d := z) h2, e]
theorem av9 {α : Type} {l m : List α} {k : Nat} (h : l.take k = m.take k) (h1 : l.length <= k) (h2 : (l.length : Int) = m.length) : l = m := by
 rw [b75 h1, b75 (by omega)] at h
 exact h
end
theorem aw5 {s t : b5} (h : ¬ s = t) : M4 s t = false := by
 cases e : M4 s t
 ·rfl
 exact absurd ((ab5 s t).1 e) h
theorem bD8 {l m : List b5} (h : ¬ l = m) : z7 l m = false := by
 cases e : z7 l m
 ·rfl
 exact absurd ((H2 l m).1 e) h
section
variable {s t : b5} {l m : List b5} {k : Nat}
theorem sr1 (h : ¬ s.kind = t.kind) : M4 s t = false := aw5 fun e => h (by rw [e])
theorem sr2 (h : ¬ s.target = t.target) : M4 s t = false := aw5 fun e => h (by rw [e])
theorem sr3 (h : ¬ s.count = t.count) : M4 s t = false := aw5 fun e => h (by rw [e])
theorem sr4 (h : I7 s.index t.index = false) : M4 s t = false := aw5 fun e => by subst e; rw [(K1 _ _).2 rfl] at h; cases h
theorem sr5 (h : I7 s.value t.value = false) : M4 s t = false := aw5 fun e => by subst e; rw [(K1 _ _).2 rfl] at h; cases h
theorem sr6 (h : z7 s.body t.body = false) : M4 s t = false := aw5 fun e => by subst e; rw [(H2 _ _).2 rfl] at h; cases h
theorem sr7 (h : z7 s.els t.els = false) : M4 s t = false := aw5 fun e => by subst e; rw [(H2 _ _).2 rfl] at h; cases h
theorem sr8 (h1 : s.kind = t.kind) (h2 : s.target = t.target) (h3 : s.count = t.count) (h4 : I7 s.index t.index = true) (h5 : I7 s.value t.value = true) (h6 : z7 s.body t.body = true) : M4 s t = z7 s.els t.els := by
 cases e : z7 s.els t.els
 ·exact sr7 e
 refine (ab5 _ _).2 ?_
 rw [<- b5.eta s, <- b5.eta t, h1, h2, h3, (K1 _ _).1 h4, (K1 _ _).1 h5, (H2 _ _).1 h6, (H2 _ _).1 e]
theorem sb1 (h : ¬ (l.length : Int) = m.length) : z7 l m = false := bD8 fun e => h (by rw [e])
theorem sb2 (h : M4 (l.getD k b55) (m.getD k b55) = false) : z7 l m = false := bD8 fun e => by
 subst e
 rw [(ab5 _ _).2 rfl] at h; cases h
theorem sb3 (h3 : (l.length : Int) = m.length) (h : l.take k = m.take k) (hk : l.length <= k) : z7 l m = true := (H2 _ _).2 (av9 h hk h3)
end
section
variable {vs ars : List Int} {cx : Int} {s : b5} {d : Nat} {b : Bool}
section
variable {nv na d k : Nat} {ss : List b5} {q : Lab} {cx : Int}
end
end
section
variable {p : j0} {q : Lab} {b : List b5} {X : Lab}
end
abbrev nvL : List Int := [3] ++ ([4] ++ ([2] ++ ([5] ++ [])))
abbrev viL : List Int := [0] ++ ([1] ++ ([0] ++ ([1] ++ ([2] ++ ([3] ++ [])))))
abbrev X4 : List Int := [1] ++ ([2] ++ ([0] ++ ([1] ++ [])))
abbrev aiL : List Int := [0] ++ ([1] ++ ([0] ++ ([1] ++ ([3] ++ []))))
abbrev nbL : List Int := [2] ++ ([3] ++ ([1] ++ ([4] ++ [])))
def nsD (b : List UInt8) (l : List Int) (n : Nat) (k : Int) : List Int := (b82 n).map fun (i : Nat) => nm b (k + (i : Int)) l
theorem ae2 (b : List UInt8) (l : List Int) (n : Nat) (k : Int) : (nsD b l n k).length = n := by simp [nsD]
theorem bn0 (b : List UInt8) (l : List Int) (n : Nat) (k : Int) : nsD b l (n + 1) k = nsD b l n k ++ [nm b (k + (n : Int)) l] := by
 unfold nsD; rw [List.range_succ, List.map_append]; rfl
def H6 (b : List UInt8) (k : Int) : Int := k + 1 + nm b k nvL
def kp2 (b : List UInt8) (k : Int) : Int := H6 b k + 1 + nm b (H6 b k) X4
def vsD (b : List UInt8) (k : Int) : List Int := nsD b viL (nm b k nvL).toNat (k + 1)
def asD (b : List UInt8) (k : Int) : List Int := nsD b aiL (nm b (H6 b k) X4).toNat (H6 b k + 1)
def bdD (b : List UInt8) (k : Int) : List b5 × Int := G0 (C1 b (vsD b k).length (asD b k).length 3) (nm b (kp2 b k) nbL).toNat (kp2 b k + 1)
def rwD (b : List UInt8) (k : Int) : j0 := ⟨vsD b k, asD b k, (bdD b k).1⟩
def fbP : j0 := ⟨[0, 1], [], [⟨1, 1, noE, ⟨2, 0, []⟩, 0, [], []⟩]⟩
def pgD (b : List UInt8) (k : Int) : j0 := if o6 (rwD b k) = true then rwD b k else fbP
section
variable (b : List UInt8) {k : Int}
theorem bK4 (hk : 0 <= k) (hk2 : k <= 1000000000) : 0 <= nm b k nvL /\ nm b k nvL <= 5 := aF2 b (by simp) (by simp) hk hk2
theorem bT6 (hk : 0 <= k) (hk2 : k <= 1000000000) : 0 <= nm b k nbL /\ nm b k nbL <= 4 := aF2 b (by simp) (by simp) hk hk2
theorem bL1 (hk : 0 <= k) (hk2 : k <= 1000000000) : 0 <= nm b k X4 /\ nm b k X4 <= 2 := aF2 b (by simp) (by simp) hk hk2
theorem bo6 (hk : 0 <= k) (hk2 : k <= 10000000) : k + 1 <= H6 b k /\ H6 b k <= k + 6 := by
 have := bK4 b hk (by omega); unfold H6; omega
theorem bo5 (hk : 0 <= k) (hk2 : k <= 10000000) : k + 2 <= kp2 b k /\ kp2 b k <= k + 9 := by
 have h1 := bo6 b hk hk2
 have := bL1 b (k := H6 b k) (by omega) (by omega); unfold kp2; omega
theorem cS3 : cS 3 = 34170 /\ cS 2 = 8442 := by decide
theorem b43 (nv na : Nat) : Drw (C1 b nv na 3) 34170 := fun j h1 h2 => by
 have e := cS3.1
 have h3 := aP3 b nv na 3 j h1 (by omega)
 have h4 := aY0 b nv na 3 j h1 (by omega)
 omega
theorem bu0 (hk : 0 <= k) (hk2 : k <= 10000000) : kp2 b k <= (bdD b k).2 /\ (bdD b k).2 <= k + 150000 /\ p9 (bdD b k).1 <= 150000 := by
 have h1 := bo5 b hk hk2
 have h2 := bT6 b (k := kp2 b k) (by omega) (by omega)
 have h3 := aL8 (f := C1 b (vsD b k).length (asD b k).length 3) (by omega) (b43 b _ _) (nm b (kp2 b k) nbL).toNat (kp2 b k + 1) (by omega) (by omega)
 unfold bdD
 omega
theorem bh7 (hk : 0 <= k) (hk2 : k <= 10000000) : (vsD b k).length <= 5 := by
 have := bK4 b hk (by omega); unfold vsD; rw [ae2]; omega
theorem bu3 (hk : 0 <= k) (hk2 : k <= 10000000) : (asD b k).length <= 2 := by
 have h1 := bo6 b hk hk2
 have := bL1 b (k := H6 b k) (by omega) (by omega); unfold asD; rw [ae2]; omega
theorem aZ2 (hk : 0 <= k) (hk2 : k <= 10000000) : (pgD b k).size <= 160000 := by
 have h1 := bu0 b hk hk2
 have h2 := bh7 b hk hk2
 have h3 := bu3 b hk hk2
 unfold pgD; split
 ·show (vsD b k).length + (asD b k).length + p9 (bdD b k).1 <= 160000
  omega
 decide
end
abbrev m2L : List Int := [0] ++ ([6] ++ ([1] ++ ([5] ++ ([2] ++ []))))
abbrev m3L : List Int := [-1] ++ ([12] ++ ([1] ++ ([9223372036854775807] ++ [])))
abbrev m4L : List Int := [-1] ++ ([256] ++ ([12] ++ ([1] ++ [])))
abbrev m5L : List Int := [1] ++ ([4] ++ ([-1] ++ ([2] ++ [])))
def kdS (s : b5) (x : Int) : b5 := ⟨x, s.target, s.index, s.value, s.count, s.body, s.els⟩
def tgS (s : b5) (x : Int) : b5 := ⟨s.kind, x, s.index, s.value, s.count, s.body, s.els⟩
def vvS (s : b5) (x : Int) : b5 := ⟨s.kind, s.target, s.index, ⟨s.value.kind, x, s.value.kids⟩, s.count, s.body, s.els⟩
def ctS (s : b5) (x : Int) : b5 := ⟨s.kind, s.target, s.index, s.value, x, s.body, s.els⟩
def mtD (b : List UInt8) (p : j0) (k : Int) : j0 × Int :=
 if pk b k 60 = 0 then (if 0 < p.vars.length then (⟨p.vars.set 0 (l1D b (k + 1)), p.arrays, p.body⟩, k + 1 + 2) else (p, k + 1))
 else if pk b k 60 = 1 then (⟨p.vars ++ b77 (13 - p.vars.length) 1, p.arrays, p.body⟩, k + 1)
 else if pk b k 60 = 2 then (if 0 < p.body.length then (⟨p.vars, p.arrays, p.body.set 0 (kdS (p.body.getD 0 b55) (nm b (k + 1) m2L))⟩, k + 1 + 1) else (p, k + 1))
 else if pk b k 60 = 3 then (if 0 < p.body.length then (⟨p.vars, p.arrays, p.body.set ((p.body.length : Int) - 1).toNat (tgS (p.body.getD ((p.body.length : Int) - 1).toNat b55) (nm b (k + 1) m3L))⟩, k + 1 + 1) else (p, k + 1))
 else if pk b k 60 = 4 then (if 0 < p.body.length then (⟨p.vars, p.arrays, p.body.set 0 (vvS (p.body.getD 0 b55) (nm b (k + 1) m4L))⟩, k + 1 + 1) else (p, k + 1))
 else if pk b k 60 = 5 then (if 0 < p.body.length then (⟨p.vars, p.arrays, p.body.set 0 (ctS (p.body.getD 0 b55) (nm b (k + 1) m5L))⟩, k + 1 + 1) else (p, k + 1))
 else if pk b k 60 = 6 then (⟨[], [], []⟩, k + 1)
 else (p, k + 1)
theorem bi6 {l : List b5} {i : Nat} {s : b5} (h : szS s <= szS (l.getD i b55)) : p9 (l.set i s) <= p9 l := by
 induction l generalizing i with
 | nil => simp [p9]
 | cons a r ih =>
  cases i with
  | zero => simp only [List.set_cons_zero, p9]; simp at h; omega
  | succ i =>
   simp only [List.set_cons_succ, p9]
   have := ih (i := i) (by simpa using h)
   omega
theorem bL6 (s : b5) (x : Int) : szS (kdS s x) = szS s := by cases s; rfl
theorem bH4 (s : b5) (x : Int) : szS (tgS s x) = szS s := by cases s; rfl
theorem bH2 (s : b5) (x : Int) : szS (vvS s x) = szS s := by obtain ⟨_, _, _, ⟨_, _, _⟩, _, _, _⟩ := s; rfl
theorem bN9 (s : b5) (x : Int) : szS (ctS s x) = szS s := by cases s; rfl
theorem bL3 (b : List UInt8) (p : j0) (k : Int) : (mtD b p k).1.size <= p.size + 13 /\ k <= (mtD b p k).2 /\ (mtD b p k).2 <= k + 3 := by
 have hs : ∀ i s, szS s = szS (p.body.getD i b55) -> p9 (p.body.set i s) <= p9 p.body := fun i s h => bi6 (by omega)
 have h2 := hs 0 _ (bL6 (p.body.getD 0 b55) (nm b (k + 1) m2L))
 have h3 := hs ((p.body.length : Int) - 1).toNat _ (bH4 (p.body.getD ((p.body.length : Int) - 1).toNat b55) (nm b (k + 1) m3L))
 have h4 := hs 0 _ (bH2 (p.body.getD 0 b55) (nm b (k + 1) m4L))
 have h5 := hs 0 _ (bN9 (p.body.getD 0 b55) (nm b (k + 1) m5L))
 unfold mtD
 simp only [j0.size]
 (repeat' split) <;> (simp only [List.length_set, b69, List.length_replicate, b60, p9]; omega)
def bsD (c : List UInt8) : List UInt8 := c.take 2000
def drV (c : List UInt8) : j0 := (mtD (bsD c) (pgD (bsD c) 0) (bdD (bsD c) 0).2).1
theorem bN0 (c : List UInt8) : (drV c).size <= 200000 := by
 have h1 := aZ2 (bsD c) (k := 0) (by omega) (by omega)
 have h2 := (bL3 (bsD c) (pgD (bsD c) 0) (bdD (bsD c) 0).2).1
 unfold drV; omega
theorem b09 {b : List UInt8} {j n : Int} (h : n < 1) : pk b j n = 0 := by unfold pk; rw [if_pos (.inl h)]
theorem b08 {b : List UInt8} {j n : Int} (h : (b.length : Int) = 0) : pk b j n = 0 := by unfold pk; rw [if_pos (.inr (by omega))]
theorem b07 {b : List UInt8} {j n : Int} (h : ¬ n < 1) (h1 : ¬ (b.length : Int) = 0) (h2 : j + 1 - 1 < b.length) : pk b j n = ((b.getD (j + 1 - 1).toNat 0).toNat : Int).tmod n := by
 unfold pk; rw [if_neg (by omega), if_pos (by omega), Int.add_sub_cancel]
theorem b06 {b : List UInt8} {j n : Int} (h : ¬ n < 1) (h1 : ¬ (b.length : Int) = 0) (h2 : ¬ j + 1 - 1 < b.length) : pk b j n = (aX0 (pkX b (j + 1 - 1)) ((pkX b (j + 1 - 1)).tdiv 64)).tmod n := by
 unfold pk; rw [if_neg (by omega), if_neg (by omega), Int.add_sub_cancel]
theorem bd4 {x : Int} {n : Nat} (hx : 0 <= x) (hn : ¬ (n : Int) = 0) : 0 <= x.tmod n /\ x.tmod n < n /\ (x.tmod n).toNat < n := by
 have := aX3 (x := x) (n := n) hx (by omega); omega
theorem G5 (b : List UInt8) (j n : Int) (r0 : 0 <= j) (r1 : j <= 1000000000) : j1.ok Tryz.prog ⟨68, [.ptr 0 0, iA n], [.box [.ref 1, iA j], dY b], [.box [.ref 1, iA (j + 1)], dY b], iA (pk b j n)⟩ := by
  refine D2 99 Tryz.func68 [.box [.ref 1, iA j], dY b] [(0, .ptr 0 0), (1, iA n)] fun G => ?_; have hu1 := aO9 (b.getD ((j + 1 - 1).tmod b.length).toNat 0); have hu2 := aO9 (b.getD (((j + 1 - 1) * 7 + 3).tmod b.length).toNat 0); refine wp_seq (j3 G d7 [(4, iA 0)] fun G => b0 (wp_seq (G8 G d7 [0, 1] [.box [.ref 1, iA (j + 1)], dY b] [(0, .ptr 0 0), (1, iA n), (4, iA 0)] [wO (j + 1)] (o1 (by omega)) fun G => b0 (wp_seq (wp_seq ?_))))); cases h0 : (decide (n < 1))
  ·
   have q0 := L3 h0; refine j3 G (y7 (fc h0 fz) (us [(3, 8, 0), (1009, 1009, 0)])) [(24, bA ((b.length : Int) == 0))] fun G => b0 (rcE G (fun h1 q1 => ?_) fun h1 q1 => ?_)
   ·
    refine wp_skip (b0 (wp_seq (G7 G d7 [(5, iA (j + 1 - 1))] [wO (j + 1 - 1)] (o1 (by omega)) fun G => b0 (wp_seq (wp_seq (j3 G d7 [(36, bA (decide (j + 1 - 1 < (b.length : Int))))] fun G => b0 (S9 G (fun h2 q2 => ?_) fun h2 q2 => ?_)))))))
    ·
     refine wp_skip (b0 (wp_seq (aQ7 G d7 [0, 1, 3, 7, 0, 0, 32, 96, 224, 480, 1008, 2047, 4095, 8191, 16383, 0, 32768, 98304, 229376, 0, 524288, 1572864, 0, 4194304, 12582912, 29360128, 62914560, 133693440, 268402688, 536838144, 1073709056, 2147450880, 4294967295, 0, 8589934592, 34359738367, 0, 0, 137438953472, 412316860416, 962072674304, 2061584302080, 4329327034368, 8727373545472, 17592186044415, 35184372088831] [(6, iA (((b.getD ((j + 1 - 1).tmod (b.length : Int)).toNat 0).toNat : Int) * 131 + ((b.getD (((j + 1 - 1) * 7 + 3).tmod (b.length : Int)).toNat 0).toNat : Int) * 1117 + (j + 1 - 1) * 29 + (j + 1 - 1).tdiv (b.length : Int) * 53))] [(b.length : Int) ≠ 0, (0 : Int) <= (j + 1 - 1).tmod (b.length : Int), (j + 1 - 1).tmod (b.length : Int) < b.length, ((j + 1 - 1).tmod (b.length : Int)).toNat < b.length, IntKind.i64.wrap ((b.getD ((j + 1 - 1).tmod (b.length : Int)).toNat (0 : UInt8)).toNat : Int) = ((b.getD ((j + 1 - 1).tmod (b.length : Int)).toNat (0 : UInt8)).toNat : Int), wO (((b.getD ((j + 1 - 1).tmod (b.length : Int)).toNat (0 : UInt8)).toNat : Int) * 131), wO ((j + 1 - 1) * 7), wO ((j + 1 - 1) * 7 + 3), (b.length : Int) ≠ 0, (0 : Int) <= ((j + 1 - 1) * 7 + 3).tmod (b.length : Int), ((j + 1 - 1) * 7 + 3).tmod (b.length : Int) < b.length, (((j + 1 - 1) * 7 + 3).tmod (b.length : Int)).toNat < b.length, IntKind.i64.wrap ((b.getD (((j + 1 - 1) * 7 + 3).tmod (b.length : Int)).toNat (0 : UInt8)).toNat : Int) = ((b.getD (((j + 1 - 1) * 7 + 3).tmod (b.length : Int)).toNat (0 : UInt8)).toNat : Int), wO (((b.getD (((j + 1 - 1) * 7 + 3).tmod (b.length : Int)).toNat (0 : UInt8)).toNat : Int) * 1117), wO (((b.getD ((j + 1 - 1).tmod (b.length : Int)).toNat (0 : UInt8)).toNat : Int) * 131 + ((b.getD (((j + 1 - 1) * 7 + 3).tmod (b.length : Int)).toNat (0 : UInt8)).toNat : Int) * 1117), wO ((j + 1 - 1) * 29), wO (((b.getD ((j + 1 - 1).tmod (b.length : Int)).toNat (0 : UInt8)).toNat : Int) * 131 + ((b.getD (((j + 1 - 1) * 7 + 3).tmod (b.length : Int)).toNat (0 : UInt8)).toNat : Int) * 1117 + (j + 1 - 1) * 29), (b.length : Int) ≠ 0, wO ((j + 1 - 1).tdiv (b.length : Int)), wO ((j + 1 - 1).tdiv (b.length : Int) * 53), wO (((b.getD ((j + 1 - 1).tmod (b.length : Int)).toNat (0 : UInt8)).toNat : Int) * 131 + ((b.getD (((j + 1 - 1) * 7 + 3).tmod (b.length : Int)).toNat (0 : UInt8)).toNat : Int) * 1117 + (j + 1 - 1) * 29 + (j + 1 - 1).tdiv (b.length : Int) * 53)] ⟨(by assumption), ((bd4 (by omega) (by omega)).1), ((bd4 (by omega) (by omega)).2.1), ((bd4 (by omega) (by omega)).2.2), (w64 (by omega) (by omega)), (oW (by omega)), (oW (by omega)), (oW (by omega)), (by assumption), ((bd4 (by omega) (by omega)).1), ((bd4 (by omega) (by omega)).2.1), ((bd4 (by omega) (by omega)).2.2), (w64 (by omega) (by omega)), (oW (by omega)), (oW (by omega)), (oW (by omega)), (oW (by omega)), (by assumption), (by have := aR3 (b := b) (k := j + 1 - 1) (by omega) (by omega) (by omega); exact w64 (by unfold pkX at this; omega) (by unfold pkX at this; omega)), (by have := aR3 (b := b) (k := j + 1 - 1) (by omega) (by omega) (by omega); exact w64 (by unfold pkX at this; omega) (by unfold pkX at this; omega)), (by have := aR3 (b := b) (k := j + 1 - 1) (by omega) (by omega) (by omega); exact w64 (by unfold pkX at this; omega) (by unfold pkX at this; omega)), b70⟩ fun G => ?_)))
     refine b0 (wp_seq (G7 G d7 [(6, iA (aX0 (((b.getD ((j + 1 - 1).tmod (b.length : Int)).toNat 0).toNat : Int) * 131 + ((b.getD (((j + 1 - 1) * 7 + 3).tmod (b.length : Int)).toNat 0).toNat : Int) * 1117 + (j + 1 - 1) * 29 + (j + 1 - 1).tdiv (b.length : Int) * 53) ((((b.getD ((j + 1 - 1).tmod (b.length : Int)).toNat 0).toNat : Int) * 131 + ((b.getD (((j + 1 - 1) * 7 + 3).tmod (b.length : Int)).toNat 0).toNat : Int) * 1117 + (j + 1 - 1) * 29 + (j + 1 - 1).tdiv (b.length : Int) * 53).tdiv 64)))] [(64 : Int) ≠ 0, wO ((((b.getD ((j + 1 - 1).tmod (b.length : Int)).toNat (0 : UInt8)).toNat : Int) * 131 + ((b.getD (((j + 1 - 1) * 7 + 3).tmod (b.length : Int)).toNat (0 : UInt8)).toNat : Int) * 1117 + (j + 1 - 1) * 29 + (j + 1 - 1).tdiv (b.length : Int) * 53).tdiv (64 : Int))] ⟨(by omega), (by have := bE2 (b := b) (k := j + 1 - 1) (by omega) (by omega) (by omega); exact w64 (by unfold pkX at this; omega) (by unfold pkX at this; omega)), b70⟩ fun G => b0 (wp_seq (G7 G d7 [(4, iA ((aX0 (((b.getD ((j + 1 - 1).tmod (b.length : Int)).toNat 0).toNat : Int) * 131 + ((b.getD (((j + 1 - 1) * 7 + 3).tmod (b.length : Int)).toNat 0).toNat : Int) * 1117 + (j + 1 - 1) * 29 + (j + 1 - 1).tdiv (b.length : Int) * 53) ((((b.getD ((j + 1 - 1).tmod (b.length : Int)).toNat 0).toNat : Int) * 131 + ((b.getD (((j + 1 - 1) * 7 + 3).tmod (b.length : Int)).toNat 0).toNat : Int) * 1117 + (j + 1 - 1) * 29 + (j + 1 - 1).tdiv (b.length : Int) * 53).tdiv 64)).tmod n))] [n ≠ 0] ⟨(by omega), b70⟩ fun G => b0 (wp_ret ?_))))); exact rxI ((aX0 (((b.getD ((j + 1 - 1).tmod (b.length : Int)).toNat 0).toNat : Int) * 131 + ((b.getD (((j + 1 - 1) * 7 + 3).tmod (b.length : Int)).toNat 0).toNat : Int) * 1117 + (j + 1 - 1) * 29 + (j + 1 - 1).tdiv (b.length : Int) * 53) ((((b.getD ((j + 1 - 1).tmod (b.length : Int)).toNat 0).toNat : Int) * 131 + ((b.getD (((j + 1 - 1) * 7 + 3).tmod (b.length : Int)).toNat 0).toNat : Int) * 1117 + (j + 1 - 1) * 29 + (j + 1 - 1).tdiv (b.length : Int) * 53).tdiv 64)).tmod n) G [0, 1] (b06 (by omega) (by omega) (by omega))
    refine wp_seq (G7 G d7 [(4, iA (((b.getD (j + 1 - 1).toNat 0).toNat : Int).tmod n))] (iX (j + 1 - 1) ((j + 1 - 1).toNat) b.length ((IntKind.i64.wrap ((b.getD (j + 1 - 1).toNat (0 : UInt8)).toNat : Int) = ((b.getD (j + 1 - 1).toNat (0 : UInt8)).toNat : Int)) :: ((n ≠ 0) :: []))) (iK (by omega) ⟨(by have := aO9 (b.getD (j + 1 - 1).toNat 0); exact w64 (by omega) (by omega)), ⟨(by omega), b70⟩⟩) fun G => b0 (wp_ret (j2 ?_))); exact rxI (((b.getD (j + 1 - 1).toNat 0).toNat : Int).tmod n) G [0, 1] (b07 (by omega) (by omega) (by omega))
   refine wp_seq (j3 G d7 [] fun G => b0 (wp_ret (j2 ?_))); exact rxI 0 G [0, 1] (b08 (by omega))
  have q0 := L2 h0; refine j3 G (y7 (fc h0 fz) (us [(3, 8, 0), (1009, 1009, 0)])) [(24, bA true)] fun G => b0 (rT G true (by kernel_rfl) (wp_seq (j3 G d7 [] fun G => b0 (wp_ret (j2 ?_))))); exact rxI 0 G [0, 1] (b09 (by omega))
theorem N8 (b : List UInt8) (j : Int) (l : List Int) (hl : l ≠ []) (r0 : 0 <= j) (r1 : j <= 1000000000) : j1.ok Tryz.prog ⟨70, [.ptr 0 0, .ref 2], [.box [.ref 1, iA j], dY b, dI l], [.box [.ref 1, iA (j + 1)], dY b, dI l], iA (nm b j l)⟩ := by
 refine D2 12 Tryz.func70 [.box [.ref 1, iA j], dY b, dI l] [(0, .ptr 0 0), (1, .ref 2)] fun G => ?_; refine wp_seq (j3 G d7 [(4, iA 0)] fun G => b0 (wp_seq (G8 G (n4 4 [0, 1] (G5 b j ((l.length : Int)) (by assumption) (by assumption))) [0, 1, 2] [.box [.ref 1, iA (j + 1)], dY b, dI l] [(4, iA (l.getD (pk b j (l.length : Int)).toNat 0))] [(0 : Int) <= pk b j (l.length : Int), pk b j (l.length : Int) < l.length, (pk b j (l.length : Int)).toNat < l.length] ⟨((a90 b r0 r1 hl).1), ((a90 b r0 r1 hl).2.1), ((a90 b r0 r1 hl).2.2), b70⟩ fun G => b0 (wp_ret ?_)))); exact H9 G [0, 1, 2]
theorem bt6 (b : List UInt8) (j : Int) (r0 : 0 <= j) (r1 : j <= 900000000) : j1.ok Tryz.prog ⟨94, [.ptr 0 0], [.box [.ref 1, iA j], dY b], [.box [.ref 1, iA (j + 2)], dY b], iA (l1D b j)⟩ := by
 refine D2 11 Tryz.func94 [.box [.ref 1, iA j], dY b] [(0, .ptr 0 0)] fun G => ?_; refine wp_seq (j3 G d7 [(2, iA 0)] fun G => b0 (wp_seq (wp_seq (j5 G (n4 1 [0, 1] (G5 b j 12 (by assumption) (by omega))) [0, 1] [.box [.ref 1, iA (j + 1)], dY b] [(0, .ptr 0 0), (2, iA 0), (5, bA (pk b j 12 == 0))] fun G => b0 (rcE G (fun h0 q0 => ?_) fun h0 q0 => ?_)))))
 ·refine wp_skip (b0 (wp_seq (j5 G (n4 1 [0, 1] (G5 b (j + 1) 4 (by omega) (by omega))) [0, 1] [.box [.ref 1, iA (j + 1 + 1)], dY b] [(2, iA (pk b (j + 1) 4))] fun G => b0 (wp_ret ?_)))); exact rxI (pk b (j + 1) 4) G [0, 1] (by unfold l1D; rw [if_neg (by omega)]; done) (by show _ = mR [0, 1] [.box [.ref 1, iA (j + 2)], dY b]; have e1 : (j + 2 : Int) = (j + 1 + 1) := (by omega); (first | rw [e1] | simp only [e1]) <;> rfl)
 refine wp_seq (j5 G (n4 2 [0, 1, 10] (j1.lend (N8 b (j + 1) l1L (by simp [h0]) (by omega) (by omega)) [.no, .no, .row 3])) [0, 1] [.box [.ref 1, iA (j + 1 + 1)], dY b] [(0, .ptr 0 0), (2, iA (nm b (j + 1) l1L))] fun G => b0 (wp_ret (j2 ?_))); exact rxI (nm b (j + 1) l1L) G [0, 1] (by unfold l1D; rw [if_pos (by omega)]; done) (by show _ = mR [0, 1] [.box [.ref 1, iA (j + 2)], dY b]; have e1 : (j + 2 : Int) = (j + 1 + 1) := (by omega); (first | rw [e1] | simp only [e1]) <;> rfl)
theorem aB0 (c : List UInt8) (hc : c.length <= 2000) : j1.ok Tryz.prog ⟨40, [.ref 0], [dY c], [dY c, .box [.ref 0, iA 0]], .ptr 1 0⟩ := by
 refine D2 11 Tryz.func40 [dY c] [(0, .ref 0)] fun G => ?_; refine wp_seq (j3 G d7 [(2, .v (.pointer none))] fun G => b0 (wp_seq (wp_seq (A4 G d7 [(0, .ref 0), (2, .v (.pointer none)), (5, bA (decide ((c.length : Int) > 2000)))] fun G => b0 ?_)))); cases h0 : (decide ((c.length : Int) > 2000))
 ·have q0 := L3 h0; refine rF G _ h0 (wp_skip (b0 (wp_seq (j5 G d7 [0, 17] [dY c, .box [.ref 0, iA 0]] [(2, .ptr 1 0)] fun G => b0 (wp_ret ?_))))); exact H9 G [0, 1]
 have q0 := L2 h0; exact False.elim (by omega)
theorem aA9 (c : List UInt8) (hc : 2000 < c.length) : j1.ok Tryz.prog ⟨40, [.ref 0], [dY c], [dY c, .box [.ref 2, iA 0], dY ((c.take 2000).drop 0)], .ptr 1 0⟩ := by
 refine D2 11 Tryz.func40 [dY c] [(0, .ref 0)] fun G => ?_; refine wp_seq (j3 G d7 [(2, .v (.pointer none))] fun G => b0 (wp_seq (wp_seq (A4 G d7 [(0, .ref 0), (2, .v (.pointer none)), (5, bA (decide ((c.length : Int) > 2000)))] fun G => b0 ?_)))); cases h0 : (decide ((c.length : Int) > 2000))
 ·have q0 := L3 h0; exact False.elim (by omega)
 have q0 := L2 h0; refine rT G _ h0 (G8 G d7 [0, 9] [dY c, dY (List.drop 0 (b63 (Int.toNat 2000) c))] [(0, .ref 1), (2, .v (.pointer none))] [(0 : Int) <= 2000, (2000 : Int) <= c.length] ⟨(by omega), (by omega), b70⟩ fun G => b0 (wp_seq (j5 G d7 [0, 1, 18] [dY c, dY (List.drop 0 (b63 (Int.toNat 2000) c)), .box [.ref 1, iA 0]] [(2, .ptr 2 0)] fun G => b0 (wp_ret ?_)))); exact H9 G [0, 2, 1]
abbrev dwS (b : List UInt8) (j : Int) (vs ars : List Int) (bd : List b5) : List It := [.box [.ref 1, iA j], dY b, dI vs, dI ars, dT bd]
abbrev exO (e : b7) : List It := [.tree (.exprs e.kids)]
abbrev exA (e : b7) (r : Nat) : AV := .agg [iA e.kind, iA e.value, .tref r]
theorem bY2 {b : List UInt8} {nv j : Int} (h : pk b j 3 = 0) : n9 b nv j = ⟨1, nm b (j + 1) atL, []⟩ := if_pos h
theorem bY1 {b : List UInt8} {nv j : Int} (h : ¬ pk b j 3 = 0) : n9 b nv j = ⟨2, pk b (j + 1) nv, []⟩ := if_neg h
theorem ap8 (b : List UInt8) (j : Int) (vs ars : List Int) (bd : List b5) (r0 : 0 <= j) (r1 : j <= 900000000) : j1.ok Tryz.prog ⟨123, [.ptr 0 0, pA 2], dwS b j vs ars bd, dwS b (j + 2) vs ars bd ++ exO (n9 b vs.length j), exA (n9 b vs.length j) 5⟩ := by
 refine D2 18 Tryz.func123 [.box [.ref 1, iA j], dY b, dI vs, dI ars, dT bd] [(0, .ptr 0 0), (1, pA 2)] fun G => ?_; refine wp_seq (j5 G d7 [0, 1, 2, 3, 4, 5, 13] [.box [.ref 1, iA j], dY b, dI vs, dI ars, dT bd, .box (pL 2), .box [iA 0, iA 0, .v (.slice none 0 0)]] [(0, .ptr 0 0), (3, .ptr 5 0), (4, .ptr 6 0)] fun G => b0 (wp_seq (wp_seq (j5 G (n4 1 [0, 1] (G5 b j 3 (by assumption) (by omega))) (rg 7) [.box [.ref 1, iA (j + 1)], dY b, dI vs, dI ars, dT bd, .box (pL 2), .box [iA 0, iA 0, .v (.slice none 0 0)]] [(0, .ptr 0 0), (3, .ptr 5 0), (4, .ptr 6 0), (7, bA (pk b j 3 == 0))] fun G => b0 (rcE G (fun h0 q0 => ?_) fun h0 q0 => ?_)))))
 ·refine wp_skip (b0 (wp_seq (j5 G (n4 4 [0, 1] (G5 b (j + 1) ((vs.length : Int)) (by omega) (by omega))) [0, 1, 2, 3, 4, 6] [.box [.ref 1, iA (j + 1 + 1)], dY b, dI vs, dI ars, dT bd, .box [iA 2, iA (pk b (j + 1) (vs.length : Int)), .v (.slice none 0 0)]] [(4, .ptr 5 0)] fun G => b0 (wp_ret ?_)))); obtain ⟨ρ, G⟩ := G.nilT 6 (.exprs []) [.box [.ref 1, iA (j + 1 + 1)], dY b, dI vs, dI ars, dT bd, .box [iA 2, iA (pk b (j + 1) (vs.length : Int)), .tref 6]] [(4, .ptr 5 0)]; exact E0 (.agg [iA 2, iA (pk b (j + 1) (vs.length : Int)), .tref 6]) G [0, 1, 2, 3, 4, 6] (by show _ = AV.ren (nth [0, 1, 2, 3, 4, 6]) (.agg [iA (n9 b (vs.length : Int) j).kind, iA (n9 b (vs.length : Int) j).value, .tref 5]); rw [bY1 (by omega)] <;> rfl) (by show _ = mR [0, 1, 2, 3, 4, 6] [.box [.ref 1, iA (j + 2)], dY b, dI vs, dI ars, dT bd, .tree (D.exprs (n9 b (vs.length : Int) j).kids)]; have e1 : (j + 2 : Int) = (j + 1 + 1) := (by omega); rw [e1, bY1 (by omega)] <;> rfl)
 refine wp_seq (j5 G (n4 2 [0, 1, 15] (j1.lend (N8 b (j + 1) atL (by simp [h0]) (by omega) (by omega)) [.no, .no, .row 3])) (rg 7) [.box [.ref 1, iA (j + 1 + 1)], dY b, dI vs, dI ars, dT bd, .box (pL 2), .box [iA 1, iA (nm b (j + 1) atL), .v (.slice none 0 0)]] [(0, .ptr 0 0), (3, .ptr 5 0), (4, .ptr 6 0)] fun G => b0 (wp_ret (j2 ?_))); obtain ⟨ρ, G⟩ := G.nilT 7 (.exprs []) [.box [.ref 1, iA (j + 1 + 1)], dY b, dI vs, dI ars, dT bd, .box (pL 2), .box [iA 1, iA (nm b (j + 1) atL), .tref 7]] [(0, .ptr 0 0), (3, .ptr 5 0), (4, .ptr 6 0)]; exact E0 (.agg [iA 1, iA (nm b (j + 1) atL), .tref 7]) G [0, 1, 2, 3, 4, 7] (by show _ = AV.ren (nth [0, 1, 2, 3, 4, 7]) (.agg [iA (n9 b (vs.length : Int) j).kind, iA (n9 b (vs.length : Int) j).value, .tref 5]); rw [bY2 (by omega)] <;> rfl) (by show _ = mR [0, 1, 2, 3, 4, 7] [.box [.ref 1, iA (j + 2)], dY b, dI vs, dI ars, dT bd, .tree (D.exprs (n9 b (vs.length : Int) j).kids)]; have e1 : (j + 2 : Int) = (j + 1 + 1) := (by omega); rw [e1, bY2 (by omega)] <;> rfl)
theorem a25 (vs ars : List Int) (bd : List b5) (e : b7) : j1.ok Tryz.prog (F9 102 [pA 0, eA e 3] ([dI vs, dI ars, dT bd] ++ eS e) (bA (j8 vs.length ars.length e))) := H7 ⟨vs, ars, bd⟩ e
abbrev drC (b : List UInt8) (vs ars : List Int) (bd : List b5) (d : Nat) (j n : Int) : j1 := ⟨138, [.ptr 0 0, pA 2, iA n], dwS b j vs ars bd, dwS b (K0 b vs.length ars.length d j).2 vs ars bd ++ exO (K0 b vs.length ars.length d j).1, exA (K0 b vs.length ars.length d j).1 5⟩
section
variable {b : List UInt8} {nv na : Int} {d : Nat} {j : Int}
theorem bV6 (h : d < 2) : K0 b nv na d j = (n9 b nv j, j + 2) := by
 match d, h with
 | 0, _ => rfl
 | 1, _ => simp [K0]
theorem bM9 (h : 0 < d) (h1 : pk b j 4 = 0) : K0 b nv na (d + 1) j = (n9 b nv (j + 1), j + 3) := by rw [K0, if_neg (by omega), if_pos h1]
theorem bz7 (h : 0 < d) (h1 : ¬ pk b j 4 = 0) (h2 : nm b (j + 1) L0 = 3) (h3 : na = 0) : K0 b nv na (d + 1) j = (n9 b nv (j + 2), j + 4) := by rw [K0, if_neg (by omega), if_neg h1, if_pos h2, if_pos h3]
theorem bz6 (h : 0 < d) (h1 : ¬ pk b j 4 = 0) (h2 : nm b (j + 1) L0 = 3) (h3 : ¬ na = 0) : K0 b nv na (d + 1) j = (⟨3, pk b (j + 2) na, [n9 b nv (j + 3)]⟩, j + 5) := by rw [K0, if_neg (by omega), if_neg h1, if_pos h2, if_neg h3]
abbrev drK (b : List UInt8) (nv na : Int) (d : Nat) (j : Int) (k : Nat) : List b7 × Int := G0 (K0 b nv na d) k (j + 2)
theorem bV5 (h : 0 < d) (h1 : ¬ pk b j 4 = 0) (h2 : ¬ nm b (j + 1) L0 = 3) {m : Int} (h3 : 0 <= m) (h4 : ¬ m > 0) : K0 b nv na (d + 1) j = (⟨nm b (j + 1) L0, 0, (drK b nv na d j (j9 (nm b (j + 1) L0) - m).toNat).1⟩, (drK b nv na d j (j9 (nm b (j + 1) L0) - m).toNat).2) := by
 have e : m = 0 := by omega
 rw [e, Int.sub_zero, K0, if_neg (by omega), if_neg h1, if_neg h2]
theorem ba5 {x m : Int} (h3 : m > 0) (h4 : m <= x) : drK b nv na d j (x - (m - 1)).toNat = ((drK b nv na d j (x - m).toNat).1 ++ [(K0 b nv na d (drK b nv na d j (x - m).toNat).2).1], (K0 b nv na d (drK b nv na d j (x - m).toNat).2).2) := by
 rw [show (x - (m - 1)).toNat = (x - m).toNat + 1 by omega]; rfl
theorem bY3 (r0 : 0 <= j) (r1 : j <= 900000000) : 0 <= j9 (nm b (j + 1) L0) /\ j9 (nm b (j + 1) L0) <= 3 := by
 have h := aK7 b (k := j + 1) (l := L0) (by omega) (by omega) (by simp)
 simp only [b73, b76, b98, or_false] at h
 rcases h with h | h | h | h | h | h | h | h | h <;> rw [h] <;> decide
theorem bV8 (r0 : 0 <= j) {k : Nat} (hk : k <= 3) : j + 2 <= (drK b nv na d j k).2 /\ (drK b nv na d j k).2 <= j + 2 + 3 * cE d := by
 have hc := aB3 d
 have h := br4 (f := K0 b nv na d) (c := cE d) (m := 3) (by omega) k (j + 2) hk fun i _ _ => aU2 b nv na d i
 have h4 : (k : Int) * cE d <= 3 * cE d := ca0 (by omega) (by omega)
 unfold drK; omega
theorem bV7 {x m : Int} (r0 : 0 <= j) (h3 : m > 0) (h4 : m <= x) (h5 : x <= 3) (r1 : j + cE (d + 1) <= 800000000) : (drK b nv na d j (x - m).toNat).2 + cE d <= 800000000 := by
 have hc := aB3 d
 have hce : cE (d + 1) = 5 + 3 * cE d := rfl
 have hm : (x - m).toNat <= 2 := by omega
 have h := br4 (f := K0 b nv na d) (c := cE d) (m := 2) (by omega) (x - m).toNat (j + 2) hm fun i _ _ => aU2 b nv na d i
 have h4 : ((x - m).toNat : Int) * cE d <= 2 * cE d := ca0 (by omega) (by omega)
 unfold drK; omega
end
theorem a68 (b : List UInt8) (vs ars : List Int) (bd : List b5) (d : Nat) (hd : d < 2) (j n : Int) (hn : n = d) (r0 : 0 <= j) (r1 : j <= 900000000) : j1.ok Tryz.prog (drC b vs ars bd d j n) := by
 refine D2 62 Tryz.func138 [.box [.ref 1, iA j], dY b, dI vs, dI ars, dT bd] [(0, .ptr 0 0), (1, pA 2), (2, iA n)] fun G => ?_; refine wp_seq (j5 G d7 [0, 1, 2, 3, 4, 5, 13] [.box [.ref 1, iA j], dY b, dI vs, dI ars, dT bd, .box (pL 2), .box [iA 0, iA 0, .v (.slice none 0 0)]] [(0, .ptr 0 0), (2, iA n), (4, .ptr 5 0), (6, .ptr 6 0)] fun G => b0 (wp_seq (wp_seq ?_))); cases h0 : (decide (n < 2))
 ·have q0 := L3 h0; exact False.elim (by omega)
 have q0 := L2 h0; refine j3 G (y7 (fc h0 fz) [(3, 0), (4, 0), (5, 0), (1006, 0)]) [(16, bA true)] fun G => b0 (rT G true (by kernel_rfl) (wp_seq (j5 G (n4 2 (rg 5) (ap8 b j vs ars bd (by assumption) (by assumption))) [0, 1, 2, 3, 4, 5, 6, 23] [.box [.ref 1, iA (j + 2)], dY b, dI vs, dI ars, dT bd, .box (pL 2), .box [iA (n9 b (vs.length : Int) j).kind, iA (n9 b (vs.length : Int) j).value, .tref 7], .tree (D.exprs (n9 b (vs.length : Int) j).kids)] [(0, .ptr 0 0), (2, iA n), (4, .ptr 5 0), (6, .ptr 6 0)] fun G => b0 (wp_ret (j2 ?_))))); exact E0 (.agg [iA (n9 b (vs.length : Int) j).kind, iA (n9 b (vs.length : Int) j).value, .tref 7]) G [0, 1, 2, 3, 4, 7] (by show _ = AV.ren (nth [0, 1, 2, 3, 4, 7]) (.agg [iA (K0 b (vs.length : Int) (ars.length : Int) d j).fst.kind, iA (K0 b (vs.length : Int) (ars.length : Int) d j).fst.value, .tref 5]); rw [bV6 hd] <;> rfl) (by show _ = mR [0, 1, 2, 3, 4, 7] [.box [.ref 1, iA (K0 b (vs.length : Int) (ars.length : Int) d j).snd], dY b, dI vs, dI ars, dT bd, .tree (D.exprs (K0 b (vs.length : Int) (ars.length : Int) d j).fst.kids)]; rw [bV6 hd] <;> rfl)
abbrev av4 (b : List UInt8) (vs : List Int) (ars : List Int) (d : Nat) (j : Int) (k : Int) := drK b (vs.length : Int) (ars.length : Int) d j (j9 (nm b (j + 1) L0) - k).toNat
abbrev ar0 (b : List UInt8) (vs : List Int) (ars : List Int) (d : Nat) (j : Int) : AV := (.agg [iA (K0 b (vs.length : Int) (ars.length : Int) (d + 1) j).fst.kind, iA (K0 b (vs.length : Int) (ars.length : Int) (d + 1) j).fst.value, .tref 5])
abbrev aq9 (b : List UInt8) (vs : List Int) (ars : List Int) (bd : List b5) (d : Nat) (j : Int) : List It := [.box [.ref 1, iA (K0 b (vs.length : Int) (ars.length : Int) (d + 1) j).snd], dY b, dI vs, dI ars, dT bd, .tree (D.exprs (K0 b (vs.length : Int) (ars.length : Int) (d + 1) j).fst.kids)]
abbrev aE3 : It := .box [iA 0, iA 0, .v (.slice none 0 0)]
abbrev Z4 (n : Int) (r0 : List (Nat × AV)) : List (Nat × AV) := (0, .ptr 0 0) :: (2, iA n) :: (4, .ptr 5 0) :: (6, .ptr 6 0) :: r0
theorem bw6 (b : List UInt8) (vs ars : List Int) (bd : List b5) (d : Nat) (hd : 0 < d) (hd2 : d <= 100) (ih : ∀ (j n : Int), n = d -> 0 <= j -> j + cE d <= 800000000 -> j1.ok Tryz.prog (drC b vs ars bd d j n)) (j n : Int) (hn : n = ((d + 1 : Nat) : Int)) (r0 : 0 <= j) (r1 : j + cE (d + 1) <= 800000000) : j1.ok Tryz.prog (drC b vs ars bd (d + 1) j n) := by
  refine D2 62 Tryz.func138 [.box [.ref 1, iA j], dY b, dI vs, dI ars, dT bd] [(0, .ptr 0 0), (1, pA 2), (2, iA n)] fun G => ?_; have hc := aB3 d; have hce : cE (d + 1) = 5 + 3 * cE d := rfl; have har := bY3 (b := b) (j := j) r0 (by omega); refine wp_seq (j5 G d7 [0, 1, 2, 3, 4, 5, 13] [.box [.ref 1, iA j], dY b, dI vs, dI ars, dT bd, .box (pL 2), aE3] (Z4 n []) fun G => b0 (wp_seq (wp_seq ?_))); cases h0 : (decide (n < 2))
  ·
   have q0 := L3 h0; refine j5 G (x8 (m8 4 [0, 1] (G5 b j 4 (by assumption) (by omega)) x7) (fc h0 fz) [(3, 0), (4, 0), (5, 0), (1006, 0)]) (rg 7) [.box [.ref 1, iA (j + 1)], dY b, dI vs, dI ars, dT bd, .box (pL 2), aE3] (Z4 n [(16, bA (pk b j 4 == 0))]) fun G => b0 (rcE G (fun h1 q1 => ?_) fun h1 q1 => ?_)
   ·
    refine wp_skip (b0 (wp_seq (j5 G (n4 2 [0, 1, 15] (j1.lend (N8 b (j + 1) L0 (by simp [h0, h1]) (by omega) (by omega)) [.no, .no, .row 3])) (rg 7) [.box [.ref 1, iA (j + 1 + 1)], dY b, dI vs, dI ars, dT bd, .box (pL 2), aE3] (Z4 n [(7, iA (nm b (j + 1) L0))]) fun G => b0 (wp_seq (wp_seq (j3 G d7 [(24, bA (nm b (j + 1) L0 == 3))] fun G => b0 (rcE G (fun h2 q2 => ?_) fun h2 q2 => ?_)))))))
    ·
     refine wp_skip (b0 (wp_seq (j5 G d7 [0, 1, 2, 3, 4, 5, 6, 23] [.box [.ref 1, iA (j + 1 + 1)], dY b, dI vs, dI ars, dT bd, .box (pL 2), aE3, .box [iA (nm b (j + 1) L0), iA 0, .v (.slice none 0 0)]] (Z4 n [(7, iA (nm b (j + 1) L0)), (8, .ptr 7 0)]) fun G => b0 (wp_seq (wp_seq (A4 G (n4 1 [] (ae8 (nm b (j + 1) L0))) (Z4 n [(8, .ptr 7 0), (9, iA (j9 (nm b (j + 1) L0)))]) fun G => b0 (wp_block ?_))))))); obtain ⟨ρ, G⟩ := G.nilT 8 (.exprs []) [.box [.ref 1, iA (j + 1 + 1)], dY b, dI vs, dI ars, dT bd, .box (pL 2), .box [iA 0, iA 0, .v (.slice none 0 0)], .box [iA (nm b (j + 1) L0), iA 0, .tref 8]] (Z4 n [(8, .ptr 7 0), (9, iA (j9 (nm b (j + 1) L0)))]); replace G := G.as [.box [.ref 1, iA (drK b (vs.length : Int) (ars.length : Int) d j (j9 (nm b (j + 1) L0) - j9 (nm b (j + 1) L0)).toNat).snd], dY b, dI vs, dI ars, dT bd, .box (pL 2), .box [iA 0, iA 0, .v (.slice none 0 0)], .box [iA (nm b (j + 1) L0), iA 0, .tref 8], .tree (D.exprs (drK b (vs.length : Int) (ars.length : Int) d j (j9 (nm b (j + 1) L0) - j9 (nm b (j + 1) L0)).toNat).fst)] (Z4 n [(8, .ptr 7 0), (9, iA (j9 (nm b (j + 1) L0)))]) (by have e1 : ((drK b (vs.length : Int) (ars.length : Int) d j (j9 (nm b (j + 1) L0) - j9 (nm b (j + 1) L0)).toNat).snd : Int) = (j + 1 + 1) := (by rw [Int.sub_self]; show j + 2 = j + 1 + 1; omega); have e2 : ((drK b (vs.length : Int) (ars.length : Int) d j (j9 (nm b (j + 1) L0) - j9 (nm b (j + 1) L0)).toNat).fst : List b7) = ([]) := (by rw [Int.sub_self]; rfl); (first | rw [e1, e2] | simp only [e1, e2]) <;> rfl) (by kernel_rfl); refine x4 (κ := Int) (fun k => 0 <= k /\ k <= j9 (nm b (j + 1) L0)) (fun k => k.toNat) (fun k => [.box [.ref 1, iA (drK b vs.length ars.length d j (j9 (nm b (j + 1) L0) - k).toNat).2], dY b, dI vs, dI ars, dT bd, .box (pL 2), .box [iA 0, iA 0, .v (.slice none 0 0)], .box [iA (nm b (j + 1) L0), iA 0, .tref 8], .tree (.exprs (drK b vs.length ars.length d j (j9 (nm b (j + 1) L0) - k).toNat).1)]) (fun k => [(0, .ptr 0 0), (2, iA n), (4, .ptr 5 0), (6, .ptr 6 0), (8, .ptr 7 0), (9, iA k)]) (j9 (nm b (j + 1) L0)) (by omega) (w6.at G _ _) ?_; clear G; intro k ρ a w hp G; replace G := w6.at G [.box [.ref 1, iA (av4 b vs ars d j k).snd], dY b, dI vs, dI ars, dT bd, .box (pL 2), aE3, .box [iA (nm b (j + 1) L0), iA 0, .tref 8], .tree (D.exprs (av4 b vs ars d j k).fst)] (Z4 n [(8, .ptr 7 0), (9, iA k)]); have hkb := bV8 (b := b) (nv := vs.length) (na := ars.length) (d := d) (j := j) r0 (k := (j9 (nm b (j + 1) L0) - k).toNat) (by omega); have hkl : (drK b vs.length ars.length d j (j9 (nm b (j + 1) L0) - k).toNat).1.length = (j9 (nm b (j + 1) L0) - k).toNat := aL9 _ _ _; refine wp_seq (wp_seq (j3 G d7 [(48, bA (decide (k > 0)))] fun G => b0 (S9 G (fun h4 q4 => ?_) fun h4 q4 => ?_)))
     · refine wp_exit (p8 (p8 (p7 (b0 (wp_seq (j5 G d7 [0, 1, 2, 3, 4, 6, 8] [.box [.ref 1, iA (av4 b vs ars d j k).snd], dY b, dI vs, dI ars, dT bd, .box [iA (nm b (j + 1) L0), iA 0, .tref 6], .tree (D.exprs (av4 b vs ars d j k).fst)] [(6, .ptr 5 0)] fun G => b0 (wp_ret ?_))))))); exact E0 (.agg [iA (nm b (j + 1) L0), iA 0, .tref 6]) G [0, 1, 2, 3, 4, 6] (by show _ = AV.ren (nth [0, 1, 2, 3, 4, 6]) (ar0 b vs ars d j); unfold ar0; rw [bV5 (m := k) hd (by omega) (by omega) (by omega) (by omega)] <;> rfl) (by show _ = mR [0, 1, 2, 3, 4, 6] (aq9 b vs ars bd d j); unfold aq9; rw [bV5 (m := k) hd (by omega) (by omega) (by omega) (by omega)] <;> rfl)
     refine wp_skip (b0 (wp_seq (wp_block (B2 G (n4 6 (rg 5) (ih ((drK b (vs.length : Int) (ars.length : Int) d j (j9 (nm b (j + 1) L0) - k).toNat).snd) (n - 1) (by omega) (by omega) (bV7 (by omega) (by omega) (by omega) (by omega) r1))) [0, 1, 0, 0, 0, 16, 60, 124, 255, 511, 1023] [0, 1, 2, 3, 4, 5, 6, 7, 73] [.box [.ref 1, iA (K0 b (vs.length : Int) (ars.length : Int) d (av4 b vs ars d j k).snd).snd], dY b, dI vs, dI ars, dT bd, .box (pL 2), aE3, .box [iA (nm b (j + 1) L0), iA 0, .tref 8], .tree (D.exprs ((av4 b vs ars d j k).fst ++ [C8 (K0 b (vs.length : Int) (ars.length : Int) d (av4 b vs ars d j k).snd).fst]))] (Z4 n [(8, .ptr 7 0), (9, iA k)]) ((wO (n - 1)) :: (aP ((drK b (vs.length : Int) (ars.length : Int) d j (j9 (nm b (j + 1) L0) - k).toNat).fst.length + 1) 40 [])) ⟨oW (by omega), (aK (by omega) b70)⟩ fun G => o9 (b0 (G7 G d7 [(9, iA (k - 1))] [wO (k - 1)] (o1 (by omega)) fun G => b0 ?_)))))); exact Z9 G (k - 1) (by omega) (by omega) (rg 9) (by have e1 : ((drK b (vs.length : Int) (ars.length : Int) d j (j9 (nm b (j + 1) L0) - (k - 1)).toNat).snd : Int) = ((K0 b (vs.length : Int) (ars.length : Int) d (drK b (vs.length : Int) (ars.length : Int) d j (j9 (nm b (j + 1) L0) - k).toNat).snd).snd) := (by rw [ba5 (by omega) (by omega)]; done); have e2 : ((drK b (vs.length : Int) (ars.length : Int) d j (j9 (nm b (j + 1) L0) - (k - 1)).toNat).fst : List b7) = ((drK b (vs.length : Int) (ars.length : Int) d j (j9 (nm b (j + 1) L0) - k).toNat).fst ++ [C8 (K0 b (vs.length : Int) (ars.length : Int) d (drK b (vs.length : Int) (ars.length : Int) d j (j9 (nm b (j + 1) L0) - k).toNat).snd).fst]) := (by rw [ba5 (by omega) (by omega)]; (simp only [b7.eta]; done)); (first | rw [e1, e2] | simp only [e1, e2]) <;> rfl)
    refine wp_seq (wp_seq (j3 G d7 [(28, bA ((ars.length : Int) == 0))] fun G => b0 (rcE G (fun h3 q3 => ?_) fun h3 q3 => ?_)))
    · refine wp_skip (b0 (wp_seq (ab6 G (x8 (m8 5 [0, 1] (G5 b (j + 1 + 1) ((ars.length : Int)) (by omega) (by omega)) (m8 8 (rg 5) (ap8 b (j + 1 + 1 + 1) vs ars bd (by omega) (by omega)) x7)) fz []) [0, 0, 0, 4, 12, 30, 0, 0, 254, 510, 1023, 2047] [0, 1, 2, 3, 4, 5, 6, 79] [.box [.ref 1, iA (j + 1 + 1 + 1 + 2)], dY b, dI vs, dI ars, dT bd, .box (pL 2), .box [iA (nm b (j + 1) L0), iA (pk b (j + 1 + 1) (ars.length : Int)), .tref 7], .tree (D.exprs [C8 (n9 b (vs.length : Int) (j + 1 + 1 + 1))])] (Z4 n [(7, iA (nm b (j + 1) L0))]) fun G => b0 (wp_ret (j2 ?_))))); exact E0 (.agg [iA (nm b (j + 1) L0), iA (pk b (j + 1 + 1) (ars.length : Int)), .tref 7]) G [0, 1, 2, 3, 4, 7] (by show _ = AV.ren (nth [0, 1, 2, 3, 4, 7]) (ar0 b vs ars d j); unfold ar0; have e1 : ((K0 b (vs.length : Int) (ars.length : Int) (d + 1) j).fst.kind : Int) = (nm b (j + 1) L0) := (by rw [bz6 hd (by omega) (by omega) (by omega)]; (simp only [Int.add_assoc, Int.reduceAdd, b7.eta, b7.kids, b7.kind, b7.value]; omega)); have e2 : ((K0 b (vs.length : Int) (ars.length : Int) (d + 1) j).fst.value : Int) = (pk b (j + 1 + 1) (ars.length : Int)) := (by rw [bz6 hd (by omega) (by omega) (by omega)]; (simp only [Int.add_assoc, Int.reduceAdd, b7.eta, b7.kids, b7.kind, b7.value]; done)); (first | rw [e1, e2] | simp only [e1, e2]) <;> rfl) (by show _ = mR [0, 1, 2, 3, 4, 7] (aq9 b vs ars bd d j); unfold aq9; have e1 : ((K0 b (vs.length : Int) (ars.length : Int) (d + 1) j).snd : Int) = (j + 1 + 1 + 1 + 2) := (by rw [bz6 hd (by omega) (by omega) (by omega)]; (simp only [Int.add_assoc, Int.reduceAdd, b7.eta, b7.kids, b7.kind, b7.value]; done)); have e2 : ((K0 b (vs.length : Int) (ars.length : Int) (d + 1) j).fst.kids : List b7) = ([C8 (n9 b (vs.length : Int) (j + 1 + 1 + 1))]) := (by rw [bz6 hd (by omega) (by omega) (by omega)]; show [_] = _; simp only [Int.add_assoc, Int.reduceAdd, b7.eta]; done); (first | rw [e1, e2] | simp only [e1, e2]) <;> rfl)
    refine wp_seq (j5 G (n4 2 (rg 5) (ap8 b (j + 1 + 1) vs ars bd (by omega) (by omega))) [0, 1, 2, 3, 4, 5, 6, 23] [.box [.ref 1, iA (j + 1 + 1 + 2)], dY b, dI vs, dI ars, dT bd, .box (pL 2), .box [iA (n9 b (vs.length : Int) (j + 1 + 1)).kind, iA (n9 b (vs.length : Int) (j + 1 + 1)).value, .tref 7], .tree (D.exprs (n9 b (vs.length : Int) (j + 1 + 1)).kids)] (Z4 n [(7, iA (nm b (j + 1) L0))]) fun G => b0 (wp_ret (j2 (j2 ?_)))); exact E0 (.agg [iA (n9 b (vs.length : Int) (j + 1 + 1)).kind, iA (n9 b (vs.length : Int) (j + 1 + 1)).value, .tref 7]) G [0, 1, 2, 3, 4, 7] (by show _ = AV.ren (nth [0, 1, 2, 3, 4, 7]) (ar0 b vs ars d j); unfold ar0; have e1 : ((K0 b (vs.length : Int) (ars.length : Int) (d + 1) j).fst.kind : Int) = ((n9 b (vs.length : Int) (j + 1 + 1)).kind) := (by rw [bz7 hd (by omega) (by omega) (by omega)]; (simp only [Int.add_assoc, Int.reduceAdd, b7.eta, b7.kids, b7.kind, b7.value]; done)); have e2 : ((K0 b (vs.length : Int) (ars.length : Int) (d + 1) j).fst.value : Int) = ((n9 b (vs.length : Int) (j + 1 + 1)).value) := (by rw [bz7 hd (by omega) (by omega) (by omega)]; (simp only [Int.add_assoc, Int.reduceAdd, b7.eta, b7.kids, b7.kind, b7.value]; done)); (first | rw [e1, e2] | simp only [e1, e2]) <;> rfl) (by show _ = mR [0, 1, 2, 3, 4, 7] (aq9 b vs ars bd d j); unfold aq9; have e1 : ((K0 b (vs.length : Int) (ars.length : Int) (d + 1) j).snd : Int) = (j + 1 + 1 + 2) := (by rw [bz7 hd (by omega) (by omega) (by omega)]; (simp only [Int.add_assoc, Int.reduceAdd, b7.eta, b7.kids, b7.kind, b7.value]; done)); have e2 : ((K0 b (vs.length : Int) (ars.length : Int) (d + 1) j).fst : b7) = (n9 b (vs.length : Int) (j + 1 + 1)) := (by rw [bz7 hd (by omega) (by omega) (by omega)]; (simp only [Int.add_assoc, Int.reduceAdd, b7.eta, b7.kids, b7.kind, b7.value]; done)); (first | rw [e1, e2] | simp only [e1, e2]) <;> rfl)
   refine wp_seq (j5 G (n4 2 (rg 5) (ap8 b (j + 1) vs ars bd (by omega) (by omega))) [0, 1, 2, 3, 4, 5, 6, 23] [.box [.ref 1, iA (j + 1 + 2)], dY b, dI vs, dI ars, dT bd, .box (pL 2), .box [iA (n9 b (vs.length : Int) (j + 1)).kind, iA (n9 b (vs.length : Int) (j + 1)).value, .tref 7], .tree (D.exprs (n9 b (vs.length : Int) (j + 1)).kids)] (Z4 n []) fun G => b0 (wp_ret (j2 ?_))); exact E0 (.agg [iA (n9 b (vs.length : Int) (j + 1)).kind, iA (n9 b (vs.length : Int) (j + 1)).value, .tref 7]) G [0, 1, 2, 3, 4, 7] (by show _ = AV.ren (nth [0, 1, 2, 3, 4, 7]) (ar0 b vs ars d j); unfold ar0; rw [bM9 hd (by omega)] <;> rfl) (by show _ = mR [0, 1, 2, 3, 4, 7] (aq9 b vs ars bd d j); unfold aq9; have e1 : ((K0 b (vs.length : Int) (ars.length : Int) (d + 1) j).snd : Int) = (j + 1 + 2) := (by rw [bM9 hd (by omega)]; (simp only [Int.add_assoc, Int.reduceAdd, b7.eta, b7.kids, b7.kind, b7.value]; done)); rw [e1, bM9 hd (by omega)] <;> rfl)
  have q0 := L2 h0; exact False.elim (by omega)
theorem bt8 (b : List UInt8) (vs ars : List Int) (bd : List b5) : ∀ (d : Nat) (j n : Int), d <= 100 -> n = d -> 0 <= j -> j + cE d <= 800000000 -> j1.ok Tryz.prog (drC b vs ars bd d j n)
 | 0, j, n, _, hn, r0, r1 => a68 b vs ars bd 0 (by omega) j n hn r0 (by have := aB3 0; omega)
 | 1, j, n, _, hn, r0, r1 => a68 b vs ars bd 1 (by omega) j n hn r0 (by have := aB3 1; omega)
 | d + 2, j, n, hd, hn, r0, r1 => bw6 b vs ars bd (d + 1) (by omega) (by omega) (fun j n => bt8 b vs ars bd (d + 1) j n (by omega)) j n hn r0 r1
abbrev smC (b : List UInt8) (vs ars : List Int) (bd : List b5) (j : Int) : j1 := ⟨124, [.ptr 0 0, pA 2], dwS b j vs ars bd, dwS b (v8 b vs.length ars.length j).2 vs ars bd ++ exO (v8 b vs.length ars.length j).1, exA (v8 b vs.length ars.length j).1 5⟩
section
variable {b : List UInt8} {nv na : Nat} {j : Int}
theorem bQ1 (h : j8 nv na (K0 b nv na (nm b j dpL).toNat (j + 1)).1 = true) : v8 b nv na j = K0 b nv na (nm b j dpL).toNat (j + 1) := if_pos h
theorem bQ0 (h : j8 nv na (K0 b nv na (nm b j dpL).toNat (j + 1)).1 = false) : v8 b nv na j = (n9 b nv (K0 b nv na (nm b j dpL).toNat (j + 1)).2, (K0 b nv na (nm b j dpL).toNat (j + 1)).2 + 2) := if_neg (by rw [h]; decide)
theorem bY8 (r0 : 0 <= j) (r1 : j <= 700000000) : cE (nm b j dpL).toNat <= 364 := cE4 (dp4 b r0 (by omega)).2.2
end
abbrev W0 (b : List UInt8) (vs : List Int) (ars : List Int) (j : Int) := K0 b (vs.length : Int) (ars.length : Int) (nm b j dpL).toNat (j + 1)
theorem Y6 (b : List UInt8) (vs ars : List Int) (bd : List b5) (j : Int) (r0 : 0 <= j) (r1 : j <= 700000000) : j1.ok Tryz.prog (smC b vs ars bd j) := by
 have hdr := fun (i n : Int) => bt8 b vs ars bd (nm b j dpL).toNat i n (b54 (dp4 b r0 (by omega)).2.2 (by omega))
 refine D2 19 Tryz.func124 [.box [.ref 1, iA j], dY b, dI vs, dI ars, dT bd] [(0, .ptr 0 0), (1, pA 2)] fun G => ?_; have hd4 := bY8 (b := b) r0 r1; have hdb := aU2 b vs.length ars.length (nm b j dpL).toNat (j + 1); refine wp_seq (j5 G d7 [0, 1, 2, 3, 4, 5, 13] [.box [.ref 1, iA j], dY b, dI vs, dI ars, dT bd, .box (pL 2), .box [iA 0, iA 0, .v (.slice none 0 0)]] [(0, .ptr 0 0), (3, .ptr 5 0), (4, .ptr 6 0)] fun G => b0 (wp_seq (ab6 G (x8 (m8 4 [0, 1, 31] (j1.lend (N8 b j dpL (List.cons_ne_nil _ _) (by assumption) (by omega)) [.no, .no, .row 3]) (m8 5 (rg 5) (hdr (j + 1) (nm b j dpL) (bN1 b (by omega) (by omega)) (by omega) (by omega)) x7)) fz []) [0, 0, 0, 0, 12, 31, 0, 127] [0, 1, 2, 3, 4, 5, 6, 47, 55] [.box [.ref 1, iA (W0 b vs ars j).snd], dY b, dI vs, dI ars, dT bd, .box (pL 2), .box [iA 0, iA 0, .v (.slice none 0 0)], .tree (D.exprs (W0 b vs ars j).fst.kids), .box [iA (W0 b vs ars j).fst.kind, iA (W0 b vs ars j).fst.value, .tref 7]] [(0, .ptr 0 0), (3, .ptr 5 0), (4, .ptr 6 0), (5, .ptr 8 0)] fun G => b0 (wp_seq (wp_seq (j3 G (n4 2 [2, 3, 4, 7] (j1.lend (a25 vs ars bd ((K0 b (vs.length : Int) (ars.length : Int) (nm b j dpL).toNat (j + 1)).fst)) [.no, .no, .no, .tree])) [(14, bA (j8 vs.length ars.length (W0 b vs ars j).fst))] fun G => b0 (rcB (b := j8 vs.length ars.length (K0 b (vs.length : Int) (ars.length : Int) (nm b j dpL).toNat (j + 1)).fst) G (fun h0 => ?_) fun h0 => ?_)))))))
 ·refine wp_skip (b0 (wp_seq (j5 G (n4 2 (rg 5) (ap8 b ((K0 b (vs.length : Int) (ars.length : Int) (nm b j dpL).toNat (j + 1)).snd) vs ars bd (by omega) (by omega))) [0, 1, 2, 3, 4, 6, 25] [.box [.ref 1, iA ((W0 b vs ars j).snd + 2)], dY b, dI vs, dI ars, dT bd, .box [iA (n9 b (vs.length : Int) (W0 b vs ars j).snd).kind, iA (n9 b (vs.length : Int) (W0 b vs ars j).snd).value, .tref 6], .tree (D.exprs (n9 b (vs.length : Int) (W0 b vs ars j).snd).kids)] [(4, .ptr 5 0)] fun G => b0 (wp_ret ?_)))); exact E0 (.agg [iA (n9 b (vs.length : Int) (K0 b (vs.length : Int) (ars.length : Int) (nm b j dpL).toNat (j + 1)).snd).kind, iA (n9 b (vs.length : Int) (K0 b (vs.length : Int) (ars.length : Int) (nm b j dpL).toNat (j + 1)).snd).value, .tref 6]) G [0, 1, 2, 3, 4, 6] (by show _ = AV.ren (nth [0, 1, 2, 3, 4, 6]) (.agg [iA (v8 b vs.length ars.length j).fst.kind, iA (v8 b vs.length ars.length j).fst.value, .tref 5]); rw [bQ0 (by with_reducible assumption)] <;> rfl) (by show _ = mR [0, 1, 2, 3, 4, 6] [.box [.ref 1, iA (v8 b vs.length ars.length j).snd], dY b, dI vs, dI ars, dT bd, .tree (D.exprs (v8 b vs.length ars.length j).fst.kids)]; rw [bQ0 (by with_reducible assumption)] <;> rfl)
 refine wp_seq (j5 G d7 (rg 8) [.box [.ref 1, iA (W0 b vs ars j).snd], dY b, dI vs, dI ars, dT bd, .box (pL 2), .box [iA (W0 b vs ars j).fst.kind, iA (W0 b vs ars j).fst.value, .tref 7], .tree (D.exprs (W0 b vs ars j).fst.kids)] [(0, .ptr 0 0), (3, .ptr 5 0), (4, .ptr 6 0)] fun G => b0 (wp_ret (j2 ?_))); exact E0 (.agg [iA (K0 b (vs.length : Int) (ars.length : Int) (nm b j dpL).toNat (j + 1)).fst.kind, iA (K0 b (vs.length : Int) (ars.length : Int) (nm b j dpL).toNat (j + 1)).fst.value, .tref 7]) G [0, 1, 2, 3, 4, 7] (by show _ = AV.ren (nth [0, 1, 2, 3, 4, 7]) (.agg [iA (v8 b vs.length ars.length j).fst.kind, iA (v8 b vs.length ars.length j).fst.value, .tref 5]); rw [bQ1 (by with_reducible assumption)] <;> rfl) (by show _ = mR [0, 1, 2, 3, 4, 7] [.box [.ref 1, iA (v8 b vs.length ars.length j).snd], dY b, dI vs, dI ars, dT bd, .tree (D.exprs (v8 b vs.length ars.length j).fst.kids)]; rw [bQ1 (by with_reducible assumption)] <;> rfl)
abbrev stO (s : b5) : List It := [.tree (.exprs s.index.kids), .tree (.exprs s.value.kids), .tree (.stmts s.body), .tree (.stmts s.els)]
abbrev stA (s : b5) (r : Nat) : AV := .agg [iA s.kind, iA s.target, iA s.index.kind, iA s.index.value, .tref r, iA s.value.kind, iA s.value.value, .tref (r + 1), iA s.count, .tref (r + 2), .tref (r + 3)]
abbrev dsC (b : List UInt8) (vs ars : List Int) (bd : List b5) (d : Nat) (j n : Int) : j1 := ⟨105, [.ptr 0 0, pA 2, iA n], dwS b j vs ars bd, dwS b (C1 b vs.length ars.length d j).2 vs ars bd ++ stO (C1 b vs.length ars.length d j).1, stA (C1 b vs.length ars.length d j).1 5⟩
abbrev dbC (b : List UInt8) (vs ars : List Int) (bd : List b5) (d : Nat) (m : Nat) (j n c : Int) : j1 := ⟨71, [.ptr 0 0, pA 2, iA n, iA c], dwS b j vs ars bd, dwS b (G0 (C1 b vs.length ars.length d) m j).2 vs ars bd ++ [.tree (.stmts (G0 (C1 b vs.length ars.length d) m j).1)], .tref 5⟩
section
variable {b : List UInt8} {nv na d : Nat} {j : Int}
theorem bj6 (h : nm b j J3 = 2) (h1 : 0 < (na : Int)) : C1 b nv na d j = soS b nv na (j + 1) := by
 cases d <;> (rw [C1, if_pos ⟨h, by omega⟩])
theorem bP7 (h : nm b j J3 = 3) (h1 : 0 < d) : C1 b nv na (d + 1) j = ifS b nv na (C1 b nv na d) (j + 1) := by
 rw [C1, if_neg (by omega), if_pos ⟨h, by omega⟩]
theorem bP6 (h : nm b j J3 = 4) (h1 : 0 < d) : C1 b nv na (d + 1) j = rpS b (C1 b nv na d) (j + 1) := by
 rw [C1, if_neg (by omega), if_neg (by omega), if_pos ⟨h, by omega⟩]
theorem ab1 (h : ¬ (nm b j J3 = 2 /\ 0 < (na : Int))) (h1 : d < 2 \/ (¬ nm b j J3 = 3 /\ ¬ nm b j J3 = 4)) : C1 b nv na d j = dfS b nv na (nm b j J3) (j + 1) := by
 match d, h1 with
 | 0, _ => rw [C1, if_neg (by omega)]
 | d + 1, h1 => rw [C1, if_neg (by omega), if_neg (by omega), if_neg (by omega)]
theorem bN5 {kd : Int} (h : kd = 5) : dfS b nv na kd j = (⟨5, pk b j nv, noE, (v8 b nv na (j + 1)).1, 0, [], []⟩, (v8 b nv na (j + 1)).2) := by rw [dfS, if_pos h]
theorem aU3 {kd : Int} (h : ¬ kd = 5) : dfS b nv na kd j = (⟨1, pk b j nv, noE, (v8 b nv na (j + 1)).1, 0, [], []⟩, (v8 b nv na (j + 1)).2) := by rw [dfS, if_neg h]
end
section
variable (b : List UInt8) {j : Int}
theorem b36 (r0 : 0 <= j) (r1 : j <= 1000000000) : 0 <= nm b j ibL /\ nm b j ibL <= 2 := aF2 b (by simp) a12 r0 r1
theorem b35 (r0 : 0 <= j) (r1 : j <= 1000000000) : 0 <= nm b j ieL /\ nm b j ieL <= 2 := aF2 b (by simp) a09 r0 r1
theorem bZ9 (r0 : 0 <= j) (r1 : j <= 1000000000) : 0 <= nm b j rbL /\ nm b j rbL <= 2 := aF2 b (by simp) aY9 r0 r1
theorem bB0 (d : Nat) : (d = 0 /\ cS (d - 1) = 402 /\ cS d <= 2010) \/ cS d = 402 + 4 * cS (d - 1) := by
 cases d with
 | zero => exact .inl ⟨rfl, rfl, by decide⟩
 | succ d => exact .inr rfl
end
section
variable {b : List UInt8} {nv na d : Nat} {j : Int}
theorem aX9 (h : nm b j J3 = 3) (h1 : 1 < d) : C1 b nv na d j = ifS b nv na (C1 b nv na (d - 1)) (j + 1) := by
 match d, h1 with
 | d + 1, h1 => exact bP7 h (by omega)
theorem aX8 (h : nm b j J3 = 4) (h1 : 1 < d) : C1 b nv na d j = rpS b (C1 b nv na (d - 1)) (j + 1) := by
 match d, h1 with
 | d + 1, h1 => exact bP6 h (by omega)
end
abbrev bC5 (b : List UInt8) (vs : List Int) (ars : List Int) (d : Nat) (j : Int) (k : Nat) := C1 b vs.length ars.length d (G0 (C1 b vs.length ars.length d) k j).snd
abbrev aO2 (n : Int) (c : Int) (r0 : List (Nat × AV)) : List (Nat × AV) := (0, .ptr 0 0) :: (2, iA n) :: (3, iA c) :: (5, .ptr 5 0) :: (8, .v (.slice none 0 0)) :: r0
theorem bw7 (b : List UInt8) (vs ars : List Int) (bd : List b5) (d m : Nat) (ih : ∀ (j n : Int), n = d -> 0 <= j -> j + cS d <= 600000000 -> j1.ok Tryz.prog (dsC b vs ars bd d j n)) (j n c : Int) (hn : n = d) (hm : c = m) (hm2 : m <= 4) (B : Int) (hB : (m : Int) * cS d <= B) (r0 : 0 <= j) (r1 : j + B <= 600000000) : j1.ok Tryz.prog (dbC b vs ars bd d m j n c) := by
 refine D2 25 Tryz.func71 [.box [.ref 1, iA j], dY b, dI vs, dI ars, dT bd] [(0, .ptr 0 0), (1, pA 2), (2, iA n), (3, iA c)] fun G => ?_; have hc := as5 d; refine wp_seq (j5 G d7 (rg 6) [.box [.ref 1, iA j], dY b, dI vs, dI ars, dT bd, .box (pL 2)] (aO2 n c []) fun G => b0 (wp_seq (j5 G d7 (rg 7) [.box [.ref 1, iA j], dY b, dI vs, dI ars, dT bd, .box (pL 2), .tree (D.stmts [])] (aO2 n c [(9, .tref 6)]) fun G => b0 (wp_seq (wp_seq (A4 G d7 (aO2 n c [(9, .tref 6), (10, iA 0)]) fun G => b0 (wp_block ?_))))))); refine x4 (κ := Nat) (fun k => k <= m) (fun k => m - k) (fun k => [.box [.ref 1, iA (G0 (C1 b vs.length ars.length d) k j).2], dY b, dI vs, dI ars, dT bd, .box (pL 2), .tree (.stmts (G0 (C1 b vs.length ars.length d) k j).1)]) (fun k => [(0, .ptr 0 0), (2, iA n), (3, iA c), (5, .ptr 5 0), (8, .v (.slice none 0 0)), (9, .tref 6), (10, iA k)]) 0 (by omega) (w6.at G _ _) ?_; clear G; intro k ρ a w hp G; replace G := w6.at G [.box [.ref 1, iA (G0 (C1 b vs.length ars.length d) k j).snd], dY b, dI vs, dI ars, dT bd, .box (pL 2), .tree (D.stmts (G0 (C1 b vs.length ars.length d) k j).fst)] (aO2 n c [(9, .tref 6), (10, iA k)]); have hkb := bG6 b vs.length ars.length (k := j) (i := k) hB (by omega) r0 (by omega); have hkl : (G0 (C1 b vs.length ars.length d) k j).1.length = k := aL9 _ _ _; refine wp_seq (wp_seq (j3 G d7 [(14, bA (decide ((k : Int) < c)))] fun G => b0 (S9 G (fun h0 q0 => ?_) fun h0 q0 => ?_)))
 ·refine wp_exit (p8 (p8 (p7 (b0 (wp_seq (j5 G d7 [0, 1, 2, 3, 4, 6] [.box [.ref 1, iA (G0 (C1 b vs.length ars.length d) k j).snd], dY b, dI vs, dI ars, dT bd, .tree (D.stmts (G0 (C1 b vs.length ars.length d) k j).fst)] [(8, .tref 5)] fun G => b0 (wp_ret ?_))))))); exact H9 G (rg 6) (by show _ = mR (rg 6) [.box [.ref 1, iA (G0 (C1 b vs.length ars.length d) m j).snd], dY b, dI vs, dI ars, dT bd, .tree (D.stmts (G0 (C1 b vs.length ars.length d) m j).fst)]; rw [show m = k by omega] <;> rfl)
 refine wp_skip (b0 (wp_seq (wp_block (G8 G (n4 4 (rg 5) (ih ((G0 (C1 b vs.length ars.length d) k j).snd) n (by assumption) (by omega) (by have := bX5 b vs.length ars.length (k := j) (i := k) hB (by omega) r0 (by omega); omega))) [0, 1, 2, 3, 4, 5, 55] [.box [.ref 1, iA (bC5 b vs ars d j k).snd], dY b, dI vs, dI ars, dT bd, .box (pL 2), .tree (D.stmts ((G0 (C1 b vs.length ars.length d) k j).fst ++ [qzS (bC5 b vs ars d j k).fst]))] (aO2 n c [(9, .tref 6), (10, iA k)]) (aP ((G0 (C1 b vs.length ars.length d) k j).fst.length + 1) 152 []) (aK (by omega) b70) fun G => o9 (b0 (G7 G d7 [(10, iA ((k : Int) + 1))] [wO ((k : Int) + 1)] (o1 (by omega)) fun G => b0 ?_)))))); exact Z9 G (k + 1) (by omega) (by omega) (rg 7) (by have e1 : ((G0 (C1 b vs.length ars.length d) (k + 1) j).fst : List b5) = ((G0 (C1 b vs.length ars.length d) k j).fst ++ [qzS (C1 b vs.length ars.length d (G0 (C1 b vs.length ars.length d) k j).snd).fst]) := (by show _ ++ [_] = _ ++ [_]; unfold qzS; rw [b7.eta, b7.eta, b5.eta]; done); (first | rw [e1] | simp only [e1]) <;> rfl)
abbrev aE2 (b : List UInt8) (vs : List Int) (ars : List Int) (d : Nat) (j : Int) := G0 (C1 b vs.length ars.length (d - 1)) (nm b (v8 b vs.length ars.length (j + 1)).snd ibL).toNat ((v8 b vs.length ars.length (j + 1)).snd + 1)
abbrev a52 (b : List UInt8) (vs : List Int) (ars : List Int) (d : Nat) (j : Int) := G0 (C1 b vs.length ars.length (d - 1)) (nm b (aE2 b vs ars d j).snd ieL).toNat ((aE2 b vs ars d j).snd + 1)
abbrev Q9 (b : List UInt8) (vs : List Int) (ars : List Int) (d : Nat) (j : Int) : AV := (.agg [iA (C1 b vs.length ars.length d j).fst.kind, iA (C1 b vs.length ars.length d j).fst.target, iA (C1 b vs.length ars.length d j).fst.index.kind, iA (C1 b vs.length ars.length d j).fst.index.value, .tref 5, iA (C1 b vs.length ars.length d j).fst.value.kind, iA (C1 b vs.length ars.length d j).fst.value.value, .tref 6, iA (C1 b vs.length ars.length d j).fst.count, .tref 7, .tref 8])
abbrev Q8 (b : List UInt8) (vs : List Int) (ars : List Int) (bd : List b5) (d : Nat) (j : Int) : List It := [.box [.ref 1, iA (C1 b vs.length ars.length d j).snd], dY b, dI vs, dI ars, dT bd, .tree (D.exprs (C1 b vs.length ars.length d j).fst.index.kids), .tree (D.exprs (C1 b vs.length ars.length d j).fst.value.kids), .tree (D.stmts (C1 b vs.length ars.length d j).fst.body), .tree (D.stmts (C1 b vs.length ars.length d j).fst.els)]
abbrev aj4 : It := .box [iA 0, iA 0, iA 0, iA 0, .v (.slice none 0 0), iA 0, iA 0, .v (.slice none 0 0), iA 0, .v (.slice none 0 0), .v (.slice none 0 0)]
abbrev a50 (b : List UInt8) (vs : List Int) (ars : List Int) (j : Int) : It := .box [iA 1, iA (pk b (j + 1) (vs.length : Int)), iA 0, iA 0, .v (.slice none 0 0), iA (v8 b vs.length ars.length (j + 1 + 1)).fst.kind, iA (v8 b vs.length ars.length (j + 1 + 1)).fst.value, .tref 7, iA 0, .v (.slice none 0 0), .v (.slice none 0 0)]
abbrev a49 (b : List UInt8) (vs : List Int) (ars : List Int) (j : Int) : It := .box [iA 1, iA (pk b (j + 1) (vs.length : Int)), iA 0, iA 0, .v (.slice none 0 0), iA (v8 b vs.length ars.length (j + 1 + 1)).fst.kind, iA (v8 b vs.length ars.length (j + 1 + 1)).fst.value, .tref 6, iA 0, .v (.slice none 0 0), .v (.slice none 0 0)]
abbrev a48 (b : List UInt8) (vs : List Int) (j : Int) : It := .box [iA 1, iA (pk b (j + 1) (vs.length : Int)), iA 0, iA 0, .v (.slice none 0 0), iA 0, iA 0, .v (.slice none 0 0), iA 0, .v (.slice none 0 0), .v (.slice none 0 0)]
abbrev ag1 (b : List UInt8) (vs : List Int) (ars : List Int) (j : Int) : It := .tree (D.exprs (v8 b vs.length ars.length (j + 1 + 1)).fst.kids)
abbrev V2 (b : List UInt8) (vs : List Int) (ars : List Int) (j : Int) : It := .box [.ref 1, iA (v8 b vs.length ars.length (j + 1 + 1)).snd]
abbrev aH8 : It := .box [iA 1, iA 0, iA 0, iA 0, .v (.slice none 0 0), iA 0, iA 0, .v (.slice none 0 0), iA 0, .v (.slice none 0 0), .v (.slice none 0 0)]
abbrev a40 (b : List UInt8) (vs : List Int) (ars : List Int) (bd : List b5) (j : Int) (r0 : List It) : List It := .box [.ref 1, iA (v8 b vs.length ars.length (j + 1 + 1)).snd] :: dY b :: dI vs :: dI ars :: dT bd :: .box [iA 1, iA (pk b (j + 1) (vs.length : Int)), iA 0, iA 0, .tref 7, iA (v8 b vs.length ars.length (j + 1 + 1)).fst.kind, iA (v8 b vs.length ars.length (j + 1 + 1)).fst.value, .tref 6, iA 0, .tref 8, .tref 9] :: .tree (D.exprs (v8 b vs.length ars.length (j + 1 + 1)).fst.kids) :: .tree (D.exprs []) :: .tree (D.stmts []) :: r0
abbrev a39 (b : List UInt8) (vs : List Int) (ars : List Int) (bd : List b5) (j : Int) (r0 : List It) : List It := .box [.ref 1, iA (v8 b vs.length ars.length (j + 1 + 1)).snd] :: dY b :: dI vs :: dI ars :: dT bd :: .box [iA 1, iA (pk b (j + 1) (vs.length : Int)), iA 0, iA 0, .tref 7, iA (v8 b vs.length ars.length (j + 1 + 1)).fst.kind, iA (v8 b vs.length ars.length (j + 1 + 1)).fst.value, .tref 6, iA 0, .tref 8, .v (.slice none 0 0)] :: .tree (D.exprs (v8 b vs.length ars.length (j + 1 + 1)).fst.kids) :: .tree (D.exprs []) :: r0
abbrev a38 (b : List UInt8) (vs : List Int) (ars : List Int) (bd : List b5) (j : Int) (r0 : List It) : List It := .box [.ref 1, iA (v8 b vs.length ars.length (j + 1 + 1)).snd] :: dY b :: dI vs :: dI ars :: dT bd :: .box [iA 1, iA (pk b (j + 1) (vs.length : Int)), iA 0, iA 0, .tref 7, iA (v8 b vs.length ars.length (j + 1 + 1)).fst.kind, iA (v8 b vs.length ars.length (j + 1 + 1)).fst.value, .tref 6, iA 0, .v (.slice none 0 0), .v (.slice none 0 0)] :: .tree (D.exprs (v8 b vs.length ars.length (j + 1 + 1)).fst.kids) :: r0
abbrev U0 (r0 : List (Nat × AV)) : List (Nat × AV) := (0, .ptr 0 0) :: (4, .ptr 5 0) :: (6, .ptr 6 0) :: (8, .ptr 7 0) :: r0
abbrev aO1 (b : List UInt8) (vs : List Int) (ars : List Int) (d : Nat) (j : Int) (r0 : List It) : List It := .box [.ref 1, iA (G0 (C1 b vs.length ars.length (d - 1)) (nm b (j + 1 + 1) rbL).toNat (j + 1 + 1 + 1)).snd] :: dY b :: dI vs :: dI ars :: r0
abbrev aj1 (n : Int) (r0 : List (Nat × AV)) : List (Nat × AV) := (0, .ptr 0 0) :: (2, iA n) :: (4, .ptr 5 0) :: (6, .ptr 6 0) :: r0
abbrev P0 (b : List UInt8) (vs : List Int) (ars : List Int) (bd : List b5) (r0 : List It) : List It := dY b :: dI vs :: dI ars :: dT bd :: .box (pL 2) :: aj4 :: r0
abbrev a36 (b : List UInt8) (vs : List Int) (ars : List Int) (j : Int) (r0 : List It) : List It := .tree (D.exprs (n9 b (vs.length : Int) (j + 1 + 1)).kids) :: .tree (D.exprs (v8 b vs.length ars.length (j + 1 + 1 + 2)).fst.kids) :: r0
theorem bk5 (b : List UInt8) (vs ars : List Int) (bd : List b5) (d : Nat) (hd : d <= 3) (ih : ∀ (j n c : Int), 1 < d -> n = (d : Int) - 1 -> 0 <= c -> c <= 2 -> 0 <= j -> j + 2 * cS (d - 1) <= 600000000 -> j1.ok Tryz.prog (dbC b vs ars bd (d - 1) c.toNat j n c)) (j n : Int) (hn : n = d) (r0 : 0 <= j) (r1 : j + cS d <= 600000000) : j1.ok Tryz.prog (dsC b vs ars bd d j n) := by
  refine D2 100 Tryz.func105 [.box [.ref 1, iA j], dY b, dI vs, dI ars, dT bd] [(0, .ptr 0 0), (1, pA 2), (2, iA n)] fun G => ?_; have hc := as5 (d - 1); have hcd := bB0 d; have hcn := as5 d; have hsm := a66 b vs.length ars.length (k := j + 1) (by omega) (by omega); have hib := b36 b (j := (v8 b vs.length ars.length (j + 1)).2) (by omega) (by omega); have hbb := bG6 b vs.length ars.length (k := (v8 b vs.length ars.length (j + 1)).2 + 1) (i := (nm b (v8 b vs.length ars.length (j + 1)).2 ibL).toNat) (bT7 hib.1 hib.2 (show 0 <= cS (d - 1) by omega)) (b71 _) (by omega) (by omega); have hie := b35 b (j := (G0 (C1 b vs.length ars.length (d - 1)) (nm b (v8 b vs.length ars.length (j + 1)).2 ibL).toNat ((v8 b vs.length ars.length (j + 1)).2 + 1)).2) (by omega) (by omega); have hrb := bZ9 b (j := j + 1 + 1) (by omega) (by omega); refine wp_seq (j5 G d7 [0, 1, 2, 3, 4, 5, 13] (.box [.ref 1, iA j] :: (P0 b vs ars bd [])) (aj1 n []) fun G => b0 (wp_seq (j5 G (n4 2 [0, 1, 15] (j1.lend (N8 b j J3 (List.cons_ne_nil _ _) (by assumption) (by omega)) [.no, .no, .row 3])) (rg 7) (.box [.ref 1, iA (j + 1)] :: (P0 b vs ars bd [])) (aj1 n [(7, iA (nm b j J3))]) fun G => b0 (wp_seq (j5 G d7 [0, 1, 2, 3, 4, 5, 6, 23] (.box [.ref 1, iA (j + 1)] :: (P0 b vs ars bd [.box [iA (nm b j J3), iA 0, iA 0, iA 0, .v (.slice none 0 0), iA 0, iA 0, .v (.slice none 0 0), iA 0, .v (.slice none 0 0), .v (.slice none 0 0)]])) (aj1 n [(7, iA (nm b j J3)), (8, .ptr 7 0)]) fun G => b0 (wp_seq (wp_block (wp_seq ?_)))))))); cases h0 : (nm b j J3 == 2)
  ·
   have q0 := ne_of_beq_false h0; refine j3 G (y7 (fc h0 fz) (us [(3, 6, 0), (1007, 1007, 0)])) [(27, bA false)] fun G => b0 (rF G false (by kernel_rfl) (wp_seq ?_)); cases h1 : (nm b j J3 == 3)
   ·
    have q1 := ne_of_beq_false h1; refine j3 G (y7 (fc h1 fz) [(3, 0), (4, 0), (1005, 0)]) [(50, bA false)] fun G => b0 (rF G false (by kernel_rfl) (wp_seq ?_)); cases h2 : (nm b j J3 == 4)
    ·
     have q2 := ne_of_beq_false h2; refine j3 G (y7 (fc h2 fz) [(3, 0), (4, 0), (1005, 0)]) [(79, bA false)] fun G => b0 (rF G false (by kernel_rfl) (wp_seq (wp_seq (j3 G d7 [(15, bA (nm b j J3 != 5))] fun G => b0 (rcN G (fun h3 q3 => ?_) fun h3 q3 => ?_)))))
     · refine wp_skip (b0 (wp_seq (j5 G (n4 4 [0, 1] (G5 b (j + 1) ((vs.length : Int)) (by omega) (by omega))) (rg 8) (.box [.ref 1, iA (j + 1 + 1)] :: (P0 b vs ars bd [.box [iA (nm b j J3), iA (pk b (j + 1) (vs.length : Int)), iA 0, iA 0, .v (.slice none 0 0), iA 0, iA 0, .v (.slice none 0 0), iA 0, .v (.slice none 0 0), .v (.slice none 0 0)]])) (U0 []) fun G => b0 (j5 G (n4 2 (rg 5) (Y6 b vs ars bd (j + 1 + 1) (by omega) (by omega))) [0, 1, 2, 3, 4, 6, 7, 24] [V2 b vs ars j, dY b, dI vs, dI ars, dT bd, aj4, .box [iA (nm b j J3), iA (pk b (j + 1) (vs.length : Int)), iA 0, iA 0, .v (.slice none 0 0), iA (v8 b vs.length ars.length (j + 1 + 1)).fst.kind, iA (v8 b vs.length ars.length (j + 1 + 1)).fst.value, .tref 7, iA 0, .v (.slice none 0 0), .v (.slice none 0 0)], ag1 b vs ars j] [(6, .ptr 5 0), (8, .ptr 6 0)] fun G => o9 (b0 (wp_seq (j5 G d7 [0, 1, 2, 3, 4, 5, 7] [V2 b vs ars j, dY b, dI vs, dI ars, dT bd, .box [iA (nm b j J3), iA (pk b (j + 1) (vs.length : Int)), iA 0, iA 0, .v (.slice none 0 0), iA (v8 b vs.length ars.length (j + 1 + 1)).fst.kind, iA (v8 b vs.length ars.length (j + 1 + 1)).fst.value, .tref 6, iA 0, .v (.slice none 0 0), .v (.slice none 0 0)], ag1 b vs ars j] [(6, .ptr 5 0)] fun G => b0 (wp_ret ?_)))))))); obtain ⟨ρ, G⟩ := G.nilT 7 (.exprs []) [.box [.ref 1, iA (v8 b vs.length ars.length (j + 1 + 1)).snd], dY b, dI vs, dI ars, dT bd, .box [iA (nm b j J3), iA (pk b (j + 1) (vs.length : Int)), iA 0, iA 0, .tref 7, iA (v8 b vs.length ars.length (j + 1 + 1)).fst.kind, iA (v8 b vs.length ars.length (j + 1 + 1)).fst.value, .tref 6, iA 0, .v (.slice none 0 0), .v (.slice none 0 0)], .tree (D.exprs (v8 b vs.length ars.length (j + 1 + 1)).fst.kids)] [(6, .ptr 5 0)]; obtain ⟨ρ, G⟩ := G.nilT 8 (.stmts []) [.box [.ref 1, iA (v8 b vs.length ars.length (j + 1 + 1)).snd], dY b, dI vs, dI ars, dT bd, .box [iA (nm b j J3), iA (pk b (j + 1) (vs.length : Int)), iA 0, iA 0, .tref 7, iA (v8 b vs.length ars.length (j + 1 + 1)).fst.kind, iA (v8 b vs.length ars.length (j + 1 + 1)).fst.value, .tref 6, iA 0, .tref 8, .v (.slice none 0 0)], .tree (D.exprs (v8 b vs.length ars.length (j + 1 + 1)).fst.kids), .tree (D.exprs [])] [(6, .ptr 5 0)]; obtain ⟨ρ, G⟩ := G.nilT 9 (.stmts []) [.box [.ref 1, iA (v8 b vs.length ars.length (j + 1 + 1)).snd], dY b, dI vs, dI ars, dT bd, .box [iA (nm b j J3), iA (pk b (j + 1) (vs.length : Int)), iA 0, iA 0, .tref 7, iA (v8 b vs.length ars.length (j + 1 + 1)).fst.kind, iA (v8 b vs.length ars.length (j + 1 + 1)).fst.value, .tref 6, iA 0, .tref 8, .tref 9], .tree (D.exprs (v8 b vs.length ars.length (j + 1 + 1)).fst.kids), .tree (D.exprs []), .tree (D.stmts [])] [(6, .ptr 5 0)]; exact E0 (.agg [iA (nm b j J3), iA (pk b (j + 1) (vs.length : Int)), iA 0, iA 0, .tref 7, iA (v8 b vs.length ars.length (j + 1 + 1)).fst.kind, iA (v8 b vs.length ars.length (j + 1 + 1)).fst.value, .tref 6, iA 0, .tref 8, .tref 9]) G [0, 1, 2, 3, 4, 7, 6, 8, 9] (by show _ = AV.ren (nth [0, 1, 2, 3, 4, 7, 6, 8, 9]) (Q9 b vs ars d j); unfold Q9; have e1 : ((C1 b vs.length ars.length d j).fst.kind : Int) = (nm b j J3) := (by rw [ab1 (by omega) (by omega), bN5 (by omega)]; show (5 : Int) = _; omega); rw [e1, ab1 (by omega) (by omega), bN5 (by omega)] <;> rfl) (by show _ = mR [0, 1, 2, 3, 4, 7, 6, 8, 9] (Q8 b vs ars bd d j); unfold Q8; rw [ab1 (by omega) (by omega), bN5 (by omega)] <;> rfl)
     refine j5 G d7 (rg 8) (.box [.ref 1, iA (j + 1)] :: (P0 b vs ars bd [aH8])) (U0 []) fun G => b0 (wp_seq (j5 G (n4 4 [0, 1] (G5 b (j + 1) ((vs.length : Int)) (by omega) (by omega))) (rg 8) (.box [.ref 1, iA (j + 1 + 1)] :: (P0 b vs ars bd [a48 b vs j])) (U0 []) fun G => b0 (j5 G (n4 2 (rg 5) (Y6 b vs ars bd (j + 1 + 1) (by omega) (by omega))) [0, 1, 2, 3, 4, 6, 7, 24] [V2 b vs ars j, dY b, dI vs, dI ars, dT bd, aj4, a50 b vs ars j, ag1 b vs ars j] [(6, .ptr 5 0), (8, .ptr 6 0)] fun G => o9 (b0 (wp_seq (j5 G d7 [0, 1, 2, 3, 4, 5, 7] [V2 b vs ars j, dY b, dI vs, dI ars, dT bd, a49 b vs ars j, ag1 b vs ars j] [(6, .ptr 5 0)] fun G => b0 (wp_ret ?_))))))); obtain ⟨ρ, G⟩ := G.nilT 7 (.exprs []) (a38 b vs ars bd j []) [(6, .ptr 5 0)]; obtain ⟨ρ, G⟩ := G.nilT 8 (.stmts []) (a39 b vs ars bd j []) [(6, .ptr 5 0)]; obtain ⟨ρ, G⟩ := G.nilT 9 (.stmts []) (a40 b vs ars bd j []) [(6, .ptr 5 0)]; exact E0 (.agg [iA 1, iA (pk b (j + 1) (vs.length : Int)), iA 0, iA 0, .tref 7, iA (v8 b vs.length ars.length (j + 1 + 1)).fst.kind, iA (v8 b vs.length ars.length (j + 1 + 1)).fst.value, .tref 6, iA 0, .tref 8, .tref 9]) G [0, 1, 2, 3, 4, 7, 6, 8, 9] (by show _ = AV.ren (nth [0, 1, 2, 3, 4, 7, 6, 8, 9]) (Q9 b vs ars d j); unfold Q9; rw [ab1 (by omega) (by omega), aU3 (by omega)] <;> rfl) (by show _ = mR [0, 1, 2, 3, 4, 7, 6, 8, 9] (Q8 b vs ars bd d j); unfold Q8; rw [ab1 (by omega) (by omega), aU3 (by omega)] <;> rfl)
    have q2 := eq_of_beq h2; refine j3 G (y7 (fc h2 fz) [(3, 0), (4, 0), (1005, 0)]) [(79, bA (decide (n > 1)))] fun G => b0 (S9 G (fun h4 q4 => ?_) fun h4 q4 => ?_)
    ·
     refine wp_seq (wp_seq (A4 G d7 (U0 [(15, bA (nm b j J3 != 5))]) fun G => b0 ?_)); cases h5 : (nm b j J3 != 5)
     · have q5 := bne_eq_false_iff_eq.1 h5; exact False.elim (by omega)
     have q5 := bne_iff_ne.1 h5; refine rT G _ h5 (j5 G d7 (rg 8) (.box [.ref 1, iA (j + 1)] :: (P0 b vs ars bd [aH8])) (U0 []) fun G => b0 (wp_seq (j5 G (n4 4 [0, 1] (G5 b (j + 1) ((vs.length : Int)) (by omega) (by omega))) (rg 8) (.box [.ref 1, iA (j + 1 + 1)] :: (P0 b vs ars bd [a48 b vs j])) (U0 []) fun G => b0 (j5 G (n4 2 (rg 5) (Y6 b vs ars bd (j + 1 + 1) (by omega) (by omega))) [0, 1, 2, 3, 4, 6, 7, 24] [V2 b vs ars j, dY b, dI vs, dI ars, dT bd, aj4, a50 b vs ars j, ag1 b vs ars j] [(6, .ptr 5 0), (8, .ptr 6 0)] fun G => o9 (b0 (wp_seq (j5 G d7 [0, 1, 2, 3, 4, 5, 7] [V2 b vs ars j, dY b, dI vs, dI ars, dT bd, a49 b vs ars j, ag1 b vs ars j] [(6, .ptr 5 0)] fun G => b0 (wp_ret ?_)))))))); obtain ⟨ρ, G⟩ := G.nilT 7 (.exprs []) (a38 b vs ars bd j []) [(6, .ptr 5 0)]; obtain ⟨ρ, G⟩ := G.nilT 8 (.stmts []) (a39 b vs ars bd j []) [(6, .ptr 5 0)]; obtain ⟨ρ, G⟩ := G.nilT 9 (.stmts []) (a40 b vs ars bd j []) [(6, .ptr 5 0)]; exact E0 (.agg [iA 1, iA (pk b (j + 1) (vs.length : Int)), iA 0, iA 0, .tref 7, iA (v8 b vs.length ars.length (j + 1 + 1)).fst.kind, iA (v8 b vs.length ars.length (j + 1 + 1)).fst.value, .tref 6, iA 0, .tref 8, .tref 9]) G [0, 1, 2, 3, 4, 7, 6, 8, 9] (by show _ = AV.ren (nth [0, 1, 2, 3, 4, 7, 6, 8, 9]) (Q9 b vs ars d j); unfold Q9; rw [ab1 (by omega) (by omega), aU3 (by omega)] <;> rfl) (by show _ = mR [0, 1, 2, 3, 4, 7, 6, 8, 9] (Q8 b vs ars bd d j); unfold Q8; rw [ab1 (by omega) (by omega), aU3 (by omega)] <;> rfl)
    refine wp_seq (j5 G (n4 2 [0, 1, 16] (j1.lend (N8 b (j + 1) rcL (by simp [h0, h1, h2, h4]) (by omega) (by omega)) [.no, .no, .row 3])) (rg 8) (.box [.ref 1, iA (j + 1 + 1)] :: (P0 b vs ars bd [.box [iA (nm b j J3), iA 0, iA 0, iA 0, .v (.slice none 0 0), iA 0, iA 0, .v (.slice none 0 0), iA (nm b (j + 1) rcL), .v (.slice none 0 0), .v (.slice none 0 0)]])) (aj1 n [(8, .ptr 7 0)]) fun G => b0 (B2 G (x8 (m8 6 [0, 1, 48] (j1.lend (N8 b (j + 1 + 1) rbL (by simp [h0, h1, h2, h4]) (by omega) (by omega)) [.no, .no, .row 3]) (m8 7 (rg 5) (ih (j + 1 + 1 + 1) (n - 1) (nm b (j + 1 + 1) rbL) (by omega) (by omega) (by omega) (by omega) (by omega) (by omega)) x7)) fz []) [0, 0, 0, 4, 0, 0, 48, 127, 255, 511] [0, 1, 2, 3, 4, 6, 7, 64] (aO1 b vs ars d j [dT bd, aj4, .box [iA (nm b j J3), iA 0, iA 0, iA 0, .v (.slice none 0 0), iA 0, iA 0, .v (.slice none 0 0), iA (nm b (j + 1) rcL), .tref 7, .v (.slice none 0 0)], .tree (D.stmts (G0 (C1 b vs.length ars.length (d - 1)) (nm b (j + 1 + 1) rbL).toNat (j + 1 + 1 + 1)).fst)]) [(6, .ptr 5 0), (8, .ptr 6 0)] [wO (n - 1)] (o1 (by omega)) fun G => o9 (b0 (wp_seq (j5 G d7 [0, 1, 2, 3, 4, 5, 7] (aO1 b vs ars d j [dT bd, .box [iA (nm b j J3), iA 0, iA 0, iA 0, .v (.slice none 0 0), iA 0, iA 0, .v (.slice none 0 0), iA (nm b (j + 1) rcL), .tref 6, .v (.slice none 0 0)], .tree (D.stmts (G0 (C1 b vs.length ars.length (d - 1)) (nm b (j + 1 + 1) rbL).toNat (j + 1 + 1 + 1)).fst)]) [(6, .ptr 5 0)] fun G => b0 (wp_ret ?_)))))); obtain ⟨ρ, G⟩ := G.nilT 7 (.exprs []) (aO1 b vs ars d j [dT bd, .box [iA (nm b j J3), iA 0, iA 0, iA 0, .tref 7, iA 0, iA 0, .v (.slice none 0 0), iA (nm b (j + 1) rcL), .tref 6, .v (.slice none 0 0)], .tree (D.stmts (G0 (C1 b vs.length ars.length (d - 1)) (nm b (j + 1 + 1) rbL).toNat (j + 1 + 1 + 1)).fst)]) [(6, .ptr 5 0)]; obtain ⟨ρ, G⟩ := G.nilT 8 (.exprs []) (aO1 b vs ars d j [dT bd, .box [iA (nm b j J3), iA 0, iA 0, iA 0, .tref 7, iA 0, iA 0, .tref 8, iA (nm b (j + 1) rcL), .tref 6, .v (.slice none 0 0)], .tree (D.stmts (G0 (C1 b vs.length ars.length (d - 1)) (nm b (j + 1 + 1) rbL).toNat (j + 1 + 1 + 1)).fst), .tree (D.exprs [])]) [(6, .ptr 5 0)]; obtain ⟨ρ, G⟩ := G.nilT 9 (.stmts []) (aO1 b vs ars d j [dT bd, .box [iA (nm b j J3), iA 0, iA 0, iA 0, .tref 7, iA 0, iA 0, .tref 8, iA (nm b (j + 1) rcL), .tref 6, .tref 9], .tree (D.stmts (G0 (C1 b vs.length ars.length (d - 1)) (nm b (j + 1 + 1) rbL).toNat (j + 1 + 1 + 1)).fst), .tree (D.exprs []), .tree (D.exprs [])]) [(6, .ptr 5 0)]; exact E0 (.agg [iA (nm b j J3), iA 0, iA 0, iA 0, .tref 7, iA 0, iA 0, .tref 8, iA (nm b (j + 1) rcL), .tref 6, .tref 9]) G [0, 1, 2, 3, 4, 7, 8, 6, 9] (by show _ = AV.ren (nth [0, 1, 2, 3, 4, 7, 8, 6, 9]) (Q9 b vs ars d j); unfold Q9; have e1 : ((C1 b vs.length ars.length d j).fst.kind : Int) = (nm b j J3) := (by rw [aX8 (by omega) (by omega)]; show (4 : Int) = _; omega); rw [e1, aX8 (by omega) (by omega)] <;> rfl) (by show _ = mR [0, 1, 2, 3, 4, 7, 8, 6, 9] (Q8 b vs ars bd d j); unfold Q8; rw [aX8 (by omega) (by omega)] <;> rfl)
   have q1 := eq_of_beq h1; refine A4 G (y7 (fc h1 fz) [(3, 0), (4, 0), (1005, 0)]) (aj1 n [(7, iA (nm b j J3)), (8, .ptr 7 0), (50, bA (decide (n > 1)))]) fun G => b0 (S9 G (fun h6 q6 => ?_) fun h6 q6 => ?_)
   ·
    refine wp_seq ?_; cases h7 : (nm b j J3 == 4)
    ·
     have q7 := ne_of_beq_false h7; refine j3 G (y7 (fc h7 fz) [(3, 0), (4, 0), (1005, 0)]) [(79, bA false)] fun G => b0 (rF G false (by kernel_rfl) (wp_seq (wp_seq (A4 G d7 (U0 [(15, bA (nm b j J3 != 5))]) fun G => b0 ?_)))); cases h8 : (nm b j J3 != 5)
     · have q8 := bne_eq_false_iff_eq.1 h8; exact False.elim (by omega)
     have q8 := bne_iff_ne.1 h8; refine rT G _ h8 (j5 G d7 (rg 8) (.box [.ref 1, iA (j + 1)] :: (P0 b vs ars bd [aH8])) (U0 []) fun G => b0 (wp_seq (j5 G (n4 4 [0, 1] (G5 b (j + 1) ((vs.length : Int)) (by omega) (by omega))) (rg 8) (.box [.ref 1, iA (j + 1 + 1)] :: (P0 b vs ars bd [a48 b vs j])) (U0 []) fun G => b0 (j5 G (n4 2 (rg 5) (Y6 b vs ars bd (j + 1 + 1) (by omega) (by omega))) [0, 1, 2, 3, 4, 6, 7, 24] [V2 b vs ars j, dY b, dI vs, dI ars, dT bd, aj4, a50 b vs ars j, ag1 b vs ars j] [(6, .ptr 5 0), (8, .ptr 6 0)] fun G => o9 (b0 (wp_seq (j5 G d7 [0, 1, 2, 3, 4, 5, 7] [V2 b vs ars j, dY b, dI vs, dI ars, dT bd, a49 b vs ars j, ag1 b vs ars j] [(6, .ptr 5 0)] fun G => b0 (wp_ret ?_)))))))); obtain ⟨ρ, G⟩ := G.nilT 7 (.exprs []) (a38 b vs ars bd j []) [(6, .ptr 5 0)]; obtain ⟨ρ, G⟩ := G.nilT 8 (.stmts []) (a39 b vs ars bd j []) [(6, .ptr 5 0)]; obtain ⟨ρ, G⟩ := G.nilT 9 (.stmts []) (a40 b vs ars bd j []) [(6, .ptr 5 0)]; exact E0 (.agg [iA 1, iA (pk b (j + 1) (vs.length : Int)), iA 0, iA 0, .tref 7, iA (v8 b vs.length ars.length (j + 1 + 1)).fst.kind, iA (v8 b vs.length ars.length (j + 1 + 1)).fst.value, .tref 6, iA 0, .tref 8, .tref 9]) G [0, 1, 2, 3, 4, 7, 6, 8, 9] (by show _ = AV.ren (nth [0, 1, 2, 3, 4, 7, 6, 8, 9]) (Q9 b vs ars d j); unfold Q9; rw [ab1 (by omega) (by omega), aU3 (by omega)] <;> rfl) (by show _ = mR [0, 1, 2, 3, 4, 7, 6, 8, 9] (Q8 b vs ars bd d j); unfold Q8; rw [ab1 (by omega) (by omega), aU3 (by omega)] <;> rfl)
    have q7 := eq_of_beq h7; exact False.elim (by omega)
   refine wp_seq (j5 G (n4 2 (rg 5) (Y6 b vs ars bd (j + 1) (by omega) (by omega))) [0, 1, 2, 3, 4, 5, 6, 7, 24] (.box [.ref 1, iA (v8 b vs.length ars.length (j + 1)).snd] :: (P0 b vs ars bd [.box [iA (nm b j J3), iA 0, iA 0, iA 0, .v (.slice none 0 0), iA (v8 b vs.length ars.length (j + 1)).fst.kind, iA (v8 b vs.length ars.length (j + 1)).fst.value, .tref 8, iA 0, .v (.slice none 0 0), .v (.slice none 0 0)], .tree (D.exprs (v8 b vs.length ars.length (j + 1)).fst.kids)])) (aj1 n [(8, .ptr 7 0)]) fun G => b0 (wp_seq (B2 G (x8 (m8 6 [0, 1, 49] (j1.lend (N8 b ((v8 b vs.length ars.length (j + 1)).snd) ibL (by simp [h0, h1, h6]) (by omega) (by omega)) [.no, .no, .row 3]) (m8 7 (rg 5) (ih ((v8 b vs.length ars.length (j + 1)).snd + 1) (n - 1) (nm b (v8 b vs.length ars.length (j + 1)).snd ibL) (by omega) (by omega) (by omega) (by omega) (by omega) (by omega)) x7)) fz []) [0, 0, 0, 4, 0, 0, 48, 127, 255, 511] [0, 1, 2, 3, 4, 5, 6, 7, 8, 65] (.box [.ref 1, iA (aE2 b vs ars d j).snd] :: (P0 b vs ars bd [.box [iA (nm b j J3), iA 0, iA 0, iA 0, .v (.slice none 0 0), iA (v8 b vs.length ars.length (j + 1)).fst.kind, iA (v8 b vs.length ars.length (j + 1)).fst.value, .tref 8, iA 0, .tref 9, .v (.slice none 0 0)], .tree (D.exprs (v8 b vs.length ars.length (j + 1)).fst.kids), .tree (D.stmts (aE2 b vs ars d j).fst)])) (aj1 n [(8, .ptr 7 0)]) [wO (n - 1)] (o1 (by omega)) fun G => b0 (B2 G (x8 (m8 6 [0, 1, 50] (j1.lend (N8 b ((G0 (C1 b vs.length ars.length (d - 1)) (nm b (v8 b vs.length ars.length (j + 1)).snd ibL).toNat ((v8 b vs.length ars.length (j + 1)).snd + 1)).snd) ieL (by simp [h0, h1, h6]) (by omega) (by omega)) [.no, .no, .row 3]) (m8 7 (rg 5) (ih ((G0 (C1 b vs.length ars.length (d - 1)) (nm b (v8 b vs.length ars.length (j + 1)).snd ibL).toNat ((v8 b vs.length ars.length (j + 1)).snd + 1)).snd + 1) (n - 1) (nm b (G0 (C1 b vs.length ars.length (d - 1)) (nm b (v8 b vs.length ars.length (j + 1)).snd ibL).toNat ((v8 b vs.length ars.length (j + 1)).snd + 1)).snd ieL) (by omega) (by omega) (by omega) (by omega) (by omega) (by omega)) x7)) fz []) [0, 0, 0, 4, 0, 0, 48, 127, 255, 511] [0, 1, 2, 3, 4, 6, 7, 8, 9, 66] [.box [.ref 1, iA (a52 b vs ars d j).snd], dY b, dI vs, dI ars, dT bd, aj4, .box [iA (nm b j J3), iA 0, iA 0, iA 0, .v (.slice none 0 0), iA (v8 b vs.length ars.length (j + 1)).fst.kind, iA (v8 b vs.length ars.length (j + 1)).fst.value, .tref 7, iA 0, .tref 8, .tref 9], .tree (D.exprs (v8 b vs.length ars.length (j + 1)).fst.kids), .tree (D.stmts (aE2 b vs ars d j).fst), .tree (D.stmts (a52 b vs ars d j).fst)] [(6, .ptr 5 0), (8, .ptr 6 0)] [wO (n - 1)] (o1 (by omega)) fun G => o9 (b0 (wp_seq (j5 G d7 [0, 1, 2, 3, 4, 5, 7, 8, 9] [.box [.ref 1, iA (a52 b vs ars d j).snd], dY b, dI vs, dI ars, dT bd, .box [iA (nm b j J3), iA 0, iA 0, iA 0, .v (.slice none 0 0), iA (v8 b vs.length ars.length (j + 1)).fst.kind, iA (v8 b vs.length ars.length (j + 1)).fst.value, .tref 6, iA 0, .tref 7, .tref 8], .tree (D.exprs (v8 b vs.length ars.length (j + 1)).fst.kids), .tree (D.stmts (aE2 b vs ars d j).fst), .tree (D.stmts (a52 b vs ars d j).fst)] [(6, .ptr 5 0)] fun G => b0 (wp_ret ?_)))))))); obtain ⟨ρ, G⟩ := G.nilT 9 (.exprs []) [.box [.ref 1, iA (G0 (C1 b vs.length ars.length (d - 1)) (nm b (G0 (C1 b vs.length ars.length (d - 1)) (nm b (v8 b vs.length ars.length (j + 1)).snd ibL).toNat ((v8 b vs.length ars.length (j + 1)).snd + 1)).snd ieL).toNat ((G0 (C1 b vs.length ars.length (d - 1)) (nm b (v8 b vs.length ars.length (j + 1)).snd ibL).toNat ((v8 b vs.length ars.length (j + 1)).snd + 1)).snd + 1)).snd], dY b, dI vs, dI ars, dT bd, .box [iA (nm b j J3), iA 0, iA 0, iA 0, .tref 9, iA (v8 b vs.length ars.length (j + 1)).fst.kind, iA (v8 b vs.length ars.length (j + 1)).fst.value, .tref 6, iA 0, .tref 7, .tref 8], .tree (D.exprs (v8 b vs.length ars.length (j + 1)).fst.kids), .tree (D.stmts (G0 (C1 b vs.length ars.length (d - 1)) (nm b (v8 b vs.length ars.length (j + 1)).snd ibL).toNat ((v8 b vs.length ars.length (j + 1)).snd + 1)).fst), .tree (D.stmts (G0 (C1 b vs.length ars.length (d - 1)) (nm b (G0 (C1 b vs.length ars.length (d - 1)) (nm b (v8 b vs.length ars.length (j + 1)).snd ibL).toNat ((v8 b vs.length ars.length (j + 1)).snd + 1)).snd ieL).toNat ((G0 (C1 b vs.length ars.length (d - 1)) (nm b (v8 b vs.length ars.length (j + 1)).snd ibL).toNat ((v8 b vs.length ars.length (j + 1)).snd + 1)).snd + 1)).fst)] [(6, .ptr 5 0)]
   exact E0 (.agg [iA (nm b j J3), iA 0, iA 0, iA 0, .tref 9, iA (v8 b vs.length ars.length (j + 1)).fst.kind, iA (v8 b vs.length ars.length (j + 1)).fst.value, .tref 6, iA 0, .tref 7, .tref 8]) G [0, 1, 2, 3, 4, 9, 6, 7, 8] (by show _ = AV.ren (nth [0, 1, 2, 3, 4, 9, 6, 7, 8]) (Q9 b vs ars d j); unfold Q9; have e1 : ((C1 b vs.length ars.length d j).fst.kind : Int) = (nm b j J3) := (by rw [aX9 (by omega) (by omega)]; show (3 : Int) = _; omega); rw [e1, aX9 (by omega) (by omega)] <;> rfl) (by show _ = mR [0, 1, 2, 3, 4, 9, 6, 7, 8] (Q8 b vs ars bd d j); unfold Q8; rw [aX9 (by omega) (by omega)] <;> rfl)
  have q0 := eq_of_beq h0; refine A4 G (y7 (fc h0 fz) (us [(3, 6, 0), (1007, 1007, 0)])) (aj1 n [(7, iA (nm b j J3)), (8, .ptr 7 0), (27, bA (decide ((ars.length : Int) > 0)))]) fun G => b0 (S9 G (fun h9 q9 => ?_) fun h9 q9 => ?_)
  ·
   refine wp_seq ?_; cases h10 : (nm b j J3 == 3)
   ·
    have q10 := ne_of_beq_false h10; refine A4 G (y7 (fc h10 fz) [(3, 0), (4, 0), (1005, 0)]) (aj1 n [(7, iA (nm b j J3)), (8, .ptr 7 0), (50, bA false)]) fun G => b0 (rF G false (by kernel_rfl) (wp_seq ?_)); cases h11 : (nm b j J3 == 4)
    ·
     have q11 := ne_of_beq_false h11; refine j3 G (y7 (fc h11 fz) [(3, 0), (4, 0), (1005, 0)]) [(79, bA false)] fun G => b0 (rF G false (by kernel_rfl) (wp_seq (wp_seq (A4 G d7 (U0 [(15, bA (nm b j J3 != 5))]) fun G => b0 ?_)))); cases h12 : (nm b j J3 != 5)
     · have q12 := bne_eq_false_iff_eq.1 h12; exact False.elim (by omega)
     have q12 := bne_iff_ne.1 h12; refine rT G _ h12 (j5 G d7 (rg 8) (.box [.ref 1, iA (j + 1)] :: (P0 b vs ars bd [aH8])) (U0 []) fun G => b0 (wp_seq (j5 G (n4 4 [0, 1] (G5 b (j + 1) ((vs.length : Int)) (by omega) (by omega))) (rg 8) (.box [.ref 1, iA (j + 1 + 1)] :: (P0 b vs ars bd [a48 b vs j])) (U0 []) fun G => b0 (j5 G (n4 2 (rg 5) (Y6 b vs ars bd (j + 1 + 1) (by omega) (by omega))) [0, 1, 2, 3, 4, 6, 7, 24] [V2 b vs ars j, dY b, dI vs, dI ars, dT bd, aj4, a50 b vs ars j, ag1 b vs ars j] [(6, .ptr 5 0), (8, .ptr 6 0)] fun G => o9 (b0 (wp_seq (j5 G d7 [0, 1, 2, 3, 4, 5, 7] [V2 b vs ars j, dY b, dI vs, dI ars, dT bd, a49 b vs ars j, ag1 b vs ars j] [(6, .ptr 5 0)] fun G => b0 (wp_ret ?_)))))))); obtain ⟨ρ, G⟩ := G.nilT 7 (.exprs []) (a38 b vs ars bd j []) [(6, .ptr 5 0)]; obtain ⟨ρ, G⟩ := G.nilT 8 (.stmts []) (a39 b vs ars bd j []) [(6, .ptr 5 0)]; obtain ⟨ρ, G⟩ := G.nilT 9 (.stmts []) (a40 b vs ars bd j []) [(6, .ptr 5 0)]; exact E0 (.agg [iA 1, iA (pk b (j + 1) (vs.length : Int)), iA 0, iA 0, .tref 7, iA (v8 b vs.length ars.length (j + 1 + 1)).fst.kind, iA (v8 b vs.length ars.length (j + 1 + 1)).fst.value, .tref 6, iA 0, .tref 8, .tref 9]) G [0, 1, 2, 3, 4, 7, 6, 8, 9] (by show _ = AV.ren (nth [0, 1, 2, 3, 4, 7, 6, 8, 9]) (Q9 b vs ars d j); unfold Q9; rw [ab1 (by omega) (by omega), aU3 (by omega)] <;> rfl) (by show _ = mR [0, 1, 2, 3, 4, 7, 6, 8, 9] (Q8 b vs ars bd d j); unfold Q8; rw [ab1 (by omega) (by omega), aU3 (by omega)] <;> rfl)
    have q11 := eq_of_beq h11; exact False.elim (by omega)
   have q10 := eq_of_beq h10; exact False.elim (by omega)
  refine wp_seq (j5 G (n4 4 [0, 1] (G5 b (j + 1) ((ars.length : Int)) (by omega) (by omega))) (rg 8) (.box [.ref 1, iA (j + 1 + 1)] :: (P0 b vs ars bd [.box [iA (nm b j J3), iA (pk b (j + 1) (ars.length : Int)), iA 0, iA 0, .v (.slice none 0 0), iA 0, iA 0, .v (.slice none 0 0), iA 0, .v (.slice none 0 0), .v (.slice none 0 0)]])) (U0 []) fun G => b0 (wp_seq (j5 G (n4 2 (rg 5) (ap8 b (j + 1 + 1) vs ars bd (by omega) (by omega))) [0, 1, 2, 3, 4, 5, 6, 7, 24] (.box [.ref 1, iA (j + 1 + 1 + 2)] :: (P0 b vs ars bd [.box [iA (nm b j J3), iA (pk b (j + 1) (ars.length : Int)), iA (n9 b (vs.length : Int) (j + 1 + 1)).kind, iA (n9 b (vs.length : Int) (j + 1 + 1)).value, .tref 8, iA 0, iA 0, .v (.slice none 0 0), iA 0, .v (.slice none 0 0), .v (.slice none 0 0)], .tree (D.exprs (n9 b (vs.length : Int) (j + 1 + 1)).kids)])) (U0 []) fun G => b0 (j5 G (n4 2 (rg 5) (Y6 b vs ars bd (j + 1 + 1 + 2) (by omega) (by omega))) [0, 1, 2, 3, 4, 6, 7, 8, 25] (.box [.ref 1, iA (v8 b vs.length ars.length (j + 1 + 1 + 2)).snd] :: dY b :: dI vs :: dI ars :: dT bd :: aj4 :: .box [iA (nm b j J3), iA (pk b (j + 1) (ars.length : Int)), iA (n9 b (vs.length : Int) (j + 1 + 1)).kind, iA (n9 b (vs.length : Int) (j + 1 + 1)).value, .tref 7, iA (v8 b vs.length ars.length (j + 1 + 1 + 2)).fst.kind, iA (v8 b vs.length ars.length (j + 1 + 1 + 2)).fst.value, .tref 8, iA 0, .v (.slice none 0 0), .v (.slice none 0 0)] :: (a36 b vs ars j [])) [(6, .ptr 5 0), (8, .ptr 6 0)] fun G => o9 (b0 (wp_seq (j5 G d7 [0, 1, 2, 3, 4, 5, 7, 8] (.box [.ref 1, iA (v8 b vs.length ars.length (j + 1 + 1 + 2)).snd] :: dY b :: dI vs :: dI ars :: dT bd :: .box [iA (nm b j J3), iA (pk b (j + 1) (ars.length : Int)), iA (n9 b (vs.length : Int) (j + 1 + 1)).kind, iA (n9 b (vs.length : Int) (j + 1 + 1)).value, .tref 6, iA (v8 b vs.length ars.length (j + 1 + 1 + 2)).fst.kind, iA (v8 b vs.length ars.length (j + 1 + 1 + 2)).fst.value, .tref 7, iA 0, .v (.slice none 0 0), .v (.slice none 0 0)] :: (a36 b vs ars j [])) [(6, .ptr 5 0)] fun G => b0 (wp_ret ?_)))))))); obtain ⟨ρ, G⟩ := G.nilT 8 (.stmts []) (.box [.ref 1, iA (v8 b vs.length ars.length (j + 1 + 1 + 2)).snd] :: dY b :: dI vs :: dI ars :: dT bd :: .box [iA (nm b j J3), iA (pk b (j + 1) (ars.length : Int)), iA (n9 b (vs.length : Int) (j + 1 + 1)).kind, iA (n9 b (vs.length : Int) (j + 1 + 1)).value, .tref 6, iA (v8 b vs.length ars.length (j + 1 + 1 + 2)).fst.kind, iA (v8 b vs.length ars.length (j + 1 + 1 + 2)).fst.value, .tref 7, iA 0, .tref 8, .v (.slice none 0 0)] :: (a36 b vs ars j [])) [(6, .ptr 5 0)]; obtain ⟨ρ, G⟩ := G.nilT 9 (.stmts []) (.box [.ref 1, iA (v8 b vs.length ars.length (j + 1 + 1 + 2)).snd] :: dY b :: dI vs :: dI ars :: dT bd :: .box [iA (nm b j J3), iA (pk b (j + 1) (ars.length : Int)), iA (n9 b (vs.length : Int) (j + 1 + 1)).kind, iA (n9 b (vs.length : Int) (j + 1 + 1)).value, .tref 6, iA (v8 b vs.length ars.length (j + 1 + 1 + 2)).fst.kind, iA (v8 b vs.length ars.length (j + 1 + 1 + 2)).fst.value, .tref 7, iA 0, .tref 8, .tref 9] :: (a36 b vs ars j [.tree (D.stmts [])])) [(6, .ptr 5 0)]
  exact E0 (.agg [iA (nm b j J3), iA (pk b (j + 1) (ars.length : Int)), iA (n9 b (vs.length : Int) (j + 1 + 1)).kind, iA (n9 b (vs.length : Int) (j + 1 + 1)).value, .tref 6, iA (v8 b vs.length ars.length (j + 1 + 1 + 2)).fst.kind, iA (v8 b vs.length ars.length (j + 1 + 1 + 2)).fst.value, .tref 7, iA 0, .tref 8, .tref 9]) G [0, 1, 2, 3, 4, 6, 7, 8, 9] (by show _ = AV.ren (nth [0, 1, 2, 3, 4, 6, 7, 8, 9]) (Q9 b vs ars d j); unfold Q9; have e1 : ((C1 b vs.length ars.length d j).fst.kind : Int) = (nm b j J3) := (by rw [bj6 (by omega) (by omega)]; show (2 : Int) = _; omega); rw [e1, bj6 (by omega) (by omega)] <;> rfl) (by show _ = mR [0, 1, 2, 3, 4, 6, 7, 8, 9] (Q8 b vs ars bd d j); unfold Q8; rw [bj6 (by omega) (by omega)] <;> rfl)
theorem aV4 (b : List UInt8) (vs ars : List Int) (bd : List b5) (d : Nat) (h : ∀ (j n : Int), n = d -> 0 <= j -> j + cS d <= 600000000 -> j1.ok Tryz.prog (dsC b vs ars bd d j n)) (m : Nat) (j n c B : Int) (hn : n = d) (hm : c = m) (hm2 : m <= 4) (hB : (m : Int) * cS d <= B) (r0 : 0 <= j) (r1 : j + B <= 600000000) : j1.ok Tryz.prog (dbC b vs ars bd d m j n c) :=
 bw7 b vs ars bd d m h j n c hn hm hm2 B hB r0 r1
theorem bs1 (b : List UInt8) (vs ars : List Int) (bd : List b5) : ∀ (d : Nat), d <= 3 -> ∀ (j n : Int), n = d -> 0 <= j -> j + cS d <= 600000000 -> j1.ok Tryz.prog (dsC b vs ars bd d j n)
 | 0, hd, j, n, hn, r0, r1 => bk5 b vs ars bd 0 (by omega) (fun j n c h => absurd h (by omega)) j n hn r0 r1
 | d + 1, hd, j, n, hn, r0, r1 => bk5 b vs ars bd (d + 1) hd (fun j n c h hn h0 h2 r0 r1 => aV4 b vs ars bd d (bs1 b vs ars bd d (by omega)) c.toNat j n c (2 * cS d) (by omega) (by omega) (by omega) (bT7 h0 h2 (Int.le_trans (by decide) (as5 d))) r0 (by simpa using r1)) j n hn r0 r1
theorem bX4 : cS 3 = 34170 := by decide
theorem bO2 (b : List UInt8) (vs ars : List Int) (bd : List b5) (j n c : Int) (hn : n = 3) (h0 : 0 <= c) (h4 : c <= 4) (r0 : 0 <= j) (r1 : j <= 100000000) : j1.ok Tryz.prog (dbC b vs ars bd 3 c.toNat j n c) :=
 aV4 b vs ars bd 3 (bs1 b vs ars bd 3 (by omega)) c.toNat j n c (4 * cS 3) (by omega) (by omega) (by omega) (b15 h0 h4 (by rw [bX4]; decide)) r0 (by rw [bX4]; omega)
abbrev pgC (b : List UInt8) (j : Int) : j1 := ⟨42, [.ptr 0 0], [.box [.ref 1, iA j], dY b], [.box [.ref 1, iA (bdD b j).2], dY b] ++ oP (pgD b j), oA 2⟩
theorem a88 {b : List UInt8} {l : List Int} {n i p : Int} (h : i > 0) (h2 : i <= n) : nsD b l (n - (i - 1)).toNat p = nsD b l (n - i).toNat p ++ [nm b (p + (n - i)) l] := by
 rw [show (n - (i - 1)).toNat = (n - i).toNat + 1 by omega, bn0, show (((n - i).toNat : Nat) : Int) = n - i by omega]
theorem a87 {b : List UInt8} {l : List Int} {n p : Int} : nsD b l (n - n).toNat p = [] := by rw [Int.sub_self]; rfl
theorem at3 (vs ars : List Int) (bd : List b5) (hb : p9 bd <= 1048576) : j1.ok Tryz.prog (F9 14 [pA 0] [dI vs, dI ars, dT bd] (bA (o6 ⟨vs, ars, bd⟩))) := ad2 ⟨vs, ars, bd⟩ hb
theorem b11 {b : List UInt8} {j : Int} (h : o6 ⟨vsD b j, asD b j, (G0 (C1 b (vsD b j).length (asD b j).length 3) (nm b (kp2 b j) nbL).toNat (kp2 b j + 1)).1⟩ = true) : pgD b j = ⟨vsD b j, asD b j, (bdD b j).1⟩ := if_pos h
theorem b10 {b : List UInt8} {j : Int} (h : o6 ⟨vsD b j, asD b j, (G0 (C1 b (vsD b j).length (asD b j).length 3) (nm b (kp2 b j) nbL).toNat (kp2 b j + 1)).1⟩ = false) : pgD b j = fbP := if_neg (by intro h2; have h3 : o6 ⟨vsD b j, asD b j, (G0 (C1 b (vsD b j).length (asD b j).length 3) (nm b (kp2 b j) nbL).toNat (kp2 b j + 1)).1⟩ = true := h2; rw [h] at h3; cases h3)
theorem bT0 (b : List UInt8) (j : Int) : j + 1 + (nm b j nvL - 0) = H6 b j := by unfold H6; omega
theorem bS9 (b : List UInt8) (j : Int) : nsD b viL (nm b j nvL - 0).toNat (j + 1) = vsD b j := by unfold vsD; rw [Int.sub_zero]
theorem bS8 (b : List UInt8) (j : Int) : H6 b j + 1 + (nm b (H6 b j) X4 - 0) = kp2 b j := by unfold kp2; omega
theorem bS7 (b : List UInt8) (j : Int) : nsD b aiL (nm b (H6 b j) X4 - 0).toNat (H6 b j + 1) = asD b j := by unfold asD; rw [Int.sub_zero]
abbrev aq8 (b : List UInt8) (j : Int) := G0 (C1 b (vsD b j).length (asD b j).length 3) (nm b (kp2 b j) nbL).toNat (kp2 b j + 1)
abbrev a47 (b : List UInt8) (j : Int) : List It := [.box [.ref 1, iA (bdD b j).snd], dY b, .row 3 (D.ints (pgD b j).vars), .row 3 (D.ints (pgD b j).arrays), .tree (D.stmts (pgD b j).body)]
abbrev P1 : It := .box [.v (.slice none 0 0), .v (.slice none 0 0), .v (.slice none 0 0)]
abbrev aO6 : It := .box [.ref 4, .v (.slice none 0 0), .v (.slice none 0 0)]
abbrev bh5 : It := .tree (D.stmts [b5.mk 1 1 (b7.mk 0 0 []) (b7.mk 2 0 []) 0 [] []])
theorem ac9 (b : List UInt8) (j : Int) (r0 : 0 <= j) (r1 : j <= 10000000) : j1.ok Tryz.prog (pgC b j) := by
  refine D2 52 Tryz.func42 [.box [.ref 1, iA j], dY b] [(0, .ptr 0 0)] fun G => ?_; have hnv := bK4 b r0 (by omega); have hk1 := bo6 b r0 r1; have hk2 := bo5 b r0 r1; have hna := bL1 b (k := H6 b j) (by omega) (by omega); have hnb := bT6 b (k := kp2 b j) (by omega) (by omega); have hvl := bh7 b r0 r1; have hal := bu3 b r0 r1; have hbd := bu0 b r0 r1; have hbs : p9 (G0 (C1 b (vsD b j).length (asD b j).length 3) (nm b (kp2 b j) nbL).toNat (kp2 b j + 1)).1 <= 1048576 := b54 hbd.2.2 (by omega); refine wp_seq (j5 G d7 [0, 1, 2] [.box [.ref 1, iA j], dY b, P1] [(0, .ptr 0 0), (2, .ptr 2 0)] fun G => b0 (wp_seq (j5 G d7 [0, 1, 2, 11] [.box [.ref 1, iA j], dY b, P1, P1] [(0, .ptr 0 0), (2, .ptr 2 0), (3, .ptr 3 0)] fun G => b0 (wp_seq (wp_seq (j5 G (n4 2 [0, 1, 12] (j1.lend (N8 b j nvL (List.cons_ne_nil _ _) (by assumption) (by omega)) [.no, .no, .row 3])) (rg 4) [.box [.ref 1, iA (j + 1)], dY b, P1, P1] [(0, .ptr 0 0), (2, .ptr 2 0), (3, .ptr 3 0), (4, iA (nm b j nvL))] fun G => b0 (wp_block ?_))))))); have Gx := G.nil 4 3 (.ints []) 1 [.box [.ref 1, iA (j + 1)], dY b, P1, aO6] [(0, .ptr 0 0), (2, .ptr 2 0), (3, .ptr 3 0), (4, iA (nm b j nvL))]; clear G; obtain ⟨ρ, G⟩ := Gx; replace G := w6.at G [.box [.ref 1, iA (j + 1)], dY b, P1, aO6, .row 3 (D.ints [])] [(0, .ptr 0 0), (2, .ptr 2 0), (3, .ptr 3 0), (4, iA (nm b j nvL))]; replace G := G.as [.box [.ref 1, iA (j + 1 + (nm b j nvL - nm b j nvL))], dY b, .box [.v (.slice none 0 0), .v (.slice none 0 0), .v (.slice none 0 0)], .box [.ref 4, .v (.slice none 0 0), .v (.slice none 0 0)], .row 3 (D.ints (nsD b viL (nm b j nvL - nm b j nvL).toNat (j + 1)))] [(0, .ptr 0 0), (2, .ptr 2 0), (3, .ptr 3 0), (4, iA (nm b j nvL))] (by have e1 : (j + 1 + (nm b j nvL - nm b j nvL) : Int) = (j + 1) := (by omega); have e2 : (nsD b viL (nm b j nvL - nm b j nvL).toNat (j + 1) : List Int) = ([]) := a87; (first | rw [e1, e2] | simp only [e1, e2]) <;> rfl) (by kernel_rfl); refine x4 (κ := Int) (fun i => 0 <= i /\ i <= nm b j nvL) (fun i => i.toNat) (fun i => [.box [.ref 1, iA (j + 1 + (nm b j nvL - i))], dY b, .box [.v (.slice none 0 0), .v (.slice none 0 0), .v (.slice none 0 0)], .box [.ref 4, .v (.slice none 0 0), .v (.slice none 0 0)], .row 3 (.ints (nsD b viL (nm b j nvL - i).toNat (j + 1)))]) (fun i => [(0, .ptr 0 0), (2, .ptr 2 0), (3, .ptr 3 0), (4, iA i)]) (nm b j nvL) (by omega) (w6.at G _ _) ?_; clear G; intro i ρ a w hp G; replace G := w6.at G [.box [.ref 1, iA (j + 1 + (nm b j nvL - i))], dY b, P1, aO6, .row 3 (D.ints (nsD b viL (nm b j nvL - i).toNat (j + 1)))] [(0, .ptr 0 0), (2, .ptr 2 0), (3, .ptr 3 0), (4, iA i)]; have hlen : (nsD b viL (nm b j nvL - i).toNat (j + 1)).length = (nm b j nvL - i).toNat := ae2 _ _ _ _; refine wp_seq (wp_seq (A4 G d7 [(0, .ptr 0 0), (2, .ptr 2 0), (3, .ptr 3 0), (4, iA i), (11, bA (decide (i > 0)))] fun G => b0 ?_)); cases h0 : (decide (i > 0))
  ·
   have q0 := L3 h0
   obtain rfl : i = 0 := by omega
   rw [bT0, bS9] at G; refine rF G false (by kernel_rfl) (wp_exit (p8 (p8 (p7 (b0 (wp_seq (wp_seq (j5 G (n4 2 [0, 1, 13] (j1.lend (N8 b (H6 b j) X4 (by simp [h0]) (by omega) (by omega)) [.no, .no, .row 3])) (rg 5) [.box [.ref 1, iA (H6 b j + 1)], dY b, P1, aO6, .row 3 (D.ints (vsD b j))] [(0, .ptr 0 0), (2, .ptr 2 0), (3, .ptr 3 0), (5, iA (nm b (H6 b j) X4))] fun G => b0 (wp_block ?_))))))))); have Gx := G.nil 5 3 (.ints []) 1 [.box [.ref 1, iA (H6 b j + 1)], dY b, P1, .box [.ref 4, .ref 5, .v (.slice none 0 0)], .row 3 (D.ints (vsD b j))] [(0, .ptr 0 0), (2, .ptr 2 0), (3, .ptr 3 0), (5, iA (nm b (H6 b j) X4))]; clear G; obtain ⟨ρ, G⟩ := Gx; replace G := w6.at G [.box [.ref 1, iA (H6 b j + 1)], dY b, P1, .box [.ref 4, .ref 5, .v (.slice none 0 0)], .row 3 (D.ints (vsD b j)), .row 3 (D.ints [])] [(0, .ptr 0 0), (2, .ptr 2 0), (3, .ptr 3 0), (5, iA (nm b (H6 b j) X4))]; have Gx := G.nilT 6 (.stmts []) [.box [.ref 1, iA (H6 b j + 1)], dY b, P1, .box [.ref 4, .ref 5, .tref 6], .row 3 (D.ints (vsD b j)), .row 3 (D.ints [])] [(0, .ptr 0 0), (2, .ptr 2 0), (3, .ptr 3 0), (5, iA (nm b (H6 b j) X4))]; clear G; obtain ⟨ρ, G⟩ := Gx; replace G := w6.at G [.box [.ref 1, iA (H6 b j + 1)], dY b, P1, .box [.ref 4, .ref 5, .tref 6], .row 3 (D.ints (vsD b j)), .row 3 (D.ints []), .tree (D.stmts [])] [(0, .ptr 0 0), (2, .ptr 2 0), (3, .ptr 3 0), (5, iA (nm b (H6 b j) X4))]; replace G := G.as [.box [.ref 1, iA (H6 b j + 1 + (nm b (H6 b j) X4 - nm b (H6 b j) X4))], dY b, .box [.v (.slice none 0 0), .v (.slice none 0 0), .v (.slice none 0 0)], .box [.ref 4, .ref 5, .tref 6], .row 3 (D.ints (vsD b j)), .row 3 (D.ints (nsD b aiL (nm b (H6 b j) X4 - nm b (H6 b j) X4).toNat (H6 b j + 1))), .tree (D.stmts [])] [(0, .ptr 0 0), (2, .ptr 2 0), (3, .ptr 3 0), (5, iA (nm b (H6 b j) X4))] (by have e1 : (H6 b j + 1 + (nm b (H6 b j) X4 - nm b (H6 b j) X4) : Int) = (H6 b j + 1) := (by omega); have e2 : (nsD b aiL (nm b (H6 b j) X4 - nm b (H6 b j) X4).toNat (H6 b j + 1) : List Int) = ([]) := a87; (first | rw [e1, e2] | simp only [e1, e2]) <;> rfl) (by kernel_rfl); refine x4 (κ := Int) (fun i2 => 0 <= i2 /\ i2 <= nm b (H6 b j) X4) (fun i2 => i2.toNat) (fun i2 => [.box [.ref 1, iA (H6 b j + 1 + (nm b (H6 b j) X4 - i2))], dY b, .box [.v (.slice none 0 0), .v (.slice none 0 0), .v (.slice none 0 0)], .box [.ref 4, .ref 5, .tref 6], .row 3 (D.ints (vsD b j)), .row 3 (.ints (nsD b aiL (nm b (H6 b j) X4 - i2).toNat (H6 b j + 1))), .tree (D.stmts [])]) (fun i2 => [(0, .ptr 0 0), (2, .ptr 2 0), (3, .ptr 3 0), (5, iA i2)]) (nm b (H6 b j) X4) (by omega) (w6.at G _ _) ?_; clear G; intro i2 ρ a w hp G; replace G := w6.at G [.box [.ref 1, iA (H6 b j + 1 + (nm b (H6 b j) X4 - i2))], dY b, P1, .box [.ref 4, .ref 5, .tref 6], .row 3 (D.ints (vsD b j)), .row 3 (D.ints (nsD b aiL (nm b (H6 b j) X4 - i2).toNat (H6 b j + 1))), .tree (D.stmts [])] [(0, .ptr 0 0), (2, .ptr 2 0), (3, .ptr 3 0), (5, iA i2)]; have hlen : (nsD b aiL (nm b (H6 b j) X4 - i2).toNat (H6 b j + 1)).length = (nm b (H6 b j) X4 - i2).toNat := ae2 _ _ _ _; refine wp_seq (wp_seq (A4 G d7 [(0, .ptr 0 0), (2, .ptr 2 0), (3, .ptr 3 0), (5, iA i2), (26, bA (decide (i2 > 0)))] fun G => b0 ?_)); cases h1 : (decide (i2 > 0))
   ·
    have q1 := L3 h1
    obtain rfl : i2 = 0 := by omega
    rw [bS8, bS7] at G; refine rF G false (by kernel_rfl) (wp_exit (p8 (p8 (p7 (b0 (wp_seq (ab6 G (x8 (m8 4 [0, 1, 31] (j1.lend (N8 b (kp2 b j) nbL (by simp [h0, h1]) (by omega) (by omega)) [.no, .no, .row 3]) (m8 5 [0, 1, 4, 5, 6] (j1.lend (bO2 b (vsD b j) (asD b j) ([]) (kp2 b j + 1) 3 (nm b (kp2 b j) nbL) (by kernel_rfl) (by omega) (by omega) (by omega) (by omega)) [.no, .no, .row 3, .row 3, .tree]) x7)) fz []) [0, 0, 0, 0, 12, 31, 63, 127] [0, 1, 2, 3, 4, 5, 47] [.box [.ref 1, iA (aq8 b j).snd], dY b, P1, .box [.ref 4, .ref 5, .tref 6], .row 3 (D.ints (vsD b j)), .row 3 (D.ints (asD b j)), .tree (D.stmts (aq8 b j).fst)] [(2, .ptr 2 0), (3, .ptr 3 0)] fun G => b0 (wp_seq (wp_seq (j3 G (n4 1 [4, 5, 6] (j1.lend (at3 (vsD b j) (asD b j) ((G0 (C1 b (vsD b j).length (asD b j).length 3) (nm b (kp2 b j) nbL).toNat (kp2 b j + 1)).fst) (by assumption)) [.row 3, .row 3, .tree])) [(45, bA (o6 (j0.mk (vsD b j) (asD b j) (aq8 b j).fst)))] fun G => b0 (rcB (b := o6 (j0.mk (vsD b j) (asD b j) (G0 (C1 b (vsD b j).length (asD b j).length (3 : Nat)) (nm b (kp2 b j) nbL).toNat (kp2 b j + 1)).fst)) G (fun h2 => ?_) fun h2 => ?_)))))))))))
    · refine wp_skip (b0 (wp_seq (j5 G d7 [0, 1, 2, 7, 31] [.box [.ref 1, iA (aq8 b j).snd], dY b, .box [.ref 3, .v (.slice none 0 0), .tref 4], .row 3 (D.ints ([0] ++ ([1] ++ []))), bh5] [(2, .ptr 2 0)] fun G => b0 (wp_ret ?_)))); have Gx := G.nil 5 3 (.ints []) 1 [.box [.ref 1, iA (aq8 b j).snd], dY b, .box [.ref 3, .ref 5, .tref 4], .row 3 (D.ints ([0] ++ ([1] ++ []))), bh5] [(2, .ptr 2 0)]; clear G; obtain ⟨ρ, G⟩ := Gx; replace G := w6.at G [.box [.ref 1, iA (aq8 b j).snd], dY b, .box [.ref 3, .ref 5, .tref 4], .row 3 (D.ints ([0] ++ ([1] ++ []))), bh5, .row 3 (D.ints [])] [(2, .ptr 2 0)]; exact H9 G [0, 1, 3, 5, 4] (by show _ = mR [0, 1, 3, 5, 4] (a47 b j); unfold a47; rw [b10 (by with_reducible assumption)] <;> rfl)
    refine wp_seq (j5 G d7 [0, 1, 2, 4, 5, 6] [.box [.ref 1, iA (aq8 b j).snd], dY b, .box [.ref 3, .ref 4, .tref 5], .row 3 (D.ints (vsD b j)), .row 3 (D.ints (asD b j)), .tree (D.stmts (aq8 b j).fst)] [(2, .ptr 2 0)] fun G => b0 (wp_ret (j2 ?_))); exact H9 G [0, 1, 3, 4, 5] (by show _ = mR [0, 1, 3, 4, 5] (a47 b j); unfold a47; rw [b11 (by with_reducible assumption)] <;> rfl)
   have q1 := L2 h1; refine rT G _ h1 (wp_skip (b0 (wp_seq (wp_block (B2 G (n4 4 [0, 1, 31] (j1.lend (N8 b (H6 b j + 1 + (nm b (H6 b j) X4 - i2)) aiL (by simp [h0, h1]) (by omega) (by omega)) [.no, .no, .row 3])) [0, 1, 0, 0, 12, 28, 63, 127, 255] [0, 1, 2, 3, 4, 6, 55] [.box [.ref 1, iA (H6 b j + 1 + (nm b (H6 b j) X4 - i2) + 1)], dY b, P1, .box [.ref 4, .ref 6, .tref 5], .row 3 (D.ints (vsD b j)), .tree (D.stmts []), .row 3 (D.ints (nsD b aiL (nm b (H6 b j) X4 - i2).toNat (H6 b j + 1) ++ ([nm b (H6 b j + 1 + (nm b (H6 b j) X4 - i2)) aiL] ++ [])))] [(0, .ptr 0 0), (2, .ptr 2 0), (3, .ptr 3 0), (5, iA i2)] (aP ((nsD b aiL (nm b (H6 b j) X4 - i2).toNat (H6 b j + 1)).length + ([nm b (H6 b j + 1 + (nm b (H6 b j) X4 - i2)) aiL] ++ []).length) 8 []) (aK (by simp only [b69, b58, b60, ae2]; omega) b70) fun G => o9 (b0 (G7 G d7 [(5, iA (i2 - 1))] [wO (i2 - 1)] (o1 (by omega)) fun G => b0 ?_))))))); exact Z9 G (i2 - 1) (by omega) (by omega) [0, 1, 2, 3, 4, 6, 5] (by have e1 : (H6 b j + 1 + (nm b (H6 b j) X4 - (i2 - 1)) : Int) = (H6 b j + 1 + (nm b (H6 b j) X4 - i2) + 1) := (by omega); have e2 : (nsD b aiL (nm b (H6 b j) X4 - (i2 - 1)).toNat (H6 b j + 1) : List Int) = (nsD b aiL (nm b (H6 b j) X4 - i2).toNat (H6 b j + 1) ++ ([nm b (H6 b j + 1 + (nm b (H6 b j) X4 - i2)) aiL] ++ [])) := (a88 (by omega) (by omega)); (first | rw [e1, e2] | simp only [e1, e2]) <;> rfl)
  have q0 := L2 h0; refine rT G _ h0 (wp_skip (b0 (wp_seq (wp_block (B2 G (n4 4 [0, 1, 29] (j1.lend (N8 b (j + 1 + (nm b j nvL - i)) viL (by simp [h0]) (by omega) (by omega)) [.no, .no, .row 3])) [0, 1, 0, 0, 12, 28, 63, 127, 255] [0, 1, 2, 3, 53] [.box [.ref 1, iA (j + 1 + (nm b j nvL - i) + 1)], dY b, P1, aO6, .row 3 (D.ints (nsD b viL (nm b j nvL - i).toNat (j + 1) ++ ([nm b (j + 1 + (nm b j nvL - i)) viL] ++ [])))] [(0, .ptr 0 0), (2, .ptr 2 0), (3, .ptr 3 0), (4, iA i)] (aP ((nsD b viL (nm b j nvL - i).toNat (j + 1)).length + ([nm b (j + 1 + (nm b j nvL - i)) viL] ++ []).length) 8 []) (aK (by simp only [b69, b58, b60, ae2]; omega) b70) fun G => o9 (b0 (G7 G d7 [(4, iA (i - 1))] [wO (i - 1)] (o1 (by omega)) fun G => b0 ?_))))))); exact Z9 G (i - 1) (by omega) (by omega) (rg 5) (by have e1 : (j + 1 + (nm b j nvL - (i - 1)) : Int) = (j + 1 + (nm b j nvL - i) + 1) := (by omega); have e2 : (nsD b viL (nm b j nvL - (i - 1)).toNat (j + 1) : List Int) = (nsD b viL (nm b j nvL - i).toNat (j + 1) ++ ([nm b (j + 1 + (nm b j nvL - i)) viL] ++ [])) := (a88 (by omega) (by omega)); (first | rw [e1, e2] | simp only [e1, e2]) <;> rfl)
abbrev mtC (b : List UInt8) (p : j0) (j : Int) : j1 := ⟨56, [.ptr 0 0, pA 2], [.box [.ref 1, iA j], dY b] ++ pS p, [.box [.ref 1, iA (mtD b p j).2], dY b] ++ pS p ++ oP (mtD b p j).1, oA 5⟩
section
variable {b : List UInt8} {p : j0} {j : Int}
theorem b16 (h : pk b j 60 = 0) (h1 : (p.vars.length : Int) > 0) : mtD b p j = (⟨p.vars.set 0 (l1D b (j + 1)), p.arrays, p.body⟩, j + 1 + 2) := by
 rw [mtD, if_pos h, if_pos (by omega)]
theorem b17 (h : pk b j 60 = 1) : mtD b p j = (⟨p.vars ++ b77 (13 - p.vars.length) 1, p.arrays, p.body⟩, j + 1) := by
 rw [mtD, if_neg (by omega), if_pos h]
theorem b22 (h : pk b j 60 = 2) (h1 : (p.body.length : Int) > 0) : mtD b p j = (⟨p.vars, p.arrays, p.body.set 0 (kdS (p.body.getD 0 b55) (nm b (j + 1) m2L))⟩, j + 1 + 1) := by
 rw [mtD, if_neg (by omega), if_neg (by omega), if_pos h, if_pos (by omega)]
theorem b21 (h : pk b j 60 = 3) (h1 : (p.body.length : Int) > 0) : mtD b p j = (⟨p.vars, p.arrays, p.body.set ((p.body.length : Int) - 1).toNat (tgS (p.body.getD ((p.body.length : Int) - 1).toNat b55) (nm b (j + 1) m3L))⟩, j + 1 + 1) := by
 rw [mtD, if_neg (by omega), if_neg (by omega), if_neg (by omega), if_pos h, if_pos (by omega)]
theorem b20 (h : pk b j 60 = 4) (h1 : (p.body.length : Int) > 0) : mtD b p j = (⟨p.vars, p.arrays, p.body.set 0 (vvS (p.body.getD 0 b55) (nm b (j + 1) m4L))⟩, j + 1 + 1) := by
 rw [mtD, if_neg (by omega), if_neg (by omega), if_neg (by omega), if_neg (by omega), if_pos h, if_pos (by omega)]
theorem b19 (h : pk b j 60 = 5) (h1 : (p.body.length : Int) > 0) : mtD b p j = (⟨p.vars, p.arrays, p.body.set 0 (ctS (p.body.getD 0 b55) (nm b (j + 1) m5L))⟩, j + 1 + 1) := by
 rw [mtD, if_neg (by omega), if_neg (by omega), if_neg (by omega), if_neg (by omega), if_neg (by omega), if_pos h, if_pos (by omega)]
theorem b18 (h : pk b j 60 = 6) : mtD b p j = (⟨[], [], []⟩, j + 1) := by
 rw [mtD, if_neg (by omega), if_neg (by omega), if_neg (by omega), if_neg (by omega), if_neg (by omega), if_neg (by omega), if_pos h]
theorem bd2 (h : (pk b j 60 = 0 /\ ¬ (p.vars.length : Int) > 0) \/ ((pk b j 60 = 2 \/ pk b j 60 = 3 \/ pk b j 60 = 4 \/ pk b j 60 = 5) /\ ¬ (p.body.length : Int) > 0) \/ (¬ pk b j 60 = 0 /\ ¬ pk b j 60 = 1 /\ ¬ pk b j 60 = 2 /\ ¬ pk b j 60 = 3 /\ ¬ pk b j 60 = 4 /\ ¬ pk b j 60 = 5 /\ ¬ pk b j 60 = 6)) : mtD b p j = (p, j + 1) := by
 unfold mtD
 (repeat' split) <;> first | rfl | (exfalso; omega)
theorem bl7 {k : Nat} : p.vars ++ b77 (k + 1) 1 = (p.vars ++ b77 k 1) ++ [1] := by
 rw [List.replicate_succ', b83]
theorem bT8 {k : Nat} (h : pk b j 60 = 1) (h1 : k <= 13 - p.vars.length) (h2 : ¬ (((p.vars ++ b77 k (1 : Int)).length : Nat) : Int) <= 12) : mtD b p j = (⟨p.vars ++ b77 k 1, p.arrays, p.body⟩, j + 1) := by
 simp only [b69, List.length_replicate] at h2
 rw [b17 h, show 13 - p.vars.length = k by omega]
end
abbrev aE1 (p : j0) := p.body.getD ((p.body.length : Int) - 1).toNat b55
abbrev F6 (b : List UInt8) (p : j0) (j : Int) : List It := [.box [.ref 1, iA (mtD b p j).snd], dY b, dI p.vars, dI p.arrays, dT p.body, .row 3 (D.ints (mtD b p j).fst.vars), .row 3 (D.ints (mtD b p j).fst.arrays), .tree (D.stmts (mtD b p j).fst.body)]
abbrev aO5 : It := .box [.v (.slice none 0 0), .v (.slice none 0 0), .v (.slice none 0 0)]
abbrev bC4 (b : List UInt8) (p : j0) (j : Int) : It := .tree (D.stmts (p.body.set 0 (b5.mk (p.body.getD 0 b55).kind (p.body.getD 0 b55).target (p.body.getD 0 b55).index (b7.mk (p.body.getD 0 b55).value.kind (nm b (j + 1) m4L) (p.body.getD 0 b55).value.kids) (p.body.getD 0 b55).count (p.body.getD 0 b55).body (p.body.getD 0 b55).els)))
abbrev aa9 : It := .box [.ref 6, .ref 7, .tref 8]
abbrev bC3 (b : List UInt8) (p : j0) (j : Int) : It := .tree (D.stmts (p.body.set 0 (b5.mk (nm b (j + 1) m2L) (p.body.getD 0 b55).target (p.body.getD 0 b55).index (p.body.getD 0 b55).value (p.body.getD 0 b55).count (p.body.getD 0 b55).body (p.body.getD 0 b55).els)))
abbrev bC2 (b : List UInt8) (p : j0) (j : Int) : It := .tree (D.stmts (p.body.set 0 (b5.mk (p.body.getD 0 b55).kind (p.body.getD 0 b55).target (p.body.getD 0 b55).index (p.body.getD 0 b55).value (nm b (j + 1) m5L) (p.body.getD 0 b55).body (p.body.getD 0 b55).els)))
abbrev bC1 (b : List UInt8) (p : j0) (j : Int) : It := .tree (D.stmts (p.body.set ((p.body.length : Int) - 1).toNat (b5.mk (aE1 p).kind (nm b (j + 1) m3L) (aE1 p).index (aE1 p).value (aE1 p).count (aE1 p).body (aE1 p).els)))
abbrev af5 (b : List UInt8) (p : j0) (r0 : List It) : List It := dY b :: dI p.vars :: dI p.arrays :: dT p.body :: aa9 :: .row 3 (D.ints p.vars) :: .row 3 (D.ints p.arrays) :: r0
abbrev aD0 (p : j0) (r0 : List It) : List It := dI p.vars :: dI p.arrays :: dT p.body :: aO5 :: .row 3 (D.ints p.vars) :: .row 3 (D.ints p.arrays) :: r0
abbrev aj0 (p : j0) (r0 : List It) : List It := .row 3 (D.ints p.arrays) :: .tree (D.stmts p.body) :: r0
abbrev au9 (b : List UInt8) (p : j0) (j : Int) (r0 : List It) : List It := .box [.ref 1, iA (j + 1)] :: dY b :: dI p.vars :: dI p.arrays :: dT p.body :: r0
abbrev a35 (b : List UInt8) (p : j0) (j : Int) (r0 : List (Nat × AV)) : List (Nat × AV) := (0, .ptr 0 0) :: (4, .ptr 5 0) :: (5, .ptr 9 0) :: (6, iA (p.body.length : Int)) :: (13, iA (pk b j 60)) :: r0
theorem aA6 (b : List UInt8) (p : j0) (j : Int) (hb : p.size <= 1000000) (r0 : 0 <= j) (r1 : j <= 100000000) : j1.ok Tryz.prog (mtC b p j) := by
  refine D2 87 Tryz.func56 [.box [.ref 1, iA j], dY b, dI p.vars, dI p.arrays, dT p.body] [(0, .ptr 0 0), (1, pA 2)] fun G => ?_
  have hb1 : p.vars.length <= 1048576 /\ p.arrays.length <= 1048576 /\ p9 p.body <= 1048576 := by unfold j0.size at hb; omega
  have hb2 : p.body.length <= 1048576 := b54 (aj7 _) hb1.2.2; refine wp_seq (j5 G d7 [0, 1, 2, 3, 4, 5, 13] [.box [.ref 1, iA j], dY b, dI p.vars, dI p.arrays, dT p.body, .box (pL 2), aO5] [(0, .ptr 0 0), (3, .ptr 5 0), (4, .ptr 6 0)] fun G => b0 (wp_seq (j5 G (n4 1 [2, 3, 4] (bt5 p (by omega))) [0, 1, 2, 3, 4, 6, 15, 16, 17, 23] (.box [.ref 1, iA j] :: dY b :: (aD0 p [.tree (D.stmts p.body), aa9])) [(0, .ptr 0 0), (4, .ptr 5 0), (5, .ptr 9 0)] fun G => b0 (wp_seq (j3 G d7 [(6, iA (p.body.length : Int))] fun G => b0 (wp_seq (wp_seq (j5 G (n4 1 [0, 1] (G5 b j 60 (by assumption) (by omega))) (rg 10) (.box [.ref 1, iA (j + 1)] :: dY b :: (aD0 p [.tree (D.stmts p.body), aa9])) (a35 b p j []) fun G => b0 (wp_block (wp_seq (j3 G d7 [(14, bA (pk b j 60 == 0))] fun G => b0 (rcE G (fun h0 q0 => ?_) fun h0 q0 => ?_))))))))))))
  ·
   refine wp_seq (A4 G d7 (a35 b p j [(25, bA (pk b j 60 == 1))]) fun G => b0 (rcE G (fun h1 q1 => ?_) fun h1 q1 => ?_))
   ·
    refine wp_seq (j3 G d7 [(36, bA (pk b j 60 == 2))] fun G => b0 (rcE G (fun h2 q2 => ?_) fun h2 q2 => ?_))
    ·
     refine wp_seq (j3 G d7 [(47, bA (pk b j 60 == 3))] fun G => b0 (rcE G (fun h3 q3 => ?_) fun h3 q3 => ?_))
     ·
      refine wp_seq (j3 G d7 [(60, bA (pk b j 60 == 4))] fun G => b0 (rcE G (fun h4 q4 => ?_) fun h4 q4 => ?_))
      ·
       refine wp_seq (j3 G d7 [(72, bA (pk b j 60 == 5))] fun G => b0 (rcE G (fun h5 q5 => ?_) fun h5 q5 => ?_))
       ·
        refine wp_seq (j3 G d7 [(83, bA (pk b j 60 == 6))] fun G => b0 (rcE G (fun h6 q6 => ?_) fun h6 q6 => ?_))
        · refine wp_skip (o9 (b0 (wp_seq (j5 G d7 (rg 9) (.box [.ref 1, iA (j + 1)] :: (af5 b p [.tree (D.stmts p.body)])) [(4, .ptr 5 0)] fun G => b0 (wp_ret ?_))))); exact H9 G [0, 1, 2, 3, 4, 6, 7, 8] (by show _ = mR [0, 1, 2, 3, 4, 6, 7, 8] (F6 b p j); unfold F6; rw [bd2 (by omega)] <;> rfl)
        refine wp_seq (A4 G d7 [(4, .ptr 5 0), (5, .ptr 9 0)] fun G => b0 (wp_ret (A2 (j2 ?_)))); obtain ⟨ρ, G⟩ := G.nil 10 3 (.ints []) 1 (au9 b p j (.box [.ref 10, .v (.slice none 0 0), .v (.slice none 0 0)] :: .row 3 (D.ints p.vars) :: (aj0 p [.box [.ref 6, .ref 7, .tref 8]]))) [(4, .ptr 5 0), (5, .ptr 9 0)]; obtain ⟨ρ, G⟩ := G.nil 11 3 (.ints []) 1 (au9 b p j (.box [.ref 10, .ref 11, .v (.slice none 0 0)] :: .row 3 (D.ints p.vars) :: (aj0 p [.box [.ref 6, .ref 7, .tref 8], .row 3 (D.ints [])]))) [(4, .ptr 5 0), (5, .ptr 9 0)]; obtain ⟨ρ, G⟩ := G.nilT 12 (.stmts []) (au9 b p j (.box [.ref 10, .ref 11, .tref 12] :: .row 3 (D.ints p.vars) :: (aj0 p [.box [.ref 6, .ref 7, .tref 8], .row 3 (D.ints []), .row 3 (D.ints [])]))) [(4, .ptr 5 0), (5, .ptr 9 0)]; exact H9 G [0, 1, 2, 3, 4, 10, 11, 12] (by show _ = mR [0, 1, 2, 3, 4, 10, 11, 12] (F6 b p j); unfold F6; rw [b18 (by omega)] <;> rfl)
       refine wp_seq (j3 G d7 [(75, bA (decide ((p.body.length : Int) > 0)))] fun G => b0 (S9 G (fun h7 q7 => ?_) fun h7 q7 => ?_))
       · refine wp_skip (o9 (b0 (wp_seq (j5 G d7 (rg 9) (.box [.ref 1, iA (j + 1)] :: (af5 b p [.tree (D.stmts p.body)])) [(4, .ptr 5 0)] fun G => b0 (wp_ret ?_))))); exact H9 G [0, 1, 2, 3, 4, 6, 7, 8] (by show _ = mR [0, 1, 2, 3, 4, 6, 7, 8] (F6 b p j); unfold F6; rw [bd2 (by omega)] <;> rfl)
       refine B2 G (n4 4 [0, 1, 34] (j1.lend (N8 b (j + 1) m5L (by simp [h0, h1, h2, h3, h4, h5, h7]) (by omega) (by omega)) [.no, .no, .row 3])) [0, 1, 0, 0, 12, 31, 63, 127] (rg 10) (.box [.ref 1, iA (j + 1 + 1)] :: dY b :: (aD0 p [bC2 b p j, aa9])) [(4, .ptr 5 0), (5, .ptr 9 0)] (iX 0 0 p.body.length []) (iK (by omega) b70) fun G => o9 (b0 (wp_seq (j5 G d7 (rg 9) (.box [.ref 1, iA (j + 1 + 1)] :: (af5 b p [bC2 b p j])) [(4, .ptr 5 0)] fun G => b0 (wp_ret ?_)))); exact H9 G [0, 1, 2, 3, 4, 6, 7, 8] (by show _ = mR [0, 1, 2, 3, 4, 6, 7, 8] (F6 b p j); unfold F6; rw [b19 (by omega) (by omega)] <;> rfl)
      refine wp_seq (j3 G d7 [(63, bA (decide ((p.body.length : Int) > 0)))] fun G => b0 (S9 G (fun h8 q8 => ?_) fun h8 q8 => ?_))
      · refine wp_skip (o9 (b0 (wp_seq (j5 G d7 (rg 9) (.box [.ref 1, iA (j + 1)] :: (af5 b p [.tree (D.stmts p.body)])) [(4, .ptr 5 0)] fun G => b0 (wp_ret ?_))))); exact H9 G [0, 1, 2, 3, 4, 6, 7, 8] (by show _ = mR [0, 1, 2, 3, 4, 6, 7, 8] (F6 b p j); unfold F6; rw [bd2 (by omega)] <;> rfl)
      refine B2 G (n4 4 [0, 1, 34] (j1.lend (N8 b (j + 1) m4L (by simp [h0, h1, h2, h3, h4, h8]) (by omega) (by omega)) [.no, .no, .row 3])) [0, 1, 0, 0, 12, 31, 63, 127, 255] (rg 10) (.box [.ref 1, iA (j + 1 + 1)] :: dY b :: (aD0 p [bC4 b p j, aa9])) [(4, .ptr 5 0), (5, .ptr 9 0)] (iX 0 0 p.body.length []) (iK (by omega) b70) fun G => o9 (b0 (wp_seq (j5 G d7 (rg 9) (.box [.ref 1, iA (j + 1 + 1)] :: (af5 b p [bC4 b p j])) [(4, .ptr 5 0)] fun G => b0 (wp_ret ?_)))); exact H9 G [0, 1, 2, 3, 4, 6, 7, 8] (by show _ = mR [0, 1, 2, 3, 4, 6, 7, 8] (F6 b p j); unfold F6; rw [b20 (by omega) (by omega)] <;> rfl)
     refine wp_seq (j3 G d7 [(50, bA (decide ((p.body.length : Int) > 0)))] fun G => b0 (S9 G (fun h9 q9 => ?_) fun h9 q9 => ?_))
     · refine wp_skip (o9 (b0 (wp_seq (j5 G d7 (rg 9) (.box [.ref 1, iA (j + 1)] :: (af5 b p [.tree (D.stmts p.body)])) [(4, .ptr 5 0)] fun G => b0 (wp_ret ?_))))); exact H9 G [0, 1, 2, 3, 4, 6, 7, 8] (by show _ = mR [0, 1, 2, 3, 4, 6, 7, 8] (F6 b p j); unfold F6; rw [bd2 (by omega)] <;> rfl)
     refine B2 G (n4 6 [0, 1, 50] (j1.lend (N8 b (j + 1) m3L (by simp [h0, h1, h2, h3, h9]) (by omega) (by omega)) [.no, .no, .row 3])) [0, 1, 0, 4, 0, 0, 48, 127, 255, 511] (rg 10) (.box [.ref 1, iA (j + 1 + 1)] :: dY b :: (aD0 p [bC1 b p j, aa9])) [(4, .ptr 5 0), (5, .ptr 9 0)] ((wO ((p.body.length : Int) - 1)) :: (iX ((p.body.length : Int) - 1) (((p.body.length : Int) - 1).toNat) p.body.length [])) ⟨oW (by omega), (iK (by omega) b70)⟩ fun G => o9 (b0 (wp_seq (j5 G d7 (rg 9) (.box [.ref 1, iA (j + 1 + 1)] :: (af5 b p [bC1 b p j])) [(4, .ptr 5 0)] fun G => b0 (wp_ret ?_)))); exact H9 G [0, 1, 2, 3, 4, 6, 7, 8] (by show _ = mR [0, 1, 2, 3, 4, 6, 7, 8] (F6 b p j); unfold F6; rw [b21 (by omega) (by omega)] <;> rfl)
    refine wp_seq (j3 G d7 [(39, bA (decide ((p.body.length : Int) > 0)))] fun G => b0 (S9 G (fun h10 q10 => ?_) fun h10 q10 => ?_))
    · refine wp_skip (o9 (b0 (wp_seq (j5 G d7 (rg 9) (.box [.ref 1, iA (j + 1)] :: (af5 b p [.tree (D.stmts p.body)])) [(4, .ptr 5 0)] fun G => b0 (wp_ret ?_))))); exact H9 G [0, 1, 2, 3, 4, 6, 7, 8] (by show _ = mR [0, 1, 2, 3, 4, 6, 7, 8] (F6 b p j); unfold F6; rw [bd2 (by omega)] <;> rfl)
    refine B2 G (n4 4 [0, 1, 34] (j1.lend (N8 b (j + 1) m2L (by simp [h0, h1, h2, h10]) (by omega) (by omega)) [.no, .no, .row 3])) [0, 1, 0, 0, 12, 31, 63, 127] (rg 10) (.box [.ref 1, iA (j + 1 + 1)] :: dY b :: (aD0 p [bC3 b p j, aa9])) [(4, .ptr 5 0), (5, .ptr 9 0)] (iX 0 0 p.body.length []) (iK (by omega) b70) fun G => o9 (b0 (wp_seq (j5 G d7 (rg 9) (.box [.ref 1, iA (j + 1 + 1)] :: (af5 b p [bC3 b p j])) [(4, .ptr 5 0)] fun G => b0 (wp_ret ?_)))); exact H9 G [0, 1, 2, 3, 4, 6, 7, 8] (by show _ = mR [0, 1, 2, 3, 4, 6, 7, 8] (F6 b p j); unfold F6; rw [b22 (by omega) (by omega)] <;> rfl)
   refine wp_block ?_; replace G := G.as (au9 b p j (.box [.v (.slice none 0 0), .v (.slice none 0 0), .v (.slice none 0 0)] :: .row 3 (D.ints (p.vars ++ b77 0 1)) :: (aj0 p [.box [.ref 6, .ref 7, .tref 8]]))) (a35 b p j [(25, bA (pk b j 60 == 1))]) (by have e1 : (p.vars ++ b77 0 1 : List Int) = (p.vars) := (by simp [h0, h1]); (first | rw [e1] | simp only [e1]) <;> rfl) (by kernel_rfl); refine x4 (κ := Nat) (fun k => k <= 13 - p.vars.length) (fun k => 13 - p.vars.length - k) (fun k => [.box [.ref 1, iA (j + 1)], dY b, dI p.vars, dI p.arrays, dT p.body, .box [.v (.slice none 0 0), .v (.slice none 0 0), .v (.slice none 0 0)], .row 3 (.ints (p.vars ++ b77 k 1)), .row 3 (D.ints p.arrays), .tree (D.stmts p.body), .box [.ref 6, .ref 7, .tref 8]]) (fun k => [(0, .ptr 0 0), (4, .ptr 5 0), (5, .ptr 9 0), (6, iA (p.body.length : Int)), (13, iA (pk b j 60)), (25, bA (pk b j 60 == 1))]) 0 (by omega) (w6.at G _ _) ?_; clear G; intro k ρ a w hp G; replace G := w6.at G (au9 b p j (aO5 :: .row 3 (D.ints (p.vars ++ b77 k 1)) :: (aj0 p [aa9]))) (a35 b p j [(25, bA (pk b j 60 == 1))]); refine wp_seq (wp_seq (j3 G d7 [(30, bA (decide (((p.vars ++ b77 k 1).length : Int) <= 12)))] fun G => b0 (S9 G (fun h12 q12 => ?_) fun h12 q12 => ?_)))
   · refine wp_exit (p8 (p8 (p7 (o9 (b0 (wp_seq (j5 G d7 (rg 9) (au9 b p j (aa9 :: .row 3 (D.ints (p.vars ++ b77 k 1)) :: (aj0 p []))) [(4, .ptr 5 0)] fun G => b0 (wp_ret ?_)))))))); exact H9 G [0, 1, 2, 3, 4, 6, 7, 8] (by show _ = mR [0, 1, 2, 3, 4, 6, 7, 8] (F6 b p j); unfold F6; rw [bT8 (k := k) (by omega) (by omega) (by omega)] <;> rfl)
   refine wp_skip (b0 (wp_block (G8 G d7 [0, 1, 2, 3, 4, 5, 7, 8, 9, 34] (au9 b p j (aO5 :: (aj0 p [.box [.ref 9, .ref 6, .tref 7], .row 3 (D.ints (p.vars ++ b77 k 1 ++ ([1] ++ [])))]))) [(0, .ptr 0 0), (4, .ptr 5 0), (5, .ptr 8 0), (6, iA (p.body.length : Int)), (13, iA (pk b j 60)), (25, bA (pk b j 60 == 1))] (aP ((p.vars ++ b77 k (1 : Int)).length + ([(1 : Int)] ++ []).length) 8 []) (aK (by simp only [b69, List.length_replicate, b58, b60] at *; omega) b70) fun G => o9 (b0 ?_)))); exact Z9 G (k + 1) (by simp only [b69, List.length_replicate, b58, b60] at *; omega) (by simp only [b69, List.length_replicate, b58, b60] at *; omega) [0, 1, 2, 3, 4, 5, 9, 6, 7, 8] (by have e1 : (p.vars ++ b77 (k + 1) 1 : List Int) = (p.vars ++ b77 k 1 ++ ([1] ++ [])) := bl7; (first | rw [e1] | simp only [e1]) <;> rfl)
  refine wp_seq (j3 G d7 [(19, bA (decide ((p.vars.length : Int) > 0)))] fun G => b0 (S9 G (fun h11 q11 => ?_) fun h11 q11 => ?_))
  · refine wp_skip (o9 (b0 (wp_seq (j5 G d7 (rg 9) (.box [.ref 1, iA (j + 1)] :: (af5 b p [.tree (D.stmts p.body)])) [(4, .ptr 5 0)] fun G => b0 (wp_ret ?_))))); exact H9 G [0, 1, 2, 3, 4, 6, 7, 8] (by show _ = mR [0, 1, 2, 3, 4, 6, 7, 8] (F6 b p j); unfold F6; rw [bd2 (by omega)] <;> rfl)
  refine B2 G (n4 3 [0, 1] (bt6 b (j + 1) (by omega) (by omega))) [0, 1, 0, 4, 15, 31] (rg 10) (.box [.ref 1, iA (j + 1 + 2)] :: dY b :: dI p.vars :: dI p.arrays :: dT p.body :: aO5 :: .row 3 (D.ints (p.vars.set 0 (l1D b (j + 1)))) :: (aj0 p [aa9])) [(4, .ptr 5 0), (5, .ptr 9 0)] (iX 0 0 p.vars.length []) (iK (by omega) b70) fun G => o9 (b0 (wp_seq (j5 G d7 (rg 9) (.box [.ref 1, iA (j + 1 + 2)] :: dY b :: dI p.vars :: dI p.arrays :: dT p.body :: aa9 :: .row 3 (D.ints (p.vars.set 0 (l1D b (j + 1)))) :: (aj0 p [])) [(4, .ptr 5 0)] fun G => b0 (wp_ret ?_)))); exact H9 G [0, 1, 2, 3, 4, 6, 7, 8] (by show _ = mR [0, 1, 2, 3, 4, 6, 7, 8] (F6 b p j); unfold F6; rw [b16 (by omega) (by omega)] <;> rfl)
section
variable {b : List UInt8} {j : Int}
end
def dvX (b : List UInt8) : j0 := (mtD b (pgD b 0) (bdD b 0).2).1
theorem bd0 (b : List UInt8) : 0 <= (bdD b 0).2 /\ (bdD b 0).2 <= 150000 := by
 have h := bu0 b (k := 0) (by omega) (by omega)
 have h2 := bo5 b (k := 0) (by omega) (by omega)
 omega
theorem pg0 (b : List UInt8) : (pgD b 0).size <= 1000000 := b54 (aZ2 b (by omega) (by omega)) (by omega)
theorem af2 (c : List UInt8) (hc : c.length <= 2000) : j1.ok Tryz.prog ⟨30, [.ref 0], [dY c], [dY c] ++ oP (dvX c), oA 1⟩ := by
 refine D2 10 Tryz.func30 [dY c] [(0, .ref 0)] fun G => ?_; have hbd := bd0 c; refine wp_seq (j5 G d7 [0, 1] [dY c, .box [.v (.slice none 0 0), .v (.slice none 0 0), .v (.slice none 0 0)]] [(0, .ref 0), (2, .ptr 1 0)] fun G => b0 (wp_seq (j5 G (n4 1 [0] (aB0 c (by assumption))) [0, 1, 10] [dY c, .box [.v (.slice none 0 0), .v (.slice none 0 0), .v (.slice none 0 0)], .box [.ref 0, iA 0]] [(2, .ptr 1 0), (3, .ptr 2 0)] fun G => b0 (wp_seq (j5 G (x8 (m8 2 [2, 0] (ac9 c 0 (by omega) (by omega)) (m8 3 [2, 0, 19, 20, 21] (j1.lend (aA6 c (pgD c 0) ((bdD c 0).snd) (pg0 c) (by omega) (by omega)) [.no, .no, .row 3, .row 3, .tree]) x7)) fz []) [0, 1, 27, 28, 29] [dY c, .box [.ref 2, .ref 3, .tref 4], .row 3 (D.ints (mtD c (pgD c 0) (bdD c 0).snd).fst.vars), .row 3 (D.ints (mtD c (pgD c 0) (bdD c 0).snd).fst.arrays), .tree (D.stmts (mtD c (pgD c 0) (bdD c 0).snd).fst.body)] [(2, .ptr 1 0)] fun G => b0 (wp_ret ?_)))))); exact H9 G [0, 2, 3, 4]
abbrev bh4 (c : List UInt8) := mtD (List.drop 0 (b63 2000 c)) (pgD (List.drop 0 (b63 2000 c)) 0) (bdD (List.drop 0 (b63 2000 c)) 0).snd
theorem af1 (c : List UInt8) (hc : 2000 < c.length) : j1.ok Tryz.prog ⟨30, [.ref 0], [dY c], [dY c] ++ oP (dvX ((c.take 2000).drop 0)), oA 1⟩ := by
 refine D2 10 Tryz.func30 [dY c] [(0, .ref 0)] fun G => ?_; have hbd := bd0 ((c.take 2000).drop 0); refine wp_seq (j5 G d7 [0, 1] [dY c, .box [.v (.slice none 0 0), .v (.slice none 0 0), .v (.slice none 0 0)]] [(0, .ref 0), (2, .ptr 1 0)] fun G => b0 (wp_seq (j5 G (n4 1 [0] (aA9 c (by assumption))) [0, 1, 10, 11] [dY c, .box [.v (.slice none 0 0), .v (.slice none 0 0), .v (.slice none 0 0)], .box [.ref 3, iA 0], dY (List.drop 0 (b63 2000 c))] [(2, .ptr 1 0), (3, .ptr 2 0)] fun G => b0 (wp_seq (j5 G (x8 (m8 2 [2, 3] (ac9 (List.drop 0 (b63 2000 c)) 0 (by omega) (by omega)) (m8 3 [2, 3, 20, 21, 22] (j1.lend (aA6 (List.drop 0 (b63 2000 c)) (pgD (List.drop 0 (b63 2000 c)) 0) ((bdD (List.drop 0 (b63 2000 c)) 0).snd) (pg0 ((c.take 2000).drop 0)) (by omega) (by omega)) [.no, .no, .row 3, .row 3, .tree]) x7)) fz []) [0, 1, 28, 29, 30] [dY c, .box [.ref 2, .ref 3, .tref 4], .row 3 (D.ints (bh4 c).fst.vars), .row 3 (D.ints (bh4 c).fst.arrays), .tree (D.stmts (bh4 c).fst.body)] [(2, .ptr 1 0)] fun G => b0 (wp_ret ?_)))))); exact H9 G [0, 2, 3, 4]
theorem ai7 (c : List UInt8) : j1.ok Tryz.prog ⟨30, [.ref 0], [dY c], [dY c] ++ oP (drV c), oA 1⟩ := by
 by_cases h : c.length <= 2000
 ·have e : drV c = dvX c := by unfold drV dvX bsD; rw [b75 h]
  rw [e]; exact af2 c h
 exact af1 c (by omega)
theorem j1.twice {P : Program} {f : FuncId} {args : List AV} {pre S : List It} {d : D} {res : AV} {i : Nat} (hc : j1.ok P ⟨f, args, pre, S, res⟩) (S1 : List It) (hi : S[i]? = some (.dat d)) (hl : pre.length <= S.length)
  (hS : S.all (fun x => W7 S.length x.ids) = true) (hg : W7 S.length res.ids = true) (hl1 : S1.length = S.length + 1) (hd : s4 S1 S.length = .dat d) (h2 : ∀ ρ : Nat -> Value, ρ S.length = ρ i -> ∀ j, j < S.length -> (s4 S1 j).res ρ j = (s4 S j).res ρ j) : j1.ok P ⟨f, args, pre, S1, res⟩ := by
 intro ι φ ψ w0 w F ρ M
 refine (hc ι φ ψ w0 w F ρ M).mono ?_
 rintro x w' ⟨ρ1, h1, rfl, M1⟩
 have hi' : s4 S i = .dat d := by simp [s4, hi]
 have hlt : i < S.length := (b66.1 hi).1
 have hinv : Inv (s4 S) ρ1 [S.length] := fun ρ' h j => by
  by_cases hj : j < S.length
  ·refine It.res_congr _ (fun k hk => h k ?_) (.inr (.inr (h j (by simp; omega))))
   have h1 := H3 (b68.1 hS (S[j]) (b64 hj)) k (by simpa [s4, b59, b56 hj] using hk)
   simp; omega
  rw [show s4 S j = .none by simp only [s4, b59, b87 (Nat.le_of_not_lt hj)]; rfl]; rfl
 obtain ⟨ρ2, h3, M2, h4⟩ := M1.newDat (id := S.length) (by simp [s4]) hinv (M1.datAt hi')
 have hρ : ρ2 i = ρ1 i := h3 i (by simp; omega)
 have e : n8 F ρ2 (m7 (s4 S) [(S.length, .dat d)]) = n8 F ρ2 (s4 S1) := by
  funext k
  cases k with
  | inl q => rfl
  | inr j =>
   simp only [n8, m7]
   by_cases hj : j = S.length
   ·subst hj; rw [if_pos rfl, hd]
   rw [if_neg hj]
   by_cases hj2 : j < S.length
   ·exact (h2 ρ2 (by rw [<- h4, hρ]) j hj2).symm
   rw [A3 (by omega), A3 (by omega)]
 rw [e] at M2
 refine ⟨ρ2, fun k hk => by
  have hk : k < pre.length := hk
  rw [h3 k (by simp; omega)]; exact h1 k hk, ?_, M2⟩
 exact congrArg _ (AV.val_congr res fun k hk => by
  have := H3 hg k hk
  exact h3 k (by simp; omega)).symm
theorem bf1 (c : List UInt8) : j1.ok Tryz.prog ⟨40, [.ref 0], [dY c], [dY c, .box [.ref 2, iA 0], dY (bsD c)], .ptr 1 0⟩ := by
 by_cases h : c.length <= 2000
 ·have e : bsD c = c := b75 h
  rw [e]
  refine j1.twice (aB0 c h) (i := 0) _ rfl (by show (1 : Nat) <= 2; omega) rfl rfl rfl rfl fun ρ hρ j hj => ?_
  have hj : j < 2 := hj
  match j, hj with
  | 0, _ => rfl
  | 1, _ =>
   have hρ : ρ 2 = ρ 0 := hρ
   simp only [s4, b59, b81, b74, b93, It.res, AV.vals, AV.val, hρ]
 exact aA9 c (by omega)
end Go.Proofs.YtompcdbfongedaaGreatDoor

namespace Go.Proofs.YtompcdbfongedaaGreatDoor
open Go
def b6 (l : List UInt8) : ByteArray := ⟨l.toArray⟩
theorem f9 (l : List UInt8) : (b6 l).size = l.length := rfl
theorem C0 (l : List UInt8) : (b6 l).toList = l := by
 simp [b6, ByteArray.toList_eq]
theorem J5 (l m : List UInt8) : b6 l ++ b6 m = b6 (l ++ m) := by
 apply ByteArray.ext; simp [b6]
def stT (k t c : Int) (ix v b e : List UInt8) : List UInt8 :=
 if k = 1 then [UInt8.ofNat (97 + t.toNat)] ++ [58, 61] ++ v ++ [59]
 else if k = 5 then [UInt8.ofNat (97 + t.toNat)] ++ [33, 61] ++ v ++ [59]
 else if k = 2 then [UInt8.ofNat (80 + t.toNat)] ++ [91] ++ ix ++ [93, 58, 61] ++ v ++ [59]
 else if k = 3 then [105, 102] ++ v ++ [123] ++ b ++ [125, 123] ++ e ++ [125]
 else [114, 101, 112, 101, 97, 116] ++ Lib.decDigits c.toNat ++ [123] ++ b ++ [125]
mutual
def P2 : b5 -> List UInt8
 | ⟨k, t, ix, v, c, b, e⟩ => stT k t c (c8 ix) (c8 v) (c7 b) (c7 e)
def c7 : List b5 -> List UInt8
 | [] => []
 | s :: r => P2 s ++ c7 r
end
theorem v6 (s : b5) : P2 s = stT s.kind s.target s.count (c8 s.index) (c8 s.value) (c7 s.body) (c7 s.els) := by
 cases s; simp only [P2]; rfl
theorem aI2 (a b : List b5) : c7 (a ++ b) = c7 a ++ c7 b := by
 induction a with
 | nil => simp [c7]
 | cons x r ih => simp [c7, ih]
theorem E5 {ss : List b5} {k : Nat} (h : k < ss.length) : c7 (ss.take (k + 1)) = c7 (ss.take k) ++ P2 (ss.getD k b55) := by
 rw [B3 ss k h, aI2, m9 h]; simp [c7]
theorem E1 {nv na : Nat} {e : b7} (h : j8 nv na e = true) : (c8 e).length <= 8192 := by
 unfold j8 at h
 simp only [b57] at h
 exact m0 nv na 5 e h.1
theorem bv4 {k t c : Int} {ix v b e : List UInt8} (hi : k = 2 -> ix.length <= 8192) (hv : k ≠ 4 -> v.length <= 8192) (hc : k = 4 -> c < 1000) (hk : k = 1 \/ k = 2 \/ k = 3 \/ k = 4 \/ k = 5) :
  (stT k t c ix v b e).length <= 20000 + b.length + e.length := by
 unfold stT
 repeat' split
 all_goals (simp only [b69, b58, b60])
 ·have := hv (by omega); omega
 ·have := hv (by omega); omega
 ·have := hv (by omega); have := hi (by omega); omega
 ·have := hv (by omega); omega
 have := ae5 (n := c.toNat) (by have := hc (by omega); omega); omega
theorem z6 {nv na d : Nat} {s : b5} (h : j4 nv na (d + 1) s = true) : (s.kind = 1 \/ s.kind = 2 \/ s.kind = 3 \/ s.kind = 4 \/ s.kind = 5) /\
    ((s.kind = 1 \/ s.kind = 5) -> 0 <= s.target /\ s.target < nv) /\ (s.kind = 2 -> 0 <= s.target /\ s.target < na /\ j8 nv na s.index = true /\ J0 s.index = true) /\
    (s.kind ≠ 4 -> j8 nv na s.value = true) /\ (s.kind = 4 -> 1 <= s.count /\ s.count <= 3) /\ (∀ x ∈ s.body, j4 nv na d x = true) /\ (∀ x ∈ s.els, j4 nv na d x = true) := by
  have hb := R7 h
  rw [j4, b57] at h
  obtain ⟨h0, h⟩ := h
  refine ⟨?_, ?_, ?_, ?_, ?_, b68.1 hb.1, b68.1 hb.2⟩
  all_goals
    by_cases k1 : s.kind = 1 \/ s.kind = 5
    · rw [if_pos k1] at h
      simp only [b57, decide_eq_true_eq] at h
      first | omega | exact fun _ => ⟨h.1.1, h.1.2⟩ | (intro h2; omega) | exact fun _ => h.2
    rw [if_neg k1] at h
    by_cases k2 : s.kind = 2
    · rw [if_pos k2] at h
      simp only [b57, decide_eq_true_eq] at h
      first | omega | exact fun _ => ⟨h.1.1.1.1, h.1.1.1.2, h.1.1.2, h.1.2⟩ | (intro h2; omega) | exact fun _ => h.2
    rw [if_neg k2] at h
    by_cases k3 : s.kind = 3
    · rw [if_pos k3] at h
      simp only [b57] at h
      first | omega | (intro h2; omega) | exact fun _ => h.1.1
    rw [if_neg k3] at h
    by_cases k4 : s.kind = 4
    · first
        | omega
        | (intro h2; omega)
        | (intro _
           unfold m6 at h0
           rw [if_pos (.inr k4), if_pos k4] at h0
           simp only [b57, decide_eq_true_eq] at h0
           exact ⟨h0.2.1.1.1.2, h0.2.1.1.2⟩)
    rw [if_neg k4] at h; cases h
mutual
theorem bi4 (nv na : Nat) : ∀ (d : Nat) (s : b5), j4 nv na d s = true -> (P2 s).length <= 20000 * nS s
 | 0, s, h => by simp [j4] at h
 | d + 1, s, h => by
  obtain ⟨h1, h2, h3, h4, h5, h6, h7⟩ := z6 h
  have b1 := C4 nv na d s.body h6
  have b2 := C4 nv na d s.els h7
  have hl := bv4 (k := s.kind) (t := s.target) (c := s.count) (ix := c8 s.index) (v := c8 s.value) (b := c7 s.body) (e := c7 s.els) (fun hk => E1 (h3 hk).2.2.1) (fun hk => E1 (h4 hk)) (fun hk => by have := h5 hk; omega) h1
  rw [v6, Y0]
  omega
termination_by d s => (d, 0)
theorem C4 (nv na : Nat) : ∀ (d : Nat) (ss : List b5), (∀ s ∈ ss, j4 nv na d s = true) -> (c7 ss).length <= 20000 * S0 ss
 | _, [], _ => by simp [c7]
 | d, s :: r, h => by
  have b1 := bi4 nv na d s (h s b72)
  have b2 := C4 nv na d r fun x hx => h x (b80 _ hx)
  rw [c7, S0, b69]
  omega
termination_by d ss => (d, ss.length + 1)
end
def aL4 (l : Int) : UInt8 := [76, 72, 85, 88].getD l.toNat 0
def n5 (ls : List Int) : List UInt8 := ls.map aL4
theorem ay7 {ls : List Int} {k : Nat} (h : k < ls.length) : n5 (ls.take (k + 1)) = n5 (ls.take k) ++ [aL4 (ls.getD k 0)] := by
 unfold n5
 rw [B3 ls k h, List.map_append, m9 h]; rfl
def F0 (p : j0) : List UInt8 := n5 p.vars ++ [47] ++ n5 p.arrays ++ [47] ++ c7 p.body
def I9 (p : j0) : List UInt8 := if o6 p then F0 p else []
end Go.Proofs.YtompcdbfongedaaGreatDoor

namespace Go.Proofs.YtompcdbfongedaaGreatDoor
open Go Go.RowKit
abbrev tA (l : List UInt8) : AV := .v (.string (b6 l))
theorem k8.tab {ι : Type} {φ ψ : Nat -> Prop} {w0 w : World} {L : ι -> Rs} (M : k8 φ ψ w0 w L) : aN0 w :=
 ⟨w.heap.size, b71 _, fun w' hb => (M.env w' (M.kept.trans (B7.of_below hb fun _ h _ => h))).1⟩
theorem a81 {P : Program} {f : FuncId} {args : List AV} {S : List It} {x : Value} (h : ∀ (φ : Nat -> Prop) (w : World) (ρ : Nat -> Value), aN0 w -> (∀ i d, s4 S i = .dat d -> RD w φ d (ρ i)) -> Calls P f (AV.vals ρ args).toArray w fun e w' => e = .returned x /\ Below w.heap.size w w') : j1.ok P (F9 f args S (.v x)) := by
 intro ι φ ψ w0 w F ρ M
 refine (h (T8 φ (n8 F ρ (s4 S))) w ρ M.tab fun i d hi => M.datAt hi).mono ?_
 rintro e w' ⟨rfl, hb⟩
 exact ⟨ρ, fun _ _ => rfl, rfl, M.call hb⟩
theorem ax7 {v : Int} (h : 0 <= v) : ∃ n : Nat, v = n := ⟨v.toNat, by omega⟩
theorem bb3 (v : Int) (h0 : 0 <= v) (h1 : v < 12) : j1.ok Tryz.prog (F9 58 [iA v] [] (tA [UInt8.ofNat (97 + v.toNat)])) := by
 obtain ⟨n, rfl⟩ := ax7 h0
 exact O4 fun φ w ρ _ => aw6 n (by omega) w
theorem bt7 (v : Int) (h0 : 0 <= v) (h1 : v < 1000000) : j1.ok Tryz.prog (F9 60 [iA v] [] (tA (Lib.decDigits v.toNat))) := by
 obtain ⟨n, rfl⟩ := ax7 h0
 exact O4 fun φ w ρ _ => ar6 n (by omega) w
theorem aG6 (v : Int) (h0 : 0 <= v) (h1 : v < 12) : j1.ok Tryz.prog (F9 88 [iA v] [] (tA [UInt8.ofNat (97 + v.toNat)])) := by
 obtain ⟨n, rfl⟩ := ax7 h0
 exact O4 fun φ w ρ _ => ak9 n (by omega) w
theorem aV5 (v : Int) (h0 : 0 <= v) (h1 : v < 2) : j1.ok Tryz.prog (F9 90 [iA v] [] (tA [UInt8.ofNat (80 + v.toNat)])) := by
 obtain ⟨n, rfl⟩ := ax7 h0
 exact O4 fun φ w ρ _ => ac7 n (by omega) w
theorem bO3 (v : Int) (h0 : 0 <= v) (h1 : v < 1000000) : j1.ok Tryz.prog (F9 91 [iA v] [] (tA (Lib.decDigits v.toNat))) := by
 obtain ⟨n, rfl⟩ := ax7 h0
 exact a81 fun φ w ρ ht _ => a94 n (by omega) w ht.is
theorem aQ3 {nv na : Nat} {e : b7} (h : j8 nv na e = true) : j6 nv na 5 e = true := by
 unfold j8 at h
 simp only [b57] at h
 exact h.1
theorem bt4 (nv na : Nat) (hnv : nv <= 12) (hna : na <= 2) (e : b7) (h : j8 nv na e = true) : j1.ok Tryz.prog (F9 59 [eA e 0] (eS e) (tA (c8 e))) :=
 O4 fun φ w ρ hd => aP4 nv na hnv hna 5 (by omega) e φ _ w ⟨_, rfl, hd 0 _ rfl⟩ (aQ3 h)
theorem a28 (nv na : Nat) (hnv : nv <= 12) (hna : na <= 2) (e : b7) (h : j8 nv na e = true) : j1.ok Tryz.prog (F9 89 [eA e 0] (eS e) (tA (c8 e))) :=
 a81 fun φ w ρ ht hd => aC2 nv na hnv hna 5 (by omega) e φ _ w ⟨_, rfl, hd 0 _ rfl⟩ (aQ3 h) ht
theorem bD1 {nv na d : Nat} {ss : List b5} (h : ∀ s ∈ ss, j4 nv na (d + 1) s = true) {k : Nat} (hk : k < ss.length) : j4 nv na (d + 1) (ss.getD k b55) = true := by
 rw [m9 hk]; exact h _ (b64 hk)
theorem bE5 {ss : List b5} {k : Nat} (hk : k < ss.length) : nS (ss.getD k b55) <= S0 ss := by
 have h1 := bd1 hk
 have h2 := as1 ss (k + 1)
 rw [m9 hk]; omega
theorem bL2 {ss : List b5} (k : Nat) : S0 (ss.take k) <= S0 ss := as1 ss k
theorem a07 : ∀ ss : List b5, ss.length <= S0 ss
 | [] => b71 _
 | s :: r => by
  have h1 := Y0 s
  have h2 := a07 r
  simp only [S0, b58]; omega
theorem bi5 {nv na d : Nat} {ss : List b5} (h : ∀ s ∈ ss, j4 nv na d s = true) (k : Nat) : (c7 (ss.take k)).length <= 20000 * S0 ss :=
 b54 (C4 nv na d _ fun s hs => h s (List.mem_of_mem_take hs)) (Nat.mul_le_mul_left _ (bL2 k))
section
variable {nv na d : Nat} {s : b5} (h : j4 nv na (d + 1) s = true)
include h
theorem a60 (hk : s.kind = 1 \/ s.kind = 5) : 0 <= s.target /\ s.target < nv := (z6 h).2.1 hk
theorem bD0 (hk : s.kind = 2) : 0 <= s.target /\ s.target < na := ⟨((z6 h).2.2.1 hk).1, ((z6 h).2.2.1 hk).2.1⟩
theorem a61 (hk : s.kind = 2) : j8 nv na s.index = true := ((z6 h).2.2.1 hk).2.2.1
theorem J8 (hk : s.kind ≠ 4) : j8 nv na s.value = true := (z6 h).2.2.2.1 hk
theorem bP8 (k1 : ¬ s.kind = 1) (k2 : ¬ s.kind = 2) (k3 : ¬ s.kind = 3) (k5 : ¬ s.kind = 5) : s.kind = 4 /\ 1 <= s.count /\ s.count <= 3 := by
 have h1 := (z6 h).1
 have h4 : s.kind = 4 := by omega
 exact ⟨h4, (z6 h).2.2.2.2.1 h4⟩
theorem ar5 : ∀ x ∈ s.body, j4 nv na d x = true := (z6 h).2.2.2.2.2.1
theorem a62 : ∀ x ∈ s.els, j4 nv na d x = true := (z6 h).2.2.2.2.2.2
end
theorem i7 (a : Array UInt8) : (⟨a⟩ : ByteArray).size = a.size := rfl
theorem M6 (l : List UInt8) : (⟨l.toArray⟩ : ByteArray) = b6 l := rfl
theorem bI8 {t : Int} (h0 : 0 <= t) (h1 : t < 2) : ByteArray.extract ⟨#[80, 81]⟩ t.toNat (t + 1).toNat = b6 [UInt8.ofNat (80 + t.toNat)] := by
 have : t = 0 \/ t = 1 := by omega
 rcases this with rfl | rfl <;> decide +kernel
theorem bz1 {t : Int} (h : s9 t = true) : ByteArray.extract ⟨#[76, 72, 85, 88]⟩ t.toNat (t + 1).toNat = b6 [aL4 t] := by
 unfold s9 at h
 simp only [b57, decide_eq_true_eq] at h
 have : t = 0 \/ t = 1 \/ t = 2 \/ t = 3 := by omega
 rcases this with rfl | rfl | rfl | rfl <;> decide +kernel
section
variable {ss : List b5} {k : Nat} (hk : k < ss.length)
include hk
theorem b32 (hq : (ss.getD k b55).kind = 1) : b6 (c7 (ss.take k)) ++ b6 [UInt8.ofNat (97 + (ss.getD k b55).target.toNat)] ++ ⟨#[58, 61]⟩ ++ b6 (c8 (ss.getD k b55).value) ++ ⟨#[59]⟩ = b6 (c7 (ss.take (k + 1))) := by
 rw [E5 hk, v6, stT, if_pos hq]; show _ = b6 _; simp only [M6, J5, b83]
theorem b28 (hq : (ss.getD k b55).kind = 5) : b6 (c7 (ss.take k)) ++ b6 [UInt8.ofNat (97 + (ss.getD k b55).target.toNat)] ++ ⟨#[33, 61]⟩ ++ b6 (c8 (ss.getD k b55).value) ++ ⟨#[59]⟩ = b6 (c7 (ss.take (k + 1))) := by
 rw [E5 hk, v6, stT, if_neg (by omega), if_pos hq]; show _ = b6 _; simp only [M6, J5, b83]
theorem b31 (hq : (ss.getD k b55).kind = 2) (h0 : 0 <= (ss.getD k b55).target) (h1 : (ss.getD k b55).target < 2) : b6 (c7 (ss.take k)) ++ ByteArray.extract ⟨#[80, 81]⟩ (ss.getD k b55).target.toNat ((ss.getD k b55).target + 1).toNat ++ ⟨#[91]⟩ ++ b6 (c8 (ss.getD k b55).index) ++ ⟨#[93, 58, 61]⟩ ++ b6 (c8 (ss.getD k b55).value) ++ ⟨#[59]⟩ = b6 (c7 (ss.take (k + 1))) := by
 rw [E5 hk, v6, stT, if_neg (by omega), if_neg (by omega), if_pos hq]
 rw [bI8 h0 h1]
 show _ = b6 _; simp only [M6, J5, b83]
theorem b30 (hq : (ss.getD k b55).kind = 3) : b6 (c7 (ss.take k)) ++ ⟨#[105, 102]⟩ ++ b6 (c8 (ss.getD k b55).value) ++ ⟨#[123]⟩ ++ b6 (c7 (ss.getD k b55).body) ++ ⟨#[125, 123]⟩ ++ b6 (c7 (ss.getD k b55).els) ++ ⟨#[125]⟩ = b6 (c7 (ss.take (k + 1))) := by
 rw [E5 hk, v6, stT, if_neg (by omega), if_neg (by omega), if_neg (by omega), if_pos hq]; show _ = b6 _; simp only [M6, J5, b83]
theorem b29 (hq : (ss.getD k b55).kind = 4) : b6 (c7 (ss.take k)) ++ ⟨#[114, 101, 112, 101, 97, 116]⟩ ++ b6 (Lib.decDigits (ss.getD k b55).count.toNat) ++ ⟨#[123]⟩ ++ b6 (c7 (ss.getD k b55).body) ++ ⟨#[125]⟩ = b6 (c7 (ss.take (k + 1))) := by
 rw [E5 hk, v6, stT, if_neg (by omega), if_neg (by omega), if_neg (by omega), if_neg (by omega)]; show _ = b6 _; simp only [M6, J5, b83]
end
abbrev af9 : AV := .v (.string (ByteArray.mk #[]))
abbrev bB7 (ss : List b5) (k : Nat) : AV := .v (.string (b6 (c7 (b63 k ss))))
abbrev au8 (ss : List b5) (k : Nat) (r0 : List (Nat × AV)) : List (Nat × AV) := (0, .ref 0) :: (2, af9) :: (3, bB7 ss k) :: (4, iA (k : Int)) :: r0
theorem bc5 (nv na d : Nat) (hnv : nv <= 12) (hna : na <= 2) (ih : ∀ (ss : List b5), (∀ s ∈ ss, j4 nv na d s = true) -> S0 ss <= 60 -> j1.ok Tryz.prog (F9 32 [.ref 0] [dT ss] (tA (c7 ss)))) (ss : List b5) (h : ∀ s ∈ ss, j4 nv na (d + 1) s = true) (hn : S0 ss <= 60) : j1.ok Tryz.prog (F9 32 [.ref 0] [dT ss] (tA (c7 ss))) := by
  have hl0 := a07 ss
  have he := fun e h => bt4 nv na hnv hna e h
  refine D2 97 Tryz.func32 [dT ss] [(0, .ref 0)] fun G => ?_; refine wp_seq (j3 G d7 [(2, af9)] fun G => b0 (wp_seq (j3 G d7 [(3, af9)] fun G => b0 (wp_seq (wp_seq (A4 G d7 [(0, .ref 0), (2, af9), (3, af9), (4, iA 0)] fun G => b0 (wp_block ?_))))))); refine x4 (κ := Nat) (fun k => k <= ss.length) (fun k => ss.length - k) (fun k => [dT ss]) (fun k => [(0, .ref 0), (2, .v (.string (ByteArray.mk #[]))), (3, .v (.string (b6 (c7 (ss.take k))))), (4, iA k)]) 0 (by omega) (w6.at G _ _) ?_; clear G; intro k ρ a w hp G; replace G := w6.at G [dT ss] (au8 ss k []); have ht := bi5 h k; refine wp_seq (wp_seq (A4 G d7 (au8 ss k [(9, bA (decide ((k : Int) < ss.length)))]) fun G => b0 ?_)); cases h0 : (decide ((k : Int) < ss.length))
  · have q0 := L3 h0; refine rF G _ h0 (wp_exit (p8 (p8 (p7 (b0 (wp_seq (j3 G d7 [(2, bB7 ss k)] fun G => b0 (wp_ret ?_)))))))); exact E0 (.v (.string (b6 (c7 (b63 k ss))))) G [0] (by show _ = AV.ren (nth [0]) (.v (.string (b6 (c7 ss)))); have e1 : (b6 (c7 ss) : ByteArray) = (b6 (c7 (b63 k ss))) := (by rw [b75 (by omega)]); (first | rw [e1] | simp only [e1]) <;> rfl)
  have q0 := L2 h0; have hb := bD1 h (show k < ss.length by omega); have b1 := bE5 (ss := ss) (show k < ss.length by omega); have b2 := Y0 (ss.getD k b55); refine rT G _ h0 (wp_skip (b0 (wp_seq (wp_block (wp_seq (G8 G d7 [0, 25, 26, 27, 28, 33] [dT ss, dE (ss.getD k b55).index.kids, dE (ss.getD k b55).value.kids, dT (ss.getD k b55).body, dT (ss.getD k b55).els, .box (sL (ss.getD k b55) 1)] (au8 ss k [(5, .ptr 5 0)]) (iX k k ss.length []) (iK (by omega) b70) fun G => b0 (wp_seq (j3 G d7 [(17, iA (ss.getD k b55).kind)] fun G => b0 (wp_block (wp_seq (A4 G d7 (au8 ss k [(5, .ptr 5 0), (17, iA (ss.getD k b55).kind), (30, bA ((ss.getD k b55).kind == 1))]) fun G => b0 ?_))))))))))); cases h1 : ((ss.getD k b55).kind == 1)
  ·
   have q1 := ne_of_beq_false h1; refine rF G _ h1 (wp_seq (A4 G d7 (au8 ss k [(5, .ptr 5 0), (17, iA (ss.getD k b55).kind), (43, bA ((ss.getD k b55).kind == 5))]) fun G => b0 ?_)); cases h2 : ((ss.getD k b55).kind == 5)
   ·
    have q2 := ne_of_beq_false h2; refine rF G _ h2 (wp_seq (A4 G d7 (au8 ss k [(5, .ptr 5 0), (17, iA (ss.getD k b55).kind), (56, bA ((ss.getD k b55).kind == 2))]) fun G => b0 ?_)); cases h3 : ((ss.getD k b55).kind == 2)
    ·
     have q3 := ne_of_beq_false h3; refine rF G _ h3 (wp_seq (A4 G d7 (au8 ss k [(5, .ptr 5 0), (77, bA ((ss.getD k b55).kind == 3))]) fun G => b0 ?_)); cases h4 : ((ss.getD k b55).kind == 3)
     · have q4 := ne_of_beq_false h4; have c5 := bP8 hb (by omega) (by omega) (by omega) (by omega); have c3 := C4 nv na d _ (ar5 hb); have l5 := ae5 (n := (ss.getD k b55).count.toNat) (by omega); refine rF G _ h4 (B2 G (x8 (m8 4 [] (bt7 ((ss.getD k b55).count) (by omega) (by omega)) (m8 9 [3] (ih ((ss.getD k b55).body) (ar5 hb) (by omega)) x7)) fz []) [0, 1, 0, 4, 12, 31, 63, 0, 128, 412, 1023, 2047, 4095] [0] [dT ss] [(0, .ref 0), (2, af9), (3, .v (.string (b6 (c7 (b63 k ss)) ++ ByteArray.mk #[114, 101, 112, 101, 97, 116] ++ b6 (Lib.decDigits (ss.getD k b55).count.toNat) ++ ByteArray.mk #[123] ++ b6 (c7 (ss.getD k b55).body) ++ ByteArray.mk #[125]))), (4, iA k)] [(↑((b6 (c7 (b63 k ss))).size + (ByteArray.mk #[(114 : UInt8), (101 : UInt8), (112 : UInt8), (101 : UInt8), (97 : UInt8), (116 : UInt8)]).size) : Int) <= 9223372036854775807, (↑((b6 (c7 (b63 k ss)) ++ ByteArray.mk #[(114 : UInt8), (101 : UInt8), (112 : UInt8), (101 : UInt8), (97 : UInt8), (116 : UInt8)]).size + (b6 (Lib.decDigits (ss.getD k b55).count.toNat)).size) : Int) <= 9223372036854775807, (↑((b6 (c7 (b63 k ss)) ++ ByteArray.mk #[(114 : UInt8), (101 : UInt8), (112 : UInt8), (101 : UInt8), (97 : UInt8), (116 : UInt8)] ++ b6 (Lib.decDigits (ss.getD k b55).count.toNat)).size + (ByteArray.mk #[(123 : UInt8)]).size) : Int) <= 9223372036854775807, (↑((b6 (c7 (b63 k ss)) ++ ByteArray.mk #[(114 : UInt8), (101 : UInt8), (112 : UInt8), (101 : UInt8), (97 : UInt8), (116 : UInt8)] ++ b6 (Lib.decDigits (ss.getD k b55).count.toNat) ++ ByteArray.mk #[(123 : UInt8)]).size + (b6 (c7 (ss.getD k b55).body)).size) : Int) <= 9223372036854775807, (↑((b6 (c7 (b63 k ss)) ++ ByteArray.mk #[(114 : UInt8), (101 : UInt8), (112 : UInt8), (101 : UInt8), (97 : UInt8), (116 : UInt8)] ++ b6 (Lib.decDigits (ss.getD k b55).count.toNat) ++ ByteArray.mk #[(123 : UInt8)] ++ b6 (c7 (ss.getD k b55).body)).size + (ByteArray.mk #[(125 : UInt8)]).size) : Int) <= 9223372036854775807] ⟨(by simp only [ByteArray.size_append, ByteArray.size_extract, f9, i7, b62, b58, b60]; omega), (by simp only [ByteArray.size_append, ByteArray.size_extract, f9, i7, b62, b58, b60]; omega), (by simp only [ByteArray.size_append, ByteArray.size_extract, f9, i7, b62, b58, b60]; omega), (by simp only [ByteArray.size_append, ByteArray.size_extract, f9, i7, b62, b58, b60]; omega), (by simp only [ByteArray.size_append, ByteArray.size_extract, f9, i7, b62, b58, b60]; omega), b70⟩ fun G => o9 (o9 (b0 (G7 G d7 [(4, iA ((k : Int) + 1))] [wO ((k : Int) + 1)] (o1 (by omega)) fun G => b0 ?_)))); exact Z9 G (k + 1) (by omega) (by omega) [0] (ht := by have e1 : (b6 (c7 (b63 (k + 1) ss)) : ByteArray) = (b6 (c7 (b63 k ss)) ++ ByteArray.mk #[114, 101, 112, 101, 97, 116] ++ b6 (Lib.decDigits (ss.getD k b55).count.toNat) ++ ByteArray.mk #[123] ++ b6 (c7 (ss.getD k b55).body) ++ ByteArray.mk #[125]) := (by have h9 : (ss.getD k b55).kind = 4 := (by omega) ; exact (b29 (by omega) h9).symm); (first | rw [e1] | simp only [e1]) <;> rfl)
     have q4 := eq_of_beq h4; have c3 := C4 nv na d _ (ar5 hb); have c4 := C4 nv na d _ (a62 hb); have l1 := E1 (J8 hb (by omega)); refine rT G _ h4 (B2 G (x8 (m8 4 [2] (he ((ss.getD k b55).value) (J8 hb (by omega))) (m8 9 [3] (ih ((ss.getD k b55).body) (ar5 hb) (by omega)) (m8 14 [4] (ih ((ss.getD k b55).els) (a62 hb) (by omega)) x7))) fz []) [0, 1, 0, 4, 12, 31, 63, 0, 128, 412, 1023, 2047, 0, 4096, 13212, 32767, 65535, 131071] [0] [dT ss] [(0, .ref 0), (2, af9), (3, .v (.string (b6 (c7 (b63 k ss)) ++ ByteArray.mk #[105, 102] ++ b6 (c8 (ss.getD k b55).value) ++ ByteArray.mk #[123] ++ b6 (c7 (ss.getD k b55).body) ++ ByteArray.mk #[125, 123] ++ b6 (c7 (ss.getD k b55).els) ++ ByteArray.mk #[125]))), (4, iA k)] [(↑((b6 (c7 (b63 k ss))).size + (ByteArray.mk #[(105 : UInt8), (102 : UInt8)]).size) : Int) <= 9223372036854775807, (↑((b6 (c7 (b63 k ss)) ++ ByteArray.mk #[(105 : UInt8), (102 : UInt8)]).size + (b6 (c8 (ss.getD k b55).value)).size) : Int) <= 9223372036854775807, (↑((b6 (c7 (b63 k ss)) ++ ByteArray.mk #[(105 : UInt8), (102 : UInt8)] ++ b6 (c8 (ss.getD k b55).value)).size + (ByteArray.mk #[(123 : UInt8)]).size) : Int) <= 9223372036854775807, (↑((b6 (c7 (b63 k ss)) ++ ByteArray.mk #[(105 : UInt8), (102 : UInt8)] ++ b6 (c8 (ss.getD k b55).value) ++ ByteArray.mk #[(123 : UInt8)]).size + (b6 (c7 (ss.getD k b55).body)).size) : Int) <= 9223372036854775807, (↑((b6 (c7 (b63 k ss)) ++ ByteArray.mk #[(105 : UInt8), (102 : UInt8)] ++ b6 (c8 (ss.getD k b55).value) ++ ByteArray.mk #[(123 : UInt8)] ++ b6 (c7 (ss.getD k b55).body)).size + (ByteArray.mk #[(125 : UInt8), (123 : UInt8)]).size) : Int) <= 9223372036854775807, (↑((b6 (c7 (b63 k ss)) ++ ByteArray.mk #[(105 : UInt8), (102 : UInt8)] ++ b6 (c8 (ss.getD k b55).value) ++ ByteArray.mk #[(123 : UInt8)] ++ b6 (c7 (ss.getD k b55).body) ++ ByteArray.mk #[(125 : UInt8), (123 : UInt8)]).size + (b6 (c7 (ss.getD k b55).els)).size) : Int) <= 9223372036854775807, (↑((b6 (c7 (b63 k ss)) ++ ByteArray.mk #[(105 : UInt8), (102 : UInt8)] ++ b6 (c8 (ss.getD k b55).value) ++ ByteArray.mk #[(123 : UInt8)] ++ b6 (c7 (ss.getD k b55).body) ++ ByteArray.mk #[(125 : UInt8), (123 : UInt8)] ++ b6 (c7 (ss.getD k b55).els)).size + (ByteArray.mk #[(125 : UInt8)]).size) : Int) <= 9223372036854775807] ⟨(by simp only [ByteArray.size_append, ByteArray.size_extract, f9, i7, b62, b58, b60]; omega), (by simp only [ByteArray.size_append, ByteArray.size_extract, f9, i7, b62, b58, b60]; omega), (by simp only [ByteArray.size_append, ByteArray.size_extract, f9, i7, b62, b58, b60]; omega), (by simp only [ByteArray.size_append, ByteArray.size_extract, f9, i7, b62, b58, b60]; omega), (by simp only [ByteArray.size_append, ByteArray.size_extract, f9, i7, b62, b58, b60]; omega), (by simp only [ByteArray.size_append, ByteArray.size_extract, f9, i7, b62, b58, b60]; omega), (by simp only [ByteArray.size_append, ByteArray.size_extract, f9, i7, b62, b58, b60]; omega), b70⟩ fun G => o9 (o9 (b0 (G7 G d7 [(4, iA ((k : Int) + 1))] [wO ((k : Int) + 1)] (o1 (by omega)) fun G => ?_))))
     refine b0 ?_; exact Z9 G (k + 1) (by omega) (by omega) [0] (ht := by have e1 : (b6 (c7 (b63 (k + 1) ss)) : ByteArray) = (b6 (c7 (b63 k ss)) ++ ByteArray.mk #[105, 102] ++ b6 (c8 (ss.getD k b55).value) ++ ByteArray.mk #[123] ++ b6 (c7 (ss.getD k b55).body) ++ ByteArray.mk #[125, 123] ++ b6 (c7 (ss.getD k b55).els) ++ ByteArray.mk #[125]) := (by have h9 : (ss.getD k b55).kind = 3 := (by omega) ; exact (b30 (by omega) h9).symm); (first | rw [e1] | simp only [e1]) <;> rfl)
    have q3 := eq_of_beq h3; have c2 := bD0 hb (by omega); have l1 := E1 (J8 hb (by omega)); have l2 := E1 (a61 hb (by omega)); refine rT G _ h3 (B2 G (x8 (m8 11 [1] (he ((ss.getD k b55).index) (a61 hb (by omega))) (m8 16 [2] (he ((ss.getD k b55).value) (J8 hb (by omega))) x7)) fz []) [0, 0, 2, 0, 8, 24, 62, 127, 255, 0, 512, 1536, 4095, 8191, 0, 16384, 52736, 131071, 262143, 524287] [0] [dT ss] [(0, .ref 0), (2, af9), (3, .v (.string (b6 (c7 (b63 k ss)) ++ (ByteArray.mk #[80, 81]).extract (ss.getD k b55).target.toNat ((ss.getD k b55).target + 1).toNat ++ ByteArray.mk #[91] ++ b6 (c8 (ss.getD k b55).index) ++ ByteArray.mk #[93, 58, 61] ++ b6 (c8 (ss.getD k b55).value) ++ ByteArray.mk #[59]))), (4, iA k)] [wO ((ss.getD k b55).target + 1), (0 : Int) <= (ss.getD k b55).target, (ss.getD k b55).target <= (ss.getD k b55).target + 1, (ss.getD k b55).target + 1 <= ((ByteArray.mk #[(80 : UInt8), (81 : UInt8)]).size : Int), (↑((b6 (c7 (b63 k ss))).size + ((ByteArray.mk #[(80 : UInt8), (81 : UInt8)]).extract (ss.getD k b55).target.toNat ((ss.getD k b55).target + 1).toNat).size) : Int) <= 9223372036854775807, (↑((b6 (c7 (b63 k ss)) ++ (ByteArray.mk #[(80 : UInt8), (81 : UInt8)]).extract (ss.getD k b55).target.toNat ((ss.getD k b55).target + 1).toNat).size + (ByteArray.mk #[(91 : UInt8)]).size) : Int) <= 9223372036854775807, (↑((b6 (c7 (b63 k ss)) ++ (ByteArray.mk #[(80 : UInt8), (81 : UInt8)]).extract (ss.getD k b55).target.toNat ((ss.getD k b55).target + 1).toNat ++ ByteArray.mk #[(91 : UInt8)]).size + (b6 (c8 (ss.getD k b55).index)).size) : Int) <= 9223372036854775807, (↑((b6 (c7 (b63 k ss)) ++ (ByteArray.mk #[(80 : UInt8), (81 : UInt8)]).extract (ss.getD k b55).target.toNat ((ss.getD k b55).target + 1).toNat ++ ByteArray.mk #[(91 : UInt8)] ++ b6 (c8 (ss.getD k b55).index)).size + (ByteArray.mk #[(93 : UInt8), (58 : UInt8), (61 : UInt8)]).size) : Int) <= 9223372036854775807, (↑((b6 (c7 (b63 k ss)) ++ (ByteArray.mk #[(80 : UInt8), (81 : UInt8)]).extract (ss.getD k b55).target.toNat ((ss.getD k b55).target + 1).toNat ++ ByteArray.mk #[(91 : UInt8)] ++ b6 (c8 (ss.getD k b55).index) ++ ByteArray.mk #[(93 : UInt8), (58 : UInt8), (61 : UInt8)]).size + (b6 (c8 (ss.getD k b55).value)).size) : Int) <= 9223372036854775807, (↑((b6 (c7 (b63 k ss)) ++ (ByteArray.mk #[(80 : UInt8), (81 : UInt8)]).extract (ss.getD k b55).target.toNat ((ss.getD k b55).target + 1).toNat ++ ByteArray.mk #[(91 : UInt8)] ++ b6 (c8 (ss.getD k b55).index) ++ ByteArray.mk #[(93 : UInt8), (58 : UInt8), (61 : UInt8)] ++ b6 (c8 (ss.getD k b55).value)).size + (ByteArray.mk #[(59 : UInt8)]).size) : Int) <= 9223372036854775807] ⟨oW (by omega), (by omega), (by omega), (by simp only [ByteArray.size_append, ByteArray.size_extract, f9, i7, b62, b58, b60]; omega), (by simp only [ByteArray.size_append, ByteArray.size_extract, f9, i7, b62, b58, b60]; omega), (by simp only [ByteArray.size_append, ByteArray.size_extract, f9, i7, b62, b58, b60]; omega), (by simp only [ByteArray.size_append, ByteArray.size_extract, f9, i7, b62, b58, b60]; omega), (by simp only [ByteArray.size_append, ByteArray.size_extract, f9, i7, b62, b58, b60]; omega), (by simp only [ByteArray.size_append, ByteArray.size_extract, f9, i7, b62, b58, b60]; omega), (by simp only [ByteArray.size_append, ByteArray.size_extract, f9, i7, b62, b58, b60]; omega), b70⟩ fun G => ?_)
    refine o9 (o9 (b0 (G7 G d7 [(4, iA ((k : Int) + 1))] [wO ((k : Int) + 1)] (o1 (by omega)) fun G => b0 ?_))); exact Z9 G (k + 1) (by omega) (by omega) [0] (ht := by have e1 : (b6 (c7 (b63 (k + 1) ss)) : ByteArray) = (b6 (c7 (b63 k ss)) ++ (ByteArray.mk #[80, 81]).extract (ss.getD k b55).target.toNat ((ss.getD k b55).target + 1).toNat ++ ByteArray.mk #[91] ++ b6 (c8 (ss.getD k b55).index) ++ ByteArray.mk #[93, 58, 61] ++ b6 (c8 (ss.getD k b55).value) ++ ByteArray.mk #[59]) := (by have h9 : (ss.getD k b55).kind = 2 := (by omega) ; exact (b31 (by omega) h9 (by omega) (by omega)).symm); (first | rw [e1] | simp only [e1]) <;> rfl)
   have q2 := eq_of_beq h2; have c1 := a60 hb (by omega); have l1 := E1 (J8 hb (by omega)); refine rT G _ h2 (B2 G (x8 (m8 3 [] (bb3 ((ss.getD k b55).target) (by omega) (by omega)) (m8 8 [2] (he ((ss.getD k b55).value) (J8 hb (by omega))) x7)) fz []) [0, 0, 2, 6, 15, 31, 0, 64, 206, 511, 1023, 2047] [0] [dT ss] [(0, .ref 0), (2, af9), (3, .v (.string (b6 (c7 (b63 k ss)) ++ b6 [UInt8.ofNat (97 + (ss.getD k b55).target.toNat)] ++ ByteArray.mk #[33, 61] ++ b6 (c8 (ss.getD k b55).value) ++ ByteArray.mk #[59]))), (4, iA k)] [(↑((b6 (c7 (b63 k ss))).size + (b6 [UInt8.ofNat ((97 : Nat) + (ss.getD k b55).target.toNat)]).size) : Int) <= 9223372036854775807, (↑((b6 (c7 (b63 k ss)) ++ b6 [UInt8.ofNat ((97 : Nat) + (ss.getD k b55).target.toNat)]).size + (ByteArray.mk #[(33 : UInt8), (61 : UInt8)]).size) : Int) <= 9223372036854775807, (↑((b6 (c7 (b63 k ss)) ++ b6 [UInt8.ofNat ((97 : Nat) + (ss.getD k b55).target.toNat)] ++ ByteArray.mk #[(33 : UInt8), (61 : UInt8)]).size + (b6 (c8 (ss.getD k b55).value)).size) : Int) <= 9223372036854775807, (↑((b6 (c7 (b63 k ss)) ++ b6 [UInt8.ofNat ((97 : Nat) + (ss.getD k b55).target.toNat)] ++ ByteArray.mk #[(33 : UInt8), (61 : UInt8)] ++ b6 (c8 (ss.getD k b55).value)).size + (ByteArray.mk #[(59 : UInt8)]).size) : Int) <= 9223372036854775807] ⟨(by simp only [ByteArray.size_append, ByteArray.size_extract, f9, i7, b62, b58, b60]; omega), (by simp only [ByteArray.size_append, ByteArray.size_extract, f9, i7, b62, b58, b60]; omega), (by simp only [ByteArray.size_append, ByteArray.size_extract, f9, i7, b62, b58, b60]; omega), (by simp only [ByteArray.size_append, ByteArray.size_extract, f9, i7, b62, b58, b60]; omega), b70⟩ fun G => o9 (o9 (b0 (G7 G d7 [(4, iA ((k : Int) + 1))] [wO ((k : Int) + 1)] (o1 (by omega)) fun G => b0 ?_)))); exact Z9 G (k + 1) (by omega) (by omega) [0] (ht := by have e1 : (b6 (c7 (b63 (k + 1) ss)) : ByteArray) = (b6 (c7 (b63 k ss)) ++ b6 [UInt8.ofNat (97 + (ss.getD k b55).target.toNat)] ++ ByteArray.mk #[33, 61] ++ b6 (c8 (ss.getD k b55).value) ++ ByteArray.mk #[59]) := (by have h9 : (ss.getD k b55).kind = 5 := (by omega) ; exact (b28 (by omega) h9).symm); (first | rw [e1] | simp only [e1]) <;> rfl)
  have q1 := eq_of_beq h1; have c1 := a60 hb (by omega); have l1 := E1 (J8 hb (by omega)); refine rT G _ h1 (B2 G (x8 (m8 3 [] (bb3 ((ss.getD k b55).target) (by omega) (by omega)) (m8 8 [2] (he ((ss.getD k b55).value) (J8 hb (by omega))) x7)) fz []) [0, 0, 2, 6, 15, 31, 0, 64, 206, 511, 1023, 2047] [0] [dT ss] [(0, .ref 0), (2, af9), (3, .v (.string (b6 (c7 (b63 k ss)) ++ b6 [UInt8.ofNat (97 + (ss.getD k b55).target.toNat)] ++ ByteArray.mk #[58, 61] ++ b6 (c8 (ss.getD k b55).value) ++ ByteArray.mk #[59]))), (4, iA k)] [(↑((b6 (c7 (b63 k ss))).size + (b6 [UInt8.ofNat ((97 : Nat) + (ss.getD k b55).target.toNat)]).size) : Int) <= 9223372036854775807, (↑((b6 (c7 (b63 k ss)) ++ b6 [UInt8.ofNat ((97 : Nat) + (ss.getD k b55).target.toNat)]).size + (ByteArray.mk #[(58 : UInt8), (61 : UInt8)]).size) : Int) <= 9223372036854775807, (↑((b6 (c7 (b63 k ss)) ++ b6 [UInt8.ofNat ((97 : Nat) + (ss.getD k b55).target.toNat)] ++ ByteArray.mk #[(58 : UInt8), (61 : UInt8)]).size + (b6 (c8 (ss.getD k b55).value)).size) : Int) <= 9223372036854775807, (↑((b6 (c7 (b63 k ss)) ++ b6 [UInt8.ofNat ((97 : Nat) + (ss.getD k b55).target.toNat)] ++ ByteArray.mk #[(58 : UInt8), (61 : UInt8)] ++ b6 (c8 (ss.getD k b55).value)).size + (ByteArray.mk #[(59 : UInt8)]).size) : Int) <= 9223372036854775807] ⟨(by simp only [ByteArray.size_append, ByteArray.size_extract, f9, i7, b62, b58, b60]; omega), (by simp only [ByteArray.size_append, ByteArray.size_extract, f9, i7, b62, b58, b60]; omega), (by simp only [ByteArray.size_append, ByteArray.size_extract, f9, i7, b62, b58, b60]; omega), (by simp only [ByteArray.size_append, ByteArray.size_extract, f9, i7, b62, b58, b60]; omega), b70⟩ fun G => o9 (o9 (b0 (G7 G d7 [(4, iA ((k : Int) + 1))] [wO ((k : Int) + 1)] (o1 (by omega)) fun G => b0 ?_)))); exact Z9 G (k + 1) (by omega) (by omega) [0] (ht := by have e1 : (b6 (c7 (b63 (k + 1) ss)) : ByteArray) = (b6 (c7 (b63 k ss)) ++ b6 [UInt8.ofNat (97 + (ss.getD k b55).target.toNat)] ++ ByteArray.mk #[58, 61] ++ b6 (c8 (ss.getD k b55).value) ++ ByteArray.mk #[59]) := (by have h9 : (ss.getD k b55).kind = 1 := (by omega) ; exact (b32 (by omega) h9).symm); (first | rw [e1] | simp only [e1]) <;> rfl)
theorem a26 : j1.ok Tryz.prog (F9 32 [.ref 0] [dT []] (tA (c7 []))) := by
 refine D2 97 Tryz.func32 [dT []] [(0, .ref 0)] fun G => ?_; refine wp_seq (j3 G d7 [(2, .v (.string (ByteArray.mk #[])))] fun G => b0 (wp_seq (j3 G d7 [(3, .v (.string (ByteArray.mk #[])))] fun G => b0 (wp_seq (wp_seq (A4 G d7 [(0, .ref 0), (2, .v (.string (ByteArray.mk #[]))), (3, .v (.string (ByteArray.mk #[]))), (4, iA 0)] fun G => b0 (wp_block ?_))))))); refine x4 (κ := Nat) (fun k => k = 0) (fun k => 0) (fun k => [dT []]) (fun k => [(0, .ref 0), (2, .v (.string (ByteArray.mk #[]))), (3, .v (.string (b6 []))), (4, iA k)]) 0 (by kernel_rfl) (w6.at G _ _) ?_; clear G; intro k ρ a w hp G; refine wp_seq (wp_seq (j3 G d7 [(9, bA false)] fun G => b0 (rF G false (by kernel_rfl) (wp_exit (p8 (p8 (p7 (b0 (wp_seq (j3 G d7 [(2, .v (.string (b6 [])))] fun G => b0 (wp_ret ?_))))))))))); exact H9 G [0]
theorem aS4 (nv na : Nat) (hnv : nv <= 12) (hna : na <= 2) : ∀ (d : Nat) (ss : List b5), (∀ s ∈ ss, j4 nv na d s = true) -> S0 ss <= 60 -> j1.ok Tryz.prog (F9 32 [.ref 0] [dT ss] (tA (c7 ss)))
 | 0, [], _, _ => a26
 | 0, s :: r, h, _ => by have := h s b72; simp [j4] at this
 | d + 1, ss, h, hn => bc5 nv na d hnv hna (aS4 nv na hnv hna d) ss h hn
theorem aS2 {ls : List Int} (k : Nat) : (n5 (ls.take k)).length <= ls.length := by
 unfold n5; rw [List.length_map]; exact List.length_take_le' k ls
theorem aF8 {l : Int} (h : s9 l = true) : 0 <= l /\ l <= 3 := by
 unfold s9 at h
 simpa only [b57, decide_eq_true_eq] using h
theorem bo4 {ls : List Int} (h : ls.all s9 = true) {k : Nat} (hk : k < ls.length) : s9 (ls.getD k 0) = true := by
 rw [m9 hk]; exact b68.1 h _ (b64 hk)
theorem b33 {ls : List Int} {k : Nat} (hk : k < ls.length) (h : s9 (ls.getD k 0) = true) : b6 (n5 (ls.take k)) ++ ByteArray.extract ⟨#[76, 72, 85, 88]⟩ (ls.getD k 0).toNat (ls.getD k 0 + 1).toNat = b6 (n5 (ls.take (k + 1))) := by
 rw [bz1 h, ay7 hk, J5]
abbrev aD2 : AV := .v (.string (ByteArray.mk #[]))
theorem ad3 (ls : List Int) (h : ls.all s9 = true) (hl : ls.length <= 1000) : j1.ok Tryz.prog (F9 31 [.ref 0] [dI ls] (tA (n5 ls))) := by
 refine D2 30 Tryz.func31 [dI ls] [(0, .ref 0)] fun G => ?_; refine wp_seq (j3 G d7 [(2, aD2)] fun G => b0 (wp_seq (j3 G d7 [(3, aD2)] fun G => b0 (wp_seq (wp_seq (A4 G d7 [(0, .ref 0), (2, aD2), (3, aD2), (4, iA 0)] fun G => b0 (wp_block ?_))))))); refine x4 (κ := Nat) (fun k => k <= ls.length) (fun k => ls.length - k) (fun k => [dI ls]) (fun k => [(0, .ref 0), (2, .v (.string (ByteArray.mk #[]))), (3, .v (.string (b6 (n5 (ls.take k))))), (4, iA k)]) 0 (by omega) (w6.at G _ _) ?_; clear G; intro k ρ a w hp G; replace G := w6.at G [dI ls] [(0, .ref 0), (2, aD2), (3, .v (.string (b6 (n5 (b63 k ls))))), (4, iA k)]; have ht := aS2 (ls := ls) k; refine wp_seq (wp_seq (A4 G d7 [(0, .ref 0), (2, aD2), (3, .v (.string (b6 (n5 (b63 k ls))))), (4, iA k), (8, bA (decide ((k : Int) < ls.length)))] fun G => b0 ?_)); cases h0 : (decide ((k : Int) < ls.length))
 ·have q0 := L3 h0; refine rF G _ h0 (wp_exit (p8 (p8 (p7 (b0 (wp_seq (j3 G d7 [(2, .v (.string (b6 (n5 (b63 k ls)))))] fun G => b0 (wp_ret ?_)))))))); exact E0 (.v (.string (b6 (n5 (b63 k ls))))) G [0] (by show _ = AV.ren (nth [0]) (.v (.string (b6 (n5 ls)))); have e1 : (b6 (n5 ls) : ByteArray) = (b6 (n5 (b63 k ls))) := (by rw [b75 (by omega)]); (first | rw [e1] | simp only [e1]) <;> rfl)
 have q0 := L2 h0; have hb := bo4 h (show k < ls.length by omega); have hb2 := aF8 hb; refine rT G _ h0 (wp_skip (b0 (wp_seq (wp_block (wp_seq (wp_seq (G7 G (n4 4 [] (aM7 (ls.getD k 0))) [(16, .v (.bool !s9 (ls.getD k 0)))] (iX k k ls.length []) (iK (by omega) b70) fun G => b0 (rF G (!s9 (ls.getD k (0 : Int))) (by rw [hb]; rfl) (wp_skip (b0 (aQ7 G d7 [0, 0, 0, 6, 14, 0, 0, 96, 224, 480, 1022, 2047, 4095] [(3, .v (.string (b6 (n5 (b63 k ls)) ++ (ByteArray.mk #[76, 72, 85, 88]).extract (ls.getD k 0).toNat (ls.getD k 0 + 1).toNat)))] (iX k k ls.length (iX k k ls.length ((wO (ls.getD k (0 : Int) + 1)) :: (((0 : Int) <= ls.getD k (0 : Int)) :: ((ls.getD k (0 : Int) <= ls.getD k (0 : Int) + 1) :: ((ls.getD k (0 : Int) + 1 <= ((ByteArray.mk #[(76 : UInt8), (72 : UInt8), (85 : UInt8), (88 : UInt8)]).size : Int)) :: (((↑((b6 (n5 (b63 k ls))).size + ((ByteArray.mk #[(76 : UInt8), (72 : UInt8), (85 : UInt8), (88 : UInt8)]).extract (ls.getD k (0 : Int)).toNat (ls.getD k (0 : Int) + 1).toNat).size) : Int) <= 9223372036854775807) :: []))))))) (iK (by omega) (iK (by omega) ⟨oW (by omega), ⟨(by omega), ⟨(by omega), ⟨(by simp only [ByteArray.size_append, ByteArray.size_extract, f9, i7, b62, b58, b60]; omega), ⟨(by simp only [ByteArray.size_append, ByteArray.size_extract, f9, i7, b62, b58, b60]; omega), b70⟩⟩⟩⟩⟩)) fun G => o9 (b0 (G7 G d7 [(4, iA ((k : Int) + 1))] [wO ((k : Int) + 1)] (o1 (by omega)) fun G => b0 ?_))))))))))))); exact Z9 G (k + 1) (by omega) (by omega) [0] (ht := by have e1 : (b6 (n5 (b63 (k + 1) ls)) : ByteArray) = (b6 (n5 (b63 k ls)) ++ (ByteArray.mk #[76, 72, 85, 88]).extract (ls.getD k 0).toNat (ls.getD k 0 + 1).toNat) := ((b33 (by omega) hb).symm); (first | rw [e1] | simp only [e1]) <;> rfl)
theorem a32 (l m : List UInt8) : Lib.byteCells (l ++ m) = Lib.byteCells l ++ Lib.byteCells m := by simp [Lib.byteCells]
theorem bo3 {l : Int} (h : s9 l = true) : ∃ n : Nat, l = n /\ n < 4 /\ ((⟨#[76, 72, 85, 88]⟩ : ByteArray).data.toList.getD n 0) = aL4 l := by
 obtain ⟨h0, h1⟩ := aF8 h
 have : l = 0 \/ l = 1 \/ l = 2 \/ l = 3 := by omega
 rcases this with rfl | rfl | rfl | rfl
 ·exact ⟨0, rfl, by omega, by decide +kernel⟩
 ·exact ⟨1, rfl, by omega, by decide +kernel⟩
 ·exact ⟨2, rfl, by omega, by decide +kernel⟩
 exact ⟨3, rfl, by omega, by decide +kernel⟩
theorem al1 (v : Value) (ls : List Int) (w : World) (h : V0 w v ls.length 1 (ints ls)) (hok : ls.all s9 = true) (hl : ls.length <= 1000) :
  Calls Tryz.prog 51 #[v] w fun e w' => e = .returned (.string ⟨(n5 ls).toArray⟩) /\ Below w.heap.size w w' := by
 obtain ⟨a, cap, rfl, hcap, hn, hcm, hc⟩ := h.open1
 have HR : Hid (V0 w (.slice a ls.length cap) ls.length 1 (ints ls)) := h
 have HAL : Hid (∀ w' : World, V0 w' (.slice a ls.length cap) ls.length 1 (ints ls) -> Calls Tryz.prog 62 #[.slice a ls.length cap] w' fun e w'' => e = .returned (.bool true) /\ w' = w'') := fun w' h' => by
  have HA := M7 _ ls w' h'
  rw [hok] at HA
  exact HA
 have HOK := show Hid _ from hok
 clear h hok
 have hB0 : Lib.IsBuilder 109 5 w.heap.size w.heap.size (Lib.byteCells (n5 (ls.take 0))) (w.alloc (.cells #[.pointer none, .slice none 0 0] 109)) := Lib.fresh_isBuilder _ _ _
 have HB := show Hid _ from hB0
 clear hB0
 go_enter Tryz.func51, Tryz.ntmps51
 go_wp2_with fail
 refine (HAL.out _ HR.out).mono ?_
 rintro e w1 ⟨rfl, rfl⟩
 go_wp2_with fail
 go_loopw [5, 11] (fun _ i wr => ∃ (k : Nat), k <= ls.length /\ i = .int .i64 k /\ Lib.IsBuilder 109 5 w.heap.size w.heap.size (Lib.byteCells (n5 (ls.take k))) wr /\ Below w.heap.size w wr) (fun _ i _ => ls.length - (intOf i).toNat)
 case atStart => exact ⟨0, b92 _, rfl, HB.out, (Below.refl _ _).alloc (b71 _) _⟩
 case round =>
  obtain ⟨k, hk, rfl, hbd, hbw⟩ := hrel
  have HBD := show Hid _ from hbd
  clear hbd HB
  by_cases hlt : k < ls.length
  ·obtain ⟨b, off, rfl, hb1, hx⟩ := hc k hlt
   have hlo := bo4 HOK.out hlt
   rw [m9 hlt] at hlo
   obtain ⟨n, hn1, hn4, hn2⟩ := bo3 hlo
   have hxk : (ints ls)[k]? = some (.int .i64 n) := by simp [ints, hlt, hn1]
   rw [hxk, <- (x9 hbw).1 _ _ hb1] at hx
   have HN := show Hid _ from hn2
   have HLN := ay7 hlt
   rw [m9 hlt] at HLN
   have H1 := show Hid _ from HLN
   have hlen : Hid ((Lib.byteCells (n5 (ls.take k))).length + 1 <= 140737488355328) := by
    have h2 := aS2 (ls := ls) k
    show _ + 1 <= _
    simp only [Lib.byteCells, List.length_map]
    omega
   clear hc hxk hn2 HLN hlo hn1
   go_wp2_with fail
   refine (am1 w.heap.size w.heap.size _ _ _ HBD.out hlen.out hbw.size).mono ?_
   rintro e w1 ⟨rfl, hba, hbb⟩
   have HBA := show Hid _ from hba
   clear hba
   go_wp2_with fail
   refine ⟨⟨k + 1, by omega, by go_num, ?_, hbw.trans hbb⟩, by simp [intOf]; omega⟩
   rw [H1.out, a32]
   have h9 := HBA.out
   rw [show (Lib.byteCells [aL4 ls[k]]) = [.int .u8 ((aL4 ls[k]).toNat : Int)] from rfl, <- HN.out]
   have h4 : n = 0 \/ n = 1 \/ n = 2 \/ n = 3 := by omega
   rcases h4 with rfl | rfl | rfl | rfl <;> exact .inr h9
  go_wp2_with fail
  refine (aB4 w.heap.size w.heap.size _ _ HBD.out hbw.size).mono ?_
  rintro e w1 ⟨rfl, hb9⟩
  go_wp2_with fail
  go_ret
  rw [b75 (by omega)]
  exact ⟨rfl, hbw.trans hb9⟩
theorem aa4 (ls : List Int) (h : ls.all s9 = true) (hl : ls.length <= 1000) : j1.ok Tryz.prog (F9 51 [.ref 0] [dI ls] (tA (n5 ls))) :=
 O4 fun φ w ρ hd => al1 (ρ 0) ls w (z8.row (hd 0 _ rfl)) h hl
section
variable {ss : List b5} {k : Nat} (hk : k < ss.length)
include hk
theorem b27 (hq : (ss.getD k b55).kind = 1) : b6 (c7 (ss.take k)) ++ (b6 [UInt8.ofNat (97 + (ss.getD k b55).target.toNat)] ++ ⟨#[58, 61]⟩ ++ b6 (c8 (ss.getD k b55).value) ++ ⟨#[59]⟩) = b6 (c7 (ss.take (k + 1))) := by
 rw [E5 hk, v6, stT, if_pos hq]; show _ = b6 _; simp only [M6, J5, b83]
theorem b23 (hq : (ss.getD k b55).kind = 5) : b6 (c7 (ss.take k)) ++ (b6 [UInt8.ofNat (97 + (ss.getD k b55).target.toNat)] ++ ⟨#[33, 61]⟩ ++ b6 (c8 (ss.getD k b55).value) ++ ⟨#[59]⟩) = b6 (c7 (ss.take (k + 1))) := by
 rw [E5 hk, v6, stT, if_neg (by omega), if_pos hq]; show _ = b6 _; simp only [M6, J5, b83]
theorem b26 (hq : (ss.getD k b55).kind = 2) : b6 (c7 (ss.take k)) ++ (b6 [UInt8.ofNat (80 + (ss.getD k b55).target.toNat)] ++ ⟨#[91]⟩ ++ b6 (c8 (ss.getD k b55).index) ++ ⟨#[93, 58, 61]⟩ ++ b6 (c8 (ss.getD k b55).value) ++ ⟨#[59]⟩) = b6 (c7 (ss.take (k + 1))) := by
 rw [E5 hk, v6, stT, if_neg (by omega), if_neg (by omega), if_pos hq]; show _ = b6 _; simp only [M6, J5, b83]
theorem b25 (hq : (ss.getD k b55).kind = 3) : b6 (c7 (ss.take k)) ++ (⟨#[105, 102]⟩ ++ b6 (c8 (ss.getD k b55).value) ++ ⟨#[123]⟩ ++ b6 (c7 (ss.getD k b55).body) ++ ⟨#[125, 123]⟩ ++ b6 (c7 (ss.getD k b55).els) ++ ⟨#[125]⟩) = b6 (c7 (ss.take (k + 1))) := by
 rw [E5 hk, v6, stT, if_neg (by omega), if_neg (by omega), if_neg (by omega), if_pos hq]; show _ = b6 _; simp only [M6, J5, b83]
theorem b24 (hq : (ss.getD k b55).kind = 4) : b6 (c7 (ss.take k)) ++ (⟨#[114, 101, 112, 101, 97, 116]⟩ ++ b6 (Lib.decDigits (ss.getD k b55).count.toNat) ++ ⟨#[123]⟩ ++ b6 (c7 (ss.getD k b55).body) ++ ⟨#[125]⟩) = b6 (c7 (ss.take (k + 1))) := by
 rw [E5 hk, v6, stT, if_neg (by omega), if_neg (by omega), if_neg (by omega), if_neg (by omega)]; show _ = b6 _; simp only [M6, J5, b83]
end
theorem ah4 {p : j0} (h : o6 p = true) : C9 p.vars p.arrays = true /\ (∀ s ∈ p.body, j4 p.vars.length p.arrays.length 5 s = true) /\ S0 p.body <= 60 := by
 unfold o6 at h
 simp only [b57, decide_eq_true_eq] at h
 exact ⟨h.1.1, b68.1 h.1.2, h.2⟩
theorem ac8 {vs ars : List Int} (h : C9 vs ars = true) : vs.all s9 = true /\ ars.all s9 = true /\ 1 <= vs.length /\ vs.length <= 12 /\ ars.length <= 2 := by
 unfold C9 at h
 simp only [b57, decide_eq_true_eq] at h
 exact ⟨h.1.1.1.1, h.1.1.1.2, h.1.1.2, h.1.2, h.2⟩
theorem W8 (ls : List Int) : (n5 ls).length = ls.length := by simp [n5]
theorem b42 {p : j0} (h : o6 p = true) : b6 (n5 p.vars) ++ ⟨#[47]⟩ ++ b6 (n5 p.arrays) ++ ⟨#[47]⟩ ++ b6 (c7 p.body) = b6 (I9 p) := by
 unfold I9; rw [if_pos h, F0]; show _ = b6 _; simp only [M6, J5]
theorem bV2 {p : j0} (h : o6 p = false) : (⟨#[]⟩ : ByteArray) = b6 (I9 p) := by
 unfold I9; rw [h]; rfl
abbrev Q6 : AV := .v (.string (ByteArray.mk #[]))
abbrev aq5 (ss : List b5) (k : Nat) : AV := .v (.string (b6 (c7 (b63 k ss))))
abbrev Z2 (ss : List b5) (k : Nat) (r0 : List (Nat × AV)) : List (Nat × AV) := (6, .ref 0) :: (7, iA (ss.length : Int)) :: (8, iA (k : Int)) :: r0
theorem aQ0 (nv na d : Nat) (hnv : nv <= 12) (hna : na <= 2) (ih : ∀ (ss : List b5), (∀ s ∈ ss, j4 nv na d s = true) -> S0 ss <= 60 -> j1.ok Tryz.prog (F9 52 [.ref 0] [dT ss] (tA (c7 ss)))) (ss : List b5) (h : ∀ s ∈ ss, j4 nv na (d + 1) s = true) (hn : S0 ss <= 60) : j1.ok Tryz.prog (F9 52 [.ref 0] [dT ss] (tA (c7 ss))) := by
  have hl0 := a07 ss
  have he := fun e h => a28 nv na hnv hna e h
  refine D2 91 Tryz.func52 [dT ss] [(0, .ref 0)] fun G => ?_; refine wp_seq (j3 G d7 [(2, Q6)] fun G => b0 (wp_seq (j3 G d7 [(3, Q6)] fun G => b0 (wp_seq (wp_seq (A4 G d7 [(2, Q6), (3, Q6), (6, .ref 0), (7, iA (ss.length : Int)), (8, iA 0)] fun G => b0 (wp_block ?_))))))); refine x4 (κ := Nat) (fun k => k <= ss.length) (fun k => ss.length - k) (fun k => [dT ss]) (fun k => [(2, .v (.string (ByteArray.mk #[]))), (3, .v (.string (b6 (c7 (ss.take k))))), (6, .ref 0), (7, iA (ss.length : Int)), (8, iA k)]) 0 (by omega) (w6.at G _ _) ?_; clear G; intro k ρ a w hp G; replace G := w6.at G [dT ss] ((2, Q6) :: (3, aq5 ss k) :: (Z2 ss k [])); have ht := bi5 h k; refine wp_seq (A4 G d7 ((2, Q6) :: (3, aq5 ss k) :: (Z2 ss k [(9, bA (decide ((k : Int) < ss.length)))])) fun G => b0 (wp_seq ?_)); cases h0 : (decide ((k : Int) < ss.length))
  · have q0 := L3 h0; refine rF G _ h0 (wp_exit (p8 (p8 (p7 (b0 (wp_seq (j3 G d7 [(2, aq5 ss k)] fun G => b0 (wp_ret ?_)))))))); exact E0 (.v (.string (b6 (c7 (b63 k ss))))) G [0] (by show _ = AV.ren (nth [0]) (.v (.string (b6 (c7 ss)))); have e1 : (b6 (c7 ss) : ByteArray) = (b6 (c7 (b63 k ss))) := (by rw [b75 (by omega)]); (first | rw [e1] | simp only [e1]) <;> rfl)
  have q0 := L2 h0; have hb := bD1 h (show k < ss.length by omega); have b1 := bE5 (ss := ss) (show k < ss.length by omega); have b2 := Y0 (ss.getD k b55); refine rT G _ h0 (wp_skip (b0 (wp_seq (wp_block (wp_seq (G8 G d7 [0, 9, 10, 11, 12, 17] [dT ss, dE (ss.getD k b55).index.kids, dE (ss.getD k b55).value.kids, dT (ss.getD k b55).body, dT (ss.getD k b55).els, .box (sL (ss.getD k b55) 1)] ((2, Q6) :: (3, aq5 ss k) :: (5, .ptr 5 0) :: (Z2 ss k [])) (iX k k ss.length []) (iK (by omega) b70) fun G => b0 (wp_seq (j3 G d7 [(13, iA (ss.getD k b55).kind)] fun G => b0 (wp_block (wp_seq (A4 G d7 ((2, Q6) :: (3, aq5 ss k) :: (5, .ptr 5 0) :: (Z2 ss k [(13, iA (ss.getD k b55).kind), (26, bA ((ss.getD k b55).kind == 1))])) fun G => b0 ?_))))))))))); cases h1 : ((ss.getD k b55).kind == 1)
  ·
   have q1 := ne_of_beq_false h1; refine rF G _ h1 (wp_seq (A4 G d7 ((2, Q6) :: (3, aq5 ss k) :: (5, .ptr 5 0) :: (Z2 ss k [(13, iA (ss.getD k b55).kind), (39, bA ((ss.getD k b55).kind == 5))])) fun G => b0 ?_)); cases h2 : ((ss.getD k b55).kind == 5)
   ·
    have q2 := ne_of_beq_false h2; refine rF G _ h2 (wp_seq (A4 G d7 ((2, Q6) :: (3, aq5 ss k) :: (5, .ptr 5 0) :: (Z2 ss k [(13, iA (ss.getD k b55).kind), (52, bA ((ss.getD k b55).kind == 2))])) fun G => b0 ?_)); cases h3 : ((ss.getD k b55).kind == 2)
    ·
     have q3 := ne_of_beq_false h3; refine rF G _ h3 (wp_seq (A4 G d7 ((2, Q6) :: (3, aq5 ss k) :: (5, .ptr 5 0) :: (Z2 ss k [(70, bA ((ss.getD k b55).kind == 3))])) fun G => b0 ?_)); cases h4 : ((ss.getD k b55).kind == 3)
     · have q4 := ne_of_beq_false h4; have c5 := bP8 hb (by omega) (by omega) (by omega) (by omega); have c3 := C4 nv na d _ (ar5 hb); have l5 := ae5 (n := (ss.getD k b55).count.toNat) (by omega); refine rF G _ h4 (B2 G (x8 (m8 3 [] (bO3 ((ss.getD k b55).count) (by omega) (by omega)) (m8 8 [3] (ih ((ss.getD k b55).body) (ar5 hb) (by omega)) x7)) fz []) [0, 0, 2, 6, 14, 30, 0, 64, 206, 510, 1022, 2047, 4095] [0] [dT ss] ((2, Q6) :: (3, .v (.string (b6 (c7 (b63 k ss)) ++ (ByteArray.mk #[114, 101, 112, 101, 97, 116] ++ b6 (Lib.decDigits (ss.getD k b55).count.toNat) ++ ByteArray.mk #[123] ++ b6 (c7 (ss.getD k b55).body) ++ ByteArray.mk #[125])))) :: (Z2 ss k [])) [(↑((ByteArray.mk #[(114 : UInt8), (101 : UInt8), (112 : UInt8), (101 : UInt8), (97 : UInt8), (116 : UInt8)]).size + (b6 (Lib.decDigits (ss.getD k b55).count.toNat)).size) : Int) <= 9223372036854775807, (↑((ByteArray.mk #[(114 : UInt8), (101 : UInt8), (112 : UInt8), (101 : UInt8), (97 : UInt8), (116 : UInt8)] ++ b6 (Lib.decDigits (ss.getD k b55).count.toNat)).size + (ByteArray.mk #[(123 : UInt8)]).size) : Int) <= 9223372036854775807, (↑((ByteArray.mk #[(114 : UInt8), (101 : UInt8), (112 : UInt8), (101 : UInt8), (97 : UInt8), (116 : UInt8)] ++ b6 (Lib.decDigits (ss.getD k b55).count.toNat) ++ ByteArray.mk #[(123 : UInt8)]).size + (b6 (c7 (ss.getD k b55).body)).size) : Int) <= 9223372036854775807, (↑((ByteArray.mk #[(114 : UInt8), (101 : UInt8), (112 : UInt8), (101 : UInt8), (97 : UInt8), (116 : UInt8)] ++ b6 (Lib.decDigits (ss.getD k b55).count.toNat) ++ ByteArray.mk #[(123 : UInt8)] ++ b6 (c7 (ss.getD k b55).body)).size + (ByteArray.mk #[(125 : UInt8)]).size) : Int) <= 9223372036854775807, (↑((b6 (c7 (b63 k ss))).size + (ByteArray.mk #[(114 : UInt8), (101 : UInt8), (112 : UInt8), (101 : UInt8), (97 : UInt8), (116 : UInt8)] ++ b6 (Lib.decDigits (ss.getD k b55).count.toNat) ++ ByteArray.mk #[(123 : UInt8)] ++ b6 (c7 (ss.getD k b55).body) ++ ByteArray.mk #[(125 : UInt8)]).size) : Int) <= 9223372036854775807] ⟨(by simp only [ByteArray.size_append, f9, i7, b62, b58, b60]; omega), (by simp only [ByteArray.size_append, f9, i7, b62, b58, b60]; omega), (by simp only [ByteArray.size_append, f9, i7, b62, b58, b60]; omega), (by simp only [ByteArray.size_append, f9, i7, b62, b58, b60]; omega), (by simp only [ByteArray.size_append, f9, i7, b62, b58, b60]; omega), b70⟩ fun G => o9 (o9 (b0 (G7 G d7 [(8, iA ((k : Int) + 1))] [wO ((k : Int) + 1)] (o1 (by omega)) fun G => b0 ?_)))); exact Z9 G (k + 1) (by omega) (by omega) [0] (ht := by have e1 : (b6 (c7 (b63 (k + 1) ss)) : ByteArray) = (b6 (c7 (b63 k ss)) ++ (ByteArray.mk #[114, 101, 112, 101, 97, 116] ++ b6 (Lib.decDigits (ss.getD k b55).count.toNat) ++ ByteArray.mk #[123] ++ b6 (c7 (ss.getD k b55).body) ++ ByteArray.mk #[125])) := (by have h9 : (ss.getD k b55).kind = 4 := (by omega) ; exact (b24 (by omega) h9).symm); (first | rw [e1] | simp only [e1]) <;> rfl)
     have q4 := eq_of_beq h4; have c3 := C4 nv na d _ (ar5 hb); have c4 := C4 nv na d _ (a62 hb); have l1 := E1 (J8 hb (by omega)); refine rT G _ h4 (B2 G (x8 (m8 3 [2] (he ((ss.getD k b55).value) (J8 hb (by omega))) (m8 8 [3] (ih ((ss.getD k b55).body) (ar5 hb) (by omega)) (m8 13 [4] (ih ((ss.getD k b55).els) (a62 hb) (by omega)) x7))) fz []) [0, 0, 2, 6, 14, 30, 0, 64, 206, 510, 1022, 0, 2048, 6606, 16382, 32766, 65535, 131071] [0] [dT ss] ((2, Q6) :: (3, .v (.string (b6 (c7 (b63 k ss)) ++ (ByteArray.mk #[105, 102] ++ b6 (c8 (ss.getD k b55).value) ++ ByteArray.mk #[123] ++ b6 (c7 (ss.getD k b55).body) ++ ByteArray.mk #[125, 123] ++ b6 (c7 (ss.getD k b55).els) ++ ByteArray.mk #[125])))) :: (Z2 ss k [])) [(↑((ByteArray.mk #[(105 : UInt8), (102 : UInt8)]).size + (b6 (c8 (ss.getD k b55).value)).size) : Int) <= 9223372036854775807, (↑((ByteArray.mk #[(105 : UInt8), (102 : UInt8)] ++ b6 (c8 (ss.getD k b55).value)).size + (ByteArray.mk #[(123 : UInt8)]).size) : Int) <= 9223372036854775807, (↑((ByteArray.mk #[(105 : UInt8), (102 : UInt8)] ++ b6 (c8 (ss.getD k b55).value) ++ ByteArray.mk #[(123 : UInt8)]).size + (b6 (c7 (ss.getD k b55).body)).size) : Int) <= 9223372036854775807, (↑((ByteArray.mk #[(105 : UInt8), (102 : UInt8)] ++ b6 (c8 (ss.getD k b55).value) ++ ByteArray.mk #[(123 : UInt8)] ++ b6 (c7 (ss.getD k b55).body)).size + (ByteArray.mk #[(125 : UInt8), (123 : UInt8)]).size) : Int) <= 9223372036854775807, (↑((ByteArray.mk #[(105 : UInt8), (102 : UInt8)] ++ b6 (c8 (ss.getD k b55).value) ++ ByteArray.mk #[(123 : UInt8)] ++ b6 (c7 (ss.getD k b55).body) ++ ByteArray.mk #[(125 : UInt8), (123 : UInt8)]).size + (b6 (c7 (ss.getD k b55).els)).size) : Int) <= 9223372036854775807, (↑((ByteArray.mk #[(105 : UInt8), (102 : UInt8)] ++ b6 (c8 (ss.getD k b55).value) ++ ByteArray.mk #[(123 : UInt8)] ++ b6 (c7 (ss.getD k b55).body) ++ ByteArray.mk #[(125 : UInt8), (123 : UInt8)] ++ b6 (c7 (ss.getD k b55).els)).size + (ByteArray.mk #[(125 : UInt8)]).size) : Int) <= 9223372036854775807, (↑((b6 (c7 (b63 k ss))).size + (ByteArray.mk #[(105 : UInt8), (102 : UInt8)] ++ b6 (c8 (ss.getD k b55).value) ++ ByteArray.mk #[(123 : UInt8)] ++ b6 (c7 (ss.getD k b55).body) ++ ByteArray.mk #[(125 : UInt8), (123 : UInt8)] ++ b6 (c7 (ss.getD k b55).els) ++ ByteArray.mk #[(125 : UInt8)]).size) : Int) <= 9223372036854775807] ⟨(by simp only [ByteArray.size_append, f9, i7, b62, b58, b60]; omega), (by simp only [ByteArray.size_append, f9, i7, b62, b58, b60]; omega), (by simp only [ByteArray.size_append, f9, i7, b62, b58, b60]; omega), (by simp only [ByteArray.size_append, f9, i7, b62, b58, b60]; omega), (by simp only [ByteArray.size_append, f9, i7, b62, b58, b60]; omega), (by simp only [ByteArray.size_append, f9, i7, b62, b58, b60]; omega), (by simp only [ByteArray.size_append, f9, i7, b62, b58, b60]; omega), b70⟩ fun G => o9 (o9 (b0 (G7 G d7 [(8, iA ((k : Int) + 1))] [wO ((k : Int) + 1)] (o1 (by omega)) fun G => b0 ?_)))); exact Z9 G (k + 1) (by omega) (by omega) [0] (ht := by have e1 : (b6 (c7 (b63 (k + 1) ss)) : ByteArray) = (b6 (c7 (b63 k ss)) ++ (ByteArray.mk #[105, 102] ++ b6 (c8 (ss.getD k b55).value) ++ ByteArray.mk #[123] ++ b6 (c7 (ss.getD k b55).body) ++ ByteArray.mk #[125, 123] ++ b6 (c7 (ss.getD k b55).els) ++ ByteArray.mk #[125])) := (by have h9 : (ss.getD k b55).kind = 3 := (by omega) ; exact (b25 (by omega) h9).symm); (first | rw [e1] | simp only [e1]) <;> rfl)
    have q3 := eq_of_beq h3; have c2 := bD0 hb (by omega); have l1 := E1 (J8 hb (by omega)); have l2 := E1 (a61 hb (by omega)); refine rT G _ h3 (B2 G (x8 (m8 3 [] (aV5 ((ss.getD k b55).target) (by omega) (by omega)) (m8 7 [1] (he ((ss.getD k b55).index) (a61 hb (by omega))) (m8 12 [2] (he ((ss.getD k b55).value) (J8 hb (by omega))) x7))) fz []) [0, 0, 2, 6, 14, 0, 32, 110, 254, 510, 0, 1024, 3310, 8190, 16382, 32767, 65535] [0] [dT ss] ((2, Q6) :: (3, .v (.string (b6 (c7 (b63 k ss)) ++ (b6 [UInt8.ofNat (80 + (ss.getD k b55).target.toNat)] ++ ByteArray.mk #[91] ++ b6 (c8 (ss.getD k b55).index) ++ ByteArray.mk #[93, 58, 61] ++ b6 (c8 (ss.getD k b55).value) ++ ByteArray.mk #[59])))) :: (Z2 ss k [])) [(↑((b6 [UInt8.ofNat ((80 : Nat) + (ss.getD k b55).target.toNat)]).size + (ByteArray.mk #[(91 : UInt8)]).size) : Int) <= 9223372036854775807, (↑((b6 [UInt8.ofNat ((80 : Nat) + (ss.getD k b55).target.toNat)] ++ ByteArray.mk #[(91 : UInt8)]).size + (b6 (c8 (ss.getD k b55).index)).size) : Int) <= 9223372036854775807, (↑((b6 [UInt8.ofNat ((80 : Nat) + (ss.getD k b55).target.toNat)] ++ ByteArray.mk #[(91 : UInt8)] ++ b6 (c8 (ss.getD k b55).index)).size + (ByteArray.mk #[(93 : UInt8), (58 : UInt8), (61 : UInt8)]).size) : Int) <= 9223372036854775807, (↑((b6 [UInt8.ofNat ((80 : Nat) + (ss.getD k b55).target.toNat)] ++ ByteArray.mk #[(91 : UInt8)] ++ b6 (c8 (ss.getD k b55).index) ++ ByteArray.mk #[(93 : UInt8), (58 : UInt8), (61 : UInt8)]).size + (b6 (c8 (ss.getD k b55).value)).size) : Int) <= 9223372036854775807, (↑((b6 [UInt8.ofNat ((80 : Nat) + (ss.getD k b55).target.toNat)] ++ ByteArray.mk #[(91 : UInt8)] ++ b6 (c8 (ss.getD k b55).index) ++ ByteArray.mk #[(93 : UInt8), (58 : UInt8), (61 : UInt8)] ++ b6 (c8 (ss.getD k b55).value)).size + (ByteArray.mk #[(59 : UInt8)]).size) : Int) <= 9223372036854775807, (↑((b6 (c7 (b63 k ss))).size + (b6 [UInt8.ofNat ((80 : Nat) + (ss.getD k b55).target.toNat)] ++ ByteArray.mk #[(91 : UInt8)] ++ b6 (c8 (ss.getD k b55).index) ++ ByteArray.mk #[(93 : UInt8), (58 : UInt8), (61 : UInt8)] ++ b6 (c8 (ss.getD k b55).value) ++ ByteArray.mk #[(59 : UInt8)]).size) : Int) <= 9223372036854775807] ⟨(by simp only [ByteArray.size_append, f9, i7, b62, b58, b60]; omega), (by simp only [ByteArray.size_append, f9, i7, b62, b58, b60]; omega), (by simp only [ByteArray.size_append, f9, i7, b62, b58, b60]; omega), (by simp only [ByteArray.size_append, f9, i7, b62, b58, b60]; omega), (by simp only [ByteArray.size_append, f9, i7, b62, b58, b60]; omega), (by simp only [ByteArray.size_append, f9, i7, b62, b58, b60]; omega), b70⟩ fun G => o9 (o9 (b0 (G7 G d7 [(8, iA ((k : Int) + 1))] [wO ((k : Int) + 1)] (o1 (by omega)) fun G => b0 ?_)))); exact Z9 G (k + 1) (by omega) (by omega) [0] (ht := by have e1 : (b6 (c7 (b63 (k + 1) ss)) : ByteArray) = (b6 (c7 (b63 k ss)) ++ (b6 [UInt8.ofNat (80 + (ss.getD k b55).target.toNat)] ++ ByteArray.mk #[91] ++ b6 (c8 (ss.getD k b55).index) ++ ByteArray.mk #[93, 58, 61] ++ b6 (c8 (ss.getD k b55).value) ++ ByteArray.mk #[59])) := (by have h9 : (ss.getD k b55).kind = 2 := (by omega) ; exact (b26 (by omega) h9).symm); (first | rw [e1] | simp only [e1]) <;> rfl)
   have q2 := eq_of_beq h2; have c1 := a60 hb (by omega); have l1 := E1 (J8 hb (by omega)); refine rT G _ h2 (B2 G (x8 (m8 3 [] (aG6 ((ss.getD k b55).target) (by omega) (by omega)) (m8 7 [2] (he ((ss.getD k b55).value) (J8 hb (by omega))) x7)) fz []) [0, 0, 2, 6, 14, 0, 32, 110, 254, 510, 1023, 2047] [0] [dT ss] ((2, Q6) :: (3, .v (.string (b6 (c7 (b63 k ss)) ++ (b6 [UInt8.ofNat (97 + (ss.getD k b55).target.toNat)] ++ ByteArray.mk #[33, 61] ++ b6 (c8 (ss.getD k b55).value) ++ ByteArray.mk #[59])))) :: (Z2 ss k [])) [(↑((b6 [UInt8.ofNat ((97 : Nat) + (ss.getD k b55).target.toNat)]).size + (ByteArray.mk #[(33 : UInt8), (61 : UInt8)]).size) : Int) <= 9223372036854775807, (↑((b6 [UInt8.ofNat ((97 : Nat) + (ss.getD k b55).target.toNat)] ++ ByteArray.mk #[(33 : UInt8), (61 : UInt8)]).size + (b6 (c8 (ss.getD k b55).value)).size) : Int) <= 9223372036854775807, (↑((b6 [UInt8.ofNat ((97 : Nat) + (ss.getD k b55).target.toNat)] ++ ByteArray.mk #[(33 : UInt8), (61 : UInt8)] ++ b6 (c8 (ss.getD k b55).value)).size + (ByteArray.mk #[(59 : UInt8)]).size) : Int) <= 9223372036854775807, (↑((b6 (c7 (b63 k ss))).size + (b6 [UInt8.ofNat ((97 : Nat) + (ss.getD k b55).target.toNat)] ++ ByteArray.mk #[(33 : UInt8), (61 : UInt8)] ++ b6 (c8 (ss.getD k b55).value) ++ ByteArray.mk #[(59 : UInt8)]).size) : Int) <= 9223372036854775807] ⟨(by simp only [ByteArray.size_append, f9, i7, b62, b58, b60]; omega), (by simp only [ByteArray.size_append, f9, i7, b62, b58, b60]; omega), (by simp only [ByteArray.size_append, f9, i7, b62, b58, b60]; omega), (by simp only [ByteArray.size_append, f9, i7, b62, b58, b60]; omega), b70⟩ fun G => o9 (o9 (b0 (G7 G d7 [(8, iA ((k : Int) + 1))] [wO ((k : Int) + 1)] (o1 (by omega)) fun G => b0 ?_)))); exact Z9 G (k + 1) (by omega) (by omega) [0] (ht := by have e1 : (b6 (c7 (b63 (k + 1) ss)) : ByteArray) = (b6 (c7 (b63 k ss)) ++ (b6 [UInt8.ofNat (97 + (ss.getD k b55).target.toNat)] ++ ByteArray.mk #[33, 61] ++ b6 (c8 (ss.getD k b55).value) ++ ByteArray.mk #[59])) := (by have h9 : (ss.getD k b55).kind = 5 := (by omega) ; exact (b23 (by omega) h9).symm); (first | rw [e1] | simp only [e1]) <;> rfl)
  have q1 := eq_of_beq h1; have c1 := a60 hb (by omega); have l1 := E1 (J8 hb (by omega)); refine rT G _ h1 (B2 G (x8 (m8 3 [] (aG6 ((ss.getD k b55).target) (by omega) (by omega)) (m8 7 [2] (he ((ss.getD k b55).value) (J8 hb (by omega))) x7)) fz []) [0, 0, 2, 6, 14, 0, 32, 110, 254, 510, 1023, 2047] [0] [dT ss] ((2, Q6) :: (3, .v (.string (b6 (c7 (b63 k ss)) ++ (b6 [UInt8.ofNat (97 + (ss.getD k b55).target.toNat)] ++ ByteArray.mk #[58, 61] ++ b6 (c8 (ss.getD k b55).value) ++ ByteArray.mk #[59])))) :: (Z2 ss k [])) [(↑((b6 [UInt8.ofNat ((97 : Nat) + (ss.getD k b55).target.toNat)]).size + (ByteArray.mk #[(58 : UInt8), (61 : UInt8)]).size) : Int) <= 9223372036854775807, (↑((b6 [UInt8.ofNat ((97 : Nat) + (ss.getD k b55).target.toNat)] ++ ByteArray.mk #[(58 : UInt8), (61 : UInt8)]).size + (b6 (c8 (ss.getD k b55).value)).size) : Int) <= 9223372036854775807, (↑((b6 [UInt8.ofNat ((97 : Nat) + (ss.getD k b55).target.toNat)] ++ ByteArray.mk #[(58 : UInt8), (61 : UInt8)] ++ b6 (c8 (ss.getD k b55).value)).size + (ByteArray.mk #[(59 : UInt8)]).size) : Int) <= 9223372036854775807, (↑((b6 (c7 (b63 k ss))).size + (b6 [UInt8.ofNat ((97 : Nat) + (ss.getD k b55).target.toNat)] ++ ByteArray.mk #[(58 : UInt8), (61 : UInt8)] ++ b6 (c8 (ss.getD k b55).value) ++ ByteArray.mk #[(59 : UInt8)]).size) : Int) <= 9223372036854775807] ⟨(by simp only [ByteArray.size_append, f9, i7, b62, b58, b60]; omega), (by simp only [ByteArray.size_append, f9, i7, b62, b58, b60]; omega), (by simp only [ByteArray.size_append, f9, i7, b62, b58, b60]; omega), (by simp only [ByteArray.size_append, f9, i7, b62, b58, b60]; omega), b70⟩ fun G => o9 (o9 (b0 (G7 G d7 [(8, iA ((k : Int) + 1))] [wO ((k : Int) + 1)] (o1 (by omega)) fun G => b0 ?_)))); exact Z9 G (k + 1) (by omega) (by omega) [0] (ht := by have e1 : (b6 (c7 (b63 (k + 1) ss)) : ByteArray) = (b6 (c7 (b63 k ss)) ++ (b6 [UInt8.ofNat (97 + (ss.getD k b55).target.toNat)] ++ ByteArray.mk #[58, 61] ++ b6 (c8 (ss.getD k b55).value) ++ ByteArray.mk #[59])) := (by have h9 : (ss.getD k b55).kind = 1 := (by omega) ; exact (b27 (by omega) h9).symm); (first | rw [e1] | simp only [e1]) <;> rfl)
theorem aM6 : j1.ok Tryz.prog (F9 52 [.ref 0] [dT []] (tA (c7 []))) := by
 refine D2 91 Tryz.func52 [dT []] [(0, .ref 0)] fun G => ?_; refine wp_seq (j3 G d7 [(2, .v (.string (ByteArray.mk #[])))] fun G => b0 (wp_seq (j3 G d7 [(3, .v (.string (ByteArray.mk #[])))] fun G => b0 (wp_seq (wp_seq (A4 G d7 [(2, .v (.string (ByteArray.mk #[]))), (3, .v (.string (ByteArray.mk #[]))), (6, .ref 0), (7, iA 0), (8, iA 0)] fun G => b0 (wp_block ?_))))))); refine x4 (κ := Nat) (fun k => k = 0) (fun k => 0) (fun k => [dT []]) (fun k => [(2, .v (.string (ByteArray.mk #[]))), (3, .v (.string (b6 []))), (6, .ref 0), (7, iA 0), (8, iA k)]) 0 (by kernel_rfl) (w6.at G _ _) ?_; clear G; intro k ρ a w hp G; refine wp_seq (j3 G d7 [(9, bA false)] fun G => b0 (wp_seq (rF G false (by kernel_rfl) (wp_exit (p8 (p8 (p7 (b0 (wp_seq (j3 G d7 [(2, .v (.string (b6 [])))] fun G => b0 (wp_ret ?_))))))))))); exact H9 G [0]
theorem aw1 (nv na : Nat) (hnv : nv <= 12) (hna : na <= 2) : ∀ (d : Nat) (ss : List b5), (∀ s ∈ ss, j4 nv na d s = true) -> S0 ss <= 60 -> j1.ok Tryz.prog (F9 52 [.ref 0] [dT ss] (tA (c7 ss)))
 | 0, [], _, _ => aM6
 | 0, s :: r, h, _ => by have := h s b72; simp [j4] at this
 | d + 1, ss, h, hn => aQ0 nv na d hnv hna (aw1 nv na hnv hna d) ss h hn
theorem W9 (p : j0) (hsz : p9 p.body <= 1000000000000000000) : j1.ok Tryz.prog (F9 12 [pA 0] (pS p) (tA (I9 p))) := by
 have hv9 := aa3 p hsz; refine D2 19 Tryz.func12 [dI p.vars, dI p.arrays, dT p.body] [(0, pA 0)] fun G => ?_; refine wp_seq (j5 G d7 (rg 4) [dI p.vars, dI p.arrays, dT p.body, .box (pL 0)] [(1, .ptr 3 0), (2, .v (.string (ByteArray.mk #[])))] fun G => b0 (wp_seq (wp_seq (A4 G (n4 1 [0, 1, 2] hv9) [(1, .ptr 3 0), (2, .v (.string (ByteArray.mk #[]))), (5, .v (.bool !o6 p))] fun G => b0 ?_)))); cases h0 : (!o6 p)
 ·have q0 : (o6 p) = true := (Eq.mp (b67 _) h0); have hb := ah4 (p := p) (by assumption); obtain ⟨g1, g2, g3, g4, g5⟩ := ac8 hb.1; have hs := hb.2.2; have hl := aS4 p.vars.length p.arrays.length g4 g5 5 p.body hb.2.1 hb.2.2; have hz := C4 p.vars.length p.arrays.length 5 p.body hb.2.1; have z1 := W8 p.vars; have z2 := W8 p.arrays; refine rF G _ h0 (wp_skip (b0 (wp_seq (B2 G (x8 (m8 2 [0] (ad3 p.vars (by assumption) (by omega)) (m8 6 [1] (ad3 p.arrays (by assumption) (by omega)) (m8 11 [2] hl x7))) fz []) [0, 1, 3, 7, 0, 16, 55, 127, 255, 0, 512, 1655, 4095, 8191] [0, 1, 2] [dI p.vars, dI p.arrays, dT p.body] [(2, .v (.string (b6 (n5 p.vars) ++ ByteArray.mk #[47] ++ b6 (n5 p.arrays) ++ ByteArray.mk #[47] ++ b6 (c7 p.body))))] [(↑((b6 (n5 p.vars)).size + (ByteArray.mk #[(47 : UInt8)]).size) : Int) <= 9223372036854775807, (↑((b6 (n5 p.vars) ++ ByteArray.mk #[(47 : UInt8)]).size + (b6 (n5 p.arrays)).size) : Int) <= 9223372036854775807, (↑((b6 (n5 p.vars) ++ ByteArray.mk #[(47 : UInt8)] ++ b6 (n5 p.arrays)).size + (ByteArray.mk #[(47 : UInt8)]).size) : Int) <= 9223372036854775807, (↑((b6 (n5 p.vars) ++ ByteArray.mk #[(47 : UInt8)] ++ b6 (n5 p.arrays) ++ ByteArray.mk #[(47 : UInt8)]).size + (b6 (c7 p.body)).size) : Int) <= 9223372036854775807] ⟨(by simp only [ByteArray.size_append, f9, i7, b62, b58, b60]; omega), (by simp only [ByteArray.size_append, f9, i7, b62, b58, b60]; omega), (by simp only [ByteArray.size_append, f9, i7, b62, b58, b60]; omega), (by simp only [ByteArray.size_append, f9, i7, b62, b58, b60]; omega), b70⟩ fun G => b0 (wp_ret ?_))))); exact E0 (.v (.string (b6 (n5 p.vars) ++ ByteArray.mk #[47] ++ b6 (n5 p.arrays) ++ ByteArray.mk #[47] ++ b6 (c7 p.body)))) G [0, 1, 2] (by show _ = AV.ren (nth [0, 1, 2]) (.v (.string (b6 (I9 p)))); have e1 : (b6 (I9 p) : ByteArray) = (b6 (n5 p.vars) ++ ByteArray.mk #[47] ++ b6 (n5 p.arrays) ++ ByteArray.mk #[47] ++ b6 (c7 p.body)) := ((b42 (by assumption)).symm); (first | rw [e1] | simp only [e1]) <;> rfl)
 have q0 : (o6 p) = false := (Eq.mp (b65 _) h0); refine rT G _ h0 (wp_seq (j3 G d7 [] fun G => b0 (wp_ret (j2 ?_)))); exact E0 (.v (.string (ByteArray.mk #[]))) G [0, 1, 2] (by show _ = AV.ren (nth [0, 1, 2]) (.v (.string (b6 (I9 p)))); have e1 : (b6 (I9 p) : ByteArray) = (ByteArray.mk #[]) := ((bV2 (by assumption)).symm); (first | rw [e1] | simp only [e1]) <;> rfl)
theorem aa5 (p : j0) (hsz : p9 p.body <= 1048576) : j1.ok Tryz.prog (F9 12 [pA 0] (pS p) (tA (I9 p))) := W9 p (by omega)
theorem ag6 (p : j0) (h : o6 p = true) : j1.ok Tryz.prog (F9 23 [pA 0] (pS p) (tA (F0 p))) := by
 obtain ⟨h1, h2, h3⟩ := ah4 h; obtain ⟨g1, g2, g3, g4, g5⟩ := ac8 h1; have hl := aw1 p.vars.length p.arrays.length g4 g5 5 p.body h2 h3; have hz := C4 p.vars.length p.arrays.length 5 p.body h2; have z1 := W8 p.vars; have z2 := W8 p.arrays; refine D2 16 Tryz.func23 [dI p.vars, dI p.arrays, dT p.body] [(0, pA 0)] fun G => ?_; refine wp_seq (j5 G d7 (rg 4) [dI p.vars, dI p.arrays, dT p.body, .box (pL 0)] [(1, .ptr 3 0), (2, .v (.string (ByteArray.mk #[])))] fun G => b0 (wp_seq (B2 G (x8 (m8 2 [0] (aa4 p.vars (by assumption) (by omega)) (m8 6 [1] (aa4 p.arrays (by assumption) (by omega)) (m8 11 [2] hl x7))) fz []) [0, 1, 3, 7, 0, 16, 55, 127, 255, 0, 512, 1655, 4095, 8191] [0, 1, 2] [dI p.vars, dI p.arrays, dT p.body] [(2, .v (.string (b6 (n5 p.vars) ++ ByteArray.mk #[47] ++ b6 (n5 p.arrays) ++ ByteArray.mk #[47] ++ b6 (c7 p.body))))] [(↑((b6 (n5 p.vars)).size + (ByteArray.mk #[(47 : UInt8)]).size) : Int) <= 9223372036854775807, (↑((b6 (n5 p.vars) ++ ByteArray.mk #[(47 : UInt8)]).size + (b6 (n5 p.arrays)).size) : Int) <= 9223372036854775807, (↑((b6 (n5 p.vars) ++ ByteArray.mk #[(47 : UInt8)] ++ b6 (n5 p.arrays)).size + (ByteArray.mk #[(47 : UInt8)]).size) : Int) <= 9223372036854775807, (↑((b6 (n5 p.vars) ++ ByteArray.mk #[(47 : UInt8)] ++ b6 (n5 p.arrays) ++ ByteArray.mk #[(47 : UInt8)]).size + (b6 (c7 p.body)).size) : Int) <= 9223372036854775807] ⟨(by simp only [ByteArray.size_append, f9, i7, b62, b58, b60]; omega), (by simp only [ByteArray.size_append, f9, i7, b62, b58, b60]; omega), (by simp only [ByteArray.size_append, f9, i7, b62, b58, b60]; omega), (by simp only [ByteArray.size_append, f9, i7, b62, b58, b60]; omega), b70⟩ fun G => b0 (wp_ret ?_)))); exact H9 G [0, 1, 2]
theorem bq6 {p : j0} (h : o6 p = true) : I9 p = F0 p := by unfold I9; rw [if_pos h]
theorem X0 (p : j0) : j1.ok Tryz.prog (F9 11 [pA 0] (pS p) (tA (I9 p))) := by
 refine D2 8 Tryz.func11 [dI p.vars, dI p.arrays, dT p.body] [(0, pA 0)] fun G => ?_; refine wp_seq (j5 G d7 (rg 4) [dI p.vars, dI p.arrays, dT p.body, .box (pL 0)] [(1, .ptr 3 0), (2, .v (.string (ByteArray.mk #[])))] fun G => b0 (wp_seq (wp_seq (j3 G (n4 1 [0, 1, 2] (Q3 p)) [(5, .v (.bool !o6 p))] fun G => b0 ?_)))); cases h0 : (!o6 p)
 ·have q0 : (o6 p) = true := (Eq.mp (b67 _) h0); refine rF G _ h0 (wp_skip (b0 (wp_seq (j5 G (n4 1 [0, 1, 2] (ag6 p (by assumption))) [0, 1, 2] [dI p.vars, dI p.arrays, dT p.body] [(2, .v (.string (b6 (F0 p))))] fun G => b0 (wp_ret ?_))))); exact E0 (.v (.string (b6 (F0 p)))) G [0, 1, 2] (by show _ = AV.ren (nth [0, 1, 2]) (.v (.string (b6 (I9 p)))); have e1 : (b6 (I9 p) : ByteArray) = (b6 (F0 p)) := (by rw [bq6 (by assumption)]); (first | rw [e1] | simp only [e1]) <;> rfl)
 have q0 : (o6 p) = false := (Eq.mp (b65 _) h0); refine rT G _ h0 (wp_seq (j3 G d7 [] fun G => b0 (wp_ret (j2 ?_)))); exact E0 (.v (.string (ByteArray.mk #[]))) G [0, 1, 2] (by show _ = AV.ren (nth [0, 1, 2]) (.v (.string (b6 (I9 p)))); have e1 : (b6 (I9 p) : ByteArray) = (ByteArray.mk #[]) := ((bV2 (by assumption)).symm); (first | rw [e1] | simp only [e1]) <;> rfl)
end Go.Proofs.YtompcdbfongedaaGreatDoor

namespace Go.Proofs.YtompcdbfongedaaGreatDoor
open Go
def F4 (x : UInt8) : List UInt8 -> Int -> Int
 | [], _ => -1
 | y :: r, i => if x = y then i else F4 x r (i + 1)
def t7 (s : List UInt8) (n : Int) (w : List UInt8) : Bool := decide (0 <= n) && (decide (n + w.length <= s.length) && ((s.drop n.toNat).take w.length == w))
def d8 (s : List UInt8) (n : Int) (w : List UInt8) : Int := if t7 s n w then n + w.length else -1
def s6 (s : List UInt8) (n : Int) (ls : List UInt8) : Int := if n < 0 \/ n >= s.length then -1 else F4 (s.getD n.toNat 0) ls 0
abbrev at2 : List UInt8 := [48, 49, 50, 51, 52, 53, 54, 55, 56, 57]
abbrev aI1 : List UInt8 := [97, 98, 99, 100, 101, 102, 103, 104, 105, 106, 107, 108]
abbrev a33 : List UInt8 := [80, 81]
abbrev opW : List UInt8 := [43, 45, 42, 38, 94, 61, 60]
def dgL (s : List UInt8) (n : Int) : Nat -> Int × Int -> Int × Int
 | 0, x => x
 | f + 1, x => if x.2 < 3 /\ s6 s (n + x.2) at2 >= 0 then dgL s n f (x.1 * 10 + s6 s (n + x.2) at2, x.2 + 1) else x
def I4 (s : List UInt8) (n : Int) : Int × Int := if (dgL s n 3 (0, 0)).2 = 0 then (0, -1) else ((dgL s n 3 (0, 0)).1, n + (dgL s n 3 (0, 0)).2)
def pE (s : List UInt8) : Nat -> Int -> b7 × Int
 | 0, _ => (⟨0, 0, []⟩, -1)
 | d + 1, n => if n < 0 then (⟨0, 0, []⟩, -1) else
  if s6 s n aI1 >= 0 then (⟨2, s6 s n aI1, []⟩, n + 1) else
  if s6 s n a33 >= 0 then (⟨3, s6 s n a33, [(pE s d (d8 s (n + 1) [91])).1]⟩, d8 s (pE s d (d8 s (n + 1) [91])).2 [93]) else
  if t7 s n [40] = false then (⟨1, (I4 s n).1, []⟩, (I4 s n).2) else
  let a := pE s d (d8 s n [40])
  if t7 s a.2 [63] then
   let b := pE s d (d8 s a.2 [63])
   let c := pE s d (d8 s b.2 [58])
   (⟨11, 0, [a.1, b.1, c.1]⟩, d8 s c.2 [41])
  else if s6 s a.2 opW < 0 then (⟨0, 0, []⟩, -1) else
   let b := pE s d (a.2 + 1)
   (⟨4 + s6 s a.2 opW, 0, [a.1, b.1]⟩, d8 s b.2 [41])
abbrev zE : b7 := ⟨0, 0, []⟩
def aK2 (s : List UInt8) (B : Int -> List b5 × Int) (n : Int) : b5 × Int :=
 if t7 s n [105, 102] then
  let v := pE s 5 (d8 s n [105, 102])
  let b := B (d8 s v.2 [123])
  let e := B (d8 s b.2 [125, 123])
  (⟨3, 0, zE, v.1, 0, b.1, e.1⟩, d8 s e.2 [125])
 else if t7 s n [114, 101, 112, 101, 97, 116] then
  let c := I4 s (d8 s n [114, 101, 112, 101, 97, 116])
  let b := B (d8 s c.2 [123])
  (⟨4, 0, zE, zE, c.1, b.1, []⟩, d8 s b.2 [125])
 else if s6 s n a33 >= 0 then
  let i := pE s 1 (d8 s (n + 1) [91])
  let v := pE s 5 (d8 s i.2 [93, 58, 61])
  (⟨2, s6 s n a33, i.1, v.1, 0, [], []⟩, d8 s v.2 [59])
 else if s6 s n aI1 < 0 then (⟨0, s6 s n aI1, zE, zE, 0, [], []⟩, -1)
 else if t7 s (n + 1) [33, 61] then
  let v := pE s 5 (d8 s (n + 1) [33, 61])
  (⟨5, s6 s n aI1, zE, v.1, 0, [], []⟩, d8 s v.2 [59])
 else
  let v := pE s 5 (d8 s (n + 1) [58, 61])
  (⟨1, s6 s n aI1, zE, v.1, 0, [], []⟩, d8 s v.2 [59])
def pBk (s : List UInt8) (R : Int -> b5 × Int) : Nat -> List b5 × Int -> List b5 × Int
 | 0, x => x
 | f + 1, x => if 0 <= x.2 /\ x.2 < s.length /\ t7 s x.2 [125] = false then
   (if x.1.length + 1 > 60 then (x.1 ++ [(R x.2).1], -1) else pBk s R f (x.1 ++ [(R x.2).1], (R x.2).2)) else x
def A5 (s : List UInt8) : Nat -> Int -> b5 × Int
 | 0, _ => (⟨0, 0, zE, zE, 0, [], []⟩, -1)
 | d + 1, n => aK2 s (fun n => pBk s (A5 s d) 61 ([], n)) n
def C2 (s : List UInt8) (d : Nat) (n : Int) : List b5 × Int := pBk s (A5 s d) 61 ([], n)
section
variable {a b r w : List UInt8} {x : UInt8}
theorem bF6 (h : (b.take w.length == w) = true) : t7 (a ++ b) (a.length : Int) w = true := by
 unfold t7
 simp only [b57, decide_eq_true_eq, Int.toNat_natCast, List.drop_left, b69]
 refine ⟨by omega, ?_, h⟩
 have h1 : (b.take w.length).length = w.length := by rw [eq_of_beq h]
 rw [List.length_take] at h1
 omega
theorem bU9 (h : (b.take w.length == w) = false) : t7 (a ++ b) (a.length : Int) w = false := by
 unfold t7
 simp only [Int.toNat_natCast, List.drop_left, h, Bool.and_false]
theorem bQ2 : d8 (a ++ (w ++ r)) (a.length : Int) w = (a.length : Int) + w.length := by
 unfold d8
 rw [if_pos (bF6 (by simp))]
theorem a02 (ls : List UInt8) : s6 (a ++ x :: r) (a.length : Int) ls = F4 x ls 0 := by
 unfold s6
 rw [if_neg (by simp only [b69, b58]; omega)]
 simp
theorem bK9 (ls : List UInt8) : s6 a (a.length : Int) ls = -1 := by
 unfold s6
 rw [if_pos (.inr (by omega))]
end
def aa0 (r : List UInt8) : Prop := ∀ x ∈ r.head?, F4 x at2 0 = -1
theorem bK8 {a r : List UInt8} (h : aa0 r) : s6 (a ++ r) (a.length : Int) at2 = -1 := by
 cases r with
 | nil => rw [List.append_nil]; exact bK9 _
 | cons x r => rw [a02]; exact h x rfl
theorem br7 : ∀ d : Fin 10, F4 (UInt8.ofNat (48 + d)) at2 0 = (d : Nat) /\ F4 (UInt8.ofNat (48 + d)) aI1 0 = -1 /\ F4 (UInt8.ofNat (48 + d)) a33 0 = -1 /\ UInt8.ofNat (48 + d) ≠ 40 := by decide +kernel
theorem bh9 : ∀ v : Fin 12, F4 (UInt8.ofNat (97 + v)) aI1 0 = (v : Nat) /\ F4 (UInt8.ofNat (97 + v)) a33 0 = -1 /\ UInt8.ofNat (97 + v) ≠ 114 := by decide +kernel
theorem bG9 : ∀ v : Fin 2, F4 (UInt8.ofNat (80 + v)) a33 0 = (v : Nat) /\ F4 (UInt8.ofNat (80 + v)) aI1 0 = -1 /\ UInt8.ofNat (80 + v) ≠ 114 /\ UInt8.ofNat (80 + v) ≠ 105 := by decide +kernel
theorem bE3 : ∀ k : Fin 7, F4 (s3 (4 + k)) opW 0 = (k : Nat) /\ s3 (4 + k) ≠ 63 /\ F4 (s3 (4 + k)) at2 0 = -1 := by decide +kernel
theorem bb0 {n : Nat} (h : n < 10) : Lib.decDigits n = [UInt8.ofNat (48 + n)] := by rw [Lib.decDigits, dif_pos (by omega)]
theorem ba9 {n : Nat} (h : 9 < n) (h2 : n < 100) : Lib.decDigits n = [UInt8.ofNat (48 + n / 10), UInt8.ofNat (48 + n % 10)] := by
 rw [Lib.decDigits, dif_neg (by omega), bb0 (by omega)]; rfl
theorem bs0 {n : Nat} (h : 99 < n) (h2 : n < 1000) : Lib.decDigits n = [UInt8.ofNat (48 + n / 10 / 10), UInt8.ofNat (48 + n / 10 % 10), UInt8.ofNat (48 + n % 10)] := by
 rw [Lib.decDigits, dif_neg (by omega), ba9 (by omega) (by omega)]; rfl
theorem aG4 {d : Nat} (h : d < 10) : F4 (UInt8.ofNat (48 + d)) at2 0 = d := (br7 ⟨d, h⟩).1
theorem aA1 {s : List UInt8} {n : Int} {f : Nat} {x : Int × Int} (h : ¬ x.2 < 3 \/ s6 s (n + x.2) at2 < 0) : dgL s n f x = x := by
 cases f with
 | zero => rfl
 | succ f => rw [dgL, if_neg (by omega)]
theorem ap0 {s : List UInt8} {n : Int} {f : Nat} {x : Int × Int} {d : Int} (h : x.2 < 3) (hd : s6 s (n + x.2) at2 = d) (h0 : 0 <= d) : dgL s n (f + 1) x = dgL s n f (x.1 * 10 + d, x.2 + 1) := by
 rw [dgL, if_pos ⟨h, by omega⟩, hd]
theorem aF6 {a p r : List UInt8} {x : UInt8} {n : Int} (hn : n = (a.length : Int) + p.length) (ls : List UInt8) : s6 (a ++ (p ++ x :: r)) n ls = F4 x ls 0 := by
 have := a02 (a := a ++ p) (x := x) (r := r) ls
 rw [b83, b69] at this
 rw [hn, <- this]; rfl
theorem bn2 {a p r : List UInt8} {n : Int} (hr : aa0 r) (hn : n = (a.length : Int) + p.length) : s6 (a ++ (p ++ r)) n at2 < 0 := by
 have := bK8 (a := a ++ p) hr
 rw [b83, b69] at this
 rw [hn, show (a.length : Int) + p.length = ((a.length + p.length : Nat) : Int) from rfl, this]; decide
theorem bN3 {n : Nat} (hn : n < 1000) (a r : List UInt8) (hr : aa0 r) : I4 (a ++ (Lib.decDigits n ++ r)) (a.length : Int) = ((n : Int), (a.length : Int) + (Lib.decDigits n).length) := by
 have key : dgL (a ++ (Lib.decDigits n ++ r)) (a.length : Int) 3 (0, 0) = ((n : Int), ((Lib.decDigits n).length : Int)) := by
  rcases b86 n 10 with h1 | h1
  ·rw [bb0 h1]
   refine Eq.trans (ap0 (d := (n : Nat)) (by simp) (by exact (aF6 (p := []) (by simp) _).trans (aG4 h1)) (by omega)) ?_
   refine Eq.trans (aA1 (.inr (by exact bn2 hr (by simp)))) ?_
   simp
  rcases b86 n 100 with h2 | h2
  ·rw [ba9 (by omega) h2]
   refine Eq.trans (ap0 (d := (n / 10 : Nat)) (by simp) (by exact (aF6 (p := []) (by simp) _).trans (aG4 (by omega))) (by omega)) ?_
   refine Eq.trans (ap0 (d := (n % 10 : Nat)) (by simp) (by exact (aF6 (p := [UInt8.ofNat (48 + n / 10)]) (by simp) _).trans (aG4 (by omega))) (by omega)) ?_
   refine Eq.trans (aA1 (.inr (by exact bn2 hr (by simp)))) ?_
   simp
   omega
  rw [bs0 (by omega) hn]
  refine Eq.trans (ap0 (d := (n / 10 / 10 : Nat)) (by simp) (by exact (aF6 (p := []) (by simp) _).trans (aG4 (by omega))) (by omega)) ?_
  refine Eq.trans (ap0 (d := (n / 10 % 10 : Nat)) (by simp) (by exact (aF6 (p := [UInt8.ofNat (48 + n / 10 / 10)]) (by simp) _).trans (aG4 (by omega))) (by omega)) ?_
  refine Eq.trans (ap0 (d := (n % 10 : Nat)) (by simp) (by exact (aF6 (p := [UInt8.ofNat (48 + n / 10 / 10), UInt8.ofNat (48 + n / 10 % 10)]) (by simp) _).trans (aG4 (by omega))) (by omega)) ?_
  simp only [dgL]
  simp
  omega
 unfold I4
 rw [key]
 have hl : (Lib.decDigits n).length ≠ 0 := by
  rw [Lib.decDigits]; split <;> simp
 rw [if_neg (by simpa using hl)]
section
variable {s : List UInt8} {n : Int} {w ls : List UInt8}
theorem a17 (x : UInt8) : ∀ (ls : List UInt8) (i : Int), F4 x ls i = -1 \/ (i <= F4 x ls i /\ F4 x ls i < i + ls.length)
 | [], i => .inl rfl
 | y :: r, i => by
  unfold F4
  split
  ·exact .inr ⟨by omega, by simp; omega⟩
  rcases a17 x r (i + 1) with h | h
  ·exact .inl h
  exact .inr ⟨by omega, by simp; omega⟩
theorem T4 (s : List UInt8) (n : Int) (ls : List UInt8) : -1 <= s6 s n ls /\ s6 s n ls < ls.length + 1 /\ (0 <= s6 s n ls -> 0 <= n /\ n < s.length /\ s6 s n ls < ls.length) := by
 unfold s6
 split
 ·exact ⟨by omega, by omega, fun h => by omega⟩
 rcases a17 (s.getD n.toNat 0) ls 0 with h | h
 ·rw [h]; exact ⟨by omega, by omega, fun h => by omega⟩
 exact ⟨by omega, by omega, fun _ => by omega⟩
theorem a98 (h : t7 s n w = true) : 0 <= n /\ n + w.length <= s.length := by
 unfold t7 at h
 simp only [b57, decide_eq_true_eq] at h
 exact ⟨h.1, h.2.1⟩
theorem V4 (s : List UInt8) (n : Int) (w : List UInt8) : -1 <= d8 s n w /\ d8 s n w <= s.length := by
 unfold d8
 split
 ·have := a98 (by assumption : t7 s n w = true); omega
 omega
theorem P3 : -1 <= d8 s n w := (V4 s n w).1
theorem R2 : d8 s n w <= s.length := (V4 s n w).2
theorem bH9 (h : t7 s n w = true) : d8 s n w = n + w.length := by unfold d8; rw [if_pos h]
theorem bI0 (h : t7 s n w = false) : d8 s n w = -1 := by unfold d8; rw [h]; rfl
def dgP (s : List UInt8) (n : Int) : Nat -> Int
 | 0 => 0
 | k + 1 => dgP s n k * 10 + s6 s (n + k) [48, 49, 50, 51, 52, 53, 54, 55, 56, 57]
theorem bW2 (s : List UInt8) (n : Int) {k : Nat} (h : k <= 3) : -111 <= dgP s n k /\ dgP s n k <= 1110 := by
 have a0 := T4 s (n + (0 : Nat)) [48, 49, 50, 51, 52, 53, 54, 55, 56, 57]
 have a1 := T4 s (n + (1 : Nat)) [48, 49, 50, 51, 52, 53, 54, 55, 56, 57]
 have a2 := T4 s (n + (2 : Nat)) [48, 49, 50, 51, 52, 53, 54, 55, 56, 57]
 simp only [b58, b60] at a0 a1 a2
 have : k = 0 \/ k = 1 \/ k = 2 \/ k = 3 := by omega
 rcases this with rfl | rfl | rfl | rfl <;> simp only [dgP] <;> omega
theorem bN4 {k : Nat} (h : k <= 3) (hk : ∀ j : Nat, j < k -> 0 <= s6 s (n + j) [48, 49, 50, 51, 52, 53, 54, 55, 56, 57]) : dgL s n 3 (0, 0) = dgL s n (3 - k) (dgP s n k, k) := by
 induction k with
 | zero => rfl
 | succ k ih =>
  rw [ih (by omega) fun j hj => hk j (by omega)]
  have e : 3 - k = (3 - (k + 1)) + 1 := by omega
  rw [e, dgL, if_pos ⟨by show (k : Int) < 3; omega, hk k (by omega)⟩]
  rfl
theorem ba8 {k : Nat} (h : k <= 3) (hk : ∀ j : Nat, j < k -> 0 <= s6 s (n + j) [48, 49, 50, 51, 52, 53, 54, 55, 56, 57]) (he : ¬ (k : Int) < 3 \/ s6 s (n + k) [48, 49, 50, 51, 52, 53, 54, 55, 56, 57] < 0) : dgL s n 3 (0, 0) = (dgP s n k, (k : Int)) := by
 rw [bN4 h hk]
 exact aA1 he
theorem b44 (he : s6 s n [48, 49, 50, 51, 52, 53, 54, 55, 56, 57] < 0) : I4 s n = (0, -1) := by
 have := ba8 (s := s) (n := n) (k := 0) (by omega) (fun j hj => by omega) (.inr (by simpa using he))
 unfold I4; rw [this]; exact if_pos rfl
theorem bA0 {k : Nat} (h : k <= 3) (h0 : ¬ (k : Int) = 0) (hk : ∀ j : Nat, j < k -> 0 <= s6 s (n + j) [48, 49, 50, 51, 52, 53, 54, 55, 56, 57]) (he : ¬ (k : Int) < 3 \/ s6 s (n + k) [48, 49, 50, 51, 52, 53, 54, 55, 56, 57] < 0) : I4 s n = (dgP s n k, n + k) := by
 have := ba8 h hk he
 unfold I4; rw [this]; exact if_neg h0
theorem bA1 : ∀ (f : Nat) (x : Int × Int), 0 <= x.2 -> (x.2 = 0 \/ n + x.2 <= s.length) -> 0 <= (dgL s n f x).2 /\ ((dgL s n f x).2 = 0 \/ n + (dgL s n f x).2 <= s.length) := by
 intro f
 induction f with
 | zero => intro x h1 h2; exact ⟨h1, h2⟩
 | succ f ih =>
  intro x h1 h2
  rw [dgL]
  split
  ·rename_i hc
   have := (T4 s (n + x.2) [48, 49, 50, 51, 52, 53, 54, 55, 56, 57]).2.2 hc.2
   exact ih _ (by show 0 <= x.2 + 1; omega) (.inr (by show n + (x.2 + 1) <= _; omega))
  exact ⟨h1, h2⟩
theorem br6 (h : -1 <= n) : -1 <= (I4 s n).2 /\ (I4 s n).2 <= s.length := by
 have := bA1 (s := s) (n := n) 3 (0, 0) (by simp) (.inl rfl)
 unfold I4
 split
 ·exact ⟨by omega, by show (-1 : Int) <= _; omega⟩
 exact ⟨by show -1 <= n + _; omega, by show n + _ <= _; omega⟩
theorem bW1 (h : -1 <= n) : (I4 s n).2 <= s.length := (br6 h).2
section
variable {d : Nat}
theorem ao3 (h : n < 0) : pE s d n = (⟨0, 0, []⟩, -1) := by
 cases d with
 | zero => rfl
 | succ d => rw [pE, if_pos h]
theorem ao0 (h0 : ¬ n < 0) (h : s6 s n [97, 98, 99, 100, 101, 102, 103, 104, 105, 106, 107, 108] >= 0) : pE s (d + 1) n = (⟨2, s6 s n [97, 98, 99, 100, 101, 102, 103, 104, 105, 106, 107, 108], []⟩, n + 1) := by rw [pE, if_neg h0, if_pos h]
theorem ao6 (h0 : ¬ n < 0) (h : ¬ s6 s n [97, 98, 99, 100, 101, 102, 103, 104, 105, 106, 107, 108] >= 0) (h1 : s6 s n [80, 81] >= 0) : pE s (d + 1) n = (⟨3, s6 s n [80, 81], [(pE s d (d8 s (n + 1) [91])).1]⟩, d8 s (pE s d (d8 s (n + 1) [91])).2 [93]) := by rw [pE, if_neg h0, if_neg h, if_pos h1]
theorem ao2 (h0 : ¬ n < 0) (h : ¬ s6 s n [97, 98, 99, 100, 101, 102, 103, 104, 105, 106, 107, 108] >= 0) (h1 : ¬ s6 s n [80, 81] >= 0) (h2 : t7 s n [40] = false) : pE s (d + 1) n = (⟨1, (I4 s n).1, []⟩, (I4 s n).2) := by rw [pE, if_neg h0, if_neg h, if_neg h1, if_pos h2]
theorem a89 (h : ¬ s6 s n ls < 0) : n + 1 <= s.length := by have := (T4 s n ls).2.2 (by omega); omega
theorem bE4 (h : s6 s n ls >= 0) : n + 1 <= s.length := by have := (T4 s n ls).2.2 (by omega); omega
def pe1 (s : List UInt8) (d : Nat) (n : Int) : b7 × Int := pE s d (d8 s n [40])
def pe2 (s : List UInt8) (d : Nat) (n : Int) : b7 × Int := pE s d (d8 s (pe1 s d n).2 [63])
def pe3 (s : List UInt8) (d : Nat) (n : Int) : b7 × Int := pE s d (d8 s (pe2 s d n).2 [58])
def pe4 (s : List UInt8) (d : Nat) (n : Int) : b7 × Int := pE s d ((pe1 s d n).2 + 1)
variable (h0 : ¬ n < 0) (h : ¬ s6 s n [97, 98, 99, 100, 101, 102, 103, 104, 105, 106, 107, 108] >= 0) (h1 : ¬ s6 s n [80, 81] >= 0) (h2 : t7 s n [40] = true)
include h0 h h1 h2
theorem ao1 (h3 : t7 s (pE s d (d8 s n [40])).2 [63] = true) : pE s (d + 1) n = (⟨11, 0, [(pe1 s d n).1, (pe2 s d n).1, (pe3 s d n).1]⟩, d8 s (pe3 s d n).2 [41]) := by
 rw [pE, if_neg h0, if_neg h, if_neg h1, if_neg (by rw [h2]; decide)]
 exact if_pos h3
theorem ao5 (h3 : t7 s (pE s d (d8 s n [40])).2 [63] = false) (h4 : s6 s (pE s d (d8 s n [40])).2 [43, 45, 42, 38, 94, 61, 60] < 0) : pE s (d + 1) n = (⟨0, 0, []⟩, -1) := by
 rw [pE, if_neg h0, if_neg h, if_neg h1, if_neg (by rw [h2]; decide)]
 exact (if_neg (by rw [show t7 s (pE s d (d8 s n [40])).2 [63] = false from h3]; decide)).trans (if_pos h4)
theorem ao4 (h3 : t7 s (pE s d (d8 s n [40])).2 [63] = false) (h4 : ¬ s6 s (pE s d (d8 s n [40])).2 [43, 45, 42, 38, 94, 61, 60] < 0) : pE s (d + 1) n = (⟨4 + s6 s (pe1 s d n).2 [43, 45, 42, 38, 94, 61, 60], 0, [(pe1 s d n).1, (pe4 s d n).1]⟩, d8 s (pe4 s d n).2 [41]) := by
 rw [pE, if_neg h0, if_neg h, if_neg h1, if_neg (by rw [h2]; decide)]
 exact (if_neg (by rw [show t7 s (pE s d (d8 s n [40])).2 [63] = false from h3]; decide)).trans (if_neg h4)
end
theorem bm3 : ∀ (d : Nat) (n : Int), -1 <= (pE s d n).2 /\ (pE s d n).2 <= s.length
 | 0, n => ⟨by show (-1 : Int) <= -1; omega, by show (-1 : Int) <= _; omega⟩
 | d + 1, n => by
  by_cases h0 : n < 0
  ·rw [ao3 h0]; exact ⟨by show (-1 : Int) <= -1; omega, by show (-1 : Int) <= _; omega⟩
  by_cases h : s6 s n [97, 98, 99, 100, 101, 102, 103, 104, 105, 106, 107, 108] >= 0
  ·rw [ao0 h0 h]
   have := (T4 s n [97, 98, 99, 100, 101, 102, 103, 104, 105, 106, 107, 108]).2.2 h
   exact ⟨by show -1 <= n + 1; omega, by show n + 1 <= _; omega⟩
  by_cases h1 : s6 s n [80, 81] >= 0
  ·rw [ao6 h0 h h1]; exact V4 _ _ _
  cases h2 : t7 s n [40] with
  | false => rw [ao2 h0 h h1 h2]; exact br6 (by omega)
  | true =>
   cases h3 : t7 s (pe1 s d n).2 [63] with
   | true => rw [ao1 h0 h h1 h2 h3]; exact V4 _ _ _
   | false =>
    by_cases h4 : s6 s (pe1 s d n).2 [43, 45, 42, 38, 94, 61, 60] < 0
    ·rw [ao5 h0 h h1 h2 h3 h4]; exact ⟨by show (-1 : Int) <= -1; omega, by show (-1 : Int) <= _; omega⟩
    rw [ao4 h0 h h1 h2 h3 h4]; exact V4 _ _ _
theorem bT1 (d : Nat) : -1 <= (pE s d n).2 := (bm3 d n).1
theorem ac4 (d : Nat) : (pE s d n).2 <= s.length := (bm3 d n).2
end
end Go.Proofs.YtompcdbfongedaaGreatDoor

namespace Go.Proofs.YtompcdbfongedaaGreatDoor
open Go Go.RowKit
abbrev scA (s : List UInt8) (n : Int) : AV := .agg [.v (.string (b6 s)), iA n]
theorem L9 (s : List UInt8) (a b : Nat) : ByteArray.extract (b6 s) a b = b6 ((s.take b).drop a) := by
 apply ByteArray.ext
 simp [b6, List.drop_take]
section
variable {s w ls : List UInt8} {n : Int} {k : Nat}
theorem b39 (h : ¬ n >= 0) : t7 s n w = false := by
 unfold t7; rw [decide_eq_false (by omega)]; rfl
theorem b38 (h : ¬ n + w.length <= s.length) : t7 s n w = false := by
 unfold t7; rw [decide_eq_false (p := n + w.length <= s.length) (by omega)]; simp
theorem b37 (h0 : n >= 0) (h : n + w.length <= s.length) : t7 s n w = ((ByteArray.extract (b6 s) n.toNat (n + (w.length : Nat)).toNat).toList == (b6 w).toList) := by
 unfold t7
 rw [decide_eq_true (by omega), decide_eq_true h, Bool.true_and, Bool.true_and, L9, C0, C0, show (n + (w.length : Nat)).toNat = n.toNat + w.length by omega, List.drop_take, Nat.add_sub_cancel_left]
theorem bM7 (hk : k < ls.length) (h : F4 (s.getD n.toNat 0) ls 0 = F4 (s.getD n.toNat 0) (ls.drop k) k) (he : ((s.getD n.toNat 0).toNat : Int) = ((ls.getD k 0).toNat : Int)) : F4 (s.getD n.toNat 0) ls 0 = k := by
 rw [h, List.drop_eq_getElem_cons hk, F4, if_pos]
 rw [m9 hk] at he
 exact UInt8.toNat_inj.1 (by omega)
theorem bz5 (hk : k < ls.length) (h : F4 (s.getD n.toNat 0) ls 0 = F4 (s.getD n.toNat 0) (ls.drop k) k) (he : ¬ ((s.getD n.toNat 0).toNat : Int) = ((ls.getD k 0).toNat : Int)) : F4 (s.getD n.toNat 0) ls 0 = F4 (s.getD n.toNat 0) (ls.drop (k + 1)) (k + 1 : Nat) := by
 rw [h, List.drop_eq_getElem_cons hk, F4, if_neg]
 ·rfl
 rw [m9 hk] at he
 exact fun e => he (by rw [e])
theorem bM8 (hk : ls.length <= k) (h : F4 (s.getD n.toNat 0) ls 0 = F4 (s.getD n.toNat 0) (ls.drop k) k) : F4 (s.getD n.toNat 0) ls 0 = -1 := by
 rw [h, List.drop_eq_nil_iff.2 hk]; rfl
theorem by2 (h : n < 0) : s6 s n ls = -1 := by unfold s6; rw [if_pos (.inl h)]
theorem by1 (h : n >= s.length) : s6 s n ls = -1 := by unfold s6; rw [if_pos (.inr h)]
theorem bn3 (h0 : ¬ n < 0) (h : ¬ n >= s.length) : s6 s n ls = F4 (s.getD n.toNat 0) ls 0 := by unfold s6; rw [if_neg (by omega)]
theorem bV9 (h : (k : Int) = 0) (he : s6 s (n + k) [48, 49, 50, 51, 52, 53, 54, 55, 56, 57] < 0) : I4 s n = (0, -1) := by
 have : k = 0 := by omega
 subst this
 exact b44 (by simpa using he)
theorem b14 (s : List UInt8) (n : Int) : -1 <= s6 s n [48, 49, 50, 51, 52, 53, 54, 55, 56, 57] /\ s6 s n [48, 49, 50, 51, 52, 53, 54, 55, 56, 57] <= 9 := by
 have := T4 s n [48, 49, 50, 51, 52, 53, 54, 55, 56, 57]
 simp only [b58, b60] at this
 omega
theorem bW0 (h : ∀ j : Nat, j < k -> 0 <= s6 s (n + j) [48, 49, 50, 51, 52, 53, 54, 55, 56, 57]) (hq : s6 s (n + k) [48, 49, 50, 51, 52, 53, 54, 55, 56, 57] >= 0) : ∀ j : Nat, j < k + 1 -> 0 <= s6 s (n + j) [48, 49, 50, 51, 52, 53, 54, 55, 56, 57] := fun j hj => by
 by_cases e : j = k
 ·subst e; exact hq
 exact h j (by omega)
end
theorem a84 (b : List UInt8) {k : Int} (hk : 0 <= k) (hk2 : k <= 1000000000) {l : List ByteArray} (hl : l ≠ []) : 0 <= pk b k l.length /\ pk b k l.length < l.length /\ (pk b k l.length).toNat < l.length := by
 have h0 : 0 < l.length := List.length_pos_iff.2 hl
 have h := bx4 b (n := l.length) hk hk2 (by omega)
 omega
theorem b47 (b : List UInt8) (j : Int) (l : List ByteArray) (hl : l ≠ []) (r0 : 0 <= j) (r1 : j <= 1000000000) : j1.ok Tryz.prog ⟨69, [.ptr 0 0, .ref 2], [.box [.ref 1, iA j], dY b, .dat (.strs l)], [.box [.ref 1, iA (j + 1)], dY b, .dat (.strs l)], .v (.string (l.getD (pk b j l.length).toNat ByteArray.empty))⟩ := by
 refine D2 12 Tryz.func69 [.box [.ref 1, iA j], dY b, .dat (D.strs l)] [(0, .ptr 0 0), (1, .ref 2)] fun G => ?_; refine wp_seq (j3 G d7 [(4, .v (.string (ByteArray.mk #[])))] fun G => b0 (wp_seq (G8 G (n4 4 [0, 1] (G5 b j ((l.length : Int)) (by assumption) (by assumption))) [0, 1, 2] [.box [.ref 1, iA (j + 1)], dY b, .dat (D.strs l)] [(4, .v (.string (l.getD (pk b j (l.length : Int)).toNat ByteArray.empty)))] [(0 : Int) <= pk b j (l.length : Int), pk b j (l.length : Int) < l.length, (pk b j (l.length : Int)).toNat < l.length] ⟨((a84 b r0 r1 hl).1), ((a84 b r0 r1 hl).2.1), ((a84 b r0 r1 hl).2.2), b70⟩ fun G => b0 (wp_ret ?_)))); exact H9 G [0, 1, 2]
theorem bO4 (s x : List UInt8) (k m : Nat) : b6 (s.take k ++ x ++ s.drop m) = (b6 s).extract 0 k ++ b6 x ++ (b6 s).extract m (b6 s).size := by
 rw [L9, L9, List.drop_zero, show (b6 s).size = s.length from rfl, List.take_length]
 simp only [J5]
abbrev bnC (b : List UInt8) (j k : Int) (l : List ByteArray) (s t : List UInt8) : j1 := ⟨41, [.ptr 0 0, tA s, .ref 2], [.box [.ref 1, iA j], dY b, .dat (.strs l)], [.box [.ref 1, iA k], dY b, .dat (.strs l)], tA t⟩
theorem bS0 (b : List UInt8) (j : Int) (l : List ByteArray) (s : List UInt8) (hs : s.length = 0) : j1.ok Tryz.prog (bnC b j j l s s) := by
 have hz : (b6 s).size = s.length := rfl; refine D2 35 Tryz.func41 [.box [.ref 1, iA j], dY b, .dat (D.strs l)] [(0, .ptr 0 0), (1, .v (.string (b6 s))), (2, .ref 2)] fun G => ?_; refine wp_seq (A4 G d7 [(0, .ptr 0 0), (1, .v (.string (b6 s))), (2, .ref 2), (6, .v (.string (ByteArray.mk #[])))] fun G => b0 (wp_seq (wp_seq ?_))); cases h0 : (((b6 s).size : Int) == 0)
 ·have q0 := ne_of_beq_false h0; exact False.elim (by omega)
 have q0 := eq_of_beq h0; refine j3 G (y7 (fc h0 fz) [(4, 0), (5, 0), (6, 0), (1007, 0)]) [(15, bA true)] fun G => b0 (rT G true (by kernel_rfl) (wp_seq (j3 G d7 [(6, .v (.string (b6 s)))] fun G => b0 (wp_ret (j2 ?_))))); exact H9 G [0, 1, 2]
theorem bR9 (b : List UInt8) (j : Int) (l : List ByteArray) (s : List UInt8) (hs : 0 < s.length) (hk : pk b j 2 = 0) (r0 : 0 <= j) (r1 : j <= 10000000) : j1.ok Tryz.prog (bnC b j (j + 1) l s s) := by
  have hz : (b6 s).size = s.length := rfl; refine D2 35 Tryz.func41 [.box [.ref 1, iA j], dY b, .dat (D.strs l)] [(0, .ptr 0 0), (1, .v (.string (b6 s))), (2, .ref 2)] fun G => ?_; refine wp_seq (A4 G d7 [(0, .ptr 0 0), (1, .v (.string (b6 s))), (2, .ref 2), (6, .v (.string (ByteArray.mk #[])))] fun G => b0 (wp_seq (wp_seq ?_))); cases h0 : (((b6 s).size : Int) == 0)
  ·
   have q0 := ne_of_beq_false h0; refine j5 G (x8 (m8 5 [0, 1] (G5 b j 2 (by assumption) (by omega)) x7) (fc h0 fz) [(4, 0), (5, 0), (6, 0), (1007, 0)]) [0, 1, 2] [.box [.ref 1, iA (j + 1)], dY b, .dat (D.strs l)] [(0, .ptr 0 0), (1, .v (.string (b6 s))), (2, .ref 2), (6, .v (.string (ByteArray.mk #[]))), (15, bA (pk b j 2 == 0))] fun G => b0 ?_; cases h1 : (pk b j (2 : Int) == 0)
   · have q1 := ne_of_beq_false h1; exact False.elim (by omega)
   have q1 := eq_of_beq h1; refine rT G _ h1 (wp_seq (j3 G d7 [(6, .v (.string (b6 s)))] fun G => b0 (wp_ret (j2 ?_)))); exact H9 G [0, 1, 2]
  have q0 := eq_of_beq h0; exact False.elim (by omega)
theorem bR8 (b : List UInt8) (j kk aa : Int) (l : List ByteArray) (s x : List UInt8) (hx : x.length <= 2) (hs : 0 < s.length) (hs2 : s.length <= 2000000) (hk : ¬ pk b j 2 = 0) (r0 : 0 <= j) (r1 : j <= 10000000)
    (hk1 : pk b (j + 1) ((b6 s).size : Int) = kk) (hk2 : 0 <= kk /\ kk < s.length) (ha : pk b (j + 1 + 1 + 1) 2 = aa) (ha2 : 0 <= aa /\ aa < 2)
    (hof : j1.ok Tryz.prog ⟨69, [.ptr 0 0, .ref 2], [.box [.ref 1, iA (j + 1 + 1)], dY b, .dat (.strs l)], [.box [.ref 1, iA (j + 1 + 1 + 1)], dY b, .dat (.strs l)], tA x⟩) :
    j1.ok Tryz.prog (bnC b j (j + 4) l s (s.take kk.toNat ++ x ++ s.drop (kk + aa).toNat)) := by
  have hz : (b6 s).size = s.length := rfl; have hzx : (b6 x).size = x.length := rfl; have ho9 := hof; refine D2 35 Tryz.func41 [.box [.ref 1, iA j], dY b, .dat (D.strs l)] [(0, .ptr 0 0), (1, .v (.string (b6 s))), (2, .ref 2)] fun G => ?_; refine wp_seq (A4 G d7 [(0, .ptr 0 0), (1, .v (.string (b6 s))), (2, .ref 2), (6, .v (.string (ByteArray.mk #[])))] fun G => b0 (wp_seq (wp_seq ?_))); cases h0 : (((b6 s).size : Int) == 0)
  ·
   have q0 := ne_of_beq_false h0; refine j5 G (x8 (m8 5 [0, 1] (G5 b j 2 (by assumption) (by omega)) x7) (fc h0 fz) [(4, 0), (5, 0), (6, 0), (1007, 0)]) [0, 1, 2] [.box [.ref 1, iA (j + 1)], dY b, .dat (D.strs l)] [(0, .ptr 0 0), (1, .v (.string (b6 s))), (2, .ref 2), (6, .v (.string (ByteArray.mk #[]))), (15, bA (pk b j 2 == 0))] fun G => b0 ?_; cases h1 : (pk b j (2 : Int) == 0)
   · have q1 := ne_of_beq_false h1; refine rF G _ h1 (wp_skip (b0 (wp_seq (j5 G (n4 3 [0, 1] (G5 b (j + 1) (((b6 s).size : Int)) (by omega) (by omega))) [0, 1, 2] [.box [.ref 1, iA (j + 1 + 1)], dY b, .dat (D.strs l)] [(0, .ptr 0 0), (1, .v (.string (b6 s))), (2, .ref 2), (6, .v (.string (ByteArray.mk #[]))), (7, iA (pk b (j + 1) ((b6 s).size : Int)))] fun G => b0 (wp_seq (B2 G (x8 (m8 5 [0, 1, 2] ho9 (m8 10 [0, 1] (G5 b (j + 1 + 1 + 1) 2 (by omega) (by omega)) x7)) fz []) [0, 0, 3, 0, 0, 24, 63, 0, 0, 0, 568, 1848, 4024, 8191, 16383] [0, 1, 2] [.box [.ref 1, iA (j + 1 + 1 + 1 + 1)], dY b, .dat (D.strs l)] [(6, .v (.string ((b6 s).extract 0 (pk b (j + 1) ((b6 s).size : Int)).toNat ++ b6 x ++ (b6 s).extract (pk b (j + 1) ((b6 s).size : Int) + pk b (j + 1 + 1 + 1) 2).toNat (b6 s).size)))] [(0 : Int) <= pk b (j + 1) ((b6 s).size : Int), pk b (j + 1) ((b6 s).size : Int) <= ((b6 s).size : Int), (↑(((b6 s).extract (0 : Nat) (pk b (j + 1) ((b6 s).size : Int)).toNat).size + (b6 x).size) : Int) <= 9223372036854775807, wO (pk b (j + 1) ((b6 s).size : Int) + pk b (j + 1 + 1 + 1) (2 : Int)), (0 : Int) <= pk b (j + 1) ((b6 s).size : Int) + pk b (j + 1 + 1 + 1) (2 : Int), pk b (j + 1) ((b6 s).size : Int) + pk b (j + 1 + 1 + 1) (2 : Int) <= ((b6 s).size : Int), (↑(((b6 s).extract (0 : Nat) (pk b (j + 1) ((b6 s).size : Int)).toNat ++ b6 x).size + ((b6 s).extract (pk b (j + 1) ((b6 s).size : Int) + pk b (j + 1 + 1 + 1) (2 : Int)).toNat (b6 s).size).size) : Int) <= 9223372036854775807] ⟨(by omega), (by omega), (by simp only [ByteArray.size_append, ByteArray.size_extract]; omega), (oW (by omega)), (by omega), (by omega), (by simp only [ByteArray.size_append, ByteArray.size_extract]; omega), b70⟩ fun G => b0 (wp_ret ?_))))))); exact E0 (.v (.string ((b6 s).extract 0 (pk b (j + 1) ((b6 s).size : Int)).toNat ++ b6 x ++ (b6 s).extract (pk b (j + 1) ((b6 s).size : Int) + pk b (j + 1 + 1 + 1) 2).toNat (b6 s).size))) G [0, 1, 2] (by show _ = AV.ren (nth [0, 1, 2]) (.v (.string (b6 (b63 kk.toNat s ++ x ++ List.drop (kk + aa).toNat s)))); have e1 : (b6 (b63 kk.toNat s ++ x ++ List.drop (kk + aa).toNat s) : ByteArray) = ((b6 s).extract 0 (pk b (j + 1) ((b6 s).size : Int)).toNat ++ b6 x ++ (b6 s).extract (pk b (j + 1) ((b6 s).size : Int) + pk b (j + 1 + 1 + 1) 2).toNat (b6 s).size) := (by rw [hk1, ha]; exact bO4 s x _ _); (first | rw [e1] | simp only [e1]) <;> rfl) (by show _ = mR [0, 1, 2] [.box [.ref 1, iA (j + 4)], dY b, .dat (D.strs l)]; have e1 : (j + 4 : Int) = (j + 1 + 1 + 1 + 1) := (by omega); (first | rw [e1] | simp only [e1]) <;> rfl)
   have q1 := eq_of_beq h1; exact False.elim (by omega)
  have q0 := eq_of_beq h0; exact False.elim (by omega)
theorem bN7 (b : List UInt8) (j : Int) (l : List (List UInt8)) (hl : l ≠ []) (h2 : ∀ x ∈ l, x.length <= 2) (s : List UInt8) (hs : s.length <= 2000000) (r0 : 0 <= j) (r1 : j <= 10000000) : ∃ (k : Int) (t : List UInt8), j <= k /\ k <= j + 4 /\ t.length <= s.length + 2 /\ j1.ok Tryz.prog (bnC b j k (l.map b6) s t) := by
 by_cases h0 : s.length = 0
 ·exact ⟨j, s, by omega, by omega, by omega, bS0 b j _ s h0⟩
 by_cases hk : pk b j 2 = 0
 ·exact ⟨j + 1, s, by omega, by omega, by omega, bR9 b j _ s (by omega) hk r0 r1⟩
 have e1 := bx4 b (k := j + 1) (n := s.length) (by omega) (by omega) (by omega)
 have e3 := bx4 b (k := j + 1 + 1 + 1) (n := 2) (by omega) (by omega) (by omega)
 have hn : l.map b6 ≠ [] := by simpa using hl
 have ho := b47 b (j + 1 + 1) (l.map b6) hn (by omega) (by omega)
 have e2 := a84 b (k := j + 1 + 1) (by omega) (by omega) hn
 generalize pk b (j + 1 + 1) (l.map b6).length = i at *
 have hi : i.toNat < l.length := by simpa using e2.2.2
 have hx : (l.map b6).getD i.toNat ByteArray.empty = b6 (l[i.toNat]'hi) := by rw [m9 e2.2.2, List.getElem_map]
 rw [hx] at ho
 have hq : (l[i.toNat]'hi).length <= 2 := h2 _ (b64 _)
 refine ⟨j + 4, _, by omega, by omega, ?_, bR8 b j _ _ (l.map b6) s _ hq (by omega) hs hk r0 r1 rfl ⟨e1.1, e1.2⟩ rfl ⟨e3.1, e3.2⟩ ho⟩
 simp only [b69, List.length_take, List.length_drop]
 omega
abbrev ppC (c t : List UInt8) : j1 := ⟨16, [.ref 0], [dY c], [dY c], tA t⟩
abbrev bX7 : List ByteArray := [⟨#[]⟩, ⟨#[97]⟩, ⟨#[58]⟩, ⟨#[59]⟩, ⟨#[123]⟩, ⟨#[125]⟩, ⟨#[40]⟩, ⟨#[48]⟩, ⟨#[47]⟩, ⟨#[105, 102]⟩, ⟨#[80]⟩, ⟨#[109]⟩]
theorem bZ2 (c b x t : List UInt8) (p : j0) (j k : Int)
  (h0 : j1.ok Tryz.prog ⟨40, [.ref 0], [dY c], [dY c, .box [.ref 2, iA 0], dY b], .ptr 1 0⟩)
  (h1 : j1.ok Tryz.prog ⟨42, [.ptr 0 0], [.box [.ref 1, iA 0], dY b], [.box [.ref 1, iA j], dY b] ++ oP p, oA 2⟩)
  (h2 : j1.ok Tryz.prog (F9 12 [pA 0] (pS p) (tA x)))
  (h3 : j1.ok Tryz.prog ⟨41, [.ptr 0 0, tA x, .ref 2], [.box [.ref 1, iA j], dY b, .dat (.strs ([⟨#[]⟩] ++ ([⟨#[97]⟩] ++ ([⟨#[58]⟩] ++ ([⟨#[59]⟩] ++ ([⟨#[123]⟩] ++ ([⟨#[125]⟩] ++ ([⟨#[40]⟩] ++ ([⟨#[48]⟩] ++ ([⟨#[47]⟩] ++ ([⟨#[105, 102]⟩] ++ ([⟨#[80]⟩] ++ ([⟨#[109]⟩] ++ [])))))))))))))], [.box [.ref 1, iA k], dY b, .dat (.strs bX7)], tA t⟩) : j1.ok Tryz.prog (ppC c t) := by
 have ho := h0; have hpg := h1; have hfm := h2; have hbn := h3; refine D2 12 Tryz.func16 [dY c] [(0, .ref 0)] fun G => ?_; refine wp_seq (j3 G d7 [(2, .v (.string (ByteArray.mk #[])))] fun G => b0 (wp_seq (j5 G (n4 1 [0] ho) [0, 9, 10] [dY c, .box [.ref 2, iA 0], dY b] [(2, .v (.string (ByteArray.mk #[]))), (3, .ptr 1 0)] fun G => b0 (wp_seq (j5 G (x8 (m8 2 [1, 2] hpg (m8 3 [19, 20, 21] (j1.lend hfm [.row 3, .row 3, .tree]) (m8 5 [1, 2, 35] (j1.lend hbn [.no, .no, .row 9]) x7))) fz []) [0] [dY c] [(2, .v (.string (b6 t)))] fun G => b0 (wp_ret ?_)))))); exact H9 G [0]
abbrev fpC (c : List UInt8) (p : j0) : j1 := ⟨10, [.ref 0], [dY c], [dY c] ++ pS p, pA 1⟩
theorem bZ5 (c : List UInt8) (p : j0)
  (h0 : j1.ok Tryz.prog ⟨30, [.ref 0], [dY c], [dY c] ++ oP p, oA 1⟩) : j1.ok Tryz.prog (fpC c p) := by
 have hpg := h0; refine D2 5 Tryz.func10 [dY c] [(0, .ref 0)] fun G => ?_; refine wp_seq (j5 G d7 [0, 1] [dY c, .box [.v (.slice none 0 0), .v (.slice none 0 0), .v (.slice none 0 0)]] [(0, .ref 0), (2, .ptr 1 0)] fun G => b0 (wp_seq (j5 G (n4 1 [0] hpg) [0, 1, 10, 11, 12] [dY c, .box [.ref 2, .ref 3, .tref 4], .row 3 (D.ints p.vars), .row 3 (D.ints p.arrays), .tree (D.stmts p.body)] [(2, .ptr 1 0)] fun G => b0 (wp_ret ?_)))); obtain ⟨ρ, G⟩ := G.frz [.no, .no, .row 3, .row 3, .tree] [dY c, .box (pL 2), dI p.vars, dI p.arrays, dT p.body] [(2, .ptr 1 0)]; exact H9 G [0, 2, 3, 4]
theorem Y7 (s u : List UInt8) (n : Int) (hs : s.length <= 100000000) (hw : u.length <= 1000) (hn : n <= s.length) : j1.ok Tryz.prog (F9 44 [scA s n, tA u] [] (bA (t7 s n u))) := by
  have hz : (b6 u).size = u.length := rfl; have hz2 : (b6 s).size = s.length := rfl; refine D2 33 Tryz.func44 [] [(0, .agg [.v (.string (b6 s)), iA n]), (1, .v (.string (b6 u)))] fun G => ?_; refine wp_seq (j5 G d7 [0] [.box [.v (.string (b6 s)), iA n]] [(1, .v (.string (b6 u))), (2, .ptr 0 0), (4, bA false)] fun G => b0 (wp_seq ?_)); cases h0 : (decide (n >= 0))
  · have q0 := L3 h0; refine j5 G (y7 (fc h0 (fc (b := false) rfl fz)) (us [(4, 12, 0), (1013, 1013, 0), (15, 26, 1), (1027, 1027, 1)])) [] [] [(4, bA false)] fun G => b0 (wp_ret ?_); exact y9 false G [] (b39 (by omega))
  have q0 := L2 h0; cases h1 : (decide (n + ((b6 u).size : Int) <= ((b6 s).size : Int)))
  · have q1 := L3 h1; refine G8 G (y7 (fc h0 (fc h1 fz)) (us [(4, 12, 0), (1013, 1013, 0), (15, 26, 1), (1027, 1027, 1)])) [] [] [(4, bA false)] [wO (n + ((b6 u).size : Int))] (o1 (by omega)) fun G => b0 (wp_ret ?_); exact y9 false G [] (b38 (by omega))
  have q1 := L2 h1; refine G8 G (y7 (fc h0 (fc h1 fz)) (us [(4, 12, 0), (1013, 1013, 0), (15, 26, 1), (1027, 1027, 1)])) [] [] [(4, bA (((b6 s).extract n.toNat (n + ((b6 u).size : Int)).toNat).toList == (b6 u).toList))] [wO (n + ((b6 u).size : Int)), wO (n + ((b6 u).size : Int)), (0 : Int) <= n, n <= n + ((b6 u).size : Int), n + ((b6 u).size : Int) <= ((b6 s).size : Int)] ⟨oW (by omega), (oW (by omega)), (by assumption), (by omega), (by assumption), b70⟩ fun G => b0 (wp_ret ?_); exact y9 (((b6 s).extract n.toNat (n + ((b6 u).size : Int)).toNat).toList == (b6 u).toList) G [] (b37 (by omega) (by omega))
theorem T6 (s : List UInt8) (n : Int) : j1.ok Tryz.prog (F9 46 [scA s n] [] (scA s (-1))) := by
 refine D2 6 Tryz.func46 [] [(0, .agg [.v (.string (b6 s)), iA n])] fun G => ?_; refine wp_seq (j5 G d7 [0, 8] [.box [.v (.string (b6 s)), iA n], .box [.v (.string (ByteArray.mk #[])), iA 0]] [(1, .ptr 0 0), (2, .ptr 1 0)] fun G => b0 (wp_seq (j5 G d7 [1] [.box [.v (.string (b6 s)), iA (-1)]] [(2, .ptr 0 0)] fun G => b0 (wp_ret ?_)))); exact H9 G []
theorem x5 (s u : List UInt8) (n : Int) (hs : s.length <= 100000000) (hw : u.length <= 1000) (hn : n <= s.length) : j1.ok Tryz.prog (F9 73 [scA s n, tA u] [] (scA s (d8 s n u))) := by
 have hz : (b6 u).size = u.length := rfl; refine D2 20 Tryz.func73 [] [(0, .agg [.v (.string (b6 s)), iA n]), (1, .v (.string (b6 u)))] fun G => ?_; refine wp_seq (j5 G d7 [0, 8] [.box [.v (.string (b6 s)), iA n], .box [.v (.string (ByteArray.mk #[])), iA 0]] [(1, .v (.string (b6 u))), (2, .ptr 0 0), (4, .ptr 1 0)] fun G => b0 (wp_seq (wp_seq (A4 G (n4 2 [] (Y7 s u n (by assumption) (by assumption) (by assumption))) [(1, .v (.string (b6 u))), (2, .ptr 0 0), (4, .ptr 1 0), (8, .v (.bool !t7 s n u))] fun G => b0 ?_)))); cases h0 : (!t7 s n u)
 ·have q0 : (t7 s n u) = true := (Eq.mp (b67 _) h0); have hq9 := a98 (s := s) (n := n) (w := u) (by assumption); refine rF G _ h0 (wp_skip (b0 (wp_seq (G8 G d7 [1] [.box [.v (.string (b6 s)), iA (n + ((b6 u).size : Int))]] [(4, .ptr 0 0)] [wO (n + ((b6 u).size : Int))] (o1 (by omega)) fun G => b0 (wp_ret ?_))))); exact E0 (.agg [.v (.string (b6 s)), iA (n + ((b6 u).size : Int))]) G [] (by show _ = AV.ren (nth []) (.agg [.v (.string (b6 s)), iA (d8 s n u)]); rw [bH9 (by assumption)] <;> rfl)
 have q0 : (t7 s n u) = false := (Eq.mp (b65 _) h0); refine rT G _ h0 (wp_seq (j5 G d7 [0, 1] [.box [.v (.string (b6 s)), iA n], .box [.v (.string (b6 s)), iA (-1)]] [(1, .v (.string (b6 u))), (2, .ptr 0 0), (4, .ptr 1 0)] fun G => b0 (wp_ret (j2 ?_)))); exact E0 (.agg [.v (.string (b6 s)), iA (-1)]) G [] (by show _ = AV.ren (nth []) (.agg [.v (.string (b6 s)), iA (d8 s n u)]); have e1 : (d8 s n u : Int) = (-1) := (by rw [bI0 (by assumption)]); (first | rw [e1] | simp only [e1]) <;> rfl)
theorem T5 (s ls : List UInt8) (n : Int) (hs : s.length <= 100000000) (hw : ls.length <= 1000) : j1.ok Tryz.prog (F9 75 [scA s n, tA ls] [] (iA (s6 s n ls))) := by
  have hz : (b6 ls).size = ls.length := rfl; have hz2 : (b6 s).size = s.length := rfl; refine D2 33 Tryz.func75 [] [(0, .agg [.v (.string (b6 s)), iA n]), (1, .v (.string (b6 ls)))] fun G => ?_; refine wp_seq (j5 G d7 [0] [.box [.v (.string (b6 s)), iA n]] [(1, .v (.string (b6 ls))), (2, .ptr 0 0), (4, iA 0)] fun G => b0 (wp_seq (wp_seq ?_))); cases h0 : (decide (n < 0))
  ·
   have q0 := L3 h0; refine j3 G (y7 (fc h0 fz) (us [(4, 9, 0), (1010, 1010, 0)])) [(16, bA (decide (n >= ((b6 s).size : Int))))] fun G => b0 (S9 G (fun h1 q1 => ?_) fun h1 q1 => ?_)
   ·
    refine wp_skip (b0 (wp_seq (wp_seq (A4 G d7 [(1, .v (.string (b6 ls))), (2, .ptr 0 0), (4, iA 0), (5, iA 0)] fun G => b0 (wp_block ?_))))); refine x4 (κ := Nat) (fun k => k <= ls.length /\ F4 (s.getD n.toNat 0) ls 0 = F4 (s.getD n.toNat 0) (ls.drop k) k) (fun k => ls.length - k) (fun k => [.box [.v (.string (b6 s)), iA n]]) (fun k => [(1, .v (.string (b6 ls))), (2, .ptr 0 0), (4, iA 0), (5, iA k)]) 0 (by simp [h0, h1]) (w6.at G _ _) ?_; clear G; intro k ρ a w hp G; refine wp_seq (wp_seq (j3 G d7 [(20, bA (decide ((k : Int) < ((b6 ls).size : Int))))] fun G => b0 (S9 G (fun h2 q2 => ?_) fun h2 q2 => ?_)))
    · refine wp_exit (p8 (p8 (p7 (b0 (wp_seq (j5 G d7 [] [] [(4, iA (-1))] fun G => b0 (wp_ret ?_))))))); exact rxI (-1) G [] (by rw [bn3 (by omega) (by omega)]; exact bM8 (by omega) hp.2)
    refine wp_skip (b0 (wp_seq (wp_block (wp_seq (aQ7 G d7 [0, 1, 0, 4, 15, 0, 0, 96, 255] [(31, bA ((((b6 s).data.toList.getD n.toNat 0).toNat : Int) == (((b6 ls).data.toList.getD k 0).toNat : Int)))] [(0 : Int) <= n, n < ((b6 s).size : Int), (0 : Int) <= (k : Int), (k : Int) < ((b6 ls).size : Int)] ⟨(by omega), (by omega), (by omega), (by assumption), b70⟩ fun G => b0 (rcE (u := (((b6 s).data.toList.getD n.toNat (0 : UInt8)).toNat : Int)) (v := (((b6 ls).data.toList.getD k (0 : UInt8)).toNat : Int)) G (fun h3 q3 => ?_) fun h3 q3 => ?_))))))
    · refine wp_skip (o9 (b0 (G7 G d7 [(5, iA ((k : Int) + 1))] [wO ((k : Int) + 1)] (o1 (by omega)) fun G => b0 ?_))); exact Z9 G (k + 1) (⟨by omega, bz5 (by omega) hp.2 (by assumption)⟩) (by omega) [0]
    refine wp_seq (j3 G d7 [(4, iA k)] fun G => b0 (wp_ret (A2 (j2 (j2 (A2 (j2 ?_))))))); exact rxI ((k : Int)) G [] (by rw [bn3 (by omega) (by omega)]; exact bM7 (by omega) hp.2 (by assumption))
   refine wp_seq (j3 G d7 [(4, iA (-1))] fun G => b0 (wp_ret (j2 ?_))); exact rxI (-1) G [] (by1 (by omega))
  have q0 := L2 h0; refine j3 G (y7 (fc h0 fz) (us [(4, 9, 0), (1010, 1010, 0)])) [(16, bA true)] fun G => b0 (rT G true (by kernel_rfl) (wp_seq (j3 G d7 [(4, iA (-1))] fun G => b0 (wp_ret (j2 ?_))))); exact rxI (-1) G [] (by2 (by omega))
theorem aA7 (s : List UInt8) (n : Int) (hs : s.length <= 100000000) (h0 : -1 <= n) (hn : n <= s.length) : j1.ok Tryz.prog (F9 74 [scA s n] [] (.tup [iA (I4 s n).1, .agg [.v (.string (b6 s)), iA (I4 s n).2]])) := by
  refine D2 44 Tryz.func74 [] [(0, .agg [.v (.string (b6 s)), iA n])] fun G => ?_; refine wp_seq (j5 G d7 [0, 16] [.box [.v (.string (b6 s)), iA n], .box [.v (.string (ByteArray.mk #[])), iA 0]] [(1, .ptr 0 0), (2, iA 0), (3, .ptr 1 0)] fun G => b0 (wp_seq (j3 G d7 [(4, iA 0)] fun G => b0 (wp_seq (A4 G d7 [(1, .ptr 0 0), (2, iA 0), (3, .ptr 1 0), (4, iA 0), (5, iA 0)] fun G => b0 (wp_seq (wp_block ?_))))))); refine x4 (κ := Nat) (fun k => k <= 3 /\ ∀ j : Nat, j < k -> 0 <= s6 s (n + j) [48, 49, 50, 51, 52, 53, 54, 55, 56, 57]) (fun k => 3 - k) (fun k => [.box [.v (.string (b6 s)), iA n], .box [.v (.string (ByteArray.mk #[])), iA 0]]) (fun k => [(1, .ptr 0 0), (2, iA 0), (3, .ptr 1 0), (4, iA (dgP s n k)), (5, iA k)]) 0 (⟨b92 _, fun j hj => by omega⟩) (w6.at G _ _) ?_; clear G; intro k ρ a w hp G; have hdb := bW2 s n (k := k) hp.1; have hnb := b14 s (n + k); refine wp_seq (wp_seq ?_); cases h0 : (decide ((k : Int) < 3))
  ·
   have q0 := L3 h0; refine j3 G (y7 (fc h0 fz) (us [(3, 11, 0), (1012, 1012, 0)])) [(18, bA false)] fun G => b0 (rF G false (by kernel_rfl) (wp_exit (p8 (p8 (p7 (b0 (wp_seq (wp_seq (A4 G d7 [(1, .ptr 0 0), (2, iA 0), (3, .ptr 1 0), (4, iA (dgP s n k)), (5, iA k), (33, bA ((k : Int) == 0))] fun G => b0 ?_))))))))); cases h1 : ((k : Int) == 0)
   · have q1 := ne_of_beq_false h1; refine rF G _ h1 (wp_skip (b0 (wp_seq (B2 G d7 [0, 0, 2, 0, 8, 0, 56, 126, 1, 511] [1] [.box [.v (.string (b6 s)), iA (n + (k : Int))]] [(2, iA (dgP s n k)), (3, .ptr 0 0)] [wO (n + (k : Int))] (o1 (by omega)) fun G => b0 (wp_ret ?_))))); exact E0 (.tup [iA (dgP s n k), .agg [.v (.string (b6 s)), iA (n + (k : Int))]]) G [] (by have e1 : ((I4 s n).fst : Int) = (dgP s n k) := (by rw [bA0 (k := k) (by omega) (by omega) hp.2 (by omega)]); have e2 : ((I4 s n).snd : Int) = (n + (k : Int)) := (by rw [bA0 (k := k) (by omega) (by omega) hp.2 (by omega)]); (first | rw [e1, e2] | simp only [e1, e2]) <;> rfl)
   have q1 := eq_of_beq h1; exact False.elim (by omega)
  have q0 := L2 h0; refine G7 G (x8 (m8 10 [] (T5 s ([48, 49, 50, 51, 52, 53, 54, 55, 56, 57]) (n + (k : Int)) (by assumption) (by simp [h0])) x7) (fc h0 fz) (us [(3, 11, 0), (1012, 1012, 0)])) [(18, bA (decide (s6 s (n + (k : Int)) [48, 49, 50, 51, 52, 53, 54, 55, 56, 57] >= 0)))] [wO (n + (k : Int))] (o1 (by omega)) fun G => b0 (S9 (p := s6 s (n + (k : Int)) [(48 : UInt8), (49 : UInt8), (50 : UInt8), (51 : UInt8), (52 : UInt8), (53 : UInt8), (54 : UInt8), (55 : UInt8), (56 : UInt8), (57 : UInt8)] >= 0) G (fun h2 q2 => ?_) fun h2 q2 => ?_)
  ·
   refine wp_exit (p8 (p8 (p7 (b0 (wp_seq (wp_seq (j3 G d7 [(33, bA ((k : Int) == 0))] fun G => b0 (rcE G (fun h3 q3 => ?_) fun h3 q3 => ?_))))))))
   · refine wp_skip (b0 (wp_seq (B2 G d7 [0, 0, 2, 0, 8, 0, 56, 126, 1, 511] [1] [.box [.v (.string (b6 s)), iA (n + (k : Int))]] [(2, iA (dgP s n k)), (3, .ptr 0 0)] [wO (n + (k : Int))] (o1 (by omega)) fun G => b0 (wp_ret ?_)))); exact E0 (.tup [iA (dgP s n k), .agg [.v (.string (b6 s)), iA (n + (k : Int))]]) G [] (by have e1 : ((I4 s n).fst : Int) = (dgP s n k) := (by rw [bA0 (k := k) (by omega) (by omega) hp.2 (by omega)]); have e2 : ((I4 s n).snd : Int) = (n + (k : Int)) := (by rw [bA0 (k := k) (by omega) (by omega) hp.2 (by omega)]); (first | rw [e1, e2] | simp only [e1, e2]) <;> rfl)
   refine wp_seq (j5 G (n4 1 [] (T6 s n)) [0, 1] [.box [.v (.string (b6 s)), iA n], .box [.v (.string (b6 s)), iA (-1)]] [(1, .ptr 0 0), (2, iA 0), (3, .ptr 1 0), (4, iA (dgP s n k)), (5, iA k)] fun G => b0 (wp_ret (j2 ?_))); exact E0 (.tup [iA 0, .agg [.v (.string (b6 s)), iA (-1)]]) G [] (by have e1 : ((I4 s n).fst : Int) = (0) := (by rw [bV9 (k := k) (by omega) (by omega)]); have e2 : ((I4 s n).snd : Int) = (-1) := (by rw [bV9 (k := k) (by omega) (by omega)]); (first | rw [e1, e2] | simp only [e1, e2]) <;> rfl)
  refine wp_skip (b0 (wp_block (wp_seq (G7 G (n4 9 [] (T5 s ([48, 49, 50, 51, 52, 53, 54, 55, 56, 57]) (n + (k : Int)) (by assumption) (by simp [h0, h2]))) [(4, iA (dgP s n k * 10 + s6 s (n + (k : Int)) [48, 49, 50, 51, 52, 53, 54, 55, 56, 57]))] [wO (dgP s n k * 10), wO (n + (k : Int)), wO (dgP s n k * 10 + s6 s (n + (k : Int)) [(48 : UInt8), (49 : UInt8), (50 : UInt8), (51 : UInt8), (52 : UInt8), (53 : UInt8), (54 : UInt8), (55 : UInt8), (56 : UInt8), (57 : UInt8)])] (o3 (by omega)) fun G => b0 (G7 G d7 [(5, iA ((k : Int) + 1))] [wO ((k : Int) + 1)] (o1 (by omega)) fun G => o9 (b0 ?_)))))); exact Z9 G (k + 1) (⟨by omega, bW0 hp.2 (by omega)⟩) (by omega) [0, 1]
section
variable {P : Program} {ι κ : Type} {φ ψ : Nat -> Prop} {w0 w : World} {F : ι -> Rs} {ρ ρ0 : Nat -> Value} {N m n : Nat} {S : List It} {tm : List (Nat × AV)} {a : Act}
theorem k8.shrink {L L' : κ -> Rs} (M : k8 φ ψ w0 w L) (h : ∀ k, L' k = L k \/ ((∀ b, (L' k).blk b -> (L k).blk b) /\ ∀ φ', (∀ b, T8 φ L b -> φ' b) -> (∀ b, (L k).blk b -> ¬ (L' k).blk b -> φ' b) -> (L' k).holds w φ')) : k8 φ ψ w0 w L' := by
 have old : ∀ k b, (L' k).blk b -> (L k).blk b := fun k b hb => by
  rcases h k with e | ⟨h1, _⟩
  ·rw [e] at hb; exact hb
  exact h1 b hb
 have hfr : ∀ b, T8 φ L b -> T8 φ L' b := fun b hb => ⟨hb.1, fun k hk => hb.2 k (old k b hk)⟩
 refine ⟨M.kept, M.fresh, M.env, fun k => ?_, fun i j g hij h1 h2 => M.dis i j g hij (old i g h1) (old j g h2), fun i b hb => M.ge i b (old i b hb), fun i b hb => M.ph i b (old i b hb)⟩
 rcases h k with e | ⟨h1, h2⟩
 ·rw [e]; exact Rs.keep (M.holds k) (I5.mono fun b _ hf => hfr b hf) fun _ _ => rfl
 refine h2 _ hfr fun b hb hn => ⟨M.ph k b hb, fun j hj => ?_⟩
 by_cases e : j = k
 ·subst e; exact hn hj
 exact M.dis j k b e (old j b hj) hb
def N6 (n : Nat) : List Ln := b77 n .no ++ [.tree]
theorem ax3 (n i : Nat) : x6 (N6 n) i = if i = n then .tree else .no := by
 unfold x6 N6
 rw [b59]
 rcases Nat.lt_trichotomy i n with h | h | h
 ·rw [b95 (by simpa using h), if_neg (by omega)]
  simp [List.getElem?_replicate, h]
 ·subst h; simp
 rw [b87 (by simp; omega), if_neg (by omega)]; rfl
def aJ4 : D -> Bool
 | .rows _ => true
 | d => natEq d.len 0
theorem K7.rw {w : World} {S φ : Nat -> Prop} {d : D} {xs : List Value} (hd : aJ4 d = true) (h : K7 w d S xs) (hs : ∀ b, S b -> φ b) : RW w φ d xs := by
 cases d with
 | rows l =>
  obtain ⟨k1, k2⟩ := G3.at h
  intro i hi j x hx
  obtain ⟨u, a, b, c⟩ := k2 i hi
  cases j with
  | zero =>
   simp only [D.elem, b74, Option.some.injEq] at hx
   subst hx
   refine ⟨u, by simpa [D.sz] using a, ?_⟩
   have e : l.getD i [] = l[i]'hi := by rw [b59, b56 hi]; rfl
   show z8 w φ u (l.getD i []).length 1 (ints (l.getD i []))
   rw [e]
   exact B8 b fun g hg => hs g (c g hg)
  | succ j => simp [D.elem] at hx
 | _ => exact RW.nil (by simpa [aJ4, natEq] using hd) _
def bS3 (i m : Nat) (e : TypeId) (d : D) (S1 : List It) (tm1 : List (Nat × AV)) : Bool :=
 decide (m <= i) && decide (i < S1.length) && aJ4 d && ah1 d e && (b82 S1.length).all (fun j => match s4 S1 j with
  | .box cs => AV.trOkL (N6 i) cs
  | .hole _ _ _ => false
  | _ => true) && (match s4 S1 i with | .row _ _ => true | _ => false) && tm1.all fun p => p.2.trOk (N6 i)
theorem w6.treeRow (G : w6 φ ψ w0 F N m ρ0 ρ S tm a w) (i : Nat) (e : TypeId) (d : D) (S1 : List It) (tm1 : List (Nat × AV)) (hb : bS3 i m e d S1 tm1 = true := by kernel_rfl) (hi : s4 S1 i = .row e d := by kernel_rfl) (hS : S = (I3 (N6 i) S1).set i (.tree d) := by kernel_rfl) (ht : tm = tm1.map (fun p => (p.1, p.2.tr (N6 i))) := by kernel_rfl) :
  ∃ ρ', w6 φ ψ w0 F N m ρ0 ρ' S1 tm1 a w := by
 subst hS
 subst ht
 simp only [bS3, b57, decide_eq_true_eq] at hb
 obtain ⟨⟨⟨⟨⟨⟨hm, hil⟩, hd0⟩, hte⟩, hall⟩, -⟩, htm⟩ := hb
 have hte := O1 hte
 have hlen : ((I3 (N6 i) S1).set i (.tree d)).length = S1.length := by simp [I3]
 have hlen0 : (I3 (N6 i) S1).length = S1.length := by simp [I3]
 have hat : ∀ j, s4 ((I3 (N6 i) S1).set i (.tree d)) j = if j = i then .tree d else s8 (N6 i) .no (s4 S1 j) := fun j => by
  by_cases e : j = i
  ·subst e
   rw [if_pos rfl]
   simp [s4, b59, hlen0, hil]
  rw [if_neg e]
  have h1 : s4 ((I3 (N6 i) S1).set i (.tree d)) j = s4 (I3 (N6 i) S1) j := by
   simp only [s4, b59]
   rw [List.getElem?_set_ne (fun h => e h.symm)]
  rw [h1, P6, ax3, if_neg e]
 have hbox : ∀ j cs, s4 S1 j = .box cs -> AV.trOkL (N6 i) cs = true := fun j cs h => by
  rcases b86 j S1.length with hj | hj
  ·have h2 := b68.1 hall j (List.mem_range.2 hj)
   rw [h] at h2; exact h2
  rw [A3 hj] at h; cases h
 have hhole : ∀ j k q ls, s4 S1 j = .hole k q ls -> False := fun j k q ls h => by
  rcases b86 j S1.length with hj | hj
  ·have h2 := b68.1 hall j (List.mem_range.2 hj)
   rw [h] at h2; cases h2
  rw [A3 hj] at h; cases h
 let ρ1 : Nat -> Value := fun j => if (x6 (N6 i) j).isT then D5 (ρ j) else ρ j
 have hρ1 : ∀ j, ρ1 j = if (x6 (N6 i) j).isT then D5 (ρ j) else ρ j := fun _ => rfl
 have hne : ∀ j, j ≠ i -> ρ1 j = ρ j := fun j hj => by rw [hρ1, ax3, if_neg hj]; rfl
 have heq : ρ1 i = D5 (ρ i) := by rw [hρ1, ax3, if_pos rfl]; rfl
 refine ⟨ρ1, G.size, G.defs, fun t x hx => ?_, fun t x hx j hj => ?_, fun j => ⟨fun q hq => ?_, fun hj => A3 hj⟩, ?_, ?_, fun j hj => ?_⟩
 ·obtain ⟨h1, p, h2, h3⟩ := ak7 (M := N6 i) hx
  rw [G.tmv t _ h1, AV.val_tr hρ1 x (by rw [<- h3]; exact b68.1 htm p h2)]
 ·obtain ⟨h1, _⟩ := ak7 (M := N6 i) hx
  have := G.tmi t _ h1 j (by rw [AV.ids_tr]; exact hj)
  rw [hlen] at this; exact this
 ·by_cases e : j = i
  ·subst e; rw [hi] at hq; cases hq
  have h1 := (G.bd j).1 q
  rw [hat, if_neg e, hlen] at h1
  rcases It.ids_lend (N6 i) .no (s4 S1 j) with h | h
  ·rw [h] at hq; cases hq
  exact h1 (by rw [h]; exact hq)
 ·refine G.mem.shrink fun k => ?_
  cases k with
  | inl q => exact .inl rfl
  | inr j =>
   simp only [n8]
   rw [hat]
   by_cases e1 : j = i
   ·subst e1
    rw [if_pos rfl, hi]
    have hh := G.mem.holds (.inr j)
    simp only [n8] at hh
    rw [hat, if_pos rfl] at hh
    obtain ⟨_, ⟨e', xs, S', h0, h1, h2, h3, h4⟩, _⟩ := hh
    rw [hte] at h0; cases h0
    refine .inr ⟨fun b hb => ?_, fun φ' _ hfree => ?_⟩
    ·simp only [It.res, Rs.blk] at hb ⊢
     rw [heq] at hb
     exact (h2 b hb).1
    simp only [It.res, Rs.blk] at hfree ⊢
    rw [heq] at hfree ⊢
    exact ⟨fun xs => RW.nice d xs, xs, h1, h4.rw hd0 fun b hb => hfree b (h3 b hb) fun he => (h2 b he).2 hb⟩
   rw [if_neg e1]
   left
   cases hx : s4 S1 j with
   | box cs =>
    simp only [s8, It.res]
    rw [hne j e1, AV.vals_tr hρ1 cs (hbox j cs hx)]
   | none => rfl
   | dead => rfl
   | dat d => simp only [s8, It.res]; rw [hne j e1]
   | row e' d => simp only [s8, It.res]; rw [hne j e1]
   | tree d => simp only [s8, It.res]; rw [hne j e1]
   | kept e' d => cases e' <;> (simp only [s8, It.res]; rw [hne j e1])
   | hole k q ls => exact (hhole j k q ls hx).elim
   | err => simp only [s8, It.res]; rw [hne j e1]
 ·have := G.le; rw [hlen] at this; exact this
 rw [hne j (by omega)]; exact G.old j hj
end
end Go.Proofs.YtompcdbfongedaaGreatDoor
