/- Part 5: functions on the way, plain laws. Conditions: as said. -/
import Derived.Test.YthikdkjjdeehoaaGreatK1
import Derived.Test.YthikdkjjdeehoaaGreatK3
import Derived.Test.YthikdkjjdeehoaaGreatK4
set_option maxRecDepth 100000
set_option maxHeartbeats 16000000
set_option linter.unusedVariables false
set_option linter.unusedSimpArgs false
open Bool renaming and_eq_true → ch4, not_eq_false' → ck2, not_eq_true' → cj4
open Inhabited renaming default → ch2
open Int renaming mul_le_mul_of_nonneg_right → cm6
open List renaming all_eq_true → ci2, append_assoc → cm7, eq_nil_of_length_eq_zero → cj2, getD_eq_getElem?_getD → ch7, getElem?_append_left → ci9, getElem?_append_right → ck6, getElem?_eq_getElem → ch6, getElem?_eq_none → cj8, getElem?_replicate → cl4, getElem_mem → cj1, length_append → ch8, length_cons → ci1, length_nil → ci6, length_replicate → cj3, length_set → cj9, map_cons → ck9, mem_append → cj5, mem_cons → cl2, mem_cons_of_mem → cl1, mem_cons_self → cl3, mem_singleton → ck4, range → cj0, replicate → ch3, take → ci0, take_of_length_le → ci8
open Nat renaming le_refl → ch9, le_trans → cj7, lt_or_ge → cj6, zero_le → ck8
open True renaming intro → ci7

namespace Go.Proofs.YthikdkjjdeehoaaGreat
open Go Go.RowKit
section
variable {p : i6} {s : c5} {cx : Int}
end
theorem bV8 : ∀ x : Fin 4, ∀ y : Fin 4, ∃ z : Fin 4, l4 x.val y.val = (z.val : Int) := by decide +kernel
theorem aI0 {x y : Int} (hx : i8 x = true) (hy : i8 y = true) : i8 (l4 x y) = true := by
 obtain ⟨a, rfl⟩ := Q5 hx
 obtain ⟨b, rfl⟩ := Q5 hy
 obtain ⟨c, h⟩ := bV8 a b
 rw [h]
 simp [i8]; omega
theorem a32 : ∀ x : Fin 4, ∀ y : Fin 4, l4 x.val y.val = l4 y.val x.val := by decide +kernel
theorem or_comm {x y : Int} (hx : i8 x = true) (hy : i8 y = true) : l4 x y = l4 y x := by
 obtain ⟨a, rfl⟩ := Q5 hx
 obtain ⟨b, rfl⟩ := Q5 hy
 exact a32 a b
theorem am3 {l : List Int} (h : l.all i8 = true) (i : Nat) : i8 (l.getD i 0) = true := by
 rcases cj6 i l.length with hi | hi
 ·rw [m6 hi]; exact ci2.1 h _ (cj1 hi)
 ·rw [ch7, cj8 hi]; rfl
theorem at9 {vs ars : List Int} (h1 : vs.all i8 = true) (h2 : ars.all i8 = true) : ∀ (d : Nat) (e : c6), i8 (j5 vs ars d e) = true
 | 0, _ => rfl
 | d + 1, e => by
  rw [j5]
  have key : ∀ (ks : List c6) (a : Int), i8 a = true → i8 (ks.foldl (fun a k => l4 a (j5 vs ars d k)) a) = true := by
   intro ks
   induction ks with
   | nil => intro a ha; exact ha
   | cons x r ih => intro a ha; rw [List.foldl_cons]; exact ih _ (aI0 ha (at9 h1 h2 d x))
  refine key _ _ ?_
  unfold aB5
  split
  ·exact am3 h1 _
  ·split
   ·exact am3 h2 _
   ·rfl
def bB6 (p : i6) : Bool := p.vars.all i8 && p.arrays.all i8
theorem bc4 {p : i6} (h : m0 p = true) : bB6 p = true := by
 unfold m0 F0 at h
 simp only [ch4] at h
 unfold bB6
 rw [h.1.1.1.1.1.1, h.1.1.1.1.1.2]; rfl
section
variable {p : i6} {s : c5}
end
section
variable {R : c5 × Int → Int} {c a : Int} {n : Nat} {x : c5 × Int}
end
section
variable {R : c5 × Int → Int} {p : i6} {d : Nat} {cx : Int} {ss : List c5} {c b : Int} {n k : Nat}
end
abbrev M6 : Type := List Int × List Int
def bv (x : Int) : BitVec 64 := BitVec.ofInt 64 x
def ofb (b : BitVec 64) : Int := IntKind.i64.wrap (b.toNat : Int)
theorem b05 (b : BitVec 64) : bv (ofb b) = b := by
 apply BitVec.eq_of_toNat_eq
 unfold bv ofb
 rw [BitVec.toNat_ofInt]
 have h := b.isLt
 unfold IntKind.wrap
 simp only [IntKind.bits, IntKind.signed, Bool.true_and, decide_eq_true_eq]
 split <;> omega
theorem bK8 (x y : Int) : l4 x y = ofb (bv x ||| bv y) := rfl
theorem bG8 (x y : Int) : bv (l4 x y) = bv x ||| bv y := by rw [bK8, b05]
def leI (x y : Int) : Prop := bv x ||| bv y = bv y
theorem leI.refl (x : Int) : leI x x := BitVec.or_self
theorem leI.trans {x y z : Int} (h : leI x y) (k : leI y z) : leI x z := by
 unfold leI at *
 rw [← k, ← BitVec.or_assoc, h]
theorem aJ3 (x y : Int) : leI x (l4 x y) := by unfold leI; rw [bG8, ← BitVec.or_assoc, BitVec.or_self]
theorem ae3 {x y a b : Int} (h : leI x a) (k : leI y b) : leI (l4 x y) (l4 a b) := by
 unfold leI at *
 rw [bG8, bG8, BitVec.or_assoc, ← BitVec.or_assoc (bv y), BitVec.or_comm (bv y) (bv a), BitVec.or_assoc (bv a), k, ← BitVec.or_assoc, h]
theorem b06 : ∀ x : Fin 4, ∀ y : Fin 4, bv x.val = bv y.val → x = y := by decide +kernel
theorem bX6 : ∀ x : Fin 4, ∀ y : Fin 4, bv x.val ||| bv y.val = bv y.val → x.val ≤ y.val := by decide +kernel
theorem leI.anti {x y : Int} (h : leI x y) (k : leI y x) (hx : i8 x = true) (hy : i8 y = true) : x = y := by
 obtain ⟨a, rfl⟩ := Q5 hx
 obtain ⟨b, rfl⟩ := Q5 hy
 unfold leI at *
 rw [BitVec.or_comm, h] at k
 rw [b06 b a k]
theorem leI.nat {x y : Int} (h : leI x y) (hx : i8 x = true) (hy : i8 y = true) : x.toNat ≤ y.toNat := by
 obtain ⟨a, rfl⟩ := Q5 hx
 obtain ⟨b, rfl⟩ := Q5 hy
 have := bX6 a b h
 omega
def leP (q r : M6) : Prop := (∀ i, leI (q.1.getD i 0) (r.1.getD i 0)) ∧ ∀ i, leI (q.2.getD i 0) (r.2.getD i 0)
def shP (q r : M6) : Prop := r.1.length = q.1.length ∧ r.2.length = q.2.length
def okP (q : M6) : Prop := q.1.all i8 = true ∧ q.2.all i8 = true
theorem leP.refl (q : M6) : leP q q := ⟨fun _ => leI.refl _, fun _ => leI.refl _⟩
theorem leP.trans {q r s : M6} (h : leP q r) (k : leP r s) : leP q s := ⟨fun i => (h.1 i).trans (k.1 i), fun i => (h.2 i).trans (k.2 i)⟩
theorem shP.refl (q : M6) : shP q q := ⟨rfl, rfl⟩
theorem shP.trans {q r s : M6} (h : shP q r) (k : shP r s) : shP q s := ⟨k.1.trans h.1, k.2.trans h.2⟩
theorem shP.symm {q r : M6} (h : shP q r) : shP r q := ⟨h.1.symm, h.2.symm⟩
theorem aR1 {a b : List Int} (hl : b.length = a.length) (h : ∀ i, leI (a.getD i 0) (b.getD i 0)) (k : ∀ i, leI (b.getD i 0) (a.getD i 0)) (ha : a.all i8 = true) (hb : b.all i8 = true) : a = b := by
 apply List.ext_getElem (by omega)
 intro i h1 h2
 have := (h i).anti (k i) (am3 ha i) (am3 hb i)
 rw [m6 h1, m6 h2] at this
 exact this
theorem leP.anti {q r : M6} (h : leP q r) (k : leP r q) (hs : shP q r) (hq : okP q) (hr : okP r) : q = r :=
 Prod.ext (aR1 hs.1 h.1 k.1 hq.1 hr.1) (aR1 hs.2 h.2 k.2 hq.2 hr.2)
theorem bz5 {q r : M6} (h : leP q r) (e : c6) : leI (aB5 q.1 q.2 e) (aB5 r.1 r.2 e) := by
 unfold aB5
 split
 ·exact h.1 _
 ·split
  ·exact h.2 _
  ·exact leI.refl _
theorem ak1 {q r : M6} (h : leP q r) : ∀ (d : Nat) (e : c6), leI (j5 q.1 q.2 d e) (j5 r.1 r.2 d e)
 | 0, _ => leI.refl _
 | d + 1, e => by
  rw [j5, j5]
  have key : ∀ (ks : List c6) (a b : Int), leI a b → leI (ks.foldl (fun a k => l4 a (j5 q.1 q.2 d k)) a) (ks.foldl (fun a k => l4 a (j5 r.1 r.2 d k)) b) := by
   intro ks
   induction ks with
   | nil => intro a b hab; exact hab
   | cons x t ih => intro a b hab; rw [List.foldl_cons, List.foldl_cons]; exact ih _ _ (ae3 hab (ak1 h d x))
  exact key _ _ _ (bz5 h e)
def J8 (q : M6) (s : c5) (cx : Int) : M6 :=
 if s.kind = 1 then (q.1.set s.target.toNat (l4 (l4 (q.1.getD s.target.toNat 0) (j5 q.1 q.2 5 s.value)) cx), q.2)
 else if s.kind = 2 then (q.1, q.2.set s.target.toNat (l4 (l4 (l4 (q.2.getD s.target.toNat 0) (j5 q.1 q.2 5 s.value)) (j5 q.1 q.2 5 s.index)) cx))
 else q
def ah0 (q : M6) (s : c5) (cx : Int) : Int := if s.kind = 3 then l4 cx (j5 q.1 q.2 5 s.value) else cx
def upS (b : Bool) : Nat → M6 → Int → c5 → M6
 | 0, q, _, _ => q
 | d + 1, q, cx, s => s.els.foldl (fun r t => upS b d r (ah0 (if b then s.body.foldl (fun r t => upS b d r (ah0 (J8 q s cx) s cx) t) (J8 q s cx) else J8 q s cx) s cx) t) (s.body.foldl (fun r t => upS b d r (ah0 (J8 q s cx) s cx) t) (J8 q s cx))
abbrev A4 (b : Bool) (d : Nat) (q : M6) (cx : Int) (ss : List c5) : M6 := ss.foldl (fun r t => upS b d r cx t) q
theorem ai1 (b : Bool) (d : Nat) (q : M6) (cx : Int) (s : c5) : upS b (d + 1) q cx s = A4 b d (A4 b d (J8 q s cx) (ah0 (J8 q s cx) s cx) s.body) (ah0 (if b then A4 b d (J8 q s cx) (ah0 (J8 q s cx) s cx) s.body else J8 q s cx) s cx) s.els := by rw [upS]
theorem aH1 (l : List Int) (t i : Nat) (x : Int) : (l.set t x).getD i 0 = if t = i ∧ t < l.length then x else l.getD i 0 := by
 simp only [ch7, List.getElem?_set]
 by_cases h : t = i
 ·subst h
  by_cases h2 : t < l.length
  ·simp [h2]
  ·simp [h2]
 ·simp [h]
theorem bk0 {l : List Int} {t : Nat} {x : Int} (h : l.all i8 = true) (hx : i8 x = true) : (l.set t x).all i8 = true := by
 rw [ci2] at *
 intro y hy
 rcases List.mem_or_eq_of_mem_set hy with h1 | h1
 ·exact h y h1
 ·rw [h1]; exact hx
theorem bc9 (q : M6) (s : c5) (cx : Int) : shP q (J8 q s cx) := by
 unfold J8
 split
 ·exact ⟨by simp, rfl⟩
 ·split
  ·exact ⟨rfl, by simp⟩
  ·exact shP.refl _
theorem a15 {l : List Int} {t : Nat} {x : Int} (h : leI (l.getD t 0) x) (i : Nat) : leI (l.getD i 0) ((l.set t x).getD i 0) := by
 rw [aH1]
 split
 ·rename_i h1; rw [← h1.1]; exact h
 ·exact leI.refl _
theorem a14 {l m : List Int} {t : Nat} {x y : Int} (hl : m.length = l.length) (h : ∀ i, leI (l.getD i 0) (m.getD i 0)) (hx : leI x y) (i : Nat) : leI ((l.set t x).getD i 0) ((m.set t y).getD i 0) := by
 rw [aH1, aH1, hl]
 split
 ·exact hx
 ·exact h i
theorem bz7 (q : M6) (s : c5) (cx : Int) : leP q (J8 q s cx) := by
 unfold J8
 split
 ·exact ⟨a15 ((aJ3 _ _).trans (aJ3 _ _)), fun _ => leI.refl _⟩
 ·split
  ·exact ⟨fun _ => leI.refl _, a15 (((aJ3 _ _).trans (aJ3 _ _)).trans (aJ3 _ _))⟩
  ·exact leP.refl _
theorem bz6 {q r : M6} (h : leP q r) (hs : shP q r) {cx cy : Int} (hc : leI cx cy) (s : c5) : leP (J8 q s cx) (J8 r s cy) := by
 unfold J8
 split
 ·exact ⟨a14 hs.1 h.1 (ae3 (ae3 (h.1 _) (ak1 h 5 _)) hc), h.2⟩
 ·split
  ·exact ⟨h.1, a14 hs.2 h.2 (ae3 (ae3 (ae3 (h.2 _) (ak1 h 5 _)) (ak1 h 5 _)) hc)⟩
  ·exact h
theorem bW2 {q : M6} (h : okP q) {cx : Int} (hc : i8 cx = true) (s : c5) : okP (J8 q s cx) := by
 unfold J8
 split
 ·exact ⟨bk0 h.1 (aI0 (aI0 (am3 h.1 _) (at9 h.1 h.2 5 _)) hc), h.2⟩
 ·split
  ·exact ⟨h.1, bk0 h.2 (aI0 (aI0 (aI0 (am3 h.2 _) (at9 h.1 h.2 5 _)) (at9 h.1 h.2 5 _)) hc)⟩
  ·exact h
theorem a47 {q r : M6} (h : leP q r) {cx cy : Int} (hc : leI cx cy) (s : c5) : leI (ah0 q s cx) (ah0 r s cy) := by
 unfold ah0
 split
 ·exact ae3 hc (ak1 h 5 _)
 ·exact hc
theorem bC6 {q : M6} (h : okP q) {cx : Int} (hc : i8 cx = true) (s : c5) : i8 (ah0 q s cx) = true := by
 unfold ah0
 split
 ·exact aI0 hc (at9 h.1 h.2 5 _)
 ·exact hc
theorem am4 {F : M6 → c5 → M6} (hF : ∀ q s, shP q (F q s)) : ∀ (ss : List c5) (q : M6), shP q (ss.foldl F q)
 | [], q => shP.refl q
 | s :: r, q => (hF q s).trans (am4 hF r _)
theorem ad3 {F : M6 → c5 → M6} (hF : ∀ q s, leP q (F q s)) : ∀ (ss : List c5) (q : M6), leP q (ss.foldl F q)
 | [], q => leP.refl q
 | s :: r, q => (hF q s).trans (ad3 hF r _)
theorem aD4 {F : M6 → c5 → M6} (hF : ∀ q s, okP q → okP (F q s)) : ∀ (ss : List c5) (q : M6), okP q → okP (ss.foldl F q)
 | [], _, h => h
 | s :: r, q, h => aD4 hF r _ (hF q s h)
theorem am5 {F G : M6 → c5 → M6} (hF : ∀ q s, shP q (F q s)) (hG : ∀ q s, shP q (G q s)) (h : ∀ q r s, shP q r → leP q r → leP (F q s) (G r s)) : ∀ (ss : List c5) (q r : M6), shP q r → leP q r → leP (ss.foldl F q) (ss.foldl G r)
 | [], _, _, _, hl => hl
 | s :: t, q, r, hs, hl => am5 hF hG h t _ _ (((hF q s).symm.trans hs).trans (hG r s)) (h q r s hs hl)
theorem ai0 (b : Bool) : ∀ (d : Nat) (cx : Int) (q : M6) (s : c5), shP q (upS b d q cx s)
 | 0, _, q, _ => shP.refl q
 | d + 1, cx, q, s => by
  rw [ai1]
  exact ((bc9 q s cx).trans (am4 (fun q s => ai0 b d _ q s) _ _)).trans (am4 (fun q s => ai0 b d _ q s) _ _)
theorem aC7 (b : Bool) : ∀ (d : Nat) (cx : Int) (q : M6) (s : c5), leP q (upS b d q cx s)
 | 0, _, q, _ => leP.refl q
 | d + 1, cx, q, s => by
  rw [ai1]
  exact ((bz7 q s cx).trans (ad3 (fun q s => aC7 b d _ q s) _ _)).trans (ad3 (fun q s => aC7 b d _ q s) _ _)
theorem bv7 (b : Bool) : ∀ (d : Nat) (cx : Int) (q : M6) (s : c5), i8 cx = true → okP q → okP (upS b d q cx s)
 | 0, _, _, _, _, h => h
 | d + 1, cx, q, s, hc, h => by
  rw [ai1]
  have h1 := bW2 h hc s
  have h2 : okP (A4 b d (J8 q s cx) (ah0 (J8 q s cx) s cx) s.body) := aD4 (fun q t hq => bv7 b d _ q t (bC6 h1 hc s) hq) _ _ h1
  refine aD4 (fun q t hq => bv7 b d _ q t (bC6 ?_ hc s) hq) _ _ h2
  split
  ·exact h2
  ·exact h1
theorem aT7 {b b' : Bool} (hb : b = true → b' = true) : ∀ (d : Nat) (cx cy : Int) (q r : M6) (s : c5), leI cx cy → shP q r → leP q r → leP (upS b d q cx s) (upS b' d r cy s)
 | 0, _, _, _, _, _, _, _, h => h
 | d + 1, cx, cy, q, r, s, hc, hs, h => by
  rw [ai1, ai1]
  have h1 := bz6 h hs hc s
  have s1 : shP (J8 q s cx) (J8 r s cy) := ((bc9 q s cx).symm.trans hs).trans (bc9 r s cy)
  have hi := a47 h1 hc s
  have h2 : leP (A4 b d (J8 q s cx) (ah0 (J8 q s cx) s cx) s.body) (A4 b' d (J8 r s cy) (ah0 (J8 r s cy) s cy) s.body) := am5 (fun q t => ai0 b d _ q t) (fun q t => ai0 b' d _ q t) (fun q r t hs hl => aT7 hb d _ _ q r t hi hs hl) _ _ _ s1 h1
  have s2 : shP (A4 b d (J8 q s cx) (ah0 (J8 q s cx) s cx) s.body) (A4 b' d (J8 r s cy) (ah0 (J8 r s cy) s cy) s.body) := ((am4 (fun q t => ai0 b d _ q t) _ _).symm.trans s1).trans (am4 (fun q t => ai0 b' d _ q t) _ _)
  refine am5 (fun q t => ai0 b d _ q t) (fun q t => ai0 b' d _ q t) (fun q r t hs hl => aT7 hb d _ _ q r t ?_ hs hl) _ _ _ s2 h2
  refine a47 ?_ hc s
  cases b with
  | true =>
   have e := hb rfl
   subst e
   exact h2
  | false =>
   simp only [Bool.false_eq_true, if_false]
   split
   ·exact h1.trans (ad3 (fun q t => aC7 b' d _ q t) _ _)
   ·exact h1
section
variable {b : Bool} {d : Nat} {cx : Int} {q r : M6} {ss : List c5}
theorem ap9 : shP q (A4 b d q cx ss) := am4 (fun q t => ai0 b d _ q t) _ _
theorem aF9 : leP q (A4 b d q cx ss) := ad3 (fun q t => aC7 b d _ q t) _ _
theorem bv8 (hc : i8 cx = true) (h : okP q) : okP (A4 b d q cx ss) := aD4 (fun q t hq => bv7 b d _ q t hc hq) _ _ h
end
def aU1 (l : List Int) : Nat := (l.map Int.toNat).sum
def aM8 (q : M6) : Nat := aU1 q.1 + aU1 q.2
theorem aU0 : ∀ {a b : List Int}, b.length = a.length → a.all i8 = true → b.all i8 = true → (∀ i, leI (a.getD i 0) (b.getD i 0)) → aU1 a ≤ aU1 b ∧ (aU1 a = aU1 b → a = b)
 | [], b, hl, _, _, _ => by rw [cj2 hl]; exact ⟨ch9 _, fun _ => rfl⟩
 | x :: r, [], hl, _, _, _ => by cases hl
 | x :: r, y :: t, hl, ha, hb, h => by
  simp only [List.all_cons, ch4] at ha hb
  have h0 := h 0
  simp at h0
  obtain ⟨k1, k2⟩ := aU0 (a := r) (b := t) (by simpa using hl) ha.2 hb.2 fun i => by have := h (i + 1); simpa using this
  have k3 := h0.nat ha.1 hb.1
  simp only [aU1, ck9, List.sum_cons] at k1 k2 ⊢
  refine ⟨by omega, fun e => ?_⟩
  obtain ⟨a, rfl⟩ := Q5 ha.1
  obtain ⟨b, rfl⟩ := Q5 hb.1
  rw [k2 (by omega)]
  congr 1
  omega
theorem aG5 : ∀ {l : List Int}, l.all i8 = true → aU1 l ≤ 3 * l.length
 | [], _ => ck8 _
 | x :: r, h => by
  simp only [List.all_cons, ch4] at h
  have h1 := aG5 h.2
  obtain ⟨a, rfl⟩ := Q5 h.1
  simp only [aU1, ck9, List.sum_cons, ci1] at h1 ⊢
  omega
theorem bj6 {q r : M6} (hs : shP q r) (hq : okP q) (hr : okP r) (h : leP q r) (hne : ¬ r = q) : aM8 q < aM8 r := by
 obtain ⟨a1, a2⟩ := aU0 hs.1 hq.1 hr.1 h.1
 obtain ⟨b1, b2⟩ := aU0 hs.2 hq.2 hr.2 h.2
 unfold aM8
 refine Nat.lt_of_not_le fun hle => hne (Prod.ext (a2 (by omega)).symm (b2 (by omega)).symm)
theorem a04 {q : M6} (hq : okP q) : aM8 q ≤ 3 * (q.1.length + q.2.length) := by
 have h1 := aG5 hq.1
 have h2 := aG5 hq.2
 unfold aM8; omega
def ah4 (b : List c5) (p q : M6) : Prop := shP p q ∧ okP q ∧ leP p q ∧ ∀ r, shP p r → okP r → leP p r → A4 true 5 r 0 b = r → leP q r
theorem aq7 {b : List c5} {p : M6} (h : okP p) : ah4 b p p := ⟨shP.refl _, h, leP.refl _, fun _ _ _ h _ => h⟩
theorem am2 {b : List c5} {p q : M6} {f : Bool} (h : ah4 b p q) : ah4 b p (A4 f 5 q 0 b) :=
 ⟨h.1.trans ap9, bv8 rfl h.2.1, h.2.2.1.trans aF9, fun r h1 h2 h3 h4 => by
  have h5 := h.2.2.2 r h1 h2 h3 h4
  have := am5 (fun q t => ai0 f 5 0 q t) (fun q t => ai0 true 5 0 q t) (fun q r t hs hl => aT7 (b := f) (b' := true) (fun _ => rfl) 5 0 0 q r t (leI.refl _) hs hl) b q r (h.1.symm.trans h1) h5
  rw [show b.foldl (fun q t => upS true 5 q 0 t) r = r from h4] at this
  exact this⟩
theorem a48 {b : List c5} {p q r : M6} (hq : ah4 b p q) (hr : ah4 b p r) (fq : A4 true 5 q 0 b = q) (fr : A4 true 5 r 0 b = r) : q = r :=
 (hq.2.2.2 r hr.1 hr.2.1 hr.2.2.1 fr).anti (hr.2.2.2 q hq.1 hq.2.1 hq.2.2.1 fq) (hq.1.symm.trans hr.1) hq.2.1 hr.2.1
def aN2 (b : List c5) : Nat → M6 → M6
 | 0, q => q
 | n + 1, q => aN2 b n (A4 true 5 q 0 b)
def ax1 (p : i6) : M6 := aN2 p.body 64 (p.vars, p.arrays)
theorem a49 {b : List c5} {p : M6} : ∀ (n : Nat) (q : M6), ah4 b p q → ah4 b p (aN2 b n q)
 | 0, _, h => h
 | n + 1, q, h => a49 n _ (am2 h)
theorem a50 {b : List c5} : ∀ (n : Nat) {q : M6}, A4 true 5 q 0 b = q → aN2 b n q = q
 | 0, _, _ => rfl
 | n + 1, q, h => by rw [aN2, h]; exact a50 n h
theorem a51 {b : List c5} {p : M6} : ∀ (n : Nat) (q : M6), ah4 b p q → A4 true 5 (aN2 b n q) 0 b = aN2 b n q ∨ aM8 q + n ≤ aM8 (aN2 b n q)
 | 0, _, _ => .inr (ch9 _)
 | n + 1, q, h => by
  rw [aN2]
  by_cases e : A4 true 5 q 0 b = q
  ·left
   rw [e, a50 n e, e]
  ·have h1 := bj6 ap9 h.2.1 (bv8 rfl h.2.1) aF9 e
   rcases a51 n _ (am2 (f := true) h) with h2 | h2
   ·exact .inl h2
   ·right; omega
theorem aW9 {p : i6} (h : m0 p = true) : okP (p.vars, p.arrays) := by
 have := bc4 h
 simp only [bB6, ch4] at this
 exact this
theorem aJ7 {p : i6} (h : m0 p = true) : ah4 p.body (p.vars, p.arrays) (ax1 p) := a49 64 _ (aq7 (aW9 h))
theorem bC9 {p : i6} (h : m0 p = true) (hl : p.vars.length + p.arrays.length ≤ 14) : A4 true 5 (ax1 p) 0 p.body = ax1 p := by
 rcases a51 (b := p.body) 64 (p.vars, p.arrays) (aq7 (aW9 h)) with h1 | h1
 ·exact h1
 ·have h2 := aJ7 h
  have h3 := a04 h2.2.1
  have h4 := h2.1
  have h5 : aN2 p.body 64 (p.vars, p.arrays) = ax1 p := rfl
  rw [h5] at h1
  rw [h4.1, h4.2] at h3
  simp only at h3
  omega
theorem bm7 {p : i6} {q : M6} (h : m0 p = true) (hl : p.vars.length + p.arrays.length ≤ 14) (hq : ah4 p.body (p.vars, p.arrays) q) (hf : A4 true 5 q 0 p.body = q) : ax1 p = q :=
 a48 (aJ7 h) hq (bC9 h hl) hf
theorem bj5 {a b : c6} (h : ¬ a = b) : K4 a b = false := by
 cases e : K4 a b
 ·rfl
 ·exact absurd ((L7 a b).1 e) h
section
variable {a b : c6} {k : Nat}
theorem sx1 (h : ¬ a.kind = b.kind) : K4 a b = false := bj5 fun e => h (by rw [e])
theorem sx2 (h : ¬ a.value = b.value) : K4 a b = false := bj5 fun e => h (by rw [e])
theorem sx3 (h : ¬ (a.kids.length : Int) = b.kids.length) : K4 a b = false := bj5 fun e => h (by rw [e])
theorem sx4 (h : K4 (a.kids.getD k ch2) (b.kids.getD k ch2) = false) : K4 a b = false := bj5 fun e => by
 subst e
 rw [(L7 _ _).2 rfl] at h; cases h
theorem aw2 {α : Type} {l m : List α} {k : Nat} {z : α} (h : l.take k = m.take k) (h1 : k < l.length) (h2 : k < m.length) (e : l.getD k z = m.getD k z) : l.take (k + 1) = m.take (k + 1) := by
 rw [m8 _ _ h1, m8 _ _ h2, h, ← m6 (d := z) h1, ← m6 (d := z) h2, e]
theorem aG3 {α : Type} {l m : List α} {k : Nat} (h : l.take k = m.take k) (h1 : l.length ≤ k) (h2 : (l.length : Int) = m.length) : l = m := by
 rw [ci8 h1, ci8 (by omega)] at h
 exact h
theorem sx5 (h1 : a.kind = b.kind) (h2 : a.value = b.value) (h3 : (a.kids.length : Int) = b.kids.length) (h : a.kids.take k = b.kids.take k) (hk : a.kids.length ≤ k) : K4 a b = true := by
 refine (L7 _ _).2 ?_
 rw [← c6.eta a, ← c6.eta b, h1, h2, aG3 h hk h3]
end
abbrev sxC (a b : c6) : j9 := T5 259 [eA a 0, eA b 1] [dE a.kids, dE b.kids] (bA (K4 a b))
theorem bJ2 (x y : c6) (ih : ∀ (u : c6), u ∈ x.kids → ∀ (v : c6), j9.ok Tryz.prog (sxC u v)) : j9.ok Tryz.prog (sxC x y) := by
  refine E9 46 Tryz.func259 [dE x.kids, dE y.kids] [(0, eA x 0), (1, eA y 1)] fun G => ?_; have hl : x.kids.length ≤ 9223372036854775807 := G.len 0 (d := .exprs x.kids) (by kernel_rfl); refine wp_seq (j8 G d9 [0, 1, 2, 10] [dE x.kids, dE y.kids, .box (eL x 0), .box (eL y 1)] [(2, .ptr 2 0), (3, .ptr 3 0), (4, bA false)] fun G => b6 (wp_seq (wp_seq ?_))); cases h0 : (x.kind != y.kind)
  ·
   have q0 := bne_eq_false_iff_eq.1 h0; cases h1 : (x.value != y.value)
   ·
    have q1 := bne_eq_false_iff_eq.1 h1; refine k8 G (J1 (fc h0 (fc h1 fz)) (us [(6, 10, 0), (1011, 1011, 0), (13, 19, 1), (1020, 1020, 1)])) [(26, bA ((x.kids.length : Int) != (y.kids.length : Int)))] fun G => b6 (rcN G (fun h2 q2 => ?_) fun h2 q2 => ?_)
    ·
     refine wp_skip (b6 (wp_seq (wp_seq (D2 G d9 [(2, .ptr 2 0), (3, .ptr 3 0), (4, bA false), (5, iA 0)] fun G => b6 (wp_block ?_))))); refine t0 (κ := Nat) (fun k => k ≤ x.kids.length ∧ x.kids.take k = y.kids.take k) (fun k => x.kids.length - k) (fun k => [dE x.kids, dE y.kids, .box (eL x 0), .box (eL y 1)]) (fun k => [(2, .ptr 2 0), (3, .ptr 3 0), (4, bA false), (5, iA k)]) 0 (by simp [h0, h1, h2]) (t7.at G _ _) ?_; clear G; intro k ρ a w hp G; refine wp_seq (wp_seq (k8 G d9 [(31, bA (decide ((k : Int) < x.kids.length)))] fun G => b6 (rcD G (fun h3 q3 => ?_) fun h3 q3 => ?_)))
     · refine wp_exit (s7 (s7 (r8 (b6 (wp_seq (j8 G d9 [0, 1] [dE x.kids, dE y.kids] [(4, bA true)] fun G => b6 (wp_ret ?_))))))); exact J6 true G [0, 1] (sx5 (by omega) (by omega) (by omega) hp.2 (by omega))
     ·
      refine wp_skip (b6 (wp_seq (wp_block (wp_seq (ac8 G (s8 10 [36, 76] (ih (x.kids.getD k ch2) (au1 (by omega)) (y.kids.getD k ch2))) [0, 1, 0, 7, 15, 0, 32, 0, 224, 480, 1023, 2047] [(45, .v (.bool !K4 (x.kids.getD k ch2) (y.kids.getD k ch2)))] (iX k k x.kids.length (iX k k y.kids.length [])) (iK (by omega) (iK (by omega) ci7)) fun G => b6 ?_))))); cases h4 : (!K4 (x.kids.getD k ch2) (y.kids.getD k ch2))
      · have q4 : (K4 (x.kids.getD k ch2) (y.kids.getD k ch2)) = true := (Eq.mp (ck2 _) h4); refine rF G _ h4 (wp_skip (l0 (b6 (E0 G d9 [(5, iA ((k : Int) + 1))] [wO ((k : Int) + 1)] (o1 (by omega)) fun G => b6 ?_)))); exact I9 G (k + 1) (⟨by omega, aw2 hp.2 (by omega) (by omega) ((L7 _ _).1 (by with_reducible assumption))⟩) (by omega) (rg 4)
      · have q4 : (K4 (x.kids.getD k ch2) (y.kids.getD k ch2)) = false := (Eq.mp (cj4 _) h4); refine rT G _ h4 (wp_seq (k8 G d9 [] fun G => b6 (wp_ret (z5 (l6 (l6 (z5 (l6 ?_)))))))); exact J6 false G [0, 1] (sx4 (by with_reducible assumption))
    · refine wp_seq (k8 G d9 [] fun G => b6 (wp_ret (l6 ?_))); exact J6 false G [0, 1] (sx3 (by omega))
   · have q1 := bne_iff_ne.1 h1; refine k8 G (J1 (fc h0 (fc h1 fz)) (us [(6, 10, 0), (1011, 1011, 0), (13, 19, 1), (1020, 1020, 1)])) [(26, bA true)] fun G => b6 (rT G true (by kernel_rfl) (wp_seq (k8 G d9 [] fun G => b6 (wp_ret (l6 ?_))))); exact J6 false G [0, 1] (sx2 (by omega))
  · have q0 := bne_iff_ne.1 h0; refine k8 G (J1 (fc h0 (fc (b := true) rfl fz)) (us [(6, 10, 0), (1011, 1011, 0), (13, 19, 1), (1020, 1020, 1)])) [(26, bA true)] fun G => b6 (rT G true (by kernel_rfl) (wp_seq (k8 G d9 [] fun G => b6 (wp_ret (l6 ?_))))); exact J6 false G [0, 1] (sx1 (by omega))
theorem af7 (x : c6) : ∀ (y : c6), j9.ok Tryz.prog (sxC x y) :=
 c6.ind (P := fun x => ∀ (y : c6), j9.ok Tryz.prog (sxC x y)) (fun k n ks ih y => bJ2 ⟨k, n, ks⟩ y fun u hu => ih u hu) x
theorem al0 (xs ys : List Int) : j9.ok Tryz.prog (T5 225 [.ref 0, .ref 1] [dI xs, dI ys] (bA (decide (xs = ys)))) := by
  refine E9 26 Tryz.func225 [dI xs, dI ys] [(0, .ref 0), (1, .ref 1)] fun G => ?_; have hl : xs.length ≤ 9223372036854775807 := G.len 0 (d := .ints xs) (by kernel_rfl); refine wp_seq (D2 G d9 [(0, .ref 0), (1, .ref 1), (4, bA false)] fun G => b6 (wp_seq (wp_seq (k8 G d9 [(10, bA ((xs.length : Int) != (ys.length : Int)))] fun G => b6 (rcN G (fun h0 q0 => ?_) fun h0 q0 => ?_)))))
  ·
   refine wp_skip (b6 (wp_seq (wp_seq (D2 G d9 [(0, .ref 0), (1, .ref 1), (4, bA false), (5, iA 0)] fun G => b6 (wp_block ?_))))); refine t0 (κ := Nat) (fun k => k ≤ xs.length ∧ xs.take k = ys.take k) (fun k => xs.length - k) (fun k => [dI xs, dI ys]) (fun k => [(0, .ref 0), (1, .ref 1), (4, bA false), (5, iA k)]) 0 (by simp [h0]) (t7.at G _ _) ?_; clear G; intro k ρ a w hp G; refine wp_seq (wp_seq (k8 G d9 [(14, bA (decide ((k : Int) < xs.length)))] fun G => b6 (rcD G (fun h1 q1 => ?_) fun h1 q1 => ?_)))
   · refine wp_exit (s7 (s7 (r8 (b6 (wp_seq (k8 G d9 [(4, bA true)] fun G => b6 (wp_ret ?_))))))); exact J6 true G [0, 1] (decide_eq_true (aG3 hp.2 (by omega) (by omega)))
   ·
    refine wp_skip (b6 (wp_seq (wp_block (wp_seq (ac8 G d9 [0, 0, 3, 7, 0, 0, 48, 112, 255] [(25, bA (xs.getD k 0 != ys.getD k 0))] (iX k k xs.length (iX k k ys.length [])) (iK (by omega) (iK (by omega) ci7)) fun G => b6 (rcN G (fun h2 q2 => ?_) fun h2 q2 => ?_))))))
    · refine wp_skip (l0 (b6 (E0 G d9 [(5, iA ((k : Int) + 1))] [wO ((k : Int) + 1)] (o1 (by omega)) fun G => b6 ?_))); exact I9 G (k + 1) (⟨by omega, aw2 hp.2 (by omega) (by omega) (by omega)⟩) (by omega) [0, 1]
    · refine wp_seq (k8 G d9 [] fun G => b6 (wp_ret (z5 (l6 (l6 (z5 (l6 ?_))))))); exact J6 false G [0, 1] (by exact decide_eq_false fun e => by subst e; omega)
  · refine wp_seq (k8 G d9 [] fun G => b6 (wp_ret (l6 ?_))); exact J6 false G [0, 1] (by exact decide_eq_false fun e => by subst e; omega)
theorem aG7 {s t : c5} (h : ¬ s = t) : Q3 s t = false := by
 cases e : Q3 s t
 ·rfl
 ·exact absurd ((ai9 s t).1 e) h
theorem bQ8 {l m : List c5} (h : ¬ l = m) : z4 l m = false := by
 cases e : z4 l m
 ·rfl
 ·exact absurd ((I8 l m).1 e) h
section
variable {s t : c5} {l m : List c5} {k : Nat}
theorem sr1 (h : ¬ s.kind = t.kind) : Q3 s t = false := aG7 fun e => h (by rw [e])
theorem sr2 (h : ¬ s.target = t.target) : Q3 s t = false := aG7 fun e => h (by rw [e])
theorem sr3 (h : ¬ s.count = t.count) : Q3 s t = false := aG7 fun e => h (by rw [e])
theorem sr4 (h : K4 s.index t.index = false) : Q3 s t = false := aG7 fun e => by subst e; rw [(L7 _ _).2 rfl] at h; cases h
theorem sr5 (h : K4 s.value t.value = false) : Q3 s t = false := aG7 fun e => by subst e; rw [(L7 _ _).2 rfl] at h; cases h
theorem sr6 (h : z4 s.body t.body = false) : Q3 s t = false := aG7 fun e => by subst e; rw [(I8 _ _).2 rfl] at h; cases h
theorem sr7 (h : z4 s.els t.els = false) : Q3 s t = false := aG7 fun e => by subst e; rw [(I8 _ _).2 rfl] at h; cases h
theorem sr8 (h1 : s.kind = t.kind) (h2 : s.target = t.target) (h3 : s.count = t.count) (h4 : K4 s.index t.index = true) (h5 : K4 s.value t.value = true) (h6 : z4 s.body t.body = true) : Q3 s t = z4 s.els t.els := by
 cases e : z4 s.els t.els
 ·exact sr7 e
 ·refine (ai9 _ _).2 ?_
  rw [← c5.eta s, ← c5.eta t, h1, h2, h3, (L7 _ _).1 h4, (L7 _ _).1 h5, (I8 _ _).1 h6, (I8 _ _).1 e]
theorem sb1 (h : ¬ (l.length : Int) = m.length) : z4 l m = false := bQ8 fun e => h (by rw [e])
theorem sb2 (h : Q3 (l.getD k ch2) (m.getD k ch2) = false) : z4 l m = false := bQ8 fun e => by
 subst e
 rw [(ai9 _ _).2 rfl] at h; cases h
theorem sb3 (h3 : (l.length : Int) = m.length) (h : l.take k = m.take k) (hk : l.length ≤ k) : z4 l m = true := (I8 _ _).2 (aG3 h hk h3)
end
abbrev sbC (l m : List c5) : j9 := T5 226 [.ref 0, .ref 1] [dT l, dT m] (bA (z4 l m))
abbrev ssC (s t : c5) : j9 := T5 248 [sA s 0, sA t 4] (sS s ++ sS t) (bA (Q3 s t))
abbrev ar5 (s : c5) (t : c5) (r0 : List It) : List It := dE s.index.kids :: dE s.value.kids :: dT s.body :: dT s.els :: dE t.index.kids :: dE t.value.kids :: dT t.body :: dT t.els :: r0
theorem bJ3 (s t : c5) (ih1 : ∀ (m : List c5), j9.ok Tryz.prog (sbC s.body m)) (ih2 : ∀ (m : List c5), j9.ok Tryz.prog (sbC s.els m)) : j9.ok Tryz.prog (ssC s t) := by
  refine E9 52 Tryz.func248 (ar5 s t []) [(0, sA s 0), (1, sA t 4)] fun G => ?_; refine wp_seq (j8 G d9 [0, 1, 2, 3, 4, 5, 6, 7, 8, 16] (ar5 s t [.box (sL s 0), .box (sL t 4)]) [(2, .ptr 8 0), (3, .ptr 9 0), (4, bA false)] fun G => b6 (wp_seq ?_)); cases h0 : (s.kind == t.kind)
  · have q0 := ne_of_beq_false h0; refine j8 G (J1 (fc h0 (fc (b := false) rfl fz)) (us [(6, 10, 0), (1011, 1011, 0), (13, 17, 1), (1018, 1018, 1), (20, 24, 1), (1025, 1025, 1), (27, 31, 1), (1032, 1032, 1), (34, 38, 1), (1039, 1039, 1), (41, 45, 1), (1046, 1046, 1)])) (rg 8) (ar5 s t []) [(4, bA false)] fun G => b6 (wp_ret ?_); exact J6 false G (rg 8) (sr1 (by omega))
  ·
   have q0 := eq_of_beq h0; cases h1 : (s.target == t.target)
   · have q1 := ne_of_beq_false h1; refine j8 G (J1 (fc h0 (fc h1 (fc (b := false) rfl fz))) (us [(6, 10, 0), (1011, 1011, 0), (13, 17, 1), (1018, 1018, 1), (20, 24, 2), (1025, 1025, 2), (27, 31, 2), (1032, 1032, 2), (34, 38, 2), (1039, 1039, 2), (41, 45, 2), (1046, 1046, 2)])) (rg 8) (ar5 s t []) [(4, bA false)] fun G => b6 (wp_ret ?_); exact J6 false G (rg 8) (sr2 (by omega))
   ·
    have q1 := eq_of_beq h1; cases h2 : (s.count == t.count)
    · have q2 := ne_of_beq_false h2; refine j8 G (J1 (fc h0 (fc h1 (fc h2 (fc (b := false) rfl fz)))) (us [(6, 10, 0), (1011, 1011, 0), (13, 17, 1), (1018, 1018, 1), (20, 24, 2), (1025, 1025, 2), (27, 31, 3), (1032, 1032, 3), (34, 38, 3), (1039, 1039, 3), (41, 45, 3), (1046, 1046, 3)])) (rg 8) (ar5 s t []) [(4, bA false)] fun G => b6 (wp_ret ?_); exact J6 false G (rg 8) (sr3 (by omega))
    ·
     have q2 := eq_of_beq h2; cases h3 : (K4 s.index t.index)
     · refine j8 G (F9 (t4 24 [0, 4] (af7 s.index t.index) F8) (fc h0 (fc h1 (fc h2 (fc h3 (fc (b := false) rfl fz))))) (us [(6, 10, 0), (1011, 1011, 0), (13, 17, 1), (1018, 1018, 1), (20, 24, 2), (1025, 1025, 2), (27, 31, 3), (1032, 1032, 3), (34, 38, 4), (1039, 1039, 4), (41, 45, 4), (1046, 1046, 4)])) (rg 8) (ar5 s t []) [(4, bA false)] fun G => b6 (wp_ret ?_); exact J6 false G (rg 8) (sr4 (by with_reducible assumption))
     ·
      cases h4 : (K4 s.value t.value)
      · refine j8 G (F9 (t4 24 [0, 4] (af7 s.index t.index) (t4 31 [1, 5] (af7 s.value t.value) F8)) (fc h0 (fc h1 (fc h2 (fc h3 (fc h4 (fc (b := false) rfl fz)))))) (us [(6, 10, 0), (1011, 1011, 0), (13, 17, 1), (1018, 1018, 1), (20, 24, 2), (1025, 1025, 2), (27, 31, 3), (1032, 1032, 3), (34, 38, 4), (1039, 1039, 4), (41, 45, 5), (1046, 1046, 5)])) (rg 8) (ar5 s t []) [(4, bA false)] fun G => b6 (wp_ret ?_); exact J6 false G (rg 8) (sr5 (by with_reducible assumption))
      ·
       cases h5 : (z4 s.body t.body)
       · refine j8 G (F9 (t4 24 [0, 4] (af7 s.index t.index) (t4 31 [1, 5] (af7 s.value t.value) (t4 38 [2, 6] (ih1 t.body) F8))) (fc h0 (fc h1 (fc h2 (fc h3 (fc h4 (fc h5 fz)))))) (us [(6, 10, 0), (1011, 1011, 0), (13, 17, 1), (1018, 1018, 1), (20, 24, 2), (1025, 1025, 2), (27, 31, 3), (1032, 1032, 3), (34, 38, 4), (1039, 1039, 4), (41, 45, 5), (1046, 1046, 5)])) (rg 8) (ar5 s t []) [(4, bA false)] fun G => b6 (wp_ret ?_); exact J6 false G (rg 8) (sr6 (by with_reducible assumption))
       · refine j8 G (F9 (t4 24 [0, 4] (af7 s.index t.index) (t4 31 [1, 5] (af7 s.value t.value) (t4 38 [2, 6] (ih1 t.body) (t4 45 [3, 7] (ih2 t.els) F8)))) (fc h0 (fc h1 (fc h2 (fc h3 (fc h4 (fc h5 fz)))))) (us [(6, 10, 0), (1011, 1011, 0), (13, 17, 1), (1018, 1018, 1), (20, 24, 2), (1025, 1025, 2), (27, 31, 3), (1032, 1032, 3), (34, 38, 4), (1039, 1039, 4), (41, 45, 5), (1046, 1046, 5)])) (rg 8) (ar5 s t []) [(4, bA (z4 s.els t.els))] fun G => b6 (wp_ret ?_); exact J6 (z4 s.els t.els) G (rg 8) (sr8 (by omega) (by omega) (by omega) (by with_reducible assumption) (by with_reducible assumption) (by with_reducible assumption))
theorem aV0 (l m : List c5) (ih : ∀ (s : c5), s ∈ l → ∀ (t : c5), j9.ok Tryz.prog (ssC s t)) : j9.ok Tryz.prog (sbC l m) := by
  refine E9 27 Tryz.func226 [dT l, dT m] [(0, .ref 0), (1, .ref 1)] fun G => ?_; have hl : l.length ≤ 9223372036854775807 := G.len 0 (d := .stmts l) (by kernel_rfl); refine wp_seq (D2 G d9 [(0, .ref 0), (1, .ref 1), (4, bA false)] fun G => b6 (wp_seq (wp_seq (k8 G d9 [(10, bA ((l.length : Int) != (m.length : Int)))] fun G => b6 (rcN G (fun h0 q0 => ?_) fun h0 q0 => ?_)))))
  ·
   refine wp_skip (b6 (wp_seq (wp_seq (D2 G d9 [(0, .ref 0), (1, .ref 1), (4, bA false), (5, iA 0)] fun G => b6 (wp_block ?_))))); refine t0 (κ := Nat) (fun k => k ≤ l.length ∧ l.take k = m.take k) (fun k => l.length - k) (fun k => [dT l, dT m]) (fun k => [(0, .ref 0), (1, .ref 1), (4, bA false), (5, iA k)]) 0 (by simp [h0]) (t7.at G _ _) ?_; clear G; intro k ρ a w hp G; refine wp_seq (wp_seq (k8 G d9 [(14, bA (decide ((k : Int) < l.length)))] fun G => b6 (rcD G (fun h1 q1 => ?_) fun h1 q1 => ?_)))
   · refine wp_exit (s7 (s7 (r8 (b6 (wp_seq (k8 G d9 [(4, bA true)] fun G => b6 (wp_ret ?_))))))); exact J6 true G [0, 1] (sb3 (by omega) hp.2 (by omega))
   ·
    refine wp_skip (b6 (wp_seq (wp_block (wp_seq (ac8 G (s8 8 [26, 27, 28, 29, 58, 59, 60, 61] (ih (l.getD k ch2) (ad2 (by omega)) (m.getD k ch2))) [0, 0, 3, 7, 0, 0, 48, 112, 255, 511] [(26, .v (.bool !Q3 (l.getD k ch2) (m.getD k ch2)))] (iX k k l.length (iX k k m.length [])) (iK (by omega) (iK (by omega) ci7)) fun G => b6 ?_))))); cases h2 : (!Q3 (l.getD k ch2) (m.getD k ch2))
    · have q2 : (Q3 (l.getD k ch2) (m.getD k ch2)) = true := (Eq.mp (ck2 _) h2); refine rF G _ h2 (wp_skip (l0 (b6 (E0 G d9 [(5, iA ((k : Int) + 1))] [wO ((k : Int) + 1)] (o1 (by omega)) fun G => b6 ?_)))); exact I9 G (k + 1) (⟨by omega, aw2 hp.2 (by omega) (by omega) ((ai9 _ _).1 (by with_reducible assumption))⟩) (by omega) [0, 1]
    · have q2 : (Q3 (l.getD k ch2) (m.getD k ch2)) = false := (Eq.mp (cj4 _) h2); refine rT G _ h2 (wp_seq (k8 G d9 [] fun G => b6 (wp_ret (z5 (l6 (l6 (z5 (l6 ?_)))))))); exact J6 false G [0, 1] (sb2 (by with_reducible assumption))
  · refine wp_seq (k8 G d9 [] fun G => b6 (wp_ret (l6 ?_))); exact J6 false G [0, 1] (sb1 (by omega))
theorem bU2 (s : c5) : ∀ (t : c5), j9.ok Tryz.prog (ssC s t) :=
 c5.ind (P := fun s => ∀ (t : c5), j9.ok Tryz.prog (ssC s t)) (fun k t i v c b e h1 h2 u => bJ3 ⟨k, t, i, v, c, b, e⟩ u (fun m => aV0 b m fun s hs => h1 s hs) fun m => aV0 e m fun s hs => h2 s hs) s
theorem bO7 (l m : List c5) : j9.ok Tryz.prog (sbC l m) := aV0 l m fun s _ => bU2 s
theorem aN7 (xs xt : List Int) (l : List c5) (ys yt : List Int) (m : List c5) : j9.ok Tryz.prog (T5 185 [pA 0, pA 3] [dI xs, dI xt, dT l, dI ys, dI yt, dT m] (bA (decide (xs = ys) && (decide (xt = yt) && z4 l m)))) := by
  refine E9 24 Tryz.func185 [dI xs, dI xt, dT l, dI ys, dI yt, dT m] [(0, pA 0), (1, pA 3)] fun G => ?_; refine wp_seq (j8 G d9 [0, 1, 2, 3, 4, 5, 6, 14] [dI xs, dI xt, dT l, dI ys, dI yt, dT m, .box (pL 0), .box (pL 3)] [(2, .ptr 6 0), (3, .ptr 7 0), (4, bA false)] fun G => b6 (wp_seq ?_)); cases h0 : (decide (xs = ys))
  · have q0 := dFf h0; refine j8 G (F9 (t4 4 [0, 3] (al0 xs ys) F8) (fc h0 (fc (b := false) rfl fz)) (us [(6, 10, 0), (1011, 1011, 0), (13, 17, 1), (1018, 1018, 1)])) (rg 6) [dI xs, dI xt, dT l, dI ys, dI yt, dT m] [(4, bA false)] fun G => b6 (wp_ret ?_); exact K8 G (rg 6)
  ·
   have q0 := dTt h0; cases h1 : (decide (xt = yt))
   · have q1 := dFf h1; refine j8 G (F9 (t4 4 [0, 3] (al0 xs ys) (t4 10 [1, 4] (al0 xt yt) F8)) (fc h0 (fc h1 fz)) (us [(6, 10, 0), (1011, 1011, 0), (13, 17, 1), (1018, 1018, 1)])) (rg 6) [dI xs, dI xt, dT l, dI ys, dI yt, dT m] [(4, bA false)] fun G => b6 (wp_ret ?_); exact K8 G (rg 6)
   · have q1 := dTt h1; refine j8 G (F9 (t4 4 [0, 3] (al0 xs ys) (t4 10 [1, 4] (al0 xt yt) (t4 17 [2, 5] (bO7 l m) F8))) (fc h0 (fc h1 fz)) (us [(6, 10, 0), (1011, 1011, 0), (13, 17, 1), (1018, 1018, 1)])) (rg 6) [dI xs, dI xt, dT l, dI ys, dI yt, dT m] [(4, bA (z4 l m))] fun G => b6 (wp_ret ?_); exact K8 G (rg 6)
theorem aa4 (vs ars : List Int) (b : List c5) (e : c6) (he : i5 vs.length ars.length 5 e = true) : j9.ok Tryz.prog (T5 159 [pA 0, eA e 3] ([dI vs, dI ars, dT b] ++ eS e) (iA (j5 vs ars 5 e))) := N1 ⟨vs, ars, b⟩ e he
theorem an5 (vs ars : List Int) (b : List c5) (hb : vs.length + ars.length + j6 b ≤ 1048576) : j9.ok Tryz.prog ⟨78, [pA 0], [dI vs, dI ars, dT b], [dI vs, dI ars, dT b, .row 3 (.ints vs), .row 3 (.ints ars), .tree (.stmts b)], oA 3⟩ := bG4 ⟨vs, ars, b⟩ hb
theorem Y3 (vs ars : List Int) (b : List c5) (hb : j6 b ≤ 1048576) : j9.ok Tryz.prog (T5 77 [pA 0] [dI vs, dI ars, dT b] (.tup [iA (W6 ⟨vs, ars, b⟩ false).1, iA (W6 ⟨vs, ars, b⟩ false).2])) := a84 ⟨vs, ars, b⟩ hb
section
variable {vs ars : List Int} {cx : Int} {s : c5} {d : Nat} {b : Bool}
theorem on1 (k : s.kind = 1) : J8 (vs, ars) s cx = (vs.set s.target.toNat (l4 (l4 (vs.getD s.target.toNat 0) (j5 vs ars 5 s.value)) cx), ars) := if_pos k
theorem on2 (k : s.kind = 2) : J8 (vs, ars) s cx = (vs, ars.set s.target.toNat (l4 (l4 (l4 (ars.getD s.target.toNat 0) (j5 vs ars 5 s.value)) (j5 vs ars 5 s.index)) cx)) := by unfold J8; rw [if_neg (by omega), if_pos k]
theorem on0 {q : M6} (k1 : ¬ s.kind = 1) (k2 : ¬ s.kind = 2) : J8 q s cx = q := by unfold J8; rw [if_neg k1, if_neg k2]
theorem up1 {q : M6} (h1 : s.body = []) (h2 : s.els = []) : upS b (d + 1) q cx s = J8 q s cx := by rw [ai1, h1, h2]; rfl
theorem up3 {q : M6} (k : s.kind = 3) : upS true (d + 1) q cx s = A4 true d (A4 true d q (l4 cx (j5 q.1 q.2 5 s.value)) s.body) (l4 cx (j5 (A4 true d q (l4 cx (j5 q.1 q.2 5 s.value)) s.body).1 (A4 true d q (l4 cx (j5 q.1 q.2 5 s.value)) s.body).2 5 s.value)) s.els := by
 rw [ai1, on0 (by omega) (by omega)]
 unfold ah0
 simp only [if_pos k, if_true]
theorem up4 {q : M6} (k : s.kind = 4) (h2 : s.els = []) : upS b (d + 1) q cx s = A4 b d q cx s.body := by
 rw [ai1, on0 (by omega) (by omega), h2]
 unfold ah0
 simp only [if_neg (show ¬ s.kind = 3 by omega)]
 rfl
theorem ai2 {q : M6} {ss : List c5} {k : Nat} (hk : k < ss.length) : A4 b d q cx (ss.take (k + 1)) = upS b d (A4 b d q cx (ss.take k)) cx (ss.getD k ch2) := by
 unfold A4
 rw [m8 _ _ hk, List.foldl_append, m6 hk]; rfl
theorem aC8 {nv na d k : Nat} {ss : List c5} (hs : ss.all (j7 nv na (d + 1)) = true) (hk : k < ss.length) (k3 : ¬ (ss.getD k ch2).kind = 3) : (ss.getD k ch2).els = [] ∧ (¬ (ss.getD k ch2).kind = 4 → (ss.getD k ch2).body = []) := by
 have h0 := ci2.1 hs _ (cj1 hk)
 rw [← m6 (d := ch2) hk] at h0
 rw [j7, ch4] at h0
 have h1 := h0.1
 unfold n9 at h1
 by_cases k4 : (ss.getD k ch2).kind = 4
 ·rw [if_pos (.inr k4), if_pos k4] at h1
  simp only [ch4, decide_eq_true_eq] at h1
  exact ⟨cj2 h1.2.1.1.1.1, fun h => absurd k4 h⟩
 ·rw [if_neg (by omega)] at h1
  simp only [ch4, decide_eq_true_eq] at h1
  exact ⟨cj2 h1.1.1.2, fun _ => cj2 h1.1.1.1⟩
section
variable {nv na d k : Nat} {ss : List c5} {q : M6} {cx : Int}
theorem rn1 (hs : ss.all (j7 nv na (d + 1)) = true) (hk : k < ss.length) (k1 : (ss.getD k ch2).kind = 1) : A4 true (d + 1) q cx (ss.take (k + 1)) = ((A4 true (d + 1) q cx (ss.take k)).1.set (ss.getD k ch2).target.toNat (l4 (l4 ((A4 true (d + 1) q cx (ss.take k)).1.getD (ss.getD k ch2).target.toNat 0) (j5 (A4 true (d + 1) q cx (ss.take k)).1 (A4 true (d + 1) q cx (ss.take k)).2 5 (ss.getD k ch2).value)) cx), (A4 true (d + 1) q cx (ss.take k)).2) := by
 have h1 := aC8 hs hk (by omega)
 rw [ai2 hk, up1 (h1.2 (by omega)) h1.1]
 exact on1 k1
theorem rn2 (hs : ss.all (j7 nv na (d + 1)) = true) (hk : k < ss.length) (k2 : (ss.getD k ch2).kind = 2) : A4 true (d + 1) q cx (ss.take (k + 1)) = ((A4 true (d + 1) q cx (ss.take k)).1, (A4 true (d + 1) q cx (ss.take k)).2.set (ss.getD k ch2).target.toNat (l4 (l4 (l4 ((A4 true (d + 1) q cx (ss.take k)).2.getD (ss.getD k ch2).target.toNat 0) (j5 (A4 true (d + 1) q cx (ss.take k)).1 (A4 true (d + 1) q cx (ss.take k)).2 5 (ss.getD k ch2).value)) (j5 (A4 true (d + 1) q cx (ss.take k)).1 (A4 true (d + 1) q cx (ss.take k)).2 5 (ss.getD k ch2).index)) cx)) := by
 have h1 := aC8 hs hk (by omega)
 rw [ai2 hk, up1 (h1.2 (by omega)) h1.1]
 exact on2 k2
theorem rn3 (hk : k < ss.length) (k3 : (ss.getD k ch2).kind = 3) : A4 true (d + 1) q cx (ss.take (k + 1)) = A4 true d (A4 true d (A4 true (d + 1) q cx (ss.take k)) (l4 cx (j5 (A4 true (d + 1) q cx (ss.take k)).1 (A4 true (d + 1) q cx (ss.take k)).2 5 (ss.getD k ch2).value)) (ss.getD k ch2).body) (l4 cx (j5 (A4 true d (A4 true (d + 1) q cx (ss.take k)) (l4 cx (j5 (A4 true (d + 1) q cx (ss.take k)).1 (A4 true (d + 1) q cx (ss.take k)).2 5 (ss.getD k ch2).value)) (ss.getD k ch2).body).1 (A4 true d (A4 true (d + 1) q cx (ss.take k)) (l4 cx (j5 (A4 true (d + 1) q cx (ss.take k)).1 (A4 true (d + 1) q cx (ss.take k)).2 5 (ss.getD k ch2).value)) (ss.getD k ch2).body).2 5 (ss.getD k ch2).value)) (ss.getD k ch2).els := by
 rw [ai2 hk, up3 k3]
theorem rn4 (hs : ss.all (j7 nv na (d + 1)) = true) (hk : k < ss.length) (k4 : (ss.getD k ch2).kind = 4) : A4 true (d + 1) q cx (ss.take (k + 1)) = A4 true d (A4 true (d + 1) q cx (ss.take k)) cx (ss.getD k ch2).body := by
 rw [ai2 hk, up4 k4 (aC8 hs hk (by omega)).1]
theorem rn0 (hs : ss.all (j7 nv na (d + 1)) = true) (hk : k < ss.length) (k1 : ¬ (ss.getD k ch2).kind = 1) (k2 : ¬ (ss.getD k ch2).kind = 2) (k3 : ¬ (ss.getD k ch2).kind = 3) (k4 : ¬ (ss.getD k ch2).kind = 4) : A4 true (d + 1) q cx (ss.take (k + 1)) = A4 true (d + 1) q cx (ss.take k) := by
 have h1 := aC8 hs hk k3
 rw [ai2 hk, up1 (h1.2 k4) h1.1, on0 k1 k2]
theorem by3 (hk : ss.length ≤ k) : A4 true (d + 1) q cx ss = A4 true (d + 1) q cx (ss.take k) := by rw [ci8 hk]
theorem aU8 {q r : M6} {s : c5} (h : shP q r) (hv : q.1.length = nv) (ha : q.2.length = na) (hh : D7 nv na s = true) (k : ¬ s.kind = 4) : i5 r.1.length r.2.length 5 s.value = true := by rw [h.1, h.2, hv, ha]; exact A0 hh k
theorem bT9 {q r : M6} {s : c5} (h : shP q r) (hv : q.1.length = nv) (ha : q.2.length = na) (hh : D7 nv na s = true) (k : s.kind = 2) : i5 r.1.length r.2.length 5 s.index = true := by rw [h.1, h.2, hv, ha]; exact aK2 hh k
end
end
abbrev raC (vs ars : List Int) (d : Nat) (bd ss : List c5) (cx : Int) : j9 := ⟨184, [pA 0, .ref 3, iA cx], [.row 3 (.ints vs), .row 3 (.ints ars), dT bd, dT ss], [.row 3 (.ints (A4 true d (vs, ars) cx ss).1), .row 3 (.ints (A4 true d (vs, ars) cx ss).2), dT bd, dT ss], .tup []⟩
abbrev ah6 (d : Nat) (ss : List c5) (vs : List Int) (ars : List Int) (cx : Int) (k : Nat) := A4 true d (A4 true (d + 1) (vs, ars) cx (ci0 k ss)) (l4 cx (j5 (A4 true (d + 1) (vs, ars) cx (ci0 k ss)).fst (A4 true (d + 1) (vs, ars) cx (ci0 k ss)).snd 5 (ss.getD k ch2).value)) (ss.getD k ch2).body
abbrev v5 (d : Nat) (ss : List c5) (vs : List Int) (ars : List Int) (cx : Int) (k : Nat) := A4 true (d + 1) (vs, ars) cx (ci0 k ss)
abbrev bh8 (d : Nat) (ss : List c5) (vs : List Int) (ars : List Int) (cx : Int) (k : Nat) := A4 true d (ah6 d ss vs ars cx k) (l4 cx (j5 (ah6 d ss vs ars cx k).fst (ah6 d ss vs ars cx k).snd 5 (ss.getD k ch2).value)) (ss.getD k ch2).els
abbrev aE1 (cx : Int) (k : Nat) (r0 : List (Nat × AV)) : List (Nat × AV) := (1, .ref 3) :: (2, iA cx) :: (3, .ptr 4 0) :: (6, iA (k : Int)) :: r0
theorem aP9 (nv na d : Nat) (bd ss : List c5) (ih : ∀ (vs ars : List Int) (tt : List c5) (cx : Int), 0 < ss.length → vs.length = nv → ars.length = na → tt.all (j7 nv na d) = true → j9.ok Tryz.prog (raC vs ars d bd tt cx))
    (vs ars : List Int) (cx : Int) (hv : vs.length = nv) (ha : ars.length = na) (hs : ss.all (j7 nv na (d + 1)) = true) : j9.ok Tryz.prog (raC vs ars (d + 1) bd ss cx) := by
  refine E9 94 Tryz.func184 [.row 3 (D.ints vs), .row 3 (D.ints ars), dT bd, dT ss] [(0, pA 0), (1, .ref 3), (2, iA cx)] fun G => ?_; have hlen : ss.length ≤ 9223372036854775807 := G.len 3 (d := .stmts ss) (by kernel_rfl); refine wp_seq (j8 G d9 (rg 5) [.row 3 (D.ints vs), .row 3 (D.ints ars), dT bd, dT ss, .box (pL 0)] [(1, .ref 3), (2, iA cx), (3, .ptr 4 0)] fun G => b6 (wp_seq (D2 G d9 [(1, .ref 3), (2, iA cx), (3, .ptr 4 0), (6, iA 0)] fun G => b6 (wp_block ?_)))); refine t0 (κ := Nat) (fun k => k ≤ ss.length) (fun k => ss.length - k) (fun k => [.row 3 (.ints (A4 true (d + 1) (vs, ars) cx (ss.take k)).1), .row 3 (.ints (A4 true (d + 1) (vs, ars) cx (ss.take k)).2), dT bd, dT ss, .box (pL 0)]) (fun k => [(1, .ref 3), (2, iA cx), (3, .ptr 4 0), (6, iA k)]) 0 (by omega) (t7.at G _ _) ?_; clear G; intro k ρ a w hp G; replace G := t7.at G [.row 3 (D.ints (v5 d ss vs ars cx k).fst), .row 3 (D.ints (v5 d ss vs ars cx k).snd), dT bd, dT ss, .box (pL 0)] (aE1 cx k []); have hsh : shP (vs, ars) (A4 true (d + 1) (vs, ars) cx (ss.take k)) := ap9; refine wp_seq (wp_seq (k8 G d9 [(11, bA (decide ((k : Int) < ss.length)))] fun G => b6 (rcD G (fun h0 q0 => ?_) fun h0 q0 => ?_)))
  · refine wp_exit (s7 (s7 (r8 ?_))); exact cc6 G (rg 4) (by show _ = mR (rg 4) [.row 3 (D.ints (A4 true (d + 1) (vs, ars) cx ss).fst), .row 3 (D.ints (A4 true (d + 1) (vs, ars) cx ss).snd), dT bd, dT ss]; have e1 : ((A4 true (d + 1) (vs, ars) cx ss).fst : List Int) = ((v5 d ss vs ars cx k).fst) := (congrArg Prod.fst (by3 (by omega))); have e2 : ((A4 true (d + 1) (vs, ars) cx ss).snd : List Int) = ((v5 d ss vs ars cx k).snd) := (congrArg Prod.snd (by3 (by omega))); (first | rw [e1, e2] | simp only [e1, e2]) <;> rfl)
  ·
   refine wp_skip (b6 (wp_seq (wp_block (wp_seq (N7 G d9 [0, 1, 2, 3, 4, 29, 30, 31, 32, 37] [.row 3 (D.ints (v5 d ss vs ars cx k).fst), .row 3 (D.ints (v5 d ss vs ars cx k).snd), dT bd, dT ss, .box (pL 0), dE (ss.getD k ch2).index.kids, dE (ss.getD k ch2).value.kids, dT (ss.getD k ch2).body, dT (ss.getD k ch2).els, .box (sL (ss.getD k ch2) 5)] (aE1 cx k [(7, .ptr 9 0)]) (iX k k ss.length []) (iK (by omega) ci7) fun G => b6 (wp_seq (k8 G d9 [(19, iA (ss.getD k ch2).kind)] fun G => b6 (wp_block (wp_seq (k8 G d9 [(20, bA ((ss.getD k ch2).kind == 1))] fun G => b6 (J7 G (fun h1 q1 => ?_) fun h1 q1 => ?_)))))))))))
   ·
    refine wp_seq (k8 G d9 [(40, bA ((ss.getD k ch2).kind == 2))] fun G => b6 (J7 G (fun h2 q2 => ?_) fun h2 q2 => ?_))
    ·
     refine wp_seq (k8 G d9 [(65, bA ((ss.getD k ch2).kind == 3))] fun G => b6 (J7 G (fun h3 q3 => ?_) fun h3 q3 => ?_))
     ·
      refine wp_seq (k8 G d9 [(87, bA ((ss.getD k ch2).kind == 4))] fun G => b6 (J7 G (fun h4 q4 => ?_) fun h4 q4 => ?_))
      · refine wp_skip (l0 (l0 (b6 (N7 G d9 (rg 5) [.row 3 (D.ints (v5 d ss vs ars cx k).fst), .row 3 (D.ints (v5 d ss vs ars cx k).snd), dT bd, dT ss, .box (pL 0)] [(1, .ref 3), (2, iA cx), (3, .ptr 4 0), (6, iA ((k : Int) + 1))] [wO ((k : Int) + 1)] (o1 (by omega)) fun G => b6 ?_)))); exact I9 G (k + 1) (by omega) (by omega) (rg 5) (by have e1 : ((A4 true (d + 1) (vs, ars) cx (ci0 (k + 1) ss)).fst : List Int) = ((v5 d ss vs ars cx k).fst) := (congrArg Prod.fst (rn0 hs (by omega) (by omega) (by omega) (by omega) (by omega))); have e2 : ((A4 true (d + 1) (vs, ars) cx (ci0 (k + 1) ss)).snd : List Int) = ((v5 d ss vs ars cx k).snd) := (congrArg Prod.snd (rn0 hs (by omega) (by omega) (by omega) (by omega) (by omega))); (first | rw [e1, e2] | simp only [e1, e2]) <;> rfl)
      · refine j8 G (s8 4 [0, 1, 2, 7] (ih ((v5 d ss vs ars cx k).fst) ((v5 d ss vs ars cx k).snd) ((ss.getD k ch2).body) cx (by omega) (hsh.1.trans hv) (hsh.2.trans ha) ((S9 hs (by omega)).2.1))) (rg 5) [.row 3 (D.ints (A4 true d (v5 d ss vs ars cx k) cx (ss.getD k ch2).body).fst), .row 3 (D.ints (A4 true d (v5 d ss vs ars cx k) cx (ss.getD k ch2).body).snd), dT bd, dT ss, .box (pL 0)] (aE1 cx k []) fun G => l0 (l0 (b6 (E0 G d9 [(6, iA ((k : Int) + 1))] [wO ((k : Int) + 1)] (o1 (by omega)) fun G => b6 ?_))); exact I9 G (k + 1) (by omega) (by omega) (rg 5) (by have e1 : ((A4 true (d + 1) (vs, ars) cx (ci0 (k + 1) ss)).fst : List Int) = ((A4 true d (v5 d ss vs ars cx k) cx (ss.getD k ch2).body).fst) := (congrArg Prod.fst (rn4 hs (by omega) (by omega))); have e2 : ((A4 true (d + 1) (vs, ars) cx (ci0 (k + 1) ss)).snd : List Int) = ((A4 true d (v5 d ss vs ars cx k) cx (ss.getD k ch2).body).snd) := (congrArg Prod.snd (rn4 hs (by omega) (by omega))); (first | rw [e1, e2] | simp only [e1, e2]) <;> rfl)
     · refine wp_seq (ag9 G (F9 (t4 7 [0, 1, 2, 6] (j9.lend (aa4 ((v5 d ss vs ars cx k).fst) ((v5 d ss vs ars cx k).snd) bd ((ss.getD k ch2).value) (aU8 hsh hv ha (S9 hs (by omega)).1 (by omega))) [.row 3, .row 3]) (t4 9 [0, 1, 2, 7] (ih ((v5 d ss vs ars cx k).fst) ((v5 d ss vs ars cx k).snd) ((ss.getD k ch2).body) (l4 cx (j5 (v5 d ss vs ars cx k).fst (v5 d ss vs ars cx k).snd 5 (ss.getD k ch2).value)) (by omega) (hsh.1.trans hv) (hsh.2.trans ha) ((S9 hs (by omega)).2.1)) F8)) fz []) [0, 0, 2, 0, 0, 0, 32, 112, 248, 511] (rg 10) [.row 3 (D.ints (ah6 d ss vs ars cx k).fst), .row 3 (D.ints (ah6 d ss vs ars cx k).snd), dT bd, dT ss, .box (pL 0), dE (ss.getD k ch2).index.kids, dE (ss.getD k ch2).value.kids, dT (ss.getD k ch2).body, dT (ss.getD k ch2).els, .box (sL (ss.getD k ch2) 5)] (aE1 cx k [(7, .ptr 9 0)]) fun G => b6 (ag9 G (F9 (t4 7 [0, 1, 2, 6] (j9.lend (aa4 ((ah6 d ss vs ars cx k).fst) ((ah6 d ss vs ars cx k).snd) bd ((ss.getD k ch2).value) (aU8 (hsh.trans ap9) hv ha (S9 hs (by omega)).1 (by omega))) [.row 3, .row 3]) (t4 9 [0, 1, 2, 8] (ih ((ah6 d ss vs ars cx k).fst) ((ah6 d ss vs ars cx k).snd) ((ss.getD k ch2).els) (l4 cx (j5 (ah6 d ss vs ars cx k).fst (ah6 d ss vs ars cx k).snd 5 (ss.getD k ch2).value)) (by omega) ((hsh.trans ap9).1.trans hv) ((hsh.trans ap9).2.trans ha) ((S9 hs (by omega)).2.2)) F8)) fz []) [0, 0, 2, 0, 0, 0, 32, 112, 248, 511] (rg 5) [.row 3 (D.ints (bh8 d ss vs ars cx k).fst), .row 3 (D.ints (bh8 d ss vs ars cx k).snd), dT bd, dT ss, .box (pL 0)] (aE1 cx k []) fun G => l0 (l0 (b6 (E0 G d9 [(6, iA ((k : Int) + 1))] [wO ((k : Int) + 1)] (o1 (by omega)) fun G => b6 ?_))))); exact I9 G (k + 1) (by omega) (by omega) (rg 5) (by have e1 : ((A4 true (d + 1) (vs, ars) cx (ci0 (k + 1) ss)).fst : List Int) = ((bh8 d ss vs ars cx k).fst) := (congrArg Prod.fst (rn3 (by omega) (by omega))); have e2 : ((A4 true (d + 1) (vs, ars) cx (ci0 (k + 1) ss)).snd : List Int) = ((bh8 d ss vs ars cx k).snd) := (congrArg Prod.snd (rn3 (by omega) (by omega))); (first | rw [e1, e2] | simp only [e1, e2]) <;> rfl)
    · refine O1 G (F9 (t4 13 [0, 1, 2, 6] (j9.lend (aa4 ((v5 d ss vs ars cx k).fst) ((v5 d ss vs ars cx k).snd) bd ((ss.getD k ch2).value) (aU8 hsh hv ha (S9 hs (by omega)).1 (by omega))) [.row 3, .row 3]) (t4 18 [0, 1, 2, 5] (j9.lend (aa4 ((v5 d ss vs ars cx k).fst) ((v5 d ss vs ars cx k).snd) bd ((ss.getD k ch2).index) (bT9 hsh hv ha (S9 hs (by omega)).1 (by omega))) [.row 3, .row 3]) F8)) fz []) [0, 1, 0, 4, 0, 16, 0, 64, 240, 496, 0, 0, 2048, 7168, 16368, 0, 0, 65536, 244736, 524272, 0, 2097136, 4194303, 8388607] (rg 5) [.row 3 (D.ints (v5 d ss vs ars cx k).fst), .row 3 (D.ints ((v5 d ss vs ars cx k).snd.set (ss.getD k ch2).target.toNat (l4 (l4 (l4 ((v5 d ss vs ars cx k).snd.getD (ss.getD k ch2).target.toNat 0) (j5 (v5 d ss vs ars cx k).fst (v5 d ss vs ars cx k).snd 5 (ss.getD k ch2).value)) (j5 (v5 d ss vs ars cx k).fst (v5 d ss vs ars cx k).snd 5 (ss.getD k ch2).index)) cx))), dT bd, dT ss, .box (pL 0)] (aE1 cx k []) (iX ((ss.getD k ch2).target) ((ss.getD k ch2).target.toNat) ((A4 true (d + (1 : Nat)) (vs, ars) cx (ci0 k ss)).snd.length) (iX ((ss.getD k ch2).target) ((ss.getD k ch2).target.toNat) ((A4 true (d + (1 : Nat)) (vs, ars) cx (ci0 k ss)).snd.length) [])) (iK (by have h9 := aK3 (S9 (k := k) hs (by omega)).1 (by omega); have h8 := hsh.2.trans ha; omega) (iK (by have h9 := aK3 (S9 (k := k) hs (by omega)).1 (by omega); have h8 := hsh.2.trans ha; omega) ci7)) fun G => l0 (l0 (b6 (E0 G d9 [(6, iA ((k : Int) + 1))] [wO ((k : Int) + 1)] (o1 (by omega)) fun G => b6 ?_))); exact I9 G (k + 1) (by omega) (by omega) (rg 5) (by have e2 : ((A4 true (d + 1) (vs, ars) cx (ci0 (k + 1) ss)).snd : List Int) = ((v5 d ss vs ars cx k).snd.set (ss.getD k ch2).target.toNat (l4 (l4 (l4 ((v5 d ss vs ars cx k).snd.getD (ss.getD k ch2).target.toNat 0) (j5 (v5 d ss vs ars cx k).fst (v5 d ss vs ars cx k).snd 5 (ss.getD k ch2).value)) (j5 (v5 d ss vs ars cx k).fst (v5 d ss vs ars cx k).snd 5 (ss.getD k ch2).index)) cx)) := (congrArg Prod.snd (rn2 hs (by omega) (by omega))); have h9 := rn2 (q := (vs, ars)) (cx := cx) hs (show k < _ by omega) (by omega); rw [e2, h9] <;> rfl)
   · refine O1 G (s8 13 [0, 1, 2, 6] (j9.lend (aa4 ((v5 d ss vs ars cx k).fst) ((v5 d ss vs ars cx k).snd) bd ((ss.getD k ch2).value) (aU8 hsh hv ha (S9 hs (by omega)).1 (by omega))) [.row 3, .row 3])) [0, 1, 0, 4, 0, 16, 0, 64, 240, 496, 0, 0, 2048, 7168, 16368, 0, 65520, 131071, 262143] (rg 5) [.row 3 (D.ints ((v5 d ss vs ars cx k).fst.set (ss.getD k ch2).target.toNat (l4 (l4 ((v5 d ss vs ars cx k).fst.getD (ss.getD k ch2).target.toNat 0) (j5 (v5 d ss vs ars cx k).fst (v5 d ss vs ars cx k).snd 5 (ss.getD k ch2).value)) cx))), .row 3 (D.ints (v5 d ss vs ars cx k).snd), dT bd, dT ss, .box (pL 0)] (aE1 cx k []) (iX ((ss.getD k ch2).target) ((ss.getD k ch2).target.toNat) ((A4 true (d + (1 : Nat)) (vs, ars) cx (ci0 k ss)).fst.length) (iX ((ss.getD k ch2).target) ((ss.getD k ch2).target.toNat) ((A4 true (d + (1 : Nat)) (vs, ars) cx (ci0 k ss)).fst.length) [])) (iK (by have h9 := aK1 (S9 (k := k) hs (by omega)).1 (by omega); have h8 := hsh.1.trans hv; omega) (iK (by have h9 := aK1 (S9 (k := k) hs (by omega)).1 (by omega); have h8 := hsh.1.trans hv; omega) ci7)) fun G => l0 (l0 (b6 (E0 G d9 [(6, iA ((k : Int) + 1))] [wO ((k : Int) + 1)] (o1 (by omega)) fun G => b6 ?_))); exact I9 G (k + 1) (by omega) (by omega) (rg 5) (by have e1 : ((A4 true (d + 1) (vs, ars) cx (ci0 (k + 1) ss)).fst : List Int) = ((v5 d ss vs ars cx k).fst.set (ss.getD k ch2).target.toNat (l4 (l4 ((v5 d ss vs ars cx k).fst.getD (ss.getD k ch2).target.toNat 0) (j5 (v5 d ss vs ars cx k).fst (v5 d ss vs ars cx k).snd 5 (ss.getD k ch2).value)) cx)) := (congrArg Prod.fst (rn1 hs (by omega) (by omega))); have h9 := rn1 (q := (vs, ars)) (cx := cx) hs (show k < _ by omega) (by omega); rw [e1, h9] <;> rfl)
theorem bf8 (nv na : Nat) (bd : List c5) : ∀ (d : Nat) (vs ars : List Int) (ss : List c5) (cx : Int), vs.length = nv → ars.length = na → ss.all (j7 nv na d) = true → j9.ok Tryz.prog (raC vs ars d bd ss cx) := by
 intro d
 induction d with
 | zero =>
  intro vs ars ss cx hv ha hs
  have h0 : ss = [] := by
   cases ss with
   | nil => rfl
   | cons a r => simp [j7] at hs
  subst h0
  exact aP9 nv na 0 bd [] (fun _ _ _ _ h => absurd h (by simp)) vs ars cx hv ha rfl
 | succ d ih => intro vs ars ss cx hv ha hs; exact aP9 nv na d bd ss (fun vs ars tt cx _ h1 h2 h3 => ih vs ars tt cx h1 h2 h3) vs ars cx hv ha hs
theorem bf7 (vs ars : List Int) (b : List c5) (hs : b.all (j7 vs.length ars.length 5) = true) : j9.ok Tryz.prog ⟨184, [pA 0, .ref 2, iA 0], [.row 3 (.ints vs), .row 3 (.ints ars), dT b], [.row 3 (.ints (A4 true 5 (vs, ars) 0 b).1), .row 3 (.ints (A4 true 5 (vs, ars) 0 b).2), dT b], .tup []⟩ :=
 j9.dup (S := [.row 3 (.ints vs), .row 3 (.ints ars), dT b]) (S' := [.row 3 (.ints (A4 true 5 (vs, ars) 0 b).1), .row 3 (.ints (A4 true 5 (vs, ars) 0 b).2), dT b]) (d := .stmts b) (i := 2) (bf8 _ _ b 5 vs ars b 0 rfl rfl hs) rfl rfl rfl (fun ρ h => by simp only [AV.vals, AV.val]; rw [show ρ 3 = ρ 2 from h]) rfl
def okI (p : i6) : Bool := m0 p && decide ((W6 ⟨(ax1 p).1, (ax1 p).2, p.body⟩ false).1 = 0)
def ah1 (p : i6) : i6 := if okI p = true then ⟨(ax1 p).1, (ax1 p).2, p.body⟩ else ⟨[], [], []⟩
theorem aH6 {p : i6} (h : m0 p = true) : p.vars.length + p.arrays.length ≤ 14 := by
 unfold m0 F0 at h
 simp only [ch4, decide_eq_true_eq] at h
 omega
section
variable {p : i6} {q : M6} {b : List c5} {X : M6}
theorem ac7 (h : (decide (X.1 = q.1) && (decide (X.2 = q.2) && z4 b b)) = true) : X = q := by
 simp only [ch4, decide_eq_true_eq] at h
 exact Prod.ext h.1 h.2.1
theorem bb2 (h : (decide (X.1 = q.1) && (decide (X.2 = q.2) && z4 b b)) = false) : ¬ X = q := fun e => by
 subst e
 rw [(I8 b b).2 rfl] at h
 simp at h
theorem bC8 {f : Bool} (hp : m0 p = true) (h : ah4 p.body (p.vars, p.arrays) q) (hne : ¬ A4 f 5 q 0 p.body = q) : 100 - aM8 (A4 f 5 q 0 p.body) < 100 - aM8 q := by
 have h1 := am2 (f := f) h
 have h2 := bj6 ap9 h.2.1 h1.2.1 aF9 hne
 have h3 := a04 h1.2.1
 have h4 := aH6 hp
 rw [h1.1.1, h1.1.2] at h3
 simp only at h3
 omega
theorem bM4 (hb : p.size ≤ 1048576) (h : ah4 p.body (p.vars, p.arrays) q) : q.1.length + q.2.length + j6 p.body ≤ 1048576 := by
 have h1 := h.1.1
 have h2 := h.1.2
 unfold i6.size at hb
 simp only at h1 h2
 omega
theorem br7 (hp : m0 p = true) (h : ah4 p.body (p.vars, p.arrays) q) : p.body.all (j7 q.1.length q.2.length 5) = true := by
 rw [h.1.1, h.1.2]; exact (aw8 hp).1
theorem bA1 (h : m0 p = false) : okI p = false := by unfold okI; rw [h]; rfl
theorem bA2 (hp : m0 p = true) (h : ah4 p.body (p.vars, p.arrays) q) (hf : A4 true 5 q 0 p.body = q) : okI p = decide ((W6 ⟨q.1, q.2, p.body⟩ false).1 = 0) := by
 unfold okI; rw [hp, bm7 hp (aH6 hp) h hf]; rfl
theorem bm6 (h : okI p = false) : ah1 p = ⟨[], [], []⟩ := by unfold ah1; rw [h]; rfl
theorem bM8 (hp : m0 p = true) (h : ah4 p.body (p.vars, p.arrays) q) (hf : A4 true 5 q 0 p.body = q) (hk : okI p = true) : ah1 p = ⟨q.1, q.2, p.body⟩ := by unfold ah1; rw [hk, bm7 hp (aH6 hp) h hf]; rfl
theorem b52 (hp : m0 p = true) (h : ah4 p.body (p.vars, p.arrays) q) (hf : A4 true 5 q 0 p.body = q) (hc : (W6 ⟨q.1, q.2, p.body⟩ false).1 = 0) : okI p = true := by rw [bA2 hp h hf]; exact decide_eq_true hc
theorem b53 (hp : m0 p = true) (h : ah4 p.body (p.vars, p.arrays) q) (hf : A4 true 5 q 0 p.body = q) (hc : ¬ (W6 ⟨q.1, q.2, p.body⟩ false).1 = 0) : okI p = false := by rw [bA2 hp h hf]; exact decide_eq_false hc
end
abbrev aO4 (p : i6) : List It := [dI p.vars, dI p.arrays, dT p.body, .row 3 (D.ints (ah1 p).vars), .row 3 (D.ints (ah1 p).arrays), .tree (D.stmts (ah1 p).body)]
abbrev az1 : It := .box [.v (.slice none 0 0), .v (.slice none 0 0), .v (.slice none 0 0)]
abbrev aE8 : It := .box [.ref 4, .ref 5, .tref 6]
abbrev ar4 (p : i6) (q : M6) (r0 : List It) : List It := .row 3 (D.ints q.fst) :: .row 3 (D.ints q.snd) :: .tree (D.stmts p.body) :: r0
abbrev ah5 (r0 : List (Nat × AV)) : List (Nat × AV) := (2, .ptr 3 0) :: (3, bA false) :: (4, .ptr 7 0) :: r0
abbrev W8 (p : i6) (r0 : List It) : List It := dI p.vars :: dI p.arrays :: dT p.body :: r0
theorem aN8 (p : i6) (hb : p.size ≤ 1048576) : j9.ok Tryz.prog ⟨124, [pA 0], pS p, pS p ++ oP (ah1 p), .tup [oA 3, bA (okI p)]⟩ := by
  refine E9 33 Tryz.func124 (W8 p []) [(0, pA 0)] fun G => ?_
  have hb1 : p.vars.length ≤ 1048576 ∧ p.arrays.length ≤ 1048576 ∧ j6 p.body ≤ 1048576 := by unfold i6.size at hb; omega
  refine wp_seq (j8 G d9 [0, 1, 2, 3, 11] (W8 p [.box (pL 0), az1]) [(1, .ptr 3 0), (2, .ptr 4 0), (3, bA false)] fun G => b6 (wp_seq (wp_seq (k8 G (s8 1 [0, 1, 2] (R2 p (by omega))) [(10, .v (.bool !m0 p))] fun G => b6 ?_)))); cases h0 : (!m0 p)
  ·
   have q0 : (m0 p) = true := (Eq.mp (ck2 _) h0); refine rF G _ h0 (wp_skip (b6 (wp_seq (j8 G (s8 1 [0, 1, 2] (an5 p.vars p.arrays p.body (by assumption))) [0, 1, 2, 4, 13, 14, 15, 21] (W8 p [az1, .row 3 (D.ints p.vars), .row 3 (D.ints p.arrays), .tree (D.stmts p.body), aE8]) (ah5 []) fun G => b6 (wp_seq (wp_block ?_)))))); refine t0 (κ := M6) (fun q => ah4 p.body (p.vars, p.arrays) q) (fun q => 100 - aM8 q) (fun q => (W8 p [az1, .row 3 (.ints q.1), .row 3 (.ints q.2), .tree (D.stmts p.body), aE8])) (fun q => (ah5 [])) ((p.vars, p.arrays)) (aq7 (aW9 (by with_reducible assumption))) (t7.at G _ _) ?_; clear G; intro q ρ a w hp G; replace G := t7.at G (W8 p (az1 :: (ar4 p q [aE8]))) (ah5 []); refine wp_block (wp_seq (j8 G (s8 1 [4, 5, 6] (j9.lend (an5 q.fst q.snd p.body (bM4 hb (by with_reducible assumption))) [.row 3, .row 3, .tree])) [0, 1, 2, 3, 4, 5, 6, 7, 16, 17, 18, 24] (W8 p (az1 :: (ar4 p q (aE8 :: (ar4 p q [.box [.ref 8, .ref 9, .tref 10]]))))) (ah5 [(5, .ptr 11 0)]) fun G => b6 (wp_seq (j8 G (s8 3 [8, 9, 10] (j9.lend (bf7 q.fst q.snd p.body (br7 (by with_reducible assumption) (by with_reducible assumption))) [.no, .no, .tree])) (rg 12) (W8 p (az1 :: (ar4 p q [aE8, .row 3 (D.ints (A4 true 5 q 0 p.body).fst), .row 3 (D.ints (A4 true 5 q 0 p.body).snd), .tree (D.stmts p.body), .box [.ref 8, .ref 9, .tref 10]]))) (ah5 [(5, .ptr 11 0)]) fun G => b6 (wp_seq (wp_seq (D2 G (s8 2 [8, 9, 10, 4, 5, 6] (j9.lend (aN7 ((A4 true 5 q 0 p.body).fst) ((A4 true 5 q 0 p.body).snd) p.body q.fst q.snd p.body) [.row 3, .row 3, .tree, .row 3, .row 3, .tree])) (ah5 [(5, .ptr 11 0), (22, bA (decide ((A4 true 5 q 0 p.body).fst = q.fst) && (decide ((A4 true 5 q 0 p.body).snd = q.snd) && z4 p.body p.body)))]) fun G => b6 ?_))))))); cases h1 : (decide ((A4 true (5 : Nat) q (0 : Int) p.body).fst = q.fst) && (decide ((A4 true (5 : Nat) q (0 : Int) p.body).snd = q.snd) && z4 p.body p.body))
   · have q1 : (¬ ((A4 true 5 q 0 p.body).fst = q.fst)) ∨ ((¬ ((A4 true 5 q 0 p.body).snd = q.snd)) ∨ ((z4 p.body p.body) = false)) := Or.imp (fun hq => of_decide_eq_false hq) (fun hq => Or.imp (fun hq => of_decide_eq_false hq) (fun hq => (hq)) (Bool.and_eq_false_iff.1 hq)) (Bool.and_eq_false_iff.1 h1); refine rF G _ h1 (wp_skip (b6 (j8 G d9 [0, 1, 2, 3, 7, 8, 9, 10] (W8 p [az1, .box [.ref 5, .ref 6, .tref 7], .row 3 (D.ints (A4 true 5 q 0 p.body).fst), .row 3 (D.ints (A4 true 5 q 0 p.body).snd), .tree (D.stmts p.body)]) [(2, .ptr 3 0), (3, bA false), (4, .ptr 4 0)] fun G => l0 (b6 ?_)))); exact I9 G (A4 true 5 q 0 p.body) (am2 (by with_reducible assumption)) (bC8 (by with_reducible assumption) (by with_reducible assumption) (bb2 (by with_reducible assumption))) [0, 1, 2, 3, 5, 6, 7, 4]
   ·
    have q1 : ((A4 true 5 q 0 p.body).fst = q.fst) ∧ (((A4 true 5 q 0 p.body).snd = q.snd) ∧ ((z4 p.body p.body) = true)) := And.imp (fun hq => of_decide_eq_true hq) (fun hq => And.imp (fun hq => of_decide_eq_true hq) (fun hq => (hq)) (Bool.and_eq_true_iff.1 hq)) (Bool.and_eq_true_iff.1 h1); refine rT G _ h1 (wp_exit (s7 ?_)); refine bP3 (by kernel_rfl) ?_; refine s7 (r8 (b6 (wp_seq (j8 G (s8 1 [4, 5, 6] (j9.lend (Y3 q.fst q.snd p.body (by omega)) [.row 3, .row 3, .tree])) (rg 8) (W8 p (az1 :: (ar4 p q [aE8]))) (ah5 [(6, iA (W6 (i6.mk q.fst q.snd p.body) false).fst)]) fun G => b6 (wp_seq (wp_seq (k8 G d9 [(30, bA ((W6 (i6.mk q.fst q.snd p.body) false).fst != 0))] fun G => b6 (rcN G (fun h2 q2 => ?_) fun h2 q2 => ?_))))))))
    · refine wp_skip (b6 (wp_seq (j8 G d9 (rg 7) (W8 p (aE8 :: (ar4 p q []))) [(2, .ptr 3 0), (3, bA true)] fun G => b6 (wp_ret ?_)))); exact U2 (.tup [.agg [.ref 4, .ref 5, .tref 6], bA true]) G [0, 1, 2, 4, 5, 6] (by have e1 : (okI p : Bool) = (true) := (b52 (by with_reducible assumption) (by with_reducible assumption) (ac7 (by with_reducible assumption)) (by with_reducible assumption)); (first | rw [e1] | simp only [e1]) <;> rfl) (by show _ = mR [0, 1, 2, 4, 5, 6] (aO4 p); unfold aO4; rw [bM8 (by with_reducible assumption) (by with_reducible assumption) (ac7 (by with_reducible assumption)) (b52 (by with_reducible assumption) (by with_reducible assumption) (ac7 (by with_reducible assumption)) (by with_reducible assumption))] <;> rfl)
    · refine wp_seq (D2 G d9 (ah5 []) fun G => b6 (wp_ret (l6 ?_))); obtain ⟨ρ, G⟩ := G.nil 8 3 (.ints []) 1 (W8 p (.box [.ref 8, .v (.slice none 0 0), .v (.slice none 0 0)] :: (ar4 p q [.box [.ref 4, .ref 5, .tref 6]]))) (ah5 []); obtain ⟨ρ, G⟩ := G.nil 9 3 (.ints []) 1 (W8 p (.box [.ref 8, .ref 9, .v (.slice none 0 0)] :: (ar4 p q [.box [.ref 4, .ref 5, .tref 6], .row 3 (D.ints [])]))) (ah5 []); obtain ⟨ρ, G⟩ := G.nilT 10 (.stmts []) (W8 p (.box [.ref 8, .ref 9, .tref 10] :: (ar4 p q [.box [.ref 4, .ref 5, .tref 6], .row 3 (D.ints []), .row 3 (D.ints [])]))) (ah5 []); exact U2 (.tup [.agg [.ref 8, .ref 9, .tref 10], bA false]) G [0, 1, 2, 8, 9, 10] (by have e1 : (okI p : Bool) = (false) := (b53 (by with_reducible assumption) (by with_reducible assumption) (ac7 (by with_reducible assumption)) (by with_reducible assumption)); (first | rw [e1] | simp only [e1]) <;> rfl) (by show _ = mR [0, 1, 2, 8, 9, 10] (aO4 p); unfold aO4; rw [bm6 (b53 (by with_reducible assumption) (by with_reducible assumption) (ac7 (by with_reducible assumption)) (by with_reducible assumption))] <;> rfl)
  · have q0 : (m0 p) = false := (Eq.mp (cj4 _) h0); refine rT G _ h0 (wp_seq (D2 G d9 [(1, .ptr 3 0), (2, .ptr 4 0), (3, bA false)] fun G => b6 (wp_ret (l6 ?_)))); obtain ⟨ρ, G⟩ := G.nil 5 3 (.ints []) 1 (W8 p [.box (pL 0), .box [.ref 5, .v (.slice none 0 0), .v (.slice none 0 0)]]) [(1, .ptr 3 0), (2, .ptr 4 0), (3, bA false)]; obtain ⟨ρ, G⟩ := G.nil 6 3 (.ints []) 1 (W8 p [.box (pL 0), .box [.ref 5, .ref 6, .v (.slice none 0 0)], .row 3 (D.ints [])]) [(1, .ptr 3 0), (2, .ptr 4 0), (3, bA false)]; obtain ⟨ρ, G⟩ := G.nilT 7 (.stmts []) (W8 p [.box (pL 0), .box [.ref 5, .ref 6, .tref 7], .row 3 (D.ints []), .row 3 (D.ints [])]) [(1, .ptr 3 0), (2, .ptr 4 0), (3, bA false)]; exact U2 (.tup [.agg [.ref 5, .ref 6, .tref 7], bA false]) G [0, 1, 2, 5, 6, 7] (by have e1 : (okI p : Bool) = (false) := (bA1 (by with_reducible assumption)); (first | rw [e1] | simp only [e1]) <;> rfl) (by show _ = mR [0, 1, 2, 5, 6, 7] (aO4 p); unfold aO4; rw [bm6 (bA1 (by with_reducible assumption))] <;> rfl)
abbrev nvL : List Int := [3] ++ ([4] ++ ([2] ++ ([5] ++ [])))
abbrev viL : List Int := [0] ++ ([1] ++ ([0] ++ ([1] ++ ([2] ++ ([3] ++ [])))))
abbrev naL : List Int := [1] ++ ([2] ++ ([0] ++ ([1] ++ [])))
abbrev aiL : List Int := [0] ++ ([1] ++ ([0] ++ ([1] ++ ([3] ++ []))))
abbrev nbL : List Int := [2] ++ ([3] ++ ([1] ++ ([4] ++ [])))
def nsD (b : List UInt8) (l : List Int) (n : Nat) (k : Int) : List Int := (cj0 n).map fun (i : Nat) => nm b (k + (i : Int)) l
theorem al8 (b : List UInt8) (l : List Int) (n : Nat) (k : Int) : (nsD b l n k).length = n := by simp [nsD]
theorem bA5 (b : List UInt8) (l : List Int) (n : Nat) (k : Int) : nsD b l (n + 1) k = nsD b l n k ++ [nm b (k + (n : Int)) l] := by
 unfold nsD; rw [List.range_succ, List.map_append]; rfl
def J0 (b : List UInt8) (k : Int) : Int := k + 1 + nm b k nvL
def kp2 (b : List UInt8) (k : Int) : Int := J0 b k + 1 + nm b (J0 b k) naL
def vsD (b : List UInt8) (k : Int) : List Int := nsD b viL (nm b k nvL).toNat (k + 1)
def asD (b : List UInt8) (k : Int) : List Int := nsD b aiL (nm b (J0 b k) naL).toNat (J0 b k + 1)
def P8 (b : List UInt8) (k : Int) : List c5 × Int := H6 (C6 b (vsD b k).length (asD b k).length 3) (nm b (kp2 b k) nbL).toNat (kp2 b k + 1)
def rwD (b : List UInt8) (k : Int) : i6 := ⟨vsD b k, asD b k, (P8 b k).1⟩
def fbP : i6 := ⟨[0, 1], [], [⟨1, 1, noE, ⟨2, 0, []⟩, 0, [], []⟩]⟩
def M5 (b : List UInt8) (k : Int) : i6 := if m0 (rwD b k) = true then rwD b k else fbP
section
variable (b : List UInt8) {k : Int}
theorem bW7 (hk : 0 ≤ k) (hk2 : k ≤ 1000000000) : 0 ≤ nm b k nvL ∧ nm b k nvL ≤ 5 := aQ1 b (by simp) (by simp) hk hk2
theorem b58 (hk : 0 ≤ k) (hk2 : k ≤ 1000000000) : 0 ≤ nm b k nbL ∧ nm b k nbL ≤ 4 := aQ1 b (by simp) (by simp) hk hk2
theorem bX0 (hk : 0 ≤ k) (hk2 : k ≤ 1000000000) : 0 ≤ nm b k naL ∧ nm b k naL ≤ 2 := aQ1 b (by simp) (by simp) hk hk2
theorem bB8 (hk : 0 ≤ k) (hk2 : k ≤ 10000000) : k + 1 ≤ J0 b k ∧ J0 b k ≤ k + 6 := by
 have := bW7 b hk (by omega); unfold J0; omega
theorem bm3 (hk : 0 ≤ k) (hk2 : k ≤ 10000000) : k + 2 ≤ kp2 b k ∧ kp2 b k ≤ k + 9 := by
 have h1 := bB8 b hk hk2
 have := bX0 b (k := J0 b k) (by omega) (by omega); unfold kp2; omega
theorem cS3 : cS 3 = 34170 ∧ cS 2 = 8442 := by decide
theorem cg6 (nv na : Nat) : Drw (C6 b nv na 3) 34170 := fun j h1 h2 => by
 have e := cS3.1
 have h3 := a06 b nv na 3 j h1 (by omega)
 have h4 := ba6 b nv na 3 j h1 (by omega)
 omega
theorem bo3 (hk : 0 ≤ k) (hk2 : k ≤ 10000000) : kp2 b k ≤ (P8 b k).2 ∧ (P8 b k).2 ≤ k + 150000 ∧ j6 (P8 b k).1 ≤ 150000 := by
 have h1 := bm3 b hk hk2
 have h2 := b58 b (k := kp2 b k) (by omega) (by omega)
 have h3 := aX7 (f := C6 b (vsD b k).length (asD b k).length 3) (by omega) (cg6 b _ _) (nm b (kp2 b k) nbL).toNat (kp2 b k + 1) (by omega) (by omega)
 unfold P8
 omega
theorem bv5 (hk : 0 ≤ k) (hk2 : k ≤ 10000000) : (vsD b k).length ≤ 5 := by
 have := bW7 b hk (by omega); unfold vsD; rw [al8]; omega
theorem bH2 (hk : 0 ≤ k) (hk2 : k ≤ 10000000) : (asD b k).length ≤ 2 := by
 have h1 := bB8 b hk hk2
 have := bX0 b (k := J0 b k) (by omega) (by omega); unfold asD; rw [al8]; omega
theorem bY6 : m0 fbP = true := by decide +kernel
theorem bz4 (k : Int) : m0 (M5 b k) = true := by
 unfold M5; split
 ·assumption
 ·exact bY6
theorem bz3 (hk : 0 ≤ k) (hk2 : k ≤ 10000000) : (M5 b k).size ≤ 160000 := by
 have h1 := bo3 b hk hk2
 have h2 := bv5 b hk hk2
 have h3 := bH2 b hk hk2
 unfold M5; split
 ·show (vsD b k).length + (asD b k).length + j6 (P8 b k).1 ≤ 160000
  omega
 ·decide
end
def V5 (b : List UInt8) (k : Int) : i6 := if pk b (P8 b k).2 4 = 0 then M5 b k else if okI (M5 b k) = true then ah1 (M5 b k) else M5 b k
theorem bM7 {p : i6} : (ah1 p).size ≤ p.size := by
 unfold ah1
 split
 ·have h := (aJ7 (p := p) (by rename_i h; unfold okI at h; simp at h; exact h.1)).1
  show (ax1 p).1.length + (ax1 p).2.length + j6 p.body ≤ _
  unfold i6.size
  have h1 : (ax1 p).1.length = p.vars.length := h.1
  have h2 : (ax1 p).2.length = p.arrays.length := h.2
  omega
 ·simp [i6.size, j6]
theorem ba0 (b : List UInt8) {k : Int} (hk : 0 ≤ k) (hk2 : k ≤ 10000000) : (V5 b k).size ≤ 160000 := by
 have h1 := bz3 b hk hk2
 have h2 := bM7 (p := M5 b k)
 unfold V5
 (repeat' split) <;> omega
def bsD (c : List UInt8) : List UInt8 := c.take 2000
abbrev opL : List Int := [1] ++ ([2] ++ ([3] ++ ([6] ++ ([2] ++ ([7] ++ ([9] ++ ([4] ++ ([5] ++ ([11] ++ ([8] ++ ([12] ++ [])))))))))))
abbrev vaL : List Int := [0] ++ ([1] ++ ([2] ++ ([3] ++ ([255] ++ ([128] ++ ([7] ++ ([4] ++ ([100] ++ []))))))))
abbrev lnL : List Int := [6] ++ ([8] ++ ([4] ++ ([10] ++ ([1] ++ ([12] ++ [])))))
def opD (b : List UInt8) (j : Int) (na : Nat) : Int := if na = 0 ∧ (nm b j opL = 4 ∨ nm b j opL = 5) then 2 else nm b j opL
def ptD (b : List UInt8) (j : Int) (nv na : Nat) (at0 n : Int) (kd : UInt8) : Int :=
 if kd = 114 then pk b j 3 else if kd = 99 then nm b j vaL else if kd = 118 then pk b j nv else if kd = 97 then pk b j na else if kd = 111 then 4 + pk b j 7 else at0 + 1 + pk b j (n - at0 - 1)
def psD (b : List UInt8) (j : Int) (nv na : Nat) (at0 n : Int) (ks : List UInt8) (k : Nat) : List Int := (cj0 4).map fun i => if i < k then ptD b (j + i) nv na at0 n (ks.getD i 0) else 0
theorem bk7 (b : List UInt8) (j : Int) (nv na : Nat) (at0 n : Int) (ks : List UInt8) (k : Nat) : (psD b j nv na at0 n ks k).length = 4 := by simp [psD]
theorem by9 (b : List UInt8) (j : Int) (nv na : Nat) (at0 n : Int) (ks : List UInt8) {k : Nat} (hk : k < 4) : psD b j nv na at0 n ks (k + 1) = (psD b j nv na at0 n ks k).set k (ptD b (j + k) nv na at0 n (ks.getD k 0)) := by
 apply List.ext_getElem (by simp [bk7])
 intro i h1 h2
 rw [List.getElem_set]
 simp only [psD, List.getElem_map, List.getElem_range]
 by_cases e : k = i
 ·subst e; simp
 ·rw [if_neg e]
  have : (i < k + 1) ↔ (i < k) := by omega
  simp only [this]
def Z5 (b : List UInt8) (j : Int) (nv na : Nat) (at0 n : Int) : d7 × Int :=
 (⟨opD b j na, (psD b (j + 1) nv na at0 n (i9 (opD b j na)) (i9 (opD b j na)).length).getD 0 0, (psD b (j + 1) nv na at0 n (i9 (opD b j na)) (i9 (opD b j na)).length).getD 1 0,
  (psD b (j + 1) nv na at0 n (i9 (opD b j na)) (i9 (opD b j na)).length).getD 2 0, (psD b (j + 1) nv na at0 n (i9 (opD b j na)) (i9 (opD b j na)).length).getD 3 0⟩, j + 1 + (i9 (opD b j na)).length)
theorem cd0 (b : List UInt8) (j : Int) (nv na : Nat) (at0 n : Int) : j + 1 ≤ (Z5 b j nv na at0 n).2 ∧ (Z5 b j nv na at0 n).2 ≤ j + 5 := by
 have := T6 (opD b j na)
 unfold Z5
 simp only
 omega
def rsD (b : List UInt8) (j : Int) (nv na : Nat) (n : Int) : Nat → List d7 × Int
 | 0 => ([], j)
 | k + 1 => ((rsD b j nv na n k).1 ++ [(Z5 b (rsD b j nv na n k).2 nv na k n).1], (Z5 b (rsD b j nv na n k).2 nv na k n).2)
theorem bU8 (b : List UInt8) (j : Int) (nv na : Nat) (n : Int) : ∀ k : Nat, (rsD b j nv na n k).1.length = k ∧ j ≤ (rsD b j nv na n k).2 ∧ (rsD b j nv na n k).2 ≤ j + 5 * k
 | 0 => by simp [rsD]
 | k + 1 => by
  obtain ⟨h1, h2, h3⟩ := bU8 b j nv na n k
  have h4 := cd0 b (rsD b j nv na n k).2 nv na k n
  have e2 : (rsD b j nv na n (k + 1)).2 = (Z5 b (rsD b j nv na n k).2 nv na k n).2 := rfl
  have e1 : (rsD b j nv na n (k + 1)).1.length = k + 1 := by
   show ((rsD b j nv na n k).1 ++ [(Z5 b (rsD b j nv na n k).2 nv na k n).1]).length = k + 1
   rw [ch8, h1]; rfl
  rw [e1, e2]
  generalize (Z5 b (rsD b j nv na n k).2 nv na k n).2 = x at h4 ⊢
  generalize (rsD b j nv na n k).2 = y at *
  refine ⟨rfl, ?_, ?_⟩ <;> omega
def clD (b : List UInt8) (j : Int) (nv na : Nat) : List d7 × Int :=
 (fun (n : Int) =>
  (fun (r : List d7 × Int) =>
   if n > 3 then
    (if pk b r.2 4 = 0 then (((r.1 ++ [(⟨13, 0, 0, 0, 0⟩ : d7)]).set 0 ⟨1, 5, 1 + pk b (r.2 + 1) 3, 0, 0⟩).set (n - 2).toNat ⟨10, 5, 1, 0, 0⟩, r.2 + 2) else (r.1 ++ [⟨13, 0, 0, 0, 0⟩], r.2 + 1))
   else (r.1 ++ [⟨13, 0, 0, 0, 0⟩], r.2)) (rsD b (j + 1) nv na n (n - 1).toNat)) (nm b j lnL)
theorem bX2 (b : List UInt8) {j : Int} (hj : 0 ≤ j) (hj2 : j ≤ 1000000000) : 1 ≤ nm b j lnL ∧ nm b j lnL ≤ 12 := by
 have h := aw9 b hj hj2 (l := lnL) (List.cons_ne_nil _ _)
 generalize nm b j lnL = x at h ⊢
 simp only [lnL, List.cons_append, List.nil_append, cl2, List.not_mem_nil, or_false] at h
 omega
theorem cg7 (b : List UInt8) {j : Int} (nv na : Nat) (hj : 0 ≤ j) (hj2 : j ≤ 1000000000) : (clD b j nv na).1.length = (nm b j lnL).toNat ∧ j + 1 ≤ (clD b j nv na).2 ∧ (clD b j nv na).2 ≤ j + 70 := by
 have hn := bX2 b hj hj2
 obtain ⟨h1, h2, h3⟩ := bU8 b (j + 1) nv na (nm b j lnL) (nm b j lnL - 1).toNat
 unfold clD
 simp only
 split
 ·split
  ·simp only [cj9, ch8, ci1, ci6, h1]; omega
  ·simp only [ch8, ci1, ci6, h1]; omega
 ·simp only [ch8, ci1, ci6, h1]; omega
abbrev b63 : List Int := [0] ++ ([14] ++ ([1] ++ ([12] ++ [])))
abbrev b62 : List Int := [-1] ++ ([14] ++ ([0] ++ ([400] ++ [])))
abbrev b61 : List Int := [1] ++ ([-1] ++ [])
def bV2 (l : List d7) (i : Nat) (n : Int) : List d7 := l.set i ⟨n, (l.getD i ch2).a, (l.getD i ch2).b, (l.getD i ch2).c, (l.getD i ch2).d⟩
def by8 (l : List d7) (i : Nat) (n : Int) : List d7 := l.set i ⟨(l.getD i ch2).op, n, (l.getD i ch2).b, (l.getD i ch2).c, (l.getD i ch2).d⟩
def bV3 (l : List d7) (i : Nat) (n : Int) : List d7 := l.set i ⟨(l.getD i ch2).op, (l.getD i ch2).a, (l.getD i ch2).b, (l.getD i ch2).c, n⟩
def muD (b : List UInt8) (j : Int) (c : f8) : f8 × Int :=
 if c.list.length = 0 then (c, j)
 else if pk b j 60 = 0 then (⟨c.vars, c.arrays, bV2 c.list 0 (nm b (j + 1) b63)⟩, j + 2)
 else if pk b j 60 = 1 then (⟨c.vars, c.arrays, by8 c.list (pk b (j + 1) c.list.length).toNat (nm b (j + 2) b62)⟩, j + 3)
 else if pk b j 60 = 2 then (⟨c.vars, c.arrays, c.list.set (c.list.length - 1) ⟨12, 0, 0, 0, 0⟩⟩, j + 1)
 else if pk b j 60 = 3 then (⟨c.vars, c.arrays, c.list.set (c.list.length - 1) ⟨8, 0, 0, 0, 0⟩⟩, j + 1)
 else if pk b j 60 = 4 then (⟨c.vars, c.arrays, bV3 c.list (pk b (j + 1) c.list.length).toNat (nm b (j + 2) b61)⟩, j + 3)
 else if pk b j 60 = 5 then (⟨[], c.arrays, c.list⟩, j + 1)
 else (c, j + 1)
theorem cf2 (b : List UInt8) (j : Int) (c : f8) : (muD b j c).1.list.length = c.list.length ∧ (muD b j c).1.vars.length ≤ c.vars.length ∧ (muD b j c).1.arrays.length = c.arrays.length ∧ j ≤ (muD b j c).2 ∧ (muD b j c).2 ≤ j + 3 := by
 have key : ∀ (x : f8) (q : Int), x.list.length = c.list.length → x.vars.length ≤ c.vars.length → x.arrays.length = c.arrays.length → j ≤ q → q ≤ j + 3 → ((x, q).1.list.length = c.list.length ∧ (x, q).1.vars.length ≤ c.vars.length ∧ (x, q).1.arrays.length = c.arrays.length ∧ j ≤ (x, q).2 ∧ (x, q).2 ≤ j + 3) := fun x q h1 h2 h3 h4 h5 => ⟨h1, h2, h3, h4, h5⟩
 unfold muD
 repeat' split
 all_goals (refine key _ _ ?_ ?_ ?_ (by omega) (by omega) <;> simp [bV2, by8, bV3])
theorem b47 {b : List UInt8} {j n : Int} (h : n < 1) : pk b j n = 0 := by unfold pk; rw [if_pos (.inl h)]
theorem ce4 {b : List UInt8} {j n : Int} (h : (b.length : Int) = 0) : pk b j n = 0 := by unfold pk; rw [if_pos (.inr (by omega))]
theorem ce3 {b : List UInt8} {j n : Int} (h : ¬ n < 1) (h1 : ¬ (b.length : Int) = 0) (h2 : j + 1 - 1 < b.length) : pk b j n = ((b.getD (j + 1 - 1).toNat 0).toNat : Int).tmod n := by
 unfold pk; rw [if_neg (by omega), if_pos (by omega), Int.add_sub_cancel]
theorem ce0 {b : List UInt8} {j n : Int} (h : ¬ n < 1) (h1 : ¬ (b.length : Int) = 0) (h2 : ¬ j + 1 - 1 < b.length) : pk b j n = (a98 (pkX b (j + 1 - 1)) ((pkX b (j + 1 - 1)).tdiv 64)).tmod n := by
 unfold pk; rw [if_neg (by omega), if_neg (by omega), Int.add_sub_cancel]
theorem br3 {x : Int} {n : Nat} (hx : 0 ≤ x) (hn : ¬ (n : Int) = 0) : 0 ≤ x.tmod n ∧ x.tmod n < n ∧ (x.tmod n).toNat < n := by
 have := ba1 (x := x) (n := n) hx (by omega); omega
theorem t5 (b : List UInt8) (j n : Int) (r0 : 0 ≤ j) (r1 : j ≤ 1000000000) : j9.ok Tryz.prog ⟨120, [.ptr 0 0, iA n], [.box [.ref 1, iA j], dY b], [.box [.ref 1, iA (j + 1)], dY b], iA (pk b j n)⟩ := by
  refine E9 99 Tryz.func120 [.box [.ref 1, iA j], dY b] [(0, .ptr 0 0), (1, iA n)] fun G => ?_; have hu1 := a00 (b.getD ((j + 1 - 1).tmod b.length).toNat 0); have hu2 := a00 (b.getD (((j + 1 - 1) * 7 + 3).tmod b.length).toNat 0); refine wp_seq (k8 G d9 [(4, iA 0)] fun G => b6 (wp_seq (N7 G d9 [0, 1] [.box [.ref 1, iA (j + 1)], dY b] [(0, .ptr 0 0), (1, iA n), (4, iA 0)] [wO (j + 1)] (o1 (by omega)) fun G => b6 (wp_seq (wp_seq ?_))))); cases h0 : (decide (n < 1))
  ·
   have q0 := dFf h0; refine k8 G (J1 (fc h0 fz) (us [(3, 8, 0), (1009, 1009, 0)])) [(24, bA ((b.length : Int) == 0))] fun G => b6 (J7 G (fun h1 q1 => ?_) fun h1 q1 => ?_)
   ·
    refine wp_skip (b6 (wp_seq (E0 G d9 [(5, iA (j + 1 - 1))] [wO (j + 1 - 1)] (o1 (by omega)) fun G => b6 (wp_seq (wp_seq (k8 G d9 [(36, bA (decide (j + 1 - 1 < (b.length : Int))))] fun G => b6 (rcD G (fun h2 q2 => ?_) fun h2 q2 => ?_)))))))
    ·
     refine wp_skip (b6 (wp_seq (ac8 G d9 [0, 1, 3, 7, 0, 0, 32, 96, 224, 480, 1008, 2047, 4095, 8191, 16383, 0, 32768, 98304, 229376, 0, 524288, 1572864, 0, 4194304, 12582912, 29360128, 62914560, 133693440, 268402688, 536838144, 1073709056, 2147450880, 4294967295, 0, 8589934592, 34359738367, 0, 0, 137438953472, 412316860416, 962072674304, 2061584302080, 4329327034368, 8727373545472, 17592186044415, 35184372088831] [(6, iA (((b.getD ((j + 1 - 1).tmod (b.length : Int)).toNat 0).toNat : Int) * 131 + ((b.getD (((j + 1 - 1) * 7 + 3).tmod (b.length : Int)).toNat 0).toNat : Int) * 1117 + (j + 1 - 1) * 29 + (j + 1 - 1).tdiv (b.length : Int) * 53))] [(b.length : Int) ≠ 0, (0 : Int) ≤ (j + 1 - 1).tmod (b.length : Int), (j + 1 - 1).tmod (b.length : Int) < b.length, ((j + 1 - 1).tmod (b.length : Int)).toNat < b.length, IntKind.i64.wrap ((b.getD ((j + 1 - 1).tmod (b.length : Int)).toNat (0 : UInt8)).toNat : Int) = ((b.getD ((j + 1 - 1).tmod (b.length : Int)).toNat (0 : UInt8)).toNat : Int), wO (((b.getD ((j + 1 - 1).tmod (b.length : Int)).toNat (0 : UInt8)).toNat : Int) * 131), wO ((j + 1 - 1) * 7), wO ((j + 1 - 1) * 7 + 3), (b.length : Int) ≠ 0, (0 : Int) ≤ ((j + 1 - 1) * 7 + 3).tmod (b.length : Int), ((j + 1 - 1) * 7 + 3).tmod (b.length : Int) < b.length, (((j + 1 - 1) * 7 + 3).tmod (b.length : Int)).toNat < b.length, IntKind.i64.wrap ((b.getD (((j + 1 - 1) * 7 + 3).tmod (b.length : Int)).toNat (0 : UInt8)).toNat : Int) = ((b.getD (((j + 1 - 1) * 7 + 3).tmod (b.length : Int)).toNat (0 : UInt8)).toNat : Int), wO (((b.getD (((j + 1 - 1) * 7 + 3).tmod (b.length : Int)).toNat (0 : UInt8)).toNat : Int) * 1117), wO (((b.getD ((j + 1 - 1).tmod (b.length : Int)).toNat (0 : UInt8)).toNat : Int) * 131 + ((b.getD (((j + 1 - 1) * 7 + 3).tmod (b.length : Int)).toNat (0 : UInt8)).toNat : Int) * 1117), wO ((j + 1 - 1) * 29), wO (((b.getD ((j + 1 - 1).tmod (b.length : Int)).toNat (0 : UInt8)).toNat : Int) * 131 + ((b.getD (((j + 1 - 1) * 7 + 3).tmod (b.length : Int)).toNat (0 : UInt8)).toNat : Int) * 1117 + (j + 1 - 1) * 29), (b.length : Int) ≠ 0, wO ((j + 1 - 1).tdiv (b.length : Int)), wO ((j + 1 - 1).tdiv (b.length : Int) * 53), wO (((b.getD ((j + 1 - 1).tmod (b.length : Int)).toNat (0 : UInt8)).toNat : Int) * 131 + ((b.getD (((j + 1 - 1) * 7 + 3).tmod (b.length : Int)).toNat (0 : UInt8)).toNat : Int) * 1117 + (j + 1 - 1) * 29 + (j + 1 - 1).tdiv (b.length : Int) * 53)] ⟨(by assumption), ((br3 (by omega) (by omega)).1), ((br3 (by omega) (by omega)).2.1), ((br3 (by omega) (by omega)).2.2), (w64 (by omega) (by omega)), (oW (by omega)), (oW (by omega)), (oW (by omega)), (by assumption), ((br3 (by omega) (by omega)).1), ((br3 (by omega) (by omega)).2.1), ((br3 (by omega) (by omega)).2.2), (w64 (by omega) (by omega)), (oW (by omega)), (oW (by omega)), (oW (by omega)), (oW (by omega)), (by assumption), (by have := a29 (b := b) (k := j + 1 - 1) (by omega) (by omega) (by omega); exact w64 (by unfold pkX at this; omega) (by unfold pkX at this; omega)), (by have := a29 (b := b) (k := j + 1 - 1) (by omega) (by omega) (by omega); exact w64 (by unfold pkX at this; omega) (by unfold pkX at this; omega)), (by have := a29 (b := b) (k := j + 1 - 1) (by omega) (by omega) (by omega); exact w64 (by unfold pkX at this; omega) (by unfold pkX at this; omega)), ci7⟩ fun G => ?_)))
     refine b6 (wp_seq (E0 G d9 [(6, iA (a98 (((b.getD ((j + 1 - 1).tmod (b.length : Int)).toNat 0).toNat : Int) * 131 + ((b.getD (((j + 1 - 1) * 7 + 3).tmod (b.length : Int)).toNat 0).toNat : Int) * 1117 + (j + 1 - 1) * 29 + (j + 1 - 1).tdiv (b.length : Int) * 53) ((((b.getD ((j + 1 - 1).tmod (b.length : Int)).toNat 0).toNat : Int) * 131 + ((b.getD (((j + 1 - 1) * 7 + 3).tmod (b.length : Int)).toNat 0).toNat : Int) * 1117 + (j + 1 - 1) * 29 + (j + 1 - 1).tdiv (b.length : Int) * 53).tdiv 64)))] [(64 : Int) ≠ 0, wO ((((b.getD ((j + 1 - 1).tmod (b.length : Int)).toNat (0 : UInt8)).toNat : Int) * 131 + ((b.getD (((j + 1 - 1) * 7 + 3).tmod (b.length : Int)).toNat (0 : UInt8)).toNat : Int) * 1117 + (j + 1 - 1) * 29 + (j + 1 - 1).tdiv (b.length : Int) * 53).tdiv (64 : Int))] ⟨(by omega), (by have := bQ9 (b := b) (k := j + 1 - 1) (by omega) (by omega) (by omega); exact w64 (by unfold pkX at this; omega) (by unfold pkX at this; omega)), ci7⟩ fun G => b6 (wp_seq (E0 G d9 [(4, iA ((a98 (((b.getD ((j + 1 - 1).tmod (b.length : Int)).toNat 0).toNat : Int) * 131 + ((b.getD (((j + 1 - 1) * 7 + 3).tmod (b.length : Int)).toNat 0).toNat : Int) * 1117 + (j + 1 - 1) * 29 + (j + 1 - 1).tdiv (b.length : Int) * 53) ((((b.getD ((j + 1 - 1).tmod (b.length : Int)).toNat 0).toNat : Int) * 131 + ((b.getD (((j + 1 - 1) * 7 + 3).tmod (b.length : Int)).toNat 0).toNat : Int) * 1117 + (j + 1 - 1) * 29 + (j + 1 - 1).tdiv (b.length : Int) * 53).tdiv 64)).tmod n))] [n ≠ 0] ⟨(by omega), ci7⟩ fun G => b6 (wp_ret ?_))))); exact rxI ((a98 (((b.getD ((j + 1 - 1).tmod (b.length : Int)).toNat 0).toNat : Int) * 131 + ((b.getD (((j + 1 - 1) * 7 + 3).tmod (b.length : Int)).toNat 0).toNat : Int) * 1117 + (j + 1 - 1) * 29 + (j + 1 - 1).tdiv (b.length : Int) * 53) ((((b.getD ((j + 1 - 1).tmod (b.length : Int)).toNat 0).toNat : Int) * 131 + ((b.getD (((j + 1 - 1) * 7 + 3).tmod (b.length : Int)).toNat 0).toNat : Int) * 1117 + (j + 1 - 1) * 29 + (j + 1 - 1).tdiv (b.length : Int) * 53).tdiv 64)).tmod n) G [0, 1] (ce0 (by omega) (by omega) (by omega))
    · refine wp_seq (E0 G d9 [(4, iA (((b.getD (j + 1 - 1).toNat 0).toNat : Int).tmod n))] (iX (j + 1 - 1) ((j + 1 - 1).toNat) b.length ((IntKind.i64.wrap ((b.getD (j + 1 - 1).toNat (0 : UInt8)).toNat : Int) = ((b.getD (j + 1 - 1).toNat (0 : UInt8)).toNat : Int)) :: ((n ≠ 0) :: []))) (iK (by omega) ⟨(by have := a00 (b.getD (j + 1 - 1).toNat 0); exact w64 (by omega) (by omega)), ⟨(by omega), ci7⟩⟩) fun G => b6 (wp_ret (l6 ?_))); exact rxI (((b.getD (j + 1 - 1).toNat 0).toNat : Int).tmod n) G [0, 1] (ce3 (by omega) (by omega) (by omega))
   · refine wp_seq (k8 G d9 [] fun G => b6 (wp_ret (l6 ?_))); exact rxI 0 G [0, 1] (ce4 (by omega))
  · have q0 := dTt h0; refine k8 G (J1 (fc h0 fz) (us [(3, 8, 0), (1009, 1009, 0)])) [(24, bA true)] fun G => b6 (rT G true (by kernel_rfl) (wp_seq (k8 G d9 [] fun G => b6 (wp_ret (l6 ?_))))); exact rxI 0 G [0, 1] (b47 (by omega))
theorem R1 (b : List UInt8) (j : Int) (l : List Int) (hl : l ≠ []) (r0 : 0 ≤ j) (r1 : j ≤ 1000000000) : j9.ok Tryz.prog ⟨122, [.ptr 0 0, .ref 2], [.box [.ref 1, iA j], dY b, dI l], [.box [.ref 1, iA (j + 1)], dY b, dI l], iA (nm b j l)⟩ := by
 refine E9 12 Tryz.func122 [.box [.ref 1, iA j], dY b, dI l] [(0, .ptr 0 0), (1, .ref 2)] fun G => ?_; refine wp_seq (k8 G d9 [(4, iA 0)] fun G => b6 (wp_seq (N7 G (s8 4 [0, 1] (t5 b j ((l.length : Int)) (by assumption) (by assumption))) [0, 1, 2] [.box [.ref 1, iA (j + 1)], dY b, dI l] [(4, iA (l.getD (pk b j (l.length : Int)).toNat 0))] [(0 : Int) ≤ pk b j (l.length : Int), pk b j (l.length : Int) < l.length, (pk b j (l.length : Int)).toNat < l.length] ⟨((bl5 b r0 r1 hl).1), ((bl5 b r0 r1 hl).2.1), ((bl5 b r0 r1 hl).2.2), ci7⟩ fun G => b6 (wp_ret ?_)))); exact K8 G [0, 1, 2]
theorem bg8 (c : List UInt8) (hc : c.length ≤ 2000) : j9.ok Tryz.prog ⟨54, [.ref 0], [dY c], [dY c, .box [.ref 0, iA 0]], .ptr 1 0⟩ := by
 refine E9 11 Tryz.func54 [dY c] [(0, .ref 0)] fun G => ?_; refine wp_seq (k8 G d9 [(2, .v (.pointer none))] fun G => b6 (wp_seq (wp_seq (D2 G d9 [(0, .ref 0), (2, .v (.pointer none)), (5, bA (decide ((c.length : Int) > 2000)))] fun G => b6 ?_)))); cases h0 : (decide ((c.length : Int) > 2000))
 ·have q0 := dFf h0; refine rF G _ h0 (wp_skip (b6 (wp_seq (j8 G d9 [0, 17] [dY c, .box [.ref 0, iA 0]] [(2, .ptr 1 0)] fun G => b6 (wp_ret ?_))))); exact K8 G [0, 1]
 ·have q0 := dTt h0; exact False.elim (by omega)
theorem bg7 (c : List UInt8) (hc : 2000 < c.length) : j9.ok Tryz.prog ⟨54, [.ref 0], [dY c], [dY c, .box [.ref 2, iA 0], dY ((c.take 2000).drop 0)], .ptr 1 0⟩ := by
 refine E9 11 Tryz.func54 [dY c] [(0, .ref 0)] fun G => ?_; refine wp_seq (k8 G d9 [(2, .v (.pointer none))] fun G => b6 (wp_seq (wp_seq (D2 G d9 [(0, .ref 0), (2, .v (.pointer none)), (5, bA (decide ((c.length : Int) > 2000)))] fun G => b6 ?_)))); cases h0 : (decide ((c.length : Int) > 2000))
 ·have q0 := dFf h0; exact False.elim (by omega)
 ·have q0 := dTt h0; refine rT G _ h0 (N7 G d9 [0, 9] [dY c, dY (List.drop 0 (ci0 (Int.toNat 2000) c))] [(0, .ref 1), (2, .v (.pointer none))] [(0 : Int) ≤ 2000, (2000 : Int) ≤ c.length] ⟨(by omega), (by omega), ci7⟩ fun G => b6 (wp_seq (j8 G d9 [0, 1, 18] [dY c, dY (List.drop 0 (ci0 (Int.toNat 2000) c)), .box [.ref 1, iA 0]] [(2, .ptr 2 0)] fun G => b6 (wp_ret ?_)))); exact K8 G [0, 2, 1]
abbrev dwS (b : List UInt8) (j : Int) (vs ars : List Int) (bd : List c5) : List It := [.box [.ref 1, iA j], dY b, dI vs, dI ars, dT bd]
abbrev exO (e : c6) : List It := [.tree (.exprs e.kids)]
abbrev exA (e : c6) (r : Nat) : AV := .agg [iA e.kind, iA e.value, .tref r]
theorem cb0 {b : List UInt8} {nv j : Int} (h : pk b j 3 = 0) : n6 b nv j = ⟨1, nm b (j + 1) atL, []⟩ := if_pos h
theorem ca9 {b : List UInt8} {nv j : Int} (h : ¬ pk b j 3 = 0) : n6 b nv j = ⟨2, pk b (j + 1) nv, []⟩ := if_neg h
theorem ay2 (b : List UInt8) (j : Int) (vs ars : List Int) (bd : List c5) (r0 : 0 ≤ j) (r1 : j ≤ 900000000) : j9.ok Tryz.prog ⟨246, [.ptr 0 0, pA 2], dwS b j vs ars bd, dwS b (j + 2) vs ars bd ++ exO (n6 b vs.length j), exA (n6 b vs.length j) 5⟩ := by
 refine E9 18 Tryz.func246 [.box [.ref 1, iA j], dY b, dI vs, dI ars, dT bd] [(0, .ptr 0 0), (1, pA 2)] fun G => ?_; refine wp_seq (j8 G d9 [0, 1, 2, 3, 4, 5, 13] [.box [.ref 1, iA j], dY b, dI vs, dI ars, dT bd, .box (pL 2), .box [iA 0, iA 0, .v (.slice none 0 0)]] [(0, .ptr 0 0), (3, .ptr 5 0), (4, .ptr 6 0)] fun G => b6 (wp_seq (wp_seq (j8 G (s8 1 [0, 1] (t5 b j 3 (by assumption) (by omega))) (rg 7) [.box [.ref 1, iA (j + 1)], dY b, dI vs, dI ars, dT bd, .box (pL 2), .box [iA 0, iA 0, .v (.slice none 0 0)]] [(0, .ptr 0 0), (3, .ptr 5 0), (4, .ptr 6 0), (7, bA (pk b j 3 == 0))] fun G => b6 (J7 G (fun h0 q0 => ?_) fun h0 q0 => ?_)))))
 ·refine wp_skip (b6 (wp_seq (j8 G (s8 4 [0, 1] (t5 b (j + 1) ((vs.length : Int)) (by omega) (by omega))) [0, 1, 2, 3, 4, 6] [.box [.ref 1, iA (j + 1 + 1)], dY b, dI vs, dI ars, dT bd, .box [iA 2, iA (pk b (j + 1) (vs.length : Int)), .v (.slice none 0 0)]] [(4, .ptr 5 0)] fun G => b6 (wp_ret ?_)))); obtain ⟨ρ, G⟩ := G.nilT 6 (.exprs []) [.box [.ref 1, iA (j + 1 + 1)], dY b, dI vs, dI ars, dT bd, .box [iA 2, iA (pk b (j + 1) (vs.length : Int)), .tref 6]] [(4, .ptr 5 0)]; exact U2 (.agg [iA 2, iA (pk b (j + 1) (vs.length : Int)), .tref 6]) G [0, 1, 2, 3, 4, 6] (by show _ = AV.ren (nth [0, 1, 2, 3, 4, 6]) (.agg [iA (n6 b (vs.length : Int) j).kind, iA (n6 b (vs.length : Int) j).value, .tref 5]); rw [ca9 (by omega)] <;> rfl) (by show _ = mR [0, 1, 2, 3, 4, 6] [.box [.ref 1, iA (j + 2)], dY b, dI vs, dI ars, dT bd, .tree (D.exprs (n6 b (vs.length : Int) j).kids)]; have e1 : (j + 2 : Int) = (j + 1 + 1) := (by omega); rw [e1, ca9 (by omega)] <;> rfl)
 ·refine wp_seq (j8 G (s8 2 [0, 1, 15] (j9.lend (R1 b (j + 1) atL (by simp [h0]) (by omega) (by omega)) [.no, .no, .row 3])) (rg 7) [.box [.ref 1, iA (j + 1 + 1)], dY b, dI vs, dI ars, dT bd, .box (pL 2), .box [iA 1, iA (nm b (j + 1) atL), .v (.slice none 0 0)]] [(0, .ptr 0 0), (3, .ptr 5 0), (4, .ptr 6 0)] fun G => b6 (wp_ret (l6 ?_))); obtain ⟨ρ, G⟩ := G.nilT 7 (.exprs []) [.box [.ref 1, iA (j + 1 + 1)], dY b, dI vs, dI ars, dT bd, .box (pL 2), .box [iA 1, iA (nm b (j + 1) atL), .tref 7]] [(0, .ptr 0 0), (3, .ptr 5 0), (4, .ptr 6 0)]; exact U2 (.agg [iA 1, iA (nm b (j + 1) atL), .tref 7]) G [0, 1, 2, 3, 4, 7] (by show _ = AV.ren (nth [0, 1, 2, 3, 4, 7]) (.agg [iA (n6 b (vs.length : Int) j).kind, iA (n6 b (vs.length : Int) j).value, .tref 5]); rw [cb0 (by omega)] <;> rfl) (by show _ = mR [0, 1, 2, 3, 4, 7] [.box [.ref 1, iA (j + 2)], dY b, dI vs, dI ars, dT bd, .tree (D.exprs (n6 b (vs.length : Int) j).kids)]; have e1 : (j + 2 : Int) = (j + 1 + 1) := (by omega); rw [e1, cb0 (by omega)] <;> rfl)
theorem bg5 (vs ars : List Int) (bd : List c5) (e : c6) : j9.ok Tryz.prog (T5 233 [pA 0, eA e 3] ([dI vs, dI ars, dT bd] ++ eS e) (bA (s4 vs.length ars.length e))) := J3 ⟨vs, ars, bd⟩ e
abbrev drC (b : List UInt8) (vs ars : List Int) (bd : List c5) (d : Nat) (j n : Int) : j9 := ⟨258, [.ptr 0 0, pA 2, iA n], dwS b j vs ars bd, dwS b (N9 b vs.length ars.length d j).2 vs ars bd ++ exO (N9 b vs.length ars.length d j).1, exA (N9 b vs.length ars.length d j).1 5⟩
section
variable {b : List UInt8} {nv na : Int} {d : Nat} {j : Int}
theorem b92 (h : d < 2) : N9 b nv na d j = (n6 b nv j, j + 2) := by
 match d, h with
 | 0, _ => rfl
 | 1, _ => simp [N9]
theorem bY7 (h : 0 < d) (h1 : pk b j 4 = 0) : N9 b nv na (d + 1) j = (n6 b nv (j + 1), j + 3) := by rw [N9, if_neg (by omega), if_pos h1]
theorem bN5 (h : 0 < d) (h1 : ¬ pk b j 4 = 0) (h2 : nm b (j + 1) P5 = 3) (h3 : na = 0) : N9 b nv na (d + 1) j = (n6 b nv (j + 2), j + 4) := by rw [N9, if_neg (by omega), if_neg h1, if_pos h2, if_pos h3]
theorem bN4 (h : 0 < d) (h1 : ¬ pk b j 4 = 0) (h2 : nm b (j + 1) P5 = 3) (h3 : ¬ na = 0) : N9 b nv na (d + 1) j = (⟨3, pk b (j + 2) na, [n6 b nv (j + 3)]⟩, j + 5) := by rw [N9, if_neg (by omega), if_neg h1, if_pos h2, if_neg h3]
abbrev drK (b : List UInt8) (nv na : Int) (d : Nat) (j : Int) (k : Nat) : List c6 × Int := H6 (N9 b nv na d) k (j + 2)
theorem b91 (h : 0 < d) (h1 : ¬ pk b j 4 = 0) (h2 : ¬ nm b (j + 1) P5 = 3) {m : Int} (h3 : 0 ≤ m) (h4 : ¬ m > 0) : N9 b nv na (d + 1) j = (⟨nm b (j + 1) P5, 0, (drK b nv na d j (t2 (nm b (j + 1) P5) - m).toNat).1⟩, (drK b nv na d j (t2 (nm b (j + 1) P5) - m).toNat).2) := by
 have e : m = 0 := by omega
 rw [e, Int.sub_zero, N9, if_neg (by omega), if_neg h1, if_neg h2]
theorem bn5 {x m : Int} (h3 : m > 0) (h4 : m ≤ x) : drK b nv na d j (x - (m - 1)).toNat = ((drK b nv na d j (x - m).toNat).1 ++ [(N9 b nv na d (drK b nv na d j (x - m).toNat).2).1], (N9 b nv na d (drK b nv na d j (x - m).toNat).2).2) := by
 rw [show (x - (m - 1)).toNat = (x - m).toNat + 1 by omega]; rfl
theorem cb1 (r0 : 0 ≤ j) (r1 : j ≤ 900000000) : 0 ≤ t2 (nm b (j + 1) P5) ∧ t2 (nm b (j + 1) P5) ≤ 3 := by
 have h := aw9 b (k := j + 1) (l := P5) (by omega) (by omega) (by simp)
 simp only [cj5, cl2, List.not_mem_nil, or_false] at h
 rcases h with h | h | h | h | h | h | h | h | h <;> rw [h] <;> decide
theorem b94 (r0 : 0 ≤ j) {k : Nat} (hk : k ≤ 3) : j + 2 ≤ (drK b nv na d j k).2 ∧ (drK b nv na d j k).2 ≤ j + 2 + 3 * cE d := by
 have hc := aL9 d
 have h := bE2 (f := N9 b nv na d) (c := cE d) (m := 3) (by omega) k (j + 2) hk fun i _ _ => a65 b nv na d i
 have h4 : (k : Int) * cE d ≤ 3 * cE d := cm6 (by omega) (by omega)
 unfold drK; omega
theorem b93 {x m : Int} (r0 : 0 ≤ j) (h3 : m > 0) (h4 : m ≤ x) (h5 : x ≤ 3) (r1 : j + cE (d + 1) ≤ 800000000) : (drK b nv na d j (x - m).toNat).2 + cE d ≤ 800000000 := by
 have hc := aL9 d
 have hce : cE (d + 1) = 5 + 3 * cE d := rfl
 have hm : (x - m).toNat ≤ 2 := by omega
 have h := bE2 (f := N9 b nv na d) (c := cE d) (m := 2) (by omega) (x - m).toNat (j + 2) hm fun i _ _ => a65 b nv na d i
 have h4 : ((x - m).toNat : Int) * cE d ≤ 2 * cE d := cm6 (by omega) (by omega)
 unfold drK; omega
end
theorem bk1 (b : List UInt8) (vs ars : List Int) (bd : List c5) (d : Nat) (hd : d < 2) (j n : Int) (hn : n = d) (r0 : 0 ≤ j) (r1 : j ≤ 900000000) : j9.ok Tryz.prog (drC b vs ars bd d j n) := by
 refine E9 62 Tryz.func258 [.box [.ref 1, iA j], dY b, dI vs, dI ars, dT bd] [(0, .ptr 0 0), (1, pA 2), (2, iA n)] fun G => ?_; refine wp_seq (j8 G d9 [0, 1, 2, 3, 4, 5, 13] [.box [.ref 1, iA j], dY b, dI vs, dI ars, dT bd, .box (pL 2), .box [iA 0, iA 0, .v (.slice none 0 0)]] [(0, .ptr 0 0), (2, iA n), (4, .ptr 5 0), (6, .ptr 6 0)] fun G => b6 (wp_seq (wp_seq ?_))); cases h0 : (decide (n < 2))
 ·have q0 := dFf h0; exact False.elim (by omega)
 ·have q0 := dTt h0; refine k8 G (J1 (fc h0 fz) [(3, 0), (4, 0), (5, 0), (1006, 0)]) [(16, bA true)] fun G => b6 (rT G true (by kernel_rfl) (wp_seq (j8 G (s8 2 (rg 5) (ay2 b j vs ars bd (by assumption) (by assumption))) [0, 1, 2, 3, 4, 5, 6, 23] [.box [.ref 1, iA (j + 2)], dY b, dI vs, dI ars, dT bd, .box (pL 2), .box [iA (n6 b (vs.length : Int) j).kind, iA (n6 b (vs.length : Int) j).value, .tref 7], .tree (D.exprs (n6 b (vs.length : Int) j).kids)] [(0, .ptr 0 0), (2, iA n), (4, .ptr 5 0), (6, .ptr 6 0)] fun G => b6 (wp_ret (l6 ?_))))); exact U2 (.agg [iA (n6 b (vs.length : Int) j).kind, iA (n6 b (vs.length : Int) j).value, .tref 7]) G [0, 1, 2, 3, 4, 7] (by show _ = AV.ren (nth [0, 1, 2, 3, 4, 7]) (.agg [iA (N9 b (vs.length : Int) (ars.length : Int) d j).fst.kind, iA (N9 b (vs.length : Int) (ars.length : Int) d j).fst.value, .tref 5]); rw [b92 hd] <;> rfl) (by show _ = mR [0, 1, 2, 3, 4, 7] [.box [.ref 1, iA (N9 b (vs.length : Int) (ars.length : Int) d j).snd], dY b, dI vs, dI ars, dT bd, .tree (D.exprs (N9 b (vs.length : Int) (ars.length : Int) d j).fst.kids)]; rw [b92 hd] <;> rfl)
abbrev aF3 (b : List UInt8) (vs : List Int) (ars : List Int) (d : Nat) (j : Int) (k : Int) := drK b (vs.length : Int) (ars.length : Int) d j (t2 (nm b (j + 1) P5) - k).toNat
abbrev az4 (b : List UInt8) (vs : List Int) (ars : List Int) (d : Nat) (j : Int) : AV := (.agg [iA (N9 b (vs.length : Int) (ars.length : Int) (d + 1) j).fst.kind, iA (N9 b (vs.length : Int) (ars.length : Int) (d + 1) j).fst.value, .tref 5])
abbrev az3 (b : List UInt8) (vs : List Int) (ars : List Int) (bd : List c5) (d : Nat) (j : Int) : List It := [.box [.ref 1, iA (N9 b (vs.length : Int) (ars.length : Int) (d + 1) j).snd], dY b, dI vs, dI ars, dT bd, .tree (D.exprs (N9 b (vs.length : Int) (ars.length : Int) (d + 1) j).fst.kids)]
abbrev aO7 : It := .box [iA 0, iA 0, .v (.slice none 0 0)]
abbrev ag1 (n : Int) (r0 : List (Nat × AV)) : List (Nat × AV) := (0, .ptr 0 0) :: (2, iA n) :: (4, .ptr 5 0) :: (6, .ptr 6 0) :: r0
theorem bJ4 (b : List UInt8) (vs ars : List Int) (bd : List c5) (d : Nat) (hd : 0 < d) (hd2 : d ≤ 100) (ih : ∀ (j n : Int), n = d → 0 ≤ j → j + cE d ≤ 800000000 → j9.ok Tryz.prog (drC b vs ars bd d j n)) (j n : Int) (hn : n = ((d + 1 : Nat) : Int)) (r0 : 0 ≤ j) (r1 : j + cE (d + 1) ≤ 800000000) : j9.ok Tryz.prog (drC b vs ars bd (d + 1) j n) := by
  refine E9 62 Tryz.func258 [.box [.ref 1, iA j], dY b, dI vs, dI ars, dT bd] [(0, .ptr 0 0), (1, pA 2), (2, iA n)] fun G => ?_; have hc := aL9 d; have hce : cE (d + 1) = 5 + 3 * cE d := rfl; have har := cb1 (b := b) (j := j) r0 (by omega); refine wp_seq (j8 G d9 [0, 1, 2, 3, 4, 5, 13] [.box [.ref 1, iA j], dY b, dI vs, dI ars, dT bd, .box (pL 2), aO7] (ag1 n []) fun G => b6 (wp_seq (wp_seq ?_))); cases h0 : (decide (n < 2))
  ·
   have q0 := dFf h0; refine j8 G (F9 (t4 4 [0, 1] (t5 b j 4 (by assumption) (by omega)) F8) (fc h0 fz) [(3, 0), (4, 0), (5, 0), (1006, 0)]) (rg 7) [.box [.ref 1, iA (j + 1)], dY b, dI vs, dI ars, dT bd, .box (pL 2), aO7] (ag1 n [(16, bA (pk b j 4 == 0))]) fun G => b6 (J7 G (fun h1 q1 => ?_) fun h1 q1 => ?_)
   ·
    refine wp_skip (b6 (wp_seq (j8 G (s8 2 [0, 1, 15] (j9.lend (R1 b (j + 1) P5 (by simp [h0, h1]) (by omega) (by omega)) [.no, .no, .row 3])) (rg 7) [.box [.ref 1, iA (j + 1 + 1)], dY b, dI vs, dI ars, dT bd, .box (pL 2), aO7] (ag1 n [(7, iA (nm b (j + 1) P5))]) fun G => b6 (wp_seq (wp_seq (k8 G d9 [(24, bA (nm b (j + 1) P5 == 3))] fun G => b6 (J7 G (fun h2 q2 => ?_) fun h2 q2 => ?_)))))))
    ·
     refine wp_skip (b6 (wp_seq (j8 G d9 [0, 1, 2, 3, 4, 5, 6, 23] [.box [.ref 1, iA (j + 1 + 1)], dY b, dI vs, dI ars, dT bd, .box (pL 2), aO7, .box [iA (nm b (j + 1) P5), iA 0, .v (.slice none 0 0)]] (ag1 n [(7, iA (nm b (j + 1) P5)), (8, .ptr 7 0)]) fun G => b6 (wp_seq (wp_seq (D2 G (s8 1 [] (an6 (nm b (j + 1) P5))) (ag1 n [(8, .ptr 7 0), (9, iA (t2 (nm b (j + 1) P5)))]) fun G => b6 (wp_block ?_))))))); obtain ⟨ρ, G⟩ := G.nilT 8 (.exprs []) [.box [.ref 1, iA (j + 1 + 1)], dY b, dI vs, dI ars, dT bd, .box (pL 2), .box [iA 0, iA 0, .v (.slice none 0 0)], .box [iA (nm b (j + 1) P5), iA 0, .tref 8]] (ag1 n [(8, .ptr 7 0), (9, iA (t2 (nm b (j + 1) P5)))]); replace G := G.as [.box [.ref 1, iA (drK b (vs.length : Int) (ars.length : Int) d j (t2 (nm b (j + 1) P5) - t2 (nm b (j + 1) P5)).toNat).snd], dY b, dI vs, dI ars, dT bd, .box (pL 2), .box [iA 0, iA 0, .v (.slice none 0 0)], .box [iA (nm b (j + 1) P5), iA 0, .tref 8], .tree (D.exprs (drK b (vs.length : Int) (ars.length : Int) d j (t2 (nm b (j + 1) P5) - t2 (nm b (j + 1) P5)).toNat).fst)] (ag1 n [(8, .ptr 7 0), (9, iA (t2 (nm b (j + 1) P5)))]) (by have e1 : ((drK b (vs.length : Int) (ars.length : Int) d j (t2 (nm b (j + 1) P5) - t2 (nm b (j + 1) P5)).toNat).snd : Int) = (j + 1 + 1) := (by rw [Int.sub_self]; show j + 2 = j + 1 + 1; omega); have e2 : ((drK b (vs.length : Int) (ars.length : Int) d j (t2 (nm b (j + 1) P5) - t2 (nm b (j + 1) P5)).toNat).fst : List c6) = ([]) := (by rw [Int.sub_self]; rfl); (first | rw [e1, e2] | simp only [e1, e2]) <;> rfl) (by kernel_rfl); refine t0 (κ := Int) (fun k => 0 ≤ k ∧ k ≤ t2 (nm b (j + 1) P5)) (fun k => k.toNat) (fun k => [.box [.ref 1, iA (drK b vs.length ars.length d j (t2 (nm b (j + 1) P5) - k).toNat).2], dY b, dI vs, dI ars, dT bd, .box (pL 2), .box [iA 0, iA 0, .v (.slice none 0 0)], .box [iA (nm b (j + 1) P5), iA 0, .tref 8], .tree (.exprs (drK b vs.length ars.length d j (t2 (nm b (j + 1) P5) - k).toNat).1)]) (fun k => [(0, .ptr 0 0), (2, iA n), (4, .ptr 5 0), (6, .ptr 6 0), (8, .ptr 7 0), (9, iA k)]) (t2 (nm b (j + 1) P5)) (by omega) (t7.at G _ _) ?_; clear G; intro k ρ a w hp G; replace G := t7.at G [.box [.ref 1, iA (aF3 b vs ars d j k).snd], dY b, dI vs, dI ars, dT bd, .box (pL 2), aO7, .box [iA (nm b (j + 1) P5), iA 0, .tref 8], .tree (D.exprs (aF3 b vs ars d j k).fst)] (ag1 n [(8, .ptr 7 0), (9, iA k)]); have hkb := b94 (b := b) (nv := vs.length) (na := ars.length) (d := d) (j := j) r0 (k := (t2 (nm b (j + 1) P5) - k).toNat) (by omega); have hkl : (drK b vs.length ars.length d j (t2 (nm b (j + 1) P5) - k).toNat).1.length = (t2 (nm b (j + 1) P5) - k).toNat := aX8 _ _ _; refine wp_seq (wp_seq (k8 G d9 [(48, bA (decide (k > 0)))] fun G => b6 (rcD G (fun h4 q4 => ?_) fun h4 q4 => ?_)))
     · refine wp_exit (s7 (s7 (r8 (b6 (wp_seq (j8 G d9 [0, 1, 2, 3, 4, 6, 8] [.box [.ref 1, iA (aF3 b vs ars d j k).snd], dY b, dI vs, dI ars, dT bd, .box [iA (nm b (j + 1) P5), iA 0, .tref 6], .tree (D.exprs (aF3 b vs ars d j k).fst)] [(6, .ptr 5 0)] fun G => b6 (wp_ret ?_))))))); exact U2 (.agg [iA (nm b (j + 1) P5), iA 0, .tref 6]) G [0, 1, 2, 3, 4, 6] (by show _ = AV.ren (nth [0, 1, 2, 3, 4, 6]) (az4 b vs ars d j); unfold az4; rw [b91 (m := k) hd (by omega) (by omega) (by omega) (by omega)] <;> rfl) (by show _ = mR [0, 1, 2, 3, 4, 6] (az3 b vs ars bd d j); unfold az3; rw [b91 (m := k) hd (by omega) (by omega) (by omega) (by omega)] <;> rfl)
     · refine wp_skip (b6 (wp_seq (wp_block (O1 G (s8 6 (rg 5) (ih ((drK b (vs.length : Int) (ars.length : Int) d j (t2 (nm b (j + 1) P5) - k).toNat).snd) (n - 1) (by omega) (by omega) (b93 (by omega) (by omega) (by omega) (by omega) r1))) [0, 1, 0, 0, 0, 16, 60, 124, 255, 511, 1023] [0, 1, 2, 3, 4, 5, 6, 7, 73] [.box [.ref 1, iA (N9 b (vs.length : Int) (ars.length : Int) d (aF3 b vs ars d j k).snd).snd], dY b, dI vs, dI ars, dT bd, .box (pL 2), aO7, .box [iA (nm b (j + 1) P5), iA 0, .tref 8], .tree (D.exprs ((aF3 b vs ars d j k).fst ++ [x5 (N9 b (vs.length : Int) (ars.length : Int) d (aF3 b vs ars d j k).snd).fst]))] (ag1 n [(8, .ptr 7 0), (9, iA k)]) ((wO (n - 1)) :: (aP ((drK b (vs.length : Int) (ars.length : Int) d j (t2 (nm b (j + 1) P5) - k).toNat).fst.length + 1) 40 [])) ⟨oW (by omega), (aK (by omega) ci7)⟩ fun G => l0 (b6 (E0 G d9 [(9, iA (k - 1))] [wO (k - 1)] (o1 (by omega)) fun G => b6 ?_)))))); exact I9 G (k - 1) (by omega) (by omega) (rg 9) (by have e1 : ((drK b (vs.length : Int) (ars.length : Int) d j (t2 (nm b (j + 1) P5) - (k - 1)).toNat).snd : Int) = ((N9 b (vs.length : Int) (ars.length : Int) d (drK b (vs.length : Int) (ars.length : Int) d j (t2 (nm b (j + 1) P5) - k).toNat).snd).snd) := (by rw [bn5 (by omega) (by omega)]; done); have e2 : ((drK b (vs.length : Int) (ars.length : Int) d j (t2 (nm b (j + 1) P5) - (k - 1)).toNat).fst : List c6) = ((drK b (vs.length : Int) (ars.length : Int) d j (t2 (nm b (j + 1) P5) - k).toNat).fst ++ [x5 (N9 b (vs.length : Int) (ars.length : Int) d (drK b (vs.length : Int) (ars.length : Int) d j (t2 (nm b (j + 1) P5) - k).toNat).snd).fst]) := (by rw [bn5 (by omega) (by omega)]; (simp only [c6.eta]; done)); (first | rw [e1, e2] | simp only [e1, e2]) <;> rfl)
    ·
     refine wp_seq (wp_seq (k8 G d9 [(28, bA ((ars.length : Int) == 0))] fun G => b6 (J7 G (fun h3 q3 => ?_) fun h3 q3 => ?_)))
     · refine wp_skip (b6 (wp_seq (ag9 G (F9 (t4 5 [0, 1] (t5 b (j + 1 + 1) ((ars.length : Int)) (by omega) (by omega)) (t4 8 (rg 5) (ay2 b (j + 1 + 1 + 1) vs ars bd (by omega) (by omega)) F8)) fz []) [0, 0, 0, 4, 12, 30, 0, 0, 254, 510, 1023, 2047] [0, 1, 2, 3, 4, 5, 6, 79] [.box [.ref 1, iA (j + 1 + 1 + 1 + 2)], dY b, dI vs, dI ars, dT bd, .box (pL 2), .box [iA (nm b (j + 1) P5), iA (pk b (j + 1 + 1) (ars.length : Int)), .tref 7], .tree (D.exprs [x5 (n6 b (vs.length : Int) (j + 1 + 1 + 1))])] (ag1 n [(7, iA (nm b (j + 1) P5))]) fun G => b6 (wp_ret (l6 ?_))))); exact U2 (.agg [iA (nm b (j + 1) P5), iA (pk b (j + 1 + 1) (ars.length : Int)), .tref 7]) G [0, 1, 2, 3, 4, 7] (by show _ = AV.ren (nth [0, 1, 2, 3, 4, 7]) (az4 b vs ars d j); unfold az4; have e1 : ((N9 b (vs.length : Int) (ars.length : Int) (d + 1) j).fst.kind : Int) = (nm b (j + 1) P5) := (by rw [bN4 hd (by omega) (by omega) (by omega)]; (simp only [Int.add_assoc, Int.reduceAdd, c6.eta, c6.kids, c6.kind, c6.value]; omega)); have e2 : ((N9 b (vs.length : Int) (ars.length : Int) (d + 1) j).fst.value : Int) = (pk b (j + 1 + 1) (ars.length : Int)) := (by rw [bN4 hd (by omega) (by omega) (by omega)]; (simp only [Int.add_assoc, Int.reduceAdd, c6.eta, c6.kids, c6.kind, c6.value]; done)); (first | rw [e1, e2] | simp only [e1, e2]) <;> rfl) (by show _ = mR [0, 1, 2, 3, 4, 7] (az3 b vs ars bd d j); unfold az3; have e1 : ((N9 b (vs.length : Int) (ars.length : Int) (d + 1) j).snd : Int) = (j + 1 + 1 + 1 + 2) := (by rw [bN4 hd (by omega) (by omega) (by omega)]; (simp only [Int.add_assoc, Int.reduceAdd, c6.eta, c6.kids, c6.kind, c6.value]; done)); have e2 : ((N9 b (vs.length : Int) (ars.length : Int) (d + 1) j).fst.kids : List c6) = ([x5 (n6 b (vs.length : Int) (j + 1 + 1 + 1))]) := (by rw [bN4 hd (by omega) (by omega) (by omega)]; show [_] = _; simp only [Int.add_assoc, Int.reduceAdd, c6.eta]; done); (first | rw [e1, e2] | simp only [e1, e2]) <;> rfl)
     · refine wp_seq (j8 G (s8 2 (rg 5) (ay2 b (j + 1 + 1) vs ars bd (by omega) (by omega))) [0, 1, 2, 3, 4, 5, 6, 23] [.box [.ref 1, iA (j + 1 + 1 + 2)], dY b, dI vs, dI ars, dT bd, .box (pL 2), .box [iA (n6 b (vs.length : Int) (j + 1 + 1)).kind, iA (n6 b (vs.length : Int) (j + 1 + 1)).value, .tref 7], .tree (D.exprs (n6 b (vs.length : Int) (j + 1 + 1)).kids)] (ag1 n [(7, iA (nm b (j + 1) P5))]) fun G => b6 (wp_ret (l6 (l6 ?_)))); exact U2 (.agg [iA (n6 b (vs.length : Int) (j + 1 + 1)).kind, iA (n6 b (vs.length : Int) (j + 1 + 1)).value, .tref 7]) G [0, 1, 2, 3, 4, 7] (by show _ = AV.ren (nth [0, 1, 2, 3, 4, 7]) (az4 b vs ars d j); unfold az4; have e1 : ((N9 b (vs.length : Int) (ars.length : Int) (d + 1) j).fst.kind : Int) = ((n6 b (vs.length : Int) (j + 1 + 1)).kind) := (by rw [bN5 hd (by omega) (by omega) (by omega)]; (simp only [Int.add_assoc, Int.reduceAdd, c6.eta, c6.kids, c6.kind, c6.value]; done)); have e2 : ((N9 b (vs.length : Int) (ars.length : Int) (d + 1) j).fst.value : Int) = ((n6 b (vs.length : Int) (j + 1 + 1)).value) := (by rw [bN5 hd (by omega) (by omega) (by omega)]; (simp only [Int.add_assoc, Int.reduceAdd, c6.eta, c6.kids, c6.kind, c6.value]; done)); (first | rw [e1, e2] | simp only [e1, e2]) <;> rfl) (by show _ = mR [0, 1, 2, 3, 4, 7] (az3 b vs ars bd d j); unfold az3; have e1 : ((N9 b (vs.length : Int) (ars.length : Int) (d + 1) j).snd : Int) = (j + 1 + 1 + 2) := (by rw [bN5 hd (by omega) (by omega) (by omega)]; (simp only [Int.add_assoc, Int.reduceAdd, c6.eta, c6.kids, c6.kind, c6.value]; done)); have e2 : ((N9 b (vs.length : Int) (ars.length : Int) (d + 1) j).fst : c6) = (n6 b (vs.length : Int) (j + 1 + 1)) := (by rw [bN5 hd (by omega) (by omega) (by omega)]; (simp only [Int.add_assoc, Int.reduceAdd, c6.eta, c6.kids, c6.kind, c6.value]; done)); (first | rw [e1, e2] | simp only [e1, e2]) <;> rfl)
   · refine wp_seq (j8 G (s8 2 (rg 5) (ay2 b (j + 1) vs ars bd (by omega) (by omega))) [0, 1, 2, 3, 4, 5, 6, 23] [.box [.ref 1, iA (j + 1 + 2)], dY b, dI vs, dI ars, dT bd, .box (pL 2), .box [iA (n6 b (vs.length : Int) (j + 1)).kind, iA (n6 b (vs.length : Int) (j + 1)).value, .tref 7], .tree (D.exprs (n6 b (vs.length : Int) (j + 1)).kids)] (ag1 n []) fun G => b6 (wp_ret (l6 ?_))); exact U2 (.agg [iA (n6 b (vs.length : Int) (j + 1)).kind, iA (n6 b (vs.length : Int) (j + 1)).value, .tref 7]) G [0, 1, 2, 3, 4, 7] (by show _ = AV.ren (nth [0, 1, 2, 3, 4, 7]) (az4 b vs ars d j); unfold az4; rw [bY7 hd (by omega)] <;> rfl) (by show _ = mR [0, 1, 2, 3, 4, 7] (az3 b vs ars bd d j); unfold az3; have e1 : ((N9 b (vs.length : Int) (ars.length : Int) (d + 1) j).snd : Int) = (j + 1 + 2) := (by rw [bY7 hd (by omega)]; (simp only [Int.add_assoc, Int.reduceAdd, c6.eta, c6.kids, c6.kind, c6.value]; done)); rw [e1, bY7 hd (by omega)] <;> rfl)
  · have q0 := dTt h0; exact False.elim (by omega)
theorem bG5 (b : List UInt8) (vs ars : List Int) (bd : List c5) : ∀ (d : Nat) (j n : Int), d ≤ 100 → n = d → 0 ≤ j → j + cE d ≤ 800000000 → j9.ok Tryz.prog (drC b vs ars bd d j n)
 | 0, j, n, _, hn, r0, r1 => bk1 b vs ars bd 0 (by omega) j n hn r0 (by have := aL9 0; omega)
 | 1, j, n, _, hn, r0, r1 => bk1 b vs ars bd 1 (by omega) j n hn r0 (by have := aL9 1; omega)
 | d + 2, j, n, hd, hn, r0, r1 => bJ4 b vs ars bd (d + 1) (by omega) (by omega) (fun j n => bG5 b vs ars bd (d + 1) j n (by omega)) j n hn r0 r1
abbrev smC (b : List UInt8) (vs ars : List Int) (bd : List c5) (j : Int) : j9 := ⟨247, [.ptr 0 0, pA 2], dwS b j vs ars bd, dwS b (x6 b vs.length ars.length j).2 vs ars bd ++ exO (x6 b vs.length ars.length j).1, exA (x6 b vs.length ars.length j).1 5⟩
section
variable {b : List UInt8} {nv na : Nat} {j : Int}
theorem b33 (h : s4 nv na (N9 b nv na (nm b j dpL).toNat (j + 1)).1 = true) : x6 b nv na j = N9 b nv na (nm b j dpL).toNat (j + 1) := if_pos h
theorem b32 (h : s4 nv na (N9 b nv na (nm b j dpL).toNat (j + 1)).1 = false) : x6 b nv na j = (n6 b nv (N9 b nv na (nm b j dpL).toNat (j + 1)).2, (N9 b nv na (nm b j dpL).toNat (j + 1)).2 + 2) := if_neg (by rw [h]; decide)
theorem cc2 (r0 : 0 ≤ j) (r1 : j ≤ 700000000) : cE (nm b j dpL).toNat ≤ 364 := cE4 (dp4 b r0 (by omega)).2.2
end
abbrev ac4 (b : List UInt8) (vs : List Int) (ars : List Int) (j : Int) := N9 b (vs.length : Int) (ars.length : Int) (nm b j dpL).toNat (j + 1)
theorem af6 (b : List UInt8) (vs ars : List Int) (bd : List c5) (j : Int) (r0 : 0 ≤ j) (r1 : j ≤ 700000000) : j9.ok Tryz.prog (smC b vs ars bd j) := by
 have hdr := fun (i n : Int) => bG5 b vs ars bd (nm b j dpL).toNat i n (cj7 (dp4 b r0 (by omega)).2.2 (by omega))
 refine E9 19 Tryz.func247 [.box [.ref 1, iA j], dY b, dI vs, dI ars, dT bd] [(0, .ptr 0 0), (1, pA 2)] fun G => ?_; have hd4 := cc2 (b := b) r0 r1; have hdb := a65 b vs.length ars.length (nm b j dpL).toNat (j + 1); refine wp_seq (j8 G d9 [0, 1, 2, 3, 4, 5, 13] [.box [.ref 1, iA j], dY b, dI vs, dI ars, dT bd, .box (pL 2), .box [iA 0, iA 0, .v (.slice none 0 0)]] [(0, .ptr 0 0), (3, .ptr 5 0), (4, .ptr 6 0)] fun G => b6 (wp_seq (ag9 G (F9 (t4 4 [0, 1, 31] (j9.lend (R1 b j dpL (List.cons_ne_nil _ _) (by assumption) (by omega)) [.no, .no, .row 3]) (t4 5 (rg 5) (hdr (j + 1) (nm b j dpL) (bY9 b (by omega) (by omega)) (by omega) (by omega)) F8)) fz []) [0, 0, 0, 0, 12, 31, 0, 127] [0, 1, 2, 3, 4, 5, 6, 47, 55] [.box [.ref 1, iA (ac4 b vs ars j).snd], dY b, dI vs, dI ars, dT bd, .box (pL 2), .box [iA 0, iA 0, .v (.slice none 0 0)], .tree (D.exprs (ac4 b vs ars j).fst.kids), .box [iA (ac4 b vs ars j).fst.kind, iA (ac4 b vs ars j).fst.value, .tref 7]] [(0, .ptr 0 0), (3, .ptr 5 0), (4, .ptr 6 0), (5, .ptr 8 0)] fun G => b6 (wp_seq (wp_seq (k8 G (s8 2 [2, 3, 4, 7] (j9.lend (bg5 vs ars bd ((N9 b (vs.length : Int) (ars.length : Int) (nm b j dpL).toNat (j + 1)).fst)) [.no, .no, .no, .tree])) [(14, bA (s4 vs.length ars.length (ac4 b vs ars j).fst))] fun G => b6 (rcB (b := s4 vs.length ars.length (N9 b (vs.length : Int) (ars.length : Int) (nm b j dpL).toNat (j + 1)).fst) G (fun h0 => ?_) fun h0 => ?_)))))))
 ·refine wp_skip (b6 (wp_seq (j8 G (s8 2 (rg 5) (ay2 b ((N9 b (vs.length : Int) (ars.length : Int) (nm b j dpL).toNat (j + 1)).snd) vs ars bd (by omega) (by omega))) [0, 1, 2, 3, 4, 6, 25] [.box [.ref 1, iA ((ac4 b vs ars j).snd + 2)], dY b, dI vs, dI ars, dT bd, .box [iA (n6 b (vs.length : Int) (ac4 b vs ars j).snd).kind, iA (n6 b (vs.length : Int) (ac4 b vs ars j).snd).value, .tref 6], .tree (D.exprs (n6 b (vs.length : Int) (ac4 b vs ars j).snd).kids)] [(4, .ptr 5 0)] fun G => b6 (wp_ret ?_)))); exact U2 (.agg [iA (n6 b (vs.length : Int) (N9 b (vs.length : Int) (ars.length : Int) (nm b j dpL).toNat (j + 1)).snd).kind, iA (n6 b (vs.length : Int) (N9 b (vs.length : Int) (ars.length : Int) (nm b j dpL).toNat (j + 1)).snd).value, .tref 6]) G [0, 1, 2, 3, 4, 6] (by show _ = AV.ren (nth [0, 1, 2, 3, 4, 6]) (.agg [iA (x6 b vs.length ars.length j).fst.kind, iA (x6 b vs.length ars.length j).fst.value, .tref 5]); rw [b32 (by with_reducible assumption)] <;> rfl) (by show _ = mR [0, 1, 2, 3, 4, 6] [.box [.ref 1, iA (x6 b vs.length ars.length j).snd], dY b, dI vs, dI ars, dT bd, .tree (D.exprs (x6 b vs.length ars.length j).fst.kids)]; rw [b32 (by with_reducible assumption)] <;> rfl)
 ·refine wp_seq (j8 G d9 (rg 8) [.box [.ref 1, iA (ac4 b vs ars j).snd], dY b, dI vs, dI ars, dT bd, .box (pL 2), .box [iA (ac4 b vs ars j).fst.kind, iA (ac4 b vs ars j).fst.value, .tref 7], .tree (D.exprs (ac4 b vs ars j).fst.kids)] [(0, .ptr 0 0), (3, .ptr 5 0), (4, .ptr 6 0)] fun G => b6 (wp_ret (l6 ?_))); exact U2 (.agg [iA (N9 b (vs.length : Int) (ars.length : Int) (nm b j dpL).toNat (j + 1)).fst.kind, iA (N9 b (vs.length : Int) (ars.length : Int) (nm b j dpL).toNat (j + 1)).fst.value, .tref 7]) G [0, 1, 2, 3, 4, 7] (by show _ = AV.ren (nth [0, 1, 2, 3, 4, 7]) (.agg [iA (x6 b vs.length ars.length j).fst.kind, iA (x6 b vs.length ars.length j).fst.value, .tref 5]); rw [b33 (by with_reducible assumption)] <;> rfl) (by show _ = mR [0, 1, 2, 3, 4, 7] [.box [.ref 1, iA (x6 b vs.length ars.length j).snd], dY b, dI vs, dI ars, dT bd, .tree (D.exprs (x6 b vs.length ars.length j).fst.kids)]; rw [b33 (by with_reducible assumption)] <;> rfl)
abbrev stO (s : c5) : List It := [.tree (.exprs s.index.kids), .tree (.exprs s.value.kids), .tree (.stmts s.body), .tree (.stmts s.els)]
abbrev stA (s : c5) (r : Nat) : AV := .agg [iA s.kind, iA s.target, iA s.index.kind, iA s.index.value, .tref r, iA s.value.kind, iA s.value.value, .tref (r + 1), iA s.count, .tref (r + 2), .tref (r + 3)]
abbrev dsC (b : List UInt8) (vs ars : List Int) (bd : List c5) (d : Nat) (j n : Int) : j9 := ⟨224, [.ptr 0 0, pA 2, iA n], dwS b j vs ars bd, dwS b (C6 b vs.length ars.length d j).2 vs ars bd ++ stO (C6 b vs.length ars.length d j).1, stA (C6 b vs.length ars.length d j).1 5⟩
abbrev dbC (b : List UInt8) (vs ars : List Int) (bd : List c5) (d : Nat) (m : Nat) (j n c : Int) : j9 := ⟨183, [.ptr 0 0, pA 2, iA n, iA c], dwS b j vs ars bd, dwS b (H6 (C6 b vs.length ars.length d) m j).2 vs ars bd ++ [.tree (.stmts (H6 (C6 b vs.length ars.length d) m j).1)], .tref 5⟩
section
variable {b : List UInt8} {nv na d : Nat} {j : Int}
theorem bw5 (h : nm b j M4 = 2) (h1 : 0 < (na : Int)) : C6 b nv na d j = soS b nv na (j + 1) := by
 cases d <;> (rw [C6, if_pos ⟨h, by omega⟩])
theorem b31 (h : nm b j M4 = 3) (h1 : 0 < d) : C6 b nv na (d + 1) j = ifS b nv na (C6 b nv na d) (j + 1) := by
 rw [C6, if_neg (by omega), if_pos ⟨h, by omega⟩]
theorem b30 (h : nm b j M4 = 4) (h1 : 0 < d) : C6 b nv na (d + 1) j = rpS b (C6 b nv na d) (j + 1) := by
 rw [C6, if_neg (by omega), if_neg (by omega), if_pos ⟨h, by omega⟩]
theorem ai4 (h : ¬ (nm b j M4 = 2 ∧ 0 < (na : Int))) (h1 : d < 2 ∨ (¬ nm b j M4 = 3 ∧ ¬ nm b j M4 = 4)) : C6 b nv na d j = dfS b nv na (nm b j M4) (j + 1) := by
 match d, h1 with
 | 0, _ => rw [C6, if_neg (by omega)]
 | d + 1, h1 => rw [C6, if_neg (by omega), if_neg (by omega), if_neg (by omega)]
theorem bZ0 {kd : Int} (h : kd = 5) : dfS b nv na kd j = (⟨5, pk b j nv, noE, (x6 b nv na (j + 1)).1, 0, [], []⟩, (x6 b nv na (j + 1)).2) := by rw [dfS, if_pos h]
theorem a66 {kd : Int} (h : ¬ kd = 5) : dfS b nv na kd j = (⟨1, pk b j nv, noE, (x6 b nv na (j + 1)).1, 0, [], []⟩, (x6 b nv na (j + 1)).2) := by rw [dfS, if_neg h]
end
section
variable (b : List UInt8) {j : Int}
theorem cg3 (r0 : 0 ≤ j) (r1 : j ≤ 1000000000) : 0 ≤ nm b j ibL ∧ nm b j ibL ≤ 2 := aQ1 b (by simp) be2 r0 r1
theorem cg2 (r0 : 0 ≤ j) (r1 : j ≤ 1000000000) : 0 ≤ nm b j ieL ∧ nm b j ieL ≤ 2 := aQ1 b (by simp) be0 r0 r1
theorem cd2 (r0 : 0 ≤ j) (r1 : j ≤ 1000000000) : 0 ≤ nm b j rbL ∧ nm b j rbL ≤ 2 := aQ1 b (by simp) bc0 r0 r1
theorem bP0 (d : Nat) : (d = 0 ∧ cS (d - 1) = 402 ∧ cS d ≤ 2010) ∨ cS d = 402 + 4 * cS (d - 1) := by
 cases d with
 | zero => exact .inl ⟨rfl, rfl, by decide⟩
 | succ d => exact .inr rfl
end
section
variable {b : List UInt8} {nv na d : Nat} {j : Int}
theorem ba5 (h : nm b j M4 = 3) (h1 : 1 < d) : C6 b nv na d j = ifS b nv na (C6 b nv na (d - 1)) (j + 1) := by
 match d, h1 with
 | d + 1, h1 => exact b31 h (by omega)
theorem ba4 (h : nm b j M4 = 4) (h1 : 1 < d) : C6 b nv na d j = rpS b (C6 b nv na (d - 1)) (j + 1) := by
 match d, h1 with
 | d + 1, h1 => exact b30 h (by omega)
end
abbrev bP6 (b : List UInt8) (vs : List Int) (ars : List Int) (d : Nat) (j : Int) (k : Nat) := C6 b vs.length ars.length d (H6 (C6 b vs.length ars.length d) k j).snd
abbrev aZ0 (n : Int) (c : Int) (r0 : List (Nat × AV)) : List (Nat × AV) := (0, .ptr 0 0) :: (2, iA n) :: (3, iA c) :: (5, .ptr 5 0) :: (8, .v (.slice none 0 0)) :: r0
theorem bJ5 (b : List UInt8) (vs ars : List Int) (bd : List c5) (d m : Nat) (ih : ∀ (j n : Int), n = d → 0 ≤ j → j + cS d ≤ 600000000 → j9.ok Tryz.prog (dsC b vs ars bd d j n)) (j n c : Int) (hn : n = d) (hm : c = m) (hm2 : m ≤ 4) (B : Int) (hB : (m : Int) * cS d ≤ B) (r0 : 0 ≤ j) (r1 : j + B ≤ 600000000) : j9.ok Tryz.prog (dbC b vs ars bd d m j n c) := by
 refine E9 25 Tryz.func183 [.box [.ref 1, iA j], dY b, dI vs, dI ars, dT bd] [(0, .ptr 0 0), (1, pA 2), (2, iA n), (3, iA c)] fun G => ?_; have hc := aA8 d; refine wp_seq (j8 G d9 (rg 6) [.box [.ref 1, iA j], dY b, dI vs, dI ars, dT bd, .box (pL 2)] (aZ0 n c []) fun G => b6 (wp_seq (j8 G d9 (rg 7) [.box [.ref 1, iA j], dY b, dI vs, dI ars, dT bd, .box (pL 2), .tree (D.stmts [])] (aZ0 n c [(9, .tref 6)]) fun G => b6 (wp_seq (wp_seq (D2 G d9 (aZ0 n c [(9, .tref 6), (10, iA 0)]) fun G => b6 (wp_block ?_))))))); refine t0 (κ := Nat) (fun k => k ≤ m) (fun k => m - k) (fun k => [.box [.ref 1, iA (H6 (C6 b vs.length ars.length d) k j).2], dY b, dI vs, dI ars, dT bd, .box (pL 2), .tree (.stmts (H6 (C6 b vs.length ars.length d) k j).1)]) (fun k => [(0, .ptr 0 0), (2, iA n), (3, iA c), (5, .ptr 5 0), (8, .v (.slice none 0 0)), (9, .tref 6), (10, iA k)]) 0 (by omega) (t7.at G _ _) ?_; clear G; intro k ρ a w hp G; replace G := t7.at G [.box [.ref 1, iA (H6 (C6 b vs.length ars.length d) k j).snd], dY b, dI vs, dI ars, dT bd, .box (pL 2), .tree (D.stmts (H6 (C6 b vs.length ars.length d) k j).fst)] (aZ0 n c [(9, .tref 6), (10, iA k)]); have hkb := bS8 b vs.length ars.length (k := j) (i := k) hB (by omega) r0 (by omega); have hkl : (H6 (C6 b vs.length ars.length d) k j).1.length = k := aX8 _ _ _; refine wp_seq (wp_seq (k8 G d9 [(14, bA (decide ((k : Int) < c)))] fun G => b6 (rcD G (fun h0 q0 => ?_) fun h0 q0 => ?_)))
 ·refine wp_exit (s7 (s7 (r8 (b6 (wp_seq (j8 G d9 [0, 1, 2, 3, 4, 6] [.box [.ref 1, iA (H6 (C6 b vs.length ars.length d) k j).snd], dY b, dI vs, dI ars, dT bd, .tree (D.stmts (H6 (C6 b vs.length ars.length d) k j).fst)] [(8, .tref 5)] fun G => b6 (wp_ret ?_))))))); exact K8 G (rg 6) (by show _ = mR (rg 6) [.box [.ref 1, iA (H6 (C6 b vs.length ars.length d) m j).snd], dY b, dI vs, dI ars, dT bd, .tree (D.stmts (H6 (C6 b vs.length ars.length d) m j).fst)]; rw [show m = k by omega] <;> rfl)
 ·refine wp_skip (b6 (wp_seq (wp_block (N7 G (s8 4 (rg 5) (ih ((H6 (C6 b vs.length ars.length d) k j).snd) n (by assumption) (by omega) (by have := ca7 b vs.length ars.length (k := j) (i := k) hB (by omega) r0 (by omega); omega))) [0, 1, 2, 3, 4, 5, 55] [.box [.ref 1, iA (bP6 b vs ars d j k).snd], dY b, dI vs, dI ars, dT bd, .box (pL 2), .tree (D.stmts ((H6 (C6 b vs.length ars.length d) k j).fst ++ [qzS (bP6 b vs ars d j k).fst]))] (aZ0 n c [(9, .tref 6), (10, iA k)]) (aP ((H6 (C6 b vs.length ars.length d) k j).fst.length + 1) 152 []) (aK (by omega) ci7) fun G => l0 (b6 (E0 G d9 [(10, iA ((k : Int) + 1))] [wO ((k : Int) + 1)] (o1 (by omega)) fun G => b6 ?_)))))); exact I9 G (k + 1) (by omega) (by omega) (rg 7) (by have e1 : ((H6 (C6 b vs.length ars.length d) (k + 1) j).fst : List c5) = ((H6 (C6 b vs.length ars.length d) k j).fst ++ [qzS (C6 b vs.length ars.length d (H6 (C6 b vs.length ars.length d) k j).snd).fst]) := (by show _ ++ [_] = _ ++ [_]; unfold qzS; rw [c6.eta, c6.eta, c5.eta]; done); (first | rw [e1] | simp only [e1]) <;> rfl)
abbrev aO6 (b : List UInt8) (vs : List Int) (ars : List Int) (d : Nat) (j : Int) := H6 (C6 b vs.length ars.length (d - 1)) (nm b (x6 b vs.length ars.length (j + 1)).snd ibL).toNat ((x6 b vs.length ars.length (j + 1)).snd + 1)
abbrev bi6 (b : List UInt8) (vs : List Int) (ars : List Int) (d : Nat) (j : Int) := H6 (C6 b vs.length ars.length (d - 1)) (nm b (aO6 b vs ars d j).snd ieL).toNat ((aO6 b vs ars d j).snd + 1)
abbrev X1 (b : List UInt8) (vs : List Int) (ars : List Int) (d : Nat) (j : Int) : AV := (.agg [iA (C6 b vs.length ars.length d j).fst.kind, iA (C6 b vs.length ars.length d j).fst.target, iA (C6 b vs.length ars.length d j).fst.index.kind, iA (C6 b vs.length ars.length d j).fst.index.value, .tref 5, iA (C6 b vs.length ars.length d j).fst.value.kind, iA (C6 b vs.length ars.length d j).fst.value.value, .tref 6, iA (C6 b vs.length ars.length d j).fst.count, .tref 7, .tref 8])
abbrev X0 (b : List UInt8) (vs : List Int) (ars : List Int) (bd : List c5) (d : Nat) (j : Int) : List It := [.box [.ref 1, iA (C6 b vs.length ars.length d j).snd], dY b, dI vs, dI ars, dT bd, .tree (D.exprs (C6 b vs.length ars.length d j).fst.index.kids), .tree (D.exprs (C6 b vs.length ars.length d j).fst.value.kids), .tree (D.stmts (C6 b vs.length ars.length d j).fst.body), .tree (D.stmts (C6 b vs.length ars.length d j).fst.els)]
abbrev ar7 : It := .box [iA 0, iA 0, iA 0, iA 0, .v (.slice none 0 0), iA 0, iA 0, .v (.slice none 0 0), iA 0, .v (.slice none 0 0), .v (.slice none 0 0)]
abbrev bi5 (b : List UInt8) (vs : List Int) (ars : List Int) (j : Int) : It := .box [iA 1, iA (pk b (j + 1) (vs.length : Int)), iA 0, iA 0, .v (.slice none 0 0), iA (x6 b vs.length ars.length (j + 1 + 1)).fst.kind, iA (x6 b vs.length ars.length (j + 1 + 1)).fst.value, .tref 7, iA 0, .v (.slice none 0 0), .v (.slice none 0 0)]
abbrev bi4 (b : List UInt8) (vs : List Int) (ars : List Int) (j : Int) : It := .box [iA 1, iA (pk b (j + 1) (vs.length : Int)), iA 0, iA 0, .v (.slice none 0 0), iA (x6 b vs.length ars.length (j + 1 + 1)).fst.kind, iA (x6 b vs.length ars.length (j + 1 + 1)).fst.value, .tref 6, iA 0, .v (.slice none 0 0), .v (.slice none 0 0)]
abbrev bi3 (b : List UInt8) (vs : List Int) (j : Int) : It := .box [iA 1, iA (pk b (j + 1) (vs.length : Int)), iA 0, iA 0, .v (.slice none 0 0), iA 0, iA 0, .v (.slice none 0 0), iA 0, .v (.slice none 0 0), .v (.slice none 0 0)]
abbrev ao2 (b : List UInt8) (vs : List Int) (ars : List Int) (j : Int) : It := .tree (D.exprs (x6 b vs.length ars.length (j + 1 + 1)).fst.kids)
abbrev ab8 (b : List UInt8) (vs : List Int) (ars : List Int) (j : Int) : It := .box [.ref 1, iA (x6 b vs.length ars.length (j + 1 + 1)).snd]
abbrev aT2 : It := .box [iA 1, iA 0, iA 0, iA 0, .v (.slice none 0 0), iA 0, iA 0, .v (.slice none 0 0), iA 0, .v (.slice none 0 0), .v (.slice none 0 0)]
abbrev bh6 (b : List UInt8) (vs : List Int) (ars : List Int) (bd : List c5) (j : Int) (r0 : List It) : List It := .box [.ref 1, iA (x6 b vs.length ars.length (j + 1 + 1)).snd] :: dY b :: dI vs :: dI ars :: dT bd :: .box [iA 1, iA (pk b (j + 1) (vs.length : Int)), iA 0, iA 0, .tref 7, iA (x6 b vs.length ars.length (j + 1 + 1)).fst.kind, iA (x6 b vs.length ars.length (j + 1 + 1)).fst.value, .tref 6, iA 0, .tref 8, .tref 9] :: .tree (D.exprs (x6 b vs.length ars.length (j + 1 + 1)).fst.kids) :: .tree (D.exprs []) :: .tree (D.stmts []) :: r0
abbrev bh5 (b : List UInt8) (vs : List Int) (ars : List Int) (bd : List c5) (j : Int) (r0 : List It) : List It := .box [.ref 1, iA (x6 b vs.length ars.length (j + 1 + 1)).snd] :: dY b :: dI vs :: dI ars :: dT bd :: .box [iA 1, iA (pk b (j + 1) (vs.length : Int)), iA 0, iA 0, .tref 7, iA (x6 b vs.length ars.length (j + 1 + 1)).fst.kind, iA (x6 b vs.length ars.length (j + 1 + 1)).fst.value, .tref 6, iA 0, .tref 8, .v (.slice none 0 0)] :: .tree (D.exprs (x6 b vs.length ars.length (j + 1 + 1)).fst.kids) :: .tree (D.exprs []) :: r0
abbrev bh4 (b : List UInt8) (vs : List Int) (ars : List Int) (bd : List c5) (j : Int) (r0 : List It) : List It := .box [.ref 1, iA (x6 b vs.length ars.length (j + 1 + 1)).snd] :: dY b :: dI vs :: dI ars :: dT bd :: .box [iA 1, iA (pk b (j + 1) (vs.length : Int)), iA 0, iA 0, .tref 7, iA (x6 b vs.length ars.length (j + 1 + 1)).fst.kind, iA (x6 b vs.length ars.length (j + 1 + 1)).fst.value, .tref 6, iA 0, .v (.slice none 0 0), .v (.slice none 0 0)] :: .tree (D.exprs (x6 b vs.length ars.length (j + 1 + 1)).fst.kids) :: r0
abbrev aa8 (r0 : List (Nat × AV)) : List (Nat × AV) := (0, .ptr 0 0) :: (4, .ptr 5 0) :: (6, .ptr 6 0) :: (8, .ptr 7 0) :: r0
abbrev aY9 (b : List UInt8) (vs : List Int) (ars : List Int) (d : Nat) (j : Int) (r0 : List It) : List It := .box [.ref 1, iA (H6 (C6 b vs.length ars.length (d - 1)) (nm b (j + 1 + 1) rbL).toNat (j + 1 + 1 + 1)).snd] :: dY b :: dI vs :: dI ars :: r0
abbrev ar6 (n : Int) (r0 : List (Nat × AV)) : List (Nat × AV) := (0, .ptr 0 0) :: (2, iA n) :: (4, .ptr 5 0) :: (6, .ptr 6 0) :: r0
abbrev U7 (b : List UInt8) (vs : List Int) (ars : List Int) (bd : List c5) (r0 : List It) : List It := dY b :: dI vs :: dI ars :: dT bd :: .box (pL 2) :: ar7 :: r0
abbrev bh3 (b : List UInt8) (vs : List Int) (ars : List Int) (j : Int) (r0 : List It) : List It := .tree (D.exprs (n6 b (vs.length : Int) (j + 1 + 1)).kids) :: .tree (D.exprs (x6 b vs.length ars.length (j + 1 + 1 + 2)).fst.kids) :: r0
theorem bx2 (b : List UInt8) (vs ars : List Int) (bd : List c5) (d : Nat) (hd : d ≤ 3) (ih : ∀ (j n c : Int), 1 < d → n = (d : Int) - 1 → 0 ≤ c → c ≤ 2 → 0 ≤ j → j + 2 * cS (d - 1) ≤ 600000000 → j9.ok Tryz.prog (dbC b vs ars bd (d - 1) c.toNat j n c)) (j n : Int) (hn : n = d) (r0 : 0 ≤ j) (r1 : j + cS d ≤ 600000000) : j9.ok Tryz.prog (dsC b vs ars bd d j n) := by
  refine E9 100 Tryz.func224 [.box [.ref 1, iA j], dY b, dI vs, dI ars, dT bd] [(0, .ptr 0 0), (1, pA 2), (2, iA n)] fun G => ?_; have hc := aA8 (d - 1); have hcd := bP0 d; have hcn := aA8 d; have hsm := bj8 b vs.length ars.length (k := j + 1) (by omega) (by omega); have hib := cg3 b (j := (x6 b vs.length ars.length (j + 1)).2) (by omega) (by omega); have hbb := bS8 b vs.length ars.length (k := (x6 b vs.length ars.length (j + 1)).2 + 1) (i := (nm b (x6 b vs.length ars.length (j + 1)).2 ibL).toNat) (b60 hib.1 hib.2 (show 0 ≤ cS (d - 1) by omega)) (ch9 _) (by omega) (by omega); have hie := cg2 b (j := (H6 (C6 b vs.length ars.length (d - 1)) (nm b (x6 b vs.length ars.length (j + 1)).2 ibL).toNat ((x6 b vs.length ars.length (j + 1)).2 + 1)).2) (by omega) (by omega); have hrb := cd2 b (j := j + 1 + 1) (by omega) (by omega); refine wp_seq (j8 G d9 [0, 1, 2, 3, 4, 5, 13] (.box [.ref 1, iA j] :: (U7 b vs ars bd [])) (ar6 n []) fun G => b6 (wp_seq (j8 G (s8 2 [0, 1, 15] (j9.lend (R1 b j M4 (List.cons_ne_nil _ _) (by assumption) (by omega)) [.no, .no, .row 3])) (rg 7) (.box [.ref 1, iA (j + 1)] :: (U7 b vs ars bd [])) (ar6 n [(7, iA (nm b j M4))]) fun G => b6 (wp_seq (j8 G d9 [0, 1, 2, 3, 4, 5, 6, 23] (.box [.ref 1, iA (j + 1)] :: (U7 b vs ars bd [.box [iA (nm b j M4), iA 0, iA 0, iA 0, .v (.slice none 0 0), iA 0, iA 0, .v (.slice none 0 0), iA 0, .v (.slice none 0 0), .v (.slice none 0 0)]])) (ar6 n [(7, iA (nm b j M4)), (8, .ptr 7 0)]) fun G => b6 (wp_seq (wp_block (wp_seq ?_)))))))); cases h0 : (nm b j M4 == 2)
  ·
   have q0 := ne_of_beq_false h0; refine k8 G (J1 (fc h0 fz) (us [(3, 6, 0), (1007, 1007, 0)])) [(27, bA false)] fun G => b6 (rF G false (by kernel_rfl) (wp_seq ?_)); cases h1 : (nm b j M4 == 3)
   ·
    have q1 := ne_of_beq_false h1; refine k8 G (J1 (fc h1 fz) [(3, 0), (4, 0), (1005, 0)]) [(50, bA false)] fun G => b6 (rF G false (by kernel_rfl) (wp_seq ?_)); cases h2 : (nm b j M4 == 4)
    ·
     have q2 := ne_of_beq_false h2; refine k8 G (J1 (fc h2 fz) [(3, 0), (4, 0), (1005, 0)]) [(79, bA false)] fun G => b6 (rF G false (by kernel_rfl) (wp_seq (wp_seq (k8 G d9 [(15, bA (nm b j M4 != 5))] fun G => b6 (rcN G (fun h3 q3 => ?_) fun h3 q3 => ?_)))))
     · refine wp_skip (b6 (wp_seq (j8 G (s8 4 [0, 1] (t5 b (j + 1) ((vs.length : Int)) (by omega) (by omega))) (rg 8) (.box [.ref 1, iA (j + 1 + 1)] :: (U7 b vs ars bd [.box [iA (nm b j M4), iA (pk b (j + 1) (vs.length : Int)), iA 0, iA 0, .v (.slice none 0 0), iA 0, iA 0, .v (.slice none 0 0), iA 0, .v (.slice none 0 0), .v (.slice none 0 0)]])) (aa8 []) fun G => b6 (j8 G (s8 2 (rg 5) (af6 b vs ars bd (j + 1 + 1) (by omega) (by omega))) [0, 1, 2, 3, 4, 6, 7, 24] [ab8 b vs ars j, dY b, dI vs, dI ars, dT bd, ar7, .box [iA (nm b j M4), iA (pk b (j + 1) (vs.length : Int)), iA 0, iA 0, .v (.slice none 0 0), iA (x6 b vs.length ars.length (j + 1 + 1)).fst.kind, iA (x6 b vs.length ars.length (j + 1 + 1)).fst.value, .tref 7, iA 0, .v (.slice none 0 0), .v (.slice none 0 0)], ao2 b vs ars j] [(6, .ptr 5 0), (8, .ptr 6 0)] fun G => l0 (b6 (wp_seq (j8 G d9 [0, 1, 2, 3, 4, 5, 7] [ab8 b vs ars j, dY b, dI vs, dI ars, dT bd, .box [iA (nm b j M4), iA (pk b (j + 1) (vs.length : Int)), iA 0, iA 0, .v (.slice none 0 0), iA (x6 b vs.length ars.length (j + 1 + 1)).fst.kind, iA (x6 b vs.length ars.length (j + 1 + 1)).fst.value, .tref 6, iA 0, .v (.slice none 0 0), .v (.slice none 0 0)], ao2 b vs ars j] [(6, .ptr 5 0)] fun G => b6 (wp_ret ?_)))))))); obtain ⟨ρ, G⟩ := G.nilT 7 (.exprs []) [.box [.ref 1, iA (x6 b vs.length ars.length (j + 1 + 1)).snd], dY b, dI vs, dI ars, dT bd, .box [iA (nm b j M4), iA (pk b (j + 1) (vs.length : Int)), iA 0, iA 0, .tref 7, iA (x6 b vs.length ars.length (j + 1 + 1)).fst.kind, iA (x6 b vs.length ars.length (j + 1 + 1)).fst.value, .tref 6, iA 0, .v (.slice none 0 0), .v (.slice none 0 0)], .tree (D.exprs (x6 b vs.length ars.length (j + 1 + 1)).fst.kids)] [(6, .ptr 5 0)]; obtain ⟨ρ, G⟩ := G.nilT 8 (.stmts []) [.box [.ref 1, iA (x6 b vs.length ars.length (j + 1 + 1)).snd], dY b, dI vs, dI ars, dT bd, .box [iA (nm b j M4), iA (pk b (j + 1) (vs.length : Int)), iA 0, iA 0, .tref 7, iA (x6 b vs.length ars.length (j + 1 + 1)).fst.kind, iA (x6 b vs.length ars.length (j + 1 + 1)).fst.value, .tref 6, iA 0, .tref 8, .v (.slice none 0 0)], .tree (D.exprs (x6 b vs.length ars.length (j + 1 + 1)).fst.kids), .tree (D.exprs [])] [(6, .ptr 5 0)]; obtain ⟨ρ, G⟩ := G.nilT 9 (.stmts []) [.box [.ref 1, iA (x6 b vs.length ars.length (j + 1 + 1)).snd], dY b, dI vs, dI ars, dT bd, .box [iA (nm b j M4), iA (pk b (j + 1) (vs.length : Int)), iA 0, iA 0, .tref 7, iA (x6 b vs.length ars.length (j + 1 + 1)).fst.kind, iA (x6 b vs.length ars.length (j + 1 + 1)).fst.value, .tref 6, iA 0, .tref 8, .tref 9], .tree (D.exprs (x6 b vs.length ars.length (j + 1 + 1)).fst.kids), .tree (D.exprs []), .tree (D.stmts [])] [(6, .ptr 5 0)]; exact U2 (.agg [iA (nm b j M4), iA (pk b (j + 1) (vs.length : Int)), iA 0, iA 0, .tref 7, iA (x6 b vs.length ars.length (j + 1 + 1)).fst.kind, iA (x6 b vs.length ars.length (j + 1 + 1)).fst.value, .tref 6, iA 0, .tref 8, .tref 9]) G [0, 1, 2, 3, 4, 7, 6, 8, 9] (by show _ = AV.ren (nth [0, 1, 2, 3, 4, 7, 6, 8, 9]) (X1 b vs ars d j); unfold X1; have e1 : ((C6 b vs.length ars.length d j).fst.kind : Int) = (nm b j M4) := (by rw [ai4 (by omega) (by omega), bZ0 (by omega)]; show (5 : Int) = _; omega); rw [e1, ai4 (by omega) (by omega), bZ0 (by omega)] <;> rfl) (by show _ = mR [0, 1, 2, 3, 4, 7, 6, 8, 9] (X0 b vs ars bd d j); unfold X0; rw [ai4 (by omega) (by omega), bZ0 (by omega)] <;> rfl)
     · refine j8 G d9 (rg 8) (.box [.ref 1, iA (j + 1)] :: (U7 b vs ars bd [aT2])) (aa8 []) fun G => b6 (wp_seq (j8 G (s8 4 [0, 1] (t5 b (j + 1) ((vs.length : Int)) (by omega) (by omega))) (rg 8) (.box [.ref 1, iA (j + 1 + 1)] :: (U7 b vs ars bd [bi3 b vs j])) (aa8 []) fun G => b6 (j8 G (s8 2 (rg 5) (af6 b vs ars bd (j + 1 + 1) (by omega) (by omega))) [0, 1, 2, 3, 4, 6, 7, 24] [ab8 b vs ars j, dY b, dI vs, dI ars, dT bd, ar7, bi5 b vs ars j, ao2 b vs ars j] [(6, .ptr 5 0), (8, .ptr 6 0)] fun G => l0 (b6 (wp_seq (j8 G d9 [0, 1, 2, 3, 4, 5, 7] [ab8 b vs ars j, dY b, dI vs, dI ars, dT bd, bi4 b vs ars j, ao2 b vs ars j] [(6, .ptr 5 0)] fun G => b6 (wp_ret ?_))))))); obtain ⟨ρ, G⟩ := G.nilT 7 (.exprs []) (bh4 b vs ars bd j []) [(6, .ptr 5 0)]; obtain ⟨ρ, G⟩ := G.nilT 8 (.stmts []) (bh5 b vs ars bd j []) [(6, .ptr 5 0)]; obtain ⟨ρ, G⟩ := G.nilT 9 (.stmts []) (bh6 b vs ars bd j []) [(6, .ptr 5 0)]; exact U2 (.agg [iA 1, iA (pk b (j + 1) (vs.length : Int)), iA 0, iA 0, .tref 7, iA (x6 b vs.length ars.length (j + 1 + 1)).fst.kind, iA (x6 b vs.length ars.length (j + 1 + 1)).fst.value, .tref 6, iA 0, .tref 8, .tref 9]) G [0, 1, 2, 3, 4, 7, 6, 8, 9] (by show _ = AV.ren (nth [0, 1, 2, 3, 4, 7, 6, 8, 9]) (X1 b vs ars d j); unfold X1; rw [ai4 (by omega) (by omega), a66 (by omega)] <;> rfl) (by show _ = mR [0, 1, 2, 3, 4, 7, 6, 8, 9] (X0 b vs ars bd d j); unfold X0; rw [ai4 (by omega) (by omega), a66 (by omega)] <;> rfl)
    ·
     have q2 := eq_of_beq h2; refine k8 G (J1 (fc h2 fz) [(3, 0), (4, 0), (1005, 0)]) [(79, bA (decide (n > 1)))] fun G => b6 (rcD G (fun h4 q4 => ?_) fun h4 q4 => ?_)
     ·
      refine wp_seq (wp_seq (D2 G d9 (aa8 [(15, bA (nm b j M4 != 5))]) fun G => b6 ?_)); cases h5 : (nm b j M4 != 5)
      · have q5 := bne_eq_false_iff_eq.1 h5; exact False.elim (by omega)
      · have q5 := bne_iff_ne.1 h5; refine rT G _ h5 (j8 G d9 (rg 8) (.box [.ref 1, iA (j + 1)] :: (U7 b vs ars bd [aT2])) (aa8 []) fun G => b6 (wp_seq (j8 G (s8 4 [0, 1] (t5 b (j + 1) ((vs.length : Int)) (by omega) (by omega))) (rg 8) (.box [.ref 1, iA (j + 1 + 1)] :: (U7 b vs ars bd [bi3 b vs j])) (aa8 []) fun G => b6 (j8 G (s8 2 (rg 5) (af6 b vs ars bd (j + 1 + 1) (by omega) (by omega))) [0, 1, 2, 3, 4, 6, 7, 24] [ab8 b vs ars j, dY b, dI vs, dI ars, dT bd, ar7, bi5 b vs ars j, ao2 b vs ars j] [(6, .ptr 5 0), (8, .ptr 6 0)] fun G => l0 (b6 (wp_seq (j8 G d9 [0, 1, 2, 3, 4, 5, 7] [ab8 b vs ars j, dY b, dI vs, dI ars, dT bd, bi4 b vs ars j, ao2 b vs ars j] [(6, .ptr 5 0)] fun G => b6 (wp_ret ?_)))))))); obtain ⟨ρ, G⟩ := G.nilT 7 (.exprs []) (bh4 b vs ars bd j []) [(6, .ptr 5 0)]; obtain ⟨ρ, G⟩ := G.nilT 8 (.stmts []) (bh5 b vs ars bd j []) [(6, .ptr 5 0)]; obtain ⟨ρ, G⟩ := G.nilT 9 (.stmts []) (bh6 b vs ars bd j []) [(6, .ptr 5 0)]; exact U2 (.agg [iA 1, iA (pk b (j + 1) (vs.length : Int)), iA 0, iA 0, .tref 7, iA (x6 b vs.length ars.length (j + 1 + 1)).fst.kind, iA (x6 b vs.length ars.length (j + 1 + 1)).fst.value, .tref 6, iA 0, .tref 8, .tref 9]) G [0, 1, 2, 3, 4, 7, 6, 8, 9] (by show _ = AV.ren (nth [0, 1, 2, 3, 4, 7, 6, 8, 9]) (X1 b vs ars d j); unfold X1; rw [ai4 (by omega) (by omega), a66 (by omega)] <;> rfl) (by show _ = mR [0, 1, 2, 3, 4, 7, 6, 8, 9] (X0 b vs ars bd d j); unfold X0; rw [ai4 (by omega) (by omega), a66 (by omega)] <;> rfl)
     · refine wp_seq (j8 G (s8 2 [0, 1, 16] (j9.lend (R1 b (j + 1) rcL (by simp [h0, h1, h2, h4]) (by omega) (by omega)) [.no, .no, .row 3])) (rg 8) (.box [.ref 1, iA (j + 1 + 1)] :: (U7 b vs ars bd [.box [iA (nm b j M4), iA 0, iA 0, iA 0, .v (.slice none 0 0), iA 0, iA 0, .v (.slice none 0 0), iA (nm b (j + 1) rcL), .v (.slice none 0 0), .v (.slice none 0 0)]])) (ar6 n [(8, .ptr 7 0)]) fun G => b6 (O1 G (F9 (t4 6 [0, 1, 48] (j9.lend (R1 b (j + 1 + 1) rbL (by simp [h0, h1, h2, h4]) (by omega) (by omega)) [.no, .no, .row 3]) (t4 7 (rg 5) (ih (j + 1 + 1 + 1) (n - 1) (nm b (j + 1 + 1) rbL) (by omega) (by omega) (by omega) (by omega) (by omega) (by omega)) F8)) fz []) [0, 0, 0, 4, 0, 0, 48, 127, 255, 511] [0, 1, 2, 3, 4, 6, 7, 64] (aY9 b vs ars d j [dT bd, ar7, .box [iA (nm b j M4), iA 0, iA 0, iA 0, .v (.slice none 0 0), iA 0, iA 0, .v (.slice none 0 0), iA (nm b (j + 1) rcL), .tref 7, .v (.slice none 0 0)], .tree (D.stmts (H6 (C6 b vs.length ars.length (d - 1)) (nm b (j + 1 + 1) rbL).toNat (j + 1 + 1 + 1)).fst)]) [(6, .ptr 5 0), (8, .ptr 6 0)] [wO (n - 1)] (o1 (by omega)) fun G => l0 (b6 (wp_seq (j8 G d9 [0, 1, 2, 3, 4, 5, 7] (aY9 b vs ars d j [dT bd, .box [iA (nm b j M4), iA 0, iA 0, iA 0, .v (.slice none 0 0), iA 0, iA 0, .v (.slice none 0 0), iA (nm b (j + 1) rcL), .tref 6, .v (.slice none 0 0)], .tree (D.stmts (H6 (C6 b vs.length ars.length (d - 1)) (nm b (j + 1 + 1) rbL).toNat (j + 1 + 1 + 1)).fst)]) [(6, .ptr 5 0)] fun G => b6 (wp_ret ?_)))))); obtain ⟨ρ, G⟩ := G.nilT 7 (.exprs []) (aY9 b vs ars d j [dT bd, .box [iA (nm b j M4), iA 0, iA 0, iA 0, .tref 7, iA 0, iA 0, .v (.slice none 0 0), iA (nm b (j + 1) rcL), .tref 6, .v (.slice none 0 0)], .tree (D.stmts (H6 (C6 b vs.length ars.length (d - 1)) (nm b (j + 1 + 1) rbL).toNat (j + 1 + 1 + 1)).fst)]) [(6, .ptr 5 0)]; obtain ⟨ρ, G⟩ := G.nilT 8 (.exprs []) (aY9 b vs ars d j [dT bd, .box [iA (nm b j M4), iA 0, iA 0, iA 0, .tref 7, iA 0, iA 0, .tref 8, iA (nm b (j + 1) rcL), .tref 6, .v (.slice none 0 0)], .tree (D.stmts (H6 (C6 b vs.length ars.length (d - 1)) (nm b (j + 1 + 1) rbL).toNat (j + 1 + 1 + 1)).fst), .tree (D.exprs [])]) [(6, .ptr 5 0)]; obtain ⟨ρ, G⟩ := G.nilT 9 (.stmts []) (aY9 b vs ars d j [dT bd, .box [iA (nm b j M4), iA 0, iA 0, iA 0, .tref 7, iA 0, iA 0, .tref 8, iA (nm b (j + 1) rcL), .tref 6, .tref 9], .tree (D.stmts (H6 (C6 b vs.length ars.length (d - 1)) (nm b (j + 1 + 1) rbL).toNat (j + 1 + 1 + 1)).fst), .tree (D.exprs []), .tree (D.exprs [])]) [(6, .ptr 5 0)]; exact U2 (.agg [iA (nm b j M4), iA 0, iA 0, iA 0, .tref 7, iA 0, iA 0, .tref 8, iA (nm b (j + 1) rcL), .tref 6, .tref 9]) G [0, 1, 2, 3, 4, 7, 8, 6, 9] (by show _ = AV.ren (nth [0, 1, 2, 3, 4, 7, 8, 6, 9]) (X1 b vs ars d j); unfold X1; have e1 : ((C6 b vs.length ars.length d j).fst.kind : Int) = (nm b j M4) := (by rw [ba4 (by omega) (by omega)]; show (4 : Int) = _; omega); rw [e1, ba4 (by omega) (by omega)] <;> rfl) (by show _ = mR [0, 1, 2, 3, 4, 7, 8, 6, 9] (X0 b vs ars bd d j); unfold X0; rw [ba4 (by omega) (by omega)] <;> rfl)
   ·
    have q1 := eq_of_beq h1; refine D2 G (J1 (fc h1 fz) [(3, 0), (4, 0), (1005, 0)]) (ar6 n [(7, iA (nm b j M4)), (8, .ptr 7 0), (50, bA (decide (n > 1)))]) fun G => b6 (rcD G (fun h6 q6 => ?_) fun h6 q6 => ?_)
    ·
     refine wp_seq ?_; cases h7 : (nm b j M4 == 4)
     ·
      have q7 := ne_of_beq_false h7; refine k8 G (J1 (fc h7 fz) [(3, 0), (4, 0), (1005, 0)]) [(79, bA false)] fun G => b6 (rF G false (by kernel_rfl) (wp_seq (wp_seq (D2 G d9 (aa8 [(15, bA (nm b j M4 != 5))]) fun G => b6 ?_)))); cases h8 : (nm b j M4 != 5)
      · have q8 := bne_eq_false_iff_eq.1 h8; exact False.elim (by omega)
      · have q8 := bne_iff_ne.1 h8; refine rT G _ h8 (j8 G d9 (rg 8) (.box [.ref 1, iA (j + 1)] :: (U7 b vs ars bd [aT2])) (aa8 []) fun G => b6 (wp_seq (j8 G (s8 4 [0, 1] (t5 b (j + 1) ((vs.length : Int)) (by omega) (by omega))) (rg 8) (.box [.ref 1, iA (j + 1 + 1)] :: (U7 b vs ars bd [bi3 b vs j])) (aa8 []) fun G => b6 (j8 G (s8 2 (rg 5) (af6 b vs ars bd (j + 1 + 1) (by omega) (by omega))) [0, 1, 2, 3, 4, 6, 7, 24] [ab8 b vs ars j, dY b, dI vs, dI ars, dT bd, ar7, bi5 b vs ars j, ao2 b vs ars j] [(6, .ptr 5 0), (8, .ptr 6 0)] fun G => l0 (b6 (wp_seq (j8 G d9 [0, 1, 2, 3, 4, 5, 7] [ab8 b vs ars j, dY b, dI vs, dI ars, dT bd, bi4 b vs ars j, ao2 b vs ars j] [(6, .ptr 5 0)] fun G => b6 (wp_ret ?_)))))))); obtain ⟨ρ, G⟩ := G.nilT 7 (.exprs []) (bh4 b vs ars bd j []) [(6, .ptr 5 0)]; obtain ⟨ρ, G⟩ := G.nilT 8 (.stmts []) (bh5 b vs ars bd j []) [(6, .ptr 5 0)]; obtain ⟨ρ, G⟩ := G.nilT 9 (.stmts []) (bh6 b vs ars bd j []) [(6, .ptr 5 0)]; exact U2 (.agg [iA 1, iA (pk b (j + 1) (vs.length : Int)), iA 0, iA 0, .tref 7, iA (x6 b vs.length ars.length (j + 1 + 1)).fst.kind, iA (x6 b vs.length ars.length (j + 1 + 1)).fst.value, .tref 6, iA 0, .tref 8, .tref 9]) G [0, 1, 2, 3, 4, 7, 6, 8, 9] (by show _ = AV.ren (nth [0, 1, 2, 3, 4, 7, 6, 8, 9]) (X1 b vs ars d j); unfold X1; rw [ai4 (by omega) (by omega), a66 (by omega)] <;> rfl) (by show _ = mR [0, 1, 2, 3, 4, 7, 6, 8, 9] (X0 b vs ars bd d j); unfold X0; rw [ai4 (by omega) (by omega), a66 (by omega)] <;> rfl)
     · have q7 := eq_of_beq h7; exact False.elim (by omega)
    ·
     refine wp_seq (j8 G (s8 2 (rg 5) (af6 b vs ars bd (j + 1) (by omega) (by omega))) [0, 1, 2, 3, 4, 5, 6, 7, 24] (.box [.ref 1, iA (x6 b vs.length ars.length (j + 1)).snd] :: (U7 b vs ars bd [.box [iA (nm b j M4), iA 0, iA 0, iA 0, .v (.slice none 0 0), iA (x6 b vs.length ars.length (j + 1)).fst.kind, iA (x6 b vs.length ars.length (j + 1)).fst.value, .tref 8, iA 0, .v (.slice none 0 0), .v (.slice none 0 0)], .tree (D.exprs (x6 b vs.length ars.length (j + 1)).fst.kids)])) (ar6 n [(8, .ptr 7 0)]) fun G => b6 (wp_seq (O1 G (F9 (t4 6 [0, 1, 49] (j9.lend (R1 b ((x6 b vs.length ars.length (j + 1)).snd) ibL (by simp [h0, h1, h6]) (by omega) (by omega)) [.no, .no, .row 3]) (t4 7 (rg 5) (ih ((x6 b vs.length ars.length (j + 1)).snd + 1) (n - 1) (nm b (x6 b vs.length ars.length (j + 1)).snd ibL) (by omega) (by omega) (by omega) (by omega) (by omega) (by omega)) F8)) fz []) [0, 0, 0, 4, 0, 0, 48, 127, 255, 511] [0, 1, 2, 3, 4, 5, 6, 7, 8, 65] (.box [.ref 1, iA (aO6 b vs ars d j).snd] :: (U7 b vs ars bd [.box [iA (nm b j M4), iA 0, iA 0, iA 0, .v (.slice none 0 0), iA (x6 b vs.length ars.length (j + 1)).fst.kind, iA (x6 b vs.length ars.length (j + 1)).fst.value, .tref 8, iA 0, .tref 9, .v (.slice none 0 0)], .tree (D.exprs (x6 b vs.length ars.length (j + 1)).fst.kids), .tree (D.stmts (aO6 b vs ars d j).fst)])) (ar6 n [(8, .ptr 7 0)]) [wO (n - 1)] (o1 (by omega)) fun G => b6 (O1 G (F9 (t4 6 [0, 1, 50] (j9.lend (R1 b ((H6 (C6 b vs.length ars.length (d - 1)) (nm b (x6 b vs.length ars.length (j + 1)).snd ibL).toNat ((x6 b vs.length ars.length (j + 1)).snd + 1)).snd) ieL (by simp [h0, h1, h6]) (by omega) (by omega)) [.no, .no, .row 3]) (t4 7 (rg 5) (ih ((H6 (C6 b vs.length ars.length (d - 1)) (nm b (x6 b vs.length ars.length (j + 1)).snd ibL).toNat ((x6 b vs.length ars.length (j + 1)).snd + 1)).snd + 1) (n - 1) (nm b (H6 (C6 b vs.length ars.length (d - 1)) (nm b (x6 b vs.length ars.length (j + 1)).snd ibL).toNat ((x6 b vs.length ars.length (j + 1)).snd + 1)).snd ieL) (by omega) (by omega) (by omega) (by omega) (by omega) (by omega)) F8)) fz []) [0, 0, 0, 4, 0, 0, 48, 127, 255, 511] [0, 1, 2, 3, 4, 6, 7, 8, 9, 66] [.box [.ref 1, iA (bi6 b vs ars d j).snd], dY b, dI vs, dI ars, dT bd, ar7, .box [iA (nm b j M4), iA 0, iA 0, iA 0, .v (.slice none 0 0), iA (x6 b vs.length ars.length (j + 1)).fst.kind, iA (x6 b vs.length ars.length (j + 1)).fst.value, .tref 7, iA 0, .tref 8, .tref 9], .tree (D.exprs (x6 b vs.length ars.length (j + 1)).fst.kids), .tree (D.stmts (aO6 b vs ars d j).fst), .tree (D.stmts (bi6 b vs ars d j).fst)] [(6, .ptr 5 0), (8, .ptr 6 0)] [wO (n - 1)] (o1 (by omega)) fun G => l0 (b6 (wp_seq (j8 G d9 [0, 1, 2, 3, 4, 5, 7, 8, 9] [.box [.ref 1, iA (bi6 b vs ars d j).snd], dY b, dI vs, dI ars, dT bd, .box [iA (nm b j M4), iA 0, iA 0, iA 0, .v (.slice none 0 0), iA (x6 b vs.length ars.length (j + 1)).fst.kind, iA (x6 b vs.length ars.length (j + 1)).fst.value, .tref 6, iA 0, .tref 7, .tref 8], .tree (D.exprs (x6 b vs.length ars.length (j + 1)).fst.kids), .tree (D.stmts (aO6 b vs ars d j).fst), .tree (D.stmts (bi6 b vs ars d j).fst)] [(6, .ptr 5 0)] fun G => b6 (wp_ret ?_)))))))); obtain ⟨ρ, G⟩ := G.nilT 9 (.exprs []) [.box [.ref 1, iA (H6 (C6 b vs.length ars.length (d - 1)) (nm b (H6 (C6 b vs.length ars.length (d - 1)) (nm b (x6 b vs.length ars.length (j + 1)).snd ibL).toNat ((x6 b vs.length ars.length (j + 1)).snd + 1)).snd ieL).toNat ((H6 (C6 b vs.length ars.length (d - 1)) (nm b (x6 b vs.length ars.length (j + 1)).snd ibL).toNat ((x6 b vs.length ars.length (j + 1)).snd + 1)).snd + 1)).snd], dY b, dI vs, dI ars, dT bd, .box [iA (nm b j M4), iA 0, iA 0, iA 0, .tref 9, iA (x6 b vs.length ars.length (j + 1)).fst.kind, iA (x6 b vs.length ars.length (j + 1)).fst.value, .tref 6, iA 0, .tref 7, .tref 8], .tree (D.exprs (x6 b vs.length ars.length (j + 1)).fst.kids), .tree (D.stmts (H6 (C6 b vs.length ars.length (d - 1)) (nm b (x6 b vs.length ars.length (j + 1)).snd ibL).toNat ((x6 b vs.length ars.length (j + 1)).snd + 1)).fst), .tree (D.stmts (H6 (C6 b vs.length ars.length (d - 1)) (nm b (H6 (C6 b vs.length ars.length (d - 1)) (nm b (x6 b vs.length ars.length (j + 1)).snd ibL).toNat ((x6 b vs.length ars.length (j + 1)).snd + 1)).snd ieL).toNat ((H6 (C6 b vs.length ars.length (d - 1)) (nm b (x6 b vs.length ars.length (j + 1)).snd ibL).toNat ((x6 b vs.length ars.length (j + 1)).snd + 1)).snd + 1)).fst)] [(6, .ptr 5 0)]
     exact U2 (.agg [iA (nm b j M4), iA 0, iA 0, iA 0, .tref 9, iA (x6 b vs.length ars.length (j + 1)).fst.kind, iA (x6 b vs.length ars.length (j + 1)).fst.value, .tref 6, iA 0, .tref 7, .tref 8]) G [0, 1, 2, 3, 4, 9, 6, 7, 8] (by show _ = AV.ren (nth [0, 1, 2, 3, 4, 9, 6, 7, 8]) (X1 b vs ars d j); unfold X1; have e1 : ((C6 b vs.length ars.length d j).fst.kind : Int) = (nm b j M4) := (by rw [ba5 (by omega) (by omega)]; show (3 : Int) = _; omega); rw [e1, ba5 (by omega) (by omega)] <;> rfl) (by show _ = mR [0, 1, 2, 3, 4, 9, 6, 7, 8] (X0 b vs ars bd d j); unfold X0; rw [ba5 (by omega) (by omega)] <;> rfl)
  ·
   have q0 := eq_of_beq h0; refine D2 G (J1 (fc h0 fz) (us [(3, 6, 0), (1007, 1007, 0)])) (ar6 n [(7, iA (nm b j M4)), (8, .ptr 7 0), (27, bA (decide ((ars.length : Int) > 0)))]) fun G => b6 (rcD G (fun h9 q9 => ?_) fun h9 q9 => ?_)
   ·
    refine wp_seq ?_; cases h10 : (nm b j M4 == 3)
    ·
     have q10 := ne_of_beq_false h10; refine D2 G (J1 (fc h10 fz) [(3, 0), (4, 0), (1005, 0)]) (ar6 n [(7, iA (nm b j M4)), (8, .ptr 7 0), (50, bA false)]) fun G => b6 (rF G false (by kernel_rfl) (wp_seq ?_)); cases h11 : (nm b j M4 == 4)
     ·
      have q11 := ne_of_beq_false h11; refine k8 G (J1 (fc h11 fz) [(3, 0), (4, 0), (1005, 0)]) [(79, bA false)] fun G => b6 (rF G false (by kernel_rfl) (wp_seq (wp_seq (D2 G d9 (aa8 [(15, bA (nm b j M4 != 5))]) fun G => b6 ?_)))); cases h12 : (nm b j M4 != 5)
      · have q12 := bne_eq_false_iff_eq.1 h12; exact False.elim (by omega)
      · have q12 := bne_iff_ne.1 h12; refine rT G _ h12 (j8 G d9 (rg 8) (.box [.ref 1, iA (j + 1)] :: (U7 b vs ars bd [aT2])) (aa8 []) fun G => b6 (wp_seq (j8 G (s8 4 [0, 1] (t5 b (j + 1) ((vs.length : Int)) (by omega) (by omega))) (rg 8) (.box [.ref 1, iA (j + 1 + 1)] :: (U7 b vs ars bd [bi3 b vs j])) (aa8 []) fun G => b6 (j8 G (s8 2 (rg 5) (af6 b vs ars bd (j + 1 + 1) (by omega) (by omega))) [0, 1, 2, 3, 4, 6, 7, 24] [ab8 b vs ars j, dY b, dI vs, dI ars, dT bd, ar7, bi5 b vs ars j, ao2 b vs ars j] [(6, .ptr 5 0), (8, .ptr 6 0)] fun G => l0 (b6 (wp_seq (j8 G d9 [0, 1, 2, 3, 4, 5, 7] [ab8 b vs ars j, dY b, dI vs, dI ars, dT bd, bi4 b vs ars j, ao2 b vs ars j] [(6, .ptr 5 0)] fun G => b6 (wp_ret ?_)))))))); obtain ⟨ρ, G⟩ := G.nilT 7 (.exprs []) (bh4 b vs ars bd j []) [(6, .ptr 5 0)]; obtain ⟨ρ, G⟩ := G.nilT 8 (.stmts []) (bh5 b vs ars bd j []) [(6, .ptr 5 0)]; obtain ⟨ρ, G⟩ := G.nilT 9 (.stmts []) (bh6 b vs ars bd j []) [(6, .ptr 5 0)]; exact U2 (.agg [iA 1, iA (pk b (j + 1) (vs.length : Int)), iA 0, iA 0, .tref 7, iA (x6 b vs.length ars.length (j + 1 + 1)).fst.kind, iA (x6 b vs.length ars.length (j + 1 + 1)).fst.value, .tref 6, iA 0, .tref 8, .tref 9]) G [0, 1, 2, 3, 4, 7, 6, 8, 9] (by show _ = AV.ren (nth [0, 1, 2, 3, 4, 7, 6, 8, 9]) (X1 b vs ars d j); unfold X1; rw [ai4 (by omega) (by omega), a66 (by omega)] <;> rfl) (by show _ = mR [0, 1, 2, 3, 4, 7, 6, 8, 9] (X0 b vs ars bd d j); unfold X0; rw [ai4 (by omega) (by omega), a66 (by omega)] <;> rfl)
     · have q11 := eq_of_beq h11; exact False.elim (by omega)
    · have q10 := eq_of_beq h10; exact False.elim (by omega)
   ·
    refine wp_seq (j8 G (s8 4 [0, 1] (t5 b (j + 1) ((ars.length : Int)) (by omega) (by omega))) (rg 8) (.box [.ref 1, iA (j + 1 + 1)] :: (U7 b vs ars bd [.box [iA (nm b j M4), iA (pk b (j + 1) (ars.length : Int)), iA 0, iA 0, .v (.slice none 0 0), iA 0, iA 0, .v (.slice none 0 0), iA 0, .v (.slice none 0 0), .v (.slice none 0 0)]])) (aa8 []) fun G => b6 (wp_seq (j8 G (s8 2 (rg 5) (ay2 b (j + 1 + 1) vs ars bd (by omega) (by omega))) [0, 1, 2, 3, 4, 5, 6, 7, 24] (.box [.ref 1, iA (j + 1 + 1 + 2)] :: (U7 b vs ars bd [.box [iA (nm b j M4), iA (pk b (j + 1) (ars.length : Int)), iA (n6 b (vs.length : Int) (j + 1 + 1)).kind, iA (n6 b (vs.length : Int) (j + 1 + 1)).value, .tref 8, iA 0, iA 0, .v (.slice none 0 0), iA 0, .v (.slice none 0 0), .v (.slice none 0 0)], .tree (D.exprs (n6 b (vs.length : Int) (j + 1 + 1)).kids)])) (aa8 []) fun G => b6 (j8 G (s8 2 (rg 5) (af6 b vs ars bd (j + 1 + 1 + 2) (by omega) (by omega))) [0, 1, 2, 3, 4, 6, 7, 8, 25] (.box [.ref 1, iA (x6 b vs.length ars.length (j + 1 + 1 + 2)).snd] :: dY b :: dI vs :: dI ars :: dT bd :: ar7 :: .box [iA (nm b j M4), iA (pk b (j + 1) (ars.length : Int)), iA (n6 b (vs.length : Int) (j + 1 + 1)).kind, iA (n6 b (vs.length : Int) (j + 1 + 1)).value, .tref 7, iA (x6 b vs.length ars.length (j + 1 + 1 + 2)).fst.kind, iA (x6 b vs.length ars.length (j + 1 + 1 + 2)).fst.value, .tref 8, iA 0, .v (.slice none 0 0), .v (.slice none 0 0)] :: (bh3 b vs ars j [])) [(6, .ptr 5 0), (8, .ptr 6 0)] fun G => l0 (b6 (wp_seq (j8 G d9 [0, 1, 2, 3, 4, 5, 7, 8] (.box [.ref 1, iA (x6 b vs.length ars.length (j + 1 + 1 + 2)).snd] :: dY b :: dI vs :: dI ars :: dT bd :: .box [iA (nm b j M4), iA (pk b (j + 1) (ars.length : Int)), iA (n6 b (vs.length : Int) (j + 1 + 1)).kind, iA (n6 b (vs.length : Int) (j + 1 + 1)).value, .tref 6, iA (x6 b vs.length ars.length (j + 1 + 1 + 2)).fst.kind, iA (x6 b vs.length ars.length (j + 1 + 1 + 2)).fst.value, .tref 7, iA 0, .v (.slice none 0 0), .v (.slice none 0 0)] :: (bh3 b vs ars j [])) [(6, .ptr 5 0)] fun G => b6 (wp_ret ?_)))))))); obtain ⟨ρ, G⟩ := G.nilT 8 (.stmts []) (.box [.ref 1, iA (x6 b vs.length ars.length (j + 1 + 1 + 2)).snd] :: dY b :: dI vs :: dI ars :: dT bd :: .box [iA (nm b j M4), iA (pk b (j + 1) (ars.length : Int)), iA (n6 b (vs.length : Int) (j + 1 + 1)).kind, iA (n6 b (vs.length : Int) (j + 1 + 1)).value, .tref 6, iA (x6 b vs.length ars.length (j + 1 + 1 + 2)).fst.kind, iA (x6 b vs.length ars.length (j + 1 + 1 + 2)).fst.value, .tref 7, iA 0, .tref 8, .v (.slice none 0 0)] :: (bh3 b vs ars j [])) [(6, .ptr 5 0)]; obtain ⟨ρ, G⟩ := G.nilT 9 (.stmts []) (.box [.ref 1, iA (x6 b vs.length ars.length (j + 1 + 1 + 2)).snd] :: dY b :: dI vs :: dI ars :: dT bd :: .box [iA (nm b j M4), iA (pk b (j + 1) (ars.length : Int)), iA (n6 b (vs.length : Int) (j + 1 + 1)).kind, iA (n6 b (vs.length : Int) (j + 1 + 1)).value, .tref 6, iA (x6 b vs.length ars.length (j + 1 + 1 + 2)).fst.kind, iA (x6 b vs.length ars.length (j + 1 + 1 + 2)).fst.value, .tref 7, iA 0, .tref 8, .tref 9] :: (bh3 b vs ars j [.tree (D.stmts [])])) [(6, .ptr 5 0)]
    exact U2 (.agg [iA (nm b j M4), iA (pk b (j + 1) (ars.length : Int)), iA (n6 b (vs.length : Int) (j + 1 + 1)).kind, iA (n6 b (vs.length : Int) (j + 1 + 1)).value, .tref 6, iA (x6 b vs.length ars.length (j + 1 + 1 + 2)).fst.kind, iA (x6 b vs.length ars.length (j + 1 + 1 + 2)).fst.value, .tref 7, iA 0, .tref 8, .tref 9]) G [0, 1, 2, 3, 4, 6, 7, 8, 9] (by show _ = AV.ren (nth [0, 1, 2, 3, 4, 6, 7, 8, 9]) (X1 b vs ars d j); unfold X1; have e1 : ((C6 b vs.length ars.length d j).fst.kind : Int) = (nm b j M4) := (by rw [bw5 (by omega) (by omega)]; show (2 : Int) = _; omega); rw [e1, bw5 (by omega) (by omega)] <;> rfl) (by show _ = mR [0, 1, 2, 3, 4, 6, 7, 8, 9] (X0 b vs ars bd d j); unfold X0; rw [bw5 (by omega) (by omega)] <;> rfl)
theorem a81 (b : List UInt8) (vs ars : List Int) (bd : List c5) (d : Nat) (h : ∀ (j n : Int), n = d → 0 ≤ j → j + cS d ≤ 600000000 → j9.ok Tryz.prog (dsC b vs ars bd d j n)) (m : Nat) (j n c B : Int) (hn : n = d) (hm : c = m) (hm2 : m ≤ 4) (hB : (m : Int) * cS d ≤ B) (r0 : 0 ≤ j) (r1 : j + B ≤ 600000000) : j9.ok Tryz.prog (dbC b vs ars bd d m j n c) :=
 bJ5 b vs ars bd d m h j n c hn hm hm2 B hB r0 r1
theorem bE5 (b : List UInt8) (vs ars : List Int) (bd : List c5) : ∀ (d : Nat), d ≤ 3 → ∀ (j n : Int), n = d → 0 ≤ j → j + cS d ≤ 600000000 → j9.ok Tryz.prog (dsC b vs ars bd d j n)
 | 0, hd, j, n, hn, r0, r1 => bx2 b vs ars bd 0 (by omega) (fun j n c h => absurd h (by omega)) j n hn r0 r1
 | d + 1, hd, j, n, hn, r0, r1 => bx2 b vs ars bd (d + 1) hd (fun j n c h hn h0 h2 r0 r1 => a81 b vs ars bd d (bE5 b vs ars bd d (by omega)) c.toNat j n c (2 * cS d) (by omega) (by omega) (by omega) (b60 h0 h2 (Int.le_trans (by decide) (aA8 d))) r0 (by simpa using r1)) j n hn r0 r1
theorem ca6 : cS 3 = 34170 := by decide
theorem b04 (b : List UInt8) (vs ars : List Int) (bd : List c5) (j n c : Int) (hn : n = 3) (h0 : 0 ≤ c) (h4 : c ≤ 4) (r0 : 0 ≤ j) (r1 : j ≤ 100000000) : j9.ok Tryz.prog (dbC b vs ars bd 3 c.toNat j n c) :=
 a81 b vs ars bd 3 (bE5 b vs ars bd 3 (by omega)) c.toNat j n c (4 * cS 3) (by omega) (by omega) (by omega) (ce8 h0 h4 (by rw [ca6]; decide)) r0 (by rw [ca6]; omega)
abbrev pgC (b : List UInt8) (j : Int) : j9 := ⟨123, [.ptr 0 0], [.box [.ref 1, iA j], dY b], [.box [.ref 1, iA (P8 b j).2], dY b] ++ oP (M5 b j), oA 2⟩
theorem bl4 {b : List UInt8} {l : List Int} {n i p : Int} (h : i > 0) (h2 : i ≤ n) : nsD b l (n - (i - 1)).toNat p = nsD b l (n - i).toNat p ++ [nm b (p + (n - i)) l] := by
 rw [show (n - (i - 1)).toNat = (n - i).toNat + 1 by omega, bA5, show (((n - i).toNat : Nat) : Int) = n - i by omega]
theorem bl3 {b : List UInt8} {l : List Int} {n p : Int} : nsD b l (n - n).toNat p = [] := by rw [Int.sub_self]; rfl
theorem ag7 (vs ars : List Int) (bd : List c5) (hb : j6 bd ≤ 1048576) : j9.ok Tryz.prog (T5 62 [pA 0] [dI vs, dI ars, dT bd] (bA (m0 ⟨vs, ars, bd⟩))) := R2 ⟨vs, ars, bd⟩ hb
theorem ce6 {b : List UInt8} {j : Int} (h : m0 ⟨vsD b j, asD b j, (H6 (C6 b (vsD b j).length (asD b j).length 3) (nm b (kp2 b j) nbL).toNat (kp2 b j + 1)).1⟩ = true) : M5 b j = ⟨vsD b j, asD b j, (P8 b j).1⟩ := if_pos h
theorem ce5 {b : List UInt8} {j : Int} (h : m0 ⟨vsD b j, asD b j, (H6 (C6 b (vsD b j).length (asD b j).length 3) (nm b (kp2 b j) nbL).toNat (kp2 b j + 1)).1⟩ = false) : M5 b j = fbP := if_neg (by intro h2; have h3 : m0 ⟨vsD b j, asD b j, (H6 (C6 b (vsD b j).length (asD b j).length 3) (nm b (kp2 b j) nbL).toNat (kp2 b j + 1)).1⟩ = true := h2; rw [h] at h3; cases h3)
theorem b51 (b : List UInt8) (j : Int) : j + 1 + (nm b j nvL - 0) = J0 b j := by unfold J0; omega
theorem b50 (b : List UInt8) (j : Int) : nsD b viL (nm b j nvL - 0).toNat (j + 1) = vsD b j := by unfold vsD; rw [Int.sub_zero]
theorem b49 (b : List UInt8) (j : Int) : J0 b j + 1 + (nm b (J0 b j) naL - 0) = kp2 b j := by unfold kp2; omega
theorem b48 (b : List UInt8) (j : Int) : nsD b aiL (nm b (J0 b j) naL - 0).toNat (J0 b j + 1) = asD b j := by unfold asD; rw [Int.sub_zero]
abbrev az2 (b : List UInt8) (j : Int) := H6 (C6 b (vsD b j).length (asD b j).length 3) (nm b (kp2 b j) nbL).toNat (kp2 b j + 1)
abbrev bi2 (b : List UInt8) (j : Int) : List It := [.box [.ref 1, iA (P8 b j).snd], dY b, .row 3 (D.ints (M5 b j).vars), .row 3 (D.ints (M5 b j).arrays), .tree (D.stmts (M5 b j).body)]
abbrev U8 : It := .box [.v (.slice none 0 0), .v (.slice none 0 0), .v (.slice none 0 0)]
abbrev aZ5 : It := .box [.ref 4, .v (.slice none 0 0), .v (.slice none 0 0)]
abbrev bu9 : It := .tree (D.stmts [c5.mk 1 1 (c6.mk 0 0 []) (c6.mk 2 0 []) 0 [] []])
theorem aA7 (b : List UInt8) (j : Int) (r0 : 0 ≤ j) (r1 : j ≤ 10000000) : j9.ok Tryz.prog (pgC b j) := by
  refine E9 52 Tryz.func123 [.box [.ref 1, iA j], dY b] [(0, .ptr 0 0)] fun G => ?_; have hnv := bW7 b r0 (by omega); have hk1 := bB8 b r0 r1; have hk2 := bm3 b r0 r1; have hna := bX0 b (k := J0 b j) (by omega) (by omega); have hnb := b58 b (k := kp2 b j) (by omega) (by omega); have hvl := bv5 b r0 r1; have hal := bH2 b r0 r1; have hbd := bo3 b r0 r1; have hbs : j6 (H6 (C6 b (vsD b j).length (asD b j).length 3) (nm b (kp2 b j) nbL).toNat (kp2 b j + 1)).1 ≤ 1048576 := cj7 hbd.2.2 (by omega); refine wp_seq (j8 G d9 [0, 1, 2] [.box [.ref 1, iA j], dY b, U8] [(0, .ptr 0 0), (2, .ptr 2 0)] fun G => b6 (wp_seq (j8 G d9 [0, 1, 2, 11] [.box [.ref 1, iA j], dY b, U8, U8] [(0, .ptr 0 0), (2, .ptr 2 0), (3, .ptr 3 0)] fun G => b6 (wp_seq (wp_seq (j8 G (s8 2 [0, 1, 12] (j9.lend (R1 b j nvL (List.cons_ne_nil _ _) (by assumption) (by omega)) [.no, .no, .row 3])) (rg 4) [.box [.ref 1, iA (j + 1)], dY b, U8, U8] [(0, .ptr 0 0), (2, .ptr 2 0), (3, .ptr 3 0), (4, iA (nm b j nvL))] fun G => b6 (wp_block ?_))))))); have Gx := G.nil 4 3 (.ints []) 1 [.box [.ref 1, iA (j + 1)], dY b, U8, aZ5] [(0, .ptr 0 0), (2, .ptr 2 0), (3, .ptr 3 0), (4, iA (nm b j nvL))]; clear G; obtain ⟨ρ, G⟩ := Gx; replace G := t7.at G [.box [.ref 1, iA (j + 1)], dY b, U8, aZ5, .row 3 (D.ints [])] [(0, .ptr 0 0), (2, .ptr 2 0), (3, .ptr 3 0), (4, iA (nm b j nvL))]; replace G := G.as [.box [.ref 1, iA (j + 1 + (nm b j nvL - nm b j nvL))], dY b, .box [.v (.slice none 0 0), .v (.slice none 0 0), .v (.slice none 0 0)], .box [.ref 4, .v (.slice none 0 0), .v (.slice none 0 0)], .row 3 (D.ints (nsD b viL (nm b j nvL - nm b j nvL).toNat (j + 1)))] [(0, .ptr 0 0), (2, .ptr 2 0), (3, .ptr 3 0), (4, iA (nm b j nvL))] (by have e1 : (j + 1 + (nm b j nvL - nm b j nvL) : Int) = (j + 1) := (by omega); have e2 : (nsD b viL (nm b j nvL - nm b j nvL).toNat (j + 1) : List Int) = ([]) := bl3; (first | rw [e1, e2] | simp only [e1, e2]) <;> rfl) (by kernel_rfl); refine t0 (κ := Int) (fun i => 0 ≤ i ∧ i ≤ nm b j nvL) (fun i => i.toNat) (fun i => [.box [.ref 1, iA (j + 1 + (nm b j nvL - i))], dY b, .box [.v (.slice none 0 0), .v (.slice none 0 0), .v (.slice none 0 0)], .box [.ref 4, .v (.slice none 0 0), .v (.slice none 0 0)], .row 3 (.ints (nsD b viL (nm b j nvL - i).toNat (j + 1)))]) (fun i => [(0, .ptr 0 0), (2, .ptr 2 0), (3, .ptr 3 0), (4, iA i)]) (nm b j nvL) (by omega) (t7.at G _ _) ?_; clear G; intro i ρ a w hp G; replace G := t7.at G [.box [.ref 1, iA (j + 1 + (nm b j nvL - i))], dY b, U8, aZ5, .row 3 (D.ints (nsD b viL (nm b j nvL - i).toNat (j + 1)))] [(0, .ptr 0 0), (2, .ptr 2 0), (3, .ptr 3 0), (4, iA i)]; have hlen : (nsD b viL (nm b j nvL - i).toNat (j + 1)).length = (nm b j nvL - i).toNat := al8 _ _ _ _; refine wp_seq (wp_seq (D2 G d9 [(0, .ptr 0 0), (2, .ptr 2 0), (3, .ptr 3 0), (4, iA i), (11, bA (decide (i > 0)))] fun G => b6 ?_)); cases h0 : (decide (i > 0))
  ·
   have q0 := dFf h0
   obtain rfl : i = 0 := by omega
   rw [b51, b50] at G; refine rF G false (by kernel_rfl) (wp_exit (s7 (s7 (r8 (b6 (wp_seq (wp_seq (j8 G (s8 2 [0, 1, 13] (j9.lend (R1 b (J0 b j) naL (by simp [h0]) (by omega) (by omega)) [.no, .no, .row 3])) (rg 5) [.box [.ref 1, iA (J0 b j + 1)], dY b, U8, aZ5, .row 3 (D.ints (vsD b j))] [(0, .ptr 0 0), (2, .ptr 2 0), (3, .ptr 3 0), (5, iA (nm b (J0 b j) naL))] fun G => b6 (wp_block ?_))))))))); have Gx := G.nil 5 3 (.ints []) 1 [.box [.ref 1, iA (J0 b j + 1)], dY b, U8, .box [.ref 4, .ref 5, .v (.slice none 0 0)], .row 3 (D.ints (vsD b j))] [(0, .ptr 0 0), (2, .ptr 2 0), (3, .ptr 3 0), (5, iA (nm b (J0 b j) naL))]; clear G; obtain ⟨ρ, G⟩ := Gx; replace G := t7.at G [.box [.ref 1, iA (J0 b j + 1)], dY b, U8, .box [.ref 4, .ref 5, .v (.slice none 0 0)], .row 3 (D.ints (vsD b j)), .row 3 (D.ints [])] [(0, .ptr 0 0), (2, .ptr 2 0), (3, .ptr 3 0), (5, iA (nm b (J0 b j) naL))]; have Gx := G.nilT 6 (.stmts []) [.box [.ref 1, iA (J0 b j + 1)], dY b, U8, .box [.ref 4, .ref 5, .tref 6], .row 3 (D.ints (vsD b j)), .row 3 (D.ints [])] [(0, .ptr 0 0), (2, .ptr 2 0), (3, .ptr 3 0), (5, iA (nm b (J0 b j) naL))]; clear G; obtain ⟨ρ, G⟩ := Gx; replace G := t7.at G [.box [.ref 1, iA (J0 b j + 1)], dY b, U8, .box [.ref 4, .ref 5, .tref 6], .row 3 (D.ints (vsD b j)), .row 3 (D.ints []), .tree (D.stmts [])] [(0, .ptr 0 0), (2, .ptr 2 0), (3, .ptr 3 0), (5, iA (nm b (J0 b j) naL))]; replace G := G.as [.box [.ref 1, iA (J0 b j + 1 + (nm b (J0 b j) naL - nm b (J0 b j) naL))], dY b, .box [.v (.slice none 0 0), .v (.slice none 0 0), .v (.slice none 0 0)], .box [.ref 4, .ref 5, .tref 6], .row 3 (D.ints (vsD b j)), .row 3 (D.ints (nsD b aiL (nm b (J0 b j) naL - nm b (J0 b j) naL).toNat (J0 b j + 1))), .tree (D.stmts [])] [(0, .ptr 0 0), (2, .ptr 2 0), (3, .ptr 3 0), (5, iA (nm b (J0 b j) naL))] (by have e1 : (J0 b j + 1 + (nm b (J0 b j) naL - nm b (J0 b j) naL) : Int) = (J0 b j + 1) := (by omega); have e2 : (nsD b aiL (nm b (J0 b j) naL - nm b (J0 b j) naL).toNat (J0 b j + 1) : List Int) = ([]) := bl3; (first | rw [e1, e2] | simp only [e1, e2]) <;> rfl) (by kernel_rfl); refine t0 (κ := Int) (fun i2 => 0 ≤ i2 ∧ i2 ≤ nm b (J0 b j) naL) (fun i2 => i2.toNat) (fun i2 => [.box [.ref 1, iA (J0 b j + 1 + (nm b (J0 b j) naL - i2))], dY b, .box [.v (.slice none 0 0), .v (.slice none 0 0), .v (.slice none 0 0)], .box [.ref 4, .ref 5, .tref 6], .row 3 (D.ints (vsD b j)), .row 3 (.ints (nsD b aiL (nm b (J0 b j) naL - i2).toNat (J0 b j + 1))), .tree (D.stmts [])]) (fun i2 => [(0, .ptr 0 0), (2, .ptr 2 0), (3, .ptr 3 0), (5, iA i2)]) (nm b (J0 b j) naL) (by omega) (t7.at G _ _) ?_; clear G; intro i2 ρ a w hp G; replace G := t7.at G [.box [.ref 1, iA (J0 b j + 1 + (nm b (J0 b j) naL - i2))], dY b, U8, .box [.ref 4, .ref 5, .tref 6], .row 3 (D.ints (vsD b j)), .row 3 (D.ints (nsD b aiL (nm b (J0 b j) naL - i2).toNat (J0 b j + 1))), .tree (D.stmts [])] [(0, .ptr 0 0), (2, .ptr 2 0), (3, .ptr 3 0), (5, iA i2)]; have hlen : (nsD b aiL (nm b (J0 b j) naL - i2).toNat (J0 b j + 1)).length = (nm b (J0 b j) naL - i2).toNat := al8 _ _ _ _; refine wp_seq (wp_seq (D2 G d9 [(0, .ptr 0 0), (2, .ptr 2 0), (3, .ptr 3 0), (5, iA i2), (26, bA (decide (i2 > 0)))] fun G => b6 ?_)); cases h1 : (decide (i2 > 0))
   ·
    have q1 := dFf h1
    obtain rfl : i2 = 0 := by omega
    rw [b49, b48] at G; refine rF G false (by kernel_rfl) (wp_exit (s7 (s7 (r8 (b6 (wp_seq (ag9 G (F9 (t4 4 [0, 1, 31] (j9.lend (R1 b (kp2 b j) nbL (by simp [h0, h1]) (by omega) (by omega)) [.no, .no, .row 3]) (t4 5 [0, 1, 4, 5, 6] (j9.lend (b04 b (vsD b j) (asD b j) ([]) (kp2 b j + 1) 3 (nm b (kp2 b j) nbL) (by kernel_rfl) (by omega) (by omega) (by omega) (by omega)) [.no, .no, .row 3, .row 3, .tree]) F8)) fz []) [0, 0, 0, 0, 12, 31, 63, 127] [0, 1, 2, 3, 4, 5, 47] [.box [.ref 1, iA (az2 b j).snd], dY b, U8, .box [.ref 4, .ref 5, .tref 6], .row 3 (D.ints (vsD b j)), .row 3 (D.ints (asD b j)), .tree (D.stmts (az2 b j).fst)] [(2, .ptr 2 0), (3, .ptr 3 0)] fun G => b6 (wp_seq (wp_seq (k8 G (s8 1 [4, 5, 6] (j9.lend (ag7 (vsD b j) (asD b j) ((H6 (C6 b (vsD b j).length (asD b j).length 3) (nm b (kp2 b j) nbL).toNat (kp2 b j + 1)).fst) (by assumption)) [.row 3, .row 3, .tree])) [(45, bA (m0 (i6.mk (vsD b j) (asD b j) (az2 b j).fst)))] fun G => b6 (rcB (b := m0 (i6.mk (vsD b j) (asD b j) (H6 (C6 b (vsD b j).length (asD b j).length (3 : Nat)) (nm b (kp2 b j) nbL).toNat (kp2 b j + 1)).fst)) G (fun h2 => ?_) fun h2 => ?_)))))))))))
    · refine wp_skip (b6 (wp_seq (j8 G d9 [0, 1, 2, 7, 31] [.box [.ref 1, iA (az2 b j).snd], dY b, .box [.ref 3, .v (.slice none 0 0), .tref 4], .row 3 (D.ints ([0] ++ ([1] ++ []))), bu9] [(2, .ptr 2 0)] fun G => b6 (wp_ret ?_)))); have Gx := G.nil 5 3 (.ints []) 1 [.box [.ref 1, iA (az2 b j).snd], dY b, .box [.ref 3, .ref 5, .tref 4], .row 3 (D.ints ([0] ++ ([1] ++ []))), bu9] [(2, .ptr 2 0)]; clear G; obtain ⟨ρ, G⟩ := Gx; replace G := t7.at G [.box [.ref 1, iA (az2 b j).snd], dY b, .box [.ref 3, .ref 5, .tref 4], .row 3 (D.ints ([0] ++ ([1] ++ []))), bu9, .row 3 (D.ints [])] [(2, .ptr 2 0)]; exact K8 G [0, 1, 3, 5, 4] (by show _ = mR [0, 1, 3, 5, 4] (bi2 b j); unfold bi2; rw [ce5 (by with_reducible assumption)] <;> rfl)
    · refine wp_seq (j8 G d9 [0, 1, 2, 4, 5, 6] [.box [.ref 1, iA (az2 b j).snd], dY b, .box [.ref 3, .ref 4, .tref 5], .row 3 (D.ints (vsD b j)), .row 3 (D.ints (asD b j)), .tree (D.stmts (az2 b j).fst)] [(2, .ptr 2 0)] fun G => b6 (wp_ret (l6 ?_))); exact K8 G [0, 1, 3, 4, 5] (by show _ = mR [0, 1, 3, 4, 5] (bi2 b j); unfold bi2; rw [ce6 (by with_reducible assumption)] <;> rfl)
   · have q1 := dTt h1; refine rT G _ h1 (wp_skip (b6 (wp_seq (wp_block (O1 G (s8 4 [0, 1, 31] (j9.lend (R1 b (J0 b j + 1 + (nm b (J0 b j) naL - i2)) aiL (by simp [h0, h1]) (by omega) (by omega)) [.no, .no, .row 3])) [0, 1, 0, 0, 12, 28, 63, 127, 255] [0, 1, 2, 3, 4, 6, 55] [.box [.ref 1, iA (J0 b j + 1 + (nm b (J0 b j) naL - i2) + 1)], dY b, U8, .box [.ref 4, .ref 6, .tref 5], .row 3 (D.ints (vsD b j)), .tree (D.stmts []), .row 3 (D.ints (nsD b aiL (nm b (J0 b j) naL - i2).toNat (J0 b j + 1) ++ ([nm b (J0 b j + 1 + (nm b (J0 b j) naL - i2)) aiL] ++ [])))] [(0, .ptr 0 0), (2, .ptr 2 0), (3, .ptr 3 0), (5, iA i2)] (aP ((nsD b aiL (nm b (J0 b j) naL - i2).toNat (J0 b j + 1)).length + ([nm b (J0 b j + 1 + (nm b (J0 b j) naL - i2)) aiL] ++ []).length) 8 []) (aK (by simp only [ch8, ci1, ci6, al8]; omega) ci7) fun G => l0 (b6 (E0 G d9 [(5, iA (i2 - 1))] [wO (i2 - 1)] (o1 (by omega)) fun G => b6 ?_))))))); exact I9 G (i2 - 1) (by omega) (by omega) [0, 1, 2, 3, 4, 6, 5] (by have e1 : (J0 b j + 1 + (nm b (J0 b j) naL - (i2 - 1)) : Int) = (J0 b j + 1 + (nm b (J0 b j) naL - i2) + 1) := (by omega); have e2 : (nsD b aiL (nm b (J0 b j) naL - (i2 - 1)).toNat (J0 b j + 1) : List Int) = (nsD b aiL (nm b (J0 b j) naL - i2).toNat (J0 b j + 1) ++ ([nm b (J0 b j + 1 + (nm b (J0 b j) naL - i2)) aiL] ++ [])) := (bl4 (by omega) (by omega)); (first | rw [e1, e2] | simp only [e1, e2]) <;> rfl)
  · have q0 := dTt h0; refine rT G _ h0 (wp_skip (b6 (wp_seq (wp_block (O1 G (s8 4 [0, 1, 29] (j9.lend (R1 b (j + 1 + (nm b j nvL - i)) viL (by simp [h0]) (by omega) (by omega)) [.no, .no, .row 3])) [0, 1, 0, 0, 12, 28, 63, 127, 255] [0, 1, 2, 3, 53] [.box [.ref 1, iA (j + 1 + (nm b j nvL - i) + 1)], dY b, U8, aZ5, .row 3 (D.ints (nsD b viL (nm b j nvL - i).toNat (j + 1) ++ ([nm b (j + 1 + (nm b j nvL - i)) viL] ++ [])))] [(0, .ptr 0 0), (2, .ptr 2 0), (3, .ptr 3 0), (4, iA i)] (aP ((nsD b viL (nm b j nvL - i).toNat (j + 1)).length + ([nm b (j + 1 + (nm b j nvL - i)) viL] ++ []).length) 8 []) (aK (by simp only [ch8, ci1, ci6, al8]; omega) ci7) fun G => l0 (b6 (E0 G d9 [(4, iA (i - 1))] [wO (i - 1)] (o1 (by omega)) fun G => b6 ?_))))))); exact I9 G (i - 1) (by omega) (by omega) (rg 5) (by have e1 : (j + 1 + (nm b j nvL - (i - 1)) : Int) = (j + 1 + (nm b j nvL - i) + 1) := (by omega); have e2 : (nsD b viL (nm b j nvL - (i - 1)).toNat (j + 1) : List Int) = (nsD b viL (nm b j nvL - i).toNat (j + 1) ++ ([nm b (j + 1 + (nm b j nvL - i)) viL] ++ [])) := (bl4 (by omega) (by omega)); (first | rw [e1, e2] | simp only [e1, e2]) <;> rfl)
section
variable {b : List UInt8} {p : i6} {j : Int}
end
def at8 (k v r : Int) : d7 := if k = 3 then ⟨4, r, v, r, 0⟩ else if k = 11 then ⟨7, r, r, r + 1, r + 2⟩ else ⟨6, r, k, r, r + 1⟩
mutual
def c8 : c6 → Int → List d7
 | ⟨k, v, ks⟩, r => if k = 1 then [⟨1, r, v, 0, 0⟩] else if k = 2 then [⟨2, r, v, 0, 0⟩] else l9 ks r ++ [at8 k v r]
def l9 : List c6 → Int → List d7
 | [], _ => []
 | e :: t, r => c8 e r ++ l9 t (r + 1)
end
theorem an0 (e : c6) (r : Int) : c8 e r = if e.kind = 1 then [⟨1, r, e.value, 0, 0⟩] else if e.kind = 2 then [⟨2, r, e.value, 0, 0⟩] else l9 e.kids r ++ [at8 e.kind e.value r] := by cases e; rw [c8]; rfl
theorem ap0 : ∀ (a b : List c6) (r : Int), l9 (a ++ b) r = l9 a r ++ l9 b (r + a.length)
 | [], b, r => by simp [l9]
 | e :: t, b, r => by
  simp only [List.cons_append, l9, cm7]
  rw [ap0 t b (r + 1)]
  congr 2
  simp only [ci1]
  rw [show r + 1 + (t.length : Int) = r + ((t.length + 1 : Nat) : Int) by omega]
theorem aA5 {ks : List c6} {k : Nat} {r : Int} (hk : k < ks.length) : l9 (ks.take (k + 1)) r = l9 (ks.take k) r ++ c8 (ks.getD k ch2) (r + k) := by
 rw [m8 _ _ hk, ap0, m6 hk]
 simp [l9, List.length_take, Nat.min_eq_left (Nat.le_of_lt hk)]
mutual
theorem Y9 : ∀ (e : c6) (r : Int), (c8 e r).length ≤ 1 + z7 e
 | ⟨k, v, ks⟩, r => by
  have h := af5 ks r
  rw [c8]
  simp only [z7]
  split
  ·simp
  ·split
   ·simp
   ·simp only [ch8, ci1, ci6]; omega
theorem af5 : ∀ (ks : List c6) (r : Int), (l9 ks r).length ≤ D9 ks
 | [], _ => by simp [l9]
 | e :: t, r => by
  have h1 := Y9 e r
  have h2 := af5 t (r + 1)
  simp only [l9, D9, ch8]; omega
end
abbrev N3 : Type := List d7 × List Int × Int
def H4 (x : N3) (n : Int) (c : List d7) : N3 := (x.1 ++ c, x.2.1 ++ ch3 c.length n, x.2.2)
def by7 (l : List d7) (i : Nat) (n : Int) : List d7 := l.set i ⟨(l.getD i ch2).op, (l.getD i ch2).a, n, (l.getD i ch2).c, (l.getD i ch2).d⟩
def bV4 (l : List d7) (i : Nat) (n : Int) : List d7 := l.set i ⟨(l.getD i ch2).op, n, (l.getD i ch2).b, (l.getD i ch2).c, (l.getD i ch2).d⟩
mutual
def S8 : c5 → Int → N3 → N3
 | ⟨k, t, i, v, c, b, e⟩, d, x =>
  if k = 4 then H4 (n4 b (d + 1) (H4 (x.1, x.2.1, x.2.2 + 1) x.2.2 [⟨1, 9 + d, c, 0, 0⟩])) x.2.2 [⟨10, 9 + d, ((x.1.length + 1 : Nat) : Int), 0, 0⟩]
  else if k = 1 then H4 (H4 (x.1, x.2.1, x.2.2 + 1) x.2.2 (c8 v 0)) x.2.2 [⟨3, t, 0, 0, 0⟩]
  else if k = 5 then H4 (H4 (H4 (x.1, x.2.1, x.2.2 + 1) x.2.2 (c8 v 0)) x.2.2 [⟨11, 0, 0, 0, 0⟩]) x.2.2 [⟨3, t, 0, 0, 0⟩]
  else if k = 2 then H4 (H4 (H4 (x.1, x.2.1, x.2.2 + 1) x.2.2 (c8 v 0)) x.2.2 (c8 i 1)) x.2.2 [⟨5, t, 1, 0, 0⟩]
  else
   (fun (y : N3) =>
    (fun (z : N3) =>
     (fun (u : N3) => (bV4 u.1 (z.1.length - 1) (u.1.length : Int), u.2)) (n4 e (d + 1) (by7 z.1 y.1.length (z.1.length : Int), z.2)))
    (H4 (n4 b (d + 1) (H4 y x.2.2 [⟨9, 0, 0, 0, 0⟩])) x.2.2 [⟨8, 0, 0, 0, 0⟩]))
   (H4 (x.1, x.2.1, x.2.2 + 1) x.2.2 (c8 v 0))
def n4 : List c5 → Int → N3 → N3
 | [], _, x => x
 | s :: r, d, x => n4 r d (S8 s d x)
end
theorem bf0 (a b : List c5) (d : Int) (x : N3) : n4 (a ++ b) d x = n4 b d (n4 a d x) := by
 induction a generalizing x with
 | nil => rfl
 | cons s r ih => simp only [List.cons_append, n4]; exact ih _
theorem aL2 {ss : List c5} {k : Nat} {d : Int} {x : N3} (hk : k < ss.length) : n4 (ss.take (k + 1)) d x = S8 (ss.getD k ch2) d (n4 (ss.take k) d x) := by
 rw [m8 _ _ hk, bf0, m6 hk]
 simp [n4]
mutual
def bs3 : c5 → Nat
 | ⟨k, _, i, v, _, b, e⟩ => if k = 4 then 2 + aN5 b else if k = 1 then (c8 v 0).length + 1 else if k = 5 then (c8 v 0).length + 2 else if k = 2 then (c8 v 0).length + (c8 i 1).length + 1 else (c8 v 0).length + 2 + aN5 b + aN5 e
def aN5 : List c5 → Nat
 | [] => 0
 | s :: r => bs3 s + aN5 r
end
mutual
theorem bO2 : ∀ (s : c5) (d : Int) (x : N3), (S8 s d x).1.length = x.1.length + bs3 s ∧ (S8 s d x).2.1.length = x.2.1.length + bs3 s
 | ⟨k, t, i, v, c, b, e⟩, d, x => by
  rw [S8, bs3]
  split
  ·have h := N0 b (d + 1) (H4 (x.1, x.2.1, x.2.2 + 1) x.2.2 [⟨1, 9 + d, c, 0, 0⟩])
   simp only [H4, ch8, ci1, ci6, cj3] at h ⊢
   omega
  ·split
   ·simp only [H4, ch8, ci1, ci6, cj3]; omega
   ·split
    ·simp only [H4, ch8, ci1, ci6, cj3]; omega
    ·split
     ·simp only [H4, ch8, ci1, ci6, cj3]; omega
     ·simp only
      generalize hy : H4 (x.1, x.2.1, x.2.2 + 1) x.2.2 (c8 v 0) = y
      have hy1 : y.1.length = x.1.length + (c8 v 0).length := by rw [← hy]; simp [H4]
      have hy2 : y.2.1.length = x.2.1.length + (c8 v 0).length := by rw [← hy]; simp [H4]
      have h1 := N0 b (d + 1) (H4 y x.2.2 [⟨9, 0, 0, 0, 0⟩])
      generalize n4 b (d + 1) (H4 y x.2.2 [⟨9, 0, 0, 0, 0⟩]) = z at h1 ⊢
      have h2 := N0 e (d + 1) (by7 (H4 z x.2.2 [⟨8, 0, 0, 0, 0⟩]).1 y.1.length ((H4 z x.2.2 [⟨8, 0, 0, 0, 0⟩]).1.length : Int), (H4 z x.2.2 [⟨8, 0, 0, 0, 0⟩]).2)
      simp only [H4, bV4, by7, cj9, ch8, ci1, ci6, cj3] at h1 h2 ⊢
      omega
theorem N0 : ∀ (ss : List c5) (d : Int) (x : N3), (n4 ss d x).1.length = x.1.length + aN5 ss ∧ (n4 ss d x).2.1.length = x.2.1.length + aN5 ss
 | [], _, _ => ⟨rfl, rfl⟩
 | s :: r, d, x => by
  have h1 := bO2 s d x
  have h2 := N0 r d (S8 s d x)
  rw [n4, aN5]
  omega
end
mutual
theorem bO0 : ∀ s : c5, bs3 s ≤ 4 + 4 * K3 s
 | ⟨k, t, i, v, c, b, e⟩ => by
  have h1 := Y9 v 0
  have h2 := Y9 i 1
  have h3 := R0 b
  have h4 := R0 e
  rw [bs3]
  simp only [K3]
  (repeat' split) <;> omega
theorem R0 : ∀ ss : List c5, aN5 ss ≤ 4 * j6 ss
 | [] => ck8 _
 | s :: r => by
  have h1 := bO0 s
  have h2 := R0 r
  simp only [aN5, j6]; omega
end
section
variable {P : Program} {ι κ : Type} {φ ψ : Nat → Prop} {w0 w : World} {F : ι → Rs} {ρ ρ0 : Nat → Value} {N m n : Nat} {S : List It} {tm : List (Nat × AV)} {a : Act}
def aQ5 (n : Nat) : List Ln := ch3 n .no ++ [.tree]
theorem a34 (n i : Nat) : y9 (aQ5 n) i = if i = n then .tree else .no := by
 unfold y9 aQ5
 rw [ch7]
 rcases Nat.lt_trichotomy i n with h | h | h
 ·rw [ci9 (by simpa using h), if_neg (by omega)]
  simp [cl4, h]
 ·subst h; simp
 ·rw [cj8 (by simp; omega), if_neg (by omega)]; rfl
theorem j9.datPost {f : FuncId} {args : List AV} {S0 S : List It} {d : D} {res : AV} (hc : j9.ok P ⟨f, args, S0, S ++ [.tree d], res⟩) (res1 : AV) (hr : res = res1.tr (aQ5 S.length) := by kernel_rfl) (hk : (decide (S0.length ≤ S.length) && (res1.trOk (aQ5 S.length) && S.all fun x => x.ids.isEmpty)) = true := by kernel_rfl) : j9.ok P ⟨f, args, S0, S ++ [.dat d], res1⟩ := by
 simp only [ch4, decide_eq_true_eq] at hk
 obtain ⟨hl0, hk⟩ := hk
 subst hr
 intro ι φ ψ w0 w F ρ M
 refine (hc ι φ ψ w0 w F ρ M).mono ?_
 rintro x w' ⟨ρ', h1, rfl, M2⟩
 let ρ1 : Nat → Value := fun i => if (y9 (aQ5 S.length) i).isT then G7 (ρ' i) else ρ' i
 have hρ1 : ∀ i, ρ1 i = if (y9 (aQ5 S.length) i).isT then G7 (ρ' i) else ρ' i := fun _ => rfl
 have hne : ∀ i, i ≠ S.length → ρ1 i = ρ' i := fun i hi => by rw [hρ1, a34, if_neg hi]; rfl
 have heq : ρ1 S.length = G7 (ρ' S.length) := by rw [hρ1, a34, if_pos rfl]; rfl
 refine ⟨ρ1, fun i hi => by rw [hne i (by simp only at hi; omega)]; exact h1 i hi, by rw [AV.val_tr hρ1 res1 hk.1], ?_⟩
 refine M2.release fun k => ?_
 cases k with
 | inl i => exact .inl rfl
 | inr j =>
  simp only [p8]
  rcases Nat.lt_trichotomy j S.length with hj | hj | hj
  ·have e1 : s6 (S ++ [.dat d]) j = s6 S j := by simp [s6, ch7, ci9 hj]
   have e2 : s6 (S ++ [.tree d]) j = s6 S j := by simp [s6, ch7, ci9 hj]
   rw [e1, e2]
   left
   have h2 : (s6 S j).ids = [] := by
    have h3 := ci2.1 hk.2 _ (cj1 hj)
    rw [aj9 hj]
    simpa using h3
   exact It.res_congr _ (fun i hi => by rw [h2] at hi; cases hi) (.inr (.inr (hne j (by omega))))
  ·subst hj
   have e1 : s6 (S ++ [.dat d]) S.length = .dat d := by simp [s6, ch7]
   have e2 : s6 (S ++ [.tree d]) S.length = .tree d := by simp [s6, ch7]
   rw [e1, e2]
   refine .inr ⟨fun b hb => hb, fun φ' hf hown => ⟨RD.nice _ _, ?_⟩⟩
   have hh := M2.holds (.inr S.length)
   simp only [p8] at hh
   rw [e2] at hh
   rw [heq]
   exact G0.read hh.2.1 fun b hb => hown b (by rw [show (It.tree d).res ρ' S.length = Rs.own (J9 (ρ' S.length)) _ from rfl]; exact hb)
  ·rw [y8 (by simp; omega), y8 (by simp; omega)]; exact .inl rfl
theorem It.res_ren' {σ : Nat → Nat} {i j : Nat} {ρ : Nat → Value} (x : It) (h : σ i = j) : (x.ren σ).res ρ j = x.res (fun i => ρ (σ i)) i := by
 subst h; exact It.res_ren x
def mv (i n j : Nat) : Nat := if natEq j i then n else j
theorem aI8 {f : AV → AV} {t : Nat} {y : AV} : ∀ {tm : List (Nat × AV)}, A1 (tm.map fun p => (p.1, f p.2)) t = some y → ∃ x, A1 tm t = some x ∧ y = f x
 | [], h => by cases h
 | (k, z) :: r, h => by
  simp only [A1, ck9] at h ⊢
  split at h
  ·rename_i hk; cases h; exact ⟨z, by rw [if_pos hk], rfl⟩
  ·rename_i hk
   obtain ⟨x, h1, h2⟩ := aI8 h
   exact ⟨x, by rw [if_neg hk]; exact h1, h2⟩
theorem bY1 {i n : Nat} {x : AV} : ∀ j ∈ (x.ren (mv i n)).ids, (∃ k ∈ x.ids, mv i n k = j) := by
 have key : (∀ x : AV, ∀ j ∈ (x.ren (mv i n)).ids, ∃ k ∈ x.ids, mv i n k = j) ∧ (∀ l : List AV, ∀ j ∈ AV.idsL (AV.renL (mv i n) l), ∃ k ∈ AV.idsL l, mv i n k = j) := by
  have hL : ∀ (l : List AV), (∀ x ∈ l, ∀ j ∈ (x.ren (mv i n)).ids, ∃ k ∈ x.ids, mv i n k = j) → ∀ j ∈ AV.idsL (AV.renL (mv i n) l), ∃ k ∈ AV.idsL l, mv i n k = j := by
   intro l
   induction l with
   | nil => intro _ j hj; cases hj
   | cons y r ih =>
    intro h j hj
    simp only [AV.renL, AV.idsL, cj5] at hj ⊢
    rcases hj with hj | hj
    ·obtain ⟨k, h1, h2⟩ := h y cl3 j hj
     exact ⟨k, .inl h1, h2⟩
    ·obtain ⟨k, h1, h2⟩ := ih (fun x hx => h x (cl1 _ hx)) j hj
     exact ⟨k, .inr h1, h2⟩
  have hx : ∀ x : AV, ∀ j ∈ (x.ren (mv i n)).ids, ∃ k ∈ x.ids, mv i n k = j := fun x => goX hL x
  exact ⟨hx, fun l => hL l fun x _ => hx x⟩
 exact key.1 x
where
 goX {i n : Nat} (hL : ∀ (l : List AV), (∀ x ∈ l, ∀ j ∈ (x.ren (mv i n)).ids, ∃ k ∈ x.ids, mv i n k = j) → ∀ j ∈ AV.idsL (AV.renL (mv i n) l), ∃ k ∈ AV.idsL l, mv i n k = j) : ∀ x : AV, ∀ j ∈ (x.ren (mv i n)).ids, ∃ k ∈ x.ids, mv i n k = j
  | .v _, j, hj => by cases hj
  | .ptr a b, j, hj => ⟨a, ck4.2 rfl, (ck4.1 hj).symm⟩
  | .ea a b c d, j, hj => ⟨a, ck4.2 rfl, (ck4.1 hj).symm⟩
  | .ref a, j, hj => ⟨a, ck4.2 rfl, (ck4.1 hj).symm⟩
  | .tref a, j, hj => ⟨a, ck4.2 rfl, (ck4.1 hj).symm⟩
  | .agg l, j, hj => hL l (fun x _ => goX hL x) j hj
  | .tup l, j, hj => hL l (fun x _ => goX hL x) j hj
  | .fn _ l, j, hj => hL l (fun x _ => goX hL x) j hj
  | .bm _ l, j, hj => hL l (fun x _ => goX hL x) j hj
theorem t7.shift (G : t7 φ ψ w0 F N m ρ0 ρ S tm a w) (i n : Nat) (S1 : List It) (tm1 : List (Nat × AV)) (hn : (natEq S.length n && decide (i < n)) = true := by kernel_rfl) (hS : S1 = (S.map (It.ren (mv i n))).set i .dead ++ [(s6 S i).ren (mv i n)] := by kernel_rfl) (ht : tm1 = tm.map (fun p => (p.1, p.2.ren (mv i n))) := by kernel_rfl) :
  ∃ ρ', t7 φ ψ w0 F N m ρ0 ρ' S1 tm1 a w := by
 subst hS
 subst ht
 simp only [ch4, natEq, beq_iff_eq, decide_eq_true_eq] at hn
 obtain ⟨hn, hin⟩ := hn
 have hlen : ((S.map (It.ren (mv i n))).set i .dead ++ [(s6 S i).ren (mv i n)]).length = n + 1 := by simp [hn]
 have hat : ∀ j, s6 ((S.map (It.ren (mv i n))).set i .dead ++ [(s6 S i).ren (mv i n)]) j = if j = n then (s6 S i).ren (mv i n) else if j = i then .dead else (s6 S j).ren (mv i n) := fun j => by
  by_cases e : j = n
  ·subst e
   rw [if_pos rfl]
   simp only [s6, ch7]
   rw [ck6 (by simp [hn])]
   simp [hn]
  ·rw [if_neg e]
   by_cases e2 : j = i
   ·subst e2
    rw [if_pos rfl]
    simp only [s6, ch7]
    rw [ci9 (by simp; omega)]
    simp [show j < S.length by omega]
   ·rw [if_neg e2]
    simp only [s6, ch7]
    rcases cj6 j n with h | h
    ·rw [ci9 (by simp; omega), List.getElem?_set_ne (fun h => e2 h.symm), List.getElem?_map, ch6 (by omega)]
     rfl
    ·rw [cj8 (by simp; omega), cj8 (by omega)]; rfl
 have hbd : ∀ x : AV, (∀ j ∈ x.ids, j < n) → ∀ j ∈ (x.ren (mv i n)).ids, j < n + 1 := fun x h j hj => by
  obtain ⟨k, h1, h2⟩ := bY1 j hj
  have := h k h1
  rw [← h2]; unfold mv
  split <;> omega
 let ρ1 : Nat → Value := fun j => if j = n then ρ i else ρ j
 have hmv : ∀ j, j < n → ρ1 (mv i n j) = ρ j := fun j hj => by
  show (if mv i n j = n then ρ i else ρ (mv i n j)) = ρ j
  by_cases e : j = i
  ·subst e; simp [mv, natEq]
  ·have h : mv i n j = j := by simp [mv, natEq, e]
   rw [h, if_neg (by omega)]
 have hval : ∀ x : AV, (∀ j ∈ x.ids, j < n) → (x.ren (mv i n)).val ρ1 = x.val ρ := fun x h => by
  rw [AV.val_ren]
  exact AV.val_congr x fun j hj => hmv j (h j hj)
 have hids : ∀ j, ∀ q ∈ (s6 S j).ids, q < n := fun j q hq => by have := (G.bd j).1 q hq; omega
 have hitem : ∀ j, ∀ q ∈ ((s6 S j).ren (mv i n)).ids, q < n + 1 := fun j q hq => by
  cases hx : s6 S j with
  | box cs =>
   rw [hx] at hq
   have h1 := hids j
   rw [hx] at h1
   exact hbd (.agg cs) h1 q hq
  | _ => rw [hx] at hq; cases hq
 refine ⟨ρ1, G.size, G.defs, fun t y hy => ?_, fun t y hy j hj => ?_, fun j => ⟨fun q hq => ?_, fun hj => y8 hj⟩, ?_, ?_, fun j hj => ?_⟩
 ·obtain ⟨x, h1, rfl⟩ := aI8 hy
  rw [G.tmv t x h1, hval x fun j hj => by have := G.tmi t x h1 j hj; omega]
 ·obtain ⟨x, h1, rfl⟩ := aI8 hy
  rw [hlen]
  exact hbd x (fun j hj => by have := G.tmi t x h1 j hj; omega) j hj
 ·rw [hlen]
  rw [hat] at hq
  split at hq
  ·exact hitem i q hq
  ·split at hq
   ·cases hq
   ·exact hitem j q hq
 ·refine G.mem.map (fun k : ι ⊕ Nat => (match k with | .inl q => some (.inl q) | .inr j => if j = n then some (.inr i) else if j = i then none else some (.inr j) : Option (ι ⊕ Nat))) ?_ ?_
  ·intro k k' x h1 h2
   match k, k' with
   | .inl q, .inl q' => simp at h1 h2; rw [← h1] at h2; simpa using h2.symm
   | .inl q, .inr j => simp at h1; subst h1; simp at h2; split at h2 <;> simp at h2
   | .inr j, .inl q => simp at h2; subst h2; simp at h1; split at h1 <;> simp at h1
   | .inr j, .inr j' =>
    simp only at h1 h2
    by_cases e1 : j = n <;> by_cases e2 : j' = n
    ·rw [e1, e2]
    ·rw [if_pos e1] at h1
     rw [if_neg e2] at h2
     by_cases e3 : j' = i
     ·rw [if_pos e3] at h2; cases h2
     ·rw [if_neg e3] at h2
      simp at h1 h2
      rw [← h1] at h2
      exact absurd (Sum.inr.inj h2) e3
    ·rw [if_pos e2] at h2
     rw [if_neg e1] at h1
     by_cases e3 : j = i
     ·rw [if_pos e3] at h1; cases h1
     ·rw [if_neg e3] at h1
      simp at h1 h2
      rw [← h2] at h1
      exact absurd (Sum.inr.inj h1) e3
    ·rw [if_neg e1] at h1
     rw [if_neg e2] at h2
     by_cases e3 : j = i
     ·rw [if_pos e3] at h1; cases h1
     ·by_cases e4 : j' = i
      ·rw [if_pos e4] at h2; cases h2
      ·rw [if_neg e3] at h1
       rw [if_neg e4] at h2
       simp at h1 h2
       rw [← h1] at h2
       rw [Sum.inr.inj h2]
  ·intro k
   match k with
   | .inl q => exact .inl ⟨_, rfl, rfl⟩
   | .inr j =>
    by_cases e : j = n
    ·refine .inl ⟨.inr i, by simp [e], ?_⟩
     simp only [p8]
     rw [hat, if_pos e]
     subst e
     have h1 : mv i j i = j := by simp [mv, natEq]
     rw [It.res_ren' (s6 S i) h1]
     exact It.res_congr _ (fun q hq => hmv q (hids i q hq)) (.inr (.inr (hmv i hin)))
    ·by_cases e2 : j = i
     ·refine .inr ?_
      simp only [p8]
      rw [hat, if_neg e, if_pos e2]
      rfl
     ·refine .inl ⟨.inr j, by simp [e, e2], ?_⟩
      simp only [p8]
      rw [hat, if_neg e, if_neg e2]
      rcases cj6 j n with hj | hj
      ·have h1 : mv i n j = j := by simp [mv, natEq, e2]
       rw [It.res_ren' (s6 S j) h1]
       exact It.res_congr _ (fun q hq => hmv q (hids j q hq)) (.inr (.inr (hmv j hj)))
      ·rw [y8 (by omega)]; rfl
 ·have := G.le; rw [hlen]; omega
 ·have := G.le
  show (if j = n then ρ i else ρ j) = ρ0 j
  rw [if_neg (by omega)]; exact G.old j hj
end
abbrev rN (l : List d7) : It := .row 86 (.instrs l)
abbrev rI (l : List Int) : It := .row 3 (.ints l)
theorem G4 (l : List d7) (fr : List Int) (at0 n o x y z u : Int) (h1 : l.length ≤ 8000000) (h2 : fr.length ≤ 8000000) : j9.ok Tryz.prog ⟨147, [.agg [.ref 0, .ref 1, iA at0], iA n, .agg [iA o, iA x, iA y, iA z, iA u]], [rN l, rI fr], [.dead, .dead, rN (l ++ [⟨o, x, y, z, u⟩]), rI (fr ++ [n])], .agg [.ref 2, .ref 3, iA at0]⟩ := by
 refine E9 20 Tryz.func147 [.row 86 (D.instrs l), .row 3 (D.ints fr)] [(0, .agg [.ref 0, .ref 1, iA at0]), (1, iA n), (2, .agg [iA o, iA x, iA y, iA z, iA u])] fun G => ?_; refine wp_seq (j8 G d9 [0, 1, 2, 10, 18] [.row 86 (D.instrs l), .row 3 (D.ints fr), .box [.ref 0, .ref 1, iA at0], .box [iA o, iA x, iA y, iA z, iA u], .box [.v (.slice none 0 0), .v (.slice none 0 0), iA 0]] [(1, iA n), (3, .ptr 2 0), (5, .ptr 3 0), (6, .ptr 4 0)] fun G => b6 (wp_seq (N7 G d9 [0, 1, 2, 4, 37] [.dead, .row 3 (D.ints fr), .box [.ref 4, .ref 1, iA at0], .box [.v (.slice none 0 0), .v (.slice none 0 0), iA 0], .row 86 (D.instrs (l ++ ([d7.mk o x y z u] ++ [])))] [(1, iA n), (3, .ptr 2 0), (6, .ptr 3 0)] (aP (l.length + 1) 40 []) (aK (by omega) ci7) fun G => b6 (wp_seq (N7 G d9 [0, 1, 2, 3, 4, 37] [.dead, .dead, .box [.ref 4, .ref 5, iA at0], .box [.v (.slice none 0 0), .v (.slice none 0 0), iA 0], .row 86 (D.instrs (l ++ ([d7.mk o x y z u] ++ []))), .row 3 (D.ints (fr ++ ([n] ++ [])))] [(3, .ptr 2 0), (6, .ptr 3 0)] (aP (fr.length + 1) 8 []) (aK (by omega) ci7) fun G => b6 (wp_seq (j8 G d9 [0, 1, 3, 4, 5] [.dead, .dead, .box [.ref 3, .ref 4, iA at0], .row 86 (D.instrs (l ++ ([d7.mk o x y z u] ++ []))), .row 3 (D.ints (fr ++ ([n] ++ [])))] [(6, .ptr 2 0)] fun G => b6 (wp_ret ?_)))))))); exact K8 G [0, 1, 3, 4]
abbrev l7C (l : List d7) (fr : List Int) (at0 n : Int) (e : c6) (reg : Int) : j9 := ⟨239, [.agg [.ref 0, .ref 1, iA at0], iA n, eA e 2, iA reg], [rN l, rI fr, dE e.kids], [.dead, .dead, dE e.kids, rN (l ++ c8 e reg), rI (fr ++ ch3 (c8 e reg).length n)], .agg [.ref 3, .ref 4, iA at0]⟩
theorem ce1 {e : c6} {r : Int} (k : e.kind = 1) : c8 e r = [⟨1, r, e.value, 0, 0⟩] := by rw [an0, if_pos k]
theorem ce2 {e : c6} {r : Int} (k : e.kind = 2) : c8 e r = [⟨2, r, e.value, 0, 0⟩] := by rw [an0, if_neg (by omega), if_pos k]
theorem al5 (ks : List c6) (k : Nat) : D9 (ks.take k) ≤ D9 ks ∧ (k < ks.length → D9 (ks.take k) + 1 + z7 (ks.getD k ch2) ≤ D9 ks) ∧ (ks.take k).length ≤ D9 (ks.take k) := by
 refine ⟨?_, fun h => ?_, as1 _⟩
 ·have := ab3 (ks.take k) (ks.drop k)
  rw [List.take_append_drop] at this
  omega
 ·have h1 := ab3 (ks.take (k + 1)) (ks.drop (k + 1))
  rw [List.take_append_drop, m8 _ _ h, ab3, ← m6 (d := ch2) h] at h1
  simp only [D9] at h1
  omega
section
variable {e : c6} {l : List d7} {fr : List Int} {n reg : Int} {k : Nat}
theorem aT8 (e : c6) : z7 e = D9 e.kids := by cases e; rfl
theorem bZ5 (h0 : 0 ≤ reg) (h1 : reg + z7 e ≤ 2000000) (hk : k < e.kids.length) : 0 ≤ reg + (k : Int) ∧ reg + (k : Int) + z7 (e.kids.getD k ch2) ≤ 2000000 := by
 have h2 := (al5 e.kids k).2.1 hk
 have h3 := (al5 e.kids k).2.2
 rw [List.length_take] at h3
 rw [aT8] at h1
 omega
theorem bZ6 (h2 : l.length + z7 e ≤ 5000000) (hk : k < e.kids.length) : (l ++ l9 (e.kids.take k) reg).length + z7 (e.kids.getD k ch2) ≤ 5000000 := by
 have h3 := (al5 e.kids k).2.1 hk
 have h4 := af5 (e.kids.take k) reg
 rw [aT8] at h2
 rw [ch8]
 omega
theorem ay0 (h2 : l.length + z7 e ≤ 5000000) : (l ++ l9 (e.kids.take k) reg).length ≤ 5000000 := by
 have h3 := (al5 e.kids k).1
 have h4 := af5 (e.kids.take k) reg
 rw [aT8] at h2
 rw [ch8]
 omega
theorem aL3 (h3 : fr.length = l.length) : (fr ++ ch3 (l9 (e.kids.take k) reg).length n).length = (l ++ l9 (e.kids.take k) reg).length := by simp [h3]
theorem bO4 (hk : k < e.kids.length) : l ++ l9 (e.kids.take (k + 1)) reg = l ++ l9 (e.kids.take k) reg ++ c8 (e.kids.getD k ch2) (reg + (k : Int)) := by rw [aA5 hk, cm7]
theorem bF3 (hk : k < e.kids.length) : fr ++ ch3 (l9 (e.kids.take (k + 1)) reg).length n = fr ++ ch3 (l9 (e.kids.take k) reg).length n ++ ch3 (c8 (e.kids.getD k ch2) (reg + (k : Int))).length n := by
 rw [aA5 hk, ch8, cm7, List.replicate_append_replicate]
theorem bF2 : l = l ++ l9 (e.kids.take 0) reg := by simp [l9]
theorem bs4 : fr = fr ++ ch3 (l9 (e.kids.take 0) reg).length n := by simp [l9]
theorem bf2 (k1 : ¬ e.kind = 1) (k2 : ¬ e.kind = 2) (hk : e.kids.length ≤ k) {x : d7} (hx : at8 e.kind e.value reg = x) : l ++ c8 e reg = l ++ l9 (e.kids.take k) reg ++ [x] := by
 rw [an0, if_neg k1, if_neg k2, ci8 hk, hx, cm7]
theorem aY2 (k1 : ¬ e.kind = 1) (k2 : ¬ e.kind = 2) (hk : e.kids.length ≤ k) : fr ++ ch3 (c8 e reg).length n = fr ++ ch3 (l9 (e.kids.take k) reg).length n ++ [n] := by
 rw [an0, if_neg k1, if_neg k2, ci8 hk, cm7, ch8, ci1, ci6, List.replicate_succ']
theorem la3 (k : e.kind = 3) : at8 e.kind e.value reg = ⟨4, reg, e.value, reg, 0⟩ := by rw [at8, if_pos k]
theorem cg0 (k : e.kind = 11) : at8 e.kind e.value reg = ⟨7, reg, reg, reg + 1, reg + 2⟩ := by rw [at8, if_neg (by omega), if_pos k]
theorem la0 (k3 : ¬ e.kind = 3) (k : ¬ e.kind = 11) : at8 e.kind e.value reg = ⟨6, reg, e.kind, reg, reg + 1⟩ := by rw [at8, if_neg k3, if_neg k]
end
abbrev ab7 (e : c6) (l : List d7) (fr : List Int) (n : Int) (reg : Int) : List It := [.dead, .dead, dE e.kids, .row 86 (D.instrs (l ++ c8 e reg)), .row 3 (D.ints (fr ++ ch3 (c8 e reg).length n))]
abbrev Z0 (n : Int) (reg : Int) (r0 : List (Nat × AV)) : List (Nat × AV) := (1, iA n) :: (3, iA reg) :: (4, .ptr 3 0) :: (6, .ptr 4 0) :: (8, .ptr 5 0) :: r0
abbrev aS3 (e : c6) (at0 : Int) (r0 : List It) : List It := .dead :: .dead :: dE e.kids :: .box [.ref 6, .ref 7, iA at0] :: .box (eL e 2) :: .box [.v (.slice none 0 0), .v (.slice none 0 0), iA 0] :: r0
theorem bx3 (e : c6) (ih : ∀ (u : c6), u ∈ e.kids → ∀ (l : List d7) (fr : List Int) (at0 n reg : Int), 0 ≤ reg → reg + z7 u ≤ 2000000 → l.length + z7 u ≤ 5000000 → fr.length = l.length → j9.ok Tryz.prog (l7C l fr at0 n u reg)) (l : List d7) (fr : List Int) (at0 n reg : Int) (r0 : 0 ≤ reg) (r1 : reg + z7 e ≤ 2000000) (r2 : l.length + z7 e ≤ 5000000) (r3 : fr.length = l.length) : j9.ok Tryz.prog (l7C l fr at0 n e reg) := by
  refine E9 82 Tryz.func239 [.row 86 (D.instrs l), .row 3 (D.ints fr), dE e.kids] [(0, .agg [.ref 0, .ref 1, iA at0]), (1, iA n), (2, eA e 2), (3, iA reg)] fun G => ?_
  have hlen : e.kids.length ≤ z7 e := by cases e; exact as1 _
  refine wp_seq (j8 G d9 [0, 1, 2, 3, 11, 19] [.row 86 (D.instrs l), .row 3 (D.ints fr), dE e.kids, .box [.ref 0, .ref 1, iA at0], .box (eL e 2), .box [.v (.slice none 0 0), .v (.slice none 0 0), iA 0]] (Z0 n reg []) fun G => b6 (wp_seq (wp_seq (k8 G d9 [(11, iA e.kind)] fun G => b6 (wp_block (wp_seq (k8 G d9 [(12, bA (e.kind == 1))] fun G => b6 (J7 G (fun h0 q0 => ?_) fun h0 q0 => ?_))))))))
  ·
   refine wp_seq (k8 G d9 [(21, bA (e.kind == 2))] fun G => b6 (J7 G (fun h1 q1 => ?_) fun h1 q1 => ?_))
   ·
    refine wp_skip (l0 (b6 (wp_seq (wp_seq (D2 G d9 (Z0 n reg [(9, iA 0)]) fun G => b6 (wp_block ?_)))))); obtain ⟨ρ, G⟩ := G.shift 0 6 [.dead, .row 3 (D.ints fr), dE e.kids, .box [.ref 6, .ref 1, iA at0], .box (eL e 2), .box [.v (.slice none 0 0), .v (.slice none 0 0), iA 0], .row 86 (D.instrs l)] (Z0 n reg [(9, iA 0)]); obtain ⟨ρ, G⟩ := G.shift 1 7 (aS3 e at0 [.row 86 (D.instrs l), .row 3 (D.ints fr)]) (Z0 n reg [(9, iA 0)]); replace G := G.as (aS3 e at0 [.row 86 (D.instrs (l ++ l9 (ci0 0 e.kids) reg)), .row 3 (D.ints (fr ++ ch3 (l9 (ci0 0 e.kids) reg).length n))]) (Z0 n reg [(9, iA 0)]) (by have e1 : (l ++ l9 (ci0 0 e.kids) reg : List d7) = (l) := bF2.symm; have e2 : (fr ++ ch3 (l9 (ci0 0 e.kids) reg).length n : List Int) = (fr) := bs4.symm; (first | rw [e1, e2] | simp only [e1, e2]) <;> rfl) (by kernel_rfl); refine t0 (κ := Nat) (fun k => k ≤ e.kids.length) (fun k => e.kids.length - k) (fun k => [.dead, .dead, dE e.kids, .box [.ref 6, .ref 7, iA at0], .box (eL e 2), .box [.v (.slice none 0 0), .v (.slice none 0 0), iA 0], .row 86 (.instrs (l ++ l9 (e.kids.take k) reg)), .row 3 (.ints (fr ++ ch3 (l9 (e.kids.take k) reg).length n))]) (fun k => [(1, iA n), (3, iA reg), (4, .ptr 3 0), (6, .ptr 4 0), (8, .ptr 5 0), (9, iA k)]) 0 (by omega) (t7.at G _ _) ?_; clear G; intro k ρ a w hp G; replace G := t7.at G (aS3 e at0 [.row 86 (D.instrs (l ++ l9 (ci0 k e.kids) reg)), .row 3 (D.ints (fr ++ ch3 (l9 (ci0 k e.kids) reg).length n))]) (Z0 n reg [(9, iA k)]); refine wp_seq (wp_seq (k8 G d9 [(34, bA (decide ((k : Int) < e.kids.length)))] fun G => b6 (rcD G (fun h2 q2 => ?_) fun h2 q2 => ?_)))
    ·
     refine wp_exit (s7 (s7 (r8 (b6 (wp_seq (wp_seq (k8 G d9 [(49, iA e.kind)] fun G => b6 (wp_block (wp_seq (k8 G d9 [(50, bA (e.kind == 3))] fun G => b6 (J7 G (fun h3 q3 => ?_) fun h3 q3 => ?_)))))))))))
     ·
      refine wp_seq (k8 G d9 [(60, bA (e.kind == 11))] fun G => b6 (J7 G (fun h4 q4 => ?_) fun h4 q4 => ?_))
      · refine wp_skip (l0 (b6 (wp_seq (N7 G (s8 9 [6, 7] (G4 (l ++ l9 (ci0 k e.kids) reg) (fr ++ ch3 (l9 (ci0 k e.kids) reg).length n) at0 n 6 reg e.kind reg (reg + 1) (by have := ay0 (k := k) (reg := reg) r2; have := aL3 (e := e) (n := n) (k := k) (reg := reg) r3; omega) (by have := ay0 (k := k) (reg := reg) r2; have := aL3 (e := e) (n := n) (k := k) (reg := reg) r3; omega))) [0, 1, 2, 5, 80, 81] [.dead, .dead, dE e.kids, .box [.ref 4, .ref 5, iA at0], .row 86 (D.instrs (l ++ l9 (ci0 k e.kids) reg ++ [d7.mk 6 reg e.kind reg (reg + 1)])), .row 3 (D.ints (fr ++ ch3 (l9 (ci0 k e.kids) reg).length n ++ [n]))] [(8, .ptr 3 0)] [wO (reg + 1)] (o1 (by omega)) fun G => b6 (wp_ret ?_))))); exact K8 G [0, 1, 2, 4, 5] (by show _ = mR [0, 1, 2, 4, 5] (ab7 e l fr n reg); unfold ab7; have e1 : (l ++ c8 e reg : List d7) = (l ++ l9 (ci0 k e.kids) reg ++ [d7.mk 6 reg e.kind reg (reg + 1)]) := (bf2 (by omega) (by omega) (by omega) (la0 (by omega) (by omega))); have e2 : (fr ++ ch3 (c8 e reg).length n : List Int) = (fr ++ ch3 (l9 (ci0 k e.kids) reg).length n ++ [n]) := (aY2 (by omega) (by omega) (by omega)); (first | rw [e1, e2] | simp only [e1, e2]) <;> rfl)
      · refine wp_seq (N7 G (s8 9 [6, 7] (G4 (l ++ l9 (ci0 k e.kids) reg) (fr ++ ch3 (l9 (ci0 k e.kids) reg).length n) at0 n 7 reg reg (reg + 1) (reg + 2) (by have := ay0 (k := k) (reg := reg) r2; have := aL3 (e := e) (n := n) (k := k) (reg := reg) r3; omega) (by have := ay0 (k := k) (reg := reg) r2; have := aL3 (e := e) (n := n) (k := k) (reg := reg) r3; omega))) [0, 1, 2, 3, 4, 5, 6, 7, 80, 81] [.dead, .dead, dE e.kids, .box [.ref 6, .ref 7, iA at0], .box (eL e 2), .box [.ref 8, .ref 9, iA at0], .dead, .dead, .row 86 (D.instrs (l ++ l9 (ci0 k e.kids) reg ++ [d7.mk 7 reg reg (reg + 1) (reg + 2)])), .row 3 (D.ints (fr ++ ch3 (l9 (ci0 k e.kids) reg).length n ++ [n]))] (Z0 n reg []) [wO (reg + 1), wO (reg + 2)] (o2 (by omega)) fun G => b6 (wp_ret (z5 (l6 ?_)))); exact K8 G [0, 1, 2, 8, 9] (by show _ = mR [0, 1, 2, 8, 9] (ab7 e l fr n reg); unfold ab7; have e1 : (l ++ c8 e reg : List d7) = (l ++ l9 (ci0 k e.kids) reg ++ [d7.mk 7 reg reg (reg + 1) (reg + 2)]) := (bf2 (by omega) (by omega) (by omega) (cg0 (by omega))); have e2 : (fr ++ ch3 (c8 e reg).length n : List Int) = (fr ++ ch3 (l9 (ci0 k e.kids) reg).length n ++ [n]) := (aY2 (by omega) (by omega) (by omega)); (first | rw [e1, e2] | simp only [e1, e2]) <;> rfl)
     · refine wp_seq (j8 G (s8 7 [6, 7] (G4 (l ++ l9 (ci0 k e.kids) reg) (fr ++ ch3 (l9 (ci0 k e.kids) reg).length n) at0 n 4 reg e.value reg 0 (by have := ay0 (k := k) (reg := reg) r2; have := aL3 (e := e) (n := n) (k := k) (reg := reg) r3; omega) (by have := ay0 (k := k) (reg := reg) r2; have := aL3 (e := e) (n := n) (k := k) (reg := reg) r3; omega))) [0, 1, 2, 3, 4, 5, 6, 7, 64, 65] [.dead, .dead, dE e.kids, .box [.ref 6, .ref 7, iA at0], .box (eL e 2), .box [.ref 8, .ref 9, iA at0], .dead, .dead, .row 86 (D.instrs (l ++ l9 (ci0 k e.kids) reg ++ [d7.mk 4 reg e.value reg 0])), .row 3 (D.ints (fr ++ ch3 (l9 (ci0 k e.kids) reg).length n ++ [n]))] (Z0 n reg []) fun G => b6 (wp_ret (z5 (l6 ?_)))); exact K8 G [0, 1, 2, 8, 9] (by show _ = mR [0, 1, 2, 8, 9] (ab7 e l fr n reg); unfold ab7; have e1 : (l ++ c8 e reg : List d7) = (l ++ l9 (ci0 k e.kids) reg ++ [d7.mk 4 reg e.value reg 0]) := (bf2 (by omega) (by omega) (by omega) (la3 (by omega))); have e2 : (fr ++ ch3 (c8 e reg).length n : List Int) = (fr ++ ch3 (l9 (ci0 k e.kids) reg).length n ++ [n]) := (aY2 (by omega) (by omega) (by omega)); (first | rw [e1, e2] | simp only [e1, e2]) <;> rfl)
    · refine wp_skip (b6 (wp_seq (wp_block (O1 G (s8 10 [6, 7, 56] (ih (e.kids.getD k ch2) (au1 (by omega)) (l ++ l9 (ci0 k e.kids) reg) (fr ++ ch3 (l9 (ci0 k e.kids) reg).length n) at0 n (reg + (k : Int)) (by omega) ((bZ5 r0 r1 (by omega)).2) (bZ6 r2 (by omega)) (aL3 r3))) [0, 0, 0, 4, 0, 28, 60, 0, 0, 384, 1023, 2047] [0, 1, 2, 3, 4, 5, 88, 89] (aS3 e at0 [.row 86 (D.instrs (l ++ l9 (ci0 k e.kids) reg ++ c8 (e.kids.getD k ch2) (reg + (k : Int)))), .row 3 (D.ints (fr ++ ch3 (l9 (ci0 k e.kids) reg).length n ++ ch3 (c8 (e.kids.getD k ch2) (reg + (k : Int))).length n))]) (Z0 n reg [(9, iA k)]) (iX k k e.kids.length ((wO (reg + (k : Int))) :: [])) (iK (by omega) (o1 (by omega))) fun G => l0 (b6 (E0 G d9 [(9, iA ((k : Int) + 1))] [wO ((k : Int) + 1)] (o1 (by omega)) fun G => b6 ?_)))))); exact I9 G (k + 1) (by omega) (by omega) (rg 8) (by have e1 : (l ++ l9 (ci0 (k + 1) e.kids) reg : List d7) = (l ++ l9 (ci0 k e.kids) reg ++ c8 (e.kids.getD k ch2) (reg + (k : Int))) := (bO4 (by omega)); have e2 : (fr ++ ch3 (l9 (ci0 (k + 1) e.kids) reg).length n : List Int) = (fr ++ ch3 (l9 (ci0 k e.kids) reg).length n ++ ch3 (c8 (e.kids.getD k ch2) (reg + (k : Int))).length n) := (bF3 (by omega)); (first | rw [e1, e2] | simp only [e1, e2]) <;> rfl)
   · refine wp_seq (j8 G (s8 6 [0, 1] (G4 l fr at0 n 2 reg e.value 0 0 (by omega) (by omega))) [0, 1, 2, 3, 4, 5, 54, 55] [.dead, .dead, dE e.kids, .box [.ref 0, .ref 1, iA at0], .box (eL e 2), .box [.ref 6, .ref 7, iA at0], .row 86 (D.instrs (l ++ [d7.mk 2 reg e.value 0 0])), .row 3 (D.ints (fr ++ [n]))] (Z0 n reg []) fun G => b6 (wp_ret (z5 (l6 ?_)))); exact K8 G [0, 1, 2, 6, 7] (by show _ = mR [0, 1, 2, 6, 7] (ab7 e l fr n reg); unfold ab7; rw [ce2 (by omega)] <;> rfl)
  · refine wp_seq (j8 G (s8 6 [0, 1] (G4 l fr at0 n 1 reg e.value 0 0 (by omega) (by omega))) [0, 1, 2, 3, 4, 5, 54, 55] [.dead, .dead, dE e.kids, .box [.ref 0, .ref 1, iA at0], .box (eL e 2), .box [.ref 6, .ref 7, iA at0], .row 86 (D.instrs (l ++ [d7.mk 1 reg e.value 0 0])), .row 3 (D.ints (fr ++ [n]))] (Z0 n reg []) fun G => b6 (wp_ret (z5 (l6 ?_)))); exact K8 G [0, 1, 2, 6, 7] (by show _ = mR [0, 1, 2, 6, 7] (ab7 e l fr n reg); unfold ab7; rw [ce1 (by omega)] <;> rfl)
theorem a75 (e : c6) : ∀ (l : List d7) (fr : List Int) (at0 n reg : Int), 0 ≤ reg → reg + z7 e ≤ 2000000 → l.length + z7 e ≤ 5000000 → fr.length = l.length → j9.ok Tryz.prog (l7C l fr at0 n e reg) :=
 c6.ind (P := fun e => ∀ (l : List d7) (fr : List Int) (at0 n reg : Int), 0 ≤ reg → reg + z7 e ≤ 2000000 → l.length + z7 e ≤ 5000000 → fr.length = l.length → j9.ok Tryz.prog (l7C l fr at0 n e reg)) (fun k v ks ih l fr at0 n reg r0 r1 r2 r3 => bx3 ⟨k, v, ks⟩ (fun u hu => ih u hu) l fr at0 n reg r0 r1 r2 r3) e
theorem af8 (op : Int) (r0 : 1 ≤ op ∧ op ≤ 13) : j9.ok Tryz.prog (T5 218 [iA op] [] (.v (.string ⟨(i9 op).toArray⟩))) :=
 aV9 fun φ w ρ h => (ao6 op w r0.1 r0.2).mono fun e w' h => h
theorem an4 (b : List UInt8) (j : Int) (r0 : 0 ≤ j) (r1 : j ≤ 900000000) : j9.ok Tryz.prog ⟨244, [.ptr 0 0], [.box [.ref 1, iA j], dY b], [.box [.ref 1, iA (j + 1)], dY b], iA (nm b j vaL)⟩ := by
 refine E9 6 Tryz.func244 [.box [.ref 1, iA j], dY b] [(0, .ptr 0 0)] fun G => ?_; refine wp_seq (k8 G d9 [(2, iA 0)] fun G => b6 (wp_seq (j8 G (s8 2 [0, 1, 10] (j9.lend (R1 b j ([0] ++ ([1] ++ ([2] ++ ([3] ++ ([255] ++ ([128] ++ ([7] ++ ([4] ++ ([100] ++ []))))))))) (List.cons_ne_nil _ _) (by assumption) (by omega)) [.no, .no, .row 3])) [0, 1] [.box [.ref 1, iA (j + 1)], dY b] [(2, iA (nm b j ([0] ++ ([1] ++ ([2] ++ ([3] ++ ([255] ++ ([128] ++ ([7] ++ ([4] ++ ([100] ++ [])))))))))))] fun G => b6 (wp_ret ?_)))); exact K8 G [0, 1]
theorem bW0 : ∀ x ∈ opL, 1 ≤ x ∧ x ≤ 12 := by decide
theorem ce7 (b : List UInt8) {j : Int} (r0 : 0 ≤ j) (r1 : j ≤ 900000000) : 1 ≤ nm b j opL ∧ nm b j opL ≤ 12 := bW0 _ (aw9 b r0 (by omega) (List.cons_ne_nil _ _))
abbrev rnC (b : List UInt8) (j : Int) (vs ars : List Int) (l : List d7) (at0 n : Int) : j9 := ⟨217, [.ptr 0 0, .agg [.ref 2, .ref 3, .ref 4], iA at0, iA n], [.box [.ref 1, iA j], dY b, dI vs, dI ars, dN l], [.box [.ref 1, iA (Z5 b j vs.length ars.length at0 n).2], dY b, dI vs, dI ars, dN l], .agg [iA (Z5 b j vs.length ars.length at0 n).1.op, iA (Z5 b j vs.length ars.length at0 n).1.a, iA (Z5 b j vs.length ars.length at0 n).1.b, iA (Z5 b j vs.length ars.length at0 n).1.c, iA (Z5 b j vs.length ars.length at0 n).1.d]⟩
theorem a01 {x : UInt8} {m : Nat} (h : ((x.toNat : Nat) : Int) = m) (hm : m < 256) : x = UInt8.ofNat m := by
 apply UInt8.toNat_inj.1
 rw [UInt8.toNat_ofNat']
 omega
section
variable {b : List UInt8} {j i at0 n X : Int} {nv na : Nat} {ks : List UInt8} {k : Nat} {x : UInt8}
theorem aB7 (hX : nm b j opL = X) (h : na = 0) (h2 : X = 4 ∨ X = 5) : opD b j na = 2 := by unfold opD; rw [hX, if_pos ⟨h, h2⟩]
theorem aB6 (hX : nm b j opL = X) (h : ¬ na = 0 ∨ (¬ X = 4 ∧ ¬ X = 5)) : opD b j na = X := by unfold opD; rw [hX, if_neg (by omega)]
theorem ae1 (b : List UInt8) {i m : Int} (h0 : 0 ≤ i) (h1 : i ≤ 1000000000) : 0 ≤ pk b i m ∧ (pk b i m = 0 ∨ pk b i m < m) := by
 by_cases h : m < 1
 ·rw [b47 h]; omega
 ·have := bV6 b h0 h1 (n := m) (by omega); omega
theorem bK3 (h : ((x.toNat : Nat) : Int) = 114) : ptD b i nv na at0 n x = pk b i 3 := by
 rw [a01 (m := 114) h (by decide)]; rfl
theorem bK5 (h : ((x.toNat : Nat) : Int) = 99) : ptD b i nv na at0 n x = nm b i vaL := by
 rw [a01 (m := 99) h (by decide)]; rfl
theorem bK1 (h : ((x.toNat : Nat) : Int) = 118) : ptD b i nv na at0 n x = pk b i nv := by
 rw [a01 (m := 118) h (by decide)]; rfl
theorem bK6 (h : ((x.toNat : Nat) : Int) = 97) : ptD b i nv na at0 n x = pk b i na := by
 rw [a01 (m := 97) h (by decide)]; rfl
theorem bK4 (h : ((x.toNat : Nat) : Int) = 111) : ptD b i nv na at0 n x = 4 + pk b i 7 := by
 rw [a01 (m := 111) h (by decide)]; rfl
theorem bK2 (h1 : ¬ ((x.toNat : Nat) : Int) = 114) (h2 : ¬ ((x.toNat : Nat) : Int) = 99) (h3 : ¬ ((x.toNat : Nat) : Int) = 118) (h4 : ¬ ((x.toNat : Nat) : Int) = 97) (h5 : ¬ ((x.toNat : Nat) : Int) = 111) : ptD b i nv na at0 n x = at0 + 1 + pk b i (n - at0 - 1) := by
 unfold ptD
 rw [if_neg fun e => h1 (by rw [e]; rfl), if_neg fun e => h2 (by rw [e]; rfl), if_neg fun e => h3 (by rw [e]; rfl), if_neg fun e => h4 (by rw [e]; rfl), if_neg fun e => h5 (by rw [e]; rfl)]
theorem cd9 {v : Int} (hk : k < 4) (h : ptD b (j + k) nv na at0 n (ks.getD k 0) = v) : psD b j nv na at0 n ks (k + 1) = (psD b j nv na at0 n ks k).set k v := by rw [by9 b j nv na at0 n ks hk, h]
theorem fl2 : (i9 2).length = 2 := rfl
theorem bsz (l : List UInt8) : (ByteArray.mk l.toArray).size = l.length := by simp [ByteArray.size]
theorem cc9 (ho : opD b j na = X) (hk : (i9 X).length ≤ k) (hk2 : k ≤ (i9 X).length) : Z5 b j nv na at0 n = (⟨X, (psD b (j + 1) nv na at0 n (i9 X) k).getD 0 0, (psD b (j + 1) nv na at0 n (i9 X) k).getD 1 0, (psD b (j + 1) nv na at0 n (i9 X) k).getD 2 0, (psD b (j + 1) nv na at0 n (i9 X) k).getD 3 0⟩, j + 1 + k) := by
 have e : k = (i9 X).length := by omega
 subst e
 unfold Z5
 rw [ho]
def RnR (b : List UInt8) (j at0 n : Int) (nv na : Nat) (R : Int → Nat → List Int) : Prop := ∀ X k, R X k = psD b (j + 1) nv na at0 n (i9 X) k
variable {R : Int → Nat → List Int}
theorem RnR.len (h : RnR b j at0 n nv na R) (X : Int) (k : Nat) : (R X k).length = 4 := by rw [h X k, bk7]
theorem RnR.start (h : RnR b j at0 n nv na R) (X : Int) : R X 0 = [0, 0, 0, 0] := h X 0
theorem RnR.next (h : RnR b j at0 n nv na R) {X v : Int} (hk : k < 4) (hp : ptD b (j + 1 + k) nv na at0 n ((i9 X).getD k 0) = v) : R X (k + 1) = (R X k).set k v := by rw [h X (k + 1), h X k]; exact cd9 hk hp
theorem RnR.done (h : RnR b j at0 n nv na R) {X : Int} (ho : opD b j na = X) (hk : (i9 X).length ≤ k) (hk2 : k ≤ (i9 X).length) : Z5 b j nv na at0 n = (⟨X, (R X k).getD 0 0, (R X k).getD 1 0, (R X k).getD 2 0, (R X k).getD 3 0⟩, j + 1 + k) := by rw [h X k]; exact cc9 ho hk hk2
end
abbrev b08 : It := .box [iA 0, iA 0, iA 0, iA 0, iA 0]
abbrev K2 (j : Int) (k : Nat) : It := .box [.ref 1, iA (j + 1 + (k : Int) + 1)]
abbrev P2 (X : Int) : AV := .v (.string (ByteArray.mk (i9 X).toArray))
abbrev P1 : AV := .v (.string (ByteArray.mk (i9 2).toArray))
abbrev S4 : It := .box [iA 2, iA 0, iA 0, iA 0, iA 0]
abbrev U9 (X : Int) : It := .box [iA X, iA 0, iA 0, iA 0, iA 0]
abbrev az6 (j : Int) (k : Nat) : It := .box [.ref 1, iA (j + 1 + (k : Int))]
abbrev bj0 : It := .row 3 (D.ints ([0] ++ ([0] ++ ([0] ++ ([0] ++ [])))))
abbrev y6 (at0 : Int) (n : Int) (r0 : List (Nat × AV)) : List (Nat × AV) := (0, .ptr 0 0) :: (2, iA at0) :: (3, iA n) :: (5, .ptr 5 0) :: (8, .ptr 6 0) :: (9, .ptr 7 0) :: r0
abbrev B9 (b : List UInt8) (vs : List Int) (ars : List Int) (l : List d7) (r0 : List It) : List It := dY b :: dI vs :: dI ars :: dN l :: .box (pL 2) :: b08 :: r0
abbrev F6 (k : Nat) (r0 : List (Nat × AV)) : List (Nat × AV) := (11, .ref 8) :: (12, iA (k : Int)) :: r0
theorem bb4 (b : List UInt8) (j : Int) (vs ars : List Int) (l : List d7) (at0 n X : Int) (hX : nm b j opL = X) (r0 : 0 ≤ j) (r1 : j ≤ 800000000) (r2 : 0 ≤ at0 ∧ at0 ≤ 100) (r3 : 0 ≤ n ∧ n ≤ 100) : j9.ok Tryz.prog (rnC b j vs ars l at0 n) := by
  have hnum : j9.ok Tryz.prog ⟨122, [.ptr 0 0, .ref 2], [.box [.ref 1, iA j], dY b, dI opL], [.box [.ref 1, iA (j + 1)], dY b, dI opL], iA X⟩ := hX ▸ R1 b j opL (List.cons_ne_nil _ _) r0 (by omega); refine E9 114 Tryz.func217 [.box [.ref 1, iA j], dY b, dI vs, dI ars, dN l] [(0, .ptr 0 0), (1, pA 2), (2, iA at0), (3, iA n)] fun G => ?_; obtain ⟨R, hR⟩ : ∃ x : Int → Nat → List Int, RnR b j at0 n vs.length ars.length x := ⟨_, fun _ _ => rfl⟩; have hRl := hR.len; have hop : 1 ≤ X ∧ X ≤ 12 := hX ▸ ce7 b r0 (by omega); refine wp_seq (j8 G d9 [0, 1, 2, 3, 4, 5, 13] (.box [.ref 1, iA j] :: (B9 b vs ars l [])) [(0, .ptr 0 0), (2, iA at0), (3, iA n), (5, .ptr 5 0), (8, .ptr 6 0)] fun G => b6 (wp_seq (j8 G (s8 2 [0, 1, 15] (j9.lend hnum [.no, .no, .row 3])) [0, 1, 2, 3, 4, 5, 6, 39] (.box [.ref 1, iA (j + 1)] :: (B9 b vs ars l [U9 X])) (y6 at0 n []) fun G => b6 (wp_seq (wp_seq ?_))))); cases h0 : ((ars.length : Int) == 0)
  ·
   have q0 := ne_of_beq_false h0; refine k8 G (J1 (fc h0 fz) (us [(5, 8, 0), (12, 12, 0), (1013, 1013, 0)])) [(30, bA false)] fun G => b6 (rF G false (by kernel_rfl) (wp_skip (b6 (wp_seq (k8 G (s8 2 [] (af8 X (by omega))) [(10, P2 X)] fun G => b6 (wp_seq (j8 G d9 (rg 9) (.box [.ref 1, iA (j + 1)] :: (B9 b vs ars l [U9 X, bj0])) (y6 at0 n [(10, P2 X), (11, .ref 8)]) fun G => b6 (wp_seq (wp_seq (D2 G d9 (y6 at0 n [(10, P2 X), (11, .ref 8), (12, iA 0)]) fun G => b6 (wp_block ?_))))))))))); replace G := G.as [.box [.ref 1, iA (j + 1 + (0 : Int))], dY b, dI vs, dI ars, dN l, .box (pL 2), .box [iA 0, iA 0, iA 0, iA 0, iA 0], .box [iA X, iA 0, iA 0, iA 0, iA 0], .row 3 (D.ints (R X 0))] (y6 at0 n [(10, .v (.string (ByteArray.mk (i9 X).toArray))), (11, .ref 8), (12, iA 0)]) (by have e1 : (j + 1 + (0 : Int) : Int) = (j + 1) := (by omega); have e2 : (R X 0 : List Int) = ([0] ++ ([0] ++ ([0] ++ ([0] ++ [])))) := (hR.start _); (first | rw [e1, e2] | simp only [e1, e2]) <;> rfl) (by kernel_rfl); refine t0 (κ := Nat) (fun k => k ≤ (i9 X).length) (fun k => (i9 X).length - k) (fun k => [.box [.ref 1, iA (j + 1 + k)], dY b, dI vs, dI ars, dN l, .box (pL 2), .box [iA 0, iA 0, iA 0, iA 0, iA 0], .box [iA X, iA 0, iA 0, iA 0, iA 0], .row 3 (.ints (R X k))]) (fun k => [(0, .ptr 0 0), (2, iA at0), (3, iA n), (5, .ptr 5 0), (8, .ptr 6 0), (9, .ptr 7 0), (10, .v (.string (ByteArray.mk (i9 X).toArray))), (11, .ref 8), (12, iA k)]) 0 (by omega) (t7.at G _ _) ?_; clear G; intro k ρ a w hp G; replace G := t7.at G (az6 j k :: (B9 b vs ars l [U9 X, .row 3 (D.ints (R X k))])) (y6 at0 n ((10, P2 X) :: (F6 k []))); have hfl := T6 X; have hbz := bsz (i9 X); refine wp_seq (wp_seq (k8 G d9 [(39, bA (decide ((k : Int) < ((ByteArray.mk (i9 X).toArray).size : Int))))] fun G => b6 (rcD G (fun h3 q3 => ?_) fun h3 q3 => ?_)))
   · refine wp_exit (s7 (s7 (r8 (b6 (wp_seq (O1 G d9 [0, 1, 0, 4, 12, 0, 32, 96, 0, 256, 768, 0, 2048, 6144, 16383, 32767] [0, 1, 2, 3, 4, 6] [az6 j k, dY b, dI vs, dI ars, dN l, .box [iA X, iA ((R X k).getD 0 0), iA ((R X k).getD 1 0), iA ((R X k).getD 2 0), iA ((R X k).getD 3 0)]] [(8, .ptr 5 0)] [(0 : Int) ≤ 0, (0 : Int) < ((R X k).length : Int), (0 : Nat) < (R X k).length, (0 : Int) ≤ 1, (1 : Int) < ((R X k).length : Int), (1 : Nat) < (R X k).length, (0 : Int) ≤ 2, (2 : Int) < ((R X k).length : Int), (2 : Nat) < (R X k).length, (0 : Int) ≤ 3, (3 : Int) < ((R X k).length : Int), (3 : Nat) < (R X k).length] ⟨(by omega), (by rw [hRl]; decide), (by rw [hRl]; decide), (by omega), (by rw [hRl]; decide), (by rw [hRl]; decide), (by omega), (by rw [hRl]; decide), (by rw [hRl]; decide), (by omega), (by rw [hRl]; decide), (by rw [hRl]; decide), ci7⟩ fun G => b6 (wp_ret ?_))))))); exact U2 (.agg [iA X, iA ((R X k).getD 0 0), iA ((R X k).getD 1 0), iA ((R X k).getD 2 0), iA ((R X k).getD 3 0)]) G (rg 5) (by have e1 : ((Z5 b j vs.length ars.length at0 n).fst.op : Int) = (X) := (by rw [hR.done (k := k) (aB6 hX (by omega)) (by omega) (by omega)]; done); have e2 : ((Z5 b j vs.length ars.length at0 n).fst.a : Int) = ((R X k).getD 0 0) := (by rw [hR.done (k := k) (aB6 hX (by omega)) (by omega) (by omega)]; done); have e3 : ((Z5 b j vs.length ars.length at0 n).fst.b : Int) = ((R X k).getD 1 0) := (by rw [hR.done (k := k) (aB6 hX (by omega)) (by omega) (by omega)]; done); have e4 : ((Z5 b j vs.length ars.length at0 n).fst.c : Int) = ((R X k).getD 2 0) := (by rw [hR.done (k := k) (aB6 hX (by omega)) (by omega) (by omega)]; done); have e5 : ((Z5 b j vs.length ars.length at0 n).fst.d : Int) = ((R X k).getD 3 0) := (by rw [hR.done (k := k) (aB6 hX (by omega)) (by omega) (by omega)]; done); (first | rw [e1, e2, e3, e4, e5] | simp only [e1, e2, e3, e4, e5]) <;> rfl) (by show _ = mR (rg 5) [.box [.ref 1, iA (Z5 b j vs.length ars.length at0 n).snd], dY b, dI vs, dI ars, dN l]; rw [hR.done (k := k) (aB6 hX (by omega)) (by omega) (by omega)] <;> rfl)
   ·
    refine wp_skip (b6 (wp_seq (wp_block (wp_seq (E0 G d9 [(44, .v (.int .u8 (((i9 X).getD k 0).toNat : Int)))] [(0 : Int) ≤ (k : Int), (k : Int) < ((ByteArray.mk (i9 X).toArray).size : Int)] ⟨(by omega), (by assumption), ci7⟩ fun G => b6 (wp_block (wp_seq (k8 G d9 [(57, bA ((((i9 X).getD k 0).toNat : Int) == 114))] fun G => b6 (J7 (u := (((i9 X).getD k (0 : UInt8)).toNat : Int)) (v := (114 : Int)) G (fun h4 q4 => ?_) fun h4 q4 => ?_)))))))))
    ·
     refine wp_seq (k8 G d9 [(64, bA ((((i9 X).getD k 0).toNat : Int) == 99))] fun G => b6 (J7 (u := (((i9 X).getD k (0 : UInt8)).toNat : Int)) (v := (99 : Int)) G (fun h5 q5 => ?_) fun h5 q5 => ?_))
     ·
      refine wp_seq (k8 G d9 [(71, bA ((((i9 X).getD k 0).toNat : Int) == 118))] fun G => b6 (J7 (u := (((i9 X).getD k (0 : UInt8)).toNat : Int)) (v := (118 : Int)) G (fun h6 q6 => ?_) fun h6 q6 => ?_))
      ·
       refine wp_seq (k8 G d9 [(81, bA ((((i9 X).getD k 0).toNat : Int) == 97))] fun G => b6 (J7 (u := (((i9 X).getD k (0 : UInt8)).toNat : Int)) (v := (97 : Int)) G (fun h7 q7 => ?_) fun h7 q7 => ?_))
       ·
        refine wp_seq (k8 G d9 [(91, bA ((((i9 X).getD k 0).toNat : Int) == 111))] fun G => b6 (J7 (u := (((i9 X).getD k (0 : UInt8)).toNat : Int)) (v := (111 : Int)) G (fun h8 q8 => ?_) fun h8 q8 => ?_))
        · refine N7 G (s8 9 [0, 1] (t5 b (j + 1 + (k : Int)) (n - at0 - 1) (by omega) (by omega))) (rg 9) (K2 j k :: (B9 b vs ars l [U9 X, .row 3 (D.ints ((R X k).set k (at0 + 1 + pk b (j + 1 + (k : Int)) (n - at0 - 1))))])) (y6 at0 n ((10, P2 X) :: (F6 k []))) ((wO (at0 + 1)) :: ((wO (n - at0)) :: ((wO (n - at0 - 1)) :: ((wO (at0 + 1 + pk b (j + 1 + (k : Int)) (n - at0 - 1))) :: (iX k k ((R X k).length) []))))) ⟨oW (by omega), ⟨oW (by omega), ⟨oW (by omega), ⟨(by have h9 := ae1 b (i := j + 1 + k) (m := n - at0 - 1) (by omega) (by omega); exact w64 (by omega) (by omega)), (iK (by rw [hRl]; omega) ci7)⟩⟩⟩⟩ fun G => l0 (l0 (b6 (E0 G d9 [(12, iA ((k : Int) + 1))] [wO ((k : Int) + 1)] (o1 (by omega)) fun G => b6 ?_))); exact I9 G (k + 1) (by omega) (by omega) (rg 9) (by have e1 : (j + 1 + (↑(k + 1) : Int) : Int) = (j + 1 + (k : Int) + 1) := (by omega); have e2 : (R X (k + 1) : List Int) = ((R X k).set k (at0 + 1 + pk b (j + 1 + (k : Int)) (n - at0 - 1))) := (hR.next (by omega) (bK2 (by with_reducible assumption) (by with_reducible assumption) (by with_reducible assumption) (by with_reducible assumption) (by with_reducible assumption))); (first | rw [e1, e2] | simp only [e1, e2]) <;> rfl)
        · refine N7 G (s8 3 [0, 1] (t5 b (j + 1 + (k : Int)) 7 (by omega) (by omega))) (rg 9) (K2 j k :: (B9 b vs ars l [U9 X, .row 3 (D.ints ((R X k).set k (4 + pk b (j + 1 + (k : Int)) 7)))])) (y6 at0 n ((10, P2 X) :: (F6 k []))) ((wO ((4 : Int) + pk b (j + 1 + (k : Int)) (7 : Int))) :: (iX k k ((R X k).length) [])) ⟨(by have h9 := ae1 b (i := j + 1 + k) (m := 7) (by omega) (by omega); exact w64 (by omega) (by omega)), (iK (by rw [hRl]; omega) ci7)⟩ fun G => l0 (l0 (b6 (E0 G d9 [(12, iA ((k : Int) + 1))] [wO ((k : Int) + 1)] (o1 (by omega)) fun G => b6 ?_))); exact I9 G (k + 1) (by omega) (by omega) (rg 9) (by have e1 : (j + 1 + (↑(k + 1) : Int) : Int) = (j + 1 + (k : Int) + 1) := (by omega); have e2 : (R X (k + 1) : List Int) = ((R X k).set k (4 + pk b (j + 1 + (k : Int)) 7)) := (hR.next (by omega) (bK4 (by with_reducible assumption))); (first | rw [e1, e2] | simp only [e1, e2]) <;> rfl)
       · refine N7 G (s8 6 [0, 1] (t5 b (j + 1 + (k : Int)) ((ars.length : Int)) (by omega) (by omega))) (rg 9) (K2 j k :: (B9 b vs ars l [U9 X, .row 3 (D.ints ((R X k).set k (pk b (j + 1 + (k : Int)) (ars.length : Int))))])) (y6 at0 n ((10, P2 X) :: (F6 k []))) (iX k k ((R X k).length) []) (iK (by rw [hRl]; omega) ci7) fun G => l0 (l0 (b6 (E0 G d9 [(12, iA ((k : Int) + 1))] [wO ((k : Int) + 1)] (o1 (by omega)) fun G => b6 ?_))); exact I9 G (k + 1) (by omega) (by omega) (rg 9) (by have e1 : (j + 1 + (↑(k + 1) : Int) : Int) = (j + 1 + (k : Int) + 1) := (by omega); have e2 : (R X (k + 1) : List Int) = ((R X k).set k (pk b (j + 1 + (k : Int)) (ars.length : Int))) := (hR.next (by omega) (bK6 (by with_reducible assumption))); (first | rw [e1, e2] | simp only [e1, e2]) <;> rfl)
      · refine N7 G (s8 6 [0, 1] (t5 b (j + 1 + (k : Int)) ((vs.length : Int)) (by omega) (by omega))) (rg 9) (K2 j k :: (B9 b vs ars l [U9 X, .row 3 (D.ints ((R X k).set k (pk b (j + 1 + (k : Int)) (vs.length : Int))))])) (y6 at0 n ((10, P2 X) :: (F6 k []))) (iX k k ((R X k).length) []) (iK (by rw [hRl]; omega) ci7) fun G => l0 (l0 (b6 (E0 G d9 [(12, iA ((k : Int) + 1))] [wO ((k : Int) + 1)] (o1 (by omega)) fun G => b6 ?_))); exact I9 G (k + 1) (by omega) (by omega) (rg 9) (by have e1 : (j + 1 + (↑(k + 1) : Int) : Int) = (j + 1 + (k : Int) + 1) := (by omega); have e2 : (R X (k + 1) : List Int) = ((R X k).set k (pk b (j + 1 + (k : Int)) (vs.length : Int))) := (hR.next (by omega) (bK1 (by with_reducible assumption))); (first | rw [e1, e2] | simp only [e1, e2]) <;> rfl)
     · refine N7 G (s8 3 [0, 1] (an4 b (j + 1 + (k : Int)) (by omega) (by omega))) (rg 9) (K2 j k :: (B9 b vs ars l [U9 X, .row 3 (D.ints ((R X k).set k (nm b (j + 1 + (k : Int)) vaL)))])) (y6 at0 n ((10, P2 X) :: (F6 k []))) (iX k k ((R X k).length) []) (iK (by rw [hRl]; omega) ci7) fun G => l0 (l0 (b6 (E0 G d9 [(12, iA ((k : Int) + 1))] [wO ((k : Int) + 1)] (o1 (by omega)) fun G => b6 ?_))); exact I9 G (k + 1) (by omega) (by omega) (rg 9) (by have e1 : (j + 1 + (↑(k + 1) : Int) : Int) = (j + 1 + (k : Int) + 1) := (by omega); have e2 : (R X (k + 1) : List Int) = ((R X k).set k (nm b (j + 1 + (k : Int)) vaL)) := (hR.next (by omega) (bK5 (by with_reducible assumption))); (first | rw [e1, e2] | simp only [e1, e2]) <;> rfl)
    · refine N7 G (s8 3 [0, 1] (t5 b (j + 1 + (k : Int)) 3 (by omega) (by omega))) (rg 9) (K2 j k :: (B9 b vs ars l [U9 X, .row 3 (D.ints ((R X k).set k (pk b (j + 1 + (k : Int)) 3)))])) (y6 at0 n ((10, P2 X) :: (F6 k []))) (iX k k ((R X k).length) []) (iK (by rw [hRl]; omega) ci7) fun G => l0 (l0 (b6 (E0 G d9 [(12, iA ((k : Int) + 1))] [wO ((k : Int) + 1)] (o1 (by omega)) fun G => b6 ?_))); exact I9 G (k + 1) (by omega) (by omega) (rg 9) (by have e1 : (j + 1 + (↑(k + 1) : Int) : Int) = (j + 1 + (k : Int) + 1) := (by omega); have e2 : (R X (k + 1) : List Int) = ((R X k).set k (pk b (j + 1 + (k : Int)) 3)) := (hR.next (by omega) (bK3 (by with_reducible assumption))); (first | rw [e1, e2] | simp only [e1, e2]) <;> rfl)
  ·
   have q0 := eq_of_beq h0; cases h1 : (X == 4)
   ·
    have q1 := ne_of_beq_false h1; refine k8 G (J1 (fc h0 (fc h1 fz)) (us [(5, 8, 0), (9, 11, 1), (12, 12, 0), (1012, 1012, 1), (1013, 1013, 0)])) [(30, bA (X == 5))] fun G => b6 (J7 G (fun h2 q2 => ?_) fun h2 q2 => ?_)
    ·
     refine wp_skip (b6 (wp_seq (k8 G (s8 2 [] (af8 X (by omega))) [(10, P2 X)] fun G => b6 (wp_seq (j8 G d9 (rg 9) (.box [.ref 1, iA (j + 1)] :: (B9 b vs ars l [U9 X, bj0])) (y6 at0 n [(10, P2 X), (11, .ref 8)]) fun G => b6 (wp_seq (wp_seq (D2 G d9 (y6 at0 n [(10, P2 X), (11, .ref 8), (12, iA 0)]) fun G => b6 (wp_block ?_))))))))); replace G := G.as [.box [.ref 1, iA (j + 1 + (0 : Int))], dY b, dI vs, dI ars, dN l, .box (pL 2), .box [iA 0, iA 0, iA 0, iA 0, iA 0], .box [iA X, iA 0, iA 0, iA 0, iA 0], .row 3 (D.ints (R X 0))] (y6 at0 n [(10, .v (.string (ByteArray.mk (i9 X).toArray))), (11, .ref 8), (12, iA 0)]) (by have e1 : (j + 1 + (0 : Int) : Int) = (j + 1) := (by omega); have e2 : (R X 0 : List Int) = ([0] ++ ([0] ++ ([0] ++ ([0] ++ [])))) := (hR.start _); (first | rw [e1, e2] | simp only [e1, e2]) <;> rfl) (by kernel_rfl); refine t0 (κ := Nat) (fun k => k ≤ (i9 X).length) (fun k => (i9 X).length - k) (fun k => [.box [.ref 1, iA (j + 1 + k)], dY b, dI vs, dI ars, dN l, .box (pL 2), .box [iA 0, iA 0, iA 0, iA 0, iA 0], .box [iA X, iA 0, iA 0, iA 0, iA 0], .row 3 (.ints (R X k))]) (fun k => [(0, .ptr 0 0), (2, iA at0), (3, iA n), (5, .ptr 5 0), (8, .ptr 6 0), (9, .ptr 7 0), (10, .v (.string (ByteArray.mk (i9 X).toArray))), (11, .ref 8), (12, iA k)]) 0 (by omega) (t7.at G _ _) ?_; clear G; intro k ρ a w hp G; replace G := t7.at G (az6 j k :: (B9 b vs ars l [U9 X, .row 3 (D.ints (R X k))])) (y6 at0 n ((10, P2 X) :: (F6 k []))); have hfl := T6 X; have hbz := bsz (i9 X); refine wp_seq (wp_seq (k8 G d9 [(39, bA (decide ((k : Int) < ((ByteArray.mk (i9 X).toArray).size : Int))))] fun G => b6 (rcD G (fun h9 q9 => ?_) fun h9 q9 => ?_)))
     · refine wp_exit (s7 (s7 (r8 (b6 (wp_seq (O1 G d9 [0, 1, 0, 4, 12, 0, 32, 96, 0, 256, 768, 0, 2048, 6144, 16383, 32767] [0, 1, 2, 3, 4, 6] [az6 j k, dY b, dI vs, dI ars, dN l, .box [iA X, iA ((R X k).getD 0 0), iA ((R X k).getD 1 0), iA ((R X k).getD 2 0), iA ((R X k).getD 3 0)]] [(8, .ptr 5 0)] [(0 : Int) ≤ 0, (0 : Int) < ((R X k).length : Int), (0 : Nat) < (R X k).length, (0 : Int) ≤ 1, (1 : Int) < ((R X k).length : Int), (1 : Nat) < (R X k).length, (0 : Int) ≤ 2, (2 : Int) < ((R X k).length : Int), (2 : Nat) < (R X k).length, (0 : Int) ≤ 3, (3 : Int) < ((R X k).length : Int), (3 : Nat) < (R X k).length] ⟨(by omega), (by rw [hRl]; decide), (by rw [hRl]; decide), (by omega), (by rw [hRl]; decide), (by rw [hRl]; decide), (by omega), (by rw [hRl]; decide), (by rw [hRl]; decide), (by omega), (by rw [hRl]; decide), (by rw [hRl]; decide), ci7⟩ fun G => b6 (wp_ret ?_))))))); exact U2 (.agg [iA X, iA ((R X k).getD 0 0), iA ((R X k).getD 1 0), iA ((R X k).getD 2 0), iA ((R X k).getD 3 0)]) G (rg 5) (by have e1 : ((Z5 b j vs.length ars.length at0 n).fst.op : Int) = (X) := (by rw [hR.done (k := k) (aB6 hX (by omega)) (by omega) (by omega)]; done); have e2 : ((Z5 b j vs.length ars.length at0 n).fst.a : Int) = ((R X k).getD 0 0) := (by rw [hR.done (k := k) (aB6 hX (by omega)) (by omega) (by omega)]; done); have e3 : ((Z5 b j vs.length ars.length at0 n).fst.b : Int) = ((R X k).getD 1 0) := (by rw [hR.done (k := k) (aB6 hX (by omega)) (by omega) (by omega)]; done); have e4 : ((Z5 b j vs.length ars.length at0 n).fst.c : Int) = ((R X k).getD 2 0) := (by rw [hR.done (k := k) (aB6 hX (by omega)) (by omega) (by omega)]; done); have e5 : ((Z5 b j vs.length ars.length at0 n).fst.d : Int) = ((R X k).getD 3 0) := (by rw [hR.done (k := k) (aB6 hX (by omega)) (by omega) (by omega)]; done); (first | rw [e1, e2, e3, e4, e5] | simp only [e1, e2, e3, e4, e5]) <;> rfl) (by show _ = mR (rg 5) [.box [.ref 1, iA (Z5 b j vs.length ars.length at0 n).snd], dY b, dI vs, dI ars, dN l]; rw [hR.done (k := k) (aB6 hX (by omega)) (by omega) (by omega)] <;> rfl)
     ·
      refine wp_skip (b6 (wp_seq (wp_block (wp_seq (E0 G d9 [(44, .v (.int .u8 (((i9 X).getD k 0).toNat : Int)))] [(0 : Int) ≤ (k : Int), (k : Int) < ((ByteArray.mk (i9 X).toArray).size : Int)] ⟨(by omega), (by assumption), ci7⟩ fun G => b6 (wp_block (wp_seq (k8 G d9 [(57, bA ((((i9 X).getD k 0).toNat : Int) == 114))] fun G => b6 (J7 (u := (((i9 X).getD k (0 : UInt8)).toNat : Int)) (v := (114 : Int)) G (fun h10 q10 => ?_) fun h10 q10 => ?_)))))))))
      ·
       refine wp_seq (k8 G d9 [(64, bA ((((i9 X).getD k 0).toNat : Int) == 99))] fun G => b6 (J7 (u := (((i9 X).getD k (0 : UInt8)).toNat : Int)) (v := (99 : Int)) G (fun h11 q11 => ?_) fun h11 q11 => ?_))
       ·
        refine wp_seq (k8 G d9 [(71, bA ((((i9 X).getD k 0).toNat : Int) == 118))] fun G => b6 (J7 (u := (((i9 X).getD k (0 : UInt8)).toNat : Int)) (v := (118 : Int)) G (fun h12 q12 => ?_) fun h12 q12 => ?_))
        ·
         refine wp_seq (k8 G d9 [(81, bA ((((i9 X).getD k 0).toNat : Int) == 97))] fun G => b6 (J7 (u := (((i9 X).getD k (0 : UInt8)).toNat : Int)) (v := (97 : Int)) G (fun h13 q13 => ?_) fun h13 q13 => ?_))
         ·
          refine wp_seq (k8 G d9 [(91, bA ((((i9 X).getD k 0).toNat : Int) == 111))] fun G => b6 (J7 (u := (((i9 X).getD k (0 : UInt8)).toNat : Int)) (v := (111 : Int)) G (fun h14 q14 => ?_) fun h14 q14 => ?_))
          · refine N7 G (s8 9 [0, 1] (t5 b (j + 1 + (k : Int)) (n - at0 - 1) (by omega) (by omega))) (rg 9) (K2 j k :: (B9 b vs ars l [U9 X, .row 3 (D.ints ((R X k).set k (at0 + 1 + pk b (j + 1 + (k : Int)) (n - at0 - 1))))])) (y6 at0 n ((10, P2 X) :: (F6 k []))) ((wO (at0 + 1)) :: ((wO (n - at0)) :: ((wO (n - at0 - 1)) :: ((wO (at0 + 1 + pk b (j + 1 + (k : Int)) (n - at0 - 1))) :: (iX k k ((R X k).length) []))))) ⟨oW (by omega), ⟨oW (by omega), ⟨oW (by omega), ⟨(by have h9 := ae1 b (i := j + 1 + k) (m := n - at0 - 1) (by omega) (by omega); exact w64 (by omega) (by omega)), (iK (by rw [hRl]; omega) ci7)⟩⟩⟩⟩ fun G => l0 (l0 (b6 (E0 G d9 [(12, iA ((k : Int) + 1))] [wO ((k : Int) + 1)] (o1 (by omega)) fun G => b6 ?_))); exact I9 G (k + 1) (by omega) (by omega) (rg 9) (by have e1 : (j + 1 + (↑(k + 1) : Int) : Int) = (j + 1 + (k : Int) + 1) := (by omega); have e2 : (R X (k + 1) : List Int) = ((R X k).set k (at0 + 1 + pk b (j + 1 + (k : Int)) (n - at0 - 1))) := (hR.next (by omega) (bK2 (by with_reducible assumption) (by with_reducible assumption) (by with_reducible assumption) (by with_reducible assumption) (by with_reducible assumption))); (first | rw [e1, e2] | simp only [e1, e2]) <;> rfl)
          · refine N7 G (s8 3 [0, 1] (t5 b (j + 1 + (k : Int)) 7 (by omega) (by omega))) (rg 9) (K2 j k :: (B9 b vs ars l [U9 X, .row 3 (D.ints ((R X k).set k (4 + pk b (j + 1 + (k : Int)) 7)))])) (y6 at0 n ((10, P2 X) :: (F6 k []))) ((wO ((4 : Int) + pk b (j + 1 + (k : Int)) (7 : Int))) :: (iX k k ((R X k).length) [])) ⟨(by have h9 := ae1 b (i := j + 1 + k) (m := 7) (by omega) (by omega); exact w64 (by omega) (by omega)), (iK (by rw [hRl]; omega) ci7)⟩ fun G => l0 (l0 (b6 (E0 G d9 [(12, iA ((k : Int) + 1))] [wO ((k : Int) + 1)] (o1 (by omega)) fun G => b6 ?_))); exact I9 G (k + 1) (by omega) (by omega) (rg 9) (by have e1 : (j + 1 + (↑(k + 1) : Int) : Int) = (j + 1 + (k : Int) + 1) := (by omega); have e2 : (R X (k + 1) : List Int) = ((R X k).set k (4 + pk b (j + 1 + (k : Int)) 7)) := (hR.next (by omega) (bK4 (by with_reducible assumption))); (first | rw [e1, e2] | simp only [e1, e2]) <;> rfl)
         · refine N7 G (s8 6 [0, 1] (t5 b (j + 1 + (k : Int)) ((ars.length : Int)) (by omega) (by omega))) (rg 9) (K2 j k :: (B9 b vs ars l [U9 X, .row 3 (D.ints ((R X k).set k (pk b (j + 1 + (k : Int)) (ars.length : Int))))])) (y6 at0 n ((10, P2 X) :: (F6 k []))) (iX k k ((R X k).length) []) (iK (by rw [hRl]; omega) ci7) fun G => l0 (l0 (b6 (E0 G d9 [(12, iA ((k : Int) + 1))] [wO ((k : Int) + 1)] (o1 (by omega)) fun G => b6 ?_))); exact I9 G (k + 1) (by omega) (by omega) (rg 9) (by have e1 : (j + 1 + (↑(k + 1) : Int) : Int) = (j + 1 + (k : Int) + 1) := (by omega); have e2 : (R X (k + 1) : List Int) = ((R X k).set k (pk b (j + 1 + (k : Int)) (ars.length : Int))) := (hR.next (by omega) (bK6 (by with_reducible assumption))); (first | rw [e1, e2] | simp only [e1, e2]) <;> rfl)
        · refine N7 G (s8 6 [0, 1] (t5 b (j + 1 + (k : Int)) ((vs.length : Int)) (by omega) (by omega))) (rg 9) (K2 j k :: (B9 b vs ars l [U9 X, .row 3 (D.ints ((R X k).set k (pk b (j + 1 + (k : Int)) (vs.length : Int))))])) (y6 at0 n ((10, P2 X) :: (F6 k []))) (iX k k ((R X k).length) []) (iK (by rw [hRl]; omega) ci7) fun G => l0 (l0 (b6 (E0 G d9 [(12, iA ((k : Int) + 1))] [wO ((k : Int) + 1)] (o1 (by omega)) fun G => b6 ?_))); exact I9 G (k + 1) (by omega) (by omega) (rg 9) (by have e1 : (j + 1 + (↑(k + 1) : Int) : Int) = (j + 1 + (k : Int) + 1) := (by omega); have e2 : (R X (k + 1) : List Int) = ((R X k).set k (pk b (j + 1 + (k : Int)) (vs.length : Int))) := (hR.next (by omega) (bK1 (by with_reducible assumption))); (first | rw [e1, e2] | simp only [e1, e2]) <;> rfl)
       · refine N7 G (s8 3 [0, 1] (an4 b (j + 1 + (k : Int)) (by omega) (by omega))) (rg 9) (K2 j k :: (B9 b vs ars l [U9 X, .row 3 (D.ints ((R X k).set k (nm b (j + 1 + (k : Int)) vaL)))])) (y6 at0 n ((10, P2 X) :: (F6 k []))) (iX k k ((R X k).length) []) (iK (by rw [hRl]; omega) ci7) fun G => l0 (l0 (b6 (E0 G d9 [(12, iA ((k : Int) + 1))] [wO ((k : Int) + 1)] (o1 (by omega)) fun G => b6 ?_))); exact I9 G (k + 1) (by omega) (by omega) (rg 9) (by have e1 : (j + 1 + (↑(k + 1) : Int) : Int) = (j + 1 + (k : Int) + 1) := (by omega); have e2 : (R X (k + 1) : List Int) = ((R X k).set k (nm b (j + 1 + (k : Int)) vaL)) := (hR.next (by omega) (bK5 (by with_reducible assumption))); (first | rw [e1, e2] | simp only [e1, e2]) <;> rfl)
      · refine N7 G (s8 3 [0, 1] (t5 b (j + 1 + (k : Int)) 3 (by omega) (by omega))) (rg 9) (K2 j k :: (B9 b vs ars l [U9 X, .row 3 (D.ints ((R X k).set k (pk b (j + 1 + (k : Int)) 3)))])) (y6 at0 n ((10, P2 X) :: (F6 k []))) (iX k k ((R X k).length) []) (iK (by rw [hRl]; omega) ci7) fun G => l0 (l0 (b6 (E0 G d9 [(12, iA ((k : Int) + 1))] [wO ((k : Int) + 1)] (o1 (by omega)) fun G => b6 ?_))); exact I9 G (k + 1) (by omega) (by omega) (rg 9) (by have e1 : (j + 1 + (↑(k + 1) : Int) : Int) = (j + 1 + (k : Int) + 1) := (by omega); have e2 : (R X (k + 1) : List Int) = ((R X k).set k (pk b (j + 1 + (k : Int)) 3)) := (hR.next (by omega) (bK3 (by with_reducible assumption))); (first | rw [e1, e2] | simp only [e1, e2]) <;> rfl)
    ·
     refine j8 G d9 (rg 8) (.box [.ref 1, iA (j + 1)] :: (B9 b vs ars l [S4])) (y6 at0 n []) fun G => b6 (wp_seq (k8 G (s8 2 [] (af8 2 (by omega))) [(10, P1)] fun G => b6 (wp_seq (j8 G d9 (rg 9) (.box [.ref 1, iA (j + 1)] :: (B9 b vs ars l [S4, bj0])) (y6 at0 n [(10, P1), (11, .ref 8)]) fun G => b6 (wp_seq (wp_seq (D2 G d9 (y6 at0 n [(10, P1), (11, .ref 8), (12, iA 0)]) fun G => b6 (wp_block ?_)))))))); replace G := G.as [.box [.ref 1, iA (j + 1 + (0 : Int))], dY b, dI vs, dI ars, dN l, .box (pL 2), .box [iA 0, iA 0, iA 0, iA 0, iA 0], .box [iA 2, iA 0, iA 0, iA 0, iA 0], .row 3 (D.ints (R 2 0))] (y6 at0 n [(10, .v (.string (ByteArray.mk (i9 2).toArray))), (11, .ref 8), (12, iA 0)]) (by have e1 : (j + 1 + (0 : Int) : Int) = (j + 1) := (by omega); have e2 : (R 2 0 : List Int) = ([0] ++ ([0] ++ ([0] ++ ([0] ++ [])))) := (hR.start _); (first | rw [e1, e2] | simp only [e1, e2]) <;> rfl) (by kernel_rfl); refine t0 (κ := Nat) (fun k => k ≤ (i9 2).length) (fun k => (i9 2).length - k) (fun k => [.box [.ref 1, iA (j + 1 + k)], dY b, dI vs, dI ars, dN l, .box (pL 2), .box [iA 0, iA 0, iA 0, iA 0, iA 0], .box [iA 2, iA 0, iA 0, iA 0, iA 0], .row 3 (.ints (R 2 k))]) (fun k => [(0, .ptr 0 0), (2, iA at0), (3, iA n), (5, .ptr 5 0), (8, .ptr 6 0), (9, .ptr 7 0), (10, .v (.string (ByteArray.mk (i9 2).toArray))), (11, .ref 8), (12, iA k)]) 0 (by omega) (t7.at G _ _) ?_; clear G; intro k ρ a w hp G; replace G := t7.at G (az6 j k :: (B9 b vs ars l [S4, .row 3 (D.ints (R 2 k))])) (y6 at0 n ((10, P1) :: (F6 k []))); have hfl := T6 2; have hbz := bsz (i9 2); have hf2 := fl2; refine wp_seq (wp_seq (k8 G d9 [(39, bA (decide ((k : Int) < 2)))] fun G => b6 (rcD G (fun h15 q15 => ?_) fun h15 q15 => ?_)))
     · refine wp_exit (s7 (s7 (r8 (b6 (wp_seq (O1 G d9 [0, 1, 0, 4, 12, 0, 32, 96, 0, 256, 768, 0, 2048, 6144, 16383, 32767] [0, 1, 2, 3, 4, 6] [az6 j k, dY b, dI vs, dI ars, dN l, .box [iA 2, iA ((R 2 k).getD 0 0), iA ((R 2 k).getD 1 0), iA ((R 2 k).getD 2 0), iA ((R 2 k).getD 3 0)]] [(8, .ptr 5 0)] [(0 : Int) ≤ 0, (0 : Int) < ((R (2 : Int) k).length : Int), (0 : Nat) < (R (2 : Int) k).length, (0 : Int) ≤ 1, (1 : Int) < ((R (2 : Int) k).length : Int), (1 : Nat) < (R (2 : Int) k).length, (0 : Int) ≤ 2, (2 : Int) < ((R (2 : Int) k).length : Int), (2 : Nat) < (R (2 : Int) k).length, (0 : Int) ≤ 3, (3 : Int) < ((R (2 : Int) k).length : Int), (3 : Nat) < (R (2 : Int) k).length] ⟨(by omega), (by rw [hRl]; decide), (by rw [hRl]; decide), (by omega), (by rw [hRl]; decide), (by rw [hRl]; decide), (by omega), (by rw [hRl]; decide), (by rw [hRl]; decide), (by omega), (by rw [hRl]; decide), (by rw [hRl]; decide), ci7⟩ fun G => b6 (wp_ret ?_))))))); exact U2 (.agg [iA 2, iA ((R 2 k).getD 0 0), iA ((R 2 k).getD 1 0), iA ((R 2 k).getD 2 0), iA ((R 2 k).getD 3 0)]) G (rg 5) (by have e1 : ((Z5 b j vs.length ars.length at0 n).fst.op : Int) = (2) := (by rw [hR.done (k := k) (X := 2) (aB7 hX (by omega) (by omega)) (by omega) (by omega)]; done); have e2 : ((Z5 b j vs.length ars.length at0 n).fst.a : Int) = ((R 2 k).getD 0 0) := (by rw [hR.done (k := k) (X := 2) (aB7 hX (by omega) (by omega)) (by omega) (by omega)]; done); have e3 : ((Z5 b j vs.length ars.length at0 n).fst.b : Int) = ((R 2 k).getD 1 0) := (by rw [hR.done (k := k) (X := 2) (aB7 hX (by omega) (by omega)) (by omega) (by omega)]; done); have e4 : ((Z5 b j vs.length ars.length at0 n).fst.c : Int) = ((R 2 k).getD 2 0) := (by rw [hR.done (k := k) (X := 2) (aB7 hX (by omega) (by omega)) (by omega) (by omega)]; done); have e5 : ((Z5 b j vs.length ars.length at0 n).fst.d : Int) = ((R 2 k).getD 3 0) := (by rw [hR.done (k := k) (X := 2) (aB7 hX (by omega) (by omega)) (by omega) (by omega)]; done); (first | rw [e1, e2, e3, e4, e5] | simp only [e1, e2, e3, e4, e5]) <;> rfl) (by show _ = mR (rg 5) [.box [.ref 1, iA (Z5 b j vs.length ars.length at0 n).snd], dY b, dI vs, dI ars, dN l]; rw [hR.done (k := k) (X := 2) (aB7 hX (by omega) (by omega)) (by omega) (by omega)] <;> rfl)
     ·
      refine wp_skip (b6 (wp_seq (wp_block (wp_seq (E0 G d9 [(44, .v (.int .u8 (((i9 2).getD k 0).toNat : Int)))] [(0 : Int) ≤ (k : Int), (k : Int) < ((ByteArray.mk (i9 (2 : Int)).toArray).size : Int)] ⟨(by omega), (by assumption), ci7⟩ fun G => b6 (wp_block (wp_seq (k8 G d9 [(57, bA ((((i9 2).getD k 0).toNat : Int) == 114))] fun G => b6 (J7 (u := (((i9 (2 : Int)).getD k (0 : UInt8)).toNat : Int)) (v := (114 : Int)) G (fun h16 q16 => ?_) fun h16 q16 => ?_)))))))))
      ·
       refine wp_seq (k8 G d9 [(64, bA ((((i9 2).getD k 0).toNat : Int) == 99))] fun G => b6 (J7 (u := (((i9 (2 : Int)).getD k (0 : UInt8)).toNat : Int)) (v := (99 : Int)) G (fun h17 q17 => ?_) fun h17 q17 => ?_))
       ·
        refine wp_seq (k8 G d9 [(71, bA ((((i9 2).getD k 0).toNat : Int) == 118))] fun G => b6 (J7 (u := (((i9 (2 : Int)).getD k (0 : UInt8)).toNat : Int)) (v := (118 : Int)) G (fun h18 q18 => ?_) fun h18 q18 => ?_))
        ·
         refine wp_seq (k8 G d9 [(81, bA ((((i9 2).getD k 0).toNat : Int) == 97))] fun G => b6 (J7 (u := (((i9 (2 : Int)).getD k (0 : UInt8)).toNat : Int)) (v := (97 : Int)) G (fun h19 q19 => ?_) fun h19 q19 => ?_))
         ·
          refine wp_seq (k8 G d9 [(91, bA ((((i9 2).getD k 0).toNat : Int) == 111))] fun G => b6 (J7 (u := (((i9 (2 : Int)).getD k (0 : UInt8)).toNat : Int)) (v := (111 : Int)) G (fun h20 q20 => ?_) fun h20 q20 => ?_))
          · refine N7 G (s8 9 [0, 1] (t5 b (j + 1 + (k : Int)) (n - at0 - 1) (by omega) (by omega))) (rg 9) (K2 j k :: (B9 b vs ars l [S4, .row 3 (D.ints ((R 2 k).set k (at0 + 1 + pk b (j + 1 + (k : Int)) (n - at0 - 1))))])) (y6 at0 n ((10, P1) :: (F6 k []))) ((wO (at0 + 1)) :: ((wO (n - at0)) :: ((wO (n - at0 - 1)) :: ((wO (at0 + 1 + pk b (j + 1 + (k : Int)) (n - at0 - 1))) :: (iX k k ((R (2 : Int) k).length) []))))) ⟨oW (by omega), ⟨oW (by omega), ⟨oW (by omega), ⟨(by have h9 := ae1 b (i := j + 1 + k) (m := n - at0 - 1) (by omega) (by omega); exact w64 (by omega) (by omega)), (iK (by rw [hRl]; omega) ci7)⟩⟩⟩⟩ fun G => l0 (l0 (b6 (E0 G d9 [(12, iA ((k : Int) + 1))] [wO ((k : Int) + 1)] (o1 (by omega)) fun G => b6 ?_))); exact I9 G (k + 1) (by omega) (by omega) (rg 9) (by have e1 : (j + 1 + (↑(k + 1) : Int) : Int) = (j + 1 + (k : Int) + 1) := (by omega); have e2 : (R 2 (k + 1) : List Int) = ((R 2 k).set k (at0 + 1 + pk b (j + 1 + (k : Int)) (n - at0 - 1))) := (hR.next (by omega) (bK2 (by with_reducible assumption) (by with_reducible assumption) (by with_reducible assumption) (by with_reducible assumption) (by with_reducible assumption))); (first | rw [e1, e2] | simp only [e1, e2]) <;> rfl)
          · refine N7 G (s8 3 [0, 1] (t5 b (j + 1 + (k : Int)) 7 (by omega) (by omega))) (rg 9) (K2 j k :: (B9 b vs ars l [S4, .row 3 (D.ints ((R 2 k).set k (4 + pk b (j + 1 + (k : Int)) 7)))])) (y6 at0 n ((10, P1) :: (F6 k []))) ((wO ((4 : Int) + pk b (j + 1 + (k : Int)) (7 : Int))) :: (iX k k ((R (2 : Int) k).length) [])) ⟨(by have h9 := ae1 b (i := j + 1 + k) (m := 7) (by omega) (by omega); exact w64 (by omega) (by omega)), (iK (by rw [hRl]; omega) ci7)⟩ fun G => l0 (l0 (b6 (E0 G d9 [(12, iA ((k : Int) + 1))] [wO ((k : Int) + 1)] (o1 (by omega)) fun G => b6 ?_))); exact I9 G (k + 1) (by omega) (by omega) (rg 9) (by have e1 : (j + 1 + (↑(k + 1) : Int) : Int) = (j + 1 + (k : Int) + 1) := (by omega); have e2 : (R 2 (k + 1) : List Int) = ((R 2 k).set k (4 + pk b (j + 1 + (k : Int)) 7)) := (hR.next (by omega) (bK4 (by with_reducible assumption))); (first | rw [e1, e2] | simp only [e1, e2]) <;> rfl)
         · refine N7 G (s8 6 [0, 1] (t5 b (j + 1 + (k : Int)) ((ars.length : Int)) (by omega) (by omega))) (rg 9) (K2 j k :: (B9 b vs ars l [S4, .row 3 (D.ints ((R 2 k).set k (pk b (j + 1 + (k : Int)) (ars.length : Int))))])) (y6 at0 n ((10, P1) :: (F6 k []))) (iX k k ((R (2 : Int) k).length) []) (iK (by rw [hRl]; omega) ci7) fun G => l0 (l0 (b6 (E0 G d9 [(12, iA ((k : Int) + 1))] [wO ((k : Int) + 1)] (o1 (by omega)) fun G => b6 ?_))); exact I9 G (k + 1) (by omega) (by omega) (rg 9) (by have e1 : (j + 1 + (↑(k + 1) : Int) : Int) = (j + 1 + (k : Int) + 1) := (by omega); have e2 : (R 2 (k + 1) : List Int) = ((R 2 k).set k (pk b (j + 1 + (k : Int)) (ars.length : Int))) := (hR.next (by omega) (bK6 (by with_reducible assumption))); (first | rw [e1, e2] | simp only [e1, e2]) <;> rfl)
        · refine N7 G (s8 6 [0, 1] (t5 b (j + 1 + (k : Int)) ((vs.length : Int)) (by omega) (by omega))) (rg 9) (K2 j k :: (B9 b vs ars l [S4, .row 3 (D.ints ((R 2 k).set k (pk b (j + 1 + (k : Int)) (vs.length : Int))))])) (y6 at0 n ((10, P1) :: (F6 k []))) (iX k k ((R (2 : Int) k).length) []) (iK (by rw [hRl]; omega) ci7) fun G => l0 (l0 (b6 (E0 G d9 [(12, iA ((k : Int) + 1))] [wO ((k : Int) + 1)] (o1 (by omega)) fun G => b6 ?_))); exact I9 G (k + 1) (by omega) (by omega) (rg 9) (by have e1 : (j + 1 + (↑(k + 1) : Int) : Int) = (j + 1 + (k : Int) + 1) := (by omega); have e2 : (R 2 (k + 1) : List Int) = ((R 2 k).set k (pk b (j + 1 + (k : Int)) (vs.length : Int))) := (hR.next (by omega) (bK1 (by with_reducible assumption))); (first | rw [e1, e2] | simp only [e1, e2]) <;> rfl)
       · refine N7 G (s8 3 [0, 1] (an4 b (j + 1 + (k : Int)) (by omega) (by omega))) (rg 9) (K2 j k :: (B9 b vs ars l [S4, .row 3 (D.ints ((R 2 k).set k (nm b (j + 1 + (k : Int)) vaL)))])) (y6 at0 n ((10, P1) :: (F6 k []))) (iX k k ((R (2 : Int) k).length) []) (iK (by rw [hRl]; omega) ci7) fun G => l0 (l0 (b6 (E0 G d9 [(12, iA ((k : Int) + 1))] [wO ((k : Int) + 1)] (o1 (by omega)) fun G => b6 ?_))); exact I9 G (k + 1) (by omega) (by omega) (rg 9) (by have e1 : (j + 1 + (↑(k + 1) : Int) : Int) = (j + 1 + (k : Int) + 1) := (by omega); have e2 : (R 2 (k + 1) : List Int) = ((R 2 k).set k (nm b (j + 1 + (k : Int)) vaL)) := (hR.next (by omega) (bK5 (by with_reducible assumption))); (first | rw [e1, e2] | simp only [e1, e2]) <;> rfl)
      · refine N7 G (s8 3 [0, 1] (t5 b (j + 1 + (k : Int)) 3 (by omega) (by omega))) (rg 9) (K2 j k :: (B9 b vs ars l [S4, .row 3 (D.ints ((R 2 k).set k (pk b (j + 1 + (k : Int)) 3)))])) (y6 at0 n ((10, P1) :: (F6 k []))) (iX k k ((R (2 : Int) k).length) []) (iK (by rw [hRl]; omega) ci7) fun G => l0 (l0 (b6 (E0 G d9 [(12, iA ((k : Int) + 1))] [wO ((k : Int) + 1)] (o1 (by omega)) fun G => b6 ?_))); exact I9 G (k + 1) (by omega) (by omega) (rg 9) (by have e1 : (j + 1 + (↑(k + 1) : Int) : Int) = (j + 1 + (k : Int) + 1) := (by omega); have e2 : (R 2 (k + 1) : List Int) = ((R 2 k).set k (pk b (j + 1 + (k : Int)) 3)) := (hR.next (by omega) (bK3 (by with_reducible assumption))); (first | rw [e1, e2] | simp only [e1, e2]) <;> rfl)
   ·
    have q1 := eq_of_beq h1; refine k8 G (J1 (fc h0 (fc h1 fz)) (us [(5, 8, 0), (9, 11, 1), (12, 12, 0), (1012, 1012, 1), (1013, 1013, 0)])) [(30, bA true)] fun G => b6 (rT G true (by kernel_rfl) (j8 G d9 (rg 8) (.box [.ref 1, iA (j + 1)] :: (B9 b vs ars l [S4])) (y6 at0 n []) fun G => b6 (wp_seq (k8 G (s8 2 [] (af8 2 (by omega))) [(10, P1)] fun G => b6 (wp_seq (j8 G d9 (rg 9) (.box [.ref 1, iA (j + 1)] :: (B9 b vs ars l [S4, bj0])) (y6 at0 n [(10, P1), (11, .ref 8)]) fun G => b6 (wp_seq (wp_seq (D2 G d9 (y6 at0 n [(10, P1), (11, .ref 8), (12, iA 0)]) fun G => b6 (wp_block ?_)))))))))); replace G := G.as [.box [.ref 1, iA (j + 1 + (0 : Int))], dY b, dI vs, dI ars, dN l, .box (pL 2), .box [iA 0, iA 0, iA 0, iA 0, iA 0], .box [iA 2, iA 0, iA 0, iA 0, iA 0], .row 3 (D.ints (R 2 0))] (y6 at0 n [(10, .v (.string (ByteArray.mk (i9 2).toArray))), (11, .ref 8), (12, iA 0)]) (by have e1 : (j + 1 + (0 : Int) : Int) = (j + 1) := (by omega); have e2 : (R 2 0 : List Int) = ([0] ++ ([0] ++ ([0] ++ ([0] ++ [])))) := (hR.start _); (first | rw [e1, e2] | simp only [e1, e2]) <;> rfl) (by kernel_rfl); refine t0 (κ := Nat) (fun k => k ≤ (i9 2).length) (fun k => (i9 2).length - k) (fun k => [.box [.ref 1, iA (j + 1 + k)], dY b, dI vs, dI ars, dN l, .box (pL 2), .box [iA 0, iA 0, iA 0, iA 0, iA 0], .box [iA 2, iA 0, iA 0, iA 0, iA 0], .row 3 (.ints (R 2 k))]) (fun k => [(0, .ptr 0 0), (2, iA at0), (3, iA n), (5, .ptr 5 0), (8, .ptr 6 0), (9, .ptr 7 0), (10, .v (.string (ByteArray.mk (i9 2).toArray))), (11, .ref 8), (12, iA k)]) 0 (by omega) (t7.at G _ _) ?_; clear G; intro k ρ a w hp G; replace G := t7.at G (az6 j k :: (B9 b vs ars l [S4, .row 3 (D.ints (R 2 k))])) (y6 at0 n ((10, P1) :: (F6 k []))); have hfl := T6 2; have hbz := bsz (i9 2); have hf2 := fl2; refine wp_seq (wp_seq (k8 G d9 [(39, bA (decide ((k : Int) < 2)))] fun G => b6 (rcD G (fun h21 q21 => ?_) fun h21 q21 => ?_)))
    · refine wp_exit (s7 (s7 (r8 (b6 (wp_seq (O1 G d9 [0, 1, 0, 4, 12, 0, 32, 96, 0, 256, 768, 0, 2048, 6144, 16383, 32767] [0, 1, 2, 3, 4, 6] [az6 j k, dY b, dI vs, dI ars, dN l, .box [iA 2, iA ((R 2 k).getD 0 0), iA ((R 2 k).getD 1 0), iA ((R 2 k).getD 2 0), iA ((R 2 k).getD 3 0)]] [(8, .ptr 5 0)] [(0 : Int) ≤ 0, (0 : Int) < ((R (2 : Int) k).length : Int), (0 : Nat) < (R (2 : Int) k).length, (0 : Int) ≤ 1, (1 : Int) < ((R (2 : Int) k).length : Int), (1 : Nat) < (R (2 : Int) k).length, (0 : Int) ≤ 2, (2 : Int) < ((R (2 : Int) k).length : Int), (2 : Nat) < (R (2 : Int) k).length, (0 : Int) ≤ 3, (3 : Int) < ((R (2 : Int) k).length : Int), (3 : Nat) < (R (2 : Int) k).length] ⟨(by omega), (by rw [hRl]; decide), (by rw [hRl]; decide), (by omega), (by rw [hRl]; decide), (by rw [hRl]; decide), (by omega), (by rw [hRl]; decide), (by rw [hRl]; decide), (by omega), (by rw [hRl]; decide), (by rw [hRl]; decide), ci7⟩ fun G => b6 (wp_ret ?_))))))); exact U2 (.agg [iA 2, iA ((R 2 k).getD 0 0), iA ((R 2 k).getD 1 0), iA ((R 2 k).getD 2 0), iA ((R 2 k).getD 3 0)]) G (rg 5) (by have e1 : ((Z5 b j vs.length ars.length at0 n).fst.op : Int) = (2) := (by rw [hR.done (k := k) (X := 2) (aB7 hX (by omega) (by omega)) (by omega) (by omega)]; done); have e2 : ((Z5 b j vs.length ars.length at0 n).fst.a : Int) = ((R 2 k).getD 0 0) := (by rw [hR.done (k := k) (X := 2) (aB7 hX (by omega) (by omega)) (by omega) (by omega)]; done); have e3 : ((Z5 b j vs.length ars.length at0 n).fst.b : Int) = ((R 2 k).getD 1 0) := (by rw [hR.done (k := k) (X := 2) (aB7 hX (by omega) (by omega)) (by omega) (by omega)]; done); have e4 : ((Z5 b j vs.length ars.length at0 n).fst.c : Int) = ((R 2 k).getD 2 0) := (by rw [hR.done (k := k) (X := 2) (aB7 hX (by omega) (by omega)) (by omega) (by omega)]; done); have e5 : ((Z5 b j vs.length ars.length at0 n).fst.d : Int) = ((R 2 k).getD 3 0) := (by rw [hR.done (k := k) (X := 2) (aB7 hX (by omega) (by omega)) (by omega) (by omega)]; done); (first | rw [e1, e2, e3, e4, e5] | simp only [e1, e2, e3, e4, e5]) <;> rfl) (by show _ = mR (rg 5) [.box [.ref 1, iA (Z5 b j vs.length ars.length at0 n).snd], dY b, dI vs, dI ars, dN l]; rw [hR.done (k := k) (X := 2) (aB7 hX (by omega) (by omega)) (by omega) (by omega)] <;> rfl)
    ·
     refine wp_skip (b6 (wp_seq (wp_block (wp_seq (E0 G d9 [(44, .v (.int .u8 (((i9 2).getD k 0).toNat : Int)))] [(0 : Int) ≤ (k : Int), (k : Int) < ((ByteArray.mk (i9 (2 : Int)).toArray).size : Int)] ⟨(by omega), (by assumption), ci7⟩ fun G => b6 (wp_block (wp_seq (k8 G d9 [(57, bA ((((i9 2).getD k 0).toNat : Int) == 114))] fun G => b6 (J7 (u := (((i9 (2 : Int)).getD k (0 : UInt8)).toNat : Int)) (v := (114 : Int)) G (fun h22 q22 => ?_) fun h22 q22 => ?_)))))))))
     ·
      refine wp_seq (k8 G d9 [(64, bA ((((i9 2).getD k 0).toNat : Int) == 99))] fun G => b6 (J7 (u := (((i9 (2 : Int)).getD k (0 : UInt8)).toNat : Int)) (v := (99 : Int)) G (fun h23 q23 => ?_) fun h23 q23 => ?_))
      ·
       refine wp_seq (k8 G d9 [(71, bA ((((i9 2).getD k 0).toNat : Int) == 118))] fun G => b6 (J7 (u := (((i9 (2 : Int)).getD k (0 : UInt8)).toNat : Int)) (v := (118 : Int)) G (fun h24 q24 => ?_) fun h24 q24 => ?_))
       ·
        refine wp_seq (k8 G d9 [(81, bA ((((i9 2).getD k 0).toNat : Int) == 97))] fun G => b6 (J7 (u := (((i9 (2 : Int)).getD k (0 : UInt8)).toNat : Int)) (v := (97 : Int)) G (fun h25 q25 => ?_) fun h25 q25 => ?_))
        ·
         refine wp_seq (k8 G d9 [(91, bA ((((i9 2).getD k 0).toNat : Int) == 111))] fun G => b6 (J7 (u := (((i9 (2 : Int)).getD k (0 : UInt8)).toNat : Int)) (v := (111 : Int)) G (fun h26 q26 => ?_) fun h26 q26 => ?_))
         · refine N7 G (s8 9 [0, 1] (t5 b (j + 1 + (k : Int)) (n - at0 - 1) (by omega) (by omega))) (rg 9) (K2 j k :: (B9 b vs ars l [S4, .row 3 (D.ints ((R 2 k).set k (at0 + 1 + pk b (j + 1 + (k : Int)) (n - at0 - 1))))])) (y6 at0 n ((10, P1) :: (F6 k []))) ((wO (at0 + 1)) :: ((wO (n - at0)) :: ((wO (n - at0 - 1)) :: ((wO (at0 + 1 + pk b (j + 1 + (k : Int)) (n - at0 - 1))) :: (iX k k ((R (2 : Int) k).length) []))))) ⟨oW (by omega), ⟨oW (by omega), ⟨oW (by omega), ⟨(by have h9 := ae1 b (i := j + 1 + k) (m := n - at0 - 1) (by omega) (by omega); exact w64 (by omega) (by omega)), (iK (by rw [hRl]; omega) ci7)⟩⟩⟩⟩ fun G => l0 (l0 (b6 (E0 G d9 [(12, iA ((k : Int) + 1))] [wO ((k : Int) + 1)] (o1 (by omega)) fun G => b6 ?_))); exact I9 G (k + 1) (by omega) (by omega) (rg 9) (by have e1 : (j + 1 + (↑(k + 1) : Int) : Int) = (j + 1 + (k : Int) + 1) := (by omega); have e2 : (R 2 (k + 1) : List Int) = ((R 2 k).set k (at0 + 1 + pk b (j + 1 + (k : Int)) (n - at0 - 1))) := (hR.next (by omega) (bK2 (by with_reducible assumption) (by with_reducible assumption) (by with_reducible assumption) (by with_reducible assumption) (by with_reducible assumption))); (first | rw [e1, e2] | simp only [e1, e2]) <;> rfl)
         · refine N7 G (s8 3 [0, 1] (t5 b (j + 1 + (k : Int)) 7 (by omega) (by omega))) (rg 9) (K2 j k :: (B9 b vs ars l [S4, .row 3 (D.ints ((R 2 k).set k (4 + pk b (j + 1 + (k : Int)) 7)))])) (y6 at0 n ((10, P1) :: (F6 k []))) ((wO ((4 : Int) + pk b (j + 1 + (k : Int)) (7 : Int))) :: (iX k k ((R (2 : Int) k).length) [])) ⟨(by have h9 := ae1 b (i := j + 1 + k) (m := 7) (by omega) (by omega); exact w64 (by omega) (by omega)), (iK (by rw [hRl]; omega) ci7)⟩ fun G => l0 (l0 (b6 (E0 G d9 [(12, iA ((k : Int) + 1))] [wO ((k : Int) + 1)] (o1 (by omega)) fun G => b6 ?_))); exact I9 G (k + 1) (by omega) (by omega) (rg 9) (by have e1 : (j + 1 + (↑(k + 1) : Int) : Int) = (j + 1 + (k : Int) + 1) := (by omega); have e2 : (R 2 (k + 1) : List Int) = ((R 2 k).set k (4 + pk b (j + 1 + (k : Int)) 7)) := (hR.next (by omega) (bK4 (by with_reducible assumption))); (first | rw [e1, e2] | simp only [e1, e2]) <;> rfl)
        · refine N7 G (s8 6 [0, 1] (t5 b (j + 1 + (k : Int)) ((ars.length : Int)) (by omega) (by omega))) (rg 9) (K2 j k :: (B9 b vs ars l [S4, .row 3 (D.ints ((R 2 k).set k (pk b (j + 1 + (k : Int)) (ars.length : Int))))])) (y6 at0 n ((10, P1) :: (F6 k []))) (iX k k ((R (2 : Int) k).length) []) (iK (by rw [hRl]; omega) ci7) fun G => l0 (l0 (b6 (E0 G d9 [(12, iA ((k : Int) + 1))] [wO ((k : Int) + 1)] (o1 (by omega)) fun G => b6 ?_))); exact I9 G (k + 1) (by omega) (by omega) (rg 9) (by have e1 : (j + 1 + (↑(k + 1) : Int) : Int) = (j + 1 + (k : Int) + 1) := (by omega); have e2 : (R 2 (k + 1) : List Int) = ((R 2 k).set k (pk b (j + 1 + (k : Int)) (ars.length : Int))) := (hR.next (by omega) (bK6 (by with_reducible assumption))); (first | rw [e1, e2] | simp only [e1, e2]) <;> rfl)
       · refine N7 G (s8 6 [0, 1] (t5 b (j + 1 + (k : Int)) ((vs.length : Int)) (by omega) (by omega))) (rg 9) (K2 j k :: (B9 b vs ars l [S4, .row 3 (D.ints ((R 2 k).set k (pk b (j + 1 + (k : Int)) (vs.length : Int))))])) (y6 at0 n ((10, P1) :: (F6 k []))) (iX k k ((R (2 : Int) k).length) []) (iK (by rw [hRl]; omega) ci7) fun G => l0 (l0 (b6 (E0 G d9 [(12, iA ((k : Int) + 1))] [wO ((k : Int) + 1)] (o1 (by omega)) fun G => b6 ?_))); exact I9 G (k + 1) (by omega) (by omega) (rg 9) (by have e1 : (j + 1 + (↑(k + 1) : Int) : Int) = (j + 1 + (k : Int) + 1) := (by omega); have e2 : (R 2 (k + 1) : List Int) = ((R 2 k).set k (pk b (j + 1 + (k : Int)) (vs.length : Int))) := (hR.next (by omega) (bK1 (by with_reducible assumption))); (first | rw [e1, e2] | simp only [e1, e2]) <;> rfl)
      · refine N7 G (s8 3 [0, 1] (an4 b (j + 1 + (k : Int)) (by omega) (by omega))) (rg 9) (K2 j k :: (B9 b vs ars l [S4, .row 3 (D.ints ((R 2 k).set k (nm b (j + 1 + (k : Int)) vaL)))])) (y6 at0 n ((10, P1) :: (F6 k []))) (iX k k ((R (2 : Int) k).length) []) (iK (by rw [hRl]; omega) ci7) fun G => l0 (l0 (b6 (E0 G d9 [(12, iA ((k : Int) + 1))] [wO ((k : Int) + 1)] (o1 (by omega)) fun G => b6 ?_))); exact I9 G (k + 1) (by omega) (by omega) (rg 9) (by have e1 : (j + 1 + (↑(k + 1) : Int) : Int) = (j + 1 + (k : Int) + 1) := (by omega); have e2 : (R 2 (k + 1) : List Int) = ((R 2 k).set k (nm b (j + 1 + (k : Int)) vaL)) := (hR.next (by omega) (bK5 (by with_reducible assumption))); (first | rw [e1, e2] | simp only [e1, e2]) <;> rfl)
     · refine N7 G (s8 3 [0, 1] (t5 b (j + 1 + (k : Int)) 3 (by omega) (by omega))) (rg 9) (K2 j k :: (B9 b vs ars l [S4, .row 3 (D.ints ((R 2 k).set k (pk b (j + 1 + (k : Int)) 3)))])) (y6 at0 n ((10, P1) :: (F6 k []))) (iX k k ((R (2 : Int) k).length) []) (iK (by rw [hRl]; omega) ci7) fun G => l0 (l0 (b6 (E0 G d9 [(12, iA ((k : Int) + 1))] [wO ((k : Int) + 1)] (o1 (by omega)) fun G => b6 ?_))); exact I9 G (k + 1) (by omega) (by omega) (rg 9) (by have e1 : (j + 1 + (↑(k + 1) : Int) : Int) = (j + 1 + (k : Int) + 1) := (by omega); have e2 : (R 2 (k + 1) : List Int) = ((R 2 k).set k (pk b (j + 1 + (k : Int)) 3)) := (hR.next (by omega) (bK3 (by with_reducible assumption))); (first | rw [e1, e2] | simp only [e1, e2]) <;> rfl)
theorem bf6 (b : List UInt8) (j : Int) (vs ars : List Int) (l : List d7) (at0 n : Int) (r0 : 0 ≤ j) (r1 : j ≤ 800000000) (r2 : 0 ≤ at0 ∧ at0 ≤ 100) (r3 : 0 ≤ n ∧ n ≤ 100) : j9.ok Tryz.prog (rnC b j vs ars l at0 n) := bb4 b j vs ars l at0 n _ rfl r0 r1 r2 r3
def cdF (F : c5 → Int) : List c5 → Int
 | [] => 0
 | s :: r => if F s = 0 then cdF F r else F s
def cdS (vs ars : List Int) (strict : Bool) : Nat → Int → c5 → Int
 | 0, _, _ => 0
 | d + 1, pc, s => if aa6 ⟨vs, ars, []⟩ s pc strict = 0 then
   (if cdF (cdS vs ars strict d (ak2 ⟨vs, ars, []⟩ s pc)) s.body = 0 then cdF (cdS vs ars strict d (ak2 ⟨vs, ars, []⟩ s pc)) s.els else cdF (cdS vs ars strict d (ak2 ⟨vs, ars, []⟩ s pc)) s.body)
  else aa6 ⟨vs, ars, []⟩ s pc strict
theorem bf4 {F : c5 → Int} {G : Nat → c5 → Int × Nat} (h : ∀ c s, (G c s).1 = F s) : ∀ (ss : List c5) (c : Nat), (E6 G c ss).1 = cdF F ss
 | [], _ => rfl
 | s :: r, c => by
  rw [E6, cdF, h]
  split
  ·exact bf4 h r _
  ·exact h c s
theorem bF8 (p : i6) (strict : Bool) : ∀ (d : Nat) (pc : Int) (c : Nat) (s : c5), (stC p strict d pc c s).1 = cdS p.vars p.arrays strict d pc s
 | 0, _, _, _ => rfl
 | d + 1, pc, c, s => by
  have e1 : aa6 p s pc strict = aa6 ⟨p.vars, p.arrays, []⟩ s pc strict := rfl
  have e2 : ak2 p s pc = ak2 ⟨p.vars, p.arrays, []⟩ s pc := rfl
  have h1 := fun ss c => bf4 (bF8 p strict d (ak2 p s pc)) ss c
  rw [stC, cdS, ← e1, ← e2]
  split
  ·rw [h1]
   split
   ·rw [h1]
   ·rw [h1]
  ·rfl
theorem bZ7 (p : i6) (strict : Bool) (d : Nat) (pc : Int) (c : Nat) (ss : List c5) : (v6 p strict d pc c ss).1 = cdF (cdS p.vars p.arrays strict d pc) ss := bf4 (bF8 p strict d pc) ss c
theorem a73 {F : c5 → Int} : ∀ {ss : List c5}, cdF F ss = 0 ↔ ∀ s ∈ ss, F s = 0
 | [] => by simp [cdF]
 | s :: r => by
  rw [cdF]
  by_cases h : F s = 0
  ·rw [if_pos h, a73]
   simp [h]
  ·rw [if_neg h]
   simp [h]
theorem bO5 (p : i6) (strict : Bool) : (W6 p strict).1 = if m0 p = true then cdF (cdS p.vars p.arrays strict 5 0) p.body else 5 := by
 unfold W6
 rw [← bZ7 p strict 5 0 0]
 split
 ·split
  ·rename_i h; exact h.symm
  ·rfl
 ·rfl
theorem bO3 (p : i6) (strict : Bool) : (W6 p strict).1 = 0 ↔ m0 p = true ∧ ∀ s ∈ p.body, cdS p.vars p.arrays strict 5 0 s = 0 := by
 rw [bO5]
 split
 ·rename_i h; rw [a73]; exact ⟨fun h1 => ⟨h, h1⟩, fun h1 => h1.2⟩
 ·rename_i h; exact ⟨fun h1 => absurd h1 (by decide), fun h1 => absurd h1.1 h⟩
section
variable {vs ars : List Int} {l : Int} {s : c5} {pc pd : Int}
end
theorem aw7 {p : i6} (h : m0 p = true) : p.vars.all i8 = true ∧ p.arrays.all i8 = true ∧ 1 ≤ p.vars.length ∧ p.body.all (j7 p.vars.length p.arrays.length 5) = true := by
 unfold m0 F0 at h
 simp only [ch4, decide_eq_true_eq] at h
 exact ⟨h.1.1.1.1.1.1, h.1.1.1.1.1.2, h.1.1.1.1.2, h.1.2⟩
end Go.Proofs.YthikdkjjdeehoaaGreat
