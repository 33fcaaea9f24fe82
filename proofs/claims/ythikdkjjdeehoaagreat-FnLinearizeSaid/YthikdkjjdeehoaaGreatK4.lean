/-
  Texts of this claim, part 4: what the functions on the way do, and plain laws. Conditions: as each statement says.
-/
import Derived.WalkSpells
import Derived.Lib.SliceRun
import Derived.Test.YthikdkjjdeehoaaGreatK3
set_option maxRecDepth 100000
set_option maxHeartbeats 16000000
open Bool renaming and_eq_false_iff → cd2, and_eq_true → cb3, and_eq_true_iff → cd5, not_eq_false' → cc4, not_eq_true' → cc3
open Inhabited renaming default → cb2
open List renaming all_eq_true → cc2, eq_nil_of_length_eq_zero → cc7, getD_eq_getElem?_getD → cb8, getElem?_append_left → cd6, getElem?_append_right → cf4, getElem?_eq_getElem → cb7, getElem?_eq_none → ce2, getElem?_eq_some_iff → cc5, getElem_mem → cd7, length_append → cb5, length_cons → cb4, length_nil → cb6, map_cons → ce6, mem_append → cc9, mem_cons_of_mem → cd4, mem_cons_self → cd0, mem_of_getElem? → ce1, mem_singleton → cd1, range → cd9, replicate → ce0, take → cc0, take_of_length_le → cc8
open Nat renaming le_refl → cc6, le_trans → cd3, lt_or_ge → ce7, zero_le → ce8
open Option renaming isSome_iff_exists → cf1
open True renaming intro → cc1

namespace Go.Proofs.YthikdkjjdeehoaaGreat
set_option linter.unusedVariables false
set_option linter.unusedSimpArgs false
open Go Go.RowKit
mutual
theorem aJ6 (ars : List Int) (pc : Int) : ∀ (e : b5) (vs : List Int) (bd : List b6), b8 ars pc e (vs, bd) = (((b8 ars pc e (vs, [])).1.1, bd ++ (b8 ars pc e (vs, [])).1.2), (b8 ars pc e (vs, [])).2)
 | ⟨k, v, ks⟩, vs, bd => by
  rw [b8, b8, ai7 ars pc ks vs bd]
  split
  ·simp
  ·rfl
theorem ai7 (ars : List Int) (pc : Int) : ∀ (ks : List b5) (vs : List Int) (bd : List b6), n6 ars pc ks (vs, bd) = (((n6 ars pc ks (vs, [])).1.1, bd ++ (n6 ars pc ks (vs, [])).1.2), (n6 ars pc ks (vs, [])).2)
 | [], vs, bd => by simp [n6]
 | e :: t, vs, bd => by
  simp only [n6]
  rw [aJ6 ars pc e vs bd, ai7 ars pc t (b8 ars pc e (vs, [])).1.1 (bd ++ (b8 ars pc e (vs, [])).1.2)]
  have h : n6 ars pc t (b8 ars pc e (vs, [])).1 = (((n6 ars pc t ((b8 ars pc e (vs, [])).1.1, [])).1.1, (b8 ars pc e (vs, [])).1.2 ++ (n6 ars pc t ((b8 ars pc e (vs, [])).1.1, [])).1.2), (n6 ars pc t ((b8 ars pc e (vs, [])).1.1, [])).2) := ai7 ars pc t (b8 ars pc e (vs, [])).1.1 (b8 ars pc e (vs, [])).1.2
  rw [h]
  simp
end
mutual
theorem bd6 (ars : List Int) : ∀ (s : b6) (m pc : Int) (vs : List Int) (bd : List b6), r7 ars s m pc (vs, bd) = ((r7 ars s m pc (vs, [])).1, bd ++ (r7 ars s m pc (vs, [])).2)
 | ⟨k, t, i, v, c, b, e⟩, m, pc, vs, bd => by
  rw [r7, r7, aJ6 ars pc v vs bd]
  split
  ·simp
  ·split
   ·split
    ·have h1 := fun m pc vs bd => P6 ars b m pc vs bd
     have h2 := fun m pc vs bd => P6 ars e m pc vs bd
     simp only [ifM]
     rw [h1 _ _ _ (bd ++ (b8 ars pc v (vs, [])).1.2 ++ _ ++ _), h2, h1 _ _ _ ((b8 ars pc v (vs, [])).1.2 ++ _ ++ _), h2 _ _ _ ((b8 ars pc v (vs, [])).1.2 ++ _ ++ _ ++ _)]
     simp
    ·simp
   ·split
    ·simp
    ·split
     ·simp
     ·split <;> simp
theorem P6 (ars : List Int) : ∀ (ss : List b6) (m pc : Int) (vs : List Int) (bd : List b6), k6 ars ss m pc (vs, bd) = ((k6 ars ss m pc (vs, [])).1, bd ++ (k6 ars ss m pc (vs, [])).2)
 | [], _, _, _, _ => by simp [k6]
 | x :: r, m, pc, vs, bd => by
  simp only [k6]
  rw [bd6 ars x m pc vs bd, P6 ars r m pc (r7 ars x m pc (vs, [])).1 (bd ++ (r7 ars x m pc (vs, [])).2)]
  have h : k6 ars r m pc (r7 ars x m pc (vs, [])) = ((k6 ars r m pc ((r7 ars x m pc (vs, [])).1, [])).1, (r7 ars x m pc (vs, [])).2 ++ (k6 ars r m pc ((r7 ars x m pc (vs, [])).1, [])).2) := P6 ars r m pc (r7 ars x m pc (vs, [])).1 (r7 ars x m pc (vs, [])).2
  rw [h]
  simp
end
structure GrS (sz : Nat) (x r : Q9) : Prop where
 lo : x.1.length ≤ r.1.length
 hi : r.1.length ≤ x.1.length + 4 * sz
 st : i5 r.2 ≤ i5 x.2 + 130 * sz
 len : x.2.length ≤ r.2.length
theorem GrS.refl (x : Q9) (n : Nat) : GrS n x x := ⟨cc6 _, by omega, by omega, cc6 _⟩
theorem ae0 {nv na : Nat} {s : b6} (h : t5 nv na s = true) (k : s.kind = 2) : s.index.kids = [] ∧ atomB s.index = true ∧ f5 nv na 5 s.index = true := by
 rw [J0 k] at h
 simp only [cb3] at h
 have hs := ah9 h.2.1
 exact ⟨(aM1 (ars := []) (pc := 0) (s := ([], [])) h.2.2.1 hs).2, h.2.2.1, hs⟩
theorem aC5 {e : b5} (h : e.kids = []) : v5 e = 0 := by rw [A2, h]; rfl
theorem aX5 {ars : List Int} {na nv d : Nat} (ih : ∀ (s : b6) (m pc : Int) (x : Q9), f6 nv na d s = true → nv ≤ x.1.length → GrS (1 + D9 s) x (r7 ars s m pc x)) :
  ∀ (ss : List b6) (m pc : Int) (x : Q9), ss.all (f6 nv na d) = true → nv ≤ x.1.length → GrS (i5 ss) x (k6 ars ss m pc x)
 | [], _, _, x, _, _ => GrS.refl x _
 | s :: r, m, pc, x, h, hx => by
  simp only [List.all_cons, cb3] at h
  have h1 := ih s m pc x h.1 hx
  have h2 := aX5 ih r m pc (r7 ars s m pc x) h.2 (cd3 hx h1.lo)
  rw [k6, i5]
  exact ⟨cd3 h1.lo h2.lo, by have := h1.hi; have := h2.hi; omega, by have := h1.st; have := h2.st; omega, cd3 h1.len h2.len⟩
theorem bl3 (ars : List Int) (na nv : Nat) : ∀ (d : Nat) (s : b6) (m pc : Int) (x : Q9), f6 nv na d s = true → nv ≤ x.1.length → GrS (1 + D9 s) x (r7 ars s m pc x)
 | 0, _, _, _, _, h, _ => by simp [f6] at h
 | d + 1, s, m, pc, x, h, hx => by
  have blk := fun (ss : List b6) (m pc : Int) (x : Q9) => aX5 (ars := ars) (na := na) (nv := nv) (d := d) (fun s m pc x => bl3 ars na nv d s m pc x) ss m pc x
  rw [C5, cb3, cb3] at h
  obtain ⟨hh, hb, he⟩ := h
  have hsz : D9 s = v5 s.index + v5 s.value + i5 s.body + i5 s.els := by cases s; rfl
  by_cases k4 : s.kind = 4
  ·rw [ln4 k4]
   have h1 := blk s.body m pc (x.1, []) hb hx
   have a := h1.lo; have b := h1.hi; have c := h1.st
   simp only [i5] at a b c
   have e0 : v5 nnE = 0 := rfl
   refine ⟨a, ?_, ?_, ?_⟩
   ·simp only; omega
   ·simp only [x3, i5, D9, e0]; omega
   ·simp
  have hv : f5 x.1.length na 5 s.value = true := w8 hx 5 _ (n7 hh k4)
  obtain ⟨g1, g2, g3⟩ := Y8 ars pc na 5 s.value x hv
  have a0 := g1.lo; have b0 := g1.hi; have c0 := g1.st; have d0 := g1.len
  have e0 : v5 nnE = 0 := rfl
  have e1 : v5 (cnE 0) = 0 := rfl
  by_cases k3 : s.kind = 3
  ·cases hs : A0 (b9 x.1 ars 5 s.value)
   ·rw [bB1 k3 hs]
    have h1 := blk s.body m (i6 pc (b9 x.1 ars 5 s.value)) ((b8 ars pc s.value x).1.1, []) hb (cd3 hx a0)
    have h2 := blk s.els m (i6 pc (b9 x.1 ars 5 s.value)) ((k6 ars s.body m (i6 pc (b9 x.1 ars 5 s.value)) ((b8 ars pc s.value x).1.1, [])).1, []) he (cd3 hx (cd3 a0 h1.lo))
    have a := h1.lo; have b := h1.hi; have c := h1.st
    have a2 := h2.lo; have b2 := h2.hi; have c2 := h2.st
    simp only [i5] at a b c a2 b2 c2
    refine ⟨?_, ?_, ?_, ?_⟩
    ·simp only; omega
    ·simp only; omega
    ·simp only [x3, i5, D9, e0]; omega
    ·simp; omega
   ·rw [bB0 k3 hs]
    generalize hl : i6 pc (b9 x.1 ars 5 s.value) = l
    generalize hy : ifM (b8 ars pc s.value x) m l = y
    have y1 : y.1.length = (b8 ars pc s.value x).1.1.length + 2 := by rw [← hy]; simp
    have y2 : i5 y.2 ≤ i5 (b8 ars pc s.value x).1.2 + 20 + v5 (b8 ars pc s.value x).2 := by
     have m1 := ad4 m (b8 ars pc s.value x).2 (cnE 0)
     have m2 := ad4 m ⟨9, 0, [vrE ((b8 ars pc s.value x).1.1.length : Int), cnE 0]⟩ (cnE 0)
     have m3 : v5 ⟨9, 0, [vrE ((b8 ars pc s.value x).1.1.length : Int), cnE 0]⟩ = 2 := rfl
     rw [← hy]
     simp only [ifM, x3, i5, D9, e0]; omega
    have y3 : (b8 ars pc s.value x).1.2.length ≤ y.2.length := by rw [← hy]; simp
    have h1 := blk s.body ((b8 ars pc s.value x).1.1.length : Int) l y hb (by omega)
    have h2 := blk s.els (((b8 ars pc s.value x).1.1 ++ [l]).length : Int) l (k6 ars s.body ((b8 ars pc s.value x).1.1.length : Int) l y) he (by have := h1.lo; omega)
    have a := h1.lo; have b := h1.hi; have c := h1.st; have d1 := h1.len
    have a2 := h2.lo; have b2 := h2.hi; have c2 := h2.st; have d2 := h2.len
    exact ⟨by omega, by omega, by omega, by omega⟩
  by_cases k5 : s.kind = 5
  ·rw [ln5 k5]
   refine ⟨a0, ?_, ?_, ?_⟩
   ·simp only; omega
   ·simp only [x3, i5, D9, e0]; omega
   ·simp; omega
  by_cases k1 : s.kind = 1
  ·rw [ln1 k1]
   have m1 := ad4 m (b8 ars pc s.value x).2 (vrE s.target)
   have m2 : v5 (vrE s.target) = 0 := rfl
   refine ⟨a0, ?_, ?_, ?_⟩
   ·simp only; omega
   ·simp only [x3, i5, D9, e0]; omega
   ·simp; omega
  by_cases k2 : s.kind = 2
  ·obtain ⟨q1, -, -⟩ := ae0 hh k2
   cases hs : A0 (b9 (b8 ars pc s.value x).1.1 ars 5 s.index)
   ·rw [bq5 k2 hs]
    have m1 := ad4 m (b8 ars pc s.value x).2 (rdE s.target s.index)
    have m2 : v5 (rdE s.target s.index) = 1 := by simp [v5, n9, aC5 q1]
    have m3 := aC5 q1
    refine ⟨a0, ?_, ?_, ?_⟩
    ·simp only; omega
    ·simp only [x3, i5, D9]; omega
    ·simp; omega
   ·rw [bq4 k2 hs]
    have m1 := bw4 ((b8 ars pc s.value x).1.1.length : Int) s.target s.index m q1 4
    refine ⟨?_, ?_, ?_, ?_⟩
    ·simp; omega
    ·simp; omega
    ·simp only [x3, i5, D9, e0]; omega
    ·simp; omega
  ·rw [an4 ⟨k1, k2, k3, k4, k5⟩] at hh; cases hh
theorem ax7 (ars : List Int) {na nv d : Nat} (ss : List b6) (m pc : Int) (x : Q9) (h : ss.all (f6 nv na d) = true) (hx : nv ≤ x.1.length) : GrS (i5 ss) x (k6 ars ss m pc x) := aX5 (bl3 ars na nv d) ss m pc x h hx
theorem at4 {nv na : Nat} {e : b5} (h : l6 nv na e = true) : v5 e ≤ 14 := by
 unfold l6 at h; simp only [cb3, decide_eq_true_eq] at h; omega
theorem aC1 {e : b5} (h : noneB e = true) : v5 e = 0 := by
 unfold noneB at h; simp only [cb3, decide_eq_true_eq] at h
 exact aC5 (cc7 h.2)
theorem bj0 {nv na d : Nat} (ih : ∀ s : b6, f6 nv na d s = true → 1 + D9 s ≤ 29 * nS s) : ∀ ss : List b6, ss.all (f6 nv na d) = true → i5 ss ≤ 29 * M4 ss
 | [], _ => cc6 _
 | s :: r, h => by
  simp only [List.all_cons, cb3] at h
  have h1 := ih s h.1
  have h2 := bj0 ih r h.2
  rw [i5, M4]; omega
theorem bv6 {nv na : Nat} : ∀ (d : Nat) (s : b6), f6 nv na d s = true → 1 + D9 s ≤ 29 * nS s
 | 0, _, h => by simp [f6] at h
 | d + 1, s, h => by
  rw [C5, cb3, cb3] at h
  obtain ⟨hh, hb, he⟩ := h
  have h1 := bj0 (fun s => bv6 d s) s.body hb
  have h2 := bj0 (fun s => bv6 d s) s.els he
  have hsz : D9 s = v5 s.index + v5 s.value + i5 s.body + i5 s.els := by cases s; rfl
  have hn := ap8 s
  have key : v5 s.index + v5 s.value ≤ 28 := by
   by_cases k4 : s.kind = 4
   ·rw [T7 k4] at hh; simp only [cb3] at hh
    have := aC1 hh.2.1; have := aC1 hh.2.2; omega
   by_cases k3 : s.kind = 3
   ·rw [Z0 k3] at hh; simp only [cb3] at hh
    have := aC1 hh.2.1; have := at4 hh.2.2; omega
   by_cases k15 : s.kind = 1 ∨ s.kind = 5
   ·rw [z9 k15] at hh; simp only [cb3] at hh
    have := aC1 hh.2.1; have := at4 hh.2.2; omega
   by_cases k2 : s.kind = 2
   ·rw [J0 k2] at hh; simp only [cb3] at hh
    have := at4 hh.2.1; have := at4 hh.2.2.2; omega
   ·rw [an4 (by omega)] at hh; cases hh
  omega
def af8 (p : d7) : Q9 := k6 p.arrays p.body (-1) 0 (p.vars, [])
def aX7 (p : d7) : d7 := ⟨(af8 p).1, p.arrays, (af8 p).2⟩
theorem aa8 {p : d7} (h : l5 p = true) : p.vars.length ≤ 12 ∧ p.arrays.length ≤ 2 ∧ i5 p.body ≤ 1740 := by
 unfold l5 F4 ae9 at h
 simp only [cb3, decide_eq_true_eq] at h
 have := bj0 (bv6 5) p.body h.1.2
 omega
theorem aX6 {p : d7} (h : l5 p = true) : p.vars.length ≤ (af8 p).1.length ∧ (af8 p).1.length ≤ 7000 ∧ i5 (af8 p).2 ≤ 230000 := by
 have hz := aa8 h
 have hb : p.body.all (f6 p.vars.length p.arrays.length 5) = true := (P5 h).2.2.2
 have g := ax7 p.arrays p.body (-1) 0 (p.vars, []) hb (cc6 _)
 have a := g.lo; have b := g.hi; have c := g.st
 simp only [i5] at a b c
 unfold af8
 omega
theorem bK9 {p : d7} (h : l5 p = true) : (aX7 p).size ≤ 240000 := by
 have h1 := aX6 h
 have h2 := aa8 h
 show (af8 p).1.length + p.arrays.length + i5 (af8 p).2 ≤ _
 omega
def Z9 (p : d7) : Bool := decide ((C7 p false).1 = 0) && l5 (aX7 p)
def A1 (p : d7) : d7 := if Z9 p = true then aX7 p else ⟨[], [], []⟩
theorem G6 {p : d7} (h : (C7 p false).1 = 0) : l5 p = true := ((av4 p false).1 h).1
theorem bR2 {p : d7} (h : ¬ (C7 p false).1 = 0) : Z9 p = false := by unfold Z9; rw [decide_eq_false h, Bool.false_and]
theorem bR1 {p : d7} (h : l5 (aX7 p) = false) : Z9 p = false := by unfold Z9; rw [h, Bool.and_false]
theorem bR0 {p : d7} (h : (C7 p false).1 = 0) (h2 : l5 (aX7 p) = true) : Z9 p = true := by unfold Z9; rw [decide_eq_true h, h2]; rfl
theorem bl1 {p : d7} (h : Z9 p = false) : A1 p = ⟨[], [], []⟩ := by unfold A1; rw [h]; rfl
theorem aQ7 {p : d7} (h : Z9 p = true) : A1 p = aX7 p := by unfold A1; rw [h]; rfl
theorem bV8 (p : d7) : (A1 p).size ≤ 240000 := by
 cases h : Z9 p
 ·rw [bl1 h]; simp [d7.size, i5]
 ·rw [aQ7 h]
  unfold Z9 at h
  simp only [cb3, decide_eq_true_eq] at h
  exact bK9 (G6 h.1)
mutual
def AV.den (t : Bool) (n : Nat) : AV → AV
 | .v x => .v x
 | .ptr a b => .ptr a b
 | .ea a b c d => .ea a b c d
 | .ref i => if !t && natEq i n then .v (.slice none 0 0) else .ref i
 | .agg l => .agg (AV.denL t n l)
 | .tup l => .tup (AV.denL t n l)
 | .fn f l => .fn f (AV.denL t n l)
 | .bm f l => .bm f (AV.denL t n l)
 | .tref i => if t && natEq i n then .v (.slice none 0 0) else .tref i
def AV.denL (t : Bool) (n : Nat) : List AV → List AV
 | [] => []
 | x :: r => x.den t n :: AV.denL t n r
end
def It.den (t : Bool) (n : Nat) : It → It
 | .box cs => .box (AV.denL t n cs)
 | x => x
mutual
theorem AV.val_den {ρ : Nat → Value} {t : Bool} {n : Nat} {z : Value} (hz : if t then E9 z = .slice none 0 0 else z = .slice none 0 0) : ∀ (x : AV), (∀ i ∈ (x.den t n).ids, i < n) → x.val (fun j => if j = n then z else ρ j) = (x.den t n).val ρ ∧ ∀ i ∈ x.ids, i < n + 1
 | .v _, _ => ⟨rfl, fun i hi => by simp [AV.ids] at hi⟩
 | .ptr a b, h => by
  have ha : a < n := h a (by simp [AV.den, AV.ids])
  refine ⟨?_, fun i hi => by simp [AV.ids] at hi; omega⟩
  simp only [AV.den, AV.val]
  rw [if_neg (by omega)]
 | .ea a b c d, h => by
  have ha : a < n := h a (by simp [AV.den, AV.ids])
  refine ⟨?_, fun i hi => by simp [AV.ids] at hi; omega⟩
  simp only [AV.den, AV.val]
  rw [if_neg (by omega)]
 | .ref a, h => by
  by_cases e : t = false ∧ a = n
  ·obtain ⟨rfl, rfl⟩ := e
   refine ⟨?_, fun i hi => by simp [AV.ids] at hi; omega⟩
   simp only [Bool.false_eq_true, if_false] at hz
   simp [AV.den, AV.val, natEq, hz]
  ·have hd : (AV.ref a).den t n = .ref a := by
    simp only [AV.den]
    rw [if_neg]
    simp [natEq]; intro h1 h2; exact e ⟨h1, h2⟩
   rw [hd] at h ⊢
   have ha : a < n := h a (by simp [AV.ids])
   refine ⟨?_, fun i hi => by simp [AV.ids] at hi; omega⟩
   simp only [AV.val]
   rw [if_neg (by omega)]
 | .tref a, h => by
  by_cases e : t = true ∧ a = n
  ·obtain ⟨rfl, rfl⟩ := e
   refine ⟨?_, fun i hi => by simp [AV.ids] at hi; omega⟩
   simp only [if_true] at hz
   simp [AV.den, AV.val, natEq, hz]
  ·have hd : (AV.tref a).den t n = .tref a := by
    simp only [AV.den]
    rw [if_neg]
    simp [natEq]; intro h1 h2; exact e ⟨h1, h2⟩
   rw [hd] at h ⊢
   have ha : a < n := h a (by simp [AV.ids])
   refine ⟨?_, fun i hi => by simp [AV.ids] at hi; omega⟩
   simp only [AV.val]
   rw [if_neg (by omega)]
 | .agg l, h => by
  obtain ⟨h1, h2⟩ := AV.vals_den hz l (by simpa [AV.den, AV.ids] using h)
  exact ⟨by simp only [AV.den, AV.val]; rw [h1], by simpa [AV.ids] using h2⟩
 | .tup l, h => by
  obtain ⟨h1, h2⟩ := AV.vals_den hz l (by simpa [AV.den, AV.ids] using h)
  exact ⟨by simp only [AV.den, AV.val]; rw [h1], by simpa [AV.ids] using h2⟩
 | .fn f l, h => by
  obtain ⟨h1, h2⟩ := AV.vals_den hz l (by simpa [AV.den, AV.ids] using h)
  exact ⟨by simp only [AV.den, AV.val]; rw [h1], by simpa [AV.ids] using h2⟩
 | .bm f l, h => by
  obtain ⟨h1, h2⟩ := AV.vals_den hz l (by simpa [AV.den, AV.ids] using h)
  exact ⟨by simp only [AV.den, AV.val]; rw [h1], by simpa [AV.ids] using h2⟩
theorem AV.vals_den {ρ : Nat → Value} {t : Bool} {n : Nat} {z : Value} (hz : if t then E9 z = .slice none 0 0 else z = .slice none 0 0) : ∀ (l : List AV), (∀ i ∈ AV.idsL (AV.denL t n l), i < n) → AV.vals (fun j => if j = n then z else ρ j) l = AV.vals ρ (AV.denL t n l) ∧ ∀ i ∈ AV.idsL l, i < n + 1
 | [], _ => ⟨rfl, fun i hi => by simp [AV.idsL] at hi⟩
 | x :: r, h => by
  obtain ⟨h1, h2⟩ := AV.val_den hz x fun i hi => h i (by simp only [AV.denL, AV.idsL, cc9]; exact .inl hi)
  obtain ⟨h3, h4⟩ := AV.vals_den hz r fun i hi => h i (by simp only [AV.denL, AV.idsL, cc9]; exact .inr hi)
  refine ⟨by simp only [AV.denL, AV.vals]; rw [h1, h3], fun i hi => ?_⟩
  simp only [AV.idsL, cc9] at hi
  rcases hi with hi | hi
  ·exact h2 i hi
  ·exact h4 i hi
end
theorem aJ3 {m : Bool} {n : Nat} {t : Nat} {x : AV} : ∀ {tm : List (Nat × AV)}, y5 tm t = some x → y5 (tm.map fun p => (p.1, p.2.den m n)) t = some (x.den m n)
 | [], h => by cases h
 | (k, y) :: r, h => by
  simp only [y5, ce6] at h ⊢
  split at h
  ·rename_i e; cases h; rw [if_pos e]
  ·rename_i e; rw [if_neg e]; exact aJ3 h
section
variable {P : Program} {ι : Type} {φ ψ : Nat → Prop} {w0 w : World} {F : ι → Rs} {ρ ρ0 : Nat → Value} {N m n : Nat} {S : List It} {tm : List (Nat × AV)} {a : Act}
theorem s0.nilW (G : s0 φ ψ w0 F N m ρ0 ρ S tm a w) (n : Nat) (hn : S.length = n) (b : Bool) (x : It) (z : Value) (hz : if b then E9 z = .slice none 0 0 else z = .slice none 0 0) (hids : x.ids = []) (hb : ∀ g, ¬ (x.res (fun j => if j = n then z else ρ j) n).blk g)
  (hx : ∀ φ', (x.res (fun j => if j = n then z else ρ j) n).holds w φ') (S1 : List It) (tm1 : List (Nat × AV)) (hS : S = S1.map (It.den b n)) (ht : tm = tm1.map fun p => (p.1, p.2.den b n)) :
  ∃ ρ', s0 φ ψ w0 F N m ρ0 ρ' (S1 ++ [x]) tm1 a w := by
 have hl : S1.length = n := by rw [← hn, hS, List.length_map]
 have hat : ∀ j (hj : j < n), r9 S j = (S1[j]'(by omega)).den b n := fun j hj => by
  rw [ad5 (show j < S.length by omega)]
  have h1 := congrArg (·[j]?) hS
  simp only [List.getElem?_map, cb7 (show j < S.length by omega), cb7 (show j < S1.length by omega), Option.map_some, Option.some.injEq] at h1
  exact h1
 have hnew : ∀ j (hj : j < n), r9 (S1 ++ [x]) j = S1[j]'(by omega) := fun j hj => by
  simp [r9, cb8, cd6 (show j < S1.length by omega), cb7 (show j < S1.length by omega)]
 have hlast : r9 (S1 ++ [x]) n = x := by
  simp [r9, cb8, ← hl]
 have hout : ∀ j, n < j → r9 (S1 ++ [x]) j = .none := fun j hj => w6 (by simp; omega)
 have hbx : ∀ j (hj : j < n), ((S1[j]'(by omega)).res (fun j => if j = n then z else ρ j) j = (r9 S j).res ρ j) ∧ ∀ i ∈ (S1[j]'(by omega)).ids, i < n + 1 := fun j hj => by
  rw [hat j hj]
  have hb := (G.bd j).1
  rw [hat j hj, hn] at hb
  generalize S1[j]'(by omega) = x at *
  cases x with
  | box cs =>
   obtain ⟨h1, h2⟩ := AV.vals_den (ρ := ρ) (n := n) hz cs hb
   refine ⟨?_, h2⟩
   simp only [It.res, It.den]
   rw [h1, if_neg (show ¬ j = n by omega)]
  | none => exact ⟨rfl, fun i hi => by cases hi⟩
  | dead => exact ⟨rfl, fun i hi => by cases hi⟩
  | dat d' => exact ⟨by simp only [It.res, It.den]; rw [if_neg (show ¬ j = n by omega)], fun i hi => by cases hi⟩
  | row e' d' => exact ⟨by simp only [It.res, It.den]; rw [if_neg (show ¬ j = n by omega)], fun i hi => by cases hi⟩
  | tree d' => exact ⟨by simp only [It.res, It.den]; rw [if_neg (show ¬ j = n by omega)], fun i hi => by cases hi⟩
  | kept e' d' => exact ⟨by cases e' <;> (simp only [It.res, It.den]; rw [if_neg (show ¬ j = n by omega)]), fun i hi => by cases hi⟩
 have hw : ∀ t x, y5 tm1 t = some x → x.val (fun j => if j = n then z else ρ j) = (x.den b n).val ρ ∧ ∀ i ∈ x.ids, i < n + 1 := fun t x hx => by
  refine AV.val_den hz x fun i hi => ?_
  have h1 : y5 tm t = some (x.den b n) := by rw [ht]; exact aJ3 hx
  have := G.tmi t _ h1 i hi
  omega
 refine ⟨fun j => if j = n then z else ρ j, ?_⟩
 refine ⟨G.size, G.defs, fun t x hx => ?_, fun t x hx i hi => ?_, fun j => ⟨fun i hi => ?_, fun hj => w6 hj⟩, ?_, ?_, fun i hi => ?_⟩
 ·have h1 : y5 tm t = some (x.den b n) := by rw [ht]; exact aJ3 hx
  rw [(hw t x hx).1]; exact G.tmv t _ h1
 ·have := (hw t x hx).2 i hi
  simp; omega
 ·rcases Nat.lt_trichotomy j n with h | h | h
  ·rw [hnew j h] at hi
   have := (hbx j h).2 i hi
   simp; omega
  ·subst h; rw [hlast, hids] at hi; cases hi
  ·rw [hout j h] at hi; cases hi
 ·refine m5.put G.mem (.inr n) (fun k hk => ?_) (B6.refl _ _) ?_ ?_
  ·cases k with
   | inl i => rfl
   | inr j =>
    simp only [p7]
    rcases Nat.lt_trichotomy j n with h | h | h
    ·rw [hnew j h]; exact (hbx j h).1
    ·exact absurd (by rw [h]) hk
    ·rw [hout j h, w6 (show S.length ≤ j by omega)]; rfl
  ·simp only [p7, hlast]; exact hx _
  ·intro g hg
   simp only [p7, hlast] at hg
   exact absurd hg (hb g)
 ·have := G.le; simp; omega
 ·show (if i = n then _ else ρ i) = ρ0 i
  have := G.le
  rw [if_neg (by omega)]; exact G.old i hi
theorem s0.nil (G : s0 φ ψ w0 F N m ρ0 ρ S tm a w) (n : Nat) (e : TypeId) (d : D) (k : Nat) (S1 : List It) (tm1 : List (Nat × AV)) (hn : S.length = n := by kernel_rfl) (hd : D.nil k = some d := by kernel_rfl) (hS : S = S1.map (It.den false n) := by kernel_rfl) (ht : tm = tm1.map (fun p => (p.1, p.2.den false n)) := by kernel_rfl) :
  ∃ ρ', s0 φ ψ w0 F N m ρ0 ρ' (S1 ++ [.row e d]) tm1 a w := by
 have hz := D.nil_len hd
 refine G.nilW n hn false (.row e d) (.slice none 0 0) (by simp) rfl (fun g hg => ?_) (fun φ' => ?_) S1 tm1 hS ht
 ·simp only [It.res, if_true] at hg
  cases hg
 ·simp only [It.res, if_true]
  refine ⟨fun xs => RW.nice d xs, [], ?_, RW.nil hz _⟩
  rw [hz]; exact World.ownsRow_nil _ _ _ _
theorem s0.nilT (G : s0 φ ψ w0 F N m ρ0 ρ S tm a w) (n : Nat) (d : D) (S1 : List It) (tm1 : List (Nat × AV)) (hn : S.length = n := by kernel_rfl) (hd : ((an1 d).isSome && natEq d.len 0) = true := by kernel_rfl) (hS : S = S1.map (It.den true n) := by kernel_rfl) (ht : tm = tm1.map (fun p => (p.1, p.2.den true n)) := by kernel_rfl) :
  ∃ ρ', s0 φ ψ w0 F N m ρ0 ρ' (S1 ++ [.tree d]) tm1 a w := by
 simp only [cb3, natEq, beq_iff_eq] at hd
 obtain ⟨e, he⟩ := cf1.1 hd.1
 obtain ⟨z, h1, h2⟩ := aK8 (.slice none 0 0) (fun _ => False) 0 fun b h => h.elim
 refine G.nilW n hn true (.tree d) z (by simp [h1]) rfl (fun g hg => ?_) (fun φ' => ?_) S1 tm1 hS ht
 ·simp only [It.res, if_true] at hg
  exact ((h2 g).1 hg).elim
 ·simp only [It.res, if_true]
  rw [h1]
  refine ⟨fun _ _ h hs => h.same hs, ⟨e, [], fun _ => False, he, ?_, (fun g hg => by cases hg), (fun b hb => hb.elim), ?_⟩, fun b hb => ((h2 b).1 hb).elim⟩
  ·rw [hd.2]; exact World.ownsRow_nil _ _ _ _
  ·have h0 := hd.2
   cases d <;> simp only [an1] at he <;> first | cases he | skip
   all_goals (simp only [D.len] at h0; rw [cc7 h0]; rfl)
end
inductive Ln where
 | no
 | row (e : TypeId)
 | tree
def w7 (M : List Ln) (i : Nat) : Ln := M.getD i .no
def Ln.isT : Ln → Bool
 | .tree => true
 | _ => false
mutual
def AV.tr (M : List Ln) : AV → AV
 | .v x => .v x
 | .ptr a b => .ptr a b
 | .ea a b c d => .ea a b c d
 | .ref i => if (w7 M i).isT then .tref i else .ref i
 | .agg l => .agg (AV.trL M l)
 | .tup l => .tup (AV.trL M l)
 | .fn f l => .fn f (AV.trL M l)
 | .bm f l => .bm f (AV.trL M l)
 | .tref i => .tref i
def AV.trL (M : List Ln) : List AV → List AV
 | [] => []
 | x :: r => x.tr M :: AV.trL M r
end
mutual
def AV.trOk (M : List Ln) : AV → Bool
 | .v _ => true
 | .ptr a _ => !(w7 M a).isT
 | .ea a _ _ _ => !(w7 M a).isT
 | .ref _ => true
 | .agg l => AV.trOkL M l
 | .tup l => AV.trOkL M l
 | .fn _ l => AV.trOkL M l
 | .bm _ l => AV.trOkL M l
 | .tref i => !(w7 M i).isT
def AV.trOkL (M : List Ln) : List AV → Bool
 | [] => true
 | x :: r => x.trOk M && AV.trOkL M r
end
mutual
theorem AV.val_tr {ρ ρ' : Nat → Value} {M : List Ln} (h : ∀ i, ρ' i = if (w7 M i).isT then E9 (ρ i) else ρ i) : ∀ (x : AV), x.trOk M = true → (x.tr M).val ρ = x.val ρ'
 | .v _, _ => rfl
 | .ptr a _, hx => by
  simp only [AV.trOk, cc3] at hx
  simp only [AV.tr, AV.val]; rw [h a, hx]; rfl
 | .ea a _ _ _, hx => by
  simp only [AV.trOk, cc3] at hx
  simp only [AV.tr, AV.val]; rw [h a, hx]; rfl
 | .ref i, _ => by
  simp only [AV.tr]
  cases hm : (w7 M i).isT
  ·simp only [Bool.false_eq_true, if_false, AV.val]; rw [h i, hm]; rfl
  ·simp only [if_true, AV.val]; rw [h i, hm]; rfl
 | .agg l, hx => by simp only [AV.tr, AV.val]; rw [AV.vals_tr h l (by simpa [AV.trOk] using hx)]
 | .tup l, hx => by simp only [AV.tr, AV.val]; rw [AV.vals_tr h l (by simpa [AV.trOk] using hx)]
 | .fn _ l, hx => by simp only [AV.tr, AV.val]; rw [AV.vals_tr h l (by simpa [AV.trOk] using hx)]
 | .bm _ l, hx => by simp only [AV.tr, AV.val]; rw [AV.vals_tr h l (by simpa [AV.trOk] using hx)]
 | .tref i, hx => by
  simp only [AV.trOk, cc3] at hx
  simp only [AV.tr, AV.val]; rw [h i, hx]; rfl
theorem AV.vals_tr {ρ ρ' : Nat → Value} {M : List Ln} (h : ∀ i, ρ' i = if (w7 M i).isT then E9 (ρ i) else ρ i) : ∀ (l : List AV), AV.trOkL M l = true → AV.vals ρ (AV.trL M l) = AV.vals ρ' l
 | [], _ => rfl
 | x :: r, hx => by
  simp only [AV.trOkL, cb3] at hx
  simp only [AV.trL, AV.vals]; rw [AV.val_tr h x hx.1, AV.vals_tr h r hx.2]
end
def y9 (M : List Ln) : Ln → It → It
 | .row e, .dat d => .row e d
 | .tree, .dat d => .tree d
 | .no, .box cs => .box (AV.trL M cs)
 | _, x => x
def T6 (M : List Ln) (S : List It) : List It := (cd9 S.length).map fun i => y9 M (w7 M i) (r9 S i)
theorem W7 (M : List Ln) (S : List It) (i : Nat) : r9 (T6 M S) i = y9 M (w7 M i) (r9 S i) := by
 unfold T6
 rcases ce7 i S.length with h | h
 ·conv => lhs; rw [r9, cb8, List.getElem?_map, List.getElem?_range h]
  rfl
 ·rw [w6 (by simpa using h), w6 h]
  cases w7 M i <;> rfl
def a61 : D → Bool
 | .rows _ => false
 | .brows _ => false
 | .exprs _ => false
 | .stmts _ => false
 | _ => true
theorem bm6 {w w' : World} {φ φ' : Nat → Prop} {d : D} {xs : List Value} (hd : a61 d = true) (h : RW w φ d xs) : RW w' φ' d xs := by
 intro i hi j x hx
 obtain ⟨u, h1, h2⟩ := h i hi j x hx
 refine ⟨u, h1, ?_⟩
 have : ∃ y, x = .v y := by
  have hm := ce1 hx
  cases d <;> simp only [a61, Bool.false_eq_true] at hd <;> simp [D.elem, be0, aq6] at hm
  ·exact ⟨_, hm⟩
  ·exact ⟨_, hm⟩
  ·exact ⟨_, hm⟩
  ·exact ⟨_, hm⟩
  ·rcases hm with h | h | h | h | h <;> exact ⟨_, h⟩
  ·rcases hm with h | h <;> exact ⟨_, h⟩
 obtain ⟨y, rfl⟩ := this
 exact h2
def a43 (M : List Ln) (l : Ln) (p x : It) : Bool :=
 match l with
 | .no => match x with
  | .dat _ => (match p with | .dat _ => true | _ => false)
  | .row _ d => a61 d
  | .box cs => AV.trOkL M cs
  | .kept _ _ => false
  | _ => true
 | .row _ => (match p, x with | .dat d, .dat _ => a61 d | _, _ => false)
 | .tree => (match p, x with | .dat d, .dat _ => (an1 d).isSome | _, _ => false)
def by8 (M : List Ln) (l : Ln) (p : It) : Bool :=
 match l, p with
 | .no, .box cs => AV.trOkL M cs
 | _, _ => true
def bB3 (M : List Ln) (c : i9) : Bool :=
 decide (M.length ≤ c.pre.length) && decide (c.pre.length ≤ c.post.length) && AV.trOkL M c.args && c.res.trOk M && (cd9 c.post.length).all (fun i => a43 M (w7 M i) (r9 c.pre i) (r9 c.post i)) && (cd9 c.pre.length).all fun i => by8 M (w7 M i) (r9 c.pre i)
def Rs.snap (w : World) (r : Rs) : Rs := .own r.blk fun w' => ∀ b, r.blk b → b < w.heap.size → w'.heap[b]? = w.heap[b]?
theorem Rs.snap_holds {w : World} {φ φ' : Nat → Prop} {r : Rs} (h : r.holds w φ) : (r.snap w).holds w φ' := by
 refine ⟨fun w1 w2 h1 h2 b hb hlt => ?_, fun b _ _ => rfl, fun b hb => Rs.lt h hb⟩
 have h3 := h1 b hb hlt
 rw [h2 b hb, h3]
 have : (w1.heap[b]?).isSome = true := by rw [h3, Array.getElem?_eq_getElem hlt]; rfl
 obtain ⟨o, ho⟩ := cf1.1 this
 exact (Array.getElem?_eq_some_iff.1 ho).1
theorem aZ0 : ∀ {P X : List It} {i : Nat} {d e : D}, ay3 P X = ay2 P X → r9 P i = .dat d → r9 X i = .dat e → d = e
 | P, X, i, d, e, h, h1, h2 => by
  have hp : P[i]? = some (.dat d) := by
   rcases ce7 i P.length with hl | hl
   ·rw [ad5 hl] at h1; rw [cb7 hl, h1]
   ·rw [w6 hl] at h1; cases h1
  have hx : X[i]? = some (.dat e) := by
   rcases ce7 i X.length with hl | hl
   ·rw [ad5 hl] at h2; rw [cb7 hl, h2]
   ·rw [w6 hl] at h2; cases h2
  exact bX7 h hp hx
theorem i9.lend0 {P : Program} {c : i9} (hc : c.ok P) (M : List Ln) (hb : bB3 M c = true) (he : ay3 c.pre c.post = ay2 c.pre c.post) : i9.ok P ⟨c.f, AV.trL M c.args, T6 M c.pre, T6 M c.post, c.res.tr M⟩ := by
 simp only [bB3, cb3, decide_eq_true_eq] at hb
 obtain ⟨⟨⟨⟨⟨hM, hle⟩, hargs⟩, hres⟩, hpost⟩, hpre⟩ := hb
 have hno : ∀ i, c.pre.length ≤ i → w7 M i = .no := fun i hi => by
  unfold w7; rw [cb8, ce2 (by omega)]; rfl
 have hpo : ∀ i, a43 M (w7 M i) (r9 c.pre i) (r9 c.post i) = true := fun i => by
  rcases ce7 i c.post.length with h | h
  ·exact cc2.1 hpost i (List.mem_range.2 h)
  ·rw [hno i (by omega), w6 h]; rfl
 have hpr : ∀ i, by8 M (w7 M i) (r9 c.pre i) = true := fun i => by
  rcases ce7 i c.pre.length with h | h
  ·exact cc2.1 hpre i (List.mem_range.2 h)
  ·rw [hno i h, w6 h]; rfl
 intro ι φ ψ w0 w F ρ MM
 let ρ1 : Nat → Value := fun i => if (w7 M i).isT then E9 (ρ i) else ρ i
 have hρ1 : ∀ i, ρ1 i = if (w7 M i).isT then E9 (ρ i) else ρ i := fun _ => rfl
 let F1 : ι → Rs := fun i => (F i).snap w
 have hLi : ∀ i, p7 F ρ (r9 (T6 M c.pre)) (.inl i) = F i := fun _ => rfl
 have hLj : ∀ j, p7 F ρ (r9 (T6 M c.pre)) (.inr j) = (y9 M (w7 M j) (r9 c.pre j)).res ρ j := fun j => by simp only [p7]; rw [W7]
 generalize hL : p7 F ρ (r9 (T6 M c.pre)) = L at MM hLi hLj
 have h1j : ∀ j, w7 M j = .no → (r9 c.pre j).res ρ1 j = L (.inr j) := fun j hl => by
  rw [hLj, hl]
  have hp := hpr j
  have e : ρ1 j = ρ j := by rw [hρ1, hl]; rfl
  cases hx : r9 c.pre j with
  | none => rfl
  | dead => rfl
  | dat d => simp only [y9, It.res]; rw [e]
  | row e' d => simp only [y9, It.res]; rw [e]
  | tree d => simp only [y9, It.res]; rw [e]
  | kept e' d => cases e' <;> (simp only [y9, It.res]; rw [e])
  | box cs =>
   rw [hl, hx] at hp
   simp only [by8] at hp
   simp only [y9, It.res]
   rw [e, AV.vals_tr hρ1 cs hp]
 have hlent : ∀ j, w7 M j ≠ .no → (∃ d, r9 c.pre j = .dat d ∧ r9 c.post j = .dat d ∧ ((∃ e, w7 M j = .row e ∧ a61 d = true) ∨ w7 M j = .tree)) := fun j hj => by
  have h := hpo j
  cases hl : w7 M j with
  | no => exact absurd hl hj
  | row e =>
   rw [hl] at h
   simp only [a43] at h
   split at h
   ·rename_i d d' h1 h2
    exact ⟨d, h1, by rw [h2, ← aZ0 he h1 h2], .inl ⟨e, rfl, h⟩⟩
   ·cases h
  | tree =>
   rw [hl] at h
   simp only [a43] at h
   split at h
   ·rename_i d d' h1 h2
    exact ⟨d, h1, by rw [h2, ← aZ0 he h1 h2], .inr rfl⟩
   ·cases h
 have hsub : ∀ k b, (p7 F1 ρ1 (r9 c.pre) k).blk b → (L k).blk b ∧ ∀ j, k = .inr j → w7 M j = .no := fun k b hb => by
  cases k with
  | inl i => rw [hLi]; exact ⟨hb, fun j h => by cases h⟩
  | inr j =>
   by_cases hl : w7 M j = .no
   ·simp only [p7] at hb
    rw [h1j j hl] at hb
    exact ⟨hb, fun j' h => by cases h; exact hl⟩
   ·obtain ⟨d, h1, _⟩ := hlent j hl
    simp only [p7, h1, It.res] at hb
    exact hb.elim
 have hfr1 : ∀ b, FrF φ L b → FrF φ (p7 F1 ρ1 (r9 c.pre)) b := fun b hb => ⟨hb.1, fun k hk => hb.2 k (hsub k b hk).1⟩
 let ψ1 : Nat → Prop := fun b => ∀ k, ¬ (p7 F1 ρ1 (r9 c.pre) k).blk b
 have M1 : m5 φ ψ1 w w (p7 F1 ρ1 (r9 c.pre)) := by
  refine ⟨B6.refl _ _, fun b hb => MM.fresh b (cd3 MM.size hb), fun k => ?_, fun k k' b hkk h1 h2 => MM.dis k k' b hkk (hsub k b h1).1 (hsub k' b h2).1, fun k b h1 => .inr fun h => h k h1, fun k b h1 => MM.ph k b (hsub k b h1).1⟩
  cases k with
  | inl i => exact Rs.snap_holds (show (F i).holds w _ from by rw [← hLi i]; exact MM.holds (.inl i))
  | inr j =>
   by_cases hl : w7 M j = .no
   ·simp only [p7]
    rw [h1j j hl]
    exact Rs.keep (MM.holds (.inr j)) (Agr.mono fun b _ hf => hfr1 b hf) fun _ _ => rfl
   ·obtain ⟨d, h1, h2, h3⟩ := hlent j hl
    have hh := MM.holds (.inr j)
    have hown : ∀ b, (L (.inr j)).blk b → FrF φ (p7 F1 ρ1 (r9 c.pre)) b := fun b hb => ⟨MM.ph _ _ hb, fun k hk => by
     obtain ⟨q1, q2⟩ := hsub k b hk
     by_cases e : k = .inr j
     ·exact hl (q2 j e)
     ·exact MM.dis k (.inr j) b e q1 hb⟩
    simp only [p7, h1, It.res]
    refine ⟨RD.nice _ _, ?_⟩
    rcases h3 with ⟨e, h3, hflat⟩ | h3
    ·rw [hLj, h3, h1] at hh
     simp only [y9, It.res] at hh
     obtain ⟨_, xs, o1, o2⟩ := hh
     have e1 : ρ1 j = ρ j := by rw [hρ1, h3]; rfl
     rw [e1]
     refine RD.make (B9 o1 fun g hg => hown g ?_) (bm6 hflat o2)
     rw [hLj, h3, h1]; exact hg
    ·rw [hLj, h3, h1] at hh
     simp only [y9, It.res] at hh
     have e1 : ρ1 j = E9 (ρ j) := by rw [hρ1, h3]; rfl
     rw [e1]
     refine E3.read hh.2.1 fun b hb => hown b ?_
     rw [hLj, h3, h1]; exact hb
 simp only
 rw [AV.vals_tr hρ1 c.args hargs]
 refine (hc ι φ ψ1 w w F1 ρ1 M1).mono ?_
 rintro x w' ⟨ρ2, g1, g2, M2⟩
 have hplen : (T6 M c.pre).length = c.pre.length := by simp [T6]
 let ρ' : Nat → Value := fun j => if j < c.pre.length then ρ j else ρ2 j
 have hρ' : ∀ j, ρ2 j = if (w7 M j).isT then E9 (ρ' j) else ρ' j := fun j => by
  show _ = if (w7 M j).isT then E9 (if j < c.pre.length then ρ j else ρ2 j) else (if j < c.pre.length then ρ j else ρ2 j)
  rcases ce7 j c.pre.length with h | h
  ·rw [if_pos h, g1 j h]
  ·rw [hno j h]
   exact (if_neg (Nat.not_lt.2 h)).symm
 have hρo : ∀ j, w7 M j ≠ .no → ρ' j = ρ j := fun j hj => by
  rcases ce7 j c.pre.length with h | h
  ·exact if_pos h
  ·exact absurd (hno j h) hj
 refine ⟨ρ', fun i hi => if_pos (by rw [hplen] at hi; exact hi), by rw [AV.val_tr hρ' c.res hres]; exact g2, ?_⟩
 have hL'j : ∀ j, p7 F ρ' (r9 (T6 M c.post)) (.inr j) = (y9 M (w7 M j) (r9 c.post j)).res ρ' j := fun j => by simp only [p7]; rw [W7]
 have hL'i : ∀ i, p7 F ρ' (r9 (T6 M c.post)) (.inl i) = F i := fun _ => rfl
 generalize hL' : p7 F ρ' (r9 (T6 M c.post)) = L' at hL'j hL'i
 have hL2j : ∀ j, w7 M j = .no → L' (.inr j) = p7 F1 ρ2 (r9 c.post) (.inr j) := fun j hl => by
  rw [hL'j, hl]
  have hp := hpo j
  have e : ρ2 j = ρ' j := by rw [hρ', hl]; rfl
  simp only [p7]
  cases hx : r9 c.post j with
  | none => rfl
  | dead => rfl
  | dat d => simp only [y9, It.res]; rw [e]
  | row e' d => simp only [y9, It.res]; rw [e]
  | tree d => simp only [y9, It.res]; rw [e]
  | kept e' d => cases e' <;> (simp only [y9, It.res]; rw [e])
  | box cs =>
   rw [hl, hx] at hp
   simp only [a43] at hp
   simp only [y9, It.res]
   rw [e, AV.vals_tr hρ' cs hp]
 have hlj : ∀ j, w7 M j ≠ .no → L' (.inr j) = L (.inr j) := fun j hl => by
  obtain ⟨d, h1, h2, h3⟩ := hlent j hl
  rw [hL'j, hLj, h1, h2]
  rcases h3 with ⟨e, h3, _⟩ | h3
  ·rw [h3]; simp only [y9, It.res]; rw [hρo j hl]
  ·rw [h3]; simp only [y9, It.res]; rw [hρo j hl]
 have hin : ∀ b, b < w.heap.size → ¬ ψ1 b → ∃ k, (L k).blk b ∧ ∀ j, k = .inr j → w7 M j = .no := fun b _ hn => by
  obtain ⟨k, hk⟩ := Classical.not_forall.1 hn
  exact ⟨k, hsub k b (Classical.not_not.1 hk)⟩
 have hnew : ∀ k b, (∀ j, k = .inr j → w7 M j = .no) → (p7 F1 ρ2 (r9 c.post) k).blk b → b < w.heap.size → ∃ k', (L k').blk b ∧ ∀ j, k' = .inr j → w7 M j = .no := fun k b _ hb hlt => by
  rcases M2.ge k b hb with h | h
  ·omega
  ·exact hin b hlt h
 have hback : ∀ k b, (L' k).blk b → b < w.heap.size → ∃ k', (L k').blk b := fun k b hb hlt => by
  cases k with
  | inl i => rw [hL'i] at hb; exact ⟨.inl i, by rw [hLi]; exact hb⟩
  | inr j =>
   by_cases hl : w7 M j = .no
   ·rw [hL2j j hl] at hb
    obtain ⟨k', h1, _⟩ := hnew (.inr j) b (fun j' h => by cases h; exact hl) hb hlt
    exact ⟨k', h1⟩
   ·rw [hlj j hl] at hb; exact ⟨_, hb⟩
 have hsame : ∀ b, b < w.heap.size → ψ1 b → w'.heap[b]? = w.heap[b]? := fun b h1 h2 => M2.kept.block b h1 h2
 have hagr : Agr (FrF φ L) (FrF φ L') w w' := ⟨M2.kept.size, fun b hb hf => ⟨⟨hf.1, fun k hk => let ⟨k', h1⟩ := hback k b hk hb; hf.2 k' h1⟩, hsame b hb fun k hk => (hfr1 b hf).2 k hk⟩⟩
 have hlsame : ∀ j, w7 M j ≠ .no → ∀ b, (L (.inr j)).blk b → w'.heap[b]? = w.heap[b]? := fun j hl b hb => hsame b (MM.lt hb) fun k hk => by
  obtain ⟨q1, q2⟩ := hsub k b hk
  by_cases e : k = .inr j
  ·exact hl (q2 j e)
  ·exact MM.dis k (.inr j) b e q1 hb
 have hcross : ∀ j k b, w7 M j ≠ .no → (∀ j, k = .inr j → w7 M j = .no) → (L (.inr j)).blk b → ¬ (p7 F1 ρ2 (r9 c.post) k).blk b := fun j k b hl hk h1 h2 => by
  obtain ⟨k', h3, h4⟩ := hnew k b hk h2 (MM.lt h1)
  exact MM.dis k' (.inr j) b (fun e => hl (h4 j e)) h3 h1
 refine ⟨⟨M2.kept.os.trans MM.kept.os, M2.kept.tape.trans MM.kept.tape, M2.kept.output.trans MM.kept.output, cd3 MM.size M2.kept.size, fun b hb hp => (hsame b (Nat.lt_of_lt_of_le hb MM.size) fun k hk => ?_).trans (MM.kept.block b hb hp)⟩, MM.fresh, fun k => ?_, fun k k' b hkk h1 h2 => ?_, fun k b h1 => ?_, fun k b h1 => ?_⟩
 ·rcases MM.ge k b (hsub k b hk).1 with h | h
  ·omega
  ·exact h hp
 ·cases k with
  | inl i =>
   rw [hL'i, ← hLi i]
   refine Rs.keep (MM.holds (.inl i)) hagr fun b hb => ?_
   have := (M2.holds (.inl i)).2.1 b (by rw [← hLi i]; exact hb) (MM.lt hb)
   exact this
  | inr j =>
   by_cases hl : w7 M j = .no
   ·have hh := M2.holds (.inr j)
    rw [← hL2j j hl] at hh
    have hp := hpo j
    rw [hl] at hp
    cases hx : r9 c.post j with
    | none => rw [hL'j, hl, hx]; exact Rs.none_holds _ _
    | dead => rw [hL'j, hl, hx]; exact Rs.none_holds _ _
    | box cs => rw [hL'j, hl, hx] at hh ⊢; exact hh
    | tree d => rw [hL'j, hl, hx] at hh ⊢; exact hh
    | kept e' d => rw [hx] at hp; exact absurd hp (by simp [a43])
    | row e d =>
     rw [hx] at hp
     simp only [a43] at hp
     rw [hL'j, hl, hx] at hh ⊢
     simp only [y9, It.res] at hh ⊢
     obtain ⟨_, xs, o1, o2⟩ := hh
     exact ⟨fun xs => RW.nice d xs, xs, o1, bm6 hp o2⟩
    | dat d =>
     rw [hx] at hp
     simp only [a43] at hp
     split at hp
     ·rename_i d' hpx
      have hd : d' = d := aZ0 he hpx hx
      subst hd
      have e : L' (.inr j) = L (.inr j) := by
       rw [hL'j, hLj, hl, hx, hpx]
       simp only [y9, It.res]
       have : j < c.pre.length := by
        rcases ce7 j c.pre.length with h | h
        ·exact h
        ·rw [w6 h] at hpx; cases hpx
       rw [show ρ' j = ρ j from if_pos this]
      rw [e]
      refine Rs.keep (MM.holds (.inr j)) hagr fun b hb => ?_
      rw [hLj, hl, hpx] at hb
      exact hb.elim
     ·cases hp
   ·rw [hlj j hl]
    exact Rs.keep (MM.holds (.inr j)) hagr fun b hb => hlsame j hl b hb
 ·have key : ∀ k, (∃ j, k = .inr j ∧ w7 M j ≠ .no ∧ (L' k) = L k) ∨ ((∀ j, k = .inr j → w7 M j = .no) ∧ ∀ b, (L' k).blk b → (p7 F1 ρ2 (r9 c.post) k).blk b) := fun k => by
   cases k with
   | inl i => exact .inr ⟨(fun j h => by cases h), fun b hb => by rw [hL'i] at hb; exact hb⟩
   | inr j =>
    by_cases hl : w7 M j = .no
    ·exact .inr ⟨fun j' h => by cases h; exact hl, fun b hb => by rw [hL2j j hl] at hb; exact hb⟩
    ·exact .inl ⟨j, rfl, hl, hlj j hl⟩
  rcases key k with ⟨j, rfl, k1, k2⟩ | ⟨k1, k2⟩ <;> rcases key k' with ⟨j', rfl, k3, k4⟩ | ⟨k3, k4⟩
  ·rw [k2] at h1; rw [k4] at h2; exact MM.dis _ _ b hkk h1 h2
  ·rw [k2] at h1; exact hcross j k' b k1 k3 h1 (k4 b h2)
  ·rw [k4] at h2; exact hcross j' k b k3 k1 h2 (k2 b h1)
  ·exact M2.dis k k' b hkk (k2 b h1) (k4 b h2)
 ·cases k with
  | inl i => rw [hL'i, ← hLi i] at h1; exact MM.ge _ b h1
  | inr j =>
   by_cases hl : w7 M j = .no
   ·rw [hL2j j hl] at h1
    rcases ce7 b w.heap.size with hlt | hge
    ·obtain ⟨k', h2, _⟩ := hnew (.inr j) b (fun j' h => by cases h; exact hl) h1 hlt
     exact MM.ge k' b h2
    ·exact .inl (cd3 MM.size hge)
   ·rw [hlj j hl] at h1; exact MM.ge _ b h1
 ·cases k with
  | inl i => rw [hL'i, ← hLi i] at h1; exact MM.ph _ b h1
  | inr j =>
   by_cases hl : w7 M j = .no
   ·rw [hL2j j hl] at h1; exact M2.ph _ b h1
   ·rw [hlj j hl] at h1; exact MM.ph _ b h1
def bC3 (M : List Ln) : Ln → It → It
 | .row e, .dat d => .kept (some e) d
 | .tree, .dat d => .kept none d
 | .no, .box cs => .box (AV.trL M cs)
 | _, x => x
def bC2 (M : List Ln) (S : List It) : List It := (cd9 S.length).map fun i => bC3 M (w7 M i) (r9 S i)
theorem bA6 (M : List Ln) (S : List It) (i : Nat) : r9 (bC2 M S) i = bC3 M (w7 M i) (r9 S i) := by
 unfold bC2
 rcases ce7 i S.length with h | h
 ·conv => lhs; rw [r9, cb8, List.getElem?_map, List.getElem?_range h]
  rfl
 ·rw [w6 (by simpa using h), w6 h]
  cases w7 M i <;> rfl
theorem i9.lend {P : Program} {c : i9} (hc : c.ok P) (M : List Ln) (hb : bB3 M c = true := by kernel_rfl) (he : ay3 c.pre c.post = ay2 c.pre c.post := by kernel_rfl) : i9.ok P ⟨c.f, AV.trL M c.args, T6 M c.pre, bC2 M c.post, c.res.tr M⟩ :=
 i9.okPost (i9.lend0 hc M hb he) _ fun ρ i => by
  simp only
  rw [bA6, W7]
  cases w7 M i <;> cases r9 c.post i <;> rfl
section
variable {P : Program} {ι κ : Type} {φ ψ : Nat → Prop} {w0 w : World} {F : ι → Rs} {ρ ρ0 : Nat → Value} {N m n : Nat} {S : List It} {tm : List (Nat × AV)} {a : Act}
theorem m5.release {L L' : κ → Rs} (M : m5 φ ψ w0 w L) (h : ∀ k, L' k = L k ∨ ((∀ b, ¬ (L' k).blk b) ∧ ∀ φ', (∀ b, FrF φ L b → φ' b) → (∀ b, (L k).blk b → φ' b) → (L' k).holds w φ')) : m5 φ ψ w0 w L' := by
 have old : ∀ k b, (L' k).blk b → (L k).blk b := fun k b hb => by
  rcases h k with e | ⟨h1, _⟩
  ·rw [e] at hb; exact hb
  ·exact (h1 b hb).elim
 have hfr : ∀ b, FrF φ L b → FrF φ L' b := fun b hb => ⟨hb.1, fun k hk => hb.2 k (old k b hk)⟩
 refine ⟨M.kept, M.fresh, fun k => ?_, fun i j g hij h1 h2 => M.dis i j g hij (old i g h1) (old j g h2), fun i b hb => M.ge i b (old i b hb), fun i b hb => M.ph i b (old i b hb)⟩
 rcases h k with e | ⟨h1, h2⟩
 ·rw [e]; exact Rs.keep (M.holds k) (Agr.mono fun b _ hf => hfr b hf) fun _ _ => rfl
 ·refine h2 _ hfr fun b hb => ⟨M.ph k b hb, fun j hj => ?_⟩
  by_cases e : j = k
  ·subst e; exact h1 b hj
  ·exact M.dis j k b e (old j b hj) hb
mutual
theorem AV.ids_tr (M : List Ln) : ∀ (x : AV), (x.tr M).ids = x.ids
 | .v _ => rfl
 | .ptr _ _ => rfl
 | .ea _ _ _ _ => rfl
 | .ref i => by simp only [AV.tr]; split <;> rfl
 | .agg l => by simp only [AV.tr, AV.ids]; exact AV.idsL_tr M l
 | .tup l => by simp only [AV.tr, AV.ids]; exact AV.idsL_tr M l
 | .fn _ l => by simp only [AV.tr, AV.ids]; exact AV.idsL_tr M l
 | .bm _ l => by simp only [AV.tr, AV.ids]; exact AV.idsL_tr M l
 | .tref _ => rfl
theorem AV.idsL_tr (M : List Ln) : ∀ (l : List AV), AV.idsL (AV.trL M l) = AV.idsL l
 | [] => rfl
 | x :: r => by simp only [AV.trL, AV.idsL]; rw [AV.ids_tr M x, AV.idsL_tr M r]
end
theorem aX3 {M : List Ln} {t : Nat} {x : AV} : ∀ {tm : List (Nat × AV)}, y5 tm t = some x → y5 (tm.map fun p => (p.1, p.2.tr M)) t = some (x.tr M) ∧ ∃ p ∈ tm, p.2 = x
 | [], h => by cases h
 | (k, y) :: r, h => by
  simp only [y5, ce6] at h ⊢
  split at h
  ·cases h; rename_i hk; rw [if_pos hk]; exact ⟨rfl, _, cd0, rfl⟩
  ·rename_i hk; rw [if_neg hk]
   obtain ⟨h1, p, h2, h3⟩ := aX3 h
   exact ⟨h1, p, cd4 _ h2, h3⟩
def b50 (M : List Ln) (m : Nat) (S1 : List It) (tm1 : List (Nat × AV)) : Bool :=
 decide (M.length ≤ S1.length) && (cd9 S1.length).all (fun i => match w7 M i, r9 S1 i with
  | .no, .box cs => AV.trOkL M cs
  | .no, _ => true
  | .row _, .dat _ => true
  | .tree, .dat _ => decide (m ≤ i)
  | _, _ => false) && tm1.all fun p => p.2.trOk M
theorem It.ids_lend (M : List Ln) (l : Ln) (x : It) : x.ids = [] ∨ (y9 M l x).ids = x.ids := by
 cases x with
 | box cs => cases l <;> first | exact .inr rfl | exact .inr (AV.idsL_tr M cs)
 | _ => exact .inl rfl
theorem s0.frz (G : s0 φ ψ w0 F N m ρ0 ρ S tm a w) (M : List Ln) (S1 : List It) (tm1 : List (Nat × AV)) (hb : b50 M m S1 tm1 = true := by kernel_rfl) (hS : S = T6 M S1 := by kernel_rfl) (ht : tm = tm1.map (fun p => (p.1, p.2.tr M)) := by kernel_rfl) :
  ∃ ρ', s0 φ ψ w0 F N m ρ0 ρ' S1 tm1 a w := by
 subst hS
 subst ht
 simp only [b50, cb3, decide_eq_true_eq] at hb
 obtain ⟨⟨hM, hall⟩, htm⟩ := hb
 have hlen : (T6 M S1).length = S1.length := by simp [T6]
 have hno : ∀ i, S1.length ≤ i → w7 M i = .no := fun i hi => by
  unfold w7; rw [cb8, ce2 (by omega)]; rfl
 have hat := fun i (hi : i < S1.length) => cc2.1 hall i (List.mem_range.2 hi)
 let ρ1 : Nat → Value := fun i => if (w7 M i).isT then E9 (ρ i) else ρ i
 have hρ1 : ∀ i, ρ1 i = if (w7 M i).isT then E9 (ρ i) else ρ i := fun _ => rfl
 have hρn : ∀ i, (w7 M i).isT = false → ρ1 i = ρ i := fun i h => by rw [hρ1, h]; rfl
 refine ⟨ρ1, G.size, G.defs, fun t x hx => ?_, fun t x hx i hi => ?_, fun j => ⟨fun i hi => ?_, fun hj => w6 hj⟩, ?_, ?_, fun i hi => ?_⟩
 ·obtain ⟨h1, p, h2, h3⟩ := aX3 (M := M) hx
  rw [G.tmv t _ h1, AV.val_tr hρ1 x (by rw [← h3]; exact cc2.1 htm p h2)]
 ·obtain ⟨h1, _⟩ := aX3 (M := M) hx
  have := G.tmi t _ h1 i (by rw [AV.ids_tr]; exact hi)
  rw [hlen] at this; exact this
 ·have h1 := (G.bd j).1 i
  rw [W7, hlen] at h1
  rcases It.ids_lend M (w7 M j) (r9 S1 j) with h | h
  ·rw [h] at hi; cases hi
  ·exact h1 (by rw [h]; exact hi)
 ·refine G.mem.release fun k => ?_
  cases k with
  | inl i => exact .inl rfl
  | inr j =>
   simp only [p7]
   rw [W7]
   rcases ce7 j S1.length with hj | hj
   case inr => rw [hno j hj, w6 hj]; exact .inl rfl
   have h1 := hat j hj
   cases hl : w7 M j with
   | no =>
    have e : ρ1 j = ρ j := hρn j (by rw [hl]; rfl)
    rw [hl] at h1
    left
    cases hx : r9 S1 j with
    | box cs =>
     rw [hx] at h1
     simp only [y9, It.res]
     rw [e, AV.vals_tr hρ1 cs h1]
    | none => rfl
    | dead => rfl
    | dat d => simp only [y9, It.res]; rw [e]
    | row e' d => simp only [y9, It.res]; rw [e]
    | tree d => simp only [y9, It.res]; rw [e]
    | kept e' d => cases e' <;> (simp only [y9, It.res]; rw [e])
   | row e' =>
    have e : ρ1 j = ρ j := hρn j (by rw [hl]; rfl)
    rw [hl] at h1
    cases hx : r9 S1 j <;> rw [hx] at h1 <;> first | cases h1 | skip
    rename_i d
    refine .inr ⟨fun b hb => hb, fun φ' hf hown => ⟨RD.nice _ _, ?_⟩⟩
    have hh := G.mem.holds (.inr j)
    simp only [p7] at hh
    rw [W7, hl, hx] at hh
    simp only [y9, It.res] at hh
    obtain ⟨_, xs, o1, o2⟩ := hh
    rw [e]
    exact RD.make (B9 o1 fun g hg => hown g hg) (RW.nice _ _ _ _ _ _ (Agr.mono fun b _ hb => hf b hb) o2)
   | tree =>
    have e : ρ1 j = E9 (ρ j) := by rw [hρ1, hl]; rfl
    rw [hl] at h1
    cases hx : r9 S1 j <;> rw [hx] at h1 <;> first | cases h1 | skip
    rename_i d
    refine .inr ⟨fun b hb => hb, fun φ' hf hown => ⟨RD.nice _ _, ?_⟩⟩
    have hh := G.mem.holds (.inr j)
    simp only [p7] at hh
    rw [W7, hl, hx] at hh
    simp only [y9, It.res] at hh
    rw [e]
    exact E3.read hh.2.1 fun b hb => hown b hb
 ·have := G.le; rw [hlen] at this; exact this
 ·have hm := G.le
  rw [hlen] at hm
  have : (w7 M i).isT = false := by
   cases hl : w7 M i with
   | no => rfl
   | row _ => rfl
   | tree =>
    have h1 := hat i (by omega)
    rw [hl] at h1
    cases hx : r9 S1 i <;> rw [hx] at h1 <;> simp at h1
    omega
  show ρ1 i = ρ0 i
  rw [hρn i this]; exact G.old i hi
end
end Go.Proofs.YthikdkjjdeehoaaGreat

namespace Go.Proofs.YthikdkjjdeehoaaGreat
set_option linter.unusedVariables false
set_option linter.unusedSimpArgs false
open Go Go.RowKit
end Go.Proofs.YthikdkjjdeehoaaGreat

namespace Go.Proofs.YthikdkjjdeehoaaGreat
set_option linter.unusedVariables false
set_option linter.unusedSimpArgs false
open Go Go.RowKit
section
variable {P : Program} {ι κ : Type} {φ ψ : Nat → Prop} {w0 w w' : World} {F : ι → Rs} {ρ ρ0 : Nat → Value}
theorem m5.grow {L L' : κ → Rs} (M : m5 φ ψ w0 w L) (hb : Below w.heap.size w w') (K : κ → Prop) (ho : ∀ k, ¬ K k → L' k = L k) (hg : ∀ k, K k → ∀ b, (L' k).blk b → w.heap.size ≤ b) (hd : ∀ j k b, j ≠ k → K j → K k → (L' j).blk b → ¬ (L' k).blk b) (h : ∀ k, K k → (L' k).holds w' (FrF φ L')) : m5 φ ψ w0 w' L' := by
 have M1 := M.call hb
 have old : ∀ k, ¬ K k → ∀ b, (L' k).blk b → b < w.heap.size := fun k hk b h1 => by rw [ho k hk] at h1; exact M.lt h1
 refine ⟨M1.kept, M.fresh, fun k => ?_, fun i j g hij h1 h2 => ?_, fun i b h1 => ?_, fun i b h1 => ?_⟩
 ·by_cases e : K k
  ·exact h k e
  ·rw [ho k e]
   refine Rs.keep (M.holds k) ⟨hb.size, fun b hl hf => ⟨⟨hf.1, fun j hj => ?_⟩, hb.block b hl⟩⟩ fun g hgx => hb.block g (M.lt hgx)
   by_cases e2 : K j
   ·have := hg j e2 b hj; omega
   ·rw [ho j e2] at hj; exact hf.2 j hj
 ·by_cases e1 : K i <;> by_cases e2 : K j
  ·exact hd i j g hij e1 e2 h1 h2
  ·have := hg i e1 g h1; have := old j e2 g h2; omega
  ·have := hg j e2 g h2; have := old i e1 g h1; omega
  ·rw [ho i e1] at h1; rw [ho j e2] at h2; exact M.dis i j g hij h1 h2
 ·by_cases e : K i
  ·exact .inl (cd3 M.size (hg i e b h1))
  ·rw [ho i e] at h1; exact M.ge i b h1
 ·by_cases e : K i
  ·exact M.fresh b (cd3 M.size (hg i e b h1))
  ·rw [ho i e] at h1; exact M.ph i b h1
end
abbrev oP (p : d7) : List It := [.row 3 (.ints p.vars), .row 3 (.ints p.arrays), .tree (.stmts p.body)]
abbrev oA (r : Nat) : AV := .agg [.ref r, .ref (r + 1), .tref (r + 2)]
theorem bp5 {w : World} {φ : Nat → Prop} {v : Value} {l : List Int} (h : w.ownsRow 0 3 1 v l.length (ints l)) : (Rs.row 3 (D.ints l).sz v (D.ints l).len fun xs w φ => RW w φ (.ints l) xs).holds w φ := by
 refine ⟨fun xs => RW.nice (.ints l) xs, ints l, h, fun i hi j x hx => ?_⟩
 have hi' : i < l.length := hi
 simp only [D.elem] at hx
 have hj : j = 0 := by
  cases j with
  | zero => rfl
  | succ j => simp at hx
 subst hj
 simp at hx
 subst hx
 refine ⟨_, ?_, rfl⟩
 simp only [D.sz]
 rw [Nat.mul_one, Nat.add_zero]
 simp [ints, hi']
theorem be9 (v : Value) (t : List Int) (w : World) (h : Row w v t.length 1 (ints t)) (hb : t.length ≤ 1000000000000) :
  Calls Tryz.prog 70 #[v] w fun e w' => ∃ u, e = .returned u ∧ Own w' w.heap.size w'.heap.size 3 1 u t.length (ints t) ∧ Below w.heap.size w w' := by
 obtain ⟨a, cap, rfl, hc1, hc2, hc3, -⟩ := h.open
 have hnil := fun w => Lib.run_eql_slice_nil (P := Tryz.prog) w 23 3 a t.length cap 0 0 Tryz.underlying23
 rcases a with _ | a
 ·have hn : t.length = 0 := by
   rcases Nat.eq_zero_or_pos t.length with h0 | h0
   ·exact h0
   ·obtain ⟨_, a, c, he, _, _, hx⟩ := h
    cases he
    obtain ⟨_, _, he, _⟩ := hx h0
    cases he
  have ht : t = [] := cc7 hn
  subst ht
  simp only [cb6, Option.isNone_none] at hnil
  go_enter Tryz.func70, Tryz.ntmps70
  go_wp2_with fail
  go_ret
  exact ⟨_, rfl, ⟨World.ownsRow_nil _ _ _ _, fun g hg => by cases hg⟩, Below.refl _ _⟩
 ·go_enter Tryz.func70, Tryz.ntmps70
  simp only [Option.isNone_some] at hnil
  have ba := (Below.refl w.heap.size w).alloc (cc6 _) (.cells #[] 3)
  go_wp2_with (at_builtin; refine ba4 rfl _ _ rfl Tryz.underlying23 b43 rfl (by omega) rfl (ak8 w #[] 0 1 _ rfl rfl (by omega)).1 rfl (h.below ba) bC6 (by omega) (by omega) (by simp) ?_; rintro a4 q4 w4 o4 b4 - -)
  go_ret
  refine ⟨_, rfl, Own.mk' (by simpa using o4), ba.trans b4⟩
theorem Z1 (l : List Int) (hb : l.length ≤ 1000000000000) : i9.ok Tryz.prog ⟨70, [.ref 0], [.dat (.ints l)], [.dat (.ints l), .row 3 (.ints l)], .ref 1⟩ := by
 intro ι φ ψ w0 w F ρ M
 have hr := M.datAt (id := 0) (d := .ints l) rfl
 refine (be9 (ρ 0) l w (z6.row hr) hb).mono ?_
 rintro e w' ⟨u, rfl, ⟨ho, hg⟩, hbl⟩
 refine ⟨fun i => if i = 1 then u else ρ i, fun i hi => if_neg (show ¬ i = 1 by have : i < 1 := hi; omega), by simp [AV.val], ?_⟩
 refine M.grow hbl (fun k => k = .inr 1) (fun k hk => ?_) ?_ ?_ ?_
 ·cases k with
  | inl i => rfl
  | inr j =>
   match j, hk with
   | 0, _ => rfl
   | 1, h => exact absurd rfl h
   | j + 2, _ => rfl
 ·rintro k rfl b hb; exact (World.ownsRow.lt ho b hb).1
 ·rintro j k b hjk rfl rfl; exact absurd rfl hjk
 ·rintro k rfl; exact bp5 (ab3 ho (ce8 _))
theorem bQ5 {l : List b5} {k : Nat} (hk : k < l.length) : l.take k ++ [⟨(l.getD k cb2).kind, (l.getD k cb2).value, (l.getD k cb2).kids⟩] = l.take (k + 1) := by
 rw [b5.eta, o9 _ _ hk, m9 hk]
theorem bQ4 {l : List b6} {k : Nat} (hk : k < l.length) : l.take k ++ [⟨(l.getD k cb2).kind, (l.getD k cb2).target, ⟨(l.getD k cb2).index.kind, (l.getD k cb2).index.value, (l.getD k cb2).index.kids⟩, ⟨(l.getD k cb2).value.kind, (l.getD k cb2).value.value, (l.getD k cb2).value.kids⟩, (l.getD k cb2).count, (l.getD k cb2).body, (l.getD k cb2).els⟩] = l.take (k + 1) := by
 rw [b5.eta, b5.eta, b6.eta, o9 _ _ hk, m9 hk]
theorem aB6 {α : Type} {l : List α} {k : Nat} (h1 : k ≤ l.length) (h2 : ¬ (k : Int) < l.length) : l.take k = l := by rw [cc8 (by omega)]
theorem bB4 {α : Type} {l : List α} {k n : Nat} (h1 : k ≤ l.length) (h : l.length ≤ n) : (l.take k).length ≤ n := by rw [List.length_take]; omega
theorem a47 {e : b5} (h : v5 e ≤ 1048576) : e.kids.length ≤ 1048576 := by
 have h1 := as7 e.kids
 have h2 : v5 e = n9 e.kids := by cases e; rfl
 omega
theorem aR8 {l : List b6} (h : i5 l ≤ 1048576) : l.length ≤ 1048576 := cd3 (C2 l) h
theorem ab4 {α : Type} {l : List α} {x : α} {k : Nat} (h1 : k ≤ l.length) (h : l.length ≤ 1048576) : (l.take k).length + [x].length ≤ 1048577 := by
 have := bB4 (k := k) h1 h
 simp only [cb4, cb6]; omega
theorem bM1 {a b : Nat} (ha : a ≤ 1048577) (hb : Nat.ble b 1000 = true) : a * b ≤ 140737488355328 := by
 have h1 := Nat.le_of_ble_eq_true hb
 have h2 := Nat.mul_le_mul ha h1
 omega
theorem ab5 {l : List b5} {k : Nat} (h : (k : Int) < l.length) : l.getD k cb2 ∈ l := by rw [m9 (by omega)]; exact cd7 (by omega)
theorem X2 {l : List b6} {k : Nat} (h : (k : Int) < l.length) : l.getD k cb2 ∈ l := by rw [m9 (by omega)]; exact cd7 (by omega)
abbrev cpC (e : b5) : i9 := ⟨132, [eA e 0], eS e, eS e ++ [.tree (.exprs e.kids)], .agg [iA e.kind, iA e.value, .tref 1]⟩
abbrev a01 (e : b5) (r0 : List It) : List It := dE e.kids :: .box (eL e 0) :: .box [iA 0, iA 0, .v (.slice none 0 0)] :: r0
theorem bx5 (e : b5) (hb : v5 e ≤ 1048576) (ih : ∀ (x : b5), x ∈ e.kids → i9.ok Tryz.prog (cpC x)) : i9.ok Tryz.prog (cpC e) := by
 refine z7 29 Tryz.func132 [dE e.kids] [(0, eA e 0)] fun G => ?_; have hl := a47 hb; refine wp_seq (k8 G d9 [0, 1, 9] (a01 e []) [(1, .ptr 1 0), (2, .ptr 2 0)] fun G => b7 (wp_seq (k8 G d9 [0, 1, 2, 43] (a01 e [.box [iA e.kind, iA e.value, .v (.slice none 0 0)]]) [(1, .ptr 1 0), (2, .ptr 2 0), (3, .ptr 3 0)] fun G => b7 (wp_seq (wp_seq (C9 G d9 [(1, .ptr 1 0), (2, .ptr 2 0), (3, .ptr 3 0), (4, iA 0)] fun G => b7 (wp_block ?_))))))); obtain ⟨ρ, G⟩ := G.nilT 4 (.exprs []) (a01 e [.box [iA e.kind, iA e.value, .tref 4]]) [(1, .ptr 1 0), (2, .ptr 2 0), (3, .ptr 3 0), (4, iA 0)]; refine o7 (κ := Nat) (fun k => k ≤ e.kids.length) (fun k => e.kids.length - k) (fun k => [dE e.kids, .box (eL e 0), .box [iA 0, iA 0, .v (.slice none 0 0)], .box [iA e.kind, iA e.value, .tref 4], .tree (.exprs (e.kids.take k))]) (fun k => [(1, .ptr 1 0), (2, .ptr 2 0), (3, .ptr 3 0), (4, iA k)]) 0 (by omega) (s0.at G _ _) ?_; clear G; intro k ρ a w hp G; replace G := s0.at G (a01 e [.box [iA e.kind, iA e.value, .tref 4], .tree (D.exprs (cc0 k e.kids))]) [(1, .ptr 1 0), (2, .ptr 2 0), (3, .ptr 3 0), (4, iA k)]; refine wp_seq (wp_seq (l0 G d9 [(14, bA (decide ((k : Int) < e.kids.length)))] fun G => b7 (N4 G (fun h0 q0 => ?_) fun h0 q0 => ?_)))
 ·refine wp_exit (o0 (o0 (n5 (b7 (wp_seq (k8 G d9 [0, 2, 4] [dE e.kids, .box [iA e.kind, iA e.value, .tref 2], .tree (D.exprs (cc0 k e.kids))] [(2, .ptr 1 0)] fun G => b7 (wp_ret ?_))))))); exact F6 G [0, 2] (by show _ = mR [0, 2] [dE e.kids, .tree (D.exprs e.kids)]; have e1 : (cc0 k e.kids : List b5) = (e.kids) := (aB6 hp (by assumption)); (first | rw [e1] | simp only [e1]) <;> rfl)
 ·refine wp_skip (b7 (wp_seq (wp_block (F7 G (s4 7 [53] (ih (e.kids.getD k cb2) (ab5 (by assumption)))) [0, 1, 0, 4, 0, 28, 60, 124, 252, 511, 1023, 2047] [0, 1, 2, 3, 77] (a01 e [.box [iA e.kind, iA e.value, .tref 4], .tree (D.exprs (cc0 k e.kids ++ [m8 (e.kids.getD k cb2)]))]) [(1, .ptr 1 0), (2, .ptr 2 0), (3, .ptr 3 0), (4, iA k)] [(0 : Int) ≤ (k : Int), (k : Int) < e.kids.length, k < e.kids.length, (cc0 k e.kids).length + [m8 (e.kids.getD k cb2)].length ≤ (9223372036854775807 : Nat), ((cc0 k e.kids).length + [m8 (e.kids.getD k cb2)].length) * (40 : Nat) ≤ (140737488355328 : Nat)] ⟨(by simp [h0]), (by assumption), (by have := ab4 (x := (cb2 : b5)) hp hl; simp only [cb4, cb6] at this ⊢; omega), (by have := ab4 (x := (cb2 : b5)) hp hl; simp only [cb4, cb6] at this ⊢; omega), (bM1 (ab4 hp hl) (by kernel_rfl)), cc1⟩ fun G => m6 (b7 (D7 G d9 [(4, iA ((k : Int) + 1))] [wO ((k : Int) + 1)] (o1 (by omega)) fun G => b7 ?_)))))); exact M7 G (k + 1) (by have := ab4 (x := (cb2 : b5)) hp hl; simp only [cb4, cb6] at this ⊢; omega) (by have := ab4 (x := (cb2 : b5)) hp hl; simp only [cb4, cb6] at this ⊢; omega) (rg 5) (by have e1 : (cc0 (k + 1) e.kids : List b5) = (cc0 k e.kids ++ [m8 (e.kids.getD k cb2)]) := ((bQ5 (by omega)).symm); (first | rw [e1] | simp only [e1]) <;> rfl)
theorem aZ7 (e : b5) : v5 e ≤ 1048576 → i9.ok Tryz.prog (cpC e) :=
 b5.ind (P := fun e => v5 e ≤ 1048576 → i9.ok Tryz.prog (cpC e)) (fun k n ks ih hb => bx5 ⟨k, n, ks⟩ hb fun x hx => ih x hx (by
  have h1 := bi9 (show x ∈ ks from hx)
  have h2 : v5 ⟨k, n, ks⟩ = n9 ks := rfl
  omega)) e
abbrev a68 (l : List b6) : i9 := ⟨151, [.ref 0], [dT l], [dT l, .tree (.stmts l)], .tref 1⟩
theorem aC7 {l : List b6} {k : Nat} (hb : i5 l ≤ 1048576) (h : (k : Int) < l.length) : v5 (l.getD k cb2).index ≤ 1048576 ∧ v5 (l.getD k cb2).value ≤ 1048576 ∧ i5 (l.getD k cb2).body ≤ 1048576 ∧ i5 (l.getD k cb2).els ≤ 1048576 := by
 have h1 := I6 (X2 h)
 generalize l.getD k cb2 = s at *
 rcases s with ⟨_, _, i, v, _, b, e⟩
 simp only [D9] at h1
 simp only [b6.index, b6.value, b6.body, b6.els]
 omega
abbrev aE0 (k : Nat) (r0 : List (Nat × AV)) : List (Nat × AV) := (0, .ref 0) :: (2, .v (.slice none 0 0)) :: (3, .tref 1) :: (4, iA (k : Int)) :: r0
theorem aI1 (l : List b6) (hb : i5 l ≤ 1048576) (ih1 : ∀ (s : b6), s ∈ l → i9.ok Tryz.prog (a68 s.body)) (ih2 : ∀ (s : b6), s ∈ l → i9.ok Tryz.prog (a68 s.els)) : i9.ok Tryz.prog (a68 l) := by
  refine z7 38 Tryz.func151 [dT l] [(0, .ref 0)] fun G => ?_; have hl := aR8 hb; refine wp_seq (l0 G d9 [(2, .v (.slice none 0 0))] fun G => b7 (wp_seq (k8 G d9 [0, 1] [dT l, .tree (D.stmts [])] [(0, .ref 0), (2, .v (.slice none 0 0)), (3, .tref 1)] fun G => b7 (wp_seq (wp_seq (C9 G d9 [(0, .ref 0), (2, .v (.slice none 0 0)), (3, .tref 1), (4, iA 0)] fun G => b7 (wp_block ?_))))))); refine o7 (κ := Nat) (fun k => k ≤ l.length) (fun k => l.length - k) (fun k => [dT l, .tree (.stmts (l.take k))]) (fun k => [(0, .ref 0), (2, .v (.slice none 0 0)), (3, .tref 1), (4, iA k)]) 0 (by omega) (s0.at G _ _) ?_; clear G; intro k ρ a w hp G; replace G := s0.at G [dT l, .tree (D.stmts (cc0 k l))] (aE0 k []); refine wp_seq (wp_seq (l0 G d9 [(10, bA (decide ((k : Int) < l.length)))] fun G => b7 (N4 G (fun h0 q0 => ?_) fun h0 q0 => ?_)))
  · refine wp_exit (o0 (o0 (n5 (b7 (wp_seq (l0 G d9 [(2, .tref 1)] fun G => b7 (wp_ret ?_))))))); exact F6 G [0, 1] (by show _ = mR [0, 1] [dT l, .tree (D.stmts l)]; have e1 : (cc0 k l : List b6) = (l) := (aB6 hp (by assumption)); (first | rw [e1] | simp only [e1]) <;> rfl)
  ·
   refine wp_skip (b7 (wp_seq (wp_block (wp_seq (N5 G d9 [0, 1, 26, 27, 28, 29, 34] [dT l, .tree (D.stmts (cc0 k l)), dE (l.getD k cb2).index.kids, dE (l.getD k cb2).value.kids, dT (l.getD k cb2).body, dT (l.getD k cb2).els, .box (sL (l.getD k cb2) 2)] (aE0 k [(5, .ptr 6 0)]) [(0 : Int) ≤ (k : Int), (k : Int) < l.length, k < l.length] ⟨(by simp [h0]), (by assumption), (by have := ab4 (x := (cb2 : b6)) hp hl; simp only [cb4, cb6] at this ⊢; omega), cc1⟩ fun G => b7 (wp_seq (k8 G (s4 2 [2] (aZ7 ((l.getD k cb2).index) ((aC7 hb (by assumption)).1))) [0, 1, 3, 4, 5, 6, 23] [dT l, .tree (D.stmts (cc0 k l)), dE (l.getD k cb2).value.kids, dT (l.getD k cb2).body, dT (l.getD k cb2).els, .box [iA (l.getD k cb2).kind, iA (l.getD k cb2).target, iA (l.getD k cb2).index.kind, iA (l.getD k cb2).index.value, .tref 6, iA (l.getD k cb2).value.kind, iA (l.getD k cb2).value.value, .ref 2, iA (l.getD k cb2).count, .ref 3, .ref 4], .tree (D.exprs (l.getD k cb2).index.kids)] (aE0 k [(5, .ptr 5 0)]) fun G => b7 (wp_seq (k8 G (s4 2 [2] (aZ7 ((l.getD k cb2).value) ((aC7 hb (by assumption)).2.1))) [0, 1, 3, 4, 5, 6, 23] [dT l, .tree (D.stmts (cc0 k l)), dT (l.getD k cb2).body, dT (l.getD k cb2).els, .box [iA (l.getD k cb2).kind, iA (l.getD k cb2).target, iA (l.getD k cb2).index.kind, iA (l.getD k cb2).index.value, .tref 5, iA (l.getD k cb2).value.kind, iA (l.getD k cb2).value.value, .tref 6, iA (l.getD k cb2).count, .ref 2, .ref 3], .tree (D.exprs (l.getD k cb2).index.kids), .tree (D.exprs (l.getD k cb2).value.kids)] (aE0 k [(5, .ptr 4 0)]) fun G => b7 (wp_seq (k8 G (s4 2 [2] (ih1 (l.getD k cb2) (X2 (by assumption)))) [0, 1, 3, 4, 5, 6, 23] [dT l, .tree (D.stmts (cc0 k l)), dT (l.getD k cb2).els, .box [iA (l.getD k cb2).kind, iA (l.getD k cb2).target, iA (l.getD k cb2).index.kind, iA (l.getD k cb2).index.value, .tref 4, iA (l.getD k cb2).value.kind, iA (l.getD k cb2).value.value, .tref 5, iA (l.getD k cb2).count, .tref 6, .ref 2], .tree (D.exprs (l.getD k cb2).index.kids), .tree (D.exprs (l.getD k cb2).value.kids), .tree (D.stmts (l.getD k cb2).body)] (aE0 k [(5, .ptr 3 0)]) fun G => b7 (wp_seq (k8 G (s4 2 [2] (ih2 (l.getD k cb2) (X2 (by assumption)))) [0, 1, 3, 4, 5, 6, 23] [dT l, .tree (D.stmts (cc0 k l)), .box [iA (l.getD k cb2).kind, iA (l.getD k cb2).target, iA (l.getD k cb2).index.kind, iA (l.getD k cb2).index.value, .tref 3, iA (l.getD k cb2).value.kind, iA (l.getD k cb2).value.value, .tref 4, iA (l.getD k cb2).count, .tref 5, .tref 6], .tree (D.exprs (l.getD k cb2).index.kids), .tree (D.exprs (l.getD k cb2).value.kids), .tree (D.stmts (l.getD k cb2).body), .tree (D.stmts (l.getD k cb2).els)] (aE0 k [(5, .ptr 2 0)]) fun G => ?_)))))))))))))
   refine b7 (N5 G d9 [0, 31] [dT l, .tree (D.stmts (cc0 k l ++ [qzS (l.getD k cb2)]))] (aE0 k []) [(cc0 k l).length + [qzS (l.getD k cb2)].length ≤ (9223372036854775807 : Nat), ((cc0 k l).length + [qzS (l.getD k cb2)].length) * (152 : Nat) ≤ (140737488355328 : Nat)] ⟨(by have := ab4 (x := (cb2 : b6)) hp hl; simp only [cb4, cb6] at this ⊢; omega), (bM1 (ab4 hp hl) (by kernel_rfl)), cc1⟩ fun G => m6 (b7 (D7 G d9 [(4, iA ((k : Int) + 1))] [wO ((k : Int) + 1)] (o1 (by omega)) fun G => b7 ?_))); exact M7 G (k + 1) (by have := ab4 (x := (cb2 : b6)) hp hl; simp only [cb4, cb6] at this ⊢; omega) (by have := ab4 (x := (cb2 : b6)) hp hl; simp only [cb4, cb6] at this ⊢; omega) [0, 1] (by have e1 : (cc0 (k + 1) l : List b6) = (cc0 k l ++ [qzS (l.getD k cb2)]) := ((bQ4 (by omega)).symm); (first | rw [e1] | simp only [e1]) <;> rfl)
theorem bN9 (l : List b6) : i5 l ≤ 1048576 → i9.ok Tryz.prog (a68 l) := fun hb => aI1 l hb
 (fun s hs => (c_copyS2 s).1 (cd3 (Nat.le_of_lt (I6 hs)) hb)) fun s hs => (c_copyS2 s).2 (cd3 (Nat.le_of_lt (I6 hs)) hb)
where
 c_copyS2 (s : b6) : (D9 s ≤ 1048576 → i9.ok Tryz.prog (a68 s.body)) ∧ (D9 s ≤ 1048576 → i9.ok Tryz.prog (a68 s.els)) :=
  b6.ind (P := fun s => (D9 s ≤ 1048576 → i9.ok Tryz.prog (a68 s.body)) ∧ (D9 s ≤ 1048576 → i9.ok Tryz.prog (a68 s.els))) (fun k t i v c b e h1 h2 => by
   have hz : D9 ⟨k, t, i, v, c, b, e⟩ = v5 i + v5 v + i5 b + i5 e := rfl
   constructor
   ·intro hb
    refine aI1 b (by omega) (fun s hs => (h1 s hs).1 ?_) fun s hs => (h1 s hs).2 ?_
    ·have := I6 hs; omega
    ·have := I6 hs; omega
   ·intro hb
    refine aI1 e (by omega) (fun s hs => (h2 s hs).1 ?_) fun s hs => (h2 s hs).2 ?_
    ·have := I6 hs; omega
    ·have := I6 hs; omega) s
theorem bG1 (p : d7) (hb : p.size ≤ 1048576) : i9.ok Tryz.prog ⟨78, [pA 0], pS p, pS p ++ oP p, oA 3⟩ := by
 refine z7 15 Tryz.func78 [dI p.vars, dI p.arrays, dT p.body] [(0, pA 0)] fun G => ?_
 have hb1 : p.vars.length ≤ 1048576 ∧ p.arrays.length ≤ 1048576 ∧ i5 p.body ≤ 1048576 := by unfold d7.size at hb; omega
 refine wp_seq (k8 G d9 [0, 1, 2, 3, 11] [dI p.vars, dI p.arrays, dT p.body, .box (pL 0), .box [.v (.slice none 0 0), .v (.slice none 0 0), .v (.slice none 0 0)]] [(1, .ptr 3 0), (2, .ptr 4 0)] fun G => b7 (wp_seq (F7 G (s4 10 [2] (bN9 p.body hb1.2.2)) [0, 0, 2, 7, 0, 0, 32, 127, 0, 256, 1023, 2047, 4095] [0, 1, 2, 4, 29, 61, 85] [dI p.vars, dI p.arrays, dT p.body, .box [.ref 4, .ref 5, .tref 6], .row 3 (D.ints ([] ++ p.vars)), .row 3 (D.ints ([] ++ p.arrays)), .tree (D.stmts p.body)] [(2, .ptr 3 0)] (aP ((0 : Nat) + p.vars.length) 8 (aP ((0 : Nat) + p.arrays.length) 8 [])) (aK (by omega) (aK (by omega) cc1)) fun G => b7 (wp_ret ?_)))); exact F6 G [0, 1, 2, 4, 5, 6]
abbrev owC (e : b5) : i9 := ⟨126, [eA e 0], eS e, eS e ++ [.tree (.exprs e.kids)], .agg [iA e.kind, iA e.value, .tref 1]⟩
abbrev aO3 : It := .box [iA 0, iA 0, .v (.slice none 0 0)]
theorem bU1 (e : b5) (hb : v5 e ≤ 1048576) (ih : ∀ (x : b5), x ∈ e.kids → i9.ok Tryz.prog (owC x)) : i9.ok Tryz.prog (owC e) := by
 refine z7 27 Tryz.func126 [dE e.kids] [(0, eA e 0)] fun G => ?_; have hl := a47 hb; refine wp_seq (k8 G d9 [0, 1, 9] [dE e.kids, .box (eL e 0), aO3] [(1, .ptr 1 0), (2, .ptr 2 0)] fun G => b7 (wp_seq (k8 G d9 [0, 1, 2, 43] [dE e.kids, .box (eL e 0), aO3, .box [iA e.kind, iA e.value, .v (.slice none 0 0)]] [(1, .ptr 1 0), (2, .ptr 2 0), (3, .ptr 3 0)] fun G => b7 (wp_seq (wp_seq (k8 G d9 [0, 2, 3] [dE e.kids, aO3, .box [iA e.kind, iA e.value, .v (.slice none 0 0)]] [(2, .ptr 1 0), (3, .ptr 2 0), (12, .ref 0), (13, iA (e.kids.length : Int)), (14, iA 0)] fun G => b7 (wp_block ?_))))))); obtain ⟨ρ, G⟩ := G.nilT 3 (.exprs []) [dE e.kids, .box [iA 0, iA 0, .v (.slice none 0 0)], .box [iA e.kind, iA e.value, .tref 3]] [(2, .ptr 1 0), (3, .ptr 2 0), (12, .ref 0), (13, iA (e.kids.length : Int)), (14, iA 0)]; refine o7 (κ := Nat) (fun k => k ≤ e.kids.length) (fun k => e.kids.length - k) (fun k => [dE e.kids, .box [iA 0, iA 0, .v (.slice none 0 0)], .box [iA e.kind, iA e.value, .tref 3], .tree (.exprs (e.kids.take k))]) (fun k => [(2, .ptr 1 0), (3, .ptr 2 0), (12, .ref 0), (13, iA (e.kids.length : Int)), (14, iA k)]) 0 (by omega) (s0.at G _ _) ?_; clear G; intro k ρ a w hp G; replace G := s0.at G [dE e.kids, aO3, .box [iA e.kind, iA e.value, .tref 3], .tree (D.exprs (cc0 k e.kids))] [(2, .ptr 1 0), (3, .ptr 2 0), (12, .ref 0), (13, iA (e.kids.length : Int)), (14, iA k)]; refine wp_seq (l0 G d9 [(15, bA (decide ((k : Int) < e.kids.length)))] fun G => b7 (wp_seq (N4 G (fun h0 q0 => ?_) fun h0 q0 => ?_)))
 ·refine wp_exit (o0 (o0 (n5 (b7 (wp_seq (k8 G d9 [0, 1, 3] [dE e.kids, .box [iA e.kind, iA e.value, .tref 2], .tree (D.exprs (cc0 k e.kids))] [(2, .ptr 1 0)] fun G => b7 (wp_ret ?_))))))); exact F6 G [0, 2] (by show _ = mR [0, 2] [dE e.kids, .tree (D.exprs e.kids)]; have e1 : (cc0 k e.kids : List b5) = (e.kids) := (aB6 hp (by assumption)); (first | rw [e1] | simp only [e1]) <;> rfl)
 ·refine wp_skip (b7 (wp_seq (wp_block (wp_seq (N5 G d9 [0, 1, 2, 3, 12, 20] [dE e.kids, aO3, .box [iA e.kind, iA e.value, .tref 3], .tree (D.exprs (cc0 k e.kids)), dE (e.kids.getD k cb2).kids, .box (eL (e.kids.getD k cb2) 4)] [(2, .ptr 1 0), (3, .ptr 2 0), (5, .ptr 5 0), (12, .ref 0), (13, iA (e.kids.length : Int)), (14, iA k)] [(0 : Int) ≤ (k : Int), (k : Int) < e.kids.length, k < e.kids.length] ⟨(by simp [h0]), (by assumption), (by have := ab4 (x := (cb2 : b5)) hp hl; simp only [cb4, cb6] at this ⊢; omega), cc1⟩ fun G => b7 (F7 G (s4 3 [4] (ih (e.kids.getD k cb2) (ab5 (by assumption)))) [0, 1, 0, 4, 12, 31, 63, 127] [0, 1, 2, 46] [dE e.kids, aO3, .box [iA e.kind, iA e.value, .tref 3], .tree (D.exprs (cc0 k e.kids ++ [m8 (e.kids.getD k cb2)]))] [(2, .ptr 1 0), (3, .ptr 2 0), (12, .ref 0), (13, iA (e.kids.length : Int)), (14, iA k)] [(cc0 k e.kids).length + [m8 (e.kids.getD k cb2)].length ≤ (9223372036854775807 : Nat), ((cc0 k e.kids).length + [m8 (e.kids.getD k cb2)].length) * (40 : Nat) ≤ (140737488355328 : Nat)] ⟨(by have := ab4 (x := (cb2 : b5)) hp hl; simp only [cb4, cb6] at this ⊢; omega), (bM1 (ab4 hp hl) (by kernel_rfl)), cc1⟩ fun G => m6 (b7 (D7 G d9 [(14, iA ((k : Int) + 1))] [wO ((k : Int) + 1)] (o1 (by omega)) fun G => b7 ?_)))))))); exact M7 G (k + 1) (by have := ab4 (x := (cb2 : b5)) hp hl; simp only [cb4, cb6] at this ⊢; omega) (by have := ab4 (x := (cb2 : b5)) hp hl; simp only [cb4, cb6] at this ⊢; omega) (rg 4) (by have e1 : (cc0 (k + 1) e.kids : List b5) = (cc0 k e.kids ++ [m8 (e.kids.getD k cb2)]) := ((bQ5 (by omega)).symm); (first | rw [e1] | simp only [e1]) <;> rfl)
theorem bF7 (e : b5) : v5 e ≤ 1048576 → i9.ok Tryz.prog (owC e) :=
 b5.ind (P := fun e => v5 e ≤ 1048576 → i9.ok Tryz.prog (owC e)) (fun k n ks ih hb => bU1 ⟨k, n, ks⟩ hb fun x hx => ih x hx (by
  have h1 := bi9 (show x ∈ ks from hx)
  have h2 : v5 ⟨k, n, ks⟩ = n9 ks := rfl
  omega)) e
abbrev a35 (l : List b6) : i9 := ⟨59, [.ref 0], [dT l], [dT l, .tree (.stmts l)], .tref 1⟩
theorem bb9 (l : List b6) (hb : i5 l ≤ 1048576) (ih1 : ∀ (s : b6), s ∈ l → i9.ok Tryz.prog (a35 s.body)) (ih2 : ∀ (s : b6), s ∈ l → i9.ok Tryz.prog (a35 s.els)) : i9.ok Tryz.prog (a35 l) := by
 refine z7 36 Tryz.func59 [dT l] [(0, .ref 0)] fun G => ?_; have hl := aR8 hb; refine wp_seq (l0 G d9 [(2, .v (.slice none 0 0))] fun G => b7 (wp_seq (l0 G d9 [(3, .v (.slice none 0 0))] fun G => b7 (wp_seq (wp_seq (C9 G d9 [(2, .v (.slice none 0 0)), (3, .v (.slice none 0 0)), (6, .ref 0), (7, iA (l.length : Int)), (8, iA 0)] fun G => b7 (wp_block ?_))))))); obtain ⟨ρ, G⟩ := G.nilT 1 (.stmts []) [dT l] [(2, .v (.slice none 0 0)), (3, .tref 1), (6, .ref 0), (7, iA (l.length : Int)), (8, iA 0)]; refine o7 (κ := Nat) (fun k => k ≤ l.length) (fun k => l.length - k) (fun k => [dT l, .tree (.stmts (l.take k))]) (fun k => [(2, .v (.slice none 0 0)), (3, .tref 1), (6, .ref 0), (7, iA (l.length : Int)), (8, iA k)]) 0 (by omega) (s0.at G _ _) ?_; clear G; intro k ρ a w hp G; replace G := s0.at G [dT l, .tree (D.stmts (cc0 k l))] [(2, .v (.slice none 0 0)), (3, .tref 1), (6, .ref 0), (7, iA (l.length : Int)), (8, iA k)]; refine wp_seq (l0 G d9 [(9, bA (decide ((k : Int) < l.length)))] fun G => b7 (wp_seq (N4 G (fun h0 q0 => ?_) fun h0 q0 => ?_)))
 ·refine wp_exit (o0 (o0 (n5 (b7 (wp_seq (l0 G d9 [(2, .tref 1)] fun G => b7 (wp_ret ?_))))))); exact F6 G [0, 1] (by show _ = mR [0, 1] [dT l, .tree (D.stmts l)]; have e1 : (cc0 k l : List b6) = (l) := (aB6 hp (by assumption)); (first | rw [e1] | simp only [e1]) <;> rfl)
 ·refine wp_skip (b7 (wp_seq (wp_block (wp_seq (N5 G d9 [0, 1, 10, 11, 12, 13, 18] [dT l, .tree (D.stmts (cc0 k l)), dE (l.getD k cb2).index.kids, dE (l.getD k cb2).value.kids, dT (l.getD k cb2).body, dT (l.getD k cb2).els, .box (sL (l.getD k cb2) 2)] [(2, .v (.slice none 0 0)), (3, .tref 1), (5, .ptr 6 0), (6, .ref 0), (7, iA (l.length : Int)), (8, iA k)] [(0 : Int) ≤ (k : Int), (k : Int) < l.length, k < l.length] ⟨(by simp [h0]), (by assumption), (by have := ab4 (x := (cb2 : b6)) hp hl; simp only [cb4, cb6] at this ⊢; omega), cc1⟩ fun G => b7 (F7 G (t4 (l8 7 [2] (bF7 ((l.getD k cb2).index) ((aC7 hb (by assumption)).1)) (l8 10 [3] (bF7 ((l.getD k cb2).value) ((aC7 hb (by assumption)).2.1)) (l8 15 [4] (ih1 (l.getD k cb2) (X2 (by assumption))) (l8 18 [5] (ih2 (l.getD k cb2) (X2 (by assumption))) t3)))) fz []) [0, 0, 2, 0, 8, 0, 32, 96, 0, 256, 992, 0, 2048, 0, 8192, 26592, 0, 65536, 255968, 524286, 1048574, 2097151, 4194303] [0, 175] [dT l, .tree (D.stmts (cc0 k l ++ [qzS (l.getD k cb2)]))] [(2, .v (.slice none 0 0)), (3, .tref 1), (6, .ref 0), (7, iA (l.length : Int)), (8, iA k)] [(cc0 k l).length + [qzS (l.getD k cb2)].length ≤ (9223372036854775807 : Nat), ((cc0 k l).length + [qzS (l.getD k cb2)].length) * (152 : Nat) ≤ (140737488355328 : Nat)] ⟨(by have := ab4 (x := (cb2 : b6)) hp hl; simp only [cb4, cb6] at this ⊢; omega), (bM1 (ab4 hp hl) (by kernel_rfl)), cc1⟩ fun G => m6 (b7 (D7 G d9 [(8, iA ((k : Int) + 1))] [wO ((k : Int) + 1)] (o1 (by omega)) fun G => b7 ?_)))))))); exact M7 G (k + 1) (by have := ab4 (x := (cb2 : b6)) hp hl; simp only [cb4, cb6] at this ⊢; omega) (by have := ab4 (x := (cb2 : b6)) hp hl; simp only [cb4, cb6] at this ⊢; omega) [0, 1] (by have e1 : (cc0 (k + 1) l : List b6) = (cc0 k l ++ [qzS (l.getD k cb2)]) := ((bQ4 (by omega)).symm); (first | rw [e1] | simp only [e1]) <;> rfl)
theorem bY2 (l : List b6) : i5 l ≤ 1048576 → i9.ok Tryz.prog (a35 l) := fun hb => bb9 l hb
 (fun s hs => (own2 s).1 (cd3 (Nat.le_of_lt (I6 hs)) hb)) fun s hs => (own2 s).2 (cd3 (Nat.le_of_lt (I6 hs)) hb)
where
 own2 (s : b6) : (D9 s ≤ 1048576 → i9.ok Tryz.prog (a35 s.body)) ∧ (D9 s ≤ 1048576 → i9.ok Tryz.prog (a35 s.els)) :=
  b6.ind (P := fun s => (D9 s ≤ 1048576 → i9.ok Tryz.prog (a35 s.body)) ∧ (D9 s ≤ 1048576 → i9.ok Tryz.prog (a35 s.els))) (fun k t i v c b e h1 h2 => by
   have hz : D9 ⟨k, t, i, v, c, b, e⟩ = v5 i + v5 v + i5 b + i5 e := rfl
   constructor
   ·intro hb
    refine bb9 b (by omega) (fun s hs => (h1 s hs).1 ?_) fun s hs => (h1 s hs).2 ?_
    ·have := I6 hs; omega
    ·have := I6 hs; omega
   ·intro hb
    refine bb9 e (by omega) (fun s hs => (h2 s hs).1 ?_) fun s hs => (h2 s hs).2 ?_
    ·have := I6 hs; omega
    ·have := I6 hs; omega) s
theorem b62 (p : d7) (hb : p.size ≤ 1048576) : i9.ok Tryz.prog ⟨58, [pA 0], pS p, pS p ++ oP p, oA 3⟩ := by
 refine z7 13 Tryz.func58 [dI p.vars, dI p.arrays, dT p.body] [(0, pA 0)] fun G => ?_
 have hb1 : p.vars.length ≤ 1048576 ∧ p.arrays.length ≤ 1048576 ∧ i5 p.body ≤ 1048576 := by unfold d7.size at hb; omega
 refine wp_seq (k8 G d9 [0, 1, 2, 3, 11] [dI p.vars, dI p.arrays, dT p.body, .box (pL 0), .box [.v (.slice none 0 0), .v (.slice none 0 0), .v (.slice none 0 0)]] [(1, .ptr 3 0), (2, .ptr 4 0)] fun G => b7 (wp_seq (N3 G (t4 (l8 2 [0] (Z1 p.vars (by omega)) (l8 5 [1] (Z1 p.arrays (by omega)) (l8 8 [2] (bY2 p.body hb1.2.2) t3))) fz []) [0, 1, 3, 0, 8, 31, 0, 64, 255, 511, 1023] [0, 1, 2, 4, 21, 45, 69] [dI p.vars, dI p.arrays, dT p.body, .box [.ref 4, .ref 5, .tref 6], .row 3 (D.ints p.vars), .row 3 (D.ints p.arrays), .tree (D.stmts p.body)] [(2, .ptr 3 0)] fun G => b7 (wp_ret ?_)))); exact F6 G [0, 1, 2, 4, 5, 6]
section
variable {P : Program} {ι κ : Type} {φ ψ : Nat → Prop} {w0 w : World} {F : ι → Rs} {ρ ρ0 : Nat → Value} {N m n : Nat} {S : List It} {tm : List (Nat × AV)} {a : Act}
def aQ5 (n : Nat) : List Ln := ce0 n .no ++ [.tree]
theorem a39 (n i : Nat) : w7 (aQ5 n) i = if i = n then .tree else .no := by
 unfold w7 aQ5
 rw [cb8]
 rcases Nat.lt_trichotomy i n with h | h | h
 ·rw [cd6 (by simpa using h), if_neg (by omega)]
  simp [List.getElem?_replicate, h]
 ·subst h; simp
 ·rw [ce2 (by simp; omega), if_neg (by omega)]; rfl
theorem i9.datPost {f : FuncId} {args : List AV} {S0 S : List It} {d : D} {res : AV} (hc : i9.ok P ⟨f, args, S0, S ++ [.tree d], res⟩) (res1 : AV) (hr : res = res1.tr (aQ5 S.length) := by kernel_rfl) (hk : (decide (S0.length ≤ S.length) && (res1.trOk (aQ5 S.length) && S.all fun x => x.ids.isEmpty)) = true := by kernel_rfl) : i9.ok P ⟨f, args, S0, S ++ [.dat d], res1⟩ := by
 simp only [cb3, decide_eq_true_eq] at hk
 obtain ⟨hl0, hk⟩ := hk
 subst hr
 intro ι φ ψ w0 w F ρ M
 refine (hc ι φ ψ w0 w F ρ M).mono ?_
 rintro x w' ⟨ρ', h1, rfl, M2⟩
 let ρ1 : Nat → Value := fun i => if (w7 (aQ5 S.length) i).isT then E9 (ρ' i) else ρ' i
 have hρ1 : ∀ i, ρ1 i = if (w7 (aQ5 S.length) i).isT then E9 (ρ' i) else ρ' i := fun _ => rfl
 have hne : ∀ i, i ≠ S.length → ρ1 i = ρ' i := fun i hi => by rw [hρ1, a39, if_neg hi]; rfl
 have heq : ρ1 S.length = E9 (ρ' S.length) := by rw [hρ1, a39, if_pos rfl]; rfl
 refine ⟨ρ1, fun i hi => by rw [hne i (by simp only at hi; omega)]; exact h1 i hi, by rw [AV.val_tr hρ1 res1 hk.1], ?_⟩
 refine M2.release fun k => ?_
 cases k with
 | inl i => exact .inl rfl
 | inr j =>
  simp only [p7]
  rcases Nat.lt_trichotomy j S.length with hj | hj | hj
  ·have e1 : r9 (S ++ [.dat d]) j = r9 S j := by simp [r9, cb8, cd6 hj]
   have e2 : r9 (S ++ [.tree d]) j = r9 S j := by simp [r9, cb8, cd6 hj]
   rw [e1, e2]
   left
   have h2 : (r9 S j).ids = [] := by
    have h3 := cc2.1 hk.2 _ (cd7 hj)
    rw [ad5 hj]
    simpa using h3
   exact It.res_congr _ (fun i hi => by rw [h2] at hi; cases hi) (.inr (.inr (hne j (by omega))))
  ·subst hj
   have e1 : r9 (S ++ [.dat d]) S.length = .dat d := by simp [r9, cb8]
   have e2 : r9 (S ++ [.tree d]) S.length = .tree d := by simp [r9, cb8]
   rw [e1, e2]
   refine .inr ⟨fun b hb => hb, fun φ' hf hown => ⟨RD.nice _ _, ?_⟩⟩
   have hh := M2.holds (.inr S.length)
   simp only [p7] at hh
   rw [e2] at hh
   rw [heq]
   exact E3.read hh.2.1 fun b hb => hown b (by rw [show (It.tree d).res ρ' S.length = Rs.own (I2 (ρ' S.length)) _ from rfl]; exact hb)
  ·rw [w6 (by simp; omega), w6 (by simp; omega)]; exact .inl rfl
theorem It.res_ren' {σ : Nat → Nat} {i j : Nat} {ρ : Nat → Value} (x : It) (h : σ i = j) : (x.ren σ).res ρ j = x.res (fun i => ρ (σ i)) i := by
 subst h; exact It.res_ren x
def mv (i n j : Nat) : Nat := if natEq j i then n else j
theorem aJ2 {f : AV → AV} {t : Nat} {y : AV} : ∀ {tm : List (Nat × AV)}, y5 (tm.map fun p => (p.1, f p.2)) t = some y → ∃ x, y5 tm t = some x ∧ y = f x
 | [], h => by cases h
 | (k, z) :: r, h => by
  simp only [y5, ce6] at h ⊢
  split at h
  ·rename_i hk; cases h; exact ⟨z, by rw [if_pos hk], rfl⟩
  ·rename_i hk
   obtain ⟨x, h1, h2⟩ := aJ2 h
   exact ⟨x, by rw [if_neg hk]; exact h1, h2⟩
theorem bW8 {i n : Nat} {x : AV} : ∀ j ∈ (x.ren (mv i n)).ids, (∃ k ∈ x.ids, mv i n k = j) := by
 have key : (∀ x : AV, ∀ j ∈ (x.ren (mv i n)).ids, ∃ k ∈ x.ids, mv i n k = j) ∧ (∀ l : List AV, ∀ j ∈ AV.idsL (AV.renL (mv i n) l), ∃ k ∈ AV.idsL l, mv i n k = j) := by
  have hL : ∀ (l : List AV), (∀ x ∈ l, ∀ j ∈ (x.ren (mv i n)).ids, ∃ k ∈ x.ids, mv i n k = j) → ∀ j ∈ AV.idsL (AV.renL (mv i n) l), ∃ k ∈ AV.idsL l, mv i n k = j := by
   intro l
   induction l with
   | nil => intro _ j hj; cases hj
   | cons y r ih =>
    intro h j hj
    simp only [AV.renL, AV.idsL, cc9] at hj ⊢
    rcases hj with hj | hj
    ·obtain ⟨k, h1, h2⟩ := h y cd0 j hj
     exact ⟨k, .inl h1, h2⟩
    ·obtain ⟨k, h1, h2⟩ := ih (fun x hx => h x (cd4 _ hx)) j hj
     exact ⟨k, .inr h1, h2⟩
  have hx : ∀ x : AV, ∀ j ∈ (x.ren (mv i n)).ids, ∃ k ∈ x.ids, mv i n k = j := fun x => goX hL x
  exact ⟨hx, fun l => hL l fun x _ => hx x⟩
 exact key.1 x
where
 goX {i n : Nat} (hL : ∀ (l : List AV), (∀ x ∈ l, ∀ j ∈ (x.ren (mv i n)).ids, ∃ k ∈ x.ids, mv i n k = j) → ∀ j ∈ AV.idsL (AV.renL (mv i n) l), ∃ k ∈ AV.idsL l, mv i n k = j) : ∀ x : AV, ∀ j ∈ (x.ren (mv i n)).ids, ∃ k ∈ x.ids, mv i n k = j
  | .v _, j, hj => by cases hj
  | .ptr a b, j, hj => ⟨a, cd1.2 rfl, (cd1.1 hj).symm⟩
  | .ea a b c d, j, hj => ⟨a, cd1.2 rfl, (cd1.1 hj).symm⟩
  | .ref a, j, hj => ⟨a, cd1.2 rfl, (cd1.1 hj).symm⟩
  | .tref a, j, hj => ⟨a, cd1.2 rfl, (cd1.1 hj).symm⟩
  | .agg l, j, hj => hL l (fun x _ => goX hL x) j hj
  | .tup l, j, hj => hL l (fun x _ => goX hL x) j hj
  | .fn _ l, j, hj => hL l (fun x _ => goX hL x) j hj
  | .bm _ l, j, hj => hL l (fun x _ => goX hL x) j hj
theorem s0.shift (G : s0 φ ψ w0 F N m ρ0 ρ S tm a w) (i n : Nat) (S1 : List It) (tm1 : List (Nat × AV)) (hn : (natEq S.length n && decide (i < n)) = true := by kernel_rfl) (hS : S1 = (S.map (It.ren (mv i n))).set i .dead ++ [(r9 S i).ren (mv i n)] := by kernel_rfl) (ht : tm1 = tm.map (fun p => (p.1, p.2.ren (mv i n))) := by kernel_rfl) :
  ∃ ρ', s0 φ ψ w0 F N m ρ0 ρ' S1 tm1 a w := by
 subst hS
 subst ht
 simp only [cb3, natEq, beq_iff_eq, decide_eq_true_eq] at hn
 obtain ⟨hn, hin⟩ := hn
 have hlen : ((S.map (It.ren (mv i n))).set i .dead ++ [(r9 S i).ren (mv i n)]).length = n + 1 := by simp [hn]
 have hat : ∀ j, r9 ((S.map (It.ren (mv i n))).set i .dead ++ [(r9 S i).ren (mv i n)]) j = if j = n then (r9 S i).ren (mv i n) else if j = i then .dead else (r9 S j).ren (mv i n) := fun j => by
  by_cases e : j = n
  ·subst e
   rw [if_pos rfl]
   simp only [r9, cb8]
   rw [cf4 (by simp [hn])]
   simp [hn]
  ·rw [if_neg e]
   by_cases e2 : j = i
   ·subst e2
    rw [if_pos rfl]
    simp only [r9, cb8]
    rw [cd6 (by simp; omega)]
    simp [show j < S.length by omega]
   ·rw [if_neg e2]
    simp only [r9, cb8]
    rcases ce7 j n with h | h
    ·rw [cd6 (by simp; omega), List.getElem?_set_ne (fun h => e2 h.symm), List.getElem?_map, cb7 (by omega)]
     rfl
    ·rw [ce2 (by simp; omega), ce2 (by omega)]; rfl
 have hbd : ∀ x : AV, (∀ j ∈ x.ids, j < n) → ∀ j ∈ (x.ren (mv i n)).ids, j < n + 1 := fun x h j hj => by
  obtain ⟨k, h1, h2⟩ := bW8 j hj
  have := h k h1
  rw [← h2]; unfold mv
  split <;> omega
 let ρ1 : Nat → Value := fun j => if j = n then ρ i else ρ j
 have hmv : ∀ j, j < n → ρ1 (mv i n j) = ρ j := fun j hj => by
  show (if mv i n j = n then ρ i else ρ (mv i n j)) = ρ j
  by_cases e : j = i
  ·subst e; simp [mv, natEq]
  ·have h : mv i n j = j := by simp [mv, natEq, e]
   rw [h, if_neg (by omega)]
 have hval : ∀ x : AV, (∀ j ∈ x.ids, j < n) → (x.ren (mv i n)).val ρ1 = x.val ρ := fun x h => by
  rw [AV.val_ren]
  exact AV.val_congr x fun j hj => hmv j (h j hj)
 have hids : ∀ j, ∀ q ∈ (r9 S j).ids, q < n := fun j q hq => by have := (G.bd j).1 q hq; omega
 have hitem : ∀ j, ∀ q ∈ ((r9 S j).ren (mv i n)).ids, q < n + 1 := fun j q hq => by
  cases hx : r9 S j with
  | box cs =>
   rw [hx] at hq
   have h1 := hids j
   rw [hx] at h1
   exact hbd (.agg cs) h1 q hq
  | _ => rw [hx] at hq; cases hq
 refine ⟨ρ1, G.size, G.defs, fun t y hy => ?_, fun t y hy j hj => ?_, fun j => ⟨fun q hq => ?_, fun hj => w6 hj⟩, ?_, ?_, fun j hj => ?_⟩
 ·obtain ⟨x, h1, rfl⟩ := aJ2 hy
  rw [G.tmv t x h1, hval x fun j hj => by have := G.tmi t x h1 j hj; omega]
 ·obtain ⟨x, h1, rfl⟩ := aJ2 hy
  rw [hlen]
  exact hbd x (fun j hj => by have := G.tmi t x h1 j hj; omega) j hj
 ·rw [hlen]
  rw [hat] at hq
  split at hq
  ·exact hitem i q hq
  ·split at hq
   ·cases hq
   ·exact hitem j q hq
 ·refine G.mem.map (fun k : ι ⊕ Nat => (match k with | .inl q => some (.inl q) | .inr j => if j = n then some (.inr i) else if j = i then none else some (.inr j) : Option (ι ⊕ Nat))) ?_ ?_
  ·intro k k' x h1 h2
   match k, k' with
   | .inl q, .inl q' => simp at h1 h2; rw [← h1] at h2; simpa using h2.symm
   | .inl q, .inr j => simp at h1; subst h1; simp at h2; split at h2 <;> simp at h2
   | .inr j, .inl q => simp at h2; subst h2; simp at h1; split at h1 <;> simp at h1
   | .inr j, .inr j' =>
    simp only at h1 h2
    by_cases e1 : j = n <;> by_cases e2 : j' = n
    ·rw [e1, e2]
    ·rw [if_pos e1] at h1
     rw [if_neg e2] at h2
     by_cases e3 : j' = i
     ·rw [if_pos e3] at h2; cases h2
     ·rw [if_neg e3] at h2
      simp at h1 h2
      rw [← h1] at h2
      exact absurd (Sum.inr.inj h2) e3
    ·rw [if_pos e2] at h2
     rw [if_neg e1] at h1
     by_cases e3 : j = i
     ·rw [if_pos e3] at h1; cases h1
     ·rw [if_neg e3] at h1
      simp at h1 h2
      rw [← h2] at h1
      exact absurd (Sum.inr.inj h1) e3
    ·rw [if_neg e1] at h1
     rw [if_neg e2] at h2
     by_cases e3 : j = i
     ·rw [if_pos e3] at h1; cases h1
     ·by_cases e4 : j' = i
      ·rw [if_pos e4] at h2; cases h2
      ·rw [if_neg e3] at h1
       rw [if_neg e4] at h2
       simp at h1 h2
       rw [← h1] at h2
       rw [Sum.inr.inj h2]
  ·intro k
   match k with
   | .inl q => exact .inl ⟨_, rfl, rfl⟩
   | .inr j =>
    by_cases e : j = n
    ·refine .inl ⟨.inr i, by simp [e], ?_⟩
     simp only [p7]
     rw [hat, if_pos e]
     subst e
     have h1 : mv i j i = j := by simp [mv, natEq]
     rw [It.res_ren' (r9 S i) h1]
     exact It.res_congr _ (fun q hq => hmv q (hids i q hq)) (.inr (.inr (hmv i hin)))
    ·by_cases e2 : j = i
     ·refine .inr ?_
      simp only [p7]
      rw [hat, if_neg e, if_pos e2]
      rfl
     ·refine .inl ⟨.inr j, by simp [e, e2], ?_⟩
      simp only [p7]
      rw [hat, if_neg e, if_neg e2]
      rcases ce7 j n with hj | hj
      ·have h1 : mv i n j = j := by simp [mv, natEq, e2]
       rw [It.res_ren' (r9 S j) h1]
       exact It.res_congr _ (fun q hq => hmv q (hids j q hq)) (.inr (.inr (hmv j hj)))
      ·rw [w6 (by omega)]; rfl
 ·have := G.le; rw [hlen]; omega
 ·have := G.le
  show (if j = n then ρ i else ρ j) = ρ0 j
  rw [if_neg (by omega)]; exact G.old j hj
end
theorem i9.dupPost {P : Program} {f : FuncId} {args : List AV} {pre S : List It} {d : D} {res res' : AV} {i : Nat} (hc : i9.ok P ⟨f, args, pre, S, res⟩) (hi : S[i]? = some (.dat d)) (hl : pre.length ≤ S.length)
  (hS : S.all (fun x => W6 S.length x.ids) = true) (hr : ∀ ρ : Nat → Value, ρ S.length = ρ i → res'.val ρ = res.val ρ) (hg : W6 S.length res.ids = true) : i9.ok P ⟨f, args, pre, S ++ [.dat d], res'⟩ := by
 intro ι φ ψ w0 w F ρ M
 refine (hc ι φ ψ w0 w F ρ M).mono ?_
 rintro x w' ⟨ρ1, h1, rfl, M1⟩
 have hi' : r9 S i = .dat d := by simp [r9, hi]
 have hlt : i < S.length := (cc5.1 hi).1
 have hinv : Inv (r9 S) ρ1 [S.length] := fun ρ' h j => by
  by_cases hj : j < S.length
  ·refine It.res_congr _ (fun k hk => h k ?_) (.inr (.inr (h j (by simp; omega))))
   have h1 := D0 (cc2.1 hS (S[j]) (cd7 hj)) k (by simpa [r9, cb8, cb7 hj] using hk)
   simp; omega
  ·rw [show r9 S j = .none by simp only [r9, cb8, ce2 (Nat.le_of_not_lt hj)]; rfl]; rfl
 obtain ⟨ρ2, h3, M2, h4⟩ := M1.newDat (id := S.length) (by simp [r9]) hinv (M1.datAt hi')
 have e : o6 (r9 S) [(S.length, .dat d)] = r9 (S ++ [.dat d]) := by
  funext j
  simp only [o6, r9, cb8]
  by_cases hj : j = S.length
  ·subst hj; simp
  ·rw [if_neg hj]
   by_cases hj2 : j < S.length
   ·rw [cd6 hj2]
   ·rw [ce2 (by omega), ce2 (by simp; omega)]
 rw [e] at M2
 have hρ : ρ2 i = ρ1 i := h3 i (by simp; omega)
 refine ⟨ρ2, fun k hk => by
  have hk : k < pre.length := hk
  rw [h3 k (by simp; omega)]; exact h1 k hk, ?_, M2⟩
 rw [hr ρ2 (by rw [← h4, hρ])]
 exact congrArg _ (AV.val_congr res fun k hk => by
  have := D0 hg k hk
  exact h3 k (by simp; omega)).symm
abbrev nlA : AV := .v (.slice none 0 0)
abbrev qT (l : List b6) : It := .row 106 (.stmts l)
abbrev qI (l : List Int) : It := .row 3 (.ints l)
theorem bc0 (vs ars : List Int) (d : Nat) (ih : ∀ (e : b5), f5 vs.length ars.length d e = true → i9.ok Tryz.prog (E1 159 [.agg [.ref 0, .ref 1, nlA], eA e 2] ([dI vs, dI ars] ++ eS e) (iA (b9 vs ars d e))))
    (e : b5) (he : f5 vs.length ars.length (d + 1) e = true) : i9.ok Tryz.prog (E1 159 [.agg [.ref 0, .ref 1, nlA], eA e 2] ([dI vs, dI ars] ++ eS e) (iA (b9 vs ars (d + 1) e))) := by
  refine z7 42 Tryz.func159 [dI vs, dI ars, dE e.kids] [(0, .agg [.ref 0, .ref 1, .v (.slice none 0 0)]), (1, eA e 2)] fun G => ?_; refine wp_seq (k8 G d9 [0, 1, 2, 3, 11] [dI vs, dI ars, dE e.kids, .box [.ref 0, .ref 1, .v (.slice none 0 0)], .box (eL e 2)] [(2, .ptr 3 0), (3, .ptr 4 0), (4, iA 0)] fun G => b7 (wp_seq (l0 G d9 [(5, iA 0)] fun G => b7 (wp_seq (wp_seq (l0 G d9 [(8, iA e.kind)] fun G => b7 (wp_block (wp_seq (l0 G d9 [(9, bA (e.kind == 2))] fun G => b7 (P4 G (fun h0 q0 => ?_) fun h0 q0 => ?_))))))))))
  ·
   refine wp_seq (l0 G d9 [(17, bA (e.kind == 3))] fun G => b7 (P4 G (fun h1 q1 => ?_) fun h1 q1 => ?_))
   ·
    refine wp_skip (m6 (b7 (wp_seq (wp_seq (C9 G d9 [(2, .ptr 3 0), (3, .ptr 4 0), (4, iA 0), (5, iA 0), (6, iA 0)] fun G => b7 (wp_block ?_)))))); refine o7 (κ := Nat) (fun k => k ≤ e.kids.length) (fun k => e.kids.length - k) (fun k => [dI vs, dI ars, dE e.kids, .box [.ref 0, .ref 1, .v (.slice none 0 0)], .box (eL e 2)]) (fun k => [(2, .ptr 3 0), (3, .ptr 4 0), (4, iA 0), (5, iA (p8 vs ars d 0 e.kids k)), (6, iA k)]) 0 (by simp [he, h0, h1]) (s0.at G _ _) ?_; clear G; intro k ρ a w hp G; have hlen : e.kids.length ≤ 9223372036854775807 := G.len 2 (d := .exprs e.kids) (by kernel_rfl); refine wp_seq (wp_seq (C9 G d9 [(2, .ptr 3 0), (3, .ptr 4 0), (4, iA 0), (5, iA (p8 vs ars d 0 e.kids k)), (6, iA k), (29, bA (decide ((k : Int) < e.kids.length)))] fun G => b7 (N4 G (fun h2 q2 => ?_) fun h2 q2 => ?_)))
    · refine wp_exit (o0 (o0 (n5 (b7 (wp_seq (k8 G d9 [0, 1, 2] [dI vs, dI ars, dE e.kids] [(4, iA (p8 vs ars d 0 e.kids k))] fun G => b7 (wp_ret ?_))))))); exact K3 (p8 vs ars d 0 e.kids k) G [0, 1, 2] (H0 (by omega) (by simp [U8, h0, q0, h1, q1, h2, q2]; done))
    · refine wp_skip (b7 (wp_seq (wp_block (ai2 G (s4 7 [0, 1, 53] (ih (e.kids.getD k cb2) (H9 he (by omega)))) [0, 0, 0, 4, 0, 28, 60, 126, 255, 511] [(5, iA (i6 (p8 vs ars d 0 e.kids k) (b9 vs ars d (e.kids.getD k cb2))))] (iX k k e.kids.length []) (iK (by omega) cc1) fun G => m6 (b7 (D7 G d9 [(6, iA ((k : Int) + 1))] [wO ((k : Int) + 1)] (o1 (by omega)) fun G => b7 ?_)))))); exact M7 G (k + 1) (by omega) (by omega) (rg 5) (ht := by have e1 : (p8 vs ars d 0 e.kids (k + 1) : Int) = (i6 (p8 vs ars d 0 e.kids k) (b9 vs ars d (e.kids.getD k cb2))) := (D2 (by omega)); (first | rw [e1] | simp only [e1]) <;> rfl)
   ·
    refine D7 G d9 [(5, iA (ars.getD e.value.toNat 0))] [(0 : Int) ≤ e.value, e.value < (ars.length : Int), e.value.toNat < ars.length] ⟨((S6 he (by assumption)).1), ((S6 he (by assumption)).2.1), ((S6 he (by assumption)).2.2), cc1⟩ fun G => m6 (b7 (wp_seq (wp_seq (C9 G d9 [(2, .ptr 3 0), (3, .ptr 4 0), (4, iA 0), (5, iA (ars.getD e.value.toNat 0)), (6, iA 0)] fun G => b7 (wp_block ?_))))); refine o7 (κ := Nat) (fun k => k ≤ e.kids.length) (fun k => e.kids.length - k) (fun k => [dI vs, dI ars, dE e.kids, .box [.ref 0, .ref 1, .v (.slice none 0 0)], .box (eL e 2)]) (fun k => [(2, .ptr 3 0), (3, .ptr 4 0), (4, iA 0), (5, iA (p8 vs ars d (ars.getD e.value.toNat 0) e.kids k)), (6, iA k)]) 0 (by simp [he, h0, h1]) (s0.at G _ _) ?_; clear G; intro k ρ a w hp G; have hlen : e.kids.length ≤ 9223372036854775807 := G.len 2 (d := .exprs e.kids) (by kernel_rfl); refine wp_seq (wp_seq (C9 G d9 [(2, .ptr 3 0), (3, .ptr 4 0), (4, iA 0), (5, iA (p8 vs ars d (ars.getD e.value.toNat 0) e.kids k)), (6, iA k), (29, bA (decide ((k : Int) < e.kids.length)))] fun G => b7 (N4 G (fun h3 q3 => ?_) fun h3 q3 => ?_)))
    · refine wp_exit (o0 (o0 (n5 (b7 (wp_seq (k8 G d9 [0, 1, 2] [dI vs, dI ars, dE e.kids] [(4, iA (p8 vs ars d (ars.getD e.value.toNat 0) e.kids k))] fun G => b7 (wp_ret ?_))))))); exact K3 (p8 vs ars d (ars.getD e.value.toNat 0) e.kids k) G [0, 1, 2] (H0 (by omega) (by simp [U8, h0, q0, h1, q1, h3, q3]; done))
    · refine wp_skip (b7 (wp_seq (wp_block (ai2 G (s4 7 [0, 1, 53] (ih (e.kids.getD k cb2) (H9 he (by omega)))) [0, 0, 0, 4, 0, 28, 60, 126, 255, 511] [(5, iA (i6 (p8 vs ars d (ars.getD e.value.toNat 0) e.kids k) (b9 vs ars d (e.kids.getD k cb2))))] (iX k k e.kids.length []) (iK (by omega) cc1) fun G => m6 (b7 (D7 G d9 [(6, iA ((k : Int) + 1))] [wO ((k : Int) + 1)] (o1 (by omega)) fun G => b7 ?_)))))); exact M7 G (k + 1) (by omega) (by omega) (rg 5) (ht := by have e1 : (p8 vs ars d (ars.getD e.value.toNat 0) e.kids (k + 1) : Int) = (i6 (p8 vs ars d (ars.getD e.value.toNat 0) e.kids k) (b9 vs ars d (e.kids.getD k cb2))) := (D2 (by omega)); (first | rw [e1] | simp only [e1]) <;> rfl)
  ·
   refine D7 G d9 [(5, iA (vs.getD e.value.toNat 0))] [(0 : Int) ≤ e.value, e.value < (vs.length : Int), e.value.toNat < vs.length] ⟨((P3 he (by assumption)).1), ((P3 he (by assumption)).2.1), ((P3 he (by assumption)).2.2), cc1⟩ fun G => m6 (b7 (wp_seq (wp_seq (C9 G d9 [(2, .ptr 3 0), (3, .ptr 4 0), (4, iA 0), (5, iA (vs.getD e.value.toNat 0)), (6, iA 0)] fun G => b7 (wp_block ?_))))); refine o7 (κ := Nat) (fun k => k ≤ e.kids.length) (fun k => e.kids.length - k) (fun k => [dI vs, dI ars, dE e.kids, .box [.ref 0, .ref 1, .v (.slice none 0 0)], .box (eL e 2)]) (fun k => [(2, .ptr 3 0), (3, .ptr 4 0), (4, iA 0), (5, iA (p8 vs ars d (vs.getD e.value.toNat 0) e.kids k)), (6, iA k)]) 0 (by simp [he, h0]) (s0.at G _ _) ?_; clear G; intro k ρ a w hp G; have hlen : e.kids.length ≤ 9223372036854775807 := G.len 2 (d := .exprs e.kids) (by kernel_rfl); refine wp_seq (wp_seq (C9 G d9 [(2, .ptr 3 0), (3, .ptr 4 0), (4, iA 0), (5, iA (p8 vs ars d (vs.getD e.value.toNat 0) e.kids k)), (6, iA k), (29, bA (decide ((k : Int) < e.kids.length)))] fun G => b7 (N4 G (fun h4 q4 => ?_) fun h4 q4 => ?_)))
   · refine wp_exit (o0 (o0 (n5 (b7 (wp_seq (k8 G d9 [0, 1, 2] [dI vs, dI ars, dE e.kids] [(4, iA (p8 vs ars d (vs.getD e.value.toNat 0) e.kids k))] fun G => b7 (wp_ret ?_))))))); exact K3 (p8 vs ars d (vs.getD e.value.toNat 0) e.kids k) G [0, 1, 2] (H0 (by omega) (by simp [U8, h0, q0, h4, q4]; done))
   · refine wp_skip (b7 (wp_seq (wp_block (ai2 G (s4 7 [0, 1, 53] (ih (e.kids.getD k cb2) (H9 he (by omega)))) [0, 0, 0, 4, 0, 28, 60, 126, 255, 511] [(5, iA (i6 (p8 vs ars d (vs.getD e.value.toNat 0) e.kids k) (b9 vs ars d (e.kids.getD k cb2))))] (iX k k e.kids.length []) (iK (by omega) cc1) fun G => m6 (b7 (D7 G d9 [(6, iA ((k : Int) + 1))] [wO ((k : Int) + 1)] (o1 (by omega)) fun G => b7 ?_)))))); exact M7 G (k + 1) (by omega) (by omega) (rg 5) (ht := by have e1 : (p8 vs ars d (vs.getD e.value.toNat 0) e.kids (k + 1) : Int) = (i6 (p8 vs ars d (vs.getD e.value.toNat 0) e.kids k) (b9 vs ars d (e.kids.getD k cb2))) := (D2 (by omega)); (first | rw [e1] | simp only [e1]) <;> rfl)
abbrev Z4 : It := .box [.ref 0, .ref 1, .v (.slice none 0 0)]
abbrev ac3 (e : b5) (k : Nat) (r0 : List (Nat × AV)) : List (Nat × AV) := (27, .ref 2) :: (28, iA (e.kids.length : Int)) :: (29, iA (k : Int)) :: r0
theorem bx0 (vs ars : List Int) (d : Nat) (ih : ∀ (e : b5), f5 vs.length ars.length d e = true → i9.ok Tryz.prog (E1 141 [.agg [.ref 0, .ref 1, nlA], eA e 2] ([dI vs, dI ars] ++ eS e) (iA (b9 vs ars d e))))
    (e : b5) (he : f5 vs.length ars.length (d + 1) e = true) : i9.ok Tryz.prog (E1 141 [.agg [.ref 0, .ref 1, nlA], eA e 2] ([dI vs, dI ars] ++ eS e) (iA (b9 vs ars (d + 1) e))) := by
  refine z7 40 Tryz.func141 [dI vs, dI ars, dE e.kids] [(0, .agg [.ref 0, .ref 1, .v (.slice none 0 0)]), (1, eA e 2)] fun G => ?_; refine wp_seq (k8 G d9 [0, 1, 2, 3, 11] [dI vs, dI ars, dE e.kids, Z4, .box (eL e 2)] [(2, .ptr 3 0), (3, .ptr 4 0), (4, iA 0)] fun G => b7 (wp_seq (l0 G d9 [(5, iA 0)] fun G => b7 (wp_seq (wp_seq (l0 G d9 [(9, iA e.kind)] fun G => b7 (wp_block (wp_seq (l0 G d9 [(10, bA (e.kind == 2))] fun G => b7 (P4 G (fun h0 q0 => ?_) fun h0 q0 => ?_))))))))))
  ·
   refine wp_seq (l0 G d9 [(18, bA (e.kind == 3))] fun G => b7 (P4 G (fun h1 q1 => ?_) fun h1 q1 => ?_))
   ·
    refine wp_skip (m6 (b7 (wp_seq (wp_seq (k8 G d9 (rg 4) [dI vs, dI ars, dE e.kids, Z4] [(2, .ptr 3 0), (4, iA 0), (5, iA 0), (27, .ref 2), (28, iA (e.kids.length : Int)), (29, iA 0)] fun G => b7 (wp_block ?_)))))); refine o7 (κ := Nat) (fun k => k ≤ e.kids.length) (fun k => e.kids.length - k) (fun k => [dI vs, dI ars, dE e.kids, .box [.ref 0, .ref 1, .v (.slice none 0 0)]]) (fun k => [(2, .ptr 3 0), (4, iA 0), (5, iA (p8 vs ars d 0 e.kids k)), (27, .ref 2), (28, iA (e.kids.length : Int)), (29, iA k)]) 0 (by simp [he, h0, h1]) (s0.at G _ _) ?_; clear G; intro k ρ a w hp G; have hlen : e.kids.length ≤ 9223372036854775807 := G.len 2 (d := .exprs e.kids) (by kernel_rfl); refine wp_seq (C9 G d9 ((2, .ptr 3 0) :: (4, iA 0) :: (5, iA (p8 vs ars d 0 e.kids k)) :: (ac3 e k [(30, bA (decide ((k : Int) < e.kids.length)))])) fun G => b7 (wp_seq (N4 G (fun h2 q2 => ?_) fun h2 q2 => ?_)))
    · refine wp_exit (o0 (o0 (n5 (b7 (wp_seq (k8 G d9 [0, 1, 2] [dI vs, dI ars, dE e.kids] [(4, iA (p8 vs ars d 0 e.kids k))] fun G => b7 (wp_ret ?_))))))); exact K3 (p8 vs ars d 0 e.kids k) G [0, 1, 2] (H0 (by omega) (by simp [U8, h0, q0, h1, q1, h2, q2]; done))
    · refine wp_skip (b7 (wp_seq (wp_block (wp_seq (N5 G d9 [0, 1, 2, 3, 12, 20] [dI vs, dI ars, dE e.kids, Z4, dE (e.kids.getD k cb2).kids, .box (eL (e.kids.getD k cb2) 4)] ((2, .ptr 3 0) :: (4, iA 0) :: (5, iA (p8 vs ars d 0 e.kids k)) :: (7, .ptr 5 0) :: (ac3 e k [])) (iX k k e.kids.length []) (iK (by omega) cc1) fun G => b7 (k8 G (s4 3 [0, 1, 4] (ih (e.kids.getD k cb2) (H9 he (by omega)))) (rg 4) [dI vs, dI ars, dE e.kids, Z4] ((2, .ptr 3 0) :: (4, iA 0) :: (5, iA (i6 (p8 vs ars d 0 e.kids k) (b9 vs ars d (e.kids.getD k cb2)))) :: (ac3 e k [])) fun G => m6 (b7 (D7 G d9 [(29, iA ((k : Int) + 1))] [wO ((k : Int) + 1)] (o1 (by omega)) fun G => b7 ?_)))))))); exact M7 G (k + 1) (by omega) (by omega) (rg 4) (ht := by have e1 : (p8 vs ars d 0 e.kids (k + 1) : Int) = (i6 (p8 vs ars d 0 e.kids k) (b9 vs ars d (e.kids.getD k cb2))) := (D2 (by omega)); (first | rw [e1] | simp only [e1]) <;> rfl)
   ·
    refine D7 G d9 [(5, iA (ars.getD e.value.toNat 0))] [(0 : Int) ≤ e.value, e.value < (ars.length : Int), e.value.toNat < ars.length] ⟨((S6 he (by assumption)).1), ((S6 he (by assumption)).2.1), ((S6 he (by assumption)).2.2), cc1⟩ fun G => m6 (b7 (wp_seq (wp_seq (k8 G d9 (rg 4) [dI vs, dI ars, dE e.kids, Z4] [(2, .ptr 3 0), (4, iA 0), (5, iA (ars.getD e.value.toNat 0)), (27, .ref 2), (28, iA (e.kids.length : Int)), (29, iA 0)] fun G => b7 (wp_block ?_))))); refine o7 (κ := Nat) (fun k => k ≤ e.kids.length) (fun k => e.kids.length - k) (fun k => [dI vs, dI ars, dE e.kids, .box [.ref 0, .ref 1, .v (.slice none 0 0)]]) (fun k => [(2, .ptr 3 0), (4, iA 0), (5, iA (p8 vs ars d (ars.getD e.value.toNat 0) e.kids k)), (27, .ref 2), (28, iA (e.kids.length : Int)), (29, iA k)]) 0 (by simp [he, h0, h1]) (s0.at G _ _) ?_; clear G; intro k ρ a w hp G; have hlen : e.kids.length ≤ 9223372036854775807 := G.len 2 (d := .exprs e.kids) (by kernel_rfl); refine wp_seq (C9 G d9 ((2, .ptr 3 0) :: (4, iA 0) :: (5, iA (p8 vs ars d (ars.getD e.value.toNat 0) e.kids k)) :: (ac3 e k [(30, bA (decide ((k : Int) < e.kids.length)))])) fun G => b7 (wp_seq (N4 G (fun h3 q3 => ?_) fun h3 q3 => ?_)))
    · refine wp_exit (o0 (o0 (n5 (b7 (wp_seq (k8 G d9 [0, 1, 2] [dI vs, dI ars, dE e.kids] [(4, iA (p8 vs ars d (ars.getD e.value.toNat 0) e.kids k))] fun G => b7 (wp_ret ?_))))))); exact K3 (p8 vs ars d (ars.getD e.value.toNat 0) e.kids k) G [0, 1, 2] (H0 (by omega) (by simp [U8, h0, q0, h1, q1, h3, q3]; done))
    · refine wp_skip (b7 (wp_seq (wp_block (wp_seq (N5 G d9 [0, 1, 2, 3, 12, 20] [dI vs, dI ars, dE e.kids, Z4, dE (e.kids.getD k cb2).kids, .box (eL (e.kids.getD k cb2) 4)] ((2, .ptr 3 0) :: (4, iA 0) :: (5, iA (p8 vs ars d (ars.getD e.value.toNat 0) e.kids k)) :: (7, .ptr 5 0) :: (ac3 e k [])) (iX k k e.kids.length []) (iK (by omega) cc1) fun G => b7 (k8 G (s4 3 [0, 1, 4] (ih (e.kids.getD k cb2) (H9 he (by omega)))) (rg 4) [dI vs, dI ars, dE e.kids, Z4] ((2, .ptr 3 0) :: (4, iA 0) :: (5, iA (i6 (p8 vs ars d (ars.getD e.value.toNat 0) e.kids k) (b9 vs ars d (e.kids.getD k cb2)))) :: (ac3 e k [])) fun G => m6 (b7 (D7 G d9 [(29, iA ((k : Int) + 1))] [wO ((k : Int) + 1)] (o1 (by omega)) fun G => b7 ?_)))))))); exact M7 G (k + 1) (by omega) (by omega) (rg 4) (ht := by have e1 : (p8 vs ars d (ars.getD e.value.toNat 0) e.kids (k + 1) : Int) = (i6 (p8 vs ars d (ars.getD e.value.toNat 0) e.kids k) (b9 vs ars d (e.kids.getD k cb2))) := (D2 (by omega)); (first | rw [e1] | simp only [e1]) <;> rfl)
  ·
   refine D7 G d9 [(5, iA (vs.getD e.value.toNat 0))] [(0 : Int) ≤ e.value, e.value < (vs.length : Int), e.value.toNat < vs.length] ⟨((P3 he (by assumption)).1), ((P3 he (by assumption)).2.1), ((P3 he (by assumption)).2.2), cc1⟩ fun G => m6 (b7 (wp_seq (wp_seq (k8 G d9 (rg 4) [dI vs, dI ars, dE e.kids, Z4] [(2, .ptr 3 0), (4, iA 0), (5, iA (vs.getD e.value.toNat 0)), (27, .ref 2), (28, iA (e.kids.length : Int)), (29, iA 0)] fun G => b7 (wp_block ?_))))); refine o7 (κ := Nat) (fun k => k ≤ e.kids.length) (fun k => e.kids.length - k) (fun k => [dI vs, dI ars, dE e.kids, .box [.ref 0, .ref 1, .v (.slice none 0 0)]]) (fun k => [(2, .ptr 3 0), (4, iA 0), (5, iA (p8 vs ars d (vs.getD e.value.toNat 0) e.kids k)), (27, .ref 2), (28, iA (e.kids.length : Int)), (29, iA k)]) 0 (by simp [he, h0]) (s0.at G _ _) ?_; clear G; intro k ρ a w hp G; have hlen : e.kids.length ≤ 9223372036854775807 := G.len 2 (d := .exprs e.kids) (by kernel_rfl); refine wp_seq (C9 G d9 ((2, .ptr 3 0) :: (4, iA 0) :: (5, iA (p8 vs ars d (vs.getD e.value.toNat 0) e.kids k)) :: (ac3 e k [(30, bA (decide ((k : Int) < e.kids.length)))])) fun G => b7 (wp_seq (N4 G (fun h4 q4 => ?_) fun h4 q4 => ?_)))
   · refine wp_exit (o0 (o0 (n5 (b7 (wp_seq (k8 G d9 [0, 1, 2] [dI vs, dI ars, dE e.kids] [(4, iA (p8 vs ars d (vs.getD e.value.toNat 0) e.kids k))] fun G => b7 (wp_ret ?_))))))); exact K3 (p8 vs ars d (vs.getD e.value.toNat 0) e.kids k) G [0, 1, 2] (H0 (by omega) (by simp [U8, h0, q0, h4, q4]; done))
   · refine wp_skip (b7 (wp_seq (wp_block (wp_seq (N5 G d9 [0, 1, 2, 3, 12, 20] [dI vs, dI ars, dE e.kids, Z4, dE (e.kids.getD k cb2).kids, .box (eL (e.kids.getD k cb2) 4)] ((2, .ptr 3 0) :: (4, iA 0) :: (5, iA (p8 vs ars d (vs.getD e.value.toNat 0) e.kids k)) :: (7, .ptr 5 0) :: (ac3 e k [])) (iX k k e.kids.length []) (iK (by omega) cc1) fun G => b7 (k8 G (s4 3 [0, 1, 4] (ih (e.kids.getD k cb2) (H9 he (by omega)))) (rg 4) [dI vs, dI ars, dE e.kids, Z4] ((2, .ptr 3 0) :: (4, iA 0) :: (5, iA (i6 (p8 vs ars d (vs.getD e.value.toNat 0) e.kids k) (b9 vs ars d (e.kids.getD k cb2)))) :: (ac3 e k [])) fun G => m6 (b7 (D7 G d9 [(29, iA ((k : Int) + 1))] [wO ((k : Int) + 1)] (o1 (by omega)) fun G => b7 ?_)))))))); exact M7 G (k + 1) (by omega) (by omega) (rg 4) (ht := by have e1 : (p8 vs ars d (vs.getD e.value.toNat 0) e.kids (k + 1) : Int) = (i6 (p8 vs ars d (vs.getD e.value.toNat 0) e.kids k) (b9 vs ars d (e.kids.getD k cb2))) := (D2 (by omega)); (first | rw [e1] | simp only [e1]) <;> rfl)
theorem aR1 (vs ars : List Int) : ∀ (d : Nat) (e : b5), f5 vs.length ars.length d e = true → i9.ok Tryz.prog (E1 159 [.agg [.ref 0, .ref 1, nlA], eA e 2] ([dI vs, dI ars] ++ eS e) (iA (b9 vs ars d e)))
 | 0, _, h => by simp [f5] at h
 | d + 1, e, h => bc0 vs ars d (aR1 vs ars d) e h
theorem bl6 (vs ars : List Int) : ∀ (d : Nat) (e : b5), f5 vs.length ars.length d e = true → i9.ok Tryz.prog (E1 141 [.agg [.ref 0, .ref 1, nlA], eA e 2] ([dI vs, dI ars] ++ eS e) (iA (b9 vs ars d e)))
 | 0, _, h => by simp [f5] at h
 | d + 1, e, h => bx0 vs ars d (bl6 vs ars d) e h
theorem X5 (vs ars : List Int) (ky vy : Int) (ks : List b5) (h : f5 vs.length ars.length 5 ⟨ky, vy, ks⟩ = true) : i9.ok Tryz.prog (E1 159 [.agg [.ref 0, .ref 1, nlA], .agg [iA ky, iA vy, .ref 2]] [dI vs, dI ars, dE ks] (iA (b9 vs ars 5 ⟨ky, vy, ks⟩))) := aR1 vs ars 5 ⟨ky, vy, ks⟩ h
theorem aj4 (vs ars : List Int) (ky vy : Int) (ks : List b5) (h : f5 vs.length ars.length 5 ⟨ky, vy, ks⟩ = true) : i9.ok Tryz.prog (E1 141 [.agg [.ref 0, .ref 1, nlA], .agg [iA ky, iA vy, .ref 2]] [dI vs, dI ars, dE ks] (iA (b9 vs ars 5 ⟨ky, vy, ks⟩))) := bl6 vs ars 5 ⟨ky, vy, ks⟩ h
theorem H6 (n : Int) : i9.ok Tryz.prog ⟨203, [iA n], [], [dE []], .agg [iA 1, iA n, .ref 0]⟩ := by
 refine z7 5 Tryz.func203 [] [(0, iA n)] fun G => ?_; refine wp_seq (k8 G d9 [0] [.box [iA 0, iA 0, .v (.slice none 0 0)]] [(0, iA n), (2, .ptr 0 0)] fun G => b7 (wp_seq (k8 G d9 [0] [.box [iA 1, iA n, .v (.slice none 0 0)]] [(2, .ptr 0 0)] fun G => b7 (wp_ret ?_)))); obtain ⟨ρ, G⟩ := G.nil 1 0 (.exprs []) 9 [.box [iA 1, iA n, .ref 1]] [(2, .ptr 0 0)]; obtain ⟨ρ, G⟩ := G.frz [.no, .row 0] [.box [iA 1, iA n, .ref 1], dE []] [(2, .ptr 0 0)]; exact F6 G [1]
theorem al8 (n : Int) : i9.ok Tryz.prog ⟨157, [iA n], [], [dE []], .agg [iA 2, iA n, .ref 0]⟩ := by
 refine z7 5 Tryz.func157 [] [(0, iA n)] fun G => ?_; refine wp_seq (k8 G d9 [0] [.box [iA 0, iA 0, .v (.slice none 0 0)]] [(0, iA n), (2, .ptr 0 0)] fun G => b7 (wp_seq (k8 G d9 [0] [.box [iA 2, iA n, .v (.slice none 0 0)]] [(2, .ptr 0 0)] fun G => b7 (wp_ret ?_)))); obtain ⟨ρ, G⟩ := G.nil 1 0 (.exprs []) 9 [.box [iA 2, iA n, .ref 1]] [(2, .ptr 0 0)]; obtain ⟨ρ, G⟩ := G.frz [.no, .row 0] [.box [iA 2, iA n, .ref 1], dE []] [(2, .ptr 0 0)]; exact F6 G [1]
theorem ab7 (k : Int) (ks : List b5) : i9.ok Tryz.prog ⟨204, [iA k, .ref 0], [.row 104 (.exprs ks)], [dE ks], .agg [iA k, iA 0, .ref 0]⟩ := by
 refine z7 8 Tryz.func204 [.row 104 (D.exprs ks)] [(0, iA k), (1, .ref 0)] fun G => ?_; refine wp_seq (k8 G d9 [0, 1] [.row 104 (D.exprs ks), .box [iA 0, iA 0, .v (.slice none 0 0)]] [(0, iA k), (1, .ref 0), (4, .ptr 1 0)] fun G => b7 (wp_seq (k8 G d9 [0, 1] [.row 104 (D.exprs ks), .box [iA k, iA 0, .ref 0]] [(4, .ptr 1 0)] fun G => b7 (wp_ret ?_)))); obtain ⟨ρ, G⟩ := G.frz [.row 104] [dE ks, .box [iA k, iA 0, .ref 0]] [(4, .ptr 1 0)]; exact F6 G [0]
theorem av5 (n ky vy : Int) (ks : List b5) : i9.ok Tryz.prog ⟨161, [iA n, .agg [iA ky, iA vy, .ref 0]], [dE ks], [dE ks, dE [⟨ky, vy, ks⟩]], .agg [iA 3, iA n, .ref 1]⟩ := by
 refine z7 9 Tryz.func161 [dE ks] [(0, iA n), (1, .agg [iA ky, iA vy, .ref 0])] fun G => ?_; refine wp_seq (k8 G d9 [0, 1, 9] [dE ks, .box [iA ky, iA vy, .ref 0], .box [iA 0, iA 0, .v (.slice none 0 0)]] [(0, iA n), (3, .ptr 1 0), (4, .ptr 2 0)] fun G => b7 (wp_seq (k8 G d9 [0, 2, 19] [dE ks, .box [iA 3, iA n, .ref 2], .row 104 (D.exprs ([b5.mk ky vy ks] ++ []))] [(4, .ptr 1 0)] fun G => b7 (wp_ret ?_)))); obtain ⟨ρ, G⟩ := G.frz [.no, .no, .row 104] [dE ks, .box [iA 3, iA n, .ref 2], dE ([b5.mk ky vy ks] ++ [])] [(4, .ptr 1 0)]; exact F6 G [0, 2]
theorem bn7 (ky vy : Int) (ks : List b5) (k : Int) : i9.ok Tryz.prog ⟨205, [.agg [iA ky, iA vy, .ref 0], iA k], [dE ks], [dE ks, dE (N9 ⟨ky, vy, ks⟩ k).kids], .agg [iA 9, iA 0, .ref 1]⟩ := by
 refine z7 13 Tryz.func205 [dE ks] [(0, .agg [iA ky, iA vy, .ref 0]), (1, iA k)] fun G => ?_; refine wp_seq (k8 G d9 [0, 1, 9] [dE ks, .box [iA ky, iA vy, .ref 0], .box [iA 0, iA 0, .v (.slice none 0 0)]] [(1, iA k), (2, .ptr 1 0), (4, .ptr 2 0)] fun G => b7 (wp_seq (N3 G (t4 (l8 1 [] (H6 3) (l8 3 [19] (ab7 7 ([b5.mk ky vy ks] ++ ([b5.mk 1 3 []] ++ []))) (l8 5 [] (H6 k) (l8 7 [51] (ab7 9 ([b5.mk 7 0 ([b5.mk ky vy ks] ++ ([b5.mk 1 3 []] ++ []))] ++ ([b5.mk 1 k []] ++ []))) t3)))) fz []) [0, 0, 3, 7, 0, 31, 63, 127, 255] [0, 2, 51] [dE ks, .box [iA 9, iA 0, .ref 2], dE ([b5.mk 7 0 ([b5.mk ky vy ks] ++ ([b5.mk 1 3 []] ++ []))] ++ ([b5.mk 1 k []] ++ []))] [(4, .ptr 1 0)] fun G => b7 (wp_ret ?_)))); exact F6 G [0, 2]
theorem bR4 {m : Int} {e f : b5} (h : m < 0) : s5 m e f = e := if_pos h
theorem bR3 {m : Int} {e f : b5} (h : ¬ m < 0) : s5 m e f = seE (vrE m) e f := if_neg h
theorem bp2 (m k1 v1 k2 v2 : Int) (s1 s2 : List b5) (hm : m < 0) : i9.ok Tryz.prog ⟨156, [iA m, .agg [iA k1, iA v1, .ref 0], .agg [iA k2, iA v2, .ref 1]], [dE s1, dE s2], [dE s1, dE s2], .agg [iA k1, iA v1, .ref 0]⟩ := by
 refine z7 16 Tryz.func156 [dE s1, dE s2] [(0, iA m), (1, .agg [iA k1, iA v1, .ref 0]), (2, .agg [iA k2, iA v2, .ref 1])] fun G => ?_; refine wp_seq (k8 G d9 [0, 1, 2, 10, 18] [dE s1, dE s2, .box [iA k1, iA v1, .ref 0], .box [iA k2, iA v2, .ref 1], .box [iA 0, iA 0, .v (.slice none 0 0)]] [(0, iA m), (4, .ptr 2 0), (5, .ptr 3 0), (6, .ptr 4 0)] fun G => b7 (wp_seq (wp_seq (C9 G d9 [(0, iA m), (4, .ptr 2 0), (5, .ptr 3 0), (6, .ptr 4 0), (8, bA (decide (m < 0)))] fun G => b7 ?_)))); cases h0 : (decide (m < 0))
 ·have q0 := dFf h0; exact False.elim (by omega)
 ·have q0 := dTt h0; refine rT G _ h0 (wp_seq (k8 G d9 (rg 5) [dE s1, dE s2, .box [iA k1, iA v1, .ref 0], .box [iA k2, iA v2, .ref 1], .box [iA k1, iA v1, .ref 0]] [(0, iA m), (4, .ptr 2 0), (5, .ptr 3 0), (6, .ptr 4 0)] fun G => b7 (wp_ret (l7 ?_)))); exact F6 G [0, 1]
theorem bp1 (m k1 v1 k2 v2 : Int) (s1 s2 : List b5) (hm : ¬ m < 0) : i9.ok Tryz.prog ⟨156, [iA m, .agg [iA k1, iA v1, .ref 0], .agg [iA k2, iA v2, .ref 1]], [dE s1, dE s2], [dE s1, dE s2, dE (seE (vrE m) ⟨k1, v1, s1⟩ ⟨k2, v2, s2⟩).kids], .agg [iA 11, iA 0, .ref 2]⟩ := by
 refine z7 16 Tryz.func156 [dE s1, dE s2] [(0, iA m), (1, .agg [iA k1, iA v1, .ref 0]), (2, .agg [iA k2, iA v2, .ref 1])] fun G => ?_; refine wp_seq (k8 G d9 [0, 1, 2, 10, 18] [dE s1, dE s2, .box [iA k1, iA v1, .ref 0], .box [iA k2, iA v2, .ref 1], .box [iA 0, iA 0, .v (.slice none 0 0)]] [(0, iA m), (4, .ptr 2 0), (5, .ptr 3 0), (6, .ptr 4 0)] fun G => b7 (wp_seq (wp_seq (C9 G d9 [(0, iA m), (4, .ptr 2 0), (5, .ptr 3 0), (6, .ptr 4 0), (8, bA (decide (m < 0)))] fun G => b7 ?_)))); cases h0 : (decide (m < 0))
 ·have q0 := dFf h0; refine rF G _ h0 (wp_skip (b7 (wp_seq (N3 G (t4 (l8 1 [] (al8 m) (l8 5 [37] (ab7 11 ([b5.mk 2 m []] ++ ([b5.mk k1 v1 s1] ++ ([b5.mk k2 v2 s2] ++ [])))) t3)) fz []) [0, 1, 0, 0, 15, 31, 63] [0, 1, 4, 37] [dE s1, dE s2, .box [iA 11, iA 0, .ref 3], dE ([b5.mk 2 m []] ++ ([b5.mk k1 v1 s1] ++ ([b5.mk k2 v2 s2] ++ [])))] [(6, .ptr 2 0)] fun G => b7 (wp_ret ?_))))); exact F6 G [0, 1, 3]
 ·have q0 := dTt h0; exact False.elim (by omega)
theorem aj5 (m k1 v1 k2 v2 : Int) (s1 s2 : List b5) : i9.ok Tryz.prog ⟨156, [iA m, .agg [iA k1, iA v1, .ref 0], .agg [iA k2, iA v2, .ref 1]], [dE s1, dE s2], [dE s1, dE s2, dE (s5 m ⟨k1, v1, s1⟩ ⟨k2, v2, s2⟩).kids], .agg [iA (s5 m ⟨k1, v1, s1⟩ ⟨k2, v2, s2⟩).kind, iA (s5 m ⟨k1, v1, s1⟩ ⟨k2, v2, s2⟩).value, .ref 2]⟩ := by
 by_cases hm : m < 0
 ·rw [bR4 hm]
  exact i9.dupPost (S := [dE s1, dE s2]) (d := .exprs s1) (i := 0) (bp2 m k1 v1 k2 v2 s1 s2 hm) rfl (cc6 _) rfl (fun ρ h => by
   have h : ρ 2 = ρ 0 := h
   simp only [AV.val, AV.vals, h]; rfl) rfl
 ·rw [bR3 hm]
  exact bp1 m k1 v1 k2 v2 s1 s2 hm
theorem al9 (vs ars : List Int) (bd : List b6) (l : Int) (hl : vs.length ≤ 8000000) : i9.ok Tryz.prog ⟨202, [.agg [.ref 0, .ref 1, nlA, .ref 2], iA l], [qI vs, dI ars, qT bd], [qI vs, dI ars, qT bd, qI (vs ++ [l])], .tup [.agg [.ref 3, .ref 1, nlA, .ref 2], iA (vs.length : Int)]⟩ := by
 refine z7 22 Tryz.func202 [.row 3 (D.ints vs), dI ars, .row 106 (D.stmts bd)] [(0, .agg [.ref 0, .ref 1, .v (.slice none 0 0), .ref 2]), (1, iA l)] fun G => ?_; refine wp_seq (k8 G d9 [0, 1, 2, 3, 11] [.row 3 (D.ints vs), dI ars, .row 106 (D.stmts bd), .box [.ref 0, .ref 1, .v (.slice none 0 0), .ref 2], .box [.v (.slice none 0 0), .v (.slice none 0 0), .v (.slice none 0 0), .v (.slice none 0 0)]] [(1, iA l), (2, .ptr 3 0), (4, .ptr 4 0), (5, iA 0)] fun G => b7 (wp_seq (N5 G d9 [0, 1, 2, 3, 4, 61] [.row 3 (D.ints vs), dI ars, .row 106 (D.stmts bd), .box [.ref 5, .ref 1, .v (.slice none 0 0), .ref 2], .box [.v (.slice none 0 0), .v (.slice none 0 0), .v (.slice none 0 0), .v (.slice none 0 0)], .row 3 (D.ints ([] ++ vs ++ ([l] ++ [])))] [(2, .ptr 3 0), (4, .ptr 4 0), (5, iA 0)] (aP ((0 : Nat) + vs.length) 8 (aP (([] ++ vs).length + 1) 8 [])) (aK (by omega) (aK (by simp only [cb5, cb4, cb6]; omega) cc1)) fun G => b7 (wp_seq (F7 G d9 [0, 0, 2, 6, 14, 30, 1, 127] [0, 1, 2, 4, 5] [.row 3 (D.ints vs), dI ars, .row 106 (D.stmts bd), .box [.ref 4, .ref 1, .v (.slice none 0 0), .ref 2], .row 3 (D.ints ([] ++ vs ++ ([l] ++ [])))] [(4, .ptr 3 0), (5, iA ((([] ++ vs ++ ([l] ++ [])).length : Int) - 1))] [wO ((([] ++ vs ++ ([l] ++ [])).length : Int) - 1)] ⟨(w64 (by simp only [cb5, cb4, cb6]; omega) (by simp only [cb5, cb4, cb6]; omega)), cc1⟩ fun G => b7 (wp_ret ?_)))))); exact W2 (.tup [.agg [.ref 4, .ref 1, .v (.slice none 0 0), .ref 2], iA ((([] ++ vs ++ ([l] ++ [])).length : Int) - 1)]) G [0, 1, 2, 4] (by have e1 : ((vs.length : Int) : Int) = ((([] ++ vs ++ ([l] ++ [])).length : Int) - 1) := (by simp only [cb5, cb4, cb6]; omega); (first | rw [e1] | simp only [e1]) <;> rfl)
theorem Q3 (vs ars : List Int) (bd : List b6) (v ky vy : Int) (ks : List b5) (hl : bd.length ≤ 800000) : i9.ok Tryz.prog ⟨155, [.agg [.ref 0, .ref 1, nlA, .ref 2], iA v, .agg [iA ky, iA vy, .ref 3]], [qI vs, dI ars, qT bd, dE ks], [qI vs, dI ars, .dead, dE ks, qT (bd ++ [K1 v ⟨ky, vy, ks⟩])], .agg [.ref 0, .ref 1, nlA, .ref 4]⟩ := by
 refine z7 16 Tryz.func155 [.row 3 (D.ints vs), dI ars, .row 106 (D.stmts bd), dE ks] [(0, .agg [.ref 0, .ref 1, .v (.slice none 0 0), .ref 2]), (1, iA v), (2, .agg [iA ky, iA vy, .ref 3])] fun G => ?_; refine wp_seq (k8 G d9 [0, 1, 2, 3, 4, 12, 20] [.row 3 (D.ints vs), dI ars, .row 106 (D.stmts bd), dE ks, .box [.ref 0, .ref 1, .v (.slice none 0 0), .ref 2], .box [iA ky, iA vy, .ref 3], .box [.v (.slice none 0 0), .v (.slice none 0 0), .v (.slice none 0 0), .v (.slice none 0 0)]] [(1, iA v), (3, .ptr 4 0), (5, .ptr 5 0), (6, .ptr 6 0)] fun G => b7 (wp_seq (N5 G d9 [0, 1, 2, 3, 4, 6, 55] [.row 3 (D.ints vs), dI ars, .dead, dE ks, .box [.ref 0, .ref 1, .v (.slice none 0 0), .ref 6], .box [.v (.slice none 0 0), .v (.slice none 0 0), .v (.slice none 0 0), .v (.slice none 0 0)], .row 106 (D.stmts (bd ++ ([b6.mk 1 v (b5.mk 0 0 []) (b5.mk ky vy ks) 0 [] []] ++ [])))] [(3, .ptr 4 0), (6, .ptr 5 0)] (aP (bd.length + 1) 152 []) (aK (by omega) cc1) fun G => b7 (wp_seq (k8 G d9 [0, 1, 2, 3, 5, 6] [.row 3 (D.ints vs), dI ars, .dead, dE ks, .box [.ref 0, .ref 1, .v (.slice none 0 0), .ref 5], .row 106 (D.stmts (bd ++ ([b6.mk 1 v (b5.mk 0 0 []) (b5.mk ky vy ks) 0 [] []] ++ [])))] [(6, .ptr 4 0)] fun G => b7 (wp_ret ?_)))))); exact F6 G [0, 1, 2, 3, 5]
end Go.Proofs.YthikdkjjdeehoaaGreat

namespace Go.Proofs.YthikdkjjdeehoaaGreat
set_option linter.unusedVariables false
set_option linter.unusedSimpArgs false
open Go Go.RowKit
theorem bi7 (ks : List b5) (k : Nat) : n9 (ks.take k) ≤ n9 ks ∧ (k < ks.length → n9 (ks.take k) + 1 + v5 (ks.getD k cb2) ≤ n9 ks) ∧ (ks.take k).length ≤ n9 (ks.take k) := by
 refine ⟨?_, fun h => ?_, as7 _⟩
 ·have := L9 (ks.take k) (ks.drop k)
  rw [List.take_append_drop] at this
  omega
 ·have h1 := L9 (ks.take (k + 1)) (ks.drop (k + 1))
  rw [List.take_append_drop, o9 _ _ h, L9, ← m9 (d := cb2) h] at h1
  simp only [n9] at h1
  omega
section
variable {e : b5} {l : List aa4} {fr : List Int} {n reg : Int} {k : Nat}
end
abbrev leC (ars : List Int) (pc : Int) (vs : List Int) (bd : List b6) (e : b5) : i9 := ⟨154, [.agg [.ref 0, .ref 1, nlA, .ref 2], eA e 3, iA pc], [qI vs, dI ars, qT bd, dE e.kids], [.dead, dI ars, .dead, dE e.kids, qI (b8 ars pc e (vs, bd)).1.1, qT (b8 ars pc e (vs, bd)).1.2, dE (b8 ars pc e (vs, bd)).2.kids], .tup [.agg [.ref 4, .ref 1, nlA, .ref 5], .agg [iA (b8 ars pc e (vs, bd)).2.kind, iA (b8 ars pc e (vs, bd)).2.value, .ref 6]]⟩
abbrev xE (ars : List Int) (pc : Int) (vs : List Int) (bd : List b6) (e : b5) (k : Nat) : Q9 × List b5 := n6 ars pc (e.kids.take k) (vs, bd)
section
variable {ars vs : List Int} {pc : Int} {bd : List b6} {e : b5} {d k : Nat}
theorem aw8 (he : f5 vs.length ars.length (d + 1) e = true) (k : Nat) : Grw vs.length ars.length d (n9 (e.kids.take k)) (vs, bd) (xE ars pc vs bd e k).1 := by
 rw [f5] at he
 simp only [cb3, cc2] at he
 exact (bl2 (ars := ars) (pc := pc) (na := ars.length) (d := d) (fun e s h => Y8 ars pc ars.length d e s h) (e.kids.take k) (vs, bd) fun x hx => he.1.2 x (List.mem_of_mem_take hx)).1
theorem bu9 (he : f5 vs.length ars.length (d + 1) e = true) (r1 : vs.length + (1 + v5 e) ≤ 100000) (r2 : i5 bd + 40 * (1 + v5 e) ≤ 700000) (k : Nat) : (xE ars pc vs bd e k).1.1.length + 1 ≤ 100000 ∧ (xE ars pc vs bd e k).1.2.length + 40 ≤ 700000 ∧ vs.length ≤ (xE ars pc vs bd e k).1.1.length := by
 have h := aw8 (ars := ars) (pc := pc) (bd := bd) he k
 have h1 := U3 e.kids k
 have h2 := A2 e
 have h3 := C2 (xE ars pc vs bd e k).1.2
 have a := h.lo; have b := h.hi; have c := h.st
 simp only at a b c
 omega
theorem bu6 (he : f5 vs.length ars.length (d + 1) e = true) (hk : k < e.kids.length) : f5 (xE ars pc vs bd e k).1.1.length ars.length d (e.kids.getD k cb2) = true :=
 w8 (aw8 (pc := pc) (bd := bd) he k).lo d _ (H9 he hk)
theorem bQ0 (he : f5 vs.length ars.length (d + 1) e = true) (r1 : vs.length + (1 + v5 e) ≤ 100000) (hk : k < e.kids.length) : (xE ars pc vs bd e k).1.1.length + (1 + v5 (e.kids.getD k cb2)) ≤ 100000 := by
 have h := (aw8 (pc := pc) (bd := bd) he k).hi
 have h1 := (bi7 e.kids k).2.1 hk
 have h2 := A2 e
 simp only at h
 omega
theorem bP9 (he : f5 vs.length ars.length (d + 1) e = true) (r2 : i5 bd + 40 * (1 + v5 e) ≤ 700000) (hk : k < e.kids.length) : i5 (xE ars pc vs bd e k).1.2 + 40 * (1 + v5 (e.kids.getD k cb2)) ≤ 700000 := by
 have h := (aw8 (pc := pc) (bd := bd) he k).st
 have h1 := (bi7 e.kids k).2.1 hk
 have h2 := A2 e
 simp only at h
 omega
theorem bP6 (hk : k < e.kids.length) : (xE ars pc vs bd e (k + 1)).1.1 = (b8 ars pc (e.kids.getD k cb2) ((xE ars pc vs bd e k).1.1, (xE ars pc vs bd e k).1.2)).1.1 := by unfold xE; rw [ap9 hk]
theorem bP5 (hk : k < e.kids.length) : (xE ars pc vs bd e (k + 1)).1.2 = (b8 ars pc (e.kids.getD k cb2) ((xE ars pc vs bd e k).1.1, (xE ars pc vs bd e k).1.2)).1.2 := by unfold xE; rw [ap9 hk]
theorem bP4 (hk : k < e.kids.length) : (xE ars pc vs bd e (k + 1)).2 = (xE ars pc vs bd e k).2 ++ [⟨(b8 ars pc (e.kids.getD k cb2) ((xE ars pc vs bd e k).1.1, (xE ars pc vs bd e k).1.2)).2.kind, (b8 ars pc (e.kids.getD k cb2) ((xE ars pc vs bd e k).1.1, (xE ars pc vs bd e k).1.2)).2.value, (b8 ars pc (e.kids.getD k cb2) ((xE ars pc vs bd e k).1.1, (xE ars pc vs bd e k).1.2)).2.kids⟩] := by unfold xE; rw [ap9 hk, b5.eta]
theorem bu5 (k : Nat) : (xE ars pc vs bd e k).2.length ≤ e.kids.length := by
 have h : ∀ (ks : List b5) (s : Q9), (n6 ars pc ks s).2.length = ks.length := by
  intro ks
  induction ks with
  | nil => intro s; rfl
  | cons x r ih => intro s; rw [n6, cb4, ih, cb4]
 unfold xE; rw [h, List.length_take]; exact Nat.min_le_right _ _
theorem bu8 (hk : e.kids.length ≤ k) (hn : ¬ (e.kind = 3 ∧ A0 (b9 (xE ars pc vs bd e k).1.1 ars 5 (e.kids.getD 0 cb2)) = true)) : b8 ars pc e (vs, bd) = ((xE ars pc vs bd e k).1, ⟨e.kind, e.value, (xE ars pc vs bd e k).2⟩) := by
 unfold xE at hn ⊢
 rw [cc8 hk] at hn ⊢
 rw [ai9, if_neg hn]
theorem bT2 (hk : e.kids.length ≤ k) (h3 : e.kind = 3) (hs : A0 (b9 (xE ars pc vs bd e k).1.1 ars 5 (e.kids.getD 0 cb2)) = true) : b8 ars pc e (vs, bd) = (((xE ars pc vs bd e k).1.1 ++ [i6 (b9 (xE ars pc vs bd e k).1.1 ars 5 e) pc], (xE ars pc vs bd e k).1.2 ++ Z8 ((xE ars pc vs bd e k).1.1.length : Int) e.value (e.kids.getD 0 cb2) 3), vrE ((xE ars pc vs bd e k).1.1.length : Int)) := by
 unfold xE at hs ⊢
 rw [cc8 hk] at hs ⊢
 rw [ai9, if_pos ⟨h3, hs⟩]
abbrev kE (e : b5) : b5 := ⟨(e.kids.getD 0 cb2).kind, (e.kids.getD 0 cb2).value, (e.kids.getD 0 cb2).kids⟩
theorem bC4 (e : b5) : kE e = e.kids.getD 0 cb2 := b5.eta _
theorem bP7 (he : f5 vs.length ars.length (d + 1) e = true) (hd : d + 1 ≤ 5) (h3 : e.kind = 3) : f5 (xE ars pc vs bd e k).1.1.length ars.length 5 (kE e) = true := by
 rw [bC4]
 have := V9 he h3
 exact aH5 (by omega) (w8 (aw8 (pc := pc) (bd := bd) he k).lo d _ (H9 he this))
theorem bP8 (he : f5 vs.length ars.length (d + 1) e = true) (hd : d + 1 ≤ 5) : f5 (xE ars pc vs bd e k).1.1.length ars.length 5 ⟨e.kind, e.value, e.kids⟩ = true := by
 rw [b5.eta]
 exact aH5 hd (w8 (aw8 (pc := pc) (bd := bd) he k).lo (d + 1) _ he)
theorem ak3 (hk : e.kids.length ≤ k) (hn : ¬ e.kind = 3) : b8 ars pc e (vs, bd) = ((xE ars pc vs bd e k).1, ⟨e.kind, e.value, (xE ars pc vs bd e k).2⟩) := bu8 hk fun h => hn h.1
theorem aB4 (hk : e.kids.length ≤ k) (hs : (!(d8 (b9 (xE ars pc vs bd e k).1.1 ars 5 (kE e)) && decide (b9 (xE ars pc vs bd e k).1.1 ars 5 (kE e) % 2 = 1))) = true) : b8 ars pc e (vs, bd) = ((xE ars pc vs bd e k).1, ⟨e.kind, e.value, (xE ars pc vs bd e k).2⟩) := by
 rw [bC4, cc3] at hs
 exact bu8 hk fun h => by
  have h5 := h.2
  unfold A0 at h5
  rw [hs] at h5; cases h5
theorem as3 (hk : e.kids.length ≤ k) (h3 : e.kind = 3) (hs : (!(d8 (b9 (xE ars pc vs bd e k).1.1 ars 5 (kE e)) && decide (b9 (xE ars pc vs bd e k).1.1 ars 5 (kE e) % 2 = 1))) = false) : b8 ars pc e (vs, bd) = (((xE ars pc vs bd e k).1.1 ++ [i6 (b9 (xE ars pc vs bd e k).1.1 ars 5 ⟨e.kind, e.value, e.kids⟩) pc], (xE ars pc vs bd e k).1.2 ++ Z8 ((xE ars pc vs bd e k).1.1.length : Int) e.value (kE e) 3), vrE ((xE ars pc vs bd e k).1.1.length : Int)) := by
 rw [bC4] at hs ⊢
 rw [b5.eta]
 rw [cc4] at hs
 exact bT2 hk h3 hs
theorem bH9 {j : Nat} (hj : j = 3) (hk : e.kids.length ≤ k) (h3 : e.kind = 3) (hs : (!(d8 (b9 (xE ars pc vs bd e k).1.1 ars 5 (kE e)) && decide (b9 (xE ars pc vs bd e k).1.1 ars 5 (kE e) % 2 = 1))) = false) : (b8 ars pc e (vs, bd)).1.2 = (xE ars pc vs bd e k).1.2 ++ Z8 ((xE ars pc vs bd e k).1.1.length : Int) e.value (kE e) j := by
 rw [hj, as3 hk h3 hs]
theorem b17 {v a : Int} {i : b5} {j : Nat} : bd ++ Z8 v a i (j + 1) = bd ++ Z8 v a i j ++ [K1 v ⟨11, 0, [⟨9, 0, (N9 i ((j : Int) + 1)).kids⟩, ⟨3, a, [⟨1, (j : Int) + 1, []⟩]⟩, ⟨2, v, []⟩]⟩] := by
 rw [Z8, List.append_assoc]; rfl
end
abbrev aw7 (e : b5) := m8 (e.kids.getD 0 cb2)
abbrev aT4 (e : b5) (ars : List Int) (pc : Int) (vs : List Int) (bd : List b6) (k : Nat) := b9 (xE ars pc vs bd e k).fst.fst ars 5 (m8 e)
abbrev ao8 (e : b5) (ars : List Int) (pc : Int) (vs : List Int) (bd : List b6) (k : Nat) := b8 ars pc (e.kids.getD k cb2) (xE ars pc vs bd e k).fst
abbrev aw6 (e : b5) (ars : List Int) (pc : Int) (vs : List Int) (bd : List b6) : List It := [.dead, dI ars, .dead, dE e.kids, .row 3 (D.ints (b8 ars pc e (vs, bd)).fst.fst), .row 106 (D.stmts (b8 ars pc e (vs, bd)).fst.snd), dE (b8 ars pc e (vs, bd)).snd.kids]
abbrev V6 : It := .box [.v (.slice none 0 0), .v (.slice none 0 0), .v (.slice none 0 0), .v (.slice none 0 0)]
abbrev R8 : It := .box [iA 0, iA 0, .v (.slice none 0 0)]
abbrev aG0 (e : b5) (ars : List Int) (pc : Int) (vs : List Int) (bd : List b6) (k : Nat) : It := .row 3 (D.ints ((xE ars pc vs bd e k).fst.fst ++ [i6 (aT4 e ars pc vs bd k) pc]))
abbrev ag6 : It := .box [.ref 8, .ref 1, .v (.slice none 0 0), .ref 9]
abbrev E8 (r0 : List (Nat × AV)) : List (Nat × AV) := (3, .ptr 4 0) :: (4, .ptr 5 0) :: (6, .ptr 6 0) :: (7, .ptr 7 0) :: r0
abbrev ao3 (e : b5) (ars : List Int) (pc : Int) (vs : List Int) (bd : List b6) (k : Nat) (r0 : List It) : List It := .row 3 (D.ints (xE ars pc vs bd e k).fst.fst) :: .row 106 (D.stmts (xE ars pc vs bd e k).fst.snd) :: r0
abbrev aE9 (e : b5) (ars : List Int) (r0 : List It) : List It := .dead :: dI ars :: .dead :: dE e.kids :: .box [.ref 9, .ref 1, .v (.slice none 0 0), .ref 10] :: .box (eL e 3) :: r0
abbrev a96 (r0 : List It) : List It := .box [.v (.slice none 0 0), .v (.slice none 0 0), .v (.slice none 0 0), .v (.slice none 0 0)] :: .box [iA 0, iA 0, .v (.slice none 0 0)] :: r0
theorem bx1 (e : b5) (ars : List Int) (pc : Int) (d : Nat) (hd : d + 1 ≤ 5) (ih : ∀ (u : b5), u ∈ e.kids → ∀ (vs : List Int) (bd : List b6), f5 vs.length ars.length d u = true → vs.length + (1 + v5 u) ≤ 100000 → i5 bd + 40 * (1 + v5 u) ≤ 700000 → i9.ok Tryz.prog (leC ars pc vs bd u))
    (vs : List Int) (bd : List b6) (he : f5 vs.length ars.length (d + 1) e = true) (r1 : vs.length + (1 + v5 e) ≤ 100000) (r2 : i5 bd + 40 * (1 + v5 e) ≤ 700000) : i9.ok Tryz.prog (leC ars pc vs bd e) := by
  refine z7 102 Tryz.func154 [.row 3 (D.ints vs), dI ars, .row 106 (D.stmts bd), dE e.kids] [(0, .agg [.ref 0, .ref 1, .v (.slice none 0 0), .ref 2]), (1, eA e 3), (2, iA pc)] fun G => ?_
  have hlen : e.kids.length ≤ v5 e := by cases e; exact as7 _
  have hb := bu9 (ars := ars) (pc := pc) (bd := bd) he r1 r2; refine wp_seq (k8 G d9 [0, 1, 2, 3, 4, 12, 20, 28] [.row 3 (D.ints vs), dI ars, .row 106 (D.stmts bd), dE e.kids, .box [.ref 0, .ref 1, .v (.slice none 0 0), .ref 2], .box (eL e 3), V6, R8] ((2, iA pc) :: (E8 [])) fun G => b7 (wp_seq (k8 G d9 [0, 1, 2, 3, 4, 5, 6, 7, 48] [.row 3 (D.ints vs), dI ars, .row 106 (D.stmts bd), dE e.kids, .box [.ref 0, .ref 1, .v (.slice none 0 0), .ref 2], .box (eL e 3), V6, R8, .box [iA e.kind, iA e.value, .v (.slice none 0 0)]] ((2, iA pc) :: (E8 [(8, .ptr 8 0)])) fun G => b7 (wp_seq (wp_seq (C9 G d9 ((2, iA pc) :: (E8 [(8, .ptr 8 0), (9, iA 0)])) fun G => b7 (wp_block ?_))))))); obtain ⟨ρ, G⟩ := G.shift 0 9 (.dead :: dI ars :: .row 106 (D.stmts bd) :: dE e.kids :: .box [.ref 9, .ref 1, .v (.slice none 0 0), .ref 2] :: .box (eL e 3) :: (a96 [.box [iA e.kind, iA e.value, .v (.slice none 0 0)], .row 3 (D.ints vs)])) ((2, iA pc) :: (E8 [(8, .ptr 8 0), (9, iA 0)])); obtain ⟨ρ, G⟩ := G.shift 2 10 (aE9 e ars (a96 [.box [iA e.kind, iA e.value, .v (.slice none 0 0)], .row 3 (D.ints vs), .row 106 (D.stmts bd)])) ((2, iA pc) :: (E8 [(8, .ptr 8 0), (9, iA 0)])); obtain ⟨ρ, G⟩ := G.nil 11 104 (.exprs []) 9 (aE9 e ars (a96 [.box (eL e 11), .row 3 (D.ints vs), .row 106 (D.stmts bd)])) ((2, iA pc) :: (E8 [(8, .ptr 8 0), (9, iA 0)])); refine o7 (κ := Nat) (fun k => k ≤ e.kids.length) (fun k => e.kids.length - k) (fun k => [.dead, dI ars, .dead, dE e.kids, .box [.ref 9, .ref 1, .v (.slice none 0 0), .ref 10], .box (eL e 3), .box [.v (.slice none 0 0), .v (.slice none 0 0), .v (.slice none 0 0), .v (.slice none 0 0)], .box [iA 0, iA 0, .v (.slice none 0 0)], .box (eL e 11), .row 3 (.ints (xE ars pc vs bd e k).1.1), .row 106 (.stmts (xE ars pc vs bd e k).1.2), .row 104 (.exprs (xE ars pc vs bd e k).2)]) (fun k => [(2, iA pc), (3, .ptr 4 0), (4, .ptr 5 0), (6, .ptr 6 0), (7, .ptr 7 0), (8, .ptr 8 0), (9, iA k)]) 0 (by simp [he]) (s0.at G _ _) ?_; clear G; intro k ρ a w hp G; replace G := s0.at G (aE9 e ars (V6 :: R8 :: .box (eL e 11) :: (ao3 e ars pc vs bd k [.row 104 (D.exprs (xE ars pc vs bd e k).snd)]))) ((2, iA pc) :: (E8 [(8, .ptr 8 0), (9, iA k)])); have hbk := hb k; have hxl := bu5 (ars := ars) (pc := pc) (vs := vs) (bd := bd) (e := e) k; refine wp_seq (wp_seq (l0 G d9 [(22, bA (decide ((k : Int) < e.kids.length)))] fun G => b7 (N4 G (fun h0 q0 => ?_) fun h0 q0 => ?_)))
  ·
   refine wp_exit (o0 (o0 (n5 (b7 (wp_seq (wp_seq ?_)))))); cases h1 : (e.kind != 3)
   ·
    have q1 := bne_eq_false_iff_eq.1 h1; refine ai2 G (t4 (l8 10 [9, 1, 84] (i9.lend (X5 ((xE ars pc vs bd e k).fst.fst) ars ((e.kids.getD 0 cb2).kind) ((e.kids.getD 0 cb2).value) ((e.kids.getD 0 cb2).kids) (bP7 he hd (by omega))) [.row 3]) (l8 11 [] (H7 (b9 (xE ars pc vs bd e k).fst.fst ars 5 (aw7 e))) t3)) (fc h1 fz) (us [(4, 12, 0), (1013, 1013, 0)])) [0, 1, 3, 7, 15, 31, 15, 79, 207, 463, 1023, 2047, 4095, 8191] [(56, .v (.bool !(d8 (b9 (xE ars pc vs bd e k).fst.fst ars 5 (aw7 e)) && decide (b9 (xE ars pc vs bd e k).fst.fst ars 5 (aw7 e) % 2 = 1))))] (iX 0 0 e.kids.length []) (iK (by have := V9 he (by omega); omega) cc1) fun G => b7 ?_; cases h2 : (!(d8 (b9 (xE ars pc vs bd e k).fst.fst ars (5 : Nat) (m8 (e.kids.getD (0 : Nat) cb2))) && decide (b9 (xE ars pc vs bd e k).fst.fst ars (5 : Nat) (m8 (e.kids.getD (0 : Nat) cb2)) % (2 : Int) = 1)))
    ·
     have q2 : ((d8 (b9 (xE ars pc vs bd e k).fst.fst ars 5 (m8 (e.kids.getD 0 cb2)))) = true) ∧ (b9 (xE ars pc vs bd e k).fst.fst ars 5 (m8 (e.kids.getD 0 cb2)) % 2 = 1) := (fun hq => And.imp (fun hq => (hq)) (fun hq => of_decide_eq_true hq) (cd5.1 hq)) (Eq.mp (cc4 _) h2); refine rF G _ h2 (wp_skip (b7 (wp_seq (k8 G d9 [0, 1, 2, 3, 4, 5, 6, 7, 9, 10] (.dead :: dI ars :: .dead :: dE e.kids :: ag6 :: .box (eL e 3) :: V6 :: R8 :: (ao3 e ars pc vs bd k [])) ((2, iA pc) :: (E8 [(11, iA 0)])) fun G => b7 (wp_seq (N3 G (t4 (l8 4 [8, 1, 3] (i9.lend (X5 ((xE ars pc vs bd e k).fst.fst) ars e.kind e.value e.kids (bP8 he hd)) [.row 3]) (l8 7 [8, 1, 9] (al9 ((xE ars pc vs bd e k).fst.fst) ars ((xE ars pc vs bd e k).fst.snd) (i6 (aT4 e ars pc vs bd k) pc) (by have := V9 he (by omega); omega)) t3)) fz []) [0, 0, 2, 0, 14, 0, 62, 127, 255, 511, 511, 1023, 4095] [0, 1, 2, 3, 4, 5, 6, 7, 9, 66] [.dead, dI ars, .dead, dE e.kids, .box [.ref 9, .ref 1, .v (.slice none 0 0), .ref 8], .box (eL e 3), V6, R8, .row 106 (D.stmts (xE ars pc vs bd e k).fst.snd), aG0 e ars pc vs bd k] (E8 [(11, iA ((xE ars pc vs bd e k).fst.fst.length : Int))]) fun G => b7 (wp_seq (N3 G (t4 (l8 4 [] (H6 0) (l8 5 [42] (av5 e.value 1 0 ([])) (l8 6 [9, 1, 8, 50] (Q3 ((xE ars pc vs bd e k).fst.fst ++ [i6 (aT4 e ars pc vs bd k) pc]) ars ((xE ars pc vs bd e k).fst.snd) (((xE ars pc vs bd e k).fst.fst.length : Int)) 3 e.value ([b5.mk 1 0 []]) (by have := V9 he (by omega); omega)) t3))) fz []) [0, 0, 0, 4, 0, 28, 63, 127] [0, 1, 2, 3, 4, 5, 6, 7, 9, 58] [.dead, dI ars, .dead, dE e.kids, ag6, .box (eL e 3), V6, R8, aG0 e ars pc vs bd k, .row 106 (D.stmts ((xE ars pc vs bd e k).fst.snd ++ [K1 ((xE ars pc vs bd e k).fst.fst.length : Int) (b5.mk 3 e.value [b5.mk 1 0 []])]))] (E8 [(11, iA ((xE ars pc vs bd e k).fst.fst.length : Int))]) fun G => b7 (wp_seq (wp_seq (C9 G d9 (E8 [(11, iA ((xE ars pc vs bd e k).fst.fst.length : Int)), (12, iA 1)]) fun G => b7 (wp_block ?_)))))))))))); refine o7 (κ := Nat) (fun j => j ≤ 3) (fun j => 3 - j) (fun j => [.dead, dI ars, .dead, dE e.kids, .box [.ref 8, .ref 1, .v (.slice none 0 0), .ref 9], .box (eL e 3), .box [.v (.slice none 0 0), .v (.slice none 0 0), .v (.slice none 0 0), .v (.slice none 0 0)], .box [iA 0, iA 0, .v (.slice none 0 0)], .row 3 (D.ints ((xE ars pc vs bd e k).fst.fst ++ [i6 (b9 (xE ars pc vs bd e k).fst.fst ars 5 (m8 e)) pc])), .row 106 (.stmts ((xE ars pc vs bd e k).1.2 ++ Z8 ((xE ars pc vs bd e k).1.1.length : Int) e.value (kE e) j))]) (fun j => [(3, .ptr 4 0), (4, .ptr 5 0), (6, .ptr 6 0), (7, .ptr 7 0), (11, iA ((xE ars pc vs bd e k).fst.fst.length : Int)), (12, iA ((j : Int) + 1))]) 0 (by simp [he, h0, h1, h2]) (s0.at G _ _) ?_
     clear G; intro j ρ a w hp G; replace G := s0.at G [.dead, dI ars, .dead, dE e.kids, ag6, .box (eL e 3), V6, R8, aG0 e ars pc vs bd k, .row 106 (D.stmts ((xE ars pc vs bd e k).fst.snd ++ Z8 ((xE ars pc vs bd e k).fst.fst.length : Int) e.value (kE e) j))] (E8 [(11, iA ((xE ars pc vs bd e k).fst.fst.length : Int)), (12, iA ((j : Int) + 1))]); refine wp_seq (wp_seq (l0 G d9 [(78, bA (decide ((j : Int) + 1 < 4)))] fun G => b7 (N4 G (fun h3 q3 => ?_) fun h3 q3 => ?_)))
     · refine wp_exit (o0 (o0 (n5 (b7 (wp_seq (N3 G (s4 2 [] (al8 (((xE ars pc vs bd e k).fst.fst.length : Int)))) [0, 0, 2, 7, 15] [0, 1, 2, 3, 6, 7, 8, 9, 26] [.dead, dI ars, .dead, dE e.kids, .box [.ref 6, .ref 1, .v (.slice none 0 0), .ref 7], .box [iA 2, iA ((xE ars pc vs bd e k).fst.fst.length : Int), .ref 8], aG0 e ars pc vs bd k, .row 106 (D.stmts ((xE ars pc vs bd e k).fst.snd ++ Z8 ((xE ars pc vs bd e k).fst.fst.length : Int) e.value (kE e) j)), dE []] [(6, .ptr 4 0), (7, .ptr 5 0)] fun G => b7 (wp_ret ?_))))))); exact W2 (.tup [.agg [.ref 6, .ref 1, .v (.slice none 0 0), .ref 7], .agg [iA 2, iA ((xE ars pc vs bd e k).fst.fst.length : Int), .ref 8]]) G [0, 1, 2, 3, 6, 7, 8] (by have e1 : ((b8 ars pc e (vs, bd)).snd.kind : Int) = (2) := (by rw [as3 (ars := ars) (pc := pc) (vs := vs) (bd := bd) (e := e) (k := k) (by omega) (by omega) (by with_reducible assumption)]; rfl); have e2 : ((b8 ars pc e (vs, bd)).snd.value : Int) = (((xE ars pc vs bd e k).fst.fst.length : Int)) := (by rw [as3 (ars := ars) (pc := pc) (vs := vs) (bd := bd) (e := e) (k := k) (by omega) (by omega) (by with_reducible assumption)]; rfl); (first | rw [e1, e2] | simp only [e1, e2]) <;> rfl) (by show _ = mR [0, 1, 2, 3, 6, 7, 8] (aw6 e ars pc vs bd); unfold aw6; have e2 : ((b8 ars pc e (vs, bd)).fst.snd : List b6) = ((xE ars pc vs bd e k).fst.snd ++ Z8 ((xE ars pc vs bd e k).fst.fst.length : Int) e.value (kE e) j) := (bH9 (k := k) (show j = 3 by omega) (by omega) (by omega) (by with_reducible assumption)); rw [e2, as3 (ars := ars) (pc := pc) (vs := vs) (bd := bd) (e := e) (k := k) (by omega) (by omega) (by with_reducible assumption)] <;> rfl)
     · refine wp_skip (b7 (wp_seq (wp_block (F7 G (t4 (l8 7 [50] (bn7 ((e.kids.getD 0 cb2).kind) ((e.kids.getD 0 cb2).value) ((e.kids.getD 0 cb2).kids) ((j : Int) + 1)) (l8 11 [] (H6 ((j : Int) + 1)) (l8 12 [98] (av5 e.value 1 ((j : Int) + 1) ([])) (l8 14 [] (al8 (((xE ars pc vs bd e k).fst.fst.length : Int))) (l8 16 [130] (ab7 11 ([b5.mk 9 0 (N9 (aw7 e) ((j : Int) + 1)).kids] ++ ([b5.mk 3 e.value [b5.mk 1 ((j : Int) + 1) []]] ++ ([b5.mk 2 ((xE ars pc vs bd e k).fst.fst.length : Int) []] ++ [])))) (l8 17 [8, 1, 9, 130] (Q3 ((xE ars pc vs bd e k).fst.fst ++ [i6 (aT4 e ars pc vs bd k) pc]) ars ((xE ars pc vs bd e k).fst.snd ++ Z8 ((xE ars pc vs bd e k).fst.fst.length : Int) e.value (kE e) j) (((xE ars pc vs bd e k).fst.fst.length : Int)) 11 0 ([b5.mk 9 0 (N9 (aw7 e) ((j : Int) + 1)).kids] ++ ([b5.mk 3 e.value [b5.mk 1 ((j : Int) + 1) []]] ++ ([b5.mk 2 ((xE ars pc vs bd e k).fst.fst.length : Int) []] ++ []))) (by simp only [cb5, cb4, cb6, U7]; omega)) t3)))))) fz []) [0, 0, 0, 4, 12, 28, 0, 124, 0, 256, 0, 1276, 4092, 0, 16380, 32764, 65532, 131071, 262143] [0, 1, 2, 3, 4, 5, 6, 7, 8, 146] [.dead, dI ars, .dead, dE e.kids, ag6, .box (eL e 3), V6, R8, aG0 e ars pc vs bd k, .row 106 (D.stmts ((xE ars pc vs bd e k).fst.snd ++ Z8 ((xE ars pc vs bd e k).fst.fst.length : Int) e.value (kE e) j ++ [K1 ((xE ars pc vs bd e k).fst.fst.length : Int) (b5.mk 11 0 ([b5.mk 9 0 (N9 (aw7 e) ((j : Int) + 1)).kids] ++ ([b5.mk 3 e.value [b5.mk 1 ((j : Int) + 1) []]] ++ ([b5.mk 2 ((xE ars pc vs bd e k).fst.fst.length : Int) []] ++ []))))]))] (E8 [(11, iA ((xE ars pc vs bd e k).fst.fst.length : Int)), (12, iA ((j : Int) + 1))]) (iX 0 0 e.kids.length []) (iK (by have := V9 he (by omega); omega) cc1) fun G => m6 (b7 (D7 G d9 [(12, iA ((j : Int) + 1 + 1))] [wO ((j : Int) + 1 + 1)] (o1 (by omega)) fun G => b7 ?_)))))); exact M7 G (j + 1) (by have := V9 he (by omega); omega) (by have := V9 he (by omega); omega) (rg 10) (by have e1 : ((xE ars pc vs bd e k).fst.snd ++ Z8 ((xE ars pc vs bd e k).fst.fst.length : Int) e.value (kE e) (j + 1) : List b6) = ((xE ars pc vs bd e k).fst.snd ++ Z8 ((xE ars pc vs bd e k).fst.fst.length : Int) e.value (kE e) j ++ [K1 ((xE ars pc vs bd e k).fst.fst.length : Int) (b5.mk 11 0 ([b5.mk 9 0 (N9 (m8 (e.kids.getD 0 cb2)) ((j : Int) + 1)).kids] ++ ([b5.mk 3 e.value [b5.mk 1 ((j : Int) + 1) []]] ++ ([b5.mk 2 ((xE ars pc vs bd e k).fst.fst.length : Int) []] ++ []))))]) := b17; (first | rw [e1] | simp only [e1]) <;> rfl)
    · have q2 : ((d8 (b9 (xE ars pc vs bd e k).fst.fst ars 5 (m8 (e.kids.getD 0 cb2)))) = false) ∨ (¬ (b9 (xE ars pc vs bd e k).fst.fst ars 5 (m8 (e.kids.getD 0 cb2)) % 2 = 1)) := (fun hq => Or.imp (fun hq => (hq)) (fun hq => of_decide_eq_false hq) (cd2.1 hq)) (Eq.mp (cc3 _) h2); refine rT G _ h2 (wp_seq (N3 G d9 [0, 0, 1, 7] [0, 1, 2, 3, 4, 5, 6, 7, 9, 10, 11] (.dead :: dI ars :: .dead :: dE e.kids :: ag6 :: .box (eL e 3) :: ag6 :: .box (eL e 10) :: (ao3 e ars pc vs bd k [.row 104 (D.exprs (xE ars pc vs bd e k).snd)])) ((2, iA pc) :: (E8 [])) fun G => b7 (wp_ret (l7 ?_)))); obtain ⟨ρ, G⟩ := G.frz [.no, .no, .no, .no, .no, .no, .no, .no, .no, .no, .row 104] (.dead :: dI ars :: .dead :: dE e.kids :: .box [.ref 8, .ref 1, .v (.slice none 0 0), .ref 9] :: .box (eL e 3) :: .box [.ref 8, .ref 1, .v (.slice none 0 0), .ref 9] :: .box (eL e 10) :: (ao3 e ars pc vs bd k [dE (xE ars pc vs bd e k).snd])) ((2, iA pc) :: (E8 [])); exact W2 (.tup [.agg [.ref 8, .ref 1, .v (.slice none 0 0), .ref 9], eA e 10]) G [0, 1, 2, 3, 8, 9, 10] (by have e1 : ((b8 ars pc e (vs, bd)).snd.kind : Int) = (e.kind) := (by rw [aB4 (ars := ars) (pc := pc) (vs := vs) (bd := bd) (e := e) (k := k) (by omega) (by with_reducible assumption)]; rfl); have e2 : ((b8 ars pc e (vs, bd)).snd.value : Int) = (e.value) := (by rw [aB4 (ars := ars) (pc := pc) (vs := vs) (bd := bd) (e := e) (k := k) (by omega) (by with_reducible assumption)]; rfl); (first | rw [e1, e2] | simp only [e1, e2]) <;> rfl) (by show _ = mR [0, 1, 2, 3, 8, 9, 10] (aw6 e ars pc vs bd); unfold aw6; rw [aB4 (ars := ars) (pc := pc) (vs := vs) (bd := bd) (e := e) (k := k) (by omega) (by with_reducible assumption)] <;> rfl)
   · have q1 := bne_iff_ne.1 h1; refine bp6 G (O5 (fc h1 fz) (us [(4, 12, 0), (1013, 1013, 0)])) [0, 1, 3, 7, 15, 31, 15, 79, 207, 463, 1023, 2047, 4095, 8191] [(56, bA true)] fun G => b7 (rT G true (by kernel_rfl) (wp_seq (N3 G d9 [0, 0, 1, 7] [0, 1, 2, 3, 4, 5, 6, 7, 9, 10, 11] (.dead :: dI ars :: .dead :: dE e.kids :: ag6 :: .box (eL e 3) :: ag6 :: .box (eL e 10) :: (ao3 e ars pc vs bd k [.row 104 (D.exprs (xE ars pc vs bd e k).snd)])) ((2, iA pc) :: (E8 [])) fun G => b7 (wp_ret (l7 ?_))))); obtain ⟨ρ, G⟩ := G.frz [.no, .no, .no, .no, .no, .no, .no, .no, .no, .no, .row 104] (.dead :: dI ars :: .dead :: dE e.kids :: .box [.ref 8, .ref 1, .v (.slice none 0 0), .ref 9] :: .box (eL e 3) :: .box [.ref 8, .ref 1, .v (.slice none 0 0), .ref 9] :: .box (eL e 10) :: (ao3 e ars pc vs bd k [dE (xE ars pc vs bd e k).snd])) ((2, iA pc) :: (E8 [])); exact W2 (.tup [.agg [.ref 8, .ref 1, .v (.slice none 0 0), .ref 9], eA e 10]) G [0, 1, 2, 3, 8, 9, 10] (by have e1 : ((b8 ars pc e (vs, bd)).snd.kind : Int) = (e.kind) := (by rw [ak3 (ars := ars) (pc := pc) (vs := vs) (bd := bd) (e := e) (k := k) (by omega) (by omega)]; rfl); have e2 : ((b8 ars pc e (vs, bd)).snd.value : Int) = (e.value) := (by rw [ak3 (ars := ars) (pc := pc) (vs := vs) (bd := bd) (e := e) (k := k) (by omega) (by omega)]; rfl); (first | rw [e1, e2] | simp only [e1, e2]) <;> rfl) (by show _ = mR [0, 1, 2, 3, 8, 9, 10] (aw6 e ars pc vs bd); unfold aw6; rw [ak3 (ars := ars) (pc := pc) (vs := vs) (bd := bd) (e := e) (k := k) (by omega) (by omega)] <;> rfl)
  · refine wp_skip (b7 (wp_seq (wp_block (wp_seq (k8 G d9 [0, 1, 2, 3, 4, 5, 6, 7, 8, 9, 10, 11, 20] (aE9 e ars (V6 :: R8 :: .box (eL e 11) :: (ao3 e ars pc vs bd k [.row 104 (D.exprs (xE ars pc vs bd e k).snd), R8]))) ((2, iA pc) :: (E8 [(8, .ptr 8 0), (9, iA k), (10, .ptr 12 0)])) fun G => b7 (wp_seq (F7 G (s4 7 [9, 1, 10, 53] (ih (e.kids.getD k cb2) (ab5 (by omega)) ((xE ars pc vs bd e k).fst.fst) ((xE ars pc vs bd e k).fst.snd) (bu6 he (by omega)) (bQ0 he r1 (by omega)) (bP9 he r2 (by omega)))) [0, 0, 2, 0, 14, 30, 0, 127, 255, 511, 511, 1023, 4095] [0, 1, 2, 3, 4, 5, 6, 7, 8, 11, 12, 69, 70, 71] [.dead, dI ars, .dead, dE e.kids, .box [.ref 11, .ref 1, .v (.slice none 0 0), .ref 12], .box (eL e 3), V6, R8, .box (eL e 9), .row 104 (D.exprs (xE ars pc vs bd e k).snd), .box (eL (ao8 e ars pc vs bd k).snd 13), .row 3 (D.ints (ao8 e ars pc vs bd k).fst.fst), .row 106 (D.stmts (ao8 e ars pc vs bd k).fst.snd), dE (ao8 e ars pc vs bd k).snd.kids] ((2, iA pc) :: (E8 [(8, .ptr 8 0), (9, iA k), (10, .ptr 10 0)])) (iX k k e.kids.length []) (iK (by omega) cc1) fun G => b7 (N5 G d9 [0, 1, 2, 3, 4, 5, 6, 7, 8, 11, 12, 46] (aE9 e ars [V6, R8, .box (eL e 11), .row 3 (D.ints (ao8 e ars pc vs bd k).fst.fst), .row 106 (D.stmts (ao8 e ars pc vs bd k).fst.snd), .row 104 (D.exprs ((xE ars pc vs bd e k).snd ++ ([m8 (ao8 e ars pc vs bd k).snd] ++ [])))]) ((2, iA pc) :: (E8 [(8, .ptr 8 0), (9, iA k)])) (aP ((xE ars pc vs bd e k).snd.length + ([m8 (b8 ars pc (e.kids.getD k cb2) (xE ars pc vs bd e k).fst).snd] ++ []).length) 40 []) (aK (by simp only [cb5, cb4, cb6, U7]; omega) cc1) fun G => m6 (b7 (D7 G d9 [(9, iA ((k : Int) + 1))] [wO ((k : Int) + 1)] (o1 (by omega)) fun G => b7 ?_)))))))))); exact M7 G (k + 1) (by omega) (by omega) (rg 12) (by have e1 : ((xE ars pc vs bd e (k + 1)).fst.fst : List Int) = ((b8 ars pc (e.kids.getD k cb2) (xE ars pc vs bd e k).fst).fst.fst) := (bP6 (by omega)); have e2 : ((xE ars pc vs bd e (k + 1)).fst.snd : List b6) = ((b8 ars pc (e.kids.getD k cb2) (xE ars pc vs bd e k).fst).fst.snd) := (bP5 (by omega)); have e3 : ((xE ars pc vs bd e (k + 1)).snd : List b5) = ((xE ars pc vs bd e k).snd ++ ([m8 (b8 ars pc (e.kids.getD k cb2) (xE ars pc vs bd e k).fst).snd] ++ [])) := (bP4 (by omega)); (first | rw [e1, e2, e3] | simp only [e1, e2, e3]) <;> rfl)
theorem L2 (n : Int) : i9.ok Tryz.prog ⟨188, [iA n], [], [dE []], .agg [iA 1, iA n, .ref 0]⟩ := by
 refine z7 5 Tryz.func188 [] [(0, iA n)] fun G => ?_; refine wp_seq (k8 G d9 [0] [.box [iA 0, iA 0, .v (.slice none 0 0)]] [(0, iA n), (2, .ptr 0 0)] fun G => b7 (wp_seq (k8 G d9 [0] [.box [iA 1, iA n, .v (.slice none 0 0)]] [(2, .ptr 0 0)] fun G => b7 (wp_ret ?_)))); obtain ⟨ρ, G⟩ := G.nil 1 0 (.exprs []) 9 [.box [iA 1, iA n, .ref 1]] [(2, .ptr 0 0)]; obtain ⟨ρ, G⟩ := G.frz [.no, .row 0] [.box [iA 1, iA n, .ref 1], dE []] [(2, .ptr 0 0)]; exact F6 G [1]
theorem Q1 (n : Int) : i9.ok Tryz.prog ⟨210, [iA n], [], [dE []], .agg [iA 2, iA n, .ref 0]⟩ := by
 refine z7 5 Tryz.func210 [] [(0, iA n)] fun G => ?_; refine wp_seq (k8 G d9 [0] [.box [iA 0, iA 0, .v (.slice none 0 0)]] [(0, iA n), (2, .ptr 0 0)] fun G => b7 (wp_seq (k8 G d9 [0] [.box [iA 2, iA n, .v (.slice none 0 0)]] [(2, .ptr 0 0)] fun G => b7 (wp_ret ?_)))); obtain ⟨ρ, G⟩ := G.nil 1 0 (.exprs []) 9 [.box [iA 2, iA n, .ref 1]] [(2, .ptr 0 0)]; obtain ⟨ρ, G⟩ := G.frz [.no, .row 0] [.box [iA 2, iA n, .ref 1], dE []] [(2, .ptr 0 0)]; exact F6 G [1]
theorem bf2 (k k1 v1 k2 v2 : Int) (s1 s2 : List b5) : i9.ok Tryz.prog ⟨215, [iA k, .agg [iA k1, iA v1, .ref 0], .agg [iA k2, iA v2, .ref 1]], [dE s1, dE s2], [dE s1, dE s2, dE [⟨k1, v1, s1⟩, ⟨k2, v2, s2⟩]], .agg [iA k, iA 0, .ref 2]⟩ := by
 refine z7 12 Tryz.func215 [dE s1, dE s2] [(0, iA k), (1, .agg [iA k1, iA v1, .ref 0]), (2, .agg [iA k2, iA v2, .ref 1])] fun G => ?_; refine wp_seq (k8 G d9 [0, 1, 2, 10, 18] [dE s1, dE s2, .box [iA k1, iA v1, .ref 0], .box [iA k2, iA v2, .ref 1], .box [iA 0, iA 0, .v (.slice none 0 0)]] [(0, iA k), (4, .ptr 2 0), (5, .ptr 3 0), (6, .ptr 4 0)] fun G => b7 (wp_seq (k8 G d9 [0, 1, 4, 29] [dE s1, dE s2, .box [iA k, iA 0, .ref 3], .row 104 (D.exprs ([b5.mk k1 v1 s1] ++ ([b5.mk k2 v2 s2] ++ [])))] [(6, .ptr 2 0)] fun G => b7 (wp_ret ?_)))); obtain ⟨ρ, G⟩ := G.frz [.no, .no, .no, .row 104] [dE s1, dE s2, .box [iA k, iA 0, .ref 3], dE ([b5.mk k1 v1 s1] ++ ([b5.mk k2 v2 s2] ++ []))] [(6, .ptr 2 0)]; exact F6 G [0, 1, 3]
theorem aL6 (k1 v1 k2 v2 k3 v3 : Int) (s1 s2 s3 : List b5) : i9.ok Tryz.prog ⟨214, [.agg [iA k1, iA v1, .ref 0], .agg [iA k2, iA v2, .ref 1], .agg [iA k3, iA v3, .ref 2]], [dE s1, dE s2, dE s3], [dE s1, dE s2, dE s3, dE [⟨k1, v1, s1⟩, ⟨k2, v2, s2⟩, ⟨k3, v3, s3⟩]], .agg [iA 11, iA 0, .ref 3]⟩ := by
 refine z7 12 Tryz.func214 [dE s1, dE s2, dE s3] [(0, .agg [iA k1, iA v1, .ref 0]), (1, .agg [iA k2, iA v2, .ref 1]), (2, .agg [iA k3, iA v3, .ref 2])] fun G => ?_; refine wp_seq (k8 G d9 [0, 1, 2, 3, 11, 19, 27] [dE s1, dE s2, dE s3, .box [iA k1, iA v1, .ref 0], .box [iA k2, iA v2, .ref 1], .box [iA k3, iA v3, .ref 2], .box [iA 0, iA 0, .v (.slice none 0 0)]] [(3, .ptr 3 0), (4, .ptr 4 0), (5, .ptr 5 0), (6, .ptr 6 0)] fun G => b7 (wp_seq (k8 G d9 [0, 1, 2, 6, 31] [dE s1, dE s2, dE s3, .box [iA 11, iA 0, .ref 4], .row 104 (D.exprs ([b5.mk k1 v1 s1] ++ ([b5.mk k2 v2 s2] ++ ([b5.mk k3 v3 s3] ++ []))))] [(6, .ptr 3 0)] fun G => b7 (wp_ret ?_)))); obtain ⟨ρ, G⟩ := G.frz [.no, .no, .no, .no, .row 104] [dE s1, dE s2, dE s3, .box [iA 11, iA 0, .ref 4], dE ([b5.mk k1 v1 s1] ++ ([b5.mk k2 v2 s2] ++ ([b5.mk k3 v3 s3] ++ [])))] [(6, .ptr 3 0)]; exact F6 G [0, 1, 2, 4]
theorem am1 (n ky vy : Int) (ks : List b5) : i9.ok Tryz.prog ⟨211, [iA n, .agg [iA ky, iA vy, .ref 0]], [dE ks], [dE ks, dE [⟨ky, vy, ks⟩]], .agg [iA 3, iA n, .ref 1]⟩ := by
 refine z7 9 Tryz.func211 [dE ks] [(0, iA n), (1, .agg [iA ky, iA vy, .ref 0])] fun G => ?_; refine wp_seq (k8 G d9 [0, 1, 9] [dE ks, .box [iA ky, iA vy, .ref 0], .box [iA 0, iA 0, .v (.slice none 0 0)]] [(0, iA n), (3, .ptr 1 0), (4, .ptr 2 0)] fun G => b7 (wp_seq (k8 G d9 [0, 2, 19] [dE ks, .box [iA 3, iA n, .ref 2], .row 104 (D.exprs ([b5.mk ky vy ks] ++ []))] [(4, .ptr 1 0)] fun G => b7 (wp_ret ?_)))); obtain ⟨ρ, G⟩ := G.frz [.no, .no, .row 104] [dE ks, .box [iA 3, iA n, .ref 2], dE ([b5.mk ky vy ks] ++ [])] [(4, .ptr 1 0)]; exact F6 G [0, 2]
theorem bG3 (ky vy : Int) (ks : List b5) (k : Int) : i9.ok Tryz.prog ⟨213, [.agg [iA ky, iA vy, .ref 0], iA k], [dE ks], [dE ks, dE (N9 ⟨ky, vy, ks⟩ k).kids], .agg [iA 9, iA 0, .ref 1]⟩ := by
 refine z7 11 Tryz.func213 [dE ks] [(0, .agg [iA ky, iA vy, .ref 0]), (1, iA k)] fun G => ?_; refine wp_seq (k8 G d9 [0, 1, 9] [dE ks, .box [iA ky, iA vy, .ref 0], .box [iA 0, iA 0, .v (.slice none 0 0)]] [(1, iA k), (2, .ptr 1 0), (4, .ptr 2 0)] fun G => b7 (wp_seq (N3 G (t4 (l8 1 [] (L2 3) (l8 2 [0, 11] (bf2 7 ky vy 1 3 ks ([])) (l8 4 [] (L2 k) (l8 5 [19, 35] (bf2 9 7 0 1 k ([b5.mk ky vy ks, b5.mk 1 3 []]) ([])) t3)))) fz []) [0, 0, 3, 0, 15, 31, 63] [0, 2, 43] [dE ks, .box [iA 9, iA 0, .ref 2], dE [b5.mk 7 0 [b5.mk ky vy ks, b5.mk 1 3 []], b5.mk 1 k []]] [(4, .ptr 1 0)] fun G => b7 (wp_ret ?_)))); exact F6 G [0, 2]
theorem V4 (v ky vy : Int) (ks : List b5) : i9.ok Tryz.prog ⟨208, [iA v, .agg [iA ky, iA vy, .ref 0]], [dE ks], [dE ks], .agg [iA 1, iA v, iA 0, iA 0, nlA, iA ky, iA vy, .ref 0, iA 0, nlA, nlA]⟩ := by
 refine z7 8 Tryz.func208 [dE ks] [(0, iA v), (1, .agg [iA ky, iA vy, .ref 0])] fun G => ?_; refine wp_seq (k8 G d9 [0, 1, 9] [dE ks, .box [iA ky, iA vy, .ref 0], .box [iA 0, iA 0, iA 0, iA 0, .v (.slice none 0 0), iA 0, iA 0, .v (.slice none 0 0), iA 0, .v (.slice none 0 0), .v (.slice none 0 0)]] [(0, iA v), (3, .ptr 1 0), (4, .ptr 2 0)] fun G => b7 (wp_seq (k8 G d9 [0, 2] [dE ks, .box [iA 1, iA v, iA 0, iA 0, .v (.slice none 0 0), iA ky, iA vy, .ref 0, iA 0, .v (.slice none 0 0), .v (.slice none 0 0)]] [(4, .ptr 1 0)] fun G => b7 (wp_ret ?_)))); exact F6 G [0]
theorem aD5 (vs ars : List Int) (l : Int) (hl : vs.length ≤ 8000000) : i9.ok Tryz.prog ⟨212, [.ptr 0 0, iA l], [.box [.ref 1, .ref 2, nlA], qI vs, dI ars], [.box [.ref 3, .ref 2, nlA], .dead, dI ars, qI (vs ++ [l])], iA (vs.length : Int)⟩ := by
 refine z7 24 Tryz.func212 [.box [.ref 1, .ref 2, .v (.slice none 0 0)], .row 3 (D.ints vs), dI ars] [(0, .ptr 0 0), (1, iA l)] fun G => ?_; refine wp_seq (l0 G d9 [(4, iA 0)] fun G => b7 (wp_seq (N5 G d9 [0, 1, 2, 67] [.box [.ref 3, .ref 2, .v (.slice none 0 0)], .dead, dI ars, .row 3 (D.ints (vs ++ ([l] ++ [])))] [(0, .ptr 0 0), (4, iA 0)] (aP (vs.length + 1) 8 []) (aK (by omega) cc1) fun G => b7 (wp_seq (D7 G d9 [(4, iA (((vs ++ ([l] ++ [])).length : Int) - 1))] [wO (((vs ++ ([l] ++ [])).length : Int) - 1)] ⟨(w64 (by simp only [cb5, cb4, cb6]; omega) (by simp only [cb5, cb4, cb6]; omega)), cc1⟩ fun G => b7 (wp_ret ?_)))))); exact K3 (((vs ++ ([l] ++ [])).length : Int) - 1) G (rg 4) (by simp only [cb5, cb4, cb6]; omega)
theorem bp0 (m k1 v1 k2 v2 : Int) (s1 s2 : List b5) (hm : m < 0) : i9.ok Tryz.prog ⟨209, [iA m, .agg [iA k1, iA v1, .ref 0], .agg [iA k2, iA v2, .ref 1]], [dE s1, dE s2], [dE s1, dE s2], .agg [iA k1, iA v1, .ref 0]⟩ := by
 refine z7 15 Tryz.func209 [dE s1, dE s2] [(0, iA m), (1, .agg [iA k1, iA v1, .ref 0]), (2, .agg [iA k2, iA v2, .ref 1])] fun G => ?_; refine wp_seq (k8 G d9 [0, 1, 2, 10, 18] [dE s1, dE s2, .box [iA k1, iA v1, .ref 0], .box [iA k2, iA v2, .ref 1], .box [iA 0, iA 0, .v (.slice none 0 0)]] [(0, iA m), (4, .ptr 2 0), (5, .ptr 3 0), (6, .ptr 4 0)] fun G => b7 (wp_seq (wp_seq (C9 G d9 [(0, iA m), (4, .ptr 2 0), (5, .ptr 3 0), (6, .ptr 4 0), (8, bA (decide (m < 0)))] fun G => b7 ?_)))); cases h0 : (decide (m < 0))
 ·have q0 := dFf h0; exact False.elim (by omega)
 ·have q0 := dTt h0; refine rT G _ h0 (wp_seq (k8 G d9 (rg 5) [dE s1, dE s2, .box [iA k1, iA v1, .ref 0], .box [iA k2, iA v2, .ref 1], .box [iA k1, iA v1, .ref 0]] [(0, iA m), (4, .ptr 2 0), (5, .ptr 3 0), (6, .ptr 4 0)] fun G => b7 (wp_ret (l7 ?_)))); exact F6 G [0, 1]
theorem bo9 (m k1 v1 k2 v2 : Int) (s1 s2 : List b5) (hm : ¬ m < 0) : i9.ok Tryz.prog ⟨209, [iA m, .agg [iA k1, iA v1, .ref 0], .agg [iA k2, iA v2, .ref 1]], [dE s1, dE s2], [dE s1, dE s2, dE (seE (vrE m) ⟨k1, v1, s1⟩ ⟨k2, v2, s2⟩).kids], .agg [iA 11, iA 0, .ref 2]⟩ := by
 refine z7 15 Tryz.func209 [dE s1, dE s2] [(0, iA m), (1, .agg [iA k1, iA v1, .ref 0]), (2, .agg [iA k2, iA v2, .ref 1])] fun G => ?_; refine wp_seq (k8 G d9 [0, 1, 2, 10, 18] [dE s1, dE s2, .box [iA k1, iA v1, .ref 0], .box [iA k2, iA v2, .ref 1], .box [iA 0, iA 0, .v (.slice none 0 0)]] [(0, iA m), (4, .ptr 2 0), (5, .ptr 3 0), (6, .ptr 4 0)] fun G => b7 (wp_seq (wp_seq (C9 G d9 [(0, iA m), (4, .ptr 2 0), (5, .ptr 3 0), (6, .ptr 4 0), (8, bA (decide (m < 0)))] fun G => b7 ?_)))); cases h0 : (decide (m < 0))
 ·have q0 := dFf h0; refine rF G _ h0 (wp_skip (b7 (wp_seq (N3 G (t4 (l8 1 [] (Q1 m) (l8 4 [13, 0, 1] (aL6 2 m k1 v1 k2 v2 ([]) s1 s2) t3)) fz []) [0, 1, 0, 0, 15, 31] [0, 1, 4, 37] [dE s1, dE s2, .box [iA 11, iA 0, .ref 3], dE [b5.mk 2 m [], b5.mk k1 v1 s1, b5.mk k2 v2 s2]] [(6, .ptr 2 0)] fun G => b7 (wp_ret ?_))))); exact F6 G [0, 1, 3]
 ·have q0 := dTt h0; exact False.elim (by omega)
theorem aj3 (m k1 v1 k2 v2 : Int) (s1 s2 : List b5) : i9.ok Tryz.prog ⟨209, [iA m, .agg [iA k1, iA v1, .ref 0], .agg [iA k2, iA v2, .ref 1]], [dE s1, dE s2], [dE s1, dE s2, dE (s5 m ⟨k1, v1, s1⟩ ⟨k2, v2, s2⟩).kids], .agg [iA (s5 m ⟨k1, v1, s1⟩ ⟨k2, v2, s2⟩).kind, iA (s5 m ⟨k1, v1, s1⟩ ⟨k2, v2, s2⟩).value, .ref 2]⟩ := by
 by_cases hm : m < 0
 ·rw [bR4 hm]
  exact i9.dupPost (S := [dE s1, dE s2]) (d := .exprs s1) (i := 0) (bp0 m k1 v1 k2 v2 s1 s2 hm) rfl (cc6 _) rfl (fun ρ h => by
   have h : ρ 2 = ρ 0 := h
   simp only [AV.val, AV.vals, h]; rfl) rfl
 ·rw [bR3 hm]
  exact bo9 m k1 v1 k2 v2 s1 s2 hm
section
variable {P : Program} {ι : Type} {φ ψ : Nat → Prop} {w0 w w' : World} {F : ι → Rs} {ρ ρ0 : Nat → Value} {N m n : Nat} {S : List It} {tm : List (Nat × AV)} {a : Act} {Q : Exit → Act → World → Prop}
theorem bK5 {S : List It} {i : Nat} {x : It} (h : r9 S i = x) (hi : i < S.length) : S.set i x = S := by
 rw [ad5 hi] at h
 rw [← h, List.set_getElem_self]
theorem s0.sE (G : s0 φ ψ w0 F N m ρ0 ρ S tm a w) (i : Nat) {e : TypeId} {B : List b6} {Z x : b6} (h : r9 S i = .row e (.stmts ((B ++ ([Z] ++ [])).set B.length x)) := by rfl) (hi : decide (i < S.length) = true := by kernel_rfl) : s0 φ ψ w0 F N m ρ0 ρ (S.set i (.row e (.stmts (B ++ [x])))) tm a w := by
 have e1 : B ++ [x] = (B ++ ([Z] ++ [])).set B.length x := by simp
 rw [e1, bK5 h (of_decide_eq_true hi)]
 exact G
end
abbrev ieC (ars : List Int) (pc : Int) (vs : List Int) (bd : List b6) (e : b5) : i9 := ⟨207, [.ptr 0 0, eA e 5, iA pc, .ptr 3 0], [.box [.ref 1, .ref 2, nlA], qI vs, dI ars, .box [.ref 4], qT bd, dE e.kids], [.box [.ref 6, .ref 2, nlA], .dead, dI ars, .box [.ref 7], .dead, dE e.kids, qI (b8 ars pc e (vs, bd)).1.1, qT (b8 ars pc e (vs, bd)).1.2, dE (b8 ars pc e (vs, bd)).2.kids], .agg [iA (b8 ars pc e (vs, bd)).2.kind, iA (b8 ars pc e (vs, bd)).2.value, .ref 8]⟩
section
variable {ars vs : List Int} {pc : Int} {bd : List b6} {e : b5} {d k : Nat}
theorem bi5 (he : f5 vs.length ars.length (d + 1) e = true) (hk : e.kids.length ≤ k) (h3 : e.kind = 3) : xE ars pc vs bd e k = ((vs, bd), e.kids) := by
 unfold xE; rw [cc8 hk]; exact ai0 h3 he
abbrev jE (ars : List Int) (pc : Int) (vs : List Int) (bd : List b6) (e : b5) (k : Nat) : b5 := ⟨((xE ars pc vs bd e k).2.getD 0 cb2).kind, ((xE ars pc vs bd e k).2.getD 0 cb2).value, ((xE ars pc vs bd e k).2.getD 0 cb2).kids⟩
theorem bC5 (he : f5 vs.length ars.length (d + 1) e = true) (hk : e.kids.length ≤ k) (h3 : e.kind = 3) : jE ars pc vs bd e k = kE e := by
 unfold jE; rw [bi5 he hk h3]
theorem bZ2 (he : f5 vs.length ars.length (d + 1) e = true) (hd : d + 1 ≤ 5) (hk : e.kids.length ≤ k) (h3 : e.kind = 3) : f5 (xE ars pc vs bd e k).1.1.length ars.length 5 (jE ars pc vs bd e k) = true := by
 rw [bC5 he hk h3]; exact bP7 he hd h3
theorem bZ3 (he : f5 vs.length ars.length (d + 1) e = true) (hd : d + 1 ≤ 5) (hk : e.kids.length ≤ k) (h3 : e.kind = 3) : f5 (xE ars pc vs bd e k).1.1.length ars.length 5 ⟨e.kind, e.value, (xE ars pc vs bd e k).2⟩ = true := by
 have h := bP8 (pc := pc) (bd := bd) (k := k) he hd
 rw [bi5 he hk h3] at h ⊢
 exact h
theorem a09 (he : f5 vs.length ars.length (d + 1) e = true) (hk : e.kids.length ≤ k) (h3 : e.kind = 3) : 0 < (xE ars pc vs bd e k).2.length := by
 rw [bi5 he hk h3]; exact V9 he h3
theorem aB3 (he : f5 vs.length ars.length (d + 1) e = true) (hk : e.kids.length ≤ k) (h3 : e.kind = 3) (hs : (!(d8 (b9 (xE ars pc vs bd e k).1.1 ars 5 (jE ars pc vs bd e k)) && decide (b9 (xE ars pc vs bd e k).1.1 ars 5 (jE ars pc vs bd e k) % 2 = 1))) = false) : b8 ars pc e (vs, bd) = (((xE ars pc vs bd e k).1.1 ++ [i6 (b9 (xE ars pc vs bd e k).1.1 ars 5 ⟨e.kind, e.value, (xE ars pc vs bd e k).2⟩) pc], (xE ars pc vs bd e k).1.2 ++ Z8 ((xE ars pc vs bd e k).1.1.length : Int) e.value (jE ars pc vs bd e k) 3), vrE ((xE ars pc vs bd e k).1.1.length : Int)) := by
 rw [bC5 he hk h3] at hs ⊢
 rw [as3 hk h3 hs, bi5 he hk h3]
theorem bu7 {j : Nat} (hj : j = 3) (he : f5 vs.length ars.length (d + 1) e = true) (hk : e.kids.length ≤ k) (h3 : e.kind = 3) (hs : (!(d8 (b9 (xE ars pc vs bd e k).1.1 ars 5 (jE ars pc vs bd e k)) && decide (b9 (xE ars pc vs bd e k).1.1 ars 5 (jE ars pc vs bd e k) % 2 = 1))) = false) : (b8 ars pc e (vs, bd)).1.2 = (xE ars pc vs bd e k).1.2 ++ Z8 ((xE ars pc vs bd e k).1.1.length : Int) e.value (jE ars pc vs bd e k) j := by
 rw [hj, aB3 he hk h3 hs]
theorem aT7 (he : f5 vs.length ars.length (d + 1) e = true) (hk : e.kids.length ≤ k) (h3 : e.kind = 3) (hs : (!(d8 (b9 (xE ars pc vs bd e k).1.1 ars 5 (jE ars pc vs bd e k)) && decide (b9 (xE ars pc vs bd e k).1.1 ars 5 (jE ars pc vs bd e k) % 2 = 1))) = true) : b8 ars pc e (vs, bd) = ((xE ars pc vs bd e k).1, ⟨e.kind, e.value, (xE ars pc vs bd e k).2⟩) := by
 rw [bC5 he hk h3] at hs
 exact aB4 hk hs
end
abbrev ao5 (e : b5) (ars : List Int) (pc : Int) (vs : List Int) (bd : List b6) (k : Nat) := m8 ((xE ars pc vs bd e k).snd.getD 0 cb2)
abbrev bu2 (e : b5) (ars : List Int) (pc : Int) (vs : List Int) (bd : List b6) (k : Nat) := b9 (xE ars pc vs bd e k).fst.fst ars 5 (b5.mk e.kind e.value (xE ars pc vs bd e k).snd)
abbrev aw5 (e : b5) (ars : List Int) (pc : Int) (vs : List Int) (bd : List b6) : List It := [.box [.ref 6, .ref 2, nlA], .dead, dI ars, .box [.ref 7], .dead, dE e.kids, .row 3 (D.ints (b8 ars pc e (vs, bd)).fst.fst), .row 106 (D.stmts (b8 ars pc e (vs, bd)).fst.snd), dE (b8 ars pc e (vs, bd)).snd.kids]
abbrev ba0 (e : b5) (ars : List Int) (pc : Int) (vs : List Int) (bd : List b6) (k : Nat) : It := .row 3 (D.ints ((xE ars pc vs bd e k).fst.fst ++ [i6 (bu2 e ars pc vs bd k) pc]))
abbrev ao4 : It := .box [iA 0, iA 0, .v (.slice none 0 0)]
abbrev bS9 : It := .box [.ref 10, .ref 2, .v (.slice none 0 0)]
abbrev aF7 : It := .box [.ref 9, .ref 2, .v (.slice none 0 0)]
abbrev E7 (r0 : List (Nat × AV)) : List (Nat × AV) := (3, .ptr 3 0) :: (5, .ptr 6 0) :: (8, .ptr 7 0) :: (9, .ptr 8 0) :: r0
abbrev aE7 (e : b5) (ars : List Int) (pc : Int) (vs : List Int) (bd : List b6) (k : Nat) (r0 : List It) : List It := bS9 :: .dead :: dI ars :: .box [.ref 11] :: .dead :: dE e.kids :: .box (eL e 5) :: ao4 :: .box (eL e 9) :: dE (xE ars pc vs bd e k).snd :: ba0 e ars pc vs bd k :: r0
abbrev an9 (e : b5) (ars : List Int) (r0 : List It) : List It := .dead :: dI ars :: .box [.ref 10] :: .dead :: dE e.kids :: .box (eL e 5) :: r0
abbrev ag3 (e : b5) (r0 : List (Nat × AV)) : List (Nat × AV) := (20, .ref 5) :: (21, iA (e.kids.length : Int)) :: r0
theorem bx4 (e : b5) (ars : List Int) (pc : Int) (d : Nat) (hd : d + 1 ≤ 5) (ih : ∀ (u : b5), u ∈ e.kids → ∀ (vs : List Int) (bd : List b6), f5 vs.length ars.length d u = true → vs.length + (1 + v5 u) ≤ 100000 → i5 bd + 40 * (1 + v5 u) ≤ 700000 → i9.ok Tryz.prog (ieC ars pc vs bd u))
    (vs : List Int) (bd : List b6) (he : f5 vs.length ars.length (d + 1) e = true) (r1 : vs.length + (1 + v5 e) ≤ 100000) (r2 : i5 bd + 40 * (1 + v5 e) ≤ 700000) : i9.ok Tryz.prog (ieC ars pc vs bd e) := by
  refine z7 108 Tryz.func207 [.box [.ref 1, .ref 2, .v (.slice none 0 0)], .row 3 (D.ints vs), dI ars, .box [.ref 4], .row 106 (D.stmts bd), dE e.kids] [(0, .ptr 0 0), (1, eA e 5), (2, iA pc), (3, .ptr 3 0)] fun G => ?_
  have hlen : e.kids.length ≤ v5 e := by cases e; exact as7 _
  have hb := bu9 (ars := ars) (pc := pc) (bd := bd) he r1 r2; refine wp_seq (k8 G d9 [0, 1, 2, 3, 4, 5, 6, 14] [.box [.ref 1, .ref 2, .v (.slice none 0 0)], .row 3 (D.ints vs), dI ars, .box [.ref 4], .row 106 (D.stmts bd), dE e.kids, .box (eL e 5), ao4] [(0, .ptr 0 0), (2, iA pc), (3, .ptr 3 0), (5, .ptr 6 0), (8, .ptr 7 0)] fun G => b7 (wp_seq (k8 G d9 [0, 1, 2, 3, 4, 5, 6, 7, 48] [.box [.ref 1, .ref 2, .v (.slice none 0 0)], .row 3 (D.ints vs), dI ars, .box [.ref 4], .row 106 (D.stmts bd), dE e.kids, .box (eL e 5), ao4, .box [iA e.kind, iA e.value, .v (.slice none 0 0)]] ((0, .ptr 0 0) :: (2, iA pc) :: (E7 [])) fun G => b7 (wp_seq (wp_seq (C9 G d9 ((0, .ptr 0 0) :: (2, iA pc) :: (E7 (ag3 e [(22, iA 0)]))) fun G => b7 (wp_block ?_))))))); obtain ⟨ρ, G⟩ := G.shift 1 9 [.box [.ref 9, .ref 2, .v (.slice none 0 0)], .dead, dI ars, .box [.ref 4], .row 106 (D.stmts bd), dE e.kids, .box (eL e 5), .box [iA 0, iA 0, .v (.slice none 0 0)], .box [iA e.kind, iA e.value, .v (.slice none 0 0)], .row 3 (D.ints vs)] ((0, .ptr 0 0) :: (2, iA pc) :: (E7 (ag3 e [(22, iA 0)]))); obtain ⟨ρ, G⟩ := G.shift 4 10 (.box [.ref 9, .ref 2, .v (.slice none 0 0)] :: (an9 e ars [.box [iA 0, iA 0, .v (.slice none 0 0)], .box [iA e.kind, iA e.value, .v (.slice none 0 0)], .row 3 (D.ints vs), .row 106 (D.stmts bd)])) ((0, .ptr 0 0) :: (2, iA pc) :: (E7 (ag3 e [(22, iA 0)]))); obtain ⟨ρ, G⟩ := G.nil 11 104 (.exprs []) 9 (.box [.ref 9, .ref 2, .v (.slice none 0 0)] :: (an9 e ars [.box [iA 0, iA 0, .v (.slice none 0 0)], .box (eL e 11), .row 3 (D.ints vs), .row 106 (D.stmts bd)])) ((0, .ptr 0 0) :: (2, iA pc) :: (E7 (ag3 e [(22, iA 0)]))); refine o7 (κ := Nat) (fun k => k ≤ e.kids.length) (fun k => e.kids.length - k) (fun k => [.box [.ref 9, .ref 2, .v (.slice none 0 0)], .dead, dI ars, .box [.ref 10], .dead, dE e.kids, .box (eL e 5), .box [iA 0, iA 0, .v (.slice none 0 0)], .box (eL e 11), .row 3 (.ints (xE ars pc vs bd e k).1.1), .row 106 (.stmts (xE ars pc vs bd e k).1.2), .row 104 (.exprs (xE ars pc vs bd e k).2)]) (fun k => [(0, .ptr 0 0), (2, iA pc), (3, .ptr 3 0), (5, .ptr 6 0), (8, .ptr 7 0), (9, .ptr 8 0), (20, .ref 5), (21, iA (e.kids.length : Int)), (22, iA k)]) 0 (by simp [he]) (s0.at G _ _) ?_; clear G; intro k ρ a w hp G; replace G := s0.at G (aF7 :: (an9 e ars [ao4, .box (eL e 11), .row 3 (D.ints (xE ars pc vs bd e k).fst.fst), .row 106 (D.stmts (xE ars pc vs bd e k).fst.snd), .row 104 (D.exprs (xE ars pc vs bd e k).snd)])) ((0, .ptr 0 0) :: (2, iA pc) :: (E7 (ag3 e [(22, iA k)]))); have hbk := hb k; have hxl := bu5 (ars := ars) (pc := pc) (vs := vs) (bd := bd) (e := e) k; refine wp_seq (C9 G d9 ((0, .ptr 0 0) :: (2, iA pc) :: (E7 (ag3 e [(22, iA k), (23, bA (decide ((k : Int) < e.kids.length)))]))) fun G => b7 (wp_seq (N4 G (fun h0 q0 => ?_) fun h0 q0 => ?_)))
  ·
   refine wp_exit (o0 (o0 (n5 (b7 (wp_seq (wp_seq ?_)))))); obtain ⟨ρ, G⟩ := G.frz [.no, .no, .no, .no, .no, .no, .no, .no, .no, .no, .no, .row 104] [.box [.ref 9, .ref 2, .v (.slice none 0 0)], .dead, dI ars, .box [.ref 10], .dead, dE e.kids, .box (eL e 5), .box [iA 0, iA 0, .v (.slice none 0 0)], .box (eL e 11), .row 3 (D.ints (xE ars pc vs bd e k).fst.fst), .row 106 (D.stmts (xE ars pc vs bd e k).fst.snd), dE (xE ars pc vs bd e k).snd] [(0, .ptr 0 0), (2, iA pc), (3, .ptr 3 0), (5, .ptr 6 0), (8, .ptr 7 0), (9, .ptr 8 0), (20, .ref 5), (21, iA (e.kids.length : Int)), (22, iA k), (23, bA (decide ((k : Int) < e.kids.length)))]; cases h1 : (e.kind != 3)
   ·
    have q1 := bne_eq_false_iff_eq.1 h1; refine bp7 G (t4 (l8 12 [9, 2, 100] (i9.lend (aj4 ((xE ars pc vs bd e k).fst.fst) ars (((xE ars pc vs bd e k).snd.getD 0 cb2).kind) (((xE ars pc vs bd e k).snd.getD 0 cb2).value) (((xE ars pc vs bd e k).snd.getD 0 cb2).kids) (bZ2 he hd (by omega) (by omega))) [.row 3]) (l8 13 [] (A5 (b9 (xE ars pc vs bd e k).fst.fst ars 5 (ao5 e ars pc vs bd k))) t3)) (fc h1 fz) (us [(4, 14, 0), (1015, 1015, 0)])) [0, 1, 3, 7, 15, 31, 63, 127, 15, 271, 783, 1807, 4095, 8191, 16383, 32767] ((0, .ptr 0 0) :: (2, iA pc) :: (E7 [(52, .v (.bool !(d8 (b9 (xE ars pc vs bd e k).fst.fst ars 5 (ao5 e ars pc vs bd k)) && decide (b9 (xE ars pc vs bd e k).fst.fst ars 5 (ao5 e ars pc vs bd k) % 2 = 1))))])) (iX 0 0 ((xE ars pc vs bd e k).snd.length) []) (iK (by have := a09 (pc := pc) (bd := bd) (k := k) he (by omega) (by omega); omega) cc1) fun G => b7 ?_; cases h2 : (!(d8 (b9 (xE ars pc vs bd e k).fst.fst ars (5 : Nat) (m8 ((xE ars pc vs bd e k).snd.getD (0 : Nat) cb2))) && decide (b9 (xE ars pc vs bd e k).fst.fst ars (5 : Nat) (m8 ((xE ars pc vs bd e k).snd.getD (0 : Nat) cb2)) % (2 : Int) = 1)))
    ·
     have q2 : ((d8 (b9 (xE ars pc vs bd e k).fst.fst ars 5 (m8 ((xE ars pc vs bd e k).snd.getD 0 cb2)))) = true) ∧ (b9 (xE ars pc vs bd e k).fst.fst ars 5 (m8 ((xE ars pc vs bd e k).snd.getD 0 cb2)) % 2 = 1) := (fun hq => And.imp (fun hq => (hq)) (fun hq => of_decide_eq_true hq) (cd5.1 hq)) (Eq.mp (cc4 _) h2); refine rF G _ h2 (wp_skip (b7 (wp_seq (N3 G (t4 (l8 6 [9, 2, 11] (i9.lend (aj4 ((xE ars pc vs bd e k).fst.fst) ars e.kind e.value ((xE ars pc vs bd e k).snd) (bZ3 he hd (by omega) (by omega))) [.row 3]) (l8 9 [0, 9, 2] (aD5 ((xE ars pc vs bd e k).fst.fst) ars (i6 (bu2 e ars pc vs bd k) pc) (by have := a09 (pc := pc) (bd := bd) (k := k) he (by omega) (by omega); omega)) t3)) fz []) [0, 0, 2, 6, 14, 0, 62, 0, 254, 511, 1023] [0, 1, 2, 3, 4, 5, 6, 7, 8, 10, 11, 84] [.box [.ref 11, .ref 2, .v (.slice none 0 0)], .dead, dI ars, .box [.ref 9], .dead, dE e.kids, .box (eL e 5), ao4, .box (eL e 10), .row 106 (D.stmts (xE ars pc vs bd e k).fst.snd), dE (xE ars pc vs bd e k).snd, ba0 e ars pc vs bd k] (E7 [(12, iA ((xE ars pc vs bd e k).fst.fst.length : Int))]) fun G => b7 (wp_seq (F7 G (t4 (l8 6 [] (L2 0) (l8 7 [60] (am1 e.value 1 0 ([])) (l8 8 [68] (V4 (((xE ars pc vs bd e k).fst.fst.length : Int)) 3 e.value ([b5.mk 1 0 []])) t3))) fz []) [0, 1, 3, 0, 0, 16, 0, 112, 248, 7, 0, 2047, 4095, 8191, 4095, 20479] [0, 1, 2, 3, 4, 5, 6, 7, 8, 10, 11, 100] (aE7 e ars pc vs bd k [.row 106 (D.stmts (((xE ars pc vs bd e k).fst.snd ++ ([b6.mk 0 0 (b5.mk 0 0 []) (b5.mk 0 0 []) 0 [] []] ++ [])).set (xE ars pc vs bd e k).fst.snd.length (b6.mk 1 ((xE ars pc vs bd e k).fst.fst.length : Int) (b5.mk 0 0 []) (b5.mk 3 e.value [b5.mk 1 0 []]) 0 [] [])))]) (E7 [(12, iA ((xE ars pc vs bd e k).fst.fst.length : Int))]) (aP ((xE ars pc vs bd e k).fst.snd.length + ([b6.mk (0 : Int) (0 : Int) (b5.mk (0 : Int) (0 : Int) []) (b5.mk (0 : Int) (0 : Int) []) (0 : Int) [] []] ++ []).length) 152 (((0 : Int) ≤ ((xE ars pc vs bd e k).fst.snd.length : Int)) :: ((((xE ars pc vs bd e k).fst.snd.length : Int) < (((xE ars pc vs bd e k).fst.snd ++ ([b6.mk (0 : Int) (0 : Int) (b5.mk (0 : Int) (0 : Int) []) (b5.mk (0 : Int) (0 : Int) []) (0 : Int) [] []] ++ [])).length : Int)) :: (((xE ars pc vs bd e k).fst.snd.length < ((xE ars pc vs bd e k).fst.snd ++ ([b6.mk (0 : Int) (0 : Int) (b5.mk (0 : Int) (0 : Int) []) (b5.mk (0 : Int) (0 : Int) []) (0 : Int) [] []] ++ [])).length) :: [])))) (aK (by simp only [cb5, cb4, cb6, U7]; omega) ⟨(by simp [he, h0, h1, h2]), ⟨(by simp only [cb5, cb4, cb6, U7]; omega), ⟨(by simp [he, h0, h1, h2]), cc1⟩⟩⟩) fun G => ?_))))))
     replace G := G.sE 11; replace G := s0.at G (aE7 e ars pc vs bd k [.row 106 (D.stmts ((xE ars pc vs bd e k).fst.snd ++ [b6.mk 1 ((xE ars pc vs bd e k).fst.fst.length : Int) (b5.mk 0 0 []) (b5.mk 3 e.value [b5.mk 1 0 []]) 0 [] []]))]) (E7 [(12, iA ((xE ars pc vs bd e k).fst.fst.length : Int))]); refine b7 (wp_seq (wp_seq (C9 G d9 (E7 [(12, iA ((xE ars pc vs bd e k).fst.fst.length : Int)), (13, iA 1)]) fun G => b7 (wp_block ?_)))); refine o7 (κ := Nat) (fun j => j ≤ 3) (fun j => 3 - j) (fun j => [.box [.ref 10, .ref 2, .v (.slice none 0 0)], .dead, dI ars, .box [.ref 11], .dead, dE e.kids, .box (eL e 5), .box [iA 0, iA 0, .v (.slice none 0 0)], .box (eL e 9), dE (xE ars pc vs bd e k).snd, .row 3 (D.ints ((xE ars pc vs bd e k).fst.fst ++ [i6 (b9 (xE ars pc vs bd e k).fst.fst ars 5 (b5.mk e.kind e.value (xE ars pc vs bd e k).snd)) pc])), .row 106 (.stmts ((xE ars pc vs bd e k).1.2 ++ Z8 ((xE ars pc vs bd e k).1.1.length : Int) e.value (jE ars pc vs bd e k) j))]) (fun j => [(3, .ptr 3 0), (5, .ptr 6 0), (8, .ptr 7 0), (9, .ptr 8 0), (12, iA ((xE ars pc vs bd e k).fst.fst.length : Int)), (13, iA ((j : Int) + 1))]) 0 (by simp [he, h0, h1, h2]) (s0.at G _ _) ?_; clear G; intro j ρ a w hp G; replace G := s0.at G (aE7 e ars pc vs bd k [.row 106 (D.stmts ((xE ars pc vs bd e k).fst.snd ++ Z8 ((xE ars pc vs bd e k).fst.fst.length : Int) e.value (jE ars pc vs bd e k) j))]) (E7 [(12, iA ((xE ars pc vs bd e k).fst.fst.length : Int)), (13, iA ((j : Int) + 1))]); refine wp_seq (wp_seq (l0 G d9 [(79, bA (decide ((j : Int) + 1 < 4)))] fun G => b7 (N4 G (fun h3 q3 => ?_) fun h3 q3 => ?_)))
     · refine wp_exit (o0 (o0 (n5 (b7 (wp_seq (k8 G (s4 1 [] (Q1 (((xE ars pc vs bd e k).fst.fst.length : Int)))) [0, 1, 2, 3, 4, 5, 7, 10, 11, 20] [.box [.ref 7, .ref 2, .v (.slice none 0 0)], .dead, dI ars, .box [.ref 8], .dead, dE e.kids, .box [iA 2, iA ((xE ars pc vs bd e k).fst.fst.length : Int), .ref 9], ba0 e ars pc vs bd k, .row 106 (D.stmts ((xE ars pc vs bd e k).fst.snd ++ Z8 ((xE ars pc vs bd e k).fst.fst.length : Int) e.value (jE ars pc vs bd e k) j)), dE []] [(8, .ptr 6 0)] fun G => b7 (wp_ret ?_))))))); exact W2 (.agg [iA 2, iA ((xE ars pc vs bd e k).fst.fst.length : Int), .ref 9]) G [0, 1, 2, 3, 4, 5, 7, 8, 9] (by have e1 : ((b8 ars pc e (vs, bd)).snd.kind : Int) = (2) := (by rw [aB3 (ars := ars) (pc := pc) (vs := vs) (bd := bd) (e := e) (k := k) he (by omega) (by omega) (by with_reducible assumption)]; rfl); have e2 : ((b8 ars pc e (vs, bd)).snd.value : Int) = (((xE ars pc vs bd e k).fst.fst.length : Int)) := (by rw [aB3 (ars := ars) (pc := pc) (vs := vs) (bd := bd) (e := e) (k := k) he (by omega) (by omega) (by with_reducible assumption)]; rfl); (first | rw [e1, e2] | simp only [e1, e2]) <;> rfl) (by show _ = mR [0, 1, 2, 3, 4, 5, 7, 8, 9] (aw5 e ars pc vs bd); unfold aw5; have e2 : ((b8 ars pc e (vs, bd)).fst.snd : List b6) = ((xE ars pc vs bd e k).fst.snd ++ Z8 ((xE ars pc vs bd e k).fst.fst.length : Int) e.value (jE ars pc vs bd e k) j) := (bu7 (k := k) (show j = 3 by omega) he (by omega) (by omega) (by with_reducible assumption)); rw [e2, aB3 (ars := ars) (pc := pc) (vs := vs) (bd := bd) (e := e) (k := k) he (by omega) (by omega) (by with_reducible assumption)] <;> rfl)
     ·
      refine wp_skip (b7 (wp_seq (wp_block (F7 G (t4 (l8 9 [68] (bG3 (((xE ars pc vs bd e k).snd.getD 0 cb2).kind) (((xE ars pc vs bd e k).snd.getD 0 cb2).value) (((xE ars pc vs bd e k).snd.getD 0 cb2).kids) ((j : Int) + 1)) (l8 13 [] (L2 ((j : Int) + 1)) (l8 14 [116] (am1 e.value 1 ((j : Int) + 1) ([])) (l8 16 [] (Q1 (((xE ars pc vs bd e k).fst.fst.length : Int))) (l8 17 [84, 124, 140] (aL6 9 0 3 e.value 2 (((xE ars pc vs bd e k).fst.fst.length : Int)) ((N9 (ao5 e ars pc vs bd k) ((j : Int) + 1)).kids) ([b5.mk 1 ((j : Int) + 1) []]) ([])) (l8 18 [148] (V4 (((xE ars pc vs bd e k).fst.fst.length : Int)) 11 0 ([b5.mk 9 0 (N9 (ao5 e ars pc vs bd k) ((j : Int) + 1)).kids, b5.mk 3 e.value [b5.mk 1 ((j : Int) + 1) []], b5.mk 2 ((xE ars pc vs bd e k).fst.fst.length : Int) []])) t3)))))) fz []) [0, 1, 3, 0, 0, 16, 48, 112, 0, 496, 0, 1024, 0, 5104, 16368, 0, 65520, 131056, 262136, 7, 0, 2097151, 4194303, 8388607, 4194303, 20971519] [0, 1, 2, 3, 4, 5, 6, 7, 8, 9, 10, 180] (aE7 e ars pc vs bd k [.row 106 (D.stmts (((xE ars pc vs bd e k).fst.snd ++ Z8 ((xE ars pc vs bd e k).fst.fst.length : Int) e.value (jE ars pc vs bd e k) j ++ ([b6.mk 0 0 (b5.mk 0 0 []) (b5.mk 0 0 []) 0 [] []] ++ [])).set ((xE ars pc vs bd e k).fst.snd ++ Z8 ((xE ars pc vs bd e k).fst.fst.length : Int) e.value (jE ars pc vs bd e k) j).length (b6.mk 1 ((xE ars pc vs bd e k).fst.fst.length : Int) (b5.mk 0 0 []) (b5.mk 11 0 [b5.mk 9 0 (N9 (ao5 e ars pc vs bd k) ((j : Int) + 1)).kids, b5.mk 3 e.value [b5.mk 1 ((j : Int) + 1) []], b5.mk 2 ((xE ars pc vs bd e k).fst.fst.length : Int) []]) 0 [] [])))]) (E7 [(12, iA ((xE ars pc vs bd e k).fst.fst.length : Int)), (13, iA ((j : Int) + 1))]) (iX 0 0 ((xE ars pc vs bd e k).snd.length) (aP (((xE ars pc vs bd e k).fst.snd ++ Z8 ((xE ars pc vs bd e k).fst.fst.length : Int) e.value (jE ars pc vs bd e k) j).length + ([b6.mk (0 : Int) (0 : Int) (b5.mk (0 : Int) (0 : Int) []) (b5.mk (0 : Int) (0 : Int) []) (0 : Int) [] []] ++ []).length) 152 (((0 : Int) ≤ (((xE ars pc vs bd e k).fst.snd ++ Z8 ((xE ars pc vs bd e k).fst.fst.length : Int) e.value (jE ars pc vs bd e k) j).length : Int)) :: (((((xE ars pc vs bd e k).fst.snd ++ Z8 ((xE ars pc vs bd e k).fst.fst.length : Int) e.value (jE ars pc vs bd e k) j).length : Int) < (((xE ars pc vs bd e k).fst.snd ++ Z8 ((xE ars pc vs bd e k).fst.fst.length : Int) e.value (jE ars pc vs bd e k) j ++ ([b6.mk (0 : Int) (0 : Int) (b5.mk (0 : Int) (0 : Int) []) (b5.mk (0 : Int) (0 : Int) []) (0 : Int) [] []] ++ [])).length : Int)) :: ((((xE ars pc vs bd e k).fst.snd ++ Z8 ((xE ars pc vs bd e k).fst.fst.length : Int) e.value (jE ars pc vs bd e k) j).length < ((xE ars pc vs bd e k).fst.snd ++ Z8 ((xE ars pc vs bd e k).fst.fst.length : Int) e.value (jE ars pc vs bd e k) j ++ ([b6.mk (0 : Int) (0 : Int) (b5.mk (0 : Int) (0 : Int) []) (b5.mk (0 : Int) (0 : Int) []) (0 : Int) [] []] ++ [])).length) :: []))))) (iK (by have := a09 (pc := pc) (bd := bd) (k := k) he (by omega) (by omega); omega) (aK (by simp only [cb5, cb4, cb6, U7]; omega) ⟨(by simp only [cb5, cb4, cb6, U7]; omega), ⟨(by simp only [cb5, cb4, cb6, U7]; omega), ⟨(by simp [he, h0, h1, h2, h3]), cc1⟩⟩⟩)) fun G => ?_))))
      replace G := G.sE 11; replace G := s0.at G (aE7 e ars pc vs bd k [.row 106 (D.stmts ((xE ars pc vs bd e k).fst.snd ++ Z8 ((xE ars pc vs bd e k).fst.fst.length : Int) e.value (jE ars pc vs bd e k) j ++ [b6.mk 1 ((xE ars pc vs bd e k).fst.fst.length : Int) (b5.mk 0 0 []) (b5.mk 11 0 [b5.mk 9 0 (N9 (ao5 e ars pc vs bd k) ((j : Int) + 1)).kids, b5.mk 3 e.value [b5.mk 1 ((j : Int) + 1) []], b5.mk 2 ((xE ars pc vs bd e k).fst.fst.length : Int) []]) 0 [] []]))]) (E7 [(12, iA ((xE ars pc vs bd e k).fst.fst.length : Int)), (13, iA ((j : Int) + 1))]); refine m6 (b7 (D7 G d9 [(13, iA ((j : Int) + 1 + 1))] [wO ((j : Int) + 1 + 1)] (o1 (by omega)) fun G => b7 ?_)); exact M7 G (j + 1) (by have := a09 (pc := pc) (bd := bd) (k := k) he (by omega) (by omega); omega) (by have := a09 (pc := pc) (bd := bd) (k := k) he (by omega) (by omega); omega) (rg 12) (by have e1 : ((xE ars pc vs bd e k).fst.snd ++ Z8 ((xE ars pc vs bd e k).fst.fst.length : Int) e.value (jE ars pc vs bd e k) (j + 1) : List b6) = ((xE ars pc vs bd e k).fst.snd ++ Z8 ((xE ars pc vs bd e k).fst.fst.length : Int) e.value (jE ars pc vs bd e k) j ++ [b6.mk 1 ((xE ars pc vs bd e k).fst.fst.length : Int) (b5.mk 0 0 []) (b5.mk 11 0 [b5.mk 9 0 (N9 (m8 ((xE ars pc vs bd e k).snd.getD 0 cb2)) ((j : Int) + 1)).kids, b5.mk 3 e.value [b5.mk 1 ((j : Int) + 1) []], b5.mk 2 ((xE ars pc vs bd e k).fst.fst.length : Int) []]) 0 [] []]) := b17; (first | rw [e1] | simp only [e1]) <;> rfl)
    · have q2 : ((d8 (b9 (xE ars pc vs bd e k).fst.fst ars 5 (m8 ((xE ars pc vs bd e k).snd.getD 0 cb2)))) = false) ∨ (¬ (b9 (xE ars pc vs bd e k).fst.fst ars 5 (m8 ((xE ars pc vs bd e k).snd.getD 0 cb2)) % 2 = 1)) := (fun hq => Or.imp (fun hq => (hq)) (fun hq => of_decide_eq_false hq) (cd2.1 hq)) (Eq.mp (cc3 _) h2); refine rT G _ h2 (wp_seq (k8 G d9 (rg 12) (aF7 :: (an9 e ars [.box (eL e 11), .box (eL e 11), .row 3 (D.ints (xE ars pc vs bd e k).fst.fst), .row 106 (D.stmts (xE ars pc vs bd e k).fst.snd), dE (xE ars pc vs bd e k).snd])) ((0, .ptr 0 0) :: (2, iA pc) :: (E7 [])) fun G => b7 (wp_ret (l7 ?_)))); exact W2 (eA e 11) G [0, 1, 2, 3, 4, 5, 9, 10, 11] (by have e1 : ((b8 ars pc e (vs, bd)).snd.kind : Int) = (e.kind) := (by rw [aT7 (ars := ars) (pc := pc) (vs := vs) (bd := bd) (e := e) (k := k) he (by omega) (by omega) (by with_reducible assumption)]; rfl); have e2 : ((b8 ars pc e (vs, bd)).snd.value : Int) = (e.value) := (by rw [aT7 (ars := ars) (pc := pc) (vs := vs) (bd := bd) (e := e) (k := k) he (by omega) (by omega) (by with_reducible assumption)]; rfl); (first | rw [e1, e2] | simp only [e1, e2]) <;> rfl) (by show _ = mR [0, 1, 2, 3, 4, 5, 9, 10, 11] (aw5 e ars pc vs bd); unfold aw5; rw [aT7 (ars := ars) (pc := pc) (vs := vs) (bd := bd) (e := e) (k := k) he (by omega) (by omega) (by with_reducible assumption)] <;> rfl)
   · have q1 := bne_iff_ne.1 h1; refine b18 G (O5 (fc h1 fz) (us [(4, 14, 0), (1015, 1015, 0)])) [0, 1, 3, 7, 15, 31, 63, 127, 15, 271, 783, 1807, 4095, 8191, 16383, 32767] ((0, .ptr 0 0) :: (2, iA pc) :: (E7 [(52, bA true)])) fun G => b7 (rT G true (by kernel_rfl) (wp_seq (k8 G d9 (rg 12) (aF7 :: (an9 e ars [.box (eL e 11), .box (eL e 11), .row 3 (D.ints (xE ars pc vs bd e k).fst.fst), .row 106 (D.stmts (xE ars pc vs bd e k).fst.snd), dE (xE ars pc vs bd e k).snd])) ((0, .ptr 0 0) :: (2, iA pc) :: (E7 [])) fun G => b7 (wp_ret (l7 ?_))))); exact W2 (eA e 11) G [0, 1, 2, 3, 4, 5, 9, 10, 11] (by have e1 : ((b8 ars pc e (vs, bd)).snd.kind : Int) = (e.kind) := (by rw [ak3 (ars := ars) (pc := pc) (vs := vs) (bd := bd) (e := e) (k := k) (by omega) (by omega)]; rfl); have e2 : ((b8 ars pc e (vs, bd)).snd.value : Int) = (e.value) := (by rw [ak3 (ars := ars) (pc := pc) (vs := vs) (bd := bd) (e := e) (k := k) (by omega) (by omega)]; rfl); (first | rw [e1, e2] | simp only [e1, e2]) <;> rfl) (by show _ = mR [0, 1, 2, 3, 4, 5, 9, 10, 11] (aw5 e ars pc vs bd); unfold aw5; rw [ak3 (ars := ars) (pc := pc) (vs := vs) (bd := bd) (e := e) (k := k) (by omega) (by omega)] <;> rfl)
  · refine wp_skip (b7 (wp_seq (wp_block (wp_seq (N5 G d9 [0, 1, 2, 3, 4, 5, 6, 7, 8, 9, 10, 11, 20, 28] (aF7 :: (an9 e ars [ao4, .box (eL e 11), .row 3 (D.ints (xE ars pc vs bd e k).fst.fst), .row 106 (D.stmts (xE ars pc vs bd e k).fst.snd), .row 104 (D.exprs (xE ars pc vs bd e k).snd), dE (e.kids.getD k cb2).kids, .box (eL (e.kids.getD k cb2) 12)])) ((0, .ptr 0 0) :: (2, iA pc) :: (E7 ((11, .ptr 13 0) :: (ag3 e [(22, iA k)])))) (iX k k e.kids.length []) (iK (by omega) cc1) fun G => b7 (F7 G (s4 6 [0, 9, 2, 3, 10, 12] (ih (e.kids.getD k cb2) (ab5 (by omega)) ((xE ars pc vs bd e k).fst.fst) ((xE ars pc vs bd e k).fst.snd) (bu6 he (by omega)) (bQ0 he r1 (by omega)) (bP9 he r2 (by omega)))) [0, 1, 0, 0, 0, 0, 60, 124, 255, 511, 1023] [0, 1, 2, 3, 4, 5, 6, 7, 8, 62, 63, 78] (aF7 :: (an9 e ars [ao4, .box (eL e 11), .row 3 (D.ints (b8 ars pc (e.kids.getD k cb2) (xE ars pc vs bd e k).fst).fst.fst), .row 106 (D.stmts (b8 ars pc (e.kids.getD k cb2) (xE ars pc vs bd e k).fst).fst.snd), .row 104 (D.exprs ((xE ars pc vs bd e k).snd ++ ([m8 (b8 ars pc (e.kids.getD k cb2) (xE ars pc vs bd e k).fst).snd] ++ [])))])) ((0, .ptr 0 0) :: (2, iA pc) :: (E7 (ag3 e [(22, iA k)]))) (aP ((xE ars pc vs bd e k).snd.length + ([m8 (b8 ars pc (e.kids.getD k cb2) (xE ars pc vs bd e k).fst).snd] ++ []).length) 40 []) (aK (by simp only [cb5, cb4, cb6, U7]; omega) cc1) fun G => m6 (b7 (D7 G d9 [(22, iA ((k : Int) + 1))] [wO ((k : Int) + 1)] (o1 (by omega)) fun G => b7 ?_)))))))); exact M7 G (k + 1) (by omega) (by omega) (rg 12) (by have e1 : ((xE ars pc vs bd e (k + 1)).fst.fst : List Int) = ((b8 ars pc (e.kids.getD k cb2) (xE ars pc vs bd e k).fst).fst.fst) := (bP6 (by omega)); have e2 : ((xE ars pc vs bd e (k + 1)).fst.snd : List b6) = ((b8 ars pc (e.kids.getD k cb2) (xE ars pc vs bd e k).fst).fst.snd) := (bP5 (by omega)); have e3 : ((xE ars pc vs bd e (k + 1)).snd : List b5) = ((xE ars pc vs bd e k).snd ++ ([m8 (b8 ars pc (e.kids.getD k cb2) (xE ars pc vs bd e k).fst).snd] ++ [])) := (bP4 (by omega)); (first | rw [e1, e2, e3] | simp only [e1, e2, e3]) <;> rfl)
theorem an5 {nv na d k : Nat} {ss : List b6} (hs : ss.all (f6 nv na (d + 1)) = true) (hk : k < ss.length) : t5 nv na (ss.getD k cb2) = true ∧ (ss.getD k cb2).body.all (f6 nv na d) = true ∧ (ss.getD k cb2).els.all (f6 nv na d) = true := by
 have h := cc2.1 hs _ (cd7 hk)
 rw [C5, cb3, cb3] at h
 rw [m9 hk]; exact h
theorem bl7 (ars : List Int) (pc : Int) : ∀ (d : Nat), d ≤ 5 → ∀ (e : b5) (vs : List Int) (bd : List b6), f5 vs.length ars.length d e = true → vs.length + (1 + v5 e) ≤ 100000 → i5 bd + 40 * (1 + v5 e) ≤ 700000 → i9.ok Tryz.prog (leC ars pc vs bd e)
 | 0, _, _, _, _, h, _, _ => by simp [f5] at h
 | d + 1, hd, e, vs, bd, h, r1, r2 => bx1 e ars pc d hd (fun u _ vs bd h r1 r2 => bl7 ars pc d (by omega) u vs bd h r1 r2) vs bd h r1 r2
theorem a73 (ars : List Int) (pc : Int) (e : b5) (vs : List Int) (bd : List b6) (h : f5 vs.length ars.length 5 e = true) (r1 : vs.length + (1 + v5 e) ≤ 100000) (r2 : i5 bd + 40 * (1 + v5 e) ≤ 700000) : i9.ok Tryz.prog (leC ars pc vs bd e) := bl7 ars pc 5 (cc6 _) e vs bd h r1 r2
theorem bN0 (e : b5) (hb : v5 e ≤ 1048576) : i9.ok Tryz.prog ⟨132, [eA e 0], eS e, eS e ++ [dE e.kids], .agg [iA e.kind, iA e.value, .ref 1]⟩ :=
 i9.datPost (S := eS e) (d := .exprs e.kids) (aZ7 e hb) (.agg [iA e.kind, iA e.value, .ref 1])
theorem b09 {bd : List b6} {v t m : Int} {i : b5} {k : Nat} : bd ++ T3 v t i m (k + 1) = bd ++ T3 v t i m k ++ [⟨2, t, ⟨1, (k : Int), []⟩, ⟨11, 0, [⟨(s5 m (N9 i (k : Int)) (cnE 0)).kind, (s5 m (N9 i (k : Int)) (cnE 0)).value, (s5 m (N9 i (k : Int)) (cnE 0)).kids⟩, ⟨2, v, []⟩, ⟨3, t, [⟨1, (k : Int), []⟩]⟩]⟩, 0, [], []⟩] := by
 rw [b5.eta, T3, List.append_assoc]
theorem b76 {bd : List b6} {v t m : Int} {i : b5} {k : Nat} (hk : k = 4) : bd ++ T3 v t i m 4 = bd ++ T3 v t i m k := by rw [hk]
abbrev b95 (ars vs : List Int) (bd : List b6) (m pc : Int) (t : b6) (e : b5) : i9 := ⟨160, [.agg [.ref 0, .ref 1, nlA, .ref 2], sA t 3, eA e 7, iA m, iA pc], [qI vs, dI ars, qT bd] ++ sS t ++ [dE e.kids], [qI vs, dI ars, .dead] ++ sS t ++ [dE e.kids, qI (vs ++ [i6 (b9 vs ars 5 ⟨e.kind, e.value, e.kids⟩) pc]), qT (bd ++ [K1 (vs.length : Int) ⟨e.kind, e.value, e.kids⟩] ++ T3 (vs.length : Int) t.target ⟨t.index.kind, t.index.value, t.index.kids⟩ m 4)], .agg [.ref 8, .ref 1, nlA, .ref 9]⟩
abbrev aF9 (m : Int) (t : b6) (k : Nat) := s5 m (b5.mk 9 0 (N9 (m8 t.index) (k : Int)).kids) (b5.mk 1 0 [])
abbrev aT3 (vs : List Int) (bd : List b6) (m : Int) (t : b6) (e : b5) (k : Nat) := bd ++ [K1 (vs.length : Int) (m8 e)] ++ T3 (vs.length : Int) t.target (m8 t.index) m k
abbrev ba2 (ars : List Int) (vs : List Int) (pc : Int) (e : b5) := vs ++ [i6 (b9 vs ars 5 (m8 e)) pc]
abbrev ba1 : It := .box [.v (.slice none 0 0), .v (.slice none 0 0), .v (.slice none 0 0), .v (.slice none 0 0)]
abbrev bT0 : It := .box [.ref 11, .ref 1, .v (.slice none 0 0), .ref 12]
abbrev aE8 (ars : List Int) (vs : List Int) (pc : Int) (t : b6) (e : b5) (r0 : List It) : List It := .row 3 (D.ints vs) :: dI ars :: .dead :: dE t.index.kids :: dE t.value.kids :: dT t.body :: dT t.els :: dE e.kids :: bT0 :: .box (sL t 3) :: ba1 :: .row 3 (D.ints (ba2 ars vs pc e)) :: r0
abbrev ao2 (vs : List Int) (m : Int) (r0 : List (Nat × AV)) : List (Nat × AV) := (3, iA m) :: (5, .ptr 8 0) :: (6, .ptr 9 0) :: (10, .ptr 10 0) :: (11, iA (vs.length : Int)) :: r0
abbrev aw2 (t : b6) (e : b5) (r0 : List It) : List It := dE t.index.kids :: dE t.value.kids :: dT t.body :: dT t.els :: dE e.kids :: r0
theorem bs2 (ars vs : List Int) (bd : List b6) (m pc : Int) (t : b6) (e : b5) (he : f5 vs.length ars.length 5 ⟨e.kind, e.value, e.kids⟩ = true) (r1 : vs.length ≤ 100000) (r2 : bd.length ≤ 700000) : i9.ok Tryz.prog (b95 ars vs bd m pc t e) := by
  refine z7 63 Tryz.func160 (.row 3 (D.ints vs) :: dI ars :: .row 106 (D.stmts bd) :: (aw2 t e [])) [(0, .agg [.ref 0, .ref 1, .v (.slice none 0 0), .ref 2]), (1, sA t 3), (2, eA e 7), (3, iA m), (4, iA pc)] fun G => ?_; refine wp_seq (k8 G d9 [0, 1, 2, 3, 4, 5, 6, 7, 8, 16, 24, 32] (.row 3 (D.ints vs) :: dI ars :: .row 106 (D.stmts bd) :: (aw2 t e [.box [.ref 0, .ref 1, .v (.slice none 0 0), .ref 2], .box (sL t 3), .box (eL e 7), ba1])) [(3, iA m), (4, iA pc), (5, .ptr 8 0), (6, .ptr 9 0), (7, .ptr 10 0), (10, .ptr 11 0)] fun G => b7 (wp_seq (l0 G d9 [(11, iA 0)] fun G => b7 (wp_seq (N3 G (t4 (l8 4 [0, 1, 7] (i9.lend (X5 vs ars e.kind e.value e.kids (by assumption)) [.row 3]) (l8 7 [0, 1, 2] (al9 vs ars bd (i6 (b9 vs ars 5 (m8 e)) pc) (by omega)) t3)) fz []) [0, 0, 2, 0, 14, 0, 62, 127, 255, 511, 511, 1023, 4095] [0, 1, 2, 3, 4, 5, 6, 7, 8, 9, 10, 11, 68] (.row 3 (D.ints vs) :: dI ars :: .row 106 (D.stmts bd) :: (aw2 t e [.box [.ref 12, .ref 1, .v (.slice none 0 0), .ref 2], .box (sL t 3), .box (eL e 7), ba1, .row 3 (D.ints (ba2 ars vs pc e))])) [(3, iA m), (5, .ptr 8 0), (6, .ptr 9 0), (7, .ptr 10 0), (10, .ptr 11 0), (11, iA (vs.length : Int))] fun G => b7 (wp_seq (k8 G (s4 3 [12, 1, 2, 7] (Q3 (vs ++ [i6 (b9 vs ars 5 (m8 e)) pc]) ars bd ((vs.length : Int)) e.kind e.value e.kids (by omega))) [0, 1, 2, 3, 4, 5, 6, 7, 8, 9, 11, 12, 37] (aE8 ars vs pc t e [.row 106 (D.stmts (bd ++ [K1 (vs.length : Int) (m8 e)]))]) (ao2 vs m []) fun G => b7 (wp_seq (wp_seq (C9 G d9 (ao2 vs m [(12, iA 0)]) fun G => b7 (wp_block ?_))))))))))); replace G := G.as (.row 3 (D.ints vs) :: dI ars :: .dead :: (aw2 t e [.box [.ref 11, .ref 1, .v (.slice none 0 0), .ref 12], .box (sL t 3), .box [.v (.slice none 0 0), .v (.slice none 0 0), .v (.slice none 0 0), .v (.slice none 0 0)], .row 3 (D.ints (vs ++ [i6 (b9 vs ars 5 (m8 e)) pc])), .row 106 (D.stmts (bd ++ [K1 (vs.length : Int) (m8 e)] ++ T3 (vs.length : Int) t.target (m8 t.index) m 0))])) (ao2 vs m [(12, iA 0)]) (by have e1 : (bd ++ [K1 (vs.length : Int) (m8 e)] ++ T3 (vs.length : Int) t.target (m8 t.index) m 0 : List b6) = (bd ++ [K1 (vs.length : Int) (m8 e)]) := (by simp only [T3, List.append_nil]; done); (first | rw [e1] | simp only [e1]) <;> rfl) (by kernel_rfl); refine o7 (κ := Nat) (fun k => k ≤ 4) (fun k => 4 - k) (fun k => [.row 3 (D.ints vs), dI ars, .dead, dE t.index.kids, dE t.value.kids, dT t.body, dT t.els, dE e.kids, .box [.ref 11, .ref 1, .v (.slice none 0 0), .ref 12], .box (sL t 3), .box [.v (.slice none 0 0), .v (.slice none 0 0), .v (.slice none 0 0), .v (.slice none 0 0)], .row 3 (D.ints (vs ++ [i6 (b9 vs ars 5 (m8 e)) pc])), .row 106 (.stmts (bd ++ [K1 (vs.length : Int) ⟨e.kind, e.value, e.kids⟩] ++ T3 (vs.length : Int) t.target ⟨t.index.kind, t.index.value, t.index.kids⟩ m k))]) (fun k => [(3, iA m), (5, .ptr 8 0), (6, .ptr 9 0), (10, .ptr 10 0), (11, iA (vs.length : Int)), (12, iA k)]) 0 (by simp [he]) (s0.at G _ _) ?_
  clear G; intro k ρ a w hp G; replace G := s0.at G (aE8 ars vs pc t e [.row 106 (D.stmts (aT3 vs bd m t e k))]) (ao2 vs m [(12, iA k)]); refine wp_seq (wp_seq (l0 G d9 [(31, bA (decide ((k : Int) < 4)))] fun G => b7 (N4 G (fun h0 q0 => ?_) fun h0 q0 => ?_)))
  · refine wp_exit (o0 (o0 (n5 (b7 (wp_seq (k8 G d9 [0, 1, 2, 3, 4, 5, 6, 7, 10, 11, 12] (.row 3 (D.ints vs) :: dI ars :: .dead :: (aw2 t e [.box [.ref 9, .ref 1, .v (.slice none 0 0), .ref 10], .row 3 (D.ints (ba2 ars vs pc e)), .row 106 (D.stmts (aT3 vs bd m t e k))])) [(10, .ptr 8 0)] fun G => b7 (wp_ret ?_))))))); exact F6 G [0, 1, 2, 3, 4, 5, 6, 7, 9, 10] (by show _ = mR [0, 1, 2, 3, 4, 5, 6, 7, 9, 10] (.row 3 (D.ints vs) :: dI ars :: .dead :: (aw2 t e [.row 3 (D.ints (vs ++ [i6 (b9 vs ars 5 (m8 e)) pc])), .row 106 (D.stmts (bd ++ [K1 (vs.length : Int) (m8 e)] ++ T3 (vs.length : Int) t.target (m8 t.index) m 4))])); have e1 : (bd ++ [K1 (vs.length : Int) (m8 e)] ++ T3 (vs.length : Int) t.target (m8 t.index) m 4 : List b6) = (bd ++ [K1 (vs.length : Int) (m8 e)] ++ T3 (vs.length : Int) t.target (m8 t.index) m k) := (b76 (show k = 4 by omega)); (first | rw [e1] | simp only [e1]) <;> rfl)
  ·
   refine wp_skip (b7 (wp_seq (wp_block (wp_seq (k8 G (t4 (l8 4 [3] (bn7 t.index.kind t.index.value t.index.kids ((k : Int))) (l8 5 [] (H6 0) (l8 6 [45, 53] (aj5 m 9 0 1 0 ((N9 (m8 t.index) (k : Int)).kids) ([])) t3))) fz []) [0, 1, 2, 3, 4, 5, 6, 7, 8, 9, 10, 11, 12, 61, 69] (aE8 ars vs pc t e [.row 106 (D.stmts (aT3 vs bd m t e k)), dE (aF9 m t k).kids, .box [iA (aF9 m t k).kind, iA (aF9 m t k).value, .ref 13]]) (ao2 vs m [(12, iA k), (13, .ptr 14 0)]) fun G => b7 (wp_seq (N3 G (t4 (l8 2 [] (al8 ((vs.length : Int))) (l8 6 [] (H6 ((k : Int))) (l8 7 [63] (av5 t.target 1 ((k : Int)) ([])) (l8 9 [79] (ab7 11 ([m8 (s5 m (b5.mk 9 0 (N9 (b5.mk t.index.kind t.index.value t.index.kids) (k : Int)).kids) (b5.mk 1 0 []))] ++ ([b5.mk 2 (vs.length : Int) []] ++ ([b5.mk 3 t.target [b5.mk 1 (k : Int) []]] ++ [])))) t3)))) fz []) [0, 0, 2, 0, 8, 0, 38, 126, 255, 511, 0, 2047] [0, 1, 2, 3, 4, 5, 6, 7, 8, 9, 10, 11, 12, 79, 95] (aE8 ars vs pc t e [.row 106 (D.stmts (aT3 vs bd m t e k)), dE ([m8 (aF9 m t k)] ++ ([b5.mk 2 (vs.length : Int) []] ++ ([b5.mk 3 t.target [b5.mk 1 (k : Int) []]] ++ []))), .box [iA 11, iA 0, .ref 13]]) (ao2 vs m [(12, iA k), (14, .ptr 14 0)]) fun G => b7 (F7 G (s4 5 [] (H6 ((k : Int)))) [0, 1, 0, 4, 0, 16, 0, 124, 252, 511, 1023, 2047] [0, 1, 2, 3, 4, 5, 6, 7, 8, 9, 10, 11, 87] (aE8 ars vs pc t e [.row 106 (D.stmts (bd ++ [K1 (vs.length : Int) (m8 e)] ++ T3 (vs.length : Int) t.target (m8 t.index) m k ++ ([b6.mk 2 t.target (b5.mk 1 (k : Int) []) (b5.mk 11 0 ([m8 (aF9 m t k)] ++ ([b5.mk 2 (vs.length : Int) []] ++ ([b5.mk 3 t.target [b5.mk 1 (k : Int) []]] ++ [])))) 0 [] []] ++ [])))]) (ao2 vs m [(12, iA k)]) (aP ((bd ++ [K1 (vs.length : Int) (m8 e)] ++ T3 (vs.length : Int) t.target (m8 t.index) m k).length + ([b6.mk (2 : Int) t.target (b5.mk (1 : Int) (k : Int) []) (b5.mk (11 : Int) (0 : Int) ([m8 (s5 m (b5.mk (9 : Int) (0 : Int) (N9 (b5.mk t.index.kind t.index.value t.index.kids) (k : Int)).kids) (b5.mk (1 : Int) (0 : Int) []))] ++ ([b5.mk (2 : Int) (vs.length : Int) []] ++ ([b5.mk (3 : Int) t.target [b5.mk (1 : Int) (k : Int) []]] ++ [])))) (0 : Int) [] []] ++ []).length) 152 []) (aK (by simp only [cb5, cb4, cb6, x6]; omega) cc1) fun G => ?_))))))))
   refine m6 (b7 (D7 G d9 [(12, iA ((k : Int) + 1))] [wO ((k : Int) + 1)] (o1 (by omega)) fun G => b7 ?_)); exact M7 G (k + 1) (by omega) (by omega) (rg 13) (by have e1 : (bd ++ [K1 (vs.length : Int) (m8 e)] ++ T3 (vs.length : Int) t.target (m8 t.index) m (k + 1) : List b6) = (bd ++ [K1 (vs.length : Int) (m8 e)] ++ T3 (vs.length : Int) t.target (m8 t.index) m k ++ ([b6.mk 2 t.target (b5.mk 1 (k : Int) []) (b5.mk 11 0 ([m8 (s5 m (b5.mk 9 0 (N9 (b5.mk t.index.kind t.index.value t.index.kids) (k : Int)).kids) (b5.mk 1 0 []))] ++ ([b5.mk 2 (vs.length : Int) []] ++ ([b5.mk 3 t.target [b5.mk 1 (k : Int) []]] ++ [])))) 0 [] []] ++ [])) := b09; (first | rw [e1] | simp only [e1]) <;> rfl)
abbrev lbC (ars : List Int) (m pc : Int) (vs : List Int) (bd : List b6) (ss : List b6) : i9 := ⟨79, [.agg [.ref 0, .ref 1, nlA, .ref 3], .ref 2, iA m, iA pc], [qI vs, dI ars, dT ss, qT bd], [.dead, dI ars, dT ss, .dead, qI (k6 ars ss m pc (vs, bd)).1, qT (k6 ars ss m pc (vs, bd)).2], .agg [.ref 4, .ref 1, nlA, .ref 5]⟩
abbrev lnC (ars : List Int) (m pc : Int) (vs : List Int) (ss : List b6) : i9 := ⟨79, [.agg [.ref 0, .ref 1, nlA, nlA], .ref 2, iA m, iA pc], [qI vs, dI ars, dT ss], [.dead, dI ars, dT ss, qI (k6 ars ss m pc (vs, [])).1, qT (k6 ars ss m pc (vs, [])).2], .agg [.ref 3, .ref 1, nlA, .ref 4]⟩
abbrev bK8 (ars : List Int) (m pc : Int) (vs : List Int) (bd : List b6) (ss : List b6) : i9 := ⟨153, [.agg [.ref 0, .ref 1, nlA, .ref 2], .ref 3, iA m, iA pc], [qI vs, dI ars, qT bd, dT ss], [.dead, dI ars, qT bd, dT ss, qI (k6 ars ss m pc (vs, [])).1, dT (k6 ars ss m pc (vs, [])).2], .tup [.agg [.ref 4, .ref 1, nlA, .ref 2], .ref 5]⟩
theorem bp3 (ars : List Int) (m pc : Int) (vs : List Int) (bd : List b6) (ss : List b6) (hB : i9.ok Tryz.prog (lnC ars m pc vs ss)) : i9.ok Tryz.prog (bK8 ars m pc vs bd ss) := by
 refine z7 25 Tryz.func153 [.row 3 (D.ints vs), dI ars, .row 106 (D.stmts bd), dT ss] [(0, .agg [.ref 0, .ref 1, .v (.slice none 0 0), .ref 2]), (1, .ref 3), (2, iA m), (3, iA pc)] fun G => ?_; refine wp_seq (k8 G d9 [0, 1, 2, 3, 4, 12] [.row 3 (D.ints vs), dI ars, .row 106 (D.stmts bd), dT ss, .box [.ref 0, .ref 1, .v (.slice none 0 0), .ref 2], .box [.v (.slice none 0 0), .v (.slice none 0 0), .v (.slice none 0 0), .v (.slice none 0 0)]] [(1, .ref 3), (2, iA m), (3, iA pc), (4, .ptr 4 0), (8, .ptr 5 0), (9, .v (.slice none 0 0))] fun G => b7 (wp_seq (k8 G (s4 6 [0, 1, 3] hB) [0, 1, 2, 3, 4, 5, 54, 55, 62] [.dead, dI ars, .row 106 (D.stmts bd), dT ss, .box [.ref 0, .ref 1, .v (.slice none 0 0), .ref 2], .box [.v (.slice none 0 0), .v (.slice none 0 0), .v (.slice none 0 0), .v (.slice none 0 0)], .row 3 (D.ints (k6 ars ss m pc (vs, [])).fst), .row 106 (D.stmts (k6 ars ss m pc (vs, [])).snd), .box [.ref 6, .ref 1, .v (.slice none 0 0), .ref 7]] [(4, .ptr 4 0), (8, .ptr 5 0), (9, .v (.slice none 0 0)), (10, .ptr 8 0)] fun G => b7 (wp_seq (N3 G d9 [0, 1, 0, 4, 15, 0, 32, 31, 255] [0, 1, 2, 3, 5, 6, 7] [.dead, dI ars, .row 106 (D.stmts bd), dT ss, .box [.ref 5, .ref 1, .v (.slice none 0 0), .ref 2], .row 3 (D.ints (k6 ars ss m pc (vs, [])).fst), .row 106 (D.stmts (k6 ars ss m pc (vs, [])).snd)] [(8, .ptr 4 0), (9, .ref 6)] fun G => b7 (wp_ret ?_)))))); obtain ⟨ρ, G⟩ := G.frz [.no, .no, .no, .no, .no, .no, .row 106] [.dead, dI ars, .row 106 (D.stmts bd), dT ss, .box [.ref 5, .ref 1, .v (.slice none 0 0), .ref 2], .row 3 (D.ints (k6 ars ss m pc (vs, [])).fst), dT (k6 ars ss m pc (vs, [])).snd] [(8, .ptr 4 0), (9, .ref 6)]; exact F6 G [0, 1, 2, 3, 5, 6]
abbrev b31 (ars : List Int) (m pc : Int) (vs : List Int) (bd : List b6) (t : b6) : i9 := ⟨152, [.agg [.ref 0, .ref 1, nlA, .ref 2], sA t 3, iA m, iA pc], [qI vs, dI ars, qT bd] ++ sS t, [.dead, dI ars, .dead] ++ sS t ++ [qI (r7 ars t m pc (vs, bd)).1, qT (r7 ars t m pc (vs, bd)).2], .agg [.ref 7, .ref 1, nlA, .ref 8]⟩
theorem b23 (x y : Int) : i6 x y = i6 y x := by simp only [aW7]; rw [BitVec.or_comm]
section
variable {ars vs : List Int} {bd : List b6} {m pc : Int} {t : b6} {nv dd : Nat}
theorem bD3 (hh : t5 nv ars.length t = true) (k3 : t.kind = 3) (hv : nv ≤ vs.length) : f5 vs.length ars.length 5 t.value = true := w8 hv 5 _ (n7 hh (by omega))
theorem b99 (hh : t5 nv ars.length t = true) (k3 : t.kind = 3) (hv : nv ≤ vs.length) : Grw vs.length ars.length 5 (1 + v5 t.value) (vs, bd) (b8 ars pc t.value (vs, bd)).1 := (Y8 ars pc ars.length 5 t.value (vs, bd) (bD3 hh k3 hv)).1
theorem bL7 (hh : t5 nv ars.length t = true) (k3 : t.kind = 3) (hv : nv ≤ vs.length) (r1 : vs.length + 4 * (1 + D9 t) ≤ 90000) (r2 : i5 bd + 130 * (1 + D9 t) ≤ 600000) : (b8 ars pc t.value (vs, bd)).1.1.length + 3 * (1 + v5 t.value) + 4 * i5 t.body + 4 * i5 t.els ≤ 90000 ∧ nv ≤ (b8 ars pc t.value (vs, bd)).1.1.length ∧ i5 (b8 ars pc t.value (vs, bd)).1.2 + 60 * (1 + v5 t.value) + 130 * i5 t.body + 130 * i5 t.els ≤ 600000 ∧ (b8 ars pc t.value (vs, bd)).1.2.length ≤ 600000 := by
 have g := b99 (pc := pc) (bd := bd) hh k3 hv
 have a := g.lo; have b := g.hi; have c := g.st
 have hsz : D9 t = v5 t.index + v5 t.value + i5 t.body + i5 t.els := by cases t; rfl
 have := C2 (b8 ars pc t.value (vs, bd)).1.2
 simp only at a b c
 omega
end
abbrev y8 (e : b5) : b5 := ⟨e.kind, e.value, e.kids⟩
abbrev ifN (x : Q9 × b5) (m l : Int) : Q9 := (x.1.1 ++ [l] ++ [l], x.1.2 ++ [K1 (x.1.1.length : Int) (y8 (s5 m (y8 x.2) ⟨1, 0, []⟩))] ++ [K1 ((x.1.1 ++ [l]).length : Int) (y8 (s5 m ⟨9, 0, [⟨2, (x.1.1.length : Int), []⟩] ++ ([⟨1, 0, []⟩] ++ [])⟩ ⟨1, 0, []⟩))])
theorem bD4 (x : Q9 × b5) (m l : Int) : ifN x m l = ifM x m l := by
 unfold ifN ifM y8
 simp only [b5.eta]
 rfl
theorem bW7 (x : Q9 × b5) (m l : Int) : i5 (ifM x m l).2 ≤ i5 x.1.2 + 20 + v5 x.2 ∧ (ifM x m l).1.length = x.1.1.length + 2 := by
 have m1 := ad4 m x.2 (cnE 0)
 have m2 := ad4 m ⟨9, 0, [vrE (x.1.1.length : Int), cnE 0]⟩ (cnE 0)
 have m3 : v5 ⟨9, 0, [vrE (x.1.1.length : Int), cnE 0]⟩ = 2 := rfl
 have e0 : v5 nnE = 0 := rfl
 have e1 : v5 (cnE 0) = 0 := rfl
 constructor
 ·simp only [ifM, x3, i5, D9, e0]; omega
 ·simp [ifM]
section
variable {ars vs : List Int} {bd : List b6} {m pc l : Int} {t : b6} {nv dd : Nat}
theorem b45 (hh : t5 nv ars.length t = true) (k3 : t.kind = 3) (hv : nv ≤ vs.length) (r1 : vs.length + 4 * (1 + D9 t) ≤ 90000) (r2 : i5 bd + 130 * (1 + D9 t) ≤ 600000) :
  nv ≤ (ifN (b8 ars pc t.value (vs, bd)) m l).1.length ∧ (ifN (b8 ars pc t.value (vs, bd)) m l).1.length + 4 * i5 t.body + 4 * i5 t.els ≤ 90000 ∧ i5 (ifN (b8 ars pc t.value (vs, bd)) m l).2 + 130 * i5 t.body + 130 * i5 t.els ≤ 600000 := by
 have hb := bL7 (pc := pc) (bd := bd) hh k3 hv r1 r2
 have hz := bW7 (b8 ars pc t.value (vs, bd)) m l
 have h3 := (Y8 ars pc ars.length 5 t.value (vs, bd) (bD3 hh k3 hv)).2.2
 rw [bD4]
 omega
theorem b44 (hh : t5 nv ars.length t = true) (k3 : t.kind = 3) (hv : nv ≤ vs.length) (r1 : vs.length + 4 * (1 + D9 t) ≤ 90000) (r2 : i5 bd + 130 * (1 + D9 t) ≤ 600000) : i5 (ifN (b8 ars pc t.value (vs, bd)) m l).2 + 130 * i5 t.body ≤ 600000 := by have := (b45 (m := m) (l := l) (pc := pc) hh k3 hv r1 r2).2.2; omega
theorem bW4 {u : Int} (hbb : t.body.all (f6 nv ars.length dd) = true) (hh : t5 nv ars.length t = true) (k3 : t.kind = 3) (hv : nv ≤ vs.length) (r1 : vs.length + 4 * (1 + D9 t) ≤ 90000) (r2 : i5 bd + 130 * (1 + D9 t) ≤ 600000) :
  nv ≤ (k6 ars t.body u l (ifN (b8 ars pc t.value (vs, bd)) m l)).1.length ∧ (k6 ars t.body u l (ifN (b8 ars pc t.value (vs, bd)) m l)).1.length + 4 * i5 t.els ≤ 90000 ∧ i5 (k6 ars t.body u l (ifN (b8 ars pc t.value (vs, bd)) m l)).2 + 130 * i5 t.els ≤ 600000 := by
 have h := b45 (m := m) (l := l) (pc := pc) hh k3 hv r1 r2
 have g := ax7 ars t.body u l (ifN (b8 ars pc t.value (vs, bd)) m l) hbb h.1
 have a := g.lo; have b := g.hi; have c := g.st
 omega
theorem b46 (hbb : t.body.all (f6 nv ars.length dd) = true) (hh : t5 nv ars.length t = true) (k3 : t.kind = 3) (hv : nv ≤ vs.length) (r1 : vs.length + 4 * (1 + D9 t) ≤ 90000) (r2 : i5 bd + 130 * (1 + D9 t) ≤ 600000) :
  nv ≤ (k6 ars t.body m l ((b8 ars pc t.value (vs, bd)).1.1, [])).1.length ∧ (k6 ars t.body m l ((b8 ars pc t.value (vs, bd)).1.1, [])).1.length + 4 * i5 t.els ≤ 90000 := by
 have hb := bL7 (pc := pc) (bd := bd) hh k3 hv r1 r2
 have g := ax7 ars t.body m l ((b8 ars pc t.value (vs, bd)).1.1, []) hbb hb.2.1
 have a := g.lo; have b := g.hi
 simp only at a b
 omega
abbrev lbV (ars vs : List Int) (pc : Int) (t : b6) : Int := i6 pc (b9 vs ars 5 (y8 t.value))
theorem bW5 (k3 : t.kind = 3) (h : (!(d8 (b9 vs ars 5 (y8 t.value)) && decide (b9 vs ars 5 (y8 t.value) % 2 = 1))) = false) : r7 ars t m pc (vs, bd) = k6 ars t.els (((b8 ars pc t.value (vs, bd)).1.1 ++ [lbV ars vs pc t]).length : Int) (lbV ars vs pc t) (k6 ars t.body ((b8 ars pc t.value (vs, bd)).1.1.length : Int) (lbV ars vs pc t) (ifN (b8 ars pc t.value (vs, bd)) m (lbV ars vs pc t))) := by
 rw [cc4] at h
 rw [bD4]
 unfold lbV
 rw [show y8 t.value = t.value from b5.eta _] at h ⊢
 exact bB0 k3 h
theorem bW6 (k3 : t.kind = 3) (h : (!(d8 (b9 vs ars 5 (y8 t.value)) && decide (b9 vs ars 5 (y8 t.value) % 2 = 1))) = true) : r7 ars t m pc (vs, bd) = ((k6 ars t.els m (lbV ars vs pc t) ((k6 ars t.body m (lbV ars vs pc t) ((b8 ars pc t.value (vs, bd)).1.1, [])).1, [])).1,
  (b8 ars pc t.value (vs, bd)).1.2 ++ [⟨3, 0, ⟨0, 0, []⟩, y8 (b8 ars pc t.value (vs, bd)).2, 0, (k6 ars t.body m (lbV ars vs pc t) ((b8 ars pc t.value (vs, bd)).1.1, [])).2, (k6 ars t.els m (lbV ars vs pc t) ((k6 ars t.body m (lbV ars vs pc t) ((b8 ars pc t.value (vs, bd)).1.1, [])).1, [])).2⟩]) := by
 rw [cc3] at h
 rw [show y8 (b8 ars pc t.value (vs, bd)).2 = (b8 ars pc t.value (vs, bd)).2 from b5.eta _]
 unfold lbV
 rw [show y8 t.value = t.value from b5.eta _] at h ⊢
 exact bB1 k3 h
theorem bS2 (k3 : t.kind = 3) (h : (!(d8 (b9 vs ars 5 (y8 t.value)) && decide (b9 vs ars 5 (y8 t.value) % 2 = 1))) = true) : (r7 ars t m pc (vs, bd)).1 = (k6 ars t.els m (lbV ars vs pc t) ((k6 ars t.body m (lbV ars vs pc t) ((b8 ars pc t.value (vs, bd)).1.1, [])).1, [])).1 := by rw [bW6 k3 h]
theorem b47 (k3 : t.kind = 3) (h : (!(d8 (b9 vs ars 5 (y8 t.value)) && decide (b9 vs ars 5 (y8 t.value) % 2 = 1))) = false) : (r7 ars t m pc (vs, bd)).1 = (k6 ars t.els (((b8 ars pc t.value (vs, bd)).1.1 ++ [lbV ars vs pc t]).length : Int) (lbV ars vs pc t) (k6 ars t.body ((b8 ars pc t.value (vs, bd)).1.1.length : Int) (lbV ars vs pc t) (ifN (b8 ars pc t.value (vs, bd)) m (lbV ars vs pc t)))).1 := by rw [bW5 k3 h]
end
abbrev aF8 (ars : List Int) (t : b6) (m : Int) (pc : Int) (vs : List Int) (bd : List b6) := k6 ars t.body ((b8 ars pc t.value (vs, bd)).fst.fst.length : Int) (i6 pc (b9 vs ars 5 (m8 t.value))) ((b8 ars pc t.value (vs, bd)).fst.fst ++ [i6 pc (b9 vs ars 5 (m8 t.value))] ++ [i6 pc (b9 vs ars 5 (m8 t.value))], (b8 ars pc t.value (vs, bd)).fst.snd ++ [K1 ((b8 ars pc t.value (vs, bd)).fst.fst.length : Int) (m8 (s5 m (b5.mk (b8 ars pc t.value (vs, bd)).snd.kind (b8 ars pc t.value (vs, bd)).snd.value (b8 ars pc t.value (vs, bd)).snd.kids) (b5.mk 1 0 [])))] ++ [K1 (((b8 ars pc t.value (vs, bd)).fst.fst ++ [i6 pc (b9 vs ars 5 (m8 t.value))]).length : Int) (m8 (s5 m (b5.mk 9 0 ([b5.mk 2 ((b8 ars pc t.value (vs, bd)).fst.fst.length : Int) []] ++ ([b5.mk 1 0 []] ++ []))) (b5.mk 1 0 [])))])
abbrev D8 (ars : List Int) (t : b6) (vs : List Int) := b9 vs ars 5 (m8 t.value)
abbrev aT1 (ars : List Int) (t : b6) (pc : Int) (vs : List Int) (bd : List b6) := m8 (b8 ars pc t.value (vs, bd)).snd
abbrev ao7 (ars : List Int) (t : b6) (m : Int) (pc : Int) (vs : List Int) (bd : List b6) := k6 ars t.body m (i6 pc (D8 ars t vs)) ((b8 ars pc t.value (vs, bd)).fst.fst, [])
abbrev ao6 (ars : List Int) (t : b6) (m : Int) (pc : Int) (vs : List Int) (bd : List b6) := k6 ars t.els m (i6 pc (D8 ars t vs)) ((ao7 ars t m pc vs bd).fst, [])
abbrev aT2 (ars : List Int) (t : b6) (m : Int) (pc : Int) (vs : List Int) (bd : List b6) := m8 (s5 m (aT1 ars t pc vs bd) (b5.mk 1 0 []))
abbrev Q5 : It := .box [.v (.slice none 0 0), .v (.slice none 0 0), .v (.slice none 0 0), .v (.slice none 0 0)]
abbrev P1 (ars : List Int) (t : b6) (r0 : List It) : List It := .dead :: dI ars :: .dead :: dE t.index.kids :: dE t.value.kids :: dT t.body :: dT t.els :: r0
abbrev R7 (ars : List Int) (t : b6) (pc : Int) (vs : List Int) (r0 : List (Nat × AV)) : List (Nat × AV) := (3, iA pc) :: (4, .ptr 7 0) :: (5, .ptr 8 0) :: (8, .ptr 9 0) :: (9, iA (D8 ars t vs)) :: r0
abbrev a95 (ars : List Int) (t : b6) (pc : Int) (vs : List Int) (bd : List b6) (r0 : List It) : List It := .box (sL t 3) :: Q5 :: .box [iA (b8 ars pc t.value (vs, bd)).snd.kind, iA (b8 ars pc t.value (vs, bd)).snd.value, .ref 12] :: .row 106 (D.stmts (b8 ars pc t.value (vs, bd)).fst.snd) :: dE (b8 ars pc t.value (vs, bd)).snd.kids :: r0
theorem bU2 (ars : List Int) (nv dd : Nat) (t : b6) (k3 : t.kind = 3) (hh : t5 nv ars.length t = true) (hbb : t.body.all (f6 nv ars.length dd) = true) (hbe : t.els.all (f6 nv ars.length dd) = true)
    (hB : ∀ (tt : List b6) (m pc : Int) (vs : List Int) (bd : List b6), tt.all (f6 nv ars.length dd) = true → nv ≤ vs.length → vs.length + 4 * i5 tt ≤ 90000 → i5 bd + 130 * i5 tt ≤ 600000 → i9.ok Tryz.prog (lbC ars m pc vs bd tt))
    (hI : ∀ (tt : List b6) (m pc : Int) (vs : List Int) (bd : List b6), tt.all (f6 nv ars.length dd) = true → nv ≤ vs.length → vs.length + 4 * i5 tt ≤ 90000 → 130 * i5 tt ≤ 600000 → i9.ok Tryz.prog (bK8 ars m pc vs bd tt))
    (m pc : Int) (vs : List Int) (bd : List b6) (hv : nv ≤ vs.length) (r1 : vs.length + 4 * (1 + D9 t) ≤ 90000) (r2 : i5 bd + 130 * (1 + D9 t) ≤ 600000) : i9.ok Tryz.prog (b31 ars m pc vs bd t) := by
  refine z7 116 Tryz.func152 [.row 3 (D.ints vs), dI ars, .row 106 (D.stmts bd), dE t.index.kids, dE t.value.kids, dT t.body, dT t.els] [(0, .agg [.ref 0, .ref 1, .v (.slice none 0 0), .ref 2]), (1, sA t 3), (2, iA m), (3, iA pc)] fun G => ?_
  have hsz : D9 t = v5 t.index + v5 t.value + i5 t.body + i5 t.els := by cases t; rfl
  have hsh := bD3 (vs := vs) hh k3 hv; have hbd := bL7 (pc := pc) (bd := bd) hh k3 hv r1 r2; refine wp_seq (k8 G d9 [0, 1, 2, 3, 4, 5, 6, 7, 15, 23] [.row 3 (D.ints vs), dI ars, .row 106 (D.stmts bd), dE t.index.kids, dE t.value.kids, dT t.body, dT t.els, .box [.ref 0, .ref 1, .v (.slice none 0 0), .ref 2], .box (sL t 3), Q5] [(2, iA m), (3, iA pc), (4, .ptr 7 0), (5, .ptr 8 0), (8, .ptr 9 0)] fun G => b7 (wp_seq (l0 G (s4 4 [0, 1, 4] (i9.lend (X5 vs ars t.value.kind t.value.value t.value.kids (by assumption)) [.row 3])) [(9, iA (D8 ars t vs))] fun G => b7 (wp_seq (k8 G d9 [0, 1, 2, 3, 4, 5, 6, 7, 8, 9, 18] [.row 3 (D.ints vs), dI ars, .row 106 (D.stmts bd), dE t.index.kids, dE t.value.kids, dT t.body, dT t.els, .box [.ref 0, .ref 1, .v (.slice none 0 0), .ref 2], .box (sL t 3), Q5, .box [iA 0, iA 0, .v (.slice none 0 0)]] ((2, iA m) :: (R7 ars t pc vs [(10, .ptr 10 0)])) fun G => b7 (wp_seq (k8 G (s4 4 [0, 1, 2, 4] (a73 ars pc t.value vs bd (by assumption) (by omega) (by omega))) [0, 1, 2, 3, 4, 5, 6, 7, 8, 9, 10, 43, 44, 45] (P1 ars t [.box [.ref 11, .ref 1, .v (.slice none 0 0), .ref 12], .box (sL t 3), Q5, .box [iA (b8 ars pc t.value (vs, bd)).snd.kind, iA (b8 ars pc t.value (vs, bd)).snd.value, .ref 13], .row 3 (D.ints (b8 ars pc t.value (vs, bd)).fst.fst), .row 106 (D.stmts (b8 ars pc t.value (vs, bd)).fst.snd), dE (b8 ars pc t.value (vs, bd)).snd.kids]) ((2, iA m) :: (R7 ars t pc vs [(10, .ptr 10 0)])) fun G => b7 (wp_seq (wp_seq (l0 G (s4 1 [] (H7 (b9 vs ars 5 (m8 t.value)))) [(31, .v (.bool !(d8 (D8 ars t vs) && decide (b9 vs ars 5 (m8 t.value) % 2 = 1))))] fun G => b7 ?_)))))))))); cases h0 : (!(d8 (b9 vs ars (5 : Nat) (m8 t.value)) && decide (b9 vs ars (5 : Nat) (m8 t.value) % (2 : Int) = 1)))
  ·
   have q0 : ((d8 (b9 vs ars 5 (m8 t.value))) = true) ∧ (b9 vs ars 5 (m8 t.value) % 2 = 1) := (fun hq => And.imp (fun hq => (hq)) (fun hq => of_decide_eq_true hq) (cd5.1 hq)) (Eq.mp (cc4 _) h0); refine rF G _ h0 (wp_skip (b7 (wp_seq (l0 G d9 [(13, iA 0), (14, iA 0)] fun G => b7 (wp_seq (k8 G (s4 4 [11, 1, 12] (al9 ((b8 ars pc t.value (vs, bd)).fst.fst) ars ((b8 ars pc t.value (vs, bd)).fst.snd) (i6 pc (b9 vs ars 5 (m8 t.value))) (by omega))) [0, 1, 2, 3, 4, 5, 6, 7, 8, 9, 10, 12, 13, 46] (P1 ars t (.box [.ref 13, .ref 1, .v (.slice none 0 0), .ref 11] :: (a95 ars t pc vs bd [.row 3 (D.ints ((b8 ars pc t.value (vs, bd)).fst.fst ++ [i6 pc (D8 ars t vs)]))]))) ((2, iA m) :: (R7 ars t pc vs [(10, .ptr 10 0), (13, iA ((b8 ars pc t.value (vs, bd)).fst.fst.length : Int)), (14, iA 0)])) fun G => b7 (wp_seq (N3 G (t4 (l8 4 [] (H6 0) (l8 5 [12, 46] (aj5 m ((b8 ars pc t.value (vs, bd)).snd.kind) ((b8 ars pc t.value (vs, bd)).snd.value) 1 0 ((b8 ars pc t.value (vs, bd)).snd.kids) ([])) (l8 6 [13, 1, 11, 54] (Q3 ((b8 ars pc t.value (vs, bd)).fst.fst ++ [i6 pc (b9 vs ars 5 (m8 t.value))]) ars ((b8 ars pc t.value (vs, bd)).fst.snd) (((b8 ars pc t.value (vs, bd)).fst.fst.length : Int)) ((s5 m (m8 (b8 ars pc t.value (vs, bd)).snd) (b5.mk 1 0 [])).kind) ((s5 m (m8 (b8 ars pc t.value (vs, bd)).snd) (b5.mk 1 0 [])).value) ((s5 m (m8 (b8 ars pc t.value (vs, bd)).snd) (b5.mk 1 0 [])).kids) (by omega)) t3))) fz []) [0, 0, 0, 0, 0, 28, 63, 127] [0, 1, 2, 3, 4, 5, 6, 7, 8, 9, 13, 62] (P1 ars t [.box [.ref 10, .ref 1, .v (.slice none 0 0), .ref 11], .box (sL t 3), Q5, .row 3 (D.ints ((b8 ars pc t.value (vs, bd)).fst.fst ++ [i6 pc (D8 ars t vs)])), .row 106 (D.stmts ((b8 ars pc t.value (vs, bd)).fst.snd ++ [K1 ((b8 ars pc t.value (vs, bd)).fst.fst.length : Int) (aT2 ars t m pc vs bd)]))]) ((2, iA m) :: (R7 ars t pc vs [(13, iA ((b8 ars pc t.value (vs, bd)).fst.fst.length : Int)), (14, iA 0)])) fun G => b7 (wp_seq (k8 G (s4 4 [10, 1, 11] (al9 ((b8 ars pc t.value (vs, bd)).fst.fst ++ [i6 pc (b9 vs ars 5 (m8 t.value))]) ars ((b8 ars pc t.value (vs, bd)).fst.snd ++ [K1 ((b8 ars pc t.value (vs, bd)).fst.fst.length : Int) (m8 (s5 m (b5.mk (b8 ars pc t.value (vs, bd)).snd.kind (b8 ars pc t.value (vs, bd)).snd.value (b8 ars pc t.value (vs, bd)).snd.kids) (b5.mk 1 0 [])))]) (i6 pc (b9 vs ars 5 (m8 t.value))) (by simp only [cb5, cb4, cb6]; omega))) [0, 1, 2, 3, 4, 5, 6, 7, 8, 9, 11, 44] (P1 ars t [.box [.ref 11, .ref 1, .v (.slice none 0 0), .ref 10], .box (sL t 3), Q5, .row 106 (D.stmts ((b8 ars pc t.value (vs, bd)).fst.snd ++ [K1 ((b8 ars pc t.value (vs, bd)).fst.fst.length : Int) (aT2 ars t m pc vs bd)])), .row 3 (D.ints ((b8 ars pc t.value (vs, bd)).fst.fst ++ [i6 pc (D8 ars t vs)] ++ [i6 pc (D8 ars t vs)]))]) ((2, iA m) :: (R7 ars t pc vs [(13, iA ((b8 ars pc t.value (vs, bd)).fst.fst.length : Int)), (14, iA (((b8 ars pc t.value (vs, bd)).fst.fst ++ [i6 pc (D8 ars t vs)]).length : Int))])) fun G => ?_))))))))))
   refine b7 (wp_seq (N3 G (t4 (l8 4 [] (al8 (((b8 ars pc t.value (vs, bd)).fst.fst.length : Int))) (l8 5 [] (H6 0) (l8 7 [60] (ab7 9 ([b5.mk 2 ((b8 ars pc t.value (vs, bd)).fst.fst.length : Int) []] ++ ([b5.mk 1 0 []] ++ []))) (l8 8 [] (H6 0) (l8 9 [60, 76] (aj5 m 9 0 1 0 ([b5.mk 2 ((b8 ars pc t.value (vs, bd)).fst.fst.length : Int) []] ++ ([b5.mk 1 0 []] ++ [])) ([])) (l8 10 [11, 1, 10, 84] (Q3 ((b8 ars pc t.value (vs, bd)).fst.fst ++ [i6 pc (b9 vs ars 5 (m8 t.value))] ++ [i6 pc (b9 vs ars 5 (m8 t.value))]) ars ((b8 ars pc t.value (vs, bd)).fst.snd ++ [K1 ((b8 ars pc t.value (vs, bd)).fst.fst.length : Int) (m8 (s5 m (b5.mk (b8 ars pc t.value (vs, bd)).snd.kind (b8 ars pc t.value (vs, bd)).snd.value (b8 ars pc t.value (vs, bd)).snd.kids) (b5.mk 1 0 [])))]) ((((b8 ars pc t.value (vs, bd)).fst.fst ++ [i6 pc (b9 vs ars 5 (m8 t.value))]).length : Int)) ((s5 m (b5.mk 9 0 ([b5.mk 2 ((b8 ars pc t.value (vs, bd)).fst.fst.length : Int) []] ++ ([b5.mk 1 0 []] ++ []))) (b5.mk 1 0 [])).kind) ((s5 m (b5.mk 9 0 ([b5.mk 2 ((b8 ars pc t.value (vs, bd)).fst.fst.length : Int) []] ++ ([b5.mk 1 0 []] ++ []))) (b5.mk 1 0 [])).value) ((s5 m (b5.mk 9 0 ([b5.mk 2 ((b8 ars pc t.value (vs, bd)).fst.fst.length : Int) []] ++ ([b5.mk 1 0 []] ++ []))) (b5.mk 1 0 [])).kids) (by simp only [cb5, cb4, cb6]; omega)) t3)))))) fz []) [0, 0, 0, 0, 8, 24, 56, 120, 248, 508, 1023, 2047] [0, 1, 2, 3, 4, 5, 6, 7, 8, 9, 11, 92] (P1 ars t [.box [.ref 10, .ref 1, .v (.slice none 0 0), .ref 11], .box (sL t 3), Q5, .row 3 (D.ints ((b8 ars pc t.value (vs, bd)).fst.fst ++ [i6 pc (D8 ars t vs)] ++ [i6 pc (D8 ars t vs)])), .row 106 (D.stmts ((b8 ars pc t.value (vs, bd)).fst.snd ++ [K1 ((b8 ars pc t.value (vs, bd)).fst.fst.length : Int) (aT2 ars t m pc vs bd)] ++ [K1 (((b8 ars pc t.value (vs, bd)).fst.fst ++ [i6 pc (D8 ars t vs)]).length : Int) (m8 (s5 m (b5.mk 9 0 ([b5.mk 2 ((b8 ars pc t.value (vs, bd)).fst.fst.length : Int) []] ++ ([b5.mk 1 0 []] ++ []))) (b5.mk 1 0 [])))]))]) (R7 ars t pc vs [(13, iA ((b8 ars pc t.value (vs, bd)).fst.fst.length : Int)), (14, iA (((b8 ars pc t.value (vs, bd)).fst.fst ++ [i6 pc (D8 ars t vs)]).length : Int))]) fun G => b7 (wp_seq (k8 G (s4 7 [10, 1, 5, 11] (hB t.body (((b8 ars pc t.value (vs, bd)).fst.fst.length : Int)) (i6 pc (b9 vs ars 5 (m8 t.value))) ((b8 ars pc t.value (vs, bd)).fst.fst ++ [i6 pc (b9 vs ars 5 (m8 t.value))] ++ [i6 pc (b9 vs ars 5 (m8 t.value))]) ((b8 ars pc t.value (vs, bd)).fst.snd ++ [K1 ((b8 ars pc t.value (vs, bd)).fst.fst.length : Int) (m8 (s5 m (b5.mk (b8 ars pc t.value (vs, bd)).snd.kind (b8 ars pc t.value (vs, bd)).snd.value (b8 ars pc t.value (vs, bd)).snd.kids) (b5.mk 1 0 [])))] ++ [K1 (((b8 ars pc t.value (vs, bd)).fst.fst ++ [i6 pc (b9 vs ars 5 (m8 t.value))]).length : Int) (m8 (s5 m (b5.mk 9 0 ([b5.mk 2 ((b8 ars pc t.value (vs, bd)).fst.fst.length : Int) []] ++ ([b5.mk 1 0 []] ++ []))) (b5.mk 1 0 [])))]) (by assumption) (by simp only [cb5, cb4, cb6]; omega) (by simp only [cb5, cb4, cb6]; omega) (b44 hh k3 hv r1 r2))) [0, 1, 2, 3, 4, 5, 6, 7, 8, 9, 68, 69] (P1 ars t [.box [.ref 10, .ref 1, .v (.slice none 0 0), .ref 11], .box (sL t 3), Q5, .row 3 (D.ints (aF8 ars t m pc vs bd).fst), .row 106 (D.stmts (aF8 ars t m pc vs bd).snd)]) (R7 ars t pc vs [(14, iA (((b8 ars pc t.value (vs, bd)).fst.fst ++ [i6 pc (D8 ars t vs)]).length : Int))]) fun G => ?_))))
   refine b7 (wp_seq (k8 G (s4 7 [10, 1, 6, 11] (hB t.els ((((b8 ars pc t.value (vs, bd)).fst.fst ++ [i6 pc (b9 vs ars 5 (m8 t.value))]).length : Int)) (i6 pc (b9 vs ars 5 (m8 t.value))) ((k6 ars t.body ((b8 ars pc t.value (vs, bd)).fst.fst.length : Int) (i6 pc (b9 vs ars 5 (m8 t.value))) ((b8 ars pc t.value (vs, bd)).fst.fst ++ [i6 pc (b9 vs ars 5 (m8 t.value))] ++ [i6 pc (b9 vs ars 5 (m8 t.value))], (b8 ars pc t.value (vs, bd)).fst.snd ++ [K1 ((b8 ars pc t.value (vs, bd)).fst.fst.length : Int) (m8 (s5 m (b5.mk (b8 ars pc t.value (vs, bd)).snd.kind (b8 ars pc t.value (vs, bd)).snd.value (b8 ars pc t.value (vs, bd)).snd.kids) (b5.mk 1 0 [])))] ++ [K1 (((b8 ars pc t.value (vs, bd)).fst.fst ++ [i6 pc (b9 vs ars 5 (m8 t.value))]).length : Int) (m8 (s5 m (b5.mk 9 0 ([b5.mk 2 ((b8 ars pc t.value (vs, bd)).fst.fst.length : Int) []] ++ ([b5.mk 1 0 []] ++ []))) (b5.mk 1 0 [])))])).fst) ((k6 ars t.body ((b8 ars pc t.value (vs, bd)).fst.fst.length : Int) (i6 pc (b9 vs ars 5 (m8 t.value))) ((b8 ars pc t.value (vs, bd)).fst.fst ++ [i6 pc (b9 vs ars 5 (m8 t.value))] ++ [i6 pc (b9 vs ars 5 (m8 t.value))], (b8 ars pc t.value (vs, bd)).fst.snd ++ [K1 ((b8 ars pc t.value (vs, bd)).fst.fst.length : Int) (m8 (s5 m (b5.mk (b8 ars pc t.value (vs, bd)).snd.kind (b8 ars pc t.value (vs, bd)).snd.value (b8 ars pc t.value (vs, bd)).snd.kids) (b5.mk 1 0 [])))] ++ [K1 (((b8 ars pc t.value (vs, bd)).fst.fst ++ [i6 pc (b9 vs ars 5 (m8 t.value))]).length : Int) (m8 (s5 m (b5.mk 9 0 ([b5.mk 2 ((b8 ars pc t.value (vs, bd)).fst.fst.length : Int) []] ++ ([b5.mk 1 0 []] ++ []))) (b5.mk 1 0 [])))])).snd) (by assumption) ((bW4 hbb hh k3 hv r1 r2).1) ((bW4 hbb hh k3 hv r1 r2).2.1) ((bW4 hbb hh k3 hv r1 r2).2.2))) [0, 1, 2, 3, 4, 5, 6, 9, 68, 69] (P1 ars t [.box [.ref 8, .ref 1, .v (.slice none 0 0), .ref 9], .row 3 (D.ints (k6 ars t.els (((b8 ars pc t.value (vs, bd)).fst.fst ++ [i6 pc (D8 ars t vs)]).length : Int) (i6 pc (D8 ars t vs)) (aF8 ars t m pc vs bd)).fst), .row 106 (D.stmts (k6 ars t.els (((b8 ars pc t.value (vs, bd)).fst.fst ++ [i6 pc (D8 ars t vs)]).length : Int) (i6 pc (D8 ars t vs)) (aF8 ars t m pc vs bd)).snd)]) [(8, .ptr 7 0)] fun G => ?_))
   refine b7 (wp_ret ?_); exact F6 G [0, 1, 2, 3, 4, 5, 6, 8, 9] (by show _ = mR [0, 1, 2, 3, 4, 5, 6, 8, 9] [.dead, dI ars, .dead, dE t.index.kids, dE t.value.kids, dT t.body, dT t.els, .row 3 (D.ints (r7 ars t m pc (vs, bd)).fst), .row 106 (D.stmts (r7 ars t m pc (vs, bd)).snd)]; have e1 : ((r7 ars t m pc (vs, bd)).fst : List Int) = ((k6 ars t.els (((b8 ars pc t.value (vs, bd)).fst.fst ++ [i6 pc (b9 vs ars 5 (m8 t.value))]).length : Int) (i6 pc (b9 vs ars 5 (m8 t.value))) (k6 ars t.body ((b8 ars pc t.value (vs, bd)).fst.fst.length : Int) (i6 pc (b9 vs ars 5 (m8 t.value))) ((b8 ars pc t.value (vs, bd)).fst.fst ++ [i6 pc (b9 vs ars 5 (m8 t.value))] ++ [i6 pc (b9 vs ars 5 (m8 t.value))], (b8 ars pc t.value (vs, bd)).fst.snd ++ [K1 ((b8 ars pc t.value (vs, bd)).fst.fst.length : Int) (m8 (s5 m (b5.mk (b8 ars pc t.value (vs, bd)).snd.kind (b8 ars pc t.value (vs, bd)).snd.value (b8 ars pc t.value (vs, bd)).snd.kids) (b5.mk 1 0 [])))] ++ [K1 (((b8 ars pc t.value (vs, bd)).fst.fst ++ [i6 pc (b9 vs ars 5 (m8 t.value))]).length : Int) (m8 (s5 m (b5.mk 9 0 ([b5.mk 2 ((b8 ars pc t.value (vs, bd)).fst.fst.length : Int) []] ++ ([b5.mk 1 0 []] ++ []))) (b5.mk 1 0 [])))]))).fst) := (b47 k3 (by with_reducible assumption)); have e2 : ((r7 ars t m pc (vs, bd)).snd : List b6) = ((k6 ars t.els (((b8 ars pc t.value (vs, bd)).fst.fst ++ [i6 pc (D8 ars t vs)]).length : Int) (i6 pc (D8 ars t vs)) (aF8 ars t m pc vs bd)).snd) := (congrArg Prod.snd (bW5 k3 (by with_reducible assumption))); (first | rw [e1, e2] | simp only [e1, e2]) <;> rfl)
  ·
   have q0 : ((d8 (b9 vs ars 5 (m8 t.value))) = false) ∨ (¬ (b9 vs ars 5 (m8 t.value) % 2 = 1)) := (fun hq => Or.imp (fun hq => (hq)) (fun hq => of_decide_eq_false hq) (cd2.1 hq)) (Eq.mp (cc3 _) h0); refine rT G _ h0 (wp_seq (k8 G d9 [0, 1, 2, 3, 4, 5, 6, 7, 8, 9, 10, 11, 12, 13, 14, 22] (P1 ars t [.box [.ref 11, .ref 1, .v (.slice none 0 0), .ref 12], .box (sL t 3), Q5, .box [iA (b8 ars pc t.value (vs, bd)).snd.kind, iA (b8 ars pc t.value (vs, bd)).snd.value, .ref 13], .row 3 (D.ints (b8 ars pc t.value (vs, bd)).fst.fst), .row 106 (D.stmts (b8 ars pc t.value (vs, bd)).fst.snd), dE (b8 ars pc t.value (vs, bd)).snd.kids, .tree (D.stmts []), .tree (D.stmts [])]) ((2, iA m) :: (R7 ars t pc vs [(10, .ptr 10 0), (11, .tref 14), (12, .tref 15)])) fun G => b7 (wp_seq (k8 G (s4 7 [11, 1, 12, 5] (hI t.body m (i6 pc (b9 vs ars 5 (m8 t.value))) ((b8 ars pc t.value (vs, bd)).fst.fst) ((b8 ars pc t.value (vs, bd)).fst.snd) (by assumption) (by omega) (by omega) (by omega))) [0, 1, 2, 3, 4, 5, 6, 7, 8, 9, 10, 12, 13, 15, 72, 73] (P1 ars t (.box [.ref 14, .ref 1, .v (.slice none 0 0), .ref 11] :: (a95 ars t pc vs bd [.tree (D.stmts []), .row 3 (D.ints (ao7 ars t m pc vs bd).fst), dT (ao7 ars t m pc vs bd).snd]))) ((2, iA m) :: (R7 ars t pc vs [(10, .ptr 10 0), (11, .ref 15), (12, .tref 13)])) fun G => b7 (wp_seq (k8 G (s4 7 [14, 1, 11, 6] (hI t.els m (i6 pc (b9 vs ars 5 (m8 t.value))) ((k6 ars t.body m (i6 pc (b9 vs ars 5 (m8 t.value))) ((b8 ars pc t.value (vs, bd)).fst.fst, [])).fst) ((b8 ars pc t.value (vs, bd)).fst.snd) (by assumption) ((b46 hbb hh k3 hv r1 r2).1) ((b46 hbb hh k3 hv r1 r2).2) (by omega))) [0, 1, 2, 3, 4, 5, 6, 7, 8, 9, 10, 11, 12, 15, 72, 73] (P1 ars t (.box [.ref 14, .ref 1, .v (.slice none 0 0), .ref 11] :: (a95 ars t pc vs bd [dT (ao7 ars t m pc vs bd).snd, .row 3 (D.ints (ao6 ars t m pc vs bd).fst), dT (ao6 ars t m pc vs bd).snd]))) ((2, iA m) :: (R7 ars t pc vs [(10, .ptr 10 0), (11, .ref 13), (12, .ref 15)])) fun G => b7 (wp_seq (N5 G d9 [0, 1, 2, 3, 4, 5, 6, 7, 8, 9, 10, 12, 14, 72] (P1 ars t [.box [.ref 12, .ref 1, .v (.slice none 0 0), .ref 13], .box (sL t 3), Q5, .box [iA (b8 ars pc t.value (vs, bd)).snd.kind, iA (b8 ars pc t.value (vs, bd)).snd.value, .ref 11], dE (b8 ars pc t.value (vs, bd)).snd.kids, .row 3 (D.ints (ao6 ars t m pc vs bd).fst), .row 106 (D.stmts ((b8 ars pc t.value (vs, bd)).fst.snd ++ ([b6.mk 3 0 (b5.mk 0 0 []) (aT1 ars t pc vs bd) 0 (ao7 ars t m pc vs bd).snd (ao6 ars t m pc vs bd).snd] ++ [])))]) ((2, iA m) :: (R7 ars t pc vs [(10, .ptr 10 0)])) (aP ((b8 ars pc t.value (vs, bd)).fst.snd.length + 1) 152 []) (aK (by omega) cc1) fun G => ?_))))))))
   refine b7 (wp_seq (k8 G d9 (rg 14) (P1 ars t [.box [.ref 12, .ref 1, .v (.slice none 0 0), .ref 13], .box (sL t 3), .box [.ref 12, .ref 1, .v (.slice none 0 0), .ref 13], .box [iA (b8 ars pc t.value (vs, bd)).snd.kind, iA (b8 ars pc t.value (vs, bd)).snd.value, .ref 11], dE (b8 ars pc t.value (vs, bd)).snd.kids, .row 3 (D.ints (ao6 ars t m pc vs bd).fst), .row 106 (D.stmts ((b8 ars pc t.value (vs, bd)).fst.snd ++ ([b6.mk 3 0 (b5.mk 0 0 []) (aT1 ars t pc vs bd) 0 (ao7 ars t m pc vs bd).snd (ao6 ars t m pc vs bd).snd] ++ [])))]) ((2, iA m) :: (R7 ars t pc vs [(10, .ptr 10 0)])) fun G => b7 (wp_ret (l7 ?_)))); exact F6 G [0, 1, 2, 3, 4, 5, 6, 12, 13] (by show _ = mR [0, 1, 2, 3, 4, 5, 6, 12, 13] (P1 ars t [.row 3 (D.ints (r7 ars t m pc (vs, bd)).fst), .row 106 (D.stmts (r7 ars t m pc (vs, bd)).snd)]); have e1 : ((r7 ars t m pc (vs, bd)).fst : List Int) = ((k6 ars t.els m (i6 pc (b9 vs ars 5 (m8 t.value))) ((k6 ars t.body m (i6 pc (b9 vs ars 5 (m8 t.value))) ((b8 ars pc t.value (vs, bd)).fst.fst, [])).fst, [])).fst) := (bS2 k3 (by with_reducible assumption)); have e2 : ((r7 ars t m pc (vs, bd)).snd : List b6) = ((b8 ars pc t.value (vs, bd)).fst.snd ++ ([b6.mk 3 0 (b5.mk 0 0 []) (aT1 ars t pc vs bd) 0 (ao7 ars t m pc vs bd).snd (ao6 ars t m pc vs bd).snd] ++ [])) := (congrArg Prod.snd (bW6 k3 (by with_reducible assumption))); (first | rw [e1, e2] | simp only [e1, e2]) <;> rfl)
abbrev xB (ars : List Int) (m pc : Int) (vs : List Int) (bd : List b6) (ss : List b6) (k : Nat) : Q9 := k6 ars (ss.take k) m pc (vs, bd)
theorem bI1 {ss : List b6} {k : Nat} (hk : k < ss.length) : i5 (ss.take k) + (1 + D9 (ss.getD k cb2)) ≤ i5 ss := by
 have h1 := x3 (ss.take (k + 1)) (ss.drop (k + 1))
 rw [List.take_append_drop, o9 _ _ hk, x3, ← m9 (d := cb2) hk] at h1
 simp only [i5] at h1
 omega
section
variable {ars vs : List Int} {bd : List b6} {m pc : Int} {ss : List b6} {nv d k : Nat}
theorem bZ4 (hs : ss.all (f6 nv ars.length d) = true) (hv : nv ≤ vs.length) : GrS (i5 (ss.take k)) (vs, bd) (xB ars m pc vs bd ss k) :=
 ax7 ars (ss.take k) m pc (vs, bd) (cc2.2 fun x hx => cc2.1 hs x (List.mem_of_mem_take hx)) hv
theorem O6 (hs : ss.all (f6 nv ars.length d) = true) (hv : nv ≤ vs.length) (r1 : vs.length + 4 * i5 ss ≤ 90000) (r2 : i5 bd + 130 * i5 ss ≤ 600000) (hk : k < ss.length) : nv ≤ (xB ars m pc vs bd ss k).1.length ∧ (xB ars m pc vs bd ss k).1.length + 4 * (1 + D9 (ss.getD k cb2)) ≤ 90000 ∧ i5 (xB ars m pc vs bd ss k).2 + 130 * (1 + D9 (ss.getD k cb2)) ≤ 600000 := by
 have g := bZ4 (bd := bd) (m := m) (pc := pc) (k := k) hs hv
 have h1 := bI1 hk
 have a := g.lo; have b := g.hi; have c := g.st
 simp only at a b c
 omega
abbrev yB (ars : List Int) (m pc : Int) (vs : List Int) (bd : List b6) (ss : List b6) (k : Nat) : Q9 × b5 := b8 ars pc (ss.getD k cb2).value ((xB ars m pc vs bd ss k).1, (xB ars m pc vs bd ss k).2)
theorem a04 (hs : ss.all (f6 nv ars.length (d + 1)) = true) (hv : nv ≤ vs.length) (r1 : vs.length + 4 * i5 ss ≤ 90000) (r2 : i5 bd + 130 * i5 ss ≤ 600000) (hk : k < ss.length) (h4 : ¬ (ss.getD k cb2).kind = 4) :
  f5 (xB ars m pc vs bd ss k).1.length ars.length 5 (ss.getD k cb2).value = true ∧ (xB ars m pc vs bd ss k).1.length + (1 + v5 (ss.getD k cb2).value) ≤ 100000 ∧ i5 (xB ars m pc vs bd ss k).2 + 40 * (1 + v5 (ss.getD k cb2).value) ≤ 700000 ∧
  nv ≤ (yB ars m pc vs bd ss k).1.1.length ∧ (yB ars m pc vs bd ss k).1.1.length ≤ 100000 ∧ (yB ars m pc vs bd ss k).1.2.length + 10 ≤ 700000 ∧ f5 (yB ars m pc vs bd ss k).1.1.length ars.length 5 (yB ars m pc vs bd ss k).2 = true := by
 have hb := O6 (m := m) (pc := pc) hs hv r1 r2 hk
 have hh := (an5 hs hk).1
 have hsz : D9 (ss.getD k cb2) = v5 (ss.getD k cb2).index + v5 (ss.getD k cb2).value + i5 (ss.getD k cb2).body + i5 (ss.getD k cb2).els := by
  generalize ss.getD k cb2 = s; cases s; rfl
 have hsh := w8 (na := ars.length) hb.1 5 _ (n7 hh h4)
 obtain ⟨g, g2, -⟩ := Y8 ars pc ars.length 5 (ss.getD k cb2).value (xB ars m pc vs bd ss k) hsh
 have a : (xB ars m pc vs bd ss k).1.length ≤ (yB ars m pc vs bd ss k).1.1.length := g.lo
 have b : (yB ars m pc vs bd ss k).1.1.length ≤ (xB ars m pc vs bd ss k).1.length + (1 + v5 (ss.getD k cb2).value) := g.hi
 have c : i5 (yB ars m pc vs bd ss k).1.2 ≤ i5 (xB ars m pc vs bd ss k).2 + 40 * (1 + v5 (ss.getD k cb2).value) := g.st
 have h5 := C2 (yB ars m pc vs bd ss k).1.2
 exact ⟨hsh, by omega, by omega, by omega, by omega, by omega, g2⟩
theorem bu1 (hs : ss.all (f6 nv ars.length (d + 1)) = true) (hk : k < ss.length) (h2 : (ss.getD k cb2).kind = 2) {n : Nat} (hn : nv ≤ n) : f5 n ars.length 5 (ss.getD k cb2).index = true ∧ v5 (ss.getD k cb2).index ≤ 1048576 := by
 obtain ⟨q1, -, q3⟩ := ae0 (an5 hs hk).1 h2
 exact ⟨w8 hn 5 _ q3, by rw [aC5 q1]; omega⟩
theorem as4 (hk : k < ss.length) : xB ars m pc vs bd ss (k + 1) = r7 ars (ss.getD k cb2) m pc (xB ars m pc vs bd ss k) := bq7 hk
theorem C3 (s : b6) : i5 s.body ≤ D9 s ∧ i5 s.els ≤ D9 s ∧ v5 s.value ≤ D9 s := by
 cases s; simp only [D9, b6.body, b6.els, b6.value]; omega
abbrev sK (ss : List b6) (k : Nat) : b6 := ss.getD k cb2
theorem aF3 (hs : ss.all (f6 nv ars.length (d + 1)) = true) (hk : k < ss.length) (h3 : ¬ (sK ss k).kind = 3) (h4 : ¬ (sK ss k).kind = 4) (h5 : ¬ (sK ss k).kind = 5) (h1 : ¬ (sK ss k).kind = 1) : (sK ss k).kind = 2 := by
 by_cases h2 : (sK ss k).kind = 2
 ·exact h2
 ·have hh := (an5 hs hk).1
  rw [an4 ⟨h1, h2, h3, h4, h5⟩] at hh; cases hh
theorem bZ8 (hk : k < ss.length) (h4 : (sK ss k).kind = 4) : xB ars m pc vs bd ss (k + 1) = ((k6 ars (sK ss k).body m pc ((xB ars m pc vs bd ss k).1, [])).1, (xB ars m pc vs bd ss k).2 ++ [⟨4, 0, ⟨0, 0, []⟩, ⟨0, 0, []⟩, (sK ss k).count, (k6 ars (sK ss k).body m pc ((xB ars m pc vs bd ss k).1, [])).2, []⟩]) := (as4 hk).trans (ln4 h4)
theorem bZ6 (hk : k < ss.length) (h5 : (sK ss k).kind = 5) : xB ars m pc vs bd ss (k + 1) = ((yB ars m pc vs bd ss k).1.1, (yB ars m pc vs bd ss k).1.2 ++ [⟨5, (sK ss k).target, ⟨0, 0, []⟩, y8 (yB ars m pc vs bd ss k).2, 0, [], []⟩]) := by
 rw [show y8 (yB ars m pc vs bd ss k).2 = (yB ars m pc vs bd ss k).2 from b5.eta _]
 exact (as4 hk).trans (ln5 h5)
theorem b01 (hk : k < ss.length) (h1 : (sK ss k).kind = 1) : xB ars m pc vs bd ss (k + 1) = ((yB ars m pc vs bd ss k).1.1, (yB ars m pc vs bd ss k).1.2 ++ [K1 (sK ss k).target (y8 (s5 m (y8 (yB ars m pc vs bd ss k).2) ⟨2, (sK ss k).target, []⟩))]) := by
 rw [show y8 (yB ars m pc vs bd ss k).2 = (yB ars m pc vs bd ss k).2 from b5.eta _, show ∀ e, y8 e = e from b5.eta]
 exact (as4 hk).trans (ln1 h1)
theorem bQ2 (hk : k < ss.length) (h2 : (sK ss k).kind = 2) (h : (d8 (b9 (yB ars m pc vs bd ss k).1.1 ars 5 (y8 (sK ss k).index)) && decide (b9 (yB ars m pc vs bd ss k).1.1 ars 5 (y8 (sK ss k).index) % 2 = 1)) = false) : xB ars m pc vs bd ss (k + 1) = ((yB ars m pc vs bd ss k).1.1, (yB ars m pc vs bd ss k).1.2 ++ [⟨2, (sK ss k).target, y8 (sK ss k).index, y8 (s5 m (y8 (yB ars m pc vs bd ss k).2) ⟨3, (sK ss k).target, [y8 (sK ss k).index]⟩), 0, [], []⟩]) := by
 simp only [show ∀ e, y8 e = e from b5.eta] at h ⊢
 exact (as4 hk).trans (bq5 h2 h)
theorem bQ1 (hk : k < ss.length) (h2 : (sK ss k).kind = 2) (h : (d8 (b9 (yB ars m pc vs bd ss k).1.1 ars 5 (y8 (sK ss k).index)) && decide (b9 (yB ars m pc vs bd ss k).1.1 ars 5 (y8 (sK ss k).index) % 2 = 1)) = true) : xB ars m pc vs bd ss (k + 1) = ((yB ars m pc vs bd ss k).1.1 ++ [i6 (b9 (yB ars m pc vs bd ss k).1.1 ars 5 (y8 (yB ars m pc vs bd ss k).2)) pc], (yB ars m pc vs bd ss k).1.2 ++ [K1 ((yB ars m pc vs bd ss k).1.1.length : Int) (y8 (yB ars m pc vs bd ss k).2)] ++ T3 ((yB ars m pc vs bd ss k).1.1.length : Int) (sK ss k).target (y8 (sK ss k).index) m 4) := by
 simp only [show ∀ e, y8 e = e from b5.eta] at h ⊢
 exact (as4 hk).trans (bq4 h2 h)
theorem bZ7 (hk : k < ss.length) (h4 : (sK ss k).kind = 4) : (xB ars m pc vs bd ss (k + 1)).1 = (k6 ars (sK ss k).body m pc ((xB ars m pc vs bd ss k).1, [])).1 := by rw [bZ8 hk h4]
theorem bZ5 (hk : k < ss.length) (h5 : (sK ss k).kind = 5) : (xB ars m pc vs bd ss (k + 1)).1 = (yB ars m pc vs bd ss k).1.1 := by rw [bZ6 hk h5]
theorem b00 (hk : k < ss.length) (h1 : (sK ss k).kind = 1) : (xB ars m pc vs bd ss (k + 1)).1 = (yB ars m pc vs bd ss k).1.1 := by rw [b01 hk h1]
theorem bZ9 (hk : k < ss.length) (h2 : (sK ss k).kind = 2) (h : (d8 (b9 (yB ars m pc vs bd ss k).1.1 ars 5 (y8 (sK ss k).index)) && decide (b9 (yB ars m pc vs bd ss k).1.1 ars 5 (y8 (sK ss k).index) % 2 = 1)) = false) : (xB ars m pc vs bd ss (k + 1)).1 = (yB ars m pc vs bd ss k).1.1 := by rw [bQ2 hk h2 h]
theorem aT8 (hk : ss.length ≤ k) : k6 ars ss m pc (vs, bd) = xB ars m pc vs bd ss k := by unfold xB; rw [cc8 hk]
end
abbrev U1 (ars : List Int) (ss : List b6) (m : Int) (pc : Int) (vs : List Int) (bd : List b6) (k : Nat) := m8 (b8 ars pc (ss.getD k cb2).value (xB ars m pc vs bd ss k)).snd
abbrev w5 (ars : List Int) (ss : List b6) (m : Int) (pc : Int) (vs : List Int) (bd : List b6) (k : Nat) := b8 ars pc (ss.getD k cb2).value (xB ars m pc vs bd ss k)
abbrev bh7 (ars : List Int) (ss : List b6) (m : Int) (pc : Int) (vs : List Int) (bd : List b6) (k : Nat) := s5 m (U1 ars ss m pc vs bd k) (b5.mk 3 (ss.getD k cb2).target [m8 (ss.getD k cb2).index])
abbrev ak2 (ss : List b6) (k : Nat) := m8 (ss.getD k cb2).index
abbrev L3 : It := .box [.v (.slice none 0 0), .v (.slice none 0 0), .v (.slice none 0 0), .v (.slice none 0 0)]
abbrev ac8 : It := .box [.ref 6, .ref 1, .v (.slice none 0 0), .ref 7]
abbrev H8 (m : Int) (pc : Int) (r0 : List (Nat × AV)) : List (Nat × AV) := (1, .ref 2) :: (2, iA m) :: (3, iA pc) :: (4, .ptr 4 0) :: (8, .ptr 5 0) :: r0
abbrev ao1 (ss : List b6) (k : Nat) (r0 : List It) : List It := dE (ss.getD k cb2).index.kids :: dE (ss.getD k cb2).value.kids :: dT (ss.getD k cb2).body :: dT (ss.getD k cb2).els :: r0
abbrev aS5 (ars : List Int) (ss : List b6) (m : Int) (pc : Int) (vs : List Int) (bd : List b6) (k : Nat) (r0 : List It) : List It := .dead :: dI ars :: dT ss :: .dead :: ac8 :: L3 :: .row 3 (D.ints (xB ars m pc vs bd ss k).fst) :: .row 106 (D.stmts (xB ars m pc vs bd ss k).snd) :: r0
theorem aP8 (ars : List Int) (nv dd : Nat) (ss : List b6) (hs : ss.all (f6 nv ars.length (dd + 1)) = true)
    (hF : ∀ (t : b6), t.kind = 3 → t5 nv ars.length t = true → t.body.all (f6 nv ars.length dd) = true → t.els.all (f6 nv ars.length dd) = true → 0 < ss.length → ∀ (m pc : Int) (vs : List Int) (bd : List b6), nv ≤ vs.length → vs.length + 4 * (1 + D9 t) ≤ 90000 → i5 bd + 130 * (1 + D9 t) ≤ 600000 → i9.ok Tryz.prog (b31 ars m pc vs bd t))
    (hI : ∀ (tt : List b6) (m pc : Int) (vs : List Int) (bd : List b6), tt.all (f6 nv ars.length dd) = true → 0 < ss.length → nv ≤ vs.length → vs.length + 4 * i5 tt ≤ 90000 → 130 * i5 tt ≤ 600000 → i9.ok Tryz.prog (bK8 ars m pc vs bd tt))
    (m pc : Int) (vs : List Int) (bd : List b6) (hv : nv ≤ vs.length) (r1 : vs.length + 4 * i5 ss ≤ 90000) (r2 : i5 bd + 130 * i5 ss ≤ 600000) : i9.ok Tryz.prog (lbC ars m pc vs bd ss) := by
  have hcp := bN0; refine z7 123 Tryz.func79 [.row 3 (D.ints vs), dI ars, dT ss, .row 106 (D.stmts bd)] [(0, .agg [.ref 0, .ref 1, .v (.slice none 0 0), .ref 3]), (1, .ref 2), (2, iA m), (3, iA pc)] fun G => ?_; have hl := C2 ss; refine wp_seq (k8 G d9 [0, 1, 2, 3, 4, 12] [.row 3 (D.ints vs), dI ars, dT ss, .row 106 (D.stmts bd), .box [.ref 0, .ref 1, .v (.slice none 0 0), .ref 3], L3] (H8 m pc []) fun G => b7 (wp_seq (wp_seq (C9 G d9 (H8 m pc [(9, iA 0)]) fun G => b7 (wp_block ?_))))); obtain ⟨ρ, G⟩ := G.shift 0 6 [.dead, dI ars, dT ss, .row 106 (D.stmts bd), .box [.ref 6, .ref 1, .v (.slice none 0 0), .ref 3], .box [.v (.slice none 0 0), .v (.slice none 0 0), .v (.slice none 0 0), .v (.slice none 0 0)], .row 3 (D.ints vs)] (H8 m pc [(9, iA 0)]); obtain ⟨ρ, G⟩ := G.shift 3 7 [.dead, dI ars, dT ss, .dead, .box [.ref 6, .ref 1, .v (.slice none 0 0), .ref 7], .box [.v (.slice none 0 0), .v (.slice none 0 0), .v (.slice none 0 0), .v (.slice none 0 0)], .row 3 (D.ints vs), .row 106 (D.stmts bd)] (H8 m pc [(9, iA 0)]); refine o7 (κ := Nat) (fun k => k ≤ ss.length) (fun k => ss.length - k) (fun k => [.dead, dI ars, dT ss, .dead, .box [.ref 6, .ref 1, .v (.slice none 0 0), .ref 7], .box [.v (.slice none 0 0), .v (.slice none 0 0), .v (.slice none 0 0), .v (.slice none 0 0)], .row 3 (.ints (xB ars m pc vs bd ss k).1), .row 106 (.stmts (xB ars m pc vs bd ss k).2)]) (fun k => [(1, .ref 2), (2, iA m), (3, iA pc), (4, .ptr 4 0), (8, .ptr 5 0), (9, iA k)]) 0 (by simp [hs]) (s0.at G _ _) ?_; clear G; intro k ρ a w hp G; replace G := s0.at G (aS5 ars ss m pc vs bd k []) (H8 m pc [(9, iA k)]); refine wp_seq (wp_seq (l0 G d9 [(16, bA (decide ((k : Int) < ss.length)))] fun G => b7 (N4 G (fun h0 q0 => ?_) fun h0 q0 => ?_)))
  · refine wp_exit (o0 (o0 (n5 (b7 (wp_seq (k8 G d9 [0, 1, 2, 3, 5, 6, 7] [.dead, dI ars, dT ss, .dead, .box [.ref 5, .ref 1, .v (.slice none 0 0), .ref 6], .row 3 (D.ints (xB ars m pc vs bd ss k).fst), .row 106 (D.stmts (xB ars m pc vs bd ss k).snd)] [(8, .ptr 4 0)] fun G => b7 (wp_ret ?_))))))); exact F6 G [0, 1, 2, 3, 5, 6] (by show _ = mR [0, 1, 2, 3, 5, 6] [.dead, dI ars, dT ss, .dead, .row 3 (D.ints (k6 ars ss m pc (vs, bd)).fst), .row 106 (D.stmts (k6 ars ss m pc (vs, bd)).snd)]; have e1 : ((k6 ars ss m pc (vs, bd)).fst : List Int) = ((xB ars m pc vs bd ss k).fst) := (congrArg Prod.fst (aT8 (by omega))); have e2 : ((k6 ars ss m pc (vs, bd)).snd : List b6) = ((xB ars m pc vs bd ss k).snd) := (congrArg Prod.snd (aT8 (by omega))); (first | rw [e1, e2] | simp only [e1, e2]) <;> rfl)
  ·
   refine wp_skip (b7 (wp_seq (wp_block (wp_seq (N5 G d9 [0, 1, 2, 3, 4, 5, 6, 7, 32, 33, 34, 35, 40] (aS5 ars ss m pc vs bd k (ao1 ss k [.box (sL (ss.getD k cb2) 8)])) (H8 m pc [(9, iA k), (10, .ptr 12 0)]) (iX k k ss.length []) (iK (by have h9 := O6 (m := m) (pc := pc) hs hv r1 r2 (show k < ss.length by omega); have h8 := C3 (ss.getD k cb2); omega) cc1) fun G => b7 (wp_seq (wp_seq (l0 G d9 [(25, bA ((ss.getD k cb2).kind == 3))] fun G => b7 (P4 G (fun h1 q1 => ?_) fun h1 q1 => ?_)))))))))
   ·
    refine wp_skip (b7 (wp_seq (wp_seq (l0 G d9 [(33, bA ((ss.getD k cb2).kind == 4))] fun G => b7 (P4 G (fun h2 q2 => ?_) fun h2 q2 => ?_)))))
    ·
     refine wp_skip (b7 (wp_seq (k8 G d9 [0, 1, 2, 3, 4, 5, 6, 7, 8, 9, 10, 11, 12, 21] (aS5 ars ss m pc vs bd k (ao1 ss k [.box (sL (ss.getD k cb2) 8), .box [iA 0, iA 0, .v (.slice none 0 0)]])) (H8 m pc [(9, iA k), (10, .ptr 12 0), (12, .ptr 13 0)]) fun G => b7 (wp_seq (k8 G (s4 4 [6, 1, 7, 9] (a73 ars pc ((ss.getD k cb2).value) ((xB ars m pc vs bd ss k).fst) ((xB ars m pc vs bd ss k).snd) ((a04 hs hv r1 r2 (by omega) (by omega)).1) (by have h9 := O6 (m := m) (pc := pc) hs hv r1 r2 (show k < ss.length by omega); have h8 := C3 (ss.getD k cb2); omega) (by have h9 := O6 (m := m) (pc := pc) hs hv r1 r2 (show k < ss.length by omega); have h8 := C3 (ss.getD k cb2); omega))) [0, 1, 2, 3, 4, 5, 8, 9, 10, 11, 12, 13, 46, 47, 48] (.dead :: dI ars :: dT ss :: .dead :: .box [.ref 12, .ref 1, .v (.slice none 0 0), .ref 13] :: L3 :: (ao1 ss k [.box (sL (ss.getD k cb2) 6), .box (eL (w5 ars ss m pc vs bd k).snd 14), .row 3 (D.ints (w5 ars ss m pc vs bd k).fst.fst), .row 106 (D.stmts (w5 ars ss m pc vs bd k).fst.snd), dE (w5 ars ss m pc vs bd k).snd.kids])) (H8 m pc [(9, iA k), (10, .ptr 10 0), (12, .ptr 11 0)]) fun G => b7 (wp_block (wp_seq (l0 G d9 [(82, bA ((ss.getD k cb2).kind == 5))] fun G => b7 (P4 G (fun h3 q3 => ?_) fun h3 q3 => ?_)))))))))
     ·
      refine wp_seq (l0 G d9 [(95, bA ((ss.getD k cb2).kind == 1))] fun G => b7 (P4 G (fun h4 q4 => ?_) fun h4 q4 => ?_))
      ·
       refine wp_seq (l0 G (t4 (l8 4 [12, 1, 6] (i9.lend (X5 ((b8 ars pc (ss.getD k cb2).value (xB ars m pc vs bd ss k)).fst.fst) ars ((ss.getD k cb2).index.kind) ((ss.getD k cb2).index.value) ((ss.getD k cb2).index.kids) (by rw [b5.eta]; exact (bu1 hs (by omega) (aF3 hs (by omega) (by omega) (by omega) (by omega) (by omega)) (a04 hs hv r1 r2 (by omega) (by omega)).2.2.2.1).1)) [.row 3]) (l8 5 [] (H7 (b9 (b8 ars pc (ss.getD k cb2).value (xB ars m pc vs bd ss k)).fst.fst ars 5 (m8 (ss.getD k cb2).index))) t3)) fz []) [(109, bA (d8 (b9 (w5 ars ss m pc vs bd k).fst.fst ars 5 (ak2 ss k)) && decide (b9 (w5 ars ss m pc vs bd k).fst.fst ars 5 (ak2 ss k) % 2 = 1)))] fun G => b7 ?_); cases h5 : (d8 (b9 (b8 ars pc (ss.getD k cb2).value (xB ars m pc vs bd ss k)).fst.fst ars (5 : Nat) (m8 (ss.getD k cb2).index)) && decide (b9 (b8 ars pc (ss.getD k cb2).value (xB ars m pc vs bd ss k)).fst.fst ars (5 : Nat) (m8 (ss.getD k cb2).index) % (2 : Int) = 1))
       ·
        have q5 : ((d8 (b9 (b8 ars pc (ss.getD k cb2).value (xB ars m pc vs bd ss k)).fst.fst ars 5 (m8 (ss.getD k cb2).index))) = false) ∨ (¬ (b9 (b8 ars pc (ss.getD k cb2).value (xB ars m pc vs bd ss k)).fst.fst ars 5 (m8 (ss.getD k cb2).index) % 2 = 1)) := Or.imp (fun hq => (hq)) (fun hq => of_decide_eq_false hq) (cd2.1 h5); refine rF G _ h5 (F7 G (t4 (l8 6 [6] (hcp ((ss.getD k cb2).index) ((bu1 hs (by omega) (aF3 hs (by omega) (by omega) (by omega) (by omega) (by omega)) (cc6 _)).2)) (l8 13 [6] (hcp ((ss.getD k cb2).index) ((bu1 hs (by omega) (aF3 hs (by omega) (by omega) (by omega) (by omega) (by omega)) (cc6 _)).2)) (l8 14 [119] (av5 ((ss.getD k cb2).target) ((ss.getD k cb2).index.kind) ((ss.getD k cb2).index.value) ((ss.getD k cb2).index.kids)) (l8 15 [14, 127] (aj5 m ((b8 ars pc (ss.getD k cb2).value (xB ars m pc vs bd ss k)).snd.kind) ((b8 ars pc (ss.getD k cb2).value (xB ars m pc vs bd ss k)).snd.value) 3 ((ss.getD k cb2).target) ((b8 ars pc (ss.getD k cb2).value (xB ars m pc vs bd ss k)).snd.kids) ([m8 (ss.getD k cb2).index])) t3)))) fz []) [0, 1, 0, 4, 0, 16, 48, 0, 0, 0, 512, 0, 2048, 6256, 15984, 32752, 65532, 131068, 262143, 524287, 1048575] [0, 1, 2, 3, 4, 5, 12, 159] [.dead, dI ars, dT ss, .dead, ac8, L3, .row 3 (D.ints (w5 ars ss m pc vs bd k).fst.fst), .row 106 (D.stmts ((w5 ars ss m pc vs bd k).fst.snd ++ ([b6.mk 2 (ss.getD k cb2).target (ak2 ss k) (m8 (bh7 ars ss m pc vs bd k)) 0 [] []] ++ [])))] (H8 m pc [(9, iA k)]) (aP ((b8 ars pc (ss.getD k cb2).value (xB ars m pc vs bd ss k)).fst.snd.length + ([b6.mk (2 : Int) (ss.getD k cb2).target (m8 (ss.getD k cb2).index) (m8 (s5 m (b5.mk (b8 ars pc (ss.getD k cb2).value (xB ars m pc vs bd ss k)).snd.kind (b8 ars pc (ss.getD k cb2).value (xB ars m pc vs bd ss k)).snd.value (b8 ars pc (ss.getD k cb2).value (xB ars m pc vs bd ss k)).snd.kids) (b5.mk (3 : Int) (ss.getD k cb2).target [b5.mk (ss.getD k cb2).index.kind (ss.getD k cb2).index.value (ss.getD k cb2).index.kids]))) (0 : Int) [] []] ++ []).length) 152 []) (aK (by have h9 : (b8 ars pc (ss.getD k cb2).value ((xB ars m pc vs bd ss k).1, (xB ars m pc vs bd ss k).2)).1.2.length + 10 ≤ 700000 := (a04 (m := m) (pc := pc) hs hv r1 r2 (show k < ss.length by omega) (by omega)).2.2.2.2.2.1; have h7 : (b8 ars pc (ss.getD k cb2).value (xB ars m pc vs bd ss k)).1.2.length + 10 ≤ 700000 := h9; simp only [cb5, cb4, cb6]; omega) cc1) fun G => ?_)
        refine m6 (m6 (b7 (D7 G d9 [(9, iA ((k : Int) + 1))] [wO ((k : Int) + 1)] (o1 (by omega)) fun G => b7 ?_))); exact M7 G (k + 1) (by have h9 := O6 (m := m) (pc := pc) hs hv r1 r2 (show k < ss.length by omega); have h8 := C3 (ss.getD k cb2); omega) (by have h9 := O6 (m := m) (pc := pc) hs hv r1 r2 (show k < ss.length by omega); have h8 := C3 (ss.getD k cb2); omega) (rg 8) (by have e1 : ((xB ars m pc vs bd ss (k + 1)).fst : List Int) = ((b8 ars pc (ss.getD k cb2).value (xB ars m pc vs bd ss k)).fst.fst) := (bZ9 (by omega) (aF3 hs (by omega) (by omega) (by omega) (by omega) (by omega)) (by with_reducible assumption)); have e2 : ((xB ars m pc vs bd ss (k + 1)).snd : List b6) = ((w5 ars ss m pc vs bd k).fst.snd ++ ([b6.mk 2 (ss.getD k cb2).target (ak2 ss k) (m8 (bh7 ars ss m pc vs bd k)) 0 [] []] ++ [])) := (congrArg Prod.snd (bQ2 (by omega) (aF3 hs (by omega) (by omega) (by omega) (by omega) (by omega)) (by with_reducible assumption))); (first | rw [e1, e2] | simp only [e1, e2]) <;> rfl)
       · have q5 : ((d8 (b9 (b8 ars pc (ss.getD k cb2).value (xB ars m pc vs bd ss k)).fst.fst ars 5 (m8 (ss.getD k cb2).index))) = true) ∧ (b9 (b8 ars pc (ss.getD k cb2).value (xB ars m pc vs bd ss k)).fst.fst ars 5 (m8 (ss.getD k cb2).index) % 2 = 1) := And.imp (fun hq => (hq)) (fun hq => of_decide_eq_true hq) (cd5.1 h5); refine rT G _ h5 (k8 G (s4 5 [12, 1, 13, 6, 7, 8, 9, 14] (bs2 ars ((b8 ars pc (ss.getD k cb2).value (xB ars m pc vs bd ss k)).fst.fst) ((b8 ars pc (ss.getD k cb2).value (xB ars m pc vs bd ss k)).fst.snd) m pc (ss.getD k cb2) ((b8 ars pc (ss.getD k cb2).value (xB ars m pc vs bd ss k)).snd) (by rw [b5.eta]; exact (a04 hs hv r1 r2 (by omega) (by omega)).2.2.2.2.2.2) ((a04 hs hv r1 r2 (by omega) (by omega)).2.2.2.2.1) (by have h9 : (b8 ars pc (ss.getD k cb2).value ((xB ars m pc vs bd ss k).1, (xB ars m pc vs bd ss k).2)).1.2.length + 10 ≤ 700000 := (a04 (m := m) (pc := pc) hs hv r1 r2 (show k < ss.length by omega) (by omega)).2.2.2.2.2.1; have h7 : (b8 ars pc (ss.getD k cb2).value (xB ars m pc vs bd ss k)).1.2.length + 10 ≤ 700000 := h9; omega))) [0, 1, 2, 3, 4, 5, 55, 56] [.dead, dI ars, dT ss, .dead, ac8, L3, .row 3 (D.ints ((w5 ars ss m pc vs bd k).fst.fst ++ [i6 (b9 (w5 ars ss m pc vs bd k).fst.fst ars 5 (U1 ars ss m pc vs bd k)) pc])), .row 106 (D.stmts ((w5 ars ss m pc vs bd k).fst.snd ++ [K1 ((w5 ars ss m pc vs bd k).fst.fst.length : Int) (U1 ars ss m pc vs bd k)] ++ T3 ((w5 ars ss m pc vs bd k).fst.fst.length : Int) (ss.getD k cb2).target (ak2 ss k) m 4))] (H8 m pc [(9, iA k)]) fun G => m6 (m6 (b7 (D7 G d9 [(9, iA ((k : Int) + 1))] [wO ((k : Int) + 1)] (o1 (by omega)) fun G => b7 ?_)))); exact M7 G (k + 1) (by have h9 := O6 (m := m) (pc := pc) hs hv r1 r2 (show k < ss.length by omega); have h8 := C3 (ss.getD k cb2); omega) (by have h9 := O6 (m := m) (pc := pc) hs hv r1 r2 (show k < ss.length by omega); have h8 := C3 (ss.getD k cb2); omega) (rg 8) (by have e1 : ((xB ars m pc vs bd ss (k + 1)).fst : List Int) = ((w5 ars ss m pc vs bd k).fst.fst ++ [i6 (b9 (w5 ars ss m pc vs bd k).fst.fst ars 5 (U1 ars ss m pc vs bd k)) pc]) := (congrArg Prod.fst (bQ1 (by omega) (aF3 hs (by omega) (by omega) (by omega) (by omega) (by omega)) (by with_reducible assumption))); have e2 : ((xB ars m pc vs bd ss (k + 1)).snd : List b6) = ((w5 ars ss m pc vs bd k).fst.snd ++ [K1 ((w5 ars ss m pc vs bd k).fst.fst.length : Int) (U1 ars ss m pc vs bd k)] ++ T3 ((w5 ars ss m pc vs bd k).fst.fst.length : Int) (ss.getD k cb2).target (ak2 ss k) m 4) := (congrArg Prod.snd (bQ1 (by omega) (aF3 hs (by omega) (by omega) (by omega) (by omega) (by omega)) (by with_reducible assumption))); (first | rw [e1, e2] | simp only [e1, e2]) <;> rfl)
      · refine N3 G (t4 (l8 7 [] (al8 ((ss.getD k cb2).target)) (l8 8 [14, 71] (aj5 m ((b8 ars pc (ss.getD k cb2).value (xB ars m pc vs bd ss k)).snd.kind) ((b8 ars pc (ss.getD k cb2).value (xB ars m pc vs bd ss k)).snd.value) 2 ((ss.getD k cb2).target) ((b8 ars pc (ss.getD k cb2).value (xB ars m pc vs bd ss k)).snd.kids) ([])) (l8 9 [12, 1, 13, 79] (Q3 ((b8 ars pc (ss.getD k cb2).value (xB ars m pc vs bd ss k)).fst.fst) ars ((b8 ars pc (ss.getD k cb2).value (xB ars m pc vs bd ss k)).fst.snd) ((ss.getD k cb2).target) ((s5 m (m8 (b8 ars pc (ss.getD k cb2).value (xB ars m pc vs bd ss k)).snd) (b5.mk 2 (ss.getD k cb2).target [])).kind) ((s5 m (m8 (b8 ars pc (ss.getD k cb2).value (xB ars m pc vs bd ss k)).snd) (b5.mk 2 (ss.getD k cb2).target [])).value) ((s5 m (m8 (b8 ars pc (ss.getD k cb2).value (xB ars m pc vs bd ss k)).snd) (b5.mk 2 (ss.getD k cb2).target [])).kids) (by have h9 : (b8 ars pc (ss.getD k cb2).value ((xB ars m pc vs bd ss k).1, (xB ars m pc vs bd ss k).2)).1.2.length + 10 ≤ 700000 := (a04 (m := m) (pc := pc) hs hv r1 r2 (show k < ss.length by omega) (by omega)).2.2.2.2.2.1; have h7 : (b8 ars pc (ss.getD k cb2).value (xB ars m pc vs bd ss k)).1.2.length + 10 ≤ 700000 := h9; omega)) t3))) fz []) [0, 0, 2, 0, 0, 0, 32, 96, 248, 511, 1023] [0, 1, 2, 3, 4, 5, 12, 87] [.dead, dI ars, dT ss, .dead, ac8, L3, .row 3 (D.ints (w5 ars ss m pc vs bd k).fst.fst), .row 106 (D.stmts ((w5 ars ss m pc vs bd k).fst.snd ++ [K1 (ss.getD k cb2).target (m8 (s5 m (U1 ars ss m pc vs bd k) (b5.mk 2 (ss.getD k cb2).target [])))]))] (H8 m pc [(9, iA k)]) fun G => m6 (m6 (b7 (D7 G d9 [(9, iA ((k : Int) + 1))] [wO ((k : Int) + 1)] (o1 (by omega)) fun G => b7 ?_))); exact M7 G (k + 1) (by have h9 := O6 (m := m) (pc := pc) hs hv r1 r2 (show k < ss.length by omega); have h8 := C3 (ss.getD k cb2); omega) (by have h9 := O6 (m := m) (pc := pc) hs hv r1 r2 (show k < ss.length by omega); have h8 := C3 (ss.getD k cb2); omega) (rg 8) (by have e1 : ((xB ars m pc vs bd ss (k + 1)).fst : List Int) = ((b8 ars pc (ss.getD k cb2).value (xB ars m pc vs bd ss k)).fst.fst) := (b00 (by omega) (by omega)); have e2 : ((xB ars m pc vs bd ss (k + 1)).snd : List b6) = ((w5 ars ss m pc vs bd k).fst.snd ++ [K1 (ss.getD k cb2).target (m8 (s5 m (U1 ars ss m pc vs bd k) (b5.mk 2 (ss.getD k cb2).target [])))]) := (congrArg Prod.snd (b01 (by omega) (by omega))); (first | rw [e1, e2] | simp only [e1, e2]) <;> rfl)
     · refine N5 G d9 [0, 1, 2, 3, 4, 5, 12, 71] [.dead, dI ars, dT ss, .dead, ac8, L3, .row 3 (D.ints (w5 ars ss m pc vs bd k).fst.fst), .row 106 (D.stmts ((w5 ars ss m pc vs bd k).fst.snd ++ ([b6.mk 5 (ss.getD k cb2).target (b5.mk 0 0 []) (U1 ars ss m pc vs bd k) 0 [] []] ++ [])))] (H8 m pc [(9, iA k)]) (aP ((b8 ars pc (ss.getD k cb2).value (xB ars m pc vs bd ss k)).fst.snd.length + ([b6.mk (5 : Int) (ss.getD k cb2).target (b5.mk (0 : Int) (0 : Int) []) (m8 (b8 ars pc (ss.getD k cb2).value (xB ars m pc vs bd ss k)).snd) (0 : Int) [] []] ++ []).length) 152 []) (aK (by have h9 : (b8 ars pc (ss.getD k cb2).value ((xB ars m pc vs bd ss k).1, (xB ars m pc vs bd ss k).2)).1.2.length + 10 ≤ 700000 := (a04 (m := m) (pc := pc) hs hv r1 r2 (show k < ss.length by omega) (by omega)).2.2.2.2.2.1; have h7 : (b8 ars pc (ss.getD k cb2).value (xB ars m pc vs bd ss k)).1.2.length + 10 ≤ 700000 := h9; simp only [cb5, cb4, cb6]; omega) cc1) fun G => m6 (m6 (b7 (D7 G d9 [(9, iA ((k : Int) + 1))] [wO ((k : Int) + 1)] (o1 (by omega)) fun G => b7 ?_))); exact M7 G (k + 1) (by have h9 := O6 (m := m) (pc := pc) hs hv r1 r2 (show k < ss.length by omega); have h8 := C3 (ss.getD k cb2); omega) (by have h9 := O6 (m := m) (pc := pc) hs hv r1 r2 (show k < ss.length by omega); have h8 := C3 (ss.getD k cb2); omega) (rg 8) (by have e1 : ((xB ars m pc vs bd ss (k + 1)).fst : List Int) = ((b8 ars pc (ss.getD k cb2).value (xB ars m pc vs bd ss k)).fst.fst) := (bZ5 (by omega) (by omega)); have e2 : ((xB ars m pc vs bd ss (k + 1)).snd : List b6) = ((w5 ars ss m pc vs bd k).fst.snd ++ ([b6.mk 5 (ss.getD k cb2).target (b5.mk 0 0 []) (U1 ars ss m pc vs bd k) 0 [] []] ++ [])) := (congrArg Prod.snd (bZ6 (by omega) (by omega))); (first | rw [e1, e2] | simp only [e1, e2]) <;> rfl)
    ·
     refine wp_seq (k8 G d9 (rg 14) (aS5 ars ss m pc vs bd k (ao1 ss k [.box (sL (ss.getD k cb2) 8), .tree (D.stmts [])])) (H8 m pc [(9, iA k), (10, .ptr 12 0), (11, .tref 13)]) fun G => b7 (wp_seq (k8 G (s4 5 [6, 1, 7, 10] (hI ((ss.getD k cb2).body) m pc ((xB ars m pc vs bd ss k).fst) ((xB ars m pc vs bd ss k).snd) ((an5 hs (by omega)).2.1) (by have h9 := O6 (m := m) (pc := pc) hs hv r1 r2 (show k < ss.length by omega); have h8 := C3 (ss.getD k cb2); omega) (by have h9 := O6 (m := m) (pc := pc) hs hv r1 r2 (show k < ss.length by omega); have h8 := C3 (ss.getD k cb2); omega) (by have h9 := O6 (m := m) (pc := pc) hs hv r1 r2 (show k < ss.length by omega); have h8 := C3 (ss.getD k cb2); omega) (by have h9 := O6 (m := m) (pc := pc) hs hv r1 r2 (show k < ss.length by omega); have h8 := C3 (ss.getD k cb2); omega))) [0, 1, 2, 3, 4, 5, 7, 8, 9, 10, 11, 12, 54, 55] (.dead :: dI ars :: dT ss :: .dead :: .box [.ref 12, .ref 1, .v (.slice none 0 0), .ref 6] :: L3 :: .row 106 (D.stmts (xB ars m pc vs bd ss k).snd) :: (ao1 ss k [.box (sL (ss.getD k cb2) 7), .row 3 (D.ints (k6 ars (ss.getD k cb2).body m pc ((xB ars m pc vs bd ss k).fst, [])).fst), dT (k6 ars (ss.getD k cb2).body m pc ((xB ars m pc vs bd ss k).fst, [])).snd])) (H8 m pc [(9, iA k), (10, .ptr 11 0), (11, .ref 13)]) fun G => b7 (wp_seq (N5 G d9 [0, 1, 2, 3, 4, 5, 7, 8, 9, 10, 11, 12, 70] (.dead :: dI ars :: dT ss :: .dead :: .box [.ref 11, .ref 1, .v (.slice none 0 0), .ref 12] :: L3 :: (ao1 ss k [.box (sL (ss.getD k cb2) 6), .row 3 (D.ints (k6 ars (ss.getD k cb2).body m pc ((xB ars m pc vs bd ss k).fst, [])).fst), .row 106 (D.stmts ((xB ars m pc vs bd ss k).snd ++ ([b6.mk 4 0 (b5.mk 0 0 []) (b5.mk 0 0 []) (ss.getD k cb2).count (k6 ars (ss.getD k cb2).body m pc ((xB ars m pc vs bd ss k).fst, [])).snd []] ++ [])))])) (H8 m pc [(9, iA k), (10, .ptr 10 0)]) (aP ((xB ars m pc vs bd ss k).snd.length + ([b6.mk (4 : Int) (0 : Int) (b5.mk (0 : Int) (0 : Int) []) (b5.mk (0 : Int) (0 : Int) []) (ss.getD k cb2).count (k6 ars (ss.getD k cb2).body m pc ((xB ars m pc vs bd ss k).fst, [])).snd []] ++ []).length) 152 []) (aK (by have h9 := O6 (m := m) (pc := pc) hs hv r1 r2 (show k < ss.length by omega); have h8 := C2 (xB ars m pc vs bd ss k).2; simp only [cb5, cb4, cb6]; omega) cc1) fun G => ?_)))))
     refine b7 (wp_exit (o0 (n5 (b7 (N5 G d9 [0, 1, 2, 3, 4, 5, 11, 12] [.dead, dI ars, dT ss, .dead, ac8, L3, .row 3 (D.ints (k6 ars (ss.getD k cb2).body m pc ((xB ars m pc vs bd ss k).fst, [])).fst), .row 106 (D.stmts ((xB ars m pc vs bd ss k).snd ++ ([b6.mk 4 0 (b5.mk 0 0 []) (b5.mk 0 0 []) (ss.getD k cb2).count (k6 ars (ss.getD k cb2).body m pc ((xB ars m pc vs bd ss k).fst, [])).snd []] ++ [])))] (H8 m pc [(9, iA ((k : Int) + 1))]) [wO ((k : Int) + 1)] (o1 (by omega)) fun G => b7 ?_))))); exact M7 G (k + 1) (by have h9 := O6 (m := m) (pc := pc) hs hv r1 r2 (show k < ss.length by omega); have h8 := C3 (ss.getD k cb2); omega) (by have h9 := O6 (m := m) (pc := pc) hs hv r1 r2 (show k < ss.length by omega); have h8 := C3 (ss.getD k cb2); omega) (rg 8) (by have e1 : ((xB ars m pc vs bd ss (k + 1)).fst : List Int) = ((k6 ars (ss.getD k cb2).body m pc ((xB ars m pc vs bd ss k).fst, [])).fst) := (bZ7 (by omega) (by omega)); have e2 : ((xB ars m pc vs bd ss (k + 1)).snd : List b6) = ((xB ars m pc vs bd ss k).snd ++ ([b6.mk 4 0 (b5.mk 0 0 []) (b5.mk 0 0 []) (ss.getD k cb2).count (k6 ars (ss.getD k cb2).body m pc ((xB ars m pc vs bd ss k).fst, [])).snd []] ++ [])) := (congrArg Prod.snd (bZ8 (by omega) (by omega))); (first | rw [e1, e2] | simp only [e1, e2]) <;> rfl)
   · refine wp_seq (k8 G (s4 4 [6, 1, 7, 8, 9, 10, 11] (hF (ss.getD k cb2) (by assumption) ((an5 hs (by omega)).1) ((an5 hs (by omega)).2.1) ((an5 hs (by omega)).2.2) (by have h9 := O6 (m := m) (pc := pc) hs hv r1 r2 (show k < ss.length by omega); have h8 := C3 (ss.getD k cb2); omega) m pc ((xB ars m pc vs bd ss k).fst) ((xB ars m pc vs bd ss k).snd) (by have h9 := O6 (m := m) (pc := pc) hs hv r1 r2 (show k < ss.length by omega); have h8 := C3 (ss.getD k cb2); omega) (by have h9 := O6 (m := m) (pc := pc) hs hv r1 r2 (show k < ss.length by omega); have h8 := C3 (ss.getD k cb2); omega) (by have h9 := O6 (m := m) (pc := pc) hs hv r1 r2 (show k < ss.length by omega); have h8 := C3 (ss.getD k cb2); omega))) [0, 1, 2, 3, 4, 5, 8, 9, 10, 11, 12, 45, 46] (.dead :: dI ars :: dT ss :: .dead :: .box [.ref 11, .ref 1, .v (.slice none 0 0), .ref 12] :: L3 :: (ao1 ss k [.box (sL (ss.getD k cb2) 6), .row 3 (D.ints (r7 ars (ss.getD k cb2) m pc (xB ars m pc vs bd ss k)).fst), .row 106 (D.stmts (r7 ars (ss.getD k cb2) m pc (xB ars m pc vs bd ss k)).snd)])) (H8 m pc [(9, iA k), (10, .ptr 10 0)]) fun G => b7 (wp_exit (o0 (n5 (b7 (N5 G d9 [0, 1, 2, 3, 4, 5, 11, 12] [.dead, dI ars, dT ss, .dead, ac8, L3, .row 3 (D.ints (r7 ars (ss.getD k cb2) m pc (xB ars m pc vs bd ss k)).fst), .row 106 (D.stmts (r7 ars (ss.getD k cb2) m pc (xB ars m pc vs bd ss k)).snd)] (H8 m pc [(9, iA ((k : Int) + 1))]) [wO ((k : Int) + 1)] (o1 (by omega)) fun G => b7 ?_)))))); exact M7 G (k + 1) (by have h9 := O6 (m := m) (pc := pc) hs hv r1 r2 (show k < ss.length by omega); have h8 := C3 (ss.getD k cb2); omega) (by have h9 := O6 (m := m) (pc := pc) hs hv r1 r2 (show k < ss.length by omega); have h8 := C3 (ss.getD k cb2); omega) (rg 8) (by have e1 : ((xB ars m pc vs bd ss (k + 1)).fst : List Int) = ((r7 ars (ss.getD k cb2) m pc (xB ars m pc vs bd ss k)).fst) := (congrArg Prod.fst (as4 (by omega))); have e2 : ((xB ars m pc vs bd ss (k + 1)).snd : List b6) = ((r7 ars (ss.getD k cb2) m pc (xB ars m pc vs bd ss k)).snd) := (congrArg Prod.snd (as4 (by omega))); (first | rw [e1, e2] | simp only [e1, e2]) <;> rfl)
end Go.Proofs.YthikdkjjdeehoaaGreat
