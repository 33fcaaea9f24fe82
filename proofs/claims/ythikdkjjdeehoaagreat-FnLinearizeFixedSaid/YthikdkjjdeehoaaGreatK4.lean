/-
  Texts of this claim, part 4: what the functions on the way do, and plain laws. Conditions: as each statement says.
-/
import Derived.WalkSpells
import Derived.Lib.SliceRun
import Derived.Test.YthikdkjjdeehoaaGreatK3
set_option maxRecDepth 100000
set_option maxHeartbeats 16000000
open Bool renaming and_eq_false_iff → ca4, and_eq_true → b86, and_eq_true_iff → ca6, not_eq_false' → b97, not_eq_true' → b95
open Inhabited renaming default → b85
open List renaming all_eq_true → b93, eq_nil_of_length_eq_zero → ca0, getD_eq_getElem?_getD → b91, getElem?_append_left → ca9, getElem?_append_right → cc6, getElem?_eq_getElem → b90, getElem?_eq_none → cb5, getElem?_eq_some_iff → b98, getElem_mem → cb0, length_append → b88, length_cons → b87, length_nil → b89, map_cons → cb9, mem_append → ca2, mem_cons_of_mem → ca8, mem_cons_self → ca1, mem_of_getElem? → cb4, mem_singleton → ca5, range → cb2, replicate → cb3, take → b96, take_of_length_le → ca3
open Nat renaming le_refl → b99, le_trans → ca7, lt_or_ge → cc0, zero_le → cc1
open Option renaming isSome_iff_exists → cc4
open True renaming intro → b94

namespace Go.Proofs.YthikdkjjdeehoaaGreat
set_option linter.unusedVariables false
set_option linter.unusedSimpArgs false
open Go Go.RowKit
mutual
theorem aJ3 (ars : List Int) (pc : Int) : ∀ (e : b5) (vs : List Int) (bd : List b6), b8 ars pc e (vs, bd) = (((b8 ars pc e (vs, [])).1.1, bd ++ (b8 ars pc e (vs, [])).1.2), (b8 ars pc e (vs, [])).2)
 | ⟨k, v, ks⟩, vs, bd => by
  rw [b8, b8, ai5 ars pc ks vs bd]
  split
  ·simp
  ·rfl
theorem ai5 (ars : List Int) (pc : Int) : ∀ (ks : List b5) (vs : List Int) (bd : List b6), o0 ars pc ks (vs, bd) = (((o0 ars pc ks (vs, [])).1.1, bd ++ (o0 ars pc ks (vs, [])).1.2), (o0 ars pc ks (vs, [])).2)
 | [], vs, bd => by simp [o0]
 | e :: t, vs, bd => by
  simp only [o0]
  rw [aJ3 ars pc e vs bd, ai5 ars pc t (b8 ars pc e (vs, [])).1.1 (bd ++ (b8 ars pc e (vs, [])).1.2)]
  have h : o0 ars pc t (b8 ars pc e (vs, [])).1 = (((o0 ars pc t ((b8 ars pc e (vs, [])).1.1, [])).1.1, (b8 ars pc e (vs, [])).1.2 ++ (o0 ars pc t ((b8 ars pc e (vs, [])).1.1, [])).1.2), (o0 ars pc t ((b8 ars pc e (vs, [])).1.1, [])).2) := ai5 ars pc t (b8 ars pc e (vs, [])).1.1 (b8 ars pc e (vs, [])).1.2
  rw [h]
  simp
end
mutual
theorem bc0 (ars : List Int) : ∀ (s : b6) (m pc : Int) (vs : List Int) (bd : List b6), r7 ars s m pc (vs, bd) = ((r7 ars s m pc (vs, [])).1, bd ++ (r7 ars s m pc (vs, [])).2)
 | ⟨k, t, i, v, c, b, e⟩, m, pc, vs, bd => by
  rw [r7, r7, aJ3 ars pc v vs bd]
  split
  ·simp
  ·split
   ·split
    ·have h1 := fun m pc vs bd => P2 ars b m pc vs bd
     have h2 := fun m pc vs bd => P2 ars e m pc vs bd
     simp only [ifM]
     rw [h1 _ _ _ (bd ++ (b8 ars pc v (vs, [])).1.2 ++ _ ++ _), h2, h1 _ _ _ ((b8 ars pc v (vs, [])).1.2 ++ _ ++ _), h2 _ _ _ ((b8 ars pc v (vs, [])).1.2 ++ _ ++ _ ++ _)]
     simp
    ·simp
   ·split
    ·simp
    ·split
     ·simp
     ·split <;> simp
theorem P2 (ars : List Int) : ∀ (ss : List b6) (m pc : Int) (vs : List Int) (bd : List b6), i8 ars ss m pc (vs, bd) = ((i8 ars ss m pc (vs, [])).1, bd ++ (i8 ars ss m pc (vs, [])).2)
 | [], _, _, _, _ => by simp [i8]
 | x :: r, m, pc, vs, bd => by
  simp only [i8]
  rw [bc0 ars x m pc vs bd, P2 ars r m pc (r7 ars x m pc (vs, [])).1 (bd ++ (r7 ars x m pc (vs, [])).2)]
  have h : i8 ars r m pc (r7 ars x m pc (vs, [])) = ((i8 ars r m pc ((r7 ars x m pc (vs, [])).1, [])).1, (r7 ars x m pc (vs, [])).2 ++ (i8 ars r m pc ((r7 ars x m pc (vs, [])).1, [])).2) := P2 ars r m pc (r7 ars x m pc (vs, [])).1 (r7 ars x m pc (vs, [])).2
  rw [h]
  simp
end
structure GrS (sz : Nat) (x r : U6) : Prop where
 lo : x.1.length ≤ r.1.length
 hi : r.1.length ≤ x.1.length + 4 * sz
 st : i5 r.2 ≤ i5 x.2 + 130 * sz
 len : x.2.length ≤ r.2.length
theorem GrS.refl (x : U6) (n : Nat) : GrS n x x := ⟨b99 _, by omega, by omega, b99 _⟩
theorem ad6 {nv na : Nat} {s : b6} (h : t7 nv na s = true) (k : s.kind = 2) : s.index.kids = [] ∧ atomB s.index = true ∧ f5 nv na 5 s.index = true := by
 rw [I7 k] at h
 simp only [b86] at h
 have hs := ah6 h.2.1
 exact ⟨(aL5 (ars := []) (pc := 0) (s := ([], [])) h.2.2.1 hs).2, h.2.2.1, hs⟩
theorem aC2 {e : b5} (h : e.kids = []) : v7 e = 0 := by rw [A3, h]; rfl
theorem aW7 {ars : List Int} {na nv d : Nat} (ih : ∀ (s : b6) (m pc : Int) (x : U6), f6 nv na d s = true → nv ≤ x.1.length → GrS (1 + D7 s) x (r7 ars s m pc x)) :
  ∀ (ss : List b6) (m pc : Int) (x : U6), ss.all (f6 nv na d) = true → nv ≤ x.1.length → GrS (i5 ss) x (i8 ars ss m pc x)
 | [], _, _, x, _, _ => GrS.refl x _
 | s :: r, m, pc, x, h, hx => by
  simp only [List.all_cons, b86] at h
  have h1 := ih s m pc x h.1 hx
  have h2 := aW7 ih r m pc (r7 ars s m pc x) h.2 (ca7 hx h1.lo)
  rw [i8, i5]
  exact ⟨ca7 h1.lo h2.lo, by have := h1.hi; have := h2.hi; omega, by have := h1.st; have := h2.st; omega, ca7 h1.len h2.len⟩
theorem bj5 (ars : List Int) (na nv : Nat) : ∀ (d : Nat) (s : b6) (m pc : Int) (x : U6), f6 nv na d s = true → nv ≤ x.1.length → GrS (1 + D7 s) x (r7 ars s m pc x)
 | 0, _, _, _, _, h, _ => by simp [f6] at h
 | d + 1, s, m, pc, x, h, hx => by
  have blk := fun (ss : List b6) (m pc : Int) (x : U6) => aW7 (ars := ars) (na := na) (nv := nv) (d := d) (fun s m pc x => bj5 ars na nv d s m pc x) ss m pc x
  rw [D8, b86, b86] at h
  obtain ⟨hh, hb, he⟩ := h
  have hsz : D7 s = v7 s.index + v7 s.value + i5 s.body + i5 s.els := by cases s; rfl
  by_cases k4 : s.kind = 4
  ·rw [ln4 k4]
   have h1 := blk s.body m pc (x.1, []) hb hx
   have a := h1.lo; have b := h1.hi; have c := h1.st
   simp only [i5] at a b c
   have e0 : v7 nnE = 0 := rfl
   refine ⟨a, ?_, ?_, ?_⟩
   ·simp only; omega
   ·simp only [x7, i5, D7, e0]; omega
   ·simp
  have hv : f5 x.1.length na 5 s.value = true := x4 hx 5 _ (n5 hh k4)
  obtain ⟨g1, g2, g3⟩ := Y7 ars pc na 5 s.value x hv
  have a0 := g1.lo; have b0 := g1.hi; have c0 := g1.st; have d0 := g1.len
  have e0 : v7 nnE = 0 := rfl
  have e1 : v7 (cnE 0) = 0 := rfl
  by_cases k3 : s.kind = 3
  ·cases hs : x5 (b9 x.1 ars 5 s.value)
   ·rw [bz2 k3 hs]
    have h1 := blk s.body m (i6 pc (b9 x.1 ars 5 s.value)) ((b8 ars pc s.value x).1.1, []) hb (ca7 hx a0)
    have h2 := blk s.els m (i6 pc (b9 x.1 ars 5 s.value)) ((i8 ars s.body m (i6 pc (b9 x.1 ars 5 s.value)) ((b8 ars pc s.value x).1.1, [])).1, []) he (ca7 hx (ca7 a0 h1.lo))
    have a := h1.lo; have b := h1.hi; have c := h1.st
    have a2 := h2.lo; have b2 := h2.hi; have c2 := h2.st
    simp only [i5] at a b c a2 b2 c2
    refine ⟨?_, ?_, ?_, ?_⟩
    ·simp only; omega
    ·simp only; omega
    ·simp only [x7, i5, D7, e0]; omega
    ·simp; omega
   ·rw [bI8 k3 hs]
    generalize hl : i6 pc (b9 x.1 ars 5 s.value) = l
    generalize hy : ifM (b8 ars pc s.value x) m l = y
    have y1 : y.1.length = (b8 ars pc s.value x).1.1.length + 2 := by rw [← hy]; simp
    have y2 : i5 y.2 ≤ i5 (b8 ars pc s.value x).1.2 + 20 + v7 (b8 ars pc s.value x).2 := by
     have m1 := ad0 m (b8 ars pc s.value x).2 (cnE 0)
     have m2 := ad0 m ⟨9, 0, [vrE ((b8 ars pc s.value x).1.1.length : Int), cnE 0]⟩ (cnE 0)
     have m3 : v7 ⟨9, 0, [vrE ((b8 ars pc s.value x).1.1.length : Int), cnE 0]⟩ = 2 := rfl
     rw [← hy]
     simp only [ifM, x7, i5, D7, e0]; omega
    have y3 : (b8 ars pc s.value x).1.2.length ≤ y.2.length := by rw [← hy]; simp
    have h1 := blk s.body ((b8 ars pc s.value x).1.1.length : Int) l y hb (by omega)
    have h2 := blk s.els (((b8 ars pc s.value x).1.1 ++ [l]).length : Int) l (i8 ars s.body ((b8 ars pc s.value x).1.1.length : Int) l y) he (by have := h1.lo; omega)
    have a := h1.lo; have b := h1.hi; have c := h1.st; have d1 := h1.len
    have a2 := h2.lo; have b2 := h2.hi; have c2 := h2.st; have d2 := h2.len
    exact ⟨by omega, by omega, by omega, by omega⟩
  by_cases k5 : s.kind = 5
  ·rw [ln5 k5]
   refine ⟨a0, ?_, ?_, ?_⟩
   ·simp only; omega
   ·simp only [x7, i5, D7, e0]; omega
   ·simp; omega
  by_cases k1 : s.kind = 1
  ·rw [ln1 k1]
   have m1 := ad0 m (b8 ars pc s.value x).2 (vrE s.target)
   have m2 : v7 (vrE s.target) = 0 := rfl
   refine ⟨a0, ?_, ?_, ?_⟩
   ·simp only; omega
   ·simp only [x7, i5, D7, e0]; omega
   ·simp; omega
  by_cases k2 : s.kind = 2
  ·obtain ⟨q1, -, -⟩ := ad6 hh k2
   cases hs : x5 (b9 (b8 ars pc s.value x).1.1 ars 5 s.index)
   ·rw [bo6 k2 hs]
    have m1 := ad0 m (b8 ars pc s.value x).2 (rdE s.target s.index)
    have m2 : v7 (rdE s.target s.index) = 1 := by simp [v7, n8, aC2 q1]
    have m3 := aC2 q1
    refine ⟨a0, ?_, ?_, ?_⟩
    ·simp only; omega
    ·simp only [x7, i5, D7]; omega
    ·simp; omega
   ·rw [bz3 k2 hs]
    have m1 := bu5 ((b8 ars pc s.value x).1.1.length : Int) s.target s.index m q1 4
    refine ⟨?_, ?_, ?_, ?_⟩
    ·simp; omega
    ·simp; omega
    ·simp only [x7, i5, D7, e0]; omega
    ·simp; omega
  ·rw [an0 ⟨k1, k2, k3, k4, k5⟩] at hh; cases hh
theorem ax2 (ars : List Int) {na nv d : Nat} (ss : List b6) (m pc : Int) (x : U6) (h : ss.all (f6 nv na d) = true) (hx : nv ≤ x.1.length) : GrS (i5 ss) x (i8 ars ss m pc x) := aW7 (bj5 ars na nv d) ss m pc x h hx
theorem as9 {nv na : Nat} {e : b5} (h : l6 nv na e = true) : v7 e ≤ 14 := by
 unfold l6 at h; simp only [b86, decide_eq_true_eq] at h; omega
theorem aB7 {e : b5} (h : noneB e = true) : v7 e = 0 := by
 unfold noneB at h; simp only [b86, decide_eq_true_eq] at h
 exact aC2 (ca0 h.2)
theorem bh3 {nv na d : Nat} (ih : ∀ s : b6, f6 nv na d s = true → 1 + D7 s ≤ 29 * nS s) : ∀ ss : List b6, ss.all (f6 nv na d) = true → i5 ss ≤ 29 * L8 ss
 | [], _ => b99 _
 | s :: r, h => by
  simp only [List.all_cons, b86] at h
  have h1 := ih s h.1
  have h2 := bh3 ih r h.2
  rw [i5, L8]; omega
theorem bt7 {nv na : Nat} : ∀ (d : Nat) (s : b6), f6 nv na d s = true → 1 + D7 s ≤ 29 * nS s
 | 0, _, h => by simp [f6] at h
 | d + 1, s, h => by
  rw [D8, b86, b86] at h
  obtain ⟨hh, hb, he⟩ := h
  have h1 := bh3 (fun s => bt7 d s) s.body hb
  have h2 := bh3 (fun s => bt7 d s) s.els he
  have hsz : D7 s = v7 s.index + v7 s.value + i5 s.body + i5 s.els := by cases s; rfl
  have hn := ap4 s
  have key : v7 s.index + v7 s.value ≤ 28 := by
   by_cases k4 : s.kind = 4
   ·rw [T2 k4] at hh; simp only [b86] at hh
    have := aB7 hh.2.1; have := aB7 hh.2.2; omega
   by_cases k3 : s.kind = 3
   ·rw [W7 k3] at hh; simp only [b86] at hh
    have := aB7 hh.2.1; have := as9 hh.2.2; omega
   by_cases k15 : s.kind = 1 ∨ s.kind = 5
   ·rw [A1 k15] at hh; simp only [b86] at hh
    have := aB7 hh.2.1; have := as9 hh.2.2; omega
   by_cases k2 : s.kind = 2
   ·rw [I7 k2] at hh; simp only [b86] at hh
    have := as9 hh.2.1; have := as9 hh.2.2.2; omega
   ·rw [an0 (by omega)] at hh; cases hh
  omega
def ai4 (p : d7) : U6 := i8 p.arrays p.body (-1) 0 (p.vars, [])
def aW9 (p : d7) : d7 := ⟨(ai4 p).1, p.arrays, (ai4 p).2⟩
theorem aa4 {p : d7} (h : m0 p = true) : p.vars.length ≤ 12 ∧ p.arrays.length ≤ 2 ∧ i5 p.body ≤ 1740 := by
 unfold m0 F4 ae6 at h
 simp only [b86, decide_eq_true_eq] at h
 have := bh3 (bt7 5) p.body h.1.2
 omega
theorem aW8 {p : d7} (h : m0 p = true) : p.vars.length ≤ (ai4 p).1.length ∧ (ai4 p).1.length ≤ 7000 ∧ i5 (ai4 p).2 ≤ 230000 := by
 have hz := aa4 h
 have hb : p.body.all (f6 p.vars.length p.arrays.length 5) = true := (V0 h).2.2.2
 have g := ax2 p.arrays p.body (-1) 0 (p.vars, []) hb (b99 _)
 have a := g.lo; have b := g.hi; have c := g.st
 simp only [i5] at a b c
 unfold ai4
 omega
theorem bI9 {p : d7} (h : m0 p = true) : (aW9 p).size ≤ 240000 := by
 have h1 := aW8 h
 have h2 := aa4 h
 show (ai4 p).1.length + p.arrays.length + i5 (ai4 p).2 ≤ _
 omega
def Q9 (p : d7) : Bool := decide ((C7 p false).1 = 0) && m0 (aW9 p)
def t3 (p : d7) : d7 := if Q9 p = true then aW9 p else ⟨[], [], []⟩
theorem L4 {p : d7} (h : (C7 p false).1 = 0) : m0 p = true := ((al5 p false).1 h).1
theorem bO6 {p : d7} (h : ¬ (C7 p false).1 = 0) : Q9 p = false := by unfold Q9; rw [decide_eq_false h, Bool.false_and]
theorem bO5 {p : d7} (h : m0 (aW9 p) = false) : Q9 p = false := by unfold Q9; rw [h, Bool.and_false]
theorem by1 {p : d7} (h : (C7 p false).1 = 0) (h2 : m0 (aW9 p) = true) : Q9 p = true := by unfold Q9; rw [decide_eq_true h, h2]; rfl
theorem bj3 {p : d7} (h : Q9 p = false) : t3 p = ⟨[], [], []⟩ := by unfold t3; rw [h]; rfl
theorem bj2 {p : d7} (h : Q9 p = true) : t3 p = aW9 p := by unfold t3; rw [h]; rfl
theorem bT2 (p : d7) : (t3 p).size ≤ 240000 := by
 cases h : Q9 p
 ·rw [bj3 h]; simp [d7.size, i5]
 ·rw [bj2 h]
  unfold Q9 at h
  simp only [b86, decide_eq_true_eq] at h
  exact bI9 (L4 h.1)
mutual
def AV.den (t : Bool) (n : Nat) : AV → AV
 | .v x => .v x
 | .ptr a b => .ptr a b
 | .ea a b c d => .ea a b c d
 | .ref i => if !t && natEq i n then .v (.slice none 0 0) else .ref i
 | .agg l => .agg (AV.denL t n l)
 | .tup l => .tup (AV.denL t n l)
 | .fn f l => .fn f (AV.denL t n l)
 | .bm f l => .bm f (AV.denL t n l)
 | .tref i => if t && natEq i n then .v (.slice none 0 0) else .tref i
def AV.denL (t : Bool) (n : Nat) : List AV → List AV
 | [] => []
 | x :: r => x.den t n :: AV.denL t n r
end
def It.den (t : Bool) (n : Nat) : It → It
 | .box cs => .box (AV.denL t n cs)
 | x => x
mutual
theorem AV.val_den {ρ : Nat → Value} {t : Bool} {n : Nat} {z : Value} (hz : if t then E7 z = .slice none 0 0 else z = .slice none 0 0) : ∀ (x : AV), (∀ i ∈ (x.den t n).ids, i < n) → x.val (fun j => if j = n then z else ρ j) = (x.den t n).val ρ ∧ ∀ i ∈ x.ids, i < n + 1
 | .v _, _ => ⟨rfl, fun i hi => by simp [AV.ids] at hi⟩
 | .ptr a b, h => by
  have ha : a < n := h a (by simp [AV.den, AV.ids])
  refine ⟨?_, fun i hi => by simp [AV.ids] at hi; omega⟩
  simp only [AV.den, AV.val]
  rw [if_neg (by omega)]
 | .ea a b c d, h => by
  have ha : a < n := h a (by simp [AV.den, AV.ids])
  refine ⟨?_, fun i hi => by simp [AV.ids] at hi; omega⟩
  simp only [AV.den, AV.val]
  rw [if_neg (by omega)]
 | .ref a, h => by
  by_cases e : t = false ∧ a = n
  ·obtain ⟨rfl, rfl⟩ := e
   refine ⟨?_, fun i hi => by simp [AV.ids] at hi; omega⟩
   simp only [Bool.false_eq_true, if_false] at hz
   simp [AV.den, AV.val, natEq, hz]
  ·have hd : (AV.ref a).den t n = .ref a := by
    simp only [AV.den]
    rw [if_neg]
    simp [natEq]; intro h1 h2; exact e ⟨h1, h2⟩
   rw [hd] at h ⊢
   have ha : a < n := h a (by simp [AV.ids])
   refine ⟨?_, fun i hi => by simp [AV.ids] at hi; omega⟩
   simp only [AV.val]
   rw [if_neg (by omega)]
 | .tref a, h => by
  by_cases e : t = true ∧ a = n
  ·obtain ⟨rfl, rfl⟩ := e
   refine ⟨?_, fun i hi => by simp [AV.ids] at hi; omega⟩
   simp only [if_true] at hz
   simp [AV.den, AV.val, natEq, hz]
  ·have hd : (AV.tref a).den t n = .tref a := by
    simp only [AV.den]
    rw [if_neg]
    simp [natEq]; intro h1 h2; exact e ⟨h1, h2⟩
   rw [hd] at h ⊢
   have ha : a < n := h a (by simp [AV.ids])
   refine ⟨?_, fun i hi => by simp [AV.ids] at hi; omega⟩
   simp only [AV.val]
   rw [if_neg (by omega)]
 | .agg l, h => by
  obtain ⟨h1, h2⟩ := AV.vals_den hz l (by simpa [AV.den, AV.ids] using h)
  exact ⟨by simp only [AV.den, AV.val]; rw [h1], by simpa [AV.ids] using h2⟩
 | .tup l, h => by
  obtain ⟨h1, h2⟩ := AV.vals_den hz l (by simpa [AV.den, AV.ids] using h)
  exact ⟨by simp only [AV.den, AV.val]; rw [h1], by simpa [AV.ids] using h2⟩
 | .fn f l, h => by
  obtain ⟨h1, h2⟩ := AV.vals_den hz l (by simpa [AV.den, AV.ids] using h)
  exact ⟨by simp only [AV.den, AV.val]; rw [h1], by simpa [AV.ids] using h2⟩
 | .bm f l, h => by
  obtain ⟨h1, h2⟩ := AV.vals_den hz l (by simpa [AV.den, AV.ids] using h)
  exact ⟨by simp only [AV.den, AV.val]; rw [h1], by simpa [AV.ids] using h2⟩
theorem AV.vals_den {ρ : Nat → Value} {t : Bool} {n : Nat} {z : Value} (hz : if t then E7 z = .slice none 0 0 else z = .slice none 0 0) : ∀ (l : List AV), (∀ i ∈ AV.idsL (AV.denL t n l), i < n) → AV.vals (fun j => if j = n then z else ρ j) l = AV.vals ρ (AV.denL t n l) ∧ ∀ i ∈ AV.idsL l, i < n + 1
 | [], _ => ⟨rfl, fun i hi => by simp [AV.idsL] at hi⟩
 | x :: r, h => by
  obtain ⟨h1, h2⟩ := AV.val_den hz x fun i hi => h i (by simp only [AV.denL, AV.idsL, ca2]; exact .inl hi)
  obtain ⟨h3, h4⟩ := AV.vals_den hz r fun i hi => h i (by simp only [AV.denL, AV.idsL, ca2]; exact .inr hi)
  refine ⟨by simp only [AV.denL, AV.vals]; rw [h1, h3], fun i hi => ?_⟩
  simp only [AV.idsL, ca2] at hi
  rcases hi with hi | hi
  ·exact h2 i hi
  ·exact h4 i hi
end
theorem aI9 {m : Bool} {n : Nat} {t : Nat} {x : AV} : ∀ {tm : List (Nat × AV)}, y8 tm t = some x → y8 (tm.map fun p => (p.1, p.2.den m n)) t = some (x.den m n)
 | [], h => by cases h
 | (k, y) :: r, h => by
  simp only [y8, cb9] at h ⊢
  split at h
  ·rename_i e; cases h; rw [if_pos e]
  ·rename_i e; rw [if_neg e]; exact aI9 h
section
variable {P : Program} {ι : Type} {φ ψ : Nat → Prop} {w0 w : World} {F : ι → Rs} {ρ ρ0 : Nat → Value} {N m n : Nat} {S : List It} {tm : List (Nat × AV)} {a : Act}
theorem s5.nilW (G : s5 φ ψ w0 F N m ρ0 ρ S tm a w) (n : Nat) (hn : S.length = n) (b : Bool) (x : It) (z : Value) (hz : if b then E7 z = .slice none 0 0 else z = .slice none 0 0) (hids : x.ids = []) (hb : ∀ g, ¬ (x.res (fun j => if j = n then z else ρ j) n).blk g)
  (hx : ∀ φ', (x.res (fun j => if j = n then z else ρ j) n).holds w φ') (S1 : List It) (tm1 : List (Nat × AV)) (hS : S = S1.map (It.den b n)) (ht : tm = tm1.map fun p => (p.1, p.2.den b n)) :
  ∃ ρ', s5 φ ψ w0 F N m ρ0 ρ' (S1 ++ [x]) tm1 a w := by
 have hl : S1.length = n := by rw [← hn, hS, List.length_map]
 have hat : ∀ j (hj : j < n), s0 S j = (S1[j]'(by omega)).den b n := fun j hj => by
  rw [ad1 (show j < S.length by omega)]
  have h1 := congrArg (·[j]?) hS
  simp only [List.getElem?_map, b90 (show j < S.length by omega), b90 (show j < S1.length by omega), Option.map_some, Option.some.injEq] at h1
  exact h1
 have hnew : ∀ j (hj : j < n), s0 (S1 ++ [x]) j = S1[j]'(by omega) := fun j hj => by
  simp [s0, b91, ca9 (show j < S1.length by omega), b90 (show j < S1.length by omega)]
 have hlast : s0 (S1 ++ [x]) n = x := by
  simp [s0, b91, ← hl]
 have hout : ∀ j, n < j → s0 (S1 ++ [x]) j = .none := fun j hj => w9 (by simp; omega)
 have hbx : ∀ j (hj : j < n), ((S1[j]'(by omega)).res (fun j => if j = n then z else ρ j) j = (s0 S j).res ρ j) ∧ ∀ i ∈ (S1[j]'(by omega)).ids, i < n + 1 := fun j hj => by
  rw [hat j hj]
  have hb := (G.bd j).1
  rw [hat j hj, hn] at hb
  generalize S1[j]'(by omega) = x at *
  cases x with
  | box cs =>
   obtain ⟨h1, h2⟩ := AV.vals_den (ρ := ρ) (n := n) hz cs hb
   refine ⟨?_, h2⟩
   simp only [It.res, It.den]
   rw [h1, if_neg (show ¬ j = n by omega)]
  | none => exact ⟨rfl, fun i hi => by cases hi⟩
  | dead => exact ⟨rfl, fun i hi => by cases hi⟩
  | dat d' => exact ⟨by simp only [It.res, It.den]; rw [if_neg (show ¬ j = n by omega)], fun i hi => by cases hi⟩
  | row e' d' => exact ⟨by simp only [It.res, It.den]; rw [if_neg (show ¬ j = n by omega)], fun i hi => by cases hi⟩
  | tree d' => exact ⟨by simp only [It.res, It.den]; rw [if_neg (show ¬ j = n by omega)], fun i hi => by cases hi⟩
  | kept e' d' => exact ⟨by cases e' <;> (simp only [It.res, It.den]; rw [if_neg (show ¬ j = n by omega)]), fun i hi => by cases hi⟩
 have hw : ∀ t x, y8 tm1 t = some x → x.val (fun j => if j = n then z else ρ j) = (x.den b n).val ρ ∧ ∀ i ∈ x.ids, i < n + 1 := fun t x hx => by
  refine AV.val_den hz x fun i hi => ?_
  have h1 : y8 tm t = some (x.den b n) := by rw [ht]; exact aI9 hx
  have := G.tmi t _ h1 i hi
  omega
 refine ⟨fun j => if j = n then z else ρ j, ?_⟩
 refine ⟨G.size, G.defs, fun t x hx => ?_, fun t x hx i hi => ?_, fun j => ⟨fun i hi => ?_, fun hj => w9 hj⟩, ?_, ?_, fun i hi => ?_⟩
 ·have h1 : y8 tm t = some (x.den b n) := by rw [ht]; exact aI9 hx
  rw [(hw t x hx).1]; exact G.tmv t _ h1
 ·have := (hw t x hx).2 i hi
  simp; omega
 ·rcases Nat.lt_trichotomy j n with h | h | h
  ·rw [hnew j h] at hi
   have := (hbx j h).2 i hi
   simp; omega
  ·subst h; rw [hlast, hids] at hi; cases hi
  ·rw [hout j h] at hi; cases hi
 ·refine m5.put G.mem (.inr n) (fun k hk => ?_) (B8.refl _ _) ?_ ?_
  ·cases k with
   | inl i => rfl
   | inr j =>
    simp only [p7]
    rcases Nat.lt_trichotomy j n with h | h | h
    ·rw [hnew j h]; exact (hbx j h).1
    ·exact absurd (by rw [h]) hk
    ·rw [hout j h, w9 (show S.length ≤ j by omega)]; rfl
  ·simp only [p7, hlast]; exact hx _
  ·intro g hg
   simp only [p7, hlast] at hg
   exact absurd hg (hb g)
 ·have := G.le; simp; omega
 ·show (if i = n then _ else ρ i) = ρ0 i
  have := G.le
  rw [if_neg (by omega)]; exact G.old i hi
theorem s5.nil (G : s5 φ ψ w0 F N m ρ0 ρ S tm a w) (n : Nat) (e : TypeId) (d : D) (k : Nat) (S1 : List It) (tm1 : List (Nat × AV)) (hn : S.length = n := by kernel_rfl) (hd : D.nil k = some d := by kernel_rfl) (hS : S = S1.map (It.den false n) := by kernel_rfl) (ht : tm = tm1.map (fun p => (p.1, p.2.den false n)) := by kernel_rfl) :
  ∃ ρ', s5 φ ψ w0 F N m ρ0 ρ' (S1 ++ [.row e d]) tm1 a w := by
 have hz := D.nil_len hd
 refine G.nilW n hn false (.row e d) (.slice none 0 0) (by simp) rfl (fun g hg => ?_) (fun φ' => ?_) S1 tm1 hS ht
 ·simp only [It.res, if_true] at hg
  cases hg
 ·simp only [It.res, if_true]
  refine ⟨fun xs => RW.nice d xs, [], ?_, RW.nil hz _⟩
  rw [hz]; exact World.ownsRow_nil _ _ _ _
theorem s5.nilT (G : s5 φ ψ w0 F N m ρ0 ρ S tm a w) (n : Nat) (d : D) (S1 : List It) (tm1 : List (Nat × AV)) (hn : S.length = n := by kernel_rfl) (hd : ((am7 d).isSome && natEq d.len 0) = true := by kernel_rfl) (hS : S = S1.map (It.den true n) := by kernel_rfl) (ht : tm = tm1.map (fun p => (p.1, p.2.den true n)) := by kernel_rfl) :
  ∃ ρ', s5 φ ψ w0 F N m ρ0 ρ' (S1 ++ [.tree d]) tm1 a w := by
 simp only [b86, natEq, beq_iff_eq] at hd
 obtain ⟨e, he⟩ := cc4.1 hd.1
 obtain ⟨z, h1, h2⟩ := aK4 (.slice none 0 0) (fun _ => False) 0 fun b h => h.elim
 refine G.nilW n hn true (.tree d) z (by simp [h1]) rfl (fun g hg => ?_) (fun φ' => ?_) S1 tm1 hS ht
 ·simp only [It.res, if_true] at hg
  exact ((h2 g).1 hg).elim
 ·simp only [It.res, if_true]
  rw [h1]
  refine ⟨fun _ _ h hs => h.same hs, ⟨e, [], fun _ => False, he, ?_, (fun g hg => by cases hg), (fun b hb => hb.elim), ?_⟩, fun b hb => ((h2 b).1 hb).elim⟩
  ·rw [hd.2]; exact World.ownsRow_nil _ _ _ _
  ·have h0 := hd.2
   cases d <;> simp only [am7] at he <;> first | cases he | skip
   all_goals (simp only [D.len] at h0; rw [ca0 h0]; rfl)
end
inductive Ln where
 | no
 | row (e : TypeId)
 | tree
def x3 (M : List Ln) (i : Nat) : Ln := M.getD i .no
def Ln.isT : Ln → Bool
 | .tree => true
 | _ => false
mutual
def AV.tr (M : List Ln) : AV → AV
 | .v x => .v x
 | .ptr a b => .ptr a b
 | .ea a b c d => .ea a b c d
 | .ref i => if (x3 M i).isT then .tref i else .ref i
 | .agg l => .agg (AV.trL M l)
 | .tup l => .tup (AV.trL M l)
 | .fn f l => .fn f (AV.trL M l)
 | .bm f l => .bm f (AV.trL M l)
 | .tref i => .tref i
def AV.trL (M : List Ln) : List AV → List AV
 | [] => []
 | x :: r => x.tr M :: AV.trL M r
end
mutual
def AV.trOk (M : List Ln) : AV → Bool
 | .v _ => true
 | .ptr a _ => !(x3 M a).isT
 | .ea a _ _ _ => !(x3 M a).isT
 | .ref _ => true
 | .agg l => AV.trOkL M l
 | .tup l => AV.trOkL M l
 | .fn _ l => AV.trOkL M l
 | .bm _ l => AV.trOkL M l
 | .tref i => !(x3 M i).isT
def AV.trOkL (M : List Ln) : List AV → Bool
 | [] => true
 | x :: r => x.trOk M && AV.trOkL M r
end
mutual
theorem AV.val_tr {ρ ρ' : Nat → Value} {M : List Ln} (h : ∀ i, ρ' i = if (x3 M i).isT then E7 (ρ i) else ρ i) : ∀ (x : AV), x.trOk M = true → (x.tr M).val ρ = x.val ρ'
 | .v _, _ => rfl
 | .ptr a _, hx => by
  simp only [AV.trOk, b95] at hx
  simp only [AV.tr, AV.val]; rw [h a, hx]; rfl
 | .ea a _ _ _, hx => by
  simp only [AV.trOk, b95] at hx
  simp only [AV.tr, AV.val]; rw [h a, hx]; rfl
 | .ref i, _ => by
  simp only [AV.tr]
  cases hm : (x3 M i).isT
  ·simp only [Bool.false_eq_true, if_false, AV.val]; rw [h i, hm]; rfl
  ·simp only [if_true, AV.val]; rw [h i, hm]; rfl
 | .agg l, hx => by simp only [AV.tr, AV.val]; rw [AV.vals_tr h l (by simpa [AV.trOk] using hx)]
 | .tup l, hx => by simp only [AV.tr, AV.val]; rw [AV.vals_tr h l (by simpa [AV.trOk] using hx)]
 | .fn _ l, hx => by simp only [AV.tr, AV.val]; rw [AV.vals_tr h l (by simpa [AV.trOk] using hx)]
 | .bm _ l, hx => by simp only [AV.tr, AV.val]; rw [AV.vals_tr h l (by simpa [AV.trOk] using hx)]
 | .tref i, hx => by
  simp only [AV.trOk, b95] at hx
  simp only [AV.tr, AV.val]; rw [h i, hx]; rfl
theorem AV.vals_tr {ρ ρ' : Nat → Value} {M : List Ln} (h : ∀ i, ρ' i = if (x3 M i).isT then E7 (ρ i) else ρ i) : ∀ (l : List AV), AV.trOkL M l = true → AV.vals ρ (AV.trL M l) = AV.vals ρ' l
 | [], _ => rfl
 | x :: r, hx => by
  simp only [AV.trOkL, b86] at hx
  simp only [AV.trL, AV.vals]; rw [AV.val_tr h x hx.1, AV.vals_tr h r hx.2]
end
def z8 (M : List Ln) : Ln → It → It
 | .row e, .dat d => .row e d
 | .tree, .dat d => .tree d
 | .no, .box cs => .box (AV.trL M cs)
 | _, x => x
def T1 (M : List Ln) (S : List It) : List It := (cb2 S.length).map fun i => z8 M (x3 M i) (s0 S i)
theorem W3 (M : List Ln) (S : List It) (i : Nat) : s0 (T1 M S) i = z8 M (x3 M i) (s0 S i) := by
 unfold T1
 rcases cc0 i S.length with h | h
 ·conv => lhs; rw [s0, b91, List.getElem?_map, List.getElem?_range h]
  rfl
 ·rw [w9 (by simpa using h), w9 h]
  cases x3 M i <;> rfl
def a48 : D → Bool
 | .rows _ => false
 | .brows _ => false
 | .exprs _ => false
 | .stmts _ => false
 | _ => true
theorem bk7 {w w' : World} {φ φ' : Nat → Prop} {d : D} {xs : List Value} (hd : a48 d = true) (h : RW w φ d xs) : RW w' φ' d xs := by
 intro i hi j x hx
 obtain ⟨u, h1, h2⟩ := h i hi j x hx
 refine ⟨u, h1, ?_⟩
 have : ∃ y, x = .v y := by
  have hm := cb4 hx
  cases d <;> simp only [a48, Bool.false_eq_true] at hd <;> simp [D.elem, bc4, aq2] at hm
  ·exact ⟨_, hm⟩
  ·exact ⟨_, hm⟩
  ·exact ⟨_, hm⟩
  ·exact ⟨_, hm⟩
  ·rcases hm with h | h | h | h | h <;> exact ⟨_, h⟩
  ·rcases hm with h | h <;> exact ⟨_, h⟩
 obtain ⟨y, rfl⟩ := this
 exact h2
def a32 (M : List Ln) (l : Ln) (p x : It) : Bool :=
 match l with
 | .no => match x with
  | .dat _ => (match p with | .dat _ => true | _ => false)
  | .row _ d => a48 d
  | .box cs => AV.trOkL M cs
  | .kept _ _ => false
  | _ => true
 | .row _ => (match p, x with | .dat d, .dat _ => a48 d | _, _ => false)
 | .tree => (match p, x with | .dat d, .dat _ => (am7 d).isSome | _, _ => false)
def bw9 (M : List Ln) (l : Ln) (p : It) : Bool :=
 match l, p with
 | .no, .box cs => AV.trOkL M cs
 | _, _ => true
def bz4 (M : List Ln) (c : k6) : Bool :=
 decide (M.length ≤ c.pre.length) && decide (c.pre.length ≤ c.post.length) && AV.trOkL M c.args && c.res.trOk M && (cb2 c.post.length).all (fun i => a32 M (x3 M i) (s0 c.pre i) (s0 c.post i)) && (cb2 c.pre.length).all fun i => bw9 M (x3 M i) (s0 c.pre i)
def Rs.snap (w : World) (r : Rs) : Rs := .own r.blk fun w' => ∀ b, r.blk b → b < w.heap.size → w'.heap[b]? = w.heap[b]?
theorem Rs.snap_holds {w : World} {φ φ' : Nat → Prop} {r : Rs} (h : r.holds w φ) : (r.snap w).holds w φ' := by
 refine ⟨fun w1 w2 h1 h2 b hb hlt => ?_, fun b _ _ => rfl, fun b hb => Rs.lt h hb⟩
 have h3 := h1 b hb hlt
 rw [h2 b hb, h3]
 have : (w1.heap[b]?).isSome = true := by rw [h3, Array.getElem?_eq_getElem hlt]; rfl
 obtain ⟨o, ho⟩ := cc4.1 this
 exact (Array.getElem?_eq_some_iff.1 ho).1
theorem aY2 : ∀ {P X : List It} {i : Nat} {d e : D}, ay0 P X = ax9 P X → s0 P i = .dat d → s0 X i = .dat e → d = e
 | P, X, i, d, e, h, h1, h2 => by
  have hp : P[i]? = some (.dat d) := by
   rcases cc0 i P.length with hl | hl
   ·rw [ad1 hl] at h1; rw [b90 hl, h1]
   ·rw [w9 hl] at h1; cases h1
  have hx : X[i]? = some (.dat e) := by
   rcases cc0 i X.length with hl | hl
   ·rw [ad1 hl] at h2; rw [b90 hl, h2]
   ·rw [w9 hl] at h2; cases h2
  exact bV0 h hp hx
theorem k6.lend0 {P : Program} {c : k6} (hc : c.ok P) (M : List Ln) (hb : bz4 M c = true) (he : ay0 c.pre c.post = ax9 c.pre c.post) : k6.ok P ⟨c.f, AV.trL M c.args, T1 M c.pre, T1 M c.post, c.res.tr M⟩ := by
 simp only [bz4, b86, decide_eq_true_eq] at hb
 obtain ⟨⟨⟨⟨⟨hM, hle⟩, hargs⟩, hres⟩, hpost⟩, hpre⟩ := hb
 have hno : ∀ i, c.pre.length ≤ i → x3 M i = .no := fun i hi => by
  unfold x3; rw [b91, cb5 (by omega)]; rfl
 have hpo : ∀ i, a32 M (x3 M i) (s0 c.pre i) (s0 c.post i) = true := fun i => by
  rcases cc0 i c.post.length with h | h
  ·exact b93.1 hpost i (List.mem_range.2 h)
  ·rw [hno i (by omega), w9 h]; rfl
 have hpr : ∀ i, bw9 M (x3 M i) (s0 c.pre i) = true := fun i => by
  rcases cc0 i c.pre.length with h | h
  ·exact b93.1 hpre i (List.mem_range.2 h)
  ·rw [hno i h, w9 h]; rfl
 intro ι φ ψ w0 w F ρ MM
 let ρ1 : Nat → Value := fun i => if (x3 M i).isT then E7 (ρ i) else ρ i
 have hρ1 : ∀ i, ρ1 i = if (x3 M i).isT then E7 (ρ i) else ρ i := fun _ => rfl
 let F1 : ι → Rs := fun i => (F i).snap w
 have hLi : ∀ i, p7 F ρ (s0 (T1 M c.pre)) (.inl i) = F i := fun _ => rfl
 have hLj : ∀ j, p7 F ρ (s0 (T1 M c.pre)) (.inr j) = (z8 M (x3 M j) (s0 c.pre j)).res ρ j := fun j => by simp only [p7]; rw [W3]
 generalize hL : p7 F ρ (s0 (T1 M c.pre)) = L at MM hLi hLj
 have h1j : ∀ j, x3 M j = .no → (s0 c.pre j).res ρ1 j = L (.inr j) := fun j hl => by
  rw [hLj, hl]
  have hp := hpr j
  have e : ρ1 j = ρ j := by rw [hρ1, hl]; rfl
  cases hx : s0 c.pre j with
  | none => rfl
  | dead => rfl
  | dat d => simp only [z8, It.res]; rw [e]
  | row e' d => simp only [z8, It.res]; rw [e]
  | tree d => simp only [z8, It.res]; rw [e]
  | kept e' d => cases e' <;> (simp only [z8, It.res]; rw [e])
  | box cs =>
   rw [hl, hx] at hp
   simp only [bw9] at hp
   simp only [z8, It.res]
   rw [e, AV.vals_tr hρ1 cs hp]
 have hlent : ∀ j, x3 M j ≠ .no → (∃ d, s0 c.pre j = .dat d ∧ s0 c.post j = .dat d ∧ ((∃ e, x3 M j = .row e ∧ a48 d = true) ∨ x3 M j = .tree)) := fun j hj => by
  have h := hpo j
  cases hl : x3 M j with
  | no => exact absurd hl hj
  | row e =>
   rw [hl] at h
   simp only [a32] at h
   split at h
   ·rename_i d d' h1 h2
    exact ⟨d, h1, by rw [h2, ← aY2 he h1 h2], .inl ⟨e, rfl, h⟩⟩
   ·cases h
  | tree =>
   rw [hl] at h
   simp only [a32] at h
   split at h
   ·rename_i d d' h1 h2
    exact ⟨d, h1, by rw [h2, ← aY2 he h1 h2], .inr rfl⟩
   ·cases h
 have hsub : ∀ k b, (p7 F1 ρ1 (s0 c.pre) k).blk b → (L k).blk b ∧ ∀ j, k = .inr j → x3 M j = .no := fun k b hb => by
  cases k with
  | inl i => rw [hLi]; exact ⟨hb, fun j h => by cases h⟩
  | inr j =>
   by_cases hl : x3 M j = .no
   ·simp only [p7] at hb
    rw [h1j j hl] at hb
    exact ⟨hb, fun j' h => by cases h; exact hl⟩
   ·obtain ⟨d, h1, _⟩ := hlent j hl
    simp only [p7, h1, It.res] at hb
    exact hb.elim
 have hfr1 : ∀ b, FrF φ L b → FrF φ (p7 F1 ρ1 (s0 c.pre)) b := fun b hb => ⟨hb.1, fun k hk => hb.2 k (hsub k b hk).1⟩
 let ψ1 : Nat → Prop := fun b => ∀ k, ¬ (p7 F1 ρ1 (s0 c.pre) k).blk b
 have M1 : m5 φ ψ1 w w (p7 F1 ρ1 (s0 c.pre)) := by
  refine ⟨B8.refl _ _, fun b hb => MM.fresh b (ca7 MM.size hb), fun k => ?_, fun k k' b hkk h1 h2 => MM.dis k k' b hkk (hsub k b h1).1 (hsub k' b h2).1, fun k b h1 => .inr fun h => h k h1, fun k b h1 => MM.ph k b (hsub k b h1).1⟩
  cases k with
  | inl i => exact Rs.snap_holds (show (F i).holds w _ from by rw [← hLi i]; exact MM.holds (.inl i))
  | inr j =>
   by_cases hl : x3 M j = .no
   ·simp only [p7]
    rw [h1j j hl]
    exact Rs.keep (MM.holds (.inr j)) (Agr.mono fun b _ hf => hfr1 b hf) fun _ _ => rfl
   ·obtain ⟨d, h1, h2, h3⟩ := hlent j hl
    have hh := MM.holds (.inr j)
    have hown : ∀ b, (L (.inr j)).blk b → FrF φ (p7 F1 ρ1 (s0 c.pre)) b := fun b hb => ⟨MM.ph _ _ hb, fun k hk => by
     obtain ⟨q1, q2⟩ := hsub k b hk
     by_cases e : k = .inr j
     ·exact hl (q2 j e)
     ·exact MM.dis k (.inr j) b e q1 hb⟩
    simp only [p7, h1, It.res]
    refine ⟨RD.nice _ _, ?_⟩
    rcases h3 with ⟨e, h3, hflat⟩ | h3
    ·rw [hLj, h3, h1] at hh
     simp only [z8, It.res] at hh
     obtain ⟨_, xs, o1, o2⟩ := hh
     have e1 : ρ1 j = ρ j := by rw [hρ1, h3]; rfl
     rw [e1]
     refine RD.make (C1 o1 fun g hg => hown g ?_) (bk7 hflat o2)
     rw [hLj, h3, h1]; exact hg
    ·rw [hLj, h3, h1] at hh
     simp only [z8, It.res] at hh
     have e1 : ρ1 j = E7 (ρ j) := by rw [hρ1, h3]; rfl
     rw [e1]
     refine E3.read hh.2.1 fun b hb => hown b ?_
     rw [hLj, h3, h1]; exact hb
 simp only
 rw [AV.vals_tr hρ1 c.args hargs]
 refine (hc ι φ ψ1 w w F1 ρ1 M1).mono ?_
 rintro x w' ⟨ρ2, g1, g2, M2⟩
 have hplen : (T1 M c.pre).length = c.pre.length := by simp [T1]
 let ρ' : Nat → Value := fun j => if j < c.pre.length then ρ j else ρ2 j
 have hρ' : ∀ j, ρ2 j = if (x3 M j).isT then E7 (ρ' j) else ρ' j := fun j => by
  show _ = if (x3 M j).isT then E7 (if j < c.pre.length then ρ j else ρ2 j) else (if j < c.pre.length then ρ j else ρ2 j)
  rcases cc0 j c.pre.length with h | h
  ·rw [if_pos h, g1 j h]
  ·rw [hno j h]
   exact (if_neg (Nat.not_lt.2 h)).symm
 have hρo : ∀ j, x3 M j ≠ .no → ρ' j = ρ j := fun j hj => by
  rcases cc0 j c.pre.length with h | h
  ·exact if_pos h
  ·exact absurd (hno j h) hj
 refine ⟨ρ', fun i hi => if_pos (by rw [hplen] at hi; exact hi), by rw [AV.val_tr hρ' c.res hres]; exact g2, ?_⟩
 have hL'j : ∀ j, p7 F ρ' (s0 (T1 M c.post)) (.inr j) = (z8 M (x3 M j) (s0 c.post j)).res ρ' j := fun j => by simp only [p7]; rw [W3]
 have hL'i : ∀ i, p7 F ρ' (s0 (T1 M c.post)) (.inl i) = F i := fun _ => rfl
 generalize hL' : p7 F ρ' (s0 (T1 M c.post)) = L' at hL'j hL'i
 have hL2j : ∀ j, x3 M j = .no → L' (.inr j) = p7 F1 ρ2 (s0 c.post) (.inr j) := fun j hl => by
  rw [hL'j, hl]
  have hp := hpo j
  have e : ρ2 j = ρ' j := by rw [hρ', hl]; rfl
  simp only [p7]
  cases hx : s0 c.post j with
  | none => rfl
  | dead => rfl
  | dat d => simp only [z8, It.res]; rw [e]
  | row e' d => simp only [z8, It.res]; rw [e]
  | tree d => simp only [z8, It.res]; rw [e]
  | kept e' d => cases e' <;> (simp only [z8, It.res]; rw [e])
  | box cs =>
   rw [hl, hx] at hp
   simp only [a32] at hp
   simp only [z8, It.res]
   rw [e, AV.vals_tr hρ' cs hp]
 have hlj : ∀ j, x3 M j ≠ .no → L' (.inr j) = L (.inr j) := fun j hl => by
  obtain ⟨d, h1, h2, h3⟩ := hlent j hl
  rw [hL'j, hLj, h1, h2]
  rcases h3 with ⟨e, h3, _⟩ | h3
  ·rw [h3]; simp only [z8, It.res]; rw [hρo j hl]
  ·rw [h3]; simp only [z8, It.res]; rw [hρo j hl]
 have hin : ∀ b, b < w.heap.size → ¬ ψ1 b → ∃ k, (L k).blk b ∧ ∀ j, k = .inr j → x3 M j = .no := fun b _ hn => by
  obtain ⟨k, hk⟩ := Classical.not_forall.1 hn
  exact ⟨k, hsub k b (Classical.not_not.1 hk)⟩
 have hnew : ∀ k b, (∀ j, k = .inr j → x3 M j = .no) → (p7 F1 ρ2 (s0 c.post) k).blk b → b < w.heap.size → ∃ k', (L k').blk b ∧ ∀ j, k' = .inr j → x3 M j = .no := fun k b _ hb hlt => by
  rcases M2.ge k b hb with h | h
  ·omega
  ·exact hin b hlt h
 have hback : ∀ k b, (L' k).blk b → b < w.heap.size → ∃ k', (L k').blk b := fun k b hb hlt => by
  cases k with
  | inl i => rw [hL'i] at hb; exact ⟨.inl i, by rw [hLi]; exact hb⟩
  | inr j =>
   by_cases hl : x3 M j = .no
   ·rw [hL2j j hl] at hb
    obtain ⟨k', h1, _⟩ := hnew (.inr j) b (fun j' h => by cases h; exact hl) hb hlt
    exact ⟨k', h1⟩
   ·rw [hlj j hl] at hb; exact ⟨_, hb⟩
 have hsame : ∀ b, b < w.heap.size → ψ1 b → w'.heap[b]? = w.heap[b]? := fun b h1 h2 => M2.kept.block b h1 h2
 have hagr : Agr (FrF φ L) (FrF φ L') w w' := ⟨M2.kept.size, fun b hb hf => ⟨⟨hf.1, fun k hk => let ⟨k', h1⟩ := hback k b hk hb; hf.2 k' h1⟩, hsame b hb fun k hk => (hfr1 b hf).2 k hk⟩⟩
 have hlsame : ∀ j, x3 M j ≠ .no → ∀ b, (L (.inr j)).blk b → w'.heap[b]? = w.heap[b]? := fun j hl b hb => hsame b (MM.lt hb) fun k hk => by
  obtain ⟨q1, q2⟩ := hsub k b hk
  by_cases e : k = .inr j
  ·exact hl (q2 j e)
  ·exact MM.dis k (.inr j) b e q1 hb
 have hcross : ∀ j k b, x3 M j ≠ .no → (∀ j, k = .inr j → x3 M j = .no) → (L (.inr j)).blk b → ¬ (p7 F1 ρ2 (s0 c.post) k).blk b := fun j k b hl hk h1 h2 => by
  obtain ⟨k', h3, h4⟩ := hnew k b hk h2 (MM.lt h1)
  exact MM.dis k' (.inr j) b (fun e => hl (h4 j e)) h3 h1
 refine ⟨⟨M2.kept.os.trans MM.kept.os, M2.kept.tape.trans MM.kept.tape, M2.kept.output.trans MM.kept.output, ca7 MM.size M2.kept.size, fun b hb hp => (hsame b (Nat.lt_of_lt_of_le hb MM.size) fun k hk => ?_).trans (MM.kept.block b hb hp)⟩, MM.fresh, fun k => ?_, fun k k' b hkk h1 h2 => ?_, fun k b h1 => ?_, fun k b h1 => ?_⟩
 ·rcases MM.ge k b (hsub k b hk).1 with h | h
  ·omega
  ·exact h hp
 ·cases k with
  | inl i =>
   rw [hL'i, ← hLi i]
   refine Rs.keep (MM.holds (.inl i)) hagr fun b hb => ?_
   have := (M2.holds (.inl i)).2.1 b (by rw [← hLi i]; exact hb) (MM.lt hb)
   exact this
  | inr j =>
   by_cases hl : x3 M j = .no
   ·have hh := M2.holds (.inr j)
    rw [← hL2j j hl] at hh
    have hp := hpo j
    rw [hl] at hp
    cases hx : s0 c.post j with
    | none => rw [hL'j, hl, hx]; exact Rs.none_holds _ _
    | dead => rw [hL'j, hl, hx]; exact Rs.none_holds _ _
    | box cs => rw [hL'j, hl, hx] at hh ⊢; exact hh
    | tree d => rw [hL'j, hl, hx] at hh ⊢; exact hh
    | kept e' d => rw [hx] at hp; exact absurd hp (by simp [a32])
    | row e d =>
     rw [hx] at hp
     simp only [a32] at hp
     rw [hL'j, hl, hx] at hh ⊢
     simp only [z8, It.res] at hh ⊢
     obtain ⟨_, xs, o1, o2⟩ := hh
     exact ⟨fun xs => RW.nice d xs, xs, o1, bk7 hp o2⟩
    | dat d =>
     rw [hx] at hp
     simp only [a32] at hp
     split at hp
     ·rename_i d' hpx
      have hd : d' = d := aY2 he hpx hx
      subst hd
      have e : L' (.inr j) = L (.inr j) := by
       rw [hL'j, hLj, hl, hx, hpx]
       simp only [z8, It.res]
       have : j < c.pre.length := by
        rcases cc0 j c.pre.length with h | h
        ·exact h
        ·rw [w9 h] at hpx; cases hpx
       rw [show ρ' j = ρ j from if_pos this]
      rw [e]
      refine Rs.keep (MM.holds (.inr j)) hagr fun b hb => ?_
      rw [hLj, hl, hpx] at hb
      exact hb.elim
     ·cases hp
   ·rw [hlj j hl]
    exact Rs.keep (MM.holds (.inr j)) hagr fun b hb => hlsame j hl b hb
 ·have key : ∀ k, (∃ j, k = .inr j ∧ x3 M j ≠ .no ∧ (L' k) = L k) ∨ ((∀ j, k = .inr j → x3 M j = .no) ∧ ∀ b, (L' k).blk b → (p7 F1 ρ2 (s0 c.post) k).blk b) := fun k => by
   cases k with
   | inl i => exact .inr ⟨(fun j h => by cases h), fun b hb => by rw [hL'i] at hb; exact hb⟩
   | inr j =>
    by_cases hl : x3 M j = .no
    ·exact .inr ⟨fun j' h => by cases h; exact hl, fun b hb => by rw [hL2j j hl] at hb; exact hb⟩
    ·exact .inl ⟨j, rfl, hl, hlj j hl⟩
  rcases key k with ⟨j, rfl, k1, k2⟩ | ⟨k1, k2⟩ <;> rcases key k' with ⟨j', rfl, k3, k4⟩ | ⟨k3, k4⟩
  ·rw [k2] at h1; rw [k4] at h2; exact MM.dis _ _ b hkk h1 h2
  ·rw [k2] at h1; exact hcross j k' b k1 k3 h1 (k4 b h2)
  ·rw [k4] at h2; exact hcross j' k b k3 k1 h2 (k2 b h1)
  ·exact M2.dis k k' b hkk (k2 b h1) (k4 b h2)
 ·cases k with
  | inl i => rw [hL'i, ← hLi i] at h1; exact MM.ge _ b h1
  | inr j =>
   by_cases hl : x3 M j = .no
   ·rw [hL2j j hl] at h1
    rcases cc0 b w.heap.size with hlt | hge
    ·obtain ⟨k', h2, _⟩ := hnew (.inr j) b (fun j' h => by cases h; exact hl) h1 hlt
     exact MM.ge k' b h2
    ·exact .inl (ca7 MM.size hge)
   ·rw [hlj j hl] at h1; exact MM.ge _ b h1
 ·cases k with
  | inl i => rw [hL'i, ← hLi i] at h1; exact MM.ph _ b h1
  | inr j =>
   by_cases hl : x3 M j = .no
   ·rw [hL2j j hl] at h1; exact M2.ph _ b h1
   ·rw [hlj j hl] at h1; exact MM.ph _ b h1
def bA5 (M : List Ln) : Ln → It → It
 | .row e, .dat d => .kept (some e) d
 | .tree, .dat d => .kept none d
 | .no, .box cs => .box (AV.trL M cs)
 | _, x => x
def bA4 (M : List Ln) (S : List It) : List It := (cb2 S.length).map fun i => bA5 M (x3 M i) (s0 S i)
theorem by8 (M : List Ln) (S : List It) (i : Nat) : s0 (bA4 M S) i = bA5 M (x3 M i) (s0 S i) := by
 unfold bA4
 rcases cc0 i S.length with h | h
 ·conv => lhs; rw [s0, b91, List.getElem?_map, List.getElem?_range h]
  rfl
 ·rw [w9 (by simpa using h), w9 h]
  cases x3 M i <;> rfl
theorem k6.lend {P : Program} {c : k6} (hc : c.ok P) (M : List Ln) (hb : bz4 M c = true := by kernel_rfl) (he : ay0 c.pre c.post = ax9 c.pre c.post := by kernel_rfl) : k6.ok P ⟨c.f, AV.trL M c.args, T1 M c.pre, bA4 M c.post, c.res.tr M⟩ :=
 k6.okPost (k6.lend0 hc M hb he) _ fun ρ i => by
  simp only
  rw [by8, W3]
  cases x3 M i <;> cases s0 c.post i <;> rfl
section
variable {P : Program} {ι κ : Type} {φ ψ : Nat → Prop} {w0 w : World} {F : ι → Rs} {ρ ρ0 : Nat → Value} {N m n : Nat} {S : List It} {tm : List (Nat × AV)} {a : Act}
theorem m5.release {L L' : κ → Rs} (M : m5 φ ψ w0 w L) (h : ∀ k, L' k = L k ∨ ((∀ b, ¬ (L' k).blk b) ∧ ∀ φ', (∀ b, FrF φ L b → φ' b) → (∀ b, (L k).blk b → φ' b) → (L' k).holds w φ')) : m5 φ ψ w0 w L' := by
 have old : ∀ k b, (L' k).blk b → (L k).blk b := fun k b hb => by
  rcases h k with e | ⟨h1, _⟩
  ·rw [e] at hb; exact hb
  ·exact (h1 b hb).elim
 have hfr : ∀ b, FrF φ L b → FrF φ L' b := fun b hb => ⟨hb.1, fun k hk => hb.2 k (old k b hk)⟩
 refine ⟨M.kept, M.fresh, fun k => ?_, fun i j g hij h1 h2 => M.dis i j g hij (old i g h1) (old j g h2), fun i b hb => M.ge i b (old i b hb), fun i b hb => M.ph i b (old i b hb)⟩
 rcases h k with e | ⟨h1, h2⟩
 ·rw [e]; exact Rs.keep (M.holds k) (Agr.mono fun b _ hf => hfr b hf) fun _ _ => rfl
 ·refine h2 _ hfr fun b hb => ⟨M.ph k b hb, fun j hj => ?_⟩
  by_cases e : j = k
  ·subst e; exact h1 b hj
  ·exact M.dis j k b e (old j b hj) hb
mutual
theorem AV.ids_tr (M : List Ln) : ∀ (x : AV), (x.tr M).ids = x.ids
 | .v _ => rfl
 | .ptr _ _ => rfl
 | .ea _ _ _ _ => rfl
 | .ref i => by simp only [AV.tr]; split <;> rfl
 | .agg l => by simp only [AV.tr, AV.ids]; exact AV.idsL_tr M l
 | .tup l => by simp only [AV.tr, AV.ids]; exact AV.idsL_tr M l
 | .fn _ l => by simp only [AV.tr, AV.ids]; exact AV.idsL_tr M l
 | .bm _ l => by simp only [AV.tr, AV.ids]; exact AV.idsL_tr M l
 | .tref _ => rfl
theorem AV.idsL_tr (M : List Ln) : ∀ (l : List AV), AV.idsL (AV.trL M l) = AV.idsL l
 | [] => rfl
 | x :: r => by simp only [AV.trL, AV.idsL]; rw [AV.ids_tr M x, AV.idsL_tr M r]
end
theorem aW5 {M : List Ln} {t : Nat} {x : AV} : ∀ {tm : List (Nat × AV)}, y8 tm t = some x → y8 (tm.map fun p => (p.1, p.2.tr M)) t = some (x.tr M) ∧ ∃ p ∈ tm, p.2 = x
 | [], h => by cases h
 | (k, y) :: r, h => by
  simp only [y8, cb9] at h ⊢
  split at h
  ·cases h; rename_i hk; rw [if_pos hk]; exact ⟨rfl, _, ca1, rfl⟩
  ·rename_i hk; rw [if_neg hk]
   obtain ⟨h1, p, h2, h3⟩ := aW5 h
   exact ⟨h1, p, ca8 _ h2, h3⟩
def b23 (M : List Ln) (m : Nat) (S1 : List It) (tm1 : List (Nat × AV)) : Bool :=
 decide (M.length ≤ S1.length) && (cb2 S1.length).all (fun i => match x3 M i, s0 S1 i with
  | .no, .box cs => AV.trOkL M cs
  | .no, _ => true
  | .row _, .dat _ => true
  | .tree, .dat _ => decide (m ≤ i)
  | _, _ => false) && tm1.all fun p => p.2.trOk M
theorem It.ids_lend (M : List Ln) (l : Ln) (x : It) : x.ids = [] ∨ (z8 M l x).ids = x.ids := by
 cases x with
 | box cs => cases l <;> first | exact .inr rfl | exact .inr (AV.idsL_tr M cs)
 | _ => exact .inl rfl
theorem s5.frz (G : s5 φ ψ w0 F N m ρ0 ρ S tm a w) (M : List Ln) (S1 : List It) (tm1 : List (Nat × AV)) (hb : b23 M m S1 tm1 = true := by kernel_rfl) (hS : S = T1 M S1 := by kernel_rfl) (ht : tm = tm1.map (fun p => (p.1, p.2.tr M)) := by kernel_rfl) :
  ∃ ρ', s5 φ ψ w0 F N m ρ0 ρ' S1 tm1 a w := by
 subst hS
 subst ht
 simp only [b23, b86, decide_eq_true_eq] at hb
 obtain ⟨⟨hM, hall⟩, htm⟩ := hb
 have hlen : (T1 M S1).length = S1.length := by simp [T1]
 have hno : ∀ i, S1.length ≤ i → x3 M i = .no := fun i hi => by
  unfold x3; rw [b91, cb5 (by omega)]; rfl
 have hat := fun i (hi : i < S1.length) => b93.1 hall i (List.mem_range.2 hi)
 let ρ1 : Nat → Value := fun i => if (x3 M i).isT then E7 (ρ i) else ρ i
 have hρ1 : ∀ i, ρ1 i = if (x3 M i).isT then E7 (ρ i) else ρ i := fun _ => rfl
 have hρn : ∀ i, (x3 M i).isT = false → ρ1 i = ρ i := fun i h => by rw [hρ1, h]; rfl
 refine ⟨ρ1, G.size, G.defs, fun t x hx => ?_, fun t x hx i hi => ?_, fun j => ⟨fun i hi => ?_, fun hj => w9 hj⟩, ?_, ?_, fun i hi => ?_⟩
 ·obtain ⟨h1, p, h2, h3⟩ := aW5 (M := M) hx
  rw [G.tmv t _ h1, AV.val_tr hρ1 x (by rw [← h3]; exact b93.1 htm p h2)]
 ·obtain ⟨h1, _⟩ := aW5 (M := M) hx
  have := G.tmi t _ h1 i (by rw [AV.ids_tr]; exact hi)
  rw [hlen] at this; exact this
 ·have h1 := (G.bd j).1 i
  rw [W3, hlen] at h1
  rcases It.ids_lend M (x3 M j) (s0 S1 j) with h | h
  ·rw [h] at hi; cases hi
  ·exact h1 (by rw [h]; exact hi)
 ·refine G.mem.release fun k => ?_
  cases k with
  | inl i => exact .inl rfl
  | inr j =>
   simp only [p7]
   rw [W3]
   rcases cc0 j S1.length with hj | hj
   case inr => rw [hno j hj, w9 hj]; exact .inl rfl
   have h1 := hat j hj
   cases hl : x3 M j with
   | no =>
    have e : ρ1 j = ρ j := hρn j (by rw [hl]; rfl)
    rw [hl] at h1
    left
    cases hx : s0 S1 j with
    | box cs =>
     rw [hx] at h1
     simp only [z8, It.res]
     rw [e, AV.vals_tr hρ1 cs h1]
    | none => rfl
    | dead => rfl
    | dat d => simp only [z8, It.res]; rw [e]
    | row e' d => simp only [z8, It.res]; rw [e]
    | tree d => simp only [z8, It.res]; rw [e]
    | kept e' d => cases e' <;> (simp only [z8, It.res]; rw [e])
   | row e' =>
    have e : ρ1 j = ρ j := hρn j (by rw [hl]; rfl)
    rw [hl] at h1
    cases hx : s0 S1 j <;> rw [hx] at h1 <;> first | cases h1 | skip
    rename_i d
    refine .inr ⟨fun b hb => hb, fun φ' hf hown => ⟨RD.nice _ _, ?_⟩⟩
    have hh := G.mem.holds (.inr j)
    simp only [p7] at hh
    rw [W3, hl, hx] at hh
    simp only [z8, It.res] at hh
    obtain ⟨_, xs, o1, o2⟩ := hh
    rw [e]
    exact RD.make (C1 o1 fun g hg => hown g hg) (RW.nice _ _ _ _ _ _ (Agr.mono fun b _ hb => hf b hb) o2)
   | tree =>
    have e : ρ1 j = E7 (ρ j) := by rw [hρ1, hl]; rfl
    rw [hl] at h1
    cases hx : s0 S1 j <;> rw [hx] at h1 <;> first | cases h1 | skip
    rename_i d
    refine .inr ⟨fun b hb => hb, fun φ' hf hown => ⟨RD.nice _ _, ?_⟩⟩
    have hh := G.mem.holds (.inr j)
    simp only [p7] at hh
    rw [W3, hl, hx] at hh
    simp only [z8, It.res] at hh
    rw [e]
    exact E3.read hh.2.1 fun b hb => hown b hb
 ·have := G.le; rw [hlen] at this; exact this
 ·have hm := G.le
  rw [hlen] at hm
  have : (x3 M i).isT = false := by
   cases hl : x3 M i with
   | no => rfl
   | row _ => rfl
   | tree =>
    have h1 := hat i (by omega)
    rw [hl] at h1
    cases hx : s0 S1 i <;> rw [hx] at h1 <;> simp at h1
    omega
  show ρ1 i = ρ0 i
  rw [hρn i this]; exact G.old i hi
end
end Go.Proofs.YthikdkjjdeehoaaGreat

namespace Go.Proofs.YthikdkjjdeehoaaGreat
set_option linter.unusedVariables false
set_option linter.unusedSimpArgs false
open Go Go.RowKit
end Go.Proofs.YthikdkjjdeehoaaGreat

namespace Go.Proofs.YthikdkjjdeehoaaGreat
set_option linter.unusedVariables false
set_option linter.unusedSimpArgs false
open Go Go.RowKit
section
variable {P : Program} {ι κ : Type} {φ ψ : Nat → Prop} {w0 w w' : World} {F : ι → Rs} {ρ ρ0 : Nat → Value}
theorem m5.grow {L L' : κ → Rs} (M : m5 φ ψ w0 w L) (hb : Below w.heap.size w w') (K : κ → Prop) (ho : ∀ k, ¬ K k → L' k = L k) (hg : ∀ k, K k → ∀ b, (L' k).blk b → w.heap.size ≤ b) (hd : ∀ j k b, j ≠ k → K j → K k → (L' j).blk b → ¬ (L' k).blk b) (h : ∀ k, K k → (L' k).holds w' (FrF φ L')) : m5 φ ψ w0 w' L' := by
 have M1 := M.call hb
 have old : ∀ k, ¬ K k → ∀ b, (L' k).blk b → b < w.heap.size := fun k hk b h1 => by rw [ho k hk] at h1; exact M.lt h1
 refine ⟨M1.kept, M.fresh, fun k => ?_, fun i j g hij h1 h2 => ?_, fun i b h1 => ?_, fun i b h1 => ?_⟩
 ·by_cases e : K k
  ·exact h k e
  ·rw [ho k e]
   refine Rs.keep (M.holds k) ⟨hb.size, fun b hl hf => ⟨⟨hf.1, fun j hj => ?_⟩, hb.block b hl⟩⟩ fun g hgx => hb.block g (M.lt hgx)
   by_cases e2 : K j
   ·have := hg j e2 b hj; omega
   ·rw [ho j e2] at hj; exact hf.2 j hj
 ·by_cases e1 : K i <;> by_cases e2 : K j
  ·exact hd i j g hij e1 e2 h1 h2
  ·have := hg i e1 g h1; have := old j e2 g h2; omega
  ·have := hg j e2 g h2; have := old i e1 g h1; omega
  ·rw [ho i e1] at h1; rw [ho j e2] at h2; exact M.dis i j g hij h1 h2
 ·by_cases e : K i
  ·exact .inl (ca7 M.size (hg i e b h1))
  ·rw [ho i e] at h1; exact M.ge i b h1
 ·by_cases e : K i
  ·exact M.fresh b (ca7 M.size (hg i e b h1))
  ·rw [ho i e] at h1; exact M.ph i b h1
end
abbrev oP (p : d7) : List It := [.row 3 (.ints p.vars), .row 3 (.ints p.arrays), .tree (.stmts p.body)]
abbrev oA (r : Nat) : AV := .agg [.ref r, .ref (r + 1), .tref (r + 2)]
theorem bn7 {w : World} {φ : Nat → Prop} {v : Value} {l : List Int} (h : w.ownsRow 0 3 1 v l.length (ints l)) : (Rs.row 3 (D.ints l).sz v (D.ints l).len fun xs w φ => RW w φ (.ints l) xs).holds w φ := by
 refine ⟨fun xs => RW.nice (.ints l) xs, ints l, h, fun i hi j x hx => ?_⟩
 have hi' : i < l.length := hi
 simp only [D.elem] at hx
 have hj : j = 0 := by
  cases j with
  | zero => rfl
  | succ j => simp at hx
 subst hj
 simp at hx
 subst hx
 refine ⟨_, ?_, rfl⟩
 simp only [D.sz]
 rw [Nat.mul_one, Nat.add_zero]
 simp [ints, hi']
theorem bd3 (v : Value) (t : List Int) (w : World) (h : Z9 w v t.length 1 (ints t)) (hb : t.length ≤ 1000000000000) :
  Calls Tryz.prog 70 #[v] w fun e w' => ∃ u, e = .returned u ∧ Own w' w.heap.size w'.heap.size 3 1 u t.length (ints t) ∧ Below w.heap.size w w' := by
 obtain ⟨a, cap, rfl, hc1, hc2, hc3, -⟩ := h.open
 have hnil := fun w => Lib.run_eql_slice_nil (P := Tryz.prog) w 23 3 a t.length cap 0 0 Tryz.underlying23
 rcases a with _ | a
 ·have hn : t.length = 0 := by
   rcases Nat.eq_zero_or_pos t.length with h0 | h0
   ·exact h0
   ·obtain ⟨_, a, c, he, _, _, hx⟩ := h
    cases he
    obtain ⟨_, _, he, _⟩ := hx h0
    cases he
  have ht : t = [] := ca0 hn
  subst ht
  simp only [b89, Option.isNone_none] at hnil
  go_enter Tryz.func70, Tryz.ntmps70
  go_wp2_with fail
  go_ret
  exact ⟨_, rfl, ⟨World.ownsRow_nil _ _ _ _, fun g hg => by cases hg⟩, Below.refl _ _⟩
 ·go_enter Tryz.func70, Tryz.ntmps70
  simp only [Option.isNone_some] at hnil
  have ba := (Below.refl w.heap.size w).alloc (b99 _) (.cells #[] 3)
  go_wp2_with (at_builtin; refine a88 rfl _ _ rfl Tryz.underlying23 b16 rfl (by omega) rfl (ak6 w #[] 0 1 _ rfl rfl (by omega)).1 rfl (h.below ba) bA8 (by omega) (by omega) (by simp) ?_; rintro a4 q4 w4 o4 b4 - -)
  go_ret
  refine ⟨_, rfl, Own.mk' (by simpa using o4), ba.trans b4⟩
theorem Y8 (l : List Int) (hb : l.length ≤ 1000000000000) : k6.ok Tryz.prog ⟨70, [.ref 0], [.dat (.ints l)], [.dat (.ints l), .row 3 (.ints l)], .ref 1⟩ := by
 intro ι φ ψ w0 w F ρ M
 have hr := M.datAt (id := 0) (d := .ints l) rfl
 refine (bd3 (ρ 0) l w (z9.row hr) hb).mono ?_
 rintro e w' ⟨u, rfl, ⟨ho, hg⟩, hbl⟩
 refine ⟨fun i => if i = 1 then u else ρ i, fun i hi => if_neg (show ¬ i = 1 by have : i < 1 := hi; omega), by simp [AV.val], ?_⟩
 refine M.grow hbl (fun k => k = .inr 1) (fun k hk => ?_) ?_ ?_ ?_
 ·cases k with
  | inl i => rfl
  | inr j =>
   match j, hk with
   | 0, _ => rfl
   | 1, h => exact absurd rfl h
   | j + 2, _ => rfl
 ·rintro k rfl b hb; exact (World.ownsRow.lt ho b hb).1
 ·rintro j k b hjk rfl rfl; exact absurd rfl hjk
 ·rintro k rfl; exact bn7 (aa9 ho (cc1 _))
theorem bN9 {l : List b5} {k : Nat} (hk : k < l.length) : l.take k ++ [⟨(l.getD k b85).kind, (l.getD k b85).value, (l.getD k b85).kids⟩] = l.take (k + 1) := by
 rw [b5.eta, r9 _ _ hk, n6 hk]
theorem bN8 {l : List b6} {k : Nat} (hk : k < l.length) : l.take k ++ [⟨(l.getD k b85).kind, (l.getD k b85).target, ⟨(l.getD k b85).index.kind, (l.getD k b85).index.value, (l.getD k b85).index.kids⟩, ⟨(l.getD k b85).value.kind, (l.getD k b85).value.value, (l.getD k b85).value.kids⟩, (l.getD k b85).count, (l.getD k b85).body, (l.getD k b85).els⟩] = l.take (k + 1) := by
 rw [b5.eta, b5.eta, b6.eta, r9 _ _ hk, n6 hk]
theorem aB3 {α : Type} {l : List α} {k : Nat} (h1 : k ≤ l.length) (h2 : ¬ (k : Int) < l.length) : l.take k = l := by rw [ca3 (by omega)]
theorem bz5 {α : Type} {l : List α} {k n : Nat} (h1 : k ≤ l.length) (h : l.length ≤ n) : (l.take k).length ≤ n := by rw [List.length_take]; omega
theorem a34 {e : b5} (h : v7 e ≤ 1048576) : e.kids.length ≤ 1048576 := by
 have h1 := as3 e.kids
 have h2 : v7 e = n8 e.kids := by cases e; rfl
 omega
theorem aR0 {l : List b6} (h : i5 l ≤ 1048576) : l.length ≤ 1048576 := ca7 (C3 l) h
theorem ab0 {α : Type} {l : List α} {x : α} {k : Nat} (h1 : k ≤ l.length) (h : l.length ≤ 1048576) : (l.take k).length + [x].length ≤ 1048577 := by
 have := bz5 (k := k) h1 h
 simp only [b87, b89]; omega
theorem bJ9 {a b : Nat} (ha : a ≤ 1048577) (hb : Nat.ble b 1000 = true) : a * b ≤ 140737488355328 := by
 have h1 := Nat.le_of_ble_eq_true hb
 have h2 := Nat.mul_le_mul ha h1
 omega
theorem ab1 {l : List b5} {k : Nat} (h : (k : Int) < l.length) : l.getD k b85 ∈ l := by rw [n6 (by omega)]; exact cb0 (by omega)
theorem X0 {l : List b6} {k : Nat} (h : (k : Int) < l.length) : l.getD k b85 ∈ l := by rw [n6 (by omega)]; exact cb0 (by omega)
abbrev cpC (e : b5) : k6 := ⟨132, [eA e 0], eS e, eS e ++ [.tree (.exprs e.kids)], .agg [iA e.kind, iA e.value, .tref 1]⟩
abbrev aZ1 (e : b5) (r0 : List It) : List It := dE e.kids :: .box (eL e 0) :: .box [iA 0, iA 0, .v (.slice none 0 0)] :: r0
theorem bv7 (e : b5) (hb : v7 e ≤ 1048576) (ih : ∀ (x : b5), x ∈ e.kids → k6.ok Tryz.prog (cpC x)) : k6.ok Tryz.prog (cpC e) := by
 refine A2 29 Tryz.func132 [dE e.kids] [(0, eA e 0)] fun G => ?_; have hl := a34 hb; refine wp_seq (k8 G d9 [0, 1, 9] (aZ1 e []) [(1, .ptr 1 0), (2, .ptr 2 0)] fun G => b7 (wp_seq (k8 G d9 [0, 1, 2, 43] (aZ1 e [.box [iA e.kind, iA e.value, .v (.slice none 0 0)]]) [(1, .ptr 1 0), (2, .ptr 2 0), (3, .ptr 3 0)] fun G => b7 (wp_seq (wp_seq (C9 G d9 [(1, .ptr 1 0), (2, .ptr 2 0), (3, .ptr 3 0), (4, iA 0)] fun G => b7 (wp_block ?_))))))); obtain ⟨ρ, G⟩ := G.nilT 4 (.exprs []) (aZ1 e [.box [iA e.kind, iA e.value, .tref 4]]) [(1, .ptr 1 0), (2, .ptr 2 0), (3, .ptr 3 0), (4, iA 0)]; refine o9 (κ := Nat) (fun k => k ≤ e.kids.length) (fun k => e.kids.length - k) (fun k => [dE e.kids, .box (eL e 0), .box [iA 0, iA 0, .v (.slice none 0 0)], .box [iA e.kind, iA e.value, .tref 4], .tree (.exprs (e.kids.take k))]) (fun k => [(1, .ptr 1 0), (2, .ptr 2 0), (3, .ptr 3 0), (4, iA k)]) 0 (by omega) (s5.at G _ _) ?_; clear G; intro k ρ a w hp G; replace G := s5.at G (aZ1 e [.box [iA e.kind, iA e.value, .tref 4], .tree (D.exprs (b96 k e.kids))]) [(1, .ptr 1 0), (2, .ptr 2 0), (3, .ptr 3 0), (4, iA k)]; refine wp_seq (wp_seq (l5 G d9 [(14, bA (decide ((k : Int) < e.kids.length)))] fun G => b7 (O0 G (fun h0 q0 => ?_) fun h0 q0 => ?_)))
 ·refine wp_exit (o5 (o5 (n9 (b7 (wp_seq (k8 G d9 [0, 2, 4] [dE e.kids, .box [iA e.kind, iA e.value, .tref 2], .tree (D.exprs (b96 k e.kids))] [(2, .ptr 1 0)] fun G => b7 (wp_ret ?_))))))); exact F2 G [0, 2] (by show _ = mR [0, 2] [dE e.kids, .tree (D.exprs e.kids)]; have e1 : (b96 k e.kids : List b5) = (e.kids) := (aB3 hp (by assumption)); (first | rw [e1] | simp only [e1]) <;> rfl)
 ·refine wp_skip (b7 (wp_seq (wp_block (G2 G (s6 7 [53] (ih (e.kids.getD k b85) (ab1 (by assumption)))) [0, 1, 0, 4, 0, 28, 60, 124, 252, 511, 1023, 2047] [0, 1, 2, 3, 77] (aZ1 e [.box [iA e.kind, iA e.value, .tref 4], .tree (D.exprs (b96 k e.kids ++ [m8 (e.kids.getD k b85)]))]) [(1, .ptr 1 0), (2, .ptr 2 0), (3, .ptr 3 0), (4, iA k)] [(0 : Int) ≤ (k : Int), (k : Int) < e.kids.length, k < e.kids.length, (b96 k e.kids).length + [m8 (e.kids.getD k b85)].length ≤ (9223372036854775807 : Nat), ((b96 k e.kids).length + [m8 (e.kids.getD k b85)].length) * (40 : Nat) ≤ (140737488355328 : Nat)] ⟨(by simp [h0]), (by assumption), (by have := ab0 (x := (b85 : b5)) hp hl; simp only [b87, b89] at this ⊢; omega), (by have := ab0 (x := (b85 : b5)) hp hl; simp only [b87, b89] at this ⊢; omega), (bJ9 (ab0 hp hl) (by kernel_rfl)), b94⟩ fun G => m6 (b7 (E2 G d9 [(4, iA ((k : Int) + 1))] [wO ((k : Int) + 1)] (o1 (by omega)) fun G => b7 ?_)))))); exact M8 G (k + 1) (by have := ab0 (x := (b85 : b5)) hp hl; simp only [b87, b89] at this ⊢; omega) (by have := ab0 (x := (b85 : b5)) hp hl; simp only [b87, b89] at this ⊢; omega) (rg 5) (by have e1 : (b96 (k + 1) e.kids : List b5) = (b96 k e.kids ++ [m8 (e.kids.getD k b85)]) := ((bN9 (by omega)).symm); (first | rw [e1] | simp only [e1]) <;> rfl)
theorem aY7 (e : b5) : v7 e ≤ 1048576 → k6.ok Tryz.prog (cpC e) :=
 b5.ind (P := fun e => v7 e ≤ 1048576 → k6.ok Tryz.prog (cpC e)) (fun k n ks ih hb => bv7 ⟨k, n, ks⟩ hb fun x hx => ih x hx (by
  have h1 := bh2 (show x ∈ ks from hx)
  have h2 : v7 ⟨k, n, ks⟩ = n8 ks := rfl
  omega)) e
abbrev a55 (l : List b6) : k6 := ⟨151, [.ref 0], [dT l], [dT l, .tree (.stmts l)], .tref 1⟩
theorem aC4 {l : List b6} {k : Nat} (hb : i5 l ≤ 1048576) (h : (k : Int) < l.length) : v7 (l.getD k b85).index ≤ 1048576 ∧ v7 (l.getD k b85).value ≤ 1048576 ∧ i5 (l.getD k b85).body ≤ 1048576 ∧ i5 (l.getD k b85).els ≤ 1048576 := by
 have h1 := I3 (X0 h)
 generalize l.getD k b85 = s at *
 rcases s with ⟨_, _, i, v, _, b, e⟩
 simp only [D7] at h1
 simp only [b6.index, b6.value, b6.body, b6.els]
 omega
abbrev aD7 (k : Nat) (r0 : List (Nat × AV)) : List (Nat × AV) := (0, .ref 0) :: (2, .v (.slice none 0 0)) :: (3, .tref 1) :: (4, iA (k : Int)) :: r0
theorem aH7 (l : List b6) (hb : i5 l ≤ 1048576) (ih1 : ∀ (s : b6), s ∈ l → k6.ok Tryz.prog (a55 s.body)) (ih2 : ∀ (s : b6), s ∈ l → k6.ok Tryz.prog (a55 s.els)) : k6.ok Tryz.prog (a55 l) := by
  refine A2 38 Tryz.func151 [dT l] [(0, .ref 0)] fun G => ?_; have hl := aR0 hb; refine wp_seq (l5 G d9 [(2, .v (.slice none 0 0))] fun G => b7 (wp_seq (k8 G d9 [0, 1] [dT l, .tree (D.stmts [])] [(0, .ref 0), (2, .v (.slice none 0 0)), (3, .tref 1)] fun G => b7 (wp_seq (wp_seq (C9 G d9 [(0, .ref 0), (2, .v (.slice none 0 0)), (3, .tref 1), (4, iA 0)] fun G => b7 (wp_block ?_))))))); refine o9 (κ := Nat) (fun k => k ≤ l.length) (fun k => l.length - k) (fun k => [dT l, .tree (.stmts (l.take k))]) (fun k => [(0, .ref 0), (2, .v (.slice none 0 0)), (3, .tref 1), (4, iA k)]) 0 (by omega) (s5.at G _ _) ?_; clear G; intro k ρ a w hp G; replace G := s5.at G [dT l, .tree (D.stmts (b96 k l))] (aD7 k []); refine wp_seq (wp_seq (l5 G d9 [(10, bA (decide ((k : Int) < l.length)))] fun G => b7 (O0 G (fun h0 q0 => ?_) fun h0 q0 => ?_)))
  · refine wp_exit (o5 (o5 (n9 (b7 (wp_seq (l5 G d9 [(2, .tref 1)] fun G => b7 (wp_ret ?_))))))); exact F2 G [0, 1] (by show _ = mR [0, 1] [dT l, .tree (D.stmts l)]; have e1 : (b96 k l : List b6) = (l) := (aB3 hp (by assumption)); (first | rw [e1] | simp only [e1]) <;> rfl)
  ·
   refine wp_skip (b7 (wp_seq (wp_block (wp_seq (O1 G d9 [0, 1, 26, 27, 28, 29, 34] [dT l, .tree (D.stmts (b96 k l)), dE (l.getD k b85).index.kids, dE (l.getD k b85).value.kids, dT (l.getD k b85).body, dT (l.getD k b85).els, .box (sL (l.getD k b85) 2)] (aD7 k [(5, .ptr 6 0)]) [(0 : Int) ≤ (k : Int), (k : Int) < l.length, k < l.length] ⟨(by simp [h0]), (by assumption), (by have := ab0 (x := (b85 : b6)) hp hl; simp only [b87, b89] at this ⊢; omega), b94⟩ fun G => b7 (wp_seq (k8 G (s6 2 [2] (aY7 ((l.getD k b85).index) ((aC4 hb (by assumption)).1))) [0, 1, 3, 4, 5, 6, 23] [dT l, .tree (D.stmts (b96 k l)), dE (l.getD k b85).value.kids, dT (l.getD k b85).body, dT (l.getD k b85).els, .box [iA (l.getD k b85).kind, iA (l.getD k b85).target, iA (l.getD k b85).index.kind, iA (l.getD k b85).index.value, .tref 6, iA (l.getD k b85).value.kind, iA (l.getD k b85).value.value, .ref 2, iA (l.getD k b85).count, .ref 3, .ref 4], .tree (D.exprs (l.getD k b85).index.kids)] (aD7 k [(5, .ptr 5 0)]) fun G => b7 (wp_seq (k8 G (s6 2 [2] (aY7 ((l.getD k b85).value) ((aC4 hb (by assumption)).2.1))) [0, 1, 3, 4, 5, 6, 23] [dT l, .tree (D.stmts (b96 k l)), dT (l.getD k b85).body, dT (l.getD k b85).els, .box [iA (l.getD k b85).kind, iA (l.getD k b85).target, iA (l.getD k b85).index.kind, iA (l.getD k b85).index.value, .tref 5, iA (l.getD k b85).value.kind, iA (l.getD k b85).value.value, .tref 6, iA (l.getD k b85).count, .ref 2, .ref 3], .tree (D.exprs (l.getD k b85).index.kids), .tree (D.exprs (l.getD k b85).value.kids)] (aD7 k [(5, .ptr 4 0)]) fun G => b7 (wp_seq (k8 G (s6 2 [2] (ih1 (l.getD k b85) (X0 (by assumption)))) [0, 1, 3, 4, 5, 6, 23] [dT l, .tree (D.stmts (b96 k l)), dT (l.getD k b85).els, .box [iA (l.getD k b85).kind, iA (l.getD k b85).target, iA (l.getD k b85).index.kind, iA (l.getD k b85).index.value, .tref 4, iA (l.getD k b85).value.kind, iA (l.getD k b85).value.value, .tref 5, iA (l.getD k b85).count, .tref 6, .ref 2], .tree (D.exprs (l.getD k b85).index.kids), .tree (D.exprs (l.getD k b85).value.kids), .tree (D.stmts (l.getD k b85).body)] (aD7 k [(5, .ptr 3 0)]) fun G => b7 (wp_seq (k8 G (s6 2 [2] (ih2 (l.getD k b85) (X0 (by assumption)))) [0, 1, 3, 4, 5, 6, 23] [dT l, .tree (D.stmts (b96 k l)), .box [iA (l.getD k b85).kind, iA (l.getD k b85).target, iA (l.getD k b85).index.kind, iA (l.getD k b85).index.value, .tref 3, iA (l.getD k b85).value.kind, iA (l.getD k b85).value.value, .tref 4, iA (l.getD k b85).count, .tref 5, .tref 6], .tree (D.exprs (l.getD k b85).index.kids), .tree (D.exprs (l.getD k b85).value.kids), .tree (D.stmts (l.getD k b85).body), .tree (D.stmts (l.getD k b85).els)] (aD7 k [(5, .ptr 2 0)]) fun G => ?_)))))))))))))
   refine b7 (O1 G d9 [0, 31] [dT l, .tree (D.stmts (b96 k l ++ [qzS (l.getD k b85)]))] (aD7 k []) [(b96 k l).length + [qzS (l.getD k b85)].length ≤ (9223372036854775807 : Nat), ((b96 k l).length + [qzS (l.getD k b85)].length) * (152 : Nat) ≤ (140737488355328 : Nat)] ⟨(by have := ab0 (x := (b85 : b6)) hp hl; simp only [b87, b89] at this ⊢; omega), (bJ9 (ab0 hp hl) (by kernel_rfl)), b94⟩ fun G => m6 (b7 (E2 G d9 [(4, iA ((k : Int) + 1))] [wO ((k : Int) + 1)] (o1 (by omega)) fun G => b7 ?_))); exact M8 G (k + 1) (by have := ab0 (x := (b85 : b6)) hp hl; simp only [b87, b89] at this ⊢; omega) (by have := ab0 (x := (b85 : b6)) hp hl; simp only [b87, b89] at this ⊢; omega) [0, 1] (by have e1 : (b96 (k + 1) l : List b6) = (b96 k l ++ [qzS (l.getD k b85)]) := ((bN8 (by omega)).symm); (first | rw [e1] | simp only [e1]) <;> rfl)
theorem bL5 (l : List b6) : i5 l ≤ 1048576 → k6.ok Tryz.prog (a55 l) := fun hb => aH7 l hb
 (fun s hs => (c_copyS2 s).1 (ca7 (Nat.le_of_lt (I3 hs)) hb)) fun s hs => (c_copyS2 s).2 (ca7 (Nat.le_of_lt (I3 hs)) hb)
where
 c_copyS2 (s : b6) : (D7 s ≤ 1048576 → k6.ok Tryz.prog (a55 s.body)) ∧ (D7 s ≤ 1048576 → k6.ok Tryz.prog (a55 s.els)) :=
  b6.ind (P := fun s => (D7 s ≤ 1048576 → k6.ok Tryz.prog (a55 s.body)) ∧ (D7 s ≤ 1048576 → k6.ok Tryz.prog (a55 s.els))) (fun k t i v c b e h1 h2 => by
   have hz : D7 ⟨k, t, i, v, c, b, e⟩ = v7 i + v7 v + i5 b + i5 e := rfl
   constructor
   ·intro hb
    refine aH7 b (by omega) (fun s hs => (h1 s hs).1 ?_) fun s hs => (h1 s hs).2 ?_
    ·have := I3 hs; omega
    ·have := I3 hs; omega
   ·intro hb
    refine aH7 e (by omega) (fun s hs => (h2 s hs).1 ?_) fun s hs => (h2 s hs).2 ?_
    ·have := I3 hs; omega
    ·have := I3 hs; omega) s
theorem bE2 (p : d7) (hb : p.size ≤ 1048576) : k6.ok Tryz.prog ⟨78, [pA 0], pS p, pS p ++ oP p, oA 3⟩ := by
 refine A2 15 Tryz.func78 [dI p.vars, dI p.arrays, dT p.body] [(0, pA 0)] fun G => ?_
 have hb1 : p.vars.length ≤ 1048576 ∧ p.arrays.length ≤ 1048576 ∧ i5 p.body ≤ 1048576 := by unfold d7.size at hb; omega
 refine wp_seq (k8 G d9 [0, 1, 2, 3, 11] [dI p.vars, dI p.arrays, dT p.body, .box (pL 0), .box [.v (.slice none 0 0), .v (.slice none 0 0), .v (.slice none 0 0)]] [(1, .ptr 3 0), (2, .ptr 4 0)] fun G => b7 (wp_seq (G2 G (s6 10 [2] (bL5 p.body hb1.2.2)) [0, 0, 2, 7, 0, 0, 32, 127, 0, 256, 1023, 2047, 4095] [0, 1, 2, 4, 29, 61, 85] [dI p.vars, dI p.arrays, dT p.body, .box [.ref 4, .ref 5, .tref 6], .row 3 (D.ints ([] ++ p.vars)), .row 3 (D.ints ([] ++ p.arrays)), .tree (D.stmts p.body)] [(2, .ptr 3 0)] (aP ((0 : Nat) + p.vars.length) 8 (aP ((0 : Nat) + p.arrays.length) 8 [])) (aK (by omega) (aK (by omega) b94)) fun G => b7 (wp_ret ?_)))); exact F2 G [0, 1, 2, 4, 5, 6]
abbrev owC (e : b5) : k6 := ⟨126, [eA e 0], eS e, eS e ++ [.tree (.exprs e.kids)], .agg [iA e.kind, iA e.value, .tref 1]⟩
abbrev aN7 : It := .box [iA 0, iA 0, .v (.slice none 0 0)]
theorem bR5 (e : b5) (hb : v7 e ≤ 1048576) (ih : ∀ (x : b5), x ∈ e.kids → k6.ok Tryz.prog (owC x)) : k6.ok Tryz.prog (owC e) := by
 refine A2 27 Tryz.func126 [dE e.kids] [(0, eA e 0)] fun G => ?_; have hl := a34 hb; refine wp_seq (k8 G d9 [0, 1, 9] [dE e.kids, .box (eL e 0), aN7] [(1, .ptr 1 0), (2, .ptr 2 0)] fun G => b7 (wp_seq (k8 G d9 [0, 1, 2, 43] [dE e.kids, .box (eL e 0), aN7, .box [iA e.kind, iA e.value, .v (.slice none 0 0)]] [(1, .ptr 1 0), (2, .ptr 2 0), (3, .ptr 3 0)] fun G => b7 (wp_seq (wp_seq (k8 G d9 [0, 2, 3] [dE e.kids, aN7, .box [iA e.kind, iA e.value, .v (.slice none 0 0)]] [(2, .ptr 1 0), (3, .ptr 2 0), (12, .ref 0), (13, iA (e.kids.length : Int)), (14, iA 0)] fun G => b7 (wp_block ?_))))))); obtain ⟨ρ, G⟩ := G.nilT 3 (.exprs []) [dE e.kids, .box [iA 0, iA 0, .v (.slice none 0 0)], .box [iA e.kind, iA e.value, .tref 3]] [(2, .ptr 1 0), (3, .ptr 2 0), (12, .ref 0), (13, iA (e.kids.length : Int)), (14, iA 0)]; refine o9 (κ := Nat) (fun k => k ≤ e.kids.length) (fun k => e.kids.length - k) (fun k => [dE e.kids, .box [iA 0, iA 0, .v (.slice none 0 0)], .box [iA e.kind, iA e.value, .tref 3], .tree (.exprs (e.kids.take k))]) (fun k => [(2, .ptr 1 0), (3, .ptr 2 0), (12, .ref 0), (13, iA (e.kids.length : Int)), (14, iA k)]) 0 (by omega) (s5.at G _ _) ?_; clear G; intro k ρ a w hp G; replace G := s5.at G [dE e.kids, aN7, .box [iA e.kind, iA e.value, .tref 3], .tree (D.exprs (b96 k e.kids))] [(2, .ptr 1 0), (3, .ptr 2 0), (12, .ref 0), (13, iA (e.kids.length : Int)), (14, iA k)]; refine wp_seq (l5 G d9 [(15, bA (decide ((k : Int) < e.kids.length)))] fun G => b7 (wp_seq (O0 G (fun h0 q0 => ?_) fun h0 q0 => ?_)))
 ·refine wp_exit (o5 (o5 (n9 (b7 (wp_seq (k8 G d9 [0, 1, 3] [dE e.kids, .box [iA e.kind, iA e.value, .tref 2], .tree (D.exprs (b96 k e.kids))] [(2, .ptr 1 0)] fun G => b7 (wp_ret ?_))))))); exact F2 G [0, 2] (by show _ = mR [0, 2] [dE e.kids, .tree (D.exprs e.kids)]; have e1 : (b96 k e.kids : List b5) = (e.kids) := (aB3 hp (by assumption)); (first | rw [e1] | simp only [e1]) <;> rfl)
 ·refine wp_skip (b7 (wp_seq (wp_block (wp_seq (O1 G d9 [0, 1, 2, 3, 12, 20] [dE e.kids, aN7, .box [iA e.kind, iA e.value, .tref 3], .tree (D.exprs (b96 k e.kids)), dE (e.kids.getD k b85).kids, .box (eL (e.kids.getD k b85) 4)] [(2, .ptr 1 0), (3, .ptr 2 0), (5, .ptr 5 0), (12, .ref 0), (13, iA (e.kids.length : Int)), (14, iA k)] [(0 : Int) ≤ (k : Int), (k : Int) < e.kids.length, k < e.kids.length] ⟨(by simp [h0]), (by assumption), (by have := ab0 (x := (b85 : b5)) hp hl; simp only [b87, b89] at this ⊢; omega), b94⟩ fun G => b7 (G2 G (s6 3 [4] (ih (e.kids.getD k b85) (ab1 (by assumption)))) [0, 1, 0, 4, 12, 31, 63, 127] [0, 1, 2, 46] [dE e.kids, aN7, .box [iA e.kind, iA e.value, .tref 3], .tree (D.exprs (b96 k e.kids ++ [m8 (e.kids.getD k b85)]))] [(2, .ptr 1 0), (3, .ptr 2 0), (12, .ref 0), (13, iA (e.kids.length : Int)), (14, iA k)] [(b96 k e.kids).length + [m8 (e.kids.getD k b85)].length ≤ (9223372036854775807 : Nat), ((b96 k e.kids).length + [m8 (e.kids.getD k b85)].length) * (40 : Nat) ≤ (140737488355328 : Nat)] ⟨(by have := ab0 (x := (b85 : b5)) hp hl; simp only [b87, b89] at this ⊢; omega), (bJ9 (ab0 hp hl) (by kernel_rfl)), b94⟩ fun G => m6 (b7 (E2 G d9 [(14, iA ((k : Int) + 1))] [wO ((k : Int) + 1)] (o1 (by omega)) fun G => b7 ?_)))))))); exact M8 G (k + 1) (by have := ab0 (x := (b85 : b5)) hp hl; simp only [b87, b89] at this ⊢; omega) (by have := ab0 (x := (b85 : b5)) hp hl; simp only [b87, b89] at this ⊢; omega) (rg 4) (by have e1 : (b96 (k + 1) e.kids : List b5) = (b96 k e.kids ++ [m8 (e.kids.getD k b85)]) := ((bN9 (by omega)).symm); (first | rw [e1] | simp only [e1]) <;> rfl)
theorem bD8 (e : b5) : v7 e ≤ 1048576 → k6.ok Tryz.prog (owC e) :=
 b5.ind (P := fun e => v7 e ≤ 1048576 → k6.ok Tryz.prog (owC e)) (fun k n ks ih hb => bR5 ⟨k, n, ks⟩ hb fun x hx => ih x hx (by
  have h1 := bh2 (show x ∈ ks from hx)
  have h2 : v7 ⟨k, n, ks⟩ = n8 ks := rfl
  omega)) e
abbrev a24 (l : List b6) : k6 := ⟨59, [.ref 0], [dT l], [dT l, .tree (.stmts l)], .tref 1⟩
theorem ba3 (l : List b6) (hb : i5 l ≤ 1048576) (ih1 : ∀ (s : b6), s ∈ l → k6.ok Tryz.prog (a24 s.body)) (ih2 : ∀ (s : b6), s ∈ l → k6.ok Tryz.prog (a24 s.els)) : k6.ok Tryz.prog (a24 l) := by
 refine A2 36 Tryz.func59 [dT l] [(0, .ref 0)] fun G => ?_; have hl := aR0 hb; refine wp_seq (l5 G d9 [(2, .v (.slice none 0 0))] fun G => b7 (wp_seq (l5 G d9 [(3, .v (.slice none 0 0))] fun G => b7 (wp_seq (wp_seq (C9 G d9 [(2, .v (.slice none 0 0)), (3, .v (.slice none 0 0)), (6, .ref 0), (7, iA (l.length : Int)), (8, iA 0)] fun G => b7 (wp_block ?_))))))); obtain ⟨ρ, G⟩ := G.nilT 1 (.stmts []) [dT l] [(2, .v (.slice none 0 0)), (3, .tref 1), (6, .ref 0), (7, iA (l.length : Int)), (8, iA 0)]; refine o9 (κ := Nat) (fun k => k ≤ l.length) (fun k => l.length - k) (fun k => [dT l, .tree (.stmts (l.take k))]) (fun k => [(2, .v (.slice none 0 0)), (3, .tref 1), (6, .ref 0), (7, iA (l.length : Int)), (8, iA k)]) 0 (by omega) (s5.at G _ _) ?_; clear G; intro k ρ a w hp G; replace G := s5.at G [dT l, .tree (D.stmts (b96 k l))] [(2, .v (.slice none 0 0)), (3, .tref 1), (6, .ref 0), (7, iA (l.length : Int)), (8, iA k)]; refine wp_seq (l5 G d9 [(9, bA (decide ((k : Int) < l.length)))] fun G => b7 (wp_seq (O0 G (fun h0 q0 => ?_) fun h0 q0 => ?_)))
 ·refine wp_exit (o5 (o5 (n9 (b7 (wp_seq (l5 G d9 [(2, .tref 1)] fun G => b7 (wp_ret ?_))))))); exact F2 G [0, 1] (by show _ = mR [0, 1] [dT l, .tree (D.stmts l)]; have e1 : (b96 k l : List b6) = (l) := (aB3 hp (by assumption)); (first | rw [e1] | simp only [e1]) <;> rfl)
 ·refine wp_skip (b7 (wp_seq (wp_block (wp_seq (O1 G d9 [0, 1, 10, 11, 12, 13, 18] [dT l, .tree (D.stmts (b96 k l)), dE (l.getD k b85).index.kids, dE (l.getD k b85).value.kids, dT (l.getD k b85).body, dT (l.getD k b85).els, .box (sL (l.getD k b85) 2)] [(2, .v (.slice none 0 0)), (3, .tref 1), (5, .ptr 6 0), (6, .ref 0), (7, iA (l.length : Int)), (8, iA k)] [(0 : Int) ≤ (k : Int), (k : Int) < l.length, k < l.length] ⟨(by simp [h0]), (by assumption), (by have := ab0 (x := (b85 : b6)) hp hl; simp only [b87, b89] at this ⊢; omega), b94⟩ fun G => b7 (G2 G (t6 (l8 7 [2] (bD8 ((l.getD k b85).index) ((aC4 hb (by assumption)).1)) (l8 10 [3] (bD8 ((l.getD k b85).value) ((aC4 hb (by assumption)).2.1)) (l8 15 [4] (ih1 (l.getD k b85) (X0 (by assumption))) (l8 18 [5] (ih2 (l.getD k b85) (X0 (by assumption))) t5)))) fz []) [0, 0, 2, 0, 8, 0, 32, 96, 0, 256, 992, 0, 2048, 0, 8192, 26592, 0, 65536, 255968, 524286, 1048574, 2097151, 4194303] [0, 175] [dT l, .tree (D.stmts (b96 k l ++ [qzS (l.getD k b85)]))] [(2, .v (.slice none 0 0)), (3, .tref 1), (6, .ref 0), (7, iA (l.length : Int)), (8, iA k)] [(b96 k l).length + [qzS (l.getD k b85)].length ≤ (9223372036854775807 : Nat), ((b96 k l).length + [qzS (l.getD k b85)].length) * (152 : Nat) ≤ (140737488355328 : Nat)] ⟨(by have := ab0 (x := (b85 : b6)) hp hl; simp only [b87, b89] at this ⊢; omega), (bJ9 (ab0 hp hl) (by kernel_rfl)), b94⟩ fun G => m6 (b7 (E2 G d9 [(8, iA ((k : Int) + 1))] [wO ((k : Int) + 1)] (o1 (by omega)) fun G => b7 ?_)))))))); exact M8 G (k + 1) (by have := ab0 (x := (b85 : b6)) hp hl; simp only [b87, b89] at this ⊢; omega) (by have := ab0 (x := (b85 : b6)) hp hl; simp only [b87, b89] at this ⊢; omega) [0, 1] (by have e1 : (b96 (k + 1) l : List b6) = (b96 k l ++ [qzS (l.getD k b85)]) := ((bN8 (by omega)).symm); (first | rw [e1] | simp only [e1]) <;> rfl)
theorem bV5 (l : List b6) : i5 l ≤ 1048576 → k6.ok Tryz.prog (a24 l) := fun hb => ba3 l hb
 (fun s hs => (own2 s).1 (ca7 (Nat.le_of_lt (I3 hs)) hb)) fun s hs => (own2 s).2 (ca7 (Nat.le_of_lt (I3 hs)) hb)
where
 own2 (s : b6) : (D7 s ≤ 1048576 → k6.ok Tryz.prog (a24 s.body)) ∧ (D7 s ≤ 1048576 → k6.ok Tryz.prog (a24 s.els)) :=
  b6.ind (P := fun s => (D7 s ≤ 1048576 → k6.ok Tryz.prog (a24 s.body)) ∧ (D7 s ≤ 1048576 → k6.ok Tryz.prog (a24 s.els))) (fun k t i v c b e h1 h2 => by
   have hz : D7 ⟨k, t, i, v, c, b, e⟩ = v7 i + v7 v + i5 b + i5 e := rfl
   constructor
   ·intro hb
    refine ba3 b (by omega) (fun s hs => (h1 s hs).1 ?_) fun s hs => (h1 s hs).2 ?_
    ·have := I3 hs; omega
    ·have := I3 hs; omega
   ·intro hb
    refine ba3 e (by omega) (fun s hs => (h2 s hs).1 ?_) fun s hs => (h2 s hs).2 ?_
    ·have := I3 hs; omega
    ·have := I3 hs; omega) s
theorem b35 (p : d7) (hb : p.size ≤ 1048576) : k6.ok Tryz.prog ⟨58, [pA 0], pS p, pS p ++ oP p, oA 3⟩ := by
 refine A2 13 Tryz.func58 [dI p.vars, dI p.arrays, dT p.body] [(0, pA 0)] fun G => ?_
 have hb1 : p.vars.length ≤ 1048576 ∧ p.arrays.length ≤ 1048576 ∧ i5 p.body ≤ 1048576 := by unfold d7.size at hb; omega
 refine wp_seq (k8 G d9 [0, 1, 2, 3, 11] [dI p.vars, dI p.arrays, dT p.body, .box (pL 0), .box [.v (.slice none 0 0), .v (.slice none 0 0), .v (.slice none 0 0)]] [(1, .ptr 3 0), (2, .ptr 4 0)] fun G => b7 (wp_seq (P1 G (t6 (l8 2 [0] (Y8 p.vars (by omega)) (l8 5 [1] (Y8 p.arrays (by omega)) (l8 8 [2] (bV5 p.body hb1.2.2) t5))) fz []) [0, 1, 3, 0, 8, 31, 0, 64, 255, 511, 1023] [0, 1, 2, 4, 21, 45, 69] [dI p.vars, dI p.arrays, dT p.body, .box [.ref 4, .ref 5, .tref 6], .row 3 (D.ints p.vars), .row 3 (D.ints p.arrays), .tree (D.stmts p.body)] [(2, .ptr 3 0)] fun G => b7 (wp_ret ?_)))); exact F2 G [0, 1, 2, 4, 5, 6]
section
variable {P : Program} {ι κ : Type} {φ ψ : Nat → Prop} {w0 w : World} {F : ι → Rs} {ρ ρ0 : Nat → Value} {N m n : Nat} {S : List It} {tm : List (Nat × AV)} {a : Act}
def aP9 (n : Nat) : List Ln := cb3 n .no ++ [.tree]
theorem a28 (n i : Nat) : x3 (aP9 n) i = if i = n then .tree else .no := by
 unfold x3 aP9
 rw [b91]
 rcases Nat.lt_trichotomy i n with h | h | h
 ·rw [ca9 (by simpa using h), if_neg (by omega)]
  simp [List.getElem?_replicate, h]
 ·subst h; simp
 ·rw [cb5 (by simp; omega), if_neg (by omega)]; rfl
theorem k6.datPost {f : FuncId} {args : List AV} {S0 S : List It} {d : D} {res : AV} (hc : k6.ok P ⟨f, args, S0, S ++ [.tree d], res⟩) (res1 : AV) (hr : res = res1.tr (aP9 S.length) := by kernel_rfl) (hk : (decide (S0.length ≤ S.length) && (res1.trOk (aP9 S.length) && S.all fun x => x.ids.isEmpty)) = true := by kernel_rfl) : k6.ok P ⟨f, args, S0, S ++ [.dat d], res1⟩ := by
 simp only [b86, decide_eq_true_eq] at hk
 obtain ⟨hl0, hk⟩ := hk
 subst hr
 intro ι φ ψ w0 w F ρ M
 refine (hc ι φ ψ w0 w F ρ M).mono ?_
 rintro x w' ⟨ρ', h1, rfl, M2⟩
 let ρ1 : Nat → Value := fun i => if (x3 (aP9 S.length) i).isT then E7 (ρ' i) else ρ' i
 have hρ1 : ∀ i, ρ1 i = if (x3 (aP9 S.length) i).isT then E7 (ρ' i) else ρ' i := fun _ => rfl
 have hne : ∀ i, i ≠ S.length → ρ1 i = ρ' i := fun i hi => by rw [hρ1, a28, if_neg hi]; rfl
 have heq : ρ1 S.length = E7 (ρ' S.length) := by rw [hρ1, a28, if_pos rfl]; rfl
 refine ⟨ρ1, fun i hi => by rw [hne i (by simp only at hi; omega)]; exact h1 i hi, by rw [AV.val_tr hρ1 res1 hk.1], ?_⟩
 refine M2.release fun k => ?_
 cases k with
 | inl i => exact .inl rfl
 | inr j =>
  simp only [p7]
  rcases Nat.lt_trichotomy j S.length with hj | hj | hj
  ·have e1 : s0 (S ++ [.dat d]) j = s0 S j := by simp [s0, b91, ca9 hj]
   have e2 : s0 (S ++ [.tree d]) j = s0 S j := by simp [s0, b91, ca9 hj]
   rw [e1, e2]
   left
   have h2 : (s0 S j).ids = [] := by
    have h3 := b93.1 hk.2 _ (cb0 hj)
    rw [ad1 hj]
    simpa using h3
   exact It.res_congr _ (fun i hi => by rw [h2] at hi; cases hi) (.inr (.inr (hne j (by omega))))
  ·subst hj
   have e1 : s0 (S ++ [.dat d]) S.length = .dat d := by simp [s0, b91]
   have e2 : s0 (S ++ [.tree d]) S.length = .tree d := by simp [s0, b91]
   rw [e1, e2]
   refine .inr ⟨fun b hb => hb, fun φ' hf hown => ⟨RD.nice _ _, ?_⟩⟩
   have hh := M2.holds (.inr S.length)
   simp only [p7] at hh
   rw [e2] at hh
   rw [heq]
   exact E3.read hh.2.1 fun b hb => hown b (by rw [show (It.tree d).res ρ' S.length = Rs.own (H8 (ρ' S.length)) _ from rfl]; exact hb)
  ·rw [w9 (by simp; omega), w9 (by simp; omega)]; exact .inl rfl
theorem It.res_ren' {σ : Nat → Nat} {i j : Nat} {ρ : Nat → Value} (x : It) (h : σ i = j) : (x.ren σ).res ρ j = x.res (fun i => ρ (σ i)) i := by
 subst h; exact It.res_ren x
def mv (i n j : Nat) : Nat := if natEq j i then n else j
theorem aI8 {f : AV → AV} {t : Nat} {y : AV} : ∀ {tm : List (Nat × AV)}, y8 (tm.map fun p => (p.1, f p.2)) t = some y → ∃ x, y8 tm t = some x ∧ y = f x
 | [], h => by cases h
 | (k, z) :: r, h => by
  simp only [y8, cb9] at h ⊢
  split at h
  ·rename_i hk; cases h; exact ⟨z, by rw [if_pos hk], rfl⟩
  ·rename_i hk
   obtain ⟨x, h1, h2⟩ := aI8 h
   exact ⟨x, by rw [if_neg hk]; exact h1, h2⟩
theorem bU2 {i n : Nat} {x : AV} : ∀ j ∈ (x.ren (mv i n)).ids, (∃ k ∈ x.ids, mv i n k = j) := by
 have key : (∀ x : AV, ∀ j ∈ (x.ren (mv i n)).ids, ∃ k ∈ x.ids, mv i n k = j) ∧ (∀ l : List AV, ∀ j ∈ AV.idsL (AV.renL (mv i n) l), ∃ k ∈ AV.idsL l, mv i n k = j) := by
  have hL : ∀ (l : List AV), (∀ x ∈ l, ∀ j ∈ (x.ren (mv i n)).ids, ∃ k ∈ x.ids, mv i n k = j) → ∀ j ∈ AV.idsL (AV.renL (mv i n) l), ∃ k ∈ AV.idsL l, mv i n k = j := by
   intro l
   induction l with
   | nil => intro _ j hj; cases hj
   | cons y r ih =>
    intro h j hj
    simp only [AV.renL, AV.idsL, ca2] at hj ⊢
    rcases hj with hj | hj
    ·obtain ⟨k, h1, h2⟩ := h y ca1 j hj
     exact ⟨k, .inl h1, h2⟩
    ·obtain ⟨k, h1, h2⟩ := ih (fun x hx => h x (ca8 _ hx)) j hj
     exact ⟨k, .inr h1, h2⟩
  have hx : ∀ x : AV, ∀ j ∈ (x.ren (mv i n)).ids, ∃ k ∈ x.ids, mv i n k = j := fun x => goX hL x
  exact ⟨hx, fun l => hL l fun x _ => hx x⟩
 exact key.1 x
where
 goX {i n : Nat} (hL : ∀ (l : List AV), (∀ x ∈ l, ∀ j ∈ (x.ren (mv i n)).ids, ∃ k ∈ x.ids, mv i n k = j) → ∀ j ∈ AV.idsL (AV.renL (mv i n) l), ∃ k ∈ AV.idsL l, mv i n k = j) : ∀ x : AV, ∀ j ∈ (x.ren (mv i n)).ids, ∃ k ∈ x.ids, mv i n k = j
  | .v _, j, hj => by cases hj
  | .ptr a b, j, hj => ⟨a, ca5.2 rfl, (ca5.1 hj).symm⟩
  | .ea a b c d, j, hj => ⟨a, ca5.2 rfl, (ca5.1 hj).symm⟩
  | .ref a, j, hj => ⟨a, ca5.2 rfl, (ca5.1 hj).symm⟩
  | .tref a, j, hj => ⟨a, ca5.2 rfl, (ca5.1 hj).symm⟩
  | .agg l, j, hj => hL l (fun x _ => goX hL x) j hj
  | .tup l, j, hj => hL l (fun x _ => goX hL x) j hj
  | .fn _ l, j, hj => hL l (fun x _ => goX hL x) j hj
  | .bm _ l, j, hj => hL l (fun x _ => goX hL x) j hj
theorem s5.shift (G : s5 φ ψ w0 F N m ρ0 ρ S tm a w) (i n : Nat) (S1 : List It) (tm1 : List (Nat × AV)) (hn : (natEq S.length n && decide (i < n)) = true := by kernel_rfl) (hS : S1 = (S.map (It.ren (mv i n))).set i .dead ++ [(s0 S i).ren (mv i n)] := by kernel_rfl) (ht : tm1 = tm.map (fun p => (p.1, p.2.ren (mv i n))) := by kernel_rfl) :
  ∃ ρ', s5 φ ψ w0 F N m ρ0 ρ' S1 tm1 a w := by
 subst hS
 subst ht
 simp only [b86, natEq, beq_iff_eq, decide_eq_true_eq] at hn
 obtain ⟨hn, hin⟩ := hn
 have hlen : ((S.map (It.ren (mv i n))).set i .dead ++ [(s0 S i).ren (mv i n)]).length = n + 1 := by simp [hn]
 have hat : ∀ j, s0 ((S.map (It.ren (mv i n))).set i .dead ++ [(s0 S i).ren (mv i n)]) j = if j = n then (s0 S i).ren (mv i n) else if j = i then .dead else (s0 S j).ren (mv i n) := fun j => by
  by_cases e : j = n
  ·subst e
   rw [if_pos rfl]
   simp only [s0, b91]
   rw [cc6 (by simp [hn])]
   simp [hn]
  ·rw [if_neg e]
   by_cases e2 : j = i
   ·subst e2
    rw [if_pos rfl]
    simp only [s0, b91]
    rw [ca9 (by simp; omega)]
    simp [show j < S.length by omega]
   ·rw [if_neg e2]
    simp only [s0, b91]
    rcases cc0 j n with h | h
    ·rw [ca9 (by simp; omega), List.getElem?_set_ne (fun h => e2 h.symm), List.getElem?_map, b90 (by omega)]
     rfl
    ·rw [cb5 (by simp; omega), cb5 (by omega)]; rfl
 have hbd : ∀ x : AV, (∀ j ∈ x.ids, j < n) → ∀ j ∈ (x.ren (mv i n)).ids, j < n + 1 := fun x h j hj => by
  obtain ⟨k, h1, h2⟩ := bU2 j hj
  have := h k h1
  rw [← h2]; unfold mv
  split <;> omega
 let ρ1 : Nat → Value := fun j => if j = n then ρ i else ρ j
 have hmv : ∀ j, j < n → ρ1 (mv i n j) = ρ j := fun j hj => by
  show (if mv i n j = n then ρ i else ρ (mv i n j)) = ρ j
  by_cases e : j = i
  ·subst e; simp [mv, natEq]
  ·have h : mv i n j = j := by simp [mv, natEq, e]
   rw [h, if_neg (by omega)]
 have hval : ∀ x : AV, (∀ j ∈ x.ids, j < n) → (x.ren (mv i n)).val ρ1 = x.val ρ := fun x h => by
  rw [AV.val_ren]
  exact AV.val_congr x fun j hj => hmv j (h j hj)
 have hids : ∀ j, ∀ q ∈ (s0 S j).ids, q < n := fun j q hq => by have := (G.bd j).1 q hq; omega
 have hitem : ∀ j, ∀ q ∈ ((s0 S j).ren (mv i n)).ids, q < n + 1 := fun j q hq => by
  cases hx : s0 S j with
  | box cs =>
   rw [hx] at hq
   have h1 := hids j
   rw [hx] at h1
   exact hbd (.agg cs) h1 q hq
  | _ => rw [hx] at hq; cases hq
 refine ⟨ρ1, G.size, G.defs, fun t y hy => ?_, fun t y hy j hj => ?_, fun j => ⟨fun q hq => ?_, fun hj => w9 hj⟩, ?_, ?_, fun j hj => ?_⟩
 ·obtain ⟨x, h1, rfl⟩ := aI8 hy
  rw [G.tmv t x h1, hval x fun j hj => by have := G.tmi t x h1 j hj; omega]
 ·obtain ⟨x, h1, rfl⟩ := aI8 hy
  rw [hlen]
  exact hbd x (fun j hj => by have := G.tmi t x h1 j hj; omega) j hj
 ·rw [hlen]
  rw [hat] at hq
  split at hq
  ·exact hitem i q hq
  ·split at hq
   ·cases hq
   ·exact hitem j q hq
 ·refine G.mem.map (fun k : ι ⊕ Nat => (match k with | .inl q => some (.inl q) | .inr j => if j = n then some (.inr i) else if j = i then none else some (.inr j) : Option (ι ⊕ Nat))) ?_ ?_
  ·intro k k' x h1 h2
   match k, k' with
   | .inl q, .inl q' => simp at h1 h2; rw [← h1] at h2; simpa using h2.symm
   | .inl q, .inr j => simp at h1; subst h1; simp at h2; split at h2 <;> simp at h2
   | .inr j, .inl q => simp at h2; subst h2; simp at h1; split at h1 <;> simp at h1
   | .inr j, .inr j' =>
    simp only at h1 h2
    by_cases e1 : j = n <;> by_cases e2 : j' = n
    ·rw [e1, e2]
    ·rw [if_pos e1] at h1
     rw [if_neg e2] at h2
     by_cases e3 : j' = i
     ·rw [if_pos e3] at h2; cases h2
     ·rw [if_neg e3] at h2
      simp at h1 h2
      rw [← h1] at h2
      exact absurd (Sum.inr.inj h2) e3
    ·rw [if_pos e2] at h2
     rw [if_neg e1] at h1
     by_cases e3 : j = i
     ·rw [if_pos e3] at h1; cases h1
     ·rw [if_neg e3] at h1
      simp at h1 h2
      rw [← h2] at h1
      exact absurd (Sum.inr.inj h1) e3
    ·rw [if_neg e1] at h1
     rw [if_neg e2] at h2
     by_cases e3 : j = i
     ·rw [if_pos e3] at h1; cases h1
     ·by_cases e4 : j' = i
      ·rw [if_pos e4] at h2; cases h2
      ·rw [if_neg e3] at h1
       rw [if_neg e4] at h2
       simp at h1 h2
       rw [← h1] at h2
       rw [Sum.inr.inj h2]
  ·intro k
   match k with
   | .inl q => exact .inl ⟨_, rfl, rfl⟩
   | .inr j =>
    by_cases e : j = n
    ·refine .inl ⟨.inr i, by simp [e], ?_⟩
     simp only [p7]
     rw [hat, if_pos e]
     subst e
     have h1 : mv i j i = j := by simp [mv, natEq]
     rw [It.res_ren' (s0 S i) h1]
     exact It.res_congr _ (fun q hq => hmv q (hids i q hq)) (.inr (.inr (hmv i hin)))
    ·by_cases e2 : j = i
     ·refine .inr ?_
      simp only [p7]
      rw [hat, if_neg e, if_pos e2]
      rfl
     ·refine .inl ⟨.inr j, by simp [e, e2], ?_⟩
      simp only [p7]
      rw [hat, if_neg e, if_neg e2]
      rcases cc0 j n with hj | hj
      ·have h1 : mv i n j = j := by simp [mv, natEq, e2]
       rw [It.res_ren' (s0 S j) h1]
       exact It.res_congr _ (fun q hq => hmv q (hids j q hq)) (.inr (.inr (hmv j hj)))
      ·rw [w9 (by omega)]; rfl
 ·have := G.le; rw [hlen]; omega
 ·have := G.le
  show (if j = n then ρ i else ρ j) = ρ0 j
  rw [if_neg (by omega)]; exact G.old j hj
end
theorem k6.dupPost {P : Program} {f : FuncId} {args : List AV} {pre S : List It} {d : D} {res res' : AV} {i : Nat} (hc : k6.ok P ⟨f, args, pre, S, res⟩) (hi : S[i]? = some (.dat d)) (hl : pre.length ≤ S.length)
  (hS : S.all (fun x => W2 S.length x.ids) = true) (hr : ∀ ρ : Nat → Value, ρ S.length = ρ i → res'.val ρ = res.val ρ) (hg : W2 S.length res.ids = true) : k6.ok P ⟨f, args, pre, S ++ [.dat d], res'⟩ := by
 intro ι φ ψ w0 w F ρ M
 refine (hc ι φ ψ w0 w F ρ M).mono ?_
 rintro x w' ⟨ρ1, h1, rfl, M1⟩
 have hi' : s0 S i = .dat d := by simp [s0, hi]
 have hlt : i < S.length := (b98.1 hi).1
 have hinv : Inv (s0 S) ρ1 [S.length] := fun ρ' h j => by
  by_cases hj : j < S.length
  ·refine It.res_congr _ (fun k hk => h k ?_) (.inr (.inr (h j (by simp; omega))))
   have h1 := D0 (b93.1 hS (S[j]) (cb0 hj)) k (by simpa [s0, b91, b90 hj] using hk)
   simp; omega
  ·rw [show s0 S j = .none by simp only [s0, b91, cb5 (Nat.le_of_not_lt hj)]; rfl]; rfl
 obtain ⟨ρ2, h3, M2, h4⟩ := M1.newDat (id := S.length) (by simp [s0]) hinv (M1.datAt hi')
 have e : o7 (s0 S) [(S.length, .dat d)] = s0 (S ++ [.dat d]) := by
  funext j
  simp only [o7, s0, b91]
  by_cases hj : j = S.length
  ·subst hj; simp
  ·rw [if_neg hj]
   by_cases hj2 : j < S.length
   ·rw [ca9 hj2]
   ·rw [cb5 (by omega), cb5 (by simp; omega)]
 rw [e] at M2
 have hρ : ρ2 i = ρ1 i := h3 i (by simp; omega)
 refine ⟨ρ2, fun k hk => by
  have hk : k < pre.length := hk
  rw [h3 k (by simp; omega)]; exact h1 k hk, ?_, M2⟩
 rw [hr ρ2 (by rw [← h4, hρ])]
 exact congrArg _ (AV.val_congr res fun k hk => by
  have := D0 hg k hk
  exact h3 k (by simp; omega)).symm
abbrev nlA : AV := .v (.slice none 0 0)
abbrev qT (l : List b6) : It := .row 106 (.stmts l)
abbrev qI (l : List Int) : It := .row 3 (.ints l)
theorem ba4 (vs ars : List Int) (d : Nat) (ih : ∀ (e : b5), f5 vs.length ars.length d e = true → k6.ok Tryz.prog (F6 159 [.agg [.ref 0, .ref 1, nlA], eA e 2] ([dI vs, dI ars] ++ eS e) (iA (b9 vs ars d e))))
    (e : b5) (he : f5 vs.length ars.length (d + 1) e = true) : k6.ok Tryz.prog (F6 159 [.agg [.ref 0, .ref 1, nlA], eA e 2] ([dI vs, dI ars] ++ eS e) (iA (b9 vs ars (d + 1) e))) := by
  refine A2 42 Tryz.func159 [dI vs, dI ars, dE e.kids] [(0, .agg [.ref 0, .ref 1, .v (.slice none 0 0)]), (1, eA e 2)] fun G => ?_; refine wp_seq (k8 G d9 [0, 1, 2, 3, 11] [dI vs, dI ars, dE e.kids, .box [.ref 0, .ref 1, .v (.slice none 0 0)], .box (eL e 2)] [(2, .ptr 3 0), (3, .ptr 4 0), (4, iA 0)] fun G => b7 (wp_seq (l5 G d9 [(5, iA 0)] fun G => b7 (wp_seq (wp_seq (l5 G d9 [(8, iA e.kind)] fun G => b7 (wp_block (wp_seq (l5 G d9 [(9, bA (e.kind == 2))] fun G => b7 (P9 G (fun h0 q0 => ?_) fun h0 q0 => ?_))))))))))
  ·
   refine wp_seq (l5 G d9 [(17, bA (e.kind == 3))] fun G => b7 (P9 G (fun h1 q1 => ?_) fun h1 q1 => ?_))
   ·
    refine wp_skip (m6 (b7 (wp_seq (wp_seq (C9 G d9 [(2, .ptr 3 0), (3, .ptr 4 0), (4, iA 0), (5, iA 0), (6, iA 0)] fun G => b7 (wp_block ?_)))))); refine o9 (κ := Nat) (fun k => k ≤ e.kids.length) (fun k => e.kids.length - k) (fun k => [dI vs, dI ars, dE e.kids, .box [.ref 0, .ref 1, .v (.slice none 0 0)], .box (eL e 2)]) (fun k => [(2, .ptr 3 0), (3, .ptr 4 0), (4, iA 0), (5, iA (p8 vs ars d 0 e.kids k)), (6, iA k)]) 0 (by simp [he, h0, h1]) (s5.at G _ _) ?_; clear G; intro k ρ a w hp G; have hlen : e.kids.length ≤ 9223372036854775807 := G.len 2 (d := .exprs e.kids) (by kernel_rfl); refine wp_seq (wp_seq (C9 G d9 [(2, .ptr 3 0), (3, .ptr 4 0), (4, iA 0), (5, iA (p8 vs ars d 0 e.kids k)), (6, iA k), (29, bA (decide ((k : Int) < e.kids.length)))] fun G => b7 (O0 G (fun h2 q2 => ?_) fun h2 q2 => ?_)))
    · refine wp_exit (o5 (o5 (n9 (b7 (wp_seq (k8 G d9 [0, 1, 2] [dI vs, dI ars, dE e.kids] [(4, iA (p8 vs ars d 0 e.kids k))] fun G => b7 (wp_ret ?_))))))); exact J9 (p8 vs ars d 0 e.kids k) G [0, 1, 2] (G8 (by omega) (by simp [U2, h0, q0, h1, q1, h2, q2]; done))
    · refine wp_skip (b7 (wp_seq (wp_block (ah9 G (s6 7 [0, 1, 53] (ih (e.kids.getD k b85) (H6 he (by omega)))) [0, 0, 0, 4, 0, 28, 60, 126, 255, 511] [(5, iA (i6 (p8 vs ars d 0 e.kids k) (b9 vs ars d (e.kids.getD k b85))))] (iX k k e.kids.length []) (iK (by omega) b94) fun G => m6 (b7 (E2 G d9 [(6, iA ((k : Int) + 1))] [wO ((k : Int) + 1)] (o1 (by omega)) fun G => b7 ?_)))))); exact M8 G (k + 1) (by omega) (by omega) (rg 5) (ht := by have e1 : (p8 vs ars d 0 e.kids (k + 1) : Int) = (i6 (p8 vs ars d 0 e.kids k) (b9 vs ars d (e.kids.getD k b85))) := (D2 (by omega)); (first | rw [e1] | simp only [e1]) <;> rfl)
   ·
    refine E2 G d9 [(5, iA (ars.getD e.value.toNat 0))] [(0 : Int) ≤ e.value, e.value < (ars.length : Int), e.value.toNat < ars.length] ⟨((R7 he (by assumption)).1), ((R7 he (by assumption)).2.1), ((R7 he (by assumption)).2.2), b94⟩ fun G => m6 (b7 (wp_seq (wp_seq (C9 G d9 [(2, .ptr 3 0), (3, .ptr 4 0), (4, iA 0), (5, iA (ars.getD e.value.toNat 0)), (6, iA 0)] fun G => b7 (wp_block ?_))))); refine o9 (κ := Nat) (fun k => k ≤ e.kids.length) (fun k => e.kids.length - k) (fun k => [dI vs, dI ars, dE e.kids, .box [.ref 0, .ref 1, .v (.slice none 0 0)], .box (eL e 2)]) (fun k => [(2, .ptr 3 0), (3, .ptr 4 0), (4, iA 0), (5, iA (p8 vs ars d (ars.getD e.value.toNat 0) e.kids k)), (6, iA k)]) 0 (by simp [he, h0, h1]) (s5.at G _ _) ?_; clear G; intro k ρ a w hp G; have hlen : e.kids.length ≤ 9223372036854775807 := G.len 2 (d := .exprs e.kids) (by kernel_rfl); refine wp_seq (wp_seq (C9 G d9 [(2, .ptr 3 0), (3, .ptr 4 0), (4, iA 0), (5, iA (p8 vs ars d (ars.getD e.value.toNat 0) e.kids k)), (6, iA k), (29, bA (decide ((k : Int) < e.kids.length)))] fun G => b7 (O0 G (fun h3 q3 => ?_) fun h3 q3 => ?_)))
    · refine wp_exit (o5 (o5 (n9 (b7 (wp_seq (k8 G d9 [0, 1, 2] [dI vs, dI ars, dE e.kids] [(4, iA (p8 vs ars d (ars.getD e.value.toNat 0) e.kids k))] fun G => b7 (wp_ret ?_))))))); exact J9 (p8 vs ars d (ars.getD e.value.toNat 0) e.kids k) G [0, 1, 2] (G8 (by omega) (by simp [U2, h0, q0, h1, q1, h3, q3]; done))
    · refine wp_skip (b7 (wp_seq (wp_block (ah9 G (s6 7 [0, 1, 53] (ih (e.kids.getD k b85) (H6 he (by omega)))) [0, 0, 0, 4, 0, 28, 60, 126, 255, 511] [(5, iA (i6 (p8 vs ars d (ars.getD e.value.toNat 0) e.kids k) (b9 vs ars d (e.kids.getD k b85))))] (iX k k e.kids.length []) (iK (by omega) b94) fun G => m6 (b7 (E2 G d9 [(6, iA ((k : Int) + 1))] [wO ((k : Int) + 1)] (o1 (by omega)) fun G => b7 ?_)))))); exact M8 G (k + 1) (by omega) (by omega) (rg 5) (ht := by have e1 : (p8 vs ars d (ars.getD e.value.toNat 0) e.kids (k + 1) : Int) = (i6 (p8 vs ars d (ars.getD e.value.toNat 0) e.kids k) (b9 vs ars d (e.kids.getD k b85))) := (D2 (by omega)); (first | rw [e1] | simp only [e1]) <;> rfl)
  ·
   refine E2 G d9 [(5, iA (vs.getD e.value.toNat 0))] [(0 : Int) ≤ e.value, e.value < (vs.length : Int), e.value.toNat < vs.length] ⟨((P0 he (by assumption)).1), ((P0 he (by assumption)).2.1), ((P0 he (by assumption)).2.2), b94⟩ fun G => m6 (b7 (wp_seq (wp_seq (C9 G d9 [(2, .ptr 3 0), (3, .ptr 4 0), (4, iA 0), (5, iA (vs.getD e.value.toNat 0)), (6, iA 0)] fun G => b7 (wp_block ?_))))); refine o9 (κ := Nat) (fun k => k ≤ e.kids.length) (fun k => e.kids.length - k) (fun k => [dI vs, dI ars, dE e.kids, .box [.ref 0, .ref 1, .v (.slice none 0 0)], .box (eL e 2)]) (fun k => [(2, .ptr 3 0), (3, .ptr 4 0), (4, iA 0), (5, iA (p8 vs ars d (vs.getD e.value.toNat 0) e.kids k)), (6, iA k)]) 0 (by simp [he, h0]) (s5.at G _ _) ?_; clear G; intro k ρ a w hp G; have hlen : e.kids.length ≤ 9223372036854775807 := G.len 2 (d := .exprs e.kids) (by kernel_rfl); refine wp_seq (wp_seq (C9 G d9 [(2, .ptr 3 0), (3, .ptr 4 0), (4, iA 0), (5, iA (p8 vs ars d (vs.getD e.value.toNat 0) e.kids k)), (6, iA k), (29, bA (decide ((k : Int) < e.kids.length)))] fun G => b7 (O0 G (fun h4 q4 => ?_) fun h4 q4 => ?_)))
   · refine wp_exit (o5 (o5 (n9 (b7 (wp_seq (k8 G d9 [0, 1, 2] [dI vs, dI ars, dE e.kids] [(4, iA (p8 vs ars d (vs.getD e.value.toNat 0) e.kids k))] fun G => b7 (wp_ret ?_))))))); exact J9 (p8 vs ars d (vs.getD e.value.toNat 0) e.kids k) G [0, 1, 2] (G8 (by omega) (by simp [U2, h0, q0, h4, q4]; done))
   · refine wp_skip (b7 (wp_seq (wp_block (ah9 G (s6 7 [0, 1, 53] (ih (e.kids.getD k b85) (H6 he (by omega)))) [0, 0, 0, 4, 0, 28, 60, 126, 255, 511] [(5, iA (i6 (p8 vs ars d (vs.getD e.value.toNat 0) e.kids k) (b9 vs ars d (e.kids.getD k b85))))] (iX k k e.kids.length []) (iK (by omega) b94) fun G => m6 (b7 (E2 G d9 [(6, iA ((k : Int) + 1))] [wO ((k : Int) + 1)] (o1 (by omega)) fun G => b7 ?_)))))); exact M8 G (k + 1) (by omega) (by omega) (rg 5) (ht := by have e1 : (p8 vs ars d (vs.getD e.value.toNat 0) e.kids (k + 1) : Int) = (i6 (p8 vs ars d (vs.getD e.value.toNat 0) e.kids k) (b9 vs ars d (e.kids.getD k b85))) := (D2 (by omega)); (first | rw [e1] | simp only [e1]) <;> rfl)
abbrev Z1 : It := .box [.ref 0, .ref 1, .v (.slice none 0 0)]
abbrev ab9 (e : b5) (k : Nat) (r0 : List (Nat × AV)) : List (Nat × AV) := (27, .ref 2) :: (28, iA (e.kids.length : Int)) :: (29, iA (k : Int)) :: r0
theorem bv2 (vs ars : List Int) (d : Nat) (ih : ∀ (e : b5), f5 vs.length ars.length d e = true → k6.ok Tryz.prog (F6 141 [.agg [.ref 0, .ref 1, nlA], eA e 2] ([dI vs, dI ars] ++ eS e) (iA (b9 vs ars d e))))
    (e : b5) (he : f5 vs.length ars.length (d + 1) e = true) : k6.ok Tryz.prog (F6 141 [.agg [.ref 0, .ref 1, nlA], eA e 2] ([dI vs, dI ars] ++ eS e) (iA (b9 vs ars (d + 1) e))) := by
  refine A2 40 Tryz.func141 [dI vs, dI ars, dE e.kids] [(0, .agg [.ref 0, .ref 1, .v (.slice none 0 0)]), (1, eA e 2)] fun G => ?_; refine wp_seq (k8 G d9 [0, 1, 2, 3, 11] [dI vs, dI ars, dE e.kids, Z1, .box (eL e 2)] [(2, .ptr 3 0), (3, .ptr 4 0), (4, iA 0)] fun G => b7 (wp_seq (l5 G d9 [(5, iA 0)] fun G => b7 (wp_seq (wp_seq (l5 G d9 [(9, iA e.kind)] fun G => b7 (wp_block (wp_seq (l5 G d9 [(10, bA (e.kind == 2))] fun G => b7 (P9 G (fun h0 q0 => ?_) fun h0 q0 => ?_))))))))))
  ·
   refine wp_seq (l5 G d9 [(18, bA (e.kind == 3))] fun G => b7 (P9 G (fun h1 q1 => ?_) fun h1 q1 => ?_))
   ·
    refine wp_skip (m6 (b7 (wp_seq (wp_seq (k8 G d9 (rg 4) [dI vs, dI ars, dE e.kids, Z1] [(2, .ptr 3 0), (4, iA 0), (5, iA 0), (27, .ref 2), (28, iA (e.kids.length : Int)), (29, iA 0)] fun G => b7 (wp_block ?_)))))); refine o9 (κ := Nat) (fun k => k ≤ e.kids.length) (fun k => e.kids.length - k) (fun k => [dI vs, dI ars, dE e.kids, .box [.ref 0, .ref 1, .v (.slice none 0 0)]]) (fun k => [(2, .ptr 3 0), (4, iA 0), (5, iA (p8 vs ars d 0 e.kids k)), (27, .ref 2), (28, iA (e.kids.length : Int)), (29, iA k)]) 0 (by simp [he, h0, h1]) (s5.at G _ _) ?_; clear G; intro k ρ a w hp G; have hlen : e.kids.length ≤ 9223372036854775807 := G.len 2 (d := .exprs e.kids) (by kernel_rfl); refine wp_seq (C9 G d9 ((2, .ptr 3 0) :: (4, iA 0) :: (5, iA (p8 vs ars d 0 e.kids k)) :: (ab9 e k [(30, bA (decide ((k : Int) < e.kids.length)))])) fun G => b7 (wp_seq (O0 G (fun h2 q2 => ?_) fun h2 q2 => ?_)))
    · refine wp_exit (o5 (o5 (n9 (b7 (wp_seq (k8 G d9 [0, 1, 2] [dI vs, dI ars, dE e.kids] [(4, iA (p8 vs ars d 0 e.kids k))] fun G => b7 (wp_ret ?_))))))); exact J9 (p8 vs ars d 0 e.kids k) G [0, 1, 2] (G8 (by omega) (by simp [U2, h0, q0, h1, q1, h2, q2]; done))
    · refine wp_skip (b7 (wp_seq (wp_block (wp_seq (O1 G d9 [0, 1, 2, 3, 12, 20] [dI vs, dI ars, dE e.kids, Z1, dE (e.kids.getD k b85).kids, .box (eL (e.kids.getD k b85) 4)] ((2, .ptr 3 0) :: (4, iA 0) :: (5, iA (p8 vs ars d 0 e.kids k)) :: (7, .ptr 5 0) :: (ab9 e k [])) (iX k k e.kids.length []) (iK (by omega) b94) fun G => b7 (k8 G (s6 3 [0, 1, 4] (ih (e.kids.getD k b85) (H6 he (by omega)))) (rg 4) [dI vs, dI ars, dE e.kids, Z1] ((2, .ptr 3 0) :: (4, iA 0) :: (5, iA (i6 (p8 vs ars d 0 e.kids k) (b9 vs ars d (e.kids.getD k b85)))) :: (ab9 e k [])) fun G => m6 (b7 (E2 G d9 [(29, iA ((k : Int) + 1))] [wO ((k : Int) + 1)] (o1 (by omega)) fun G => b7 ?_)))))))); exact M8 G (k + 1) (by omega) (by omega) (rg 4) (ht := by have e1 : (p8 vs ars d 0 e.kids (k + 1) : Int) = (i6 (p8 vs ars d 0 e.kids k) (b9 vs ars d (e.kids.getD k b85))) := (D2 (by omega)); (first | rw [e1] | simp only [e1]) <;> rfl)
   ·
    refine E2 G d9 [(5, iA (ars.getD e.value.toNat 0))] [(0 : Int) ≤ e.value, e.value < (ars.length : Int), e.value.toNat < ars.length] ⟨((R7 he (by assumption)).1), ((R7 he (by assumption)).2.1), ((R7 he (by assumption)).2.2), b94⟩ fun G => m6 (b7 (wp_seq (wp_seq (k8 G d9 (rg 4) [dI vs, dI ars, dE e.kids, Z1] [(2, .ptr 3 0), (4, iA 0), (5, iA (ars.getD e.value.toNat 0)), (27, .ref 2), (28, iA (e.kids.length : Int)), (29, iA 0)] fun G => b7 (wp_block ?_))))); refine o9 (κ := Nat) (fun k => k ≤ e.kids.length) (fun k => e.kids.length - k) (fun k => [dI vs, dI ars, dE e.kids, .box [.ref 0, .ref 1, .v (.slice none 0 0)]]) (fun k => [(2, .ptr 3 0), (4, iA 0), (5, iA (p8 vs ars d (ars.getD e.value.toNat 0) e.kids k)), (27, .ref 2), (28, iA (e.kids.length : Int)), (29, iA k)]) 0 (by simp [he, h0, h1]) (s5.at G _ _) ?_; clear G; intro k ρ a w hp G; have hlen : e.kids.length ≤ 9223372036854775807 := G.len 2 (d := .exprs e.kids) (by kernel_rfl); refine wp_seq (C9 G d9 ((2, .ptr 3 0) :: (4, iA 0) :: (5, iA (p8 vs ars d (ars.getD e.value.toNat 0) e.kids k)) :: (ab9 e k [(30, bA (decide ((k : Int) < e.kids.length)))])) fun G => b7 (wp_seq (O0 G (fun h3 q3 => ?_) fun h3 q3 => ?_)))
    · refine wp_exit (o5 (o5 (n9 (b7 (wp_seq (k8 G d9 [0, 1, 2] [dI vs, dI ars, dE e.kids] [(4, iA (p8 vs ars d (ars.getD e.value.toNat 0) e.kids k))] fun G => b7 (wp_ret ?_))))))); exact J9 (p8 vs ars d (ars.getD e.value.toNat 0) e.kids k) G [0, 1, 2] (G8 (by omega) (by simp [U2, h0, q0, h1, q1, h3, q3]; done))
    · refine wp_skip (b7 (wp_seq (wp_block (wp_seq (O1 G d9 [0, 1, 2, 3, 12, 20] [dI vs, dI ars, dE e.kids, Z1, dE (e.kids.getD k b85).kids, .box (eL (e.kids.getD k b85) 4)] ((2, .ptr 3 0) :: (4, iA 0) :: (5, iA (p8 vs ars d (ars.getD e.value.toNat 0) e.kids k)) :: (7, .ptr 5 0) :: (ab9 e k [])) (iX k k e.kids.length []) (iK (by omega) b94) fun G => b7 (k8 G (s6 3 [0, 1, 4] (ih (e.kids.getD k b85) (H6 he (by omega)))) (rg 4) [dI vs, dI ars, dE e.kids, Z1] ((2, .ptr 3 0) :: (4, iA 0) :: (5, iA (i6 (p8 vs ars d (ars.getD e.value.toNat 0) e.kids k) (b9 vs ars d (e.kids.getD k b85)))) :: (ab9 e k [])) fun G => m6 (b7 (E2 G d9 [(29, iA ((k : Int) + 1))] [wO ((k : Int) + 1)] (o1 (by omega)) fun G => b7 ?_)))))))); exact M8 G (k + 1) (by omega) (by omega) (rg 4) (ht := by have e1 : (p8 vs ars d (ars.getD e.value.toNat 0) e.kids (k + 1) : Int) = (i6 (p8 vs ars d (ars.getD e.value.toNat 0) e.kids k) (b9 vs ars d (e.kids.getD k b85))) := (D2 (by omega)); (first | rw [e1] | simp only [e1]) <;> rfl)
  ·
   refine E2 G d9 [(5, iA (vs.getD e.value.toNat 0))] [(0 : Int) ≤ e.value, e.value < (vs.length : Int), e.value.toNat < vs.length] ⟨((P0 he (by assumption)).1), ((P0 he (by assumption)).2.1), ((P0 he (by assumption)).2.2), b94⟩ fun G => m6 (b7 (wp_seq (wp_seq (k8 G d9 (rg 4) [dI vs, dI ars, dE e.kids, Z1] [(2, .ptr 3 0), (4, iA 0), (5, iA (vs.getD e.value.toNat 0)), (27, .ref 2), (28, iA (e.kids.length : Int)), (29, iA 0)] fun G => b7 (wp_block ?_))))); refine o9 (κ := Nat) (fun k => k ≤ e.kids.length) (fun k => e.kids.length - k) (fun k => [dI vs, dI ars, dE e.kids, .box [.ref 0, .ref 1, .v (.slice none 0 0)]]) (fun k => [(2, .ptr 3 0), (4, iA 0), (5, iA (p8 vs ars d (vs.getD e.value.toNat 0) e.kids k)), (27, .ref 2), (28, iA (e.kids.length : Int)), (29, iA k)]) 0 (by simp [he, h0]) (s5.at G _ _) ?_; clear G; intro k ρ a w hp G; have hlen : e.kids.length ≤ 9223372036854775807 := G.len 2 (d := .exprs e.kids) (by kernel_rfl); refine wp_seq (C9 G d9 ((2, .ptr 3 0) :: (4, iA 0) :: (5, iA (p8 vs ars d (vs.getD e.value.toNat 0) e.kids k)) :: (ab9 e k [(30, bA (decide ((k : Int) < e.kids.length)))])) fun G => b7 (wp_seq (O0 G (fun h4 q4 => ?_) fun h4 q4 => ?_)))
   · refine wp_exit (o5 (o5 (n9 (b7 (wp_seq (k8 G d9 [0, 1, 2] [dI vs, dI ars, dE e.kids] [(4, iA (p8 vs ars d (vs.getD e.value.toNat 0) e.kids k))] fun G => b7 (wp_ret ?_))))))); exact J9 (p8 vs ars d (vs.getD e.value.toNat 0) e.kids k) G [0, 1, 2] (G8 (by omega) (by simp [U2, h0, q0, h4, q4]; done))
   · refine wp_skip (b7 (wp_seq (wp_block (wp_seq (O1 G d9 [0, 1, 2, 3, 12, 20] [dI vs, dI ars, dE e.kids, Z1, dE (e.kids.getD k b85).kids, .box (eL (e.kids.getD k b85) 4)] ((2, .ptr 3 0) :: (4, iA 0) :: (5, iA (p8 vs ars d (vs.getD e.value.toNat 0) e.kids k)) :: (7, .ptr 5 0) :: (ab9 e k [])) (iX k k e.kids.length []) (iK (by omega) b94) fun G => b7 (k8 G (s6 3 [0, 1, 4] (ih (e.kids.getD k b85) (H6 he (by omega)))) (rg 4) [dI vs, dI ars, dE e.kids, Z1] ((2, .ptr 3 0) :: (4, iA 0) :: (5, iA (i6 (p8 vs ars d (vs.getD e.value.toNat 0) e.kids k) (b9 vs ars d (e.kids.getD k b85)))) :: (ab9 e k [])) fun G => m6 (b7 (E2 G d9 [(29, iA ((k : Int) + 1))] [wO ((k : Int) + 1)] (o1 (by omega)) fun G => b7 ?_)))))))); exact M8 G (k + 1) (by omega) (by omega) (rg 4) (ht := by have e1 : (p8 vs ars d (vs.getD e.value.toNat 0) e.kids (k + 1) : Int) = (i6 (p8 vs ars d (vs.getD e.value.toNat 0) e.kids k) (b9 vs ars d (e.kids.getD k b85))) := (D2 (by omega)); (first | rw [e1] | simp only [e1]) <;> rfl)
theorem aQ3 (vs ars : List Int) : ∀ (d : Nat) (e : b5), f5 vs.length ars.length d e = true → k6.ok Tryz.prog (F6 159 [.agg [.ref 0, .ref 1, nlA], eA e 2] ([dI vs, dI ars] ++ eS e) (iA (b9 vs ars d e)))
 | 0, _, h => by simp [f5] at h
 | d + 1, e, h => ba4 vs ars d (aQ3 vs ars d) e h
theorem bj8 (vs ars : List Int) : ∀ (d : Nat) (e : b5), f5 vs.length ars.length d e = true → k6.ok Tryz.prog (F6 141 [.agg [.ref 0, .ref 1, nlA], eA e 2] ([dI vs, dI ars] ++ eS e) (iA (b9 vs ars d e)))
 | 0, _, h => by simp [f5] at h
 | d + 1, e, h => bv2 vs ars d (bj8 vs ars d) e h
theorem X3 (vs ars : List Int) (ky vy : Int) (ks : List b5) (h : f5 vs.length ars.length 5 ⟨ky, vy, ks⟩ = true) : k6.ok Tryz.prog (F6 159 [.agg [.ref 0, .ref 1, nlA], .agg [iA ky, iA vy, .ref 2]] [dI vs, dI ars, dE ks] (iA (b9 vs ars 5 ⟨ky, vy, ks⟩))) := aQ3 vs ars 5 ⟨ky, vy, ks⟩ h
theorem aj2 (vs ars : List Int) (ky vy : Int) (ks : List b5) (h : f5 vs.length ars.length 5 ⟨ky, vy, ks⟩ = true) : k6.ok Tryz.prog (F6 141 [.agg [.ref 0, .ref 1, nlA], .agg [iA ky, iA vy, .ref 2]] [dI vs, dI ars, dE ks] (iA (b9 vs ars 5 ⟨ky, vy, ks⟩))) := bj8 vs ars 5 ⟨ky, vy, ks⟩ h
theorem H1 (n : Int) : k6.ok Tryz.prog ⟨203, [iA n], [], [dE []], .agg [iA 1, iA n, .ref 0]⟩ := by
 refine A2 5 Tryz.func203 [] [(0, iA n)] fun G => ?_; refine wp_seq (k8 G d9 [0] [.box [iA 0, iA 0, .v (.slice none 0 0)]] [(0, iA n), (2, .ptr 0 0)] fun G => b7 (wp_seq (k8 G d9 [0] [.box [iA 1, iA n, .v (.slice none 0 0)]] [(2, .ptr 0 0)] fun G => b7 (wp_ret ?_)))); obtain ⟨ρ, G⟩ := G.nil 1 0 (.exprs []) 9 [.box [iA 1, iA n, .ref 1]] [(2, .ptr 0 0)]; obtain ⟨ρ, G⟩ := G.frz [.no, .row 0] [.box [iA 1, iA n, .ref 1], dE []] [(2, .ptr 0 0)]; exact F2 G [1]
theorem al7 (n : Int) : k6.ok Tryz.prog ⟨157, [iA n], [], [dE []], .agg [iA 2, iA n, .ref 0]⟩ := by
 refine A2 5 Tryz.func157 [] [(0, iA n)] fun G => ?_; refine wp_seq (k8 G d9 [0] [.box [iA 0, iA 0, .v (.slice none 0 0)]] [(0, iA n), (2, .ptr 0 0)] fun G => b7 (wp_seq (k8 G d9 [0] [.box [iA 2, iA n, .v (.slice none 0 0)]] [(2, .ptr 0 0)] fun G => b7 (wp_ret ?_)))); obtain ⟨ρ, G⟩ := G.nil 1 0 (.exprs []) 9 [.box [iA 2, iA n, .ref 1]] [(2, .ptr 0 0)]; obtain ⟨ρ, G⟩ := G.frz [.no, .row 0] [.box [iA 2, iA n, .ref 1], dE []] [(2, .ptr 0 0)]; exact F2 G [1]
theorem ab3 (k : Int) (ks : List b5) : k6.ok Tryz.prog ⟨204, [iA k, .ref 0], [.row 104 (.exprs ks)], [dE ks], .agg [iA k, iA 0, .ref 0]⟩ := by
 refine A2 8 Tryz.func204 [.row 104 (D.exprs ks)] [(0, iA k), (1, .ref 0)] fun G => ?_; refine wp_seq (k8 G d9 [0, 1] [.row 104 (D.exprs ks), .box [iA 0, iA 0, .v (.slice none 0 0)]] [(0, iA k), (1, .ref 0), (4, .ptr 1 0)] fun G => b7 (wp_seq (k8 G d9 [0, 1] [.row 104 (D.exprs ks), .box [iA k, iA 0, .ref 0]] [(4, .ptr 1 0)] fun G => b7 (wp_ret ?_)))); obtain ⟨ρ, G⟩ := G.frz [.row 104] [dE ks, .box [iA k, iA 0, .ref 0]] [(4, .ptr 1 0)]; exact F2 G [0]
theorem au9 (n ky vy : Int) (ks : List b5) : k6.ok Tryz.prog ⟨161, [iA n, .agg [iA ky, iA vy, .ref 0]], [dE ks], [dE ks, dE [⟨ky, vy, ks⟩]], .agg [iA 3, iA n, .ref 1]⟩ := by
 refine A2 9 Tryz.func161 [dE ks] [(0, iA n), (1, .agg [iA ky, iA vy, .ref 0])] fun G => ?_; refine wp_seq (k8 G d9 [0, 1, 9] [dE ks, .box [iA ky, iA vy, .ref 0], .box [iA 0, iA 0, .v (.slice none 0 0)]] [(0, iA n), (3, .ptr 1 0), (4, .ptr 2 0)] fun G => b7 (wp_seq (k8 G d9 [0, 2, 19] [dE ks, .box [iA 3, iA n, .ref 2], .row 104 (D.exprs ([b5.mk ky vy ks] ++ []))] [(4, .ptr 1 0)] fun G => b7 (wp_ret ?_)))); obtain ⟨ρ, G⟩ := G.frz [.no, .no, .row 104] [dE ks, .box [iA 3, iA n, .ref 2], dE ([b5.mk ky vy ks] ++ [])] [(4, .ptr 1 0)]; exact F2 G [0, 2]
theorem bl9 (ky vy : Int) (ks : List b5) (k : Int) : k6.ok Tryz.prog ⟨205, [.agg [iA ky, iA vy, .ref 0], iA k], [dE ks], [dE ks, dE (N3 ⟨ky, vy, ks⟩ k).kids], .agg [iA 9, iA 0, .ref 1]⟩ := by
 refine A2 13 Tryz.func205 [dE ks] [(0, .agg [iA ky, iA vy, .ref 0]), (1, iA k)] fun G => ?_; refine wp_seq (k8 G d9 [0, 1, 9] [dE ks, .box [iA ky, iA vy, .ref 0], .box [iA 0, iA 0, .v (.slice none 0 0)]] [(1, iA k), (2, .ptr 1 0), (4, .ptr 2 0)] fun G => b7 (wp_seq (P1 G (t6 (l8 1 [] (H1 3) (l8 3 [19] (ab3 7 ([b5.mk ky vy ks] ++ ([b5.mk 1 3 []] ++ []))) (l8 5 [] (H1 k) (l8 7 [51] (ab3 9 ([b5.mk 7 0 ([b5.mk ky vy ks] ++ ([b5.mk 1 3 []] ++ []))] ++ ([b5.mk 1 k []] ++ []))) t5)))) fz []) [0, 0, 3, 7, 0, 31, 63, 127, 255] [0, 2, 51] [dE ks, .box [iA 9, iA 0, .ref 2], dE ([b5.mk 7 0 ([b5.mk ky vy ks] ++ ([b5.mk 1 3 []] ++ []))] ++ ([b5.mk 1 k []] ++ []))] [(4, .ptr 1 0)] fun G => b7 (wp_ret ?_)))); exact F2 G [0, 2]
theorem bO8 {m : Int} {e f : b5} (h : m < 0) : s4 m e f = e := if_pos h
theorem bO7 {m : Int} {e f : b5} (h : ¬ m < 0) : s4 m e f = seE (vrE m) e f := if_neg h
theorem bn4 (m k1 v1 k2 v2 : Int) (s1 s2 : List b5) (hm : m < 0) : k6.ok Tryz.prog ⟨156, [iA m, .agg [iA k1, iA v1, .ref 0], .agg [iA k2, iA v2, .ref 1]], [dE s1, dE s2], [dE s1, dE s2], .agg [iA k1, iA v1, .ref 0]⟩ := by
 refine A2 16 Tryz.func156 [dE s1, dE s2] [(0, iA m), (1, .agg [iA k1, iA v1, .ref 0]), (2, .agg [iA k2, iA v2, .ref 1])] fun G => ?_; refine wp_seq (k8 G d9 [0, 1, 2, 10, 18] [dE s1, dE s2, .box [iA k1, iA v1, .ref 0], .box [iA k2, iA v2, .ref 1], .box [iA 0, iA 0, .v (.slice none 0 0)]] [(0, iA m), (4, .ptr 2 0), (5, .ptr 3 0), (6, .ptr 4 0)] fun G => b7 (wp_seq (wp_seq (C9 G d9 [(0, iA m), (4, .ptr 2 0), (5, .ptr 3 0), (6, .ptr 4 0), (8, bA (decide (m < 0)))] fun G => b7 ?_)))); cases h0 : (decide (m < 0))
 ·have q0 := dFf h0; exact False.elim (by omega)
 ·have q0 := dTt h0; refine rT G _ h0 (wp_seq (k8 G d9 (rg 5) [dE s1, dE s2, .box [iA k1, iA v1, .ref 0], .box [iA k2, iA v2, .ref 1], .box [iA k1, iA v1, .ref 0]] [(0, iA m), (4, .ptr 2 0), (5, .ptr 3 0), (6, .ptr 4 0)] fun G => b7 (wp_ret (l7 ?_)))); exact F2 G [0, 1]
theorem bn3 (m k1 v1 k2 v2 : Int) (s1 s2 : List b5) (hm : ¬ m < 0) : k6.ok Tryz.prog ⟨156, [iA m, .agg [iA k1, iA v1, .ref 0], .agg [iA k2, iA v2, .ref 1]], [dE s1, dE s2], [dE s1, dE s2, dE (seE (vrE m) ⟨k1, v1, s1⟩ ⟨k2, v2, s2⟩).kids], .agg [iA 11, iA 0, .ref 2]⟩ := by
 refine A2 16 Tryz.func156 [dE s1, dE s2] [(0, iA m), (1, .agg [iA k1, iA v1, .ref 0]), (2, .agg [iA k2, iA v2, .ref 1])] fun G => ?_; refine wp_seq (k8 G d9 [0, 1, 2, 10, 18] [dE s1, dE s2, .box [iA k1, iA v1, .ref 0], .box [iA k2, iA v2, .ref 1], .box [iA 0, iA 0, .v (.slice none 0 0)]] [(0, iA m), (4, .ptr 2 0), (5, .ptr 3 0), (6, .ptr 4 0)] fun G => b7 (wp_seq (wp_seq (C9 G d9 [(0, iA m), (4, .ptr 2 0), (5, .ptr 3 0), (6, .ptr 4 0), (8, bA (decide (m < 0)))] fun G => b7 ?_)))); cases h0 : (decide (m < 0))
 ·have q0 := dFf h0; refine rF G _ h0 (wp_skip (b7 (wp_seq (P1 G (t6 (l8 1 [] (al7 m) (l8 5 [37] (ab3 11 ([b5.mk 2 m []] ++ ([b5.mk k1 v1 s1] ++ ([b5.mk k2 v2 s2] ++ [])))) t5)) fz []) [0, 1, 0, 0, 15, 31, 63] [0, 1, 4, 37] [dE s1, dE s2, .box [iA 11, iA 0, .ref 3], dE ([b5.mk 2 m []] ++ ([b5.mk k1 v1 s1] ++ ([b5.mk k2 v2 s2] ++ [])))] [(6, .ptr 2 0)] fun G => b7 (wp_ret ?_))))); exact F2 G [0, 1, 3]
 ·have q0 := dTt h0; exact False.elim (by omega)
theorem aj3 (m k1 v1 k2 v2 : Int) (s1 s2 : List b5) : k6.ok Tryz.prog ⟨156, [iA m, .agg [iA k1, iA v1, .ref 0], .agg [iA k2, iA v2, .ref 1]], [dE s1, dE s2], [dE s1, dE s2, dE (s4 m ⟨k1, v1, s1⟩ ⟨k2, v2, s2⟩).kids], .agg [iA (s4 m ⟨k1, v1, s1⟩ ⟨k2, v2, s2⟩).kind, iA (s4 m ⟨k1, v1, s1⟩ ⟨k2, v2, s2⟩).value, .ref 2]⟩ := by
 by_cases hm : m < 0
 ·rw [bO8 hm]
  exact k6.dupPost (S := [dE s1, dE s2]) (d := .exprs s1) (i := 0) (bn4 m k1 v1 k2 v2 s1 s2 hm) rfl (b99 _) rfl (fun ρ h => by
   have h : ρ 2 = ρ 0 := h
   simp only [AV.val, AV.vals, h]; rfl) rfl
 ·rw [bO7 hm]
  exact bn3 m k1 v1 k2 v2 s1 s2 hm
theorem al8 (vs ars : List Int) (bd : List b6) (l : Int) (hl : vs.length ≤ 8000000) : k6.ok Tryz.prog ⟨202, [.agg [.ref 0, .ref 1, nlA, .ref 2], iA l], [qI vs, dI ars, qT bd], [qI vs, dI ars, qT bd, qI (vs ++ [l])], .tup [.agg [.ref 3, .ref 1, nlA, .ref 2], iA (vs.length : Int)]⟩ := by
 refine A2 22 Tryz.func202 [.row 3 (D.ints vs), dI ars, .row 106 (D.stmts bd)] [(0, .agg [.ref 0, .ref 1, .v (.slice none 0 0), .ref 2]), (1, iA l)] fun G => ?_; refine wp_seq (k8 G d9 [0, 1, 2, 3, 11] [.row 3 (D.ints vs), dI ars, .row 106 (D.stmts bd), .box [.ref 0, .ref 1, .v (.slice none 0 0), .ref 2], .box [.v (.slice none 0 0), .v (.slice none 0 0), .v (.slice none 0 0), .v (.slice none 0 0)]] [(1, iA l), (2, .ptr 3 0), (4, .ptr 4 0), (5, iA 0)] fun G => b7 (wp_seq (O1 G d9 [0, 1, 2, 3, 4, 61] [.row 3 (D.ints vs), dI ars, .row 106 (D.stmts bd), .box [.ref 5, .ref 1, .v (.slice none 0 0), .ref 2], .box [.v (.slice none 0 0), .v (.slice none 0 0), .v (.slice none 0 0), .v (.slice none 0 0)], .row 3 (D.ints ([] ++ vs ++ ([l] ++ [])))] [(2, .ptr 3 0), (4, .ptr 4 0), (5, iA 0)] (aP ((0 : Nat) + vs.length) 8 (aP (([] ++ vs).length + 1) 8 [])) (aK (by omega) (aK (by simp only [b88, b87, b89]; omega) b94)) fun G => b7 (wp_seq (G2 G d9 [0, 0, 2, 6, 14, 30, 1, 127] [0, 1, 2, 4, 5] [.row 3 (D.ints vs), dI ars, .row 106 (D.stmts bd), .box [.ref 4, .ref 1, .v (.slice none 0 0), .ref 2], .row 3 (D.ints ([] ++ vs ++ ([l] ++ [])))] [(4, .ptr 3 0), (5, iA ((([] ++ vs ++ ([l] ++ [])).length : Int) - 1))] [wO ((([] ++ vs ++ ([l] ++ [])).length : Int) - 1)] ⟨(w64 (by simp only [b88, b87, b89]; omega) (by simp only [b88, b87, b89]; omega)), b94⟩ fun G => b7 (wp_ret ?_)))))); exact X7 (.tup [.agg [.ref 4, .ref 1, .v (.slice none 0 0), .ref 2], iA ((([] ++ vs ++ ([l] ++ [])).length : Int) - 1)]) G [0, 1, 2, 4] (by have e1 : ((vs.length : Int) : Int) = ((([] ++ vs ++ ([l] ++ [])).length : Int) - 1) := (by simp only [b88, b87, b89]; omega); (first | rw [e1] | simp only [e1]) <;> rfl)
theorem P6 (vs ars : List Int) (bd : List b6) (v ky vy : Int) (ks : List b5) (hl : bd.length ≤ 800000) : k6.ok Tryz.prog ⟨155, [.agg [.ref 0, .ref 1, nlA, .ref 2], iA v, .agg [iA ky, iA vy, .ref 3]], [qI vs, dI ars, qT bd, dE ks], [qI vs, dI ars, .dead, dE ks, qT (bd ++ [J5 v ⟨ky, vy, ks⟩])], .agg [.ref 0, .ref 1, nlA, .ref 4]⟩ := by
 refine A2 16 Tryz.func155 [.row 3 (D.ints vs), dI ars, .row 106 (D.stmts bd), dE ks] [(0, .agg [.ref 0, .ref 1, .v (.slice none 0 0), .ref 2]), (1, iA v), (2, .agg [iA ky, iA vy, .ref 3])] fun G => ?_; refine wp_seq (k8 G d9 [0, 1, 2, 3, 4, 12, 20] [.row 3 (D.ints vs), dI ars, .row 106 (D.stmts bd), dE ks, .box [.ref 0, .ref 1, .v (.slice none 0 0), .ref 2], .box [iA ky, iA vy, .ref 3], .box [.v (.slice none 0 0), .v (.slice none 0 0), .v (.slice none 0 0), .v (.slice none 0 0)]] [(1, iA v), (3, .ptr 4 0), (5, .ptr 5 0), (6, .ptr 6 0)] fun G => b7 (wp_seq (O1 G d9 [0, 1, 2, 3, 4, 6, 55] [.row 3 (D.ints vs), dI ars, .dead, dE ks, .box [.ref 0, .ref 1, .v (.slice none 0 0), .ref 6], .box [.v (.slice none 0 0), .v (.slice none 0 0), .v (.slice none 0 0), .v (.slice none 0 0)], .row 106 (D.stmts (bd ++ ([b6.mk 1 v (b5.mk 0 0 []) (b5.mk ky vy ks) 0 [] []] ++ [])))] [(3, .ptr 4 0), (6, .ptr 5 0)] (aP (bd.length + 1) 152 []) (aK (by omega) b94) fun G => b7 (wp_seq (k8 G d9 [0, 1, 2, 3, 5, 6] [.row 3 (D.ints vs), dI ars, .dead, dE ks, .box [.ref 0, .ref 1, .v (.slice none 0 0), .ref 5], .row 106 (D.stmts (bd ++ ([b6.mk 1 v (b5.mk 0 0 []) (b5.mk ky vy ks) 0 [] []] ++ [])))] [(6, .ptr 4 0)] fun G => b7 (wp_ret ?_)))))); exact F2 G [0, 1, 2, 3, 5]
end Go.Proofs.YthikdkjjdeehoaaGreat

namespace Go.Proofs.YthikdkjjdeehoaaGreat
set_option linter.unusedVariables false
set_option linter.unusedSimpArgs false
open Go Go.RowKit
theorem bh0 (ks : List b5) (k : Nat) : n8 (ks.take k) ≤ n8 ks ∧ (k < ks.length → n8 (ks.take k) + 1 + v7 (ks.getD k b85) ≤ n8 ks) ∧ (ks.take k).length ≤ n8 (ks.take k) := by
 refine ⟨?_, fun h => ?_, as3 _⟩
 ·have := L6 (ks.take k) (ks.drop k)
  rw [List.take_append_drop] at this
  omega
 ·have h1 := L6 (ks.take (k + 1)) (ks.drop (k + 1))
  rw [List.take_append_drop, r9 _ _ h, L6, ← n6 (d := b85) h] at h1
  simp only [n8] at h1
  omega
section
variable {e : b5} {l : List aa0} {fr : List Int} {n reg : Int} {k : Nat}
end
abbrev leC (ars : List Int) (pc : Int) (vs : List Int) (bd : List b6) (e : b5) : k6 := ⟨154, [.agg [.ref 0, .ref 1, nlA, .ref 2], eA e 3, iA pc], [qI vs, dI ars, qT bd, dE e.kids], [.dead, dI ars, .dead, dE e.kids, qI (b8 ars pc e (vs, bd)).1.1, qT (b8 ars pc e (vs, bd)).1.2, dE (b8 ars pc e (vs, bd)).2.kids], .tup [.agg [.ref 4, .ref 1, nlA, .ref 5], .agg [iA (b8 ars pc e (vs, bd)).2.kind, iA (b8 ars pc e (vs, bd)).2.value, .ref 6]]⟩
abbrev xE (ars : List Int) (pc : Int) (vs : List Int) (bd : List b6) (e : b5) (k : Nat) : U6 × List b5 := o0 ars pc (e.kids.take k) (vs, bd)
section
variable {ars vs : List Int} {pc : Int} {bd : List b6} {e : b5} {d k : Nat}
theorem aw2 (he : f5 vs.length ars.length (d + 1) e = true) (k : Nat) : Grw vs.length ars.length d (n8 (e.kids.take k)) (vs, bd) (xE ars pc vs bd e k).1 := by
 rw [f5] at he
 simp only [b86, b93] at he
 exact (bj4 (ars := ars) (pc := pc) (na := ars.length) (d := d) (fun e s h => Y7 ars pc ars.length d e s h) (e.kids.take k) (vs, bd) fun x hx => he.1.2 x (List.mem_of_mem_take hx)).1
theorem bt0 (he : f5 vs.length ars.length (d + 1) e = true) (r1 : vs.length + (1 + v7 e) ≤ 100000) (r2 : i5 bd + 40 * (1 + v7 e) ≤ 700000) (k : Nat) : (xE ars pc vs bd e k).1.1.length + 1 ≤ 100000 ∧ (xE ars pc vs bd e k).1.2.length + 40 ≤ 700000 ∧ vs.length ≤ (xE ars pc vs bd e k).1.1.length := by
 have h := aw2 (ars := ars) (pc := pc) (bd := bd) he k
 have h1 := T7 e.kids k
 have h2 := A3 e
 have h3 := C3 (xE ars pc vs bd e k).1.2
 have a := h.lo; have b := h.hi; have c := h.st
 simp only at a b c
 omega
theorem bs7 (he : f5 vs.length ars.length (d + 1) e = true) (hk : k < e.kids.length) : f5 (xE ars pc vs bd e k).1.1.length ars.length d (e.kids.getD k b85) = true :=
 x4 (aw2 (pc := pc) (bd := bd) he k).lo d _ (H6 he hk)
theorem bN4 (he : f5 vs.length ars.length (d + 1) e = true) (r1 : vs.length + (1 + v7 e) ≤ 100000) (hk : k < e.kids.length) : (xE ars pc vs bd e k).1.1.length + (1 + v7 (e.kids.getD k b85)) ≤ 100000 := by
 have h := (aw2 (pc := pc) (bd := bd) he k).hi
 have h1 := (bh0 e.kids k).2.1 hk
 have h2 := A3 e
 simp only at h
 omega
theorem bN3 (he : f5 vs.length ars.length (d + 1) e = true) (r2 : i5 bd + 40 * (1 + v7 e) ≤ 700000) (hk : k < e.kids.length) : i5 (xE ars pc vs bd e k).1.2 + 40 * (1 + v7 (e.kids.getD k b85)) ≤ 700000 := by
 have h := (aw2 (pc := pc) (bd := bd) he k).st
 have h1 := (bh0 e.kids k).2.1 hk
 have h2 := A3 e
 simp only at h
 omega
theorem bN0 (hk : k < e.kids.length) : (xE ars pc vs bd e (k + 1)).1.1 = (b8 ars pc (e.kids.getD k b85) ((xE ars pc vs bd e k).1.1, (xE ars pc vs bd e k).1.2)).1.1 := by unfold xE; rw [ap5 hk]
theorem bM9 (hk : k < e.kids.length) : (xE ars pc vs bd e (k + 1)).1.2 = (b8 ars pc (e.kids.getD k b85) ((xE ars pc vs bd e k).1.1, (xE ars pc vs bd e k).1.2)).1.2 := by unfold xE; rw [ap5 hk]
theorem bM8 (hk : k < e.kids.length) : (xE ars pc vs bd e (k + 1)).2 = (xE ars pc vs bd e k).2 ++ [⟨(b8 ars pc (e.kids.getD k b85) ((xE ars pc vs bd e k).1.1, (xE ars pc vs bd e k).1.2)).2.kind, (b8 ars pc (e.kids.getD k b85) ((xE ars pc vs bd e k).1.1, (xE ars pc vs bd e k).1.2)).2.value, (b8 ars pc (e.kids.getD k b85) ((xE ars pc vs bd e k).1.1, (xE ars pc vs bd e k).1.2)).2.kids⟩] := by unfold xE; rw [ap5 hk, b5.eta]
theorem bs6 (k : Nat) : (xE ars pc vs bd e k).2.length ≤ e.kids.length := by
 have h : ∀ (ks : List b5) (s : U6), (o0 ars pc ks s).2.length = ks.length := by
  intro ks
  induction ks with
  | nil => intro s; rfl
  | cons x r ih => intro s; rw [o0, b87, ih, b87]
 unfold xE; rw [h, List.length_take]; exact Nat.min_le_right _ _
theorem bs9 (hk : e.kids.length ≤ k) (hn : ¬ (e.kind = 3 ∧ x5 (b9 (xE ars pc vs bd e k).1.1 ars 5 (e.kids.getD 0 b85)) = true)) : b8 ars pc e (vs, bd) = ((xE ars pc vs bd e k).1, ⟨e.kind, e.value, (xE ars pc vs bd e k).2⟩) := by
 unfold xE at hn ⊢
 rw [ca3 hk] at hn ⊢
 rw [ai7, if_neg hn]
theorem bQ6 (hk : e.kids.length ≤ k) (h3 : e.kind = 3) (hs : x5 (b9 (xE ars pc vs bd e k).1.1 ars 5 (e.kids.getD 0 b85)) = true) : b8 ars pc e (vs, bd) = (((xE ars pc vs bd e k).1.1 ++ [i6 (b9 (xE ars pc vs bd e k).1.1 ars 5 e) pc], (xE ars pc vs bd e k).1.2 ++ rdL ((xE ars pc vs bd e k).1.1.length : Int) e.value (e.kids.getD 0 b85) 3), vrE ((xE ars pc vs bd e k).1.1.length : Int)) := by
 unfold xE at hs ⊢
 rw [ca3 hk] at hs ⊢
 rw [ai7, if_pos ⟨h3, hs⟩]
abbrev kE (e : b5) : b5 := ⟨(e.kids.getD 0 b85).kind, (e.kids.getD 0 b85).value, (e.kids.getD 0 b85).kids⟩
theorem bA6 (e : b5) : kE e = e.kids.getD 0 b85 := b5.eta _
theorem bN1 (he : f5 vs.length ars.length (d + 1) e = true) (hd : d + 1 ≤ 5) (h3 : e.kind = 3) : f5 (xE ars pc vs bd e k).1.1.length ars.length 5 (kE e) = true := by
 rw [bA6]
 have := V6 he h3
 exact aH1 (by omega) (x4 (aw2 (pc := pc) (bd := bd) he k).lo d _ (H6 he this))
theorem bN2 (he : f5 vs.length ars.length (d + 1) e = true) (hd : d + 1 ≤ 5) : f5 (xE ars pc vs bd e k).1.1.length ars.length 5 ⟨e.kind, e.value, e.kids⟩ = true := by
 rw [b5.eta]
 exact aH1 hd (x4 (aw2 (pc := pc) (bd := bd) he k).lo (d + 1) _ he)
theorem ak1 (hk : e.kids.length ≤ k) (hn : ¬ e.kind = 3) : b8 ars pc e (vs, bd) = ((xE ars pc vs bd e k).1, ⟨e.kind, e.value, (xE ars pc vs bd e k).2⟩) := bs9 hk fun h => hn h.1
theorem aB1 (hk : e.kids.length ≤ k) (hs : (!(d8 (b9 (xE ars pc vs bd e k).1.1 ars 5 (kE e)) && decide (b9 (xE ars pc vs bd e k).1.1 ars 5 (kE e) % 2 = 1))) = true) : b8 ars pc e (vs, bd) = ((xE ars pc vs bd e k).1, ⟨e.kind, e.value, (xE ars pc vs bd e k).2⟩) := by
 rw [bA6, b95] at hs
 exact bs9 hk fun h => by
  have h5 := h.2
  unfold x5 at h5
  rw [hs] at h5; cases h5
theorem ar9 (hk : e.kids.length ≤ k) (h3 : e.kind = 3) (hs : (!(d8 (b9 (xE ars pc vs bd e k).1.1 ars 5 (kE e)) && decide (b9 (xE ars pc vs bd e k).1.1 ars 5 (kE e) % 2 = 1))) = false) : b8 ars pc e (vs, bd) = (((xE ars pc vs bd e k).1.1 ++ [i6 (b9 (xE ars pc vs bd e k).1.1 ars 5 ⟨e.kind, e.value, e.kids⟩) pc], (xE ars pc vs bd e k).1.2 ++ rdL ((xE ars pc vs bd e k).1.1.length : Int) e.value (kE e) 3), vrE ((xE ars pc vs bd e k).1.1.length : Int)) := by
 rw [bA6] at hs ⊢
 rw [b5.eta]
 rw [b97] at hs
 exact bQ6 hk h3 hs
theorem bF8 {j : Nat} (hj : j = 3) (hk : e.kids.length ≤ k) (h3 : e.kind = 3) (hs : (!(d8 (b9 (xE ars pc vs bd e k).1.1 ars 5 (kE e)) && decide (b9 (xE ars pc vs bd e k).1.1 ars 5 (kE e) % 2 = 1))) = false) : (b8 ars pc e (vs, bd)).1.2 = (xE ars pc vs bd e k).1.2 ++ rdL ((xE ars pc vs bd e k).1.1.length : Int) e.value (kE e) j := by
 rw [hj, ar9 hk h3 hs]
theorem bZ0 {v a : Int} {i : b5} {j : Nat} : bd ++ rdL v a i (j + 1) = bd ++ rdL v a i j ++ [J5 v ⟨11, 0, [⟨9, 0, (N3 i ((j : Int) + 1)).kids⟩, ⟨3, a, [⟨1, (j : Int) + 1, []⟩]⟩, ⟨2, v, []⟩]⟩] := by
 rw [rdL, List.append_assoc]; rfl
end
abbrev aw1 (e : b5) := m8 (e.kids.getD 0 b85)
abbrev aS6 (e : b5) (ars : List Int) (pc : Int) (vs : List Int) (bd : List b6) (k : Nat) := b9 (xE ars pc vs bd e k).fst.fst ars 5 (m8 e)
abbrev ao4 (e : b5) (ars : List Int) (pc : Int) (vs : List Int) (bd : List b6) (k : Nat) := b8 ars pc (e.kids.getD k b85) (xE ars pc vs bd e k).fst
abbrev aw0 (e : b5) (ars : List Int) (pc : Int) (vs : List Int) (bd : List b6) : List It := [.dead, dI ars, .dead, dE e.kids, .row 3 (D.ints (b8 ars pc e (vs, bd)).fst.fst), .row 106 (D.stmts (b8 ars pc e (vs, bd)).fst.snd), dE (b8 ars pc e (vs, bd)).snd.kids]
abbrev V3 : It := .box [.v (.slice none 0 0), .v (.slice none 0 0), .v (.slice none 0 0), .v (.slice none 0 0)]
abbrev R3 : It := .box [iA 0, iA 0, .v (.slice none 0 0)]
abbrev aF6 (e : b5) (ars : List Int) (pc : Int) (vs : List Int) (bd : List b6) (k : Nat) : It := .row 3 (D.ints ((xE ars pc vs bd e k).fst.fst ++ [i6 (aS6 e ars pc vs bd k) pc]))
abbrev ag3 : It := .box [.ref 8, .ref 1, .v (.slice none 0 0), .ref 9]
abbrev E6 (r0 : List (Nat × AV)) : List (Nat × AV) := (3, .ptr 4 0) :: (4, .ptr 5 0) :: (6, .ptr 6 0) :: (7, .ptr 7 0) :: r0
abbrev an9 (e : b5) (ars : List Int) (pc : Int) (vs : List Int) (bd : List b6) (k : Nat) (r0 : List It) : List It := .row 3 (D.ints (xE ars pc vs bd e k).fst.fst) :: .row 106 (D.stmts (xE ars pc vs bd e k).fst.snd) :: r0
abbrev aE6 (e : b5) (ars : List Int) (r0 : List It) : List It := .dead :: dI ars :: .dead :: dE e.kids :: .box [.ref 9, .ref 1, .v (.slice none 0 0), .ref 10] :: .box (eL e 3) :: r0
abbrev a80 (r0 : List It) : List It := .box [.v (.slice none 0 0), .v (.slice none 0 0), .v (.slice none 0 0), .v (.slice none 0 0)] :: .box [iA 0, iA 0, .v (.slice none 0 0)] :: r0
theorem bv3 (e : b5) (ars : List Int) (pc : Int) (d : Nat) (hd : d + 1 ≤ 5) (ih : ∀ (u : b5), u ∈ e.kids → ∀ (vs : List Int) (bd : List b6), f5 vs.length ars.length d u = true → vs.length + (1 + v7 u) ≤ 100000 → i5 bd + 40 * (1 + v7 u) ≤ 700000 → k6.ok Tryz.prog (leC ars pc vs bd u))
    (vs : List Int) (bd : List b6) (he : f5 vs.length ars.length (d + 1) e = true) (r1 : vs.length + (1 + v7 e) ≤ 100000) (r2 : i5 bd + 40 * (1 + v7 e) ≤ 700000) : k6.ok Tryz.prog (leC ars pc vs bd e) := by
  refine A2 102 Tryz.func154 [.row 3 (D.ints vs), dI ars, .row 106 (D.stmts bd), dE e.kids] [(0, .agg [.ref 0, .ref 1, .v (.slice none 0 0), .ref 2]), (1, eA e 3), (2, iA pc)] fun G => ?_
  have hlen : e.kids.length ≤ v7 e := by cases e; exact as3 _
  have hb := bt0 (ars := ars) (pc := pc) (bd := bd) he r1 r2; refine wp_seq (k8 G d9 [0, 1, 2, 3, 4, 12, 20, 28] [.row 3 (D.ints vs), dI ars, .row 106 (D.stmts bd), dE e.kids, .box [.ref 0, .ref 1, .v (.slice none 0 0), .ref 2], .box (eL e 3), V3, R3] ((2, iA pc) :: (E6 [])) fun G => b7 (wp_seq (k8 G d9 [0, 1, 2, 3, 4, 5, 6, 7, 48] [.row 3 (D.ints vs), dI ars, .row 106 (D.stmts bd), dE e.kids, .box [.ref 0, .ref 1, .v (.slice none 0 0), .ref 2], .box (eL e 3), V3, R3, .box [iA e.kind, iA e.value, .v (.slice none 0 0)]] ((2, iA pc) :: (E6 [(8, .ptr 8 0)])) fun G => b7 (wp_seq (wp_seq (C9 G d9 ((2, iA pc) :: (E6 [(8, .ptr 8 0), (9, iA 0)])) fun G => b7 (wp_block ?_))))))); obtain ⟨ρ, G⟩ := G.shift 0 9 (.dead :: dI ars :: .row 106 (D.stmts bd) :: dE e.kids :: .box [.ref 9, .ref 1, .v (.slice none 0 0), .ref 2] :: .box (eL e 3) :: (a80 [.box [iA e.kind, iA e.value, .v (.slice none 0 0)], .row 3 (D.ints vs)])) ((2, iA pc) :: (E6 [(8, .ptr 8 0), (9, iA 0)])); obtain ⟨ρ, G⟩ := G.shift 2 10 (aE6 e ars (a80 [.box [iA e.kind, iA e.value, .v (.slice none 0 0)], .row 3 (D.ints vs), .row 106 (D.stmts bd)])) ((2, iA pc) :: (E6 [(8, .ptr 8 0), (9, iA 0)])); obtain ⟨ρ, G⟩ := G.nil 11 104 (.exprs []) 9 (aE6 e ars (a80 [.box (eL e 11), .row 3 (D.ints vs), .row 106 (D.stmts bd)])) ((2, iA pc) :: (E6 [(8, .ptr 8 0), (9, iA 0)])); refine o9 (κ := Nat) (fun k => k ≤ e.kids.length) (fun k => e.kids.length - k) (fun k => [.dead, dI ars, .dead, dE e.kids, .box [.ref 9, .ref 1, .v (.slice none 0 0), .ref 10], .box (eL e 3), .box [.v (.slice none 0 0), .v (.slice none 0 0), .v (.slice none 0 0), .v (.slice none 0 0)], .box [iA 0, iA 0, .v (.slice none 0 0)], .box (eL e 11), .row 3 (.ints (xE ars pc vs bd e k).1.1), .row 106 (.stmts (xE ars pc vs bd e k).1.2), .row 104 (.exprs (xE ars pc vs bd e k).2)]) (fun k => [(2, iA pc), (3, .ptr 4 0), (4, .ptr 5 0), (6, .ptr 6 0), (7, .ptr 7 0), (8, .ptr 8 0), (9, iA k)]) 0 (by simp [he]) (s5.at G _ _) ?_; clear G; intro k ρ a w hp G; replace G := s5.at G (aE6 e ars (V3 :: R3 :: .box (eL e 11) :: (an9 e ars pc vs bd k [.row 104 (D.exprs (xE ars pc vs bd e k).snd)]))) ((2, iA pc) :: (E6 [(8, .ptr 8 0), (9, iA k)])); have hbk := hb k; have hxl := bs6 (ars := ars) (pc := pc) (vs := vs) (bd := bd) (e := e) k; refine wp_seq (wp_seq (l5 G d9 [(22, bA (decide ((k : Int) < e.kids.length)))] fun G => b7 (O0 G (fun h0 q0 => ?_) fun h0 q0 => ?_)))
  ·
   refine wp_exit (o5 (o5 (n9 (b7 (wp_seq (wp_seq ?_)))))); cases h1 : (e.kind != 3)
   ·
    have q1 := bne_eq_false_iff_eq.1 h1; refine ah9 G (t6 (l8 10 [9, 1, 84] (k6.lend (X3 ((xE ars pc vs bd e k).fst.fst) ars ((e.kids.getD 0 b85).kind) ((e.kids.getD 0 b85).value) ((e.kids.getD 0 b85).kids) (bN1 he hd (by omega))) [.row 3]) (l8 11 [] (H2 (b9 (xE ars pc vs bd e k).fst.fst ars 5 (aw1 e))) t5)) (fc h1 fz) (us [(4, 12, 0), (1013, 1013, 0)])) [0, 1, 3, 7, 15, 31, 15, 79, 207, 463, 1023, 2047, 4095, 8191] [(56, .v (.bool !(d8 (b9 (xE ars pc vs bd e k).fst.fst ars 5 (aw1 e)) && decide (b9 (xE ars pc vs bd e k).fst.fst ars 5 (aw1 e) % 2 = 1))))] (iX 0 0 e.kids.length []) (iK (by have := V6 he (by omega); omega) b94) fun G => b7 ?_; cases h2 : (!(d8 (b9 (xE ars pc vs bd e k).fst.fst ars (5 : Nat) (m8 (e.kids.getD (0 : Nat) b85))) && decide (b9 (xE ars pc vs bd e k).fst.fst ars (5 : Nat) (m8 (e.kids.getD (0 : Nat) b85)) % (2 : Int) = 1)))
    ·
     have q2 : ((d8 (b9 (xE ars pc vs bd e k).fst.fst ars 5 (m8 (e.kids.getD 0 b85)))) = true) ∧ (b9 (xE ars pc vs bd e k).fst.fst ars 5 (m8 (e.kids.getD 0 b85)) % 2 = 1) := (fun hq => And.imp (fun hq => (hq)) (fun hq => of_decide_eq_true hq) (ca6.1 hq)) (Eq.mp (b97 _) h2); refine rF G _ h2 (wp_skip (b7 (wp_seq (k8 G d9 [0, 1, 2, 3, 4, 5, 6, 7, 9, 10] (.dead :: dI ars :: .dead :: dE e.kids :: ag3 :: .box (eL e 3) :: V3 :: R3 :: (an9 e ars pc vs bd k [])) ((2, iA pc) :: (E6 [(11, iA 0)])) fun G => b7 (wp_seq (P1 G (t6 (l8 4 [8, 1, 3] (k6.lend (X3 ((xE ars pc vs bd e k).fst.fst) ars e.kind e.value e.kids (bN2 he hd)) [.row 3]) (l8 7 [8, 1, 9] (al8 ((xE ars pc vs bd e k).fst.fst) ars ((xE ars pc vs bd e k).fst.snd) (i6 (aS6 e ars pc vs bd k) pc) (by have := V6 he (by omega); omega)) t5)) fz []) [0, 0, 2, 0, 14, 0, 62, 127, 255, 511, 511, 1023, 4095] [0, 1, 2, 3, 4, 5, 6, 7, 9, 66] [.dead, dI ars, .dead, dE e.kids, .box [.ref 9, .ref 1, .v (.slice none 0 0), .ref 8], .box (eL e 3), V3, R3, .row 106 (D.stmts (xE ars pc vs bd e k).fst.snd), aF6 e ars pc vs bd k] (E6 [(11, iA ((xE ars pc vs bd e k).fst.fst.length : Int))]) fun G => b7 (wp_seq (P1 G (t6 (l8 4 [] (H1 0) (l8 5 [42] (au9 e.value 1 0 ([])) (l8 6 [9, 1, 8, 50] (P6 ((xE ars pc vs bd e k).fst.fst ++ [i6 (aS6 e ars pc vs bd k) pc]) ars ((xE ars pc vs bd e k).fst.snd) (((xE ars pc vs bd e k).fst.fst.length : Int)) 3 e.value ([b5.mk 1 0 []]) (by have := V6 he (by omega); omega)) t5))) fz []) [0, 0, 0, 4, 0, 28, 63, 127] [0, 1, 2, 3, 4, 5, 6, 7, 9, 58] [.dead, dI ars, .dead, dE e.kids, ag3, .box (eL e 3), V3, R3, aF6 e ars pc vs bd k, .row 106 (D.stmts ((xE ars pc vs bd e k).fst.snd ++ [J5 ((xE ars pc vs bd e k).fst.fst.length : Int) (b5.mk 3 e.value [b5.mk 1 0 []])]))] (E6 [(11, iA ((xE ars pc vs bd e k).fst.fst.length : Int))]) fun G => b7 (wp_seq (wp_seq (C9 G d9 (E6 [(11, iA ((xE ars pc vs bd e k).fst.fst.length : Int)), (12, iA 1)]) fun G => b7 (wp_block ?_)))))))))))); refine o9 (κ := Nat) (fun j => j ≤ 3) (fun j => 3 - j) (fun j => [.dead, dI ars, .dead, dE e.kids, .box [.ref 8, .ref 1, .v (.slice none 0 0), .ref 9], .box (eL e 3), .box [.v (.slice none 0 0), .v (.slice none 0 0), .v (.slice none 0 0), .v (.slice none 0 0)], .box [iA 0, iA 0, .v (.slice none 0 0)], .row 3 (D.ints ((xE ars pc vs bd e k).fst.fst ++ [i6 (b9 (xE ars pc vs bd e k).fst.fst ars 5 (m8 e)) pc])), .row 106 (.stmts ((xE ars pc vs bd e k).1.2 ++ rdL ((xE ars pc vs bd e k).1.1.length : Int) e.value (kE e) j))]) (fun j => [(3, .ptr 4 0), (4, .ptr 5 0), (6, .ptr 6 0), (7, .ptr 7 0), (11, iA ((xE ars pc vs bd e k).fst.fst.length : Int)), (12, iA ((j : Int) + 1))]) 0 (by simp [he, h0, h1, h2]) (s5.at G _ _) ?_
     clear G; intro j ρ a w hp G; replace G := s5.at G [.dead, dI ars, .dead, dE e.kids, ag3, .box (eL e 3), V3, R3, aF6 e ars pc vs bd k, .row 106 (D.stmts ((xE ars pc vs bd e k).fst.snd ++ rdL ((xE ars pc vs bd e k).fst.fst.length : Int) e.value (kE e) j))] (E6 [(11, iA ((xE ars pc vs bd e k).fst.fst.length : Int)), (12, iA ((j : Int) + 1))]); refine wp_seq (wp_seq (l5 G d9 [(78, bA (decide ((j : Int) + 1 < 4)))] fun G => b7 (O0 G (fun h3 q3 => ?_) fun h3 q3 => ?_)))
     · refine wp_exit (o5 (o5 (n9 (b7 (wp_seq (P1 G (s6 2 [] (al7 (((xE ars pc vs bd e k).fst.fst.length : Int)))) [0, 0, 2, 7, 15] [0, 1, 2, 3, 6, 7, 8, 9, 26] [.dead, dI ars, .dead, dE e.kids, .box [.ref 6, .ref 1, .v (.slice none 0 0), .ref 7], .box [iA 2, iA ((xE ars pc vs bd e k).fst.fst.length : Int), .ref 8], aF6 e ars pc vs bd k, .row 106 (D.stmts ((xE ars pc vs bd e k).fst.snd ++ rdL ((xE ars pc vs bd e k).fst.fst.length : Int) e.value (kE e) j)), dE []] [(6, .ptr 4 0), (7, .ptr 5 0)] fun G => b7 (wp_ret ?_))))))); exact X7 (.tup [.agg [.ref 6, .ref 1, .v (.slice none 0 0), .ref 7], .agg [iA 2, iA ((xE ars pc vs bd e k).fst.fst.length : Int), .ref 8]]) G [0, 1, 2, 3, 6, 7, 8] (by have e1 : ((b8 ars pc e (vs, bd)).snd.kind : Int) = (2) := (by rw [ar9 (ars := ars) (pc := pc) (vs := vs) (bd := bd) (e := e) (k := k) (by omega) (by omega) (by with_reducible assumption)]; rfl); have e2 : ((b8 ars pc e (vs, bd)).snd.value : Int) = (((xE ars pc vs bd e k).fst.fst.length : Int)) := (by rw [ar9 (ars := ars) (pc := pc) (vs := vs) (bd := bd) (e := e) (k := k) (by omega) (by omega) (by with_reducible assumption)]; rfl); (first | rw [e1, e2] | simp only [e1, e2]) <;> rfl) (by show _ = mR [0, 1, 2, 3, 6, 7, 8] (aw0 e ars pc vs bd); unfold aw0; have e2 : ((b8 ars pc e (vs, bd)).fst.snd : List b6) = ((xE ars pc vs bd e k).fst.snd ++ rdL ((xE ars pc vs bd e k).fst.fst.length : Int) e.value (kE e) j) := (bF8 (k := k) (show j = 3 by omega) (by omega) (by omega) (by with_reducible assumption)); rw [e2, ar9 (ars := ars) (pc := pc) (vs := vs) (bd := bd) (e := e) (k := k) (by omega) (by omega) (by with_reducible assumption)] <;> rfl)
     · refine wp_skip (b7 (wp_seq (wp_block (G2 G (t6 (l8 7 [50] (bl9 ((e.kids.getD 0 b85).kind) ((e.kids.getD 0 b85).value) ((e.kids.getD 0 b85).kids) ((j : Int) + 1)) (l8 11 [] (H1 ((j : Int) + 1)) (l8 12 [98] (au9 e.value 1 ((j : Int) + 1) ([])) (l8 14 [] (al7 (((xE ars pc vs bd e k).fst.fst.length : Int))) (l8 16 [130] (ab3 11 ([b5.mk 9 0 (N3 (aw1 e) ((j : Int) + 1)).kids] ++ ([b5.mk 3 e.value [b5.mk 1 ((j : Int) + 1) []]] ++ ([b5.mk 2 ((xE ars pc vs bd e k).fst.fst.length : Int) []] ++ [])))) (l8 17 [8, 1, 9, 130] (P6 ((xE ars pc vs bd e k).fst.fst ++ [i6 (aS6 e ars pc vs bd k) pc]) ars ((xE ars pc vs bd e k).fst.snd ++ rdL ((xE ars pc vs bd e k).fst.fst.length : Int) e.value (kE e) j) (((xE ars pc vs bd e k).fst.fst.length : Int)) 11 0 ([b5.mk 9 0 (N3 (aw1 e) ((j : Int) + 1)).kids] ++ ([b5.mk 3 e.value [b5.mk 1 ((j : Int) + 1) []]] ++ ([b5.mk 2 ((xE ars pc vs bd e k).fst.fst.length : Int) []] ++ []))) (by simp only [b88, b87, b89, U1]; omega)) t5)))))) fz []) [0, 0, 0, 4, 12, 28, 0, 124, 0, 256, 0, 1276, 4092, 0, 16380, 32764, 65532, 131071, 262143] [0, 1, 2, 3, 4, 5, 6, 7, 8, 146] [.dead, dI ars, .dead, dE e.kids, ag3, .box (eL e 3), V3, R3, aF6 e ars pc vs bd k, .row 106 (D.stmts ((xE ars pc vs bd e k).fst.snd ++ rdL ((xE ars pc vs bd e k).fst.fst.length : Int) e.value (kE e) j ++ [J5 ((xE ars pc vs bd e k).fst.fst.length : Int) (b5.mk 11 0 ([b5.mk 9 0 (N3 (aw1 e) ((j : Int) + 1)).kids] ++ ([b5.mk 3 e.value [b5.mk 1 ((j : Int) + 1) []]] ++ ([b5.mk 2 ((xE ars pc vs bd e k).fst.fst.length : Int) []] ++ []))))]))] (E6 [(11, iA ((xE ars pc vs bd e k).fst.fst.length : Int)), (12, iA ((j : Int) + 1))]) (iX 0 0 e.kids.length []) (iK (by have := V6 he (by omega); omega) b94) fun G => m6 (b7 (E2 G d9 [(12, iA ((j : Int) + 1 + 1))] [wO ((j : Int) + 1 + 1)] (o1 (by omega)) fun G => b7 ?_)))))); exact M8 G (j + 1) (by have := V6 he (by omega); omega) (by have := V6 he (by omega); omega) (rg 10) (by have e1 : ((xE ars pc vs bd e k).fst.snd ++ rdL ((xE ars pc vs bd e k).fst.fst.length : Int) e.value (kE e) (j + 1) : List b6) = ((xE ars pc vs bd e k).fst.snd ++ rdL ((xE ars pc vs bd e k).fst.fst.length : Int) e.value (kE e) j ++ [J5 ((xE ars pc vs bd e k).fst.fst.length : Int) (b5.mk 11 0 ([b5.mk 9 0 (N3 (m8 (e.kids.getD 0 b85)) ((j : Int) + 1)).kids] ++ ([b5.mk 3 e.value [b5.mk 1 ((j : Int) + 1) []]] ++ ([b5.mk 2 ((xE ars pc vs bd e k).fst.fst.length : Int) []] ++ []))))]) := bZ0; (first | rw [e1] | simp only [e1]) <;> rfl)
    · have q2 : ((d8 (b9 (xE ars pc vs bd e k).fst.fst ars 5 (m8 (e.kids.getD 0 b85)))) = false) ∨ (¬ (b9 (xE ars pc vs bd e k).fst.fst ars 5 (m8 (e.kids.getD 0 b85)) % 2 = 1)) := (fun hq => Or.imp (fun hq => (hq)) (fun hq => of_decide_eq_false hq) (ca4.1 hq)) (Eq.mp (b95 _) h2); refine rT G _ h2 (wp_seq (P1 G d9 [0, 0, 1, 7] [0, 1, 2, 3, 4, 5, 6, 7, 9, 10, 11] (.dead :: dI ars :: .dead :: dE e.kids :: ag3 :: .box (eL e 3) :: ag3 :: .box (eL e 10) :: (an9 e ars pc vs bd k [.row 104 (D.exprs (xE ars pc vs bd e k).snd)])) ((2, iA pc) :: (E6 [])) fun G => b7 (wp_ret (l7 ?_)))); obtain ⟨ρ, G⟩ := G.frz [.no, .no, .no, .no, .no, .no, .no, .no, .no, .no, .row 104] (.dead :: dI ars :: .dead :: dE e.kids :: .box [.ref 8, .ref 1, .v (.slice none 0 0), .ref 9] :: .box (eL e 3) :: .box [.ref 8, .ref 1, .v (.slice none 0 0), .ref 9] :: .box (eL e 10) :: (an9 e ars pc vs bd k [dE (xE ars pc vs bd e k).snd])) ((2, iA pc) :: (E6 [])); exact X7 (.tup [.agg [.ref 8, .ref 1, .v (.slice none 0 0), .ref 9], eA e 10]) G [0, 1, 2, 3, 8, 9, 10] (by have e1 : ((b8 ars pc e (vs, bd)).snd.kind : Int) = (e.kind) := (by rw [aB1 (ars := ars) (pc := pc) (vs := vs) (bd := bd) (e := e) (k := k) (by omega) (by with_reducible assumption)]; rfl); have e2 : ((b8 ars pc e (vs, bd)).snd.value : Int) = (e.value) := (by rw [aB1 (ars := ars) (pc := pc) (vs := vs) (bd := bd) (e := e) (k := k) (by omega) (by with_reducible assumption)]; rfl); (first | rw [e1, e2] | simp only [e1, e2]) <;> rfl) (by show _ = mR [0, 1, 2, 3, 8, 9, 10] (aw0 e ars pc vs bd); unfold aw0; rw [aB1 (ars := ars) (pc := pc) (vs := vs) (bd := bd) (e := e) (k := k) (by omega) (by with_reducible assumption)] <;> rfl)
   · have q1 := bne_iff_ne.1 h1; refine bn8 G (O2 (fc h1 fz) (us [(4, 12, 0), (1013, 1013, 0)])) [0, 1, 3, 7, 15, 31, 15, 79, 207, 463, 1023, 2047, 4095, 8191] [(56, bA true)] fun G => b7 (rT G true (by kernel_rfl) (wp_seq (P1 G d9 [0, 0, 1, 7] [0, 1, 2, 3, 4, 5, 6, 7, 9, 10, 11] (.dead :: dI ars :: .dead :: dE e.kids :: ag3 :: .box (eL e 3) :: ag3 :: .box (eL e 10) :: (an9 e ars pc vs bd k [.row 104 (D.exprs (xE ars pc vs bd e k).snd)])) ((2, iA pc) :: (E6 [])) fun G => b7 (wp_ret (l7 ?_))))); obtain ⟨ρ, G⟩ := G.frz [.no, .no, .no, .no, .no, .no, .no, .no, .no, .no, .row 104] (.dead :: dI ars :: .dead :: dE e.kids :: .box [.ref 8, .ref 1, .v (.slice none 0 0), .ref 9] :: .box (eL e 3) :: .box [.ref 8, .ref 1, .v (.slice none 0 0), .ref 9] :: .box (eL e 10) :: (an9 e ars pc vs bd k [dE (xE ars pc vs bd e k).snd])) ((2, iA pc) :: (E6 [])); exact X7 (.tup [.agg [.ref 8, .ref 1, .v (.slice none 0 0), .ref 9], eA e 10]) G [0, 1, 2, 3, 8, 9, 10] (by have e1 : ((b8 ars pc e (vs, bd)).snd.kind : Int) = (e.kind) := (by rw [ak1 (ars := ars) (pc := pc) (vs := vs) (bd := bd) (e := e) (k := k) (by omega) (by omega)]; rfl); have e2 : ((b8 ars pc e (vs, bd)).snd.value : Int) = (e.value) := (by rw [ak1 (ars := ars) (pc := pc) (vs := vs) (bd := bd) (e := e) (k := k) (by omega) (by omega)]; rfl); (first | rw [e1, e2] | simp only [e1, e2]) <;> rfl) (by show _ = mR [0, 1, 2, 3, 8, 9, 10] (aw0 e ars pc vs bd); unfold aw0; rw [ak1 (ars := ars) (pc := pc) (vs := vs) (bd := bd) (e := e) (k := k) (by omega) (by omega)] <;> rfl)
  · refine wp_skip (b7 (wp_seq (wp_block (wp_seq (k8 G d9 [0, 1, 2, 3, 4, 5, 6, 7, 8, 9, 10, 11, 20] (aE6 e ars (V3 :: R3 :: .box (eL e 11) :: (an9 e ars pc vs bd k [.row 104 (D.exprs (xE ars pc vs bd e k).snd), R3]))) ((2, iA pc) :: (E6 [(8, .ptr 8 0), (9, iA k), (10, .ptr 12 0)])) fun G => b7 (wp_seq (G2 G (s6 7 [9, 1, 10, 53] (ih (e.kids.getD k b85) (ab1 (by omega)) ((xE ars pc vs bd e k).fst.fst) ((xE ars pc vs bd e k).fst.snd) (bs7 he (by omega)) (bN4 he r1 (by omega)) (bN3 he r2 (by omega)))) [0, 0, 2, 0, 14, 30, 0, 127, 255, 511, 511, 1023, 4095] [0, 1, 2, 3, 4, 5, 6, 7, 8, 11, 12, 69, 70, 71] [.dead, dI ars, .dead, dE e.kids, .box [.ref 11, .ref 1, .v (.slice none 0 0), .ref 12], .box (eL e 3), V3, R3, .box (eL e 9), .row 104 (D.exprs (xE ars pc vs bd e k).snd), .box (eL (ao4 e ars pc vs bd k).snd 13), .row 3 (D.ints (ao4 e ars pc vs bd k).fst.fst), .row 106 (D.stmts (ao4 e ars pc vs bd k).fst.snd), dE (ao4 e ars pc vs bd k).snd.kids] ((2, iA pc) :: (E6 [(8, .ptr 8 0), (9, iA k), (10, .ptr 10 0)])) (iX k k e.kids.length []) (iK (by omega) b94) fun G => b7 (O1 G d9 [0, 1, 2, 3, 4, 5, 6, 7, 8, 11, 12, 46] (aE6 e ars [V3, R3, .box (eL e 11), .row 3 (D.ints (ao4 e ars pc vs bd k).fst.fst), .row 106 (D.stmts (ao4 e ars pc vs bd k).fst.snd), .row 104 (D.exprs ((xE ars pc vs bd e k).snd ++ ([m8 (ao4 e ars pc vs bd k).snd] ++ [])))]) ((2, iA pc) :: (E6 [(8, .ptr 8 0), (9, iA k)])) (aP ((xE ars pc vs bd e k).snd.length + ([m8 (b8 ars pc (e.kids.getD k b85) (xE ars pc vs bd e k).fst).snd] ++ []).length) 40 []) (aK (by simp only [b88, b87, b89, U1]; omega) b94) fun G => m6 (b7 (E2 G d9 [(9, iA ((k : Int) + 1))] [wO ((k : Int) + 1)] (o1 (by omega)) fun G => b7 ?_)))))))))); exact M8 G (k + 1) (by omega) (by omega) (rg 12) (by have e1 : ((xE ars pc vs bd e (k + 1)).fst.fst : List Int) = ((b8 ars pc (e.kids.getD k b85) (xE ars pc vs bd e k).fst).fst.fst) := (bN0 (by omega)); have e2 : ((xE ars pc vs bd e (k + 1)).fst.snd : List b6) = ((b8 ars pc (e.kids.getD k b85) (xE ars pc vs bd e k).fst).fst.snd) := (bM9 (by omega)); have e3 : ((xE ars pc vs bd e (k + 1)).snd : List b5) = ((xE ars pc vs bd e k).snd ++ ([m8 (b8 ars pc (e.kids.getD k b85) (xE ars pc vs bd e k).fst).snd] ++ [])) := (bM8 (by omega)); (first | rw [e1, e2, e3] | simp only [e1, e2, e3]) <;> rfl)
theorem K9 (n : Int) : k6.ok Tryz.prog ⟨188, [iA n], [], [dE []], .agg [iA 1, iA n, .ref 0]⟩ := by
 refine A2 5 Tryz.func188 [] [(0, iA n)] fun G => ?_; refine wp_seq (k8 G d9 [0] [.box [iA 0, iA 0, .v (.slice none 0 0)]] [(0, iA n), (2, .ptr 0 0)] fun G => b7 (wp_seq (k8 G d9 [0] [.box [iA 1, iA n, .v (.slice none 0 0)]] [(2, .ptr 0 0)] fun G => b7 (wp_ret ?_)))); obtain ⟨ρ, G⟩ := G.nil 1 0 (.exprs []) 9 [.box [iA 1, iA n, .ref 1]] [(2, .ptr 0 0)]; obtain ⟨ρ, G⟩ := G.frz [.no, .row 0] [.box [iA 1, iA n, .ref 1], dE []] [(2, .ptr 0 0)]; exact F2 G [1]
theorem P5 (n : Int) : k6.ok Tryz.prog ⟨210, [iA n], [], [dE []], .agg [iA 2, iA n, .ref 0]⟩ := by
 refine A2 5 Tryz.func210 [] [(0, iA n)] fun G => ?_; refine wp_seq (k8 G d9 [0] [.box [iA 0, iA 0, .v (.slice none 0 0)]] [(0, iA n), (2, .ptr 0 0)] fun G => b7 (wp_seq (k8 G d9 [0] [.box [iA 2, iA n, .v (.slice none 0 0)]] [(2, .ptr 0 0)] fun G => b7 (wp_ret ?_)))); obtain ⟨ρ, G⟩ := G.nil 1 0 (.exprs []) 9 [.box [iA 2, iA n, .ref 1]] [(2, .ptr 0 0)]; obtain ⟨ρ, G⟩ := G.frz [.no, .row 0] [.box [iA 2, iA n, .ref 1], dE []] [(2, .ptr 0 0)]; exact F2 G [1]
theorem bd6 (k k1 v1 k2 v2 : Int) (s1 s2 : List b5) : k6.ok Tryz.prog ⟨215, [iA k, .agg [iA k1, iA v1, .ref 0], .agg [iA k2, iA v2, .ref 1]], [dE s1, dE s2], [dE s1, dE s2, dE [⟨k1, v1, s1⟩, ⟨k2, v2, s2⟩]], .agg [iA k, iA 0, .ref 2]⟩ := by
 refine A2 12 Tryz.func215 [dE s1, dE s2] [(0, iA k), (1, .agg [iA k1, iA v1, .ref 0]), (2, .agg [iA k2, iA v2, .ref 1])] fun G => ?_; refine wp_seq (k8 G d9 [0, 1, 2, 10, 18] [dE s1, dE s2, .box [iA k1, iA v1, .ref 0], .box [iA k2, iA v2, .ref 1], .box [iA 0, iA 0, .v (.slice none 0 0)]] [(0, iA k), (4, .ptr 2 0), (5, .ptr 3 0), (6, .ptr 4 0)] fun G => b7 (wp_seq (k8 G d9 [0, 1, 4, 29] [dE s1, dE s2, .box [iA k, iA 0, .ref 3], .row 104 (D.exprs ([b5.mk k1 v1 s1] ++ ([b5.mk k2 v2 s2] ++ [])))] [(6, .ptr 2 0)] fun G => b7 (wp_ret ?_)))); obtain ⟨ρ, G⟩ := G.frz [.no, .no, .no, .row 104] [dE s1, dE s2, .box [iA k, iA 0, .ref 3], dE ([b5.mk k1 v1 s1] ++ ([b5.mk k2 v2 s2] ++ []))] [(6, .ptr 2 0)]; exact F2 G [0, 1, 3]
theorem aL0 (k1 v1 k2 v2 k3 v3 : Int) (s1 s2 s3 : List b5) : k6.ok Tryz.prog ⟨214, [.agg [iA k1, iA v1, .ref 0], .agg [iA k2, iA v2, .ref 1], .agg [iA k3, iA v3, .ref 2]], [dE s1, dE s2, dE s3], [dE s1, dE s2, dE s3, dE [⟨k1, v1, s1⟩, ⟨k2, v2, s2⟩, ⟨k3, v3, s3⟩]], .agg [iA 11, iA 0, .ref 3]⟩ := by
 refine A2 12 Tryz.func214 [dE s1, dE s2, dE s3] [(0, .agg [iA k1, iA v1, .ref 0]), (1, .agg [iA k2, iA v2, .ref 1]), (2, .agg [iA k3, iA v3, .ref 2])] fun G => ?_; refine wp_seq (k8 G d9 [0, 1, 2, 3, 11, 19, 27] [dE s1, dE s2, dE s3, .box [iA k1, iA v1, .ref 0], .box [iA k2, iA v2, .ref 1], .box [iA k3, iA v3, .ref 2], .box [iA 0, iA 0, .v (.slice none 0 0)]] [(3, .ptr 3 0), (4, .ptr 4 0), (5, .ptr 5 0), (6, .ptr 6 0)] fun G => b7 (wp_seq (k8 G d9 [0, 1, 2, 6, 31] [dE s1, dE s2, dE s3, .box [iA 11, iA 0, .ref 4], .row 104 (D.exprs ([b5.mk k1 v1 s1] ++ ([b5.mk k2 v2 s2] ++ ([b5.mk k3 v3 s3] ++ []))))] [(6, .ptr 3 0)] fun G => b7 (wp_ret ?_)))); obtain ⟨ρ, G⟩ := G.frz [.no, .no, .no, .no, .row 104] [dE s1, dE s2, dE s3, .box [iA 11, iA 0, .ref 4], dE ([b5.mk k1 v1 s1] ++ ([b5.mk k2 v2 s2] ++ ([b5.mk k3 v3 s3] ++ [])))] [(6, .ptr 3 0)]; exact F2 G [0, 1, 2, 4]
theorem al9 (n ky vy : Int) (ks : List b5) : k6.ok Tryz.prog ⟨211, [iA n, .agg [iA ky, iA vy, .ref 0]], [dE ks], [dE ks, dE [⟨ky, vy, ks⟩]], .agg [iA 3, iA n, .ref 1]⟩ := by
 refine A2 9 Tryz.func211 [dE ks] [(0, iA n), (1, .agg [iA ky, iA vy, .ref 0])] fun G => ?_; refine wp_seq (k8 G d9 [0, 1, 9] [dE ks, .box [iA ky, iA vy, .ref 0], .box [iA 0, iA 0, .v (.slice none 0 0)]] [(0, iA n), (3, .ptr 1 0), (4, .ptr 2 0)] fun G => b7 (wp_seq (k8 G d9 [0, 2, 19] [dE ks, .box [iA 3, iA n, .ref 2], .row 104 (D.exprs ([b5.mk ky vy ks] ++ []))] [(4, .ptr 1 0)] fun G => b7 (wp_ret ?_)))); obtain ⟨ρ, G⟩ := G.frz [.no, .no, .row 104] [dE ks, .box [iA 3, iA n, .ref 2], dE ([b5.mk ky vy ks] ++ [])] [(4, .ptr 1 0)]; exact F2 G [0, 2]
theorem bE4 (ky vy : Int) (ks : List b5) (k : Int) : k6.ok Tryz.prog ⟨213, [.agg [iA ky, iA vy, .ref 0], iA k], [dE ks], [dE ks, dE (N3 ⟨ky, vy, ks⟩ k).kids], .agg [iA 9, iA 0, .ref 1]⟩ := by
 refine A2 11 Tryz.func213 [dE ks] [(0, .agg [iA ky, iA vy, .ref 0]), (1, iA k)] fun G => ?_; refine wp_seq (k8 G d9 [0, 1, 9] [dE ks, .box [iA ky, iA vy, .ref 0], .box [iA 0, iA 0, .v (.slice none 0 0)]] [(1, iA k), (2, .ptr 1 0), (4, .ptr 2 0)] fun G => b7 (wp_seq (P1 G (t6 (l8 1 [] (K9 3) (l8 2 [0, 11] (bd6 7 ky vy 1 3 ks ([])) (l8 4 [] (K9 k) (l8 5 [19, 35] (bd6 9 7 0 1 k ([b5.mk ky vy ks, b5.mk 1 3 []]) ([])) t5)))) fz []) [0, 0, 3, 0, 15, 31, 63] [0, 2, 43] [dE ks, .box [iA 9, iA 0, .ref 2], dE [b5.mk 7 0 [b5.mk ky vy ks, b5.mk 1 3 []], b5.mk 1 k []]] [(4, .ptr 1 0)] fun G => b7 (wp_ret ?_)))); exact F2 G [0, 2]
theorem V1 (v ky vy : Int) (ks : List b5) : k6.ok Tryz.prog ⟨208, [iA v, .agg [iA ky, iA vy, .ref 0]], [dE ks], [dE ks], .agg [iA 1, iA v, iA 0, iA 0, nlA, iA ky, iA vy, .ref 0, iA 0, nlA, nlA]⟩ := by
 refine A2 8 Tryz.func208 [dE ks] [(0, iA v), (1, .agg [iA ky, iA vy, .ref 0])] fun G => ?_; refine wp_seq (k8 G d9 [0, 1, 9] [dE ks, .box [iA ky, iA vy, .ref 0], .box [iA 0, iA 0, iA 0, iA 0, .v (.slice none 0 0), iA 0, iA 0, .v (.slice none 0 0), iA 0, .v (.slice none 0 0), .v (.slice none 0 0)]] [(0, iA v), (3, .ptr 1 0), (4, .ptr 2 0)] fun G => b7 (wp_seq (k8 G d9 [0, 2] [dE ks, .box [iA 1, iA v, iA 0, iA 0, .v (.slice none 0 0), iA ky, iA vy, .ref 0, iA 0, .v (.slice none 0 0), .v (.slice none 0 0)]] [(4, .ptr 1 0)] fun G => b7 (wp_ret ?_)))); exact F2 G [0]
theorem aD2 (vs ars : List Int) (l : Int) (hl : vs.length ≤ 8000000) : k6.ok Tryz.prog ⟨212, [.ptr 0 0, iA l], [.box [.ref 1, .ref 2, nlA], qI vs, dI ars], [.box [.ref 3, .ref 2, nlA], .dead, dI ars, qI (vs ++ [l])], iA (vs.length : Int)⟩ := by
 refine A2 24 Tryz.func212 [.box [.ref 1, .ref 2, .v (.slice none 0 0)], .row 3 (D.ints vs), dI ars] [(0, .ptr 0 0), (1, iA l)] fun G => ?_; refine wp_seq (l5 G d9 [(4, iA 0)] fun G => b7 (wp_seq (O1 G d9 [0, 1, 2, 67] [.box [.ref 3, .ref 2, .v (.slice none 0 0)], .dead, dI ars, .row 3 (D.ints (vs ++ ([l] ++ [])))] [(0, .ptr 0 0), (4, iA 0)] (aP (vs.length + 1) 8 []) (aK (by omega) b94) fun G => b7 (wp_seq (E2 G d9 [(4, iA (((vs ++ ([l] ++ [])).length : Int) - 1))] [wO (((vs ++ ([l] ++ [])).length : Int) - 1)] ⟨(w64 (by simp only [b88, b87, b89]; omega) (by simp only [b88, b87, b89]; omega)), b94⟩ fun G => b7 (wp_ret ?_)))))); exact J9 (((vs ++ ([l] ++ [])).length : Int) - 1) G (rg 4) (by simp only [b88, b87, b89]; omega)
theorem bn2 (m k1 v1 k2 v2 : Int) (s1 s2 : List b5) (hm : m < 0) : k6.ok Tryz.prog ⟨209, [iA m, .agg [iA k1, iA v1, .ref 0], .agg [iA k2, iA v2, .ref 1]], [dE s1, dE s2], [dE s1, dE s2], .agg [iA k1, iA v1, .ref 0]⟩ := by
 refine A2 15 Tryz.func209 [dE s1, dE s2] [(0, iA m), (1, .agg [iA k1, iA v1, .ref 0]), (2, .agg [iA k2, iA v2, .ref 1])] fun G => ?_; refine wp_seq (k8 G d9 [0, 1, 2, 10, 18] [dE s1, dE s2, .box [iA k1, iA v1, .ref 0], .box [iA k2, iA v2, .ref 1], .box [iA 0, iA 0, .v (.slice none 0 0)]] [(0, iA m), (4, .ptr 2 0), (5, .ptr 3 0), (6, .ptr 4 0)] fun G => b7 (wp_seq (wp_seq (C9 G d9 [(0, iA m), (4, .ptr 2 0), (5, .ptr 3 0), (6, .ptr 4 0), (8, bA (decide (m < 0)))] fun G => b7 ?_)))); cases h0 : (decide (m < 0))
 ·have q0 := dFf h0; exact False.elim (by omega)
 ·have q0 := dTt h0; refine rT G _ h0 (wp_seq (k8 G d9 (rg 5) [dE s1, dE s2, .box [iA k1, iA v1, .ref 0], .box [iA k2, iA v2, .ref 1], .box [iA k1, iA v1, .ref 0]] [(0, iA m), (4, .ptr 2 0), (5, .ptr 3 0), (6, .ptr 4 0)] fun G => b7 (wp_ret (l7 ?_)))); exact F2 G [0, 1]
theorem bn1 (m k1 v1 k2 v2 : Int) (s1 s2 : List b5) (hm : ¬ m < 0) : k6.ok Tryz.prog ⟨209, [iA m, .agg [iA k1, iA v1, .ref 0], .agg [iA k2, iA v2, .ref 1]], [dE s1, dE s2], [dE s1, dE s2, dE (seE (vrE m) ⟨k1, v1, s1⟩ ⟨k2, v2, s2⟩).kids], .agg [iA 11, iA 0, .ref 2]⟩ := by
 refine A2 15 Tryz.func209 [dE s1, dE s2] [(0, iA m), (1, .agg [iA k1, iA v1, .ref 0]), (2, .agg [iA k2, iA v2, .ref 1])] fun G => ?_; refine wp_seq (k8 G d9 [0, 1, 2, 10, 18] [dE s1, dE s2, .box [iA k1, iA v1, .ref 0], .box [iA k2, iA v2, .ref 1], .box [iA 0, iA 0, .v (.slice none 0 0)]] [(0, iA m), (4, .ptr 2 0), (5, .ptr 3 0), (6, .ptr 4 0)] fun G => b7 (wp_seq (wp_seq (C9 G d9 [(0, iA m), (4, .ptr 2 0), (5, .ptr 3 0), (6, .ptr 4 0), (8, bA (decide (m < 0)))] fun G => b7 ?_)))); cases h0 : (decide (m < 0))
 ·have q0 := dFf h0; refine rF G _ h0 (wp_skip (b7 (wp_seq (P1 G (t6 (l8 1 [] (P5 m) (l8 4 [13, 0, 1] (aL0 2 m k1 v1 k2 v2 ([]) s1 s2) t5)) fz []) [0, 1, 0, 0, 15, 31] [0, 1, 4, 37] [dE s1, dE s2, .box [iA 11, iA 0, .ref 3], dE [b5.mk 2 m [], b5.mk k1 v1 s1, b5.mk k2 v2 s2]] [(6, .ptr 2 0)] fun G => b7 (wp_ret ?_))))); exact F2 G [0, 1, 3]
 ·have q0 := dTt h0; exact False.elim (by omega)
theorem aj1 (m k1 v1 k2 v2 : Int) (s1 s2 : List b5) : k6.ok Tryz.prog ⟨209, [iA m, .agg [iA k1, iA v1, .ref 0], .agg [iA k2, iA v2, .ref 1]], [dE s1, dE s2], [dE s1, dE s2, dE (s4 m ⟨k1, v1, s1⟩ ⟨k2, v2, s2⟩).kids], .agg [iA (s4 m ⟨k1, v1, s1⟩ ⟨k2, v2, s2⟩).kind, iA (s4 m ⟨k1, v1, s1⟩ ⟨k2, v2, s2⟩).value, .ref 2]⟩ := by
 by_cases hm : m < 0
 ·rw [bO8 hm]
  exact k6.dupPost (S := [dE s1, dE s2]) (d := .exprs s1) (i := 0) (bn2 m k1 v1 k2 v2 s1 s2 hm) rfl (b99 _) rfl (fun ρ h => by
   have h : ρ 2 = ρ 0 := h
   simp only [AV.val, AV.vals, h]; rfl) rfl
 ·rw [bO7 hm]
  exact bn1 m k1 v1 k2 v2 s1 s2 hm
section
variable {P : Program} {ι : Type} {φ ψ : Nat → Prop} {w0 w w' : World} {F : ι → Rs} {ρ ρ0 : Nat → Value} {N m n : Nat} {S : List It} {tm : List (Nat × AV)} {a : Act} {Q : Exit → Act → World → Prop}
theorem bI4 {S : List It} {i : Nat} {x : It} (h : s0 S i = x) (hi : i < S.length) : S.set i x = S := by
 rw [ad1 hi] at h
 rw [← h, List.set_getElem_self]
theorem s5.sE (G : s5 φ ψ w0 F N m ρ0 ρ S tm a w) (i : Nat) {e : TypeId} {B : List b6} {Z x : b6} (h : s0 S i = .row e (.stmts ((B ++ ([Z] ++ [])).set B.length x)) := by rfl) (hi : decide (i < S.length) = true := by kernel_rfl) : s5 φ ψ w0 F N m ρ0 ρ (S.set i (.row e (.stmts (B ++ [x])))) tm a w := by
 have e1 : B ++ [x] = (B ++ ([Z] ++ [])).set B.length x := by simp
 rw [e1, bI4 h (of_decide_eq_true hi)]
 exact G
end
abbrev ieC (ars : List Int) (pc : Int) (vs : List Int) (bd : List b6) (e : b5) : k6 := ⟨207, [.ptr 0 0, eA e 5, iA pc, .ptr 3 0], [.box [.ref 1, .ref 2, nlA], qI vs, dI ars, .box [.ref 4], qT bd, dE e.kids], [.box [.ref 6, .ref 2, nlA], .dead, dI ars, .box [.ref 7], .dead, dE e.kids, qI (b8 ars pc e (vs, bd)).1.1, qT (b8 ars pc e (vs, bd)).1.2, dE (b8 ars pc e (vs, bd)).2.kids], .agg [iA (b8 ars pc e (vs, bd)).2.kind, iA (b8 ars pc e (vs, bd)).2.value, .ref 8]⟩
section
variable {ars vs : List Int} {pc : Int} {bd : List b6} {e : b5} {d k : Nat}
theorem bg8 (he : f5 vs.length ars.length (d + 1) e = true) (hk : e.kids.length ≤ k) (h3 : e.kind = 3) : xE ars pc vs bd e k = ((vs, bd), e.kids) := by
 unfold xE; rw [ca3 hk]; exact ah7 h3 he
abbrev jE (ars : List Int) (pc : Int) (vs : List Int) (bd : List b6) (e : b5) (k : Nat) : b5 := ⟨((xE ars pc vs bd e k).2.getD 0 b85).kind, ((xE ars pc vs bd e k).2.getD 0 b85).value, ((xE ars pc vs bd e k).2.getD 0 b85).kids⟩
theorem bA7 (he : f5 vs.length ars.length (d + 1) e = true) (hk : e.kids.length ≤ k) (h3 : e.kind = 3) : jE ars pc vs bd e k = kE e := by
 unfold jE; rw [bg8 he hk h3]
theorem bW5 (he : f5 vs.length ars.length (d + 1) e = true) (hd : d + 1 ≤ 5) (hk : e.kids.length ≤ k) (h3 : e.kind = 3) : f5 (xE ars pc vs bd e k).1.1.length ars.length 5 (jE ars pc vs bd e k) = true := by
 rw [bA7 he hk h3]; exact bN1 he hd h3
theorem bW6 (he : f5 vs.length ars.length (d + 1) e = true) (hd : d + 1 ≤ 5) (hk : e.kids.length ≤ k) (h3 : e.kind = 3) : f5 (xE ars pc vs bd e k).1.1.length ars.length 5 ⟨e.kind, e.value, (xE ars pc vs bd e k).2⟩ = true := by
 have h := bN2 (pc := pc) (bd := bd) (k := k) he hd
 rw [bg8 he hk h3] at h ⊢
 exact h
theorem aZ9 (he : f5 vs.length ars.length (d + 1) e = true) (hk : e.kids.length ≤ k) (h3 : e.kind = 3) : 0 < (xE ars pc vs bd e k).2.length := by
 rw [bg8 he hk h3]; exact V6 he h3
theorem aB0 (he : f5 vs.length ars.length (d + 1) e = true) (hk : e.kids.length ≤ k) (h3 : e.kind = 3) (hs : (!(d8 (b9 (xE ars pc vs bd e k).1.1 ars 5 (jE ars pc vs bd e k)) && decide (b9 (xE ars pc vs bd e k).1.1 ars 5 (jE ars pc vs bd e k) % 2 = 1))) = false) : b8 ars pc e (vs, bd) = (((xE ars pc vs bd e k).1.1 ++ [i6 (b9 (xE ars pc vs bd e k).1.1 ars 5 ⟨e.kind, e.value, (xE ars pc vs bd e k).2⟩) pc], (xE ars pc vs bd e k).1.2 ++ rdL ((xE ars pc vs bd e k).1.1.length : Int) e.value (jE ars pc vs bd e k) 3), vrE ((xE ars pc vs bd e k).1.1.length : Int)) := by
 rw [bA7 he hk h3] at hs ⊢
 rw [ar9 hk h3 hs, bg8 he hk h3]
theorem bs8 {j : Nat} (hj : j = 3) (he : f5 vs.length ars.length (d + 1) e = true) (hk : e.kids.length ≤ k) (h3 : e.kind = 3) (hs : (!(d8 (b9 (xE ars pc vs bd e k).1.1 ars 5 (jE ars pc vs bd e k)) && decide (b9 (xE ars pc vs bd e k).1.1 ars 5 (jE ars pc vs bd e k) % 2 = 1))) = false) : (b8 ars pc e (vs, bd)).1.2 = (xE ars pc vs bd e k).1.2 ++ rdL ((xE ars pc vs bd e k).1.1.length : Int) e.value (jE ars pc vs bd e k) j := by
 rw [hj, aB0 he hk h3 hs]
theorem aS9 (he : f5 vs.length ars.length (d + 1) e = true) (hk : e.kids.length ≤ k) (h3 : e.kind = 3) (hs : (!(d8 (b9 (xE ars pc vs bd e k).1.1 ars 5 (jE ars pc vs bd e k)) && decide (b9 (xE ars pc vs bd e k).1.1 ars 5 (jE ars pc vs bd e k) % 2 = 1))) = true) : b8 ars pc e (vs, bd) = ((xE ars pc vs bd e k).1, ⟨e.kind, e.value, (xE ars pc vs bd e k).2⟩) := by
 rw [bA7 he hk h3] at hs
 exact aB1 hk hs
end
abbrev ao1 (e : b5) (ars : List Int) (pc : Int) (vs : List Int) (bd : List b6) (k : Nat) := m8 ((xE ars pc vs bd e k).snd.getD 0 b85)
abbrev bs3 (e : b5) (ars : List Int) (pc : Int) (vs : List Int) (bd : List b6) (k : Nat) := b9 (xE ars pc vs bd e k).fst.fst ars 5 (b5.mk e.kind e.value (xE ars pc vs bd e k).snd)
abbrev av9 (e : b5) (ars : List Int) (pc : Int) (vs : List Int) (bd : List b6) : List It := [.box [.ref 6, .ref 2, nlA], .dead, dI ars, .box [.ref 7], .dead, dE e.kids, .row 3 (D.ints (b8 ars pc e (vs, bd)).fst.fst), .row 106 (D.stmts (b8 ars pc e (vs, bd)).fst.snd), dE (b8 ars pc e (vs, bd)).snd.kids]
abbrev a84 (e : b5) (ars : List Int) (pc : Int) (vs : List Int) (bd : List b6) (k : Nat) : It := .row 3 (D.ints ((xE ars pc vs bd e k).fst.fst ++ [i6 (bs3 e ars pc vs bd k) pc]))
abbrev ao0 : It := .box [iA 0, iA 0, .v (.slice none 0 0)]
abbrev bQ3 : It := .box [.ref 10, .ref 2, .v (.slice none 0 0)]
abbrev aF3 : It := .box [.ref 9, .ref 2, .v (.slice none 0 0)]
abbrev E5 (r0 : List (Nat × AV)) : List (Nat × AV) := (3, .ptr 3 0) :: (5, .ptr 6 0) :: (8, .ptr 7 0) :: (9, .ptr 8 0) :: r0
abbrev aE4 (e : b5) (ars : List Int) (pc : Int) (vs : List Int) (bd : List b6) (k : Nat) (r0 : List It) : List It := bQ3 :: .dead :: dI ars :: .box [.ref 11] :: .dead :: dE e.kids :: .box (eL e 5) :: ao0 :: .box (eL e 9) :: dE (xE ars pc vs bd e k).snd :: a84 e ars pc vs bd k :: r0
abbrev an5 (e : b5) (ars : List Int) (r0 : List It) : List It := .dead :: dI ars :: .box [.ref 10] :: .dead :: dE e.kids :: .box (eL e 5) :: r0
abbrev ag0 (e : b5) (r0 : List (Nat × AV)) : List (Nat × AV) := (20, .ref 5) :: (21, iA (e.kids.length : Int)) :: r0
theorem bv6 (e : b5) (ars : List Int) (pc : Int) (d : Nat) (hd : d + 1 ≤ 5) (ih : ∀ (u : b5), u ∈ e.kids → ∀ (vs : List Int) (bd : List b6), f5 vs.length ars.length d u = true → vs.length + (1 + v7 u) ≤ 100000 → i5 bd + 40 * (1 + v7 u) ≤ 700000 → k6.ok Tryz.prog (ieC ars pc vs bd u))
    (vs : List Int) (bd : List b6) (he : f5 vs.length ars.length (d + 1) e = true) (r1 : vs.length + (1 + v7 e) ≤ 100000) (r2 : i5 bd + 40 * (1 + v7 e) ≤ 700000) : k6.ok Tryz.prog (ieC ars pc vs bd e) := by
  refine A2 108 Tryz.func207 [.box [.ref 1, .ref 2, .v (.slice none 0 0)], .row 3 (D.ints vs), dI ars, .box [.ref 4], .row 106 (D.stmts bd), dE e.kids] [(0, .ptr 0 0), (1, eA e 5), (2, iA pc), (3, .ptr 3 0)] fun G => ?_
  have hlen : e.kids.length ≤ v7 e := by cases e; exact as3 _
  have hb := bt0 (ars := ars) (pc := pc) (bd := bd) he r1 r2; refine wp_seq (k8 G d9 [0, 1, 2, 3, 4, 5, 6, 14] [.box [.ref 1, .ref 2, .v (.slice none 0 0)], .row 3 (D.ints vs), dI ars, .box [.ref 4], .row 106 (D.stmts bd), dE e.kids, .box (eL e 5), ao0] [(0, .ptr 0 0), (2, iA pc), (3, .ptr 3 0), (5, .ptr 6 0), (8, .ptr 7 0)] fun G => b7 (wp_seq (k8 G d9 [0, 1, 2, 3, 4, 5, 6, 7, 48] [.box [.ref 1, .ref 2, .v (.slice none 0 0)], .row 3 (D.ints vs), dI ars, .box [.ref 4], .row 106 (D.stmts bd), dE e.kids, .box (eL e 5), ao0, .box [iA e.kind, iA e.value, .v (.slice none 0 0)]] ((0, .ptr 0 0) :: (2, iA pc) :: (E5 [])) fun G => b7 (wp_seq (wp_seq (C9 G d9 ((0, .ptr 0 0) :: (2, iA pc) :: (E5 (ag0 e [(22, iA 0)]))) fun G => b7 (wp_block ?_))))))); obtain ⟨ρ, G⟩ := G.shift 1 9 [.box [.ref 9, .ref 2, .v (.slice none 0 0)], .dead, dI ars, .box [.ref 4], .row 106 (D.stmts bd), dE e.kids, .box (eL e 5), .box [iA 0, iA 0, .v (.slice none 0 0)], .box [iA e.kind, iA e.value, .v (.slice none 0 0)], .row 3 (D.ints vs)] ((0, .ptr 0 0) :: (2, iA pc) :: (E5 (ag0 e [(22, iA 0)]))); obtain ⟨ρ, G⟩ := G.shift 4 10 (.box [.ref 9, .ref 2, .v (.slice none 0 0)] :: (an5 e ars [.box [iA 0, iA 0, .v (.slice none 0 0)], .box [iA e.kind, iA e.value, .v (.slice none 0 0)], .row 3 (D.ints vs), .row 106 (D.stmts bd)])) ((0, .ptr 0 0) :: (2, iA pc) :: (E5 (ag0 e [(22, iA 0)]))); obtain ⟨ρ, G⟩ := G.nil 11 104 (.exprs []) 9 (.box [.ref 9, .ref 2, .v (.slice none 0 0)] :: (an5 e ars [.box [iA 0, iA 0, .v (.slice none 0 0)], .box (eL e 11), .row 3 (D.ints vs), .row 106 (D.stmts bd)])) ((0, .ptr 0 0) :: (2, iA pc) :: (E5 (ag0 e [(22, iA 0)]))); refine o9 (κ := Nat) (fun k => k ≤ e.kids.length) (fun k => e.kids.length - k) (fun k => [.box [.ref 9, .ref 2, .v (.slice none 0 0)], .dead, dI ars, .box [.ref 10], .dead, dE e.kids, .box (eL e 5), .box [iA 0, iA 0, .v (.slice none 0 0)], .box (eL e 11), .row 3 (.ints (xE ars pc vs bd e k).1.1), .row 106 (.stmts (xE ars pc vs bd e k).1.2), .row 104 (.exprs (xE ars pc vs bd e k).2)]) (fun k => [(0, .ptr 0 0), (2, iA pc), (3, .ptr 3 0), (5, .ptr 6 0), (8, .ptr 7 0), (9, .ptr 8 0), (20, .ref 5), (21, iA (e.kids.length : Int)), (22, iA k)]) 0 (by simp [he]) (s5.at G _ _) ?_; clear G; intro k ρ a w hp G; replace G := s5.at G (aF3 :: (an5 e ars [ao0, .box (eL e 11), .row 3 (D.ints (xE ars pc vs bd e k).fst.fst), .row 106 (D.stmts (xE ars pc vs bd e k).fst.snd), .row 104 (D.exprs (xE ars pc vs bd e k).snd)])) ((0, .ptr 0 0) :: (2, iA pc) :: (E5 (ag0 e [(22, iA k)]))); have hbk := hb k; have hxl := bs6 (ars := ars) (pc := pc) (vs := vs) (bd := bd) (e := e) k; refine wp_seq (C9 G d9 ((0, .ptr 0 0) :: (2, iA pc) :: (E5 (ag0 e [(22, iA k), (23, bA (decide ((k : Int) < e.kids.length)))]))) fun G => b7 (wp_seq (O0 G (fun h0 q0 => ?_) fun h0 q0 => ?_)))
  ·
   refine wp_exit (o5 (o5 (n9 (b7 (wp_seq (wp_seq ?_)))))); obtain ⟨ρ, G⟩ := G.frz [.no, .no, .no, .no, .no, .no, .no, .no, .no, .no, .no, .row 104] [.box [.ref 9, .ref 2, .v (.slice none 0 0)], .dead, dI ars, .box [.ref 10], .dead, dE e.kids, .box (eL e 5), .box [iA 0, iA 0, .v (.slice none 0 0)], .box (eL e 11), .row 3 (D.ints (xE ars pc vs bd e k).fst.fst), .row 106 (D.stmts (xE ars pc vs bd e k).fst.snd), dE (xE ars pc vs bd e k).snd] [(0, .ptr 0 0), (2, iA pc), (3, .ptr 3 0), (5, .ptr 6 0), (8, .ptr 7 0), (9, .ptr 8 0), (20, .ref 5), (21, iA (e.kids.length : Int)), (22, iA k), (23, bA (decide ((k : Int) < e.kids.length)))]; cases h1 : (e.kind != 3)
   ·
    have q1 := bne_eq_false_iff_eq.1 h1; refine bn9 G (t6 (l8 12 [9, 2, 100] (k6.lend (aj2 ((xE ars pc vs bd e k).fst.fst) ars (((xE ars pc vs bd e k).snd.getD 0 b85).kind) (((xE ars pc vs bd e k).snd.getD 0 b85).value) (((xE ars pc vs bd e k).snd.getD 0 b85).kids) (bW5 he hd (by omega) (by omega))) [.row 3]) (l8 13 [] (A6 (b9 (xE ars pc vs bd e k).fst.fst ars 5 (ao1 e ars pc vs bd k))) t5)) (fc h1 fz) (us [(4, 14, 0), (1015, 1015, 0)])) [0, 1, 3, 7, 15, 31, 63, 127, 15, 271, 783, 1807, 4095, 8191, 16383, 32767] ((0, .ptr 0 0) :: (2, iA pc) :: (E5 [(52, .v (.bool !(d8 (b9 (xE ars pc vs bd e k).fst.fst ars 5 (ao1 e ars pc vs bd k)) && decide (b9 (xE ars pc vs bd e k).fst.fst ars 5 (ao1 e ars pc vs bd k) % 2 = 1))))])) (iX 0 0 ((xE ars pc vs bd e k).snd.length) []) (iK (by have := aZ9 (pc := pc) (bd := bd) (k := k) he (by omega) (by omega); omega) b94) fun G => b7 ?_; cases h2 : (!(d8 (b9 (xE ars pc vs bd e k).fst.fst ars (5 : Nat) (m8 ((xE ars pc vs bd e k).snd.getD (0 : Nat) b85))) && decide (b9 (xE ars pc vs bd e k).fst.fst ars (5 : Nat) (m8 ((xE ars pc vs bd e k).snd.getD (0 : Nat) b85)) % (2 : Int) = 1)))
    ·
     have q2 : ((d8 (b9 (xE ars pc vs bd e k).fst.fst ars 5 (m8 ((xE ars pc vs bd e k).snd.getD 0 b85)))) = true) ∧ (b9 (xE ars pc vs bd e k).fst.fst ars 5 (m8 ((xE ars pc vs bd e k).snd.getD 0 b85)) % 2 = 1) := (fun hq => And.imp (fun hq => (hq)) (fun hq => of_decide_eq_true hq) (ca6.1 hq)) (Eq.mp (b97 _) h2); refine rF G _ h2 (wp_skip (b7 (wp_seq (P1 G (t6 (l8 6 [9, 2, 11] (k6.lend (aj2 ((xE ars pc vs bd e k).fst.fst) ars e.kind e.value ((xE ars pc vs bd e k).snd) (bW6 he hd (by omega) (by omega))) [.row 3]) (l8 9 [0, 9, 2] (aD2 ((xE ars pc vs bd e k).fst.fst) ars (i6 (bs3 e ars pc vs bd k) pc) (by have := aZ9 (pc := pc) (bd := bd) (k := k) he (by omega) (by omega); omega)) t5)) fz []) [0, 0, 2, 6, 14, 0, 62, 0, 254, 511, 1023] [0, 1, 2, 3, 4, 5, 6, 7, 8, 10, 11, 84] [.box [.ref 11, .ref 2, .v (.slice none 0 0)], .dead, dI ars, .box [.ref 9], .dead, dE e.kids, .box (eL e 5), ao0, .box (eL e 10), .row 106 (D.stmts (xE ars pc vs bd e k).fst.snd), dE (xE ars pc vs bd e k).snd, a84 e ars pc vs bd k] (E5 [(12, iA ((xE ars pc vs bd e k).fst.fst.length : Int))]) fun G => b7 (wp_seq (G2 G (t6 (l8 6 [] (K9 0) (l8 7 [60] (al9 e.value 1 0 ([])) (l8 8 [68] (V1 (((xE ars pc vs bd e k).fst.fst.length : Int)) 3 e.value ([b5.mk 1 0 []])) t5))) fz []) [0, 1, 3, 0, 0, 16, 0, 112, 248, 7, 0, 2047, 4095, 8191, 4095, 20479] [0, 1, 2, 3, 4, 5, 6, 7, 8, 10, 11, 100] (aE4 e ars pc vs bd k [.row 106 (D.stmts (((xE ars pc vs bd e k).fst.snd ++ ([b6.mk 0 0 (b5.mk 0 0 []) (b5.mk 0 0 []) 0 [] []] ++ [])).set (xE ars pc vs bd e k).fst.snd.length (b6.mk 1 ((xE ars pc vs bd e k).fst.fst.length : Int) (b5.mk 0 0 []) (b5.mk 3 e.value [b5.mk 1 0 []]) 0 [] [])))]) (E5 [(12, iA ((xE ars pc vs bd e k).fst.fst.length : Int))]) (aP ((xE ars pc vs bd e k).fst.snd.length + ([b6.mk (0 : Int) (0 : Int) (b5.mk (0 : Int) (0 : Int) []) (b5.mk (0 : Int) (0 : Int) []) (0 : Int) [] []] ++ []).length) 152 (((0 : Int) ≤ ((xE ars pc vs bd e k).fst.snd.length : Int)) :: ((((xE ars pc vs bd e k).fst.snd.length : Int) < (((xE ars pc vs bd e k).fst.snd ++ ([b6.mk (0 : Int) (0 : Int) (b5.mk (0 : Int) (0 : Int) []) (b5.mk (0 : Int) (0 : Int) []) (0 : Int) [] []] ++ [])).length : Int)) :: (((xE ars pc vs bd e k).fst.snd.length < ((xE ars pc vs bd e k).fst.snd ++ ([b6.mk (0 : Int) (0 : Int) (b5.mk (0 : Int) (0 : Int) []) (b5.mk (0 : Int) (0 : Int) []) (0 : Int) [] []] ++ [])).length) :: [])))) (aK (by simp only [b88, b87, b89, U1]; omega) ⟨(by simp [he, h0, h1, h2]), ⟨(by simp only [b88, b87, b89, U1]; omega), ⟨(by simp [he, h0, h1, h2]), b94⟩⟩⟩) fun G => ?_))))))
     replace G := G.sE 11; replace G := s5.at G (aE4 e ars pc vs bd k [.row 106 (D.stmts ((xE ars pc vs bd e k).fst.snd ++ [b6.mk 1 ((xE ars pc vs bd e k).fst.fst.length : Int) (b5.mk 0 0 []) (b5.mk 3 e.value [b5.mk 1 0 []]) 0 [] []]))]) (E5 [(12, iA ((xE ars pc vs bd e k).fst.fst.length : Int))]); refine b7 (wp_seq (wp_seq (C9 G d9 (E5 [(12, iA ((xE ars pc vs bd e k).fst.fst.length : Int)), (13, iA 1)]) fun G => b7 (wp_block ?_)))); refine o9 (κ := Nat) (fun j => j ≤ 3) (fun j => 3 - j) (fun j => [.box [.ref 10, .ref 2, .v (.slice none 0 0)], .dead, dI ars, .box [.ref 11], .dead, dE e.kids, .box (eL e 5), .box [iA 0, iA 0, .v (.slice none 0 0)], .box (eL e 9), dE (xE ars pc vs bd e k).snd, .row 3 (D.ints ((xE ars pc vs bd e k).fst.fst ++ [i6 (b9 (xE ars pc vs bd e k).fst.fst ars 5 (b5.mk e.kind e.value (xE ars pc vs bd e k).snd)) pc])), .row 106 (.stmts ((xE ars pc vs bd e k).1.2 ++ rdL ((xE ars pc vs bd e k).1.1.length : Int) e.value (jE ars pc vs bd e k) j))]) (fun j => [(3, .ptr 3 0), (5, .ptr 6 0), (8, .ptr 7 0), (9, .ptr 8 0), (12, iA ((xE ars pc vs bd e k).fst.fst.length : Int)), (13, iA ((j : Int) + 1))]) 0 (by simp [he, h0, h1, h2]) (s5.at G _ _) ?_; clear G; intro j ρ a w hp G; replace G := s5.at G (aE4 e ars pc vs bd k [.row 106 (D.stmts ((xE ars pc vs bd e k).fst.snd ++ rdL ((xE ars pc vs bd e k).fst.fst.length : Int) e.value (jE ars pc vs bd e k) j))]) (E5 [(12, iA ((xE ars pc vs bd e k).fst.fst.length : Int)), (13, iA ((j : Int) + 1))]); refine wp_seq (wp_seq (l5 G d9 [(79, bA (decide ((j : Int) + 1 < 4)))] fun G => b7 (O0 G (fun h3 q3 => ?_) fun h3 q3 => ?_)))
     · refine wp_exit (o5 (o5 (n9 (b7 (wp_seq (k8 G (s6 1 [] (P5 (((xE ars pc vs bd e k).fst.fst.length : Int)))) [0, 1, 2, 3, 4, 5, 7, 10, 11, 20] [.box [.ref 7, .ref 2, .v (.slice none 0 0)], .dead, dI ars, .box [.ref 8], .dead, dE e.kids, .box [iA 2, iA ((xE ars pc vs bd e k).fst.fst.length : Int), .ref 9], a84 e ars pc vs bd k, .row 106 (D.stmts ((xE ars pc vs bd e k).fst.snd ++ rdL ((xE ars pc vs bd e k).fst.fst.length : Int) e.value (jE ars pc vs bd e k) j)), dE []] [(8, .ptr 6 0)] fun G => b7 (wp_ret ?_))))))); exact X7 (.agg [iA 2, iA ((xE ars pc vs bd e k).fst.fst.length : Int), .ref 9]) G [0, 1, 2, 3, 4, 5, 7, 8, 9] (by have e1 : ((b8 ars pc e (vs, bd)).snd.kind : Int) = (2) := (by rw [aB0 (ars := ars) (pc := pc) (vs := vs) (bd := bd) (e := e) (k := k) he (by omega) (by omega) (by with_reducible assumption)]; rfl); have e2 : ((b8 ars pc e (vs, bd)).snd.value : Int) = (((xE ars pc vs bd e k).fst.fst.length : Int)) := (by rw [aB0 (ars := ars) (pc := pc) (vs := vs) (bd := bd) (e := e) (k := k) he (by omega) (by omega) (by with_reducible assumption)]; rfl); (first | rw [e1, e2] | simp only [e1, e2]) <;> rfl) (by show _ = mR [0, 1, 2, 3, 4, 5, 7, 8, 9] (av9 e ars pc vs bd); unfold av9; have e2 : ((b8 ars pc e (vs, bd)).fst.snd : List b6) = ((xE ars pc vs bd e k).fst.snd ++ rdL ((xE ars pc vs bd e k).fst.fst.length : Int) e.value (jE ars pc vs bd e k) j) := (bs8 (k := k) (show j = 3 by omega) he (by omega) (by omega) (by with_reducible assumption)); rw [e2, aB0 (ars := ars) (pc := pc) (vs := vs) (bd := bd) (e := e) (k := k) he (by omega) (by omega) (by with_reducible assumption)] <;> rfl)
     ·
      refine wp_skip (b7 (wp_seq (wp_block (G2 G (t6 (l8 9 [68] (bE4 (((xE ars pc vs bd e k).snd.getD 0 b85).kind) (((xE ars pc vs bd e k).snd.getD 0 b85).value) (((xE ars pc vs bd e k).snd.getD 0 b85).kids) ((j : Int) + 1)) (l8 13 [] (K9 ((j : Int) + 1)) (l8 14 [116] (al9 e.value 1 ((j : Int) + 1) ([])) (l8 16 [] (P5 (((xE ars pc vs bd e k).fst.fst.length : Int))) (l8 17 [84, 124, 140] (aL0 9 0 3 e.value 2 (((xE ars pc vs bd e k).fst.fst.length : Int)) ((N3 (ao1 e ars pc vs bd k) ((j : Int) + 1)).kids) ([b5.mk 1 ((j : Int) + 1) []]) ([])) (l8 18 [148] (V1 (((xE ars pc vs bd e k).fst.fst.length : Int)) 11 0 ([b5.mk 9 0 (N3 (ao1 e ars pc vs bd k) ((j : Int) + 1)).kids, b5.mk 3 e.value [b5.mk 1 ((j : Int) + 1) []], b5.mk 2 ((xE ars pc vs bd e k).fst.fst.length : Int) []])) t5)))))) fz []) [0, 1, 3, 0, 0, 16, 48, 112, 0, 496, 0, 1024, 0, 5104, 16368, 0, 65520, 131056, 262136, 7, 0, 2097151, 4194303, 8388607, 4194303, 20971519] [0, 1, 2, 3, 4, 5, 6, 7, 8, 9, 10, 180] (aE4 e ars pc vs bd k [.row 106 (D.stmts (((xE ars pc vs bd e k).fst.snd ++ rdL ((xE ars pc vs bd e k).fst.fst.length : Int) e.value (jE ars pc vs bd e k) j ++ ([b6.mk 0 0 (b5.mk 0 0 []) (b5.mk 0 0 []) 0 [] []] ++ [])).set ((xE ars pc vs bd e k).fst.snd ++ rdL ((xE ars pc vs bd e k).fst.fst.length : Int) e.value (jE ars pc vs bd e k) j).length (b6.mk 1 ((xE ars pc vs bd e k).fst.fst.length : Int) (b5.mk 0 0 []) (b5.mk 11 0 [b5.mk 9 0 (N3 (ao1 e ars pc vs bd k) ((j : Int) + 1)).kids, b5.mk 3 e.value [b5.mk 1 ((j : Int) + 1) []], b5.mk 2 ((xE ars pc vs bd e k).fst.fst.length : Int) []]) 0 [] [])))]) (E5 [(12, iA ((xE ars pc vs bd e k).fst.fst.length : Int)), (13, iA ((j : Int) + 1))]) (iX 0 0 ((xE ars pc vs bd e k).snd.length) (aP (((xE ars pc vs bd e k).fst.snd ++ rdL ((xE ars pc vs bd e k).fst.fst.length : Int) e.value (jE ars pc vs bd e k) j).length + ([b6.mk (0 : Int) (0 : Int) (b5.mk (0 : Int) (0 : Int) []) (b5.mk (0 : Int) (0 : Int) []) (0 : Int) [] []] ++ []).length) 152 (((0 : Int) ≤ (((xE ars pc vs bd e k).fst.snd ++ rdL ((xE ars pc vs bd e k).fst.fst.length : Int) e.value (jE ars pc vs bd e k) j).length : Int)) :: (((((xE ars pc vs bd e k).fst.snd ++ rdL ((xE ars pc vs bd e k).fst.fst.length : Int) e.value (jE ars pc vs bd e k) j).length : Int) < (((xE ars pc vs bd e k).fst.snd ++ rdL ((xE ars pc vs bd e k).fst.fst.length : Int) e.value (jE ars pc vs bd e k) j ++ ([b6.mk (0 : Int) (0 : Int) (b5.mk (0 : Int) (0 : Int) []) (b5.mk (0 : Int) (0 : Int) []) (0 : Int) [] []] ++ [])).length : Int)) :: ((((xE ars pc vs bd e k).fst.snd ++ rdL ((xE ars pc vs bd e k).fst.fst.length : Int) e.value (jE ars pc vs bd e k) j).length < ((xE ars pc vs bd e k).fst.snd ++ rdL ((xE ars pc vs bd e k).fst.fst.length : Int) e.value (jE ars pc vs bd e k) j ++ ([b6.mk (0 : Int) (0 : Int) (b5.mk (0 : Int) (0 : Int) []) (b5.mk (0 : Int) (0 : Int) []) (0 : Int) [] []] ++ [])).length) :: []))))) (iK (by have := aZ9 (pc := pc) (bd := bd) (k := k) he (by omega) (by omega); omega) (aK (by simp only [b88, b87, b89, U1]; omega) ⟨(by simp only [b88, b87, b89, U1]; omega), ⟨(by simp only [b88, b87, b89, U1]; omega), ⟨(by simp [he, h0, h1, h2, h3]), b94⟩⟩⟩)) fun G => ?_))))
      replace G := G.sE 11; replace G := s5.at G (aE4 e ars pc vs bd k [.row 106 (D.stmts ((xE ars pc vs bd e k).fst.snd ++ rdL ((xE ars pc vs bd e k).fst.fst.length : Int) e.value (jE ars pc vs bd e k) j ++ [b6.mk 1 ((xE ars pc vs bd e k).fst.fst.length : Int) (b5.mk 0 0 []) (b5.mk 11 0 [b5.mk 9 0 (N3 (ao1 e ars pc vs bd k) ((j : Int) + 1)).kids, b5.mk 3 e.value [b5.mk 1 ((j : Int) + 1) []], b5.mk 2 ((xE ars pc vs bd e k).fst.fst.length : Int) []]) 0 [] []]))]) (E5 [(12, iA ((xE ars pc vs bd e k).fst.fst.length : Int)), (13, iA ((j : Int) + 1))]); refine m6 (b7 (E2 G d9 [(13, iA ((j : Int) + 1 + 1))] [wO ((j : Int) + 1 + 1)] (o1 (by omega)) fun G => b7 ?_)); exact M8 G (j + 1) (by have := aZ9 (pc := pc) (bd := bd) (k := k) he (by omega) (by omega); omega) (by have := aZ9 (pc := pc) (bd := bd) (k := k) he (by omega) (by omega); omega) (rg 12) (by have e1 : ((xE ars pc vs bd e k).fst.snd ++ rdL ((xE ars pc vs bd e k).fst.fst.length : Int) e.value (jE ars pc vs bd e k) (j + 1) : List b6) = ((xE ars pc vs bd e k).fst.snd ++ rdL ((xE ars pc vs bd e k).fst.fst.length : Int) e.value (jE ars pc vs bd e k) j ++ [b6.mk 1 ((xE ars pc vs bd e k).fst.fst.length : Int) (b5.mk 0 0 []) (b5.mk 11 0 [b5.mk 9 0 (N3 (m8 ((xE ars pc vs bd e k).snd.getD 0 b85)) ((j : Int) + 1)).kids, b5.mk 3 e.value [b5.mk 1 ((j : Int) + 1) []], b5.mk 2 ((xE ars pc vs bd e k).fst.fst.length : Int) []]) 0 [] []]) := bZ0; (first | rw [e1] | simp only [e1]) <;> rfl)
    · have q2 : ((d8 (b9 (xE ars pc vs bd e k).fst.fst ars 5 (m8 ((xE ars pc vs bd e k).snd.getD 0 b85)))) = false) ∨ (¬ (b9 (xE ars pc vs bd e k).fst.fst ars 5 (m8 ((xE ars pc vs bd e k).snd.getD 0 b85)) % 2 = 1)) := (fun hq => Or.imp (fun hq => (hq)) (fun hq => of_decide_eq_false hq) (ca4.1 hq)) (Eq.mp (b95 _) h2); refine rT G _ h2 (wp_seq (k8 G d9 (rg 12) (aF3 :: (an5 e ars [.box (eL e 11), .box (eL e 11), .row 3 (D.ints (xE ars pc vs bd e k).fst.fst), .row 106 (D.stmts (xE ars pc vs bd e k).fst.snd), dE (xE ars pc vs bd e k).snd])) ((0, .ptr 0 0) :: (2, iA pc) :: (E5 [])) fun G => b7 (wp_ret (l7 ?_)))); exact X7 (eA e 11) G [0, 1, 2, 3, 4, 5, 9, 10, 11] (by have e1 : ((b8 ars pc e (vs, bd)).snd.kind : Int) = (e.kind) := (by rw [aS9 (ars := ars) (pc := pc) (vs := vs) (bd := bd) (e := e) (k := k) he (by omega) (by omega) (by with_reducible assumption)]; rfl); have e2 : ((b8 ars pc e (vs, bd)).snd.value : Int) = (e.value) := (by rw [aS9 (ars := ars) (pc := pc) (vs := vs) (bd := bd) (e := e) (k := k) he (by omega) (by omega) (by with_reducible assumption)]; rfl); (first | rw [e1, e2] | simp only [e1, e2]) <;> rfl) (by show _ = mR [0, 1, 2, 3, 4, 5, 9, 10, 11] (av9 e ars pc vs bd); unfold av9; rw [aS9 (ars := ars) (pc := pc) (vs := vs) (bd := bd) (e := e) (k := k) he (by omega) (by omega) (by with_reducible assumption)] <;> rfl)
   · have q1 := bne_iff_ne.1 h1; refine bZ1 G (O2 (fc h1 fz) (us [(4, 14, 0), (1015, 1015, 0)])) [0, 1, 3, 7, 15, 31, 63, 127, 15, 271, 783, 1807, 4095, 8191, 16383, 32767] ((0, .ptr 0 0) :: (2, iA pc) :: (E5 [(52, bA true)])) fun G => b7 (rT G true (by kernel_rfl) (wp_seq (k8 G d9 (rg 12) (aF3 :: (an5 e ars [.box (eL e 11), .box (eL e 11), .row 3 (D.ints (xE ars pc vs bd e k).fst.fst), .row 106 (D.stmts (xE ars pc vs bd e k).fst.snd), dE (xE ars pc vs bd e k).snd])) ((0, .ptr 0 0) :: (2, iA pc) :: (E5 [])) fun G => b7 (wp_ret (l7 ?_))))); exact X7 (eA e 11) G [0, 1, 2, 3, 4, 5, 9, 10, 11] (by have e1 : ((b8 ars pc e (vs, bd)).snd.kind : Int) = (e.kind) := (by rw [ak1 (ars := ars) (pc := pc) (vs := vs) (bd := bd) (e := e) (k := k) (by omega) (by omega)]; rfl); have e2 : ((b8 ars pc e (vs, bd)).snd.value : Int) = (e.value) := (by rw [ak1 (ars := ars) (pc := pc) (vs := vs) (bd := bd) (e := e) (k := k) (by omega) (by omega)]; rfl); (first | rw [e1, e2] | simp only [e1, e2]) <;> rfl) (by show _ = mR [0, 1, 2, 3, 4, 5, 9, 10, 11] (av9 e ars pc vs bd); unfold av9; rw [ak1 (ars := ars) (pc := pc) (vs := vs) (bd := bd) (e := e) (k := k) (by omega) (by omega)] <;> rfl)
  · refine wp_skip (b7 (wp_seq (wp_block (wp_seq (O1 G d9 [0, 1, 2, 3, 4, 5, 6, 7, 8, 9, 10, 11, 20, 28] (aF3 :: (an5 e ars [ao0, .box (eL e 11), .row 3 (D.ints (xE ars pc vs bd e k).fst.fst), .row 106 (D.stmts (xE ars pc vs bd e k).fst.snd), .row 104 (D.exprs (xE ars pc vs bd e k).snd), dE (e.kids.getD k b85).kids, .box (eL (e.kids.getD k b85) 12)])) ((0, .ptr 0 0) :: (2, iA pc) :: (E5 ((11, .ptr 13 0) :: (ag0 e [(22, iA k)])))) (iX k k e.kids.length []) (iK (by omega) b94) fun G => b7 (G2 G (s6 6 [0, 9, 2, 3, 10, 12] (ih (e.kids.getD k b85) (ab1 (by omega)) ((xE ars pc vs bd e k).fst.fst) ((xE ars pc vs bd e k).fst.snd) (bs7 he (by omega)) (bN4 he r1 (by omega)) (bN3 he r2 (by omega)))) [0, 1, 0, 0, 0, 0, 60, 124, 255, 511, 1023] [0, 1, 2, 3, 4, 5, 6, 7, 8, 62, 63, 78] (aF3 :: (an5 e ars [ao0, .box (eL e 11), .row 3 (D.ints (b8 ars pc (e.kids.getD k b85) (xE ars pc vs bd e k).fst).fst.fst), .row 106 (D.stmts (b8 ars pc (e.kids.getD k b85) (xE ars pc vs bd e k).fst).fst.snd), .row 104 (D.exprs ((xE ars pc vs bd e k).snd ++ ([m8 (b8 ars pc (e.kids.getD k b85) (xE ars pc vs bd e k).fst).snd] ++ [])))])) ((0, .ptr 0 0) :: (2, iA pc) :: (E5 (ag0 e [(22, iA k)]))) (aP ((xE ars pc vs bd e k).snd.length + ([m8 (b8 ars pc (e.kids.getD k b85) (xE ars pc vs bd e k).fst).snd] ++ []).length) 40 []) (aK (by simp only [b88, b87, b89, U1]; omega) b94) fun G => m6 (b7 (E2 G d9 [(22, iA ((k : Int) + 1))] [wO ((k : Int) + 1)] (o1 (by omega)) fun G => b7 ?_)))))))); exact M8 G (k + 1) (by omega) (by omega) (rg 12) (by have e1 : ((xE ars pc vs bd e (k + 1)).fst.fst : List Int) = ((b8 ars pc (e.kids.getD k b85) (xE ars pc vs bd e k).fst).fst.fst) := (bN0 (by omega)); have e2 : ((xE ars pc vs bd e (k + 1)).fst.snd : List b6) = ((b8 ars pc (e.kids.getD k b85) (xE ars pc vs bd e k).fst).fst.snd) := (bM9 (by omega)); have e3 : ((xE ars pc vs bd e (k + 1)).snd : List b5) = ((xE ars pc vs bd e k).snd ++ ([m8 (b8 ars pc (e.kids.getD k b85) (xE ars pc vs bd e k).fst).snd] ++ [])) := (bM8 (by omega)); (first | rw [e1, e2, e3] | simp only [e1, e2, e3]) <;> rfl)
theorem an1 {nv na d k : Nat} {ss : List b6} (hs : ss.all (f6 nv na (d + 1)) = true) (hk : k < ss.length) : t7 nv na (ss.getD k b85) = true ∧ (ss.getD k b85).body.all (f6 nv na d) = true ∧ (ss.getD k b85).els.all (f6 nv na d) = true := by
 have h := b93.1 hs _ (cb0 hk)
 rw [D8, b86, b86] at h
 rw [n6 hk]; exact h
theorem bj9 (ars : List Int) (pc : Int) : ∀ (d : Nat), d ≤ 5 → ∀ (e : b5) (vs : List Int) (bd : List b6), f5 vs.length ars.length d e = true → vs.length + (1 + v7 e) ≤ 100000 → i5 bd + 40 * (1 + v7 e) ≤ 700000 → k6.ok Tryz.prog (leC ars pc vs bd e)
 | 0, _, _, _, _, h, _, _ => by simp [f5] at h
 | d + 1, hd, e, vs, bd, h, r1, r2 => bv3 e ars pc d hd (fun u _ vs bd h r1 r2 => bj9 ars pc d (by omega) u vs bd h r1 r2) vs bd h r1 r2
theorem a60 (ars : List Int) (pc : Int) (e : b5) (vs : List Int) (bd : List b6) (h : f5 vs.length ars.length 5 e = true) (r1 : vs.length + (1 + v7 e) ≤ 100000) (r2 : i5 bd + 40 * (1 + v7 e) ≤ 700000) : k6.ok Tryz.prog (leC ars pc vs bd e) := bj9 ars pc 5 (b99 _) e vs bd h r1 r2
theorem bK7 (e : b5) (hb : v7 e ≤ 1048576) : k6.ok Tryz.prog ⟨132, [eA e 0], eS e, eS e ++ [dE e.kids], .agg [iA e.kind, iA e.value, .ref 1]⟩ :=
 k6.datPost (S := eS e) (d := .exprs e.kids) (aY7 e hb) (.agg [iA e.kind, iA e.value, .ref 1])
theorem bY2 {bd : List b6} {v t m : Int} {i : b5} {k : Nat} : bd ++ U9 v t i m (k + 1) = bd ++ U9 v t i m k ++ [⟨2, t, ⟨1, (k : Int), []⟩, ⟨11, 0, [⟨(s4 m (N3 i (k : Int)) (cnE 0)).kind, (s4 m (N3 i (k : Int)) (cnE 0)).value, (s4 m (N3 i (k : Int)) (cnE 0)).kids⟩, ⟨2, v, []⟩, ⟨3, t, [⟨1, (k : Int), []⟩]⟩]⟩, 0, [], []⟩] := by
 rw [b5.eta, U9, List.append_assoc]
theorem b49 {bd : List b6} {v t m : Int} {i : b5} {k : Nat} (hk : k = 4) : bd ++ U9 v t i m 4 = bd ++ U9 v t i m k := by rw [hk]
abbrev b68 (ars vs : List Int) (bd : List b6) (m pc : Int) (t : b6) (e : b5) : k6 := ⟨160, [.agg [.ref 0, .ref 1, nlA, .ref 2], sA t 3, eA e 7, iA m, iA pc], [qI vs, dI ars, qT bd] ++ sS t ++ [dE e.kids], [qI vs, dI ars, .dead] ++ sS t ++ [dE e.kids, qI (vs ++ [i6 (b9 vs ars 5 ⟨e.kind, e.value, e.kids⟩) pc]), qT (bd ++ [J5 (vs.length : Int) ⟨e.kind, e.value, e.kids⟩] ++ U9 (vs.length : Int) t.target ⟨t.index.kind, t.index.value, t.index.kids⟩ m 4)], .agg [.ref 8, .ref 1, nlA, .ref 9]⟩
abbrev aF5 (m : Int) (t : b6) (k : Nat) := s4 m (b5.mk 9 0 (N3 (m8 t.index) (k : Int)).kids) (b5.mk 1 0 [])
abbrev aS5 (vs : List Int) (bd : List b6) (m : Int) (t : b6) (e : b5) (k : Nat) := bd ++ [J5 (vs.length : Int) (m8 e)] ++ U9 (vs.length : Int) t.target (m8 t.index) m k
abbrev a86 (ars : List Int) (vs : List Int) (pc : Int) (e : b5) := vs ++ [i6 (b9 vs ars 5 (m8 e)) pc]
abbrev a85 : It := .box [.v (.slice none 0 0), .v (.slice none 0 0), .v (.slice none 0 0), .v (.slice none 0 0)]
abbrev bQ4 : It := .box [.ref 11, .ref 1, .v (.slice none 0 0), .ref 12]
abbrev aE5 (ars : List Int) (vs : List Int) (pc : Int) (t : b6) (e : b5) (r0 : List It) : List It := .row 3 (D.ints vs) :: dI ars :: .dead :: dE t.index.kids :: dE t.value.kids :: dT t.body :: dT t.els :: dE e.kids :: bQ4 :: .box (sL t 3) :: a85 :: .row 3 (D.ints (a86 ars vs pc e)) :: r0
abbrev an8 (vs : List Int) (m : Int) (r0 : List (Nat × AV)) : List (Nat × AV) := (3, iA m) :: (5, .ptr 8 0) :: (6, .ptr 9 0) :: (10, .ptr 10 0) :: (11, iA (vs.length : Int)) :: r0
abbrev av6 (t : b6) (e : b5) (r0 : List It) : List It := dE t.index.kids :: dE t.value.kids :: dT t.body :: dT t.els :: dE e.kids :: r0
theorem bq3 (ars vs : List Int) (bd : List b6) (m pc : Int) (t : b6) (e : b5) (he : f5 vs.length ars.length 5 ⟨e.kind, e.value, e.kids⟩ = true) (r1 : vs.length ≤ 100000) (r2 : bd.length ≤ 700000) : k6.ok Tryz.prog (b68 ars vs bd m pc t e) := by
  refine A2 63 Tryz.func160 (.row 3 (D.ints vs) :: dI ars :: .row 106 (D.stmts bd) :: (av6 t e [])) [(0, .agg [.ref 0, .ref 1, .v (.slice none 0 0), .ref 2]), (1, sA t 3), (2, eA e 7), (3, iA m), (4, iA pc)] fun G => ?_; refine wp_seq (k8 G d9 [0, 1, 2, 3, 4, 5, 6, 7, 8, 16, 24, 32] (.row 3 (D.ints vs) :: dI ars :: .row 106 (D.stmts bd) :: (av6 t e [.box [.ref 0, .ref 1, .v (.slice none 0 0), .ref 2], .box (sL t 3), .box (eL e 7), a85])) [(3, iA m), (4, iA pc), (5, .ptr 8 0), (6, .ptr 9 0), (7, .ptr 10 0), (10, .ptr 11 0)] fun G => b7 (wp_seq (l5 G d9 [(11, iA 0)] fun G => b7 (wp_seq (P1 G (t6 (l8 4 [0, 1, 7] (k6.lend (X3 vs ars e.kind e.value e.kids (by assumption)) [.row 3]) (l8 7 [0, 1, 2] (al8 vs ars bd (i6 (b9 vs ars 5 (m8 e)) pc) (by omega)) t5)) fz []) [0, 0, 2, 0, 14, 0, 62, 127, 255, 511, 511, 1023, 4095] [0, 1, 2, 3, 4, 5, 6, 7, 8, 9, 10, 11, 68] (.row 3 (D.ints vs) :: dI ars :: .row 106 (D.stmts bd) :: (av6 t e [.box [.ref 12, .ref 1, .v (.slice none 0 0), .ref 2], .box (sL t 3), .box (eL e 7), a85, .row 3 (D.ints (a86 ars vs pc e))])) [(3, iA m), (5, .ptr 8 0), (6, .ptr 9 0), (7, .ptr 10 0), (10, .ptr 11 0), (11, iA (vs.length : Int))] fun G => b7 (wp_seq (k8 G (s6 3 [12, 1, 2, 7] (P6 (vs ++ [i6 (b9 vs ars 5 (m8 e)) pc]) ars bd ((vs.length : Int)) e.kind e.value e.kids (by omega))) [0, 1, 2, 3, 4, 5, 6, 7, 8, 9, 11, 12, 37] (aE5 ars vs pc t e [.row 106 (D.stmts (bd ++ [J5 (vs.length : Int) (m8 e)]))]) (an8 vs m []) fun G => b7 (wp_seq (wp_seq (C9 G d9 (an8 vs m [(12, iA 0)]) fun G => b7 (wp_block ?_))))))))))); replace G := G.as (.row 3 (D.ints vs) :: dI ars :: .dead :: (av6 t e [.box [.ref 11, .ref 1, .v (.slice none 0 0), .ref 12], .box (sL t 3), .box [.v (.slice none 0 0), .v (.slice none 0 0), .v (.slice none 0 0), .v (.slice none 0 0)], .row 3 (D.ints (vs ++ [i6 (b9 vs ars 5 (m8 e)) pc])), .row 106 (D.stmts (bd ++ [J5 (vs.length : Int) (m8 e)] ++ U9 (vs.length : Int) t.target (m8 t.index) m 0))])) (an8 vs m [(12, iA 0)]) (by have e1 : (bd ++ [J5 (vs.length : Int) (m8 e)] ++ U9 (vs.length : Int) t.target (m8 t.index) m 0 : List b6) = (bd ++ [J5 (vs.length : Int) (m8 e)]) := (by simp only [U9, List.append_nil]; done); (first | rw [e1] | simp only [e1]) <;> rfl) (by kernel_rfl); refine o9 (κ := Nat) (fun k => k ≤ 4) (fun k => 4 - k) (fun k => [.row 3 (D.ints vs), dI ars, .dead, dE t.index.kids, dE t.value.kids, dT t.body, dT t.els, dE e.kids, .box [.ref 11, .ref 1, .v (.slice none 0 0), .ref 12], .box (sL t 3), .box [.v (.slice none 0 0), .v (.slice none 0 0), .v (.slice none 0 0), .v (.slice none 0 0)], .row 3 (D.ints (vs ++ [i6 (b9 vs ars 5 (m8 e)) pc])), .row 106 (.stmts (bd ++ [J5 (vs.length : Int) ⟨e.kind, e.value, e.kids⟩] ++ U9 (vs.length : Int) t.target ⟨t.index.kind, t.index.value, t.index.kids⟩ m k))]) (fun k => [(3, iA m), (5, .ptr 8 0), (6, .ptr 9 0), (10, .ptr 10 0), (11, iA (vs.length : Int)), (12, iA k)]) 0 (by simp [he]) (s5.at G _ _) ?_
  clear G; intro k ρ a w hp G; replace G := s5.at G (aE5 ars vs pc t e [.row 106 (D.stmts (aS5 vs bd m t e k))]) (an8 vs m [(12, iA k)]); refine wp_seq (wp_seq (l5 G d9 [(31, bA (decide ((k : Int) < 4)))] fun G => b7 (O0 G (fun h0 q0 => ?_) fun h0 q0 => ?_)))
  · refine wp_exit (o5 (o5 (n9 (b7 (wp_seq (k8 G d9 [0, 1, 2, 3, 4, 5, 6, 7, 10, 11, 12] (.row 3 (D.ints vs) :: dI ars :: .dead :: (av6 t e [.box [.ref 9, .ref 1, .v (.slice none 0 0), .ref 10], .row 3 (D.ints (a86 ars vs pc e)), .row 106 (D.stmts (aS5 vs bd m t e k))])) [(10, .ptr 8 0)] fun G => b7 (wp_ret ?_))))))); exact F2 G [0, 1, 2, 3, 4, 5, 6, 7, 9, 10] (by show _ = mR [0, 1, 2, 3, 4, 5, 6, 7, 9, 10] (.row 3 (D.ints vs) :: dI ars :: .dead :: (av6 t e [.row 3 (D.ints (vs ++ [i6 (b9 vs ars 5 (m8 e)) pc])), .row 106 (D.stmts (bd ++ [J5 (vs.length : Int) (m8 e)] ++ U9 (vs.length : Int) t.target (m8 t.index) m 4))])); have e1 : (bd ++ [J5 (vs.length : Int) (m8 e)] ++ U9 (vs.length : Int) t.target (m8 t.index) m 4 : List b6) = (bd ++ [J5 (vs.length : Int) (m8 e)] ++ U9 (vs.length : Int) t.target (m8 t.index) m k) := (b49 (show k = 4 by omega)); (first | rw [e1] | simp only [e1]) <;> rfl)
  ·
   refine wp_skip (b7 (wp_seq (wp_block (wp_seq (k8 G (t6 (l8 4 [3] (bl9 t.index.kind t.index.value t.index.kids ((k : Int))) (l8 5 [] (H1 0) (l8 6 [45, 53] (aj3 m 9 0 1 0 ((N3 (m8 t.index) (k : Int)).kids) ([])) t5))) fz []) [0, 1, 2, 3, 4, 5, 6, 7, 8, 9, 10, 11, 12, 61, 69] (aE5 ars vs pc t e [.row 106 (D.stmts (aS5 vs bd m t e k)), dE (aF5 m t k).kids, .box [iA (aF5 m t k).kind, iA (aF5 m t k).value, .ref 13]]) (an8 vs m [(12, iA k), (13, .ptr 14 0)]) fun G => b7 (wp_seq (P1 G (t6 (l8 2 [] (al7 ((vs.length : Int))) (l8 6 [] (H1 ((k : Int))) (l8 7 [63] (au9 t.target 1 ((k : Int)) ([])) (l8 9 [79] (ab3 11 ([m8 (s4 m (b5.mk 9 0 (N3 (b5.mk t.index.kind t.index.value t.index.kids) (k : Int)).kids) (b5.mk 1 0 []))] ++ ([b5.mk 2 (vs.length : Int) []] ++ ([b5.mk 3 t.target [b5.mk 1 (k : Int) []]] ++ [])))) t5)))) fz []) [0, 0, 2, 0, 8, 0, 38, 126, 255, 511, 0, 2047] [0, 1, 2, 3, 4, 5, 6, 7, 8, 9, 10, 11, 12, 79, 95] (aE5 ars vs pc t e [.row 106 (D.stmts (aS5 vs bd m t e k)), dE ([m8 (aF5 m t k)] ++ ([b5.mk 2 (vs.length : Int) []] ++ ([b5.mk 3 t.target [b5.mk 1 (k : Int) []]] ++ []))), .box [iA 11, iA 0, .ref 13]]) (an8 vs m [(12, iA k), (14, .ptr 14 0)]) fun G => b7 (G2 G (s6 5 [] (H1 ((k : Int)))) [0, 1, 0, 4, 0, 16, 0, 124, 252, 511, 1023, 2047] [0, 1, 2, 3, 4, 5, 6, 7, 8, 9, 10, 11, 87] (aE5 ars vs pc t e [.row 106 (D.stmts (bd ++ [J5 (vs.length : Int) (m8 e)] ++ U9 (vs.length : Int) t.target (m8 t.index) m k ++ ([b6.mk 2 t.target (b5.mk 1 (k : Int) []) (b5.mk 11 0 ([m8 (aF5 m t k)] ++ ([b5.mk 2 (vs.length : Int) []] ++ ([b5.mk 3 t.target [b5.mk 1 (k : Int) []]] ++ [])))) 0 [] []] ++ [])))]) (an8 vs m [(12, iA k)]) (aP ((bd ++ [J5 (vs.length : Int) (m8 e)] ++ U9 (vs.length : Int) t.target (m8 t.index) m k).length + ([b6.mk (2 : Int) t.target (b5.mk (1 : Int) (k : Int) []) (b5.mk (11 : Int) (0 : Int) ([m8 (s4 m (b5.mk (9 : Int) (0 : Int) (N3 (b5.mk t.index.kind t.index.value t.index.kids) (k : Int)).kids) (b5.mk (1 : Int) (0 : Int) []))] ++ ([b5.mk (2 : Int) (vs.length : Int) []] ++ ([b5.mk (3 : Int) t.target [b5.mk (1 : Int) (k : Int) []]] ++ [])))) (0 : Int) [] []] ++ []).length) 152 []) (aK (by simp only [b88, b87, b89, y5]; omega) b94) fun G => ?_))))))))
   refine m6 (b7 (E2 G d9 [(12, iA ((k : Int) + 1))] [wO ((k : Int) + 1)] (o1 (by omega)) fun G => b7 ?_)); exact M8 G (k + 1) (by omega) (by omega) (rg 13) (by have e1 : (bd ++ [J5 (vs.length : Int) (m8 e)] ++ U9 (vs.length : Int) t.target (m8 t.index) m (k + 1) : List b6) = (bd ++ [J5 (vs.length : Int) (m8 e)] ++ U9 (vs.length : Int) t.target (m8 t.index) m k ++ ([b6.mk 2 t.target (b5.mk 1 (k : Int) []) (b5.mk 11 0 ([m8 (s4 m (b5.mk 9 0 (N3 (b5.mk t.index.kind t.index.value t.index.kids) (k : Int)).kids) (b5.mk 1 0 []))] ++ ([b5.mk 2 (vs.length : Int) []] ++ ([b5.mk 3 t.target [b5.mk 1 (k : Int) []]] ++ [])))) 0 [] []] ++ [])) := bY2; (first | rw [e1] | simp only [e1]) <;> rfl)
abbrev lbC (ars : List Int) (m pc : Int) (vs : List Int) (bd : List b6) (ss : List b6) : k6 := ⟨79, [.agg [.ref 0, .ref 1, nlA, .ref 3], .ref 2, iA m, iA pc], [qI vs, dI ars, dT ss, qT bd], [.dead, dI ars, dT ss, .dead, qI (i8 ars ss m pc (vs, bd)).1, qT (i8 ars ss m pc (vs, bd)).2], .agg [.ref 4, .ref 1, nlA, .ref 5]⟩
abbrev lnC (ars : List Int) (m pc : Int) (vs : List Int) (ss : List b6) : k6 := ⟨79, [.agg [.ref 0, .ref 1, nlA, nlA], .ref 2, iA m, iA pc], [qI vs, dI ars, dT ss], [.dead, dI ars, dT ss, qI (i8 ars ss m pc (vs, [])).1, qT (i8 ars ss m pc (vs, [])).2], .agg [.ref 3, .ref 1, nlA, .ref 4]⟩
abbrev bI7 (ars : List Int) (m pc : Int) (vs : List Int) (bd : List b6) (ss : List b6) : k6 := ⟨153, [.agg [.ref 0, .ref 1, nlA, .ref 2], .ref 3, iA m, iA pc], [qI vs, dI ars, qT bd, dT ss], [.dead, dI ars, qT bd, dT ss, qI (i8 ars ss m pc (vs, [])).1, dT (i8 ars ss m pc (vs, [])).2], .tup [.agg [.ref 4, .ref 1, nlA, .ref 2], .ref 5]⟩
theorem bn5 (ars : List Int) (m pc : Int) (vs : List Int) (bd : List b6) (ss : List b6) (hB : k6.ok Tryz.prog (lnC ars m pc vs ss)) : k6.ok Tryz.prog (bI7 ars m pc vs bd ss) := by
 refine A2 25 Tryz.func153 [.row 3 (D.ints vs), dI ars, .row 106 (D.stmts bd), dT ss] [(0, .agg [.ref 0, .ref 1, .v (.slice none 0 0), .ref 2]), (1, .ref 3), (2, iA m), (3, iA pc)] fun G => ?_; refine wp_seq (k8 G d9 [0, 1, 2, 3, 4, 12] [.row 3 (D.ints vs), dI ars, .row 106 (D.stmts bd), dT ss, .box [.ref 0, .ref 1, .v (.slice none 0 0), .ref 2], .box [.v (.slice none 0 0), .v (.slice none 0 0), .v (.slice none 0 0), .v (.slice none 0 0)]] [(1, .ref 3), (2, iA m), (3, iA pc), (4, .ptr 4 0), (8, .ptr 5 0), (9, .v (.slice none 0 0))] fun G => b7 (wp_seq (k8 G (s6 6 [0, 1, 3] hB) [0, 1, 2, 3, 4, 5, 54, 55, 62] [.dead, dI ars, .row 106 (D.stmts bd), dT ss, .box [.ref 0, .ref 1, .v (.slice none 0 0), .ref 2], .box [.v (.slice none 0 0), .v (.slice none 0 0), .v (.slice none 0 0), .v (.slice none 0 0)], .row 3 (D.ints (i8 ars ss m pc (vs, [])).fst), .row 106 (D.stmts (i8 ars ss m pc (vs, [])).snd), .box [.ref 6, .ref 1, .v (.slice none 0 0), .ref 7]] [(4, .ptr 4 0), (8, .ptr 5 0), (9, .v (.slice none 0 0)), (10, .ptr 8 0)] fun G => b7 (wp_seq (P1 G d9 [0, 1, 0, 4, 15, 0, 32, 31, 255] [0, 1, 2, 3, 5, 6, 7] [.dead, dI ars, .row 106 (D.stmts bd), dT ss, .box [.ref 5, .ref 1, .v (.slice none 0 0), .ref 2], .row 3 (D.ints (i8 ars ss m pc (vs, [])).fst), .row 106 (D.stmts (i8 ars ss m pc (vs, [])).snd)] [(8, .ptr 4 0), (9, .ref 6)] fun G => b7 (wp_ret ?_)))))); obtain ⟨ρ, G⟩ := G.frz [.no, .no, .no, .no, .no, .no, .row 106] [.dead, dI ars, .row 106 (D.stmts bd), dT ss, .box [.ref 5, .ref 1, .v (.slice none 0 0), .ref 2], .row 3 (D.ints (i8 ars ss m pc (vs, [])).fst), dT (i8 ars ss m pc (vs, [])).snd] [(8, .ptr 4 0), (9, .ref 6)]; exact F2 G [0, 1, 2, 3, 5, 6]
abbrev b04 (ars : List Int) (m pc : Int) (vs : List Int) (bd : List b6) (t : b6) : k6 := ⟨152, [.agg [.ref 0, .ref 1, nlA, .ref 2], sA t 3, iA m, iA pc], [qI vs, dI ars, qT bd] ++ sS t, [.dead, dI ars, .dead] ++ sS t ++ [qI (r7 ars t m pc (vs, bd)).1, qT (r7 ars t m pc (vs, bd)).2], .agg [.ref 7, .ref 1, nlA, .ref 8]⟩
theorem bZ6 (x y : Int) : i6 x y = i6 y x := by simp only [aV9]; rw [BitVec.or_comm]
section
variable {ars vs : List Int} {bd : List b6} {m pc : Int} {t : b6} {nv dd : Nat}
theorem bB5 (hh : t7 nv ars.length t = true) (k3 : t.kind = 3) (hv : nv ≤ vs.length) : f5 vs.length ars.length 5 t.value = true := x4 hv 5 _ (n5 hh (by omega))
theorem b72 (hh : t7 nv ars.length t = true) (k3 : t.kind = 3) (hv : nv ≤ vs.length) : Grw vs.length ars.length 5 (1 + v7 t.value) (vs, bd) (b8 ars pc t.value (vs, bd)).1 := (Y7 ars pc ars.length 5 t.value (vs, bd) (bB5 hh k3 hv)).1
theorem bJ7 (hh : t7 nv ars.length t = true) (k3 : t.kind = 3) (hv : nv ≤ vs.length) (r1 : vs.length + 4 * (1 + D7 t) ≤ 90000) (r2 : i5 bd + 130 * (1 + D7 t) ≤ 600000) : (b8 ars pc t.value (vs, bd)).1.1.length + 3 * (1 + v7 t.value) + 4 * i5 t.body + 4 * i5 t.els ≤ 90000 ∧ nv ≤ (b8 ars pc t.value (vs, bd)).1.1.length ∧ i5 (b8 ars pc t.value (vs, bd)).1.2 + 60 * (1 + v7 t.value) + 130 * i5 t.body + 130 * i5 t.els ≤ 600000 ∧ (b8 ars pc t.value (vs, bd)).1.2.length ≤ 600000 := by
 have g := b72 (pc := pc) (bd := bd) hh k3 hv
 have a := g.lo; have b := g.hi; have c := g.st
 have hsz : D7 t = v7 t.index + v7 t.value + i5 t.body + i5 t.els := by cases t; rfl
 have := C3 (b8 ars pc t.value (vs, bd)).1.2
 simp only at a b c
 omega
end
abbrev z7 (e : b5) : b5 := ⟨e.kind, e.value, e.kids⟩
abbrev ifN (x : U6 × b5) (m l : Int) : U6 := (x.1.1 ++ [l] ++ [l], x.1.2 ++ [J5 (x.1.1.length : Int) (z7 (s4 m (z7 x.2) ⟨1, 0, []⟩))] ++ [J5 ((x.1.1 ++ [l]).length : Int) (z7 (s4 m ⟨9, 0, [⟨2, (x.1.1.length : Int), []⟩] ++ ([⟨1, 0, []⟩] ++ [])⟩ ⟨1, 0, []⟩))])
theorem bB6 (x : U6 × b5) (m l : Int) : ifN x m l = ifM x m l := by
 unfold ifN ifM z7
 simp only [b5.eta]
 rfl
theorem bU1 (x : U6 × b5) (m l : Int) : i5 (ifM x m l).2 ≤ i5 x.1.2 + 20 + v7 x.2 ∧ (ifM x m l).1.length = x.1.1.length + 2 := by
 have m1 := ad0 m x.2 (cnE 0)
 have m2 := ad0 m ⟨9, 0, [vrE (x.1.1.length : Int), cnE 0]⟩ (cnE 0)
 have m3 : v7 ⟨9, 0, [vrE (x.1.1.length : Int), cnE 0]⟩ = 2 := rfl
 have e0 : v7 nnE = 0 := rfl
 have e1 : v7 (cnE 0) = 0 := rfl
 constructor
 ·simp only [ifM, x7, i5, D7, e0]; omega
 ·simp [ifM]
section
variable {ars vs : List Int} {bd : List b6} {m pc l : Int} {t : b6} {nv dd : Nat}
theorem b18 (hh : t7 nv ars.length t = true) (k3 : t.kind = 3) (hv : nv ≤ vs.length) (r1 : vs.length + 4 * (1 + D7 t) ≤ 90000) (r2 : i5 bd + 130 * (1 + D7 t) ≤ 600000) :
  nv ≤ (ifN (b8 ars pc t.value (vs, bd)) m l).1.length ∧ (ifN (b8 ars pc t.value (vs, bd)) m l).1.length + 4 * i5 t.body + 4 * i5 t.els ≤ 90000 ∧ i5 (ifN (b8 ars pc t.value (vs, bd)) m l).2 + 130 * i5 t.body + 130 * i5 t.els ≤ 600000 := by
 have hb := bJ7 (pc := pc) (bd := bd) hh k3 hv r1 r2
 have hz := bU1 (b8 ars pc t.value (vs, bd)) m l
 have h3 := (Y7 ars pc ars.length 5 t.value (vs, bd) (bB5 hh k3 hv)).2.2
 rw [bB6]
 omega
theorem b17 (hh : t7 nv ars.length t = true) (k3 : t.kind = 3) (hv : nv ≤ vs.length) (r1 : vs.length + 4 * (1 + D7 t) ≤ 90000) (r2 : i5 bd + 130 * (1 + D7 t) ≤ 600000) : i5 (ifN (b8 ars pc t.value (vs, bd)) m l).2 + 130 * i5 t.body ≤ 600000 := by have := (b18 (m := m) (l := l) (pc := pc) hh k3 hv r1 r2).2.2; omega
theorem bT8 {u : Int} (hbb : t.body.all (f6 nv ars.length dd) = true) (hh : t7 nv ars.length t = true) (k3 : t.kind = 3) (hv : nv ≤ vs.length) (r1 : vs.length + 4 * (1 + D7 t) ≤ 90000) (r2 : i5 bd + 130 * (1 + D7 t) ≤ 600000) :
  nv ≤ (i8 ars t.body u l (ifN (b8 ars pc t.value (vs, bd)) m l)).1.length ∧ (i8 ars t.body u l (ifN (b8 ars pc t.value (vs, bd)) m l)).1.length + 4 * i5 t.els ≤ 90000 ∧ i5 (i8 ars t.body u l (ifN (b8 ars pc t.value (vs, bd)) m l)).2 + 130 * i5 t.els ≤ 600000 := by
 have h := b18 (m := m) (l := l) (pc := pc) hh k3 hv r1 r2
 have g := ax2 ars t.body u l (ifN (b8 ars pc t.value (vs, bd)) m l) hbb h.1
 have a := g.lo; have b := g.hi; have c := g.st
 omega
theorem b19 (hbb : t.body.all (f6 nv ars.length dd) = true) (hh : t7 nv ars.length t = true) (k3 : t.kind = 3) (hv : nv ≤ vs.length) (r1 : vs.length + 4 * (1 + D7 t) ≤ 90000) (r2 : i5 bd + 130 * (1 + D7 t) ≤ 600000) :
  nv ≤ (i8 ars t.body m l ((b8 ars pc t.value (vs, bd)).1.1, [])).1.length ∧ (i8 ars t.body m l ((b8 ars pc t.value (vs, bd)).1.1, [])).1.length + 4 * i5 t.els ≤ 90000 := by
 have hb := bJ7 (pc := pc) (bd := bd) hh k3 hv r1 r2
 have g := ax2 ars t.body m l ((b8 ars pc t.value (vs, bd)).1.1, []) hbb hb.2.1
 have a := g.lo; have b := g.hi
 simp only at a b
 omega
abbrev lbV (ars vs : List Int) (pc : Int) (t : b6) : Int := i6 pc (b9 vs ars 5 (z7 t.value))
theorem bT9 (k3 : t.kind = 3) (h : (!(d8 (b9 vs ars 5 (z7 t.value)) && decide (b9 vs ars 5 (z7 t.value) % 2 = 1))) = false) : r7 ars t m pc (vs, bd) = i8 ars t.els (((b8 ars pc t.value (vs, bd)).1.1 ++ [lbV ars vs pc t]).length : Int) (lbV ars vs pc t) (i8 ars t.body ((b8 ars pc t.value (vs, bd)).1.1.length : Int) (lbV ars vs pc t) (ifN (b8 ars pc t.value (vs, bd)) m (lbV ars vs pc t))) := by
 rw [b97] at h
 rw [bB6]
 unfold lbV
 rw [show z7 t.value = t.value from b5.eta _] at h ⊢
 exact bI8 k3 h
theorem bU0 (k3 : t.kind = 3) (h : (!(d8 (b9 vs ars 5 (z7 t.value)) && decide (b9 vs ars 5 (z7 t.value) % 2 = 1))) = true) : r7 ars t m pc (vs, bd) = ((i8 ars t.els m (lbV ars vs pc t) ((i8 ars t.body m (lbV ars vs pc t) ((b8 ars pc t.value (vs, bd)).1.1, [])).1, [])).1,
  (b8 ars pc t.value (vs, bd)).1.2 ++ [⟨3, 0, ⟨0, 0, []⟩, z7 (b8 ars pc t.value (vs, bd)).2, 0, (i8 ars t.body m (lbV ars vs pc t) ((b8 ars pc t.value (vs, bd)).1.1, [])).2, (i8 ars t.els m (lbV ars vs pc t) ((i8 ars t.body m (lbV ars vs pc t) ((b8 ars pc t.value (vs, bd)).1.1, [])).1, [])).2⟩]) := by
 rw [b95] at h
 rw [show z7 (b8 ars pc t.value (vs, bd)).2 = (b8 ars pc t.value (vs, bd)).2 from b5.eta _]
 unfold lbV
 rw [show z7 t.value = t.value from b5.eta _] at h ⊢
 exact bz2 k3 h
theorem bP6 (k3 : t.kind = 3) (h : (!(d8 (b9 vs ars 5 (z7 t.value)) && decide (b9 vs ars 5 (z7 t.value) % 2 = 1))) = true) : (r7 ars t m pc (vs, bd)).1 = (i8 ars t.els m (lbV ars vs pc t) ((i8 ars t.body m (lbV ars vs pc t) ((b8 ars pc t.value (vs, bd)).1.1, [])).1, [])).1 := by rw [bU0 k3 h]
theorem b20 (k3 : t.kind = 3) (h : (!(d8 (b9 vs ars 5 (z7 t.value)) && decide (b9 vs ars 5 (z7 t.value) % 2 = 1))) = false) : (r7 ars t m pc (vs, bd)).1 = (i8 ars t.els (((b8 ars pc t.value (vs, bd)).1.1 ++ [lbV ars vs pc t]).length : Int) (lbV ars vs pc t) (i8 ars t.body ((b8 ars pc t.value (vs, bd)).1.1.length : Int) (lbV ars vs pc t) (ifN (b8 ars pc t.value (vs, bd)) m (lbV ars vs pc t)))).1 := by rw [bT9 k3 h]
end
abbrev aF4 (ars : List Int) (t : b6) (m : Int) (pc : Int) (vs : List Int) (bd : List b6) := i8 ars t.body ((b8 ars pc t.value (vs, bd)).fst.fst.length : Int) (i6 pc (b9 vs ars 5 (m8 t.value))) ((b8 ars pc t.value (vs, bd)).fst.fst ++ [i6 pc (b9 vs ars 5 (m8 t.value))] ++ [i6 pc (b9 vs ars 5 (m8 t.value))], (b8 ars pc t.value (vs, bd)).fst.snd ++ [J5 ((b8 ars pc t.value (vs, bd)).fst.fst.length : Int) (m8 (s4 m (b5.mk (b8 ars pc t.value (vs, bd)).snd.kind (b8 ars pc t.value (vs, bd)).snd.value (b8 ars pc t.value (vs, bd)).snd.kids) (b5.mk 1 0 [])))] ++ [J5 (((b8 ars pc t.value (vs, bd)).fst.fst ++ [i6 pc (b9 vs ars 5 (m8 t.value))]).length : Int) (m8 (s4 m (b5.mk 9 0 ([b5.mk 2 ((b8 ars pc t.value (vs, bd)).fst.fst.length : Int) []] ++ ([b5.mk 1 0 []] ++ []))) (b5.mk 1 0 [])))])
abbrev D6 (ars : List Int) (t : b6) (vs : List Int) := b9 vs ars 5 (m8 t.value)
abbrev aS3 (ars : List Int) (t : b6) (pc : Int) (vs : List Int) (bd : List b6) := m8 (b8 ars pc t.value (vs, bd)).snd
abbrev ao3 (ars : List Int) (t : b6) (m : Int) (pc : Int) (vs : List Int) (bd : List b6) := i8 ars t.body m (i6 pc (D6 ars t vs)) ((b8 ars pc t.value (vs, bd)).fst.fst, [])
abbrev ao2 (ars : List Int) (t : b6) (m : Int) (pc : Int) (vs : List Int) (bd : List b6) := i8 ars t.els m (i6 pc (D6 ars t vs)) ((ao3 ars t m pc vs bd).fst, [])
abbrev aS4 (ars : List Int) (t : b6) (m : Int) (pc : Int) (vs : List Int) (bd : List b6) := m8 (s4 m (aS3 ars t pc vs bd) (b5.mk 1 0 []))
abbrev P8 : It := .box [.v (.slice none 0 0), .v (.slice none 0 0), .v (.slice none 0 0), .v (.slice none 0 0)]
abbrev O8 (ars : List Int) (t : b6) (r0 : List It) : List It := .dead :: dI ars :: .dead :: dE t.index.kids :: dE t.value.kids :: dT t.body :: dT t.els :: r0
abbrev R2 (ars : List Int) (t : b6) (pc : Int) (vs : List Int) (r0 : List (Nat × AV)) : List (Nat × AV) := (3, iA pc) :: (4, .ptr 7 0) :: (5, .ptr 8 0) :: (8, .ptr 9 0) :: (9, iA (D6 ars t vs)) :: r0
abbrev a79 (ars : List Int) (t : b6) (pc : Int) (vs : List Int) (bd : List b6) (r0 : List It) : List It := .box (sL t 3) :: P8 :: .box [iA (b8 ars pc t.value (vs, bd)).snd.kind, iA (b8 ars pc t.value (vs, bd)).snd.value, .ref 12] :: .row 106 (D.stmts (b8 ars pc t.value (vs, bd)).fst.snd) :: dE (b8 ars pc t.value (vs, bd)).snd.kids :: r0
theorem bR6 (ars : List Int) (nv dd : Nat) (t : b6) (k3 : t.kind = 3) (hh : t7 nv ars.length t = true) (hbb : t.body.all (f6 nv ars.length dd) = true) (hbe : t.els.all (f6 nv ars.length dd) = true)
    (hB : ∀ (tt : List b6) (m pc : Int) (vs : List Int) (bd : List b6), tt.all (f6 nv ars.length dd) = true → nv ≤ vs.length → vs.length + 4 * i5 tt ≤ 90000 → i5 bd + 130 * i5 tt ≤ 600000 → k6.ok Tryz.prog (lbC ars m pc vs bd tt))
    (hI : ∀ (tt : List b6) (m pc : Int) (vs : List Int) (bd : List b6), tt.all (f6 nv ars.length dd) = true → nv ≤ vs.length → vs.length + 4 * i5 tt ≤ 90000 → 130 * i5 tt ≤ 600000 → k6.ok Tryz.prog (bI7 ars m pc vs bd tt))
    (m pc : Int) (vs : List Int) (bd : List b6) (hv : nv ≤ vs.length) (r1 : vs.length + 4 * (1 + D7 t) ≤ 90000) (r2 : i5 bd + 130 * (1 + D7 t) ≤ 600000) : k6.ok Tryz.prog (b04 ars m pc vs bd t) := by
  refine A2 116 Tryz.func152 [.row 3 (D.ints vs), dI ars, .row 106 (D.stmts bd), dE t.index.kids, dE t.value.kids, dT t.body, dT t.els] [(0, .agg [.ref 0, .ref 1, .v (.slice none 0 0), .ref 2]), (1, sA t 3), (2, iA m), (3, iA pc)] fun G => ?_
  have hsz : D7 t = v7 t.index + v7 t.value + i5 t.body + i5 t.els := by cases t; rfl
  have hsh := bB5 (vs := vs) hh k3 hv; have hbd := bJ7 (pc := pc) (bd := bd) hh k3 hv r1 r2; refine wp_seq (k8 G d9 [0, 1, 2, 3, 4, 5, 6, 7, 15, 23] [.row 3 (D.ints vs), dI ars, .row 106 (D.stmts bd), dE t.index.kids, dE t.value.kids, dT t.body, dT t.els, .box [.ref 0, .ref 1, .v (.slice none 0 0), .ref 2], .box (sL t 3), P8] [(2, iA m), (3, iA pc), (4, .ptr 7 0), (5, .ptr 8 0), (8, .ptr 9 0)] fun G => b7 (wp_seq (l5 G (s6 4 [0, 1, 4] (k6.lend (X3 vs ars t.value.kind t.value.value t.value.kids (by assumption)) [.row 3])) [(9, iA (D6 ars t vs))] fun G => b7 (wp_seq (k8 G d9 [0, 1, 2, 3, 4, 5, 6, 7, 8, 9, 18] [.row 3 (D.ints vs), dI ars, .row 106 (D.stmts bd), dE t.index.kids, dE t.value.kids, dT t.body, dT t.els, .box [.ref 0, .ref 1, .v (.slice none 0 0), .ref 2], .box (sL t 3), P8, .box [iA 0, iA 0, .v (.slice none 0 0)]] ((2, iA m) :: (R2 ars t pc vs [(10, .ptr 10 0)])) fun G => b7 (wp_seq (k8 G (s6 4 [0, 1, 2, 4] (a60 ars pc t.value vs bd (by assumption) (by omega) (by omega))) [0, 1, 2, 3, 4, 5, 6, 7, 8, 9, 10, 43, 44, 45] (O8 ars t [.box [.ref 11, .ref 1, .v (.slice none 0 0), .ref 12], .box (sL t 3), P8, .box [iA (b8 ars pc t.value (vs, bd)).snd.kind, iA (b8 ars pc t.value (vs, bd)).snd.value, .ref 13], .row 3 (D.ints (b8 ars pc t.value (vs, bd)).fst.fst), .row 106 (D.stmts (b8 ars pc t.value (vs, bd)).fst.snd), dE (b8 ars pc t.value (vs, bd)).snd.kids]) ((2, iA m) :: (R2 ars t pc vs [(10, .ptr 10 0)])) fun G => b7 (wp_seq (wp_seq (l5 G (s6 1 [] (H2 (b9 vs ars 5 (m8 t.value)))) [(31, .v (.bool !(d8 (D6 ars t vs) && decide (b9 vs ars 5 (m8 t.value) % 2 = 1))))] fun G => b7 ?_)))))))))); cases h0 : (!(d8 (b9 vs ars (5 : Nat) (m8 t.value)) && decide (b9 vs ars (5 : Nat) (m8 t.value) % (2 : Int) = 1)))
  ·
   have q0 : ((d8 (b9 vs ars 5 (m8 t.value))) = true) ∧ (b9 vs ars 5 (m8 t.value) % 2 = 1) := (fun hq => And.imp (fun hq => (hq)) (fun hq => of_decide_eq_true hq) (ca6.1 hq)) (Eq.mp (b97 _) h0); refine rF G _ h0 (wp_skip (b7 (wp_seq (l5 G d9 [(13, iA 0), (14, iA 0)] fun G => b7 (wp_seq (k8 G (s6 4 [11, 1, 12] (al8 ((b8 ars pc t.value (vs, bd)).fst.fst) ars ((b8 ars pc t.value (vs, bd)).fst.snd) (i6 pc (b9 vs ars 5 (m8 t.value))) (by omega))) [0, 1, 2, 3, 4, 5, 6, 7, 8, 9, 10, 12, 13, 46] (O8 ars t (.box [.ref 13, .ref 1, .v (.slice none 0 0), .ref 11] :: (a79 ars t pc vs bd [.row 3 (D.ints ((b8 ars pc t.value (vs, bd)).fst.fst ++ [i6 pc (D6 ars t vs)]))]))) ((2, iA m) :: (R2 ars t pc vs [(10, .ptr 10 0), (13, iA ((b8 ars pc t.value (vs, bd)).fst.fst.length : Int)), (14, iA 0)])) fun G => b7 (wp_seq (P1 G (t6 (l8 4 [] (H1 0) (l8 5 [12, 46] (aj3 m ((b8 ars pc t.value (vs, bd)).snd.kind) ((b8 ars pc t.value (vs, bd)).snd.value) 1 0 ((b8 ars pc t.value (vs, bd)).snd.kids) ([])) (l8 6 [13, 1, 11, 54] (P6 ((b8 ars pc t.value (vs, bd)).fst.fst ++ [i6 pc (b9 vs ars 5 (m8 t.value))]) ars ((b8 ars pc t.value (vs, bd)).fst.snd) (((b8 ars pc t.value (vs, bd)).fst.fst.length : Int)) ((s4 m (m8 (b8 ars pc t.value (vs, bd)).snd) (b5.mk 1 0 [])).kind) ((s4 m (m8 (b8 ars pc t.value (vs, bd)).snd) (b5.mk 1 0 [])).value) ((s4 m (m8 (b8 ars pc t.value (vs, bd)).snd) (b5.mk 1 0 [])).kids) (by omega)) t5))) fz []) [0, 0, 0, 0, 0, 28, 63, 127] [0, 1, 2, 3, 4, 5, 6, 7, 8, 9, 13, 62] (O8 ars t [.box [.ref 10, .ref 1, .v (.slice none 0 0), .ref 11], .box (sL t 3), P8, .row 3 (D.ints ((b8 ars pc t.value (vs, bd)).fst.fst ++ [i6 pc (D6 ars t vs)])), .row 106 (D.stmts ((b8 ars pc t.value (vs, bd)).fst.snd ++ [J5 ((b8 ars pc t.value (vs, bd)).fst.fst.length : Int) (aS4 ars t m pc vs bd)]))]) ((2, iA m) :: (R2 ars t pc vs [(13, iA ((b8 ars pc t.value (vs, bd)).fst.fst.length : Int)), (14, iA 0)])) fun G => b7 (wp_seq (k8 G (s6 4 [10, 1, 11] (al8 ((b8 ars pc t.value (vs, bd)).fst.fst ++ [i6 pc (b9 vs ars 5 (m8 t.value))]) ars ((b8 ars pc t.value (vs, bd)).fst.snd ++ [J5 ((b8 ars pc t.value (vs, bd)).fst.fst.length : Int) (m8 (s4 m (b5.mk (b8 ars pc t.value (vs, bd)).snd.kind (b8 ars pc t.value (vs, bd)).snd.value (b8 ars pc t.value (vs, bd)).snd.kids) (b5.mk 1 0 [])))]) (i6 pc (b9 vs ars 5 (m8 t.value))) (by simp only [b88, b87, b89]; omega))) [0, 1, 2, 3, 4, 5, 6, 7, 8, 9, 11, 44] (O8 ars t [.box [.ref 11, .ref 1, .v (.slice none 0 0), .ref 10], .box (sL t 3), P8, .row 106 (D.stmts ((b8 ars pc t.value (vs, bd)).fst.snd ++ [J5 ((b8 ars pc t.value (vs, bd)).fst.fst.length : Int) (aS4 ars t m pc vs bd)])), .row 3 (D.ints ((b8 ars pc t.value (vs, bd)).fst.fst ++ [i6 pc (D6 ars t vs)] ++ [i6 pc (D6 ars t vs)]))]) ((2, iA m) :: (R2 ars t pc vs [(13, iA ((b8 ars pc t.value (vs, bd)).fst.fst.length : Int)), (14, iA (((b8 ars pc t.value (vs, bd)).fst.fst ++ [i6 pc (D6 ars t vs)]).length : Int))])) fun G => ?_))))))))))
   refine b7 (wp_seq (P1 G (t6 (l8 4 [] (al7 (((b8 ars pc t.value (vs, bd)).fst.fst.length : Int))) (l8 5 [] (H1 0) (l8 7 [60] (ab3 9 ([b5.mk 2 ((b8 ars pc t.value (vs, bd)).fst.fst.length : Int) []] ++ ([b5.mk 1 0 []] ++ []))) (l8 8 [] (H1 0) (l8 9 [60, 76] (aj3 m 9 0 1 0 ([b5.mk 2 ((b8 ars pc t.value (vs, bd)).fst.fst.length : Int) []] ++ ([b5.mk 1 0 []] ++ [])) ([])) (l8 10 [11, 1, 10, 84] (P6 ((b8 ars pc t.value (vs, bd)).fst.fst ++ [i6 pc (b9 vs ars 5 (m8 t.value))] ++ [i6 pc (b9 vs ars 5 (m8 t.value))]) ars ((b8 ars pc t.value (vs, bd)).fst.snd ++ [J5 ((b8 ars pc t.value (vs, bd)).fst.fst.length : Int) (m8 (s4 m (b5.mk (b8 ars pc t.value (vs, bd)).snd.kind (b8 ars pc t.value (vs, bd)).snd.value (b8 ars pc t.value (vs, bd)).snd.kids) (b5.mk 1 0 [])))]) ((((b8 ars pc t.value (vs, bd)).fst.fst ++ [i6 pc (b9 vs ars 5 (m8 t.value))]).length : Int)) ((s4 m (b5.mk 9 0 ([b5.mk 2 ((b8 ars pc t.value (vs, bd)).fst.fst.length : Int) []] ++ ([b5.mk 1 0 []] ++ []))) (b5.mk 1 0 [])).kind) ((s4 m (b5.mk 9 0 ([b5.mk 2 ((b8 ars pc t.value (vs, bd)).fst.fst.length : Int) []] ++ ([b5.mk 1 0 []] ++ []))) (b5.mk 1 0 [])).value) ((s4 m (b5.mk 9 0 ([b5.mk 2 ((b8 ars pc t.value (vs, bd)).fst.fst.length : Int) []] ++ ([b5.mk 1 0 []] ++ []))) (b5.mk 1 0 [])).kids) (by simp only [b88, b87, b89]; omega)) t5)))))) fz []) [0, 0, 0, 0, 8, 24, 56, 120, 248, 508, 1023, 2047] [0, 1, 2, 3, 4, 5, 6, 7, 8, 9, 11, 92] (O8 ars t [.box [.ref 10, .ref 1, .v (.slice none 0 0), .ref 11], .box (sL t 3), P8, .row 3 (D.ints ((b8 ars pc t.value (vs, bd)).fst.fst ++ [i6 pc (D6 ars t vs)] ++ [i6 pc (D6 ars t vs)])), .row 106 (D.stmts ((b8 ars pc t.value (vs, bd)).fst.snd ++ [J5 ((b8 ars pc t.value (vs, bd)).fst.fst.length : Int) (aS4 ars t m pc vs bd)] ++ [J5 (((b8 ars pc t.value (vs, bd)).fst.fst ++ [i6 pc (D6 ars t vs)]).length : Int) (m8 (s4 m (b5.mk 9 0 ([b5.mk 2 ((b8 ars pc t.value (vs, bd)).fst.fst.length : Int) []] ++ ([b5.mk 1 0 []] ++ []))) (b5.mk 1 0 [])))]))]) (R2 ars t pc vs [(13, iA ((b8 ars pc t.value (vs, bd)).fst.fst.length : Int)), (14, iA (((b8 ars pc t.value (vs, bd)).fst.fst ++ [i6 pc (D6 ars t vs)]).length : Int))]) fun G => b7 (wp_seq (k8 G (s6 7 [10, 1, 5, 11] (hB t.body (((b8 ars pc t.value (vs, bd)).fst.fst.length : Int)) (i6 pc (b9 vs ars 5 (m8 t.value))) ((b8 ars pc t.value (vs, bd)).fst.fst ++ [i6 pc (b9 vs ars 5 (m8 t.value))] ++ [i6 pc (b9 vs ars 5 (m8 t.value))]) ((b8 ars pc t.value (vs, bd)).fst.snd ++ [J5 ((b8 ars pc t.value (vs, bd)).fst.fst.length : Int) (m8 (s4 m (b5.mk (b8 ars pc t.value (vs, bd)).snd.kind (b8 ars pc t.value (vs, bd)).snd.value (b8 ars pc t.value (vs, bd)).snd.kids) (b5.mk 1 0 [])))] ++ [J5 (((b8 ars pc t.value (vs, bd)).fst.fst ++ [i6 pc (b9 vs ars 5 (m8 t.value))]).length : Int) (m8 (s4 m (b5.mk 9 0 ([b5.mk 2 ((b8 ars pc t.value (vs, bd)).fst.fst.length : Int) []] ++ ([b5.mk 1 0 []] ++ []))) (b5.mk 1 0 [])))]) (by assumption) (by simp only [b88, b87, b89]; omega) (by simp only [b88, b87, b89]; omega) (b17 hh k3 hv r1 r2))) [0, 1, 2, 3, 4, 5, 6, 7, 8, 9, 68, 69] (O8 ars t [.box [.ref 10, .ref 1, .v (.slice none 0 0), .ref 11], .box (sL t 3), P8, .row 3 (D.ints (aF4 ars t m pc vs bd).fst), .row 106 (D.stmts (aF4 ars t m pc vs bd).snd)]) (R2 ars t pc vs [(14, iA (((b8 ars pc t.value (vs, bd)).fst.fst ++ [i6 pc (D6 ars t vs)]).length : Int))]) fun G => ?_))))
   refine b7 (wp_seq (k8 G (s6 7 [10, 1, 6, 11] (hB t.els ((((b8 ars pc t.value (vs, bd)).fst.fst ++ [i6 pc (b9 vs ars 5 (m8 t.value))]).length : Int)) (i6 pc (b9 vs ars 5 (m8 t.value))) ((i8 ars t.body ((b8 ars pc t.value (vs, bd)).fst.fst.length : Int) (i6 pc (b9 vs ars 5 (m8 t.value))) ((b8 ars pc t.value (vs, bd)).fst.fst ++ [i6 pc (b9 vs ars 5 (m8 t.value))] ++ [i6 pc (b9 vs ars 5 (m8 t.value))], (b8 ars pc t.value (vs, bd)).fst.snd ++ [J5 ((b8 ars pc t.value (vs, bd)).fst.fst.length : Int) (m8 (s4 m (b5.mk (b8 ars pc t.value (vs, bd)).snd.kind (b8 ars pc t.value (vs, bd)).snd.value (b8 ars pc t.value (vs, bd)).snd.kids) (b5.mk 1 0 [])))] ++ [J5 (((b8 ars pc t.value (vs, bd)).fst.fst ++ [i6 pc (b9 vs ars 5 (m8 t.value))]).length : Int) (m8 (s4 m (b5.mk 9 0 ([b5.mk 2 ((b8 ars pc t.value (vs, bd)).fst.fst.length : Int) []] ++ ([b5.mk 1 0 []] ++ []))) (b5.mk 1 0 [])))])).fst) ((i8 ars t.body ((b8 ars pc t.value (vs, bd)).fst.fst.length : Int) (i6 pc (b9 vs ars 5 (m8 t.value))) ((b8 ars pc t.value (vs, bd)).fst.fst ++ [i6 pc (b9 vs ars 5 (m8 t.value))] ++ [i6 pc (b9 vs ars 5 (m8 t.value))], (b8 ars pc t.value (vs, bd)).fst.snd ++ [J5 ((b8 ars pc t.value (vs, bd)).fst.fst.length : Int) (m8 (s4 m (b5.mk (b8 ars pc t.value (vs, bd)).snd.kind (b8 ars pc t.value (vs, bd)).snd.value (b8 ars pc t.value (vs, bd)).snd.kids) (b5.mk 1 0 [])))] ++ [J5 (((b8 ars pc t.value (vs, bd)).fst.fst ++ [i6 pc (b9 vs ars 5 (m8 t.value))]).length : Int) (m8 (s4 m (b5.mk 9 0 ([b5.mk 2 ((b8 ars pc t.value (vs, bd)).fst.fst.length : Int) []] ++ ([b5.mk 1 0 []] ++ []))) (b5.mk 1 0 [])))])).snd) (by assumption) ((bT8 hbb hh k3 hv r1 r2).1) ((bT8 hbb hh k3 hv r1 r2).2.1) ((bT8 hbb hh k3 hv r1 r2).2.2))) [0, 1, 2, 3, 4, 5, 6, 9, 68, 69] (O8 ars t [.box [.ref 8, .ref 1, .v (.slice none 0 0), .ref 9], .row 3 (D.ints (i8 ars t.els (((b8 ars pc t.value (vs, bd)).fst.fst ++ [i6 pc (D6 ars t vs)]).length : Int) (i6 pc (D6 ars t vs)) (aF4 ars t m pc vs bd)).fst), .row 106 (D.stmts (i8 ars t.els (((b8 ars pc t.value (vs, bd)).fst.fst ++ [i6 pc (D6 ars t vs)]).length : Int) (i6 pc (D6 ars t vs)) (aF4 ars t m pc vs bd)).snd)]) [(8, .ptr 7 0)] fun G => ?_))
   refine b7 (wp_ret ?_); exact F2 G [0, 1, 2, 3, 4, 5, 6, 8, 9] (by show _ = mR [0, 1, 2, 3, 4, 5, 6, 8, 9] [.dead, dI ars, .dead, dE t.index.kids, dE t.value.kids, dT t.body, dT t.els, .row 3 (D.ints (r7 ars t m pc (vs, bd)).fst), .row 106 (D.stmts (r7 ars t m pc (vs, bd)).snd)]; have e1 : ((r7 ars t m pc (vs, bd)).fst : List Int) = ((i8 ars t.els (((b8 ars pc t.value (vs, bd)).fst.fst ++ [i6 pc (b9 vs ars 5 (m8 t.value))]).length : Int) (i6 pc (b9 vs ars 5 (m8 t.value))) (i8 ars t.body ((b8 ars pc t.value (vs, bd)).fst.fst.length : Int) (i6 pc (b9 vs ars 5 (m8 t.value))) ((b8 ars pc t.value (vs, bd)).fst.fst ++ [i6 pc (b9 vs ars 5 (m8 t.value))] ++ [i6 pc (b9 vs ars 5 (m8 t.value))], (b8 ars pc t.value (vs, bd)).fst.snd ++ [J5 ((b8 ars pc t.value (vs, bd)).fst.fst.length : Int) (m8 (s4 m (b5.mk (b8 ars pc t.value (vs, bd)).snd.kind (b8 ars pc t.value (vs, bd)).snd.value (b8 ars pc t.value (vs, bd)).snd.kids) (b5.mk 1 0 [])))] ++ [J5 (((b8 ars pc t.value (vs, bd)).fst.fst ++ [i6 pc (b9 vs ars 5 (m8 t.value))]).length : Int) (m8 (s4 m (b5.mk 9 0 ([b5.mk 2 ((b8 ars pc t.value (vs, bd)).fst.fst.length : Int) []] ++ ([b5.mk 1 0 []] ++ []))) (b5.mk 1 0 [])))]))).fst) := (b20 k3 (by with_reducible assumption)); have e2 : ((r7 ars t m pc (vs, bd)).snd : List b6) = ((i8 ars t.els (((b8 ars pc t.value (vs, bd)).fst.fst ++ [i6 pc (D6 ars t vs)]).length : Int) (i6 pc (D6 ars t vs)) (aF4 ars t m pc vs bd)).snd) := (congrArg Prod.snd (bT9 k3 (by with_reducible assumption))); (first | rw [e1, e2] | simp only [e1, e2]) <;> rfl)
  ·
   have q0 : ((d8 (b9 vs ars 5 (m8 t.value))) = false) ∨ (¬ (b9 vs ars 5 (m8 t.value) % 2 = 1)) := (fun hq => Or.imp (fun hq => (hq)) (fun hq => of_decide_eq_false hq) (ca4.1 hq)) (Eq.mp (b95 _) h0); refine rT G _ h0 (wp_seq (k8 G d9 [0, 1, 2, 3, 4, 5, 6, 7, 8, 9, 10, 11, 12, 13, 14, 22] (O8 ars t [.box [.ref 11, .ref 1, .v (.slice none 0 0), .ref 12], .box (sL t 3), P8, .box [iA (b8 ars pc t.value (vs, bd)).snd.kind, iA (b8 ars pc t.value (vs, bd)).snd.value, .ref 13], .row 3 (D.ints (b8 ars pc t.value (vs, bd)).fst.fst), .row 106 (D.stmts (b8 ars pc t.value (vs, bd)).fst.snd), dE (b8 ars pc t.value (vs, bd)).snd.kids, .tree (D.stmts []), .tree (D.stmts [])]) ((2, iA m) :: (R2 ars t pc vs [(10, .ptr 10 0), (11, .tref 14), (12, .tref 15)])) fun G => b7 (wp_seq (k8 G (s6 7 [11, 1, 12, 5] (hI t.body m (i6 pc (b9 vs ars 5 (m8 t.value))) ((b8 ars pc t.value (vs, bd)).fst.fst) ((b8 ars pc t.value (vs, bd)).fst.snd) (by assumption) (by omega) (by omega) (by omega))) [0, 1, 2, 3, 4, 5, 6, 7, 8, 9, 10, 12, 13, 15, 72, 73] (O8 ars t (.box [.ref 14, .ref 1, .v (.slice none 0 0), .ref 11] :: (a79 ars t pc vs bd [.tree (D.stmts []), .row 3 (D.ints (ao3 ars t m pc vs bd).fst), dT (ao3 ars t m pc vs bd).snd]))) ((2, iA m) :: (R2 ars t pc vs [(10, .ptr 10 0), (11, .ref 15), (12, .tref 13)])) fun G => b7 (wp_seq (k8 G (s6 7 [14, 1, 11, 6] (hI t.els m (i6 pc (b9 vs ars 5 (m8 t.value))) ((i8 ars t.body m (i6 pc (b9 vs ars 5 (m8 t.value))) ((b8 ars pc t.value (vs, bd)).fst.fst, [])).fst) ((b8 ars pc t.value (vs, bd)).fst.snd) (by assumption) ((b19 hbb hh k3 hv r1 r2).1) ((b19 hbb hh k3 hv r1 r2).2) (by omega))) [0, 1, 2, 3, 4, 5, 6, 7, 8, 9, 10, 11, 12, 15, 72, 73] (O8 ars t (.box [.ref 14, .ref 1, .v (.slice none 0 0), .ref 11] :: (a79 ars t pc vs bd [dT (ao3 ars t m pc vs bd).snd, .row 3 (D.ints (ao2 ars t m pc vs bd).fst), dT (ao2 ars t m pc vs bd).snd]))) ((2, iA m) :: (R2 ars t pc vs [(10, .ptr 10 0), (11, .ref 13), (12, .ref 15)])) fun G => b7 (wp_seq (O1 G d9 [0, 1, 2, 3, 4, 5, 6, 7, 8, 9, 10, 12, 14, 72] (O8 ars t [.box [.ref 12, .ref 1, .v (.slice none 0 0), .ref 13], .box (sL t 3), P8, .box [iA (b8 ars pc t.value (vs, bd)).snd.kind, iA (b8 ars pc t.value (vs, bd)).snd.value, .ref 11], dE (b8 ars pc t.value (vs, bd)).snd.kids, .row 3 (D.ints (ao2 ars t m pc vs bd).fst), .row 106 (D.stmts ((b8 ars pc t.value (vs, bd)).fst.snd ++ ([b6.mk 3 0 (b5.mk 0 0 []) (aS3 ars t pc vs bd) 0 (ao3 ars t m pc vs bd).snd (ao2 ars t m pc vs bd).snd] ++ [])))]) ((2, iA m) :: (R2 ars t pc vs [(10, .ptr 10 0)])) (aP ((b8 ars pc t.value (vs, bd)).fst.snd.length + 1) 152 []) (aK (by omega) b94) fun G => ?_))))))))
   refine b7 (wp_seq (k8 G d9 (rg 14) (O8 ars t [.box [.ref 12, .ref 1, .v (.slice none 0 0), .ref 13], .box (sL t 3), .box [.ref 12, .ref 1, .v (.slice none 0 0), .ref 13], .box [iA (b8 ars pc t.value (vs, bd)).snd.kind, iA (b8 ars pc t.value (vs, bd)).snd.value, .ref 11], dE (b8 ars pc t.value (vs, bd)).snd.kids, .row 3 (D.ints (ao2 ars t m pc vs bd).fst), .row 106 (D.stmts ((b8 ars pc t.value (vs, bd)).fst.snd ++ ([b6.mk 3 0 (b5.mk 0 0 []) (aS3 ars t pc vs bd) 0 (ao3 ars t m pc vs bd).snd (ao2 ars t m pc vs bd).snd] ++ [])))]) ((2, iA m) :: (R2 ars t pc vs [(10, .ptr 10 0)])) fun G => b7 (wp_ret (l7 ?_)))); exact F2 G [0, 1, 2, 3, 4, 5, 6, 12, 13] (by show _ = mR [0, 1, 2, 3, 4, 5, 6, 12, 13] (O8 ars t [.row 3 (D.ints (r7 ars t m pc (vs, bd)).fst), .row 106 (D.stmts (r7 ars t m pc (vs, bd)).snd)]); have e1 : ((r7 ars t m pc (vs, bd)).fst : List Int) = ((i8 ars t.els m (i6 pc (b9 vs ars 5 (m8 t.value))) ((i8 ars t.body m (i6 pc (b9 vs ars 5 (m8 t.value))) ((b8 ars pc t.value (vs, bd)).fst.fst, [])).fst, [])).fst) := (bP6 k3 (by with_reducible assumption)); have e2 : ((r7 ars t m pc (vs, bd)).snd : List b6) = ((b8 ars pc t.value (vs, bd)).fst.snd ++ ([b6.mk 3 0 (b5.mk 0 0 []) (aS3 ars t pc vs bd) 0 (ao3 ars t m pc vs bd).snd (ao2 ars t m pc vs bd).snd] ++ [])) := (congrArg Prod.snd (bU0 k3 (by with_reducible assumption))); (first | rw [e1, e2] | simp only [e1, e2]) <;> rfl)
abbrev xB (ars : List Int) (m pc : Int) (vs : List Int) (bd : List b6) (ss : List b6) (k : Nat) : U6 := i8 ars (ss.take k) m pc (vs, bd)
theorem bG0 {ss : List b6} {k : Nat} (hk : k < ss.length) : i5 (ss.take k) + (1 + D7 (ss.getD k b85)) ≤ i5 ss := by
 have h1 := x7 (ss.take (k + 1)) (ss.drop (k + 1))
 rw [List.take_append_drop, r9 _ _ hk, x7, ← n6 (d := b85) hk] at h1
 simp only [i5] at h1
 omega
section
variable {ars vs : List Int} {bd : List b6} {m pc : Int} {ss : List b6} {nv d k : Nat}
theorem bW7 (hs : ss.all (f6 nv ars.length d) = true) (hv : nv ≤ vs.length) : GrS (i5 (ss.take k)) (vs, bd) (xB ars m pc vs bd ss k) :=
 ax2 ars (ss.take k) m pc (vs, bd) (b93.2 fun x hx => b93.1 hs x (List.mem_of_mem_take hx)) hv
theorem O3 (hs : ss.all (f6 nv ars.length d) = true) (hv : nv ≤ vs.length) (r1 : vs.length + 4 * i5 ss ≤ 90000) (r2 : i5 bd + 130 * i5 ss ≤ 600000) (hk : k < ss.length) : nv ≤ (xB ars m pc vs bd ss k).1.length ∧ (xB ars m pc vs bd ss k).1.length + 4 * (1 + D7 (ss.getD k b85)) ≤ 90000 ∧ i5 (xB ars m pc vs bd ss k).2 + 130 * (1 + D7 (ss.getD k b85)) ≤ 600000 := by
 have g := bW7 (bd := bd) (m := m) (pc := pc) (k := k) hs hv
 have h1 := bG0 hk
 have a := g.lo; have b := g.hi; have c := g.st
 simp only at a b c
 omega
abbrev yB (ars : List Int) (m pc : Int) (vs : List Int) (bd : List b6) (ss : List b6) (k : Nat) : U6 × b5 := b8 ars pc (ss.getD k b85).value ((xB ars m pc vs bd ss k).1, (xB ars m pc vs bd ss k).2)
theorem aZ4 (hs : ss.all (f6 nv ars.length (d + 1)) = true) (hv : nv ≤ vs.length) (r1 : vs.length + 4 * i5 ss ≤ 90000) (r2 : i5 bd + 130 * i5 ss ≤ 600000) (hk : k < ss.length) (h4 : ¬ (ss.getD k b85).kind = 4) :
  f5 (xB ars m pc vs bd ss k).1.length ars.length 5 (ss.getD k b85).value = true ∧ (xB ars m pc vs bd ss k).1.length + (1 + v7 (ss.getD k b85).value) ≤ 100000 ∧ i5 (xB ars m pc vs bd ss k).2 + 40 * (1 + v7 (ss.getD k b85).value) ≤ 700000 ∧
  nv ≤ (yB ars m pc vs bd ss k).1.1.length ∧ (yB ars m pc vs bd ss k).1.1.length ≤ 100000 ∧ (yB ars m pc vs bd ss k).1.2.length + 10 ≤ 700000 ∧ f5 (yB ars m pc vs bd ss k).1.1.length ars.length 5 (yB ars m pc vs bd ss k).2 = true := by
 have hb := O3 (m := m) (pc := pc) hs hv r1 r2 hk
 have hh := (an1 hs hk).1
 have hsz : D7 (ss.getD k b85) = v7 (ss.getD k b85).index + v7 (ss.getD k b85).value + i5 (ss.getD k b85).body + i5 (ss.getD k b85).els := by
  generalize ss.getD k b85 = s; cases s; rfl
 have hsh := x4 (na := ars.length) hb.1 5 _ (n5 hh h4)
 obtain ⟨g, g2, -⟩ := Y7 ars pc ars.length 5 (ss.getD k b85).value (xB ars m pc vs bd ss k) hsh
 have a : (xB ars m pc vs bd ss k).1.length ≤ (yB ars m pc vs bd ss k).1.1.length := g.lo
 have b : (yB ars m pc vs bd ss k).1.1.length ≤ (xB ars m pc vs bd ss k).1.length + (1 + v7 (ss.getD k b85).value) := g.hi
 have c : i5 (yB ars m pc vs bd ss k).1.2 ≤ i5 (xB ars m pc vs bd ss k).2 + 40 * (1 + v7 (ss.getD k b85).value) := g.st
 have h5 := C3 (yB ars m pc vs bd ss k).1.2
 exact ⟨hsh, by omega, by omega, by omega, by omega, by omega, g2⟩
theorem bs2 (hs : ss.all (f6 nv ars.length (d + 1)) = true) (hk : k < ss.length) (h2 : (ss.getD k b85).kind = 2) {n : Nat} (hn : nv ≤ n) : f5 n ars.length 5 (ss.getD k b85).index = true ∧ v7 (ss.getD k b85).index ≤ 1048576 := by
 obtain ⟨q1, -, q3⟩ := ad6 (an1 hs hk).1 h2
 exact ⟨x4 hn 5 _ q3, by rw [aC2 q1]; omega⟩
theorem as0 (hk : k < ss.length) : xB ars m pc vs bd ss (k + 1) = r7 ars (ss.getD k b85) m pc (xB ars m pc vs bd ss k) := bo8 hk
theorem C4 (s : b6) : i5 s.body ≤ D7 s ∧ i5 s.els ≤ D7 s ∧ v7 s.value ≤ D7 s := by
 cases s; simp only [D7, b6.body, b6.els, b6.value]; omega
abbrev sK (ss : List b6) (k : Nat) : b6 := ss.getD k b85
theorem aE9 (hs : ss.all (f6 nv ars.length (d + 1)) = true) (hk : k < ss.length) (h3 : ¬ (sK ss k).kind = 3) (h4 : ¬ (sK ss k).kind = 4) (h5 : ¬ (sK ss k).kind = 5) (h1 : ¬ (sK ss k).kind = 1) : (sK ss k).kind = 2 := by
 by_cases h2 : (sK ss k).kind = 2
 ·exact h2
 ·have hh := (an1 hs hk).1
  rw [an0 ⟨h1, h2, h3, h4, h5⟩] at hh; cases hh
theorem bX1 (hk : k < ss.length) (h4 : (sK ss k).kind = 4) : xB ars m pc vs bd ss (k + 1) = ((i8 ars (sK ss k).body m pc ((xB ars m pc vs bd ss k).1, [])).1, (xB ars m pc vs bd ss k).2 ++ [⟨4, 0, ⟨0, 0, []⟩, ⟨0, 0, []⟩, (sK ss k).count, (i8 ars (sK ss k).body m pc ((xB ars m pc vs bd ss k).1, [])).2, []⟩]) := (as0 hk).trans (ln4 h4)
theorem bW9 (hk : k < ss.length) (h5 : (sK ss k).kind = 5) : xB ars m pc vs bd ss (k + 1) = ((yB ars m pc vs bd ss k).1.1, (yB ars m pc vs bd ss k).1.2 ++ [⟨5, (sK ss k).target, ⟨0, 0, []⟩, z7 (yB ars m pc vs bd ss k).2, 0, [], []⟩]) := by
 rw [show z7 (yB ars m pc vs bd ss k).2 = (yB ars m pc vs bd ss k).2 from b5.eta _]
 exact (as0 hk).trans (ln5 h5)
theorem bX4 (hk : k < ss.length) (h1 : (sK ss k).kind = 1) : xB ars m pc vs bd ss (k + 1) = ((yB ars m pc vs bd ss k).1.1, (yB ars m pc vs bd ss k).1.2 ++ [J5 (sK ss k).target (z7 (s4 m (z7 (yB ars m pc vs bd ss k).2) ⟨2, (sK ss k).target, []⟩))]) := by
 rw [show z7 (yB ars m pc vs bd ss k).2 = (yB ars m pc vs bd ss k).2 from b5.eta _, show ∀ e, z7 e = e from b5.eta]
 exact (as0 hk).trans (ln1 h1)
theorem bN6 (hk : k < ss.length) (h2 : (sK ss k).kind = 2) (h : (d8 (b9 (yB ars m pc vs bd ss k).1.1 ars 5 (z7 (sK ss k).index)) && decide (b9 (yB ars m pc vs bd ss k).1.1 ars 5 (z7 (sK ss k).index) % 2 = 1)) = false) : xB ars m pc vs bd ss (k + 1) = ((yB ars m pc vs bd ss k).1.1, (yB ars m pc vs bd ss k).1.2 ++ [⟨2, (sK ss k).target, z7 (sK ss k).index, z7 (s4 m (z7 (yB ars m pc vs bd ss k).2) ⟨3, (sK ss k).target, [z7 (sK ss k).index]⟩), 0, [], []⟩]) := by
 simp only [show ∀ e, z7 e = e from b5.eta] at h ⊢
 exact (as0 hk).trans (bo6 h2 h)
theorem bN5 (hk : k < ss.length) (h2 : (sK ss k).kind = 2) (h : (d8 (b9 (yB ars m pc vs bd ss k).1.1 ars 5 (z7 (sK ss k).index)) && decide (b9 (yB ars m pc vs bd ss k).1.1 ars 5 (z7 (sK ss k).index) % 2 = 1)) = true) : xB ars m pc vs bd ss (k + 1) = ((yB ars m pc vs bd ss k).1.1 ++ [i6 (b9 (yB ars m pc vs bd ss k).1.1 ars 5 (z7 (yB ars m pc vs bd ss k).2)) pc], (yB ars m pc vs bd ss k).1.2 ++ [J5 ((yB ars m pc vs bd ss k).1.1.length : Int) (z7 (yB ars m pc vs bd ss k).2)] ++ U9 ((yB ars m pc vs bd ss k).1.1.length : Int) (sK ss k).target (z7 (sK ss k).index) m 4) := by
 simp only [show ∀ e, z7 e = e from b5.eta] at h ⊢
 exact (as0 hk).trans (bz3 h2 h)
theorem bX0 (hk : k < ss.length) (h4 : (sK ss k).kind = 4) : (xB ars m pc vs bd ss (k + 1)).1 = (i8 ars (sK ss k).body m pc ((xB ars m pc vs bd ss k).1, [])).1 := by rw [bX1 hk h4]
theorem bW8 (hk : k < ss.length) (h5 : (sK ss k).kind = 5) : (xB ars m pc vs bd ss (k + 1)).1 = (yB ars m pc vs bd ss k).1.1 := by rw [bW9 hk h5]
theorem bX3 (hk : k < ss.length) (h1 : (sK ss k).kind = 1) : (xB ars m pc vs bd ss (k + 1)).1 = (yB ars m pc vs bd ss k).1.1 := by rw [bX4 hk h1]
theorem bX2 (hk : k < ss.length) (h2 : (sK ss k).kind = 2) (h : (d8 (b9 (yB ars m pc vs bd ss k).1.1 ars 5 (z7 (sK ss k).index)) && decide (b9 (yB ars m pc vs bd ss k).1.1 ars 5 (z7 (sK ss k).index) % 2 = 1)) = false) : (xB ars m pc vs bd ss (k + 1)).1 = (yB ars m pc vs bd ss k).1.1 := by rw [bN6 hk h2 h]
theorem aT0 (hk : ss.length ≤ k) : i8 ars ss m pc (vs, bd) = xB ars m pc vs bd ss k := by unfold xB; rw [ca3 hk]
end
abbrev T5 (ars : List Int) (ss : List b6) (m : Int) (pc : Int) (vs : List Int) (bd : List b6) (k : Nat) := m8 (b8 ars pc (ss.getD k b85).value (xB ars m pc vs bd ss k)).snd
abbrev w8 (ars : List Int) (ss : List b6) (m : Int) (pc : Int) (vs : List Int) (bd : List b6) (k : Nat) := b8 ars pc (ss.getD k b85).value (xB ars m pc vs bd ss k)
abbrev bg0 (ars : List Int) (ss : List b6) (m : Int) (pc : Int) (vs : List Int) (bd : List b6) (k : Nat) := s4 m (T5 ars ss m pc vs bd k) (b5.mk 3 (ss.getD k b85).target [m8 (ss.getD k b85).index])
abbrev ak0 (ss : List b6) (k : Nat) := m8 (ss.getD k b85).index
abbrev L0 : It := .box [.v (.slice none 0 0), .v (.slice none 0 0), .v (.slice none 0 0), .v (.slice none 0 0)]
abbrev ac4 : It := .box [.ref 6, .ref 1, .v (.slice none 0 0), .ref 7]
abbrev H3 (m : Int) (pc : Int) (r0 : List (Nat × AV)) : List (Nat × AV) := (1, .ref 2) :: (2, iA m) :: (3, iA pc) :: (4, .ptr 4 0) :: (8, .ptr 5 0) :: r0
abbrev an7 (ss : List b6) (k : Nat) (r0 : List It) : List It := dE (ss.getD k b85).index.kids :: dE (ss.getD k b85).value.kids :: dT (ss.getD k b85).body :: dT (ss.getD k b85).els :: r0
abbrev aR7 (ars : List Int) (ss : List b6) (m : Int) (pc : Int) (vs : List Int) (bd : List b6) (k : Nat) (r0 : List It) : List It := .dead :: dI ars :: dT ss :: .dead :: ac4 :: L0 :: .row 3 (D.ints (xB ars m pc vs bd ss k).fst) :: .row 106 (D.stmts (xB ars m pc vs bd ss k).snd) :: r0
theorem aP2 (ars : List Int) (nv dd : Nat) (ss : List b6) (hs : ss.all (f6 nv ars.length (dd + 1)) = true)
    (hF : ∀ (t : b6), t.kind = 3 → t7 nv ars.length t = true → t.body.all (f6 nv ars.length dd) = true → t.els.all (f6 nv ars.length dd) = true → 0 < ss.length → ∀ (m pc : Int) (vs : List Int) (bd : List b6), nv ≤ vs.length → vs.length + 4 * (1 + D7 t) ≤ 90000 → i5 bd + 130 * (1 + D7 t) ≤ 600000 → k6.ok Tryz.prog (b04 ars m pc vs bd t))
    (hI : ∀ (tt : List b6) (m pc : Int) (vs : List Int) (bd : List b6), tt.all (f6 nv ars.length dd) = true → 0 < ss.length → nv ≤ vs.length → vs.length + 4 * i5 tt ≤ 90000 → 130 * i5 tt ≤ 600000 → k6.ok Tryz.prog (bI7 ars m pc vs bd tt))
    (m pc : Int) (vs : List Int) (bd : List b6) (hv : nv ≤ vs.length) (r1 : vs.length + 4 * i5 ss ≤ 90000) (r2 : i5 bd + 130 * i5 ss ≤ 600000) : k6.ok Tryz.prog (lbC ars m pc vs bd ss) := by
  have hcp := bK7; refine A2 123 Tryz.func79 [.row 3 (D.ints vs), dI ars, dT ss, .row 106 (D.stmts bd)] [(0, .agg [.ref 0, .ref 1, .v (.slice none 0 0), .ref 3]), (1, .ref 2), (2, iA m), (3, iA pc)] fun G => ?_; have hl := C3 ss; refine wp_seq (k8 G d9 [0, 1, 2, 3, 4, 12] [.row 3 (D.ints vs), dI ars, dT ss, .row 106 (D.stmts bd), .box [.ref 0, .ref 1, .v (.slice none 0 0), .ref 3], L0] (H3 m pc []) fun G => b7 (wp_seq (wp_seq (C9 G d9 (H3 m pc [(9, iA 0)]) fun G => b7 (wp_block ?_))))); obtain ⟨ρ, G⟩ := G.shift 0 6 [.dead, dI ars, dT ss, .row 106 (D.stmts bd), .box [.ref 6, .ref 1, .v (.slice none 0 0), .ref 3], .box [.v (.slice none 0 0), .v (.slice none 0 0), .v (.slice none 0 0), .v (.slice none 0 0)], .row 3 (D.ints vs)] (H3 m pc [(9, iA 0)]); obtain ⟨ρ, G⟩ := G.shift 3 7 [.dead, dI ars, dT ss, .dead, .box [.ref 6, .ref 1, .v (.slice none 0 0), .ref 7], .box [.v (.slice none 0 0), .v (.slice none 0 0), .v (.slice none 0 0), .v (.slice none 0 0)], .row 3 (D.ints vs), .row 106 (D.stmts bd)] (H3 m pc [(9, iA 0)]); refine o9 (κ := Nat) (fun k => k ≤ ss.length) (fun k => ss.length - k) (fun k => [.dead, dI ars, dT ss, .dead, .box [.ref 6, .ref 1, .v (.slice none 0 0), .ref 7], .box [.v (.slice none 0 0), .v (.slice none 0 0), .v (.slice none 0 0), .v (.slice none 0 0)], .row 3 (.ints (xB ars m pc vs bd ss k).1), .row 106 (.stmts (xB ars m pc vs bd ss k).2)]) (fun k => [(1, .ref 2), (2, iA m), (3, iA pc), (4, .ptr 4 0), (8, .ptr 5 0), (9, iA k)]) 0 (by simp [hs]) (s5.at G _ _) ?_; clear G; intro k ρ a w hp G; replace G := s5.at G (aR7 ars ss m pc vs bd k []) (H3 m pc [(9, iA k)]); refine wp_seq (wp_seq (l5 G d9 [(16, bA (decide ((k : Int) < ss.length)))] fun G => b7 (O0 G (fun h0 q0 => ?_) fun h0 q0 => ?_)))
  · refine wp_exit (o5 (o5 (n9 (b7 (wp_seq (k8 G d9 [0, 1, 2, 3, 5, 6, 7] [.dead, dI ars, dT ss, .dead, .box [.ref 5, .ref 1, .v (.slice none 0 0), .ref 6], .row 3 (D.ints (xB ars m pc vs bd ss k).fst), .row 106 (D.stmts (xB ars m pc vs bd ss k).snd)] [(8, .ptr 4 0)] fun G => b7 (wp_ret ?_))))))); exact F2 G [0, 1, 2, 3, 5, 6] (by show _ = mR [0, 1, 2, 3, 5, 6] [.dead, dI ars, dT ss, .dead, .row 3 (D.ints (i8 ars ss m pc (vs, bd)).fst), .row 106 (D.stmts (i8 ars ss m pc (vs, bd)).snd)]; have e1 : ((i8 ars ss m pc (vs, bd)).fst : List Int) = ((xB ars m pc vs bd ss k).fst) := (congrArg Prod.fst (aT0 (by omega))); have e2 : ((i8 ars ss m pc (vs, bd)).snd : List b6) = ((xB ars m pc vs bd ss k).snd) := (congrArg Prod.snd (aT0 (by omega))); (first | rw [e1, e2] | simp only [e1, e2]) <;> rfl)
  ·
   refine wp_skip (b7 (wp_seq (wp_block (wp_seq (O1 G d9 [0, 1, 2, 3, 4, 5, 6, 7, 32, 33, 34, 35, 40] (aR7 ars ss m pc vs bd k (an7 ss k [.box (sL (ss.getD k b85) 8)])) (H3 m pc [(9, iA k), (10, .ptr 12 0)]) (iX k k ss.length []) (iK (by have h9 := O3 (m := m) (pc := pc) hs hv r1 r2 (show k < ss.length by omega); have h8 := C4 (ss.getD k b85); omega) b94) fun G => b7 (wp_seq (wp_seq (l5 G d9 [(25, bA ((ss.getD k b85).kind == 3))] fun G => b7 (P9 G (fun h1 q1 => ?_) fun h1 q1 => ?_)))))))))
   ·
    refine wp_skip (b7 (wp_seq (wp_seq (l5 G d9 [(33, bA ((ss.getD k b85).kind == 4))] fun G => b7 (P9 G (fun h2 q2 => ?_) fun h2 q2 => ?_)))))
    ·
     refine wp_skip (b7 (wp_seq (k8 G d9 [0, 1, 2, 3, 4, 5, 6, 7, 8, 9, 10, 11, 12, 21] (aR7 ars ss m pc vs bd k (an7 ss k [.box (sL (ss.getD k b85) 8), .box [iA 0, iA 0, .v (.slice none 0 0)]])) (H3 m pc [(9, iA k), (10, .ptr 12 0), (12, .ptr 13 0)]) fun G => b7 (wp_seq (k8 G (s6 4 [6, 1, 7, 9] (a60 ars pc ((ss.getD k b85).value) ((xB ars m pc vs bd ss k).fst) ((xB ars m pc vs bd ss k).snd) ((aZ4 hs hv r1 r2 (by omega) (by omega)).1) (by have h9 := O3 (m := m) (pc := pc) hs hv r1 r2 (show k < ss.length by omega); have h8 := C4 (ss.getD k b85); omega) (by have h9 := O3 (m := m) (pc := pc) hs hv r1 r2 (show k < ss.length by omega); have h8 := C4 (ss.getD k b85); omega))) [0, 1, 2, 3, 4, 5, 8, 9, 10, 11, 12, 13, 46, 47, 48] (.dead :: dI ars :: dT ss :: .dead :: .box [.ref 12, .ref 1, .v (.slice none 0 0), .ref 13] :: L0 :: (an7 ss k [.box (sL (ss.getD k b85) 6), .box (eL (w8 ars ss m pc vs bd k).snd 14), .row 3 (D.ints (w8 ars ss m pc vs bd k).fst.fst), .row 106 (D.stmts (w8 ars ss m pc vs bd k).fst.snd), dE (w8 ars ss m pc vs bd k).snd.kids])) (H3 m pc [(9, iA k), (10, .ptr 10 0), (12, .ptr 11 0)]) fun G => b7 (wp_block (wp_seq (l5 G d9 [(82, bA ((ss.getD k b85).kind == 5))] fun G => b7 (P9 G (fun h3 q3 => ?_) fun h3 q3 => ?_)))))))))
     ·
      refine wp_seq (l5 G d9 [(95, bA ((ss.getD k b85).kind == 1))] fun G => b7 (P9 G (fun h4 q4 => ?_) fun h4 q4 => ?_))
      ·
       refine wp_seq (l5 G (t6 (l8 4 [12, 1, 6] (k6.lend (X3 ((b8 ars pc (ss.getD k b85).value (xB ars m pc vs bd ss k)).fst.fst) ars ((ss.getD k b85).index.kind) ((ss.getD k b85).index.value) ((ss.getD k b85).index.kids) (by rw [b5.eta]; exact (bs2 hs (by omega) (aE9 hs (by omega) (by omega) (by omega) (by omega) (by omega)) (aZ4 hs hv r1 r2 (by omega) (by omega)).2.2.2.1).1)) [.row 3]) (l8 5 [] (H2 (b9 (b8 ars pc (ss.getD k b85).value (xB ars m pc vs bd ss k)).fst.fst ars 5 (m8 (ss.getD k b85).index))) t5)) fz []) [(109, bA (d8 (b9 (w8 ars ss m pc vs bd k).fst.fst ars 5 (ak0 ss k)) && decide (b9 (w8 ars ss m pc vs bd k).fst.fst ars 5 (ak0 ss k) % 2 = 1)))] fun G => b7 ?_); cases h5 : (d8 (b9 (b8 ars pc (ss.getD k b85).value (xB ars m pc vs bd ss k)).fst.fst ars (5 : Nat) (m8 (ss.getD k b85).index)) && decide (b9 (b8 ars pc (ss.getD k b85).value (xB ars m pc vs bd ss k)).fst.fst ars (5 : Nat) (m8 (ss.getD k b85).index) % (2 : Int) = 1))
       ·
        have q5 : ((d8 (b9 (b8 ars pc (ss.getD k b85).value (xB ars m pc vs bd ss k)).fst.fst ars 5 (m8 (ss.getD k b85).index))) = false) ∨ (¬ (b9 (b8 ars pc (ss.getD k b85).value (xB ars m pc vs bd ss k)).fst.fst ars 5 (m8 (ss.getD k b85).index) % 2 = 1)) := Or.imp (fun hq => (hq)) (fun hq => of_decide_eq_false hq) (ca4.1 h5); refine rF G _ h5 (G2 G (t6 (l8 6 [6] (hcp ((ss.getD k b85).index) ((bs2 hs (by omega) (aE9 hs (by omega) (by omega) (by omega) (by omega) (by omega)) (b99 _)).2)) (l8 13 [6] (hcp ((ss.getD k b85).index) ((bs2 hs (by omega) (aE9 hs (by omega) (by omega) (by omega) (by omega) (by omega)) (b99 _)).2)) (l8 14 [119] (au9 ((ss.getD k b85).target) ((ss.getD k b85).index.kind) ((ss.getD k b85).index.value) ((ss.getD k b85).index.kids)) (l8 15 [14, 127] (aj3 m ((b8 ars pc (ss.getD k b85).value (xB ars m pc vs bd ss k)).snd.kind) ((b8 ars pc (ss.getD k b85).value (xB ars m pc vs bd ss k)).snd.value) 3 ((ss.getD k b85).target) ((b8 ars pc (ss.getD k b85).value (xB ars m pc vs bd ss k)).snd.kids) ([m8 (ss.getD k b85).index])) t5)))) fz []) [0, 1, 0, 4, 0, 16, 48, 0, 0, 0, 512, 0, 2048, 6256, 15984, 32752, 65532, 131068, 262143, 524287, 1048575] [0, 1, 2, 3, 4, 5, 12, 159] [.dead, dI ars, dT ss, .dead, ac4, L0, .row 3 (D.ints (w8 ars ss m pc vs bd k).fst.fst), .row 106 (D.stmts ((w8 ars ss m pc vs bd k).fst.snd ++ ([b6.mk 2 (ss.getD k b85).target (ak0 ss k) (m8 (bg0 ars ss m pc vs bd k)) 0 [] []] ++ [])))] (H3 m pc [(9, iA k)]) (aP ((b8 ars pc (ss.getD k b85).value (xB ars m pc vs bd ss k)).fst.snd.length + ([b6.mk (2 : Int) (ss.getD k b85).target (m8 (ss.getD k b85).index) (m8 (s4 m (b5.mk (b8 ars pc (ss.getD k b85).value (xB ars m pc vs bd ss k)).snd.kind (b8 ars pc (ss.getD k b85).value (xB ars m pc vs bd ss k)).snd.value (b8 ars pc (ss.getD k b85).value (xB ars m pc vs bd ss k)).snd.kids) (b5.mk (3 : Int) (ss.getD k b85).target [b5.mk (ss.getD k b85).index.kind (ss.getD k b85).index.value (ss.getD k b85).index.kids]))) (0 : Int) [] []] ++ []).length) 152 []) (aK (by have h9 : (b8 ars pc (ss.getD k b85).value ((xB ars m pc vs bd ss k).1, (xB ars m pc vs bd ss k).2)).1.2.length + 10 ≤ 700000 := (aZ4 (m := m) (pc := pc) hs hv r1 r2 (show k < ss.length by omega) (by omega)).2.2.2.2.2.1; have h7 : (b8 ars pc (ss.getD k b85).value (xB ars m pc vs bd ss k)).1.2.length + 10 ≤ 700000 := h9; simp only [b88, b87, b89]; omega) b94) fun G => ?_)
        refine m6 (m6 (b7 (E2 G d9 [(9, iA ((k : Int) + 1))] [wO ((k : Int) + 1)] (o1 (by omega)) fun G => b7 ?_))); exact M8 G (k + 1) (by have h9 := O3 (m := m) (pc := pc) hs hv r1 r2 (show k < ss.length by omega); have h8 := C4 (ss.getD k b85); omega) (by have h9 := O3 (m := m) (pc := pc) hs hv r1 r2 (show k < ss.length by omega); have h8 := C4 (ss.getD k b85); omega) (rg 8) (by have e1 : ((xB ars m pc vs bd ss (k + 1)).fst : List Int) = ((b8 ars pc (ss.getD k b85).value (xB ars m pc vs bd ss k)).fst.fst) := (bX2 (by omega) (aE9 hs (by omega) (by omega) (by omega) (by omega) (by omega)) (by with_reducible assumption)); have e2 : ((xB ars m pc vs bd ss (k + 1)).snd : List b6) = ((w8 ars ss m pc vs bd k).fst.snd ++ ([b6.mk 2 (ss.getD k b85).target (ak0 ss k) (m8 (bg0 ars ss m pc vs bd k)) 0 [] []] ++ [])) := (congrArg Prod.snd (bN6 (by omega) (aE9 hs (by omega) (by omega) (by omega) (by omega) (by omega)) (by with_reducible assumption))); (first | rw [e1, e2] | simp only [e1, e2]) <;> rfl)
       · have q5 : ((d8 (b9 (b8 ars pc (ss.getD k b85).value (xB ars m pc vs bd ss k)).fst.fst ars 5 (m8 (ss.getD k b85).index))) = true) ∧ (b9 (b8 ars pc (ss.getD k b85).value (xB ars m pc vs bd ss k)).fst.fst ars 5 (m8 (ss.getD k b85).index) % 2 = 1) := And.imp (fun hq => (hq)) (fun hq => of_decide_eq_true hq) (ca6.1 h5); refine rT G _ h5 (k8 G (s6 5 [12, 1, 13, 6, 7, 8, 9, 14] (bq3 ars ((b8 ars pc (ss.getD k b85).value (xB ars m pc vs bd ss k)).fst.fst) ((b8 ars pc (ss.getD k b85).value (xB ars m pc vs bd ss k)).fst.snd) m pc (ss.getD k b85) ((b8 ars pc (ss.getD k b85).value (xB ars m pc vs bd ss k)).snd) (by rw [b5.eta]; exact (aZ4 hs hv r1 r2 (by omega) (by omega)).2.2.2.2.2.2) ((aZ4 hs hv r1 r2 (by omega) (by omega)).2.2.2.2.1) (by have h9 : (b8 ars pc (ss.getD k b85).value ((xB ars m pc vs bd ss k).1, (xB ars m pc vs bd ss k).2)).1.2.length + 10 ≤ 700000 := (aZ4 (m := m) (pc := pc) hs hv r1 r2 (show k < ss.length by omega) (by omega)).2.2.2.2.2.1; have h7 : (b8 ars pc (ss.getD k b85).value (xB ars m pc vs bd ss k)).1.2.length + 10 ≤ 700000 := h9; omega))) [0, 1, 2, 3, 4, 5, 55, 56] [.dead, dI ars, dT ss, .dead, ac4, L0, .row 3 (D.ints ((w8 ars ss m pc vs bd k).fst.fst ++ [i6 (b9 (w8 ars ss m pc vs bd k).fst.fst ars 5 (T5 ars ss m pc vs bd k)) pc])), .row 106 (D.stmts ((w8 ars ss m pc vs bd k).fst.snd ++ [J5 ((w8 ars ss m pc vs bd k).fst.fst.length : Int) (T5 ars ss m pc vs bd k)] ++ U9 ((w8 ars ss m pc vs bd k).fst.fst.length : Int) (ss.getD k b85).target (ak0 ss k) m 4))] (H3 m pc [(9, iA k)]) fun G => m6 (m6 (b7 (E2 G d9 [(9, iA ((k : Int) + 1))] [wO ((k : Int) + 1)] (o1 (by omega)) fun G => b7 ?_)))); exact M8 G (k + 1) (by have h9 := O3 (m := m) (pc := pc) hs hv r1 r2 (show k < ss.length by omega); have h8 := C4 (ss.getD k b85); omega) (by have h9 := O3 (m := m) (pc := pc) hs hv r1 r2 (show k < ss.length by omega); have h8 := C4 (ss.getD k b85); omega) (rg 8) (by have e1 : ((xB ars m pc vs bd ss (k + 1)).fst : List Int) = ((w8 ars ss m pc vs bd k).fst.fst ++ [i6 (b9 (w8 ars ss m pc vs bd k).fst.fst ars 5 (T5 ars ss m pc vs bd k)) pc]) := (congrArg Prod.fst (bN5 (by omega) (aE9 hs (by omega) (by omega) (by omega) (by omega) (by omega)) (by with_reducible assumption))); have e2 : ((xB ars m pc vs bd ss (k + 1)).snd : List b6) = ((w8 ars ss m pc vs bd k).fst.snd ++ [J5 ((w8 ars ss m pc vs bd k).fst.fst.length : Int) (T5 ars ss m pc vs bd k)] ++ U9 ((w8 ars ss m pc vs bd k).fst.fst.length : Int) (ss.getD k b85).target (ak0 ss k) m 4) := (congrArg Prod.snd (bN5 (by omega) (aE9 hs (by omega) (by omega) (by omega) (by omega) (by omega)) (by with_reducible assumption))); (first | rw [e1, e2] | simp only [e1, e2]) <;> rfl)
      · refine P1 G (t6 (l8 7 [] (al7 ((ss.getD k b85).target)) (l8 8 [14, 71] (aj3 m ((b8 ars pc (ss.getD k b85).value (xB ars m pc vs bd ss k)).snd.kind) ((b8 ars pc (ss.getD k b85).value (xB ars m pc vs bd ss k)).snd.value) 2 ((ss.getD k b85).target) ((b8 ars pc (ss.getD k b85).value (xB ars m pc vs bd ss k)).snd.kids) ([])) (l8 9 [12, 1, 13, 79] (P6 ((b8 ars pc (ss.getD k b85).value (xB ars m pc vs bd ss k)).fst.fst) ars ((b8 ars pc (ss.getD k b85).value (xB ars m pc vs bd ss k)).fst.snd) ((ss.getD k b85).target) ((s4 m (m8 (b8 ars pc (ss.getD k b85).value (xB ars m pc vs bd ss k)).snd) (b5.mk 2 (ss.getD k b85).target [])).kind) ((s4 m (m8 (b8 ars pc (ss.getD k b85).value (xB ars m pc vs bd ss k)).snd) (b5.mk 2 (ss.getD k b85).target [])).value) ((s4 m (m8 (b8 ars pc (ss.getD k b85).value (xB ars m pc vs bd ss k)).snd) (b5.mk 2 (ss.getD k b85).target [])).kids) (by have h9 : (b8 ars pc (ss.getD k b85).value ((xB ars m pc vs bd ss k).1, (xB ars m pc vs bd ss k).2)).1.2.length + 10 ≤ 700000 := (aZ4 (m := m) (pc := pc) hs hv r1 r2 (show k < ss.length by omega) (by omega)).2.2.2.2.2.1; have h7 : (b8 ars pc (ss.getD k b85).value (xB ars m pc vs bd ss k)).1.2.length + 10 ≤ 700000 := h9; omega)) t5))) fz []) [0, 0, 2, 0, 0, 0, 32, 96, 248, 511, 1023] [0, 1, 2, 3, 4, 5, 12, 87] [.dead, dI ars, dT ss, .dead, ac4, L0, .row 3 (D.ints (w8 ars ss m pc vs bd k).fst.fst), .row 106 (D.stmts ((w8 ars ss m pc vs bd k).fst.snd ++ [J5 (ss.getD k b85).target (m8 (s4 m (T5 ars ss m pc vs bd k) (b5.mk 2 (ss.getD k b85).target [])))]))] (H3 m pc [(9, iA k)]) fun G => m6 (m6 (b7 (E2 G d9 [(9, iA ((k : Int) + 1))] [wO ((k : Int) + 1)] (o1 (by omega)) fun G => b7 ?_))); exact M8 G (k + 1) (by have h9 := O3 (m := m) (pc := pc) hs hv r1 r2 (show k < ss.length by omega); have h8 := C4 (ss.getD k b85); omega) (by have h9 := O3 (m := m) (pc := pc) hs hv r1 r2 (show k < ss.length by omega); have h8 := C4 (ss.getD k b85); omega) (rg 8) (by have e1 : ((xB ars m pc vs bd ss (k + 1)).fst : List Int) = ((b8 ars pc (ss.getD k b85).value (xB ars m pc vs bd ss k)).fst.fst) := (bX3 (by omega) (by omega)); have e2 : ((xB ars m pc vs bd ss (k + 1)).snd : List b6) = ((w8 ars ss m pc vs bd k).fst.snd ++ [J5 (ss.getD k b85).target (m8 (s4 m (T5 ars ss m pc vs bd k) (b5.mk 2 (ss.getD k b85).target [])))]) := (congrArg Prod.snd (bX4 (by omega) (by omega))); (first | rw [e1, e2] | simp only [e1, e2]) <;> rfl)
     · refine O1 G d9 [0, 1, 2, 3, 4, 5, 12, 71] [.dead, dI ars, dT ss, .dead, ac4, L0, .row 3 (D.ints (w8 ars ss m pc vs bd k).fst.fst), .row 106 (D.stmts ((w8 ars ss m pc vs bd k).fst.snd ++ ([b6.mk 5 (ss.getD k b85).target (b5.mk 0 0 []) (T5 ars ss m pc vs bd k) 0 [] []] ++ [])))] (H3 m pc [(9, iA k)]) (aP ((b8 ars pc (ss.getD k b85).value (xB ars m pc vs bd ss k)).fst.snd.length + ([b6.mk (5 : Int) (ss.getD k b85).target (b5.mk (0 : Int) (0 : Int) []) (m8 (b8 ars pc (ss.getD k b85).value (xB ars m pc vs bd ss k)).snd) (0 : Int) [] []] ++ []).length) 152 []) (aK (by have h9 : (b8 ars pc (ss.getD k b85).value ((xB ars m pc vs bd ss k).1, (xB ars m pc vs bd ss k).2)).1.2.length + 10 ≤ 700000 := (aZ4 (m := m) (pc := pc) hs hv r1 r2 (show k < ss.length by omega) (by omega)).2.2.2.2.2.1; have h7 : (b8 ars pc (ss.getD k b85).value (xB ars m pc vs bd ss k)).1.2.length + 10 ≤ 700000 := h9; simp only [b88, b87, b89]; omega) b94) fun G => m6 (m6 (b7 (E2 G d9 [(9, iA ((k : Int) + 1))] [wO ((k : Int) + 1)] (o1 (by omega)) fun G => b7 ?_))); exact M8 G (k + 1) (by have h9 := O3 (m := m) (pc := pc) hs hv r1 r2 (show k < ss.length by omega); have h8 := C4 (ss.getD k b85); omega) (by have h9 := O3 (m := m) (pc := pc) hs hv r1 r2 (show k < ss.length by omega); have h8 := C4 (ss.getD k b85); omega) (rg 8) (by have e1 : ((xB ars m pc vs bd ss (k + 1)).fst : List Int) = ((b8 ars pc (ss.getD k b85).value (xB ars m pc vs bd ss k)).fst.fst) := (bW8 (by omega) (by omega)); have e2 : ((xB ars m pc vs bd ss (k + 1)).snd : List b6) = ((w8 ars ss m pc vs bd k).fst.snd ++ ([b6.mk 5 (ss.getD k b85).target (b5.mk 0 0 []) (T5 ars ss m pc vs bd k) 0 [] []] ++ [])) := (congrArg Prod.snd (bW9 (by omega) (by omega))); (first | rw [e1, e2] | simp only [e1, e2]) <;> rfl)
    ·
     refine wp_seq (k8 G d9 (rg 14) (aR7 ars ss m pc vs bd k (an7 ss k [.box (sL (ss.getD k b85) 8), .tree (D.stmts [])])) (H3 m pc [(9, iA k), (10, .ptr 12 0), (11, .tref 13)]) fun G => b7 (wp_seq (k8 G (s6 5 [6, 1, 7, 10] (hI ((ss.getD k b85).body) m pc ((xB ars m pc vs bd ss k).fst) ((xB ars m pc vs bd ss k).snd) ((an1 hs (by omega)).2.1) (by have h9 := O3 (m := m) (pc := pc) hs hv r1 r2 (show k < ss.length by omega); have h8 := C4 (ss.getD k b85); omega) (by have h9 := O3 (m := m) (pc := pc) hs hv r1 r2 (show k < ss.length by omega); have h8 := C4 (ss.getD k b85); omega) (by have h9 := O3 (m := m) (pc := pc) hs hv r1 r2 (show k < ss.length by omega); have h8 := C4 (ss.getD k b85); omega) (by have h9 := O3 (m := m) (pc := pc) hs hv r1 r2 (show k < ss.length by omega); have h8 := C4 (ss.getD k b85); omega))) [0, 1, 2, 3, 4, 5, 7, 8, 9, 10, 11, 12, 54, 55] (.dead :: dI ars :: dT ss :: .dead :: .box [.ref 12, .ref 1, .v (.slice none 0 0), .ref 6] :: L0 :: .row 106 (D.stmts (xB ars m pc vs bd ss k).snd) :: (an7 ss k [.box (sL (ss.getD k b85) 7), .row 3 (D.ints (i8 ars (ss.getD k b85).body m pc ((xB ars m pc vs bd ss k).fst, [])).fst), dT (i8 ars (ss.getD k b85).body m pc ((xB ars m pc vs bd ss k).fst, [])).snd])) (H3 m pc [(9, iA k), (10, .ptr 11 0), (11, .ref 13)]) fun G => b7 (wp_seq (O1 G d9 [0, 1, 2, 3, 4, 5, 7, 8, 9, 10, 11, 12, 70] (.dead :: dI ars :: dT ss :: .dead :: .box [.ref 11, .ref 1, .v (.slice none 0 0), .ref 12] :: L0 :: (an7 ss k [.box (sL (ss.getD k b85) 6), .row 3 (D.ints (i8 ars (ss.getD k b85).body m pc ((xB ars m pc vs bd ss k).fst, [])).fst), .row 106 (D.stmts ((xB ars m pc vs bd ss k).snd ++ ([b6.mk 4 0 (b5.mk 0 0 []) (b5.mk 0 0 []) (ss.getD k b85).count (i8 ars (ss.getD k b85).body m pc ((xB ars m pc vs bd ss k).fst, [])).snd []] ++ [])))])) (H3 m pc [(9, iA k), (10, .ptr 10 0)]) (aP ((xB ars m pc vs bd ss k).snd.length + ([b6.mk (4 : Int) (0 : Int) (b5.mk (0 : Int) (0 : Int) []) (b5.mk (0 : Int) (0 : Int) []) (ss.getD k b85).count (i8 ars (ss.getD k b85).body m pc ((xB ars m pc vs bd ss k).fst, [])).snd []] ++ []).length) 152 []) (aK (by have h9 := O3 (m := m) (pc := pc) hs hv r1 r2 (show k < ss.length by omega); have h8 := C3 (xB ars m pc vs bd ss k).2; simp only [b88, b87, b89]; omega) b94) fun G => ?_)))))
     refine b7 (wp_exit (o5 (n9 (b7 (O1 G d9 [0, 1, 2, 3, 4, 5, 11, 12] [.dead, dI ars, dT ss, .dead, ac4, L0, .row 3 (D.ints (i8 ars (ss.getD k b85).body m pc ((xB ars m pc vs bd ss k).fst, [])).fst), .row 106 (D.stmts ((xB ars m pc vs bd ss k).snd ++ ([b6.mk 4 0 (b5.mk 0 0 []) (b5.mk 0 0 []) (ss.getD k b85).count (i8 ars (ss.getD k b85).body m pc ((xB ars m pc vs bd ss k).fst, [])).snd []] ++ [])))] (H3 m pc [(9, iA ((k : Int) + 1))]) [wO ((k : Int) + 1)] (o1 (by omega)) fun G => b7 ?_))))); exact M8 G (k + 1) (by have h9 := O3 (m := m) (pc := pc) hs hv r1 r2 (show k < ss.length by omega); have h8 := C4 (ss.getD k b85); omega) (by have h9 := O3 (m := m) (pc := pc) hs hv r1 r2 (show k < ss.length by omega); have h8 := C4 (ss.getD k b85); omega) (rg 8) (by have e1 : ((xB ars m pc vs bd ss (k + 1)).fst : List Int) = ((i8 ars (ss.getD k b85).body m pc ((xB ars m pc vs bd ss k).fst, [])).fst) := (bX0 (by omega) (by omega)); have e2 : ((xB ars m pc vs bd ss (k + 1)).snd : List b6) = ((xB ars m pc vs bd ss k).snd ++ ([b6.mk 4 0 (b5.mk 0 0 []) (b5.mk 0 0 []) (ss.getD k b85).count (i8 ars (ss.getD k b85).body m pc ((xB ars m pc vs bd ss k).fst, [])).snd []] ++ [])) := (congrArg Prod.snd (bX1 (by omega) (by omega))); (first | rw [e1, e2] | simp only [e1, e2]) <;> rfl)
   · refine wp_seq (k8 G (s6 4 [6, 1, 7, 8, 9, 10, 11] (hF (ss.getD k b85) (by assumption) ((an1 hs (by omega)).1) ((an1 hs (by omega)).2.1) ((an1 hs (by omega)).2.2) (by have h9 := O3 (m := m) (pc := pc) hs hv r1 r2 (show k < ss.length by omega); have h8 := C4 (ss.getD k b85); omega) m pc ((xB ars m pc vs bd ss k).fst) ((xB ars m pc vs bd ss k).snd) (by have h9 := O3 (m := m) (pc := pc) hs hv r1 r2 (show k < ss.length by omega); have h8 := C4 (ss.getD k b85); omega) (by have h9 := O3 (m := m) (pc := pc) hs hv r1 r2 (show k < ss.length by omega); have h8 := C4 (ss.getD k b85); omega) (by have h9 := O3 (m := m) (pc := pc) hs hv r1 r2 (show k < ss.length by omega); have h8 := C4 (ss.getD k b85); omega))) [0, 1, 2, 3, 4, 5, 8, 9, 10, 11, 12, 45, 46] (.dead :: dI ars :: dT ss :: .dead :: .box [.ref 11, .ref 1, .v (.slice none 0 0), .ref 12] :: L0 :: (an7 ss k [.box (sL (ss.getD k b85) 6), .row 3 (D.ints (r7 ars (ss.getD k b85) m pc (xB ars m pc vs bd ss k)).fst), .row 106 (D.stmts (r7 ars (ss.getD k b85) m pc (xB ars m pc vs bd ss k)).snd)])) (H3 m pc [(9, iA k), (10, .ptr 10 0)]) fun G => b7 (wp_exit (o5 (n9 (b7 (O1 G d9 [0, 1, 2, 3, 4, 5, 11, 12] [.dead, dI ars, dT ss, .dead, ac4, L0, .row 3 (D.ints (r7 ars (ss.getD k b85) m pc (xB ars m pc vs bd ss k)).fst), .row 106 (D.stmts (r7 ars (ss.getD k b85) m pc (xB ars m pc vs bd ss k)).snd)] (H3 m pc [(9, iA ((k : Int) + 1))]) [wO ((k : Int) + 1)] (o1 (by omega)) fun G => b7 ?_)))))); exact M8 G (k + 1) (by have h9 := O3 (m := m) (pc := pc) hs hv r1 r2 (show k < ss.length by omega); have h8 := C4 (ss.getD k b85); omega) (by have h9 := O3 (m := m) (pc := pc) hs hv r1 r2 (show k < ss.length by omega); have h8 := C4 (ss.getD k b85); omega) (rg 8) (by have e1 : ((xB ars m pc vs bd ss (k + 1)).fst : List Int) = ((r7 ars (ss.getD k b85) m pc (xB ars m pc vs bd ss k)).fst) := (congrArg Prod.fst (as0 (by omega))); have e2 : ((xB ars m pc vs bd ss (k + 1)).snd : List b6) = ((r7 ars (ss.getD k b85) m pc (xB ars m pc vs bd ss k)).snd) := (congrArg Prod.snd (as0 (by omega))); (first | rw [e1, e2] | simp only [e1, e2]) <;> rfl)
end Go.Proofs.YthikdkjjdeehoaaGreat
