/- Part 6: functions on the way, plain laws. Conditions: as said. -/
import Derived.Test.YthikdkjjdeehoaaGreatK4
import Derived.Test.YthikdkjjdeehoaaGreatK5
set_option maxRecDepth 100000
set_option maxHeartbeats 16000000
set_option linter.unusedVariables false
set_option linter.unusedSimpArgs false
open Bool renaming and_eq_true → cg5, not_eq_false' → cj0, not_eq_true' → ci3, or_eq_true → ck6
open Inhabited renaming default → cg3
open List renaming all_eq_true → ch3, append_assoc → cl1, eq_nil_of_length_eq_zero → ci2, getD_eq_getElem?_getD → cg7, getElem?_append_left → ci0, getElem?_append_right → cj7, getElem?_eq_getElem → cg6, getElem?_eq_none → ci9, getElem?_eq_some_iff → ch7, getElem_mem → ci6, length_append → cg9, length_cons → ch2, length_nil → ch6, length_replicate → ci5, length_set → cj1, mem_cons → ck2, mem_cons_of_mem → ck1, mem_cons_self → ck3, mem_range → ck9, mem_singleton → cj3, replicate → cg4, take → ch1, take_of_length_le → ch9
open Nat renaming le_refl → ch0, le_trans → cj4, lt_or_ge → ci7, zero_add → ck8, zero_le → ck4
open True renaming intro → ch8

namespace Go.Proofs.YthikdkjjdeehoaaGreat
open Go Go.RowKit
abbrev nnE : c6 := ⟨0, 0, []⟩
abbrev cnE (n : Int) : c6 := ⟨1, n, []⟩
abbrev vrE (v : Int) : c6 := ⟨2, v, []⟩
abbrev rdE (a : Int) (i : c6) : c6 := ⟨3, a, [i]⟩
abbrev ag1 (i : c6) (k : Int) : c6 := ⟨9, 0, [⟨7, 0, [i, cnE 3]⟩, cnE k]⟩
abbrev seE (a b c : c6) : c6 := ⟨11, 0, [a, b, c]⟩
abbrev V5 (v : Int) (e : c6) : c5 := ⟨1, v, nnE, e, 0, [], []⟩
def C1 (m : Int) (e f : c6) : c6 := if m < 0 then e else seE (vrE m) e f
def rdL (v a : Int) (i : c6) : Nat → List c5
 | 0 => [V5 v (rdE a (cnE 0))]
 | k + 1 => rdL v a i k ++ [V5 v (seE (ag1 i ((k : Int) + 1)) (rdE a (cnE ((k : Int) + 1))) (vrE v))]
def stL (v t : Int) (i : c6) (m : Int) : Nat → List c5
 | 0 => []
 | k + 1 => stL v t i m k ++ [⟨2, t, cnE (k : Int), seE (C1 m (ag1 i (k : Int)) (cnE 0)) (vrE v) (rdE t (cnE (k : Int))), 0, [], []⟩]
abbrev LnS : Type := List Int × List c5
mutual
def d9 (ars : List Int) (pc : Int) : c6 → LnS → LnS × c6
 | ⟨k, v, ks⟩, s =>
  if k = 3 ∧ ab5 (i9 (x6 ars pc ks s).1.1 ars 5 (ks.getD 0 cg3)) = true then
   (((x6 ars pc ks s).1.1 ++ [l4 (i9 (x6 ars pc ks s).1.1 ars 5 ⟨k, v, ks⟩) pc], (x6 ars pc ks s).1.2 ++ rdL ((x6 ars pc ks s).1.1.length : Int) v (ks.getD 0 cg3) 3), vrE ((x6 ars pc ks s).1.1.length : Int))
  else ((x6 ars pc ks s).1, ⟨k, v, (x6 ars pc ks s).2⟩)
def x6 (ars : List Int) (pc : Int) : List c6 → LnS → LnS × List c6
 | [], s => (s, [])
 | e :: t, s => ((x6 ars pc t (d9 ars pc e s).1).1, (d9 ars pc e s).2 :: (x6 ars pc t (d9 ars pc e s).1).2)
end
theorem aH9 (ars : List Int) (pc : Int) (e : c6) (s : LnS) : d9 ars pc e s =
  if e.kind = 3 ∧ ab5 (i9 (x6 ars pc e.kids s).1.1 ars 5 (e.kids.getD 0 cg3)) = true then
   (((x6 ars pc e.kids s).1.1 ++ [l4 (i9 (x6 ars pc e.kids s).1.1 ars 5 e) pc], (x6 ars pc e.kids s).1.2 ++ rdL ((x6 ars pc e.kids s).1.1.length : Int) e.value (e.kids.getD 0 cg3) 3), vrE ((x6 ars pc e.kids s).1.1.length : Int))
  else ((x6 ars pc e.kids s).1, ⟨e.kind, e.value, (x6 ars pc e.kids s).2⟩) := by
 cases e; rw [d9]; rfl
theorem as2 (ars : List Int) (pc : Int) : ∀ (a b : List c6) (s : LnS), x6 ars pc (a ++ b) s = ((x6 ars pc b (x6 ars pc a s).1).1, (x6 ars pc a s).2 ++ (x6 ars pc b (x6 ars pc a s).1).2)
 | [], b, s => by simp [x6]
 | e :: t, b, s => by
  simp only [List.cons_append, x6]
  rw [as2 ars pc t b]
theorem ap1 {ars : List Int} {pc : Int} {ks : List c6} {k : Nat} {s : LnS} (hk : k < ks.length) : x6 ars pc (ks.take (k + 1)) s = ((d9 ars pc (ks.getD k cg3) (x6 ars pc (ks.take k) s).1).1, (x6 ars pc (ks.take k) s).2 ++ [(d9 ars pc (ks.getD k cg3) (x6 ars pc (ks.take k) s).1).2]) := by
 rw [m8 _ _ hk, as2, m5 hk]
 simp [x6]
abbrev ifM (x : LnS × c6) (m l : Int) : LnS := (x.1.1 ++ [l] ++ [l], x.1.2 ++ [V5 (x.1.1.length : Int) (C1 m x.2 (cnE 0))] ++ [V5 ((x.1.1 ++ [l]).length : Int) (C1 m ⟨9, 0, [vrE (x.1.1.length : Int), cnE 0]⟩ (cnE 0))])
mutual
def G9 (ars : List Int) : c5 → Int → Int → LnS → LnS
 | ⟨k, t, i, v, c, b, e⟩, m, pc, s =>
  if k = 4 then ((m6 ars b m pc (s.1, [])).1, s.2 ++ [⟨4, 0, nnE, nnE, c, (m6 ars b m pc (s.1, [])).2, []⟩])
  else if k = 3 then
   (if ab5 (i9 s.1 ars 5 v) = true then
    m6 ars e (((d9 ars pc v s).1.1 ++ [l4 pc (i9 s.1 ars 5 v)]).length : Int) (l4 pc (i9 s.1 ars 5 v)) (m6 ars b ((d9 ars pc v s).1.1.length : Int) (l4 pc (i9 s.1 ars 5 v)) (ifM (d9 ars pc v s) m (l4 pc (i9 s.1 ars 5 v))))
   else ((m6 ars e m (l4 pc (i9 s.1 ars 5 v)) ((m6 ars b m (l4 pc (i9 s.1 ars 5 v)) ((d9 ars pc v s).1.1, [])).1, [])).1,
    (d9 ars pc v s).1.2 ++ [⟨3, 0, nnE, (d9 ars pc v s).2, 0, (m6 ars b m (l4 pc (i9 s.1 ars 5 v)) ((d9 ars pc v s).1.1, [])).2, (m6 ars e m (l4 pc (i9 s.1 ars 5 v)) ((m6 ars b m (l4 pc (i9 s.1 ars 5 v)) ((d9 ars pc v s).1.1, [])).1, [])).2⟩]))
  else if k = 5 then ((d9 ars pc v s).1.1, (d9 ars pc v s).1.2 ++ [⟨5, t, nnE, (d9 ars pc v s).2, 0, [], []⟩])
  else if k = 1 then ((d9 ars pc v s).1.1, (d9 ars pc v s).1.2 ++ [V5 t (C1 m (d9 ars pc v s).2 (vrE t))])
  else if ab5 (i9 (d9 ars pc v s).1.1 ars 5 i) = true then
   ((d9 ars pc v s).1.1 ++ [l4 (i9 (d9 ars pc v s).1.1 ars 5 (d9 ars pc v s).2) pc], (d9 ars pc v s).1.2 ++ [V5 ((d9 ars pc v s).1.1.length : Int) (d9 ars pc v s).2] ++ stL ((d9 ars pc v s).1.1.length : Int) t i m 4)
  else ((d9 ars pc v s).1.1, (d9 ars pc v s).1.2 ++ [⟨2, t, i, C1 m (d9 ars pc v s).2 (rdE t i), 0, [], []⟩])
def m6 (ars : List Int) : List c5 → Int → Int → LnS → LnS
 | [], _, _, s => s
 | x :: r, m, pc, s => m6 ars r m pc (G9 ars x m pc s)
end
theorem a32 (ars : List Int) (a b : List c5) (m pc : Int) (s : LnS) : m6 ars (a ++ b) m pc s = m6 ars b m pc (m6 ars a m pc s) := by
 induction a generalizing s with
 | nil => rfl
 | cons x r ih => simp only [List.cons_append, m6]; exact ih _
theorem bq6 {ars : List Int} {ss : List c5} {k : Nat} {m pc : Int} {s : LnS} (hk : k < ss.length) : m6 ars (ss.take (k + 1)) m pc s = G9 ars (ss.getD k cg3) m pc (m6 ars (ss.take k) m pc s) := by
 rw [m8 _ _ hk, a32, m5 hk]
 simp [m6]
section
variable {ars : List Int} {s : c5} {m pc : Int} {x : LnS}
theorem ln4 (k : s.kind = 4) : G9 ars s m pc x = ((m6 ars s.body m pc (x.1, [])).1, x.2 ++ [⟨4, 0, nnE, nnE, s.count, (m6 ars s.body m pc (x.1, [])).2, []⟩]) := by
 obtain ⟨kd, tg, ix, vl, ct, bd, el⟩ := s
 have k : kd = 4 := k
 rw [G9, if_pos k]; rfl
theorem b53 (k : s.kind = 3) (h : ab5 (i9 x.1 ars 5 s.value) = true) : G9 ars s m pc x = m6 ars s.els (((d9 ars pc s.value x).1.1 ++ [l4 pc (i9 x.1 ars 5 s.value)]).length : Int) (l4 pc (i9 x.1 ars 5 s.value)) (m6 ars s.body ((d9 ars pc s.value x).1.1.length : Int) (l4 pc (i9 x.1 ars 5 s.value)) (ifM (d9 ars pc s.value x) m (l4 pc (i9 x.1 ars 5 s.value)))) := by
 obtain ⟨kd, tg, ix, vl, ct, bd, el⟩ := s
 have k : kd = 3 := k
 have h : ab5 (i9 x.1 ars 5 vl) = true := h
 rw [G9, if_neg (by omega), if_pos k, if_pos h]; rfl
theorem b54 (k : s.kind = 3) (h : ab5 (i9 x.1 ars 5 s.value) = false) : G9 ars s m pc x = ((m6 ars s.els m (l4 pc (i9 x.1 ars 5 s.value)) ((m6 ars s.body m (l4 pc (i9 x.1 ars 5 s.value)) ((d9 ars pc s.value x).1.1, [])).1, [])).1,
  (d9 ars pc s.value x).1.2 ++ [⟨3, 0, nnE, (d9 ars pc s.value x).2, 0, (m6 ars s.body m (l4 pc (i9 x.1 ars 5 s.value)) ((d9 ars pc s.value x).1.1, [])).2, (m6 ars s.els m (l4 pc (i9 x.1 ars 5 s.value)) ((m6 ars s.body m (l4 pc (i9 x.1 ars 5 s.value)) ((d9 ars pc s.value x).1.1, [])).1, [])).2⟩]) := by
 obtain ⟨kd, tg, ix, vl, ct, bd, el⟩ := s
 have k : kd = 3 := k
 have h : ab5 (i9 x.1 ars 5 vl) = false := h
 rw [G9, if_neg (by omega), if_pos k, if_neg (by rw [h]; decide)]; rfl
theorem ln5 (k : s.kind = 5) : G9 ars s m pc x = ((d9 ars pc s.value x).1.1, (d9 ars pc s.value x).1.2 ++ [⟨5, s.target, nnE, (d9 ars pc s.value x).2, 0, [], []⟩]) := by
 obtain ⟨kd, tg, ix, vl, ct, bd, el⟩ := s
 have k : kd = 5 := k
 rw [G9, if_neg (by omega), if_neg (by omega), if_pos k]; rfl
theorem ln1 (k : s.kind = 1) : G9 ars s m pc x = ((d9 ars pc s.value x).1.1, (d9 ars pc s.value x).1.2 ++ [V5 s.target (C1 m (d9 ars pc s.value x).2 (vrE s.target))]) := by
 obtain ⟨kd, tg, ix, vl, ct, bd, el⟩ := s
 have k : kd = 1 := k
 rw [G9, if_neg (by omega), if_neg (by omega), if_neg (by omega), if_pos k]; rfl
theorem b55 (k : s.kind = 2) (h : ab5 (i9 (d9 ars pc s.value x).1.1 ars 5 s.index) = true) : G9 ars s m pc x = ((d9 ars pc s.value x).1.1 ++ [l4 (i9 (d9 ars pc s.value x).1.1 ars 5 (d9 ars pc s.value x).2) pc], (d9 ars pc s.value x).1.2 ++ [V5 ((d9 ars pc s.value x).1.1.length : Int) (d9 ars pc s.value x).2] ++ stL ((d9 ars pc s.value x).1.1.length : Int) s.target s.index m 4) := by
 obtain ⟨kd, tg, ix, vl, ct, bd, el⟩ := s
 have k : kd = 2 := k
 have h : ab5 (i9 (d9 ars pc vl x).1.1 ars 5 ix) = true := h
 rw [G9, if_neg (by omega), if_neg (by omega), if_neg (by omega), if_neg (by omega), if_pos h]; rfl
theorem b56 (k : s.kind = 2) (h : ab5 (i9 (d9 ars pc s.value x).1.1 ars 5 s.index) = false) : G9 ars s m pc x = ((d9 ars pc s.value x).1.1, (d9 ars pc s.value x).1.2 ++ [⟨2, s.target, s.index, C1 m (d9 ars pc s.value x).2 (rdE s.target s.index), 0, [], []⟩]) := by
 obtain ⟨kd, tg, ix, vl, ct, bd, el⟩ := s
 have k : kd = 2 := k
 have h : ab5 (i9 (d9 ars pc vl x).1.1 ars 5 ix) = false := h
 rw [G9, if_neg (by omega), if_neg (by omega), if_neg (by omega), if_neg (by omega), if_neg (by rw [h]; decide)]; rfl
end
theorem E8 {nv nw na : Nat} (h : nv ≤ nw) : ∀ (d : Nat) (e : c6), i5 nv na d e = true → i5 nw na d e = true
 | 0, _, hs => by simp [i5] at hs
 | d + 1, e, hs => by
  simp only [i5, cg5, ch3] at hs ⊢
  refine ⟨⟨?_, fun x hx => E8 h d x (hs.1.2 x hx)⟩, hs.2⟩
  have h1 := hs.1.1
  simp only [R6, cg5, decide_eq_true_eq] at h1 ⊢
  refine ⟨h1.1, Int.lt_of_lt_of_le h1.2 ?_⟩
  unfold U6
  (repeat' split) <;> omega
theorem aF6 {nv na : Nat} : ∀ (d : Nat) (e : c6), i5 nv na d e = true → i5 nv na (d + 1) e = true
 | 0, _, hs => by simp [i5] at hs
 | d + 1, e, hs => by
  rw [i5] at hs ⊢
  simp only [cg5, ch3] at hs ⊢
  exact ⟨⟨hs.1.1, fun x hx => aF6 d x (hs.1.2 x hx)⟩, hs.2⟩
theorem a02 {nv na c d : Nat} {e : c6} (h : c ≤ d) (hs : i5 nv na c e = true) : i5 nv na d e = true := by
 induction d with
 | zero => rwa [show c = 0 by omega] at hs
 | succ d ih =>
  rcases ci7 c (d + 1) with hl | hl
  ·exact aF6 d e (ih (by omega))
  ·rwa [show c = d + 1 by omega] at hs
theorem aL3 {ars : List Int} {pc : Int} {nv na d : Nat} {e : c6} {s : LnS} (ha : atomB e = true) (hs : i5 nv na d e = true) : d9 ars pc e s = (s, e) ∧ e.kids = [] := by
 obtain ⟨k, v, ks⟩ := e
 cases d with
 | zero => simp [i5] at hs
 | succ d =>
  have hk : k = 1 ∨ k = 2 := by
   have h := ha
   simp only [atomB, ck6, decide_eq_true_eq] at h
   exact h
  have hn : ks = [] := by
   simp only [i5, R6, cg5, decide_eq_true_eq] at hs
   have h1 := hs.1.1.1.1
   have h2 : t3 k = 0 := by unfold t3; rw [if_pos hk]
   have h3 : (ks.length : Int) = 0 := h1.trans h2
   exact ci2 (by omega)
  subst hn
  refine ⟨?_, rfl⟩
  rw [d9, if_neg (by omega)]
  rfl
theorem a16 {nv na d : Nat} {e : c6} (k : e.kind = 3) (hs : i5 nv na (d + 1) e = true) : ∃ a, e.kids = [a] ∧ atomB a = true ∧ i5 nv na d a = true ∧ a.kids = [] := by
 obtain ⟨kd, v, ks⟩ := e
 have k : kd = 3 := k
 subst k
 simp only [i5, R6, cg5, decide_eq_true_eq] at hs
 have h1 : (ks.length : Int) = 1 := hs.1.1.1.1
 match ks, h1, hs with
 | [a], _, hs =>
  have h2 : atomB a = true := by
   have h := hs.2
   unfold ay4 at h
   have h : (decide ((3 : Int) ≠ 3) || atomB a) = true := h
   simpa using h
  have h3 : i5 nv na d a = true := ch3.1 hs.1.2 a (cj3.2 rfl)
  exact ⟨a, rfl, h2, h3, (aL3 (ars := []) (pc := 0) (s := ([], [])) h2 h3).2⟩
theorem a15 {ars : List Int} {pc : Int} {nv na d : Nat} {e : c6} {s : LnS} (k : e.kind = 3) (hs : i5 nv na (d + 1) e = true) : x6 ars pc e.kids s = (s, e.kids) := by
 obtain ⟨a, h1, h2, h3, -⟩ := a16 k hs
 rw [h1]
 have := aL3 (ars := ars) (pc := pc) (s := s) h2 h3
 simp only [x6, this.1]
structure Grw (nv na d : Nat) (sz : Nat) (s : LnS) (r : LnS) : Prop where
 lo : s.1.length ≤ r.1.length
 hi : r.1.length ≤ s.1.length + sz
 st : j5 r.2 ≤ j5 s.2 + 40 * sz
 len : s.2.length ≤ r.2.length
theorem bx6 (v a : Int) (i : c6) (hi : i.kids = []) : ∀ n : Nat, j5 (rdL v a i n) = 2 + 9 * n
 | 0 => rfl
 | n + 1 => by
  have h0 : z6 i = 0 := by cases i; simp only [c6.kids] at hi; subst hi; rfl
  rw [rdL, w5, bx6 v a i hi n]
  simp [j5, K0, z6, E0, h0]; omega
theorem aU6 (v a : Int) (i : c6) : ∀ n : Nat, (rdL v a i n).length = n + 1
 | 0 => rfl
 | n + 1 => by rw [rdL, cg9, aU6 v a i n]; rfl
theorem bi3 (v t : Int) (i : c6) (m : Int) : ∀ n : Nat, (stL v t i m n).length = n
 | 0 => rfl
 | n + 1 => by rw [stL, cg9, bi3 v t i m n]; rfl
theorem ae1 (m : Int) (e f : c6) : z6 (C1 m e f) ≤ 3 + z6 e + z6 f := by
 unfold C1; split
 ·omega
 ·simp [z6, E0]; omega
theorem bv8 (v t : Int) (i : c6) (m : Int) (hi : i.kids = []) : ∀ n : Nat, j5 (stL v t i m n) ≤ 20 * n
 | 0 => ch0 _
 | n + 1 => by
  have h0 : z6 i = 0 := by cases i; simp only [c6.kids] at hi; subst hi; rfl
  have h1 := bv8 v t i m hi n
  have h2 := ae1 m (ag1 i (n : Int)) (cnE 0)
  have h3 : z6 (ag1 i (n : Int)) = 4 := by simp [z6, E0, h0]
  have h4 : z6 (cnE 0) = 0 := rfl
  rw [stL, w5]
  simp only [j5, K0, z6, E0]
  omega
theorem bn8 {nv na d : Nat} {v : Nat} (h : v < nv) : i5 nv na (d + 1) (vrE (v : Int)) = true := by
 simp [i5, R6, ay4, t3, U6, c6.kids, c6.kind, c6.value, h]
theorem bk5 {ars : List Int} {pc : Int} {na d : Nat} (hg : ∀ (e : c6) (s : LnS), i5 s.1.length na d e = true → Grw s.1.length na d (1 + z6 e) s (d9 ars pc e s).1 ∧ i5 (d9 ars pc e s).1.1.length na d (d9 ars pc e s).2 = true ∧ z6 (d9 ars pc e s).2 ≤ z6 e) :
  ∀ (ks : List c6) (s : LnS), (∀ x ∈ ks, i5 s.1.length na d x = true) → Grw s.1.length na d (E0 ks) s (x6 ars pc ks s).1 ∧ (∀ x ∈ (x6 ars pc ks s).2, i5 (x6 ars pc ks s).1.1.length na d x = true) ∧ E0 (x6 ars pc ks s).2 ≤ E0 ks ∧ (x6 ars pc ks s).2.length = ks.length := by
 intro ks
 induction ks with
 | nil => intro s _; exact ⟨⟨ch0 _, ch0 _, ch0 _, ch0 _⟩, fun x hx => (by cases hx), ch0 _, rfl⟩
 | cons x r ih =>
  intro s h
  obtain ⟨g1, g2, g3⟩ := hg x s (h x ck3)
  obtain ⟨k1, k2, k3, k4⟩ := ih (d9 ars pc x s).1 fun y hy => E8 g1.lo d y (h y (ck1 _ hy))
  simp only [x6, E0]
  refine ⟨⟨cj4 g1.lo k1.lo, ?_, ?_, cj4 g1.len k1.len⟩, ?_, ?_, ?_⟩
  ·have := g1.hi; have := k1.hi; omega
  ·have := g1.st; have := k1.st; omega
  ·intro y hy
   rcases ck2.1 hy with rfl | hy
   ·exact E8 k1.lo d _ g2
   ·exact k2 y hy
  ·omega
  ·simp [k4]
theorem ak7 (ars : List Int) (pc : Int) (na : Nat) : ∀ (d : Nat) (e : c6) (s : LnS), i5 s.1.length na d e = true →
  Grw s.1.length na d (1 + z6 e) s (d9 ars pc e s).1 ∧ i5 (d9 ars pc e s).1.1.length na d (d9 ars pc e s).2 = true ∧ z6 (d9 ars pc e s).2 ≤ z6 e
 | 0, _, _, hs => by simp [i5] at hs
 | d + 1, e, s, hs => by
  have key := bk5 (ars := ars) (pc := pc) (na := na) (d := d) fun e s h => ak7 ars pc na d e s h
  have hs0 := hs
  rw [i5] at hs
  simp only [cg5, ch3] at hs
  obtain ⟨g1, g2, g3, g4⟩ := key e.kids s hs.1.2
  rw [aH9]
  split
  ·rename_i h
   obtain ⟨a, h1, h2, h3, h4⟩ := a16 h.1 hs0
   have hz : z6 e = 1 := by
    rw [K9, h1]
    have : z6 a = 0 := by rw [K9, h4]; rfl
    simp [E0, this]
   have hr := a15 (ars := ars) (pc := pc) (s := s) h.1 hs0
   have e0 : e.kids.getD 0 cg3 = a := by rw [h1]; rfl
   rw [hr, e0]
   refine ⟨⟨?_, ?_, ?_, ?_⟩, ?_, ?_⟩
   ·simp
   ·simp
   ·simp only [w5, bx6 _ _ a h4]; omega
   ·simp
   ·have : i5 (s.1.length + 1) na (d + 1) (vrE (s.1.length : Int)) = true := bn8 (by omega)
    simpa using this
   ·exact ck4 _
  ·rename_i h
   refine ⟨⟨g1.lo, ?_, ?_, g1.len⟩, ?_, ?_⟩
   ·have := g1.hi; rw [K9]; show (x6 ars pc e.kids s).1.1.length ≤ _; omega
   ·have := g1.st; rw [K9]; show j5 (x6 ars pc e.kids s).1.2 ≤ _; omega
   ·rw [i5]
    simp only [cg5, ch3]
    refine ⟨⟨?_, g2⟩, ?_⟩
    ·have h1 := hs.1.1
     simp only [R6, cg5, decide_eq_true_eq] at h1 ⊢
     refine ⟨⟨?_, h1.1.2⟩, Int.lt_of_lt_of_le h1.2 ?_⟩
     ·show (((x6 ars pc e.kids s).2.length : Nat) : Int) = t3 e.kind
      rw [g4]; exact h1.1.1
     ·show U6 s.1.length na e.kind ≤ U6 (x6 ars pc e.kids s).1.1.length na e.kind
      have := g1.lo
      unfold U6
      (repeat' split) <;> omega
    ·by_cases k : e.kind = 3
     ·rw [a15 (ars := ars) (pc := pc) (s := s) k hs0]
      show ay4 ⟨e.kind, e.value, e.kids⟩ = true
      rw [c6.eta]; exact hs.2
     ·unfold ay4; rw [ck6]; exact .inl (decide_eq_true k)
   ·rw [K9 e]; exact g3
structure GrS (sz : Nat) (x r : LnS) : Prop where
 lo : x.1.length ≤ r.1.length
 hi : r.1.length ≤ x.1.length + 4 * sz
 st : j5 r.2 ≤ j5 x.2 + 130 * sz
 len : x.2.length ≤ r.2.length
theorem GrS.refl (x : LnS) (n : Nat) : GrS n x x := ⟨ch0 _, by omega, by omega, ch0 _⟩
theorem aI6 {nv na : Nat} {s : c5} (h : D8 nv na s = true) (k : s.kind = 2) : s.index.kids = [] ∧ atomB s.index = true ∧ i5 nv na 5 s.index = true := by
 rw [a46 k] at h
 simp only [cg5] at h
 have hs := ah9 h.2.1
 exact ⟨(aL3 (ars := []) (pc := 0) (s := ([], [])) h.2.2.1 hs).2, h.2.2.1, hs⟩
theorem aB9 {e : c6} (h : e.kids = []) : z6 e = 0 := by rw [K9, h]; rfl
theorem aV8 {ars : List Int} {na nv d : Nat} (ih : ∀ (s : c5) (m pc : Int) (x : LnS), j6 nv na d s = true → nv ≤ x.1.length → GrS (1 + K0 s) x (G9 ars s m pc x)) :
  ∀ (ss : List c5) (m pc : Int) (x : LnS), ss.all (j6 nv na d) = true → nv ≤ x.1.length → GrS (j5 ss) x (m6 ars ss m pc x)
 | [], _, _, x, _, _ => GrS.refl x _
 | s :: r, m, pc, x, h, hx => by
  simp only [List.all_cons, cg5] at h
  have h1 := ih s m pc x h.1 hx
  have h2 := aV8 ih r m pc (G9 ars s m pc x) h.2 (cj4 hx h1.lo)
  rw [m6, j5]
  exact ⟨cj4 h1.lo h2.lo, by have := h1.hi; have := h2.hi; omega, by have := h1.st; have := h2.st; omega, cj4 h1.len h2.len⟩
theorem bk6 (ars : List Int) (na nv : Nat) : ∀ (d : Nat) (s : c5) (m pc : Int) (x : LnS), j6 nv na d s = true → nv ≤ x.1.length → GrS (1 + K0 s) x (G9 ars s m pc x)
 | 0, _, _, _, _, h, _ => by simp [j6] at h
 | d + 1, s, m, pc, x, h, hx => by
  have blk := fun (ss : List c5) (m pc : Int) (x : LnS) => aV8 (ars := ars) (na := na) (nv := nv) (d := d) (fun s m pc x => bk6 ars na nv d s m pc x) ss m pc x
  rw [S5, cg5, cg5] at h
  obtain ⟨hh, hb, he⟩ := h
  have hsz : K0 s = z6 s.index + z6 s.value + j5 s.body + j5 s.els := by cases s; rfl
  by_cases k4 : s.kind = 4
  ·rw [ln4 k4]
   have h1 := blk s.body m pc (x.1, []) hb hx
   have a := h1.lo; have b := h1.hi; have c := h1.st
   simp only [j5] at a b c
   have e0 : z6 nnE = 0 := rfl
   refine ⟨a, ?_, ?_, ?_⟩
   ·simp only; omega
   ·simp only [w5, j5, K0, e0]; omega
   ·simp
  have hv : i5 x.1.length na 5 s.value = true := E8 hx 5 _ (z8 hh k4)
  obtain ⟨g1, g2, g3⟩ := ak7 ars pc na 5 s.value x hv
  have a0 := g1.lo; have b0 := g1.hi; have c0 := g1.st; have d0 := g1.len
  have e0 : z6 nnE = 0 := rfl
  have e1 : z6 (cnE 0) = 0 := rfl
  by_cases k3 : s.kind = 3
  ·cases hs : ab5 (i9 x.1 ars 5 s.value)
   ·rw [b54 k3 hs]
    have h1 := blk s.body m (l4 pc (i9 x.1 ars 5 s.value)) ((d9 ars pc s.value x).1.1, []) hb (cj4 hx a0)
    have h2 := blk s.els m (l4 pc (i9 x.1 ars 5 s.value)) ((m6 ars s.body m (l4 pc (i9 x.1 ars 5 s.value)) ((d9 ars pc s.value x).1.1, [])).1, []) he (cj4 hx (cj4 a0 h1.lo))
    have a := h1.lo; have b := h1.hi; have c := h1.st
    have a2 := h2.lo; have b2 := h2.hi; have c2 := h2.st
    simp only [j5] at a b c a2 b2 c2
    refine ⟨?_, ?_, ?_, ?_⟩
    ·simp only; omega
    ·simp only; omega
    ·simp only [w5, j5, K0, e0]; omega
    ·simp; omega
   ·rw [b53 k3 hs]
    generalize hl : l4 pc (i9 x.1 ars 5 s.value) = l
    generalize hy : ifM (d9 ars pc s.value x) m l = y
    have y1 : y.1.length = (d9 ars pc s.value x).1.1.length + 2 := by rw [← hy]; simp
    have y2 : j5 y.2 ≤ j5 (d9 ars pc s.value x).1.2 + 20 + z6 (d9 ars pc s.value x).2 := by
     have m1 := ae1 m (d9 ars pc s.value x).2 (cnE 0)
     have m2 := ae1 m ⟨9, 0, [vrE ((d9 ars pc s.value x).1.1.length : Int), cnE 0]⟩ (cnE 0)
     have m3 : z6 ⟨9, 0, [vrE ((d9 ars pc s.value x).1.1.length : Int), cnE 0]⟩ = 2 := rfl
     rw [← hy]
     simp only [ifM, w5, j5, K0, e0]; omega
    have y3 : (d9 ars pc s.value x).1.2.length ≤ y.2.length := by rw [← hy]; simp
    have h1 := blk s.body ((d9 ars pc s.value x).1.1.length : Int) l y hb (by omega)
    have h2 := blk s.els (((d9 ars pc s.value x).1.1 ++ [l]).length : Int) l (m6 ars s.body ((d9 ars pc s.value x).1.1.length : Int) l y) he (by have := h1.lo; omega)
    have a := h1.lo; have b := h1.hi; have c := h1.st; have d1 := h1.len
    have a2 := h2.lo; have b2 := h2.hi; have c2 := h2.st; have d2 := h2.len
    exact ⟨by omega, by omega, by omega, by omega⟩
  by_cases k5 : s.kind = 5
  ·rw [ln5 k5]
   refine ⟨a0, ?_, ?_, ?_⟩
   ·simp only; omega
   ·simp only [w5, j5, K0, e0]; omega
   ·simp; omega
  by_cases k1 : s.kind = 1
  ·rw [ln1 k1]
   have m1 := ae1 m (d9 ars pc s.value x).2 (vrE s.target)
   have m2 : z6 (vrE s.target) = 0 := rfl
   refine ⟨a0, ?_, ?_, ?_⟩
   ·simp only; omega
   ·simp only [w5, j5, K0, e0]; omega
   ·simp; omega
  by_cases k2 : s.kind = 2
  ·obtain ⟨q1, -, -⟩ := aI6 hh k2
   cases hs : ab5 (i9 (d9 ars pc s.value x).1.1 ars 5 s.index)
   ·rw [b56 k2 hs]
    have m1 := ae1 m (d9 ars pc s.value x).2 (rdE s.target s.index)
    have m2 : z6 (rdE s.target s.index) = 1 := by simp [z6, E0, aB9 q1]
    have m3 := aB9 q1
    refine ⟨a0, ?_, ?_, ?_⟩
    ·simp only; omega
    ·simp only [w5, j5, K0]; omega
    ·simp; omega
   ·rw [b55 k2 hs]
    have m1 := bv8 ((d9 ars pc s.value x).1.1.length : Int) s.target s.index m q1 4
    refine ⟨?_, ?_, ?_, ?_⟩
    ·simp; omega
    ·simp; omega
    ·simp only [w5, j5, K0, e0]; omega
    ·simp; omega
  ·rw [an3 ⟨k1, k2, k3, k4, k5⟩] at hh; cases hh
theorem aV9 (ars : List Int) {na nv d : Nat} (ss : List c5) (m pc : Int) (x : LnS) (h : ss.all (j6 nv na d) = true) (hx : nv ≤ x.1.length) : GrS (j5 ss) x (m6 ars ss m pc x) := aV8 (bk6 ars na nv d) ss m pc x h hx
theorem ar5 {nv na : Nat} {e : c6} (h : r9 nv na e = true) : z6 e ≤ 14 := by
 unfold r9 at h; simp only [cg5, decide_eq_true_eq] at h; omega
theorem aB7 {e : c6} (h : noneB e = true) : z6 e = 0 := by
 unfold noneB at h; simp only [cg5, decide_eq_true_eq] at h
 exact aB9 (ci2 h.2)
theorem bi0 {nv na d : Nat} (ih : ∀ s : c5, j6 nv na d s = true → 1 + K0 s ≤ 29 * nS s) : ∀ ss : List c5, ss.all (j6 nv na d) = true → j5 ss ≤ 29 * U9 ss
 | [], _ => ch0 _
 | s :: r, h => by
  simp only [List.all_cons, cg5] at h
  have h1 := ih s h.1
  have h2 := bi0 ih r h.2
  rw [j5, U9]; omega
theorem bv2 {nv na : Nat} : ∀ (d : Nat) (s : c5), j6 nv na d s = true → 1 + K0 s ≤ 29 * nS s
 | 0, _, h => by simp [j6] at h
 | d + 1, s, h => by
  rw [S5, cg5, cg5] at h
  obtain ⟨hh, hb, he⟩ := h
  have h1 := bi0 (fun s => bv2 d s) s.body hb
  have h2 := bi0 (fun s => bv2 d s) s.els he
  have hsz : K0 s = z6 s.index + z6 s.value + j5 s.body + j5 s.els := by cases s; rfl
  have hn := av4 s
  have key : z6 s.index + z6 s.value ≤ 28 := by
   by_cases k4 : s.kind = 4
   ·rw [b71 k4] at hh; simp only [cg5] at hh
    have := aB7 hh.2.1; have := aB7 hh.2.2; omega
   by_cases k3 : s.kind = 3
   ·rw [bQ9 k3] at hh; simp only [cg5] at hh
    have := aB7 hh.2.1; have := ar5 hh.2.2; omega
   by_cases k15 : s.kind = 1 ∨ s.kind = 5
   ·rw [bC6 k15] at hh; simp only [cg5] at hh
    have := aB7 hh.2.1; have := ar5 hh.2.2; omega
   by_cases k2 : s.kind = 2
   ·rw [a46 k2] at hh; simp only [cg5] at hh
    have := ar5 hh.2.1; have := ar5 hh.2.2.2; omega
   ·rw [an3 (by omega)] at hh; cases hh
  omega
def aH8 (p : i6) : LnS := m6 p.arrays p.body (-1) 0 (p.vars, [])
def bq5 (p : i6) : i6 := ⟨(aH8 p).1, p.arrays, (aH8 p).2⟩
theorem ac2 {p : i6} (h : l9 p = true) : p.vars.length ≤ 12 ∧ p.arrays.length ≤ 2 ∧ j5 p.body ≤ 1740 := by
 unfold l9 B5 af1 at h
 simp only [cg5, decide_eq_true_eq] at h
 have := bi0 (bv2 5) p.body h.1.2
 omega
theorem bk7 {p : i6} (h : l9 p = true) : p.vars.length ≤ (aH8 p).1.length ∧ (aH8 p).1.length ≤ 7000 ∧ j5 (aH8 p).2 ≤ 230000 := by
 have hz := ac2 h
 have hb : p.body.all (j6 p.vars.length p.arrays.length 5) = true := (av1 h).2.2.2
 have g := aV9 p.arrays p.body (-1) 0 (p.vars, []) hb (ch0 _)
 have a := g.lo; have b := g.hi; have c := g.st
 simp only [j5] at a b c
 unfold aH8
 omega
theorem bL3 {p : i6} (h : l9 p = true) : (bq5 p).size ≤ 240000 := by
 have h1 := bk7 h
 have h2 := ac2 h
 show (aH8 p).1.length + p.arrays.length + j5 (aH8 p).2 ≤ _
 omega
def okL (p : i6) : Bool := decide ((V4 p false).1 = 0) && l9 (bq5 p)
def G5 (p : i6) : i6 := if okL p = true then bq5 p else ⟨[], [], []⟩
theorem ae4 {p : i6} (h : (V4 p false).1 = 0) : l9 p = true := ((bN5 p false).1 h).1
theorem b41 {p : i6} (h : ¬ (V4 p false).1 = 0) : okL p = false := by unfold okL; rw [decide_eq_false h, Bool.false_and]
theorem bQ3 {p : i6} (h : l9 (bq5 p) = false) : okL p = false := by unfold okL; rw [h, Bool.and_false]
theorem bQ2 {p : i6} (h : (V4 p false).1 = 0) (h2 : l9 (bq5 p) = true) : okL p = true := by unfold okL; rw [decide_eq_true h, h2]; rfl
theorem bk4 {p : i6} (h : okL p = false) : G5 p = ⟨[], [], []⟩ := by unfold G5; rw [h]; rfl
theorem bQ4 {p : i6} (h : okL p = true) : G5 p = bq5 p := by unfold G5; rw [h]; rfl
theorem bW3 (p : i6) : (G5 p).size ≤ 240000 := by
 cases h : okL p
 ·rw [bk4 h]; simp [i6.size, j5]
 ·rw [bQ4 h]
  unfold okL at h
  simp only [cg5, decide_eq_true_eq] at h
  exact bL3 (ae4 h.1)
theorem aJ5 {nv na d k : Nat} {ss : List c5} (hs : ss.all (j6 nv na (d + 1)) = true) (hk : k < ss.length) : D8 nv na (ss.getD k cg3) = true ∧ (ss.getD k cg3).body.all (j6 nv na d) = true ∧ (ss.getD k cg3).els.all (j6 nv na d) = true := by
 have h := ch3.1 hs _ (ci6 hk)
 rw [S5, cg5, cg5] at h
 rw [m5 hk]; exact h
abbrev lqC (l : List d7) (fr : List Int) (at0 : Int) (s : c5) (d : Int) : j9 := ⟨199, [.agg [.ref 0, .ref 1, iA at0], sA s 2, iA d], [rN l, rI fr] ++ sS s, [.dead, .dead] ++ sS s ++ [rN (R7 s d (l, fr, at0)).1, rI (R7 s d (l, fr, at0)).2.1], .agg [.ref 6, .ref 7, iA (R7 s d (l, fr, at0)).2.2]⟩
abbrev lrC (l : List d7) (fr : List Int) (at0 : Int) (ss : List c5) (d : Int) : j9 := ⟨146, [.agg [.ref 0, .ref 1, iA at0], .ref 2, iA d], [rN l, rI fr, dT ss], [.dead, .dead, dT ss, rN (n4 ss d (l, fr, at0)).1, rI (n4 ss d (l, fr, at0)).2.1], .agg [.ref 3, .ref 4, iA (n4 ss d (l, fr, at0)).2.2]⟩
mutual
theorem bY5 : ∀ (s : c5) (d : Int) (x : I4), x.2.2 ≤ (R7 s d x).2.2 ∧ (R7 s d x).2.2 ≤ x.2.2 + nS s
 | ⟨k, t, i, v, c, b, e⟩, d, x => by
  rw [R7, nS]
  split
  ·have h := aj4 b (d + 1) (G8 (x.1, x.2.1, x.2.2 + 1) x.2.2 [⟨1, 9 + d, c, 0, 0⟩])
   simp only [G8] at h ⊢
   omega
  ·split
   ·simp only [G8]; omega
   ·split
    ·simp only [G8]; omega
    ·split
     ·simp only [G8]; omega
     ·simp only
      generalize hy : G8 (x.1, x.2.1, x.2.2 + 1) x.2.2 (c8 v 0) = y
      have hy1 : y.2.2 = x.2.2 + 1 := by rw [← hy]; rfl
      have h1 := aj4 b (d + 1) (G8 y x.2.2 [⟨9, 0, 0, 0, 0⟩])
      generalize n4 b (d + 1) (G8 y x.2.2 [⟨9, 0, 0, 0, 0⟩]) = z at h1 ⊢
      have h2 := aj4 e (d + 1) (bx9 (G8 z x.2.2 [⟨8, 0, 0, 0, 0⟩]).1 y.1.length ((G8 z x.2.2 [⟨8, 0, 0, 0, 0⟩]).1.length : Int), (G8 z x.2.2 [⟨8, 0, 0, 0, 0⟩]).2)
      simp only [G8] at h1 h2 ⊢
      omega
theorem aj4 : ∀ (ss : List c5) (d : Int) (x : I4), x.2.2 ≤ (n4 ss d x).2.2 ∧ (n4 ss d x).2.2 ≤ x.2.2 + U9 ss
 | [], _, x => by simp [n4, U9]
 | s :: r, d, x => by
  have h1 := bY5 s d x
  have h2 := aj4 r d (R7 s d x)
  rw [n4, U9]
  omega
end
section
variable {l : List d7} {fr : List Int} {at0 d : Int} {s : c5}
theorem cm1 (k : s.kind = 1) : R7 s d (l, fr, at0) = (l ++ c8 s.value 0 ++ [⟨3, s.target, 0, 0, 0⟩], fr ++ cg4 (c8 s.value 0).length at0 ++ [at0], at0 + 1) := by
 obtain ⟨kd, tg, ix, vl, ct, bd, el⟩ := s
 have k : kd = 1 := k
 rw [R7]
 simp only [k, Int.reduceEq, if_true, if_false]
 rfl
theorem cm5 (k : s.kind = 5) : R7 s d (l, fr, at0) = (l ++ c8 s.value 0 ++ [⟨11, 0, 0, 0, 0⟩] ++ [⟨3, s.target, 0, 0, 0⟩], fr ++ cg4 (c8 s.value 0).length at0 ++ [at0] ++ [at0], at0 + 1) := by
 obtain ⟨kd, tg, ix, vl, ct, bd, el⟩ := s
 have k : kd = 5 := k
 rw [R7]
 simp only [k, Int.reduceEq, if_true, if_false]
 rfl
theorem cm2 (k : s.kind = 2) : R7 s d (l, fr, at0) = (l ++ c8 s.value 0 ++ c8 s.index 1 ++ [⟨5, s.target, 1, 0, 0⟩], fr ++ cg4 (c8 s.value 0).length at0 ++ cg4 (c8 s.index 1).length at0 ++ [at0], at0 + 1) := by
 obtain ⟨kd, tg, ix, vl, ct, bd, el⟩ := s
 have k : kd = 2 := k
 rw [R7]
 simp only [k, Int.reduceEq, if_true, if_false]
 rfl
theorem cm4 (k : s.kind = 4) : R7 s d (l, fr, at0) = ((n4 s.body (d + 1) (l ++ [⟨1, 9 + d, s.count, 0, 0⟩], fr ++ [at0], at0 + 1)).1 ++ [⟨10, 9 + d, (((l ++ [(⟨1, 9 + d, s.count, 0, 0⟩ : d7)]).length : Nat) : Int), 0, 0⟩], (n4 s.body (d + 1) (l ++ [⟨1, 9 + d, s.count, 0, 0⟩], fr ++ [at0], at0 + 1)).2.1 ++ [at0], (n4 s.body (d + 1) (l ++ [⟨1, 9 + d, s.count, 0, 0⟩], fr ++ [at0], at0 + 1)).2.2) := by
 obtain ⟨kd, tg, ix, vl, ct, bd, el⟩ := s
 have k : kd = 4 := k
 rw [R7]
 simp only [k, if_true, cg9, ch2, ch6]
 rfl
abbrev w3C (l : List d7) (fr : List Int) (at0 d : Int) (s : c5) : I4 := n4 s.body (d + 1) (l ++ c8 s.value 0 ++ [⟨9, 0, 0, 0, 0⟩], fr ++ cg4 (c8 s.value 0).length at0 ++ [at0], at0 + 1)
abbrev w6C (l : List d7) (fr : List Int) (at0 d : Int) (s : c5) : I4 := n4 s.els (d + 1) (bx9 ((w3C l fr at0 d s).1 ++ [⟨8, 0, 0, 0, 0⟩]) (l ++ c8 s.value 0).length ((((w3C l fr at0 d s).1 ++ [(⟨8, 0, 0, 0, 0⟩ : d7)]).length : Nat) : Int), (w3C l fr at0 d s).2.1 ++ [at0], (w3C l fr at0 d s).2.2)
theorem cm3 (k : s.kind = 3) : R7 s d (l, fr, at0) = (bU5 (w6C l fr at0 d s).1 (w3C l fr at0 d s).1.length (((w6C l fr at0 d s).1.length : Nat) : Int), (w6C l fr at0 d s).2.1, (w6C l fr at0 d s).2.2) := by
 obtain ⟨kd, tg, ix, vl, ct, bd, el⟩ := s
 have k : kd = 3 := k
 rw [R7]
 simp only [k, Int.reduceEq, if_false, G8, cg9, ch2, ch6, Nat.add_sub_cancel, ck8, List.replicate_one, w6C, w3C]
 rfl
theorem aj3 (ss : List c5) (d : Int) (x : I4) : (n4 ss d x).1.length = x.1.length + aM6 ss := (N0 ss d x).1
theorem b76 (h : l.length + (4 + 4 * K0 s) ≤ 5000000) : l.length + z6 s.value ≤ 5000000 ∧ (0 : Int) + z6 s.value ≤ 2000000 ∧ (l ++ c8 s.value 0).length + z6 s.index ≤ 5000000 ∧ (1 : Int) + z6 s.index ≤ 2000000 ∧ (l ++ c8 s.value 0 ++ c8 s.index 1).length + 4 ≤ 5000010 := by
 have h1 := Y4 s.value 0
 have h2 := Y4 s.index 1
 have h3 : K0 s = z6 s.index + z6 s.value + j5 s.body + j5 s.els := by cases s; rfl
 simp only [cg9]
 omega
end
abbrev P7 (s : c5) (l : List d7) (fr : List Int) (at0 : Int) (d : Int) := n4 s.els (d + 1) (((n4 s.body (d + 1) (l ++ c8 s.value 0 ++ [d7.mk 9 0 0 0 0], fr ++ cg4 (c8 s.value 0).length at0 ++ [at0], at0 + 1)).fst ++ [d7.mk 8 0 0 0 0]).set (l ++ c8 s.value 0).length (d7.mk (((n4 s.body (d + 1) (l ++ c8 s.value 0 ++ [d7.mk 9 0 0 0 0], fr ++ cg4 (c8 s.value 0).length at0 ++ [at0], at0 + 1)).fst ++ [d7.mk 8 0 0 0 0]).getD (l ++ c8 s.value 0).length cg3).op (((n4 s.body (d + 1) (l ++ c8 s.value 0 ++ [d7.mk 9 0 0 0 0], fr ++ cg4 (c8 s.value 0).length at0 ++ [at0], at0 + 1)).fst ++ [d7.mk 8 0 0 0 0]).getD (l ++ c8 s.value 0).length cg3).a (((n4 s.body (d + 1) (l ++ c8 s.value 0 ++ [d7.mk 9 0 0 0 0], fr ++ cg4 (c8 s.value 0).length at0 ++ [at0], at0 + 1)).fst ++ [d7.mk 8 0 0 0 0]).length : Int) (((n4 s.body (d + 1) (l ++ c8 s.value 0 ++ [d7.mk 9 0 0 0 0], fr ++ cg4 (c8 s.value 0).length at0 ++ [at0], at0 + 1)).fst ++ [d7.mk 8 0 0 0 0]).getD (l ++ c8 s.value 0).length cg3).c (((n4 s.body (d + 1) (l ++ c8 s.value 0 ++ [d7.mk 9 0 0 0 0], fr ++ cg4 (c8 s.value 0).length at0 ++ [at0], at0 + 1)).fst ++ [d7.mk 8 0 0 0 0]).getD (l ++ c8 s.value 0).length cg3).d), (n4 s.body (d + 1) (l ++ c8 s.value 0 ++ [d7.mk 9 0 0 0 0], fr ++ cg4 (c8 s.value 0).length at0 ++ [at0], at0 + 1)).snd.fst ++ [at0], (n4 s.body (d + 1) (l ++ c8 s.value 0 ++ [d7.mk 9 0 0 0 0], fr ++ cg4 (c8 s.value 0).length at0 ++ [at0], at0 + 1)).snd.snd)
abbrev D0 (s : c5) (l : List d7) (fr : List Int) (at0 : Int) (d : Int) := n4 s.body (d + 1) (l ++ c8 s.value 0 ++ [d7.mk 9 0 0 0 0], fr ++ cg4 (c8 s.value 0).length at0 ++ [at0], at0 + 1)
abbrev au1 (s : c5) (l : List d7) (fr : List Int) (at0 : Int) (d : Int) := n4 s.body (d + 1) (l ++ c8 s.value 0 ++ [d7.mk 1 (9 + d) s.count 0 0], fr ++ cg4 (c8 s.value 0).length at0 ++ [at0], at0 + 1)
abbrev ag8 (s : c5) (l : List d7) (fr : List Int) (at0 : Int) (d : Int) := n4 s.body (d + 1) (l ++ [d7.mk 1 (9 + d) s.count 0 0], fr ++ [at0], at0 + 1)
abbrev V2 (s : c5) (l : List d7) (fr : List Int) (at0 : Int) (d : Int) : List It := [.dead, .dead, dE s.index.kids, dE s.value.kids, dT s.body, dT s.els, .row 86 (D.instrs (R7 s d (l, fr, at0)).fst), .row 3 (D.ints (R7 s d (l, fr, at0)).snd.fst)]
abbrev bu0 (s : c5) (l : List d7) (fr : List Int) (at0 : Int) (d : Int) : It := .row 86 (D.instrs ((P7 s l fr at0 d).fst.set (D0 s l fr at0 d).fst.length (d7.mk ((P7 s l fr at0 d).fst.getD (D0 s l fr at0 d).fst.length cg3).op ((P7 s l fr at0 d).fst.length : Int) ((P7 s l fr at0 d).fst.getD (D0 s l fr at0 d).fst.length cg3).b ((P7 s l fr at0 d).fst.getD (D0 s l fr at0 d).fst.length cg3).c ((P7 s l fr at0 d).fst.getD (D0 s l fr at0 d).fst.length cg3).d)))
abbrev O2 : It := .box [.v (.slice none 0 0), .v (.slice none 0 0), iA 0]
abbrev ad3 (at0 : Int) : It := .box [.ref 9, .ref 10, iA (at0 + 1)]
abbrev aS2 (s : c5) (fr : List Int) (at0 : Int) : It := .row 3 (D.ints (fr ++ cg4 (c8 s.value 0).length at0 ++ [at0]))
abbrev H5 (s : c5) (r0 : List It) : List It := .dead :: .dead :: dE s.index.kids :: dE s.value.kids :: dT s.body :: dT s.els :: r0
abbrev G3 (at0 : Int) (d : Int) (r0 : List (Nat × AV)) : List (Nat × AV) := (2, iA d) :: (3, .ptr 6 0) :: (4, .ptr 7 0) :: (6, .ptr 8 0) :: (7, iA at0) :: r0
theorem a09 (nv na dd : Nat) (s : c5) (hh : D8 nv na s = true) (hbb : s.body.all (j6 nv na dd) = true) (hbe : s.els.all (j6 nv na dd) = true)
    (ih : ∀ (tt : List c5) (l : List d7) (fr : List Int) (at0 d : Int), tt.all (j6 nv na dd) = true → l.length + 4 * j5 tt ≤ 5000000 → fr.length = l.length → 0 ≤ d → d + dd ≤ 100 → 0 ≤ at0 → at0 + U9 tt ≤ 5000000 → j9.ok Tryz.prog (lrC l fr at0 tt d))
    (l : List d7) (fr : List Int) (at0 d : Int) (r1 : l.length + (4 + 4 * K0 s) ≤ 5000000) (r2 : fr.length = l.length) (r3 : 0 ≤ d) (r4 : d + (dd + 1) ≤ 100) (r5 : 0 ≤ at0) (r6 : at0 + nS s ≤ 5000000) : j9.ok Tryz.prog (lqC l fr at0 s d) := by
  refine F9 130 Tryz.func199 [.row 86 (D.instrs l), .row 3 (D.ints fr), dE s.index.kids, dE s.value.kids, dT s.body, dT s.els] [(0, .agg [.ref 0, .ref 1, iA at0]), (1, sA s 2), (2, iA d)] fun G => ?_; have hn := av4 s; have hft := b76 r1
  have hsz : K0 s = z6 s.index + z6 s.value + j5 s.body + j5 s.els := by cases s; rfl
  have hv := Y4 s.value 0; refine wp_seq (j7 G f7 [0, 1, 2, 3, 4, 5, 6, 14, 22] [.row 86 (D.instrs l), .row 3 (D.ints fr), dE s.index.kids, dE s.value.kids, dT s.body, dT s.els, .box [.ref 0, .ref 1, iA at0], .box (sL s 2), O2] [(2, iA d), (3, .ptr 6 0), (4, .ptr 7 0), (6, .ptr 8 0)] fun G => b6 (wp_seq (k8 G f7 [(7, iA at0)] fun G => b6 (wp_seq (N4 G f7 (rg 9) [.row 86 (D.instrs l), .row 3 (D.ints fr), dE s.index.kids, dE s.value.kids, dT s.body, dT s.els, .box [.ref 0, .ref 1, iA (at0 + 1)], .box (sL s 2), O2] (G3 at0 d []) [wO (at0 + 1)] (o1 (by omega)) fun G => b6 (wp_seq (wp_seq (k8 G f7 [(20, bA (s.kind != 4))] fun G => b6 (rcN G (fun h0 q0 => ?_) fun h0 q0 => ?_)))))))))
  ·
   refine wp_skip (b6 (wp_seq (wp_seq (k8 G f7 [(27, iA s.kind)] fun G => b6 (wp_block (wp_seq (D7 G f7 (G3 at0 d [(27, iA s.kind), (28, bA (s.kind == 1))]) fun G => b6 ?_))))))); cases h1 : (s.kind == 1)
   ·
    have q1 := ne_of_beq_false h1; refine rF G _ h1 (wp_seq (D7 G f7 (G3 at0 d [(27, iA s.kind), (36, bA (s.kind == 5))]) fun G => b6 ?_)); cases h2 : (s.kind == 5)
    ·
     have q2 := ne_of_beq_false h2; refine rF G _ h2 (wp_seq (D7 G f7 (G3 at0 d [(27, iA s.kind), (48, bA (s.kind == 2))]) fun G => b6 ?_)); cases h3 : (s.kind == 2)
     ·
      have q3 := ne_of_beq_false h3; refine rF G _ h3 (wp_seq (D7 G f7 (G3 at0 d [(61, bA (s.kind == 3))]) fun G => b6 ?_)); cases h4 : (s.kind == 3)
      · have q4 := ne_of_beq_false h4; refine rF G _ h4 (wp_skip (l0 (b6 (wp_seq (E1 G f7 [(10, iA (9 + d))] [wO ((9 : Int) + d)] (o1 (by omega)) fun G => b6 (wp_seq (j7 G (s6 6 [0, 1] (G0 l fr (at0 + 1) at0 1 (9 + d) s.count 0 0 (by omega) (by omega))) [0, 1, 2, 3, 4, 5, 6, 7, 8, 57, 58] (H5 s [ad3 at0, .box (sL s 2), O2, .row 86 (D.instrs (l ++ [d7.mk 1 (9 + d) s.count 0 0])), .row 3 (D.ints (fr ++ [at0]))]) (G3 at0 d [(10, iA (9 + d))]) fun G => b6 (wp_seq (k8 G f7 [(11, iA ((l ++ [d7.mk 1 (9 + d) s.count 0 0]).length : Int))] fun G => b6 (wp_seq (N4 G (s6 5 [9, 10, 4] (ih s.body (l ++ [d7.mk 1 (9 + d) s.count 0 0]) (fr ++ [at0]) (at0 + 1) (d + 1) (by assumption) (by simp only [cg9, ci5, ch2, ch6, r2]; have := hft.2.2.2.2; simp only [cg9] at this; omega) (by have := hft.2.2.2.2; simp only [cg9, ch2, ch6] at this ⊢; omega) (by omega) (by omega) (by omega) (by omega))) [0, 1, 2, 3, 4, 5, 6, 8, 51, 52] (H5 s [.box [.ref 8, .ref 9, iA (ag8 s l fr at0 d).snd.snd], O2, .row 86 (D.instrs (ag8 s l fr at0 d).fst), .row 3 (D.ints (ag8 s l fr at0 d).snd.fst)]) [(3, .ptr 6 0), (6, .ptr 7 0), (7, iA at0), (10, iA (9 + d)), (11, iA ((l ++ [d7.mk 1 (9 + d) s.count 0 0]).length : Int))] [wO (d + 1)] (o1 (by omega)) fun G => b6 (wp_seq (j7 G (s6 5 [8, 9] (G0 ((n4 s.body (d + 1) (l ++ [d7.mk 1 (9 + d) s.count 0 0], fr ++ [at0], at0 + 1)).fst) ((n4 s.body (d + 1) (l ++ [d7.mk 1 (9 + d) s.count 0 0], fr ++ [at0], at0 + 1)).snd.fst) ((n4 s.body (d + 1) (l ++ [d7.mk 1 (9 + d) s.count 0 0], fr ++ [at0], at0 + 1)).snd.snd) at0 10 (9 + d) (((l ++ [d7.mk 1 (9 + d) s.count 0 0]).length : Int)) 0 0 (by have := (N0 s.body (d + 1) (l ++ [⟨1, 9 + d, s.count, 0, 0⟩], fr ++ [at0], at0 + 1)); have := Q5 s.body; simp only [cg9, ch2, ch6] at *; omega) (by have := (N0 s.body (d + 1) (l ++ [⟨1, 9 + d, s.count, 0, 0⟩], fr ++ [at0], at0 + 1)); have := Q5 s.body; simp only [cg9, ch2, ch6] at *; omega))) [0, 1, 2, 3, 4, 5, 7, 50, 51] (H5 s [.box [.ref 7, .ref 8, iA (ag8 s l fr at0 d).snd.snd], .row 86 (D.instrs ((ag8 s l fr at0 d).fst ++ [d7.mk 10 (9 + d) ((l ++ [d7.mk 1 (9 + d) s.count 0 0]).length : Int) 0 0])), .row 3 (D.ints ((ag8 s l fr at0 d).snd.fst ++ [at0]))]) [(6, .ptr 6 0)] fun G => b6 (wp_ret ?_)))))))))))))); exact T3 (.agg [.ref 7, .ref 8, iA (n4 s.body (d + 1) (l ++ [d7.mk 1 (9 + d) s.count 0 0], fr ++ [at0], at0 + 1)).snd.snd]) G [0, 1, 2, 3, 4, 5, 7, 8] (by have e1 : ((R7 s d (l, fr, at0)).snd.snd : Int) = ((n4 s.body (d + 1) (l ++ [d7.mk 1 (9 + d) s.count 0 0], fr ++ [at0], at0 + 1)).snd.snd) := (by have h9 := congrArg (fun x : I4 => x.2.2) (cm4 (l := l) (fr := fr) (at0 := at0) (d := d) (s := s) (by omega)); exact h9); (first | rw [e1] | simp only [e1]) <;> rfl) (by show _ = mR [0, 1, 2, 3, 4, 5, 7, 8] (V2 s l fr at0 d); unfold V2; have e1 : ((R7 s d (l, fr, at0)).fst : List d7) = ((ag8 s l fr at0 d).fst ++ [d7.mk 10 (9 + d) ((l ++ [d7.mk 1 (9 + d) s.count 0 0]).length : Int) 0 0]) := (congrArg Prod.fst (cm4 (by omega))); have e2 : ((R7 s d (l, fr, at0)).snd.fst : List Int) = ((ag8 s l fr at0 d).snd.fst ++ [at0]) := (congrArg (fun x : I4 => x.2.1) (cm4 (by omega))); (first | rw [e1, e2] | simp only [e1, e2]) <;> rfl)
      · have q4 := eq_of_beq h4; exact False.elim (by omega)
     · have q3 := eq_of_beq h3; exact False.elim (by omega)
    · have q2 := eq_of_beq h2; exact False.elim (by omega)
   · have q1 := eq_of_beq h1; exact False.elim (by omega)
  ·
   refine j7 G (s6 4 [0, 1, 3] (a64 s.value l fr (at0 + 1) at0 0 (by omega) (by omega) (by omega) (by assumption))) [0, 1, 2, 3, 4, 5, 6, 7, 8, 41, 42] (H5 s [ad3 at0, .box (sL s 2), O2, .row 86 (D.instrs (l ++ c8 s.value 0)), .row 3 (D.ints (fr ++ cg4 (c8 s.value 0).length at0))]) (G3 at0 d []) fun G => b6 (wp_seq (wp_seq (k8 G f7 [(27, iA s.kind)] fun G => b6 (wp_block (wp_seq (k8 G f7 [(28, bA (s.kind == 1))] fun G => b6 (J4 G (fun h5 q5 => ?_) fun h5 q5 => ?_)))))))
   ·
    refine wp_seq (k8 G f7 [(36, bA (s.kind == 5))] fun G => b6 (J4 G (fun h6 q6 => ?_) fun h6 q6 => ?_))
    ·
     refine wp_seq (k8 G f7 [(48, bA (s.kind == 2))] fun G => b6 (J4 G (fun h7 q7 => ?_) fun h7 q7 => ?_))
     ·
      refine wp_seq (k8 G f7 [(61, bA (s.kind == 3))] fun G => b6 (J4 G (fun h8 q8 => ?_) fun h8 q8 => ?_))
      · refine wp_skip (l0 (b6 (wp_seq (E1 G f7 [(10, iA (9 + d))] [wO ((9 : Int) + d)] (o1 (by omega)) fun G => b6 (wp_seq (j7 G (s6 6 [9, 10] (G0 (l ++ c8 s.value 0) (fr ++ cg4 (c8 s.value 0).length at0) (at0 + 1) at0 1 (9 + d) s.count 0 0 (by omega) (by simp only [cg9, ci5, ch2, ch6, r2]; have := hft.2.2.2.2; simp only [cg9] at this; omega))) [0, 1, 2, 3, 4, 5, 6, 7, 8, 59, 60] (H5 s [ad3 at0, .box (sL s 2), O2, .row 86 (D.instrs (l ++ c8 s.value 0 ++ [d7.mk 1 (9 + d) s.count 0 0])), aS2 s fr at0]) (G3 at0 d [(10, iA (9 + d))]) fun G => b6 (wp_seq (k8 G f7 [(11, iA ((l ++ c8 s.value 0 ++ [d7.mk 1 (9 + d) s.count 0 0]).length : Int))] fun G => b6 (wp_seq (N4 G (s6 5 [9, 10, 4] (ih s.body (l ++ c8 s.value 0 ++ [d7.mk 1 (9 + d) s.count 0 0]) (fr ++ cg4 (c8 s.value 0).length at0 ++ [at0]) (at0 + 1) (d + 1) (by assumption) (by simp only [cg9, ci5, ch2, ch6, r2]; have := hft.2.2.2.2; simp only [cg9] at this; omega) (by exact absurd (hh.symm.trans (an3 (by omega))) (by decide)) (by omega) (by omega) (by omega) (by omega))) [0, 1, 2, 3, 4, 5, 6, 8, 51, 52] (H5 s [.box [.ref 8, .ref 9, iA (au1 s l fr at0 d).snd.snd], O2, .row 86 (D.instrs (au1 s l fr at0 d).fst), .row 3 (D.ints (au1 s l fr at0 d).snd.fst)]) [(3, .ptr 6 0), (6, .ptr 7 0), (7, iA at0), (10, iA (9 + d)), (11, iA ((l ++ c8 s.value 0 ++ [d7.mk 1 (9 + d) s.count 0 0]).length : Int))] [wO (d + 1)] (o1 (by omega)) fun G => b6 (wp_seq (j7 G (s6 5 [8, 9] (G0 ((n4 s.body (d + 1) (l ++ c8 s.value 0 ++ [d7.mk 1 (9 + d) s.count 0 0], fr ++ cg4 (c8 s.value 0).length at0 ++ [at0], at0 + 1)).fst) ((n4 s.body (d + 1) (l ++ c8 s.value 0 ++ [d7.mk 1 (9 + d) s.count 0 0], fr ++ cg4 (c8 s.value 0).length at0 ++ [at0], at0 + 1)).snd.fst) ((n4 s.body (d + 1) (l ++ c8 s.value 0 ++ [d7.mk 1 (9 + d) s.count 0 0], fr ++ cg4 (c8 s.value 0).length at0 ++ [at0], at0 + 1)).snd.snd) at0 10 (9 + d) (((l ++ c8 s.value 0 ++ [d7.mk 1 (9 + d) s.count 0 0]).length : Int)) 0 0 (by exact absurd (hh.symm.trans (an3 (by omega))) (by decide)) (by exact absurd (hh.symm.trans (an3 (by omega))) (by decide)))) [0, 1, 2, 3, 4, 5, 7, 50, 51] (H5 s [.box [.ref 7, .ref 8, iA (au1 s l fr at0 d).snd.snd], .row 86 (D.instrs ((au1 s l fr at0 d).fst ++ [d7.mk 10 (9 + d) ((l ++ c8 s.value 0 ++ [d7.mk 1 (9 + d) s.count 0 0]).length : Int) 0 0])), .row 3 (D.ints ((au1 s l fr at0 d).snd.fst ++ [at0]))]) [(6, .ptr 6 0)] fun G => b6 (wp_ret ?_))))))))))))); exact T3 (.agg [.ref 7, .ref 8, iA (n4 s.body (d + 1) (l ++ c8 s.value 0 ++ [d7.mk 1 (9 + d) s.count 0 0], fr ++ cg4 (c8 s.value 0).length at0 ++ [at0], at0 + 1)).snd.snd]) G [0, 1, 2, 3, 4, 5, 7, 8] (by have e1 : ((R7 s d (l, fr, at0)).snd.snd : Int) = ((n4 s.body (d + 1) (l ++ c8 s.value 0 ++ [d7.mk 1 (9 + d) s.count 0 0], fr ++ cg4 (c8 s.value 0).length at0 ++ [at0], at0 + 1)).snd.snd) := (by exact absurd (hh.symm.trans (an3 (by omega))) (by decide)); (first | rw [e1] | simp only [e1]) <;> rfl) (by show _ = mR [0, 1, 2, 3, 4, 5, 7, 8] (V2 s l fr at0 d); unfold V2; have e1 : ((R7 s d (l, fr, at0)).fst : List d7) = ((n4 s.body (d + 1) (l ++ c8 s.value 0 ++ [d7.mk 1 (9 + d) s.count 0 0], fr ++ cg4 (c8 s.value 0).length at0 ++ [at0], at0 + 1)).fst ++ [d7.mk 10 (9 + d) ((l ++ c8 s.value 0 ++ [d7.mk 1 (9 + d) s.count 0 0]).length : Int) 0 0]) := (by exact absurd (hh.symm.trans (an3 (by omega))) (by decide)); have e2 : ((R7 s d (l, fr, at0)).snd.fst : List Int) = ((n4 s.body (d + 1) (l ++ c8 s.value 0 ++ [d7.mk 1 (9 + d) s.count 0 0], fr ++ cg4 (c8 s.value 0).length at0 ++ [at0], at0 + 1)).snd.fst ++ [at0]) := (by exact absurd (hh.symm.trans (an3 (by omega))) (by decide)); (first | rw [e1, e2] | simp only [e1, e2]) <;> rfl)
      ·
       refine wp_seq (k8 G f7 [(8, iA ((l ++ c8 s.value 0).length : Int))] fun G => b6 (wp_seq (j7 G (s6 3 [9, 10] (G0 (l ++ c8 s.value 0) (fr ++ cg4 (c8 s.value 0).length at0) (at0 + 1) at0 9 0 0 0 0 (by omega) (by simp only [cg9, ci5, ch2, ch6, r2]; have := hft.2.2.2.2; simp only [cg9] at this; omega))) [0, 1, 2, 3, 4, 5, 6, 7, 8, 35, 36] (H5 s [ad3 at0, .box (sL s 2), O2, .row 86 (D.instrs (l ++ c8 s.value 0 ++ [d7.mk 9 0 0 0 0])), aS2 s fr at0]) (G3 at0 d [(8, iA ((l ++ c8 s.value 0).length : Int))]) fun G => b6 (wp_seq (N4 G (s6 5 [9, 10, 4] (ih s.body (l ++ c8 s.value 0 ++ [d7.mk 9 0 0 0 0]) (fr ++ cg4 (c8 s.value 0).length at0 ++ [at0]) (at0 + 1) (d + 1) (by assumption) (by simp only [cg9, ci5, ch2, ch6, r2]; have := hft.2.2.2.2; simp only [cg9] at this; omega) (by simp; omega) (by omega) (by omega) (by omega) (by omega))) [0, 1, 2, 3, 4, 5, 6, 7, 8, 51, 52] (H5 s [.box [.ref 9, .ref 10, iA (D0 s l fr at0 d).snd.snd], .box (sL s 2), O2, .row 86 (D.instrs (D0 s l fr at0 d).fst), .row 3 (D.ints (D0 s l fr at0 d).snd.fst)]) (G3 at0 d [(8, iA ((l ++ c8 s.value 0).length : Int))]) [wO (d + 1)] (o1 (by omega)) fun G => b6 (wp_seq (k8 G f7 [(9, iA ((D0 s l fr at0 d).fst.length : Int))] fun G => b6 (wp_seq (j7 G (s6 3 [9, 10] (G0 ((n4 s.body (d + 1) (l ++ c8 s.value 0 ++ [d7.mk 9 0 0 0 0], fr ++ cg4 (c8 s.value 0).length at0 ++ [at0], at0 + 1)).fst) ((n4 s.body (d + 1) (l ++ c8 s.value 0 ++ [d7.mk 9 0 0 0 0], fr ++ cg4 (c8 s.value 0).length at0 ++ [at0], at0 + 1)).snd.fst) ((n4 s.body (d + 1) (l ++ c8 s.value 0 ++ [d7.mk 9 0 0 0 0], fr ++ cg4 (c8 s.value 0).length at0 ++ [at0], at0 + 1)).snd.snd) at0 8 0 0 0 0 (by have h9 := N0 s.body (d + 1) (l ++ c8 s.value 0 ++ [⟨9, 0, 0, 0, 0⟩], fr ++ cg4 (c8 s.value 0).length at0 ++ [at0], at0 + 1); have h8 := Q5 s.body; simp only [cg9, ch2, ch6, ci5, cj1, r2] at h9 ⊢; omega) (by have h9 := N0 s.body (d + 1) (l ++ c8 s.value 0 ++ [⟨9, 0, 0, 0, 0⟩], fr ++ cg4 (c8 s.value 0).length at0 ++ [at0], at0 + 1); have h8 := Q5 s.body; simp only [cg9, ch2, ch6, ci5, cj1, r2] at h9 ⊢; omega))) [0, 1, 2, 3, 4, 5, 6, 7, 8, 35, 36] (H5 s [.box [.ref 9, .ref 10, iA (D0 s l fr at0 d).snd.snd], .box (sL s 2), O2, .row 86 (D.instrs ((D0 s l fr at0 d).fst ++ [d7.mk 8 0 0 0 0])), .row 3 (D.ints ((D0 s l fr at0 d).snd.fst ++ [at0]))]) (G3 at0 d [(8, iA ((l ++ c8 s.value 0).length : Int)), (9, iA ((D0 s l fr at0 d).fst.length : Int))]) fun G => b6 (wp_seq (N4 G f7 (rg 11) (H5 s [.box [.ref 9, .ref 10, iA (D0 s l fr at0 d).snd.snd], .box (sL s 2), O2, .row 86 (D.instrs (((D0 s l fr at0 d).fst ++ [d7.mk 8 0 0 0 0]).set (l ++ c8 s.value 0).length (d7.mk (((D0 s l fr at0 d).fst ++ [d7.mk 8 0 0 0 0]).getD (l ++ c8 s.value 0).length cg3).op (((D0 s l fr at0 d).fst ++ [d7.mk 8 0 0 0 0]).getD (l ++ c8 s.value 0).length cg3).a (((D0 s l fr at0 d).fst ++ [d7.mk 8 0 0 0 0]).length : Int) (((D0 s l fr at0 d).fst ++ [d7.mk 8 0 0 0 0]).getD (l ++ c8 s.value 0).length cg3).c (((D0 s l fr at0 d).fst ++ [d7.mk 8 0 0 0 0]).getD (l ++ c8 s.value 0).length cg3).d))), .row 3 (D.ints ((D0 s l fr at0 d).snd.fst ++ [at0]))]) (G3 at0 d [(9, iA ((D0 s l fr at0 d).fst.length : Int))]) [(0 : Int) ≤ ((l ++ c8 s.value (0 : Int)).length : Int), ((l ++ c8 s.value (0 : Int)).length : Int) < (((n4 s.body (d + 1) (l ++ c8 s.value (0 : Int) ++ [d7.mk (9 : Int) (0 : Int) (0 : Int) (0 : Int) (0 : Int)], fr ++ cg4 (c8 s.value (0 : Int)).length at0 ++ [at0], at0 + 1)).fst ++ [d7.mk (8 : Int) (0 : Int) (0 : Int) (0 : Int) (0 : Int)]).length : Int), (l ++ c8 s.value (0 : Int)).length < ((n4 s.body (d + 1) (l ++ c8 s.value (0 : Int) ++ [d7.mk (9 : Int) (0 : Int) (0 : Int) (0 : Int) (0 : Int)], fr ++ cg4 (c8 s.value (0 : Int)).length at0 ++ [at0], at0 + 1)).fst ++ [d7.mk (8 : Int) (0 : Int) (0 : Int) (0 : Int) (0 : Int)]).length] ⟨(by omega), (by simp only [aj3, cj1, cg9, ch2, ch6]; omega), (by simp only [aj3, cj1, cg9, ch2, ch6]; omega), ch8⟩ fun G => ?_)))))))))))
       refine b6 (wp_seq (N4 G (s6 5 [9, 10, 5] (ih s.els (((n4 s.body (d + 1) (l ++ c8 s.value 0 ++ [d7.mk 9 0 0 0 0], fr ++ cg4 (c8 s.value 0).length at0 ++ [at0], at0 + 1)).fst ++ [d7.mk 8 0 0 0 0]).set (l ++ c8 s.value 0).length (d7.mk (((n4 s.body (d + 1) (l ++ c8 s.value 0 ++ [d7.mk 9 0 0 0 0], fr ++ cg4 (c8 s.value 0).length at0 ++ [at0], at0 + 1)).fst ++ [d7.mk 8 0 0 0 0]).getD (l ++ c8 s.value 0).length cg3).op (((n4 s.body (d + 1) (l ++ c8 s.value 0 ++ [d7.mk 9 0 0 0 0], fr ++ cg4 (c8 s.value 0).length at0 ++ [at0], at0 + 1)).fst ++ [d7.mk 8 0 0 0 0]).getD (l ++ c8 s.value 0).length cg3).a (((n4 s.body (d + 1) (l ++ c8 s.value 0 ++ [d7.mk 9 0 0 0 0], fr ++ cg4 (c8 s.value 0).length at0 ++ [at0], at0 + 1)).fst ++ [d7.mk 8 0 0 0 0]).length : Int) (((n4 s.body (d + 1) (l ++ c8 s.value 0 ++ [d7.mk 9 0 0 0 0], fr ++ cg4 (c8 s.value 0).length at0 ++ [at0], at0 + 1)).fst ++ [d7.mk 8 0 0 0 0]).getD (l ++ c8 s.value 0).length cg3).c (((n4 s.body (d + 1) (l ++ c8 s.value 0 ++ [d7.mk 9 0 0 0 0], fr ++ cg4 (c8 s.value 0).length at0 ++ [at0], at0 + 1)).fst ++ [d7.mk 8 0 0 0 0]).getD (l ++ c8 s.value 0).length cg3).d)) ((n4 s.body (d + 1) (l ++ c8 s.value 0 ++ [d7.mk 9 0 0 0 0], fr ++ cg4 (c8 s.value 0).length at0 ++ [at0], at0 + 1)).snd.fst ++ [at0]) ((n4 s.body (d + 1) (l ++ c8 s.value 0 ++ [d7.mk 9 0 0 0 0], fr ++ cg4 (c8 s.value 0).length at0 ++ [at0], at0 + 1)).snd.snd) (d + 1) (by assumption) (by have h9 := N0 s.body (d + 1) (l ++ c8 s.value 0 ++ [⟨9, 0, 0, 0, 0⟩], fr ++ cg4 (c8 s.value 0).length at0 ++ [at0], at0 + 1); have h8 := Q5 s.body; simp only [cg9, ch2, ch6, ci5, cj1, r2] at h9 ⊢; omega) (by have h9 := N0 s.body (d + 1) (l ++ c8 s.value 0 ++ [⟨9, 0, 0, 0, 0⟩], fr ++ cg4 (c8 s.value 0).length at0 ++ [at0], at0 + 1); have h8 := Q5 s.body; simp only [cg9, ch2, ch6, ci5, cj1, r2] at h9 ⊢; omega) (by omega) (by omega) (by have h9 := aj4 s.body (d + 1) (l ++ c8 s.value 0 ++ [⟨9, 0, 0, 0, 0⟩], fr ++ cg4 (c8 s.value 0).length at0 ++ [at0], at0 + 1); simp only at h9; omega) (by have h9 := aj4 s.body (d + 1) (l ++ c8 s.value 0 ++ [⟨9, 0, 0, 0, 0⟩], fr ++ cg4 (c8 s.value 0).length at0 ++ [at0], at0 + 1); simp only at h9; omega))) [0, 1, 2, 3, 4, 5, 6, 7, 8, 51, 52] (H5 s [.box [.ref 9, .ref 10, iA (P7 s l fr at0 d).snd.snd], .box (sL s 2), O2, .row 86 (D.instrs (P7 s l fr at0 d).fst), .row 3 (D.ints (P7 s l fr at0 d).snd.fst)]) (G3 at0 d [(9, iA ((D0 s l fr at0 d).fst.length : Int))]) [wO (d + 1)] (o1 (by omega)) fun G => b6 (wp_seq (N4 G f7 (rg 11) (H5 s [.box [.ref 9, .ref 10, iA (P7 s l fr at0 d).snd.snd], .box (sL s 2), O2, bu0 s l fr at0 d, .row 3 (D.ints (P7 s l fr at0 d).snd.fst)]) (G3 at0 d []) [(0 : Int) ≤ ((n4 s.body (d + 1) (l ++ c8 s.value (0 : Int) ++ [d7.mk (9 : Int) (0 : Int) (0 : Int) (0 : Int) (0 : Int)], fr ++ cg4 (c8 s.value (0 : Int)).length at0 ++ [at0], at0 + 1)).fst.length : Int), ((n4 s.body (d + 1) (l ++ c8 s.value (0 : Int) ++ [d7.mk (9 : Int) (0 : Int) (0 : Int) (0 : Int) (0 : Int)], fr ++ cg4 (c8 s.value (0 : Int)).length at0 ++ [at0], at0 + 1)).fst.length : Int) < ((n4 s.els (d + 1) (((n4 s.body (d + 1) (l ++ c8 s.value (0 : Int) ++ [d7.mk (9 : Int) (0 : Int) (0 : Int) (0 : Int) (0 : Int)], fr ++ cg4 (c8 s.value (0 : Int)).length at0 ++ [at0], at0 + 1)).fst ++ [d7.mk (8 : Int) (0 : Int) (0 : Int) (0 : Int) (0 : Int)]).set (l ++ c8 s.value (0 : Int)).length (d7.mk (((n4 s.body (d + 1) (l ++ c8 s.value (0 : Int) ++ [d7.mk (9 : Int) (0 : Int) (0 : Int) (0 : Int) (0 : Int)], fr ++ cg4 (c8 s.value (0 : Int)).length at0 ++ [at0], at0 + 1)).fst ++ [d7.mk (8 : Int) (0 : Int) (0 : Int) (0 : Int) (0 : Int)]).getD (l ++ c8 s.value (0 : Int)).length cg3).op (((n4 s.body (d + 1) (l ++ c8 s.value (0 : Int) ++ [d7.mk (9 : Int) (0 : Int) (0 : Int) (0 : Int) (0 : Int)], fr ++ cg4 (c8 s.value (0 : Int)).length at0 ++ [at0], at0 + 1)).fst ++ [d7.mk (8 : Int) (0 : Int) (0 : Int) (0 : Int) (0 : Int)]).getD (l ++ c8 s.value (0 : Int)).length cg3).a (((n4 s.body (d + 1) (l ++ c8 s.value (0 : Int) ++ [d7.mk (9 : Int) (0 : Int) (0 : Int) (0 : Int) (0 : Int)], fr ++ cg4 (c8 s.value (0 : Int)).length at0 ++ [at0], at0 + 1)).fst ++ [d7.mk (8 : Int) (0 : Int) (0 : Int) (0 : Int) (0 : Int)]).length : Int) (((n4 s.body (d + 1) (l ++ c8 s.value (0 : Int) ++ [d7.mk (9 : Int) (0 : Int) (0 : Int) (0 : Int) (0 : Int)], fr ++ cg4 (c8 s.value (0 : Int)).length at0 ++ [at0], at0 + 1)).fst ++ [d7.mk (8 : Int) (0 : Int) (0 : Int) (0 : Int) (0 : Int)]).getD (l ++ c8 s.value (0 : Int)).length cg3).c (((n4 s.body (d + 1) (l ++ c8 s.value (0 : Int) ++ [d7.mk (9 : Int) (0 : Int) (0 : Int) (0 : Int) (0 : Int)], fr ++ cg4 (c8 s.value (0 : Int)).length at0 ++ [at0], at0 + 1)).fst ++ [d7.mk (8 : Int) (0 : Int) (0 : Int) (0 : Int) (0 : Int)]).getD (l ++ c8 s.value (0 : Int)).length cg3).d), (n4 s.body (d + 1) (l ++ c8 s.value (0 : Int) ++ [d7.mk (9 : Int) (0 : Int) (0 : Int) (0 : Int) (0 : Int)], fr ++ cg4 (c8 s.value (0 : Int)).length at0 ++ [at0], at0 + 1)).snd.fst ++ [at0], (n4 s.body (d + 1) (l ++ c8 s.value (0 : Int) ++ [d7.mk (9 : Int) (0 : Int) (0 : Int) (0 : Int) (0 : Int)], fr ++ cg4 (c8 s.value (0 : Int)).length at0 ++ [at0], at0 + 1)).snd.snd)).fst.length : Int), (n4 s.body (d + 1) (l ++ c8 s.value (0 : Int) ++ [d7.mk (9 : Int) (0 : Int) (0 : Int) (0 : Int) (0 : Int)], fr ++ cg4 (c8 s.value (0 : Int)).length at0 ++ [at0], at0 + 1)).fst.length < (n4 s.els (d + 1) (((n4 s.body (d + 1) (l ++ c8 s.value (0 : Int) ++ [d7.mk (9 : Int) (0 : Int) (0 : Int) (0 : Int) (0 : Int)], fr ++ cg4 (c8 s.value (0 : Int)).length at0 ++ [at0], at0 + 1)).fst ++ [d7.mk (8 : Int) (0 : Int) (0 : Int) (0 : Int) (0 : Int)]).set (l ++ c8 s.value (0 : Int)).length (d7.mk (((n4 s.body (d + 1) (l ++ c8 s.value (0 : Int) ++ [d7.mk (9 : Int) (0 : Int) (0 : Int) (0 : Int) (0 : Int)], fr ++ cg4 (c8 s.value (0 : Int)).length at0 ++ [at0], at0 + 1)).fst ++ [d7.mk (8 : Int) (0 : Int) (0 : Int) (0 : Int) (0 : Int)]).getD (l ++ c8 s.value (0 : Int)).length cg3).op (((n4 s.body (d + 1) (l ++ c8 s.value (0 : Int) ++ [d7.mk (9 : Int) (0 : Int) (0 : Int) (0 : Int) (0 : Int)], fr ++ cg4 (c8 s.value (0 : Int)).length at0 ++ [at0], at0 + 1)).fst ++ [d7.mk (8 : Int) (0 : Int) (0 : Int) (0 : Int) (0 : Int)]).getD (l ++ c8 s.value (0 : Int)).length cg3).a (((n4 s.body (d + 1) (l ++ c8 s.value (0 : Int) ++ [d7.mk (9 : Int) (0 : Int) (0 : Int) (0 : Int) (0 : Int)], fr ++ cg4 (c8 s.value (0 : Int)).length at0 ++ [at0], at0 + 1)).fst ++ [d7.mk (8 : Int) (0 : Int) (0 : Int) (0 : Int) (0 : Int)]).length : Int) (((n4 s.body (d + 1) (l ++ c8 s.value (0 : Int) ++ [d7.mk (9 : Int) (0 : Int) (0 : Int) (0 : Int) (0 : Int)], fr ++ cg4 (c8 s.value (0 : Int)).length at0 ++ [at0], at0 + 1)).fst ++ [d7.mk (8 : Int) (0 : Int) (0 : Int) (0 : Int) (0 : Int)]).getD (l ++ c8 s.value (0 : Int)).length cg3).c (((n4 s.body (d + 1) (l ++ c8 s.value (0 : Int) ++ [d7.mk (9 : Int) (0 : Int) (0 : Int) (0 : Int) (0 : Int)], fr ++ cg4 (c8 s.value (0 : Int)).length at0 ++ [at0], at0 + 1)).fst ++ [d7.mk (8 : Int) (0 : Int) (0 : Int) (0 : Int) (0 : Int)]).getD (l ++ c8 s.value (0 : Int)).length cg3).d), (n4 s.body (d + 1) (l ++ c8 s.value (0 : Int) ++ [d7.mk (9 : Int) (0 : Int) (0 : Int) (0 : Int) (0 : Int)], fr ++ cg4 (c8 s.value (0 : Int)).length at0 ++ [at0], at0 + 1)).snd.fst ++ [at0], (n4 s.body (d + 1) (l ++ c8 s.value (0 : Int) ++ [d7.mk (9 : Int) (0 : Int) (0 : Int) (0 : Int) (0 : Int)], fr ++ cg4 (c8 s.value (0 : Int)).length at0 ++ [at0], at0 + 1)).snd.snd)).fst.length] ⟨(by omega), (by simp only [aj3, cj1, cg9, ch2, ch6]; omega), (by simp only [aj3, cj1, cg9, ch2, ch6]; omega), ch8⟩ fun G => ?_))))
       refine b6 (wp_seq (j7 G f7 (rg 11) (H5 s [.box [.ref 9, .ref 10, iA (P7 s l fr at0 d).snd.snd], .box (sL s 2), .box [.ref 9, .ref 10, iA (P7 s l fr at0 d).snd.snd], bu0 s l fr at0 d, .row 3 (D.ints (P7 s l fr at0 d).snd.fst)]) (G3 at0 d []) fun G => b6 (wp_ret (z4 (l5 ?_))))); exact T3 (.agg [.ref 9, .ref 10, iA (n4 s.els (d + 1) (((n4 s.body (d + 1) (l ++ c8 s.value 0 ++ [d7.mk 9 0 0 0 0], fr ++ cg4 (c8 s.value 0).length at0 ++ [at0], at0 + 1)).fst ++ [d7.mk 8 0 0 0 0]).set (l ++ c8 s.value 0).length (d7.mk (((n4 s.body (d + 1) (l ++ c8 s.value 0 ++ [d7.mk 9 0 0 0 0], fr ++ cg4 (c8 s.value 0).length at0 ++ [at0], at0 + 1)).fst ++ [d7.mk 8 0 0 0 0]).getD (l ++ c8 s.value 0).length cg3).op (((n4 s.body (d + 1) (l ++ c8 s.value 0 ++ [d7.mk 9 0 0 0 0], fr ++ cg4 (c8 s.value 0).length at0 ++ [at0], at0 + 1)).fst ++ [d7.mk 8 0 0 0 0]).getD (l ++ c8 s.value 0).length cg3).a (((n4 s.body (d + 1) (l ++ c8 s.value 0 ++ [d7.mk 9 0 0 0 0], fr ++ cg4 (c8 s.value 0).length at0 ++ [at0], at0 + 1)).fst ++ [d7.mk 8 0 0 0 0]).length : Int) (((n4 s.body (d + 1) (l ++ c8 s.value 0 ++ [d7.mk 9 0 0 0 0], fr ++ cg4 (c8 s.value 0).length at0 ++ [at0], at0 + 1)).fst ++ [d7.mk 8 0 0 0 0]).getD (l ++ c8 s.value 0).length cg3).c (((n4 s.body (d + 1) (l ++ c8 s.value 0 ++ [d7.mk 9 0 0 0 0], fr ++ cg4 (c8 s.value 0).length at0 ++ [at0], at0 + 1)).fst ++ [d7.mk 8 0 0 0 0]).getD (l ++ c8 s.value 0).length cg3).d), (n4 s.body (d + 1) (l ++ c8 s.value 0 ++ [d7.mk 9 0 0 0 0], fr ++ cg4 (c8 s.value 0).length at0 ++ [at0], at0 + 1)).snd.fst ++ [at0], (n4 s.body (d + 1) (l ++ c8 s.value 0 ++ [d7.mk 9 0 0 0 0], fr ++ cg4 (c8 s.value 0).length at0 ++ [at0], at0 + 1)).snd.snd)).snd.snd]) G [0, 1, 2, 3, 4, 5, 9, 10] (by have e1 : ((R7 s d (l, fr, at0)).snd.snd : Int) = ((n4 s.els (d + 1) (((n4 s.body (d + 1) (l ++ c8 s.value 0 ++ [d7.mk 9 0 0 0 0], fr ++ cg4 (c8 s.value 0).length at0 ++ [at0], at0 + 1)).fst ++ [d7.mk 8 0 0 0 0]).set (l ++ c8 s.value 0).length (d7.mk (((n4 s.body (d + 1) (l ++ c8 s.value 0 ++ [d7.mk 9 0 0 0 0], fr ++ cg4 (c8 s.value 0).length at0 ++ [at0], at0 + 1)).fst ++ [d7.mk 8 0 0 0 0]).getD (l ++ c8 s.value 0).length cg3).op (((n4 s.body (d + 1) (l ++ c8 s.value 0 ++ [d7.mk 9 0 0 0 0], fr ++ cg4 (c8 s.value 0).length at0 ++ [at0], at0 + 1)).fst ++ [d7.mk 8 0 0 0 0]).getD (l ++ c8 s.value 0).length cg3).a (((n4 s.body (d + 1) (l ++ c8 s.value 0 ++ [d7.mk 9 0 0 0 0], fr ++ cg4 (c8 s.value 0).length at0 ++ [at0], at0 + 1)).fst ++ [d7.mk 8 0 0 0 0]).length : Int) (((n4 s.body (d + 1) (l ++ c8 s.value 0 ++ [d7.mk 9 0 0 0 0], fr ++ cg4 (c8 s.value 0).length at0 ++ [at0], at0 + 1)).fst ++ [d7.mk 8 0 0 0 0]).getD (l ++ c8 s.value 0).length cg3).c (((n4 s.body (d + 1) (l ++ c8 s.value 0 ++ [d7.mk 9 0 0 0 0], fr ++ cg4 (c8 s.value 0).length at0 ++ [at0], at0 + 1)).fst ++ [d7.mk 8 0 0 0 0]).getD (l ++ c8 s.value 0).length cg3).d), (n4 s.body (d + 1) (l ++ c8 s.value 0 ++ [d7.mk 9 0 0 0 0], fr ++ cg4 (c8 s.value 0).length at0 ++ [at0], at0 + 1)).snd.fst ++ [at0], (n4 s.body (d + 1) (l ++ c8 s.value 0 ++ [d7.mk 9 0 0 0 0], fr ++ cg4 (c8 s.value 0).length at0 ++ [at0], at0 + 1)).snd.snd)).snd.snd) := (by have h9 := congrArg (fun x : I4 => x.2.2) (cm3 (l := l) (fr := fr) (at0 := at0) (d := d) (s := s) (by omega)); exact h9); (first | rw [e1] | simp only [e1]) <;> rfl) (by show _ = mR [0, 1, 2, 3, 4, 5, 9, 10] (V2 s l fr at0 d); unfold V2; have h9 := cm3 (l := l) (fr := fr) (at0 := at0) (d := d) (s := s) (by omega); rw [h9] <;> rfl)
     · refine wp_seq (j7 G (s6 4 [9, 10, 2] (a64 s.index (l ++ c8 s.value 0) (fr ++ cg4 (c8 s.value 0).length at0) (at0 + 1) at0 1 (by omega) (by omega) (by omega) (by simp only [cg9, ci5, r2]; done))) [0, 1, 2, 3, 4, 5, 6, 7, 8, 43, 44] (H5 s [ad3 at0, .box (sL s 2), O2, .row 86 (D.instrs (l ++ c8 s.value 0 ++ c8 s.index 1)), .row 3 (D.ints (fr ++ cg4 (c8 s.value 0).length at0 ++ cg4 (c8 s.index 1).length at0))]) (G3 at0 d []) fun G => b6 (wp_seq (j7 G (s6 5 [9, 10] (G0 (l ++ c8 s.value 0 ++ c8 s.index 1) (fr ++ cg4 (c8 s.value 0).length at0 ++ cg4 (c8 s.index 1).length at0) (at0 + 1) at0 5 s.target 1 0 0 (by omega) (by simp only [cg9, ci5, ch2, ch6, r2]; have := hft.2.2.2.2; simp only [cg9] at this; omega))) [0, 1, 2, 3, 4, 5, 6, 7, 8, 9, 10, 51, 52] (H5 s [ad3 at0, .box (sL s 2), .box [.ref 11, .ref 12, iA (at0 + 1)], .dead, .dead, .row 86 (D.instrs (l ++ c8 s.value 0 ++ c8 s.index 1 ++ [d7.mk 5 s.target 1 0 0])), .row 3 (D.ints (fr ++ cg4 (c8 s.value 0).length at0 ++ cg4 (c8 s.index 1).length at0 ++ [at0]))]) (G3 at0 d []) fun G => b6 (wp_ret (z4 (l5 ?_)))))); exact T3 (.agg [.ref 11, .ref 12, iA (at0 + 1)]) G [0, 1, 2, 3, 4, 5, 11, 12] (by have e1 : ((R7 s d (l, fr, at0)).snd.snd : Int) = (at0 + 1) := (congrArg (fun x : I4 => x.2.2) (cm2 (by omega))); (first | rw [e1] | simp only [e1]) <;> rfl) (by show _ = mR [0, 1, 2, 3, 4, 5, 11, 12] (V2 s l fr at0 d); unfold V2; have e1 : ((R7 s d (l, fr, at0)).fst : List d7) = (l ++ c8 s.value 0 ++ c8 s.index 1 ++ [d7.mk 5 s.target 1 0 0]) := (congrArg Prod.fst (cm2 (by omega))); have e2 : ((R7 s d (l, fr, at0)).snd.fst : List Int) = (fr ++ cg4 (c8 s.value 0).length at0 ++ cg4 (c8 s.index 1).length at0 ++ [at0]) := (congrArg (fun x : I4 => x.2.1) (cm2 (by omega))); (first | rw [e1, e2] | simp only [e1, e2]) <;> rfl)
    · refine wp_seq (j7 G (s6 3 [9, 10] (G0 (l ++ c8 s.value 0) (fr ++ cg4 (c8 s.value 0).length at0) (at0 + 1) at0 11 0 0 0 0 (by omega) (by simp only [cg9, ci5, ch2, ch6, r2]; have := hft.2.2.2.2; simp only [cg9] at this; omega))) [0, 1, 2, 3, 4, 5, 6, 7, 8, 35, 36] (H5 s [ad3 at0, .box (sL s 2), O2, .row 86 (D.instrs (l ++ c8 s.value 0 ++ [d7.mk 11 0 0 0 0])), aS2 s fr at0]) (G3 at0 d []) fun G => b6 (wp_seq (j7 G (s6 5 [9, 10] (G0 (l ++ c8 s.value 0 ++ [d7.mk 11 0 0 0 0]) (fr ++ cg4 (c8 s.value 0).length at0 ++ [at0]) (at0 + 1) at0 3 s.target 0 0 0 (by simp only [cg9, ci5, ch2, ch6, r2]; have := hft.2.2.2.2; simp only [cg9] at this; omega) (by simp only [cg9, ci5, ch2, ch6, r2]; have := hft.2.2.2.2; simp only [cg9] at this; omega))) [0, 1, 2, 3, 4, 5, 6, 7, 8, 9, 10, 51, 52] (H5 s [ad3 at0, .box (sL s 2), .box [.ref 11, .ref 12, iA (at0 + 1)], .dead, .dead, .row 86 (D.instrs (l ++ c8 s.value 0 ++ [d7.mk 11 0 0 0 0] ++ [d7.mk 3 s.target 0 0 0])), .row 3 (D.ints (fr ++ cg4 (c8 s.value 0).length at0 ++ [at0] ++ [at0]))]) (G3 at0 d []) fun G => b6 (wp_ret (z4 (l5 ?_)))))); exact T3 (.agg [.ref 11, .ref 12, iA (at0 + 1)]) G [0, 1, 2, 3, 4, 5, 11, 12] (by have e1 : ((R7 s d (l, fr, at0)).snd.snd : Int) = (at0 + 1) := (congrArg (fun x : I4 => x.2.2) (cm5 (by omega))); (first | rw [e1] | simp only [e1]) <;> rfl) (by show _ = mR [0, 1, 2, 3, 4, 5, 11, 12] (V2 s l fr at0 d); unfold V2; have e1 : ((R7 s d (l, fr, at0)).fst : List d7) = (l ++ c8 s.value 0 ++ [d7.mk 11 0 0 0 0] ++ [d7.mk 3 s.target 0 0 0]) := (congrArg Prod.fst (cm5 (by omega))); have e2 : ((R7 s d (l, fr, at0)).snd.fst : List Int) = (fr ++ cg4 (c8 s.value 0).length at0 ++ [at0] ++ [at0]) := (congrArg (fun x : I4 => x.2.1) (cm5 (by omega))); (first | rw [e1, e2] | simp only [e1, e2]) <;> rfl)
   · refine wp_seq (j7 G (s6 5 [9, 10] (G0 (l ++ c8 s.value 0) (fr ++ cg4 (c8 s.value 0).length at0) (at0 + 1) at0 3 s.target 0 0 0 (by omega) (by simp only [cg9, ci5, ch2, ch6, r2]; have := hft.2.2.2.2; simp only [cg9] at this; omega))) [0, 1, 2, 3, 4, 5, 6, 7, 8, 9, 10, 51, 52] (H5 s [ad3 at0, .box (sL s 2), .box [.ref 11, .ref 12, iA (at0 + 1)], .dead, .dead, .row 86 (D.instrs (l ++ c8 s.value 0 ++ [d7.mk 3 s.target 0 0 0])), aS2 s fr at0]) (G3 at0 d []) fun G => b6 (wp_ret (z4 (l5 ?_)))); exact T3 (.agg [.ref 11, .ref 12, iA (at0 + 1)]) G [0, 1, 2, 3, 4, 5, 11, 12] (by have e1 : ((R7 s d (l, fr, at0)).snd.snd : Int) = (at0 + 1) := (congrArg (fun x : I4 => x.2.2) (cm1 (by omega))); (first | rw [e1] | simp only [e1]) <;> rfl) (by show _ = mR [0, 1, 2, 3, 4, 5, 11, 12] (V2 s l fr at0 d); unfold V2; have e1 : ((R7 s d (l, fr, at0)).fst : List d7) = (l ++ c8 s.value 0 ++ [d7.mk 3 s.target 0 0 0]) := (congrArg Prod.fst (cm1 (by omega))); have e2 : ((R7 s d (l, fr, at0)).snd.fst : List Int) = (fr ++ cg4 (c8 s.value 0).length at0 ++ [at0]) := (congrArg (fun x : I4 => x.2.1) (cm1 (by omega))); (first | rw [e1, e2] | simp only [e1, e2]) <;> rfl)
section
variable {ss : List c5} {k : Nat} {d : Int} {l : List d7} {fr : List Int} {at0 : Int}
theorem bo1 (hk : k < ss.length) : j5 (ss.take k) + (1 + K0 (ss.getD k cg3)) ≤ j5 ss := by
 have h1 := w5 (ss.take (k + 1)) (ss.drop (k + 1))
 rw [List.take_append_drop, m8 _ _ hk, w5, ← m5 (d := cg3) hk] at h1
 simp only [j5] at h1
 omega
theorem bz9 (hk : k < ss.length) : U9 (ss.take k) + nS (ss.getD k cg3) ≤ U9 ss := by
 have h1 := ae0 (ss.take (k + 1)) (ss.drop (k + 1))
 rw [List.take_append_drop, m8 _ _ hk, ae0, ← m5 (d := cg3) hk] at h1
 simp only [U9] at h1
 omega
theorem bF5 (r1 : l.length + 4 * j5 ss ≤ 5000000) (hk : k < ss.length) : (n4 (ss.take k) d (l, fr, at0)).1.length + (4 + 4 * K0 (ss.getD k cg3)) ≤ 5000000 := by
 have h1 := bo1 hk
 have h2 := Q5 (ss.take k)
 rw [aj3]
 simp only
 omega
theorem bR6 (r2 : fr.length = l.length) : (n4 (ss.take k) d (l, fr, at0)).2.1.length = (n4 (ss.take k) d (l, fr, at0)).1.length := by
 have h := N0 (ss.take k) d (l, fr, at0)
 simp only at h
 omega
theorem bF7 (r5 : 0 ≤ at0) : 0 ≤ (n4 (ss.take k) d (l, fr, at0)).2.2 := by
 have h := aj4 (ss.take k) d (l, fr, at0)
 simp only at h
 omega
theorem bF6 (r6 : at0 + U9 ss ≤ 5000000) (hk : k < ss.length) : (n4 (ss.take k) d (l, fr, at0)).2.2 + nS (ss.getD k cg3) ≤ 5000000 := by
 have h := aj4 (ss.take k) d (l, fr, at0)
 have h1 := bz9 hk
 simp only at h
 omega
theorem b92 (hk : k < ss.length) : (n4 (ss.take (k + 1)) d (l, fr, at0)).1 = (R7 (ss.getD k cg3) d (n4 (ss.take k) d (l, fr, at0))).1 := by rw [aK2 hk]
theorem b91 (hk : k < ss.length) : (n4 (ss.take (k + 1)) d (l, fr, at0)).2.1 = (R7 (ss.getD k cg3) d (n4 (ss.take k) d (l, fr, at0))).2.1 := by rw [aK2 hk]
theorem b90 (hk : k < ss.length) : (n4 (ss.take (k + 1)) d (l, fr, at0)).2.2 = (R7 (ss.getD k cg3) d (n4 (ss.take k) d (l, fr, at0))).2.2 := by rw [aK2 hk]
theorem br8 (hk : ss.length ≤ k) (x : I4) : n4 ss d x = n4 (ss.take k) d x := by rw [ch9 hk]
end
theorem aO8 (ss : List c5) (B : Int) (ih : ∀ (s : c5), s ∈ ss → ∀ (l : List d7) (fr : List Int) (at0 d : Int), l.length + (4 + 4 * K0 s) ≤ 5000000 → fr.length = l.length → 0 ≤ d → d ≤ B → 0 ≤ at0 → at0 + nS s ≤ 5000000 → j9.ok Tryz.prog (lqC l fr at0 s d))
  (l : List d7) (fr : List Int) (at0 d : Int) (r1 : l.length + 4 * j5 ss ≤ 5000000) (r2 : fr.length = l.length) (r3 : 0 ≤ d) (r4 : d ≤ B) (r5 : 0 ≤ at0) (r6 : at0 + U9 ss ≤ 5000000) : j9.ok Tryz.prog (lrC l fr at0 ss d) := by
 refine F9 22 Tryz.func146 [.row 86 (D.instrs l), .row 3 (D.ints fr), dT ss] [(0, .agg [.ref 0, .ref 1, iA at0]), (1, .ref 2), (2, iA d)] fun G => ?_; have hl := K8 ss; refine wp_seq (j7 G f7 [0, 1, 2, 3, 11] [.row 86 (D.instrs l), .row 3 (D.ints fr), dT ss, .box [.ref 0, .ref 1, iA at0], .box [.v (.slice none 0 0), .v (.slice none 0 0), iA 0]] [(1, .ref 2), (2, iA d), (3, .ptr 3 0), (6, .ptr 4 0)] fun G => b6 (wp_seq (wp_seq (D7 G f7 [(1, .ref 2), (2, iA d), (3, .ptr 3 0), (6, .ptr 4 0), (7, iA 0)] fun G => b6 (wp_block ?_))))); obtain ⟨ρ, G⟩ := G.shift 0 5 [.dead, .row 3 (D.ints fr), dT ss, .box [.ref 5, .ref 1, iA at0], .box [.v (.slice none 0 0), .v (.slice none 0 0), iA 0], .row 86 (D.instrs l)] [(1, .ref 2), (2, iA d), (3, .ptr 3 0), (6, .ptr 4 0), (7, iA 0)]; obtain ⟨ρ, G⟩ := G.shift 1 6 [.dead, .dead, dT ss, .box [.ref 5, .ref 6, iA at0], .box [.v (.slice none 0 0), .v (.slice none 0 0), iA 0], .row 86 (D.instrs l), .row 3 (D.ints fr)] [(1, .ref 2), (2, iA d), (3, .ptr 3 0), (6, .ptr 4 0), (7, iA 0)]; refine s8 (κ := Nat) (fun k => k ≤ ss.length) (fun k => ss.length - k) (fun k => [.dead, .dead, dT ss, .box [.ref 5, .ref 6, iA (n4 (ss.take k) d (l, fr, at0)).2.2], .box [.v (.slice none 0 0), .v (.slice none 0 0), iA 0], .row 86 (.instrs (n4 (ss.take k) d (l, fr, at0)).1), .row 3 (.ints (n4 (ss.take k) d (l, fr, at0)).2.1)]) (fun k => [(1, .ref 2), (2, iA d), (3, .ptr 3 0), (6, .ptr 4 0), (7, iA k)]) 0 (by omega) (t7.at G _ _) ?_; clear G; intro k ρ a w hp G; replace G := t7.at G [.dead, .dead, dT ss, .box [.ref 5, .ref 6, iA (n4 (ch1 k ss) d (l, fr, at0)).snd.snd], .box [.v (.slice none 0 0), .v (.slice none 0 0), iA 0], .row 86 (D.instrs (n4 (ch1 k ss) d (l, fr, at0)).fst), .row 3 (D.ints (n4 (ch1 k ss) d (l, fr, at0)).snd.fst)] [(1, .ref 2), (2, iA d), (3, .ptr 3 0), (6, .ptr 4 0), (7, iA k)]; refine wp_seq (wp_seq (k8 G f7 [(11, bA (decide ((k : Int) < ss.length)))] fun G => b6 (rcD G (fun h0 q0 => ?_) fun h0 q0 => ?_)))
 ·refine wp_exit (s4 (s4 (r8 (b6 (wp_seq (j7 G f7 [0, 1, 2, 4, 5, 6] [.dead, .dead, dT ss, .box [.ref 4, .ref 5, iA (n4 (ch1 k ss) d (l, fr, at0)).snd.snd], .row 86 (D.instrs (n4 (ch1 k ss) d (l, fr, at0)).fst), .row 3 (D.ints (n4 (ch1 k ss) d (l, fr, at0)).snd.fst)] [(6, .ptr 3 0)] fun G => b6 (wp_ret ?_))))))); exact T3 (.agg [.ref 4, .ref 5, iA (n4 (ch1 k ss) d (l, fr, at0)).snd.snd]) G [0, 1, 2, 4, 5] (by have e1 : ((n4 ss d (l, fr, at0)).snd.snd : Int) = ((n4 (ch1 k ss) d (l, fr, at0)).snd.snd) := (congrArg (fun x : I4 => x.2.2) (br8 (by omega) _)); (first | rw [e1] | simp only [e1]) <;> rfl) (by show _ = mR [0, 1, 2, 4, 5] [.dead, .dead, dT ss, .row 86 (D.instrs (n4 ss d (l, fr, at0)).fst), .row 3 (D.ints (n4 ss d (l, fr, at0)).snd.fst)]; have e1 : ((n4 ss d (l, fr, at0)).fst : List d7) = ((n4 (ch1 k ss) d (l, fr, at0)).fst) := (congrArg Prod.fst (br8 (by omega) _)); have e2 : ((n4 ss d (l, fr, at0)).snd.fst : List Int) = ((n4 (ch1 k ss) d (l, fr, at0)).snd.fst) := (congrArg (fun x : I4 => x.2.1) (br8 (by omega) _)); (first | rw [e1, e2] | simp only [e1, e2]) <;> rfl)
 ·refine wp_skip (b6 (wp_seq (wp_block (M5 G (s6 6 [5, 6, 39, 40, 41, 42] (ih (ss.getD k cg3) (ac7 (by omega)) ((n4 (ch1 k ss) d (l, fr, at0)).fst) ((n4 (ch1 k ss) d (l, fr, at0)).snd.fst) ((n4 (ch1 k ss) d (l, fr, at0)).snd.snd) d (bF5 r1 (by omega)) (bR6 r2) (by assumption) (by assumption) (bF7 r5) (bF6 r6 (by omega)))) [0, 0, 0, 6, 14, 0, 63, 127] [0, 1, 2, 3, 4, 55, 56] [.dead, .dead, dT ss, .box [.ref 5, .ref 6, iA (R7 (ss.getD k cg3) d (n4 (ch1 k ss) d (l, fr, at0))).snd.snd], .box [.v (.slice none 0 0), .v (.slice none 0 0), iA 0], .row 86 (D.instrs (R7 (ss.getD k cg3) d (n4 (ch1 k ss) d (l, fr, at0))).fst), .row 3 (D.ints (R7 (ss.getD k cg3) d (n4 (ch1 k ss) d (l, fr, at0))).snd.fst)] [(1, .ref 2), (2, iA d), (3, .ptr 3 0), (6, .ptr 4 0), (7, iA k)] (iX k k ss.length []) (iK (by omega) ch8) fun G => l0 (b6 (E1 G f7 [(7, iA ((k : Int) + 1))] [wO ((k : Int) + 1)] (o1 (by omega)) fun G => b6 ?_)))))); exact I6 G (k + 1) (by omega) (by omega) (rg 7) (by have e1 : ((n4 (ch1 (k + 1) ss) d (l, fr, at0)).snd.snd : Int) = ((R7 (ss.getD k cg3) d (n4 (ch1 k ss) d (l, fr, at0))).snd.snd) := (b90 (by omega)); have e2 : ((n4 (ch1 (k + 1) ss) d (l, fr, at0)).fst : List d7) = ((R7 (ss.getD k cg3) d (n4 (ch1 k ss) d (l, fr, at0))).fst) := (b92 (by omega)); have e3 : ((n4 (ch1 (k + 1) ss) d (l, fr, at0)).snd.fst : List Int) = ((R7 (ss.getD k cg3) d (n4 (ch1 k ss) d (l, fr, at0))).snd.fst) := (b91 (by omega)); (first | rw [e1, e2, e3] | simp only [e1, e2, e3]) <;> rfl)
theorem bA9 (nv na : Nat) : ∀ (dd : Nat) (ss : List c5) (l : List d7) (fr : List Int) (at0 d : Int), ss.all (j6 nv na dd) = true → l.length + 4 * j5 ss ≤ 5000000 → fr.length = l.length → 0 ≤ d → d + dd ≤ 100 → 0 ≤ at0 → at0 + U9 ss ≤ 5000000 → j9.ok Tryz.prog (lrC l fr at0 ss d) := by
 intro dd
 induction dd with
 | zero =>
  intro ss l fr at0 d hs r1 r2 r3 r4 r5 r6
  have h0 : ss = [] := by
   cases ss with
   | nil => rfl
   | cons a r => simp [j6] at hs
  subst h0
  exact aO8 [] 100 (fun s hs => by cases hs) l fr at0 d r1 r2 r3 (by omega) r5 r6
 | succ dd ih =>
  intro ss l fr at0 d hs r1 r2 r3 r4 r5 r6
  refine aO8 ss (100 - (dd + 1)) (fun s hm l fr at0 d q1 q2 q3 q4 q5 q6 => ?_) l fr at0 d r1 r2 r3 (by omega) r5 r6
  have h := ch3.1 hs s hm
  rw [S5, cg5, cg5] at h
  exact a09 nv na dd s h.1 h.2.1 h.2.2 (fun tt l fr at0 d h1 h2 h3 h4 h5 h6 h7 => ih tt l fr at0 d h1 h2 h3 h4 h5 h6 h7) l fr at0 d q1 q2 q3 (by omega) q5 q6
abbrev aS1 : It := .box [.v (.slice none 0 0), .v (.slice none 0 0), iA 0]
theorem ba2 (ss : List c5) (B : Int) (ih : ∀ (s : c5), s ∈ ss → ∀ (l : List d7) (fr : List Int) (at0 d : Int), l.length + (4 + 4 * K0 s) ≤ 5000000 → fr.length = l.length → 0 ≤ d → d ≤ B → 0 ≤ at0 → at0 + nS s ≤ 5000000 → j9.ok Tryz.prog (lqC l fr at0 s d))
  (d : Int) (r1 : ([] : List d7).length + 4 * j5 ss ≤ 5000000) (r3 : 0 ≤ d) (r4 : d ≤ B) (r6 : (0 : Int) + U9 ss ≤ 5000000) : j9.ok Tryz.prog ⟨146, [.agg [.v (.slice none 0 0), .v (.slice none 0 0), iA 0], .ref 0, iA d], [dT ss], [dT ss, rN (n4 ss d ([], [], 0)).1, rI (n4 ss d ([], [], 0)).2.1], .agg [.ref 1, .ref 2, iA (n4 ss d ([], [], 0)).2.2]⟩ := by
 refine F9 22 Tryz.func146 [dT ss] [(0, .agg [.v (.slice none 0 0), .v (.slice none 0 0), iA 0]), (1, .ref 0), (2, iA d)] fun G => ?_; have hl := K8 ss; refine wp_seq (j7 G f7 [0, 1, 9] [dT ss, aS1, aS1] [(1, .ref 0), (2, iA d), (3, .ptr 1 0), (6, .ptr 2 0)] fun G => b6 (wp_seq (wp_seq (D7 G f7 [(1, .ref 0), (2, iA d), (3, .ptr 1 0), (6, .ptr 2 0), (7, iA 0)] fun G => b6 (wp_block ?_))))); obtain ⟨ρ, G⟩ := G.nil 3 86 (.instrs []) 5 [dT ss, .box [.ref 3, .v (.slice none 0 0), iA 0], .box [.v (.slice none 0 0), .v (.slice none 0 0), iA 0]] [(1, .ref 0), (2, iA d), (3, .ptr 1 0), (6, .ptr 2 0), (7, iA 0)]; obtain ⟨ρ, G⟩ := G.nil 4 3 (.ints []) 1 [dT ss, .box [.ref 3, .ref 4, iA 0], .box [.v (.slice none 0 0), .v (.slice none 0 0), iA 0], .row 86 (D.instrs [])] [(1, .ref 0), (2, iA d), (3, .ptr 1 0), (6, .ptr 2 0), (7, iA 0)]; refine s8 (κ := Nat) (fun k => k ≤ ss.length) (fun k => ss.length - k) (fun k => [dT ss, .box [.ref 3, .ref 4, iA (n4 (ss.take k) d ([], [], 0)).2.2], .box [.v (.slice none 0 0), .v (.slice none 0 0), iA 0], .row 86 (.instrs (n4 (ss.take k) d ([], [], 0)).1), .row 3 (.ints (n4 (ss.take k) d ([], [], 0)).2.1)]) (fun k => [(1, .ref 0), (2, iA d), (3, .ptr 1 0), (6, .ptr 2 0), (7, iA k)]) 0 (by omega) (t7.at G _ _) ?_; clear G; intro k ρ a w hp G; replace G := t7.at G [dT ss, .box [.ref 3, .ref 4, iA (n4 (ch1 k ss) d ([], [], 0)).snd.snd], aS1, .row 86 (D.instrs (n4 (ch1 k ss) d ([], [], 0)).fst), .row 3 (D.ints (n4 (ch1 k ss) d ([], [], 0)).snd.fst)] [(1, .ref 0), (2, iA d), (3, .ptr 1 0), (6, .ptr 2 0), (7, iA k)]; refine wp_seq (wp_seq (k8 G f7 [(11, bA (decide ((k : Int) < ss.length)))] fun G => b6 (rcD G (fun h0 q0 => ?_) fun h0 q0 => ?_)))
 ·refine wp_exit (s4 (s4 (r8 (b6 (wp_seq (j7 G f7 [0, 2, 3, 4] [dT ss, .box [.ref 2, .ref 3, iA (n4 (ch1 k ss) d ([], [], 0)).snd.snd], .row 86 (D.instrs (n4 (ch1 k ss) d ([], [], 0)).fst), .row 3 (D.ints (n4 (ch1 k ss) d ([], [], 0)).snd.fst)] [(6, .ptr 1 0)] fun G => b6 (wp_ret ?_))))))); exact T3 (.agg [.ref 2, .ref 3, iA (n4 (ch1 k ss) d ([], [], 0)).snd.snd]) G [0, 2, 3] (by have e1 : ((n4 ss d ([], [], 0)).snd.snd : Int) = ((n4 (ch1 k ss) d ([], [], 0)).snd.snd) := (congrArg (fun x : I4 => x.2.2) (br8 (by omega) _)); (first | rw [e1] | simp only [e1]) <;> rfl) (by show _ = mR [0, 2, 3] [dT ss, .row 86 (D.instrs (n4 ss d ([], [], 0)).fst), .row 3 (D.ints (n4 ss d ([], [], 0)).snd.fst)]; have e1 : ((n4 ss d ([], [], 0)).fst : List d7) = ((n4 (ch1 k ss) d ([], [], 0)).fst) := (congrArg Prod.fst (br8 (by omega) _)); have e2 : ((n4 ss d ([], [], 0)).snd.fst : List Int) = ((n4 (ch1 k ss) d ([], [], 0)).snd.fst) := (congrArg (fun x : I4 => x.2.1) (br8 (by omega) _)); (first | rw [e1, e2] | simp only [e1, e2]) <;> rfl)
 ·refine wp_skip (b6 (wp_seq (wp_block (M5 G (s6 6 [3, 4, 37, 38, 39, 40] (ih (ss.getD k cg3) (ac7 (by omega)) ((n4 (ch1 k ss) d ([], [], 0)).fst) ((n4 (ch1 k ss) d ([], [], 0)).snd.fst) ((n4 (ch1 k ss) d ([], [], 0)).snd.snd) d (bF5 r1 (by omega)) (bR6 rfl) (by assumption) (by assumption) (bF7 (Int.le_refl 0)) (bF6 r6 (by omega)))) [0, 0, 0, 6, 14, 0, 63, 127] [0, 1, 2, 53, 54] [dT ss, .box [.ref 3, .ref 4, iA (R7 (ss.getD k cg3) d (n4 (ch1 k ss) d ([], [], 0))).snd.snd], aS1, .row 86 (D.instrs (R7 (ss.getD k cg3) d (n4 (ch1 k ss) d ([], [], 0))).fst), .row 3 (D.ints (R7 (ss.getD k cg3) d (n4 (ch1 k ss) d ([], [], 0))).snd.fst)] [(1, .ref 0), (2, iA d), (3, .ptr 1 0), (6, .ptr 2 0), (7, iA k)] (iX k k ss.length []) (iK (by omega) ch8) fun G => l0 (b6 (E1 G f7 [(7, iA ((k : Int) + 1))] [wO ((k : Int) + 1)] (o1 (by omega)) fun G => b6 ?_)))))); exact I6 G (k + 1) (by omega) (by omega) (rg 5) (by have e1 : ((n4 (ch1 (k + 1) ss) d ([], [], 0)).snd.snd : Int) = ((R7 (ss.getD k cg3) d (n4 (ch1 k ss) d ([], [], 0))).snd.snd) := (b90 (by omega)); have e2 : ((n4 (ch1 (k + 1) ss) d ([], [], 0)).fst : List d7) = ((R7 (ss.getD k cg3) d (n4 (ch1 k ss) d ([], [], 0))).fst) := (b92 (by omega)); have e3 : ((n4 (ch1 (k + 1) ss) d ([], [], 0)).snd.fst : List Int) = ((R7 (ss.getD k cg3) d (n4 (ch1 k ss) d ([], [], 0))).snd.fst) := (b91 (by omega)); (first | rw [e1, e2, e3] | simp only [e1, e2, e3]) <;> rfl)
theorem be1 (p : i6) (hp : l9 p = true) (hb : j5 p.body ≤ 1048576) : j9.ok Tryz.prog ⟨146, [.agg [.v (.slice none 0 0), .v (.slice none 0 0), iA 0], .ref 0, iA 0], [dT p.body], [dT p.body, rN (n4 p.body 0 ([], [], 0)).1, rI (n4 p.body 0 ([], [], 0)).2.1], .agg [.ref 1, .ref 2, iA (n4 p.body 0 ([], [], 0)).2.2]⟩ := by
 simp only [l9, af1, cg5, decide_eq_true_eq] at hp
 refine ba2 p.body 95 (fun s hm l fr at0 d q1 q2 q3 q4 q5 q6 => ?_) 0 (by simp only [ch6]; omega) (by omega) (by omega) (by have := aV3 p.body; omega)
 have h := ch3.1 hp.1.2 s hm
 rw [S5, cg5, cg5] at h
 exact a09 _ _ 4 s h.1 h.2.1 h.2.2 (fun tt l fr at0 d h1 h2 h3 h4 h5 h6 h7 => bA9 _ _ 4 tt l fr at0 d h1 h2 h3 h4 h5 h6 h7) l fr at0 d q1 q2 q3 (by omega) q5 q6
def aK1 (p : i6) : I4 := ((n4 p.body 0 ([], [], 0)).1 ++ [⟨13, 0, 0, 0, 0⟩], (n4 p.body 0 ([], [], 0)).2.1 ++ [-1], (n4 p.body 0 ([], [], 0)).2.2)
def okC (p : i6) : Bool := l9 p && decide ((aK1 p).1.length ≤ 400)
def I3 (p : i6) : I4 := if okC p = true then aK1 p else ([], [], 0)
theorem aV2 {p : i6} (h : l9 p = false) : okC p = false := by unfold okC; rw [h]; rfl
theorem bz6 {p : i6} (h : ¬ (aK1 p).1.length ≤ 400) : okC p = false := by unfold okC; rw [decide_eq_false h, Bool.and_false]
theorem bz5 {p : i6} (h1 : l9 p = true) (h : (aK1 p).1.length ≤ 400) : okC p = true := by unfold okC; rw [decide_eq_true h, h1]; rfl
theorem aw4 {p : i6} (h : okC p = false) : I3 p = ([], [], 0) := by unfold I3; rw [h]; rfl
theorem bE6 {p : i6} (h : okC p = true) : I3 p = aK1 p := by unfold I3; rw [h]; rfl
theorem br5 (p : i6) (hb : j5 p.body ≤ 1048576) : (n4 p.body 0 ([], [], 0)).1.length ≤ 5000000 ∧ (n4 p.body 0 ([], [], 0)).2.1.length ≤ 5000000 := by
 have h := N0 p.body 0 ([], [], 0)
 have h1 := Q5 p.body
 simp only [ch6] at h
 omega
abbrev au0 (p : i6) : List It := [dI p.vars, dI p.arrays, dT p.body, .row 86 (D.instrs (I3 p).fst), .row 3 (D.ints (I3 p).snd.fst)]
abbrev aR3 (p : i6) (r0 : List It) : List It := .row 86 (D.instrs ((n4 p.body 0 ([], [], 0)).fst ++ [d7.mk 13 0 0 0 0])) :: .row 3 (D.ints ((n4 p.body 0 ([], [], 0)).snd.fst ++ [-1])) :: r0
theorem a65 (p : i6) (hb : j5 p.body ≤ 1048576) : j9.ok Tryz.prog ⟨71, [pA 0], pS p, pS p ++ [rN (I3 p).1, rI (I3 p).2.1], .tup [.agg [.ref 3, .ref 4, iA (I3 p).2.2], bA (okC p)]⟩ := by
  refine F9 22 Tryz.func71 [dI p.vars, dI p.arrays, dT p.body] [(0, pA 0)] fun G => ?_; have hcb := br5 p hb; refine wp_seq (j7 G f7 [0, 1, 2, 3, 11] [dI p.vars, dI p.arrays, dT p.body, .box (pL 0), .box [.v (.slice none 0 0), .v (.slice none 0 0), iA 0]] [(1, .ptr 3 0), (2, .ptr 4 0), (3, bA false)] fun G => b6 (wp_seq (wp_seq (k8 G (s6 1 [0, 1, 2] (Q7 p (by assumption))) [(7, .v (.bool !l9 p))] fun G => b6 ?_)))); cases h0 : (!l9 p)
  ·
   have q0 : (l9 p) = true := (Eq.mp (cj0 _) h0); refine rF G _ h0 (wp_skip (b6 (wp_seq (j7 G (s6 3 [2] (be1 p (by assumption) (by assumption))) [0, 1, 2, 4, 29, 30, 37] [dI p.vars, dI p.arrays, dT p.body, .box [.v (.slice none 0 0), .v (.slice none 0 0), iA 0], .row 86 (D.instrs (n4 p.body 0 ([], [], 0)).fst), .row 3 (D.ints (n4 p.body 0 ([], [], 0)).snd.fst), .box [.ref 4, .ref 5, iA (n4 p.body 0 ([], [], 0)).snd.snd]] [(2, .ptr 3 0), (3, bA false), (4, .ptr 6 0)] fun G => b6 (wp_seq (j7 G (s6 2 [4, 5] (G0 ((n4 p.body 0 ([], [], 0)).fst) ((n4 p.body 0 ([], [], 0)).snd.fst) ((n4 p.body 0 ([], [], 0)).snd.snd) (-1) 13 0 0 0 0 (by omega) (by omega))) [0, 1, 2, 3, 6, 23, 24] (dI p.vars :: dI p.arrays :: dT p.body :: .box [.v (.slice none 0 0), .v (.slice none 0 0), iA 0] :: .box [.ref 5, .ref 6, iA (n4 p.body 0 ([], [], 0)).snd.snd] :: (aR3 p [])) [(2, .ptr 3 0), (3, bA false), (4, .ptr 4 0)] fun G => b6 (wp_seq (wp_seq (k8 G f7 [(19, bA (decide ((((n4 p.body 0 ([], [], 0)).fst ++ [d7.mk 13 0 0 0 0]).length : Int) > 400)))] fun G => b6 (rcD G (fun h1 q1 => ?_) fun h1 q1 => ?_))))))))))
   · refine wp_skip (b6 (wp_seq (j7 G f7 [0, 1, 2, 3, 5, 6] (dI p.vars :: dI p.arrays :: dT p.body :: .box [.ref 4, .ref 5, iA (n4 p.body 0 ([], [], 0)).snd.snd] :: (aR3 p [])) [(2, .ptr 3 0), (3, bA true)] fun G => b6 (wp_ret ?_)))); exact T3 (.tup [.agg [.ref 4, .ref 5, iA (n4 p.body 0 ([], [], 0)).snd.snd], bA true]) G [0, 1, 2, 4, 5] (by have e1 : ((I3 p).snd.snd : Int) = ((n4 p.body 0 ([], [], 0)).snd.snd) := (by rw [bE6 (bz5 (by with_reducible assumption) (by simp only [aK1]; omega))]; rfl); have e2 : (okC p : Bool) = (true) := (bz5 (by with_reducible assumption) (by simp only [aK1]; omega)); (first | rw [e1, e2] | simp only [e1, e2]) <;> rfl) (by show _ = mR [0, 1, 2, 4, 5] (au0 p); unfold au0; rw [bE6 (bz5 (by with_reducible assumption) (by simp only [aK1]; omega))] <;> rfl)
   · refine wp_seq (D7 G f7 [(2, .ptr 3 0), (3, bA false), (4, .ptr 4 0)] fun G => b6 (wp_ret (l5 ?_))); obtain ⟨ρ, G⟩ := G.nil 7 86 (.instrs []) 5 (dI p.vars :: dI p.arrays :: dT p.body :: .box [.ref 7, .v (.slice none 0 0), iA 0] :: .box [.ref 5, .ref 6, iA (n4 p.body 0 ([], [], 0)).snd.snd] :: (aR3 p [])) [(2, .ptr 3 0), (3, bA false), (4, .ptr 4 0)]; obtain ⟨ρ, G⟩ := G.nil 8 3 (.ints []) 1 (dI p.vars :: dI p.arrays :: dT p.body :: .box [.ref 7, .ref 8, iA 0] :: .box [.ref 5, .ref 6, iA (n4 p.body 0 ([], [], 0)).snd.snd] :: (aR3 p [.row 86 (D.instrs [])])) [(2, .ptr 3 0), (3, bA false), (4, .ptr 4 0)]; exact T3 (.tup [.agg [.ref 7, .ref 8, iA 0], bA false]) G [0, 1, 2, 7, 8] (by have e1 : ((I3 p).snd.snd : Int) = (0) := (by rw [aw4 (bz6 (by simp only [aK1]; omega))]; done); have e2 : (okC p : Bool) = (false) := (bz6 (by simp only [aK1]; omega)); (first | rw [e1, e2] | simp only [e1, e2]) <;> rfl) (by show _ = mR [0, 1, 2, 7, 8] (au0 p); unfold au0; rw [aw4 (bz6 (by simp only [aK1]; omega))] <;> rfl)
  · have q0 : (l9 p) = false := (Eq.mp (ci3 _) h0); refine rT G _ h0 (wp_seq (D7 G f7 [(1, .ptr 3 0), (2, .ptr 4 0), (3, bA false)] fun G => b6 (wp_ret (l5 ?_)))); obtain ⟨ρ, G⟩ := G.nil 5 86 (.instrs []) 5 [dI p.vars, dI p.arrays, dT p.body, .box (pL 0), .box [.ref 5, .v (.slice none 0 0), iA 0]] [(1, .ptr 3 0), (2, .ptr 4 0), (3, bA false)]; obtain ⟨ρ, G⟩ := G.nil 6 3 (.ints []) 1 [dI p.vars, dI p.arrays, dT p.body, .box (pL 0), .box [.ref 5, .ref 6, iA 0], .row 86 (D.instrs [])] [(1, .ptr 3 0), (2, .ptr 4 0), (3, bA false)]; exact T3 (.tup [.agg [.ref 5, .ref 6, iA 0], bA false]) G [0, 1, 2, 5, 6] (by have e1 : ((I3 p).snd.snd : Int) = (0) := (by rw [aw4 (aV2 (by with_reducible assumption))]; done); have e2 : (okC p : Bool) = (false) := (aV2 (by with_reducible assumption)); (first | rw [e1, e2] | simp only [e1, e2]) <;> rfl) (by show _ = mR [0, 1, 2, 5, 6] (au0 p); unfold au0; rw [aw4 (aV2 (by with_reducible assumption))] <;> rfl)
theorem b42 {p : i6} (h : okC p = true) : l9 p = true := by
 unfold okC at h; simp only [cg5] at h; exact h.1
def cvP (p : i6) : List Int := if okC p = true then p.vars else []
def caP (p : i6) : List Int := if okC p = true then p.arrays else []
theorem b84 {p : i6} (h : okC p = true) : cvP p = p.vars := if_pos h
theorem bY4 {p : i6} (h : okC p = false) : cvP p = [] := if_neg (by rw [h]; decide)
theorem b93 {p : i6} (h : okC p = true) : caP p = p.arrays := if_pos h
theorem bZ0 {p : i6} (h : okC p = false) : caP p = [] := if_neg (by rw [h]; decide)
abbrev aS0 (p : i6) : List It := [dI p.vars, dI p.arrays, dT p.body, .row 3 (D.ints (cvP p)), .row 3 (D.ints (caP p)), .row 86 (D.instrs (I3 p).fst)]
abbrev aR2 (p : i6) (r0 : List It) : List It := .row 86 (D.instrs (I3 p).fst) :: .row 3 (D.ints (I3 p).snd.fst) :: .box [.ref 5, .ref 6, iA (I3 p).snd.snd] :: r0
theorem aw8 (p : i6) (hb : p.size ≤ 1048576) : j9.ok Tryz.prog ⟨23, [pA 0], pS p, pS p ++ [rI (cvP p), rI (caP p), rN (I3 p).1], .tup [.agg [.ref 3, .ref 4, .ref 5], bA (okC p)]⟩ := by
 refine F9 25 Tryz.func23 [dI p.vars, dI p.arrays, dT p.body] [(0, pA 0)] fun G => ?_
 have hb1 : p.vars.length ≤ 1048576 ∧ p.arrays.length ≤ 1048576 ∧ j5 p.body ≤ 1048576 := by unfold i6.size at hb; omega
 refine wp_seq (j7 G f7 [0, 1, 2, 3, 11] [dI p.vars, dI p.arrays, dT p.body, .box (pL 0), .box [.v (.slice none 0 0), .v (.slice none 0 0), .v (.slice none 0 0)]] [(1, .ptr 3 0), (2, .ptr 4 0), (3, bA false)] fun G => b6 (wp_seq (j7 G (s6 1 [0, 1, 2] (a65 p (by omega))) [0, 1, 2, 3, 4, 13, 14, 45] (dI p.vars :: dI p.arrays :: dT p.body :: .box (pL 0) :: .box [.v (.slice none 0 0), .v (.slice none 0 0), .v (.slice none 0 0)] :: (aR2 p [])) [(1, .ptr 3 0), (2, .ptr 4 0), (3, bA false), (4, .ptr 7 0), (5, bA (okC p))] fun G => b6 (wp_seq (wp_seq (k8 G f7 [(12, .v (.bool !okC p))] fun G => b6 ?_)))))); cases h0 : (!okC p)
 ·have q0 : (okC p) = true := (Eq.mp (cj0 _) h0); refine rF G _ h0 (wp_skip (b6 (wp_seq (M5 G f7 [0, 0, 2, 7, 0, 0, 32, 127, 0, 256, 1023, 2047, 4095] [0, 1, 2, 4, 5, 32, 64] [dI p.vars, dI p.arrays, dT p.body, .box [.ref 5, .ref 6, .ref 4], .row 86 (D.instrs (I3 p).fst), .row 3 (D.ints ([] ++ p.vars)), .row 3 (D.ints ([] ++ p.arrays))] [(2, .ptr 3 0), (3, bA true)] (aP ((0 : Nat) + p.vars.length) 8 (aP ((0 : Nat) + p.arrays.length) 8 [])) (aK (by omega) (aK (by omega) ch8)) fun G => b6 (wp_ret ?_))))); exact T3 (.tup [.agg [.ref 5, .ref 6, .ref 4], bA true]) G [0, 1, 2, 5, 6, 4] (by have e1 : (okC p : Bool) = (true) := (by assumption); (first | rw [e1] | simp only [e1]) <;> rfl) (by show _ = mR [0, 1, 2, 5, 6, 4] (aS0 p); unfold aS0; have e2 : (caP p : List Int) = ([] ++ p.arrays) := (by rw [b93 (by with_reducible assumption)]; rfl); rw [e2, b84 (by with_reducible assumption)] <;> rfl)
 ·have q0 : (okC p) = false := (Eq.mp (ci3 _) h0); refine rT G _ h0 (wp_seq (D7 G f7 [(1, .ptr 3 0), (2, .ptr 4 0), (3, bA false), (4, .ptr 7 0)] fun G => b6 (wp_ret (l5 ?_)))); obtain ⟨ρ, G⟩ := G.nil 8 3 (.ints []) 1 (dI p.vars :: dI p.arrays :: dT p.body :: .box (pL 0) :: .box [.ref 8, .v (.slice none 0 0), .v (.slice none 0 0)] :: (aR2 p [])) [(1, .ptr 3 0), (2, .ptr 4 0), (3, bA false), (4, .ptr 7 0)]; obtain ⟨ρ, G⟩ := G.nil 9 3 (.ints []) 1 (dI p.vars :: dI p.arrays :: dT p.body :: .box (pL 0) :: .box [.ref 8, .ref 9, .v (.slice none 0 0)] :: (aR2 p [.row 3 (D.ints [])])) [(1, .ptr 3 0), (2, .ptr 4 0), (3, bA false), (4, .ptr 7 0)]; obtain ⟨ρ, G⟩ := G.nil 10 86 (.instrs []) 5 (dI p.vars :: dI p.arrays :: dT p.body :: .box (pL 0) :: .box (pL 8) :: (aR2 p [.row 3 (D.ints []), .row 3 (D.ints [])])) [(1, .ptr 3 0), (2, .ptr 4 0), (3, bA false), (4, .ptr 7 0)]; exact T3 (.tup [pA 8, bA false]) G [0, 1, 2, 8, 9, 10] (by have e1 : (okC p : Bool) = (false) := (by assumption); (first | rw [e1] | simp only [e1]) <;> rfl) (by show _ = mR [0, 1, 2, 8, 9, 10] (aS0 p); unfold aS0; have e2 : (caP p : List Int) = ([]) := (by rw [bZ0 (by with_reducible assumption)]; done); have e3 : ((I3 p).fst : List d7) = ([]) := (by rw [aw4 (by with_reducible assumption)]; done); rw [e2, e3, bY4 (by with_reducible assumption)] <;> rfl)
def rqL (l : Int) (xs : List Int) (k : Nat) : List Int := (xs.take k).map (fun x => l4 x l) ++ xs.drop k
theorem bj2 (l : Int) (xs : List Int) (k : Nat) : (rqL l xs k).length = xs.length := by simp [rqL]; omega
theorem bj3 {l : Int} {xs : List Int} {k : Nat} (h : xs.length ≤ k) : rqL l xs k = xs.map fun x => l4 x l := by
 unfold rqL
 rw [ch9 (by omega), List.drop_eq_nil_of_le (by omega), List.append_nil]
theorem bU0 {l : Int} {xs : List Int} {k : Nat} (h : k < xs.length) : (rqL l xs k).getD k 0 = xs.getD k 0 := by
 unfold rqL
 simp only [cg7]
 rw [cj7 (by simp; omega)]
 simp [List.length_take, Nat.min_eq_left (Nat.le_of_lt h)]
theorem bj1 {l : Int} {xs : List Int} {k : Nat} (h : k < xs.length) : (rqL l xs k).set k (l4 ((rqL l xs k).getD k 0) l) = rqL l xs (k + 1) := by
 rw [bU0 h]
 unfold rqL
 apply List.ext_getElem?
 intro j
 rw [List.getElem?_set]
 by_cases e : k = j
 ·subst e
  rw [if_pos rfl, if_pos (by simp; omega)]
  rw [ci0 (by simp; omega)]
  simp [List.getElem?_take, h, cg7]
 ·rw [if_neg e]
  rcases ci7 j k with h1 | h1
  ·rw [ci0 (by simp; omega), ci0 (by simp; omega)]
   simp [List.getElem?_take, h1, show j < k + 1 by omega]
  ·rw [cj7 (by simp; omega), cj7 (by simp; omega)]
   simp only [List.length_map, List.length_take, List.getElem?_drop]
   congr 1
   omega
def l6 (b : List UInt8) (j : Int) : d8 × Int := (⟨(L8 b j).vars, (L8 b j).arrays, (clD b (P4 b j).2 (L8 b j).vars.length (L8 b j).arrays.length).1⟩, (clD b (P4 b j).2 (L8 b j).vars.length (L8 b j).arrays.length).2)
theorem bG4 (b : List UInt8) {j : Int} (hj : 0 ≤ j) (hj2 : j ≤ 10000000) : j + 2 ≤ (P4 b j).2 ∧ (P4 b j).2 ≤ j + 150000 := by
 have h1 := bn1 b hj hj2
 have h2 := bl0 b hj hj2
 omega
theorem by4 (b : List UInt8) (j : Int) : (L8 b j).vars.length ≤ 12 ∧ (L8 b j).arrays.length ≤ 2 ∧ 1 ≤ (L8 b j).vars.length := by
 have h := ac2 (by6 b j)
 have := (av1 (by6 b j)).2.2.1
 omega
theorem bF3 (b : List UInt8) {j : Int} (hj : 0 ≤ j) (hj2 : j ≤ 10000000) : j + 3 ≤ (l6 b j).2 ∧ (l6 b j).2 ≤ j + 150100 ∧ (l6 b j).1.list.length ≤ 12 ∧ 1 ≤ (l6 b j).1.list.length := by
 have h1 := bG4 b hj hj2
 have h2 := cf7 b (j := (P4 b j).2) (L8 b j).vars.length (L8 b j).arrays.length (by omega) (by omega)
 have h3 := bW2 b (j := (P4 b j).2) (by omega) (by omega)
 have e : (l6 b j).1.list.length = (clD b (P4 b j).2 (L8 b j).vars.length (L8 b j).arrays.length).1.length := rfl
 have e2 : (l6 b j).2 = (clD b (P4 b j).2 (L8 b j).vars.length (L8 b j).arrays.length).2 := rfl
 rw [e, e2]
 omega
def H9 (b : List UInt8) : Nat → Int → i6 × Int
 | 0, j => (U8 b j, (P4 b j).2 + 1)
 | n + 1, j => if (V4 (U8 b j) false).1 = 0 ∧ 0 < (U8 b j).body.length then (U8 b j, (P4 b j).2 + 1) else H9 b n ((P4 b j).2 + 1)
theorem bM5 (b : List UInt8) : ∀ (n : Nat) (j : Int), n ≤ 3 → 0 ≤ j → j + n * 150001 ≤ 10000000 → j ≤ (H9 b n j).2 ∧ (H9 b n j).2 ≤ j + (n + 1) * 150001 ∧ (H9 b n j).1.size ≤ 160000
 | 0, j, _, hj, hj2 => by
  have h := bG4 b hj (by omega)
  have h2 := a89 b hj (by omega)
  refine ⟨?_, ?_, h2⟩ <;> (show _ ≤ _; simp only [H9]; omega)
 | n + 1, j, hn, hj, hj2 => by
  have h := bG4 b hj (by omega)
  have h2 := a89 b hj (by omega)
  have ih := bM5 b n ((P4 b j).2 + 1) (by omega) (by omega) (by omega)
  rw [H9]
  split
  ·exact ⟨by show j ≤ (P4 b j).2 + 1; omega, by show (P4 b j).2 + 1 ≤ _; omega, h2⟩
  ·exact ⟨by omega, by omega, ih.2.2⟩
def P5 (b : List UInt8) (j : Int) : Nat → Int
 | 0 => j
 | i + 1 => (P4 b (P5 b j i)).2 + 1
theorem b75 (b : List UInt8) {j : Int} (hj : 0 ≤ j) (hj2 : j ≤ 9000000) : ∀ i : Nat, i ≤ 3 → j ≤ P5 b j i ∧ P5 b j i ≤ j + i * 150001
 | 0, _ => ⟨Int.le_refl _, by simp [P5]⟩
 | i + 1, hi => by
  have ih := b75 b hj hj2 i (by omega)
  have h := bG4 b (j := P5 b j i) (by omega) (by omega)
  rw [P5]
  omega
theorem b78 {b : List UInt8} {j : Int} {i : Nat} (hi : i < 3) (h : H9 b 3 j = H9 b (3 - i) (P5 b j i)) (hn : ¬ ((V4 (U8 b (P5 b j i)) false).1 = 0 ∧ 0 < (U8 b (P5 b j i)).body.length)) : H9 b 3 j = H9 b (3 - (i + 1)) (P5 b j (i + 1)) := by
 rw [h, show 3 - i = (3 - (i + 1)) + 1 by omega, H9, if_neg hn]; rfl
theorem bX5 {b : List UInt8} {j : Int} {i : Nat} (hi : i < 3) (h : H9 b 3 j = H9 b (3 - i) (P5 b j i)) (hn : (V4 (U8 b (P5 b j i)) false).1 = 0 ∧ 0 < (U8 b (P5 b j i)).body.length) : H9 b 3 j = (U8 b (P5 b j i), (P4 b (P5 b j i)).2 + 1) := by
 rw [h, show 3 - i = (3 - (i + 1)) + 1 by omega, H9, if_pos hn]
theorem bM3 {b : List UInt8} {j : Int} {i : Nat} (hi : 3 ≤ i) (hi2 : i ≤ 3) (h : H9 b 3 j = H9 b (3 - i) (P5 b j i)) : H9 b 3 j = (U8 b (P5 b j i), (P4 b (P5 b j i)).2 + 1) := by
 rw [h, show 3 - i = 0 by omega, H9]
theorem bm4 {p : i6} (h : okL p = false) : okC (G5 p) = false := by
 rw [bk4 h]; exact aV2 (by decide +kernel)
def fnI (x : d7) : d7 := if x.op = 9 ∨ x.op = 4 ∨ x.op = 5 then ⟨12, 0, 0, 0, 0⟩ else x
def Y3 (xs : List d7) (k : Nat) : List d7 := (xs.take k).map fnI ++ xs.drop k
theorem bl8 (xs : List d7) (k : Nat) : (Y3 xs k).length = xs.length := by simp [Y3]; omega
theorem bd2 {xs : List d7} {k : Nat} (h : k < xs.length) : (Y3 xs k).getD k cg3 = xs.getD k cg3 := by
 unfold Y3
 simp only [cg7]
 rw [cj7 (by simp; omega)]
 simp [List.length_take, Nat.min_eq_left (Nat.le_of_lt h)]
theorem a47 {xs : List d7} {k : Nat} (h : k < xs.length) : Y3 xs (k + 1) = (Y3 xs k).set k (fnI (xs.getD k cg3)) := by
 unfold Y3
 apply List.ext_getElem?
 intro j
 rw [List.getElem?_set]
 by_cases e : k = j
 ·subst e
  rw [if_pos rfl, if_pos (by simp; omega)]
  rw [ci0 (by simp; omega)]
  simp [List.getElem?_take, h, cg7]
 ·rw [if_neg e]
  rcases ci7 j k with h1 | h1
  ·rw [ci0 (by simp; omega), ci0 (by simp; omega)]
   simp [List.getElem?_take, h1, show j < k + 1 by omega]
  ·rw [cj7 (by simp; omega), cj7 (by simp; omega)]
   simp only [List.length_map, List.length_take, List.getElem?_drop]
   congr 1
   omega
theorem bC9 {xs : List d7} {k : Nat} (h : k < xs.length) (ho : ((Y3 xs k).getD k cg3).op = 9 ∨ ((Y3 xs k).getD k cg3).op = 4 ∨ ((Y3 xs k).getD k cg3).op = 5) : Y3 xs (k + 1) = (Y3 xs k).set k ⟨12, 0, 0, 0, 0⟩ := by
 rw [a47 h]
 rw [bd2 h] at ho
 unfold fnI; rw [if_pos ho]
theorem b73 {xs : List d7} {k : Nat} (h : k < xs.length) (ho : ¬ (((Y3 xs k).getD k cg3).op = 9 ∨ ((Y3 xs k).getD k cg3).op = 4 ∨ ((Y3 xs k).getD k cg3).op = 5)) : Y3 xs (k + 1) = Y3 xs k := by
 have ho2 := ho
 rw [bd2 h] at ho2
 rw [a47 h]
 unfold fnI; rw [if_neg ho2]
 have hk : k < (Y3 xs k).length := by rw [bl8]; exact h
 rw [← bd2 h, m5 hk]; simp
theorem bM1 {xs : List d7} {k : Nat} (h : xs.length ≤ k) : Y3 xs k = xs.map fnI := by
 unfold Y3
 rw [ch9 (by omega), List.drop_eq_nil_of_le (by omega), List.append_nil]
def U5 (b : List UInt8) (j : Int) : d8 × Int :=
 if pk b (l6 b j).2 3 = 0 then
  (if okC (G5 (H9 b 3 ((l6 b j).2 + 1)).1) = true ∧ (I3 (G5 (H9 b 3 ((l6 b j).2 + 1)).1)).1.length ≤ 60 then
   (⟨cvP (G5 (H9 b 3 ((l6 b j).2 + 1)).1), caP (G5 (H9 b 3 ((l6 b j).2 + 1)).1), (I3 (G5 (H9 b 3 ((l6 b j).2 + 1)).1)).1⟩, (H9 b 3 ((l6 b j).2 + 1)).2)
  else ((l6 b j).1, (H9 b 3 ((l6 b j).2 + 1)).2))
 else if pk b (l6 b j).2 3 = 1 then (⟨(l6 b j).1.vars.map fun x => l4 x 1, (l6 b j).1.arrays.map fun x => l4 x 1, (l6 b j).1.list.map fnI⟩, (l6 b j).2 + 1)
 else ((l6 b j).1, (l6 b j).2 + 1)
theorem bY3 (p : i6) : (cvP p).length ≤ 12 ∧ (caP p).length ≤ 2 := by
 cases h : okC p
 ·rw [bY4 h, bZ0 h]; simp
 ·rw [b84 h, b93 h]
  have := ac2 (b42 h)
  omega
theorem b44 (b : List UInt8) {j : Int} (hj : 0 ≤ j) (hj2 : j ≤ 5000000) : j ≤ (U5 b j).2 ∧ (U5 b j).2 ≤ j + 1000000 ∧ (U5 b j).1.list.length ≤ 60 ∧ (U5 b j).1.vars.length ≤ 12 ∧ (U5 b j).1.arrays.length ≤ 2 := by
 have h1 := bF3 b hj (by omega)
 have h2 := bM5 b 3 ((l6 b j).2 + 1) (ch0 _) (by omega) (by omega)
 have h3 := by4 b j
 have e1 : (l6 b j).1.vars = (L8 b j).vars := rfl
 have e2 : (l6 b j).1.arrays = (L8 b j).arrays := rfl
 have h4 := bY3 (G5 (H9 b 3 ((l6 b j).2 + 1)).1)
 unfold U5
 split
 ·split
  ·rename_i h; exact ⟨by simp only; omega, by simp only; omega, h.2, h4.1, h4.2⟩
  ·exact ⟨by simp only; omega, by simp only; omega, by simp only; omega, by simp only [e1]; omega, by simp only [e2]; omega⟩
 ·split
  ·exact ⟨by simp only; omega, by simp only; omega, by simp only [List.length_map]; omega, by simp only [List.length_map, e1]; omega, by simp only [List.length_map, e2]; omega⟩
  ·exact ⟨by simp only; omega, by simp only; omega, by simp only; omega, by simp only [e1]; omega, by simp only [e2]; omega⟩
def j8 (c : List UInt8) : d8 := (muD (bsD c) (U5 (bsD c) 0).2 (U5 (bsD c) 0).1).1
theorem bX9 (c : List UInt8) : (j8 c).list.length ≤ 60 ∧ (j8 c).vars.length ≤ 12 ∧ (j8 c).arrays.length ≤ 2 := by
 have h1 := b44 (bsD c) (j := 0) (by omega) (by omega)
 have h2 := ce0 (bsD c) (U5 (bsD c) 0).2 (U5 (bsD c) 0).1
 unfold j8
 omega
abbrev cdC (b : List UInt8) (j : Int) : j9 := ⟨168, [.ptr 0 0], [.box [.ref 1, iA j], dY b], [.box [.ref 1, iA (l6 b j).2], dY b, rI (l6 b j).1.vars, rI (l6 b j).1.arrays, rN (l6 b j).1.list], .agg [.ref 2, .ref 3, .ref 4]⟩
abbrev R2 (b : List UInt8) (j X : Int) (k : Nat) : List d7 × Int := rsD b ((P4 b j).2 + 1) (L8 b j).vars.length (L8 b j).arrays.length X k
section
variable {b : List UInt8} {j X : Int} {k : Nat}
theorem b89 (hX : nm b (P4 b j).2 lnL = X) (hk : (k : Int) = X - 1) (h3 : ¬ X > 3) : (l6 b j).1.list = (R2 b j X k).1 ++ [⟨13, 0, 0, 0, 0⟩] ∧ (l6 b j).2 = (R2 b j X k).2 := by
 obtain rfl : k = (X - 1).toNat := by omega
 unfold l6 clD
 simp only [hX, if_neg h3]
 constructor <;> first | trivial | rfl
theorem b88 (hX : nm b (P4 b j).2 lnL = X) (hk : (k : Int) = X - 1) (h3 : X > 3) (h : ¬ pk b (R2 b j X k).2 4 = 0) : (l6 b j).1.list = (R2 b j X k).1 ++ [⟨13, 0, 0, 0, 0⟩] ∧ (l6 b j).2 = (R2 b j X k).2 + 1 := by
 obtain rfl : k = (X - 1).toNat := by omega
 unfold R2 at h
 unfold l6 clD
 simp only [hX, if_pos h3, if_neg h]
 constructor <;> first | trivial | rfl
theorem b87 (hX : nm b (P4 b j).2 lnL = X) (hk : (k : Int) = X - 1) (h3 : X > 3) (h : pk b (R2 b j X k).2 4 = 0) : (l6 b j).1.list = (((R2 b j X k).1 ++ [(⟨13, 0, 0, 0, 0⟩ : d7)]).set 0 ⟨1, 5, 1 + pk b ((R2 b j X k).2 + 1) 3, 0, 0⟩).set (X - 2).toNat ⟨10, 5, 1, 0, 0⟩ ∧ (l6 b j).2 = (R2 b j X k).2 + 1 + 1 := by
 obtain rfl : k = (X - 1).toNat := by omega
 unfold R2 at h
 unfold l6 clD
 simp only [hX, if_pos h3, if_pos h]
 constructor
 ·first | trivial | rfl
 ·exact (Int.add_assoc _ 1 1).symm
theorem pw3 (b : List UInt8) {i : Int} (h0 : 0 ≤ i) (h1 : i ≤ 1000000000) : IntKind.i64.wrap (1 + pk b i 3) = 1 + pk b i 3 := by
 have := ad6 b (i := i) (m := 3) h0 h1
 exact w64 (by omega) (by omega)
theorem b31 (b : List UInt8) {j : Int} (X : Int) (r0 : 0 ≤ j) (r1 : j ≤ 10000000) (k : Nat) : (R2 b j X k).1.length = k ∧ (P4 b j).2 + 1 ≤ (R2 b j X k).2 ∧ (R2 b j X k).2 ≤ (P4 b j).2 + 1 + 5 * k :=
 bT9 b ((P4 b j).2 + 1) _ _ X k
end
abbrev aO1 (b : List UInt8) (j : Int) (X : Int) (k : Nat) := Z0 b (R2 b j X k).snd (L8 b j).vars.length (L8 b j).arrays.length (k : Int) X
abbrev aO0 (b : List UInt8) (j : Int) : List It := [.box [.ref 1, iA (l6 b j).snd], dY b, .row 3 (D.ints (l6 b j).fst.vars), .row 3 (D.ints (l6 b j).fst.arrays), .row 86 (D.instrs (l6 b j).fst.list)]
abbrev aY8 : It := .box [.v (.slice none 0 0), .v (.slice none 0 0), .v (.slice none 0 0)]
abbrev aE1 (b : List UInt8) (j : Int) : It := .row 3 (D.ints (L8 b j).arrays)
abbrev aE0 (b : List UInt8) (j : Int) : It := .row 3 (D.ints (L8 b j).vars)
abbrev bP2 (b : List UInt8) (j : Int) (X : Int) (k : Nat) : It := .row 86 (D.instrs ((((R2 b j X k).fst ++ ([d7.mk 13 0 0 0 0] ++ [])).set 0 (d7.mk 1 5 (1 + pk b ((R2 b j X k).snd + 1) 3) 0 0)).set (X - 2).toNat (d7.mk 10 5 1 0 0)))
abbrev bh5 (b : List UInt8) (j : Int) (X : Int) (k : Nat) : It := .row 86 (D.instrs ((R2 b j X k).fst ++ ([d7.mk 13 0 0 0 0] ++ [])))
abbrev ax5 (X : Int) (r0 : List (Nat × AV)) : List (Nat × AV) := (0, .ptr 0 0) :: (2, .ptr 2 0) :: (4, .ptr 5 0) :: (5, iA X) :: r0
abbrev aD2 (b : List UInt8) (j : Int) (r0 : List It) : List It := dY b :: aY8 :: aE0 b j :: aE1 b j :: .box [.ref 3, .ref 4, .ref 6] :: r0
theorem bw6 (b : List UInt8) (j X : Int) (hX : nm b (P4 b j).2 lnL = X) (r0 : 0 ≤ j) (r1 : j ≤ 10000000) : j9.ok Tryz.prog (cdC b j) := by
  have hbd := bG4 b r0 r1; have hnum : j9.ok Tryz.prog ⟨122, [.ptr 0 0, .ref 2], [.box [.ref 1, iA (P4 b j).2], dY b, dI lnL], [.box [.ref 1, iA ((P4 b j).2 + 1)], dY b, dI lnL], iA X⟩ := hX ▸ Q6 b (P4 b j).2 lnL (List.cons_ne_nil _ _) (by omega) (by omega); refine F9 60 Tryz.func168 [.box [.ref 1, iA j], dY b] [(0, .ptr 0 0)] fun G => ?_; have hop : 1 ≤ X ∧ X ≤ 12 := hX ▸ bW2 b (by omega) (by omega); refine wp_seq (j7 G f7 [0, 1, 2] [.box [.ref 1, iA j], dY b, aY8] [(0, .ptr 0 0), (2, .ptr 2 0)] fun G => b6 (wp_seq (j7 G (s6 1 [0, 1] (az2 b j (by assumption) (by assumption))) [0, 1, 2, 11, 12, 13, 19] [.box [.ref 1, iA (P4 b j).snd], dY b, aY8, aE0 b j, aE1 b j, .tree (D.stmts (L8 b j).body), .box [.ref 3, .ref 4, .tref 5]] [(0, .ptr 0 0), (2, .ptr 2 0), (3, .ptr 6 0)] fun G => b6 (wp_seq (j7 G f7 [0, 1, 2, 3, 4, 47] [.box [.ref 1, iA (P4 b j).snd], dY b, aY8, aE0 b j, aE1 b j, .box [.ref 3, .ref 4, .v (.slice none 0 0)]] [(0, .ptr 0 0), (2, .ptr 2 0), (4, .ptr 5 0)] fun G => b6 (wp_seq (j7 G (s6 2 [0, 1, 14] (j9.lend hnum [.no, .no, .row 3])) (rg 6) [.box [.ref 1, iA ((P4 b j).snd + 1)], dY b, aY8, aE0 b j, aE1 b j, .box [.ref 3, .ref 4, .v (.slice none 0 0)]] (ax5 X []) fun G => b6 (wp_seq (wp_seq (D7 G f7 (ax5 X [(6, iA 0)]) fun G => b6 (wp_block ?_))))))))))); obtain ⟨ρ, G⟩ := G.nil 6 86 (.instrs []) 5 [.box [.ref 1, iA ((P4 b j).snd + 1)], dY b, .box [.v (.slice none 0 0), .v (.slice none 0 0), .v (.slice none 0 0)], .row 3 (D.ints (L8 b j).vars), .row 3 (D.ints (L8 b j).arrays), .box [.ref 3, .ref 4, .ref 6]] (ax5 X [(6, iA 0)]); refine s8 (κ := Nat) (fun k => (k : Int) ≤ X - 1) (fun k => (X - 1).toNat - k) (fun k => (.box [.ref 1, iA (R2 b j X k).2] :: (aD2 b j [.row 86 (.instrs (R2 b j X k).1)]))) (fun k => (ax5 X [(6, iA k)])) 0 (by omega) (t7.at G _ _) ?_; clear G; intro k ρ a w hp G; replace G := t7.at G (.box [.ref 1, iA (R2 b j X k).snd] :: (aD2 b j [.row 86 (D.instrs (R2 b j X k).fst)])) (ax5 X [(6, iA k)]); have hrs := b31 b X r0 r1 k; refine wp_seq (wp_seq (E1 G f7 [(20, bA (decide ((k : Int) < X - 1)))] [wO (X - 1)] (o1 (by omega)) fun G => b6 (rcD G (fun h0 q0 => ?_) fun h0 q0 => ?_)))
  ·
   refine wp_exit (s4 (s4 (r8 (b6 (wp_seq (N4 G f7 [0, 1, 2, 3, 4, 5, 39] (.box [.ref 1, iA (R2 b j X k).snd] :: (aD2 b j [bh5 b j X k])) (ax5 X []) (aP ((R2 b j X k).fst.length + ([d7.mk (13 : Int) (0 : Int) (0 : Int) (0 : Int) (0 : Int)] ++ []).length) 40 []) (aK (by simp only [cg9, ch2, ch6, cj1]; omega) ch8) fun G => b6 (wp_seq (wp_seq ?_)))))))); cases h1 : (decide (X > 3))
   · have q1 := dFf h1; refine k8 G (H8 (fc h1 fz) [(3, 0), (4, 0), (5, 0), (1006, 0)]) [(45, bA false)] fun G => b6 (rF G false (by kernel_rfl) (wp_skip (b6 (wp_seq (j7 G f7 [0, 1, 2, 3, 4, 6] [.box [.ref 1, iA (R2 b j X k).snd], dY b, .box (pL 3), aE0 b j, aE1 b j, bh5 b j X k] [(2, .ptr 2 0)] fun G => b6 (wp_ret ?_)))))); exact M4 G [0, 1, 3, 4, 5] (by show _ = mR [0, 1, 3, 4, 5] (aO0 b j); unfold aO0; have e1 : ((l6 b j).snd : Int) = ((R2 b j X k).snd) := ((b89 hX (by omega) (by omega)).2); have e2 : ((l6 b j).fst.list : List d7) = ((R2 b j X k).fst ++ ([d7.mk 13 0 0 0 0] ++ [])) := ((b89 hX (by omega) (by omega)).1); (first | rw [e1, e2] | simp only [e1, e2]) <;> rfl)
   ·
    have q1 := dTt h1; refine j7 G (F5 (t5 4 [0, 1] (t6 b ((R2 b j X k).snd) 4 (by omega) (by omega)) F4) (fc h1 fz) [(3, 0), (4, 0), (5, 0), (1006, 0)]) (rg 7) (.box [.ref 1, iA ((R2 b j X k).snd + 1)] :: (aD2 b j [bh5 b j X k])) (ax5 X [(45, bA (pk b (R2 b j X k).snd 4 == 0))]) fun G => b6 (J4 G (fun h2 q2 => ?_) fun h2 q2 => ?_)
    · refine wp_skip (b6 (wp_seq (j7 G f7 [0, 1, 2, 3, 4, 6] [.box [.ref 1, iA ((R2 b j X k).snd + 1)], dY b, .box (pL 3), aE0 b j, aE1 b j, bh5 b j X k] [(2, .ptr 2 0)] fun G => b6 (wp_ret ?_)))); exact M4 G [0, 1, 3, 4, 5] (by show _ = mR [0, 1, 3, 4, 5] (aO0 b j); unfold aO0; have e1 : ((l6 b j).snd : Int) = ((R2 b j X k).snd + 1) := ((b88 hX (by omega) (by omega) (by omega)).2); have e2 : ((l6 b j).fst.list : List d7) = ((R2 b j X k).fst ++ ([d7.mk 13 0 0 0 0] ++ [])) := ((b88 hX (by omega) (by omega) (by omega)).1); (first | rw [e1, e2] | simp only [e1, e2]) <;> rfl)
    · refine wp_seq (M5 G (s6 3 [0, 1] (t6 b ((R2 b j X k).snd + 1) 3 (by omega) (by omega))) [0, 1, 0, 4, 12, 28, 63, 127] (rg 7) (.box [.ref 1, iA ((R2 b j X k).snd + 1 + 1)] :: (aD2 b j [.row 86 (D.instrs (((R2 b j X k).fst ++ ([d7.mk 13 0 0 0 0] ++ [])).set 0 (d7.mk 1 5 (1 + pk b ((R2 b j X k).snd + 1) 3) 0 0)))])) [(2, .ptr 2 0), (4, .ptr 5 0), (5, iA X)] [wO ((1 : Int) + pk b ((R2 b j X k).snd + 1) (3 : Int)), (0 : Int) ≤ 0, (0 : Int) < (((R2 b j X k).fst ++ ([d7.mk (13 : Int) (0 : Int) (0 : Int) (0 : Int) (0 : Int)] ++ [])).length : Int), (0 : Nat) < ((R2 b j X k).fst ++ ([d7.mk (13 : Int) (0 : Int) (0 : Int) (0 : Int) (0 : Int)] ++ [])).length] ⟨(pw3 b (by omega) (by omega)), (by omega), (by simp [h0, h1, h2]), (by simp [h0, h1, h2]), ch8⟩ fun G => b6 (N4 G f7 (rg 7) (.box [.ref 1, iA ((R2 b j X k).snd + 1 + 1)] :: (aD2 b j [bP2 b j X k])) [(2, .ptr 2 0), (4, .ptr 5 0)] [wO (X - 2), (0 : Int) ≤ X - 2, X - 2 < ((((R2 b j X k).fst ++ ([d7.mk (13 : Int) (0 : Int) (0 : Int) (0 : Int) (0 : Int)] ++ [])).set (0 : Nat) (d7.mk (1 : Int) (5 : Int) ((1 : Int) + pk b ((R2 b j X k).snd + 1) (3 : Int)) (0 : Int) (0 : Int))).length : Int), (X - 2).toNat < (((R2 b j X k).fst ++ ([d7.mk (13 : Int) (0 : Int) (0 : Int) (0 : Int) (0 : Int)] ++ [])).set (0 : Nat) (d7.mk (1 : Int) (5 : Int) ((1 : Int) + pk b ((R2 b j X k).snd + 1) (3 : Int)) (0 : Int) (0 : Int))).length] ⟨oW (by omega), (by omega), (by simp only [cg9, ch2, ch6, cj1]; omega), (by simp only [cg9, ch2, ch6, cj1]; omega), ch8⟩ fun G => b6 (wp_seq (j7 G f7 [0, 1, 2, 3, 4, 6] [.box [.ref 1, iA ((R2 b j X k).snd + 1 + 1)], dY b, .box (pL 3), aE0 b j, aE1 b j, bP2 b j X k] [(2, .ptr 2 0)] fun G => b6 (wp_ret ?_))))); exact M4 G [0, 1, 3, 4, 5] (by show _ = mR [0, 1, 3, 4, 5] (aO0 b j); unfold aO0; have e1 : ((l6 b j).snd : Int) = ((R2 b j X k).snd + 1 + 1) := ((b87 hX (by omega) (by omega) (by omega)).2); have e2 : ((l6 b j).fst.list : List d7) = ((((R2 b j X k).fst ++ ([d7.mk 13 0 0 0 0] ++ [])).set 0 (d7.mk 1 5 (1 + pk b ((R2 b j X k).snd + 1) 3) 0 0)).set (X - 2).toNat (d7.mk 10 5 1 0 0)) := ((b87 hX (by omega) (by omega) (by omega)).1); (first | rw [e1, e2] | simp only [e1, e2]) <;> rfl)
  · refine wp_skip (b6 (wp_seq (wp_block (M5 G (s6 6 [0, 1, 3, 4, 6] (j9.lend (be2 b ((R2 b j X k).snd) ((L8 b j).vars) ((L8 b j).arrays) ((R2 b j X k).fst) ((k : Int)) X (by omega) (by omega) (by omega) (by omega)) [.no, .no, .row 3, .row 3, .row 86])) [0, 1, 0, 0, 0, 0, 60, 124, 255, 511, 1023] [0, 1, 2, 3, 4, 5, 71] (.box [.ref 1, iA (aO1 b j X k).snd] :: (aD2 b j [.row 86 (D.instrs ((R2 b j X k).fst ++ ([d7.mk (aO1 b j X k).fst.op (aO1 b j X k).fst.a (aO1 b j X k).fst.b (aO1 b j X k).fst.c (aO1 b j X k).fst.d] ++ [])))])) (ax5 X [(6, iA k)]) (aP ((R2 b j X k).fst.length + ([d7.mk (Z0 b (R2 b j X k).snd (L8 b j).vars.length (L8 b j).arrays.length (k : Int) X).fst.op (Z0 b (R2 b j X k).snd (L8 b j).vars.length (L8 b j).arrays.length (k : Int) X).fst.a (Z0 b (R2 b j X k).snd (L8 b j).vars.length (L8 b j).arrays.length (k : Int) X).fst.b (Z0 b (R2 b j X k).snd (L8 b j).vars.length (L8 b j).arrays.length (k : Int) X).fst.c (Z0 b (R2 b j X k).snd (L8 b j).vars.length (L8 b j).arrays.length (k : Int) X).fst.d] ++ []).length) 40 []) (aK (by simp only [cg9, ch2, ch6, cj1]; omega) ch8) fun G => l0 (b6 (E1 G f7 [(6, iA ((k : Int) + 1))] [wO ((k : Int) + 1)] (o1 (by omega)) fun G => b6 ?_)))))); exact I6 G (k + 1) (by assumption) (by omega) (rg 7)
theorem as8 (b : List UInt8) (j : Int) (r0 : 0 ≤ j) (r1 : j ≤ 10000000) : j9.ok Tryz.prog (cdC b j) := bw6 b j _ rfl r0 r1
abbrev muC (b : List UInt8) (j : Int) (vs ars : List Int) (l : List d7) : j9 := ⟨95, [.ptr 0 0, .agg [.ref 2, .ref 3, .ref 4]], [.box [.ref 1, iA j], dY b, dI vs, dI ars, dN l], [.box [.ref 1, iA (muD b j ⟨vs, ars, l⟩).2], dY b, dI vs, dI ars, dN l, rI (muD b j ⟨vs, ars, l⟩).1.vars, rI (muD b j ⟨vs, ars, l⟩).1.arrays, rN (muD b j ⟨vs, ars, l⟩).1.list], .agg [.ref 5, .ref 6, .ref 7]⟩
section
variable {b : List UInt8} {j : Int} {vs ars : List Int} {l : List d7}
theorem cd9 (h : (([] ++ l).length : Int) = 0) : muD b j ⟨vs, ars, l⟩ = (⟨[] ++ vs, [] ++ ars, [] ++ l⟩, j) := by
 unfold muD; rw [if_pos (by rw [List.nil_append] at h; show l.length = 0; omega)]
 rfl
theorem ce8 (h : ¬ (([] ++ l).length : Int) = 0) (h1 : pk b j 60 = 0) : muD b j ⟨vs, ars, l⟩ = (⟨vs, ars, bU3 l 0 (nm b (j + 1) b50)⟩, j + 1 + 1) := by
 unfold muD; rw [if_neg (by rw [List.nil_append] at h; show ¬ l.length = 0; omega), if_pos h1, Int.add_assoc]; rfl
theorem ce7 (h : ¬ (([] ++ l).length : Int) = 0) (h1 : pk b j 60 = 1) : muD b j ⟨vs, ars, l⟩ = (⟨vs, ars, by0 l (pk b (j + 1) l.length).toNat (nm b (j + 1 + 1) b49)⟩, j + 1 + 1 + 1) := by
 unfold muD; rw [if_neg (by rw [List.nil_append] at h; show ¬ l.length = 0; omega), if_neg (by omega), if_pos h1, Int.add_assoc j 1 1, Int.add_assoc]; rfl
theorem ce6 (h : ¬ (([] ++ l).length : Int) = 0) (h1 : pk b j 60 = 2) : muD b j ⟨vs, ars, l⟩ = (⟨vs, ars, ([] ++ l).set ((([] ++ l).length : Int) - 1).toNat ⟨12, 0, 0, 0, 0⟩⟩, j + 1) := by
 unfold muD; rw [if_neg (by rw [List.nil_append] at h; show ¬ l.length = 0; omega), if_neg (by omega), if_neg (by omega), if_pos h1]
 rw [List.nil_append] at h ⊢
 exact congrArg (fun i => ((⟨vs, ars, l.set i _⟩ : d8), j + 1)) (by show l.length - 1 = _; omega)
theorem ce5 (h : ¬ (([] ++ l).length : Int) = 0) (h1 : pk b j 60 = 3) : muD b j ⟨vs, ars, l⟩ = (⟨vs, ars, ([] ++ l).set ((([] ++ l).length : Int) - 1).toNat ⟨8, 0, 0, 0, 0⟩⟩, j + 1) := by
 unfold muD; rw [if_neg (by rw [List.nil_append] at h; show ¬ l.length = 0; omega), if_neg (by omega), if_neg (by omega), if_neg (by omega), if_pos h1]
 rw [List.nil_append] at h ⊢
 exact congrArg (fun i => ((⟨vs, ars, l.set i _⟩ : d8), j + 1)) (by show l.length - 1 = _; omega)
theorem ce4 (h : ¬ (([] ++ l).length : Int) = 0) (h1 : pk b j 60 = 4) : muD b j ⟨vs, ars, l⟩ = (⟨vs, ars, bU4 l (pk b (j + 1) l.length).toNat (nm b (j + 1 + 1) b48)⟩, j + 1 + 1 + 1) := by
 unfold muD; rw [if_neg (by rw [List.nil_append] at h; show ¬ l.length = 0; omega), if_neg (by omega), if_neg (by omega), if_neg (by omega), if_neg (by omega), if_pos h1, Int.add_assoc j 1 1, Int.add_assoc]; rfl
theorem ce3 (h : ¬ (([] ++ l).length : Int) = 0) (h1 : pk b j 60 = 5) : muD b j ⟨vs, ars, l⟩ = (⟨[], ars, l⟩, j + 1) := by
 unfold muD; rw [if_neg (by rw [List.nil_append] at h; show ¬ l.length = 0; omega), if_neg (by omega), if_neg (by omega), if_neg (by omega), if_neg (by omega), if_neg (by omega), if_pos h1]
theorem cd8 (h : ¬ (([] ++ l).length : Int) = 0) (h1 : ¬ pk b j 60 = 0 ∧ ¬ pk b j 60 = 1 ∧ ¬ pk b j 60 = 2 ∧ ¬ pk b j 60 = 3 ∧ ¬ pk b j 60 = 4 ∧ ¬ pk b j 60 = 5) : muD b j ⟨vs, ars, l⟩ = (⟨[] ++ vs, [] ++ ars, [] ++ l⟩, j + 1) := by
 unfold muD; rw [if_neg (by rw [List.nil_append] at h; show ¬ l.length = 0; omega), if_neg (by omega), if_neg (by omega), if_neg (by omega), if_neg (by omega), if_neg (by omega), if_neg (by omega)]
 rfl
theorem cd7 (h : ¬ (([] ++ l).length : Int) = 0) (r0 : 0 ≤ j) (r1 : j ≤ 100000000) : 0 ≤ pk b (j + 1) (([] ++ l).length : Int) ∧ pk b (j + 1) (([] ++ l).length : Int) < (([] ++ l).length : Int) := bU7 b (by omega) (by omega) (by omega)
end
abbrev W0 (b : List UInt8) (j : Int) (vs : List Int) (ars : List Int) (l : List d7) : List It := [.box [.ref 1, iA (muD b j (d8.mk vs ars l)).snd], dY b, dI vs, dI ars, dN l, .row 3 (D.ints (muD b j (d8.mk vs ars l)).fst.vars), .row 3 (D.ints (muD b j (d8.mk vs ars l)).fst.arrays), .row 86 (D.instrs (muD b j (d8.mk vs ars l)).fst.list)]
abbrev bP1 (b : List UInt8) (j : Int) (l : List d7) : It := .row 86 (D.instrs (([] ++ l).set (pk b (j + 1) (([] ++ l).length : Int)).toNat (d7.mk (([] ++ l).getD (pk b (j + 1) (([] ++ l).length : Int)).toNat cg3).op (nm b (j + 1 + 1) ([-1] ++ ([14] ++ ([0] ++ ([400] ++ []))))) (([] ++ l).getD (pk b (j + 1) (([] ++ l).length : Int)).toNat cg3).b (([] ++ l).getD (pk b (j + 1) (([] ++ l).length : Int)).toNat cg3).c (([] ++ l).getD (pk b (j + 1) (([] ++ l).length : Int)).toNat cg3).d)))
abbrev bP0 (b : List UInt8) (j : Int) (l : List d7) : It := .row 86 (D.instrs (([] ++ l).set (pk b (j + 1) (([] ++ l).length : Int)).toNat (d7.mk (([] ++ l).getD (pk b (j + 1) (([] ++ l).length : Int)).toNat cg3).op (([] ++ l).getD (pk b (j + 1) (([] ++ l).length : Int)).toNat cg3).a (([] ++ l).getD (pk b (j + 1) (([] ++ l).length : Int)).toNat cg3).b (([] ++ l).getD (pk b (j + 1) (([] ++ l).length : Int)).toNat cg3).c (nm b (j + 1 + 1) ([1] ++ ([-1] ++ []))))))
abbrev aq3 : It := .box [.v (.slice none 0 0), .v (.slice none 0 0), .v (.slice none 0 0)]
abbrev bO9 (b : List UInt8) (j : Int) (l : List d7) : It := .row 86 (D.instrs (([] ++ l).set 0 (d7.mk (nm b (j + 1) ([0] ++ ([14] ++ ([1] ++ ([12] ++ []))))) (([] ++ l).getD 0 cg3).a (([] ++ l).getD 0 cg3).b (([] ++ l).getD 0 cg3).c (([] ++ l).getD 0 cg3).d)))
abbrev aa5 (vs : List Int) (ars : List Int) (r0 : List It) : List It := .row 3 (D.ints ([] ++ vs)) :: .row 3 (D.ints ([] ++ ars)) :: r0
theorem aK5 (b : List UInt8) (j : Int) (vs ars : List Int) (l : List d7) (hb : vs.length ≤ 1048576 ∧ ars.length ≤ 1048576 ∧ l.length ≤ 9000000) (r0 : 0 ≤ j) (r1 : j ≤ 100000000) : j9.ok Tryz.prog (muC b j vs ars l) := by
  refine F9 82 Tryz.func95 [.box [.ref 1, iA j], dY b, dI vs, dI ars, dN l] [(0, .ptr 0 0), (1, pA 2)] fun G => ?_
  have hmp := fun (h : ¬ (([] ++ l).length : Int) = 0) => cd7 (b := b) (j := j) (l := l) h r0 r1
  have hll : ([] ++ l).length ≤ 9000000 := hb.2.2; refine wp_seq (j7 G f7 [0, 1, 2, 3, 4, 5, 13] [.box [.ref 1, iA j], dY b, dI vs, dI ars, dN l, .box (pL 2), aq3] [(0, .ptr 0 0), (3, .ptr 5 0), (4, .ptr 6 0)] fun G => b6 (wp_seq (M5 G f7 [0, 0, 2, 7, 0, 0, 32, 127, 0, 0, 512, 2047, 4095, 0, 16383] [0, 1, 2, 3, 4, 6, 31, 63, 95, 111] (.box [.ref 1, iA j] :: dY b :: dI vs :: dI ars :: dN l :: aq3 :: (aa5 vs ars [.row 86 (D.instrs ([] ++ l)), .box (pL 6)])) [(0, .ptr 0 0), (4, .ptr 5 0), (5, .ptr 9 0)] (aP ((0 : Nat) + vs.length) 8 (aP ((0 : Nat) + ars.length) 8 (aP ((0 : Nat) + l.length) 40 []))) (aK (by omega) (aK (by omega) (aK (by omega) ch8))) fun G => b6 (wp_seq (k8 G f7 [(6, iA (([] ++ l).length : Int))] fun G => b6 (wp_seq (wp_seq (k8 G f7 [(24, bA ((([] ++ l).length : Int) == 0))] fun G => b6 (J4 G (fun h0 q0 => ?_) fun h0 q0 => ?_)))))))))
  ·
   refine wp_skip (b6 (wp_seq (wp_seq (j7 G (s6 1 [0, 1] (t6 b j 60 (by assumption) (by omega))) (rg 10) (.box [.ref 1, iA (j + 1)] :: dY b :: dI vs :: dI ars :: dN l :: aq3 :: (aa5 vs ars [.row 86 (D.instrs ([] ++ l)), .box (pL 6)])) [(0, .ptr 0 0), (4, .ptr 5 0), (5, .ptr 9 0), (6, iA (([] ++ l).length : Int)), (27, iA (pk b j 60))] fun G => b6 (wp_block (wp_seq (k8 G f7 [(28, bA (pk b j 60 == 0))] fun G => b6 (J4 G (fun h1 q1 => ?_) fun h1 q1 => ?_))))))))
   ·
    refine wp_seq (k8 G f7 [(37, bA (pk b j 60 == 1))] fun G => b6 (J4 G (fun h2 q2 => ?_) fun h2 q2 => ?_))
    ·
     refine wp_seq (k8 G f7 [(49, bA (pk b j 60 == 2))] fun G => b6 (J4 G (fun h3 q3 => ?_) fun h3 q3 => ?_))
     ·
      refine wp_seq (k8 G f7 [(57, bA (pk b j 60 == 3))] fun G => b6 (J4 G (fun h4 q4 => ?_) fun h4 q4 => ?_))
      ·
       refine wp_seq (k8 G f7 [(65, bA (pk b j 60 == 4))] fun G => b6 (J4 G (fun h5 q5 => ?_) fun h5 q5 => ?_))
       ·
        refine wp_seq (k8 G f7 [(77, bA (pk b j 60 == 5))] fun G => b6 (J4 G (fun h6 q6 => ?_) fun h6 q6 => ?_))
        · refine wp_skip (l0 (b6 (wp_seq (j7 G f7 (rg 9) (.box [.ref 1, iA (j + 1)] :: dY b :: dI vs :: dI ars :: dN l :: .box (pL 6) :: (aa5 vs ars [.row 86 (D.instrs ([] ++ l))])) [(4, .ptr 5 0)] fun G => b6 (wp_ret ?_))))); exact M4 G [0, 1, 2, 3, 4, 6, 7, 8] (by show _ = mR [0, 1, 2, 3, 4, 6, 7, 8] (W0 b j vs ars l); unfold W0; rw [cd8 (by omega) (by omega)] <;> rfl)
        · refine j7 G f7 [0, 1, 2, 3, 4, 5, 7, 8, 9, 10] [.box [.ref 1, iA (j + 1)], dY b, dI vs, dI ars, dN l, aq3, .row 3 (D.ints ([] ++ ars)), .row 86 (D.instrs ([] ++ l)), .box [.ref 9, .ref 6, .ref 7], .row 3 (D.ints [])] [(4, .ptr 5 0), (5, .ptr 8 0)] fun G => l0 (b6 (wp_seq (j7 G f7 [0, 1, 2, 3, 4, 5, 6, 7, 9] [.box [.ref 1, iA (j + 1)], dY b, dI vs, dI ars, dN l, .box [.ref 8, .ref 6, .ref 7], .row 3 (D.ints ([] ++ ars)), .row 86 (D.instrs ([] ++ l)), .row 3 (D.ints [])] [(4, .ptr 5 0)] fun G => b6 (wp_ret ?_)))); exact M4 G [0, 1, 2, 3, 4, 8, 6, 7] (by show _ = mR [0, 1, 2, 3, 4, 8, 6, 7] (W0 b j vs ars l); unfold W0; rw [ce3 (by omega) (by omega)] <;> rfl)
       · refine M5 G (F5 (t5 4 [0, 1] (t6 b (j + 1) ((([] ++ l).length : Int)) (by omega) (by omega)) (t5 7 [0, 1, 58] (j9.lend (Q6 b (j + 1 + 1) ([1] ++ ([-1] ++ [])) (by simp [h0, h1, h2, h3, h4, h5]) (by omega) (by omega)) [.no, .no, .row 3]) F4)) fz []) [0, 1, 0, 0, 12, 0, 0, 124, 255, 511, 1023] (rg 10) (.box [.ref 1, iA (j + 1 + 1 + 1)] :: dY b :: dI vs :: dI ars :: dN l :: aq3 :: (aa5 vs ars [bP0 b j l, .box (pL 6)])) [(4, .ptr 5 0), (5, .ptr 9 0)] (iX (pk b (j + 1) (([] ++ l).length : Int)) ((pk b (j + 1) (([] ++ l).length : Int)).toNat) (([] ++ l).length) []) (iK (by omega) ch8) fun G => l0 (b6 (wp_seq (j7 G f7 (rg 9) (.box [.ref 1, iA (j + 1 + 1 + 1)] :: dY b :: dI vs :: dI ars :: dN l :: .box (pL 6) :: (aa5 vs ars [bP0 b j l])) [(4, .ptr 5 0)] fun G => b6 (wp_ret ?_)))); exact M4 G [0, 1, 2, 3, 4, 6, 7, 8] (by show _ = mR [0, 1, 2, 3, 4, 6, 7, 8] (W0 b j vs ars l); unfold W0; rw [ce4 (by omega) (by omega)] <;> rfl)
      · refine N4 G f7 (rg 10) (.box [.ref 1, iA (j + 1)] :: dY b :: dI vs :: dI ars :: dN l :: aq3 :: (aa5 vs ars [.row 86 (D.instrs (([] ++ l).set ((([] ++ l).length : Int) - 1).toNat (d7.mk 8 0 0 0 0))), .box (pL 6)])) [(4, .ptr 5 0), (5, .ptr 9 0)] ((wO ((([] ++ l).length : Int) - 1)) :: (iX ((([] ++ l).length : Int) - 1) (((([] ++ l).length : Int) - 1).toNat) (([] ++ l).length) [])) ⟨oW (by omega), (iK (by omega) ch8)⟩ fun G => l0 (b6 (wp_seq (j7 G f7 (rg 9) (.box [.ref 1, iA (j + 1)] :: dY b :: dI vs :: dI ars :: dN l :: .box (pL 6) :: (aa5 vs ars [.row 86 (D.instrs (([] ++ l).set ((([] ++ l).length : Int) - 1).toNat (d7.mk 8 0 0 0 0)))])) [(4, .ptr 5 0)] fun G => b6 (wp_ret ?_)))); exact M4 G [0, 1, 2, 3, 4, 6, 7, 8] (by show _ = mR [0, 1, 2, 3, 4, 6, 7, 8] (W0 b j vs ars l); unfold W0; rw [ce5 (by omega) (by omega)] <;> rfl)
     · refine N4 G f7 (rg 10) (.box [.ref 1, iA (j + 1)] :: dY b :: dI vs :: dI ars :: dN l :: aq3 :: (aa5 vs ars [.row 86 (D.instrs (([] ++ l).set ((([] ++ l).length : Int) - 1).toNat (d7.mk 12 0 0 0 0))), .box (pL 6)])) [(4, .ptr 5 0), (5, .ptr 9 0)] ((wO ((([] ++ l).length : Int) - 1)) :: (iX ((([] ++ l).length : Int) - 1) (((([] ++ l).length : Int) - 1).toNat) (([] ++ l).length) [])) ⟨oW (by omega), (iK (by omega) ch8)⟩ fun G => l0 (b6 (wp_seq (j7 G f7 (rg 9) (.box [.ref 1, iA (j + 1)] :: dY b :: dI vs :: dI ars :: dN l :: .box (pL 6) :: (aa5 vs ars [.row 86 (D.instrs (([] ++ l).set ((([] ++ l).length : Int) - 1).toNat (d7.mk 12 0 0 0 0)))])) [(4, .ptr 5 0)] fun G => b6 (wp_ret ?_)))); exact M4 G [0, 1, 2, 3, 4, 6, 7, 8] (by show _ = mR [0, 1, 2, 3, 4, 6, 7, 8] (W0 b j vs ars l); unfold W0; rw [ce6 (by omega) (by omega)] <;> rfl)
    · refine M5 G (F5 (t5 4 [0, 1] (t6 b (j + 1) ((([] ++ l).length : Int)) (by omega) (by omega)) (t5 7 [0, 1, 58] (j9.lend (Q6 b (j + 1 + 1) ([-1] ++ ([14] ++ ([0] ++ ([400] ++ [])))) (by simp [h0, h1, h2]) (by omega) (by omega)) [.no, .no, .row 3]) F4)) fz []) [0, 1, 0, 0, 12, 0, 0, 124, 255, 511, 1023] (rg 10) (.box [.ref 1, iA (j + 1 + 1 + 1)] :: dY b :: dI vs :: dI ars :: dN l :: aq3 :: (aa5 vs ars [bP1 b j l, .box (pL 6)])) [(4, .ptr 5 0), (5, .ptr 9 0)] (iX (pk b (j + 1) (([] ++ l).length : Int)) ((pk b (j + 1) (([] ++ l).length : Int)).toNat) (([] ++ l).length) []) (iK (by omega) ch8) fun G => l0 (b6 (wp_seq (j7 G f7 (rg 9) (.box [.ref 1, iA (j + 1 + 1 + 1)] :: dY b :: dI vs :: dI ars :: dN l :: .box (pL 6) :: (aa5 vs ars [bP1 b j l])) [(4, .ptr 5 0)] fun G => b6 (wp_ret ?_)))); exact M4 G [0, 1, 2, 3, 4, 6, 7, 8] (by show _ = mR [0, 1, 2, 3, 4, 6, 7, 8] (W0 b j vs ars l); unfold W0; rw [ce7 (by omega) (by omega)] <;> rfl)
   · refine M5 G (s6 4 [0, 1, 34] (j9.lend (Q6 b (j + 1) ([0] ++ ([14] ++ ([1] ++ ([12] ++ [])))) (by simp [h0, h1]) (by omega) (by omega)) [.no, .no, .row 3])) [0, 1, 0, 0, 12, 31, 63, 127] (rg 10) (.box [.ref 1, iA (j + 1 + 1)] :: dY b :: dI vs :: dI ars :: dN l :: aq3 :: (aa5 vs ars [bO9 b j l, .box (pL 6)])) [(4, .ptr 5 0), (5, .ptr 9 0)] (iX 0 0 (([] ++ l).length) []) (iK (by omega) ch8) fun G => l0 (b6 (wp_seq (j7 G f7 (rg 9) (.box [.ref 1, iA (j + 1 + 1)] :: dY b :: dI vs :: dI ars :: dN l :: .box (pL 6) :: (aa5 vs ars [bO9 b j l])) [(4, .ptr 5 0)] fun G => b6 (wp_ret ?_)))); exact M4 G [0, 1, 2, 3, 4, 6, 7, 8] (by show _ = mR [0, 1, 2, 3, 4, 6, 7, 8] (W0 b j vs ars l); unfold W0; rw [ce8 (by omega) (by omega)] <;> rfl)
  · refine wp_seq (j7 G f7 (rg 10) (.box [.ref 1, iA j] :: dY b :: dI vs :: dI ars :: dN l :: .box (pL 6) :: (aa5 vs ars [.row 86 (D.instrs ([] ++ l)), .box (pL 6)])) [(0, .ptr 0 0), (4, .ptr 5 0), (5, .ptr 9 0), (6, iA (([] ++ l).length : Int))] fun G => b6 (wp_ret (l5 ?_))); exact M4 G [0, 1, 2, 3, 4, 6, 7, 8] (by show _ = mR [0, 1, 2, 3, 4, 6, 7, 8] (W0 b j vs ars l); unfold W0; rw [cd9 (by omega)] <;> rfl)
abbrev tyC (b : List UInt8) (j : Int) : j9 := ⟨56, [.ptr 0 0], [.box [.ref 1, iA j], dY b], [.box [.ref 1, iA ((P4 b j).2 + 1)], dY b] ++ oP (U8 b j), oA 2⟩
section
variable {b : List UInt8} {j : Int}
theorem ca7 (h : pk b (P4 b j).2 4 = 0) : U8 b j = L8 b j := if_pos h
theorem ca6 (h : ¬ pk b (P4 b j).2 4 = 0) (h2 : okI (L8 b j) = true) : U8 b j = ag0 (L8 b j) := by rw [U8, if_neg h, if_pos h2]
theorem ca5 (h : ¬ pk b (P4 b j).2 4 = 0) (h2 : okI (L8 b j) = false) : U8 b j = L8 b j := by rw [U8, if_neg h, if_neg (by rw [h2]; decide)]
end
abbrev aN5 (b : List UInt8) (j : Int) : List It := [.box [.ref 1, iA ((P4 b j).snd + 1)], dY b, .row 3 (D.ints (U8 b j).vars), .row 3 (D.ints (U8 b j).arrays), .tree (D.stmts (U8 b j).body)]
abbrev bg7 : It := .box [.v (.slice none 0 0), .v (.slice none 0 0), .v (.slice none 0 0)]
abbrev aD8 : It := .box [.ref 3, .ref 4, .tref 5]
abbrev aN3 (b : List UInt8) (j : Int) (r0 : List It) : List It := .row 3 (D.ints (L8 b j).vars) :: .row 3 (D.ints (L8 b j).arrays) :: .tree (D.stmts (L8 b j).body) :: r0
theorem aQ8 (b : List UInt8) (j : Int) (r0 : 0 ≤ j) (r1 : j ≤ 10000000) : j9.ok Tryz.prog (tyC b j) := by
  refine F9 20 Tryz.func56 [.box [.ref 1, iA j], dY b] [(0, .ptr 0 0)] fun G => ?_; have hk2 := bl0 b r0 r1; have hbd := bn1 b r0 r1; have hsz := by5 b r0 r1; refine wp_seq (j7 G f7 [0, 1, 2] [.box [.ref 1, iA j], dY b, bg7] [(0, .ptr 0 0), (2, .ptr 2 0)] fun G => b6 (wp_seq (j7 G (s6 1 [0, 1] (az2 b j (by assumption) (by assumption))) [0, 1, 2, 11, 12, 13, 19] (.box [.ref 1, iA (P4 b j).snd] :: dY b :: bg7 :: (aN3 b j [aD8])) [(0, .ptr 0 0), (2, .ptr 2 0), (3, .ptr 6 0)] fun G => b6 (wp_seq (wp_seq (j7 G (s6 1 [0, 1] (t6 b ((P4 b j).snd) 4 (by omega) (by omega))) (rg 7) (.box [.ref 1, iA ((P4 b j).snd + 1)] :: dY b :: bg7 :: (aN3 b j [aD8])) [(2, .ptr 2 0), (3, .ptr 6 0), (10, bA (pk b (P4 b j).snd 4 == 0))] fun G => b6 (J4 G (fun h0 q0 => ?_) fun h0 q0 => ?_)))))))
  ·
   refine wp_skip (b6 (wp_seq (j7 G (s6 1 [3, 4, 5] (j9.lend (aM8 (L8 b j) (by omega)) [.row 3, .row 3, .tree])) [0, 1, 2, 3, 4, 5, 6, 15, 16, 17, 47] (.box [.ref 1, iA ((P4 b j).snd + 1)] :: dY b :: bg7 :: (aN3 b j [aD8, .row 3 (D.ints (ag0 (L8 b j)).vars), .row 3 (D.ints (ag0 (L8 b j)).arrays), .tree (D.stmts (ag0 (L8 b j)).body), .box [.ref 7, .ref 8, .tref 9]])) [(2, .ptr 2 0), (3, .ptr 6 0), (4, .ptr 10 0), (5, bA (okI (L8 b j)))] fun G => b6 (wp_seq (wp_seq (k8 G f7 [(17, bA (okI (L8 b j)))] fun G => b6 (rcB G (fun h1 => ?_) fun h1 => ?_)))))))
   · refine wp_skip (b6 (wp_seq (j7 G f7 (rg 6) (.box [.ref 1, iA ((P4 b j).snd + 1)] :: dY b :: aD8 :: (aN3 b j [])) [(2, .ptr 2 0)] fun G => b6 (wp_ret ?_)))); exact M4 G [0, 1, 3, 4, 5] (by show _ = mR [0, 1, 3, 4, 5] (aN5 b j); unfold aN5; rw [ca5 (by omega) (by with_reducible assumption)] <;> rfl)
   · refine wp_seq (j7 G f7 (rg 10) (.box [.ref 1, iA ((P4 b j).snd + 1)] :: dY b :: .box [.ref 7, .ref 8, .tref 9] :: (aN3 b j [aD8, .row 3 (D.ints (ag0 (L8 b j)).vars), .row 3 (D.ints (ag0 (L8 b j)).arrays), .tree (D.stmts (ag0 (L8 b j)).body)])) [(2, .ptr 2 0), (3, .ptr 6 0)] fun G => b6 (wp_ret (l5 ?_))); exact M4 G [0, 1, 7, 8, 9] (by show _ = mR [0, 1, 7, 8, 9] (aN5 b j); unfold aN5; rw [ca6 (by omega) (by with_reducible assumption)] <;> rfl)
  · refine wp_seq (j7 G f7 (rg 7) (.box [.ref 1, iA ((P4 b j).snd + 1)] :: dY b :: aD8 :: (aN3 b j [aD8])) [(2, .ptr 2 0), (3, .ptr 6 0)] fun G => b6 (wp_ret (l5 ?_))); exact M4 G [0, 1, 3, 4, 5] (by show _ = mR [0, 1, 3, 4, 5] (aN5 b j); unfold aN5; rw [ca7 (by omega)] <;> rfl)
section
variable (vs ars : List Int) (bd : List c5)
end
abbrev fpC (b : List UInt8) (j : Int) : j9 := ⟨92, [.ptr 0 0], [.box [.ref 1, iA j], dY b], [.box [.ref 1, iA (H9 b 3 j).2], dY b] ++ oP (H9 b 3 j).1, oA 2⟩
theorem bD1 {b : List UInt8} {j : Int} {i : Nat} (hi : i < 3) (h : H9 b 3 j = H9 b (3 - i) (P5 b j i)) (hn : ¬ ((V4 ⟨(U8 b (P5 b j i)).vars, (U8 b (P5 b j i)).arrays, (U8 b (P5 b j i)).body⟩ false).1 = 0 ∧ 0 < (U8 b (P5 b j i)).body.length)) : i + 1 ≤ 3 ∧ H9 b 3 j = H9 b (3 - (i + 1)) (P5 b j (i + 1)) := ⟨hi, b78 hi h hn⟩
theorem bM4 {b : List UInt8} {j : Int} {i : Nat} (hi : i < 3) (h : H9 b 3 j = H9 b (3 - i) (P5 b j i)) (hn : (V4 ⟨(U8 b (P5 b j i)).vars, (U8 b (P5 b j i)).arrays, (U8 b (P5 b j i)).body⟩ false).1 = 0 ∧ 0 < (U8 b (P5 b j i)).body.length) : H9 b 3 j = (U8 b (P5 b j i), (P4 b (P5 b j i)).2 + 1) := bX5 hi h hn
theorem tyb (b : List UInt8) {j : Int} (h : 0 ≤ j) (h2 : j ≤ 10000000) : j5 (U8 b j).body ≤ 1048576 ∧ (U8 b j).body.length ≤ 1048576 := by
 have h1 := a89 b h h2
 have h3 := K8 (U8 b j).body
 unfold i6.size at h1; omega
abbrev bg6 (b : List UInt8) (j : Int) : List It := [.box [.ref 1, iA (H9 b 3 j).snd], dY b, .row 3 (D.ints (H9 b 3 j).fst.vars), .row 3 (D.ints (H9 b 3 j).fst.arrays), .tree (D.stmts (H9 b 3 j).fst.body)]
abbrev aY6 : It := .box [.v (.slice none 0 0), .v (.slice none 0 0), .v (.slice none 0 0)]
theorem az1 (b : List UInt8) (j : Int) (r0 : 0 ≤ j) (r1 : j ≤ 9000000) : j9.ok Tryz.prog (fpC b j) := by
  refine F9 29 Tryz.func92 [.box [.ref 1, iA j], dY b] [(0, .ptr 0 0)] fun G => ?_; refine wp_seq (j7 G f7 [0, 1, 2] [.box [.ref 1, iA j], dY b, aY6] [(0, .ptr 0 0), (2, .ptr 2 0)] fun G => b6 (wp_seq (wp_seq (D7 G f7 [(0, .ptr 0 0), (2, .ptr 2 0), (3, iA 0)] fun G => b6 (wp_block ?_))))); refine s8 (κ := Nat) (fun i => i ≤ 3 ∧ H9 b 3 j = H9 b (3 - i) (P5 b j i)) (fun i => 3 - i) (fun i => [.box [.ref 1, iA (P5 b j i)], dY b, aY6]) (fun i => [(0, .ptr 0 0), (2, .ptr 2 0), (3, iA i)]) 0 (⟨ck4 _, rfl⟩) (t7.at G _ _) ?_; clear G; intro i ρ a w hp G; have hp := hp; have hfj := b75 b r0 r1 i hp.1; have htb := tyb b (j := P5 b j i) (by omega) (by omega); refine wp_seq (wp_seq (k8 G f7 [(8, bA (decide ((i : Int) < 3)))] fun G => b6 (rcD G (fun h0 q0 => ?_) fun h0 q0 => ?_)))
  · refine wp_exit (s4 (s4 (r8 (b6 (wp_seq (j7 G (s6 1 [0, 1] (aQ8 b (P5 b j i) (by omega) (by omega))) [0, 1, 2, 11, 12, 13] [.box [.ref 1, iA ((P4 b (P5 b j i)).snd + 1)], dY b, .box [.ref 3, .ref 4, .tref 5], .row 3 (D.ints (U8 b (P5 b j i)).vars), .row 3 (D.ints (U8 b (P5 b j i)).arrays), .tree (D.stmts (U8 b (P5 b j i)).body)] [(2, .ptr 2 0)] fun G => b6 (wp_ret ?_))))))); exact M4 G [0, 1, 3, 4, 5] (by show _ = mR [0, 1, 3, 4, 5] (bg6 b j); unfold bg6; rw [bM3 (b := b) (j := j) (i := i) (by omega) (by omega) hp.2] <;> rfl)
  ·
   refine wp_skip (b6 (wp_seq (wp_block (wp_seq (j7 G (s6 1 [0, 1] (aQ8 b (P5 b j i) (by omega) (by omega))) [0, 1, 2, 11, 12, 13, 19] [.box [.ref 1, iA ((P4 b (P5 b j i)).snd + 1)], dY b, aY6, .row 3 (D.ints (U8 b (P5 b j i)).vars), .row 3 (D.ints (U8 b (P5 b j i)).arrays), .tree (D.stmts (U8 b (P5 b j i)).body), .box [.ref 3, .ref 4, .tref 5]] [(0, .ptr 0 0), (2, .ptr 2 0), (3, iA i), (4, .ptr 6 0)] fun G => b6 (wp_seq (k8 G (s6 1 [3, 4, 5] (j9.lend (X6 ((U8 b (P5 b j i)).vars) ((U8 b (P5 b j i)).arrays) ((U8 b (P5 b j i)).body) (by omega)) [.row 3, .row 3, .tree])) [(5, iA (V4 (i6.mk (U8 b (P5 b j i)).vars (U8 b (P5 b j i)).arrays (U8 b (P5 b j i)).body) false).fst)] fun G => b6 (wp_seq ?_)))))))); cases h1 : ((V4 (i6.mk (U8 b (P5 b j i)).vars (U8 b (P5 b j i)).arrays (U8 b (P5 b j i)).body) false).fst == 0)
   · have q1 := ne_of_beq_false h1; refine k8 G (H8 (fc h1 fz) (us [(3, 6, 0), (1007, 1007, 0)])) [(25, bA false)] fun G => b6 (rF G false (by kernel_rfl) (wp_skip (l0 (b6 (N4 G f7 [0, 1, 2] [.box [.ref 1, iA ((P4 b (P5 b j i)).snd + 1)], dY b, aY6] [(0, .ptr 0 0), (2, .ptr 2 0), (3, iA ((i : Int) + 1))] [wO ((i : Int) + 1)] (o1 (by omega)) fun G => b6 ?_))))); exact I6 G (i + 1) (bD1 (by omega) hp.2 (by omega)) (by omega) [0, 1, 2]
   ·
    have q1 := eq_of_beq h1; refine k8 G (H8 (fc h1 fz) (us [(3, 6, 0), (1007, 1007, 0)])) [(25, bA (decide (((U8 b (P5 b j i)).body.length : Int) > 0)))] fun G => b6 (rcD G (fun h2 q2 => ?_) fun h2 q2 => ?_)
    · refine wp_skip (l0 (b6 (N4 G f7 [0, 1, 2] [.box [.ref 1, iA ((P4 b (P5 b j i)).snd + 1)], dY b, aY6] [(0, .ptr 0 0), (2, .ptr 2 0), (3, iA ((i : Int) + 1))] [wO ((i : Int) + 1)] (o1 (by omega)) fun G => b6 ?_))); exact I6 G (i + 1) (bD1 (by omega) hp.2 (by omega)) (by omega) [0, 1, 2]
    · refine wp_seq (j7 G f7 (rg 6) [.box [.ref 1, iA ((P4 b (P5 b j i)).snd + 1)], dY b, .box [.ref 3, .ref 4, .tref 5], .row 3 (D.ints (U8 b (P5 b j i)).vars), .row 3 (D.ints (U8 b (P5 b j i)).arrays), .tree (D.stmts (U8 b (P5 b j i)).body)] [(0, .ptr 0 0), (2, .ptr 2 0), (3, iA i)] fun G => b6 (wp_ret (z4 (l5 (l5 (z4 (l5 ?_))))))); exact M4 G [0, 1, 3, 4, 5] (by show _ = mR [0, 1, 3, 4, 5] (bg6 b j); unfold bg6; rw [bM4 (b := b) (j := j) (i := i) (by omega) hp.2 (by omega)] <;> rfl)
theorem j9.dupPost {P : Program} {f : FuncId} {args : List AV} {pre S : List It} {d : D} {res res' : AV} {i : Nat} (hc : j9.ok P ⟨f, args, pre, S, res⟩) (hi : S[i]? = some (.dat d)) (hl : pre.length ≤ S.length)
  (hS : S.all (fun x => Z4 S.length x.ids) = true) (hr : ∀ ρ : Nat → Value, ρ S.length = ρ i → res'.val ρ = res.val ρ) (hg : Z4 S.length res.ids = true) : j9.ok P ⟨f, args, pre, S ++ [.dat d], res'⟩ := by
 intro ι φ ψ w0 w F ρ M
 refine (hc ι φ ψ w0 w F ρ M).mono ?_
 rintro x w' ⟨ρ1, h1, rfl, M1⟩
 have hi' : s7 S i = .dat d := by simp [s7, hi]
 have hlt : i < S.length := (ch7.1 hi).1
 have hinv : Inv (s7 S) ρ1 [S.length] := fun ρ' h j => by
  by_cases hj : j < S.length
  ·refine It.res_congr _ (fun k hk => h k ?_) (.inr (.inr (h j (by simp; omega))))
   have h1 := E3 (ch3.1 hS (S[j]) (ci6 hj)) k (by simpa [s7, cg7, cg6 hj] using hk)
   simp; omega
  ·rw [show s7 S j = .none by simp only [s7, cg7, ci9 (Nat.le_of_not_lt hj)]; rfl]; rfl
 obtain ⟨ρ2, h3, M2, h4⟩ := M1.newDat (id := S.length) (by simp [s7]) hinv (M1.datAt hi')
 have e : n7 (s7 S) [(S.length, .dat d)] = s7 (S ++ [.dat d]) := by
  funext j
  simp only [n7, s7, cg7]
  by_cases hj : j = S.length
  ·subst hj; simp
  ·rw [if_neg hj]
   by_cases hj2 : j < S.length
   ·rw [ci0 hj2]
   ·rw [ci9 (by omega), ci9 (by simp; omega)]
 rw [e] at M2
 have hρ : ρ2 i = ρ1 i := h3 i (by simp; omega)
 refine ⟨ρ2, fun k hk => by
  have hk : k < pre.length := hk
  rw [h3 k (by simp; omega)]; exact h1 k hk, ?_, M2⟩
 rw [hr ρ2 (by rw [← h4, hρ])]
 exact congrArg _ (AV.val_congr res fun k hk => by
  have := E3 hg k hk
  exact h3 k (by simp; omega)).symm
abbrev nlA : AV := .v (.slice none 0 0)
abbrev qT (l : List c5) : It := .row 106 (.stmts l)
abbrev qI (l : List Int) : It := .row 3 (.ints l)
theorem ba4 (vs ars : List Int) (d : Nat) (ih : ∀ (e : c6), i5 vs.length ars.length d e = true → j9.ok Tryz.prog (T6 159 [.agg [.ref 0, .ref 1, nlA], eA e 2] ([dI vs, dI ars] ++ eS e) (iA (i9 vs ars d e))))
    (e : c6) (he : i5 vs.length ars.length (d + 1) e = true) : j9.ok Tryz.prog (T6 159 [.agg [.ref 0, .ref 1, nlA], eA e 2] ([dI vs, dI ars] ++ eS e) (iA (i9 vs ars (d + 1) e))) := by
  refine F9 42 Tryz.func159 [dI vs, dI ars, dE e.kids] [(0, .agg [.ref 0, .ref 1, .v (.slice none 0 0)]), (1, eA e 2)] fun G => ?_; refine wp_seq (j7 G f7 [0, 1, 2, 3, 11] [dI vs, dI ars, dE e.kids, .box [.ref 0, .ref 1, .v (.slice none 0 0)], .box (eL e 2)] [(2, .ptr 3 0), (3, .ptr 4 0), (4, iA 0)] fun G => b6 (wp_seq (k8 G f7 [(5, iA 0)] fun G => b6 (wp_seq (wp_seq (k8 G f7 [(8, iA e.kind)] fun G => b6 (wp_block (wp_seq (k8 G f7 [(9, bA (e.kind == 2))] fun G => b6 (J4 G (fun h0 q0 => ?_) fun h0 q0 => ?_))))))))))
  ·
   refine wp_seq (k8 G f7 [(17, bA (e.kind == 3))] fun G => b6 (J4 G (fun h1 q1 => ?_) fun h1 q1 => ?_))
   ·
    refine wp_skip (l0 (b6 (wp_seq (wp_seq (D7 G f7 [(2, .ptr 3 0), (3, .ptr 4 0), (4, iA 0), (5, iA 0), (6, iA 0)] fun G => b6 (wp_block ?_)))))); refine s8 (κ := Nat) (fun k => k ≤ e.kids.length) (fun k => e.kids.length - k) (fun k => [dI vs, dI ars, dE e.kids, .box [.ref 0, .ref 1, .v (.slice none 0 0)], .box (eL e 2)]) (fun k => [(2, .ptr 3 0), (3, .ptr 4 0), (4, iA 0), (5, iA (D4 vs ars d 0 e.kids k)), (6, iA k)]) 0 (by omega) (t7.at G _ _) ?_; clear G; intro k ρ a w hp G; have hlen : e.kids.length ≤ 9223372036854775807 := G.len 2 (d := .exprs e.kids) (by kernel_rfl); refine wp_seq (wp_seq (D7 G f7 [(2, .ptr 3 0), (3, .ptr 4 0), (4, iA 0), (5, iA (D4 vs ars d 0 e.kids k)), (6, iA k), (29, bA (decide ((k : Int) < e.kids.length)))] fun G => b6 (rcD G (fun h2 q2 => ?_) fun h2 q2 => ?_)))
    · refine wp_exit (s4 (s4 (r8 (b6 (wp_seq (j7 G f7 [0, 1, 2] [dI vs, dI ars, dE e.kids] [(4, iA (D4 vs ars d 0 e.kids k))] fun G => b6 (wp_ret ?_))))))); exact X9 (D4 vs ars d 0 e.kids k) G [0, 1, 2] (ac5 (by omega) (by simp [az9, h0, q0, h1, q1, h2, q2]; done))
    · refine wp_skip (b6 (wp_seq (wp_block (af7 G (s6 7 [0, 1, 53] (ih (e.kids.getD k cg3) (Y8 he (by omega)))) [0, 0, 0, 4, 0, 28, 60, 126, 255, 511] [(5, iA (l4 (D4 vs ars d 0 e.kids k) (i9 vs ars d (e.kids.getD k cg3))))] (iX k k e.kids.length []) (iK (by omega) ch8) fun G => l0 (b6 (E1 G f7 [(6, iA ((k : Int) + 1))] [wO ((k : Int) + 1)] (o1 (by omega)) fun G => b6 ?_)))))); exact I6 G (k + 1) (by omega) (by omega) (rg 5) (ht := by have e1 : (D4 vs ars d 0 e.kids (k + 1) : Int) = (l4 (D4 vs ars d 0 e.kids k) (i9 vs ars d (e.kids.getD k cg3))) := (Y1 (by omega)); (first | rw [e1] | simp only [e1]) <;> rfl)
   ·
    refine E1 G f7 [(5, iA (ars.getD e.value.toNat 0))] [(0 : Int) ≤ e.value, e.value < (ars.length : Int), e.value.toNat < ars.length] ⟨((av0 he (by assumption)).1), ((av0 he (by assumption)).2.1), ((av0 he (by assumption)).2.2), ch8⟩ fun G => l0 (b6 (wp_seq (wp_seq (D7 G f7 [(2, .ptr 3 0), (3, .ptr 4 0), (4, iA 0), (5, iA (ars.getD e.value.toNat 0)), (6, iA 0)] fun G => b6 (wp_block ?_))))); refine s8 (κ := Nat) (fun k => k ≤ e.kids.length) (fun k => e.kids.length - k) (fun k => [dI vs, dI ars, dE e.kids, .box [.ref 0, .ref 1, .v (.slice none 0 0)], .box (eL e 2)]) (fun k => [(2, .ptr 3 0), (3, .ptr 4 0), (4, iA 0), (5, iA (D4 vs ars d (ars.getD e.value.toNat 0) e.kids k)), (6, iA k)]) 0 (by omega) (t7.at G _ _) ?_; clear G; intro k ρ a w hp G; have hlen : e.kids.length ≤ 9223372036854775807 := G.len 2 (d := .exprs e.kids) (by kernel_rfl); refine wp_seq (wp_seq (D7 G f7 [(2, .ptr 3 0), (3, .ptr 4 0), (4, iA 0), (5, iA (D4 vs ars d (ars.getD e.value.toNat 0) e.kids k)), (6, iA k), (29, bA (decide ((k : Int) < e.kids.length)))] fun G => b6 (rcD G (fun h3 q3 => ?_) fun h3 q3 => ?_)))
    · refine wp_exit (s4 (s4 (r8 (b6 (wp_seq (j7 G f7 [0, 1, 2] [dI vs, dI ars, dE e.kids] [(4, iA (D4 vs ars d (ars.getD e.value.toNat 0) e.kids k))] fun G => b6 (wp_ret ?_))))))); exact X9 (D4 vs ars d (ars.getD e.value.toNat 0) e.kids k) G [0, 1, 2] (ac5 (by omega) (by simp [az9, h0, q0, h1, q1, h3, q3]; done))
    · refine wp_skip (b6 (wp_seq (wp_block (af7 G (s6 7 [0, 1, 53] (ih (e.kids.getD k cg3) (Y8 he (by omega)))) [0, 0, 0, 4, 0, 28, 60, 126, 255, 511] [(5, iA (l4 (D4 vs ars d (ars.getD e.value.toNat 0) e.kids k) (i9 vs ars d (e.kids.getD k cg3))))] (iX k k e.kids.length []) (iK (by omega) ch8) fun G => l0 (b6 (E1 G f7 [(6, iA ((k : Int) + 1))] [wO ((k : Int) + 1)] (o1 (by omega)) fun G => b6 ?_)))))); exact I6 G (k + 1) (by omega) (by omega) (rg 5) (ht := by have e1 : (D4 vs ars d (ars.getD e.value.toNat 0) e.kids (k + 1) : Int) = (l4 (D4 vs ars d (ars.getD e.value.toNat 0) e.kids k) (i9 vs ars d (e.kids.getD k cg3))) := (Y1 (by omega)); (first | rw [e1] | simp only [e1]) <;> rfl)
  ·
   refine E1 G f7 [(5, iA (vs.getD e.value.toNat 0))] [(0 : Int) ≤ e.value, e.value < (vs.length : Int), e.value.toNat < vs.length] ⟨((au9 he (by assumption)).1), ((au9 he (by assumption)).2.1), ((au9 he (by assumption)).2.2), ch8⟩ fun G => l0 (b6 (wp_seq (wp_seq (D7 G f7 [(2, .ptr 3 0), (3, .ptr 4 0), (4, iA 0), (5, iA (vs.getD e.value.toNat 0)), (6, iA 0)] fun G => b6 (wp_block ?_))))); refine s8 (κ := Nat) (fun k => k ≤ e.kids.length) (fun k => e.kids.length - k) (fun k => [dI vs, dI ars, dE e.kids, .box [.ref 0, .ref 1, .v (.slice none 0 0)], .box (eL e 2)]) (fun k => [(2, .ptr 3 0), (3, .ptr 4 0), (4, iA 0), (5, iA (D4 vs ars d (vs.getD e.value.toNat 0) e.kids k)), (6, iA k)]) 0 (by omega) (t7.at G _ _) ?_; clear G; intro k ρ a w hp G; have hlen : e.kids.length ≤ 9223372036854775807 := G.len 2 (d := .exprs e.kids) (by kernel_rfl); refine wp_seq (wp_seq (D7 G f7 [(2, .ptr 3 0), (3, .ptr 4 0), (4, iA 0), (5, iA (D4 vs ars d (vs.getD e.value.toNat 0) e.kids k)), (6, iA k), (29, bA (decide ((k : Int) < e.kids.length)))] fun G => b6 (rcD G (fun h4 q4 => ?_) fun h4 q4 => ?_)))
   · refine wp_exit (s4 (s4 (r8 (b6 (wp_seq (j7 G f7 [0, 1, 2] [dI vs, dI ars, dE e.kids] [(4, iA (D4 vs ars d (vs.getD e.value.toNat 0) e.kids k))] fun G => b6 (wp_ret ?_))))))); exact X9 (D4 vs ars d (vs.getD e.value.toNat 0) e.kids k) G [0, 1, 2] (ac5 (by omega) (by simp [az9, h0, q0, h4, q4]; done))
   · refine wp_skip (b6 (wp_seq (wp_block (af7 G (s6 7 [0, 1, 53] (ih (e.kids.getD k cg3) (Y8 he (by omega)))) [0, 0, 0, 4, 0, 28, 60, 126, 255, 511] [(5, iA (l4 (D4 vs ars d (vs.getD e.value.toNat 0) e.kids k) (i9 vs ars d (e.kids.getD k cg3))))] (iX k k e.kids.length []) (iK (by omega) ch8) fun G => l0 (b6 (E1 G f7 [(6, iA ((k : Int) + 1))] [wO ((k : Int) + 1)] (o1 (by omega)) fun G => b6 ?_)))))); exact I6 G (k + 1) (by omega) (by omega) (rg 5) (ht := by have e1 : (D4 vs ars d (vs.getD e.value.toNat 0) e.kids (k + 1) : Int) = (l4 (D4 vs ars d (vs.getD e.value.toNat 0) e.kids k) (i9 vs ars d (e.kids.getD k cg3))) := (Y1 (by omega)); (first | rw [e1] | simp only [e1]) <;> rfl)
theorem aQ3 (vs ars : List Int) : ∀ (d : Nat) (e : c6), i5 vs.length ars.length d e = true → j9.ok Tryz.prog (T6 159 [.agg [.ref 0, .ref 1, nlA], eA e 2] ([dI vs, dI ars] ++ eS e) (iA (i9 vs ars d e)))
 | 0, _, h => by simp [i5] at h
 | d + 1, e, h => ba4 vs ars d (aQ3 vs ars d) e h
theorem aa0 (vs ars : List Int) (ky vy : Int) (ks : List c6) (h : i5 vs.length ars.length 5 ⟨ky, vy, ks⟩ = true) : j9.ok Tryz.prog (T6 159 [.agg [.ref 0, .ref 1, nlA], .agg [iA ky, iA vy, .ref 2]] [dI vs, dI ars, dE ks] (iA (i9 vs ars 5 ⟨ky, vy, ks⟩))) := aQ3 vs ars 5 ⟨ky, vy, ks⟩ h
theorem I9 (n : Int) : j9.ok Tryz.prog ⟨203, [iA n], [], [dE []], .agg [iA 1, iA n, .ref 0]⟩ := by
 refine F9 5 Tryz.func203 [] [(0, iA n)] fun G => ?_; refine wp_seq (j7 G f7 [0] [.box [iA 0, iA 0, .v (.slice none 0 0)]] [(0, iA n), (2, .ptr 0 0)] fun G => b6 (wp_seq (j7 G f7 [0] [.box [iA 1, iA n, .v (.slice none 0 0)]] [(2, .ptr 0 0)] fun G => b6 (wp_ret ?_)))); obtain ⟨ρ, G⟩ := G.nil 1 0 (.exprs []) 9 [.box [iA 1, iA n, .ref 1]] [(2, .ptr 0 0)]; obtain ⟨ρ, G⟩ := G.frz [.no, .row 0] [.box [iA 1, iA n, .ref 1], dE []] [(2, .ptr 0 0)]; exact M4 G [1]
theorem al7 (n : Int) : j9.ok Tryz.prog ⟨157, [iA n], [], [dE []], .agg [iA 2, iA n, .ref 0]⟩ := by
 refine F9 5 Tryz.func157 [] [(0, iA n)] fun G => ?_; refine wp_seq (j7 G f7 [0] [.box [iA 0, iA 0, .v (.slice none 0 0)]] [(0, iA n), (2, .ptr 0 0)] fun G => b6 (wp_seq (j7 G f7 [0] [.box [iA 2, iA n, .v (.slice none 0 0)]] [(2, .ptr 0 0)] fun G => b6 (wp_ret ?_)))); obtain ⟨ρ, G⟩ := G.nil 1 0 (.exprs []) 9 [.box [iA 2, iA n, .ref 1]] [(2, .ptr 0 0)]; obtain ⟨ρ, G⟩ := G.frz [.no, .row 0] [.box [iA 2, iA n, .ref 1], dE []] [(2, .ptr 0 0)]; exact M4 G [1]
theorem ac9 (k : Int) (ks : List c6) : j9.ok Tryz.prog ⟨204, [iA k, .ref 0], [.row 104 (.exprs ks)], [dE ks], .agg [iA k, iA 0, .ref 0]⟩ := by
 refine F9 8 Tryz.func204 [.row 104 (D.exprs ks)] [(0, iA k), (1, .ref 0)] fun G => ?_; refine wp_seq (j7 G f7 [0, 1] [.row 104 (D.exprs ks), .box [iA 0, iA 0, .v (.slice none 0 0)]] [(0, iA k), (1, .ref 0), (4, .ptr 1 0)] fun G => b6 (wp_seq (j7 G f7 [0, 1] [.row 104 (D.exprs ks), .box [iA k, iA 0, .ref 0]] [(4, .ptr 1 0)] fun G => b6 (wp_ret ?_)))); obtain ⟨ρ, G⟩ := G.frz [.row 104] [dE ks, .box [iA k, iA 0, .ref 0]] [(4, .ptr 1 0)]; exact M4 G [0]
theorem as9 (n ky vy : Int) (ks : List c6) : j9.ok Tryz.prog ⟨161, [iA n, .agg [iA ky, iA vy, .ref 0]], [dE ks], [dE ks, dE [⟨ky, vy, ks⟩]], .agg [iA 3, iA n, .ref 1]⟩ := by
 refine F9 9 Tryz.func161 [dE ks] [(0, iA n), (1, .agg [iA ky, iA vy, .ref 0])] fun G => ?_; refine wp_seq (j7 G f7 [0, 1, 9] [dE ks, .box [iA ky, iA vy, .ref 0], .box [iA 0, iA 0, .v (.slice none 0 0)]] [(0, iA n), (3, .ptr 1 0), (4, .ptr 2 0)] fun G => b6 (wp_seq (j7 G f7 [0, 2, 19] [dE ks, .box [iA 3, iA n, .ref 2], .row 104 (D.exprs ([c6.mk ky vy ks] ++ []))] [(4, .ptr 1 0)] fun G => b6 (wp_ret ?_)))); obtain ⟨ρ, G⟩ := G.frz [.no, .no, .row 104] [dE ks, .box [iA 3, iA n, .ref 2], dE ([c6.mk ky vy ks] ++ [])] [(4, .ptr 1 0)]; exact M4 G [0, 2]
theorem bm9 (ky vy : Int) (ks : List c6) (k : Int) : j9.ok Tryz.prog ⟨205, [.agg [iA ky, iA vy, .ref 0], iA k], [dE ks], [dE ks, dE (ag1 ⟨ky, vy, ks⟩ k).kids], .agg [iA 9, iA 0, .ref 1]⟩ := by
 refine F9 13 Tryz.func205 [dE ks] [(0, .agg [iA ky, iA vy, .ref 0]), (1, iA k)] fun G => ?_; refine wp_seq (j7 G f7 [0, 1, 9] [dE ks, .box [iA ky, iA vy, .ref 0], .box [iA 0, iA 0, .v (.slice none 0 0)]] [(1, iA k), (2, .ptr 1 0), (4, .ptr 2 0)] fun G => b6 (wp_seq (af8 G (F5 (t5 1 [] (I9 3) (t5 3 [19] (ac9 7 ([c6.mk ky vy ks] ++ ([c6.mk 1 3 []] ++ []))) (t5 5 [] (I9 k) (t5 7 [51] (ac9 9 ([c6.mk 7 0 ([c6.mk ky vy ks] ++ ([c6.mk 1 3 []] ++ []))] ++ ([c6.mk 1 k []] ++ []))) F4)))) fz []) [0, 0, 3, 7, 0, 31, 63, 127, 255] [0, 2, 51] [dE ks, .box [iA 9, iA 0, .ref 2], dE ([c6.mk 7 0 ([c6.mk ky vy ks] ++ ([c6.mk 1 3 []] ++ []))] ++ ([c6.mk 1 k []] ++ []))] [(4, .ptr 1 0)] fun G => b6 (wp_ret ?_)))); exact M4 G [0, 2]
theorem b52 {m : Int} {e f : c6} (h : m < 0) : C1 m e f = e := if_pos h
theorem b51 {m : Int} {e f : c6} (h : ¬ m < 0) : C1 m e f = seE (vrE m) e f := if_neg h
theorem bo4 (m k1 v1 k2 v2 : Int) (s1 s2 : List c6) (hm : m < 0) : j9.ok Tryz.prog ⟨156, [iA m, .agg [iA k1, iA v1, .ref 0], .agg [iA k2, iA v2, .ref 1]], [dE s1, dE s2], [dE s1, dE s2], .agg [iA k1, iA v1, .ref 0]⟩ := by
 refine F9 16 Tryz.func156 [dE s1, dE s2] [(0, iA m), (1, .agg [iA k1, iA v1, .ref 0]), (2, .agg [iA k2, iA v2, .ref 1])] fun G => ?_; refine wp_seq (j7 G f7 [0, 1, 2, 10, 18] [dE s1, dE s2, .box [iA k1, iA v1, .ref 0], .box [iA k2, iA v2, .ref 1], .box [iA 0, iA 0, .v (.slice none 0 0)]] [(0, iA m), (4, .ptr 2 0), (5, .ptr 3 0), (6, .ptr 4 0)] fun G => b6 (wp_seq (wp_seq (D7 G f7 [(0, iA m), (4, .ptr 2 0), (5, .ptr 3 0), (6, .ptr 4 0), (8, bA (decide (m < 0)))] fun G => b6 ?_)))); cases h0 : (decide (m < 0))
 ·have q0 := dFf h0; exact False.elim (by omega)
 ·have q0 := dTt h0; refine rT G _ h0 (wp_seq (j7 G f7 (rg 5) [dE s1, dE s2, .box [iA k1, iA v1, .ref 0], .box [iA k2, iA v2, .ref 1], .box [iA k1, iA v1, .ref 0]] [(0, iA m), (4, .ptr 2 0), (5, .ptr 3 0), (6, .ptr 4 0)] fun G => b6 (wp_ret (l5 ?_)))); exact M4 G [0, 1]
theorem bo3 (m k1 v1 k2 v2 : Int) (s1 s2 : List c6) (hm : ¬ m < 0) : j9.ok Tryz.prog ⟨156, [iA m, .agg [iA k1, iA v1, .ref 0], .agg [iA k2, iA v2, .ref 1]], [dE s1, dE s2], [dE s1, dE s2, dE (seE (vrE m) ⟨k1, v1, s1⟩ ⟨k2, v2, s2⟩).kids], .agg [iA 11, iA 0, .ref 2]⟩ := by
 refine F9 16 Tryz.func156 [dE s1, dE s2] [(0, iA m), (1, .agg [iA k1, iA v1, .ref 0]), (2, .agg [iA k2, iA v2, .ref 1])] fun G => ?_; refine wp_seq (j7 G f7 [0, 1, 2, 10, 18] [dE s1, dE s2, .box [iA k1, iA v1, .ref 0], .box [iA k2, iA v2, .ref 1], .box [iA 0, iA 0, .v (.slice none 0 0)]] [(0, iA m), (4, .ptr 2 0), (5, .ptr 3 0), (6, .ptr 4 0)] fun G => b6 (wp_seq (wp_seq (D7 G f7 [(0, iA m), (4, .ptr 2 0), (5, .ptr 3 0), (6, .ptr 4 0), (8, bA (decide (m < 0)))] fun G => b6 ?_)))); cases h0 : (decide (m < 0))
 ·have q0 := dFf h0; refine rF G _ h0 (wp_skip (b6 (wp_seq (af8 G (F5 (t5 1 [] (al7 m) (t5 5 [37] (ac9 11 ([c6.mk 2 m []] ++ ([c6.mk k1 v1 s1] ++ ([c6.mk k2 v2 s2] ++ [])))) F4)) fz []) [0, 1, 0, 0, 15, 31, 63] [0, 1, 4, 37] [dE s1, dE s2, .box [iA 11, iA 0, .ref 3], dE ([c6.mk 2 m []] ++ ([c6.mk k1 v1 s1] ++ ([c6.mk k2 v2 s2] ++ [])))] [(6, .ptr 2 0)] fun G => b6 (wp_ret ?_))))); exact M4 G [0, 1, 3]
 ·have q0 := dTt h0; exact False.elim (by omega)
theorem aj5 (m k1 v1 k2 v2 : Int) (s1 s2 : List c6) : j9.ok Tryz.prog ⟨156, [iA m, .agg [iA k1, iA v1, .ref 0], .agg [iA k2, iA v2, .ref 1]], [dE s1, dE s2], [dE s1, dE s2, dE (C1 m ⟨k1, v1, s1⟩ ⟨k2, v2, s2⟩).kids], .agg [iA (C1 m ⟨k1, v1, s1⟩ ⟨k2, v2, s2⟩).kind, iA (C1 m ⟨k1, v1, s1⟩ ⟨k2, v2, s2⟩).value, .ref 2]⟩ := by
 by_cases hm : m < 0
 ·rw [b52 hm]
  exact j9.dupPost (S := [dE s1, dE s2]) (d := .exprs s1) (i := 0) (bo4 m k1 v1 k2 v2 s1 s2 hm) rfl (ch0 _) rfl (fun ρ h => by
   have h : ρ 2 = ρ 0 := h
   simp only [AV.val, AV.vals, h]; rfl) rfl
 ·rw [b51 hm]
  exact bo3 m k1 v1 k2 v2 s1 s2 hm
theorem al8 (vs ars : List Int) (bd : List c5) (l : Int) (hl : vs.length ≤ 8000000) : j9.ok Tryz.prog ⟨202, [.agg [.ref 0, .ref 1, nlA, .ref 2], iA l], [qI vs, dI ars, qT bd], [qI vs, dI ars, qT bd, qI (vs ++ [l])], .tup [.agg [.ref 3, .ref 1, nlA, .ref 2], iA (vs.length : Int)]⟩ := by
 refine F9 22 Tryz.func202 [.row 3 (D.ints vs), dI ars, .row 106 (D.stmts bd)] [(0, .agg [.ref 0, .ref 1, .v (.slice none 0 0), .ref 2]), (1, iA l)] fun G => ?_; refine wp_seq (j7 G f7 [0, 1, 2, 3, 11] [.row 3 (D.ints vs), dI ars, .row 106 (D.stmts bd), .box [.ref 0, .ref 1, .v (.slice none 0 0), .ref 2], .box [.v (.slice none 0 0), .v (.slice none 0 0), .v (.slice none 0 0), .v (.slice none 0 0)]] [(1, iA l), (2, .ptr 3 0), (4, .ptr 4 0), (5, iA 0)] fun G => b6 (wp_seq (N4 G f7 [0, 1, 2, 3, 4, 61] [.row 3 (D.ints vs), dI ars, .row 106 (D.stmts bd), .box [.ref 5, .ref 1, .v (.slice none 0 0), .ref 2], .box [.v (.slice none 0 0), .v (.slice none 0 0), .v (.slice none 0 0), .v (.slice none 0 0)], .row 3 (D.ints ([] ++ vs ++ ([l] ++ [])))] [(2, .ptr 3 0), (4, .ptr 4 0), (5, iA 0)] (aP ((0 : Nat) + vs.length) 8 (aP (([] ++ vs).length + 1) 8 [])) (aK (by omega) (aK (by simp only [cg9, ch2, ch6]; omega) ch8)) fun G => b6 (wp_seq (M5 G f7 [0, 0, 2, 6, 14, 30, 1, 127] [0, 1, 2, 4, 5] [.row 3 (D.ints vs), dI ars, .row 106 (D.stmts bd), .box [.ref 4, .ref 1, .v (.slice none 0 0), .ref 2], .row 3 (D.ints ([] ++ vs ++ ([l] ++ [])))] [(4, .ptr 3 0), (5, iA ((([] ++ vs ++ ([l] ++ [])).length : Int) - 1))] [wO ((([] ++ vs ++ ([l] ++ [])).length : Int) - 1)] ⟨(w64 (by simp only [cg9, ch2, ch6]; omega) (by simp only [cg9, ch2, ch6]; omega)), ch8⟩ fun G => b6 (wp_ret ?_)))))); exact T3 (.tup [.agg [.ref 4, .ref 1, .v (.slice none 0 0), .ref 2], iA ((([] ++ vs ++ ([l] ++ [])).length : Int) - 1)]) G [0, 1, 2, 4] (by have e1 : ((vs.length : Int) : Int) = ((([] ++ vs ++ ([l] ++ [])).length : Int) - 1) := (by simp only [cg9, ch2, ch6]; omega); (first | rw [e1] | simp only [e1]) <;> rfl)
theorem S9 (vs ars : List Int) (bd : List c5) (v ky vy : Int) (ks : List c6) (hl : bd.length ≤ 800000) : j9.ok Tryz.prog ⟨155, [.agg [.ref 0, .ref 1, nlA, .ref 2], iA v, .agg [iA ky, iA vy, .ref 3]], [qI vs, dI ars, qT bd, dE ks], [qI vs, dI ars, .dead, dE ks, qT (bd ++ [V5 v ⟨ky, vy, ks⟩])], .agg [.ref 0, .ref 1, nlA, .ref 4]⟩ := by
 refine F9 16 Tryz.func155 [.row 3 (D.ints vs), dI ars, .row 106 (D.stmts bd), dE ks] [(0, .agg [.ref 0, .ref 1, .v (.slice none 0 0), .ref 2]), (1, iA v), (2, .agg [iA ky, iA vy, .ref 3])] fun G => ?_; refine wp_seq (j7 G f7 [0, 1, 2, 3, 4, 12, 20] [.row 3 (D.ints vs), dI ars, .row 106 (D.stmts bd), dE ks, .box [.ref 0, .ref 1, .v (.slice none 0 0), .ref 2], .box [iA ky, iA vy, .ref 3], .box [.v (.slice none 0 0), .v (.slice none 0 0), .v (.slice none 0 0), .v (.slice none 0 0)]] [(1, iA v), (3, .ptr 4 0), (5, .ptr 5 0), (6, .ptr 6 0)] fun G => b6 (wp_seq (N4 G f7 [0, 1, 2, 3, 4, 6, 55] [.row 3 (D.ints vs), dI ars, .dead, dE ks, .box [.ref 0, .ref 1, .v (.slice none 0 0), .ref 6], .box [.v (.slice none 0 0), .v (.slice none 0 0), .v (.slice none 0 0), .v (.slice none 0 0)], .row 106 (D.stmts (bd ++ ([c5.mk 1 v (c6.mk 0 0 []) (c6.mk ky vy ks) 0 [] []] ++ [])))] [(3, .ptr 4 0), (6, .ptr 5 0)] (aP (bd.length + 1) 152 []) (aK (by omega) ch8) fun G => b6 (wp_seq (j7 G f7 [0, 1, 2, 3, 5, 6] [.row 3 (D.ints vs), dI ars, .dead, dE ks, .box [.ref 0, .ref 1, .v (.slice none 0 0), .ref 5], .row 106 (D.stmts (bd ++ ([c5.mk 1 v (c6.mk 0 0 []) (c6.mk ky vy ks) 0 [] []] ++ [])))] [(6, .ptr 4 0)] fun G => b6 (wp_ret ?_)))))); exact M4 G [0, 1, 2, 3, 5]
abbrev leC (ars : List Int) (pc : Int) (vs : List Int) (bd : List c5) (e : c6) : j9 := ⟨154, [.agg [.ref 0, .ref 1, nlA, .ref 2], eA e 3, iA pc], [qI vs, dI ars, qT bd, dE e.kids], [.dead, dI ars, .dead, dE e.kids, qI (d9 ars pc e (vs, bd)).1.1, qT (d9 ars pc e (vs, bd)).1.2, dE (d9 ars pc e (vs, bd)).2.kids], .tup [.agg [.ref 4, .ref 1, nlA, .ref 5], .agg [iA (d9 ars pc e (vs, bd)).2.kind, iA (d9 ars pc e (vs, bd)).2.value, .ref 6]]⟩
abbrev xE (ars : List Int) (pc : Int) (vs : List Int) (bd : List c5) (e : c6) (k : Nat) : LnS × List c6 := x6 ars pc (e.kids.take k) (vs, bd)
section
variable {ars vs : List Int} {pc : Int} {bd : List c5} {e : c6} {d k : Nat}
theorem au2 (he : i5 vs.length ars.length (d + 1) e = true) (k : Nat) : Grw vs.length ars.length d (E0 (e.kids.take k)) (vs, bd) (xE ars pc vs bd e k).1 := by
 rw [i5] at he
 simp only [cg5, ch3] at he
 exact (bk5 (ars := ars) (pc := pc) (na := ars.length) (d := d) (fun e s h => ak7 ars pc ars.length d e s h) (e.kids.take k) (vs, bd) fun x hx => he.1.2 x (List.mem_of_mem_take hx)).1
theorem bS4 (he : i5 vs.length ars.length (d + 1) e = true) (r1 : vs.length + (1 + z6 e) ≤ 100000) (r2 : j5 bd + 40 * (1 + z6 e) ≤ 700000) (k : Nat) : (xE ars pc vs bd e k).1.1.length + 1 ≤ 100000 ∧ (xE ars pc vs bd e k).1.2.length + 40 ≤ 700000 ∧ vs.length ≤ (xE ars pc vs bd e k).1.1.length := by
 have h := au2 (ars := ars) (pc := pc) (bd := bd) he k
 have h1 := aT0 e.kids k
 have h2 := K9 e
 have h3 := K8 (xE ars pc vs bd e k).1.2
 have a := h.lo; have b := h.hi; have c := h.st
 simp only at a b c
 omega
theorem bS3 (he : i5 vs.length ars.length (d + 1) e = true) (hk : k < e.kids.length) : i5 (xE ars pc vs bd e k).1.1.length ars.length d (e.kids.getD k cg3) = true :=
 E8 (au2 (pc := pc) (bd := bd) he k).lo d _ (Y8 he hk)
theorem b02 (he : i5 vs.length ars.length (d + 1) e = true) (r1 : vs.length + (1 + z6 e) ≤ 100000) (hk : k < e.kids.length) : (xE ars pc vs bd e k).1.1.length + (1 + z6 (e.kids.getD k cg3)) ≤ 100000 := by
 have h := (au2 (pc := pc) (bd := bd) he k).hi
 have h1 := (ak2 e.kids k).2.1 hk
 have h2 := K9 e
 simp only at h
 omega
theorem b01 (he : i5 vs.length ars.length (d + 1) e = true) (r2 : j5 bd + 40 * (1 + z6 e) ≤ 700000) (hk : k < e.kids.length) : j5 (xE ars pc vs bd e k).1.2 + 40 * (1 + z6 (e.kids.getD k cg3)) ≤ 700000 := by
 have h := (au2 (pc := pc) (bd := bd) he k).st
 have h1 := (ak2 e.kids k).2.1 hk
 have h2 := K9 e
 simp only at h
 omega
theorem bZ8 (hk : k < e.kids.length) : (xE ars pc vs bd e (k + 1)).1.1 = (d9 ars pc (e.kids.getD k cg3) ((xE ars pc vs bd e k).1.1, (xE ars pc vs bd e k).1.2)).1.1 := by unfold xE; rw [ap1 hk]
theorem bZ7 (hk : k < e.kids.length) : (xE ars pc vs bd e (k + 1)).1.2 = (d9 ars pc (e.kids.getD k cg3) ((xE ars pc vs bd e k).1.1, (xE ars pc vs bd e k).1.2)).1.2 := by unfold xE; rw [ap1 hk]
theorem bZ6 (hk : k < e.kids.length) : (xE ars pc vs bd e (k + 1)).2 = (xE ars pc vs bd e k).2 ++ [⟨(d9 ars pc (e.kids.getD k cg3) ((xE ars pc vs bd e k).1.1, (xE ars pc vs bd e k).1.2)).2.kind, (d9 ars pc (e.kids.getD k cg3) ((xE ars pc vs bd e k).1.1, (xE ars pc vs bd e k).1.2)).2.value, (d9 ars pc (e.kids.getD k cg3) ((xE ars pc vs bd e k).1.1, (xE ars pc vs bd e k).1.2)).2.kids⟩] := by unfold xE; rw [ap1 hk, c6.eta]
theorem bS2 (k : Nat) : (xE ars pc vs bd e k).2.length ≤ e.kids.length := by
 have h : ∀ (ks : List c6) (s : LnS), (x6 ars pc ks s).2.length = ks.length := by
  intro ks
  induction ks with
  | nil => intro s; rfl
  | cons x r ih => intro s; rw [x6, ch2, ih, ch2]
 unfold xE; rw [h, List.length_take]; exact Nat.min_le_right _ _
theorem bu4 (hk : e.kids.length ≤ k) (hn : ¬ (e.kind = 3 ∧ ab5 (i9 (xE ars pc vs bd e k).1.1 ars 5 (e.kids.getD 0 cg3)) = true)) : d9 ars pc e (vs, bd) = ((xE ars pc vs bd e k).1, ⟨e.kind, e.value, (xE ars pc vs bd e k).2⟩) := by
 unfold xE at hn ⊢
 rw [ch9 hk] at hn ⊢
 rw [aH9, if_neg hn]
theorem bS1 (hk : e.kids.length ≤ k) (h3 : e.kind = 3) (hs : ab5 (i9 (xE ars pc vs bd e k).1.1 ars 5 (e.kids.getD 0 cg3)) = true) : d9 ars pc e (vs, bd) = (((xE ars pc vs bd e k).1.1 ++ [l4 (i9 (xE ars pc vs bd e k).1.1 ars 5 e) pc], (xE ars pc vs bd e k).1.2 ++ rdL ((xE ars pc vs bd e k).1.1.length : Int) e.value (e.kids.getD 0 cg3) 3), vrE ((xE ars pc vs bd e k).1.1.length : Int)) := by
 unfold xE at hs ⊢
 rw [ch9 hk] at hs ⊢
 rw [aH9, if_pos ⟨h3, hs⟩]
abbrev kE (e : c6) : c6 := ⟨(e.kids.getD 0 cg3).kind, (e.kids.getD 0 cg3).value, (e.kids.getD 0 cg3).kids⟩
theorem bB5 (e : c6) : kE e = e.kids.getD 0 cg3 := c6.eta _
theorem bZ9 (he : i5 vs.length ars.length (d + 1) e = true) (hd : d + 1 ≤ 5) (h3 : e.kind = 3) : i5 (xE ars pc vs bd e k).1.1.length ars.length 5 (kE e) = true := by
 rw [bB5]
 have := aF7 he h3
 exact a02 (by omega) (E8 (au2 (pc := pc) (bd := bd) he k).lo d _ (Y8 he this))
theorem b00 (he : i5 vs.length ars.length (d + 1) e = true) (hd : d + 1 ≤ 5) : i5 (xE ars pc vs bd e k).1.1.length ars.length 5 ⟨e.kind, e.value, e.kids⟩ = true := by
 rw [c6.eta]
 exact a02 hd (E8 (au2 (pc := pc) (bd := bd) he k).lo (d + 1) _ he)
theorem aS6 (hk : e.kids.length ≤ k) (hn : ¬ e.kind = 3) : d9 ars pc e (vs, bd) = ((xE ars pc vs bd e k).1, ⟨e.kind, e.value, (xE ars pc vs bd e k).2⟩) := bu4 hk fun h => hn h.1
theorem aS5 (hk : e.kids.length ≤ k) (hs : (!(f8 (i9 (xE ars pc vs bd e k).1.1 ars 5 (kE e)) && decide (i9 (xE ars pc vs bd e k).1.1 ars 5 (kE e) % 2 = 1))) = true) : d9 ars pc e (vs, bd) = ((xE ars pc vs bd e k).1, ⟨e.kind, e.value, (xE ars pc vs bd e k).2⟩) := by
 rw [bB5, ci3] at hs
 exact bu4 hk fun h => by
  have h5 := h.2
  unfold ab5 at h5
  rw [hs] at h5; cases h5
theorem aB2 (hk : e.kids.length ≤ k) (h3 : e.kind = 3) (hs : (!(f8 (i9 (xE ars pc vs bd e k).1.1 ars 5 (kE e)) && decide (i9 (xE ars pc vs bd e k).1.1 ars 5 (kE e) % 2 = 1))) = false) : d9 ars pc e (vs, bd) = (((xE ars pc vs bd e k).1.1 ++ [l4 (i9 (xE ars pc vs bd e k).1.1 ars 5 ⟨e.kind, e.value, e.kids⟩) pc], (xE ars pc vs bd e k).1.2 ++ rdL ((xE ars pc vs bd e k).1.1.length : Int) e.value (kE e) 3), vrE ((xE ars pc vs bd e k).1.1.length : Int)) := by
 rw [bB5] at hs ⊢
 rw [c6.eta]
 rw [cj0] at hs
 exact bS1 hk h3 hs
theorem bH2 {j : Nat} (hj : j = 3) (hk : e.kids.length ≤ k) (h3 : e.kind = 3) (hs : (!(f8 (i9 (xE ars pc vs bd e k).1.1 ars 5 (kE e)) && decide (i9 (xE ars pc vs bd e k).1.1 ars 5 (kE e) % 2 = 1))) = false) : (d9 ars pc e (vs, bd)).1.2 = (xE ars pc vs bd e k).1.2 ++ rdL ((xE ars pc vs bd e k).1.1.length : Int) e.value (kE e) j := by
 rw [hj, aB2 hk h3 hs]
theorem cc0 {v a : Int} {i : c6} {j : Nat} : bd ++ rdL v a i (j + 1) = bd ++ rdL v a i j ++ [V5 v ⟨11, 0, [⟨9, 0, (ag1 i ((j : Int) + 1)).kids⟩, ⟨3, a, [⟨1, (j : Int) + 1, []⟩]⟩, ⟨2, v, []⟩]⟩] := by
 rw [rdL, cl1]; rfl
end
abbrev at9 (e : c6) := w6 (e.kids.getD 0 cg3)
abbrev aR9 (e : c6) (ars : List Int) (pc : Int) (vs : List Int) (bd : List c5) (k : Nat) := i9 (xE ars pc vs bd e k).fst.fst ars 5 (w6 e)
abbrev ao2 (e : c6) (ars : List Int) (pc : Int) (vs : List Int) (bd : List c5) (k : Nat) := d9 ars pc (e.kids.getD k cg3) (xE ars pc vs bd e k).fst
abbrev at8 (e : c6) (ars : List Int) (pc : Int) (vs : List Int) (bd : List c5) : List It := [.dead, dI ars, .dead, dE e.kids, .row 3 (D.ints (d9 ars pc e (vs, bd)).fst.fst), .row 106 (D.stmts (d9 ars pc e (vs, bd)).fst.snd), dE (d9 ars pc e (vs, bd)).snd.kids]
abbrev Y6 : It := .box [.v (.slice none 0 0), .v (.slice none 0 0), .v (.slice none 0 0), .v (.slice none 0 0)]
abbrev V1 : It := .box [iA 0, iA 0, .v (.slice none 0 0)]
abbrev aD7 (e : c6) (ars : List Int) (pc : Int) (vs : List Int) (bd : List c5) (k : Nat) : It := .row 3 (D.ints ((xE ars pc vs bd e k).fst.fst ++ [l4 (aR9 e ars pc vs bd k) pc]))
abbrev ag7 : It := .box [.ref 8, .ref 1, .v (.slice none 0 0), .ref 9]
abbrev G2 (r0 : List (Nat × AV)) : List (Nat × AV) := (3, .ptr 4 0) :: (4, .ptr 5 0) :: (6, .ptr 6 0) :: (7, .ptr 7 0) :: r0
abbrev an9 (e : c6) (ars : List Int) (pc : Int) (vs : List Int) (bd : List c5) (k : Nat) (r0 : List It) : List It := .row 3 (D.ints (xE ars pc vs bd e k).fst.fst) :: .row 106 (D.stmts (xE ars pc vs bd e k).fst.snd) :: r0
abbrev aD0 (e : c6) (ars : List Int) (r0 : List It) : List It := .dead :: dI ars :: .dead :: dE e.kids :: .box [.ref 9, .ref 1, .v (.slice none 0 0), .ref 10] :: .box (eL e 3) :: r0
abbrev a84 (r0 : List It) : List It := .box [.v (.slice none 0 0), .v (.slice none 0 0), .v (.slice none 0 0), .v (.slice none 0 0)] :: .box [iA 0, iA 0, .v (.slice none 0 0)] :: r0
theorem bw7 (e : c6) (ars : List Int) (pc : Int) (d : Nat) (hd : d + 1 ≤ 5) (ih : ∀ (u : c6), u ∈ e.kids → ∀ (vs : List Int) (bd : List c5), i5 vs.length ars.length d u = true → vs.length + (1 + z6 u) ≤ 100000 → j5 bd + 40 * (1 + z6 u) ≤ 700000 → j9.ok Tryz.prog (leC ars pc vs bd u))
    (vs : List Int) (bd : List c5) (he : i5 vs.length ars.length (d + 1) e = true) (r1 : vs.length + (1 + z6 e) ≤ 100000) (r2 : j5 bd + 40 * (1 + z6 e) ≤ 700000) : j9.ok Tryz.prog (leC ars pc vs bd e) := by
  refine F9 102 Tryz.func154 [.row 3 (D.ints vs), dI ars, .row 106 (D.stmts bd), dE e.kids] [(0, .agg [.ref 0, .ref 1, .v (.slice none 0 0), .ref 2]), (1, eA e 3), (2, iA pc)] fun G => ?_
  have hlen : e.kids.length ≤ z6 e := by cases e; exact aq6 _
  have hb := bS4 (ars := ars) (pc := pc) (bd := bd) he r1 r2; refine wp_seq (j7 G f7 [0, 1, 2, 3, 4, 12, 20, 28] [.row 3 (D.ints vs), dI ars, .row 106 (D.stmts bd), dE e.kids, .box [.ref 0, .ref 1, .v (.slice none 0 0), .ref 2], .box (eL e 3), Y6, V1] ((2, iA pc) :: (G2 [])) fun G => b6 (wp_seq (j7 G f7 [0, 1, 2, 3, 4, 5, 6, 7, 48] [.row 3 (D.ints vs), dI ars, .row 106 (D.stmts bd), dE e.kids, .box [.ref 0, .ref 1, .v (.slice none 0 0), .ref 2], .box (eL e 3), Y6, V1, .box [iA e.kind, iA e.value, .v (.slice none 0 0)]] ((2, iA pc) :: (G2 [(8, .ptr 8 0)])) fun G => b6 (wp_seq (wp_seq (D7 G f7 ((2, iA pc) :: (G2 [(8, .ptr 8 0), (9, iA 0)])) fun G => b6 (wp_block ?_))))))); obtain ⟨ρ, G⟩ := G.shift 0 9 (.dead :: dI ars :: .row 106 (D.stmts bd) :: dE e.kids :: .box [.ref 9, .ref 1, .v (.slice none 0 0), .ref 2] :: .box (eL e 3) :: (a84 [.box [iA e.kind, iA e.value, .v (.slice none 0 0)], .row 3 (D.ints vs)])) ((2, iA pc) :: (G2 [(8, .ptr 8 0), (9, iA 0)])); obtain ⟨ρ, G⟩ := G.shift 2 10 (aD0 e ars (a84 [.box [iA e.kind, iA e.value, .v (.slice none 0 0)], .row 3 (D.ints vs), .row 106 (D.stmts bd)])) ((2, iA pc) :: (G2 [(8, .ptr 8 0), (9, iA 0)])); obtain ⟨ρ, G⟩ := G.nil 11 104 (.exprs []) 9 (aD0 e ars (a84 [.box (eL e 11), .row 3 (D.ints vs), .row 106 (D.stmts bd)])) ((2, iA pc) :: (G2 [(8, .ptr 8 0), (9, iA 0)])); refine s8 (κ := Nat) (fun k => k ≤ e.kids.length) (fun k => e.kids.length - k) (fun k => [.dead, dI ars, .dead, dE e.kids, .box [.ref 9, .ref 1, .v (.slice none 0 0), .ref 10], .box (eL e 3), .box [.v (.slice none 0 0), .v (.slice none 0 0), .v (.slice none 0 0), .v (.slice none 0 0)], .box [iA 0, iA 0, .v (.slice none 0 0)], .box (eL e 11), .row 3 (.ints (xE ars pc vs bd e k).1.1), .row 106 (.stmts (xE ars pc vs bd e k).1.2), .row 104 (.exprs (xE ars pc vs bd e k).2)]) (fun k => [(2, iA pc), (3, .ptr 4 0), (4, .ptr 5 0), (6, .ptr 6 0), (7, .ptr 7 0), (8, .ptr 8 0), (9, iA k)]) 0 (by omega) (t7.at G _ _) ?_; clear G; intro k ρ a w hp G; replace G := t7.at G (aD0 e ars (Y6 :: V1 :: .box (eL e 11) :: (an9 e ars pc vs bd k [.row 104 (D.exprs (xE ars pc vs bd e k).snd)]))) ((2, iA pc) :: (G2 [(8, .ptr 8 0), (9, iA k)])); have hbk := hb k; have hxl := bS2 (ars := ars) (pc := pc) (vs := vs) (bd := bd) (e := e) k; refine wp_seq (wp_seq (k8 G f7 [(22, bA (decide ((k : Int) < e.kids.length)))] fun G => b6 (rcD G (fun h0 q0 => ?_) fun h0 q0 => ?_)))
  ·
   refine wp_exit (s4 (s4 (r8 (b6 (wp_seq (wp_seq ?_)))))); cases h1 : (e.kind != 3)
   ·
    have q1 := bne_eq_false_iff_eq.1 h1; refine af7 G (F5 (t5 10 [9, 1, 84] (j9.lend (aa0 ((xE ars pc vs bd e k).fst.fst) ars ((e.kids.getD 0 cg3).kind) ((e.kids.getD 0 cg3).value) ((e.kids.getD 0 cg3).kids) (bZ9 he hd (by omega))) [.row 3]) (t5 11 [] (J1 (i9 (xE ars pc vs bd e k).fst.fst ars 5 (at9 e))) F4)) (fc h1 fz) (us [(4, 12, 0), (1013, 1013, 0)])) [0, 1, 3, 7, 15, 31, 15, 79, 207, 463, 1023, 2047, 4095, 8191] [(56, .v (.bool !(f8 (i9 (xE ars pc vs bd e k).fst.fst ars 5 (at9 e)) && decide (i9 (xE ars pc vs bd e k).fst.fst ars 5 (at9 e) % 2 = 1))))] (iX 0 0 e.kids.length []) (iK (by have := aF7 he (by omega); omega) ch8) fun G => b6 ?_; cases h2 : (!(f8 (i9 (xE ars pc vs bd e k).fst.fst ars (5 : Nat) (w6 (e.kids.getD (0 : Nat) cg3))) && decide (i9 (xE ars pc vs bd e k).fst.fst ars (5 : Nat) (w6 (e.kids.getD (0 : Nat) cg3)) % (2 : Int) = 1)))
    ·
     have q2 : ((f8 (i9 (xE ars pc vs bd e k).fst.fst ars 5 (w6 (e.kids.getD 0 cg3)))) = true) ∧ (i9 (xE ars pc vs bd e k).fst.fst ars 5 (w6 (e.kids.getD 0 cg3)) % 2 = 1) := (fun hq => And.imp (fun hq => (hq)) (fun hq => of_decide_eq_true hq) (Bool.and_eq_true_iff.1 hq)) (Eq.mp (cj0 _) h2); refine rF G _ h2 (wp_skip (b6 (wp_seq (j7 G f7 [0, 1, 2, 3, 4, 5, 6, 7, 9, 10] (.dead :: dI ars :: .dead :: dE e.kids :: ag7 :: .box (eL e 3) :: Y6 :: V1 :: (an9 e ars pc vs bd k [])) ((2, iA pc) :: (G2 [(11, iA 0)])) fun G => b6 (wp_seq (af8 G (F5 (t5 4 [8, 1, 3] (j9.lend (aa0 ((xE ars pc vs bd e k).fst.fst) ars e.kind e.value e.kids (b00 he hd)) [.row 3]) (t5 7 [8, 1, 9] (al8 ((xE ars pc vs bd e k).fst.fst) ars ((xE ars pc vs bd e k).fst.snd) (l4 (aR9 e ars pc vs bd k) pc) (by omega)) F4)) fz []) [0, 0, 2, 0, 14, 0, 62, 127, 255, 511, 511, 1023, 4095] [0, 1, 2, 3, 4, 5, 6, 7, 9, 66] [.dead, dI ars, .dead, dE e.kids, .box [.ref 9, .ref 1, .v (.slice none 0 0), .ref 8], .box (eL e 3), Y6, V1, .row 106 (D.stmts (xE ars pc vs bd e k).fst.snd), aD7 e ars pc vs bd k] (G2 [(11, iA ((xE ars pc vs bd e k).fst.fst.length : Int))]) fun G => b6 (wp_seq (af8 G (F5 (t5 4 [] (I9 0) (t5 5 [42] (as9 e.value 1 0 ([])) (t5 6 [9, 1, 8, 50] (S9 ((xE ars pc vs bd e k).fst.fst ++ [l4 (aR9 e ars pc vs bd k) pc]) ars ((xE ars pc vs bd e k).fst.snd) (((xE ars pc vs bd e k).fst.fst.length : Int)) 3 e.value ([c6.mk 1 0 []]) (by omega)) F4))) fz []) [0, 0, 0, 4, 0, 28, 63, 127] [0, 1, 2, 3, 4, 5, 6, 7, 9, 58] [.dead, dI ars, .dead, dE e.kids, ag7, .box (eL e 3), Y6, V1, aD7 e ars pc vs bd k, .row 106 (D.stmts ((xE ars pc vs bd e k).fst.snd ++ [V5 ((xE ars pc vs bd e k).fst.fst.length : Int) (c6.mk 3 e.value [c6.mk 1 0 []])]))] (G2 [(11, iA ((xE ars pc vs bd e k).fst.fst.length : Int))]) fun G => b6 (wp_seq (wp_seq (D7 G f7 (G2 [(11, iA ((xE ars pc vs bd e k).fst.fst.length : Int)), (12, iA 1)]) fun G => b6 (wp_block ?_)))))))))))); refine s8 (κ := Nat) (fun j => j ≤ 3) (fun j => 3 - j) (fun j => [.dead, dI ars, .dead, dE e.kids, .box [.ref 8, .ref 1, .v (.slice none 0 0), .ref 9], .box (eL e 3), .box [.v (.slice none 0 0), .v (.slice none 0 0), .v (.slice none 0 0), .v (.slice none 0 0)], .box [iA 0, iA 0, .v (.slice none 0 0)], .row 3 (D.ints ((xE ars pc vs bd e k).fst.fst ++ [l4 (i9 (xE ars pc vs bd e k).fst.fst ars 5 (w6 e)) pc])), .row 106 (.stmts ((xE ars pc vs bd e k).1.2 ++ rdL ((xE ars pc vs bd e k).1.1.length : Int) e.value (kE e) j))]) (fun j => [(3, .ptr 4 0), (4, .ptr 5 0), (6, .ptr 6 0), (7, .ptr 7 0), (11, iA ((xE ars pc vs bd e k).fst.fst.length : Int)), (12, iA ((j : Int) + 1))]) 0 (by omega) (t7.at G _ _) ?_
     clear G; intro j ρ a w hp G; replace G := t7.at G [.dead, dI ars, .dead, dE e.kids, ag7, .box (eL e 3), Y6, V1, aD7 e ars pc vs bd k, .row 106 (D.stmts ((xE ars pc vs bd e k).fst.snd ++ rdL ((xE ars pc vs bd e k).fst.fst.length : Int) e.value (kE e) j))] (G2 [(11, iA ((xE ars pc vs bd e k).fst.fst.length : Int)), (12, iA ((j : Int) + 1))]); refine wp_seq (wp_seq (k8 G f7 [(78, bA (decide ((j : Int) + 1 < 4)))] fun G => b6 (rcD G (fun h3 q3 => ?_) fun h3 q3 => ?_)))
     · refine wp_exit (s4 (s4 (r8 (b6 (wp_seq (af8 G (s6 2 [] (al7 (((xE ars pc vs bd e k).fst.fst.length : Int)))) [0, 0, 2, 7, 15] [0, 1, 2, 3, 6, 7, 8, 9, 26] [.dead, dI ars, .dead, dE e.kids, .box [.ref 6, .ref 1, .v (.slice none 0 0), .ref 7], .box [iA 2, iA ((xE ars pc vs bd e k).fst.fst.length : Int), .ref 8], aD7 e ars pc vs bd k, .row 106 (D.stmts ((xE ars pc vs bd e k).fst.snd ++ rdL ((xE ars pc vs bd e k).fst.fst.length : Int) e.value (kE e) j)), dE []] [(6, .ptr 4 0), (7, .ptr 5 0)] fun G => b6 (wp_ret ?_))))))); exact T3 (.tup [.agg [.ref 6, .ref 1, .v (.slice none 0 0), .ref 7], .agg [iA 2, iA ((xE ars pc vs bd e k).fst.fst.length : Int), .ref 8]]) G [0, 1, 2, 3, 6, 7, 8] (by have e1 : ((d9 ars pc e (vs, bd)).snd.kind : Int) = (2) := (by rw [aB2 (ars := ars) (pc := pc) (vs := vs) (bd := bd) (e := e) (k := k) (by omega) (by omega) (by with_reducible assumption)]; rfl); have e2 : ((d9 ars pc e (vs, bd)).snd.value : Int) = (((xE ars pc vs bd e k).fst.fst.length : Int)) := (by rw [aB2 (ars := ars) (pc := pc) (vs := vs) (bd := bd) (e := e) (k := k) (by omega) (by omega) (by with_reducible assumption)]; rfl); (first | rw [e1, e2] | simp only [e1, e2]) <;> rfl) (by show _ = mR [0, 1, 2, 3, 6, 7, 8] (at8 e ars pc vs bd); unfold at8; have e2 : ((d9 ars pc e (vs, bd)).fst.snd : List c5) = ((xE ars pc vs bd e k).fst.snd ++ rdL ((xE ars pc vs bd e k).fst.fst.length : Int) e.value (kE e) j) := (bH2 (k := k) (show j = 3 by omega) (by omega) (by omega) (by with_reducible assumption)); rw [e2, aB2 (ars := ars) (pc := pc) (vs := vs) (bd := bd) (e := e) (k := k) (by omega) (by omega) (by with_reducible assumption)] <;> rfl)
     · refine wp_skip (b6 (wp_seq (wp_block (M5 G (F5 (t5 7 [50] (bm9 ((e.kids.getD 0 cg3).kind) ((e.kids.getD 0 cg3).value) ((e.kids.getD 0 cg3).kids) ((j : Int) + 1)) (t5 11 [] (I9 ((j : Int) + 1)) (t5 12 [98] (as9 e.value 1 ((j : Int) + 1) ([])) (t5 14 [] (al7 (((xE ars pc vs bd e k).fst.fst.length : Int))) (t5 16 [130] (ac9 11 ([c6.mk 9 0 (ag1 (at9 e) ((j : Int) + 1)).kids] ++ ([c6.mk 3 e.value [c6.mk 1 ((j : Int) + 1) []]] ++ ([c6.mk 2 ((xE ars pc vs bd e k).fst.fst.length : Int) []] ++ [])))) (t5 17 [8, 1, 9, 130] (S9 ((xE ars pc vs bd e k).fst.fst ++ [l4 (aR9 e ars pc vs bd k) pc]) ars ((xE ars pc vs bd e k).fst.snd ++ rdL ((xE ars pc vs bd e k).fst.fst.length : Int) e.value (kE e) j) (((xE ars pc vs bd e k).fst.fst.length : Int)) 11 0 ([c6.mk 9 0 (ag1 (at9 e) ((j : Int) + 1)).kids] ++ ([c6.mk 3 e.value [c6.mk 1 ((j : Int) + 1) []]] ++ ([c6.mk 2 ((xE ars pc vs bd e k).fst.fst.length : Int) []] ++ []))) (by simp only [cg9, ch2, ch6, aU6]; omega)) F4)))))) fz []) [0, 0, 0, 4, 12, 28, 0, 124, 0, 256, 0, 1276, 4092, 0, 16380, 32764, 65532, 131071, 262143] [0, 1, 2, 3, 4, 5, 6, 7, 8, 146] [.dead, dI ars, .dead, dE e.kids, ag7, .box (eL e 3), Y6, V1, aD7 e ars pc vs bd k, .row 106 (D.stmts ((xE ars pc vs bd e k).fst.snd ++ rdL ((xE ars pc vs bd e k).fst.fst.length : Int) e.value (kE e) j ++ [V5 ((xE ars pc vs bd e k).fst.fst.length : Int) (c6.mk 11 0 ([c6.mk 9 0 (ag1 (at9 e) ((j : Int) + 1)).kids] ++ ([c6.mk 3 e.value [c6.mk 1 ((j : Int) + 1) []]] ++ ([c6.mk 2 ((xE ars pc vs bd e k).fst.fst.length : Int) []] ++ []))))]))] (G2 [(11, iA ((xE ars pc vs bd e k).fst.fst.length : Int)), (12, iA ((j : Int) + 1))]) (iX 0 0 e.kids.length []) (iK (by have := aF7 he (by omega); omega) ch8) fun G => l0 (b6 (E1 G f7 [(12, iA ((j : Int) + 1 + 1))] [wO ((j : Int) + 1 + 1)] (o1 (by omega)) fun G => b6 ?_)))))); exact I6 G (j + 1) (by omega) (by omega) (rg 10) (by have e1 : ((xE ars pc vs bd e k).fst.snd ++ rdL ((xE ars pc vs bd e k).fst.fst.length : Int) e.value (kE e) (j + 1) : List c5) = ((xE ars pc vs bd e k).fst.snd ++ rdL ((xE ars pc vs bd e k).fst.fst.length : Int) e.value (kE e) j ++ [V5 ((xE ars pc vs bd e k).fst.fst.length : Int) (c6.mk 11 0 ([c6.mk 9 0 (ag1 (w6 (e.kids.getD 0 cg3)) ((j : Int) + 1)).kids] ++ ([c6.mk 3 e.value [c6.mk 1 ((j : Int) + 1) []]] ++ ([c6.mk 2 ((xE ars pc vs bd e k).fst.fst.length : Int) []] ++ []))))]) := cc0; (first | rw [e1] | simp only [e1]) <;> rfl)
    · have q2 : ((f8 (i9 (xE ars pc vs bd e k).fst.fst ars 5 (w6 (e.kids.getD 0 cg3)))) = false) ∨ (¬ (i9 (xE ars pc vs bd e k).fst.fst ars 5 (w6 (e.kids.getD 0 cg3)) % 2 = 1)) := (fun hq => Or.imp (fun hq => (hq)) (fun hq => of_decide_eq_false hq) (Bool.and_eq_false_iff.1 hq)) (Eq.mp (ci3 _) h2); refine rT G _ h2 (wp_seq (af8 G f7 [0, 0, 1, 7] [0, 1, 2, 3, 4, 5, 6, 7, 9, 10, 11] (.dead :: dI ars :: .dead :: dE e.kids :: ag7 :: .box (eL e 3) :: ag7 :: .box (eL e 10) :: (an9 e ars pc vs bd k [.row 104 (D.exprs (xE ars pc vs bd e k).snd)])) ((2, iA pc) :: (G2 [])) fun G => b6 (wp_ret (l5 ?_)))); obtain ⟨ρ, G⟩ := G.frz [.no, .no, .no, .no, .no, .no, .no, .no, .no, .no, .row 104] (.dead :: dI ars :: .dead :: dE e.kids :: .box [.ref 8, .ref 1, .v (.slice none 0 0), .ref 9] :: .box (eL e 3) :: .box [.ref 8, .ref 1, .v (.slice none 0 0), .ref 9] :: .box (eL e 10) :: (an9 e ars pc vs bd k [dE (xE ars pc vs bd e k).snd])) ((2, iA pc) :: (G2 [])); exact T3 (.tup [.agg [.ref 8, .ref 1, .v (.slice none 0 0), .ref 9], eA e 10]) G [0, 1, 2, 3, 8, 9, 10] (by have e1 : ((d9 ars pc e (vs, bd)).snd.kind : Int) = (e.kind) := (by rw [aS5 (ars := ars) (pc := pc) (vs := vs) (bd := bd) (e := e) (k := k) (by omega) (by with_reducible assumption)]; rfl); have e2 : ((d9 ars pc e (vs, bd)).snd.value : Int) = (e.value) := (by rw [aS5 (ars := ars) (pc := pc) (vs := vs) (bd := bd) (e := e) (k := k) (by omega) (by with_reducible assumption)]; rfl); (first | rw [e1, e2] | simp only [e1, e2]) <;> rfl) (by show _ = mR [0, 1, 2, 3, 8, 9, 10] (at8 e ars pc vs bd); unfold at8; rw [aS5 (ars := ars) (pc := pc) (vs := vs) (bd := bd) (e := e) (k := k) (by omega) (by with_reducible assumption)] <;> rfl)
   · have q1 := bne_iff_ne.1 h1; refine bp5 G (H8 (fc h1 fz) (us [(4, 12, 0), (1013, 1013, 0)])) [0, 1, 3, 7, 15, 31, 15, 79, 207, 463, 1023, 2047, 4095, 8191] [(56, bA true)] fun G => b6 (rT G true (by kernel_rfl) (wp_seq (af8 G f7 [0, 0, 1, 7] [0, 1, 2, 3, 4, 5, 6, 7, 9, 10, 11] (.dead :: dI ars :: .dead :: dE e.kids :: ag7 :: .box (eL e 3) :: ag7 :: .box (eL e 10) :: (an9 e ars pc vs bd k [.row 104 (D.exprs (xE ars pc vs bd e k).snd)])) ((2, iA pc) :: (G2 [])) fun G => b6 (wp_ret (l5 ?_))))); obtain ⟨ρ, G⟩ := G.frz [.no, .no, .no, .no, .no, .no, .no, .no, .no, .no, .row 104] (.dead :: dI ars :: .dead :: dE e.kids :: .box [.ref 8, .ref 1, .v (.slice none 0 0), .ref 9] :: .box (eL e 3) :: .box [.ref 8, .ref 1, .v (.slice none 0 0), .ref 9] :: .box (eL e 10) :: (an9 e ars pc vs bd k [dE (xE ars pc vs bd e k).snd])) ((2, iA pc) :: (G2 [])); exact T3 (.tup [.agg [.ref 8, .ref 1, .v (.slice none 0 0), .ref 9], eA e 10]) G [0, 1, 2, 3, 8, 9, 10] (by have e1 : ((d9 ars pc e (vs, bd)).snd.kind : Int) = (e.kind) := (by rw [aS6 (ars := ars) (pc := pc) (vs := vs) (bd := bd) (e := e) (k := k) (by omega) (by omega)]; rfl); have e2 : ((d9 ars pc e (vs, bd)).snd.value : Int) = (e.value) := (by rw [aS6 (ars := ars) (pc := pc) (vs := vs) (bd := bd) (e := e) (k := k) (by omega) (by omega)]; rfl); (first | rw [e1, e2] | simp only [e1, e2]) <;> rfl) (by show _ = mR [0, 1, 2, 3, 8, 9, 10] (at8 e ars pc vs bd); unfold at8; rw [aS6 (ars := ars) (pc := pc) (vs := vs) (bd := bd) (e := e) (k := k) (by omega) (by omega)] <;> rfl)
  · refine wp_skip (b6 (wp_seq (wp_block (wp_seq (j7 G f7 [0, 1, 2, 3, 4, 5, 6, 7, 8, 9, 10, 11, 20] (aD0 e ars (Y6 :: V1 :: .box (eL e 11) :: (an9 e ars pc vs bd k [.row 104 (D.exprs (xE ars pc vs bd e k).snd), V1]))) ((2, iA pc) :: (G2 [(8, .ptr 8 0), (9, iA k), (10, .ptr 12 0)])) fun G => b6 (wp_seq (M5 G (s6 7 [9, 1, 10, 53] (ih (e.kids.getD k cg3) (as5 (by omega)) ((xE ars pc vs bd e k).fst.fst) ((xE ars pc vs bd e k).fst.snd) (bS3 he (by omega)) (b02 he r1 (by omega)) (b01 he r2 (by omega)))) [0, 0, 2, 0, 14, 30, 0, 127, 255, 511, 511, 1023, 4095] [0, 1, 2, 3, 4, 5, 6, 7, 8, 11, 12, 69, 70, 71] [.dead, dI ars, .dead, dE e.kids, .box [.ref 11, .ref 1, .v (.slice none 0 0), .ref 12], .box (eL e 3), Y6, V1, .box (eL e 9), .row 104 (D.exprs (xE ars pc vs bd e k).snd), .box (eL (ao2 e ars pc vs bd k).snd 13), .row 3 (D.ints (ao2 e ars pc vs bd k).fst.fst), .row 106 (D.stmts (ao2 e ars pc vs bd k).fst.snd), dE (ao2 e ars pc vs bd k).snd.kids] ((2, iA pc) :: (G2 [(8, .ptr 8 0), (9, iA k), (10, .ptr 10 0)])) (iX k k e.kids.length []) (iK (by omega) ch8) fun G => b6 (N4 G f7 [0, 1, 2, 3, 4, 5, 6, 7, 8, 11, 12, 46] (aD0 e ars [Y6, V1, .box (eL e 11), .row 3 (D.ints (ao2 e ars pc vs bd k).fst.fst), .row 106 (D.stmts (ao2 e ars pc vs bd k).fst.snd), .row 104 (D.exprs ((xE ars pc vs bd e k).snd ++ ([w6 (ao2 e ars pc vs bd k).snd] ++ [])))]) ((2, iA pc) :: (G2 [(8, .ptr 8 0), (9, iA k)])) (aP ((xE ars pc vs bd e k).snd.length + ([w6 (d9 ars pc (e.kids.getD k cg3) (xE ars pc vs bd e k).fst).snd] ++ []).length) 40 []) (aK (by simp only [cg9, ch2, ch6, aU6]; omega) ch8) fun G => l0 (b6 (E1 G f7 [(9, iA ((k : Int) + 1))] [wO ((k : Int) + 1)] (o1 (by omega)) fun G => b6 ?_)))))))))); exact I6 G (k + 1) (by omega) (by omega) (rg 12) (by have e1 : ((xE ars pc vs bd e (k + 1)).fst.fst : List Int) = ((d9 ars pc (e.kids.getD k cg3) (xE ars pc vs bd e k).fst).fst.fst) := (bZ8 (by omega)); have e2 : ((xE ars pc vs bd e (k + 1)).fst.snd : List c5) = ((d9 ars pc (e.kids.getD k cg3) (xE ars pc vs bd e k).fst).fst.snd) := (bZ7 (by omega)); have e3 : ((xE ars pc vs bd e (k + 1)).snd : List c6) = ((xE ars pc vs bd e k).snd ++ ([w6 (d9 ars pc (e.kids.getD k cg3) (xE ars pc vs bd e k).fst).snd] ++ [])) := (bZ6 (by omega)); (first | rw [e1, e2, e3] | simp only [e1, e2, e3]) <;> rfl)
theorem bk8 (ars : List Int) (pc : Int) : ∀ (d : Nat), d ≤ 5 → ∀ (e : c6) (vs : List Int) (bd : List c5), i5 vs.length ars.length d e = true → vs.length + (1 + z6 e) ≤ 100000 → j5 bd + 40 * (1 + z6 e) ≤ 700000 → j9.ok Tryz.prog (leC ars pc vs bd e)
 | 0, _, _, _, _, h, _, _ => by simp [i5] at h
 | d + 1, hd, e, vs, bd, h, r1, r2 => bw7 e ars pc d hd (fun u _ vs bd h r1 r2 => bk8 ars pc d (by omega) u vs bd h r1 r2) vs bd h r1 r2
theorem a66 (ars : List Int) (pc : Int) (e : c6) (vs : List Int) (bd : List c5) (h : i5 vs.length ars.length 5 e = true) (r1 : vs.length + (1 + z6 e) ≤ 100000) (r2 : j5 bd + 40 * (1 + z6 e) ≤ 700000) : j9.ok Tryz.prog (leC ars pc vs bd e) := bk8 ars pc 5 (ch0 _) e vs bd h r1 r2
theorem bN1 (e : c6) (hb : z6 e ≤ 1048576) : j9.ok Tryz.prog ⟨132, [eA e 0], eS e, eS e ++ [dE e.kids], .agg [iA e.kind, iA e.value, .ref 1]⟩ :=
 j9.datPost (S := eS e) (d := .exprs e.kids) (aX7 e hb) (.agg [iA e.kind, iA e.value, .ref 1])
theorem cb0 {bd : List c5} {v t m : Int} {i : c6} {k : Nat} : bd ++ stL v t i m (k + 1) = bd ++ stL v t i m k ++ [⟨2, t, ⟨1, (k : Int), []⟩, ⟨11, 0, [⟨(C1 m (ag1 i (k : Int)) (cnE 0)).kind, (C1 m (ag1 i (k : Int)) (cnE 0)).value, (C1 m (ag1 i (k : Int)) (cnE 0)).kids⟩, ⟨2, v, []⟩, ⟨3, t, [⟨1, (k : Int), []⟩]⟩]⟩, 0, [], []⟩] := by
 rw [c6.eta, stL, cl1]
theorem ca9 {bd : List c5} {v t m : Int} {i : c6} {k : Nat} (hk : k = 4) : bd ++ stL v t i m 4 = bd ++ stL v t i m k := by rw [hk]
abbrev ce9 (ars vs : List Int) (bd : List c5) (m pc : Int) (t : c5) (e : c6) : j9 := ⟨160, [.agg [.ref 0, .ref 1, nlA, .ref 2], sA t 3, eA e 7, iA m, iA pc], [qI vs, dI ars, qT bd] ++ sS t ++ [dE e.kids], [qI vs, dI ars, .dead] ++ sS t ++ [dE e.kids, qI (vs ++ [l4 (i9 vs ars 5 ⟨e.kind, e.value, e.kids⟩) pc]), qT (bd ++ [V5 (vs.length : Int) ⟨e.kind, e.value, e.kids⟩] ++ stL (vs.length : Int) t.target ⟨t.index.kind, t.index.value, t.index.kids⟩ m 4)], .agg [.ref 8, .ref 1, nlA, .ref 9]⟩
abbrev aD6 (m : Int) (t : c5) (k : Nat) := C1 m (c6.mk 9 0 (ag1 (w6 t.index) (k : Int)).kids) (c6.mk 1 0 [])
abbrev aR8 (vs : List Int) (bd : List c5) (m : Int) (t : c5) (e : c6) (k : Nat) := bd ++ [V5 (vs.length : Int) (w6 e)] ++ stL (vs.length : Int) t.target (w6 t.index) m k
abbrev a86 (ars : List Int) (vs : List Int) (pc : Int) (e : c6) := vs ++ [l4 (i9 vs ars 5 (w6 e)) pc]
abbrev a85 : It := .box [.v (.slice none 0 0), .v (.slice none 0 0), .v (.slice none 0 0), .v (.slice none 0 0)]
abbrev bR9 : It := .box [.ref 11, .ref 1, .v (.slice none 0 0), .ref 12]
abbrev aC9 (ars : List Int) (vs : List Int) (pc : Int) (t : c5) (e : c6) (r0 : List It) : List It := .row 3 (D.ints vs) :: dI ars :: .dead :: dE t.index.kids :: dE t.value.kids :: dT t.body :: dT t.els :: dE e.kids :: bR9 :: .box (sL t 3) :: a85 :: .row 3 (D.ints (a86 ars vs pc e)) :: r0
abbrev an8 (vs : List Int) (m : Int) (r0 : List (Nat × AV)) : List (Nat × AV) := (3, iA m) :: (5, .ptr 8 0) :: (6, .ptr 9 0) :: (10, .ptr 10 0) :: (11, iA (vs.length : Int)) :: r0
abbrev at7 (t : c5) (e : c6) (r0 : List It) : List It := dE t.index.kids :: dE t.value.kids :: dT t.body :: dT t.els :: dE e.kids :: r0
theorem bs0 (ars vs : List Int) (bd : List c5) (m pc : Int) (t : c5) (e : c6) (he : i5 vs.length ars.length 5 ⟨e.kind, e.value, e.kids⟩ = true) (r1 : vs.length ≤ 100000) (r2 : bd.length ≤ 700000) : j9.ok Tryz.prog (ce9 ars vs bd m pc t e) := by
  refine F9 63 Tryz.func160 (.row 3 (D.ints vs) :: dI ars :: .row 106 (D.stmts bd) :: (at7 t e [])) [(0, .agg [.ref 0, .ref 1, .v (.slice none 0 0), .ref 2]), (1, sA t 3), (2, eA e 7), (3, iA m), (4, iA pc)] fun G => ?_; refine wp_seq (j7 G f7 [0, 1, 2, 3, 4, 5, 6, 7, 8, 16, 24, 32] (.row 3 (D.ints vs) :: dI ars :: .row 106 (D.stmts bd) :: (at7 t e [.box [.ref 0, .ref 1, .v (.slice none 0 0), .ref 2], .box (sL t 3), .box (eL e 7), a85])) [(3, iA m), (4, iA pc), (5, .ptr 8 0), (6, .ptr 9 0), (7, .ptr 10 0), (10, .ptr 11 0)] fun G => b6 (wp_seq (k8 G f7 [(11, iA 0)] fun G => b6 (wp_seq (af8 G (F5 (t5 4 [0, 1, 7] (j9.lend (aa0 vs ars e.kind e.value e.kids (by assumption)) [.row 3]) (t5 7 [0, 1, 2] (al8 vs ars bd (l4 (i9 vs ars 5 (w6 e)) pc) (by omega)) F4)) fz []) [0, 0, 2, 0, 14, 0, 62, 127, 255, 511, 511, 1023, 4095] [0, 1, 2, 3, 4, 5, 6, 7, 8, 9, 10, 11, 68] (.row 3 (D.ints vs) :: dI ars :: .row 106 (D.stmts bd) :: (at7 t e [.box [.ref 12, .ref 1, .v (.slice none 0 0), .ref 2], .box (sL t 3), .box (eL e 7), a85, .row 3 (D.ints (a86 ars vs pc e))])) [(3, iA m), (5, .ptr 8 0), (6, .ptr 9 0), (7, .ptr 10 0), (10, .ptr 11 0), (11, iA (vs.length : Int))] fun G => b6 (wp_seq (j7 G (s6 3 [12, 1, 2, 7] (S9 (vs ++ [l4 (i9 vs ars 5 (w6 e)) pc]) ars bd ((vs.length : Int)) e.kind e.value e.kids (by omega))) [0, 1, 2, 3, 4, 5, 6, 7, 8, 9, 11, 12, 37] (aC9 ars vs pc t e [.row 106 (D.stmts (bd ++ [V5 (vs.length : Int) (w6 e)]))]) (an8 vs m []) fun G => b6 (wp_seq (wp_seq (D7 G f7 (an8 vs m [(12, iA 0)]) fun G => b6 (wp_block ?_))))))))))); replace G := G.as (.row 3 (D.ints vs) :: dI ars :: .dead :: (at7 t e [.box [.ref 11, .ref 1, .v (.slice none 0 0), .ref 12], .box (sL t 3), .box [.v (.slice none 0 0), .v (.slice none 0 0), .v (.slice none 0 0), .v (.slice none 0 0)], .row 3 (D.ints (vs ++ [l4 (i9 vs ars 5 (w6 e)) pc])), .row 106 (D.stmts (bd ++ [V5 (vs.length : Int) (w6 e)] ++ stL (vs.length : Int) t.target (w6 t.index) m 0))])) (an8 vs m [(12, iA 0)]) (by have e1 : (bd ++ [V5 (vs.length : Int) (w6 e)] ++ stL (vs.length : Int) t.target (w6 t.index) m 0 : List c5) = (bd ++ [V5 (vs.length : Int) (w6 e)]) := (by simp only [stL, List.append_nil]; done); (first | rw [e1] | simp only [e1]) <;> rfl) (by kernel_rfl); refine s8 (κ := Nat) (fun k => k ≤ 4) (fun k => 4 - k) (fun k => [.row 3 (D.ints vs), dI ars, .dead, dE t.index.kids, dE t.value.kids, dT t.body, dT t.els, dE e.kids, .box [.ref 11, .ref 1, .v (.slice none 0 0), .ref 12], .box (sL t 3), .box [.v (.slice none 0 0), .v (.slice none 0 0), .v (.slice none 0 0), .v (.slice none 0 0)], .row 3 (D.ints (vs ++ [l4 (i9 vs ars 5 (w6 e)) pc])), .row 106 (.stmts (bd ++ [V5 (vs.length : Int) ⟨e.kind, e.value, e.kids⟩] ++ stL (vs.length : Int) t.target ⟨t.index.kind, t.index.value, t.index.kids⟩ m k))]) (fun k => [(3, iA m), (5, .ptr 8 0), (6, .ptr 9 0), (10, .ptr 10 0), (11, iA (vs.length : Int)), (12, iA k)]) 0 (by omega) (t7.at G _ _) ?_
  clear G; intro k ρ a w hp G; replace G := t7.at G (aC9 ars vs pc t e [.row 106 (D.stmts (aR8 vs bd m t e k))]) (an8 vs m [(12, iA k)]); refine wp_seq (wp_seq (k8 G f7 [(31, bA (decide ((k : Int) < 4)))] fun G => b6 (rcD G (fun h0 q0 => ?_) fun h0 q0 => ?_)))
  · refine wp_exit (s4 (s4 (r8 (b6 (wp_seq (j7 G f7 [0, 1, 2, 3, 4, 5, 6, 7, 10, 11, 12] (.row 3 (D.ints vs) :: dI ars :: .dead :: (at7 t e [.box [.ref 9, .ref 1, .v (.slice none 0 0), .ref 10], .row 3 (D.ints (a86 ars vs pc e)), .row 106 (D.stmts (aR8 vs bd m t e k))])) [(10, .ptr 8 0)] fun G => b6 (wp_ret ?_))))))); exact M4 G [0, 1, 2, 3, 4, 5, 6, 7, 9, 10] (by show _ = mR [0, 1, 2, 3, 4, 5, 6, 7, 9, 10] (.row 3 (D.ints vs) :: dI ars :: .dead :: (at7 t e [.row 3 (D.ints (vs ++ [l4 (i9 vs ars 5 (w6 e)) pc])), .row 106 (D.stmts (bd ++ [V5 (vs.length : Int) (w6 e)] ++ stL (vs.length : Int) t.target (w6 t.index) m 4))])); have e1 : (bd ++ [V5 (vs.length : Int) (w6 e)] ++ stL (vs.length : Int) t.target (w6 t.index) m 4 : List c5) = (bd ++ [V5 (vs.length : Int) (w6 e)] ++ stL (vs.length : Int) t.target (w6 t.index) m k) := (ca9 (show k = 4 by omega)); (first | rw [e1] | simp only [e1]) <;> rfl)
  ·
   refine wp_skip (b6 (wp_seq (wp_block (wp_seq (j7 G (F5 (t5 4 [3] (bm9 t.index.kind t.index.value t.index.kids ((k : Int))) (t5 5 [] (I9 0) (t5 6 [45, 53] (aj5 m 9 0 1 0 ((ag1 (w6 t.index) (k : Int)).kids) ([])) F4))) fz []) [0, 1, 2, 3, 4, 5, 6, 7, 8, 9, 10, 11, 12, 61, 69] (aC9 ars vs pc t e [.row 106 (D.stmts (aR8 vs bd m t e k)), dE (aD6 m t k).kids, .box [iA (aD6 m t k).kind, iA (aD6 m t k).value, .ref 13]]) (an8 vs m [(12, iA k), (13, .ptr 14 0)]) fun G => b6 (wp_seq (af8 G (F5 (t5 2 [] (al7 ((vs.length : Int))) (t5 6 [] (I9 ((k : Int))) (t5 7 [63] (as9 t.target 1 ((k : Int)) ([])) (t5 9 [79] (ac9 11 ([w6 (C1 m (c6.mk 9 0 (ag1 (c6.mk t.index.kind t.index.value t.index.kids) (k : Int)).kids) (c6.mk 1 0 []))] ++ ([c6.mk 2 (vs.length : Int) []] ++ ([c6.mk 3 t.target [c6.mk 1 (k : Int) []]] ++ [])))) F4)))) fz []) [0, 0, 2, 0, 8, 0, 38, 126, 255, 511, 0, 2047] [0, 1, 2, 3, 4, 5, 6, 7, 8, 9, 10, 11, 12, 79, 95] (aC9 ars vs pc t e [.row 106 (D.stmts (aR8 vs bd m t e k)), dE ([w6 (aD6 m t k)] ++ ([c6.mk 2 (vs.length : Int) []] ++ ([c6.mk 3 t.target [c6.mk 1 (k : Int) []]] ++ []))), .box [iA 11, iA 0, .ref 13]]) (an8 vs m [(12, iA k), (14, .ptr 14 0)]) fun G => b6 (M5 G (s6 5 [] (I9 ((k : Int)))) [0, 1, 0, 4, 0, 16, 0, 124, 252, 511, 1023, 2047] [0, 1, 2, 3, 4, 5, 6, 7, 8, 9, 10, 11, 87] (aC9 ars vs pc t e [.row 106 (D.stmts (bd ++ [V5 (vs.length : Int) (w6 e)] ++ stL (vs.length : Int) t.target (w6 t.index) m k ++ ([c5.mk 2 t.target (c6.mk 1 (k : Int) []) (c6.mk 11 0 ([w6 (aD6 m t k)] ++ ([c6.mk 2 (vs.length : Int) []] ++ ([c6.mk 3 t.target [c6.mk 1 (k : Int) []]] ++ [])))) 0 [] []] ++ [])))]) (an8 vs m [(12, iA k)]) (aP ((bd ++ [V5 (vs.length : Int) (w6 e)] ++ stL (vs.length : Int) t.target (w6 t.index) m k).length + ([c5.mk (2 : Int) t.target (c6.mk (1 : Int) (k : Int) []) (c6.mk (11 : Int) (0 : Int) ([w6 (C1 m (c6.mk (9 : Int) (0 : Int) (ag1 (c6.mk t.index.kind t.index.value t.index.kids) (k : Int)).kids) (c6.mk (1 : Int) (0 : Int) []))] ++ ([c6.mk (2 : Int) (vs.length : Int) []] ++ ([c6.mk (3 : Int) t.target [c6.mk (1 : Int) (k : Int) []]] ++ [])))) (0 : Int) [] []] ++ []).length) 152 []) (aK (by simp only [cg9, ch2, ch6, bi3]; omega) ch8) fun G => ?_))))))))
   refine l0 (b6 (E1 G f7 [(12, iA ((k : Int) + 1))] [wO ((k : Int) + 1)] (o1 (by omega)) fun G => b6 ?_)); exact I6 G (k + 1) (by omega) (by omega) (rg 13) (by have e1 : (bd ++ [V5 (vs.length : Int) (w6 e)] ++ stL (vs.length : Int) t.target (w6 t.index) m (k + 1) : List c5) = (bd ++ [V5 (vs.length : Int) (w6 e)] ++ stL (vs.length : Int) t.target (w6 t.index) m k ++ ([c5.mk 2 t.target (c6.mk 1 (k : Int) []) (c6.mk 11 0 ([w6 (C1 m (c6.mk 9 0 (ag1 (c6.mk t.index.kind t.index.value t.index.kids) (k : Int)).kids) (c6.mk 1 0 []))] ++ ([c6.mk 2 (vs.length : Int) []] ++ ([c6.mk 3 t.target [c6.mk 1 (k : Int) []]] ++ [])))) 0 [] []] ++ [])) := cb0; (first | rw [e1] | simp only [e1]) <;> rfl)
abbrev lbC (ars : List Int) (m pc : Int) (vs : List Int) (bd : List c5) (ss : List c5) : j9 := ⟨79, [.agg [.ref 0, .ref 1, nlA, .ref 3], .ref 2, iA m, iA pc], [qI vs, dI ars, dT ss, qT bd], [.dead, dI ars, dT ss, .dead, qI (m6 ars ss m pc (vs, bd)).1, qT (m6 ars ss m pc (vs, bd)).2], .agg [.ref 4, .ref 1, nlA, .ref 5]⟩
abbrev lnC (ars : List Int) (m pc : Int) (vs : List Int) (ss : List c5) : j9 := ⟨79, [.agg [.ref 0, .ref 1, nlA, nlA], .ref 2, iA m, iA pc], [qI vs, dI ars, dT ss], [.dead, dI ars, dT ss, qI (m6 ars ss m pc (vs, [])).1, qT (m6 ars ss m pc (vs, [])).2], .agg [.ref 3, .ref 1, nlA, .ref 4]⟩
abbrev bL2 (ars : List Int) (m pc : Int) (vs : List Int) (bd : List c5) (ss : List c5) : j9 := ⟨153, [.agg [.ref 0, .ref 1, nlA, .ref 2], .ref 3, iA m, iA pc], [qI vs, dI ars, qT bd, dT ss], [.dead, dI ars, qT bd, dT ss, qI (m6 ars ss m pc (vs, [])).1, dT (m6 ars ss m pc (vs, [])).2], .tup [.agg [.ref 4, .ref 1, nlA, .ref 2], .ref 5]⟩
theorem bo5 (ars : List Int) (m pc : Int) (vs : List Int) (bd : List c5) (ss : List c5) (hB : j9.ok Tryz.prog (lnC ars m pc vs ss)) : j9.ok Tryz.prog (bL2 ars m pc vs bd ss) := by
 refine F9 25 Tryz.func153 [.row 3 (D.ints vs), dI ars, .row 106 (D.stmts bd), dT ss] [(0, .agg [.ref 0, .ref 1, .v (.slice none 0 0), .ref 2]), (1, .ref 3), (2, iA m), (3, iA pc)] fun G => ?_; refine wp_seq (j7 G f7 [0, 1, 2, 3, 4, 12] [.row 3 (D.ints vs), dI ars, .row 106 (D.stmts bd), dT ss, .box [.ref 0, .ref 1, .v (.slice none 0 0), .ref 2], .box [.v (.slice none 0 0), .v (.slice none 0 0), .v (.slice none 0 0), .v (.slice none 0 0)]] [(1, .ref 3), (2, iA m), (3, iA pc), (4, .ptr 4 0), (8, .ptr 5 0), (9, .v (.slice none 0 0))] fun G => b6 (wp_seq (j7 G (s6 6 [0, 1, 3] hB) [0, 1, 2, 3, 4, 5, 54, 55, 62] [.dead, dI ars, .row 106 (D.stmts bd), dT ss, .box [.ref 0, .ref 1, .v (.slice none 0 0), .ref 2], .box [.v (.slice none 0 0), .v (.slice none 0 0), .v (.slice none 0 0), .v (.slice none 0 0)], .row 3 (D.ints (m6 ars ss m pc (vs, [])).fst), .row 106 (D.stmts (m6 ars ss m pc (vs, [])).snd), .box [.ref 6, .ref 1, .v (.slice none 0 0), .ref 7]] [(4, .ptr 4 0), (8, .ptr 5 0), (9, .v (.slice none 0 0)), (10, .ptr 8 0)] fun G => b6 (wp_seq (af8 G f7 [0, 1, 0, 4, 15, 0, 32, 31, 255] [0, 1, 2, 3, 5, 6, 7] [.dead, dI ars, .row 106 (D.stmts bd), dT ss, .box [.ref 5, .ref 1, .v (.slice none 0 0), .ref 2], .row 3 (D.ints (m6 ars ss m pc (vs, [])).fst), .row 106 (D.stmts (m6 ars ss m pc (vs, [])).snd)] [(8, .ptr 4 0), (9, .ref 6)] fun G => b6 (wp_ret ?_)))))); obtain ⟨ρ, G⟩ := G.frz [.no, .no, .no, .no, .no, .no, .row 106] [.dead, dI ars, .row 106 (D.stmts bd), dT ss, .box [.ref 5, .ref 1, .v (.slice none 0 0), .ref 2], .row 3 (D.ints (m6 ars ss m pc (vs, [])).fst), dT (m6 ars ss m pc (vs, [])).snd] [(8, .ptr 4 0), (9, .ref 6)]; exact M4 G [0, 1, 2, 3, 5, 6]
abbrev b57 (ars : List Int) (m pc : Int) (vs : List Int) (bd : List c5) (t : c5) : j9 := ⟨152, [.agg [.ref 0, .ref 1, nlA, .ref 2], sA t 3, iA m, iA pc], [qI vs, dI ars, qT bd] ++ sS t, [.dead, dI ars, .dead] ++ sS t ++ [qI (G9 ars t m pc (vs, bd)).1, qT (G9 ars t m pc (vs, bd)).2], .agg [.ref 7, .ref 1, nlA, .ref 8]⟩
section
variable {ars vs : List Int} {bd : List c5} {m pc : Int} {t : c5} {nv dd : Nat}
theorem bC4 (hh : D8 nv ars.length t = true) (k3 : t.kind = 3) (hv : nv ≤ vs.length) : i5 vs.length ars.length 5 t.value = true := E8 hv 5 _ (z8 hh (by omega))
theorem cf1 (hh : D8 nv ars.length t = true) (k3 : t.kind = 3) (hv : nv ≤ vs.length) : Grw vs.length ars.length 5 (1 + z6 t.value) (vs, bd) (d9 ars pc t.value (vs, bd)).1 := (ak7 ars pc ars.length 5 t.value (vs, bd) (bC4 hh k3 hv)).1
theorem bW8 (hh : D8 nv ars.length t = true) (k3 : t.kind = 3) (hv : nv ≤ vs.length) (r1 : vs.length + 4 * (1 + K0 t) ≤ 90000) (r2 : j5 bd + 130 * (1 + K0 t) ≤ 600000) : (d9 ars pc t.value (vs, bd)).1.1.length + 3 * (1 + z6 t.value) + 4 * j5 t.body + 4 * j5 t.els ≤ 90000 ∧ nv ≤ (d9 ars pc t.value (vs, bd)).1.1.length ∧ j5 (d9 ars pc t.value (vs, bd)).1.2 + 60 * (1 + z6 t.value) + 130 * j5 t.body + 130 * j5 t.els ≤ 600000 ∧ (d9 ars pc t.value (vs, bd)).1.2.length ≤ 600000 := by
 have g := cf1 (pc := pc) (bd := bd) hh k3 hv
 have a := g.lo; have b := g.hi; have c := g.st
 have hsz : K0 t = z6 t.index + z6 t.value + j5 t.body + j5 t.els := by cases t; rfl
 have := K8 (d9 ars pc t.value (vs, bd)).1.2
 simp only at a b c
 omega
end
abbrev etE (e : c6) : c6 := ⟨e.kind, e.value, e.kids⟩
abbrev ifN (x : LnS × c6) (m l : Int) : LnS := (x.1.1 ++ [l] ++ [l], x.1.2 ++ [V5 (x.1.1.length : Int) (etE (C1 m (etE x.2) ⟨1, 0, []⟩))] ++ [V5 ((x.1.1 ++ [l]).length : Int) (etE (C1 m ⟨9, 0, [⟨2, (x.1.1.length : Int), []⟩] ++ ([⟨1, 0, []⟩] ++ [])⟩ ⟨1, 0, []⟩))])
theorem bC5 (x : LnS × c6) (m l : Int) : ifN x m l = ifM x m l := by
 unfold ifN ifM etE
 simp only [c6.eta]
 rfl
theorem bW9 (x : LnS × c6) (m l : Int) : j5 (ifM x m l).2 ≤ j5 x.1.2 + 20 + z6 x.2 ∧ (ifM x m l).1.length = x.1.1.length + 2 := by
 have m1 := ae1 m x.2 (cnE 0)
 have m2 := ae1 m ⟨9, 0, [vrE (x.1.1.length : Int), cnE 0]⟩ (cnE 0)
 have m3 : z6 ⟨9, 0, [vrE (x.1.1.length : Int), cnE 0]⟩ = 2 := rfl
 have e0 : z6 nnE = 0 := rfl
 have e1 : z6 (cnE 0) = 0 := rfl
 constructor
 ·simp only [ifM, w5, j5, K0, e0]; omega
 ·simp [ifM]
section
variable {ars vs : List Int} {bd : List c5} {m pc l : Int} {t : c5} {nv dd : Nat}
theorem b63 (hh : D8 nv ars.length t = true) (k3 : t.kind = 3) (hv : nv ≤ vs.length) (r1 : vs.length + 4 * (1 + K0 t) ≤ 90000) (r2 : j5 bd + 130 * (1 + K0 t) ≤ 600000) :
  nv ≤ (ifN (d9 ars pc t.value (vs, bd)) m l).1.length ∧ (ifN (d9 ars pc t.value (vs, bd)) m l).1.length + 4 * j5 t.body + 4 * j5 t.els ≤ 90000 ∧ j5 (ifN (d9 ars pc t.value (vs, bd)) m l).2 + 130 * j5 t.body + 130 * j5 t.els ≤ 600000 := by
 have hb := bW8 (pc := pc) (bd := bd) hh k3 hv r1 r2
 have hz := bW9 (d9 ars pc t.value (vs, bd)) m l
 have h3 := (ak7 ars pc ars.length 5 t.value (vs, bd) (bC4 hh k3 hv)).2.2
 rw [bC5]
 omega
theorem b62 (hh : D8 nv ars.length t = true) (k3 : t.kind = 3) (hv : nv ≤ vs.length) (r1 : vs.length + 4 * (1 + K0 t) ≤ 90000) (r2 : j5 bd + 130 * (1 + K0 t) ≤ 600000) : j5 (ifN (d9 ars pc t.value (vs, bd)) m l).2 + 130 * j5 t.body ≤ 600000 := by have := (b63 (m := m) (l := l) (pc := pc) hh k3 hv r1 r2).2.2; omega
theorem bW7 {u : Int} (hbb : t.body.all (j6 nv ars.length dd) = true) (hh : D8 nv ars.length t = true) (k3 : t.kind = 3) (hv : nv ≤ vs.length) (r1 : vs.length + 4 * (1 + K0 t) ≤ 90000) (r2 : j5 bd + 130 * (1 + K0 t) ≤ 600000) :
  nv ≤ (m6 ars t.body u l (ifN (d9 ars pc t.value (vs, bd)) m l)).1.length ∧ (m6 ars t.body u l (ifN (d9 ars pc t.value (vs, bd)) m l)).1.length + 4 * j5 t.els ≤ 90000 ∧ j5 (m6 ars t.body u l (ifN (d9 ars pc t.value (vs, bd)) m l)).2 + 130 * j5 t.els ≤ 600000 := by
 have h := b63 (m := m) (l := l) (pc := pc) hh k3 hv r1 r2
 have g := aV9 ars t.body u l (ifN (d9 ars pc t.value (vs, bd)) m l) hbb h.1
 have a := g.lo; have b := g.hi; have c := g.st
 omega
theorem b64 (hbb : t.body.all (j6 nv ars.length dd) = true) (hh : D8 nv ars.length t = true) (k3 : t.kind = 3) (hv : nv ≤ vs.length) (r1 : vs.length + 4 * (1 + K0 t) ≤ 90000) (r2 : j5 bd + 130 * (1 + K0 t) ≤ 600000) :
  nv ≤ (m6 ars t.body m l ((d9 ars pc t.value (vs, bd)).1.1, [])).1.length ∧ (m6 ars t.body m l ((d9 ars pc t.value (vs, bd)).1.1, [])).1.length + 4 * j5 t.els ≤ 90000 := by
 have hb := bW8 (pc := pc) (bd := bd) hh k3 hv r1 r2
 have g := aV9 ars t.body m l ((d9 ars pc t.value (vs, bd)).1.1, []) hbb hb.2.1
 have a := g.lo; have b := g.hi
 simp only at a b
 omega
abbrev lbV (ars vs : List Int) (pc : Int) (t : c5) : Int := l4 pc (i9 vs ars 5 (etE t.value))
theorem b66 (k3 : t.kind = 3) (h : (!(f8 (i9 vs ars 5 (etE t.value)) && decide (i9 vs ars 5 (etE t.value) % 2 = 1))) = false) : G9 ars t m pc (vs, bd) = m6 ars t.els (((d9 ars pc t.value (vs, bd)).1.1 ++ [lbV ars vs pc t]).length : Int) (lbV ars vs pc t) (m6 ars t.body ((d9 ars pc t.value (vs, bd)).1.1.length : Int) (lbV ars vs pc t) (ifN (d9 ars pc t.value (vs, bd)) m (lbV ars vs pc t))) := by
 rw [cj0] at h
 rw [bC5]
 unfold lbV
 rw [show etE t.value = t.value from c6.eta _] at h ⊢
 exact b53 k3 h
theorem b68 (k3 : t.kind = 3) (h : (!(f8 (i9 vs ars 5 (etE t.value)) && decide (i9 vs ars 5 (etE t.value) % 2 = 1))) = true) : G9 ars t m pc (vs, bd) = ((m6 ars t.els m (lbV ars vs pc t) ((m6 ars t.body m (lbV ars vs pc t) ((d9 ars pc t.value (vs, bd)).1.1, [])).1, [])).1,
  (d9 ars pc t.value (vs, bd)).1.2 ++ [⟨3, 0, ⟨0, 0, []⟩, etE (d9 ars pc t.value (vs, bd)).2, 0, (m6 ars t.body m (lbV ars vs pc t) ((d9 ars pc t.value (vs, bd)).1.1, [])).2, (m6 ars t.els m (lbV ars vs pc t) ((m6 ars t.body m (lbV ars vs pc t) ((d9 ars pc t.value (vs, bd)).1.1, [])).1, [])).2⟩]) := by
 rw [ci3] at h
 rw [show etE (d9 ars pc t.value (vs, bd)).2 = (d9 ars pc t.value (vs, bd)).2 from c6.eta _]
 unfold lbV
 rw [show etE t.value = t.value from c6.eta _] at h ⊢
 exact b54 k3 h
theorem b67 (k3 : t.kind = 3) (h : (!(f8 (i9 vs ars 5 (etE t.value)) && decide (i9 vs ars 5 (etE t.value) % 2 = 1))) = true) : (G9 ars t m pc (vs, bd)).1 = (m6 ars t.els m (lbV ars vs pc t) ((m6 ars t.body m (lbV ars vs pc t) ((d9 ars pc t.value (vs, bd)).1.1, [])).1, [])).1 := by rw [b68 k3 h]
theorem b65 (k3 : t.kind = 3) (h : (!(f8 (i9 vs ars 5 (etE t.value)) && decide (i9 vs ars 5 (etE t.value) % 2 = 1))) = false) : (G9 ars t m pc (vs, bd)).1 = (m6 ars t.els (((d9 ars pc t.value (vs, bd)).1.1 ++ [lbV ars vs pc t]).length : Int) (lbV ars vs pc t) (m6 ars t.body ((d9 ars pc t.value (vs, bd)).1.1.length : Int) (lbV ars vs pc t) (ifN (d9 ars pc t.value (vs, bd)) m (lbV ars vs pc t)))).1 := by rw [b66 k3 h]
end
abbrev aD5 (ars : List Int) (t : c5) (m : Int) (pc : Int) (vs : List Int) (bd : List c5) := m6 ars t.body ((d9 ars pc t.value (vs, bd)).fst.fst.length : Int) (l4 pc (i9 vs ars 5 (w6 t.value))) ((d9 ars pc t.value (vs, bd)).fst.fst ++ [l4 pc (i9 vs ars 5 (w6 t.value))] ++ [l4 pc (i9 vs ars 5 (w6 t.value))], (d9 ars pc t.value (vs, bd)).fst.snd ++ [V5 ((d9 ars pc t.value (vs, bd)).fst.fst.length : Int) (w6 (C1 m (c6.mk (d9 ars pc t.value (vs, bd)).snd.kind (d9 ars pc t.value (vs, bd)).snd.value (d9 ars pc t.value (vs, bd)).snd.kids) (c6.mk 1 0 [])))] ++ [V5 (((d9 ars pc t.value (vs, bd)).fst.fst ++ [l4 pc (i9 vs ars 5 (w6 t.value))]).length : Int) (w6 (C1 m (c6.mk 9 0 ([c6.mk 2 ((d9 ars pc t.value (vs, bd)).fst.fst.length : Int) []] ++ ([c6.mk 1 0 []] ++ []))) (c6.mk 1 0 [])))])
abbrev E7 (ars : List Int) (t : c5) (vs : List Int) := i9 vs ars 5 (w6 t.value)
abbrev aR6 (ars : List Int) (t : c5) (pc : Int) (vs : List Int) (bd : List c5) := w6 (d9 ars pc t.value (vs, bd)).snd
abbrev ao1 (ars : List Int) (t : c5) (m : Int) (pc : Int) (vs : List Int) (bd : List c5) := m6 ars t.body m (l4 pc (E7 ars t vs)) ((d9 ars pc t.value (vs, bd)).fst.fst, [])
abbrev ao0 (ars : List Int) (t : c5) (m : Int) (pc : Int) (vs : List Int) (bd : List c5) := m6 ars t.els m (l4 pc (E7 ars t vs)) ((ao1 ars t m pc vs bd).fst, [])
abbrev aR7 (ars : List Int) (t : c5) (m : Int) (pc : Int) (vs : List Int) (bd : List c5) := w6 (C1 m (aR6 ars t pc vs bd) (c6.mk 1 0 []))
abbrev T2 : It := .box [.v (.slice none 0 0), .v (.slice none 0 0), .v (.slice none 0 0), .v (.slice none 0 0)]
abbrev S4 (ars : List Int) (t : c5) (r0 : List It) : List It := .dead :: dI ars :: .dead :: dE t.index.kids :: dE t.value.kids :: dT t.body :: dT t.els :: r0
abbrev V0 (ars : List Int) (t : c5) (pc : Int) (vs : List Int) (r0 : List (Nat × AV)) : List (Nat × AV) := (3, iA pc) :: (4, .ptr 7 0) :: (5, .ptr 8 0) :: (8, .ptr 9 0) :: (9, iA (E7 ars t vs)) :: r0
abbrev a83 (ars : List Int) (t : c5) (pc : Int) (vs : List Int) (bd : List c5) (r0 : List It) : List It := .box (sL t 3) :: T2 :: .box [iA (d9 ars pc t.value (vs, bd)).snd.kind, iA (d9 ars pc t.value (vs, bd)).snd.value, .ref 12] :: .row 106 (D.stmts (d9 ars pc t.value (vs, bd)).fst.snd) :: dE (d9 ars pc t.value (vs, bd)).snd.kids :: r0
theorem bT6 (ars : List Int) (nv dd : Nat) (t : c5) (k3 : t.kind = 3) (hh : D8 nv ars.length t = true) (hbb : t.body.all (j6 nv ars.length dd) = true) (hbe : t.els.all (j6 nv ars.length dd) = true)
    (hB : ∀ (tt : List c5) (m pc : Int) (vs : List Int) (bd : List c5), tt.all (j6 nv ars.length dd) = true → nv ≤ vs.length → vs.length + 4 * j5 tt ≤ 90000 → j5 bd + 130 * j5 tt ≤ 600000 → j9.ok Tryz.prog (lbC ars m pc vs bd tt))
    (hI : ∀ (tt : List c5) (m pc : Int) (vs : List Int) (bd : List c5), tt.all (j6 nv ars.length dd) = true → nv ≤ vs.length → vs.length + 4 * j5 tt ≤ 90000 → 130 * j5 tt ≤ 600000 → j9.ok Tryz.prog (bL2 ars m pc vs bd tt))
    (m pc : Int) (vs : List Int) (bd : List c5) (hv : nv ≤ vs.length) (r1 : vs.length + 4 * (1 + K0 t) ≤ 90000) (r2 : j5 bd + 130 * (1 + K0 t) ≤ 600000) : j9.ok Tryz.prog (b57 ars m pc vs bd t) := by
  refine F9 116 Tryz.func152 [.row 3 (D.ints vs), dI ars, .row 106 (D.stmts bd), dE t.index.kids, dE t.value.kids, dT t.body, dT t.els] [(0, .agg [.ref 0, .ref 1, .v (.slice none 0 0), .ref 2]), (1, sA t 3), (2, iA m), (3, iA pc)] fun G => ?_
  have hsz : K0 t = z6 t.index + z6 t.value + j5 t.body + j5 t.els := by cases t; rfl
  have hsh := bC4 (vs := vs) hh k3 hv; have hbd := bW8 (pc := pc) (bd := bd) hh k3 hv r1 r2; refine wp_seq (j7 G f7 [0, 1, 2, 3, 4, 5, 6, 7, 15, 23] [.row 3 (D.ints vs), dI ars, .row 106 (D.stmts bd), dE t.index.kids, dE t.value.kids, dT t.body, dT t.els, .box [.ref 0, .ref 1, .v (.slice none 0 0), .ref 2], .box (sL t 3), T2] [(2, iA m), (3, iA pc), (4, .ptr 7 0), (5, .ptr 8 0), (8, .ptr 9 0)] fun G => b6 (wp_seq (k8 G (s6 4 [0, 1, 4] (j9.lend (aa0 vs ars t.value.kind t.value.value t.value.kids (by assumption)) [.row 3])) [(9, iA (E7 ars t vs))] fun G => b6 (wp_seq (j7 G f7 [0, 1, 2, 3, 4, 5, 6, 7, 8, 9, 18] [.row 3 (D.ints vs), dI ars, .row 106 (D.stmts bd), dE t.index.kids, dE t.value.kids, dT t.body, dT t.els, .box [.ref 0, .ref 1, .v (.slice none 0 0), .ref 2], .box (sL t 3), T2, .box [iA 0, iA 0, .v (.slice none 0 0)]] ((2, iA m) :: (V0 ars t pc vs [(10, .ptr 10 0)])) fun G => b6 (wp_seq (j7 G (s6 4 [0, 1, 2, 4] (a66 ars pc t.value vs bd (by assumption) (by omega) (by omega))) [0, 1, 2, 3, 4, 5, 6, 7, 8, 9, 10, 43, 44, 45] (S4 ars t [.box [.ref 11, .ref 1, .v (.slice none 0 0), .ref 12], .box (sL t 3), T2, .box [iA (d9 ars pc t.value (vs, bd)).snd.kind, iA (d9 ars pc t.value (vs, bd)).snd.value, .ref 13], .row 3 (D.ints (d9 ars pc t.value (vs, bd)).fst.fst), .row 106 (D.stmts (d9 ars pc t.value (vs, bd)).fst.snd), dE (d9 ars pc t.value (vs, bd)).snd.kids]) ((2, iA m) :: (V0 ars t pc vs [(10, .ptr 10 0)])) fun G => b6 (wp_seq (wp_seq (k8 G (s6 1 [] (J1 (i9 vs ars 5 (w6 t.value)))) [(31, .v (.bool !(f8 (E7 ars t vs) && decide (i9 vs ars 5 (w6 t.value) % 2 = 1))))] fun G => b6 ?_)))))))))); cases h0 : (!(f8 (i9 vs ars (5 : Nat) (w6 t.value)) && decide (i9 vs ars (5 : Nat) (w6 t.value) % (2 : Int) = 1)))
  ·
   have q0 : ((f8 (i9 vs ars 5 (w6 t.value))) = true) ∧ (i9 vs ars 5 (w6 t.value) % 2 = 1) := (fun hq => And.imp (fun hq => (hq)) (fun hq => of_decide_eq_true hq) (Bool.and_eq_true_iff.1 hq)) (Eq.mp (cj0 _) h0); refine rF G _ h0 (wp_skip (b6 (wp_seq (k8 G f7 [(13, iA 0), (14, iA 0)] fun G => b6 (wp_seq (j7 G (s6 4 [11, 1, 12] (al8 ((d9 ars pc t.value (vs, bd)).fst.fst) ars ((d9 ars pc t.value (vs, bd)).fst.snd) (l4 pc (i9 vs ars 5 (w6 t.value))) (by omega))) [0, 1, 2, 3, 4, 5, 6, 7, 8, 9, 10, 12, 13, 46] (S4 ars t (.box [.ref 13, .ref 1, .v (.slice none 0 0), .ref 11] :: (a83 ars t pc vs bd [.row 3 (D.ints ((d9 ars pc t.value (vs, bd)).fst.fst ++ [l4 pc (E7 ars t vs)]))]))) ((2, iA m) :: (V0 ars t pc vs [(10, .ptr 10 0), (13, iA ((d9 ars pc t.value (vs, bd)).fst.fst.length : Int)), (14, iA 0)])) fun G => b6 (wp_seq (af8 G (F5 (t5 4 [] (I9 0) (t5 5 [12, 46] (aj5 m ((d9 ars pc t.value (vs, bd)).snd.kind) ((d9 ars pc t.value (vs, bd)).snd.value) 1 0 ((d9 ars pc t.value (vs, bd)).snd.kids) ([])) (t5 6 [13, 1, 11, 54] (S9 ((d9 ars pc t.value (vs, bd)).fst.fst ++ [l4 pc (i9 vs ars 5 (w6 t.value))]) ars ((d9 ars pc t.value (vs, bd)).fst.snd) (((d9 ars pc t.value (vs, bd)).fst.fst.length : Int)) ((C1 m (w6 (d9 ars pc t.value (vs, bd)).snd) (c6.mk 1 0 [])).kind) ((C1 m (w6 (d9 ars pc t.value (vs, bd)).snd) (c6.mk 1 0 [])).value) ((C1 m (w6 (d9 ars pc t.value (vs, bd)).snd) (c6.mk 1 0 [])).kids) (by omega)) F4))) fz []) [0, 0, 0, 0, 0, 28, 63, 127] [0, 1, 2, 3, 4, 5, 6, 7, 8, 9, 13, 62] (S4 ars t [.box [.ref 10, .ref 1, .v (.slice none 0 0), .ref 11], .box (sL t 3), T2, .row 3 (D.ints ((d9 ars pc t.value (vs, bd)).fst.fst ++ [l4 pc (E7 ars t vs)])), .row 106 (D.stmts ((d9 ars pc t.value (vs, bd)).fst.snd ++ [V5 ((d9 ars pc t.value (vs, bd)).fst.fst.length : Int) (aR7 ars t m pc vs bd)]))]) ((2, iA m) :: (V0 ars t pc vs [(13, iA ((d9 ars pc t.value (vs, bd)).fst.fst.length : Int)), (14, iA 0)])) fun G => b6 (wp_seq (j7 G (s6 4 [10, 1, 11] (al8 ((d9 ars pc t.value (vs, bd)).fst.fst ++ [l4 pc (i9 vs ars 5 (w6 t.value))]) ars ((d9 ars pc t.value (vs, bd)).fst.snd ++ [V5 ((d9 ars pc t.value (vs, bd)).fst.fst.length : Int) (w6 (C1 m (c6.mk (d9 ars pc t.value (vs, bd)).snd.kind (d9 ars pc t.value (vs, bd)).snd.value (d9 ars pc t.value (vs, bd)).snd.kids) (c6.mk 1 0 [])))]) (l4 pc (i9 vs ars 5 (w6 t.value))) (by simp only [cg9, ch2, ch6]; omega))) [0, 1, 2, 3, 4, 5, 6, 7, 8, 9, 11, 44] (S4 ars t [.box [.ref 11, .ref 1, .v (.slice none 0 0), .ref 10], .box (sL t 3), T2, .row 106 (D.stmts ((d9 ars pc t.value (vs, bd)).fst.snd ++ [V5 ((d9 ars pc t.value (vs, bd)).fst.fst.length : Int) (aR7 ars t m pc vs bd)])), .row 3 (D.ints ((d9 ars pc t.value (vs, bd)).fst.fst ++ [l4 pc (E7 ars t vs)] ++ [l4 pc (E7 ars t vs)]))]) ((2, iA m) :: (V0 ars t pc vs [(13, iA ((d9 ars pc t.value (vs, bd)).fst.fst.length : Int)), (14, iA (((d9 ars pc t.value (vs, bd)).fst.fst ++ [l4 pc (E7 ars t vs)]).length : Int))])) fun G => ?_))))))))))
   refine b6 (wp_seq (af8 G (F5 (t5 4 [] (al7 (((d9 ars pc t.value (vs, bd)).fst.fst.length : Int))) (t5 5 [] (I9 0) (t5 7 [60] (ac9 9 ([c6.mk 2 ((d9 ars pc t.value (vs, bd)).fst.fst.length : Int) []] ++ ([c6.mk 1 0 []] ++ []))) (t5 8 [] (I9 0) (t5 9 [60, 76] (aj5 m 9 0 1 0 ([c6.mk 2 ((d9 ars pc t.value (vs, bd)).fst.fst.length : Int) []] ++ ([c6.mk 1 0 []] ++ [])) ([])) (t5 10 [11, 1, 10, 84] (S9 ((d9 ars pc t.value (vs, bd)).fst.fst ++ [l4 pc (i9 vs ars 5 (w6 t.value))] ++ [l4 pc (i9 vs ars 5 (w6 t.value))]) ars ((d9 ars pc t.value (vs, bd)).fst.snd ++ [V5 ((d9 ars pc t.value (vs, bd)).fst.fst.length : Int) (w6 (C1 m (c6.mk (d9 ars pc t.value (vs, bd)).snd.kind (d9 ars pc t.value (vs, bd)).snd.value (d9 ars pc t.value (vs, bd)).snd.kids) (c6.mk 1 0 [])))]) ((((d9 ars pc t.value (vs, bd)).fst.fst ++ [l4 pc (i9 vs ars 5 (w6 t.value))]).length : Int)) ((C1 m (c6.mk 9 0 ([c6.mk 2 ((d9 ars pc t.value (vs, bd)).fst.fst.length : Int) []] ++ ([c6.mk 1 0 []] ++ []))) (c6.mk 1 0 [])).kind) ((C1 m (c6.mk 9 0 ([c6.mk 2 ((d9 ars pc t.value (vs, bd)).fst.fst.length : Int) []] ++ ([c6.mk 1 0 []] ++ []))) (c6.mk 1 0 [])).value) ((C1 m (c6.mk 9 0 ([c6.mk 2 ((d9 ars pc t.value (vs, bd)).fst.fst.length : Int) []] ++ ([c6.mk 1 0 []] ++ []))) (c6.mk 1 0 [])).kids) (by simp only [cg9, ch2, ch6]; omega)) F4)))))) fz []) [0, 0, 0, 0, 8, 24, 56, 120, 248, 508, 1023, 2047] [0, 1, 2, 3, 4, 5, 6, 7, 8, 9, 11, 92] (S4 ars t [.box [.ref 10, .ref 1, .v (.slice none 0 0), .ref 11], .box (sL t 3), T2, .row 3 (D.ints ((d9 ars pc t.value (vs, bd)).fst.fst ++ [l4 pc (E7 ars t vs)] ++ [l4 pc (E7 ars t vs)])), .row 106 (D.stmts ((d9 ars pc t.value (vs, bd)).fst.snd ++ [V5 ((d9 ars pc t.value (vs, bd)).fst.fst.length : Int) (aR7 ars t m pc vs bd)] ++ [V5 (((d9 ars pc t.value (vs, bd)).fst.fst ++ [l4 pc (E7 ars t vs)]).length : Int) (w6 (C1 m (c6.mk 9 0 ([c6.mk 2 ((d9 ars pc t.value (vs, bd)).fst.fst.length : Int) []] ++ ([c6.mk 1 0 []] ++ []))) (c6.mk 1 0 [])))]))]) (V0 ars t pc vs [(13, iA ((d9 ars pc t.value (vs, bd)).fst.fst.length : Int)), (14, iA (((d9 ars pc t.value (vs, bd)).fst.fst ++ [l4 pc (E7 ars t vs)]).length : Int))]) fun G => b6 (wp_seq (j7 G (s6 7 [10, 1, 5, 11] (hB t.body (((d9 ars pc t.value (vs, bd)).fst.fst.length : Int)) (l4 pc (i9 vs ars 5 (w6 t.value))) ((d9 ars pc t.value (vs, bd)).fst.fst ++ [l4 pc (i9 vs ars 5 (w6 t.value))] ++ [l4 pc (i9 vs ars 5 (w6 t.value))]) ((d9 ars pc t.value (vs, bd)).fst.snd ++ [V5 ((d9 ars pc t.value (vs, bd)).fst.fst.length : Int) (w6 (C1 m (c6.mk (d9 ars pc t.value (vs, bd)).snd.kind (d9 ars pc t.value (vs, bd)).snd.value (d9 ars pc t.value (vs, bd)).snd.kids) (c6.mk 1 0 [])))] ++ [V5 (((d9 ars pc t.value (vs, bd)).fst.fst ++ [l4 pc (i9 vs ars 5 (w6 t.value))]).length : Int) (w6 (C1 m (c6.mk 9 0 ([c6.mk 2 ((d9 ars pc t.value (vs, bd)).fst.fst.length : Int) []] ++ ([c6.mk 1 0 []] ++ []))) (c6.mk 1 0 [])))]) (by assumption) (by simp only [cg9, ch2, ch6]; omega) (by simp only [cg9, ch2, ch6]; omega) (b62 hh k3 hv r1 r2))) [0, 1, 2, 3, 4, 5, 6, 7, 8, 9, 68, 69] (S4 ars t [.box [.ref 10, .ref 1, .v (.slice none 0 0), .ref 11], .box (sL t 3), T2, .row 3 (D.ints (aD5 ars t m pc vs bd).fst), .row 106 (D.stmts (aD5 ars t m pc vs bd).snd)]) (V0 ars t pc vs [(14, iA (((d9 ars pc t.value (vs, bd)).fst.fst ++ [l4 pc (E7 ars t vs)]).length : Int))]) fun G => ?_))))
   refine b6 (wp_seq (j7 G (s6 7 [10, 1, 6, 11] (hB t.els ((((d9 ars pc t.value (vs, bd)).fst.fst ++ [l4 pc (i9 vs ars 5 (w6 t.value))]).length : Int)) (l4 pc (i9 vs ars 5 (w6 t.value))) ((m6 ars t.body ((d9 ars pc t.value (vs, bd)).fst.fst.length : Int) (l4 pc (i9 vs ars 5 (w6 t.value))) ((d9 ars pc t.value (vs, bd)).fst.fst ++ [l4 pc (i9 vs ars 5 (w6 t.value))] ++ [l4 pc (i9 vs ars 5 (w6 t.value))], (d9 ars pc t.value (vs, bd)).fst.snd ++ [V5 ((d9 ars pc t.value (vs, bd)).fst.fst.length : Int) (w6 (C1 m (c6.mk (d9 ars pc t.value (vs, bd)).snd.kind (d9 ars pc t.value (vs, bd)).snd.value (d9 ars pc t.value (vs, bd)).snd.kids) (c6.mk 1 0 [])))] ++ [V5 (((d9 ars pc t.value (vs, bd)).fst.fst ++ [l4 pc (i9 vs ars 5 (w6 t.value))]).length : Int) (w6 (C1 m (c6.mk 9 0 ([c6.mk 2 ((d9 ars pc t.value (vs, bd)).fst.fst.length : Int) []] ++ ([c6.mk 1 0 []] ++ []))) (c6.mk 1 0 [])))])).fst) ((m6 ars t.body ((d9 ars pc t.value (vs, bd)).fst.fst.length : Int) (l4 pc (i9 vs ars 5 (w6 t.value))) ((d9 ars pc t.value (vs, bd)).fst.fst ++ [l4 pc (i9 vs ars 5 (w6 t.value))] ++ [l4 pc (i9 vs ars 5 (w6 t.value))], (d9 ars pc t.value (vs, bd)).fst.snd ++ [V5 ((d9 ars pc t.value (vs, bd)).fst.fst.length : Int) (w6 (C1 m (c6.mk (d9 ars pc t.value (vs, bd)).snd.kind (d9 ars pc t.value (vs, bd)).snd.value (d9 ars pc t.value (vs, bd)).snd.kids) (c6.mk 1 0 [])))] ++ [V5 (((d9 ars pc t.value (vs, bd)).fst.fst ++ [l4 pc (i9 vs ars 5 (w6 t.value))]).length : Int) (w6 (C1 m (c6.mk 9 0 ([c6.mk 2 ((d9 ars pc t.value (vs, bd)).fst.fst.length : Int) []] ++ ([c6.mk 1 0 []] ++ []))) (c6.mk 1 0 [])))])).snd) (by assumption) ((bW7 hbb hh k3 hv r1 r2).1) ((bW7 hbb hh k3 hv r1 r2).2.1) ((bW7 hbb hh k3 hv r1 r2).2.2))) [0, 1, 2, 3, 4, 5, 6, 9, 68, 69] (S4 ars t [.box [.ref 8, .ref 1, .v (.slice none 0 0), .ref 9], .row 3 (D.ints (m6 ars t.els (((d9 ars pc t.value (vs, bd)).fst.fst ++ [l4 pc (E7 ars t vs)]).length : Int) (l4 pc (E7 ars t vs)) (aD5 ars t m pc vs bd)).fst), .row 106 (D.stmts (m6 ars t.els (((d9 ars pc t.value (vs, bd)).fst.fst ++ [l4 pc (E7 ars t vs)]).length : Int) (l4 pc (E7 ars t vs)) (aD5 ars t m pc vs bd)).snd)]) [(8, .ptr 7 0)] fun G => ?_))
   refine b6 (wp_ret ?_); exact M4 G [0, 1, 2, 3, 4, 5, 6, 8, 9] (by show _ = mR [0, 1, 2, 3, 4, 5, 6, 8, 9] [.dead, dI ars, .dead, dE t.index.kids, dE t.value.kids, dT t.body, dT t.els, .row 3 (D.ints (G9 ars t m pc (vs, bd)).fst), .row 106 (D.stmts (G9 ars t m pc (vs, bd)).snd)]; have e1 : ((G9 ars t m pc (vs, bd)).fst : List Int) = ((m6 ars t.els (((d9 ars pc t.value (vs, bd)).fst.fst ++ [l4 pc (i9 vs ars 5 (w6 t.value))]).length : Int) (l4 pc (i9 vs ars 5 (w6 t.value))) (m6 ars t.body ((d9 ars pc t.value (vs, bd)).fst.fst.length : Int) (l4 pc (i9 vs ars 5 (w6 t.value))) ((d9 ars pc t.value (vs, bd)).fst.fst ++ [l4 pc (i9 vs ars 5 (w6 t.value))] ++ [l4 pc (i9 vs ars 5 (w6 t.value))], (d9 ars pc t.value (vs, bd)).fst.snd ++ [V5 ((d9 ars pc t.value (vs, bd)).fst.fst.length : Int) (w6 (C1 m (c6.mk (d9 ars pc t.value (vs, bd)).snd.kind (d9 ars pc t.value (vs, bd)).snd.value (d9 ars pc t.value (vs, bd)).snd.kids) (c6.mk 1 0 [])))] ++ [V5 (((d9 ars pc t.value (vs, bd)).fst.fst ++ [l4 pc (i9 vs ars 5 (w6 t.value))]).length : Int) (w6 (C1 m (c6.mk 9 0 ([c6.mk 2 ((d9 ars pc t.value (vs, bd)).fst.fst.length : Int) []] ++ ([c6.mk 1 0 []] ++ []))) (c6.mk 1 0 [])))]))).fst) := (b65 k3 (by with_reducible assumption)); have e2 : ((G9 ars t m pc (vs, bd)).snd : List c5) = ((m6 ars t.els (((d9 ars pc t.value (vs, bd)).fst.fst ++ [l4 pc (E7 ars t vs)]).length : Int) (l4 pc (E7 ars t vs)) (aD5 ars t m pc vs bd)).snd) := (congrArg Prod.snd (b66 k3 (by with_reducible assumption))); (first | rw [e1, e2] | simp only [e1, e2]) <;> rfl)
  ·
   have q0 : ((f8 (i9 vs ars 5 (w6 t.value))) = false) ∨ (¬ (i9 vs ars 5 (w6 t.value) % 2 = 1)) := (fun hq => Or.imp (fun hq => (hq)) (fun hq => of_decide_eq_false hq) (Bool.and_eq_false_iff.1 hq)) (Eq.mp (ci3 _) h0); refine rT G _ h0 (wp_seq (j7 G f7 [0, 1, 2, 3, 4, 5, 6, 7, 8, 9, 10, 11, 12, 13, 14, 22] (S4 ars t [.box [.ref 11, .ref 1, .v (.slice none 0 0), .ref 12], .box (sL t 3), T2, .box [iA (d9 ars pc t.value (vs, bd)).snd.kind, iA (d9 ars pc t.value (vs, bd)).snd.value, .ref 13], .row 3 (D.ints (d9 ars pc t.value (vs, bd)).fst.fst), .row 106 (D.stmts (d9 ars pc t.value (vs, bd)).fst.snd), dE (d9 ars pc t.value (vs, bd)).snd.kids, .tree (D.stmts []), .tree (D.stmts [])]) ((2, iA m) :: (V0 ars t pc vs [(10, .ptr 10 0), (11, .tref 14), (12, .tref 15)])) fun G => b6 (wp_seq (j7 G (s6 7 [11, 1, 12, 5] (hI t.body m (l4 pc (i9 vs ars 5 (w6 t.value))) ((d9 ars pc t.value (vs, bd)).fst.fst) ((d9 ars pc t.value (vs, bd)).fst.snd) (by assumption) (by omega) (by omega) (by omega))) [0, 1, 2, 3, 4, 5, 6, 7, 8, 9, 10, 12, 13, 15, 72, 73] (S4 ars t (.box [.ref 14, .ref 1, .v (.slice none 0 0), .ref 11] :: (a83 ars t pc vs bd [.tree (D.stmts []), .row 3 (D.ints (ao1 ars t m pc vs bd).fst), dT (ao1 ars t m pc vs bd).snd]))) ((2, iA m) :: (V0 ars t pc vs [(10, .ptr 10 0), (11, .ref 15), (12, .tref 13)])) fun G => b6 (wp_seq (j7 G (s6 7 [14, 1, 11, 6] (hI t.els m (l4 pc (i9 vs ars 5 (w6 t.value))) ((m6 ars t.body m (l4 pc (i9 vs ars 5 (w6 t.value))) ((d9 ars pc t.value (vs, bd)).fst.fst, [])).fst) ((d9 ars pc t.value (vs, bd)).fst.snd) (by assumption) ((b64 hbb hh k3 hv r1 r2).1) ((b64 hbb hh k3 hv r1 r2).2) (by omega))) [0, 1, 2, 3, 4, 5, 6, 7, 8, 9, 10, 11, 12, 15, 72, 73] (S4 ars t (.box [.ref 14, .ref 1, .v (.slice none 0 0), .ref 11] :: (a83 ars t pc vs bd [dT (ao1 ars t m pc vs bd).snd, .row 3 (D.ints (ao0 ars t m pc vs bd).fst), dT (ao0 ars t m pc vs bd).snd]))) ((2, iA m) :: (V0 ars t pc vs [(10, .ptr 10 0), (11, .ref 13), (12, .ref 15)])) fun G => b6 (wp_seq (N4 G f7 [0, 1, 2, 3, 4, 5, 6, 7, 8, 9, 10, 12, 14, 72] (S4 ars t [.box [.ref 12, .ref 1, .v (.slice none 0 0), .ref 13], .box (sL t 3), T2, .box [iA (d9 ars pc t.value (vs, bd)).snd.kind, iA (d9 ars pc t.value (vs, bd)).snd.value, .ref 11], dE (d9 ars pc t.value (vs, bd)).snd.kids, .row 3 (D.ints (ao0 ars t m pc vs bd).fst), .row 106 (D.stmts ((d9 ars pc t.value (vs, bd)).fst.snd ++ ([c5.mk 3 0 (c6.mk 0 0 []) (aR6 ars t pc vs bd) 0 (ao1 ars t m pc vs bd).snd (ao0 ars t m pc vs bd).snd] ++ [])))]) ((2, iA m) :: (V0 ars t pc vs [(10, .ptr 10 0)])) (aP ((d9 ars pc t.value (vs, bd)).fst.snd.length + 1) 152 []) (aK (by omega) ch8) fun G => ?_))))))))
   refine b6 (wp_seq (j7 G f7 (rg 14) (S4 ars t [.box [.ref 12, .ref 1, .v (.slice none 0 0), .ref 13], .box (sL t 3), .box [.ref 12, .ref 1, .v (.slice none 0 0), .ref 13], .box [iA (d9 ars pc t.value (vs, bd)).snd.kind, iA (d9 ars pc t.value (vs, bd)).snd.value, .ref 11], dE (d9 ars pc t.value (vs, bd)).snd.kids, .row 3 (D.ints (ao0 ars t m pc vs bd).fst), .row 106 (D.stmts ((d9 ars pc t.value (vs, bd)).fst.snd ++ ([c5.mk 3 0 (c6.mk 0 0 []) (aR6 ars t pc vs bd) 0 (ao1 ars t m pc vs bd).snd (ao0 ars t m pc vs bd).snd] ++ [])))]) ((2, iA m) :: (V0 ars t pc vs [(10, .ptr 10 0)])) fun G => b6 (wp_ret (l5 ?_)))); exact M4 G [0, 1, 2, 3, 4, 5, 6, 12, 13] (by show _ = mR [0, 1, 2, 3, 4, 5, 6, 12, 13] (S4 ars t [.row 3 (D.ints (G9 ars t m pc (vs, bd)).fst), .row 106 (D.stmts (G9 ars t m pc (vs, bd)).snd)]); have e1 : ((G9 ars t m pc (vs, bd)).fst : List Int) = ((m6 ars t.els m (l4 pc (i9 vs ars 5 (w6 t.value))) ((m6 ars t.body m (l4 pc (i9 vs ars 5 (w6 t.value))) ((d9 ars pc t.value (vs, bd)).fst.fst, [])).fst, [])).fst) := (b67 k3 (by with_reducible assumption)); have e2 : ((G9 ars t m pc (vs, bd)).snd : List c5) = ((d9 ars pc t.value (vs, bd)).fst.snd ++ ([c5.mk 3 0 (c6.mk 0 0 []) (aR6 ars t pc vs bd) 0 (ao1 ars t m pc vs bd).snd (ao0 ars t m pc vs bd).snd] ++ [])) := (congrArg Prod.snd (b68 k3 (by with_reducible assumption))); (first | rw [e1, e2] | simp only [e1, e2]) <;> rfl)
abbrev xB (ars : List Int) (m pc : Int) (vs : List Int) (bd : List c5) (ss : List c5) (k : Nat) : LnS := m6 ars (ss.take k) m pc (vs, bd)
theorem bH4 {ss : List c5} {k : Nat} (hk : k < ss.length) : j5 (ss.take k) + (1 + K0 (ss.getD k cg3)) ≤ j5 ss := by
 have h1 := w5 (ss.take (k + 1)) (ss.drop (k + 1))
 rw [List.take_append_drop, m8 _ _ hk, w5, ← m5 (d := cg3) hk] at h1
 simp only [j5] at h1
 omega
section
variable {ars vs : List Int} {bd : List c5} {m pc : Int} {ss : List c5} {nv d k : Nat}
theorem b03 (hs : ss.all (j6 nv ars.length d) = true) (hv : nv ≤ vs.length) : GrS (j5 (ss.take k)) (vs, bd) (xB ars m pc vs bd ss k) :=
 aV9 ars (ss.take k) m pc (vs, bd) (ch3.2 fun x hx => ch3.1 hs x (List.mem_of_mem_take hx)) hv
theorem aL7 (hs : ss.all (j6 nv ars.length d) = true) (hv : nv ≤ vs.length) (r1 : vs.length + 4 * j5 ss ≤ 90000) (r2 : j5 bd + 130 * j5 ss ≤ 600000) (hk : k < ss.length) : nv ≤ (xB ars m pc vs bd ss k).1.length ∧ (xB ars m pc vs bd ss k).1.length + 4 * (1 + K0 (ss.getD k cg3)) ≤ 90000 ∧ j5 (xB ars m pc vs bd ss k).2 + 130 * (1 + K0 (ss.getD k cg3)) ≤ 600000 := by
 have g := b03 (bd := bd) (m := m) (pc := pc) (k := k) hs hv
 have h1 := bH4 hk
 have a := g.lo; have b := g.hi; have c := g.st
 simp only at a b c
 omega
abbrev yB (ars : List Int) (m pc : Int) (vs : List Int) (bd : List c5) (ss : List c5) (k : Nat) : LnS × c6 := d9 ars pc (ss.getD k cg3).value ((xB ars m pc vs bd ss k).1, (xB ars m pc vs bd ss k).2)
theorem aY4 (hs : ss.all (j6 nv ars.length (d + 1)) = true) (hv : nv ≤ vs.length) (r1 : vs.length + 4 * j5 ss ≤ 90000) (r2 : j5 bd + 130 * j5 ss ≤ 600000) (hk : k < ss.length) (h4 : ¬ (ss.getD k cg3).kind = 4) :
  i5 (xB ars m pc vs bd ss k).1.length ars.length 5 (ss.getD k cg3).value = true ∧ (xB ars m pc vs bd ss k).1.length + (1 + z6 (ss.getD k cg3).value) ≤ 100000 ∧ j5 (xB ars m pc vs bd ss k).2 + 40 * (1 + z6 (ss.getD k cg3).value) ≤ 700000 ∧
  nv ≤ (yB ars m pc vs bd ss k).1.1.length ∧ (yB ars m pc vs bd ss k).1.1.length ≤ 100000 ∧ (yB ars m pc vs bd ss k).1.2.length + 10 ≤ 700000 ∧ i5 (yB ars m pc vs bd ss k).1.1.length ars.length 5 (yB ars m pc vs bd ss k).2 = true := by
 have hb := aL7 (m := m) (pc := pc) hs hv r1 r2 hk
 have hh := (aJ5 hs hk).1
 have hsz : K0 (ss.getD k cg3) = z6 (ss.getD k cg3).index + z6 (ss.getD k cg3).value + j5 (ss.getD k cg3).body + j5 (ss.getD k cg3).els := by
  generalize ss.getD k cg3 = s; cases s; rfl
 have hsh := E8 (na := ars.length) hb.1 5 _ (z8 hh h4)
 obtain ⟨g, g2, -⟩ := ak7 ars pc ars.length 5 (ss.getD k cg3).value (xB ars m pc vs bd ss k) hsh
 have a : (xB ars m pc vs bd ss k).1.length ≤ (yB ars m pc vs bd ss k).1.1.length := g.lo
 have b : (yB ars m pc vs bd ss k).1.1.length ≤ (xB ars m pc vs bd ss k).1.length + (1 + z6 (ss.getD k cg3).value) := g.hi
 have c : j5 (yB ars m pc vs bd ss k).1.2 ≤ j5 (xB ars m pc vs bd ss k).2 + 40 * (1 + z6 (ss.getD k cg3).value) := g.st
 have h5 := K8 (yB ars m pc vs bd ss k).1.2
 exact ⟨hsh, by omega, by omega, by omega, by omega, by omega, g2⟩
theorem bt9 (hs : ss.all (j6 nv ars.length (d + 1)) = true) (hk : k < ss.length) (h2 : (ss.getD k cg3).kind = 2) {n : Nat} (hn : nv ≤ n) : i5 n ars.length 5 (ss.getD k cg3).index = true ∧ z6 (ss.getD k cg3).index ≤ 1048576 := by
 obtain ⟨q1, -, q3⟩ := aI6 (aJ5 hs hk).1 h2
 exact ⟨E8 hn 5 _ q3, by rw [aB9 q1]; omega⟩
theorem aE2 (hk : k < ss.length) : xB ars m pc vs bd ss (k + 1) = G9 ars (ss.getD k cg3) m pc (xB ars m pc vs bd ss k) := bq6 hk
theorem ah3 (s : c5) : j5 s.body ≤ K0 s ∧ j5 s.els ≤ K0 s ∧ z6 s.value ≤ K0 s := by
 cases s; simp only [K0, c5.body, c5.els, c5.value]; omega
abbrev sK (ss : List c5) (k : Nat) : c5 := ss.getD k cg3
theorem aD3 (hs : ss.all (j6 nv ars.length (d + 1)) = true) (hk : k < ss.length) (h3 : ¬ (sK ss k).kind = 3) (h4 : ¬ (sK ss k).kind = 4) (h5 : ¬ (sK ss k).kind = 5) (h1 : ¬ (sK ss k).kind = 1) : (sK ss k).kind = 2 := by
 by_cases h2 : (sK ss k).kind = 2
 ·exact h2
 ·have hh := (aJ5 hs hk).1
  rw [an3 ⟨h1, h2, h3, h4, h5⟩] at hh; cases hh
theorem b07 (hk : k < ss.length) (h4 : (sK ss k).kind = 4) : xB ars m pc vs bd ss (k + 1) = ((m6 ars (sK ss k).body m pc ((xB ars m pc vs bd ss k).1, [])).1, (xB ars m pc vs bd ss k).2 ++ [⟨4, 0, ⟨0, 0, []⟩, ⟨0, 0, []⟩, (sK ss k).count, (m6 ars (sK ss k).body m pc ((xB ars m pc vs bd ss k).1, [])).2, []⟩]) := (aE2 hk).trans (ln4 h4)
theorem b05 (hk : k < ss.length) (h5 : (sK ss k).kind = 5) : xB ars m pc vs bd ss (k + 1) = ((yB ars m pc vs bd ss k).1.1, (yB ars m pc vs bd ss k).1.2 ++ [⟨5, (sK ss k).target, ⟨0, 0, []⟩, etE (yB ars m pc vs bd ss k).2, 0, [], []⟩]) := by
 rw [show etE (yB ars m pc vs bd ss k).2 = (yB ars m pc vs bd ss k).2 from c6.eta _]
 exact (aE2 hk).trans (ln5 h5)
theorem b10 (hk : k < ss.length) (h1 : (sK ss k).kind = 1) : xB ars m pc vs bd ss (k + 1) = ((yB ars m pc vs bd ss k).1.1, (yB ars m pc vs bd ss k).1.2 ++ [V5 (sK ss k).target (etE (C1 m (etE (yB ars m pc vs bd ss k).2) ⟨2, (sK ss k).target, []⟩))]) := by
 rw [show etE (yB ars m pc vs bd ss k).2 = (yB ars m pc vs bd ss k).2 from c6.eta _, show ∀ e, etE e = e from c6.eta]
 exact (aE2 hk).trans (ln1 h1)
theorem bP4 (hk : k < ss.length) (h2 : (sK ss k).kind = 2) (h : (f8 (i9 (yB ars m pc vs bd ss k).1.1 ars 5 (etE (sK ss k).index)) && decide (i9 (yB ars m pc vs bd ss k).1.1 ars 5 (etE (sK ss k).index) % 2 = 1)) = false) : xB ars m pc vs bd ss (k + 1) = ((yB ars m pc vs bd ss k).1.1, (yB ars m pc vs bd ss k).1.2 ++ [⟨2, (sK ss k).target, etE (sK ss k).index, etE (C1 m (etE (yB ars m pc vs bd ss k).2) ⟨3, (sK ss k).target, [etE (sK ss k).index]⟩), 0, [], []⟩]) := by
 simp only [show ∀ e, etE e = e from c6.eta] at h ⊢
 exact (aE2 hk).trans (b56 h2 h)
theorem bP3 (hk : k < ss.length) (h2 : (sK ss k).kind = 2) (h : (f8 (i9 (yB ars m pc vs bd ss k).1.1 ars 5 (etE (sK ss k).index)) && decide (i9 (yB ars m pc vs bd ss k).1.1 ars 5 (etE (sK ss k).index) % 2 = 1)) = true) : xB ars m pc vs bd ss (k + 1) = ((yB ars m pc vs bd ss k).1.1 ++ [l4 (i9 (yB ars m pc vs bd ss k).1.1 ars 5 (etE (yB ars m pc vs bd ss k).2)) pc], (yB ars m pc vs bd ss k).1.2 ++ [V5 ((yB ars m pc vs bd ss k).1.1.length : Int) (etE (yB ars m pc vs bd ss k).2)] ++ stL ((yB ars m pc vs bd ss k).1.1.length : Int) (sK ss k).target (etE (sK ss k).index) m 4) := by
 simp only [show ∀ e, etE e = e from c6.eta] at h ⊢
 exact (aE2 hk).trans (b55 h2 h)
theorem b06 (hk : k < ss.length) (h4 : (sK ss k).kind = 4) : (xB ars m pc vs bd ss (k + 1)).1 = (m6 ars (sK ss k).body m pc ((xB ars m pc vs bd ss k).1, [])).1 := by rw [b07 hk h4]
theorem b04 (hk : k < ss.length) (h5 : (sK ss k).kind = 5) : (xB ars m pc vs bd ss (k + 1)).1 = (yB ars m pc vs bd ss k).1.1 := by rw [b05 hk h5]
theorem b09 (hk : k < ss.length) (h1 : (sK ss k).kind = 1) : (xB ars m pc vs bd ss (k + 1)).1 = (yB ars m pc vs bd ss k).1.1 := by rw [b10 hk h1]
theorem b08 (hk : k < ss.length) (h2 : (sK ss k).kind = 2) (h : (f8 (i9 (yB ars m pc vs bd ss k).1.1 ars 5 (etE (sK ss k).index)) && decide (i9 (yB ars m pc vs bd ss k).1.1 ars 5 (etE (sK ss k).index) % 2 = 1)) = false) : (xB ars m pc vs bd ss (k + 1)).1 = (yB ars m pc vs bd ss k).1.1 := by rw [bP4 hk h2 h]
theorem bu5 (hk : ss.length ≤ k) : m6 ars ss m pc (vs, bd) = xB ars m pc vs bd ss k := by unfold xB; rw [ch9 hk]
end
abbrev X1 (ars : List Int) (ss : List c5) (m : Int) (pc : Int) (vs : List Int) (bd : List c5) (k : Nat) := w6 (d9 ars pc (ss.getD k cg3).value (xB ars m pc vs bd ss k)).snd
abbrev y7 (ars : List Int) (ss : List c5) (m : Int) (pc : Int) (vs : List Int) (bd : List c5) (k : Nat) := d9 ars pc (ss.getD k cg3).value (xB ars m pc vs bd ss k)
abbrev bg5 (ars : List Int) (ss : List c5) (m : Int) (pc : Int) (vs : List Int) (bd : List c5) (k : Nat) := C1 m (X1 ars ss m pc vs bd k) (c6.mk 3 (ss.getD k cg3).target [w6 (ss.getD k cg3).index])
abbrev ak0 (ss : List c5) (k : Nat) := w6 (ss.getD k cg3).index
abbrev N9 : It := .box [.v (.slice none 0 0), .v (.slice none 0 0), .v (.slice none 0 0), .v (.slice none 0 0)]
abbrev ad2 : It := .box [.ref 6, .ref 1, .v (.slice none 0 0), .ref 7]
abbrev J2 (m : Int) (pc : Int) (r0 : List (Nat × AV)) : List (Nat × AV) := (1, .ref 2) :: (2, iA m) :: (3, iA pc) :: (4, .ptr 4 0) :: (8, .ptr 5 0) :: r0
abbrev an7 (ss : List c5) (k : Nat) (r0 : List It) : List It := dE (ss.getD k cg3).index.kids :: dE (ss.getD k cg3).value.kids :: dT (ss.getD k cg3).body :: dT (ss.getD k cg3).els :: r0
abbrev aR1 (ars : List Int) (ss : List c5) (m : Int) (pc : Int) (vs : List Int) (bd : List c5) (k : Nat) (r0 : List It) : List It := .dead :: dI ars :: dT ss :: .dead :: ad2 :: N9 :: .row 3 (D.ints (xB ars m pc vs bd ss k).fst) :: .row 106 (D.stmts (xB ars m pc vs bd ss k).snd) :: r0
theorem aO9 (ars : List Int) (nv dd : Nat) (ss : List c5) (hs : ss.all (j6 nv ars.length (dd + 1)) = true)
    (hF : ∀ (t : c5), t.kind = 3 → D8 nv ars.length t = true → t.body.all (j6 nv ars.length dd) = true → t.els.all (j6 nv ars.length dd) = true → 0 < ss.length → ∀ (m pc : Int) (vs : List Int) (bd : List c5), nv ≤ vs.length → vs.length + 4 * (1 + K0 t) ≤ 90000 → j5 bd + 130 * (1 + K0 t) ≤ 600000 → j9.ok Tryz.prog (b57 ars m pc vs bd t))
    (hI : ∀ (tt : List c5) (m pc : Int) (vs : List Int) (bd : List c5), tt.all (j6 nv ars.length dd) = true → 0 < ss.length → nv ≤ vs.length → vs.length + 4 * j5 tt ≤ 90000 → 130 * j5 tt ≤ 600000 → j9.ok Tryz.prog (bL2 ars m pc vs bd tt))
    (m pc : Int) (vs : List Int) (bd : List c5) (hv : nv ≤ vs.length) (r1 : vs.length + 4 * j5 ss ≤ 90000) (r2 : j5 bd + 130 * j5 ss ≤ 600000) : j9.ok Tryz.prog (lbC ars m pc vs bd ss) := by
  have hcp := bN1; refine F9 123 Tryz.func79 [.row 3 (D.ints vs), dI ars, dT ss, .row 106 (D.stmts bd)] [(0, .agg [.ref 0, .ref 1, .v (.slice none 0 0), .ref 3]), (1, .ref 2), (2, iA m), (3, iA pc)] fun G => ?_; have hl := K8 ss; refine wp_seq (j7 G f7 [0, 1, 2, 3, 4, 12] [.row 3 (D.ints vs), dI ars, dT ss, .row 106 (D.stmts bd), .box [.ref 0, .ref 1, .v (.slice none 0 0), .ref 3], N9] (J2 m pc []) fun G => b6 (wp_seq (wp_seq (D7 G f7 (J2 m pc [(9, iA 0)]) fun G => b6 (wp_block ?_))))); obtain ⟨ρ, G⟩ := G.shift 0 6 [.dead, dI ars, dT ss, .row 106 (D.stmts bd), .box [.ref 6, .ref 1, .v (.slice none 0 0), .ref 3], .box [.v (.slice none 0 0), .v (.slice none 0 0), .v (.slice none 0 0), .v (.slice none 0 0)], .row 3 (D.ints vs)] (J2 m pc [(9, iA 0)]); obtain ⟨ρ, G⟩ := G.shift 3 7 [.dead, dI ars, dT ss, .dead, .box [.ref 6, .ref 1, .v (.slice none 0 0), .ref 7], .box [.v (.slice none 0 0), .v (.slice none 0 0), .v (.slice none 0 0), .v (.slice none 0 0)], .row 3 (D.ints vs), .row 106 (D.stmts bd)] (J2 m pc [(9, iA 0)]); refine s8 (κ := Nat) (fun k => k ≤ ss.length) (fun k => ss.length - k) (fun k => [.dead, dI ars, dT ss, .dead, .box [.ref 6, .ref 1, .v (.slice none 0 0), .ref 7], .box [.v (.slice none 0 0), .v (.slice none 0 0), .v (.slice none 0 0), .v (.slice none 0 0)], .row 3 (.ints (xB ars m pc vs bd ss k).1), .row 106 (.stmts (xB ars m pc vs bd ss k).2)]) (fun k => [(1, .ref 2), (2, iA m), (3, iA pc), (4, .ptr 4 0), (8, .ptr 5 0), (9, iA k)]) 0 (by omega) (t7.at G _ _) ?_; clear G; intro k ρ a w hp G; replace G := t7.at G (aR1 ars ss m pc vs bd k []) (J2 m pc [(9, iA k)]); refine wp_seq (wp_seq (k8 G f7 [(16, bA (decide ((k : Int) < ss.length)))] fun G => b6 (rcD G (fun h0 q0 => ?_) fun h0 q0 => ?_)))
  · refine wp_exit (s4 (s4 (r8 (b6 (wp_seq (j7 G f7 [0, 1, 2, 3, 5, 6, 7] [.dead, dI ars, dT ss, .dead, .box [.ref 5, .ref 1, .v (.slice none 0 0), .ref 6], .row 3 (D.ints (xB ars m pc vs bd ss k).fst), .row 106 (D.stmts (xB ars m pc vs bd ss k).snd)] [(8, .ptr 4 0)] fun G => b6 (wp_ret ?_))))))); exact M4 G [0, 1, 2, 3, 5, 6] (by show _ = mR [0, 1, 2, 3, 5, 6] [.dead, dI ars, dT ss, .dead, .row 3 (D.ints (m6 ars ss m pc (vs, bd)).fst), .row 106 (D.stmts (m6 ars ss m pc (vs, bd)).snd)]; have e1 : ((m6 ars ss m pc (vs, bd)).fst : List Int) = ((xB ars m pc vs bd ss k).fst) := (congrArg Prod.fst (bu5 (by omega))); have e2 : ((m6 ars ss m pc (vs, bd)).snd : List c5) = ((xB ars m pc vs bd ss k).snd) := (congrArg Prod.snd (bu5 (by omega))); (first | rw [e1, e2] | simp only [e1, e2]) <;> rfl)
  ·
   refine wp_skip (b6 (wp_seq (wp_block (wp_seq (N4 G f7 [0, 1, 2, 3, 4, 5, 6, 7, 32, 33, 34, 35, 40] (aR1 ars ss m pc vs bd k (an7 ss k [.box (sL (ss.getD k cg3) 8)])) (J2 m pc [(9, iA k), (10, .ptr 12 0)]) (iX k k ss.length []) (iK (by omega) ch8) fun G => b6 (wp_seq (wp_seq (k8 G f7 [(25, bA ((ss.getD k cg3).kind == 3))] fun G => b6 (J4 G (fun h1 q1 => ?_) fun h1 q1 => ?_)))))))))
   ·
    refine wp_skip (b6 (wp_seq (wp_seq (k8 G f7 [(33, bA ((ss.getD k cg3).kind == 4))] fun G => b6 (J4 G (fun h2 q2 => ?_) fun h2 q2 => ?_)))))
    ·
     refine wp_skip (b6 (wp_seq (j7 G f7 [0, 1, 2, 3, 4, 5, 6, 7, 8, 9, 10, 11, 12, 21] (aR1 ars ss m pc vs bd k (an7 ss k [.box (sL (ss.getD k cg3) 8), .box [iA 0, iA 0, .v (.slice none 0 0)]])) (J2 m pc [(9, iA k), (10, .ptr 12 0), (12, .ptr 13 0)]) fun G => b6 (wp_seq (j7 G (s6 4 [6, 1, 7, 9] (a66 ars pc ((ss.getD k cg3).value) ((xB ars m pc vs bd ss k).fst) ((xB ars m pc vs bd ss k).snd) ((aY4 hs hv r1 r2 (by omega) (by omega)).1) (by have h9 := aL7 (m := m) (pc := pc) hs hv r1 r2 (show k < ss.length by omega); have h8 := ah3 (ss.getD k cg3); omega) (by have h9 := aL7 (m := m) (pc := pc) hs hv r1 r2 (show k < ss.length by omega); have h8 := ah3 (ss.getD k cg3); omega))) [0, 1, 2, 3, 4, 5, 8, 9, 10, 11, 12, 13, 46, 47, 48] (.dead :: dI ars :: dT ss :: .dead :: .box [.ref 12, .ref 1, .v (.slice none 0 0), .ref 13] :: N9 :: (an7 ss k [.box (sL (ss.getD k cg3) 6), .box (eL (y7 ars ss m pc vs bd k).snd 14), .row 3 (D.ints (y7 ars ss m pc vs bd k).fst.fst), .row 106 (D.stmts (y7 ars ss m pc vs bd k).fst.snd), dE (y7 ars ss m pc vs bd k).snd.kids])) (J2 m pc [(9, iA k), (10, .ptr 10 0), (12, .ptr 11 0)]) fun G => b6 (wp_block (wp_seq (k8 G f7 [(82, bA ((ss.getD k cg3).kind == 5))] fun G => b6 (J4 G (fun h3 q3 => ?_) fun h3 q3 => ?_)))))))))
     ·
      refine wp_seq (k8 G f7 [(95, bA ((ss.getD k cg3).kind == 1))] fun G => b6 (J4 G (fun h4 q4 => ?_) fun h4 q4 => ?_))
      ·
       refine wp_seq (k8 G (F5 (t5 4 [12, 1, 6] (j9.lend (aa0 ((d9 ars pc (ss.getD k cg3).value (xB ars m pc vs bd ss k)).fst.fst) ars ((ss.getD k cg3).index.kind) ((ss.getD k cg3).index.value) ((ss.getD k cg3).index.kids) (by rw [c6.eta]; exact (bt9 hs (by omega) (aD3 hs (by omega) (by omega) (by omega) (by omega) (by omega)) (aY4 hs hv r1 r2 (by omega) (by omega)).2.2.2.1).1)) [.row 3]) (t5 5 [] (J1 (i9 (d9 ars pc (ss.getD k cg3).value (xB ars m pc vs bd ss k)).fst.fst ars 5 (w6 (ss.getD k cg3).index))) F4)) fz []) [(109, bA (f8 (i9 (y7 ars ss m pc vs bd k).fst.fst ars 5 (ak0 ss k)) && decide (i9 (y7 ars ss m pc vs bd k).fst.fst ars 5 (ak0 ss k) % 2 = 1)))] fun G => b6 ?_); cases h5 : (f8 (i9 (d9 ars pc (ss.getD k cg3).value (xB ars m pc vs bd ss k)).fst.fst ars (5 : Nat) (w6 (ss.getD k cg3).index)) && decide (i9 (d9 ars pc (ss.getD k cg3).value (xB ars m pc vs bd ss k)).fst.fst ars (5 : Nat) (w6 (ss.getD k cg3).index) % (2 : Int) = 1))
       ·
        have q5 : ((f8 (i9 (d9 ars pc (ss.getD k cg3).value (xB ars m pc vs bd ss k)).fst.fst ars 5 (w6 (ss.getD k cg3).index))) = false) ∨ (¬ (i9 (d9 ars pc (ss.getD k cg3).value (xB ars m pc vs bd ss k)).fst.fst ars 5 (w6 (ss.getD k cg3).index) % 2 = 1)) := Or.imp (fun hq => (hq)) (fun hq => of_decide_eq_false hq) (Bool.and_eq_false_iff.1 h5); refine rF G _ h5 (M5 G (F5 (t5 6 [6] (hcp ((ss.getD k cg3).index) ((bt9 hs (by omega) (aD3 hs (by omega) (by omega) (by omega) (by omega) (by omega)) (ch0 _)).2)) (t5 13 [6] (hcp ((ss.getD k cg3).index) ((bt9 hs (by omega) (aD3 hs (by omega) (by omega) (by omega) (by omega) (by omega)) (ch0 _)).2)) (t5 14 [119] (as9 ((ss.getD k cg3).target) ((ss.getD k cg3).index.kind) ((ss.getD k cg3).index.value) ((ss.getD k cg3).index.kids)) (t5 15 [14, 127] (aj5 m ((d9 ars pc (ss.getD k cg3).value (xB ars m pc vs bd ss k)).snd.kind) ((d9 ars pc (ss.getD k cg3).value (xB ars m pc vs bd ss k)).snd.value) 3 ((ss.getD k cg3).target) ((d9 ars pc (ss.getD k cg3).value (xB ars m pc vs bd ss k)).snd.kids) ([w6 (ss.getD k cg3).index])) F4)))) fz []) [0, 1, 0, 4, 0, 16, 48, 0, 0, 0, 512, 0, 2048, 6256, 15984, 32752, 65532, 131068, 262143, 524287, 1048575] [0, 1, 2, 3, 4, 5, 12, 159] [.dead, dI ars, dT ss, .dead, ad2, N9, .row 3 (D.ints (y7 ars ss m pc vs bd k).fst.fst), .row 106 (D.stmts ((y7 ars ss m pc vs bd k).fst.snd ++ ([c5.mk 2 (ss.getD k cg3).target (ak0 ss k) (w6 (bg5 ars ss m pc vs bd k)) 0 [] []] ++ [])))] (J2 m pc [(9, iA k)]) (aP ((d9 ars pc (ss.getD k cg3).value (xB ars m pc vs bd ss k)).fst.snd.length + ([c5.mk (2 : Int) (ss.getD k cg3).target (w6 (ss.getD k cg3).index) (w6 (C1 m (c6.mk (d9 ars pc (ss.getD k cg3).value (xB ars m pc vs bd ss k)).snd.kind (d9 ars pc (ss.getD k cg3).value (xB ars m pc vs bd ss k)).snd.value (d9 ars pc (ss.getD k cg3).value (xB ars m pc vs bd ss k)).snd.kids) (c6.mk (3 : Int) (ss.getD k cg3).target [c6.mk (ss.getD k cg3).index.kind (ss.getD k cg3).index.value (ss.getD k cg3).index.kids]))) (0 : Int) [] []] ++ []).length) 152 []) (aK (by have h9 : (d9 ars pc (ss.getD k cg3).value ((xB ars m pc vs bd ss k).1, (xB ars m pc vs bd ss k).2)).1.2.length + 10 ≤ 700000 := (aY4 (m := m) (pc := pc) hs hv r1 r2 (show k < ss.length by omega) (by omega)).2.2.2.2.2.1; have h7 : (d9 ars pc (ss.getD k cg3).value (xB ars m pc vs bd ss k)).1.2.length + 10 ≤ 700000 := h9; simp only [cg9, ch2, ch6]; omega) ch8) fun G => ?_)
        refine l0 (l0 (b6 (E1 G f7 [(9, iA ((k : Int) + 1))] [wO ((k : Int) + 1)] (o1 (by omega)) fun G => b6 ?_))); exact I6 G (k + 1) (by omega) (by omega) (rg 8) (by have e1 : ((xB ars m pc vs bd ss (k + 1)).fst : List Int) = ((d9 ars pc (ss.getD k cg3).value (xB ars m pc vs bd ss k)).fst.fst) := (b08 (by omega) (aD3 hs (by omega) (by omega) (by omega) (by omega) (by omega)) (by with_reducible assumption)); have e2 : ((xB ars m pc vs bd ss (k + 1)).snd : List c5) = ((y7 ars ss m pc vs bd k).fst.snd ++ ([c5.mk 2 (ss.getD k cg3).target (ak0 ss k) (w6 (bg5 ars ss m pc vs bd k)) 0 [] []] ++ [])) := (congrArg Prod.snd (bP4 (by omega) (aD3 hs (by omega) (by omega) (by omega) (by omega) (by omega)) (by with_reducible assumption))); (first | rw [e1, e2] | simp only [e1, e2]) <;> rfl)
       · have q5 : ((f8 (i9 (d9 ars pc (ss.getD k cg3).value (xB ars m pc vs bd ss k)).fst.fst ars 5 (w6 (ss.getD k cg3).index))) = true) ∧ (i9 (d9 ars pc (ss.getD k cg3).value (xB ars m pc vs bd ss k)).fst.fst ars 5 (w6 (ss.getD k cg3).index) % 2 = 1) := And.imp (fun hq => (hq)) (fun hq => of_decide_eq_true hq) (Bool.and_eq_true_iff.1 h5); refine rT G _ h5 (j7 G (s6 5 [12, 1, 13, 6, 7, 8, 9, 14] (bs0 ars ((d9 ars pc (ss.getD k cg3).value (xB ars m pc vs bd ss k)).fst.fst) ((d9 ars pc (ss.getD k cg3).value (xB ars m pc vs bd ss k)).fst.snd) m pc (ss.getD k cg3) ((d9 ars pc (ss.getD k cg3).value (xB ars m pc vs bd ss k)).snd) (by rw [c6.eta]; exact (aY4 hs hv r1 r2 (by omega) (by omega)).2.2.2.2.2.2) ((aY4 hs hv r1 r2 (by omega) (by omega)).2.2.2.2.1) (by have h9 : (d9 ars pc (ss.getD k cg3).value ((xB ars m pc vs bd ss k).1, (xB ars m pc vs bd ss k).2)).1.2.length + 10 ≤ 700000 := (aY4 (m := m) (pc := pc) hs hv r1 r2 (show k < ss.length by omega) (by omega)).2.2.2.2.2.1; have h7 : (d9 ars pc (ss.getD k cg3).value (xB ars m pc vs bd ss k)).1.2.length + 10 ≤ 700000 := h9; omega))) [0, 1, 2, 3, 4, 5, 55, 56] [.dead, dI ars, dT ss, .dead, ad2, N9, .row 3 (D.ints ((y7 ars ss m pc vs bd k).fst.fst ++ [l4 (i9 (y7 ars ss m pc vs bd k).fst.fst ars 5 (X1 ars ss m pc vs bd k)) pc])), .row 106 (D.stmts ((y7 ars ss m pc vs bd k).fst.snd ++ [V5 ((y7 ars ss m pc vs bd k).fst.fst.length : Int) (X1 ars ss m pc vs bd k)] ++ stL ((y7 ars ss m pc vs bd k).fst.fst.length : Int) (ss.getD k cg3).target (ak0 ss k) m 4))] (J2 m pc [(9, iA k)]) fun G => l0 (l0 (b6 (E1 G f7 [(9, iA ((k : Int) + 1))] [wO ((k : Int) + 1)] (o1 (by omega)) fun G => b6 ?_)))); exact I6 G (k + 1) (by omega) (by omega) (rg 8) (by have e1 : ((xB ars m pc vs bd ss (k + 1)).fst : List Int) = ((y7 ars ss m pc vs bd k).fst.fst ++ [l4 (i9 (y7 ars ss m pc vs bd k).fst.fst ars 5 (X1 ars ss m pc vs bd k)) pc]) := (congrArg Prod.fst (bP3 (by omega) (aD3 hs (by omega) (by omega) (by omega) (by omega) (by omega)) (by with_reducible assumption))); have e2 : ((xB ars m pc vs bd ss (k + 1)).snd : List c5) = ((y7 ars ss m pc vs bd k).fst.snd ++ [V5 ((y7 ars ss m pc vs bd k).fst.fst.length : Int) (X1 ars ss m pc vs bd k)] ++ stL ((y7 ars ss m pc vs bd k).fst.fst.length : Int) (ss.getD k cg3).target (ak0 ss k) m 4) := (congrArg Prod.snd (bP3 (by omega) (aD3 hs (by omega) (by omega) (by omega) (by omega) (by omega)) (by with_reducible assumption))); (first | rw [e1, e2] | simp only [e1, e2]) <;> rfl)
      · refine af8 G (F5 (t5 7 [] (al7 ((ss.getD k cg3).target)) (t5 8 [14, 71] (aj5 m ((d9 ars pc (ss.getD k cg3).value (xB ars m pc vs bd ss k)).snd.kind) ((d9 ars pc (ss.getD k cg3).value (xB ars m pc vs bd ss k)).snd.value) 2 ((ss.getD k cg3).target) ((d9 ars pc (ss.getD k cg3).value (xB ars m pc vs bd ss k)).snd.kids) ([])) (t5 9 [12, 1, 13, 79] (S9 ((d9 ars pc (ss.getD k cg3).value (xB ars m pc vs bd ss k)).fst.fst) ars ((d9 ars pc (ss.getD k cg3).value (xB ars m pc vs bd ss k)).fst.snd) ((ss.getD k cg3).target) ((C1 m (w6 (d9 ars pc (ss.getD k cg3).value (xB ars m pc vs bd ss k)).snd) (c6.mk 2 (ss.getD k cg3).target [])).kind) ((C1 m (w6 (d9 ars pc (ss.getD k cg3).value (xB ars m pc vs bd ss k)).snd) (c6.mk 2 (ss.getD k cg3).target [])).value) ((C1 m (w6 (d9 ars pc (ss.getD k cg3).value (xB ars m pc vs bd ss k)).snd) (c6.mk 2 (ss.getD k cg3).target [])).kids) (by have h9 : (d9 ars pc (ss.getD k cg3).value ((xB ars m pc vs bd ss k).1, (xB ars m pc vs bd ss k).2)).1.2.length + 10 ≤ 700000 := (aY4 (m := m) (pc := pc) hs hv r1 r2 (show k < ss.length by omega) (by omega)).2.2.2.2.2.1; have h7 : (d9 ars pc (ss.getD k cg3).value (xB ars m pc vs bd ss k)).1.2.length + 10 ≤ 700000 := h9; omega)) F4))) fz []) [0, 0, 2, 0, 0, 0, 32, 96, 248, 511, 1023] [0, 1, 2, 3, 4, 5, 12, 87] [.dead, dI ars, dT ss, .dead, ad2, N9, .row 3 (D.ints (y7 ars ss m pc vs bd k).fst.fst), .row 106 (D.stmts ((y7 ars ss m pc vs bd k).fst.snd ++ [V5 (ss.getD k cg3).target (w6 (C1 m (X1 ars ss m pc vs bd k) (c6.mk 2 (ss.getD k cg3).target [])))]))] (J2 m pc [(9, iA k)]) fun G => l0 (l0 (b6 (E1 G f7 [(9, iA ((k : Int) + 1))] [wO ((k : Int) + 1)] (o1 (by omega)) fun G => b6 ?_))); exact I6 G (k + 1) (by omega) (by omega) (rg 8) (by have e1 : ((xB ars m pc vs bd ss (k + 1)).fst : List Int) = ((d9 ars pc (ss.getD k cg3).value (xB ars m pc vs bd ss k)).fst.fst) := (b09 (by omega) (by omega)); have e2 : ((xB ars m pc vs bd ss (k + 1)).snd : List c5) = ((y7 ars ss m pc vs bd k).fst.snd ++ [V5 (ss.getD k cg3).target (w6 (C1 m (X1 ars ss m pc vs bd k) (c6.mk 2 (ss.getD k cg3).target [])))]) := (congrArg Prod.snd (b10 (by omega) (by omega))); (first | rw [e1, e2] | simp only [e1, e2]) <;> rfl)
     · refine N4 G f7 [0, 1, 2, 3, 4, 5, 12, 71] [.dead, dI ars, dT ss, .dead, ad2, N9, .row 3 (D.ints (y7 ars ss m pc vs bd k).fst.fst), .row 106 (D.stmts ((y7 ars ss m pc vs bd k).fst.snd ++ ([c5.mk 5 (ss.getD k cg3).target (c6.mk 0 0 []) (X1 ars ss m pc vs bd k) 0 [] []] ++ [])))] (J2 m pc [(9, iA k)]) (aP ((d9 ars pc (ss.getD k cg3).value (xB ars m pc vs bd ss k)).fst.snd.length + ([c5.mk (5 : Int) (ss.getD k cg3).target (c6.mk (0 : Int) (0 : Int) []) (w6 (d9 ars pc (ss.getD k cg3).value (xB ars m pc vs bd ss k)).snd) (0 : Int) [] []] ++ []).length) 152 []) (aK (by have h9 : (d9 ars pc (ss.getD k cg3).value ((xB ars m pc vs bd ss k).1, (xB ars m pc vs bd ss k).2)).1.2.length + 10 ≤ 700000 := (aY4 (m := m) (pc := pc) hs hv r1 r2 (show k < ss.length by omega) (by omega)).2.2.2.2.2.1; have h7 : (d9 ars pc (ss.getD k cg3).value (xB ars m pc vs bd ss k)).1.2.length + 10 ≤ 700000 := h9; simp only [cg9, ch2, ch6]; omega) ch8) fun G => l0 (l0 (b6 (E1 G f7 [(9, iA ((k : Int) + 1))] [wO ((k : Int) + 1)] (o1 (by omega)) fun G => b6 ?_))); exact I6 G (k + 1) (by omega) (by omega) (rg 8) (by have e1 : ((xB ars m pc vs bd ss (k + 1)).fst : List Int) = ((d9 ars pc (ss.getD k cg3).value (xB ars m pc vs bd ss k)).fst.fst) := (b04 (by omega) (by omega)); have e2 : ((xB ars m pc vs bd ss (k + 1)).snd : List c5) = ((y7 ars ss m pc vs bd k).fst.snd ++ ([c5.mk 5 (ss.getD k cg3).target (c6.mk 0 0 []) (X1 ars ss m pc vs bd k) 0 [] []] ++ [])) := (congrArg Prod.snd (b05 (by omega) (by omega))); (first | rw [e1, e2] | simp only [e1, e2]) <;> rfl)
    ·
     refine wp_seq (j7 G f7 (rg 14) (aR1 ars ss m pc vs bd k (an7 ss k [.box (sL (ss.getD k cg3) 8), .tree (D.stmts [])])) (J2 m pc [(9, iA k), (10, .ptr 12 0), (11, .tref 13)]) fun G => b6 (wp_seq (j7 G (s6 5 [6, 1, 7, 10] (hI ((ss.getD k cg3).body) m pc ((xB ars m pc vs bd ss k).fst) ((xB ars m pc vs bd ss k).snd) ((aJ5 hs (by omega)).2.1) (by omega) (by have h9 := aL7 (m := m) (pc := pc) hs hv r1 r2 (show k < ss.length by omega); have h8 := ah3 (ss.getD k cg3); omega) (by have h9 := aL7 (m := m) (pc := pc) hs hv r1 r2 (show k < ss.length by omega); have h8 := ah3 (ss.getD k cg3); omega) (by have h9 := aL7 (m := m) (pc := pc) hs hv r1 r2 (show k < ss.length by omega); have h8 := ah3 (ss.getD k cg3); omega))) [0, 1, 2, 3, 4, 5, 7, 8, 9, 10, 11, 12, 54, 55] (.dead :: dI ars :: dT ss :: .dead :: .box [.ref 12, .ref 1, .v (.slice none 0 0), .ref 6] :: N9 :: .row 106 (D.stmts (xB ars m pc vs bd ss k).snd) :: (an7 ss k [.box (sL (ss.getD k cg3) 7), .row 3 (D.ints (m6 ars (ss.getD k cg3).body m pc ((xB ars m pc vs bd ss k).fst, [])).fst), dT (m6 ars (ss.getD k cg3).body m pc ((xB ars m pc vs bd ss k).fst, [])).snd])) (J2 m pc [(9, iA k), (10, .ptr 11 0), (11, .ref 13)]) fun G => b6 (wp_seq (N4 G f7 [0, 1, 2, 3, 4, 5, 7, 8, 9, 10, 11, 12, 70] (.dead :: dI ars :: dT ss :: .dead :: .box [.ref 11, .ref 1, .v (.slice none 0 0), .ref 12] :: N9 :: (an7 ss k [.box (sL (ss.getD k cg3) 6), .row 3 (D.ints (m6 ars (ss.getD k cg3).body m pc ((xB ars m pc vs bd ss k).fst, [])).fst), .row 106 (D.stmts ((xB ars m pc vs bd ss k).snd ++ ([c5.mk 4 0 (c6.mk 0 0 []) (c6.mk 0 0 []) (ss.getD k cg3).count (m6 ars (ss.getD k cg3).body m pc ((xB ars m pc vs bd ss k).fst, [])).snd []] ++ [])))])) (J2 m pc [(9, iA k), (10, .ptr 10 0)]) (aP ((xB ars m pc vs bd ss k).snd.length + ([c5.mk (4 : Int) (0 : Int) (c6.mk (0 : Int) (0 : Int) []) (c6.mk (0 : Int) (0 : Int) []) (ss.getD k cg3).count (m6 ars (ss.getD k cg3).body m pc ((xB ars m pc vs bd ss k).fst, [])).snd []] ++ []).length) 152 []) (aK (by have h9 := aL7 (m := m) (pc := pc) hs hv r1 r2 (show k < ss.length by omega); have h8 := K8 (xB ars m pc vs bd ss k).2; simp only [cg9, ch2, ch6]; omega) ch8) fun G => b6 (wp_exit (s4 (r8 (b6 (N4 G f7 [0, 1, 2, 3, 4, 5, 11, 12] [.dead, dI ars, dT ss, .dead, ad2, N9, .row 3 (D.ints (m6 ars (ss.getD k cg3).body m pc ((xB ars m pc vs bd ss k).fst, [])).fst), .row 106 (D.stmts ((xB ars m pc vs bd ss k).snd ++ ([c5.mk 4 0 (c6.mk 0 0 []) (c6.mk 0 0 []) (ss.getD k cg3).count (m6 ars (ss.getD k cg3).body m pc ((xB ars m pc vs bd ss k).fst, [])).snd []] ++ [])))] (J2 m pc [(9, iA ((k : Int) + 1))]) [wO ((k : Int) + 1)] (o1 (by omega)) fun G => ?_))))))))))
     refine b6 ?_; exact I6 G (k + 1) (by omega) (by omega) (rg 8) (by have e1 : ((xB ars m pc vs bd ss (k + 1)).fst : List Int) = ((m6 ars (ss.getD k cg3).body m pc ((xB ars m pc vs bd ss k).fst, [])).fst) := (b06 (by omega) (by omega)); have e2 : ((xB ars m pc vs bd ss (k + 1)).snd : List c5) = ((xB ars m pc vs bd ss k).snd ++ ([c5.mk 4 0 (c6.mk 0 0 []) (c6.mk 0 0 []) (ss.getD k cg3).count (m6 ars (ss.getD k cg3).body m pc ((xB ars m pc vs bd ss k).fst, [])).snd []] ++ [])) := (congrArg Prod.snd (b07 (by omega) (by omega))); (first | rw [e1, e2] | simp only [e1, e2]) <;> rfl)
   · refine wp_seq (j7 G (s6 4 [6, 1, 7, 8, 9, 10, 11] (hF (ss.getD k cg3) (by assumption) ((aJ5 hs (by omega)).1) ((aJ5 hs (by omega)).2.1) ((aJ5 hs (by omega)).2.2) (by omega) m pc ((xB ars m pc vs bd ss k).fst) ((xB ars m pc vs bd ss k).snd) (by have h9 := aL7 (m := m) (pc := pc) hs hv r1 r2 (show k < ss.length by omega); have h8 := ah3 (ss.getD k cg3); omega) (by have h9 := aL7 (m := m) (pc := pc) hs hv r1 r2 (show k < ss.length by omega); have h8 := ah3 (ss.getD k cg3); omega) (by have h9 := aL7 (m := m) (pc := pc) hs hv r1 r2 (show k < ss.length by omega); have h8 := ah3 (ss.getD k cg3); omega))) [0, 1, 2, 3, 4, 5, 8, 9, 10, 11, 12, 45, 46] (.dead :: dI ars :: dT ss :: .dead :: .box [.ref 11, .ref 1, .v (.slice none 0 0), .ref 12] :: N9 :: (an7 ss k [.box (sL (ss.getD k cg3) 6), .row 3 (D.ints (G9 ars (ss.getD k cg3) m pc (xB ars m pc vs bd ss k)).fst), .row 106 (D.stmts (G9 ars (ss.getD k cg3) m pc (xB ars m pc vs bd ss k)).snd)])) (J2 m pc [(9, iA k), (10, .ptr 10 0)]) fun G => b6 (wp_exit (s4 (r8 (b6 (N4 G f7 [0, 1, 2, 3, 4, 5, 11, 12] [.dead, dI ars, dT ss, .dead, ad2, N9, .row 3 (D.ints (G9 ars (ss.getD k cg3) m pc (xB ars m pc vs bd ss k)).fst), .row 106 (D.stmts (G9 ars (ss.getD k cg3) m pc (xB ars m pc vs bd ss k)).snd)] (J2 m pc [(9, iA ((k : Int) + 1))]) [wO ((k : Int) + 1)] (o1 (by omega)) fun G => b6 ?_)))))); exact I6 G (k + 1) (by omega) (by omega) (rg 8) (by have e1 : ((xB ars m pc vs bd ss (k + 1)).fst : List Int) = ((G9 ars (ss.getD k cg3) m pc (xB ars m pc vs bd ss k)).fst) := (congrArg Prod.fst (aE2 (by omega))); have e2 : ((xB ars m pc vs bd ss (k + 1)).snd : List c5) = ((G9 ars (ss.getD k cg3) m pc (xB ars m pc vs bd ss k)).snd) := (congrArg Prod.snd (aE2 (by omega))); (first | rw [e1, e2] | simp only [e1, e2]) <;> rfl)
theorem l7.sel {ι : Type} {φ ψ : Nat → Prop} {w0 w : World} {F : ι → Rs} {ρ : Nat → Value} {S S1 : List It} {js : List Nat} (M : l7 φ ψ w0 w (p7 F ρ (s7 S))) (hn : js.Nodup) (hl : js.length = S1.length) (hS : js.map (s7 S) = S1.map (It.ren (nth js))) : l7 φ ψ w0 w (p7 F (fun i => ρ (nth js i)) (s7 S1)) := by
 refine M.map (fun k : ι ⊕ Nat => (match k with | .inl i => some (.inl i) | .inr i => if i < js.length then some (.inr (nth js i)) else none : Option (ι ⊕ Nat))) ?_ ?_
 ·intro k k' x h1 h2
  match k, k' with
  | .inl i, .inl i' => simp at h1 h2; rw [← h1] at h2; simpa using h2.symm
  | .inl i, .inr j => simp only at h1 h2; cases h1; split at h2 <;> simp at h2
  | .inr j, .inl i => simp only at h1 h2; cases h2; split at h1 <;> simp at h1
  | .inr j, .inr j' =>
   simp at h1 h2
   obtain ⟨f1, f2⟩ := h1
   obtain ⟨g1, g2⟩ := h2
   rw [← f2] at g2
   have hj := Sum.inr.inj g2
   have e1 := cg6 f1
   have e2 := cg6 g1
   rw [H6 e2, H6 e1] at hj
   have := (List.getElem?_inj f1 hn).1 (e1.trans (by rw [← hj]; exact e2.symm))
   rw [this]
 ·intro k
  match k with
  | .inl i => exact .inl ⟨_, rfl, rfl⟩
  | .inr i =>
   by_cases hlt : i < js.length
   ·refine .inl ⟨.inr (nth js i), by simp [hlt], ?_⟩
    have h1 := congrArg (·[i]?) hS
    have hlt' : i < S1.length := by omega
    simp only [List.getElem?_map, cg6 hlt, cg6 hlt', Option.map_some, Option.some.injEq] at h1
    simp only [p7]
    rw [ai9 hlt', H6 (cg6 hlt), h1, ← It.res_ren, H6 (cg6 hlt)]
   ·refine .inr ?_
    simp only [p7]
    rw [y8 (by omega)]
    rfl
theorem j9.nilArg {P : Program} {f : FuncId} {args args0 : List AV} {pre post post' : List It} {res res' : AV} {e : TypeId} {d : D} (hc : j9.ok P ⟨f, args0, pre ++ [.row e d], post, res⟩) (k : Nat) (js : List Nat) (hd : D.nil k = some d) (ha : args = AV.denL false pre.length args0) (hid : (Z4 pre.length (AV.idsL args) && pre.all (fun x => Z4 pre.length x.ids) && nodupB js && natEq js.length post'.length && bQ6 pre.length js) = true) (hS : js.map (s7 post) = post'.map (It.ren (nth js))) (hr : res = res'.ren (nth js)) : j9.ok P ⟨f, args, pre, post', res'⟩ := by
 intro ι φ ψ w0 w F ρ M
 simp only [cg5, natEq, beq_iff_eq] at hid
 obtain ⟨⟨⟨⟨h1, h2⟩, h3⟩, h4⟩, h5⟩ := hid
 have hz := D.nil_len hd
 have hvals := (AV.vals_den (ρ := ρ) (t := false) (n := pre.length) (z := .slice none 0 0) (by simp) args0 (by rw [← ha]; exact E3 h1)).1
 have hlt : ∀ j, j < pre.length → s7 (pre ++ [.row e d]) j = s7 pre j := fun j hj => by simp [s7, cg7, ci0 hj]
 have hids : ∀ j, ∀ i ∈ (s7 pre j).ids, i < pre.length := fun j => by
  by_cases hj : j < pre.length
  ·rw [ai9 hj]
   exact E3 (ch3.1 h2 _ (ci6 hj))
  ·rw [y8 (by omega)]; intro i hi; cases hi
 have M1 : l7 φ ψ w0 w (p7 F (fun j => if j = pre.length then .slice none 0 0 else ρ j) (s7 (pre ++ [.row e d]))) := by
  refine l7.put M (.inr pre.length) (fun k hk => ?_) (D5.refl _ _) ?_ ?_
  ·cases k with
   | inl i => rfl
   | inr j =>
    simp only [p7]
    rcases Nat.lt_trichotomy j pre.length with h | h | h
    ·rw [hlt j h]
     exact It.res_congr _ (fun i hi => if_neg (by have := hids j i hi; omega)) (.inr (.inr (if_neg (by omega))))
    ·exact absurd (by rw [h]) hk
    ·rw [y8 (show (pre ++ [It.row e d]).length ≤ j by simp; omega), y8 (show pre.length ≤ j by omega)]; rfl
  ·have : s7 (pre ++ [.row e d]) pre.length = .row e d := by simp [s7, cg7]
   simp only [p7, this, It.res, if_true]
   refine ⟨fun xs => RW.nice d xs, [], ?_, RW.nil hz _⟩
   rw [hz]; exact World.ownsRow_nil _ _ _ _
  ·intro g hg
   have : s7 (pre ++ [.row e d]) pre.length = .row e d := by simp [s7, cg7]
   simp only [p7, this, It.res, if_true] at hg
   cases hg
 have h := hc ι φ ψ w0 w F _ M1
 simp only [hvals, ← ha] at h
 refine h.mono ?_
 rintro x w' ⟨ρ2, g1, rfl, M2⟩
 have hk : ∀ i, i < pre.length → nth js i = i := fun i hi => by
  have := ch3.1 h5 i (ck9.2 hi)
  simp only [cg5, natEq, beq_iff_eq] at this
  exact this.1
 refine ⟨fun i => ρ2 (nth js i), fun i hi => ?_, ?_, M2.sel (ap0 h3) h4 hS⟩
 ·have hi : i < pre.length := hi
  simp only [hk i hi]
  rw [g1 i (by simp; omega), if_neg (by omega)]
 ·show Ending.returned (res.val ρ2) = .returned (res'.val _)
  rw [hr, AV.val_ren]
theorem bA3 {ars vs : List Int} {m pc : Int} {ss : List c5} (h : j9.ok Tryz.prog (lbC ars m pc vs [] ss)) : j9.ok Tryz.prog (lnC ars m pc vs ss) :=
 j9.nilArg (pre := [qI vs, dI ars, dT ss]) h 10 [0, 1, 2, 4, 5] rfl rfl rfl rfl rfl
theorem aH7 (ars : List Int) (nv : Nat) : ∀ (dd : Nat) (tt : List c5) (m pc : Int) (vs : List Int) (bd : List c5), tt.all (j6 nv ars.length dd) = true → nv ≤ vs.length → vs.length + 4 * j5 tt ≤ 90000 → j5 bd + 130 * j5 tt ≤ 600000 → j9.ok Tryz.prog (lbC ars m pc vs bd tt)
 | 0, tt, m, pc, vs, bd, hs, hv, r1, r2 => by
  have h0 : tt = [] := by
   cases tt with
   | nil => rfl
   | cons a r => simp [j6] at hs
  subst h0
  exact aO9 ars nv 0 [] rfl (fun _ _ _ _ _ h => absurd h (by simp)) (fun _ _ _ _ _ _ h => absurd h (by simp)) m pc vs bd hv r1 r2
 | dd + 1, tt, m, pc, vs, bd, hs, hv, r1, r2 => by
  have hB := aH7 ars nv dd
  have hI : ∀ (tt : List c5) (m pc : Int) (vs : List Int) (bd : List c5), tt.all (j6 nv ars.length dd) = true → nv ≤ vs.length → vs.length + 4 * j5 tt ≤ 90000 → 130 * j5 tt ≤ 600000 → j9.ok Tryz.prog (bL2 ars m pc vs bd tt) := fun tt m pc vs bd h1 h2 h3 h4 => bo5 ars m pc vs bd tt (bA3 (hB tt m pc vs [] h1 h2 h3 (by simpa [j5] using h4)))
  exact aO9 ars nv dd tt hs (fun t k3 hh hbb hbe _ m pc vs bd hv r1 r2 => bT6 ars nv dd t k3 hh hbb hbe hB hI m pc vs bd hv r1 r2) (fun tt m pc vs bd h1 _ h2 h3 h4 => hI tt m pc vs bd h1 h2 h3 h4) m pc vs bd hv r1 r2
abbrev bx7 (p : i6) : i6 := ⟨(m6 p.arrays p.body (-1) 0 (p.vars, [])).1, p.arrays, (m6 p.arrays p.body (-1) 0 (p.vars, [])).2⟩
theorem bV7 {p : i6} (h : (V4 p false).1 = 0) (h2 : l9 (bx7 p) = true) : okL p = true := bQ2 h h2
theorem bV6 {p : i6} (h2 : l9 (bx7 p) = false) : okL p = false := bQ3 h2
theorem bW5 {p : i6} (h : (V4 p false).1 = 0) (h2 : l9 (bx7 p) = true) : G5 p = bx7 p := bQ4 (bQ2 h h2)
theorem bW4 {p : i6} (h2 : l9 (bx7 p) = false) : G5 p = ⟨[], [], []⟩ := bk4 (bQ3 h2)
theorem bE1 (p : i6) (hp : l9 p = true) : j9.ok Tryz.prog (lnC p.arrays (-1) 0 p.vars p.body) := by
 have h := ac2 hp
 exact bA3 (aH7 p.arrays p.vars.length 5 p.body (-1) 0 p.vars [] (av1 hp).2.2.2 (ch0 _) (by omega) (by simp only [j5]; omega))
abbrev an6 (r0 : List (Nat × AV)) : List (Nat × AV) := (1, .ptr 3 0) :: (2, .ptr 4 0) :: (3, bA false) :: r0
theorem aU4 (p : i6) (hb : p.size ≤ 1048576) (hp : ¬ (V4 p false).1 = 0) : j9.ok Tryz.prog ⟨27, [pA 0], pS p, pS p ++ pS (G5 p), .tup [pA 3, bA (okL p)]⟩ := by
 refine F9 43 Tryz.func27 [dI p.vars, dI p.arrays, dT p.body] [(0, pA 0)] fun G => ?_; have hno := b41 hp
 have hb1 : j5 p.body ≤ 1048576 := by unfold i6.size at hb; omega
 refine wp_seq (j7 G f7 [0, 1, 2, 3, 11] [dI p.vars, dI p.arrays, dT p.body, .box (pL 0), .box [.v (.slice none 0 0), .v (.slice none 0 0), .v (.slice none 0 0)]] (an6 []) fun G => b6 (wp_seq (k8 G (s6 1 [0, 1, 2] (X6 p.vars p.arrays p.body (by assumption))) [(4, iA (V4 (i6.mk p.vars p.arrays p.body) false).fst)] fun G => b6 (wp_seq (wp_seq (D7 G f7 (an6 [(15, bA ((V4 (i6.mk p.vars p.arrays p.body) false).fst != 0))]) fun G => b6 ?_)))))); cases h0 : ((V4 (i6.mk p.vars p.arrays p.body) false).fst != 0)
 ·have q0 := bne_eq_false_iff_eq.1 h0; exact False.elim (hp (by with_reducible assumption))
 ·have q0 := bne_iff_ne.1 h0; refine rT G _ h0 (wp_seq (D7 G f7 (an6 []) fun G => b6 (wp_ret (l5 ?_)))); obtain ⟨ρ, G⟩ := G.nil 5 0 (.ints []) 1 [dI p.vars, dI p.arrays, dT p.body, .box (pL 0), .box [.ref 5, .v (.slice none 0 0), .v (.slice none 0 0)]] (an6 []); obtain ⟨ρ, G⟩ := G.nil 6 0 (.ints []) 1 [dI p.vars, dI p.arrays, dT p.body, .box (pL 0), .box [.ref 5, .ref 6, .v (.slice none 0 0)], .row 0 (D.ints [])] (an6 []); obtain ⟨ρ, G⟩ := G.nil 7 0 (.stmts []) 10 [dI p.vars, dI p.arrays, dT p.body, .box (pL 0), .box (pL 5), .row 0 (D.ints []), .row 0 (D.ints [])] (an6 []); obtain ⟨ρ, G⟩ := G.frz [.no, .no, .no, .no, .no, .row 0, .row 0, .row 0] [dI p.vars, dI p.arrays, dT p.body, .box (pL 0), .box (pL 5), dI [], dI [], dT []] (an6 []); exact T3 (.tup [pA 5, bA false]) G [0, 1, 2, 5, 6, 7] (by have e1 : (okL p : Bool) = (false) := (by assumption); (first | rw [e1] | simp only [e1]) <;> rfl) (by show _ = mR [0, 1, 2, 5, 6, 7] [dI p.vars, dI p.arrays, dT p.body, dI (G5 p).vars, dI (G5 p).arrays, dT (G5 p).body]; rw [bk4 hno] <;> rfl)
abbrev aR5 : It := .box [.v (.slice none 0 0), .v (.slice none 0 0), .v (.slice none 0 0)]
abbrev at6 (p : i6) (r0 : List It) : List It := .row 3 (D.ints (m6 p.arrays p.body (-1) 0 (p.vars, [])).fst) :: .row 3 (D.ints p.arrays) :: .tree (D.stmts (m6 p.arrays p.body (-1) 0 (p.vars, [])).snd) :: r0
abbrev K5 (p : i6) (r0 : List It) : List It := dI p.vars :: dI p.arrays :: dT p.body :: r0
theorem aU3 (p : i6) (hb : p.size ≤ 1048576) (hf : (V4 p false).1 = 0) : j9.ok Tryz.prog ⟨27, [pA 0], pS p, pS p ++ pS (G5 p), .tup [pA 3, bA (okL p)]⟩ := by
  have hpv := ae4 hf; have hB := bE1 p hpv; refine F9 43 Tryz.func27 (K5 p []) [(0, pA 0)] fun G => ?_; have hz := bk7 (ae4 hf); have hv := ac2 (ae4 hf)
  have hzb : j5 (aH8 p).2 ≤ 1048576 := by omega
  have hsum : (aH8 p).1.length + p.arrays.length + j5 (aH8 p).2 ≤ 1048576 := by omega
  refine wp_seq (j7 G f7 [0, 1, 2, 3, 11] (K5 p [.box (pL 0), aR5]) [(1, .ptr 3 0), (2, .ptr 4 0), (3, bA false)] fun G => b6 (wp_seq (k8 G (s6 1 [0, 1, 2] (X6 p.vars p.arrays p.body (by omega))) [(4, iA (V4 (i6.mk p.vars p.arrays p.body) false).fst)] fun G => b6 (wp_seq (wp_seq (D7 G f7 [(1, .ptr 3 0), (2, .ptr 4 0), (3, bA false), (15, bA ((V4 (i6.mk p.vars p.arrays p.body) false).fst != 0))] fun G => b6 ?_)))))); cases h0 : ((V4 (i6.mk p.vars p.arrays p.body) false).fst != 0)
  ·
   have q0 := bne_eq_false_iff_eq.1 h0; refine rF G _ h0 (wp_skip (b6 (wp_seq (j7 G (s6 1 [0, 1, 2] (am0 p.vars p.arrays p.body (by assumption))) [0, 1, 2, 4, 13, 14, 15, 21] (K5 p [aR5, .row 3 (D.ints p.vars), .row 3 (D.ints p.arrays), .tree (D.stmts p.body), .box [.ref 4, .ref 5, .tref 6]]) [(2, .ptr 3 0), (3, bA false), (6, .ptr 7 0)] fun G => b6 (wp_seq ?_))))); obtain ⟨ρ, G⟩ := G.frz [.no, .no, .no, .no, .no, .row 3] (K5 p [.box [.v (.slice none 0 0), .v (.slice none 0 0), .v (.slice none 0 0)], .row 3 (D.ints p.vars), dI p.arrays, .tree (D.stmts p.body), .box [.ref 4, .ref 5, .tref 6]]) [(2, .ptr 3 0), (3, bA false), (6, .ptr 7 0)]; obtain ⟨ρ, G⟩ := G.frz [.no, .no, .no, .no, .no, .no, .tree] (K5 p [.box [.v (.slice none 0 0), .v (.slice none 0 0), .v (.slice none 0 0)], .row 3 (D.ints p.vars), dI p.arrays, dT p.body, .box (pL 4)]) [(2, .ptr 3 0), (3, bA false), (6, .ptr 7 0)]; refine j7 G (s6 8 [4, 5, 6] hB) [0, 1, 2, 3, 5, 72, 73, 80] (K5 p [aR5, dI p.arrays, .row 3 (D.ints (m6 p.arrays p.body (-1) 0 (p.vars, [])).fst), .row 106 (D.stmts (m6 p.arrays p.body (-1) 0 (p.vars, [])).snd), .box [.ref 5, .ref 4, .v (.slice none 0 0), .ref 6]]) [(2, .ptr 3 0), (3, bA false), (7, .ptr 7 0)] fun G => b6 (wp_seq ?_); obtain ⟨ρ, G⟩ := G.frz [.no, .no, .no, .no, .no, .row 3] (K5 p [.box [.v (.slice none 0 0), .v (.slice none 0 0), .v (.slice none 0 0)], dI p.arrays, dI (m6 p.arrays p.body (-1) 0 (p.vars, [])).fst, .row 106 (D.stmts (m6 p.arrays p.body (-1) 0 (p.vars, [])).snd), .box [.ref 5, .ref 4, .v (.slice none 0 0), .ref 6]]) [(2, .ptr 3 0), (3, bA false), (7, .ptr 7 0)]; obtain ⟨ρ, G⟩ := G.frz [.no, .no, .no, .no, .no, .no, .row 106] (K5 p [.box [.v (.slice none 0 0), .v (.slice none 0 0), .v (.slice none 0 0)], dI p.arrays, dI (m6 p.arrays p.body (-1) 0 (p.vars, [])).fst, dT (m6 p.arrays p.body (-1) 0 (p.vars, [])).snd, .box [.ref 5, .ref 4, .v (.slice none 0 0), .ref 6]]) [(2, .ptr 3 0), (3, bA false), (7, .ptr 7 0)]; refine j7 G (s6 9 [5, 4, 6] (am0 ((m6 p.arrays p.body (-1) 0 (p.vars, [])).fst) p.arrays ((m6 p.arrays p.body (-1) 0 (p.vars, [])).snd) (by assumption))) [0, 1, 2, 3, 80, 81, 82, 88] (K5 p (aR5 :: (at6 p [.box [.ref 4, .ref 5, .tref 6]]))) [(2, .ptr 3 0), (3, bA false), (8, .ptr 7 0)] fun G => b6 (wp_seq (wp_seq (k8 G (s6 1 [4, 5, 6] (j9.lend (af5 ((m6 p.arrays p.body (-1) 0 (p.vars, [])).fst) p.arrays ((m6 p.arrays p.body (-1) 0 (p.vars, [])).snd) (by assumption)) [.row 3, .row 3, .tree])) [(40, .v (.bool !l9 (i6.mk (m6 p.arrays p.body (-1) 0 (p.vars, [])).fst p.arrays (m6 p.arrays p.body (-1) 0 (p.vars, [])).snd)))] fun G => b6 ?_))); cases h1 : (!l9 (i6.mk (m6 p.arrays p.body (-1 : Int) (0 : Int) (p.vars, [])).fst p.arrays (m6 p.arrays p.body (-1 : Int) (0 : Int) (p.vars, [])).snd))
   · have q1 : (l9 (i6.mk (m6 p.arrays p.body (-1) 0 (p.vars, [])).fst p.arrays (m6 p.arrays p.body (-1) 0 (p.vars, [])).snd)) = true := (Eq.mp (cj0 _) h1); refine rF G _ h1 (wp_skip (b6 (wp_seq (j7 G f7 (rg 7) (K5 p (.box [.ref 4, .ref 5, .tref 6] :: (at6 p []))) [(2, .ptr 3 0), (3, bA true)] fun G => b6 (wp_ret ?_))))); obtain ⟨ρ, G⟩ := G.frz [.no, .no, .no, .no, .row 3, .row 3, .tree] (K5 p [.box (pL 4), dI (m6 p.arrays p.body (-1) 0 (p.vars, [])).fst, dI p.arrays, dT (m6 p.arrays p.body (-1) 0 (p.vars, [])).snd]) [(2, .ptr 3 0), (3, bA true)]; exact T3 (.tup [pA 4, bA true]) G [0, 1, 2, 4, 5, 6] (by have e1 : (okL p : Bool) = (true) := (bV7 hf (by with_reducible assumption)); (first | rw [e1] | simp only [e1]) <;> rfl) (by show _ = mR [0, 1, 2, 4, 5, 6] (K5 p [dI (G5 p).vars, dI (G5 p).arrays, dT (G5 p).body]); rw [bW5 hf (by with_reducible assumption)] <;> rfl)
   · have q1 : (l9 (i6.mk (m6 p.arrays p.body (-1) 0 (p.vars, [])).fst p.arrays (m6 p.arrays p.body (-1) 0 (p.vars, [])).snd)) = false := (Eq.mp (ci3 _) h1); refine rT G _ h1 (wp_seq (D7 G f7 [(2, .ptr 3 0), (3, bA false), (8, .ptr 7 0)] fun G => b6 (wp_ret (l5 ?_)))); obtain ⟨ρ, G⟩ := G.nil 8 0 (.ints []) 1 (K5 p (.box [.ref 8, .v (.slice none 0 0), .v (.slice none 0 0)] :: (at6 p [.box [.ref 4, .ref 5, .tref 6]]))) [(2, .ptr 3 0), (3, bA false), (8, .ptr 7 0)]; obtain ⟨ρ, G⟩ := G.nil 9 0 (.ints []) 1 (K5 p (.box [.ref 8, .ref 9, .v (.slice none 0 0)] :: (at6 p [.box [.ref 4, .ref 5, .tref 6], .row 0 (D.ints [])]))) [(2, .ptr 3 0), (3, bA false), (8, .ptr 7 0)]; obtain ⟨ρ, G⟩ := G.nil 10 0 (.stmts []) 10 (K5 p (.box (pL 8) :: (at6 p [.box [.ref 4, .ref 5, .tref 6], .row 0 (D.ints []), .row 0 (D.ints [])]))) [(2, .ptr 3 0), (3, bA false), (8, .ptr 7 0)]; obtain ⟨ρ, G⟩ := G.frz [.no, .no, .no, .no, .no, .no, .no, .no, .row 0, .row 0, .row 0] (K5 p (.box (pL 8) :: (at6 p [.box [.ref 4, .ref 5, .tref 6], dI [], dI [], dT []]))) [(2, .ptr 3 0), (3, bA false), (8, .ptr 7 0)]; exact T3 (.tup [pA 8, bA false]) G [0, 1, 2, 8, 9, 10] (by have e1 : (okL p : Bool) = (false) := (bV6 (by with_reducible assumption)); (first | rw [e1] | simp only [e1]) <;> rfl) (by show _ = mR [0, 1, 2, 8, 9, 10] (K5 p [dI (G5 p).vars, dI (G5 p).arrays, dT (G5 p).body]); rw [bW4 (by with_reducible assumption)] <;> rfl)
  · have q0 := bne_iff_ne.1 h0; exact False.elim (by exact absurd hf (by omega))
theorem a71 (p : i6) (hb : p.size ≤ 1048576) : j9.ok Tryz.prog ⟨27, [pA 0], pS p, pS p ++ pS (G5 p), .tup [pA 3, bA (okL p)]⟩ := by
 by_cases hf : (V4 p false).1 = 0
 ·exact aU3 p hb hf
 ·exact aU4 p hb hf
end Go.Proofs.YthikdkjjdeehoaaGreat
