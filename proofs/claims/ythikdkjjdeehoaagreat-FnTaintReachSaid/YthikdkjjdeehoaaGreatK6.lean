/- Part 6: functions on the way, plain laws. Conditions: as said. -/
import Derived.Test.YthikdkjjdeehoaaGreatK4
import Derived.Test.YthikdkjjdeehoaaGreatK5
set_option maxRecDepth 100000
set_option maxHeartbeats 16000000
set_option linter.unusedVariables false
set_option linter.unusedSimpArgs false
open Bool renaming and_eq_true → ch0, not_eq_false' → cj6, not_eq_true' → ci9, or_eq_true → cl1
open Inhabited renaming default → cg8
open List renaming all_eq_true → ch8, append_assoc → cl8, eq_nil_of_length_eq_zero → ci7, getD_eq_getElem?_getD → ch3, getElem?_append_left → ci4, getElem?_append_right → ck2, getElem?_eq_getElem → ch2, getElem?_eq_none → cj3, getElem?_eq_some_iff → ci1, getElem_mem → cj2, length_append → ch4, length_cons → ch7, length_nil → ci2, length_replicate → cj0, length_set → cj7, mem_cons → ck8, mem_cons_of_mem → ck7, mem_cons_self → ck9, mem_range → cl3, mem_singleton → ck1, replicate → cg9, take → ch6, take_of_length_le → ci6
open Nat renaming le_refl → ch5, le_trans → cj5, lt_or_ge → cj1, zero_add → cl4, zero_le → cl0
open True renaming intro → ci3

namespace Go.Proofs.YthikdkjjdeehoaaGreat
open Go Go.RowKit
abbrev nnE : c6 := ⟨0, 0, []⟩
abbrev cnE (n : Int) : c6 := ⟨1, n, []⟩
abbrev vrE (v : Int) : c6 := ⟨2, v, []⟩
abbrev rdE (a : Int) (i : c6) : c6 := ⟨3, a, [i]⟩
abbrev ah2 (i : c6) (k : Int) : c6 := ⟨9, 0, [⟨7, 0, [i, cnE 3]⟩, cnE k]⟩
abbrev seE (a b c : c6) : c6 := ⟨11, 0, [a, b, c]⟩
abbrev W0 (v : Int) (e : c6) : c5 := ⟨1, v, nnE, e, 0, [], []⟩
def B8 (m : Int) (e f : c6) : c6 := if m < 0 then e else seE (vrE m) e f
def rdL (v a : Int) (i : c6) : Nat → List c5
 | 0 => [W0 v (rdE a (cnE 0))]
 | k + 1 => rdL v a i k ++ [W0 v (seE (ah2 i ((k : Int) + 1)) (rdE a (cnE ((k : Int) + 1))) (vrE v))]
def stL (v t : Int) (i : c6) (m : Int) : Nat → List c5
 | 0 => []
 | k + 1 => stL v t i m k ++ [⟨2, t, cnE (k : Int), seE (B8 m (ah2 i (k : Int)) (cnE 0)) (vrE v) (rdE t (cnE (k : Int))), 0, [], []⟩]
abbrev LnS : Type := List Int × List c5
mutual
def d8 (ars : List Int) (pc : Int) : c6 → LnS → LnS × c6
 | ⟨k, v, ks⟩, s =>
  if k = 3 ∧ ac0 (i9 (w6 ars pc ks s).1.1 ars 5 (ks.getD 0 cg8)) = true then
   (((w6 ars pc ks s).1.1 ++ [l0 (i9 (w6 ars pc ks s).1.1 ars 5 ⟨k, v, ks⟩) pc], (w6 ars pc ks s).1.2 ++ rdL ((w6 ars pc ks s).1.1.length : Int) v (ks.getD 0 cg8) 3), vrE ((w6 ars pc ks s).1.1.length : Int))
  else ((w6 ars pc ks s).1, ⟨k, v, (w6 ars pc ks s).2⟩)
def w6 (ars : List Int) (pc : Int) : List c6 → LnS → LnS × List c6
 | [], s => (s, [])
 | e :: t, s => ((w6 ars pc t (d8 ars pc e s).1).1, (d8 ars pc e s).2 :: (w6 ars pc t (d8 ars pc e s).1).2)
end
theorem aJ2 (ars : List Int) (pc : Int) (e : c6) (s : LnS) : d8 ars pc e s =
  if e.kind = 3 ∧ ac0 (i9 (w6 ars pc e.kids s).1.1 ars 5 (e.kids.getD 0 cg8)) = true then
   (((w6 ars pc e.kids s).1.1 ++ [l0 (i9 (w6 ars pc e.kids s).1.1 ars 5 e) pc], (w6 ars pc e.kids s).1.2 ++ rdL ((w6 ars pc e.kids s).1.1.length : Int) e.value (e.kids.getD 0 cg8) 3), vrE ((w6 ars pc e.kids s).1.1.length : Int))
  else ((w6 ars pc e.kids s).1, ⟨e.kind, e.value, (w6 ars pc e.kids s).2⟩) := by
 cases e; rw [d8]; rfl
theorem at3 (ars : List Int) (pc : Int) : ∀ (a b : List c6) (s : LnS), w6 ars pc (a ++ b) s = ((w6 ars pc b (w6 ars pc a s).1).1, (w6 ars pc a s).2 ++ (w6 ars pc b (w6 ars pc a s).1).2)
 | [], b, s => by simp [w6]
 | e :: t, b, s => by
  simp only [List.cons_append, w6]
  rw [at3 ars pc t b]
theorem ap8 {ars : List Int} {pc : Int} {ks : List c6} {k : Nat} {s : LnS} (hk : k < ks.length) : w6 ars pc (ks.take (k + 1)) s = ((d8 ars pc (ks.getD k cg8) (w6 ars pc (ks.take k) s).1).1, (w6 ars pc (ks.take k) s).2 ++ [(d8 ars pc (ks.getD k cg8) (w6 ars pc (ks.take k) s).1).2]) := by
 rw [m6 _ _ hk, at3, m0 hk]
 simp [w6]
abbrev ifM (x : LnS × c6) (m l : Int) : LnS := (x.1.1 ++ [l] ++ [l], x.1.2 ++ [W0 (x.1.1.length : Int) (B8 m x.2 (cnE 0))] ++ [W0 ((x.1.1 ++ [l]).length : Int) (B8 m ⟨9, 0, [vrE (x.1.1.length : Int), cnE 0]⟩ (cnE 0))])
mutual
def G3 (ars : List Int) : c5 → Int → Int → LnS → LnS
 | ⟨k, t, i, v, c, b, e⟩, m, pc, s =>
  if k = 4 then ((l9 ars b m pc (s.1, [])).1, s.2 ++ [⟨4, 0, nnE, nnE, c, (l9 ars b m pc (s.1, [])).2, []⟩])
  else if k = 3 then
   (if ac0 (i9 s.1 ars 5 v) = true then
    l9 ars e (((d8 ars pc v s).1.1 ++ [l0 pc (i9 s.1 ars 5 v)]).length : Int) (l0 pc (i9 s.1 ars 5 v)) (l9 ars b ((d8 ars pc v s).1.1.length : Int) (l0 pc (i9 s.1 ars 5 v)) (ifM (d8 ars pc v s) m (l0 pc (i9 s.1 ars 5 v))))
   else ((l9 ars e m (l0 pc (i9 s.1 ars 5 v)) ((l9 ars b m (l0 pc (i9 s.1 ars 5 v)) ((d8 ars pc v s).1.1, [])).1, [])).1,
    (d8 ars pc v s).1.2 ++ [⟨3, 0, nnE, (d8 ars pc v s).2, 0, (l9 ars b m (l0 pc (i9 s.1 ars 5 v)) ((d8 ars pc v s).1.1, [])).2, (l9 ars e m (l0 pc (i9 s.1 ars 5 v)) ((l9 ars b m (l0 pc (i9 s.1 ars 5 v)) ((d8 ars pc v s).1.1, [])).1, [])).2⟩]))
  else if k = 5 then ((d8 ars pc v s).1.1, (d8 ars pc v s).1.2 ++ [⟨5, t, nnE, (d8 ars pc v s).2, 0, [], []⟩])
  else if k = 1 then ((d8 ars pc v s).1.1, (d8 ars pc v s).1.2 ++ [W0 t (B8 m (d8 ars pc v s).2 (vrE t))])
  else if ac0 (i9 (d8 ars pc v s).1.1 ars 5 i) = true then
   ((d8 ars pc v s).1.1 ++ [l0 (i9 (d8 ars pc v s).1.1 ars 5 (d8 ars pc v s).2) pc], (d8 ars pc v s).1.2 ++ [W0 ((d8 ars pc v s).1.1.length : Int) (d8 ars pc v s).2] ++ stL ((d8 ars pc v s).1.1.length : Int) t i m 4)
  else ((d8 ars pc v s).1.1, (d8 ars pc v s).1.2 ++ [⟨2, t, i, B8 m (d8 ars pc v s).2 (rdE t i), 0, [], []⟩])
def l9 (ars : List Int) : List c5 → Int → Int → LnS → LnS
 | [], _, _, s => s
 | x :: r, m, pc, s => l9 ars r m pc (G3 ars x m pc s)
end
theorem a41 (ars : List Int) (a b : List c5) (m pc : Int) (s : LnS) : l9 ars (a ++ b) m pc s = l9 ars b m pc (l9 ars a m pc s) := by
 induction a generalizing s with
 | nil => rfl
 | cons x r ih => simp only [List.cons_append, l9]; exact ih _
theorem br1 {ars : List Int} {ss : List c5} {k : Nat} {m pc : Int} {s : LnS} (hk : k < ss.length) : l9 ars (ss.take (k + 1)) m pc s = G3 ars (ss.getD k cg8) m pc (l9 ars (ss.take k) m pc s) := by
 rw [m6 _ _ hk, a41, m0 hk]
 simp [l9]
section
variable {ars : List Int} {s : c5} {m pc : Int} {x : LnS}
theorem ln4 (k : s.kind = 4) : G3 ars s m pc x = ((l9 ars s.body m pc (x.1, [])).1, x.2 ++ [⟨4, 0, nnE, nnE, s.count, (l9 ars s.body m pc (x.1, [])).2, []⟩]) := by
 obtain ⟨kd, tg, ix, vl, ct, bd, el⟩ := s
 have k : kd = 4 := k
 rw [G3, if_pos k]; rfl
theorem b60 (k : s.kind = 3) (h : ac0 (i9 x.1 ars 5 s.value) = true) : G3 ars s m pc x = l9 ars s.els (((d8 ars pc s.value x).1.1 ++ [l0 pc (i9 x.1 ars 5 s.value)]).length : Int) (l0 pc (i9 x.1 ars 5 s.value)) (l9 ars s.body ((d8 ars pc s.value x).1.1.length : Int) (l0 pc (i9 x.1 ars 5 s.value)) (ifM (d8 ars pc s.value x) m (l0 pc (i9 x.1 ars 5 s.value)))) := by
 obtain ⟨kd, tg, ix, vl, ct, bd, el⟩ := s
 have k : kd = 3 := k
 have h : ac0 (i9 x.1 ars 5 vl) = true := h
 rw [G3, if_neg (by omega), if_pos k, if_pos h]; rfl
theorem b61 (k : s.kind = 3) (h : ac0 (i9 x.1 ars 5 s.value) = false) : G3 ars s m pc x = ((l9 ars s.els m (l0 pc (i9 x.1 ars 5 s.value)) ((l9 ars s.body m (l0 pc (i9 x.1 ars 5 s.value)) ((d8 ars pc s.value x).1.1, [])).1, [])).1,
  (d8 ars pc s.value x).1.2 ++ [⟨3, 0, nnE, (d8 ars pc s.value x).2, 0, (l9 ars s.body m (l0 pc (i9 x.1 ars 5 s.value)) ((d8 ars pc s.value x).1.1, [])).2, (l9 ars s.els m (l0 pc (i9 x.1 ars 5 s.value)) ((l9 ars s.body m (l0 pc (i9 x.1 ars 5 s.value)) ((d8 ars pc s.value x).1.1, [])).1, [])).2⟩]) := by
 obtain ⟨kd, tg, ix, vl, ct, bd, el⟩ := s
 have k : kd = 3 := k
 have h : ac0 (i9 x.1 ars 5 vl) = false := h
 rw [G3, if_neg (by omega), if_pos k, if_neg (by rw [h]; decide)]; rfl
theorem ln5 (k : s.kind = 5) : G3 ars s m pc x = ((d8 ars pc s.value x).1.1, (d8 ars pc s.value x).1.2 ++ [⟨5, s.target, nnE, (d8 ars pc s.value x).2, 0, [], []⟩]) := by
 obtain ⟨kd, tg, ix, vl, ct, bd, el⟩ := s
 have k : kd = 5 := k
 rw [G3, if_neg (by omega), if_neg (by omega), if_pos k]; rfl
theorem ln1 (k : s.kind = 1) : G3 ars s m pc x = ((d8 ars pc s.value x).1.1, (d8 ars pc s.value x).1.2 ++ [W0 s.target (B8 m (d8 ars pc s.value x).2 (vrE s.target))]) := by
 obtain ⟨kd, tg, ix, vl, ct, bd, el⟩ := s
 have k : kd = 1 := k
 rw [G3, if_neg (by omega), if_neg (by omega), if_neg (by omega), if_pos k]; rfl
theorem b62 (k : s.kind = 2) (h : ac0 (i9 (d8 ars pc s.value x).1.1 ars 5 s.index) = true) : G3 ars s m pc x = ((d8 ars pc s.value x).1.1 ++ [l0 (i9 (d8 ars pc s.value x).1.1 ars 5 (d8 ars pc s.value x).2) pc], (d8 ars pc s.value x).1.2 ++ [W0 ((d8 ars pc s.value x).1.1.length : Int) (d8 ars pc s.value x).2] ++ stL ((d8 ars pc s.value x).1.1.length : Int) s.target s.index m 4) := by
 obtain ⟨kd, tg, ix, vl, ct, bd, el⟩ := s
 have k : kd = 2 := k
 have h : ac0 (i9 (d8 ars pc vl x).1.1 ars 5 ix) = true := h
 rw [G3, if_neg (by omega), if_neg (by omega), if_neg (by omega), if_neg (by omega), if_pos h]; rfl
theorem b63 (k : s.kind = 2) (h : ac0 (i9 (d8 ars pc s.value x).1.1 ars 5 s.index) = false) : G3 ars s m pc x = ((d8 ars pc s.value x).1.1, (d8 ars pc s.value x).1.2 ++ [⟨2, s.target, s.index, B8 m (d8 ars pc s.value x).2 (rdE s.target s.index), 0, [], []⟩]) := by
 obtain ⟨kd, tg, ix, vl, ct, bd, el⟩ := s
 have k : kd = 2 := k
 have h : ac0 (i9 (d8 ars pc vl x).1.1 ars 5 ix) = false := h
 rw [G3, if_neg (by omega), if_neg (by omega), if_neg (by omega), if_neg (by omega), if_neg (by rw [h]; decide)]; rfl
end
theorem E1 {nv nw na : Nat} (h : nv ≤ nw) : ∀ (d : Nat) (e : c6), f8 nv na d e = true → f8 nw na d e = true
 | 0, _, hs => by simp [f8] at hs
 | d + 1, e, hs => by
  simp only [f8, ch0, ch8] at hs ⊢
  refine ⟨⟨?_, fun x hx => E1 h d x (hs.1.2 x hx)⟩, hs.2⟩
  have h1 := hs.1.1
  simp only [R7, ch0, decide_eq_true_eq] at h1 ⊢
  refine ⟨h1.1, Int.lt_of_lt_of_le h1.2 ?_⟩
  unfold V0
  (repeat' split) <;> omega
theorem aG7 {nv na : Nat} : ∀ (d : Nat) (e : c6), f8 nv na d e = true → f8 nv na (d + 1) e = true
 | 0, _, hs => by simp [f8] at hs
 | d + 1, e, hs => by
  rw [f8] at hs ⊢
  simp only [ch0, ch8] at hs ⊢
  exact ⟨⟨hs.1.1, fun x hx => aG7 d x (hs.1.2 x hx)⟩, hs.2⟩
theorem a15 {nv na c d : Nat} {e : c6} (h : c ≤ d) (hs : f8 nv na c e = true) : f8 nv na d e = true := by
 induction d with
 | zero => rwa [show c = 0 by omega] at hs
 | succ d ih =>
  rcases cj1 c (d + 1) with hl | hl
  ·exact aG7 d e (ih (by omega))
  ·rwa [show c = d + 1 by omega] at hs
theorem aM8 {ars : List Int} {pc : Int} {nv na d : Nat} {e : c6} {s : LnS} (ha : atomB e = true) (hs : f8 nv na d e = true) : d8 ars pc e s = (s, e) ∧ e.kids = [] := by
 obtain ⟨k, v, ks⟩ := e
 cases d with
 | zero => simp [f8] at hs
 | succ d =>
  have hk : k = 1 ∨ k = 2 := by
   have h := ha
   simp only [atomB, cl1, decide_eq_true_eq] at h
   exact h
  have hn : ks = [] := by
   simp only [f8, R7, ch0, decide_eq_true_eq] at hs
   have h1 := hs.1.1.1.1
   have h2 : s8 k = 0 := by unfold s8; rw [if_pos hk]
   have h3 : (ks.length : Int) = 0 := h1.trans h2
   exact ci7 (by omega)
  subst hn
  refine ⟨?_, rfl⟩
  rw [d8, if_neg (by omega)]
  rfl
theorem a26 {nv na d : Nat} {e : c6} (k : e.kind = 3) (hs : f8 nv na (d + 1) e = true) : ∃ a, e.kids = [a] ∧ atomB a = true ∧ f8 nv na d a = true ∧ a.kids = [] := by
 obtain ⟨kd, v, ks⟩ := e
 have k : kd = 3 := k
 subst k
 simp only [f8, R7, ch0, decide_eq_true_eq] at hs
 have h1 : (ks.length : Int) = 1 := hs.1.1.1.1
 match ks, h1, hs with
 | [a], _, hs =>
  have h2 : atomB a = true := by
   have h := hs.2
   unfold az3 at h
   have h : (decide ((3 : Int) ≠ 3) || atomB a) = true := h
   simpa using h
  have h3 : f8 nv na d a = true := ch8.1 hs.1.2 a (ck1.2 rfl)
  exact ⟨a, rfl, h2, h3, (aM8 (ars := []) (pc := 0) (s := ([], [])) h2 h3).2⟩
theorem a25 {ars : List Int} {pc : Int} {nv na d : Nat} {e : c6} {s : LnS} (k : e.kind = 3) (hs : f8 nv na (d + 1) e = true) : w6 ars pc e.kids s = (s, e.kids) := by
 obtain ⟨a, h1, h2, h3, -⟩ := a26 k hs
 rw [h1]
 have := aM8 (ars := ars) (pc := pc) (s := s) h2 h3
 simp only [w6, this.1]
structure Grw (nv na d : Nat) (sz : Nat) (s : LnS) (r : LnS) : Prop where
 lo : s.1.length ≤ r.1.length
 hi : r.1.length ≤ s.1.length + sz
 st : j5 r.2 ≤ j5 s.2 + 40 * sz
 len : s.2.length ≤ r.2.length
theorem by0 (v a : Int) (i : c6) (hi : i.kids = []) : ∀ n : Nat, j5 (rdL v a i n) = 2 + 9 * n
 | 0 => rfl
 | n + 1 => by
  have h0 : z5 i = 0 := by cases i; simp only [c6.kids] at hi; subst hi; rfl
  rw [rdL, v8, by0 v a i hi n]
  simp [j5, J7, z5, D4, h0]; omega
theorem aV9 (v a : Int) (i : c6) : ∀ n : Nat, (rdL v a i n).length = n + 1
 | 0 => rfl
 | n + 1 => by rw [rdL, ch4, aV9 v a i n]; rfl
theorem bj5 (v t : Int) (i : c6) (m : Int) : ∀ n : Nat, (stL v t i m n).length = n
 | 0 => rfl
 | n + 1 => by rw [stL, ch4, bj5 v t i m n]; rfl
theorem ae9 (m : Int) (e f : c6) : z5 (B8 m e f) ≤ 3 + z5 e + z5 f := by
 unfold B8; split
 ·omega
 ·simp [z5, D4]; omega
theorem bw2 (v t : Int) (i : c6) (m : Int) (hi : i.kids = []) : ∀ n : Nat, j5 (stL v t i m n) ≤ 20 * n
 | 0 => ch5 _
 | n + 1 => by
  have h0 : z5 i = 0 := by cases i; simp only [c6.kids] at hi; subst hi; rfl
  have h1 := bw2 v t i m hi n
  have h2 := ae9 m (ah2 i (n : Int)) (cnE 0)
  have h3 : z5 (ah2 i (n : Int)) = 4 := by simp [z5, D4, h0]
  have h4 : z5 (cnE 0) = 0 := rfl
  rw [stL, v8]
  simp only [j5, J7, z5, D4]
  omega
theorem bo7 {nv na d : Nat} {v : Nat} (h : v < nv) : f8 nv na (d + 1) (vrE (v : Int)) = true := by
 simp [f8, R7, az3, s8, V0, c6.kids, c6.kind, c6.value, h]
theorem bl6 {ars : List Int} {pc : Int} {na d : Nat} (hg : ∀ (e : c6) (s : LnS), f8 s.1.length na d e = true → Grw s.1.length na d (1 + z5 e) s (d8 ars pc e s).1 ∧ f8 (d8 ars pc e s).1.1.length na d (d8 ars pc e s).2 = true ∧ z5 (d8 ars pc e s).2 ≤ z5 e) :
  ∀ (ks : List c6) (s : LnS), (∀ x ∈ ks, f8 s.1.length na d x = true) → Grw s.1.length na d (D4 ks) s (w6 ars pc ks s).1 ∧ (∀ x ∈ (w6 ars pc ks s).2, f8 (w6 ars pc ks s).1.1.length na d x = true) ∧ D4 (w6 ars pc ks s).2 ≤ D4 ks ∧ (w6 ars pc ks s).2.length = ks.length := by
 intro ks
 induction ks with
 | nil => intro s _; exact ⟨⟨ch5 _, ch5 _, ch5 _, ch5 _⟩, fun x hx => (by cases hx), ch5 _, rfl⟩
 | cons x r ih =>
  intro s h
  obtain ⟨g1, g2, g3⟩ := hg x s (h x ck9)
  obtain ⟨k1, k2, k3, k4⟩ := ih (d8 ars pc x s).1 fun y hy => E1 g1.lo d y (h y (ck7 _ hy))
  simp only [w6, D4]
  refine ⟨⟨cj5 g1.lo k1.lo, ?_, ?_, cj5 g1.len k1.len⟩, ?_, ?_, ?_⟩
  ·have := g1.hi; have := k1.hi; omega
  ·have := g1.st; have := k1.st; omega
  ·intro y hy
   rcases ck8.1 hy with rfl | hy
   ·exact E1 k1.lo d _ g2
   ·exact k2 y hy
  ·omega
  ·simp [k4]
theorem al6 (ars : List Int) (pc : Int) (na : Nat) : ∀ (d : Nat) (e : c6) (s : LnS), f8 s.1.length na d e = true →
  Grw s.1.length na d (1 + z5 e) s (d8 ars pc e s).1 ∧ f8 (d8 ars pc e s).1.1.length na d (d8 ars pc e s).2 = true ∧ z5 (d8 ars pc e s).2 ≤ z5 e
 | 0, _, _, hs => by simp [f8] at hs
 | d + 1, e, s, hs => by
  have key := bl6 (ars := ars) (pc := pc) (na := na) (d := d) fun e s h => al6 ars pc na d e s h
  have hs0 := hs
  rw [f8] at hs
  simp only [ch0, ch8] at hs
  obtain ⟨g1, g2, g3, g4⟩ := key e.kids s hs.1.2
  rw [aJ2]
  split
  ·rename_i h
   obtain ⟨a, h1, h2, h3, h4⟩ := a26 h.1 hs0
   have hz : z5 e = 1 := by
    rw [K7, h1]
    have : z5 a = 0 := by rw [K7, h4]; rfl
    simp [D4, this]
   have hr := a25 (ars := ars) (pc := pc) (s := s) h.1 hs0
   have e0 : e.kids.getD 0 cg8 = a := by rw [h1]; rfl
   rw [hr, e0]
   refine ⟨⟨?_, ?_, ?_, ?_⟩, ?_, ?_⟩
   ·simp
   ·simp
   ·simp only [v8, by0 _ _ a h4]; omega
   ·simp
   ·have : f8 (s.1.length + 1) na (d + 1) (vrE (s.1.length : Int)) = true := bo7 (by omega)
    simpa using this
   ·exact cl0 _
  ·rename_i h
   refine ⟨⟨g1.lo, ?_, ?_, g1.len⟩, ?_, ?_⟩
   ·have := g1.hi; rw [K7]; show (w6 ars pc e.kids s).1.1.length ≤ _; omega
   ·have := g1.st; rw [K7]; show j5 (w6 ars pc e.kids s).1.2 ≤ _; omega
   ·rw [f8]
    simp only [ch0, ch8]
    refine ⟨⟨?_, g2⟩, ?_⟩
    ·have h1 := hs.1.1
     simp only [R7, ch0, decide_eq_true_eq] at h1 ⊢
     refine ⟨⟨?_, h1.1.2⟩, Int.lt_of_lt_of_le h1.2 ?_⟩
     ·show (((w6 ars pc e.kids s).2.length : Nat) : Int) = s8 e.kind
      rw [g4]; exact h1.1.1
     ·show V0 s.1.length na e.kind ≤ V0 (w6 ars pc e.kids s).1.1.length na e.kind
      have := g1.lo
      unfold V0
      (repeat' split) <;> omega
    ·by_cases k : e.kind = 3
     ·rw [a25 (ars := ars) (pc := pc) (s := s) k hs0]
      show az3 ⟨e.kind, e.value, e.kids⟩ = true
      rw [c6.eta]; exact hs.2
     ·unfold az3; rw [cl1]; exact .inl (decide_eq_true k)
   ·rw [K7 e]; exact g3
structure GrS (sz : Nat) (x r : LnS) : Prop where
 lo : x.1.length ≤ r.1.length
 hi : r.1.length ≤ x.1.length + 4 * sz
 st : j5 r.2 ≤ j5 x.2 + 130 * sz
 len : x.2.length ≤ r.2.length
theorem GrS.refl (x : LnS) (n : Nat) : GrS n x x := ⟨ch5 _, by omega, by omega, ch5 _⟩
theorem aK0 {nv na : Nat} {s : c5} (h : D2 nv na s = true) (k : s.kind = 2) : s.index.kids = [] ∧ atomB s.index = true ∧ f8 nv na 5 s.index = true := by
 rw [a59 k] at h
 simp only [ch0] at h
 have hs := aj1 h.2.1
 exact ⟨(aM8 (ars := []) (pc := 0) (s := ([], [])) h.2.2.1 hs).2, h.2.2.1, hs⟩
theorem aD0 {e : c6} (h : e.kids = []) : z5 e = 0 := by rw [K7, h]; rfl
theorem aX0 {ars : List Int} {na nv d : Nat} (ih : ∀ (s : c5) (m pc : Int) (x : LnS), j6 nv na d s = true → nv ≤ x.1.length → GrS (1 + J7 s) x (G3 ars s m pc x)) :
  ∀ (ss : List c5) (m pc : Int) (x : LnS), ss.all (j6 nv na d) = true → nv ≤ x.1.length → GrS (j5 ss) x (l9 ars ss m pc x)
 | [], _, _, x, _, _ => GrS.refl x _
 | s :: r, m, pc, x, h, hx => by
  simp only [List.all_cons, ch0] at h
  have h1 := ih s m pc x h.1 hx
  have h2 := aX0 ih r m pc (G3 ars s m pc x) h.2 (cj5 hx h1.lo)
  rw [l9, j5]
  exact ⟨cj5 h1.lo h2.lo, by have := h1.hi; have := h2.hi; omega, by have := h1.st; have := h2.st; omega, cj5 h1.len h2.len⟩
theorem bl7 (ars : List Int) (na nv : Nat) : ∀ (d : Nat) (s : c5) (m pc : Int) (x : LnS), j6 nv na d s = true → nv ≤ x.1.length → GrS (1 + J7 s) x (G3 ars s m pc x)
 | 0, _, _, _, _, h, _ => by simp [j6] at h
 | d + 1, s, m, pc, x, h, hx => by
  have blk := fun (ss : List c5) (m pc : Int) (x : LnS) => aX0 (ars := ars) (na := na) (nv := nv) (d := d) (fun s m pc x => bl7 ars na nv d s m pc x) ss m pc x
  rw [S8, ch0, ch0] at h
  obtain ⟨hh, hb, he⟩ := h
  have hsz : J7 s = z5 s.index + z5 s.value + j5 s.body + j5 s.els := by cases s; rfl
  by_cases k4 : s.kind = 4
  ·rw [ln4 k4]
   have h1 := blk s.body m pc (x.1, []) hb hx
   have a := h1.lo; have b := h1.hi; have c := h1.st
   simp only [j5] at a b c
   have e0 : z5 nnE = 0 := rfl
   refine ⟨a, ?_, ?_, ?_⟩
   ·simp only; omega
   ·simp only [v8, j5, J7, e0]; omega
   ·simp
  have hv : f8 x.1.length na 5 s.value = true := E1 hx 5 _ (z7 hh k4)
  obtain ⟨g1, g2, g3⟩ := al6 ars pc na 5 s.value x hv
  have a0 := g1.lo; have b0 := g1.hi; have c0 := g1.st; have d0 := g1.len
  have e0 : z5 nnE = 0 := rfl
  have e1 : z5 (cnE 0) = 0 := rfl
  by_cases k3 : s.kind = 3
  ·cases hs : ac0 (i9 x.1 ars 5 s.value)
   ·rw [b61 k3 hs]
    have h1 := blk s.body m (l0 pc (i9 x.1 ars 5 s.value)) ((d8 ars pc s.value x).1.1, []) hb (cj5 hx a0)
    have h2 := blk s.els m (l0 pc (i9 x.1 ars 5 s.value)) ((l9 ars s.body m (l0 pc (i9 x.1 ars 5 s.value)) ((d8 ars pc s.value x).1.1, [])).1, []) he (cj5 hx (cj5 a0 h1.lo))
    have a := h1.lo; have b := h1.hi; have c := h1.st
    have a2 := h2.lo; have b2 := h2.hi; have c2 := h2.st
    simp only [j5] at a b c a2 b2 c2
    refine ⟨?_, ?_, ?_, ?_⟩
    ·simp only; omega
    ·simp only; omega
    ·simp only [v8, j5, J7, e0]; omega
    ·simp; omega
   ·rw [b60 k3 hs]
    generalize hl : l0 pc (i9 x.1 ars 5 s.value) = l
    generalize hy : ifM (d8 ars pc s.value x) m l = y
    have y1 : y.1.length = (d8 ars pc s.value x).1.1.length + 2 := by rw [← hy]; simp
    have y2 : j5 y.2 ≤ j5 (d8 ars pc s.value x).1.2 + 20 + z5 (d8 ars pc s.value x).2 := by
     have m1 := ae9 m (d8 ars pc s.value x).2 (cnE 0)
     have m2 := ae9 m ⟨9, 0, [vrE ((d8 ars pc s.value x).1.1.length : Int), cnE 0]⟩ (cnE 0)
     have m3 : z5 ⟨9, 0, [vrE ((d8 ars pc s.value x).1.1.length : Int), cnE 0]⟩ = 2 := rfl
     rw [← hy]
     simp only [ifM, v8, j5, J7, e0]; omega
    have y3 : (d8 ars pc s.value x).1.2.length ≤ y.2.length := by rw [← hy]; simp
    have h1 := blk s.body ((d8 ars pc s.value x).1.1.length : Int) l y hb (by omega)
    have h2 := blk s.els (((d8 ars pc s.value x).1.1 ++ [l]).length : Int) l (l9 ars s.body ((d8 ars pc s.value x).1.1.length : Int) l y) he (by have := h1.lo; omega)
    have a := h1.lo; have b := h1.hi; have c := h1.st; have d1 := h1.len
    have a2 := h2.lo; have b2 := h2.hi; have c2 := h2.st; have d2 := h2.len
    exact ⟨by omega, by omega, by omega, by omega⟩
  by_cases k5 : s.kind = 5
  ·rw [ln5 k5]
   refine ⟨a0, ?_, ?_, ?_⟩
   ·simp only; omega
   ·simp only [v8, j5, J7, e0]; omega
   ·simp; omega
  by_cases k1 : s.kind = 1
  ·rw [ln1 k1]
   have m1 := ae9 m (d8 ars pc s.value x).2 (vrE s.target)
   have m2 : z5 (vrE s.target) = 0 := rfl
   refine ⟨a0, ?_, ?_, ?_⟩
   ·simp only; omega
   ·simp only [v8, j5, J7, e0]; omega
   ·simp; omega
  by_cases k2 : s.kind = 2
  ·obtain ⟨q1, -, -⟩ := aK0 hh k2
   cases hs : ac0 (i9 (d8 ars pc s.value x).1.1 ars 5 s.index)
   ·rw [b63 k2 hs]
    have m1 := ae9 m (d8 ars pc s.value x).2 (rdE s.target s.index)
    have m2 : z5 (rdE s.target s.index) = 1 := by simp [z5, D4, aD0 q1]
    have m3 := aD0 q1
    refine ⟨a0, ?_, ?_, ?_⟩
    ·simp only; omega
    ·simp only [v8, j5, J7]; omega
    ·simp; omega
   ·rw [b62 k2 hs]
    have m1 := bw2 ((d8 ars pc s.value x).1.1.length : Int) s.target s.index m q1 4
    refine ⟨?_, ?_, ?_, ?_⟩
    ·simp; omega
    ·simp; omega
    ·simp only [v8, j5, J7, e0]; omega
    ·simp; omega
  ·rw [ao1 ⟨k1, k2, k3, k4, k5⟩] at hh; cases hh
theorem aX1 (ars : List Int) {na nv d : Nat} (ss : List c5) (m pc : Int) (x : LnS) (h : ss.all (j6 nv na d) = true) (hx : nv ≤ x.1.length) : GrS (j5 ss) x (l9 ars ss m pc x) := aX0 (bl7 ars na nv d) ss m pc x h hx
theorem as3 {nv na : Nat} {e : c6} (h : r9 nv na e = true) : z5 e ≤ 14 := by
 unfold r9 at h; simp only [ch0, decide_eq_true_eq] at h; omega
theorem aC8 {e : c6} (h : noneB e = true) : z5 e = 0 := by
 unfold noneB at h; simp only [ch0, decide_eq_true_eq] at h
 exact aD0 (ci7 h.2)
theorem bj2 {nv na d : Nat} (ih : ∀ s : c5, j6 nv na d s = true → 1 + J7 s ≤ 29 * nS s) : ∀ ss : List c5, ss.all (j6 nv na d) = true → j5 ss ≤ 29 * V2 ss
 | [], _ => ch5 _
 | s :: r, h => by
  simp only [List.all_cons, ch0] at h
  have h1 := ih s h.1
  have h2 := bj2 ih r h.2
  rw [j5, V2]; omega
theorem bv6 {nv na : Nat} : ∀ (d : Nat) (s : c5), j6 nv na d s = true → 1 + J7 s ≤ 29 * nS s
 | 0, _, h => by simp [j6] at h
 | d + 1, s, h => by
  rw [S8, ch0, ch0] at h
  obtain ⟨hh, hb, he⟩ := h
  have h1 := bj2 (fun s => bv6 d s) s.body hb
  have h2 := bj2 (fun s => bv6 d s) s.els he
  have hsz : J7 s = z5 s.index + z5 s.value + j5 s.body + j5 s.els := by cases s; rfl
  have hn := aw4 s
  have key : z5 s.index + z5 s.value ≤ 28 := by
   by_cases k4 : s.kind = 4
   ·rw [b76 k4] at hh; simp only [ch0] at hh
    have := aC8 hh.2.1; have := aC8 hh.2.2; omega
   by_cases k3 : s.kind = 3
   ·rw [bR5 k3] at hh; simp only [ch0] at hh
    have := aC8 hh.2.1; have := as3 hh.2.2; omega
   by_cases k15 : s.kind = 1 ∨ s.kind = 5
   ·rw [bD0 k15] at hh; simp only [ch0] at hh
    have := aC8 hh.2.1; have := as3 hh.2.2; omega
   by_cases k2 : s.kind = 2
   ·rw [a59 k2] at hh; simp only [ch0] at hh
    have := as3 hh.2.1; have := as3 hh.2.2.2; omega
   ·rw [ao1 (by omega)] at hh; cases hh
  omega
def aJ1 (p : i5) : LnS := l9 p.arrays p.body (-1) 0 (p.vars, [])
def br0 (p : i5) : i5 := ⟨(aJ1 p).1, p.arrays, (aJ1 p).2⟩
theorem ac6 {p : i5} (h : l8 p = true) : p.vars.length ≤ 12 ∧ p.arrays.length ≤ 2 ∧ j5 p.body ≤ 1740 := by
 unfold l8 E3 ag0 at h
 simp only [ch0, decide_eq_true_eq] at h
 have := bj2 (bv6 5) p.body h.1.2
 omega
theorem bl8 {p : i5} (h : l8 p = true) : p.vars.length ≤ (aJ1 p).1.length ∧ (aJ1 p).1.length ≤ 7000 ∧ j5 (aJ1 p).2 ≤ 230000 := by
 have hz := ac6 h
 have hb : p.body.all (j6 p.vars.length p.arrays.length 5) = true := (aw1 h).2.2.2
 have g := aX1 p.arrays p.body (-1) 0 (p.vars, []) hb (ch5 _)
 have a := g.lo; have b := g.hi; have c := g.st
 simp only [j5] at a b c
 unfold aJ1
 omega
theorem bL8 {p : i5} (h : l8 p = true) : (br0 p).size ≤ 240000 := by
 have h1 := bl8 h
 have h2 := ac6 h
 show (aJ1 p).1.length + p.arrays.length + j5 (aJ1 p).2 ≤ _
 omega
def okL (p : i5) : Bool := decide ((V9 p false).1 = 0) && l8 (br0 p)
def G0 (p : i5) : i5 := if okL p = true then br0 p else ⟨[], [], []⟩
theorem af3 {p : i5} (h : (V9 p false).1 = 0) : l8 p = true := ((bO0 p false).1 h).1
theorem b48 {p : i5} (h : ¬ (V9 p false).1 = 0) : okL p = false := by unfold okL; rw [decide_eq_false h, Bool.false_and]
theorem bQ8 {p : i5} (h : l8 (br0 p) = false) : okL p = false := by unfold okL; rw [h, Bool.and_false]
theorem bQ7 {p : i5} (h : (V9 p false).1 = 0) (h2 : l8 (br0 p) = true) : okL p = true := by unfold okL; rw [decide_eq_true h, h2]; rfl
theorem bl5 {p : i5} (h : okL p = false) : G0 p = ⟨[], [], []⟩ := by unfold G0; rw [h]; rfl
theorem bQ9 {p : i5} (h : okL p = true) : G0 p = br0 p := by unfold G0; rw [h]; rfl
theorem bW9 (p : i5) : (G0 p).size ≤ 240000 := by
 cases h : okL p
 ·rw [bl5 h]; simp [i5.size, j5]
 ·rw [bQ9 h]
  unfold okL at h
  simp only [ch0, decide_eq_true_eq] at h
  exact bL8 (af3 h.1)
theorem aK9 {nv na d k : Nat} {ss : List c5} (hs : ss.all (j6 nv na (d + 1)) = true) (hk : k < ss.length) : D2 nv na (ss.getD k cg8) = true ∧ (ss.getD k cg8).body.all (j6 nv na d) = true ∧ (ss.getD k cg8).els.all (j6 nv na d) = true := by
 have h := ch8.1 hs _ (cj2 hk)
 rw [S8, ch0, ch0] at h
 rw [m0 hk]; exact h
abbrev lqC (l : List d7) (fr : List Int) (at0 : Int) (s : c5) (d : Int) : j8 := ⟨199, [.agg [.ref 0, .ref 1, iA at0], sA s 2, iA d], [rN l, rI fr] ++ sS s, [.dead, .dead] ++ sS s ++ [rN (S4 s d (l, fr, at0)).1, rI (S4 s d (l, fr, at0)).2.1], .agg [.ref 6, .ref 7, iA (S4 s d (l, fr, at0)).2.2]⟩
abbrev lrC (l : List d7) (fr : List Int) (at0 : Int) (ss : List c5) (d : Int) : j8 := ⟨146, [.agg [.ref 0, .ref 1, iA at0], .ref 2, iA d], [rN l, rI fr, dT ss], [.dead, .dead, dT ss, rN (m7 ss d (l, fr, at0)).1, rI (m7 ss d (l, fr, at0)).2.1], .agg [.ref 3, .ref 4, iA (m7 ss d (l, fr, at0)).2.2]⟩
mutual
theorem bY9 : ∀ (s : c5) (d : Int) (x : M8), x.2.2 ≤ (S4 s d x).2.2 ∧ (S4 s d x).2.2 ≤ x.2.2 + nS s
 | ⟨k, t, i, v, c, b, e⟩, d, x => by
  rw [S4, nS]
  split
  ·have h := ak3 b (d + 1) (G4 (x.1, x.2.1, x.2.2 + 1) x.2.2 [⟨1, 9 + d, c, 0, 0⟩])
   simp only [G4] at h ⊢
   omega
  ·split
   ·simp only [G4]; omega
   ·split
    ·simp only [G4]; omega
    ·split
     ·simp only [G4]; omega
     ·simp only
      generalize hy : G4 (x.1, x.2.1, x.2.2 + 1) x.2.2 (c8 v 0) = y
      have hy1 : y.2.2 = x.2.2 + 1 := by rw [← hy]; rfl
      have h1 := ak3 b (d + 1) (G4 y x.2.2 [⟨9, 0, 0, 0, 0⟩])
      generalize m7 b (d + 1) (G4 y x.2.2 [⟨9, 0, 0, 0, 0⟩]) = z at h1 ⊢
      have h2 := ak3 e (d + 1) (by3 (G4 z x.2.2 [⟨8, 0, 0, 0, 0⟩]).1 y.1.length ((G4 z x.2.2 [⟨8, 0, 0, 0, 0⟩]).1.length : Int), (G4 z x.2.2 [⟨8, 0, 0, 0, 0⟩]).2)
      simp only [G4] at h1 h2 ⊢
      omega
theorem ak3 : ∀ (ss : List c5) (d : Int) (x : M8), x.2.2 ≤ (m7 ss d x).2.2 ∧ (m7 ss d x).2.2 ≤ x.2.2 + V2 ss
 | [], _, x => by simp [m7, V2]
 | s :: r, d, x => by
  have h1 := bY9 s d x
  have h2 := ak3 r d (S4 s d x)
  rw [m7, V2]
  omega
end
section
variable {l : List d7} {fr : List Int} {at0 d : Int} {s : c5}
theorem cm1 (k : s.kind = 1) : S4 s d (l, fr, at0) = (l ++ c8 s.value 0 ++ [⟨3, s.target, 0, 0, 0⟩], fr ++ cg9 (c8 s.value 0).length at0 ++ [at0], at0 + 1) := by
 obtain ⟨kd, tg, ix, vl, ct, bd, el⟩ := s
 have k : kd = 1 := k
 rw [S4]
 simp only [k, Int.reduceEq, if_true, if_false]
 rfl
theorem cm5 (k : s.kind = 5) : S4 s d (l, fr, at0) = (l ++ c8 s.value 0 ++ [⟨11, 0, 0, 0, 0⟩] ++ [⟨3, s.target, 0, 0, 0⟩], fr ++ cg9 (c8 s.value 0).length at0 ++ [at0] ++ [at0], at0 + 1) := by
 obtain ⟨kd, tg, ix, vl, ct, bd, el⟩ := s
 have k : kd = 5 := k
 rw [S4]
 simp only [k, Int.reduceEq, if_true, if_false]
 rfl
theorem cm2 (k : s.kind = 2) : S4 s d (l, fr, at0) = (l ++ c8 s.value 0 ++ c8 s.index 1 ++ [⟨5, s.target, 1, 0, 0⟩], fr ++ cg9 (c8 s.value 0).length at0 ++ cg9 (c8 s.index 1).length at0 ++ [at0], at0 + 1) := by
 obtain ⟨kd, tg, ix, vl, ct, bd, el⟩ := s
 have k : kd = 2 := k
 rw [S4]
 simp only [k, Int.reduceEq, if_true, if_false]
 rfl
theorem cm4 (k : s.kind = 4) : S4 s d (l, fr, at0) = ((m7 s.body (d + 1) (l ++ [⟨1, 9 + d, s.count, 0, 0⟩], fr ++ [at0], at0 + 1)).1 ++ [⟨10, 9 + d, (((l ++ [(⟨1, 9 + d, s.count, 0, 0⟩ : d7)]).length : Nat) : Int), 0, 0⟩], (m7 s.body (d + 1) (l ++ [⟨1, 9 + d, s.count, 0, 0⟩], fr ++ [at0], at0 + 1)).2.1 ++ [at0], (m7 s.body (d + 1) (l ++ [⟨1, 9 + d, s.count, 0, 0⟩], fr ++ [at0], at0 + 1)).2.2) := by
 obtain ⟨kd, tg, ix, vl, ct, bd, el⟩ := s
 have k : kd = 4 := k
 rw [S4]
 simp only [k, if_true, ch4, ch7, ci2]
 rfl
abbrev w3C (l : List d7) (fr : List Int) (at0 d : Int) (s : c5) : M8 := m7 s.body (d + 1) (l ++ c8 s.value 0 ++ [⟨9, 0, 0, 0, 0⟩], fr ++ cg9 (c8 s.value 0).length at0 ++ [at0], at0 + 1)
abbrev w6C (l : List d7) (fr : List Int) (at0 d : Int) (s : c5) : M8 := m7 s.els (d + 1) (by3 ((w3C l fr at0 d s).1 ++ [⟨8, 0, 0, 0, 0⟩]) (l ++ c8 s.value 0).length ((((w3C l fr at0 d s).1 ++ [(⟨8, 0, 0, 0, 0⟩ : d7)]).length : Nat) : Int), (w3C l fr at0 d s).2.1 ++ [at0], (w3C l fr at0 d s).2.2)
theorem cm3 (k : s.kind = 3) : S4 s d (l, fr, at0) = (bV0 (w6C l fr at0 d s).1 (w3C l fr at0 d s).1.length (((w6C l fr at0 d s).1.length : Nat) : Int), (w6C l fr at0 d s).2.1, (w6C l fr at0 d s).2.2) := by
 obtain ⟨kd, tg, ix, vl, ct, bd, el⟩ := s
 have k : kd = 3 := k
 rw [S4]
 simp only [k, Int.reduceEq, if_false, G4, ch4, ch7, ci2, Nat.add_sub_cancel, cl4, List.replicate_one, w6C, w3C]
 rfl
theorem ak2 (ss : List c5) (d : Int) (x : M8) : (m7 ss d x).1.length = x.1.length + aO0 ss := (M5 ss d x).1
theorem b81 (h : l.length + (4 + 4 * J7 s) ≤ 5000000) : l.length + z5 s.value ≤ 5000000 ∧ (0 : Int) + z5 s.value ≤ 2000000 ∧ (l ++ c8 s.value 0).length + z5 s.index ≤ 5000000 ∧ (1 : Int) + z5 s.index ≤ 2000000 ∧ (l ++ c8 s.value 0 ++ c8 s.index 1).length + 4 ≤ 5000010 := by
 have h1 := Y9 s.value 0
 have h2 := Y9 s.index 1
 have h3 : J7 s = z5 s.index + z5 s.value + j5 s.body + j5 s.els := by cases s; rfl
 simp only [ch4]
 omega
end
abbrev P8 (s : c5) (l : List d7) (fr : List Int) (at0 : Int) (d : Int) := m7 s.els (d + 1) (((m7 s.body (d + 1) (l ++ c8 s.value 0 ++ [d7.mk 9 0 0 0 0], fr ++ cg9 (c8 s.value 0).length at0 ++ [at0], at0 + 1)).fst ++ [d7.mk 8 0 0 0 0]).set (l ++ c8 s.value 0).length (d7.mk (((m7 s.body (d + 1) (l ++ c8 s.value 0 ++ [d7.mk 9 0 0 0 0], fr ++ cg9 (c8 s.value 0).length at0 ++ [at0], at0 + 1)).fst ++ [d7.mk 8 0 0 0 0]).getD (l ++ c8 s.value 0).length cg8).op (((m7 s.body (d + 1) (l ++ c8 s.value 0 ++ [d7.mk 9 0 0 0 0], fr ++ cg9 (c8 s.value 0).length at0 ++ [at0], at0 + 1)).fst ++ [d7.mk 8 0 0 0 0]).getD (l ++ c8 s.value 0).length cg8).a (((m7 s.body (d + 1) (l ++ c8 s.value 0 ++ [d7.mk 9 0 0 0 0], fr ++ cg9 (c8 s.value 0).length at0 ++ [at0], at0 + 1)).fst ++ [d7.mk 8 0 0 0 0]).length : Int) (((m7 s.body (d + 1) (l ++ c8 s.value 0 ++ [d7.mk 9 0 0 0 0], fr ++ cg9 (c8 s.value 0).length at0 ++ [at0], at0 + 1)).fst ++ [d7.mk 8 0 0 0 0]).getD (l ++ c8 s.value 0).length cg8).c (((m7 s.body (d + 1) (l ++ c8 s.value 0 ++ [d7.mk 9 0 0 0 0], fr ++ cg9 (c8 s.value 0).length at0 ++ [at0], at0 + 1)).fst ++ [d7.mk 8 0 0 0 0]).getD (l ++ c8 s.value 0).length cg8).d), (m7 s.body (d + 1) (l ++ c8 s.value 0 ++ [d7.mk 9 0 0 0 0], fr ++ cg9 (c8 s.value 0).length at0 ++ [at0], at0 + 1)).snd.fst ++ [at0], (m7 s.body (d + 1) (l ++ c8 s.value 0 ++ [d7.mk 9 0 0 0 0], fr ++ cg9 (c8 s.value 0).length at0 ++ [at0], at0 + 1)).snd.snd)
abbrev C4 (s : c5) (l : List d7) (fr : List Int) (at0 : Int) (d : Int) := m7 s.body (d + 1) (l ++ c8 s.value 0 ++ [d7.mk 9 0 0 0 0], fr ++ cg9 (c8 s.value 0).length at0 ++ [at0], at0 + 1)
abbrev av0 (s : c5) (l : List d7) (fr : List Int) (at0 : Int) (d : Int) := m7 s.body (d + 1) (l ++ c8 s.value 0 ++ [d7.mk 1 (9 + d) s.count 0 0], fr ++ cg9 (c8 s.value 0).length at0 ++ [at0], at0 + 1)
abbrev ah9 (s : c5) (l : List d7) (fr : List Int) (at0 : Int) (d : Int) := m7 s.body (d + 1) (l ++ [d7.mk 1 (9 + d) s.count 0 0], fr ++ [at0], at0 + 1)
abbrev V5 (s : c5) (l : List d7) (fr : List Int) (at0 : Int) (d : Int) : List It := [.dead, .dead, dE s.index.kids, dE s.value.kids, dT s.body, dT s.els, .row 86 (D.instrs (S4 s d (l, fr, at0)).fst), .row 3 (D.ints (S4 s d (l, fr, at0)).snd.fst)]
abbrev bu4 (s : c5) (l : List d7) (fr : List Int) (at0 : Int) (d : Int) : It := .row 86 (D.instrs ((P8 s l fr at0 d).fst.set (C4 s l fr at0 d).fst.length (d7.mk ((P8 s l fr at0 d).fst.getD (C4 s l fr at0 d).fst.length cg8).op ((P8 s l fr at0 d).fst.length : Int) ((P8 s l fr at0 d).fst.getD (C4 s l fr at0 d).fst.length cg8).b ((P8 s l fr at0 d).fst.getD (C4 s l fr at0 d).fst.length cg8).c ((P8 s l fr at0 d).fst.getD (C4 s l fr at0 d).fst.length cg8).d)))
abbrev O2 : It := .box [.v (.slice none 0 0), .v (.slice none 0 0), iA 0]
abbrev ae1 (at0 : Int) : It := .box [.ref 9, .ref 10, iA (at0 + 1)]
abbrev aT6 (s : c5) (fr : List Int) (at0 : Int) : It := .row 3 (D.ints (fr ++ cg9 (c8 s.value 0).length at0 ++ [at0]))
abbrev G9 (s : c5) (r0 : List It) : List It := .dead :: .dead :: dE s.index.kids :: dE s.value.kids :: dT s.body :: dT s.els :: r0
abbrev F7 (at0 : Int) (d : Int) (r0 : List (Nat × AV)) : List (Nat × AV) := (2, iA d) :: (3, .ptr 6 0) :: (4, .ptr 7 0) :: (6, .ptr 8 0) :: (7, iA at0) :: r0
theorem a20 (nv na dd : Nat) (s : c5) (hh : D2 nv na s = true) (hbb : s.body.all (j6 nv na dd) = true) (hbe : s.els.all (j6 nv na dd) = true)
    (ih : ∀ (tt : List c5) (l : List d7) (fr : List Int) (at0 d : Int), tt.all (j6 nv na dd) = true → l.length + 4 * j5 tt ≤ 5000000 → fr.length = l.length → 0 ≤ d → d + dd ≤ 100 → 0 ≤ at0 → at0 + V2 tt ≤ 5000000 → j8.ok Tryz.prog (lrC l fr at0 tt d))
    (l : List d7) (fr : List Int) (at0 d : Int) (r1 : l.length + (4 + 4 * J7 s) ≤ 5000000) (r2 : fr.length = l.length) (r3 : 0 ≤ d) (r4 : d + (dd + 1) ≤ 100) (r5 : 0 ≤ at0) (r6 : at0 + nS s ≤ 5000000) : j8.ok Tryz.prog (lqC l fr at0 s d) := by
  refine E2 130 Tryz.func199 [.row 86 (D.instrs l), .row 3 (D.ints fr), dE s.index.kids, dE s.value.kids, dT s.body, dT s.els] [(0, .agg [.ref 0, .ref 1, iA at0]), (1, sA s 2), (2, iA d)] fun G => ?_; have hn := aw4 s; have hft := b81 r1
  have hsz : J7 s = z5 s.index + z5 s.value + j5 s.body + j5 s.els := by cases s; rfl
  have hv := Y9 s.value 0; refine wp_seq (j7 G d9 [0, 1, 2, 3, 4, 5, 6, 14, 22] [.row 86 (D.instrs l), .row 3 (D.ints fr), dE s.index.kids, dE s.value.kids, dT s.body, dT s.els, .box [.ref 0, .ref 1, iA at0], .box (sL s 2), O2] [(2, iA d), (3, .ptr 6 0), (4, .ptr 7 0), (6, .ptr 8 0)] fun G => b6 (wp_seq (k8 G d9 [(7, iA at0)] fun G => b6 (wp_seq (N0 G d9 (rg 9) [.row 86 (D.instrs l), .row 3 (D.ints fr), dE s.index.kids, dE s.value.kids, dT s.body, dT s.els, .box [.ref 0, .ref 1, iA (at0 + 1)], .box (sL s 2), O2] (F7 at0 d []) [wO (at0 + 1)] (o1 (by omega)) fun G => b6 (wp_seq (wp_seq (k8 G d9 [(20, bA (s.kind != 4))] fun G => b6 (rcN G (fun h0 q0 => ?_) fun h0 q0 => ?_)))))))))
  ·
   refine wp_skip (b6 (wp_seq (wp_seq (k8 G d9 [(27, iA s.kind)] fun G => b6 (wp_block (wp_seq (C6 G d9 (F7 at0 d [(27, iA s.kind), (28, bA (s.kind == 1))]) fun G => b6 ?_))))))); cases h1 : (s.kind == 1)
   ·
    have q1 := ne_of_beq_false h1; refine rF G _ h1 (wp_seq (C6 G d9 (F7 at0 d [(27, iA s.kind), (36, bA (s.kind == 5))]) fun G => b6 ?_)); cases h2 : (s.kind == 5)
    ·
     have q2 := ne_of_beq_false h2; refine rF G _ h2 (wp_seq (C6 G d9 (F7 at0 d [(27, iA s.kind), (48, bA (s.kind == 2))]) fun G => b6 ?_)); cases h3 : (s.kind == 2)
     ·
      have q3 := ne_of_beq_false h3; refine rF G _ h3 (wp_seq (C6 G d9 (F7 at0 d [(61, bA (s.kind == 3))]) fun G => b6 ?_)); cases h4 : (s.kind == 3)
      · have q4 := ne_of_beq_false h4; refine rF G _ h4 (wp_skip (k6 (b6 (wp_seq (D0 G d9 [(10, iA (9 + d))] [wO ((9 : Int) + d)] (o1 (by omega)) fun G => b6 (wp_seq (j7 G (s7 6 [0, 1] (F5 l fr (at0 + 1) at0 1 (9 + d) s.count 0 0 (by omega) (by omega))) [0, 1, 2, 3, 4, 5, 6, 7, 8, 57, 58] (G9 s [ae1 at0, .box (sL s 2), O2, .row 86 (D.instrs (l ++ [d7.mk 1 (9 + d) s.count 0 0])), .row 3 (D.ints (fr ++ [at0]))]) (F7 at0 d [(10, iA (9 + d))]) fun G => b6 (wp_seq (k8 G d9 [(11, iA ((l ++ [d7.mk 1 (9 + d) s.count 0 0]).length : Int))] fun G => b6 (wp_seq (N0 G (s7 5 [9, 10, 4] (ih s.body (l ++ [d7.mk 1 (9 + d) s.count 0 0]) (fr ++ [at0]) (at0 + 1) (d + 1) (by assumption) (by simp only [ch4, cj0, ch7, ci2, r2]; have := hft.2.2.2.2; simp only [ch4] at this; omega) (by have := hft.2.2.2.2; simp only [ch4, ch7, ci2] at this ⊢; omega) (by omega) (by omega) (by omega) (by omega))) [0, 1, 2, 3, 4, 5, 6, 8, 51, 52] (G9 s [.box [.ref 8, .ref 9, iA (ah9 s l fr at0 d).snd.snd], O2, .row 86 (D.instrs (ah9 s l fr at0 d).fst), .row 3 (D.ints (ah9 s l fr at0 d).snd.fst)]) [(3, .ptr 6 0), (6, .ptr 7 0), (7, iA at0), (10, iA (9 + d)), (11, iA ((l ++ [d7.mk 1 (9 + d) s.count 0 0]).length : Int))] [wO (d + 1)] (o1 (by omega)) fun G => b6 (wp_seq (j7 G (s7 5 [8, 9] (F5 ((m7 s.body (d + 1) (l ++ [d7.mk 1 (9 + d) s.count 0 0], fr ++ [at0], at0 + 1)).fst) ((m7 s.body (d + 1) (l ++ [d7.mk 1 (9 + d) s.count 0 0], fr ++ [at0], at0 + 1)).snd.fst) ((m7 s.body (d + 1) (l ++ [d7.mk 1 (9 + d) s.count 0 0], fr ++ [at0], at0 + 1)).snd.snd) at0 10 (9 + d) (((l ++ [d7.mk 1 (9 + d) s.count 0 0]).length : Int)) 0 0 (by have := (M5 s.body (d + 1) (l ++ [⟨1, 9 + d, s.count, 0, 0⟩], fr ++ [at0], at0 + 1)); have := Q6 s.body; simp only [ch4, ch7, ci2] at *; omega) (by have := (M5 s.body (d + 1) (l ++ [⟨1, 9 + d, s.count, 0, 0⟩], fr ++ [at0], at0 + 1)); have := Q6 s.body; simp only [ch4, ch7, ci2] at *; omega))) [0, 1, 2, 3, 4, 5, 7, 50, 51] (G9 s [.box [.ref 7, .ref 8, iA (ah9 s l fr at0 d).snd.snd], .row 86 (D.instrs ((ah9 s l fr at0 d).fst ++ [d7.mk 10 (9 + d) ((l ++ [d7.mk 1 (9 + d) s.count 0 0]).length : Int) 0 0])), .row 3 (D.ints ((ah9 s l fr at0 d).snd.fst ++ [at0]))]) [(6, .ptr 6 0)] fun G => b6 (wp_ret ?_)))))))))))))); exact T7 (.agg [.ref 7, .ref 8, iA (m7 s.body (d + 1) (l ++ [d7.mk 1 (9 + d) s.count 0 0], fr ++ [at0], at0 + 1)).snd.snd]) G [0, 1, 2, 3, 4, 5, 7, 8] (by have e1 : ((S4 s d (l, fr, at0)).snd.snd : Int) = ((m7 s.body (d + 1) (l ++ [d7.mk 1 (9 + d) s.count 0 0], fr ++ [at0], at0 + 1)).snd.snd) := (by have h9 := congrArg (fun x : M8 => x.2.2) (cm4 (l := l) (fr := fr) (at0 := at0) (d := d) (s := s) (by omega)); exact h9); (first | rw [e1] | simp only [e1]) <;> rfl) (by show _ = mR [0, 1, 2, 3, 4, 5, 7, 8] (V5 s l fr at0 d); unfold V5; have e1 : ((S4 s d (l, fr, at0)).fst : List d7) = ((ah9 s l fr at0 d).fst ++ [d7.mk 10 (9 + d) ((l ++ [d7.mk 1 (9 + d) s.count 0 0]).length : Int) 0 0]) := (congrArg Prod.fst (cm4 (by omega))); have e2 : ((S4 s d (l, fr, at0)).snd.fst : List Int) = ((ah9 s l fr at0 d).snd.fst ++ [at0]) := (congrArg (fun x : M8 => x.2.1) (cm4 (by omega))); (first | rw [e1, e2] | simp only [e1, e2]) <;> rfl)
      · have q4 := eq_of_beq h4; exact False.elim (by omega)
     · have q3 := eq_of_beq h3; exact False.elim (by omega)
    · have q2 := eq_of_beq h2; exact False.elim (by omega)
   · have q1 := eq_of_beq h1; exact False.elim (by omega)
  ·
   refine j7 G (s7 4 [0, 1, 3] (a75 s.value l fr (at0 + 1) at0 0 (by omega) (by omega) (by omega) (by assumption))) [0, 1, 2, 3, 4, 5, 6, 7, 8, 41, 42] (G9 s [ae1 at0, .box (sL s 2), O2, .row 86 (D.instrs (l ++ c8 s.value 0)), .row 3 (D.ints (fr ++ cg9 (c8 s.value 0).length at0))]) (F7 at0 d []) fun G => b6 (wp_seq (wp_seq (k8 G d9 [(27, iA s.kind)] fun G => b6 (wp_block (wp_seq (k8 G d9 [(28, bA (s.kind == 1))] fun G => b6 (J1 G (fun h5 q5 => ?_) fun h5 q5 => ?_)))))))
   ·
    refine wp_seq (k8 G d9 [(36, bA (s.kind == 5))] fun G => b6 (J1 G (fun h6 q6 => ?_) fun h6 q6 => ?_))
    ·
     refine wp_seq (k8 G d9 [(48, bA (s.kind == 2))] fun G => b6 (J1 G (fun h7 q7 => ?_) fun h7 q7 => ?_))
     ·
      refine wp_seq (k8 G d9 [(61, bA (s.kind == 3))] fun G => b6 (J1 G (fun h8 q8 => ?_) fun h8 q8 => ?_))
      · refine wp_skip (k6 (b6 (wp_seq (D0 G d9 [(10, iA (9 + d))] [wO ((9 : Int) + d)] (o1 (by omega)) fun G => b6 (wp_seq (j7 G (s7 6 [9, 10] (F5 (l ++ c8 s.value 0) (fr ++ cg9 (c8 s.value 0).length at0) (at0 + 1) at0 1 (9 + d) s.count 0 0 (by omega) (by simp only [ch4, cj0, ch7, ci2, r2]; have := hft.2.2.2.2; simp only [ch4] at this; omega))) [0, 1, 2, 3, 4, 5, 6, 7, 8, 59, 60] (G9 s [ae1 at0, .box (sL s 2), O2, .row 86 (D.instrs (l ++ c8 s.value 0 ++ [d7.mk 1 (9 + d) s.count 0 0])), aT6 s fr at0]) (F7 at0 d [(10, iA (9 + d))]) fun G => b6 (wp_seq (k8 G d9 [(11, iA ((l ++ c8 s.value 0 ++ [d7.mk 1 (9 + d) s.count 0 0]).length : Int))] fun G => b6 (wp_seq (N0 G (s7 5 [9, 10, 4] (ih s.body (l ++ c8 s.value 0 ++ [d7.mk 1 (9 + d) s.count 0 0]) (fr ++ cg9 (c8 s.value 0).length at0 ++ [at0]) (at0 + 1) (d + 1) (by assumption) (by simp only [ch4, cj0, ch7, ci2, r2]; have := hft.2.2.2.2; simp only [ch4] at this; omega) (by exact absurd (hh.symm.trans (ao1 (by omega))) (by decide)) (by omega) (by omega) (by omega) (by omega))) [0, 1, 2, 3, 4, 5, 6, 8, 51, 52] (G9 s [.box [.ref 8, .ref 9, iA (av0 s l fr at0 d).snd.snd], O2, .row 86 (D.instrs (av0 s l fr at0 d).fst), .row 3 (D.ints (av0 s l fr at0 d).snd.fst)]) [(3, .ptr 6 0), (6, .ptr 7 0), (7, iA at0), (10, iA (9 + d)), (11, iA ((l ++ c8 s.value 0 ++ [d7.mk 1 (9 + d) s.count 0 0]).length : Int))] [wO (d + 1)] (o1 (by omega)) fun G => b6 (wp_seq (j7 G (s7 5 [8, 9] (F5 ((m7 s.body (d + 1) (l ++ c8 s.value 0 ++ [d7.mk 1 (9 + d) s.count 0 0], fr ++ cg9 (c8 s.value 0).length at0 ++ [at0], at0 + 1)).fst) ((m7 s.body (d + 1) (l ++ c8 s.value 0 ++ [d7.mk 1 (9 + d) s.count 0 0], fr ++ cg9 (c8 s.value 0).length at0 ++ [at0], at0 + 1)).snd.fst) ((m7 s.body (d + 1) (l ++ c8 s.value 0 ++ [d7.mk 1 (9 + d) s.count 0 0], fr ++ cg9 (c8 s.value 0).length at0 ++ [at0], at0 + 1)).snd.snd) at0 10 (9 + d) (((l ++ c8 s.value 0 ++ [d7.mk 1 (9 + d) s.count 0 0]).length : Int)) 0 0 (by exact absurd (hh.symm.trans (ao1 (by omega))) (by decide)) (by exact absurd (hh.symm.trans (ao1 (by omega))) (by decide)))) [0, 1, 2, 3, 4, 5, 7, 50, 51] (G9 s [.box [.ref 7, .ref 8, iA (av0 s l fr at0 d).snd.snd], .row 86 (D.instrs ((av0 s l fr at0 d).fst ++ [d7.mk 10 (9 + d) ((l ++ c8 s.value 0 ++ [d7.mk 1 (9 + d) s.count 0 0]).length : Int) 0 0])), .row 3 (D.ints ((av0 s l fr at0 d).snd.fst ++ [at0]))]) [(6, .ptr 6 0)] fun G => b6 (wp_ret ?_))))))))))))); exact T7 (.agg [.ref 7, .ref 8, iA (m7 s.body (d + 1) (l ++ c8 s.value 0 ++ [d7.mk 1 (9 + d) s.count 0 0], fr ++ cg9 (c8 s.value 0).length at0 ++ [at0], at0 + 1)).snd.snd]) G [0, 1, 2, 3, 4, 5, 7, 8] (by have e1 : ((S4 s d (l, fr, at0)).snd.snd : Int) = ((m7 s.body (d + 1) (l ++ c8 s.value 0 ++ [d7.mk 1 (9 + d) s.count 0 0], fr ++ cg9 (c8 s.value 0).length at0 ++ [at0], at0 + 1)).snd.snd) := (by exact absurd (hh.symm.trans (ao1 (by omega))) (by decide)); (first | rw [e1] | simp only [e1]) <;> rfl) (by show _ = mR [0, 1, 2, 3, 4, 5, 7, 8] (V5 s l fr at0 d); unfold V5; have e1 : ((S4 s d (l, fr, at0)).fst : List d7) = ((m7 s.body (d + 1) (l ++ c8 s.value 0 ++ [d7.mk 1 (9 + d) s.count 0 0], fr ++ cg9 (c8 s.value 0).length at0 ++ [at0], at0 + 1)).fst ++ [d7.mk 10 (9 + d) ((l ++ c8 s.value 0 ++ [d7.mk 1 (9 + d) s.count 0 0]).length : Int) 0 0]) := (by exact absurd (hh.symm.trans (ao1 (by omega))) (by decide)); have e2 : ((S4 s d (l, fr, at0)).snd.fst : List Int) = ((m7 s.body (d + 1) (l ++ c8 s.value 0 ++ [d7.mk 1 (9 + d) s.count 0 0], fr ++ cg9 (c8 s.value 0).length at0 ++ [at0], at0 + 1)).snd.fst ++ [at0]) := (by exact absurd (hh.symm.trans (ao1 (by omega))) (by decide)); (first | rw [e1, e2] | simp only [e1, e2]) <;> rfl)
      ·
       refine wp_seq (k8 G d9 [(8, iA ((l ++ c8 s.value 0).length : Int))] fun G => b6 (wp_seq (j7 G (s7 3 [9, 10] (F5 (l ++ c8 s.value 0) (fr ++ cg9 (c8 s.value 0).length at0) (at0 + 1) at0 9 0 0 0 0 (by omega) (by simp only [ch4, cj0, ch7, ci2, r2]; have := hft.2.2.2.2; simp only [ch4] at this; omega))) [0, 1, 2, 3, 4, 5, 6, 7, 8, 35, 36] (G9 s [ae1 at0, .box (sL s 2), O2, .row 86 (D.instrs (l ++ c8 s.value 0 ++ [d7.mk 9 0 0 0 0])), aT6 s fr at0]) (F7 at0 d [(8, iA ((l ++ c8 s.value 0).length : Int))]) fun G => b6 (wp_seq (N0 G (s7 5 [9, 10, 4] (ih s.body (l ++ c8 s.value 0 ++ [d7.mk 9 0 0 0 0]) (fr ++ cg9 (c8 s.value 0).length at0 ++ [at0]) (at0 + 1) (d + 1) (by assumption) (by simp only [ch4, cj0, ch7, ci2, r2]; have := hft.2.2.2.2; simp only [ch4] at this; omega) (by simp; omega) (by omega) (by omega) (by omega) (by omega))) [0, 1, 2, 3, 4, 5, 6, 7, 8, 51, 52] (G9 s [.box [.ref 9, .ref 10, iA (C4 s l fr at0 d).snd.snd], .box (sL s 2), O2, .row 86 (D.instrs (C4 s l fr at0 d).fst), .row 3 (D.ints (C4 s l fr at0 d).snd.fst)]) (F7 at0 d [(8, iA ((l ++ c8 s.value 0).length : Int))]) [wO (d + 1)] (o1 (by omega)) fun G => b6 (wp_seq (k8 G d9 [(9, iA ((C4 s l fr at0 d).fst.length : Int))] fun G => b6 (wp_seq (j7 G (s7 3 [9, 10] (F5 ((m7 s.body (d + 1) (l ++ c8 s.value 0 ++ [d7.mk 9 0 0 0 0], fr ++ cg9 (c8 s.value 0).length at0 ++ [at0], at0 + 1)).fst) ((m7 s.body (d + 1) (l ++ c8 s.value 0 ++ [d7.mk 9 0 0 0 0], fr ++ cg9 (c8 s.value 0).length at0 ++ [at0], at0 + 1)).snd.fst) ((m7 s.body (d + 1) (l ++ c8 s.value 0 ++ [d7.mk 9 0 0 0 0], fr ++ cg9 (c8 s.value 0).length at0 ++ [at0], at0 + 1)).snd.snd) at0 8 0 0 0 0 (by have h9 := M5 s.body (d + 1) (l ++ c8 s.value 0 ++ [⟨9, 0, 0, 0, 0⟩], fr ++ cg9 (c8 s.value 0).length at0 ++ [at0], at0 + 1); have h8 := Q6 s.body; simp only [ch4, ch7, ci2, cj0, cj7, r2] at h9 ⊢; omega) (by have h9 := M5 s.body (d + 1) (l ++ c8 s.value 0 ++ [⟨9, 0, 0, 0, 0⟩], fr ++ cg9 (c8 s.value 0).length at0 ++ [at0], at0 + 1); have h8 := Q6 s.body; simp only [ch4, ch7, ci2, cj0, cj7, r2] at h9 ⊢; omega))) [0, 1, 2, 3, 4, 5, 6, 7, 8, 35, 36] (G9 s [.box [.ref 9, .ref 10, iA (C4 s l fr at0 d).snd.snd], .box (sL s 2), O2, .row 86 (D.instrs ((C4 s l fr at0 d).fst ++ [d7.mk 8 0 0 0 0])), .row 3 (D.ints ((C4 s l fr at0 d).snd.fst ++ [at0]))]) (F7 at0 d [(8, iA ((l ++ c8 s.value 0).length : Int)), (9, iA ((C4 s l fr at0 d).fst.length : Int))]) fun G => b6 (wp_seq (N0 G d9 (rg 11) (G9 s [.box [.ref 9, .ref 10, iA (C4 s l fr at0 d).snd.snd], .box (sL s 2), O2, .row 86 (D.instrs (((C4 s l fr at0 d).fst ++ [d7.mk 8 0 0 0 0]).set (l ++ c8 s.value 0).length (d7.mk (((C4 s l fr at0 d).fst ++ [d7.mk 8 0 0 0 0]).getD (l ++ c8 s.value 0).length cg8).op (((C4 s l fr at0 d).fst ++ [d7.mk 8 0 0 0 0]).getD (l ++ c8 s.value 0).length cg8).a (((C4 s l fr at0 d).fst ++ [d7.mk 8 0 0 0 0]).length : Int) (((C4 s l fr at0 d).fst ++ [d7.mk 8 0 0 0 0]).getD (l ++ c8 s.value 0).length cg8).c (((C4 s l fr at0 d).fst ++ [d7.mk 8 0 0 0 0]).getD (l ++ c8 s.value 0).length cg8).d))), .row 3 (D.ints ((C4 s l fr at0 d).snd.fst ++ [at0]))]) (F7 at0 d [(9, iA ((C4 s l fr at0 d).fst.length : Int))]) [(0 : Int) ≤ ((l ++ c8 s.value (0 : Int)).length : Int), ((l ++ c8 s.value (0 : Int)).length : Int) < (((m7 s.body (d + 1) (l ++ c8 s.value (0 : Int) ++ [d7.mk (9 : Int) (0 : Int) (0 : Int) (0 : Int) (0 : Int)], fr ++ cg9 (c8 s.value (0 : Int)).length at0 ++ [at0], at0 + 1)).fst ++ [d7.mk (8 : Int) (0 : Int) (0 : Int) (0 : Int) (0 : Int)]).length : Int), (l ++ c8 s.value (0 : Int)).length < ((m7 s.body (d + 1) (l ++ c8 s.value (0 : Int) ++ [d7.mk (9 : Int) (0 : Int) (0 : Int) (0 : Int) (0 : Int)], fr ++ cg9 (c8 s.value (0 : Int)).length at0 ++ [at0], at0 + 1)).fst ++ [d7.mk (8 : Int) (0 : Int) (0 : Int) (0 : Int) (0 : Int)]).length] ⟨(by omega), (by simp only [ak2, cj7, ch4, ch7, ci2]; omega), (by simp only [ak2, cj7, ch4, ch7, ci2]; omega), ci3⟩ fun G => ?_)))))))))))
       refine b6 (wp_seq (N0 G (s7 5 [9, 10, 5] (ih s.els (((m7 s.body (d + 1) (l ++ c8 s.value 0 ++ [d7.mk 9 0 0 0 0], fr ++ cg9 (c8 s.value 0).length at0 ++ [at0], at0 + 1)).fst ++ [d7.mk 8 0 0 0 0]).set (l ++ c8 s.value 0).length (d7.mk (((m7 s.body (d + 1) (l ++ c8 s.value 0 ++ [d7.mk 9 0 0 0 0], fr ++ cg9 (c8 s.value 0).length at0 ++ [at0], at0 + 1)).fst ++ [d7.mk 8 0 0 0 0]).getD (l ++ c8 s.value 0).length cg8).op (((m7 s.body (d + 1) (l ++ c8 s.value 0 ++ [d7.mk 9 0 0 0 0], fr ++ cg9 (c8 s.value 0).length at0 ++ [at0], at0 + 1)).fst ++ [d7.mk 8 0 0 0 0]).getD (l ++ c8 s.value 0).length cg8).a (((m7 s.body (d + 1) (l ++ c8 s.value 0 ++ [d7.mk 9 0 0 0 0], fr ++ cg9 (c8 s.value 0).length at0 ++ [at0], at0 + 1)).fst ++ [d7.mk 8 0 0 0 0]).length : Int) (((m7 s.body (d + 1) (l ++ c8 s.value 0 ++ [d7.mk 9 0 0 0 0], fr ++ cg9 (c8 s.value 0).length at0 ++ [at0], at0 + 1)).fst ++ [d7.mk 8 0 0 0 0]).getD (l ++ c8 s.value 0).length cg8).c (((m7 s.body (d + 1) (l ++ c8 s.value 0 ++ [d7.mk 9 0 0 0 0], fr ++ cg9 (c8 s.value 0).length at0 ++ [at0], at0 + 1)).fst ++ [d7.mk 8 0 0 0 0]).getD (l ++ c8 s.value 0).length cg8).d)) ((m7 s.body (d + 1) (l ++ c8 s.value 0 ++ [d7.mk 9 0 0 0 0], fr ++ cg9 (c8 s.value 0).length at0 ++ [at0], at0 + 1)).snd.fst ++ [at0]) ((m7 s.body (d + 1) (l ++ c8 s.value 0 ++ [d7.mk 9 0 0 0 0], fr ++ cg9 (c8 s.value 0).length at0 ++ [at0], at0 + 1)).snd.snd) (d + 1) (by assumption) (by have h9 := M5 s.body (d + 1) (l ++ c8 s.value 0 ++ [⟨9, 0, 0, 0, 0⟩], fr ++ cg9 (c8 s.value 0).length at0 ++ [at0], at0 + 1); have h8 := Q6 s.body; simp only [ch4, ch7, ci2, cj0, cj7, r2] at h9 ⊢; omega) (by have h9 := M5 s.body (d + 1) (l ++ c8 s.value 0 ++ [⟨9, 0, 0, 0, 0⟩], fr ++ cg9 (c8 s.value 0).length at0 ++ [at0], at0 + 1); have h8 := Q6 s.body; simp only [ch4, ch7, ci2, cj0, cj7, r2] at h9 ⊢; omega) (by omega) (by omega) (by have h9 := ak3 s.body (d + 1) (l ++ c8 s.value 0 ++ [⟨9, 0, 0, 0, 0⟩], fr ++ cg9 (c8 s.value 0).length at0 ++ [at0], at0 + 1); simp only at h9; omega) (by have h9 := ak3 s.body (d + 1) (l ++ c8 s.value 0 ++ [⟨9, 0, 0, 0, 0⟩], fr ++ cg9 (c8 s.value 0).length at0 ++ [at0], at0 + 1); simp only at h9; omega))) [0, 1, 2, 3, 4, 5, 6, 7, 8, 51, 52] (G9 s [.box [.ref 9, .ref 10, iA (P8 s l fr at0 d).snd.snd], .box (sL s 2), O2, .row 86 (D.instrs (P8 s l fr at0 d).fst), .row 3 (D.ints (P8 s l fr at0 d).snd.fst)]) (F7 at0 d [(9, iA ((C4 s l fr at0 d).fst.length : Int))]) [wO (d + 1)] (o1 (by omega)) fun G => b6 (wp_seq (N0 G d9 (rg 11) (G9 s [.box [.ref 9, .ref 10, iA (P8 s l fr at0 d).snd.snd], .box (sL s 2), O2, bu4 s l fr at0 d, .row 3 (D.ints (P8 s l fr at0 d).snd.fst)]) (F7 at0 d []) [(0 : Int) ≤ ((m7 s.body (d + 1) (l ++ c8 s.value (0 : Int) ++ [d7.mk (9 : Int) (0 : Int) (0 : Int) (0 : Int) (0 : Int)], fr ++ cg9 (c8 s.value (0 : Int)).length at0 ++ [at0], at0 + 1)).fst.length : Int), ((m7 s.body (d + 1) (l ++ c8 s.value (0 : Int) ++ [d7.mk (9 : Int) (0 : Int) (0 : Int) (0 : Int) (0 : Int)], fr ++ cg9 (c8 s.value (0 : Int)).length at0 ++ [at0], at0 + 1)).fst.length : Int) < ((m7 s.els (d + 1) (((m7 s.body (d + 1) (l ++ c8 s.value (0 : Int) ++ [d7.mk (9 : Int) (0 : Int) (0 : Int) (0 : Int) (0 : Int)], fr ++ cg9 (c8 s.value (0 : Int)).length at0 ++ [at0], at0 + 1)).fst ++ [d7.mk (8 : Int) (0 : Int) (0 : Int) (0 : Int) (0 : Int)]).set (l ++ c8 s.value (0 : Int)).length (d7.mk (((m7 s.body (d + 1) (l ++ c8 s.value (0 : Int) ++ [d7.mk (9 : Int) (0 : Int) (0 : Int) (0 : Int) (0 : Int)], fr ++ cg9 (c8 s.value (0 : Int)).length at0 ++ [at0], at0 + 1)).fst ++ [d7.mk (8 : Int) (0 : Int) (0 : Int) (0 : Int) (0 : Int)]).getD (l ++ c8 s.value (0 : Int)).length cg8).op (((m7 s.body (d + 1) (l ++ c8 s.value (0 : Int) ++ [d7.mk (9 : Int) (0 : Int) (0 : Int) (0 : Int) (0 : Int)], fr ++ cg9 (c8 s.value (0 : Int)).length at0 ++ [at0], at0 + 1)).fst ++ [d7.mk (8 : Int) (0 : Int) (0 : Int) (0 : Int) (0 : Int)]).getD (l ++ c8 s.value (0 : Int)).length cg8).a (((m7 s.body (d + 1) (l ++ c8 s.value (0 : Int) ++ [d7.mk (9 : Int) (0 : Int) (0 : Int) (0 : Int) (0 : Int)], fr ++ cg9 (c8 s.value (0 : Int)).length at0 ++ [at0], at0 + 1)).fst ++ [d7.mk (8 : Int) (0 : Int) (0 : Int) (0 : Int) (0 : Int)]).length : Int) (((m7 s.body (d + 1) (l ++ c8 s.value (0 : Int) ++ [d7.mk (9 : Int) (0 : Int) (0 : Int) (0 : Int) (0 : Int)], fr ++ cg9 (c8 s.value (0 : Int)).length at0 ++ [at0], at0 + 1)).fst ++ [d7.mk (8 : Int) (0 : Int) (0 : Int) (0 : Int) (0 : Int)]).getD (l ++ c8 s.value (0 : Int)).length cg8).c (((m7 s.body (d + 1) (l ++ c8 s.value (0 : Int) ++ [d7.mk (9 : Int) (0 : Int) (0 : Int) (0 : Int) (0 : Int)], fr ++ cg9 (c8 s.value (0 : Int)).length at0 ++ [at0], at0 + 1)).fst ++ [d7.mk (8 : Int) (0 : Int) (0 : Int) (0 : Int) (0 : Int)]).getD (l ++ c8 s.value (0 : Int)).length cg8).d), (m7 s.body (d + 1) (l ++ c8 s.value (0 : Int) ++ [d7.mk (9 : Int) (0 : Int) (0 : Int) (0 : Int) (0 : Int)], fr ++ cg9 (c8 s.value (0 : Int)).length at0 ++ [at0], at0 + 1)).snd.fst ++ [at0], (m7 s.body (d + 1) (l ++ c8 s.value (0 : Int) ++ [d7.mk (9 : Int) (0 : Int) (0 : Int) (0 : Int) (0 : Int)], fr ++ cg9 (c8 s.value (0 : Int)).length at0 ++ [at0], at0 + 1)).snd.snd)).fst.length : Int), (m7 s.body (d + 1) (l ++ c8 s.value (0 : Int) ++ [d7.mk (9 : Int) (0 : Int) (0 : Int) (0 : Int) (0 : Int)], fr ++ cg9 (c8 s.value (0 : Int)).length at0 ++ [at0], at0 + 1)).fst.length < (m7 s.els (d + 1) (((m7 s.body (d + 1) (l ++ c8 s.value (0 : Int) ++ [d7.mk (9 : Int) (0 : Int) (0 : Int) (0 : Int) (0 : Int)], fr ++ cg9 (c8 s.value (0 : Int)).length at0 ++ [at0], at0 + 1)).fst ++ [d7.mk (8 : Int) (0 : Int) (0 : Int) (0 : Int) (0 : Int)]).set (l ++ c8 s.value (0 : Int)).length (d7.mk (((m7 s.body (d + 1) (l ++ c8 s.value (0 : Int) ++ [d7.mk (9 : Int) (0 : Int) (0 : Int) (0 : Int) (0 : Int)], fr ++ cg9 (c8 s.value (0 : Int)).length at0 ++ [at0], at0 + 1)).fst ++ [d7.mk (8 : Int) (0 : Int) (0 : Int) (0 : Int) (0 : Int)]).getD (l ++ c8 s.value (0 : Int)).length cg8).op (((m7 s.body (d + 1) (l ++ c8 s.value (0 : Int) ++ [d7.mk (9 : Int) (0 : Int) (0 : Int) (0 : Int) (0 : Int)], fr ++ cg9 (c8 s.value (0 : Int)).length at0 ++ [at0], at0 + 1)).fst ++ [d7.mk (8 : Int) (0 : Int) (0 : Int) (0 : Int) (0 : Int)]).getD (l ++ c8 s.value (0 : Int)).length cg8).a (((m7 s.body (d + 1) (l ++ c8 s.value (0 : Int) ++ [d7.mk (9 : Int) (0 : Int) (0 : Int) (0 : Int) (0 : Int)], fr ++ cg9 (c8 s.value (0 : Int)).length at0 ++ [at0], at0 + 1)).fst ++ [d7.mk (8 : Int) (0 : Int) (0 : Int) (0 : Int) (0 : Int)]).length : Int) (((m7 s.body (d + 1) (l ++ c8 s.value (0 : Int) ++ [d7.mk (9 : Int) (0 : Int) (0 : Int) (0 : Int) (0 : Int)], fr ++ cg9 (c8 s.value (0 : Int)).length at0 ++ [at0], at0 + 1)).fst ++ [d7.mk (8 : Int) (0 : Int) (0 : Int) (0 : Int) (0 : Int)]).getD (l ++ c8 s.value (0 : Int)).length cg8).c (((m7 s.body (d + 1) (l ++ c8 s.value (0 : Int) ++ [d7.mk (9 : Int) (0 : Int) (0 : Int) (0 : Int) (0 : Int)], fr ++ cg9 (c8 s.value (0 : Int)).length at0 ++ [at0], at0 + 1)).fst ++ [d7.mk (8 : Int) (0 : Int) (0 : Int) (0 : Int) (0 : Int)]).getD (l ++ c8 s.value (0 : Int)).length cg8).d), (m7 s.body (d + 1) (l ++ c8 s.value (0 : Int) ++ [d7.mk (9 : Int) (0 : Int) (0 : Int) (0 : Int) (0 : Int)], fr ++ cg9 (c8 s.value (0 : Int)).length at0 ++ [at0], at0 + 1)).snd.fst ++ [at0], (m7 s.body (d + 1) (l ++ c8 s.value (0 : Int) ++ [d7.mk (9 : Int) (0 : Int) (0 : Int) (0 : Int) (0 : Int)], fr ++ cg9 (c8 s.value (0 : Int)).length at0 ++ [at0], at0 + 1)).snd.snd)).fst.length] ⟨(by omega), (by simp only [ak2, cj7, ch4, ch7, ci2]; omega), (by simp only [ak2, cj7, ch4, ch7, ci2]; omega), ci3⟩ fun G => ?_))))
       refine b6 (wp_seq (j7 G d9 (rg 11) (G9 s [.box [.ref 9, .ref 10, iA (P8 s l fr at0 d).snd.snd], .box (sL s 2), .box [.ref 9, .ref 10, iA (P8 s l fr at0 d).snd.snd], bu4 s l fr at0 d, .row 3 (D.ints (P8 s l fr at0 d).snd.fst)]) (F7 at0 d []) fun G => b6 (wp_ret (z3 (l4 ?_))))); exact T7 (.agg [.ref 9, .ref 10, iA (m7 s.els (d + 1) (((m7 s.body (d + 1) (l ++ c8 s.value 0 ++ [d7.mk 9 0 0 0 0], fr ++ cg9 (c8 s.value 0).length at0 ++ [at0], at0 + 1)).fst ++ [d7.mk 8 0 0 0 0]).set (l ++ c8 s.value 0).length (d7.mk (((m7 s.body (d + 1) (l ++ c8 s.value 0 ++ [d7.mk 9 0 0 0 0], fr ++ cg9 (c8 s.value 0).length at0 ++ [at0], at0 + 1)).fst ++ [d7.mk 8 0 0 0 0]).getD (l ++ c8 s.value 0).length cg8).op (((m7 s.body (d + 1) (l ++ c8 s.value 0 ++ [d7.mk 9 0 0 0 0], fr ++ cg9 (c8 s.value 0).length at0 ++ [at0], at0 + 1)).fst ++ [d7.mk 8 0 0 0 0]).getD (l ++ c8 s.value 0).length cg8).a (((m7 s.body (d + 1) (l ++ c8 s.value 0 ++ [d7.mk 9 0 0 0 0], fr ++ cg9 (c8 s.value 0).length at0 ++ [at0], at0 + 1)).fst ++ [d7.mk 8 0 0 0 0]).length : Int) (((m7 s.body (d + 1) (l ++ c8 s.value 0 ++ [d7.mk 9 0 0 0 0], fr ++ cg9 (c8 s.value 0).length at0 ++ [at0], at0 + 1)).fst ++ [d7.mk 8 0 0 0 0]).getD (l ++ c8 s.value 0).length cg8).c (((m7 s.body (d + 1) (l ++ c8 s.value 0 ++ [d7.mk 9 0 0 0 0], fr ++ cg9 (c8 s.value 0).length at0 ++ [at0], at0 + 1)).fst ++ [d7.mk 8 0 0 0 0]).getD (l ++ c8 s.value 0).length cg8).d), (m7 s.body (d + 1) (l ++ c8 s.value 0 ++ [d7.mk 9 0 0 0 0], fr ++ cg9 (c8 s.value 0).length at0 ++ [at0], at0 + 1)).snd.fst ++ [at0], (m7 s.body (d + 1) (l ++ c8 s.value 0 ++ [d7.mk 9 0 0 0 0], fr ++ cg9 (c8 s.value 0).length at0 ++ [at0], at0 + 1)).snd.snd)).snd.snd]) G [0, 1, 2, 3, 4, 5, 9, 10] (by have e1 : ((S4 s d (l, fr, at0)).snd.snd : Int) = ((m7 s.els (d + 1) (((m7 s.body (d + 1) (l ++ c8 s.value 0 ++ [d7.mk 9 0 0 0 0], fr ++ cg9 (c8 s.value 0).length at0 ++ [at0], at0 + 1)).fst ++ [d7.mk 8 0 0 0 0]).set (l ++ c8 s.value 0).length (d7.mk (((m7 s.body (d + 1) (l ++ c8 s.value 0 ++ [d7.mk 9 0 0 0 0], fr ++ cg9 (c8 s.value 0).length at0 ++ [at0], at0 + 1)).fst ++ [d7.mk 8 0 0 0 0]).getD (l ++ c8 s.value 0).length cg8).op (((m7 s.body (d + 1) (l ++ c8 s.value 0 ++ [d7.mk 9 0 0 0 0], fr ++ cg9 (c8 s.value 0).length at0 ++ [at0], at0 + 1)).fst ++ [d7.mk 8 0 0 0 0]).getD (l ++ c8 s.value 0).length cg8).a (((m7 s.body (d + 1) (l ++ c8 s.value 0 ++ [d7.mk 9 0 0 0 0], fr ++ cg9 (c8 s.value 0).length at0 ++ [at0], at0 + 1)).fst ++ [d7.mk 8 0 0 0 0]).length : Int) (((m7 s.body (d + 1) (l ++ c8 s.value 0 ++ [d7.mk 9 0 0 0 0], fr ++ cg9 (c8 s.value 0).length at0 ++ [at0], at0 + 1)).fst ++ [d7.mk 8 0 0 0 0]).getD (l ++ c8 s.value 0).length cg8).c (((m7 s.body (d + 1) (l ++ c8 s.value 0 ++ [d7.mk 9 0 0 0 0], fr ++ cg9 (c8 s.value 0).length at0 ++ [at0], at0 + 1)).fst ++ [d7.mk 8 0 0 0 0]).getD (l ++ c8 s.value 0).length cg8).d), (m7 s.body (d + 1) (l ++ c8 s.value 0 ++ [d7.mk 9 0 0 0 0], fr ++ cg9 (c8 s.value 0).length at0 ++ [at0], at0 + 1)).snd.fst ++ [at0], (m7 s.body (d + 1) (l ++ c8 s.value 0 ++ [d7.mk 9 0 0 0 0], fr ++ cg9 (c8 s.value 0).length at0 ++ [at0], at0 + 1)).snd.snd)).snd.snd) := (by have h9 := congrArg (fun x : M8 => x.2.2) (cm3 (l := l) (fr := fr) (at0 := at0) (d := d) (s := s) (by omega)); exact h9); (first | rw [e1] | simp only [e1]) <;> rfl) (by show _ = mR [0, 1, 2, 3, 4, 5, 9, 10] (V5 s l fr at0 d); unfold V5; have h9 := cm3 (l := l) (fr := fr) (at0 := at0) (d := d) (s := s) (by omega); rw [h9] <;> rfl)
     · refine wp_seq (j7 G (s7 4 [9, 10, 2] (a75 s.index (l ++ c8 s.value 0) (fr ++ cg9 (c8 s.value 0).length at0) (at0 + 1) at0 1 (by omega) (by omega) (by omega) (by simp only [ch4, cj0, r2]; done))) [0, 1, 2, 3, 4, 5, 6, 7, 8, 43, 44] (G9 s [ae1 at0, .box (sL s 2), O2, .row 86 (D.instrs (l ++ c8 s.value 0 ++ c8 s.index 1)), .row 3 (D.ints (fr ++ cg9 (c8 s.value 0).length at0 ++ cg9 (c8 s.index 1).length at0))]) (F7 at0 d []) fun G => b6 (wp_seq (j7 G (s7 5 [9, 10] (F5 (l ++ c8 s.value 0 ++ c8 s.index 1) (fr ++ cg9 (c8 s.value 0).length at0 ++ cg9 (c8 s.index 1).length at0) (at0 + 1) at0 5 s.target 1 0 0 (by omega) (by simp only [ch4, cj0, ch7, ci2, r2]; have := hft.2.2.2.2; simp only [ch4] at this; omega))) [0, 1, 2, 3, 4, 5, 6, 7, 8, 9, 10, 51, 52] (G9 s [ae1 at0, .box (sL s 2), .box [.ref 11, .ref 12, iA (at0 + 1)], .dead, .dead, .row 86 (D.instrs (l ++ c8 s.value 0 ++ c8 s.index 1 ++ [d7.mk 5 s.target 1 0 0])), .row 3 (D.ints (fr ++ cg9 (c8 s.value 0).length at0 ++ cg9 (c8 s.index 1).length at0 ++ [at0]))]) (F7 at0 d []) fun G => b6 (wp_ret (z3 (l4 ?_)))))); exact T7 (.agg [.ref 11, .ref 12, iA (at0 + 1)]) G [0, 1, 2, 3, 4, 5, 11, 12] (by have e1 : ((S4 s d (l, fr, at0)).snd.snd : Int) = (at0 + 1) := (congrArg (fun x : M8 => x.2.2) (cm2 (by omega))); (first | rw [e1] | simp only [e1]) <;> rfl) (by show _ = mR [0, 1, 2, 3, 4, 5, 11, 12] (V5 s l fr at0 d); unfold V5; have e1 : ((S4 s d (l, fr, at0)).fst : List d7) = (l ++ c8 s.value 0 ++ c8 s.index 1 ++ [d7.mk 5 s.target 1 0 0]) := (congrArg Prod.fst (cm2 (by omega))); have e2 : ((S4 s d (l, fr, at0)).snd.fst : List Int) = (fr ++ cg9 (c8 s.value 0).length at0 ++ cg9 (c8 s.index 1).length at0 ++ [at0]) := (congrArg (fun x : M8 => x.2.1) (cm2 (by omega))); (first | rw [e1, e2] | simp only [e1, e2]) <;> rfl)
    · refine wp_seq (j7 G (s7 3 [9, 10] (F5 (l ++ c8 s.value 0) (fr ++ cg9 (c8 s.value 0).length at0) (at0 + 1) at0 11 0 0 0 0 (by omega) (by simp only [ch4, cj0, ch7, ci2, r2]; have := hft.2.2.2.2; simp only [ch4] at this; omega))) [0, 1, 2, 3, 4, 5, 6, 7, 8, 35, 36] (G9 s [ae1 at0, .box (sL s 2), O2, .row 86 (D.instrs (l ++ c8 s.value 0 ++ [d7.mk 11 0 0 0 0])), aT6 s fr at0]) (F7 at0 d []) fun G => b6 (wp_seq (j7 G (s7 5 [9, 10] (F5 (l ++ c8 s.value 0 ++ [d7.mk 11 0 0 0 0]) (fr ++ cg9 (c8 s.value 0).length at0 ++ [at0]) (at0 + 1) at0 3 s.target 0 0 0 (by simp only [ch4, cj0, ch7, ci2, r2]; have := hft.2.2.2.2; simp only [ch4] at this; omega) (by simp only [ch4, cj0, ch7, ci2, r2]; have := hft.2.2.2.2; simp only [ch4] at this; omega))) [0, 1, 2, 3, 4, 5, 6, 7, 8, 9, 10, 51, 52] (G9 s [ae1 at0, .box (sL s 2), .box [.ref 11, .ref 12, iA (at0 + 1)], .dead, .dead, .row 86 (D.instrs (l ++ c8 s.value 0 ++ [d7.mk 11 0 0 0 0] ++ [d7.mk 3 s.target 0 0 0])), .row 3 (D.ints (fr ++ cg9 (c8 s.value 0).length at0 ++ [at0] ++ [at0]))]) (F7 at0 d []) fun G => b6 (wp_ret (z3 (l4 ?_)))))); exact T7 (.agg [.ref 11, .ref 12, iA (at0 + 1)]) G [0, 1, 2, 3, 4, 5, 11, 12] (by have e1 : ((S4 s d (l, fr, at0)).snd.snd : Int) = (at0 + 1) := (congrArg (fun x : M8 => x.2.2) (cm5 (by omega))); (first | rw [e1] | simp only [e1]) <;> rfl) (by show _ = mR [0, 1, 2, 3, 4, 5, 11, 12] (V5 s l fr at0 d); unfold V5; have e1 : ((S4 s d (l, fr, at0)).fst : List d7) = (l ++ c8 s.value 0 ++ [d7.mk 11 0 0 0 0] ++ [d7.mk 3 s.target 0 0 0]) := (congrArg Prod.fst (cm5 (by omega))); have e2 : ((S4 s d (l, fr, at0)).snd.fst : List Int) = (fr ++ cg9 (c8 s.value 0).length at0 ++ [at0] ++ [at0]) := (congrArg (fun x : M8 => x.2.1) (cm5 (by omega))); (first | rw [e1, e2] | simp only [e1, e2]) <;> rfl)
   · refine wp_seq (j7 G (s7 5 [9, 10] (F5 (l ++ c8 s.value 0) (fr ++ cg9 (c8 s.value 0).length at0) (at0 + 1) at0 3 s.target 0 0 0 (by omega) (by simp only [ch4, cj0, ch7, ci2, r2]; have := hft.2.2.2.2; simp only [ch4] at this; omega))) [0, 1, 2, 3, 4, 5, 6, 7, 8, 9, 10, 51, 52] (G9 s [ae1 at0, .box (sL s 2), .box [.ref 11, .ref 12, iA (at0 + 1)], .dead, .dead, .row 86 (D.instrs (l ++ c8 s.value 0 ++ [d7.mk 3 s.target 0 0 0])), aT6 s fr at0]) (F7 at0 d []) fun G => b6 (wp_ret (z3 (l4 ?_)))); exact T7 (.agg [.ref 11, .ref 12, iA (at0 + 1)]) G [0, 1, 2, 3, 4, 5, 11, 12] (by have e1 : ((S4 s d (l, fr, at0)).snd.snd : Int) = (at0 + 1) := (congrArg (fun x : M8 => x.2.2) (cm1 (by omega))); (first | rw [e1] | simp only [e1]) <;> rfl) (by show _ = mR [0, 1, 2, 3, 4, 5, 11, 12] (V5 s l fr at0 d); unfold V5; have e1 : ((S4 s d (l, fr, at0)).fst : List d7) = (l ++ c8 s.value 0 ++ [d7.mk 3 s.target 0 0 0]) := (congrArg Prod.fst (cm1 (by omega))); have e2 : ((S4 s d (l, fr, at0)).snd.fst : List Int) = (fr ++ cg9 (c8 s.value 0).length at0 ++ [at0]) := (congrArg (fun x : M8 => x.2.1) (cm1 (by omega))); (first | rw [e1, e2] | simp only [e1, e2]) <;> rfl)
section
variable {ss : List c5} {k : Nat} {d : Int} {l : List d7} {fr : List Int} {at0 : Int}
theorem bp0 (hk : k < ss.length) : j5 (ss.take k) + (1 + J7 (ss.getD k cg8)) ≤ j5 ss := by
 have h1 := v8 (ss.take (k + 1)) (ss.drop (k + 1))
 rw [List.take_append_drop, m6 _ _ hk, v8, ← m0 (d := cg8) hk] at h1
 simp only [j5] at h1
 omega
theorem bA3 (hk : k < ss.length) : V2 (ss.take k) + nS (ss.getD k cg8) ≤ V2 ss := by
 have h1 := ae8 (ss.take (k + 1)) (ss.drop (k + 1))
 rw [List.take_append_drop, m6 _ _ hk, ae8, ← m0 (d := cg8) hk] at h1
 simp only [V2] at h1
 omega
theorem bF7 (r1 : l.length + 4 * j5 ss ≤ 5000000) (hk : k < ss.length) : (m7 (ss.take k) d (l, fr, at0)).1.length + (4 + 4 * J7 (ss.getD k cg8)) ≤ 5000000 := by
 have h1 := bp0 hk
 have h2 := Q6 (ss.take k)
 rw [ak2]
 simp only
 omega
theorem bS2 (r2 : fr.length = l.length) : (m7 (ss.take k) d (l, fr, at0)).2.1.length = (m7 (ss.take k) d (l, fr, at0)).1.length := by
 have h := M5 (ss.take k) d (l, fr, at0)
 simp only at h
 omega
theorem bF9 (r5 : 0 ≤ at0) : 0 ≤ (m7 (ss.take k) d (l, fr, at0)).2.2 := by
 have h := ak3 (ss.take k) d (l, fr, at0)
 simp only at h
 omega
theorem bF8 (r6 : at0 + V2 ss ≤ 5000000) (hk : k < ss.length) : (m7 (ss.take k) d (l, fr, at0)).2.2 + nS (ss.getD k cg8) ≤ 5000000 := by
 have h := ak3 (ss.take k) d (l, fr, at0)
 have h1 := bA3 hk
 simp only at h
 omega
theorem b97 (hk : k < ss.length) : (m7 (ss.take (k + 1)) d (l, fr, at0)).1 = (S4 (ss.getD k cg8) d (m7 (ss.take k) d (l, fr, at0))).1 := by rw [aL7 hk]
theorem b96 (hk : k < ss.length) : (m7 (ss.take (k + 1)) d (l, fr, at0)).2.1 = (S4 (ss.getD k cg8) d (m7 (ss.take k) d (l, fr, at0))).2.1 := by rw [aL7 hk]
theorem b95 (hk : k < ss.length) : (m7 (ss.take (k + 1)) d (l, fr, at0)).2.2 = (S4 (ss.getD k cg8) d (m7 (ss.take k) d (l, fr, at0))).2.2 := by rw [aL7 hk]
theorem bs1 (hk : ss.length ≤ k) (x : M8) : m7 ss d x = m7 (ss.take k) d x := by rw [ci6 hk]
end
theorem aQ1 (ss : List c5) (B : Int) (ih : ∀ (s : c5), s ∈ ss → ∀ (l : List d7) (fr : List Int) (at0 d : Int), l.length + (4 + 4 * J7 s) ≤ 5000000 → fr.length = l.length → 0 ≤ d → d ≤ B → 0 ≤ at0 → at0 + nS s ≤ 5000000 → j8.ok Tryz.prog (lqC l fr at0 s d))
  (l : List d7) (fr : List Int) (at0 d : Int) (r1 : l.length + 4 * j5 ss ≤ 5000000) (r2 : fr.length = l.length) (r3 : 0 ≤ d) (r4 : d ≤ B) (r5 : 0 ≤ at0) (r6 : at0 + V2 ss ≤ 5000000) : j8.ok Tryz.prog (lrC l fr at0 ss d) := by
 refine E2 22 Tryz.func146 [.row 86 (D.instrs l), .row 3 (D.ints fr), dT ss] [(0, .agg [.ref 0, .ref 1, iA at0]), (1, .ref 2), (2, iA d)] fun G => ?_; have hl := K6 ss; refine wp_seq (j7 G d9 [0, 1, 2, 3, 11] [.row 86 (D.instrs l), .row 3 (D.ints fr), dT ss, .box [.ref 0, .ref 1, iA at0], .box [.v (.slice none 0 0), .v (.slice none 0 0), iA 0]] [(1, .ref 2), (2, iA d), (3, .ptr 3 0), (6, .ptr 4 0)] fun G => b6 (wp_seq (wp_seq (C6 G d9 [(1, .ref 2), (2, iA d), (3, .ptr 3 0), (6, .ptr 4 0), (7, iA 0)] fun G => b6 (wp_block ?_))))); obtain ⟨ρ, G⟩ := G.shift 0 5 [.dead, .row 3 (D.ints fr), dT ss, .box [.ref 5, .ref 1, iA at0], .box [.v (.slice none 0 0), .v (.slice none 0 0), iA 0], .row 86 (D.instrs l)] [(1, .ref 2), (2, iA d), (3, .ptr 3 0), (6, .ptr 4 0), (7, iA 0)]; obtain ⟨ρ, G⟩ := G.shift 1 6 [.dead, .dead, dT ss, .box [.ref 5, .ref 6, iA at0], .box [.v (.slice none 0 0), .v (.slice none 0 0), iA 0], .row 86 (D.instrs l), .row 3 (D.ints fr)] [(1, .ref 2), (2, iA d), (3, .ptr 3 0), (6, .ptr 4 0), (7, iA 0)]; refine s6 (κ := Nat) (fun k => k ≤ ss.length) (fun k => ss.length - k) (fun k => [.dead, .dead, dT ss, .box [.ref 5, .ref 6, iA (m7 (ss.take k) d (l, fr, at0)).2.2], .box [.v (.slice none 0 0), .v (.slice none 0 0), iA 0], .row 86 (.instrs (m7 (ss.take k) d (l, fr, at0)).1), .row 3 (.ints (m7 (ss.take k) d (l, fr, at0)).2.1)]) (fun k => [(1, .ref 2), (2, iA d), (3, .ptr 3 0), (6, .ptr 4 0), (7, iA k)]) 0 (by omega) (t4.at G _ _) ?_; clear G; intro k ρ a w hp G; replace G := t4.at G [.dead, .dead, dT ss, .box [.ref 5, .ref 6, iA (m7 (ch6 k ss) d (l, fr, at0)).snd.snd], .box [.v (.slice none 0 0), .v (.slice none 0 0), iA 0], .row 86 (D.instrs (m7 (ch6 k ss) d (l, fr, at0)).fst), .row 3 (D.ints (m7 (ch6 k ss) d (l, fr, at0)).snd.fst)] [(1, .ref 2), (2, iA d), (3, .ptr 3 0), (6, .ptr 4 0), (7, iA k)]; refine wp_seq (wp_seq (k8 G d9 [(11, bA (decide ((k : Int) < ss.length)))] fun G => b6 (Z6 G (fun h0 q0 => ?_) fun h0 q0 => ?_)))
 ·refine wp_exit (r7 (r7 (p6 (b6 (wp_seq (j7 G d9 [0, 1, 2, 4, 5, 6] [.dead, .dead, dT ss, .box [.ref 4, .ref 5, iA (m7 (ch6 k ss) d (l, fr, at0)).snd.snd], .row 86 (D.instrs (m7 (ch6 k ss) d (l, fr, at0)).fst), .row 3 (D.ints (m7 (ch6 k ss) d (l, fr, at0)).snd.fst)] [(6, .ptr 3 0)] fun G => b6 (wp_ret ?_))))))); exact T7 (.agg [.ref 4, .ref 5, iA (m7 (ch6 k ss) d (l, fr, at0)).snd.snd]) G [0, 1, 2, 4, 5] (by have e1 : ((m7 ss d (l, fr, at0)).snd.snd : Int) = ((m7 (ch6 k ss) d (l, fr, at0)).snd.snd) := (congrArg (fun x : M8 => x.2.2) (bs1 (by omega) _)); (first | rw [e1] | simp only [e1]) <;> rfl) (by show _ = mR [0, 1, 2, 4, 5] [.dead, .dead, dT ss, .row 86 (D.instrs (m7 ss d (l, fr, at0)).fst), .row 3 (D.ints (m7 ss d (l, fr, at0)).snd.fst)]; have e1 : ((m7 ss d (l, fr, at0)).fst : List d7) = ((m7 (ch6 k ss) d (l, fr, at0)).fst) := (congrArg Prod.fst (bs1 (by omega) _)); have e2 : ((m7 ss d (l, fr, at0)).snd.fst : List Int) = ((m7 (ch6 k ss) d (l, fr, at0)).snd.fst) := (congrArg (fun x : M8 => x.2.1) (bs1 (by omega) _)); (first | rw [e1, e2] | simp only [e1, e2]) <;> rfl)
 ·refine wp_skip (b6 (wp_seq (wp_block (N5 G (s7 6 [5, 6, 39, 40, 41, 42] (ih (ss.getD k cg8) (ad5 (by omega)) ((m7 (ch6 k ss) d (l, fr, at0)).fst) ((m7 (ch6 k ss) d (l, fr, at0)).snd.fst) ((m7 (ch6 k ss) d (l, fr, at0)).snd.snd) d (bF7 r1 (by omega)) (bS2 r2) (by assumption) (by assumption) (bF9 r5) (bF8 r6 (by omega)))) [0, 0, 0, 6, 14, 0, 63, 127] [0, 1, 2, 3, 4, 55, 56] [.dead, .dead, dT ss, .box [.ref 5, .ref 6, iA (S4 (ss.getD k cg8) d (m7 (ch6 k ss) d (l, fr, at0))).snd.snd], .box [.v (.slice none 0 0), .v (.slice none 0 0), iA 0], .row 86 (D.instrs (S4 (ss.getD k cg8) d (m7 (ch6 k ss) d (l, fr, at0))).fst), .row 3 (D.ints (S4 (ss.getD k cg8) d (m7 (ch6 k ss) d (l, fr, at0))).snd.fst)] [(1, .ref 2), (2, iA d), (3, .ptr 3 0), (6, .ptr 4 0), (7, iA k)] (iX k k ss.length []) (iK (by omega) ci3) fun G => k6 (b6 (D0 G d9 [(7, iA ((k : Int) + 1))] [wO ((k : Int) + 1)] (o1 (by omega)) fun G => b6 ?_)))))); exact H9 G (k + 1) (by omega) (by omega) (rg 7) (by have e1 : ((m7 (ch6 (k + 1) ss) d (l, fr, at0)).snd.snd : Int) = ((S4 (ss.getD k cg8) d (m7 (ch6 k ss) d (l, fr, at0))).snd.snd) := (b95 (by omega)); have e2 : ((m7 (ch6 (k + 1) ss) d (l, fr, at0)).fst : List d7) = ((S4 (ss.getD k cg8) d (m7 (ch6 k ss) d (l, fr, at0))).fst) := (b97 (by omega)); have e3 : ((m7 (ch6 (k + 1) ss) d (l, fr, at0)).snd.fst : List Int) = ((S4 (ss.getD k cg8) d (m7 (ch6 k ss) d (l, fr, at0))).snd.fst) := (b96 (by omega)); (first | rw [e1, e2, e3] | simp only [e1, e2, e3]) <;> rfl)
theorem bB4 (nv na : Nat) : ∀ (dd : Nat) (ss : List c5) (l : List d7) (fr : List Int) (at0 d : Int), ss.all (j6 nv na dd) = true → l.length + 4 * j5 ss ≤ 5000000 → fr.length = l.length → 0 ≤ d → d + dd ≤ 100 → 0 ≤ at0 → at0 + V2 ss ≤ 5000000 → j8.ok Tryz.prog (lrC l fr at0 ss d) := by
 intro dd
 induction dd with
 | zero =>
  intro ss l fr at0 d hs r1 r2 r3 r4 r5 r6
  have h0 : ss = [] := by
   cases ss with
   | nil => rfl
   | cons a r => simp [j6] at hs
  subst h0
  exact aQ1 [] 100 (fun s hs => by cases hs) l fr at0 d r1 r2 r3 (by omega) r5 r6
 | succ dd ih =>
  intro ss l fr at0 d hs r1 r2 r3 r4 r5 r6
  refine aQ1 ss (100 - (dd + 1)) (fun s hm l fr at0 d q1 q2 q3 q4 q5 q6 => ?_) l fr at0 d r1 r2 r3 (by omega) r5 r6
  have h := ch8.1 hs s hm
  rw [S8, ch0, ch0] at h
  exact a20 nv na dd s h.1 h.2.1 h.2.2 (fun tt l fr at0 d h1 h2 h3 h4 h5 h6 h7 => ih tt l fr at0 d h1 h2 h3 h4 h5 h6 h7) l fr at0 d q1 q2 q3 (by omega) q5 q6
abbrev aT5 : It := .box [.v (.slice none 0 0), .v (.slice none 0 0), iA 0]
theorem bb4 (ss : List c5) (B : Int) (ih : ∀ (s : c5), s ∈ ss → ∀ (l : List d7) (fr : List Int) (at0 d : Int), l.length + (4 + 4 * J7 s) ≤ 5000000 → fr.length = l.length → 0 ≤ d → d ≤ B → 0 ≤ at0 → at0 + nS s ≤ 5000000 → j8.ok Tryz.prog (lqC l fr at0 s d))
  (d : Int) (r1 : ([] : List d7).length + 4 * j5 ss ≤ 5000000) (r3 : 0 ≤ d) (r4 : d ≤ B) (r6 : (0 : Int) + V2 ss ≤ 5000000) : j8.ok Tryz.prog ⟨146, [.agg [.v (.slice none 0 0), .v (.slice none 0 0), iA 0], .ref 0, iA d], [dT ss], [dT ss, rN (m7 ss d ([], [], 0)).1, rI (m7 ss d ([], [], 0)).2.1], .agg [.ref 1, .ref 2, iA (m7 ss d ([], [], 0)).2.2]⟩ := by
 refine E2 22 Tryz.func146 [dT ss] [(0, .agg [.v (.slice none 0 0), .v (.slice none 0 0), iA 0]), (1, .ref 0), (2, iA d)] fun G => ?_; have hl := K6 ss; refine wp_seq (j7 G d9 [0, 1, 9] [dT ss, aT5, aT5] [(1, .ref 0), (2, iA d), (3, .ptr 1 0), (6, .ptr 2 0)] fun G => b6 (wp_seq (wp_seq (C6 G d9 [(1, .ref 0), (2, iA d), (3, .ptr 1 0), (6, .ptr 2 0), (7, iA 0)] fun G => b6 (wp_block ?_))))); obtain ⟨ρ, G⟩ := G.nil 3 86 (.instrs []) 5 [dT ss, .box [.ref 3, .v (.slice none 0 0), iA 0], .box [.v (.slice none 0 0), .v (.slice none 0 0), iA 0]] [(1, .ref 0), (2, iA d), (3, .ptr 1 0), (6, .ptr 2 0), (7, iA 0)]; obtain ⟨ρ, G⟩ := G.nil 4 3 (.ints []) 1 [dT ss, .box [.ref 3, .ref 4, iA 0], .box [.v (.slice none 0 0), .v (.slice none 0 0), iA 0], .row 86 (D.instrs [])] [(1, .ref 0), (2, iA d), (3, .ptr 1 0), (6, .ptr 2 0), (7, iA 0)]; refine s6 (κ := Nat) (fun k => k ≤ ss.length) (fun k => ss.length - k) (fun k => [dT ss, .box [.ref 3, .ref 4, iA (m7 (ss.take k) d ([], [], 0)).2.2], .box [.v (.slice none 0 0), .v (.slice none 0 0), iA 0], .row 86 (.instrs (m7 (ss.take k) d ([], [], 0)).1), .row 3 (.ints (m7 (ss.take k) d ([], [], 0)).2.1)]) (fun k => [(1, .ref 0), (2, iA d), (3, .ptr 1 0), (6, .ptr 2 0), (7, iA k)]) 0 (by omega) (t4.at G _ _) ?_; clear G; intro k ρ a w hp G; replace G := t4.at G [dT ss, .box [.ref 3, .ref 4, iA (m7 (ch6 k ss) d ([], [], 0)).snd.snd], aT5, .row 86 (D.instrs (m7 (ch6 k ss) d ([], [], 0)).fst), .row 3 (D.ints (m7 (ch6 k ss) d ([], [], 0)).snd.fst)] [(1, .ref 0), (2, iA d), (3, .ptr 1 0), (6, .ptr 2 0), (7, iA k)]; refine wp_seq (wp_seq (k8 G d9 [(11, bA (decide ((k : Int) < ss.length)))] fun G => b6 (Z6 G (fun h0 q0 => ?_) fun h0 q0 => ?_)))
 ·refine wp_exit (r7 (r7 (p6 (b6 (wp_seq (j7 G d9 [0, 2, 3, 4] [dT ss, .box [.ref 2, .ref 3, iA (m7 (ch6 k ss) d ([], [], 0)).snd.snd], .row 86 (D.instrs (m7 (ch6 k ss) d ([], [], 0)).fst), .row 3 (D.ints (m7 (ch6 k ss) d ([], [], 0)).snd.fst)] [(6, .ptr 1 0)] fun G => b6 (wp_ret ?_))))))); exact T7 (.agg [.ref 2, .ref 3, iA (m7 (ch6 k ss) d ([], [], 0)).snd.snd]) G [0, 2, 3] (by have e1 : ((m7 ss d ([], [], 0)).snd.snd : Int) = ((m7 (ch6 k ss) d ([], [], 0)).snd.snd) := (congrArg (fun x : M8 => x.2.2) (bs1 (by omega) _)); (first | rw [e1] | simp only [e1]) <;> rfl) (by show _ = mR [0, 2, 3] [dT ss, .row 86 (D.instrs (m7 ss d ([], [], 0)).fst), .row 3 (D.ints (m7 ss d ([], [], 0)).snd.fst)]; have e1 : ((m7 ss d ([], [], 0)).fst : List d7) = ((m7 (ch6 k ss) d ([], [], 0)).fst) := (congrArg Prod.fst (bs1 (by omega) _)); have e2 : ((m7 ss d ([], [], 0)).snd.fst : List Int) = ((m7 (ch6 k ss) d ([], [], 0)).snd.fst) := (congrArg (fun x : M8 => x.2.1) (bs1 (by omega) _)); (first | rw [e1, e2] | simp only [e1, e2]) <;> rfl)
 ·refine wp_skip (b6 (wp_seq (wp_block (N5 G (s7 6 [3, 4, 37, 38, 39, 40] (ih (ss.getD k cg8) (ad5 (by omega)) ((m7 (ch6 k ss) d ([], [], 0)).fst) ((m7 (ch6 k ss) d ([], [], 0)).snd.fst) ((m7 (ch6 k ss) d ([], [], 0)).snd.snd) d (bF7 r1 (by omega)) (bS2 rfl) (by assumption) (by assumption) (bF9 (Int.le_refl 0)) (bF8 r6 (by omega)))) [0, 0, 0, 6, 14, 0, 63, 127] [0, 1, 2, 53, 54] [dT ss, .box [.ref 3, .ref 4, iA (S4 (ss.getD k cg8) d (m7 (ch6 k ss) d ([], [], 0))).snd.snd], aT5, .row 86 (D.instrs (S4 (ss.getD k cg8) d (m7 (ch6 k ss) d ([], [], 0))).fst), .row 3 (D.ints (S4 (ss.getD k cg8) d (m7 (ch6 k ss) d ([], [], 0))).snd.fst)] [(1, .ref 0), (2, iA d), (3, .ptr 1 0), (6, .ptr 2 0), (7, iA k)] (iX k k ss.length []) (iK (by omega) ci3) fun G => k6 (b6 (D0 G d9 [(7, iA ((k : Int) + 1))] [wO ((k : Int) + 1)] (o1 (by omega)) fun G => b6 ?_)))))); exact H9 G (k + 1) (by omega) (by omega) (rg 5) (by have e1 : ((m7 (ch6 (k + 1) ss) d ([], [], 0)).snd.snd : Int) = ((S4 (ss.getD k cg8) d (m7 (ch6 k ss) d ([], [], 0))).snd.snd) := (b95 (by omega)); have e2 : ((m7 (ch6 (k + 1) ss) d ([], [], 0)).fst : List d7) = ((S4 (ss.getD k cg8) d (m7 (ch6 k ss) d ([], [], 0))).fst) := (b97 (by omega)); have e3 : ((m7 (ch6 (k + 1) ss) d ([], [], 0)).snd.fst : List Int) = ((S4 (ss.getD k cg8) d (m7 (ch6 k ss) d ([], [], 0))).snd.fst) := (b96 (by omega)); (first | rw [e1, e2, e3] | simp only [e1, e2, e3]) <;> rfl)
theorem bf4 (p : i5) (hp : l8 p = true) (hb : j5 p.body ≤ 1048576) : j8.ok Tryz.prog ⟨146, [.agg [.v (.slice none 0 0), .v (.slice none 0 0), iA 0], .ref 0, iA 0], [dT p.body], [dT p.body, rN (m7 p.body 0 ([], [], 0)).1, rI (m7 p.body 0 ([], [], 0)).2.1], .agg [.ref 1, .ref 2, iA (m7 p.body 0 ([], [], 0)).2.2]⟩ := by
 simp only [l8, ag0, ch0, decide_eq_true_eq] at hp
 refine bb4 p.body 95 (fun s hm l fr at0 d q1 q2 q3 q4 q5 q6 => ?_) 0 (by simp only [ci2]; omega) (by omega) (by omega) (by have := aW5 p.body; omega)
 have h := ch8.1 hp.1.2 s hm
 rw [S8, ch0, ch0] at h
 exact a20 _ _ 4 s h.1 h.2.1 h.2.2 (fun tt l fr at0 d h1 h2 h3 h4 h5 h6 h7 => bB4 _ _ 4 tt l fr at0 d h1 h2 h3 h4 h5 h6 h7) l fr at0 d q1 q2 q3 (by omega) q5 q6
def aL6 (p : i5) : M8 := ((m7 p.body 0 ([], [], 0)).1 ++ [⟨13, 0, 0, 0, 0⟩], (m7 p.body 0 ([], [], 0)).2.1 ++ [-1], (m7 p.body 0 ([], [], 0)).2.2)
def okC (p : i5) : Bool := l8 p && decide ((aL6 p).1.length ≤ 400)
def I1 (p : i5) : M8 := if okC p = true then aL6 p else ([], [], 0)
theorem aW4 {p : i5} (h : l8 p = false) : okC p = false := by unfold okC; rw [h]; rfl
theorem bA1 {p : i5} (h : ¬ (aL6 p).1.length ≤ 400) : okC p = false := by unfold okC; rw [decide_eq_false h, Bool.and_false]
theorem bA0 {p : i5} (h1 : l8 p = true) (h : (aL6 p).1.length ≤ 400) : okC p = true := by unfold okC; rw [decide_eq_true h, h1]; rfl
theorem ax3 {p : i5} (h : okC p = false) : I1 p = ([], [], 0) := by unfold I1; rw [h]; rfl
theorem bE9 {p : i5} (h : okC p = true) : I1 p = aL6 p := by unfold I1; rw [h]; rfl
theorem br8 (p : i5) (hb : j5 p.body ≤ 1048576) : (m7 p.body 0 ([], [], 0)).1.length ≤ 5000000 ∧ (m7 p.body 0 ([], [], 0)).2.1.length ≤ 5000000 := by
 have h := M5 p.body 0 ([], [], 0)
 have h1 := Q6 p.body
 simp only [ci2] at h
 omega
abbrev au9 (p : i5) : List It := [dI p.vars, dI p.arrays, dT p.body, .row 86 (D.instrs (I1 p).fst), .row 3 (D.ints (I1 p).snd.fst)]
abbrev aS7 (p : i5) (r0 : List It) : List It := .row 86 (D.instrs ((m7 p.body 0 ([], [], 0)).fst ++ [d7.mk 13 0 0 0 0])) :: .row 3 (D.ints ((m7 p.body 0 ([], [], 0)).snd.fst ++ [-1])) :: r0
theorem a76 (p : i5) (hb : j5 p.body ≤ 1048576) : j8.ok Tryz.prog ⟨71, [pA 0], pS p, pS p ++ [rN (I1 p).1, rI (I1 p).2.1], .tup [.agg [.ref 3, .ref 4, iA (I1 p).2.2], bA (okC p)]⟩ := by
  refine E2 22 Tryz.func71 [dI p.vars, dI p.arrays, dT p.body] [(0, pA 0)] fun G => ?_; have hcb := br8 p hb; refine wp_seq (j7 G d9 [0, 1, 2, 3, 11] [dI p.vars, dI p.arrays, dT p.body, .box (pL 0), .box [.v (.slice none 0 0), .v (.slice none 0 0), iA 0]] [(1, .ptr 3 0), (2, .ptr 4 0), (3, bA false)] fun G => b6 (wp_seq (wp_seq (k8 G (s7 1 [0, 1, 2] (Q8 p (by assumption))) [(7, .v (.bool !l8 p))] fun G => b6 ?_)))); cases h0 : (!l8 p)
  ·
   have q0 : (l8 p) = true := (Eq.mp (cj6 _) h0); refine rF G _ h0 (wp_skip (b6 (wp_seq (j7 G (s7 3 [2] (bf4 p (by assumption) (by assumption))) [0, 1, 2, 4, 29, 30, 37] [dI p.vars, dI p.arrays, dT p.body, .box [.v (.slice none 0 0), .v (.slice none 0 0), iA 0], .row 86 (D.instrs (m7 p.body 0 ([], [], 0)).fst), .row 3 (D.ints (m7 p.body 0 ([], [], 0)).snd.fst), .box [.ref 4, .ref 5, iA (m7 p.body 0 ([], [], 0)).snd.snd]] [(2, .ptr 3 0), (3, bA false), (4, .ptr 6 0)] fun G => b6 (wp_seq (j7 G (s7 2 [4, 5] (F5 ((m7 p.body 0 ([], [], 0)).fst) ((m7 p.body 0 ([], [], 0)).snd.fst) ((m7 p.body 0 ([], [], 0)).snd.snd) (-1) 13 0 0 0 0 (by omega) (by omega))) [0, 1, 2, 3, 6, 23, 24] (dI p.vars :: dI p.arrays :: dT p.body :: .box [.v (.slice none 0 0), .v (.slice none 0 0), iA 0] :: .box [.ref 5, .ref 6, iA (m7 p.body 0 ([], [], 0)).snd.snd] :: (aS7 p [])) [(2, .ptr 3 0), (3, bA false), (4, .ptr 4 0)] fun G => b6 (wp_seq (wp_seq (k8 G d9 [(19, bA (decide ((((m7 p.body 0 ([], [], 0)).fst ++ [d7.mk 13 0 0 0 0]).length : Int) > 400)))] fun G => b6 (Z6 G (fun h1 q1 => ?_) fun h1 q1 => ?_))))))))))
   · refine wp_skip (b6 (wp_seq (j7 G d9 [0, 1, 2, 3, 5, 6] (dI p.vars :: dI p.arrays :: dT p.body :: .box [.ref 4, .ref 5, iA (m7 p.body 0 ([], [], 0)).snd.snd] :: (aS7 p [])) [(2, .ptr 3 0), (3, bA true)] fun G => b6 (wp_ret ?_)))); exact T7 (.tup [.agg [.ref 4, .ref 5, iA (m7 p.body 0 ([], [], 0)).snd.snd], bA true]) G [0, 1, 2, 4, 5] (by have e1 : ((I1 p).snd.snd : Int) = ((m7 p.body 0 ([], [], 0)).snd.snd) := (by rw [bE9 (bA0 (by with_reducible assumption) (by simp only [aL6]; omega))]; rfl); have e2 : (okC p : Bool) = (true) := (bA0 (by with_reducible assumption) (by simp only [aL6]; omega)); (first | rw [e1, e2] | simp only [e1, e2]) <;> rfl) (by show _ = mR [0, 1, 2, 4, 5] (au9 p); unfold au9; rw [bE9 (bA0 (by with_reducible assumption) (by simp only [aL6]; omega))] <;> rfl)
   · refine wp_seq (C6 G d9 [(2, .ptr 3 0), (3, bA false), (4, .ptr 4 0)] fun G => b6 (wp_ret (l4 ?_))); obtain ⟨ρ, G⟩ := G.nil 7 86 (.instrs []) 5 (dI p.vars :: dI p.arrays :: dT p.body :: .box [.ref 7, .v (.slice none 0 0), iA 0] :: .box [.ref 5, .ref 6, iA (m7 p.body 0 ([], [], 0)).snd.snd] :: (aS7 p [])) [(2, .ptr 3 0), (3, bA false), (4, .ptr 4 0)]; obtain ⟨ρ, G⟩ := G.nil 8 3 (.ints []) 1 (dI p.vars :: dI p.arrays :: dT p.body :: .box [.ref 7, .ref 8, iA 0] :: .box [.ref 5, .ref 6, iA (m7 p.body 0 ([], [], 0)).snd.snd] :: (aS7 p [.row 86 (D.instrs [])])) [(2, .ptr 3 0), (3, bA false), (4, .ptr 4 0)]; exact T7 (.tup [.agg [.ref 7, .ref 8, iA 0], bA false]) G [0, 1, 2, 7, 8] (by have e1 : ((I1 p).snd.snd : Int) = (0) := (by rw [ax3 (bA1 (by simp only [aL6]; omega))]; done); have e2 : (okC p : Bool) = (false) := (bA1 (by simp only [aL6]; omega)); (first | rw [e1, e2] | simp only [e1, e2]) <;> rfl) (by show _ = mR [0, 1, 2, 7, 8] (au9 p); unfold au9; rw [ax3 (bA1 (by simp only [aL6]; omega))] <;> rfl)
  · have q0 : (l8 p) = false := (Eq.mp (ci9 _) h0); refine rT G _ h0 (wp_seq (C6 G d9 [(1, .ptr 3 0), (2, .ptr 4 0), (3, bA false)] fun G => b6 (wp_ret (l4 ?_)))); obtain ⟨ρ, G⟩ := G.nil 5 86 (.instrs []) 5 [dI p.vars, dI p.arrays, dT p.body, .box (pL 0), .box [.ref 5, .v (.slice none 0 0), iA 0]] [(1, .ptr 3 0), (2, .ptr 4 0), (3, bA false)]; obtain ⟨ρ, G⟩ := G.nil 6 3 (.ints []) 1 [dI p.vars, dI p.arrays, dT p.body, .box (pL 0), .box [.ref 5, .ref 6, iA 0], .row 86 (D.instrs [])] [(1, .ptr 3 0), (2, .ptr 4 0), (3, bA false)]; exact T7 (.tup [.agg [.ref 5, .ref 6, iA 0], bA false]) G [0, 1, 2, 5, 6] (by have e1 : ((I1 p).snd.snd : Int) = (0) := (by rw [ax3 (aW4 (by with_reducible assumption))]; done); have e2 : (okC p : Bool) = (false) := (aW4 (by with_reducible assumption)); (first | rw [e1, e2] | simp only [e1, e2]) <;> rfl) (by show _ = mR [0, 1, 2, 5, 6] (au9 p); unfold au9; rw [ax3 (aW4 (by with_reducible assumption))] <;> rfl)
theorem b49 {p : i5} (h : okC p = true) : l8 p = true := by
 unfold okC at h; simp only [ch0] at h; exact h.1
def cvP (p : i5) : List Int := if okC p = true then p.vars else []
def caP (p : i5) : List Int := if okC p = true then p.arrays else []
theorem b89 {p : i5} (h : okC p = true) : cvP p = p.vars := if_pos h
theorem bY8 {p : i5} (h : okC p = false) : cvP p = [] := if_neg (by rw [h]; decide)
theorem b98 {p : i5} (h : okC p = true) : caP p = p.arrays := if_pos h
theorem bZ3 {p : i5} (h : okC p = false) : caP p = [] := if_neg (by rw [h]; decide)
abbrev aT4 (p : i5) : List It := [dI p.vars, dI p.arrays, dT p.body, .row 3 (D.ints (cvP p)), .row 3 (D.ints (caP p)), .row 86 (D.instrs (I1 p).fst)]
abbrev aS6 (p : i5) (r0 : List It) : List It := .row 86 (D.instrs (I1 p).fst) :: .row 3 (D.ints (I1 p).snd.fst) :: .box [.ref 5, .ref 6, iA (I1 p).snd.snd] :: r0
theorem ax7 (p : i5) (hb : p.size ≤ 1048576) : j8.ok Tryz.prog ⟨23, [pA 0], pS p, pS p ++ [rI (cvP p), rI (caP p), rN (I1 p).1], .tup [.agg [.ref 3, .ref 4, .ref 5], bA (okC p)]⟩ := by
 refine E2 25 Tryz.func23 [dI p.vars, dI p.arrays, dT p.body] [(0, pA 0)] fun G => ?_
 have hb1 : p.vars.length ≤ 1048576 ∧ p.arrays.length ≤ 1048576 ∧ j5 p.body ≤ 1048576 := by unfold i5.size at hb; omega
 refine wp_seq (j7 G d9 [0, 1, 2, 3, 11] [dI p.vars, dI p.arrays, dT p.body, .box (pL 0), .box [.v (.slice none 0 0), .v (.slice none 0 0), .v (.slice none 0 0)]] [(1, .ptr 3 0), (2, .ptr 4 0), (3, bA false)] fun G => b6 (wp_seq (j7 G (s7 1 [0, 1, 2] (a76 p (by omega))) [0, 1, 2, 3, 4, 13, 14, 45] (dI p.vars :: dI p.arrays :: dT p.body :: .box (pL 0) :: .box [.v (.slice none 0 0), .v (.slice none 0 0), .v (.slice none 0 0)] :: (aS6 p [])) [(1, .ptr 3 0), (2, .ptr 4 0), (3, bA false), (4, .ptr 7 0), (5, bA (okC p))] fun G => b6 (wp_seq (wp_seq (k8 G d9 [(12, .v (.bool !okC p))] fun G => b6 ?_)))))); cases h0 : (!okC p)
 ·have q0 : (okC p) = true := (Eq.mp (cj6 _) h0); refine rF G _ h0 (wp_skip (b6 (wp_seq (N5 G d9 [0, 0, 2, 7, 0, 0, 32, 127, 0, 256, 1023, 2047, 4095] [0, 1, 2, 4, 5, 32, 64] [dI p.vars, dI p.arrays, dT p.body, .box [.ref 5, .ref 6, .ref 4], .row 86 (D.instrs (I1 p).fst), .row 3 (D.ints ([] ++ p.vars)), .row 3 (D.ints ([] ++ p.arrays))] [(2, .ptr 3 0), (3, bA true)] (aP ((0 : Nat) + p.vars.length) 8 (aP ((0 : Nat) + p.arrays.length) 8 [])) (aK (by omega) (aK (by omega) ci3)) fun G => b6 (wp_ret ?_))))); exact T7 (.tup [.agg [.ref 5, .ref 6, .ref 4], bA true]) G [0, 1, 2, 5, 6, 4] (by have e1 : (okC p : Bool) = (true) := (by assumption); (first | rw [e1] | simp only [e1]) <;> rfl) (by show _ = mR [0, 1, 2, 5, 6, 4] (aT4 p); unfold aT4; have e2 : (caP p : List Int) = ([] ++ p.arrays) := (by rw [b98 (by with_reducible assumption)]; rfl); rw [e2, b89 (by with_reducible assumption)] <;> rfl)
 ·have q0 : (okC p) = false := (Eq.mp (ci9 _) h0); refine rT G _ h0 (wp_seq (C6 G d9 [(1, .ptr 3 0), (2, .ptr 4 0), (3, bA false), (4, .ptr 7 0)] fun G => b6 (wp_ret (l4 ?_)))); obtain ⟨ρ, G⟩ := G.nil 8 3 (.ints []) 1 (dI p.vars :: dI p.arrays :: dT p.body :: .box (pL 0) :: .box [.ref 8, .v (.slice none 0 0), .v (.slice none 0 0)] :: (aS6 p [])) [(1, .ptr 3 0), (2, .ptr 4 0), (3, bA false), (4, .ptr 7 0)]; obtain ⟨ρ, G⟩ := G.nil 9 3 (.ints []) 1 (dI p.vars :: dI p.arrays :: dT p.body :: .box (pL 0) :: .box [.ref 8, .ref 9, .v (.slice none 0 0)] :: (aS6 p [.row 3 (D.ints [])])) [(1, .ptr 3 0), (2, .ptr 4 0), (3, bA false), (4, .ptr 7 0)]; obtain ⟨ρ, G⟩ := G.nil 10 86 (.instrs []) 5 (dI p.vars :: dI p.arrays :: dT p.body :: .box (pL 0) :: .box (pL 8) :: (aS6 p [.row 3 (D.ints []), .row 3 (D.ints [])])) [(1, .ptr 3 0), (2, .ptr 4 0), (3, bA false), (4, .ptr 7 0)]; exact T7 (.tup [pA 8, bA false]) G [0, 1, 2, 8, 9, 10] (by have e1 : (okC p : Bool) = (false) := (by assumption); (first | rw [e1] | simp only [e1]) <;> rfl) (by show _ = mR [0, 1, 2, 8, 9, 10] (aT4 p); unfold aT4; have e2 : (caP p : List Int) = ([]) := (by rw [bZ3 (by with_reducible assumption)]; done); have e3 : ((I1 p).fst : List d7) = ([]) := (by rw [ax3 (by with_reducible assumption)]; done); rw [e2, e3, bY8 (by with_reducible assumption)] <;> rfl)
def rqL (l : Int) (xs : List Int) (k : Nat) : List Int := (xs.take k).map (fun x => l0 x l) ++ xs.drop k
theorem bk3 (l : Int) (xs : List Int) (k : Nat) : (rqL l xs k).length = xs.length := by simp [rqL]; omega
theorem bk4 {l : Int} {xs : List Int} {k : Nat} (h : xs.length ≤ k) : rqL l xs k = xs.map fun x => l0 x l := by
 unfold rqL
 rw [ci6 (by omega), List.drop_eq_nil_of_le (by omega), List.append_nil]
theorem bU5 {l : Int} {xs : List Int} {k : Nat} (h : k < xs.length) : (rqL l xs k).getD k 0 = xs.getD k 0 := by
 unfold rqL
 simp only [ch3]
 rw [ck2 (by simp; omega)]
 simp [List.length_take, Nat.min_eq_left (Nat.le_of_lt h)]
theorem bk2 {l : Int} {xs : List Int} {k : Nat} (h : k < xs.length) : (rqL l xs k).set k (l0 ((rqL l xs k).getD k 0) l) = rqL l xs (k + 1) := by
 rw [bU5 h]
 unfold rqL
 apply List.ext_getElem?
 intro j
 rw [List.getElem?_set]
 by_cases e : k = j
 ·subst e
  rw [if_pos rfl, if_pos (by simp; omega)]
  rw [ci4 (by simp; omega)]
  simp [List.getElem?_take, h, ch3]
 ·rw [if_neg e]
  rcases cj1 j k with h1 | h1
  ·rw [ci4 (by simp; omega), ci4 (by simp; omega)]
   simp [List.getElem?_take, h1, show j < k + 1 by omega]
  ·rw [ck2 (by simp; omega), ck2 (by simp; omega)]
   simp only [List.length_map, List.length_take, List.getElem?_drop]
   congr 1
   omega
def l6 (b : List UInt8) (j : Int) : f7 × Int := (⟨(L7 b j).vars, (L7 b j).arrays, (clD b (P5 b j).2 (L7 b j).vars.length (L7 b j).arrays.length).1⟩, (clD b (P5 b j).2 (L7 b j).vars.length (L7 b j).arrays.length).2)
theorem bG9 (b : List UInt8) {j : Int} (hj : 0 ≤ j) (hj2 : j ≤ 10000000) : j + 2 ≤ (P5 b j).2 ∧ (P5 b j).2 ≤ j + 150000 := by
 have h1 := bo0 b hj hj2
 have h2 := bm1 b hj hj2
 omega
theorem by8 (b : List UInt8) (j : Int) : (L7 b j).vars.length ≤ 12 ∧ (L7 b j).arrays.length ≤ 2 ∧ 1 ≤ (L7 b j).vars.length := by
 have h := ac6 (bz0 b j)
 have := (aw1 (bz0 b j)).2.2.1
 omega
theorem bF5 (b : List UInt8) {j : Int} (hj : 0 ≤ j) (hj2 : j ≤ 10000000) : j + 3 ≤ (l6 b j).2 ∧ (l6 b j).2 ≤ j + 150100 ∧ (l6 b j).1.list.length ≤ 12 ∧ 1 ≤ (l6 b j).1.list.length := by
 have h1 := bG9 b hj hj2
 have h2 := cg3 b (j := (P5 b j).2) (L7 b j).vars.length (L7 b j).arrays.length (by omega) (by omega)
 have h3 := bW8 b (j := (P5 b j).2) (by omega) (by omega)
 have e : (l6 b j).1.list.length = (clD b (P5 b j).2 (L7 b j).vars.length (L7 b j).arrays.length).1.length := rfl
 have e2 : (l6 b j).2 = (clD b (P5 b j).2 (L7 b j).vars.length (L7 b j).arrays.length).2 := rfl
 rw [e, e2]
 omega
def H6 (b : List UInt8) : Nat → Int → i5 × Int
 | 0, j => (V1 b j, (P5 b j).2 + 1)
 | n + 1, j => if (V9 (V1 b j) false).1 = 0 ∧ 0 < (V1 b j).body.length then (V1 b j, (P5 b j).2 + 1) else H6 b n ((P5 b j).2 + 1)
theorem bN0 (b : List UInt8) : ∀ (n : Nat) (j : Int), n ≤ 3 → 0 ≤ j → j + n * 150001 ≤ 10000000 → j ≤ (H6 b n j).2 ∧ (H6 b n j).2 ≤ j + (n + 1) * 150001 ∧ (H6 b n j).1.size ≤ 160000
 | 0, j, _, hj, hj2 => by
  have h := bG9 b hj (by omega)
  have h2 := ba0 b hj (by omega)
  refine ⟨?_, ?_, h2⟩ <;> (show _ ≤ _; simp only [H6]; omega)
 | n + 1, j, hn, hj, hj2 => by
  have h := bG9 b hj (by omega)
  have h2 := ba0 b hj (by omega)
  have ih := bN0 b n ((P5 b j).2 + 1) (by omega) (by omega) (by omega)
  rw [H6]
  split
  ·exact ⟨by show j ≤ (P5 b j).2 + 1; omega, by show (P5 b j).2 + 1 ≤ _; omega, h2⟩
  ·exact ⟨by omega, by omega, ih.2.2⟩
def P6 (b : List UInt8) (j : Int) : Nat → Int
 | 0 => j
 | i + 1 => (P5 b (P6 b j i)).2 + 1
theorem b80 (b : List UInt8) {j : Int} (hj : 0 ≤ j) (hj2 : j ≤ 9000000) : ∀ i : Nat, i ≤ 3 → j ≤ P6 b j i ∧ P6 b j i ≤ j + i * 150001
 | 0, _ => ⟨Int.le_refl _, by simp [P6]⟩
 | i + 1, hi => by
  have ih := b80 b hj hj2 i (by omega)
  have h := bG9 b (j := P6 b j i) (by omega) (by omega)
  rw [P6]
  omega
theorem b83 {b : List UInt8} {j : Int} {i : Nat} (hi : i < 3) (h : H6 b 3 j = H6 b (3 - i) (P6 b j i)) (hn : ¬ ((V9 (V1 b (P6 b j i)) false).1 = 0 ∧ 0 < (V1 b (P6 b j i)).body.length)) : H6 b 3 j = H6 b (3 - (i + 1)) (P6 b j (i + 1)) := by
 rw [h, show 3 - i = (3 - (i + 1)) + 1 by omega, H6, if_neg hn]; rfl
theorem bY0 {b : List UInt8} {j : Int} {i : Nat} (hi : i < 3) (h : H6 b 3 j = H6 b (3 - i) (P6 b j i)) (hn : (V9 (V1 b (P6 b j i)) false).1 = 0 ∧ 0 < (V1 b (P6 b j i)).body.length) : H6 b 3 j = (V1 b (P6 b j i), (P5 b (P6 b j i)).2 + 1) := by
 rw [h, show 3 - i = (3 - (i + 1)) + 1 by omega, H6, if_pos hn]
theorem bM8 {b : List UInt8} {j : Int} {i : Nat} (hi : 3 ≤ i) (hi2 : i ≤ 3) (h : H6 b 3 j = H6 b (3 - i) (P6 b j i)) : H6 b 3 j = (V1 b (P6 b j i), (P5 b (P6 b j i)).2 + 1) := by
 rw [h, show 3 - i = 0 by omega, H6]
theorem bn3 {p : i5} (h : okL p = false) : okC (G0 p) = false := by
 rw [bl5 h]; exact aW4 (by decide +kernel)
def fnI (x : d7) : d7 := if x.op = 9 ∨ x.op = 4 ∨ x.op = 5 then ⟨12, 0, 0, 0, 0⟩ else x
def Y7 (xs : List d7) (k : Nat) : List d7 := (xs.take k).map fnI ++ xs.drop k
theorem bm7 (xs : List d7) (k : Nat) : (Y7 xs k).length = xs.length := by simp [Y7]; omega
theorem be5 {xs : List d7} {k : Nat} (h : k < xs.length) : (Y7 xs k).getD k cg8 = xs.getD k cg8 := by
 unfold Y7
 simp only [ch3]
 rw [ck2 (by simp; omega)]
 simp [List.length_take, Nat.min_eq_left (Nat.le_of_lt h)]
theorem a60 {xs : List d7} {k : Nat} (h : k < xs.length) : Y7 xs (k + 1) = (Y7 xs k).set k (fnI (xs.getD k cg8)) := by
 unfold Y7
 apply List.ext_getElem?
 intro j
 rw [List.getElem?_set]
 by_cases e : k = j
 ·subst e
  rw [if_pos rfl, if_pos (by simp; omega)]
  rw [ci4 (by simp; omega)]
  simp [List.getElem?_take, h, ch3]
 ·rw [if_neg e]
  rcases cj1 j k with h1 | h1
  ·rw [ci4 (by simp; omega), ci4 (by simp; omega)]
   simp [List.getElem?_take, h1, show j < k + 1 by omega]
  ·rw [ck2 (by simp; omega), ck2 (by simp; omega)]
   simp only [List.length_map, List.length_take, List.getElem?_drop]
   congr 1
   omega
theorem bD3 {xs : List d7} {k : Nat} (h : k < xs.length) (ho : ((Y7 xs k).getD k cg8).op = 9 ∨ ((Y7 xs k).getD k cg8).op = 4 ∨ ((Y7 xs k).getD k cg8).op = 5) : Y7 xs (k + 1) = (Y7 xs k).set k ⟨12, 0, 0, 0, 0⟩ := by
 rw [a60 h]
 rw [be5 h] at ho
 unfold fnI; rw [if_pos ho]
theorem b78 {xs : List d7} {k : Nat} (h : k < xs.length) (ho : ¬ (((Y7 xs k).getD k cg8).op = 9 ∨ ((Y7 xs k).getD k cg8).op = 4 ∨ ((Y7 xs k).getD k cg8).op = 5)) : Y7 xs (k + 1) = Y7 xs k := by
 have ho2 := ho
 rw [be5 h] at ho2
 rw [a60 h]
 unfold fnI; rw [if_neg ho2]
 have hk : k < (Y7 xs k).length := by rw [bm7]; exact h
 rw [← be5 h, m0 hk]; simp
theorem bM6 {xs : List d7} {k : Nat} (h : xs.length ≤ k) : Y7 xs k = xs.map fnI := by
 unfold Y7
 rw [ci6 (by omega), List.drop_eq_nil_of_le (by omega), List.append_nil]
def U9 (b : List UInt8) (j : Int) : f7 × Int :=
 if pk b (l6 b j).2 3 = 0 then
  (if okC (G0 (H6 b 3 ((l6 b j).2 + 1)).1) = true ∧ (I1 (G0 (H6 b 3 ((l6 b j).2 + 1)).1)).1.length ≤ 60 then
   (⟨cvP (G0 (H6 b 3 ((l6 b j).2 + 1)).1), caP (G0 (H6 b 3 ((l6 b j).2 + 1)).1), (I1 (G0 (H6 b 3 ((l6 b j).2 + 1)).1)).1⟩, (H6 b 3 ((l6 b j).2 + 1)).2)
  else ((l6 b j).1, (H6 b 3 ((l6 b j).2 + 1)).2))
 else if pk b (l6 b j).2 3 = 1 then (⟨(l6 b j).1.vars.map fun x => l0 x 1, (l6 b j).1.arrays.map fun x => l0 x 1, (l6 b j).1.list.map fnI⟩, (l6 b j).2 + 1)
 else ((l6 b j).1, (l6 b j).2 + 1)
theorem bY7 (p : i5) : (cvP p).length ≤ 12 ∧ (caP p).length ≤ 2 := by
 cases h : okC p
 ·rw [bY8 h, bZ3 h]; simp
 ·rw [b89 h, b98 h]
  have := ac6 (b49 h)
  omega
theorem b51 (b : List UInt8) {j : Int} (hj : 0 ≤ j) (hj2 : j ≤ 5000000) : j ≤ (U9 b j).2 ∧ (U9 b j).2 ≤ j + 1000000 ∧ (U9 b j).1.list.length ≤ 60 ∧ (U9 b j).1.vars.length ≤ 12 ∧ (U9 b j).1.arrays.length ≤ 2 := by
 have h1 := bF5 b hj (by omega)
 have h2 := bN0 b 3 ((l6 b j).2 + 1) (ch5 _) (by omega) (by omega)
 have h3 := by8 b j
 have e1 : (l6 b j).1.vars = (L7 b j).vars := rfl
 have e2 : (l6 b j).1.arrays = (L7 b j).arrays := rfl
 have h4 := bY7 (G0 (H6 b 3 ((l6 b j).2 + 1)).1)
 unfold U9
 split
 ·split
  ·rename_i h; exact ⟨by simp only; omega, by simp only; omega, h.2, h4.1, h4.2⟩
  ·exact ⟨by simp only; omega, by simp only; omega, by simp only; omega, by simp only [e1]; omega, by simp only [e2]; omega⟩
 ·split
  ·exact ⟨by simp only; omega, by simp only; omega, by simp only [List.length_map]; omega, by simp only [List.length_map, e1]; omega, by simp only [List.length_map, e2]; omega⟩
  ·exact ⟨by simp only; omega, by simp only; omega, by simp only; omega, by simp only [e1]; omega, by simp only [e2]; omega⟩
def y9 (c : List UInt8) : f7 := (muD (bsD c) (U9 (bsD c) 0).2 (U9 (bsD c) 0).1).1
theorem bY3 (c : List UInt8) : (y9 c).list.length ≤ 60 ∧ (y9 c).vars.length ≤ 12 ∧ (y9 c).arrays.length ≤ 2 := by
 have h1 := b51 (bsD c) (j := 0) (by omega) (by omega)
 have h2 := ce8 (bsD c) (U9 (bsD c) 0).2 (U9 (bsD c) 0).1
 unfold y9
 omega
abbrev cdC (b : List UInt8) (j : Int) : j8 := ⟨168, [.ptr 0 0], [.box [.ref 1, iA j], dY b], [.box [.ref 1, iA (l6 b j).2], dY b, rI (l6 b j).1.vars, rI (l6 b j).1.arrays, rN (l6 b j).1.list], .agg [.ref 2, .ref 3, .ref 4]⟩
abbrev R3 (b : List UInt8) (j X : Int) (k : Nat) : List d7 × Int := rsD b ((P5 b j).2 + 1) (L7 b j).vars.length (L7 b j).arrays.length X k
section
variable {b : List UInt8} {j X : Int} {k : Nat}
theorem b94 (hX : nm b (P5 b j).2 lnL = X) (hk : (k : Int) = X - 1) (h3 : ¬ X > 3) : (l6 b j).1.list = (R3 b j X k).1 ++ [⟨13, 0, 0, 0, 0⟩] ∧ (l6 b j).2 = (R3 b j X k).2 := by
 obtain rfl : k = (X - 1).toNat := by omega
 unfold l6 clD
 simp only [hX, if_neg h3]
 constructor <;> first | trivial | rfl
theorem b93 (hX : nm b (P5 b j).2 lnL = X) (hk : (k : Int) = X - 1) (h3 : X > 3) (h : ¬ pk b (R3 b j X k).2 4 = 0) : (l6 b j).1.list = (R3 b j X k).1 ++ [⟨13, 0, 0, 0, 0⟩] ∧ (l6 b j).2 = (R3 b j X k).2 + 1 := by
 obtain rfl : k = (X - 1).toNat := by omega
 unfold R3 at h
 unfold l6 clD
 simp only [hX, if_pos h3, if_neg h]
 constructor <;> first | trivial | rfl
theorem b92 (hX : nm b (P5 b j).2 lnL = X) (hk : (k : Int) = X - 1) (h3 : X > 3) (h : pk b (R3 b j X k).2 4 = 0) : (l6 b j).1.list = (((R3 b j X k).1 ++ [(⟨13, 0, 0, 0, 0⟩ : d7)]).set 0 ⟨1, 5, 1 + pk b ((R3 b j X k).2 + 1) 3, 0, 0⟩).set (X - 2).toNat ⟨10, 5, 1, 0, 0⟩ ∧ (l6 b j).2 = (R3 b j X k).2 + 1 + 1 := by
 obtain rfl : k = (X - 1).toNat := by omega
 unfold R3 at h
 unfold l6 clD
 simp only [hX, if_pos h3, if_pos h]
 constructor
 ·first | trivial | rfl
 ·exact (Int.add_assoc _ 1 1).symm
theorem pw3 (b : List UInt8) {i : Int} (h0 : 0 ≤ i) (h1 : i ≤ 1000000000) : IntKind.i64.wrap (1 + pk b i 3) = 1 + pk b i 3 := by
 have := ae3 b (i := i) (m := 3) h0 h1
 exact w64 (by omega) (by omega)
theorem b39 (b : List UInt8) {j : Int} (X : Int) (r0 : 0 ≤ j) (r1 : j ≤ 10000000) (k : Nat) : (R3 b j X k).1.length = k ∧ (P5 b j).2 + 1 ≤ (R3 b j X k).2 ∧ (R3 b j X k).2 ≤ (P5 b j).2 + 1 + 5 * k :=
 bU4 b ((P5 b j).2 + 1) _ _ X k
end
abbrev aP5 (b : List UInt8) (j : Int) (X : Int) (k : Nat) := Z5 b (R3 b j X k).snd (L7 b j).vars.length (L7 b j).arrays.length (k : Int) X
abbrev aP4 (b : List UInt8) (j : Int) : List It := [.box [.ref 1, iA (l6 b j).snd], dY b, .row 3 (D.ints (l6 b j).fst.vars), .row 3 (D.ints (l6 b j).fst.arrays), .row 86 (D.instrs (l6 b j).fst.list)]
abbrev a00 : It := .box [.v (.slice none 0 0), .v (.slice none 0 0), .v (.slice none 0 0)]
abbrev aF2 (b : List UInt8) (j : Int) : It := .row 3 (D.ints (L7 b j).arrays)
abbrev aF1 (b : List UInt8) (j : Int) : It := .row 3 (D.ints (L7 b j).vars)
abbrev bP7 (b : List UInt8) (j : Int) (X : Int) (k : Nat) : It := .row 86 (D.instrs ((((R3 b j X k).fst ++ ([d7.mk 13 0 0 0 0] ++ [])).set 0 (d7.mk 1 5 (1 + pk b ((R3 b j X k).snd + 1) 3) 0 0)).set (X - 2).toNat (d7.mk 10 5 1 0 0)))
abbrev bi7 (b : List UInt8) (j : Int) (X : Int) (k : Nat) : It := .row 86 (D.instrs ((R3 b j X k).fst ++ ([d7.mk 13 0 0 0 0] ++ [])))
abbrev ay4 (X : Int) (r0 : List (Nat × AV)) : List (Nat × AV) := (0, .ptr 0 0) :: (2, .ptr 2 0) :: (4, .ptr 5 0) :: (5, iA X) :: r0
abbrev aE3 (b : List UInt8) (j : Int) (r0 : List It) : List It := dY b :: a00 :: aF1 b j :: aF2 b j :: .box [.ref 3, .ref 4, .ref 6] :: r0
theorem bx0 (b : List UInt8) (j X : Int) (hX : nm b (P5 b j).2 lnL = X) (r0 : 0 ≤ j) (r1 : j ≤ 10000000) : j8.ok Tryz.prog (cdC b j) := by
  have hbd := bG9 b r0 r1; have hnum : j8.ok Tryz.prog ⟨122, [.ptr 0 0, .ref 2], [.box [.ref 1, iA (P5 b j).2], dY b, dI lnL], [.box [.ref 1, iA ((P5 b j).2 + 1)], dY b, dI lnL], iA X⟩ := hX ▸ Q7 b (P5 b j).2 lnL (List.cons_ne_nil _ _) (by omega) (by omega); refine E2 60 Tryz.func168 [.box [.ref 1, iA j], dY b] [(0, .ptr 0 0)] fun G => ?_; have hop : 1 ≤ X ∧ X ≤ 12 := hX ▸ bW8 b (by omega) (by omega); refine wp_seq (j7 G d9 [0, 1, 2] [.box [.ref 1, iA j], dY b, a00] [(0, .ptr 0 0), (2, .ptr 2 0)] fun G => b6 (wp_seq (j7 G (s7 1 [0, 1] (aA2 b j (by assumption) (by assumption))) [0, 1, 2, 11, 12, 13, 19] [.box [.ref 1, iA (P5 b j).snd], dY b, a00, aF1 b j, aF2 b j, .tree (D.stmts (L7 b j).body), .box [.ref 3, .ref 4, .tref 5]] [(0, .ptr 0 0), (2, .ptr 2 0), (3, .ptr 6 0)] fun G => b6 (wp_seq (j7 G d9 [0, 1, 2, 3, 4, 47] [.box [.ref 1, iA (P5 b j).snd], dY b, a00, aF1 b j, aF2 b j, .box [.ref 3, .ref 4, .v (.slice none 0 0)]] [(0, .ptr 0 0), (2, .ptr 2 0), (4, .ptr 5 0)] fun G => b6 (wp_seq (j7 G (s7 2 [0, 1, 14] (j8.lend hnum [.no, .no, .row 3])) (rg 6) [.box [.ref 1, iA ((P5 b j).snd + 1)], dY b, a00, aF1 b j, aF2 b j, .box [.ref 3, .ref 4, .v (.slice none 0 0)]] (ay4 X []) fun G => b6 (wp_seq (wp_seq (C6 G d9 (ay4 X [(6, iA 0)]) fun G => b6 (wp_block ?_))))))))))); obtain ⟨ρ, G⟩ := G.nil 6 86 (.instrs []) 5 [.box [.ref 1, iA ((P5 b j).snd + 1)], dY b, .box [.v (.slice none 0 0), .v (.slice none 0 0), .v (.slice none 0 0)], .row 3 (D.ints (L7 b j).vars), .row 3 (D.ints (L7 b j).arrays), .box [.ref 3, .ref 4, .ref 6]] (ay4 X [(6, iA 0)]); refine s6 (κ := Nat) (fun k => (k : Int) ≤ X - 1) (fun k => (X - 1).toNat - k) (fun k => (.box [.ref 1, iA (R3 b j X k).2] :: (aE3 b j [.row 86 (.instrs (R3 b j X k).1)]))) (fun k => (ay4 X [(6, iA k)])) 0 (by omega) (t4.at G _ _) ?_; clear G; intro k ρ a w hp G; replace G := t4.at G (.box [.ref 1, iA (R3 b j X k).snd] :: (aE3 b j [.row 86 (D.instrs (R3 b j X k).fst)])) (ay4 X [(6, iA k)]); have hrs := b39 b X r0 r1 k; refine wp_seq (wp_seq (D0 G d9 [(20, bA (decide ((k : Int) < X - 1)))] [wO (X - 1)] (o1 (by omega)) fun G => b6 (Z6 G (fun h0 q0 => ?_) fun h0 q0 => ?_)))
  ·
   refine wp_exit (r7 (r7 (p6 (b6 (wp_seq (N0 G d9 [0, 1, 2, 3, 4, 5, 39] (.box [.ref 1, iA (R3 b j X k).snd] :: (aE3 b j [bi7 b j X k])) (ay4 X []) (aP ((R3 b j X k).fst.length + ([d7.mk (13 : Int) (0 : Int) (0 : Int) (0 : Int) (0 : Int)] ++ []).length) 40 []) (aK (by simp only [ch4, ch7, ci2, cj7]; omega) ci3) fun G => b6 (wp_seq (wp_seq ?_)))))))); cases h1 : (decide (X > 3))
   · have q1 := dFf h1; refine k8 G (I5 (fc h1 fz) [(3, 0), (4, 0), (5, 0), (1006, 0)]) [(45, bA false)] fun G => b6 (rF G false (by kernel_rfl) (wp_skip (b6 (wp_seq (j7 G d9 [0, 1, 2, 3, 4, 6] [.box [.ref 1, iA (R3 b j X k).snd], dY b, .box (pL 3), aF1 b j, aF2 b j, bi7 b j X k] [(2, .ptr 2 0)] fun G => b6 (wp_ret ?_)))))); exact K2 G [0, 1, 3, 4, 5] (by show _ = mR [0, 1, 3, 4, 5] (aP4 b j); unfold aP4; have e1 : ((l6 b j).snd : Int) = ((R3 b j X k).snd) := ((b94 hX (by omega) (by omega)).2); have e2 : ((l6 b j).fst.list : List d7) = ((R3 b j X k).fst ++ ([d7.mk 13 0 0 0 0] ++ [])) := ((b94 hX (by omega) (by omega)).1); (first | rw [e1, e2] | simp only [e1, e2]) <;> rfl)
   ·
    have q1 := dTt h1; refine j7 G (E9 (t3 4 [0, 1] (t2 b ((R3 b j X k).snd) 4 (by omega) (by omega)) E8) (fc h1 fz) [(3, 0), (4, 0), (5, 0), (1006, 0)]) (rg 7) (.box [.ref 1, iA ((R3 b j X k).snd + 1)] :: (aE3 b j [bi7 b j X k])) (ay4 X [(45, bA (pk b (R3 b j X k).snd 4 == 0))]) fun G => b6 (J1 G (fun h2 q2 => ?_) fun h2 q2 => ?_)
    · refine wp_skip (b6 (wp_seq (j7 G d9 [0, 1, 2, 3, 4, 6] [.box [.ref 1, iA ((R3 b j X k).snd + 1)], dY b, .box (pL 3), aF1 b j, aF2 b j, bi7 b j X k] [(2, .ptr 2 0)] fun G => b6 (wp_ret ?_)))); exact K2 G [0, 1, 3, 4, 5] (by show _ = mR [0, 1, 3, 4, 5] (aP4 b j); unfold aP4; have e1 : ((l6 b j).snd : Int) = ((R3 b j X k).snd + 1) := ((b93 hX (by omega) (by omega) (by omega)).2); have e2 : ((l6 b j).fst.list : List d7) = ((R3 b j X k).fst ++ ([d7.mk 13 0 0 0 0] ++ [])) := ((b93 hX (by omega) (by omega) (by omega)).1); (first | rw [e1, e2] | simp only [e1, e2]) <;> rfl)
    · refine wp_seq (N5 G (s7 3 [0, 1] (t2 b ((R3 b j X k).snd + 1) 3 (by omega) (by omega))) [0, 1, 0, 4, 12, 28, 63, 127] (rg 7) (.box [.ref 1, iA ((R3 b j X k).snd + 1 + 1)] :: (aE3 b j [.row 86 (D.instrs (((R3 b j X k).fst ++ ([d7.mk 13 0 0 0 0] ++ [])).set 0 (d7.mk 1 5 (1 + pk b ((R3 b j X k).snd + 1) 3) 0 0)))])) [(2, .ptr 2 0), (4, .ptr 5 0), (5, iA X)] [wO ((1 : Int) + pk b ((R3 b j X k).snd + 1) (3 : Int)), (0 : Int) ≤ 0, (0 : Int) < (((R3 b j X k).fst ++ ([d7.mk (13 : Int) (0 : Int) (0 : Int) (0 : Int) (0 : Int)] ++ [])).length : Int), (0 : Nat) < ((R3 b j X k).fst ++ ([d7.mk (13 : Int) (0 : Int) (0 : Int) (0 : Int) (0 : Int)] ++ [])).length] ⟨(pw3 b (by omega) (by omega)), (by omega), (by simp [h0, h1, h2]), (by simp [h0, h1, h2]), ci3⟩ fun G => b6 (N0 G d9 (rg 7) (.box [.ref 1, iA ((R3 b j X k).snd + 1 + 1)] :: (aE3 b j [bP7 b j X k])) [(2, .ptr 2 0), (4, .ptr 5 0)] [wO (X - 2), (0 : Int) ≤ X - 2, X - 2 < ((((R3 b j X k).fst ++ ([d7.mk (13 : Int) (0 : Int) (0 : Int) (0 : Int) (0 : Int)] ++ [])).set (0 : Nat) (d7.mk (1 : Int) (5 : Int) ((1 : Int) + pk b ((R3 b j X k).snd + 1) (3 : Int)) (0 : Int) (0 : Int))).length : Int), (X - 2).toNat < (((R3 b j X k).fst ++ ([d7.mk (13 : Int) (0 : Int) (0 : Int) (0 : Int) (0 : Int)] ++ [])).set (0 : Nat) (d7.mk (1 : Int) (5 : Int) ((1 : Int) + pk b ((R3 b j X k).snd + 1) (3 : Int)) (0 : Int) (0 : Int))).length] ⟨oW (by omega), (by omega), (by simp only [ch4, ch7, ci2, cj7]; omega), (by simp only [ch4, ch7, ci2, cj7]; omega), ci3⟩ fun G => b6 (wp_seq (j7 G d9 [0, 1, 2, 3, 4, 6] [.box [.ref 1, iA ((R3 b j X k).snd + 1 + 1)], dY b, .box (pL 3), aF1 b j, aF2 b j, bP7 b j X k] [(2, .ptr 2 0)] fun G => b6 (wp_ret ?_))))); exact K2 G [0, 1, 3, 4, 5] (by show _ = mR [0, 1, 3, 4, 5] (aP4 b j); unfold aP4; have e1 : ((l6 b j).snd : Int) = ((R3 b j X k).snd + 1 + 1) := ((b92 hX (by omega) (by omega) (by omega)).2); have e2 : ((l6 b j).fst.list : List d7) = ((((R3 b j X k).fst ++ ([d7.mk 13 0 0 0 0] ++ [])).set 0 (d7.mk 1 5 (1 + pk b ((R3 b j X k).snd + 1) 3) 0 0)).set (X - 2).toNat (d7.mk 10 5 1 0 0)) := ((b92 hX (by omega) (by omega) (by omega)).1); (first | rw [e1, e2] | simp only [e1, e2]) <;> rfl)
  · refine wp_skip (b6 (wp_seq (wp_block (N5 G (s7 6 [0, 1, 3, 4, 6] (j8.lend (bf5 b ((R3 b j X k).snd) ((L7 b j).vars) ((L7 b j).arrays) ((R3 b j X k).fst) ((k : Int)) X (by omega) (by omega) (by omega) (by omega)) [.no, .no, .row 3, .row 3, .row 86])) [0, 1, 0, 0, 0, 0, 60, 124, 255, 511, 1023] [0, 1, 2, 3, 4, 5, 71] (.box [.ref 1, iA (aP5 b j X k).snd] :: (aE3 b j [.row 86 (D.instrs ((R3 b j X k).fst ++ ([d7.mk (aP5 b j X k).fst.op (aP5 b j X k).fst.a (aP5 b j X k).fst.b (aP5 b j X k).fst.c (aP5 b j X k).fst.d] ++ [])))])) (ay4 X [(6, iA k)]) (aP ((R3 b j X k).fst.length + ([d7.mk (Z5 b (R3 b j X k).snd (L7 b j).vars.length (L7 b j).arrays.length (k : Int) X).fst.op (Z5 b (R3 b j X k).snd (L7 b j).vars.length (L7 b j).arrays.length (k : Int) X).fst.a (Z5 b (R3 b j X k).snd (L7 b j).vars.length (L7 b j).arrays.length (k : Int) X).fst.b (Z5 b (R3 b j X k).snd (L7 b j).vars.length (L7 b j).arrays.length (k : Int) X).fst.c (Z5 b (R3 b j X k).snd (L7 b j).vars.length (L7 b j).arrays.length (k : Int) X).fst.d] ++ []).length) 40 []) (aK (by simp only [ch4, ch7, ci2, cj7]; omega) ci3) fun G => k6 (b6 (D0 G d9 [(6, iA ((k : Int) + 1))] [wO ((k : Int) + 1)] (o1 (by omega)) fun G => b6 ?_)))))); exact H9 G (k + 1) (by assumption) (by omega) (rg 7)
theorem at9 (b : List UInt8) (j : Int) (r0 : 0 ≤ j) (r1 : j ≤ 10000000) : j8.ok Tryz.prog (cdC b j) := bx0 b j _ rfl r0 r1
abbrev muC (b : List UInt8) (j : Int) (vs ars : List Int) (l : List d7) : j8 := ⟨95, [.ptr 0 0, .agg [.ref 2, .ref 3, .ref 4]], [.box [.ref 1, iA j], dY b, dI vs, dI ars, dN l], [.box [.ref 1, iA (muD b j ⟨vs, ars, l⟩).2], dY b, dI vs, dI ars, dN l, rI (muD b j ⟨vs, ars, l⟩).1.vars, rI (muD b j ⟨vs, ars, l⟩).1.arrays, rN (muD b j ⟨vs, ars, l⟩).1.list], .agg [.ref 5, .ref 6, .ref 7]⟩
section
variable {b : List UInt8} {j : Int} {vs ars : List Int} {l : List d7}
theorem ce7 (h : (([] ++ l).length : Int) = 0) : muD b j ⟨vs, ars, l⟩ = (⟨[] ++ vs, [] ++ ars, [] ++ l⟩, j) := by
 unfold muD; rw [if_pos (by rw [List.nil_append] at h; show l.length = 0; omega)]
 rfl
theorem cf4 (h : ¬ (([] ++ l).length : Int) = 0) (h1 : pk b j 60 = 0) : muD b j ⟨vs, ars, l⟩ = (⟨vs, ars, bU8 l 0 (nm b (j + 1) b57)⟩, j + 1 + 1) := by
 unfold muD; rw [if_neg (by rw [List.nil_append] at h; show ¬ l.length = 0; omega), if_pos h1, Int.add_assoc]; rfl
theorem cf3 (h : ¬ (([] ++ l).length : Int) = 0) (h1 : pk b j 60 = 1) : muD b j ⟨vs, ars, l⟩ = (⟨vs, ars, by4 l (pk b (j + 1) l.length).toNat (nm b (j + 1 + 1) b56)⟩, j + 1 + 1 + 1) := by
 unfold muD; rw [if_neg (by rw [List.nil_append] at h; show ¬ l.length = 0; omega), if_neg (by omega), if_pos h1, Int.add_assoc j 1 1, Int.add_assoc]; rfl
theorem cf2 (h : ¬ (([] ++ l).length : Int) = 0) (h1 : pk b j 60 = 2) : muD b j ⟨vs, ars, l⟩ = (⟨vs, ars, ([] ++ l).set ((([] ++ l).length : Int) - 1).toNat ⟨12, 0, 0, 0, 0⟩⟩, j + 1) := by
 unfold muD; rw [if_neg (by rw [List.nil_append] at h; show ¬ l.length = 0; omega), if_neg (by omega), if_neg (by omega), if_pos h1]
 rw [List.nil_append] at h ⊢
 exact congrArg (fun i => ((⟨vs, ars, l.set i _⟩ : f7), j + 1)) (by show l.length - 1 = _; omega)
theorem cf1 (h : ¬ (([] ++ l).length : Int) = 0) (h1 : pk b j 60 = 3) : muD b j ⟨vs, ars, l⟩ = (⟨vs, ars, ([] ++ l).set ((([] ++ l).length : Int) - 1).toNat ⟨8, 0, 0, 0, 0⟩⟩, j + 1) := by
 unfold muD; rw [if_neg (by rw [List.nil_append] at h; show ¬ l.length = 0; omega), if_neg (by omega), if_neg (by omega), if_neg (by omega), if_pos h1]
 rw [List.nil_append] at h ⊢
 exact congrArg (fun i => ((⟨vs, ars, l.set i _⟩ : f7), j + 1)) (by show l.length - 1 = _; omega)
theorem cf0 (h : ¬ (([] ++ l).length : Int) = 0) (h1 : pk b j 60 = 4) : muD b j ⟨vs, ars, l⟩ = (⟨vs, ars, bU9 l (pk b (j + 1) l.length).toNat (nm b (j + 1 + 1) b55)⟩, j + 1 + 1 + 1) := by
 unfold muD; rw [if_neg (by rw [List.nil_append] at h; show ¬ l.length = 0; omega), if_neg (by omega), if_neg (by omega), if_neg (by omega), if_neg (by omega), if_pos h1, Int.add_assoc j 1 1, Int.add_assoc]; rfl
theorem ce9 (h : ¬ (([] ++ l).length : Int) = 0) (h1 : pk b j 60 = 5) : muD b j ⟨vs, ars, l⟩ = (⟨[], ars, l⟩, j + 1) := by
 unfold muD; rw [if_neg (by rw [List.nil_append] at h; show ¬ l.length = 0; omega), if_neg (by omega), if_neg (by omega), if_neg (by omega), if_neg (by omega), if_neg (by omega), if_pos h1]
theorem ce6 (h : ¬ (([] ++ l).length : Int) = 0) (h1 : ¬ pk b j 60 = 0 ∧ ¬ pk b j 60 = 1 ∧ ¬ pk b j 60 = 2 ∧ ¬ pk b j 60 = 3 ∧ ¬ pk b j 60 = 4 ∧ ¬ pk b j 60 = 5) : muD b j ⟨vs, ars, l⟩ = (⟨[] ++ vs, [] ++ ars, [] ++ l⟩, j + 1) := by
 unfold muD; rw [if_neg (by rw [List.nil_append] at h; show ¬ l.length = 0; omega), if_neg (by omega), if_neg (by omega), if_neg (by omega), if_neg (by omega), if_neg (by omega), if_neg (by omega)]
 rfl
theorem ce5 (h : ¬ (([] ++ l).length : Int) = 0) (r0 : 0 ≤ j) (r1 : j ≤ 100000000) : 0 ≤ pk b (j + 1) (([] ++ l).length : Int) ∧ pk b (j + 1) (([] ++ l).length : Int) < (([] ++ l).length : Int) := bV2 b (by omega) (by omega) (by omega)
end
abbrev W8 (b : List UInt8) (j : Int) (vs : List Int) (ars : List Int) (l : List d7) : List It := [.box [.ref 1, iA (muD b j (f7.mk vs ars l)).snd], dY b, dI vs, dI ars, dN l, .row 3 (D.ints (muD b j (f7.mk vs ars l)).fst.vars), .row 3 (D.ints (muD b j (f7.mk vs ars l)).fst.arrays), .row 86 (D.instrs (muD b j (f7.mk vs ars l)).fst.list)]
abbrev bP6 (b : List UInt8) (j : Int) (l : List d7) : It := .row 86 (D.instrs (([] ++ l).set (pk b (j + 1) (([] ++ l).length : Int)).toNat (d7.mk (([] ++ l).getD (pk b (j + 1) (([] ++ l).length : Int)).toNat cg8).op (nm b (j + 1 + 1) ([-1] ++ ([14] ++ ([0] ++ ([400] ++ []))))) (([] ++ l).getD (pk b (j + 1) (([] ++ l).length : Int)).toNat cg8).b (([] ++ l).getD (pk b (j + 1) (([] ++ l).length : Int)).toNat cg8).c (([] ++ l).getD (pk b (j + 1) (([] ++ l).length : Int)).toNat cg8).d)))
abbrev bP5 (b : List UInt8) (j : Int) (l : List d7) : It := .row 86 (D.instrs (([] ++ l).set (pk b (j + 1) (([] ++ l).length : Int)).toNat (d7.mk (([] ++ l).getD (pk b (j + 1) (([] ++ l).length : Int)).toNat cg8).op (([] ++ l).getD (pk b (j + 1) (([] ++ l).length : Int)).toNat cg8).a (([] ++ l).getD (pk b (j + 1) (([] ++ l).length : Int)).toNat cg8).b (([] ++ l).getD (pk b (j + 1) (([] ++ l).length : Int)).toNat cg8).c (nm b (j + 1 + 1) ([1] ++ ([-1] ++ []))))))
abbrev ar0 : It := .box [.v (.slice none 0 0), .v (.slice none 0 0), .v (.slice none 0 0)]
abbrev bP4 (b : List UInt8) (j : Int) (l : List d7) : It := .row 86 (D.instrs (([] ++ l).set 0 (d7.mk (nm b (j + 1) ([0] ++ ([14] ++ ([1] ++ ([12] ++ []))))) (([] ++ l).getD 0 cg8).a (([] ++ l).getD 0 cg8).b (([] ++ l).getD 0 cg8).c (([] ++ l).getD 0 cg8).d)))
abbrev ab0 (vs : List Int) (ars : List Int) (r0 : List It) : List It := .row 3 (D.ints ([] ++ vs)) :: .row 3 (D.ints ([] ++ ars)) :: r0
theorem aM0 (b : List UInt8) (j : Int) (vs ars : List Int) (l : List d7) (hb : vs.length ≤ 1048576 ∧ ars.length ≤ 1048576 ∧ l.length ≤ 9000000) (r0 : 0 ≤ j) (r1 : j ≤ 100000000) : j8.ok Tryz.prog (muC b j vs ars l) := by
  refine E2 82 Tryz.func95 [.box [.ref 1, iA j], dY b, dI vs, dI ars, dN l] [(0, .ptr 0 0), (1, pA 2)] fun G => ?_
  have hmp := fun (h : ¬ (([] ++ l).length : Int) = 0) => ce5 (b := b) (j := j) (l := l) h r0 r1
  have hll : ([] ++ l).length ≤ 9000000 := hb.2.2; refine wp_seq (j7 G d9 [0, 1, 2, 3, 4, 5, 13] [.box [.ref 1, iA j], dY b, dI vs, dI ars, dN l, .box (pL 2), ar0] [(0, .ptr 0 0), (3, .ptr 5 0), (4, .ptr 6 0)] fun G => b6 (wp_seq (N5 G d9 [0, 0, 2, 7, 0, 0, 32, 127, 0, 0, 512, 2047, 4095, 0, 16383] [0, 1, 2, 3, 4, 6, 31, 63, 95, 111] (.box [.ref 1, iA j] :: dY b :: dI vs :: dI ars :: dN l :: ar0 :: (ab0 vs ars [.row 86 (D.instrs ([] ++ l)), .box (pL 6)])) [(0, .ptr 0 0), (4, .ptr 5 0), (5, .ptr 9 0)] (aP ((0 : Nat) + vs.length) 8 (aP ((0 : Nat) + ars.length) 8 (aP ((0 : Nat) + l.length) 40 []))) (aK (by omega) (aK (by omega) (aK (by omega) ci3))) fun G => b6 (wp_seq (k8 G d9 [(6, iA (([] ++ l).length : Int))] fun G => b6 (wp_seq (wp_seq (k8 G d9 [(24, bA ((([] ++ l).length : Int) == 0))] fun G => b6 (J1 G (fun h0 q0 => ?_) fun h0 q0 => ?_)))))))))
  ·
   refine wp_skip (b6 (wp_seq (wp_seq (j7 G (s7 1 [0, 1] (t2 b j 60 (by assumption) (by omega))) (rg 10) (.box [.ref 1, iA (j + 1)] :: dY b :: dI vs :: dI ars :: dN l :: ar0 :: (ab0 vs ars [.row 86 (D.instrs ([] ++ l)), .box (pL 6)])) [(0, .ptr 0 0), (4, .ptr 5 0), (5, .ptr 9 0), (6, iA (([] ++ l).length : Int)), (27, iA (pk b j 60))] fun G => b6 (wp_block (wp_seq (k8 G d9 [(28, bA (pk b j 60 == 0))] fun G => b6 (J1 G (fun h1 q1 => ?_) fun h1 q1 => ?_))))))))
   ·
    refine wp_seq (k8 G d9 [(37, bA (pk b j 60 == 1))] fun G => b6 (J1 G (fun h2 q2 => ?_) fun h2 q2 => ?_))
    ·
     refine wp_seq (k8 G d9 [(49, bA (pk b j 60 == 2))] fun G => b6 (J1 G (fun h3 q3 => ?_) fun h3 q3 => ?_))
     ·
      refine wp_seq (k8 G d9 [(57, bA (pk b j 60 == 3))] fun G => b6 (J1 G (fun h4 q4 => ?_) fun h4 q4 => ?_))
      ·
       refine wp_seq (k8 G d9 [(65, bA (pk b j 60 == 4))] fun G => b6 (J1 G (fun h5 q5 => ?_) fun h5 q5 => ?_))
       ·
        refine wp_seq (k8 G d9 [(77, bA (pk b j 60 == 5))] fun G => b6 (J1 G (fun h6 q6 => ?_) fun h6 q6 => ?_))
        · refine wp_skip (k6 (b6 (wp_seq (j7 G d9 (rg 9) (.box [.ref 1, iA (j + 1)] :: dY b :: dI vs :: dI ars :: dN l :: .box (pL 6) :: (ab0 vs ars [.row 86 (D.instrs ([] ++ l))])) [(4, .ptr 5 0)] fun G => b6 (wp_ret ?_))))); exact K2 G [0, 1, 2, 3, 4, 6, 7, 8] (by show _ = mR [0, 1, 2, 3, 4, 6, 7, 8] (W8 b j vs ars l); unfold W8; rw [ce6 (by omega) (by omega)] <;> rfl)
        · refine j7 G d9 [0, 1, 2, 3, 4, 5, 7, 8, 9, 10] [.box [.ref 1, iA (j + 1)], dY b, dI vs, dI ars, dN l, ar0, .row 3 (D.ints ([] ++ ars)), .row 86 (D.instrs ([] ++ l)), .box [.ref 9, .ref 6, .ref 7], .row 3 (D.ints [])] [(4, .ptr 5 0), (5, .ptr 8 0)] fun G => k6 (b6 (wp_seq (j7 G d9 [0, 1, 2, 3, 4, 5, 6, 7, 9] [.box [.ref 1, iA (j + 1)], dY b, dI vs, dI ars, dN l, .box [.ref 8, .ref 6, .ref 7], .row 3 (D.ints ([] ++ ars)), .row 86 (D.instrs ([] ++ l)), .row 3 (D.ints [])] [(4, .ptr 5 0)] fun G => b6 (wp_ret ?_)))); exact K2 G [0, 1, 2, 3, 4, 8, 6, 7] (by show _ = mR [0, 1, 2, 3, 4, 8, 6, 7] (W8 b j vs ars l); unfold W8; rw [ce9 (by omega) (by omega)] <;> rfl)
       · refine N5 G (E9 (t3 4 [0, 1] (t2 b (j + 1) ((([] ++ l).length : Int)) (by omega) (by omega)) (t3 7 [0, 1, 58] (j8.lend (Q7 b (j + 1 + 1) ([1] ++ ([-1] ++ [])) (by simp [h0, h1, h2, h3, h4, h5]) (by omega) (by omega)) [.no, .no, .row 3]) E8)) fz []) [0, 1, 0, 0, 12, 0, 0, 124, 255, 511, 1023] (rg 10) (.box [.ref 1, iA (j + 1 + 1 + 1)] :: dY b :: dI vs :: dI ars :: dN l :: ar0 :: (ab0 vs ars [bP5 b j l, .box (pL 6)])) [(4, .ptr 5 0), (5, .ptr 9 0)] (iX (pk b (j + 1) (([] ++ l).length : Int)) ((pk b (j + 1) (([] ++ l).length : Int)).toNat) (([] ++ l).length) []) (iK (by omega) ci3) fun G => k6 (b6 (wp_seq (j7 G d9 (rg 9) (.box [.ref 1, iA (j + 1 + 1 + 1)] :: dY b :: dI vs :: dI ars :: dN l :: .box (pL 6) :: (ab0 vs ars [bP5 b j l])) [(4, .ptr 5 0)] fun G => b6 (wp_ret ?_)))); exact K2 G [0, 1, 2, 3, 4, 6, 7, 8] (by show _ = mR [0, 1, 2, 3, 4, 6, 7, 8] (W8 b j vs ars l); unfold W8; rw [cf0 (by omega) (by omega)] <;> rfl)
      · refine N0 G d9 (rg 10) (.box [.ref 1, iA (j + 1)] :: dY b :: dI vs :: dI ars :: dN l :: ar0 :: (ab0 vs ars [.row 86 (D.instrs (([] ++ l).set ((([] ++ l).length : Int) - 1).toNat (d7.mk 8 0 0 0 0))), .box (pL 6)])) [(4, .ptr 5 0), (5, .ptr 9 0)] ((wO ((([] ++ l).length : Int) - 1)) :: (iX ((([] ++ l).length : Int) - 1) (((([] ++ l).length : Int) - 1).toNat) (([] ++ l).length) [])) ⟨oW (by omega), (iK (by omega) ci3)⟩ fun G => k6 (b6 (wp_seq (j7 G d9 (rg 9) (.box [.ref 1, iA (j + 1)] :: dY b :: dI vs :: dI ars :: dN l :: .box (pL 6) :: (ab0 vs ars [.row 86 (D.instrs (([] ++ l).set ((([] ++ l).length : Int) - 1).toNat (d7.mk 8 0 0 0 0)))])) [(4, .ptr 5 0)] fun G => b6 (wp_ret ?_)))); exact K2 G [0, 1, 2, 3, 4, 6, 7, 8] (by show _ = mR [0, 1, 2, 3, 4, 6, 7, 8] (W8 b j vs ars l); unfold W8; rw [cf1 (by omega) (by omega)] <;> rfl)
     · refine N0 G d9 (rg 10) (.box [.ref 1, iA (j + 1)] :: dY b :: dI vs :: dI ars :: dN l :: ar0 :: (ab0 vs ars [.row 86 (D.instrs (([] ++ l).set ((([] ++ l).length : Int) - 1).toNat (d7.mk 12 0 0 0 0))), .box (pL 6)])) [(4, .ptr 5 0), (5, .ptr 9 0)] ((wO ((([] ++ l).length : Int) - 1)) :: (iX ((([] ++ l).length : Int) - 1) (((([] ++ l).length : Int) - 1).toNat) (([] ++ l).length) [])) ⟨oW (by omega), (iK (by omega) ci3)⟩ fun G => k6 (b6 (wp_seq (j7 G d9 (rg 9) (.box [.ref 1, iA (j + 1)] :: dY b :: dI vs :: dI ars :: dN l :: .box (pL 6) :: (ab0 vs ars [.row 86 (D.instrs (([] ++ l).set ((([] ++ l).length : Int) - 1).toNat (d7.mk 12 0 0 0 0)))])) [(4, .ptr 5 0)] fun G => b6 (wp_ret ?_)))); exact K2 G [0, 1, 2, 3, 4, 6, 7, 8] (by show _ = mR [0, 1, 2, 3, 4, 6, 7, 8] (W8 b j vs ars l); unfold W8; rw [cf2 (by omega) (by omega)] <;> rfl)
    · refine N5 G (E9 (t3 4 [0, 1] (t2 b (j + 1) ((([] ++ l).length : Int)) (by omega) (by omega)) (t3 7 [0, 1, 58] (j8.lend (Q7 b (j + 1 + 1) ([-1] ++ ([14] ++ ([0] ++ ([400] ++ [])))) (by simp [h0, h1, h2]) (by omega) (by omega)) [.no, .no, .row 3]) E8)) fz []) [0, 1, 0, 0, 12, 0, 0, 124, 255, 511, 1023] (rg 10) (.box [.ref 1, iA (j + 1 + 1 + 1)] :: dY b :: dI vs :: dI ars :: dN l :: ar0 :: (ab0 vs ars [bP6 b j l, .box (pL 6)])) [(4, .ptr 5 0), (5, .ptr 9 0)] (iX (pk b (j + 1) (([] ++ l).length : Int)) ((pk b (j + 1) (([] ++ l).length : Int)).toNat) (([] ++ l).length) []) (iK (by omega) ci3) fun G => k6 (b6 (wp_seq (j7 G d9 (rg 9) (.box [.ref 1, iA (j + 1 + 1 + 1)] :: dY b :: dI vs :: dI ars :: dN l :: .box (pL 6) :: (ab0 vs ars [bP6 b j l])) [(4, .ptr 5 0)] fun G => b6 (wp_ret ?_)))); exact K2 G [0, 1, 2, 3, 4, 6, 7, 8] (by show _ = mR [0, 1, 2, 3, 4, 6, 7, 8] (W8 b j vs ars l); unfold W8; rw [cf3 (by omega) (by omega)] <;> rfl)
   · refine N5 G (s7 4 [0, 1, 34] (j8.lend (Q7 b (j + 1) ([0] ++ ([14] ++ ([1] ++ ([12] ++ [])))) (by simp [h0, h1]) (by omega) (by omega)) [.no, .no, .row 3])) [0, 1, 0, 0, 12, 31, 63, 127] (rg 10) (.box [.ref 1, iA (j + 1 + 1)] :: dY b :: dI vs :: dI ars :: dN l :: ar0 :: (ab0 vs ars [bP4 b j l, .box (pL 6)])) [(4, .ptr 5 0), (5, .ptr 9 0)] (iX 0 0 (([] ++ l).length) []) (iK (by omega) ci3) fun G => k6 (b6 (wp_seq (j7 G d9 (rg 9) (.box [.ref 1, iA (j + 1 + 1)] :: dY b :: dI vs :: dI ars :: dN l :: .box (pL 6) :: (ab0 vs ars [bP4 b j l])) [(4, .ptr 5 0)] fun G => b6 (wp_ret ?_)))); exact K2 G [0, 1, 2, 3, 4, 6, 7, 8] (by show _ = mR [0, 1, 2, 3, 4, 6, 7, 8] (W8 b j vs ars l); unfold W8; rw [cf4 (by omega) (by omega)] <;> rfl)
  · refine wp_seq (j7 G d9 (rg 10) (.box [.ref 1, iA j] :: dY b :: dI vs :: dI ars :: dN l :: .box (pL 6) :: (ab0 vs ars [.row 86 (D.instrs ([] ++ l)), .box (pL 6)])) [(0, .ptr 0 0), (4, .ptr 5 0), (5, .ptr 9 0), (6, iA (([] ++ l).length : Int))] fun G => b6 (wp_ret (l4 ?_))); exact K2 G [0, 1, 2, 3, 4, 6, 7, 8] (by show _ = mR [0, 1, 2, 3, 4, 6, 7, 8] (W8 b j vs ars l); unfold W8; rw [ce7 (by omega)] <;> rfl)
abbrev tyC (b : List UInt8) (j : Int) : j8 := ⟨56, [.ptr 0 0], [.box [.ref 1, iA j], dY b], [.box [.ref 1, iA ((P5 b j).2 + 1)], dY b] ++ oP (V1 b j), oA 2⟩
section
variable {b : List UInt8} {j : Int}
theorem cb2 (h : pk b (P5 b j).2 4 = 0) : V1 b j = L7 b j := if_pos h
theorem cb1 (h : ¬ pk b (P5 b j).2 4 = 0) (h2 : okI (L7 b j) = true) : V1 b j = ah1 (L7 b j) := by rw [V1, if_neg h, if_pos h2]
theorem cb0 (h : ¬ pk b (P5 b j).2 4 = 0) (h2 : okI (L7 b j) = false) : V1 b j = L7 b j := by rw [V1, if_neg h, if_neg (by rw [h2]; decide)]
end
abbrev aO9 (b : List UInt8) (j : Int) : List It := [.box [.ref 1, iA ((P5 b j).snd + 1)], dY b, .row 3 (D.ints (V1 b j).vars), .row 3 (D.ints (V1 b j).arrays), .tree (D.stmts (V1 b j).body)]
abbrev bh9 : It := .box [.v (.slice none 0 0), .v (.slice none 0 0), .v (.slice none 0 0)]
abbrev aE9 : It := .box [.ref 3, .ref 4, .tref 5]
abbrev aO7 (b : List UInt8) (j : Int) (r0 : List It) : List It := .row 3 (D.ints (L7 b j).vars) :: .row 3 (D.ints (L7 b j).arrays) :: .tree (D.stmts (L7 b j).body) :: r0
theorem aS2 (b : List UInt8) (j : Int) (r0 : 0 ≤ j) (r1 : j ≤ 10000000) : j8.ok Tryz.prog (tyC b j) := by
  refine E2 20 Tryz.func56 [.box [.ref 1, iA j], dY b] [(0, .ptr 0 0)] fun G => ?_; have hk2 := bm1 b r0 r1; have hbd := bo0 b r0 r1; have hsz := by9 b r0 r1; refine wp_seq (j7 G d9 [0, 1, 2] [.box [.ref 1, iA j], dY b, bh9] [(0, .ptr 0 0), (2, .ptr 2 0)] fun G => b6 (wp_seq (j7 G (s7 1 [0, 1] (aA2 b j (by assumption) (by assumption))) [0, 1, 2, 11, 12, 13, 19] (.box [.ref 1, iA (P5 b j).snd] :: dY b :: bh9 :: (aO7 b j [aE9])) [(0, .ptr 0 0), (2, .ptr 2 0), (3, .ptr 6 0)] fun G => b6 (wp_seq (wp_seq (j7 G (s7 1 [0, 1] (t2 b ((P5 b j).snd) 4 (by omega) (by omega))) (rg 7) (.box [.ref 1, iA ((P5 b j).snd + 1)] :: dY b :: bh9 :: (aO7 b j [aE9])) [(2, .ptr 2 0), (3, .ptr 6 0), (10, bA (pk b (P5 b j).snd 4 == 0))] fun G => b6 (J1 G (fun h0 q0 => ?_) fun h0 q0 => ?_)))))))
  ·
   refine wp_skip (b6 (wp_seq (j7 G (s7 1 [3, 4, 5] (j8.lend (aO2 (L7 b j) (by omega)) [.row 3, .row 3, .tree])) [0, 1, 2, 3, 4, 5, 6, 15, 16, 17, 47] (.box [.ref 1, iA ((P5 b j).snd + 1)] :: dY b :: bh9 :: (aO7 b j [aE9, .row 3 (D.ints (ah1 (L7 b j)).vars), .row 3 (D.ints (ah1 (L7 b j)).arrays), .tree (D.stmts (ah1 (L7 b j)).body), .box [.ref 7, .ref 8, .tref 9]])) [(2, .ptr 2 0), (3, .ptr 6 0), (4, .ptr 10 0), (5, bA (okI (L7 b j)))] fun G => b6 (wp_seq (wp_seq (k8 G d9 [(17, bA (okI (L7 b j)))] fun G => b6 (rcB G (fun h1 => ?_) fun h1 => ?_)))))))
   · refine wp_skip (b6 (wp_seq (j7 G d9 (rg 6) (.box [.ref 1, iA ((P5 b j).snd + 1)] :: dY b :: aE9 :: (aO7 b j [])) [(2, .ptr 2 0)] fun G => b6 (wp_ret ?_)))); exact K2 G [0, 1, 3, 4, 5] (by show _ = mR [0, 1, 3, 4, 5] (aO9 b j); unfold aO9; rw [cb0 (by omega) (by with_reducible assumption)] <;> rfl)
   · refine wp_seq (j7 G d9 (rg 10) (.box [.ref 1, iA ((P5 b j).snd + 1)] :: dY b :: .box [.ref 7, .ref 8, .tref 9] :: (aO7 b j [aE9, .row 3 (D.ints (ah1 (L7 b j)).vars), .row 3 (D.ints (ah1 (L7 b j)).arrays), .tree (D.stmts (ah1 (L7 b j)).body)])) [(2, .ptr 2 0), (3, .ptr 6 0)] fun G => b6 (wp_ret (l4 ?_))); exact K2 G [0, 1, 7, 8, 9] (by show _ = mR [0, 1, 7, 8, 9] (aO9 b j); unfold aO9; rw [cb1 (by omega) (by with_reducible assumption)] <;> rfl)
  · refine wp_seq (j7 G d9 (rg 7) (.box [.ref 1, iA ((P5 b j).snd + 1)] :: dY b :: aE9 :: (aO7 b j [aE9])) [(2, .ptr 2 0), (3, .ptr 6 0)] fun G => b6 (wp_ret (l4 ?_))); exact K2 G [0, 1, 3, 4, 5] (by show _ = mR [0, 1, 3, 4, 5] (aO9 b j); unfold aO9; rw [cb2 (by omega)] <;> rfl)
section
variable (vs ars : List Int) (bd : List c5)
end
abbrev fpC (b : List UInt8) (j : Int) : j8 := ⟨92, [.ptr 0 0], [.box [.ref 1, iA j], dY b], [.box [.ref 1, iA (H6 b 3 j).2], dY b] ++ oP (H6 b 3 j).1, oA 2⟩
theorem bD5 {b : List UInt8} {j : Int} {i : Nat} (hi : i < 3) (h : H6 b 3 j = H6 b (3 - i) (P6 b j i)) (hn : ¬ ((V9 ⟨(V1 b (P6 b j i)).vars, (V1 b (P6 b j i)).arrays, (V1 b (P6 b j i)).body⟩ false).1 = 0 ∧ 0 < (V1 b (P6 b j i)).body.length)) : i + 1 ≤ 3 ∧ H6 b 3 j = H6 b (3 - (i + 1)) (P6 b j (i + 1)) := ⟨hi, b83 hi h hn⟩
theorem bM9 {b : List UInt8} {j : Int} {i : Nat} (hi : i < 3) (h : H6 b 3 j = H6 b (3 - i) (P6 b j i)) (hn : (V9 ⟨(V1 b (P6 b j i)).vars, (V1 b (P6 b j i)).arrays, (V1 b (P6 b j i)).body⟩ false).1 = 0 ∧ 0 < (V1 b (P6 b j i)).body.length) : H6 b 3 j = (V1 b (P6 b j i), (P5 b (P6 b j i)).2 + 1) := bY0 hi h hn
theorem tyb (b : List UInt8) {j : Int} (h : 0 ≤ j) (h2 : j ≤ 10000000) : j5 (V1 b j).body ≤ 1048576 ∧ (V1 b j).body.length ≤ 1048576 := by
 have h1 := ba0 b h h2
 have h3 := K6 (V1 b j).body
 unfold i5.size at h1; omega
abbrev bh8 (b : List UInt8) (j : Int) : List It := [.box [.ref 1, iA (H6 b 3 j).snd], dY b, .row 3 (D.ints (H6 b 3 j).fst.vars), .row 3 (D.ints (H6 b 3 j).fst.arrays), .tree (D.stmts (H6 b 3 j).fst.body)]
abbrev aZ8 : It := .box [.v (.slice none 0 0), .v (.slice none 0 0), .v (.slice none 0 0)]
theorem aA1 (b : List UInt8) (j : Int) (r0 : 0 ≤ j) (r1 : j ≤ 9000000) : j8.ok Tryz.prog (fpC b j) := by
  refine E2 29 Tryz.func92 [.box [.ref 1, iA j], dY b] [(0, .ptr 0 0)] fun G => ?_; refine wp_seq (j7 G d9 [0, 1, 2] [.box [.ref 1, iA j], dY b, aZ8] [(0, .ptr 0 0), (2, .ptr 2 0)] fun G => b6 (wp_seq (wp_seq (C6 G d9 [(0, .ptr 0 0), (2, .ptr 2 0), (3, iA 0)] fun G => b6 (wp_block ?_))))); refine s6 (κ := Nat) (fun i => i ≤ 3 ∧ H6 b 3 j = H6 b (3 - i) (P6 b j i)) (fun i => 3 - i) (fun i => [.box [.ref 1, iA (P6 b j i)], dY b, aZ8]) (fun i => [(0, .ptr 0 0), (2, .ptr 2 0), (3, iA i)]) 0 (⟨cl0 _, rfl⟩) (t4.at G _ _) ?_; clear G; intro i ρ a w hp G; have hp := hp; have hfj := b80 b r0 r1 i hp.1; have htb := tyb b (j := P6 b j i) (by omega) (by omega); refine wp_seq (wp_seq (k8 G d9 [(8, bA (decide ((i : Int) < 3)))] fun G => b6 (Z6 G (fun h0 q0 => ?_) fun h0 q0 => ?_)))
  · refine wp_exit (r7 (r7 (p6 (b6 (wp_seq (j7 G (s7 1 [0, 1] (aS2 b (P6 b j i) (by omega) (by omega))) [0, 1, 2, 11, 12, 13] [.box [.ref 1, iA ((P5 b (P6 b j i)).snd + 1)], dY b, .box [.ref 3, .ref 4, .tref 5], .row 3 (D.ints (V1 b (P6 b j i)).vars), .row 3 (D.ints (V1 b (P6 b j i)).arrays), .tree (D.stmts (V1 b (P6 b j i)).body)] [(2, .ptr 2 0)] fun G => b6 (wp_ret ?_))))))); exact K2 G [0, 1, 3, 4, 5] (by show _ = mR [0, 1, 3, 4, 5] (bh8 b j); unfold bh8; rw [bM8 (b := b) (j := j) (i := i) (by omega) (by omega) hp.2] <;> rfl)
  ·
   refine wp_skip (b6 (wp_seq (wp_block (wp_seq (j7 G (s7 1 [0, 1] (aS2 b (P6 b j i) (by omega) (by omega))) [0, 1, 2, 11, 12, 13, 19] [.box [.ref 1, iA ((P5 b (P6 b j i)).snd + 1)], dY b, aZ8, .row 3 (D.ints (V1 b (P6 b j i)).vars), .row 3 (D.ints (V1 b (P6 b j i)).arrays), .tree (D.stmts (V1 b (P6 b j i)).body), .box [.ref 3, .ref 4, .tref 5]] [(0, .ptr 0 0), (2, .ptr 2 0), (3, iA i), (4, .ptr 6 0)] fun G => b6 (wp_seq (k8 G (s7 1 [3, 4, 5] (j8.lend (Y1 ((V1 b (P6 b j i)).vars) ((V1 b (P6 b j i)).arrays) ((V1 b (P6 b j i)).body) (by omega)) [.row 3, .row 3, .tree])) [(5, iA (V9 (i5.mk (V1 b (P6 b j i)).vars (V1 b (P6 b j i)).arrays (V1 b (P6 b j i)).body) false).fst)] fun G => b6 (wp_seq ?_)))))))); cases h1 : ((V9 (i5.mk (V1 b (P6 b j i)).vars (V1 b (P6 b j i)).arrays (V1 b (P6 b j i)).body) false).fst == 0)
   · have q1 := ne_of_beq_false h1; refine k8 G (I5 (fc h1 fz) (us [(3, 6, 0), (1007, 1007, 0)])) [(25, bA false)] fun G => b6 (rF G false (by kernel_rfl) (wp_skip (k6 (b6 (N0 G d9 [0, 1, 2] [.box [.ref 1, iA ((P5 b (P6 b j i)).snd + 1)], dY b, aZ8] [(0, .ptr 0 0), (2, .ptr 2 0), (3, iA ((i : Int) + 1))] [wO ((i : Int) + 1)] (o1 (by omega)) fun G => b6 ?_))))); exact H9 G (i + 1) (bD5 (by omega) hp.2 (by omega)) (by omega) [0, 1, 2]
   ·
    have q1 := eq_of_beq h1; refine k8 G (I5 (fc h1 fz) (us [(3, 6, 0), (1007, 1007, 0)])) [(25, bA (decide (((V1 b (P6 b j i)).body.length : Int) > 0)))] fun G => b6 (Z6 G (fun h2 q2 => ?_) fun h2 q2 => ?_)
    · refine wp_skip (k6 (b6 (N0 G d9 [0, 1, 2] [.box [.ref 1, iA ((P5 b (P6 b j i)).snd + 1)], dY b, aZ8] [(0, .ptr 0 0), (2, .ptr 2 0), (3, iA ((i : Int) + 1))] [wO ((i : Int) + 1)] (o1 (by omega)) fun G => b6 ?_))); exact H9 G (i + 1) (bD5 (by omega) hp.2 (by omega)) (by omega) [0, 1, 2]
    · refine wp_seq (j7 G d9 (rg 6) [.box [.ref 1, iA ((P5 b (P6 b j i)).snd + 1)], dY b, .box [.ref 3, .ref 4, .tref 5], .row 3 (D.ints (V1 b (P6 b j i)).vars), .row 3 (D.ints (V1 b (P6 b j i)).arrays), .tree (D.stmts (V1 b (P6 b j i)).body)] [(0, .ptr 0 0), (2, .ptr 2 0), (3, iA i)] fun G => b6 (wp_ret (z3 (l4 (l4 (z3 (l4 ?_))))))); exact K2 G [0, 1, 3, 4, 5] (by show _ = mR [0, 1, 3, 4, 5] (bh8 b j); unfold bh8; rw [bM9 (b := b) (j := j) (i := i) (by omega) hp.2 (by omega)] <;> rfl)
theorem j8.dupPost {P : Program} {f : FuncId} {args : List AV} {pre S : List It} {d : D} {res res' : AV} {i : Nat} (hc : j8.ok P ⟨f, args, pre, S, res⟩) (hi : S[i]? = some (.dat d)) (hl : pre.length ≤ S.length)
  (hS : S.all (fun x => aa0 S.length x.ids) = true) (hr : ∀ ρ : Nat → Value, ρ S.length = ρ i → res'.val ρ = res.val ρ) (hg : aa0 S.length res.ids = true) : j8.ok P ⟨f, args, pre, S ++ [.dat d], res'⟩ := by
 intro ι φ ψ w0 w F ρ M
 refine (hc ι φ ψ w0 w F ρ M).mono ?_
 rintro x w' ⟨ρ1, h1, rfl, M1⟩
 have hi' : s4 S i = .dat d := by simp [s4, hi]
 have hlt : i < S.length := (ci1.1 hi).1
 have hinv : Inv (s4 S) ρ1 [S.length] := fun ρ' h j => by
  by_cases hj : j < S.length
  ·refine It.res_congr _ (fun k hk => h k ?_) (.inr (.inr (h j (by simp; omega))))
   have h1 := D5 (ch8.1 hS (S[j]) (cj2 hj)) k (by simpa [s4, ch3, ch2 hj] using hk)
   simp; omega
  ·rw [show s4 S j = .none by simp only [s4, ch3, cj3 (Nat.le_of_not_lt hj)]; rfl]; rfl
 obtain ⟨ρ2, h3, M2, h4⟩ := M1.newDat (id := S.length) (by simp [s4]) hinv (M1.datAt hi')
 have e : n5 (s4 S) [(S.length, .dat d)] = s4 (S ++ [.dat d]) := by
  funext j
  simp only [n5, s4, ch3]
  by_cases hj : j = S.length
  ·subst hj; simp
  ·rw [if_neg hj]
   by_cases hj2 : j < S.length
   ·rw [ci4 hj2]
   ·rw [cj3 (by omega), cj3 (by simp; omega)]
 rw [e] at M2
 have hρ : ρ2 i = ρ1 i := h3 i (by simp; omega)
 refine ⟨ρ2, fun k hk => by
  have hk : k < pre.length := hk
  rw [h3 k (by simp; omega)]; exact h1 k hk, ?_, M2⟩
 rw [hr ρ2 (by rw [← h4, hρ])]
 exact congrArg _ (AV.val_congr res fun k hk => by
  have := D5 hg k hk
  exact h3 k (by simp; omega)).symm
abbrev nlA : AV := .v (.slice none 0 0)
abbrev qT (l : List c5) : It := .row 106 (.stmts l)
abbrev qI (l : List Int) : It := .row 3 (.ints l)
theorem bb6 (vs ars : List Int) (d : Nat) (ih : ∀ (e : c6), f8 vs.length ars.length d e = true → j8.ok Tryz.prog (V8 159 [.agg [.ref 0, .ref 1, nlA], eA e 2] ([dI vs, dI ars] ++ eS e) (iA (i9 vs ars d e))))
    (e : c6) (he : f8 vs.length ars.length (d + 1) e = true) : j8.ok Tryz.prog (V8 159 [.agg [.ref 0, .ref 1, nlA], eA e 2] ([dI vs, dI ars] ++ eS e) (iA (i9 vs ars (d + 1) e))) := by
  refine E2 42 Tryz.func159 [dI vs, dI ars, dE e.kids] [(0, .agg [.ref 0, .ref 1, .v (.slice none 0 0)]), (1, eA e 2)] fun G => ?_; refine wp_seq (j7 G d9 [0, 1, 2, 3, 11] [dI vs, dI ars, dE e.kids, .box [.ref 0, .ref 1, .v (.slice none 0 0)], .box (eL e 2)] [(2, .ptr 3 0), (3, .ptr 4 0), (4, iA 0)] fun G => b6 (wp_seq (k8 G d9 [(5, iA 0)] fun G => b6 (wp_seq (wp_seq (k8 G d9 [(8, iA e.kind)] fun G => b6 (wp_block (wp_seq (k8 G d9 [(9, bA (e.kind == 2))] fun G => b6 (J1 G (fun h0 q0 => ?_) fun h0 q0 => ?_))))))))))
  ·
   refine wp_seq (k8 G d9 [(17, bA (e.kind == 3))] fun G => b6 (J1 G (fun h1 q1 => ?_) fun h1 q1 => ?_))
   ·
    refine wp_skip (k6 (b6 (wp_seq (wp_seq (C6 G d9 [(2, .ptr 3 0), (3, .ptr 4 0), (4, iA 0), (5, iA 0), (6, iA 0)] fun G => b6 (wp_block ?_)))))); refine s6 (κ := Nat) (fun k => k ≤ e.kids.length) (fun k => e.kids.length - k) (fun k => [dI vs, dI ars, dE e.kids, .box [.ref 0, .ref 1, .v (.slice none 0 0)], .box (eL e 2)]) (fun k => [(2, .ptr 3 0), (3, .ptr 4 0), (4, iA 0), (5, iA (C7 vs ars d 0 e.kids k)), (6, iA k)]) 0 (by omega) (t4.at G _ _) ?_; clear G; intro k ρ a w hp G; have hlen : e.kids.length ≤ 9223372036854775807 := G.len 2 (d := .exprs e.kids) (by kernel_rfl); refine wp_seq (wp_seq (C6 G d9 [(2, .ptr 3 0), (3, .ptr 4 0), (4, iA 0), (5, iA (C7 vs ars d 0 e.kids k)), (6, iA k), (29, bA (decide ((k : Int) < e.kids.length)))] fun G => b6 (Z6 G (fun h2 q2 => ?_) fun h2 q2 => ?_)))
    · refine wp_exit (r7 (r7 (p6 (b6 (wp_seq (j7 G d9 [0, 1, 2] [dI vs, dI ars, dE e.kids] [(4, iA (C7 vs ars d 0 e.kids k))] fun G => b6 (wp_ret ?_))))))); exact rxI (C7 vs ars d 0 e.kids k) G [0, 1, 2] (ad3 (by omega) (by simp [aB0, h0, q0, h1, q1, h2, q2]; done))
    · refine wp_skip (b6 (wp_seq (wp_block (ac9 G (s7 7 [0, 1, 53] (ih (e.kids.getD k cg8) (Z3 he (by omega)))) [0, 0, 0, 4, 0, 28, 60, 126, 255, 511] [(5, iA (l0 (C7 vs ars d 0 e.kids k) (i9 vs ars d (e.kids.getD k cg8))))] (iX k k e.kids.length []) (iK (by omega) ci3) fun G => k6 (b6 (D0 G d9 [(6, iA ((k : Int) + 1))] [wO ((k : Int) + 1)] (o1 (by omega)) fun G => b6 ?_)))))); exact H9 G (k + 1) (by omega) (by omega) (rg 5) (ht := by have e1 : (C7 vs ars d 0 e.kids (k + 1) : Int) = (l0 (C7 vs ars d 0 e.kids k) (i9 vs ars d (e.kids.getD k cg8))) := (Y5 (by omega)); (first | rw [e1] | simp only [e1]) <;> rfl)
   ·
    refine D0 G d9 [(5, iA (ars.getD e.value.toNat 0))] [(0 : Int) ≤ e.value, e.value < (ars.length : Int), e.value.toNat < ars.length] ⟨((av9 he (by assumption)).1), ((av9 he (by assumption)).2.1), ((av9 he (by assumption)).2.2), ci3⟩ fun G => k6 (b6 (wp_seq (wp_seq (C6 G d9 [(2, .ptr 3 0), (3, .ptr 4 0), (4, iA 0), (5, iA (ars.getD e.value.toNat 0)), (6, iA 0)] fun G => b6 (wp_block ?_))))); refine s6 (κ := Nat) (fun k => k ≤ e.kids.length) (fun k => e.kids.length - k) (fun k => [dI vs, dI ars, dE e.kids, .box [.ref 0, .ref 1, .v (.slice none 0 0)], .box (eL e 2)]) (fun k => [(2, .ptr 3 0), (3, .ptr 4 0), (4, iA 0), (5, iA (C7 vs ars d (ars.getD e.value.toNat 0) e.kids k)), (6, iA k)]) 0 (by omega) (t4.at G _ _) ?_; clear G; intro k ρ a w hp G; have hlen : e.kids.length ≤ 9223372036854775807 := G.len 2 (d := .exprs e.kids) (by kernel_rfl); refine wp_seq (wp_seq (C6 G d9 [(2, .ptr 3 0), (3, .ptr 4 0), (4, iA 0), (5, iA (C7 vs ars d (ars.getD e.value.toNat 0) e.kids k)), (6, iA k), (29, bA (decide ((k : Int) < e.kids.length)))] fun G => b6 (Z6 G (fun h3 q3 => ?_) fun h3 q3 => ?_)))
    · refine wp_exit (r7 (r7 (p6 (b6 (wp_seq (j7 G d9 [0, 1, 2] [dI vs, dI ars, dE e.kids] [(4, iA (C7 vs ars d (ars.getD e.value.toNat 0) e.kids k))] fun G => b6 (wp_ret ?_))))))); exact rxI (C7 vs ars d (ars.getD e.value.toNat 0) e.kids k) G [0, 1, 2] (ad3 (by omega) (by simp [aB0, h0, q0, h1, q1, h3, q3]; done))
    · refine wp_skip (b6 (wp_seq (wp_block (ac9 G (s7 7 [0, 1, 53] (ih (e.kids.getD k cg8) (Z3 he (by omega)))) [0, 0, 0, 4, 0, 28, 60, 126, 255, 511] [(5, iA (l0 (C7 vs ars d (ars.getD e.value.toNat 0) e.kids k) (i9 vs ars d (e.kids.getD k cg8))))] (iX k k e.kids.length []) (iK (by omega) ci3) fun G => k6 (b6 (D0 G d9 [(6, iA ((k : Int) + 1))] [wO ((k : Int) + 1)] (o1 (by omega)) fun G => b6 ?_)))))); exact H9 G (k + 1) (by omega) (by omega) (rg 5) (ht := by have e1 : (C7 vs ars d (ars.getD e.value.toNat 0) e.kids (k + 1) : Int) = (l0 (C7 vs ars d (ars.getD e.value.toNat 0) e.kids k) (i9 vs ars d (e.kids.getD k cg8))) := (Y5 (by omega)); (first | rw [e1] | simp only [e1]) <;> rfl)
  ·
   refine D0 G d9 [(5, iA (vs.getD e.value.toNat 0))] [(0 : Int) ≤ e.value, e.value < (vs.length : Int), e.value.toNat < vs.length] ⟨((av8 he (by assumption)).1), ((av8 he (by assumption)).2.1), ((av8 he (by assumption)).2.2), ci3⟩ fun G => k6 (b6 (wp_seq (wp_seq (C6 G d9 [(2, .ptr 3 0), (3, .ptr 4 0), (4, iA 0), (5, iA (vs.getD e.value.toNat 0)), (6, iA 0)] fun G => b6 (wp_block ?_))))); refine s6 (κ := Nat) (fun k => k ≤ e.kids.length) (fun k => e.kids.length - k) (fun k => [dI vs, dI ars, dE e.kids, .box [.ref 0, .ref 1, .v (.slice none 0 0)], .box (eL e 2)]) (fun k => [(2, .ptr 3 0), (3, .ptr 4 0), (4, iA 0), (5, iA (C7 vs ars d (vs.getD e.value.toNat 0) e.kids k)), (6, iA k)]) 0 (by omega) (t4.at G _ _) ?_; clear G; intro k ρ a w hp G; have hlen : e.kids.length ≤ 9223372036854775807 := G.len 2 (d := .exprs e.kids) (by kernel_rfl); refine wp_seq (wp_seq (C6 G d9 [(2, .ptr 3 0), (3, .ptr 4 0), (4, iA 0), (5, iA (C7 vs ars d (vs.getD e.value.toNat 0) e.kids k)), (6, iA k), (29, bA (decide ((k : Int) < e.kids.length)))] fun G => b6 (Z6 G (fun h4 q4 => ?_) fun h4 q4 => ?_)))
   · refine wp_exit (r7 (r7 (p6 (b6 (wp_seq (j7 G d9 [0, 1, 2] [dI vs, dI ars, dE e.kids] [(4, iA (C7 vs ars d (vs.getD e.value.toNat 0) e.kids k))] fun G => b6 (wp_ret ?_))))))); exact rxI (C7 vs ars d (vs.getD e.value.toNat 0) e.kids k) G [0, 1, 2] (ad3 (by omega) (by simp [aB0, h0, q0, h4, q4]; done))
   · refine wp_skip (b6 (wp_seq (wp_block (ac9 G (s7 7 [0, 1, 53] (ih (e.kids.getD k cg8) (Z3 he (by omega)))) [0, 0, 0, 4, 0, 28, 60, 126, 255, 511] [(5, iA (l0 (C7 vs ars d (vs.getD e.value.toNat 0) e.kids k) (i9 vs ars d (e.kids.getD k cg8))))] (iX k k e.kids.length []) (iK (by omega) ci3) fun G => k6 (b6 (D0 G d9 [(6, iA ((k : Int) + 1))] [wO ((k : Int) + 1)] (o1 (by omega)) fun G => b6 ?_)))))); exact H9 G (k + 1) (by omega) (by omega) (rg 5) (ht := by have e1 : (C7 vs ars d (vs.getD e.value.toNat 0) e.kids (k + 1) : Int) = (l0 (C7 vs ars d (vs.getD e.value.toNat 0) e.kids k) (i9 vs ars d (e.kids.getD k cg8))) := (Y5 (by omega)); (first | rw [e1] | simp only [e1]) <;> rfl)
theorem aR9 (vs ars : List Int) : ∀ (d : Nat) (e : c6), f8 vs.length ars.length d e = true → j8.ok Tryz.prog (V8 159 [.agg [.ref 0, .ref 1, nlA], eA e 2] ([dI vs, dI ars] ++ eS e) (iA (i9 vs ars d e)))
 | 0, _, h => by simp [f8] at h
 | d + 1, e, h => bb6 vs ars d (aR9 vs ars d) e h
theorem aa7 (vs ars : List Int) (ky vy : Int) (ks : List c6) (h : f8 vs.length ars.length 5 ⟨ky, vy, ks⟩ = true) : j8.ok Tryz.prog (V8 159 [.agg [.ref 0, .ref 1, nlA], .agg [iA ky, iA vy, .ref 2]] [dI vs, dI ars, dE ks] (iA (i9 vs ars 5 ⟨ky, vy, ks⟩))) := aR9 vs ars 5 ⟨ky, vy, ks⟩ h
theorem I6 (n : Int) : j8.ok Tryz.prog ⟨203, [iA n], [], [dE []], .agg [iA 1, iA n, .ref 0]⟩ := by
 refine E2 5 Tryz.func203 [] [(0, iA n)] fun G => ?_; refine wp_seq (j7 G d9 [0] [.box [iA 0, iA 0, .v (.slice none 0 0)]] [(0, iA n), (2, .ptr 0 0)] fun G => b6 (wp_seq (j7 G d9 [0] [.box [iA 1, iA n, .v (.slice none 0 0)]] [(2, .ptr 0 0)] fun G => b6 (wp_ret ?_)))); obtain ⟨ρ, G⟩ := G.nil 1 0 (.exprs []) 9 [.box [iA 1, iA n, .ref 1]] [(2, .ptr 0 0)]; obtain ⟨ρ, G⟩ := G.frz [.no, .row 0] [.box [iA 1, iA n, .ref 1], dE []] [(2, .ptr 0 0)]; exact K2 G [1]
theorem am5 (n : Int) : j8.ok Tryz.prog ⟨157, [iA n], [], [dE []], .agg [iA 2, iA n, .ref 0]⟩ := by
 refine E2 5 Tryz.func157 [] [(0, iA n)] fun G => ?_; refine wp_seq (j7 G d9 [0] [.box [iA 0, iA 0, .v (.slice none 0 0)]] [(0, iA n), (2, .ptr 0 0)] fun G => b6 (wp_seq (j7 G d9 [0] [.box [iA 2, iA n, .v (.slice none 0 0)]] [(2, .ptr 0 0)] fun G => b6 (wp_ret ?_)))); obtain ⟨ρ, G⟩ := G.nil 1 0 (.exprs []) 9 [.box [iA 2, iA n, .ref 1]] [(2, .ptr 0 0)]; obtain ⟨ρ, G⟩ := G.frz [.no, .row 0] [.box [iA 2, iA n, .ref 1], dE []] [(2, .ptr 0 0)]; exact K2 G [1]
theorem ad7 (k : Int) (ks : List c6) : j8.ok Tryz.prog ⟨204, [iA k, .ref 0], [.row 104 (.exprs ks)], [dE ks], .agg [iA k, iA 0, .ref 0]⟩ := by
 refine E2 8 Tryz.func204 [.row 104 (D.exprs ks)] [(0, iA k), (1, .ref 0)] fun G => ?_; refine wp_seq (j7 G d9 [0, 1] [.row 104 (D.exprs ks), .box [iA 0, iA 0, .v (.slice none 0 0)]] [(0, iA k), (1, .ref 0), (4, .ptr 1 0)] fun G => b6 (wp_seq (j7 G d9 [0, 1] [.row 104 (D.exprs ks), .box [iA k, iA 0, .ref 0]] [(4, .ptr 1 0)] fun G => b6 (wp_ret ?_)))); obtain ⟨ρ, G⟩ := G.frz [.row 104] [dE ks, .box [iA k, iA 0, .ref 0]] [(4, .ptr 1 0)]; exact K2 G [0]
theorem au0 (n ky vy : Int) (ks : List c6) : j8.ok Tryz.prog ⟨161, [iA n, .agg [iA ky, iA vy, .ref 0]], [dE ks], [dE ks, dE [⟨ky, vy, ks⟩]], .agg [iA 3, iA n, .ref 1]⟩ := by
 refine E2 9 Tryz.func161 [dE ks] [(0, iA n), (1, .agg [iA ky, iA vy, .ref 0])] fun G => ?_; refine wp_seq (j7 G d9 [0, 1, 9] [dE ks, .box [iA ky, iA vy, .ref 0], .box [iA 0, iA 0, .v (.slice none 0 0)]] [(0, iA n), (3, .ptr 1 0), (4, .ptr 2 0)] fun G => b6 (wp_seq (j7 G d9 [0, 2, 19] [dE ks, .box [iA 3, iA n, .ref 2], .row 104 (D.exprs ([c6.mk ky vy ks] ++ []))] [(4, .ptr 1 0)] fun G => b6 (wp_ret ?_)))); obtain ⟨ρ, G⟩ := G.frz [.no, .no, .row 104] [dE ks, .box [iA 3, iA n, .ref 2], dE ([c6.mk ky vy ks] ++ [])] [(4, .ptr 1 0)]; exact K2 G [0, 2]
theorem bn8 (ky vy : Int) (ks : List c6) (k : Int) : j8.ok Tryz.prog ⟨205, [.agg [iA ky, iA vy, .ref 0], iA k], [dE ks], [dE ks, dE (ah2 ⟨ky, vy, ks⟩ k).kids], .agg [iA 9, iA 0, .ref 1]⟩ := by
 refine E2 13 Tryz.func205 [dE ks] [(0, .agg [iA ky, iA vy, .ref 0]), (1, iA k)] fun G => ?_; refine wp_seq (j7 G d9 [0, 1, 9] [dE ks, .box [iA ky, iA vy, .ref 0], .box [iA 0, iA 0, .v (.slice none 0 0)]] [(1, iA k), (2, .ptr 1 0), (4, .ptr 2 0)] fun G => b6 (wp_seq (ag9 G (E9 (t3 1 [] (I6 3) (t3 3 [19] (ad7 7 ([c6.mk ky vy ks] ++ ([c6.mk 1 3 []] ++ []))) (t3 5 [] (I6 k) (t3 7 [51] (ad7 9 ([c6.mk 7 0 ([c6.mk ky vy ks] ++ ([c6.mk 1 3 []] ++ []))] ++ ([c6.mk 1 k []] ++ []))) E8)))) fz []) [0, 0, 3, 7, 0, 31, 63, 127, 255] [0, 2, 51] [dE ks, .box [iA 9, iA 0, .ref 2], dE ([c6.mk 7 0 ([c6.mk ky vy ks] ++ ([c6.mk 1 3 []] ++ []))] ++ ([c6.mk 1 k []] ++ []))] [(4, .ptr 1 0)] fun G => b6 (wp_ret ?_)))); exact K2 G [0, 2]
theorem b59 {m : Int} {e f : c6} (h : m < 0) : B8 m e f = e := if_pos h
theorem b58 {m : Int} {e f : c6} (h : ¬ m < 0) : B8 m e f = seE (vrE m) e f := if_neg h
theorem bp3 (m k1 v1 k2 v2 : Int) (s1 s2 : List c6) (hm : m < 0) : j8.ok Tryz.prog ⟨156, [iA m, .agg [iA k1, iA v1, .ref 0], .agg [iA k2, iA v2, .ref 1]], [dE s1, dE s2], [dE s1, dE s2], .agg [iA k1, iA v1, .ref 0]⟩ := by
 refine E2 16 Tryz.func156 [dE s1, dE s2] [(0, iA m), (1, .agg [iA k1, iA v1, .ref 0]), (2, .agg [iA k2, iA v2, .ref 1])] fun G => ?_; refine wp_seq (j7 G d9 [0, 1, 2, 10, 18] [dE s1, dE s2, .box [iA k1, iA v1, .ref 0], .box [iA k2, iA v2, .ref 1], .box [iA 0, iA 0, .v (.slice none 0 0)]] [(0, iA m), (4, .ptr 2 0), (5, .ptr 3 0), (6, .ptr 4 0)] fun G => b6 (wp_seq (wp_seq (C6 G d9 [(0, iA m), (4, .ptr 2 0), (5, .ptr 3 0), (6, .ptr 4 0), (8, bA (decide (m < 0)))] fun G => b6 ?_)))); cases h0 : (decide (m < 0))
 ·have q0 := dFf h0; exact False.elim (by omega)
 ·have q0 := dTt h0; refine rT G _ h0 (wp_seq (j7 G d9 (rg 5) [dE s1, dE s2, .box [iA k1, iA v1, .ref 0], .box [iA k2, iA v2, .ref 1], .box [iA k1, iA v1, .ref 0]] [(0, iA m), (4, .ptr 2 0), (5, .ptr 3 0), (6, .ptr 4 0)] fun G => b6 (wp_ret (l4 ?_)))); exact K2 G [0, 1]
theorem bp2 (m k1 v1 k2 v2 : Int) (s1 s2 : List c6) (hm : ¬ m < 0) : j8.ok Tryz.prog ⟨156, [iA m, .agg [iA k1, iA v1, .ref 0], .agg [iA k2, iA v2, .ref 1]], [dE s1, dE s2], [dE s1, dE s2, dE (seE (vrE m) ⟨k1, v1, s1⟩ ⟨k2, v2, s2⟩).kids], .agg [iA 11, iA 0, .ref 2]⟩ := by
 refine E2 16 Tryz.func156 [dE s1, dE s2] [(0, iA m), (1, .agg [iA k1, iA v1, .ref 0]), (2, .agg [iA k2, iA v2, .ref 1])] fun G => ?_; refine wp_seq (j7 G d9 [0, 1, 2, 10, 18] [dE s1, dE s2, .box [iA k1, iA v1, .ref 0], .box [iA k2, iA v2, .ref 1], .box [iA 0, iA 0, .v (.slice none 0 0)]] [(0, iA m), (4, .ptr 2 0), (5, .ptr 3 0), (6, .ptr 4 0)] fun G => b6 (wp_seq (wp_seq (C6 G d9 [(0, iA m), (4, .ptr 2 0), (5, .ptr 3 0), (6, .ptr 4 0), (8, bA (decide (m < 0)))] fun G => b6 ?_)))); cases h0 : (decide (m < 0))
 ·have q0 := dFf h0; refine rF G _ h0 (wp_skip (b6 (wp_seq (ag9 G (E9 (t3 1 [] (am5 m) (t3 5 [37] (ad7 11 ([c6.mk 2 m []] ++ ([c6.mk k1 v1 s1] ++ ([c6.mk k2 v2 s2] ++ [])))) E8)) fz []) [0, 1, 0, 0, 15, 31, 63] [0, 1, 4, 37] [dE s1, dE s2, .box [iA 11, iA 0, .ref 3], dE ([c6.mk 2 m []] ++ ([c6.mk k1 v1 s1] ++ ([c6.mk k2 v2 s2] ++ [])))] [(6, .ptr 2 0)] fun G => b6 (wp_ret ?_))))); exact K2 G [0, 1, 3]
 ·have q0 := dTt h0; exact False.elim (by omega)
theorem ak4 (m k1 v1 k2 v2 : Int) (s1 s2 : List c6) : j8.ok Tryz.prog ⟨156, [iA m, .agg [iA k1, iA v1, .ref 0], .agg [iA k2, iA v2, .ref 1]], [dE s1, dE s2], [dE s1, dE s2, dE (B8 m ⟨k1, v1, s1⟩ ⟨k2, v2, s2⟩).kids], .agg [iA (B8 m ⟨k1, v1, s1⟩ ⟨k2, v2, s2⟩).kind, iA (B8 m ⟨k1, v1, s1⟩ ⟨k2, v2, s2⟩).value, .ref 2]⟩ := by
 by_cases hm : m < 0
 ·rw [b59 hm]
  exact j8.dupPost (S := [dE s1, dE s2]) (d := .exprs s1) (i := 0) (bp3 m k1 v1 k2 v2 s1 s2 hm) rfl (ch5 _) rfl (fun ρ h => by
   have h : ρ 2 = ρ 0 := h
   simp only [AV.val, AV.vals, h]; rfl) rfl
 ·rw [b58 hm]
  exact bp2 m k1 v1 k2 v2 s1 s2 hm
theorem am6 (vs ars : List Int) (bd : List c5) (l : Int) (hl : vs.length ≤ 8000000) : j8.ok Tryz.prog ⟨202, [.agg [.ref 0, .ref 1, nlA, .ref 2], iA l], [qI vs, dI ars, qT bd], [qI vs, dI ars, qT bd, qI (vs ++ [l])], .tup [.agg [.ref 3, .ref 1, nlA, .ref 2], iA (vs.length : Int)]⟩ := by
 refine E2 22 Tryz.func202 [.row 3 (D.ints vs), dI ars, .row 106 (D.stmts bd)] [(0, .agg [.ref 0, .ref 1, .v (.slice none 0 0), .ref 2]), (1, iA l)] fun G => ?_; refine wp_seq (j7 G d9 [0, 1, 2, 3, 11] [.row 3 (D.ints vs), dI ars, .row 106 (D.stmts bd), .box [.ref 0, .ref 1, .v (.slice none 0 0), .ref 2], .box [.v (.slice none 0 0), .v (.slice none 0 0), .v (.slice none 0 0), .v (.slice none 0 0)]] [(1, iA l), (2, .ptr 3 0), (4, .ptr 4 0), (5, iA 0)] fun G => b6 (wp_seq (N0 G d9 [0, 1, 2, 3, 4, 61] [.row 3 (D.ints vs), dI ars, .row 106 (D.stmts bd), .box [.ref 5, .ref 1, .v (.slice none 0 0), .ref 2], .box [.v (.slice none 0 0), .v (.slice none 0 0), .v (.slice none 0 0), .v (.slice none 0 0)], .row 3 (D.ints ([] ++ vs ++ ([l] ++ [])))] [(2, .ptr 3 0), (4, .ptr 4 0), (5, iA 0)] (aP ((0 : Nat) + vs.length) 8 (aP (([] ++ vs).length + 1) 8 [])) (aK (by omega) (aK (by simp only [ch4, ch7, ci2]; omega) ci3)) fun G => b6 (wp_seq (N5 G d9 [0, 0, 2, 6, 14, 30, 1, 127] [0, 1, 2, 4, 5] [.row 3 (D.ints vs), dI ars, .row 106 (D.stmts bd), .box [.ref 4, .ref 1, .v (.slice none 0 0), .ref 2], .row 3 (D.ints ([] ++ vs ++ ([l] ++ [])))] [(4, .ptr 3 0), (5, iA ((([] ++ vs ++ ([l] ++ [])).length : Int) - 1))] [wO ((([] ++ vs ++ ([l] ++ [])).length : Int) - 1)] ⟨(w64 (by simp only [ch4, ch7, ci2]; omega) (by simp only [ch4, ch7, ci2]; omega)), ci3⟩ fun G => b6 (wp_ret ?_)))))); exact T7 (.tup [.agg [.ref 4, .ref 1, .v (.slice none 0 0), .ref 2], iA ((([] ++ vs ++ ([l] ++ [])).length : Int) - 1)]) G [0, 1, 2, 4] (by have e1 : ((vs.length : Int) : Int) = ((([] ++ vs ++ ([l] ++ [])).length : Int) - 1) := (by simp only [ch4, ch7, ci2]; omega); (first | rw [e1] | simp only [e1]) <;> rfl)
theorem T2 (vs ars : List Int) (bd : List c5) (v ky vy : Int) (ks : List c6) (hl : bd.length ≤ 800000) : j8.ok Tryz.prog ⟨155, [.agg [.ref 0, .ref 1, nlA, .ref 2], iA v, .agg [iA ky, iA vy, .ref 3]], [qI vs, dI ars, qT bd, dE ks], [qI vs, dI ars, .dead, dE ks, qT (bd ++ [W0 v ⟨ky, vy, ks⟩])], .agg [.ref 0, .ref 1, nlA, .ref 4]⟩ := by
 refine E2 16 Tryz.func155 [.row 3 (D.ints vs), dI ars, .row 106 (D.stmts bd), dE ks] [(0, .agg [.ref 0, .ref 1, .v (.slice none 0 0), .ref 2]), (1, iA v), (2, .agg [iA ky, iA vy, .ref 3])] fun G => ?_; refine wp_seq (j7 G d9 [0, 1, 2, 3, 4, 12, 20] [.row 3 (D.ints vs), dI ars, .row 106 (D.stmts bd), dE ks, .box [.ref 0, .ref 1, .v (.slice none 0 0), .ref 2], .box [iA ky, iA vy, .ref 3], .box [.v (.slice none 0 0), .v (.slice none 0 0), .v (.slice none 0 0), .v (.slice none 0 0)]] [(1, iA v), (3, .ptr 4 0), (5, .ptr 5 0), (6, .ptr 6 0)] fun G => b6 (wp_seq (N0 G d9 [0, 1, 2, 3, 4, 6, 55] [.row 3 (D.ints vs), dI ars, .dead, dE ks, .box [.ref 0, .ref 1, .v (.slice none 0 0), .ref 6], .box [.v (.slice none 0 0), .v (.slice none 0 0), .v (.slice none 0 0), .v (.slice none 0 0)], .row 106 (D.stmts (bd ++ ([c5.mk 1 v (c6.mk 0 0 []) (c6.mk ky vy ks) 0 [] []] ++ [])))] [(3, .ptr 4 0), (6, .ptr 5 0)] (aP (bd.length + 1) 152 []) (aK (by omega) ci3) fun G => b6 (wp_seq (j7 G d9 [0, 1, 2, 3, 5, 6] [.row 3 (D.ints vs), dI ars, .dead, dE ks, .box [.ref 0, .ref 1, .v (.slice none 0 0), .ref 5], .row 106 (D.stmts (bd ++ ([c5.mk 1 v (c6.mk 0 0 []) (c6.mk ky vy ks) 0 [] []] ++ [])))] [(6, .ptr 4 0)] fun G => b6 (wp_ret ?_)))))); exact K2 G [0, 1, 2, 3, 5]
abbrev leC (ars : List Int) (pc : Int) (vs : List Int) (bd : List c5) (e : c6) : j8 := ⟨154, [.agg [.ref 0, .ref 1, nlA, .ref 2], eA e 3, iA pc], [qI vs, dI ars, qT bd, dE e.kids], [.dead, dI ars, .dead, dE e.kids, qI (d8 ars pc e (vs, bd)).1.1, qT (d8 ars pc e (vs, bd)).1.2, dE (d8 ars pc e (vs, bd)).2.kids], .tup [.agg [.ref 4, .ref 1, nlA, .ref 5], .agg [iA (d8 ars pc e (vs, bd)).2.kind, iA (d8 ars pc e (vs, bd)).2.value, .ref 6]]⟩
abbrev xE (ars : List Int) (pc : Int) (vs : List Int) (bd : List c5) (e : c6) (k : Nat) : LnS × List c6 := w6 ars pc (e.kids.take k) (vs, bd)
section
variable {ars vs : List Int} {pc : Int} {bd : List c5} {e : c6} {d k : Nat}
theorem av1 (he : f8 vs.length ars.length (d + 1) e = true) (k : Nat) : Grw vs.length ars.length d (D4 (e.kids.take k)) (vs, bd) (xE ars pc vs bd e k).1 := by
 rw [f8] at he
 simp only [ch0, ch8] at he
 exact (bl6 (ars := ars) (pc := pc) (na := ars.length) (d := d) (fun e s h => al6 ars pc ars.length d e s h) (e.kids.take k) (vs, bd) fun x hx => he.1.2 x (List.mem_of_mem_take hx)).1
theorem bT0 (he : f8 vs.length ars.length (d + 1) e = true) (r1 : vs.length + (1 + z5 e) ≤ 100000) (r2 : j5 bd + 40 * (1 + z5 e) ≤ 700000) (k : Nat) : (xE ars pc vs bd e k).1.1.length + 1 ≤ 100000 ∧ (xE ars pc vs bd e k).1.2.length + 40 ≤ 700000 ∧ vs.length ≤ (xE ars pc vs bd e k).1.1.length := by
 have h := av1 (ars := ars) (pc := pc) (bd := bd) he k
 have h1 := aU4 e.kids k
 have h2 := K7 e
 have h3 := K6 (xE ars pc vs bd e k).1.2
 have a := h.lo; have b := h.hi; have c := h.st
 simp only at a b c
 omega
theorem bS9 (he : f8 vs.length ars.length (d + 1) e = true) (hk : k < e.kids.length) : f8 (xE ars pc vs bd e k).1.1.length ars.length d (e.kids.getD k cg8) = true :=
 E1 (av1 (pc := pc) (bd := bd) he k).lo d _ (Z3 he hk)
theorem b07 (he : f8 vs.length ars.length (d + 1) e = true) (r1 : vs.length + (1 + z5 e) ≤ 100000) (hk : k < e.kids.length) : (xE ars pc vs bd e k).1.1.length + (1 + z5 (e.kids.getD k cg8)) ≤ 100000 := by
 have h := (av1 (pc := pc) (bd := bd) he k).hi
 have h1 := (al1 e.kids k).2.1 hk
 have h2 := K7 e
 simp only at h
 omega
theorem b06 (he : f8 vs.length ars.length (d + 1) e = true) (r2 : j5 bd + 40 * (1 + z5 e) ≤ 700000) (hk : k < e.kids.length) : j5 (xE ars pc vs bd e k).1.2 + 40 * (1 + z5 (e.kids.getD k cg8)) ≤ 700000 := by
 have h := (av1 (pc := pc) (bd := bd) he k).st
 have h1 := (al1 e.kids k).2.1 hk
 have h2 := K7 e
 simp only at h
 omega
theorem b03 (hk : k < e.kids.length) : (xE ars pc vs bd e (k + 1)).1.1 = (d8 ars pc (e.kids.getD k cg8) ((xE ars pc vs bd e k).1.1, (xE ars pc vs bd e k).1.2)).1.1 := by unfold xE; rw [ap8 hk]
theorem b02 (hk : k < e.kids.length) : (xE ars pc vs bd e (k + 1)).1.2 = (d8 ars pc (e.kids.getD k cg8) ((xE ars pc vs bd e k).1.1, (xE ars pc vs bd e k).1.2)).1.2 := by unfold xE; rw [ap8 hk]
theorem b01 (hk : k < e.kids.length) : (xE ars pc vs bd e (k + 1)).2 = (xE ars pc vs bd e k).2 ++ [⟨(d8 ars pc (e.kids.getD k cg8) ((xE ars pc vs bd e k).1.1, (xE ars pc vs bd e k).1.2)).2.kind, (d8 ars pc (e.kids.getD k cg8) ((xE ars pc vs bd e k).1.1, (xE ars pc vs bd e k).1.2)).2.value, (d8 ars pc (e.kids.getD k cg8) ((xE ars pc vs bd e k).1.1, (xE ars pc vs bd e k).1.2)).2.kids⟩] := by unfold xE; rw [ap8 hk, c6.eta]
theorem bS8 (k : Nat) : (xE ars pc vs bd e k).2.length ≤ e.kids.length := by
 have h : ∀ (ks : List c6) (s : LnS), (w6 ars pc ks s).2.length = ks.length := by
  intro ks
  induction ks with
  | nil => intro s; rfl
  | cons x r ih => intro s; rw [w6, ch7, ih, ch7]
 unfold xE; rw [h, List.length_take]; exact Nat.min_le_right _ _
theorem bu8 (hk : e.kids.length ≤ k) (hn : ¬ (e.kind = 3 ∧ ac0 (i9 (xE ars pc vs bd e k).1.1 ars 5 (e.kids.getD 0 cg8)) = true)) : d8 ars pc e (vs, bd) = ((xE ars pc vs bd e k).1, ⟨e.kind, e.value, (xE ars pc vs bd e k).2⟩) := by
 unfold xE at hn ⊢
 rw [ci6 hk] at hn ⊢
 rw [aJ2, if_neg hn]
theorem bS7 (hk : e.kids.length ≤ k) (h3 : e.kind = 3) (hs : ac0 (i9 (xE ars pc vs bd e k).1.1 ars 5 (e.kids.getD 0 cg8)) = true) : d8 ars pc e (vs, bd) = (((xE ars pc vs bd e k).1.1 ++ [l0 (i9 (xE ars pc vs bd e k).1.1 ars 5 e) pc], (xE ars pc vs bd e k).1.2 ++ rdL ((xE ars pc vs bd e k).1.1.length : Int) e.value (e.kids.getD 0 cg8) 3), vrE ((xE ars pc vs bd e k).1.1.length : Int)) := by
 unfold xE at hs ⊢
 rw [ci6 hk] at hs ⊢
 rw [aJ2, if_pos ⟨h3, hs⟩]
abbrev kE (e : c6) : c6 := ⟨(e.kids.getD 0 cg8).kind, (e.kids.getD 0 cg8).value, (e.kids.getD 0 cg8).kids⟩
theorem bC0 (e : c6) : kE e = e.kids.getD 0 cg8 := c6.eta _
theorem b04 (he : f8 vs.length ars.length (d + 1) e = true) (hd : d + 1 ≤ 5) (h3 : e.kind = 3) : f8 (xE ars pc vs bd e k).1.1.length ars.length 5 (kE e) = true := by
 rw [bC0]
 have := aG8 he h3
 exact a15 (by omega) (E1 (av1 (pc := pc) (bd := bd) he k).lo d _ (Z3 he this))
theorem b05 (he : f8 vs.length ars.length (d + 1) e = true) (hd : d + 1 ≤ 5) : f8 (xE ars pc vs bd e k).1.1.length ars.length 5 ⟨e.kind, e.value, e.kids⟩ = true := by
 rw [c6.eta]
 exact a15 hd (E1 (av1 (pc := pc) (bd := bd) he k).lo (d + 1) _ he)
theorem aU0 (hk : e.kids.length ≤ k) (hn : ¬ e.kind = 3) : d8 ars pc e (vs, bd) = ((xE ars pc vs bd e k).1, ⟨e.kind, e.value, (xE ars pc vs bd e k).2⟩) := bu8 hk fun h => hn h.1
theorem aT9 (hk : e.kids.length ≤ k) (hs : (!(i7 (i9 (xE ars pc vs bd e k).1.1 ars 5 (kE e)) && decide (i9 (xE ars pc vs bd e k).1.1 ars 5 (kE e) % 2 = 1))) = true) : d8 ars pc e (vs, bd) = ((xE ars pc vs bd e k).1, ⟨e.kind, e.value, (xE ars pc vs bd e k).2⟩) := by
 rw [bC0, ci9] at hs
 exact bu8 hk fun h => by
  have h5 := h.2
  unfold ac0 at h5
  rw [hs] at h5; cases h5
theorem aC3 (hk : e.kids.length ≤ k) (h3 : e.kind = 3) (hs : (!(i7 (i9 (xE ars pc vs bd e k).1.1 ars 5 (kE e)) && decide (i9 (xE ars pc vs bd e k).1.1 ars 5 (kE e) % 2 = 1))) = false) : d8 ars pc e (vs, bd) = (((xE ars pc vs bd e k).1.1 ++ [l0 (i9 (xE ars pc vs bd e k).1.1 ars 5 ⟨e.kind, e.value, e.kids⟩) pc], (xE ars pc vs bd e k).1.2 ++ rdL ((xE ars pc vs bd e k).1.1.length : Int) e.value (kE e) 3), vrE ((xE ars pc vs bd e k).1.1.length : Int)) := by
 rw [bC0] at hs ⊢
 rw [c6.eta]
 rw [cj6] at hs
 exact bS7 hk h3 hs
theorem bH7 {j : Nat} (hj : j = 3) (hk : e.kids.length ≤ k) (h3 : e.kind = 3) (hs : (!(i7 (i9 (xE ars pc vs bd e k).1.1 ars 5 (kE e)) && decide (i9 (xE ars pc vs bd e k).1.1 ars 5 (kE e) % 2 = 1))) = false) : (d8 ars pc e (vs, bd)).1.2 = (xE ars pc vs bd e k).1.2 ++ rdL ((xE ars pc vs bd e k).1.1.length : Int) e.value (kE e) j := by
 rw [hj, aC3 hk h3 hs]
theorem cc7 {v a : Int} {i : c6} {j : Nat} : bd ++ rdL v a i (j + 1) = bd ++ rdL v a i j ++ [W0 v ⟨11, 0, [⟨9, 0, (ah2 i ((j : Int) + 1)).kids⟩, ⟨3, a, [⟨1, (j : Int) + 1, []⟩]⟩, ⟨2, v, []⟩]⟩] := by
 rw [rdL, cl8]; rfl
end
abbrev au8 (e : c6) := v9 (e.kids.getD 0 cg8)
abbrev aT3 (e : c6) (ars : List Int) (pc : Int) (vs : List Int) (bd : List c5) (k : Nat) := i9 (xE ars pc vs bd e k).fst.fst ars 5 (v9 e)
abbrev ao9 (e : c6) (ars : List Int) (pc : Int) (vs : List Int) (bd : List c5) (k : Nat) := d8 ars pc (e.kids.getD k cg8) (xE ars pc vs bd e k).fst
abbrev au7 (e : c6) (ars : List Int) (pc : Int) (vs : List Int) (bd : List c5) : List It := [.dead, dI ars, .dead, dE e.kids, .row 3 (D.ints (d8 ars pc e (vs, bd)).fst.fst), .row 106 (D.stmts (d8 ars pc e (vs, bd)).fst.snd), dE (d8 ars pc e (vs, bd)).snd.kids]
abbrev Z1 : It := .box [.v (.slice none 0 0), .v (.slice none 0 0), .v (.slice none 0 0), .v (.slice none 0 0)]
abbrev V4 : It := .box [iA 0, iA 0, .v (.slice none 0 0)]
abbrev aE8 (e : c6) (ars : List Int) (pc : Int) (vs : List Int) (bd : List c5) (k : Nat) : It := .row 3 (D.ints ((xE ars pc vs bd e k).fst.fst ++ [l0 (aT3 e ars pc vs bd k) pc]))
abbrev ah8 : It := .box [.ref 8, .ref 1, .v (.slice none 0 0), .ref 9]
abbrev F6 (r0 : List (Nat × AV)) : List (Nat × AV) := (3, .ptr 4 0) :: (4, .ptr 5 0) :: (6, .ptr 6 0) :: (7, .ptr 7 0) :: r0
abbrev ao6 (e : c6) (ars : List Int) (pc : Int) (vs : List Int) (bd : List c5) (k : Nat) (r0 : List It) : List It := .row 3 (D.ints (xE ars pc vs bd e k).fst.fst) :: .row 106 (D.stmts (xE ars pc vs bd e k).fst.snd) :: r0
abbrev aE1 (e : c6) (ars : List Int) (r0 : List It) : List It := .dead :: dI ars :: .dead :: dE e.kids :: .box [.ref 9, .ref 1, .v (.slice none 0 0), .ref 10] :: .box (eL e 3) :: r0
abbrev a95 (r0 : List It) : List It := .box [.v (.slice none 0 0), .v (.slice none 0 0), .v (.slice none 0 0), .v (.slice none 0 0)] :: .box [iA 0, iA 0, .v (.slice none 0 0)] :: r0
theorem bx1 (e : c6) (ars : List Int) (pc : Int) (d : Nat) (hd : d + 1 ≤ 5) (ih : ∀ (u : c6), u ∈ e.kids → ∀ (vs : List Int) (bd : List c5), f8 vs.length ars.length d u = true → vs.length + (1 + z5 u) ≤ 100000 → j5 bd + 40 * (1 + z5 u) ≤ 700000 → j8.ok Tryz.prog (leC ars pc vs bd u))
    (vs : List Int) (bd : List c5) (he : f8 vs.length ars.length (d + 1) e = true) (r1 : vs.length + (1 + z5 e) ≤ 100000) (r2 : j5 bd + 40 * (1 + z5 e) ≤ 700000) : j8.ok Tryz.prog (leC ars pc vs bd e) := by
  refine E2 102 Tryz.func154 [.row 3 (D.ints vs), dI ars, .row 106 (D.stmts bd), dE e.kids] [(0, .agg [.ref 0, .ref 1, .v (.slice none 0 0), .ref 2]), (1, eA e 3), (2, iA pc)] fun G => ?_
  have hlen : e.kids.length ≤ z5 e := by cases e; exact ar4 _
  have hb := bT0 (ars := ars) (pc := pc) (bd := bd) he r1 r2; refine wp_seq (j7 G d9 [0, 1, 2, 3, 4, 12, 20, 28] [.row 3 (D.ints vs), dI ars, .row 106 (D.stmts bd), dE e.kids, .box [.ref 0, .ref 1, .v (.slice none 0 0), .ref 2], .box (eL e 3), Z1, V4] ((2, iA pc) :: (F6 [])) fun G => b6 (wp_seq (j7 G d9 [0, 1, 2, 3, 4, 5, 6, 7, 48] [.row 3 (D.ints vs), dI ars, .row 106 (D.stmts bd), dE e.kids, .box [.ref 0, .ref 1, .v (.slice none 0 0), .ref 2], .box (eL e 3), Z1, V4, .box [iA e.kind, iA e.value, .v (.slice none 0 0)]] ((2, iA pc) :: (F6 [(8, .ptr 8 0)])) fun G => b6 (wp_seq (wp_seq (C6 G d9 ((2, iA pc) :: (F6 [(8, .ptr 8 0), (9, iA 0)])) fun G => b6 (wp_block ?_))))))); obtain ⟨ρ, G⟩ := G.shift 0 9 (.dead :: dI ars :: .row 106 (D.stmts bd) :: dE e.kids :: .box [.ref 9, .ref 1, .v (.slice none 0 0), .ref 2] :: .box (eL e 3) :: (a95 [.box [iA e.kind, iA e.value, .v (.slice none 0 0)], .row 3 (D.ints vs)])) ((2, iA pc) :: (F6 [(8, .ptr 8 0), (9, iA 0)])); obtain ⟨ρ, G⟩ := G.shift 2 10 (aE1 e ars (a95 [.box [iA e.kind, iA e.value, .v (.slice none 0 0)], .row 3 (D.ints vs), .row 106 (D.stmts bd)])) ((2, iA pc) :: (F6 [(8, .ptr 8 0), (9, iA 0)])); obtain ⟨ρ, G⟩ := G.nil 11 104 (.exprs []) 9 (aE1 e ars (a95 [.box (eL e 11), .row 3 (D.ints vs), .row 106 (D.stmts bd)])) ((2, iA pc) :: (F6 [(8, .ptr 8 0), (9, iA 0)])); refine s6 (κ := Nat) (fun k => k ≤ e.kids.length) (fun k => e.kids.length - k) (fun k => [.dead, dI ars, .dead, dE e.kids, .box [.ref 9, .ref 1, .v (.slice none 0 0), .ref 10], .box (eL e 3), .box [.v (.slice none 0 0), .v (.slice none 0 0), .v (.slice none 0 0), .v (.slice none 0 0)], .box [iA 0, iA 0, .v (.slice none 0 0)], .box (eL e 11), .row 3 (.ints (xE ars pc vs bd e k).1.1), .row 106 (.stmts (xE ars pc vs bd e k).1.2), .row 104 (.exprs (xE ars pc vs bd e k).2)]) (fun k => [(2, iA pc), (3, .ptr 4 0), (4, .ptr 5 0), (6, .ptr 6 0), (7, .ptr 7 0), (8, .ptr 8 0), (9, iA k)]) 0 (by omega) (t4.at G _ _) ?_; clear G; intro k ρ a w hp G; replace G := t4.at G (aE1 e ars (Z1 :: V4 :: .box (eL e 11) :: (ao6 e ars pc vs bd k [.row 104 (D.exprs (xE ars pc vs bd e k).snd)]))) ((2, iA pc) :: (F6 [(8, .ptr 8 0), (9, iA k)])); have hbk := hb k; have hxl := bS8 (ars := ars) (pc := pc) (vs := vs) (bd := bd) (e := e) k; refine wp_seq (wp_seq (k8 G d9 [(22, bA (decide ((k : Int) < e.kids.length)))] fun G => b6 (Z6 G (fun h0 q0 => ?_) fun h0 q0 => ?_)))
  ·
   refine wp_exit (r7 (r7 (p6 (b6 (wp_seq (wp_seq ?_)))))); cases h1 : (e.kind != 3)
   ·
    have q1 := bne_eq_false_iff_eq.1 h1; refine ac9 G (E9 (t3 10 [9, 1, 84] (j8.lend (aa7 ((xE ars pc vs bd e k).fst.fst) ars ((e.kids.getD 0 cg8).kind) ((e.kids.getD 0 cg8).value) ((e.kids.getD 0 cg8).kids) (b04 he hd (by omega))) [.row 3]) (t3 11 [] (I8 (i9 (xE ars pc vs bd e k).fst.fst ars 5 (au8 e))) E8)) (fc h1 fz) (us [(4, 12, 0), (1013, 1013, 0)])) [0, 1, 3, 7, 15, 31, 15, 79, 207, 463, 1023, 2047, 4095, 8191] [(56, .v (.bool !(i7 (i9 (xE ars pc vs bd e k).fst.fst ars 5 (au8 e)) && decide (i9 (xE ars pc vs bd e k).fst.fst ars 5 (au8 e) % 2 = 1))))] (iX 0 0 e.kids.length []) (iK (by have := aG8 he (by omega); omega) ci3) fun G => b6 ?_; cases h2 : (!(i7 (i9 (xE ars pc vs bd e k).fst.fst ars (5 : Nat) (v9 (e.kids.getD (0 : Nat) cg8))) && decide (i9 (xE ars pc vs bd e k).fst.fst ars (5 : Nat) (v9 (e.kids.getD (0 : Nat) cg8)) % (2 : Int) = 1)))
    ·
     have q2 : ((i7 (i9 (xE ars pc vs bd e k).fst.fst ars 5 (v9 (e.kids.getD 0 cg8)))) = true) ∧ (i9 (xE ars pc vs bd e k).fst.fst ars 5 (v9 (e.kids.getD 0 cg8)) % 2 = 1) := (fun hq => And.imp (fun hq => (hq)) (fun hq => of_decide_eq_true hq) (Bool.and_eq_true_iff.1 hq)) (Eq.mp (cj6 _) h2); refine rF G _ h2 (wp_skip (b6 (wp_seq (j7 G d9 [0, 1, 2, 3, 4, 5, 6, 7, 9, 10] (.dead :: dI ars :: .dead :: dE e.kids :: ah8 :: .box (eL e 3) :: Z1 :: V4 :: (ao6 e ars pc vs bd k [])) ((2, iA pc) :: (F6 [(11, iA 0)])) fun G => b6 (wp_seq (ag9 G (E9 (t3 4 [8, 1, 3] (j8.lend (aa7 ((xE ars pc vs bd e k).fst.fst) ars e.kind e.value e.kids (b05 he hd)) [.row 3]) (t3 7 [8, 1, 9] (am6 ((xE ars pc vs bd e k).fst.fst) ars ((xE ars pc vs bd e k).fst.snd) (l0 (aT3 e ars pc vs bd k) pc) (by omega)) E8)) fz []) [0, 0, 2, 0, 14, 0, 62, 127, 255, 511, 511, 1023, 4095] [0, 1, 2, 3, 4, 5, 6, 7, 9, 66] [.dead, dI ars, .dead, dE e.kids, .box [.ref 9, .ref 1, .v (.slice none 0 0), .ref 8], .box (eL e 3), Z1, V4, .row 106 (D.stmts (xE ars pc vs bd e k).fst.snd), aE8 e ars pc vs bd k] (F6 [(11, iA ((xE ars pc vs bd e k).fst.fst.length : Int))]) fun G => b6 (wp_seq (ag9 G (E9 (t3 4 [] (I6 0) (t3 5 [42] (au0 e.value 1 0 ([])) (t3 6 [9, 1, 8, 50] (T2 ((xE ars pc vs bd e k).fst.fst ++ [l0 (aT3 e ars pc vs bd k) pc]) ars ((xE ars pc vs bd e k).fst.snd) (((xE ars pc vs bd e k).fst.fst.length : Int)) 3 e.value ([c6.mk 1 0 []]) (by omega)) E8))) fz []) [0, 0, 0, 4, 0, 28, 63, 127] [0, 1, 2, 3, 4, 5, 6, 7, 9, 58] [.dead, dI ars, .dead, dE e.kids, ah8, .box (eL e 3), Z1, V4, aE8 e ars pc vs bd k, .row 106 (D.stmts ((xE ars pc vs bd e k).fst.snd ++ [W0 ((xE ars pc vs bd e k).fst.fst.length : Int) (c6.mk 3 e.value [c6.mk 1 0 []])]))] (F6 [(11, iA ((xE ars pc vs bd e k).fst.fst.length : Int))]) fun G => b6 (wp_seq (wp_seq (C6 G d9 (F6 [(11, iA ((xE ars pc vs bd e k).fst.fst.length : Int)), (12, iA 1)]) fun G => b6 (wp_block ?_)))))))))))); refine s6 (κ := Nat) (fun j => j ≤ 3) (fun j => 3 - j) (fun j => [.dead, dI ars, .dead, dE e.kids, .box [.ref 8, .ref 1, .v (.slice none 0 0), .ref 9], .box (eL e 3), .box [.v (.slice none 0 0), .v (.slice none 0 0), .v (.slice none 0 0), .v (.slice none 0 0)], .box [iA 0, iA 0, .v (.slice none 0 0)], .row 3 (D.ints ((xE ars pc vs bd e k).fst.fst ++ [l0 (i9 (xE ars pc vs bd e k).fst.fst ars 5 (v9 e)) pc])), .row 106 (.stmts ((xE ars pc vs bd e k).1.2 ++ rdL ((xE ars pc vs bd e k).1.1.length : Int) e.value (kE e) j))]) (fun j => [(3, .ptr 4 0), (4, .ptr 5 0), (6, .ptr 6 0), (7, .ptr 7 0), (11, iA ((xE ars pc vs bd e k).fst.fst.length : Int)), (12, iA ((j : Int) + 1))]) 0 (by omega) (t4.at G _ _) ?_
     clear G; intro j ρ a w hp G; replace G := t4.at G [.dead, dI ars, .dead, dE e.kids, ah8, .box (eL e 3), Z1, V4, aE8 e ars pc vs bd k, .row 106 (D.stmts ((xE ars pc vs bd e k).fst.snd ++ rdL ((xE ars pc vs bd e k).fst.fst.length : Int) e.value (kE e) j))] (F6 [(11, iA ((xE ars pc vs bd e k).fst.fst.length : Int)), (12, iA ((j : Int) + 1))]); refine wp_seq (wp_seq (k8 G d9 [(78, bA (decide ((j : Int) + 1 < 4)))] fun G => b6 (Z6 G (fun h3 q3 => ?_) fun h3 q3 => ?_)))
     · refine wp_exit (r7 (r7 (p6 (b6 (wp_seq (ag9 G (s7 2 [] (am5 (((xE ars pc vs bd e k).fst.fst.length : Int)))) [0, 0, 2, 7, 15] [0, 1, 2, 3, 6, 7, 8, 9, 26] [.dead, dI ars, .dead, dE e.kids, .box [.ref 6, .ref 1, .v (.slice none 0 0), .ref 7], .box [iA 2, iA ((xE ars pc vs bd e k).fst.fst.length : Int), .ref 8], aE8 e ars pc vs bd k, .row 106 (D.stmts ((xE ars pc vs bd e k).fst.snd ++ rdL ((xE ars pc vs bd e k).fst.fst.length : Int) e.value (kE e) j)), dE []] [(6, .ptr 4 0), (7, .ptr 5 0)] fun G => b6 (wp_ret ?_))))))); exact T7 (.tup [.agg [.ref 6, .ref 1, .v (.slice none 0 0), .ref 7], .agg [iA 2, iA ((xE ars pc vs bd e k).fst.fst.length : Int), .ref 8]]) G [0, 1, 2, 3, 6, 7, 8] (by have e1 : ((d8 ars pc e (vs, bd)).snd.kind : Int) = (2) := (by rw [aC3 (ars := ars) (pc := pc) (vs := vs) (bd := bd) (e := e) (k := k) (by omega) (by omega) (by with_reducible assumption)]; rfl); have e2 : ((d8 ars pc e (vs, bd)).snd.value : Int) = (((xE ars pc vs bd e k).fst.fst.length : Int)) := (by rw [aC3 (ars := ars) (pc := pc) (vs := vs) (bd := bd) (e := e) (k := k) (by omega) (by omega) (by with_reducible assumption)]; rfl); (first | rw [e1, e2] | simp only [e1, e2]) <;> rfl) (by show _ = mR [0, 1, 2, 3, 6, 7, 8] (au7 e ars pc vs bd); unfold au7; have e2 : ((d8 ars pc e (vs, bd)).fst.snd : List c5) = ((xE ars pc vs bd e k).fst.snd ++ rdL ((xE ars pc vs bd e k).fst.fst.length : Int) e.value (kE e) j) := (bH7 (k := k) (show j = 3 by omega) (by omega) (by omega) (by with_reducible assumption)); rw [e2, aC3 (ars := ars) (pc := pc) (vs := vs) (bd := bd) (e := e) (k := k) (by omega) (by omega) (by with_reducible assumption)] <;> rfl)
     · refine wp_skip (b6 (wp_seq (wp_block (N5 G (E9 (t3 7 [50] (bn8 ((e.kids.getD 0 cg8).kind) ((e.kids.getD 0 cg8).value) ((e.kids.getD 0 cg8).kids) ((j : Int) + 1)) (t3 11 [] (I6 ((j : Int) + 1)) (t3 12 [98] (au0 e.value 1 ((j : Int) + 1) ([])) (t3 14 [] (am5 (((xE ars pc vs bd e k).fst.fst.length : Int))) (t3 16 [130] (ad7 11 ([c6.mk 9 0 (ah2 (au8 e) ((j : Int) + 1)).kids] ++ ([c6.mk 3 e.value [c6.mk 1 ((j : Int) + 1) []]] ++ ([c6.mk 2 ((xE ars pc vs bd e k).fst.fst.length : Int) []] ++ [])))) (t3 17 [8, 1, 9, 130] (T2 ((xE ars pc vs bd e k).fst.fst ++ [l0 (aT3 e ars pc vs bd k) pc]) ars ((xE ars pc vs bd e k).fst.snd ++ rdL ((xE ars pc vs bd e k).fst.fst.length : Int) e.value (kE e) j) (((xE ars pc vs bd e k).fst.fst.length : Int)) 11 0 ([c6.mk 9 0 (ah2 (au8 e) ((j : Int) + 1)).kids] ++ ([c6.mk 3 e.value [c6.mk 1 ((j : Int) + 1) []]] ++ ([c6.mk 2 ((xE ars pc vs bd e k).fst.fst.length : Int) []] ++ []))) (by simp only [ch4, ch7, ci2, aV9]; omega)) E8)))))) fz []) [0, 0, 0, 4, 12, 28, 0, 124, 0, 256, 0, 1276, 4092, 0, 16380, 32764, 65532, 131071, 262143] [0, 1, 2, 3, 4, 5, 6, 7, 8, 146] [.dead, dI ars, .dead, dE e.kids, ah8, .box (eL e 3), Z1, V4, aE8 e ars pc vs bd k, .row 106 (D.stmts ((xE ars pc vs bd e k).fst.snd ++ rdL ((xE ars pc vs bd e k).fst.fst.length : Int) e.value (kE e) j ++ [W0 ((xE ars pc vs bd e k).fst.fst.length : Int) (c6.mk 11 0 ([c6.mk 9 0 (ah2 (au8 e) ((j : Int) + 1)).kids] ++ ([c6.mk 3 e.value [c6.mk 1 ((j : Int) + 1) []]] ++ ([c6.mk 2 ((xE ars pc vs bd e k).fst.fst.length : Int) []] ++ []))))]))] (F6 [(11, iA ((xE ars pc vs bd e k).fst.fst.length : Int)), (12, iA ((j : Int) + 1))]) (iX 0 0 e.kids.length []) (iK (by have := aG8 he (by omega); omega) ci3) fun G => k6 (b6 (D0 G d9 [(12, iA ((j : Int) + 1 + 1))] [wO ((j : Int) + 1 + 1)] (o1 (by omega)) fun G => b6 ?_)))))); exact H9 G (j + 1) (by omega) (by omega) (rg 10) (by have e1 : ((xE ars pc vs bd e k).fst.snd ++ rdL ((xE ars pc vs bd e k).fst.fst.length : Int) e.value (kE e) (j + 1) : List c5) = ((xE ars pc vs bd e k).fst.snd ++ rdL ((xE ars pc vs bd e k).fst.fst.length : Int) e.value (kE e) j ++ [W0 ((xE ars pc vs bd e k).fst.fst.length : Int) (c6.mk 11 0 ([c6.mk 9 0 (ah2 (v9 (e.kids.getD 0 cg8)) ((j : Int) + 1)).kids] ++ ([c6.mk 3 e.value [c6.mk 1 ((j : Int) + 1) []]] ++ ([c6.mk 2 ((xE ars pc vs bd e k).fst.fst.length : Int) []] ++ []))))]) := cc7; (first | rw [e1] | simp only [e1]) <;> rfl)
    · have q2 : ((i7 (i9 (xE ars pc vs bd e k).fst.fst ars 5 (v9 (e.kids.getD 0 cg8)))) = false) ∨ (¬ (i9 (xE ars pc vs bd e k).fst.fst ars 5 (v9 (e.kids.getD 0 cg8)) % 2 = 1)) := (fun hq => Or.imp (fun hq => (hq)) (fun hq => of_decide_eq_false hq) (Bool.and_eq_false_iff.1 hq)) (Eq.mp (ci9 _) h2); refine rT G _ h2 (wp_seq (ag9 G d9 [0, 0, 1, 7] [0, 1, 2, 3, 4, 5, 6, 7, 9, 10, 11] (.dead :: dI ars :: .dead :: dE e.kids :: ah8 :: .box (eL e 3) :: ah8 :: .box (eL e 10) :: (ao6 e ars pc vs bd k [.row 104 (D.exprs (xE ars pc vs bd e k).snd)])) ((2, iA pc) :: (F6 [])) fun G => b6 (wp_ret (l4 ?_)))); obtain ⟨ρ, G⟩ := G.frz [.no, .no, .no, .no, .no, .no, .no, .no, .no, .no, .row 104] (.dead :: dI ars :: .dead :: dE e.kids :: .box [.ref 8, .ref 1, .v (.slice none 0 0), .ref 9] :: .box (eL e 3) :: .box [.ref 8, .ref 1, .v (.slice none 0 0), .ref 9] :: .box (eL e 10) :: (ao6 e ars pc vs bd k [dE (xE ars pc vs bd e k).snd])) ((2, iA pc) :: (F6 [])); exact T7 (.tup [.agg [.ref 8, .ref 1, .v (.slice none 0 0), .ref 9], eA e 10]) G [0, 1, 2, 3, 8, 9, 10] (by have e1 : ((d8 ars pc e (vs, bd)).snd.kind : Int) = (e.kind) := (by rw [aT9 (ars := ars) (pc := pc) (vs := vs) (bd := bd) (e := e) (k := k) (by omega) (by with_reducible assumption)]; rfl); have e2 : ((d8 ars pc e (vs, bd)).snd.value : Int) = (e.value) := (by rw [aT9 (ars := ars) (pc := pc) (vs := vs) (bd := bd) (e := e) (k := k) (by omega) (by with_reducible assumption)]; rfl); (first | rw [e1, e2] | simp only [e1, e2]) <;> rfl) (by show _ = mR [0, 1, 2, 3, 8, 9, 10] (au7 e ars pc vs bd); unfold au7; rw [aT9 (ars := ars) (pc := pc) (vs := vs) (bd := bd) (e := e) (k := k) (by omega) (by with_reducible assumption)] <;> rfl)
   · have q1 := bne_iff_ne.1 h1; refine bq2 G (I5 (fc h1 fz) (us [(4, 12, 0), (1013, 1013, 0)])) [0, 1, 3, 7, 15, 31, 15, 79, 207, 463, 1023, 2047, 4095, 8191] [(56, bA true)] fun G => b6 (rT G true (by kernel_rfl) (wp_seq (ag9 G d9 [0, 0, 1, 7] [0, 1, 2, 3, 4, 5, 6, 7, 9, 10, 11] (.dead :: dI ars :: .dead :: dE e.kids :: ah8 :: .box (eL e 3) :: ah8 :: .box (eL e 10) :: (ao6 e ars pc vs bd k [.row 104 (D.exprs (xE ars pc vs bd e k).snd)])) ((2, iA pc) :: (F6 [])) fun G => b6 (wp_ret (l4 ?_))))); obtain ⟨ρ, G⟩ := G.frz [.no, .no, .no, .no, .no, .no, .no, .no, .no, .no, .row 104] (.dead :: dI ars :: .dead :: dE e.kids :: .box [.ref 8, .ref 1, .v (.slice none 0 0), .ref 9] :: .box (eL e 3) :: .box [.ref 8, .ref 1, .v (.slice none 0 0), .ref 9] :: .box (eL e 10) :: (ao6 e ars pc vs bd k [dE (xE ars pc vs bd e k).snd])) ((2, iA pc) :: (F6 [])); exact T7 (.tup [.agg [.ref 8, .ref 1, .v (.slice none 0 0), .ref 9], eA e 10]) G [0, 1, 2, 3, 8, 9, 10] (by have e1 : ((d8 ars pc e (vs, bd)).snd.kind : Int) = (e.kind) := (by rw [aU0 (ars := ars) (pc := pc) (vs := vs) (bd := bd) (e := e) (k := k) (by omega) (by omega)]; rfl); have e2 : ((d8 ars pc e (vs, bd)).snd.value : Int) = (e.value) := (by rw [aU0 (ars := ars) (pc := pc) (vs := vs) (bd := bd) (e := e) (k := k) (by omega) (by omega)]; rfl); (first | rw [e1, e2] | simp only [e1, e2]) <;> rfl) (by show _ = mR [0, 1, 2, 3, 8, 9, 10] (au7 e ars pc vs bd); unfold au7; rw [aU0 (ars := ars) (pc := pc) (vs := vs) (bd := bd) (e := e) (k := k) (by omega) (by omega)] <;> rfl)
  · refine wp_skip (b6 (wp_seq (wp_block (wp_seq (j7 G d9 [0, 1, 2, 3, 4, 5, 6, 7, 8, 9, 10, 11, 20] (aE1 e ars (Z1 :: V4 :: .box (eL e 11) :: (ao6 e ars pc vs bd k [.row 104 (D.exprs (xE ars pc vs bd e k).snd), V4]))) ((2, iA pc) :: (F6 [(8, .ptr 8 0), (9, iA k), (10, .ptr 12 0)])) fun G => b6 (wp_seq (N5 G (s7 7 [9, 1, 10, 53] (ih (e.kids.getD k cg8) (at6 (by omega)) ((xE ars pc vs bd e k).fst.fst) ((xE ars pc vs bd e k).fst.snd) (bS9 he (by omega)) (b07 he r1 (by omega)) (b06 he r2 (by omega)))) [0, 0, 2, 0, 14, 30, 0, 127, 255, 511, 511, 1023, 4095] [0, 1, 2, 3, 4, 5, 6, 7, 8, 11, 12, 69, 70, 71] [.dead, dI ars, .dead, dE e.kids, .box [.ref 11, .ref 1, .v (.slice none 0 0), .ref 12], .box (eL e 3), Z1, V4, .box (eL e 9), .row 104 (D.exprs (xE ars pc vs bd e k).snd), .box (eL (ao9 e ars pc vs bd k).snd 13), .row 3 (D.ints (ao9 e ars pc vs bd k).fst.fst), .row 106 (D.stmts (ao9 e ars pc vs bd k).fst.snd), dE (ao9 e ars pc vs bd k).snd.kids] ((2, iA pc) :: (F6 [(8, .ptr 8 0), (9, iA k), (10, .ptr 10 0)])) (iX k k e.kids.length []) (iK (by omega) ci3) fun G => b6 (N0 G d9 [0, 1, 2, 3, 4, 5, 6, 7, 8, 11, 12, 46] (aE1 e ars [Z1, V4, .box (eL e 11), .row 3 (D.ints (ao9 e ars pc vs bd k).fst.fst), .row 106 (D.stmts (ao9 e ars pc vs bd k).fst.snd), .row 104 (D.exprs ((xE ars pc vs bd e k).snd ++ ([v9 (ao9 e ars pc vs bd k).snd] ++ [])))]) ((2, iA pc) :: (F6 [(8, .ptr 8 0), (9, iA k)])) (aP ((xE ars pc vs bd e k).snd.length + ([v9 (d8 ars pc (e.kids.getD k cg8) (xE ars pc vs bd e k).fst).snd] ++ []).length) 40 []) (aK (by simp only [ch4, ch7, ci2, aV9]; omega) ci3) fun G => k6 (b6 (D0 G d9 [(9, iA ((k : Int) + 1))] [wO ((k : Int) + 1)] (o1 (by omega)) fun G => b6 ?_)))))))))); exact H9 G (k + 1) (by omega) (by omega) (rg 12) (by have e1 : ((xE ars pc vs bd e (k + 1)).fst.fst : List Int) = ((d8 ars pc (e.kids.getD k cg8) (xE ars pc vs bd e k).fst).fst.fst) := (b03 (by omega)); have e2 : ((xE ars pc vs bd e (k + 1)).fst.snd : List c5) = ((d8 ars pc (e.kids.getD k cg8) (xE ars pc vs bd e k).fst).fst.snd) := (b02 (by omega)); have e3 : ((xE ars pc vs bd e (k + 1)).snd : List c6) = ((xE ars pc vs bd e k).snd ++ ([v9 (d8 ars pc (e.kids.getD k cg8) (xE ars pc vs bd e k).fst).snd] ++ [])) := (b01 (by omega)); (first | rw [e1, e2, e3] | simp only [e1, e2, e3]) <;> rfl)
theorem bl9 (ars : List Int) (pc : Int) : ∀ (d : Nat), d ≤ 5 → ∀ (e : c6) (vs : List Int) (bd : List c5), f8 vs.length ars.length d e = true → vs.length + (1 + z5 e) ≤ 100000 → j5 bd + 40 * (1 + z5 e) ≤ 700000 → j8.ok Tryz.prog (leC ars pc vs bd e)
 | 0, _, _, _, _, h, _, _ => by simp [f8] at h
 | d + 1, hd, e, vs, bd, h, r1, r2 => bx1 e ars pc d hd (fun u _ vs bd h r1 r2 => bl9 ars pc d (by omega) u vs bd h r1 r2) vs bd h r1 r2
theorem a77 (ars : List Int) (pc : Int) (e : c6) (vs : List Int) (bd : List c5) (h : f8 vs.length ars.length 5 e = true) (r1 : vs.length + (1 + z5 e) ≤ 100000) (r2 : j5 bd + 40 * (1 + z5 e) ≤ 700000) : j8.ok Tryz.prog (leC ars pc vs bd e) := bl9 ars pc 5 (ch5 _) e vs bd h r1 r2
theorem bN6 (e : c6) (hb : z5 e ≤ 1048576) : j8.ok Tryz.prog ⟨132, [eA e 0], eS e, eS e ++ [dE e.kids], .agg [iA e.kind, iA e.value, .ref 1]⟩ :=
 j8.datPost (S := eS e) (d := .exprs e.kids) (aY9 e hb) (.agg [iA e.kind, iA e.value, .ref 1])
theorem cb7 {bd : List c5} {v t m : Int} {i : c6} {k : Nat} : bd ++ stL v t i m (k + 1) = bd ++ stL v t i m k ++ [⟨2, t, ⟨1, (k : Int), []⟩, ⟨11, 0, [⟨(B8 m (ah2 i (k : Int)) (cnE 0)).kind, (B8 m (ah2 i (k : Int)) (cnE 0)).value, (B8 m (ah2 i (k : Int)) (cnE 0)).kids⟩, ⟨2, v, []⟩, ⟨3, t, [⟨1, (k : Int), []⟩]⟩]⟩, 0, [], []⟩] := by
 rw [c6.eta, stL, cl8]
theorem cb6 {bd : List c5} {v t m : Int} {i : c6} {k : Nat} (hk : k = 4) : bd ++ stL v t i m 4 = bd ++ stL v t i m k := by rw [hk]
abbrev cf5 (ars vs : List Int) (bd : List c5) (m pc : Int) (t : c5) (e : c6) : j8 := ⟨160, [.agg [.ref 0, .ref 1, nlA, .ref 2], sA t 3, eA e 7, iA m, iA pc], [qI vs, dI ars, qT bd] ++ sS t ++ [dE e.kids], [qI vs, dI ars, .dead] ++ sS t ++ [dE e.kids, qI (vs ++ [l0 (i9 vs ars 5 ⟨e.kind, e.value, e.kids⟩) pc]), qT (bd ++ [W0 (vs.length : Int) ⟨e.kind, e.value, e.kids⟩] ++ stL (vs.length : Int) t.target ⟨t.index.kind, t.index.value, t.index.kids⟩ m 4)], .agg [.ref 8, .ref 1, nlA, .ref 9]⟩
abbrev aE7 (m : Int) (t : c5) (k : Nat) := B8 m (c6.mk 9 0 (ah2 (v9 t.index) (k : Int)).kids) (c6.mk 1 0 [])
abbrev aT2 (vs : List Int) (bd : List c5) (m : Int) (t : c5) (e : c6) (k : Nat) := bd ++ [W0 (vs.length : Int) (v9 e)] ++ stL (vs.length : Int) t.target (v9 t.index) m k
abbrev a97 (ars : List Int) (vs : List Int) (pc : Int) (e : c6) := vs ++ [l0 (i9 vs ars 5 (v9 e)) pc]
abbrev a96 : It := .box [.v (.slice none 0 0), .v (.slice none 0 0), .v (.slice none 0 0), .v (.slice none 0 0)]
abbrev bS5 : It := .box [.ref 11, .ref 1, .v (.slice none 0 0), .ref 12]
abbrev aE0 (ars : List Int) (vs : List Int) (pc : Int) (t : c5) (e : c6) (r0 : List It) : List It := .row 3 (D.ints vs) :: dI ars :: .dead :: dE t.index.kids :: dE t.value.kids :: dT t.body :: dT t.els :: dE e.kids :: bS5 :: .box (sL t 3) :: a96 :: .row 3 (D.ints (a97 ars vs pc e)) :: r0
abbrev ao5 (vs : List Int) (m : Int) (r0 : List (Nat × AV)) : List (Nat × AV) := (3, iA m) :: (5, .ptr 8 0) :: (6, .ptr 9 0) :: (10, .ptr 10 0) :: (11, iA (vs.length : Int)) :: r0
abbrev au6 (t : c5) (e : c6) (r0 : List It) : List It := dE t.index.kids :: dE t.value.kids :: dT t.body :: dT t.els :: dE e.kids :: r0
theorem bs3 (ars vs : List Int) (bd : List c5) (m pc : Int) (t : c5) (e : c6) (he : f8 vs.length ars.length 5 ⟨e.kind, e.value, e.kids⟩ = true) (r1 : vs.length ≤ 100000) (r2 : bd.length ≤ 700000) : j8.ok Tryz.prog (cf5 ars vs bd m pc t e) := by
  refine E2 63 Tryz.func160 (.row 3 (D.ints vs) :: dI ars :: .row 106 (D.stmts bd) :: (au6 t e [])) [(0, .agg [.ref 0, .ref 1, .v (.slice none 0 0), .ref 2]), (1, sA t 3), (2, eA e 7), (3, iA m), (4, iA pc)] fun G => ?_; refine wp_seq (j7 G d9 [0, 1, 2, 3, 4, 5, 6, 7, 8, 16, 24, 32] (.row 3 (D.ints vs) :: dI ars :: .row 106 (D.stmts bd) :: (au6 t e [.box [.ref 0, .ref 1, .v (.slice none 0 0), .ref 2], .box (sL t 3), .box (eL e 7), a96])) [(3, iA m), (4, iA pc), (5, .ptr 8 0), (6, .ptr 9 0), (7, .ptr 10 0), (10, .ptr 11 0)] fun G => b6 (wp_seq (k8 G d9 [(11, iA 0)] fun G => b6 (wp_seq (ag9 G (E9 (t3 4 [0, 1, 7] (j8.lend (aa7 vs ars e.kind e.value e.kids (by assumption)) [.row 3]) (t3 7 [0, 1, 2] (am6 vs ars bd (l0 (i9 vs ars 5 (v9 e)) pc) (by omega)) E8)) fz []) [0, 0, 2, 0, 14, 0, 62, 127, 255, 511, 511, 1023, 4095] [0, 1, 2, 3, 4, 5, 6, 7, 8, 9, 10, 11, 68] (.row 3 (D.ints vs) :: dI ars :: .row 106 (D.stmts bd) :: (au6 t e [.box [.ref 12, .ref 1, .v (.slice none 0 0), .ref 2], .box (sL t 3), .box (eL e 7), a96, .row 3 (D.ints (a97 ars vs pc e))])) [(3, iA m), (5, .ptr 8 0), (6, .ptr 9 0), (7, .ptr 10 0), (10, .ptr 11 0), (11, iA (vs.length : Int))] fun G => b6 (wp_seq (j7 G (s7 3 [12, 1, 2, 7] (T2 (vs ++ [l0 (i9 vs ars 5 (v9 e)) pc]) ars bd ((vs.length : Int)) e.kind e.value e.kids (by omega))) [0, 1, 2, 3, 4, 5, 6, 7, 8, 9, 11, 12, 37] (aE0 ars vs pc t e [.row 106 (D.stmts (bd ++ [W0 (vs.length : Int) (v9 e)]))]) (ao5 vs m []) fun G => b6 (wp_seq (wp_seq (C6 G d9 (ao5 vs m [(12, iA 0)]) fun G => b6 (wp_block ?_))))))))))); replace G := G.as (.row 3 (D.ints vs) :: dI ars :: .dead :: (au6 t e [.box [.ref 11, .ref 1, .v (.slice none 0 0), .ref 12], .box (sL t 3), .box [.v (.slice none 0 0), .v (.slice none 0 0), .v (.slice none 0 0), .v (.slice none 0 0)], .row 3 (D.ints (vs ++ [l0 (i9 vs ars 5 (v9 e)) pc])), .row 106 (D.stmts (bd ++ [W0 (vs.length : Int) (v9 e)] ++ stL (vs.length : Int) t.target (v9 t.index) m 0))])) (ao5 vs m [(12, iA 0)]) (by have e1 : (bd ++ [W0 (vs.length : Int) (v9 e)] ++ stL (vs.length : Int) t.target (v9 t.index) m 0 : List c5) = (bd ++ [W0 (vs.length : Int) (v9 e)]) := (by simp only [stL, List.append_nil]; done); (first | rw [e1] | simp only [e1]) <;> rfl) (by kernel_rfl); refine s6 (κ := Nat) (fun k => k ≤ 4) (fun k => 4 - k) (fun k => [.row 3 (D.ints vs), dI ars, .dead, dE t.index.kids, dE t.value.kids, dT t.body, dT t.els, dE e.kids, .box [.ref 11, .ref 1, .v (.slice none 0 0), .ref 12], .box (sL t 3), .box [.v (.slice none 0 0), .v (.slice none 0 0), .v (.slice none 0 0), .v (.slice none 0 0)], .row 3 (D.ints (vs ++ [l0 (i9 vs ars 5 (v9 e)) pc])), .row 106 (.stmts (bd ++ [W0 (vs.length : Int) ⟨e.kind, e.value, e.kids⟩] ++ stL (vs.length : Int) t.target ⟨t.index.kind, t.index.value, t.index.kids⟩ m k))]) (fun k => [(3, iA m), (5, .ptr 8 0), (6, .ptr 9 0), (10, .ptr 10 0), (11, iA (vs.length : Int)), (12, iA k)]) 0 (by omega) (t4.at G _ _) ?_
  clear G; intro k ρ a w hp G; replace G := t4.at G (aE0 ars vs pc t e [.row 106 (D.stmts (aT2 vs bd m t e k))]) (ao5 vs m [(12, iA k)]); refine wp_seq (wp_seq (k8 G d9 [(31, bA (decide ((k : Int) < 4)))] fun G => b6 (Z6 G (fun h0 q0 => ?_) fun h0 q0 => ?_)))
  · refine wp_exit (r7 (r7 (p6 (b6 (wp_seq (j7 G d9 [0, 1, 2, 3, 4, 5, 6, 7, 10, 11, 12] (.row 3 (D.ints vs) :: dI ars :: .dead :: (au6 t e [.box [.ref 9, .ref 1, .v (.slice none 0 0), .ref 10], .row 3 (D.ints (a97 ars vs pc e)), .row 106 (D.stmts (aT2 vs bd m t e k))])) [(10, .ptr 8 0)] fun G => b6 (wp_ret ?_))))))); exact K2 G [0, 1, 2, 3, 4, 5, 6, 7, 9, 10] (by show _ = mR [0, 1, 2, 3, 4, 5, 6, 7, 9, 10] (.row 3 (D.ints vs) :: dI ars :: .dead :: (au6 t e [.row 3 (D.ints (vs ++ [l0 (i9 vs ars 5 (v9 e)) pc])), .row 106 (D.stmts (bd ++ [W0 (vs.length : Int) (v9 e)] ++ stL (vs.length : Int) t.target (v9 t.index) m 4))])); have e1 : (bd ++ [W0 (vs.length : Int) (v9 e)] ++ stL (vs.length : Int) t.target (v9 t.index) m 4 : List c5) = (bd ++ [W0 (vs.length : Int) (v9 e)] ++ stL (vs.length : Int) t.target (v9 t.index) m k) := (cb6 (show k = 4 by omega)); (first | rw [e1] | simp only [e1]) <;> rfl)
  ·
   refine wp_skip (b6 (wp_seq (wp_block (wp_seq (j7 G (E9 (t3 4 [3] (bn8 t.index.kind t.index.value t.index.kids ((k : Int))) (t3 5 [] (I6 0) (t3 6 [45, 53] (ak4 m 9 0 1 0 ((ah2 (v9 t.index) (k : Int)).kids) ([])) E8))) fz []) [0, 1, 2, 3, 4, 5, 6, 7, 8, 9, 10, 11, 12, 61, 69] (aE0 ars vs pc t e [.row 106 (D.stmts (aT2 vs bd m t e k)), dE (aE7 m t k).kids, .box [iA (aE7 m t k).kind, iA (aE7 m t k).value, .ref 13]]) (ao5 vs m [(12, iA k), (13, .ptr 14 0)]) fun G => b6 (wp_seq (ag9 G (E9 (t3 2 [] (am5 ((vs.length : Int))) (t3 6 [] (I6 ((k : Int))) (t3 7 [63] (au0 t.target 1 ((k : Int)) ([])) (t3 9 [79] (ad7 11 ([v9 (B8 m (c6.mk 9 0 (ah2 (c6.mk t.index.kind t.index.value t.index.kids) (k : Int)).kids) (c6.mk 1 0 []))] ++ ([c6.mk 2 (vs.length : Int) []] ++ ([c6.mk 3 t.target [c6.mk 1 (k : Int) []]] ++ [])))) E8)))) fz []) [0, 0, 2, 0, 8, 0, 38, 126, 255, 511, 0, 2047] [0, 1, 2, 3, 4, 5, 6, 7, 8, 9, 10, 11, 12, 79, 95] (aE0 ars vs pc t e [.row 106 (D.stmts (aT2 vs bd m t e k)), dE ([v9 (aE7 m t k)] ++ ([c6.mk 2 (vs.length : Int) []] ++ ([c6.mk 3 t.target [c6.mk 1 (k : Int) []]] ++ []))), .box [iA 11, iA 0, .ref 13]]) (ao5 vs m [(12, iA k), (14, .ptr 14 0)]) fun G => b6 (N5 G (s7 5 [] (I6 ((k : Int)))) [0, 1, 0, 4, 0, 16, 0, 124, 252, 511, 1023, 2047] [0, 1, 2, 3, 4, 5, 6, 7, 8, 9, 10, 11, 87] (aE0 ars vs pc t e [.row 106 (D.stmts (bd ++ [W0 (vs.length : Int) (v9 e)] ++ stL (vs.length : Int) t.target (v9 t.index) m k ++ ([c5.mk 2 t.target (c6.mk 1 (k : Int) []) (c6.mk 11 0 ([v9 (aE7 m t k)] ++ ([c6.mk 2 (vs.length : Int) []] ++ ([c6.mk 3 t.target [c6.mk 1 (k : Int) []]] ++ [])))) 0 [] []] ++ [])))]) (ao5 vs m [(12, iA k)]) (aP ((bd ++ [W0 (vs.length : Int) (v9 e)] ++ stL (vs.length : Int) t.target (v9 t.index) m k).length + ([c5.mk (2 : Int) t.target (c6.mk (1 : Int) (k : Int) []) (c6.mk (11 : Int) (0 : Int) ([v9 (B8 m (c6.mk (9 : Int) (0 : Int) (ah2 (c6.mk t.index.kind t.index.value t.index.kids) (k : Int)).kids) (c6.mk (1 : Int) (0 : Int) []))] ++ ([c6.mk (2 : Int) (vs.length : Int) []] ++ ([c6.mk (3 : Int) t.target [c6.mk (1 : Int) (k : Int) []]] ++ [])))) (0 : Int) [] []] ++ []).length) 152 []) (aK (by simp only [ch4, ch7, ci2, bj5]; omega) ci3) fun G => ?_))))))))
   refine k6 (b6 (D0 G d9 [(12, iA ((k : Int) + 1))] [wO ((k : Int) + 1)] (o1 (by omega)) fun G => b6 ?_)); exact H9 G (k + 1) (by omega) (by omega) (rg 13) (by have e1 : (bd ++ [W0 (vs.length : Int) (v9 e)] ++ stL (vs.length : Int) t.target (v9 t.index) m (k + 1) : List c5) = (bd ++ [W0 (vs.length : Int) (v9 e)] ++ stL (vs.length : Int) t.target (v9 t.index) m k ++ ([c5.mk 2 t.target (c6.mk 1 (k : Int) []) (c6.mk 11 0 ([v9 (B8 m (c6.mk 9 0 (ah2 (c6.mk t.index.kind t.index.value t.index.kids) (k : Int)).kids) (c6.mk 1 0 []))] ++ ([c6.mk 2 (vs.length : Int) []] ++ ([c6.mk 3 t.target [c6.mk 1 (k : Int) []]] ++ [])))) 0 [] []] ++ [])) := cb7; (first | rw [e1] | simp only [e1]) <;> rfl)
abbrev lbC (ars : List Int) (m pc : Int) (vs : List Int) (bd : List c5) (ss : List c5) : j8 := ⟨79, [.agg [.ref 0, .ref 1, nlA, .ref 3], .ref 2, iA m, iA pc], [qI vs, dI ars, dT ss, qT bd], [.dead, dI ars, dT ss, .dead, qI (l9 ars ss m pc (vs, bd)).1, qT (l9 ars ss m pc (vs, bd)).2], .agg [.ref 4, .ref 1, nlA, .ref 5]⟩
abbrev lnC (ars : List Int) (m pc : Int) (vs : List Int) (ss : List c5) : j8 := ⟨79, [.agg [.ref 0, .ref 1, nlA, nlA], .ref 2, iA m, iA pc], [qI vs, dI ars, dT ss], [.dead, dI ars, dT ss, qI (l9 ars ss m pc (vs, [])).1, qT (l9 ars ss m pc (vs, [])).2], .agg [.ref 3, .ref 1, nlA, .ref 4]⟩
abbrev bL7 (ars : List Int) (m pc : Int) (vs : List Int) (bd : List c5) (ss : List c5) : j8 := ⟨153, [.agg [.ref 0, .ref 1, nlA, .ref 2], .ref 3, iA m, iA pc], [qI vs, dI ars, qT bd, dT ss], [.dead, dI ars, qT bd, dT ss, qI (l9 ars ss m pc (vs, [])).1, dT (l9 ars ss m pc (vs, [])).2], .tup [.agg [.ref 4, .ref 1, nlA, .ref 2], .ref 5]⟩
theorem bp4 (ars : List Int) (m pc : Int) (vs : List Int) (bd : List c5) (ss : List c5) (hB : j8.ok Tryz.prog (lnC ars m pc vs ss)) : j8.ok Tryz.prog (bL7 ars m pc vs bd ss) := by
 refine E2 25 Tryz.func153 [.row 3 (D.ints vs), dI ars, .row 106 (D.stmts bd), dT ss] [(0, .agg [.ref 0, .ref 1, .v (.slice none 0 0), .ref 2]), (1, .ref 3), (2, iA m), (3, iA pc)] fun G => ?_; refine wp_seq (j7 G d9 [0, 1, 2, 3, 4, 12] [.row 3 (D.ints vs), dI ars, .row 106 (D.stmts bd), dT ss, .box [.ref 0, .ref 1, .v (.slice none 0 0), .ref 2], .box [.v (.slice none 0 0), .v (.slice none 0 0), .v (.slice none 0 0), .v (.slice none 0 0)]] [(1, .ref 3), (2, iA m), (3, iA pc), (4, .ptr 4 0), (8, .ptr 5 0), (9, .v (.slice none 0 0))] fun G => b6 (wp_seq (j7 G (s7 6 [0, 1, 3] hB) [0, 1, 2, 3, 4, 5, 54, 55, 62] [.dead, dI ars, .row 106 (D.stmts bd), dT ss, .box [.ref 0, .ref 1, .v (.slice none 0 0), .ref 2], .box [.v (.slice none 0 0), .v (.slice none 0 0), .v (.slice none 0 0), .v (.slice none 0 0)], .row 3 (D.ints (l9 ars ss m pc (vs, [])).fst), .row 106 (D.stmts (l9 ars ss m pc (vs, [])).snd), .box [.ref 6, .ref 1, .v (.slice none 0 0), .ref 7]] [(4, .ptr 4 0), (8, .ptr 5 0), (9, .v (.slice none 0 0)), (10, .ptr 8 0)] fun G => b6 (wp_seq (ag9 G d9 [0, 1, 0, 4, 15, 0, 32, 31, 255] [0, 1, 2, 3, 5, 6, 7] [.dead, dI ars, .row 106 (D.stmts bd), dT ss, .box [.ref 5, .ref 1, .v (.slice none 0 0), .ref 2], .row 3 (D.ints (l9 ars ss m pc (vs, [])).fst), .row 106 (D.stmts (l9 ars ss m pc (vs, [])).snd)] [(8, .ptr 4 0), (9, .ref 6)] fun G => b6 (wp_ret ?_)))))); obtain ⟨ρ, G⟩ := G.frz [.no, .no, .no, .no, .no, .no, .row 106] [.dead, dI ars, .row 106 (D.stmts bd), dT ss, .box [.ref 5, .ref 1, .v (.slice none 0 0), .ref 2], .row 3 (D.ints (l9 ars ss m pc (vs, [])).fst), dT (l9 ars ss m pc (vs, [])).snd] [(8, .ptr 4 0), (9, .ref 6)]; exact K2 G [0, 1, 2, 3, 5, 6]
abbrev b64 (ars : List Int) (m pc : Int) (vs : List Int) (bd : List c5) (t : c5) : j8 := ⟨152, [.agg [.ref 0, .ref 1, nlA, .ref 2], sA t 3, iA m, iA pc], [qI vs, dI ars, qT bd] ++ sS t, [.dead, dI ars, .dead] ++ sS t ++ [qI (G3 ars t m pc (vs, bd)).1, qT (G3 ars t m pc (vs, bd)).2], .agg [.ref 7, .ref 1, nlA, .ref 8]⟩
section
variable {ars vs : List Int} {bd : List c5} {m pc : Int} {t : c5} {nv dd : Nat}
theorem bC8 (hh : D2 nv ars.length t = true) (k3 : t.kind = 3) (hv : nv ≤ vs.length) : f8 vs.length ars.length 5 t.value = true := E1 hv 5 _ (z7 hh (by omega))
theorem cf7 (hh : D2 nv ars.length t = true) (k3 : t.kind = 3) (hv : nv ≤ vs.length) : Grw vs.length ars.length 5 (1 + z5 t.value) (vs, bd) (d8 ars pc t.value (vs, bd)).1 := (al6 ars pc ars.length 5 t.value (vs, bd) (bC8 hh k3 hv)).1
theorem bX4 (hh : D2 nv ars.length t = true) (k3 : t.kind = 3) (hv : nv ≤ vs.length) (r1 : vs.length + 4 * (1 + J7 t) ≤ 90000) (r2 : j5 bd + 130 * (1 + J7 t) ≤ 600000) : (d8 ars pc t.value (vs, bd)).1.1.length + 3 * (1 + z5 t.value) + 4 * j5 t.body + 4 * j5 t.els ≤ 90000 ∧ nv ≤ (d8 ars pc t.value (vs, bd)).1.1.length ∧ j5 (d8 ars pc t.value (vs, bd)).1.2 + 60 * (1 + z5 t.value) + 130 * j5 t.body + 130 * j5 t.els ≤ 600000 ∧ (d8 ars pc t.value (vs, bd)).1.2.length ≤ 600000 := by
 have g := cf7 (pc := pc) (bd := bd) hh k3 hv
 have a := g.lo; have b := g.hi; have c := g.st
 have hsz : J7 t = z5 t.index + z5 t.value + j5 t.body + j5 t.els := by cases t; rfl
 have := K6 (d8 ars pc t.value (vs, bd)).1.2
 simp only at a b c
 omega
end
abbrev etE (e : c6) : c6 := ⟨e.kind, e.value, e.kids⟩
abbrev ifN (x : LnS × c6) (m l : Int) : LnS := (x.1.1 ++ [l] ++ [l], x.1.2 ++ [W0 (x.1.1.length : Int) (etE (B8 m (etE x.2) ⟨1, 0, []⟩))] ++ [W0 ((x.1.1 ++ [l]).length : Int) (etE (B8 m ⟨9, 0, [⟨2, (x.1.1.length : Int), []⟩] ++ ([⟨1, 0, []⟩] ++ [])⟩ ⟨1, 0, []⟩))])
theorem bC9 (x : LnS × c6) (m l : Int) : ifN x m l = ifM x m l := by
 unfold ifN ifM etE
 simp only [c6.eta]
 rfl
theorem bX5 (x : LnS × c6) (m l : Int) : j5 (ifM x m l).2 ≤ j5 x.1.2 + 20 + z5 x.2 ∧ (ifM x m l).1.length = x.1.1.length + 2 := by
 have m1 := ae9 m x.2 (cnE 0)
 have m2 := ae9 m ⟨9, 0, [vrE (x.1.1.length : Int), cnE 0]⟩ (cnE 0)
 have m3 : z5 ⟨9, 0, [vrE (x.1.1.length : Int), cnE 0]⟩ = 2 := rfl
 have e0 : z5 nnE = 0 := rfl
 have e1 : z5 (cnE 0) = 0 := rfl
 constructor
 ·simp only [ifM, v8, j5, J7, e0]; omega
 ·simp [ifM]
section
variable {ars vs : List Int} {bd : List c5} {m pc l : Int} {t : c5} {nv dd : Nat}
theorem b68 (hh : D2 nv ars.length t = true) (k3 : t.kind = 3) (hv : nv ≤ vs.length) (r1 : vs.length + 4 * (1 + J7 t) ≤ 90000) (r2 : j5 bd + 130 * (1 + J7 t) ≤ 600000) :
  nv ≤ (ifN (d8 ars pc t.value (vs, bd)) m l).1.length ∧ (ifN (d8 ars pc t.value (vs, bd)) m l).1.length + 4 * j5 t.body + 4 * j5 t.els ≤ 90000 ∧ j5 (ifN (d8 ars pc t.value (vs, bd)) m l).2 + 130 * j5 t.body + 130 * j5 t.els ≤ 600000 := by
 have hb := bX4 (pc := pc) (bd := bd) hh k3 hv r1 r2
 have hz := bX5 (d8 ars pc t.value (vs, bd)) m l
 have h3 := (al6 ars pc ars.length 5 t.value (vs, bd) (bC8 hh k3 hv)).2.2
 rw [bC9]
 omega
theorem b67 (hh : D2 nv ars.length t = true) (k3 : t.kind = 3) (hv : nv ≤ vs.length) (r1 : vs.length + 4 * (1 + J7 t) ≤ 90000) (r2 : j5 bd + 130 * (1 + J7 t) ≤ 600000) : j5 (ifN (d8 ars pc t.value (vs, bd)) m l).2 + 130 * j5 t.body ≤ 600000 := by have := (b68 (m := m) (l := l) (pc := pc) hh k3 hv r1 r2).2.2; omega
theorem bX3 {u : Int} (hbb : t.body.all (j6 nv ars.length dd) = true) (hh : D2 nv ars.length t = true) (k3 : t.kind = 3) (hv : nv ≤ vs.length) (r1 : vs.length + 4 * (1 + J7 t) ≤ 90000) (r2 : j5 bd + 130 * (1 + J7 t) ≤ 600000) :
  nv ≤ (l9 ars t.body u l (ifN (d8 ars pc t.value (vs, bd)) m l)).1.length ∧ (l9 ars t.body u l (ifN (d8 ars pc t.value (vs, bd)) m l)).1.length + 4 * j5 t.els ≤ 90000 ∧ j5 (l9 ars t.body u l (ifN (d8 ars pc t.value (vs, bd)) m l)).2 + 130 * j5 t.els ≤ 600000 := by
 have h := b68 (m := m) (l := l) (pc := pc) hh k3 hv r1 r2
 have g := aX1 ars t.body u l (ifN (d8 ars pc t.value (vs, bd)) m l) hbb h.1
 have a := g.lo; have b := g.hi; have c := g.st
 omega
theorem b69 (hbb : t.body.all (j6 nv ars.length dd) = true) (hh : D2 nv ars.length t = true) (k3 : t.kind = 3) (hv : nv ≤ vs.length) (r1 : vs.length + 4 * (1 + J7 t) ≤ 90000) (r2 : j5 bd + 130 * (1 + J7 t) ≤ 600000) :
  nv ≤ (l9 ars t.body m l ((d8 ars pc t.value (vs, bd)).1.1, [])).1.length ∧ (l9 ars t.body m l ((d8 ars pc t.value (vs, bd)).1.1, [])).1.length + 4 * j5 t.els ≤ 90000 := by
 have hb := bX4 (pc := pc) (bd := bd) hh k3 hv r1 r2
 have g := aX1 ars t.body m l ((d8 ars pc t.value (vs, bd)).1.1, []) hbb hb.2.1
 have a := g.lo; have b := g.hi
 simp only at a b
 omega
abbrev lbV (ars vs : List Int) (pc : Int) (t : c5) : Int := l0 pc (i9 vs ars 5 (etE t.value))
theorem b71 (k3 : t.kind = 3) (h : (!(i7 (i9 vs ars 5 (etE t.value)) && decide (i9 vs ars 5 (etE t.value) % 2 = 1))) = false) : G3 ars t m pc (vs, bd) = l9 ars t.els (((d8 ars pc t.value (vs, bd)).1.1 ++ [lbV ars vs pc t]).length : Int) (lbV ars vs pc t) (l9 ars t.body ((d8 ars pc t.value (vs, bd)).1.1.length : Int) (lbV ars vs pc t) (ifN (d8 ars pc t.value (vs, bd)) m (lbV ars vs pc t))) := by
 rw [cj6] at h
 rw [bC9]
 unfold lbV
 rw [show etE t.value = t.value from c6.eta _] at h ⊢
 exact b60 k3 h
theorem b73 (k3 : t.kind = 3) (h : (!(i7 (i9 vs ars 5 (etE t.value)) && decide (i9 vs ars 5 (etE t.value) % 2 = 1))) = true) : G3 ars t m pc (vs, bd) = ((l9 ars t.els m (lbV ars vs pc t) ((l9 ars t.body m (lbV ars vs pc t) ((d8 ars pc t.value (vs, bd)).1.1, [])).1, [])).1,
  (d8 ars pc t.value (vs, bd)).1.2 ++ [⟨3, 0, ⟨0, 0, []⟩, etE (d8 ars pc t.value (vs, bd)).2, 0, (l9 ars t.body m (lbV ars vs pc t) ((d8 ars pc t.value (vs, bd)).1.1, [])).2, (l9 ars t.els m (lbV ars vs pc t) ((l9 ars t.body m (lbV ars vs pc t) ((d8 ars pc t.value (vs, bd)).1.1, [])).1, [])).2⟩]) := by
 rw [ci9] at h
 rw [show etE (d8 ars pc t.value (vs, bd)).2 = (d8 ars pc t.value (vs, bd)).2 from c6.eta _]
 unfold lbV
 rw [show etE t.value = t.value from c6.eta _] at h ⊢
 exact b61 k3 h
theorem b72 (k3 : t.kind = 3) (h : (!(i7 (i9 vs ars 5 (etE t.value)) && decide (i9 vs ars 5 (etE t.value) % 2 = 1))) = true) : (G3 ars t m pc (vs, bd)).1 = (l9 ars t.els m (lbV ars vs pc t) ((l9 ars t.body m (lbV ars vs pc t) ((d8 ars pc t.value (vs, bd)).1.1, [])).1, [])).1 := by rw [b73 k3 h]
theorem b70 (k3 : t.kind = 3) (h : (!(i7 (i9 vs ars 5 (etE t.value)) && decide (i9 vs ars 5 (etE t.value) % 2 = 1))) = false) : (G3 ars t m pc (vs, bd)).1 = (l9 ars t.els (((d8 ars pc t.value (vs, bd)).1.1 ++ [lbV ars vs pc t]).length : Int) (lbV ars vs pc t) (l9 ars t.body ((d8 ars pc t.value (vs, bd)).1.1.length : Int) (lbV ars vs pc t) (ifN (d8 ars pc t.value (vs, bd)) m (lbV ars vs pc t)))).1 := by rw [b71 k3 h]
end
abbrev aE6 (ars : List Int) (t : c5) (m : Int) (pc : Int) (vs : List Int) (bd : List c5) := l9 ars t.body ((d8 ars pc t.value (vs, bd)).fst.fst.length : Int) (l0 pc (i9 vs ars 5 (v9 t.value))) ((d8 ars pc t.value (vs, bd)).fst.fst ++ [l0 pc (i9 vs ars 5 (v9 t.value))] ++ [l0 pc (i9 vs ars 5 (v9 t.value))], (d8 ars pc t.value (vs, bd)).fst.snd ++ [W0 ((d8 ars pc t.value (vs, bd)).fst.fst.length : Int) (v9 (B8 m (c6.mk (d8 ars pc t.value (vs, bd)).snd.kind (d8 ars pc t.value (vs, bd)).snd.value (d8 ars pc t.value (vs, bd)).snd.kids) (c6.mk 1 0 [])))] ++ [W0 (((d8 ars pc t.value (vs, bd)).fst.fst ++ [l0 pc (i9 vs ars 5 (v9 t.value))]).length : Int) (v9 (B8 m (c6.mk 9 0 ([c6.mk 2 ((d8 ars pc t.value (vs, bd)).fst.fst.length : Int) []] ++ ([c6.mk 1 0 []] ++ []))) (c6.mk 1 0 [])))])
abbrev E0 (ars : List Int) (t : c5) (vs : List Int) := i9 vs ars 5 (v9 t.value)
abbrev aT0 (ars : List Int) (t : c5) (pc : Int) (vs : List Int) (bd : List c5) := v9 (d8 ars pc t.value (vs, bd)).snd
abbrev ao8 (ars : List Int) (t : c5) (m : Int) (pc : Int) (vs : List Int) (bd : List c5) := l9 ars t.body m (l0 pc (E0 ars t vs)) ((d8 ars pc t.value (vs, bd)).fst.fst, [])
abbrev ao7 (ars : List Int) (t : c5) (m : Int) (pc : Int) (vs : List Int) (bd : List c5) := l9 ars t.els m (l0 pc (E0 ars t vs)) ((ao8 ars t m pc vs bd).fst, [])
abbrev aT1 (ars : List Int) (t : c5) (m : Int) (pc : Int) (vs : List Int) (bd : List c5) := v9 (B8 m (aT0 ars t pc vs bd) (c6.mk 1 0 []))
abbrev T6 : It := .box [.v (.slice none 0 0), .v (.slice none 0 0), .v (.slice none 0 0), .v (.slice none 0 0)]
abbrev S7 (ars : List Int) (t : c5) (r0 : List It) : List It := .dead :: dI ars :: .dead :: dE t.index.kids :: dE t.value.kids :: dT t.body :: dT t.els :: r0
abbrev V3 (ars : List Int) (t : c5) (pc : Int) (vs : List Int) (r0 : List (Nat × AV)) : List (Nat × AV) := (3, iA pc) :: (4, .ptr 7 0) :: (5, .ptr 8 0) :: (8, .ptr 9 0) :: (9, iA (E0 ars t vs)) :: r0
abbrev a94 (ars : List Int) (t : c5) (pc : Int) (vs : List Int) (bd : List c5) (r0 : List It) : List It := .box (sL t 3) :: T6 :: .box [iA (d8 ars pc t.value (vs, bd)).snd.kind, iA (d8 ars pc t.value (vs, bd)).snd.value, .ref 12] :: .row 106 (D.stmts (d8 ars pc t.value (vs, bd)).fst.snd) :: dE (d8 ars pc t.value (vs, bd)).snd.kids :: r0
theorem bU1 (ars : List Int) (nv dd : Nat) (t : c5) (k3 : t.kind = 3) (hh : D2 nv ars.length t = true) (hbb : t.body.all (j6 nv ars.length dd) = true) (hbe : t.els.all (j6 nv ars.length dd) = true)
    (hB : ∀ (tt : List c5) (m pc : Int) (vs : List Int) (bd : List c5), tt.all (j6 nv ars.length dd) = true → nv ≤ vs.length → vs.length + 4 * j5 tt ≤ 90000 → j5 bd + 130 * j5 tt ≤ 600000 → j8.ok Tryz.prog (lbC ars m pc vs bd tt))
    (hI : ∀ (tt : List c5) (m pc : Int) (vs : List Int) (bd : List c5), tt.all (j6 nv ars.length dd) = true → nv ≤ vs.length → vs.length + 4 * j5 tt ≤ 90000 → 130 * j5 tt ≤ 600000 → j8.ok Tryz.prog (bL7 ars m pc vs bd tt))
    (m pc : Int) (vs : List Int) (bd : List c5) (hv : nv ≤ vs.length) (r1 : vs.length + 4 * (1 + J7 t) ≤ 90000) (r2 : j5 bd + 130 * (1 + J7 t) ≤ 600000) : j8.ok Tryz.prog (b64 ars m pc vs bd t) := by
  refine E2 116 Tryz.func152 [.row 3 (D.ints vs), dI ars, .row 106 (D.stmts bd), dE t.index.kids, dE t.value.kids, dT t.body, dT t.els] [(0, .agg [.ref 0, .ref 1, .v (.slice none 0 0), .ref 2]), (1, sA t 3), (2, iA m), (3, iA pc)] fun G => ?_
  have hsz : J7 t = z5 t.index + z5 t.value + j5 t.body + j5 t.els := by cases t; rfl
  have hsh := bC8 (vs := vs) hh k3 hv; have hbd := bX4 (pc := pc) (bd := bd) hh k3 hv r1 r2; refine wp_seq (j7 G d9 [0, 1, 2, 3, 4, 5, 6, 7, 15, 23] [.row 3 (D.ints vs), dI ars, .row 106 (D.stmts bd), dE t.index.kids, dE t.value.kids, dT t.body, dT t.els, .box [.ref 0, .ref 1, .v (.slice none 0 0), .ref 2], .box (sL t 3), T6] [(2, iA m), (3, iA pc), (4, .ptr 7 0), (5, .ptr 8 0), (8, .ptr 9 0)] fun G => b6 (wp_seq (k8 G (s7 4 [0, 1, 4] (j8.lend (aa7 vs ars t.value.kind t.value.value t.value.kids (by assumption)) [.row 3])) [(9, iA (E0 ars t vs))] fun G => b6 (wp_seq (j7 G d9 [0, 1, 2, 3, 4, 5, 6, 7, 8, 9, 18] [.row 3 (D.ints vs), dI ars, .row 106 (D.stmts bd), dE t.index.kids, dE t.value.kids, dT t.body, dT t.els, .box [.ref 0, .ref 1, .v (.slice none 0 0), .ref 2], .box (sL t 3), T6, .box [iA 0, iA 0, .v (.slice none 0 0)]] ((2, iA m) :: (V3 ars t pc vs [(10, .ptr 10 0)])) fun G => b6 (wp_seq (j7 G (s7 4 [0, 1, 2, 4] (a77 ars pc t.value vs bd (by assumption) (by omega) (by omega))) [0, 1, 2, 3, 4, 5, 6, 7, 8, 9, 10, 43, 44, 45] (S7 ars t [.box [.ref 11, .ref 1, .v (.slice none 0 0), .ref 12], .box (sL t 3), T6, .box [iA (d8 ars pc t.value (vs, bd)).snd.kind, iA (d8 ars pc t.value (vs, bd)).snd.value, .ref 13], .row 3 (D.ints (d8 ars pc t.value (vs, bd)).fst.fst), .row 106 (D.stmts (d8 ars pc t.value (vs, bd)).fst.snd), dE (d8 ars pc t.value (vs, bd)).snd.kids]) ((2, iA m) :: (V3 ars t pc vs [(10, .ptr 10 0)])) fun G => b6 (wp_seq (wp_seq (k8 G (s7 1 [] (I8 (i9 vs ars 5 (v9 t.value)))) [(31, .v (.bool !(i7 (E0 ars t vs) && decide (i9 vs ars 5 (v9 t.value) % 2 = 1))))] fun G => b6 ?_)))))))))); cases h0 : (!(i7 (i9 vs ars (5 : Nat) (v9 t.value)) && decide (i9 vs ars (5 : Nat) (v9 t.value) % (2 : Int) = 1)))
  ·
   have q0 : ((i7 (i9 vs ars 5 (v9 t.value))) = true) ∧ (i9 vs ars 5 (v9 t.value) % 2 = 1) := (fun hq => And.imp (fun hq => (hq)) (fun hq => of_decide_eq_true hq) (Bool.and_eq_true_iff.1 hq)) (Eq.mp (cj6 _) h0); refine rF G _ h0 (wp_skip (b6 (wp_seq (k8 G d9 [(13, iA 0), (14, iA 0)] fun G => b6 (wp_seq (j7 G (s7 4 [11, 1, 12] (am6 ((d8 ars pc t.value (vs, bd)).fst.fst) ars ((d8 ars pc t.value (vs, bd)).fst.snd) (l0 pc (i9 vs ars 5 (v9 t.value))) (by omega))) [0, 1, 2, 3, 4, 5, 6, 7, 8, 9, 10, 12, 13, 46] (S7 ars t (.box [.ref 13, .ref 1, .v (.slice none 0 0), .ref 11] :: (a94 ars t pc vs bd [.row 3 (D.ints ((d8 ars pc t.value (vs, bd)).fst.fst ++ [l0 pc (E0 ars t vs)]))]))) ((2, iA m) :: (V3 ars t pc vs [(10, .ptr 10 0), (13, iA ((d8 ars pc t.value (vs, bd)).fst.fst.length : Int)), (14, iA 0)])) fun G => b6 (wp_seq (ag9 G (E9 (t3 4 [] (I6 0) (t3 5 [12, 46] (ak4 m ((d8 ars pc t.value (vs, bd)).snd.kind) ((d8 ars pc t.value (vs, bd)).snd.value) 1 0 ((d8 ars pc t.value (vs, bd)).snd.kids) ([])) (t3 6 [13, 1, 11, 54] (T2 ((d8 ars pc t.value (vs, bd)).fst.fst ++ [l0 pc (i9 vs ars 5 (v9 t.value))]) ars ((d8 ars pc t.value (vs, bd)).fst.snd) (((d8 ars pc t.value (vs, bd)).fst.fst.length : Int)) ((B8 m (v9 (d8 ars pc t.value (vs, bd)).snd) (c6.mk 1 0 [])).kind) ((B8 m (v9 (d8 ars pc t.value (vs, bd)).snd) (c6.mk 1 0 [])).value) ((B8 m (v9 (d8 ars pc t.value (vs, bd)).snd) (c6.mk 1 0 [])).kids) (by omega)) E8))) fz []) [0, 0, 0, 0, 0, 28, 63, 127] [0, 1, 2, 3, 4, 5, 6, 7, 8, 9, 13, 62] (S7 ars t [.box [.ref 10, .ref 1, .v (.slice none 0 0), .ref 11], .box (sL t 3), T6, .row 3 (D.ints ((d8 ars pc t.value (vs, bd)).fst.fst ++ [l0 pc (E0 ars t vs)])), .row 106 (D.stmts ((d8 ars pc t.value (vs, bd)).fst.snd ++ [W0 ((d8 ars pc t.value (vs, bd)).fst.fst.length : Int) (aT1 ars t m pc vs bd)]))]) ((2, iA m) :: (V3 ars t pc vs [(13, iA ((d8 ars pc t.value (vs, bd)).fst.fst.length : Int)), (14, iA 0)])) fun G => b6 (wp_seq (j7 G (s7 4 [10, 1, 11] (am6 ((d8 ars pc t.value (vs, bd)).fst.fst ++ [l0 pc (i9 vs ars 5 (v9 t.value))]) ars ((d8 ars pc t.value (vs, bd)).fst.snd ++ [W0 ((d8 ars pc t.value (vs, bd)).fst.fst.length : Int) (v9 (B8 m (c6.mk (d8 ars pc t.value (vs, bd)).snd.kind (d8 ars pc t.value (vs, bd)).snd.value (d8 ars pc t.value (vs, bd)).snd.kids) (c6.mk 1 0 [])))]) (l0 pc (i9 vs ars 5 (v9 t.value))) (by simp only [ch4, ch7, ci2]; omega))) [0, 1, 2, 3, 4, 5, 6, 7, 8, 9, 11, 44] (S7 ars t [.box [.ref 11, .ref 1, .v (.slice none 0 0), .ref 10], .box (sL t 3), T6, .row 106 (D.stmts ((d8 ars pc t.value (vs, bd)).fst.snd ++ [W0 ((d8 ars pc t.value (vs, bd)).fst.fst.length : Int) (aT1 ars t m pc vs bd)])), .row 3 (D.ints ((d8 ars pc t.value (vs, bd)).fst.fst ++ [l0 pc (E0 ars t vs)] ++ [l0 pc (E0 ars t vs)]))]) ((2, iA m) :: (V3 ars t pc vs [(13, iA ((d8 ars pc t.value (vs, bd)).fst.fst.length : Int)), (14, iA (((d8 ars pc t.value (vs, bd)).fst.fst ++ [l0 pc (E0 ars t vs)]).length : Int))])) fun G => ?_))))))))))
   refine b6 (wp_seq (ag9 G (E9 (t3 4 [] (am5 (((d8 ars pc t.value (vs, bd)).fst.fst.length : Int))) (t3 5 [] (I6 0) (t3 7 [60] (ad7 9 ([c6.mk 2 ((d8 ars pc t.value (vs, bd)).fst.fst.length : Int) []] ++ ([c6.mk 1 0 []] ++ []))) (t3 8 [] (I6 0) (t3 9 [60, 76] (ak4 m 9 0 1 0 ([c6.mk 2 ((d8 ars pc t.value (vs, bd)).fst.fst.length : Int) []] ++ ([c6.mk 1 0 []] ++ [])) ([])) (t3 10 [11, 1, 10, 84] (T2 ((d8 ars pc t.value (vs, bd)).fst.fst ++ [l0 pc (i9 vs ars 5 (v9 t.value))] ++ [l0 pc (i9 vs ars 5 (v9 t.value))]) ars ((d8 ars pc t.value (vs, bd)).fst.snd ++ [W0 ((d8 ars pc t.value (vs, bd)).fst.fst.length : Int) (v9 (B8 m (c6.mk (d8 ars pc t.value (vs, bd)).snd.kind (d8 ars pc t.value (vs, bd)).snd.value (d8 ars pc t.value (vs, bd)).snd.kids) (c6.mk 1 0 [])))]) ((((d8 ars pc t.value (vs, bd)).fst.fst ++ [l0 pc (i9 vs ars 5 (v9 t.value))]).length : Int)) ((B8 m (c6.mk 9 0 ([c6.mk 2 ((d8 ars pc t.value (vs, bd)).fst.fst.length : Int) []] ++ ([c6.mk 1 0 []] ++ []))) (c6.mk 1 0 [])).kind) ((B8 m (c6.mk 9 0 ([c6.mk 2 ((d8 ars pc t.value (vs, bd)).fst.fst.length : Int) []] ++ ([c6.mk 1 0 []] ++ []))) (c6.mk 1 0 [])).value) ((B8 m (c6.mk 9 0 ([c6.mk 2 ((d8 ars pc t.value (vs, bd)).fst.fst.length : Int) []] ++ ([c6.mk 1 0 []] ++ []))) (c6.mk 1 0 [])).kids) (by simp only [ch4, ch7, ci2]; omega)) E8)))))) fz []) [0, 0, 0, 0, 8, 24, 56, 120, 248, 508, 1023, 2047] [0, 1, 2, 3, 4, 5, 6, 7, 8, 9, 11, 92] (S7 ars t [.box [.ref 10, .ref 1, .v (.slice none 0 0), .ref 11], .box (sL t 3), T6, .row 3 (D.ints ((d8 ars pc t.value (vs, bd)).fst.fst ++ [l0 pc (E0 ars t vs)] ++ [l0 pc (E0 ars t vs)])), .row 106 (D.stmts ((d8 ars pc t.value (vs, bd)).fst.snd ++ [W0 ((d8 ars pc t.value (vs, bd)).fst.fst.length : Int) (aT1 ars t m pc vs bd)] ++ [W0 (((d8 ars pc t.value (vs, bd)).fst.fst ++ [l0 pc (E0 ars t vs)]).length : Int) (v9 (B8 m (c6.mk 9 0 ([c6.mk 2 ((d8 ars pc t.value (vs, bd)).fst.fst.length : Int) []] ++ ([c6.mk 1 0 []] ++ []))) (c6.mk 1 0 [])))]))]) (V3 ars t pc vs [(13, iA ((d8 ars pc t.value (vs, bd)).fst.fst.length : Int)), (14, iA (((d8 ars pc t.value (vs, bd)).fst.fst ++ [l0 pc (E0 ars t vs)]).length : Int))]) fun G => b6 (wp_seq (j7 G (s7 7 [10, 1, 5, 11] (hB t.body (((d8 ars pc t.value (vs, bd)).fst.fst.length : Int)) (l0 pc (i9 vs ars 5 (v9 t.value))) ((d8 ars pc t.value (vs, bd)).fst.fst ++ [l0 pc (i9 vs ars 5 (v9 t.value))] ++ [l0 pc (i9 vs ars 5 (v9 t.value))]) ((d8 ars pc t.value (vs, bd)).fst.snd ++ [W0 ((d8 ars pc t.value (vs, bd)).fst.fst.length : Int) (v9 (B8 m (c6.mk (d8 ars pc t.value (vs, bd)).snd.kind (d8 ars pc t.value (vs, bd)).snd.value (d8 ars pc t.value (vs, bd)).snd.kids) (c6.mk 1 0 [])))] ++ [W0 (((d8 ars pc t.value (vs, bd)).fst.fst ++ [l0 pc (i9 vs ars 5 (v9 t.value))]).length : Int) (v9 (B8 m (c6.mk 9 0 ([c6.mk 2 ((d8 ars pc t.value (vs, bd)).fst.fst.length : Int) []] ++ ([c6.mk 1 0 []] ++ []))) (c6.mk 1 0 [])))]) (by assumption) (by simp only [ch4, ch7, ci2]; omega) (by simp only [ch4, ch7, ci2]; omega) (b67 hh k3 hv r1 r2))) [0, 1, 2, 3, 4, 5, 6, 7, 8, 9, 68, 69] (S7 ars t [.box [.ref 10, .ref 1, .v (.slice none 0 0), .ref 11], .box (sL t 3), T6, .row 3 (D.ints (aE6 ars t m pc vs bd).fst), .row 106 (D.stmts (aE6 ars t m pc vs bd).snd)]) (V3 ars t pc vs [(14, iA (((d8 ars pc t.value (vs, bd)).fst.fst ++ [l0 pc (E0 ars t vs)]).length : Int))]) fun G => ?_))))
   refine b6 (wp_seq (j7 G (s7 7 [10, 1, 6, 11] (hB t.els ((((d8 ars pc t.value (vs, bd)).fst.fst ++ [l0 pc (i9 vs ars 5 (v9 t.value))]).length : Int)) (l0 pc (i9 vs ars 5 (v9 t.value))) ((l9 ars t.body ((d8 ars pc t.value (vs, bd)).fst.fst.length : Int) (l0 pc (i9 vs ars 5 (v9 t.value))) ((d8 ars pc t.value (vs, bd)).fst.fst ++ [l0 pc (i9 vs ars 5 (v9 t.value))] ++ [l0 pc (i9 vs ars 5 (v9 t.value))], (d8 ars pc t.value (vs, bd)).fst.snd ++ [W0 ((d8 ars pc t.value (vs, bd)).fst.fst.length : Int) (v9 (B8 m (c6.mk (d8 ars pc t.value (vs, bd)).snd.kind (d8 ars pc t.value (vs, bd)).snd.value (d8 ars pc t.value (vs, bd)).snd.kids) (c6.mk 1 0 [])))] ++ [W0 (((d8 ars pc t.value (vs, bd)).fst.fst ++ [l0 pc (i9 vs ars 5 (v9 t.value))]).length : Int) (v9 (B8 m (c6.mk 9 0 ([c6.mk 2 ((d8 ars pc t.value (vs, bd)).fst.fst.length : Int) []] ++ ([c6.mk 1 0 []] ++ []))) (c6.mk 1 0 [])))])).fst) ((l9 ars t.body ((d8 ars pc t.value (vs, bd)).fst.fst.length : Int) (l0 pc (i9 vs ars 5 (v9 t.value))) ((d8 ars pc t.value (vs, bd)).fst.fst ++ [l0 pc (i9 vs ars 5 (v9 t.value))] ++ [l0 pc (i9 vs ars 5 (v9 t.value))], (d8 ars pc t.value (vs, bd)).fst.snd ++ [W0 ((d8 ars pc t.value (vs, bd)).fst.fst.length : Int) (v9 (B8 m (c6.mk (d8 ars pc t.value (vs, bd)).snd.kind (d8 ars pc t.value (vs, bd)).snd.value (d8 ars pc t.value (vs, bd)).snd.kids) (c6.mk 1 0 [])))] ++ [W0 (((d8 ars pc t.value (vs, bd)).fst.fst ++ [l0 pc (i9 vs ars 5 (v9 t.value))]).length : Int) (v9 (B8 m (c6.mk 9 0 ([c6.mk 2 ((d8 ars pc t.value (vs, bd)).fst.fst.length : Int) []] ++ ([c6.mk 1 0 []] ++ []))) (c6.mk 1 0 [])))])).snd) (by assumption) ((bX3 hbb hh k3 hv r1 r2).1) ((bX3 hbb hh k3 hv r1 r2).2.1) ((bX3 hbb hh k3 hv r1 r2).2.2))) [0, 1, 2, 3, 4, 5, 6, 9, 68, 69] (S7 ars t [.box [.ref 8, .ref 1, .v (.slice none 0 0), .ref 9], .row 3 (D.ints (l9 ars t.els (((d8 ars pc t.value (vs, bd)).fst.fst ++ [l0 pc (E0 ars t vs)]).length : Int) (l0 pc (E0 ars t vs)) (aE6 ars t m pc vs bd)).fst), .row 106 (D.stmts (l9 ars t.els (((d8 ars pc t.value (vs, bd)).fst.fst ++ [l0 pc (E0 ars t vs)]).length : Int) (l0 pc (E0 ars t vs)) (aE6 ars t m pc vs bd)).snd)]) [(8, .ptr 7 0)] fun G => ?_))
   refine b6 (wp_ret ?_); exact K2 G [0, 1, 2, 3, 4, 5, 6, 8, 9] (by show _ = mR [0, 1, 2, 3, 4, 5, 6, 8, 9] [.dead, dI ars, .dead, dE t.index.kids, dE t.value.kids, dT t.body, dT t.els, .row 3 (D.ints (G3 ars t m pc (vs, bd)).fst), .row 106 (D.stmts (G3 ars t m pc (vs, bd)).snd)]; have e1 : ((G3 ars t m pc (vs, bd)).fst : List Int) = ((l9 ars t.els (((d8 ars pc t.value (vs, bd)).fst.fst ++ [l0 pc (i9 vs ars 5 (v9 t.value))]).length : Int) (l0 pc (i9 vs ars 5 (v9 t.value))) (l9 ars t.body ((d8 ars pc t.value (vs, bd)).fst.fst.length : Int) (l0 pc (i9 vs ars 5 (v9 t.value))) ((d8 ars pc t.value (vs, bd)).fst.fst ++ [l0 pc (i9 vs ars 5 (v9 t.value))] ++ [l0 pc (i9 vs ars 5 (v9 t.value))], (d8 ars pc t.value (vs, bd)).fst.snd ++ [W0 ((d8 ars pc t.value (vs, bd)).fst.fst.length : Int) (v9 (B8 m (c6.mk (d8 ars pc t.value (vs, bd)).snd.kind (d8 ars pc t.value (vs, bd)).snd.value (d8 ars pc t.value (vs, bd)).snd.kids) (c6.mk 1 0 [])))] ++ [W0 (((d8 ars pc t.value (vs, bd)).fst.fst ++ [l0 pc (i9 vs ars 5 (v9 t.value))]).length : Int) (v9 (B8 m (c6.mk 9 0 ([c6.mk 2 ((d8 ars pc t.value (vs, bd)).fst.fst.length : Int) []] ++ ([c6.mk 1 0 []] ++ []))) (c6.mk 1 0 [])))]))).fst) := (b70 k3 (by with_reducible assumption)); have e2 : ((G3 ars t m pc (vs, bd)).snd : List c5) = ((l9 ars t.els (((d8 ars pc t.value (vs, bd)).fst.fst ++ [l0 pc (E0 ars t vs)]).length : Int) (l0 pc (E0 ars t vs)) (aE6 ars t m pc vs bd)).snd) := (congrArg Prod.snd (b71 k3 (by with_reducible assumption))); (first | rw [e1, e2] | simp only [e1, e2]) <;> rfl)
  ·
   have q0 : ((i7 (i9 vs ars 5 (v9 t.value))) = false) ∨ (¬ (i9 vs ars 5 (v9 t.value) % 2 = 1)) := (fun hq => Or.imp (fun hq => (hq)) (fun hq => of_decide_eq_false hq) (Bool.and_eq_false_iff.1 hq)) (Eq.mp (ci9 _) h0); refine rT G _ h0 (wp_seq (j7 G d9 [0, 1, 2, 3, 4, 5, 6, 7, 8, 9, 10, 11, 12, 13, 14, 22] (S7 ars t [.box [.ref 11, .ref 1, .v (.slice none 0 0), .ref 12], .box (sL t 3), T6, .box [iA (d8 ars pc t.value (vs, bd)).snd.kind, iA (d8 ars pc t.value (vs, bd)).snd.value, .ref 13], .row 3 (D.ints (d8 ars pc t.value (vs, bd)).fst.fst), .row 106 (D.stmts (d8 ars pc t.value (vs, bd)).fst.snd), dE (d8 ars pc t.value (vs, bd)).snd.kids, .tree (D.stmts []), .tree (D.stmts [])]) ((2, iA m) :: (V3 ars t pc vs [(10, .ptr 10 0), (11, .tref 14), (12, .tref 15)])) fun G => b6 (wp_seq (j7 G (s7 7 [11, 1, 12, 5] (hI t.body m (l0 pc (i9 vs ars 5 (v9 t.value))) ((d8 ars pc t.value (vs, bd)).fst.fst) ((d8 ars pc t.value (vs, bd)).fst.snd) (by assumption) (by omega) (by omega) (by omega))) [0, 1, 2, 3, 4, 5, 6, 7, 8, 9, 10, 12, 13, 15, 72, 73] (S7 ars t (.box [.ref 14, .ref 1, .v (.slice none 0 0), .ref 11] :: (a94 ars t pc vs bd [.tree (D.stmts []), .row 3 (D.ints (ao8 ars t m pc vs bd).fst), dT (ao8 ars t m pc vs bd).snd]))) ((2, iA m) :: (V3 ars t pc vs [(10, .ptr 10 0), (11, .ref 15), (12, .tref 13)])) fun G => b6 (wp_seq (j7 G (s7 7 [14, 1, 11, 6] (hI t.els m (l0 pc (i9 vs ars 5 (v9 t.value))) ((l9 ars t.body m (l0 pc (i9 vs ars 5 (v9 t.value))) ((d8 ars pc t.value (vs, bd)).fst.fst, [])).fst) ((d8 ars pc t.value (vs, bd)).fst.snd) (by assumption) ((b69 hbb hh k3 hv r1 r2).1) ((b69 hbb hh k3 hv r1 r2).2) (by omega))) [0, 1, 2, 3, 4, 5, 6, 7, 8, 9, 10, 11, 12, 15, 72, 73] (S7 ars t (.box [.ref 14, .ref 1, .v (.slice none 0 0), .ref 11] :: (a94 ars t pc vs bd [dT (ao8 ars t m pc vs bd).snd, .row 3 (D.ints (ao7 ars t m pc vs bd).fst), dT (ao7 ars t m pc vs bd).snd]))) ((2, iA m) :: (V3 ars t pc vs [(10, .ptr 10 0), (11, .ref 13), (12, .ref 15)])) fun G => b6 (wp_seq (N0 G d9 [0, 1, 2, 3, 4, 5, 6, 7, 8, 9, 10, 12, 14, 72] (S7 ars t [.box [.ref 12, .ref 1, .v (.slice none 0 0), .ref 13], .box (sL t 3), T6, .box [iA (d8 ars pc t.value (vs, bd)).snd.kind, iA (d8 ars pc t.value (vs, bd)).snd.value, .ref 11], dE (d8 ars pc t.value (vs, bd)).snd.kids, .row 3 (D.ints (ao7 ars t m pc vs bd).fst), .row 106 (D.stmts ((d8 ars pc t.value (vs, bd)).fst.snd ++ ([c5.mk 3 0 (c6.mk 0 0 []) (aT0 ars t pc vs bd) 0 (ao8 ars t m pc vs bd).snd (ao7 ars t m pc vs bd).snd] ++ [])))]) ((2, iA m) :: (V3 ars t pc vs [(10, .ptr 10 0)])) (aP ((d8 ars pc t.value (vs, bd)).fst.snd.length + 1) 152 []) (aK (by omega) ci3) fun G => ?_))))))))
   refine b6 (wp_seq (j7 G d9 (rg 14) (S7 ars t [.box [.ref 12, .ref 1, .v (.slice none 0 0), .ref 13], .box (sL t 3), .box [.ref 12, .ref 1, .v (.slice none 0 0), .ref 13], .box [iA (d8 ars pc t.value (vs, bd)).snd.kind, iA (d8 ars pc t.value (vs, bd)).snd.value, .ref 11], dE (d8 ars pc t.value (vs, bd)).snd.kids, .row 3 (D.ints (ao7 ars t m pc vs bd).fst), .row 106 (D.stmts ((d8 ars pc t.value (vs, bd)).fst.snd ++ ([c5.mk 3 0 (c6.mk 0 0 []) (aT0 ars t pc vs bd) 0 (ao8 ars t m pc vs bd).snd (ao7 ars t m pc vs bd).snd] ++ [])))]) ((2, iA m) :: (V3 ars t pc vs [(10, .ptr 10 0)])) fun G => b6 (wp_ret (l4 ?_)))); exact K2 G [0, 1, 2, 3, 4, 5, 6, 12, 13] (by show _ = mR [0, 1, 2, 3, 4, 5, 6, 12, 13] (S7 ars t [.row 3 (D.ints (G3 ars t m pc (vs, bd)).fst), .row 106 (D.stmts (G3 ars t m pc (vs, bd)).snd)]); have e1 : ((G3 ars t m pc (vs, bd)).fst : List Int) = ((l9 ars t.els m (l0 pc (i9 vs ars 5 (v9 t.value))) ((l9 ars t.body m (l0 pc (i9 vs ars 5 (v9 t.value))) ((d8 ars pc t.value (vs, bd)).fst.fst, [])).fst, [])).fst) := (b72 k3 (by with_reducible assumption)); have e2 : ((G3 ars t m pc (vs, bd)).snd : List c5) = ((d8 ars pc t.value (vs, bd)).fst.snd ++ ([c5.mk 3 0 (c6.mk 0 0 []) (aT0 ars t pc vs bd) 0 (ao8 ars t m pc vs bd).snd (ao7 ars t m pc vs bd).snd] ++ [])) := (congrArg Prod.snd (b73 k3 (by with_reducible assumption))); (first | rw [e1, e2] | simp only [e1, e2]) <;> rfl)
abbrev xB (ars : List Int) (m pc : Int) (vs : List Int) (bd : List c5) (ss : List c5) (k : Nat) : LnS := l9 ars (ss.take k) m pc (vs, bd)
theorem bI0 {ss : List c5} {k : Nat} (hk : k < ss.length) : j5 (ss.take k) + (1 + J7 (ss.getD k cg8)) ≤ j5 ss := by
 have h1 := v8 (ss.take (k + 1)) (ss.drop (k + 1))
 rw [List.take_append_drop, m6 _ _ hk, v8, ← m0 (d := cg8) hk] at h1
 simp only [j5] at h1
 omega
section
variable {ars vs : List Int} {bd : List c5} {m pc : Int} {ss : List c5} {nv d k : Nat}
theorem b08 (hs : ss.all (j6 nv ars.length d) = true) (hv : nv ≤ vs.length) : GrS (j5 (ss.take k)) (vs, bd) (xB ars m pc vs bd ss k) :=
 aX1 ars (ss.take k) m pc (vs, bd) (ch8.2 fun x hx => ch8.1 hs x (List.mem_of_mem_take hx)) hv
theorem aN2 (hs : ss.all (j6 nv ars.length d) = true) (hv : nv ≤ vs.length) (r1 : vs.length + 4 * j5 ss ≤ 90000) (r2 : j5 bd + 130 * j5 ss ≤ 600000) (hk : k < ss.length) : nv ≤ (xB ars m pc vs bd ss k).1.length ∧ (xB ars m pc vs bd ss k).1.length + 4 * (1 + J7 (ss.getD k cg8)) ≤ 90000 ∧ j5 (xB ars m pc vs bd ss k).2 + 130 * (1 + J7 (ss.getD k cg8)) ≤ 600000 := by
 have g := b08 (bd := bd) (m := m) (pc := pc) (k := k) hs hv
 have h1 := bI0 hk
 have a := g.lo; have b := g.hi; have c := g.st
 simp only at a b c
 omega
abbrev yB (ars : List Int) (m pc : Int) (vs : List Int) (bd : List c5) (ss : List c5) (k : Nat) : LnS × c6 := d8 ars pc (ss.getD k cg8).value ((xB ars m pc vs bd ss k).1, (xB ars m pc vs bd ss k).2)
theorem aZ6 (hs : ss.all (j6 nv ars.length (d + 1)) = true) (hv : nv ≤ vs.length) (r1 : vs.length + 4 * j5 ss ≤ 90000) (r2 : j5 bd + 130 * j5 ss ≤ 600000) (hk : k < ss.length) (h4 : ¬ (ss.getD k cg8).kind = 4) :
  f8 (xB ars m pc vs bd ss k).1.length ars.length 5 (ss.getD k cg8).value = true ∧ (xB ars m pc vs bd ss k).1.length + (1 + z5 (ss.getD k cg8).value) ≤ 100000 ∧ j5 (xB ars m pc vs bd ss k).2 + 40 * (1 + z5 (ss.getD k cg8).value) ≤ 700000 ∧
  nv ≤ (yB ars m pc vs bd ss k).1.1.length ∧ (yB ars m pc vs bd ss k).1.1.length ≤ 100000 ∧ (yB ars m pc vs bd ss k).1.2.length + 10 ≤ 700000 ∧ f8 (yB ars m pc vs bd ss k).1.1.length ars.length 5 (yB ars m pc vs bd ss k).2 = true := by
 have hb := aN2 (m := m) (pc := pc) hs hv r1 r2 hk
 have hh := (aK9 hs hk).1
 have hsz : J7 (ss.getD k cg8) = z5 (ss.getD k cg8).index + z5 (ss.getD k cg8).value + j5 (ss.getD k cg8).body + j5 (ss.getD k cg8).els := by
  generalize ss.getD k cg8 = s; cases s; rfl
 have hsh := E1 (na := ars.length) hb.1 5 _ (z7 hh h4)
 obtain ⟨g, g2, -⟩ := al6 ars pc ars.length 5 (ss.getD k cg8).value (xB ars m pc vs bd ss k) hsh
 have a : (xB ars m pc vs bd ss k).1.length ≤ (yB ars m pc vs bd ss k).1.1.length := g.lo
 have b : (yB ars m pc vs bd ss k).1.1.length ≤ (xB ars m pc vs bd ss k).1.length + (1 + z5 (ss.getD k cg8).value) := g.hi
 have c : j5 (yB ars m pc vs bd ss k).1.2 ≤ j5 (xB ars m pc vs bd ss k).2 + 40 * (1 + z5 (ss.getD k cg8).value) := g.st
 have h5 := K6 (yB ars m pc vs bd ss k).1.2
 exact ⟨hsh, by omega, by omega, by omega, by omega, by omega, g2⟩
theorem bu3 (hs : ss.all (j6 nv ars.length (d + 1)) = true) (hk : k < ss.length) (h2 : (ss.getD k cg8).kind = 2) {n : Nat} (hn : nv ≤ n) : f8 n ars.length 5 (ss.getD k cg8).index = true ∧ z5 (ss.getD k cg8).index ≤ 1048576 := by
 obtain ⟨q1, -, q3⟩ := aK0 (aK9 hs hk).1 h2
 exact ⟨E1 hn 5 _ q3, by rw [aD0 q1]; omega⟩
theorem aF3 (hk : k < ss.length) : xB ars m pc vs bd ss (k + 1) = G3 ars (ss.getD k cg8) m pc (xB ars m pc vs bd ss k) := br1 hk
theorem ai4 (s : c5) : j5 s.body ≤ J7 s ∧ j5 s.els ≤ J7 s ∧ z5 s.value ≤ J7 s := by
 cases s; simp only [J7, c5.body, c5.els, c5.value]; omega
abbrev sK (ss : List c5) (k : Nat) : c5 := ss.getD k cg8
theorem aE4 (hs : ss.all (j6 nv ars.length (d + 1)) = true) (hk : k < ss.length) (h3 : ¬ (sK ss k).kind = 3) (h4 : ¬ (sK ss k).kind = 4) (h5 : ¬ (sK ss k).kind = 5) (h1 : ¬ (sK ss k).kind = 1) : (sK ss k).kind = 2 := by
 by_cases h2 : (sK ss k).kind = 2
 ·exact h2
 ·have hh := (aK9 hs hk).1
  rw [ao1 ⟨h1, h2, h3, h4, h5⟩] at hh; cases hh
theorem b12 (hk : k < ss.length) (h4 : (sK ss k).kind = 4) : xB ars m pc vs bd ss (k + 1) = ((l9 ars (sK ss k).body m pc ((xB ars m pc vs bd ss k).1, [])).1, (xB ars m pc vs bd ss k).2 ++ [⟨4, 0, ⟨0, 0, []⟩, ⟨0, 0, []⟩, (sK ss k).count, (l9 ars (sK ss k).body m pc ((xB ars m pc vs bd ss k).1, [])).2, []⟩]) := (aF3 hk).trans (ln4 h4)
theorem b10 (hk : k < ss.length) (h5 : (sK ss k).kind = 5) : xB ars m pc vs bd ss (k + 1) = ((yB ars m pc vs bd ss k).1.1, (yB ars m pc vs bd ss k).1.2 ++ [⟨5, (sK ss k).target, ⟨0, 0, []⟩, etE (yB ars m pc vs bd ss k).2, 0, [], []⟩]) := by
 rw [show etE (yB ars m pc vs bd ss k).2 = (yB ars m pc vs bd ss k).2 from c6.eta _]
 exact (aF3 hk).trans (ln5 h5)
theorem b15 (hk : k < ss.length) (h1 : (sK ss k).kind = 1) : xB ars m pc vs bd ss (k + 1) = ((yB ars m pc vs bd ss k).1.1, (yB ars m pc vs bd ss k).1.2 ++ [W0 (sK ss k).target (etE (B8 m (etE (yB ars m pc vs bd ss k).2) ⟨2, (sK ss k).target, []⟩))]) := by
 rw [show etE (yB ars m pc vs bd ss k).2 = (yB ars m pc vs bd ss k).2 from c6.eta _, show ∀ e, etE e = e from c6.eta]
 exact (aF3 hk).trans (ln1 h1)
theorem bP9 (hk : k < ss.length) (h2 : (sK ss k).kind = 2) (h : (i7 (i9 (yB ars m pc vs bd ss k).1.1 ars 5 (etE (sK ss k).index)) && decide (i9 (yB ars m pc vs bd ss k).1.1 ars 5 (etE (sK ss k).index) % 2 = 1)) = false) : xB ars m pc vs bd ss (k + 1) = ((yB ars m pc vs bd ss k).1.1, (yB ars m pc vs bd ss k).1.2 ++ [⟨2, (sK ss k).target, etE (sK ss k).index, etE (B8 m (etE (yB ars m pc vs bd ss k).2) ⟨3, (sK ss k).target, [etE (sK ss k).index]⟩), 0, [], []⟩]) := by
 simp only [show ∀ e, etE e = e from c6.eta] at h ⊢
 exact (aF3 hk).trans (b63 h2 h)
theorem bP8 (hk : k < ss.length) (h2 : (sK ss k).kind = 2) (h : (i7 (i9 (yB ars m pc vs bd ss k).1.1 ars 5 (etE (sK ss k).index)) && decide (i9 (yB ars m pc vs bd ss k).1.1 ars 5 (etE (sK ss k).index) % 2 = 1)) = true) : xB ars m pc vs bd ss (k + 1) = ((yB ars m pc vs bd ss k).1.1 ++ [l0 (i9 (yB ars m pc vs bd ss k).1.1 ars 5 (etE (yB ars m pc vs bd ss k).2)) pc], (yB ars m pc vs bd ss k).1.2 ++ [W0 ((yB ars m pc vs bd ss k).1.1.length : Int) (etE (yB ars m pc vs bd ss k).2)] ++ stL ((yB ars m pc vs bd ss k).1.1.length : Int) (sK ss k).target (etE (sK ss k).index) m 4) := by
 simp only [show ∀ e, etE e = e from c6.eta] at h ⊢
 exact (aF3 hk).trans (b62 h2 h)
theorem b11 (hk : k < ss.length) (h4 : (sK ss k).kind = 4) : (xB ars m pc vs bd ss (k + 1)).1 = (l9 ars (sK ss k).body m pc ((xB ars m pc vs bd ss k).1, [])).1 := by rw [b12 hk h4]
theorem b09 (hk : k < ss.length) (h5 : (sK ss k).kind = 5) : (xB ars m pc vs bd ss (k + 1)).1 = (yB ars m pc vs bd ss k).1.1 := by rw [b10 hk h5]
theorem b14 (hk : k < ss.length) (h1 : (sK ss k).kind = 1) : (xB ars m pc vs bd ss (k + 1)).1 = (yB ars m pc vs bd ss k).1.1 := by rw [b15 hk h1]
theorem b13 (hk : k < ss.length) (h2 : (sK ss k).kind = 2) (h : (i7 (i9 (yB ars m pc vs bd ss k).1.1 ars 5 (etE (sK ss k).index)) && decide (i9 (yB ars m pc vs bd ss k).1.1 ars 5 (etE (sK ss k).index) % 2 = 1)) = false) : (xB ars m pc vs bd ss (k + 1)).1 = (yB ars m pc vs bd ss k).1.1 := by rw [bP9 hk h2 h]
theorem bu9 (hk : ss.length ≤ k) : l9 ars ss m pc (vs, bd) = xB ars m pc vs bd ss k := by unfold xB; rw [ci6 hk]
end
abbrev X5 (ars : List Int) (ss : List c5) (m : Int) (pc : Int) (vs : List Int) (bd : List c5) (k : Nat) := v9 (d8 ars pc (ss.getD k cg8).value (xB ars m pc vs bd ss k)).snd
abbrev y5 (ars : List Int) (ss : List c5) (m : Int) (pc : Int) (vs : List Int) (bd : List c5) (k : Nat) := d8 ars pc (ss.getD k cg8).value (xB ars m pc vs bd ss k)
abbrev bh7 (ars : List Int) (ss : List c5) (m : Int) (pc : Int) (vs : List Int) (bd : List c5) (k : Nat) := B8 m (X5 ars ss m pc vs bd k) (c6.mk 3 (ss.getD k cg8).target [v9 (ss.getD k cg8).index])
abbrev ak9 (ss : List c5) (k : Nat) := v9 (ss.getD k cg8).index
abbrev O0 : It := .box [.v (.slice none 0 0), .v (.slice none 0 0), .v (.slice none 0 0), .v (.slice none 0 0)]
abbrev ae0 : It := .box [.ref 6, .ref 1, .v (.slice none 0 0), .ref 7]
abbrev I9 (m : Int) (pc : Int) (r0 : List (Nat × AV)) : List (Nat × AV) := (1, .ref 2) :: (2, iA m) :: (3, iA pc) :: (4, .ptr 4 0) :: (8, .ptr 5 0) :: r0
abbrev ao4 (ss : List c5) (k : Nat) (r0 : List It) : List It := dE (ss.getD k cg8).index.kids :: dE (ss.getD k cg8).value.kids :: dT (ss.getD k cg8).body :: dT (ss.getD k cg8).els :: r0
abbrev aS5 (ars : List Int) (ss : List c5) (m : Int) (pc : Int) (vs : List Int) (bd : List c5) (k : Nat) (r0 : List It) : List It := .dead :: dI ars :: dT ss :: .dead :: ae0 :: O0 :: .row 3 (D.ints (xB ars m pc vs bd ss k).fst) :: .row 106 (D.stmts (xB ars m pc vs bd ss k).snd) :: r0
theorem aQ2 (ars : List Int) (nv dd : Nat) (ss : List c5) (hs : ss.all (j6 nv ars.length (dd + 1)) = true)
    (hF : ∀ (t : c5), t.kind = 3 → D2 nv ars.length t = true → t.body.all (j6 nv ars.length dd) = true → t.els.all (j6 nv ars.length dd) = true → 0 < ss.length → ∀ (m pc : Int) (vs : List Int) (bd : List c5), nv ≤ vs.length → vs.length + 4 * (1 + J7 t) ≤ 90000 → j5 bd + 130 * (1 + J7 t) ≤ 600000 → j8.ok Tryz.prog (b64 ars m pc vs bd t))
    (hI : ∀ (tt : List c5) (m pc : Int) (vs : List Int) (bd : List c5), tt.all (j6 nv ars.length dd) = true → 0 < ss.length → nv ≤ vs.length → vs.length + 4 * j5 tt ≤ 90000 → 130 * j5 tt ≤ 600000 → j8.ok Tryz.prog (bL7 ars m pc vs bd tt))
    (m pc : Int) (vs : List Int) (bd : List c5) (hv : nv ≤ vs.length) (r1 : vs.length + 4 * j5 ss ≤ 90000) (r2 : j5 bd + 130 * j5 ss ≤ 600000) : j8.ok Tryz.prog (lbC ars m pc vs bd ss) := by
  have hcp := bN6; refine E2 123 Tryz.func79 [.row 3 (D.ints vs), dI ars, dT ss, .row 106 (D.stmts bd)] [(0, .agg [.ref 0, .ref 1, .v (.slice none 0 0), .ref 3]), (1, .ref 2), (2, iA m), (3, iA pc)] fun G => ?_; have hl := K6 ss; refine wp_seq (j7 G d9 [0, 1, 2, 3, 4, 12] [.row 3 (D.ints vs), dI ars, dT ss, .row 106 (D.stmts bd), .box [.ref 0, .ref 1, .v (.slice none 0 0), .ref 3], O0] (I9 m pc []) fun G => b6 (wp_seq (wp_seq (C6 G d9 (I9 m pc [(9, iA 0)]) fun G => b6 (wp_block ?_))))); obtain ⟨ρ, G⟩ := G.shift 0 6 [.dead, dI ars, dT ss, .row 106 (D.stmts bd), .box [.ref 6, .ref 1, .v (.slice none 0 0), .ref 3], .box [.v (.slice none 0 0), .v (.slice none 0 0), .v (.slice none 0 0), .v (.slice none 0 0)], .row 3 (D.ints vs)] (I9 m pc [(9, iA 0)]); obtain ⟨ρ, G⟩ := G.shift 3 7 [.dead, dI ars, dT ss, .dead, .box [.ref 6, .ref 1, .v (.slice none 0 0), .ref 7], .box [.v (.slice none 0 0), .v (.slice none 0 0), .v (.slice none 0 0), .v (.slice none 0 0)], .row 3 (D.ints vs), .row 106 (D.stmts bd)] (I9 m pc [(9, iA 0)]); refine s6 (κ := Nat) (fun k => k ≤ ss.length) (fun k => ss.length - k) (fun k => [.dead, dI ars, dT ss, .dead, .box [.ref 6, .ref 1, .v (.slice none 0 0), .ref 7], .box [.v (.slice none 0 0), .v (.slice none 0 0), .v (.slice none 0 0), .v (.slice none 0 0)], .row 3 (.ints (xB ars m pc vs bd ss k).1), .row 106 (.stmts (xB ars m pc vs bd ss k).2)]) (fun k => [(1, .ref 2), (2, iA m), (3, iA pc), (4, .ptr 4 0), (8, .ptr 5 0), (9, iA k)]) 0 (by omega) (t4.at G _ _) ?_; clear G; intro k ρ a w hp G; replace G := t4.at G (aS5 ars ss m pc vs bd k []) (I9 m pc [(9, iA k)]); refine wp_seq (wp_seq (k8 G d9 [(16, bA (decide ((k : Int) < ss.length)))] fun G => b6 (Z6 G (fun h0 q0 => ?_) fun h0 q0 => ?_)))
  · refine wp_exit (r7 (r7 (p6 (b6 (wp_seq (j7 G d9 [0, 1, 2, 3, 5, 6, 7] [.dead, dI ars, dT ss, .dead, .box [.ref 5, .ref 1, .v (.slice none 0 0), .ref 6], .row 3 (D.ints (xB ars m pc vs bd ss k).fst), .row 106 (D.stmts (xB ars m pc vs bd ss k).snd)] [(8, .ptr 4 0)] fun G => b6 (wp_ret ?_))))))); exact K2 G [0, 1, 2, 3, 5, 6] (by show _ = mR [0, 1, 2, 3, 5, 6] [.dead, dI ars, dT ss, .dead, .row 3 (D.ints (l9 ars ss m pc (vs, bd)).fst), .row 106 (D.stmts (l9 ars ss m pc (vs, bd)).snd)]; have e1 : ((l9 ars ss m pc (vs, bd)).fst : List Int) = ((xB ars m pc vs bd ss k).fst) := (congrArg Prod.fst (bu9 (by omega))); have e2 : ((l9 ars ss m pc (vs, bd)).snd : List c5) = ((xB ars m pc vs bd ss k).snd) := (congrArg Prod.snd (bu9 (by omega))); (first | rw [e1, e2] | simp only [e1, e2]) <;> rfl)
  ·
   refine wp_skip (b6 (wp_seq (wp_block (wp_seq (N0 G d9 [0, 1, 2, 3, 4, 5, 6, 7, 32, 33, 34, 35, 40] (aS5 ars ss m pc vs bd k (ao4 ss k [.box (sL (ss.getD k cg8) 8)])) (I9 m pc [(9, iA k), (10, .ptr 12 0)]) (iX k k ss.length []) (iK (by omega) ci3) fun G => b6 (wp_seq (wp_seq (k8 G d9 [(25, bA ((ss.getD k cg8).kind == 3))] fun G => b6 (J1 G (fun h1 q1 => ?_) fun h1 q1 => ?_)))))))))
   ·
    refine wp_skip (b6 (wp_seq (wp_seq (k8 G d9 [(33, bA ((ss.getD k cg8).kind == 4))] fun G => b6 (J1 G (fun h2 q2 => ?_) fun h2 q2 => ?_)))))
    ·
     refine wp_skip (b6 (wp_seq (j7 G d9 [0, 1, 2, 3, 4, 5, 6, 7, 8, 9, 10, 11, 12, 21] (aS5 ars ss m pc vs bd k (ao4 ss k [.box (sL (ss.getD k cg8) 8), .box [iA 0, iA 0, .v (.slice none 0 0)]])) (I9 m pc [(9, iA k), (10, .ptr 12 0), (12, .ptr 13 0)]) fun G => b6 (wp_seq (j7 G (s7 4 [6, 1, 7, 9] (a77 ars pc ((ss.getD k cg8).value) ((xB ars m pc vs bd ss k).fst) ((xB ars m pc vs bd ss k).snd) ((aZ6 hs hv r1 r2 (by omega) (by omega)).1) (by have h9 := aN2 (m := m) (pc := pc) hs hv r1 r2 (show k < ss.length by omega); have h8 := ai4 (ss.getD k cg8); omega) (by have h9 := aN2 (m := m) (pc := pc) hs hv r1 r2 (show k < ss.length by omega); have h8 := ai4 (ss.getD k cg8); omega))) [0, 1, 2, 3, 4, 5, 8, 9, 10, 11, 12, 13, 46, 47, 48] (.dead :: dI ars :: dT ss :: .dead :: .box [.ref 12, .ref 1, .v (.slice none 0 0), .ref 13] :: O0 :: (ao4 ss k [.box (sL (ss.getD k cg8) 6), .box (eL (y5 ars ss m pc vs bd k).snd 14), .row 3 (D.ints (y5 ars ss m pc vs bd k).fst.fst), .row 106 (D.stmts (y5 ars ss m pc vs bd k).fst.snd), dE (y5 ars ss m pc vs bd k).snd.kids])) (I9 m pc [(9, iA k), (10, .ptr 10 0), (12, .ptr 11 0)]) fun G => b6 (wp_block (wp_seq (k8 G d9 [(82, bA ((ss.getD k cg8).kind == 5))] fun G => b6 (J1 G (fun h3 q3 => ?_) fun h3 q3 => ?_)))))))))
     ·
      refine wp_seq (k8 G d9 [(95, bA ((ss.getD k cg8).kind == 1))] fun G => b6 (J1 G (fun h4 q4 => ?_) fun h4 q4 => ?_))
      ·
       refine wp_seq (k8 G (E9 (t3 4 [12, 1, 6] (j8.lend (aa7 ((d8 ars pc (ss.getD k cg8).value (xB ars m pc vs bd ss k)).fst.fst) ars ((ss.getD k cg8).index.kind) ((ss.getD k cg8).index.value) ((ss.getD k cg8).index.kids) (by rw [c6.eta]; exact (bu3 hs (by omega) (aE4 hs (by omega) (by omega) (by omega) (by omega) (by omega)) (aZ6 hs hv r1 r2 (by omega) (by omega)).2.2.2.1).1)) [.row 3]) (t3 5 [] (I8 (i9 (d8 ars pc (ss.getD k cg8).value (xB ars m pc vs bd ss k)).fst.fst ars 5 (v9 (ss.getD k cg8).index))) E8)) fz []) [(109, bA (i7 (i9 (y5 ars ss m pc vs bd k).fst.fst ars 5 (ak9 ss k)) && decide (i9 (y5 ars ss m pc vs bd k).fst.fst ars 5 (ak9 ss k) % 2 = 1)))] fun G => b6 ?_); cases h5 : (i7 (i9 (d8 ars pc (ss.getD k cg8).value (xB ars m pc vs bd ss k)).fst.fst ars (5 : Nat) (v9 (ss.getD k cg8).index)) && decide (i9 (d8 ars pc (ss.getD k cg8).value (xB ars m pc vs bd ss k)).fst.fst ars (5 : Nat) (v9 (ss.getD k cg8).index) % (2 : Int) = 1))
       ·
        have q5 : ((i7 (i9 (d8 ars pc (ss.getD k cg8).value (xB ars m pc vs bd ss k)).fst.fst ars 5 (v9 (ss.getD k cg8).index))) = false) ∨ (¬ (i9 (d8 ars pc (ss.getD k cg8).value (xB ars m pc vs bd ss k)).fst.fst ars 5 (v9 (ss.getD k cg8).index) % 2 = 1)) := Or.imp (fun hq => (hq)) (fun hq => of_decide_eq_false hq) (Bool.and_eq_false_iff.1 h5); refine rF G _ h5 (N5 G (E9 (t3 6 [6] (hcp ((ss.getD k cg8).index) ((bu3 hs (by omega) (aE4 hs (by omega) (by omega) (by omega) (by omega) (by omega)) (ch5 _)).2)) (t3 13 [6] (hcp ((ss.getD k cg8).index) ((bu3 hs (by omega) (aE4 hs (by omega) (by omega) (by omega) (by omega) (by omega)) (ch5 _)).2)) (t3 14 [119] (au0 ((ss.getD k cg8).target) ((ss.getD k cg8).index.kind) ((ss.getD k cg8).index.value) ((ss.getD k cg8).index.kids)) (t3 15 [14, 127] (ak4 m ((d8 ars pc (ss.getD k cg8).value (xB ars m pc vs bd ss k)).snd.kind) ((d8 ars pc (ss.getD k cg8).value (xB ars m pc vs bd ss k)).snd.value) 3 ((ss.getD k cg8).target) ((d8 ars pc (ss.getD k cg8).value (xB ars m pc vs bd ss k)).snd.kids) ([v9 (ss.getD k cg8).index])) E8)))) fz []) [0, 1, 0, 4, 0, 16, 48, 0, 0, 0, 512, 0, 2048, 6256, 15984, 32752, 65532, 131068, 262143, 524287, 1048575] [0, 1, 2, 3, 4, 5, 12, 159] [.dead, dI ars, dT ss, .dead, ae0, O0, .row 3 (D.ints (y5 ars ss m pc vs bd k).fst.fst), .row 106 (D.stmts ((y5 ars ss m pc vs bd k).fst.snd ++ ([c5.mk 2 (ss.getD k cg8).target (ak9 ss k) (v9 (bh7 ars ss m pc vs bd k)) 0 [] []] ++ [])))] (I9 m pc [(9, iA k)]) (aP ((d8 ars pc (ss.getD k cg8).value (xB ars m pc vs bd ss k)).fst.snd.length + ([c5.mk (2 : Int) (ss.getD k cg8).target (v9 (ss.getD k cg8).index) (v9 (B8 m (c6.mk (d8 ars pc (ss.getD k cg8).value (xB ars m pc vs bd ss k)).snd.kind (d8 ars pc (ss.getD k cg8).value (xB ars m pc vs bd ss k)).snd.value (d8 ars pc (ss.getD k cg8).value (xB ars m pc vs bd ss k)).snd.kids) (c6.mk (3 : Int) (ss.getD k cg8).target [c6.mk (ss.getD k cg8).index.kind (ss.getD k cg8).index.value (ss.getD k cg8).index.kids]))) (0 : Int) [] []] ++ []).length) 152 []) (aK (by have h9 : (d8 ars pc (ss.getD k cg8).value ((xB ars m pc vs bd ss k).1, (xB ars m pc vs bd ss k).2)).1.2.length + 10 ≤ 700000 := (aZ6 (m := m) (pc := pc) hs hv r1 r2 (show k < ss.length by omega) (by omega)).2.2.2.2.2.1; have h7 : (d8 ars pc (ss.getD k cg8).value (xB ars m pc vs bd ss k)).1.2.length + 10 ≤ 700000 := h9; simp only [ch4, ch7, ci2]; omega) ci3) fun G => ?_)
        refine k6 (k6 (b6 (D0 G d9 [(9, iA ((k : Int) + 1))] [wO ((k : Int) + 1)] (o1 (by omega)) fun G => b6 ?_))); exact H9 G (k + 1) (by omega) (by omega) (rg 8) (by have e1 : ((xB ars m pc vs bd ss (k + 1)).fst : List Int) = ((d8 ars pc (ss.getD k cg8).value (xB ars m pc vs bd ss k)).fst.fst) := (b13 (by omega) (aE4 hs (by omega) (by omega) (by omega) (by omega) (by omega)) (by with_reducible assumption)); have e2 : ((xB ars m pc vs bd ss (k + 1)).snd : List c5) = ((y5 ars ss m pc vs bd k).fst.snd ++ ([c5.mk 2 (ss.getD k cg8).target (ak9 ss k) (v9 (bh7 ars ss m pc vs bd k)) 0 [] []] ++ [])) := (congrArg Prod.snd (bP9 (by omega) (aE4 hs (by omega) (by omega) (by omega) (by omega) (by omega)) (by with_reducible assumption))); (first | rw [e1, e2] | simp only [e1, e2]) <;> rfl)
       · have q5 : ((i7 (i9 (d8 ars pc (ss.getD k cg8).value (xB ars m pc vs bd ss k)).fst.fst ars 5 (v9 (ss.getD k cg8).index))) = true) ∧ (i9 (d8 ars pc (ss.getD k cg8).value (xB ars m pc vs bd ss k)).fst.fst ars 5 (v9 (ss.getD k cg8).index) % 2 = 1) := And.imp (fun hq => (hq)) (fun hq => of_decide_eq_true hq) (Bool.and_eq_true_iff.1 h5); refine rT G _ h5 (j7 G (s7 5 [12, 1, 13, 6, 7, 8, 9, 14] (bs3 ars ((d8 ars pc (ss.getD k cg8).value (xB ars m pc vs bd ss k)).fst.fst) ((d8 ars pc (ss.getD k cg8).value (xB ars m pc vs bd ss k)).fst.snd) m pc (ss.getD k cg8) ((d8 ars pc (ss.getD k cg8).value (xB ars m pc vs bd ss k)).snd) (by rw [c6.eta]; exact (aZ6 hs hv r1 r2 (by omega) (by omega)).2.2.2.2.2.2) ((aZ6 hs hv r1 r2 (by omega) (by omega)).2.2.2.2.1) (by have h9 : (d8 ars pc (ss.getD k cg8).value ((xB ars m pc vs bd ss k).1, (xB ars m pc vs bd ss k).2)).1.2.length + 10 ≤ 700000 := (aZ6 (m := m) (pc := pc) hs hv r1 r2 (show k < ss.length by omega) (by omega)).2.2.2.2.2.1; have h7 : (d8 ars pc (ss.getD k cg8).value (xB ars m pc vs bd ss k)).1.2.length + 10 ≤ 700000 := h9; omega))) [0, 1, 2, 3, 4, 5, 55, 56] [.dead, dI ars, dT ss, .dead, ae0, O0, .row 3 (D.ints ((y5 ars ss m pc vs bd k).fst.fst ++ [l0 (i9 (y5 ars ss m pc vs bd k).fst.fst ars 5 (X5 ars ss m pc vs bd k)) pc])), .row 106 (D.stmts ((y5 ars ss m pc vs bd k).fst.snd ++ [W0 ((y5 ars ss m pc vs bd k).fst.fst.length : Int) (X5 ars ss m pc vs bd k)] ++ stL ((y5 ars ss m pc vs bd k).fst.fst.length : Int) (ss.getD k cg8).target (ak9 ss k) m 4))] (I9 m pc [(9, iA k)]) fun G => k6 (k6 (b6 (D0 G d9 [(9, iA ((k : Int) + 1))] [wO ((k : Int) + 1)] (o1 (by omega)) fun G => b6 ?_)))); exact H9 G (k + 1) (by omega) (by omega) (rg 8) (by have e1 : ((xB ars m pc vs bd ss (k + 1)).fst : List Int) = ((y5 ars ss m pc vs bd k).fst.fst ++ [l0 (i9 (y5 ars ss m pc vs bd k).fst.fst ars 5 (X5 ars ss m pc vs bd k)) pc]) := (congrArg Prod.fst (bP8 (by omega) (aE4 hs (by omega) (by omega) (by omega) (by omega) (by omega)) (by with_reducible assumption))); have e2 : ((xB ars m pc vs bd ss (k + 1)).snd : List c5) = ((y5 ars ss m pc vs bd k).fst.snd ++ [W0 ((y5 ars ss m pc vs bd k).fst.fst.length : Int) (X5 ars ss m pc vs bd k)] ++ stL ((y5 ars ss m pc vs bd k).fst.fst.length : Int) (ss.getD k cg8).target (ak9 ss k) m 4) := (congrArg Prod.snd (bP8 (by omega) (aE4 hs (by omega) (by omega) (by omega) (by omega) (by omega)) (by with_reducible assumption))); (first | rw [e1, e2] | simp only [e1, e2]) <;> rfl)
      · refine ag9 G (E9 (t3 7 [] (am5 ((ss.getD k cg8).target)) (t3 8 [14, 71] (ak4 m ((d8 ars pc (ss.getD k cg8).value (xB ars m pc vs bd ss k)).snd.kind) ((d8 ars pc (ss.getD k cg8).value (xB ars m pc vs bd ss k)).snd.value) 2 ((ss.getD k cg8).target) ((d8 ars pc (ss.getD k cg8).value (xB ars m pc vs bd ss k)).snd.kids) ([])) (t3 9 [12, 1, 13, 79] (T2 ((d8 ars pc (ss.getD k cg8).value (xB ars m pc vs bd ss k)).fst.fst) ars ((d8 ars pc (ss.getD k cg8).value (xB ars m pc vs bd ss k)).fst.snd) ((ss.getD k cg8).target) ((B8 m (v9 (d8 ars pc (ss.getD k cg8).value (xB ars m pc vs bd ss k)).snd) (c6.mk 2 (ss.getD k cg8).target [])).kind) ((B8 m (v9 (d8 ars pc (ss.getD k cg8).value (xB ars m pc vs bd ss k)).snd) (c6.mk 2 (ss.getD k cg8).target [])).value) ((B8 m (v9 (d8 ars pc (ss.getD k cg8).value (xB ars m pc vs bd ss k)).snd) (c6.mk 2 (ss.getD k cg8).target [])).kids) (by have h9 : (d8 ars pc (ss.getD k cg8).value ((xB ars m pc vs bd ss k).1, (xB ars m pc vs bd ss k).2)).1.2.length + 10 ≤ 700000 := (aZ6 (m := m) (pc := pc) hs hv r1 r2 (show k < ss.length by omega) (by omega)).2.2.2.2.2.1; have h7 : (d8 ars pc (ss.getD k cg8).value (xB ars m pc vs bd ss k)).1.2.length + 10 ≤ 700000 := h9; omega)) E8))) fz []) [0, 0, 2, 0, 0, 0, 32, 96, 248, 511, 1023] [0, 1, 2, 3, 4, 5, 12, 87] [.dead, dI ars, dT ss, .dead, ae0, O0, .row 3 (D.ints (y5 ars ss m pc vs bd k).fst.fst), .row 106 (D.stmts ((y5 ars ss m pc vs bd k).fst.snd ++ [W0 (ss.getD k cg8).target (v9 (B8 m (X5 ars ss m pc vs bd k) (c6.mk 2 (ss.getD k cg8).target [])))]))] (I9 m pc [(9, iA k)]) fun G => k6 (k6 (b6 (D0 G d9 [(9, iA ((k : Int) + 1))] [wO ((k : Int) + 1)] (o1 (by omega)) fun G => b6 ?_))); exact H9 G (k + 1) (by omega) (by omega) (rg 8) (by have e1 : ((xB ars m pc vs bd ss (k + 1)).fst : List Int) = ((d8 ars pc (ss.getD k cg8).value (xB ars m pc vs bd ss k)).fst.fst) := (b14 (by omega) (by omega)); have e2 : ((xB ars m pc vs bd ss (k + 1)).snd : List c5) = ((y5 ars ss m pc vs bd k).fst.snd ++ [W0 (ss.getD k cg8).target (v9 (B8 m (X5 ars ss m pc vs bd k) (c6.mk 2 (ss.getD k cg8).target [])))]) := (congrArg Prod.snd (b15 (by omega) (by omega))); (first | rw [e1, e2] | simp only [e1, e2]) <;> rfl)
     · refine N0 G d9 [0, 1, 2, 3, 4, 5, 12, 71] [.dead, dI ars, dT ss, .dead, ae0, O0, .row 3 (D.ints (y5 ars ss m pc vs bd k).fst.fst), .row 106 (D.stmts ((y5 ars ss m pc vs bd k).fst.snd ++ ([c5.mk 5 (ss.getD k cg8).target (c6.mk 0 0 []) (X5 ars ss m pc vs bd k) 0 [] []] ++ [])))] (I9 m pc [(9, iA k)]) (aP ((d8 ars pc (ss.getD k cg8).value (xB ars m pc vs bd ss k)).fst.snd.length + ([c5.mk (5 : Int) (ss.getD k cg8).target (c6.mk (0 : Int) (0 : Int) []) (v9 (d8 ars pc (ss.getD k cg8).value (xB ars m pc vs bd ss k)).snd) (0 : Int) [] []] ++ []).length) 152 []) (aK (by have h9 : (d8 ars pc (ss.getD k cg8).value ((xB ars m pc vs bd ss k).1, (xB ars m pc vs bd ss k).2)).1.2.length + 10 ≤ 700000 := (aZ6 (m := m) (pc := pc) hs hv r1 r2 (show k < ss.length by omega) (by omega)).2.2.2.2.2.1; have h7 : (d8 ars pc (ss.getD k cg8).value (xB ars m pc vs bd ss k)).1.2.length + 10 ≤ 700000 := h9; simp only [ch4, ch7, ci2]; omega) ci3) fun G => k6 (k6 (b6 (D0 G d9 [(9, iA ((k : Int) + 1))] [wO ((k : Int) + 1)] (o1 (by omega)) fun G => b6 ?_))); exact H9 G (k + 1) (by omega) (by omega) (rg 8) (by have e1 : ((xB ars m pc vs bd ss (k + 1)).fst : List Int) = ((d8 ars pc (ss.getD k cg8).value (xB ars m pc vs bd ss k)).fst.fst) := (b09 (by omega) (by omega)); have e2 : ((xB ars m pc vs bd ss (k + 1)).snd : List c5) = ((y5 ars ss m pc vs bd k).fst.snd ++ ([c5.mk 5 (ss.getD k cg8).target (c6.mk 0 0 []) (X5 ars ss m pc vs bd k) 0 [] []] ++ [])) := (congrArg Prod.snd (b10 (by omega) (by omega))); (first | rw [e1, e2] | simp only [e1, e2]) <;> rfl)
    ·
     refine wp_seq (j7 G d9 (rg 14) (aS5 ars ss m pc vs bd k (ao4 ss k [.box (sL (ss.getD k cg8) 8), .tree (D.stmts [])])) (I9 m pc [(9, iA k), (10, .ptr 12 0), (11, .tref 13)]) fun G => b6 (wp_seq (j7 G (s7 5 [6, 1, 7, 10] (hI ((ss.getD k cg8).body) m pc ((xB ars m pc vs bd ss k).fst) ((xB ars m pc vs bd ss k).snd) ((aK9 hs (by omega)).2.1) (by omega) (by have h9 := aN2 (m := m) (pc := pc) hs hv r1 r2 (show k < ss.length by omega); have h8 := ai4 (ss.getD k cg8); omega) (by have h9 := aN2 (m := m) (pc := pc) hs hv r1 r2 (show k < ss.length by omega); have h8 := ai4 (ss.getD k cg8); omega) (by have h9 := aN2 (m := m) (pc := pc) hs hv r1 r2 (show k < ss.length by omega); have h8 := ai4 (ss.getD k cg8); omega))) [0, 1, 2, 3, 4, 5, 7, 8, 9, 10, 11, 12, 54, 55] (.dead :: dI ars :: dT ss :: .dead :: .box [.ref 12, .ref 1, .v (.slice none 0 0), .ref 6] :: O0 :: .row 106 (D.stmts (xB ars m pc vs bd ss k).snd) :: (ao4 ss k [.box (sL (ss.getD k cg8) 7), .row 3 (D.ints (l9 ars (ss.getD k cg8).body m pc ((xB ars m pc vs bd ss k).fst, [])).fst), dT (l9 ars (ss.getD k cg8).body m pc ((xB ars m pc vs bd ss k).fst, [])).snd])) (I9 m pc [(9, iA k), (10, .ptr 11 0), (11, .ref 13)]) fun G => b6 (wp_seq (N0 G d9 [0, 1, 2, 3, 4, 5, 7, 8, 9, 10, 11, 12, 70] (.dead :: dI ars :: dT ss :: .dead :: .box [.ref 11, .ref 1, .v (.slice none 0 0), .ref 12] :: O0 :: (ao4 ss k [.box (sL (ss.getD k cg8) 6), .row 3 (D.ints (l9 ars (ss.getD k cg8).body m pc ((xB ars m pc vs bd ss k).fst, [])).fst), .row 106 (D.stmts ((xB ars m pc vs bd ss k).snd ++ ([c5.mk 4 0 (c6.mk 0 0 []) (c6.mk 0 0 []) (ss.getD k cg8).count (l9 ars (ss.getD k cg8).body m pc ((xB ars m pc vs bd ss k).fst, [])).snd []] ++ [])))])) (I9 m pc [(9, iA k), (10, .ptr 10 0)]) (aP ((xB ars m pc vs bd ss k).snd.length + ([c5.mk (4 : Int) (0 : Int) (c6.mk (0 : Int) (0 : Int) []) (c6.mk (0 : Int) (0 : Int) []) (ss.getD k cg8).count (l9 ars (ss.getD k cg8).body m pc ((xB ars m pc vs bd ss k).fst, [])).snd []] ++ []).length) 152 []) (aK (by have h9 := aN2 (m := m) (pc := pc) hs hv r1 r2 (show k < ss.length by omega); have h8 := K6 (xB ars m pc vs bd ss k).2; simp only [ch4, ch7, ci2]; omega) ci3) fun G => b6 (wp_exit (r7 (p6 (b6 (N0 G d9 [0, 1, 2, 3, 4, 5, 11, 12] [.dead, dI ars, dT ss, .dead, ae0, O0, .row 3 (D.ints (l9 ars (ss.getD k cg8).body m pc ((xB ars m pc vs bd ss k).fst, [])).fst), .row 106 (D.stmts ((xB ars m pc vs bd ss k).snd ++ ([c5.mk 4 0 (c6.mk 0 0 []) (c6.mk 0 0 []) (ss.getD k cg8).count (l9 ars (ss.getD k cg8).body m pc ((xB ars m pc vs bd ss k).fst, [])).snd []] ++ [])))] (I9 m pc [(9, iA ((k : Int) + 1))]) [wO ((k : Int) + 1)] (o1 (by omega)) fun G => ?_))))))))))
     refine b6 ?_; exact H9 G (k + 1) (by omega) (by omega) (rg 8) (by have e1 : ((xB ars m pc vs bd ss (k + 1)).fst : List Int) = ((l9 ars (ss.getD k cg8).body m pc ((xB ars m pc vs bd ss k).fst, [])).fst) := (b11 (by omega) (by omega)); have e2 : ((xB ars m pc vs bd ss (k + 1)).snd : List c5) = ((xB ars m pc vs bd ss k).snd ++ ([c5.mk 4 0 (c6.mk 0 0 []) (c6.mk 0 0 []) (ss.getD k cg8).count (l9 ars (ss.getD k cg8).body m pc ((xB ars m pc vs bd ss k).fst, [])).snd []] ++ [])) := (congrArg Prod.snd (b12 (by omega) (by omega))); (first | rw [e1, e2] | simp only [e1, e2]) <;> rfl)
   · refine wp_seq (j7 G (s7 4 [6, 1, 7, 8, 9, 10, 11] (hF (ss.getD k cg8) (by assumption) ((aK9 hs (by omega)).1) ((aK9 hs (by omega)).2.1) ((aK9 hs (by omega)).2.2) (by omega) m pc ((xB ars m pc vs bd ss k).fst) ((xB ars m pc vs bd ss k).snd) (by have h9 := aN2 (m := m) (pc := pc) hs hv r1 r2 (show k < ss.length by omega); have h8 := ai4 (ss.getD k cg8); omega) (by have h9 := aN2 (m := m) (pc := pc) hs hv r1 r2 (show k < ss.length by omega); have h8 := ai4 (ss.getD k cg8); omega) (by have h9 := aN2 (m := m) (pc := pc) hs hv r1 r2 (show k < ss.length by omega); have h8 := ai4 (ss.getD k cg8); omega))) [0, 1, 2, 3, 4, 5, 8, 9, 10, 11, 12, 45, 46] (.dead :: dI ars :: dT ss :: .dead :: .box [.ref 11, .ref 1, .v (.slice none 0 0), .ref 12] :: O0 :: (ao4 ss k [.box (sL (ss.getD k cg8) 6), .row 3 (D.ints (G3 ars (ss.getD k cg8) m pc (xB ars m pc vs bd ss k)).fst), .row 106 (D.stmts (G3 ars (ss.getD k cg8) m pc (xB ars m pc vs bd ss k)).snd)])) (I9 m pc [(9, iA k), (10, .ptr 10 0)]) fun G => b6 (wp_exit (r7 (p6 (b6 (N0 G d9 [0, 1, 2, 3, 4, 5, 11, 12] [.dead, dI ars, dT ss, .dead, ae0, O0, .row 3 (D.ints (G3 ars (ss.getD k cg8) m pc (xB ars m pc vs bd ss k)).fst), .row 106 (D.stmts (G3 ars (ss.getD k cg8) m pc (xB ars m pc vs bd ss k)).snd)] (I9 m pc [(9, iA ((k : Int) + 1))]) [wO ((k : Int) + 1)] (o1 (by omega)) fun G => b6 ?_)))))); exact H9 G (k + 1) (by omega) (by omega) (rg 8) (by have e1 : ((xB ars m pc vs bd ss (k + 1)).fst : List Int) = ((G3 ars (ss.getD k cg8) m pc (xB ars m pc vs bd ss k)).fst) := (congrArg Prod.fst (aF3 (by omega))); have e2 : ((xB ars m pc vs bd ss (k + 1)).snd : List c5) = ((G3 ars (ss.getD k cg8) m pc (xB ars m pc vs bd ss k)).snd) := (congrArg Prod.snd (aF3 (by omega))); (first | rw [e1, e2] | simp only [e1, e2]) <;> rfl)
theorem l5.sel {ι : Type} {φ ψ : Nat → Prop} {w0 w : World} {F : ι → Rs} {ρ : Nat → Value} {S S1 : List It} {js : List Nat} (M : l5 φ ψ w0 w (o0 F ρ (s4 S))) (hn : js.Nodup) (hl : js.length = S1.length) (hS : js.map (s4 S) = S1.map (It.ren (nth js))) : l5 φ ψ w0 w (o0 F (fun i => ρ (nth js i)) (s4 S1)) := by
 refine M.map (fun k : ι ⊕ Nat => (match k with | .inl i => some (.inl i) | .inr i => if i < js.length then some (.inr (nth js i)) else none : Option (ι ⊕ Nat))) ?_ ?_
 ·intro k k' x h1 h2
  match k, k' with
  | .inl i, .inl i' => simp at h1 h2; rw [← h1] at h2; simpa using h2.symm
  | .inl i, .inr j => simp only at h1 h2; cases h1; split at h2 <;> simp at h2
  | .inr j, .inl i => simp only at h1 h2; cases h2; split at h1 <;> simp at h1
  | .inr j, .inr j' =>
   simp at h1 h2
   obtain ⟨f1, f2⟩ := h1
   obtain ⟨g1, g2⟩ := h2
   rw [← f2] at g2
   have hj := Sum.inr.inj g2
   have e1 := ch2 f1
   have e2 := ch2 g1
   rw [H4 e2, H4 e1] at hj
   have := (List.getElem?_inj f1 hn).1 (e1.trans (by rw [← hj]; exact e2.symm))
   rw [this]
 ·intro k
  match k with
  | .inl i => exact .inl ⟨_, rfl, rfl⟩
  | .inr i =>
   by_cases hlt : i < js.length
   ·refine .inl ⟨.inr (nth js i), by simp [hlt], ?_⟩
    have h1 := congrArg (·[i]?) hS
    have hlt' : i < S1.length := by omega
    simp only [List.getElem?_map, ch2 hlt, ch2 hlt', Option.map_some, Option.some.injEq] at h1
    simp only [o0]
    rw [aj8 hlt', H4 (ch2 hlt), h1, ← It.res_ren, H4 (ch2 hlt)]
   ·refine .inr ?_
    simp only [o0]
    rw [y6 (by omega)]
    rfl
theorem j8.nilArg {P : Program} {f : FuncId} {args args0 : List AV} {pre post post' : List It} {res res' : AV} {e : TypeId} {d : D} (hc : j8.ok P ⟨f, args0, pre ++ [.row e d], post, res⟩) (k : Nat) (js : List Nat) (hd : D.nil k = some d) (ha : args = AV.denL false pre.length args0) (hid : (aa0 pre.length (AV.idsL args) && pre.all (fun x => aa0 pre.length x.ids) && nodupB js && natEq js.length post'.length && bR1 pre.length js) = true) (hS : js.map (s4 post) = post'.map (It.ren (nth js))) (hr : res = res'.ren (nth js)) : j8.ok P ⟨f, args, pre, post', res'⟩ := by
 intro ι φ ψ w0 w F ρ M
 simp only [ch0, natEq, beq_iff_eq] at hid
 obtain ⟨⟨⟨⟨h1, h2⟩, h3⟩, h4⟩, h5⟩ := hid
 have hz := D.nil_len hd
 have hvals := (AV.vals_den (ρ := ρ) (t := false) (n := pre.length) (z := .slice none 0 0) (by simp) args0 (by rw [← ha]; exact D5 h1)).1
 have hlt : ∀ j, j < pre.length → s4 (pre ++ [.row e d]) j = s4 pre j := fun j hj => by simp [s4, ch3, ci4 hj]
 have hids : ∀ j, ∀ i ∈ (s4 pre j).ids, i < pre.length := fun j => by
  by_cases hj : j < pre.length
  ·rw [aj8 hj]
   exact D5 (ch8.1 h2 _ (cj2 hj))
  ·rw [y6 (by omega)]; intro i hi; cases hi
 have M1 : l5 φ ψ w0 w (o0 F (fun j => if j = pre.length then .slice none 0 0 else ρ j) (s4 (pre ++ [.row e d]))) := by
  refine l5.put M (.inr pre.length) (fun k hk => ?_) (C8.refl _ _) ?_ ?_
  ·cases k with
   | inl i => rfl
   | inr j =>
    simp only [o0]
    rcases Nat.lt_trichotomy j pre.length with h | h | h
    ·rw [hlt j h]
     exact It.res_congr _ (fun i hi => if_neg (by have := hids j i hi; omega)) (.inr (.inr (if_neg (by omega))))
    ·exact absurd (by rw [h]) hk
    ·rw [y6 (show (pre ++ [It.row e d]).length ≤ j by simp; omega), y6 (show pre.length ≤ j by omega)]; rfl
  ·have : s4 (pre ++ [.row e d]) pre.length = .row e d := by simp [s4, ch3]
   simp only [o0, this, It.res, if_true]
   refine ⟨fun xs => RW.nice d xs, [], ?_, RW.nil hz _⟩
   rw [hz]; exact World.ownsRow_nil _ _ _ _
  ·intro g hg
   have : s4 (pre ++ [.row e d]) pre.length = .row e d := by simp [s4, ch3]
   simp only [o0, this, It.res, if_true] at hg
   cases hg
 have h := hc ι φ ψ w0 w F _ M1
 simp only [hvals, ← ha] at h
 refine h.mono ?_
 rintro x w' ⟨ρ2, g1, rfl, M2⟩
 have hk : ∀ i, i < pre.length → nth js i = i := fun i hi => by
  have := ch8.1 h5 i (cl3.2 hi)
  simp only [ch0, natEq, beq_iff_eq] at this
  exact this.1
 refine ⟨fun i => ρ2 (nth js i), fun i hi => ?_, ?_, M2.sel (ap7 h3) h4 hS⟩
 ·have hi : i < pre.length := hi
  simp only [hk i hi]
  rw [g1 i (by simp; omega), if_neg (by omega)]
 ·show Ending.returned (res.val ρ2) = .returned (res'.val _)
  rw [hr, AV.val_ren]
theorem bA8 {ars vs : List Int} {m pc : Int} {ss : List c5} (h : j8.ok Tryz.prog (lbC ars m pc vs [] ss)) : j8.ok Tryz.prog (lnC ars m pc vs ss) :=
 j8.nilArg (pre := [qI vs, dI ars, dT ss]) h 10 [0, 1, 2, 4, 5] rfl rfl rfl rfl rfl
theorem aJ0 (ars : List Int) (nv : Nat) : ∀ (dd : Nat) (tt : List c5) (m pc : Int) (vs : List Int) (bd : List c5), tt.all (j6 nv ars.length dd) = true → nv ≤ vs.length → vs.length + 4 * j5 tt ≤ 90000 → j5 bd + 130 * j5 tt ≤ 600000 → j8.ok Tryz.prog (lbC ars m pc vs bd tt)
 | 0, tt, m, pc, vs, bd, hs, hv, r1, r2 => by
  have h0 : tt = [] := by
   cases tt with
   | nil => rfl
   | cons a r => simp [j6] at hs
  subst h0
  exact aQ2 ars nv 0 [] rfl (fun _ _ _ _ _ h => absurd h (by simp)) (fun _ _ _ _ _ _ h => absurd h (by simp)) m pc vs bd hv r1 r2
 | dd + 1, tt, m, pc, vs, bd, hs, hv, r1, r2 => by
  have hB := aJ0 ars nv dd
  have hI : ∀ (tt : List c5) (m pc : Int) (vs : List Int) (bd : List c5), tt.all (j6 nv ars.length dd) = true → nv ≤ vs.length → vs.length + 4 * j5 tt ≤ 90000 → 130 * j5 tt ≤ 600000 → j8.ok Tryz.prog (bL7 ars m pc vs bd tt) := fun tt m pc vs bd h1 h2 h3 h4 => bp4 ars m pc vs bd tt (bA8 (hB tt m pc vs [] h1 h2 h3 (by simpa [j5] using h4)))
  exact aQ2 ars nv dd tt hs (fun t k3 hh hbb hbe _ m pc vs bd hv r1 r2 => bU1 ars nv dd t k3 hh hbb hbe hB hI m pc vs bd hv r1 r2) (fun tt m pc vs bd h1 _ h2 h3 h4 => hI tt m pc vs bd h1 h2 h3 h4) m pc vs bd hv r1 r2
abbrev by1 (p : i5) : i5 := ⟨(l9 p.arrays p.body (-1) 0 (p.vars, [])).1, p.arrays, (l9 p.arrays p.body (-1) 0 (p.vars, [])).2⟩
theorem bW2 {p : i5} (h : (V9 p false).1 = 0) (h2 : l8 (by1 p) = true) : okL p = true := bQ7 h h2
theorem bW1 {p : i5} (h2 : l8 (by1 p) = false) : okL p = false := bQ8 h2
theorem bX1 {p : i5} (h : (V9 p false).1 = 0) (h2 : l8 (by1 p) = true) : G0 p = by1 p := bQ9 (bQ7 h h2)
theorem bX0 {p : i5} (h2 : l8 (by1 p) = false) : G0 p = ⟨[], [], []⟩ := bl5 (bQ8 h2)
theorem bE4 (p : i5) (hp : l8 p = true) : j8.ok Tryz.prog (lnC p.arrays (-1) 0 p.vars p.body) := by
 have h := ac6 hp
 exact bA8 (aJ0 p.arrays p.vars.length 5 p.body (-1) 0 p.vars [] (aw1 hp).2.2.2 (ch5 _) (by omega) (by simp only [j5]; omega))
abbrev ao3 (r0 : List (Nat × AV)) : List (Nat × AV) := (1, .ptr 3 0) :: (2, .ptr 4 0) :: (3, bA false) :: r0
theorem aV7 (p : i5) (hb : p.size ≤ 1048576) (hp : ¬ (V9 p false).1 = 0) : j8.ok Tryz.prog ⟨27, [pA 0], pS p, pS p ++ pS (G0 p), .tup [pA 3, bA (okL p)]⟩ := by
 refine E2 43 Tryz.func27 [dI p.vars, dI p.arrays, dT p.body] [(0, pA 0)] fun G => ?_; have hno := b48 hp
 have hb1 : j5 p.body ≤ 1048576 := by unfold i5.size at hb; omega
 refine wp_seq (j7 G d9 [0, 1, 2, 3, 11] [dI p.vars, dI p.arrays, dT p.body, .box (pL 0), .box [.v (.slice none 0 0), .v (.slice none 0 0), .v (.slice none 0 0)]] (ao3 []) fun G => b6 (wp_seq (k8 G (s7 1 [0, 1, 2] (Y1 p.vars p.arrays p.body (by assumption))) [(4, iA (V9 (i5.mk p.vars p.arrays p.body) false).fst)] fun G => b6 (wp_seq (wp_seq (C6 G d9 (ao3 [(15, bA ((V9 (i5.mk p.vars p.arrays p.body) false).fst != 0))]) fun G => b6 ?_)))))); cases h0 : ((V9 (i5.mk p.vars p.arrays p.body) false).fst != 0)
 ·have q0 := bne_eq_false_iff_eq.1 h0; exact False.elim (hp (by with_reducible assumption))
 ·have q0 := bne_iff_ne.1 h0; refine rT G _ h0 (wp_seq (C6 G d9 (ao3 []) fun G => b6 (wp_ret (l4 ?_)))); obtain ⟨ρ, G⟩ := G.nil 5 0 (.ints []) 1 [dI p.vars, dI p.arrays, dT p.body, .box (pL 0), .box [.ref 5, .v (.slice none 0 0), .v (.slice none 0 0)]] (ao3 []); obtain ⟨ρ, G⟩ := G.nil 6 0 (.ints []) 1 [dI p.vars, dI p.arrays, dT p.body, .box (pL 0), .box [.ref 5, .ref 6, .v (.slice none 0 0)], .row 0 (D.ints [])] (ao3 []); obtain ⟨ρ, G⟩ := G.nil 7 0 (.stmts []) 10 [dI p.vars, dI p.arrays, dT p.body, .box (pL 0), .box (pL 5), .row 0 (D.ints []), .row 0 (D.ints [])] (ao3 []); obtain ⟨ρ, G⟩ := G.frz [.no, .no, .no, .no, .no, .row 0, .row 0, .row 0] [dI p.vars, dI p.arrays, dT p.body, .box (pL 0), .box (pL 5), dI [], dI [], dT []] (ao3 []); exact T7 (.tup [pA 5, bA false]) G [0, 1, 2, 5, 6, 7] (by have e1 : (okL p : Bool) = (false) := (by assumption); (first | rw [e1] | simp only [e1]) <;> rfl) (by show _ = mR [0, 1, 2, 5, 6, 7] [dI p.vars, dI p.arrays, dT p.body, dI (G0 p).vars, dI (G0 p).arrays, dT (G0 p).body]; rw [bl5 hno] <;> rfl)
abbrev aS9 : It := .box [.v (.slice none 0 0), .v (.slice none 0 0), .v (.slice none 0 0)]
abbrev au5 (p : i5) (r0 : List It) : List It := .row 3 (D.ints (l9 p.arrays p.body (-1) 0 (p.vars, [])).fst) :: .row 3 (D.ints p.arrays) :: .tree (D.stmts (l9 p.arrays p.body (-1) 0 (p.vars, [])).snd) :: r0
abbrev K4 (p : i5) (r0 : List It) : List It := dI p.vars :: dI p.arrays :: dT p.body :: r0
theorem aV6 (p : i5) (hb : p.size ≤ 1048576) (hf : (V9 p false).1 = 0) : j8.ok Tryz.prog ⟨27, [pA 0], pS p, pS p ++ pS (G0 p), .tup [pA 3, bA (okL p)]⟩ := by
  have hpv := af3 hf; have hB := bE4 p hpv; refine E2 43 Tryz.func27 (K4 p []) [(0, pA 0)] fun G => ?_; have hz := bl8 (af3 hf); have hv := ac6 (af3 hf)
  have hzb : j5 (aJ1 p).2 ≤ 1048576 := by omega
  have hsum : (aJ1 p).1.length + p.arrays.length + j5 (aJ1 p).2 ≤ 1048576 := by omega
  refine wp_seq (j7 G d9 [0, 1, 2, 3, 11] (K4 p [.box (pL 0), aS9]) [(1, .ptr 3 0), (2, .ptr 4 0), (3, bA false)] fun G => b6 (wp_seq (k8 G (s7 1 [0, 1, 2] (Y1 p.vars p.arrays p.body (by omega))) [(4, iA (V9 (i5.mk p.vars p.arrays p.body) false).fst)] fun G => b6 (wp_seq (wp_seq (C6 G d9 [(1, .ptr 3 0), (2, .ptr 4 0), (3, bA false), (15, bA ((V9 (i5.mk p.vars p.arrays p.body) false).fst != 0))] fun G => b6 ?_)))))); cases h0 : ((V9 (i5.mk p.vars p.arrays p.body) false).fst != 0)
  ·
   have q0 := bne_eq_false_iff_eq.1 h0; refine rF G _ h0 (wp_skip (b6 (wp_seq (j7 G (s7 1 [0, 1, 2] (am8 p.vars p.arrays p.body (by assumption))) [0, 1, 2, 4, 13, 14, 15, 21] (K4 p [aS9, .row 3 (D.ints p.vars), .row 3 (D.ints p.arrays), .tree (D.stmts p.body), .box [.ref 4, .ref 5, .tref 6]]) [(2, .ptr 3 0), (3, bA false), (6, .ptr 7 0)] fun G => b6 (wp_seq ?_))))); obtain ⟨ρ, G⟩ := G.frz [.no, .no, .no, .no, .no, .row 3] (K4 p [.box [.v (.slice none 0 0), .v (.slice none 0 0), .v (.slice none 0 0)], .row 3 (D.ints p.vars), dI p.arrays, .tree (D.stmts p.body), .box [.ref 4, .ref 5, .tref 6]]) [(2, .ptr 3 0), (3, bA false), (6, .ptr 7 0)]; obtain ⟨ρ, G⟩ := G.frz [.no, .no, .no, .no, .no, .no, .tree] (K4 p [.box [.v (.slice none 0 0), .v (.slice none 0 0), .v (.slice none 0 0)], .row 3 (D.ints p.vars), dI p.arrays, dT p.body, .box (pL 4)]) [(2, .ptr 3 0), (3, bA false), (6, .ptr 7 0)]; refine j7 G (s7 8 [4, 5, 6] hB) [0, 1, 2, 3, 5, 72, 73, 80] (K4 p [aS9, dI p.arrays, .row 3 (D.ints (l9 p.arrays p.body (-1) 0 (p.vars, [])).fst), .row 106 (D.stmts (l9 p.arrays p.body (-1) 0 (p.vars, [])).snd), .box [.ref 5, .ref 4, .v (.slice none 0 0), .ref 6]]) [(2, .ptr 3 0), (3, bA false), (7, .ptr 7 0)] fun G => b6 (wp_seq ?_); obtain ⟨ρ, G⟩ := G.frz [.no, .no, .no, .no, .no, .row 3] (K4 p [.box [.v (.slice none 0 0), .v (.slice none 0 0), .v (.slice none 0 0)], dI p.arrays, dI (l9 p.arrays p.body (-1) 0 (p.vars, [])).fst, .row 106 (D.stmts (l9 p.arrays p.body (-1) 0 (p.vars, [])).snd), .box [.ref 5, .ref 4, .v (.slice none 0 0), .ref 6]]) [(2, .ptr 3 0), (3, bA false), (7, .ptr 7 0)]; obtain ⟨ρ, G⟩ := G.frz [.no, .no, .no, .no, .no, .no, .row 106] (K4 p [.box [.v (.slice none 0 0), .v (.slice none 0 0), .v (.slice none 0 0)], dI p.arrays, dI (l9 p.arrays p.body (-1) 0 (p.vars, [])).fst, dT (l9 p.arrays p.body (-1) 0 (p.vars, [])).snd, .box [.ref 5, .ref 4, .v (.slice none 0 0), .ref 6]]) [(2, .ptr 3 0), (3, bA false), (7, .ptr 7 0)]; refine j7 G (s7 9 [5, 4, 6] (am8 ((l9 p.arrays p.body (-1) 0 (p.vars, [])).fst) p.arrays ((l9 p.arrays p.body (-1) 0 (p.vars, [])).snd) (by assumption))) [0, 1, 2, 3, 80, 81, 82, 88] (K4 p (aS9 :: (au5 p [.box [.ref 4, .ref 5, .tref 6]]))) [(2, .ptr 3 0), (3, bA false), (8, .ptr 7 0)] fun G => b6 (wp_seq (wp_seq (k8 G (s7 1 [4, 5, 6] (j8.lend (ag7 ((l9 p.arrays p.body (-1) 0 (p.vars, [])).fst) p.arrays ((l9 p.arrays p.body (-1) 0 (p.vars, [])).snd) (by assumption)) [.row 3, .row 3, .tree])) [(40, .v (.bool !l8 (i5.mk (l9 p.arrays p.body (-1) 0 (p.vars, [])).fst p.arrays (l9 p.arrays p.body (-1) 0 (p.vars, [])).snd)))] fun G => b6 ?_))); cases h1 : (!l8 (i5.mk (l9 p.arrays p.body (-1 : Int) (0 : Int) (p.vars, [])).fst p.arrays (l9 p.arrays p.body (-1 : Int) (0 : Int) (p.vars, [])).snd))
   · have q1 : (l8 (i5.mk (l9 p.arrays p.body (-1) 0 (p.vars, [])).fst p.arrays (l9 p.arrays p.body (-1) 0 (p.vars, [])).snd)) = true := (Eq.mp (cj6 _) h1); refine rF G _ h1 (wp_skip (b6 (wp_seq (j7 G d9 (rg 7) (K4 p (.box [.ref 4, .ref 5, .tref 6] :: (au5 p []))) [(2, .ptr 3 0), (3, bA true)] fun G => b6 (wp_ret ?_))))); obtain ⟨ρ, G⟩ := G.frz [.no, .no, .no, .no, .row 3, .row 3, .tree] (K4 p [.box (pL 4), dI (l9 p.arrays p.body (-1) 0 (p.vars, [])).fst, dI p.arrays, dT (l9 p.arrays p.body (-1) 0 (p.vars, [])).snd]) [(2, .ptr 3 0), (3, bA true)]; exact T7 (.tup [pA 4, bA true]) G [0, 1, 2, 4, 5, 6] (by have e1 : (okL p : Bool) = (true) := (bW2 hf (by with_reducible assumption)); (first | rw [e1] | simp only [e1]) <;> rfl) (by show _ = mR [0, 1, 2, 4, 5, 6] (K4 p [dI (G0 p).vars, dI (G0 p).arrays, dT (G0 p).body]); rw [bX1 hf (by with_reducible assumption)] <;> rfl)
   · have q1 : (l8 (i5.mk (l9 p.arrays p.body (-1) 0 (p.vars, [])).fst p.arrays (l9 p.arrays p.body (-1) 0 (p.vars, [])).snd)) = false := (Eq.mp (ci9 _) h1); refine rT G _ h1 (wp_seq (C6 G d9 [(2, .ptr 3 0), (3, bA false), (8, .ptr 7 0)] fun G => b6 (wp_ret (l4 ?_)))); obtain ⟨ρ, G⟩ := G.nil 8 0 (.ints []) 1 (K4 p (.box [.ref 8, .v (.slice none 0 0), .v (.slice none 0 0)] :: (au5 p [.box [.ref 4, .ref 5, .tref 6]]))) [(2, .ptr 3 0), (3, bA false), (8, .ptr 7 0)]; obtain ⟨ρ, G⟩ := G.nil 9 0 (.ints []) 1 (K4 p (.box [.ref 8, .ref 9, .v (.slice none 0 0)] :: (au5 p [.box [.ref 4, .ref 5, .tref 6], .row 0 (D.ints [])]))) [(2, .ptr 3 0), (3, bA false), (8, .ptr 7 0)]; obtain ⟨ρ, G⟩ := G.nil 10 0 (.stmts []) 10 (K4 p (.box (pL 8) :: (au5 p [.box [.ref 4, .ref 5, .tref 6], .row 0 (D.ints []), .row 0 (D.ints [])]))) [(2, .ptr 3 0), (3, bA false), (8, .ptr 7 0)]; obtain ⟨ρ, G⟩ := G.frz [.no, .no, .no, .no, .no, .no, .no, .no, .row 0, .row 0, .row 0] (K4 p (.box (pL 8) :: (au5 p [.box [.ref 4, .ref 5, .tref 6], dI [], dI [], dT []]))) [(2, .ptr 3 0), (3, bA false), (8, .ptr 7 0)]; exact T7 (.tup [pA 8, bA false]) G [0, 1, 2, 8, 9, 10] (by have e1 : (okL p : Bool) = (false) := (bW1 (by with_reducible assumption)); (first | rw [e1] | simp only [e1]) <;> rfl) (by show _ = mR [0, 1, 2, 8, 9, 10] (K4 p [dI (G0 p).vars, dI (G0 p).arrays, dT (G0 p).body]); rw [bX0 (by with_reducible assumption)] <;> rfl)
  · have q0 := bne_iff_ne.1 h0; exact False.elim (by exact absurd hf (by omega))
theorem a83 (p : i5) (hb : p.size ≤ 1048576) : j8.ok Tryz.prog ⟨27, [pA 0], pS p, pS p ++ pS (G0 p), .tup [pA 3, bA (okL p)]⟩ := by
 by_cases hf : (V9 p false).1 = 0
 ·exact aV6 p hb hf
 ·exact aV7 p hb hf
end Go.Proofs.YthikdkjjdeehoaaGreat
