/- Part 6: functions on the way, plain laws. Conditions: as said. -/
import Derived.Test.YthikdkjjdeehoaaGreatK4
import Derived.Test.YthikdkjjdeehoaaGreatK5
set_option maxRecDepth 100000
set_option maxHeartbeats 16000000
set_option linter.unusedVariables false
set_option linter.unusedSimpArgs false
open Bool renaming and_eq_true → ch4, not_eq_false' → ck2, not_eq_true' → cj4, or_eq_true → cl7
open Inhabited renaming default → ch2
open List renaming all_eq_true → ci2, append_assoc → cm7, eq_nil_of_length_eq_zero → cj2, getD_eq_getElem?_getD → ch7, getElem?_append_left → ci9, getElem?_append_right → ck6, getElem?_eq_getElem → ch6, getElem?_eq_none → cj8, getElem?_eq_some_iff → ci5, getElem_mem → cj1, length_append → ch8, length_cons → ci1, length_nil → ci6, length_replicate → cj3, length_set → cj9, mem_cons → cl2, mem_cons_of_mem → cl1, mem_cons_self → cl3, mem_range → cl5, mem_singleton → ck4, replicate → ch3, take → ci0, take_of_length_le → ci8
open Nat renaming le_refl → ch9, le_trans → cj7, lt_or_ge → cj6, zero_add → cl9, zero_le → ck8
open True renaming intro → ci7

namespace Go.Proofs.YthikdkjjdeehoaaGreat
open Go Go.RowKit
abbrev nnE : c6 := ⟨0, 0, []⟩
abbrev cnE (n : Int) : c6 := ⟨1, n, []⟩
abbrev vrE (v : Int) : c6 := ⟨2, v, []⟩
abbrev rdE (a : Int) (i : c6) : c6 := ⟨3, a, [i]⟩
abbrev ah2 (i : c6) (k : Int) : c6 := ⟨9, 0, [⟨7, 0, [i, cnE 3]⟩, cnE k]⟩
abbrev seE (a b c : c6) : c6 := ⟨11, 0, [a, b, c]⟩
abbrev W7 (v : Int) (e : c6) : c5 := ⟨1, v, nnE, e, 0, [], []⟩
def C1 (m : Int) (e f : c6) : c6 := if m < 0 then e else seE (vrE m) e f
def rdL (v a : Int) (i : c6) : Nat → List c5
 | 0 => [W7 v (rdE a (cnE 0))]
 | k + 1 => rdL v a i k ++ [W7 v (seE (ah2 i ((k : Int) + 1)) (rdE a (cnE ((k : Int) + 1))) (vrE v))]
def stL (v t : Int) (i : c6) (m : Int) : Nat → List c5
 | 0 => []
 | k + 1 => stL v t i m k ++ [⟨2, t, cnE (k : Int), seE (C1 m (ah2 i (k : Int)) (cnE 0)) (vrE v) (rdE t (cnE (k : Int))), 0, [], []⟩]
abbrev LnS : Type := List Int × List c5
mutual
def d8 (ars : List Int) (pc : Int) : c6 → LnS → LnS × c6
 | ⟨k, v, ks⟩, s =>
  if k = 3 ∧ ac0 (j5 (x8 ars pc ks s).1.1 ars 5 (ks.getD 0 ch2)) = true then
   (((x8 ars pc ks s).1.1 ++ [l4 (j5 (x8 ars pc ks s).1.1 ars 5 ⟨k, v, ks⟩) pc], (x8 ars pc ks s).1.2 ++ rdL ((x8 ars pc ks s).1.1.length : Int) v (ks.getD 0 ch2) 3), vrE ((x8 ars pc ks s).1.1.length : Int))
  else ((x8 ars pc ks s).1, ⟨k, v, (x8 ars pc ks s).2⟩)
def x8 (ars : List Int) (pc : Int) : List c6 → LnS → LnS × List c6
 | [], s => (s, [])
 | e :: t, s => ((x8 ars pc t (d8 ars pc e s).1).1, (d8 ars pc e s).2 :: (x8 ars pc t (d8 ars pc e s).1).2)
end
theorem aJ2 (ars : List Int) (pc : Int) (e : c6) (s : LnS) : d8 ars pc e s =
  if e.kind = 3 ∧ ac0 (j5 (x8 ars pc e.kids s).1.1 ars 5 (e.kids.getD 0 ch2)) = true then
   (((x8 ars pc e.kids s).1.1 ++ [l4 (j5 (x8 ars pc e.kids s).1.1 ars 5 e) pc], (x8 ars pc e.kids s).1.2 ++ rdL ((x8 ars pc e.kids s).1.1.length : Int) e.value (e.kids.getD 0 ch2) 3), vrE ((x8 ars pc e.kids s).1.1.length : Int))
  else ((x8 ars pc e.kids s).1, ⟨e.kind, e.value, (x8 ars pc e.kids s).2⟩) := by
 cases e; rw [d8]; rfl
theorem at7 (ars : List Int) (pc : Int) : ∀ (a b : List c6) (s : LnS), x8 ars pc (a ++ b) s = ((x8 ars pc b (x8 ars pc a s).1).1, (x8 ars pc a s).2 ++ (x8 ars pc b (x8 ars pc a s).1).2)
 | [], b, s => by simp [x8]
 | e :: t, b, s => by
  simp only [List.cons_append, x8]
  rw [at7 ars pc t b]
theorem aq6 {ars : List Int} {pc : Int} {ks : List c6} {k : Nat} {s : LnS} (hk : k < ks.length) : x8 ars pc (ks.take (k + 1)) s = ((d8 ars pc (ks.getD k ch2) (x8 ars pc (ks.take k) s).1).1, (x8 ars pc (ks.take k) s).2 ++ [(d8 ars pc (ks.getD k ch2) (x8 ars pc (ks.take k) s).1).2]) := by
 rw [m8 _ _ hk, at7, m6 hk]
 simp [x8]
abbrev ifM (x : LnS × c6) (m l : Int) : LnS := (x.1.1 ++ [l] ++ [l], x.1.2 ++ [W7 (x.1.1.length : Int) (C1 m x.2 (cnE 0))] ++ [W7 ((x.1.1 ++ [l]).length : Int) (C1 m ⟨9, 0, [vrE (x.1.1.length : Int), cnE 0]⟩ (cnE 0))])
mutual
def H3 (ars : List Int) : c5 → Int → Int → LnS → LnS
 | ⟨k, t, i, v, c, b, e⟩, m, pc, s =>
  if k = 4 then ((m5 ars b m pc (s.1, [])).1, s.2 ++ [⟨4, 0, nnE, nnE, c, (m5 ars b m pc (s.1, [])).2, []⟩])
  else if k = 3 then
   (if ac0 (j5 s.1 ars 5 v) = true then
    m5 ars e (((d8 ars pc v s).1.1 ++ [l4 pc (j5 s.1 ars 5 v)]).length : Int) (l4 pc (j5 s.1 ars 5 v)) (m5 ars b ((d8 ars pc v s).1.1.length : Int) (l4 pc (j5 s.1 ars 5 v)) (ifM (d8 ars pc v s) m (l4 pc (j5 s.1 ars 5 v))))
   else ((m5 ars e m (l4 pc (j5 s.1 ars 5 v)) ((m5 ars b m (l4 pc (j5 s.1 ars 5 v)) ((d8 ars pc v s).1.1, [])).1, [])).1,
    (d8 ars pc v s).1.2 ++ [⟨3, 0, nnE, (d8 ars pc v s).2, 0, (m5 ars b m (l4 pc (j5 s.1 ars 5 v)) ((d8 ars pc v s).1.1, [])).2, (m5 ars e m (l4 pc (j5 s.1 ars 5 v)) ((m5 ars b m (l4 pc (j5 s.1 ars 5 v)) ((d8 ars pc v s).1.1, [])).1, [])).2⟩]))
  else if k = 5 then ((d8 ars pc v s).1.1, (d8 ars pc v s).1.2 ++ [⟨5, t, nnE, (d8 ars pc v s).2, 0, [], []⟩])
  else if k = 1 then ((d8 ars pc v s).1.1, (d8 ars pc v s).1.2 ++ [W7 t (C1 m (d8 ars pc v s).2 (vrE t))])
  else if ac0 (j5 (d8 ars pc v s).1.1 ars 5 i) = true then
   ((d8 ars pc v s).1.1 ++ [l4 (j5 (d8 ars pc v s).1.1 ars 5 (d8 ars pc v s).2) pc], (d8 ars pc v s).1.2 ++ [W7 ((d8 ars pc v s).1.1.length : Int) (d8 ars pc v s).2] ++ stL ((d8 ars pc v s).1.1.length : Int) t i m 4)
  else ((d8 ars pc v s).1.1, (d8 ars pc v s).1.2 ++ [⟨2, t, i, C1 m (d8 ars pc v s).2 (rdE t i), 0, [], []⟩])
def m5 (ars : List Int) : List c5 → Int → Int → LnS → LnS
 | [], _, _, s => s
 | x :: r, m, pc, s => m5 ars r m pc (H3 ars x m pc s)
end
theorem a41 (ars : List Int) (a b : List c5) (m pc : Int) (s : LnS) : m5 ars (a ++ b) m pc s = m5 ars b m pc (m5 ars a m pc s) := by
 induction a generalizing s with
 | nil => rfl
 | cons x r ih => simp only [List.cons_append, m5]; exact ih _
theorem br6 {ars : List Int} {ss : List c5} {k : Nat} {m pc : Int} {s : LnS} (hk : k < ss.length) : m5 ars (ss.take (k + 1)) m pc s = H3 ars (ss.getD k ch2) m pc (m5 ars (ss.take k) m pc s) := by
 rw [m8 _ _ hk, a41, m6 hk]
 simp [m5]
section
variable {ars : List Int} {s : c5} {m pc : Int} {x : LnS}
theorem ln4 (k : s.kind = 4) : H3 ars s m pc x = ((m5 ars s.body m pc (x.1, [])).1, x.2 ++ [⟨4, 0, nnE, nnE, s.count, (m5 ars s.body m pc (x.1, [])).2, []⟩]) := by
 obtain ⟨kd, tg, ix, vl, ct, bd, el⟩ := s
 have k : kd = 4 := k
 rw [H3, if_pos k]; rfl
theorem b66 (k : s.kind = 3) (h : ac0 (j5 x.1 ars 5 s.value) = true) : H3 ars s m pc x = m5 ars s.els (((d8 ars pc s.value x).1.1 ++ [l4 pc (j5 x.1 ars 5 s.value)]).length : Int) (l4 pc (j5 x.1 ars 5 s.value)) (m5 ars s.body ((d8 ars pc s.value x).1.1.length : Int) (l4 pc (j5 x.1 ars 5 s.value)) (ifM (d8 ars pc s.value x) m (l4 pc (j5 x.1 ars 5 s.value)))) := by
 obtain ⟨kd, tg, ix, vl, ct, bd, el⟩ := s
 have k : kd = 3 := k
 have h : ac0 (j5 x.1 ars 5 vl) = true := h
 rw [H3, if_neg (by omega), if_pos k, if_pos h]; rfl
theorem b67 (k : s.kind = 3) (h : ac0 (j5 x.1 ars 5 s.value) = false) : H3 ars s m pc x = ((m5 ars s.els m (l4 pc (j5 x.1 ars 5 s.value)) ((m5 ars s.body m (l4 pc (j5 x.1 ars 5 s.value)) ((d8 ars pc s.value x).1.1, [])).1, [])).1,
  (d8 ars pc s.value x).1.2 ++ [⟨3, 0, nnE, (d8 ars pc s.value x).2, 0, (m5 ars s.body m (l4 pc (j5 x.1 ars 5 s.value)) ((d8 ars pc s.value x).1.1, [])).2, (m5 ars s.els m (l4 pc (j5 x.1 ars 5 s.value)) ((m5 ars s.body m (l4 pc (j5 x.1 ars 5 s.value)) ((d8 ars pc s.value x).1.1, [])).1, [])).2⟩]) := by
 obtain ⟨kd, tg, ix, vl, ct, bd, el⟩ := s
 have k : kd = 3 := k
 have h : ac0 (j5 x.1 ars 5 vl) = false := h
 rw [H3, if_neg (by omega), if_pos k, if_neg (by rw [h]; decide)]; rfl
theorem ln5 (k : s.kind = 5) : H3 ars s m pc x = ((d8 ars pc s.value x).1.1, (d8 ars pc s.value x).1.2 ++ [⟨5, s.target, nnE, (d8 ars pc s.value x).2, 0, [], []⟩]) := by
 obtain ⟨kd, tg, ix, vl, ct, bd, el⟩ := s
 have k : kd = 5 := k
 rw [H3, if_neg (by omega), if_neg (by omega), if_pos k]; rfl
theorem ln1 (k : s.kind = 1) : H3 ars s m pc x = ((d8 ars pc s.value x).1.1, (d8 ars pc s.value x).1.2 ++ [W7 s.target (C1 m (d8 ars pc s.value x).2 (vrE s.target))]) := by
 obtain ⟨kd, tg, ix, vl, ct, bd, el⟩ := s
 have k : kd = 1 := k
 rw [H3, if_neg (by omega), if_neg (by omega), if_neg (by omega), if_pos k]; rfl
theorem b68 (k : s.kind = 2) (h : ac0 (j5 (d8 ars pc s.value x).1.1 ars 5 s.index) = true) : H3 ars s m pc x = ((d8 ars pc s.value x).1.1 ++ [l4 (j5 (d8 ars pc s.value x).1.1 ars 5 (d8 ars pc s.value x).2) pc], (d8 ars pc s.value x).1.2 ++ [W7 ((d8 ars pc s.value x).1.1.length : Int) (d8 ars pc s.value x).2] ++ stL ((d8 ars pc s.value x).1.1.length : Int) s.target s.index m 4) := by
 obtain ⟨kd, tg, ix, vl, ct, bd, el⟩ := s
 have k : kd = 2 := k
 have h : ac0 (j5 (d8 ars pc vl x).1.1 ars 5 ix) = true := h
 rw [H3, if_neg (by omega), if_neg (by omega), if_neg (by omega), if_neg (by omega), if_pos h]; rfl
theorem b69 (k : s.kind = 2) (h : ac0 (j5 (d8 ars pc s.value x).1.1 ars 5 s.index) = false) : H3 ars s m pc x = ((d8 ars pc s.value x).1.1, (d8 ars pc s.value x).1.2 ++ [⟨2, s.target, s.index, C1 m (d8 ars pc s.value x).2 (rdE s.target s.index), 0, [], []⟩]) := by
 obtain ⟨kd, tg, ix, vl, ct, bd, el⟩ := s
 have k : kd = 2 := k
 have h : ac0 (j5 (d8 ars pc vl x).1.1 ars 5 ix) = false := h
 rw [H3, if_neg (by omega), if_neg (by omega), if_neg (by omega), if_neg (by omega), if_neg (by rw [h]; decide)]; rfl
end
theorem E8 {nv nw na : Nat} (h : nv ≤ nw) : ∀ (d : Nat) (e : c6), i5 nv na d e = true → i5 nw na d e = true
 | 0, _, hs => by simp [i5] at hs
 | d + 1, e, hs => by
  simp only [i5, ch4, ci2] at hs ⊢
  refine ⟨⟨?_, fun x hx => E8 h d x (hs.1.2 x hx)⟩, hs.2⟩
  have h1 := hs.1.1
  simp only [S6, ch4, decide_eq_true_eq] at h1 ⊢
  refine ⟨h1.1, Int.lt_of_lt_of_le h1.2 ?_⟩
  unfold V4
  (repeat' split) <;> omega
theorem aG9 {nv na : Nat} : ∀ (d : Nat) (e : c6), i5 nv na d e = true → i5 nv na (d + 1) e = true
 | 0, _, hs => by simp [i5] at hs
 | d + 1, e, hs => by
  rw [i5] at hs ⊢
  simp only [ch4, ci2] at hs ⊢
  exact ⟨⟨hs.1.1, fun x hx => aG9 d x (hs.1.2 x hx)⟩, hs.2⟩
theorem a11 {nv na c d : Nat} {e : c6} (h : c ≤ d) (hs : i5 nv na c e = true) : i5 nv na d e = true := by
 induction d with
 | zero => rwa [show c = 0 by omega] at hs
 | succ d ih =>
  rcases cj6 c (d + 1) with hl | hl
  ·exact aG9 d e (ih (by omega))
  ·rwa [show c = d + 1 by omega] at hs
theorem aM3 {ars : List Int} {pc : Int} {nv na d : Nat} {e : c6} {s : LnS} (ha : atomB e = true) (hs : i5 nv na d e = true) : d8 ars pc e s = (s, e) ∧ e.kids = [] := by
 obtain ⟨k, v, ks⟩ := e
 cases d with
 | zero => simp [i5] at hs
 | succ d =>
  have hk : k = 1 ∨ k = 2 := by
   have h := ha
   simp only [atomB, cl7, decide_eq_true_eq] at h
   exact h
  have hn : ks = [] := by
   simp only [i5, S6, ch4, decide_eq_true_eq] at hs
   have h1 := hs.1.1.1.1
   have h2 : t2 k = 0 := by unfold t2; rw [if_pos hk]
   have h3 : (ks.length : Int) = 0 := h1.trans h2
   exact cj2 (by omega)
  subst hn
  refine ⟨?_, rfl⟩
  rw [d8, if_neg (by omega)]
  rfl
theorem a24 {nv na d : Nat} {e : c6} (k : e.kind = 3) (hs : i5 nv na (d + 1) e = true) : ∃ a, e.kids = [a] ∧ atomB a = true ∧ i5 nv na d a = true ∧ a.kids = [] := by
 obtain ⟨kd, v, ks⟩ := e
 have k : kd = 3 := k
 subst k
 simp only [i5, S6, ch4, decide_eq_true_eq] at hs
 have h1 : (ks.length : Int) = 1 := hs.1.1.1.1
 match ks, h1, hs with
 | [a], _, hs =>
  have h2 : atomB a = true := by
   have h := hs.2
   unfold az9 at h
   have h : (decide ((3 : Int) ≠ 3) || atomB a) = true := h
   simpa using h
  have h3 : i5 nv na d a = true := ci2.1 hs.1.2 a (ck4.2 rfl)
  exact ⟨a, rfl, h2, h3, (aM3 (ars := []) (pc := 0) (s := ([], [])) h2 h3).2⟩
theorem a23 {ars : List Int} {pc : Int} {nv na d : Nat} {e : c6} {s : LnS} (k : e.kind = 3) (hs : i5 nv na (d + 1) e = true) : x8 ars pc e.kids s = (s, e.kids) := by
 obtain ⟨a, h1, h2, h3, -⟩ := a24 k hs
 rw [h1]
 have := aM3 (ars := ars) (pc := pc) (s := s) h2 h3
 simp only [x8, this.1]
structure Grw (nv na d : Nat) (sz : Nat) (s : LnS) (r : LnS) : Prop where
 lo : s.1.length ≤ r.1.length
 hi : r.1.length ≤ s.1.length + sz
 st : j6 r.2 ≤ j6 s.2 + 40 * sz
 len : s.2.length ≤ r.2.length
theorem by4 (v a : Int) (i : c6) (hi : i.kids = []) : ∀ n : Nat, j6 (rdL v a i n) = 2 + 9 * n
 | 0 => rfl
 | n + 1 => by
  have h0 : z7 i = 0 := by cases i; simp only [c6.kids] at hi; subst hi; rfl
  rw [rdL, w6, by4 v a i hi n]
  simp [j6, K3, z7, D9, h0]; omega
theorem aV4 (v a : Int) (i : c6) : ∀ n : Nat, (rdL v a i n).length = n + 1
 | 0 => rfl
 | n + 1 => by rw [rdL, ch8, aV4 v a i n]; rfl
theorem bj7 (v t : Int) (i : c6) (m : Int) : ∀ n : Nat, (stL v t i m n).length = n
 | 0 => rfl
 | n + 1 => by rw [stL, ch8, bj7 v t i m n]; rfl
theorem ae6 (m : Int) (e f : c6) : z7 (C1 m e f) ≤ 3 + z7 e + z7 f := by
 unfold C1; split
 ·omega
 ·simp [z7, D9]; omega
theorem bw6 (v t : Int) (i : c6) (m : Int) (hi : i.kids = []) : ∀ n : Nat, j6 (stL v t i m n) ≤ 20 * n
 | 0 => ch9 _
 | n + 1 => by
  have h0 : z7 i = 0 := by cases i; simp only [c6.kids] at hi; subst hi; rfl
  have h1 := bw6 v t i m hi n
  have h2 := ae6 m (ah2 i (n : Int)) (cnE 0)
  have h3 : z7 (ah2 i (n : Int)) = 4 := by simp [z7, D9, h0]
  have h4 : z7 (cnE 0) = 0 := rfl
  rw [stL, w6]
  simp only [j6, K3, z7, D9]
  omega
theorem bp0 {nv na d : Nat} {v : Nat} (h : v < nv) : i5 nv na (d + 1) (vrE (v : Int)) = true := by
 simp [i5, S6, az9, t2, V4, c6.kids, c6.kind, c6.value, h]
theorem bl8 {ars : List Int} {pc : Int} {na d : Nat} (hg : ∀ (e : c6) (s : LnS), i5 s.1.length na d e = true → Grw s.1.length na d (1 + z7 e) s (d8 ars pc e s).1 ∧ i5 (d8 ars pc e s).1.1.length na d (d8 ars pc e s).2 = true ∧ z7 (d8 ars pc e s).2 ≤ z7 e) :
  ∀ (ks : List c6) (s : LnS), (∀ x ∈ ks, i5 s.1.length na d x = true) → Grw s.1.length na d (D9 ks) s (x8 ars pc ks s).1 ∧ (∀ x ∈ (x8 ars pc ks s).2, i5 (x8 ars pc ks s).1.1.length na d x = true) ∧ D9 (x8 ars pc ks s).2 ≤ D9 ks ∧ (x8 ars pc ks s).2.length = ks.length := by
 intro ks
 induction ks with
 | nil => intro s _; exact ⟨⟨ch9 _, ch9 _, ch9 _, ch9 _⟩, fun x hx => (by cases hx), ch9 _, rfl⟩
 | cons x r ih =>
  intro s h
  obtain ⟨g1, g2, g3⟩ := hg x s (h x cl3)
  obtain ⟨k1, k2, k3, k4⟩ := ih (d8 ars pc x s).1 fun y hy => E8 g1.lo d y (h y (cl1 _ hy))
  simp only [x8, D9]
  refine ⟨⟨cj7 g1.lo k1.lo, ?_, ?_, cj7 g1.len k1.len⟩, ?_, ?_, ?_⟩
  ·have := g1.hi; have := k1.hi; omega
  ·have := g1.st; have := k1.st; omega
  ·intro y hy
   rcases cl2.1 hy with rfl | hy
   ·exact E8 k1.lo d _ g2
   ·exact k2 y hy
  ·omega
  ·simp [k4]
theorem am1 (ars : List Int) (pc : Int) (na : Nat) : ∀ (d : Nat) (e : c6) (s : LnS), i5 s.1.length na d e = true →
  Grw s.1.length na d (1 + z7 e) s (d8 ars pc e s).1 ∧ i5 (d8 ars pc e s).1.1.length na d (d8 ars pc e s).2 = true ∧ z7 (d8 ars pc e s).2 ≤ z7 e
 | 0, _, _, hs => by simp [i5] at hs
 | d + 1, e, s, hs => by
  have key := bl8 (ars := ars) (pc := pc) (na := na) (d := d) fun e s h => am1 ars pc na d e s h
  have hs0 := hs
  rw [i5] at hs
  simp only [ch4, ci2] at hs
  obtain ⟨g1, g2, g3, g4⟩ := key e.kids s hs.1.2
  rw [aJ2]
  split
  ·rename_i h
   obtain ⟨a, h1, h2, h3, h4⟩ := a24 h.1 hs0
   have hz : z7 e = 1 := by
    rw [L5, h1]
    have : z7 a = 0 := by rw [L5, h4]; rfl
    simp [D9, this]
   have hr := a23 (ars := ars) (pc := pc) (s := s) h.1 hs0
   have e0 : e.kids.getD 0 ch2 = a := by rw [h1]; rfl
   rw [hr, e0]
   refine ⟨⟨?_, ?_, ?_, ?_⟩, ?_, ?_⟩
   ·simp
   ·simp
   ·simp only [w6, by4 _ _ a h4]; omega
   ·simp
   ·have : i5 (s.1.length + 1) na (d + 1) (vrE (s.1.length : Int)) = true := bp0 (by omega)
    simpa using this
   ·exact ck8 _
  ·rename_i h
   refine ⟨⟨g1.lo, ?_, ?_, g1.len⟩, ?_, ?_⟩
   ·have := g1.hi; rw [L5]; show (x8 ars pc e.kids s).1.1.length ≤ _; omega
   ·have := g1.st; rw [L5]; show j6 (x8 ars pc e.kids s).1.2 ≤ _; omega
   ·rw [i5]
    simp only [ch4, ci2]
    refine ⟨⟨?_, g2⟩, ?_⟩
    ·have h1 := hs.1.1
     simp only [S6, ch4, decide_eq_true_eq] at h1 ⊢
     refine ⟨⟨?_, h1.1.2⟩, Int.lt_of_lt_of_le h1.2 ?_⟩
     ·show (((x8 ars pc e.kids s).2.length : Nat) : Int) = t2 e.kind
      rw [g4]; exact h1.1.1
     ·show V4 s.1.length na e.kind ≤ V4 (x8 ars pc e.kids s).1.1.length na e.kind
      have := g1.lo
      unfold V4
      (repeat' split) <;> omega
    ·by_cases k : e.kind = 3
     ·rw [a23 (ars := ars) (pc := pc) (s := s) k hs0]
      show az9 ⟨e.kind, e.value, e.kids⟩ = true
      rw [c6.eta]; exact hs.2
     ·unfold az9; rw [cl7]; exact .inl (decide_eq_true k)
   ·rw [L5 e]; exact g3
structure GrS (sz : Nat) (x r : LnS) : Prop where
 lo : x.1.length ≤ r.1.length
 hi : r.1.length ≤ x.1.length + 4 * sz
 st : j6 r.2 ≤ j6 x.2 + 130 * sz
 len : x.2.length ≤ r.2.length
theorem GrS.refl (x : LnS) (n : Nat) : GrS n x x := ⟨ch9 _, by omega, by omega, ch9 _⟩
theorem aJ8 {nv na : Nat} {s : c5} (h : D7 nv na s = true) (k : s.kind = 2) : s.index.kids = [] ∧ atomB s.index = true ∧ i5 nv na 5 s.index = true := by
 rw [a57 k] at h
 simp only [ch4] at h
 have hs := aj0 h.2.1
 exact ⟨(aM3 (ars := []) (pc := 0) (s := ([], [])) h.2.2.1 hs).2, h.2.2.1, hs⟩
theorem aD3 {e : c6} (h : e.kids = []) : z7 e = 0 := by rw [L5, h]; rfl
theorem aW6 {ars : List Int} {na nv d : Nat} (ih : ∀ (s : c5) (m pc : Int) (x : LnS), j7 nv na d s = true → nv ≤ x.1.length → GrS (1 + K3 s) x (H3 ars s m pc x)) :
  ∀ (ss : List c5) (m pc : Int) (x : LnS), ss.all (j7 nv na d) = true → nv ≤ x.1.length → GrS (j6 ss) x (m5 ars ss m pc x)
 | [], _, _, x, _, _ => GrS.refl x _
 | s :: r, m, pc, x, h, hx => by
  simp only [List.all_cons, ch4] at h
  have h1 := ih s m pc x h.1 hx
  have h2 := aW6 ih r m pc (H3 ars s m pc x) h.2 (cj7 hx h1.lo)
  rw [m5, j6]
  exact ⟨cj7 h1.lo h2.lo, by have := h1.hi; have := h2.hi; omega, by have := h1.st; have := h2.st; omega, cj7 h1.len h2.len⟩
theorem bl9 (ars : List Int) (na nv : Nat) : ∀ (d : Nat) (s : c5) (m pc : Int) (x : LnS), j7 nv na d s = true → nv ≤ x.1.length → GrS (1 + K3 s) x (H3 ars s m pc x)
 | 0, _, _, _, _, h, _ => by simp [j7] at h
 | d + 1, s, m, pc, x, h, hx => by
  have blk := fun (ss : List c5) (m pc : Int) (x : LnS) => aW6 (ars := ars) (na := na) (nv := nv) (d := d) (fun s m pc x => bl9 ars na nv d s m pc x) ss m pc x
  rw [T2, ch4, ch4] at h
  obtain ⟨hh, hb, he⟩ := h
  have hsz : K3 s = z7 s.index + z7 s.value + j6 s.body + j6 s.els := by cases s; rfl
  by_cases k4 : s.kind = 4
  ·rw [ln4 k4]
   have h1 := blk s.body m pc (x.1, []) hb hx
   have a := h1.lo; have b := h1.hi; have c := h1.st
   simp only [j6] at a b c
   have e0 : z7 nnE = 0 := rfl
   refine ⟨a, ?_, ?_, ?_⟩
   ·simp only; omega
   ·simp only [w6, j6, K3, e0]; omega
   ·simp
  have hv : i5 x.1.length na 5 s.value = true := E8 hx 5 _ (A0 hh k4)
  obtain ⟨g1, g2, g3⟩ := am1 ars pc na 5 s.value x hv
  have a0 := g1.lo; have b0 := g1.hi; have c0 := g1.st; have d0 := g1.len
  have e0 : z7 nnE = 0 := rfl
  have e1 : z7 (cnE 0) = 0 := rfl
  by_cases k3 : s.kind = 3
  ·cases hs : ac0 (j5 x.1 ars 5 s.value)
   ·rw [b67 k3 hs]
    have h1 := blk s.body m (l4 pc (j5 x.1 ars 5 s.value)) ((d8 ars pc s.value x).1.1, []) hb (cj7 hx a0)
    have h2 := blk s.els m (l4 pc (j5 x.1 ars 5 s.value)) ((m5 ars s.body m (l4 pc (j5 x.1 ars 5 s.value)) ((d8 ars pc s.value x).1.1, [])).1, []) he (cj7 hx (cj7 a0 h1.lo))
    have a := h1.lo; have b := h1.hi; have c := h1.st
    have a2 := h2.lo; have b2 := h2.hi; have c2 := h2.st
    simp only [j6] at a b c a2 b2 c2
    refine ⟨?_, ?_, ?_, ?_⟩
    ·simp only; omega
    ·simp only; omega
    ·simp only [w6, j6, K3, e0]; omega
    ·simp; omega
   ·rw [b66 k3 hs]
    generalize hl : l4 pc (j5 x.1 ars 5 s.value) = l
    generalize hy : ifM (d8 ars pc s.value x) m l = y
    have y1 : y.1.length = (d8 ars pc s.value x).1.1.length + 2 := by rw [← hy]; simp
    have y2 : j6 y.2 ≤ j6 (d8 ars pc s.value x).1.2 + 20 + z7 (d8 ars pc s.value x).2 := by
     have m1 := ae6 m (d8 ars pc s.value x).2 (cnE 0)
     have m2 := ae6 m ⟨9, 0, [vrE ((d8 ars pc s.value x).1.1.length : Int), cnE 0]⟩ (cnE 0)
     have m3 : z7 ⟨9, 0, [vrE ((d8 ars pc s.value x).1.1.length : Int), cnE 0]⟩ = 2 := rfl
     rw [← hy]
     simp only [ifM, w6, j6, K3, e0]; omega
    have y3 : (d8 ars pc s.value x).1.2.length ≤ y.2.length := by rw [← hy]; simp
    have h1 := blk s.body ((d8 ars pc s.value x).1.1.length : Int) l y hb (by omega)
    have h2 := blk s.els (((d8 ars pc s.value x).1.1 ++ [l]).length : Int) l (m5 ars s.body ((d8 ars pc s.value x).1.1.length : Int) l y) he (by have := h1.lo; omega)
    have a := h1.lo; have b := h1.hi; have c := h1.st; have d1 := h1.len
    have a2 := h2.lo; have b2 := h2.hi; have c2 := h2.st; have d2 := h2.len
    exact ⟨by omega, by omega, by omega, by omega⟩
  by_cases k5 : s.kind = 5
  ·rw [ln5 k5]
   refine ⟨a0, ?_, ?_, ?_⟩
   ·simp only; omega
   ·simp only [w6, j6, K3, e0]; omega
   ·simp; omega
  by_cases k1 : s.kind = 1
  ·rw [ln1 k1]
   have m1 := ae6 m (d8 ars pc s.value x).2 (vrE s.target)
   have m2 : z7 (vrE s.target) = 0 := rfl
   refine ⟨a0, ?_, ?_, ?_⟩
   ·simp only; omega
   ·simp only [w6, j6, K3, e0]; omega
   ·simp; omega
  by_cases k2 : s.kind = 2
  ·obtain ⟨q1, -, -⟩ := aJ8 hh k2
   cases hs : ac0 (j5 (d8 ars pc s.value x).1.1 ars 5 s.index)
   ·rw [b69 k2 hs]
    have m1 := ae6 m (d8 ars pc s.value x).2 (rdE s.target s.index)
    have m2 : z7 (rdE s.target s.index) = 1 := by simp [z7, D9, aD3 q1]
    have m3 := aD3 q1
    refine ⟨a0, ?_, ?_, ?_⟩
    ·simp only; omega
    ·simp only [w6, j6, K3]; omega
    ·simp; omega
   ·rw [b68 k2 hs]
    have m1 := bw6 ((d8 ars pc s.value x).1.1.length : Int) s.target s.index m q1 4
    refine ⟨?_, ?_, ?_, ?_⟩
    ·simp; omega
    ·simp; omega
    ·simp only [w6, j6, K3, e0]; omega
    ·simp; omega
  ·rw [ao9 ⟨k1, k2, k3, k4, k5⟩] at hh; cases hh
theorem aW7 (ars : List Int) {na nv d : Nat} (ss : List c5) (m pc : Int) (x : LnS) (h : ss.all (j7 nv na d) = true) (hx : nv ≤ x.1.length) : GrS (j6 ss) x (m5 ars ss m pc x) := aW6 (bl9 ars na nv d) ss m pc x h hx
theorem as9 {nv na : Nat} {e : c6} (h : s4 nv na e = true) : z7 e ≤ 14 := by
 unfold s4 at h; simp only [ch4, decide_eq_true_eq] at h; omega
theorem aD1 {e : c6} (h : noneB e = true) : z7 e = 0 := by
 unfold noneB at h; simp only [ch4, decide_eq_true_eq] at h
 exact aD3 (cj2 h.2)
theorem bj4 {nv na d : Nat} (ih : ∀ s : c5, j7 nv na d s = true → 1 + K3 s ≤ 29 * nS s) : ∀ ss : List c5, ss.all (j7 nv na d) = true → j6 ss ≤ 29 * V6 ss
 | [], _ => ch9 _
 | s :: r, h => by
  simp only [List.all_cons, ch4] at h
  have h1 := ih s h.1
  have h2 := bj4 ih r h.2
  rw [j6, V6]; omega
theorem bw0 {nv na : Nat} : ∀ (d : Nat) (s : c5), j7 nv na d s = true → 1 + K3 s ≤ 29 * nS s
 | 0, _, h => by simp [j7] at h
 | d + 1, s, h => by
  rw [T2, ch4, ch4] at h
  obtain ⟨hh, hb, he⟩ := h
  have h1 := bj4 (fun s => bw0 d s) s.body hb
  have h2 := bj4 (fun s => bw0 d s) s.els he
  have hsz : K3 s = z7 s.index + z7 s.value + j6 s.body + j6 s.els := by cases s; rfl
  have hn := ax0 s
  have key : z7 s.index + z7 s.value ≤ 28 := by
   by_cases k4 : s.kind = 4
   ·rw [b82 k4] at hh; simp only [ch4] at hh
    have := aD1 hh.2.1; have := aD1 hh.2.2; omega
   by_cases k3 : s.kind = 3
   ·rw [bR9 k3] at hh; simp only [ch4] at hh
    have := aD1 hh.2.1; have := as9 hh.2.2; omega
   by_cases k15 : s.kind = 1 ∨ s.kind = 5
   ·rw [bD2 k15] at hh; simp only [ch4] at hh
    have := aD1 hh.2.1; have := as9 hh.2.2; omega
   by_cases k2 : s.kind = 2
   ·rw [a57 k2] at hh; simp only [ch4] at hh
    have := as9 hh.2.1; have := as9 hh.2.2.2; omega
   ·rw [ao9 (by omega)] at hh; cases hh
  omega
def aJ1 (p : i6) : LnS := m5 p.arrays p.body (-1) 0 (p.vars, [])
def br5 (p : i6) : i6 := ⟨(aJ1 p).1, p.arrays, (aJ1 p).2⟩
theorem ac5 {p : i6} (h : m0 p = true) : p.vars.length ≤ 12 ∧ p.arrays.length ≤ 2 ∧ j6 p.body ≤ 1740 := by
 unfold m0 F0 af9 at h
 simp only [ch4, decide_eq_true_eq] at h
 have := bj4 (bw0 5) p.body h.1.2
 omega
theorem bm0 {p : i6} (h : m0 p = true) : p.vars.length ≤ (aJ1 p).1.length ∧ (aJ1 p).1.length ≤ 7000 ∧ j6 (aJ1 p).2 ≤ 230000 := by
 have hz := ac5 h
 have hb : p.body.all (j7 p.vars.length p.arrays.length 5) = true := (aw7 h).2.2.2
 have g := aW7 p.arrays p.body (-1) 0 (p.vars, []) hb (ch9 _)
 have a := g.lo; have b := g.hi; have c := g.st
 simp only [j6] at a b c
 unfold aJ1
 omega
theorem bL8 {p : i6} (h : m0 p = true) : (br5 p).size ≤ 240000 := by
 have h1 := bm0 h
 have h2 := ac5 h
 show (aJ1 p).1.length + p.arrays.length + j6 (aJ1 p).2 ≤ _
 omega
def okL (p : i6) : Bool := decide ((W6 p false).1 = 0) && m0 (br5 p)
def G9 (p : i6) : i6 := if okL p = true then br5 p else ⟨[], [], []⟩
theorem af1 {p : i6} (h : (W6 p false).1 = 0) : m0 p = true := ((bO3 p false).1 h).1
theorem b54 {p : i6} (h : ¬ (W6 p false).1 = 0) : okL p = false := by unfold okL; rw [decide_eq_false h, Bool.false_and]
theorem bR1 {p : i6} (h : m0 (br5 p) = false) : okL p = false := by unfold okL; rw [h, Bool.and_false]
theorem bR0 {p : i6} (h : (W6 p false).1 = 0) (h2 : m0 (br5 p) = true) : okL p = true := by unfold okL; rw [decide_eq_true h, h2]; rfl
theorem bl7 {p : i6} (h : okL p = false) : G9 p = ⟨[], [], []⟩ := by unfold G9; rw [h]; rfl
theorem bR2 {p : i6} (h : okL p = true) : G9 p = br5 p := by unfold G9; rw [h]; rfl
theorem bX3 (p : i6) : (G9 p).size ≤ 240000 := by
 cases h : okL p
 ·rw [bl7 h]; simp [i6.size, j6]
 ·rw [bR2 h]
  unfold okL at h
  simp only [ch4, decide_eq_true_eq] at h
  exact bL8 (af1 h.1)
theorem aK6 {nv na d k : Nat} {ss : List c5} (hs : ss.all (j7 nv na (d + 1)) = true) (hk : k < ss.length) : D7 nv na (ss.getD k ch2) = true ∧ (ss.getD k ch2).body.all (j7 nv na d) = true ∧ (ss.getD k ch2).els.all (j7 nv na d) = true := by
 have h := ci2.1 hs _ (cj1 hk)
 rw [T2, ch4, ch4] at h
 rw [m6 hk]; exact h
abbrev lqC (l : List d7) (fr : List Int) (at0 : Int) (s : c5) (d : Int) : j9 := ⟨199, [.agg [.ref 0, .ref 1, iA at0], sA s 2, iA d], [rN l, rI fr] ++ sS s, [.dead, .dead] ++ sS s ++ [rN (S8 s d (l, fr, at0)).1, rI (S8 s d (l, fr, at0)).2.1], .agg [.ref 6, .ref 7, iA (S8 s d (l, fr, at0)).2.2]⟩
abbrev lrC (l : List d7) (fr : List Int) (at0 : Int) (ss : List c5) (d : Int) : j9 := ⟨146, [.agg [.ref 0, .ref 1, iA at0], .ref 2, iA d], [rN l, rI fr, dT ss], [.dead, .dead, dT ss, rN (n4 ss d (l, fr, at0)).1, rI (n4 ss d (l, fr, at0)).2.1], .agg [.ref 3, .ref 4, iA (n4 ss d (l, fr, at0)).2.2]⟩
mutual
theorem bZ4 : ∀ (s : c5) (d : Int) (x : N3), x.2.2 ≤ (S8 s d x).2.2 ∧ (S8 s d x).2.2 ≤ x.2.2 + nS s
 | ⟨k, t, i, v, c, b, e⟩, d, x => by
  rw [S8, nS]
  split
  ·have h := ak7 b (d + 1) (H4 (x.1, x.2.1, x.2.2 + 1) x.2.2 [⟨1, 9 + d, c, 0, 0⟩])
   simp only [H4] at h ⊢
   omega
  ·split
   ·simp only [H4]; omega
   ·split
    ·simp only [H4]; omega
    ·split
     ·simp only [H4]; omega
     ·simp only
      generalize hy : H4 (x.1, x.2.1, x.2.2 + 1) x.2.2 (c8 v 0) = y
      have hy1 : y.2.2 = x.2.2 + 1 := by rw [← hy]; rfl
      have h1 := ak7 b (d + 1) (H4 y x.2.2 [⟨9, 0, 0, 0, 0⟩])
      generalize n4 b (d + 1) (H4 y x.2.2 [⟨9, 0, 0, 0, 0⟩]) = z at h1 ⊢
      have h2 := ak7 e (d + 1) (by7 (H4 z x.2.2 [⟨8, 0, 0, 0, 0⟩]).1 y.1.length ((H4 z x.2.2 [⟨8, 0, 0, 0, 0⟩]).1.length : Int), (H4 z x.2.2 [⟨8, 0, 0, 0, 0⟩]).2)
      simp only [H4] at h1 h2 ⊢
      omega
theorem ak7 : ∀ (ss : List c5) (d : Int) (x : N3), x.2.2 ≤ (n4 ss d x).2.2 ∧ (n4 ss d x).2.2 ≤ x.2.2 + V6 ss
 | [], _, x => by simp [n4, V6]
 | s :: r, d, x => by
  have h1 := bZ4 s d x
  have h2 := ak7 r d (S8 s d x)
  rw [n4, V6]
  omega
end
section
variable {l : List d7} {fr : List Int} {at0 d : Int} {s : c5}
theorem cm1 (k : s.kind = 1) : S8 s d (l, fr, at0) = (l ++ c8 s.value 0 ++ [⟨3, s.target, 0, 0, 0⟩], fr ++ ch3 (c8 s.value 0).length at0 ++ [at0], at0 + 1) := by
 obtain ⟨kd, tg, ix, vl, ct, bd, el⟩ := s
 have k : kd = 1 := k
 rw [S8]
 simp only [k, Int.reduceEq, if_true, if_false]
 rfl
theorem cm5 (k : s.kind = 5) : S8 s d (l, fr, at0) = (l ++ c8 s.value 0 ++ [⟨11, 0, 0, 0, 0⟩] ++ [⟨3, s.target, 0, 0, 0⟩], fr ++ ch3 (c8 s.value 0).length at0 ++ [at0] ++ [at0], at0 + 1) := by
 obtain ⟨kd, tg, ix, vl, ct, bd, el⟩ := s
 have k : kd = 5 := k
 rw [S8]
 simp only [k, Int.reduceEq, if_true, if_false]
 rfl
theorem cm2 (k : s.kind = 2) : S8 s d (l, fr, at0) = (l ++ c8 s.value 0 ++ c8 s.index 1 ++ [⟨5, s.target, 1, 0, 0⟩], fr ++ ch3 (c8 s.value 0).length at0 ++ ch3 (c8 s.index 1).length at0 ++ [at0], at0 + 1) := by
 obtain ⟨kd, tg, ix, vl, ct, bd, el⟩ := s
 have k : kd = 2 := k
 rw [S8]
 simp only [k, Int.reduceEq, if_true, if_false]
 rfl
theorem cm4 (k : s.kind = 4) : S8 s d (l, fr, at0) = ((n4 s.body (d + 1) (l ++ [⟨1, 9 + d, s.count, 0, 0⟩], fr ++ [at0], at0 + 1)).1 ++ [⟨10, 9 + d, (((l ++ [(⟨1, 9 + d, s.count, 0, 0⟩ : d7)]).length : Nat) : Int), 0, 0⟩], (n4 s.body (d + 1) (l ++ [⟨1, 9 + d, s.count, 0, 0⟩], fr ++ [at0], at0 + 1)).2.1 ++ [at0], (n4 s.body (d + 1) (l ++ [⟨1, 9 + d, s.count, 0, 0⟩], fr ++ [at0], at0 + 1)).2.2) := by
 obtain ⟨kd, tg, ix, vl, ct, bd, el⟩ := s
 have k : kd = 4 := k
 rw [S8]
 simp only [k, if_true, ch8, ci1, ci6]
 rfl
abbrev w3C (l : List d7) (fr : List Int) (at0 d : Int) (s : c5) : N3 := n4 s.body (d + 1) (l ++ c8 s.value 0 ++ [⟨9, 0, 0, 0, 0⟩], fr ++ ch3 (c8 s.value 0).length at0 ++ [at0], at0 + 1)
abbrev w6C (l : List d7) (fr : List Int) (at0 d : Int) (s : c5) : N3 := n4 s.els (d + 1) (by7 ((w3C l fr at0 d s).1 ++ [⟨8, 0, 0, 0, 0⟩]) (l ++ c8 s.value 0).length ((((w3C l fr at0 d s).1 ++ [(⟨8, 0, 0, 0, 0⟩ : d7)]).length : Nat) : Int), (w3C l fr at0 d s).2.1 ++ [at0], (w3C l fr at0 d s).2.2)
theorem cm3 (k : s.kind = 3) : S8 s d (l, fr, at0) = (bV4 (w6C l fr at0 d s).1 (w3C l fr at0 d s).1.length (((w6C l fr at0 d s).1.length : Nat) : Int), (w6C l fr at0 d s).2.1, (w6C l fr at0 d s).2.2) := by
 obtain ⟨kd, tg, ix, vl, ct, bd, el⟩ := s
 have k : kd = 3 := k
 rw [S8]
 simp only [k, Int.reduceEq, if_false, H4, ch8, ci1, ci6, Nat.add_sub_cancel, cl9, List.replicate_one, w6C, w3C]
 rfl
theorem ak6 (ss : List c5) (d : Int) (x : N3) : (n4 ss d x).1.length = x.1.length + aN5 ss := (N0 ss d x).1
theorem b87 (h : l.length + (4 + 4 * K3 s) ≤ 5000000) : l.length + z7 s.value ≤ 5000000 ∧ (0 : Int) + z7 s.value ≤ 2000000 ∧ (l ++ c8 s.value 0).length + z7 s.index ≤ 5000000 ∧ (1 : Int) + z7 s.index ≤ 2000000 ∧ (l ++ c8 s.value 0 ++ c8 s.index 1).length + 4 ≤ 5000010 := by
 have h1 := Y9 s.value 0
 have h2 := Y9 s.index 1
 have h3 : K3 s = z7 s.index + z7 s.value + j6 s.body + j6 s.els := by cases s; rfl
 simp only [ch8]
 omega
end
abbrev Q2 (s : c5) (l : List d7) (fr : List Int) (at0 : Int) (d : Int) := n4 s.els (d + 1) (((n4 s.body (d + 1) (l ++ c8 s.value 0 ++ [d7.mk 9 0 0 0 0], fr ++ ch3 (c8 s.value 0).length at0 ++ [at0], at0 + 1)).fst ++ [d7.mk 8 0 0 0 0]).set (l ++ c8 s.value 0).length (d7.mk (((n4 s.body (d + 1) (l ++ c8 s.value 0 ++ [d7.mk 9 0 0 0 0], fr ++ ch3 (c8 s.value 0).length at0 ++ [at0], at0 + 1)).fst ++ [d7.mk 8 0 0 0 0]).getD (l ++ c8 s.value 0).length ch2).op (((n4 s.body (d + 1) (l ++ c8 s.value 0 ++ [d7.mk 9 0 0 0 0], fr ++ ch3 (c8 s.value 0).length at0 ++ [at0], at0 + 1)).fst ++ [d7.mk 8 0 0 0 0]).getD (l ++ c8 s.value 0).length ch2).a (((n4 s.body (d + 1) (l ++ c8 s.value 0 ++ [d7.mk 9 0 0 0 0], fr ++ ch3 (c8 s.value 0).length at0 ++ [at0], at0 + 1)).fst ++ [d7.mk 8 0 0 0 0]).length : Int) (((n4 s.body (d + 1) (l ++ c8 s.value 0 ++ [d7.mk 9 0 0 0 0], fr ++ ch3 (c8 s.value 0).length at0 ++ [at0], at0 + 1)).fst ++ [d7.mk 8 0 0 0 0]).getD (l ++ c8 s.value 0).length ch2).c (((n4 s.body (d + 1) (l ++ c8 s.value 0 ++ [d7.mk 9 0 0 0 0], fr ++ ch3 (c8 s.value 0).length at0 ++ [at0], at0 + 1)).fst ++ [d7.mk 8 0 0 0 0]).getD (l ++ c8 s.value 0).length ch2).d), (n4 s.body (d + 1) (l ++ c8 s.value 0 ++ [d7.mk 9 0 0 0 0], fr ++ ch3 (c8 s.value 0).length at0 ++ [at0], at0 + 1)).snd.fst ++ [at0], (n4 s.body (d + 1) (l ++ c8 s.value 0 ++ [d7.mk 9 0 0 0 0], fr ++ ch3 (c8 s.value 0).length at0 ++ [at0], at0 + 1)).snd.snd)
abbrev C9 (s : c5) (l : List d7) (fr : List Int) (at0 : Int) (d : Int) := n4 s.body (d + 1) (l ++ c8 s.value 0 ++ [d7.mk 9 0 0 0 0], fr ++ ch3 (c8 s.value 0).length at0 ++ [at0], at0 + 1)
abbrev av6 (s : c5) (l : List d7) (fr : List Int) (at0 : Int) (d : Int) := n4 s.body (d + 1) (l ++ c8 s.value 0 ++ [d7.mk 1 (9 + d) s.count 0 0], fr ++ ch3 (c8 s.value 0).length at0 ++ [at0], at0 + 1)
abbrev ah8 (s : c5) (l : List d7) (fr : List Int) (at0 : Int) (d : Int) := n4 s.body (d + 1) (l ++ [d7.mk 1 (9 + d) s.count 0 0], fr ++ [at0], at0 + 1)
abbrev V9 (s : c5) (l : List d7) (fr : List Int) (at0 : Int) (d : Int) : List It := [.dead, .dead, dE s.index.kids, dE s.value.kids, dT s.body, dT s.els, .row 86 (D.instrs (S8 s d (l, fr, at0)).fst), .row 3 (D.ints (S8 s d (l, fr, at0)).snd.fst)]
abbrev bu8 (s : c5) (l : List d7) (fr : List Int) (at0 : Int) (d : Int) : It := .row 86 (D.instrs ((Q2 s l fr at0 d).fst.set (C9 s l fr at0 d).fst.length (d7.mk ((Q2 s l fr at0 d).fst.getD (C9 s l fr at0 d).fst.length ch2).op ((Q2 s l fr at0 d).fst.length : Int) ((Q2 s l fr at0 d).fst.getD (C9 s l fr at0 d).fst.length ch2).b ((Q2 s l fr at0 d).fst.getD (C9 s l fr at0 d).fst.length ch2).c ((Q2 s l fr at0 d).fst.getD (C9 s l fr at0 d).fst.length ch2).d)))
abbrev O8 : It := .box [.v (.slice none 0 0), .v (.slice none 0 0), iA 0]
abbrev ad8 (at0 : Int) : It := .box [.ref 9, .ref 10, iA (at0 + 1)]
abbrev aT1 (s : c5) (fr : List Int) (at0 : Int) : It := .row 3 (D.ints (fr ++ ch3 (c8 s.value 0).length at0 ++ [at0]))
abbrev H9 (s : c5) (r0 : List It) : List It := .dead :: .dead :: dE s.index.kids :: dE s.value.kids :: dT s.body :: dT s.els :: r0
abbrev G6 (at0 : Int) (d : Int) (r0 : List (Nat × AV)) : List (Nat × AV) := (2, iA d) :: (3, .ptr 6 0) :: (4, .ptr 7 0) :: (6, .ptr 8 0) :: (7, iA at0) :: r0
theorem a18 (nv na dd : Nat) (s : c5) (hh : D7 nv na s = true) (hbb : s.body.all (j7 nv na dd) = true) (hbe : s.els.all (j7 nv na dd) = true)
    (ih : ∀ (tt : List c5) (l : List d7) (fr : List Int) (at0 d : Int), tt.all (j7 nv na dd) = true → l.length + 4 * j6 tt ≤ 5000000 → fr.length = l.length → 0 ≤ d → d + dd ≤ 100 → 0 ≤ at0 → at0 + V6 tt ≤ 5000000 → j9.ok Tryz.prog (lrC l fr at0 tt d))
    (l : List d7) (fr : List Int) (at0 d : Int) (r1 : l.length + (4 + 4 * K3 s) ≤ 5000000) (r2 : fr.length = l.length) (r3 : 0 ≤ d) (r4 : d + (dd + 1) ≤ 100) (r5 : 0 ≤ at0) (r6 : at0 + nS s ≤ 5000000) : j9.ok Tryz.prog (lqC l fr at0 s d) := by
  refine E9 130 Tryz.func199 [.row 86 (D.instrs l), .row 3 (D.ints fr), dE s.index.kids, dE s.value.kids, dT s.body, dT s.els] [(0, .agg [.ref 0, .ref 1, iA at0]), (1, sA s 2), (2, iA d)] fun G => ?_; have hn := ax0 s; have hft := b87 r1
  have hsz : K3 s = z7 s.index + z7 s.value + j6 s.body + j6 s.els := by cases s; rfl
  have hv := Y9 s.value 0; refine wp_seq (j8 G d9 [0, 1, 2, 3, 4, 5, 6, 14, 22] [.row 86 (D.instrs l), .row 3 (D.ints fr), dE s.index.kids, dE s.value.kids, dT s.body, dT s.els, .box [.ref 0, .ref 1, iA at0], .box (sL s 2), O8] [(2, iA d), (3, .ptr 6 0), (4, .ptr 7 0), (6, .ptr 8 0)] fun G => b6 (wp_seq (k8 G d9 [(7, iA at0)] fun G => b6 (wp_seq (N7 G d9 (rg 9) [.row 86 (D.instrs l), .row 3 (D.ints fr), dE s.index.kids, dE s.value.kids, dT s.body, dT s.els, .box [.ref 0, .ref 1, iA (at0 + 1)], .box (sL s 2), O8] (G6 at0 d []) [wO (at0 + 1)] (o1 (by omega)) fun G => b6 (wp_seq (wp_seq (k8 G d9 [(20, bA (s.kind != 4))] fun G => b6 (rcN G (fun h0 q0 => ?_) fun h0 q0 => ?_)))))))))
  ·
   refine wp_skip (b6 (wp_seq (wp_seq (k8 G d9 [(27, iA s.kind)] fun G => b6 (wp_block (wp_seq (D2 G d9 (G6 at0 d [(27, iA s.kind), (28, bA (s.kind == 1))]) fun G => b6 ?_))))))); cases h1 : (s.kind == 1)
   ·
    have q1 := ne_of_beq_false h1; refine rF G _ h1 (wp_seq (D2 G d9 (G6 at0 d [(27, iA s.kind), (36, bA (s.kind == 5))]) fun G => b6 ?_)); cases h2 : (s.kind == 5)
    ·
     have q2 := ne_of_beq_false h2; refine rF G _ h2 (wp_seq (D2 G d9 (G6 at0 d [(27, iA s.kind), (48, bA (s.kind == 2))]) fun G => b6 ?_)); cases h3 : (s.kind == 2)
     ·
      have q3 := ne_of_beq_false h3; refine rF G _ h3 (wp_seq (D2 G d9 (G6 at0 d [(61, bA (s.kind == 3))]) fun G => b6 ?_)); cases h4 : (s.kind == 3)
      · have q4 := ne_of_beq_false h4; refine rF G _ h4 (wp_skip (l0 (b6 (wp_seq (E0 G d9 [(10, iA (9 + d))] [wO ((9 : Int) + d)] (o1 (by omega)) fun G => b6 (wp_seq (j8 G (s8 6 [0, 1] (G4 l fr (at0 + 1) at0 1 (9 + d) s.count 0 0 (by omega) (by omega))) [0, 1, 2, 3, 4, 5, 6, 7, 8, 57, 58] (H9 s [ad8 at0, .box (sL s 2), O8, .row 86 (D.instrs (l ++ [d7.mk 1 (9 + d) s.count 0 0])), .row 3 (D.ints (fr ++ [at0]))]) (G6 at0 d [(10, iA (9 + d))]) fun G => b6 (wp_seq (k8 G d9 [(11, iA ((l ++ [d7.mk 1 (9 + d) s.count 0 0]).length : Int))] fun G => b6 (wp_seq (N7 G (s8 5 [9, 10, 4] (ih s.body (l ++ [d7.mk 1 (9 + d) s.count 0 0]) (fr ++ [at0]) (at0 + 1) (d + 1) (by assumption) (by simp only [ch8, cj3, ci1, ci6, r2]; have := hft.2.2.2.2; simp only [ch8] at this; omega) (by have := hft.2.2.2.2; simp only [ch8, ci1, ci6] at this ⊢; omega) (by omega) (by omega) (by omega) (by omega))) [0, 1, 2, 3, 4, 5, 6, 8, 51, 52] (H9 s [.box [.ref 8, .ref 9, iA (ah8 s l fr at0 d).snd.snd], O8, .row 86 (D.instrs (ah8 s l fr at0 d).fst), .row 3 (D.ints (ah8 s l fr at0 d).snd.fst)]) [(3, .ptr 6 0), (6, .ptr 7 0), (7, iA at0), (10, iA (9 + d)), (11, iA ((l ++ [d7.mk 1 (9 + d) s.count 0 0]).length : Int))] [wO (d + 1)] (o1 (by omega)) fun G => b6 (wp_seq (j8 G (s8 5 [8, 9] (G4 ((n4 s.body (d + 1) (l ++ [d7.mk 1 (9 + d) s.count 0 0], fr ++ [at0], at0 + 1)).fst) ((n4 s.body (d + 1) (l ++ [d7.mk 1 (9 + d) s.count 0 0], fr ++ [at0], at0 + 1)).snd.fst) ((n4 s.body (d + 1) (l ++ [d7.mk 1 (9 + d) s.count 0 0], fr ++ [at0], at0 + 1)).snd.snd) at0 10 (9 + d) (((l ++ [d7.mk 1 (9 + d) s.count 0 0]).length : Int)) 0 0 (by have := (N0 s.body (d + 1) (l ++ [⟨1, 9 + d, s.count, 0, 0⟩], fr ++ [at0], at0 + 1)); have := R0 s.body; simp only [ch8, ci1, ci6] at *; omega) (by have := (N0 s.body (d + 1) (l ++ [⟨1, 9 + d, s.count, 0, 0⟩], fr ++ [at0], at0 + 1)); have := R0 s.body; simp only [ch8, ci1, ci6] at *; omega))) [0, 1, 2, 3, 4, 5, 7, 50, 51] (H9 s [.box [.ref 7, .ref 8, iA (ah8 s l fr at0 d).snd.snd], .row 86 (D.instrs ((ah8 s l fr at0 d).fst ++ [d7.mk 10 (9 + d) ((l ++ [d7.mk 1 (9 + d) s.count 0 0]).length : Int) 0 0])), .row 3 (D.ints ((ah8 s l fr at0 d).snd.fst ++ [at0]))]) [(6, .ptr 6 0)] fun G => b6 (wp_ret ?_)))))))))))))); exact U2 (.agg [.ref 7, .ref 8, iA (n4 s.body (d + 1) (l ++ [d7.mk 1 (9 + d) s.count 0 0], fr ++ [at0], at0 + 1)).snd.snd]) G [0, 1, 2, 3, 4, 5, 7, 8] (by have e1 : ((S8 s d (l, fr, at0)).snd.snd : Int) = ((n4 s.body (d + 1) (l ++ [d7.mk 1 (9 + d) s.count 0 0], fr ++ [at0], at0 + 1)).snd.snd) := (by have h9 := congrArg (fun x : N3 => x.2.2) (cm4 (l := l) (fr := fr) (at0 := at0) (d := d) (s := s) (by omega)); exact h9); (first | rw [e1] | simp only [e1]) <;> rfl) (by show _ = mR [0, 1, 2, 3, 4, 5, 7, 8] (V9 s l fr at0 d); unfold V9; have e1 : ((S8 s d (l, fr, at0)).fst : List d7) = ((ah8 s l fr at0 d).fst ++ [d7.mk 10 (9 + d) ((l ++ [d7.mk 1 (9 + d) s.count 0 0]).length : Int) 0 0]) := (congrArg Prod.fst (cm4 (by omega))); have e2 : ((S8 s d (l, fr, at0)).snd.fst : List Int) = ((ah8 s l fr at0 d).snd.fst ++ [at0]) := (congrArg (fun x : N3 => x.2.1) (cm4 (by omega))); (first | rw [e1, e2] | simp only [e1, e2]) <;> rfl)
      · have q4 := eq_of_beq h4; exact False.elim (by omega)
     · have q3 := eq_of_beq h3; exact False.elim (by omega)
    · have q2 := eq_of_beq h2; exact False.elim (by omega)
   · have q1 := eq_of_beq h1; exact False.elim (by omega)
  ·
   refine j8 G (s8 4 [0, 1, 3] (a75 s.value l fr (at0 + 1) at0 0 (by omega) (by omega) (by omega) (by assumption))) [0, 1, 2, 3, 4, 5, 6, 7, 8, 41, 42] (H9 s [ad8 at0, .box (sL s 2), O8, .row 86 (D.instrs (l ++ c8 s.value 0)), .row 3 (D.ints (fr ++ ch3 (c8 s.value 0).length at0))]) (G6 at0 d []) fun G => b6 (wp_seq (wp_seq (k8 G d9 [(27, iA s.kind)] fun G => b6 (wp_block (wp_seq (k8 G d9 [(28, bA (s.kind == 1))] fun G => b6 (J7 G (fun h5 q5 => ?_) fun h5 q5 => ?_)))))))
   ·
    refine wp_seq (k8 G d9 [(36, bA (s.kind == 5))] fun G => b6 (J7 G (fun h6 q6 => ?_) fun h6 q6 => ?_))
    ·
     refine wp_seq (k8 G d9 [(48, bA (s.kind == 2))] fun G => b6 (J7 G (fun h7 q7 => ?_) fun h7 q7 => ?_))
     ·
      refine wp_seq (k8 G d9 [(61, bA (s.kind == 3))] fun G => b6 (J7 G (fun h8 q8 => ?_) fun h8 q8 => ?_))
      · refine wp_skip (l0 (b6 (wp_seq (E0 G d9 [(10, iA (9 + d))] [wO ((9 : Int) + d)] (o1 (by omega)) fun G => b6 (wp_seq (j8 G (s8 6 [9, 10] (G4 (l ++ c8 s.value 0) (fr ++ ch3 (c8 s.value 0).length at0) (at0 + 1) at0 1 (9 + d) s.count 0 0 (by omega) (by simp only [ch8, cj3, ci1, ci6, r2]; have := hft.2.2.2.2; simp only [ch8] at this; omega))) [0, 1, 2, 3, 4, 5, 6, 7, 8, 59, 60] (H9 s [ad8 at0, .box (sL s 2), O8, .row 86 (D.instrs (l ++ c8 s.value 0 ++ [d7.mk 1 (9 + d) s.count 0 0])), aT1 s fr at0]) (G6 at0 d [(10, iA (9 + d))]) fun G => b6 (wp_seq (k8 G d9 [(11, iA ((l ++ c8 s.value 0 ++ [d7.mk 1 (9 + d) s.count 0 0]).length : Int))] fun G => b6 (wp_seq (N7 G (s8 5 [9, 10, 4] (ih s.body (l ++ c8 s.value 0 ++ [d7.mk 1 (9 + d) s.count 0 0]) (fr ++ ch3 (c8 s.value 0).length at0 ++ [at0]) (at0 + 1) (d + 1) (by assumption) (by simp only [ch8, cj3, ci1, ci6, r2]; have := hft.2.2.2.2; simp only [ch8] at this; omega) (by exact absurd (hh.symm.trans (ao9 (by omega))) (by decide)) (by omega) (by omega) (by omega) (by omega))) [0, 1, 2, 3, 4, 5, 6, 8, 51, 52] (H9 s [.box [.ref 8, .ref 9, iA (av6 s l fr at0 d).snd.snd], O8, .row 86 (D.instrs (av6 s l fr at0 d).fst), .row 3 (D.ints (av6 s l fr at0 d).snd.fst)]) [(3, .ptr 6 0), (6, .ptr 7 0), (7, iA at0), (10, iA (9 + d)), (11, iA ((l ++ c8 s.value 0 ++ [d7.mk 1 (9 + d) s.count 0 0]).length : Int))] [wO (d + 1)] (o1 (by omega)) fun G => b6 (wp_seq (j8 G (s8 5 [8, 9] (G4 ((n4 s.body (d + 1) (l ++ c8 s.value 0 ++ [d7.mk 1 (9 + d) s.count 0 0], fr ++ ch3 (c8 s.value 0).length at0 ++ [at0], at0 + 1)).fst) ((n4 s.body (d + 1) (l ++ c8 s.value 0 ++ [d7.mk 1 (9 + d) s.count 0 0], fr ++ ch3 (c8 s.value 0).length at0 ++ [at0], at0 + 1)).snd.fst) ((n4 s.body (d + 1) (l ++ c8 s.value 0 ++ [d7.mk 1 (9 + d) s.count 0 0], fr ++ ch3 (c8 s.value 0).length at0 ++ [at0], at0 + 1)).snd.snd) at0 10 (9 + d) (((l ++ c8 s.value 0 ++ [d7.mk 1 (9 + d) s.count 0 0]).length : Int)) 0 0 (by exact absurd (hh.symm.trans (ao9 (by omega))) (by decide)) (by exact absurd (hh.symm.trans (ao9 (by omega))) (by decide)))) [0, 1, 2, 3, 4, 5, 7, 50, 51] (H9 s [.box [.ref 7, .ref 8, iA (av6 s l fr at0 d).snd.snd], .row 86 (D.instrs ((av6 s l fr at0 d).fst ++ [d7.mk 10 (9 + d) ((l ++ c8 s.value 0 ++ [d7.mk 1 (9 + d) s.count 0 0]).length : Int) 0 0])), .row 3 (D.ints ((av6 s l fr at0 d).snd.fst ++ [at0]))]) [(6, .ptr 6 0)] fun G => b6 (wp_ret ?_))))))))))))); exact U2 (.agg [.ref 7, .ref 8, iA (n4 s.body (d + 1) (l ++ c8 s.value 0 ++ [d7.mk 1 (9 + d) s.count 0 0], fr ++ ch3 (c8 s.value 0).length at0 ++ [at0], at0 + 1)).snd.snd]) G [0, 1, 2, 3, 4, 5, 7, 8] (by have e1 : ((S8 s d (l, fr, at0)).snd.snd : Int) = ((n4 s.body (d + 1) (l ++ c8 s.value 0 ++ [d7.mk 1 (9 + d) s.count 0 0], fr ++ ch3 (c8 s.value 0).length at0 ++ [at0], at0 + 1)).snd.snd) := (by exact absurd (hh.symm.trans (ao9 (by omega))) (by decide)); (first | rw [e1] | simp only [e1]) <;> rfl) (by show _ = mR [0, 1, 2, 3, 4, 5, 7, 8] (V9 s l fr at0 d); unfold V9; have e1 : ((S8 s d (l, fr, at0)).fst : List d7) = ((n4 s.body (d + 1) (l ++ c8 s.value 0 ++ [d7.mk 1 (9 + d) s.count 0 0], fr ++ ch3 (c8 s.value 0).length at0 ++ [at0], at0 + 1)).fst ++ [d7.mk 10 (9 + d) ((l ++ c8 s.value 0 ++ [d7.mk 1 (9 + d) s.count 0 0]).length : Int) 0 0]) := (by exact absurd (hh.symm.trans (ao9 (by omega))) (by decide)); have e2 : ((S8 s d (l, fr, at0)).snd.fst : List Int) = ((n4 s.body (d + 1) (l ++ c8 s.value 0 ++ [d7.mk 1 (9 + d) s.count 0 0], fr ++ ch3 (c8 s.value 0).length at0 ++ [at0], at0 + 1)).snd.fst ++ [at0]) := (by exact absurd (hh.symm.trans (ao9 (by omega))) (by decide)); (first | rw [e1, e2] | simp only [e1, e2]) <;> rfl)
      ·
       refine wp_seq (k8 G d9 [(8, iA ((l ++ c8 s.value 0).length : Int))] fun G => b6 (wp_seq (j8 G (s8 3 [9, 10] (G4 (l ++ c8 s.value 0) (fr ++ ch3 (c8 s.value 0).length at0) (at0 + 1) at0 9 0 0 0 0 (by omega) (by simp only [ch8, cj3, ci1, ci6, r2]; have := hft.2.2.2.2; simp only [ch8] at this; omega))) [0, 1, 2, 3, 4, 5, 6, 7, 8, 35, 36] (H9 s [ad8 at0, .box (sL s 2), O8, .row 86 (D.instrs (l ++ c8 s.value 0 ++ [d7.mk 9 0 0 0 0])), aT1 s fr at0]) (G6 at0 d [(8, iA ((l ++ c8 s.value 0).length : Int))]) fun G => b6 (wp_seq (N7 G (s8 5 [9, 10, 4] (ih s.body (l ++ c8 s.value 0 ++ [d7.mk 9 0 0 0 0]) (fr ++ ch3 (c8 s.value 0).length at0 ++ [at0]) (at0 + 1) (d + 1) (by assumption) (by simp only [ch8, cj3, ci1, ci6, r2]; have := hft.2.2.2.2; simp only [ch8] at this; omega) (by simp; omega) (by omega) (by omega) (by omega) (by omega))) [0, 1, 2, 3, 4, 5, 6, 7, 8, 51, 52] (H9 s [.box [.ref 9, .ref 10, iA (C9 s l fr at0 d).snd.snd], .box (sL s 2), O8, .row 86 (D.instrs (C9 s l fr at0 d).fst), .row 3 (D.ints (C9 s l fr at0 d).snd.fst)]) (G6 at0 d [(8, iA ((l ++ c8 s.value 0).length : Int))]) [wO (d + 1)] (o1 (by omega)) fun G => b6 (wp_seq (k8 G d9 [(9, iA ((C9 s l fr at0 d).fst.length : Int))] fun G => b6 (wp_seq (j8 G (s8 3 [9, 10] (G4 ((n4 s.body (d + 1) (l ++ c8 s.value 0 ++ [d7.mk 9 0 0 0 0], fr ++ ch3 (c8 s.value 0).length at0 ++ [at0], at0 + 1)).fst) ((n4 s.body (d + 1) (l ++ c8 s.value 0 ++ [d7.mk 9 0 0 0 0], fr ++ ch3 (c8 s.value 0).length at0 ++ [at0], at0 + 1)).snd.fst) ((n4 s.body (d + 1) (l ++ c8 s.value 0 ++ [d7.mk 9 0 0 0 0], fr ++ ch3 (c8 s.value 0).length at0 ++ [at0], at0 + 1)).snd.snd) at0 8 0 0 0 0 (by have h9 := N0 s.body (d + 1) (l ++ c8 s.value 0 ++ [⟨9, 0, 0, 0, 0⟩], fr ++ ch3 (c8 s.value 0).length at0 ++ [at0], at0 + 1); have h8 := R0 s.body; simp only [ch8, ci1, ci6, cj3, cj9, r2] at h9 ⊢; omega) (by have h9 := N0 s.body (d + 1) (l ++ c8 s.value 0 ++ [⟨9, 0, 0, 0, 0⟩], fr ++ ch3 (c8 s.value 0).length at0 ++ [at0], at0 + 1); have h8 := R0 s.body; simp only [ch8, ci1, ci6, cj3, cj9, r2] at h9 ⊢; omega))) [0, 1, 2, 3, 4, 5, 6, 7, 8, 35, 36] (H9 s [.box [.ref 9, .ref 10, iA (C9 s l fr at0 d).snd.snd], .box (sL s 2), O8, .row 86 (D.instrs ((C9 s l fr at0 d).fst ++ [d7.mk 8 0 0 0 0])), .row 3 (D.ints ((C9 s l fr at0 d).snd.fst ++ [at0]))]) (G6 at0 d [(8, iA ((l ++ c8 s.value 0).length : Int)), (9, iA ((C9 s l fr at0 d).fst.length : Int))]) fun G => b6 (wp_seq (N7 G d9 (rg 11) (H9 s [.box [.ref 9, .ref 10, iA (C9 s l fr at0 d).snd.snd], .box (sL s 2), O8, .row 86 (D.instrs (((C9 s l fr at0 d).fst ++ [d7.mk 8 0 0 0 0]).set (l ++ c8 s.value 0).length (d7.mk (((C9 s l fr at0 d).fst ++ [d7.mk 8 0 0 0 0]).getD (l ++ c8 s.value 0).length ch2).op (((C9 s l fr at0 d).fst ++ [d7.mk 8 0 0 0 0]).getD (l ++ c8 s.value 0).length ch2).a (((C9 s l fr at0 d).fst ++ [d7.mk 8 0 0 0 0]).length : Int) (((C9 s l fr at0 d).fst ++ [d7.mk 8 0 0 0 0]).getD (l ++ c8 s.value 0).length ch2).c (((C9 s l fr at0 d).fst ++ [d7.mk 8 0 0 0 0]).getD (l ++ c8 s.value 0).length ch2).d))), .row 3 (D.ints ((C9 s l fr at0 d).snd.fst ++ [at0]))]) (G6 at0 d [(9, iA ((C9 s l fr at0 d).fst.length : Int))]) [(0 : Int) ≤ ((l ++ c8 s.value (0 : Int)).length : Int), ((l ++ c8 s.value (0 : Int)).length : Int) < (((n4 s.body (d + 1) (l ++ c8 s.value (0 : Int) ++ [d7.mk (9 : Int) (0 : Int) (0 : Int) (0 : Int) (0 : Int)], fr ++ ch3 (c8 s.value (0 : Int)).length at0 ++ [at0], at0 + 1)).fst ++ [d7.mk (8 : Int) (0 : Int) (0 : Int) (0 : Int) (0 : Int)]).length : Int), (l ++ c8 s.value (0 : Int)).length < ((n4 s.body (d + 1) (l ++ c8 s.value (0 : Int) ++ [d7.mk (9 : Int) (0 : Int) (0 : Int) (0 : Int) (0 : Int)], fr ++ ch3 (c8 s.value (0 : Int)).length at0 ++ [at0], at0 + 1)).fst ++ [d7.mk (8 : Int) (0 : Int) (0 : Int) (0 : Int) (0 : Int)]).length] ⟨(by omega), (by simp only [ak6, cj9, ch8, ci1, ci6]; omega), (by simp only [ak6, cj9, ch8, ci1, ci6]; omega), ci7⟩ fun G => ?_)))))))))))
       refine b6 (wp_seq (N7 G (s8 5 [9, 10, 5] (ih s.els (((n4 s.body (d + 1) (l ++ c8 s.value 0 ++ [d7.mk 9 0 0 0 0], fr ++ ch3 (c8 s.value 0).length at0 ++ [at0], at0 + 1)).fst ++ [d7.mk 8 0 0 0 0]).set (l ++ c8 s.value 0).length (d7.mk (((n4 s.body (d + 1) (l ++ c8 s.value 0 ++ [d7.mk 9 0 0 0 0], fr ++ ch3 (c8 s.value 0).length at0 ++ [at0], at0 + 1)).fst ++ [d7.mk 8 0 0 0 0]).getD (l ++ c8 s.value 0).length ch2).op (((n4 s.body (d + 1) (l ++ c8 s.value 0 ++ [d7.mk 9 0 0 0 0], fr ++ ch3 (c8 s.value 0).length at0 ++ [at0], at0 + 1)).fst ++ [d7.mk 8 0 0 0 0]).getD (l ++ c8 s.value 0).length ch2).a (((n4 s.body (d + 1) (l ++ c8 s.value 0 ++ [d7.mk 9 0 0 0 0], fr ++ ch3 (c8 s.value 0).length at0 ++ [at0], at0 + 1)).fst ++ [d7.mk 8 0 0 0 0]).length : Int) (((n4 s.body (d + 1) (l ++ c8 s.value 0 ++ [d7.mk 9 0 0 0 0], fr ++ ch3 (c8 s.value 0).length at0 ++ [at0], at0 + 1)).fst ++ [d7.mk 8 0 0 0 0]).getD (l ++ c8 s.value 0).length ch2).c (((n4 s.body (d + 1) (l ++ c8 s.value 0 ++ [d7.mk 9 0 0 0 0], fr ++ ch3 (c8 s.value 0).length at0 ++ [at0], at0 + 1)).fst ++ [d7.mk 8 0 0 0 0]).getD (l ++ c8 s.value 0).length ch2).d)) ((n4 s.body (d + 1) (l ++ c8 s.value 0 ++ [d7.mk 9 0 0 0 0], fr ++ ch3 (c8 s.value 0).length at0 ++ [at0], at0 + 1)).snd.fst ++ [at0]) ((n4 s.body (d + 1) (l ++ c8 s.value 0 ++ [d7.mk 9 0 0 0 0], fr ++ ch3 (c8 s.value 0).length at0 ++ [at0], at0 + 1)).snd.snd) (d + 1) (by assumption) (by have h9 := N0 s.body (d + 1) (l ++ c8 s.value 0 ++ [⟨9, 0, 0, 0, 0⟩], fr ++ ch3 (c8 s.value 0).length at0 ++ [at0], at0 + 1); have h8 := R0 s.body; simp only [ch8, ci1, ci6, cj3, cj9, r2] at h9 ⊢; omega) (by have h9 := N0 s.body (d + 1) (l ++ c8 s.value 0 ++ [⟨9, 0, 0, 0, 0⟩], fr ++ ch3 (c8 s.value 0).length at0 ++ [at0], at0 + 1); have h8 := R0 s.body; simp only [ch8, ci1, ci6, cj3, cj9, r2] at h9 ⊢; omega) (by omega) (by omega) (by have h9 := ak7 s.body (d + 1) (l ++ c8 s.value 0 ++ [⟨9, 0, 0, 0, 0⟩], fr ++ ch3 (c8 s.value 0).length at0 ++ [at0], at0 + 1); simp only at h9; omega) (by have h9 := ak7 s.body (d + 1) (l ++ c8 s.value 0 ++ [⟨9, 0, 0, 0, 0⟩], fr ++ ch3 (c8 s.value 0).length at0 ++ [at0], at0 + 1); simp only at h9; omega))) [0, 1, 2, 3, 4, 5, 6, 7, 8, 51, 52] (H9 s [.box [.ref 9, .ref 10, iA (Q2 s l fr at0 d).snd.snd], .box (sL s 2), O8, .row 86 (D.instrs (Q2 s l fr at0 d).fst), .row 3 (D.ints (Q2 s l fr at0 d).snd.fst)]) (G6 at0 d [(9, iA ((C9 s l fr at0 d).fst.length : Int))]) [wO (d + 1)] (o1 (by omega)) fun G => b6 (wp_seq (N7 G d9 (rg 11) (H9 s [.box [.ref 9, .ref 10, iA (Q2 s l fr at0 d).snd.snd], .box (sL s 2), O8, bu8 s l fr at0 d, .row 3 (D.ints (Q2 s l fr at0 d).snd.fst)]) (G6 at0 d []) [(0 : Int) ≤ ((n4 s.body (d + 1) (l ++ c8 s.value (0 : Int) ++ [d7.mk (9 : Int) (0 : Int) (0 : Int) (0 : Int) (0 : Int)], fr ++ ch3 (c8 s.value (0 : Int)).length at0 ++ [at0], at0 + 1)).fst.length : Int), ((n4 s.body (d + 1) (l ++ c8 s.value (0 : Int) ++ [d7.mk (9 : Int) (0 : Int) (0 : Int) (0 : Int) (0 : Int)], fr ++ ch3 (c8 s.value (0 : Int)).length at0 ++ [at0], at0 + 1)).fst.length : Int) < ((n4 s.els (d + 1) (((n4 s.body (d + 1) (l ++ c8 s.value (0 : Int) ++ [d7.mk (9 : Int) (0 : Int) (0 : Int) (0 : Int) (0 : Int)], fr ++ ch3 (c8 s.value (0 : Int)).length at0 ++ [at0], at0 + 1)).fst ++ [d7.mk (8 : Int) (0 : Int) (0 : Int) (0 : Int) (0 : Int)]).set (l ++ c8 s.value (0 : Int)).length (d7.mk (((n4 s.body (d + 1) (l ++ c8 s.value (0 : Int) ++ [d7.mk (9 : Int) (0 : Int) (0 : Int) (0 : Int) (0 : Int)], fr ++ ch3 (c8 s.value (0 : Int)).length at0 ++ [at0], at0 + 1)).fst ++ [d7.mk (8 : Int) (0 : Int) (0 : Int) (0 : Int) (0 : Int)]).getD (l ++ c8 s.value (0 : Int)).length ch2).op (((n4 s.body (d + 1) (l ++ c8 s.value (0 : Int) ++ [d7.mk (9 : Int) (0 : Int) (0 : Int) (0 : Int) (0 : Int)], fr ++ ch3 (c8 s.value (0 : Int)).length at0 ++ [at0], at0 + 1)).fst ++ [d7.mk (8 : Int) (0 : Int) (0 : Int) (0 : Int) (0 : Int)]).getD (l ++ c8 s.value (0 : Int)).length ch2).a (((n4 s.body (d + 1) (l ++ c8 s.value (0 : Int) ++ [d7.mk (9 : Int) (0 : Int) (0 : Int) (0 : Int) (0 : Int)], fr ++ ch3 (c8 s.value (0 : Int)).length at0 ++ [at0], at0 + 1)).fst ++ [d7.mk (8 : Int) (0 : Int) (0 : Int) (0 : Int) (0 : Int)]).length : Int) (((n4 s.body (d + 1) (l ++ c8 s.value (0 : Int) ++ [d7.mk (9 : Int) (0 : Int) (0 : Int) (0 : Int) (0 : Int)], fr ++ ch3 (c8 s.value (0 : Int)).length at0 ++ [at0], at0 + 1)).fst ++ [d7.mk (8 : Int) (0 : Int) (0 : Int) (0 : Int) (0 : Int)]).getD (l ++ c8 s.value (0 : Int)).length ch2).c (((n4 s.body (d + 1) (l ++ c8 s.value (0 : Int) ++ [d7.mk (9 : Int) (0 : Int) (0 : Int) (0 : Int) (0 : Int)], fr ++ ch3 (c8 s.value (0 : Int)).length at0 ++ [at0], at0 + 1)).fst ++ [d7.mk (8 : Int) (0 : Int) (0 : Int) (0 : Int) (0 : Int)]).getD (l ++ c8 s.value (0 : Int)).length ch2).d), (n4 s.body (d + 1) (l ++ c8 s.value (0 : Int) ++ [d7.mk (9 : Int) (0 : Int) (0 : Int) (0 : Int) (0 : Int)], fr ++ ch3 (c8 s.value (0 : Int)).length at0 ++ [at0], at0 + 1)).snd.fst ++ [at0], (n4 s.body (d + 1) (l ++ c8 s.value (0 : Int) ++ [d7.mk (9 : Int) (0 : Int) (0 : Int) (0 : Int) (0 : Int)], fr ++ ch3 (c8 s.value (0 : Int)).length at0 ++ [at0], at0 + 1)).snd.snd)).fst.length : Int), (n4 s.body (d + 1) (l ++ c8 s.value (0 : Int) ++ [d7.mk (9 : Int) (0 : Int) (0 : Int) (0 : Int) (0 : Int)], fr ++ ch3 (c8 s.value (0 : Int)).length at0 ++ [at0], at0 + 1)).fst.length < (n4 s.els (d + 1) (((n4 s.body (d + 1) (l ++ c8 s.value (0 : Int) ++ [d7.mk (9 : Int) (0 : Int) (0 : Int) (0 : Int) (0 : Int)], fr ++ ch3 (c8 s.value (0 : Int)).length at0 ++ [at0], at0 + 1)).fst ++ [d7.mk (8 : Int) (0 : Int) (0 : Int) (0 : Int) (0 : Int)]).set (l ++ c8 s.value (0 : Int)).length (d7.mk (((n4 s.body (d + 1) (l ++ c8 s.value (0 : Int) ++ [d7.mk (9 : Int) (0 : Int) (0 : Int) (0 : Int) (0 : Int)], fr ++ ch3 (c8 s.value (0 : Int)).length at0 ++ [at0], at0 + 1)).fst ++ [d7.mk (8 : Int) (0 : Int) (0 : Int) (0 : Int) (0 : Int)]).getD (l ++ c8 s.value (0 : Int)).length ch2).op (((n4 s.body (d + 1) (l ++ c8 s.value (0 : Int) ++ [d7.mk (9 : Int) (0 : Int) (0 : Int) (0 : Int) (0 : Int)], fr ++ ch3 (c8 s.value (0 : Int)).length at0 ++ [at0], at0 + 1)).fst ++ [d7.mk (8 : Int) (0 : Int) (0 : Int) (0 : Int) (0 : Int)]).getD (l ++ c8 s.value (0 : Int)).length ch2).a (((n4 s.body (d + 1) (l ++ c8 s.value (0 : Int) ++ [d7.mk (9 : Int) (0 : Int) (0 : Int) (0 : Int) (0 : Int)], fr ++ ch3 (c8 s.value (0 : Int)).length at0 ++ [at0], at0 + 1)).fst ++ [d7.mk (8 : Int) (0 : Int) (0 : Int) (0 : Int) (0 : Int)]).length : Int) (((n4 s.body (d + 1) (l ++ c8 s.value (0 : Int) ++ [d7.mk (9 : Int) (0 : Int) (0 : Int) (0 : Int) (0 : Int)], fr ++ ch3 (c8 s.value (0 : Int)).length at0 ++ [at0], at0 + 1)).fst ++ [d7.mk (8 : Int) (0 : Int) (0 : Int) (0 : Int) (0 : Int)]).getD (l ++ c8 s.value (0 : Int)).length ch2).c (((n4 s.body (d + 1) (l ++ c8 s.value (0 : Int) ++ [d7.mk (9 : Int) (0 : Int) (0 : Int) (0 : Int) (0 : Int)], fr ++ ch3 (c8 s.value (0 : Int)).length at0 ++ [at0], at0 + 1)).fst ++ [d7.mk (8 : Int) (0 : Int) (0 : Int) (0 : Int) (0 : Int)]).getD (l ++ c8 s.value (0 : Int)).length ch2).d), (n4 s.body (d + 1) (l ++ c8 s.value (0 : Int) ++ [d7.mk (9 : Int) (0 : Int) (0 : Int) (0 : Int) (0 : Int)], fr ++ ch3 (c8 s.value (0 : Int)).length at0 ++ [at0], at0 + 1)).snd.fst ++ [at0], (n4 s.body (d + 1) (l ++ c8 s.value (0 : Int) ++ [d7.mk (9 : Int) (0 : Int) (0 : Int) (0 : Int) (0 : Int)], fr ++ ch3 (c8 s.value (0 : Int)).length at0 ++ [at0], at0 + 1)).snd.snd)).fst.length] ⟨(by omega), (by simp only [ak6, cj9, ch8, ci1, ci6]; omega), (by simp only [ak6, cj9, ch8, ci1, ci6]; omega), ci7⟩ fun G => ?_))))
       refine b6 (wp_seq (j8 G d9 (rg 11) (H9 s [.box [.ref 9, .ref 10, iA (Q2 s l fr at0 d).snd.snd], .box (sL s 2), .box [.ref 9, .ref 10, iA (Q2 s l fr at0 d).snd.snd], bu8 s l fr at0 d, .row 3 (D.ints (Q2 s l fr at0 d).snd.fst)]) (G6 at0 d []) fun G => b6 (wp_ret (z5 (l6 ?_))))); exact U2 (.agg [.ref 9, .ref 10, iA (n4 s.els (d + 1) (((n4 s.body (d + 1) (l ++ c8 s.value 0 ++ [d7.mk 9 0 0 0 0], fr ++ ch3 (c8 s.value 0).length at0 ++ [at0], at0 + 1)).fst ++ [d7.mk 8 0 0 0 0]).set (l ++ c8 s.value 0).length (d7.mk (((n4 s.body (d + 1) (l ++ c8 s.value 0 ++ [d7.mk 9 0 0 0 0], fr ++ ch3 (c8 s.value 0).length at0 ++ [at0], at0 + 1)).fst ++ [d7.mk 8 0 0 0 0]).getD (l ++ c8 s.value 0).length ch2).op (((n4 s.body (d + 1) (l ++ c8 s.value 0 ++ [d7.mk 9 0 0 0 0], fr ++ ch3 (c8 s.value 0).length at0 ++ [at0], at0 + 1)).fst ++ [d7.mk 8 0 0 0 0]).getD (l ++ c8 s.value 0).length ch2).a (((n4 s.body (d + 1) (l ++ c8 s.value 0 ++ [d7.mk 9 0 0 0 0], fr ++ ch3 (c8 s.value 0).length at0 ++ [at0], at0 + 1)).fst ++ [d7.mk 8 0 0 0 0]).length : Int) (((n4 s.body (d + 1) (l ++ c8 s.value 0 ++ [d7.mk 9 0 0 0 0], fr ++ ch3 (c8 s.value 0).length at0 ++ [at0], at0 + 1)).fst ++ [d7.mk 8 0 0 0 0]).getD (l ++ c8 s.value 0).length ch2).c (((n4 s.body (d + 1) (l ++ c8 s.value 0 ++ [d7.mk 9 0 0 0 0], fr ++ ch3 (c8 s.value 0).length at0 ++ [at0], at0 + 1)).fst ++ [d7.mk 8 0 0 0 0]).getD (l ++ c8 s.value 0).length ch2).d), (n4 s.body (d + 1) (l ++ c8 s.value 0 ++ [d7.mk 9 0 0 0 0], fr ++ ch3 (c8 s.value 0).length at0 ++ [at0], at0 + 1)).snd.fst ++ [at0], (n4 s.body (d + 1) (l ++ c8 s.value 0 ++ [d7.mk 9 0 0 0 0], fr ++ ch3 (c8 s.value 0).length at0 ++ [at0], at0 + 1)).snd.snd)).snd.snd]) G [0, 1, 2, 3, 4, 5, 9, 10] (by have e1 : ((S8 s d (l, fr, at0)).snd.snd : Int) = ((n4 s.els (d + 1) (((n4 s.body (d + 1) (l ++ c8 s.value 0 ++ [d7.mk 9 0 0 0 0], fr ++ ch3 (c8 s.value 0).length at0 ++ [at0], at0 + 1)).fst ++ [d7.mk 8 0 0 0 0]).set (l ++ c8 s.value 0).length (d7.mk (((n4 s.body (d + 1) (l ++ c8 s.value 0 ++ [d7.mk 9 0 0 0 0], fr ++ ch3 (c8 s.value 0).length at0 ++ [at0], at0 + 1)).fst ++ [d7.mk 8 0 0 0 0]).getD (l ++ c8 s.value 0).length ch2).op (((n4 s.body (d + 1) (l ++ c8 s.value 0 ++ [d7.mk 9 0 0 0 0], fr ++ ch3 (c8 s.value 0).length at0 ++ [at0], at0 + 1)).fst ++ [d7.mk 8 0 0 0 0]).getD (l ++ c8 s.value 0).length ch2).a (((n4 s.body (d + 1) (l ++ c8 s.value 0 ++ [d7.mk 9 0 0 0 0], fr ++ ch3 (c8 s.value 0).length at0 ++ [at0], at0 + 1)).fst ++ [d7.mk 8 0 0 0 0]).length : Int) (((n4 s.body (d + 1) (l ++ c8 s.value 0 ++ [d7.mk 9 0 0 0 0], fr ++ ch3 (c8 s.value 0).length at0 ++ [at0], at0 + 1)).fst ++ [d7.mk 8 0 0 0 0]).getD (l ++ c8 s.value 0).length ch2).c (((n4 s.body (d + 1) (l ++ c8 s.value 0 ++ [d7.mk 9 0 0 0 0], fr ++ ch3 (c8 s.value 0).length at0 ++ [at0], at0 + 1)).fst ++ [d7.mk 8 0 0 0 0]).getD (l ++ c8 s.value 0).length ch2).d), (n4 s.body (d + 1) (l ++ c8 s.value 0 ++ [d7.mk 9 0 0 0 0], fr ++ ch3 (c8 s.value 0).length at0 ++ [at0], at0 + 1)).snd.fst ++ [at0], (n4 s.body (d + 1) (l ++ c8 s.value 0 ++ [d7.mk 9 0 0 0 0], fr ++ ch3 (c8 s.value 0).length at0 ++ [at0], at0 + 1)).snd.snd)).snd.snd) := (by have h9 := congrArg (fun x : N3 => x.2.2) (cm3 (l := l) (fr := fr) (at0 := at0) (d := d) (s := s) (by omega)); exact h9); (first | rw [e1] | simp only [e1]) <;> rfl) (by show _ = mR [0, 1, 2, 3, 4, 5, 9, 10] (V9 s l fr at0 d); unfold V9; have h9 := cm3 (l := l) (fr := fr) (at0 := at0) (d := d) (s := s) (by omega); rw [h9] <;> rfl)
     · refine wp_seq (j8 G (s8 4 [9, 10, 2] (a75 s.index (l ++ c8 s.value 0) (fr ++ ch3 (c8 s.value 0).length at0) (at0 + 1) at0 1 (by omega) (by omega) (by omega) (by simp only [ch8, cj3, r2]; done))) [0, 1, 2, 3, 4, 5, 6, 7, 8, 43, 44] (H9 s [ad8 at0, .box (sL s 2), O8, .row 86 (D.instrs (l ++ c8 s.value 0 ++ c8 s.index 1)), .row 3 (D.ints (fr ++ ch3 (c8 s.value 0).length at0 ++ ch3 (c8 s.index 1).length at0))]) (G6 at0 d []) fun G => b6 (wp_seq (j8 G (s8 5 [9, 10] (G4 (l ++ c8 s.value 0 ++ c8 s.index 1) (fr ++ ch3 (c8 s.value 0).length at0 ++ ch3 (c8 s.index 1).length at0) (at0 + 1) at0 5 s.target 1 0 0 (by omega) (by simp only [ch8, cj3, ci1, ci6, r2]; have := hft.2.2.2.2; simp only [ch8] at this; omega))) [0, 1, 2, 3, 4, 5, 6, 7, 8, 9, 10, 51, 52] (H9 s [ad8 at0, .box (sL s 2), .box [.ref 11, .ref 12, iA (at0 + 1)], .dead, .dead, .row 86 (D.instrs (l ++ c8 s.value 0 ++ c8 s.index 1 ++ [d7.mk 5 s.target 1 0 0])), .row 3 (D.ints (fr ++ ch3 (c8 s.value 0).length at0 ++ ch3 (c8 s.index 1).length at0 ++ [at0]))]) (G6 at0 d []) fun G => b6 (wp_ret (z5 (l6 ?_)))))); exact U2 (.agg [.ref 11, .ref 12, iA (at0 + 1)]) G [0, 1, 2, 3, 4, 5, 11, 12] (by have e1 : ((S8 s d (l, fr, at0)).snd.snd : Int) = (at0 + 1) := (congrArg (fun x : N3 => x.2.2) (cm2 (by omega))); (first | rw [e1] | simp only [e1]) <;> rfl) (by show _ = mR [0, 1, 2, 3, 4, 5, 11, 12] (V9 s l fr at0 d); unfold V9; have e1 : ((S8 s d (l, fr, at0)).fst : List d7) = (l ++ c8 s.value 0 ++ c8 s.index 1 ++ [d7.mk 5 s.target 1 0 0]) := (congrArg Prod.fst (cm2 (by omega))); have e2 : ((S8 s d (l, fr, at0)).snd.fst : List Int) = (fr ++ ch3 (c8 s.value 0).length at0 ++ ch3 (c8 s.index 1).length at0 ++ [at0]) := (congrArg (fun x : N3 => x.2.1) (cm2 (by omega))); (first | rw [e1, e2] | simp only [e1, e2]) <;> rfl)
    · refine wp_seq (j8 G (s8 3 [9, 10] (G4 (l ++ c8 s.value 0) (fr ++ ch3 (c8 s.value 0).length at0) (at0 + 1) at0 11 0 0 0 0 (by omega) (by simp only [ch8, cj3, ci1, ci6, r2]; have := hft.2.2.2.2; simp only [ch8] at this; omega))) [0, 1, 2, 3, 4, 5, 6, 7, 8, 35, 36] (H9 s [ad8 at0, .box (sL s 2), O8, .row 86 (D.instrs (l ++ c8 s.value 0 ++ [d7.mk 11 0 0 0 0])), aT1 s fr at0]) (G6 at0 d []) fun G => b6 (wp_seq (j8 G (s8 5 [9, 10] (G4 (l ++ c8 s.value 0 ++ [d7.mk 11 0 0 0 0]) (fr ++ ch3 (c8 s.value 0).length at0 ++ [at0]) (at0 + 1) at0 3 s.target 0 0 0 (by simp only [ch8, cj3, ci1, ci6, r2]; have := hft.2.2.2.2; simp only [ch8] at this; omega) (by simp only [ch8, cj3, ci1, ci6, r2]; have := hft.2.2.2.2; simp only [ch8] at this; omega))) [0, 1, 2, 3, 4, 5, 6, 7, 8, 9, 10, 51, 52] (H9 s [ad8 at0, .box (sL s 2), .box [.ref 11, .ref 12, iA (at0 + 1)], .dead, .dead, .row 86 (D.instrs (l ++ c8 s.value 0 ++ [d7.mk 11 0 0 0 0] ++ [d7.mk 3 s.target 0 0 0])), .row 3 (D.ints (fr ++ ch3 (c8 s.value 0).length at0 ++ [at0] ++ [at0]))]) (G6 at0 d []) fun G => b6 (wp_ret (z5 (l6 ?_)))))); exact U2 (.agg [.ref 11, .ref 12, iA (at0 + 1)]) G [0, 1, 2, 3, 4, 5, 11, 12] (by have e1 : ((S8 s d (l, fr, at0)).snd.snd : Int) = (at0 + 1) := (congrArg (fun x : N3 => x.2.2) (cm5 (by omega))); (first | rw [e1] | simp only [e1]) <;> rfl) (by show _ = mR [0, 1, 2, 3, 4, 5, 11, 12] (V9 s l fr at0 d); unfold V9; have e1 : ((S8 s d (l, fr, at0)).fst : List d7) = (l ++ c8 s.value 0 ++ [d7.mk 11 0 0 0 0] ++ [d7.mk 3 s.target 0 0 0]) := (congrArg Prod.fst (cm5 (by omega))); have e2 : ((S8 s d (l, fr, at0)).snd.fst : List Int) = (fr ++ ch3 (c8 s.value 0).length at0 ++ [at0] ++ [at0]) := (congrArg (fun x : N3 => x.2.1) (cm5 (by omega))); (first | rw [e1, e2] | simp only [e1, e2]) <;> rfl)
   · refine wp_seq (j8 G (s8 5 [9, 10] (G4 (l ++ c8 s.value 0) (fr ++ ch3 (c8 s.value 0).length at0) (at0 + 1) at0 3 s.target 0 0 0 (by omega) (by simp only [ch8, cj3, ci1, ci6, r2]; have := hft.2.2.2.2; simp only [ch8] at this; omega))) [0, 1, 2, 3, 4, 5, 6, 7, 8, 9, 10, 51, 52] (H9 s [ad8 at0, .box (sL s 2), .box [.ref 11, .ref 12, iA (at0 + 1)], .dead, .dead, .row 86 (D.instrs (l ++ c8 s.value 0 ++ [d7.mk 3 s.target 0 0 0])), aT1 s fr at0]) (G6 at0 d []) fun G => b6 (wp_ret (z5 (l6 ?_)))); exact U2 (.agg [.ref 11, .ref 12, iA (at0 + 1)]) G [0, 1, 2, 3, 4, 5, 11, 12] (by have e1 : ((S8 s d (l, fr, at0)).snd.snd : Int) = (at0 + 1) := (congrArg (fun x : N3 => x.2.2) (cm1 (by omega))); (first | rw [e1] | simp only [e1]) <;> rfl) (by show _ = mR [0, 1, 2, 3, 4, 5, 11, 12] (V9 s l fr at0 d); unfold V9; have e1 : ((S8 s d (l, fr, at0)).fst : List d7) = (l ++ c8 s.value 0 ++ [d7.mk 3 s.target 0 0 0]) := (congrArg Prod.fst (cm1 (by omega))); have e2 : ((S8 s d (l, fr, at0)).snd.fst : List Int) = (fr ++ ch3 (c8 s.value 0).length at0 ++ [at0]) := (congrArg (fun x : N3 => x.2.1) (cm1 (by omega))); (first | rw [e1, e2] | simp only [e1, e2]) <;> rfl)
section
variable {ss : List c5} {k : Nat} {d : Int} {l : List d7} {fr : List Int} {at0 : Int}
theorem bp3 (hk : k < ss.length) : j6 (ss.take k) + (1 + K3 (ss.getD k ch2)) ≤ j6 ss := by
 have h1 := w6 (ss.take (k + 1)) (ss.drop (k + 1))
 rw [List.take_append_drop, m8 _ _ hk, w6, ← m6 (d := ch2) hk] at h1
 simp only [j6] at h1
 omega
theorem bA6 (hk : k < ss.length) : V6 (ss.take k) + nS (ss.getD k ch2) ≤ V6 ss := by
 have h1 := ae5 (ss.take (k + 1)) (ss.drop (k + 1))
 rw [List.take_append_drop, m8 _ _ hk, ae5, ← m6 (d := ch2) hk] at h1
 simp only [V6] at h1
 omega
theorem bF9 (r1 : l.length + 4 * j6 ss ≤ 5000000) (hk : k < ss.length) : (n4 (ss.take k) d (l, fr, at0)).1.length + (4 + 4 * K3 (ss.getD k ch2)) ≤ 5000000 := by
 have h1 := bp3 hk
 have h2 := R0 (ss.take k)
 rw [ak6]
 simp only
 omega
theorem bS6 (r2 : fr.length = l.length) : (n4 (ss.take k) d (l, fr, at0)).2.1.length = (n4 (ss.take k) d (l, fr, at0)).1.length := by
 have h := N0 (ss.take k) d (l, fr, at0)
 simp only at h
 omega
theorem bG1 (r5 : 0 ≤ at0) : 0 ≤ (n4 (ss.take k) d (l, fr, at0)).2.2 := by
 have h := ak7 (ss.take k) d (l, fr, at0)
 simp only at h
 omega
theorem bG0 (r6 : at0 + V6 ss ≤ 5000000) (hk : k < ss.length) : (n4 (ss.take k) d (l, fr, at0)).2.2 + nS (ss.getD k ch2) ≤ 5000000 := by
 have h := ak7 (ss.take k) d (l, fr, at0)
 have h1 := bA6 hk
 simp only at h
 omega
theorem ca3 (hk : k < ss.length) : (n4 (ss.take (k + 1)) d (l, fr, at0)).1 = (S8 (ss.getD k ch2) d (n4 (ss.take k) d (l, fr, at0))).1 := by rw [aL2 hk]
theorem ca2 (hk : k < ss.length) : (n4 (ss.take (k + 1)) d (l, fr, at0)).2.1 = (S8 (ss.getD k ch2) d (n4 (ss.take k) d (l, fr, at0))).2.1 := by rw [aL2 hk]
theorem ca1 (hk : k < ss.length) : (n4 (ss.take (k + 1)) d (l, fr, at0)).2.2 = (S8 (ss.getD k ch2) d (n4 (ss.take k) d (l, fr, at0))).2.2 := by rw [aL2 hk]
theorem bs5 (hk : ss.length ≤ k) (x : N3) : n4 ss d x = n4 (ss.take k) d x := by rw [ci8 hk]
end
theorem aP7 (ss : List c5) (B : Int) (ih : ∀ (s : c5), s ∈ ss → ∀ (l : List d7) (fr : List Int) (at0 d : Int), l.length + (4 + 4 * K3 s) ≤ 5000000 → fr.length = l.length → 0 ≤ d → d ≤ B → 0 ≤ at0 → at0 + nS s ≤ 5000000 → j9.ok Tryz.prog (lqC l fr at0 s d))
  (l : List d7) (fr : List Int) (at0 d : Int) (r1 : l.length + 4 * j6 ss ≤ 5000000) (r2 : fr.length = l.length) (r3 : 0 ≤ d) (r4 : d ≤ B) (r5 : 0 ≤ at0) (r6 : at0 + V6 ss ≤ 5000000) : j9.ok Tryz.prog (lrC l fr at0 ss d) := by
 refine E9 22 Tryz.func146 [.row 86 (D.instrs l), .row 3 (D.ints fr), dT ss] [(0, .agg [.ref 0, .ref 1, iA at0]), (1, .ref 2), (2, iA d)] fun G => ?_; have hl := L4 ss; refine wp_seq (j8 G d9 [0, 1, 2, 3, 11] [.row 86 (D.instrs l), .row 3 (D.ints fr), dT ss, .box [.ref 0, .ref 1, iA at0], .box [.v (.slice none 0 0), .v (.slice none 0 0), iA 0]] [(1, .ref 2), (2, iA d), (3, .ptr 3 0), (6, .ptr 4 0)] fun G => b6 (wp_seq (wp_seq (D2 G d9 [(1, .ref 2), (2, iA d), (3, .ptr 3 0), (6, .ptr 4 0), (7, iA 0)] fun G => b6 (wp_block ?_))))); obtain ⟨ρ, G⟩ := G.shift 0 5 [.dead, .row 3 (D.ints fr), dT ss, .box [.ref 5, .ref 1, iA at0], .box [.v (.slice none 0 0), .v (.slice none 0 0), iA 0], .row 86 (D.instrs l)] [(1, .ref 2), (2, iA d), (3, .ptr 3 0), (6, .ptr 4 0), (7, iA 0)]; obtain ⟨ρ, G⟩ := G.shift 1 6 [.dead, .dead, dT ss, .box [.ref 5, .ref 6, iA at0], .box [.v (.slice none 0 0), .v (.slice none 0 0), iA 0], .row 86 (D.instrs l), .row 3 (D.ints fr)] [(1, .ref 2), (2, iA d), (3, .ptr 3 0), (6, .ptr 4 0), (7, iA 0)]; refine t0 (κ := Nat) (fun k => k ≤ ss.length) (fun k => ss.length - k) (fun k => [.dead, .dead, dT ss, .box [.ref 5, .ref 6, iA (n4 (ss.take k) d (l, fr, at0)).2.2], .box [.v (.slice none 0 0), .v (.slice none 0 0), iA 0], .row 86 (.instrs (n4 (ss.take k) d (l, fr, at0)).1), .row 3 (.ints (n4 (ss.take k) d (l, fr, at0)).2.1)]) (fun k => [(1, .ref 2), (2, iA d), (3, .ptr 3 0), (6, .ptr 4 0), (7, iA k)]) 0 (by omega) (t7.at G _ _) ?_; clear G; intro k ρ a w hp G; replace G := t7.at G [.dead, .dead, dT ss, .box [.ref 5, .ref 6, iA (n4 (ci0 k ss) d (l, fr, at0)).snd.snd], .box [.v (.slice none 0 0), .v (.slice none 0 0), iA 0], .row 86 (D.instrs (n4 (ci0 k ss) d (l, fr, at0)).fst), .row 3 (D.ints (n4 (ci0 k ss) d (l, fr, at0)).snd.fst)] [(1, .ref 2), (2, iA d), (3, .ptr 3 0), (6, .ptr 4 0), (7, iA k)]; refine wp_seq (wp_seq (k8 G d9 [(11, bA (decide ((k : Int) < ss.length)))] fun G => b6 (rcD G (fun h0 q0 => ?_) fun h0 q0 => ?_)))
 ·refine wp_exit (s7 (s7 (r8 (b6 (wp_seq (j8 G d9 [0, 1, 2, 4, 5, 6] [.dead, .dead, dT ss, .box [.ref 4, .ref 5, iA (n4 (ci0 k ss) d (l, fr, at0)).snd.snd], .row 86 (D.instrs (n4 (ci0 k ss) d (l, fr, at0)).fst), .row 3 (D.ints (n4 (ci0 k ss) d (l, fr, at0)).snd.fst)] [(6, .ptr 3 0)] fun G => b6 (wp_ret ?_))))))); exact U2 (.agg [.ref 4, .ref 5, iA (n4 (ci0 k ss) d (l, fr, at0)).snd.snd]) G [0, 1, 2, 4, 5] (by have e1 : ((n4 ss d (l, fr, at0)).snd.snd : Int) = ((n4 (ci0 k ss) d (l, fr, at0)).snd.snd) := (congrArg (fun x : N3 => x.2.2) (bs5 (by omega) _)); (first | rw [e1] | simp only [e1]) <;> rfl) (by show _ = mR [0, 1, 2, 4, 5] [.dead, .dead, dT ss, .row 86 (D.instrs (n4 ss d (l, fr, at0)).fst), .row 3 (D.ints (n4 ss d (l, fr, at0)).snd.fst)]; have e1 : ((n4 ss d (l, fr, at0)).fst : List d7) = ((n4 (ci0 k ss) d (l, fr, at0)).fst) := (congrArg Prod.fst (bs5 (by omega) _)); have e2 : ((n4 ss d (l, fr, at0)).snd.fst : List Int) = ((n4 (ci0 k ss) d (l, fr, at0)).snd.fst) := (congrArg (fun x : N3 => x.2.1) (bs5 (by omega) _)); (first | rw [e1, e2] | simp only [e1, e2]) <;> rfl)
 ·refine wp_skip (b6 (wp_seq (wp_block (O1 G (s8 6 [5, 6, 39, 40, 41, 42] (ih (ss.getD k ch2) (ad2 (by omega)) ((n4 (ci0 k ss) d (l, fr, at0)).fst) ((n4 (ci0 k ss) d (l, fr, at0)).snd.fst) ((n4 (ci0 k ss) d (l, fr, at0)).snd.snd) d (bF9 r1 (by omega)) (bS6 r2) (by assumption) (by assumption) (bG1 r5) (bG0 r6 (by omega)))) [0, 0, 0, 6, 14, 0, 63, 127] [0, 1, 2, 3, 4, 55, 56] [.dead, .dead, dT ss, .box [.ref 5, .ref 6, iA (S8 (ss.getD k ch2) d (n4 (ci0 k ss) d (l, fr, at0))).snd.snd], .box [.v (.slice none 0 0), .v (.slice none 0 0), iA 0], .row 86 (D.instrs (S8 (ss.getD k ch2) d (n4 (ci0 k ss) d (l, fr, at0))).fst), .row 3 (D.ints (S8 (ss.getD k ch2) d (n4 (ci0 k ss) d (l, fr, at0))).snd.fst)] [(1, .ref 2), (2, iA d), (3, .ptr 3 0), (6, .ptr 4 0), (7, iA k)] (iX k k ss.length []) (iK (by omega) ci7) fun G => l0 (b6 (E0 G d9 [(7, iA ((k : Int) + 1))] [wO ((k : Int) + 1)] (o1 (by omega)) fun G => b6 ?_)))))); exact I9 G (k + 1) (by omega) (by omega) (rg 7) (by have e1 : ((n4 (ci0 (k + 1) ss) d (l, fr, at0)).snd.snd : Int) = ((S8 (ss.getD k ch2) d (n4 (ci0 k ss) d (l, fr, at0))).snd.snd) := (ca1 (by omega)); have e2 : ((n4 (ci0 (k + 1) ss) d (l, fr, at0)).fst : List d7) = ((S8 (ss.getD k ch2) d (n4 (ci0 k ss) d (l, fr, at0))).fst) := (ca3 (by omega)); have e3 : ((n4 (ci0 (k + 1) ss) d (l, fr, at0)).snd.fst : List Int) = ((S8 (ss.getD k ch2) d (n4 (ci0 k ss) d (l, fr, at0))).snd.fst) := (ca2 (by omega)); (first | rw [e1, e2, e3] | simp only [e1, e2, e3]) <;> rfl)
theorem bB7 (nv na : Nat) : ∀ (dd : Nat) (ss : List c5) (l : List d7) (fr : List Int) (at0 d : Int), ss.all (j7 nv na dd) = true → l.length + 4 * j6 ss ≤ 5000000 → fr.length = l.length → 0 ≤ d → d + dd ≤ 100 → 0 ≤ at0 → at0 + V6 ss ≤ 5000000 → j9.ok Tryz.prog (lrC l fr at0 ss d) := by
 intro dd
 induction dd with
 | zero =>
  intro ss l fr at0 d hs r1 r2 r3 r4 r5 r6
  have h0 : ss = [] := by
   cases ss with
   | nil => rfl
   | cons a r => simp [j7] at hs
  subst h0
  exact aP7 [] 100 (fun s hs => by cases hs) l fr at0 d r1 r2 r3 (by omega) r5 r6
 | succ dd ih =>
  intro ss l fr at0 d hs r1 r2 r3 r4 r5 r6
  refine aP7 ss (100 - (dd + 1)) (fun s hm l fr at0 d q1 q2 q3 q4 q5 q6 => ?_) l fr at0 d r1 r2 r3 (by omega) r5 r6
  have h := ci2.1 hs s hm
  rw [T2, ch4, ch4] at h
  exact a18 nv na dd s h.1 h.2.1 h.2.2 (fun tt l fr at0 d h1 h2 h3 h4 h5 h6 h7 => ih tt l fr at0 d h1 h2 h3 h4 h5 h6 h7) l fr at0 d q1 q2 q3 (by omega) q5 q6
abbrev aT0 : It := .box [.v (.slice none 0 0), .v (.slice none 0 0), iA 0]
theorem bb3 (ss : List c5) (B : Int) (ih : ∀ (s : c5), s ∈ ss → ∀ (l : List d7) (fr : List Int) (at0 d : Int), l.length + (4 + 4 * K3 s) ≤ 5000000 → fr.length = l.length → 0 ≤ d → d ≤ B → 0 ≤ at0 → at0 + nS s ≤ 5000000 → j9.ok Tryz.prog (lqC l fr at0 s d))
  (d : Int) (r1 : ([] : List d7).length + 4 * j6 ss ≤ 5000000) (r3 : 0 ≤ d) (r4 : d ≤ B) (r6 : (0 : Int) + V6 ss ≤ 5000000) : j9.ok Tryz.prog ⟨146, [.agg [.v (.slice none 0 0), .v (.slice none 0 0), iA 0], .ref 0, iA d], [dT ss], [dT ss, rN (n4 ss d ([], [], 0)).1, rI (n4 ss d ([], [], 0)).2.1], .agg [.ref 1, .ref 2, iA (n4 ss d ([], [], 0)).2.2]⟩ := by
 refine E9 22 Tryz.func146 [dT ss] [(0, .agg [.v (.slice none 0 0), .v (.slice none 0 0), iA 0]), (1, .ref 0), (2, iA d)] fun G => ?_; have hl := L4 ss; refine wp_seq (j8 G d9 [0, 1, 9] [dT ss, aT0, aT0] [(1, .ref 0), (2, iA d), (3, .ptr 1 0), (6, .ptr 2 0)] fun G => b6 (wp_seq (wp_seq (D2 G d9 [(1, .ref 0), (2, iA d), (3, .ptr 1 0), (6, .ptr 2 0), (7, iA 0)] fun G => b6 (wp_block ?_))))); obtain ⟨ρ, G⟩ := G.nil 3 86 (.instrs []) 5 [dT ss, .box [.ref 3, .v (.slice none 0 0), iA 0], .box [.v (.slice none 0 0), .v (.slice none 0 0), iA 0]] [(1, .ref 0), (2, iA d), (3, .ptr 1 0), (6, .ptr 2 0), (7, iA 0)]; obtain ⟨ρ, G⟩ := G.nil 4 3 (.ints []) 1 [dT ss, .box [.ref 3, .ref 4, iA 0], .box [.v (.slice none 0 0), .v (.slice none 0 0), iA 0], .row 86 (D.instrs [])] [(1, .ref 0), (2, iA d), (3, .ptr 1 0), (6, .ptr 2 0), (7, iA 0)]; refine t0 (κ := Nat) (fun k => k ≤ ss.length) (fun k => ss.length - k) (fun k => [dT ss, .box [.ref 3, .ref 4, iA (n4 (ss.take k) d ([], [], 0)).2.2], .box [.v (.slice none 0 0), .v (.slice none 0 0), iA 0], .row 86 (.instrs (n4 (ss.take k) d ([], [], 0)).1), .row 3 (.ints (n4 (ss.take k) d ([], [], 0)).2.1)]) (fun k => [(1, .ref 0), (2, iA d), (3, .ptr 1 0), (6, .ptr 2 0), (7, iA k)]) 0 (by omega) (t7.at G _ _) ?_; clear G; intro k ρ a w hp G; replace G := t7.at G [dT ss, .box [.ref 3, .ref 4, iA (n4 (ci0 k ss) d ([], [], 0)).snd.snd], aT0, .row 86 (D.instrs (n4 (ci0 k ss) d ([], [], 0)).fst), .row 3 (D.ints (n4 (ci0 k ss) d ([], [], 0)).snd.fst)] [(1, .ref 0), (2, iA d), (3, .ptr 1 0), (6, .ptr 2 0), (7, iA k)]; refine wp_seq (wp_seq (k8 G d9 [(11, bA (decide ((k : Int) < ss.length)))] fun G => b6 (rcD G (fun h0 q0 => ?_) fun h0 q0 => ?_)))
 ·refine wp_exit (s7 (s7 (r8 (b6 (wp_seq (j8 G d9 [0, 2, 3, 4] [dT ss, .box [.ref 2, .ref 3, iA (n4 (ci0 k ss) d ([], [], 0)).snd.snd], .row 86 (D.instrs (n4 (ci0 k ss) d ([], [], 0)).fst), .row 3 (D.ints (n4 (ci0 k ss) d ([], [], 0)).snd.fst)] [(6, .ptr 1 0)] fun G => b6 (wp_ret ?_))))))); exact U2 (.agg [.ref 2, .ref 3, iA (n4 (ci0 k ss) d ([], [], 0)).snd.snd]) G [0, 2, 3] (by have e1 : ((n4 ss d ([], [], 0)).snd.snd : Int) = ((n4 (ci0 k ss) d ([], [], 0)).snd.snd) := (congrArg (fun x : N3 => x.2.2) (bs5 (by omega) _)); (first | rw [e1] | simp only [e1]) <;> rfl) (by show _ = mR [0, 2, 3] [dT ss, .row 86 (D.instrs (n4 ss d ([], [], 0)).fst), .row 3 (D.ints (n4 ss d ([], [], 0)).snd.fst)]; have e1 : ((n4 ss d ([], [], 0)).fst : List d7) = ((n4 (ci0 k ss) d ([], [], 0)).fst) := (congrArg Prod.fst (bs5 (by omega) _)); have e2 : ((n4 ss d ([], [], 0)).snd.fst : List Int) = ((n4 (ci0 k ss) d ([], [], 0)).snd.fst) := (congrArg (fun x : N3 => x.2.1) (bs5 (by omega) _)); (first | rw [e1, e2] | simp only [e1, e2]) <;> rfl)
 ·refine wp_skip (b6 (wp_seq (wp_block (O1 G (s8 6 [3, 4, 37, 38, 39, 40] (ih (ss.getD k ch2) (ad2 (by omega)) ((n4 (ci0 k ss) d ([], [], 0)).fst) ((n4 (ci0 k ss) d ([], [], 0)).snd.fst) ((n4 (ci0 k ss) d ([], [], 0)).snd.snd) d (bF9 r1 (by omega)) (bS6 rfl) (by assumption) (by assumption) (bG1 (Int.le_refl 0)) (bG0 r6 (by omega)))) [0, 0, 0, 6, 14, 0, 63, 127] [0, 1, 2, 53, 54] [dT ss, .box [.ref 3, .ref 4, iA (S8 (ss.getD k ch2) d (n4 (ci0 k ss) d ([], [], 0))).snd.snd], aT0, .row 86 (D.instrs (S8 (ss.getD k ch2) d (n4 (ci0 k ss) d ([], [], 0))).fst), .row 3 (D.ints (S8 (ss.getD k ch2) d (n4 (ci0 k ss) d ([], [], 0))).snd.fst)] [(1, .ref 0), (2, iA d), (3, .ptr 1 0), (6, .ptr 2 0), (7, iA k)] (iX k k ss.length []) (iK (by omega) ci7) fun G => l0 (b6 (E0 G d9 [(7, iA ((k : Int) + 1))] [wO ((k : Int) + 1)] (o1 (by omega)) fun G => b6 ?_)))))); exact I9 G (k + 1) (by omega) (by omega) (rg 5) (by have e1 : ((n4 (ci0 (k + 1) ss) d ([], [], 0)).snd.snd : Int) = ((S8 (ss.getD k ch2) d (n4 (ci0 k ss) d ([], [], 0))).snd.snd) := (ca1 (by omega)); have e2 : ((n4 (ci0 (k + 1) ss) d ([], [], 0)).fst : List d7) = ((S8 (ss.getD k ch2) d (n4 (ci0 k ss) d ([], [], 0))).fst) := (ca3 (by omega)); have e3 : ((n4 (ci0 (k + 1) ss) d ([], [], 0)).snd.fst : List Int) = ((S8 (ss.getD k ch2) d (n4 (ci0 k ss) d ([], [], 0))).snd.fst) := (ca2 (by omega)); (first | rw [e1, e2, e3] | simp only [e1, e2, e3]) <;> rfl)
theorem bf5 (p : i6) (hp : m0 p = true) (hb : j6 p.body ≤ 1048576) : j9.ok Tryz.prog ⟨146, [.agg [.v (.slice none 0 0), .v (.slice none 0 0), iA 0], .ref 0, iA 0], [dT p.body], [dT p.body, rN (n4 p.body 0 ([], [], 0)).1, rI (n4 p.body 0 ([], [], 0)).2.1], .agg [.ref 1, .ref 2, iA (n4 p.body 0 ([], [], 0)).2.2]⟩ := by
 simp only [m0, af9, ch4, decide_eq_true_eq] at hp
 refine bb3 p.body 95 (fun s hm l fr at0 d q1 q2 q3 q4 q5 q6 => ?_) 0 (by simp only [ci6]; omega) (by omega) (by omega) (by have := aW1 p.body; omega)
 have h := ci2.1 hp.1.2 s hm
 rw [T2, ch4, ch4] at h
 exact a18 _ _ 4 s h.1 h.2.1 h.2.2 (fun tt l fr at0 d h1 h2 h3 h4 h5 h6 h7 => bB7 _ _ 4 tt l fr at0 d h1 h2 h3 h4 h5 h6 h7) l fr at0 d q1 q2 q3 (by omega) q5 q6
def aL1 (p : i6) : N3 := ((n4 p.body 0 ([], [], 0)).1 ++ [⟨13, 0, 0, 0, 0⟩], (n4 p.body 0 ([], [], 0)).2.1 ++ [-1], (n4 p.body 0 ([], [], 0)).2.2)
def okC (p : i6) : Bool := m0 p && decide ((aL1 p).1.length ≤ 400)
def I7 (p : i6) : N3 := if okC p = true then aL1 p else ([], [], 0)
theorem aW0 {p : i6} (h : m0 p = false) : okC p = false := by unfold okC; rw [h]; rfl
theorem bA4 {p : i6} (h : ¬ (aL1 p).1.length ≤ 400) : okC p = false := by unfold okC; rw [decide_eq_false h, Bool.and_false]
theorem bA3 {p : i6} (h1 : m0 p = true) (h : (aL1 p).1.length ≤ 400) : okC p = true := by unfold okC; rw [decide_eq_true h, h1]; rfl
theorem ax9 {p : i6} (h : okC p = false) : I7 p = ([], [], 0) := by unfold I7; rw [h]; rfl
theorem bF1 {p : i6} (h : okC p = true) : I7 p = aL1 p := by unfold I7; rw [h]; rfl
theorem bs2 (p : i6) (hb : j6 p.body ≤ 1048576) : (n4 p.body 0 ([], [], 0)).1.length ≤ 5000000 ∧ (n4 p.body 0 ([], [], 0)).2.1.length ≤ 5000000 := by
 have h := N0 p.body 0 ([], [], 0)
 have h1 := R0 p.body
 simp only [ci6] at h
 omega
abbrev av5 (p : i6) : List It := [dI p.vars, dI p.arrays, dT p.body, .row 86 (D.instrs (I7 p).fst), .row 3 (D.ints (I7 p).snd.fst)]
abbrev aS2 (p : i6) (r0 : List It) : List It := .row 86 (D.instrs ((n4 p.body 0 ([], [], 0)).fst ++ [d7.mk 13 0 0 0 0])) :: .row 3 (D.ints ((n4 p.body 0 ([], [], 0)).snd.fst ++ [-1])) :: r0
theorem a76 (p : i6) (hb : j6 p.body ≤ 1048576) : j9.ok Tryz.prog ⟨71, [pA 0], pS p, pS p ++ [rN (I7 p).1, rI (I7 p).2.1], .tup [.agg [.ref 3, .ref 4, iA (I7 p).2.2], bA (okC p)]⟩ := by
  refine E9 22 Tryz.func71 [dI p.vars, dI p.arrays, dT p.body] [(0, pA 0)] fun G => ?_; have hcb := bs2 p hb; refine wp_seq (j8 G d9 [0, 1, 2, 3, 11] [dI p.vars, dI p.arrays, dT p.body, .box (pL 0), .box [.v (.slice none 0 0), .v (.slice none 0 0), iA 0]] [(1, .ptr 3 0), (2, .ptr 4 0), (3, bA false)] fun G => b6 (wp_seq (wp_seq (k8 G (s8 1 [0, 1, 2] (R2 p (by assumption))) [(7, .v (.bool !m0 p))] fun G => b6 ?_)))); cases h0 : (!m0 p)
  ·
   have q0 : (m0 p) = true := (Eq.mp (ck2 _) h0); refine rF G _ h0 (wp_skip (b6 (wp_seq (j8 G (s8 3 [2] (bf5 p (by assumption) (by assumption))) [0, 1, 2, 4, 29, 30, 37] [dI p.vars, dI p.arrays, dT p.body, .box [.v (.slice none 0 0), .v (.slice none 0 0), iA 0], .row 86 (D.instrs (n4 p.body 0 ([], [], 0)).fst), .row 3 (D.ints (n4 p.body 0 ([], [], 0)).snd.fst), .box [.ref 4, .ref 5, iA (n4 p.body 0 ([], [], 0)).snd.snd]] [(2, .ptr 3 0), (3, bA false), (4, .ptr 6 0)] fun G => b6 (wp_seq (j8 G (s8 2 [4, 5] (G4 ((n4 p.body 0 ([], [], 0)).fst) ((n4 p.body 0 ([], [], 0)).snd.fst) ((n4 p.body 0 ([], [], 0)).snd.snd) (-1) 13 0 0 0 0 (by omega) (by omega))) [0, 1, 2, 3, 6, 23, 24] (dI p.vars :: dI p.arrays :: dT p.body :: .box [.v (.slice none 0 0), .v (.slice none 0 0), iA 0] :: .box [.ref 5, .ref 6, iA (n4 p.body 0 ([], [], 0)).snd.snd] :: (aS2 p [])) [(2, .ptr 3 0), (3, bA false), (4, .ptr 4 0)] fun G => b6 (wp_seq (wp_seq (k8 G d9 [(19, bA (decide ((((n4 p.body 0 ([], [], 0)).fst ++ [d7.mk 13 0 0 0 0]).length : Int) > 400)))] fun G => b6 (rcD G (fun h1 q1 => ?_) fun h1 q1 => ?_))))))))))
   · refine wp_skip (b6 (wp_seq (j8 G d9 [0, 1, 2, 3, 5, 6] (dI p.vars :: dI p.arrays :: dT p.body :: .box [.ref 4, .ref 5, iA (n4 p.body 0 ([], [], 0)).snd.snd] :: (aS2 p [])) [(2, .ptr 3 0), (3, bA true)] fun G => b6 (wp_ret ?_)))); exact U2 (.tup [.agg [.ref 4, .ref 5, iA (n4 p.body 0 ([], [], 0)).snd.snd], bA true]) G [0, 1, 2, 4, 5] (by have e1 : ((I7 p).snd.snd : Int) = ((n4 p.body 0 ([], [], 0)).snd.snd) := (by rw [bF1 (bA3 (by with_reducible assumption) (by simp only [aL1]; omega))]; rfl); have e2 : (okC p : Bool) = (true) := (bA3 (by with_reducible assumption) (by simp only [aL1]; omega)); (first | rw [e1, e2] | simp only [e1, e2]) <;> rfl) (by show _ = mR [0, 1, 2, 4, 5] (av5 p); unfold av5; rw [bF1 (bA3 (by with_reducible assumption) (by simp only [aL1]; omega))] <;> rfl)
   · refine wp_seq (D2 G d9 [(2, .ptr 3 0), (3, bA false), (4, .ptr 4 0)] fun G => b6 (wp_ret (l6 ?_))); obtain ⟨ρ, G⟩ := G.nil 7 86 (.instrs []) 5 (dI p.vars :: dI p.arrays :: dT p.body :: .box [.ref 7, .v (.slice none 0 0), iA 0] :: .box [.ref 5, .ref 6, iA (n4 p.body 0 ([], [], 0)).snd.snd] :: (aS2 p [])) [(2, .ptr 3 0), (3, bA false), (4, .ptr 4 0)]; obtain ⟨ρ, G⟩ := G.nil 8 3 (.ints []) 1 (dI p.vars :: dI p.arrays :: dT p.body :: .box [.ref 7, .ref 8, iA 0] :: .box [.ref 5, .ref 6, iA (n4 p.body 0 ([], [], 0)).snd.snd] :: (aS2 p [.row 86 (D.instrs [])])) [(2, .ptr 3 0), (3, bA false), (4, .ptr 4 0)]; exact U2 (.tup [.agg [.ref 7, .ref 8, iA 0], bA false]) G [0, 1, 2, 7, 8] (by have e1 : ((I7 p).snd.snd : Int) = (0) := (by rw [ax9 (bA4 (by simp only [aL1]; omega))]; done); have e2 : (okC p : Bool) = (false) := (bA4 (by simp only [aL1]; omega)); (first | rw [e1, e2] | simp only [e1, e2]) <;> rfl) (by show _ = mR [0, 1, 2, 7, 8] (av5 p); unfold av5; rw [ax9 (bA4 (by simp only [aL1]; omega))] <;> rfl)
  · have q0 : (m0 p) = false := (Eq.mp (cj4 _) h0); refine rT G _ h0 (wp_seq (D2 G d9 [(1, .ptr 3 0), (2, .ptr 4 0), (3, bA false)] fun G => b6 (wp_ret (l6 ?_)))); obtain ⟨ρ, G⟩ := G.nil 5 86 (.instrs []) 5 [dI p.vars, dI p.arrays, dT p.body, .box (pL 0), .box [.ref 5, .v (.slice none 0 0), iA 0]] [(1, .ptr 3 0), (2, .ptr 4 0), (3, bA false)]; obtain ⟨ρ, G⟩ := G.nil 6 3 (.ints []) 1 [dI p.vars, dI p.arrays, dT p.body, .box (pL 0), .box [.ref 5, .ref 6, iA 0], .row 86 (D.instrs [])] [(1, .ptr 3 0), (2, .ptr 4 0), (3, bA false)]; exact U2 (.tup [.agg [.ref 5, .ref 6, iA 0], bA false]) G [0, 1, 2, 5, 6] (by have e1 : ((I7 p).snd.snd : Int) = (0) := (by rw [ax9 (aW0 (by with_reducible assumption))]; done); have e2 : (okC p : Bool) = (false) := (aW0 (by with_reducible assumption)); (first | rw [e1, e2] | simp only [e1, e2]) <;> rfl) (by show _ = mR [0, 1, 2, 5, 6] (av5 p); unfold av5; rw [ax9 (aW0 (by with_reducible assumption))] <;> rfl)
theorem b55 {p : i6} (h : okC p = true) : m0 p = true := by
 unfold okC at h; simp only [ch4] at h; exact h.1
def cvP (p : i6) : List Int := if okC p = true then p.vars else []
def caP (p : i6) : List Int := if okC p = true then p.arrays else []
theorem b95 {p : i6} (h : okC p = true) : cvP p = p.vars := if_pos h
theorem bZ3 {p : i6} (h : okC p = false) : cvP p = [] := if_neg (by rw [h]; decide)
theorem ca4 {p : i6} (h : okC p = true) : caP p = p.arrays := if_pos h
theorem bZ8 {p : i6} (h : okC p = false) : caP p = [] := if_neg (by rw [h]; decide)
abbrev aS9 (p : i6) : List It := [dI p.vars, dI p.arrays, dT p.body, .row 3 (D.ints (cvP p)), .row 3 (D.ints (caP p)), .row 86 (D.instrs (I7 p).fst)]
abbrev aS1 (p : i6) (r0 : List It) : List It := .row 86 (D.instrs (I7 p).fst) :: .row 3 (D.ints (I7 p).snd.fst) :: .box [.ref 5, .ref 6, iA (I7 p).snd.snd] :: r0
theorem ay3 (p : i6) (hb : p.size ≤ 1048576) : j9.ok Tryz.prog ⟨23, [pA 0], pS p, pS p ++ [rI (cvP p), rI (caP p), rN (I7 p).1], .tup [.agg [.ref 3, .ref 4, .ref 5], bA (okC p)]⟩ := by
 refine E9 25 Tryz.func23 [dI p.vars, dI p.arrays, dT p.body] [(0, pA 0)] fun G => ?_
 have hb1 : p.vars.length ≤ 1048576 ∧ p.arrays.length ≤ 1048576 ∧ j6 p.body ≤ 1048576 := by unfold i6.size at hb; omega
 refine wp_seq (j8 G d9 [0, 1, 2, 3, 11] [dI p.vars, dI p.arrays, dT p.body, .box (pL 0), .box [.v (.slice none 0 0), .v (.slice none 0 0), .v (.slice none 0 0)]] [(1, .ptr 3 0), (2, .ptr 4 0), (3, bA false)] fun G => b6 (wp_seq (j8 G (s8 1 [0, 1, 2] (a76 p (by omega))) [0, 1, 2, 3, 4, 13, 14, 45] (dI p.vars :: dI p.arrays :: dT p.body :: .box (pL 0) :: .box [.v (.slice none 0 0), .v (.slice none 0 0), .v (.slice none 0 0)] :: (aS1 p [])) [(1, .ptr 3 0), (2, .ptr 4 0), (3, bA false), (4, .ptr 7 0), (5, bA (okC p))] fun G => b6 (wp_seq (wp_seq (k8 G d9 [(12, .v (.bool !okC p))] fun G => b6 ?_)))))); cases h0 : (!okC p)
 ·have q0 : (okC p) = true := (Eq.mp (ck2 _) h0); refine rF G _ h0 (wp_skip (b6 (wp_seq (O1 G d9 [0, 0, 2, 7, 0, 0, 32, 127, 0, 256, 1023, 2047, 4095] [0, 1, 2, 4, 5, 32, 64] [dI p.vars, dI p.arrays, dT p.body, .box [.ref 5, .ref 6, .ref 4], .row 86 (D.instrs (I7 p).fst), .row 3 (D.ints ([] ++ p.vars)), .row 3 (D.ints ([] ++ p.arrays))] [(2, .ptr 3 0), (3, bA true)] (aP ((0 : Nat) + p.vars.length) 8 (aP ((0 : Nat) + p.arrays.length) 8 [])) (aK (by omega) (aK (by omega) ci7)) fun G => b6 (wp_ret ?_))))); exact U2 (.tup [.agg [.ref 5, .ref 6, .ref 4], bA true]) G [0, 1, 2, 5, 6, 4] (by have e1 : (okC p : Bool) = (true) := (by assumption); (first | rw [e1] | simp only [e1]) <;> rfl) (by show _ = mR [0, 1, 2, 5, 6, 4] (aS9 p); unfold aS9; have e2 : (caP p : List Int) = ([] ++ p.arrays) := (by rw [ca4 (by with_reducible assumption)]; rfl); rw [e2, b95 (by with_reducible assumption)] <;> rfl)
 ·have q0 : (okC p) = false := (Eq.mp (cj4 _) h0); refine rT G _ h0 (wp_seq (D2 G d9 [(1, .ptr 3 0), (2, .ptr 4 0), (3, bA false), (4, .ptr 7 0)] fun G => b6 (wp_ret (l6 ?_)))); obtain ⟨ρ, G⟩ := G.nil 8 3 (.ints []) 1 (dI p.vars :: dI p.arrays :: dT p.body :: .box (pL 0) :: .box [.ref 8, .v (.slice none 0 0), .v (.slice none 0 0)] :: (aS1 p [])) [(1, .ptr 3 0), (2, .ptr 4 0), (3, bA false), (4, .ptr 7 0)]; obtain ⟨ρ, G⟩ := G.nil 9 3 (.ints []) 1 (dI p.vars :: dI p.arrays :: dT p.body :: .box (pL 0) :: .box [.ref 8, .ref 9, .v (.slice none 0 0)] :: (aS1 p [.row 3 (D.ints [])])) [(1, .ptr 3 0), (2, .ptr 4 0), (3, bA false), (4, .ptr 7 0)]; obtain ⟨ρ, G⟩ := G.nil 10 86 (.instrs []) 5 (dI p.vars :: dI p.arrays :: dT p.body :: .box (pL 0) :: .box (pL 8) :: (aS1 p [.row 3 (D.ints []), .row 3 (D.ints [])])) [(1, .ptr 3 0), (2, .ptr 4 0), (3, bA false), (4, .ptr 7 0)]; exact U2 (.tup [pA 8, bA false]) G [0, 1, 2, 8, 9, 10] (by have e1 : (okC p : Bool) = (false) := (by assumption); (first | rw [e1] | simp only [e1]) <;> rfl) (by show _ = mR [0, 1, 2, 8, 9, 10] (aS9 p); unfold aS9; have e2 : (caP p : List Int) = ([]) := (by rw [bZ8 (by with_reducible assumption)]; done); have e3 : ((I7 p).fst : List d7) = ([]) := (by rw [ax9 (by with_reducible assumption)]; done); rw [e2, e3, bZ3 (by with_reducible assumption)] <;> rfl)
def rqL (l : Int) (xs : List Int) (k : Nat) : List Int := (xs.take k).map (fun x => l4 x l) ++ xs.drop k
theorem bk5 (l : Int) (xs : List Int) (k : Nat) : (rqL l xs k).length = xs.length := by simp [rqL]; omega
theorem bk6 {l : Int} {xs : List Int} {k : Nat} (h : xs.length ≤ k) : rqL l xs k = xs.map fun x => l4 x l := by
 unfold rqL
 rw [ci8 (by omega), List.drop_eq_nil_of_le (by omega), List.append_nil]
theorem bU9 {l : Int} {xs : List Int} {k : Nat} (h : k < xs.length) : (rqL l xs k).getD k 0 = xs.getD k 0 := by
 unfold rqL
 simp only [ch7]
 rw [ck6 (by simp; omega)]
 simp [List.length_take, Nat.min_eq_left (Nat.le_of_lt h)]
theorem bk4 {l : Int} {xs : List Int} {k : Nat} (h : k < xs.length) : (rqL l xs k).set k (l4 ((rqL l xs k).getD k 0) l) = rqL l xs (k + 1) := by
 rw [bU9 h]
 unfold rqL
 apply List.ext_getElem?
 intro j
 rw [List.getElem?_set]
 by_cases e : k = j
 ·subst e
  rw [if_pos rfl, if_pos (by simp; omega)]
  rw [ci9 (by simp; omega)]
  simp [List.getElem?_take, h, ch7]
 ·rw [if_neg e]
  rcases cj6 j k with h1 | h1
  ·rw [ci9 (by simp; omega), ci9 (by simp; omega)]
   simp [List.getElem?_take, h1, show j < k + 1 by omega]
  ·rw [ck6 (by simp; omega), ck6 (by simp; omega)]
   simp only [List.length_map, List.length_take, List.getElem?_drop]
   congr 1
   omega
def l8 (b : List UInt8) (j : Int) : f8 × Int := (⟨(M5 b j).vars, (M5 b j).arrays, (clD b (P8 b j).2 (M5 b j).vars.length (M5 b j).arrays.length).1⟩, (clD b (P8 b j).2 (M5 b j).vars.length (M5 b j).arrays.length).2)
theorem bG9 (b : List UInt8) {j : Int} (hj : 0 ≤ j) (hj2 : j ≤ 10000000) : j + 2 ≤ (P8 b j).2 ∧ (P8 b j).2 ≤ j + 150000 := by
 have h1 := bo3 b hj hj2
 have h2 := bm3 b hj hj2
 omega
theorem bz2 (b : List UInt8) (j : Int) : (M5 b j).vars.length ≤ 12 ∧ (M5 b j).arrays.length ≤ 2 ∧ 1 ≤ (M5 b j).vars.length := by
 have h := ac5 (bz4 b j)
 have := (aw7 (bz4 b j)).2.2.1
 omega
theorem bF7 (b : List UInt8) {j : Int} (hj : 0 ≤ j) (hj2 : j ≤ 10000000) : j + 3 ≤ (l8 b j).2 ∧ (l8 b j).2 ≤ j + 150100 ∧ (l8 b j).1.list.length ≤ 12 ∧ 1 ≤ (l8 b j).1.list.length := by
 have h1 := bG9 b hj hj2
 have h2 := cg7 b (j := (P8 b j).2) (M5 b j).vars.length (M5 b j).arrays.length (by omega) (by omega)
 have h3 := bX2 b (j := (P8 b j).2) (by omega) (by omega)
 have e : (l8 b j).1.list.length = (clD b (P8 b j).2 (M5 b j).vars.length (M5 b j).arrays.length).1.length := rfl
 have e2 : (l8 b j).2 = (clD b (P8 b j).2 (M5 b j).vars.length (M5 b j).arrays.length).2 := rfl
 rw [e, e2]
 omega
def I4 (b : List UInt8) : Nat → Int → i6 × Int
 | 0, j => (V5 b j, (P8 b j).2 + 1)
 | n + 1, j => if (W6 (V5 b j) false).1 = 0 ∧ 0 < (V5 b j).body.length then (V5 b j, (P8 b j).2 + 1) else I4 b n ((P8 b j).2 + 1)
theorem bN3 (b : List UInt8) : ∀ (n : Nat) (j : Int), n ≤ 3 → 0 ≤ j → j + n * 150001 ≤ 10000000 → j ≤ (I4 b n j).2 ∧ (I4 b n j).2 ≤ j + (n + 1) * 150001 ∧ (I4 b n j).1.size ≤ 160000
 | 0, j, _, hj, hj2 => by
  have h := bG9 b hj (by omega)
  have h2 := ba0 b hj (by omega)
  refine ⟨?_, ?_, h2⟩ <;> (show _ ≤ _; simp only [I4]; omega)
 | n + 1, j, hn, hj, hj2 => by
  have h := bG9 b hj (by omega)
  have h2 := ba0 b hj (by omega)
  have ih := bN3 b n ((P8 b j).2 + 1) (by omega) (by omega) (by omega)
  rw [I4]
  split
  ·exact ⟨by show j ≤ (P8 b j).2 + 1; omega, by show (P8 b j).2 + 1 ≤ _; omega, h2⟩
  ·exact ⟨by omega, by omega, ih.2.2⟩
def P9 (b : List UInt8) (j : Int) : Nat → Int
 | 0 => j
 | i + 1 => (P8 b (P9 b j i)).2 + 1
theorem b86 (b : List UInt8) {j : Int} (hj : 0 ≤ j) (hj2 : j ≤ 9000000) : ∀ i : Nat, i ≤ 3 → j ≤ P9 b j i ∧ P9 b j i ≤ j + i * 150001
 | 0, _ => ⟨Int.le_refl _, by simp [P9]⟩
 | i + 1, hi => by
  have ih := b86 b hj hj2 i (by omega)
  have h := bG9 b (j := P9 b j i) (by omega) (by omega)
  rw [P9]
  omega
theorem b89 {b : List UInt8} {j : Int} {i : Nat} (hi : i < 3) (h : I4 b 3 j = I4 b (3 - i) (P9 b j i)) (hn : ¬ ((W6 (V5 b (P9 b j i)) false).1 = 0 ∧ 0 < (V5 b (P9 b j i)).body.length)) : I4 b 3 j = I4 b (3 - (i + 1)) (P9 b j (i + 1)) := by
 rw [h, show 3 - i = (3 - (i + 1)) + 1 by omega, I4, if_neg hn]; rfl
theorem bY5 {b : List UInt8} {j : Int} {i : Nat} (hi : i < 3) (h : I4 b 3 j = I4 b (3 - i) (P9 b j i)) (hn : (W6 (V5 b (P9 b j i)) false).1 = 0 ∧ 0 < (V5 b (P9 b j i)).body.length) : I4 b 3 j = (V5 b (P9 b j i), (P8 b (P9 b j i)).2 + 1) := by
 rw [h, show 3 - i = (3 - (i + 1)) + 1 by omega, I4, if_pos hn]
theorem bN1 {b : List UInt8} {j : Int} {i : Nat} (hi : 3 ≤ i) (hi2 : i ≤ 3) (h : I4 b 3 j = I4 b (3 - i) (P9 b j i)) : I4 b 3 j = (V5 b (P9 b j i), (P8 b (P9 b j i)).2 + 1) := by
 rw [h, show 3 - i = 0 by omega, I4]
theorem bn6 {p : i6} (h : okL p = false) : okC (G9 p) = false := by
 rw [bl7 h]; exact aW0 (by decide +kernel)
def fnI (x : d7) : d7 := if x.op = 9 ∨ x.op = 4 ∨ x.op = 5 then ⟨12, 0, 0, 0, 0⟩ else x
def Y8 (xs : List d7) (k : Nat) : List d7 := (xs.take k).map fnI ++ xs.drop k
theorem bn0 (xs : List d7) (k : Nat) : (Y8 xs k).length = xs.length := by simp [Y8]; omega
theorem be3 {xs : List d7} {k : Nat} (h : k < xs.length) : (Y8 xs k).getD k ch2 = xs.getD k ch2 := by
 unfold Y8
 simp only [ch7]
 rw [ck6 (by simp; omega)]
 simp [List.length_take, Nat.min_eq_left (Nat.le_of_lt h)]
theorem a58 {xs : List d7} {k : Nat} (h : k < xs.length) : Y8 xs (k + 1) = (Y8 xs k).set k (fnI (xs.getD k ch2)) := by
 unfold Y8
 apply List.ext_getElem?
 intro j
 rw [List.getElem?_set]
 by_cases e : k = j
 ·subst e
  rw [if_pos rfl, if_pos (by simp; omega)]
  rw [ci9 (by simp; omega)]
  simp [List.getElem?_take, h, ch7]
 ·rw [if_neg e]
  rcases cj6 j k with h1 | h1
  ·rw [ci9 (by simp; omega), ci9 (by simp; omega)]
   simp [List.getElem?_take, h1, show j < k + 1 by omega]
  ·rw [ck6 (by simp; omega), ck6 (by simp; omega)]
   simp only [List.length_map, List.length_take, List.getElem?_drop]
   congr 1
   omega
theorem bD5 {xs : List d7} {k : Nat} (h : k < xs.length) (ho : ((Y8 xs k).getD k ch2).op = 9 ∨ ((Y8 xs k).getD k ch2).op = 4 ∨ ((Y8 xs k).getD k ch2).op = 5) : Y8 xs (k + 1) = (Y8 xs k).set k ⟨12, 0, 0, 0, 0⟩ := by
 rw [a58 h]
 rw [be3 h] at ho
 unfold fnI; rw [if_pos ho]
theorem b84 {xs : List d7} {k : Nat} (h : k < xs.length) (ho : ¬ (((Y8 xs k).getD k ch2).op = 9 ∨ ((Y8 xs k).getD k ch2).op = 4 ∨ ((Y8 xs k).getD k ch2).op = 5)) : Y8 xs (k + 1) = Y8 xs k := by
 have ho2 := ho
 rw [be3 h] at ho2
 rw [a58 h]
 unfold fnI; rw [if_neg ho2]
 have hk : k < (Y8 xs k).length := by rw [bn0]; exact h
 rw [← be3 h, m6 hk]; simp
theorem bM9 {xs : List d7} {k : Nat} (h : xs.length ≤ k) : Y8 xs k = xs.map fnI := by
 unfold Y8
 rw [ci8 (by omega), List.drop_eq_nil_of_le (by omega), List.append_nil]
def V3 (b : List UInt8) (j : Int) : f8 × Int :=
 if pk b (l8 b j).2 3 = 0 then
  (if okC (G9 (I4 b 3 ((l8 b j).2 + 1)).1) = true ∧ (I7 (G9 (I4 b 3 ((l8 b j).2 + 1)).1)).1.length ≤ 60 then
   (⟨cvP (G9 (I4 b 3 ((l8 b j).2 + 1)).1), caP (G9 (I4 b 3 ((l8 b j).2 + 1)).1), (I7 (G9 (I4 b 3 ((l8 b j).2 + 1)).1)).1⟩, (I4 b 3 ((l8 b j).2 + 1)).2)
  else ((l8 b j).1, (I4 b 3 ((l8 b j).2 + 1)).2))
 else if pk b (l8 b j).2 3 = 1 then (⟨(l8 b j).1.vars.map fun x => l4 x 1, (l8 b j).1.arrays.map fun x => l4 x 1, (l8 b j).1.list.map fnI⟩, (l8 b j).2 + 1)
 else ((l8 b j).1, (l8 b j).2 + 1)
theorem bZ2 (p : i6) : (cvP p).length ≤ 12 ∧ (caP p).length ≤ 2 := by
 cases h : okC p
 ·rw [bZ3 h, bZ8 h]; simp
 ·rw [b95 h, ca4 h]
  have := ac5 (b55 h)
  omega
theorem b57 (b : List UInt8) {j : Int} (hj : 0 ≤ j) (hj2 : j ≤ 5000000) : j ≤ (V3 b j).2 ∧ (V3 b j).2 ≤ j + 1000000 ∧ (V3 b j).1.list.length ≤ 60 ∧ (V3 b j).1.vars.length ≤ 12 ∧ (V3 b j).1.arrays.length ≤ 2 := by
 have h1 := bF7 b hj (by omega)
 have h2 := bN3 b 3 ((l8 b j).2 + 1) (ch9 _) (by omega) (by omega)
 have h3 := bz2 b j
 have e1 : (l8 b j).1.vars = (M5 b j).vars := rfl
 have e2 : (l8 b j).1.arrays = (M5 b j).arrays := rfl
 have h4 := bZ2 (G9 (I4 b 3 ((l8 b j).2 + 1)).1)
 unfold V3
 split
 ·split
  ·rename_i h; exact ⟨by simp only; omega, by simp only; omega, h.2, h4.1, h4.2⟩
  ·exact ⟨by simp only; omega, by simp only; omega, by simp only; omega, by simp only [e1]; omega, by simp only [e2]; omega⟩
 ·split
  ·exact ⟨by simp only; omega, by simp only; omega, by simp only [List.length_map]; omega, by simp only [List.length_map, e1]; omega, by simp only [List.length_map, e2]; omega⟩
  ·exact ⟨by simp only; omega, by simp only; omega, by simp only; omega, by simp only [e1]; omega, by simp only [e2]; omega⟩
def x7 (c : List UInt8) : f8 := (muD (bsD c) (V3 (bsD c) 0).2 (V3 (bsD c) 0).1).1
theorem bY8 (c : List UInt8) : (x7 c).list.length ≤ 60 ∧ (x7 c).vars.length ≤ 12 ∧ (x7 c).arrays.length ≤ 2 := by
 have h1 := b57 (bsD c) (j := 0) (by omega) (by omega)
 have h2 := cf2 (bsD c) (V3 (bsD c) 0).2 (V3 (bsD c) 0).1
 unfold x7
 omega
abbrev cdC (b : List UInt8) (j : Int) : j9 := ⟨168, [.ptr 0 0], [.box [.ref 1, iA j], dY b], [.box [.ref 1, iA (l8 b j).2], dY b, rI (l8 b j).1.vars, rI (l8 b j).1.arrays, rN (l8 b j).1.list], .agg [.ref 2, .ref 3, .ref 4]⟩
abbrev R7 (b : List UInt8) (j X : Int) (k : Nat) : List d7 × Int := rsD b ((P8 b j).2 + 1) (M5 b j).vars.length (M5 b j).arrays.length X k
section
variable {b : List UInt8} {j X : Int} {k : Nat}
theorem ca0 (hX : nm b (P8 b j).2 lnL = X) (hk : (k : Int) = X - 1) (h3 : ¬ X > 3) : (l8 b j).1.list = (R7 b j X k).1 ++ [⟨13, 0, 0, 0, 0⟩] ∧ (l8 b j).2 = (R7 b j X k).2 := by
 obtain rfl : k = (X - 1).toNat := by omega
 unfold l8 clD
 simp only [hX, if_neg h3]
 constructor <;> first | trivial | rfl
theorem b99 (hX : nm b (P8 b j).2 lnL = X) (hk : (k : Int) = X - 1) (h3 : X > 3) (h : ¬ pk b (R7 b j X k).2 4 = 0) : (l8 b j).1.list = (R7 b j X k).1 ++ [⟨13, 0, 0, 0, 0⟩] ∧ (l8 b j).2 = (R7 b j X k).2 + 1 := by
 obtain rfl : k = (X - 1).toNat := by omega
 unfold R7 at h
 unfold l8 clD
 simp only [hX, if_pos h3, if_neg h]
 constructor <;> first | trivial | rfl
theorem b98 (hX : nm b (P8 b j).2 lnL = X) (hk : (k : Int) = X - 1) (h3 : X > 3) (h : pk b (R7 b j X k).2 4 = 0) : (l8 b j).1.list = (((R7 b j X k).1 ++ [(⟨13, 0, 0, 0, 0⟩ : d7)]).set 0 ⟨1, 5, 1 + pk b ((R7 b j X k).2 + 1) 3, 0, 0⟩).set (X - 2).toNat ⟨10, 5, 1, 0, 0⟩ ∧ (l8 b j).2 = (R7 b j X k).2 + 1 + 1 := by
 obtain rfl : k = (X - 1).toNat := by omega
 unfold R7 at h
 unfold l8 clD
 simp only [hX, if_pos h3, if_pos h]
 constructor
 ·first | trivial | rfl
 ·exact (Int.add_assoc _ 1 1).symm
theorem pw3 (b : List UInt8) {i : Int} (h0 : 0 ≤ i) (h1 : i ≤ 1000000000) : IntKind.i64.wrap (1 + pk b i 3) = 1 + pk b i 3 := by
 have := ae1 b (i := i) (m := 3) h0 h1
 exact w64 (by omega) (by omega)
theorem b44 (b : List UInt8) {j : Int} (X : Int) (r0 : 0 ≤ j) (r1 : j ≤ 10000000) (k : Nat) : (R7 b j X k).1.length = k ∧ (P8 b j).2 + 1 ≤ (R7 b j X k).2 ∧ (R7 b j X k).2 ≤ (P8 b j).2 + 1 + 5 * k :=
 bU8 b ((P8 b j).2 + 1) _ _ X k
end
abbrev aP1 (b : List UInt8) (j : Int) (X : Int) (k : Nat) := Z5 b (R7 b j X k).snd (M5 b j).vars.length (M5 b j).arrays.length (k : Int) X
abbrev aP0 (b : List UInt8) (j : Int) : List It := [.box [.ref 1, iA (l8 b j).snd], dY b, .row 3 (D.ints (l8 b j).fst.vars), .row 3 (D.ints (l8 b j).fst.arrays), .row 86 (D.instrs (l8 b j).fst.list)]
abbrev aZ6 : It := .box [.v (.slice none 0 0), .v (.slice none 0 0), .v (.slice none 0 0)]
abbrev aF5 (b : List UInt8) (j : Int) : It := .row 3 (D.ints (M5 b j).arrays)
abbrev aF4 (b : List UInt8) (j : Int) : It := .row 3 (D.ints (M5 b j).vars)
abbrev bQ0 (b : List UInt8) (j : Int) (X : Int) (k : Nat) : It := .row 86 (D.instrs ((((R7 b j X k).fst ++ ([d7.mk 13 0 0 0 0] ++ [])).set 0 (d7.mk 1 5 (1 + pk b ((R7 b j X k).snd + 1) 3) 0 0)).set (X - 2).toNat (d7.mk 10 5 1 0 0)))
abbrev bi9 (b : List UInt8) (j : Int) (X : Int) (k : Nat) : It := .row 86 (D.instrs ((R7 b j X k).fst ++ ([d7.mk 13 0 0 0 0] ++ [])))
abbrev az0 (X : Int) (r0 : List (Nat × AV)) : List (Nat × AV) := (0, .ptr 0 0) :: (2, .ptr 2 0) :: (4, .ptr 5 0) :: (5, iA X) :: r0
abbrev aE6 (b : List UInt8) (j : Int) (r0 : List It) : List It := dY b :: aZ6 :: aF4 b j :: aF5 b j :: .box [.ref 3, .ref 4, .ref 6] :: r0
theorem bx4 (b : List UInt8) (j X : Int) (hX : nm b (P8 b j).2 lnL = X) (r0 : 0 ≤ j) (r1 : j ≤ 10000000) : j9.ok Tryz.prog (cdC b j) := by
  have hbd := bG9 b r0 r1; have hnum : j9.ok Tryz.prog ⟨122, [.ptr 0 0, .ref 2], [.box [.ref 1, iA (P8 b j).2], dY b, dI lnL], [.box [.ref 1, iA ((P8 b j).2 + 1)], dY b, dI lnL], iA X⟩ := hX ▸ R1 b (P8 b j).2 lnL (List.cons_ne_nil _ _) (by omega) (by omega); refine E9 60 Tryz.func168 [.box [.ref 1, iA j], dY b] [(0, .ptr 0 0)] fun G => ?_; have hop : 1 ≤ X ∧ X ≤ 12 := hX ▸ bX2 b (by omega) (by omega); refine wp_seq (j8 G d9 [0, 1, 2] [.box [.ref 1, iA j], dY b, aZ6] [(0, .ptr 0 0), (2, .ptr 2 0)] fun G => b6 (wp_seq (j8 G (s8 1 [0, 1] (aA7 b j (by assumption) (by assumption))) [0, 1, 2, 11, 12, 13, 19] [.box [.ref 1, iA (P8 b j).snd], dY b, aZ6, aF4 b j, aF5 b j, .tree (D.stmts (M5 b j).body), .box [.ref 3, .ref 4, .tref 5]] [(0, .ptr 0 0), (2, .ptr 2 0), (3, .ptr 6 0)] fun G => b6 (wp_seq (j8 G d9 [0, 1, 2, 3, 4, 47] [.box [.ref 1, iA (P8 b j).snd], dY b, aZ6, aF4 b j, aF5 b j, .box [.ref 3, .ref 4, .v (.slice none 0 0)]] [(0, .ptr 0 0), (2, .ptr 2 0), (4, .ptr 5 0)] fun G => b6 (wp_seq (j8 G (s8 2 [0, 1, 14] (j9.lend hnum [.no, .no, .row 3])) (rg 6) [.box [.ref 1, iA ((P8 b j).snd + 1)], dY b, aZ6, aF4 b j, aF5 b j, .box [.ref 3, .ref 4, .v (.slice none 0 0)]] (az0 X []) fun G => b6 (wp_seq (wp_seq (D2 G d9 (az0 X [(6, iA 0)]) fun G => b6 (wp_block ?_))))))))))); obtain ⟨ρ, G⟩ := G.nil 6 86 (.instrs []) 5 [.box [.ref 1, iA ((P8 b j).snd + 1)], dY b, .box [.v (.slice none 0 0), .v (.slice none 0 0), .v (.slice none 0 0)], .row 3 (D.ints (M5 b j).vars), .row 3 (D.ints (M5 b j).arrays), .box [.ref 3, .ref 4, .ref 6]] (az0 X [(6, iA 0)]); refine t0 (κ := Nat) (fun k => (k : Int) ≤ X - 1) (fun k => (X - 1).toNat - k) (fun k => (.box [.ref 1, iA (R7 b j X k).2] :: (aE6 b j [.row 86 (.instrs (R7 b j X k).1)]))) (fun k => (az0 X [(6, iA k)])) 0 (by omega) (t7.at G _ _) ?_; clear G; intro k ρ a w hp G; replace G := t7.at G (.box [.ref 1, iA (R7 b j X k).snd] :: (aE6 b j [.row 86 (D.instrs (R7 b j X k).fst)])) (az0 X [(6, iA k)]); have hrs := b44 b X r0 r1 k; refine wp_seq (wp_seq (E0 G d9 [(20, bA (decide ((k : Int) < X - 1)))] [wO (X - 1)] (o1 (by omega)) fun G => b6 (rcD G (fun h0 q0 => ?_) fun h0 q0 => ?_)))
  ·
   refine wp_exit (s7 (s7 (r8 (b6 (wp_seq (N7 G d9 [0, 1, 2, 3, 4, 5, 39] (.box [.ref 1, iA (R7 b j X k).snd] :: (aE6 b j [bi9 b j X k])) (az0 X []) (aP ((R7 b j X k).fst.length + ([d7.mk (13 : Int) (0 : Int) (0 : Int) (0 : Int) (0 : Int)] ++ []).length) 40 []) (aK (by simp only [ch8, ci1, ci6, cj9]; omega) ci7) fun G => b6 (wp_seq (wp_seq ?_)))))))); cases h1 : (decide (X > 3))
   · have q1 := dFf h1; refine k8 G (J1 (fc h1 fz) [(3, 0), (4, 0), (5, 0), (1006, 0)]) [(45, bA false)] fun G => b6 (rF G false (by kernel_rfl) (wp_skip (b6 (wp_seq (j8 G d9 [0, 1, 2, 3, 4, 6] [.box [.ref 1, iA (R7 b j X k).snd], dY b, .box (pL 3), aF4 b j, aF5 b j, bi9 b j X k] [(2, .ptr 2 0)] fun G => b6 (wp_ret ?_)))))); exact K8 G [0, 1, 3, 4, 5] (by show _ = mR [0, 1, 3, 4, 5] (aP0 b j); unfold aP0; have e1 : ((l8 b j).snd : Int) = ((R7 b j X k).snd) := ((ca0 hX (by omega) (by omega)).2); have e2 : ((l8 b j).fst.list : List d7) = ((R7 b j X k).fst ++ ([d7.mk 13 0 0 0 0] ++ [])) := ((ca0 hX (by omega) (by omega)).1); (first | rw [e1, e2] | simp only [e1, e2]) <;> rfl)
   ·
    have q1 := dTt h1; refine j8 G (F9 (t4 4 [0, 1] (t5 b ((R7 b j X k).snd) 4 (by omega) (by omega)) F8) (fc h1 fz) [(3, 0), (4, 0), (5, 0), (1006, 0)]) (rg 7) (.box [.ref 1, iA ((R7 b j X k).snd + 1)] :: (aE6 b j [bi9 b j X k])) (az0 X [(45, bA (pk b (R7 b j X k).snd 4 == 0))]) fun G => b6 (J7 G (fun h2 q2 => ?_) fun h2 q2 => ?_)
    · refine wp_skip (b6 (wp_seq (j8 G d9 [0, 1, 2, 3, 4, 6] [.box [.ref 1, iA ((R7 b j X k).snd + 1)], dY b, .box (pL 3), aF4 b j, aF5 b j, bi9 b j X k] [(2, .ptr 2 0)] fun G => b6 (wp_ret ?_)))); exact K8 G [0, 1, 3, 4, 5] (by show _ = mR [0, 1, 3, 4, 5] (aP0 b j); unfold aP0; have e1 : ((l8 b j).snd : Int) = ((R7 b j X k).snd + 1) := ((b99 hX (by omega) (by omega) (by omega)).2); have e2 : ((l8 b j).fst.list : List d7) = ((R7 b j X k).fst ++ ([d7.mk 13 0 0 0 0] ++ [])) := ((b99 hX (by omega) (by omega) (by omega)).1); (first | rw [e1, e2] | simp only [e1, e2]) <;> rfl)
    · refine wp_seq (O1 G (s8 3 [0, 1] (t5 b ((R7 b j X k).snd + 1) 3 (by omega) (by omega))) [0, 1, 0, 4, 12, 28, 63, 127] (rg 7) (.box [.ref 1, iA ((R7 b j X k).snd + 1 + 1)] :: (aE6 b j [.row 86 (D.instrs (((R7 b j X k).fst ++ ([d7.mk 13 0 0 0 0] ++ [])).set 0 (d7.mk 1 5 (1 + pk b ((R7 b j X k).snd + 1) 3) 0 0)))])) [(2, .ptr 2 0), (4, .ptr 5 0), (5, iA X)] [wO ((1 : Int) + pk b ((R7 b j X k).snd + 1) (3 : Int)), (0 : Int) ≤ 0, (0 : Int) < (((R7 b j X k).fst ++ ([d7.mk (13 : Int) (0 : Int) (0 : Int) (0 : Int) (0 : Int)] ++ [])).length : Int), (0 : Nat) < ((R7 b j X k).fst ++ ([d7.mk (13 : Int) (0 : Int) (0 : Int) (0 : Int) (0 : Int)] ++ [])).length] ⟨(pw3 b (by omega) (by omega)), (by omega), (by simp [h0, h1, h2]), (by simp [h0, h1, h2]), ci7⟩ fun G => b6 (N7 G d9 (rg 7) (.box [.ref 1, iA ((R7 b j X k).snd + 1 + 1)] :: (aE6 b j [bQ0 b j X k])) [(2, .ptr 2 0), (4, .ptr 5 0)] [wO (X - 2), (0 : Int) ≤ X - 2, X - 2 < ((((R7 b j X k).fst ++ ([d7.mk (13 : Int) (0 : Int) (0 : Int) (0 : Int) (0 : Int)] ++ [])).set (0 : Nat) (d7.mk (1 : Int) (5 : Int) ((1 : Int) + pk b ((R7 b j X k).snd + 1) (3 : Int)) (0 : Int) (0 : Int))).length : Int), (X - 2).toNat < (((R7 b j X k).fst ++ ([d7.mk (13 : Int) (0 : Int) (0 : Int) (0 : Int) (0 : Int)] ++ [])).set (0 : Nat) (d7.mk (1 : Int) (5 : Int) ((1 : Int) + pk b ((R7 b j X k).snd + 1) (3 : Int)) (0 : Int) (0 : Int))).length] ⟨oW (by omega), (by omega), (by simp only [ch8, ci1, ci6, cj9]; omega), (by simp only [ch8, ci1, ci6, cj9]; omega), ci7⟩ fun G => b6 (wp_seq (j8 G d9 [0, 1, 2, 3, 4, 6] [.box [.ref 1, iA ((R7 b j X k).snd + 1 + 1)], dY b, .box (pL 3), aF4 b j, aF5 b j, bQ0 b j X k] [(2, .ptr 2 0)] fun G => b6 (wp_ret ?_))))); exact K8 G [0, 1, 3, 4, 5] (by show _ = mR [0, 1, 3, 4, 5] (aP0 b j); unfold aP0; have e1 : ((l8 b j).snd : Int) = ((R7 b j X k).snd + 1 + 1) := ((b98 hX (by omega) (by omega) (by omega)).2); have e2 : ((l8 b j).fst.list : List d7) = ((((R7 b j X k).fst ++ ([d7.mk 13 0 0 0 0] ++ [])).set 0 (d7.mk 1 5 (1 + pk b ((R7 b j X k).snd + 1) 3) 0 0)).set (X - 2).toNat (d7.mk 10 5 1 0 0)) := ((b98 hX (by omega) (by omega) (by omega)).1); (first | rw [e1, e2] | simp only [e1, e2]) <;> rfl)
  · refine wp_skip (b6 (wp_seq (wp_block (O1 G (s8 6 [0, 1, 3, 4, 6] (j9.lend (bf6 b ((R7 b j X k).snd) ((M5 b j).vars) ((M5 b j).arrays) ((R7 b j X k).fst) ((k : Int)) X (by omega) (by omega) (by omega) (by omega)) [.no, .no, .row 3, .row 3, .row 86])) [0, 1, 0, 0, 0, 0, 60, 124, 255, 511, 1023] [0, 1, 2, 3, 4, 5, 71] (.box [.ref 1, iA (aP1 b j X k).snd] :: (aE6 b j [.row 86 (D.instrs ((R7 b j X k).fst ++ ([d7.mk (aP1 b j X k).fst.op (aP1 b j X k).fst.a (aP1 b j X k).fst.b (aP1 b j X k).fst.c (aP1 b j X k).fst.d] ++ [])))])) (az0 X [(6, iA k)]) (aP ((R7 b j X k).fst.length + ([d7.mk (Z5 b (R7 b j X k).snd (M5 b j).vars.length (M5 b j).arrays.length (k : Int) X).fst.op (Z5 b (R7 b j X k).snd (M5 b j).vars.length (M5 b j).arrays.length (k : Int) X).fst.a (Z5 b (R7 b j X k).snd (M5 b j).vars.length (M5 b j).arrays.length (k : Int) X).fst.b (Z5 b (R7 b j X k).snd (M5 b j).vars.length (M5 b j).arrays.length (k : Int) X).fst.c (Z5 b (R7 b j X k).snd (M5 b j).vars.length (M5 b j).arrays.length (k : Int) X).fst.d] ++ []).length) 40 []) (aK (by simp only [ch8, ci1, ci6, cj9]; omega) ci7) fun G => l0 (b6 (E0 G d9 [(6, iA ((k : Int) + 1))] [wO ((k : Int) + 1)] (o1 (by omega)) fun G => b6 ?_)))))); exact I9 G (k + 1) (by assumption) (by omega) (rg 7)
theorem au5 (b : List UInt8) (j : Int) (r0 : 0 ≤ j) (r1 : j ≤ 10000000) : j9.ok Tryz.prog (cdC b j) := bx4 b j _ rfl r0 r1
abbrev muC (b : List UInt8) (j : Int) (vs ars : List Int) (l : List d7) : j9 := ⟨95, [.ptr 0 0, .agg [.ref 2, .ref 3, .ref 4]], [.box [.ref 1, iA j], dY b, dI vs, dI ars, dN l], [.box [.ref 1, iA (muD b j ⟨vs, ars, l⟩).2], dY b, dI vs, dI ars, dN l, rI (muD b j ⟨vs, ars, l⟩).1.vars, rI (muD b j ⟨vs, ars, l⟩).1.arrays, rN (muD b j ⟨vs, ars, l⟩).1.list], .agg [.ref 5, .ref 6, .ref 7]⟩
section
variable {b : List UInt8} {j : Int} {vs ars : List Int} {l : List d7}
theorem cf1 (h : (([] ++ l).length : Int) = 0) : muD b j ⟨vs, ars, l⟩ = (⟨[] ++ vs, [] ++ ars, [] ++ l⟩, j) := by
 unfold muD; rw [if_pos (by rw [List.nil_append] at h; show l.length = 0; omega)]
 rfl
theorem cf8 (h : ¬ (([] ++ l).length : Int) = 0) (h1 : pk b j 60 = 0) : muD b j ⟨vs, ars, l⟩ = (⟨vs, ars, bV2 l 0 (nm b (j + 1) b63)⟩, j + 1 + 1) := by
 unfold muD; rw [if_neg (by rw [List.nil_append] at h; show ¬ l.length = 0; omega), if_pos h1, Int.add_assoc]; rfl
theorem cf7 (h : ¬ (([] ++ l).length : Int) = 0) (h1 : pk b j 60 = 1) : muD b j ⟨vs, ars, l⟩ = (⟨vs, ars, by8 l (pk b (j + 1) l.length).toNat (nm b (j + 1 + 1) b62)⟩, j + 1 + 1 + 1) := by
 unfold muD; rw [if_neg (by rw [List.nil_append] at h; show ¬ l.length = 0; omega), if_neg (by omega), if_pos h1, Int.add_assoc j 1 1, Int.add_assoc]; rfl
theorem cf6 (h : ¬ (([] ++ l).length : Int) = 0) (h1 : pk b j 60 = 2) : muD b j ⟨vs, ars, l⟩ = (⟨vs, ars, ([] ++ l).set ((([] ++ l).length : Int) - 1).toNat ⟨12, 0, 0, 0, 0⟩⟩, j + 1) := by
 unfold muD; rw [if_neg (by rw [List.nil_append] at h; show ¬ l.length = 0; omega), if_neg (by omega), if_neg (by omega), if_pos h1]
 rw [List.nil_append] at h ⊢
 exact congrArg (fun i => ((⟨vs, ars, l.set i _⟩ : f8), j + 1)) (by show l.length - 1 = _; omega)
theorem cf5 (h : ¬ (([] ++ l).length : Int) = 0) (h1 : pk b j 60 = 3) : muD b j ⟨vs, ars, l⟩ = (⟨vs, ars, ([] ++ l).set ((([] ++ l).length : Int) - 1).toNat ⟨8, 0, 0, 0, 0⟩⟩, j + 1) := by
 unfold muD; rw [if_neg (by rw [List.nil_append] at h; show ¬ l.length = 0; omega), if_neg (by omega), if_neg (by omega), if_neg (by omega), if_pos h1]
 rw [List.nil_append] at h ⊢
 exact congrArg (fun i => ((⟨vs, ars, l.set i _⟩ : f8), j + 1)) (by show l.length - 1 = _; omega)
theorem cf4 (h : ¬ (([] ++ l).length : Int) = 0) (h1 : pk b j 60 = 4) : muD b j ⟨vs, ars, l⟩ = (⟨vs, ars, bV3 l (pk b (j + 1) l.length).toNat (nm b (j + 1 + 1) b61)⟩, j + 1 + 1 + 1) := by
 unfold muD; rw [if_neg (by rw [List.nil_append] at h; show ¬ l.length = 0; omega), if_neg (by omega), if_neg (by omega), if_neg (by omega), if_neg (by omega), if_pos h1, Int.add_assoc j 1 1, Int.add_assoc]; rfl
theorem cf3 (h : ¬ (([] ++ l).length : Int) = 0) (h1 : pk b j 60 = 5) : muD b j ⟨vs, ars, l⟩ = (⟨[], ars, l⟩, j + 1) := by
 unfold muD; rw [if_neg (by rw [List.nil_append] at h; show ¬ l.length = 0; omega), if_neg (by omega), if_neg (by omega), if_neg (by omega), if_neg (by omega), if_neg (by omega), if_pos h1]
theorem cf0 (h : ¬ (([] ++ l).length : Int) = 0) (h1 : ¬ pk b j 60 = 0 ∧ ¬ pk b j 60 = 1 ∧ ¬ pk b j 60 = 2 ∧ ¬ pk b j 60 = 3 ∧ ¬ pk b j 60 = 4 ∧ ¬ pk b j 60 = 5) : muD b j ⟨vs, ars, l⟩ = (⟨[] ++ vs, [] ++ ars, [] ++ l⟩, j + 1) := by
 unfold muD; rw [if_neg (by rw [List.nil_append] at h; show ¬ l.length = 0; omega), if_neg (by omega), if_neg (by omega), if_neg (by omega), if_neg (by omega), if_neg (by omega), if_neg (by omega)]
 rfl
theorem ce9 (h : ¬ (([] ++ l).length : Int) = 0) (r0 : 0 ≤ j) (r1 : j ≤ 100000000) : 0 ≤ pk b (j + 1) (([] ++ l).length : Int) ∧ pk b (j + 1) (([] ++ l).length : Int) < (([] ++ l).length : Int) := bV6 b (by omega) (by omega) (by omega)
end
abbrev X2 (b : List UInt8) (j : Int) (vs : List Int) (ars : List Int) (l : List d7) : List It := [.box [.ref 1, iA (muD b j (f8.mk vs ars l)).snd], dY b, dI vs, dI ars, dN l, .row 3 (D.ints (muD b j (f8.mk vs ars l)).fst.vars), .row 3 (D.ints (muD b j (f8.mk vs ars l)).fst.arrays), .row 86 (D.instrs (muD b j (f8.mk vs ars l)).fst.list)]
abbrev bP9 (b : List UInt8) (j : Int) (l : List d7) : It := .row 86 (D.instrs (([] ++ l).set (pk b (j + 1) (([] ++ l).length : Int)).toNat (d7.mk (([] ++ l).getD (pk b (j + 1) (([] ++ l).length : Int)).toNat ch2).op (nm b (j + 1 + 1) ([-1] ++ ([14] ++ ([0] ++ ([400] ++ []))))) (([] ++ l).getD (pk b (j + 1) (([] ++ l).length : Int)).toNat ch2).b (([] ++ l).getD (pk b (j + 1) (([] ++ l).length : Int)).toNat ch2).c (([] ++ l).getD (pk b (j + 1) (([] ++ l).length : Int)).toNat ch2).d)))
abbrev bP8 (b : List UInt8) (j : Int) (l : List d7) : It := .row 86 (D.instrs (([] ++ l).set (pk b (j + 1) (([] ++ l).length : Int)).toNat (d7.mk (([] ++ l).getD (pk b (j + 1) (([] ++ l).length : Int)).toNat ch2).op (([] ++ l).getD (pk b (j + 1) (([] ++ l).length : Int)).toNat ch2).a (([] ++ l).getD (pk b (j + 1) (([] ++ l).length : Int)).toNat ch2).b (([] ++ l).getD (pk b (j + 1) (([] ++ l).length : Int)).toNat ch2).c (nm b (j + 1 + 1) ([1] ++ ([-1] ++ []))))))
abbrev ar8 : It := .box [.v (.slice none 0 0), .v (.slice none 0 0), .v (.slice none 0 0)]
abbrev bP7 (b : List UInt8) (j : Int) (l : List d7) : It := .row 86 (D.instrs (([] ++ l).set 0 (d7.mk (nm b (j + 1) ([0] ++ ([14] ++ ([1] ++ ([12] ++ []))))) (([] ++ l).getD 0 ch2).a (([] ++ l).getD 0 ch2).b (([] ++ l).getD 0 ch2).c (([] ++ l).getD 0 ch2).d)))
abbrev aa9 (vs : List Int) (ars : List Int) (r0 : List It) : List It := .row 3 (D.ints ([] ++ vs)) :: .row 3 (D.ints ([] ++ ars)) :: r0
theorem aL5 (b : List UInt8) (j : Int) (vs ars : List Int) (l : List d7) (hb : vs.length ≤ 1048576 ∧ ars.length ≤ 1048576 ∧ l.length ≤ 9000000) (r0 : 0 ≤ j) (r1 : j ≤ 100000000) : j9.ok Tryz.prog (muC b j vs ars l) := by
  refine E9 82 Tryz.func95 [.box [.ref 1, iA j], dY b, dI vs, dI ars, dN l] [(0, .ptr 0 0), (1, pA 2)] fun G => ?_
  have hmp := fun (h : ¬ (([] ++ l).length : Int) = 0) => ce9 (b := b) (j := j) (l := l) h r0 r1
  have hll : ([] ++ l).length ≤ 9000000 := hb.2.2; refine wp_seq (j8 G d9 [0, 1, 2, 3, 4, 5, 13] [.box [.ref 1, iA j], dY b, dI vs, dI ars, dN l, .box (pL 2), ar8] [(0, .ptr 0 0), (3, .ptr 5 0), (4, .ptr 6 0)] fun G => b6 (wp_seq (O1 G d9 [0, 0, 2, 7, 0, 0, 32, 127, 0, 0, 512, 2047, 4095, 0, 16383] [0, 1, 2, 3, 4, 6, 31, 63, 95, 111] (.box [.ref 1, iA j] :: dY b :: dI vs :: dI ars :: dN l :: ar8 :: (aa9 vs ars [.row 86 (D.instrs ([] ++ l)), .box (pL 6)])) [(0, .ptr 0 0), (4, .ptr 5 0), (5, .ptr 9 0)] (aP ((0 : Nat) + vs.length) 8 (aP ((0 : Nat) + ars.length) 8 (aP ((0 : Nat) + l.length) 40 []))) (aK (by omega) (aK (by omega) (aK (by omega) ci7))) fun G => b6 (wp_seq (k8 G d9 [(6, iA (([] ++ l).length : Int))] fun G => b6 (wp_seq (wp_seq (k8 G d9 [(24, bA ((([] ++ l).length : Int) == 0))] fun G => b6 (J7 G (fun h0 q0 => ?_) fun h0 q0 => ?_)))))))))
  ·
   refine wp_skip (b6 (wp_seq (wp_seq (j8 G (s8 1 [0, 1] (t5 b j 60 (by assumption) (by omega))) (rg 10) (.box [.ref 1, iA (j + 1)] :: dY b :: dI vs :: dI ars :: dN l :: ar8 :: (aa9 vs ars [.row 86 (D.instrs ([] ++ l)), .box (pL 6)])) [(0, .ptr 0 0), (4, .ptr 5 0), (5, .ptr 9 0), (6, iA (([] ++ l).length : Int)), (27, iA (pk b j 60))] fun G => b6 (wp_block (wp_seq (k8 G d9 [(28, bA (pk b j 60 == 0))] fun G => b6 (J7 G (fun h1 q1 => ?_) fun h1 q1 => ?_))))))))
   ·
    refine wp_seq (k8 G d9 [(37, bA (pk b j 60 == 1))] fun G => b6 (J7 G (fun h2 q2 => ?_) fun h2 q2 => ?_))
    ·
     refine wp_seq (k8 G d9 [(49, bA (pk b j 60 == 2))] fun G => b6 (J7 G (fun h3 q3 => ?_) fun h3 q3 => ?_))
     ·
      refine wp_seq (k8 G d9 [(57, bA (pk b j 60 == 3))] fun G => b6 (J7 G (fun h4 q4 => ?_) fun h4 q4 => ?_))
      ·
       refine wp_seq (k8 G d9 [(65, bA (pk b j 60 == 4))] fun G => b6 (J7 G (fun h5 q5 => ?_) fun h5 q5 => ?_))
       ·
        refine wp_seq (k8 G d9 [(77, bA (pk b j 60 == 5))] fun G => b6 (J7 G (fun h6 q6 => ?_) fun h6 q6 => ?_))
        · refine wp_skip (l0 (b6 (wp_seq (j8 G d9 (rg 9) (.box [.ref 1, iA (j + 1)] :: dY b :: dI vs :: dI ars :: dN l :: .box (pL 6) :: (aa9 vs ars [.row 86 (D.instrs ([] ++ l))])) [(4, .ptr 5 0)] fun G => b6 (wp_ret ?_))))); exact K8 G [0, 1, 2, 3, 4, 6, 7, 8] (by show _ = mR [0, 1, 2, 3, 4, 6, 7, 8] (X2 b j vs ars l); unfold X2; rw [cf0 (by omega) (by omega)] <;> rfl)
        · refine j8 G d9 [0, 1, 2, 3, 4, 5, 7, 8, 9, 10] [.box [.ref 1, iA (j + 1)], dY b, dI vs, dI ars, dN l, ar8, .row 3 (D.ints ([] ++ ars)), .row 86 (D.instrs ([] ++ l)), .box [.ref 9, .ref 6, .ref 7], .row 3 (D.ints [])] [(4, .ptr 5 0), (5, .ptr 8 0)] fun G => l0 (b6 (wp_seq (j8 G d9 [0, 1, 2, 3, 4, 5, 6, 7, 9] [.box [.ref 1, iA (j + 1)], dY b, dI vs, dI ars, dN l, .box [.ref 8, .ref 6, .ref 7], .row 3 (D.ints ([] ++ ars)), .row 86 (D.instrs ([] ++ l)), .row 3 (D.ints [])] [(4, .ptr 5 0)] fun G => b6 (wp_ret ?_)))); exact K8 G [0, 1, 2, 3, 4, 8, 6, 7] (by show _ = mR [0, 1, 2, 3, 4, 8, 6, 7] (X2 b j vs ars l); unfold X2; rw [cf3 (by omega) (by omega)] <;> rfl)
       · refine O1 G (F9 (t4 4 [0, 1] (t5 b (j + 1) ((([] ++ l).length : Int)) (by omega) (by omega)) (t4 7 [0, 1, 58] (j9.lend (R1 b (j + 1 + 1) ([1] ++ ([-1] ++ [])) (by simp [h0, h1, h2, h3, h4, h5]) (by omega) (by omega)) [.no, .no, .row 3]) F8)) fz []) [0, 1, 0, 0, 12, 0, 0, 124, 255, 511, 1023] (rg 10) (.box [.ref 1, iA (j + 1 + 1 + 1)] :: dY b :: dI vs :: dI ars :: dN l :: ar8 :: (aa9 vs ars [bP8 b j l, .box (pL 6)])) [(4, .ptr 5 0), (5, .ptr 9 0)] (iX (pk b (j + 1) (([] ++ l).length : Int)) ((pk b (j + 1) (([] ++ l).length : Int)).toNat) (([] ++ l).length) []) (iK (by omega) ci7) fun G => l0 (b6 (wp_seq (j8 G d9 (rg 9) (.box [.ref 1, iA (j + 1 + 1 + 1)] :: dY b :: dI vs :: dI ars :: dN l :: .box (pL 6) :: (aa9 vs ars [bP8 b j l])) [(4, .ptr 5 0)] fun G => b6 (wp_ret ?_)))); exact K8 G [0, 1, 2, 3, 4, 6, 7, 8] (by show _ = mR [0, 1, 2, 3, 4, 6, 7, 8] (X2 b j vs ars l); unfold X2; rw [cf4 (by omega) (by omega)] <;> rfl)
      · refine N7 G d9 (rg 10) (.box [.ref 1, iA (j + 1)] :: dY b :: dI vs :: dI ars :: dN l :: ar8 :: (aa9 vs ars [.row 86 (D.instrs (([] ++ l).set ((([] ++ l).length : Int) - 1).toNat (d7.mk 8 0 0 0 0))), .box (pL 6)])) [(4, .ptr 5 0), (5, .ptr 9 0)] ((wO ((([] ++ l).length : Int) - 1)) :: (iX ((([] ++ l).length : Int) - 1) (((([] ++ l).length : Int) - 1).toNat) (([] ++ l).length) [])) ⟨oW (by omega), (iK (by omega) ci7)⟩ fun G => l0 (b6 (wp_seq (j8 G d9 (rg 9) (.box [.ref 1, iA (j + 1)] :: dY b :: dI vs :: dI ars :: dN l :: .box (pL 6) :: (aa9 vs ars [.row 86 (D.instrs (([] ++ l).set ((([] ++ l).length : Int) - 1).toNat (d7.mk 8 0 0 0 0)))])) [(4, .ptr 5 0)] fun G => b6 (wp_ret ?_)))); exact K8 G [0, 1, 2, 3, 4, 6, 7, 8] (by show _ = mR [0, 1, 2, 3, 4, 6, 7, 8] (X2 b j vs ars l); unfold X2; rw [cf5 (by omega) (by omega)] <;> rfl)
     · refine N7 G d9 (rg 10) (.box [.ref 1, iA (j + 1)] :: dY b :: dI vs :: dI ars :: dN l :: ar8 :: (aa9 vs ars [.row 86 (D.instrs (([] ++ l).set ((([] ++ l).length : Int) - 1).toNat (d7.mk 12 0 0 0 0))), .box (pL 6)])) [(4, .ptr 5 0), (5, .ptr 9 0)] ((wO ((([] ++ l).length : Int) - 1)) :: (iX ((([] ++ l).length : Int) - 1) (((([] ++ l).length : Int) - 1).toNat) (([] ++ l).length) [])) ⟨oW (by omega), (iK (by omega) ci7)⟩ fun G => l0 (b6 (wp_seq (j8 G d9 (rg 9) (.box [.ref 1, iA (j + 1)] :: dY b :: dI vs :: dI ars :: dN l :: .box (pL 6) :: (aa9 vs ars [.row 86 (D.instrs (([] ++ l).set ((([] ++ l).length : Int) - 1).toNat (d7.mk 12 0 0 0 0)))])) [(4, .ptr 5 0)] fun G => b6 (wp_ret ?_)))); exact K8 G [0, 1, 2, 3, 4, 6, 7, 8] (by show _ = mR [0, 1, 2, 3, 4, 6, 7, 8] (X2 b j vs ars l); unfold X2; rw [cf6 (by omega) (by omega)] <;> rfl)
    · refine O1 G (F9 (t4 4 [0, 1] (t5 b (j + 1) ((([] ++ l).length : Int)) (by omega) (by omega)) (t4 7 [0, 1, 58] (j9.lend (R1 b (j + 1 + 1) ([-1] ++ ([14] ++ ([0] ++ ([400] ++ [])))) (by simp [h0, h1, h2]) (by omega) (by omega)) [.no, .no, .row 3]) F8)) fz []) [0, 1, 0, 0, 12, 0, 0, 124, 255, 511, 1023] (rg 10) (.box [.ref 1, iA (j + 1 + 1 + 1)] :: dY b :: dI vs :: dI ars :: dN l :: ar8 :: (aa9 vs ars [bP9 b j l, .box (pL 6)])) [(4, .ptr 5 0), (5, .ptr 9 0)] (iX (pk b (j + 1) (([] ++ l).length : Int)) ((pk b (j + 1) (([] ++ l).length : Int)).toNat) (([] ++ l).length) []) (iK (by omega) ci7) fun G => l0 (b6 (wp_seq (j8 G d9 (rg 9) (.box [.ref 1, iA (j + 1 + 1 + 1)] :: dY b :: dI vs :: dI ars :: dN l :: .box (pL 6) :: (aa9 vs ars [bP9 b j l])) [(4, .ptr 5 0)] fun G => b6 (wp_ret ?_)))); exact K8 G [0, 1, 2, 3, 4, 6, 7, 8] (by show _ = mR [0, 1, 2, 3, 4, 6, 7, 8] (X2 b j vs ars l); unfold X2; rw [cf7 (by omega) (by omega)] <;> rfl)
   · refine O1 G (s8 4 [0, 1, 34] (j9.lend (R1 b (j + 1) ([0] ++ ([14] ++ ([1] ++ ([12] ++ [])))) (by simp [h0, h1]) (by omega) (by omega)) [.no, .no, .row 3])) [0, 1, 0, 0, 12, 31, 63, 127] (rg 10) (.box [.ref 1, iA (j + 1 + 1)] :: dY b :: dI vs :: dI ars :: dN l :: ar8 :: (aa9 vs ars [bP7 b j l, .box (pL 6)])) [(4, .ptr 5 0), (5, .ptr 9 0)] (iX 0 0 (([] ++ l).length) []) (iK (by omega) ci7) fun G => l0 (b6 (wp_seq (j8 G d9 (rg 9) (.box [.ref 1, iA (j + 1 + 1)] :: dY b :: dI vs :: dI ars :: dN l :: .box (pL 6) :: (aa9 vs ars [bP7 b j l])) [(4, .ptr 5 0)] fun G => b6 (wp_ret ?_)))); exact K8 G [0, 1, 2, 3, 4, 6, 7, 8] (by show _ = mR [0, 1, 2, 3, 4, 6, 7, 8] (X2 b j vs ars l); unfold X2; rw [cf8 (by omega) (by omega)] <;> rfl)
  · refine wp_seq (j8 G d9 (rg 10) (.box [.ref 1, iA j] :: dY b :: dI vs :: dI ars :: dN l :: .box (pL 6) :: (aa9 vs ars [.row 86 (D.instrs ([] ++ l)), .box (pL 6)])) [(0, .ptr 0 0), (4, .ptr 5 0), (5, .ptr 9 0), (6, iA (([] ++ l).length : Int))] fun G => b6 (wp_ret (l6 ?_))); exact K8 G [0, 1, 2, 3, 4, 6, 7, 8] (by show _ = mR [0, 1, 2, 3, 4, 6, 7, 8] (X2 b j vs ars l); unfold X2; rw [cf1 (by omega)] <;> rfl)
abbrev tyC (b : List UInt8) (j : Int) : j9 := ⟨56, [.ptr 0 0], [.box [.ref 1, iA j], dY b], [.box [.ref 1, iA ((P8 b j).2 + 1)], dY b] ++ oP (V5 b j), oA 2⟩
section
variable {b : List UInt8} {j : Int}
theorem cb8 (h : pk b (P8 b j).2 4 = 0) : V5 b j = M5 b j := if_pos h
theorem cb7 (h : ¬ pk b (P8 b j).2 4 = 0) (h2 : okI (M5 b j) = true) : V5 b j = ah1 (M5 b j) := by rw [V5, if_neg h, if_pos h2]
theorem cb6 (h : ¬ pk b (P8 b j).2 4 = 0) (h2 : okI (M5 b j) = false) : V5 b j = M5 b j := by rw [V5, if_neg h, if_neg (by rw [h2]; decide)]
end
abbrev aO5 (b : List UInt8) (j : Int) : List It := [.box [.ref 1, iA ((P8 b j).snd + 1)], dY b, .row 3 (D.ints (V5 b j).vars), .row 3 (D.ints (V5 b j).arrays), .tree (D.stmts (V5 b j).body)]
abbrev bi1 : It := .box [.v (.slice none 0 0), .v (.slice none 0 0), .v (.slice none 0 0)]
abbrev aF2 : It := .box [.ref 3, .ref 4, .tref 5]
abbrev aO3 (b : List UInt8) (j : Int) (r0 : List It) : List It := .row 3 (D.ints (M5 b j).vars) :: .row 3 (D.ints (M5 b j).arrays) :: .tree (D.stmts (M5 b j).body) :: r0
theorem aR7 (b : List UInt8) (j : Int) (r0 : 0 ≤ j) (r1 : j ≤ 10000000) : j9.ok Tryz.prog (tyC b j) := by
  refine E9 20 Tryz.func56 [.box [.ref 1, iA j], dY b] [(0, .ptr 0 0)] fun G => ?_; have hk2 := bm3 b r0 r1; have hbd := bo3 b r0 r1; have hsz := bz3 b r0 r1; refine wp_seq (j8 G d9 [0, 1, 2] [.box [.ref 1, iA j], dY b, bi1] [(0, .ptr 0 0), (2, .ptr 2 0)] fun G => b6 (wp_seq (j8 G (s8 1 [0, 1] (aA7 b j (by assumption) (by assumption))) [0, 1, 2, 11, 12, 13, 19] (.box [.ref 1, iA (P8 b j).snd] :: dY b :: bi1 :: (aO3 b j [aF2])) [(0, .ptr 0 0), (2, .ptr 2 0), (3, .ptr 6 0)] fun G => b6 (wp_seq (wp_seq (j8 G (s8 1 [0, 1] (t5 b ((P8 b j).snd) 4 (by omega) (by omega))) (rg 7) (.box [.ref 1, iA ((P8 b j).snd + 1)] :: dY b :: bi1 :: (aO3 b j [aF2])) [(2, .ptr 2 0), (3, .ptr 6 0), (10, bA (pk b (P8 b j).snd 4 == 0))] fun G => b6 (J7 G (fun h0 q0 => ?_) fun h0 q0 => ?_)))))))
  ·
   refine wp_skip (b6 (wp_seq (j8 G (s8 1 [3, 4, 5] (j9.lend (aN8 (M5 b j) (by omega)) [.row 3, .row 3, .tree])) [0, 1, 2, 3, 4, 5, 6, 15, 16, 17, 47] (.box [.ref 1, iA ((P8 b j).snd + 1)] :: dY b :: bi1 :: (aO3 b j [aF2, .row 3 (D.ints (ah1 (M5 b j)).vars), .row 3 (D.ints (ah1 (M5 b j)).arrays), .tree (D.stmts (ah1 (M5 b j)).body), .box [.ref 7, .ref 8, .tref 9]])) [(2, .ptr 2 0), (3, .ptr 6 0), (4, .ptr 10 0), (5, bA (okI (M5 b j)))] fun G => b6 (wp_seq (wp_seq (k8 G d9 [(17, bA (okI (M5 b j)))] fun G => b6 (rcB G (fun h1 => ?_) fun h1 => ?_)))))))
   · refine wp_skip (b6 (wp_seq (j8 G d9 (rg 6) (.box [.ref 1, iA ((P8 b j).snd + 1)] :: dY b :: aF2 :: (aO3 b j [])) [(2, .ptr 2 0)] fun G => b6 (wp_ret ?_)))); exact K8 G [0, 1, 3, 4, 5] (by show _ = mR [0, 1, 3, 4, 5] (aO5 b j); unfold aO5; rw [cb6 (by omega) (by with_reducible assumption)] <;> rfl)
   · refine wp_seq (j8 G d9 (rg 10) (.box [.ref 1, iA ((P8 b j).snd + 1)] :: dY b :: .box [.ref 7, .ref 8, .tref 9] :: (aO3 b j [aF2, .row 3 (D.ints (ah1 (M5 b j)).vars), .row 3 (D.ints (ah1 (M5 b j)).arrays), .tree (D.stmts (ah1 (M5 b j)).body)])) [(2, .ptr 2 0), (3, .ptr 6 0)] fun G => b6 (wp_ret (l6 ?_))); exact K8 G [0, 1, 7, 8, 9] (by show _ = mR [0, 1, 7, 8, 9] (aO5 b j); unfold aO5; rw [cb7 (by omega) (by with_reducible assumption)] <;> rfl)
  · refine wp_seq (j8 G d9 (rg 7) (.box [.ref 1, iA ((P8 b j).snd + 1)] :: dY b :: aF2 :: (aO3 b j [aF2])) [(2, .ptr 2 0), (3, .ptr 6 0)] fun G => b6 (wp_ret (l6 ?_))); exact K8 G [0, 1, 3, 4, 5] (by show _ = mR [0, 1, 3, 4, 5] (aO5 b j); unfold aO5; rw [cb8 (by omega)] <;> rfl)
section
variable (vs ars : List Int) (bd : List c5)
end
abbrev fpC (b : List UInt8) (j : Int) : j9 := ⟨92, [.ptr 0 0], [.box [.ref 1, iA j], dY b], [.box [.ref 1, iA (I4 b 3 j).2], dY b] ++ oP (I4 b 3 j).1, oA 2⟩
theorem bD7 {b : List UInt8} {j : Int} {i : Nat} (hi : i < 3) (h : I4 b 3 j = I4 b (3 - i) (P9 b j i)) (hn : ¬ ((W6 ⟨(V5 b (P9 b j i)).vars, (V5 b (P9 b j i)).arrays, (V5 b (P9 b j i)).body⟩ false).1 = 0 ∧ 0 < (V5 b (P9 b j i)).body.length)) : i + 1 ≤ 3 ∧ I4 b 3 j = I4 b (3 - (i + 1)) (P9 b j (i + 1)) := ⟨hi, b89 hi h hn⟩
theorem bN2 {b : List UInt8} {j : Int} {i : Nat} (hi : i < 3) (h : I4 b 3 j = I4 b (3 - i) (P9 b j i)) (hn : (W6 ⟨(V5 b (P9 b j i)).vars, (V5 b (P9 b j i)).arrays, (V5 b (P9 b j i)).body⟩ false).1 = 0 ∧ 0 < (V5 b (P9 b j i)).body.length) : I4 b 3 j = (V5 b (P9 b j i), (P8 b (P9 b j i)).2 + 1) := bY5 hi h hn
theorem tyb (b : List UInt8) {j : Int} (h : 0 ≤ j) (h2 : j ≤ 10000000) : j6 (V5 b j).body ≤ 1048576 ∧ (V5 b j).body.length ≤ 1048576 := by
 have h1 := ba0 b h h2
 have h3 := L4 (V5 b j).body
 unfold i6.size at h1; omega
abbrev bi0 (b : List UInt8) (j : Int) : List It := [.box [.ref 1, iA (I4 b 3 j).snd], dY b, .row 3 (D.ints (I4 b 3 j).fst.vars), .row 3 (D.ints (I4 b 3 j).fst.arrays), .tree (D.stmts (I4 b 3 j).fst.body)]
abbrev aZ4 : It := .box [.v (.slice none 0 0), .v (.slice none 0 0), .v (.slice none 0 0)]
theorem aA6 (b : List UInt8) (j : Int) (r0 : 0 ≤ j) (r1 : j ≤ 9000000) : j9.ok Tryz.prog (fpC b j) := by
  refine E9 29 Tryz.func92 [.box [.ref 1, iA j], dY b] [(0, .ptr 0 0)] fun G => ?_; refine wp_seq (j8 G d9 [0, 1, 2] [.box [.ref 1, iA j], dY b, aZ4] [(0, .ptr 0 0), (2, .ptr 2 0)] fun G => b6 (wp_seq (wp_seq (D2 G d9 [(0, .ptr 0 0), (2, .ptr 2 0), (3, iA 0)] fun G => b6 (wp_block ?_))))); refine t0 (κ := Nat) (fun i => i ≤ 3 ∧ I4 b 3 j = I4 b (3 - i) (P9 b j i)) (fun i => 3 - i) (fun i => [.box [.ref 1, iA (P9 b j i)], dY b, aZ4]) (fun i => [(0, .ptr 0 0), (2, .ptr 2 0), (3, iA i)]) 0 (⟨ck8 _, rfl⟩) (t7.at G _ _) ?_; clear G; intro i ρ a w hp G; have hp := hp; have hfj := b86 b r0 r1 i hp.1; have htb := tyb b (j := P9 b j i) (by omega) (by omega); refine wp_seq (wp_seq (k8 G d9 [(8, bA (decide ((i : Int) < 3)))] fun G => b6 (rcD G (fun h0 q0 => ?_) fun h0 q0 => ?_)))
  · refine wp_exit (s7 (s7 (r8 (b6 (wp_seq (j8 G (s8 1 [0, 1] (aR7 b (P9 b j i) (by omega) (by omega))) [0, 1, 2, 11, 12, 13] [.box [.ref 1, iA ((P8 b (P9 b j i)).snd + 1)], dY b, .box [.ref 3, .ref 4, .tref 5], .row 3 (D.ints (V5 b (P9 b j i)).vars), .row 3 (D.ints (V5 b (P9 b j i)).arrays), .tree (D.stmts (V5 b (P9 b j i)).body)] [(2, .ptr 2 0)] fun G => b6 (wp_ret ?_))))))); exact K8 G [0, 1, 3, 4, 5] (by show _ = mR [0, 1, 3, 4, 5] (bi0 b j); unfold bi0; rw [bN1 (b := b) (j := j) (i := i) (by omega) (by omega) hp.2] <;> rfl)
  ·
   refine wp_skip (b6 (wp_seq (wp_block (wp_seq (j8 G (s8 1 [0, 1] (aR7 b (P9 b j i) (by omega) (by omega))) [0, 1, 2, 11, 12, 13, 19] [.box [.ref 1, iA ((P8 b (P9 b j i)).snd + 1)], dY b, aZ4, .row 3 (D.ints (V5 b (P9 b j i)).vars), .row 3 (D.ints (V5 b (P9 b j i)).arrays), .tree (D.stmts (V5 b (P9 b j i)).body), .box [.ref 3, .ref 4, .tref 5]] [(0, .ptr 0 0), (2, .ptr 2 0), (3, iA i), (4, .ptr 6 0)] fun G => b6 (wp_seq (k8 G (s8 1 [3, 4, 5] (j9.lend (Y3 ((V5 b (P9 b j i)).vars) ((V5 b (P9 b j i)).arrays) ((V5 b (P9 b j i)).body) (by omega)) [.row 3, .row 3, .tree])) [(5, iA (W6 (i6.mk (V5 b (P9 b j i)).vars (V5 b (P9 b j i)).arrays (V5 b (P9 b j i)).body) false).fst)] fun G => b6 (wp_seq ?_)))))))); cases h1 : ((W6 (i6.mk (V5 b (P9 b j i)).vars (V5 b (P9 b j i)).arrays (V5 b (P9 b j i)).body) false).fst == 0)
   · have q1 := ne_of_beq_false h1; refine k8 G (J1 (fc h1 fz) (us [(3, 6, 0), (1007, 1007, 0)])) [(25, bA false)] fun G => b6 (rF G false (by kernel_rfl) (wp_skip (l0 (b6 (N7 G d9 [0, 1, 2] [.box [.ref 1, iA ((P8 b (P9 b j i)).snd + 1)], dY b, aZ4] [(0, .ptr 0 0), (2, .ptr 2 0), (3, iA ((i : Int) + 1))] [wO ((i : Int) + 1)] (o1 (by omega)) fun G => b6 ?_))))); exact I9 G (i + 1) (bD7 (by omega) hp.2 (by omega)) (by omega) [0, 1, 2]
   ·
    have q1 := eq_of_beq h1; refine k8 G (J1 (fc h1 fz) (us [(3, 6, 0), (1007, 1007, 0)])) [(25, bA (decide (((V5 b (P9 b j i)).body.length : Int) > 0)))] fun G => b6 (rcD G (fun h2 q2 => ?_) fun h2 q2 => ?_)
    · refine wp_skip (l0 (b6 (N7 G d9 [0, 1, 2] [.box [.ref 1, iA ((P8 b (P9 b j i)).snd + 1)], dY b, aZ4] [(0, .ptr 0 0), (2, .ptr 2 0), (3, iA ((i : Int) + 1))] [wO ((i : Int) + 1)] (o1 (by omega)) fun G => b6 ?_))); exact I9 G (i + 1) (bD7 (by omega) hp.2 (by omega)) (by omega) [0, 1, 2]
    · refine wp_seq (j8 G d9 (rg 6) [.box [.ref 1, iA ((P8 b (P9 b j i)).snd + 1)], dY b, .box [.ref 3, .ref 4, .tref 5], .row 3 (D.ints (V5 b (P9 b j i)).vars), .row 3 (D.ints (V5 b (P9 b j i)).arrays), .tree (D.stmts (V5 b (P9 b j i)).body)] [(0, .ptr 0 0), (2, .ptr 2 0), (3, iA i)] fun G => b6 (wp_ret (z5 (l6 (l6 (z5 (l6 ?_))))))); exact K8 G [0, 1, 3, 4, 5] (by show _ = mR [0, 1, 3, 4, 5] (bi0 b j); unfold bi0; rw [bN2 (b := b) (j := j) (i := i) (by omega) hp.2 (by omega)] <;> rfl)
theorem j9.dupPost {P : Program} {f : FuncId} {args : List AV} {pre S : List It} {d : D} {res res' : AV} {i : Nat} (hc : j9.ok P ⟨f, args, pre, S, res⟩) (hi : S[i]? = some (.dat d)) (hl : pre.length ≤ S.length)
  (hS : S.all (fun x => Z9 S.length x.ids) = true) (hr : ∀ ρ : Nat → Value, ρ S.length = ρ i → res'.val ρ = res.val ρ) (hg : Z9 S.length res.ids = true) : j9.ok P ⟨f, args, pre, S ++ [.dat d], res'⟩ := by
 intro ι φ ψ w0 w F ρ M
 refine (hc ι φ ψ w0 w F ρ M).mono ?_
 rintro x w' ⟨ρ1, h1, rfl, M1⟩
 have hi' : s6 S i = .dat d := by simp [s6, hi]
 have hlt : i < S.length := (ci5.1 hi).1
 have hinv : Inv (s6 S) ρ1 [S.length] := fun ρ' h j => by
  by_cases hj : j < S.length
  ·refine It.res_congr _ (fun k hk => h k ?_) (.inr (.inr (h j (by simp; omega))))
   have h1 := E3 (ci2.1 hS (S[j]) (cj1 hj)) k (by simpa [s6, ch7, ch6 hj] using hk)
   simp; omega
  ·rw [show s6 S j = .none by simp only [s6, ch7, cj8 (Nat.le_of_not_lt hj)]; rfl]; rfl
 obtain ⟨ρ2, h3, M2, h4⟩ := M1.newDat (id := S.length) (by simp [s6]) hinv (M1.datAt hi')
 have e : n7 (s6 S) [(S.length, .dat d)] = s6 (S ++ [.dat d]) := by
  funext j
  simp only [n7, s6, ch7]
  by_cases hj : j = S.length
  ·subst hj; simp
  ·rw [if_neg hj]
   by_cases hj2 : j < S.length
   ·rw [ci9 hj2]
   ·rw [cj8 (by omega), cj8 (by simp; omega)]
 rw [e] at M2
 have hρ : ρ2 i = ρ1 i := h3 i (by simp; omega)
 refine ⟨ρ2, fun k hk => by
  have hk : k < pre.length := hk
  rw [h3 k (by simp; omega)]; exact h1 k hk, ?_, M2⟩
 rw [hr ρ2 (by rw [← h4, hρ])]
 exact congrArg _ (AV.val_congr res fun k hk => by
  have := E3 hg k hk
  exact h3 k (by simp; omega)).symm
abbrev nlA : AV := .v (.slice none 0 0)
abbrev qT (l : List c5) : It := .row 106 (.stmts l)
abbrev qI (l : List Int) : It := .row 3 (.ints l)
theorem bb5 (vs ars : List Int) (d : Nat) (ih : ∀ (e : c6), i5 vs.length ars.length d e = true → j9.ok Tryz.prog (T5 159 [.agg [.ref 0, .ref 1, nlA], eA e 2] ([dI vs, dI ars] ++ eS e) (iA (j5 vs ars d e))))
    (e : c6) (he : i5 vs.length ars.length (d + 1) e = true) : j9.ok Tryz.prog (T5 159 [.agg [.ref 0, .ref 1, nlA], eA e 2] ([dI vs, dI ars] ++ eS e) (iA (j5 vs ars (d + 1) e))) := by
  refine E9 42 Tryz.func159 [dI vs, dI ars, dE e.kids] [(0, .agg [.ref 0, .ref 1, .v (.slice none 0 0)]), (1, eA e 2)] fun G => ?_; refine wp_seq (j8 G d9 [0, 1, 2, 3, 11] [dI vs, dI ars, dE e.kids, .box [.ref 0, .ref 1, .v (.slice none 0 0)], .box (eL e 2)] [(2, .ptr 3 0), (3, .ptr 4 0), (4, iA 0)] fun G => b6 (wp_seq (k8 G d9 [(5, iA 0)] fun G => b6 (wp_seq (wp_seq (k8 G d9 [(8, iA e.kind)] fun G => b6 (wp_block (wp_seq (k8 G d9 [(9, bA (e.kind == 2))] fun G => b6 (J7 G (fun h0 q0 => ?_) fun h0 q0 => ?_))))))))))
  ·
   refine wp_seq (k8 G d9 [(17, bA (e.kind == 3))] fun G => b6 (J7 G (fun h1 q1 => ?_) fun h1 q1 => ?_))
   ·
    refine wp_skip (l0 (b6 (wp_seq (wp_seq (D2 G d9 [(2, .ptr 3 0), (3, .ptr 4 0), (4, iA 0), (5, iA 0), (6, iA 0)] fun G => b6 (wp_block ?_)))))); refine t0 (κ := Nat) (fun k => k ≤ e.kids.length) (fun k => e.kids.length - k) (fun k => [dI vs, dI ars, dE e.kids, .box [.ref 0, .ref 1, .v (.slice none 0 0)], .box (eL e 2)]) (fun k => [(2, .ptr 3 0), (3, .ptr 4 0), (4, iA 0), (5, iA (D3 vs ars d 0 e.kids k)), (6, iA k)]) 0 (by omega) (t7.at G _ _) ?_; clear G; intro k ρ a w hp G; have hlen : e.kids.length ≤ 9223372036854775807 := G.len 2 (d := .exprs e.kids) (by kernel_rfl); refine wp_seq (wp_seq (D2 G d9 [(2, .ptr 3 0), (3, .ptr 4 0), (4, iA 0), (5, iA (D3 vs ars d 0 e.kids k)), (6, iA k), (29, bA (decide ((k : Int) < e.kids.length)))] fun G => b6 (rcD G (fun h2 q2 => ?_) fun h2 q2 => ?_)))
    · refine wp_exit (s7 (s7 (r8 (b6 (wp_seq (j8 G d9 [0, 1, 2] [dI vs, dI ars, dE e.kids] [(4, iA (D3 vs ars d 0 e.kids k))] fun G => b6 (wp_ret ?_))))))); exact rxI (D3 vs ars d 0 e.kids k) G [0, 1, 2] (ad0 (by omega) (by simp [aB5, h0, q0, h1, q1, h2, q2]; done))
    · refine wp_skip (b6 (wp_seq (wp_block (ac8 G (s8 7 [0, 1, 53] (ih (e.kids.getD k ch2) (Z3 he (by omega)))) [0, 0, 0, 4, 0, 28, 60, 126, 255, 511] [(5, iA (l4 (D3 vs ars d 0 e.kids k) (j5 vs ars d (e.kids.getD k ch2))))] (iX k k e.kids.length []) (iK (by omega) ci7) fun G => l0 (b6 (E0 G d9 [(6, iA ((k : Int) + 1))] [wO ((k : Int) + 1)] (o1 (by omega)) fun G => b6 ?_)))))); exact I9 G (k + 1) (by omega) (by omega) (rg 5) (ht := by have e1 : (D3 vs ars d 0 e.kids (k + 1) : Int) = (l4 (D3 vs ars d 0 e.kids k) (j5 vs ars d (e.kids.getD k ch2))) := (Y7 (by omega)); (first | rw [e1] | simp only [e1]) <;> rfl)
   ·
    refine E0 G d9 [(5, iA (ars.getD e.value.toNat 0))] [(0 : Int) ≤ e.value, e.value < (ars.length : Int), e.value.toNat < ars.length] ⟨((aw5 he (by assumption)).1), ((aw5 he (by assumption)).2.1), ((aw5 he (by assumption)).2.2), ci7⟩ fun G => l0 (b6 (wp_seq (wp_seq (D2 G d9 [(2, .ptr 3 0), (3, .ptr 4 0), (4, iA 0), (5, iA (ars.getD e.value.toNat 0)), (6, iA 0)] fun G => b6 (wp_block ?_))))); refine t0 (κ := Nat) (fun k => k ≤ e.kids.length) (fun k => e.kids.length - k) (fun k => [dI vs, dI ars, dE e.kids, .box [.ref 0, .ref 1, .v (.slice none 0 0)], .box (eL e 2)]) (fun k => [(2, .ptr 3 0), (3, .ptr 4 0), (4, iA 0), (5, iA (D3 vs ars d (ars.getD e.value.toNat 0) e.kids k)), (6, iA k)]) 0 (by omega) (t7.at G _ _) ?_; clear G; intro k ρ a w hp G; have hlen : e.kids.length ≤ 9223372036854775807 := G.len 2 (d := .exprs e.kids) (by kernel_rfl); refine wp_seq (wp_seq (D2 G d9 [(2, .ptr 3 0), (3, .ptr 4 0), (4, iA 0), (5, iA (D3 vs ars d (ars.getD e.value.toNat 0) e.kids k)), (6, iA k), (29, bA (decide ((k : Int) < e.kids.length)))] fun G => b6 (rcD G (fun h3 q3 => ?_) fun h3 q3 => ?_)))
    · refine wp_exit (s7 (s7 (r8 (b6 (wp_seq (j8 G d9 [0, 1, 2] [dI vs, dI ars, dE e.kids] [(4, iA (D3 vs ars d (ars.getD e.value.toNat 0) e.kids k))] fun G => b6 (wp_ret ?_))))))); exact rxI (D3 vs ars d (ars.getD e.value.toNat 0) e.kids k) G [0, 1, 2] (ad0 (by omega) (by simp [aB5, h0, q0, h1, q1, h3, q3]; done))
    · refine wp_skip (b6 (wp_seq (wp_block (ac8 G (s8 7 [0, 1, 53] (ih (e.kids.getD k ch2) (Z3 he (by omega)))) [0, 0, 0, 4, 0, 28, 60, 126, 255, 511] [(5, iA (l4 (D3 vs ars d (ars.getD e.value.toNat 0) e.kids k) (j5 vs ars d (e.kids.getD k ch2))))] (iX k k e.kids.length []) (iK (by omega) ci7) fun G => l0 (b6 (E0 G d9 [(6, iA ((k : Int) + 1))] [wO ((k : Int) + 1)] (o1 (by omega)) fun G => b6 ?_)))))); exact I9 G (k + 1) (by omega) (by omega) (rg 5) (ht := by have e1 : (D3 vs ars d (ars.getD e.value.toNat 0) e.kids (k + 1) : Int) = (l4 (D3 vs ars d (ars.getD e.value.toNat 0) e.kids k) (j5 vs ars d (e.kids.getD k ch2))) := (Y7 (by omega)); (first | rw [e1] | simp only [e1]) <;> rfl)
  ·
   refine E0 G d9 [(5, iA (vs.getD e.value.toNat 0))] [(0 : Int) ≤ e.value, e.value < (vs.length : Int), e.value.toNat < vs.length] ⟨((aw4 he (by assumption)).1), ((aw4 he (by assumption)).2.1), ((aw4 he (by assumption)).2.2), ci7⟩ fun G => l0 (b6 (wp_seq (wp_seq (D2 G d9 [(2, .ptr 3 0), (3, .ptr 4 0), (4, iA 0), (5, iA (vs.getD e.value.toNat 0)), (6, iA 0)] fun G => b6 (wp_block ?_))))); refine t0 (κ := Nat) (fun k => k ≤ e.kids.length) (fun k => e.kids.length - k) (fun k => [dI vs, dI ars, dE e.kids, .box [.ref 0, .ref 1, .v (.slice none 0 0)], .box (eL e 2)]) (fun k => [(2, .ptr 3 0), (3, .ptr 4 0), (4, iA 0), (5, iA (D3 vs ars d (vs.getD e.value.toNat 0) e.kids k)), (6, iA k)]) 0 (by omega) (t7.at G _ _) ?_; clear G; intro k ρ a w hp G; have hlen : e.kids.length ≤ 9223372036854775807 := G.len 2 (d := .exprs e.kids) (by kernel_rfl); refine wp_seq (wp_seq (D2 G d9 [(2, .ptr 3 0), (3, .ptr 4 0), (4, iA 0), (5, iA (D3 vs ars d (vs.getD e.value.toNat 0) e.kids k)), (6, iA k), (29, bA (decide ((k : Int) < e.kids.length)))] fun G => b6 (rcD G (fun h4 q4 => ?_) fun h4 q4 => ?_)))
   · refine wp_exit (s7 (s7 (r8 (b6 (wp_seq (j8 G d9 [0, 1, 2] [dI vs, dI ars, dE e.kids] [(4, iA (D3 vs ars d (vs.getD e.value.toNat 0) e.kids k))] fun G => b6 (wp_ret ?_))))))); exact rxI (D3 vs ars d (vs.getD e.value.toNat 0) e.kids k) G [0, 1, 2] (ad0 (by omega) (by simp [aB5, h0, q0, h4, q4]; done))
   · refine wp_skip (b6 (wp_seq (wp_block (ac8 G (s8 7 [0, 1, 53] (ih (e.kids.getD k ch2) (Z3 he (by omega)))) [0, 0, 0, 4, 0, 28, 60, 126, 255, 511] [(5, iA (l4 (D3 vs ars d (vs.getD e.value.toNat 0) e.kids k) (j5 vs ars d (e.kids.getD k ch2))))] (iX k k e.kids.length []) (iK (by omega) ci7) fun G => l0 (b6 (E0 G d9 [(6, iA ((k : Int) + 1))] [wO ((k : Int) + 1)] (o1 (by omega)) fun G => b6 ?_)))))); exact I9 G (k + 1) (by omega) (by omega) (rg 5) (ht := by have e1 : (D3 vs ars d (vs.getD e.value.toNat 0) e.kids (k + 1) : Int) = (l4 (D3 vs ars d (vs.getD e.value.toNat 0) e.kids k) (j5 vs ars d (e.kids.getD k ch2))) := (Y7 (by omega)); (first | rw [e1] | simp only [e1]) <;> rfl)
theorem aR3 (vs ars : List Int) : ∀ (d : Nat) (e : c6), i5 vs.length ars.length d e = true → j9.ok Tryz.prog (T5 159 [.agg [.ref 0, .ref 1, nlA], eA e 2] ([dI vs, dI ars] ++ eS e) (iA (j5 vs ars d e)))
 | 0, _, h => by simp [i5] at h
 | d + 1, e, h => bb5 vs ars d (aR3 vs ars d) e h
theorem aa5 (vs ars : List Int) (ky vy : Int) (ks : List c6) (h : i5 vs.length ars.length 5 ⟨ky, vy, ks⟩ = true) : j9.ok Tryz.prog (T5 159 [.agg [.ref 0, .ref 1, nlA], .agg [iA ky, iA vy, .ref 2]] [dI vs, dI ars, dE ks] (iA (j5 vs ars 5 ⟨ky, vy, ks⟩))) := aR3 vs ars 5 ⟨ky, vy, ks⟩ h
theorem J2 (n : Int) : j9.ok Tryz.prog ⟨203, [iA n], [], [dE []], .agg [iA 1, iA n, .ref 0]⟩ := by
 refine E9 5 Tryz.func203 [] [(0, iA n)] fun G => ?_; refine wp_seq (j8 G d9 [0] [.box [iA 0, iA 0, .v (.slice none 0 0)]] [(0, iA n), (2, .ptr 0 0)] fun G => b6 (wp_seq (j8 G d9 [0] [.box [iA 1, iA n, .v (.slice none 0 0)]] [(2, .ptr 0 0)] fun G => b6 (wp_ret ?_)))); obtain ⟨ρ, G⟩ := G.nil 1 0 (.exprs []) 9 [.box [iA 1, iA n, .ref 1]] [(2, .ptr 0 0)]; obtain ⟨ρ, G⟩ := G.frz [.no, .row 0] [.box [iA 1, iA n, .ref 1], dE []] [(2, .ptr 0 0)]; exact K8 G [1]
theorem an2 (n : Int) : j9.ok Tryz.prog ⟨157, [iA n], [], [dE []], .agg [iA 2, iA n, .ref 0]⟩ := by
 refine E9 5 Tryz.func157 [] [(0, iA n)] fun G => ?_; refine wp_seq (j8 G d9 [0] [.box [iA 0, iA 0, .v (.slice none 0 0)]] [(0, iA n), (2, .ptr 0 0)] fun G => b6 (wp_seq (j8 G d9 [0] [.box [iA 2, iA n, .v (.slice none 0 0)]] [(2, .ptr 0 0)] fun G => b6 (wp_ret ?_)))); obtain ⟨ρ, G⟩ := G.nil 1 0 (.exprs []) 9 [.box [iA 2, iA n, .ref 1]] [(2, .ptr 0 0)]; obtain ⟨ρ, G⟩ := G.frz [.no, .row 0] [.box [iA 2, iA n, .ref 1], dE []] [(2, .ptr 0 0)]; exact K8 G [1]
theorem ad4 (k : Int) (ks : List c6) : j9.ok Tryz.prog ⟨204, [iA k, .ref 0], [.row 104 (.exprs ks)], [dE ks], .agg [iA k, iA 0, .ref 0]⟩ := by
 refine E9 8 Tryz.func204 [.row 104 (D.exprs ks)] [(0, iA k), (1, .ref 0)] fun G => ?_; refine wp_seq (j8 G d9 [0, 1] [.row 104 (D.exprs ks), .box [iA 0, iA 0, .v (.slice none 0 0)]] [(0, iA k), (1, .ref 0), (4, .ptr 1 0)] fun G => b6 (wp_seq (j8 G d9 [0, 1] [.row 104 (D.exprs ks), .box [iA k, iA 0, .ref 0]] [(4, .ptr 1 0)] fun G => b6 (wp_ret ?_)))); obtain ⟨ρ, G⟩ := G.frz [.row 104] [dE ks, .box [iA k, iA 0, .ref 0]] [(4, .ptr 1 0)]; exact K8 G [0]
theorem au6 (n ky vy : Int) (ks : List c6) : j9.ok Tryz.prog ⟨161, [iA n, .agg [iA ky, iA vy, .ref 0]], [dE ks], [dE ks, dE [⟨ky, vy, ks⟩]], .agg [iA 3, iA n, .ref 1]⟩ := by
 refine E9 9 Tryz.func161 [dE ks] [(0, iA n), (1, .agg [iA ky, iA vy, .ref 0])] fun G => ?_; refine wp_seq (j8 G d9 [0, 1, 9] [dE ks, .box [iA ky, iA vy, .ref 0], .box [iA 0, iA 0, .v (.slice none 0 0)]] [(0, iA n), (3, .ptr 1 0), (4, .ptr 2 0)] fun G => b6 (wp_seq (j8 G d9 [0, 2, 19] [dE ks, .box [iA 3, iA n, .ref 2], .row 104 (D.exprs ([c6.mk ky vy ks] ++ []))] [(4, .ptr 1 0)] fun G => b6 (wp_ret ?_)))); obtain ⟨ρ, G⟩ := G.frz [.no, .no, .row 104] [dE ks, .box [iA 3, iA n, .ref 2], dE ([c6.mk ky vy ks] ++ [])] [(4, .ptr 1 0)]; exact K8 G [0, 2]
theorem bo1 (ky vy : Int) (ks : List c6) (k : Int) : j9.ok Tryz.prog ⟨205, [.agg [iA ky, iA vy, .ref 0], iA k], [dE ks], [dE ks, dE (ah2 ⟨ky, vy, ks⟩ k).kids], .agg [iA 9, iA 0, .ref 1]⟩ := by
 refine E9 13 Tryz.func205 [dE ks] [(0, .agg [iA ky, iA vy, .ref 0]), (1, iA k)] fun G => ?_; refine wp_seq (j8 G d9 [0, 1, 9] [dE ks, .box [iA ky, iA vy, .ref 0], .box [iA 0, iA 0, .v (.slice none 0 0)]] [(1, iA k), (2, .ptr 1 0), (4, .ptr 2 0)] fun G => b6 (wp_seq (ag9 G (F9 (t4 1 [] (J2 3) (t4 3 [19] (ad4 7 ([c6.mk ky vy ks] ++ ([c6.mk 1 3 []] ++ []))) (t4 5 [] (J2 k) (t4 7 [51] (ad4 9 ([c6.mk 7 0 ([c6.mk ky vy ks] ++ ([c6.mk 1 3 []] ++ []))] ++ ([c6.mk 1 k []] ++ []))) F8)))) fz []) [0, 0, 3, 7, 0, 31, 63, 127, 255] [0, 2, 51] [dE ks, .box [iA 9, iA 0, .ref 2], dE ([c6.mk 7 0 ([c6.mk ky vy ks] ++ ([c6.mk 1 3 []] ++ []))] ++ ([c6.mk 1 k []] ++ []))] [(4, .ptr 1 0)] fun G => b6 (wp_ret ?_)))); exact K8 G [0, 2]
theorem b65 {m : Int} {e f : c6} (h : m < 0) : C1 m e f = e := if_pos h
theorem b64 {m : Int} {e f : c6} (h : ¬ m < 0) : C1 m e f = seE (vrE m) e f := if_neg h
theorem bp6 (m k1 v1 k2 v2 : Int) (s1 s2 : List c6) (hm : m < 0) : j9.ok Tryz.prog ⟨156, [iA m, .agg [iA k1, iA v1, .ref 0], .agg [iA k2, iA v2, .ref 1]], [dE s1, dE s2], [dE s1, dE s2], .agg [iA k1, iA v1, .ref 0]⟩ := by
 refine E9 16 Tryz.func156 [dE s1, dE s2] [(0, iA m), (1, .agg [iA k1, iA v1, .ref 0]), (2, .agg [iA k2, iA v2, .ref 1])] fun G => ?_; refine wp_seq (j8 G d9 [0, 1, 2, 10, 18] [dE s1, dE s2, .box [iA k1, iA v1, .ref 0], .box [iA k2, iA v2, .ref 1], .box [iA 0, iA 0, .v (.slice none 0 0)]] [(0, iA m), (4, .ptr 2 0), (5, .ptr 3 0), (6, .ptr 4 0)] fun G => b6 (wp_seq (wp_seq (D2 G d9 [(0, iA m), (4, .ptr 2 0), (5, .ptr 3 0), (6, .ptr 4 0), (8, bA (decide (m < 0)))] fun G => b6 ?_)))); cases h0 : (decide (m < 0))
 ·have q0 := dFf h0; exact False.elim (by omega)
 ·have q0 := dTt h0; refine rT G _ h0 (wp_seq (j8 G d9 (rg 5) [dE s1, dE s2, .box [iA k1, iA v1, .ref 0], .box [iA k2, iA v2, .ref 1], .box [iA k1, iA v1, .ref 0]] [(0, iA m), (4, .ptr 2 0), (5, .ptr 3 0), (6, .ptr 4 0)] fun G => b6 (wp_ret (l6 ?_)))); exact K8 G [0, 1]
theorem bp5 (m k1 v1 k2 v2 : Int) (s1 s2 : List c6) (hm : ¬ m < 0) : j9.ok Tryz.prog ⟨156, [iA m, .agg [iA k1, iA v1, .ref 0], .agg [iA k2, iA v2, .ref 1]], [dE s1, dE s2], [dE s1, dE s2, dE (seE (vrE m) ⟨k1, v1, s1⟩ ⟨k2, v2, s2⟩).kids], .agg [iA 11, iA 0, .ref 2]⟩ := by
 refine E9 16 Tryz.func156 [dE s1, dE s2] [(0, iA m), (1, .agg [iA k1, iA v1, .ref 0]), (2, .agg [iA k2, iA v2, .ref 1])] fun G => ?_; refine wp_seq (j8 G d9 [0, 1, 2, 10, 18] [dE s1, dE s2, .box [iA k1, iA v1, .ref 0], .box [iA k2, iA v2, .ref 1], .box [iA 0, iA 0, .v (.slice none 0 0)]] [(0, iA m), (4, .ptr 2 0), (5, .ptr 3 0), (6, .ptr 4 0)] fun G => b6 (wp_seq (wp_seq (D2 G d9 [(0, iA m), (4, .ptr 2 0), (5, .ptr 3 0), (6, .ptr 4 0), (8, bA (decide (m < 0)))] fun G => b6 ?_)))); cases h0 : (decide (m < 0))
 ·have q0 := dFf h0; refine rF G _ h0 (wp_skip (b6 (wp_seq (ag9 G (F9 (t4 1 [] (an2 m) (t4 5 [37] (ad4 11 ([c6.mk 2 m []] ++ ([c6.mk k1 v1 s1] ++ ([c6.mk k2 v2 s2] ++ [])))) F8)) fz []) [0, 1, 0, 0, 15, 31, 63] [0, 1, 4, 37] [dE s1, dE s2, .box [iA 11, iA 0, .ref 3], dE ([c6.mk 2 m []] ++ ([c6.mk k1 v1 s1] ++ ([c6.mk k2 v2 s2] ++ [])))] [(6, .ptr 2 0)] fun G => b6 (wp_ret ?_))))); exact K8 G [0, 1, 3]
 ·have q0 := dTt h0; exact False.elim (by omega)
theorem ak8 (m k1 v1 k2 v2 : Int) (s1 s2 : List c6) : j9.ok Tryz.prog ⟨156, [iA m, .agg [iA k1, iA v1, .ref 0], .agg [iA k2, iA v2, .ref 1]], [dE s1, dE s2], [dE s1, dE s2, dE (C1 m ⟨k1, v1, s1⟩ ⟨k2, v2, s2⟩).kids], .agg [iA (C1 m ⟨k1, v1, s1⟩ ⟨k2, v2, s2⟩).kind, iA (C1 m ⟨k1, v1, s1⟩ ⟨k2, v2, s2⟩).value, .ref 2]⟩ := by
 by_cases hm : m < 0
 ·rw [b65 hm]
  exact j9.dupPost (S := [dE s1, dE s2]) (d := .exprs s1) (i := 0) (bp6 m k1 v1 k2 v2 s1 s2 hm) rfl (ch9 _) rfl (fun ρ h => by
   have h : ρ 2 = ρ 0 := h
   simp only [AV.val, AV.vals, h]; rfl) rfl
 ·rw [b64 hm]
  exact bp5 m k1 v1 k2 v2 s1 s2 hm
theorem an3 (vs ars : List Int) (bd : List c5) (l : Int) (hl : vs.length ≤ 8000000) : j9.ok Tryz.prog ⟨202, [.agg [.ref 0, .ref 1, nlA, .ref 2], iA l], [qI vs, dI ars, qT bd], [qI vs, dI ars, qT bd, qI (vs ++ [l])], .tup [.agg [.ref 3, .ref 1, nlA, .ref 2], iA (vs.length : Int)]⟩ := by
 refine E9 22 Tryz.func202 [.row 3 (D.ints vs), dI ars, .row 106 (D.stmts bd)] [(0, .agg [.ref 0, .ref 1, .v (.slice none 0 0), .ref 2]), (1, iA l)] fun G => ?_; refine wp_seq (j8 G d9 [0, 1, 2, 3, 11] [.row 3 (D.ints vs), dI ars, .row 106 (D.stmts bd), .box [.ref 0, .ref 1, .v (.slice none 0 0), .ref 2], .box [.v (.slice none 0 0), .v (.slice none 0 0), .v (.slice none 0 0), .v (.slice none 0 0)]] [(1, iA l), (2, .ptr 3 0), (4, .ptr 4 0), (5, iA 0)] fun G => b6 (wp_seq (N7 G d9 [0, 1, 2, 3, 4, 61] [.row 3 (D.ints vs), dI ars, .row 106 (D.stmts bd), .box [.ref 5, .ref 1, .v (.slice none 0 0), .ref 2], .box [.v (.slice none 0 0), .v (.slice none 0 0), .v (.slice none 0 0), .v (.slice none 0 0)], .row 3 (D.ints ([] ++ vs ++ ([l] ++ [])))] [(2, .ptr 3 0), (4, .ptr 4 0), (5, iA 0)] (aP ((0 : Nat) + vs.length) 8 (aP (([] ++ vs).length + 1) 8 [])) (aK (by omega) (aK (by simp only [ch8, ci1, ci6]; omega) ci7)) fun G => b6 (wp_seq (O1 G d9 [0, 0, 2, 6, 14, 30, 1, 127] [0, 1, 2, 4, 5] [.row 3 (D.ints vs), dI ars, .row 106 (D.stmts bd), .box [.ref 4, .ref 1, .v (.slice none 0 0), .ref 2], .row 3 (D.ints ([] ++ vs ++ ([l] ++ [])))] [(4, .ptr 3 0), (5, iA ((([] ++ vs ++ ([l] ++ [])).length : Int) - 1))] [wO ((([] ++ vs ++ ([l] ++ [])).length : Int) - 1)] ⟨(w64 (by simp only [ch8, ci1, ci6]; omega) (by simp only [ch8, ci1, ci6]; omega)), ci7⟩ fun G => b6 (wp_ret ?_)))))); exact U2 (.tup [.agg [.ref 4, .ref 1, .v (.slice none 0 0), .ref 2], iA ((([] ++ vs ++ ([l] ++ [])).length : Int) - 1)]) G [0, 1, 2, 4] (by have e1 : ((vs.length : Int) : Int) = ((([] ++ vs ++ ([l] ++ [])).length : Int) - 1) := (by simp only [ch8, ci1, ci6]; omega); (first | rw [e1] | simp only [e1]) <;> rfl)
theorem T8 (vs ars : List Int) (bd : List c5) (v ky vy : Int) (ks : List c6) (hl : bd.length ≤ 800000) : j9.ok Tryz.prog ⟨155, [.agg [.ref 0, .ref 1, nlA, .ref 2], iA v, .agg [iA ky, iA vy, .ref 3]], [qI vs, dI ars, qT bd, dE ks], [qI vs, dI ars, .dead, dE ks, qT (bd ++ [W7 v ⟨ky, vy, ks⟩])], .agg [.ref 0, .ref 1, nlA, .ref 4]⟩ := by
 refine E9 16 Tryz.func155 [.row 3 (D.ints vs), dI ars, .row 106 (D.stmts bd), dE ks] [(0, .agg [.ref 0, .ref 1, .v (.slice none 0 0), .ref 2]), (1, iA v), (2, .agg [iA ky, iA vy, .ref 3])] fun G => ?_; refine wp_seq (j8 G d9 [0, 1, 2, 3, 4, 12, 20] [.row 3 (D.ints vs), dI ars, .row 106 (D.stmts bd), dE ks, .box [.ref 0, .ref 1, .v (.slice none 0 0), .ref 2], .box [iA ky, iA vy, .ref 3], .box [.v (.slice none 0 0), .v (.slice none 0 0), .v (.slice none 0 0), .v (.slice none 0 0)]] [(1, iA v), (3, .ptr 4 0), (5, .ptr 5 0), (6, .ptr 6 0)] fun G => b6 (wp_seq (N7 G d9 [0, 1, 2, 3, 4, 6, 55] [.row 3 (D.ints vs), dI ars, .dead, dE ks, .box [.ref 0, .ref 1, .v (.slice none 0 0), .ref 6], .box [.v (.slice none 0 0), .v (.slice none 0 0), .v (.slice none 0 0), .v (.slice none 0 0)], .row 106 (D.stmts (bd ++ ([c5.mk 1 v (c6.mk 0 0 []) (c6.mk ky vy ks) 0 [] []] ++ [])))] [(3, .ptr 4 0), (6, .ptr 5 0)] (aP (bd.length + 1) 152 []) (aK (by omega) ci7) fun G => b6 (wp_seq (j8 G d9 [0, 1, 2, 3, 5, 6] [.row 3 (D.ints vs), dI ars, .dead, dE ks, .box [.ref 0, .ref 1, .v (.slice none 0 0), .ref 5], .row 106 (D.stmts (bd ++ ([c5.mk 1 v (c6.mk 0 0 []) (c6.mk ky vy ks) 0 [] []] ++ [])))] [(6, .ptr 4 0)] fun G => b6 (wp_ret ?_)))))); exact K8 G [0, 1, 2, 3, 5]
abbrev leC (ars : List Int) (pc : Int) (vs : List Int) (bd : List c5) (e : c6) : j9 := ⟨154, [.agg [.ref 0, .ref 1, nlA, .ref 2], eA e 3, iA pc], [qI vs, dI ars, qT bd, dE e.kids], [.dead, dI ars, .dead, dE e.kids, qI (d8 ars pc e (vs, bd)).1.1, qT (d8 ars pc e (vs, bd)).1.2, dE (d8 ars pc e (vs, bd)).2.kids], .tup [.agg [.ref 4, .ref 1, nlA, .ref 5], .agg [iA (d8 ars pc e (vs, bd)).2.kind, iA (d8 ars pc e (vs, bd)).2.value, .ref 6]]⟩
abbrev xE (ars : List Int) (pc : Int) (vs : List Int) (bd : List c5) (e : c6) (k : Nat) : LnS × List c6 := x8 ars pc (e.kids.take k) (vs, bd)
section
variable {ars vs : List Int} {pc : Int} {bd : List c5} {e : c6} {d k : Nat}
theorem av7 (he : i5 vs.length ars.length (d + 1) e = true) (k : Nat) : Grw vs.length ars.length d (D9 (e.kids.take k)) (vs, bd) (xE ars pc vs bd e k).1 := by
 rw [i5] at he
 simp only [ch4, ci2] at he
 exact (bl8 (ars := ars) (pc := pc) (na := ars.length) (d := d) (fun e s h => am1 ars pc ars.length d e s h) (e.kids.take k) (vs, bd) fun x hx => he.1.2 x (List.mem_of_mem_take hx)).1
theorem bT4 (he : i5 vs.length ars.length (d + 1) e = true) (r1 : vs.length + (1 + z7 e) ≤ 100000) (r2 : j6 bd + 40 * (1 + z7 e) ≤ 700000) (k : Nat) : (xE ars pc vs bd e k).1.1.length + 1 ≤ 100000 ∧ (xE ars pc vs bd e k).1.2.length + 40 ≤ 700000 ∧ vs.length ≤ (xE ars pc vs bd e k).1.1.length := by
 have h := av7 (ars := ars) (pc := pc) (bd := bd) he k
 have h1 := aT9 e.kids k
 have h2 := L5 e
 have h3 := L4 (xE ars pc vs bd e k).1.2
 have a := h.lo; have b := h.hi; have c := h.st
 simp only at a b c
 omega
theorem bT3 (he : i5 vs.length ars.length (d + 1) e = true) (hk : k < e.kids.length) : i5 (xE ars pc vs bd e k).1.1.length ars.length d (e.kids.getD k ch2) = true :=
 E8 (av7 (pc := pc) (bd := bd) he k).lo d _ (Z3 he hk)
theorem b15 (he : i5 vs.length ars.length (d + 1) e = true) (r1 : vs.length + (1 + z7 e) ≤ 100000) (hk : k < e.kids.length) : (xE ars pc vs bd e k).1.1.length + (1 + z7 (e.kids.getD k ch2)) ≤ 100000 := by
 have h := (av7 (pc := pc) (bd := bd) he k).hi
 have h1 := (al5 e.kids k).2.1 hk
 have h2 := L5 e
 simp only at h
 omega
theorem b14 (he : i5 vs.length ars.length (d + 1) e = true) (r2 : j6 bd + 40 * (1 + z7 e) ≤ 700000) (hk : k < e.kids.length) : j6 (xE ars pc vs bd e k).1.2 + 40 * (1 + z7 (e.kids.getD k ch2)) ≤ 700000 := by
 have h := (av7 (pc := pc) (bd := bd) he k).st
 have h1 := (al5 e.kids k).2.1 hk
 have h2 := L5 e
 simp only at h
 omega
theorem b11 (hk : k < e.kids.length) : (xE ars pc vs bd e (k + 1)).1.1 = (d8 ars pc (e.kids.getD k ch2) ((xE ars pc vs bd e k).1.1, (xE ars pc vs bd e k).1.2)).1.1 := by unfold xE; rw [aq6 hk]
theorem b10 (hk : k < e.kids.length) : (xE ars pc vs bd e (k + 1)).1.2 = (d8 ars pc (e.kids.getD k ch2) ((xE ars pc vs bd e k).1.1, (xE ars pc vs bd e k).1.2)).1.2 := by unfold xE; rw [aq6 hk]
theorem b09 (hk : k < e.kids.length) : (xE ars pc vs bd e (k + 1)).2 = (xE ars pc vs bd e k).2 ++ [⟨(d8 ars pc (e.kids.getD k ch2) ((xE ars pc vs bd e k).1.1, (xE ars pc vs bd e k).1.2)).2.kind, (d8 ars pc (e.kids.getD k ch2) ((xE ars pc vs bd e k).1.1, (xE ars pc vs bd e k).1.2)).2.value, (d8 ars pc (e.kids.getD k ch2) ((xE ars pc vs bd e k).1.1, (xE ars pc vs bd e k).1.2)).2.kids⟩] := by unfold xE; rw [aq6 hk, c6.eta]
theorem bT2 (k : Nat) : (xE ars pc vs bd e k).2.length ≤ e.kids.length := by
 have h : ∀ (ks : List c6) (s : LnS), (x8 ars pc ks s).2.length = ks.length := by
  intro ks
  induction ks with
  | nil => intro s; rfl
  | cons x r ih => intro s; rw [x8, ci1, ih, ci1]
 unfold xE; rw [h, List.length_take]; exact Nat.min_le_right _ _
theorem bv2 (hk : e.kids.length ≤ k) (hn : ¬ (e.kind = 3 ∧ ac0 (j5 (xE ars pc vs bd e k).1.1 ars 5 (e.kids.getD 0 ch2)) = true)) : d8 ars pc e (vs, bd) = ((xE ars pc vs bd e k).1, ⟨e.kind, e.value, (xE ars pc vs bd e k).2⟩) := by
 unfold xE at hn ⊢
 rw [ci8 hk] at hn ⊢
 rw [aJ2, if_neg hn]
theorem bT1 (hk : e.kids.length ≤ k) (h3 : e.kind = 3) (hs : ac0 (j5 (xE ars pc vs bd e k).1.1 ars 5 (e.kids.getD 0 ch2)) = true) : d8 ars pc e (vs, bd) = (((xE ars pc vs bd e k).1.1 ++ [l4 (j5 (xE ars pc vs bd e k).1.1 ars 5 e) pc], (xE ars pc vs bd e k).1.2 ++ rdL ((xE ars pc vs bd e k).1.1.length : Int) e.value (e.kids.getD 0 ch2) 3), vrE ((xE ars pc vs bd e k).1.1.length : Int)) := by
 unfold xE at hs ⊢
 rw [ci8 hk] at hs ⊢
 rw [aJ2, if_pos ⟨h3, hs⟩]
abbrev kE (e : c6) : c6 := ⟨(e.kids.getD 0 ch2).kind, (e.kids.getD 0 ch2).value, (e.kids.getD 0 ch2).kids⟩
theorem bC3 (e : c6) : kE e = e.kids.getD 0 ch2 := c6.eta _
theorem b12 (he : i5 vs.length ars.length (d + 1) e = true) (hd : d + 1 ≤ 5) (h3 : e.kind = 3) : i5 (xE ars pc vs bd e k).1.1.length ars.length 5 (kE e) = true := by
 rw [bC3]
 have := aH0 he h3
 exact a11 (by omega) (E8 (av7 (pc := pc) (bd := bd) he k).lo d _ (Z3 he this))
theorem b13 (he : i5 vs.length ars.length (d + 1) e = true) (hd : d + 1 ≤ 5) : i5 (xE ars pc vs bd e k).1.1.length ars.length 5 ⟨e.kind, e.value, e.kids⟩ = true := by
 rw [c6.eta]
 exact a11 hd (E8 (av7 (pc := pc) (bd := bd) he k).lo (d + 1) _ he)
theorem aT5 (hk : e.kids.length ≤ k) (hn : ¬ e.kind = 3) : d8 ars pc e (vs, bd) = ((xE ars pc vs bd e k).1, ⟨e.kind, e.value, (xE ars pc vs bd e k).2⟩) := bv2 hk fun h => hn h.1
theorem aT4 (hk : e.kids.length ≤ k) (hs : (!(i8 (j5 (xE ars pc vs bd e k).1.1 ars 5 (kE e)) && decide (j5 (xE ars pc vs bd e k).1.1 ars 5 (kE e) % 2 = 1))) = true) : d8 ars pc e (vs, bd) = ((xE ars pc vs bd e k).1, ⟨e.kind, e.value, (xE ars pc vs bd e k).2⟩) := by
 rw [bC3, cj4] at hs
 exact bv2 hk fun h => by
  have h5 := h.2
  unfold ac0 at h5
  rw [hs] at h5; cases h5
theorem aC6 (hk : e.kids.length ≤ k) (h3 : e.kind = 3) (hs : (!(i8 (j5 (xE ars pc vs bd e k).1.1 ars 5 (kE e)) && decide (j5 (xE ars pc vs bd e k).1.1 ars 5 (kE e) % 2 = 1))) = false) : d8 ars pc e (vs, bd) = (((xE ars pc vs bd e k).1.1 ++ [l4 (j5 (xE ars pc vs bd e k).1.1 ars 5 ⟨e.kind, e.value, e.kids⟩) pc], (xE ars pc vs bd e k).1.2 ++ rdL ((xE ars pc vs bd e k).1.1.length : Int) e.value (kE e) 3), vrE ((xE ars pc vs bd e k).1.1.length : Int)) := by
 rw [bC3] at hs ⊢
 rw [c6.eta]
 rw [ck2] at hs
 exact bT1 hk h3 hs
theorem bH7 {j : Nat} (hj : j = 3) (hk : e.kids.length ≤ k) (h3 : e.kind = 3) (hs : (!(i8 (j5 (xE ars pc vs bd e k).1.1 ars 5 (kE e)) && decide (j5 (xE ars pc vs bd e k).1.1 ars 5 (kE e) % 2 = 1))) = false) : (d8 ars pc e (vs, bd)).1.2 = (xE ars pc vs bd e k).1.2 ++ rdL ((xE ars pc vs bd e k).1.1.length : Int) e.value (kE e) j := by
 rw [hj, aC6 hk h3 hs]
theorem cd1 {v a : Int} {i : c6} {j : Nat} : bd ++ rdL v a i (j + 1) = bd ++ rdL v a i j ++ [W7 v ⟨11, 0, [⟨9, 0, (ah2 i ((j : Int) + 1)).kids⟩, ⟨3, a, [⟨1, (j : Int) + 1, []⟩]⟩, ⟨2, v, []⟩]⟩] := by
 rw [rdL, cm7]; rfl
end
abbrev av4 (e : c6) := x5 (e.kids.getD 0 ch2)
abbrev aS8 (e : c6) (ars : List Int) (pc : Int) (vs : List Int) (bd : List c5) (k : Nat) := j5 (xE ars pc vs bd e k).fst.fst ars 5 (x5 e)
abbrev ap7 (e : c6) (ars : List Int) (pc : Int) (vs : List Int) (bd : List c5) (k : Nat) := d8 ars pc (e.kids.getD k ch2) (xE ars pc vs bd e k).fst
abbrev av3 (e : c6) (ars : List Int) (pc : Int) (vs : List Int) (bd : List c5) : List It := [.dead, dI ars, .dead, dE e.kids, .row 3 (D.ints (d8 ars pc e (vs, bd)).fst.fst), .row 106 (D.stmts (d8 ars pc e (vs, bd)).fst.snd), dE (d8 ars pc e (vs, bd)).snd.kids]
abbrev Z1 : It := .box [.v (.slice none 0 0), .v (.slice none 0 0), .v (.slice none 0 0), .v (.slice none 0 0)]
abbrev V8 : It := .box [iA 0, iA 0, .v (.slice none 0 0)]
abbrev aF1 (e : c6) (ars : List Int) (pc : Int) (vs : List Int) (bd : List c5) (k : Nat) : It := .row 3 (D.ints ((xE ars pc vs bd e k).fst.fst ++ [l4 (aS8 e ars pc vs bd k) pc]))
abbrev ah7 : It := .box [.ref 8, .ref 1, .v (.slice none 0 0), .ref 9]
abbrev G5 (r0 : List (Nat × AV)) : List (Nat × AV) := (3, .ptr 4 0) :: (4, .ptr 5 0) :: (6, .ptr 6 0) :: (7, .ptr 7 0) :: r0
abbrev ap4 (e : c6) (ars : List Int) (pc : Int) (vs : List Int) (bd : List c5) (k : Nat) (r0 : List It) : List It := .row 3 (D.ints (xE ars pc vs bd e k).fst.fst) :: .row 106 (D.stmts (xE ars pc vs bd e k).fst.snd) :: r0
abbrev aE4 (e : c6) (ars : List Int) (r0 : List It) : List It := .dead :: dI ars :: .dead :: dE e.kids :: .box [.ref 9, .ref 1, .v (.slice none 0 0), .ref 10] :: .box (eL e 3) :: r0
abbrev a95 (r0 : List It) : List It := .box [.v (.slice none 0 0), .v (.slice none 0 0), .v (.slice none 0 0), .v (.slice none 0 0)] :: .box [iA 0, iA 0, .v (.slice none 0 0)] :: r0
theorem bx5 (e : c6) (ars : List Int) (pc : Int) (d : Nat) (hd : d + 1 ≤ 5) (ih : ∀ (u : c6), u ∈ e.kids → ∀ (vs : List Int) (bd : List c5), i5 vs.length ars.length d u = true → vs.length + (1 + z7 u) ≤ 100000 → j6 bd + 40 * (1 + z7 u) ≤ 700000 → j9.ok Tryz.prog (leC ars pc vs bd u))
    (vs : List Int) (bd : List c5) (he : i5 vs.length ars.length (d + 1) e = true) (r1 : vs.length + (1 + z7 e) ≤ 100000) (r2 : j6 bd + 40 * (1 + z7 e) ≤ 700000) : j9.ok Tryz.prog (leC ars pc vs bd e) := by
  refine E9 102 Tryz.func154 [.row 3 (D.ints vs), dI ars, .row 106 (D.stmts bd), dE e.kids] [(0, .agg [.ref 0, .ref 1, .v (.slice none 0 0), .ref 2]), (1, eA e 3), (2, iA pc)] fun G => ?_
  have hlen : e.kids.length ≤ z7 e := by cases e; exact as1 _
  have hb := bT4 (ars := ars) (pc := pc) (bd := bd) he r1 r2; refine wp_seq (j8 G d9 [0, 1, 2, 3, 4, 12, 20, 28] [.row 3 (D.ints vs), dI ars, .row 106 (D.stmts bd), dE e.kids, .box [.ref 0, .ref 1, .v (.slice none 0 0), .ref 2], .box (eL e 3), Z1, V8] ((2, iA pc) :: (G5 [])) fun G => b6 (wp_seq (j8 G d9 [0, 1, 2, 3, 4, 5, 6, 7, 48] [.row 3 (D.ints vs), dI ars, .row 106 (D.stmts bd), dE e.kids, .box [.ref 0, .ref 1, .v (.slice none 0 0), .ref 2], .box (eL e 3), Z1, V8, .box [iA e.kind, iA e.value, .v (.slice none 0 0)]] ((2, iA pc) :: (G5 [(8, .ptr 8 0)])) fun G => b6 (wp_seq (wp_seq (D2 G d9 ((2, iA pc) :: (G5 [(8, .ptr 8 0), (9, iA 0)])) fun G => b6 (wp_block ?_))))))); obtain ⟨ρ, G⟩ := G.shift 0 9 (.dead :: dI ars :: .row 106 (D.stmts bd) :: dE e.kids :: .box [.ref 9, .ref 1, .v (.slice none 0 0), .ref 2] :: .box (eL e 3) :: (a95 [.box [iA e.kind, iA e.value, .v (.slice none 0 0)], .row 3 (D.ints vs)])) ((2, iA pc) :: (G5 [(8, .ptr 8 0), (9, iA 0)])); obtain ⟨ρ, G⟩ := G.shift 2 10 (aE4 e ars (a95 [.box [iA e.kind, iA e.value, .v (.slice none 0 0)], .row 3 (D.ints vs), .row 106 (D.stmts bd)])) ((2, iA pc) :: (G5 [(8, .ptr 8 0), (9, iA 0)])); obtain ⟨ρ, G⟩ := G.nil 11 104 (.exprs []) 9 (aE4 e ars (a95 [.box (eL e 11), .row 3 (D.ints vs), .row 106 (D.stmts bd)])) ((2, iA pc) :: (G5 [(8, .ptr 8 0), (9, iA 0)])); refine t0 (κ := Nat) (fun k => k ≤ e.kids.length) (fun k => e.kids.length - k) (fun k => [.dead, dI ars, .dead, dE e.kids, .box [.ref 9, .ref 1, .v (.slice none 0 0), .ref 10], .box (eL e 3), .box [.v (.slice none 0 0), .v (.slice none 0 0), .v (.slice none 0 0), .v (.slice none 0 0)], .box [iA 0, iA 0, .v (.slice none 0 0)], .box (eL e 11), .row 3 (.ints (xE ars pc vs bd e k).1.1), .row 106 (.stmts (xE ars pc vs bd e k).1.2), .row 104 (.exprs (xE ars pc vs bd e k).2)]) (fun k => [(2, iA pc), (3, .ptr 4 0), (4, .ptr 5 0), (6, .ptr 6 0), (7, .ptr 7 0), (8, .ptr 8 0), (9, iA k)]) 0 (by omega) (t7.at G _ _) ?_; clear G; intro k ρ a w hp G; replace G := t7.at G (aE4 e ars (Z1 :: V8 :: .box (eL e 11) :: (ap4 e ars pc vs bd k [.row 104 (D.exprs (xE ars pc vs bd e k).snd)]))) ((2, iA pc) :: (G5 [(8, .ptr 8 0), (9, iA k)])); have hbk := hb k; have hxl := bT2 (ars := ars) (pc := pc) (vs := vs) (bd := bd) (e := e) k; refine wp_seq (wp_seq (k8 G d9 [(22, bA (decide ((k : Int) < e.kids.length)))] fun G => b6 (rcD G (fun h0 q0 => ?_) fun h0 q0 => ?_)))
  ·
   refine wp_exit (s7 (s7 (r8 (b6 (wp_seq (wp_seq ?_)))))); cases h1 : (e.kind != 3)
   ·
    have q1 := bne_eq_false_iff_eq.1 h1; refine ac8 G (F9 (t4 10 [9, 1, 84] (j9.lend (aa5 ((xE ars pc vs bd e k).fst.fst) ars ((e.kids.getD 0 ch2).kind) ((e.kids.getD 0 ch2).value) ((e.kids.getD 0 ch2).kids) (b12 he hd (by omega))) [.row 3]) (t4 11 [] (J4 (j5 (xE ars pc vs bd e k).fst.fst ars 5 (av4 e))) F8)) (fc h1 fz) (us [(4, 12, 0), (1013, 1013, 0)])) [0, 1, 3, 7, 15, 31, 15, 79, 207, 463, 1023, 2047, 4095, 8191] [(56, .v (.bool !(i8 (j5 (xE ars pc vs bd e k).fst.fst ars 5 (av4 e)) && decide (j5 (xE ars pc vs bd e k).fst.fst ars 5 (av4 e) % 2 = 1))))] (iX 0 0 e.kids.length []) (iK (by have := aH0 he (by omega); omega) ci7) fun G => b6 ?_; cases h2 : (!(i8 (j5 (xE ars pc vs bd e k).fst.fst ars (5 : Nat) (x5 (e.kids.getD (0 : Nat) ch2))) && decide (j5 (xE ars pc vs bd e k).fst.fst ars (5 : Nat) (x5 (e.kids.getD (0 : Nat) ch2)) % (2 : Int) = 1)))
    ·
     have q2 : ((i8 (j5 (xE ars pc vs bd e k).fst.fst ars 5 (x5 (e.kids.getD 0 ch2)))) = true) ∧ (j5 (xE ars pc vs bd e k).fst.fst ars 5 (x5 (e.kids.getD 0 ch2)) % 2 = 1) := (fun hq => And.imp (fun hq => (hq)) (fun hq => of_decide_eq_true hq) (Bool.and_eq_true_iff.1 hq)) (Eq.mp (ck2 _) h2); refine rF G _ h2 (wp_skip (b6 (wp_seq (j8 G d9 [0, 1, 2, 3, 4, 5, 6, 7, 9, 10] (.dead :: dI ars :: .dead :: dE e.kids :: ah7 :: .box (eL e 3) :: Z1 :: V8 :: (ap4 e ars pc vs bd k [])) ((2, iA pc) :: (G5 [(11, iA 0)])) fun G => b6 (wp_seq (ag9 G (F9 (t4 4 [8, 1, 3] (j9.lend (aa5 ((xE ars pc vs bd e k).fst.fst) ars e.kind e.value e.kids (b13 he hd)) [.row 3]) (t4 7 [8, 1, 9] (an3 ((xE ars pc vs bd e k).fst.fst) ars ((xE ars pc vs bd e k).fst.snd) (l4 (aS8 e ars pc vs bd k) pc) (by omega)) F8)) fz []) [0, 0, 2, 0, 14, 0, 62, 127, 255, 511, 511, 1023, 4095] [0, 1, 2, 3, 4, 5, 6, 7, 9, 66] [.dead, dI ars, .dead, dE e.kids, .box [.ref 9, .ref 1, .v (.slice none 0 0), .ref 8], .box (eL e 3), Z1, V8, .row 106 (D.stmts (xE ars pc vs bd e k).fst.snd), aF1 e ars pc vs bd k] (G5 [(11, iA ((xE ars pc vs bd e k).fst.fst.length : Int))]) fun G => b6 (wp_seq (ag9 G (F9 (t4 4 [] (J2 0) (t4 5 [42] (au6 e.value 1 0 ([])) (t4 6 [9, 1, 8, 50] (T8 ((xE ars pc vs bd e k).fst.fst ++ [l4 (aS8 e ars pc vs bd k) pc]) ars ((xE ars pc vs bd e k).fst.snd) (((xE ars pc vs bd e k).fst.fst.length : Int)) 3 e.value ([c6.mk 1 0 []]) (by omega)) F8))) fz []) [0, 0, 0, 4, 0, 28, 63, 127] [0, 1, 2, 3, 4, 5, 6, 7, 9, 58] [.dead, dI ars, .dead, dE e.kids, ah7, .box (eL e 3), Z1, V8, aF1 e ars pc vs bd k, .row 106 (D.stmts ((xE ars pc vs bd e k).fst.snd ++ [W7 ((xE ars pc vs bd e k).fst.fst.length : Int) (c6.mk 3 e.value [c6.mk 1 0 []])]))] (G5 [(11, iA ((xE ars pc vs bd e k).fst.fst.length : Int))]) fun G => b6 (wp_seq (wp_seq (D2 G d9 (G5 [(11, iA ((xE ars pc vs bd e k).fst.fst.length : Int)), (12, iA 1)]) fun G => b6 (wp_block ?_)))))))))))); refine t0 (κ := Nat) (fun j => j ≤ 3) (fun j => 3 - j) (fun j => [.dead, dI ars, .dead, dE e.kids, .box [.ref 8, .ref 1, .v (.slice none 0 0), .ref 9], .box (eL e 3), .box [.v (.slice none 0 0), .v (.slice none 0 0), .v (.slice none 0 0), .v (.slice none 0 0)], .box [iA 0, iA 0, .v (.slice none 0 0)], .row 3 (D.ints ((xE ars pc vs bd e k).fst.fst ++ [l4 (j5 (xE ars pc vs bd e k).fst.fst ars 5 (x5 e)) pc])), .row 106 (.stmts ((xE ars pc vs bd e k).1.2 ++ rdL ((xE ars pc vs bd e k).1.1.length : Int) e.value (kE e) j))]) (fun j => [(3, .ptr 4 0), (4, .ptr 5 0), (6, .ptr 6 0), (7, .ptr 7 0), (11, iA ((xE ars pc vs bd e k).fst.fst.length : Int)), (12, iA ((j : Int) + 1))]) 0 (by omega) (t7.at G _ _) ?_
     clear G; intro j ρ a w hp G; replace G := t7.at G [.dead, dI ars, .dead, dE e.kids, ah7, .box (eL e 3), Z1, V8, aF1 e ars pc vs bd k, .row 106 (D.stmts ((xE ars pc vs bd e k).fst.snd ++ rdL ((xE ars pc vs bd e k).fst.fst.length : Int) e.value (kE e) j))] (G5 [(11, iA ((xE ars pc vs bd e k).fst.fst.length : Int)), (12, iA ((j : Int) + 1))]); refine wp_seq (wp_seq (k8 G d9 [(78, bA (decide ((j : Int) + 1 < 4)))] fun G => b6 (rcD G (fun h3 q3 => ?_) fun h3 q3 => ?_)))
     · refine wp_exit (s7 (s7 (r8 (b6 (wp_seq (ag9 G (s8 2 [] (an2 (((xE ars pc vs bd e k).fst.fst.length : Int)))) [0, 0, 2, 7, 15] [0, 1, 2, 3, 6, 7, 8, 9, 26] [.dead, dI ars, .dead, dE e.kids, .box [.ref 6, .ref 1, .v (.slice none 0 0), .ref 7], .box [iA 2, iA ((xE ars pc vs bd e k).fst.fst.length : Int), .ref 8], aF1 e ars pc vs bd k, .row 106 (D.stmts ((xE ars pc vs bd e k).fst.snd ++ rdL ((xE ars pc vs bd e k).fst.fst.length : Int) e.value (kE e) j)), dE []] [(6, .ptr 4 0), (7, .ptr 5 0)] fun G => b6 (wp_ret ?_))))))); exact U2 (.tup [.agg [.ref 6, .ref 1, .v (.slice none 0 0), .ref 7], .agg [iA 2, iA ((xE ars pc vs bd e k).fst.fst.length : Int), .ref 8]]) G [0, 1, 2, 3, 6, 7, 8] (by have e1 : ((d8 ars pc e (vs, bd)).snd.kind : Int) = (2) := (by rw [aC6 (ars := ars) (pc := pc) (vs := vs) (bd := bd) (e := e) (k := k) (by omega) (by omega) (by with_reducible assumption)]; rfl); have e2 : ((d8 ars pc e (vs, bd)).snd.value : Int) = (((xE ars pc vs bd e k).fst.fst.length : Int)) := (by rw [aC6 (ars := ars) (pc := pc) (vs := vs) (bd := bd) (e := e) (k := k) (by omega) (by omega) (by with_reducible assumption)]; rfl); (first | rw [e1, e2] | simp only [e1, e2]) <;> rfl) (by show _ = mR [0, 1, 2, 3, 6, 7, 8] (av3 e ars pc vs bd); unfold av3; have e2 : ((d8 ars pc e (vs, bd)).fst.snd : List c5) = ((xE ars pc vs bd e k).fst.snd ++ rdL ((xE ars pc vs bd e k).fst.fst.length : Int) e.value (kE e) j) := (bH7 (k := k) (show j = 3 by omega) (by omega) (by omega) (by with_reducible assumption)); rw [e2, aC6 (ars := ars) (pc := pc) (vs := vs) (bd := bd) (e := e) (k := k) (by omega) (by omega) (by with_reducible assumption)] <;> rfl)
     · refine wp_skip (b6 (wp_seq (wp_block (O1 G (F9 (t4 7 [50] (bo1 ((e.kids.getD 0 ch2).kind) ((e.kids.getD 0 ch2).value) ((e.kids.getD 0 ch2).kids) ((j : Int) + 1)) (t4 11 [] (J2 ((j : Int) + 1)) (t4 12 [98] (au6 e.value 1 ((j : Int) + 1) ([])) (t4 14 [] (an2 (((xE ars pc vs bd e k).fst.fst.length : Int))) (t4 16 [130] (ad4 11 ([c6.mk 9 0 (ah2 (av4 e) ((j : Int) + 1)).kids] ++ ([c6.mk 3 e.value [c6.mk 1 ((j : Int) + 1) []]] ++ ([c6.mk 2 ((xE ars pc vs bd e k).fst.fst.length : Int) []] ++ [])))) (t4 17 [8, 1, 9, 130] (T8 ((xE ars pc vs bd e k).fst.fst ++ [l4 (aS8 e ars pc vs bd k) pc]) ars ((xE ars pc vs bd e k).fst.snd ++ rdL ((xE ars pc vs bd e k).fst.fst.length : Int) e.value (kE e) j) (((xE ars pc vs bd e k).fst.fst.length : Int)) 11 0 ([c6.mk 9 0 (ah2 (av4 e) ((j : Int) + 1)).kids] ++ ([c6.mk 3 e.value [c6.mk 1 ((j : Int) + 1) []]] ++ ([c6.mk 2 ((xE ars pc vs bd e k).fst.fst.length : Int) []] ++ []))) (by simp only [ch8, ci1, ci6, aV4]; omega)) F8)))))) fz []) [0, 0, 0, 4, 12, 28, 0, 124, 0, 256, 0, 1276, 4092, 0, 16380, 32764, 65532, 131071, 262143] [0, 1, 2, 3, 4, 5, 6, 7, 8, 146] [.dead, dI ars, .dead, dE e.kids, ah7, .box (eL e 3), Z1, V8, aF1 e ars pc vs bd k, .row 106 (D.stmts ((xE ars pc vs bd e k).fst.snd ++ rdL ((xE ars pc vs bd e k).fst.fst.length : Int) e.value (kE e) j ++ [W7 ((xE ars pc vs bd e k).fst.fst.length : Int) (c6.mk 11 0 ([c6.mk 9 0 (ah2 (av4 e) ((j : Int) + 1)).kids] ++ ([c6.mk 3 e.value [c6.mk 1 ((j : Int) + 1) []]] ++ ([c6.mk 2 ((xE ars pc vs bd e k).fst.fst.length : Int) []] ++ []))))]))] (G5 [(11, iA ((xE ars pc vs bd e k).fst.fst.length : Int)), (12, iA ((j : Int) + 1))]) (iX 0 0 e.kids.length []) (iK (by have := aH0 he (by omega); omega) ci7) fun G => l0 (b6 (E0 G d9 [(12, iA ((j : Int) + 1 + 1))] [wO ((j : Int) + 1 + 1)] (o1 (by omega)) fun G => b6 ?_)))))); exact I9 G (j + 1) (by omega) (by omega) (rg 10) (by have e1 : ((xE ars pc vs bd e k).fst.snd ++ rdL ((xE ars pc vs bd e k).fst.fst.length : Int) e.value (kE e) (j + 1) : List c5) = ((xE ars pc vs bd e k).fst.snd ++ rdL ((xE ars pc vs bd e k).fst.fst.length : Int) e.value (kE e) j ++ [W7 ((xE ars pc vs bd e k).fst.fst.length : Int) (c6.mk 11 0 ([c6.mk 9 0 (ah2 (x5 (e.kids.getD 0 ch2)) ((j : Int) + 1)).kids] ++ ([c6.mk 3 e.value [c6.mk 1 ((j : Int) + 1) []]] ++ ([c6.mk 2 ((xE ars pc vs bd e k).fst.fst.length : Int) []] ++ []))))]) := cd1; (first | rw [e1] | simp only [e1]) <;> rfl)
    · have q2 : ((i8 (j5 (xE ars pc vs bd e k).fst.fst ars 5 (x5 (e.kids.getD 0 ch2)))) = false) ∨ (¬ (j5 (xE ars pc vs bd e k).fst.fst ars 5 (x5 (e.kids.getD 0 ch2)) % 2 = 1)) := (fun hq => Or.imp (fun hq => (hq)) (fun hq => of_decide_eq_false hq) (Bool.and_eq_false_iff.1 hq)) (Eq.mp (cj4 _) h2); refine rT G _ h2 (wp_seq (ag9 G d9 [0, 0, 1, 7] [0, 1, 2, 3, 4, 5, 6, 7, 9, 10, 11] (.dead :: dI ars :: .dead :: dE e.kids :: ah7 :: .box (eL e 3) :: ah7 :: .box (eL e 10) :: (ap4 e ars pc vs bd k [.row 104 (D.exprs (xE ars pc vs bd e k).snd)])) ((2, iA pc) :: (G5 [])) fun G => b6 (wp_ret (l6 ?_)))); obtain ⟨ρ, G⟩ := G.frz [.no, .no, .no, .no, .no, .no, .no, .no, .no, .no, .row 104] (.dead :: dI ars :: .dead :: dE e.kids :: .box [.ref 8, .ref 1, .v (.slice none 0 0), .ref 9] :: .box (eL e 3) :: .box [.ref 8, .ref 1, .v (.slice none 0 0), .ref 9] :: .box (eL e 10) :: (ap4 e ars pc vs bd k [dE (xE ars pc vs bd e k).snd])) ((2, iA pc) :: (G5 [])); exact U2 (.tup [.agg [.ref 8, .ref 1, .v (.slice none 0 0), .ref 9], eA e 10]) G [0, 1, 2, 3, 8, 9, 10] (by have e1 : ((d8 ars pc e (vs, bd)).snd.kind : Int) = (e.kind) := (by rw [aT4 (ars := ars) (pc := pc) (vs := vs) (bd := bd) (e := e) (k := k) (by omega) (by with_reducible assumption)]; rfl); have e2 : ((d8 ars pc e (vs, bd)).snd.value : Int) = (e.value) := (by rw [aT4 (ars := ars) (pc := pc) (vs := vs) (bd := bd) (e := e) (k := k) (by omega) (by with_reducible assumption)]; rfl); (first | rw [e1, e2] | simp only [e1, e2]) <;> rfl) (by show _ = mR [0, 1, 2, 3, 8, 9, 10] (av3 e ars pc vs bd); unfold av3; rw [aT4 (ars := ars) (pc := pc) (vs := vs) (bd := bd) (e := e) (k := k) (by omega) (by with_reducible assumption)] <;> rfl)
   · have q1 := bne_iff_ne.1 h1; refine bq7 G (J1 (fc h1 fz) (us [(4, 12, 0), (1013, 1013, 0)])) [0, 1, 3, 7, 15, 31, 15, 79, 207, 463, 1023, 2047, 4095, 8191] [(56, bA true)] fun G => b6 (rT G true (by kernel_rfl) (wp_seq (ag9 G d9 [0, 0, 1, 7] [0, 1, 2, 3, 4, 5, 6, 7, 9, 10, 11] (.dead :: dI ars :: .dead :: dE e.kids :: ah7 :: .box (eL e 3) :: ah7 :: .box (eL e 10) :: (ap4 e ars pc vs bd k [.row 104 (D.exprs (xE ars pc vs bd e k).snd)])) ((2, iA pc) :: (G5 [])) fun G => b6 (wp_ret (l6 ?_))))); obtain ⟨ρ, G⟩ := G.frz [.no, .no, .no, .no, .no, .no, .no, .no, .no, .no, .row 104] (.dead :: dI ars :: .dead :: dE e.kids :: .box [.ref 8, .ref 1, .v (.slice none 0 0), .ref 9] :: .box (eL e 3) :: .box [.ref 8, .ref 1, .v (.slice none 0 0), .ref 9] :: .box (eL e 10) :: (ap4 e ars pc vs bd k [dE (xE ars pc vs bd e k).snd])) ((2, iA pc) :: (G5 [])); exact U2 (.tup [.agg [.ref 8, .ref 1, .v (.slice none 0 0), .ref 9], eA e 10]) G [0, 1, 2, 3, 8, 9, 10] (by have e1 : ((d8 ars pc e (vs, bd)).snd.kind : Int) = (e.kind) := (by rw [aT5 (ars := ars) (pc := pc) (vs := vs) (bd := bd) (e := e) (k := k) (by omega) (by omega)]; rfl); have e2 : ((d8 ars pc e (vs, bd)).snd.value : Int) = (e.value) := (by rw [aT5 (ars := ars) (pc := pc) (vs := vs) (bd := bd) (e := e) (k := k) (by omega) (by omega)]; rfl); (first | rw [e1, e2] | simp only [e1, e2]) <;> rfl) (by show _ = mR [0, 1, 2, 3, 8, 9, 10] (av3 e ars pc vs bd); unfold av3; rw [aT5 (ars := ars) (pc := pc) (vs := vs) (bd := bd) (e := e) (k := k) (by omega) (by omega)] <;> rfl)
  · refine wp_skip (b6 (wp_seq (wp_block (wp_seq (j8 G d9 [0, 1, 2, 3, 4, 5, 6, 7, 8, 9, 10, 11, 20] (aE4 e ars (Z1 :: V8 :: .box (eL e 11) :: (ap4 e ars pc vs bd k [.row 104 (D.exprs (xE ars pc vs bd e k).snd), V8]))) ((2, iA pc) :: (G5 [(8, .ptr 8 0), (9, iA k), (10, .ptr 12 0)])) fun G => b6 (wp_seq (O1 G (s8 7 [9, 1, 10, 53] (ih (e.kids.getD k ch2) (au1 (by omega)) ((xE ars pc vs bd e k).fst.fst) ((xE ars pc vs bd e k).fst.snd) (bT3 he (by omega)) (b15 he r1 (by omega)) (b14 he r2 (by omega)))) [0, 0, 2, 0, 14, 30, 0, 127, 255, 511, 511, 1023, 4095] [0, 1, 2, 3, 4, 5, 6, 7, 8, 11, 12, 69, 70, 71] [.dead, dI ars, .dead, dE e.kids, .box [.ref 11, .ref 1, .v (.slice none 0 0), .ref 12], .box (eL e 3), Z1, V8, .box (eL e 9), .row 104 (D.exprs (xE ars pc vs bd e k).snd), .box (eL (ap7 e ars pc vs bd k).snd 13), .row 3 (D.ints (ap7 e ars pc vs bd k).fst.fst), .row 106 (D.stmts (ap7 e ars pc vs bd k).fst.snd), dE (ap7 e ars pc vs bd k).snd.kids] ((2, iA pc) :: (G5 [(8, .ptr 8 0), (9, iA k), (10, .ptr 10 0)])) (iX k k e.kids.length []) (iK (by omega) ci7) fun G => b6 (N7 G d9 [0, 1, 2, 3, 4, 5, 6, 7, 8, 11, 12, 46] (aE4 e ars [Z1, V8, .box (eL e 11), .row 3 (D.ints (ap7 e ars pc vs bd k).fst.fst), .row 106 (D.stmts (ap7 e ars pc vs bd k).fst.snd), .row 104 (D.exprs ((xE ars pc vs bd e k).snd ++ ([x5 (ap7 e ars pc vs bd k).snd] ++ [])))]) ((2, iA pc) :: (G5 [(8, .ptr 8 0), (9, iA k)])) (aP ((xE ars pc vs bd e k).snd.length + ([x5 (d8 ars pc (e.kids.getD k ch2) (xE ars pc vs bd e k).fst).snd] ++ []).length) 40 []) (aK (by simp only [ch8, ci1, ci6, aV4]; omega) ci7) fun G => l0 (b6 (E0 G d9 [(9, iA ((k : Int) + 1))] [wO ((k : Int) + 1)] (o1 (by omega)) fun G => b6 ?_)))))))))); exact I9 G (k + 1) (by omega) (by omega) (rg 12) (by have e1 : ((xE ars pc vs bd e (k + 1)).fst.fst : List Int) = ((d8 ars pc (e.kids.getD k ch2) (xE ars pc vs bd e k).fst).fst.fst) := (b11 (by omega)); have e2 : ((xE ars pc vs bd e (k + 1)).fst.snd : List c5) = ((d8 ars pc (e.kids.getD k ch2) (xE ars pc vs bd e k).fst).fst.snd) := (b10 (by omega)); have e3 : ((xE ars pc vs bd e (k + 1)).snd : List c6) = ((xE ars pc vs bd e k).snd ++ ([x5 (d8 ars pc (e.kids.getD k ch2) (xE ars pc vs bd e k).fst).snd] ++ [])) := (b09 (by omega)); (first | rw [e1, e2, e3] | simp only [e1, e2, e3]) <;> rfl)
theorem bm1 (ars : List Int) (pc : Int) : ∀ (d : Nat), d ≤ 5 → ∀ (e : c6) (vs : List Int) (bd : List c5), i5 vs.length ars.length d e = true → vs.length + (1 + z7 e) ≤ 100000 → j6 bd + 40 * (1 + z7 e) ≤ 700000 → j9.ok Tryz.prog (leC ars pc vs bd e)
 | 0, _, _, _, _, h, _, _ => by simp [i5] at h
 | d + 1, hd, e, vs, bd, h, r1, r2 => bx5 e ars pc d hd (fun u _ vs bd h r1 r2 => bm1 ars pc d (by omega) u vs bd h r1 r2) vs bd h r1 r2
theorem a77 (ars : List Int) (pc : Int) (e : c6) (vs : List Int) (bd : List c5) (h : i5 vs.length ars.length 5 e = true) (r1 : vs.length + (1 + z7 e) ≤ 100000) (r2 : j6 bd + 40 * (1 + z7 e) ≤ 700000) : j9.ok Tryz.prog (leC ars pc vs bd e) := bm1 ars pc 5 (ch9 _) e vs bd h r1 r2
theorem bN9 (e : c6) (hb : z7 e ≤ 1048576) : j9.ok Tryz.prog ⟨132, [eA e 0], eS e, eS e ++ [dE e.kids], .agg [iA e.kind, iA e.value, .ref 1]⟩ :=
 j9.datPost (S := eS e) (d := .exprs e.kids) (aY5 e hb) (.agg [iA e.kind, iA e.value, .ref 1])
theorem cc1 {bd : List c5} {v t m : Int} {i : c6} {k : Nat} : bd ++ stL v t i m (k + 1) = bd ++ stL v t i m k ++ [⟨2, t, ⟨1, (k : Int), []⟩, ⟨11, 0, [⟨(C1 m (ah2 i (k : Int)) (cnE 0)).kind, (C1 m (ah2 i (k : Int)) (cnE 0)).value, (C1 m (ah2 i (k : Int)) (cnE 0)).kids⟩, ⟨2, v, []⟩, ⟨3, t, [⟨1, (k : Int), []⟩]⟩]⟩, 0, [], []⟩] := by
 rw [c6.eta, stL, cm7]
theorem cc0 {bd : List c5} {v t m : Int} {i : c6} {k : Nat} (hk : k = 4) : bd ++ stL v t i m 4 = bd ++ stL v t i m k := by rw [hk]
abbrev cf9 (ars vs : List Int) (bd : List c5) (m pc : Int) (t : c5) (e : c6) : j9 := ⟨160, [.agg [.ref 0, .ref 1, nlA, .ref 2], sA t 3, eA e 7, iA m, iA pc], [qI vs, dI ars, qT bd] ++ sS t ++ [dE e.kids], [qI vs, dI ars, .dead] ++ sS t ++ [dE e.kids, qI (vs ++ [l4 (j5 vs ars 5 ⟨e.kind, e.value, e.kids⟩) pc]), qT (bd ++ [W7 (vs.length : Int) ⟨e.kind, e.value, e.kids⟩] ++ stL (vs.length : Int) t.target ⟨t.index.kind, t.index.value, t.index.kids⟩ m 4)], .agg [.ref 8, .ref 1, nlA, .ref 9]⟩
abbrev aF0 (m : Int) (t : c5) (k : Nat) := C1 m (c6.mk 9 0 (ah2 (x5 t.index) (k : Int)).kids) (c6.mk 1 0 [])
abbrev aS7 (vs : List Int) (bd : List c5) (m : Int) (t : c5) (e : c6) (k : Nat) := bd ++ [W7 (vs.length : Int) (x5 e)] ++ stL (vs.length : Int) t.target (x5 t.index) m k
abbrev a97 (ars : List Int) (vs : List Int) (pc : Int) (e : c6) := vs ++ [l4 (j5 vs ars 5 (x5 e)) pc]
abbrev a96 : It := .box [.v (.slice none 0 0), .v (.slice none 0 0), .v (.slice none 0 0), .v (.slice none 0 0)]
abbrev bS9 : It := .box [.ref 11, .ref 1, .v (.slice none 0 0), .ref 12]
abbrev aE3 (ars : List Int) (vs : List Int) (pc : Int) (t : c5) (e : c6) (r0 : List It) : List It := .row 3 (D.ints vs) :: dI ars :: .dead :: dE t.index.kids :: dE t.value.kids :: dT t.body :: dT t.els :: dE e.kids :: bS9 :: .box (sL t 3) :: a96 :: .row 3 (D.ints (a97 ars vs pc e)) :: r0
abbrev ap3 (vs : List Int) (m : Int) (r0 : List (Nat × AV)) : List (Nat × AV) := (3, iA m) :: (5, .ptr 8 0) :: (6, .ptr 9 0) :: (10, .ptr 10 0) :: (11, iA (vs.length : Int)) :: r0
abbrev av2 (t : c5) (e : c6) (r0 : List It) : List It := dE t.index.kids :: dE t.value.kids :: dT t.body :: dT t.els :: dE e.kids :: r0
theorem bs7 (ars vs : List Int) (bd : List c5) (m pc : Int) (t : c5) (e : c6) (he : i5 vs.length ars.length 5 ⟨e.kind, e.value, e.kids⟩ = true) (r1 : vs.length ≤ 100000) (r2 : bd.length ≤ 700000) : j9.ok Tryz.prog (cf9 ars vs bd m pc t e) := by
  refine E9 63 Tryz.func160 (.row 3 (D.ints vs) :: dI ars :: .row 106 (D.stmts bd) :: (av2 t e [])) [(0, .agg [.ref 0, .ref 1, .v (.slice none 0 0), .ref 2]), (1, sA t 3), (2, eA e 7), (3, iA m), (4, iA pc)] fun G => ?_; refine wp_seq (j8 G d9 [0, 1, 2, 3, 4, 5, 6, 7, 8, 16, 24, 32] (.row 3 (D.ints vs) :: dI ars :: .row 106 (D.stmts bd) :: (av2 t e [.box [.ref 0, .ref 1, .v (.slice none 0 0), .ref 2], .box (sL t 3), .box (eL e 7), a96])) [(3, iA m), (4, iA pc), (5, .ptr 8 0), (6, .ptr 9 0), (7, .ptr 10 0), (10, .ptr 11 0)] fun G => b6 (wp_seq (k8 G d9 [(11, iA 0)] fun G => b6 (wp_seq (ag9 G (F9 (t4 4 [0, 1, 7] (j9.lend (aa5 vs ars e.kind e.value e.kids (by assumption)) [.row 3]) (t4 7 [0, 1, 2] (an3 vs ars bd (l4 (j5 vs ars 5 (x5 e)) pc) (by omega)) F8)) fz []) [0, 0, 2, 0, 14, 0, 62, 127, 255, 511, 511, 1023, 4095] [0, 1, 2, 3, 4, 5, 6, 7, 8, 9, 10, 11, 68] (.row 3 (D.ints vs) :: dI ars :: .row 106 (D.stmts bd) :: (av2 t e [.box [.ref 12, .ref 1, .v (.slice none 0 0), .ref 2], .box (sL t 3), .box (eL e 7), a96, .row 3 (D.ints (a97 ars vs pc e))])) [(3, iA m), (5, .ptr 8 0), (6, .ptr 9 0), (7, .ptr 10 0), (10, .ptr 11 0), (11, iA (vs.length : Int))] fun G => b6 (wp_seq (j8 G (s8 3 [12, 1, 2, 7] (T8 (vs ++ [l4 (j5 vs ars 5 (x5 e)) pc]) ars bd ((vs.length : Int)) e.kind e.value e.kids (by omega))) [0, 1, 2, 3, 4, 5, 6, 7, 8, 9, 11, 12, 37] (aE3 ars vs pc t e [.row 106 (D.stmts (bd ++ [W7 (vs.length : Int) (x5 e)]))]) (ap3 vs m []) fun G => b6 (wp_seq (wp_seq (D2 G d9 (ap3 vs m [(12, iA 0)]) fun G => b6 (wp_block ?_))))))))))); replace G := G.as (.row 3 (D.ints vs) :: dI ars :: .dead :: (av2 t e [.box [.ref 11, .ref 1, .v (.slice none 0 0), .ref 12], .box (sL t 3), .box [.v (.slice none 0 0), .v (.slice none 0 0), .v (.slice none 0 0), .v (.slice none 0 0)], .row 3 (D.ints (vs ++ [l4 (j5 vs ars 5 (x5 e)) pc])), .row 106 (D.stmts (bd ++ [W7 (vs.length : Int) (x5 e)] ++ stL (vs.length : Int) t.target (x5 t.index) m 0))])) (ap3 vs m [(12, iA 0)]) (by have e1 : (bd ++ [W7 (vs.length : Int) (x5 e)] ++ stL (vs.length : Int) t.target (x5 t.index) m 0 : List c5) = (bd ++ [W7 (vs.length : Int) (x5 e)]) := (by simp only [stL, List.append_nil]; done); (first | rw [e1] | simp only [e1]) <;> rfl) (by kernel_rfl); refine t0 (κ := Nat) (fun k => k ≤ 4) (fun k => 4 - k) (fun k => [.row 3 (D.ints vs), dI ars, .dead, dE t.index.kids, dE t.value.kids, dT t.body, dT t.els, dE e.kids, .box [.ref 11, .ref 1, .v (.slice none 0 0), .ref 12], .box (sL t 3), .box [.v (.slice none 0 0), .v (.slice none 0 0), .v (.slice none 0 0), .v (.slice none 0 0)], .row 3 (D.ints (vs ++ [l4 (j5 vs ars 5 (x5 e)) pc])), .row 106 (.stmts (bd ++ [W7 (vs.length : Int) ⟨e.kind, e.value, e.kids⟩] ++ stL (vs.length : Int) t.target ⟨t.index.kind, t.index.value, t.index.kids⟩ m k))]) (fun k => [(3, iA m), (5, .ptr 8 0), (6, .ptr 9 0), (10, .ptr 10 0), (11, iA (vs.length : Int)), (12, iA k)]) 0 (by omega) (t7.at G _ _) ?_
  clear G; intro k ρ a w hp G; replace G := t7.at G (aE3 ars vs pc t e [.row 106 (D.stmts (aS7 vs bd m t e k))]) (ap3 vs m [(12, iA k)]); refine wp_seq (wp_seq (k8 G d9 [(31, bA (decide ((k : Int) < 4)))] fun G => b6 (rcD G (fun h0 q0 => ?_) fun h0 q0 => ?_)))
  · refine wp_exit (s7 (s7 (r8 (b6 (wp_seq (j8 G d9 [0, 1, 2, 3, 4, 5, 6, 7, 10, 11, 12] (.row 3 (D.ints vs) :: dI ars :: .dead :: (av2 t e [.box [.ref 9, .ref 1, .v (.slice none 0 0), .ref 10], .row 3 (D.ints (a97 ars vs pc e)), .row 106 (D.stmts (aS7 vs bd m t e k))])) [(10, .ptr 8 0)] fun G => b6 (wp_ret ?_))))))); exact K8 G [0, 1, 2, 3, 4, 5, 6, 7, 9, 10] (by show _ = mR [0, 1, 2, 3, 4, 5, 6, 7, 9, 10] (.row 3 (D.ints vs) :: dI ars :: .dead :: (av2 t e [.row 3 (D.ints (vs ++ [l4 (j5 vs ars 5 (x5 e)) pc])), .row 106 (D.stmts (bd ++ [W7 (vs.length : Int) (x5 e)] ++ stL (vs.length : Int) t.target (x5 t.index) m 4))])); have e1 : (bd ++ [W7 (vs.length : Int) (x5 e)] ++ stL (vs.length : Int) t.target (x5 t.index) m 4 : List c5) = (bd ++ [W7 (vs.length : Int) (x5 e)] ++ stL (vs.length : Int) t.target (x5 t.index) m k) := (cc0 (show k = 4 by omega)); (first | rw [e1] | simp only [e1]) <;> rfl)
  ·
   refine wp_skip (b6 (wp_seq (wp_block (wp_seq (j8 G (F9 (t4 4 [3] (bo1 t.index.kind t.index.value t.index.kids ((k : Int))) (t4 5 [] (J2 0) (t4 6 [45, 53] (ak8 m 9 0 1 0 ((ah2 (x5 t.index) (k : Int)).kids) ([])) F8))) fz []) [0, 1, 2, 3, 4, 5, 6, 7, 8, 9, 10, 11, 12, 61, 69] (aE3 ars vs pc t e [.row 106 (D.stmts (aS7 vs bd m t e k)), dE (aF0 m t k).kids, .box [iA (aF0 m t k).kind, iA (aF0 m t k).value, .ref 13]]) (ap3 vs m [(12, iA k), (13, .ptr 14 0)]) fun G => b6 (wp_seq (ag9 G (F9 (t4 2 [] (an2 ((vs.length : Int))) (t4 6 [] (J2 ((k : Int))) (t4 7 [63] (au6 t.target 1 ((k : Int)) ([])) (t4 9 [79] (ad4 11 ([x5 (C1 m (c6.mk 9 0 (ah2 (c6.mk t.index.kind t.index.value t.index.kids) (k : Int)).kids) (c6.mk 1 0 []))] ++ ([c6.mk 2 (vs.length : Int) []] ++ ([c6.mk 3 t.target [c6.mk 1 (k : Int) []]] ++ [])))) F8)))) fz []) [0, 0, 2, 0, 8, 0, 38, 126, 255, 511, 0, 2047] [0, 1, 2, 3, 4, 5, 6, 7, 8, 9, 10, 11, 12, 79, 95] (aE3 ars vs pc t e [.row 106 (D.stmts (aS7 vs bd m t e k)), dE ([x5 (aF0 m t k)] ++ ([c6.mk 2 (vs.length : Int) []] ++ ([c6.mk 3 t.target [c6.mk 1 (k : Int) []]] ++ []))), .box [iA 11, iA 0, .ref 13]]) (ap3 vs m [(12, iA k), (14, .ptr 14 0)]) fun G => b6 (O1 G (s8 5 [] (J2 ((k : Int)))) [0, 1, 0, 4, 0, 16, 0, 124, 252, 511, 1023, 2047] [0, 1, 2, 3, 4, 5, 6, 7, 8, 9, 10, 11, 87] (aE3 ars vs pc t e [.row 106 (D.stmts (bd ++ [W7 (vs.length : Int) (x5 e)] ++ stL (vs.length : Int) t.target (x5 t.index) m k ++ ([c5.mk 2 t.target (c6.mk 1 (k : Int) []) (c6.mk 11 0 ([x5 (aF0 m t k)] ++ ([c6.mk 2 (vs.length : Int) []] ++ ([c6.mk 3 t.target [c6.mk 1 (k : Int) []]] ++ [])))) 0 [] []] ++ [])))]) (ap3 vs m [(12, iA k)]) (aP ((bd ++ [W7 (vs.length : Int) (x5 e)] ++ stL (vs.length : Int) t.target (x5 t.index) m k).length + ([c5.mk (2 : Int) t.target (c6.mk (1 : Int) (k : Int) []) (c6.mk (11 : Int) (0 : Int) ([x5 (C1 m (c6.mk (9 : Int) (0 : Int) (ah2 (c6.mk t.index.kind t.index.value t.index.kids) (k : Int)).kids) (c6.mk (1 : Int) (0 : Int) []))] ++ ([c6.mk (2 : Int) (vs.length : Int) []] ++ ([c6.mk (3 : Int) t.target [c6.mk (1 : Int) (k : Int) []]] ++ [])))) (0 : Int) [] []] ++ []).length) 152 []) (aK (by simp only [ch8, ci1, ci6, bj7]; omega) ci7) fun G => ?_))))))))
   refine l0 (b6 (E0 G d9 [(12, iA ((k : Int) + 1))] [wO ((k : Int) + 1)] (o1 (by omega)) fun G => b6 ?_)); exact I9 G (k + 1) (by omega) (by omega) (rg 13) (by have e1 : (bd ++ [W7 (vs.length : Int) (x5 e)] ++ stL (vs.length : Int) t.target (x5 t.index) m (k + 1) : List c5) = (bd ++ [W7 (vs.length : Int) (x5 e)] ++ stL (vs.length : Int) t.target (x5 t.index) m k ++ ([c5.mk 2 t.target (c6.mk 1 (k : Int) []) (c6.mk 11 0 ([x5 (C1 m (c6.mk 9 0 (ah2 (c6.mk t.index.kind t.index.value t.index.kids) (k : Int)).kids) (c6.mk 1 0 []))] ++ ([c6.mk 2 (vs.length : Int) []] ++ ([c6.mk 3 t.target [c6.mk 1 (k : Int) []]] ++ [])))) 0 [] []] ++ [])) := cc1; (first | rw [e1] | simp only [e1]) <;> rfl)
abbrev lbC (ars : List Int) (m pc : Int) (vs : List Int) (bd : List c5) (ss : List c5) : j9 := ⟨79, [.agg [.ref 0, .ref 1, nlA, .ref 3], .ref 2, iA m, iA pc], [qI vs, dI ars, dT ss, qT bd], [.dead, dI ars, dT ss, .dead, qI (m5 ars ss m pc (vs, bd)).1, qT (m5 ars ss m pc (vs, bd)).2], .agg [.ref 4, .ref 1, nlA, .ref 5]⟩
abbrev lnC (ars : List Int) (m pc : Int) (vs : List Int) (ss : List c5) : j9 := ⟨79, [.agg [.ref 0, .ref 1, nlA, nlA], .ref 2, iA m, iA pc], [qI vs, dI ars, dT ss], [.dead, dI ars, dT ss, qI (m5 ars ss m pc (vs, [])).1, qT (m5 ars ss m pc (vs, [])).2], .agg [.ref 3, .ref 1, nlA, .ref 4]⟩
abbrev bL7 (ars : List Int) (m pc : Int) (vs : List Int) (bd : List c5) (ss : List c5) : j9 := ⟨153, [.agg [.ref 0, .ref 1, nlA, .ref 2], .ref 3, iA m, iA pc], [qI vs, dI ars, qT bd, dT ss], [.dead, dI ars, qT bd, dT ss, qI (m5 ars ss m pc (vs, [])).1, dT (m5 ars ss m pc (vs, [])).2], .tup [.agg [.ref 4, .ref 1, nlA, .ref 2], .ref 5]⟩
theorem bp7 (ars : List Int) (m pc : Int) (vs : List Int) (bd : List c5) (ss : List c5) (hB : j9.ok Tryz.prog (lnC ars m pc vs ss)) : j9.ok Tryz.prog (bL7 ars m pc vs bd ss) := by
 refine E9 25 Tryz.func153 [.row 3 (D.ints vs), dI ars, .row 106 (D.stmts bd), dT ss] [(0, .agg [.ref 0, .ref 1, .v (.slice none 0 0), .ref 2]), (1, .ref 3), (2, iA m), (3, iA pc)] fun G => ?_; refine wp_seq (j8 G d9 [0, 1, 2, 3, 4, 12] [.row 3 (D.ints vs), dI ars, .row 106 (D.stmts bd), dT ss, .box [.ref 0, .ref 1, .v (.slice none 0 0), .ref 2], .box [.v (.slice none 0 0), .v (.slice none 0 0), .v (.slice none 0 0), .v (.slice none 0 0)]] [(1, .ref 3), (2, iA m), (3, iA pc), (4, .ptr 4 0), (8, .ptr 5 0), (9, .v (.slice none 0 0))] fun G => b6 (wp_seq (j8 G (s8 6 [0, 1, 3] hB) [0, 1, 2, 3, 4, 5, 54, 55, 62] [.dead, dI ars, .row 106 (D.stmts bd), dT ss, .box [.ref 0, .ref 1, .v (.slice none 0 0), .ref 2], .box [.v (.slice none 0 0), .v (.slice none 0 0), .v (.slice none 0 0), .v (.slice none 0 0)], .row 3 (D.ints (m5 ars ss m pc (vs, [])).fst), .row 106 (D.stmts (m5 ars ss m pc (vs, [])).snd), .box [.ref 6, .ref 1, .v (.slice none 0 0), .ref 7]] [(4, .ptr 4 0), (8, .ptr 5 0), (9, .v (.slice none 0 0)), (10, .ptr 8 0)] fun G => b6 (wp_seq (ag9 G d9 [0, 1, 0, 4, 15, 0, 32, 31, 255] [0, 1, 2, 3, 5, 6, 7] [.dead, dI ars, .row 106 (D.stmts bd), dT ss, .box [.ref 5, .ref 1, .v (.slice none 0 0), .ref 2], .row 3 (D.ints (m5 ars ss m pc (vs, [])).fst), .row 106 (D.stmts (m5 ars ss m pc (vs, [])).snd)] [(8, .ptr 4 0), (9, .ref 6)] fun G => b6 (wp_ret ?_)))))); obtain ⟨ρ, G⟩ := G.frz [.no, .no, .no, .no, .no, .no, .row 106] [.dead, dI ars, .row 106 (D.stmts bd), dT ss, .box [.ref 5, .ref 1, .v (.slice none 0 0), .ref 2], .row 3 (D.ints (m5 ars ss m pc (vs, [])).fst), dT (m5 ars ss m pc (vs, [])).snd] [(8, .ptr 4 0), (9, .ref 6)]; exact K8 G [0, 1, 2, 3, 5, 6]
abbrev b70 (ars : List Int) (m pc : Int) (vs : List Int) (bd : List c5) (t : c5) : j9 := ⟨152, [.agg [.ref 0, .ref 1, nlA, .ref 2], sA t 3, iA m, iA pc], [qI vs, dI ars, qT bd] ++ sS t, [.dead, dI ars, .dead] ++ sS t ++ [qI (H3 ars t m pc (vs, bd)).1, qT (H3 ars t m pc (vs, bd)).2], .agg [.ref 7, .ref 1, nlA, .ref 8]⟩
section
variable {ars vs : List Int} {bd : List c5} {m pc : Int} {t : c5} {nv dd : Nat}
theorem bD0 (hh : D7 nv ars.length t = true) (k3 : t.kind = 3) (hv : nv ≤ vs.length) : i5 vs.length ars.length 5 t.value = true := E8 hv 5 _ (A0 hh (by omega))
theorem cg1 (hh : D7 nv ars.length t = true) (k3 : t.kind = 3) (hv : nv ≤ vs.length) : Grw vs.length ars.length 5 (1 + z7 t.value) (vs, bd) (d8 ars pc t.value (vs, bd)).1 := (am1 ars pc ars.length 5 t.value (vs, bd) (bD0 hh k3 hv)).1
theorem bX9 (hh : D7 nv ars.length t = true) (k3 : t.kind = 3) (hv : nv ≤ vs.length) (r1 : vs.length + 4 * (1 + K3 t) ≤ 90000) (r2 : j6 bd + 130 * (1 + K3 t) ≤ 600000) : (d8 ars pc t.value (vs, bd)).1.1.length + 3 * (1 + z7 t.value) + 4 * j6 t.body + 4 * j6 t.els ≤ 90000 ∧ nv ≤ (d8 ars pc t.value (vs, bd)).1.1.length ∧ j6 (d8 ars pc t.value (vs, bd)).1.2 + 60 * (1 + z7 t.value) + 130 * j6 t.body + 130 * j6 t.els ≤ 600000 ∧ (d8 ars pc t.value (vs, bd)).1.2.length ≤ 600000 := by
 have g := cg1 (pc := pc) (bd := bd) hh k3 hv
 have a := g.lo; have b := g.hi; have c := g.st
 have hsz : K3 t = z7 t.index + z7 t.value + j6 t.body + j6 t.els := by cases t; rfl
 have := L4 (d8 ars pc t.value (vs, bd)).1.2
 simp only at a b c
 omega
end
abbrev etE (e : c6) : c6 := ⟨e.kind, e.value, e.kids⟩
abbrev ifN (x : LnS × c6) (m l : Int) : LnS := (x.1.1 ++ [l] ++ [l], x.1.2 ++ [W7 (x.1.1.length : Int) (etE (C1 m (etE x.2) ⟨1, 0, []⟩))] ++ [W7 ((x.1.1 ++ [l]).length : Int) (etE (C1 m ⟨9, 0, [⟨2, (x.1.1.length : Int), []⟩] ++ ([⟨1, 0, []⟩] ++ [])⟩ ⟨1, 0, []⟩))])
theorem bD1 (x : LnS × c6) (m l : Int) : ifN x m l = ifM x m l := by
 unfold ifN ifM etE
 simp only [c6.eta]
 rfl
theorem bY0 (x : LnS × c6) (m l : Int) : j6 (ifM x m l).2 ≤ j6 x.1.2 + 20 + z7 x.2 ∧ (ifM x m l).1.length = x.1.1.length + 2 := by
 have m1 := ae6 m x.2 (cnE 0)
 have m2 := ae6 m ⟨9, 0, [vrE (x.1.1.length : Int), cnE 0]⟩ (cnE 0)
 have m3 : z7 ⟨9, 0, [vrE (x.1.1.length : Int), cnE 0]⟩ = 2 := rfl
 have e0 : z7 nnE = 0 := rfl
 have e1 : z7 (cnE 0) = 0 := rfl
 constructor
 ·simp only [ifM, w6, j6, K3, e0]; omega
 ·simp [ifM]
section
variable {ars vs : List Int} {bd : List c5} {m pc l : Int} {t : c5} {nv dd : Nat}
theorem b74 (hh : D7 nv ars.length t = true) (k3 : t.kind = 3) (hv : nv ≤ vs.length) (r1 : vs.length + 4 * (1 + K3 t) ≤ 90000) (r2 : j6 bd + 130 * (1 + K3 t) ≤ 600000) :
  nv ≤ (ifN (d8 ars pc t.value (vs, bd)) m l).1.length ∧ (ifN (d8 ars pc t.value (vs, bd)) m l).1.length + 4 * j6 t.body + 4 * j6 t.els ≤ 90000 ∧ j6 (ifN (d8 ars pc t.value (vs, bd)) m l).2 + 130 * j6 t.body + 130 * j6 t.els ≤ 600000 := by
 have hb := bX9 (pc := pc) (bd := bd) hh k3 hv r1 r2
 have hz := bY0 (d8 ars pc t.value (vs, bd)) m l
 have h3 := (am1 ars pc ars.length 5 t.value (vs, bd) (bD0 hh k3 hv)).2.2
 rw [bD1]
 omega
theorem b73 (hh : D7 nv ars.length t = true) (k3 : t.kind = 3) (hv : nv ≤ vs.length) (r1 : vs.length + 4 * (1 + K3 t) ≤ 90000) (r2 : j6 bd + 130 * (1 + K3 t) ≤ 600000) : j6 (ifN (d8 ars pc t.value (vs, bd)) m l).2 + 130 * j6 t.body ≤ 600000 := by have := (b74 (m := m) (l := l) (pc := pc) hh k3 hv r1 r2).2.2; omega
theorem bX8 {u : Int} (hbb : t.body.all (j7 nv ars.length dd) = true) (hh : D7 nv ars.length t = true) (k3 : t.kind = 3) (hv : nv ≤ vs.length) (r1 : vs.length + 4 * (1 + K3 t) ≤ 90000) (r2 : j6 bd + 130 * (1 + K3 t) ≤ 600000) :
  nv ≤ (m5 ars t.body u l (ifN (d8 ars pc t.value (vs, bd)) m l)).1.length ∧ (m5 ars t.body u l (ifN (d8 ars pc t.value (vs, bd)) m l)).1.length + 4 * j6 t.els ≤ 90000 ∧ j6 (m5 ars t.body u l (ifN (d8 ars pc t.value (vs, bd)) m l)).2 + 130 * j6 t.els ≤ 600000 := by
 have h := b74 (m := m) (l := l) (pc := pc) hh k3 hv r1 r2
 have g := aW7 ars t.body u l (ifN (d8 ars pc t.value (vs, bd)) m l) hbb h.1
 have a := g.lo; have b := g.hi; have c := g.st
 omega
theorem b75 (hbb : t.body.all (j7 nv ars.length dd) = true) (hh : D7 nv ars.length t = true) (k3 : t.kind = 3) (hv : nv ≤ vs.length) (r1 : vs.length + 4 * (1 + K3 t) ≤ 90000) (r2 : j6 bd + 130 * (1 + K3 t) ≤ 600000) :
  nv ≤ (m5 ars t.body m l ((d8 ars pc t.value (vs, bd)).1.1, [])).1.length ∧ (m5 ars t.body m l ((d8 ars pc t.value (vs, bd)).1.1, [])).1.length + 4 * j6 t.els ≤ 90000 := by
 have hb := bX9 (pc := pc) (bd := bd) hh k3 hv r1 r2
 have g := aW7 ars t.body m l ((d8 ars pc t.value (vs, bd)).1.1, []) hbb hb.2.1
 have a := g.lo; have b := g.hi
 simp only at a b
 omega
abbrev lbV (ars vs : List Int) (pc : Int) (t : c5) : Int := l4 pc (j5 vs ars 5 (etE t.value))
theorem b77 (k3 : t.kind = 3) (h : (!(i8 (j5 vs ars 5 (etE t.value)) && decide (j5 vs ars 5 (etE t.value) % 2 = 1))) = false) : H3 ars t m pc (vs, bd) = m5 ars t.els (((d8 ars pc t.value (vs, bd)).1.1 ++ [lbV ars vs pc t]).length : Int) (lbV ars vs pc t) (m5 ars t.body ((d8 ars pc t.value (vs, bd)).1.1.length : Int) (lbV ars vs pc t) (ifN (d8 ars pc t.value (vs, bd)) m (lbV ars vs pc t))) := by
 rw [ck2] at h
 rw [bD1]
 unfold lbV
 rw [show etE t.value = t.value from c6.eta _] at h ⊢
 exact b66 k3 h
theorem b79 (k3 : t.kind = 3) (h : (!(i8 (j5 vs ars 5 (etE t.value)) && decide (j5 vs ars 5 (etE t.value) % 2 = 1))) = true) : H3 ars t m pc (vs, bd) = ((m5 ars t.els m (lbV ars vs pc t) ((m5 ars t.body m (lbV ars vs pc t) ((d8 ars pc t.value (vs, bd)).1.1, [])).1, [])).1,
  (d8 ars pc t.value (vs, bd)).1.2 ++ [⟨3, 0, ⟨0, 0, []⟩, etE (d8 ars pc t.value (vs, bd)).2, 0, (m5 ars t.body m (lbV ars vs pc t) ((d8 ars pc t.value (vs, bd)).1.1, [])).2, (m5 ars t.els m (lbV ars vs pc t) ((m5 ars t.body m (lbV ars vs pc t) ((d8 ars pc t.value (vs, bd)).1.1, [])).1, [])).2⟩]) := by
 rw [cj4] at h
 rw [show etE (d8 ars pc t.value (vs, bd)).2 = (d8 ars pc t.value (vs, bd)).2 from c6.eta _]
 unfold lbV
 rw [show etE t.value = t.value from c6.eta _] at h ⊢
 exact b67 k3 h
theorem b78 (k3 : t.kind = 3) (h : (!(i8 (j5 vs ars 5 (etE t.value)) && decide (j5 vs ars 5 (etE t.value) % 2 = 1))) = true) : (H3 ars t m pc (vs, bd)).1 = (m5 ars t.els m (lbV ars vs pc t) ((m5 ars t.body m (lbV ars vs pc t) ((d8 ars pc t.value (vs, bd)).1.1, [])).1, [])).1 := by rw [b79 k3 h]
theorem b76 (k3 : t.kind = 3) (h : (!(i8 (j5 vs ars 5 (etE t.value)) && decide (j5 vs ars 5 (etE t.value) % 2 = 1))) = false) : (H3 ars t m pc (vs, bd)).1 = (m5 ars t.els (((d8 ars pc t.value (vs, bd)).1.1 ++ [lbV ars vs pc t]).length : Int) (lbV ars vs pc t) (m5 ars t.body ((d8 ars pc t.value (vs, bd)).1.1.length : Int) (lbV ars vs pc t) (ifN (d8 ars pc t.value (vs, bd)) m (lbV ars vs pc t)))).1 := by rw [b77 k3 h]
end
abbrev aE9 (ars : List Int) (t : c5) (m : Int) (pc : Int) (vs : List Int) (bd : List c5) := m5 ars t.body ((d8 ars pc t.value (vs, bd)).fst.fst.length : Int) (l4 pc (j5 vs ars 5 (x5 t.value))) ((d8 ars pc t.value (vs, bd)).fst.fst ++ [l4 pc (j5 vs ars 5 (x5 t.value))] ++ [l4 pc (j5 vs ars 5 (x5 t.value))], (d8 ars pc t.value (vs, bd)).fst.snd ++ [W7 ((d8 ars pc t.value (vs, bd)).fst.fst.length : Int) (x5 (C1 m (c6.mk (d8 ars pc t.value (vs, bd)).snd.kind (d8 ars pc t.value (vs, bd)).snd.value (d8 ars pc t.value (vs, bd)).snd.kids) (c6.mk 1 0 [])))] ++ [W7 (((d8 ars pc t.value (vs, bd)).fst.fst ++ [l4 pc (j5 vs ars 5 (x5 t.value))]).length : Int) (x5 (C1 m (c6.mk 9 0 ([c6.mk 2 ((d8 ars pc t.value (vs, bd)).fst.fst.length : Int) []] ++ ([c6.mk 1 0 []] ++ []))) (c6.mk 1 0 [])))])
abbrev E7 (ars : List Int) (t : c5) (vs : List Int) := j5 vs ars 5 (x5 t.value)
abbrev aS5 (ars : List Int) (t : c5) (pc : Int) (vs : List Int) (bd : List c5) := x5 (d8 ars pc t.value (vs, bd)).snd
abbrev ap6 (ars : List Int) (t : c5) (m : Int) (pc : Int) (vs : List Int) (bd : List c5) := m5 ars t.body m (l4 pc (E7 ars t vs)) ((d8 ars pc t.value (vs, bd)).fst.fst, [])
abbrev ap5 (ars : List Int) (t : c5) (m : Int) (pc : Int) (vs : List Int) (bd : List c5) := m5 ars t.els m (l4 pc (E7 ars t vs)) ((ap6 ars t m pc vs bd).fst, [])
abbrev aS6 (ars : List Int) (t : c5) (m : Int) (pc : Int) (vs : List Int) (bd : List c5) := x5 (C1 m (aS5 ars t pc vs bd) (c6.mk 1 0 []))
abbrev U1 : It := .box [.v (.slice none 0 0), .v (.slice none 0 0), .v (.slice none 0 0), .v (.slice none 0 0)]
abbrev T1 (ars : List Int) (t : c5) (r0 : List It) : List It := .dead :: dI ars :: .dead :: dE t.index.kids :: dE t.value.kids :: dT t.body :: dT t.els :: r0
abbrev V7 (ars : List Int) (t : c5) (pc : Int) (vs : List Int) (r0 : List (Nat × AV)) : List (Nat × AV) := (3, iA pc) :: (4, .ptr 7 0) :: (5, .ptr 8 0) :: (8, .ptr 9 0) :: (9, iA (E7 ars t vs)) :: r0
abbrev a94 (ars : List Int) (t : c5) (pc : Int) (vs : List Int) (bd : List c5) (r0 : List It) : List It := .box (sL t 3) :: U1 :: .box [iA (d8 ars pc t.value (vs, bd)).snd.kind, iA (d8 ars pc t.value (vs, bd)).snd.value, .ref 12] :: .row 106 (D.stmts (d8 ars pc t.value (vs, bd)).fst.snd) :: dE (d8 ars pc t.value (vs, bd)).snd.kids :: r0
theorem bU5 (ars : List Int) (nv dd : Nat) (t : c5) (k3 : t.kind = 3) (hh : D7 nv ars.length t = true) (hbb : t.body.all (j7 nv ars.length dd) = true) (hbe : t.els.all (j7 nv ars.length dd) = true)
    (hB : ∀ (tt : List c5) (m pc : Int) (vs : List Int) (bd : List c5), tt.all (j7 nv ars.length dd) = true → nv ≤ vs.length → vs.length + 4 * j6 tt ≤ 90000 → j6 bd + 130 * j6 tt ≤ 600000 → j9.ok Tryz.prog (lbC ars m pc vs bd tt))
    (hI : ∀ (tt : List c5) (m pc : Int) (vs : List Int) (bd : List c5), tt.all (j7 nv ars.length dd) = true → nv ≤ vs.length → vs.length + 4 * j6 tt ≤ 90000 → 130 * j6 tt ≤ 600000 → j9.ok Tryz.prog (bL7 ars m pc vs bd tt))
    (m pc : Int) (vs : List Int) (bd : List c5) (hv : nv ≤ vs.length) (r1 : vs.length + 4 * (1 + K3 t) ≤ 90000) (r2 : j6 bd + 130 * (1 + K3 t) ≤ 600000) : j9.ok Tryz.prog (b70 ars m pc vs bd t) := by
  refine E9 116 Tryz.func152 [.row 3 (D.ints vs), dI ars, .row 106 (D.stmts bd), dE t.index.kids, dE t.value.kids, dT t.body, dT t.els] [(0, .agg [.ref 0, .ref 1, .v (.slice none 0 0), .ref 2]), (1, sA t 3), (2, iA m), (3, iA pc)] fun G => ?_
  have hsz : K3 t = z7 t.index + z7 t.value + j6 t.body + j6 t.els := by cases t; rfl
  have hsh := bD0 (vs := vs) hh k3 hv; have hbd := bX9 (pc := pc) (bd := bd) hh k3 hv r1 r2; refine wp_seq (j8 G d9 [0, 1, 2, 3, 4, 5, 6, 7, 15, 23] [.row 3 (D.ints vs), dI ars, .row 106 (D.stmts bd), dE t.index.kids, dE t.value.kids, dT t.body, dT t.els, .box [.ref 0, .ref 1, .v (.slice none 0 0), .ref 2], .box (sL t 3), U1] [(2, iA m), (3, iA pc), (4, .ptr 7 0), (5, .ptr 8 0), (8, .ptr 9 0)] fun G => b6 (wp_seq (k8 G (s8 4 [0, 1, 4] (j9.lend (aa5 vs ars t.value.kind t.value.value t.value.kids (by assumption)) [.row 3])) [(9, iA (E7 ars t vs))] fun G => b6 (wp_seq (j8 G d9 [0, 1, 2, 3, 4, 5, 6, 7, 8, 9, 18] [.row 3 (D.ints vs), dI ars, .row 106 (D.stmts bd), dE t.index.kids, dE t.value.kids, dT t.body, dT t.els, .box [.ref 0, .ref 1, .v (.slice none 0 0), .ref 2], .box (sL t 3), U1, .box [iA 0, iA 0, .v (.slice none 0 0)]] ((2, iA m) :: (V7 ars t pc vs [(10, .ptr 10 0)])) fun G => b6 (wp_seq (j8 G (s8 4 [0, 1, 2, 4] (a77 ars pc t.value vs bd (by assumption) (by omega) (by omega))) [0, 1, 2, 3, 4, 5, 6, 7, 8, 9, 10, 43, 44, 45] (T1 ars t [.box [.ref 11, .ref 1, .v (.slice none 0 0), .ref 12], .box (sL t 3), U1, .box [iA (d8 ars pc t.value (vs, bd)).snd.kind, iA (d8 ars pc t.value (vs, bd)).snd.value, .ref 13], .row 3 (D.ints (d8 ars pc t.value (vs, bd)).fst.fst), .row 106 (D.stmts (d8 ars pc t.value (vs, bd)).fst.snd), dE (d8 ars pc t.value (vs, bd)).snd.kids]) ((2, iA m) :: (V7 ars t pc vs [(10, .ptr 10 0)])) fun G => b6 (wp_seq (wp_seq (k8 G (s8 1 [] (J4 (j5 vs ars 5 (x5 t.value)))) [(31, .v (.bool !(i8 (E7 ars t vs) && decide (j5 vs ars 5 (x5 t.value) % 2 = 1))))] fun G => b6 ?_)))))))))); cases h0 : (!(i8 (j5 vs ars (5 : Nat) (x5 t.value)) && decide (j5 vs ars (5 : Nat) (x5 t.value) % (2 : Int) = 1)))
  ·
   have q0 : ((i8 (j5 vs ars 5 (x5 t.value))) = true) ∧ (j5 vs ars 5 (x5 t.value) % 2 = 1) := (fun hq => And.imp (fun hq => (hq)) (fun hq => of_decide_eq_true hq) (Bool.and_eq_true_iff.1 hq)) (Eq.mp (ck2 _) h0); refine rF G _ h0 (wp_skip (b6 (wp_seq (k8 G d9 [(13, iA 0), (14, iA 0)] fun G => b6 (wp_seq (j8 G (s8 4 [11, 1, 12] (an3 ((d8 ars pc t.value (vs, bd)).fst.fst) ars ((d8 ars pc t.value (vs, bd)).fst.snd) (l4 pc (j5 vs ars 5 (x5 t.value))) (by omega))) [0, 1, 2, 3, 4, 5, 6, 7, 8, 9, 10, 12, 13, 46] (T1 ars t (.box [.ref 13, .ref 1, .v (.slice none 0 0), .ref 11] :: (a94 ars t pc vs bd [.row 3 (D.ints ((d8 ars pc t.value (vs, bd)).fst.fst ++ [l4 pc (E7 ars t vs)]))]))) ((2, iA m) :: (V7 ars t pc vs [(10, .ptr 10 0), (13, iA ((d8 ars pc t.value (vs, bd)).fst.fst.length : Int)), (14, iA 0)])) fun G => b6 (wp_seq (ag9 G (F9 (t4 4 [] (J2 0) (t4 5 [12, 46] (ak8 m ((d8 ars pc t.value (vs, bd)).snd.kind) ((d8 ars pc t.value (vs, bd)).snd.value) 1 0 ((d8 ars pc t.value (vs, bd)).snd.kids) ([])) (t4 6 [13, 1, 11, 54] (T8 ((d8 ars pc t.value (vs, bd)).fst.fst ++ [l4 pc (j5 vs ars 5 (x5 t.value))]) ars ((d8 ars pc t.value (vs, bd)).fst.snd) (((d8 ars pc t.value (vs, bd)).fst.fst.length : Int)) ((C1 m (x5 (d8 ars pc t.value (vs, bd)).snd) (c6.mk 1 0 [])).kind) ((C1 m (x5 (d8 ars pc t.value (vs, bd)).snd) (c6.mk 1 0 [])).value) ((C1 m (x5 (d8 ars pc t.value (vs, bd)).snd) (c6.mk 1 0 [])).kids) (by omega)) F8))) fz []) [0, 0, 0, 0, 0, 28, 63, 127] [0, 1, 2, 3, 4, 5, 6, 7, 8, 9, 13, 62] (T1 ars t [.box [.ref 10, .ref 1, .v (.slice none 0 0), .ref 11], .box (sL t 3), U1, .row 3 (D.ints ((d8 ars pc t.value (vs, bd)).fst.fst ++ [l4 pc (E7 ars t vs)])), .row 106 (D.stmts ((d8 ars pc t.value (vs, bd)).fst.snd ++ [W7 ((d8 ars pc t.value (vs, bd)).fst.fst.length : Int) (aS6 ars t m pc vs bd)]))]) ((2, iA m) :: (V7 ars t pc vs [(13, iA ((d8 ars pc t.value (vs, bd)).fst.fst.length : Int)), (14, iA 0)])) fun G => b6 (wp_seq (j8 G (s8 4 [10, 1, 11] (an3 ((d8 ars pc t.value (vs, bd)).fst.fst ++ [l4 pc (j5 vs ars 5 (x5 t.value))]) ars ((d8 ars pc t.value (vs, bd)).fst.snd ++ [W7 ((d8 ars pc t.value (vs, bd)).fst.fst.length : Int) (x5 (C1 m (c6.mk (d8 ars pc t.value (vs, bd)).snd.kind (d8 ars pc t.value (vs, bd)).snd.value (d8 ars pc t.value (vs, bd)).snd.kids) (c6.mk 1 0 [])))]) (l4 pc (j5 vs ars 5 (x5 t.value))) (by simp only [ch8, ci1, ci6]; omega))) [0, 1, 2, 3, 4, 5, 6, 7, 8, 9, 11, 44] (T1 ars t [.box [.ref 11, .ref 1, .v (.slice none 0 0), .ref 10], .box (sL t 3), U1, .row 106 (D.stmts ((d8 ars pc t.value (vs, bd)).fst.snd ++ [W7 ((d8 ars pc t.value (vs, bd)).fst.fst.length : Int) (aS6 ars t m pc vs bd)])), .row 3 (D.ints ((d8 ars pc t.value (vs, bd)).fst.fst ++ [l4 pc (E7 ars t vs)] ++ [l4 pc (E7 ars t vs)]))]) ((2, iA m) :: (V7 ars t pc vs [(13, iA ((d8 ars pc t.value (vs, bd)).fst.fst.length : Int)), (14, iA (((d8 ars pc t.value (vs, bd)).fst.fst ++ [l4 pc (E7 ars t vs)]).length : Int))])) fun G => ?_))))))))))
   refine b6 (wp_seq (ag9 G (F9 (t4 4 [] (an2 (((d8 ars pc t.value (vs, bd)).fst.fst.length : Int))) (t4 5 [] (J2 0) (t4 7 [60] (ad4 9 ([c6.mk 2 ((d8 ars pc t.value (vs, bd)).fst.fst.length : Int) []] ++ ([c6.mk 1 0 []] ++ []))) (t4 8 [] (J2 0) (t4 9 [60, 76] (ak8 m 9 0 1 0 ([c6.mk 2 ((d8 ars pc t.value (vs, bd)).fst.fst.length : Int) []] ++ ([c6.mk 1 0 []] ++ [])) ([])) (t4 10 [11, 1, 10, 84] (T8 ((d8 ars pc t.value (vs, bd)).fst.fst ++ [l4 pc (j5 vs ars 5 (x5 t.value))] ++ [l4 pc (j5 vs ars 5 (x5 t.value))]) ars ((d8 ars pc t.value (vs, bd)).fst.snd ++ [W7 ((d8 ars pc t.value (vs, bd)).fst.fst.length : Int) (x5 (C1 m (c6.mk (d8 ars pc t.value (vs, bd)).snd.kind (d8 ars pc t.value (vs, bd)).snd.value (d8 ars pc t.value (vs, bd)).snd.kids) (c6.mk 1 0 [])))]) ((((d8 ars pc t.value (vs, bd)).fst.fst ++ [l4 pc (j5 vs ars 5 (x5 t.value))]).length : Int)) ((C1 m (c6.mk 9 0 ([c6.mk 2 ((d8 ars pc t.value (vs, bd)).fst.fst.length : Int) []] ++ ([c6.mk 1 0 []] ++ []))) (c6.mk 1 0 [])).kind) ((C1 m (c6.mk 9 0 ([c6.mk 2 ((d8 ars pc t.value (vs, bd)).fst.fst.length : Int) []] ++ ([c6.mk 1 0 []] ++ []))) (c6.mk 1 0 [])).value) ((C1 m (c6.mk 9 0 ([c6.mk 2 ((d8 ars pc t.value (vs, bd)).fst.fst.length : Int) []] ++ ([c6.mk 1 0 []] ++ []))) (c6.mk 1 0 [])).kids) (by simp only [ch8, ci1, ci6]; omega)) F8)))))) fz []) [0, 0, 0, 0, 8, 24, 56, 120, 248, 508, 1023, 2047] [0, 1, 2, 3, 4, 5, 6, 7, 8, 9, 11, 92] (T1 ars t [.box [.ref 10, .ref 1, .v (.slice none 0 0), .ref 11], .box (sL t 3), U1, .row 3 (D.ints ((d8 ars pc t.value (vs, bd)).fst.fst ++ [l4 pc (E7 ars t vs)] ++ [l4 pc (E7 ars t vs)])), .row 106 (D.stmts ((d8 ars pc t.value (vs, bd)).fst.snd ++ [W7 ((d8 ars pc t.value (vs, bd)).fst.fst.length : Int) (aS6 ars t m pc vs bd)] ++ [W7 (((d8 ars pc t.value (vs, bd)).fst.fst ++ [l4 pc (E7 ars t vs)]).length : Int) (x5 (C1 m (c6.mk 9 0 ([c6.mk 2 ((d8 ars pc t.value (vs, bd)).fst.fst.length : Int) []] ++ ([c6.mk 1 0 []] ++ []))) (c6.mk 1 0 [])))]))]) (V7 ars t pc vs [(13, iA ((d8 ars pc t.value (vs, bd)).fst.fst.length : Int)), (14, iA (((d8 ars pc t.value (vs, bd)).fst.fst ++ [l4 pc (E7 ars t vs)]).length : Int))]) fun G => b6 (wp_seq (j8 G (s8 7 [10, 1, 5, 11] (hB t.body (((d8 ars pc t.value (vs, bd)).fst.fst.length : Int)) (l4 pc (j5 vs ars 5 (x5 t.value))) ((d8 ars pc t.value (vs, bd)).fst.fst ++ [l4 pc (j5 vs ars 5 (x5 t.value))] ++ [l4 pc (j5 vs ars 5 (x5 t.value))]) ((d8 ars pc t.value (vs, bd)).fst.snd ++ [W7 ((d8 ars pc t.value (vs, bd)).fst.fst.length : Int) (x5 (C1 m (c6.mk (d8 ars pc t.value (vs, bd)).snd.kind (d8 ars pc t.value (vs, bd)).snd.value (d8 ars pc t.value (vs, bd)).snd.kids) (c6.mk 1 0 [])))] ++ [W7 (((d8 ars pc t.value (vs, bd)).fst.fst ++ [l4 pc (j5 vs ars 5 (x5 t.value))]).length : Int) (x5 (C1 m (c6.mk 9 0 ([c6.mk 2 ((d8 ars pc t.value (vs, bd)).fst.fst.length : Int) []] ++ ([c6.mk 1 0 []] ++ []))) (c6.mk 1 0 [])))]) (by assumption) (by simp only [ch8, ci1, ci6]; omega) (by simp only [ch8, ci1, ci6]; omega) (b73 hh k3 hv r1 r2))) [0, 1, 2, 3, 4, 5, 6, 7, 8, 9, 68, 69] (T1 ars t [.box [.ref 10, .ref 1, .v (.slice none 0 0), .ref 11], .box (sL t 3), U1, .row 3 (D.ints (aE9 ars t m pc vs bd).fst), .row 106 (D.stmts (aE9 ars t m pc vs bd).snd)]) (V7 ars t pc vs [(14, iA (((d8 ars pc t.value (vs, bd)).fst.fst ++ [l4 pc (E7 ars t vs)]).length : Int))]) fun G => ?_))))
   refine b6 (wp_seq (j8 G (s8 7 [10, 1, 6, 11] (hB t.els ((((d8 ars pc t.value (vs, bd)).fst.fst ++ [l4 pc (j5 vs ars 5 (x5 t.value))]).length : Int)) (l4 pc (j5 vs ars 5 (x5 t.value))) ((m5 ars t.body ((d8 ars pc t.value (vs, bd)).fst.fst.length : Int) (l4 pc (j5 vs ars 5 (x5 t.value))) ((d8 ars pc t.value (vs, bd)).fst.fst ++ [l4 pc (j5 vs ars 5 (x5 t.value))] ++ [l4 pc (j5 vs ars 5 (x5 t.value))], (d8 ars pc t.value (vs, bd)).fst.snd ++ [W7 ((d8 ars pc t.value (vs, bd)).fst.fst.length : Int) (x5 (C1 m (c6.mk (d8 ars pc t.value (vs, bd)).snd.kind (d8 ars pc t.value (vs, bd)).snd.value (d8 ars pc t.value (vs, bd)).snd.kids) (c6.mk 1 0 [])))] ++ [W7 (((d8 ars pc t.value (vs, bd)).fst.fst ++ [l4 pc (j5 vs ars 5 (x5 t.value))]).length : Int) (x5 (C1 m (c6.mk 9 0 ([c6.mk 2 ((d8 ars pc t.value (vs, bd)).fst.fst.length : Int) []] ++ ([c6.mk 1 0 []] ++ []))) (c6.mk 1 0 [])))])).fst) ((m5 ars t.body ((d8 ars pc t.value (vs, bd)).fst.fst.length : Int) (l4 pc (j5 vs ars 5 (x5 t.value))) ((d8 ars pc t.value (vs, bd)).fst.fst ++ [l4 pc (j5 vs ars 5 (x5 t.value))] ++ [l4 pc (j5 vs ars 5 (x5 t.value))], (d8 ars pc t.value (vs, bd)).fst.snd ++ [W7 ((d8 ars pc t.value (vs, bd)).fst.fst.length : Int) (x5 (C1 m (c6.mk (d8 ars pc t.value (vs, bd)).snd.kind (d8 ars pc t.value (vs, bd)).snd.value (d8 ars pc t.value (vs, bd)).snd.kids) (c6.mk 1 0 [])))] ++ [W7 (((d8 ars pc t.value (vs, bd)).fst.fst ++ [l4 pc (j5 vs ars 5 (x5 t.value))]).length : Int) (x5 (C1 m (c6.mk 9 0 ([c6.mk 2 ((d8 ars pc t.value (vs, bd)).fst.fst.length : Int) []] ++ ([c6.mk 1 0 []] ++ []))) (c6.mk 1 0 [])))])).snd) (by assumption) ((bX8 hbb hh k3 hv r1 r2).1) ((bX8 hbb hh k3 hv r1 r2).2.1) ((bX8 hbb hh k3 hv r1 r2).2.2))) [0, 1, 2, 3, 4, 5, 6, 9, 68, 69] (T1 ars t [.box [.ref 8, .ref 1, .v (.slice none 0 0), .ref 9], .row 3 (D.ints (m5 ars t.els (((d8 ars pc t.value (vs, bd)).fst.fst ++ [l4 pc (E7 ars t vs)]).length : Int) (l4 pc (E7 ars t vs)) (aE9 ars t m pc vs bd)).fst), .row 106 (D.stmts (m5 ars t.els (((d8 ars pc t.value (vs, bd)).fst.fst ++ [l4 pc (E7 ars t vs)]).length : Int) (l4 pc (E7 ars t vs)) (aE9 ars t m pc vs bd)).snd)]) [(8, .ptr 7 0)] fun G => ?_))
   refine b6 (wp_ret ?_); exact K8 G [0, 1, 2, 3, 4, 5, 6, 8, 9] (by show _ = mR [0, 1, 2, 3, 4, 5, 6, 8, 9] [.dead, dI ars, .dead, dE t.index.kids, dE t.value.kids, dT t.body, dT t.els, .row 3 (D.ints (H3 ars t m pc (vs, bd)).fst), .row 106 (D.stmts (H3 ars t m pc (vs, bd)).snd)]; have e1 : ((H3 ars t m pc (vs, bd)).fst : List Int) = ((m5 ars t.els (((d8 ars pc t.value (vs, bd)).fst.fst ++ [l4 pc (j5 vs ars 5 (x5 t.value))]).length : Int) (l4 pc (j5 vs ars 5 (x5 t.value))) (m5 ars t.body ((d8 ars pc t.value (vs, bd)).fst.fst.length : Int) (l4 pc (j5 vs ars 5 (x5 t.value))) ((d8 ars pc t.value (vs, bd)).fst.fst ++ [l4 pc (j5 vs ars 5 (x5 t.value))] ++ [l4 pc (j5 vs ars 5 (x5 t.value))], (d8 ars pc t.value (vs, bd)).fst.snd ++ [W7 ((d8 ars pc t.value (vs, bd)).fst.fst.length : Int) (x5 (C1 m (c6.mk (d8 ars pc t.value (vs, bd)).snd.kind (d8 ars pc t.value (vs, bd)).snd.value (d8 ars pc t.value (vs, bd)).snd.kids) (c6.mk 1 0 [])))] ++ [W7 (((d8 ars pc t.value (vs, bd)).fst.fst ++ [l4 pc (j5 vs ars 5 (x5 t.value))]).length : Int) (x5 (C1 m (c6.mk 9 0 ([c6.mk 2 ((d8 ars pc t.value (vs, bd)).fst.fst.length : Int) []] ++ ([c6.mk 1 0 []] ++ []))) (c6.mk 1 0 [])))]))).fst) := (b76 k3 (by with_reducible assumption)); have e2 : ((H3 ars t m pc (vs, bd)).snd : List c5) = ((m5 ars t.els (((d8 ars pc t.value (vs, bd)).fst.fst ++ [l4 pc (E7 ars t vs)]).length : Int) (l4 pc (E7 ars t vs)) (aE9 ars t m pc vs bd)).snd) := (congrArg Prod.snd (b77 k3 (by with_reducible assumption))); (first | rw [e1, e2] | simp only [e1, e2]) <;> rfl)
  ·
   have q0 : ((i8 (j5 vs ars 5 (x5 t.value))) = false) ∨ (¬ (j5 vs ars 5 (x5 t.value) % 2 = 1)) := (fun hq => Or.imp (fun hq => (hq)) (fun hq => of_decide_eq_false hq) (Bool.and_eq_false_iff.1 hq)) (Eq.mp (cj4 _) h0); refine rT G _ h0 (wp_seq (j8 G d9 [0, 1, 2, 3, 4, 5, 6, 7, 8, 9, 10, 11, 12, 13, 14, 22] (T1 ars t [.box [.ref 11, .ref 1, .v (.slice none 0 0), .ref 12], .box (sL t 3), U1, .box [iA (d8 ars pc t.value (vs, bd)).snd.kind, iA (d8 ars pc t.value (vs, bd)).snd.value, .ref 13], .row 3 (D.ints (d8 ars pc t.value (vs, bd)).fst.fst), .row 106 (D.stmts (d8 ars pc t.value (vs, bd)).fst.snd), dE (d8 ars pc t.value (vs, bd)).snd.kids, .tree (D.stmts []), .tree (D.stmts [])]) ((2, iA m) :: (V7 ars t pc vs [(10, .ptr 10 0), (11, .tref 14), (12, .tref 15)])) fun G => b6 (wp_seq (j8 G (s8 7 [11, 1, 12, 5] (hI t.body m (l4 pc (j5 vs ars 5 (x5 t.value))) ((d8 ars pc t.value (vs, bd)).fst.fst) ((d8 ars pc t.value (vs, bd)).fst.snd) (by assumption) (by omega) (by omega) (by omega))) [0, 1, 2, 3, 4, 5, 6, 7, 8, 9, 10, 12, 13, 15, 72, 73] (T1 ars t (.box [.ref 14, .ref 1, .v (.slice none 0 0), .ref 11] :: (a94 ars t pc vs bd [.tree (D.stmts []), .row 3 (D.ints (ap6 ars t m pc vs bd).fst), dT (ap6 ars t m pc vs bd).snd]))) ((2, iA m) :: (V7 ars t pc vs [(10, .ptr 10 0), (11, .ref 15), (12, .tref 13)])) fun G => b6 (wp_seq (j8 G (s8 7 [14, 1, 11, 6] (hI t.els m (l4 pc (j5 vs ars 5 (x5 t.value))) ((m5 ars t.body m (l4 pc (j5 vs ars 5 (x5 t.value))) ((d8 ars pc t.value (vs, bd)).fst.fst, [])).fst) ((d8 ars pc t.value (vs, bd)).fst.snd) (by assumption) ((b75 hbb hh k3 hv r1 r2).1) ((b75 hbb hh k3 hv r1 r2).2) (by omega))) [0, 1, 2, 3, 4, 5, 6, 7, 8, 9, 10, 11, 12, 15, 72, 73] (T1 ars t (.box [.ref 14, .ref 1, .v (.slice none 0 0), .ref 11] :: (a94 ars t pc vs bd [dT (ap6 ars t m pc vs bd).snd, .row 3 (D.ints (ap5 ars t m pc vs bd).fst), dT (ap5 ars t m pc vs bd).snd]))) ((2, iA m) :: (V7 ars t pc vs [(10, .ptr 10 0), (11, .ref 13), (12, .ref 15)])) fun G => b6 (wp_seq (N7 G d9 [0, 1, 2, 3, 4, 5, 6, 7, 8, 9, 10, 12, 14, 72] (T1 ars t [.box [.ref 12, .ref 1, .v (.slice none 0 0), .ref 13], .box (sL t 3), U1, .box [iA (d8 ars pc t.value (vs, bd)).snd.kind, iA (d8 ars pc t.value (vs, bd)).snd.value, .ref 11], dE (d8 ars pc t.value (vs, bd)).snd.kids, .row 3 (D.ints (ap5 ars t m pc vs bd).fst), .row 106 (D.stmts ((d8 ars pc t.value (vs, bd)).fst.snd ++ ([c5.mk 3 0 (c6.mk 0 0 []) (aS5 ars t pc vs bd) 0 (ap6 ars t m pc vs bd).snd (ap5 ars t m pc vs bd).snd] ++ [])))]) ((2, iA m) :: (V7 ars t pc vs [(10, .ptr 10 0)])) (aP ((d8 ars pc t.value (vs, bd)).fst.snd.length + 1) 152 []) (aK (by omega) ci7) fun G => ?_))))))))
   refine b6 (wp_seq (j8 G d9 (rg 14) (T1 ars t [.box [.ref 12, .ref 1, .v (.slice none 0 0), .ref 13], .box (sL t 3), .box [.ref 12, .ref 1, .v (.slice none 0 0), .ref 13], .box [iA (d8 ars pc t.value (vs, bd)).snd.kind, iA (d8 ars pc t.value (vs, bd)).snd.value, .ref 11], dE (d8 ars pc t.value (vs, bd)).snd.kids, .row 3 (D.ints (ap5 ars t m pc vs bd).fst), .row 106 (D.stmts ((d8 ars pc t.value (vs, bd)).fst.snd ++ ([c5.mk 3 0 (c6.mk 0 0 []) (aS5 ars t pc vs bd) 0 (ap6 ars t m pc vs bd).snd (ap5 ars t m pc vs bd).snd] ++ [])))]) ((2, iA m) :: (V7 ars t pc vs [(10, .ptr 10 0)])) fun G => b6 (wp_ret (l6 ?_)))); exact K8 G [0, 1, 2, 3, 4, 5, 6, 12, 13] (by show _ = mR [0, 1, 2, 3, 4, 5, 6, 12, 13] (T1 ars t [.row 3 (D.ints (H3 ars t m pc (vs, bd)).fst), .row 106 (D.stmts (H3 ars t m pc (vs, bd)).snd)]); have e1 : ((H3 ars t m pc (vs, bd)).fst : List Int) = ((m5 ars t.els m (l4 pc (j5 vs ars 5 (x5 t.value))) ((m5 ars t.body m (l4 pc (j5 vs ars 5 (x5 t.value))) ((d8 ars pc t.value (vs, bd)).fst.fst, [])).fst, [])).fst) := (b78 k3 (by with_reducible assumption)); have e2 : ((H3 ars t m pc (vs, bd)).snd : List c5) = ((d8 ars pc t.value (vs, bd)).fst.snd ++ ([c5.mk 3 0 (c6.mk 0 0 []) (aS5 ars t pc vs bd) 0 (ap6 ars t m pc vs bd).snd (ap5 ars t m pc vs bd).snd] ++ [])) := (congrArg Prod.snd (b79 k3 (by with_reducible assumption))); (first | rw [e1, e2] | simp only [e1, e2]) <;> rfl)
abbrev xB (ars : List Int) (m pc : Int) (vs : List Int) (bd : List c5) (ss : List c5) (k : Nat) : LnS := m5 ars (ss.take k) m pc (vs, bd)
theorem bH9 {ss : List c5} {k : Nat} (hk : k < ss.length) : j6 (ss.take k) + (1 + K3 (ss.getD k ch2)) ≤ j6 ss := by
 have h1 := w6 (ss.take (k + 1)) (ss.drop (k + 1))
 rw [List.take_append_drop, m8 _ _ hk, w6, ← m6 (d := ch2) hk] at h1
 simp only [j6] at h1
 omega
section
variable {ars vs : List Int} {bd : List c5} {m pc : Int} {ss : List c5} {nv d k : Nat}
theorem b16 (hs : ss.all (j7 nv ars.length d) = true) (hv : nv ≤ vs.length) : GrS (j6 (ss.take k)) (vs, bd) (xB ars m pc vs bd ss k) :=
 aW7 ars (ss.take k) m pc (vs, bd) (ci2.2 fun x hx => ci2.1 hs x (List.mem_of_mem_take hx)) hv
theorem aM7 (hs : ss.all (j7 nv ars.length d) = true) (hv : nv ≤ vs.length) (r1 : vs.length + 4 * j6 ss ≤ 90000) (r2 : j6 bd + 130 * j6 ss ≤ 600000) (hk : k < ss.length) : nv ≤ (xB ars m pc vs bd ss k).1.length ∧ (xB ars m pc vs bd ss k).1.length + 4 * (1 + K3 (ss.getD k ch2)) ≤ 90000 ∧ j6 (xB ars m pc vs bd ss k).2 + 130 * (1 + K3 (ss.getD k ch2)) ≤ 600000 := by
 have g := b16 (bd := bd) (m := m) (pc := pc) (k := k) hs hv
 have h1 := bH9 hk
 have a := g.lo; have b := g.hi; have c := g.st
 simp only at a b c
 omega
abbrev yB (ars : List Int) (m pc : Int) (vs : List Int) (bd : List c5) (ss : List c5) (k : Nat) : LnS × c6 := d8 ars pc (ss.getD k ch2).value ((xB ars m pc vs bd ss k).1, (xB ars m pc vs bd ss k).2)
theorem aZ2 (hs : ss.all (j7 nv ars.length (d + 1)) = true) (hv : nv ≤ vs.length) (r1 : vs.length + 4 * j6 ss ≤ 90000) (r2 : j6 bd + 130 * j6 ss ≤ 600000) (hk : k < ss.length) (h4 : ¬ (ss.getD k ch2).kind = 4) :
  i5 (xB ars m pc vs bd ss k).1.length ars.length 5 (ss.getD k ch2).value = true ∧ (xB ars m pc vs bd ss k).1.length + (1 + z7 (ss.getD k ch2).value) ≤ 100000 ∧ j6 (xB ars m pc vs bd ss k).2 + 40 * (1 + z7 (ss.getD k ch2).value) ≤ 700000 ∧
  nv ≤ (yB ars m pc vs bd ss k).1.1.length ∧ (yB ars m pc vs bd ss k).1.1.length ≤ 100000 ∧ (yB ars m pc vs bd ss k).1.2.length + 10 ≤ 700000 ∧ i5 (yB ars m pc vs bd ss k).1.1.length ars.length 5 (yB ars m pc vs bd ss k).2 = true := by
 have hb := aM7 (m := m) (pc := pc) hs hv r1 r2 hk
 have hh := (aK6 hs hk).1
 have hsz : K3 (ss.getD k ch2) = z7 (ss.getD k ch2).index + z7 (ss.getD k ch2).value + j6 (ss.getD k ch2).body + j6 (ss.getD k ch2).els := by
  generalize ss.getD k ch2 = s; cases s; rfl
 have hsh := E8 (na := ars.length) hb.1 5 _ (A0 hh h4)
 obtain ⟨g, g2, -⟩ := am1 ars pc ars.length 5 (ss.getD k ch2).value (xB ars m pc vs bd ss k) hsh
 have a : (xB ars m pc vs bd ss k).1.length ≤ (yB ars m pc vs bd ss k).1.1.length := g.lo
 have b : (yB ars m pc vs bd ss k).1.1.length ≤ (xB ars m pc vs bd ss k).1.length + (1 + z7 (ss.getD k ch2).value) := g.hi
 have c : j6 (yB ars m pc vs bd ss k).1.2 ≤ j6 (xB ars m pc vs bd ss k).2 + 40 * (1 + z7 (ss.getD k ch2).value) := g.st
 have h5 := L4 (yB ars m pc vs bd ss k).1.2
 exact ⟨hsh, by omega, by omega, by omega, by omega, by omega, g2⟩
theorem bu7 (hs : ss.all (j7 nv ars.length (d + 1)) = true) (hk : k < ss.length) (h2 : (ss.getD k ch2).kind = 2) {n : Nat} (hn : nv ≤ n) : i5 n ars.length 5 (ss.getD k ch2).index = true ∧ z7 (ss.getD k ch2).index ≤ 1048576 := by
 obtain ⟨q1, -, q3⟩ := aJ8 (aK6 hs hk).1 h2
 exact ⟨E8 hn 5 _ q3, by rw [aD3 q1]; omega⟩
theorem aF6 (hk : k < ss.length) : xB ars m pc vs bd ss (k + 1) = H3 ars (ss.getD k ch2) m pc (xB ars m pc vs bd ss k) := br6 hk
theorem ai3 (s : c5) : j6 s.body ≤ K3 s ∧ j6 s.els ≤ K3 s ∧ z7 s.value ≤ K3 s := by
 cases s; simp only [K3, c5.body, c5.els, c5.value]; omega
abbrev sK (ss : List c5) (k : Nat) : c5 := ss.getD k ch2
theorem aE7 (hs : ss.all (j7 nv ars.length (d + 1)) = true) (hk : k < ss.length) (h3 : ¬ (sK ss k).kind = 3) (h4 : ¬ (sK ss k).kind = 4) (h5 : ¬ (sK ss k).kind = 5) (h1 : ¬ (sK ss k).kind = 1) : (sK ss k).kind = 2 := by
 by_cases h2 : (sK ss k).kind = 2
 ·exact h2
 ·have hh := (aK6 hs hk).1
  rw [ao9 ⟨h1, h2, h3, h4, h5⟩] at hh; cases hh
theorem b20 (hk : k < ss.length) (h4 : (sK ss k).kind = 4) : xB ars m pc vs bd ss (k + 1) = ((m5 ars (sK ss k).body m pc ((xB ars m pc vs bd ss k).1, [])).1, (xB ars m pc vs bd ss k).2 ++ [⟨4, 0, ⟨0, 0, []⟩, ⟨0, 0, []⟩, (sK ss k).count, (m5 ars (sK ss k).body m pc ((xB ars m pc vs bd ss k).1, [])).2, []⟩]) := (aF6 hk).trans (ln4 h4)
theorem b18 (hk : k < ss.length) (h5 : (sK ss k).kind = 5) : xB ars m pc vs bd ss (k + 1) = ((yB ars m pc vs bd ss k).1.1, (yB ars m pc vs bd ss k).1.2 ++ [⟨5, (sK ss k).target, ⟨0, 0, []⟩, etE (yB ars m pc vs bd ss k).2, 0, [], []⟩]) := by
 rw [show etE (yB ars m pc vs bd ss k).2 = (yB ars m pc vs bd ss k).2 from c6.eta _]
 exact (aF6 hk).trans (ln5 h5)
theorem b23 (hk : k < ss.length) (h1 : (sK ss k).kind = 1) : xB ars m pc vs bd ss (k + 1) = ((yB ars m pc vs bd ss k).1.1, (yB ars m pc vs bd ss k).1.2 ++ [W7 (sK ss k).target (etE (C1 m (etE (yB ars m pc vs bd ss k).2) ⟨2, (sK ss k).target, []⟩))]) := by
 rw [show etE (yB ars m pc vs bd ss k).2 = (yB ars m pc vs bd ss k).2 from c6.eta _, show ∀ e, etE e = e from c6.eta]
 exact (aF6 hk).trans (ln1 h1)
theorem bQ2 (hk : k < ss.length) (h2 : (sK ss k).kind = 2) (h : (i8 (j5 (yB ars m pc vs bd ss k).1.1 ars 5 (etE (sK ss k).index)) && decide (j5 (yB ars m pc vs bd ss k).1.1 ars 5 (etE (sK ss k).index) % 2 = 1)) = false) : xB ars m pc vs bd ss (k + 1) = ((yB ars m pc vs bd ss k).1.1, (yB ars m pc vs bd ss k).1.2 ++ [⟨2, (sK ss k).target, etE (sK ss k).index, etE (C1 m (etE (yB ars m pc vs bd ss k).2) ⟨3, (sK ss k).target, [etE (sK ss k).index]⟩), 0, [], []⟩]) := by
 simp only [show ∀ e, etE e = e from c6.eta] at h ⊢
 exact (aF6 hk).trans (b69 h2 h)
theorem bQ1 (hk : k < ss.length) (h2 : (sK ss k).kind = 2) (h : (i8 (j5 (yB ars m pc vs bd ss k).1.1 ars 5 (etE (sK ss k).index)) && decide (j5 (yB ars m pc vs bd ss k).1.1 ars 5 (etE (sK ss k).index) % 2 = 1)) = true) : xB ars m pc vs bd ss (k + 1) = ((yB ars m pc vs bd ss k).1.1 ++ [l4 (j5 (yB ars m pc vs bd ss k).1.1 ars 5 (etE (yB ars m pc vs bd ss k).2)) pc], (yB ars m pc vs bd ss k).1.2 ++ [W7 ((yB ars m pc vs bd ss k).1.1.length : Int) (etE (yB ars m pc vs bd ss k).2)] ++ stL ((yB ars m pc vs bd ss k).1.1.length : Int) (sK ss k).target (etE (sK ss k).index) m 4) := by
 simp only [show ∀ e, etE e = e from c6.eta] at h ⊢
 exact (aF6 hk).trans (b68 h2 h)
theorem b19 (hk : k < ss.length) (h4 : (sK ss k).kind = 4) : (xB ars m pc vs bd ss (k + 1)).1 = (m5 ars (sK ss k).body m pc ((xB ars m pc vs bd ss k).1, [])).1 := by rw [b20 hk h4]
theorem b17 (hk : k < ss.length) (h5 : (sK ss k).kind = 5) : (xB ars m pc vs bd ss (k + 1)).1 = (yB ars m pc vs bd ss k).1.1 := by rw [b18 hk h5]
theorem b22 (hk : k < ss.length) (h1 : (sK ss k).kind = 1) : (xB ars m pc vs bd ss (k + 1)).1 = (yB ars m pc vs bd ss k).1.1 := by rw [b23 hk h1]
theorem b21 (hk : k < ss.length) (h2 : (sK ss k).kind = 2) (h : (i8 (j5 (yB ars m pc vs bd ss k).1.1 ars 5 (etE (sK ss k).index)) && decide (j5 (yB ars m pc vs bd ss k).1.1 ars 5 (etE (sK ss k).index) % 2 = 1)) = false) : (xB ars m pc vs bd ss (k + 1)).1 = (yB ars m pc vs bd ss k).1.1 := by rw [bQ2 hk h2 h]
theorem bv3 (hk : ss.length ≤ k) : m5 ars ss m pc (vs, bd) = xB ars m pc vs bd ss k := by unfold xB; rw [ci8 hk]
end
abbrev X8 (ars : List Int) (ss : List c5) (m : Int) (pc : Int) (vs : List Int) (bd : List c5) (k : Nat) := x5 (d8 ars pc (ss.getD k ch2).value (xB ars m pc vs bd ss k)).snd
abbrev y7 (ars : List Int) (ss : List c5) (m : Int) (pc : Int) (vs : List Int) (bd : List c5) (k : Nat) := d8 ars pc (ss.getD k ch2).value (xB ars m pc vs bd ss k)
abbrev bh9 (ars : List Int) (ss : List c5) (m : Int) (pc : Int) (vs : List Int) (bd : List c5) (k : Nat) := C1 m (X8 ars ss m pc vs bd k) (c6.mk 3 (ss.getD k ch2).target [x5 (ss.getD k ch2).index])
abbrev al3 (ss : List c5) (k : Nat) := x5 (ss.getD k ch2).index
abbrev O6 : It := .box [.v (.slice none 0 0), .v (.slice none 0 0), .v (.slice none 0 0), .v (.slice none 0 0)]
abbrev ad7 : It := .box [.ref 6, .ref 1, .v (.slice none 0 0), .ref 7]
abbrev J5 (m : Int) (pc : Int) (r0 : List (Nat × AV)) : List (Nat × AV) := (1, .ref 2) :: (2, iA m) :: (3, iA pc) :: (4, .ptr 4 0) :: (8, .ptr 5 0) :: r0
abbrev ap2 (ss : List c5) (k : Nat) (r0 : List It) : List It := dE (ss.getD k ch2).index.kids :: dE (ss.getD k ch2).value.kids :: dT (ss.getD k ch2).body :: dT (ss.getD k ch2).els :: r0
abbrev aS0 (ars : List Int) (ss : List c5) (m : Int) (pc : Int) (vs : List Int) (bd : List c5) (k : Nat) (r0 : List It) : List It := .dead :: dI ars :: dT ss :: .dead :: ad7 :: O6 :: .row 3 (D.ints (xB ars m pc vs bd ss k).fst) :: .row 106 (D.stmts (xB ars m pc vs bd ss k).snd) :: r0
theorem aP8 (ars : List Int) (nv dd : Nat) (ss : List c5) (hs : ss.all (j7 nv ars.length (dd + 1)) = true)
    (hF : ∀ (t : c5), t.kind = 3 → D7 nv ars.length t = true → t.body.all (j7 nv ars.length dd) = true → t.els.all (j7 nv ars.length dd) = true → 0 < ss.length → ∀ (m pc : Int) (vs : List Int) (bd : List c5), nv ≤ vs.length → vs.length + 4 * (1 + K3 t) ≤ 90000 → j6 bd + 130 * (1 + K3 t) ≤ 600000 → j9.ok Tryz.prog (b70 ars m pc vs bd t))
    (hI : ∀ (tt : List c5) (m pc : Int) (vs : List Int) (bd : List c5), tt.all (j7 nv ars.length dd) = true → 0 < ss.length → nv ≤ vs.length → vs.length + 4 * j6 tt ≤ 90000 → 130 * j6 tt ≤ 600000 → j9.ok Tryz.prog (bL7 ars m pc vs bd tt))
    (m pc : Int) (vs : List Int) (bd : List c5) (hv : nv ≤ vs.length) (r1 : vs.length + 4 * j6 ss ≤ 90000) (r2 : j6 bd + 130 * j6 ss ≤ 600000) : j9.ok Tryz.prog (lbC ars m pc vs bd ss) := by
  have hcp := bN9; refine E9 123 Tryz.func79 [.row 3 (D.ints vs), dI ars, dT ss, .row 106 (D.stmts bd)] [(0, .agg [.ref 0, .ref 1, .v (.slice none 0 0), .ref 3]), (1, .ref 2), (2, iA m), (3, iA pc)] fun G => ?_; have hl := L4 ss; refine wp_seq (j8 G d9 [0, 1, 2, 3, 4, 12] [.row 3 (D.ints vs), dI ars, dT ss, .row 106 (D.stmts bd), .box [.ref 0, .ref 1, .v (.slice none 0 0), .ref 3], O6] (J5 m pc []) fun G => b6 (wp_seq (wp_seq (D2 G d9 (J5 m pc [(9, iA 0)]) fun G => b6 (wp_block ?_))))); obtain ⟨ρ, G⟩ := G.shift 0 6 [.dead, dI ars, dT ss, .row 106 (D.stmts bd), .box [.ref 6, .ref 1, .v (.slice none 0 0), .ref 3], .box [.v (.slice none 0 0), .v (.slice none 0 0), .v (.slice none 0 0), .v (.slice none 0 0)], .row 3 (D.ints vs)] (J5 m pc [(9, iA 0)]); obtain ⟨ρ, G⟩ := G.shift 3 7 [.dead, dI ars, dT ss, .dead, .box [.ref 6, .ref 1, .v (.slice none 0 0), .ref 7], .box [.v (.slice none 0 0), .v (.slice none 0 0), .v (.slice none 0 0), .v (.slice none 0 0)], .row 3 (D.ints vs), .row 106 (D.stmts bd)] (J5 m pc [(9, iA 0)]); refine t0 (κ := Nat) (fun k => k ≤ ss.length) (fun k => ss.length - k) (fun k => [.dead, dI ars, dT ss, .dead, .box [.ref 6, .ref 1, .v (.slice none 0 0), .ref 7], .box [.v (.slice none 0 0), .v (.slice none 0 0), .v (.slice none 0 0), .v (.slice none 0 0)], .row 3 (.ints (xB ars m pc vs bd ss k).1), .row 106 (.stmts (xB ars m pc vs bd ss k).2)]) (fun k => [(1, .ref 2), (2, iA m), (3, iA pc), (4, .ptr 4 0), (8, .ptr 5 0), (9, iA k)]) 0 (by omega) (t7.at G _ _) ?_; clear G; intro k ρ a w hp G; replace G := t7.at G (aS0 ars ss m pc vs bd k []) (J5 m pc [(9, iA k)]); refine wp_seq (wp_seq (k8 G d9 [(16, bA (decide ((k : Int) < ss.length)))] fun G => b6 (rcD G (fun h0 q0 => ?_) fun h0 q0 => ?_)))
  · refine wp_exit (s7 (s7 (r8 (b6 (wp_seq (j8 G d9 [0, 1, 2, 3, 5, 6, 7] [.dead, dI ars, dT ss, .dead, .box [.ref 5, .ref 1, .v (.slice none 0 0), .ref 6], .row 3 (D.ints (xB ars m pc vs bd ss k).fst), .row 106 (D.stmts (xB ars m pc vs bd ss k).snd)] [(8, .ptr 4 0)] fun G => b6 (wp_ret ?_))))))); exact K8 G [0, 1, 2, 3, 5, 6] (by show _ = mR [0, 1, 2, 3, 5, 6] [.dead, dI ars, dT ss, .dead, .row 3 (D.ints (m5 ars ss m pc (vs, bd)).fst), .row 106 (D.stmts (m5 ars ss m pc (vs, bd)).snd)]; have e1 : ((m5 ars ss m pc (vs, bd)).fst : List Int) = ((xB ars m pc vs bd ss k).fst) := (congrArg Prod.fst (bv3 (by omega))); have e2 : ((m5 ars ss m pc (vs, bd)).snd : List c5) = ((xB ars m pc vs bd ss k).snd) := (congrArg Prod.snd (bv3 (by omega))); (first | rw [e1, e2] | simp only [e1, e2]) <;> rfl)
  ·
   refine wp_skip (b6 (wp_seq (wp_block (wp_seq (N7 G d9 [0, 1, 2, 3, 4, 5, 6, 7, 32, 33, 34, 35, 40] (aS0 ars ss m pc vs bd k (ap2 ss k [.box (sL (ss.getD k ch2) 8)])) (J5 m pc [(9, iA k), (10, .ptr 12 0)]) (iX k k ss.length []) (iK (by omega) ci7) fun G => b6 (wp_seq (wp_seq (k8 G d9 [(25, bA ((ss.getD k ch2).kind == 3))] fun G => b6 (J7 G (fun h1 q1 => ?_) fun h1 q1 => ?_)))))))))
   ·
    refine wp_skip (b6 (wp_seq (wp_seq (k8 G d9 [(33, bA ((ss.getD k ch2).kind == 4))] fun G => b6 (J7 G (fun h2 q2 => ?_) fun h2 q2 => ?_)))))
    ·
     refine wp_skip (b6 (wp_seq (j8 G d9 [0, 1, 2, 3, 4, 5, 6, 7, 8, 9, 10, 11, 12, 21] (aS0 ars ss m pc vs bd k (ap2 ss k [.box (sL (ss.getD k ch2) 8), .box [iA 0, iA 0, .v (.slice none 0 0)]])) (J5 m pc [(9, iA k), (10, .ptr 12 0), (12, .ptr 13 0)]) fun G => b6 (wp_seq (j8 G (s8 4 [6, 1, 7, 9] (a77 ars pc ((ss.getD k ch2).value) ((xB ars m pc vs bd ss k).fst) ((xB ars m pc vs bd ss k).snd) ((aZ2 hs hv r1 r2 (by omega) (by omega)).1) (by have h9 := aM7 (m := m) (pc := pc) hs hv r1 r2 (show k < ss.length by omega); have h8 := ai3 (ss.getD k ch2); omega) (by have h9 := aM7 (m := m) (pc := pc) hs hv r1 r2 (show k < ss.length by omega); have h8 := ai3 (ss.getD k ch2); omega))) [0, 1, 2, 3, 4, 5, 8, 9, 10, 11, 12, 13, 46, 47, 48] (.dead :: dI ars :: dT ss :: .dead :: .box [.ref 12, .ref 1, .v (.slice none 0 0), .ref 13] :: O6 :: (ap2 ss k [.box (sL (ss.getD k ch2) 6), .box (eL (y7 ars ss m pc vs bd k).snd 14), .row 3 (D.ints (y7 ars ss m pc vs bd k).fst.fst), .row 106 (D.stmts (y7 ars ss m pc vs bd k).fst.snd), dE (y7 ars ss m pc vs bd k).snd.kids])) (J5 m pc [(9, iA k), (10, .ptr 10 0), (12, .ptr 11 0)]) fun G => b6 (wp_block (wp_seq (k8 G d9 [(82, bA ((ss.getD k ch2).kind == 5))] fun G => b6 (J7 G (fun h3 q3 => ?_) fun h3 q3 => ?_)))))))))
     ·
      refine wp_seq (k8 G d9 [(95, bA ((ss.getD k ch2).kind == 1))] fun G => b6 (J7 G (fun h4 q4 => ?_) fun h4 q4 => ?_))
      ·
       refine wp_seq (k8 G (F9 (t4 4 [12, 1, 6] (j9.lend (aa5 ((d8 ars pc (ss.getD k ch2).value (xB ars m pc vs bd ss k)).fst.fst) ars ((ss.getD k ch2).index.kind) ((ss.getD k ch2).index.value) ((ss.getD k ch2).index.kids) (by rw [c6.eta]; exact (bu7 hs (by omega) (aE7 hs (by omega) (by omega) (by omega) (by omega) (by omega)) (aZ2 hs hv r1 r2 (by omega) (by omega)).2.2.2.1).1)) [.row 3]) (t4 5 [] (J4 (j5 (d8 ars pc (ss.getD k ch2).value (xB ars m pc vs bd ss k)).fst.fst ars 5 (x5 (ss.getD k ch2).index))) F8)) fz []) [(109, bA (i8 (j5 (y7 ars ss m pc vs bd k).fst.fst ars 5 (al3 ss k)) && decide (j5 (y7 ars ss m pc vs bd k).fst.fst ars 5 (al3 ss k) % 2 = 1)))] fun G => b6 ?_); cases h5 : (i8 (j5 (d8 ars pc (ss.getD k ch2).value (xB ars m pc vs bd ss k)).fst.fst ars (5 : Nat) (x5 (ss.getD k ch2).index)) && decide (j5 (d8 ars pc (ss.getD k ch2).value (xB ars m pc vs bd ss k)).fst.fst ars (5 : Nat) (x5 (ss.getD k ch2).index) % (2 : Int) = 1))
       ·
        have q5 : ((i8 (j5 (d8 ars pc (ss.getD k ch2).value (xB ars m pc vs bd ss k)).fst.fst ars 5 (x5 (ss.getD k ch2).index))) = false) ∨ (¬ (j5 (d8 ars pc (ss.getD k ch2).value (xB ars m pc vs bd ss k)).fst.fst ars 5 (x5 (ss.getD k ch2).index) % 2 = 1)) := Or.imp (fun hq => (hq)) (fun hq => of_decide_eq_false hq) (Bool.and_eq_false_iff.1 h5); refine rF G _ h5 (O1 G (F9 (t4 6 [6] (hcp ((ss.getD k ch2).index) ((bu7 hs (by omega) (aE7 hs (by omega) (by omega) (by omega) (by omega) (by omega)) (ch9 _)).2)) (t4 13 [6] (hcp ((ss.getD k ch2).index) ((bu7 hs (by omega) (aE7 hs (by omega) (by omega) (by omega) (by omega) (by omega)) (ch9 _)).2)) (t4 14 [119] (au6 ((ss.getD k ch2).target) ((ss.getD k ch2).index.kind) ((ss.getD k ch2).index.value) ((ss.getD k ch2).index.kids)) (t4 15 [14, 127] (ak8 m ((d8 ars pc (ss.getD k ch2).value (xB ars m pc vs bd ss k)).snd.kind) ((d8 ars pc (ss.getD k ch2).value (xB ars m pc vs bd ss k)).snd.value) 3 ((ss.getD k ch2).target) ((d8 ars pc (ss.getD k ch2).value (xB ars m pc vs bd ss k)).snd.kids) ([x5 (ss.getD k ch2).index])) F8)))) fz []) [0, 1, 0, 4, 0, 16, 48, 0, 0, 0, 512, 0, 2048, 6256, 15984, 32752, 65532, 131068, 262143, 524287, 1048575] [0, 1, 2, 3, 4, 5, 12, 159] [.dead, dI ars, dT ss, .dead, ad7, O6, .row 3 (D.ints (y7 ars ss m pc vs bd k).fst.fst), .row 106 (D.stmts ((y7 ars ss m pc vs bd k).fst.snd ++ ([c5.mk 2 (ss.getD k ch2).target (al3 ss k) (x5 (bh9 ars ss m pc vs bd k)) 0 [] []] ++ [])))] (J5 m pc [(9, iA k)]) (aP ((d8 ars pc (ss.getD k ch2).value (xB ars m pc vs bd ss k)).fst.snd.length + ([c5.mk (2 : Int) (ss.getD k ch2).target (x5 (ss.getD k ch2).index) (x5 (C1 m (c6.mk (d8 ars pc (ss.getD k ch2).value (xB ars m pc vs bd ss k)).snd.kind (d8 ars pc (ss.getD k ch2).value (xB ars m pc vs bd ss k)).snd.value (d8 ars pc (ss.getD k ch2).value (xB ars m pc vs bd ss k)).snd.kids) (c6.mk (3 : Int) (ss.getD k ch2).target [c6.mk (ss.getD k ch2).index.kind (ss.getD k ch2).index.value (ss.getD k ch2).index.kids]))) (0 : Int) [] []] ++ []).length) 152 []) (aK (by have h9 : (d8 ars pc (ss.getD k ch2).value ((xB ars m pc vs bd ss k).1, (xB ars m pc vs bd ss k).2)).1.2.length + 10 ≤ 700000 := (aZ2 (m := m) (pc := pc) hs hv r1 r2 (show k < ss.length by omega) (by omega)).2.2.2.2.2.1; have h7 : (d8 ars pc (ss.getD k ch2).value (xB ars m pc vs bd ss k)).1.2.length + 10 ≤ 700000 := h9; simp only [ch8, ci1, ci6]; omega) ci7) fun G => ?_)
        refine l0 (l0 (b6 (E0 G d9 [(9, iA ((k : Int) + 1))] [wO ((k : Int) + 1)] (o1 (by omega)) fun G => b6 ?_))); exact I9 G (k + 1) (by omega) (by omega) (rg 8) (by have e1 : ((xB ars m pc vs bd ss (k + 1)).fst : List Int) = ((d8 ars pc (ss.getD k ch2).value (xB ars m pc vs bd ss k)).fst.fst) := (b21 (by omega) (aE7 hs (by omega) (by omega) (by omega) (by omega) (by omega)) (by with_reducible assumption)); have e2 : ((xB ars m pc vs bd ss (k + 1)).snd : List c5) = ((y7 ars ss m pc vs bd k).fst.snd ++ ([c5.mk 2 (ss.getD k ch2).target (al3 ss k) (x5 (bh9 ars ss m pc vs bd k)) 0 [] []] ++ [])) := (congrArg Prod.snd (bQ2 (by omega) (aE7 hs (by omega) (by omega) (by omega) (by omega) (by omega)) (by with_reducible assumption))); (first | rw [e1, e2] | simp only [e1, e2]) <;> rfl)
       · have q5 : ((i8 (j5 (d8 ars pc (ss.getD k ch2).value (xB ars m pc vs bd ss k)).fst.fst ars 5 (x5 (ss.getD k ch2).index))) = true) ∧ (j5 (d8 ars pc (ss.getD k ch2).value (xB ars m pc vs bd ss k)).fst.fst ars 5 (x5 (ss.getD k ch2).index) % 2 = 1) := And.imp (fun hq => (hq)) (fun hq => of_decide_eq_true hq) (Bool.and_eq_true_iff.1 h5); refine rT G _ h5 (j8 G (s8 5 [12, 1, 13, 6, 7, 8, 9, 14] (bs7 ars ((d8 ars pc (ss.getD k ch2).value (xB ars m pc vs bd ss k)).fst.fst) ((d8 ars pc (ss.getD k ch2).value (xB ars m pc vs bd ss k)).fst.snd) m pc (ss.getD k ch2) ((d8 ars pc (ss.getD k ch2).value (xB ars m pc vs bd ss k)).snd) (by rw [c6.eta]; exact (aZ2 hs hv r1 r2 (by omega) (by omega)).2.2.2.2.2.2) ((aZ2 hs hv r1 r2 (by omega) (by omega)).2.2.2.2.1) (by have h9 : (d8 ars pc (ss.getD k ch2).value ((xB ars m pc vs bd ss k).1, (xB ars m pc vs bd ss k).2)).1.2.length + 10 ≤ 700000 := (aZ2 (m := m) (pc := pc) hs hv r1 r2 (show k < ss.length by omega) (by omega)).2.2.2.2.2.1; have h7 : (d8 ars pc (ss.getD k ch2).value (xB ars m pc vs bd ss k)).1.2.length + 10 ≤ 700000 := h9; omega))) [0, 1, 2, 3, 4, 5, 55, 56] [.dead, dI ars, dT ss, .dead, ad7, O6, .row 3 (D.ints ((y7 ars ss m pc vs bd k).fst.fst ++ [l4 (j5 (y7 ars ss m pc vs bd k).fst.fst ars 5 (X8 ars ss m pc vs bd k)) pc])), .row 106 (D.stmts ((y7 ars ss m pc vs bd k).fst.snd ++ [W7 ((y7 ars ss m pc vs bd k).fst.fst.length : Int) (X8 ars ss m pc vs bd k)] ++ stL ((y7 ars ss m pc vs bd k).fst.fst.length : Int) (ss.getD k ch2).target (al3 ss k) m 4))] (J5 m pc [(9, iA k)]) fun G => l0 (l0 (b6 (E0 G d9 [(9, iA ((k : Int) + 1))] [wO ((k : Int) + 1)] (o1 (by omega)) fun G => b6 ?_)))); exact I9 G (k + 1) (by omega) (by omega) (rg 8) (by have e1 : ((xB ars m pc vs bd ss (k + 1)).fst : List Int) = ((y7 ars ss m pc vs bd k).fst.fst ++ [l4 (j5 (y7 ars ss m pc vs bd k).fst.fst ars 5 (X8 ars ss m pc vs bd k)) pc]) := (congrArg Prod.fst (bQ1 (by omega) (aE7 hs (by omega) (by omega) (by omega) (by omega) (by omega)) (by with_reducible assumption))); have e2 : ((xB ars m pc vs bd ss (k + 1)).snd : List c5) = ((y7 ars ss m pc vs bd k).fst.snd ++ [W7 ((y7 ars ss m pc vs bd k).fst.fst.length : Int) (X8 ars ss m pc vs bd k)] ++ stL ((y7 ars ss m pc vs bd k).fst.fst.length : Int) (ss.getD k ch2).target (al3 ss k) m 4) := (congrArg Prod.snd (bQ1 (by omega) (aE7 hs (by omega) (by omega) (by omega) (by omega) (by omega)) (by with_reducible assumption))); (first | rw [e1, e2] | simp only [e1, e2]) <;> rfl)
      · refine ag9 G (F9 (t4 7 [] (an2 ((ss.getD k ch2).target)) (t4 8 [14, 71] (ak8 m ((d8 ars pc (ss.getD k ch2).value (xB ars m pc vs bd ss k)).snd.kind) ((d8 ars pc (ss.getD k ch2).value (xB ars m pc vs bd ss k)).snd.value) 2 ((ss.getD k ch2).target) ((d8 ars pc (ss.getD k ch2).value (xB ars m pc vs bd ss k)).snd.kids) ([])) (t4 9 [12, 1, 13, 79] (T8 ((d8 ars pc (ss.getD k ch2).value (xB ars m pc vs bd ss k)).fst.fst) ars ((d8 ars pc (ss.getD k ch2).value (xB ars m pc vs bd ss k)).fst.snd) ((ss.getD k ch2).target) ((C1 m (x5 (d8 ars pc (ss.getD k ch2).value (xB ars m pc vs bd ss k)).snd) (c6.mk 2 (ss.getD k ch2).target [])).kind) ((C1 m (x5 (d8 ars pc (ss.getD k ch2).value (xB ars m pc vs bd ss k)).snd) (c6.mk 2 (ss.getD k ch2).target [])).value) ((C1 m (x5 (d8 ars pc (ss.getD k ch2).value (xB ars m pc vs bd ss k)).snd) (c6.mk 2 (ss.getD k ch2).target [])).kids) (by have h9 : (d8 ars pc (ss.getD k ch2).value ((xB ars m pc vs bd ss k).1, (xB ars m pc vs bd ss k).2)).1.2.length + 10 ≤ 700000 := (aZ2 (m := m) (pc := pc) hs hv r1 r2 (show k < ss.length by omega) (by omega)).2.2.2.2.2.1; have h7 : (d8 ars pc (ss.getD k ch2).value (xB ars m pc vs bd ss k)).1.2.length + 10 ≤ 700000 := h9; omega)) F8))) fz []) [0, 0, 2, 0, 0, 0, 32, 96, 248, 511, 1023] [0, 1, 2, 3, 4, 5, 12, 87] [.dead, dI ars, dT ss, .dead, ad7, O6, .row 3 (D.ints (y7 ars ss m pc vs bd k).fst.fst), .row 106 (D.stmts ((y7 ars ss m pc vs bd k).fst.snd ++ [W7 (ss.getD k ch2).target (x5 (C1 m (X8 ars ss m pc vs bd k) (c6.mk 2 (ss.getD k ch2).target [])))]))] (J5 m pc [(9, iA k)]) fun G => l0 (l0 (b6 (E0 G d9 [(9, iA ((k : Int) + 1))] [wO ((k : Int) + 1)] (o1 (by omega)) fun G => b6 ?_))); exact I9 G (k + 1) (by omega) (by omega) (rg 8) (by have e1 : ((xB ars m pc vs bd ss (k + 1)).fst : List Int) = ((d8 ars pc (ss.getD k ch2).value (xB ars m pc vs bd ss k)).fst.fst) := (b22 (by omega) (by omega)); have e2 : ((xB ars m pc vs bd ss (k + 1)).snd : List c5) = ((y7 ars ss m pc vs bd k).fst.snd ++ [W7 (ss.getD k ch2).target (x5 (C1 m (X8 ars ss m pc vs bd k) (c6.mk 2 (ss.getD k ch2).target [])))]) := (congrArg Prod.snd (b23 (by omega) (by omega))); (first | rw [e1, e2] | simp only [e1, e2]) <;> rfl)
     · refine N7 G d9 [0, 1, 2, 3, 4, 5, 12, 71] [.dead, dI ars, dT ss, .dead, ad7, O6, .row 3 (D.ints (y7 ars ss m pc vs bd k).fst.fst), .row 106 (D.stmts ((y7 ars ss m pc vs bd k).fst.snd ++ ([c5.mk 5 (ss.getD k ch2).target (c6.mk 0 0 []) (X8 ars ss m pc vs bd k) 0 [] []] ++ [])))] (J5 m pc [(9, iA k)]) (aP ((d8 ars pc (ss.getD k ch2).value (xB ars m pc vs bd ss k)).fst.snd.length + ([c5.mk (5 : Int) (ss.getD k ch2).target (c6.mk (0 : Int) (0 : Int) []) (x5 (d8 ars pc (ss.getD k ch2).value (xB ars m pc vs bd ss k)).snd) (0 : Int) [] []] ++ []).length) 152 []) (aK (by have h9 : (d8 ars pc (ss.getD k ch2).value ((xB ars m pc vs bd ss k).1, (xB ars m pc vs bd ss k).2)).1.2.length + 10 ≤ 700000 := (aZ2 (m := m) (pc := pc) hs hv r1 r2 (show k < ss.length by omega) (by omega)).2.2.2.2.2.1; have h7 : (d8 ars pc (ss.getD k ch2).value (xB ars m pc vs bd ss k)).1.2.length + 10 ≤ 700000 := h9; simp only [ch8, ci1, ci6]; omega) ci7) fun G => l0 (l0 (b6 (E0 G d9 [(9, iA ((k : Int) + 1))] [wO ((k : Int) + 1)] (o1 (by omega)) fun G => b6 ?_))); exact I9 G (k + 1) (by omega) (by omega) (rg 8) (by have e1 : ((xB ars m pc vs bd ss (k + 1)).fst : List Int) = ((d8 ars pc (ss.getD k ch2).value (xB ars m pc vs bd ss k)).fst.fst) := (b17 (by omega) (by omega)); have e2 : ((xB ars m pc vs bd ss (k + 1)).snd : List c5) = ((y7 ars ss m pc vs bd k).fst.snd ++ ([c5.mk 5 (ss.getD k ch2).target (c6.mk 0 0 []) (X8 ars ss m pc vs bd k) 0 [] []] ++ [])) := (congrArg Prod.snd (b18 (by omega) (by omega))); (first | rw [e1, e2] | simp only [e1, e2]) <;> rfl)
    ·
     refine wp_seq (j8 G d9 (rg 14) (aS0 ars ss m pc vs bd k (ap2 ss k [.box (sL (ss.getD k ch2) 8), .tree (D.stmts [])])) (J5 m pc [(9, iA k), (10, .ptr 12 0), (11, .tref 13)]) fun G => b6 (wp_seq (j8 G (s8 5 [6, 1, 7, 10] (hI ((ss.getD k ch2).body) m pc ((xB ars m pc vs bd ss k).fst) ((xB ars m pc vs bd ss k).snd) ((aK6 hs (by omega)).2.1) (by omega) (by have h9 := aM7 (m := m) (pc := pc) hs hv r1 r2 (show k < ss.length by omega); have h8 := ai3 (ss.getD k ch2); omega) (by have h9 := aM7 (m := m) (pc := pc) hs hv r1 r2 (show k < ss.length by omega); have h8 := ai3 (ss.getD k ch2); omega) (by have h9 := aM7 (m := m) (pc := pc) hs hv r1 r2 (show k < ss.length by omega); have h8 := ai3 (ss.getD k ch2); omega))) [0, 1, 2, 3, 4, 5, 7, 8, 9, 10, 11, 12, 54, 55] (.dead :: dI ars :: dT ss :: .dead :: .box [.ref 12, .ref 1, .v (.slice none 0 0), .ref 6] :: O6 :: .row 106 (D.stmts (xB ars m pc vs bd ss k).snd) :: (ap2 ss k [.box (sL (ss.getD k ch2) 7), .row 3 (D.ints (m5 ars (ss.getD k ch2).body m pc ((xB ars m pc vs bd ss k).fst, [])).fst), dT (m5 ars (ss.getD k ch2).body m pc ((xB ars m pc vs bd ss k).fst, [])).snd])) (J5 m pc [(9, iA k), (10, .ptr 11 0), (11, .ref 13)]) fun G => b6 (wp_seq (N7 G d9 [0, 1, 2, 3, 4, 5, 7, 8, 9, 10, 11, 12, 70] (.dead :: dI ars :: dT ss :: .dead :: .box [.ref 11, .ref 1, .v (.slice none 0 0), .ref 12] :: O6 :: (ap2 ss k [.box (sL (ss.getD k ch2) 6), .row 3 (D.ints (m5 ars (ss.getD k ch2).body m pc ((xB ars m pc vs bd ss k).fst, [])).fst), .row 106 (D.stmts ((xB ars m pc vs bd ss k).snd ++ ([c5.mk 4 0 (c6.mk 0 0 []) (c6.mk 0 0 []) (ss.getD k ch2).count (m5 ars (ss.getD k ch2).body m pc ((xB ars m pc vs bd ss k).fst, [])).snd []] ++ [])))])) (J5 m pc [(9, iA k), (10, .ptr 10 0)]) (aP ((xB ars m pc vs bd ss k).snd.length + ([c5.mk (4 : Int) (0 : Int) (c6.mk (0 : Int) (0 : Int) []) (c6.mk (0 : Int) (0 : Int) []) (ss.getD k ch2).count (m5 ars (ss.getD k ch2).body m pc ((xB ars m pc vs bd ss k).fst, [])).snd []] ++ []).length) 152 []) (aK (by have h9 := aM7 (m := m) (pc := pc) hs hv r1 r2 (show k < ss.length by omega); have h8 := L4 (xB ars m pc vs bd ss k).2; simp only [ch8, ci1, ci6]; omega) ci7) fun G => b6 (wp_exit (s7 (r8 (b6 (N7 G d9 [0, 1, 2, 3, 4, 5, 11, 12] [.dead, dI ars, dT ss, .dead, ad7, O6, .row 3 (D.ints (m5 ars (ss.getD k ch2).body m pc ((xB ars m pc vs bd ss k).fst, [])).fst), .row 106 (D.stmts ((xB ars m pc vs bd ss k).snd ++ ([c5.mk 4 0 (c6.mk 0 0 []) (c6.mk 0 0 []) (ss.getD k ch2).count (m5 ars (ss.getD k ch2).body m pc ((xB ars m pc vs bd ss k).fst, [])).snd []] ++ [])))] (J5 m pc [(9, iA ((k : Int) + 1))]) [wO ((k : Int) + 1)] (o1 (by omega)) fun G => ?_))))))))))
     refine b6 ?_; exact I9 G (k + 1) (by omega) (by omega) (rg 8) (by have e1 : ((xB ars m pc vs bd ss (k + 1)).fst : List Int) = ((m5 ars (ss.getD k ch2).body m pc ((xB ars m pc vs bd ss k).fst, [])).fst) := (b19 (by omega) (by omega)); have e2 : ((xB ars m pc vs bd ss (k + 1)).snd : List c5) = ((xB ars m pc vs bd ss k).snd ++ ([c5.mk 4 0 (c6.mk 0 0 []) (c6.mk 0 0 []) (ss.getD k ch2).count (m5 ars (ss.getD k ch2).body m pc ((xB ars m pc vs bd ss k).fst, [])).snd []] ++ [])) := (congrArg Prod.snd (b20 (by omega) (by omega))); (first | rw [e1, e2] | simp only [e1, e2]) <;> rfl)
   · refine wp_seq (j8 G (s8 4 [6, 1, 7, 8, 9, 10, 11] (hF (ss.getD k ch2) (by assumption) ((aK6 hs (by omega)).1) ((aK6 hs (by omega)).2.1) ((aK6 hs (by omega)).2.2) (by omega) m pc ((xB ars m pc vs bd ss k).fst) ((xB ars m pc vs bd ss k).snd) (by have h9 := aM7 (m := m) (pc := pc) hs hv r1 r2 (show k < ss.length by omega); have h8 := ai3 (ss.getD k ch2); omega) (by have h9 := aM7 (m := m) (pc := pc) hs hv r1 r2 (show k < ss.length by omega); have h8 := ai3 (ss.getD k ch2); omega) (by have h9 := aM7 (m := m) (pc := pc) hs hv r1 r2 (show k < ss.length by omega); have h8 := ai3 (ss.getD k ch2); omega))) [0, 1, 2, 3, 4, 5, 8, 9, 10, 11, 12, 45, 46] (.dead :: dI ars :: dT ss :: .dead :: .box [.ref 11, .ref 1, .v (.slice none 0 0), .ref 12] :: O6 :: (ap2 ss k [.box (sL (ss.getD k ch2) 6), .row 3 (D.ints (H3 ars (ss.getD k ch2) m pc (xB ars m pc vs bd ss k)).fst), .row 106 (D.stmts (H3 ars (ss.getD k ch2) m pc (xB ars m pc vs bd ss k)).snd)])) (J5 m pc [(9, iA k), (10, .ptr 10 0)]) fun G => b6 (wp_exit (s7 (r8 (b6 (N7 G d9 [0, 1, 2, 3, 4, 5, 11, 12] [.dead, dI ars, dT ss, .dead, ad7, O6, .row 3 (D.ints (H3 ars (ss.getD k ch2) m pc (xB ars m pc vs bd ss k)).fst), .row 106 (D.stmts (H3 ars (ss.getD k ch2) m pc (xB ars m pc vs bd ss k)).snd)] (J5 m pc [(9, iA ((k : Int) + 1))]) [wO ((k : Int) + 1)] (o1 (by omega)) fun G => b6 ?_)))))); exact I9 G (k + 1) (by omega) (by omega) (rg 8) (by have e1 : ((xB ars m pc vs bd ss (k + 1)).fst : List Int) = ((H3 ars (ss.getD k ch2) m pc (xB ars m pc vs bd ss k)).fst) := (congrArg Prod.fst (aF6 (by omega))); have e2 : ((xB ars m pc vs bd ss (k + 1)).snd : List c5) = ((H3 ars (ss.getD k ch2) m pc (xB ars m pc vs bd ss k)).snd) := (congrArg Prod.snd (aF6 (by omega))); (first | rw [e1, e2] | simp only [e1, e2]) <;> rfl)
theorem l7.sel {ι : Type} {φ ψ : Nat → Prop} {w0 w : World} {F : ι → Rs} {ρ : Nat → Value} {S S1 : List It} {js : List Nat} (M : l7 φ ψ w0 w (p8 F ρ (s6 S))) (hn : js.Nodup) (hl : js.length = S1.length) (hS : js.map (s6 S) = S1.map (It.ren (nth js))) : l7 φ ψ w0 w (p8 F (fun i => ρ (nth js i)) (s6 S1)) := by
 refine M.map (fun k : ι ⊕ Nat => (match k with | .inl i => some (.inl i) | .inr i => if i < js.length then some (.inr (nth js i)) else none : Option (ι ⊕ Nat))) ?_ ?_
 ·intro k k' x h1 h2
  match k, k' with
  | .inl i, .inl i' => simp at h1 h2; rw [← h1] at h2; simpa using h2.symm
  | .inl i, .inr j => simp only at h1 h2; cases h1; split at h2 <;> simp at h2
  | .inr j, .inl i => simp only at h1 h2; cases h2; split at h1 <;> simp at h1
  | .inr j, .inr j' =>
   simp at h1 h2
   obtain ⟨f1, f2⟩ := h1
   obtain ⟨g1, g2⟩ := h2
   rw [← f2] at g2
   have hj := Sum.inr.inj g2
   have e1 := ch6 f1
   have e2 := ch6 g1
   rw [I1 e2, I1 e1] at hj
   have := (List.getElem?_inj f1 hn).1 (e1.trans (by rw [← hj]; exact e2.symm))
   rw [this]
 ·intro k
  match k with
  | .inl i => exact .inl ⟨_, rfl, rfl⟩
  | .inr i =>
   by_cases hlt : i < js.length
   ·refine .inl ⟨.inr (nth js i), by simp [hlt], ?_⟩
    have h1 := congrArg (·[i]?) hS
    have hlt' : i < S1.length := by omega
    simp only [List.getElem?_map, ch6 hlt, ch6 hlt', Option.map_some, Option.some.injEq] at h1
    simp only [p8]
    rw [aj9 hlt', I1 (ch6 hlt), h1, ← It.res_ren, I1 (ch6 hlt)]
   ·refine .inr ?_
    simp only [p8]
    rw [y8 (by omega)]
    rfl
theorem j9.nilArg {P : Program} {f : FuncId} {args args0 : List AV} {pre post post' : List It} {res res' : AV} {e : TypeId} {d : D} (hc : j9.ok P ⟨f, args0, pre ++ [.row e d], post, res⟩) (k : Nat) (js : List Nat) (hd : D.nil k = some d) (ha : args = AV.denL false pre.length args0) (hid : (Z9 pre.length (AV.idsL args) && pre.all (fun x => Z9 pre.length x.ids) && nodupB js && natEq js.length post'.length && bR4 pre.length js) = true) (hS : js.map (s6 post) = post'.map (It.ren (nth js))) (hr : res = res'.ren (nth js)) : j9.ok P ⟨f, args, pre, post', res'⟩ := by
 intro ι φ ψ w0 w F ρ M
 simp only [ch4, natEq, beq_iff_eq] at hid
 obtain ⟨⟨⟨⟨h1, h2⟩, h3⟩, h4⟩, h5⟩ := hid
 have hz := D.nil_len hd
 have hvals := (AV.vals_den (ρ := ρ) (t := false) (n := pre.length) (z := .slice none 0 0) (by simp) args0 (by rw [← ha]; exact E3 h1)).1
 have hlt : ∀ j, j < pre.length → s6 (pre ++ [.row e d]) j = s6 pre j := fun j hj => by simp [s6, ch7, ci9 hj]
 have hids : ∀ j, ∀ i ∈ (s6 pre j).ids, i < pre.length := fun j => by
  by_cases hj : j < pre.length
  ·rw [aj9 hj]
   exact E3 (ci2.1 h2 _ (cj1 hj))
  ·rw [y8 (by omega)]; intro i hi; cases hi
 have M1 : l7 φ ψ w0 w (p8 F (fun j => if j = pre.length then .slice none 0 0 else ρ j) (s6 (pre ++ [.row e d]))) := by
  refine l7.put M (.inr pre.length) (fun k hk => ?_) (D4.refl _ _) ?_ ?_
  ·cases k with
   | inl i => rfl
   | inr j =>
    simp only [p8]
    rcases Nat.lt_trichotomy j pre.length with h | h | h
    ·rw [hlt j h]
     exact It.res_congr _ (fun i hi => if_neg (by have := hids j i hi; omega)) (.inr (.inr (if_neg (by omega))))
    ·exact absurd (by rw [h]) hk
    ·rw [y8 (show (pre ++ [It.row e d]).length ≤ j by simp; omega), y8 (show pre.length ≤ j by omega)]; rfl
  ·have : s6 (pre ++ [.row e d]) pre.length = .row e d := by simp [s6, ch7]
   simp only [p8, this, It.res, if_true]
   refine ⟨fun xs => RW.nice d xs, [], ?_, RW.nil hz _⟩
   rw [hz]; exact World.ownsRow_nil _ _ _ _
  ·intro g hg
   have : s6 (pre ++ [.row e d]) pre.length = .row e d := by simp [s6, ch7]
   simp only [p8, this, It.res, if_true] at hg
   cases hg
 have h := hc ι φ ψ w0 w F _ M1
 simp only [hvals, ← ha] at h
 refine h.mono ?_
 rintro x w' ⟨ρ2, g1, rfl, M2⟩
 have hk : ∀ i, i < pre.length → nth js i = i := fun i hi => by
  have := ci2.1 h5 i (cl5.2 hi)
  simp only [ch4, natEq, beq_iff_eq] at this
  exact this.1
 refine ⟨fun i => ρ2 (nth js i), fun i hi => ?_, ?_, M2.sel (aq5 h3) h4 hS⟩
 ·have hi : i < pre.length := hi
  simp only [hk i hi]
  rw [g1 i (by simp; omega), if_neg (by omega)]
 ·show Ending.returned (res.val ρ2) = .returned (res'.val _)
  rw [hr, AV.val_ren]
theorem bB1 {ars vs : List Int} {m pc : Int} {ss : List c5} (h : j9.ok Tryz.prog (lbC ars m pc vs [] ss)) : j9.ok Tryz.prog (lnC ars m pc vs ss) :=
 j9.nilArg (pre := [qI vs, dI ars, dT ss]) h 10 [0, 1, 2, 4, 5] rfl rfl rfl rfl rfl
theorem aJ0 (ars : List Int) (nv : Nat) : ∀ (dd : Nat) (tt : List c5) (m pc : Int) (vs : List Int) (bd : List c5), tt.all (j7 nv ars.length dd) = true → nv ≤ vs.length → vs.length + 4 * j6 tt ≤ 90000 → j6 bd + 130 * j6 tt ≤ 600000 → j9.ok Tryz.prog (lbC ars m pc vs bd tt)
 | 0, tt, m, pc, vs, bd, hs, hv, r1, r2 => by
  have h0 : tt = [] := by
   cases tt with
   | nil => rfl
   | cons a r => simp [j7] at hs
  subst h0
  exact aP8 ars nv 0 [] rfl (fun _ _ _ _ _ h => absurd h (by simp)) (fun _ _ _ _ _ _ h => absurd h (by simp)) m pc vs bd hv r1 r2
 | dd + 1, tt, m, pc, vs, bd, hs, hv, r1, r2 => by
  have hB := aJ0 ars nv dd
  have hI : ∀ (tt : List c5) (m pc : Int) (vs : List Int) (bd : List c5), tt.all (j7 nv ars.length dd) = true → nv ≤ vs.length → vs.length + 4 * j6 tt ≤ 90000 → 130 * j6 tt ≤ 600000 → j9.ok Tryz.prog (bL7 ars m pc vs bd tt) := fun tt m pc vs bd h1 h2 h3 h4 => bp7 ars m pc vs bd tt (bB1 (hB tt m pc vs [] h1 h2 h3 (by simpa [j6] using h4)))
  exact aP8 ars nv dd tt hs (fun t k3 hh hbb hbe _ m pc vs bd hv r1 r2 => bU5 ars nv dd t k3 hh hbb hbe hB hI m pc vs bd hv r1 r2) (fun tt m pc vs bd h1 _ h2 h3 h4 => hI tt m pc vs bd h1 h2 h3 h4) m pc vs bd hv r1 r2
abbrev by5 (p : i6) : i6 := ⟨(m5 p.arrays p.body (-1) 0 (p.vars, [])).1, p.arrays, (m5 p.arrays p.body (-1) 0 (p.vars, [])).2⟩
theorem bW6 {p : i6} (h : (W6 p false).1 = 0) (h2 : m0 (by5 p) = true) : okL p = true := bR0 h h2
theorem bW5 {p : i6} (h2 : m0 (by5 p) = false) : okL p = false := bR1 h2
theorem bX5 {p : i6} (h : (W6 p false).1 = 0) (h2 : m0 (by5 p) = true) : G9 p = by5 p := bR2 (bR0 h h2)
theorem bX4 {p : i6} (h2 : m0 (by5 p) = false) : G9 p = ⟨[], [], []⟩ := bl7 (bR1 h2)
theorem bE6 (p : i6) (hp : m0 p = true) : j9.ok Tryz.prog (lnC p.arrays (-1) 0 p.vars p.body) := by
 have h := ac5 hp
 exact bB1 (aJ0 p.arrays p.vars.length 5 p.body (-1) 0 p.vars [] (aw7 hp).2.2.2 (ch9 _) (by omega) (by simp only [j6]; omega))
abbrev ap1 (r0 : List (Nat × AV)) : List (Nat × AV) := (1, .ptr 3 0) :: (2, .ptr 4 0) :: (3, bA false) :: r0
theorem aV2 (p : i6) (hb : p.size ≤ 1048576) (hp : ¬ (W6 p false).1 = 0) : j9.ok Tryz.prog ⟨27, [pA 0], pS p, pS p ++ pS (G9 p), .tup [pA 3, bA (okL p)]⟩ := by
 refine E9 43 Tryz.func27 [dI p.vars, dI p.arrays, dT p.body] [(0, pA 0)] fun G => ?_; have hno := b54 hp
 have hb1 : j6 p.body ≤ 1048576 := by unfold i6.size at hb; omega
 refine wp_seq (j8 G d9 [0, 1, 2, 3, 11] [dI p.vars, dI p.arrays, dT p.body, .box (pL 0), .box [.v (.slice none 0 0), .v (.slice none 0 0), .v (.slice none 0 0)]] (ap1 []) fun G => b6 (wp_seq (k8 G (s8 1 [0, 1, 2] (Y3 p.vars p.arrays p.body (by assumption))) [(4, iA (W6 (i6.mk p.vars p.arrays p.body) false).fst)] fun G => b6 (wp_seq (wp_seq (D2 G d9 (ap1 [(15, bA ((W6 (i6.mk p.vars p.arrays p.body) false).fst != 0))]) fun G => b6 ?_)))))); cases h0 : ((W6 (i6.mk p.vars p.arrays p.body) false).fst != 0)
 ·have q0 := bne_eq_false_iff_eq.1 h0; exact False.elim (hp (by with_reducible assumption))
 ·have q0 := bne_iff_ne.1 h0; refine rT G _ h0 (wp_seq (D2 G d9 (ap1 []) fun G => b6 (wp_ret (l6 ?_)))); obtain ⟨ρ, G⟩ := G.nil 5 0 (.ints []) 1 [dI p.vars, dI p.arrays, dT p.body, .box (pL 0), .box [.ref 5, .v (.slice none 0 0), .v (.slice none 0 0)]] (ap1 []); obtain ⟨ρ, G⟩ := G.nil 6 0 (.ints []) 1 [dI p.vars, dI p.arrays, dT p.body, .box (pL 0), .box [.ref 5, .ref 6, .v (.slice none 0 0)], .row 0 (D.ints [])] (ap1 []); obtain ⟨ρ, G⟩ := G.nil 7 0 (.stmts []) 10 [dI p.vars, dI p.arrays, dT p.body, .box (pL 0), .box (pL 5), .row 0 (D.ints []), .row 0 (D.ints [])] (ap1 []); obtain ⟨ρ, G⟩ := G.frz [.no, .no, .no, .no, .no, .row 0, .row 0, .row 0] [dI p.vars, dI p.arrays, dT p.body, .box (pL 0), .box (pL 5), dI [], dI [], dT []] (ap1 []); exact U2 (.tup [pA 5, bA false]) G [0, 1, 2, 5, 6, 7] (by have e1 : (okL p : Bool) = (false) := (by assumption); (first | rw [e1] | simp only [e1]) <;> rfl) (by show _ = mR [0, 1, 2, 5, 6, 7] [dI p.vars, dI p.arrays, dT p.body, dI (G9 p).vars, dI (G9 p).arrays, dT (G9 p).body]; rw [bl7 hno] <;> rfl)
abbrev aS4 : It := .box [.v (.slice none 0 0), .v (.slice none 0 0), .v (.slice none 0 0)]
abbrev av1 (p : i6) (r0 : List It) : List It := .row 3 (D.ints (m5 p.arrays p.body (-1) 0 (p.vars, [])).fst) :: .row 3 (D.ints p.arrays) :: .tree (D.stmts (m5 p.arrays p.body (-1) 0 (p.vars, [])).snd) :: r0
abbrev K9 (p : i6) (r0 : List It) : List It := dI p.vars :: dI p.arrays :: dT p.body :: r0
theorem aV1 (p : i6) (hb : p.size ≤ 1048576) (hf : (W6 p false).1 = 0) : j9.ok Tryz.prog ⟨27, [pA 0], pS p, pS p ++ pS (G9 p), .tup [pA 3, bA (okL p)]⟩ := by
  have hpv := af1 hf; have hB := bE6 p hpv; refine E9 43 Tryz.func27 (K9 p []) [(0, pA 0)] fun G => ?_; have hz := bm0 (af1 hf); have hv := ac5 (af1 hf)
  have hzb : j6 (aJ1 p).2 ≤ 1048576 := by omega
  have hsum : (aJ1 p).1.length + p.arrays.length + j6 (aJ1 p).2 ≤ 1048576 := by omega
  refine wp_seq (j8 G d9 [0, 1, 2, 3, 11] (K9 p [.box (pL 0), aS4]) [(1, .ptr 3 0), (2, .ptr 4 0), (3, bA false)] fun G => b6 (wp_seq (k8 G (s8 1 [0, 1, 2] (Y3 p.vars p.arrays p.body (by omega))) [(4, iA (W6 (i6.mk p.vars p.arrays p.body) false).fst)] fun G => b6 (wp_seq (wp_seq (D2 G d9 [(1, .ptr 3 0), (2, .ptr 4 0), (3, bA false), (15, bA ((W6 (i6.mk p.vars p.arrays p.body) false).fst != 0))] fun G => b6 ?_)))))); cases h0 : ((W6 (i6.mk p.vars p.arrays p.body) false).fst != 0)
  ·
   have q0 := bne_eq_false_iff_eq.1 h0; refine rF G _ h0 (wp_skip (b6 (wp_seq (j8 G (s8 1 [0, 1, 2] (an5 p.vars p.arrays p.body (by assumption))) [0, 1, 2, 4, 13, 14, 15, 21] (K9 p [aS4, .row 3 (D.ints p.vars), .row 3 (D.ints p.arrays), .tree (D.stmts p.body), .box [.ref 4, .ref 5, .tref 6]]) [(2, .ptr 3 0), (3, bA false), (6, .ptr 7 0)] fun G => b6 (wp_seq ?_))))); obtain ⟨ρ, G⟩ := G.frz [.no, .no, .no, .no, .no, .row 3] (K9 p [.box [.v (.slice none 0 0), .v (.slice none 0 0), .v (.slice none 0 0)], .row 3 (D.ints p.vars), dI p.arrays, .tree (D.stmts p.body), .box [.ref 4, .ref 5, .tref 6]]) [(2, .ptr 3 0), (3, bA false), (6, .ptr 7 0)]; obtain ⟨ρ, G⟩ := G.frz [.no, .no, .no, .no, .no, .no, .tree] (K9 p [.box [.v (.slice none 0 0), .v (.slice none 0 0), .v (.slice none 0 0)], .row 3 (D.ints p.vars), dI p.arrays, dT p.body, .box (pL 4)]) [(2, .ptr 3 0), (3, bA false), (6, .ptr 7 0)]; refine j8 G (s8 8 [4, 5, 6] hB) [0, 1, 2, 3, 5, 72, 73, 80] (K9 p [aS4, dI p.arrays, .row 3 (D.ints (m5 p.arrays p.body (-1) 0 (p.vars, [])).fst), .row 106 (D.stmts (m5 p.arrays p.body (-1) 0 (p.vars, [])).snd), .box [.ref 5, .ref 4, .v (.slice none 0 0), .ref 6]]) [(2, .ptr 3 0), (3, bA false), (7, .ptr 7 0)] fun G => b6 (wp_seq ?_); obtain ⟨ρ, G⟩ := G.frz [.no, .no, .no, .no, .no, .row 3] (K9 p [.box [.v (.slice none 0 0), .v (.slice none 0 0), .v (.slice none 0 0)], dI p.arrays, dI (m5 p.arrays p.body (-1) 0 (p.vars, [])).fst, .row 106 (D.stmts (m5 p.arrays p.body (-1) 0 (p.vars, [])).snd), .box [.ref 5, .ref 4, .v (.slice none 0 0), .ref 6]]) [(2, .ptr 3 0), (3, bA false), (7, .ptr 7 0)]; obtain ⟨ρ, G⟩ := G.frz [.no, .no, .no, .no, .no, .no, .row 106] (K9 p [.box [.v (.slice none 0 0), .v (.slice none 0 0), .v (.slice none 0 0)], dI p.arrays, dI (m5 p.arrays p.body (-1) 0 (p.vars, [])).fst, dT (m5 p.arrays p.body (-1) 0 (p.vars, [])).snd, .box [.ref 5, .ref 4, .v (.slice none 0 0), .ref 6]]) [(2, .ptr 3 0), (3, bA false), (7, .ptr 7 0)]; refine j8 G (s8 9 [5, 4, 6] (an5 ((m5 p.arrays p.body (-1) 0 (p.vars, [])).fst) p.arrays ((m5 p.arrays p.body (-1) 0 (p.vars, [])).snd) (by assumption))) [0, 1, 2, 3, 80, 81, 82, 88] (K9 p (aS4 :: (av1 p [.box [.ref 4, .ref 5, .tref 6]]))) [(2, .ptr 3 0), (3, bA false), (8, .ptr 7 0)] fun G => b6 (wp_seq (wp_seq (k8 G (s8 1 [4, 5, 6] (j9.lend (ag7 ((m5 p.arrays p.body (-1) 0 (p.vars, [])).fst) p.arrays ((m5 p.arrays p.body (-1) 0 (p.vars, [])).snd) (by assumption)) [.row 3, .row 3, .tree])) [(40, .v (.bool !m0 (i6.mk (m5 p.arrays p.body (-1) 0 (p.vars, [])).fst p.arrays (m5 p.arrays p.body (-1) 0 (p.vars, [])).snd)))] fun G => b6 ?_))); cases h1 : (!m0 (i6.mk (m5 p.arrays p.body (-1 : Int) (0 : Int) (p.vars, [])).fst p.arrays (m5 p.arrays p.body (-1 : Int) (0 : Int) (p.vars, [])).snd))
   · have q1 : (m0 (i6.mk (m5 p.arrays p.body (-1) 0 (p.vars, [])).fst p.arrays (m5 p.arrays p.body (-1) 0 (p.vars, [])).snd)) = true := (Eq.mp (ck2 _) h1); refine rF G _ h1 (wp_skip (b6 (wp_seq (j8 G d9 (rg 7) (K9 p (.box [.ref 4, .ref 5, .tref 6] :: (av1 p []))) [(2, .ptr 3 0), (3, bA true)] fun G => b6 (wp_ret ?_))))); obtain ⟨ρ, G⟩ := G.frz [.no, .no, .no, .no, .row 3, .row 3, .tree] (K9 p [.box (pL 4), dI (m5 p.arrays p.body (-1) 0 (p.vars, [])).fst, dI p.arrays, dT (m5 p.arrays p.body (-1) 0 (p.vars, [])).snd]) [(2, .ptr 3 0), (3, bA true)]; exact U2 (.tup [pA 4, bA true]) G [0, 1, 2, 4, 5, 6] (by have e1 : (okL p : Bool) = (true) := (bW6 hf (by with_reducible assumption)); (first | rw [e1] | simp only [e1]) <;> rfl) (by show _ = mR [0, 1, 2, 4, 5, 6] (K9 p [dI (G9 p).vars, dI (G9 p).arrays, dT (G9 p).body]); rw [bX5 hf (by with_reducible assumption)] <;> rfl)
   · have q1 : (m0 (i6.mk (m5 p.arrays p.body (-1) 0 (p.vars, [])).fst p.arrays (m5 p.arrays p.body (-1) 0 (p.vars, [])).snd)) = false := (Eq.mp (cj4 _) h1); refine rT G _ h1 (wp_seq (D2 G d9 [(2, .ptr 3 0), (3, bA false), (8, .ptr 7 0)] fun G => b6 (wp_ret (l6 ?_)))); obtain ⟨ρ, G⟩ := G.nil 8 0 (.ints []) 1 (K9 p (.box [.ref 8, .v (.slice none 0 0), .v (.slice none 0 0)] :: (av1 p [.box [.ref 4, .ref 5, .tref 6]]))) [(2, .ptr 3 0), (3, bA false), (8, .ptr 7 0)]; obtain ⟨ρ, G⟩ := G.nil 9 0 (.ints []) 1 (K9 p (.box [.ref 8, .ref 9, .v (.slice none 0 0)] :: (av1 p [.box [.ref 4, .ref 5, .tref 6], .row 0 (D.ints [])]))) [(2, .ptr 3 0), (3, bA false), (8, .ptr 7 0)]; obtain ⟨ρ, G⟩ := G.nil 10 0 (.stmts []) 10 (K9 p (.box (pL 8) :: (av1 p [.box [.ref 4, .ref 5, .tref 6], .row 0 (D.ints []), .row 0 (D.ints [])]))) [(2, .ptr 3 0), (3, bA false), (8, .ptr 7 0)]; obtain ⟨ρ, G⟩ := G.frz [.no, .no, .no, .no, .no, .no, .no, .no, .row 0, .row 0, .row 0] (K9 p (.box (pL 8) :: (av1 p [.box [.ref 4, .ref 5, .tref 6], dI [], dI [], dT []]))) [(2, .ptr 3 0), (3, bA false), (8, .ptr 7 0)]; exact U2 (.tup [pA 8, bA false]) G [0, 1, 2, 8, 9, 10] (by have e1 : (okL p : Bool) = (false) := (bW5 (by with_reducible assumption)); (first | rw [e1] | simp only [e1]) <;> rfl) (by show _ = mR [0, 1, 2, 8, 9, 10] (K9 p [dI (G9 p).vars, dI (G9 p).arrays, dT (G9 p).body]); rw [bX4 (by with_reducible assumption)] <;> rfl)
  · have q0 := bne_iff_ne.1 h0; exact False.elim (by exact absurd hf (by omega))
theorem a83 (p : i6) (hb : p.size ≤ 1048576) : j9.ok Tryz.prog ⟨27, [pA 0], pS p, pS p ++ pS (G9 p), .tup [pA 3, bA (okL p)]⟩ := by
 by_cases hf : (W6 p false).1 = 0
 ·exact aV1 p hb hf
 ·exact aV2 p hb hf
end Go.Proofs.YthikdkjjdeehoaaGreat
