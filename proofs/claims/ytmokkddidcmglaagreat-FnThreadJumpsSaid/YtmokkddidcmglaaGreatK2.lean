/- Part 2: functions on the way, plain laws. Conditions: as said. -/
import Derived.Test.YtmokkddidcmglaaGreatRows
import Derived.OpenShut
import Derived.ChangeOld
import Derived.Deep.Slices
import Derived.Lib.SmallJoins
import Derived.StillTailTactics
import Derived.Deep.RegionHeld3
import Derived.Deep.QuietTactic
import Derived.BigQuiet
import Derived.WalkSpells
import Derived.Lib.SliceRun
import Derived.Laws.StructEq
import Derived.Test.YtmokkddidcmglaaGreatK1
set_option maxRecDepth 100000
set_option maxHeartbeats 16000000
set_option linter.unusedVariables false
set_option linter.unusedSimpArgs false
open Bool renaming and_eq_true → bX0, eq_iff_iff → bZ7
open Int renaming toNat_of_nonneg → b08
open List renaming all_eq_true → bX9, eq_nil_of_length_eq_zero → bZ3, getD_eq_getElem?_getD → bX2, getElem?_append_left → b04, getElem?_append_right → b15, getElem?_cons_succ → bX6, getElem?_cons_zero → bX3, getElem?_eq_getElem → bW9, getElem?_eq_some_iff → bX7, getElem_mem → bZ0, length_append → bX1, length_cons → bX8, length_nil → bY2, length_replicate → bY6, length_set → bY9, map_cons → bZ5, mem_append → bY7, mem_of_getElem? → bY4, mem_range → b11, mem_singleton → bZ2, range → bY5, replicate → bW8, take_of_length_le → bY3
open Nat renaming add_zero → b07, le_refl → bX4, le_trans → bZ6, lt_of_lt_of_le → b13, lt_or_ge → bY8, lt_succ_self → bZ9, mul_le_mul_right → b05, succ_mul → bZ8, zero_le → bZ4

namespace Go.Proofs.YtmokkddidcmglaaGreat
open Go Go.RowKit Go.ChangeShapes Go.WideShapes Go.Deep
theorem own : ownKnob Tryz.prog.godebug = none := by kernel_rfl
theorem bv0 : laidOutB Tryz.prog = true := by kernel_rfl
section
variable {H : Type} {enc : TypeId × Value → H} {W : World}
theorem bl3 {C : Nat → List Value} {sz : Nat} (hC : ∀ i, (C i).length = sz) : ∀ (n i j : Nat), i < n → j < sz → ((bY5 n).flatMap C)[i * sz + j]? = (C i)[j]? := by
 intro n
 induction n with
 | zero => intro i j h; omega
 | succ n ih =>
  intro i j h hj
  have hlen : ((bY5 n).flatMap C).length = n * sz := by
   clear ih h
   induction n with
   | zero => simp
   | succ n ih2 => rw [List.range_succ, List.flatMap_append, bX1, ih2]; simp [hC, bZ8]
  rw [List.range_succ, List.flatMap_append]
  by_cases hin : i < n
  ·rw [b04 (by rw [hlen]; have := b05 sz (Nat.succ_le_of_lt hin); rw [bZ8] at this; omega)]
   exact ih i j hin hj
  ·obtain rfl : i = n := by omega
   rw [b15 (by omega), hlen]
   simp
theorem aQ5 {C : Nat → List Value} {sz : Nat} (hC : ∀ i, (C i).length = sz) (n : Nat) : ((bY5 n).flatMap C).length = n * sz := by
 induction n with
 | zero => simp
 | succ n ih2 => rw [List.range_succ, List.flatMap_append, bX1, ih2]; simp [hC, bZ8]
theorem aN8 {t e : TypeId} {fuel : Nat} {v : Value} {x : DataW H × List MemPlace} {sz : Nat} (ht : Tryz.prog.underlying t = some (.slice e)) (hc : Tryz.prog.cellsOf e = sz) (hsz : 0 < sz)
  (h : DataW.trod enc Tryz.prog W 0 (fun _ => true) true fuel t [v] = some x) :
  ∃ (n m : Nat) (C : Nat → List Value), F2 W v n sz ((bY5 n).flatMap C) ∧ (∀ i, (C i).length = sz) ∧ ∀ i, i < n → ∃ y, DataW.trod enc Tryz.prog W 0 (fun _ => true) true m e (C i) = some y := by
 rcases open_slice ht h with ⟨hcs, _⟩ | ⟨a, len, cap, m, k, D, Pl, hcs, _, hl, hm, hmm, _, hx⟩
 ·cases hcs
  exact ⟨0, 0, fun _ => bW8 sz undef, F2.nil _ _, by simp, fun i hi => by omega⟩
 ·cases hcs
  rw [hc] at hx
  have hmc : len ≤ m := by rw [hmm]; simp; omega
  obtain ⟨C, hC⟩ := choose_lt (α := List Value) (n := len) (p := fun i cs => cs.length = sz ∧ (∀ j, j < sz → W.cell? (a.add (i * sz + j)) = cs[j]?) ∧ ∃ y, DataW.trod enc Tryz.prog W 0 (fun _ => true) true k e cs = some y) (fun i hi => by
   obtain ⟨cs', h1, h2⟩ := hx i (by omega)
   obtain ⟨_, hlen, hcell⟩ := World.cells?_some h1
   exact ⟨cs', hlen, fun j hj => by rw [← add_add]; exact hcell j hj, _, h2⟩)
  let C' : Nat → List Value := fun i => if i < len then C i else bW8 sz undef
  have hC' : ∀ i, (C' i).length = sz := fun i => by
   by_cases hi : i < len
   ·simp only [C', if_pos hi]; exact (hC i hi).1
   ·simp [C', if_neg hi]
  refine ⟨len, k, C', ⟨aQ5 hC' len, some a, cap, rfl, hl, hm, fun hn => ?_⟩, hC', fun i hi => ?_⟩
  ·obtain ⟨b, off, spot⟩ := a
   have h00 := (hC 0 hn).2.1 0 hsz
   have hlen0 := (hC 0 hn).1
   rw [bW9 (by omega)] at h00
   have hs : spot = none := by
    simpa [Addr.add] using World.cell?_spot h00
   subst hs
   have hb : b < W.heap.size := by simpa [Addr.add] using World.block_lt_of_cell? W _ h00
   refine ⟨b, off, rfl, hb, fun j u hj => ?_⟩
   have hjl : j < len * sz := by have := (bX7.1 hj).1; rw [aQ5 hC'] at this; exact this
   have hi : j / sz < len := Nat.div_lt_of_lt_mul (by rw [Nat.mul_comm]; exact hjl)
   have hr : j % sz < sz := Nat.mod_lt _ hsz
   have hjj : j / sz * sz + j % sz = j := Nat.div_add_mod' j sz
   have hg := bl3 hC' len (j / sz) (j % sz) hi hr
   rw [hjj, hj] at hg
   have hcc := (hC _ hi).2.1 _ hr
   simp only [C', if_pos hi] at hg
   rw [hjj, ← hg] at hcc
   have hadd : (⟨b, off, none⟩ : Addr).add j = ⟨b, off + j, none⟩ := by unfold Addr.add; split <;> simp_all
   rw [hadd] at hcc
   exact hcc
  ·obtain ⟨y, hy⟩ := (hC i hi).2.2
   exact ⟨y, by simp only [C', if_pos hi]; exact hy⟩
theorem av1 {α : Type} (n : Nat) (C : Nat → List Value) (f : α → Value) (g : Nat → α) (h : ∀ i, i < n → C i = [f (g i)]) : (bY5 n).flatMap C = ((bY5 n).map g).map f := by
 rw [List.map_map, List.flatMap_def]
 rw [List.map_congr_left (g := fun i => [f (g i)]) (fun i hi => h i (by simpa using hi))]
 induction n with
 | zero => simp
 | succ n ih =>
  rw [List.range_succ, List.map_append, List.flatten_append, List.map_append, ih (fun i hi => h i (by omega))]
  simp
end
end Go.Proofs.YtmokkddidcmglaaGreat

namespace Go.Proofs.YtmokkddidcmglaaGreat
open Go Go.RowKit
theorem bv7 : (Tryz.prog.info? 23).map (fun i => (i.zero, i.size, i.bytes)) = some (some (.slice none 0 0), 1, 24) := by kernel_rfl
def U5 (w : World) (v : Value) (m : List (List Int)) : Prop :=
 ∃ vs : List Value, F2 w v m.length 1 vs ∧ ∀ (i : Nat) (u : Value) (r : List Int), vs[i]? = some u → m[i]? = some r → F2 w u r.length 1 (ints r)
def I8 (w : World) (lo hi : Nat) (v : Value) (m : List (List Int)) : Prop :=
 ∃ vs : List Value, D6 w lo hi 23 1 v m.length vs ∧ (∀ (i : Nat) (u : Value) (r : List Int), vs[i]? = some u → m[i]? = some r → D6 w lo hi 3 1 u r.length (ints r)) ∧
  (∀ (i j : Nat) (u u' : Value), i < j → vs[i]? = some u → vs[j]? = some u' → M6 u u') ∧ ∀ (i : Nat) (u : Value), vs[i]? = some u → M6 u v
theorem U5.below {w w' : World} {v : Value} {m : List (List Int)} (h : U5 w v m) (hb : Below w.heap.size w w') : U5 w' v m := by
 obtain ⟨vs, h1, h2⟩ := h
 exact ⟨vs, h1.below hb, fun i u r a b => (h2 i u r a b).below hb⟩
theorem I8.row {w : World} {lo hi : Nat} {v : Value} {m : List (List Int)} (h : I8 w lo hi v m) : U5 w v m := by
 obtain ⟨vs, h1, h2, _⟩ := h
 exact ⟨vs, h1.row, fun i u r a b => (h2 i u r a b).row⟩
theorem I8.keep {w w' : World} {lo hi B : Nat} {v : Value} {m : List (List Int)} (h : I8 w lo hi v m) (hb : Below B w w') (hB : hi ≤ B) : I8 w' lo hi v m := by
 obtain ⟨vs, h1, h2, hd⟩ := h
 exact ⟨vs, h1.keep hb hB, fun i u r a b => (h2 i u r a b).keep hb hB, hd⟩
theorem I8.out {w w' : World} {lo hi lo' hi' : Nat} {v : Value} {m : List (List Int)} (h : I8 w lo hi v m) (hb : U4 lo' hi' w w') (hB : hi ≤ lo' ∨ hi' ≤ lo) : I8 w' lo hi v m := by
 obtain ⟨vs, h1, h2, hd⟩ := h
 exact ⟨vs, h1.out hb hB, fun i u r a b => (h2 i u r a b).out hb hB, hd⟩
theorem I8.wide {w : World} {lo hi lo' hi' : Nat} {v : Value} {m : List (List Int)} (h : I8 w lo hi v m) (g1 : lo' ≤ lo) (g2 : hi ≤ hi') : I8 w lo' hi' v m := by
 obtain ⟨vs, h1, h2, hd⟩ := h
 exact ⟨vs, h1.wide g1 g2, fun i u r a b => (h2 i u r a b).wide g1 g2, hd⟩
theorem U5.open {w : World} {v : Value} {m : List (List Int)} (h : U5 w v m) : ∃ a cap, v = .slice a m.length cap ∧ m.length ≤ 9223372036854775807 ∧
  ∀ i (hi : i < m.length), ∃ b off a' c', a = some ⟨b, off, none⟩ ∧ b < w.heap.size ∧ w.cell? ⟨b, off + i, none⟩ = some (.slice a' m[i].length c') ∧ F2 w (.slice a' m[i].length c') m[i].length 1 (ints m[i]) := by
 obtain ⟨vs, h1, h2⟩ := h
 obtain ⟨a, cap, hv, hc, hm, hm2, hcell⟩ := h1.open1
 refine ⟨a, cap, hv, hm, fun i hi => ?_⟩
 obtain ⟨b, off, ha, hb, hx⟩ := hcell i hi
 have hl : i < vs.length := by rw [h1.1]; omega
 rw [bW9 hl] at hx
 have hr := h2 i _ _ (bW9 hl) (bW9 hi)
 obtain ⟨a', c', hs⟩ := hr.form
 rw [hs] at hx hr
 exact ⟨b, off, a', c', ha, hb, hx, hr⟩
theorem Code.rowOf {w : World} {lo hi : Nat} {v1 v2 v3 : Value} {c : b6} (h : A0 w lo hi (.agg #[v1, v2, v3]) c) : ∃ a1 k1 a2 k2 a3 k3, v1 = .slice a1 c.vars.length k1 ∧ v2 = .slice a2 c.arrays.length k2 ∧ v3 = .slice a3 c.list.length k3 := by
 obtain ⟨u1, u2, u3, he, h1, h2, h3, -⟩ := h
 simp only [Value.agg.injEq, Array.mk.injEq, List.cons.injEq, and_true] at he
 obtain ⟨rfl, rfl, rfl⟩ := he
 obtain ⟨a1, k1, e1⟩ := h1.form
 obtain ⟨a2, k2, e2⟩ := h2.form
 obtain ⟨a3, k3, e3⟩ := h3.form
 exact ⟨a1, k1, a2, k2, a3, k3, e1, e2, e3⟩
theorem a03 {B : Nat} {w w1 w2 : World} (k : Below w1.heap.size w1 w2) (h : Below B w w1) (hB : B ≤ w.heap.size) : Below B w w2 :=
 h.trans (k.mono (bZ6 hB h.size))
end Go.Proofs.YtmokkddidcmglaaGreat

namespace Go.Proofs.YtmokkddidcmglaaGreat
def ao9 (b : Bool) : Int := if b then 1 else 0
def H7 (k a b : Int) : Int :=
 if k = 4 then (a + b).tmod 256 else if k = 5 then (a - b + 256).tmod 256 else if k = 6 then (a * b).tmod 256
 else if k = 7 then ((a.toNat &&& b.toNat : Nat) : Int) else if k = 8 then ((a.toNat ^^^ b.toNat : Nat) : Int) else if k = 9 then ao9 (decide (a = b)) else ao9 (decide (a < b))
theorem ao8 (b : Bool) : 0 ≤ ao9 b ∧ ao9 b ≤ 255 := by cases b <;> simp [ao9]
theorem aQ3 {k a b : Int} (h1 : 0 ≤ a) (h2 : a ≤ 255) (h3 : 0 ≤ b) (h4 : b ≤ 255) : 0 ≤ H7 k a b ∧ H7 k a b ≤ 255 := by
 unfold H7
 have hm : 0 ≤ a * b := Int.mul_nonneg h1 h3
 have ha : a.toNat < 2 ^ 8 := by omega
 have hb : b.toNat < 2 ^ 8 := by omega
 have hand : a.toNat &&& b.toNat < 2 ^ 8 := Nat.and_lt_two_pow _ hb
 have hxor : a.toNat ^^^ b.toNat < 2 ^ 8 := Nat.xor_lt_two_pow ha hb
 split
 ·rw [Int.tmod_eq_emod_of_nonneg (by omega)]; omega
 split
 ·rw [Int.tmod_eq_emod_of_nonneg (by omega)]; omega
 split
 ·rw [Int.tmod_eq_emod_of_nonneg hm]; omega
 split
 ·omega
 split
 ·omega
 split
 ·exact ao8 _
 ·exact ao8 _
def scB (l : Int) : Bool := C9 l && decide (l = 1 ∨ l = 3)
def bAt (t : List Bool) (k : Int) : Bool := t.getD k.toNat false
def iAt (t : List Int) (k : Int) : Int := t.getD k.toNat 0
def W2 (c : b6) (x : c7) (t : List Bool) : Option Bool :=
 if x.op = 1 ∨ x.op = 11 then some false
 else if x.op = 2 then some (scB (iAt c.vars x.b))
 else if x.op = 4 then some (scB (iAt c.arrays x.b) || bAt t x.c)
 else if x.op = 6 then some (bAt t x.c || bAt t x.d)
 else if x.op = 7 then some (bAt t x.b || bAt t x.c || bAt t x.d)
 else none
def T3 (c : b6) (x : c7) (t : List Bool) : List Bool := match W2 c x t with | some b => t.set x.a.toNat b | none => t
theorem ay3 (c : b6) (x : c7) (t : List Bool) : (T3 c x t).length = t.length := by unfold T3; split <;> simp
def ba1 (t row : List Bool) : Bool := decide (0 < row.length) && (bY5 t.length).all fun k => !(t.getD k false && !row.getD k false)
theorem aX8 {c : b6} {x : c7} (h : v8 c x = true) :
  (x.op = 1 → 0 ≤ x.a ∧ x.a < 14) ∧ (x.op = 11 → 0 ≤ x.a ∧ x.a < 14) ∧
  (x.op = 2 → (0 ≤ x.a ∧ x.a < 14) ∧ 0 ≤ x.b ∧ x.b < c.vars.length) ∧
  (x.op = 3 → (0 ≤ x.a ∧ x.a < c.vars.length) ∧ 0 ≤ x.b ∧ x.b < 14) ∧
  (x.op = 4 → (0 ≤ x.a ∧ x.a < 14) ∧ (0 ≤ x.b ∧ x.b < c.arrays.length) ∧ 0 ≤ x.c ∧ x.c < 14) ∧
  (x.op = 5 → (0 ≤ x.a ∧ x.a < c.arrays.length) ∧ (0 ≤ x.b ∧ x.b < 14) ∧ 0 ≤ x.c ∧ x.c < 14) ∧
  (x.op = 6 → (0 ≤ x.a ∧ x.a < 14) ∧ (0 ≤ x.c ∧ x.c < 14) ∧ 0 ≤ x.d ∧ x.d < 14) ∧
  (x.op = 7 → (0 ≤ x.a ∧ x.a < 14) ∧ (0 ≤ x.b ∧ x.b < 14) ∧ (0 ≤ x.c ∧ x.c < 14) ∧ 0 ≤ x.d ∧ x.d < 14) ∧
  (x.op = 9 → 0 ≤ x.a ∧ x.a < 14) ∧ (x.op = 10 → 0 ≤ x.a ∧ x.a < 14) := by
 unfold v8 at h
 simp only [bX0, decide_eq_true_eq] at h
 obtain ⟨_, ⟨⟨ha, hb⟩, hc⟩, hd⟩ := h
 refine ⟨fun e => ?_, fun e => ?_, fun e => ?_, fun e => ?_, fun e => ?_, fun e => ?_, fun e => ?_, fun e => ?_, fun e => ?_, fun e => ?_⟩
 all_goals
  rw [e] at ha hb hc hd
  simp [e6, B6, I3] at ha hb hc hd
  omega
def au1 (r : List Bool) : Bool := decide (r.length = 0) || decide (r.length = 14)
def aJ2 (t row : List Bool) (k : Nat) : Bool := (bY5 k).all fun j => !(t.getD j false && !row.getD j false)
def rowAt (m : List (List Bool)) (i : Int) : List Bool := m.getD i.toNat []
theorem ak8 {m : List (List Bool)} {i : Nat} (h : i < m.length) : rowAt m i = m[i] := by simp [rowAt, h]
def z9 (c : b6) (i : Nat) : c7 := c.list.getD i ⟨0, 0, 0, 0, 0⟩
theorem R5 {c : b6} {i : Nat} (h : i < c.list.length) : z9 c i = c.list[i] := by simp [z9, h]
def ab3 (c : b6) (m : List (List Bool)) (i : Nat) : Bool := decide ((rowAt m i).length = 0) || (nx c i).all fun t => ba1 (T3 c (z9 c i) (rowAt m i)) (rowAt m t)
theorem a83 {m : List (List Bool)} (h : m.all au1 = true) (i : Int) : (rowAt m i).length = 0 ∨ (rowAt m i).length = 14 := by
 unfold rowAt
 rcases bY8 i.toNat m.length with h1 | h1
 ·have := bX9.1 h _ (bZ0 h1)
  simp only [au1, Bool.or_eq_true, decide_eq_true_eq] at this
  simpa [h1] using this
 ·left; simp [h1]
def isJ (c : b6) (x : Int) : Bool := decide ((z9 c x.toNat).op = 8)
def D0 (c : b6) : Nat → Int → Int
 | 0, x => x
 | k + 1, x => if isJ c x = true then D0 c k (z9 c x.toNat).a else x
def G6 (c : b6) (t : Int) : Int := if isJ c (D0 c c.list.length t) = true then t else D0 c c.list.length t
theorem Y1 {c : b6} {k : Nat} {x : Int} (h : isJ c x = true) : D0 c (k + 1) x = D0 c k (z9 c x.toNat).a := by rw [D0, if_pos h]
theorem T2 {c : b6} {x : Int} (h : isJ c x = false) : ∀ k, D0 c k x = x
 | 0 => rfl
 | k + 1 => by rw [D0, if_neg (by rw [h]; simp)]
def D3 (x : c7) (t : Int) : c7 := if x.op = 8 then { x with a := t } else if x.op = 9 ∨ x.op = 10 then { x with b := t } else x
def P3 (c : b6) (x : c7) : c7 := if 0 ≤ l8 x then D3 x (G6 c (l8 x)) else x
def t9 (c : b6) : b6 := { c with list := c.list.map (P3 c) }
theorem ak3 {c : b6} {x : c7} (h : v8 c x = true) (h0 : 0 ≤ l8 x) : l8 x < c.list.length := by
 by_cases ho : x.op = 8 ∨ x.op = 9 ∨ x.op = 10
 ·exact (aF5 h ho).2
 ·unfold l8 at h0
  rw [if_neg (by omega), if_neg (by omega)] at h0
  omega
def H1 (c : b6) (x : Int) : Prop := 0 ≤ x ∧ x < c.list.length
theorem aI0 {c : b6} (h : f8 c = true) {x : Int} (hx : H1 c x) (hj : isJ c x = true) : H1 c (z9 c x.toNat).a := by
 have hl : x.toNat < c.list.length := by have := hx.1; have := hx.2; omega
 have hi := (o8 h).2.2.2.1 x.toNat hl
 unfold isJ at hj
 rw [decide_eq_true_eq] at hj
 rw [R5 hl] at hj ⊢
 have := aF5 hi (.inl hj)
 unfold l8 at this
 rw [if_pos hj] at this
 exact this
def K5 (c : b6) (k : Nat) : List c7 := (c.list.map (P3 c)).take k ++ c.list.drop k
theorem ai6 (c : b6) (k : Nat) : (K5 c k).length = c.list.length := by
 unfold K5
 rw [bX1, List.length_take, List.length_drop, List.length_map]
 omega
theorem ac6 (c : b6) : K5 c 0 = c.list := by simp [K5]
theorem aO9 (c : b6) : K5 c c.list.length = (t9 c).list := by
 unfold K5 t9
 rw [List.drop_length, List.append_nil, bY3 (by simp)]
theorem ak9 (c : b6) (k : Nat) (h : k < c.list.length) : K5 c (k + 1) = (K5 c k).set k (P3 c c.list[k]) := by
 have hk : k < (c.list.map (P3 c)).length := by simpa using h
 have hl : ((c.list.map (P3 c)).take k).length = k := by rw [List.length_take]; omega
 unfold K5
 rw [List.set_append_right _ _ (by omega), hl, Nat.sub_self, List.drop_eq_getElem_cons h, List.set_cons_zero, H6 _ _ hk]
 simp
theorem bu4 (c : b6) (k : Nat) (h : k < c.list.length) : (K5 c k)[k]? = some c.list[k] := by
 unfold K5
 rw [b15 (by rw [List.length_take]; omega), List.length_take, List.length_map, Nat.min_eq_left (by omega), Nat.sub_self, List.getElem?_drop, b07, bW9 h]
theorem aD1 (c : b6) (k : Nat) (h : k < c.list.length) (he : P3 c c.list[k] = c.list[k]) : K5 c (k + 1) = K5 c k := by
 rw [ak9 c k h, he]
 apply List.ext_getElem?
 intro i
 rw [List.getElem?_set]
 split
 ·rename_i e
  subst e
  rw [bu4 c k h]
  simp [ai6, h]
 ·rfl
theorem ao3 {c : b6} (h : f8 c = true) : c.size ≤ 1048576 := by
 obtain ⟨h1, -, h2, -, -⟩ := o8 h
 unfold C6 at h1
 simp only [bX0, decide_eq_true_eq] at h1
 unfold b6.size
 omega
def bL5 (c : b6) (i : Nat) : Bool := decide ((z9 c i).op = 8) && decide ((z9 c i).a = (i : Int) + 1)
noncomputable def kpB (c : b6) (i : Nat) : Bool := (aa6 c).getD i false && !bL5 c i
noncomputable def kpL (c : b6) : List Bool := (bY5 c.list.length).map (kpB c)
noncomputable def bQ1 (c : b6) (k : Nat) : List Bool := (bY5 c.list.length).map fun i => (aa6 c).getD i false && !(decide (i < k) && bL5 c i)
def plc (ks : List Bool) (k : Nat) : Nat := (ks.take k).count true
def trI (ks : List Bool) (x : c7) : c7 := if 0 ≤ l8 x then D3 x (plc ks (l8 x).toNat : Int) else x
def bH3 (c : b6) (ks : List Bool) (k : Nat) : List c7 := (bY5 k).flatMap fun i => if ks.getD i false = true then [trI ks (z9 c i)] else []
noncomputable def bH4 (c : b6) : b6 := { c with list := bH3 c (kpL c) c.list.length }
theorem bo9 (x : c7) (t : Int) : (D3 x t).op = x.op := by unfold D3; split <;> (try split) <;> rfl
theorem aO7 {x : c7} (h1 : 1 ≤ x.op) (h2 : x.op ≤ 13) : x.op = 1 ∨ x.op = 2 ∨ x.op = 3 ∨ x.op = 4 ∨ x.op = 5 ∨ x.op = 6 ∨ x.op = 7 ∨ x.op = 8 ∨ x.op = 9 ∨ x.op = 10 ∨ x.op = 11 ∨ x.op = 12 ∨ x.op = 13 := by omega
theorem a94 {c d : b6} {x : c7} (h : v8 c x = true) (_hv : d.vars = c.vars) (_ha : d.arrays = c.arrays) {t : Int} (hx : 0 ≤ l8 x) (h0 : 0 ≤ t) (h1 : t < d.list.length) : v8 d (D3 x t) = true := by
 have h' := h
 unfold v8 at h ⊢
 simp only [bX0, decide_eq_true_eq] at h
 obtain ⟨⟨ho1, ho2⟩, hp⟩ := h
 rw [bo9]
 cases x with
 | mk op a b c' d' =>
 simp only at *
 rcases aO7 (x := ⟨op, a, b, c', d'⟩) ho1 ho2 with e | e | e | e | e | e | e | e | e | e | e | e | e <;> simp only at e <;> subst e <;>
  simp [e6, B6, I3, D3, l8] at hp hx ⊢ <;> simp_all
theorem aP5 {c d : b6} {x : c7} (h : v8 c x = true) (_hv : d.vars = c.vars) (_ha : d.arrays = c.arrays) (hx : l8 x < 0) : v8 d x = true := by
 unfold v8 at h ⊢
 simp only [bX0, decide_eq_true_eq] at h
 obtain ⟨⟨ho1, ho2⟩, hp⟩ := h
 cases x with
 | mk op a b c' d' =>
 simp only at *
 rcases aO7 (x := ⟨op, a, b, c', d'⟩) ho1 ho2 with e | e | e | e | e | e | e | e | e | e | e | e | e <;> simp only at e <;> subst e <;>
  simp [e6, B6, I3, l8] at hp hx ⊢ <;> simp_all <;> omega
theorem ao5 {c : b6} (hc : f8 c = true) : ∀ (k : Nat) (x : Int), H1 c x → H1 c (D0 c k x)
 | 0, _, h => h
 | k + 1, x, h => by
  cases hj : isJ c x
  ·rw [T2 hj]; exact h
  ·rw [Y1 hj]; exact ao5 hc k _ (aI0 hc h hj)
theorem aQ8 {c : b6} (hc : f8 c = true) {x : Int} (h : H1 c x) : H1 c (G6 c x) := by
 unfold G6; split
 ·exact h
 ·exact ao5 hc _ _ h
theorem bB0 (c : b6) (x : c7) : (P3 c x).op = x.op := by unfold P3; split; exact bo9 _ _; rfl
theorem aq4 (c : b6) : (t9 c).list.length = c.list.length := by simp [t9]
theorem aU2 {c : b6} (hc : f8 c = true) : f8 (t9 c) = true := by
 obtain ⟨h1, h2, h3, h4, h5⟩ := o8 hc
 unfold f8
 simp only [bX0, decide_eq_true_eq, bX9]
 refine ⟨⟨⟨⟨h1, by rw [aq4]; exact h2⟩, by rw [aq4]; exact h3⟩, ?_⟩, ?_⟩
 ·intro x hx
  obtain ⟨y, hy, rfl⟩ := List.mem_map.1 hx
  obtain ⟨i, hi, rfl⟩ := List.getElem_of_mem hy
  unfold P3
  split
  ·rename_i ht
   have hp := aQ8 hc ⟨ht, ak3 (h4 i hi) ht⟩
   exact a94 (d := t9 c) (h4 i hi) rfl rfl ht hp.1 (by rw [aq4]; exact hp.2)
  ·exact aP5 (d := t9 c) (h4 i hi) rfl rfl (by omega)
 ·unfold V0 at h5 ⊢
  show (match (c.list.map (P3 c)).getLast? with | some x => decide (x.op = 13) || decide (x.op = 8) | none => false) = true
  rw [List.getLast?_map]
  cases hl : c.list.getLast? with
  | none => rw [hl] at h5; cases h5
  | some x => rw [hl] at h5; simpa [bB0] using h5
theorem bv5 {c : b6} {i : Nat} (h : i < c.list.length) : z9 (t9 c) i = P3 c (z9 c i) := by
 rw [R5 h, R5 (by rw [aq4]; exact h)]
 simp [t9]
noncomputable def bC9 (c : b6) : b6 := bH4 (t9 c)
inductive Opt : b6 → b6 → Prop
 | stop {c : b6} : bC9 c = c → Opt c c
 | step {c r : b6} : bC9 c ≠ c → Opt (bC9 c) r → Opt c r
open Classical in
noncomputable def bW4 (c : b6) : Nat := 2 * c.list.length + (if t9 c = c then 0 else 1)
open Classical in
noncomputable def bW5 (c : b6) : b6 := if h : ∃ r, Opt c r then Classical.choose h else c
end Go.Proofs.YtmokkddidcmglaaGreat

namespace Go.Proofs.YtmokkddidcmglaaGreat
open Go Go.RowKit
theorem aJ7 (a b : Nat) (ha : a < 9223372036854775808) (hb : b < 9223372036854775808) : bits .and .i64 (a : Int) (b : Int) = ((a &&& b : Nat) : Int) := by
 have hx : a &&& b < 2 ^ 63 := Nat.and_lt_two_pow _ (by omega)
 have h1 : (BitVec.ofInt 64 (a : Int)).toNat = a := by
  rw [BitVec.ofInt_natCast, BitVec.toNat_ofNat]; exact Nat.mod_eq_of_lt (by omega)
 have h2 : (BitVec.ofInt 64 (b : Int)).toNat = b := by
  rw [BitVec.ofInt_natCast, BitVec.toNat_ofNat]; exact Nat.mod_eq_of_lt (by omega)
 show IntKind.i64.wrap ((BitVec.ofInt 64 (a : Int) &&& BitVec.ofInt 64 (b : Int)).toNat : Int) = _
 rw [BitVec.toNat_and, h1, h2, IntKind.wrap_i64]
 omega
theorem aJ5 (a b : Nat) (ha : a < 9223372036854775808) (hb : b < 9223372036854775808) : bits .xor .i64 (a : Int) (b : Int) = ((a ^^^ b : Nat) : Int) := by
 have hx : a ^^^ b < 2 ^ 63 := Nat.xor_lt_two_pow (by omega) (by omega)
 have h1 : (BitVec.ofInt 64 (a : Int)).toNat = a := by
  rw [BitVec.ofInt_natCast, BitVec.toNat_ofNat]; exact Nat.mod_eq_of_lt (by omega)
 have h2 : (BitVec.ofInt 64 (b : Int)).toNat = b := by
  rw [BitVec.ofInt_natCast, BitVec.toNat_ofNat]; exact Nat.mod_eq_of_lt (by omega)
 show IntKind.i64.wrap ((BitVec.ofInt 64 (a : Int) ^^^ BitVec.ofInt 64 (b : Int)).toNat : Int) = _
 rw [BitVec.toNat_xor, h1, h2, IntKind.wrap_i64]
 omega
theorem aJ8 {a b : Int} (h1 : 0 ≤ a) (h2 : a ≤ 255) (h3 : 0 ≤ b) (h4 : b ≤ 255) : bits .and .i64 a b = ((a.toNat &&& b.toNat : Nat) : Int) := by
 rw [← aJ7 _ _ (by omega) (by omega), b08 h1, b08 h3]
theorem aJ6 {a b : Int} (h1 : 0 ≤ a) (h2 : a ≤ 255) (h3 : 0 ≤ b) (h4 : b ≤ 255) : bits .xor .i64 a b = ((a.toNat ^^^ b.toNat : Nat) : Int) := by
 rw [← aJ5 _ _ (by omega) (by omega), b08 h1, b08 h3]
theorem av9 (b : Bool) (w : World) : Calls Tryz.prog 109 #[.bool b] w fun e w' => e = .returned (.int .i64 (ao9 b)) ∧ w = w' := by
 cases b
 all_goals
  go_enter Tryz.func109, Tryz.ntmps109
  go_wp2_with fail
  go_ret
  exact ⟨rfl, rfl⟩
theorem aI3 (k a b : Int) (w : World) (h1 : 0 ≤ a) (h2 : a ≤ 255) (h3 : 0 ≤ b) (h4 : b ≤ 255) : Calls Tryz.prog 100 #[.int .i64 k, .int .i64 a, .int .i64 b] w fun e w' => e = .returned (.int .i64 (H7 k a b)) ∧ w = w' := by
 have hm : 0 ≤ a * b := Int.mul_nonneg h1 h3
 have hm2 : a * b ≤ 65025 := by
  have := Int.mul_le_mul h2 h4 h3 (by omega : (0 : Int) ≤ 255)
  omega
 by_cases k4 : k = 4
 ·subst k4
  have HV : Hid (H7 4 a b = (a + b).tmod 256) := by unfold Hid H7; simp
  go_enter Tryz.func100, Tryz.ntmps100
  go_wp2_with fail
  go_ret
  exact ⟨D4 (by rw [HV.out]; exact (Int.tmod_eq_emod_of_nonneg (by first | assumption | omega)).symm), rfl⟩
 by_cases k5 : k = 5
 ·subst k5
  have HV : Hid (H7 5 a b = (a - b + 256).tmod 256) := by unfold Hid H7; simp
  go_enter Tryz.func100, Tryz.ntmps100
  go_wp2_with fail
  go_ret
  exact ⟨D4 (by rw [HV.out]; exact (Int.tmod_eq_emod_of_nonneg (by first | assumption | omega)).symm), rfl⟩
 by_cases k6 : k = 6
 ·subst k6
  have HV : Hid (H7 6 a b = (a * b).tmod 256) := by unfold Hid H7; simp
  go_enter Tryz.func100, Tryz.ntmps100
  go_wp2_with fail
  go_ret
  exact ⟨D4 (by rw [HV.out]; exact (Int.tmod_eq_emod_of_nonneg (by first | assumption | omega)).symm), rfl⟩
 by_cases k7 : k = 7
 ·subst k7
  have HV : Hid (H7 7 a b = bits .and .i64 a b) := by unfold Hid; rw [aJ8 h1 h2 h3 h4]; unfold H7; simp
  go_enter Tryz.func100, Tryz.ntmps100
  go_wp2_with fail
  go_ret
  exact ⟨D4 (by rw [HV.out]), rfl⟩
 by_cases k8 : k = 8
 ·subst k8
  have HV : Hid (H7 8 a b = bits .xor .i64 a b) := by unfold Hid; rw [aJ6 h1 h2 h3 h4]; unfold H7; simp
  go_enter Tryz.func100, Tryz.ntmps100
  go_wp2_with fail
  go_ret
  exact ⟨D4 (by rw [HV.out]), rfl⟩
 have HK := show Hid _ from And.intro k4 (And.intro k5 (And.intro k6 (And.intro k7 k8)))
 have p4 : (k == 4) = false := by simp [k4]
 have p5 : (k == 5) = false := by simp [k5]
 have p6 : (k == 6) = false := by simp [k6]
 have p7 : (k == 7) = false := by simp [k7]
 have p8 : (k == 8) = false := by simp [k8]
 clear k4 k5 k6 k7 k8
 by_cases k9 : k = 9
 ·subst k9
  have HV : Hid (H7 9 a b = ao9 (decide (a = b))) := by unfold Hid H7; simp
  clear hm hm2
  go_enter Tryz.func100, Tryz.ntmps100
  go_wp2_with fail
  refine (av9 _ _).mono ?_
  rintro x w1 ⟨rfl, rfl⟩
  go_wp2_with fail
  go_ret
  exact ⟨D4 (by rw [HV.out]; congr 1), rfl⟩
 ·have HV : Hid (H7 k a b = ao9 (decide (a < b))) := by
   obtain ⟨k4, k5, k6, k7, k8⟩ := HK.out
   unfold Hid H7; rw [if_neg k4, if_neg k5, if_neg k6, if_neg k7, if_neg k8, if_neg k9]
  have p9 : (k == 9) = false := by simp [k9]
  clear hm hm2 k9
  go_enter Tryz.func100, Tryz.ntmps100
  go_wp2_with fail
  refine (av9 _ _).mono ?_
  rintro x w1 ⟨rfl, rfl⟩
  go_wp2_with fail
  go_ret
  exact ⟨D4 (by rw [HV.out]), rfl⟩
theorem av8 (p : c7 → Bool) (f : FuncId) (q : Value) (v : Value) (xs : List c7) (w : World) (h : O0 w v xs) (he : ∀ args w, (callFunc f args).run Tryz.prog w = .ok (.enter f args) w)
  (hf : ∀ x w', Below w.heap.size w w' → Calls Tryz.prog f #[x.v, q] w' fun e w'' => e = .returned (.bool (p x)) ∧ Below w'.heap.size w' w'') :
  Calls Tryz.prog 64 #[v, .func (.func f) #[] #[q]] w fun e w' => ∃ r : Int, e = .returned (.int .i64 r) ∧ decide (0 ≤ r) = xs.any p ∧ Below w.heap.size w w' := by
 obtain ⟨a1, c1, rfl, -, hm1, -, hc1⟩ := h.ins
 have HF := show Hid _ from hf
 clear h hf
 go_enter Tryz.func64, Tryz.ntmps64
 go_wp2_with fail
 go_loopw [5, 8] (fun _ i wr => ∃ k : Nat, k ≤ xs.length ∧ i = .int .i64 k ∧ (xs.take k).any p = false ∧ Below w.heap.size w wr) (fun _ i _ => xs.length - (intOf i).toNat)
 case atStart => exact ⟨0, bZ4 _, rfl, rfl, Below.refl _ _⟩
 case round =>
  obtain ⟨k, hk, rfl, ha, hb⟩ := hrel
  have HA := show Hid _ from ha
  clear ha
  by_cases hlt : k < xs.length
  ·obtain ⟨b1, o1, rfl, hb1, i0, i1, i2, i3, i4⟩ := hc1 k hlt
   rw [← (O9 hb).1 _ _ hb1] at i0 i1 i2 i3 i4
   clear hc1
   cases hp : p xs[k]
   all_goals
    have HP := show Hid _ from hp
    clear hp
    go_wp2_with fail
    refine (HF.out xs[k] _ hb).mono ?_
    rintro e w1 ⟨rfl, hb2⟩
    rw [HP.out]
    go_wp2_with fail
   ·go_roundw
    case rel => exact ⟨k + 1, by omega, by go_num, by rw [r8 _ _ hlt, List.any_append, HA.out]; simp [HP.out], hb.trans (hb2.mono hb.size)⟩
    case measure => simp [intOf]; omega
   ·go_ret
    exact ⟨_, rfl, by rw [decide_eq_true (by omega)]; symm; rw [List.any_eq_true]; exact ⟨_, bZ0 hlt, HP.out⟩, hb.trans (hb2.mono hb.size)⟩
  ·go_wp2_with fail
   go_ret
   refine ⟨_, rfl, ?_, hb⟩
   have := HA.out
   rw [bY3 (by omega)] at this
   rw [this]; rfl
theorem aj2 (p : c7 → Bool) (f : FuncId) (q : Value) (v : Value) (xs : List c7) (w : World) (h : O0 w v xs) (he : ∀ args w, (callFunc f args).run Tryz.prog w = .ok (.enter f args) w)
  (hf : ∀ x w', Below w.heap.size w w' → Calls Tryz.prog f #[x.v, q] w' fun e w'' => e = .returned (.bool (p x)) ∧ Below w'.heap.size w' w'') :
  Calls Tryz.prog 35 #[v, .func (.func f) #[] #[q]] w fun e w' => e = .returned (.bool (xs.any p)) ∧ Below w.heap.size w w' := by
 obtain ⟨a1, c1, rfl, -⟩ := h.open
 have HF := show Hid _ from hf
 have HE := show Hid _ from he
 clear hf he
 go_enter Tryz.func35, Tryz.ntmps35
 go_wp2_with fail
 refine (av8 p f q _ xs _ h HE.out HF.out).mono ?_
 rintro e w1 ⟨r, rfl, hr, hb⟩
 have HR := show Hid _ from hr
 clear hr
 go_wp2_with fail
 go_ret
 exact ⟨j5 HR.out, hb⟩
theorem aY1 (op : Int) (w : World) :
  Calls Tryz.prog 65 #[.int .i64 op] w fun e w' => e = .returned (.string ⟨(J8 op).toArray⟩) ∧ Below w.heap.size w w' := by
 by_cases h : 1 ≤ op ∧ op ≤ 13
 ·obtain ⟨h1, h2⟩ := h
  have h : op = 1 ∨ op = 2 ∨ op = 3 ∨ op = 4 ∨ op = 5 ∨ op = 6 ∨ op = 7 ∨ op = 8 ∨ op = 9 ∨ op = 10 ∨ op = 11 ∨ op = 12 ∨ op = 13 := by omega
  clear h1 h2
  rcases h with rfl | rfl | rfl | rfl | rfl | rfl | rfl | rfl | rfl | rfl | rfl | rfl | rfl
  all_goals
   go_enter Tryz.func65, Tryz.ntmps65
   go_wp2_with fail
   refine (A6 _ 1 13 _).mono ?_
   rintro e w1 ⟨rfl, rfl⟩
   go_wp2_with fail
   go_ret
   exact ⟨by simp [J8], by go_grown⟩
 ·have hF : Hid (J8 op = []) := aC1 h
  have hb : (decide ((1 : Int) ≤ op) && decide (op ≤ 13)) = false := by
   rw [Bool.eq_false_iff]; simp only [ne_eq, bX0, decide_eq_true_eq]; exact h
  have HB := show Hid _ from hb
  clear h hb
  go_enter Tryz.func65, Tryz.ntmps65
  go_wp2_with fail
  refine (A6 _ 1 13 _).mono ?_
  rintro e w1 ⟨rfl, rfl⟩
  rw [HB.out]
  go_wp2_with fail
  go_ret
  exact ⟨by rw [hF.out]; rfl, Below.refl _ _⟩
theorem aP9 (x : c7) (w : World) :
  Calls Tryz.prog 66 #[x.v] w fun e w' => ∃ u, e = .returned u ∧ D6 w' w.heap.size w'.heap.size 3 1 u 4 (ints [x.a, x.b, x.c, x.d]) ∧ Below w.heap.size w w' := by
 obtain ⟨x0, x1, x2, x3, x4⟩ := x
 go_enter Tryz.func66, Tryz.ntmps66
 go_wp2_with fail
 go_ret
 refine ⟨_, rfl, (C3 _ #[.int .i64 x1, .int .i64 x2, .int .i64 x3, .int .i64 x4] 4 1 _ (by simp) rfl (by omega)).wide (by simp) (by simp), by go_grown⟩
theorem aI5 (v1 v2 v3 : Value) (c : b6) (kd : UInt8) (n : Int) (w : World) (h1 : F2 w v1 c.vars.length 1 (ints c.vars)) (h2 : F2 w v2 c.arrays.length 1 (ints c.arrays)) (h3 : O0 w v3 c.list) :
  Calls Tryz.prog 67 #[.agg #[v1, v2, v3], .int .u8 kd.toNat, .int .i64 n] w fun e w' => e = .returned (.bool (H5 c kd n)) ∧ Below w.heap.size w w' := by
 obtain ⟨a1, k1, rfl, -, q1, -, -⟩ := h1.open1
 obtain ⟨a2, k2, rfl, -, q2, -, -⟩ := h2.open1
 obtain ⟨a3, k3, rfl, -, q3, -, -⟩ := h3.open
 have hk : kd.toNat < 256 := kd.toNat_lt
 have HK : Hid (∀ m : UInt8, (kd = m) = ((kd.toNat : Int) = (m.toNat : Int))) := fun m => by
  rw [eq_iff_iff]
  constructor
  ·rintro rfl; rfl
  ·intro h; exact UInt8.toNat_inj.1 (by omega)
 clear h1 h2 h3
 obtain ⟨z, hz⟩ : ∃ z, z = kd.toNat := ⟨_, rfl⟩
 rw [← hz] at hk ⊢
 have HZ := show Hid _ from hz
 clear hz
 go_enter Tryz.func67, Tryz.ntmps67
 go_wp2_with (go_at_call 34; refine (A6 _ _ _ _).mono ?_; rintro e w1 ⟨rfl, rfl⟩)
 all_goals go_ret
 all_goals refine ⟨j5 ?_, by go_grown⟩
 all_goals unfold H5
 all_goals simp only [HK.out, ← HZ.out, show (UInt8.toNat 114) = 114 from rfl, show (UInt8.toNat 110) = 110 from rfl, show (UInt8.toNat 118) = 118 from rfl, show (UInt8.toNat 97) = 97 from rfl, show (UInt8.toNat 111) = 111 from rfl, show (UInt8.toNat 105) = 105 from rfl]
 all_goals clear HK HZ hk q1 q2 q3
 all_goals simp_all
 all_goals (rw [bZ7]; simp)
theorem aI4 (v : Value) (c : b6) (x : c7) (w : World) (h : A3 w v c) :
  Calls Tryz.prog 37 #[v, x.v] w fun e w' => e = .returned (.bool (v8 c x)) ∧ Below w.heap.size w w' := by
 obtain ⟨v1, v2, v3, rfl, h1, h2, h3⟩ := h
 obtain ⟨W, hW⟩ : ∃ W, W = ((w.alloc (.cells #[v1, v2, v3] 26)).alloc (.cells #[.int .i64 x.op, .int .i64 x.a, .int .i64 x.b, .int .i64 x.c, .int .i64 x.d] 60)) := ⟨_, rfl⟩
 have B0 : Below w.heap.size w W := by rw [hW]; go_grown
 have L1 : y9 W w.heap.size [v1, v2, v3] := by rw [hW]; exact (y9.new w [v1, v2, v3] _).alloc _
 have L2 : y9 W (w.heap.size + 1) [.int .i64 x.op, .int .i64 x.a, .int .i64 x.b, .int .i64 x.c, .int .i64 x.d] := by rw [hW]; exact y9.new' (w.alloc _) [.int .i64 x.op, .int .i64 x.a, .int .i64 x.b, .int .i64 x.c, .int .i64 x.d] _ (by simp)
 go_enter Tryz.func37, Tryz.ntmps37
 go_wp2_with fail
 rw [← hW]
 clear hW
 refine (aY1 x.op W).mono ?_
 rintro e w1 ⟨rfl, b1⟩
 replace L1 := L1.below b1 L1.lt
 replace L2 := L2.below b1 L2.lt
 have y0 := L2.cell 0
 have y1 := L2.cell 1
 have y2 := L2.cell 2
 have y3 := L2.cell 3
 have y4 := L2.cell 4
 simp at y0 y1 y2 y3 y4
 go_wp2_with fail
 refine (aP9 x _).mono ?_
 rintro e w2 ⟨u, rfl, o2, b2⟩
 replace L1 := L1.below b2 L1.lt
 have B2 := (B0.trans (b1.mono B0.size)).trans (b2.mono (by have := B0.size; have := b1.size; omega))
 obtain ⟨g, cap, rfl, -, -, hg, -, -, -, hp⟩ := o2.open (by omega)
 clear y0 y1 y2 y3 y4 L2 o2
 by_cases hop : 1 ≤ x.op ∧ x.op ≤ 13
 ·have hR : Hid (v8 c x = au5 c (J8 x.op) [x.a, x.b, x.c, x.d] 4) := aY0 c x hop
  have hkl := bq9 hop
  obtain ⟨kinds, hkinds⟩ : ∃ kinds, kinds = J8 x.op := ⟨_, rfl⟩
  obtain ⟨parts, hparts⟩ : ∃ parts, parts = [x.a, x.b, x.c, x.d] := ⟨_, rfl⟩
  rw [← hkinds] at hkl ⊢
  rw [← hkinds] at hR
  rw [← hparts] at hR hp
  have hpl : parts.length = 4 := by rw [hparts]; rfl
  clear hkinds hparts hop
  have HPL := show Hid _ from hpl
  clear hpl
  have hne : kinds.isEmpty = false := by
   rw [List.isEmpty_eq_false_iff]; intro h; rw [h] at hkl; simp at hkl
  go_wp2_with fail
  go_loopw [14] (fun i wr => ∃ k : Nat, k ≤ 4 ∧ i = .int .i64 k ∧ au5 c kinds parts k = true ∧ Below w2.heap.size w2 wr) (fun i _ => 4 - (intOf i).toNat)
  case atStart => exact ⟨0, by omega, rfl, rfl, Below.refl _ _⟩
  case round =>
   obtain ⟨k, hk, rfl, ha, hb⟩ := hrel
   have HA := show Hid _ from ha
   clear ha
   replace L1 := L1.below hb L1.lt
   by_cases hlt : k < 4
   ·have x0 := L1.cell 0
    have x1 := L1.cell 1
    have x2 := L1.cell 2
    simp only [bX3, bX6] at x0 x1 x2
    have z0 := fun X => i6 x0 X
    have z1 := fun X => i6 x1 X
    have z2 := fun X => i6 x2 X
    have hpk : k < parts.length := by rw [HPL.out]; exact hlt
    have p0 : wr.cell? ⟨g, k, none⟩ = some (.int .i64 parts[k]) := by
     rw [(O9 hb).1 _ _ hg]; exact hp k _ (by simp [hpk])
    have hkk : k < kinds.length := by rw [hkl]; exact hlt
    have HS := show Hid _ from aC9 c kinds parts k
    have HG := show Hid (parts.getD k 0 = parts[k]) from by simp [Hid, hpk]
    have HKD := show Hid (kinds.getD k 0 = kinds[k]) from by simp [Hid, hkk]
    have BW := B2.trans (hb.mono B2.size)
    clear x0 x1 x2 hp
    cases hr : H5 c kinds[k] parts[k]
    all_goals
     have HR := show Hid _ from hr
     clear hr
     have HC : Hid (∀ X, Calls Tryz.prog 67 #[.agg #[v1, v2, v3], .int .u8 kinds[k].toNat, .int .i64 parts[k]] (wr.ext X) fun e w'' => e = .returned (.bool _) ∧ ∃ Y, w'' = wr.ext Y) :=
      fun X => Calls.ext_of' ((aI5 v1 v2 v3 c kinds[k] parts[k] _ ((h1.below BW).below (s3 _ X)) ((h2.below BW).below (s3 _ X)) ((h3.below BW).below (s3 _ X))).mono fun e w' h => by rw [HR.out] at h; exact h)
     go_wp2_with fail
     refine F9 (by kernel_rfl) (by kernel_rfl) ?_
     repeat (any_goals (first | go_big_quiet_step ((go_at_call 67; exact HC.out _)) | quiet_step ((go_at_call 67; exact HC.out _))))
     refine wpQuiet_nil ?_
     rintro _ ⟨X, rfl⟩
     have hbX := hb.trans ((s3 wr X).mono hb.size)
     go_wp2_with fail
    ·go_ret
     exact ⟨j5 (by rw [hR.out, a87 4 hlt (by rw [HG.out, HKD.out, HR.out])]), B2.trans (hbX.mono B2.size)⟩
    ·exact ⟨⟨k + 1, by omega, by go_num, by rw [HS.out, HA.out, HG.out, HKD.out, HR.out]; rfl, hbX⟩, by simp [intOf]; omega⟩
   ·go_wp2_with fail
    go_ret
    obtain rfl : k = 4 := by omega
    exact ⟨j5 (by rw [hR.out, HA.out]), B2.trans (hb.mono B2.size)⟩
 ·have hR : Hid (v8 c x = false) := by
   unfold Hid v8
   rcases Classical.not_and_iff_not_or_not.1 hop with h | h
   ·rw [decide_eq_false h]; rfl
   ·rw [decide_eq_false h]; simp
  rw [aC1 hop]
  have p0 := hp 0 (.int .i64 x.a) (by simp)
  clear hop hp h1 h2 h3
  go_wp2_with fail
  go_loopw [14] (fun i wr => i = .int .i64 0 ∧ w2 = wr) (fun i _ => 0)
  case atStart => exact ⟨rfl, rfl⟩
  case round =>
   obtain ⟨rfl, rfl⟩ := hrel
   go_wp2_with fail
   refine F9 (by kernel_rfl) (by kernel_rfl) ?_
   repeat (any_goals (first | go_big_quiet_step ((fail)) | quiet_step ((fail))))
   refine wpQuiet_nil ?_
   rintro _ ⟨X, rfl⟩
   have hbX := B2.trans ((s3 w2 X).mono B2.size)
   go_wp2_with fail
   go_ret
   exact ⟨j5 hR.out.symm, hbX⟩
theorem aq0 (v : Value) (c : b6) (x : c7) (b : Nat) (v1 v2 v3 : Value) (w : World) (hv : v = .agg #[v1, v2, v3]) (h : A3 w v c) (hb : y9 w b [v1, v2, v3]) :
  Calls Tryz.prog 36 #[x.v, .pointer (some ⟨b, 0, none⟩)] w fun e w' => e = .returned (.bool (!v8 c x)) ∧ Below w.heap.size w w' := by
 subst hv
 obtain ⟨W, hW⟩ : ∃ W, W = (w.alloc (.cells #[.int .i64 x.op, .int .i64 x.a, .int .i64 x.b, .int .i64 x.c, .int .i64 x.d] 60)) := ⟨_, rfl⟩
 have B0 : Below w.heap.size w W := by rw [hW]; go_grown
 have L1 : y9 W b [v1, v2, v3] := hb.below B0 hb.lt
 have L2 : y9 W w.heap.size [.int .i64 x.op, .int .i64 x.a, .int .i64 x.b, .int .i64 x.c, .int .i64 x.d] := by rw [hW]; exact y9.new w [.int .i64 x.op, .int .i64 x.a, .int .i64 x.b, .int .i64 x.c, .int .i64 x.d] _
 have x0 := L1.cell 0
 have x1 := L1.cell 1
 have x2 := L1.cell 2
 have y0 := L2.cell 0
 have y1 := L2.cell 1
 have y2 := L2.cell 2
 have y3 := L2.cell 3
 have y4 := L2.cell 4
 simp at x0 x1 x2 y0 y1 y2 y3 y4
 rw [hW] at x0 x1 x2 y0 y1 y2 y3 y4
 go_enter Tryz.func36, Tryz.ntmps36
 go_wp2_with fail
 rw [← hW]
 refine (aI4 _ c x _ (h.below B0)).mono ?_
 rintro e w1 ⟨rfl, b1⟩
 clear x0 x1 x2 y0 y1 y2 y3 y4 hW
 go_wp2_with fail
 go_ret
 exact ⟨rfl, B0.trans (b1.mono B0.size)⟩
theorem a05 (xs : List c7) (c : b6) : (xs.any fun l => !v8 c l) = !xs.all (v8 c) := by
 induction xs with
 | nil => rfl
 | cons x r ih => simp only [List.any_cons, List.all_cons, ih]; cases v8 c x <;> simp
theorem ab1 (v : Value) (c : b6) (w : World) (h : A3 w v c) :
  Calls Tryz.prog 12 #[v] w fun e w' => e = .returned (.bool (f8 c)) ∧ Below w.heap.size w w' := by
 have hrow := h
 obtain ⟨v1, v2, v3, rfl, h1, h2, h3⟩ := h
 have HT : Hid (f8 c = (C6 c.vars c.arrays && decide (1 ≤ c.list.length) && decide (c.list.length ≤ 400) && c.list.all (v8 c) && V0 c)) := rfl
 obtain ⟨W, hW⟩ : ∃ W, W = w.alloc (.cells #[v1, v2, v3] 26) := ⟨_, rfl⟩
 have B0 : Below w.heap.size w W := by rw [hW]; go_grown
 have L1 : y9 W w.heap.size [v1, v2, v3] := by rw [hW]; exact (y9.new w [v1, v2, v3] _)
 have hmf : ∀ fn first cap w, (Instr.makeFunc fn first cap).run Tryz.prog w = .ok (.func fn first cap) w := fun _ _ _ _ => rfl
 obtain ⟨a3, k3, rfl, hk3, hm3, -, hc3⟩ := h3.ins
 have x0 := L1.cell 0
 have x1 := L1.cell 1
 have x2 := L1.cell 2
 simp at x0 x1 x2
 rw [hW] at x0 x1 x2
 go_enter Tryz.func12, Tryz.ntmps12
 go_wp2_with fail
 rw [← hW] at x0 x1 x2 ⊢
 clear hW
 refine (az2 _ _ c.vars c.arrays _ (h1.below B0) (h2.below B0)).mono ?_
 rintro e w1 ⟨rfl, rfl⟩
 cases hh : C6 c.vars c.arrays
 ·have HH := show Hid _ from hh
  clear hh hc3
  go_wp2_with fail
  go_ret
  exact ⟨j5 (by rw [HT.out, HH.out]; rfl), B0⟩
 ·have HH := show Hid _ from hh
  clear hh
  go_wp2_with fail
  refine (A6 _ 1 400 _).mono ?_
  rintro e w1 ⟨rfl, rfl⟩
  by_cases hn : (1 : Int) ≤ (c.list.length : Int) ∧ (c.list.length : Int) ≤ 400
  ·have hn' : (decide ((1 : Int) ≤ (c.list.length : Int)) && decide ((c.list.length : Int) ≤ 400)) = true := by simpa using hn
   have HN := show Hid _ from hn
   rw [hn']
   clear hn hn'
   go_wp2_with fail
   refine (aj2 (fun l => !v8 c l) 36 _ _ c.list _ (h3.below B0) (al3 Tryz.func36 (by kernel_rfl) rfl) (fun x w' hb => aq0 _ c x _ _ _ _ w' rfl ((hrow.below B0).below hb) (L1.below hb L1.lt))).mono ?_
   rintro e w1 ⟨rfl, b1⟩
   rw [a05]
   have BW := B0.trans (b1.mono B0.size)
   replace L1 := L1.below b1 L1.lt
   clear x0 x1 x2
   cases ha : c.list.all (v8 c)
   ·have HA := show Hid _ from ha
    clear ha hc3
    go_wp2_with fail
    go_ret
    exact ⟨j5 (by rw [HT.out, HA.out]; simp), BW⟩
   ·have HA := show Hid _ from ha
    clear ha
    have hl : c.list.length - 1 < c.list.length := by have := HN.out; omega
    obtain ⟨b, off, rfl, hb3, i0, i1, i2, i3, i4⟩ := hc3 _ hl
    rw [← (O9 BW).1 _ _ hb3] at i0
    have x2 := L1.cell 2
    simp only [bX3, bX6] at x2
    have hn1 : 1 ≤ c.list.length := by omega
    have hn2 : c.list.length ≤ 400 := by have := HN.out; omega
    have HL : Hid (V0 c = (decide (c.list[c.list.length - 1].op = 13) || decide (c.list[c.list.length - 1].op = 8))) := by
     unfold Hid V0
     rw [List.getLast?_eq_getElem?, bW9 hl]
    clear hc3 i1 i2 i3 i4
    have hF : Hid (f8 c = (decide (c.list[c.list.length - 1].op = 13) || decide (c.list[c.list.length - 1].op = 8))) := by
     unfold Hid; rw [HT.out, HH.out, HA.out, HL.out, decide_eq_true hn1, decide_eq_true hn2]; rfl
    go_wp2_with fail
    all_goals go_ret
    all_goals exact ⟨j5 (by rw [hF.out, bZ7]; simp_all), BW⟩
  ·have hn' : (decide ((1 : Int) ≤ (c.list.length : Int)) && decide ((c.list.length : Int) ≤ 400)) = false := by
    rw [Bool.eq_false_iff]; simp only [ne_eq, bX0, decide_eq_true_eq]; exact hn
   have hF : Hid (f8 c = false) := by
    unfold Hid; rw [HT.out]
    rcases Classical.not_and_iff_not_or_not.1 hn with h | h
    ·rw [decide_eq_false (show ¬ 1 ≤ c.list.length by omega)]; simp
    ·rw [decide_eq_false (show ¬ c.list.length ≤ 400 by omega)]; simp
   rw [hn']
   clear hn hn' hc3
   go_wp2_with fail
   go_ret
   exact ⟨j5 hF.out.symm, B0⟩
end Go.Proofs.YtmokkddidcmglaaGreat

namespace Go.Proofs.YtmokkddidcmglaaGreat
def rle (t u : List Bool) : Prop := ∀ k : Nat, t.getD k false = true → u.getD k false = true
theorem rle.refl (t : List Bool) : rle t t := fun _ h => h
theorem rle.trans {a b c : List Bool} (h : rle a b) (g : rle b c) : rle a c := fun k x => g k (h k x)
theorem aR5 (t row : List Bool) : aJ2 t row t.length = true ↔ rle t row := by
 unfold aJ2 rle
 rw [bX9]
 constructor
 ·intro h k hk
  rcases bY8 k t.length with h1 | h1
  ·have := h k (b11.2 h1)
   rw [hk] at this
   simpa using this
  ·simp [h1] at hk
 ·intro h k _
  cases hk : t.getD k false
  ·rfl
  ·rw [h k hk]; rfl
theorem aR6 (t row : List Bool) : ba1 t row = true ↔ 0 < row.length ∧ rle t row := by
 have : ba1 t row = (decide (0 < row.length) && aJ2 t row t.length) := rfl
 rw [this, bX0, decide_eq_true_eq, aR5]
theorem aw1 (t : List Bool) (a k : Nat) (b : Bool) : (t.set a b).getD k false = if k = a ∧ a < t.length then b else t.getD k false := by
 simp only [bX2, List.getElem?_set]
 by_cases h : a = k
 ·subst h
  by_cases h2 : a < t.length
  ·simp [h2]
  ·simp [h2]
 ·rw [if_neg h, if_neg (fun x => h x.1.symm)]
theorem bo3 {t u : List Bool} (h : rle t u) (k : Int) : bAt t k = true → bAt u k = true := h k.toNat
theorem az7 {c : b6} {x : c7} {t u : List Bool} (h : rle t u) : (W2 c x t = none ∧ W2 c x u = none) ∨ ∃ p q, W2 c x t = some p ∧ W2 c x u = some q ∧ (p = true → q = true) := by
 have hb := bo3 h
 unfold W2
 by_cases h1 : x.op = 1 ∨ x.op = 11
 ·rw [if_pos h1, if_pos h1]; exact .inr ⟨_, _, rfl, rfl, id⟩
 rw [if_neg h1, if_neg h1]
 by_cases h2 : x.op = 2
 ·rw [if_pos h2, if_pos h2]; exact .inr ⟨_, _, rfl, rfl, id⟩
 rw [if_neg h2, if_neg h2]
 by_cases h4 : x.op = 4
 ·rw [if_pos h4, if_pos h4]; refine .inr ⟨_, _, rfl, rfl, fun g => ?_⟩
  simp only [Bool.or_eq_true] at g ⊢
  rcases g with g | g
  ·exact .inl g
  ·exact .inr (hb _ g)
 rw [if_neg h4, if_neg h4]
 by_cases h6 : x.op = 6
 ·rw [if_pos h6, if_pos h6]; refine .inr ⟨_, _, rfl, rfl, fun g => ?_⟩
  simp only [Bool.or_eq_true] at g ⊢
  rcases g with g | g
  ·exact .inl (hb _ g)
  ·exact .inr (hb _ g)
 rw [if_neg h6, if_neg h6]
 by_cases h7 : x.op = 7
 ·rw [if_pos h7, if_pos h7]; refine .inr ⟨_, _, rfl, rfl, fun g => ?_⟩
  simp only [Bool.or_eq_true] at g ⊢
  rcases g with (g | g) | g
  ·exact .inl (.inl (hb _ g))
  ·exact .inl (.inr (hb _ g))
  ·exact .inr (hb _ g)
 rw [if_neg h7, if_neg h7]
 exact .inl ⟨rfl, rfl⟩
theorem aT5 {c : b6} {x : c7} {t u : List Bool} (hl : t.length = u.length) (h : rle t u) : rle (T3 c x t) (T3 c x u) := by
 unfold T3
 rcases az7 (c := c) (x := x) h with ⟨e1, e2⟩ | ⟨p, q, e1, e2, hpq⟩
 ·rw [e1, e2]; exact h
 ·rw [e1, e2]
  intro k
  rw [aw1, aw1, hl]
  split
  ·exact hpq
  ·exact h k
def mle (m p : List (List Bool)) : Prop := ∀ i : Nat, (rowAt m i).length = 0 ∨ ((rowAt p i).length ≠ 0 ∧ rle (rowAt m i) (rowAt p i))
def ai9 (c : b6) (m : List (List Bool)) : Prop := m.length = c.list.length ∧ m.all au1 = true ∧ (rowAt m 0).length ≠ 0 ∧ ∀ i : Nat, i < m.length → ab3 c m i = true
def aI1 (c : b6) (m : List (List Bool)) : Prop := ai9 c m ∧ ∀ p, ai9 c p → mle m p
structure Low (c : b6) (m : List (List Bool)) : Prop where
 len : m.length = c.list.length
 ok : m.all au1 = true
 first : (rowAt m 0).length ≠ 0
 low : ∀ p, ai9 c p → mle m p
theorem Low.least {c : b6} {m : List (List Bool)} (h : Low c m) (hc : ∀ i : Nat, i < m.length → ab3 c m i = true) : aI1 c m := ⟨⟨h.len, h.ok, h.first, hc⟩, h.low⟩
theorem I2 {m : List (List Bool)} {y : Nat} (r : List Bool) (i : Int) (hy : y < m.length) : rowAt (m.set y r) i = if i.toNat = y then r else rowAt m i := by
 unfold rowAt
 simp only [bX2, List.getElem?_set]
 by_cases h : y = i.toNat
 ·rw [if_pos h, if_pos h.symm]; subst h; simp [hy]
 ·rw [if_neg h, if_neg (Ne.symm h)]
theorem Low.start {c : b6} (hn : 1 ≤ c.list.length) : Low c ((bW8 c.list.length ([] : List Bool)).set 0 (bW8 14 false)) := by
 have hl : 0 < (bW8 c.list.length ([] : List Bool)).length := by rw [bY6]; omega
 refine ⟨by simp, ?_, ?_, fun p hp i => ?_⟩
 ·rw [bX9]
  intro r hr
  rcases List.mem_or_eq_of_mem_set hr with h | h
  ·rw [(List.mem_replicate.1 h).2]; rfl
  ·rw [h]; rfl
 ·rw [I2 _ _ hl]; simp
 ·rw [I2 _ _ hl]
  by_cases hi : i = 0
  ·subst hi
   right
   refine ⟨hp.2.2.1, fun k hk => ?_⟩
   exfalso
   rw [if_pos (by simp)] at hk
   simp only [bX2, List.getElem?_replicate] at hk
   split at hk <;> simp at hk
  ·left
   rw [if_neg (by simpa using hi)]
   unfold rowAt
   simp only [bX2, List.getElem?_replicate]
   split <;> simp
theorem Low.set {c : b6} {m : List (List Bool)} (h : Low c m) {y : Nat} (hy : y < m.length) {r : List Bool} (hr : r.length = 14) (hp : ∀ p, ai9 c p → (rowAt p y).length ≠ 0 ∧ rle r (rowAt p y)) : Low c (m.set y r) := by
 refine ⟨by simpa using h.len, ?_, ?_, fun p g i => ?_⟩
 ·rw [bX9]
  intro r' hr'
  rcases List.mem_or_eq_of_mem_set hr' with h' | h'
  ·exact bX9.1 h.ok _ h'
  ·rw [h']; simp [au1, hr]
 ·rw [I2 _ _ hy]
  split
  ·omega
  ·exact h.first
 ·rw [I2 _ _ hy]
  split
  ·rename_i e
   have e : i = y := by simpa using e
   subst e
   exact .inr (hp p g)
  ·exact h.low p g i
theorem Low.after {c : b6} {m : List (List Bool)} (h : Low c m) {i : Nat} (hi : i < m.length) (h14 : (rowAt m i).length = 14) : ∀ p, ai9 c p → ∀ t ∈ nx c i, (rowAt p t).length ≠ 0 ∧ rle (T3 c (z9 c i) (rowAt m i)) (rowAt p t) := by
 intro p hp t ht
 have hpi : i < p.length := by rw [hp.1, ← h.len]; exact hi
 rcases h.low p hp i with h0 | ⟨hn, hr⟩
 ·omega
 ·have hc := hp.2.2.2 i hpi
  unfold ab3 at hc
  rw [Bool.or_eq_true, decide_eq_true_eq] at hc
  rcases hc with hc | hc
  ·exact absurd hc hn
  ·have := bX9.1 hc t ht
   rw [aR6] at this
   have h2 := a83 hp.2.1 i
   exact ⟨by omega, (aT5 (by omega) hr).trans this.2⟩
def ap2 (r : List Bool) : Nat := if r.length = 0 then 15 else r.count false
def pot (m : List (List Bool)) : Nat := (m.map ap2).sum
theorem aG7 : ∀ (m : List (List Bool)) (y : Nat) (r : List Bool) (hy : y < m.length), pot (m.set y r) + ap2 m[y] = pot m + ap2 r
 | [], y, _, hy => by simp at hy
 | a :: m, 0, r, _ => by simp [pot]; omega
 | a :: m, y + 1, r, hy => by
  have := aG7 m y r (by simpa using hy)
  simp [pot] at this ⊢
  omega
theorem bC5 (m : List (List Bool)) (h : m.all au1 = true) : pot m ≤ 15 * m.length := by
 induction m with
 | nil => simp [pot]
 | cons r m ih =>
  simp only [List.all_cons, bX0] at h
  have h1 := ih h.2
  have h2 : ap2 r ≤ 15 := by
   unfold ap2
   split
   ·omega
   ·have := List.count_le_length (a := false) (l := r)
    have := h.1
    simp only [au1, Bool.or_eq_true, decide_eq_true_eq] at this
    omega
  simp only [pot, bZ5, List.sum_cons, bX8] at h1 ⊢
  omega
structure a06 (c : b6) (m : List (List Bool)) (qs : List Int) (k : Nat) : Prop where
 low : Low c m
 q : ∀ x ∈ qs, 0 ≤ x ∧ x < c.list.length ∧ (rowAt m x).length = 14
 pend : ∀ i : Nat, i < c.list.length → ab3 c m i = true ∨ ∃ p, k ≤ p ∧ qs[p]? = some (i : Int)
 cnt : qs.length + pot m ≤ 15 * c.list.length + 1
structure bc5 (c : b6) (m : List (List Bool)) (qs : List Int) (k a : Nat) (t : List Bool) (ns : List Int) (j : Nat) : Prop where
 low : Low c m
 q : ∀ x ∈ qs, 0 ≤ x ∧ x < c.list.length ∧ (rowAt m x).length = 14
 pend : ∀ i : Nat, i < c.list.length → i ≠ a → ab3 c m i = true ∨ ∃ p, k + 1 ≤ p ∧ qs[p]? = some (i : Int)
 self : (∃ p, k + 1 ≤ p ∧ qs[p]? = some (a : Int)) ∨ (∀ y ∈ ns.take j, ba1 t (rowAt m y) = true) ∧ T3 c (z9 c a) (rowAt m a) = t
 cnt : qs.length + pot m ≤ 15 * c.list.length + 1
 bnd : ∀ p, ai9 c p → ∀ y ∈ ns, (rowAt p y).length ≠ 0 ∧ rle t (rowAt p y)
 tl : t.length = 14
theorem a06.start {c : b6} (hn : 1 ≤ c.list.length) : a06 c ((bW8 c.list.length ([] : List Bool)).set 0 (bW8 14 false)) [0] 0 := by
 have hl : 0 < (bW8 c.list.length ([] : List Bool)).length := by rw [bY6]; omega
 have h0 := Low.start hn
 refine ⟨h0, ?_, fun i hi => ?_, ?_⟩
 ·intro x hx
  rw [bZ2.1 hx]
  refine ⟨Int.le_refl _, by omega, ?_⟩
  rw [I2 _ _ hl]; simp
 ·by_cases e : i = 0
  ·subst e; exact .inr ⟨0, bX4 _, rfl⟩
  ·left
   unfold ab3
   rw [Bool.or_eq_true, decide_eq_true_eq]
   left
   rw [I2 _ _ hl, if_neg (by simpa using e)]
   unfold rowAt
   simp only [bX2, List.getElem?_replicate]
   split <;> simp
 ·have := bC5 _ h0.ok
  simp only [bY9, bY6] at this
  simp only [List.length_singleton]
  omega
theorem a06.enter {c : b6} {m : List (List Bool)} {qs : List Int} {k a : Nat} (h : a06 c m qs k) (ha : qs[k]? = some (a : Int)) :
  (rowAt m a).length = 14 ∧ a < c.list.length ∧ bc5 c m qs k a (T3 c (z9 c a) (rowAt m a)) (nx c a) 0 := by
 have hm := h.q a (bY4 ha)
 have hl : a < m.length := by rw [h.low.len]; omega
 refine ⟨hm.2.2, by omega, h.low, h.q, fun i hi hne => ?_, .inr ⟨by simp, rfl⟩, h.cnt, ?_, by rw [ay3]; exact hm.2.2⟩
 ·rcases h.pend i hi with g | ⟨p, g1, g2⟩
  ·exact .inl g
  ·refine .inr ⟨p, ?_, g2⟩
   rcases bY8 k p with g3 | g3
   ·exact g3
   ·have : p = k := by omega
    subst this
    rw [ha] at g2
    have := Option.some.inj g2
    omega
 ·exact fun p hp y hy => h.low.after hl hm.2.2 p hp y hy
theorem bc5.keep {c : b6} {m : List (List Bool)} {qs : List Int} {k a : Nat} {t : List Bool} {ns : List Int} {j : Nat} (h : bc5 c m qs k a t ns j) (hj : j < ns.length) (hc : ba1 t (rowAt m ns[j]) = true) : bc5 c m qs k a t ns (j + 1) := by
 refine ⟨h.low, h.q, h.pend, ?_, h.cnt, h.bnd, h.tl⟩
 rcases h.self with g | ⟨g1, g2⟩
 ·exact .inl g
 ·refine .inr ⟨fun y hy => ?_, g2⟩
  rw [H6 _ _ hj, bY7, bZ2] at hy
  rcases hy with hy | hy
  ·exact g1 y hy
  ·rw [hy]; exact hc
theorem bc5.done {c : b6} {m : List (List Bool)} {qs : List Int} {k a : Nat} {t : List Bool} {j : Nat} (h : bc5 c m qs k a t (nx c a) j) (hj : (nx c a).length ≤ j) : a06 c m qs (k + 1) := by
 refine ⟨h.low, h.q, fun i hi => ?_, h.cnt⟩
 by_cases e : i = a
 ·subst e
  rcases h.self with g | ⟨g1, g2⟩
  ·exact .inr g
  ·left
   rw [bY3 hj] at g1
   unfold ab3
   rw [Bool.or_eq_true]
   right
   rw [bX9, g2]
   exact g1
 ·exact h.pend i hi e
theorem a06.done {c : b6} {m : List (List Bool)} {qs : List Int} (h : a06 c m qs qs.length) : aI1 c m := by
 refine h.low.least fun i hi => ?_
 rcases h.pend i (by rw [← h.low.len]; exact hi) with g | ⟨p, g1, g2⟩
 ·exact g
 ·have := (bX7.1 g2).1
  omega
structure az9 (c : b6) (m : List (List Bool)) (p0 : Nat) (ch : Bool) (i : Nat) : Prop where
 low : Low c m
 cov : ch = false → ∀ j : Nat, j < i → ab3 c m j = true
 le : pot m ≤ p0
 lt : ch = true → pot m < p0
structure KInv (c : b6) (m : List (List Bool)) (p0 : Nat) (ch : Bool) (i : Nat) (t : List Bool) (ns : List Int) (j : Nat) : Prop where
 low : Low c m
 cov : ch = false → (∀ j : Nat, j < i → ab3 c m j = true) ∧ T3 c (z9 c i) (rowAt m i) = t ∧ ∀ y ∈ ns.take j, ba1 t (rowAt m y) = true
 le : pot m ≤ p0
 lt : ch = true → pot m < p0
 bnd : ∀ p, ai9 c p → ∀ y ∈ ns, (rowAt p y).length ≠ 0 ∧ rle t (rowAt p y)
 tl : t.length = 14
structure aA0 (c : b6) (m : List (List Bool)) (p0 : Nat) (ch : Bool) (i : Nat) (t : List Bool) (ns : List Int) (j y q : Nat) : Prop extends KInv c m p0 ch i t ns j where
 row : (rowAt m y).length = 14
 bits : ch = false → ∀ k : Nat, k < q → t.getD k false = true → (rowAt m y).getD k false = true
theorem az9.start {c : b6} {m : List (List Bool)} (h : Low c m) : az9 c m (pot m) false 0 := ⟨h, fun _ j hj => by omega, bX4 _, fun h => by cases h⟩
theorem az9.done {c : b6} {m : List (List Bool)} {p0 i : Nat} (h : az9 c m p0 false i) (hi : m.length ≤ i) : aI1 c m := h.low.least fun j hj => h.cov rfl j (by omega)
theorem az9.skip {c : b6} {m : List (List Bool)} {p0 i : Nat} {ch : Bool} (h : az9 c m p0 ch i) (h0 : (rowAt m i).length = 0) : az9 c m p0 ch (i + 1) := by
 refine ⟨h.low, fun g j hj => ?_, h.le, h.lt⟩
 rcases bY8 j i with h1 | h1
 ·exact h.cov g j h1
 ·obtain rfl : j = i := by omega
  unfold ab3
  rw [h0]; rfl
theorem az9.enter {c : b6} {m : List (List Bool)} {p0 i : Nat} {ch : Bool} (h : az9 c m p0 ch i) (hi : i < m.length) (h14 : (rowAt m i).length = 14) {ns : List Int} (hns : ∀ y, y ∈ ns ↔ y ∈ nx c i) : KInv c m p0 ch i (T3 c (z9 c i) (rowAt m i)) ns 0 :=
 ⟨h.low, fun g => ⟨h.cov g, rfl, by simp⟩, h.le, h.lt, fun p hp y hy => h.low.after hi h14 p hp y ((hns y).1 hy), by rw [ay3]; exact h14⟩
theorem KInv.done {c : b6} {m : List (List Bool)} {p0 i j : Nat} {ch : Bool} {t : List Bool} {ns : List Int} (h : KInv c m p0 ch i t ns j) (hj : ns.length ≤ j) (hns : ∀ y, y ∈ ns ↔ y ∈ nx c i) : az9 c m p0 ch (i + 1) := by
 refine ⟨h.low, fun g k hk => ?_, h.le, h.lt⟩
 obtain ⟨g1, g2, g3⟩ := h.cov g
 rcases bY8 k i with h1 | h1
 ·exact g1 k h1
 ·obtain rfl : k = i := by omega
  rw [bY3 hj] at g3
  unfold ab3
  rw [Bool.or_eq_true]
  right
  rw [bX9, g2]
  exact fun y hy => g3 y ((hns y).2 hy)
theorem KInv.bits {c : b6} {m : List (List Bool)} {p0 i j y : Nat} {ch : Bool} {t : List Bool} {ns : List Int} (h : KInv c m p0 ch i t ns j) (h14 : (rowAt m y).length = 14) : aA0 c m p0 ch i t ns j y 0 :=
 ⟨h, h14, fun _ k hk => by omega⟩
theorem KInv.fresh {c : b6} {m : List (List Bool)} {p0 i j y : Nat} {ch : Bool} {t : List Bool} {ns : List Int} (h : KInv c m p0 ch i t ns j) (hj : j < ns.length) (hy : ns[j] = (y : Int)) (hym : y < m.length) (h0 : (rowAt m y).length = 0) :
  aA0 c (m.set y (bW8 14 false)) p0 true i t ns j y 0 := by
 have hf : ∀ k : Nat, (bW8 14 false).getD k false = false := by
  intro k
  simp only [bX2, List.getElem?_replicate]
  split <;> rfl
 have hp := aG7 m y (bW8 14 false) hym
 rw [← ak8 hym] at hp
 have e1 : ap2 (rowAt m y) = 15 := by unfold ap2; rw [if_pos h0]
 have e2 : ap2 (bW8 14 false) = 14 := by rfl
 rw [e1, e2] at hp
 have hle := h.le
 refine ⟨⟨?_, (fun g => by cases g), by omega, fun _ => by omega, h.bnd, h.tl⟩, ?_, (fun g => by cases g)⟩
 ·refine h.low.set hym (by simp) fun p hpp => ⟨(h.bnd p hpp y (by rw [← hy]; exact bZ0 hj)).1, fun k hk => ?_⟩
  rw [hf k] at hk
  cases hk
 ·rw [I2 _ _ hym, if_pos (by simp)]; simp
theorem aA0.keep {c : b6} {m : List (List Bool)} {p0 i j y q : Nat} {ch : Bool} {t : List Bool} {ns : List Int} (h : aA0 c m p0 ch i t ns j y q) (hq : t.getD q false = true → (rowAt m y).getD q false = true) : aA0 c m p0 ch i t ns j y (q + 1) := by
 refine ⟨h.toKInv, h.row, fun g k hk ht => ?_⟩
 rcases bY8 k q with h1 | h1
 ·exact h.bits g k h1 ht
 ·obtain rfl : k = q := by omega
  exact hq ht
theorem aA0.put {c : b6} {m : List (List Bool)} {p0 i j y q : Nat} {ch : Bool} {t : List Bool} {ns : List Int} (h : aA0 c m p0 ch i t ns j y q) (hj : j < ns.length) (hy : ns[j] = (y : Int)) (hym : y < m.length) (hq : q < 14) (h1 : t.getD q false = true) (h0 : (rowAt m y).getD q false = false) :
  aA0 c (m.set y ((rowAt m y).set q true)) p0 true i t ns j y (q + 1) := by
 have hl := h.row
 have hp := aG7 m y ((rowAt m y).set q true) hym
 rw [← ak8 hym] at hp
 have hb : (rowAt m y)[q]? = some false := by
  rw [bX2] at h0
  rw [bW9 (by omega)] at h0 ⊢
  simpa using h0
 have e1 : ap2 (rowAt m y) = (rowAt m y).count false := by unfold ap2; rw [if_neg (by omega)]
 have e2 : ap2 ((rowAt m y).set q true) = ((rowAt m y).set q true).count false := by unfold ap2; rw [if_neg (by rw [bY9]; omega)]
 have e3 := al7 hb
 rw [e1, e2] at hp
 have hle := h.le
 refine ⟨⟨?_, (fun g => by cases g), by omega, fun _ => by omega, h.bnd, h.tl⟩, ?_, (fun g => by cases g)⟩
 ·refine h.low.set hym (by rw [bY9]; exact hl) fun p hpp => ?_
  have hb := h.bnd p hpp y (by rw [← hy]; exact bZ0 hj)
  refine ⟨hb.1, fun k hk => ?_⟩
  rw [aw1] at hk
  split at hk
  ·rename_i e
   rw [e.1]
   exact hb.2 q h1
  ·rcases h.low.low p hpp y with h2 | h2
   ·omega
   ·exact h2.2 k hk
 ·rw [I2 _ _ hym, if_pos (by simp), bY9]; exact hl
theorem aA0.done {c : b6} {m : List (List Bool)} {p0 i j y q : Nat} {ch : Bool} {t : List Bool} {ns : List Int} (h : aA0 c m p0 ch i t ns j y q) (hj : j < ns.length) (hy : ns[j] = (y : Int)) (hq : 14 ≤ q) : KInv c m p0 ch i t ns (j + 1) := by
 refine ⟨h.low, fun g => ?_, h.le, h.lt, h.bnd, h.tl⟩
 obtain ⟨g1, g2, g3⟩ := h.cov g
 refine ⟨g1, g2, fun z hz => ?_⟩
 rw [H6 _ _ hj, bY7, bZ2] at hz
 rcases hz with hz | hz
 ·exact g3 z hz
 ·rw [hz, hy, aR6]
  refine ⟨by have := h.row; omega, fun k hk => ?_⟩
  rcases bY8 k 14 with h1 | h1
  ·exact h.bits g k (by omega) hk
  ·have := h.tl
   simp [show t.length ≤ k by omega] at hk
noncomputable def bK8 (c : b6) (i : Nat) : List Bool := open Classical in if ∀ p, ai9 c p → (rowAt p i).length ≠ 0 then (bY5 14).map fun k => decide (∀ p, ai9 c p → (rowAt p i).getD k false = true) else []
noncomputable def bW3 (c : b6) : List (List Bool) := (bY5 c.list.length).map (bK8 c)
theorem bD5 {c : b6} {x : c7} (hx : v8 c x = true) (h : ¬ 0 ≤ l8 x) : x.op ≠ 8 ∧ x.op ≠ 9 ∧ x.op ≠ 10 := by
 have := aF5 hx
 refine ⟨fun e => ?_, fun e => ?_, fun e => ?_⟩
 ·exact h (this (.inl e)).1
 ·exact h (this (.inr (.inl e))).1
 ·exact h (this (.inr (.inr e))).1
end Go.Proofs.YtmokkddidcmglaaGreat

namespace Go.Proofs.YtmokkddidcmglaaGreat
open Go Go.RowKit
abbrev bools (l : List Bool) : List Value := l.map Value.bool
theorem aD7 (v : Value) (t : List Int) (w : World) (h : F2 w v t.length 1 (ints t)) (hb : t.length ≤ 1000000000000) :
  Calls Tryz.prog 71 #[v] w fun e w' => ∃ u, e = .returned u ∧ D6 w' w.heap.size w'.heap.size 3 1 u t.length (ints t) ∧ Below w.heap.size w w' := by
 obtain ⟨a, cap, rfl, hc1, hc2, hc3, -⟩ := h.open
 have hnil := fun w => Lib.run_eql_slice_nil (P := Tryz.prog) w 23 3 a t.length cap 0 0 Tryz.underlying23
 rcases a with _ | a
 ·have hn : t.length = 0 := by
   rcases Nat.eq_zero_or_pos t.length with h0 | h0
   ·exact h0
   ·obtain ⟨_, a, c, he, _, _, hx⟩ := h
    cases he
    obtain ⟨_, _, he, _⟩ := hx h0
    cases he
  have ht : t = [] := bZ3 hn
  subst ht
  simp only [bY2, Option.isNone_none] at hnil
  go_enter Tryz.func71, Tryz.ntmps71
  go_wp2_with fail
  go_ret
  exact ⟨_, rfl, ⟨World.ownsRow_nil _ _ _ _, fun g hg => by cases hg⟩, Below.refl _ _⟩
 ·go_enter Tryz.func71, Tryz.ntmps71
  simp only [Option.isNone_some] at hnil
  have ba := (Below.refl w.heap.size w).alloc (bX4 _) (.cells #[] 3)
  go_wp2_with (at_builtin; refine W8 rfl _ _ rfl Tryz.underlying23 a55 rfl (by omega) rfl (C3 w #[] 0 1 _ rfl rfl (by omega)).1 rfl (h.below ba) av7 (by omega) (by omega) (by simp) ?_; rintro a4 q4 w4 o4 b4 - -)
  go_ret
  refine ⟨_, rfl, D6.mk' (by simpa using o4), ba.trans b4⟩
theorem ba4 (v : Value) (t : List c7) (w : World) (h : O0 w v t) (hb : t.length ≤ 1000000000000) :
  Calls Tryz.prog 72 #[v] w fun e w' => ∃ u, e = .returned u ∧ D6 w' w.heap.size w'.heap.size 60 5 u t.length (ints (A8 t)) ∧ Below w.heap.size w w' := by
 obtain ⟨a, cap, rfl, hc1, hc2, hc3, -⟩ := h.open
 have hnil := fun w => Lib.run_eql_slice_nil (P := Tryz.prog) w 24 60 a t.length cap 0 0 Tryz.underlying24
 rcases a with _ | a
 ·have hn : t.length = 0 := by
   rcases Nat.eq_zero_or_pos t.length with h0 | h0
   ·exact h0
   ·obtain ⟨_, a, c, he, _, _, hx⟩ := h
    cases he
    obtain ⟨_, _, he, _⟩ := hx h0
    cases he
  have ht : t = [] := bZ3 hn
  subst ht
  simp only [bY2, Option.isNone_none] at hnil
  go_enter Tryz.func72, Tryz.ntmps72
  go_wp2_with fail
  go_ret
  exact ⟨_, rfl, ⟨World.ownsRow_nil _ _ _ _, fun g hg => by cases hg⟩, Below.refl _ _⟩
 ·go_enter Tryz.func72, Tryz.ntmps72
  simp only [Option.isNone_some] at hnil
  have ba := (Below.refl w.heap.size w).alloc (bX4 _) (.cells #[] 60)
  go_wp2_with (at_builtin; refine W8 rfl _ _ rfl Tryz.underlying24 bz6 rfl (by omega) rfl (C3 w #[] 0 5 _ rfl rfl (by omega)).1 rfl (h.below ba) av7 (by omega) (by omega) (by simp) ?_; rintro a4 q4 w4 o4 b4 - -)
  go_ret
  refine ⟨_, rfl, D6.mk' (by simpa using o4), ba.trans b4⟩
theorem bk9 (v : Value) (c : b6) (w : World) (h : A3 w v c) (hs : c.size ≤ 1048576) :
  Calls Tryz.prog 43 #[v] w fun e w' => ∃ u, e = .returned u ∧ A0 w' w.heap.size w'.heap.size u c ∧ Below w.heap.size w w' := by
 obtain ⟨v1, v2, v3, rfl, h1, h2, h3⟩ := h
 unfold b6.size at hs
 obtain ⟨n, hn⟩ : ∃ n, n = w.heap.size := ⟨_, rfl⟩
 obtain ⟨W, hW⟩ : ∃ W, W = (w.alloc (.cells #[v1, v2, v3] 26)).alloc (.cells #[.slice none 0 0, .slice none 0 0, .slice none 0 0] 26) := ⟨_, rfl⟩
 have B0 : Below n w W := by rw [hW, hn]; go_grown
 have sW : W.heap.size = n + 1 + 1 := by rw [hW, hn]; simp
 have L1 : y9 W n [v1, v2, v3] := by rw [hW, hn]; exact (y9.new w [v1, v2, v3] _).alloc _
 have L2 : y9 W (n + 1) [.slice none 0 0, .slice none 0 0, .slice none 0 0] := by rw [hW, hn]; exact y9.new' (w.alloc _) [.slice none 0 0, .slice none 0 0, .slice none 0 0] _ (by simp)
 have hS : ∀ W', Below (n + 1) W W' → Below (n + 1) W W' ∧ (W'.cell? ⟨n, 0, none⟩ = some v1 ∧ W'.cell? ⟨n, 1, none⟩ = some v2 ∧ W'.cell? ⟨n, 2, none⟩ = some v3) := by
  intro W' hb
  have L' := L1.below hb (by omega)
  exact ⟨hb, by simpa using L'.cell 0, by simpa using L'.cell 1, by simpa using L'.cell 2⟩
 have hQ : ∀ W' W'', Below (n + 1 + 1) W W' → Below W'.heap.size W' W'' → Below (n + 1 + 1) W W'' := fun W' W'' g k => g.trans (k.mono (by have := g.size; omega))
 have hT : ∀ W', Below (n + 1 + 1) W W' → (W'.frozen? ⟨n + 1, 0, none⟩ = false ∧ W'.frozen? ⟨n + 1, 1, none⟩ = false ∧ W'.frozen? ⟨n + 1, 2, none⟩ = false) ∧ W'.cell? ⟨n + 1, 0, none⟩ = some (.slice none 0 0) ∧ W'.cell? ⟨n + 1, 1, none⟩ = some (.slice none 0 0) ∧ W'.cell? ⟨n + 1, 2, none⟩ = some (.slice none 0 0) := by
  intro W' hb
  have L' := L2.below hb (by omega)
  exact ⟨⟨L'.free 0, L'.free 1, L'.free 2⟩, by simpa using L'.cell 0, by simpa using L'.cell 1, by simpa using L'.cell 2⟩
 have hA : ∀ W', Below (n + 1 + 1) W W' → Below n w W' := fun W' g => B0.trans (g.mono (by omega))
 have HA1 := show Hid (∀ W', Below (n + 1 + 1) W W' → F2 W' v1 c.vars.length 1 (ints c.vars)) from fun W' g => h1.below (by rw [← hn]; exact hA _ g)
 have HA2 := show Hid (∀ W', Below (n + 1 + 1) W W' → F2 W' v2 c.arrays.length 1 (ints c.arrays)) from fun W' g => h2.below (by rw [← hn]; exact hA _ g)
 have HA3 := show Hid (∀ W', Below (n + 1 + 1) W W' → O0 W' v3 c.list) from fun W' g => h3.below (by rw [← hn]; exact hA _ g)
 have HA := show Hid _ from hA
 have HS := show Hid _ from hS
 have HQ := show Hid _ from hQ
 have HT := show Hid _ from hT
 have hb0 : Below (n + 1 + 1) W W.drew := (Below.refl _ W).drew
 have hb1 : Below (n + 1) W W.drew := (Below.refl _ W).drew
 have HN := show Hid (n = w.heap.size) from hn
 have HL2 := show Hid _ from L2
 have zd : W.drew.heap.size = n + 1 + 1 := sW
 have HB0 := show Hid _ from B0
 clear hS hQ hT hA h1 h2 h3 L1
 go_enter Tryz.func43, Tryz.ntmps43
 go_wp2_with fail
 rw [← HN.out]
 rw [← hW]
 clear hn hW B0 L2
 go_region_held3 (fun W' => Below (n + 1) W W' ∧ (W'.cell? ⟨n, 0, none⟩ = some v1 ∧ W'.cell? ⟨n, 1, none⟩ = some v2 ∧ W'.cell? ⟨n, 2, none⟩ = some v3))
  (first | exact HS.out _ (by assumption) | exact HS.out _ ((by assumption : Below (n + 1 + 1) W _).mono (Nat.le_succ _)) | exact HS.out _ (((((by assumption : Below (n + 1 + 1) W _).mono (Nat.le_succ _)).setCell (bX4 _) _).setCell (bX4 _) _).setCell (bX4 _) _))
  (first
   | (go_at_call 71; refine (aD7 v1 c.vars _ (HA1.out _ (by assumption)) (by omega)).mono ?_; rintro e w7 ⟨u1, rfl, o1, b7⟩; obtain ⟨x1, k1, rfl⟩ := o1.form; have s7 := b7.size; (try replace o2 := o2.keep b7 (by omega)); (try replace o3 := o3.keep b7 (by omega)); have q7 := HQ.out _ _ (by assumption) b7; have z7 := q7.size; obtain ⟨⟨f0, f1, f2⟩, c0, c1, c2⟩ := HT.out _ q7)
   | (go_at_call 71; refine (aD7 v2 c.arrays _ (HA2.out _ (by assumption)) (by omega)).mono ?_; rintro e w7 ⟨u2, rfl, o2, b7⟩; obtain ⟨x2, k2, rfl⟩ := o2.form; have s7 := b7.size; (try replace o1 := o1.keep b7 (by omega)); (try replace o3 := o3.keep b7 (by omega)); have q7 := HQ.out _ _ (by assumption) b7; have z7 := q7.size; obtain ⟨⟨f0, f1, f2⟩, c0, c1, c2⟩ := HT.out _ q7)
   | (go_at_call 72; refine (ba4 v3 c.list _ (HA3.out _ (by assumption)) (by omega)).mono ?_; rintro e w7 ⟨u3, rfl, o3, b7⟩; obtain ⟨x3, k3, rfl⟩ := o3.form; have s7 := b7.size; (try replace o1 := o1.keep b7 (by omega)); (try replace o2 := o2.keep b7 (by omega)); have q7 := HQ.out _ _ (by assumption) b7; have z7 := q7.size; obtain ⟨⟨f0, f1, f2⟩, c0, c1, c2⟩ := HT.out _ q7))
 have L2 := y9.below HL2.out q7 (by omega)
 have L3 := ((L2.set (j := 0) (.slice x1 c.vars.length k1)).set (j := 1) (.slice x2 c.arrays.length k2)).set (j := 2) (.slice x3 c.list.length k3)
 replace o1 := (((o1.other (b := n + 1) (by omega) 0 (.slice x1 c.vars.length k1)).other (b := n + 1) (by omega) 1 (.slice x2 c.arrays.length k2)).other (b := n + 1) (by omega) 2 (.slice x3 c.list.length k3))
 replace o2 := (((o2.other (b := n + 1) (by omega) 0 (.slice x1 c.vars.length k1)).other (b := n + 1) (by omega) 1 (.slice x2 c.arrays.length k2)).other (b := n + 1) (by omega) 2 (.slice x3 c.list.length k3))
 replace o3 := (((o3.other (b := n + 1) (by omega) 0 (.slice x1 c.vars.length k1)).other (b := n + 1) (by omega) 1 (.slice x2 c.arrays.length k2)).other (b := n + 1) (by omega) 2 (.slice x3 c.list.length k3))
 have BF := (((HB0.out.trans (q7.mono (by omega))).setCell (p := ⟨n + 1, 0, none⟩) (by show n ≤ n + 1; omega) (.slice x1 c.vars.length k1)).setCell (p := ⟨n + 1, 1, none⟩) (by show n ≤ n + 1; omega) (.slice x2 c.arrays.length k2)).setCell (p := ⟨n + 1, 2, none⟩) (by show n ≤ n + 1; omega) (.slice x3 c.list.length k3)
 have zF : (((w7.setCell ⟨n + 1, 0, none⟩ (.slice x1 c.vars.length k1)).setCell ⟨n + 1, 1, none⟩ (.slice x2 c.arrays.length k2)).setCell ⟨n + 1, 2, none⟩ (.slice x3 c.list.length k3)).heap.size = w7.heap.size := by simp
 generalize ((w7.setCell ⟨n + 1, 0, none⟩ (.slice x1 c.vars.length k1)).setCell ⟨n + 1, 1, none⟩ (.slice x2 c.arrays.length k2)).setCell ⟨n + 1, 2, none⟩ (.slice x3 c.list.length k3) = WF at *
 have r0 := L3.cell 0
 have r1 := L3.cell 1
 have r2 := L3.cell 2
 simp at r0 r1 r2
 have hn' := HN.out
 clear f0 f1 f2 c0 c1 c2 L2 HS HQ HT HA HA1 HA2 HA3 HL2 HB0 hb0 hb1 HN
 go_wp2_with fail
 refine bodyPost_ret (v := .agg #[.slice x1 c.vars.length k1, .slice x2 c.arrays.length k2, .slice x3 c.list.length k3]) (by simp [results, Tryz.results43, go_sem, r0, r1, r2]) rfl ⟨_, rfl, ⟨_, _, _, rfl, o1.wide (by omega) (by omega), o2.wide (by omega) (by omega), o3.wide (by omega) (by omega), ac9 o1 o2 (by omega), ac9 o1 o3 (by omega), ac9 o2 o3 (by omega)⟩, by rw [← hn']; exact BF⟩
theorem Z8 {P : Program} {w : World} {ops : Array Oper} {rest : List Oper} {o : Oper} {a : Act} {Q : Exit → Act → World → Prop} {t e : TypeId} {z : Value} {size bytes lo : Nat} {u v : Value} {m : Nat} {news : List Value}
  (hgd : o.guard = none) (s x : Operand) (ho : o.op = .call { callee := .builtin .append, args := #[s, x], argTypes := #[t, t] })
  (ht : P.underlying t = some (.slice e)) (hi : (P.info? e).map (fun i => (i.zero, i.size, i.bytes)) = some (some z, size, bytes))
  (hzs : z.cells.size = size) (hsz : 0 < size) (hv : ∃ b, v = .slice (some b) 0 0) (hown : w.ownsRow lo e size v 0 []) (hs : a.eval s = v) (hx : a.eval x = u) (hr : F2 w u m size news) (hbytes : m * bytes ≤ 140737488355328) (hlo : lo ≤ w.heap.size)
  (h : ∀ x w', w'.ownsRow lo e size x m news → Below w.heap.size w w' → (x = v ∨ ∀ g, x.ownBlock = some g → w.heap.size ≤ g) → wpList P ops Q rest (a.put o.dst x) w') : wpList P ops Q (o :: rest) a w := by
 obtain ⟨b, rfl⟩ := hv
 refine wpList_plain hgd fun K hK => ?_
 have hrun : ∃ x w', (Builtin.append_ #[t, t] o.type #[.slice (some b) 0 0, u]).run P w = .ok x w' ∧ w'.ownsRow lo e size x m news ∧ Below w.heap.size w w' ∧ (x = .slice (some b) 0 0 ∨ ∀ g, x.ownBlock = some g → w.heap.size ≤ g) := by
  obtain ⟨i, g1, g2, g3, g4⟩ := info_parts hi
  obtain ⟨hl, A, c, rfl, hmc, hc, hA⟩ := hr
  rcases Nat.eq_zero_or_pos m with h0 | h0
  ·subst h0
   have hn : news = [] := bZ3 (by simpa using hl)
   subst hn
   refine ⟨.slice (some b) 0 0, w, ?_, hown, Below.refl _ _, .inl rfl⟩
   have hz : ∀ a' : Addr, (loadCells a' 0).run P w = .ok #[] w := fun a' => by simpa using run_loadCells_list (P := P) w a' [] (by simp)
   cases A <;> simp [Builtin.append_, run_underlying ht, sizeOf, typeInfo, g1, Builtin.lenOf, Builtin.firstCells, storeCells, hz]
  ·obtain ⟨bk, off, rfl, hbk, hx⟩ := hA h0
   obtain ⟨v', w', h1, h2, h3⟩ := run_append_arg_grows (P := P) (w := w) t o.type e i z size bytes ht g1 g2 g3 g4 hzs hsz b 0 0 [] (by simp) (by simp) ⟨bk, off, none⟩ m c news hl
    (fun j u hj => by
     have hadd : (⟨bk, off, none⟩ : Addr).add j = ⟨bk, off + j, none⟩ := by unfold Addr.add; split <;> simp_all
     rw [hadd]; exact hx j u hj) (by omega) (by omega) (by simpa using hbytes)
   refine ⟨v', w', h1, z4 (by simpa using h2) hlo, ⟨h3.os, h3.tape, h3.output, h3.size, fun k hk => h3.block k hk (by simp)⟩, .inr fun g hg => (h2.lt g hg).1⟩
 obtain ⟨y, w', hrun, h2, h3, h4⟩ := hrun
 unfold Oper.wp execOp
 simp only [ho, resolve, invoke, builtin, Sem.run_bind, Sem.run_pure, Result.andThen_ok, List.map_toArray, bZ5, List.map_nil, hs, hx, hrun]
 exact hK _ _ (h y w' h2 h3 h4)
def I5 (i : Nat) : Prop := i % 4 = 0 ∨ i % 4 = 3
def Pv (n : Nat) (v1 v2 v3 : Value) (c : b6) (i : Nat) (x : Value) (w : World) : Prop :=
 match i with
 | 0 => (∃ b, x = .slice (some b) 0 0) ∧ w.ownsRow (n + 1 + 1) 3 1 x 0 []
 | 1 => x = .pointer (some ⟨n, 0, none⟩)
 | 2 => x = v1
 | 3 => w.ownsRow (n + 1 + 1) 3 1 x c.vars.length (ints c.vars)
 | 4 => (∃ b, x = .slice (some b) 0 0) ∧ w.ownsRow (n + 1 + 1) 3 1 x 0 []
 | 5 => x = .pointer (some ⟨n, 1, none⟩)
 | 6 => x = v2
 | 7 => w.ownsRow (n + 1 + 1) 3 1 x c.arrays.length (ints c.arrays)
 | 8 => (∃ b, x = .slice (some b) 0 0) ∧ w.ownsRow (n + 1 + 1) 60 5 x 0 []
 | 9 => x = .pointer (some ⟨n, 2, none⟩)
 | 10 => x = v3
 | 11 => w.ownsRow (n + 1 + 1) 60 5 x c.list.length (ints (A8 c.list))
 | 12 => ∃ y1 y2 y3, x = .agg #[y1, y2, y3] ∧ w.ownsRow (n + 1 + 1) 3 1 y1 c.vars.length (ints c.vars) ∧ w.ownsRow (n + 1 + 1) 3 1 y2 c.arrays.length (ints c.arrays) ∧ w.ownsRow (n + 1 + 1) 60 5 y3 c.list.length (ints (A8 c.list)) ∧ M6 y1 y2 ∧ M6 y1 y3 ∧ M6 y2 y3
 | _ => True
theorem Pv.next {n : Nat} {v1 v2 v3 : Value} {c : b6} {i : Nat} {x : Value} {w w' : World} (h : Pv n v1 v2 v3 c i x w) (hb : Below w.heap.size w w') : Pv n v1 v2 v3 c i x w' := by
 have k := fun {e : TypeId} {sz : Nat} {v : Value} {m : Nat} {xs : List Value} (g : w.ownsRow (n + 1 + 1) e sz v m xs) => X5 g hb (bX4 _)
 unfold Pv at *
 split at h <;> first | exact h | exact k h | exact ⟨h.1, k h.2⟩ | (obtain ⟨y1, y2, y3, e, g1, g2, g3, d⟩ := h; exact ⟨y1, y2, y3, e, k g1, k g2, k g3, d⟩)
theorem Pv.lt {n : Nat} {v1 v2 v3 : Value} {c : b6} {i : Nat} {x : Value} {w : World} (h : Pv n v1 v2 v3 c i x w) (hi : i < 12) (ho : I5 i) : ∀ g, x.ownBlock = some g → g < w.heap.size := by
 intro g hg
 unfold I5 at ho
 have : i = 0 ∨ i = 3 ∨ i = 4 ∨ i = 7 ∨ i = 8 ∨ i = 11 := by omega
 rcases this with rfl | rfl | rfl | rfl | rfl | rfl
 ·exact (h.2.lt g hg).2
 ·exact (World.ownsRow.lt h g hg).2
 ·exact (h.2.lt g hg).2
 ·exact (World.ownsRow.lt h g hg).2
 ·exact (h.2.lt g hg).2
 ·exact (World.ownsRow.lt h g hg).2
def N2 (v : Value) (n : Nat) (f : Nat → Value) : Act := ⟨#[v, .pointer (some ⟨n, 0, none⟩), .pointer (some ⟨n + 1, 0, none⟩), f 0, f 1, f 2, f 3, f 4, f 5, f 6, f 7, f 8, f 9, f 10, f 11, f 12], []⟩
structure aj5 (n : Nat) (v1 v2 v3 : Value) (c : b6) (W : World) (listed : Array Bool) (f : Nat → Value) (w : World) : Prop where
 size : listed.size = 14
 val : ∀ i, i < 13 → listed.getD i false = true → Pv n v1 v2 v3 c i (f i) w
 dis : ∀ i j, i < 12 → j < 12 → I5 i → I5 j → i / 4 ≠ j / 4 → listed.getD i false = true → listed.getD j false = true → M6 (f i) (f j)
 box : Below (n + 1) W w
 big : n + 1 + 1 ≤ w.heap.size
 pre : listed.getD 13 false = false → Below (n + 1 + 1) W w
 post : listed.getD 13 false = true → ∃ y1 y2 y3, y9 w (n + 1) [y1, y2, y3] ∧ w.ownsRow (n + 1 + 1) 3 1 y1 c.vars.length (ints c.vars) ∧ w.ownsRow (n + 1 + 1) 3 1 y2 c.arrays.length (ints c.arrays) ∧ w.ownsRow (n + 1 + 1) 60 5 y3 c.list.length (ints (A8 c.list)) ∧ M6 y1 y2 ∧ M6 y1 y3 ∧ M6 y2 y3
def bG6 (n : Nat) (v1 v2 v3 : Value) (c : b6) (W : World) (listed : Array Bool) (a : Act) (w : World) : Prop := ∃ f : Nat → Value, a = N2 (.agg #[v1, v2, v3]) n f ∧ aj5 n v1 v2 v3 c W listed f w
theorem aj5.step {n : Nat} {v1 v2 v3 : Value} {c : b6} {W : World} {listed : Array Bool} {f : Nat → Value} {w w' : World} (h : aj5 n v1 v2 v3 c W listed f w) {i : Nat} (hi : i < 13) {x : Value} (hb : Below w.heap.size w w') (hx : Pv n v1 v2 v3 c i x w')
  (hd : I5 i → ∀ j, j < 12 → I5 j → i / 4 ≠ j / 4 → listed.getD j false = true → M6 x (f j)) : aj5 n v1 v2 v3 c W (listed.setIfInBounds i true) (fun k => if k = i then x else f k) w' := by
 have hs := hb.size
 have hbig := h.big
 have get : ∀ j, j ≠ i → (listed.setIfInBounds i true).getD j false = true → listed.getD j false = true := fun j hj g => by rwa [getD_set_ne false (fun e => hj e.symm)] at g
 refine ⟨by simpa using h.size, fun j hj g => ?_, fun j k hj hk oj ok hjk gj gk => ?_, h.box.trans (hb.mono (by omega)), by omega, fun g => ?_, fun g => ?_⟩
 ·by_cases e : j = i
  ·subst e; simpa using hx
  ·simp only [if_neg e]; exact (h.val j hj (get j e g)).next hb
 ·by_cases e1 : j = i
  ·subst e1
   have e2 : k ≠ j := fun e => hjk (by rw [e])
   simp only [if_pos, if_neg e2]
   exact hd oj k hk ok hjk (get k e2 gk)
  ·by_cases e2 : k = i
   ·subst e2
    simp only [if_pos, if_neg e1]
    exact (hd ok j hj oj (fun e => hjk e.symm) (get j e1 gj)).symm
   ·simp only [if_neg e1, if_neg e2]
    exact h.dis j k hj hk oj ok hjk (get j e1 gj) (get k e2 gk)
 ·rw [getD_set_ne false (by omega)] at g
  exact (h.pre g).trans (hb.mono (by omega))
 ·rw [getD_set_ne false (by omega)] at g
  obtain ⟨y1, y2, y3, k0, k1, k2, k3, k4⟩ := h.post g
  exact ⟨y1, y2, y3, k0.below hb k0.lt, X5 k1 hb (bX4 _), X5 k2 hb (bX4 _), X5 k3 hb (bX4 _), k4⟩
theorem aj5.new {n : Nat} {v1 v2 v3 : Value} {c : b6} {W : World} {listed : Array Bool} {f : Nat → Value} {w : World} (h : aj5 n v1 v2 v3 c W listed f w) {x : Value} (hx : ∀ g, x.ownBlock = some g → w.heap.size ≤ g) : ∀ j, j < 12 → I5 j → listed.getD j false = true → M6 x (f j) := by
 intro j hj oj gj g h1 h2
 have := hx g h1
 have := (h.val j (by omega) gj).lt hj oj g h2
 omega
theorem ai1 {w : World} {base : Nat} {e : TypeId} {sz : Nat} {v : Value} {m : Nat} {xs : List Value} (h : w.ownsRow base e sz v m xs) {b : Nat} (hb : b < base) (j : Nat) (u : Value) : (w.setCell ⟨b, j, none⟩ u).ownsRow base e sz v m xs :=
 ((D6.mk' h).other (b := b) (.inl hb) j u).1
theorem Pv.store {n : Nat} {v1 v2 v3 : Value} {c : b6} {i : Nat} {x : Value} {w : World} (h : Pv n v1 v2 v3 c i x w) (j : Nat) (u : Value) : Pv n v1 v2 v3 c i x (w.setCell ⟨n + 1, j, none⟩ u) := by
 have k := fun {e : TypeId} {sz : Nat} {v : Value} {m : Nat} {xs : List Value} (g : w.ownsRow (n + 1 + 1) e sz v m xs) => ai1 g (bZ9 (n + 1)) j u
 unfold Pv at *
 split at h <;> first | exact h | exact k h | exact ⟨h.1, k h.2⟩ | (obtain ⟨y1, y2, y3, e, g1, g2, g3, d⟩ := h; exact ⟨y1, y2, y3, e, k g1, k g2, k g3, d⟩)
theorem aj5.stored {n : Nat} {v1 v2 v3 : Value} {c : b6} {W : World} {listed : Array Bool} {f : Nat → Value} {w : World} (h : aj5 n v1 v2 v3 c W listed f w) {u0 u1 u2 : Value}
  (L : y9 (((w.setCell ⟨n + 1, 0, none⟩ u0).setCell ⟨n + 1, 1, none⟩ u1).setCell ⟨n + 1, 2, none⟩ u2) (n + 1) [u0, u1, u2]) (g1 : w.ownsRow (n + 1 + 1) 3 1 u0 c.vars.length (ints c.vars)) (g2 : w.ownsRow (n + 1 + 1) 3 1 u1 c.arrays.length (ints c.arrays)) (g3 : w.ownsRow (n + 1 + 1) 60 5 u2 c.list.length (ints (A8 c.list))) (dd : M6 u0 u1 ∧ M6 u0 u2 ∧ M6 u1 u2) :
  aj5 n v1 v2 v3 c W (listed.setIfInBounds 13 true) f (((w.setCell ⟨n + 1, 0, none⟩ u0).setCell ⟨n + 1, 1, none⟩ u1).setCell ⟨n + 1, 2, none⟩ u2) := by
 have get : ∀ j, j < 13 → (listed.setIfInBounds 13 true).getD j false = true → listed.getD j false = true := fun j hj g => by rwa [getD_set_ne false (by omega)] at g
 have hsz : (((w.setCell ⟨n + 1, 0, none⟩ u0).setCell ⟨n + 1, 1, none⟩ u1).setCell ⟨n + 1, 2, none⟩ u2).heap.size = w.heap.size := by simp
 have k := fun {e : TypeId} {sz : Nat} {v : Value} {m : Nat} {xs : List Value} (g : w.ownsRow (n + 1 + 1) e sz v m xs) => ai1 (ai1 (ai1 g (bZ9 (n + 1)) 0 u0) (bZ9 (n + 1)) 1 u1) (bZ9 (n + 1)) 2 u2
 refine ⟨by simpa using h.size, fun j hj g => (((h.val j hj (get j hj g)).store 0 u0).store 1 u1).store 2 u2, fun i j hi hj oi oj hij gi gj => h.dis i j hi hj oi oj hij (get i (by omega) gi) (get j (by omega) gj), ?_, by rw [hsz]; exact h.big, fun g => ?_, fun _ => ⟨u0, u1, u2, L, k g1, k g2, k g3, dd⟩⟩
 ·exact ((h.box.setCell (p := ⟨n + 1, 0, none⟩) (bX4 _) u0).setCell (p := ⟨n + 1, 1, none⟩) (bX4 _) u1).setCell (p := ⟨n + 1, 2, none⟩) (bX4 _) u2
 ·have h14 := h.size
  simp [h14] at g
theorem aM8 (v : Value) (c : b6) (w : World) (h : A3 w v c) (hs : c.size ≤ 1048576) :
  Calls Tryz.prog 56 #[v] w fun e w' => ∃ u, e = .returned u ∧ A0 w' w.heap.size w'.heap.size u c ∧ Below w.heap.size w w' := by
 obtain ⟨v1, v2, v3, rfl, h1, h2, h3⟩ := h
 unfold b6.size at hs
 obtain ⟨n, hn⟩ : ∃ n, n = w.heap.size := ⟨_, rfl⟩
 obtain ⟨W, hW⟩ : ∃ W, W = (w.alloc (.cells #[v1, v2, v3] 26)).alloc (.cells #[.slice none 0 0, .slice none 0 0, .slice none 0 0] 26) := ⟨_, rfl⟩
 have B0 : Below n w W := by rw [hW, hn]; go_grown
 have sW : W.heap.size = n + 1 + 1 := by rw [hW, hn]; simp
 have L1 : y9 W n [v1, v2, v3] := by rw [hW, hn]; exact (y9.new w [v1, v2, v3] _).alloc _
 have L2 : y9 W (n + 1) [.slice none 0 0, .slice none 0 0, .slice none 0 0] := by rw [hW, hn]; exact y9.new' (w.alloc _) [.slice none 0 0, .slice none 0 0, .slice none 0 0] _ (by simp)
 have HB := show Hid (∀ W', Below (n + 1) W W' → (W'.cell? ⟨n, 0, none⟩ = some v1 ∧ W'.cell? ⟨n, 1, none⟩ = some v2 ∧ W'.cell? ⟨n, 2, none⟩ = some v3)) from by
  intro W' hb
  have L' := L1.below hb (by omega)
  exact ⟨by simpa using L'.cell 0, by simpa using L'.cell 1, by simpa using L'.cell 2⟩
 have hA : ∀ W', Below (n + 1) W W' → Below n w W' := fun W' g => B0.trans (g.mono (by omega))
 have HR1 := show Hid (∀ W', Below (n + 1) W W' → F2 W' v1 c.vars.length 1 (ints c.vars)) from fun W' g => h1.below (by rw [← hn]; exact hA _ g)
 have HR2 := show Hid (∀ W', Below (n + 1) W W' → F2 W' v2 c.arrays.length 1 (ints c.arrays)) from fun W' g => h2.below (by rw [← hn]; exact hA _ g)
 have HR3 := show Hid (∀ W', Below (n + 1) W W' → O0 W' v3 c.list) from fun W' g => h3.below (by rw [← hn]; exact hA _ g)
 have HA := show Hid _ from hA
 have HL2 := show Hid _ from L2
 have HN := show Hid (n = w.heap.size) from hn
 clear hA h1 h2 h3 L1 L2
 go_enter Tryz.func56, Tryz.ntmps56
 go_wp2_with fail
 rw [← HN.out]
 rw [← hW]
 clear hn hW B0
 refine ay6 (bG6 n v1 v2 v3 c W) (by kernel_rfl) (by kernel_rfl) ?_ ?_ ?_
 ·refine ⟨fun _ => undef, rfl, ⟨by simp, fun i hi g => ?_, fun i j _ _ _ _ _ g => ?_, (Below.refl _ _).drew, ?_, fun _ => (Below.refl _ _).drew, fun g => ?_⟩⟩
  ·rw [getD_replicate_false] at g; cases g
  ·rw [getD_replicate_false] at g; cases g
  ·exact Nat.le_of_eq sW.symm
  ·rw [getD_replicate_false] at g; cases g
 ·rintro listed a w ⟨f, rfl, hI⟩ i o ho hun hdep Q' hQ
  have HQ := show Hid _ from hQ
  clear hQ
  have hi : i < 14 := by simpa using (bX7.1 ho).1
  have hc : i = 0 ∨ i = 1 ∨ i = 2 ∨ i = 3 ∨ i = 4 ∨ i = 5 ∨ i = 6 ∨ i = 7 ∨ i = 8 ∨ i = 9 ∨ i = 10 ∨ i = 11 ∨ i = 12 ∨ i = 13 := by omega
  rcases hc with rfl | rfl | rfl | rfl | rfl | rfl | rfl | rfl | rfl | rfl | rfl | rfl | rfl | rfl
  ·simp only [bX3, Option.some.injEq] at ho
   subst ho
   unfold N2
   go_wp2_with fail
   exact HQ.out _ _ ⟨_, rfl, hI.step (i := 0) (by omega) (by go_grown) ⟨⟨_, rfl⟩, z4 (C3 w #[] 0 1 3 rfl rfl (by omega)).1 hI.big⟩ fun _ j hj oj _ gj => hI.new (fun g hg => by cases hg; exact bX4 _) j hj oj gj⟩
  ·simp only [bX3, bX6, Option.some.injEq] at ho
   subst ho
   unfold N2
   go_wp2_with fail
   exact HQ.out _ _ ⟨_, rfl, hI.step (i := 1) (by omega) (Below.refl _ _) rfl fun h => absurd h (by unfold I5; omega)⟩
  ·simp only [bX3, bX6, Option.some.injEq] at ho
   subst ho
   have e1 : f 1 = .pointer (some ⟨n, 0, none⟩) := hI.val 1 (by omega) (hdep { on := 1, ground := .data } (by simp) (by kernel_rfl))
   have cc := (HB.out w hI.box).1
   unfold N2
   go_wp2_with fail
   exact HQ.out _ _ ⟨_, by simp [N2, e1], hI.step (i := 2) (by omega) (Below.refl _ _) rfl fun h => absurd h (by unfold I5; omega)⟩
  ·simp only [bX3, bX6, Option.some.injEq] at ho
   subst ho
   have d0 : listed.getD 0 false = true := hdep { on := 0, ground := .data } (by simp) (by kernel_rfl)
   have e0 := hI.val 0 (by omega) d0
   have e2 : f 2 = v1 := hI.val 2 (by omega) (hdep { on := 2, ground := .data } (by simp) (by kernel_rfl))
   refine Z8 rfl _ _ rfl Tryz.underlying23 a55 rfl (by omega) e0.1 e0.2 rfl e2 (HR1.out w hI.box) (by omega) hI.big ?_
   intro x w' ox bx hx
   refine wpList_nil (HQ.out _ _ ⟨_, rfl, hI.step (i := 3) (by omega) bx ox fun _ j hj oj hjk gj => ?_⟩)
   rcases hx with rfl | hx
   ·exact hI.dis 0 j (by omega) hj (.inl rfl) oj hjk d0 gj
   ·exact hI.new hx j hj oj gj
  ·simp only [bX3, bX6, Option.some.injEq] at ho
   subst ho
   unfold N2
   go_wp2_with fail
   exact HQ.out _ _ ⟨_, rfl, hI.step (i := 4) (by omega) (by go_grown) ⟨⟨_, rfl⟩, z4 (C3 w #[] 0 1 3 rfl rfl (by omega)).1 hI.big⟩ fun _ j hj oj _ gj => hI.new (fun g hg => by cases hg; exact bX4 _) j hj oj gj⟩
  ·simp only [bX3, bX6, Option.some.injEq] at ho
   subst ho
   unfold N2
   go_wp2_with fail
   exact HQ.out _ _ ⟨_, rfl, hI.step (i := 5) (by omega) (Below.refl _ _) rfl fun h => absurd h (by unfold I5; omega)⟩
  ·simp only [bX3, bX6, Option.some.injEq] at ho
   subst ho
   have e1 : f 5 = .pointer (some ⟨n, 1, none⟩) := hI.val 5 (by omega) (hdep { on := 5, ground := .data } (by simp) (by kernel_rfl))
   have cc := (HB.out w hI.box).2.1
   unfold N2
   go_wp2_with fail
   exact HQ.out _ _ ⟨_, by simp [N2, e1], hI.step (i := 6) (by omega) (Below.refl _ _) rfl fun h => absurd h (by unfold I5; omega)⟩
  ·simp only [bX3, bX6, Option.some.injEq] at ho
   subst ho
   have d0 : listed.getD 4 false = true := hdep { on := 4, ground := .data } (by simp) (by kernel_rfl)
   have e0 := hI.val 4 (by omega) d0
   have e2 : f 6 = v2 := hI.val 6 (by omega) (hdep { on := 6, ground := .data } (by simp) (by kernel_rfl))
   refine Z8 rfl _ _ rfl Tryz.underlying23 a55 rfl (by omega) e0.1 e0.2 rfl e2 (HR2.out w hI.box) (by omega) hI.big ?_
   intro x w' ox bx hx
   refine wpList_nil (HQ.out _ _ ⟨_, rfl, hI.step (i := 7) (by omega) bx ox fun _ j hj oj hjk gj => ?_⟩)
   rcases hx with rfl | hx
   ·exact hI.dis 4 j (by omega) hj (.inl rfl) oj hjk d0 gj
   ·exact hI.new hx j hj oj gj
  ·simp only [bX3, bX6, Option.some.injEq] at ho
   subst ho
   unfold N2
   go_wp2_with fail
   exact HQ.out _ _ ⟨_, rfl, hI.step (i := 8) (by omega) (by go_grown) ⟨⟨_, rfl⟩, z4 (C3 w #[] 0 5 60 rfl rfl (by omega)).1 hI.big⟩ fun _ j hj oj _ gj => hI.new (fun g hg => by cases hg; exact bX4 _) j hj oj gj⟩
  ·simp only [bX3, bX6, Option.some.injEq] at ho
   subst ho
   unfold N2
   go_wp2_with fail
   exact HQ.out _ _ ⟨_, rfl, hI.step (i := 9) (by omega) (Below.refl _ _) rfl fun h => absurd h (by unfold I5; omega)⟩
  ·simp only [bX3, bX6, Option.some.injEq] at ho
   subst ho
   have e1 : f 9 = .pointer (some ⟨n, 2, none⟩) := hI.val 9 (by omega) (hdep { on := 9, ground := .data } (by simp) (by kernel_rfl))
   have cc := (HB.out w hI.box).2.2
   unfold N2
   go_wp2_with fail
   exact HQ.out _ _ ⟨_, by simp [N2, e1], hI.step (i := 10) (by omega) (Below.refl _ _) rfl fun h => absurd h (by unfold I5; omega)⟩
  ·simp only [bX3, bX6, Option.some.injEq] at ho
   subst ho
   have d0 : listed.getD 8 false = true := hdep { on := 8, ground := .data } (by simp) (by kernel_rfl)
   have e0 := hI.val 8 (by omega) d0
   have e2 : f 10 = v3 := hI.val 10 (by omega) (hdep { on := 10, ground := .data } (by simp) (by kernel_rfl))
   refine Z8 rfl _ _ rfl Tryz.underlying24 bz6 rfl (by omega) e0.1 e0.2 rfl e2 (HR3.out w hI.box) (by omega) hI.big ?_
   intro x w' ox bx hx
   refine wpList_nil (HQ.out _ _ ⟨_, rfl, hI.step (i := 11) (by omega) bx ox fun _ j hj oj hjk gj => ?_⟩)
   rcases hx with rfl | hx
   ·exact hI.dis 8 j (by omega) hj (.inl rfl) oj hjk d0 gj
   ·exact hI.new hx j hj oj gj
  ·simp only [bX3, bX6, Option.some.injEq] at ho
   subst ho
   have d3 : listed.getD 3 false = true := hdep { on := 3, ground := .data } (by simp) (by kernel_rfl)
   have d7 : listed.getD 7 false = true := hdep { on := 7, ground := .data } (by simp) (by kernel_rfl)
   have d11 : listed.getD 11 false = true := hdep { on := 11, ground := .data } (by simp) (by kernel_rfl)
   have g3 : w.ownsRow (n + 1 + 1) 3 1 (f 3) c.vars.length (ints c.vars) := hI.val 3 (by omega) d3
   have g7 : w.ownsRow (n + 1 + 1) 3 1 (f 7) c.arrays.length (ints c.arrays) := hI.val 7 (by omega) d7
   have g11 : w.ownsRow (n + 1 + 1) 60 5 (f 11) c.list.length (ints (A8 c.list)) := hI.val 11 (by omega) d11
   have hD := show Pv n v1 v2 v3 c 12 (.agg #[f 3, f 7, f 11]) w from ⟨_, _, _, rfl, g3, g7, g11, hI.dis 3 7 (by omega) (by omega) (.inr rfl) (.inr rfl) (by omega) d3 d7, hI.dis 3 11 (by omega) (by omega) (.inr rfl) (.inr rfl) (by omega) d3 d11, hI.dis 7 11 (by omega) (by omega) (.inr rfl) (.inr rfl) (by omega) d7 d11⟩
   obtain ⟨a3, k3, e3⟩ := E0 g3
   obtain ⟨a7, k7, e7⟩ := E0 g7
   obtain ⟨a11, k11, e11⟩ := E0 g11
   rw [e3, e7, e11] at hD
   clear g3 g7 g11
   unfold N2
   go_wp2_with fail
   exact HQ.out _ _ ⟨_, by simp [N2, e3, e7, e11], hI.step (i := 12) (by omega) (Below.refl _ _) hD fun _ j _ _ _ _ g hg => by cases hg⟩
  ·simp only [bX3, bX6, Option.some.injEq] at ho
   subst ho
   obtain ⟨y1, y2, y3, e12, g1, g2, g3, dd⟩ : Pv n v1 v2 v3 c 12 (f 12) w := hI.val 12 (by omega) (hdep { on := 12, ground := .data } (by simp) (by kernel_rfl))
   have hpre := hI.pre (by have h14 := hI.size; simp [h14] at hun ⊢; exact hun)
   have L2 := y9.below HL2.out hpre (by omega)
   have c0 := L2.cell 0
   have c1 := L2.cell 1
   have c2 := L2.cell 2
   have f0 := L2.free 0
   have f1 := L2.free 1
   have f2 := L2.free 2
   simp only [bX3, bX6] at c0 c1 c2
   obtain ⟨a1, k1, rfl⟩ := E0 g1
   obtain ⟨a2, k2, rfl⟩ := E0 g2
   obtain ⟨a3, k3, rfl⟩ := E0 g3
   have L3 := ((L2.set (j := 0) (.slice a1 c.vars.length k1)).set (j := 1) (.slice a2 c.arrays.length k2)).set (j := 2) (.slice a3 c.list.length k3)
   have hst := hI.stored (u0 := .slice a1 c.vars.length k1) (u1 := .slice a2 c.arrays.length k2) (u2 := .slice a3 c.list.length k3) L3 g1 g2 g3 dd
   clear g1 g2 g3 L3 L2 hpre
   unfold N2
   go_wp2_with fail
   exact HQ.out _ _ ⟨_, by simp [N2, e12], hst⟩
 ·rintro listed a w ⟨f, rfl, hI⟩ hall
  obtain ⟨y1, y2, y3, L, g1, g2, g3, d12, d13, d23⟩ := hI.post (by have := hall 13 (by simp); have h14 := hI.size; simp [h14] at this ⊢; exact this)
  have BF := HA.out w hI.box
  have hbig := hI.big
  have r0 := L.cell 0
  have r1 := L.cell 1
  have r2 := L.cell 2
  simp only [bX3, bX6] at r0 r1 r2
  obtain ⟨a1, k1, rfl⟩ := E0 g1
  obtain ⟨a2, k2, rfl⟩ := E0 g2
  obtain ⟨a3, k3, rfl⟩ := E0 g3
  have hn' := HN.out
  unfold N2
  go_wp2_with fail
  refine bodyPost_ret (v := .agg #[.slice a1 c.vars.length k1, .slice a2 c.arrays.length k2, .slice a3 c.list.length k3]) (by simp [results, Tryz.results56, go_sem, r0, r1, r2]) rfl ⟨_, rfl, ⟨_, _, _, rfl, (D6.mk' g1).wide (by omega) (bX4 _), (D6.mk' g2).wide (by omega) (bX4 _), (D6.mk' g3).wide (by omega) (bX4 _), d12, d13, d23⟩, by rw [← hn']; exact BF⟩
theorem ao2 (x : c7) (w : World) :
  Calls Tryz.prog 52 #[x.v] w fun e w' => e = .returned (.int .i64 (l8 x)) ∧ Below w.heap.size w w' := by
 obtain ⟨x0, x1, x2, x3, x4⟩ := x
 by_cases h8 : x0 = 8
 ·have HN := show Hid (l8 ⟨x0, x1, x2, x3, x4⟩ = x1) from by simp [Hid, l8, h8]
  have q8 : (x0 == 8) = true := by simp [h8]
  clear h8
  go_enter Tryz.func52, Tryz.ntmps52
  go_wp2_with fail
  go_ret
  exact ⟨D4 HN.out.symm, by go_grown⟩
 ·have q8 : (x0 == 8) = false := by simp [h8]
  by_cases h9 : x0 = 9 ∨ x0 = 10
  ·have HN := show Hid (l8 ⟨x0, x1, x2, x3, x4⟩ = x2) from by simp [Hid, l8, h8, h9]
   have h9' : (x0 == 9) = true ∨ ((x0 == 9) = false ∧ (x0 == 10) = true) := by
    rcases h9 with h9 | h9
    ·left; simp [h9]
    ·right; simp [h9]
   clear h8 h9
   rcases h9' with q9 | ⟨q9, q10⟩
   all_goals
    go_enter Tryz.func52, Tryz.ntmps52
    go_wp2_with fail
    go_ret
    exact ⟨D4 HN.out.symm, by go_grown⟩
  ·have HN := show Hid (l8 ⟨x0, x1, x2, x3, x4⟩ = -1) from by simp [Hid, l8, h8, h9]
   have q9 : (x0 == 9) = false := by simp; omega
   have q10 : (x0 == 10) = false := by simp; omega
   clear h8 h9
   go_enter Tryz.func52, Tryz.ntmps52
   go_wp2_with fail
   go_ret
   exact ⟨D4 HN.out.symm, by go_grown⟩
theorem ae3 (x : c7) (w : World) :
  Calls Tryz.prog 57 #[x.v] w fun e w' => e = .returned (.int .i64 (l8 x)) ∧ Below w.heap.size w w' := by
 obtain ⟨x0, x1, x2, x3, x4⟩ := x
 by_cases h8 : x0 = 8
 ·have HN := show Hid (l8 ⟨x0, x1, x2, x3, x4⟩ = x1) from by simp [Hid, l8, h8]
  have q8 : (x0 == 8) = true := by simp [h8]
  clear h8
  go_enter Tryz.func57, Tryz.ntmps57
  go_wp2_with fail
  go_ret
  exact ⟨D4 HN.out.symm, by go_grown⟩
 ·have q8 : (x0 == 8) = false := by simp [h8]
  by_cases h9 : x0 = 9 ∨ x0 = 10
  ·have HN := show Hid (l8 ⟨x0, x1, x2, x3, x4⟩ = x2) from by simp [Hid, l8, h8, h9]
   have h9' : (x0 == 9) = true ∨ ((x0 == 9) = false ∧ (x0 == 10) = true) := by
    rcases h9 with h9 | h9
    ·left; simp [h9]
    ·right; simp [h9]
   clear h8 h9
   rcases h9' with q9 | ⟨q9, q10⟩
   all_goals
    go_enter Tryz.func57, Tryz.ntmps57
    go_wp2_with fail
    go_ret
    exact ⟨D4 HN.out.symm, by go_grown⟩
  ·have HN := show Hid (l8 ⟨x0, x1, x2, x3, x4⟩ = -1) from by simp [Hid, l8, h8, h9]
   have q9 : (x0 == 9) = false := by simp; omega
   have q10 : (x0 == 10) = false := by simp; omega
   clear h8 h9
   go_enter Tryz.func57, Tryz.ntmps57
   go_wp2_with fail
   go_ret
   exact ⟨D4 HN.out.symm, by go_grown⟩
theorem aU8 (x : c7) (t : Int) (w : World) :
  Calls Tryz.prog 58 #[x.v, .int .i64 t] w fun e w' => e = .returned (D3 x t).v ∧ Below w.heap.size w w' := by
 obtain ⟨x0, x1, x2, x3, x4⟩ := x
 by_cases h8 : x0 = 8
 ·have HN := show Hid (D3 ⟨x0, x1, x2, x3, x4⟩ t = ⟨x0, t, x2, x3, x4⟩) from by simp [Hid, D3, h8]
  have q8 : (x0 == 8) = true := by simp [h8]
  have q9 : (x0 == 9) = false := by simp [h8]
  have q10 : (x0 == 10) = false := by simp [h8]
  clear h8
  go_enter Tryz.func58, Tryz.ntmps58
  go_wp2_with fail
  refine bodyPost_ret (v := .agg #[.int .i64 x0, .int .i64 t, .int .i64 x2, .int .i64 x3, .int .i64 x4]) (by simp [results, Tryz.results58, go_sem]) rfl ⟨by rw [HN.out], by go_grown⟩
 ·have q8 : (x0 == 8) = false := by simp [h8]
  by_cases h9 : x0 = 9 ∨ x0 = 10
  ·have HN := show Hid (D3 ⟨x0, x1, x2, x3, x4⟩ t = ⟨x0, x1, t, x3, x4⟩) from by simp [Hid, D3, h8, h9]
   have h9' : (x0 == 9) = true ∨ ((x0 == 9) = false ∧ (x0 == 10) = true) := by
    rcases h9 with h9 | h9
    ·left; simp [h9]
    ·right; simp [h9]
   clear h8 h9
   rcases h9' with q9 | ⟨q9, q10⟩
   all_goals
    go_enter Tryz.func58, Tryz.ntmps58
    go_wp2_with fail
    refine bodyPost_ret (v := .agg #[.int .i64 x0, .int .i64 x1, .int .i64 t, .int .i64 x3, .int .i64 x4]) (by simp [results, Tryz.results58, go_sem]) rfl ⟨by rw [HN.out], by go_grown⟩
  ·have HN := show Hid (D3 ⟨x0, x1, x2, x3, x4⟩ t = ⟨x0, x1, x2, x3, x4⟩) from by simp [Hid, D3, h8, h9]
   have q9 : (x0 == 9) = false := by simp; omega
   have q10 : (x0 == 10) = false := by simp; omega
   clear h8 h9
   go_enter Tryz.func58, Tryz.ntmps58
   go_wp2_with fail
   refine bodyPost_ret (v := .agg #[.int .i64 x0, .int .i64 x1, .int .i64 x2, .int .i64 x3, .int .i64 x4]) (by simp [results, Tryz.results58, go_sem]) rfl ⟨by rw [HN.out], by go_grown⟩
theorem a56 (x : c7) (t : Int) (w : World) (h : 0 ≤ l8 x) :
  Calls Tryz.prog 53 #[x.v, .int .i64 t] w fun e w' => e = .returned (D3 x t).v ∧ Below w.heap.size w w' := by
 obtain ⟨x0, x1, x2, x3, x4⟩ := x
 by_cases h8 : x0 = 8
 ·have HN := show Hid (D3 ⟨x0, x1, x2, x3, x4⟩ t = ⟨x0, t, x2, x3, x4⟩) from by simp [Hid, D3, h8]
  have q8 : (x0 == 8) = true := by simp [h8]
  clear h8 h
  go_enter Tryz.func53, Tryz.ntmps53
  go_wp2_with fail
  refine bodyPost_ret (v := .agg #[.int .i64 x0, .int .i64 t, .int .i64 x2, .int .i64 x3, .int .i64 x4]) (by simp [results, Tryz.results53, go_sem]) rfl ⟨by rw [HN.out], by go_grown⟩
 ·have q8 : (x0 == 8) = false := by simp [h8]
  have h9 : x0 = 9 ∨ x0 = 10 := by
   unfold l8 at h
   simp only at h
   rw [if_neg h8] at h
   split at h
   ·assumption
   ·omega
  have HN := show Hid (D3 ⟨x0, x1, x2, x3, x4⟩ t = ⟨x0, x1, t, x3, x4⟩) from by simp [Hid, D3, h8, h9]
  clear h8 h9 h
  go_enter Tryz.func53, Tryz.ntmps53
  go_wp2_with fail
  refine bodyPost_ret (v := .agg #[.int .i64 x0, .int .i64 x1, .int .i64 t, .int .i64 x3, .int .i64 x4]) (by simp [results, Tryz.results53, go_sem]) rfl ⟨by rw [HN.out], by go_grown⟩
theorem aF8 (v : Value) (c : b6) (hc : f8 c = true) (t : Int) (ht : H1 c t) (w : World) (h : A3 w v c) :
  Calls Tryz.prog 59 #[v, .int .i64 t] w fun e w' => e = .returned (.int .i64 (G6 c t)) ∧ Below w.heap.size w w' := by
 obtain ⟨v1, v2, v3, rfl, h1, h2, h3⟩ := h
 obtain ⟨a3, k3, rfl, hk3, hm3, -, hc3⟩ := h3.ins
 obtain ⟨W, hW⟩ : ∃ W, W = w.alloc (.cells #[v1, v2, .slice a3 c.list.length k3] 26) := ⟨_, rfl⟩
 have B0 : Below w.heap.size w W := by rw [hW]; go_grown
 have L1 : y9 W w.heap.size [v1, v2, .slice a3 c.list.length k3] := by rw [hW]; exact (y9.new w [v1, v2, .slice a3 c.list.length k3] _)
 have hn4 := (o8 hc).2.2.1
 have HF : Hid (G6 c t = if isJ c (D0 c c.list.length t) = true then t else D0 c c.list.length t) := rfl
 have hcell : ∀ i, i < c.list.length → ∃ b off, a3 = some ⟨b, off, none⟩ ∧ W.cell? ⟨b, off + i * 5, none⟩ = some (.int .i64 (z9 c i).op) ∧ W.cell? ⟨b, off + i * 5 + 1, none⟩ = some (.int .i64 (z9 c i).a) := by
  intro i hi
  obtain ⟨b, off, e, hb, i0, i1, -⟩ := hc3 i hi
  rw [← (O9 B0).1 _ _ hb] at i0 i1
  rw [R5 hi]
  exact ⟨b, off, e, i0, i1⟩
 have HCELL := show Hid _ from hcell
 have x2 := L1.cell 2
 simp only [bX3, bX6] at x2
 clear hcell hc3 h1 h2 h3
 go_enter Tryz.func59, Tryz.ntmps59
 go_wp2_with fail
 rw [← hW]
 clear hW
 go_loop [5, 6] (fun x i => ∃ (y : Nat) (k : Nat), x = .int .i64 y ∧ i = .int .i64 k ∧ k ≤ c.list.length ∧ y < c.list.length ∧ D0 c (c.list.length - k) y = D0 c c.list.length t) (fun _ i => c.list.length - (intOf i).toNat)
 case atStart => exact ⟨t.toNat, 0, by rw [b08 ht.1], rfl, bZ4 _, by have := ht.1; have := ht.2; omega, by rw [b08 ht.1]; rfl⟩
 case round =>
  obtain ⟨y, k, rfl, rfl, hk, hy, hch⟩ := hrel
  have HCH := show Hid _ from hch
  clear hch
  obtain ⟨b, off, rfl, i0, i1⟩ := HCELL.out y hy
  have HJ : Hid (isJ c y = decide ((z9 c y).op = 8)) := by unfold Hid isJ; rw [Int.toNat_natCast]
  have HST : Hid (∀ k, isJ c y = true → D0 c (k + 1) y = D0 c k (z9 c y).a) := fun k h => by have := Y1 (k := k) h; rw [Int.toNat_natCast] at this; exact this
  have HPL := show Hid (isJ c y = true → H1 c (z9 c y).a) from fun h => by have := aI0 hc (x := (y : Int)) ⟨by omega, by omega⟩ h; rw [Int.toNat_natCast] at this; exact this
  have hyi : (y : Int) < c.list.length := by omega
  generalize z9 c y = z at *
  by_cases h8 : z.op = 8
  ·have q8 : (z.op == 8) = true := by simp [h8]
   have hj : isJ c y = true := by rw [HJ.out]; exact decide_eq_true h8
   by_cases hlt : k < c.list.length
   ·obtain ⟨hp0, hp1⟩ := HPL.out hj
    have hst := HST.out (c.list.length - (k + 1)) hj
    rw [show c.list.length - (k + 1) + 1 = c.list.length - k by omega, HCH.out] at hst
    have HS := show Hid _ from hst
    clear hst h8 hj
    go_wp2_with fail
    go_round
    case rel => exact ⟨z.a.toNat, k + 1, by rw [b08 hp0], by go_num, by omega, by omega, by rw [b08 hp0]; exact HS.out.symm⟩
    case measure => simp [intOf]; omega
   ·have hkn : k = c.list.length := by omega
    have hch := HCH.out
    rw [hkn, Nat.sub_self, show D0 c 0 (y : Int) = y from rfl] at hch
    have HR := show Hid (G6 c t = t) from by unfold Hid; rw [HF.out, ← hch, hj]; rfl
    subst hkn
    clear hch h8 hj
    go_wp2_with fail
    go_ret
    exact ⟨D4 HR.out.symm, B0⟩
  ·have q8 : (z.op == 8) = false := by simp [h8]
   have hj : isJ c y = false := by rw [HJ.out]; exact decide_eq_false h8
   have hch := HCH.out
   rw [T2 hj] at hch
   have HR := show Hid (G6 c t = y) from by unfold Hid; rw [HF.out, ← hch, hj]; rfl
   clear hch h8 hj
   by_cases hlt : k < c.list.length
   ·go_wp2_with fail
    go_ret
    exact ⟨D4 HR.out.symm, B0⟩
   ·go_wp2_with fail
    go_ret
    exact ⟨D4 HR.out.symm, B0⟩
def ag3 (w : World) (v : Value) (m : List (List Bool)) : Prop :=
 ∃ vs : List Value, F2 w v m.length 1 vs ∧ ∀ (i : Nat) (u : Value) (r : List Bool), vs[i]? = some u → m[i]? = some r → F2 w u r.length 1 (bools r)
def P6 (w : World) (lo hi : Nat) (v : Value) (m : List (List Bool)) : Prop :=
 ∃ vs : List Value, D6 w lo hi 43 1 v m.length vs ∧ (∀ (i : Nat) (u : Value) (r : List Bool), vs[i]? = some u → m[i]? = some r → D6 w lo hi 4 1 u r.length (bools r)) ∧
  (∀ (i j : Nat) (u u' : Value), i < j → vs[i]? = some u → vs[j]? = some u' → M6 u u') ∧ ∀ (i : Nat) (u : Value), vs[i]? = some u → M6 u v
theorem ag3.below {w w' : World} {v : Value} {m : List (List Bool)} (h : ag3 w v m) (hb : Below w.heap.size w w') : ag3 w' v m := by
 obtain ⟨vs, h1, h2⟩ := h
 exact ⟨vs, h1.below hb, fun i u r a b => (h2 i u r a b).below hb⟩
theorem P6.row {w : World} {lo hi : Nat} {v : Value} {m : List (List Bool)} (h : P6 w lo hi v m) : ag3 w v m := by
 obtain ⟨vs, h1, h2, _⟩ := h
 exact ⟨vs, h1.row, fun i u r a b => (h2 i u r a b).row⟩
theorem P6.keep {w w' : World} {lo hi B : Nat} {v : Value} {m : List (List Bool)} (h : P6 w lo hi v m) (hb : Below B w w') (hB : hi ≤ B) : P6 w' lo hi v m := by
 obtain ⟨vs, h1, h2, hd⟩ := h
 exact ⟨vs, h1.keep hb hB, fun i u r a b => (h2 i u r a b).keep hb hB, hd⟩
theorem P6.out {w w' : World} {lo hi lo' hi' : Nat} {v : Value} {m : List (List Bool)} (h : P6 w lo hi v m) (hb : U4 lo' hi' w w') (hB : hi ≤ lo' ∨ hi' ≤ lo) : P6 w' lo hi v m := by
 obtain ⟨vs, h1, h2, hd⟩ := h
 exact ⟨vs, h1.out hb hB, fun i u r a b => (h2 i u r a b).out hb hB, hd⟩
theorem P6.wide {w : World} {lo hi lo' hi' : Nat} {v : Value} {m : List (List Bool)} (h : P6 w lo hi v m) (g1 : lo' ≤ lo) (g2 : hi ≤ hi') : P6 w lo' hi' v m := by
 obtain ⟨vs, h1, h2, hd⟩ := h
 exact ⟨vs, h1.wide g1 g2, fun i u r a b => (h2 i u r a b).wide g1 g2, hd⟩
theorem ag3.open {w : World} {v : Value} {m : List (List Bool)} (h : ag3 w v m) : ∃ a cap, v = .slice a m.length cap ∧ m.length ≤ 9223372036854775807 ∧
  ∀ i (hi : i < m.length), ∃ b off a' c', a = some ⟨b, off, none⟩ ∧ b < w.heap.size ∧ w.cell? ⟨b, off + i, none⟩ = some (.slice a' m[i].length c') ∧ F2 w (.slice a' m[i].length c') m[i].length 1 (bools m[i]) := by
 obtain ⟨vs, h1, h2⟩ := h
 obtain ⟨a, cap, hv, hc, hm, hm2, hcell⟩ := h1.open1
 refine ⟨a, cap, hv, hm, fun i hi => ?_⟩
 obtain ⟨b, off, ha, hb, hx⟩ := hcell i hi
 have hl : i < vs.length := by rw [h1.1]; omega
 rw [bW9 hl] at hx
 have hr := h2 i _ _ (bW9 hl) (bW9 hi)
 obtain ⟨a', c', hs⟩ := hr.form
 rw [hs] at hx hr
 exact ⟨b, off, a', c', ha, hb, hx, hr⟩
end Go.Proofs.YtmokkddidcmglaaGreat

namespace Go.Proofs.YtmokkddidcmglaaGreat
open Go Go.RowKit Go.ChangeShapes Go.WideShapes Go.Deep
section
variable {H : Type} {enc : TypeId × Value → H} {W : World}
end
end Go.Proofs.YtmokkddidcmglaaGreat

namespace Go.Proofs.YtmokkddidcmglaaGreat
open Go Go.RowKit
def P5 (w : World) (lo hi g : Nat) (m : List (List Bool)) : Prop :=
 P6 w lo hi (.slice (some ⟨g, 0, none⟩) m.length m.length) m ∧ ∀ i : Nat, i < m.length → (rowAt m i).length = 0 → w.cell? ⟨g, i, none⟩ = some (.slice none 0 0)
theorem P5.wide {w : World} {lo hi lo' hi' g : Nat} {m : List (List Bool)} (h : P5 w lo hi g m) (h1 : lo' ≤ lo) (h2 : hi ≤ hi') : P5 w lo' hi' g m := ⟨h.1.wide h1 h2, h.2⟩
theorem P5.lt {w : World} {lo hi g : Nat} {m : List (List Bool)} (h : P5 w lo hi g m) : lo ≤ g ∧ g < hi ∧ g < w.heap.size := by
 obtain ⟨vs, h1, _⟩ := h.1
 exact h1.lt g rfl
theorem P5.keep {w w' : World} {lo hi B g : Nat} {m : List (List Bool)} (h : P5 w lo hi g m) (hb : Below B w w') (hB : hi ≤ B) : P5 w' lo hi g m := by
 have hl := h.lt
 exact ⟨h.1.keep hb hB, fun i hi h0 => (hb.cell (p := ⟨g, i, none⟩) (by show g < B; omega)).trans (h.2 i hi h0)⟩
theorem P5.at {w : World} {lo hi g : Nat} {m : List (List Bool)} (h : P5 w lo hi g m) {i : Nat} (hi' : i < m.length) :
  w.frozen? ⟨g, i, none⟩ = false ∧ ∃ u, w.cell? ⟨g, i, none⟩ = some u ∧ D6 w lo hi 4 1 u (rowAt m i).length (bools (rowAt m i)) ∧ u.ownBlock ≠ some g := by
 obtain ⟨vs, h1, h2, h3, h4⟩ := h.1
 have hl : i < vs.length := by have := h1.1.1; omega
 obtain ⟨g', cap, hv, -, -, -, hf, u0, hc⟩ := h1.at hl
 cases hv
 obtain ⟨g', cap, hv, -, -, -, -, -, -, hcc⟩ := h1.open (by omega)
 cases hv
 have hu := bW9 hl
 refine ⟨hf, vs[i], hcc i _ hu, ?_, fun e => h4 i _ hu g e rfl⟩
 have := h2 i _ _ hu (bW9 hi')
 rw [ak8 hi']
 exact this
theorem bw1 {vs : List Value} {y : Nat} {u : Value} (hd : ∀ (i j : Nat) (a b : Value), i < j → vs[i]? = some a → vs[j]? = some b → M6 a b) (hu : ∀ i a, vs[i]? = some a → i ≠ y → M6 a u) :
  ∀ (i j : Nat) (a b : Value), i < j → (vs.set y u)[i]? = some a → (vs.set y u)[j]? = some b → M6 a b := by
 intro i j a b hij ha hb
 rw [List.getElem?_set] at ha hb
 by_cases h1 : y = i
 ·rw [if_pos h1] at ha
  have h2 : ¬ y = j := by omega
  rw [if_neg h2] at hb
  split at ha
  ·cases ha
   exact (hu j b hb (by omega)).symm
  ·cases ha
 ·rw [if_neg h1] at ha
  by_cases h2 : y = j
  ·rw [if_pos h2] at hb
   split at hb
   ·cases hb
    exact hu i a ha (by omega)
   ·cases hb
  ·rw [if_neg h2] at hb
   exact hd i j a b hij ha hb
theorem ab2 (w : World) (b j : Nat) (u : Value) (k : Nat) (h : k ≠ b) : (w.setCell ⟨b, j, none⟩ u).heap[k]? = w.heap[k]? := Below.heap_setCell _ _ _ _ h
theorem P5.setRow {w : World} {lo hi lo' hi' g : Nat} {m : List (List Bool)} (h : P5 w lo hi g m) {y : Nat} (hy : y < m.length) {u : Value} {r : List Bool} (hr : r.length = 14) (hu : D6 w lo' hi' 4 1 u 14 (bools r)) (h1 : hi ≤ lo') (h2 : lo' ≤ hi') :
  P5 (w.setCell ⟨g, y, none⟩ u) lo hi' g (m.set y r) := by
 have hgl := h.lt
 obtain ⟨⟨vs, k1, k2, k3, k4⟩, hnil⟩ := h
 have hvl : vs.length = m.length := by have := k1.1.1; omega
 have hug : ∀ g', u.ownBlock = some g' → g' ≠ g := fun g' e => by have := hu.lt g' e; omega
 refine ⟨⟨vs.set y u, ?_, ?_, ?_, ?_⟩, ?_⟩
 ·rw [bY9]
  exact (k1.setCell (by omega) u).wide (bX4 _) (by omega)
 ·intro i a r' ha hr'
  rw [List.getElem?_set] at ha hr'
  split at ha
  ·rename_i e
   rw [if_pos e] at hr'
   rw [if_pos hy] at hr'
   cases hr'
   split at ha
   ·cases ha
    rw [hr]
    exact (hu.same fun g' e => ab2 _ _ _ _ _ (hug g' e)).wide (by omega) (bX4 _)
   ·cases ha
  ·rename_i e
   rw [if_neg e] at hr'
   exact ((k2 i a r' ha hr').same fun g' e => ab2 _ _ _ _ _ fun e' => k4 i a ha g' e (by rw [e']; rfl)).wide (bX4 _) (by omega)
 ·refine bw1 k3 fun i a ha _ => ?_
  have hi : i < m.length := by have := (bX7.1 ha).1; omega
  exact ac9 (k2 i a _ ha (bW9 hi)) hu (by omega)
 ·intro i a ha
  rw [List.getElem?_set] at ha
  split at ha
  ·split at ha
   ·cases ha
    exact fun g' e e' => hug g' e (by cases e'; rfl)
   ·cases ha
  ·have := k4 i a ha
   rw [bY9]
   exact this
 ·intro i hi h0
  rw [bY9] at hi
  rw [I2 _ _ hy] at h0
  split at h0
  ·omega
  ·rename_i e
   rw [World.cell?_setCell_other _ _ _ _ (by intro e'; cases e'; exact e (by simp))]
   exact hnil i hi h0
def aK1 (w : World) (g : Nat) (m : List (List Bool)) (b : Nat) : Prop := b = g ∨ ∃ (i : Nat) (u : Value), i < m.length ∧ w.cell? ⟨g, i, none⟩ = some u ∧ u.ownBlock = some b
theorem P5.blk {w : World} {lo hi g : Nat} {m : List (List Bool)} (h : P5 w lo hi g m) {b : Nat} (hb : aK1 w g m b) : lo ≤ b ∧ b < hi ∧ b < w.heap.size := by
 rcases hb with rfl | ⟨i, u, hi', hc, hu⟩
 ·exact h.lt
 ·obtain ⟨-, u', hc', ho, -⟩ := h.at hi'
  rw [hc] at hc'
  cases hc'
  exact ho.lt b hu
theorem aD8 {w w' : World} {b : Nat} (h : w'.heap[b]? = w.heap[b]?) (o : Nat) : w'.cell? ⟨b, o, none⟩ = w.cell? ⟨b, o, none⟩ := by simp [World.cell?, h]
theorem P5.same {w w' : World} {lo hi g : Nat} {m : List (List Bool)} (h : P5 w lo hi g m) (hs : ∀ b, aK1 w g m b → w'.heap[b]? = w.heap[b]?) : P5 w' lo hi g m ∧ ∀ b, aK1 w' g m b → aK1 w g m b := by
 have hg := hs g (.inl rfl)
 obtain ⟨⟨vs, k1, k2, k3, k4⟩, hnil⟩ := h
 have hvl : vs.length = m.length := by have := k1.1.1; omega
 have hrow : ∀ (i : Nat) (u : Value), vs[i]? = some u → i < m.length ∧ w.cell? ⟨g, i, none⟩ = some u := by
  intro i u hu
  have hi' := (bX7.1 hu).1
  obtain ⟨g', cap, hv, -, -, -, -, -, -, hcc⟩ := k1.open (by omega)
  cases hv
  exact ⟨by omega, hcc i u hu⟩
 refine ⟨⟨⟨vs, k1.same fun g' e => by cases e; exact hg, fun i u r hu hr => (k2 i u r hu hr).same fun b e => hs b (.inr ⟨i, u, (hrow i u hu).1, (hrow i u hu).2, e⟩), k3, k4⟩, fun i hi' h0 => (aD8 hg i).trans (hnil i hi' h0)⟩, ?_⟩
 rintro b (rfl | ⟨i, u, h1, h2, h3⟩)
 ·exact .inl rfl
 ·exact .inr ⟨i, u, h1, (aD8 hg i).symm.trans h2, h3⟩
theorem P5.next {w w' : World} {lo hi g : Nat} {m : List (List Bool)} (h : P5 w lo hi g m) (hb : Below w.heap.size w w') : P5 w' lo hi g m ∧ ∀ b, aK1 w' g m b → aK1 w g m b :=
 h.same fun b hb' => hb.block b (h.blk hb').2.2
theorem P5.setRow_blk {w : World} {lo hi g : Nat} {m : List (List Bool)} (h : P5 w lo hi g m) {y : Nat} (hy : y < m.length) (u : Value) (r : List Bool) {b : Nat} (hb : aK1 (w.setCell ⟨g, y, none⟩ u) g (m.set y r) b) : aK1 w g m b ∨ u.ownBlock = some b := by
 rcases hb with rfl | ⟨i, u', h1, h2, h3⟩
 ·exact .inl (.inl rfl)
 ·rw [bY9] at h1
  by_cases e : i = y
  ·subst e
   obtain ⟨hf, u0, hc, -, -⟩ := h.at hy
   rw [World.cell?_setCell_same _ _ _ hc] at h2
   cases h2
   exact .inr h3
  ·rw [World.cell?_setCell_other _ _ _ _ (by intro e'; cases e'; exact e rfl)] at h2
   exact .inl (.inr ⟨i, u', h1, h2, h3⟩)
def aE3 (w : World) (g : Nat) (m : List (List Bool)) (v : Value) : Prop := ∀ b, v.ownBlock = some b → ¬ aK1 w g m b
theorem aE3.next {w w' : World} {lo hi g : Nat} {m : List (List Bool)} {v : Value} (h : aE3 w g m v) (hS : P5 w lo hi g m) (hb : Below w.heap.size w w') : aE3 w' g m v := fun b hv hm => h b hv ((hS.next hb).2 b hm)
theorem aE3.setRow {w : World} {lo hi g y : Nat} {m : List (List Bool)} {v u : Value} {r : List Bool} (h : aE3 w g m v) (hS : P5 w lo hi g m) (hy : y < m.length) (hu : ∀ b, v.ownBlock = some b → u.ownBlock ≠ some b) : aE3 (w.setCell ⟨g, y, none⟩ u) g (m.set y r) v := by
 intro b hv hm
 rcases hS.setRow_blk hy _ _ hm with h1 | h1
 ·exact h b hv h1
 ·exact hu b hv h1
noncomputable def bW2 (w : World) (v : Value) : Nat := open Classical in if h : ∃ m, ag3 w v m then pot h.choose else 0
theorem ay8 (us : List Value) : ∀ (y : Value) (ys : List Value) (p : Nat), setFrom (y :: ys) (p + 1) us = y :: setFrom ys p us := by
 induction us with
 | nil => intro y ys p; rfl
 | cons u r ih => intro y ys p; simp only [setFrom, List.set_cons_succ]; exact ih _ _ _
theorem aq8 (x : c7) : ∀ (l : List c7) (k : Nat), k < l.length → setFrom (ints (A8 l)) (k * 5) [.int .i64 x.op, .int .i64 x.a, .int .i64 x.b, .int .i64 x.c, .int .i64 x.d] = ints (A8 (l.set k x))
 | [], k, h => by simp at h
 | y :: l, 0, _ => by simp [setFrom, A8, ints]
 | y :: l, k + 1, h => by
  have ih := aq8 x l k (by simpa using h)
  have e : (k + 1) * 5 = k * 5 + 1 + 1 + 1 + 1 + 1 := by omega
  rw [e]
  simp only [A8, ints, bZ5, List.set_cons_succ, ay8]
  simp only [ints] at ih
  rw [ih]
theorem ay7 (v : Value) (c : b6) (hc : f8 c = true) (w : World) (h : A3 w v c) :
  Calls Tryz.prog 29 #[v] w fun e w' => ∃ u, e = .returned u ∧ A0 w' w.heap.size w'.heap.size u (t9 c) ∧ Below w.heap.size w w' := by
 have hrow := h
 obtain ⟨v1, v2, v3, rfl, h1, h2, h3⟩ := h
 obtain ⟨a3, k3, rfl, -, hm3, -, hc3⟩ := h3.ins
 have hn4 := (o8 hc).2.2.1
 obtain ⟨n, hn⟩ : ∃ n, n = w.heap.size := ⟨_, rfl⟩
 obtain ⟨W, hW⟩ : ∃ W, W = (w.alloc (.cells #[v1, v2, .slice a3 c.list.length k3] 26)).alloc (.cells #[.slice none 0 0, .slice none 0 0, .slice none 0 0] 26) := ⟨_, rfl⟩
 have B0 : Below w.heap.size w W := by rw [hW]; go_grown
 have sW : W.heap.size = n + 1 + 1 := by rw [hW, hn]; simp
 have L1 : y9 W n [v1, v2, .slice a3 c.list.length k3] := by rw [hW, hn]; exact (y9.new w [v1, v2, .slice a3 c.list.length k3] _).alloc _
 have L2 : y9 W (n + 1) [.slice none 0 0, .slice none 0 0, .slice none 0 0] := by rw [hW, hn]; exact y9.new' (w.alloc _) [.slice none 0 0, .slice none 0 0, .slice none 0 0] _ (by simp)
 have x0 := L1.cell 0
 have x1 := L1.cell 1
 have x2 := L1.cell 2
 simp only [bX3, bX6] at x0 x1 x2
 rw [hW, hn] at x0 x1 x2
 go_enter Tryz.func29, Tryz.ntmps29
 go_wp2_with fail
 rw [← hW]
 clear hW x0 x1 x2
 refine (aM8 _ c _ (hrow.below B0) (ao3 hc)).mono ?_
 rintro e w1 ⟨u, rfl, ou, b1⟩
 obtain ⟨y1, y2, y3, rfl, -⟩ := id ou
 obtain ⟨p1, q1, p2, q2, p3, q3, rfl, rfl, rfl⟩ := Code.rowOf ou
 obtain ⟨z1, z2, z3, hz, o1, o2, o3, d12, d13, d23⟩ := ou
 simp only [Value.agg.injEq, Array.mk.injEq, List.cons.injEq, and_true] at hz
 obtain ⟨rfl, rfl, rfl⟩ := hz
 have B1 := B0.trans (b1.mono B0.size)
 have s1 := b1.size
 replace L1 := L1.below b1 L1.lt
 replace L2 := L2.below b1 L2.lt
 go_wp2_with fail
 obtain ⟨T, hT⟩ : ∃ T, T = w1.heap.size := ⟨_, rfl⟩
 obtain ⟨w2, hw2⟩ : ∃ w2, w2 = w1.alloc (.cells #[.slice p1 c.vars.length q1, .slice p2 c.arrays.length q2, .slice p3 c.list.length q3] 26) := ⟨_, rfl⟩
 have L3 : y9 w2 T [.slice p1 c.vars.length q1, .slice p2 c.arrays.length q2, .slice p3 c.list.length q3] := by rw [hw2]; exact y9.new' w1 _ _ hT
 have b2 : Below w1.heap.size w1 w2 := by rw [hw2]; go_grown
 have s2 : w2.heap.size = T + 1 := by rw [hw2, hT]; simp
 rw [← hw2, ← hT]
 have B2 := B1.trans (b2.mono B1.size)
 replace L1 := L1.below b2 L1.lt
 replace L2 := L2.below b2 L2.lt
 replace o1 := (o1.keep b2 (bX4 _)).wide (show n + 1 + 1 ≤ W.heap.size by omega) (show w1.heap.size ≤ T by omega)
 replace o2 := (o2.keep b2 (bX4 _)).wide (show n + 1 + 1 ≤ W.heap.size by omega) (show w1.heap.size ≤ T by omega)
 replace o3 := (o3.keep b2 (bX4 _)).wide (show n + 1 + 1 ≤ W.heap.size by omega) (show w1.heap.size ≤ T by omega)
 have HT := show Hid (n + 1 + 1 ≤ T) from by unfold Hid; omega
 have HN := show Hid (n = w.heap.size) from hn
 have HD := show Hid _ from And.intro d12 (And.intro d13 d23)
 have HI := show Hid _ from hc3
 rw [← hn]
 clear hw2 hT b1 b2 B0 B1 sW s1 hc3 d12 d13 d23 hn
 rw [← ac6 c] at o3
 go_loopw [4] (fun i wr => ∃ k : Nat, k ≤ c.list.length ∧ i = .int .i64 k ∧ y9 wr n [v1, v2, .slice a3 c.list.length k3] ∧ y9 wr (n + 1) [.slice none 0 0, .slice none 0 0, .slice none 0 0] ∧ y9 wr T [.slice p1 c.vars.length q1, .slice p2 c.arrays.length q2, .slice p3 c.list.length q3] ∧
   D6 wr (n + 1 + 1) T 3 1 (.slice p1 c.vars.length q1) c.vars.length (ints c.vars) ∧ D6 wr (n + 1 + 1) T 3 1 (.slice p2 c.arrays.length q2) c.arrays.length (ints c.arrays) ∧ D6 wr (n + 1 + 1) T 60 5 (.slice p3 c.list.length q3) c.list.length (ints (A8 (K5 c k))) ∧ Below w.heap.size w wr) (fun i _ => c.list.length - (intOf i).toNat)
 case atStart => exact ⟨0, bZ4 _, rfl, L1, L2, L3, o1, o2, by have := o3; simp only [ac6] at this ⊢; exact this, B2⟩
 case round =>
  obtain ⟨k, hk, rfl, hL1, hL2, hL3, ho1, ho2, ho3, hb⟩ := hrel
  clear L1 L2 L3 o1 o2 o3 B2
  have y2 := hL3.cell 2
  have x0 := hL1.cell 0
  have x1 := hL1.cell 1
  have x2 := hL1.cell 2
  simp only [bX3, bX6] at x0 x1 x2 y2
  by_cases hlt : k < c.list.length
  ·obtain ⟨b, off, rfl, hb3, i0, i1, i2, i3, i4⟩ := HI.out k hlt
   have hins := (o8 hc).2.2.2.1 k hlt
   rw [← (O9 hb).1 _ _ hb3] at i0 i1 i2 i3 i4
   have hbw : b < wr.heap.size := b13 hb3 hb.size
   have HTH : Hid (P3 c c.list[k] = if 0 ≤ l8 c.list[k] then D3 c.list[k] (G6 c (l8 c.list[k])) else c.list[k]) := rfl
   have HTG := show Hid (0 ≤ l8 c.list[k] → H1 c (l8 c.list[k])) from fun g => ⟨g, ak3 hins g⟩
   have HM := show Hid _ from ak9 c k hlt
   have HK := show Hid _ from aD1 c k hlt
   obtain ⟨x, hx⟩ : ∃ x, x = c.list[k] := ⟨_, rfl⟩
   rw [← hx] at i0 i1 i2 i3 i4 HTH HTG HM HK
   clear hins hx
   have hki : (k : Int) < c.list.length := by omega
   go_wp2_with fail
   refine (ae3 x _).mono ?_
   rintro e w3 ⟨rfl, b3⟩
   have ho3x := ho3.keep b3 (by have := hL3.lt; omega)
   have ho1x := ho1.keep b3 (by have := hL3.lt; omega)
   have ho2x := ho2.keep b3 (by have := hL3.lt; omega)
   have hL1x := hL1.below b3 hL1.lt
   have hL2x := hL2.below b3 hL2.lt
   have hL3x := hL3.below b3 hL3.lt
   have hb3x := hb.trans (b3.mono hb.size)
   have e3 := (O9 b3).1
   rw [← e3 _ _ hbw] at i0 i1 i2 i3 i4
   clear x0 x1 x2 y2 hL1 hL2 ho1 ho2 ho3 e3
   by_cases ht : 0 ≤ l8 x
   ·have hpl := HTG.out ht
    have hth := HTH.out
    rw [if_pos ht] at hth
    have HTR := show Hid _ from hth
    have HT0 := show Hid _ from ht
    obtain ⟨t, htt⟩ : ∃ t, t = l8 x := ⟨_, rfl⟩
    obtain ⟨fz, hfz⟩ : ∃ fz, fz = G6 c t := ⟨_, rfl⟩
    rw [← htt] at hpl ht ⊢
    have hT0 : Hid (l8 x = t) := htt.symm
    have hF0 : Hid (G6 c t = fz) := hfz.symm
    have HTR' := show Hid (P3 c x = D3 x fz) from by unfold Hid; rw [HTR.out, hT0.out, hF0.out]
    have HC1 : Hid (∀ X, Calls Tryz.prog 57 #[x.v] (w3.ext X) fun e w'' => e = .returned (.int .i64 t) ∧ ∃ Y, w'' = w3.ext Y) := fun X => Calls.ext_of' ((ae3 x _).mono fun e w' h => by rw [hT0.out] at h; exact h)
    have HC2 : Hid (∀ X, Calls Tryz.prog 59 #[.agg #[v1, v2, .slice (some ⟨b, off, none⟩) c.list.length k3], .int .i64 t] (w3.ext X) fun e w'' => e = .returned (.int .i64 fz) ∧ ∃ Y, w'' = w3.ext Y) :=
     fun X => Calls.ext_of' ((aF8 _ c hc t hpl _ ((hrow.below hb3x).below (s3 _ X))).mono fun e w' h => by rw [hF0.out] at h; exact h)
    obtain ⟨q, hq⟩ : ∃ q, q = D3 x fz := ⟨_, rfl⟩
    have HC3 : Hid (∀ X, Calls Tryz.prog 58 #[x.v, .int .i64 fz] (w3.ext X) fun e w'' => e = .returned (.agg #[.int .i64 q.op, .int .i64 q.a, .int .i64 q.b, .int .i64 q.c, .int .i64 q.d]) ∧ ∃ Y, w'' = w3.ext Y) := fun X => Calls.ext_of' ((aU8 x fz _).mono fun e w' h => by rw [← hq] at h; exact h)
    have HM2 := show Hid (K5 c (k + 1) = (K5 c k).set k q) from by unfold Hid; rw [HM.out, HTR'.out, hq]
    obtain ⟨g3, hv3, hg1, hg2, hg3, hfr, hcl⟩ : ∃ g3, p3 = some ⟨g3, 0, none⟩ ∧ n + 1 + 1 ≤ g3 ∧ g3 < T ∧ g3 < w3.heap.size ∧ (∀ o, w3.frozen? ⟨g3, o, none⟩ = false) ∧ ∀ j, j < 5 → ∃ u, w3.cell? ⟨g3, k * 5 + j, none⟩ = some u := by
     obtain ⟨g, cap, hv, q1, q2, q3, -, -, q6, q7⟩ := ho3x.open (by omega)
     cases hv
     have hl : (ints (A8 (K5 c k))).length = c.list.length * 5 := ho3x.1.1
     exact ⟨g, rfl, q1, q2, q3, q6, fun j hj => ⟨_, q7 _ _ (bW9 (by omega))⟩⟩
    subst hv3
    obtain ⟨c0, w0⟩ := hcl 0 (by omega)
    obtain ⟨c1, w1'⟩ := hcl 1 (by omega)
    obtain ⟨c2, w2'⟩ := hcl 2 (by omega)
    obtain ⟨c3, w3'⟩ := hcl 3 (by omega)
    obtain ⟨c4, w4'⟩ := hcl 4 (by omega)
    simp only [b07] at w0
    have x0 := hL1x.cell 0
    have x1 := hL1x.cell 1
    have x2 := hL1x.cell 2
    have y2 := hL3x.cell 2
    simp only [bX3, bX6] at x0 x1 x2 y2
    have ZX0 := fun X => i6 x0 X
    have ZX1 := fun X => i6 x1 X
    have ZX2 := fun X => i6 x2 X
    have ZY2 := fun X => i6 y2 X
    have j0 := fun X => i6 i0 X
    have j1 := fun X => i6 i1 X
    have j2 := fun X => i6 i2 X
    have j3 := fun X => i6 i3 X
    have j4 := fun X => i6 i4 X
    have d0 := fun X => i6 w0 X
    have d1 := fun X => i6 w1' X
    have d2 := fun X => i6 w2' X
    have d3 := fun X => i6 w3' X
    have d4 := fun X => i6 w4' X
    have ff0 := fun X => w6 hg3 (hfr (k * 5)) X
    have ff1 := fun X => w6 hg3 (hfr (k * 5 + 1)) X
    have ff2 := fun X => w6 hg3 (hfr (k * 5 + 2)) X
    have ff3 := fun X => w6 hg3 (hfr (k * 5 + 3)) X
    have ff4 := fun X => w6 hg3 (hfr (k * 5 + 4)) X
    have hsz3 : (ints (A8 (K5 c k))).length = c.list.length * 5 := ho3x.1.1
    have HSZ := show Hid _ from hsz3
    have hT3 := hL3x.lt
    clear i0 i1 i2 i3 i4 w0 w1' w2' w3' w4' hcl hfr htt hfz hth hsz3 hpl HTG HTH HT0 HTR HK hq HTR' HM
    go_wp2_with fail
    clear x0 x1 x2 y2
    refine R8 18 _ rfl (by kernel_rfl) (by kernel_rfl) ?_
    simp only [List.set_cons_succ, List.set_cons_zero, V8]
    repeat (any_goals (first | go_big_quiet_step ((first | (go_at_call 57; exact HC1.out _) | (go_at_call 59; exact HC2.out _) | (go_at_call 58; exact HC3.out _))) | quiet_step ((first | (go_at_call 57; exact HC1.out _) | (go_at_call 59; exact HC2.out _) | (go_at_call 58; exact HC3.out _)))))
    refine wpQuiet_nil ?_
    rintro _ ⟨X, rfl⟩
    go_wp2_with fail
    have bX := s3 w3 X
    have ho1X := ho1x.keep bX (by omega)
    have ho2X := ho2x.keep bX (by omega)
    have ho3X := ho3x.keep bX (by omega)
    have hL1X := hL1x.below bX hL1x.lt
    have hL2X := hL2x.below bX hL2x.lt
    have hL3X := hL3x.below bX hL3x.lt
    have hbX := hb3x.trans (bX.mono hb3x.size)
    have hO := U4.setFrom (lo := g3) (hi := g3 + 1) (p := k * 5) [.int .i64 q.op, .int .i64 q.a, .int .i64 q.b, .int .i64 q.c, .int .i64 q.d] (U4.refl g3 (g3 + 1) (w3.ext X)) (bX4 g3) (bZ9 g3)
    have hS3 := ho3X.setFrom (p := k * 5) [.int .i64 q.op, .int .i64 q.a, .int .i64 q.b, .int .i64 q.c, .int .i64 q.d] (by rw [HSZ.out]; simp; omega)
    rw [aq8 q (K5 c k) k (by rw [ai6]; exact hlt), ← HM2.out] at hS3
    have htt : ∀ g, g3 ≤ g → g < g3 + 1 → (Value.slice (some ⟨g3, 0, none⟩) c.list.length q3).ownBlock = some g := fun g e1 e2 => by rw [show g = g3 by omega]; rfl
    refine ⟨⟨k + 1, by omega, by go_num, hL1X.out hO (by omega), hL2X.out hO (by omega), hL3X.out hO (by omega), ho1X.disj hO htt HD.out.2.1.symm, ho2X.disj hO htt HD.out.2.2.symm, hS3, ?_⟩, by simp [intOf]; omega⟩
    exact V2 (g := g3) (p := k * 5) [.int .i64 q.op, .int .i64 q.a, .int .i64 q.b, .int .i64 q.c, .int .i64 q.d] hbX (by have := HN.out; omega)
   ·have hth := HTH.out
    rw [if_neg ht] at hth
    have HN2 := show Hid _ from HK.out hth
    have ht' : l8 x < 0 := by omega
    clear hth ht HTH HTG HK HM i0 i1 i2 i3 i4
    go_wp2_with fail
    exact ⟨⟨k + 1, by omega, by go_num, hL1x, hL2x, hL3x, ho1x, ho2x, by rw [HN2.out]; exact ho3x, hb3x⟩, by simp [intOf]; omega⟩
  ·have hkn : k = c.list.length := by omega
   subst hkn
   have y0 := hL3.cell 0
   have y1 := hL3.cell 1
   have z0 := hL2.cell 0
   have z1 := hL2.cell 1
   have z2 := hL2.cell 2
   simp only [bX3, bX6] at y0 y1 z0 z1 z2
   have f0 := hL2.free 0
   have f1 := hL2.free 1
   have f2 := hL2.free 2
   go_wp2_with fail
   have hn' := HN.out
   have hT' := HT.out
   have L4 := ((hL2.set (j := 0) (.slice p1 c.vars.length q1)).set (j := 1) (.slice p2 c.arrays.length q2)).set (j := 2) (.slice p3 c.list.length q3)
   have hO : U4 (n + 1) (n + 1 + 1) wr (((wr.setCell ⟨n + 1, 0, none⟩ (.slice p1 c.vars.length q1)).setCell ⟨n + 1, 1, none⟩ (.slice p2 c.arrays.length q2)).setCell ⟨n + 1, 2, none⟩ (.slice p3 c.list.length q3)) :=
    (((U4.refl (n + 1) (n + 1 + 1) wr).setCell (p := ⟨n + 1, 0, none⟩) (bX4 _) (bZ9 _) _).setCell (p := ⟨n + 1, 1, none⟩) (bX4 _) (bZ9 _) _).setCell (p := ⟨n + 1, 2, none⟩) (bX4 _) (bZ9 _) _
   replace ho1 := ho1.out hO (.inr (bX4 _))
   replace ho2 := ho2.out hO (.inr (bX4 _))
   replace ho3 := ho3.out hO (.inr (bX4 _))
   rw [aO9] at ho3
   have hTs := hL3.lt
   have zF : (((wr.setCell ⟨n + 1, 0, none⟩ (.slice p1 c.vars.length q1)).setCell ⟨n + 1, 1, none⟩ (.slice p2 c.arrays.length q2)).setCell ⟨n + 1, 2, none⟩ (.slice p3 c.list.length q3)).heap.size = wr.heap.size := by simp
   have hll : (t9 c).list.length = c.list.length := by simp [t9]
   have BF := ((hb.setCell (p := ⟨n + 1, 0, none⟩) (by show w.heap.size ≤ n + 1; omega) (.slice p1 c.vars.length q1)).setCell (p := ⟨n + 1, 1, none⟩) (by show w.heap.size ≤ n + 1; omega) (.slice p2 c.arrays.length q2)).setCell (p := ⟨n + 1, 2, none⟩) (by show w.heap.size ≤ n + 1; omega) (.slice p3 c.list.length q3)
   have r0 := L4.cell 0
   have r1 := L4.cell 1
   have r2 := L4.cell 2
   simp only [bX3, bX6, List.set_cons_zero, List.set_cons_succ] at r0 r1 r2
   generalize ((wr.setCell ⟨n + 1, 0, none⟩ (.slice p1 c.vars.length q1)).setCell ⟨n + 1, 1, none⟩ (.slice p2 c.arrays.length q2)).setCell ⟨n + 1, 2, none⟩ (.slice p3 c.list.length q3) = WF at *
   refine bodyPost_ret (v := .agg #[.slice p1 c.vars.length q1, .slice p2 c.arrays.length q2, .slice p3 c.list.length q3]) (by simp [results, Tryz.results29, go_sem, r0, r1, r2]) rfl ⟨_, rfl, ⟨_, _, _, rfl, ho1.wide (by omega) (by omega), ho2.wide (by omega) (by omega), ?_, HD.out.1, HD.out.2.1, HD.out.2.2⟩, BF⟩
   rw [hll]
   exact ho3.wide (by omega) (by omega)
theorem az1 (v : Value) (c : b6) (hc : f8 c = true) (w : World) (h : A3 w v c) :
  Calls Tryz.prog 27 #[v] w fun e w' => ∃ u, e = .returned u ∧ A0 w' w.heap.size w'.heap.size u (t9 c) ∧ Below w.heap.size w w' := by
 have hrow := h
 obtain ⟨v1, v2, v3, rfl, h1, h2, h3⟩ := h
 obtain ⟨a3, k3, rfl, -, hm3, -, hc3⟩ := h3.ins
 have hn4 := (o8 hc).2.2.1
 obtain ⟨n, hn⟩ : ∃ n, n = w.heap.size := ⟨_, rfl⟩
 obtain ⟨W, hW⟩ : ∃ W, W = (w.alloc (.cells #[v1, v2, .slice a3 c.list.length k3] 26)).alloc (.cells #[.slice none 0 0, .slice none 0 0, .slice none 0 0] 26) := ⟨_, rfl⟩
 have B0 : Below w.heap.size w W := by rw [hW]; go_grown
 have sW : W.heap.size = n + 1 + 1 := by rw [hW, hn]; simp
 have L1 : y9 W n [v1, v2, .slice a3 c.list.length k3] := by rw [hW, hn]; exact (y9.new w [v1, v2, .slice a3 c.list.length k3] _).alloc _
 have L2 : y9 W (n + 1) [.slice none 0 0, .slice none 0 0, .slice none 0 0] := by rw [hW, hn]; exact y9.new' (w.alloc _) [.slice none 0 0, .slice none 0 0, .slice none 0 0] _ (by simp)
 have x0 := L1.cell 0
 have x1 := L1.cell 1
 have x2 := L1.cell 2
 simp only [bX3, bX6] at x0 x1 x2
 rw [hW, hn] at x0 x1 x2
 go_enter Tryz.func27, Tryz.ntmps27
 go_wp2_with fail
 rw [← hW]
 clear hW x0 x1 x2
 refine (bk9 _ c _ (hrow.below B0) (ao3 hc)).mono ?_
 rintro e w1 ⟨u, rfl, ou, b1⟩
 obtain ⟨y1, y2, y3, rfl, -⟩ := id ou
 obtain ⟨p1, q1, p2, q2, p3, q3, rfl, rfl, rfl⟩ := Code.rowOf ou
 obtain ⟨z1, z2, z3, hz, o1, o2, o3, d12, d13, d23⟩ := ou
 simp only [Value.agg.injEq, Array.mk.injEq, List.cons.injEq, and_true] at hz
 obtain ⟨rfl, rfl, rfl⟩ := hz
 have B1 := B0.trans (b1.mono B0.size)
 have s1 := b1.size
 replace L1 := L1.below b1 L1.lt
 replace L2 := L2.below b1 L2.lt
 have x2 : (w1.alloc (.cells #[.slice p1 c.vars.length q1, .slice p2 c.arrays.length q2, .slice p3 c.list.length q3] 26)).cell? ⟨w.heap.size, 2, none⟩ = some (.slice a3 c.list.length k3) := by
  have := (L1.alloc (.cells #[.slice p1 c.vars.length q1, .slice p2 c.arrays.length q2, .slice p3 c.list.length q3] 26)).cell 2
  rw [← hn]
  simpa using this
 go_wp2_with fail
 clear x2
 obtain ⟨T, hT⟩ : ∃ T, T = w1.heap.size := ⟨_, rfl⟩
 obtain ⟨w2, hw2⟩ : ∃ w2, w2 = w1.alloc (.cells #[.slice p1 c.vars.length q1, .slice p2 c.arrays.length q2, .slice p3 c.list.length q3] 26) := ⟨_, rfl⟩
 have L3 : y9 w2 T [.slice p1 c.vars.length q1, .slice p2 c.arrays.length q2, .slice p3 c.list.length q3] := by rw [hw2]; exact y9.new' w1 _ _ hT
 have b2 : Below w1.heap.size w1 w2 := by rw [hw2]; go_grown
 have s2 : w2.heap.size = T + 1 := by rw [hw2, hT]; simp
 rw [← hw2, ← hT]
 have B2 := B1.trans (b2.mono B1.size)
 replace L1 := L1.below b2 L1.lt
 replace L2 := L2.below b2 L2.lt
 replace o1 := (o1.keep b2 (bX4 _)).wide (show n + 1 + 1 ≤ W.heap.size by omega) (show w1.heap.size ≤ T by omega)
 replace o2 := (o2.keep b2 (bX4 _)).wide (show n + 1 + 1 ≤ W.heap.size by omega) (show w1.heap.size ≤ T by omega)
 replace o3 := (o3.keep b2 (bX4 _)).wide (show n + 1 + 1 ≤ W.heap.size by omega) (show w1.heap.size ≤ T by omega)
 have HT := show Hid (n + 1 + 1 ≤ T) from by unfold Hid; omega
 have HN := show Hid (n = w.heap.size) from hn
 have HD := show Hid _ from And.intro d12 (And.intro d13 d23)
 have HI := show Hid _ from hc3
 rw [← hn]
 clear hw2 hT b1 b2 B0 B1 sW s1 hc3 d12 d13 d23 hn
 rw [← ac6 c] at o3
 go_loopw [4, 5, 6, 7, 13] (fun _ _ _ _ i wr => ∃ k : Nat, k ≤ c.list.length ∧ i = .int .i64 k ∧ y9 wr n [v1, v2, .slice a3 c.list.length k3] ∧ y9 wr (n + 1) [.slice none 0 0, .slice none 0 0, .slice none 0 0] ∧ y9 wr T [.slice p1 c.vars.length q1, .slice p2 c.arrays.length q2, .slice p3 c.list.length q3] ∧
   D6 wr (n + 1 + 1) T 3 1 (.slice p1 c.vars.length q1) c.vars.length (ints c.vars) ∧ D6 wr (n + 1 + 1) T 3 1 (.slice p2 c.arrays.length q2) c.arrays.length (ints c.arrays) ∧ D6 wr (n + 1 + 1) T 60 5 (.slice p3 c.list.length q3) c.list.length (ints (A8 (K5 c k))) ∧ Below w.heap.size w wr) (fun _ _ _ _ i _ => c.list.length - (intOf i).toNat)
 case atStart => exact ⟨0, bZ4 _, rfl, L1, L2, L3, o1, o2, by have := o3; simp only [ac6] at this ⊢; exact this, B2⟩
 case round =>
  obtain ⟨k, hk, rfl, hL1, hL2, hL3, ho1, ho2, ho3, hb⟩ := hrel
  clear L1 L2 L3 o1 o2 o3 B2
  by_cases hlt : k < c.list.length
  ·obtain ⟨b, off, he3, hb3, i0, i1, i2, i3, i4⟩ := HI.out k hlt
   have hins := (o8 hc).2.2.2.1 k hlt
   rw [← (O9 hb).1 _ _ hb3] at i0 i1 i2 i3 i4
   have HTH : Hid (P3 c c.list[k] = if 0 ≤ l8 c.list[k] then D3 c.list[k] (G6 c (l8 c.list[k])) else c.list[k]) := rfl
   have HTG := show Hid (0 ≤ l8 c.list[k] → H1 c (l8 c.list[k])) from fun g => ⟨g, ak3 hins g⟩
   have HM := show Hid _ from ak9 c k hlt
   have HK := show Hid _ from aD1 c k hlt
   obtain ⟨x, hx⟩ : ∃ x, x = c.list[k] := ⟨_, rfl⟩
   rw [← hx] at i0 i1 i2 i3 i4 HTH HTG HM HK
   clear hins hx
   subst he3
   have hki : (k : Int) < c.list.length := by omega
   go_wp2_with fail
   obtain ⟨w4, hw4⟩ : ∃ w4, w4 = wr.alloc (.cells #[.int .i64 x.op, .int .i64 x.a, .int .i64 x.b, .int .i64 x.c, .int .i64 x.d] 60) := ⟨_, rfl⟩
   have LX : y9 w4 wr.heap.size [.int .i64 x.op, .int .i64 x.a, .int .i64 x.b, .int .i64 x.c, .int .i64 x.d] := by rw [hw4]; exact y9.new wr _ _
   have b4 : Below wr.heap.size wr w4 := by rw [hw4]; go_grown
   rw [← hw4]
   refine (ao2 x _).mono ?_
   rintro e w3 ⟨rfl, b3'⟩
   have b3 := b4.trans (b3'.mono b4.size)
   have hTl := hL3.lt
   have ho3x := ho3.keep b3 (by omega)
   have ho1x := ho1.keep b3 (by omega)
   have ho2x := ho2.keep b3 (by omega)
   have hL1x := hL1.below b3 hL1.lt
   have hL2x := hL2.below b3 hL2.lt
   have hL3x := hL3.below b3 hL3.lt
   have LXx := LX.below b3' LX.lt
   have hb3x := hb.trans (b3.mono hb.size)
   have hXs : T < wr.heap.size := hTl
   have hX3 := LXx.lt
   obtain ⟨X0, hX0⟩ : ∃ X0, X0 = wr.heap.size := ⟨_, rfl⟩
   rw [← hX0] at LXx hXs hX3 ⊢
   clear hL1 hL2 hL3 ho1 ho2 ho3 i0 i1 i2 i3 i4 hw4 b4 b3' LX b3 hX0 hTl
   have x2 := hL1x.cell 2
   simp only [bX3, bX6] at x2
   by_cases ht : 0 ≤ l8 x
   case neg =>
    have hth := HTH.out
    rw [if_neg ht] at hth
    have HN2 := show Hid _ from HK.out hth
    have ht' : l8 x < 0 := by omega
    clear hth ht HTH HTG HK HM
    generalize l8 x = tg at *
    go_wp2_with fail
    go_loop [6, 7] (fun t _ => t = .int .i64 tg) (fun _ _ => 0)
    case atStart => exact rfl
    case round =>
     obtain rfl := hrel
     go_wp2_with fail
     exact ⟨⟨k + 1, by omega, by go_num, hL1x, hL2x, hL3x, ho1x, ho2x, by rw [HN2.out]; exact ho3x, hb3x⟩, by simp [intOf]; omega⟩
   case pos =>
    have hpl := HTG.out ht
    have HT0 := show Hid _ from ht
    have HPT := show Hid _ from hpl
    have HF : Hid (G6 c (l8 x) = if isJ c (D0 c c.list.length (l8 x)) = true then l8 x else D0 c c.list.length (l8 x)) := rfl
    have HCELL := show Hid (∀ i, i < c.list.length → w3.cell? ⟨b, off + i * 5, none⟩ = some (.int .i64 (z9 c i).op) ∧ w3.cell? ⟨b, off + i * 5 + 1, none⟩ = some (.int .i64 (z9 c i).a)) from by
     intro i hi
     obtain ⟨b', off', e, hb', i0, i1, -⟩ := HI.out i hi
     cases e
     rw [← (O9 hb3x).1 _ _ hb'] at i0 i1
     rw [R5 hi]
     exact ⟨i0, i1⟩
    have hw30 := LXx.cell 0
    have hw31 := LXx.cell 1
    have hw32 := LXx.cell 2
    have hw33 := LXx.cell 3
    have hw34 := LXx.cell 4
    simp only [bX3, bX6] at hw30 hw31 hw32 hw33 hw34
    clear HTG HK hpl
    go_wp2_with fail
    go_loop [6, 7] (fun t i => ∃ (y : Nat) (m : Nat), t = .int .i64 y ∧ i = .int .i64 m ∧ m ≤ c.list.length ∧ y < c.list.length ∧ D0 c (c.list.length - m) y = D0 c c.list.length (l8 x)) (fun _ i => c.list.length - (intOf i).toNat)
    case atStart => exact ⟨(l8 x).toNat, 0, by rw [b08 HPT.out.1], rfl, bZ4 _, by have := HPT.out.1; have := HPT.out.2; omega, by rw [b08 HPT.out.1]; rfl⟩
    case round =>
     obtain ⟨y, m, rfl, rfl, hm, hy, hch⟩ := hrel
     have HCH := show Hid _ from hch
     clear hch
     obtain ⟨i0, i1⟩ := HCELL.out y hy
     have HJ : Hid (isJ c y = decide ((z9 c y).op = 8)) := by unfold Hid isJ; rw [Int.toNat_natCast]
     have HST : Hid (∀ k, isJ c y = true → D0 c (k + 1) y = D0 c k (z9 c y).a) := fun k h => by have := Y1 (k := k) h; rw [Int.toNat_natCast] at this; exact this
     have HPL := show Hid (isJ c y = true → H1 c (z9 c y).a) from fun h => by have := aI0 hc (x := (y : Int)) ⟨by omega, by omega⟩ h; rw [Int.toNat_natCast] at this; exact this
     have hyi : (y : Int) < c.list.length := by omega
     generalize z9 c y = z at *
     by_cases h8 : z.op = 8
     ·have q8 : (z.op == 8) = true := by simp [h8]
      have hj : isJ c y = true := by rw [HJ.out]; exact decide_eq_true h8
      by_cases hml : m < c.list.length
      ·obtain ⟨hp0, hp1⟩ := HPL.out hj
       have hst := HST.out (c.list.length - (m + 1)) hj
       rw [show c.list.length - (m + 1) + 1 = c.list.length - m by omega, HCH.out] at hst
       have HS := show Hid _ from hst
       have qm : ((m : Int) == c.list.length) = false := by simp; omega
       clear hst h8 hj ht
       go_wp2_with fail
       go_round
       case rel => exact ⟨z.a.toNat, m + 1, by rw [b08 hp0], by go_num, by omega, by omega, by rw [b08 hp0]; exact HS.out.symm⟩
       case measure => simp [intOf]; omega
      ·have hmn : m = c.list.length := by omega
       have hch := HCH.out
       rw [hmn, Nat.sub_self, show D0 c 0 (y : Int) = y from rfl] at hch
       have HFZ := show Hid (G6 c (l8 x) = l8 x) from by unfold Hid; rw [HF.out, ← hch, hj]; rfl
       subst hmn
       clear hch h8 hj
       go_wp2_with fail
       refine (ao2 x _).mono ?_
       rintro e w5 ⟨rfl, bw5⟩
       clear hw30 hw31 hw32 hw33 hw34 i0 i1 x2
       go_wp2_with fail
       have hth := HTH.out
       rw [if_pos HT0.out, HFZ.out] at hth
       have HTR' := show Hid (P3 c x = D3 x (l8 x)) from hth
       obtain ⟨q, hq⟩ : ∃ q, q = D3 x (l8 x) := ⟨_, rfl⟩
       have HC3 : Hid (∀ X, Calls Tryz.prog 53 #[x.v, .int .i64 (l8 x)] (w5.ext X) fun e w'' => e = .returned (.agg #[.int .i64 q.op, .int .i64 q.a, .int .i64 q.b, .int .i64 q.c, .int .i64 q.d]) ∧ ∃ Y, w'' = w5.ext Y) := fun X => Calls.ext_of' ((a56 x _ _ HT0.out).mono fun e w' h => by rw [← hq] at h; exact h)
       have HM2 := show Hid (K5 c (k + 1) = (K5 c k).set k q) from by unfold Hid; rw [HM.out, HTR'.out, hq]
       have z5 := bw5.size
       have ho3y := ho3x.keep bw5 (by omega)
       have ho1y := ho1x.keep bw5 (by omega)
       have ho2y := ho2x.keep bw5 (by omega)
       have hL1y := hL1x.below bw5 hL1x.lt
       have hL2y := hL2x.below bw5 hL2x.lt
       have hL3y := hL3x.below bw5 hL3x.lt
       have LXy := LXx.below bw5 LXx.lt
       have hb5 := hb3x.trans (bw5.mono hb3x.size)
       obtain ⟨g3, hv3, hg1, hg2, hg3, hfr, hcl⟩ : ∃ g3, p3 = some ⟨g3, 0, none⟩ ∧ n + 1 + 1 ≤ g3 ∧ g3 < T ∧ g3 < w5.heap.size ∧ (∀ o, w5.frozen? ⟨g3, o, none⟩ = false) ∧ ∀ j, j < 5 → ∃ u, w5.cell? ⟨g3, k * 5 + j, none⟩ = some u := by
        obtain ⟨g, cap, hv, q1, q2, q3, -, -, q6, q7⟩ := ho3y.open (by omega)
        cases hv
        have hl : (ints (A8 (K5 c k))).length = c.list.length * 5 := ho3y.1.1
        exact ⟨g, rfl, q1, q2, q3, q6, fun j hj => ⟨_, q7 _ _ (bW9 (by omega))⟩⟩
       subst hv3
       obtain ⟨c0, w0⟩ := hcl 0 (by omega)
       obtain ⟨c1, w1'⟩ := hcl 1 (by omega)
       obtain ⟨c2, w2'⟩ := hcl 2 (by omega)
       obtain ⟨c3, w3'⟩ := hcl 3 (by omega)
       obtain ⟨c4, w4'⟩ := hcl 4 (by omega)
       simp only [b07] at w0
       have y2 := hL3y.cell 2
       have i0 := LXy.cell 0
       have i1 := LXy.cell 1
       have i2 := LXy.cell 2
       have i3 := LXy.cell 3
       have i4 := LXy.cell 4
       simp only [bX3, bX6] at y2 i0 i1 i2 i3 i4
       have ZY2 := fun X => i6 y2 X
       have j0 := fun X => i6 i0 X
       have j1 := fun X => i6 i1 X
       have j2 := fun X => i6 i2 X
       have j3 := fun X => i6 i3 X
       have j4 := fun X => i6 i4 X
       have d0 := fun X => i6 w0 X
       have d1 := fun X => i6 w1' X
       have d2 := fun X => i6 w2' X
       have d3 := fun X => i6 w3' X
       have d4 := fun X => i6 w4' X
       have ff0 := fun X => w6 hg3 (hfr (k * 5)) X
       have ff1 := fun X => w6 hg3 (hfr (k * 5 + 1)) X
       have ff2 := fun X => w6 hg3 (hfr (k * 5 + 2)) X
       have ff3 := fun X => w6 hg3 (hfr (k * 5 + 3)) X
       have ff4 := fun X => w6 hg3 (hfr (k * 5 + 4)) X
       have hsz3 : (ints (A8 (K5 c k))).length = c.list.length * 5 := ho3y.1.1
       have HSZ := show Hid _ from hsz3
       have hT3 := hL3y.lt
       clear y2 i0 i1 i2 i3 i4 w0 w1' w2' w3' w4' hcl hfr hth hsz3 hq HTR' HM
       refine R8 7 _ rfl (by kernel_rfl) (by kernel_rfl) ?_
       simp only [List.set_cons_succ, List.set_cons_zero, V8]
       repeat (any_goals (first | go_big_quiet_step ((go_at_call 53; exact HC3.out _)) | quiet_step ((go_at_call 53; exact HC3.out _))))
       refine wpQuiet_nil ?_
       rintro _ ⟨X, rfl⟩
       go_wp2_with fail
       have bX := s3 w5 X
       have ho1X := ho1y.keep bX (by omega)
       have ho2X := ho2y.keep bX (by omega)
       have ho3X := ho3y.keep bX (by omega)
       have hL1X := hL1y.below bX hL1y.lt
       have hL2X := hL2y.below bX hL2y.lt
       have hL3X := hL3y.below bX hL3y.lt
       have hbX := hb5.trans (bX.mono hb5.size)
       have hO := U4.setFrom (lo := g3) (hi := g3 + 1) (p := k * 5) [.int .i64 q.op, .int .i64 q.a, .int .i64 q.b, .int .i64 q.c, .int .i64 q.d] (U4.refl g3 (g3 + 1) (w5.ext X)) (bX4 g3) (bZ9 g3)
       have hS3 := ho3X.setFrom (p := k * 5) [.int .i64 q.op, .int .i64 q.a, .int .i64 q.b, .int .i64 q.c, .int .i64 q.d] (by rw [HSZ.out]; simp; omega)
       rw [aq8 q (K5 c k) k (by rw [ai6]; exact hlt), ← HM2.out] at hS3
       have htt : ∀ g, g3 ≤ g → g < g3 + 1 → (Value.slice (some ⟨g3, 0, none⟩) c.list.length q3).ownBlock = some g := fun g e1 e2 => by rw [show g = g3 by omega]; rfl
       refine ⟨⟨k + 1, by omega, by go_num, hL1X.out hO (by omega), hL2X.out hO (by omega), hL3X.out hO (by omega), ho1X.disj hO htt HD.out.2.1.symm, ho2X.disj hO htt HD.out.2.2.symm, hS3, ?_⟩, by simp [intOf]; omega⟩
       exact V2 (g := g3) (p := k * 5) [.int .i64 q.op, .int .i64 q.a, .int .i64 q.b, .int .i64 q.c, .int .i64 q.d] hbX (by have := HN.out; omega)
     ·have q8 : (z.op == 8) = false := by simp [h8]
      have hj : isJ c y = false := by rw [HJ.out]; exact decide_eq_false h8
      have hch := HCH.out
      rw [T2 hj] at hch
      have HFZ := show Hid (G6 c (l8 x) = (y : Int)) from by unfold Hid; rw [HF.out, ← hch, hj]; rfl
      clear hch h8 hj ht
      go_wp2_with fail
      clear hw30 hw31 hw32 hw33 hw34 i0 i1 x2
      have bw5 := Below.refl w3.heap.size w3
      obtain ⟨w5, hw5⟩ : ∃ w5, w5 = w3 := ⟨_, rfl⟩
      rw [← hw5]
      have bw5 : Below w3.heap.size w3 w5 := by rw [hw5]; exact Below.refl _ _
      clear hw5
      have hth := HTH.out
      rw [if_pos HT0.out, HFZ.out] at hth
      have HTR' := show Hid (P3 c x = D3 x (y : Int)) from hth
      obtain ⟨q, hq⟩ : ∃ q, q = D3 x (y : Int) := ⟨_, rfl⟩
      have HC3 : Hid (∀ X, Calls Tryz.prog 53 #[x.v, .int .i64 (y : Int)] (w5.ext X) fun e w'' => e = .returned (.agg #[.int .i64 q.op, .int .i64 q.a, .int .i64 q.b, .int .i64 q.c, .int .i64 q.d]) ∧ ∃ Y, w'' = w5.ext Y) := fun X => Calls.ext_of' ((a56 x _ _ HT0.out).mono fun e w' h => by rw [← hq] at h; exact h)
      have HM2 := show Hid (K5 c (k + 1) = (K5 c k).set k q) from by unfold Hid; rw [HM.out, HTR'.out, hq]
      have z5 := bw5.size
      have ho3y := ho3x.keep bw5 (by omega)
      have ho1y := ho1x.keep bw5 (by omega)
      have ho2y := ho2x.keep bw5 (by omega)
      have hL1y := hL1x.below bw5 hL1x.lt
      have hL2y := hL2x.below bw5 hL2x.lt
      have hL3y := hL3x.below bw5 hL3x.lt
      have LXy := LXx.below bw5 LXx.lt
      have hb5 := hb3x.trans (bw5.mono hb3x.size)
      obtain ⟨g3, hv3, hg1, hg2, hg3, hfr, hcl⟩ : ∃ g3, p3 = some ⟨g3, 0, none⟩ ∧ n + 1 + 1 ≤ g3 ∧ g3 < T ∧ g3 < w5.heap.size ∧ (∀ o, w5.frozen? ⟨g3, o, none⟩ = false) ∧ ∀ j, j < 5 → ∃ u, w5.cell? ⟨g3, k * 5 + j, none⟩ = some u := by
       obtain ⟨g, cap, hv, q1, q2, q3, -, -, q6, q7⟩ := ho3y.open (by omega)
       cases hv
       have hl : (ints (A8 (K5 c k))).length = c.list.length * 5 := ho3y.1.1
       exact ⟨g, rfl, q1, q2, q3, q6, fun j hj => ⟨_, q7 _ _ (bW9 (by omega))⟩⟩
      subst hv3
      obtain ⟨c0, w0⟩ := hcl 0 (by omega)
      obtain ⟨c1, w1'⟩ := hcl 1 (by omega)
      obtain ⟨c2, w2'⟩ := hcl 2 (by omega)
      obtain ⟨c3, w3'⟩ := hcl 3 (by omega)
      obtain ⟨c4, w4'⟩ := hcl 4 (by omega)
      simp only [b07] at w0
      have y2 := hL3y.cell 2
      have i0 := LXy.cell 0
      have i1 := LXy.cell 1
      have i2 := LXy.cell 2
      have i3 := LXy.cell 3
      have i4 := LXy.cell 4
      simp only [bX3, bX6] at y2 i0 i1 i2 i3 i4
      have ZY2 := fun X => i6 y2 X
      have j0 := fun X => i6 i0 X
      have j1 := fun X => i6 i1 X
      have j2 := fun X => i6 i2 X
      have j3 := fun X => i6 i3 X
      have j4 := fun X => i6 i4 X
      have d0 := fun X => i6 w0 X
      have d1 := fun X => i6 w1' X
      have d2 := fun X => i6 w2' X
      have d3 := fun X => i6 w3' X
      have d4 := fun X => i6 w4' X
      have ff0 := fun X => w6 hg3 (hfr (k * 5)) X
      have ff1 := fun X => w6 hg3 (hfr (k * 5 + 1)) X
      have ff2 := fun X => w6 hg3 (hfr (k * 5 + 2)) X
      have ff3 := fun X => w6 hg3 (hfr (k * 5 + 3)) X
      have ff4 := fun X => w6 hg3 (hfr (k * 5 + 4)) X
      have hsz3 : (ints (A8 (K5 c k))).length = c.list.length * 5 := ho3y.1.1
      have HSZ := show Hid _ from hsz3
      have hT3 := hL3y.lt
      clear y2 i0 i1 i2 i3 i4 w0 w1' w2' w3' w4' hcl hfr hth hsz3 hq HTR' HM
      refine R8 7 _ rfl (by kernel_rfl) (by kernel_rfl) ?_
      simp only [List.set_cons_succ, List.set_cons_zero, V8]
      repeat (any_goals (first | go_big_quiet_step ((go_at_call 53; exact HC3.out _)) | quiet_step ((go_at_call 53; exact HC3.out _))))
      refine wpQuiet_nil ?_
      rintro _ ⟨X, rfl⟩
      go_wp2_with fail
      have bX := s3 w5 X
      have ho1X := ho1y.keep bX (by omega)
      have ho2X := ho2y.keep bX (by omega)
      have ho3X := ho3y.keep bX (by omega)
      have hL1X := hL1y.below bX hL1y.lt
      have hL2X := hL2y.below bX hL2y.lt
      have hL3X := hL3y.below bX hL3y.lt
      have hbX := hb5.trans (bX.mono hb5.size)
      have hO := U4.setFrom (lo := g3) (hi := g3 + 1) (p := k * 5) [.int .i64 q.op, .int .i64 q.a, .int .i64 q.b, .int .i64 q.c, .int .i64 q.d] (U4.refl g3 (g3 + 1) (w5.ext X)) (bX4 g3) (bZ9 g3)
      have hS3 := ho3X.setFrom (p := k * 5) [.int .i64 q.op, .int .i64 q.a, .int .i64 q.b, .int .i64 q.c, .int .i64 q.d] (by rw [HSZ.out]; simp; omega)
      rw [aq8 q (K5 c k) k (by rw [ai6]; exact hlt), ← HM2.out] at hS3
      have htt : ∀ g, g3 ≤ g → g < g3 + 1 → (Value.slice (some ⟨g3, 0, none⟩) c.list.length q3).ownBlock = some g := fun g e1 e2 => by rw [show g = g3 by omega]; rfl
      refine ⟨⟨k + 1, by omega, by go_num, hL1X.out hO (by omega), hL2X.out hO (by omega), hL3X.out hO (by omega), ho1X.disj hO htt HD.out.2.1.symm, ho2X.disj hO htt HD.out.2.2.symm, hS3, ?_⟩, by simp [intOf]; omega⟩
      exact V2 (g := g3) (p := k * 5) [.int .i64 q.op, .int .i64 q.a, .int .i64 q.b, .int .i64 q.c, .int .i64 q.d] hbX (by have := HN.out; omega)
  ·have hkn : k = c.list.length := by omega
   subst hkn
   have y0 := hL3.cell 0
   have y1 := hL3.cell 1
   have y2 := hL3.cell 2
   have z0 := hL2.cell 0
   have z1 := hL2.cell 1
   have z2 := hL2.cell 2
   simp only [bX3, bX6] at y0 y1 y2 z0 z1 z2
   have f0 := hL2.free 0
   have f1 := hL2.free 1
   have f2 := hL2.free 2
   go_wp2_with fail
   have hn' := HN.out
   have hT' := HT.out
   have L4 := ((hL2.set (j := 0) (.slice p1 c.vars.length q1)).set (j := 1) (.slice p2 c.arrays.length q2)).set (j := 2) (.slice p3 c.list.length q3)
   have hO : U4 (n + 1) (n + 1 + 1) wr (((wr.setCell ⟨n + 1, 0, none⟩ (.slice p1 c.vars.length q1)).setCell ⟨n + 1, 1, none⟩ (.slice p2 c.arrays.length q2)).setCell ⟨n + 1, 2, none⟩ (.slice p3 c.list.length q3)) :=
    (((U4.refl (n + 1) (n + 1 + 1) wr).setCell (p := ⟨n + 1, 0, none⟩) (bX4 _) (bZ9 _) _).setCell (p := ⟨n + 1, 1, none⟩) (bX4 _) (bZ9 _) _).setCell (p := ⟨n + 1, 2, none⟩) (bX4 _) (bZ9 _) _
   replace ho1 := ho1.out hO (.inr (bX4 _))
   replace ho2 := ho2.out hO (.inr (bX4 _))
   replace ho3 := ho3.out hO (.inr (bX4 _))
   rw [aO9] at ho3
   have hTs := hL3.lt
   have zF : (((wr.setCell ⟨n + 1, 0, none⟩ (.slice p1 c.vars.length q1)).setCell ⟨n + 1, 1, none⟩ (.slice p2 c.arrays.length q2)).setCell ⟨n + 1, 2, none⟩ (.slice p3 c.list.length q3)).heap.size = wr.heap.size := by simp
   have hll : (t9 c).list.length = c.list.length := by simp [t9]
   have BF := ((hb.setCell (p := ⟨n + 1, 0, none⟩) (by show w.heap.size ≤ n + 1; omega) (.slice p1 c.vars.length q1)).setCell (p := ⟨n + 1, 1, none⟩) (by show w.heap.size ≤ n + 1; omega) (.slice p2 c.arrays.length q2)).setCell (p := ⟨n + 1, 2, none⟩) (by show w.heap.size ≤ n + 1; omega) (.slice p3 c.list.length q3)
   have r0 := L4.cell 0
   have r1 := L4.cell 1
   have r2 := L4.cell 2
   simp only [bX3, bX6, List.set_cons_zero, List.set_cons_succ] at r0 r1 r2
   generalize ((wr.setCell ⟨n + 1, 0, none⟩ (.slice p1 c.vars.length q1)).setCell ⟨n + 1, 1, none⟩ (.slice p2 c.arrays.length q2)).setCell ⟨n + 1, 2, none⟩ (.slice p3 c.list.length q3) = WF at *
   refine bodyPost_ret (v := .agg #[.slice p1 c.vars.length q1, .slice p2 c.arrays.length q2, .slice p3 c.list.length q3]) (by simp [results, Tryz.results27, go_sem, r0, r1, r2]) rfl ⟨_, rfl, ⟨_, _, _, rfl, ho1.wide (by omega) (by omega), ho2.wide (by omega) (by omega), ?_, HD.out.1, HD.out.2.1, HD.out.2.2⟩, BF⟩
   rw [hll]
   exact ho3.wide (by omega) (by omega)
theorem aG1 (v : Value) (c : b6) (x : c7) (w : World) (h : A3 w v c) :
  Calls Tryz.prog 55 #[v, x.v] w fun e w' => e = .returned (.bool (v8 c x)) ∧ Below w.heap.size w w' := by
 obtain ⟨v1, v2, v3, rfl, h1, h2, h3⟩ := h
 have HT : Hid (v8 c x = (decide (1 ≤ x.op) && decide (x.op ≤ 13) && aa7 c (e6 x.op) [x.a, x.b, x.c, x.d] 4)) := by
  unfold Hid v8; rw [aW6]
 by_cases hop : 1 ≤ x.op ∧ x.op ≤ 13
 ·obtain ⟨hop1, hop2⟩ := hop
  have hR : Hid (v8 c x = aa7 c (e6 x.op) [x.a, x.b, x.c, x.d] 4) := by
   unfold Hid; rw [HT.out, decide_eq_true hop1, decide_eq_true hop2]; rfl
  clear HT
  obtain ⟨W, hW⟩ : ∃ W, W = ((w.alloc (.cells #[v1, v2, v3] 26)).alloc (.cells #[.int .i64 x.op, .int .i64 x.a, .int .i64 x.b, .int .i64 x.c, .int .i64 x.d] 60)) := ⟨_, rfl⟩
  have B0 : Below w.heap.size w W := by rw [hW]; go_grown
  have L1 : y9 W w.heap.size [v1, v2, v3] := by rw [hW]; exact (y9.new w [v1, v2, v3] _).alloc _
  have L2 : y9 W (w.heap.size + 1) [.int .i64 x.op, .int .i64 x.a, .int .i64 x.b, .int .i64 x.c, .int .i64 x.d] := by rw [hW]; exact y9.new' (w.alloc _) [.int .i64 x.op, .int .i64 x.a, .int .i64 x.b, .int .i64 x.c, .int .i64 x.d] _ (by simp)
  go_enter Tryz.func55, Tryz.ntmps55
  go_wp2_with fail
  rw [← hW]
  clear hW
  refine (ae4 x.op W hop1 hop2).mono ?_
  rintro e w1 ⟨rfl, b1⟩
  replace L1 := L1.below b1 L1.lt
  replace L2 := L2.below b1 L2.lt
  have y0 := L2.cell 0
  have y1 := L2.cell 1
  have y2 := L2.cell 2
  have y3 := L2.cell 3
  have y4 := L2.cell 4
  simp at y0 y1 y2 y3 y4
  go_wp2_with fail
  refine (aG0 x _).mono ?_
  rintro e w2 ⟨u, rfl, o2, b2⟩
  replace L1 := L1.below b2 L1.lt
  have B2 := (B0.trans (b1.mono B0.size)).trans (b2.mono (by have := B0.size; have := b1.size; omega))
  obtain ⟨g, cap, rfl, -, -, hg, -, -, -, hp⟩ := o2.open (by omega)
  have hkl := N8 x.op
  obtain ⟨kinds, hkinds⟩ : ∃ kinds, kinds = e6 x.op := ⟨_, rfl⟩
  obtain ⟨parts, hparts⟩ : ∃ parts, parts = [x.a, x.b, x.c, x.d] := ⟨_, rfl⟩
  rw [← hkinds] at hkl ⊢
  rw [← hkinds] at hR
  rw [← hparts] at hR hp
  have hpl : parts.length = 4 := by rw [hparts]; rfl
  clear hkinds hparts y0 y1 y2 y3 y4 L2 o2
  have HPL := show Hid _ from hpl
  clear hpl
  go_wp2_with fail
  go_loopw [7] (fun i wr => ∃ k : Nat, k ≤ 4 ∧ i = .int .i64 k ∧ aa7 c kinds parts k = true ∧ Below w2.heap.size w2 wr) (fun i _ => 4 - (intOf i).toNat)
  case atStart => exact ⟨0, by omega, rfl, rfl, Below.refl _ _⟩
  case round =>
   obtain ⟨k, hk, rfl, ha, hb⟩ := hrel
   have HA := show Hid _ from ha
   clear ha
   replace L1 := L1.below hb L1.lt
   by_cases hlt : k < 4
   ·have x0 := L1.cell 0
    have x1 := L1.cell 1
    have x2 := L1.cell 2
    simp only [bX3, bX6] at x0 x1 x2
    have z0 := fun X => i6 x0 X
    have z1 := fun X => i6 x1 X
    have z2 := fun X => i6 x2 X
    have hpk : k < parts.length := by rw [HPL.out]; exact hlt
    have p0 : wr.cell? ⟨g, k, none⟩ = some (.int .i64 parts[k]) := by
     rw [(O9 hb).1 _ _ hg]; exact hp k _ (by simp [hpk])
    have pX := fun X => i6 p0 X
    have HS := show Hid _ from au3 c kinds parts k
    have hgd : parts.getD k 0 = parts[k] := by simp [hpk]
    have HG := show Hid _ from hgd
    have BW := B2.trans (hb.mono B2.size)
    clear x0 x1 x2 p0 hp hgd
    by_cases hkk : k < kinds.length
    ·have hpo : B6 c kinds k parts[k] = I3 c kinds[k] parts[k] := by simp [B6, hkk]
     have HPO := show Hid _ from hpo
     clear hpo
     have hd1 : decide (kinds.length ≤ k) = false := by simp; omega
     have hd2 : decide ((kinds.length : Int) ≤ (k : Int)) = false := by simp; omega
     cases hr : I3 c kinds[k] parts[k]
     all_goals
      have HR := show Hid _ from hr
      clear hr
      have HC : Hid (∀ X, Calls Tryz.prog 81 #[.agg #[v1, v2, v3], .int .u8 kinds[k].toNat, .int .i64 parts[k]] (wr.ext X) fun e w'' => e = .returned (.bool _) ∧ ∃ Y, w'' = wr.ext Y) :=
       fun X => Calls.ext_of' ((aF9 v1 v2 v3 c kinds[k] parts[k] _ ((h1.below BW).below (s3 _ X)) ((h2.below BW).below (s3 _ X)) ((h3.below BW).below (s3 _ X))).mono fun e w' h => by rw [HR.out] at h; exact h)
      go_wp2_with fail
      refine F9 (by kernel_rfl) (by kernel_rfl) ?_
      repeat (any_goals (first | go_big_quiet_step ((go_at_call 81; exact HC.out _)) | quiet_step ((go_at_call 81; exact HC.out _))))
      refine wpQuiet_nil ?_
      rintro w' ⟨X, rfl⟩
      have hbX := hb.trans ((s3 wr X).mono hb.size)
      go_wp2_with fail
     ·go_ret
      exact ⟨j5 (by rw [hR.out, au4 4 hlt (by rw [HG.out, HPO.out, HR.out])]), B2.trans (hbX.mono B2.size)⟩
     ·exact ⟨⟨k + 1, by omega, by go_num, by rw [HS.out, HA.out, HG.out, HPO.out, HR.out]; rfl, hbX⟩, by simp [intOf]; omega⟩
    ·have hpo : B6 c kinds k parts[k] = decide (parts[k] = 0) := by simp [B6, hkk]
     have HPO := show Hid _ from hpo
     clear hpo
     have hd1 : decide (kinds.length ≤ k) = true := by simp; omega
     have hd2 : decide ((kinds.length : Int) ≤ (k : Int)) = true := by simp; omega
     have hd3 : decide (k < kinds.length) = false := by simp; omega
     have hd4 : decide ((k : Int) < (kinds.length : Int)) = false := by simp; omega
     by_cases hz : parts[k] = 0
     ·have hz1 : (parts[k] != 0) = false := by simp [hz]
      have HZ := show Hid _ from hz
      clear hz
      go_wp2_with fail
      refine F9 (by kernel_rfl) (by kernel_rfl) ?_
      repeat (any_goals (first | go_big_quiet_step (fail) | quiet_step (fail)))
      refine wpQuiet_nil ?_
      rintro w' ⟨X, rfl⟩
      have hbX := hb.trans ((s3 wr X).mono hb.size)
      go_wp2_with fail
      exact ⟨⟨k + 1, by omega, by go_num, by rw [HS.out, HA.out, HG.out, HPO.out, HZ.out]; rfl, hbX⟩, by simp [intOf]; omega⟩
     ·have hz1 : (parts[k] != 0) = true := by simp [hz]
      have HZ := show Hid (¬ parts[k] = 0) from hz
      clear hz
      go_wp2_with fail
      refine F9 (by kernel_rfl) (by kernel_rfl) ?_
      repeat (any_goals (first | go_big_quiet_step (fail) | quiet_step (fail)))
      refine wpQuiet_nil ?_
      rintro w' ⟨X, rfl⟩
      have hbX := hb.trans ((s3 wr X).mono hb.size)
      go_wp2_with fail
      go_ret
      exact ⟨j5 (by rw [hR.out, au4 4 hlt (by rw [HG.out, HPO.out, decide_eq_false HZ.out])]), B2.trans (hbX.mono B2.size)⟩
   ·go_wp2_with fail
    go_ret
    obtain rfl : k = 4 := by omega
    exact ⟨j5 (by rw [hR.out, HA.out]), B2.trans (hb.mono B2.size)⟩
 ·have hR : Hid (v8 c x = false) := by
   unfold Hid; rw [HT.out]
   rcases Classical.not_and_iff_not_or_not.1 hop with h | h
   ·rw [decide_eq_false h]; rfl
   ·rw [decide_eq_false h]; simp
  clear HT h1 h2 h3
  have hcase : x.op < 1 ∨ (¬ x.op < 1 ∧ 13 < x.op) := by omega
  clear hop
  rcases hcase with hop | ⟨hop, hop2⟩
  all_goals
   go_enter Tryz.func55, Tryz.ntmps55
   go_wp2_with fail
   go_ret
   exact ⟨j5 hR.out.symm, by go_grown⟩
theorem at4 (v : Value) (c : b6) (w : World) (h : A3 w v c) :
  Calls Tryz.prog 28 #[v] w fun e w' => e = .returned (.bool (f8 c)) ∧ Below w.heap.size w w' := by
 have hrow := h
 obtain ⟨v1, v2, v3, rfl, h1, h2, h3⟩ := h
 have HT : Hid (f8 c = (C6 c.vars c.arrays && decide (1 ≤ c.list.length) && decide (c.list.length ≤ 400) && c.list.all (v8 c) && V0 c)) := rfl
 obtain ⟨W, hW⟩ : ∃ W, W = w.alloc (.cells #[v1, v2, v3] 26) := ⟨_, rfl⟩
 have B0 : Below w.heap.size w W := by rw [hW]; go_grown
 have L1 : y9 W w.heap.size [v1, v2, v3] := by rw [hW]; exact (y9.new w [v1, v2, v3] _)
 obtain ⟨a3, k3, rfl, hk3, hm3, -, hc3⟩ := h3.ins
 go_enter Tryz.func28, Tryz.ntmps28
 go_wp2_with fail
 rw [← hW]
 clear hW
 refine (aG2 _ _ _ _ _ _ _ _ (h1.below B0) (h2.below B0)).mono ?_
 rintro e w1 ⟨rfl, b1⟩
 replace L1 := L1.below b1 L1.lt
 have B1 := B0.trans (b1.mono B0.size)
 go_wp2_with fail
 refine (ah4 _ _ _ c.vars c.arrays _ (h1.below B1) (h2.below B1)).mono ?_
 rintro e w2 ⟨rfl, b2⟩
 replace L1 := L1.below b2 L1.lt
 have B2 := B1.trans (b2.mono B1.size)
 cases hh : C6 c.vars c.arrays
 ·have HH := show Hid _ from hh
  clear hh hc3
  go_wp2_with fail
  go_ret
  exact ⟨j5 (by rw [HT.out, HH.out]; rfl), B2⟩
 ·have HH := show Hid _ from hh
  clear hh
  by_cases hn : 1 ≤ c.list.length ∧ c.list.length ≤ 400
  ·obtain ⟨hn1, hn2⟩ := hn
   have x0 := L1.cell 0
   have x1 := L1.cell 1
   have x2 := L1.cell 2
   simp at x0 x1 x2
   go_wp2_with fail
   go_loopw [4] (fun i wr => ∃ k : Nat, k ≤ c.list.length ∧ i = .int .i64 k ∧ (c.list.take k).all (v8 c) = true ∧ Below w2.heap.size w2 wr) (fun i _ => c.list.length - (intOf i).toNat)
   case atStart => exact ⟨0, by omega, rfl, rfl, Below.refl _ _⟩
   case round =>
    obtain ⟨k, hk, rfl, ha, hb⟩ := hrel
    have HA := show Hid _ from ha
    clear ha x0 x1 x2
    replace L1 := L1.below hb L1.lt
    have BW := B2.trans (hb.mono B2.size)
    by_cases hlt : k < c.list.length
    ·obtain ⟨b, off, rfl, hb3, i0, i1, i2, i3, i4⟩ := hc3 k hlt
     rw [← (O9 BW).1 _ _ hb3] at i0 i1 i2 i3 i4
     have x0 := L1.cell 0
     have x1 := L1.cell 1
     have x2 := L1.cell 2
     simp only [bX3, bX6] at x0 x1 x2
     have z0 := fun X => i6 x0 X
     have z1 := fun X => i6 x1 X
     have z2 := fun X => i6 x2 X
     have j0 := fun X => i6 i0 X
     have j1 := fun X => i6 i1 X
     have j2 := fun X => i6 i2 X
     have j3 := fun X => i6 i3 X
     have j4 := fun X => i6 i4 X
     have HS := show Hid _ from O3 (v8 c) c.list k hlt
     clear x0 x1 x2 i0 i1 i2 i3 i4 hc3
     cases hi : v8 c c.list[k]
     all_goals
      have HI := show Hid _ from hi
      clear hi
      have HC : Hid (∀ X, Calls Tryz.prog 55 #[.agg #[v1, v2, .slice (some ⟨b, off, none⟩) c.list.length k3], c.list[k].v] (wr.ext X) fun e w'' => e = .returned (.bool _) ∧ ∃ Y, w'' = wr.ext Y) :=
       fun X => Calls.ext_of' ((aG1 _ c c.list[k] _ ((hrow.below BW).below (s3 _ X))).mono fun e w' h => by rw [HI.out] at h; exact h)
      go_wp2_with fail
      refine F9 (by kernel_rfl) (by kernel_rfl) ?_
      repeat (any_goals (first | go_big_quiet_step ((go_at_call 55; exact HC.out _)) | quiet_step ((go_at_call 55; exact HC.out _))))
      refine wpQuiet_nil ?_
      rintro _ ⟨X, rfl⟩
      have hbX := hb.trans ((s3 wr X).mono hb.size)
      go_wp2_with fail
     ·go_ret
      exact ⟨j5 (by rw [HT.out, ai4 hlt HI.out]; simp), B2.trans (hbX.mono B2.size)⟩
     ·exact ⟨⟨k + 1, by omega, by go_num, by rw [HS.out, HA.out, HI.out]; rfl, hbX⟩, by simp [intOf]; omega⟩
    ·have hl : c.list.length - 1 < c.list.length := by omega
     obtain ⟨b, off, rfl, hb3, i0, i1, i2, i3, i4⟩ := hc3 _ hl
     rw [← (O9 BW).1 _ _ hb3] at i0
     have x2 := L1.cell 2
     simp only [bX3, bX6] at x2
     have ec : ((c.list.length : Int) - 1) = ((c.list.length - 1 : Nat) : Int) := by omega
     have EC := show Hid _ from ec
     have HL : Hid (V0 c = (decide (c.list[c.list.length - 1].op = 13) || decide (c.list[c.list.length - 1].op = 8))) := by
      unfold Hid V0
      rw [List.getLast?_eq_getElem?, bW9 hl]
     clear hc3 ec i1 i2 i3 i4
     have HA' := show Hid (c.list.all (v8 c) = true) from by have := HA.out; rwa [bY3 (by omega)] at this
     have hF : Hid (f8 c = (decide (c.list[c.list.length - 1].op = 13) || decide (c.list[c.list.length - 1].op = 8))) := by
      unfold Hid; rw [HT.out, HH.out, HA'.out, HL.out, decide_eq_true hn1, decide_eq_true hn2]; rfl
     go_wp2_with fail
     all_goals go_ret
     all_goals exact ⟨j5 (by rw [hF.out, bZ7]; simp_all), BW⟩
  ·have hF : Hid (f8 c = false) := by
    unfold Hid; rw [HT.out]
    rcases Classical.not_and_iff_not_or_not.1 hn with h | h
    ·rw [decide_eq_false h]; simp
    ·rw [decide_eq_false h]; simp
   have hcase : c.list.length < 1 ∨ (¬ c.list.length < 1 ∧ 400 < c.list.length) := by omega
   clear hn hc3 HT
   rcases hcase with hn | ⟨hn, hn2⟩
   all_goals
    go_wp2_with fail
    go_ret
    exact ⟨j5 hF.out.symm, B2⟩
def af0 (c : b6) : b6 := if f8 c = true then t9 c else ⟨[], [], []⟩
theorem aD6 (w : World) (lo hi : Nat) : A0 w lo hi (.agg #[.slice none 0 0, .slice none 0 0, .slice none 0 0]) ⟨[], [], []⟩ :=
 ⟨_, _, _, rfl, ⟨World.ownsRow_nil _ _ _ _, (fun g hg => by cases hg)⟩, ⟨World.ownsRow_nil _ _ _ _, (fun g hg => by cases hg)⟩, ⟨World.ownsRow_nil _ _ _ _, (fun g hg => by cases hg)⟩, (fun g hg => by cases hg), (fun g hg => by cases hg), (fun g hg => by cases hg)⟩
theorem ak5 (v : Value) (c : b6) (w : World) (h : A3 w v c) :
  Calls Tryz.prog 9 #[v] w fun e w' => ∃ u, e = .returned (.tuple #[u, .bool (f8 c)]) ∧ A0 w' w.heap.size w'.heap.size u (af0 c) ∧ Below w.heap.size w w' := by
 have hrow := h
 obtain ⟨v1, v2, v3, rfl, h1, h2, h3⟩ := h
 obtain ⟨n, hn⟩ : ∃ n, n = w.heap.size := ⟨_, rfl⟩
 obtain ⟨W, hW⟩ : ∃ W, W = (w.alloc (.cells #[v1, v2, v3] 26)).alloc (.cells #[.slice none 0 0, .slice none 0 0, .slice none 0 0] 26) := ⟨_, rfl⟩
 have B0 : Below w.heap.size w W := by rw [hW]; go_grown
 have sW : W.heap.size = n + 1 + 1 := by rw [hW, hn]; simp
 have L1 : y9 W n [v1, v2, v3] := by rw [hW, hn]; exact (y9.new w [v1, v2, v3] _).alloc _
 have L2 : y9 W (n + 1) [.slice none 0 0, .slice none 0 0, .slice none 0 0] := by rw [hW, hn]; exact y9.new' (w.alloc _) [.slice none 0 0, .slice none 0 0, .slice none 0 0] _ (by simp)
 have HT : Hid (af0 c = if f8 c = true then t9 c else ⟨[], [], []⟩) := rfl
 have x0 := L1.cell 0
 have x1 := L1.cell 1
 have x2 := L1.cell 2
 simp only [bX3, bX6] at x0 x1 x2
 rw [hW, hn] at x0 x1 x2
 go_enter Tryz.func9, Tryz.ntmps9
 go_wp2_with fail
 rw [← hW, ← hn]
 clear hW x0 x1 x2
 refine (at4 _ c _ (hrow.below B0)).mono ?_
 rintro e w1 ⟨rfl, b1⟩
 replace L1 := L1.below b1 L1.lt
 replace L2 := L2.below b1 L2.lt
 have B1 := B0.trans (b1.mono B0.size)
 have s1 := b1.size
 have HN := show Hid (n = w.heap.size) from hn
 clear b1 B0 hn
 have x0 := L1.cell 0
 have x1 := L1.cell 1
 have x2 := L1.cell 2
 simp only [bX3, bX6] at x0 x1 x2
 cases hc : f8 c
 ·have HC := show Hid (af0 c = ⟨[], [], []⟩) from by unfold Hid; rw [HT.out, hc]; simp
  have z0 := L2.cell 0
  have z1 := L2.cell 1
  have z2 := L2.cell 2
  simp only [bX3, bX6] at z0 z1 z2
  have f0 := L2.free 0
  have f1 := L2.free 1
  have f2 := L2.free 2
  have HO := show Hid _ from hc
  clear hc
  go_wp2_with fail
  have hn := HN.out
  have L3 := ((L2.set (j := 0) (.slice none 0 0)).set (j := 1) (.slice none 0 0)).set (j := 2) (.slice none 0 0)
  have BF := ((B1.setCell (p := ⟨n + 1, 0, none⟩) (by show w.heap.size ≤ n + 1; omega) (.slice none 0 0)).setCell (p := ⟨n + 1, 1, none⟩) (by show w.heap.size ≤ n + 1; omega) (.slice none 0 0)).setCell (p := ⟨n + 1, 2, none⟩) (by show w.heap.size ≤ n + 1; omega) (.slice none 0 0)
  have r0 := L3.cell 0
  have r1 := L3.cell 1
  have r2 := L3.cell 2
  simp only [bX3, bX6, List.set_cons_zero, List.set_cons_succ] at r0 r1 r2
  generalize ((w1.setCell ⟨n + 1, 0, none⟩ (.slice none 0 0)).setCell ⟨n + 1, 1, none⟩ (.slice none 0 0)).setCell ⟨n + 1, 2, none⟩ (.slice none 0 0) = WF at *
  exact bodyPost_ret (v := .tuple #[.agg #[.slice none 0 0, .slice none 0 0, .slice none 0 0], .bool false]) (by simp [results, Tryz.results9, go_sem, r0, r1, r2]) rfl ⟨_, by rw [HO.out], by rw [HC.out]; exact aD6 _ _ _, BF⟩
 ·have HC := show Hid (af0 c = t9 c) from by unfold Hid; rw [HT.out, hc]; simp
  have HO := show Hid _ from hc
  clear hc
  go_wp2_with fail
  refine (ay7 _ c HO.out _ (hrow.below B1)).mono ?_
  rintro e w2 ⟨u, rfl, ou, b2⟩
  obtain ⟨y1, y2, y3, rfl, -⟩ := id ou
  obtain ⟨p1, q1, p2, q2, p3, q3, rfl, rfl, rfl⟩ := Code.rowOf ou
  have B2 := B1.trans (b2.mono B1.size)
  replace L2 := L2.below b2 L2.lt
  have s2 := b2.size
  clear x0 x1 x2
  have z0 := L2.cell 0
  have z1 := L2.cell 1
  have z2 := L2.cell 2
  simp only [bX3, bX6] at z0 z1 z2
  have f0 := L2.free 0
  have f1 := L2.free 1
  have f2 := L2.free 2
  go_wp2_with fail
  have hn := HN.out
  have L3 := ((L2.set (j := 0) (.slice p1 (t9 c).vars.length q1)).set (j := 1) (.slice p2 (t9 c).arrays.length q2)).set (j := 2) (.slice p3 (t9 c).list.length q3)
  have hO : U4 (n + 1) (n + 1 + 1) w2 (((w2.setCell ⟨n + 1, 0, none⟩ (.slice p1 (t9 c).vars.length q1)).setCell ⟨n + 1, 1, none⟩ (.slice p2 (t9 c).arrays.length q2)).setCell ⟨n + 1, 2, none⟩ (.slice p3 (t9 c).list.length q3)) :=
   (((U4.refl (n + 1) (n + 1 + 1) w2).setCell (p := ⟨n + 1, 0, none⟩) (bX4 _) (bZ9 _) _).setCell (p := ⟨n + 1, 1, none⟩) (bX4 _) (bZ9 _) _).setCell (p := ⟨n + 1, 2, none⟩) (bX4 _) (bZ9 _) _
  have oF := ou.out hO (.inr (by omega))
  have zF : (((w2.setCell ⟨n + 1, 0, none⟩ (.slice p1 (t9 c).vars.length q1)).setCell ⟨n + 1, 1, none⟩ (.slice p2 (t9 c).arrays.length q2)).setCell ⟨n + 1, 2, none⟩ (.slice p3 (t9 c).list.length q3)).heap.size = w2.heap.size := by simp
  have BF := ((B2.setCell (p := ⟨n + 1, 0, none⟩) (by show w.heap.size ≤ n + 1; omega) (.slice p1 (t9 c).vars.length q1)).setCell (p := ⟨n + 1, 1, none⟩) (by show w.heap.size ≤ n + 1; omega) (.slice p2 (t9 c).arrays.length q2)).setCell (p := ⟨n + 1, 2, none⟩) (by show w.heap.size ≤ n + 1; omega) (.slice p3 (t9 c).list.length q3)
  have r0 := L3.cell 0
  have r1 := L3.cell 1
  have r2 := L3.cell 2
  simp only [bX3, bX6, List.set_cons_zero, List.set_cons_succ] at r0 r1 r2
  generalize ((w2.setCell ⟨n + 1, 0, none⟩ (.slice p1 (t9 c).vars.length q1)).setCell ⟨n + 1, 1, none⟩ (.slice p2 (t9 c).arrays.length q2)).setCell ⟨n + 1, 2, none⟩ (.slice p3 (t9 c).list.length q3) = WF at *
  exact bodyPost_ret (v := .tuple #[.agg #[.slice p1 (t9 c).vars.length q1, .slice p2 (t9 c).arrays.length q2, .slice p3 (t9 c).list.length q3], .bool true]) (by simp [results, Tryz.results9, go_sem, r0, r1, r2]) rfl ⟨_, by rw [HO.out], by rw [HC.out]; exact oF.wide (by omega) (by omega), BF⟩
theorem al1 (v : Value) (c : b6) (w : World) (h : A3 w v c) :
  Calls Tryz.prog 8 #[v] w fun e w' => ∃ u, e = .returned (.tuple #[u, .bool (f8 c)]) ∧ A0 w' w.heap.size w'.heap.size u (af0 c) ∧ Below w.heap.size w w' := by
 have hrow := h
 obtain ⟨v1, v2, v3, rfl, h1, h2, h3⟩ := h
 obtain ⟨n, hn⟩ : ∃ n, n = w.heap.size := ⟨_, rfl⟩
 obtain ⟨W, hW⟩ : ∃ W, W = (w.alloc (.cells #[v1, v2, v3] 26)).alloc (.cells #[.slice none 0 0, .slice none 0 0, .slice none 0 0] 26) := ⟨_, rfl⟩
 have B0 : Below w.heap.size w W := by rw [hW]; go_grown
 have sW : W.heap.size = n + 1 + 1 := by rw [hW, hn]; simp
 have L1 : y9 W n [v1, v2, v3] := by rw [hW, hn]; exact (y9.new w [v1, v2, v3] _).alloc _
 have L2 : y9 W (n + 1) [.slice none 0 0, .slice none 0 0, .slice none 0 0] := by rw [hW, hn]; exact y9.new' (w.alloc _) [.slice none 0 0, .slice none 0 0, .slice none 0 0] _ (by simp)
 have HT : Hid (af0 c = if f8 c = true then t9 c else ⟨[], [], []⟩) := rfl
 have x0 := L1.cell 0
 have x1 := L1.cell 1
 have x2 := L1.cell 2
 simp only [bX3, bX6] at x0 x1 x2
 rw [hW, hn] at x0 x1 x2
 go_enter Tryz.func8, Tryz.ntmps8
 go_wp2_with fail
 rw [← hW, ← hn]
 clear hW x0 x1 x2
 refine (ab1 _ c _ (hrow.below B0)).mono ?_
 rintro e w1 ⟨rfl, b1⟩
 replace L1 := L1.below b1 L1.lt
 replace L2 := L2.below b1 L2.lt
 have B1 := B0.trans (b1.mono B0.size)
 have s1 := b1.size
 have HN := show Hid (n = w.heap.size) from hn
 clear b1 B0 hn
 have x0 := L1.cell 0
 have x1 := L1.cell 1
 have x2 := L1.cell 2
 simp only [bX3, bX6] at x0 x1 x2
 cases hc : f8 c
 ·have HC := show Hid (af0 c = ⟨[], [], []⟩) from by unfold Hid; rw [HT.out, hc]; simp
  have z0 := L2.cell 0
  have z1 := L2.cell 1
  have z2 := L2.cell 2
  simp only [bX3, bX6] at z0 z1 z2
  have f0 := L2.free 0
  have f1 := L2.free 1
  have f2 := L2.free 2
  have HO := show Hid _ from hc
  clear hc
  go_wp2_with fail
  have hn := HN.out
  have L3 := ((L2.set (j := 0) (.slice none 0 0)).set (j := 1) (.slice none 0 0)).set (j := 2) (.slice none 0 0)
  have BF := ((B1.setCell (p := ⟨n + 1, 0, none⟩) (by show w.heap.size ≤ n + 1; omega) (.slice none 0 0)).setCell (p := ⟨n + 1, 1, none⟩) (by show w.heap.size ≤ n + 1; omega) (.slice none 0 0)).setCell (p := ⟨n + 1, 2, none⟩) (by show w.heap.size ≤ n + 1; omega) (.slice none 0 0)
  have r0 := L3.cell 0
  have r1 := L3.cell 1
  have r2 := L3.cell 2
  simp only [bX3, bX6, List.set_cons_zero, List.set_cons_succ] at r0 r1 r2
  generalize ((w1.setCell ⟨n + 1, 0, none⟩ (.slice none 0 0)).setCell ⟨n + 1, 1, none⟩ (.slice none 0 0)).setCell ⟨n + 1, 2, none⟩ (.slice none 0 0) = WF at *
  exact bodyPost_ret (v := .tuple #[.agg #[.slice none 0 0, .slice none 0 0, .slice none 0 0], .bool false]) (by simp [results, Tryz.results8, go_sem, r0, r1, r2]) rfl ⟨_, by rw [HO.out], by rw [HC.out]; exact aD6 _ _ _, BF⟩
 ·have HC := show Hid (af0 c = t9 c) from by unfold Hid; rw [HT.out, hc]; simp
  have HO := show Hid _ from hc
  clear hc
  go_wp2_with fail
  refine (az1 _ c HO.out _ (hrow.below B1)).mono ?_
  rintro e w2 ⟨u, rfl, ou, b2⟩
  obtain ⟨y1, y2, y3, rfl, -⟩ := id ou
  obtain ⟨p1, q1, p2, q2, p3, q3, rfl, rfl, rfl⟩ := Code.rowOf ou
  have B2 := B1.trans (b2.mono B1.size)
  replace L2 := L2.below b2 L2.lt
  have s2 := b2.size
  clear x0 x1 x2
  have z0 := L2.cell 0
  have z1 := L2.cell 1
  have z2 := L2.cell 2
  simp only [bX3, bX6] at z0 z1 z2
  have f0 := L2.free 0
  have f1 := L2.free 1
  have f2 := L2.free 2
  go_wp2_with fail
  have hn := HN.out
  have L3 := ((L2.set (j := 0) (.slice p1 (t9 c).vars.length q1)).set (j := 1) (.slice p2 (t9 c).arrays.length q2)).set (j := 2) (.slice p3 (t9 c).list.length q3)
  have hO : U4 (n + 1) (n + 1 + 1) w2 (((w2.setCell ⟨n + 1, 0, none⟩ (.slice p1 (t9 c).vars.length q1)).setCell ⟨n + 1, 1, none⟩ (.slice p2 (t9 c).arrays.length q2)).setCell ⟨n + 1, 2, none⟩ (.slice p3 (t9 c).list.length q3)) :=
   (((U4.refl (n + 1) (n + 1 + 1) w2).setCell (p := ⟨n + 1, 0, none⟩) (bX4 _) (bZ9 _) _).setCell (p := ⟨n + 1, 1, none⟩) (bX4 _) (bZ9 _) _).setCell (p := ⟨n + 1, 2, none⟩) (bX4 _) (bZ9 _) _
  have oF := ou.out hO (.inr (by omega))
  have zF : (((w2.setCell ⟨n + 1, 0, none⟩ (.slice p1 (t9 c).vars.length q1)).setCell ⟨n + 1, 1, none⟩ (.slice p2 (t9 c).arrays.length q2)).setCell ⟨n + 1, 2, none⟩ (.slice p3 (t9 c).list.length q3)).heap.size = w2.heap.size := by simp
  have BF := ((B2.setCell (p := ⟨n + 1, 0, none⟩) (by show w.heap.size ≤ n + 1; omega) (.slice p1 (t9 c).vars.length q1)).setCell (p := ⟨n + 1, 1, none⟩) (by show w.heap.size ≤ n + 1; omega) (.slice p2 (t9 c).arrays.length q2)).setCell (p := ⟨n + 1, 2, none⟩) (by show w.heap.size ≤ n + 1; omega) (.slice p3 (t9 c).list.length q3)
  have r0 := L3.cell 0
  have r1 := L3.cell 1
  have r2 := L3.cell 2
  simp only [bX3, bX6, List.set_cons_zero, List.set_cons_succ] at r0 r1 r2
  generalize ((w2.setCell ⟨n + 1, 0, none⟩ (.slice p1 (t9 c).vars.length q1)).setCell ⟨n + 1, 1, none⟩ (.slice p2 (t9 c).arrays.length q2)).setCell ⟨n + 1, 2, none⟩ (.slice p3 (t9 c).list.length q3) = WF at *
  exact bodyPost_ret (v := .tuple #[.agg #[.slice p1 (t9 c).vars.length q1, .slice p2 (t9 c).arrays.length q2, .slice p3 (t9 c).list.length q3], .bool true]) (by simp [results, Tryz.results8, go_sem, r0, r1, r2]) rfl ⟨_, by rw [HO.out], by rw [HC.out]; exact oF.wide (by omega) (by omega), BF⟩
theorem bv6 (x y : c7) (w : World) : (binOp .neq 60 (.agg #[.int .i64 x.op, .int .i64 x.a, .int .i64 x.b, .int .i64 x.c, .int .i64 x.d]) (.agg #[.int .i64 y.op, .int .i64 y.a, .int .i64 y.b, .int .i64 y.c, .int .i64 y.d])).run Tryz.prog w = .ok (.bool (!decide (x.l = y.l))) w := by
 rw [run_neq_struct, run_equalIn_struct _ _ _ _ _ (by kernel_rfl) (by kernel_rfl)]
 rw [show (Tryz.prog.fieldsOf 60).toList = [⟨"Op", 3, 0, false, "", "", 0⟩, ⟨"A", 3, 1, false, "", "", 8⟩, ⟨"B", 3, 2, false, "", "", 16⟩, ⟨"C", 3, 3, false, "", "", 24⟩, ⟨"D", 3, 4, false, "", "", 32⟩] from by kernel_rfl]
 simp only [c7.l, List.cons.injEq, and_true]
 simp [go_sem, Op.eqFields]
 (repeat' split) <;> simp_all
theorem aw7 (v1 v2 : Value) (xs ys : List Int) (w : World) (h1 : F2 w v1 xs.length 1 (ints xs)) (h2 : F2 w v2 ys.length 1 (ints ys)) :
  Calls Tryz.prog 30 #[v1, v2] w fun e w' => e = .returned (.bool (decide (xs = ys))) ∧ ∃ n, w' = w.drewN n := by
 obtain ⟨a1, c1, rfl, -, hm1, -, hc1⟩ := h1.open1
 obtain ⟨a2, c2, rfl, -, hm2, -, hc2⟩ := h2.open1
 by_cases hl : xs.length = ys.length
 ·have heq : ((xs.length : Int) == (ys.length : Int)) = true := by simp; omega
  have HL : Hid (xs.length = ys.length) := hl
  clear h1 h2 hl
  go_enter Tryz.func30, Tryz.ntmps30
  go_wp2
  go_loopw [5, 13] (fun _ i wr => ∃ k : Nat, k ≤ xs.length ∧ i = .int .i64 k ∧ xs.take k = ys.take k ∧ ∃ n, wr = w.drewN n) (fun _ i _ => xs.length - (intOf i).toNat)
  case atStart => exact ⟨0, bZ4 _, rfl, rfl, 0, rfl⟩
  case round =>
   obtain ⟨k, hk, rfl, ht, nd, rfl⟩ := hrel
   have HT : Hid (xs.take k = ys.take k) := ht
   clear ht
   by_cases hlt : k < xs.length
   ·have hlt2 : k < ys.length := by have := HL.out; omega
    obtain ⟨b1, o1, rfl, hb1, hx⟩ := hc1 k hlt
    obtain ⟨b2, o2, rfl, hb2, hy⟩ := hc2 k hlt2
    rw [ab0 _ _ hlt] at hx
    rw [ab0 _ _ hlt2] at hy
    clear hc1 hc2
    go_wp2
    go_quiet (fail)
    go_wp2
    ·rename_i hd
     go_ret
     exact ⟨j5 (by symm; simp; intro h; subst h; simp at hd), _, by first | rfl | exact World.drewN_drewN _ _ _⟩
    ·rename_i hd
     refine ⟨⟨k + 1, by omega, by go_num, W9 HT.out hlt hlt2 (by simpa using hd), _, by first | rfl | exact World.drewN_drewN _ _ _⟩, by simp [intOf]; omega⟩
   ·have hge : decide ((k : Int) < (xs.length : Int)) = false := by simp; omega
    go_wp2
    go_ret
    exact ⟨j5 (by symm; simp; exact aa0 HT.out (by omega) (by have := HL.out; omega)), _, rfl⟩
 ·have hne : ((xs.length : Int) == (ys.length : Int)) = false := by simp; omega
  clear hc1 hc2
  go_enter Tryz.func30, Tryz.ntmps30
  go_wp2
  go_ret
  exact ⟨j5 (by symm; simp; intro h; exact hl (by rw [h])), 0, rfl⟩
theorem a97 (v1 v2 : Value) (xs ys : List c7) (w : World) (h1 : O0 w v1 xs) (h2 : O0 w v2 ys) :
  Calls Tryz.prog 31 #[v1, v2] w fun e w' => e = .returned (.bool (decide (A8 xs = A8 ys))) ∧ ∃ n, w' = w.drewN n := by
 obtain ⟨a1, c1, rfl, -, hm1, -, hc1⟩ := h1.ins
 obtain ⟨a2, c2, rfl, -, hm2, -, hc2⟩ := h2.ins
 by_cases hl : xs.length = ys.length
 ·have heq : ((xs.length : Int) == (ys.length : Int)) = true := by simp; omega
  have HL : Hid (xs.length = ys.length) := hl
  clear h1 h2 hl
  go_enter Tryz.func31, Tryz.ntmps31
  go_wp2
  go_loopw [5, 13] (fun _ i wr => ∃ k : Nat, k ≤ xs.length ∧ i = .int .i64 k ∧ xs.take k = ys.take k ∧ ∃ n, wr = w.drewN n) (fun _ i _ => xs.length - (intOf i).toNat)
  case atStart => exact ⟨0, bZ4 _, rfl, rfl, 0, rfl⟩
  case round =>
   obtain ⟨k, hk, rfl, ht, nd, rfl⟩ := hrel
   have HT : Hid (xs.take k = ys.take k) := ht
   clear ht
   by_cases hlt : k < xs.length
   ·have hlt2 : k < ys.length := by have := HL.out; omega
    obtain ⟨b1, o1, e1, hb1, i0, i1, i2, i3, i4⟩ := hc1 k hlt
    obtain ⟨b2, o2, e2, hb2, j0, j1, j2, j3, j4⟩ := hc2 k hlt2
    have hq := fun w => bv6 xs[k] ys[k] w
    have HE := show Hid _ from (fun (h : xs[k].l = ys[k].l) => W9 HT.out hlt hlt2 (c7.ext' h))
    obtain ⟨q, hq0⟩ : ∃ q, q = !decide (xs[k].l = ys[k].l) := ⟨_, rfl⟩
    rw [← hq0] at hq
    have HQ0 := show Hid _ from hq0
    obtain ⟨x, hx⟩ : ∃ x, x = xs[k] := ⟨_, rfl⟩
    obtain ⟨y, hy⟩ : ∃ y, y = ys[k] := ⟨_, rfl⟩
    rw [← hx] at i0 i1 i2 i3 i4
    rw [← hy] at j0 j1 j2 j3 j4
    simp only [← hx, ← hy] at hq
    subst e1 e2
    clear hc1 hc2 hq0 hx hy
    cases q
    ·go_wp2
     go_quiet (fail)
     go_wp2
     refine ⟨⟨k + 1, by omega, by go_num, HE.out (by have := HQ0.out; simpa using this), _, by first | rfl | exact World.drewN_drewN _ _ _⟩, by simp [intOf]; omega⟩
    ·go_wp2
     go_quiet (fail)
     go_wp2
     go_ret
     exact ⟨j5 (by symm; simp; intro h; have := aj0 h; subst this; simpa using HQ0.out), _, by first | rfl | exact World.drewN_drewN _ _ _⟩
   ·go_wp2
    go_ret
    exact ⟨j5 (by symm; simp; exact congrArg A8 (aa0 HT.out (by omega) (by have := HL.out; omega))), _, rfl⟩
 ·have hne : ((xs.length : Int) == (ys.length : Int)) = false := by simp; omega
  clear hc1 hc2
  go_enter Tryz.func31, Tryz.ntmps31
  go_wp2
  go_ret
  exact ⟨j5 (by symm; simp; intro h; exact hl (by rw [aj0 h])), 0, rfl⟩
theorem az3 (v u : Value) (c d : b6) (w : World) (h : A3 w v c) (h' : A3 w u d) :
  Calls Tryz.prog 10 #[v, u] w fun e w' => e = .returned (.bool (c.same d)) ∧ Below w.heap.size w w' := by
 obtain ⟨v1, v2, v3, rfl, h1, h2, h3⟩ := h
 obtain ⟨u1, u2, u3, rfl, g1, g2, g3⟩ := h'
 obtain ⟨W, hW, M⟩ : ∃ W, W = ((w.alloc (.cells #[v1, v2, v3] 26)).alloc (.cells #[u1, u2, u3] 26)) ∧ G7 (fun _ => True) (fun _ => True) w W [.box w.heap.size [v1, v2, v3], .box (w.heap.size + 1) [u1, u2, u3]] :=
  ⟨_, rfl, ((G7.start fun _ _ => trivial).box _ _).box' _ _ (by simp)⟩
 have hs : Hid (c.same d = (decide (c.vars = d.vars) && decide (c.arrays = d.arrays) && decide (A8 c.list = A8 d.list))) := rfl
 have HR := show Hid (∀ W', Below W.heap.size W W' → (F2 W' v1 c.vars.length 1 (ints c.vars) ∧ F2 W' v2 c.arrays.length 1 (ints c.arrays) ∧ O0 W' v3 c.list) ∧ F2 W' u1 d.vars.length 1 (ints d.vars) ∧ F2 W' u2 d.arrays.length 1 (ints d.arrays) ∧ O0 W' u3 d.list) from fun W' k => by
  have bb := (M.call k).below fun _ _ => trivial
  exact ⟨⟨h1.below bb, h2.below bb, h3.below bb⟩, g1.below bb, g2.below bb, g3.below bb⟩
 have HB := show Hid (∀ n, Below w.heap.size w (W.drewN n)) from fun n => (M.call (below_drewN (Below.refl _ _) n)).below fun _ _ => trivial
 have x0 := M.c 0 0 rfl rfl
 have x1 := M.c 0 1 rfl rfl
 have x2 := M.c 0 2 rfl rfl
 have y0 := M.c 1 0 rfl rfl
 have y1 := M.c 1 1 rfl rfl
 have y2 := M.c 1 2 rfl rfl
 rw [hW] at x0 x1 x2 y0 y1 y2
 clear h1 h2 h3 g1 g2 g3 M
 go_enter Tryz.func10, Tryz.ntmps10
 go_wp2_with fail
 rw [← hW] at x0 x1 x2 y0 y1 y2 ⊢
 clear hW
 refine (aw7 _ _ c.vars d.vars _ (HR.out _ (Below.refl _ _)).1.1 (HR.out _ (Below.refl _ _)).2.1).mono ?_
 rintro e w1 ⟨rfl, n1, rfl⟩
 by_cases q1 : c.vars = d.vars
 ·rw [decide_eq_true q1]
  have Q1 := show Hid _ from q1
  clear q1
  go_wp2_with fail
  refine (aw7 _ _ c.arrays d.arrays _ (HR.out _ (below_drewN (Below.refl _ _) n1)).1.2.1 (HR.out _ (below_drewN (Below.refl _ _) n1)).2.2.1).mono ?_
  rintro e w1 ⟨rfl, n2, rfl⟩
  by_cases q2 : c.arrays = d.arrays
  ·rw [decide_eq_true q2]
   have Q2 := show Hid _ from q2
   clear q2
   go_wp2_with fail
   refine (a97 _ _ c.list d.list _ (HR.out _ (below_drewN (Below.refl _ _) (n1 + n2))).1.2.2 (HR.out _ (below_drewN (Below.refl _ _) (n1 + n2))).2.2.2).mono ?_
   rintro e w1 ⟨rfl, n3, rfl⟩
   obtain ⟨q, hq⟩ : ∃ q, q = decide (A8 c.list = A8 d.list) := ⟨_, rfl⟩
   rw [← hq]
   have HQ := show Hid _ from hq
   clear hq
   go_wp2_with fail
   go_ret
   exact ⟨j5 (by rw [hs.out, decide_eq_true Q1.out, decide_eq_true Q2.out, HQ.out]; rfl), HB.out _⟩
  ·rw [decide_eq_false q2]
   go_wp2_with fail
   go_ret
   exact ⟨j5 (by rw [hs.out, decide_eq_false q2]; simp), HB.out _⟩
 ·rw [decide_eq_false q1]
  go_wp2_with fail
  go_ret
  exact ⟨j5 (by rw [hs.out, decide_eq_false q1]; simp), HB.out _⟩
end Go.Proofs.YtmokkddidcmglaaGreat

namespace Go.Proofs.YtmokkddidcmglaaGreat
open Go Go.RowKit Go.ChangeShapes Go.WideShapes Go.Deep
section
variable {H : Type} {enc : TypeId × Value → H} {W : World}
theorem az6 {fuel : Nat} {t : TypeId} {v : Value} {x : DataW H × List MemPlace} (ht : Tryz.prog.underlying t = some (.slice 5))
  (h : DataW.trod enc Tryz.prog W 0 (fun _ => true) true fuel t [v] = some x) : ∃ l : List UInt8, F2 W v l.length 1 (l.map fun b => Value.int .u8 (b.toNat : Int)) := by
 obtain ⟨n, m, C, hr, hC, hx⟩ := aN8 ht (sz := 1) (by kernel_rfl) (by omega) h
 obtain ⟨g, hg⟩ := choose_lt (α := UInt8) (n := n) (p := fun i b => C i = [.int .u8 (b.toNat : Int)]) (fun i hi => by
  obtain ⟨y, hy⟩ := hx i hi
  obtain ⟨z, hz, _, hw⟩ := DataW.trod_int Tryz.underlying5 hy
  simp only [Lit.wf, bX0, decide_eq_true_eq] at hw
  have h0 : (0 : Int) ≤ z := hw.1
  have h1 : z ≤ 255 := hw.2
  refine ⟨UInt8.ofNat z.toNat, ?_⟩
  rw [hz]
  have e : (UInt8.ofNat z.toNat).toNat = z.toNat := by
   rw [UInt8.toNat_ofNat']; omega
  rw [e, b08 h0])
 refine ⟨(bY5 n).map g, ?_⟩
 rw [List.length_map, List.length_range, ← av1 n C (fun b => Value.int .u8 (b.toNat : Int)) g hg]
 exact hr
end
end Go.Proofs.YtmokkddidcmglaaGreat
