/- Part 2: functions on the way, plain laws. Conditions: as said. -/
import Derived.Test.YtmokkddidcmglaaGreatRows
import Derived.OpenShut
import Derived.ChangeOld
import Derived.Deep.Slices
import Derived.Lib.SmallJoins
import Derived.StillTailTactics
import Derived.Deep.RegionHeld3
import Derived.Deep.QuietTactic
import Derived.BigQuiet
import Derived.WalkSpells
import Derived.Lib.SliceRun
import Derived.Test.YtmokkddidcmglaaGreatK1
set_option maxRecDepth 100000
set_option maxHeartbeats 16000000
set_option linter.unusedVariables false
set_option linter.unusedSimpArgs false
open Array renaming replicate → cd9
open Bool renaming and_eq_true → cb0, eq_iff_iff → ce0, or_eq_true → cf9
open Int renaming toNat_natCast → ce4, toNat_of_nonneg → cf4
open List renaming all_eq_true → cb9, eq_nil_of_length_eq_zero → cc8, getD_eq_getElem?_getD → cb3, getElem?_append_left → cd5, getElem?_append_right → cg0, getElem?_cons_succ → cb5, getElem?_cons_zero → cb4, getElem?_eq_getElem → ca8, getElem?_eq_some_iff → cb6, getElem_mem → cd1, length_append → cb2, length_cons → cb8, length_nil → cc1, length_replicate → cd0, length_set → cd2, map_cons → cd7, mem_append → cc4, mem_of_getElem? → cc3, mem_range → ce9, mem_singleton → cd4, range → cc5, replicate → ca7, take_of_length_le → cc6
open Nat renaming add_zero → cf3, le_refl → cb1, le_trans → cd3, lt_of_lt_of_le → cf1, lt_or_ge → cc9, lt_succ_self → cd8, mul_le_mul_right → ce8, succ_mul → ce3, zero_le → cc7

namespace Go.Proofs.YtmokkddidcmglaaGreat
open Go Go.RowKit Go.ChangeShapes Go.WideShapes Go.Deep
theorem own : ownKnob Tryz.prog.godebug = none := by kernel_rfl
theorem bH9 : laidOutB Tryz.prog = true := by kernel_rfl
section
variable {H : Type} {enc : TypeId × Value → H} {W : World}
theorem by3 {C : Nat → List Value} {sz : Nat} (hC : ∀ i, (C i).length = sz) : ∀ (n i j : Nat), i < n → j < sz → ((cc5 n).flatMap C)[i * sz + j]? = (C i)[j]? := by
 intro n
 induction n with
 | zero => intro i j h; omega
 | succ n ih =>
  intro i j h hj
  have hlen : ((cc5 n).flatMap C).length = n * sz := by
   clear ih h
   induction n with
   | zero => simp
   | succ n ih2 => rw [List.range_succ, List.flatMap_append, cb2, ih2]; simp [hC, ce3]
  rw [List.range_succ, List.flatMap_append]
  by_cases hin : i < n
  ·rw [cd5 (by rw [hlen]; have := ce8 sz (Nat.succ_le_of_lt hin); rw [ce3] at this; omega)]
   exact ih i j hin hj
  ·obtain rfl : i = n := by omega
   rw [cg0 (by omega), hlen]
   simp
theorem a08 {C : Nat → List Value} {sz : Nat} (hC : ∀ i, (C i).length = sz) (n : Nat) : ((cc5 n).flatMap C).length = n * sz := by
 induction n with
 | zero => simp
 | succ n ih2 => rw [List.range_succ, List.flatMap_append, cb2, ih2]; simp [hC, ce3]
theorem aW7 {t e : TypeId} {fuel : Nat} {v : Value} {x : DataW H × List MemPlace} {sz : Nat} (ht : Tryz.prog.underlying t = some (.slice e)) (hc : Tryz.prog.cellsOf e = sz) (hsz : 0 < sz)
  (h : DataW.trod enc Tryz.prog W 0 (fun _ => true) true fuel t [v] = some x) :
  ∃ (n m : Nat) (C : Nat → List Value), D3 W v n sz ((cc5 n).flatMap C) ∧ (∀ i, (C i).length = sz) ∧ ∀ i, i < n → ∃ y, DataW.trod enc Tryz.prog W 0 (fun _ => true) true m e (C i) = some y := by
 rcases open_slice ht h with ⟨hcs, _⟩ | ⟨a, len, cap, m, k, D, Pl, hcs, _, hl, hm, hmm, _, hx⟩
 ·cases hcs
  exact ⟨0, 0, fun _ => ca7 sz undef, D3.nil _ _, by simp, fun i hi => by omega⟩
 ·cases hcs
  rw [hc] at hx
  have hmc : len ≤ m := by rw [hmm]; simp; omega
  obtain ⟨C, hC⟩ := choose_lt (α := List Value) (n := len) (p := fun i cs => cs.length = sz ∧ (∀ j, j < sz → W.cell? (a.add (i * sz + j)) = cs[j]?) ∧ ∃ y, DataW.trod enc Tryz.prog W 0 (fun _ => true) true k e cs = some y) (fun i hi => by
   obtain ⟨cs', h1, h2⟩ := hx i (by omega)
   obtain ⟨_, hlen, hcell⟩ := World.cells?_some h1
   exact ⟨cs', hlen, fun j hj => by rw [← add_add]; exact hcell j hj, _, h2⟩)
  let C' : Nat → List Value := fun i => if i < len then C i else ca7 sz undef
  have hC' : ∀ i, (C' i).length = sz := fun i => by
   by_cases hi : i < len
   ·simp only [C', if_pos hi]; exact (hC i hi).1
   ·simp [C', if_neg hi]
  refine ⟨len, k, C', ⟨a08 hC' len, some a, cap, rfl, hl, hm, fun hn => ?_⟩, hC', fun i hi => ?_⟩
  ·obtain ⟨b, off, spot⟩ := a
   have h00 := (hC 0 hn).2.1 0 hsz
   have hlen0 := (hC 0 hn).1
   rw [ca8 (by omega)] at h00
   have hs : spot = none := by
    simpa [Addr.add] using World.cell?_spot h00
   subst hs
   have hb : b < W.heap.size := by simpa [Addr.add] using World.block_lt_of_cell? W _ h00
   refine ⟨b, off, rfl, hb, fun j u hj => ?_⟩
   have hjl : j < len * sz := by have := (cb6.1 hj).1; rw [a08 hC'] at this; exact this
   have hi : j / sz < len := Nat.div_lt_of_lt_mul (by rw [Nat.mul_comm]; exact hjl)
   have hr : j % sz < sz := Nat.mod_lt _ hsz
   have hjj : j / sz * sz + j % sz = j := Nat.div_add_mod' j sz
   have hg := by3 hC' len (j / sz) (j % sz) hi hr
   rw [hjj, hj] at hg
   have hcc := (hC _ hi).2.1 _ hr
   simp only [C', if_pos hi] at hg
   rw [hjj, ← hg] at hcc
   have hadd : (⟨b, off, none⟩ : Addr).add j = ⟨b, off + j, none⟩ := by unfold Addr.add; split <;> simp_all
   rw [hadd] at hcc
   exact hcc
  ·obtain ⟨y, hy⟩ := (hC i hi).2.2
   exact ⟨y, by simp only [C', if_pos hi]; exact hy⟩
theorem aC1 {α : Type} (n : Nat) (C : Nat → List Value) (f : α → Value) (g : Nat → α) (h : ∀ i, i < n → C i = [f (g i)]) : (cc5 n).flatMap C = ((cc5 n).map g).map f := by
 rw [List.map_map, List.flatMap_def]
 rw [List.map_congr_left (g := fun i => [f (g i)]) (fun i hi => h i (by simpa using hi))]
 induction n with
 | zero => simp
 | succ n ih =>
  rw [List.range_succ, List.map_append, List.flatten_append, List.map_append, ih (fun i hi => h i (by omega))]
  simp
end
end Go.Proofs.YtmokkddidcmglaaGreat

namespace Go.Proofs.YtmokkddidcmglaaGreat
open Go Go.RowKit
theorem bI3 : (Tryz.prog.info? 23).map (fun i => (i.zero, i.size, i.bytes)) = some (some (.slice none 0 0), 1, 24) := by kernel_rfl
def aa1 (w : World) (v : Value) (m : List (List Int)) : Prop :=
 ∃ vs : List Value, D3 w v m.length 1 vs ∧ ∀ (i : Nat) (u : Value) (r : List Int), vs[i]? = some u → m[i]? = some r → D3 w u r.length 1 (ints r)
def K8 (w : World) (lo hi : Nat) (v : Value) (m : List (List Int)) : Prop :=
 ∃ vs : List Value, y7 w lo hi 23 1 v m.length vs ∧ (∀ (i : Nat) (u : Value) (r : List Int), vs[i]? = some u → m[i]? = some r → y7 w lo hi 3 1 u r.length (ints r)) ∧
  (∀ (i j : Nat) (u u' : Value), i < j → vs[i]? = some u → vs[j]? = some u' → N9 u u') ∧ ∀ (i : Nat) (u : Value), vs[i]? = some u → N9 u v
theorem aa1.below {w w' : World} {v : Value} {m : List (List Int)} (h : aa1 w v m) (hb : Below w.heap.size w w') : aa1 w' v m := by
 obtain ⟨vs, h1, h2⟩ := h
 exact ⟨vs, h1.below hb, fun i u r a b => (h2 i u r a b).below hb⟩
theorem K8.row {w : World} {lo hi : Nat} {v : Value} {m : List (List Int)} (h : K8 w lo hi v m) : aa1 w v m := by
 obtain ⟨vs, h1, h2, _⟩ := h
 exact ⟨vs, h1.row, fun i u r a b => (h2 i u r a b).row⟩
theorem K8.keep {w w' : World} {lo hi B : Nat} {v : Value} {m : List (List Int)} (h : K8 w lo hi v m) (hb : Below B w w') (hB : hi ≤ B) : K8 w' lo hi v m := by
 obtain ⟨vs, h1, h2, hd⟩ := h
 exact ⟨vs, h1.keep hb hB, fun i u r a b => (h2 i u r a b).keep hb hB, hd⟩
theorem K8.out {w w' : World} {lo hi lo' hi' : Nat} {v : Value} {m : List (List Int)} (h : K8 w lo hi v m) (hb : V5 lo' hi' w w') (hB : hi ≤ lo' ∨ hi' ≤ lo) : K8 w' lo hi v m := by
 obtain ⟨vs, h1, h2, hd⟩ := h
 exact ⟨vs, h1.out hb hB, fun i u r a b => (h2 i u r a b).out hb hB, hd⟩
theorem K8.wide {w : World} {lo hi lo' hi' : Nat} {v : Value} {m : List (List Int)} (h : K8 w lo hi v m) (g1 : lo' ≤ lo) (g2 : hi ≤ hi') : K8 w lo' hi' v m := by
 obtain ⟨vs, h1, h2, hd⟩ := h
 exact ⟨vs, h1.wide g1 g2, fun i u r a b => (h2 i u r a b).wide g1 g2, hd⟩
theorem aa1.open {w : World} {v : Value} {m : List (List Int)} (h : aa1 w v m) : ∃ a cap, v = .slice a m.length cap ∧ m.length ≤ 9223372036854775807 ∧
  ∀ i (hi : i < m.length), ∃ b off a' c', a = some ⟨b, off, none⟩ ∧ b < w.heap.size ∧ w.cell? ⟨b, off + i, none⟩ = some (.slice a' m[i].length c') ∧ D3 w (.slice a' m[i].length c') m[i].length 1 (ints m[i]) := by
 obtain ⟨vs, h1, h2⟩ := h
 obtain ⟨a, cap, hv, hc, hm, hm2, hcell⟩ := h1.open1
 refine ⟨a, cap, hv, hm, fun i hi => ?_⟩
 obtain ⟨b, off, ha, hb, hx⟩ := hcell i hi
 have hl : i < vs.length := by rw [h1.1]; omega
 rw [ca8 hl] at hx
 have hr := h2 i _ _ (ca8 hl) (ca8 hi)
 obtain ⟨a', c', hs⟩ := hr.form
 rw [hs] at hx hr
 exact ⟨b, off, a', c', ha, hb, hx, hr⟩
theorem Code.rowOf {w : World} {lo hi : Nat} {v1 v2 v3 : Value} {c : b6} (h : y6 w lo hi (.agg #[v1, v2, v3]) c) : ∃ a1 k1 a2 k2 a3 k3, v1 = .slice a1 c.vars.length k1 ∧ v2 = .slice a2 c.arrays.length k2 ∧ v3 = .slice a3 c.list.length k3 := by
 obtain ⟨u1, u2, u3, he, h1, h2, h3, -⟩ := h
 simp only [Value.agg.injEq, Array.mk.injEq, List.cons.injEq, and_true] at he
 obtain ⟨rfl, rfl, rfl⟩ := he
 obtain ⟨a1, k1, e1⟩ := h1.form
 obtain ⟨a2, k2, e2⟩ := h2.form
 obtain ⟨a3, k3, e3⟩ := h3.form
 exact ⟨a1, k1, a2, k2, a3, k3, e1, e2, e3⟩
theorem am0 {B : Nat} {w w1 w2 : World} (k : Below w1.heap.size w1 w2) (h : Below B w w1) (hB : B ≤ w.heap.size) : Below B w w2 :=
 h.trans (k.mono (cd3 hB h.size))
theorem bS8 {w : World} {b : Nat} {x y z : Value} (L : v9 w b [x, y, z]) : ∀ W', Below w.heap.size w W' → W'.cell? ⟨b, 0, none⟩ = some x ∧ W'.cell? ⟨b, 1, none⟩ = some y ∧ W'.cell? ⟨b, 2, none⟩ = some z := by
 intro W' hb
 have L' := L.below hb L.lt
 exact ⟨by simpa using L'.cell 0, by simpa using L'.cell 1, by simpa using L'.cell 2⟩
end Go.Proofs.YtmokkddidcmglaaGreat

namespace Go.Proofs.YtmokkddidcmglaaGreat
def av7 (b : Bool) : Int := if b then 1 else 0
def J9 (k a b : Int) : Int :=
 if k = 4 then (a + b).tmod 256 else if k = 5 then (a - b + 256).tmod 256 else if k = 6 then (a * b).tmod 256
 else if k = 7 then ((a.toNat &&& b.toNat : Nat) : Int) else if k = 8 then ((a.toNat ^^^ b.toNat : Nat) : Int) else if k = 9 then av7 (decide (a = b)) else av7 (decide (a < b))
theorem av6 (b : Bool) : 0 ≤ av7 b ∧ av7 b ≤ 255 := by cases b <;> simp [av7]
theorem a06 {k a b : Int} (h1 : 0 ≤ a) (h2 : a ≤ 255) (h3 : 0 ≤ b) (h4 : b ≤ 255) : 0 ≤ J9 k a b ∧ J9 k a b ≤ 255 := by
 unfold J9
 have hm : 0 ≤ a * b := Int.mul_nonneg h1 h3
 have ha : a.toNat < 2 ^ 8 := by omega
 have hb : b.toNat < 2 ^ 8 := by omega
 have hand : a.toNat &&& b.toNat < 2 ^ 8 := Nat.and_lt_two_pow _ hb
 have hxor : a.toNat ^^^ b.toNat < 2 ^ 8 := Nat.xor_lt_two_pow ha hb
 split
 ·rw [Int.tmod_eq_emod_of_nonneg (by omega)]; omega
 split
 ·rw [Int.tmod_eq_emod_of_nonneg (by omega)]; omega
 split
 ·rw [Int.tmod_eq_emod_of_nonneg hm]; omega
 split
 ·omega
 split
 ·omega
 split
 ·exact av6 _
 ·exact av6 _
def scB (l : Int) : Bool := F4 l && decide (l = 1 ∨ l = 3)
def bAt (t : List Bool) (k : Int) : Bool := t.getD k.toNat false
def iAt (t : List Int) (k : Int) : Int := t.getD k.toNat 0
def ac3 (c : b6) (x : d8) (t : List Bool) : Option Bool :=
 if x.op = 1 ∨ x.op = 11 then some false
 else if x.op = 2 then some (scB (iAt c.vars x.b))
 else if x.op = 4 then some (scB (iAt c.arrays x.b) || bAt t x.c)
 else if x.op = 6 then some (bAt t x.c || bAt t x.d)
 else if x.op = 7 then some (bAt t x.b || bAt t x.c || bAt t x.d)
 else none
def X9 (c : b6) (x : d8) (t : List Bool) : List Bool := match ac3 c x t with | some b => t.set x.a.toNat b | none => t
theorem aF9 (c : b6) (x : d8) (t : List Bool) : (X9 c x t).length = t.length := by unfold X9; split <;> simp
def aG9 (t row : List Bool) : Bool := decide (0 < row.length) && (cc5 t.length).all fun k => !(t.getD k false && !row.getD k false)
theorem a91 {c : b6} {x : d8} (h : x8 c x = true) :
  (x.op = 1 → 0 ≤ x.a ∧ x.a < 14) ∧ (x.op = 11 → 0 ≤ x.a ∧ x.a < 14) ∧
  (x.op = 2 → (0 ≤ x.a ∧ x.a < 14) ∧ 0 ≤ x.b ∧ x.b < c.vars.length) ∧
  (x.op = 3 → (0 ≤ x.a ∧ x.a < c.vars.length) ∧ 0 ≤ x.b ∧ x.b < 14) ∧
  (x.op = 4 → (0 ≤ x.a ∧ x.a < 14) ∧ (0 ≤ x.b ∧ x.b < c.arrays.length) ∧ 0 ≤ x.c ∧ x.c < 14) ∧
  (x.op = 5 → (0 ≤ x.a ∧ x.a < c.arrays.length) ∧ (0 ≤ x.b ∧ x.b < 14) ∧ 0 ≤ x.c ∧ x.c < 14) ∧
  (x.op = 6 → (0 ≤ x.a ∧ x.a < 14) ∧ (0 ≤ x.c ∧ x.c < 14) ∧ 0 ≤ x.d ∧ x.d < 14) ∧
  (x.op = 7 → (0 ≤ x.a ∧ x.a < 14) ∧ (0 ≤ x.b ∧ x.b < 14) ∧ (0 ≤ x.c ∧ x.c < 14) ∧ 0 ≤ x.d ∧ x.d < 14) ∧
  (x.op = 9 → 0 ≤ x.a ∧ x.a < 14) ∧ (x.op = 10 → 0 ≤ x.a ∧ x.a < 14) := by
 unfold x8 at h
 simp only [cb0, decide_eq_true_eq] at h
 obtain ⟨_, ⟨⟨ha, hb⟩, hc⟩, hd⟩ := h
 refine ⟨fun e => ?_, fun e => ?_, fun e => ?_, fun e => ?_, fun e => ?_, fun e => ?_, fun e => ?_, fun e => ?_, fun e => ?_, fun e => ?_⟩
 all_goals
  rw [e] at ha hb hc hd
  simp [l6, D7, K4] at ha hb hc hd
  omega
def aA9 (r : List Bool) : Bool := decide (r.length = 0) || decide (r.length = 14)
def aR7 (t row : List Bool) (k : Nat) : Bool := (cc5 k).all fun j => !(t.getD j false && !row.getD j false)
def rowAt (m : List (List Bool)) (i : Int) : List Bool := m.getD i.toNat []
theorem ah6 {m : List (List Bool)} {i : Nat} (h : i < m.length) : rowAt m i = m[i] := by simp [rowAt, h]
def t6 (c : b6) (i : Nat) : d8 := c.list.getD i ⟨0, 0, 0, 0, 0⟩
theorem B9 {c : b6} {i : Nat} (h : i < c.list.length) : t6 c i = c.list[i] := by simp [t6, h]
def Z8 (c : b6) (m : List (List Bool)) (i : Nat) : Bool := decide ((rowAt m i).length = 0) || (nx c i).all fun t => aG9 (X9 c (t6 c i) (rowAt m i)) (rowAt m t)
theorem aK0 {m : List (List Bool)} (h : m.all aA9 = true) (i : Int) : (rowAt m i).length = 0 ∨ (rowAt m i).length = 14 := by
 unfold rowAt
 rcases cc9 i.toNat m.length with h1 | h1
 ·have := cb9.1 h _ (cd1 h1)
  simp only [aA9, cf9, decide_eq_true_eq] at this
  simpa [h1] using this
 ·left; simp [h1]
def X4 (c : b6) (x : Int) : Bool := decide ((t6 c x.toNat).op = 8)
def t2 (c : b6) : Nat → Int → Int
 | 0, x => x
 | k + 1, x => if X4 c x = true then t2 c k (t6 c x.toNat).a else x
def A0 (c : b6) (t : Int) : Int := if X4 c (t2 c c.list.length t) = true then t else t2 c c.list.length t
theorem K0 {c : b6} {k : Nat} {x : Int} (h : X4 c x = true) : t2 c (k + 1) x = t2 c k (t6 c x.toNat).a := by rw [t2, if_pos h]
theorem F2 {c : b6} {x : Int} (h : X4 c x = false) : ∀ k, t2 c k x = x
 | 0 => rfl
 | k + 1 => by rw [t2, if_neg (by rw [h]; simp)]
def B5 (x : d8) (t : Int) : d8 := if x.op = 8 then { x with a := t } else if x.op = 9 ∨ x.op = 10 then { x with b := t } else x
def J4 (c : b6) (x : d8) : d8 := if 0 ≤ i6 x then B5 x (A0 c (i6 x)) else x
def E7 (c : b6) : b6 := { c with list := c.list.map (J4 c) }
theorem R0 {c : b6} {x : d8} (h : x8 c x = true) (h0 : 0 ≤ i6 x) : i6 x < c.list.length := by
 by_cases ho : x.op = 8 ∨ x.op = 9 ∨ x.op = 10
 ·exact (az8 h ho).2
 ·unfold i6 at h0
  rw [if_neg (by omega), if_neg (by omega)] at h0
  omega
def B6 (c : b6) (x : Int) : Prop := 0 ≤ x ∧ x < c.list.length
theorem ax7 {c : b6} (h : e6 c = true) {x : Int} (hx : B6 c x) (hj : X4 c x = true) : B6 c (t6 c x.toNat).a := by
 have hl : x.toNat < c.list.length := by have := hx.1; have := hx.2; omega
 have hi := (i8 h).2.2.2.1 x.toNat hl
 unfold X4 at hj
 rw [decide_eq_true_eq] at hj
 rw [B9 hl] at hj ⊢
 have := az8 hi (.inl hj)
 unfold i6 at this
 rw [if_pos hj] at this
 exact this
def N8 (c : b6) (k : Nat) : List d8 := (c.list.map (J4 c)).take k ++ c.list.drop k
theorem ap2 (c : b6) (k : Nat) : (N8 c k).length = c.list.length := by
 unfold N8
 rw [cb2, List.length_take, List.length_drop, List.length_map]
 omega
theorem ah8 (c : b6) : N8 c 0 = c.list := by simp [N8]
theorem aY5 (c : b6) : N8 c c.list.length = (E7 c).list := by
 unfold N8 E7
 rw [List.drop_length, List.append_nil, cc6 (by simp)]
theorem ar8 (c : b6) (k : Nat) (h : k < c.list.length) : N8 c (k + 1) = (N8 c k).set k (J4 c c.list[k]) := by
 have hk : k < (c.list.map (J4 c)).length := by simpa using h
 have hl : ((c.list.map (J4 c)).take k).length = k := by rw [List.length_take]; omega
 unfold N8
 rw [List.set_append_right _ _ (by omega), hl, Nat.sub_self, List.drop_eq_getElem_cons h, List.set_cons_zero, D0 _ _ hk]
 simp
theorem bH4 (c : b6) (k : Nat) (h : k < c.list.length) : (N8 c k)[k]? = some c.list[k] := by
 unfold N8
 rw [cg0 (by rw [List.length_take]; omega), List.length_take, List.length_map, Nat.min_eq_left (by omega), Nat.sub_self, List.getElem?_drop, cf3, ca8 h]
theorem aK6 (c : b6) (k : Nat) (h : k < c.list.length) (he : J4 c c.list[k] = c.list[k]) : N8 c (k + 1) = N8 c k := by
 rw [ar8 c k h, he]
 apply List.ext_getElem?
 intro i
 rw [List.getElem?_set]
 split
 ·rename_i e
  subst e
  rw [bH4 c k h]
  simp [ap2, h]
 ·rfl
theorem S8 {c : b6} (h : e6 c = true) : c.size ≤ 1048576 := by
 obtain ⟨h1, -, h2, -, -⟩ := i8 h
 unfold F0 at h1
 simp only [cb0, decide_eq_true_eq] at h1
 unfold b6.size
 omega
def aD2 (c : b6) (i : Nat) : Bool := decide ((t6 c i).op = 8) && decide ((t6 c i).a = (i : Int) + 1)
noncomputable def kpB (c : b6) (i : Nat) : Bool := (E4 c).getD i false && !aD2 c i
noncomputable def A7 (c : b6) : List Bool := (cc5 c.list.length).map (kpB c)
theorem aB1 (c : b6) : (E4 c).length = c.list.length := by simp [E4]
theorem ad2 (c : b6) : (A7 c).length = c.list.length := by simp [A7]
theorem ai0 (c : b6) (i : Nat) (h : i < c.list.length) : (A7 c).getD i false = kpB c i := by simp [A7, h]
noncomputable def z8 (c : b6) (k : Nat) : List Bool := (cc5 c.list.length).map fun i => (E4 c).getD i false && !(decide (i < k) && aD2 c i)
theorem Z4 (c : b6) (k : Nat) : (z8 c k).length = c.list.length := by simp [z8]
theorem aP6 (c : b6) : z8 c 0 = E4 c := by
 apply List.ext_getElem (by rw [Z4, aB1])
 intro i h1 h2
 simp [z8, h2]
theorem aZ2 (c : b6) : z8 c c.list.length = A7 c := by
 unfold z8 A7 kpB
 apply List.map_congr_left
 intro i hi
 rw [decide_eq_true (ce9.1 hi)]; simp
theorem aP7 {c : b6} {k : Nat} (h : aD2 c k = false) : z8 c (k + 1) = z8 c k := by
 unfold z8
 apply List.map_congr_left
 intro i _
 by_cases e : i = k
 ·subst e; rw [h]; simp
 ·have : decide (i < k + 1) = decide (i < k) := by rw [decide_eq_decide]; omega
  rw [this]
theorem aZ1 {c : b6} {k : Nat} (_hk : k < c.list.length) (h : aD2 c k = true) : z8 c (k + 1) = (z8 c k).set k false := by
 apply List.ext_getElem (by simp [Z4])
 intro i h1 h2
 rw [List.getElem_set]
 split
 ·rename_i e
  subst e
  simp only [z8, List.getElem_map, List.getElem_range]
  rw [h]; simp
 ·rename_i e
  simp only [z8, List.getElem_map, List.getElem_range]
  have : decide (i < k + 1) = decide (i < k) := by rw [decide_eq_decide]; omega
  rw [this]
def Q3 (ks : List Bool) (k : Nat) : Nat := (ks.take k).count true
theorem ab3 (ks : List Bool) : Q3 ks 0 = 0 := by simp [Q3]
theorem W5 (ks : List Bool) (k : Nat) (h : k < ks.length) : Q3 ks (k + 1) = Q3 ks k + (if ks.getD k false = true then 1 else 0) := by
 unfold Q3
 rw [D0 _ _ h, List.count_append]
 simp only [cb3, ca8 h, Option.getD_some]
 cases ks[k] <;> simp
theorem bv0 (ks : List Bool) (k : Nat) : Q3 ks k ≤ k := by
 unfold Q3
 exact cd3 List.count_le_length (List.length_take_le k ks)
def ae8 (ks : List Bool) (k : Nat) : List Int := (cc5 k).map fun i => (Q3 ks i : Int)
theorem O5 (ks : List Bool) (k : Nat) : (ae8 ks k).length = k := by simp [ae8]
theorem aK4 (ks : List Bool) (k : Nat) : ae8 ks (k + 1) = ae8 ks k ++ [(Q3 ks k : Int)] := by
 unfold ae8; rw [List.range_succ, List.map_append]; rfl
theorem aX6 (ks : List Bool) (k i : Nat) (h : i < k) : (ae8 ks k)[i]? = some (Q3 ks i : Int) := by simp [ae8, h]
def trI (ks : List Bool) (x : d8) : d8 := if 0 ≤ i6 x then B5 x (Q3 ks (i6 x).toNat : Int) else x
def j6 (c : b6) (ks : List Bool) (k : Nat) : List d8 := (cc5 k).flatMap fun i => if ks.getD i false = true then [trI ks (t6 c i)] else []
theorem ac5 (c : b6) (ks : List Bool) : j6 c ks 0 = [] := rfl
theorem V0 {c : b6} {ks : List Bool} {k : Nat} (h : ks.getD k false = true) : j6 c ks (k + 1) = j6 c ks k ++ [trI ks (t6 c k)] := by
 unfold j6
 rw [List.range_succ, List.flatMap_append]
 simp only [List.flatMap_cons, List.flatMap_nil, List.append_nil]
 rw [if_pos h]
theorem V7 {c : b6} {ks : List Bool} {k : Nat} (h : ks.getD k false = false) : j6 c ks (k + 1) = j6 c ks k := by
 unfold j6
 rw [List.range_succ, List.flatMap_append]
 simp only [List.flatMap_cons, List.flatMap_nil, List.append_nil]
 rw [if_neg (by rw [h]; simp), List.append_nil]
theorem an4 (c : b6) (ks : List Bool) (k : Nat) : (j6 c ks k).length ≤ k := by
 induction k with
 | zero => simp [ac5]
 | succ k ih =>
  cases h : ks.getD k false
  ·rw [V7 h]; omega
  ·rw [V0 h, cb2, List.length_singleton]; omega
noncomputable def H4 (c : b6) : b6 := { c with list := j6 c (A7 c) c.list.length }
theorem bc3 (x : d8) (t : Int) : (B5 x t).op = x.op := by unfold B5; split <;> (try split) <;> rfl
theorem bC0 {x : d8} (_h : 0 ≤ i6 x) : B5 x (i6 x) = x := by
 unfold B5 i6
 split
 ·rfl
 ·split
  ·simp only []
  ·rfl
theorem bK0 (x : d8) (t u : Int) : B5 (B5 x t) u = B5 x u := by
 unfold B5
 by_cases h8 : x.op = 8
 ·simp [h8]
 ·by_cases h9 : x.op = 9 ∨ x.op = 10
  ·simp only [if_neg h8, if_pos h9]
  ·simp only [if_neg h8, if_neg h9]
theorem bJ9 {x : d8} (h : 0 ≤ i6 x) (t : Int) : i6 (B5 x t) = t := by
 unfold i6 at h
 unfold i6 B5
 by_cases h8 : x.op = 8
 ·simp [h8]
 ·by_cases h9 : x.op = 9 ∨ x.op = 10
  ·simp only [if_neg h8, if_pos h9]
  ·rw [if_neg h8, if_neg h9] at h; omega
theorem aY1 {x : d8} (h1 : 1 ≤ x.op) (h2 : x.op ≤ 13) : x.op = 1 ∨ x.op = 2 ∨ x.op = 3 ∨ x.op = 4 ∨ x.op = 5 ∨ x.op = 6 ∨ x.op = 7 ∨ x.op = 8 ∨ x.op = 9 ∨ x.op = 10 ∨ x.op = 11 ∨ x.op = 12 ∨ x.op = 13 := by omega
theorem aK8 {c d : b6} {x : d8} (h : x8 c x = true) (_hv : d.vars = c.vars) (_ha : d.arrays = c.arrays) {t : Int} (hx : 0 ≤ i6 x) (h0 : 0 ≤ t) (h1 : t < d.list.length) : x8 d (B5 x t) = true := by
 have h' := h
 unfold x8 at h ⊢
 simp only [cb0, decide_eq_true_eq] at h
 obtain ⟨⟨ho1, ho2⟩, hp⟩ := h
 rw [bc3]
 cases x with
 | mk op a b c' d' =>
 simp only at *
 rcases aY1 (x := ⟨op, a, b, c', d'⟩) ho1 ho2 with e | e | e | e | e | e | e | e | e | e | e | e | e <;> simp only at e <;> subst e <;>
  simp [l6, D7, K4, B5, i6] at hp hx ⊢ <;> simp_all
theorem av0 {c d : b6} {x : d8} (h : x8 c x = true) (_hv : d.vars = c.vars) (_ha : d.arrays = c.arrays) (hx : i6 x < 0) : x8 d x = true := by
 unfold x8 at h ⊢
 simp only [cb0, decide_eq_true_eq] at h
 obtain ⟨⟨ho1, ho2⟩, hp⟩ := h
 cases x with
 | mk op a b c' d' =>
 simp only at *
 rcases aY1 (x := ⟨op, a, b, c', d'⟩) ho1 ho2 with e | e | e | e | e | e | e | e | e | e | e | e | e <;> simp only at e <;> subst e <;>
  simp [l6, D7, K4, i6] at hp hx ⊢ <;> simp_all <;> omega
theorem ar6 {c : b6} {i : Nat} (h : i < c.list.length) : (E4 c).getD i false = true ↔ Rc c (i : Int) := by
 simp [E4, h]
theorem a84 {c : b6} {i : Nat} (h : i < c.list.length) : nx c (i : Int) = H6 c.list[i] i := by
 have := aY3 (c := c) (t := (i : Int)) (by simpa using h)
 simpa using this
theorem as1 {c : b6} (hc : e6 c = true) : ∀ (d i : Nat), c.list.length - i = d → i < c.list.length → Rc c (i : Int) → ∃ j, i ≤ j ∧ j < c.list.length ∧ kpB c j = true := by
 intro d
 induction d with
 | zero => intro i h1 h2; omega
 | succ d ih =>
  intro i h1 h2 hr
  cases hk : kpB c i
  ·unfold kpB at hk
   rw [(ar6 h2).2 hr] at hk
   simp only [Bool.true_and, Bool.not_eq_false'] at hk
   unfold aD2 at hk
   rw [B9 h2] at hk
   simp only [cb0, decide_eq_true_eq] at hk
   have hm : (i : Int) + 1 ∈ nx c (i : Int) := by
    rw [a84 h2]
    unfold H6
    simp [hk.1, hk.2]
   have hok := aB7 hc (Rc.nonneg hc hr) hm
   have hr1 := Rc.step hr hm
   have e : (i : Int) + 1 = ((i + 1 : Nat) : Int) := by omega
   rw [e] at hr1 hok
   obtain ⟨j, a, b, e⟩ := ih (i + 1) (by omega) (by omega) hr1
   exact ⟨j, by omega, b, e⟩
  ·exact ⟨i, cb1 _, h2, hk⟩
theorem aX5 (ks : List Bool) {a b : Nat} (h : a ≤ b) : Q3 ks a ≤ Q3 ks b := by
 unfold Q3
 have : ks.take a = (ks.take b).take a := by rw [List.take_take, Nat.min_eq_left h]
 rw [this]
 exact List.Sublist.count_le _ (List.take_sublist _ _)
theorem bu9 {ks : List Bool} {i j n : Nat} (h1 : i ≤ j) (h2 : j < n) (h3 : n ≤ ks.length) (h : ks.getD j false = true) : Q3 ks i < Q3 ks n := by
 have a := aX5 ks h1
 have b := aX5 ks (show j + 1 ≤ n by omega)
 rw [W5 ks j (by omega), if_pos h] at b
 omega
theorem aI7 (c : b6) (ks : List Bool) : ∀ k, k ≤ ks.length → (j6 c ks k).length = Q3 ks k := by
 intro k
 induction k with
 | zero => intro _; simp [ac5, ab3]
 | succ k ih =>
  intro h
  rw [W5 ks k (by omega)]
  cases hk : ks.getD k false
  ·rw [V7 hk, ih (by omega)]; simp
  ·rw [V0 hk, cb2, ih (by omega)]; simp
theorem bj5 {c : b6} {ks : List Bool} {k : Nat} {x : d8} (h : x ∈ j6 c ks k) : ∃ i, i < k ∧ ks.getD i false = true ∧ x = trI ks (t6 c i) := by
 unfold j6 at h
 rw [List.mem_flatMap] at h
 obtain ⟨i, hi, hx⟩ := h
 split at hx
 ·rename_i hk
  simp at hx
  exact ⟨i, ce9.1 hi, hk, hx⟩
 ·simp at hx
theorem a52 (c : b6) (ks : List Bool) : ∀ k, j6 c ks k ≠ [] → ∃ j, j < k ∧ ks.getD j false = true ∧ (∀ i, j < i → i < k → ks.getD i false = false) ∧ (j6 c ks k).getLast? = some (trI ks (t6 c j)) := by
 intro k
 induction k with
 | zero => intro h; exact absurd (ac5 c ks) h
 | succ k ih =>
  intro h
  cases hk : ks.getD k false
  ·rw [V7 hk] at h ⊢
   obtain ⟨j, h1, h2, h3, h4⟩ := ih h
   refine ⟨j, by omega, h2, fun i a b => ?_, h4⟩
   by_cases e : i = k
   ·subst e; exact hk
   ·exact h3 i a (by omega)
  ·rw [V0 hk]
   exact ⟨k, by omega, hk, fun i a b => by omega, by simp⟩
theorem bN6 (ks : List Bool) (x : d8) : (trI ks x).op = x.op := by unfold trI; split; exact bc3 _ _; rfl
theorem bh3 {c : b6} {i : Nat} (h : i < c.list.length) (hk : (A7 c).getD i false = true) : Rc c (i : Int) := by
 rw [ai0 c i h] at hk
 unfold kpB at hk
 simp only [cb0] at hk
 exact (ar6 h).1 hk.1
theorem br1 {x : d8} (h : 0 ≤ i6 x) (i : Int) : i6 x ∈ H6 x i := by
 unfold i6 H6 at *
 by_cases h8 : x.op = 8
 ·simp [h8]
 ·by_cases h9 : x.op = 9 ∨ x.op = 10
  ·rw [if_neg h8, if_pos h9]
   rw [if_neg (by omega), if_neg h8, if_pos h9]; simp
  ·rw [if_neg h8, if_neg h9] at h; omega
theorem be1 {c : b6} (hc : e6 c = true) : e6 (H4 c) = true := by
 obtain ⟨h1, h2, h3, h4, h5⟩ := i8 hc
 have hkl := ad2 c
 have hlen : (j6 c (A7 c) c.list.length).length = Q3 (A7 c) c.list.length := aI7 c _ _ (by omega)
 obtain ⟨j0, -, hj2, hj3⟩ := as1 hc _ 0 rfl (by omega) Rc.zero
 have hpos : 0 < Q3 (A7 c) c.list.length := by
  have := bu9 (ks := A7 c) (i := 0) (cc7 j0) hj2 (by omega) (by rw [ai0 c _ hj2]; exact hj3)
  omega
 unfold e6
 simp only [cb0, decide_eq_true_eq, cb9]
 refine ⟨⟨⟨⟨h1, ?_⟩, ?_⟩, ?_⟩, ?_⟩
 ·show 1 ≤ (j6 c (A7 c) c.list.length).length; omega
 ·show (j6 c (A7 c) c.list.length).length ≤ 400
  have := an4 c (A7 c) c.list.length; omega
 ·intro x hx
  obtain ⟨i, hi, hk, rfl⟩ := bj5 hx
  have hr := bh3 hi hk
  rw [B9 hi]
  unfold trI
  split
  ·rename_i ht
   have hm : i6 c.list[i] ∈ nx c (i : Int) := by rw [a84 hi]; exact br1 ht _
   have hok := aB7 hc (by omega) hm
   obtain ⟨t, het⟩ : ∃ t : Nat, i6 c.list[i] = t := ⟨(i6 c.list[i]).toNat, by omega⟩
   have hrt := Rc.step hr hm
   rw [het] at hrt hok
   obtain ⟨j, a, b, e⟩ := as1 hc _ t rfl (by omega) hrt
   have := bu9 (ks := A7 c) a b (by omega) (by rw [ai0 c _ b]; exact e)
   refine aK8 (d := H4 c) (h4 i hi) rfl rfl ht (by omega) ?_
   show _ < ((j6 c (A7 c) c.list.length).length : Int)
   rw [het, ce4]; omega
  ·rename_i ht
   exact av0 (d := H4 c) (h4 i hi) rfl rfl (by omega)
 ·unfold X3
  obtain ⟨j, a, b, d, e⟩ := a52 c (A7 c) c.list.length (by intro h; rw [h] at hlen; simp at hlen; omega)
  show (match (j6 c (A7 c) c.list.length).getLast? with | some x => decide (x.op = 13) || decide (x.op = 8) | none => false) = true
  rw [e]
  simp only [bN6, B9 a]
  by_cases e13 : c.list[j].op = 13
  ·simp [e13]
  ·by_cases e8 : c.list[j].op = 8
   ·simp [e8]
   ·exfalso
    have hl := bh1 hc j a e13 e8
    have hm : (j : Int) + 1 ∈ nx c (j : Int) := by
     rw [a84 a]; unfold H6; rw [if_neg e13, if_neg e8]; split <;> simp
    have hr1 := Rc.step (bh3 a b) hm
    rw [show (j : Int) + 1 = ((j + 1 : Nat) : Int) by omega] at hr1
    obtain ⟨i, p, q, r⟩ := as1 hc _ (j + 1) rfl hl hr1
    have := d i (by omega) q
    rw [ai0 c _ q, r] at this
    cases this
theorem Z9 {c : b6} (hc : e6 c = true) : ∀ (k : Nat) (x : Int), B6 c x → B6 c (t2 c k x)
 | 0, _, h => h
 | k + 1, x, h => by
  cases hj : X4 c x
  ·rw [F2 hj]; exact h
  ·rw [K0 hj]; exact Z9 hc k _ (ax7 hc h hj)
theorem av1 {c : b6} (hc : e6 c = true) {x : Int} (h : B6 c x) : B6 c (A0 c x) := by
 unfold A0; split
 ·exact h
 ·exact Z9 hc _ _ h
theorem br0 (c : b6) (x : d8) : (J4 c x).op = x.op := by unfold J4; split; exact bc3 _ _; rfl
theorem ac6 (c : b6) : (E7 c).list.length = c.list.length := by simp [E7]
theorem ar1 {c : b6} (hc : e6 c = true) : e6 (E7 c) = true := by
 obtain ⟨h1, h2, h3, h4, h5⟩ := i8 hc
 unfold e6
 simp only [cb0, decide_eq_true_eq, cb9]
 refine ⟨⟨⟨⟨h1, by rw [ac6]; exact h2⟩, by rw [ac6]; exact h3⟩, ?_⟩, ?_⟩
 ·intro x hx
  obtain ⟨y, hy, rfl⟩ := List.mem_map.1 hx
  obtain ⟨i, hi, rfl⟩ := List.getElem_of_mem hy
  unfold J4
  split
  ·rename_i ht
   have hp := av1 hc ⟨ht, R0 (h4 i hi) ht⟩
   exact aK8 (d := E7 c) (h4 i hi) rfl rfl ht hp.1 (by rw [ac6]; exact hp.2)
  ·exact av0 (d := E7 c) (h4 i hi) rfl rfl (by omega)
 ·unfold X3 at h5 ⊢
  show (match (c.list.map (J4 c)).getLast? with | some x => decide (x.op = 13) || decide (x.op = 8) | none => false) = true
  rw [List.getLast?_map]
  cases hl : c.list.getLast? with
  | none => rw [hl] at h5; cases h5
  | some x => rw [hl] at h5; simpa [br0] using h5
theorem ai6 (c : b6) : ∀ (a b : Nat) (x : Int), t2 c (a + b) x = t2 c b (t2 c a x)
 | 0, b, x => by simp [t2]
 | a + 1, b, x => by
  rw [show a + 1 + b = (a + b) + 1 by omega]
  cases hj : X4 c x
  ·rw [F2 hj, F2 hj, F2 hj]
  ·rw [K0 hj, K0 hj, ai6 c a b]
theorem aE8 {c : b6} {x : Int} {k : Nat} (h : X4 c (t2 c k x) = true) : ∀ j, j ≤ k → X4 c (t2 c j x) = true := by
 intro j hj
 cases hf : X4 c (t2 c j x)
 ·have := ai6 c j (k - j) x
  rw [show j + (k - j) = k by omega, F2 hf] at this
  rw [this, hf] at h; cases h
 ·rfl
theorem ba7 {c : b6} {x : Int} {i j : Nat} (hij : i < j) (he : t2 c i x = t2 c j x) (hj : X4 c (t2 c j x) = true) : ∀ k, X4 c (t2 c k x) = true := by
 have hall := aE8 hj
 intro k
 induction k using Nat.strongRecOn with
 | _ k ih =>
  rcases cc9 k (j + 1) with h | h
  ·exact hall k (by omega)
  ·have h1 := ai6 c j (k - j) x
   have h2 := ai6 c i (k - j) x
   rw [← he, ← h2, show j + (k - j) = k by omega] at h1
   rw [h1]
   exact ih _ (by omega)
theorem a27 {c : b6} (hc : e6 c = true) {x : Int} (hx : B6 c x) : ∀ m, (∀ i j, i < j → j < m → t2 c i x ≠ t2 c j x) →
  ∃ bs : List Bool, bs.length = c.list.length ∧ bs.count false + m = c.list.length ∧ ∀ p : Nat, bs[p]? = some true → ∃ i, i < m ∧ t2 c i x = p := by
 intro m
 induction m with
 | zero => intro _; exact ⟨ca7 c.list.length false, by simp, by simp, fun p hp => by simp [List.getElem?_replicate] at hp⟩
 | succ m ih =>
  intro hd
  obtain ⟨bs, h1, h2, h3⟩ := ih fun i j a b => hd i j a (by omega)
  have hp := Z9 hc m x hx
  obtain ⟨p, hpe⟩ : ∃ p : Nat, t2 c m x = p := ⟨(t2 c m x).toNat, by have := hp.1; omega⟩
  have hpl : p < bs.length := by have := hp.2; rw [hpe] at this; omega
  have hb : bs[p]? = some false := by
   rw [ca8 hpl]
   cases hb : bs[p]
   ·rfl
   ·obtain ⟨i, a, b⟩ := h3 p (by rw [ca8 hpl, hb])
    exact absurd (b.trans hpe.symm) (hd i m a (by omega))
  refine ⟨bs.set p true, by simpa using h1, by have := R3 hb; omega, fun q hq => ?_⟩
  rcases K3 hq with rfl | hq
  ·exact ⟨m, by omega, hpe⟩
  ·obtain ⟨i, a, b⟩ := h3 q hq
   exact ⟨i, by omega, b⟩
theorem ba8 {c : b6} (hc : e6 c = true) {x : Int} (hx : B6 c x) (h : X4 c (t2 c c.list.length x) = true) : ∀ k, X4 c (t2 c k x) = true := by
 by_cases hd : ∀ i j, i < j → j < c.list.length + 1 → t2 c i x ≠ t2 c j x
 ·obtain ⟨bs, h1, h2, h3⟩ := a27 hc hx _ hd
  omega
 ·have : ∃ i j, i < j ∧ j < c.list.length + 1 ∧ t2 c i x = t2 c j x := by
   apply Classical.byContradiction
   intro hn
   exact hd fun i j a b e => hn ⟨i, j, a, b, e⟩
  obtain ⟨i, j, a, b, e⟩ := this
  exact ba7 a e (aE8 h j (by omega))
theorem aQ1 {c : b6} {i : Nat} (h : i < c.list.length) : t6 (E7 c) i = J4 c (t6 c i) := by
 rw [B9 h, B9 (by rw [ac6]; exact h)]
 simp [E7]
theorem aQ0 {c : b6} {x : Int} (h : B6 c x) : X4 (E7 c) x = X4 c x := by
 unfold X4
 rw [aQ1 (by have := h.1; have := h.2; omega), br0]
theorem a14 {c : b6} (hc : e6 c = true) {t : Int} (ht : B6 c t) : A0 (E7 c) (A0 c t) = A0 c t := by
 cases hj : X4 c (t2 c c.list.length t)
 ·have e : A0 c t = t2 c c.list.length t := by unfold A0; rw [hj]; simp
  rw [e]
  have hf : X4 (E7 c) (t2 c c.list.length t) = false := by rw [aQ0 (Z9 hc _ _ ht)]; exact hj
  unfold A0
  rw [F2 hf, hf]; simp
 ·have e : A0 c t = t := by unfold A0; rw [hj]; simp
  rw [e]
  have key : ∀ (k : Nat) (x : Int), B6 c x → (∀ m, X4 c (t2 c m x) = true) → X4 (E7 c) (t2 (E7 c) k x) = true := by
   intro k
   induction k with
   | zero => intro x hx hv; rw [t2, aQ0 hx]; exact hv 0
   | succ k ih =>
    intro x hx hv
    have hj0 : X4 c x = true := hv 0
    have hxl : x.toNat < c.list.length := by have := hx.1; have := hx.2; omega
    rw [K0 (by rw [aQ0 hx]; exact hj0), aQ1 hxl]
    have hop : (t6 c x.toNat).op = 8 := by unfold X4 at hj0; simpa using hj0
    have hpl := ax7 hc hx hj0
    have htg : i6 (t6 c x.toNat) = (t6 c x.toNat).a := by unfold i6; rw [if_pos hop]
    have hv1 : ∀ m, X4 c (t2 c m (t6 c x.toNat).a) = true := fun m => by have := hv (m + 1); rwa [K0 hj0] at this
    have hfin : A0 c (t6 c x.toNat).a = (t6 c x.toNat).a := by unfold A0; rw [hv1]; simp
    have ha : (J4 c (t6 c x.toNat)).a = (t6 c x.toNat).a := by
     unfold J4
     rw [htg, if_pos hpl.1, hfin]
     unfold B5; rw [if_pos hop]
    rw [ha]
    exact ih _ hpl hv1
  have := key (E7 c).list.length t ht (ba8 hc ht hj)
  unfold A0
  rw [this]; simp
theorem bC8 {c : b6} (hc : e6 c = true) : E7 (E7 c) = E7 c := by
 unfold E7
 simp only [b6.mk.injEq, true_and, List.map_map]
 apply List.map_congr_left
 intro x hx
 obtain ⟨i, hi, rfl⟩ := List.getElem_of_mem hx
 have hok := (i8 hc).2.2.2.1 i hi
 show J4 (E7 c) (J4 c c.list[i]) = J4 c c.list[i]
 by_cases ht : 0 ≤ i6 c.list[i]
 ·have hp : B6 c (i6 c.list[i]) := ⟨ht, R0 hok ht⟩
  have e : J4 c c.list[i] = B5 c.list[i] (A0 c (i6 c.list[i])) := by unfold J4; rw [if_pos ht]
  rw [e]
  unfold J4
  rw [bJ9 ht, if_pos (av1 hc hp).1, bK0, a14 hc hp]
 ·have e : J4 c c.list[i] = c.list[i] := by unfold J4; rw [if_neg ht]
  rw [e]
  unfold J4; rw [if_neg ht]
theorem bj4 {c : b6} (hc : e6 c = true) (h : (H4 c).list.length = c.list.length) : H4 c = c := by
 have hkl := ad2 c
 have h' : Q3 (A7 c) c.list.length = c.list.length := by rw [← aI7 c _ _ (by omega)]; exact h
 have hall : ∀ b ∈ A7 c, b = true := by
  have : (A7 c).count true = (A7 c).length := by
   unfold Q3 at h'; rw [cc6 (by omega)] at h'; omega
  intro b hb
  exact (List.count_eq_length.1 this b hb).symm
 have hget : ∀ i, i < c.list.length → (A7 c).getD i false = true := fun i hi => by
  rw [cb3, ca8 (by omega), Option.getD_some]
  exact hall _ (cd1 _)
 have hp : ∀ i, i ≤ c.list.length → Q3 (A7 c) i = i := by
  intro i
  induction i with
  | zero => intro _; exact ab3 _
  | succ i ih => intro hi; rw [W5 _ _ (by omega), ih (by omega), if_pos (hget i (by omega))]
 have htr : ∀ i, i < c.list.length → trI (A7 c) (t6 c i) = t6 c i := by
  intro i hi
  rw [B9 hi]
  unfold trI
  split
  ·rename_i ht
   have := R0 ((i8 hc).2.2.2.1 i hi) ht
   rw [hp _ (by omega), show ((i6 c.list[i]).toNat : Int) = i6 c.list[i] by omega]
   exact bC0 ht
  ·rfl
 have key : ∀ k, k ≤ c.list.length → j6 c (A7 c) k = c.list.take k := by
  intro k
  induction k with
  | zero => intro _; simp [ac5]
  | succ k ih =>
   intro hk
   rw [V0 (hget k (by omega)), ih (by omega), htr k (by omega), B9 (by omega), D0 _ _ (by omega)]
 unfold H4
 rw [key _ (cb1 _), cc6 (cb1 _)]
noncomputable def W6 (c : b6) : b6 := H4 (E7 c)
theorem ao7 {c : b6} (hc : e6 c = true) : e6 (W6 c) = true := be1 (ar1 hc)
inductive Opt : b6 → b6 → Prop
 | stop {c : b6} : W6 c = c → Opt c c
 | step {c r : b6} : W6 c ≠ c → Opt (W6 c) r → Opt c r
theorem aO5 {c r s : b6} (h : Opt c r) : Opt c s → r = s := by
 induction h with
 | stop h => intro k; cases k with
  | stop => rfl
  | step k _ => exact absurd h k
 | step h _ ih => intro k; cases k with
  | stop k => exact absurd k h
  | step _ k => exact ih k
theorem aY0 (c : b6) : (W6 c).list.length ≤ c.list.length := by
 have := an4 (E7 c) (A7 (E7 c)) (E7 c).list.length
 rw [ac6] at this
 unfold W6 H4
 rw [ac6]
 exact this
open Classical in
noncomputable def ae9 (c : b6) : Nat := 2 * c.list.length + (if E7 c = c then 0 else 1)
theorem aO6 {c : b6} (hc : e6 c = true) (h : W6 c ≠ c) : ae9 (W6 c) < ae9 c := by
 have hl := aY0 c
 by_cases he : (W6 c).list.length = c.list.length
 ·have e : W6 c = E7 c := bj4 (ar1 hc) (by rw [ac6]; exact he)
  have h1 : ae9 (W6 c) = 2 * c.list.length := by
   unfold ae9
   rw [he, e, if_pos (bC8 hc)]; simp
  have h2 : ae9 c = 2 * c.list.length + 1 := by
   unfold ae9
   rw [if_neg (by rw [← e]; exact h)]
  omega
 ·have h1 : ae9 (W6 c) ≤ 2 * (W6 c).list.length + 1 := by unfold ae9; split <;> omega
  have h2 : 2 * c.list.length ≤ ae9 c := by unfold ae9; split <;> omega
  omega
theorem bP8 : ∀ (m : Nat) (c : b6), ae9 c ≤ m → e6 c = true → ∃ r, Opt c r ∧ e6 r = true := by
 intro m
 induction m using Nat.strongRecOn with
 | _ m ih =>
  intro c hm hc
  by_cases h : W6 c = c
  ·exact ⟨c, .stop h, hc⟩
  ·obtain ⟨r, h1, h2⟩ := ih (ae9 (W6 c)) (by have := aO6 hc h; omega) _ (cb1 _) (ao7 hc)
   exact ⟨r, .step h h1, h2⟩
open Classical in
noncomputable def aa6 (c : b6) : b6 := if h : ∃ r, Opt c r then Classical.choose h else c
theorem I3 {c : b6} (hc : e6 c = true) : Opt c (aa6 c) ∧ e6 (aa6 c) = true := by
 obtain ⟨r, h1, h2⟩ := bP8 _ c (cb1 _) hc
 have hex : ∃ r, Opt c r := ⟨r, h1⟩
 have e : Opt c (aa6 c) := by unfold aa6; rw [dif_pos hex]; exact Classical.choose_spec hex
 exact ⟨e, by rw [← aO5 h1 e]; exact h2⟩
theorem ar7 {c : b6} (hc : e6 c = true) (h : W6 c = c) : aa6 c = c := aO5 (I3 hc).1 (.stop h)
theorem aK5 {c : b6} (hc : e6 c = true) (h : W6 c ≠ c) : aa6 (W6 c) = aa6 c := by
 have h1 := (I3 (ao7 hc)).1
 exact (aO5 (I3 hc).1 (.step h h1)).symm
end Go.Proofs.YtmokkddidcmglaaGreat

namespace Go.Proofs.YtmokkddidcmglaaGreat
open Go Go.RowKit
theorem aS2 (a b : Nat) (ha : a < 9223372036854775808) (hb : b < 9223372036854775808) : bits .and .i64 (a : Int) (b : Int) = ((a &&& b : Nat) : Int) := by
 have hx : a &&& b < 2 ^ 63 := Nat.and_lt_two_pow _ (by omega)
 have h1 : (BitVec.ofInt 64 (a : Int)).toNat = a := by
  rw [BitVec.ofInt_natCast, BitVec.toNat_ofNat]; exact Nat.mod_eq_of_lt (by omega)
 have h2 : (BitVec.ofInt 64 (b : Int)).toNat = b := by
  rw [BitVec.ofInt_natCast, BitVec.toNat_ofNat]; exact Nat.mod_eq_of_lt (by omega)
 show IntKind.i64.wrap ((BitVec.ofInt 64 (a : Int) &&& BitVec.ofInt 64 (b : Int)).toNat : Int) = _
 rw [BitVec.toNat_and, h1, h2, IntKind.wrap_i64]
 omega
theorem aS0 (a b : Nat) (ha : a < 9223372036854775808) (hb : b < 9223372036854775808) : bits .xor .i64 (a : Int) (b : Int) = ((a ^^^ b : Nat) : Int) := by
 have hx : a ^^^ b < 2 ^ 63 := Nat.xor_lt_two_pow (by omega) (by omega)
 have h1 : (BitVec.ofInt 64 (a : Int)).toNat = a := by
  rw [BitVec.ofInt_natCast, BitVec.toNat_ofNat]; exact Nat.mod_eq_of_lt (by omega)
 have h2 : (BitVec.ofInt 64 (b : Int)).toNat = b := by
  rw [BitVec.ofInt_natCast, BitVec.toNat_ofNat]; exact Nat.mod_eq_of_lt (by omega)
 show IntKind.i64.wrap ((BitVec.ofInt 64 (a : Int) ^^^ BitVec.ofInt 64 (b : Int)).toNat : Int) = _
 rw [BitVec.toNat_xor, h1, h2, IntKind.wrap_i64]
 omega
theorem aS3 {a b : Int} (h1 : 0 ≤ a) (h2 : a ≤ 255) (h3 : 0 ≤ b) (h4 : b ≤ 255) : bits .and .i64 a b = ((a.toNat &&& b.toNat : Nat) : Int) := by
 rw [← aS2 _ _ (by omega) (by omega), cf4 h1, cf4 h3]
theorem aS1 {a b : Int} (h1 : 0 ≤ a) (h2 : a ≤ 255) (h3 : 0 ≤ b) (h4 : b ≤ 255) : bits .xor .i64 a b = ((a.toNat ^^^ b.toNat : Nat) : Int) := by
 rw [← aS0 _ _ (by omega) (by omega), cf4 h1, cf4 h3]
theorem aD0 (b : Bool) (w : World) : Calls Tryz.prog 109 #[.bool b] w fun e w' => e = .returned (.int .i64 (av7 b)) ∧ w = w' := by
 cases b
 all_goals
  go_enter Tryz.func109, Tryz.ntmps109
  go_wp2_with fail
  go_ret
  exact ⟨rfl, rfl⟩
theorem aQ5 (k a b : Int) (w : World) (h1 : 0 ≤ a) (h2 : a ≤ 255) (h3 : 0 ≤ b) (h4 : b ≤ 255) : Calls Tryz.prog 100 #[.int .i64 k, .int .i64 a, .int .i64 b] w fun e w' => e = .returned (.int .i64 (J9 k a b)) ∧ w = w' := by
 have hm : 0 ≤ a * b := Int.mul_nonneg h1 h3
 have hm2 : a * b ≤ 65025 := by
  have := Int.mul_le_mul h2 h4 h3 (by omega : (0 : Int) ≤ 255)
  omega
 by_cases k4 : k = 4
 ·subst k4
  have HV : Hid (J9 4 a b = (a + b).tmod 256) := by unfold Hid J9; simp
  go_enter Tryz.func100, Tryz.ntmps100
  go_wp2_with fail
  go_ret
  exact ⟨F6 (by rw [HV.out]; exact (Int.tmod_eq_emod_of_nonneg (by first | assumption | omega)).symm), rfl⟩
 by_cases k5 : k = 5
 ·subst k5
  have HV : Hid (J9 5 a b = (a - b + 256).tmod 256) := by unfold Hid J9; simp
  go_enter Tryz.func100, Tryz.ntmps100
  go_wp2_with fail
  go_ret
  exact ⟨F6 (by rw [HV.out]; exact (Int.tmod_eq_emod_of_nonneg (by first | assumption | omega)).symm), rfl⟩
 by_cases k6 : k = 6
 ·subst k6
  have HV : Hid (J9 6 a b = (a * b).tmod 256) := by unfold Hid J9; simp
  go_enter Tryz.func100, Tryz.ntmps100
  go_wp2_with fail
  go_ret
  exact ⟨F6 (by rw [HV.out]; exact (Int.tmod_eq_emod_of_nonneg (by first | assumption | omega)).symm), rfl⟩
 by_cases k7 : k = 7
 ·subst k7
  have HV : Hid (J9 7 a b = bits .and .i64 a b) := by unfold Hid; rw [aS3 h1 h2 h3 h4]; unfold J9; simp
  go_enter Tryz.func100, Tryz.ntmps100
  go_wp2_with fail
  go_ret
  exact ⟨F6 (by rw [HV.out]), rfl⟩
 by_cases k8 : k = 8
 ·subst k8
  have HV : Hid (J9 8 a b = bits .xor .i64 a b) := by unfold Hid; rw [aS1 h1 h2 h3 h4]; unfold J9; simp
  go_enter Tryz.func100, Tryz.ntmps100
  go_wp2_with fail
  go_ret
  exact ⟨F6 (by rw [HV.out]), rfl⟩
 have HK := show Hid _ from And.intro k4 (And.intro k5 (And.intro k6 (And.intro k7 k8)))
 have p4 : (k == 4) = false := by simp [k4]
 have p5 : (k == 5) = false := by simp [k5]
 have p6 : (k == 6) = false := by simp [k6]
 have p7 : (k == 7) = false := by simp [k7]
 have p8 : (k == 8) = false := by simp [k8]
 clear k4 k5 k6 k7 k8
 by_cases k9 : k = 9
 ·subst k9
  have HV : Hid (J9 9 a b = av7 (decide (a = b))) := by unfold Hid J9; simp
  clear hm hm2
  go_enter Tryz.func100, Tryz.ntmps100
  go_wp2_with fail
  refine (aD0 _ _).mono ?_
  rintro x w1 ⟨rfl, rfl⟩
  go_wp2_with fail
  go_ret
  exact ⟨F6 (by rw [HV.out]; congr 1), rfl⟩
 ·have HV : Hid (J9 k a b = av7 (decide (a < b))) := by
   obtain ⟨k4, k5, k6, k7, k8⟩ := HK.out
   unfold Hid J9; rw [if_neg k4, if_neg k5, if_neg k6, if_neg k7, if_neg k8, if_neg k9]
  have p9 : (k == 9) = false := by simp [k9]
  clear hm hm2 k9
  go_enter Tryz.func100, Tryz.ntmps100
  go_wp2_with fail
  refine (aD0 _ _).mono ?_
  rintro x w1 ⟨rfl, rfl⟩
  go_wp2_with fail
  go_ret
  exact ⟨F6 (by rw [HV.out]), rfl⟩
theorem aC9 (p : d8 → Bool) (f : FuncId) (q : Value) (v : Value) (xs : List d8) (w : World) (h : P3 w v xs) (he : ∀ args w, (callFunc f args).run Tryz.prog w = .ok (.enter f args) w)
  (hf : ∀ x w', Below w.heap.size w w' → Calls Tryz.prog f #[x.v, q] w' fun e w'' => e = .returned (.bool (p x)) ∧ Below w'.heap.size w' w'') :
  Calls Tryz.prog 64 #[v, .func (.func f) #[] #[q]] w fun e w' => ∃ r : Int, e = .returned (.int .i64 r) ∧ decide (0 ≤ r) = xs.any p ∧ Below w.heap.size w w' := by
 obtain ⟨a1, c1, rfl, -, hm1, -, hc1⟩ := h.ins
 have HF := show Hid _ from hf
 clear h hf
 go_enter Tryz.func64, Tryz.ntmps64
 go_wp2_with fail
 go_loopw [5, 8] (fun _ i wr => ∃ k : Nat, k ≤ xs.length ∧ i = .int .i64 k ∧ (xs.take k).any p = false ∧ Below w.heap.size w wr) (fun _ i _ => xs.length - (intOf i).toNat)
 case atStart => exact ⟨0, cc7 _, rfl, rfl, Below.refl _ _⟩
 case round =>
  obtain ⟨k, hk, rfl, ha, hb⟩ := hrel
  have HA := show Hid _ from ha
  clear ha
  by_cases hlt : k < xs.length
  ·obtain ⟨b1, o1, rfl, hb1, i0, i1, i2, i3, i4⟩ := hc1 k hlt
   rw [← (D8 hb).1 _ _ hb1] at i0 i1 i2 i3 i4
   clear hc1
   cases hp : p xs[k]
   all_goals
    have HP := show Hid _ from hp
    clear hp
    go_wp2_with fail
    refine (HF.out xs[k] _ hb).mono ?_
    rintro e w1 ⟨rfl, hb2⟩
    rw [HP.out]
    go_wp2_with fail
   ·go_roundw
    case rel => exact ⟨k + 1, by omega, by go_num, by rw [s4 _ _ hlt, List.any_append, HA.out]; simp [HP.out], hb.trans (hb2.mono hb.size)⟩
    case measure => simp [intOf]; omega
   ·go_ret
    exact ⟨_, rfl, by rw [decide_eq_true (by omega)]; symm; rw [List.any_eq_true]; exact ⟨_, cd1 hlt, HP.out⟩, hb.trans (hb2.mono hb.size)⟩
  ·go_wp2_with fail
   go_ret
   refine ⟨_, rfl, ?_, hb⟩
   have := HA.out
   rw [cc6 (by omega)] at this
   rw [this]; rfl
theorem ap9 (p : d8 → Bool) (f : FuncId) (q : Value) (v : Value) (xs : List d8) (w : World) (h : P3 w v xs) (he : ∀ args w, (callFunc f args).run Tryz.prog w = .ok (.enter f args) w)
  (hf : ∀ x w', Below w.heap.size w w' → Calls Tryz.prog f #[x.v, q] w' fun e w'' => e = .returned (.bool (p x)) ∧ Below w'.heap.size w' w'') :
  Calls Tryz.prog 35 #[v, .func (.func f) #[] #[q]] w fun e w' => e = .returned (.bool (xs.any p)) ∧ Below w.heap.size w w' := by
 obtain ⟨a1, c1, rfl, -⟩ := h.open
 have HF := show Hid _ from hf
 have HE := show Hid _ from he
 clear hf he
 go_enter Tryz.func35, Tryz.ntmps35
 go_wp2_with fail
 refine (aC9 p f q _ xs _ h HE.out HF.out).mono ?_
 rintro e w1 ⟨r, rfl, hr, hb⟩
 have HR := show Hid _ from hr
 clear hr
 go_wp2_with fail
 go_ret
 exact ⟨i9 HR.out, hb⟩
theorem a94 (op : Int) (w : World) :
  Calls Tryz.prog 65 #[.int .i64 op] w fun e w' => e = .returned (.string ⟨(N3 op).toArray⟩) ∧ Below w.heap.size w w' := by
 by_cases h : 1 ≤ op ∧ op ≤ 13
 ·obtain ⟨h1, h2⟩ := h
  have h : op = 1 ∨ op = 2 ∨ op = 3 ∨ op = 4 ∨ op = 5 ∨ op = 6 ∨ op = 7 ∨ op = 8 ∨ op = 9 ∨ op = 10 ∨ op = 11 ∨ op = 12 ∨ op = 13 := by omega
  clear h1 h2
  rcases h with rfl | rfl | rfl | rfl | rfl | rfl | rfl | rfl | rfl | rfl | rfl | rfl | rfl
  all_goals
   go_enter Tryz.func65, Tryz.ntmps65
   go_wp2_with fail
   refine (D2 _ 1 13 _).mono ?_
   rintro e w1 ⟨rfl, rfl⟩
   go_wp2_with fail
   go_ret
   exact ⟨by simp [N3], by go_grown⟩
 ·have hF : Hid (N3 op = []) := aJ4 h
  have hb : (decide ((1 : Int) ≤ op) && decide (op ≤ 13)) = false := by
   rw [Bool.eq_false_iff]; simp only [ne_eq, cb0, decide_eq_true_eq]; exact h
  have HB := show Hid _ from hb
  clear h hb
  go_enter Tryz.func65, Tryz.ntmps65
  go_wp2_with fail
  refine (D2 _ 1 13 _).mono ?_
  rintro e w1 ⟨rfl, rfl⟩
  rw [HB.out]
  go_wp2_with fail
  go_ret
  exact ⟨by rw [hF.out]; rfl, Below.refl _ _⟩
theorem a03 (x : d8) (w : World) :
  Calls Tryz.prog 66 #[x.v] w fun e w' => ∃ u, e = .returned u ∧ y7 w' w.heap.size w'.heap.size 3 1 u 4 (ints [x.a, x.b, x.c, x.d]) ∧ Below w.heap.size w w' := by
 obtain ⟨x0, x1, x2, x3, x4⟩ := x
 go_enter Tryz.func66, Tryz.ntmps66
 go_wp2_with fail
 go_ret
 refine ⟨_, rfl, (t0 _ #[.int .i64 x1, .int .i64 x2, .int .i64 x3, .int .i64 x4] 4 1 _ (by simp) rfl (by omega)).wide (by simp) (by simp), by go_grown⟩
theorem aQ8 (v1 v2 v3 : Value) (c : b6) (kd : UInt8) (n : Int) (w : World) (h1 : D3 w v1 c.vars.length 1 (ints c.vars)) (h2 : D3 w v2 c.arrays.length 1 (ints c.arrays)) (h3 : P3 w v3 c.list) :
  Calls Tryz.prog 67 #[.agg #[v1, v2, v3], .int .u8 kd.toNat, .int .i64 n] w fun e w' => e = .returned (.bool (J8 c kd n)) ∧ Below w.heap.size w w' := by
 obtain ⟨a1, k1, rfl, -, q1, -, -⟩ := h1.open1
 obtain ⟨a2, k2, rfl, -, q2, -, -⟩ := h2.open1
 obtain ⟨a3, k3, rfl, -, q3, -, -⟩ := h3.open
 have hk : kd.toNat < 256 := kd.toNat_lt
 have HK : Hid (∀ m : UInt8, (kd = m) = ((kd.toNat : Int) = (m.toNat : Int))) := fun m => by
  rw [eq_iff_iff]
  constructor
  ·rintro rfl; rfl
  ·intro h; exact UInt8.toNat_inj.1 (by omega)
 clear h1 h2 h3
 obtain ⟨z, hz⟩ : ∃ z, z = kd.toNat := ⟨_, rfl⟩
 rw [← hz] at hk ⊢
 have HZ := show Hid _ from hz
 clear hz
 go_enter Tryz.func67, Tryz.ntmps67
 go_wp2_with (go_at_call 34; refine (D2 _ _ _ _).mono ?_; rintro e w1 ⟨rfl, rfl⟩)
 all_goals go_ret
 all_goals refine ⟨i9 ?_, by go_grown⟩
 all_goals unfold J8
 all_goals simp only [HK.out, ← HZ.out, show (UInt8.toNat 114) = 114 from rfl, show (UInt8.toNat 110) = 110 from rfl, show (UInt8.toNat 118) = 118 from rfl, show (UInt8.toNat 97) = 97 from rfl, show (UInt8.toNat 111) = 111 from rfl, show (UInt8.toNat 105) = 105 from rfl]
 all_goals clear HK HZ hk q1 q2 q3
 all_goals simp_all
 all_goals (rw [ce0]; simp)
theorem aQ6 (v : Value) (c : b6) (x : d8) (w : World) (h : r8 w v c) :
  Calls Tryz.prog 37 #[v, x.v] w fun e w' => e = .returned (.bool (x8 c x)) ∧ Below w.heap.size w w' := by
 obtain ⟨v1, v2, v3, rfl, h1, h2, h3⟩ := h
 obtain ⟨W, hW⟩ : ∃ W, W = ((w.alloc (.cells #[v1, v2, v3] 26)).alloc (.cells #[.int .i64 x.op, .int .i64 x.a, .int .i64 x.b, .int .i64 x.c, .int .i64 x.d] 60)) := ⟨_, rfl⟩
 have B0 : Below w.heap.size w W := by rw [hW]; go_grown
 have L1 : v9 W w.heap.size [v1, v2, v3] := by rw [hW]; exact (v9.new w [v1, v2, v3] _).alloc _
 have L2 : v9 W (w.heap.size + 1) [.int .i64 x.op, .int .i64 x.a, .int .i64 x.b, .int .i64 x.c, .int .i64 x.d] := by rw [hW]; exact v9.new' (w.alloc _) [.int .i64 x.op, .int .i64 x.a, .int .i64 x.b, .int .i64 x.c, .int .i64 x.d] _ (by simp)
 go_enter Tryz.func37, Tryz.ntmps37
 go_wp2_with fail
 rw [← hW]
 clear hW
 refine (a94 x.op W).mono ?_
 rintro e w1 ⟨rfl, b1⟩
 replace L1 := L1.below b1 L1.lt
 replace L2 := L2.below b1 L2.lt
 have y0 := L2.cell 0
 have y1 := L2.cell 1
 have y2 := L2.cell 2
 have y3 := L2.cell 3
 have y4 := L2.cell 4
 simp at y0 y1 y2 y3 y4
 go_wp2_with fail
 refine (a03 x _).mono ?_
 rintro e w2 ⟨u, rfl, o2, b2⟩
 replace L1 := L1.below b2 L1.lt
 have B2 := (B0.trans (b1.mono B0.size)).trans (b2.mono (by have := B0.size; have := b1.size; omega))
 obtain ⟨g, cap, rfl, -, -, hg, -, -, -, hp⟩ := o2.open (by omega)
 clear y0 y1 y2 y3 y4 L2 o2
 by_cases hop : 1 ≤ x.op ∧ x.op ≤ 13
 ·have hR : Hid (x8 c x = aB4 c (N3 x.op) [x.a, x.b, x.c, x.d] 4) := a93 c x hop
  have hkl := bE1 hop
  obtain ⟨kinds, hkinds⟩ : ∃ kinds, kinds = N3 x.op := ⟨_, rfl⟩
  obtain ⟨parts, hparts⟩ : ∃ parts, parts = [x.a, x.b, x.c, x.d] := ⟨_, rfl⟩
  rw [← hkinds] at hkl ⊢
  rw [← hkinds] at hR
  rw [← hparts] at hR hp
  have hpl : parts.length = 4 := by rw [hparts]; rfl
  clear hkinds hparts hop
  have HPL := show Hid _ from hpl
  clear hpl
  have hne : kinds.isEmpty = false := by
   rw [List.isEmpty_eq_false_iff]; intro h; rw [h] at hkl; simp at hkl
  go_wp2_with fail
  go_loopw [14] (fun i wr => ∃ k : Nat, k ≤ 4 ∧ i = .int .i64 k ∧ aB4 c kinds parts k = true ∧ Below w2.heap.size w2 wr) (fun i _ => 4 - (intOf i).toNat)
  case atStart => exact ⟨0, by omega, rfl, rfl, Below.refl _ _⟩
  case round =>
   obtain ⟨k, hk, rfl, ha, hb⟩ := hrel
   have HA := show Hid _ from ha
   clear ha
   replace L1 := L1.below hb L1.lt
   by_cases hlt : k < 4
   ·have x0 := L1.cell 0
    have x1 := L1.cell 1
    have x2 := L1.cell 2
    simp only [cb4, cb5] at x0 x1 x2
    have z0 := fun X => i5 x0 X
    have z1 := fun X => i5 x1 X
    have z2 := fun X => i5 x2 X
    have hpk : k < parts.length := by rw [HPL.out]; exact hlt
    have p0 : wr.cell? ⟨g, k, none⟩ = some (.int .i64 parts[k]) := by
     rw [(D8 hb).1 _ _ hg]; exact hp k _ (by simp [hpk])
    have hkk : k < kinds.length := by rw [hkl]; exact hlt
    have HS := show Hid _ from aK3 c kinds parts k
    have HG := show Hid (parts.getD k 0 = parts[k]) from by simp [Hid, hpk]
    have HKD := show Hid (kinds.getD k 0 = kinds[k]) from by simp [Hid, hkk]
    have BW := B2.trans (hb.mono B2.size)
    clear x0 x1 x2 hp
    cases hr : J8 c kinds[k] parts[k]
    all_goals
     have HR := show Hid _ from hr
     clear hr
     have HC : Hid (∀ X, Calls Tryz.prog 67 #[.agg #[v1, v2, v3], .int .u8 kinds[k].toNat, .int .i64 parts[k]] (wr.ext X) fun e w'' => e = .returned (.bool _) ∧ ∃ Y, w'' = wr.ext Y) :=
      fun X => Calls.ext_of' ((aQ8 v1 v2 v3 c kinds[k] parts[k] _ ((h1.below BW).below (t4 _ X)) ((h2.below BW).below (t4 _ X)) ((h3.below BW).below (t4 _ X))).mono fun e w' h => by rw [HR.out] at h; exact h)
     go_wp2_with fail
     refine I2 (by kernel_rfl) (by kernel_rfl) ?_
     repeat (any_goals (first | go_big_quiet_step ((go_at_call 67; exact HC.out _)) | quiet_step ((go_at_call 67; exact HC.out _))))
     refine wpQuiet_nil ?_
     rintro _ ⟨X, rfl⟩
     have hbX := hb.trans ((t4 wr X).mono hb.size)
     go_wp2_with fail
    ·go_ret
     exact ⟨i9 (by rw [hR.out, bk9 4 hlt (by rw [HG.out, HKD.out, HR.out])]), B2.trans (hbX.mono B2.size)⟩
    ·exact ⟨⟨k + 1, by omega, by go_num, by rw [HS.out, HA.out, HG.out, HKD.out, HR.out]; rfl, hbX⟩, by simp [intOf]; omega⟩
   ·go_wp2_with fail
    go_ret
    obtain rfl : k = 4 := by omega
    exact ⟨i9 (by rw [hR.out, HA.out]), B2.trans (hb.mono B2.size)⟩
 ·have hR : Hid (x8 c x = false) := by
   unfold Hid x8
   rcases Classical.not_and_iff_not_or_not.1 hop with h | h
   ·rw [decide_eq_false h]; rfl
   ·rw [decide_eq_false h]; simp
  rw [aJ4 hop]
  have p0 := hp 0 (.int .i64 x.a) (by simp)
  clear hop hp h1 h2 h3
  go_wp2_with fail
  go_loopw [14] (fun i wr => i = .int .i64 0 ∧ w2 = wr) (fun i _ => 0)
  case atStart => exact ⟨rfl, rfl⟩
  case round =>
   obtain ⟨rfl, rfl⟩ := hrel
   go_wp2_with fail
   refine I2 (by kernel_rfl) (by kernel_rfl) ?_
   repeat (any_goals (first | go_big_quiet_step ((fail)) | quiet_step ((fail))))
   refine wpQuiet_nil ?_
   rintro _ ⟨X, rfl⟩
   have hbX := B2.trans ((t4 w2 X).mono B2.size)
   go_wp2_with fail
   go_ret
   exact ⟨i9 hR.out.symm, hbX⟩
theorem aw7 (v : Value) (c : b6) (x : d8) (b : Nat) (v1 v2 v3 : Value) (w : World) (hv : v = .agg #[v1, v2, v3]) (h : r8 w v c) (hb : v9 w b [v1, v2, v3]) :
  Calls Tryz.prog 36 #[x.v, .pointer (some ⟨b, 0, none⟩)] w fun e w' => e = .returned (.bool (!x8 c x)) ∧ Below w.heap.size w w' := by
 subst hv
 obtain ⟨W, hW⟩ : ∃ W, W = (w.alloc (.cells #[.int .i64 x.op, .int .i64 x.a, .int .i64 x.b, .int .i64 x.c, .int .i64 x.d] 60)) := ⟨_, rfl⟩
 have B0 : Below w.heap.size w W := by rw [hW]; go_grown
 have L1 : v9 W b [v1, v2, v3] := hb.below B0 hb.lt
 have L2 : v9 W w.heap.size [.int .i64 x.op, .int .i64 x.a, .int .i64 x.b, .int .i64 x.c, .int .i64 x.d] := by rw [hW]; exact v9.new w [.int .i64 x.op, .int .i64 x.a, .int .i64 x.b, .int .i64 x.c, .int .i64 x.d] _
 have x0 := L1.cell 0
 have x1 := L1.cell 1
 have x2 := L1.cell 2
 have y0 := L2.cell 0
 have y1 := L2.cell 1
 have y2 := L2.cell 2
 have y3 := L2.cell 3
 have y4 := L2.cell 4
 simp at x0 x1 x2 y0 y1 y2 y3 y4
 rw [hW] at x0 x1 x2 y0 y1 y2 y3 y4
 go_enter Tryz.func36, Tryz.ntmps36
 go_wp2_with fail
 rw [← hW]
 refine (aQ6 _ c x _ (h.below B0)).mono ?_
 rintro e w1 ⟨rfl, b1⟩
 clear x0 x1 x2 y0 y1 y2 y3 y4 hW
 go_wp2_with fail
 go_ret
 exact ⟨rfl, B0.trans (b1.mono B0.size)⟩
theorem bc2 (xs : List d8) (c : b6) : (xs.any fun l => !x8 c l) = !xs.all (x8 c) := by
 induction xs with
 | nil => rfl
 | cons x r ih => simp only [List.any_cons, List.all_cons, ih]; cases x8 c x <;> simp
theorem ag3 (v : Value) (c : b6) (w : World) (h : r8 w v c) :
  Calls Tryz.prog 12 #[v] w fun e w' => e = .returned (.bool (e6 c)) ∧ Below w.heap.size w w' := by
 have hrow := h
 obtain ⟨v1, v2, v3, rfl, h1, h2, h3⟩ := h
 have HT : Hid (e6 c = (F0 c.vars c.arrays && decide (1 ≤ c.list.length) && decide (c.list.length ≤ 400) && c.list.all (x8 c) && X3 c)) := rfl
 obtain ⟨W, hW⟩ : ∃ W, W = w.alloc (.cells #[v1, v2, v3] 26) := ⟨_, rfl⟩
 have B0 : Below w.heap.size w W := by rw [hW]; go_grown
 have L1 : v9 W w.heap.size [v1, v2, v3] := by rw [hW]; exact (v9.new w [v1, v2, v3] _)
 have hmf : ∀ fn first cap w, (Instr.makeFunc fn first cap).run Tryz.prog w = .ok (.func fn first cap) w := fun _ _ _ _ => rfl
 obtain ⟨a3, k3, rfl, hk3, hm3, -, hc3⟩ := h3.ins
 have x0 := L1.cell 0
 have x1 := L1.cell 1
 have x2 := L1.cell 2
 simp at x0 x1 x2
 rw [hW] at x0 x1 x2
 go_enter Tryz.func12, Tryz.ntmps12
 go_wp2_with fail
 rw [← hW] at x0 x1 x2 ⊢
 clear hW
 refine (aG8 _ _ c.vars c.arrays _ (h1.below B0) (h2.below B0)).mono ?_
 rintro e w1 ⟨rfl, rfl⟩
 cases hh : F0 c.vars c.arrays
 ·have HH := show Hid _ from hh
  clear hh hc3
  go_wp2_with fail
  go_ret
  exact ⟨i9 (by rw [HT.out, HH.out]; rfl), B0⟩
 ·have HH := show Hid _ from hh
  clear hh
  go_wp2_with fail
  refine (D2 _ 1 400 _).mono ?_
  rintro e w1 ⟨rfl, rfl⟩
  by_cases hn : (1 : Int) ≤ (c.list.length : Int) ∧ (c.list.length : Int) ≤ 400
  ·have hn' : (decide ((1 : Int) ≤ (c.list.length : Int)) && decide ((c.list.length : Int) ≤ 400)) = true := by simpa using hn
   have HN := show Hid _ from hn
   rw [hn']
   clear hn hn'
   go_wp2_with fail
   refine (ap9 (fun l => !x8 c l) 36 _ _ c.list _ (h3.below B0) (as4 Tryz.func36 (by kernel_rfl) rfl) (fun x w' hb => aw7 _ c x _ _ _ _ w' rfl ((hrow.below B0).below hb) (L1.below hb L1.lt))).mono ?_
   rintro e w1 ⟨rfl, b1⟩
   rw [bc2]
   have BW := B0.trans (b1.mono B0.size)
   replace L1 := L1.below b1 L1.lt
   clear x0 x1 x2
   cases ha : c.list.all (x8 c)
   ·have HA := show Hid _ from ha
    clear ha hc3
    go_wp2_with fail
    go_ret
    exact ⟨i9 (by rw [HT.out, HA.out]; simp), BW⟩
   ·have HA := show Hid _ from ha
    clear ha
    have hl : c.list.length - 1 < c.list.length := by have := HN.out; omega
    obtain ⟨b, off, rfl, hb3, i0, i1, i2, i3, i4⟩ := hc3 _ hl
    rw [← (D8 BW).1 _ _ hb3] at i0
    have x2 := L1.cell 2
    simp only [cb4, cb5] at x2
    have hn1 : 1 ≤ c.list.length := by omega
    have hn2 : c.list.length ≤ 400 := by have := HN.out; omega
    have HL : Hid (X3 c = (decide (c.list[c.list.length - 1].op = 13) || decide (c.list[c.list.length - 1].op = 8))) := by
     unfold Hid X3
     rw [List.getLast?_eq_getElem?, ca8 hl]
    clear hc3 i1 i2 i3 i4
    have hF : Hid (e6 c = (decide (c.list[c.list.length - 1].op = 13) || decide (c.list[c.list.length - 1].op = 8))) := by
     unfold Hid; rw [HT.out, HH.out, HA.out, HL.out, decide_eq_true hn1, decide_eq_true hn2]; rfl
    go_wp2_with fail
    all_goals go_ret
    all_goals exact ⟨i9 (by rw [hF.out, ce0]; simp_all), BW⟩
  ·have hn' : (decide ((1 : Int) ≤ (c.list.length : Int)) && decide ((c.list.length : Int) ≤ 400)) = false := by
    rw [Bool.eq_false_iff]; simp only [ne_eq, cb0, decide_eq_true_eq]; exact hn
   have hF : Hid (e6 c = false) := by
    unfold Hid; rw [HT.out]
    rcases Classical.not_and_iff_not_or_not.1 hn with h | h
    ·rw [decide_eq_false (show ¬ 1 ≤ c.list.length by omega)]; simp
    ·rw [decide_eq_false (show ¬ c.list.length ≤ 400 by omega)]; simp
   rw [hn']
   clear hn hn' hc3
   go_wp2_with fail
   go_ret
   exact ⟨i9 hF.out.symm, B0⟩
end Go.Proofs.YtmokkddidcmglaaGreat

namespace Go.Proofs.YtmokkddidcmglaaGreat
def rle (t u : List Bool) : Prop := ∀ k : Nat, t.getD k false = true → u.getD k false = true
theorem rle.refl (t : List Bool) : rle t t := fun _ h => h
theorem rle.trans {a b c : List Bool} (h : rle a b) (g : rle b c) : rle a c := fun k x => g k (h k x)
theorem a22 (t row : List Bool) : aR7 t row t.length = true ↔ rle t row := by
 unfold aR7 rle
 rw [cb9]
 constructor
 ·intro h k hk
  rcases cc9 k t.length with h1 | h1
  ·have := h k (ce9.2 h1)
   rw [hk] at this
   simpa using this
  ·simp [h1] at hk
 ·intro h k _
  cases hk : t.getD k false
  ·rfl
  ·rw [h k hk]; rfl
theorem ac0 (t row : List Bool) : aG9 t row = true ↔ 0 < row.length ∧ rle t row := by
 have : aG9 t row = (decide (0 < row.length) && aR7 t row t.length) := rfl
 rw [this, cb0, decide_eq_true_eq, a22]
theorem aD4 (t : List Bool) (a k : Nat) (b : Bool) : (t.set a b).getD k false = if k = a ∧ a < t.length then b else t.getD k false := by
 simp only [cb3, List.getElem?_set]
 by_cases h : a = k
 ·subst h
  by_cases h2 : a < t.length
  ·simp [h2]
  ·simp [h2]
 ·rw [if_neg h, if_neg (fun x => h x.1.symm)]
theorem bB4 {t u : List Bool} (h : rle t u) (k : Int) : bAt t k = true → bAt u k = true := h k.toNat
theorem aH3 {c : b6} {x : d8} {t u : List Bool} (h : rle t u) : (ac3 c x t = none ∧ ac3 c x u = none) ∨ ∃ p q, ac3 c x t = some p ∧ ac3 c x u = some q ∧ (p = true → q = true) := by
 have hb := bB4 h
 unfold ac3
 by_cases h1 : x.op = 1 ∨ x.op = 11
 ·rw [if_pos h1, if_pos h1]; exact .inr ⟨_, _, rfl, rfl, id⟩
 rw [if_neg h1, if_neg h1]
 by_cases h2 : x.op = 2
 ·rw [if_pos h2, if_pos h2]; exact .inr ⟨_, _, rfl, rfl, id⟩
 rw [if_neg h2, if_neg h2]
 by_cases h4 : x.op = 4
 ·rw [if_pos h4, if_pos h4]; refine .inr ⟨_, _, rfl, rfl, fun g => ?_⟩
  simp only [cf9] at g ⊢
  rcases g with g | g
  ·exact .inl g
  ·exact .inr (hb _ g)
 rw [if_neg h4, if_neg h4]
 by_cases h6 : x.op = 6
 ·rw [if_pos h6, if_pos h6]; refine .inr ⟨_, _, rfl, rfl, fun g => ?_⟩
  simp only [cf9] at g ⊢
  rcases g with g | g
  ·exact .inl (hb _ g)
  ·exact .inr (hb _ g)
 rw [if_neg h6, if_neg h6]
 by_cases h7 : x.op = 7
 ·rw [if_pos h7, if_pos h7]; refine .inr ⟨_, _, rfl, rfl, fun g => ?_⟩
  simp only [cf9] at g ⊢
  rcases g with (g | g) | g
  ·exact .inl (.inl (hb _ g))
  ·exact .inl (.inr (hb _ g))
  ·exact .inr (hb _ g)
 rw [if_neg h7, if_neg h7]
 exact .inl ⟨rfl, rfl⟩
theorem a43 {c : b6} {x : d8} {t u : List Bool} (hl : t.length = u.length) (h : rle t u) : rle (X9 c x t) (X9 c x u) := by
 unfold X9
 rcases aH3 (c := c) (x := x) h with ⟨e1, e2⟩ | ⟨p, q, e1, e2, hpq⟩
 ·rw [e1, e2]; exact h
 ·rw [e1, e2]
  intro k
  rw [aD4, aD4, hl]
  split
  ·exact hpq
  ·exact h k
def mle (m p : List (List Bool)) : Prop := ∀ i : Nat, (rowAt m i).length = 0 ∨ ((rowAt p i).length ≠ 0 ∧ rle (rowAt m i) (rowAt p i))
def ap6 (c : b6) (m : List (List Bool)) : Prop := m.length = c.list.length ∧ m.all aA9 = true ∧ (rowAt m 0).length ≠ 0 ∧ ∀ i : Nat, i < m.length → Z8 c m i = true
def aP9 (c : b6) (m : List (List Bool)) : Prop := ap6 c m ∧ ∀ p, ap6 c p → mle m p
structure Low (c : b6) (m : List (List Bool)) : Prop where
 len : m.length = c.list.length
 ok : m.all aA9 = true
 first : (rowAt m 0).length ≠ 0
 low : ∀ p, ap6 c p → mle m p
theorem Low.least {c : b6} {m : List (List Bool)} (h : Low c m) (hc : ∀ i : Nat, i < m.length → Z8 c m i = true) : aP9 c m := ⟨⟨h.len, h.ok, h.first, hc⟩, h.low⟩
theorem B8 {m : List (List Bool)} {y : Nat} (r : List Bool) (i : Int) (hy : y < m.length) : rowAt (m.set y r) i = if i.toNat = y then r else rowAt m i := by
 unfold rowAt
 simp only [cb3, List.getElem?_set]
 by_cases h : y = i.toNat
 ·rw [if_pos h, if_pos h.symm]; subst h; simp [hy]
 ·rw [if_neg h, if_neg (Ne.symm h)]
theorem Low.start {c : b6} (hn : 1 ≤ c.list.length) : Low c ((ca7 c.list.length ([] : List Bool)).set 0 (ca7 14 false)) := by
 have hl : 0 < (ca7 c.list.length ([] : List Bool)).length := by rw [cd0]; omega
 refine ⟨by simp, ?_, ?_, fun p hp i => ?_⟩
 ·rw [cb9]
  intro r hr
  rcases List.mem_or_eq_of_mem_set hr with h | h
  ·rw [(List.mem_replicate.1 h).2]; rfl
  ·rw [h]; rfl
 ·rw [B8 _ _ hl]; simp
 ·rw [B8 _ _ hl]
  by_cases hi : i = 0
  ·subst hi
   right
   refine ⟨hp.2.2.1, fun k hk => ?_⟩
   exfalso
   rw [if_pos (by simp)] at hk
   simp only [cb3, List.getElem?_replicate] at hk
   split at hk <;> simp at hk
  ·left
   rw [if_neg (by simpa using hi)]
   unfold rowAt
   simp only [cb3, List.getElem?_replicate]
   split <;> simp
theorem Low.set {c : b6} {m : List (List Bool)} (h : Low c m) {y : Nat} (hy : y < m.length) {r : List Bool} (hr : r.length = 14) (hp : ∀ p, ap6 c p → (rowAt p y).length ≠ 0 ∧ rle r (rowAt p y)) : Low c (m.set y r) := by
 refine ⟨by simpa using h.len, ?_, ?_, fun p g i => ?_⟩
 ·rw [cb9]
  intro r' hr'
  rcases List.mem_or_eq_of_mem_set hr' with h' | h'
  ·exact cb9.1 h.ok _ h'
  ·rw [h']; simp [aA9, hr]
 ·rw [B8 _ _ hy]
  split
  ·omega
  ·exact h.first
 ·rw [B8 _ _ hy]
  split
  ·rename_i e
   have e : i = y := by simpa using e
   subst e
   exact .inr (hp p g)
  ·exact h.low p g i
theorem Low.after {c : b6} {m : List (List Bool)} (h : Low c m) {i : Nat} (hi : i < m.length) (h14 : (rowAt m i).length = 14) : ∀ p, ap6 c p → ∀ t ∈ nx c i, (rowAt p t).length ≠ 0 ∧ rle (X9 c (t6 c i) (rowAt m i)) (rowAt p t) := by
 intro p hp t ht
 have hpi : i < p.length := by rw [hp.1, ← h.len]; exact hi
 rcases h.low p hp i with h0 | ⟨hn, hr⟩
 ·omega
 ·have hc := hp.2.2.2 i hpi
  unfold Z8 at hc
  rw [cf9, decide_eq_true_eq] at hc
  rcases hc with hc | hc
  ·exact absurd hc hn
  ·have := cb9.1 hc t ht
   rw [ac0] at this
   have h2 := aK0 hp.2.1 i
   exact ⟨by omega, (a43 (by omega) hr).trans this.2⟩
theorem bm7 {c : b6} {m : List (List Bool)} {y j : Nat} (hy : y < m.length) (hne : j ≠ y) {r : List Bool} (hr : r.length = 14) (hle : rle (rowAt m y) r) (h : Z8 c m j = true) : Z8 c (m.set y r) j = true := by
 unfold Z8 at h ⊢
 have ej : rowAt (m.set y r) j = rowAt m j := by rw [B8 _ _ hy, if_neg (by simpa using hne)]
 rw [ej]
 rw [cf9, decide_eq_true_eq] at h ⊢
 rcases h with h | h
 ·exact .inl h
 ·right
  rw [cb9] at h ⊢
  intro t ht
  have := h t ht
  rw [ac0] at this ⊢
  rw [B8 _ _ hy]
  split
  ·rename_i e
   refine ⟨by omega, this.2.trans ?_⟩
   rw [show rowAt m t = rowAt m y by unfold rowAt; rw [e]; simp]
   exact hle
  ·exact this
theorem bz6 {m : List (List Bool)} {y : Nat} (hy : y < m.length) {r t : List Bool} {z : Int} (hr : r.length = 14) (hle : rle (rowAt m y) r) (h : aG9 t (rowAt m z) = true) : aG9 t (rowAt (m.set y r) z) = true := by
 rw [ac0] at h ⊢
 rw [B8 _ _ hy]
 split
 ·rename_i e
  refine ⟨by omega, h.2.trans ?_⟩
  rw [show rowAt m z = rowAt m y by unfold rowAt; rw [e]; simp]
  exact hle
 ·exact h
def ab7 (row t : List Bool) (k : Nat) : List Bool := (cc5 row.length).map fun j => row.getD j false || (decide (j < k) && t.getD j false)
def ae4 (row t : List Bool) : List Bool := if row.length = 0 then t else ab7 row t t.length
theorem ap5 (row t : List Bool) (k : Nat) : (ab7 row t k).length = row.length := by simp [ab7]
theorem aa7 (row t : List Bool) (k j : Nat) (hj : j < row.length) : (ab7 row t k).getD j false = (row.getD j false || (decide (j < k) && t.getD j false)) := by
 simp [ab7, hj]
theorem ai1 {row t : List Bool} (hr : row.length = 0 ∨ row.length = 14) (ht : t.length = 14) : (ae4 row t).length = 14 := by
 unfold ae4
 split
 ·exact ht
 ·rw [ap5]; omega
theorem aC8 {row t : List Bool} (_hr : row.length = 0 ∨ row.length = 14) : rle row (ae4 row t) := by
 intro k hk
 unfold ae4
 split
 ·rename_i h0
  rw [cc8 h0] at hk
  simp at hk
 ·rcases cc9 k row.length with h1 | h1
  ·rw [aa7 _ _ _ _ h1, hk]; rfl
  ·simp [h1] at hk
theorem au9 {row t : List Bool} (hr : row.length = 0 ∨ row.length = 14) (ht : t.length = 14) : rle t (ae4 row t) := by
 intro k hk
 unfold ae4
 split
 ·exact hk
 ·rcases cc9 k t.length with h1 | h1
  ·rw [aa7 _ _ _ _ (by omega), hk, decide_eq_true h1]; simp
  ·simp [h1] at hk
theorem aZ4 {row t u : List Bool} (h1 : rle row u) (h2 : rle t u) : rle (ae4 row t) u := by
 intro k hk
 unfold ae4 at hk
 split at hk
 ·exact h2 k hk
 ·rcases cc9 k row.length with h | h
  ·rw [aa7 _ _ _ _ h] at hk
   rw [cf9, cb0] at hk
   rcases hk with hk | hk
   ·exact h1 k hk
   ·exact h2 k hk.2
  ·have : (ab7 row t t.length).length ≤ k := by rw [ap5]; exact h
   simp [this] at hk
def al0 (r : List Bool) : Nat := if r.length = 0 then 15 else r.count false
def pot (m : List (List Bool)) : Nat := (m.map al0).sum
theorem ax4 : ∀ (m : List (List Bool)) (y : Nat) (r : List Bool) (hy : y < m.length), pot (m.set y r) + al0 m[y] = pot m + al0 r
 | [], y, _, hy => by simp at hy
 | a :: m, 0, r, _ => by simp [pot]; omega
 | a :: m, y + 1, r, hy => by
  have := ax4 m y r (by simpa using hy)
  simp [pot] at this ⊢
  omega
theorem count_le {a b : List Bool} (hl : a.length = b.length) (h : rle a b) : b.count false ≤ a.count false := by
 induction a generalizing b with
 | nil => cases b <;> simp_all
 | cons x a ih =>
  cases b with
  | nil => simp at hl
  | cons y b =>
   have h1 := ih (b := b) (by simpa using hl) (fun k hk => by have := h (k + 1); simp at this hk ⊢; exact this hk)
   have h0 := h 0
   simp at h0
   cases x <;> cases y <;> simp_all <;> omega
theorem bz7 {a b : List Bool} (hl : a.length = b.length) (h : rle a b) (hn : ¬ rle b a) : b.count false < a.count false := by
 induction a generalizing b with
 | nil => cases b <;> simp_all [rle]
 | cons x a ih =>
  cases b with
  | nil => simp at hl
  | cons y b =>
   have hs : rle a b := fun k hk => by have := h (k + 1); simp at this hk ⊢; exact this hk
   have hc := count_le (by simpa using hl) hs
   have h0 := h 0
   simp at h0
   by_cases hr : rle b a
   ·have : ¬ (y = true → x = true) := fun g => hn (fun k => by
     cases k with
     | zero => simpa using g
     | succ k => simpa using hr k)
    cases x <;> cases y <;> simp_all <;> omega
   ·have h1 := ih (b := b) (by simpa using hl) hs hr
    cases x <;> cases y <;> simp_all <;> omega
theorem bk5 {row t : List Bool} (hr : row.length = 0 ∨ row.length = 14) (ht : t.length = 14) (h : aG9 t row = false) : al0 (ae4 row t) < al0 row := by
 unfold al0
 rw [if_neg (by rw [ai1 hr ht]; omega)]
 by_cases h0 : row.length = 0
 ·rw [if_pos h0]
  have := List.count_le_length (a := false) (l := ae4 row t)
  rw [ai1 hr ht] at this
  omega
 ·rw [if_neg h0]
  refine bz7 (by rw [ai1 hr ht]; omega) (aC8 hr) fun g => ?_
  rw [Bool.eq_false_iff] at h
  exact h ((ac0 _ _).2 ⟨by omega, (au9 hr ht).trans g⟩)
theorem bP2 (m : List (List Bool)) (h : m.all aA9 = true) : pot m ≤ 15 * m.length := by
 induction m with
 | nil => simp [pot]
 | cons r m ih =>
  simp only [List.all_cons, cb0] at h
  have h1 := ih h.2
  have h2 : al0 r ≤ 15 := by
   unfold al0
   split
   ·omega
   ·have := List.count_le_length (a := false) (l := r)
    have := h.1
    simp only [aA9, cf9, decide_eq_true_eq] at this
    omega
  simp only [pot, cd7, List.sum_cons, cb8] at h1 ⊢
  omega
structure bc4 (c : b6) (m : List (List Bool)) (qs : List Int) (k : Nat) : Prop where
 low : Low c m
 q : ∀ x ∈ qs, 0 ≤ x ∧ x < c.list.length ∧ (rowAt m x).length = 14
 pend : ∀ i : Nat, i < c.list.length → Z8 c m i = true ∨ ∃ p, k ≤ p ∧ qs[p]? = some (i : Int)
 cnt : qs.length + pot m ≤ 15 * c.list.length + 1
structure aS7 (c : b6) (m : List (List Bool)) (qs : List Int) (k a : Nat) (t : List Bool) (ns : List Int) (j : Nat) : Prop where
 low : Low c m
 q : ∀ x ∈ qs, 0 ≤ x ∧ x < c.list.length ∧ (rowAt m x).length = 14
 pend : ∀ i : Nat, i < c.list.length → i ≠ a → Z8 c m i = true ∨ ∃ p, k + 1 ≤ p ∧ qs[p]? = some (i : Int)
 self : (∃ p, k + 1 ≤ p ∧ qs[p]? = some (a : Int)) ∨ (∀ y ∈ ns.take j, aG9 t (rowAt m y) = true) ∧ X9 c (t6 c a) (rowAt m a) = t
 cnt : qs.length + pot m ≤ 15 * c.list.length + 1
 bnd : ∀ p, ap6 c p → ∀ y ∈ ns, (rowAt p y).length ≠ 0 ∧ rle t (rowAt p y)
 tl : t.length = 14
theorem bc4.start {c : b6} (hn : 1 ≤ c.list.length) : bc4 c ((ca7 c.list.length ([] : List Bool)).set 0 (ca7 14 false)) [0] 0 := by
 have hl : 0 < (ca7 c.list.length ([] : List Bool)).length := by rw [cd0]; omega
 have h0 := Low.start hn
 refine ⟨h0, ?_, fun i hi => ?_, ?_⟩
 ·intro x hx
  rw [cd4.1 hx]
  refine ⟨Int.le_refl _, by omega, ?_⟩
  rw [B8 _ _ hl]; simp
 ·by_cases e : i = 0
  ·subst e; exact .inr ⟨0, cb1 _, rfl⟩
  ·left
   unfold Z8
   rw [cf9, decide_eq_true_eq]
   left
   rw [B8 _ _ hl, if_neg (by simpa using e)]
   unfold rowAt
   simp only [cb3, List.getElem?_replicate]
   split <;> simp
 ·have := bP2 _ h0.ok
  simp only [cd2, cd0] at this
  simp only [List.length_singleton]
  omega
theorem bc4.enter {c : b6} {m : List (List Bool)} {qs : List Int} {k a : Nat} (h : bc4 c m qs k) (ha : qs[k]? = some (a : Int)) :
  (rowAt m a).length = 14 ∧ a < c.list.length ∧ aS7 c m qs k a (X9 c (t6 c a) (rowAt m a)) (nx c a) 0 := by
 have hm := h.q a (cc3 ha)
 have hl : a < m.length := by rw [h.low.len]; omega
 refine ⟨hm.2.2, by omega, h.low, h.q, fun i hi hne => ?_, .inr ⟨by simp, rfl⟩, h.cnt, ?_, by rw [aF9]; exact hm.2.2⟩
 ·rcases h.pend i hi with g | ⟨p, g1, g2⟩
  ·exact .inl g
  ·refine .inr ⟨p, ?_, g2⟩
   rcases cc9 k p with g3 | g3
   ·exact g3
   ·have : p = k := by omega
    subst this
    rw [ha] at g2
    have := Option.some.inj g2
    omega
 ·exact fun p hp y hy => h.low.after hl hm.2.2 p hp y hy
theorem aS7.keep {c : b6} {m : List (List Bool)} {qs : List Int} {k a : Nat} {t : List Bool} {ns : List Int} {j : Nat} (h : aS7 c m qs k a t ns j) (hj : j < ns.length) (hc : aG9 t (rowAt m ns[j]) = true) : aS7 c m qs k a t ns (j + 1) := by
 refine ⟨h.low, h.q, h.pend, ?_, h.cnt, h.bnd, h.tl⟩
 rcases h.self with g | ⟨g1, g2⟩
 ·exact .inl g
 ·refine .inr ⟨fun y hy => ?_, g2⟩
  rw [D0 _ _ hj, cc4, cd4] at hy
  rcases hy with hy | hy
  ·exact g1 y hy
  ·rw [hy]; exact hc
theorem aS7.push {c : b6} {m : List (List Bool)} {qs : List Int} {k a : Nat} {t : List Bool} {ns : List Int} {j : Nat} (h : aS7 c m qs k a t ns j) (hj : j < ns.length) {y : Nat} (hy : ns[j] = (y : Int)) (hyl : y < c.list.length) (hk : k < qs.length)
  (hc : aG9 t (rowAt m y) = false) : aS7 c (m.set y (ae4 (rowAt m y) t)) (qs ++ [(y : Int)]) k a t ns (j + 1) := by
 have hl : y < m.length := by rw [h.low.len]; exact hyl
 have hr := aK0 h.low.ok y
 have h14 := ai1 hr h.tl
 have hle := aC8 (t := t) hr
 have hmem : (y : Int) ∈ ns := by rw [← hy]; exact cd1 hj
 have hpl : ∀ i : Nat, (∃ p, k + 1 ≤ p ∧ qs[p]? = some (i : Int)) → ∃ p, k + 1 ≤ p ∧ (qs ++ [(y : Int)])[p]? = some (i : Int) := by
  rintro i ⟨p, h1, h2⟩
  exact ⟨p, h1, by rw [cd5 (cb6.1 h2).1]; exact h2⟩
 have hpy : ∃ p, k + 1 ≤ p ∧ (qs ++ [(y : Int)])[p]? = some (y : Int) := ⟨qs.length, hk, by simp⟩
 refine ⟨?_, ?_, ?_, ?_, ?_, h.bnd, h.tl⟩
 ·refine h.low.set hl h14 fun p hp => ?_
  have h1 := h.bnd p hp y hmem
  refine ⟨h1.1, aZ4 ?_ h1.2⟩
  rcases h.low.low p hp y with h2 | h2
  ·intro z hz
   rw [cc8 h2] at hz
   simp at hz
  ·exact h2.2
 ·intro x hx
  rw [B8 _ _ hl]
  rw [cc4, cd4] at hx
  rcases hx with hx | hx
  ·have := h.q x hx
   refine ⟨this.1, this.2.1, ?_⟩
   split
   ·exact h14
   ·exact this.2.2
  ·subst hx
   refine ⟨by omega, by omega, ?_⟩
   rw [if_pos (by simp)]
   exact h14
 ·intro i hi hne
  by_cases e : i = y
  ·subst e; exact .inr hpy
  ·rcases h.pend i hi hne with g | g
   ·exact .inl (bm7 hl e h14 hle g)
   ·exact .inr (hpl i g)
 ·by_cases e : a = y
  ·subst e; exact .inl hpy
  ·rcases h.self with g | ⟨g1, g2⟩
   ·exact .inl (hpl a g)
   ·refine .inr ⟨fun z hz => ?_, ?_⟩
    ·rw [D0 _ _ hj, cc4, cd4] at hz
     rcases hz with hz | hz
     ·exact bz6 hl h14 hle (g1 z hz)
     ·rw [hz, hy, ac0, B8 _ _ hl, if_pos (by simp)]
      exact ⟨by omega, au9 hr h.tl⟩
    ·rw [B8 _ _ hl, if_neg (by simpa using e)]
     exact g2
 ·have h1 := ax4 m y (ae4 (rowAt m y) t) hl
  have h2 := bk5 hr h.tl hc
  rw [← ah6 hl] at h1
  have := h.cnt
  rw [cb2, List.length_singleton]
  omega
theorem aS7.done {c : b6} {m : List (List Bool)} {qs : List Int} {k a : Nat} {t : List Bool} {j : Nat} (h : aS7 c m qs k a t (nx c a) j) (hj : (nx c a).length ≤ j) : bc4 c m qs (k + 1) := by
 refine ⟨h.low, h.q, fun i hi => ?_, h.cnt⟩
 by_cases e : i = a
 ·subst e
  rcases h.self with g | ⟨g1, g2⟩
  ·exact .inr g
  ·left
   rw [cc6 hj] at g1
   unfold Z8
   rw [cf9]
   right
   rw [cb9, g2]
   exact g1
 ·exact h.pend i hi e
theorem bc4.done {c : b6} {m : List (List Bool)} {qs : List Int} (h : bc4 c m qs qs.length) : aP9 c m := by
 refine h.low.least fun i hi => ?_
 rcases h.pend i (by rw [← h.low.len]; exact hi) with g | ⟨p, g1, g2⟩
 ·exact g
 ·have := (cb6.1 g2).1
  omega
structure aH5 (c : b6) (m : List (List Bool)) (p0 : Nat) (ch : Bool) (i : Nat) : Prop where
 low : Low c m
 cov : ch = false → ∀ j : Nat, j < i → Z8 c m j = true
 le : pot m ≤ p0
 lt : ch = true → pot m < p0
structure KInv (c : b6) (m : List (List Bool)) (p0 : Nat) (ch : Bool) (i : Nat) (t : List Bool) (ns : List Int) (j : Nat) : Prop where
 low : Low c m
 cov : ch = false → (∀ j : Nat, j < i → Z8 c m j = true) ∧ X9 c (t6 c i) (rowAt m i) = t ∧ ∀ y ∈ ns.take j, aG9 t (rowAt m y) = true
 le : pot m ≤ p0
 lt : ch = true → pot m < p0
 bnd : ∀ p, ap6 c p → ∀ y ∈ ns, (rowAt p y).length ≠ 0 ∧ rle t (rowAt p y)
 tl : t.length = 14
structure aH6 (c : b6) (m : List (List Bool)) (p0 : Nat) (ch : Bool) (i : Nat) (t : List Bool) (ns : List Int) (j y q : Nat) : Prop extends KInv c m p0 ch i t ns j where
 row : (rowAt m y).length = 14
 bits : ch = false → ∀ k : Nat, k < q → t.getD k false = true → (rowAt m y).getD k false = true
theorem aH5.start {c : b6} {m : List (List Bool)} (h : Low c m) : aH5 c m (pot m) false 0 := ⟨h, fun _ j hj => by omega, cb1 _, fun h => by cases h⟩
theorem aH5.done {c : b6} {m : List (List Bool)} {p0 i : Nat} (h : aH5 c m p0 false i) (hi : m.length ≤ i) : aP9 c m := h.low.least fun j hj => h.cov rfl j (by omega)
theorem aH5.skip {c : b6} {m : List (List Bool)} {p0 i : Nat} {ch : Bool} (h : aH5 c m p0 ch i) (h0 : (rowAt m i).length = 0) : aH5 c m p0 ch (i + 1) := by
 refine ⟨h.low, fun g j hj => ?_, h.le, h.lt⟩
 rcases cc9 j i with h1 | h1
 ·exact h.cov g j h1
 ·obtain rfl : j = i := by omega
  unfold Z8
  rw [h0]; rfl
theorem aH5.enter {c : b6} {m : List (List Bool)} {p0 i : Nat} {ch : Bool} (h : aH5 c m p0 ch i) (hi : i < m.length) (h14 : (rowAt m i).length = 14) {ns : List Int} (hns : ∀ y, y ∈ ns ↔ y ∈ nx c i) : KInv c m p0 ch i (X9 c (t6 c i) (rowAt m i)) ns 0 :=
 ⟨h.low, fun g => ⟨h.cov g, rfl, by simp⟩, h.le, h.lt, fun p hp y hy => h.low.after hi h14 p hp y ((hns y).1 hy), by rw [aF9]; exact h14⟩
theorem KInv.done {c : b6} {m : List (List Bool)} {p0 i j : Nat} {ch : Bool} {t : List Bool} {ns : List Int} (h : KInv c m p0 ch i t ns j) (hj : ns.length ≤ j) (hns : ∀ y, y ∈ ns ↔ y ∈ nx c i) : aH5 c m p0 ch (i + 1) := by
 refine ⟨h.low, fun g k hk => ?_, h.le, h.lt⟩
 obtain ⟨g1, g2, g3⟩ := h.cov g
 rcases cc9 k i with h1 | h1
 ·exact g1 k h1
 ·obtain rfl : k = i := by omega
  rw [cc6 hj] at g3
  unfold Z8
  rw [cf9]
  right
  rw [cb9, g2]
  exact fun y hy => g3 y ((hns y).2 hy)
theorem KInv.bits {c : b6} {m : List (List Bool)} {p0 i j y : Nat} {ch : Bool} {t : List Bool} {ns : List Int} (h : KInv c m p0 ch i t ns j) (h14 : (rowAt m y).length = 14) : aH6 c m p0 ch i t ns j y 0 :=
 ⟨h, h14, fun _ k hk => by omega⟩
theorem KInv.fresh {c : b6} {m : List (List Bool)} {p0 i j y : Nat} {ch : Bool} {t : List Bool} {ns : List Int} (h : KInv c m p0 ch i t ns j) (hj : j < ns.length) (hy : ns[j] = (y : Int)) (hym : y < m.length) (h0 : (rowAt m y).length = 0) :
  aH6 c (m.set y (ca7 14 false)) p0 true i t ns j y 0 := by
 have hf : ∀ k : Nat, (ca7 14 false).getD k false = false := by
  intro k
  simp only [cb3, List.getElem?_replicate]
  split <;> rfl
 have hp := ax4 m y (ca7 14 false) hym
 rw [← ah6 hym] at hp
 have e1 : al0 (rowAt m y) = 15 := by unfold al0; rw [if_pos h0]
 have e2 : al0 (ca7 14 false) = 14 := by rfl
 rw [e1, e2] at hp
 have hle := h.le
 refine ⟨⟨?_, (fun g => by cases g), by omega, fun _ => by omega, h.bnd, h.tl⟩, ?_, (fun g => by cases g)⟩
 ·refine h.low.set hym (by simp) fun p hpp => ⟨(h.bnd p hpp y (by rw [← hy]; exact cd1 hj)).1, fun k hk => ?_⟩
  rw [hf k] at hk
  cases hk
 ·rw [B8 _ _ hym, if_pos (by simp)]; simp
theorem aH6.keep {c : b6} {m : List (List Bool)} {p0 i j y q : Nat} {ch : Bool} {t : List Bool} {ns : List Int} (h : aH6 c m p0 ch i t ns j y q) (hq : t.getD q false = true → (rowAt m y).getD q false = true) : aH6 c m p0 ch i t ns j y (q + 1) := by
 refine ⟨h.toKInv, h.row, fun g k hk ht => ?_⟩
 rcases cc9 k q with h1 | h1
 ·exact h.bits g k h1 ht
 ·obtain rfl : k = q := by omega
  exact hq ht
theorem aH6.put {c : b6} {m : List (List Bool)} {p0 i j y q : Nat} {ch : Bool} {t : List Bool} {ns : List Int} (h : aH6 c m p0 ch i t ns j y q) (hj : j < ns.length) (hy : ns[j] = (y : Int)) (hym : y < m.length) (hq : q < 14) (h1 : t.getD q false = true) (h0 : (rowAt m y).getD q false = false) :
  aH6 c (m.set y ((rowAt m y).set q true)) p0 true i t ns j y (q + 1) := by
 have hl := h.row
 have hp := ax4 m y ((rowAt m y).set q true) hym
 rw [← ah6 hym] at hp
 have hb : (rowAt m y)[q]? = some false := by
  rw [cb3] at h0
  rw [ca8 (by omega)] at h0 ⊢
  simpa using h0
 have e1 : al0 (rowAt m y) = (rowAt m y).count false := by unfold al0; rw [if_neg (by omega)]
 have e2 : al0 ((rowAt m y).set q true) = ((rowAt m y).set q true).count false := by unfold al0; rw [if_neg (by rw [cd2]; omega)]
 have e3 := R3 hb
 rw [e1, e2] at hp
 have hle := h.le
 refine ⟨⟨?_, (fun g => by cases g), by omega, fun _ => by omega, h.bnd, h.tl⟩, ?_, (fun g => by cases g)⟩
 ·refine h.low.set hym (by rw [cd2]; exact hl) fun p hpp => ?_
  have hb := h.bnd p hpp y (by rw [← hy]; exact cd1 hj)
  refine ⟨hb.1, fun k hk => ?_⟩
  rw [aD4] at hk
  split at hk
  ·rename_i e
   rw [e.1]
   exact hb.2 q h1
  ·rcases h.low.low p hpp y with h2 | h2
   ·omega
   ·exact h2.2 k hk
 ·rw [B8 _ _ hym, if_pos (by simp), cd2]; exact hl
theorem aH6.done {c : b6} {m : List (List Bool)} {p0 i j y q : Nat} {ch : Bool} {t : List Bool} {ns : List Int} (h : aH6 c m p0 ch i t ns j y q) (hj : j < ns.length) (hy : ns[j] = (y : Int)) (hq : 14 ≤ q) : KInv c m p0 ch i t ns (j + 1) := by
 refine ⟨h.low, fun g => ?_, h.le, h.lt, h.bnd, h.tl⟩
 obtain ⟨g1, g2, g3⟩ := h.cov g
 refine ⟨g1, g2, fun z hz => ?_⟩
 rw [D0 _ _ hj, cc4, cd4] at hz
 rcases hz with hz | hz
 ·exact g3 z hz
 ·rw [hz, hy, ac0]
  refine ⟨by have := h.row; omega, fun k hk => ?_⟩
  rcases cc9 k 14 with h1 | h1
  ·exact h.bits g k (by omega) hk
  ·have := h.tl
   simp [show t.length ≤ k by omega] at hk
noncomputable def bX8 (c : b6) (i : Nat) : List Bool := open Classical in if ∀ p, ap6 c p → (rowAt p i).length ≠ 0 then (cc5 14).map fun k => decide (∀ p, ap6 c p → (rowAt p i).getD k false = true) else []
noncomputable def ca5 (c : b6) : List (List Bool) := (cc5 c.list.length).map (bX8 c)
theorem bQ4 {c : b6} {x : d8} (hx : x8 c x = true) (h : ¬ 0 ≤ i6 x) : x.op ≠ 8 ∧ x.op ≠ 9 ∧ x.op ≠ 10 := by
 have := az8 hx
 refine ⟨fun e => ?_, fun e => ?_, fun e => ?_⟩
 ·exact h (this (.inl e)).1
 ·exact h (this (.inr (.inl e))).1
 ·exact h (this (.inr (.inr e))).1
def ak1 {α : Type} (f : Nat → α) (ks : List Bool) (k : Nat) : List α := (cc5 k).flatMap fun i => if ks.getD i false = true then [f i] else []
theorem as2 {α : Type} {f : Nat → α} {ks : List Bool} {k : Nat} (h : ks.getD k false = true) : ak1 f ks (k + 1) = ak1 f ks k ++ [f k] := by
 unfold ak1
 rw [List.range_succ, List.flatMap_append]
 simp only [List.flatMap_cons, List.flatMap_nil, List.append_nil]
 rw [if_pos h]
theorem aC6 {α : Type} {f : Nat → α} {ks : List Bool} {k : Nat} (h : ks.getD k false = false) : ak1 f ks (k + 1) = ak1 f ks k := by
 unfold ak1
 rw [List.range_succ, List.flatMap_append]
 simp only [List.flatMap_cons, List.flatMap_nil, List.append_nil]
 rw [if_neg (by rw [h]; decide), List.append_nil]
theorem bl9 {α : Type} (f : Nat → α) (ks : List Bool) : ∀ k, k ≤ ks.length → (ak1 f ks k).length = Q3 ks k := by
 intro k
 induction k with
 | zero => intro _; simp [ak1, ab3]
 | succ k ih =>
  intro h
  rw [W5 ks k (by omega)]
  cases hk : ks.getD k false
  ·rw [aC6 hk, ih (by omega)]; simp
  ·rw [as2 hk, cb2, ih (by omega)]; simp
theorem bx4 {α : Type} (f : Nat → α) (ks : List Bool) {j : Nat} (hk : ks.getD j false = true) : ∀ n, j < n → n ≤ ks.length → (ak1 f ks n)[Q3 ks j]? = some (f j) := by
 intro n
 induction n with
 | zero => intro h; omega
 | succ n ih =>
  intro hj hn
  by_cases e : j = n
  ·subst e
   rw [as2 hk, ← bl9 f ks j (by omega)]
   simp
  ·have h1 := ih (by omega) (by omega)
   cases hk2 : ks.getD n false
   ·rw [aC6 hk2]; exact h1
   ·rw [as2 hk2]
    obtain ⟨hl, _⟩ := cb6.1 h1
    rw [cd5 hl]; exact h1
end Go.Proofs.YtmokkddidcmglaaGreat

namespace Go.Proofs.YtmokkddidcmglaaGreat
open Go Go.RowKit
theorem aN7 (v : Value) (c : b6) (x : d8) (w : World) (h : r8 w v c) :
  Calls Tryz.prog 55 #[v, x.v] w fun e w' => e = .returned (.bool (x8 c x)) ∧ Below w.heap.size w w' := by
 obtain ⟨v1, v2, v3, rfl, h1, h2, h3⟩ := h
 have HT : Hid (x8 c x = (decide (1 ≤ x.op) && decide (x.op ≤ 13) && ag0 c (l6 x.op) [x.a, x.b, x.c, x.d] 4)) := by
  unfold Hid x8; rw [a77]
 by_cases hop : 1 ≤ x.op ∧ x.op ≤ 13
 ·obtain ⟨hop1, hop2⟩ := hop
  have hR : Hid (x8 c x = ag0 c (l6 x.op) [x.a, x.b, x.c, x.d] 4) := by
   unfold Hid; rw [HT.out, decide_eq_true hop1, decide_eq_true hop2]; rfl
  clear HT
  obtain ⟨W, hW⟩ : ∃ W, W = ((w.alloc (.cells #[v1, v2, v3] 26)).alloc (.cells #[.int .i64 x.op, .int .i64 x.a, .int .i64 x.b, .int .i64 x.c, .int .i64 x.d] 60)) := ⟨_, rfl⟩
  have B0 : Below w.heap.size w W := by rw [hW]; go_grown
  have L1 : v9 W w.heap.size [v1, v2, v3] := by rw [hW]; exact (v9.new w [v1, v2, v3] _).alloc _
  have L2 : v9 W (w.heap.size + 1) [.int .i64 x.op, .int .i64 x.a, .int .i64 x.b, .int .i64 x.c, .int .i64 x.d] := by rw [hW]; exact v9.new' (w.alloc _) [.int .i64 x.op, .int .i64 x.a, .int .i64 x.b, .int .i64 x.c, .int .i64 x.d] _ (by simp)
  go_enter Tryz.func55, Tryz.ntmps55
  go_wp2_with fail
  rw [← hW]
  clear hW
  refine (aj8 x.op W hop1 hop2).mono ?_
  rintro e w1 ⟨rfl, b1⟩
  replace L1 := L1.below b1 L1.lt
  replace L2 := L2.below b1 L2.lt
  have y0 := L2.cell 0
  have y1 := L2.cell 1
  have y2 := L2.cell 2
  have y3 := L2.cell 3
  have y4 := L2.cell 4
  simp at y0 y1 y2 y3 y4
  go_wp2_with fail
  refine (aN6 x _).mono ?_
  rintro e w2 ⟨u, rfl, o2, b2⟩
  replace L1 := L1.below b2 L1.lt
  have B2 := (B0.trans (b1.mono B0.size)).trans (b2.mono (by have := B0.size; have := b1.size; omega))
  obtain ⟨g, cap, rfl, -, -, hg, -, -, -, hp⟩ := o2.open (by omega)
  have hkl := al6 x.op
  obtain ⟨kinds, hkinds⟩ : ∃ kinds, kinds = l6 x.op := ⟨_, rfl⟩
  obtain ⟨parts, hparts⟩ : ∃ parts, parts = [x.a, x.b, x.c, x.d] := ⟨_, rfl⟩
  rw [← hkinds] at hkl ⊢
  rw [← hkinds] at hR
  rw [← hparts] at hR hp
  have hpl : parts.length = 4 := by rw [hparts]; rfl
  clear hkinds hparts y0 y1 y2 y3 y4 L2 o2
  have HPL := show Hid _ from hpl
  clear hpl
  go_wp2_with fail
  go_loopw [7] (fun i wr => ∃ k : Nat, k ≤ 4 ∧ i = .int .i64 k ∧ ag0 c kinds parts k = true ∧ Below w2.heap.size w2 wr) (fun i _ => 4 - (intOf i).toNat)
  case atStart => exact ⟨0, by omega, rfl, rfl, Below.refl _ _⟩
  case round =>
   obtain ⟨k, hk, rfl, ha, hb⟩ := hrel
   have HA := show Hid _ from ha
   clear ha
   replace L1 := L1.below hb L1.lt
   by_cases hlt : k < 4
   ·have x0 := L1.cell 0
    have x1 := L1.cell 1
    have x2 := L1.cell 2
    simp only [cb4, cb5] at x0 x1 x2
    have z0 := fun X => i5 x0 X
    have z1 := fun X => i5 x1 X
    have z2 := fun X => i5 x2 X
    have hpk : k < parts.length := by rw [HPL.out]; exact hlt
    have p0 : wr.cell? ⟨g, k, none⟩ = some (.int .i64 parts[k]) := by
     rw [(D8 hb).1 _ _ hg]; exact hp k _ (by simp [hpk])
    have pX := fun X => i5 p0 X
    have HS := show Hid _ from aB2 c kinds parts k
    have hgd : parts.getD k 0 = parts[k] := by simp [hpk]
    have HG := show Hid _ from hgd
    have BW := B2.trans (hb.mono B2.size)
    clear x0 x1 x2 p0 hp hgd
    by_cases hkk : k < kinds.length
    ·have hpo : D7 c kinds k parts[k] = K4 c kinds[k] parts[k] := by simp [D7, hkk]
     have HPO := show Hid _ from hpo
     clear hpo
     have hd1 : decide (kinds.length ≤ k) = false := by simp; omega
     have hd2 : decide ((kinds.length : Int) ≤ (k : Int)) = false := by simp; omega
     cases hr : K4 c kinds[k] parts[k]
     all_goals
      have HR := show Hid _ from hr
      clear hr
      have HC : Hid (∀ X, Calls Tryz.prog 81 #[.agg #[v1, v2, v3], .int .u8 kinds[k].toNat, .int .i64 parts[k]] (wr.ext X) fun e w'' => e = .returned (.bool _) ∧ ∃ Y, w'' = wr.ext Y) :=
       fun X => Calls.ext_of' ((aN5 v1 v2 v3 c kinds[k] parts[k] _ ((h1.below BW).below (t4 _ X)) ((h2.below BW).below (t4 _ X)) ((h3.below BW).below (t4 _ X))).mono fun e w' h => by rw [HR.out] at h; exact h)
      go_wp2_with fail
      refine I2 (by kernel_rfl) (by kernel_rfl) ?_
      repeat (any_goals (first | go_big_quiet_step ((go_at_call 81; exact HC.out _)) | quiet_step ((go_at_call 81; exact HC.out _))))
      refine wpQuiet_nil ?_
      rintro w' ⟨X, rfl⟩
      have hbX := hb.trans ((t4 wr X).mono hb.size)
      go_wp2_with fail
     ·go_ret
      exact ⟨i9 (by rw [hR.out, aB3 4 hlt (by rw [HG.out, HPO.out, HR.out])]), B2.trans (hbX.mono B2.size)⟩
     ·exact ⟨⟨k + 1, by omega, by go_num, by rw [HS.out, HA.out, HG.out, HPO.out, HR.out]; rfl, hbX⟩, by simp [intOf]; omega⟩
    ·have hpo : D7 c kinds k parts[k] = decide (parts[k] = 0) := by simp [D7, hkk]
     have HPO := show Hid _ from hpo
     clear hpo
     have hd1 : decide (kinds.length ≤ k) = true := by simp; omega
     have hd2 : decide ((kinds.length : Int) ≤ (k : Int)) = true := by simp; omega
     have hd3 : decide (k < kinds.length) = false := by simp; omega
     have hd4 : decide ((k : Int) < (kinds.length : Int)) = false := by simp; omega
     by_cases hz : parts[k] = 0
     ·have hz1 : (parts[k] != 0) = false := by simp [hz]
      have HZ := show Hid _ from hz
      clear hz
      go_wp2_with fail
      refine I2 (by kernel_rfl) (by kernel_rfl) ?_
      repeat (any_goals (first | go_big_quiet_step (fail) | quiet_step (fail)))
      refine wpQuiet_nil ?_
      rintro w' ⟨X, rfl⟩
      have hbX := hb.trans ((t4 wr X).mono hb.size)
      go_wp2_with fail
      exact ⟨⟨k + 1, by omega, by go_num, by rw [HS.out, HA.out, HG.out, HPO.out, HZ.out]; rfl, hbX⟩, by simp [intOf]; omega⟩
     ·have hz1 : (parts[k] != 0) = true := by simp [hz]
      have HZ := show Hid (¬ parts[k] = 0) from hz
      clear hz
      go_wp2_with fail
      refine I2 (by kernel_rfl) (by kernel_rfl) ?_
      repeat (any_goals (first | go_big_quiet_step (fail) | quiet_step (fail)))
      refine wpQuiet_nil ?_
      rintro w' ⟨X, rfl⟩
      have hbX := hb.trans ((t4 wr X).mono hb.size)
      go_wp2_with fail
      go_ret
      exact ⟨i9 (by rw [hR.out, aB3 4 hlt (by rw [HG.out, HPO.out, decide_eq_false HZ.out])]), B2.trans (hbX.mono B2.size)⟩
   ·go_wp2_with fail
    go_ret
    obtain rfl : k = 4 := by omega
    exact ⟨i9 (by rw [hR.out, HA.out]), B2.trans (hb.mono B2.size)⟩
 ·have hR : Hid (x8 c x = false) := by
   unfold Hid; rw [HT.out]
   rcases Classical.not_and_iff_not_or_not.1 hop with h | h
   ·rw [decide_eq_false h]; rfl
   ·rw [decide_eq_false h]; simp
  clear HT h1 h2 h3
  have hcase : x.op < 1 ∨ (¬ x.op < 1 ∧ 13 < x.op) := by omega
  clear hop
  rcases hcase with hop | ⟨hop, hop2⟩
  all_goals
   go_enter Tryz.func55, Tryz.ntmps55
   go_wp2_with fail
   go_ret
   exact ⟨i9 hR.out.symm, by go_grown⟩
theorem aA3 (v : Value) (c : b6) (w : World) (h : r8 w v c) :
  Calls Tryz.prog 28 #[v] w fun e w' => e = .returned (.bool (e6 c)) ∧ Below w.heap.size w w' := by
 have hrow := h
 obtain ⟨v1, v2, v3, rfl, h1, h2, h3⟩ := h
 have HT : Hid (e6 c = (F0 c.vars c.arrays && decide (1 ≤ c.list.length) && decide (c.list.length ≤ 400) && c.list.all (x8 c) && X3 c)) := rfl
 obtain ⟨W, hW⟩ : ∃ W, W = w.alloc (.cells #[v1, v2, v3] 26) := ⟨_, rfl⟩
 have B0 : Below w.heap.size w W := by rw [hW]; go_grown
 have L1 : v9 W w.heap.size [v1, v2, v3] := by rw [hW]; exact (v9.new w [v1, v2, v3] _)
 obtain ⟨a3, k3, rfl, hk3, hm3, -, hc3⟩ := h3.ins
 go_enter Tryz.func28, Tryz.ntmps28
 go_wp2_with fail
 rw [← hW]
 clear hW
 refine (aN8 _ _ _ _ _ _ _ _ (h1.below B0) (h2.below B0)).mono ?_
 rintro e w1 ⟨rfl, b1⟩
 replace L1 := L1.below b1 L1.lt
 have B1 := B0.trans (b1.mono B0.size)
 go_wp2_with fail
 refine (an7 _ _ _ c.vars c.arrays _ (h1.below B1) (h2.below B1)).mono ?_
 rintro e w2 ⟨rfl, b2⟩
 replace L1 := L1.below b2 L1.lt
 have B2 := B1.trans (b2.mono B1.size)
 cases hh : F0 c.vars c.arrays
 ·have HH := show Hid _ from hh
  clear hh hc3
  go_wp2_with fail
  go_ret
  exact ⟨i9 (by rw [HT.out, HH.out]; rfl), B2⟩
 ·have HH := show Hid _ from hh
  clear hh
  by_cases hn : 1 ≤ c.list.length ∧ c.list.length ≤ 400
  ·obtain ⟨hn1, hn2⟩ := hn
   have x0 := L1.cell 0
   have x1 := L1.cell 1
   have x2 := L1.cell 2
   simp at x0 x1 x2
   go_wp2_with fail
   go_loopw [4] (fun i wr => ∃ k : Nat, k ≤ c.list.length ∧ i = .int .i64 k ∧ (c.list.take k).all (x8 c) = true ∧ Below w2.heap.size w2 wr) (fun i _ => c.list.length - (intOf i).toNat)
   case atStart => exact ⟨0, by omega, rfl, rfl, Below.refl _ _⟩
   case round =>
    obtain ⟨k, hk, rfl, ha, hb⟩ := hrel
    have HA := show Hid _ from ha
    clear ha x0 x1 x2
    replace L1 := L1.below hb L1.lt
    have BW := B2.trans (hb.mono B2.size)
    by_cases hlt : k < c.list.length
    ·obtain ⟨b, off, rfl, hb3, i0, i1, i2, i3, i4⟩ := hc3 k hlt
     rw [← (D8 BW).1 _ _ hb3] at i0 i1 i2 i3 i4
     have x0 := L1.cell 0
     have x1 := L1.cell 1
     have x2 := L1.cell 2
     simp only [cb4, cb5] at x0 x1 x2
     have z0 := fun X => i5 x0 X
     have z1 := fun X => i5 x1 X
     have z2 := fun X => i5 x2 X
     have j0 := fun X => i5 i0 X
     have j1 := fun X => i5 i1 X
     have j2 := fun X => i5 i2 X
     have j3 := fun X => i5 i3 X
     have j4 := fun X => i5 i4 X
     have HS := show Hid _ from R8 (x8 c) c.list k hlt
     clear x0 x1 x2 i0 i1 i2 i3 i4 hc3
     cases hi : x8 c c.list[k]
     all_goals
      have HI := show Hid _ from hi
      clear hi
      have HC : Hid (∀ X, Calls Tryz.prog 55 #[.agg #[v1, v2, .slice (some ⟨b, off, none⟩) c.list.length k3], c.list[k].v] (wr.ext X) fun e w'' => e = .returned (.bool _) ∧ ∃ Y, w'' = wr.ext Y) :=
       fun X => Calls.ext_of' ((aN7 _ c c.list[k] _ ((hrow.below BW).below (t4 _ X))).mono fun e w' h => by rw [HI.out] at h; exact h)
      go_wp2_with fail
      refine I2 (by kernel_rfl) (by kernel_rfl) ?_
      repeat (any_goals (first | go_big_quiet_step ((go_at_call 55; exact HC.out _)) | quiet_step ((go_at_call 55; exact HC.out _))))
      refine wpQuiet_nil ?_
      rintro _ ⟨X, rfl⟩
      have hbX := hb.trans ((t4 wr X).mono hb.size)
      go_wp2_with fail
     ·go_ret
      exact ⟨i9 (by rw [HT.out, ap0 hlt HI.out]; simp), B2.trans (hbX.mono B2.size)⟩
     ·exact ⟨⟨k + 1, by omega, by go_num, by rw [HS.out, HA.out, HI.out]; rfl, hbX⟩, by simp [intOf]; omega⟩
    ·have hl : c.list.length - 1 < c.list.length := by omega
     obtain ⟨b, off, rfl, hb3, i0, i1, i2, i3, i4⟩ := hc3 _ hl
     rw [← (D8 BW).1 _ _ hb3] at i0
     have x2 := L1.cell 2
     simp only [cb4, cb5] at x2
     have ec : ((c.list.length : Int) - 1) = ((c.list.length - 1 : Nat) : Int) := by omega
     have EC := show Hid _ from ec
     have HL : Hid (X3 c = (decide (c.list[c.list.length - 1].op = 13) || decide (c.list[c.list.length - 1].op = 8))) := by
      unfold Hid X3
      rw [List.getLast?_eq_getElem?, ca8 hl]
     clear hc3 ec i1 i2 i3 i4
     have HA' := show Hid (c.list.all (x8 c) = true) from by have := HA.out; rwa [cc6 (by omega)] at this
     have hF : Hid (e6 c = (decide (c.list[c.list.length - 1].op = 13) || decide (c.list[c.list.length - 1].op = 8))) := by
      unfold Hid; rw [HT.out, HH.out, HA'.out, HL.out, decide_eq_true hn1, decide_eq_true hn2]; rfl
     go_wp2_with fail
     all_goals go_ret
     all_goals exact ⟨i9 (by rw [hF.out, ce0]; simp_all), BW⟩
  ·have hF : Hid (e6 c = false) := by
    unfold Hid; rw [HT.out]
    rcases Classical.not_and_iff_not_or_not.1 hn with h | h
    ·rw [decide_eq_false h]; simp
    ·rw [decide_eq_false h]; simp
   have hcase : c.list.length < 1 ∨ (¬ c.list.length < 1 ∧ 400 < c.list.length) := by omega
   clear hn hc3 HT
   rcases hcase with hn | ⟨hn, hn2⟩
   all_goals
    go_wp2_with fail
    go_ret
    exact ⟨i9 hF.out.symm, B2⟩
theorem aV5 (v : Value) (c : b6) (i : Nat) (w : World) (h : r8 w v c) (hi : i < c.list.length) :
  Calls Tryz.prog 89 #[v, .int .i64 i] w fun e w' => ∃ u, e = .returned u ∧ y7 w' w.heap.size w'.heap.size 3 1 u (H6 c.list[i] i).length (ints (H6 c.list[i] i)) ∧ Below w.heap.size w w' := by
 obtain ⟨v1, v2, v3, rfl, h1, h2, h3⟩ := h
 obtain ⟨a3, k3, rfl, hk3, hm3, -, hc3⟩ := h3.ins
 obtain ⟨W, hW⟩ : ∃ W, W = w.alloc (.cells #[v1, v2, .slice a3 c.list.length k3] 26) := ⟨_, rfl⟩
 have B0 : Below w.heap.size w W := by rw [hW]; go_grown
 have s0 := B0.size
 have L1 : v9 W w.heap.size [v1, v2, .slice a3 c.list.length k3] := by rw [hW]; exact (v9.new w [v1, v2, .slice a3 c.list.length k3] _)
 obtain ⟨b, off, rfl, hb3, i0, i1, i2, i3, i4⟩ := hc3 i hi
 rw [← (D8 B0).1 _ _ hb3] at i0 i1 i2 i3 i4
 have x2 := L1.cell 2
 simp at x2
 generalize c.list[i] = x at *
 rw [hW] at x2 i0 i1 i2 i3 i4
 clear hc3 h3 h1 h2
 by_cases h13 : x.op = 13
 ·have q13 : (x.op == 13) = true := by simp [h13]
  have HN := show Hid (H6 x i = []) from by simp [Hid, H6, h13]
  clear h13
  go_enter Tryz.func89, Tryz.ntmps89
  go_wp2_with fail
  go_ret
  rw [HN.out]
  exact ⟨_, rfl, (t0 _ #[] 0 1 _ (by simp) rfl (by omega)).wide (by simp; omega) (by simp), by go_grown⟩
 ·have q13 : (x.op == 13) = false := by simp [h13]
  by_cases h8 : x.op = 8
  ·have q8 : (x.op == 8) = true := by simp [h8]
   have HN := show Hid (H6 x i = [x.a]) from by simp [Hid, H6, h8]
   clear h13 h8
   go_enter Tryz.func89, Tryz.ntmps89
   go_wp2_with fail
   go_ret
   rw [HN.out]
   exact ⟨_, rfl, (t0 _ #[_] 1 1 _ (by simp) rfl (by omega)).wide (by simp; omega) (by simp), by go_grown⟩
  ·have q8 : (x.op == 8) = false := by simp [h8]
   by_cases h9 : x.op = 9 ∨ x.op = 10
   ·have HN := show Hid (H6 x i = [(i : Int) + 1, x.b]) from by simp [Hid, H6, h13, h8, h9]
    have h9' : (x.op == 9) = true ∨ ((x.op == 9) = false ∧ (x.op == 10) = true) := by
     rcases h9 with h9 | h9
     ·left; simp [h9]
     ·right; simp [h9]
    clear h13 h8 h9
    rcases h9' with q9 | ⟨q9, q10⟩
    all_goals
     go_enter Tryz.func89, Tryz.ntmps89
     go_wp2_with fail
     go_ret
     rw [HN.out]
     exact ⟨_, rfl, ((t0 _ #[.int .i64 ((i : Int) + 1), .int .i64 x.b] 2 1 _ (by simp) rfl (by omega))).wide (by simp; omega) (by simp), by go_grown⟩
   ·have q9 : (x.op == 9) = false := by simp; omega
    have q10 : (x.op == 10) = false := by simp; omega
    have HN := show Hid (H6 x i = [(i : Int) + 1]) from by simp [Hid, H6, h13, h8, h9]
    clear h13 h8 h9
    go_enter Tryz.func89, Tryz.ntmps89
    go_wp2_with fail
    go_ret
    rw [HN.out]
    exact ⟨_, rfl, (t0 _ #[_] 1 1 _ (by simp) rfl (by omega)).wide (by simp; omega) (by simp), by go_grown⟩
theorem bk2 (v : Value) (c : b6) (t : Int) (w : World) (h : r8 w v c) (h0 : 0 ≤ t) (h1 : t < c.list.length) :
  Calls Tryz.prog 89 #[v, .int .i64 t] w fun e w' => ∃ u, e = .returned u ∧ y7 w' w.heap.size w'.heap.size 3 1 u (nx c t).length (ints (nx c t)) ∧ Below w.heap.size w w' := by
 obtain ⟨i, rfl⟩ : ∃ i : Nat, t = i := ⟨t.toNat, by omega⟩
 have hi : i < c.list.length := by omega
 have e : nx c i = H6 c.list[i] i := aY3 (t := (i : Int)) hi
 rw [e]
 exact aV5 v c i w h hi
theorem Z6 (x : d8) (w : World) :
  Calls Tryz.prog 52 #[x.v] w fun e w' => e = .returned (.int .i64 (i6 x)) ∧ Below w.heap.size w w' := by
 obtain ⟨x0, x1, x2, x3, x4⟩ := x
 by_cases h8 : x0 = 8
 ·have HN := show Hid (i6 ⟨x0, x1, x2, x3, x4⟩ = x1) from by simp [Hid, i6, h8]
  have q8 : (x0 == 8) = true := by simp [h8]
  clear h8
  go_enter Tryz.func52, Tryz.ntmps52
  go_wp2_with fail
  go_ret
  exact ⟨F6 HN.out.symm, by go_grown⟩
 ·have q8 : (x0 == 8) = false := by simp [h8]
  by_cases h9 : x0 = 9 ∨ x0 = 10
  ·have HN := show Hid (i6 ⟨x0, x1, x2, x3, x4⟩ = x2) from by simp [Hid, i6, h8, h9]
   have h9' : (x0 == 9) = true ∨ ((x0 == 9) = false ∧ (x0 == 10) = true) := by
    rcases h9 with h9 | h9
    ·left; simp [h9]
    ·right; simp [h9]
   clear h8 h9
   rcases h9' with q9 | ⟨q9, q10⟩
   all_goals
    go_enter Tryz.func52, Tryz.ntmps52
    go_wp2_with fail
    go_ret
    exact ⟨F6 HN.out.symm, by go_grown⟩
  ·have HN := show Hid (i6 ⟨x0, x1, x2, x3, x4⟩ = -1) from by simp [Hid, i6, h8, h9]
   have q9 : (x0 == 9) = false := by simp; omega
   have q10 : (x0 == 10) = false := by simp; omega
   clear h8 h9
   go_enter Tryz.func52, Tryz.ntmps52
   go_wp2_with fail
   go_ret
   exact ⟨F6 HN.out.symm, by go_grown⟩
theorem aw4 (v : Value) (c : b6) (i : Nat) (w : World) (h : r8 w v c) (hi : i < c.list.length) :
    Calls Tryz.prog 70 #[v, .int .i64 i] w fun e w' => ∃ u, e = .returned u ∧ y7 w' w.heap.size w'.heap.size 3 1 u (ab5 c.list[i] i).length (ints (ab5 c.list[i] i)) ∧ Below w.heap.size w w' := by
  obtain ⟨v1, v2, v3, rfl, h1, h2, h3⟩ := h
  obtain ⟨a3, k3, rfl, hk3, hm3, -, hc3⟩ := h3.ins
  obtain ⟨W, hW⟩ : ∃ W, W = (w.alloc (.cells #[v1, v2, .slice a3 c.list.length k3] 26)) := ⟨_, rfl⟩
  have B0 : Below w.heap.size w W := by rw [hW]; go_grown
  have L1 : v9 W w.heap.size [v1, v2, .slice a3 c.list.length k3] := by rw [hW]; exact (v9.new w [v1, v2, .slice a3 c.list.length k3] _)
  have sW : W.heap.size = w.heap.size + 1 := by rw [hW]; simp
  obtain ⟨b, off, rfl, hb3, i0, i1, i2, i3, i4⟩ := hc3 i hi
  rw [← (D8 B0).1 _ _ hb3] at i0 i1 i2 i3 i4
  have x2 := L1.cell 2
  simp at x2
  generalize c.list[i] = x at *
  clear hc3 h3 h1 h2
  go_enter Tryz.func70, Tryz.ntmps70
  rw [hW] at x2 i0 i1 i2 i3 i4
  go_wp2_with fail
  rw [← hW]
  clear x2 i0 i1 i2 i3 i4 hW
  have s0 := B0.size
  have L2 := v9.new W [.int .i64 x.op, .int .i64 x.a, .int .i64 x.b, .int .i64 x.c, .int .i64 x.d] 60
  have B1 : Below w.heap.size w (W.alloc (.cells #[.int .i64 x.op, .int .i64 x.a, .int .i64 x.b, .int .i64 x.c, .int .i64 x.d] 60)) := B0.trans (Below.mono (by go_grown : Below W.heap.size W _) s0)
  generalize W.alloc (.cells #[.int .i64 x.op, .int .i64 x.a, .int .i64 x.b, .int .i64 x.c, .int .i64 x.d] 60) = W1 at *
  rw [sW] at L2
  clear B0 s0 sW
  have s1 := B1.size
  refine (Z6 x _).mono ?_
  rintro e w1 ⟨rfl, b1⟩
  replace L2 := L2.below b1 L2.lt
  have B2 := B1.trans (b1.mono s1)
  have s2 := B2.size
  have HN : Hid (ab5 x i = (if 0 ≤ i6 x then [i6 x] else []) ++ (if x.op ≠ 8 ∧ x.op ≠ 13 then [(i : Int) + 1] else [])) := rfl
  generalize i6 x = tg at *
  have c0 := L2.cell 0
  simp only [cb4] at c0
  by_cases ht : 0 ≤ tg
  · have HT := show Hid _ from ht
    go_wp2_with (first | (at_builtin; refine A5 rfl _ _ rfl Tryz.underlying23 ab9 rfl (by omega) rfl (World.ownsRow_nil _ w1.heap.size _ _) rfl (af9 w1 (.int .i64 tg) _ rfl) (fun u hu => by simp at hu; subst hu; rfl) (by omega) (by omega) (by simp) ?_; rintro a1 q1 w2 o2 b2 - -; have b2' := ((Below.refl w1.heap.size w1).alloc (cb1 _) _).trans b2; replace L2 := L2.below b2' L2.lt; have B3 := B2.trans (b2'.mono s2); have s3 := b2'.size; have d0 := L2.cell 0; simp only [cb4] at d0; clear b2) | (at_builtin; refine A5 rfl _ _ rfl Tryz.underlying23 ab9 rfl (by omega) rfl (o2.alloc _) rfl (af9 w2 (.int .i64 ((i : Int) + 1)) _ rfl) (fun u hu => by simp at hu; subst hu; rfl) (by omega) (by omega) (by simp; omega) ?_; rintro a2 q2 w3 o3 b3 - -; have b3' := ((Below.refl w1.heap.size w2).alloc s3 _).trans b3; have B4 := B3.trans (Below.mono (b3' : Below w1.heap.size w2 w3) s2)))
    all_goals go_ret
    all_goals simp only [bne_iff_ne, ne_eq, bne_eq_false_iff_eq] at *
    all_goals first
      | (have e : ab5 x i = [tg, (i : Int) + 1] := by
           rw [HN.out, if_pos HT.out]; clear HN HT; simp; omega
         rw [e]; exact ⟨_, rfl, y7.mk' (v8 o3 s2), B4⟩)
      | (have e : ab5 x i = [tg] := by
           rw [HN.out, if_pos HT.out]; clear HN HT; simp; omega
         rw [e]; exact ⟨_, rfl, y7.mk' (v8 o2 s2), B3⟩)
  · have HT := show Hid (¬ 0 ≤ tg) from ht
    go_wp2_with ((at_builtin; refine A5 rfl _ _ rfl Tryz.underlying23 ab9 rfl (by omega) rfl (World.ownsRow_nil _ w1.heap.size _ _) rfl (af9 w1 (.int .i64 ((i : Int) + 1)) _ rfl) (fun u hu => by simp at hu; subst hu; rfl) (by omega) (by omega) (by simp) ?_; rintro a1 q1 w2 o2 b2 - -; have b2' := ((Below.refl w1.heap.size w1).alloc (cb1 _) _).trans b2; have B3 := B2.trans (b2'.mono s2)))
    all_goals go_ret
    all_goals simp only [bne_iff_ne, ne_eq, bne_eq_false_iff_eq] at *
    all_goals first
      | (have e : ab5 x i = [(i : Int) + 1] := by
           rw [HN.out, if_neg (by have := HT.out; omega)]; clear HN HT; simp; omega
         rw [e]; exact ⟨_, rfl, y7.mk' (v8 o2 s2), B3⟩)
      | (have e : ab5 x i = [] := by
           rw [HN.out, if_neg (by have := HT.out; omega)]; clear HN HT; simp; omega
         rw [e]; exact ⟨_, rfl, ⟨World.ownsRow_nil _ _ _ _, fun g hg => by cases hg⟩, B2⟩)
theorem a02 (v : Value) (c : b6) (i : Nat) (w : World) (h : r8 w v c) (hi : i < c.list.length) :
  Calls Tryz.prog 70 #[v, .int .i64 i] w fun e w' => ∃ u, e = .returned u ∧ D3 w' u (ab5 c.list[i] i).length 1 (ints (ab5 c.list[i] i)) ∧ Below w.heap.size w w' :=
 (aw4 v c i w h hi).mono fun _ _ ⟨u, h1, h2, h3⟩ => ⟨u, h1, h2.row, h3⟩
theorem aQ7 (v : Value) (c : b6) (hc : e6 c = true) (t : Int) (w : World) (h : r8 w v c) (h0 : 0 ≤ t) (h1 : t < c.list.length) :
  Calls Tryz.prog 70 #[v, .int .i64 t] w fun e w' => ∃ u ns, e = .returned u ∧ ns.length ≤ 2 ∧ (∀ x, x ∈ ns ↔ x ∈ nx c t) ∧ D3 w' u ns.length 1 (ints ns) ∧ Below w.heap.size w w' := by
 obtain ⟨i, rfl⟩ : ∃ i : Nat, t = i := ⟨t.toNat, by omega⟩
 have hi : i < c.list.length := by omega
 have e : nx c i = H6 c.list[i] i := aY3 (t := (i : Int)) hi
 rw [e]
 refine (a02 v c i w h hi).mono fun e w' ⟨u, h1, h2, h3⟩ => ⟨u, _, h1, bl4 _ _, fun x => bl3 ((i8 hc).2.2.2.1 i hi) _ _, h2, h3⟩
abbrev bools (l : List Bool) : List Value := l.map Value.bool
theorem V4 (l : List Bool) (k : Nat) (h : k < l.length) : (bools l)[k]? = some (.bool l[k]) := by simp [bools, h]
theorem bM4 : (Tryz.prog.info? 4).map (fun i => (i.zero, i.size, i.bytes)) = some (some (.bool false), 1, 1) := by kernel_rfl
theorem aN3 (v : Value) (c : b6) (hc : e6 c = true) (w : World) (h : r8 w v c) :
  Calls Tryz.prog 69 #[v] w fun e w' => ∃ u, e = .returned u ∧ y7 w' w.heap.size w'.heap.size 4 1 u c.list.length (bools (E4 c)) ∧ Below w.heap.size w w' := by
 have hrow := h
 obtain ⟨v1, v2, v3, rfl, h1, h2, h3⟩ := h
 obtain ⟨a3, k3, rfl, -, hm3, -, -⟩ := h3.open
 obtain ⟨W, hW⟩ : ∃ W, W = (w.alloc (.cells #[v1, v2, .slice a3 c.list.length k3] 26)) := ⟨_, rfl⟩
 have B0 : Below w.heap.size w W := by rw [hW]; go_grown
 have sW : W.heap.size = w.heap.size + 1 := by rw [hW]; simp
 have L1 : v9 W w.heap.size [v1, v2, .slice a3 c.list.length k3] := by rw [hW]; exact (v9.new w [v1, v2, .slice a3 c.list.length k3] _)
 obtain ⟨-, hn1, hn2, -, -⟩ := i8 hc
 have hmk := ap3 (P := Tryz.prog) (t := 43) Tryz.underlying43 bM4 rfl (by omega) c.list.length (by omega) hm3
 have hown := ao6 W (Value.bool false).cells.toList c.list.length 1 4 rfl hm3
 rw [show (Value.bool false).cells.toList = [Value.bool false] from rfl, G5, sW] at hown
 have hown0 : y7 (W.alloc (.cells (ca7 c.list.length (Value.bool false)).toArray 4)) (w.heap.size + 1) (w.heap.size + 1 + 1) 4 1 (.slice (some ⟨w.heap.size + 1, 0, none⟩) c.list.length c.list.length) c.list.length (bools (ca7 c.list.length false)) := by
  rw [bools, List.map_replicate]; exact hown
 have x2 := L1.cell 2
 simp at x2
 rw [show (Value.bool false).cells.toList = [Value.bool false] from rfl, G5] at hmk
 have eR : (ca7 c.list.length (Value.bool false)).toArray = cd9 c.list.length (Value.bool false) := by simp
 rw [eR] at hmk hown0
 clear hown eR
 obtain ⟨g0, cap0, hv0, -, -, -, f0, u0, p0⟩ := hown0.at (j := 0) (by simp [bools]; omega)
 cases hv0
 rw [hW] at x2 f0 p0
 go_enter Tryz.func69, Tryz.ntmps69
 go_wp2_with fail
 rw [← hW]
 clear x2 hmk hW f0 p0
 have hown1 := t0 W (g := w.heap.size + 1) ((cd9 c.list.length (Value.bool false)).setIfInBounds 0 (.bool true)) c.list.length 1 4 sW.symm (by simp) hm3
 rw [sW, show ((cd9 c.list.length (Value.bool false)).setIfInBounds 0 (.bool true)).toList = bools ((ca7 c.list.length false).set 0 true) by simp [bools]] at hown1
 have B2 : Below w.heap.size w (W.alloc (.cells ((cd9 c.list.length (Value.bool false)).setIfInBounds 0 (.bool true)) 4)) := B0.trans (Below.mono (by go_grown : Below W.heap.size W _) B0.size)
 have s2 : (W.alloc (.cells ((cd9 c.list.length (Value.bool false)).setIfInBounds 0 (.bool true)) 4)).heap.size = w.heap.size + 1 + 1 := by simp [sW]
 replace L1 := L1.alloc (.cells ((cd9 c.list.length (Value.bool false)).setIfInBounds 0 (.bool true)) 4)
 generalize W.alloc (.cells ((cd9 c.list.length (Value.bool false)).setIfInBounds 0 (.bool true)) 4) = W2 at *
 have hq := t0 W2 #[.int .i64 0] 1 1 3 s2.symm rfl (by omega)
 rw [s2] at hq
 have B3 := B2.trans (Below.mono (by go_grown : Below W2.heap.size W2 (W2.alloc (.cells #[.int .i64 0] 3))) B2.size)
 replace hown1 := hown1.keep (by go_grown : Below W2.heap.size W2 (W2.alloc (.cells #[.int .i64 0] 3))) (by omega)
 replace L1 := L1.alloc (.cells #[.int .i64 0] 3)
 generalize W2.alloc (.cells #[.int .i64 0] 3) = W3 at *
 clear B0 B2 s2 sW hown0
 go_loopw [4, 5] (fun q i wr => ∃ (qs : List Int) (bs : List Bool) (k : Nat) (a : Option Addr) (cq : Nat), i = .int .i64 k ∧ q = .slice a qs.length cq ∧ k ≤ qs.length ∧ wr.ownsRow (w.heap.size + 1 + 1) 3 1 q qs.length (ints qs) ∧
  y7 wr (w.heap.size + 1) (w.heap.size + 1 + 1) 4 1 (.slice (some ⟨w.heap.size + 1, 0, none⟩) c.list.length c.list.length) c.list.length (bools bs) ∧ aS5 c qs bs ∧ ad7 c qs bs k ∧
  v9 wr w.heap.size [v1, v2, .slice a3 c.list.length k3] ∧ Below w.heap.size w wr)
  (fun _ i _ => c.list.length - (intOf i).toNat)
 case atStart => exact ⟨[0], _, 0, _, _, rfl, rfl, by simp, hq.1, hown1, aS5.start hc, fun m u hm => absurd hm (by omega), L1, B3⟩
 case round =>
  obtain ⟨qs, bs, k, a, cq, rfl, rfl, hk, hq, ho, hi, hcl, hL, hb⟩ := hrel
  have hqn : qs.length ≤ c.list.length := by have := hi.cnt; omega
  have HI := show Hid _ from hi
  have HC := show Hid _ from hcl
  clear hi hcl hown1 B3 L1
  by_cases hlt : k < qs.length
  ·have hir := HI.out.q qs[k] (cd1 hlt)
   obtain ⟨gq, hgq, p0⟩ : ∃ gq, a = some ⟨gq, 0, none⟩ ∧ wr.cell? ⟨gq, k, none⟩ = some (.int .i64 qs[k]) := by
    have hoq : y7 wr (w.heap.size + 1 + 1) wr.heap.size 3 1 (.slice a qs.length cq) qs.length (ints qs) := y7.mk' hq
    obtain ⟨g, cap', hv, -, -, -, -, -, -, hcc⟩ := hoq.open (by omega)
    cases hv
    exact ⟨g, rfl, hcc k _ (by simp [ints, hlt])⟩
   subst hgq
   have hgqb : gq < wr.heap.size := World.block_lt_of_cell? wr ⟨gq, k, none⟩ p0
   obtain ⟨ht0, ht1, htr⟩ := hir
   have HTR := show Hid _ from htr
   have hgt : qs[k]? = some qs[k] := ca8 hlt
   have HGT := show Hid _ from hgt
   clear htr hgt
   generalize qs[k] = t at *
   have hS : ∀ W', Below wr.heap.size wr W' → Below wr.heap.size wr W' ∧ (W'.cell? ⟨w.heap.size, 0, none⟩ = some v1 ∧ W'.cell? ⟨w.heap.size, 1, none⟩ = some v2 ∧ W'.cell? ⟨w.heap.size, 2, none⟩ = some (.slice a3 c.list.length k3)) ∧ W'.cell? ⟨gq, k, none⟩ = some (.int .i64 t) :=
    fun W' hb' => ⟨hb', bS8 hL W' hb', by rw [(D8 hb').1 _ _ hgqb]; exact p0⟩
   have HS := show Hid _ from hS
   have hb0 := (Below.refl wr.heap.size wr).drew
   clear hS
   go_wp2_with fail
   go_region_held3 (fun W' => Below wr.heap.size wr W' ∧ (W'.cell? ⟨w.heap.size, 0, none⟩ = some v1 ∧ W'.cell? ⟨w.heap.size, 1, none⟩ = some v2 ∧ W'.cell? ⟨w.heap.size, 2, none⟩ = some (.slice a3 c.list.length k3)) ∧ W'.cell? ⟨gq, k, none⟩ = some (.int .i64 t))
    (exact HS.out _ (by assumption))
    (first | (go_at_call 89; refine (bk2 _ c t _ (hrow.below (am0 (by assumption) hb (cb1 _))) ht0 ht1).mono ?_; rintro e w7 ⟨u3, rfl, o3, b7⟩; have q7 := am0 b7 hb0 (cb1 _); obtain ⟨a9, c9, rfl⟩ := o3.form))
   all_goals go_wp2_with fail
   have hb7 := hb.trans (q7.mono hb.size)
   have hq7 := H1 hq q7 (cb1 _)
   have hsz : w.heap.size + 1 + 1 ≤ wr.heap.size := (ho.lt _ rfl).2.2
   have ho7 := ho.keep q7 hsz
   have hL7 := hL.below q7 hL.lt
   have s7 := q7.size
   have o7 : y7 w7 (w.heap.size + 1 + 1) w7.heap.size 3 1 (.slice a9 (nx c t).length c9) (nx c t).length (ints (nx c t)) := o3.wide hsz (cb1 _)
   have hd7 : N9 (Value.slice (some ⟨gq, 0, none⟩) qs.length cq) (Value.slice a9 (nx c t).length c9) := by
    intro g hg hg'
    cases hg
    have h1 := (o3.lt _ hg').1
    exact absurd hgqb (Nat.not_lt.2 h1)
   have hnx : ∀ x ∈ nx c t, 0 ≤ x ∧ x < c.list.length := fun x hx => aB7 hc ht0 hx
   have HNX := show Hid _ from hnx
   clear o3 b7 hb0 HS hL hq ho p0 hnx hb
   generalize hns : nx c t = ns at *
   have HNS := show Hid _ from hns
   clear hns
   go_loopw [4, 7] (fun q i wi => ∃ (qs' : List Int) (bs' : List Bool) (j : Nat) (a : Option Addr) (cq : Nat), i = .int .i64 j ∧ q = .slice a qs'.length cq ∧ j ≤ ns.length ∧ wi.ownsRow (w.heap.size + 1 + 1) 3 1 q qs'.length (ints qs') ∧
    y7 wi (w.heap.size + 1) (w.heap.size + 1 + 1) 4 1 (.slice (some ⟨w.heap.size + 1, 0, none⟩) c.list.length c.list.length) c.list.length (bools bs') ∧ aS5 c qs' bs' ∧ ad7 c qs' bs' k ∧ (k < qs'.length ∧ qs'[k]? = some t) ∧ (∀ x ∈ ns.take j, bs'[x.toNat]? = some true) ∧
    y7 wi (w.heap.size + 1 + 1) w7.heap.size 3 1 (.slice a9 ns.length c9) ns.length (ints ns) ∧ N9 q (.slice a9 ns.length c9) ∧
    v9 wi w.heap.size [v1, v2, .slice a3 c.list.length k3] ∧ Below w.heap.size w wi)
    (fun _ i _ => ns.length - (intOf i).toNat)
   case atStart => exact ⟨qs, bs, 0, _, _, rfl, rfl, by omega, hq7, ho7, HI.out, HC.out, ⟨hlt, HGT.out⟩, by simp, o7, hd7, hL7, hb7⟩
   case round =>
    obtain ⟨qs', bs', j, a', cq', rfl, rfl, hj, hq, ho, hi, hcl, ⟨hkq, hgk⟩, hms, hu, hd, hL, hb⟩ := hrel
    have hqn' : qs'.length ≤ c.list.length := by have := hi.cnt; omega
    have HI' := show Hid _ from hi
    have HC' := show Hid (ad7 c qs' bs' k) from hcl
    have HG' := show Hid _ from hgk
    have HM' := show Hid _ from hms
    have hD := show Hid _ from hd
    clear hi hcl hgk hms hq7 ho7 o7 hd7 hL7 hb7 HI HC HGT hd
    by_cases hjl : j < ns.length
    ·have hxr := HNX.out ns[j] (cd1 hjl)
     have HX := show Hid (ns.take (j + 1) = ns.take j ++ [ns[j]]) from s4 _ _ hjl
     have hxm : ns[j] ∈ nx c t := by rw [HNS.out]; exact cd1 hjl
     have HXM := show Hid _ from hxm
     clear hxm
     obtain ⟨gu, hgu, pu⟩ : ∃ gu, a9 = some ⟨gu, 0, none⟩ ∧ wr.cell? ⟨gu, j, none⟩ = some (.int .i64 ns[j]) := by
      obtain ⟨g, cap', hv, -, -, -, -, -, -, hcc⟩ := hu.open (by omega)
      cases hv
      exact ⟨g, rfl, hcc j _ (by simp [ints, hjl])⟩
     subst hgu
     generalize ns[j] = x at *
     obtain ⟨m, rfl⟩ : ∃ m : Nat, x = m := ⟨x.toNat, by omega⟩
     have hmn : m < c.list.length := by omega
     have hmb : m < bs'.length := by rw [HI'.out.len]; exact hmn
     obtain ⟨g, cap, hv, hg1, hg2, hg3, hf, u0, hcb⟩ := ho.at (j := m) (by simpa [bools] using hmb)
     cases hv
     have p1 : wr.cell? ⟨w.heap.size + 1, m, none⟩ = some (.bool bs'[m]) := by
      obtain ⟨g, cap', hv, -, -, -, -, -, -, hcc⟩ := ho.open (by omega)
      cases hv
      exact hcc m _ (by simp [bools, hmb])
     have hgu1 : w.heap.size + 1 + 1 ≤ gu := (hu.lt _ rfl).1
     have hgu2 : gu < wr.heap.size := (hu.lt _ rfl).2.2
     have hnl := hu.row.len
     have hux := hu.other (b := w.heap.size + 1) (by omega) m (.bool true)
     have py : (wr.setCell ⟨w.heap.size + 1, m, none⟩ (.bool true)).cell? ⟨gu, j, none⟩ = some (.int .i64 m) := by
      rw [World.cell?_setCell_other _ _ _ _ (by intro h; cases h; omega)]
      exact pu
     have hqx := ((y7.mk' hq).other (b := w.heap.size + 1) (by omega) m (.bool true)).1
     have hbq : bs'[m]? = some bs'[m] := by rw [ca8 hmb]
     clear u0 hcb hxr
     have s1 : w.heap.size + 1 + 1 ≤ wr.heap.size := hg3
     cases hbm : bs'[m]
     all_goals
      rw [hbm] at p1 hbq
      have HB := show Hid _ from hbq
      clear hbm hbq
     ·go_wp2_with (at_builtin; refine A5 rfl _ _ rfl Tryz.underlying23 ab9 rfl (by omega) rfl (hqx.alloc _) rfl (af9 _ (.int .i64 m) _ (by simp)) (fun u hu => by simp at hu; subst hu; rfl) (by omega) (by omega) (by simp; omega) ?_; rintro a4 q4 w4 o4 b4 g4 h4)
      have hx1 : wr.heap.size ≤ (wr.setCell ⟨w.heap.size + 1, m, none⟩ (.bool true)).heap.size := by simp
      have hbx : Below w.heap.size w (wr.setCell ⟨w.heap.size + 1, m, none⟩ (.bool true)) := hb.setCell (p := ⟨w.heap.size + 1, m, none⟩) (by show w.heap.size ≤ w.heap.size + 1; omega) _
      have hox := ho.setCell (j := m) (by simpa [bools] using hmb) (.bool true)
      rw [show (bools bs').set m (.bool true) = bools (bs'.set m true) by simp [bools]] at hox
      have hLx := hL.other (p := ⟨w.heap.size + 1, m, none⟩) (by show w.heap.size ≠ w.heap.size + 1; omega) (.bool true)
      clear py hL ho hu hq p1 pu hf hg1 hg2 hg3
      generalize wr.setCell ⟨w.heap.size + 1, m, none⟩ (.bool true) = W4 at *
      have ba := (Below.refl W4.heap.size W4).alloc (cb1 _) (.cells #[.int .i64 m] 3)
      have b5 : Below (w.heap.size + 1 + 1) W4 w4 := (ba.mono (by omega)).trans b4
      have hpush := HI'.out.push (t := (m : Int)) (by omega) (by omega) (.step HTR.out HXM.out) (by rw [ce4]; exact HB.out)
      rw [ce4] at hpush
      refine ⟨⟨qs' ++ [(m : Int)], bs'.set m true, j + 1, a4, q4, by go_num, by simp, by omega, by simpa [ints] using o4, hox.keep b5 (by omega), hpush, HC'.out.push (by omega) _ _, ⟨by simp; omega, by rw [cd5 hkq]; exact HG'.out⟩, ?_, ?_, ?_, hLx.below b5 (by omega), hbx.trans (b5.mono (by omega))⟩, by simp [intOf]; omega⟩
      ·intro x hx
       rw [HX.out] at hx
       rcases cc4.1 hx with hx | hx
       ·exact af6 (HM'.out x hx)
       ·simp at hx; subst hx; rw [ce4]; exact Z0 hmb
      ·exact y7.grown ⟨hux.1.alloc _, hux.2⟩ g4 fun g h1 h2 => hD.out g h2 h1
      ·intro g h1 h2
       rcases h4 g h1 with h1 | h1
       ·exact hD.out g h1 h2
       ·cases h2; simp at h1; omega
     ·go_wp2_with fail
      refine ⟨⟨qs', bs', j + 1, a', cq', by go_num, rfl, by omega, hq, ho, HI'.out, HC'.out, ⟨hkq, HG'.out⟩, ?_, hu, hD.out, hL, hb⟩, by simp [intOf]; omega⟩
      intro x hx
      rw [HX.out] at hx
      rcases cc4.1 hx with hx | hx
      ·exact HM'.out x hx
      ·simp at hx; subst hx; rw [ce4]; exact HB.out
    ·have hjn : j = ns.length := by omega
     subst hjn
     go_wp2_with fail
     refine ⟨⟨qs', bs', k + 1, a', cq', by go_num, rfl, by omega, hq, ho, HI'.out, ?_, hL, hb⟩, by simp [intOf]; omega⟩
     intro m u hm hu' y hy
     rcases cc9 m k with h1 | h1
     ·exact HC'.out m u h1 hu' y hy
     ·obtain rfl : m = k := by omega
      rw [HG'.out] at hu'
      cases hu'
      rw [HNS.out] at hy
      exact HM'.out y (by rw [List.take_length]; exact hy)
  ·have hkn : k = qs.length := by omega
   subst hkn
   go_wp2_with fail
   go_ret
   exact ⟨_, rfl, by rw [← ad7.done hc HI.out HC.out]; exact ho.wide (by omega) (by have := ho.lt _ rfl; omega), hb⟩
def aE0 (w : World) (B n : Nat) : Nat := (cc5 n).countP fun j => match w.cell? ⟨B, j, none⟩ with | some (.bool false) => true | _ => false
theorem aD9 {w : World} {lo hi : Nat} {e : TypeId} {B n cap : Nat} {bs : List Bool} (h : y7 w lo hi e 1 (.slice (some ⟨B, 0, none⟩) n cap) n (bools bs)) (hn : 0 < n) : aE0 w B n = bs.count false := by
 obtain ⟨g, cap', hv, -, -, -, -, -, -, hc⟩ := h.open hn
 cases hv
 have hl : bs.length = n := by have := h.1.1; simpa [bools] using this
 have e1 : bs = (cc5 n).map fun j => bs.getD j true := by
  apply List.ext_getElem
  ·simp [hl]
  ·intro j h1 h2; simp [h1]
 unfold aE0
 rw [List.count, e1, List.countP_map]
 refine List.countP_congr fun j hj => ?_
 rw [ce9] at hj
 have hjl : j < bs.length := by omega
 rw [hc j (.bool bs[j]) (by simp [bools, hjl])]
 simp [hjl]
 cases bs[j] <;> simp
theorem aD1 (v : Value) (c : b6) (hc : e6 c = true) (w : World) (h : r8 w v c) :
  Calls Tryz.prog 42 #[v] w fun e w' => ∃ u, e = .returned u ∧ y7 w' w.heap.size w'.heap.size 4 1 u c.list.length (bools (E4 c)) ∧ Below w.heap.size w w' := by
 have hrow := h
 obtain ⟨v1, v2, v3, rfl, h1, h2, h3⟩ := h
 obtain ⟨a3, k3, rfl, -, hm3, -, -⟩ := h3.open
 obtain ⟨W, hW⟩ : ∃ W, W = (w.alloc (.cells #[v1, v2, .slice a3 c.list.length k3] 26)) := ⟨_, rfl⟩
 have B0 : Below w.heap.size w W := by rw [hW]; go_grown
 have sW : W.heap.size = w.heap.size + 1 := by rw [hW]; simp
 have L1 : v9 W w.heap.size [v1, v2, .slice a3 c.list.length k3] := by rw [hW]; exact (v9.new w [v1, v2, .slice a3 c.list.length k3] _)
 obtain ⟨-, hn1, hn2, -, -⟩ := i8 hc
 have hmk := ap3 (P := Tryz.prog) (t := 43) Tryz.underlying43 bM4 rfl (by omega) c.list.length (by omega) hm3
 have hown := ao6 W (Value.bool false).cells.toList c.list.length 1 4 rfl hm3
 rw [show (Value.bool false).cells.toList = [Value.bool false] from rfl, G5, sW] at hown
 have hown0 : y7 (W.alloc (.cells (ca7 c.list.length (Value.bool false)).toArray 4)) (w.heap.size + 1) (w.heap.size + 1 + 1) 4 1 (.slice (some ⟨w.heap.size + 1, 0, none⟩) c.list.length c.list.length) c.list.length (bools (ca7 c.list.length false)) := by
  rw [bools, List.map_replicate]; exact hown
 have x2 := L1.cell 2
 simp at x2
 rw [show (Value.bool false).cells.toList = [Value.bool false] from rfl, G5] at hmk
 have eR : (ca7 c.list.length (Value.bool false)).toArray = cd9 c.list.length (Value.bool false) := by simp
 rw [eR] at hmk hown0
 clear hown eR
 go_enter Tryz.func42, Tryz.ntmps42
 rw [hW] at x2
 go_wp2_with fail
 rw [← hW]
 clear x2 hmk hW
 have B1 : Below w.heap.size w (W.alloc (.cells (cd9 c.list.length (Value.bool false)) 4)) := B0.trans (Below.mono (by go_grown : Below W.heap.size W _) B0.size)
 have s1 : (W.alloc (.cells (cd9 c.list.length (Value.bool false)) 4)).heap.size = w.heap.size + 1 + 1 := by simp [sW]
 replace L1 := L1.alloc (.cells (cd9 c.list.length (Value.bool false)) 4)
 generalize W.alloc (.cells (cd9 c.list.length (Value.bool false)) 4) = W1 at *
 have hq := t0 W1 #[.int .i64 0] 1 1 3 s1.symm rfl (by omega)
 rw [s1] at hq
 have B2 := B1.trans (Below.mono (by go_grown : Below W1.heap.size W1 (W1.alloc (.cells #[.int .i64 0] 3))) B1.size)
 replace hown0 := hown0.keep (by go_grown : Below W1.heap.size W1 (W1.alloc (.cells #[.int .i64 0] 3))) (by omega)
 replace L1 := L1.alloc (.cells #[.int .i64 0] 3)
 generalize W1.alloc (.cells #[.int .i64 0] 3) = W2 at *
 clear B0 B1 s1 sW
 go_loopw [4] (fun q wr => ∃ (ls : List Int) (bs : List Bool) (a : Option Addr) (k : Nat), q = .slice a ls.length k ∧ wr.ownsRow (w.heap.size + 1 + 1) 3 1 q ls.length (ints ls) ∧
  y7 wr (w.heap.size + 1) (w.heap.size + 1 + 1) 4 1 (.slice (some ⟨w.heap.size + 1, 0, none⟩) c.list.length c.list.length) c.list.length (bools bs) ∧ ax2 c ls bs ∧
  v9 wr w.heap.size [v1, v2, .slice a3 c.list.length k3] ∧ Below w.heap.size w wr)
  (fun q wr => (match q with | .slice _ n _ => n | _ => 0) + 3 * aE0 wr (w.heap.size + 1) c.list.length)
 case atStart => exact ⟨[0], _, _, _, rfl, hq.1, hown0, ax2.start hc, L1, B2⟩
 case round =>
  obtain ⟨ls, bs, a, k, rfl, hq, ho, hi, hL, hb⟩ := hrel
  have HI := show Hid _ from hi
  have hf := aD9 ho (by omega)
  have HF := show Hid _ from hf
  clear hi hf hown0 B2 L1
  by_cases hlt : 0 < ls.length
  ·obtain ⟨ls', i, hls⟩ : ∃ ls' i, ls = ls' ++ [i] := ⟨ls.dropLast, ls.getLast (by intro h; rw [h] at hlt; simp at hlt), (List.dropLast_concat_getLast _).symm⟩
   have hlen : ls.length = ls'.length + 1 := by rw [hls]; simp
   have hI := HI.out
   rw [hls] at hI
   have hir := hI.l i (by simp)
   obtain ⟨m, rfl⟩ : ∃ m : Nat, i = m := ⟨i.toNat, by omega⟩
   have hmn : m < c.list.length := by omega
   have hmb : m < bs.length := by rw [hI.len]; exact hmn
   obtain ⟨g, cap, hv, hg1, hg2, hg3, hf, u0, hcb⟩ := ho.at (j := m) (by simpa [bools] using hmb)
   cases hv
   have p1 : wr.cell? ⟨w.heap.size + 1, m, none⟩ = some (.bool bs[m]) := by
    obtain ⟨g, cap', hv, -, -, -, -, -, -, hcc⟩ := ho.open (by omega)
    cases hv
    exact hcc m _ (by simp [bools, hmb])
   obtain ⟨gq, hgq, p0⟩ : ∃ gq, a = some ⟨gq, 0, none⟩ ∧ wr.cell? ⟨gq, ls'.length, none⟩ = some (.int .i64 m) := by
    have hoq : y7 wr (w.heap.size + 1 + 1) wr.heap.size 3 1 (.slice a ls.length k) ls.length (ints ls) := y7.mk' hq
    obtain ⟨g, cap', hv, -, -, -, -, -, -, hcc⟩ := hoq.open hlt
    cases hv
    exact ⟨g, rfl, hcc ls'.length _ (by rw [hls]; simp [ints])⟩
   subst hgq
   have hkc : ls.length ≤ k := by
    rcases hq.2 with ⟨hv, _⟩ | ⟨g, cap', cur, hv, _, _, hnc, _⟩
    ·cases hv
    ·cases hv; exact hnc
   have hcut : wr.ownsRow (w.heap.size + 1 + 1) 3 1 (.slice (some ⟨gq, 0, none⟩) ls'.length k) ls'.length (ints ls') := by
    have hq' := hq
    rw [show ints ls = ints ls' ++ [.int .i64 m] by rw [hls]; simp [ints]] at hq'
    exact bv3 hq' (by omega) hlt (by simp [ints])
   rw [hlen] at hq hkc ⊢
   have HLS := show Hid _ from hls
   have HLEN := show Hid _ from hlen
   clear hls hlen hlt u0 hcb
   have hbq : bs[(m : Int).toNat]? = some bs[m] := by rw [ce4, ca8 hmb]
   have hll : ls'.length ≤ 1000 := by have := hI.cnt; simp at this; omega
   have HI2 := show Hid _ from hI
   have HIR := show Hid (Rc c m) from hir.2.2
   clear hI hir
   have hL2 := hL.other (p := ⟨w.heap.size + 1, m, none⟩) (by show w.heap.size ≠ w.heap.size + 1; omega) (.bool true)
   have y0 := hL2.cell 0
   have y1 := hL2.cell 1
   have y2 := hL2.cell 2
   simp only [cb4, cb5] at y0 y1 y2
   cases hbm : bs[m]
   all_goals
    rw [hbm] at p1
    rw [hbm] at hbq
    have HB := show Hid _ from hbq
    clear hbm hbq
    go_wp2_with fail
   ·have hbx : Below w.heap.size w (wr.setCell ⟨w.heap.size + 1, m, none⟩ (.bool true)) := hb.setCell (p := ⟨w.heap.size + 1, m, none⟩) (by show w.heap.size ≤ w.heap.size + 1; omega) _
    have hox := ho.setCell (j := m) (by simpa [bools] using hmb) (.bool true)
    have hqx := ((y7.mk' hcut).other (b := w.heap.size + 1) (by omega) m (.bool true)).1
    rw [show (bools bs).set m (.bool true) = bools (bs.set m true) by simp [bools]] at hox
    have hsx : (wr.setCell ⟨w.heap.size + 1, m, none⟩ (.bool true)).heap.size = wr.heap.size := by simp
    clear y0 y1 y2 hL hf p1 p0 hg1 hg2
    generalize wr.setCell ⟨w.heap.size + 1, m, none⟩ (.bool true) = W3 at *
    refine (aQ7 _ c hc m _ (hrow.below hbx) (by omega) (by omega)).mono ?_
    rintro e w2 ⟨u, ns, rfl, hnl, hnm, hru, b2⟩
    obtain ⟨a2, q2, rfl⟩ := hru.form
    have s2 := b2.size
    have hq3 := H1 hqx b2 (cb1 _)
    have hox3 := hox.keep b2 (by omega)
    have hL3 := hL2.below b2 hL2.lt
    have hb3 := hbx.trans (b2.mono hbx.size)
    clear hqx hox hL2
    go_wp2_with (at_builtin; refine A5 rfl _ _ rfl Tryz.underlying23 ab9 rfl (by omega) rfl hq3 rfl hru S7 (by omega) (by omega) (by omega) ?_; rintro a4 q4 w4 o4 b4 - -)
    have hox4 := hox3.keep b4 (by omega)
    have hm4 := HI2.out.mark hc HB.out hnl hnm
    rw [ce4] at hm4
    have hcs := R3 (bs := bs) (k := m) (by have := HB.out; rwa [ce4] at this)
    have hf4 := aD9 hox4 (by omega)
    refine ⟨⟨ls' ++ ns, bs.set m true, a4, q4, by simp, by simpa [ints] using o4, hox4, hm4, hL3.below b4 (by omega), hb3.trans (b4.mono (by omega))⟩, ?_⟩
    rw [hf4, HF.out]
    simp
    omega
   ·exact ⟨⟨ls', bs, _, _, rfl, hcut, ho, HI2.out.skip HB.out, hL, hb⟩, by simp⟩
  ·have hl0 : ls = [] := cc8 (by omega)
   subst hl0
   go_wp2_with fail
   go_ret
   exact ⟨_, rfl, by rw [← HI.out.done hc]; exact ho.wide (by omega) (by have := ho.lt _ rfl; omega), hb⟩
noncomputable def b57 (c : b6) : List Bool := if e6 c = true then E4 c else []
def am2 (w : World) (v : Value) (m : List (List Bool)) : Prop :=
 ∃ vs : List Value, D3 w v m.length 1 vs ∧ ∀ (i : Nat) (u : Value) (r : List Bool), vs[i]? = some u → m[i]? = some r → D3 w u r.length 1 (bools r)
def T5 (w : World) (lo hi : Nat) (v : Value) (m : List (List Bool)) : Prop :=
 ∃ vs : List Value, y7 w lo hi 43 1 v m.length vs ∧ (∀ (i : Nat) (u : Value) (r : List Bool), vs[i]? = some u → m[i]? = some r → y7 w lo hi 4 1 u r.length (bools r)) ∧
  (∀ (i j : Nat) (u u' : Value), i < j → vs[i]? = some u → vs[j]? = some u' → N9 u u') ∧ ∀ (i : Nat) (u : Value), vs[i]? = some u → N9 u v
theorem am2.below {w w' : World} {v : Value} {m : List (List Bool)} (h : am2 w v m) (hb : Below w.heap.size w w') : am2 w' v m := by
 obtain ⟨vs, h1, h2⟩ := h
 exact ⟨vs, h1.below hb, fun i u r a b => (h2 i u r a b).below hb⟩
theorem T5.row {w : World} {lo hi : Nat} {v : Value} {m : List (List Bool)} (h : T5 w lo hi v m) : am2 w v m := by
 obtain ⟨vs, h1, h2, _⟩ := h
 exact ⟨vs, h1.row, fun i u r a b => (h2 i u r a b).row⟩
theorem T5.keep {w w' : World} {lo hi B : Nat} {v : Value} {m : List (List Bool)} (h : T5 w lo hi v m) (hb : Below B w w') (hB : hi ≤ B) : T5 w' lo hi v m := by
 obtain ⟨vs, h1, h2, hd⟩ := h
 exact ⟨vs, h1.keep hb hB, fun i u r a b => (h2 i u r a b).keep hb hB, hd⟩
theorem T5.out {w w' : World} {lo hi lo' hi' : Nat} {v : Value} {m : List (List Bool)} (h : T5 w lo hi v m) (hb : V5 lo' hi' w w') (hB : hi ≤ lo' ∨ hi' ≤ lo) : T5 w' lo hi v m := by
 obtain ⟨vs, h1, h2, hd⟩ := h
 exact ⟨vs, h1.out hb hB, fun i u r a b => (h2 i u r a b).out hb hB, hd⟩
theorem T5.wide {w : World} {lo hi lo' hi' : Nat} {v : Value} {m : List (List Bool)} (h : T5 w lo hi v m) (g1 : lo' ≤ lo) (g2 : hi ≤ hi') : T5 w lo' hi' v m := by
 obtain ⟨vs, h1, h2, hd⟩ := h
 exact ⟨vs, h1.wide g1 g2, fun i u r a b => (h2 i u r a b).wide g1 g2, hd⟩
theorem am2.open {w : World} {v : Value} {m : List (List Bool)} (h : am2 w v m) : ∃ a cap, v = .slice a m.length cap ∧ m.length ≤ 9223372036854775807 ∧
  ∀ i (hi : i < m.length), ∃ b off a' c', a = some ⟨b, off, none⟩ ∧ b < w.heap.size ∧ w.cell? ⟨b, off + i, none⟩ = some (.slice a' m[i].length c') ∧ D3 w (.slice a' m[i].length c') m[i].length 1 (bools m[i]) := by
 obtain ⟨vs, h1, h2⟩ := h
 obtain ⟨a, cap, hv, hc, hm, hm2, hcell⟩ := h1.open1
 refine ⟨a, cap, hv, hm, fun i hi => ?_⟩
 obtain ⟨b, off, ha, hb, hx⟩ := hcell i hi
 have hl : i < vs.length := by rw [h1.1]; omega
 rw [ca8 hl] at hx
 have hr := h2 i _ _ (ca8 hl) (ca8 hi)
 obtain ⟨a', c', hs⟩ := hr.form
 rw [hs] at hx hr
 exact ⟨b, off, a', c', ha, hb, hx, hr⟩
theorem ai5 (v : Value) (t : List Int) (w : World) (h : D3 w v t.length 1 (ints t)) (hb : t.length ≤ 1000000000000) :
  Calls Tryz.prog 71 #[v] w fun e w' => ∃ u, e = .returned u ∧ y7 w' w.heap.size w'.heap.size 3 1 u t.length (ints t) ∧ Below w.heap.size w w' := by
 obtain ⟨a, cap, rfl, hc1, hc2, hc3, -⟩ := h.open
 have hnil := fun w => Lib.run_eql_slice_nil (P := Tryz.prog) w 23 3 a t.length cap 0 0 Tryz.underlying23
 rcases a with _ | a
 ·have hn : t.length = 0 := by
   rcases Nat.eq_zero_or_pos t.length with h0 | h0
   ·exact h0
   ·obtain ⟨_, a, c, he, _, _, hx⟩ := h
    cases he
    obtain ⟨_, _, he, _⟩ := hx h0
    cases he
  have ht : t = [] := cc8 hn
  subst ht
  simp only [cc1, Option.isNone_none] at hnil
  go_enter Tryz.func71, Tryz.ntmps71
  go_wp2_with fail
  go_ret
  exact ⟨_, rfl, ⟨World.ownsRow_nil _ _ _ _, fun g hg => by cases hg⟩, Below.refl _ _⟩
 ·go_enter Tryz.func71, Tryz.ntmps71
  simp only [Option.isNone_some] at hnil
  have ba := (Below.refl w.heap.size w).alloc (cb1 _) (.cells #[] 3)
  go_wp2_with (at_builtin; refine A5 rfl _ _ rfl Tryz.underlying23 ab9 rfl (by omega) rfl (t0 w #[] 0 1 _ rfl rfl (by omega)).1 rfl (h.below ba) S7 (by omega) (by omega) (by simp) ?_; rintro a4 q4 w4 o4 b4 - -)
  go_ret
  refine ⟨_, rfl, y7.mk' (by simpa using o4), ba.trans b4⟩
theorem bn1 (v : Value) (t : List d8) (w : World) (h : P3 w v t) (hb : t.length ≤ 1000000000000) :
  Calls Tryz.prog 72 #[v] w fun e w' => ∃ u, e = .returned u ∧ y7 w' w.heap.size w'.heap.size 60 5 u t.length (ints (t8 t)) ∧ Below w.heap.size w w' := by
 obtain ⟨a, cap, rfl, hc1, hc2, hc3, -⟩ := h.open
 have hnil := fun w => Lib.run_eql_slice_nil (P := Tryz.prog) w 24 60 a t.length cap 0 0 Tryz.underlying24
 rcases a with _ | a
 ·have hn : t.length = 0 := by
   rcases Nat.eq_zero_or_pos t.length with h0 | h0
   ·exact h0
   ·obtain ⟨_, a, c, he, _, _, hx⟩ := h
    cases he
    obtain ⟨_, _, he, _⟩ := hx h0
    cases he
  have ht : t = [] := cc8 hn
  subst ht
  simp only [cc1, Option.isNone_none] at hnil
  go_enter Tryz.func72, Tryz.ntmps72
  go_wp2_with fail
  go_ret
  exact ⟨_, rfl, ⟨World.ownsRow_nil _ _ _ _, fun g hg => by cases hg⟩, Below.refl _ _⟩
 ·go_enter Tryz.func72, Tryz.ntmps72
  simp only [Option.isNone_some] at hnil
  have ba := (Below.refl w.heap.size w).alloc (cb1 _) (.cells #[] 60)
  go_wp2_with (at_builtin; refine A5 rfl _ _ rfl Tryz.underlying24 aK9 rfl (by omega) rfl (t0 w #[] 0 5 _ rfl rfl (by omega)).1 rfl (h.below ba) S7 (by omega) (by omega) (by simp) ?_; rintro a4 q4 w4 o4 b4 - -)
  go_ret
  refine ⟨_, rfl, y7.mk' (by simpa using o4), ba.trans b4⟩
theorem a01 (v : Value) (c : b6) (w : World) (h : r8 w v c) (hs : c.size ≤ 1048576) :
  Calls Tryz.prog 43 #[v] w fun e w' => ∃ u, e = .returned u ∧ y6 w' w.heap.size w'.heap.size u c ∧ Below w.heap.size w w' := by
 obtain ⟨v1, v2, v3, rfl, h1, h2, h3⟩ := h
 unfold b6.size at hs
 obtain ⟨n, hn⟩ : ∃ n, n = w.heap.size := ⟨_, rfl⟩
 obtain ⟨W, hW⟩ : ∃ W, W = (w.alloc (.cells #[v1, v2, v3] 26)).alloc (.cells #[.slice none 0 0, .slice none 0 0, .slice none 0 0] 26) := ⟨_, rfl⟩
 have B0 : Below n w W := by rw [hW, hn]; go_grown
 have sW : W.heap.size = n + 1 + 1 := by rw [hW, hn]; simp
 have L1 : v9 W n [v1, v2, v3] := by rw [hW, hn]; exact (v9.new w [v1, v2, v3] _).alloc _
 have L2 : v9 W (n + 1) [.slice none 0 0, .slice none 0 0, .slice none 0 0] := by rw [hW, hn]; exact v9.new' (w.alloc _) [.slice none 0 0, .slice none 0 0, .slice none 0 0] _ (by simp)
 have hS : ∀ W', Below (n + 1) W W' → Below (n + 1) W W' ∧ (W'.cell? ⟨n, 0, none⟩ = some v1 ∧ W'.cell? ⟨n, 1, none⟩ = some v2 ∧ W'.cell? ⟨n, 2, none⟩ = some v3) := by
  intro W' hb
  have L' := L1.below hb (by omega)
  exact ⟨hb, by simpa using L'.cell 0, by simpa using L'.cell 1, by simpa using L'.cell 2⟩
 have hQ : ∀ W' W'', Below (n + 1 + 1) W W' → Below W'.heap.size W' W'' → Below (n + 1 + 1) W W'' := fun W' W'' g k => g.trans (k.mono (by have := g.size; omega))
 have hT : ∀ W', Below (n + 1 + 1) W W' → (W'.frozen? ⟨n + 1, 0, none⟩ = false ∧ W'.frozen? ⟨n + 1, 1, none⟩ = false ∧ W'.frozen? ⟨n + 1, 2, none⟩ = false) ∧ W'.cell? ⟨n + 1, 0, none⟩ = some (.slice none 0 0) ∧ W'.cell? ⟨n + 1, 1, none⟩ = some (.slice none 0 0) ∧ W'.cell? ⟨n + 1, 2, none⟩ = some (.slice none 0 0) := by
  intro W' hb
  have L' := L2.below hb (by omega)
  exact ⟨⟨L'.free 0, L'.free 1, L'.free 2⟩, by simpa using L'.cell 0, by simpa using L'.cell 1, by simpa using L'.cell 2⟩
 have hA : ∀ W', Below (n + 1 + 1) W W' → Below n w W' := fun W' g => B0.trans (g.mono (by omega))
 have HA1 := show Hid (∀ W', Below (n + 1 + 1) W W' → D3 W' v1 c.vars.length 1 (ints c.vars)) from fun W' g => h1.below (by rw [← hn]; exact hA _ g)
 have HA2 := show Hid (∀ W', Below (n + 1 + 1) W W' → D3 W' v2 c.arrays.length 1 (ints c.arrays)) from fun W' g => h2.below (by rw [← hn]; exact hA _ g)
 have HA3 := show Hid (∀ W', Below (n + 1 + 1) W W' → P3 W' v3 c.list) from fun W' g => h3.below (by rw [← hn]; exact hA _ g)
 have HA := show Hid _ from hA
 have HS := show Hid _ from hS
 have HQ := show Hid _ from hQ
 have HT := show Hid _ from hT
 have hb0 : Below (n + 1 + 1) W W.drew := (Below.refl _ W).drew
 have hb1 : Below (n + 1) W W.drew := (Below.refl _ W).drew
 have HN := show Hid (n = w.heap.size) from hn
 have HL2 := show Hid _ from L2
 have zd : W.drew.heap.size = n + 1 + 1 := sW
 have HB0 := show Hid _ from B0
 clear hS hQ hT hA h1 h2 h3 L1
 go_enter Tryz.func43, Tryz.ntmps43
 go_wp2_with fail
 rw [← HN.out]
 rw [← hW]
 clear hn hW B0 L2
 go_region_held3 (fun W' => Below (n + 1) W W' ∧ (W'.cell? ⟨n, 0, none⟩ = some v1 ∧ W'.cell? ⟨n, 1, none⟩ = some v2 ∧ W'.cell? ⟨n, 2, none⟩ = some v3))
  (first | exact HS.out _ (by assumption) | exact HS.out _ ((by assumption : Below (n + 1 + 1) W _).mono (Nat.le_succ _)) | exact HS.out _ (((((by assumption : Below (n + 1 + 1) W _).mono (Nat.le_succ _)).setCell (cb1 _) _).setCell (cb1 _) _).setCell (cb1 _) _))
  (first
   | (go_at_call 71; refine (ai5 v1 c.vars _ (HA1.out _ (by assumption)) (by omega)).mono ?_; rintro e w7 ⟨u1, rfl, o1, b7⟩; obtain ⟨x1, k1, rfl⟩ := o1.form; have s7 := b7.size; (try replace o2 := o2.keep b7 (by omega)); (try replace o3 := o3.keep b7 (by omega)); have q7 := HQ.out _ _ (by assumption) b7; have z7 := q7.size; obtain ⟨⟨f0, f1, f2⟩, c0, c1, c2⟩ := HT.out _ q7)
   | (go_at_call 71; refine (ai5 v2 c.arrays _ (HA2.out _ (by assumption)) (by omega)).mono ?_; rintro e w7 ⟨u2, rfl, o2, b7⟩; obtain ⟨x2, k2, rfl⟩ := o2.form; have s7 := b7.size; (try replace o1 := o1.keep b7 (by omega)); (try replace o3 := o3.keep b7 (by omega)); have q7 := HQ.out _ _ (by assumption) b7; have z7 := q7.size; obtain ⟨⟨f0, f1, f2⟩, c0, c1, c2⟩ := HT.out _ q7)
   | (go_at_call 72; refine (bn1 v3 c.list _ (HA3.out _ (by assumption)) (by omega)).mono ?_; rintro e w7 ⟨u3, rfl, o3, b7⟩; obtain ⟨x3, k3, rfl⟩ := o3.form; have s7 := b7.size; (try replace o1 := o1.keep b7 (by omega)); (try replace o2 := o2.keep b7 (by omega)); have q7 := HQ.out _ _ (by assumption) b7; have z7 := q7.size; obtain ⟨⟨f0, f1, f2⟩, c0, c1, c2⟩ := HT.out _ q7))
 have L2 := v9.below HL2.out q7 (by omega)
 have L3 := ((L2.set (j := 0) (.slice x1 c.vars.length k1)).set (j := 1) (.slice x2 c.arrays.length k2)).set (j := 2) (.slice x3 c.list.length k3)
 replace o1 := (((o1.other (b := n + 1) (by omega) 0 (.slice x1 c.vars.length k1)).other (b := n + 1) (by omega) 1 (.slice x2 c.arrays.length k2)).other (b := n + 1) (by omega) 2 (.slice x3 c.list.length k3))
 replace o2 := (((o2.other (b := n + 1) (by omega) 0 (.slice x1 c.vars.length k1)).other (b := n + 1) (by omega) 1 (.slice x2 c.arrays.length k2)).other (b := n + 1) (by omega) 2 (.slice x3 c.list.length k3))
 replace o3 := (((o3.other (b := n + 1) (by omega) 0 (.slice x1 c.vars.length k1)).other (b := n + 1) (by omega) 1 (.slice x2 c.arrays.length k2)).other (b := n + 1) (by omega) 2 (.slice x3 c.list.length k3))
 have BF := (((HB0.out.trans (q7.mono (by omega))).setCell (p := ⟨n + 1, 0, none⟩) (by show n ≤ n + 1; omega) (.slice x1 c.vars.length k1)).setCell (p := ⟨n + 1, 1, none⟩) (by show n ≤ n + 1; omega) (.slice x2 c.arrays.length k2)).setCell (p := ⟨n + 1, 2, none⟩) (by show n ≤ n + 1; omega) (.slice x3 c.list.length k3)
 have zF : (((w7.setCell ⟨n + 1, 0, none⟩ (.slice x1 c.vars.length k1)).setCell ⟨n + 1, 1, none⟩ (.slice x2 c.arrays.length k2)).setCell ⟨n + 1, 2, none⟩ (.slice x3 c.list.length k3)).heap.size = w7.heap.size := by simp
 generalize ((w7.setCell ⟨n + 1, 0, none⟩ (.slice x1 c.vars.length k1)).setCell ⟨n + 1, 1, none⟩ (.slice x2 c.arrays.length k2)).setCell ⟨n + 1, 2, none⟩ (.slice x3 c.list.length k3) = WF at *
 have r0 := L3.cell 0
 have r1 := L3.cell 1
 have r2 := L3.cell 2
 simp at r0 r1 r2
 have hn' := HN.out
 clear f0 f1 f2 c0 c1 c2 L2 HS HQ HT HA HA1 HA2 HA3 HL2 HB0 hb0 hb1 HN
 go_wp2_with fail
 refine bodyPost_ret (v := .agg #[.slice x1 c.vars.length k1, .slice x2 c.arrays.length k2, .slice x3 c.list.length k3]) (by simp [results, Tryz.results43, go_sem, r0, r1, r2]) rfl ⟨_, rfl, ⟨_, _, _, rfl, o1.wide (by omega) (by omega), o2.wide (by omega) (by omega), o3.wide (by omega) (by omega), U9 o1 o2 (by omega), U9 o1 o3 (by omega), U9 o2 o3 (by omega)⟩, by rw [← hn']; exact BF⟩
theorem R6 (x : d8) (w : World) :
  Calls Tryz.prog 57 #[x.v] w fun e w' => e = .returned (.int .i64 (i6 x)) ∧ Below w.heap.size w w' := by
 obtain ⟨x0, x1, x2, x3, x4⟩ := x
 by_cases h8 : x0 = 8
 ·have HN := show Hid (i6 ⟨x0, x1, x2, x3, x4⟩ = x1) from by simp [Hid, i6, h8]
  have q8 : (x0 == 8) = true := by simp [h8]
  clear h8
  go_enter Tryz.func57, Tryz.ntmps57
  go_wp2_with fail
  go_ret
  exact ⟨F6 HN.out.symm, by go_grown⟩
 ·have q8 : (x0 == 8) = false := by simp [h8]
  by_cases h9 : x0 = 9 ∨ x0 = 10
  ·have HN := show Hid (i6 ⟨x0, x1, x2, x3, x4⟩ = x2) from by simp [Hid, i6, h8, h9]
   have h9' : (x0 == 9) = true ∨ ((x0 == 9) = false ∧ (x0 == 10) = true) := by
    rcases h9 with h9 | h9
    ·left; simp [h9]
    ·right; simp [h9]
   clear h8 h9
   rcases h9' with q9 | ⟨q9, q10⟩
   all_goals
    go_enter Tryz.func57, Tryz.ntmps57
    go_wp2_with fail
    go_ret
    exact ⟨F6 HN.out.symm, by go_grown⟩
  ·have HN := show Hid (i6 ⟨x0, x1, x2, x3, x4⟩ = -1) from by simp [Hid, i6, h8, h9]
   have q9 : (x0 == 9) = false := by simp; omega
   have q10 : (x0 == 10) = false := by simp; omega
   clear h8 h9
   go_enter Tryz.func57, Tryz.ntmps57
   go_wp2_with fail
   go_ret
   exact ⟨F6 HN.out.symm, by go_grown⟩
theorem aA2 (x : d8) (t : Int) (w : World) :
  Calls Tryz.prog 58 #[x.v, .int .i64 t] w fun e w' => e = .returned (B5 x t).v ∧ Below w.heap.size w w' := by
 obtain ⟨x0, x1, x2, x3, x4⟩ := x
 by_cases h8 : x0 = 8
 ·have HN := show Hid (B5 ⟨x0, x1, x2, x3, x4⟩ t = ⟨x0, t, x2, x3, x4⟩) from by simp [Hid, B5, h8]
  have q8 : (x0 == 8) = true := by simp [h8]
  have q9 : (x0 == 9) = false := by simp [h8]
  have q10 : (x0 == 10) = false := by simp [h8]
  clear h8
  go_enter Tryz.func58, Tryz.ntmps58
  go_wp2_with fail
  refine bodyPost_ret (v := .agg #[.int .i64 x0, .int .i64 t, .int .i64 x2, .int .i64 x3, .int .i64 x4]) (by simp [results, Tryz.results58, go_sem]) rfl ⟨by rw [HN.out], by go_grown⟩
 ·have q8 : (x0 == 8) = false := by simp [h8]
  by_cases h9 : x0 = 9 ∨ x0 = 10
  ·have HN := show Hid (B5 ⟨x0, x1, x2, x3, x4⟩ t = ⟨x0, x1, t, x3, x4⟩) from by simp [Hid, B5, h8, h9]
   have h9' : (x0 == 9) = true ∨ ((x0 == 9) = false ∧ (x0 == 10) = true) := by
    rcases h9 with h9 | h9
    ·left; simp [h9]
    ·right; simp [h9]
   clear h8 h9
   rcases h9' with q9 | ⟨q9, q10⟩
   all_goals
    go_enter Tryz.func58, Tryz.ntmps58
    go_wp2_with fail
    refine bodyPost_ret (v := .agg #[.int .i64 x0, .int .i64 x1, .int .i64 t, .int .i64 x3, .int .i64 x4]) (by simp [results, Tryz.results58, go_sem]) rfl ⟨by rw [HN.out], by go_grown⟩
  ·have HN := show Hid (B5 ⟨x0, x1, x2, x3, x4⟩ t = ⟨x0, x1, x2, x3, x4⟩) from by simp [Hid, B5, h8, h9]
   have q9 : (x0 == 9) = false := by simp; omega
   have q10 : (x0 == 10) = false := by simp; omega
   clear h8 h9
   go_enter Tryz.func58, Tryz.ntmps58
   go_wp2_with fail
   refine bodyPost_ret (v := .agg #[.int .i64 x0, .int .i64 x1, .int .i64 x2, .int .i64 x3, .int .i64 x4]) (by simp [results, Tryz.results58, go_sem]) rfl ⟨by rw [HN.out], by go_grown⟩
theorem aQ4 (x : d8) (t : Int) (w : World) (h : 0 ≤ i6 x) :
  Calls Tryz.prog 53 #[x.v, .int .i64 t] w fun e w' => e = .returned (B5 x t).v ∧ Below w.heap.size w w' := by
 obtain ⟨x0, x1, x2, x3, x4⟩ := x
 by_cases h8 : x0 = 8
 ·have HN := show Hid (B5 ⟨x0, x1, x2, x3, x4⟩ t = ⟨x0, t, x2, x3, x4⟩) from by simp [Hid, B5, h8]
  have q8 : (x0 == 8) = true := by simp [h8]
  clear h8 h
  go_enter Tryz.func53, Tryz.ntmps53
  go_wp2_with fail
  refine bodyPost_ret (v := .agg #[.int .i64 x0, .int .i64 t, .int .i64 x2, .int .i64 x3, .int .i64 x4]) (by simp [results, Tryz.results53, go_sem]) rfl ⟨by rw [HN.out], by go_grown⟩
 ·have q8 : (x0 == 8) = false := by simp [h8]
  have h9 : x0 = 9 ∨ x0 = 10 := by
   unfold i6 at h
   simp only at h
   rw [if_neg h8] at h
   split at h
   ·assumption
   ·omega
  have HN := show Hid (B5 ⟨x0, x1, x2, x3, x4⟩ t = ⟨x0, x1, t, x3, x4⟩) from by simp [Hid, B5, h8, h9]
  clear h8 h9 h
  go_enter Tryz.func53, Tryz.ntmps53
  go_wp2_with fail
  refine bodyPost_ret (v := .agg #[.int .i64 x0, .int .i64 x1, .int .i64 t, .int .i64 x3, .int .i64 x4]) (by simp [results, Tryz.results53, go_sem]) rfl ⟨by rw [HN.out], by go_grown⟩
theorem aN4 (v : Value) (c : b6) (hc : e6 c = true) (t : Int) (ht : B6 c t) (w : World) (h : r8 w v c) :
  Calls Tryz.prog 59 #[v, .int .i64 t] w fun e w' => e = .returned (.int .i64 (A0 c t)) ∧ Below w.heap.size w w' := by
 obtain ⟨v1, v2, v3, rfl, h1, h2, h3⟩ := h
 obtain ⟨a3, k3, rfl, hk3, hm3, -, hc3⟩ := h3.ins
 obtain ⟨W, hW⟩ : ∃ W, W = w.alloc (.cells #[v1, v2, .slice a3 c.list.length k3] 26) := ⟨_, rfl⟩
 have B0 : Below w.heap.size w W := by rw [hW]; go_grown
 have L1 : v9 W w.heap.size [v1, v2, .slice a3 c.list.length k3] := by rw [hW]; exact (v9.new w [v1, v2, .slice a3 c.list.length k3] _)
 have hn4 := (i8 hc).2.2.1
 have HF : Hid (A0 c t = if X4 c (t2 c c.list.length t) = true then t else t2 c c.list.length t) := rfl
 have hcell : ∀ i, i < c.list.length → ∃ b off, a3 = some ⟨b, off, none⟩ ∧ W.cell? ⟨b, off + i * 5, none⟩ = some (.int .i64 (t6 c i).op) ∧ W.cell? ⟨b, off + i * 5 + 1, none⟩ = some (.int .i64 (t6 c i).a) := by
  intro i hi
  obtain ⟨b, off, e, hb, i0, i1, -⟩ := hc3 i hi
  rw [← (D8 B0).1 _ _ hb] at i0 i1
  rw [B9 hi]
  exact ⟨b, off, e, i0, i1⟩
 have HCELL := show Hid _ from hcell
 have x2 := L1.cell 2
 simp only [cb4, cb5] at x2
 clear hcell hc3 h1 h2 h3
 go_enter Tryz.func59, Tryz.ntmps59
 go_wp2_with fail
 rw [← hW]
 clear hW
 go_loop [5, 6] (fun x i => ∃ (y : Nat) (k : Nat), x = .int .i64 y ∧ i = .int .i64 k ∧ k ≤ c.list.length ∧ y < c.list.length ∧ t2 c (c.list.length - k) y = t2 c c.list.length t) (fun _ i => c.list.length - (intOf i).toNat)
 case atStart => exact ⟨t.toNat, 0, by rw [cf4 ht.1], rfl, cc7 _, by have := ht.1; have := ht.2; omega, by rw [cf4 ht.1]; rfl⟩
 case round =>
  obtain ⟨y, k, rfl, rfl, hk, hy, hch⟩ := hrel
  have HCH := show Hid _ from hch
  clear hch
  obtain ⟨b, off, rfl, i0, i1⟩ := HCELL.out y hy
  have HJ : Hid (X4 c y = decide ((t6 c y).op = 8)) := by unfold Hid X4; rw [ce4]
  have HST : Hid (∀ k, X4 c y = true → t2 c (k + 1) y = t2 c k (t6 c y).a) := fun k h => by have := K0 (k := k) h; rw [ce4] at this; exact this
  have HPL := show Hid (X4 c y = true → B6 c (t6 c y).a) from fun h => by have := ax7 hc (x := (y : Int)) ⟨by omega, by omega⟩ h; rw [ce4] at this; exact this
  have hyi : (y : Int) < c.list.length := by omega
  generalize t6 c y = z at *
  by_cases h8 : z.op = 8
  ·have q8 : (z.op == 8) = true := by simp [h8]
   have hj : X4 c y = true := by rw [HJ.out]; exact decide_eq_true h8
   by_cases hlt : k < c.list.length
   ·obtain ⟨hp0, hp1⟩ := HPL.out hj
    have hst := HST.out (c.list.length - (k + 1)) hj
    rw [show c.list.length - (k + 1) + 1 = c.list.length - k by omega, HCH.out] at hst
    have HS := show Hid _ from hst
    clear hst h8 hj
    go_wp2_with fail
    go_round
    case rel => exact ⟨z.a.toNat, k + 1, by rw [cf4 hp0], by go_num, by omega, by omega, by rw [cf4 hp0]; exact HS.out.symm⟩
    case measure => simp [intOf]; omega
   ·have hkn : k = c.list.length := by omega
    have hch := HCH.out
    rw [hkn, Nat.sub_self, show t2 c 0 (y : Int) = y from rfl] at hch
    have HR := show Hid (A0 c t = t) from by unfold Hid; rw [HF.out, ← hch, hj]; rfl
    subst hkn
    clear hch h8 hj
    go_wp2_with fail
    go_ret
    exact ⟨F6 HR.out.symm, B0⟩
  ·have q8 : (z.op == 8) = false := by simp [h8]
   have hj : X4 c y = false := by rw [HJ.out]; exact decide_eq_false h8
   have hch := HCH.out
   rw [F2 hj] at hch
   have HR := show Hid (A0 c t = y) from by unfold Hid; rw [HF.out, ← hch, hj]; rfl
   clear hch h8 hj
   by_cases hlt : k < c.list.length
   ·go_wp2_with fail
    go_ret
    exact ⟨F6 HR.out.symm, B0⟩
   ·go_wp2_with fail
    go_ret
    exact ⟨F6 HR.out.symm, B0⟩
theorem bm0 (v : Value) (c : b6) (p : Option Addr) (m k : Nat) (l : List d8) (lo hi : Nat) (w : World) (h : r8 w v c) (hs : c.size ≤ 1048576) (hl : y7 w lo hi 60 5 (.slice p m k) l.length (ints (t8 l))) (hlo : lo ≤ w.heap.size) (hhi : hi ≤ w.heap.size) :
  Calls Tryz.prog 88 #[v, .slice p m k] w fun e w' => ∃ u, e = .returned u ∧ y6 w' lo w'.heap.size u { c with list := l } ∧ Below w.heap.size w w' := by
 obtain ⟨v1, v2, v3, rfl, h1, h2, h3⟩ := h
 unfold b6.size at hs
 have hlm : m = l.length := by obtain ⟨a, c, e⟩ := hl.form; simp only [Value.slice.injEq] at e; omega
 subst hlm
 obtain ⟨n, hn⟩ : ∃ n, n = w.heap.size := ⟨_, rfl⟩
 obtain ⟨W, hW⟩ : ∃ W, W = (w.alloc (.cells #[v1, v2, v3] 26)).alloc (.cells #[.slice none 0 0, .slice none 0 0, .slice none 0 0] 26) := ⟨_, rfl⟩
 have B0 : Below n w W := by rw [hW, hn]; go_grown
 have sW : W.heap.size = n + 1 + 1 := by rw [hW, hn]; simp
 have L1 : v9 W n [v1, v2, v3] := by rw [hW, hn]; exact (v9.new w [v1, v2, v3] _).alloc _
 have L2 : v9 W (n + 1) [.slice none 0 0, .slice none 0 0, .slice none 0 0] := by rw [hW, hn]; exact v9.new' (w.alloc _) [.slice none 0 0, .slice none 0 0, .slice none 0 0] _ (by simp)
 have hS : ∀ W', Below (n + 1) W W' → Below (n + 1) W W' ∧ (W'.cell? ⟨n, 0, none⟩ = some v1 ∧ W'.cell? ⟨n, 1, none⟩ = some v2 ∧ W'.cell? ⟨n, 2, none⟩ = some v3) := by
  intro W' hb
  have L' := L1.below hb (by omega)
  exact ⟨hb, by simpa using L'.cell 0, by simpa using L'.cell 1, by simpa using L'.cell 2⟩
 have hQ : ∀ W' W'', Below (n + 1 + 1) W W' → Below W'.heap.size W' W'' → Below (n + 1 + 1) W W'' := fun W' W'' g k => g.trans (k.mono (by have := g.size; omega))
 have hT : ∀ W', Below (n + 1 + 1) W W' → (W'.frozen? ⟨n + 1, 0, none⟩ = false ∧ W'.frozen? ⟨n + 1, 1, none⟩ = false ∧ W'.frozen? ⟨n + 1, 2, none⟩ = false) ∧ W'.cell? ⟨n + 1, 0, none⟩ = some (.slice none 0 0) ∧ W'.cell? ⟨n + 1, 1, none⟩ = some (.slice none 0 0) ∧ W'.cell? ⟨n + 1, 2, none⟩ = some (.slice none 0 0) := by
  intro W' hb
  have L' := L2.below hb (by omega)
  exact ⟨⟨L'.free 0, L'.free 1, L'.free 2⟩, by simpa using L'.cell 0, by simpa using L'.cell 1, by simpa using L'.cell 2⟩
 have hA : ∀ W', Below (n + 1 + 1) W W' → Below n w W' := fun W' g => B0.trans (g.mono (by omega))
 have HA1 := show Hid (∀ W', Below (n + 1 + 1) W W' → D3 W' v1 c.vars.length 1 (ints c.vars)) from fun W' g => h1.below (by rw [← hn]; exact hA _ g)
 have HA2 := show Hid (∀ W', Below (n + 1 + 1) W W' → D3 W' v2 c.arrays.length 1 (ints c.arrays)) from fun W' g => h2.below (by rw [← hn]; exact hA _ g)
 have HA3 := show Hid (∀ W', Below (n + 1 + 1) W W' → P3 W' v3 c.list) from fun W' g => h3.below (by rw [← hn]; exact hA _ g)
 have HA := show Hid _ from hA
 have HS := show Hid _ from hS
 have HQ := show Hid _ from hQ
 have HT := show Hid _ from hT
 have hb0 : Below (n + 1 + 1) W W.drew := (Below.refl _ W).drew
 have hb1 : Below (n + 1) W W.drew := (Below.refl _ W).drew
 have HN := show Hid (n = w.heap.size) from hn
 have HL2 := show Hid _ from L2
 have zd : W.drew.heap.size = n + 1 + 1 := sW
 have HB0 := show Hid _ from B0
 clear hS hQ hT hA h1 h2 h3 L1
 go_enter Tryz.func88, Tryz.ntmps88
 go_wp2_with fail
 rw [← HN.out]
 rw [← hW]
 clear hn hW B0 L2
 go_region_held3 (fun W' => Below (n + 1) W W' ∧ (W'.cell? ⟨n, 0, none⟩ = some v1 ∧ W'.cell? ⟨n, 1, none⟩ = some v2 ∧ W'.cell? ⟨n, 2, none⟩ = some v3))
  (first | exact HS.out _ (by assumption) | exact HS.out _ ((by assumption : Below (n + 1 + 1) W _).mono (Nat.le_succ _)) | exact HS.out _ (((((by assumption : Below (n + 1 + 1) W _).mono (Nat.le_succ _)).setCell (cb1 _) _).setCell (cb1 _) _).setCell (cb1 _) _))
  (first
   | (go_at_call 71; refine (ai5 v1 c.vars _ (HA1.out _ (by assumption)) (by omega)).mono ?_; rintro e w7 ⟨u1, rfl, o1, b7⟩; obtain ⟨x1, k1, rfl⟩ := o1.form; have s7 := b7.size; (try replace o2 := o2.keep b7 (by omega)); have q7 := HQ.out _ _ (by assumption) b7; have z7 := q7.size; obtain ⟨⟨f0, f1, f2⟩, c0, c1, c2⟩ := HT.out _ q7)
   | (go_at_call 71; refine (ai5 v2 c.arrays _ (HA2.out _ (by assumption)) (by omega)).mono ?_; rintro e w7 ⟨u2, rfl, o2, b7⟩; obtain ⟨x2, k2, rfl⟩ := o2.form; have s7 := b7.size; (try replace o1 := o1.keep b7 (by omega)); have q7 := HQ.out _ _ (by assumption) b7; have z7 := q7.size; obtain ⟨⟨f0, f1, f2⟩, c0, c1, c2⟩ := HT.out _ q7))
 have L2 := v9.below HL2.out q7 (by omega)
 have hn0 := HN.out
 have o3 := (hl.keep HB0.out (by have := HN.out; omega)).keep (q7.mono (show n ≤ n + 1 + 1 by omega)) (by have := HN.out; omega)
 have L3 := ((L2.set (j := 0) (.slice x1 c.vars.length k1)).set (j := 1) (.slice x2 c.arrays.length k2)).set (j := 2) (.slice p l.length k)
 replace o1 := (((o1.other (b := n + 1) (by omega) 0 (.slice x1 c.vars.length k1)).other (b := n + 1) (by omega) 1 (.slice x2 c.arrays.length k2)).other (b := n + 1) (by omega) 2 (.slice p l.length k))
 replace o2 := (((o2.other (b := n + 1) (by omega) 0 (.slice x1 c.vars.length k1)).other (b := n + 1) (by omega) 1 (.slice x2 c.arrays.length k2)).other (b := n + 1) (by omega) 2 (.slice p l.length k))
 replace o3 := (((o3.other (b := n + 1) (by omega) 0 (.slice x1 c.vars.length k1)).other (b := n + 1) (by omega) 1 (.slice x2 c.arrays.length k2)).other (b := n + 1) (by omega) 2 (.slice p l.length k))
 have BF := (((HB0.out.trans (q7.mono (by omega))).setCell (p := ⟨n + 1, 0, none⟩) (by show n ≤ n + 1; omega) (.slice x1 c.vars.length k1)).setCell (p := ⟨n + 1, 1, none⟩) (by show n ≤ n + 1; omega) (.slice x2 c.arrays.length k2)).setCell (p := ⟨n + 1, 2, none⟩) (by show n ≤ n + 1; omega) (.slice p l.length k)
 have zF : (((w7.setCell ⟨n + 1, 0, none⟩ (.slice x1 c.vars.length k1)).setCell ⟨n + 1, 1, none⟩ (.slice x2 c.arrays.length k2)).setCell ⟨n + 1, 2, none⟩ (.slice p l.length k)).heap.size = w7.heap.size := by simp
 generalize ((w7.setCell ⟨n + 1, 0, none⟩ (.slice x1 c.vars.length k1)).setCell ⟨n + 1, 1, none⟩ (.slice x2 c.arrays.length k2)).setCell ⟨n + 1, 2, none⟩ (.slice p l.length k) = WF at *
 have r0 := L3.cell 0
 have r1 := L3.cell 1
 have r2 := L3.cell 2
 simp at r0 r1 r2
 have hn' := HN.out
 clear f0 f1 f2 c0 c1 c2 L2 HS HQ HT HA HA1 HA2 HA3 HL2 HB0 hb0 hb1 HN
 go_wp2_with fail
 refine bodyPost_ret (v := .agg #[.slice x1 c.vars.length k1, .slice x2 c.arrays.length k2, .slice p l.length k]) (by simp [results, Tryz.results88, go_sem, r0, r1, r2]) rfl ⟨_, rfl, ⟨_, _, _, rfl, o1.wide (by omega) (by omega), o2.wide (by omega) (by omega), o3.wide (by omega) (by omega), U9 o1 o2 (by omega), U9 o1 o3 (by omega), U9 o2 o3 (by omega)⟩, by rw [← hn']; exact BF⟩
theorem af3 {P : Program} {w : World} {ops : Array Oper} {rest : List Oper} {o : Oper} {a : Act} {Q : Exit → Act → World → Prop} {t e : TypeId} {z : Value} {size bytes lo : Nat} {u v : Value} {m : Nat} {news : List Value}
  (hgd : o.guard = none) (s x : Operand) (ho : o.op = .call { callee := .builtin .append, args := #[s, x], argTypes := #[t, t] })
  (ht : P.underlying t = some (.slice e)) (hi : (P.info? e).map (fun i => (i.zero, i.size, i.bytes)) = some (some z, size, bytes))
  (hzs : z.cells.size = size) (hsz : 0 < size) (hv : ∃ b, v = .slice (some b) 0 0) (hown : w.ownsRow lo e size v 0 []) (hs : a.eval s = v) (hx : a.eval x = u) (hr : D3 w u m size news) (hbytes : m * bytes ≤ 140737488355328) (hlo : lo ≤ w.heap.size)
  (h : ∀ x w', w'.ownsRow lo e size x m news → Below w.heap.size w w' → (x = v ∨ ∀ g, x.ownBlock = some g → w.heap.size ≤ g) → wpList P ops Q rest (a.put o.dst x) w') : wpList P ops Q (o :: rest) a w := by
 obtain ⟨b, rfl⟩ := hv
 refine wpList_plain hgd fun K hK => ?_
 have hrun : ∃ x w', (Builtin.append_ #[t, t] o.type #[.slice (some b) 0 0, u]).run P w = .ok x w' ∧ w'.ownsRow lo e size x m news ∧ Below w.heap.size w w' ∧ (x = .slice (some b) 0 0 ∨ ∀ g, x.ownBlock = some g → w.heap.size ≤ g) := by
  obtain ⟨i, g1, g2, g3, g4⟩ := info_parts hi
  obtain ⟨hl, A, c, rfl, hmc, hc, hA⟩ := hr
  rcases Nat.eq_zero_or_pos m with h0 | h0
  ·subst h0
   have hn : news = [] := cc8 (by simpa using hl)
   subst hn
   refine ⟨.slice (some b) 0 0, w, ?_, hown, Below.refl _ _, .inl rfl⟩
   have hz : ∀ a' : Addr, (loadCells a' 0).run P w = .ok #[] w := fun a' => by simpa using run_loadCells_list (P := P) w a' [] (by simp)
   cases A <;> simp [Builtin.append_, run_underlying ht, sizeOf, typeInfo, g1, Builtin.lenOf, Builtin.firstCells, storeCells, hz]
  ·obtain ⟨bk, off, rfl, hbk, hx⟩ := hA h0
   obtain ⟨v', w', h1, h2, h3⟩ := run_append_arg_grows (P := P) (w := w) t o.type e i z size bytes ht g1 g2 g3 g4 hzs hsz b 0 0 [] (by simp) (by simp) ⟨bk, off, none⟩ m c news hl
    (fun j u hj => by
     have hadd : (⟨bk, off, none⟩ : Addr).add j = ⟨bk, off + j, none⟩ := by unfold Addr.add; split <;> simp_all
     rw [hadd]; exact hx j u hj) (by omega) (by omega) (by simpa using hbytes)
   refine ⟨v', w', h1, v8 (by simpa using h2) hlo, ⟨h3.os, h3.tape, h3.output, h3.size, fun k hk => h3.block k hk (by simp)⟩, .inr fun g hg => (h2.lt g hg).1⟩
 obtain ⟨y, w', hrun, h2, h3, h4⟩ := hrun
 unfold Oper.wp execOp
 simp only [ho, resolve, invoke, builtin, Sem.run_bind, Sem.run_pure, Result.andThen_ok, List.map_toArray, cd7, List.map_nil, hs, hx, hrun]
 exact hK _ _ (h y w' h2 h3 h4)
def K6 (i : Nat) : Prop := i % 4 = 0 ∨ i % 4 = 3
def Pv (n : Nat) (v1 v2 v3 : Value) (c : b6) (i : Nat) (x : Value) (w : World) : Prop :=
 match i with
 | 0 => (∃ b, x = .slice (some b) 0 0) ∧ w.ownsRow (n + 1 + 1) 3 1 x 0 []
 | 1 => x = .pointer (some ⟨n, 0, none⟩)
 | 2 => x = v1
 | 3 => w.ownsRow (n + 1 + 1) 3 1 x c.vars.length (ints c.vars)
 | 4 => (∃ b, x = .slice (some b) 0 0) ∧ w.ownsRow (n + 1 + 1) 3 1 x 0 []
 | 5 => x = .pointer (some ⟨n, 1, none⟩)
 | 6 => x = v2
 | 7 => w.ownsRow (n + 1 + 1) 3 1 x c.arrays.length (ints c.arrays)
 | 8 => (∃ b, x = .slice (some b) 0 0) ∧ w.ownsRow (n + 1 + 1) 60 5 x 0 []
 | 9 => x = .pointer (some ⟨n, 2, none⟩)
 | 10 => x = v3
 | 11 => w.ownsRow (n + 1 + 1) 60 5 x c.list.length (ints (t8 c.list))
 | 12 => ∃ y1 y2 y3, x = .agg #[y1, y2, y3] ∧ w.ownsRow (n + 1 + 1) 3 1 y1 c.vars.length (ints c.vars) ∧ w.ownsRow (n + 1 + 1) 3 1 y2 c.arrays.length (ints c.arrays) ∧ w.ownsRow (n + 1 + 1) 60 5 y3 c.list.length (ints (t8 c.list)) ∧ N9 y1 y2 ∧ N9 y1 y3 ∧ N9 y2 y3
 | _ => True
theorem Pv.next {n : Nat} {v1 v2 v3 : Value} {c : b6} {i : Nat} {x : Value} {w w' : World} (h : Pv n v1 v2 v3 c i x w) (hb : Below w.heap.size w w') : Pv n v1 v2 v3 c i x w' := by
 have k := fun {e : TypeId} {sz : Nat} {v : Value} {m : Nat} {xs : List Value} (g : w.ownsRow (n + 1 + 1) e sz v m xs) => H1 g hb (cb1 _)
 unfold Pv at *
 split at h <;> first | exact h | exact k h | exact ⟨h.1, k h.2⟩ | (obtain ⟨y1, y2, y3, e, g1, g2, g3, d⟩ := h; exact ⟨y1, y2, y3, e, k g1, k g2, k g3, d⟩)
theorem Pv.lt {n : Nat} {v1 v2 v3 : Value} {c : b6} {i : Nat} {x : Value} {w : World} (h : Pv n v1 v2 v3 c i x w) (hi : i < 12) (ho : K6 i) : ∀ g, x.ownBlock = some g → g < w.heap.size := by
 intro g hg
 unfold K6 at ho
 have : i = 0 ∨ i = 3 ∨ i = 4 ∨ i = 7 ∨ i = 8 ∨ i = 11 := by omega
 rcases this with rfl | rfl | rfl | rfl | rfl | rfl
 ·exact (h.2.lt g hg).2
 ·exact (World.ownsRow.lt h g hg).2
 ·exact (h.2.lt g hg).2
 ·exact (World.ownsRow.lt h g hg).2
 ·exact (h.2.lt g hg).2
 ·exact (World.ownsRow.lt h g hg).2
def Q7 (v : Value) (n : Nat) (f : Nat → Value) : Act := ⟨#[v, .pointer (some ⟨n, 0, none⟩), .pointer (some ⟨n + 1, 0, none⟩), f 0, f 1, f 2, f 3, f 4, f 5, f 6, f 7, f 8, f 9, f 10, f 11, f 12], []⟩
structure aq2 (n : Nat) (v1 v2 v3 : Value) (c : b6) (W : World) (listed : Array Bool) (f : Nat → Value) (w : World) : Prop where
 size : listed.size = 14
 val : ∀ i, i < 13 → listed.getD i false = true → Pv n v1 v2 v3 c i (f i) w
 dis : ∀ i j, i < 12 → j < 12 → K6 i → K6 j → i / 4 ≠ j / 4 → listed.getD i false = true → listed.getD j false = true → N9 (f i) (f j)
 box : Below (n + 1) W w
 big : n + 1 + 1 ≤ w.heap.size
 pre : listed.getD 13 false = false → Below (n + 1 + 1) W w
 post : listed.getD 13 false = true → ∃ y1 y2 y3, v9 w (n + 1) [y1, y2, y3] ∧ w.ownsRow (n + 1 + 1) 3 1 y1 c.vars.length (ints c.vars) ∧ w.ownsRow (n + 1 + 1) 3 1 y2 c.arrays.length (ints c.arrays) ∧ w.ownsRow (n + 1 + 1) 60 5 y3 c.list.length (ints (t8 c.list)) ∧ N9 y1 y2 ∧ N9 y1 y3 ∧ N9 y2 y3
def bT7 (n : Nat) (v1 v2 v3 : Value) (c : b6) (W : World) (listed : Array Bool) (a : Act) (w : World) : Prop := ∃ f : Nat → Value, a = Q7 (.agg #[v1, v2, v3]) n f ∧ aq2 n v1 v2 v3 c W listed f w
theorem aq2.step {n : Nat} {v1 v2 v3 : Value} {c : b6} {W : World} {listed : Array Bool} {f : Nat → Value} {w w' : World} (h : aq2 n v1 v2 v3 c W listed f w) {i : Nat} (hi : i < 13) {x : Value} (hb : Below w.heap.size w w') (hx : Pv n v1 v2 v3 c i x w')
  (hd : K6 i → ∀ j, j < 12 → K6 j → i / 4 ≠ j / 4 → listed.getD j false = true → N9 x (f j)) : aq2 n v1 v2 v3 c W (listed.setIfInBounds i true) (fun k => if k = i then x else f k) w' := by
 have hs := hb.size
 have hbig := h.big
 have get : ∀ j, j ≠ i → (listed.setIfInBounds i true).getD j false = true → listed.getD j false = true := fun j hj g => by rwa [getD_set_ne false (fun e => hj e.symm)] at g
 refine ⟨by simpa using h.size, fun j hj g => ?_, fun j k hj hk oj ok hjk gj gk => ?_, h.box.trans (hb.mono (by omega)), by omega, fun g => ?_, fun g => ?_⟩
 ·by_cases e : j = i
  ·subst e; simpa using hx
  ·simp only [if_neg e]; exact (h.val j hj (get j e g)).next hb
 ·by_cases e1 : j = i
  ·subst e1
   have e2 : k ≠ j := fun e => hjk (by rw [e])
   simp only [if_pos, if_neg e2]
   exact hd oj k hk ok hjk (get k e2 gk)
  ·by_cases e2 : k = i
   ·subst e2
    simp only [if_pos, if_neg e1]
    exact (hd ok j hj oj (fun e => hjk e.symm) (get j e1 gj)).symm
   ·simp only [if_neg e1, if_neg e2]
    exact h.dis j k hj hk oj ok hjk (get j e1 gj) (get k e2 gk)
 ·rw [getD_set_ne false (by omega)] at g
  exact (h.pre g).trans (hb.mono (by omega))
 ·rw [getD_set_ne false (by omega)] at g
  obtain ⟨y1, y2, y3, k0, k1, k2, k3, k4⟩ := h.post g
  exact ⟨y1, y2, y3, k0.below hb k0.lt, H1 k1 hb (cb1 _), H1 k2 hb (cb1 _), H1 k3 hb (cb1 _), k4⟩
theorem aq2.new {n : Nat} {v1 v2 v3 : Value} {c : b6} {W : World} {listed : Array Bool} {f : Nat → Value} {w : World} (h : aq2 n v1 v2 v3 c W listed f w) {x : Value} (hx : ∀ g, x.ownBlock = some g → w.heap.size ≤ g) : ∀ j, j < 12 → K6 j → listed.getD j false = true → N9 x (f j) := by
 intro j hj oj gj g h1 h2
 have := hx g h1
 have := (h.val j (by omega) gj).lt hj oj g h2
 omega
theorem ao5 {w : World} {base : Nat} {e : TypeId} {sz : Nat} {v : Value} {m : Nat} {xs : List Value} (h : w.ownsRow base e sz v m xs) {b : Nat} (hb : b < base) (j : Nat) (u : Value) : (w.setCell ⟨b, j, none⟩ u).ownsRow base e sz v m xs :=
 ((y7.mk' h).other (b := b) (.inl hb) j u).1
theorem Pv.store {n : Nat} {v1 v2 v3 : Value} {c : b6} {i : Nat} {x : Value} {w : World} (h : Pv n v1 v2 v3 c i x w) (j : Nat) (u : Value) : Pv n v1 v2 v3 c i x (w.setCell ⟨n + 1, j, none⟩ u) := by
 have k := fun {e : TypeId} {sz : Nat} {v : Value} {m : Nat} {xs : List Value} (g : w.ownsRow (n + 1 + 1) e sz v m xs) => ao5 g (cd8 (n + 1)) j u
 unfold Pv at *
 split at h <;> first | exact h | exact k h | exact ⟨h.1, k h.2⟩ | (obtain ⟨y1, y2, y3, e, g1, g2, g3, d⟩ := h; exact ⟨y1, y2, y3, e, k g1, k g2, k g3, d⟩)
theorem aq2.stored {n : Nat} {v1 v2 v3 : Value} {c : b6} {W : World} {listed : Array Bool} {f : Nat → Value} {w : World} (h : aq2 n v1 v2 v3 c W listed f w) {u0 u1 u2 : Value}
  (L : v9 (((w.setCell ⟨n + 1, 0, none⟩ u0).setCell ⟨n + 1, 1, none⟩ u1).setCell ⟨n + 1, 2, none⟩ u2) (n + 1) [u0, u1, u2]) (g1 : w.ownsRow (n + 1 + 1) 3 1 u0 c.vars.length (ints c.vars)) (g2 : w.ownsRow (n + 1 + 1) 3 1 u1 c.arrays.length (ints c.arrays)) (g3 : w.ownsRow (n + 1 + 1) 60 5 u2 c.list.length (ints (t8 c.list))) (dd : N9 u0 u1 ∧ N9 u0 u2 ∧ N9 u1 u2) :
  aq2 n v1 v2 v3 c W (listed.setIfInBounds 13 true) f (((w.setCell ⟨n + 1, 0, none⟩ u0).setCell ⟨n + 1, 1, none⟩ u1).setCell ⟨n + 1, 2, none⟩ u2) := by
 have get : ∀ j, j < 13 → (listed.setIfInBounds 13 true).getD j false = true → listed.getD j false = true := fun j hj g => by rwa [getD_set_ne false (by omega)] at g
 have hsz : (((w.setCell ⟨n + 1, 0, none⟩ u0).setCell ⟨n + 1, 1, none⟩ u1).setCell ⟨n + 1, 2, none⟩ u2).heap.size = w.heap.size := by simp
 have k := fun {e : TypeId} {sz : Nat} {v : Value} {m : Nat} {xs : List Value} (g : w.ownsRow (n + 1 + 1) e sz v m xs) => ao5 (ao5 (ao5 g (cd8 (n + 1)) 0 u0) (cd8 (n + 1)) 1 u1) (cd8 (n + 1)) 2 u2
 refine ⟨by simpa using h.size, fun j hj g => (((h.val j hj (get j hj g)).store 0 u0).store 1 u1).store 2 u2, fun i j hi hj oi oj hij gi gj => h.dis i j hi hj oi oj hij (get i (by omega) gi) (get j (by omega) gj), ?_, by rw [hsz]; exact h.big, fun g => ?_, fun _ => ⟨u0, u1, u2, L, k g1, k g2, k g3, dd⟩⟩
 ·exact ((h.box.setCell (p := ⟨n + 1, 0, none⟩) (cb1 _) u0).setCell (p := ⟨n + 1, 1, none⟩) (cb1 _) u1).setCell (p := ⟨n + 1, 2, none⟩) (cb1 _) u2
 ·have h14 := h.size
  simp [h14] at g
theorem aV6 (v : Value) (c : b6) (w : World) (h : r8 w v c) (hs : c.size ≤ 1048576) :
  Calls Tryz.prog 56 #[v] w fun e w' => ∃ u, e = .returned u ∧ y6 w' w.heap.size w'.heap.size u c ∧ Below w.heap.size w w' := by
 obtain ⟨v1, v2, v3, rfl, h1, h2, h3⟩ := h
 unfold b6.size at hs
 obtain ⟨n, hn⟩ : ∃ n, n = w.heap.size := ⟨_, rfl⟩
 obtain ⟨W, hW⟩ : ∃ W, W = (w.alloc (.cells #[v1, v2, v3] 26)).alloc (.cells #[.slice none 0 0, .slice none 0 0, .slice none 0 0] 26) := ⟨_, rfl⟩
 have B0 : Below n w W := by rw [hW, hn]; go_grown
 have sW : W.heap.size = n + 1 + 1 := by rw [hW, hn]; simp
 have L1 : v9 W n [v1, v2, v3] := by rw [hW, hn]; exact (v9.new w [v1, v2, v3] _).alloc _
 have L2 : v9 W (n + 1) [.slice none 0 0, .slice none 0 0, .slice none 0 0] := by rw [hW, hn]; exact v9.new' (w.alloc _) [.slice none 0 0, .slice none 0 0, .slice none 0 0] _ (by simp)
 have HB := show Hid (∀ W', Below (n + 1) W W' → (W'.cell? ⟨n, 0, none⟩ = some v1 ∧ W'.cell? ⟨n, 1, none⟩ = some v2 ∧ W'.cell? ⟨n, 2, none⟩ = some v3)) from by
  intro W' hb
  have L' := L1.below hb (by omega)
  exact ⟨by simpa using L'.cell 0, by simpa using L'.cell 1, by simpa using L'.cell 2⟩
 have hA : ∀ W', Below (n + 1) W W' → Below n w W' := fun W' g => B0.trans (g.mono (by omega))
 have HR1 := show Hid (∀ W', Below (n + 1) W W' → D3 W' v1 c.vars.length 1 (ints c.vars)) from fun W' g => h1.below (by rw [← hn]; exact hA _ g)
 have HR2 := show Hid (∀ W', Below (n + 1) W W' → D3 W' v2 c.arrays.length 1 (ints c.arrays)) from fun W' g => h2.below (by rw [← hn]; exact hA _ g)
 have HR3 := show Hid (∀ W', Below (n + 1) W W' → P3 W' v3 c.list) from fun W' g => h3.below (by rw [← hn]; exact hA _ g)
 have HA := show Hid _ from hA
 have HL2 := show Hid _ from L2
 have HN := show Hid (n = w.heap.size) from hn
 clear hA h1 h2 h3 L1 L2
 go_enter Tryz.func56, Tryz.ntmps56
 go_wp2_with fail
 rw [← HN.out]
 rw [← hW]
 clear hn hW B0
 refine aG1 (bT7 n v1 v2 v3 c W) (by kernel_rfl) (by kernel_rfl) ?_ ?_ ?_
 ·refine ⟨fun _ => undef, rfl, ⟨by simp, fun i hi g => ?_, fun i j _ _ _ _ _ g => ?_, (Below.refl _ _).drew, ?_, fun _ => (Below.refl _ _).drew, fun g => ?_⟩⟩
  ·rw [getD_replicate_false] at g; cases g
  ·rw [getD_replicate_false] at g; cases g
  ·exact Nat.le_of_eq sW.symm
  ·rw [getD_replicate_false] at g; cases g
 ·rintro listed a w ⟨f, rfl, hI⟩ i o ho hun hdep Q' hQ
  have HQ := show Hid _ from hQ
  clear hQ
  have hi : i < 14 := by simpa using (cb6.1 ho).1
  have hc : i = 0 ∨ i = 1 ∨ i = 2 ∨ i = 3 ∨ i = 4 ∨ i = 5 ∨ i = 6 ∨ i = 7 ∨ i = 8 ∨ i = 9 ∨ i = 10 ∨ i = 11 ∨ i = 12 ∨ i = 13 := by omega
  rcases hc with rfl | rfl | rfl | rfl | rfl | rfl | rfl | rfl | rfl | rfl | rfl | rfl | rfl | rfl
  ·simp only [cb4, Option.some.injEq] at ho
   subst ho
   unfold Q7
   go_wp2_with fail
   exact HQ.out _ _ ⟨_, rfl, hI.step (i := 0) (by omega) (by go_grown) ⟨⟨_, rfl⟩, v8 (t0 w #[] 0 1 3 rfl rfl (by omega)).1 hI.big⟩ fun _ j hj oj _ gj => hI.new (fun g hg => by cases hg; exact cb1 _) j hj oj gj⟩
  ·simp only [cb4, cb5, Option.some.injEq] at ho
   subst ho
   unfold Q7
   go_wp2_with fail
   exact HQ.out _ _ ⟨_, rfl, hI.step (i := 1) (by omega) (Below.refl _ _) rfl fun h => absurd h (by unfold K6; omega)⟩
  ·simp only [cb4, cb5, Option.some.injEq] at ho
   subst ho
   have e1 : f 1 = .pointer (some ⟨n, 0, none⟩) := hI.val 1 (by omega) (hdep { on := 1, ground := .data } (by simp) (by kernel_rfl))
   have cc := (HB.out w hI.box).1
   unfold Q7
   go_wp2_with fail
   exact HQ.out _ _ ⟨_, by simp [Q7, e1], hI.step (i := 2) (by omega) (Below.refl _ _) rfl fun h => absurd h (by unfold K6; omega)⟩
  ·simp only [cb4, cb5, Option.some.injEq] at ho
   subst ho
   have d0 : listed.getD 0 false = true := hdep { on := 0, ground := .data } (by simp) (by kernel_rfl)
   have e0 := hI.val 0 (by omega) d0
   have e2 : f 2 = v1 := hI.val 2 (by omega) (hdep { on := 2, ground := .data } (by simp) (by kernel_rfl))
   refine af3 rfl _ _ rfl Tryz.underlying23 ab9 rfl (by omega) e0.1 e0.2 rfl e2 (HR1.out w hI.box) (by omega) hI.big ?_
   intro x w' ox bx hx
   refine wpList_nil (HQ.out _ _ ⟨_, rfl, hI.step (i := 3) (by omega) bx ox fun _ j hj oj hjk gj => ?_⟩)
   rcases hx with rfl | hx
   ·exact hI.dis 0 j (by omega) hj (.inl rfl) oj hjk d0 gj
   ·exact hI.new hx j hj oj gj
  ·simp only [cb4, cb5, Option.some.injEq] at ho
   subst ho
   unfold Q7
   go_wp2_with fail
   exact HQ.out _ _ ⟨_, rfl, hI.step (i := 4) (by omega) (by go_grown) ⟨⟨_, rfl⟩, v8 (t0 w #[] 0 1 3 rfl rfl (by omega)).1 hI.big⟩ fun _ j hj oj _ gj => hI.new (fun g hg => by cases hg; exact cb1 _) j hj oj gj⟩
  ·simp only [cb4, cb5, Option.some.injEq] at ho
   subst ho
   unfold Q7
   go_wp2_with fail
   exact HQ.out _ _ ⟨_, rfl, hI.step (i := 5) (by omega) (Below.refl _ _) rfl fun h => absurd h (by unfold K6; omega)⟩
  ·simp only [cb4, cb5, Option.some.injEq] at ho
   subst ho
   have e1 : f 5 = .pointer (some ⟨n, 1, none⟩) := hI.val 5 (by omega) (hdep { on := 5, ground := .data } (by simp) (by kernel_rfl))
   have cc := (HB.out w hI.box).2.1
   unfold Q7
   go_wp2_with fail
   exact HQ.out _ _ ⟨_, by simp [Q7, e1], hI.step (i := 6) (by omega) (Below.refl _ _) rfl fun h => absurd h (by unfold K6; omega)⟩
  ·simp only [cb4, cb5, Option.some.injEq] at ho
   subst ho
   have d0 : listed.getD 4 false = true := hdep { on := 4, ground := .data } (by simp) (by kernel_rfl)
   have e0 := hI.val 4 (by omega) d0
   have e2 : f 6 = v2 := hI.val 6 (by omega) (hdep { on := 6, ground := .data } (by simp) (by kernel_rfl))
   refine af3 rfl _ _ rfl Tryz.underlying23 ab9 rfl (by omega) e0.1 e0.2 rfl e2 (HR2.out w hI.box) (by omega) hI.big ?_
   intro x w' ox bx hx
   refine wpList_nil (HQ.out _ _ ⟨_, rfl, hI.step (i := 7) (by omega) bx ox fun _ j hj oj hjk gj => ?_⟩)
   rcases hx with rfl | hx
   ·exact hI.dis 4 j (by omega) hj (.inl rfl) oj hjk d0 gj
   ·exact hI.new hx j hj oj gj
  ·simp only [cb4, cb5, Option.some.injEq] at ho
   subst ho
   unfold Q7
   go_wp2_with fail
   exact HQ.out _ _ ⟨_, rfl, hI.step (i := 8) (by omega) (by go_grown) ⟨⟨_, rfl⟩, v8 (t0 w #[] 0 5 60 rfl rfl (by omega)).1 hI.big⟩ fun _ j hj oj _ gj => hI.new (fun g hg => by cases hg; exact cb1 _) j hj oj gj⟩
  ·simp only [cb4, cb5, Option.some.injEq] at ho
   subst ho
   unfold Q7
   go_wp2_with fail
   exact HQ.out _ _ ⟨_, rfl, hI.step (i := 9) (by omega) (Below.refl _ _) rfl fun h => absurd h (by unfold K6; omega)⟩
  ·simp only [cb4, cb5, Option.some.injEq] at ho
   subst ho
   have e1 : f 9 = .pointer (some ⟨n, 2, none⟩) := hI.val 9 (by omega) (hdep { on := 9, ground := .data } (by simp) (by kernel_rfl))
   have cc := (HB.out w hI.box).2.2
   unfold Q7
   go_wp2_with fail
   exact HQ.out _ _ ⟨_, by simp [Q7, e1], hI.step (i := 10) (by omega) (Below.refl _ _) rfl fun h => absurd h (by unfold K6; omega)⟩
  ·simp only [cb4, cb5, Option.some.injEq] at ho
   subst ho
   have d0 : listed.getD 8 false = true := hdep { on := 8, ground := .data } (by simp) (by kernel_rfl)
   have e0 := hI.val 8 (by omega) d0
   have e2 : f 10 = v3 := hI.val 10 (by omega) (hdep { on := 10, ground := .data } (by simp) (by kernel_rfl))
   refine af3 rfl _ _ rfl Tryz.underlying24 aK9 rfl (by omega) e0.1 e0.2 rfl e2 (HR3.out w hI.box) (by omega) hI.big ?_
   intro x w' ox bx hx
   refine wpList_nil (HQ.out _ _ ⟨_, rfl, hI.step (i := 11) (by omega) bx ox fun _ j hj oj hjk gj => ?_⟩)
   rcases hx with rfl | hx
   ·exact hI.dis 8 j (by omega) hj (.inl rfl) oj hjk d0 gj
   ·exact hI.new hx j hj oj gj
  ·simp only [cb4, cb5, Option.some.injEq] at ho
   subst ho
   have d3 : listed.getD 3 false = true := hdep { on := 3, ground := .data } (by simp) (by kernel_rfl)
   have d7 : listed.getD 7 false = true := hdep { on := 7, ground := .data } (by simp) (by kernel_rfl)
   have d11 : listed.getD 11 false = true := hdep { on := 11, ground := .data } (by simp) (by kernel_rfl)
   have g3 : w.ownsRow (n + 1 + 1) 3 1 (f 3) c.vars.length (ints c.vars) := hI.val 3 (by omega) d3
   have g7 : w.ownsRow (n + 1 + 1) 3 1 (f 7) c.arrays.length (ints c.arrays) := hI.val 7 (by omega) d7
   have g11 : w.ownsRow (n + 1 + 1) 60 5 (f 11) c.list.length (ints (t8 c.list)) := hI.val 11 (by omega) d11
   have hD := show Pv n v1 v2 v3 c 12 (.agg #[f 3, f 7, f 11]) w from ⟨_, _, _, rfl, g3, g7, g11, hI.dis 3 7 (by omega) (by omega) (.inr rfl) (.inr rfl) (by omega) d3 d7, hI.dis 3 11 (by omega) (by omega) (.inr rfl) (.inr rfl) (by omega) d3 d11, hI.dis 7 11 (by omega) (by omega) (.inr rfl) (.inr rfl) (by omega) d7 d11⟩
   obtain ⟨a3, k3, e3⟩ := G2 g3
   obtain ⟨a7, k7, e7⟩ := G2 g7
   obtain ⟨a11, k11, e11⟩ := G2 g11
   rw [e3, e7, e11] at hD
   clear g3 g7 g11
   unfold Q7
   go_wp2_with fail
   exact HQ.out _ _ ⟨_, by simp [Q7, e3, e7, e11], hI.step (i := 12) (by omega) (Below.refl _ _) hD fun _ j _ _ _ _ g hg => by cases hg⟩
  ·simp only [cb4, cb5, Option.some.injEq] at ho
   subst ho
   obtain ⟨y1, y2, y3, e12, g1, g2, g3, dd⟩ : Pv n v1 v2 v3 c 12 (f 12) w := hI.val 12 (by omega) (hdep { on := 12, ground := .data } (by simp) (by kernel_rfl))
   have hpre := hI.pre (by have h14 := hI.size; simp [h14] at hun ⊢; exact hun)
   have L2 := v9.below HL2.out hpre (by omega)
   have c0 := L2.cell 0
   have c1 := L2.cell 1
   have c2 := L2.cell 2
   have f0 := L2.free 0
   have f1 := L2.free 1
   have f2 := L2.free 2
   simp only [cb4, cb5] at c0 c1 c2
   obtain ⟨a1, k1, rfl⟩ := G2 g1
   obtain ⟨a2, k2, rfl⟩ := G2 g2
   obtain ⟨a3, k3, rfl⟩ := G2 g3
   have L3 := ((L2.set (j := 0) (.slice a1 c.vars.length k1)).set (j := 1) (.slice a2 c.arrays.length k2)).set (j := 2) (.slice a3 c.list.length k3)
   have hst := hI.stored (u0 := .slice a1 c.vars.length k1) (u1 := .slice a2 c.arrays.length k2) (u2 := .slice a3 c.list.length k3) L3 g1 g2 g3 dd
   clear g1 g2 g3 L3 L2 hpre
   unfold Q7
   go_wp2_with fail
   exact HQ.out _ _ ⟨_, by simp [Q7, e12], hst⟩
 ·rintro listed a w ⟨f, rfl, hI⟩ hall
  obtain ⟨y1, y2, y3, L, g1, g2, g3, d12, d13, d23⟩ := hI.post (by have := hall 13 (by simp); have h14 := hI.size; simp [h14] at this ⊢; exact this)
  have BF := HA.out w hI.box
  have hbig := hI.big
  have r0 := L.cell 0
  have r1 := L.cell 1
  have r2 := L.cell 2
  simp only [cb4, cb5] at r0 r1 r2
  obtain ⟨a1, k1, rfl⟩ := G2 g1
  obtain ⟨a2, k2, rfl⟩ := G2 g2
  obtain ⟨a3, k3, rfl⟩ := G2 g3
  have hn' := HN.out
  unfold Q7
  go_wp2_with fail
  refine bodyPost_ret (v := .agg #[.slice a1 c.vars.length k1, .slice a2 c.arrays.length k2, .slice a3 c.list.length k3]) (by simp [results, Tryz.results56, go_sem, r0, r1, r2]) rfl ⟨_, rfl, ⟨_, _, _, rfl, (y7.mk' g1).wide (by omega) (cb1 _), (y7.mk' g2).wide (by omega) (cb1 _), (y7.mk' g3).wide (by omega) (cb1 _), d12, d13, d23⟩, by rw [← hn']; exact BF⟩
end Go.Proofs.YtmokkddidcmglaaGreat

namespace Go.Proofs.YtmokkddidcmglaaGreat
open Go Go.RowKit Go.ChangeShapes Go.WideShapes Go.Deep
section
variable {H : Type} {enc : TypeId × Value → H} {W : World}
end
end Go.Proofs.YtmokkddidcmglaaGreat

namespace Go.Proofs.YtmokkddidcmglaaGreat
open Go Go.RowKit
def P7 (w : World) (lo hi g : Nat) (m : List (List Bool)) : Prop :=
 T5 w lo hi (.slice (some ⟨g, 0, none⟩) m.length m.length) m ∧ ∀ i : Nat, i < m.length → (rowAt m i).length = 0 → w.cell? ⟨g, i, none⟩ = some (.slice none 0 0)
theorem P7.wide {w : World} {lo hi lo' hi' g : Nat} {m : List (List Bool)} (h : P7 w lo hi g m) (h1 : lo' ≤ lo) (h2 : hi ≤ hi') : P7 w lo' hi' g m := ⟨h.1.wide h1 h2, h.2⟩
theorem P7.lt {w : World} {lo hi g : Nat} {m : List (List Bool)} (h : P7 w lo hi g m) : lo ≤ g ∧ g < hi ∧ g < w.heap.size := by
 obtain ⟨vs, h1, _⟩ := h.1
 exact h1.lt g rfl
theorem P7.keep {w w' : World} {lo hi B g : Nat} {m : List (List Bool)} (h : P7 w lo hi g m) (hb : Below B w w') (hB : hi ≤ B) : P7 w' lo hi g m := by
 have hl := h.lt
 exact ⟨h.1.keep hb hB, fun i hi h0 => (hb.cell (p := ⟨g, i, none⟩) (by show g < B; omega)).trans (h.2 i hi h0)⟩
theorem P7.at {w : World} {lo hi g : Nat} {m : List (List Bool)} (h : P7 w lo hi g m) {i : Nat} (hi' : i < m.length) :
  w.frozen? ⟨g, i, none⟩ = false ∧ ∃ u, w.cell? ⟨g, i, none⟩ = some u ∧ y7 w lo hi 4 1 u (rowAt m i).length (bools (rowAt m i)) ∧ u.ownBlock ≠ some g := by
 obtain ⟨vs, h1, h2, h3, h4⟩ := h.1
 have hl : i < vs.length := by have := h1.1.1; omega
 obtain ⟨g', cap, hv, -, -, -, hf, u0, hc⟩ := h1.at hl
 cases hv
 obtain ⟨g', cap, hv, -, -, -, -, -, -, hcc⟩ := h1.open (by omega)
 cases hv
 have hu := ca8 hl
 refine ⟨hf, vs[i], hcc i _ hu, ?_, fun e => h4 i _ hu g e rfl⟩
 have := h2 i _ _ hu (ca8 hi')
 rw [ah6 hi']
 exact this
theorem bI7 {vs : List Value} {y : Nat} {u : Value} (hd : ∀ (i j : Nat) (a b : Value), i < j → vs[i]? = some a → vs[j]? = some b → N9 a b) (hu : ∀ i a, vs[i]? = some a → i ≠ y → N9 a u) :
  ∀ (i j : Nat) (a b : Value), i < j → (vs.set y u)[i]? = some a → (vs.set y u)[j]? = some b → N9 a b := by
 intro i j a b hij ha hb
 rw [List.getElem?_set] at ha hb
 by_cases h1 : y = i
 ·rw [if_pos h1] at ha
  have h2 : ¬ y = j := by omega
  rw [if_neg h2] at hb
  split at ha
  ·cases ha
   exact (hu j b hb (by omega)).symm
  ·cases ha
 ·rw [if_neg h1] at ha
  by_cases h2 : y = j
  ·rw [if_pos h2] at hb
   split at hb
   ·cases hb
    exact hu i a ha (by omega)
   ·cases hb
  ·rw [if_neg h2] at hb
   exact hd i j a b hij ha hb
theorem ag4 (w : World) (b j : Nat) (u : Value) (k : Nat) (h : k ≠ b) : (w.setCell ⟨b, j, none⟩ u).heap[k]? = w.heap[k]? := Below.heap_setCell _ _ _ _ h
theorem P7.setRow {w : World} {lo hi lo' hi' g : Nat} {m : List (List Bool)} (h : P7 w lo hi g m) {y : Nat} (hy : y < m.length) {u : Value} {r : List Bool} (hr : r.length = 14) (hu : y7 w lo' hi' 4 1 u 14 (bools r)) (h1 : hi ≤ lo') (h2 : lo' ≤ hi') :
  P7 (w.setCell ⟨g, y, none⟩ u) lo hi' g (m.set y r) := by
 have hgl := h.lt
 obtain ⟨⟨vs, k1, k2, k3, k4⟩, hnil⟩ := h
 have hvl : vs.length = m.length := by have := k1.1.1; omega
 have hug : ∀ g', u.ownBlock = some g' → g' ≠ g := fun g' e => by have := hu.lt g' e; omega
 refine ⟨⟨vs.set y u, ?_, ?_, ?_, ?_⟩, ?_⟩
 ·rw [cd2]
  exact (k1.setCell (by omega) u).wide (cb1 _) (by omega)
 ·intro i a r' ha hr'
  rw [List.getElem?_set] at ha hr'
  split at ha
  ·rename_i e
   rw [if_pos e] at hr'
   rw [if_pos hy] at hr'
   cases hr'
   split at ha
   ·cases ha
    rw [hr]
    exact (hu.same fun g' e => ag4 _ _ _ _ _ (hug g' e)).wide (by omega) (cb1 _)
   ·cases ha
  ·rename_i e
   rw [if_neg e] at hr'
   exact ((k2 i a r' ha hr').same fun g' e => ag4 _ _ _ _ _ fun e' => k4 i a ha g' e (by rw [e']; rfl)).wide (cb1 _) (by omega)
 ·refine bI7 k3 fun i a ha _ => ?_
  have hi : i < m.length := by have := (cb6.1 ha).1; omega
  exact U9 (k2 i a _ ha (ca8 hi)) hu (by omega)
 ·intro i a ha
  rw [List.getElem?_set] at ha
  split at ha
  ·split at ha
   ·cases ha
    exact fun g' e e' => hug g' e (by cases e'; rfl)
   ·cases ha
  ·have := k4 i a ha
   rw [cd2]
   exact this
 ·intro i hi h0
  rw [cd2] at hi
  rw [B8 _ _ hy] at h0
  split at h0
  ·omega
  ·rename_i e
   rw [World.cell?_setCell_other _ _ _ _ (by intro e'; cases e'; exact e (by simp))]
   exact hnil i hi h0
def ax1 (w : World) (g : Nat) (m : List (List Bool)) (b : Nat) : Prop := b = g ∨ ∃ (i : Nat) (u : Value), i < m.length ∧ w.cell? ⟨g, i, none⟩ = some u ∧ u.ownBlock = some b
theorem P7.blk {w : World} {lo hi g : Nat} {m : List (List Bool)} (h : P7 w lo hi g m) {b : Nat} (hb : ax1 w g m b) : lo ≤ b ∧ b < hi ∧ b < w.heap.size := by
 rcases hb with rfl | ⟨i, u, hi', hc, hu⟩
 ·exact h.lt
 ·obtain ⟨-, u', hc', ho, -⟩ := h.at hi'
  rw [hc] at hc'
  cases hc'
  exact ho.lt b hu
theorem aL3 {w w' : World} {b : Nat} (h : w'.heap[b]? = w.heap[b]?) (o : Nat) : w'.cell? ⟨b, o, none⟩ = w.cell? ⟨b, o, none⟩ := by simp [World.cell?, h]
theorem P7.same {w w' : World} {lo hi g : Nat} {m : List (List Bool)} (h : P7 w lo hi g m) (hs : ∀ b, ax1 w g m b → w'.heap[b]? = w.heap[b]?) : P7 w' lo hi g m ∧ ∀ b, ax1 w' g m b → ax1 w g m b := by
 have hg := hs g (.inl rfl)
 obtain ⟨⟨vs, k1, k2, k3, k4⟩, hnil⟩ := h
 have hvl : vs.length = m.length := by have := k1.1.1; omega
 have hrow : ∀ (i : Nat) (u : Value), vs[i]? = some u → i < m.length ∧ w.cell? ⟨g, i, none⟩ = some u := by
  intro i u hu
  have hi' := (cb6.1 hu).1
  obtain ⟨g', cap, hv, -, -, -, -, -, -, hcc⟩ := k1.open (by omega)
  cases hv
  exact ⟨by omega, hcc i u hu⟩
 refine ⟨⟨⟨vs, k1.same fun g' e => by cases e; exact hg, fun i u r hu hr => (k2 i u r hu hr).same fun b e => hs b (.inr ⟨i, u, (hrow i u hu).1, (hrow i u hu).2, e⟩), k3, k4⟩, fun i hi' h0 => (aL3 hg i).trans (hnil i hi' h0)⟩, ?_⟩
 rintro b (rfl | ⟨i, u, h1, h2, h3⟩)
 ·exact .inl rfl
 ·exact .inr ⟨i, u, h1, (aL3 hg i).symm.trans h2, h3⟩
theorem P7.next {w w' : World} {lo hi g : Nat} {m : List (List Bool)} (h : P7 w lo hi g m) (hb : Below w.heap.size w w') : P7 w' lo hi g m ∧ ∀ b, ax1 w' g m b → ax1 w g m b :=
 h.same fun b hb' => hb.block b (h.blk hb').2.2
theorem P7.grown {w w' : World} {lo hi g : Nat} {m : List (List Bool)} {row : Option Nat} (h : P7 w lo hi g m) (hg : w.grownBy w' row) (hne : ∀ b, row = some b → ¬ ax1 w g m b) : P7 w' lo hi g m ∧ ∀ b, ax1 w' g m b → ax1 w g m b :=
 h.same fun b hb' => hg.block b (h.blk hb').2.2 fun he => hne b he.symm hb'
theorem P7.setRow_blk {w : World} {lo hi g : Nat} {m : List (List Bool)} (h : P7 w lo hi g m) {y : Nat} (hy : y < m.length) (u : Value) (r : List Bool) {b : Nat} (hb : ax1 (w.setCell ⟨g, y, none⟩ u) g (m.set y r) b) : ax1 w g m b ∨ u.ownBlock = some b := by
 rcases hb with rfl | ⟨i, u', h1, h2, h3⟩
 ·exact .inl (.inl rfl)
 ·rw [cd2] at h1
  by_cases e : i = y
  ·subst e
   obtain ⟨hf, u0, hc, -, -⟩ := h.at hy
   rw [World.cell?_setCell_same _ _ _ hc] at h2
   cases h2
   exact .inr h3
  ·rw [World.cell?_setCell_other _ _ _ _ (by intro e'; cases e'; exact e rfl)] at h2
   exact .inl (.inr ⟨i, u', h1, h2, h3⟩)
def aL8 (w : World) (g : Nat) (m : List (List Bool)) (v : Value) : Prop := ∀ b, v.ownBlock = some b → ¬ ax1 w g m b
theorem aL8.next {w w' : World} {lo hi g : Nat} {m : List (List Bool)} {v : Value} (h : aL8 w g m v) (hS : P7 w lo hi g m) (hb : Below w.heap.size w w') : aL8 w' g m v := fun b hv hm => h b hv ((hS.next hb).2 b hm)
theorem aL8.setRow {w : World} {lo hi g y : Nat} {m : List (List Bool)} {v u : Value} {r : List Bool} (h : aL8 w g m v) (hS : P7 w lo hi g m) (hy : y < m.length) (hu : ∀ b, v.ownBlock = some b → u.ownBlock ≠ some b) : aL8 (w.setCell ⟨g, y, none⟩ u) g (m.set y r) v := by
 intro b hv hm
 rcases hS.setRow_blk hy _ _ hm with h1 | h1
 ·exact h b hv h1
 ·exact hu b hv h1
noncomputable def ca4 (w : World) (v : Value) : Nat := open Classical in if h : ∃ m, am2 w v m then pot h.choose else 0
theorem aG4 (us : List Value) : ∀ (y : Value) (ys : List Value) (p : Nat), setFrom (y :: ys) (p + 1) us = y :: setFrom ys p us := by
 induction us with
 | nil => intro y ys p; rfl
 | cons u r ih => intro y ys p; simp only [setFrom, List.set_cons_succ]; exact ih _ _ _
theorem ax8 (x : d8) : ∀ (l : List d8) (k : Nat), k < l.length → setFrom (ints (t8 l)) (k * 5) [.int .i64 x.op, .int .i64 x.a, .int .i64 x.b, .int .i64 x.c, .int .i64 x.d] = ints (t8 (l.set k x))
 | [], k, h => by simp at h
 | y :: l, 0, _ => by simp [setFrom, t8, ints]
 | y :: l, k + 1, h => by
  have ih := ax8 x l k (by simpa using h)
  have e : (k + 1) * 5 = k * 5 + 1 + 1 + 1 + 1 + 1 := by omega
  rw [e]
  simp only [t8, ints, cd7, List.set_cons_succ, aG4]
  simp only [ints] at ih
  rw [ih]
theorem aG2 (v : Value) (c : b6) (hc : e6 c = true) (w : World) (h : r8 w v c) :
  Calls Tryz.prog 29 #[v] w fun e w' => ∃ u, e = .returned u ∧ y6 w' w.heap.size w'.heap.size u (E7 c) ∧ Below w.heap.size w w' := by
 have hrow := h
 obtain ⟨v1, v2, v3, rfl, h1, h2, h3⟩ := h
 obtain ⟨a3, k3, rfl, -, hm3, -, hc3⟩ := h3.ins
 have hn4 := (i8 hc).2.2.1
 obtain ⟨n, hn⟩ : ∃ n, n = w.heap.size := ⟨_, rfl⟩
 obtain ⟨W, hW⟩ : ∃ W, W = (w.alloc (.cells #[v1, v2, .slice a3 c.list.length k3] 26)).alloc (.cells #[.slice none 0 0, .slice none 0 0, .slice none 0 0] 26) := ⟨_, rfl⟩
 have B0 : Below w.heap.size w W := by rw [hW]; go_grown
 have sW : W.heap.size = n + 1 + 1 := by rw [hW, hn]; simp
 have L1 : v9 W n [v1, v2, .slice a3 c.list.length k3] := by rw [hW, hn]; exact (v9.new w [v1, v2, .slice a3 c.list.length k3] _).alloc _
 have L2 : v9 W (n + 1) [.slice none 0 0, .slice none 0 0, .slice none 0 0] := by rw [hW, hn]; exact v9.new' (w.alloc _) [.slice none 0 0, .slice none 0 0, .slice none 0 0] _ (by simp)
 have x0 := L1.cell 0
 have x1 := L1.cell 1
 have x2 := L1.cell 2
 simp only [cb4, cb5] at x0 x1 x2
 rw [hW, hn] at x0 x1 x2
 go_enter Tryz.func29, Tryz.ntmps29
 go_wp2_with fail
 rw [← hW]
 clear hW x0 x1 x2
 refine (aV6 _ c _ (hrow.below B0) (S8 hc)).mono ?_
 rintro e w1 ⟨u, rfl, ou, b1⟩
 obtain ⟨y1, y2, y3, rfl, -⟩ := id ou
 obtain ⟨p1, q1, p2, q2, p3, q3, rfl, rfl, rfl⟩ := Code.rowOf ou
 obtain ⟨z1, z2, z3, hz, o1, o2, o3, d12, d13, d23⟩ := ou
 simp only [Value.agg.injEq, Array.mk.injEq, List.cons.injEq, and_true] at hz
 obtain ⟨rfl, rfl, rfl⟩ := hz
 have B1 := B0.trans (b1.mono B0.size)
 have s1 := b1.size
 replace L1 := L1.below b1 L1.lt
 replace L2 := L2.below b1 L2.lt
 go_wp2_with fail
 obtain ⟨T, hT⟩ : ∃ T, T = w1.heap.size := ⟨_, rfl⟩
 obtain ⟨w2, hw2⟩ : ∃ w2, w2 = w1.alloc (.cells #[.slice p1 c.vars.length q1, .slice p2 c.arrays.length q2, .slice p3 c.list.length q3] 26) := ⟨_, rfl⟩
 have L3 : v9 w2 T [.slice p1 c.vars.length q1, .slice p2 c.arrays.length q2, .slice p3 c.list.length q3] := by rw [hw2]; exact v9.new' w1 _ _ hT
 have b2 : Below w1.heap.size w1 w2 := by rw [hw2]; go_grown
 have s2 : w2.heap.size = T + 1 := by rw [hw2, hT]; simp
 rw [← hw2, ← hT]
 have B2 := B1.trans (b2.mono B1.size)
 replace L1 := L1.below b2 L1.lt
 replace L2 := L2.below b2 L2.lt
 replace o1 := (o1.keep b2 (cb1 _)).wide (show n + 1 + 1 ≤ W.heap.size by omega) (show w1.heap.size ≤ T by omega)
 replace o2 := (o2.keep b2 (cb1 _)).wide (show n + 1 + 1 ≤ W.heap.size by omega) (show w1.heap.size ≤ T by omega)
 replace o3 := (o3.keep b2 (cb1 _)).wide (show n + 1 + 1 ≤ W.heap.size by omega) (show w1.heap.size ≤ T by omega)
 have HT := show Hid (n + 1 + 1 ≤ T) from by unfold Hid; omega
 have HN := show Hid (n = w.heap.size) from hn
 have HD := show Hid _ from And.intro d12 (And.intro d13 d23)
 have HI := show Hid _ from hc3
 rw [← hn]
 clear hw2 hT b1 b2 B0 B1 sW s1 hc3 d12 d13 d23 hn
 rw [← ah8 c] at o3
 go_loopw [4] (fun i wr => ∃ k : Nat, k ≤ c.list.length ∧ i = .int .i64 k ∧ v9 wr n [v1, v2, .slice a3 c.list.length k3] ∧ v9 wr (n + 1) [.slice none 0 0, .slice none 0 0, .slice none 0 0] ∧ v9 wr T [.slice p1 c.vars.length q1, .slice p2 c.arrays.length q2, .slice p3 c.list.length q3] ∧
   y7 wr (n + 1 + 1) T 3 1 (.slice p1 c.vars.length q1) c.vars.length (ints c.vars) ∧ y7 wr (n + 1 + 1) T 3 1 (.slice p2 c.arrays.length q2) c.arrays.length (ints c.arrays) ∧ y7 wr (n + 1 + 1) T 60 5 (.slice p3 c.list.length q3) c.list.length (ints (t8 (N8 c k))) ∧ Below w.heap.size w wr) (fun i _ => c.list.length - (intOf i).toNat)
 case atStart => exact ⟨0, cc7 _, rfl, L1, L2, L3, o1, o2, by have := o3; simp only [ah8] at this ⊢; exact this, B2⟩
 case round =>
  obtain ⟨k, hk, rfl, hL1, hL2, hL3, ho1, ho2, ho3, hb⟩ := hrel
  clear L1 L2 L3 o1 o2 o3 B2
  have y2 := hL3.cell 2
  have x0 := hL1.cell 0
  have x1 := hL1.cell 1
  have x2 := hL1.cell 2
  simp only [cb4, cb5] at x0 x1 x2 y2
  by_cases hlt : k < c.list.length
  ·obtain ⟨b, off, rfl, hb3, i0, i1, i2, i3, i4⟩ := HI.out k hlt
   have hins := (i8 hc).2.2.2.1 k hlt
   rw [← (D8 hb).1 _ _ hb3] at i0 i1 i2 i3 i4
   have hbw : b < wr.heap.size := cf1 hb3 hb.size
   have HTH : Hid (J4 c c.list[k] = if 0 ≤ i6 c.list[k] then B5 c.list[k] (A0 c (i6 c.list[k])) else c.list[k]) := rfl
   have HTG := show Hid (0 ≤ i6 c.list[k] → B6 c (i6 c.list[k])) from fun g => ⟨g, R0 hins g⟩
   have HM := show Hid _ from ar8 c k hlt
   have HK := show Hid _ from aK6 c k hlt
   obtain ⟨x, hx⟩ : ∃ x, x = c.list[k] := ⟨_, rfl⟩
   rw [← hx] at i0 i1 i2 i3 i4 HTH HTG HM HK
   clear hins hx
   have hki : (k : Int) < c.list.length := by omega
   go_wp2_with fail
   refine (R6 x _).mono ?_
   rintro e w3 ⟨rfl, b3⟩
   have ho3x := ho3.keep b3 (by have := hL3.lt; omega)
   have ho1x := ho1.keep b3 (by have := hL3.lt; omega)
   have ho2x := ho2.keep b3 (by have := hL3.lt; omega)
   have hL1x := hL1.below b3 hL1.lt
   have hL2x := hL2.below b3 hL2.lt
   have hL3x := hL3.below b3 hL3.lt
   have hb3x := hb.trans (b3.mono hb.size)
   have e3 := (D8 b3).1
   rw [← e3 _ _ hbw] at i0 i1 i2 i3 i4
   clear x0 x1 x2 y2 hL1 hL2 ho1 ho2 ho3 e3
   by_cases ht : 0 ≤ i6 x
   ·have hpl := HTG.out ht
    have hth := HTH.out
    rw [if_pos ht] at hth
    have HTR := show Hid _ from hth
    have HT0 := show Hid _ from ht
    obtain ⟨t, htt⟩ : ∃ t, t = i6 x := ⟨_, rfl⟩
    obtain ⟨fz, hfz⟩ : ∃ fz, fz = A0 c t := ⟨_, rfl⟩
    rw [← htt] at hpl ht ⊢
    have hT0 : Hid (i6 x = t) := htt.symm
    have hF0 : Hid (A0 c t = fz) := hfz.symm
    have HTR' := show Hid (J4 c x = B5 x fz) from by unfold Hid; rw [HTR.out, hT0.out, hF0.out]
    have HC1 : Hid (∀ X, Calls Tryz.prog 57 #[x.v] (w3.ext X) fun e w'' => e = .returned (.int .i64 t) ∧ ∃ Y, w'' = w3.ext Y) := fun X => Calls.ext_of' ((R6 x _).mono fun e w' h => by rw [hT0.out] at h; exact h)
    have HC2 : Hid (∀ X, Calls Tryz.prog 59 #[.agg #[v1, v2, .slice (some ⟨b, off, none⟩) c.list.length k3], .int .i64 t] (w3.ext X) fun e w'' => e = .returned (.int .i64 fz) ∧ ∃ Y, w'' = w3.ext Y) :=
     fun X => Calls.ext_of' ((aN4 _ c hc t hpl _ ((hrow.below hb3x).below (t4 _ X))).mono fun e w' h => by rw [hF0.out] at h; exact h)
    obtain ⟨q, hq⟩ : ∃ q, q = B5 x fz := ⟨_, rfl⟩
    have HC3 : Hid (∀ X, Calls Tryz.prog 58 #[x.v, .int .i64 fz] (w3.ext X) fun e w'' => e = .returned (.agg #[.int .i64 q.op, .int .i64 q.a, .int .i64 q.b, .int .i64 q.c, .int .i64 q.d]) ∧ ∃ Y, w'' = w3.ext Y) := fun X => Calls.ext_of' ((aA2 x fz _).mono fun e w' h => by rw [← hq] at h; exact h)
    have HM2 := show Hid (N8 c (k + 1) = (N8 c k).set k q) from by unfold Hid; rw [HM.out, HTR'.out, hq]
    obtain ⟨g3, hv3, hg1, hg2, hg3, hfr, hcl⟩ : ∃ g3, p3 = some ⟨g3, 0, none⟩ ∧ n + 1 + 1 ≤ g3 ∧ g3 < T ∧ g3 < w3.heap.size ∧ (∀ o, w3.frozen? ⟨g3, o, none⟩ = false) ∧ ∀ j, j < 5 → ∃ u, w3.cell? ⟨g3, k * 5 + j, none⟩ = some u := by
     obtain ⟨g, cap, hv, q1, q2, q3, -, -, q6, q7⟩ := ho3x.open (by omega)
     cases hv
     have hl : (ints (t8 (N8 c k))).length = c.list.length * 5 := ho3x.1.1
     exact ⟨g, rfl, q1, q2, q3, q6, fun j hj => ⟨_, q7 _ _ (ca8 (by omega))⟩⟩
    subst hv3
    obtain ⟨c0, w0⟩ := hcl 0 (by omega)
    obtain ⟨c1, w1'⟩ := hcl 1 (by omega)
    obtain ⟨c2, w2'⟩ := hcl 2 (by omega)
    obtain ⟨c3, w3'⟩ := hcl 3 (by omega)
    obtain ⟨c4, w4'⟩ := hcl 4 (by omega)
    simp only [cf3] at w0
    have x0 := hL1x.cell 0
    have x1 := hL1x.cell 1
    have x2 := hL1x.cell 2
    have y2 := hL3x.cell 2
    simp only [cb4, cb5] at x0 x1 x2 y2
    have ZX0 := fun X => i5 x0 X
    have ZX1 := fun X => i5 x1 X
    have ZX2 := fun X => i5 x2 X
    have ZY2 := fun X => i5 y2 X
    have j0 := fun X => i5 i0 X
    have j1 := fun X => i5 i1 X
    have j2 := fun X => i5 i2 X
    have j3 := fun X => i5 i3 X
    have j4 := fun X => i5 i4 X
    have d0 := fun X => i5 w0 X
    have d1 := fun X => i5 w1' X
    have d2 := fun X => i5 w2' X
    have d3 := fun X => i5 w3' X
    have d4 := fun X => i5 w4' X
    have ff0 := fun X => s6 hg3 (hfr (k * 5)) X
    have ff1 := fun X => s6 hg3 (hfr (k * 5 + 1)) X
    have ff2 := fun X => s6 hg3 (hfr (k * 5 + 2)) X
    have ff3 := fun X => s6 hg3 (hfr (k * 5 + 3)) X
    have ff4 := fun X => s6 hg3 (hfr (k * 5 + 4)) X
    have hsz3 : (ints (t8 (N8 c k))).length = c.list.length * 5 := ho3x.1.1
    have HSZ := show Hid _ from hsz3
    have hT3 := hL3x.lt
    clear i0 i1 i2 i3 i4 w0 w1' w2' w3' w4' hcl hfr htt hfz hth hsz3 hpl HTG HTH HT0 HTR HK hq HTR' HM
    go_wp2_with fail
    clear x0 x1 x2 y2
    refine J7 18 _ rfl (by kernel_rfl) (by kernel_rfl) ?_
    simp only [List.set_cons_succ, List.set_cons_zero, Y1]
    repeat (any_goals (first | go_big_quiet_step ((first | (go_at_call 57; exact HC1.out _) | (go_at_call 59; exact HC2.out _) | (go_at_call 58; exact HC3.out _))) | quiet_step ((first | (go_at_call 57; exact HC1.out _) | (go_at_call 59; exact HC2.out _) | (go_at_call 58; exact HC3.out _)))))
    refine wpQuiet_nil ?_
    rintro _ ⟨X, rfl⟩
    go_wp2_with fail
    have bX := t4 w3 X
    have ho1X := ho1x.keep bX (by omega)
    have ho2X := ho2x.keep bX (by omega)
    have ho3X := ho3x.keep bX (by omega)
    have hL1X := hL1x.below bX hL1x.lt
    have hL2X := hL2x.below bX hL2x.lt
    have hL3X := hL3x.below bX hL3x.lt
    have hbX := hb3x.trans (bX.mono hb3x.size)
    have hO := V5.setFrom (lo := g3) (hi := g3 + 1) (p := k * 5) [.int .i64 q.op, .int .i64 q.a, .int .i64 q.b, .int .i64 q.c, .int .i64 q.d] (V5.refl g3 (g3 + 1) (w3.ext X)) (cb1 g3) (cd8 g3)
    have hS3 := ho3X.setFrom (p := k * 5) [.int .i64 q.op, .int .i64 q.a, .int .i64 q.b, .int .i64 q.c, .int .i64 q.d] (by rw [HSZ.out]; simp; omega)
    rw [ax8 q (N8 c k) k (by rw [ap2]; exact hlt), ← HM2.out] at hS3
    have htt : ∀ g, g3 ≤ g → g < g3 + 1 → (Value.slice (some ⟨g3, 0, none⟩) c.list.length q3).ownBlock = some g := fun g e1 e2 => by rw [show g = g3 by omega]; rfl
    refine ⟨⟨k + 1, by omega, by go_num, hL1X.out hO (by omega), hL2X.out hO (by omega), hL3X.out hO (by omega), ho1X.disj hO htt HD.out.2.1.symm, ho2X.disj hO htt HD.out.2.2.symm, hS3, ?_⟩, by simp [intOf]; omega⟩
    exact aa8 (g := g3) (p := k * 5) [.int .i64 q.op, .int .i64 q.a, .int .i64 q.b, .int .i64 q.c, .int .i64 q.d] hbX (by have := HN.out; omega)
   ·have hth := HTH.out
    rw [if_neg ht] at hth
    have HN2 := show Hid _ from HK.out hth
    have ht' : i6 x < 0 := by omega
    clear hth ht HTH HTG HK HM i0 i1 i2 i3 i4
    go_wp2_with fail
    exact ⟨⟨k + 1, by omega, by go_num, hL1x, hL2x, hL3x, ho1x, ho2x, by rw [HN2.out]; exact ho3x, hb3x⟩, by simp [intOf]; omega⟩
  ·have hkn : k = c.list.length := by omega
   subst hkn
   have y0 := hL3.cell 0
   have y1 := hL3.cell 1
   have z0 := hL2.cell 0
   have z1 := hL2.cell 1
   have z2 := hL2.cell 2
   simp only [cb4, cb5] at y0 y1 z0 z1 z2
   have f0 := hL2.free 0
   have f1 := hL2.free 1
   have f2 := hL2.free 2
   go_wp2_with fail
   have hn' := HN.out
   have hT' := HT.out
   have L4 := ((hL2.set (j := 0) (.slice p1 c.vars.length q1)).set (j := 1) (.slice p2 c.arrays.length q2)).set (j := 2) (.slice p3 c.list.length q3)
   have hO : V5 (n + 1) (n + 1 + 1) wr (((wr.setCell ⟨n + 1, 0, none⟩ (.slice p1 c.vars.length q1)).setCell ⟨n + 1, 1, none⟩ (.slice p2 c.arrays.length q2)).setCell ⟨n + 1, 2, none⟩ (.slice p3 c.list.length q3)) :=
    (((V5.refl (n + 1) (n + 1 + 1) wr).setCell (p := ⟨n + 1, 0, none⟩) (cb1 _) (cd8 _) _).setCell (p := ⟨n + 1, 1, none⟩) (cb1 _) (cd8 _) _).setCell (p := ⟨n + 1, 2, none⟩) (cb1 _) (cd8 _) _
   replace ho1 := ho1.out hO (.inr (cb1 _))
   replace ho2 := ho2.out hO (.inr (cb1 _))
   replace ho3 := ho3.out hO (.inr (cb1 _))
   rw [aY5] at ho3
   have hTs := hL3.lt
   have zF : (((wr.setCell ⟨n + 1, 0, none⟩ (.slice p1 c.vars.length q1)).setCell ⟨n + 1, 1, none⟩ (.slice p2 c.arrays.length q2)).setCell ⟨n + 1, 2, none⟩ (.slice p3 c.list.length q3)).heap.size = wr.heap.size := by simp
   have hll : (E7 c).list.length = c.list.length := by simp [E7]
   have BF := ((hb.setCell (p := ⟨n + 1, 0, none⟩) (by show w.heap.size ≤ n + 1; omega) (.slice p1 c.vars.length q1)).setCell (p := ⟨n + 1, 1, none⟩) (by show w.heap.size ≤ n + 1; omega) (.slice p2 c.arrays.length q2)).setCell (p := ⟨n + 1, 2, none⟩) (by show w.heap.size ≤ n + 1; omega) (.slice p3 c.list.length q3)
   have r0 := L4.cell 0
   have r1 := L4.cell 1
   have r2 := L4.cell 2
   simp only [cb4, cb5, List.set_cons_zero, List.set_cons_succ] at r0 r1 r2
   generalize ((wr.setCell ⟨n + 1, 0, none⟩ (.slice p1 c.vars.length q1)).setCell ⟨n + 1, 1, none⟩ (.slice p2 c.arrays.length q2)).setCell ⟨n + 1, 2, none⟩ (.slice p3 c.list.length q3) = WF at *
   refine bodyPost_ret (v := .agg #[.slice p1 c.vars.length q1, .slice p2 c.arrays.length q2, .slice p3 c.list.length q3]) (by simp [results, Tryz.results29, go_sem, r0, r1, r2]) rfl ⟨_, rfl, ⟨_, _, _, rfl, ho1.wide (by omega) (by omega), ho2.wide (by omega) (by omega), ?_, HD.out.1, HD.out.2.1, HD.out.2.2⟩, BF⟩
   rw [hll]
   exact ho3.wide (by omega) (by omega)
def ar9 (ks : List Bool) (n k : Nat) : List Int := ae8 ks k ++ ca7 (n - k) 0
theorem aY6 (ks : List Bool) {n k : Nat} (h : k ≤ n) : (ar9 ks n k).length = n := by simp [ar9, O5]; omega
theorem bl5 (ks : List Bool) (n : Nat) : ar9 ks n 0 = ca7 n 0 := by simp [ar9, ae8]
theorem bw4 (ks : List Bool) (n : Nat) : ar9 ks n n = ae8 ks n := by simp [ar9]
theorem bl6 (ks : List Bool) {n k : Nat} (h : k < n) : ar9 ks n (k + 1) = (ar9 ks n k).set k (Q3 ks k : Int) := by
 unfold ar9
 rw [List.set_append_right _ _ (by rw [O5]; exact cb1 _), O5, Nat.sub_self, aK4]
 obtain ⟨d, hd⟩ : ∃ d, n - k = d + 1 := ⟨n - k - 1, by omega⟩
 rw [hd, show n - (k + 1) = d by omega, List.replicate_succ]
 simp
theorem aQ2 (v u : Value) (c : b6) (ds ks : List Bool) (hc : e6 c = true) (w : World) (h : r8 w v c) (hu : D3 w u c.list.length 1 (bools ds)) (hks : ks.length = c.list.length) (hkd : ∀ i, i < c.list.length → ds.getD i false = !ks.getD i false) :
  Calls Tryz.prog 68 #[v, u] w fun e w' => ∃ z, e = .returned z ∧ y6 w' w.heap.size w'.heap.size z { c with list := j6 c ks c.list.length } ∧ Below w.heap.size w w' := by
 have hrow := h
 obtain ⟨v1, v2, v3, rfl, h1, h2, h3⟩ := h
 obtain ⟨a3, k3, rfl, -, hm3, -, hc3⟩ := h3.ins
 obtain ⟨au, cu, rfl, -, -, -, hcu⟩ := hu.open1
 have hn4 := (i8 hc).2.2.1
 have hn1 := (i8 hc).2.1
 obtain ⟨n, hn⟩ : ∃ n, n = w.heap.size := ⟨_, rfl⟩
 obtain ⟨W, hW⟩ : ∃ W, W = (w.alloc (.cells #[v1, v2, .slice a3 c.list.length k3] 26)).alloc (.cells #[.slice none 0 0, .slice none 0 0, .slice none 0 0] 26) := ⟨_, rfl⟩
 have B0 : Below w.heap.size w W := by rw [hW]; go_grown
 have sW : W.heap.size = n + 1 + 1 := by rw [hW, hn]; simp
 have L1 : v9 W n [v1, v2, .slice a3 c.list.length k3] := by rw [hW, hn]; exact (v9.new w [v1, v2, .slice a3 c.list.length k3] _).alloc _
 have L2 : v9 W (n + 1) [.slice none 0 0, .slice none 0 0, .slice none 0 0] := by rw [hW, hn]; exact v9.new' (w.alloc _) [.slice none 0 0, .slice none 0 0, .slice none 0 0] _ (by simp)
 have hmk := ap3 (P := Tryz.prog) (t := 23) Tryz.underlying23 ab9 rfl (by omega) c.list.length (by omega) hm3
 have hown := ao6 W (Value.int .i64 0).cells.toList c.list.length 1 3 rfl hm3
 rw [show (Value.int .i64 0).cells.toList = [Value.int .i64 0] from rfl, G5, sW] at hown
 rw [show (Value.int .i64 0).cells.toList = [Value.int .i64 0] from rfl, G5] at hmk
 have eR : (ca7 c.list.length (Value.int .i64 0)).toArray = cd9 c.list.length (Value.int .i64 0) := by simp
 rw [eR] at hmk hown
 have hown1 : y7 (W.alloc (.cells (cd9 c.list.length (Value.int .i64 0)) 3)) (n + 1 + 1) (n + 1 + 1 + 1) 3 1 (.slice (some ⟨n + 1 + 1, 0, none⟩) c.list.length c.list.length) c.list.length (ints (ar9 ks c.list.length 0)) := by
  rw [bl5, ints, List.map_replicate]; exact hown
 have x2 : (W.alloc (.cells (cd9 c.list.length (Value.int .i64 0)) 3)).cell? ⟨n, 2, none⟩ = some (.slice a3 c.list.length k3) := by simpa using (L1.alloc (.cells (cd9 c.list.length (Value.int .i64 0)) 3)).cell 2
 have x2' := L1.cell 2
 simp only [cb4, cb5] at x2'
 generalize cd9 c.list.length (Value.int .i64 0) = zn at *
 rw [hW, hn] at x2 x2'
 go_enter Tryz.func68, Tryz.ntmps68
 go_wp2_with fail
 rw [← hW, ← hn]
 clear x2 x2' hW hmk eR hown
 obtain ⟨W2, hW2⟩ : ∃ W2, W2 = W.alloc (.cells zn 3) := ⟨_, rfl⟩
 have bz : Below W.heap.size W W2 := by rw [hW2]; go_grown
 have s2 : W2.heap.size = n + 1 + 1 + 1 := by rw [hW2]; simp [sW]
 rw [← hW2] at hown1 ⊢
 replace L1 := L1.below bz L1.lt
 replace L2 := L2.below bz L2.lt
 have B2 := B0.trans (bz.mono B0.size)
 have HN := show Hid (n = w.heap.size) from hn
 have HI := show Hid _ from hc3
 have HU := show Hid _ from hcu
 have HKD := show Hid _ from hkd
 clear hW2 bz sW B0 hc3 hcu hkd hn
 go_loopw [6, 7, 19] (fun q _ i wr => ∃ k : Nat, k ≤ c.list.length ∧ i = .int .i64 k ∧ q = .int .i64 (Q3 ks k : Int) ∧ v9 wr n [v1, v2, .slice a3 c.list.length k3] ∧ v9 wr (n + 1) [.slice none 0 0, .slice none 0 0, .slice none 0 0] ∧
   y7 wr (n + 1 + 1) (n + 1 + 1 + 1) 3 1 (.slice (some ⟨n + 1 + 1, 0, none⟩) c.list.length c.list.length) c.list.length (ints (ar9 ks c.list.length k)) ∧ Below w.heap.size w wr) (fun _ _ i _ => c.list.length - (intOf i).toNat)
 case atStart => exact ⟨0, cc7 _, rfl, by rw [ab3]; rfl, L1, L2, hown1, B2⟩
 case round =>
  obtain ⟨k, hk, rfl, rfl, hL1, hL2, ho, hb⟩ := hrel
  clear L1 L2 hown1 B2
  by_cases hlt : k < c.list.length
  ·obtain ⟨b, off, rfl, hbk, hy⟩ := HU.out k hlt
   have hdl : ds.length = c.list.length := by have := hu.1; simpa [bools] using this
   rw [V4 _ _ (by omega), ← (D8 hb).1 _ _ hbk] at hy
   have hde : ds[k]'(by omega) = !ks.getD k false := by rw [← HKD.out k hlt]; simp [show k < ds.length by omega]
   rw [hde] at hy
   have HP := show Hid _ from bl6 ks hlt
   have HS := show Hid _ from W5 ks k (by omega)
   obtain ⟨g, cap, hv, -, -, -, hf, u0, hcc⟩ := ho.at (j := k) (by rw [aZ5, aY6 ks hk]; exact hlt)
   cases hv
   have hSet := ho.setCell (j := k) (by rw [aZ5, aY6 ks hk]; exact hlt) (.int .i64 (Q3 ks k : Int))
   rw [show (ints (ar9 ks c.list.length k)).set k (.int .i64 (Q3 ks k : Int)) = ints ((ar9 ks c.list.length k).set k (Q3 ks k : Int)) by simp [ints, List.map_set], ← HP.out] at hSet
   have hL1x := hL1.other (p := ⟨n + 1 + 1, k, none⟩) (by show n ≠ n + 1 + 1; omega) (.int .i64 (Q3 ks k : Int))
   have hL2x := hL2.other (p := ⟨n + 1 + 1, k, none⟩) (by show n + 1 ≠ n + 1 + 1; omega) (.int .i64 (Q3 ks k : Int))
   have hbx := hb.setCell (p := ⟨n + 1 + 1, k, none⟩) (by show w.heap.size ≤ n + 1 + 1; have := HN.out; omega) (.int .i64 (Q3 ks k : Int))
   have hyx : (wr.setCell ⟨n + 1 + 1, k, none⟩ (.int .i64 (Q3 ks k : Int))).cell? ⟨b, off + k, none⟩ = some (.bool !ks.getD k false) := by
    rw [World.cell?_setCell_other _ _ _ _ (by intro e; have e1 : n + 1 + 1 = b := congrArg Addr.block e; have := HN.out; omega)]
    exact hy
   have hpl := bv0 ks k
   clear hde hdl hy
   cases hkb : ks.getD k false
   ·have HN1 := show Hid (Q3 ks (k + 1) = Q3 ks k) from by unfold Hid; rw [HS.out, hkb]; simp
    rw [hkb] at hyx
    simp only [Bool.not_false] at hyx
    clear hkb
    go_wp2_with fail
    exact ⟨⟨k + 1, by omega, by go_num, by rw [HN1.out], hL1x, hL2x, hSet, hbx⟩, by simp [intOf]; omega⟩
   ·have HN1 := show Hid (Q3 ks (k + 1) = Q3 ks k + 1) from by unfold Hid; rw [HS.out, hkb]; simp
    rw [hkb] at hyx
    simp only [Bool.not_true] at hyx
    clear hkb
    go_wp2_with fail
    exact ⟨⟨k + 1, by omega, by go_num, by rw [HN1.out]; go_num, hL1x, hL2x, hSet, hbx⟩, by simp [intOf]; omega⟩
  ·have hkn : k = c.list.length := by omega
   subst hkn
   rw [bw4] at ho
   have x2 := hL1.cell 2
   simp only [cb4, cb5] at x2
   go_wp2_with fail
   clear x2
   go_loopw [8, 9, 10, 11, 37] (fun q _ _ _ i wr => ∃ (k : Nat) (a : Option Addr) (cq : Nat), k ≤ c.list.length ∧ i = .int .i64 k ∧ q = .slice a (j6 c ks k).length cq ∧ wr.ownsRow (n + 1 + 1 + 1) 60 5 q (j6 c ks k).length (ints (t8 (j6 c ks k))) ∧ v9 wr n [v1, v2, .slice a3 c.list.length k3] ∧ v9 wr (n + 1) [.slice none 0 0, .slice none 0 0, .slice none 0 0] ∧
     y7 wr (n + 1 + 1) (n + 1 + 1 + 1) 3 1 (.slice (some ⟨n + 1 + 1, 0, none⟩) c.list.length c.list.length) c.list.length (ints (ae8 ks c.list.length)) ∧ Below w.heap.size w wr) (fun _ _ _ _ i _ => c.list.length - (intOf i).toNat)
   case atStart => exact ⟨0, none, 0, cc7 _, rfl, rfl, World.ownsRow_nil _ _ _ _, hL1, hL2, ho, hb⟩
   case round =>
    clear hL1 hL2 ho hb
    obtain ⟨k, a, cq, hk, rfl, rfl, hq, hL1, hL2, ho, hb⟩ := hrel
    by_cases hlt : k < c.list.length
    ·obtain ⟨b, off, rfl, hbk, hy⟩ := HU.out k hlt
     obtain ⟨bl, ol, he3, hb3, i0, i1, i2, i3, i4⟩ := HI.out k hlt
     have hdl : ds.length = c.list.length := by have := hu.1; simpa [bools] using this
     rw [V4 _ _ (by omega), ← (D8 hb).1 _ _ hbk] at hy
     have hde : ds[k]'(by omega) = !ks.getD k false := by rw [← HKD.out k hlt]; simp [show k < ds.length by omega]
     rw [hde] at hy
     have hins := (i8 hc).2.2.2.1 k hlt
     rw [← (D8 hb).1 _ _ hb3] at i0 i1 i2 i3 i4
     have HTG := show Hid (0 ≤ i6 c.list[k] → B6 c (i6 c.list[k])) from fun g => ⟨g, R0 hins g⟩
     have HTR : Hid (trI ks c.list[k] = if 0 ≤ i6 c.list[k] then B5 c.list[k] (Q3 ks (i6 c.list[k]).toNat : Int) else c.list[k]) := rfl
     have HPUT := show Hid (ks.getD k false = true → j6 c ks (k + 1) = j6 c ks k ++ [trI ks c.list[k]]) from fun g => by rw [V0 g, B9 hlt]
     have HSKIP := show Hid (ks.getD k false = false → j6 c ks (k + 1) = j6 c ks k) from fun g => V7 g
     have hle := an4 c ks k
     obtain ⟨x, hx⟩ : ∃ x, x = c.list[k] := ⟨_, rfl⟩
     rw [← hx] at i0 i1 i2 i3 i4 HTG HTR HPUT
     have hki : (k : Int) < c.list.length := by omega
     have hPl : n + 1 + 1 < wr.heap.size := (ho.lt _ rfl).2.2
     have hbw : b < wr.heap.size := cf1 hbk hb.size
     have b4 : Below wr.heap.size wr (wr.alloc (.cells #[.int .i64 x.op, .int .i64 x.a, .int .i64 x.b, .int .i64 x.c, .int .i64 x.d] 60)) := by go_grown
     have hyx : (wr.alloc (.cells #[.int .i64 x.op, .int .i64 x.a, .int .i64 x.b, .int .i64 x.c, .int .i64 x.d] 60)).cell? ⟨b, off + k, none⟩ = some (.bool !ks.getD k false) := ((D8 b4).1 _ _ hbw).trans hy
     subst he3
     clear hde hdl hins hx
     have hq4 := H1 hq b4 (cb1 _)
     have ho4 := ho.keep b4 (by omega)
     have hL14 := hL1.below b4 hL1.lt
     have hL24 := hL2.below b4 hL2.lt
     have hb4 := hb.trans (b4.mono hb.size)
     have LX := v9.new wr [.int .i64 x.op, .int .i64 x.a, .int .i64 x.b, .int .i64 x.c, .int .i64 x.d] 60
     cases hkb : ks.getD k false
     ·have HN1 := show Hid (j6 c ks (k + 1) = j6 c ks k) from HSKIP.out hkb
      rw [hkb] at hyx
      simp only [Bool.not_false] at hyx
      clear hkb HSKIP HPUT
      go_wp2_with fail
      refine ⟨⟨k + 1, a, cq, by omega, by go_num, by rw [HN1.out], by rw [HN1.out]; exact hq4, hL14, hL24, ho4, hb4⟩, by simp [intOf]; omega⟩
     ·have HN1 := show Hid (j6 c ks (k + 1) = j6 c ks k ++ [trI ks x]) from HPUT.out hkb
      rw [hkb] at hyx
      simp only [Bool.not_true] at hyx
      clear hkb HSKIP HPUT
      go_wp2_with fail
      clear hyx hy i0 i1 i2 i3 i4
      obtain ⟨w4, hw4⟩ : ∃ w4, w4 = wr.alloc (.cells #[.int .i64 x.op, .int .i64 x.a, .int .i64 x.b, .int .i64 x.c, .int .i64 x.d] 60) := ⟨_, rfl⟩
      rw [← hw4] at LX hq4 ho4 hL14 hL24 hb4 ⊢
      have LXs : w4.heap.size = wr.heap.size + 1 := by rw [hw4]; simp
      have hqlt : ∀ g, (Value.slice a (j6 c ks k).length cq).ownBlock = some g → g < wr.heap.size := fun g e => (hq.lt g e).2
      obtain ⟨X0, hX0⟩ : ∃ X0, X0 = wr.heap.size := ⟨_, rfl⟩
      rw [← hX0] at LX LXs hqlt hPl ⊢
      clear hw4 hq ho hL1 hL2 hb b4 hbw hX0
      refine (Z6 x _).mono ?_
      rintro e w5 ⟨rfl, b5⟩
      have hX5 := b5.size
      have hq5 := H1 hq4 b5 (cb1 _)
      have ho5 := ho4.keep b5 (by omega)
      have hL15 := hL14.below b5 hL14.lt
      have hL25 := hL24.below b5 hL24.lt
      have LX5 := LX.below b5 LX.lt
      have hb5 := hb4.trans (b5.mono hb4.size)
      have hX3 : X0 < w5.heap.size := by omega
      clear b5 hq4 ho4 hL14 hL24 LX hb4
      by_cases ht : 0 ≤ i6 x
      ·have hpl := HTG.out ht
       have htr := HTR.out
       rw [if_pos ht] at htr
       obtain ⟨t, htt⟩ : ∃ t : Nat, i6 x = t := ⟨(i6 x).toNat, by omega⟩
       have HT0 := show Hid (0 ≤ i6 x) from ht
       rw [htt] at htr hpl ht ⊢
       rw [ce4] at htr
       obtain ⟨hp0, hp1⟩ := hpl
       have htl : t < c.list.length := by omega
       obtain ⟨g, cap, hv, -, -, -, -, -, -, hcc⟩ := ho5.open (by omega)
       cases hv
       have hpc := hcc t _ (by rw [O7 _ _ (by rw [O5]; exact htl)])
       have hpe : (ae8 ks c.list.length)[t]'(by rw [O5]; exact htl) = (Q3 ks t : Int) := by
        have := aX6 ks c.list.length t htl
        rw [ca8 (by rw [O5]; exact htl)] at this
        exact Option.some.inj this
       rw [hpe] at hpc
       obtain ⟨q, hqe⟩ : ∃ q, q = B5 x (Q3 ks t : Int) := ⟨_, rfl⟩
       have HQE := show Hid (trI ks x = q) from by unfold Hid; rw [htr, hqe]
       have HC3 : Hid (∀ X, Calls Tryz.prog 53 #[x.v, .int .i64 (Q3 ks t : Int)] (w5.ext X) fun e w'' => e = .returned (.agg #[.int .i64 q.op, .int .i64 q.a, .int .i64 q.b, .int .i64 q.c, .int .i64 q.d]) ∧ ∃ Y, w'' = w5.ext Y) := fun X => Calls.ext_of' ((aQ4 x _ _ HT0.out).mono fun e w' h => by rw [← hqe] at h; exact h)
       have i0 := LX5.cell 0
       have i1 := LX5.cell 1
       have i2 := LX5.cell 2
       have i3 := LX5.cell 3
       have i4 := LX5.cell 4
       simp only [cb4, cb5] at i0 i1 i2 i3 i4
       have j0 := fun X => i5 i0 X
       have j1 := fun X => i5 i1 X
       have j2 := fun X => i5 i2 X
       have j3 := fun X => i5 i3 X
       have j4 := fun X => i5 i4 X
       have jp := fun X => i5 hpc X
       have ff0 := fun X => s6 hX3 (LX5.free 0) X
       have ff1 := fun X => s6 hX3 (LX5.free 1) X
       have ff2 := fun X => s6 hX3 (LX5.free 2) X
       have ff3 := fun X => s6 hX3 (LX5.free 3) X
       have ff4 := fun X => s6 hX3 (LX5.free 4) X
       clear i0 i1 i2 i3 i4 hpc hcc hpe hqe htr htt
       go_wp2_with fail
       refine J7 6 _ rfl (by kernel_rfl) (by kernel_rfl) ?_
       simp only [List.set_cons_succ, List.set_cons_zero, Y1]
       repeat (any_goals (first | go_big_quiet_step ((go_at_call 53; exact HC3.out _)) | quiet_step ((go_at_call 53; exact HC3.out _))))
       refine wpQuiet_nil ?_
       rintro _ ⟨X, rfl⟩
       have bX := t4 w5 X
       have LXX := LX5.below bX LX5.lt
       have LX6 : v9 ((((((w5.ext X).setCell ⟨X0, 0, none⟩ (.int .i64 q.op)).setCell ⟨X0, 1, none⟩ (.int .i64 q.a)).setCell ⟨X0, 2, none⟩ (.int .i64 q.b)).setCell ⟨X0, 3, none⟩ (.int .i64 q.c)).setCell ⟨X0, 4, none⟩ (.int .i64 q.d)) X0 [.int .i64 q.op, .int .i64 q.a, .int .i64 q.b, .int .i64 q.c, .int .i64 q.d] := ((((LXX.set (j := 0) (.int .i64 q.op)).set (j := 1) (.int .i64 q.a)).set (j := 2) (.int .i64 q.b)).set (j := 3) (.int .i64 q.c)).set (j := 4) (.int .i64 q.d)
       have hO : V5 X0 (X0 + 1) (w5.ext X) ((((((w5.ext X).setCell ⟨X0, 0, none⟩ (.int .i64 q.op)).setCell ⟨X0, 1, none⟩ (.int .i64 q.a)).setCell ⟨X0, 2, none⟩ (.int .i64 q.b)).setCell ⟨X0, 3, none⟩ (.int .i64 q.c)).setCell ⟨X0, 4, none⟩ (.int .i64 q.d)) := V5.setFrom (p := 0) [.int .i64 q.op, .int .i64 q.a, .int .i64 q.b, .int .i64 q.c, .int .i64 q.d] (V5.refl X0 (X0 + 1) (w5.ext X)) (cb1 X0) (cd8 X0)
       have hqX := H1 hq5 bX (cb1 _)
       have hq6 : ((((((w5.ext X).setCell ⟨X0, 0, none⟩ (.int .i64 q.op)).setCell ⟨X0, 1, none⟩ (.int .i64 q.a)).setCell ⟨X0, 2, none⟩ (.int .i64 q.b)).setCell ⟨X0, 3, none⟩ (.int .i64 q.c)).setCell ⟨X0, 4, none⟩ (.int .i64 q.d)).ownsRow (n + 1 + 1 + 1) 60 5 (.slice a (j6 c ks k).length cq) (j6 c ks k).length (ints (t8 (j6 c ks k))) := by
        have h1 : y7 (w5.ext X) (n + 1 + 1 + 1) X0 60 5 (.slice a (j6 c ks k).length cq) (j6 c ks k).length (ints (t8 (j6 c ks k))) := ⟨hqX, hqlt⟩
        exact (h1.out hO (.inl (cb1 _))).1
       have ho6 := (ho5.keep bX (by omega)).out hO (.inl (by omega))
       have hL16 := (hL15.below bX hL15.lt).out hO (.inl (by omega))
       have hL26 := (hL25.below bX hL25.lt).out hO (.inl (by omega))
       have hz5 := bX.size
       have hb6 : Below w.heap.size w ((((((w5.ext X).setCell ⟨X0, 0, none⟩ (.int .i64 q.op)).setCell ⟨X0, 1, none⟩ (.int .i64 q.a)).setCell ⟨X0, 2, none⟩ (.int .i64 q.b)).setCell ⟨X0, 3, none⟩ (.int .i64 q.c)).setCell ⟨X0, 4, none⟩ (.int .i64 q.d)) := (hb5.trans (bX.mono hb5.size)).trans (hO.below (by have := HN.out; omega) (by have := hb5.size; omega))
       clear jp LXX hqX
       have i0 := LX6.cell 0
       have i1 := LX6.cell 1
       have i2 := LX6.cell 2
       have i3 := LX6.cell 3
       have i4 := LX6.cell 4
       simp only [cb4, cb5] at i0 i1 i2 i3 i4
       have hrow6 := (t0 ((((((w5.ext X).setCell ⟨X0, 0, none⟩ (.int .i64 q.op)).setCell ⟨X0, 1, none⟩ (.int .i64 q.a)).setCell ⟨X0, 2, none⟩ (.int .i64 q.b)).setCell ⟨X0, 3, none⟩ (.int .i64 q.c)).setCell ⟨X0, 4, none⟩ (.int .i64 q.d)) (g := (w5.ext X).heap.size) #[.int .i64 q.op, .int .i64 q.a, .int .i64 q.b, .int .i64 q.c, .int .i64 q.d] 1 5 60 (by simp) rfl (by omega)).row
       have hqa := hq6.alloc (.cells #[.int .i64 q.op, .int .i64 q.a, .int .i64 q.b, .int .i64 q.c, .int .i64 q.d] 60)
       have hsz6 : (((((((w5.ext X).setCell ⟨X0, 0, none⟩ (.int .i64 q.op)).setCell ⟨X0, 1, none⟩ (.int .i64 q.a)).setCell ⟨X0, 2, none⟩ (.int .i64 q.b)).setCell ⟨X0, 3, none⟩ (.int .i64 q.c)).setCell ⟨X0, 4, none⟩ (.int .i64 q.d)).alloc (.cells #[.int .i64 q.op, .int .i64 q.a, .int .i64 q.b, .int .i64 q.c, .int .i64 q.d] 60)).heap.size = (w5.ext X).heap.size + 1 := by simp
       have hbase : n + 1 + 1 + 1 ≤ (w5.ext X).heap.size := by omega
       go_wp2_with (at_builtin; refine A5 rfl _ _ rfl Tryz.underlying24 aK9 rfl (by omega) rfl hqa rfl hrow6 (S7 (l := (q).l)) (by omega) (by omega) (by rw [hsz6]; omega) ?_; rintro a4 q4 w7 o4 b7 - -)
       have ba : Below (w5.ext X).heap.size ((((((w5.ext X).setCell ⟨X0, 0, none⟩ (.int .i64 q.op)).setCell ⟨X0, 1, none⟩ (.int .i64 q.a)).setCell ⟨X0, 2, none⟩ (.int .i64 q.b)).setCell ⟨X0, 3, none⟩ (.int .i64 q.c)).setCell ⟨X0, 4, none⟩ (.int .i64 q.d)) (((((((w5.ext X).setCell ⟨X0, 0, none⟩ (.int .i64 q.op)).setCell ⟨X0, 1, none⟩ (.int .i64 q.a)).setCell ⟨X0, 2, none⟩ (.int .i64 q.b)).setCell ⟨X0, 3, none⟩ (.int .i64 q.c)).setCell ⟨X0, 4, none⟩ (.int .i64 q.d)).alloc (.cells #[.int .i64 q.op, .int .i64 q.a, .int .i64 q.b, .int .i64 q.c, .int .i64 q.d] 60)) := (Below.refl _ _).alloc (by simp) _
       have b8 : Below (n + 1 + 1 + 1) ((((((w5.ext X).setCell ⟨X0, 0, none⟩ (.int .i64 q.op)).setCell ⟨X0, 1, none⟩ (.int .i64 q.a)).setCell ⟨X0, 2, none⟩ (.int .i64 q.b)).setCell ⟨X0, 3, none⟩ (.int .i64 q.c)).setCell ⟨X0, 4, none⟩ (.int .i64 q.d)) w7 := (ba.mono (by omega)).trans b7
       have hll : (j6 c ks (k + 1)).length = (j6 c ks k).length + 1 := by rw [HN1.out]; simp
       have hcells : ints (t8 (j6 c ks (k + 1))) = ints (t8 (j6 c ks k)) ++ (#[.int .i64 q.op, .int .i64 q.a, .int .i64 q.b, .int .i64 q.c, .int .i64 q.d] : Array Value).toList := by
        rw [HN1.out, HQE.out, Z5]; simp [ints, t8]
       refine ⟨⟨k + 1, a4, q4, by omega, by go_num, by rw [hll], by rw [hll, hcells]; exact o4, hL16.below b8 (by omega), hL26.below b8 (by omega), ho6.keep b8 (cb1 _), hb6.trans (b8.mono (by have := HN.out; omega))⟩, by simp [intOf]; omega⟩
      ·have htr := HTR.out
       rw [if_neg ht] at htr
       have HQE := show Hid (trI ks x = x) from htr
       have ht' : i6 x < 0 := by omega
       clear htr ht HTR HTG
       have LX6 := LX5
       have hq6 := hq5
       have ho6 := ho5
       have hL16 := hL15
       have hL26 := hL25
       have hb6 := hb5
       have i0 := LX6.cell 0
       have i1 := LX6.cell 1
       have i2 := LX6.cell 2
       have i3 := LX6.cell 3
       have i4 := LX6.cell 4
       simp only [cb4, cb5] at i0 i1 i2 i3 i4
       have hrow6 := (t0 w5 (g := w5.heap.size) #[.int .i64 x.op, .int .i64 x.a, .int .i64 x.b, .int .i64 x.c, .int .i64 x.d] 1 5 60 (by simp) rfl (by omega)).row
       have hqa := hq6.alloc (.cells #[.int .i64 x.op, .int .i64 x.a, .int .i64 x.b, .int .i64 x.c, .int .i64 x.d] 60)
       have hsz6 : (w5.alloc (.cells #[.int .i64 x.op, .int .i64 x.a, .int .i64 x.b, .int .i64 x.c, .int .i64 x.d] 60)).heap.size = w5.heap.size + 1 := by simp
       have hbase : n + 1 + 1 + 1 ≤ w5.heap.size := by omega
       go_wp2_with (at_builtin; refine A5 rfl _ _ rfl Tryz.underlying24 aK9 rfl (by omega) rfl hqa rfl hrow6 (S7 (l := (x).l)) (by omega) (by omega) (by rw [hsz6]; omega) ?_; rintro a4 q4 w7 o4 b7 - -)
       have ba : Below w5.heap.size w5 (w5.alloc (.cells #[.int .i64 x.op, .int .i64 x.a, .int .i64 x.b, .int .i64 x.c, .int .i64 x.d] 60)) := (Below.refl _ _).alloc (by simp) _
       have b8 : Below (n + 1 + 1 + 1) w5 w7 := (ba.mono (by omega)).trans b7
       have hll : (j6 c ks (k + 1)).length = (j6 c ks k).length + 1 := by rw [HN1.out]; simp
       have hcells : ints (t8 (j6 c ks (k + 1))) = ints (t8 (j6 c ks k)) ++ (#[.int .i64 x.op, .int .i64 x.a, .int .i64 x.b, .int .i64 x.c, .int .i64 x.d] : Array Value).toList := by
        rw [HN1.out, HQE.out, Z5]; simp [ints, t8]
       refine ⟨⟨k + 1, a4, q4, by omega, by go_num, by rw [hll], by rw [hll, hcells]; exact o4, hL16.below b8 (by omega), hL26.below b8 (by omega), ho6.keep b8 (cb1 _), hb6.trans (b8.mono (by have := HN.out; omega))⟩, by simp [intOf]; omega⟩
    ·have hkn : k = c.list.length := by omega
     subst hkn
     have x0 := hL1.cell 0
     have x1 := hL1.cell 1
     have x2 := hL1.cell 2
     have z0 := hL2.cell 0
     have z1 := hL2.cell 1
     have z2 := hL2.cell 2
     simp only [cb4, cb5] at x0 x1 x2 z0 z1 z2
     go_wp2_with fail
     have hqo : y7 wr (n + 1 + 1 + 1) wr.heap.size 60 5 (.slice a (j6 c ks c.list.length).length cq) (j6 c ks c.list.length).length (ints (t8 (j6 c ks c.list.length))) := y7.mk' hq
     have hPl : n + 1 + 1 < wr.heap.size := (ho.lt _ rfl).2.2
     refine (bm0 _ c _ _ _ (j6 c ks c.list.length) _ _ _ (hrow.below hb) (S8 hc) hqo (by omega) (cb1 _)).mono ?_
     rintro e w5 ⟨z, rfl, oz, b5⟩
     obtain ⟨y1, y2, y3, rfl, -⟩ := id oz
     obtain ⟨p1, q1, p2, q2, p3, q3, e1, e2, e3⟩ := Code.rowOf oz
     simp only at e1 e2 e3
     subst e1 e2 e3
     have hb5 := hb.trans (b5.mono hb.size)
     have hL25 := hL2.below b5 hL2.lt
     clear x0 x1 x2 z0 z1 z2
     have z0 := hL25.cell 0
     have z1 := hL25.cell 1
     have z2 := hL25.cell 2
     simp only [cb4, cb5] at z0 z1 z2
     have f0 := hL25.free 0
     have f1 := hL25.free 1
     have f2 := hL25.free 2
     have s5 := b5.size
     go_wp2_with fail
     have hn := HN.out
     have L4 := ((hL25.set (j := 0) (.slice p1 c.vars.length q1)).set (j := 1) (.slice p2 c.arrays.length q2)).set (j := 2) (.slice p3 (j6 c ks c.list.length).length q3)
     have hO : V5 (n + 1) (n + 1 + 1) w5 (((w5.setCell ⟨n + 1, 0, none⟩ (.slice p1 c.vars.length q1)).setCell ⟨n + 1, 1, none⟩ (.slice p2 c.arrays.length q2)).setCell ⟨n + 1, 2, none⟩ (.slice p3 (j6 c ks c.list.length).length q3)) :=
      (((V5.refl (n + 1) (n + 1 + 1) w5).setCell (p := ⟨n + 1, 0, none⟩) (cb1 _) (cd8 _) _).setCell (p := ⟨n + 1, 1, none⟩) (cb1 _) (cd8 _) _).setCell (p := ⟨n + 1, 2, none⟩) (cb1 _) (cd8 _) _
     have oF := oz.out hO (.inr (by omega))
     have zF : (((w5.setCell ⟨n + 1, 0, none⟩ (.slice p1 c.vars.length q1)).setCell ⟨n + 1, 1, none⟩ (.slice p2 c.arrays.length q2)).setCell ⟨n + 1, 2, none⟩ (.slice p3 (j6 c ks c.list.length).length q3)).heap.size = w5.heap.size := by simp
     have BF := ((hb5.setCell (p := ⟨n + 1, 0, none⟩) (by show w.heap.size ≤ n + 1; omega) (.slice p1 c.vars.length q1)).setCell (p := ⟨n + 1, 1, none⟩) (by show w.heap.size ≤ n + 1; omega) (.slice p2 c.arrays.length q2)).setCell (p := ⟨n + 1, 2, none⟩) (by show w.heap.size ≤ n + 1; omega) (.slice p3 (j6 c ks c.list.length).length q3)
     have r0 := L4.cell 0
     have r1 := L4.cell 1
     have r2 := L4.cell 2
     simp only [cb4, cb5, List.set_cons_zero, List.set_cons_succ] at r0 r1 r2
     generalize ((w5.setCell ⟨n + 1, 0, none⟩ (.slice p1 c.vars.length q1)).setCell ⟨n + 1, 1, none⟩ (.slice p2 c.arrays.length q2)).setCell ⟨n + 1, 2, none⟩ (.slice p3 (j6 c ks c.list.length).length q3) = WF at *
     exact bodyPost_ret (v := .agg #[.slice p1 c.vars.length q1, .slice p2 c.arrays.length q2, .slice p3 (j6 c ks c.list.length).length q3]) (by simp [results, Tryz.results68, go_sem, r0, r1, r2]) rfl ⟨_, rfl, oF.wide (by omega) (by omega), BF⟩
noncomputable def D9 (c : b6) (k : Nat) : List Bool := (cc5 c.list.length).map fun i => if i < k then !kpB c i else (E4 c).getD i false
theorem ag5 (c : b6) (k : Nat) : (D9 c k).length = c.list.length := by simp [D9]
theorem aR0 (c : b6) : D9 c 0 = E4 c := by
 apply List.ext_getElem (by rw [ag5, aB1])
 intro i h1 h2
 simp [D9, h2]
theorem aR1 (c : b6) (k : Nat) (_h : k < c.list.length) : D9 c (k + 1) = (D9 c k).set k (!kpB c k) := by
 apply List.ext_getElem (by simp [ag5])
 intro i h1 h2
 rw [List.getElem_set]
 simp only [D9, List.getElem_map, List.getElem_range]
 by_cases e : k = i
 ·subst e
  rw [if_pos rfl, if_pos (cd8 _)]
 ·rw [if_neg e]
  by_cases h3 : i < k
  ·rw [if_pos (by omega), if_pos h3]
  ·rw [if_neg (by omega), if_neg h3]
theorem ba1 (c : b6) (k : Nat) (h : k < c.list.length) : (D9 c k)[k]? = some ((E4 c).getD k false) := by
 simp [D9, h]
theorem a19 (c : b6) (i : Nat) (h : i < c.list.length) : (D9 c c.list.length).getD i false = !(A7 c).getD i false := by
 rw [ai0 c i h]
 simp [D9, h]
theorem aQ3 (v : Value) (c : b6) (hc : e6 c = true) (w : World) (h : r8 w v c) :
  Calls Tryz.prog 40 #[v] w fun e w' => ∃ z, e = .returned z ∧ y6 w' w.heap.size w'.heap.size z (H4 c) ∧ Below w.heap.size w w' := by
 have hrow := h
 obtain ⟨v1, v2, v3, rfl, h1, h2, h3⟩ := h
 obtain ⟨a3, k3, rfl, -, hm3, -, hc3⟩ := h3.ins
 have hn4 := (i8 hc).2.2.1
 obtain ⟨n, hn⟩ : ∃ n, n = w.heap.size := ⟨_, rfl⟩
 obtain ⟨W, hW⟩ : ∃ W, W = (w.alloc (.cells #[v1, v2, .slice a3 c.list.length k3] 26)).alloc (.cells #[.slice none 0 0, .slice none 0 0, .slice none 0 0] 26) := ⟨_, rfl⟩
 have B0 : Below w.heap.size w W := by rw [hW]; go_grown
 have sW : W.heap.size = n + 1 + 1 := by rw [hW, hn]; simp
 have L1 : v9 W n [v1, v2, .slice a3 c.list.length k3] := by rw [hW, hn]; exact (v9.new w [v1, v2, .slice a3 c.list.length k3] _).alloc _
 have L2 : v9 W (n + 1) [.slice none 0 0, .slice none 0 0, .slice none 0 0] := by rw [hW, hn]; exact v9.new' (w.alloc _) [.slice none 0 0, .slice none 0 0, .slice none 0 0] _ (by simp)
 have x0 := L1.cell 0
 have x1 := L1.cell 1
 have x2 := L1.cell 2
 simp only [cb4, cb5] at x0 x1 x2
 rw [hW, hn] at x0 x1 x2
 go_enter Tryz.func40, Tryz.ntmps40
 go_wp2_with fail
 rw [← hW, ← hn]
 clear hW x0 x1 x2
 refine (aD1 _ c hc _ (hrow.below B0)).mono ?_
 rintro e w1 ⟨ud, rfl, od, b1⟩
 obtain ⟨ad, kd, rfl⟩ := od.form
 replace L1 := L1.below b1 L1.lt
 replace L2 := L2.below b1 L2.lt
 have B1 := B0.trans (b1.mono B0.size)
 have s1 := b1.size
 have od' := od.wide (show n + 1 + 1 ≤ W.heap.size by omega) (cb1 _)
 have HN := show Hid (n = w.heap.size) from hn
 have HI := show Hid _ from hc3
 have x2 := L1.cell 2
 simp only [cb4, cb5] at x2
 clear hc3 hn od
 go_wp2_with fail
 clear x2
 rw [← aR0] at od'
 obtain ⟨H, hH⟩ : ∃ H, H = w1.heap.size := ⟨_, rfl⟩
 rw [← hH] at od'
 have hHs : H ≤ w1.heap.size := by omega
 clear hH
 go_loopw [4, 5, 11] (fun _ _ i wr => ∃ k : Nat, k ≤ c.list.length ∧ i = .int .i64 k ∧ v9 wr n [v1, v2, .slice a3 c.list.length k3] ∧ v9 wr (n + 1) [.slice none 0 0, .slice none 0 0, .slice none 0 0] ∧ y7 wr (n + 1 + 1) H 4 1 (.slice ad c.list.length kd) c.list.length (bools (D9 c k)) ∧ Below w.heap.size w wr ∧ H ≤ wr.heap.size) (fun _ _ i _ => c.list.length - (intOf i).toNat)
 case atStart => exact ⟨0, cc7 _, rfl, L1, L2, od', B1, hHs⟩
 case round =>
  obtain ⟨k, hk, rfl, hL1, hL2, ho, hb, hHr⟩ := hrel
  clear L1 L2 od' B1
  by_cases hlt : k < c.list.length
  ·obtain ⟨b, off, he3, hb3, i0, i1, i2, i3, i4⟩ := HI.out k hlt
   rw [← (D8 hb).1 _ _ hb3] at i0 i1 i2 i3 i4
   have HK : Hid (kpB c k = ((E4 c).getD k false && !(decide (c.list[k].op = 8) && decide (c.list[k].a = (k : Int) + 1)))) := by unfold Hid kpB aD2; rw [B9 hlt]
   have HS := show Hid _ from aR1 c k hlt
   obtain ⟨x, hx⟩ : ∃ x, x = c.list[k] := ⟨_, rfl⟩
   rw [← hx] at i0 i1 i2 i3 i4 HK
   clear hx
   subst he3
   have hki : (k : Int) < c.list.length := by omega
   obtain ⟨g, cap, hv, hg1, hg2, hg3, -, -, hgf, hgc⟩ := ho.open (by omega)
   cases hv
   have hdl : k < (D9 c k).length := by rw [ag5]; exact hlt
   have yk := hgc k _ (V4 _ k hdl)
   have hde : (D9 c k)[k] = (E4 c).getD k false := by
    have := ba1 c k hlt
    rw [ca8 hdl] at this
    exact Option.some.inj this
   rw [hde] at yk
   have b4 : Below wr.heap.size wr (wr.alloc (.cells #[.int .i64 x.op, .int .i64 x.a, .int .i64 x.b, .int .i64 x.c, .int .i64 x.d] 60)) := by go_grown
   have yw := ((D8 b4).1 _ k hg3).trans yk
   have fw := ((D8 b4).2 _ k hg3).trans (hgf k)
   have hfin : ∀ z : Bool, z = !kpB c k → v9 ((wr.setCell ⟨g, k, none⟩ (.bool z)).alloc (.cells #[.int .i64 x.op, .int .i64 x.a, .int .i64 x.b, .int .i64 x.c, .int .i64 x.d] 60)) n [v1, v2, .slice (some ⟨b, off, none⟩) c.list.length k3] ∧ v9 ((wr.setCell ⟨g, k, none⟩ (.bool z)).alloc (.cells #[.int .i64 x.op, .int .i64 x.a, .int .i64 x.b, .int .i64 x.c, .int .i64 x.d] 60)) (n + 1) [.slice none 0 0, .slice none 0 0, .slice none 0 0] ∧
     y7 ((wr.setCell ⟨g, k, none⟩ (.bool z)).alloc (.cells #[.int .i64 x.op, .int .i64 x.a, .int .i64 x.b, .int .i64 x.c, .int .i64 x.d] 60)) (n + 1 + 1) H 4 1 (.slice (some ⟨g, 0, none⟩) c.list.length kd) c.list.length (bools (D9 c (k + 1))) ∧ Below w.heap.size w ((wr.setCell ⟨g, k, none⟩ (.bool z)).alloc (.cells #[.int .i64 x.op, .int .i64 x.a, .int .i64 x.b, .int .i64 x.c, .int .i64 x.d] 60)) ∧ H ≤ ((wr.setCell ⟨g, k, none⟩ (.bool z)).alloc (.cells #[.int .i64 x.op, .int .i64 x.a, .int .i64 x.b, .int .i64 x.c, .int .i64 x.d] 60)).heap.size := by
    intro z hz
    have h1 := ho.setCell (j := k) (by simpa [bools] using hdl) (.bool z)
    rw [show (bools (D9 c k)).set k (.bool z) = bools ((D9 c k).set k z) by simp [bools, List.map_set], hz, ← HS.out, ← hz] at h1
    have bb : Below (wr.setCell ⟨g, k, none⟩ (.bool z)).heap.size (wr.setCell ⟨g, k, none⟩ (.bool z)) ((wr.setCell ⟨g, k, none⟩ (.bool z)).alloc (.cells #[.int .i64 x.op, .int .i64 x.a, .int .i64 x.b, .int .i64 x.c, .int .i64 x.d] 60)) := by go_grown
    refine ⟨(hL1.other (p := ⟨g, k, none⟩) (by show n ≠ g; omega) _).alloc _, (hL2.other (p := ⟨g, k, none⟩) (by show n + 1 ≠ g; omega) _).alloc _, h1.keep bb (by simpa using hHr), ?_, by simp; omega⟩
    exact (hb.setCell (p := ⟨g, k, none⟩) (by show w.heap.size ≤ g; have := HN.out; omega) _).alloc (by have := hb.size; simpa using this) _
   have HFIN := show Hid _ from hfin
   clear hfin hde hdl yk hgc hgf ho hL1 hL2
   cases hr : (E4 c).getD k false
   ·have HV := show Hid (true = !kpB c k) from by unfold Hid; rw [HK.out, hr]; rfl
    rw [hr] at yw
    clear hr
    go_wp2_with fail
    obtain ⟨e1, e2, e3, e4, e5⟩ := HFIN.out _ HV.out
    exact ⟨⟨k + 1, by omega, by go_num, e1, e2, e3, e4, e5⟩, by simp [intOf]; omega⟩
   ·rw [hr] at yw
    by_cases h8 : x.op = 8
    ·have q8 : (x.op == 8) = true := by simp [h8]
     by_cases ha : x.a = (k : Int) + 1
     ·have qa : (x.a == (k : Int) + 1) = true := by simp [ha]
      have HV := show Hid (true = !kpB c k) from by unfold Hid; rw [HK.out, hr]; simp [h8, ha]
      clear hr h8 ha
      go_wp2_with fail
      obtain ⟨e1, e2, e3, e4, e5⟩ := HFIN.out _ HV.out
      exact ⟨⟨k + 1, by omega, by go_num, e1, e2, e3, e4, e5⟩, by simp [intOf]; omega⟩
     ·have qa : (x.a == (k : Int) + 1) = false := by simp [ha]
      have HV := show Hid (false = !kpB c k) from by unfold Hid; rw [HK.out, hr]; simp [ha]
      clear hr h8 ha
      go_wp2_with fail
      obtain ⟨e1, e2, e3, e4, e5⟩ := HFIN.out _ HV.out
      exact ⟨⟨k + 1, by omega, by go_num, e1, e2, e3, e4, e5⟩, by simp [intOf]; omega⟩
    ·have q8 : (x.op == 8) = false := by simp [h8]
     have HV := show Hid (false = !kpB c k) from by unfold Hid; rw [HK.out, hr]; simp [h8]
     clear hr h8
     go_wp2_with fail
     obtain ⟨e1, e2, e3, e4, e5⟩ := HFIN.out _ HV.out
     exact ⟨⟨k + 1, by omega, by go_num, e1, e2, e3, e4, e5⟩, by simp [intOf]; omega⟩
  ·have hkn : k = c.list.length := by omega
   subst hkn
   have x0 := hL1.cell 0
   have x1 := hL1.cell 1
   have x2 := hL1.cell 2
   simp only [cb4, cb5] at x0 x1 x2
   go_wp2_with fail
   refine (aQ2 _ _ c (D9 c c.list.length) (A7 c) hc _ (hrow.below hb) ho.row (ad2 c) (a19 c)).mono ?_
   rintro e w5 ⟨z, rfl, oz, b5⟩
   obtain ⟨y1, y2, y3, rfl, -⟩ := id oz
   obtain ⟨p1, q1, p2, q2, p3, q3, e1, e2, e3⟩ := Code.rowOf oz
   simp only at e1 e2 e3
   subst e1 e2 e3
   have hb5 := hb.trans (b5.mono hb.size)
   have hL25 := hL2.below b5 hL2.lt
   have hz2 := hL2.lt
   clear x0 x1 x2
   have z0 := hL25.cell 0
   have z1 := hL25.cell 1
   have z2 := hL25.cell 2
   simp only [cb4, cb5] at z0 z1 z2
   have f0 := hL25.free 0
   have f1 := hL25.free 1
   have f2 := hL25.free 2
   have s5 := b5.size
   go_wp2_with fail
   have hn := HN.out
   obtain ⟨l, hl⟩ : ∃ l, l = j6 c (A7 c) c.list.length := ⟨_, rfl⟩
   rw [← hl] at oz ⊢
   have L4 := ((hL25.set (j := 0) (.slice p1 c.vars.length q1)).set (j := 1) (.slice p2 c.arrays.length q2)).set (j := 2) (.slice p3 l.length q3)
   have hO : V5 (n + 1) (n + 1 + 1) w5 (((w5.setCell ⟨n + 1, 0, none⟩ (.slice p1 c.vars.length q1)).setCell ⟨n + 1, 1, none⟩ (.slice p2 c.arrays.length q2)).setCell ⟨n + 1, 2, none⟩ (.slice p3 l.length q3)) :=
    (((V5.refl (n + 1) (n + 1 + 1) w5).setCell (p := ⟨n + 1, 0, none⟩) (cb1 _) (cd8 _) _).setCell (p := ⟨n + 1, 1, none⟩) (cb1 _) (cd8 _) _).setCell (p := ⟨n + 1, 2, none⟩) (cb1 _) (cd8 _) _
   have oF := oz.out hO (.inr (by omega))
   have zF : (((w5.setCell ⟨n + 1, 0, none⟩ (.slice p1 c.vars.length q1)).setCell ⟨n + 1, 1, none⟩ (.slice p2 c.arrays.length q2)).setCell ⟨n + 1, 2, none⟩ (.slice p3 l.length q3)).heap.size = w5.heap.size := by simp
   have BF := ((hb5.setCell (p := ⟨n + 1, 0, none⟩) (by show w.heap.size ≤ n + 1; omega) (.slice p1 c.vars.length q1)).setCell (p := ⟨n + 1, 1, none⟩) (by show w.heap.size ≤ n + 1; omega) (.slice p2 c.arrays.length q2)).setCell (p := ⟨n + 1, 2, none⟩) (by show w.heap.size ≤ n + 1; omega) (.slice p3 l.length q3)
   have r0 := L4.cell 0
   have r1 := L4.cell 1
   have r2 := L4.cell 2
   simp only [cb4, cb5, List.set_cons_zero, List.set_cons_succ] at r0 r1 r2
   generalize ((w5.setCell ⟨n + 1, 0, none⟩ (.slice p1 c.vars.length q1)).setCell ⟨n + 1, 1, none⟩ (.slice p2 c.arrays.length q2)).setCell ⟨n + 1, 2, none⟩ (.slice p3 l.length q3) = WF at *
   have hTF : Hid (H4 c = { c with list := l }) := by unfold Hid H4; rw [hl]
   exact bodyPost_ret (v := .agg #[.slice p1 c.vars.length q1, .slice p2 c.arrays.length q2, .slice p3 l.length q3]) (by simp [results, Tryz.results40, go_sem, r0, r1, r2]) rfl ⟨_, rfl, by rw [hTF.out]; exact oF.wide (by omega) (by omega), BF⟩
end Go.Proofs.YtmokkddidcmglaaGreat
