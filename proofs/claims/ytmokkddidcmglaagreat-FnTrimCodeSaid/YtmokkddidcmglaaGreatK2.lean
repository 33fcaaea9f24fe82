/- Part 2: functions on the way, plain laws. Conditions: as said. -/
import Derived.Test.YtmokkddidcmglaaGreatRows
import Derived.OpenShut
import Derived.ChangeOld
import Derived.Deep.Slices
import Derived.Lib.SmallJoins
import Derived.StillTailTactics
import Derived.Deep.RegionHeld3
import Derived.Deep.QuietTactic
import Derived.BigQuiet
import Derived.WalkSpells
import Derived.Lib.SliceRun
import Derived.Laws.StructEq
import Derived.Test.YtmokkddidcmglaaGreatK1
set_option maxRecDepth 100000
set_option maxHeartbeats 16000000
set_option linter.unusedVariables false
set_option linter.unusedSimpArgs false
open Array renaming replicate → ca2
open Bool renaming and_eq_true → b73, eq_iff_iff → ca0, not_eq_false' → cb4, or_eq_true → cb9
open Int renaming toNat_natCast → cb0
open List renaming all_eq_true → b80, eq_nil_of_length_eq_zero → b96, getD_eq_getElem?_getD → b75, getElem?_append_left → b99, getElem?_cons_succ → b82, getElem?_cons_zero → b81, getElem?_eq_getElem → b72, getElem?_eq_some_iff → b77, getElem_mem → b91, length_append → b74, length_cons → b79, length_nil → b85, length_replicate → b90, length_set → b95, map_cons → ca1, mem_append → b87, mem_of_getElem? → b86, mem_range → ca9, mem_singleton → b94, range → b88, replicate → b70, take_of_length_le → b89
open Nat renaming le_refl → b76, le_trans → b97, lt_of_lt_of_le → cb3, lt_or_ge → b93, lt_succ_self → cb1, mul_le_mul_right → ca8, succ_mul → ca3, zero_le → b92
open True renaming intro → b84

namespace Go.Proofs.YtmokkddidcmglaaGreat
open Go Go.RowKit Go.ChangeShapes Go.WideShapes Go.Deep
theorem own : ownKnob Tryz.prog.godebug = none := by kernel_rfl
theorem bE8 : laidOutB Tryz.prog = true := by kernel_rfl
section
variable {H : Type} {enc : TypeId × Value → H} {W : World}
theorem bu7 {C : Nat → List Value} {sz : Nat} (hC : ∀ i, (C i).length = sz) : ∀ (n i j : Nat), i < n → j < sz → ((b88 n).flatMap C)[i * sz + j]? = (C i)[j]? := by
 intro n
 induction n with
 | zero => intro i j h; omega
 | succ n ih =>
  intro i j h hj
  have hlen : ((b88 n).flatMap C).length = n * sz := by
   clear ih h
   induction n with
   | zero => simp
   | succ n ih2 => rw [List.range_succ, List.flatMap_append, b74, ih2]; simp [hC, ca3]
  rw [List.range_succ, List.flatMap_append]
  by_cases hin : i < n
  ·rw [b99 (by rw [hlen]; have := ca8 sz (Nat.succ_le_of_lt hin); rw [ca3] at this; omega)]
   exact ih i j hin hj
  ·obtain rfl : i = n := by omega
   rw [List.getElem?_append_right (by omega), hlen]
   simp
theorem aX5 {C : Nat → List Value} {sz : Nat} (hC : ∀ i, (C i).length = sz) (n : Nat) : ((b88 n).flatMap C).length = n * sz := by
 induction n with
 | zero => simp
 | succ n ih2 => rw [List.range_succ, List.flatMap_append, b74, ih2]; simp [hC, ca3]
theorem aU1 {t e : TypeId} {fuel : Nat} {v : Value} {x : DataW H × List MemPlace} {sz : Nat} (ht : Tryz.prog.underlying t = some (.slice e)) (hc : Tryz.prog.cellsOf e = sz) (hsz : 0 < sz)
  (h : DataW.trod enc Tryz.prog W 0 (fun _ => true) true fuel t [v] = some x) :
  ∃ (n m : Nat) (C : Nat → List Value), F8 W v n sz ((b88 n).flatMap C) ∧ (∀ i, (C i).length = sz) ∧ ∀ i, i < n → ∃ y, DataW.trod enc Tryz.prog W 0 (fun _ => true) true m e (C i) = some y := by
 rcases open_slice ht h with ⟨hcs, _⟩ | ⟨a, len, cap, m, k, D, Pl, hcs, _, hl, hm, hmm, _, hx⟩
 ·cases hcs
  exact ⟨0, 0, fun _ => b70 sz undef, F8.nil _ _, by simp, fun i hi => by omega⟩
 ·cases hcs
  rw [hc] at hx
  have hmc : len ≤ m := by rw [hmm]; simp; omega
  obtain ⟨C, hC⟩ := choose_lt (α := List Value) (n := len) (p := fun i cs => cs.length = sz ∧ (∀ j, j < sz → W.cell? (a.add (i * sz + j)) = cs[j]?) ∧ ∃ y, DataW.trod enc Tryz.prog W 0 (fun _ => true) true k e cs = some y) (fun i hi => by
   obtain ⟨cs', h1, h2⟩ := hx i (by omega)
   obtain ⟨_, hlen, hcell⟩ := World.cells?_some h1
   exact ⟨cs', hlen, fun j hj => by rw [← add_add]; exact hcell j hj, _, h2⟩)
  let C' : Nat → List Value := fun i => if i < len then C i else b70 sz undef
  have hC' : ∀ i, (C' i).length = sz := fun i => by
   by_cases hi : i < len
   ·simp only [C', if_pos hi]; exact (hC i hi).1
   ·simp [C', if_neg hi]
  refine ⟨len, k, C', ⟨aX5 hC' len, some a, cap, rfl, hl, hm, fun hn => ?_⟩, hC', fun i hi => ?_⟩
  ·obtain ⟨b, off, spot⟩ := a
   have h00 := (hC 0 hn).2.1 0 hsz
   have hlen0 := (hC 0 hn).1
   rw [b72 (by omega)] at h00
   have hs : spot = none := by
    simpa [Addr.add] using World.cell?_spot h00
   subst hs
   have hb : b < W.heap.size := by simpa [Addr.add] using World.block_lt_of_cell? W _ h00
   refine ⟨b, off, rfl, hb, fun j u hj => ?_⟩
   have hjl : j < len * sz := by have := (b77.1 hj).1; rw [aX5 hC'] at this; exact this
   have hi : j / sz < len := Nat.div_lt_of_lt_mul (by rw [Nat.mul_comm]; exact hjl)
   have hr : j % sz < sz := Nat.mod_lt _ hsz
   have hjj : j / sz * sz + j % sz = j := Nat.div_add_mod' j sz
   have hg := bu7 hC' len (j / sz) (j % sz) hi hr
   rw [hjj, hj] at hg
   have hcc := (hC _ hi).2.1 _ hr
   simp only [C', if_pos hi] at hg
   rw [hjj, ← hg] at hcc
   have hadd : (⟨b, off, none⟩ : Addr).add j = ⟨b, off + j, none⟩ := by unfold Addr.add; split <;> simp_all
   rw [hadd] at hcc
   exact hcc
  ·obtain ⟨y, hy⟩ := (hC i hi).2.2
   exact ⟨y, by simp only [C', if_pos hi]; exact hy⟩
theorem aA2 {α : Type} (n : Nat) (C : Nat → List Value) (f : α → Value) (g : Nat → α) (h : ∀ i, i < n → C i = [f (g i)]) : (b88 n).flatMap C = ((b88 n).map g).map f := by
 rw [List.map_map, List.flatMap_def]
 rw [List.map_congr_left (g := fun i => [f (g i)]) (fun i hi => h i (by simpa using hi))]
 induction n with
 | zero => simp
 | succ n ih =>
  rw [List.range_succ, List.map_append, List.flatten_append, List.map_append, ih (fun i hi => h i (by omega))]
  simp
end
end Go.Proofs.YtmokkddidcmglaaGreat

namespace Go.Proofs.YtmokkddidcmglaaGreat
open Go Go.RowKit
theorem bF4 : (Tryz.prog.info? 23).map (fun i => (i.zero, i.size, i.bytes)) = some (some (.slice none 0 0), 1, 24) := by kernel_rfl
def Y4 (w : World) (v : Value) (m : List (List Int)) : Prop :=
 ∃ vs : List Value, F8 w v m.length 1 vs ∧ ∀ (i : Nat) (u : Value) (r : List Int), vs[i]? = some u → m[i]? = some r → F8 w u r.length 1 (ints r)
def K5 (w : World) (lo hi : Nat) (v : Value) (m : List (List Int)) : Prop :=
 ∃ vs : List Value, A6 w lo hi 23 1 v m.length vs ∧ (∀ (i : Nat) (u : Value) (r : List Int), vs[i]? = some u → m[i]? = some r → A6 w lo hi 3 1 u r.length (ints r)) ∧
  (∀ (i j : Nat) (u u' : Value), i < j → vs[i]? = some u → vs[j]? = some u' → R8 u u') ∧ ∀ (i : Nat) (u : Value), vs[i]? = some u → R8 u v
theorem Y4.below {w w' : World} {v : Value} {m : List (List Int)} (h : Y4 w v m) (hb : Below w.heap.size w w') : Y4 w' v m := by
 obtain ⟨vs, h1, h2⟩ := h
 exact ⟨vs, h1.below hb, fun i u r a b => (h2 i u r a b).below hb⟩
theorem K5.row {w : World} {lo hi : Nat} {v : Value} {m : List (List Int)} (h : K5 w lo hi v m) : Y4 w v m := by
 obtain ⟨vs, h1, h2, _⟩ := h
 exact ⟨vs, h1.row, fun i u r a b => (h2 i u r a b).row⟩
theorem K5.keep {w w' : World} {lo hi B : Nat} {v : Value} {m : List (List Int)} (h : K5 w lo hi v m) (hb : Below B w w') (hB : hi ≤ B) : K5 w' lo hi v m := by
 obtain ⟨vs, h1, h2, hd⟩ := h
 exact ⟨vs, h1.keep hb hB, fun i u r a b => (h2 i u r a b).keep hb hB, hd⟩
theorem K5.out {w w' : World} {lo hi lo' hi' : Nat} {v : Value} {m : List (List Int)} (h : K5 w lo hi v m) (hb : Out lo' hi' w w') (hB : hi ≤ lo' ∨ hi' ≤ lo) : K5 w' lo hi v m := by
 obtain ⟨vs, h1, h2, hd⟩ := h
 exact ⟨vs, h1.out hb hB, fun i u r a b => (h2 i u r a b).out hb hB, hd⟩
theorem K5.wide {w : World} {lo hi lo' hi' : Nat} {v : Value} {m : List (List Int)} (h : K5 w lo hi v m) (g1 : lo' ≤ lo) (g2 : hi ≤ hi') : K5 w lo' hi' v m := by
 obtain ⟨vs, h1, h2, hd⟩ := h
 exact ⟨vs, h1.wide g1 g2, fun i u r a b => (h2 i u r a b).wide g1 g2, hd⟩
theorem Y4.open {w : World} {v : Value} {m : List (List Int)} (h : Y4 w v m) : ∃ a cap, v = .slice a m.length cap ∧ m.length ≤ 9223372036854775807 ∧
  ∀ i (hi : i < m.length), ∃ b off a' c', a = some ⟨b, off, none⟩ ∧ b < w.heap.size ∧ w.cell? ⟨b, off + i, none⟩ = some (.slice a' m[i].length c') ∧ F8 w (.slice a' m[i].length c') m[i].length 1 (ints m[i]) := by
 obtain ⟨vs, h1, h2⟩ := h
 obtain ⟨a, cap, hv, hc, hm, hm2, hcell⟩ := h1.open1
 refine ⟨a, cap, hv, hm, fun i hi => ?_⟩
 obtain ⟨b, off, ha, hb, hx⟩ := hcell i hi
 have hl : i < vs.length := by rw [h1.1]; omega
 rw [b72 hl] at hx
 have hr := h2 i _ _ (b72 hl) (b72 hi)
 obtain ⟨a', c', hs⟩ := hr.form
 rw [hs] at hx hr
 exact ⟨b, off, a', c', ha, hb, hx, hr⟩
theorem Code.rowOf {w : World} {lo hi : Nat} {v1 v2 v3 : Value} {c : b6} (h : D7 w lo hi (.agg #[v1, v2, v3]) c) : ∃ a1 k1 a2 k2 a3 k3, v1 = .slice a1 c.vars.length k1 ∧ v2 = .slice a2 c.arrays.length k2 ∧ v3 = .slice a3 c.list.length k3 := by
 obtain ⟨u1, u2, u3, he, h1, h2, h3, -⟩ := h
 simp only [Value.agg.injEq, Array.mk.injEq, List.cons.injEq, and_true] at he
 obtain ⟨rfl, rfl, rfl⟩ := he
 obtain ⟨a1, k1, e1⟩ := h1.form
 obtain ⟨a2, k2, e2⟩ := h2.form
 obtain ⟨a3, k3, e3⟩ := h3.form
 exact ⟨a1, k1, a2, k2, a3, k3, e1, e2, e3⟩
theorem ak6 {B : Nat} {w w1 w2 : World} (k : Below w1.heap.size w1 w2) (h : Below B w w1) (hB : B ≤ w.heap.size) : Below B w w2 :=
 h.trans (k.mono (b97 hB h.size))
theorem bQ1 {w : World} {b : Nat} {x y z : Value} (L : A1 w b [x, y, z]) : ∀ W', Below w.heap.size w W' → W'.cell? ⟨b, 0, none⟩ = some x ∧ W'.cell? ⟨b, 1, none⟩ = some y ∧ W'.cell? ⟨b, 2, none⟩ = some z := by
 intro W' hb
 have L' := L.below hb L.lt
 exact ⟨by simpa using L'.cell 0, by simpa using L'.cell 1, by simpa using L'.cell 2⟩
end Go.Proofs.YtmokkddidcmglaaGreat

namespace Go.Proofs.YtmokkddidcmglaaGreat
def at6 (b : Bool) : Int := if b then 1 else 0
def J5 (k a b : Int) : Int :=
 if k = 4 then (a + b).tmod 256 else if k = 5 then (a - b + 256).tmod 256 else if k = 6 then (a * b).tmod 256
 else if k = 7 then ((a.toNat &&& b.toNat : Nat) : Int) else if k = 8 then ((a.toNat ^^^ b.toNat : Nat) : Int) else if k = 9 then at6 (decide (a = b)) else at6 (decide (a < b))
theorem at5 (b : Bool) : 0 ≤ at6 b ∧ at6 b ≤ 255 := by cases b <;> simp [at6]
theorem aX3 {k a b : Int} (h1 : 0 ≤ a) (h2 : a ≤ 255) (h3 : 0 ≤ b) (h4 : b ≤ 255) : 0 ≤ J5 k a b ∧ J5 k a b ≤ 255 := by
 unfold J5
 have hm : 0 ≤ a * b := Int.mul_nonneg h1 h3
 have ha : a.toNat < 2 ^ 8 := by omega
 have hb : b.toNat < 2 ^ 8 := by omega
 have hand : a.toNat &&& b.toNat < 2 ^ 8 := Nat.and_lt_two_pow _ hb
 have hxor : a.toNat ^^^ b.toNat < 2 ^ 8 := Nat.xor_lt_two_pow ha hb
 split
 ·rw [Int.tmod_eq_emod_of_nonneg (by omega)]; omega
 split
 ·rw [Int.tmod_eq_emod_of_nonneg (by omega)]; omega
 split
 ·rw [Int.tmod_eq_emod_of_nonneg hm]; omega
 split
 ·omega
 split
 ·omega
 split
 ·exact at5 _
 ·exact at5 _
def scB (l : Int) : Bool := F0 l && decide (l = 1 ∨ l = 3)
def bAt (t : List Bool) (k : Int) : Bool := t.getD k.toNat false
def iAt (t : List Int) (k : Int) : Int := t.getD k.toNat 0
def aa4 (c : b6) (x : d7) (t : List Bool) : Option Bool :=
 if x.op = 1 ∨ x.op = 11 then some false
 else if x.op = 2 then some (scB (iAt c.vars x.b))
 else if x.op = 4 then some (scB (iAt c.arrays x.b) || bAt t x.c)
 else if x.op = 6 then some (bAt t x.c || bAt t x.d)
 else if x.op = 7 then some (bAt t x.b || bAt t x.c || bAt t x.d)
 else none
def W0 (c : b6) (x : d7) (t : List Bool) : List Bool := match aa4 c x t with | some b => t.set x.a.toNat b | none => t
theorem aD8 (c : b6) (x : d7) (t : List Bool) : (W0 c x t).length = t.length := by unfold W0; split <;> simp
def aE8 (t row : List Bool) : Bool := decide (0 < row.length) && (b88 t.length).all fun k => !(t.getD k false && !row.getD k false)
theorem a57 {c : b6} {x : d7} (h : y6 c x = true) :
  (x.op = 1 → 0 ≤ x.a ∧ x.a < 14) ∧ (x.op = 11 → 0 ≤ x.a ∧ x.a < 14) ∧
  (x.op = 2 → (0 ≤ x.a ∧ x.a < 14) ∧ 0 ≤ x.b ∧ x.b < c.vars.length) ∧
  (x.op = 3 → (0 ≤ x.a ∧ x.a < c.vars.length) ∧ 0 ≤ x.b ∧ x.b < 14) ∧
  (x.op = 4 → (0 ≤ x.a ∧ x.a < 14) ∧ (0 ≤ x.b ∧ x.b < c.arrays.length) ∧ 0 ≤ x.c ∧ x.c < 14) ∧
  (x.op = 5 → (0 ≤ x.a ∧ x.a < c.arrays.length) ∧ (0 ≤ x.b ∧ x.b < 14) ∧ 0 ≤ x.c ∧ x.c < 14) ∧
  (x.op = 6 → (0 ≤ x.a ∧ x.a < 14) ∧ (0 ≤ x.c ∧ x.c < 14) ∧ 0 ≤ x.d ∧ x.d < 14) ∧
  (x.op = 7 → (0 ≤ x.a ∧ x.a < 14) ∧ (0 ≤ x.b ∧ x.b < 14) ∧ (0 ≤ x.c ∧ x.c < 14) ∧ 0 ≤ x.d ∧ x.d < 14) ∧
  (x.op = 9 → 0 ≤ x.a ∧ x.a < 14) ∧ (x.op = 10 → 0 ≤ x.a ∧ x.a < 14) := by
 unfold y6 at h
 simp only [b73, decide_eq_true_eq] at h
 obtain ⟨_, ⟨⟨ha, hb⟩, hc⟩, hd⟩ := h
 refine ⟨fun e => ?_, fun e => ?_, fun e => ?_, fun e => ?_, fun e => ?_, fun e => ?_, fun e => ?_, fun e => ?_, fun e => ?_, fun e => ?_⟩
 all_goals
  rw [e] at ha hb hc hd
  simp [f8, D5, K1] at ha hb hc hd
  omega
def ay8 (r : List Bool) : Bool := decide (r.length = 0) || decide (r.length = 14)
def aP3 (t row : List Bool) (k : Nat) : Bool := (b88 k).all fun j => !(t.getD j false && !row.getD j false)
def rowAt (m : List (List Bool)) (i : Int) : List Bool := m.getD i.toNat []
theorem ag3 {m : List (List Bool)} {i : Nat} (h : i < m.length) : rowAt m i = m[i] := by simp [rowAt, h]
def C0 (c : b6) (i : Nat) : d7 := c.list.getD i ⟨0, 0, 0, 0, 0⟩
theorem E4 {c : b6} {i : Nat} (h : i < c.list.length) : C0 c i = c.list[i] := by simp [C0, h]
def Y2 (c : b6) (m : List (List Bool)) (i : Nat) : Bool := decide ((rowAt m i).length = 0) || (nx c i).all fun t => aE8 (W0 c (C0 c i) (rowAt m i)) (rowAt m t)
theorem aI2 {m : List (List Bool)} (h : m.all ay8 = true) (i : Int) : (rowAt m i).length = 0 ∨ (rowAt m i).length = 14 := by
 unfold rowAt
 rcases b93 i.toNat m.length with h1 | h1
 ·have := b80.1 h _ (b91 h1)
  simp only [ay8, cb9, decide_eq_true_eq] at this
  simpa [h1] using this
 ·left; simp [h1]
def isJ (c : b6) (x : Int) : Bool := decide ((C0 c x.toNat).op = 8)
def bw6 (c : b6) : Nat → Int → Int
 | 0, x => x
 | k + 1, x => if isJ c x = true then bw6 c k (C0 c x.toNat).a else x
def bO7 (c : b6) (t : Int) : Int := if isJ c (bw6 c c.list.length t) = true then t else bw6 c c.list.length t
def G0 (x : d7) (t : Int) : d7 := if x.op = 8 then { x with a := t } else if x.op = 9 ∨ x.op = 10 then { x with b := t } else x
def b13 (c : b6) (x : d7) : d7 := if 0 ≤ j6 x then G0 x (bO7 c (j6 x)) else x
def bR7 (c : b6) : b6 := { c with list := c.list.map (b13 c) }
theorem aH0 {c : b6} {x : d7} (h : y6 c x = true) (h0 : 0 ≤ j6 x) : j6 x < c.list.length := by
 by_cases ho : x.op = 8 ∨ x.op = 9 ∨ x.op = 10
 ·exact (aL0 h ho).2
 ·unfold j6 at h0
  rw [if_neg (by omega), if_neg (by omega)] at h0
  omega
def bc4 (c : b6) (x : Int) : Prop := 0 ≤ x ∧ x < c.list.length
theorem at1 {c : b6} (h : i5 c = true) : c.size ≤ 1048576 := by
 obtain ⟨h1, -, h2, -, -⟩ := l9 h
 unfold E7 at h1
 simp only [b73, decide_eq_true_eq] at h1
 unfold b6.size
 omega
def aB3 (c : b6) (i : Nat) : Bool := decide ((C0 c i).op = 8) && decide ((C0 c i).a = (i : Int) + 1)
noncomputable def kpB (c : b6) (i : Nat) : Bool := (B9 c).getD i false && !aB3 c i
noncomputable def A0 (c : b6) : List Bool := (b88 c.list.length).map (kpB c)
theorem az0 (c : b6) : (B9 c).length = c.list.length := by simp [B9]
theorem O2 (c : b6) : (A0 c).length = c.list.length := by simp [A0]
theorem ag7 (c : b6) (i : Nat) (h : i < c.list.length) : (A0 c).getD i false = kpB c i := by simp [A0, h]
noncomputable def z9 (c : b6) (k : Nat) : List Bool := (b88 c.list.length).map fun i => (B9 c).getD i false && !(decide (i < k) && aB3 c i)
theorem Y0 (c : b6) (k : Nat) : (z9 c k).length = c.list.length := by simp [z9]
theorem aN4 (c : b6) : z9 c 0 = B9 c := by
 apply List.ext_getElem (by rw [Y0, az0])
 intro i h1 h2
 simp [z9, h2]
theorem aW1 (c : b6) : z9 c c.list.length = A0 c := by
 unfold z9 A0 kpB
 apply List.map_congr_left
 intro i hi
 rw [decide_eq_true (ca9.1 hi)]; simp
theorem aN5 {c : b6} {k : Nat} (h : aB3 c k = false) : z9 c (k + 1) = z9 c k := by
 unfold z9
 apply List.map_congr_left
 intro i _
 by_cases e : i = k
 ·subst e; rw [h]; simp
 ·have : decide (i < k + 1) = decide (i < k) := by rw [decide_eq_decide]; omega
  rw [this]
theorem aW0 {c : b6} {k : Nat} (_hk : k < c.list.length) (h : aB3 c k = true) : z9 c (k + 1) = (z9 c k).set k false := by
 apply List.ext_getElem (by simp [Y0])
 intro i h1 h2
 rw [List.getElem_set]
 split
 ·rename_i e
  subst e
  simp only [z9, List.getElem_map, List.getElem_range]
  rw [h]; simp
 ·rename_i e
  simp only [z9, List.getElem_map, List.getElem_range]
  have : decide (i < k + 1) = decide (i < k) := by rw [decide_eq_decide]; omega
  rw [this]
def L5 (ks : List Bool) (k : Nat) : Nat := (ks.take k).count true
theorem V0 (ks : List Bool) : L5 ks 0 = 0 := by simp [L5]
theorem R5 (ks : List Bool) (k : Nat) (h : k < ks.length) : L5 ks (k + 1) = L5 ks k + (if ks.getD k false = true then 1 else 0) := by
 unfold L5
 rw [G4 _ _ h, List.count_append]
 simp only [b75, b72 h, Option.getD_some]
 cases ks[k] <;> simp
theorem br1 (ks : List Bool) (k : Nat) : L5 ks k ≤ k := by
 unfold L5
 exact b97 List.count_le_length (List.length_take_le k ks)
def ad1 (ks : List Bool) (k : Nat) : List Int := (b88 k).map fun i => (L5 ks i : Int)
theorem O0 (ks : List Bool) (k : Nat) : (ad1 ks k).length = k := by simp [ad1]
theorem aI6 (ks : List Bool) (k : Nat) : ad1 ks (k + 1) = ad1 ks k ++ [(L5 ks k : Int)] := by
 unfold ad1; rw [List.range_succ, List.map_append]; rfl
theorem aV0 (ks : List Bool) (k i : Nat) (h : i < k) : (ad1 ks k)[i]? = some (L5 ks i : Int) := by simp [ad1, h]
def trI (ks : List Bool) (x : d7) : d7 := if 0 ≤ j6 x then G0 x (L5 ks (j6 x).toNat : Int) else x
def j5 (c : b6) (ks : List Bool) (k : Nat) : List d7 := (b88 k).flatMap fun i => if ks.getD i false = true then [trI ks (C0 c i)] else []
theorem aj2 (c : b6) (ks : List Bool) : j5 c ks 0 = [] := rfl
theorem Z6 {c : b6} {ks : List Bool} {k : Nat} (h : ks.getD k false = true) : j5 c ks (k + 1) = j5 c ks k ++ [trI ks (C0 c k)] := by
 unfold j5
 rw [List.range_succ, List.flatMap_append]
 simp only [List.flatMap_cons, List.flatMap_nil, List.append_nil]
 rw [if_pos h]
theorem U5 {c : b6} {ks : List Bool} {k : Nat} (h : ks.getD k false = false) : j5 c ks (k + 1) = j5 c ks k := by
 unfold j5
 rw [List.range_succ, List.flatMap_append]
 simp only [List.flatMap_cons, List.flatMap_nil, List.append_nil]
 rw [if_neg (by rw [h]; simp), List.append_nil]
theorem al9 (c : b6) (ks : List Bool) (k : Nat) : (j5 c ks k).length ≤ k := by
 induction k with
 | zero => simp [aj2]
 | succ k ih =>
  cases h : ks.getD k false
  ·rw [U5 h]; omega
  ·rw [Z6 h, b74, List.length_singleton]; omega
noncomputable def n5 (c : b6) : b6 := { c with list := j5 c (A0 c) c.list.length }
theorem a86 (x : d7) (t : Int) : (G0 x t).op = x.op := by unfold G0; split <;> (try split) <;> rfl
theorem bH2 {x : d7} (h : 0 ≤ j6 x) (t : Int) : j6 (G0 x t) = t := by
 unfold j6 at h
 unfold j6 G0
 by_cases h8 : x.op = 8
 ·simp [h8]
 ·by_cases h9 : x.op = 9 ∨ x.op = 10
  ·simp only [if_neg h8, if_pos h9]
  ·rw [if_neg h8, if_neg h9] at h; omega
theorem aV3 {x : d7} (h1 : 1 ≤ x.op) (h2 : x.op ≤ 13) : x.op = 1 ∨ x.op = 2 ∨ x.op = 3 ∨ x.op = 4 ∨ x.op = 5 ∨ x.op = 6 ∨ x.op = 7 ∨ x.op = 8 ∨ x.op = 9 ∨ x.op = 10 ∨ x.op = 11 ∨ x.op = 12 ∨ x.op = 13 := by omega
theorem bh9 {c d : b6} {x : d7} (h : y6 c x = true) (_hv : d.vars = c.vars) (_ha : d.arrays = c.arrays) {t : Int} (hx : 0 ≤ j6 x) (h0 : 0 ≤ t) (h1 : t < d.list.length) : y6 d (G0 x t) = true := by
 have h' := h
 unfold y6 at h ⊢
 simp only [b73, decide_eq_true_eq] at h
 obtain ⟨⟨ho1, ho2⟩, hp⟩ := h
 rw [a86]
 cases x with
 | mk op a b c' d' =>
 simp only at *
 rcases aV3 (x := ⟨op, a, b, c', d'⟩) ho1 ho2 with e | e | e | e | e | e | e | e | e | e | e | e | e <;> simp only at e <;> subst e <;>
  simp [f8, D5, K1, G0, j6] at hp hx ⊢ <;> simp_all
theorem aW5 {c d : b6} {x : d7} (h : y6 c x = true) (_hv : d.vars = c.vars) (_ha : d.arrays = c.arrays) (hx : j6 x < 0) : y6 d x = true := by
 unfold y6 at h ⊢
 simp only [b73, decide_eq_true_eq] at h
 obtain ⟨⟨ho1, ho2⟩, hp⟩ := h
 cases x with
 | mk op a b c' d' =>
 simp only at *
 rcases aV3 (x := ⟨op, a, b, c', d'⟩) ho1 ho2 with e | e | e | e | e | e | e | e | e | e | e | e | e <;> simp only at e <;> subst e <;>
  simp [f8, D5, K1, j6] at hp hx ⊢ <;> simp_all <;> omega
theorem ag4 {c : b6} {i : Nat} (h : i < c.list.length) : (B9 c).getD i false = true ↔ Rc c (i : Int) := by
 simp [B9, h]
theorem a49 {c : b6} {i : Nat} (h : i < c.list.length) : nx c (i : Int) = E1 c.list[i] i := by
 have := az7 (c := c) (t := (i : Int)) (by simpa using h)
 simpa using this
theorem ap7 {c : b6} (hc : i5 c = true) : ∀ (d i : Nat), c.list.length - i = d → i < c.list.length → Rc c (i : Int) → ∃ j, i ≤ j ∧ j < c.list.length ∧ kpB c j = true := by
 intro d
 induction d with
 | zero => intro i h1 h2; omega
 | succ d ih =>
  intro i h1 h2 hr
  cases hk : kpB c i
  ·unfold kpB at hk
   rw [(ag4 h2).2 hr] at hk
   simp only [Bool.true_and, cb4] at hk
   unfold aB3 at hk
   rw [E4 h2] at hk
   simp only [b73, decide_eq_true_eq] at hk
   have hm : (i : Int) + 1 ∈ nx c (i : Int) := by
    rw [a49 h2]
    unfold E1
    simp [hk.1, hk.2]
   have hok := az6 hc (Rc.nonneg hc hr) hm
   have hr1 := Rc.step hr hm
   have e : (i : Int) + 1 = ((i + 1 : Nat) : Int) := by omega
   rw [e] at hr1 hok
   obtain ⟨j, a, b, e⟩ := ih (i + 1) (by omega) (by omega) hr1
   exact ⟨j, by omega, b, e⟩
  ·exact ⟨i, b76 _, h2, hk⟩
theorem aU9 (ks : List Bool) {a b : Nat} (h : a ≤ b) : L5 ks a ≤ L5 ks b := by
 unfold L5
 have : ks.take a = (ks.take b).take a := by rw [List.take_take, Nat.min_eq_left h]
 rw [this]
 exact List.Sublist.count_le _ (List.take_sublist _ _)
theorem a44 {ks : List Bool} {i j n : Nat} (h1 : i ≤ j) (h2 : j < n) (h3 : n ≤ ks.length) (h : ks.getD j false = true) : L5 ks i < L5 ks n := by
 have a := aU9 ks h1
 have b := aU9 ks (show j + 1 ≤ n by omega)
 rw [R5 ks j (by omega), if_pos h] at b
 omega
theorem ap0 (c : b6) (ks : List Bool) : ∀ k, k ≤ ks.length → (j5 c ks k).length = L5 ks k := by
 intro k
 induction k with
 | zero => intro _; simp [aj2, V0]
 | succ k ih =>
  intro h
  rw [R5 ks k (by omega)]
  cases hk : ks.getD k false
  ·rw [U5 hk, ih (by omega)]; simp
  ·rw [Z6 hk, b74, ih (by omega)]; simp
theorem bf4 {c : b6} {ks : List Bool} {k : Nat} {x : d7} (h : x ∈ j5 c ks k) : ∃ i, i < k ∧ ks.getD i false = true ∧ x = trI ks (C0 c i) := by
 unfold j5 at h
 rw [List.mem_flatMap] at h
 obtain ⟨i, hi, hx⟩ := h
 split at hx
 ·rename_i hk
  simp at hx
  exact ⟨i, ca9.1 hi, hk, hx⟩
 ·simp at hx
theorem a16 (c : b6) (ks : List Bool) : ∀ k, j5 c ks k ≠ [] → ∃ j, j < k ∧ ks.getD j false = true ∧ (∀ i, j < i → i < k → ks.getD i false = false) ∧ (j5 c ks k).getLast? = some (trI ks (C0 c j)) := by
 intro k
 induction k with
 | zero => intro h; exact absurd (aj2 c ks) h
 | succ k ih =>
  intro h
  cases hk : ks.getD k false
  ·rw [U5 hk] at h ⊢
   obtain ⟨j, h1, h2, h3, h4⟩ := ih h
   refine ⟨j, by omega, h2, fun i a b => ?_, h4⟩
   by_cases e : i = k
   ·subst e; exact hk
   ·exact h3 i a (by omega)
  ·rw [Z6 hk]
   exact ⟨k, by omega, hk, fun i a b => by omega, by simp⟩
theorem bK9 (ks : List Bool) (x : d7) : (trI ks x).op = x.op := by unfold trI; split; exact a86 _ _; rfl
theorem aN2 {c : b6} {i : Nat} (h : i < c.list.length) (hk : (A0 c).getD i false = true) : Rc c (i : Int) := by
 rw [ag7 c i h] at hk
 unfold kpB at hk
 simp only [b73] at hk
 exact (ag4 h).1 hk.1
theorem bm8 {x : d7} (h : 0 ≤ j6 x) (i : Int) : j6 x ∈ E1 x i := by
 unfold j6 E1 at *
 by_cases h8 : x.op = 8
 ·simp [h8]
 ·by_cases h9 : x.op = 9 ∨ x.op = 10
  ·rw [if_neg h8, if_pos h9]
   rw [if_neg (by omega), if_neg h8, if_pos h9]; simp
  ·rw [if_neg h8, if_neg h9] at h; omega
theorem av3 {c : b6} (hc : i5 c = true) : i5 (n5 c) = true := by
 obtain ⟨h1, h2, h3, h4, h5⟩ := l9 hc
 have hkl := O2 c
 have hlen : (j5 c (A0 c) c.list.length).length = L5 (A0 c) c.list.length := ap0 c _ _ (by omega)
 obtain ⟨j0, -, hj2, hj3⟩ := ap7 hc _ 0 rfl (by omega) Rc.zero
 have hpos : 0 < L5 (A0 c) c.list.length := by
  have := a44 (ks := A0 c) (i := 0) (b92 j0) hj2 (by omega) (by rw [ag7 c _ hj2]; exact hj3)
  omega
 unfold i5
 simp only [b73, decide_eq_true_eq, b80]
 refine ⟨⟨⟨⟨h1, ?_⟩, ?_⟩, ?_⟩, ?_⟩
 ·show 1 ≤ (j5 c (A0 c) c.list.length).length; omega
 ·show (j5 c (A0 c) c.list.length).length ≤ 400
  have := al9 c (A0 c) c.list.length; omega
 ·intro x hx
  obtain ⟨i, hi, hk, rfl⟩ := bf4 hx
  have hr := aN2 hi hk
  rw [E4 hi]
  unfold trI
  split
  ·rename_i ht
   have hm : j6 c.list[i] ∈ nx c (i : Int) := by rw [a49 hi]; exact bm8 ht _
   have hok := az6 hc (by omega) hm
   obtain ⟨t, het⟩ : ∃ t : Nat, j6 c.list[i] = t := ⟨(j6 c.list[i]).toNat, by omega⟩
   have hrt := Rc.step hr hm
   rw [het] at hrt hok
   obtain ⟨j, a, b, e⟩ := ap7 hc _ t rfl (by omega) hrt
   have := a44 (ks := A0 c) a b (by omega) (by rw [ag7 c _ b]; exact e)
   refine bh9 (d := n5 c) (h4 i hi) rfl rfl ht (by omega) ?_
   show _ < ((j5 c (A0 c) c.list.length).length : Int)
   rw [het, cb0]; omega
  ·rename_i ht
   exact aW5 (d := n5 c) (h4 i hi) rfl rfl (by omega)
 ·unfold Y9
  obtain ⟨j, a, b, d, e⟩ := a16 c (A0 c) c.list.length (by intro h; rw [h] at hlen; simp at hlen; omega)
  show (match (j5 c (A0 c) c.list.length).getLast? with | some x => decide (x.op = 13) || decide (x.op = 8) | none => false) = true
  rw [e]
  simp only [bK9, E4 a]
  by_cases e13 : c.list[j].op = 13
  ·simp [e13]
  ·by_cases e8 : c.list[j].op = 8
   ·simp [e8]
   ·exfalso
    have hl := bd4 hc j a e13 e8
    have hm : (j : Int) + 1 ∈ nx c (j : Int) := by
     rw [a49 a]; unfold E1; rw [if_neg e13, if_neg e8]; split <;> simp
    have hr1 := Rc.step (aN2 a b) hm
    rw [show (j : Int) + 1 = ((j + 1 : Nat) : Int) by omega] at hr1
    obtain ⟨i, p, q, r⟩ := ap7 hc _ (j + 1) rfl hl hr1
    have := d i (by omega) q
    rw [ag7 c _ q, r] at this
    cases this
noncomputable def bN1 (c : b6) : b6 := n5 (bR7 c)
inductive Opt : b6 → b6 → Prop
 | stop {c : b6} : bN1 c = c → Opt c c
 | step {c r : b6} : bN1 c ≠ c → Opt (bN1 c) r → Opt c r
open Classical in
noncomputable def b67 (c : b6) : Nat := 2 * c.list.length + (if bR7 c = c then 0 else 1)
open Classical in
noncomputable def b68 (c : b6) : b6 := if h : ∃ r, Opt c r then Classical.choose h else c
end Go.Proofs.YtmokkddidcmglaaGreat

namespace Go.Proofs.YtmokkddidcmglaaGreat
open Go Go.RowKit
theorem aP8 (a b : Nat) (ha : a < 9223372036854775808) (hb : b < 9223372036854775808) : bits .and .i64 (a : Int) (b : Int) = ((a &&& b : Nat) : Int) := by
 have hx : a &&& b < 2 ^ 63 := Nat.and_lt_two_pow _ (by omega)
 have h1 : (BitVec.ofInt 64 (a : Int)).toNat = a := by
  rw [BitVec.ofInt_natCast, BitVec.toNat_ofNat]; exact Nat.mod_eq_of_lt (by omega)
 have h2 : (BitVec.ofInt 64 (b : Int)).toNat = b := by
  rw [BitVec.ofInt_natCast, BitVec.toNat_ofNat]; exact Nat.mod_eq_of_lt (by omega)
 show IntKind.i64.wrap ((BitVec.ofInt 64 (a : Int) &&& BitVec.ofInt 64 (b : Int)).toNat : Int) = _
 rw [BitVec.toNat_and, h1, h2, IntKind.wrap_i64]
 omega
theorem aP6 (a b : Nat) (ha : a < 9223372036854775808) (hb : b < 9223372036854775808) : bits .xor .i64 (a : Int) (b : Int) = ((a ^^^ b : Nat) : Int) := by
 have hx : a ^^^ b < 2 ^ 63 := Nat.xor_lt_two_pow (by omega) (by omega)
 have h1 : (BitVec.ofInt 64 (a : Int)).toNat = a := by
  rw [BitVec.ofInt_natCast, BitVec.toNat_ofNat]; exact Nat.mod_eq_of_lt (by omega)
 have h2 : (BitVec.ofInt 64 (b : Int)).toNat = b := by
  rw [BitVec.ofInt_natCast, BitVec.toNat_ofNat]; exact Nat.mod_eq_of_lt (by omega)
 show IntKind.i64.wrap ((BitVec.ofInt 64 (a : Int) ^^^ BitVec.ofInt 64 (b : Int)).toNat : Int) = _
 rw [BitVec.toNat_xor, h1, h2, IntKind.wrap_i64]
 omega
theorem aP9 {a b : Int} (h1 : 0 ≤ a) (h2 : a ≤ 255) (h3 : 0 ≤ b) (h4 : b ≤ 255) : bits .and .i64 a b = ((a.toNat &&& b.toNat : Nat) : Int) := by
 rw [← aP8 _ _ (by omega) (by omega), Int.toNat_of_nonneg h1, Int.toNat_of_nonneg h3]
theorem aP7 {a b : Int} (h1 : 0 ≤ a) (h2 : a ≤ 255) (h3 : 0 ≤ b) (h4 : b ≤ 255) : bits .xor .i64 a b = ((a.toNat ^^^ b.toNat : Nat) : Int) := by
 rw [← aP6 _ _ (by omega) (by omega), Int.toNat_of_nonneg h1, Int.toNat_of_nonneg h3]
theorem aB2 (b : Bool) (w : World) : Calls Tryz.prog 109 #[.bool b] w fun e w' => e = .returned (.int .i64 (at6 b)) ∧ w = w' := by
 cases b
 all_goals
  go_enter Tryz.func109, Tryz.ntmps109
  go_wp2_with fail
  go_ret
  exact ⟨rfl, rfl⟩
theorem aO0 (k a b : Int) (w : World) (h1 : 0 ≤ a) (h2 : a ≤ 255) (h3 : 0 ≤ b) (h4 : b ≤ 255) : Calls Tryz.prog 100 #[.int .i64 k, .int .i64 a, .int .i64 b] w fun e w' => e = .returned (.int .i64 (J5 k a b)) ∧ w = w' := by
 have hm : 0 ≤ a * b := Int.mul_nonneg h1 h3
 have hm2 : a * b ≤ 65025 := by
  have := Int.mul_le_mul h2 h4 h3 (by omega : (0 : Int) ≤ 255)
  omega
 by_cases k4 : k = 4
 ·subst k4
  have HV : Hid (J5 4 a b = (a + b).tmod 256) := by unfold Hid J5; simp
  go_enter Tryz.func100, Tryz.ntmps100
  go_wp2_with fail
  go_ret
  exact ⟨K0 (by rw [HV.out]; exact (Int.tmod_eq_emod_of_nonneg (by first | assumption | omega)).symm), rfl⟩
 by_cases k5 : k = 5
 ·subst k5
  have HV : Hid (J5 5 a b = (a - b + 256).tmod 256) := by unfold Hid J5; simp
  go_enter Tryz.func100, Tryz.ntmps100
  go_wp2_with fail
  go_ret
  exact ⟨K0 (by rw [HV.out]; exact (Int.tmod_eq_emod_of_nonneg (by first | assumption | omega)).symm), rfl⟩
 by_cases k6 : k = 6
 ·subst k6
  have HV : Hid (J5 6 a b = (a * b).tmod 256) := by unfold Hid J5; simp
  go_enter Tryz.func100, Tryz.ntmps100
  go_wp2_with fail
  go_ret
  exact ⟨K0 (by rw [HV.out]; exact (Int.tmod_eq_emod_of_nonneg (by first | assumption | omega)).symm), rfl⟩
 by_cases k7 : k = 7
 ·subst k7
  have HV : Hid (J5 7 a b = bits .and .i64 a b) := by unfold Hid; rw [aP9 h1 h2 h3 h4]; unfold J5; simp
  go_enter Tryz.func100, Tryz.ntmps100
  go_wp2_with fail
  go_ret
  exact ⟨K0 (by rw [HV.out]), rfl⟩
 by_cases k8 : k = 8
 ·subst k8
  have HV : Hid (J5 8 a b = bits .xor .i64 a b) := by unfold Hid; rw [aP7 h1 h2 h3 h4]; unfold J5; simp
  go_enter Tryz.func100, Tryz.ntmps100
  go_wp2_with fail
  go_ret
  exact ⟨K0 (by rw [HV.out]), rfl⟩
 have HK := show Hid _ from And.intro k4 (And.intro k5 (And.intro k6 (And.intro k7 k8)))
 have p4 : (k == 4) = false := by simp [k4]
 have p5 : (k == 5) = false := by simp [k5]
 have p6 : (k == 6) = false := by simp [k6]
 have p7 : (k == 7) = false := by simp [k7]
 have p8 : (k == 8) = false := by simp [k8]
 clear k4 k5 k6 k7 k8
 by_cases k9 : k = 9
 ·subst k9
  have HV : Hid (J5 9 a b = at6 (decide (a = b))) := by unfold Hid J5; simp
  clear hm hm2
  go_enter Tryz.func100, Tryz.ntmps100
  go_wp2_with fail
  refine (aB2 _ _).mono ?_
  rintro x w1 ⟨rfl, rfl⟩
  go_wp2_with fail
  go_ret
  exact ⟨K0 (by rw [HV.out]; congr 1), rfl⟩
 ·have HV : Hid (J5 k a b = at6 (decide (a < b))) := by
   obtain ⟨k4, k5, k6, k7, k8⟩ := HK.out
   unfold Hid J5; rw [if_neg k4, if_neg k5, if_neg k6, if_neg k7, if_neg k8, if_neg k9]
  have p9 : (k == 9) = false := by simp [k9]
  clear hm hm2 k9
  go_enter Tryz.func100, Tryz.ntmps100
  go_wp2_with fail
  refine (aB2 _ _).mono ?_
  rintro x w1 ⟨rfl, rfl⟩
  go_wp2_with fail
  go_ret
  exact ⟨K0 (by rw [HV.out]), rfl⟩
theorem aB1 (p : d7 → Bool) (f : FuncId) (q : Value) (v : Value) (xs : List d7) (w : World) (h : W5 w v xs) (he : ∀ args w, (callFunc f args).run Tryz.prog w = .ok (.enter f args) w)
  (hf : ∀ x w', Below w.heap.size w w' → Calls Tryz.prog f #[x.v, q] w' fun e w'' => e = .returned (.bool (p x)) ∧ Below w'.heap.size w' w'') :
  Calls Tryz.prog 64 #[v, .func (.func f) #[] #[q]] w fun e w' => ∃ r : Int, e = .returned (.int .i64 r) ∧ decide (0 ≤ r) = xs.any p ∧ Below w.heap.size w w' := by
 obtain ⟨a1, c1, rfl, -, hm1, -, hc1⟩ := h.ins
 have HF := show Hid _ from hf
 clear h hf
 go_enter Tryz.func64, Tryz.ntmps64
 go_wp2_with fail
 go_loopw [5, 8] (fun _ i wr => ∃ k : Nat, k ≤ xs.length ∧ i = .int .i64 k ∧ (xs.take k).any p = false ∧ Below w.heap.size w wr) (fun _ i _ => xs.length - (intOf i).toNat)
 case atStart => exact ⟨0, b92 _, rfl, rfl, Below.refl _ _⟩
 case round =>
  obtain ⟨k, hk, rfl, ha, hb⟩ := hrel
  have HA := show Hid _ from ha
  clear ha
  by_cases hlt : k < xs.length
  ·obtain ⟨b1, o1, rfl, hb1, i0, i1, i2, i3, i4⟩ := hc1 k hlt
   rw [← (J1 hb).1 _ _ hb1] at i0 i1 i2 i3 i4
   clear hc1
   cases hp : p xs[k]
   all_goals
    have HP := show Hid _ from hp
    clear hp
    go_wp2_with fail
    refine (HF.out xs[k] _ hb).mono ?_
    rintro e w1 ⟨rfl, hb2⟩
    rw [HP.out]
    go_wp2_with fail
   ·go_roundw
    case rel => exact ⟨k + 1, by omega, by go_num, by rw [t2 _ _ hlt, List.any_append, HA.out]; simp [HP.out], hb.trans (hb2.mono hb.size)⟩
    case measure => simp [intOf]; omega
   ·go_ret
    exact ⟨_, rfl, by rw [decide_eq_true (by omega)]; symm; rw [List.any_eq_true]; exact ⟨_, b91 hlt, HP.out⟩, hb.trans (hb2.mono hb.size)⟩
  ·go_wp2_with fail
   go_ret
   refine ⟨_, rfl, ?_, hb⟩
   have := HA.out
   rw [b89 (by omega)] at this
   rw [this]; rfl
theorem ao1 (p : d7 → Bool) (f : FuncId) (q : Value) (v : Value) (xs : List d7) (w : World) (h : W5 w v xs) (he : ∀ args w, (callFunc f args).run Tryz.prog w = .ok (.enter f args) w)
  (hf : ∀ x w', Below w.heap.size w w' → Calls Tryz.prog f #[x.v, q] w' fun e w'' => e = .returned (.bool (p x)) ∧ Below w'.heap.size w' w'') :
  Calls Tryz.prog 35 #[v, .func (.func f) #[] #[q]] w fun e w' => e = .returned (.bool (xs.any p)) ∧ Below w.heap.size w w' := by
 obtain ⟨a1, c1, rfl, -⟩ := h.open
 have HF := show Hid _ from hf
 have HE := show Hid _ from he
 clear hf he
 go_enter Tryz.func35, Tryz.ntmps35
 go_wp2_with fail
 refine (aB1 p f q _ xs _ h HE.out HF.out).mono ?_
 rintro e w1 ⟨r, rfl, hr, hb⟩
 have HR := show Hid _ from hr
 clear hr
 go_wp2_with fail
 go_ret
 exact ⟨j7 HR.out, hb⟩
theorem a60 (op : Int) (w : World) :
  Calls Tryz.prog 65 #[.int .i64 op] w fun e w' => e = .returned (.string ⟨(L9 op).toArray⟩) ∧ Below w.heap.size w w' := by
 by_cases h : 1 ≤ op ∧ op ≤ 13
 ·obtain ⟨h1, h2⟩ := h
  have h : op = 1 ∨ op = 2 ∨ op = 3 ∨ op = 4 ∨ op = 5 ∨ op = 6 ∨ op = 7 ∨ op = 8 ∨ op = 9 ∨ op = 10 ∨ op = 11 ∨ op = 12 ∨ op = 13 := by omega
  clear h1 h2
  rcases h with rfl | rfl | rfl | rfl | rfl | rfl | rfl | rfl | rfl | rfl | rfl | rfl | rfl
  all_goals
   go_enter Tryz.func65, Tryz.ntmps65
   go_wp2_with fail
   refine (C8 _ 1 13 _).mono ?_
   rintro e w1 ⟨rfl, rfl⟩
   go_wp2_with fail
   go_ret
   exact ⟨by simp [L9], by go_grown⟩
 ·have hF : Hid (L9 op = []) := aH6 h
  have hb : (decide ((1 : Int) ≤ op) && decide (op ≤ 13)) = false := by
   rw [Bool.eq_false_iff]; simp only [ne_eq, b73, decide_eq_true_eq]; exact h
  have HB := show Hid _ from hb
  clear h hb
  go_enter Tryz.func65, Tryz.ntmps65
  go_wp2_with fail
  refine (C8 _ 1 13 _).mono ?_
  rintro e w1 ⟨rfl, rfl⟩
  rw [HB.out]
  go_wp2_with fail
  go_ret
  exact ⟨by rw [hF.out]; rfl, Below.refl _ _⟩
theorem aW9 (x : d7) (w : World) :
  Calls Tryz.prog 66 #[x.v] w fun e w' => ∃ u, e = .returned u ∧ A6 w' w.heap.size w'.heap.size 3 1 u 4 (ints [x.a, x.b, x.c, x.d]) ∧ Below w.heap.size w w' := by
 obtain ⟨x0, x1, x2, x3, x4⟩ := x
 go_enter Tryz.func66, Tryz.ntmps66
 go_wp2_with fail
 go_ret
 refine ⟨_, rfl, (v8 _ #[.int .i64 x1, .int .i64 x2, .int .i64 x3, .int .i64 x4] 4 1 _ (by simp) rfl (by omega)).wide (by simp) (by simp), by go_grown⟩
theorem aO3 (v1 v2 v3 : Value) (c : b6) (kd : UInt8) (n : Int) (w : World) (h1 : F8 w v1 c.vars.length 1 (ints c.vars)) (h2 : F8 w v2 c.arrays.length 1 (ints c.arrays)) (h3 : W5 w v3 c.list) :
  Calls Tryz.prog 67 #[.agg #[v1, v2, v3], .int .u8 kd.toNat, .int .i64 n] w fun e w' => e = .returned (.bool (J4 c kd n)) ∧ Below w.heap.size w w' := by
 obtain ⟨a1, k1, rfl, -, q1, -, -⟩ := h1.open1
 obtain ⟨a2, k2, rfl, -, q2, -, -⟩ := h2.open1
 obtain ⟨a3, k3, rfl, -, q3, -, -⟩ := h3.open
 have hk : kd.toNat < 256 := kd.toNat_lt
 have HK : Hid (∀ m : UInt8, (kd = m) = ((kd.toNat : Int) = (m.toNat : Int))) := fun m => by
  rw [eq_iff_iff]
  constructor
  ·rintro rfl; rfl
  ·intro h; exact UInt8.toNat_inj.1 (by omega)
 clear h1 h2 h3
 obtain ⟨z, hz⟩ : ∃ z, z = kd.toNat := ⟨_, rfl⟩
 rw [← hz] at hk ⊢
 have HZ := show Hid _ from hz
 clear hz
 go_enter Tryz.func67, Tryz.ntmps67
 go_wp2_with (go_at_call 34; refine (C8 _ _ _ _).mono ?_; rintro e w1 ⟨rfl, rfl⟩)
 all_goals go_ret
 all_goals refine ⟨j7 ?_, by go_grown⟩
 all_goals unfold J4
 all_goals simp only [HK.out, ← HZ.out, show (UInt8.toNat 114) = 114 from rfl, show (UInt8.toNat 110) = 110 from rfl, show (UInt8.toNat 118) = 118 from rfl, show (UInt8.toNat 97) = 97 from rfl, show (UInt8.toNat 111) = 111 from rfl, show (UInt8.toNat 105) = 105 from rfl]
 all_goals clear HK HZ hk q1 q2 q3
 all_goals simp_all
 all_goals (rw [ca0]; simp)
theorem aO1 (v : Value) (c : b6) (x : d7) (w : World) (h : t6 w v c) :
  Calls Tryz.prog 37 #[v, x.v] w fun e w' => e = .returned (.bool (y6 c x)) ∧ Below w.heap.size w w' := by
 obtain ⟨v1, v2, v3, rfl, h1, h2, h3⟩ := h
 obtain ⟨W, hW⟩ : ∃ W, W = ((w.alloc (.cells #[v1, v2, v3] 26)).alloc (.cells #[.int .i64 x.op, .int .i64 x.a, .int .i64 x.b, .int .i64 x.c, .int .i64 x.d] 60)) := ⟨_, rfl⟩
 have B0 : Below w.heap.size w W := by rw [hW]; go_grown
 have L1 : A1 W w.heap.size [v1, v2, v3] := by rw [hW]; exact (A1.new w [v1, v2, v3] _).alloc _
 have L2 : A1 W (w.heap.size + 1) [.int .i64 x.op, .int .i64 x.a, .int .i64 x.b, .int .i64 x.c, .int .i64 x.d] := by rw [hW]; exact A1.new' (w.alloc _) [.int .i64 x.op, .int .i64 x.a, .int .i64 x.b, .int .i64 x.c, .int .i64 x.d] _ (by simp)
 go_enter Tryz.func37, Tryz.ntmps37
 go_wp2_with fail
 rw [← hW]
 clear hW
 refine (a60 x.op W).mono ?_
 rintro e w1 ⟨rfl, b1⟩
 replace L1 := L1.below b1 L1.lt
 replace L2 := L2.below b1 L2.lt
 have y0 := L2.cell 0
 have y1 := L2.cell 1
 have y2 := L2.cell 2
 have y3 := L2.cell 3
 have y4 := L2.cell 4
 simp at y0 y1 y2 y3 y4
 go_wp2_with fail
 refine (aW9 x _).mono ?_
 rintro e w2 ⟨u, rfl, o2, b2⟩
 replace L1 := L1.below b2 L1.lt
 have B2 := (B0.trans (b1.mono B0.size)).trans (b2.mono (by have := B0.size; have := b1.size; omega))
 obtain ⟨g, cap, rfl, -, -, hg, -, -, -, hp⟩ := o2.open (by omega)
 clear y0 y1 y2 y3 y4 L2 o2
 by_cases hop : 1 ≤ x.op ∧ x.op ≤ 13
 ·have hR : Hid (y6 c x = az3 c (L9 x.op) [x.a, x.b, x.c, x.d] 4) := a59 c x hop
  have hkl := bA6 hop
  obtain ⟨kinds, hkinds⟩ : ∃ kinds, kinds = L9 x.op := ⟨_, rfl⟩
  obtain ⟨parts, hparts⟩ : ∃ parts, parts = [x.a, x.b, x.c, x.d] := ⟨_, rfl⟩
  rw [← hkinds] at hkl ⊢
  rw [← hkinds] at hR
  rw [← hparts] at hR hp
  have hpl : parts.length = 4 := by rw [hparts]; rfl
  clear hkinds hparts hop
  have HPL := show Hid _ from hpl
  clear hpl
  have hne : kinds.isEmpty = false := by
   rw [List.isEmpty_eq_false_iff]; intro h; rw [h] at hkl; simp at hkl
  go_wp2_with fail
  go_loopw [14] (fun i wr => ∃ k : Nat, k ≤ 4 ∧ i = .int .i64 k ∧ az3 c kinds parts k = true ∧ Below w2.heap.size w2 wr) (fun i _ => 4 - (intOf i).toNat)
  case atStart => exact ⟨0, by omega, rfl, rfl, Below.refl _ _⟩
  case round =>
   obtain ⟨k, hk, rfl, ha, hb⟩ := hrel
   have HA := show Hid _ from ha
   clear ha
   replace L1 := L1.below hb L1.lt
   by_cases hlt : k < 4
   ·have x0 := L1.cell 0
    have x1 := L1.cell 1
    have x2 := L1.cell 2
    simp only [b81, b82] at x0 x1 x2
    have z0 := fun X => t4 x0 X
    have z1 := fun X => t4 x1 X
    have z2 := fun X => t4 x2 X
    have hpk : k < parts.length := by rw [HPL.out]; exact hlt
    have p0 : wr.cell? ⟨g, k, none⟩ = some (.int .i64 parts[k]) := by
     rw [(J1 hb).1 _ _ hg]; exact hp k _ (by simp [hpk])
    have hkk : k < kinds.length := by rw [hkl]; exact hlt
    have HS := show Hid _ from aI5 c kinds parts k
    have HG := show Hid (parts.getD k 0 = parts[k]) from by simp [Hid, hpk]
    have HKD := show Hid (kinds.getD k 0 = kinds[k]) from by simp [Hid, hkk]
    have BW := B2.trans (hb.mono B2.size)
    clear x0 x1 x2 hp
    cases hr : J4 c kinds[k] parts[k]
    all_goals
     have HR := show Hid _ from hr
     clear hr
     have HC : Hid (∀ X, Calls Tryz.prog 67 #[.agg #[v1, v2, v3], .int .u8 kinds[k].toNat, .int .i64 parts[k]] (wr.ext X) fun e w'' => e = .returned (.bool _) ∧ ∃ Y, w'' = wr.ext Y) :=
      fun X => Calls.ext_of' ((aO3 v1 v2 v3 c kinds[k] parts[k] _ ((h1.below BW).below (x8 _ X)) ((h2.below BW).below (x8 _ X)) ((h3.below BW).below (x8 _ X))).mono fun e w' h => by rw [HR.out] at h; exact h)
     go_wp2_with fail
     refine I1 (by kernel_rfl) (by kernel_rfl) ?_
     repeat (any_goals (first | go_big_quiet_step ((go_at_call 67; exact HC.out _)) | quiet_step ((go_at_call 67; exact HC.out _))))
     refine wpQuiet_nil ?_
     rintro _ ⟨X, rfl⟩
     have hbX := hb.trans ((x8 wr X).mono hb.size)
     go_wp2_with fail
    ·go_ret
     exact ⟨j7 (by rw [hR.out, bg7 4 hlt (by rw [HG.out, HKD.out, HR.out])]), B2.trans (hbX.mono B2.size)⟩
    ·exact ⟨⟨k + 1, by omega, by go_num, by rw [HS.out, HA.out, HG.out, HKD.out, HR.out]; rfl, hbX⟩, by simp [intOf]; omega⟩
   ·go_wp2_with fail
    go_ret
    obtain rfl : k = 4 := by omega
    exact ⟨j7 (by rw [hR.out, HA.out]), B2.trans (hb.mono B2.size)⟩
 ·have hR : Hid (y6 c x = false) := by
   unfold Hid y6
   rcases Classical.not_and_iff_not_or_not.1 hop with h | h
   ·rw [decide_eq_false h]; rfl
   ·rw [decide_eq_false h]; simp
  rw [aH6 hop]
  have p0 := hp 0 (.int .i64 x.a) (by simp)
  clear hop hp h1 h2 h3
  go_wp2_with fail
  go_loopw [14] (fun i wr => i = .int .i64 0 ∧ w2 = wr) (fun i _ => 0)
  case atStart => exact ⟨rfl, rfl⟩
  case round =>
   obtain ⟨rfl, rfl⟩ := hrel
   go_wp2_with fail
   refine I1 (by kernel_rfl) (by kernel_rfl) ?_
   repeat (any_goals (first | go_big_quiet_step ((fail)) | quiet_step ((fail))))
   refine wpQuiet_nil ?_
   rintro _ ⟨X, rfl⟩
   have hbX := B2.trans ((x8 w2 X).mono B2.size)
   go_wp2_with fail
   go_ret
   exact ⟨j7 hR.out.symm, hbX⟩
theorem au7 (v : Value) (c : b6) (x : d7) (b : Nat) (v1 v2 v3 : Value) (w : World) (hv : v = .agg #[v1, v2, v3]) (h : t6 w v c) (hb : A1 w b [v1, v2, v3]) :
  Calls Tryz.prog 36 #[x.v, .pointer (some ⟨b, 0, none⟩)] w fun e w' => e = .returned (.bool (!y6 c x)) ∧ Below w.heap.size w w' := by
 subst hv
 obtain ⟨W, hW⟩ : ∃ W, W = (w.alloc (.cells #[.int .i64 x.op, .int .i64 x.a, .int .i64 x.b, .int .i64 x.c, .int .i64 x.d] 60)) := ⟨_, rfl⟩
 have B0 : Below w.heap.size w W := by rw [hW]; go_grown
 have L1 : A1 W b [v1, v2, v3] := hb.below B0 hb.lt
 have L2 : A1 W w.heap.size [.int .i64 x.op, .int .i64 x.a, .int .i64 x.b, .int .i64 x.c, .int .i64 x.d] := by rw [hW]; exact A1.new w [.int .i64 x.op, .int .i64 x.a, .int .i64 x.b, .int .i64 x.c, .int .i64 x.d] _
 have x0 := L1.cell 0
 have x1 := L1.cell 1
 have x2 := L1.cell 2
 have y0 := L2.cell 0
 have y1 := L2.cell 1
 have y2 := L2.cell 2
 have y3 := L2.cell 3
 have y4 := L2.cell 4
 simp at x0 x1 x2 y0 y1 y2 y3 y4
 rw [hW] at x0 x1 x2 y0 y1 y2 y3 y4
 go_enter Tryz.func36, Tryz.ntmps36
 go_wp2_with fail
 rw [← hW]
 refine (aO1 _ c x _ (h.below B0)).mono ?_
 rintro e w1 ⟨rfl, b1⟩
 clear x0 x1 x2 y0 y1 y2 y3 y4 hW
 go_wp2_with fail
 go_ret
 exact ⟨rfl, B0.trans (b1.mono B0.size)⟩
theorem a85 (xs : List d7) (c : b6) : (xs.any fun l => !y6 c l) = !xs.all (y6 c) := by
 induction xs with
 | nil => rfl
 | cons x r ih => simp only [List.any_cons, List.all_cons, ih]; cases y6 c x <;> simp
theorem V8 (v : Value) (c : b6) (w : World) (h : t6 w v c) :
  Calls Tryz.prog 12 #[v] w fun e w' => e = .returned (.bool (i5 c)) ∧ Below w.heap.size w w' := by
 have hrow := h
 obtain ⟨v1, v2, v3, rfl, h1, h2, h3⟩ := h
 have HT : Hid (i5 c = (E7 c.vars c.arrays && decide (1 ≤ c.list.length) && decide (c.list.length ≤ 400) && c.list.all (y6 c) && Y9 c)) := rfl
 obtain ⟨W, hW⟩ : ∃ W, W = w.alloc (.cells #[v1, v2, v3] 26) := ⟨_, rfl⟩
 have B0 : Below w.heap.size w W := by rw [hW]; go_grown
 have L1 : A1 W w.heap.size [v1, v2, v3] := by rw [hW]; exact (A1.new w [v1, v2, v3] _)
 have hmf : ∀ fn first cap w, (Instr.makeFunc fn first cap).run Tryz.prog w = .ok (.func fn first cap) w := fun _ _ _ _ => rfl
 obtain ⟨a3, k3, rfl, hk3, hm3, -, hc3⟩ := h3.ins
 have x0 := L1.cell 0
 have x1 := L1.cell 1
 have x2 := L1.cell 2
 simp at x0 x1 x2
 rw [hW] at x0 x1 x2
 go_enter Tryz.func12, Tryz.ntmps12
 go_wp2_with fail
 rw [← hW] at x0 x1 x2 ⊢
 clear hW
 refine (aE5 _ _ c.vars c.arrays _ (h1.below B0) (h2.below B0)).mono ?_
 rintro e w1 ⟨rfl, rfl⟩
 cases hh : E7 c.vars c.arrays
 ·have HH := show Hid _ from hh
  clear hh hc3
  go_wp2_with fail
  go_ret
  exact ⟨j7 (by rw [HT.out, HH.out]; rfl), B0⟩
 ·have HH := show Hid _ from hh
  clear hh
  go_wp2_with fail
  refine (C8 _ 1 400 _).mono ?_
  rintro e w1 ⟨rfl, rfl⟩
  by_cases hn : (1 : Int) ≤ (c.list.length : Int) ∧ (c.list.length : Int) ≤ 400
  ·have hn' : (decide ((1 : Int) ≤ (c.list.length : Int)) && decide ((c.list.length : Int) ≤ 400)) = true := by simpa using hn
   have HN := show Hid _ from hn
   rw [hn']
   clear hn hn'
   go_wp2_with fail
   refine (ao1 (fun l => !y6 c l) 36 _ _ c.list _ (h3.below B0) (aq0 Tryz.func36 (by kernel_rfl) rfl) (fun x w' hb => au7 _ c x _ _ _ _ w' rfl ((hrow.below B0).below hb) (L1.below hb L1.lt))).mono ?_
   rintro e w1 ⟨rfl, b1⟩
   rw [a85]
   have BW := B0.trans (b1.mono B0.size)
   replace L1 := L1.below b1 L1.lt
   clear x0 x1 x2
   cases ha : c.list.all (y6 c)
   ·have HA := show Hid _ from ha
    clear ha hc3
    go_wp2_with fail
    go_ret
    exact ⟨j7 (by rw [HT.out, HA.out]; simp), BW⟩
   ·have HA := show Hid _ from ha
    clear ha
    have hl : c.list.length - 1 < c.list.length := by have := HN.out; omega
    obtain ⟨b, off, rfl, hb3, i0, i1, i2, i3, i4⟩ := hc3 _ hl
    rw [← (J1 BW).1 _ _ hb3] at i0
    have x2 := L1.cell 2
    simp only [b81, b82] at x2
    have hn1 : 1 ≤ c.list.length := by omega
    have hn2 : c.list.length ≤ 400 := by have := HN.out; omega
    have HL : Hid (Y9 c = (decide (c.list[c.list.length - 1].op = 13) || decide (c.list[c.list.length - 1].op = 8))) := by
     unfold Hid Y9
     rw [List.getLast?_eq_getElem?, b72 hl]
    clear hc3 i1 i2 i3 i4
    have hF : Hid (i5 c = (decide (c.list[c.list.length - 1].op = 13) || decide (c.list[c.list.length - 1].op = 8))) := by
     unfold Hid; rw [HT.out, HH.out, HA.out, HL.out, decide_eq_true hn1, decide_eq_true hn2]; rfl
    go_wp2_with fail
    all_goals go_ret
    all_goals exact ⟨j7 (by rw [hF.out, ca0]; simp_all), BW⟩
  ·have hn' : (decide ((1 : Int) ≤ (c.list.length : Int)) && decide ((c.list.length : Int) ≤ 400)) = false := by
    rw [Bool.eq_false_iff]; simp only [ne_eq, b73, decide_eq_true_eq]; exact hn
   have hF : Hid (i5 c = false) := by
    unfold Hid; rw [HT.out]
    rcases Classical.not_and_iff_not_or_not.1 hn with h | h
    ·rw [decide_eq_false (show ¬ 1 ≤ c.list.length by omega)]; simp
    ·rw [decide_eq_false (show ¬ c.list.length ≤ 400 by omega)]; simp
   rw [hn']
   clear hn hn' hc3
   go_wp2_with fail
   go_ret
   exact ⟨j7 hF.out.symm, B0⟩
end Go.Proofs.YtmokkddidcmglaaGreat

namespace Go.Proofs.YtmokkddidcmglaaGreat
def rle (t u : List Bool) : Prop := ∀ k : Nat, t.getD k false = true → u.getD k false = true
theorem rle.refl (t : List Bool) : rle t t := fun _ h => h
theorem rle.trans {a b c : List Bool} (h : rle a b) (g : rle b c) : rle a c := fun k x => g k (h k x)
theorem aY5 (t row : List Bool) : aP3 t row t.length = true ↔ rle t row := by
 unfold aP3 rle
 rw [b80]
 constructor
 ·intro h k hk
  rcases b93 k t.length with h1 | h1
  ·have := h k (ca9.2 h1)
   rw [hk] at this
   simpa using this
  ·simp [h1] at hk
 ·intro h k _
  cases hk : t.getD k false
  ·rfl
  ·rw [h k hk]; rfl
theorem aa2 (t row : List Bool) : aE8 t row = true ↔ 0 < row.length ∧ rle t row := by
 have : aE8 t row = (decide (0 < row.length) && aP3 t row t.length) := rfl
 rw [this, b73, decide_eq_true_eq, aY5]
theorem aB5 (t : List Bool) (a k : Nat) (b : Bool) : (t.set a b).getD k false = if k = a ∧ a < t.length then b else t.getD k false := by
 simp only [b75, List.getElem?_set]
 by_cases h : a = k
 ·subst h
  by_cases h2 : a < t.length
  ·simp [h2]
  ·simp [h2]
 ·rw [if_neg h, if_neg (fun x => h x.1.symm)]
theorem by0 {t u : List Bool} (h : rle t u) (k : Int) : bAt t k = true → bAt u k = true := h k.toNat
theorem aF2 {c : b6} {x : d7} {t u : List Bool} (h : rle t u) : (aa4 c x t = none ∧ aa4 c x u = none) ∨ ∃ p q, aa4 c x t = some p ∧ aa4 c x u = some q ∧ (p = true → q = true) := by
 have hb := by0 h
 unfold aa4
 by_cases h1 : x.op = 1 ∨ x.op = 11
 ·rw [if_pos h1, if_pos h1]; exact .inr ⟨_, _, rfl, rfl, id⟩
 rw [if_neg h1, if_neg h1]
 by_cases h2 : x.op = 2
 ·rw [if_pos h2, if_pos h2]; exact .inr ⟨_, _, rfl, rfl, id⟩
 rw [if_neg h2, if_neg h2]
 by_cases h4 : x.op = 4
 ·rw [if_pos h4, if_pos h4]; refine .inr ⟨_, _, rfl, rfl, fun g => ?_⟩
  simp only [cb9] at g ⊢
  rcases g with g | g
  ·exact .inl g
  ·exact .inr (hb _ g)
 rw [if_neg h4, if_neg h4]
 by_cases h6 : x.op = 6
 ·rw [if_pos h6, if_pos h6]; refine .inr ⟨_, _, rfl, rfl, fun g => ?_⟩
  simp only [cb9] at g ⊢
  rcases g with g | g
  ·exact .inl (hb _ g)
  ·exact .inr (hb _ g)
 rw [if_neg h6, if_neg h6]
 by_cases h7 : x.op = 7
 ·rw [if_pos h7, if_pos h7]; refine .inr ⟨_, _, rfl, rfl, fun g => ?_⟩
  simp only [cb9] at g ⊢
  rcases g with (g | g) | g
  ·exact .inl (.inl (hb _ g))
  ·exact .inl (.inr (hb _ g))
  ·exact .inr (hb _ g)
 rw [if_neg h7, if_neg h7]
 exact .inl ⟨rfl, rfl⟩
theorem a05 {c : b6} {x : d7} {t u : List Bool} (hl : t.length = u.length) (h : rle t u) : rle (W0 c x t) (W0 c x u) := by
 unfold W0
 rcases aF2 (c := c) (x := x) h with ⟨e1, e2⟩ | ⟨p, q, e1, e2, hpq⟩
 ·rw [e1, e2]; exact h
 ·rw [e1, e2]
  intro k
  rw [aB5, aB5, hl]
  split
  ·exact hpq
  ·exact h k
def mle (m p : List (List Bool)) : Prop := ∀ i : Nat, (rowAt m i).length = 0 ∨ ((rowAt p i).length ≠ 0 ∧ rle (rowAt m i) (rowAt p i))
def an8 (c : b6) (m : List (List Bool)) : Prop := m.length = c.list.length ∧ m.all ay8 = true ∧ (rowAt m 0).length ≠ 0 ∧ ∀ i : Nat, i < m.length → Y2 c m i = true
def aN6 (c : b6) (m : List (List Bool)) : Prop := an8 c m ∧ ∀ p, an8 c p → mle m p
structure Low (c : b6) (m : List (List Bool)) : Prop where
 len : m.length = c.list.length
 ok : m.all ay8 = true
 first : (rowAt m 0).length ≠ 0
 low : ∀ p, an8 c p → mle m p
theorem Low.least {c : b6} {m : List (List Bool)} (h : Low c m) (hc : ∀ i : Nat, i < m.length → Y2 c m i = true) : aN6 c m := ⟨⟨h.len, h.ok, h.first, hc⟩, h.low⟩
theorem B5 {m : List (List Bool)} {y : Nat} (r : List Bool) (i : Int) (hy : y < m.length) : rowAt (m.set y r) i = if i.toNat = y then r else rowAt m i := by
 unfold rowAt
 simp only [b75, List.getElem?_set]
 by_cases h : y = i.toNat
 ·rw [if_pos h, if_pos h.symm]; subst h; simp [hy]
 ·rw [if_neg h, if_neg (Ne.symm h)]
theorem Low.start {c : b6} (hn : 1 ≤ c.list.length) : Low c ((b70 c.list.length ([] : List Bool)).set 0 (b70 14 false)) := by
 have hl : 0 < (b70 c.list.length ([] : List Bool)).length := by rw [b90]; omega
 refine ⟨by simp, ?_, ?_, fun p hp i => ?_⟩
 ·rw [b80]
  intro r hr
  rcases List.mem_or_eq_of_mem_set hr with h | h
  ·rw [(List.mem_replicate.1 h).2]; rfl
  ·rw [h]; rfl
 ·rw [B5 _ _ hl]; simp
 ·rw [B5 _ _ hl]
  by_cases hi : i = 0
  ·subst hi
   right
   refine ⟨hp.2.2.1, fun k hk => ?_⟩
   exfalso
   rw [if_pos (by simp)] at hk
   simp only [b75, List.getElem?_replicate] at hk
   split at hk <;> simp at hk
  ·left
   rw [if_neg (by simpa using hi)]
   unfold rowAt
   simp only [b75, List.getElem?_replicate]
   split <;> simp
theorem Low.set {c : b6} {m : List (List Bool)} (h : Low c m) {y : Nat} (hy : y < m.length) {r : List Bool} (hr : r.length = 14) (hp : ∀ p, an8 c p → (rowAt p y).length ≠ 0 ∧ rle r (rowAt p y)) : Low c (m.set y r) := by
 refine ⟨by simpa using h.len, ?_, ?_, fun p g i => ?_⟩
 ·rw [b80]
  intro r' hr'
  rcases List.mem_or_eq_of_mem_set hr' with h' | h'
  ·exact b80.1 h.ok _ h'
  ·rw [h']; simp [ay8, hr]
 ·rw [B5 _ _ hy]
  split
  ·omega
  ·exact h.first
 ·rw [B5 _ _ hy]
  split
  ·rename_i e
   have e : i = y := by simpa using e
   subst e
   exact .inr (hp p g)
  ·exact h.low p g i
theorem Low.after {c : b6} {m : List (List Bool)} (h : Low c m) {i : Nat} (hi : i < m.length) (h14 : (rowAt m i).length = 14) : ∀ p, an8 c p → ∀ t ∈ nx c i, (rowAt p t).length ≠ 0 ∧ rle (W0 c (C0 c i) (rowAt m i)) (rowAt p t) := by
 intro p hp t ht
 have hpi : i < p.length := by rw [hp.1, ← h.len]; exact hi
 rcases h.low p hp i with h0 | ⟨hn, hr⟩
 ·omega
 ·have hc := hp.2.2.2 i hpi
  unfold Y2 at hc
  rw [cb9, decide_eq_true_eq] at hc
  rcases hc with hc | hc
  ·exact absurd hc hn
  ·have := b80.1 hc t ht
   rw [aa2] at this
   have h2 := aI2 hp.2.1 i
   exact ⟨by omega, (a05 (by omega) hr).trans this.2⟩
theorem bi7 {c : b6} {m : List (List Bool)} {y j : Nat} (hy : y < m.length) (hne : j ≠ y) {r : List Bool} (hr : r.length = 14) (hle : rle (rowAt m y) r) (h : Y2 c m j = true) : Y2 c (m.set y r) j = true := by
 unfold Y2 at h ⊢
 have ej : rowAt (m.set y r) j = rowAt m j := by rw [B5 _ _ hy, if_neg (by simpa using hne)]
 rw [ej]
 rw [cb9, decide_eq_true_eq] at h ⊢
 rcases h with h | h
 ·exact .inl h
 ·right
  rw [b80] at h ⊢
  intro t ht
  have := h t ht
  rw [aa2] at this ⊢
  rw [B5 _ _ hy]
  split
  ·rename_i e
   refine ⟨by omega, this.2.trans ?_⟩
   rw [show rowAt m t = rowAt m y by unfold rowAt; rw [e]; simp]
   exact hle
  ·exact this
theorem bw0 {m : List (List Bool)} {y : Nat} (hy : y < m.length) {r t : List Bool} {z : Int} (hr : r.length = 14) (hle : rle (rowAt m y) r) (h : aE8 t (rowAt m z) = true) : aE8 t (rowAt (m.set y r) z) = true := by
 rw [aa2] at h ⊢
 rw [B5 _ _ hy]
 split
 ·rename_i e
  refine ⟨by omega, h.2.trans ?_⟩
  rw [show rowAt m z = rowAt m y by unfold rowAt; rw [e]; simp]
  exact hle
 ·exact h
def aa1 (row t : List Bool) (k : Nat) : List Bool := (b88 row.length).map fun j => row.getD j false || (decide (j < k) && t.getD j false)
def ac8 (row t : List Bool) : List Bool := if row.length = 0 then t else aa1 row t t.length
theorem an7 (row t : List Bool) (k : Nat) : (aa1 row t k).length = row.length := by simp [aa1]
theorem Z0 (row t : List Bool) (k j : Nat) (hj : j < row.length) : (aa1 row t k).getD j false = (row.getD j false || (decide (j < k) && t.getD j false)) := by
 simp [aa1, hj]
theorem ag8 {row t : List Bool} (hr : row.length = 0 ∨ row.length = 14) (ht : t.length = 14) : (ac8 row t).length = 14 := by
 unfold ac8
 split
 ·exact ht
 ·rw [an7]; omega
theorem aA9 {row t : List Bool} (_hr : row.length = 0 ∨ row.length = 14) : rle row (ac8 row t) := by
 intro k hk
 unfold ac8
 split
 ·rename_i h0
  rw [b96 h0] at hk
  simp at hk
 ·rcases b93 k row.length with h1 | h1
  ·rw [Z0 _ _ _ _ h1, hk]; rfl
  ·simp [h1] at hk
theorem as8 {row t : List Bool} (hr : row.length = 0 ∨ row.length = 14) (ht : t.length = 14) : rle t (ac8 row t) := by
 intro k hk
 unfold ac8
 split
 ·exact hk
 ·rcases b93 k t.length with h1 | h1
  ·rw [Z0 _ _ _ _ (by omega), hk, decide_eq_true h1]; simp
  ·simp [h1] at hk
theorem aW2 {row t u : List Bool} (h1 : rle row u) (h2 : rle t u) : rle (ac8 row t) u := by
 intro k hk
 unfold ac8 at hk
 split at hk
 ·exact h2 k hk
 ·rcases b93 k row.length with h | h
  ·rw [Z0 _ _ _ _ h] at hk
   rw [cb9, b73] at hk
   rcases hk with hk | hk
   ·exact h1 k hk
   ·exact h2 k hk.2
  ·have : (aa1 row t t.length).length ≤ k := by rw [an7]; exact h
   simp [this] at hk
def aj6 (r : List Bool) : Nat := if r.length = 0 then 15 else r.count false
def pot (m : List (List Bool)) : Nat := (m.map aj6).sum
theorem av5 : ∀ (m : List (List Bool)) (y : Nat) (r : List Bool) (hy : y < m.length), pot (m.set y r) + aj6 m[y] = pot m + aj6 r
 | [], y, _, hy => by simp at hy
 | a :: m, 0, r, _ => by simp [pot]; omega
 | a :: m, y + 1, r, hy => by
  have := av5 m y r (by simpa using hy)
  simp [pot] at this ⊢
  omega
theorem count_le {a b : List Bool} (hl : a.length = b.length) (h : rle a b) : b.count false ≤ a.count false := by
 induction a generalizing b with
 | nil => cases b <;> simp_all
 | cons x a ih =>
  cases b with
  | nil => simp at hl
  | cons y b =>
   have h1 := ih (b := b) (by simpa using hl) (fun k hk => by have := h (k + 1); simp at this hk ⊢; exact this hk)
   have h0 := h 0
   simp at h0
   cases x <;> cases y <;> simp_all <;> omega
theorem bw1 {a b : List Bool} (hl : a.length = b.length) (h : rle a b) (hn : ¬ rle b a) : b.count false < a.count false := by
 induction a generalizing b with
 | nil => cases b <;> simp_all [rle]
 | cons x a ih =>
  cases b with
  | nil => simp at hl
  | cons y b =>
   have hs : rle a b := fun k hk => by have := h (k + 1); simp at this hk ⊢; exact this hk
   have hc := count_le (by simpa using hl) hs
   have h0 := h 0
   simp at h0
   by_cases hr : rle b a
   ·have : ¬ (y = true → x = true) := fun g => hn (fun k => by
     cases k with
     | zero => simpa using g
     | succ k => simpa using hr k)
    cases x <;> cases y <;> simp_all <;> omega
   ·have h1 := ih (b := b) (by simpa using hl) hs hr
    cases x <;> cases y <;> simp_all <;> omega
theorem bg3 {row t : List Bool} (hr : row.length = 0 ∨ row.length = 14) (ht : t.length = 14) (h : aE8 t row = false) : aj6 (ac8 row t) < aj6 row := by
 unfold aj6
 rw [if_neg (by rw [ag8 hr ht]; omega)]
 by_cases h0 : row.length = 0
 ·rw [if_pos h0]
  have := List.count_le_length (a := false) (l := ac8 row t)
  rw [ag8 hr ht] at this
  omega
 ·rw [if_neg h0]
  refine bw1 (by rw [ag8 hr ht]; omega) (aA9 hr) fun g => ?_
  rw [Bool.eq_false_iff] at h
  exact h ((aa2 _ _).2 ⟨by omega, (as8 hr ht).trans g⟩)
theorem bM7 (m : List (List Bool)) (h : m.all ay8 = true) : pot m ≤ 15 * m.length := by
 induction m with
 | nil => simp [pot]
 | cons r m ih =>
  simp only [List.all_cons, b73] at h
  have h1 := ih h.2
  have h2 : aj6 r ≤ 15 := by
   unfold aj6
   split
   ·omega
   ·have := List.count_le_length (a := false) (l := r)
    have := h.1
    simp only [ay8, cb9, decide_eq_true_eq] at this
    omega
  simp only [pot, ca1, List.sum_cons, b79] at h1 ⊢
  omega
structure a87 (c : b6) (m : List (List Bool)) (qs : List Int) (k : Nat) : Prop where
 low : Low c m
 q : ∀ x ∈ qs, 0 ≤ x ∧ x < c.list.length ∧ (rowAt m x).length = 14
 pend : ∀ i : Nat, i < c.list.length → Y2 c m i = true ∨ ∃ p, k ≤ p ∧ qs[p]? = some (i : Int)
 cnt : qs.length + pot m ≤ 15 * c.list.length + 1
structure aQ3 (c : b6) (m : List (List Bool)) (qs : List Int) (k a : Nat) (t : List Bool) (ns : List Int) (j : Nat) : Prop where
 low : Low c m
 q : ∀ x ∈ qs, 0 ≤ x ∧ x < c.list.length ∧ (rowAt m x).length = 14
 pend : ∀ i : Nat, i < c.list.length → i ≠ a → Y2 c m i = true ∨ ∃ p, k + 1 ≤ p ∧ qs[p]? = some (i : Int)
 self : (∃ p, k + 1 ≤ p ∧ qs[p]? = some (a : Int)) ∨ (∀ y ∈ ns.take j, aE8 t (rowAt m y) = true) ∧ W0 c (C0 c a) (rowAt m a) = t
 cnt : qs.length + pot m ≤ 15 * c.list.length + 1
 bnd : ∀ p, an8 c p → ∀ y ∈ ns, (rowAt p y).length ≠ 0 ∧ rle t (rowAt p y)
 tl : t.length = 14
theorem a87.start {c : b6} (hn : 1 ≤ c.list.length) : a87 c ((b70 c.list.length ([] : List Bool)).set 0 (b70 14 false)) [0] 0 := by
 have hl : 0 < (b70 c.list.length ([] : List Bool)).length := by rw [b90]; omega
 have h0 := Low.start hn
 refine ⟨h0, ?_, fun i hi => ?_, ?_⟩
 ·intro x hx
  rw [b94.1 hx]
  refine ⟨Int.le_refl _, by omega, ?_⟩
  rw [B5 _ _ hl]; simp
 ·by_cases e : i = 0
  ·subst e; exact .inr ⟨0, b76 _, rfl⟩
  ·left
   unfold Y2
   rw [cb9, decide_eq_true_eq]
   left
   rw [B5 _ _ hl, if_neg (by simpa using e)]
   unfold rowAt
   simp only [b75, List.getElem?_replicate]
   split <;> simp
 ·have := bM7 _ h0.ok
  simp only [b95, b90] at this
  simp only [List.length_singleton]
  omega
theorem a87.enter {c : b6} {m : List (List Bool)} {qs : List Int} {k a : Nat} (h : a87 c m qs k) (ha : qs[k]? = some (a : Int)) :
  (rowAt m a).length = 14 ∧ a < c.list.length ∧ aQ3 c m qs k a (W0 c (C0 c a) (rowAt m a)) (nx c a) 0 := by
 have hm := h.q a (b86 ha)
 have hl : a < m.length := by rw [h.low.len]; omega
 refine ⟨hm.2.2, by omega, h.low, h.q, fun i hi hne => ?_, .inr ⟨by simp, rfl⟩, h.cnt, ?_, by rw [aD8]; exact hm.2.2⟩
 ·rcases h.pend i hi with g | ⟨p, g1, g2⟩
  ·exact .inl g
  ·refine .inr ⟨p, ?_, g2⟩
   rcases b93 k p with g3 | g3
   ·exact g3
   ·have : p = k := by omega
    subst this
    rw [ha] at g2
    have := Option.some.inj g2
    omega
 ·exact fun p hp y hy => h.low.after hl hm.2.2 p hp y hy
theorem aQ3.keep {c : b6} {m : List (List Bool)} {qs : List Int} {k a : Nat} {t : List Bool} {ns : List Int} {j : Nat} (h : aQ3 c m qs k a t ns j) (hj : j < ns.length) (hc : aE8 t (rowAt m ns[j]) = true) : aQ3 c m qs k a t ns (j + 1) := by
 refine ⟨h.low, h.q, h.pend, ?_, h.cnt, h.bnd, h.tl⟩
 rcases h.self with g | ⟨g1, g2⟩
 ·exact .inl g
 ·refine .inr ⟨fun y hy => ?_, g2⟩
  rw [G4 _ _ hj, b87, b94] at hy
  rcases hy with hy | hy
  ·exact g1 y hy
  ·rw [hy]; exact hc
theorem aQ3.push {c : b6} {m : List (List Bool)} {qs : List Int} {k a : Nat} {t : List Bool} {ns : List Int} {j : Nat} (h : aQ3 c m qs k a t ns j) (hj : j < ns.length) {y : Nat} (hy : ns[j] = (y : Int)) (hyl : y < c.list.length) (hk : k < qs.length)
  (hc : aE8 t (rowAt m y) = false) : aQ3 c (m.set y (ac8 (rowAt m y) t)) (qs ++ [(y : Int)]) k a t ns (j + 1) := by
 have hl : y < m.length := by rw [h.low.len]; exact hyl
 have hr := aI2 h.low.ok y
 have h14 := ag8 hr h.tl
 have hle := aA9 (t := t) hr
 have hmem : (y : Int) ∈ ns := by rw [← hy]; exact b91 hj
 have hpl : ∀ i : Nat, (∃ p, k + 1 ≤ p ∧ qs[p]? = some (i : Int)) → ∃ p, k + 1 ≤ p ∧ (qs ++ [(y : Int)])[p]? = some (i : Int) := by
  rintro i ⟨p, h1, h2⟩
  exact ⟨p, h1, by rw [b99 (b77.1 h2).1]; exact h2⟩
 have hpy : ∃ p, k + 1 ≤ p ∧ (qs ++ [(y : Int)])[p]? = some (y : Int) := ⟨qs.length, hk, by simp⟩
 refine ⟨?_, ?_, ?_, ?_, ?_, h.bnd, h.tl⟩
 ·refine h.low.set hl h14 fun p hp => ?_
  have h1 := h.bnd p hp y hmem
  refine ⟨h1.1, aW2 ?_ h1.2⟩
  rcases h.low.low p hp y with h2 | h2
  ·intro z hz
   rw [b96 h2] at hz
   simp at hz
  ·exact h2.2
 ·intro x hx
  rw [B5 _ _ hl]
  rw [b87, b94] at hx
  rcases hx with hx | hx
  ·have := h.q x hx
   refine ⟨this.1, this.2.1, ?_⟩
   split
   ·exact h14
   ·exact this.2.2
  ·subst hx
   refine ⟨by omega, by omega, ?_⟩
   rw [if_pos (by simp)]
   exact h14
 ·intro i hi hne
  by_cases e : i = y
  ·subst e; exact .inr hpy
  ·rcases h.pend i hi hne with g | g
   ·exact .inl (bi7 hl e h14 hle g)
   ·exact .inr (hpl i g)
 ·by_cases e : a = y
  ·subst e; exact .inl hpy
  ·rcases h.self with g | ⟨g1, g2⟩
   ·exact .inl (hpl a g)
   ·refine .inr ⟨fun z hz => ?_, ?_⟩
    ·rw [G4 _ _ hj, b87, b94] at hz
     rcases hz with hz | hz
     ·exact bw0 hl h14 hle (g1 z hz)
     ·rw [hz, hy, aa2, B5 _ _ hl, if_pos (by simp)]
      exact ⟨by omega, as8 hr h.tl⟩
    ·rw [B5 _ _ hl, if_neg (by simpa using e)]
     exact g2
 ·have h1 := av5 m y (ac8 (rowAt m y) t) hl
  have h2 := bg3 hr h.tl hc
  rw [← ag3 hl] at h1
  have := h.cnt
  rw [b74, List.length_singleton]
  omega
theorem aQ3.done {c : b6} {m : List (List Bool)} {qs : List Int} {k a : Nat} {t : List Bool} {j : Nat} (h : aQ3 c m qs k a t (nx c a) j) (hj : (nx c a).length ≤ j) : a87 c m qs (k + 1) := by
 refine ⟨h.low, h.q, fun i hi => ?_, h.cnt⟩
 by_cases e : i = a
 ·subst e
  rcases h.self with g | ⟨g1, g2⟩
  ·exact .inr g
  ·left
   rw [b89 hj] at g1
   unfold Y2
   rw [cb9]
   right
   rw [b80, g2]
   exact g1
 ·exact h.pend i hi e
theorem a87.done {c : b6} {m : List (List Bool)} {qs : List Int} (h : a87 c m qs qs.length) : aN6 c m := by
 refine h.low.least fun i hi => ?_
 rcases h.pend i (by rw [← h.low.len]; exact hi) with g | ⟨p, g1, g2⟩
 ·exact g
 ·have := (b77.1 g2).1
  omega
structure aF4 (c : b6) (m : List (List Bool)) (p0 : Nat) (ch : Bool) (i : Nat) : Prop where
 low : Low c m
 cov : ch = false → ∀ j : Nat, j < i → Y2 c m j = true
 le : pot m ≤ p0
 lt : ch = true → pot m < p0
structure KInv (c : b6) (m : List (List Bool)) (p0 : Nat) (ch : Bool) (i : Nat) (t : List Bool) (ns : List Int) (j : Nat) : Prop where
 low : Low c m
 cov : ch = false → (∀ j : Nat, j < i → Y2 c m j = true) ∧ W0 c (C0 c i) (rowAt m i) = t ∧ ∀ y ∈ ns.take j, aE8 t (rowAt m y) = true
 le : pot m ≤ p0
 lt : ch = true → pot m < p0
 bnd : ∀ p, an8 c p → ∀ y ∈ ns, (rowAt p y).length ≠ 0 ∧ rle t (rowAt p y)
 tl : t.length = 14
structure aF5 (c : b6) (m : List (List Bool)) (p0 : Nat) (ch : Bool) (i : Nat) (t : List Bool) (ns : List Int) (j y q : Nat) : Prop extends KInv c m p0 ch i t ns j where
 row : (rowAt m y).length = 14
 bits : ch = false → ∀ k : Nat, k < q → t.getD k false = true → (rowAt m y).getD k false = true
theorem aF4.start {c : b6} {m : List (List Bool)} (h : Low c m) : aF4 c m (pot m) false 0 := ⟨h, fun _ j hj => by omega, b76 _, fun h => by cases h⟩
theorem aF4.done {c : b6} {m : List (List Bool)} {p0 i : Nat} (h : aF4 c m p0 false i) (hi : m.length ≤ i) : aN6 c m := h.low.least fun j hj => h.cov rfl j (by omega)
theorem aF4.skip {c : b6} {m : List (List Bool)} {p0 i : Nat} {ch : Bool} (h : aF4 c m p0 ch i) (h0 : (rowAt m i).length = 0) : aF4 c m p0 ch (i + 1) := by
 refine ⟨h.low, fun g j hj => ?_, h.le, h.lt⟩
 rcases b93 j i with h1 | h1
 ·exact h.cov g j h1
 ·obtain rfl : j = i := by omega
  unfold Y2
  rw [h0]; rfl
theorem aF4.enter {c : b6} {m : List (List Bool)} {p0 i : Nat} {ch : Bool} (h : aF4 c m p0 ch i) (hi : i < m.length) (h14 : (rowAt m i).length = 14) {ns : List Int} (hns : ∀ y, y ∈ ns ↔ y ∈ nx c i) : KInv c m p0 ch i (W0 c (C0 c i) (rowAt m i)) ns 0 :=
 ⟨h.low, fun g => ⟨h.cov g, rfl, by simp⟩, h.le, h.lt, fun p hp y hy => h.low.after hi h14 p hp y ((hns y).1 hy), by rw [aD8]; exact h14⟩
theorem KInv.done {c : b6} {m : List (List Bool)} {p0 i j : Nat} {ch : Bool} {t : List Bool} {ns : List Int} (h : KInv c m p0 ch i t ns j) (hj : ns.length ≤ j) (hns : ∀ y, y ∈ ns ↔ y ∈ nx c i) : aF4 c m p0 ch (i + 1) := by
 refine ⟨h.low, fun g k hk => ?_, h.le, h.lt⟩
 obtain ⟨g1, g2, g3⟩ := h.cov g
 rcases b93 k i with h1 | h1
 ·exact g1 k h1
 ·obtain rfl : k = i := by omega
  rw [b89 hj] at g3
  unfold Y2
  rw [cb9]
  right
  rw [b80, g2]
  exact fun y hy => g3 y ((hns y).2 hy)
theorem KInv.bits {c : b6} {m : List (List Bool)} {p0 i j y : Nat} {ch : Bool} {t : List Bool} {ns : List Int} (h : KInv c m p0 ch i t ns j) (h14 : (rowAt m y).length = 14) : aF5 c m p0 ch i t ns j y 0 :=
 ⟨h, h14, fun _ k hk => by omega⟩
theorem KInv.fresh {c : b6} {m : List (List Bool)} {p0 i j y : Nat} {ch : Bool} {t : List Bool} {ns : List Int} (h : KInv c m p0 ch i t ns j) (hj : j < ns.length) (hy : ns[j] = (y : Int)) (hym : y < m.length) (h0 : (rowAt m y).length = 0) :
  aF5 c (m.set y (b70 14 false)) p0 true i t ns j y 0 := by
 have hf : ∀ k : Nat, (b70 14 false).getD k false = false := by
  intro k
  simp only [b75, List.getElem?_replicate]
  split <;> rfl
 have hp := av5 m y (b70 14 false) hym
 rw [← ag3 hym] at hp
 have e1 : aj6 (rowAt m y) = 15 := by unfold aj6; rw [if_pos h0]
 have e2 : aj6 (b70 14 false) = 14 := by rfl
 rw [e1, e2] at hp
 have hle := h.le
 refine ⟨⟨?_, (fun g => by cases g), by omega, fun _ => by omega, h.bnd, h.tl⟩, ?_, (fun g => by cases g)⟩
 ·refine h.low.set hym (by simp) fun p hpp => ⟨(h.bnd p hpp y (by rw [← hy]; exact b91 hj)).1, fun k hk => ?_⟩
  rw [hf k] at hk
  cases hk
 ·rw [B5 _ _ hym, if_pos (by simp)]; simp
theorem aF5.keep {c : b6} {m : List (List Bool)} {p0 i j y q : Nat} {ch : Bool} {t : List Bool} {ns : List Int} (h : aF5 c m p0 ch i t ns j y q) (hq : t.getD q false = true → (rowAt m y).getD q false = true) : aF5 c m p0 ch i t ns j y (q + 1) := by
 refine ⟨h.toKInv, h.row, fun g k hk ht => ?_⟩
 rcases b93 k q with h1 | h1
 ·exact h.bits g k h1 ht
 ·obtain rfl : k = q := by omega
  exact hq ht
theorem aF5.put {c : b6} {m : List (List Bool)} {p0 i j y q : Nat} {ch : Bool} {t : List Bool} {ns : List Int} (h : aF5 c m p0 ch i t ns j y q) (hj : j < ns.length) (hy : ns[j] = (y : Int)) (hym : y < m.length) (hq : q < 14) (h1 : t.getD q false = true) (h0 : (rowAt m y).getD q false = false) :
  aF5 c (m.set y ((rowAt m y).set q true)) p0 true i t ns j y (q + 1) := by
 have hl := h.row
 have hp := av5 m y ((rowAt m y).set q true) hym
 rw [← ag3 hym] at hp
 have hb : (rowAt m y)[q]? = some false := by
  rw [b75] at h0
  rw [b72 (by omega)] at h0 ⊢
  simpa using h0
 have e1 : aj6 (rowAt m y) = (rowAt m y).count false := by unfold aj6; rw [if_neg (by omega)]
 have e2 : aj6 ((rowAt m y).set q true) = ((rowAt m y).set q true).count false := by unfold aj6; rw [if_neg (by rw [b95]; omega)]
 have e3 := U1 hb
 rw [e1, e2] at hp
 have hle := h.le
 refine ⟨⟨?_, (fun g => by cases g), by omega, fun _ => by omega, h.bnd, h.tl⟩, ?_, (fun g => by cases g)⟩
 ·refine h.low.set hym (by rw [b95]; exact hl) fun p hpp => ?_
  have hb := h.bnd p hpp y (by rw [← hy]; exact b91 hj)
  refine ⟨hb.1, fun k hk => ?_⟩
  rw [aB5] at hk
  split at hk
  ·rename_i e
   rw [e.1]
   exact hb.2 q h1
  ·rcases h.low.low p hpp y with h2 | h2
   ·omega
   ·exact h2.2 k hk
 ·rw [B5 _ _ hym, if_pos (by simp), b95]; exact hl
theorem aF5.done {c : b6} {m : List (List Bool)} {p0 i j y q : Nat} {ch : Bool} {t : List Bool} {ns : List Int} (h : aF5 c m p0 ch i t ns j y q) (hj : j < ns.length) (hy : ns[j] = (y : Int)) (hq : 14 ≤ q) : KInv c m p0 ch i t ns (j + 1) := by
 refine ⟨h.low, fun g => ?_, h.le, h.lt, h.bnd, h.tl⟩
 obtain ⟨g1, g2, g3⟩ := h.cov g
 refine ⟨g1, g2, fun z hz => ?_⟩
 rw [G4 _ _ hj, b87, b94] at hz
 rcases hz with hz | hz
 ·exact g3 z hz
 ·rw [hz, hy, aa2]
  refine ⟨by have := h.row; omega, fun k hk => ?_⟩
  rcases b93 k 14 with h1 | h1
  ·exact h.bits g k (by omega) hk
  ·have := h.tl
   simp [show t.length ≤ k by omega] at hk
noncomputable def bV2 (c : b6) (i : Nat) : List Bool := open Classical in if ∀ p, an8 c p → (rowAt p i).length ≠ 0 then (b88 14).map fun k => decide (∀ p, an8 c p → (rowAt p i).getD k false = true) else []
noncomputable def b66 (c : b6) : List (List Bool) := (b88 c.list.length).map (bV2 c)
theorem bs4 {c : b6} {x : d7} (hx : y6 c x = true) (h : ¬ 0 ≤ j6 x) : x.op ≠ 8 ∧ x.op ≠ 9 ∧ x.op ≠ 10 := by
 have := aL0 hx
 refine ⟨fun e => ?_, fun e => ?_, fun e => ?_⟩
 ·exact h (this (.inl e)).1
 ·exact h (this (.inr (.inl e))).1
 ·exact h (this (.inr (.inr e))).1
def ai8 {α : Type} (f : Nat → α) (ks : List Bool) (k : Nat) : List α := (b88 k).flatMap fun i => if ks.getD i false = true then [f i] else []
theorem ap8 {α : Type} {f : Nat → α} {ks : List Bool} {k : Nat} (h : ks.getD k false = true) : ai8 f ks (k + 1) = ai8 f ks k ++ [f k] := by
 unfold ai8
 rw [List.range_succ, List.flatMap_append]
 simp only [List.flatMap_cons, List.flatMap_nil, List.append_nil]
 rw [if_pos h]
theorem aA7 {α : Type} {f : Nat → α} {ks : List Bool} {k : Nat} (h : ks.getD k false = false) : ai8 f ks (k + 1) = ai8 f ks k := by
 unfold ai8
 rw [List.range_succ, List.flatMap_append]
 simp only [List.flatMap_cons, List.flatMap_nil, List.append_nil]
 rw [if_neg (by rw [h]; decide), List.append_nil]
theorem bh6 {α : Type} (f : Nat → α) (ks : List Bool) : ∀ k, k ≤ ks.length → (ai8 f ks k).length = L5 ks k := by
 intro k
 induction k with
 | zero => intro _; simp [ai8, V0]
 | succ k ih =>
  intro h
  rw [R5 ks k (by omega)]
  cases hk : ks.getD k false
  ·rw [aA7 hk, ih (by omega)]; simp
  ·rw [ap8 hk, b74, ih (by omega)]; simp
theorem bt7 {α : Type} (f : Nat → α) (ks : List Bool) {j : Nat} (hk : ks.getD j false = true) : ∀ n, j < n → n ≤ ks.length → (ai8 f ks n)[L5 ks j]? = some (f j) := by
 intro n
 induction n with
 | zero => intro h; omega
 | succ n ih =>
  intro hj hn
  by_cases e : j = n
  ·subst e
   rw [ap8 hk, ← bh6 f ks j (by omega)]
   simp
  ·have h1 := ih (by omega) (by omega)
   cases hk2 : ks.getD n false
   ·rw [aA7 hk2]; exact h1
   ·rw [ap8 hk2]
    obtain ⟨hl, _⟩ := b77.1 h1
    rw [b99 hl]; exact h1
theorem br2 (ks : List Bool) : ∀ n, n ≤ ks.length → ∀ q, q < L5 ks n → ∃ j, j < n ∧ ks.getD j false = true ∧ L5 ks j = q := by
 intro n
 induction n with
 | zero => intro _ q hq; rw [V0] at hq; omega
 | succ n ih =>
  intro hn q hq
  rw [R5 ks n (by omega)] at hq
  by_cases h1 : q < L5 ks n
  ·obtain ⟨j, a, b, e⟩ := ih (by omega) q h1
   exact ⟨j, by omega, b, e⟩
  ·split at hq
   ·exact ⟨n, by omega, by assumption, by omega⟩
   ·omega
end Go.Proofs.YtmokkddidcmglaaGreat

namespace Go.Proofs.YtmokkddidcmglaaGreat
open Go Go.RowKit
theorem aL6 (v : Value) (c : b6) (x : d7) (w : World) (h : t6 w v c) :
  Calls Tryz.prog 55 #[v, x.v] w fun e w' => e = .returned (.bool (y6 c x)) ∧ Below w.heap.size w w' := by
 obtain ⟨v1, v2, v3, rfl, h1, h2, h3⟩ := h
 have HT : Hid (y6 c x = (decide (1 ≤ x.op) && decide (x.op ≤ 13) && ae5 c (f8 x.op) [x.a, x.b, x.c, x.d] 4)) := by
  unfold Hid y6; rw [a43]
 by_cases hop : 1 ≤ x.op ∧ x.op ≤ 13
 ·obtain ⟨hop1, hop2⟩ := hop
  have hR : Hid (y6 c x = ae5 c (f8 x.op) [x.a, x.b, x.c, x.d] 4) := by
   unfold Hid; rw [HT.out, decide_eq_true hop1, decide_eq_true hop2]; rfl
  clear HT
  obtain ⟨W, hW⟩ : ∃ W, W = ((w.alloc (.cells #[v1, v2, v3] 26)).alloc (.cells #[.int .i64 x.op, .int .i64 x.a, .int .i64 x.b, .int .i64 x.c, .int .i64 x.d] 60)) := ⟨_, rfl⟩
  have B0 : Below w.heap.size w W := by rw [hW]; go_grown
  have L1 : A1 W w.heap.size [v1, v2, v3] := by rw [hW]; exact (A1.new w [v1, v2, v3] _).alloc _
  have L2 : A1 W (w.heap.size + 1) [.int .i64 x.op, .int .i64 x.a, .int .i64 x.b, .int .i64 x.c, .int .i64 x.d] := by rw [hW]; exact A1.new' (w.alloc _) [.int .i64 x.op, .int .i64 x.a, .int .i64 x.b, .int .i64 x.c, .int .i64 x.d] _ (by simp)
  go_enter Tryz.func55, Tryz.ntmps55
  go_wp2_with fail
  rw [← hW]
  clear hW
  refine (ai5 x.op W hop1 hop2).mono ?_
  rintro e w1 ⟨rfl, b1⟩
  replace L1 := L1.below b1 L1.lt
  replace L2 := L2.below b1 L2.lt
  have y0 := L2.cell 0
  have y1 := L2.cell 1
  have y2 := L2.cell 2
  have y3 := L2.cell 3
  have y4 := L2.cell 4
  simp at y0 y1 y2 y3 y4
  go_wp2_with fail
  refine (aL5 x _).mono ?_
  rintro e w2 ⟨u, rfl, o2, b2⟩
  replace L1 := L1.below b2 L1.lt
  have B2 := (B0.trans (b1.mono B0.size)).trans (b2.mono (by have := B0.size; have := b1.size; omega))
  obtain ⟨g, cap, rfl, -, -, hg, -, -, -, hp⟩ := o2.open (by omega)
  have hkl := Q4 x.op
  obtain ⟨kinds, hkinds⟩ : ∃ kinds, kinds = f8 x.op := ⟨_, rfl⟩
  obtain ⟨parts, hparts⟩ : ∃ parts, parts = [x.a, x.b, x.c, x.d] := ⟨_, rfl⟩
  rw [← hkinds] at hkl ⊢
  rw [← hkinds] at hR
  rw [← hparts] at hR hp
  have hpl : parts.length = 4 := by rw [hparts]; rfl
  clear hkinds hparts y0 y1 y2 y3 y4 L2 o2
  have HPL := show Hid _ from hpl
  clear hpl
  go_wp2_with fail
  go_loopw [7] (fun i wr => ∃ k : Nat, k ≤ 4 ∧ i = .int .i64 k ∧ ae5 c kinds parts k = true ∧ Below w2.heap.size w2 wr) (fun i _ => 4 - (intOf i).toNat)
  case atStart => exact ⟨0, by omega, rfl, rfl, Below.refl _ _⟩
  case round =>
   obtain ⟨k, hk, rfl, ha, hb⟩ := hrel
   have HA := show Hid _ from ha
   clear ha
   replace L1 := L1.below hb L1.lt
   by_cases hlt : k < 4
   ·have x0 := L1.cell 0
    have x1 := L1.cell 1
    have x2 := L1.cell 2
    simp only [b81, b82] at x0 x1 x2
    have z0 := fun X => t4 x0 X
    have z1 := fun X => t4 x1 X
    have z2 := fun X => t4 x2 X
    have hpk : k < parts.length := by rw [HPL.out]; exact hlt
    have p0 : wr.cell? ⟨g, k, none⟩ = some (.int .i64 parts[k]) := by
     rw [(J1 hb).1 _ _ hg]; exact hp k _ (by simp [hpk])
    have pX := fun X => t4 p0 X
    have HS := show Hid _ from az1 c kinds parts k
    have hgd : parts.getD k 0 = parts[k] := by simp [hpk]
    have HG := show Hid _ from hgd
    have BW := B2.trans (hb.mono B2.size)
    clear x0 x1 x2 p0 hp hgd
    by_cases hkk : k < kinds.length
    ·have hpo : D5 c kinds k parts[k] = K1 c kinds[k] parts[k] := by simp [D5, hkk]
     have HPO := show Hid _ from hpo
     clear hpo
     have hd1 : decide (kinds.length ≤ k) = false := by simp; omega
     have hd2 : decide ((kinds.length : Int) ≤ (k : Int)) = false := by simp; omega
     cases hr : K1 c kinds[k] parts[k]
     all_goals
      have HR := show Hid _ from hr
      clear hr
      have HC : Hid (∀ X, Calls Tryz.prog 81 #[.agg #[v1, v2, v3], .int .u8 kinds[k].toNat, .int .i64 parts[k]] (wr.ext X) fun e w'' => e = .returned (.bool _) ∧ ∃ Y, w'' = wr.ext Y) :=
       fun X => Calls.ext_of' ((aL4 v1 v2 v3 c kinds[k] parts[k] _ ((h1.below BW).below (x8 _ X)) ((h2.below BW).below (x8 _ X)) ((h3.below BW).below (x8 _ X))).mono fun e w' h => by rw [HR.out] at h; exact h)
      go_wp2_with fail
      refine I1 (by kernel_rfl) (by kernel_rfl) ?_
      repeat (any_goals (first | go_big_quiet_step ((go_at_call 81; exact HC.out _)) | quiet_step ((go_at_call 81; exact HC.out _))))
      refine wpQuiet_nil ?_
      rintro w' ⟨X, rfl⟩
      have hbX := hb.trans ((x8 wr X).mono hb.size)
      go_wp2_with fail
     ·go_ret
      exact ⟨j7 (by rw [hR.out, az2 4 hlt (by rw [HG.out, HPO.out, HR.out])]), B2.trans (hbX.mono B2.size)⟩
     ·exact ⟨⟨k + 1, by omega, by go_num, by rw [HS.out, HA.out, HG.out, HPO.out, HR.out]; rfl, hbX⟩, by simp [intOf]; omega⟩
    ·have hpo : D5 c kinds k parts[k] = decide (parts[k] = 0) := by simp [D5, hkk]
     have HPO := show Hid _ from hpo
     clear hpo
     have hd1 : decide (kinds.length ≤ k) = true := by simp; omega
     have hd2 : decide ((kinds.length : Int) ≤ (k : Int)) = true := by simp; omega
     have hd3 : decide (k < kinds.length) = false := by simp; omega
     have hd4 : decide ((k : Int) < (kinds.length : Int)) = false := by simp; omega
     by_cases hz : parts[k] = 0
     ·have hz1 : (parts[k] != 0) = false := by simp [hz]
      have HZ := show Hid _ from hz
      clear hz
      go_wp2_with fail
      refine I1 (by kernel_rfl) (by kernel_rfl) ?_
      repeat (any_goals (first | go_big_quiet_step (fail) | quiet_step (fail)))
      refine wpQuiet_nil ?_
      rintro w' ⟨X, rfl⟩
      have hbX := hb.trans ((x8 wr X).mono hb.size)
      go_wp2_with fail
      exact ⟨⟨k + 1, by omega, by go_num, by rw [HS.out, HA.out, HG.out, HPO.out, HZ.out]; rfl, hbX⟩, by simp [intOf]; omega⟩
     ·have hz1 : (parts[k] != 0) = true := by simp [hz]
      have HZ := show Hid (¬ parts[k] = 0) from hz
      clear hz
      go_wp2_with fail
      refine I1 (by kernel_rfl) (by kernel_rfl) ?_
      repeat (any_goals (first | go_big_quiet_step (fail) | quiet_step (fail)))
      refine wpQuiet_nil ?_
      rintro w' ⟨X, rfl⟩
      have hbX := hb.trans ((x8 wr X).mono hb.size)
      go_wp2_with fail
      go_ret
      exact ⟨j7 (by rw [hR.out, az2 4 hlt (by rw [HG.out, HPO.out, decide_eq_false HZ.out])]), B2.trans (hbX.mono B2.size)⟩
   ·go_wp2_with fail
    go_ret
    obtain rfl : k = 4 := by omega
    exact ⟨j7 (by rw [hR.out, HA.out]), B2.trans (hb.mono B2.size)⟩
 ·have hR : Hid (y6 c x = false) := by
   unfold Hid; rw [HT.out]
   rcases Classical.not_and_iff_not_or_not.1 hop with h | h
   ·rw [decide_eq_false h]; rfl
   ·rw [decide_eq_false h]; simp
  clear HT h1 h2 h3
  have hcase : x.op < 1 ∨ (¬ x.op < 1 ∧ 13 < x.op) := by omega
  clear hop
  rcases hcase with hop | ⟨hop, hop2⟩
  all_goals
   go_enter Tryz.func55, Tryz.ntmps55
   go_wp2_with fail
   go_ret
   exact ⟨j7 hR.out.symm, by go_grown⟩
theorem ay1 (v : Value) (c : b6) (w : World) (h : t6 w v c) :
  Calls Tryz.prog 28 #[v] w fun e w' => e = .returned (.bool (i5 c)) ∧ Below w.heap.size w w' := by
 have hrow := h
 obtain ⟨v1, v2, v3, rfl, h1, h2, h3⟩ := h
 have HT : Hid (i5 c = (E7 c.vars c.arrays && decide (1 ≤ c.list.length) && decide (c.list.length ≤ 400) && c.list.all (y6 c) && Y9 c)) := rfl
 obtain ⟨W, hW⟩ : ∃ W, W = w.alloc (.cells #[v1, v2, v3] 26) := ⟨_, rfl⟩
 have B0 : Below w.heap.size w W := by rw [hW]; go_grown
 have L1 : A1 W w.heap.size [v1, v2, v3] := by rw [hW]; exact (A1.new w [v1, v2, v3] _)
 obtain ⟨a3, k3, rfl, hk3, hm3, -, hc3⟩ := h3.ins
 go_enter Tryz.func28, Tryz.ntmps28
 go_wp2_with fail
 rw [← hW]
 clear hW
 refine (aL7 _ _ _ _ _ _ _ _ (h1.below B0) (h2.below B0)).mono ?_
 rintro e w1 ⟨rfl, b1⟩
 replace L1 := L1.below b1 L1.lt
 have B1 := B0.trans (b1.mono B0.size)
 go_wp2_with fail
 refine (am2 _ _ _ c.vars c.arrays _ (h1.below B1) (h2.below B1)).mono ?_
 rintro e w2 ⟨rfl, b2⟩
 replace L1 := L1.below b2 L1.lt
 have B2 := B1.trans (b2.mono B1.size)
 cases hh : E7 c.vars c.arrays
 ·have HH := show Hid _ from hh
  clear hh hc3
  go_wp2_with fail
  go_ret
  exact ⟨j7 (by rw [HT.out, HH.out]; rfl), B2⟩
 ·have HH := show Hid _ from hh
  clear hh
  by_cases hn : 1 ≤ c.list.length ∧ c.list.length ≤ 400
  ·obtain ⟨hn1, hn2⟩ := hn
   have x0 := L1.cell 0
   have x1 := L1.cell 1
   have x2 := L1.cell 2
   simp at x0 x1 x2
   go_wp2_with fail
   go_loopw [4] (fun i wr => ∃ k : Nat, k ≤ c.list.length ∧ i = .int .i64 k ∧ (c.list.take k).all (y6 c) = true ∧ Below w2.heap.size w2 wr) (fun i _ => c.list.length - (intOf i).toNat)
   case atStart => exact ⟨0, by omega, rfl, rfl, Below.refl _ _⟩
   case round =>
    obtain ⟨k, hk, rfl, ha, hb⟩ := hrel
    have HA := show Hid _ from ha
    clear ha x0 x1 x2
    replace L1 := L1.below hb L1.lt
    have BW := B2.trans (hb.mono B2.size)
    by_cases hlt : k < c.list.length
    ·obtain ⟨b, off, rfl, hb3, i0, i1, i2, i3, i4⟩ := hc3 k hlt
     rw [← (J1 BW).1 _ _ hb3] at i0 i1 i2 i3 i4
     have x0 := L1.cell 0
     have x1 := L1.cell 1
     have x2 := L1.cell 2
     simp only [b81, b82] at x0 x1 x2
     have z0 := fun X => t4 x0 X
     have z1 := fun X => t4 x1 X
     have z2 := fun X => t4 x2 X
     have j0 := fun X => t4 i0 X
     have j1 := fun X => t4 i1 X
     have j2 := fun X => t4 i2 X
     have j3 := fun X => t4 i3 X
     have j4 := fun X => t4 i4 X
     have HS := show Hid _ from R0 (y6 c) c.list k hlt
     clear x0 x1 x2 i0 i1 i2 i3 i4 hc3
     cases hi : y6 c c.list[k]
     all_goals
      have HI := show Hid _ from hi
      clear hi
      have HC : Hid (∀ X, Calls Tryz.prog 55 #[.agg #[v1, v2, .slice (some ⟨b, off, none⟩) c.list.length k3], c.list[k].v] (wr.ext X) fun e w'' => e = .returned (.bool _) ∧ ∃ Y, w'' = wr.ext Y) :=
       fun X => Calls.ext_of' ((aL6 _ c c.list[k] _ ((hrow.below BW).below (x8 _ X))).mono fun e w' h => by rw [HI.out] at h; exact h)
      go_wp2_with fail
      refine I1 (by kernel_rfl) (by kernel_rfl) ?_
      repeat (any_goals (first | go_big_quiet_step ((go_at_call 55; exact HC.out _)) | quiet_step ((go_at_call 55; exact HC.out _))))
      refine wpQuiet_nil ?_
      rintro _ ⟨X, rfl⟩
      have hbX := hb.trans ((x8 wr X).mono hb.size)
      go_wp2_with fail
     ·go_ret
      exact ⟨j7 (by rw [HT.out, an2 hlt HI.out]; simp), B2.trans (hbX.mono B2.size)⟩
     ·exact ⟨⟨k + 1, by omega, by go_num, by rw [HS.out, HA.out, HI.out]; rfl, hbX⟩, by simp [intOf]; omega⟩
    ·have hl : c.list.length - 1 < c.list.length := by omega
     obtain ⟨b, off, rfl, hb3, i0, i1, i2, i3, i4⟩ := hc3 _ hl
     rw [← (J1 BW).1 _ _ hb3] at i0
     have x2 := L1.cell 2
     simp only [b81, b82] at x2
     have ec : ((c.list.length : Int) - 1) = ((c.list.length - 1 : Nat) : Int) := by omega
     have EC := show Hid _ from ec
     have HL : Hid (Y9 c = (decide (c.list[c.list.length - 1].op = 13) || decide (c.list[c.list.length - 1].op = 8))) := by
      unfold Hid Y9
      rw [List.getLast?_eq_getElem?, b72 hl]
     clear hc3 ec i1 i2 i3 i4
     have HA' := show Hid (c.list.all (y6 c) = true) from by have := HA.out; rwa [b89 (by omega)] at this
     have hF : Hid (i5 c = (decide (c.list[c.list.length - 1].op = 13) || decide (c.list[c.list.length - 1].op = 8))) := by
      unfold Hid; rw [HT.out, HH.out, HA'.out, HL.out, decide_eq_true hn1, decide_eq_true hn2]; rfl
     go_wp2_with fail
     all_goals go_ret
     all_goals exact ⟨j7 (by rw [hF.out, ca0]; simp_all), BW⟩
  ·have hF : Hid (i5 c = false) := by
    unfold Hid; rw [HT.out]
    rcases Classical.not_and_iff_not_or_not.1 hn with h | h
    ·rw [decide_eq_false h]; simp
    ·rw [decide_eq_false h]; simp
   have hcase : c.list.length < 1 ∨ (¬ c.list.length < 1 ∧ 400 < c.list.length) := by omega
   clear hn hc3 HT
   rcases hcase with hn | ⟨hn, hn2⟩
   all_goals
    go_wp2_with fail
    go_ret
    exact ⟨j7 hF.out.symm, B2⟩
theorem aT2 (v : Value) (c : b6) (i : Nat) (w : World) (h : t6 w v c) (hi : i < c.list.length) :
  Calls Tryz.prog 89 #[v, .int .i64 i] w fun e w' => ∃ u, e = .returned u ∧ A6 w' w.heap.size w'.heap.size 3 1 u (E1 c.list[i] i).length (ints (E1 c.list[i] i)) ∧ Below w.heap.size w w' := by
 obtain ⟨v1, v2, v3, rfl, h1, h2, h3⟩ := h
 obtain ⟨a3, k3, rfl, hk3, hm3, -, hc3⟩ := h3.ins
 obtain ⟨W, hW⟩ : ∃ W, W = w.alloc (.cells #[v1, v2, .slice a3 c.list.length k3] 26) := ⟨_, rfl⟩
 have B0 : Below w.heap.size w W := by rw [hW]; go_grown
 have s0 := B0.size
 have L1 : A1 W w.heap.size [v1, v2, .slice a3 c.list.length k3] := by rw [hW]; exact (A1.new w [v1, v2, .slice a3 c.list.length k3] _)
 obtain ⟨b, off, rfl, hb3, i0, i1, i2, i3, i4⟩ := hc3 i hi
 rw [← (J1 B0).1 _ _ hb3] at i0 i1 i2 i3 i4
 have x2 := L1.cell 2
 simp at x2
 generalize c.list[i] = x at *
 rw [hW] at x2 i0 i1 i2 i3 i4
 clear hc3 h3 h1 h2
 by_cases h13 : x.op = 13
 ·have q13 : (x.op == 13) = true := by simp [h13]
  have HN := show Hid (E1 x i = []) from by simp [Hid, E1, h13]
  clear h13
  go_enter Tryz.func89, Tryz.ntmps89
  go_wp2_with fail
  go_ret
  rw [HN.out]
  exact ⟨_, rfl, (v8 _ #[] 0 1 _ (by simp) rfl (by omega)).wide (by simp; omega) (by simp), by go_grown⟩
 ·have q13 : (x.op == 13) = false := by simp [h13]
  by_cases h8 : x.op = 8
  ·have q8 : (x.op == 8) = true := by simp [h8]
   have HN := show Hid (E1 x i = [x.a]) from by simp [Hid, E1, h8]
   clear h13 h8
   go_enter Tryz.func89, Tryz.ntmps89
   go_wp2_with fail
   go_ret
   rw [HN.out]
   exact ⟨_, rfl, (v8 _ #[_] 1 1 _ (by simp) rfl (by omega)).wide (by simp; omega) (by simp), by go_grown⟩
  ·have q8 : (x.op == 8) = false := by simp [h8]
   by_cases h9 : x.op = 9 ∨ x.op = 10
   ·have HN := show Hid (E1 x i = [(i : Int) + 1, x.b]) from by simp [Hid, E1, h13, h8, h9]
    have h9' : (x.op == 9) = true ∨ ((x.op == 9) = false ∧ (x.op == 10) = true) := by
     rcases h9 with h9 | h9
     ·left; simp [h9]
     ·right; simp [h9]
    clear h13 h8 h9
    rcases h9' with q9 | ⟨q9, q10⟩
    all_goals
     go_enter Tryz.func89, Tryz.ntmps89
     go_wp2_with fail
     go_ret
     rw [HN.out]
     exact ⟨_, rfl, ((v8 _ #[.int .i64 ((i : Int) + 1), .int .i64 x.b] 2 1 _ (by simp) rfl (by omega))).wide (by simp; omega) (by simp), by go_grown⟩
   ·have q9 : (x.op == 9) = false := by simp; omega
    have q10 : (x.op == 10) = false := by simp; omega
    have HN := show Hid (E1 x i = [(i : Int) + 1]) from by simp [Hid, E1, h13, h8, h9]
    clear h13 h8 h9
    go_enter Tryz.func89, Tryz.ntmps89
    go_wp2_with fail
    go_ret
    rw [HN.out]
    exact ⟨_, rfl, (v8 _ #[_] 1 1 _ (by simp) rfl (by omega)).wide (by simp; omega) (by simp), by go_grown⟩
theorem bg0 (v : Value) (c : b6) (t : Int) (w : World) (h : t6 w v c) (h0 : 0 ≤ t) (h1 : t < c.list.length) :
  Calls Tryz.prog 89 #[v, .int .i64 t] w fun e w' => ∃ u, e = .returned u ∧ A6 w' w.heap.size w'.heap.size 3 1 u (nx c t).length (ints (nx c t)) ∧ Below w.heap.size w w' := by
 obtain ⟨i, rfl⟩ : ∃ i : Nat, t = i := ⟨t.toNat, by omega⟩
 have hi : i < c.list.length := by omega
 have e : nx c i = E1 c.list[i] i := az7 (t := (i : Int)) hi
 rw [e]
 exact aT2 v c i w h hi
theorem as9 (x : d7) (w : World) :
  Calls Tryz.prog 52 #[x.v] w fun e w' => e = .returned (.int .i64 (j6 x)) ∧ Below w.heap.size w w' := by
 obtain ⟨x0, x1, x2, x3, x4⟩ := x
 by_cases h8 : x0 = 8
 ·have HN := show Hid (j6 ⟨x0, x1, x2, x3, x4⟩ = x1) from by simp [Hid, j6, h8]
  have q8 : (x0 == 8) = true := by simp [h8]
  clear h8
  go_enter Tryz.func52, Tryz.ntmps52
  go_wp2_with fail
  go_ret
  exact ⟨K0 HN.out.symm, by go_grown⟩
 ·have q8 : (x0 == 8) = false := by simp [h8]
  by_cases h9 : x0 = 9 ∨ x0 = 10
  ·have HN := show Hid (j6 ⟨x0, x1, x2, x3, x4⟩ = x2) from by simp [Hid, j6, h8, h9]
   have h9' : (x0 == 9) = true ∨ ((x0 == 9) = false ∧ (x0 == 10) = true) := by
    rcases h9 with h9 | h9
    ·left; simp [h9]
    ·right; simp [h9]
   clear h8 h9
   rcases h9' with q9 | ⟨q9, q10⟩
   all_goals
    go_enter Tryz.func52, Tryz.ntmps52
    go_wp2_with fail
    go_ret
    exact ⟨K0 HN.out.symm, by go_grown⟩
  ·have HN := show Hid (j6 ⟨x0, x1, x2, x3, x4⟩ = -1) from by simp [Hid, j6, h8, h9]
   have q9 : (x0 == 9) = false := by simp; omega
   have q10 : (x0 == 10) = false := by simp; omega
   clear h8 h9
   go_enter Tryz.func52, Tryz.ntmps52
   go_wp2_with fail
   go_ret
   exact ⟨K0 HN.out.symm, by go_grown⟩
theorem au4 (v : Value) (c : b6) (i : Nat) (w : World) (h : t6 w v c) (hi : i < c.list.length) :
    Calls Tryz.prog 70 #[v, .int .i64 i] w fun e w' => ∃ u, e = .returned u ∧ A6 w' w.heap.size w'.heap.size 3 1 u (Z9 c.list[i] i).length (ints (Z9 c.list[i] i)) ∧ Below w.heap.size w w' := by
  obtain ⟨v1, v2, v3, rfl, h1, h2, h3⟩ := h
  obtain ⟨a3, k3, rfl, hk3, hm3, -, hc3⟩ := h3.ins
  obtain ⟨W, hW⟩ : ∃ W, W = (w.alloc (.cells #[v1, v2, .slice a3 c.list.length k3] 26)) := ⟨_, rfl⟩
  have B0 : Below w.heap.size w W := by rw [hW]; go_grown
  have L1 : A1 W w.heap.size [v1, v2, .slice a3 c.list.length k3] := by rw [hW]; exact (A1.new w [v1, v2, .slice a3 c.list.length k3] _)
  have sW : W.heap.size = w.heap.size + 1 := by rw [hW]; simp
  obtain ⟨b, off, rfl, hb3, i0, i1, i2, i3, i4⟩ := hc3 i hi
  rw [← (J1 B0).1 _ _ hb3] at i0 i1 i2 i3 i4
  have x2 := L1.cell 2
  simp at x2
  generalize c.list[i] = x at *
  clear hc3 h3 h1 h2
  go_enter Tryz.func70, Tryz.ntmps70
  rw [hW] at x2 i0 i1 i2 i3 i4
  go_wp2_with fail
  rw [← hW]
  clear x2 i0 i1 i2 i3 i4 hW
  have s0 := B0.size
  have L2 := A1.new W [.int .i64 x.op, .int .i64 x.a, .int .i64 x.b, .int .i64 x.c, .int .i64 x.d] 60
  have B1 : Below w.heap.size w (W.alloc (.cells #[.int .i64 x.op, .int .i64 x.a, .int .i64 x.b, .int .i64 x.c, .int .i64 x.d] 60)) := B0.trans (Below.mono (by go_grown : Below W.heap.size W _) s0)
  generalize W.alloc (.cells #[.int .i64 x.op, .int .i64 x.a, .int .i64 x.b, .int .i64 x.c, .int .i64 x.d] 60) = W1 at *
  rw [sW] at L2
  clear B0 s0 sW
  have s1 := B1.size
  refine (as9 x _).mono ?_
  rintro e w1 ⟨rfl, b1⟩
  replace L2 := L2.below b1 L2.lt
  have B2 := B1.trans (b1.mono s1)
  have s2 := B2.size
  have HN : Hid (Z9 x i = (if 0 ≤ j6 x then [j6 x] else []) ++ (if x.op ≠ 8 ∧ x.op ≠ 13 then [(i : Int) + 1] else [])) := rfl
  generalize j6 x = tg at *
  have c0 := L2.cell 0
  simp only [b81] at c0
  by_cases ht : 0 ≤ tg
  · have HT := show Hid _ from ht
    go_wp2_with (first | (at_builtin; refine A9 rfl _ _ rfl Tryz.underlying23 ae8 rfl (by omega) rfl (World.ownsRow_nil _ w1.heap.size _ _) rfl (ae3 w1 (.int .i64 tg) _ rfl) (fun u hu => by simp at hu; subst hu; rfl) (by omega) (by omega) (by simp) ?_; rintro a1 q1 w2 o2 b2 - -; have b2' := ((Below.refl w1.heap.size w1).alloc (b76 _) _).trans b2; replace L2 := L2.below b2' L2.lt; have B3 := B2.trans (b2'.mono s2); have s3 := b2'.size; have d0 := L2.cell 0; simp only [b81] at d0; clear b2) | (at_builtin; refine A9 rfl _ _ rfl Tryz.underlying23 ae8 rfl (by omega) rfl (o2.alloc _) rfl (ae3 w2 (.int .i64 ((i : Int) + 1)) _ rfl) (fun u hu => by simp at hu; subst hu; rfl) (by omega) (by omega) (by simp; omega) ?_; rintro a2 q2 w3 o3 b3 - -; have b3' := ((Below.refl w1.heap.size w2).alloc s3 _).trans b3; have B4 := B3.trans (Below.mono (b3' : Below w1.heap.size w2 w3) s2)))
    all_goals go_ret
    all_goals simp only [bne_iff_ne, ne_eq, bne_eq_false_iff_eq] at *
    all_goals first
      | (have e : Z9 x i = [tg, (i : Int) + 1] := by
           rw [HN.out, if_pos HT.out]; clear HN HT; simp; omega
         rw [e]; exact ⟨_, rfl, A6.mk' (A5 o3 s2), B4⟩)
      | (have e : Z9 x i = [tg] := by
           rw [HN.out, if_pos HT.out]; clear HN HT; simp; omega
         rw [e]; exact ⟨_, rfl, A6.mk' (A5 o2 s2), B3⟩)
  · have HT := show Hid (¬ 0 ≤ tg) from ht
    go_wp2_with ((at_builtin; refine A9 rfl _ _ rfl Tryz.underlying23 ae8 rfl (by omega) rfl (World.ownsRow_nil _ w1.heap.size _ _) rfl (ae3 w1 (.int .i64 ((i : Int) + 1)) _ rfl) (fun u hu => by simp at hu; subst hu; rfl) (by omega) (by omega) (by simp) ?_; rintro a1 q1 w2 o2 b2 - -; have b2' := ((Below.refl w1.heap.size w1).alloc (b76 _) _).trans b2; have B3 := B2.trans (b2'.mono s2)))
    all_goals go_ret
    all_goals simp only [bne_iff_ne, ne_eq, bne_eq_false_iff_eq] at *
    all_goals first
      | (have e : Z9 x i = [(i : Int) + 1] := by
           rw [HN.out, if_neg (by have := HT.out; omega)]; clear HN HT; simp; omega
         rw [e]; exact ⟨_, rfl, A6.mk' (A5 o2 s2), B3⟩)
      | (have e : Z9 x i = [] := by
           rw [HN.out, if_neg (by have := HT.out; omega)]; clear HN HT; simp; omega
         rw [e]; exact ⟨_, rfl, ⟨World.ownsRow_nil _ _ _ _, fun g hg => by cases hg⟩, B2⟩)
theorem aW8 (v : Value) (c : b6) (i : Nat) (w : World) (h : t6 w v c) (hi : i < c.list.length) :
  Calls Tryz.prog 70 #[v, .int .i64 i] w fun e w' => ∃ u, e = .returned u ∧ F8 w' u (Z9 c.list[i] i).length 1 (ints (Z9 c.list[i] i)) ∧ Below w.heap.size w w' :=
 (au4 v c i w h hi).mono fun _ _ ⟨u, h1, h2, h3⟩ => ⟨u, h1, h2.row, h3⟩
theorem aO2 (v : Value) (c : b6) (hc : i5 c = true) (t : Int) (w : World) (h : t6 w v c) (h0 : 0 ≤ t) (h1 : t < c.list.length) :
  Calls Tryz.prog 70 #[v, .int .i64 t] w fun e w' => ∃ u ns, e = .returned u ∧ ns.length ≤ 2 ∧ (∀ x, x ∈ ns ↔ x ∈ nx c t) ∧ F8 w' u ns.length 1 (ints ns) ∧ Below w.heap.size w w' := by
 obtain ⟨i, rfl⟩ : ∃ i : Nat, t = i := ⟨t.toNat, by omega⟩
 have hi : i < c.list.length := by omega
 have e : nx c i = E1 c.list[i] i := az7 (t := (i : Int)) hi
 rw [e]
 refine (aW8 v c i w h hi).mono fun e w' ⟨u, h1, h2, h3⟩ => ⟨u, _, h1, bh1 _ _, fun x => bh0 ((l9 hc).2.2.2.1 i hi) _ _, h2, h3⟩
abbrev bools (l : List Bool) : List Value := l.map Value.bool
theorem U3 (l : List Bool) (k : Nat) (h : k < l.length) : (bools l)[k]? = some (.bool l[k]) := by simp [bools, h]
theorem bJ4 : (Tryz.prog.info? 4).map (fun i => (i.zero, i.size, i.bytes)) = some (some (.bool false), 1, 1) := by kernel_rfl
theorem aL3 (v : Value) (c : b6) (hc : i5 c = true) (w : World) (h : t6 w v c) :
  Calls Tryz.prog 69 #[v] w fun e w' => ∃ u, e = .returned u ∧ A6 w' w.heap.size w'.heap.size 4 1 u c.list.length (bools (B9 c)) ∧ Below w.heap.size w w' := by
 have hrow := h
 obtain ⟨v1, v2, v3, rfl, h1, h2, h3⟩ := h
 obtain ⟨a3, k3, rfl, -, hm3, -, -⟩ := h3.open
 obtain ⟨W, hW⟩ : ∃ W, W = (w.alloc (.cells #[v1, v2, .slice a3 c.list.length k3] 26)) := ⟨_, rfl⟩
 have B0 : Below w.heap.size w W := by rw [hW]; go_grown
 have sW : W.heap.size = w.heap.size + 1 := by rw [hW]; simp
 have L1 : A1 W w.heap.size [v1, v2, .slice a3 c.list.length k3] := by rw [hW]; exact (A1.new w [v1, v2, .slice a3 c.list.length k3] _)
 obtain ⟨-, hn1, hn2, -, -⟩ := l9 hc
 have hmk := an4 (P := Tryz.prog) (t := 43) Tryz.underlying43 bJ4 rfl (by omega) c.list.length (by omega) hm3
 have hown := am9 W (Value.bool false).cells.toList c.list.length 1 4 rfl hm3
 rw [show (Value.bool false).cells.toList = [Value.bool false] from rfl, G2, sW] at hown
 have hown0 : A6 (W.alloc (.cells (b70 c.list.length (Value.bool false)).toArray 4)) (w.heap.size + 1) (w.heap.size + 1 + 1) 4 1 (.slice (some ⟨w.heap.size + 1, 0, none⟩) c.list.length c.list.length) c.list.length (bools (b70 c.list.length false)) := by
  rw [bools, List.map_replicate]; exact hown
 have x2 := L1.cell 2
 simp at x2
 rw [show (Value.bool false).cells.toList = [Value.bool false] from rfl, G2] at hmk
 have eR : (b70 c.list.length (Value.bool false)).toArray = ca2 c.list.length (Value.bool false) := by simp
 rw [eR] at hmk hown0
 clear hown eR
 obtain ⟨g0, cap0, hv0, -, -, -, f0, u0, p0⟩ := hown0.at (j := 0) (by simp [bools]; omega)
 cases hv0
 rw [hW] at x2 f0 p0
 go_enter Tryz.func69, Tryz.ntmps69
 go_wp2_with fail
 rw [← hW]
 clear x2 hmk hW f0 p0
 have hown1 := v8 W (g := w.heap.size + 1) ((ca2 c.list.length (Value.bool false)).setIfInBounds 0 (.bool true)) c.list.length 1 4 sW.symm (by simp) hm3
 rw [sW, show ((ca2 c.list.length (Value.bool false)).setIfInBounds 0 (.bool true)).toList = bools ((b70 c.list.length false).set 0 true) by simp [bools]] at hown1
 have B2 : Below w.heap.size w (W.alloc (.cells ((ca2 c.list.length (Value.bool false)).setIfInBounds 0 (.bool true)) 4)) := B0.trans (Below.mono (by go_grown : Below W.heap.size W _) B0.size)
 have s2 : (W.alloc (.cells ((ca2 c.list.length (Value.bool false)).setIfInBounds 0 (.bool true)) 4)).heap.size = w.heap.size + 1 + 1 := by simp [sW]
 replace L1 := L1.alloc (.cells ((ca2 c.list.length (Value.bool false)).setIfInBounds 0 (.bool true)) 4)
 generalize W.alloc (.cells ((ca2 c.list.length (Value.bool false)).setIfInBounds 0 (.bool true)) 4) = W2 at *
 have hq := v8 W2 #[.int .i64 0] 1 1 3 s2.symm rfl (by omega)
 rw [s2] at hq
 have B3 := B2.trans (Below.mono (by go_grown : Below W2.heap.size W2 (W2.alloc (.cells #[.int .i64 0] 3))) B2.size)
 replace hown1 := hown1.keep (by go_grown : Below W2.heap.size W2 (W2.alloc (.cells #[.int .i64 0] 3))) (by omega)
 replace L1 := L1.alloc (.cells #[.int .i64 0] 3)
 generalize W2.alloc (.cells #[.int .i64 0] 3) = W3 at *
 clear B0 B2 s2 sW hown0
 go_loopw [4, 5] (fun q i wr => ∃ (qs : List Int) (bs : List Bool) (k : Nat) (a : Option Addr) (cq : Nat), i = .int .i64 k ∧ q = .slice a qs.length cq ∧ k ≤ qs.length ∧ wr.ownsRow (w.heap.size + 1 + 1) 3 1 q qs.length (ints qs) ∧
  A6 wr (w.heap.size + 1) (w.heap.size + 1 + 1) 4 1 (.slice (some ⟨w.heap.size + 1, 0, none⟩) c.list.length c.list.length) c.list.length (bools bs) ∧ aQ1 c qs bs ∧ ac1 c qs bs k ∧
  A1 wr w.heap.size [v1, v2, .slice a3 c.list.length k3] ∧ Below w.heap.size w wr)
  (fun _ i _ => c.list.length - (intOf i).toNat)
 case atStart => exact ⟨[0], _, 0, _, _, rfl, rfl, by simp, hq.1, hown1, aQ1.start hc, fun m u hm => absurd hm (by omega), L1, B3⟩
 case round =>
  obtain ⟨qs, bs, k, a, cq, rfl, rfl, hk, hq, ho, hi, hcl, hL, hb⟩ := hrel
  have hqn : qs.length ≤ c.list.length := by have := hi.cnt; omega
  have HI := show Hid _ from hi
  have HC := show Hid _ from hcl
  clear hi hcl hown1 B3 L1
  by_cases hlt : k < qs.length
  ·have hir := HI.out.q qs[k] (b91 hlt)
   obtain ⟨gq, hgq, p0⟩ : ∃ gq, a = some ⟨gq, 0, none⟩ ∧ wr.cell? ⟨gq, k, none⟩ = some (.int .i64 qs[k]) := by
    have hoq : A6 wr (w.heap.size + 1 + 1) wr.heap.size 3 1 (.slice a qs.length cq) qs.length (ints qs) := A6.mk' hq
    obtain ⟨g, cap', hv, -, -, -, -, -, -, hcc⟩ := hoq.open (by omega)
    cases hv
    exact ⟨g, rfl, hcc k _ (by simp [ints, hlt])⟩
   subst hgq
   have hgqb : gq < wr.heap.size := World.block_lt_of_cell? wr ⟨gq, k, none⟩ p0
   obtain ⟨ht0, ht1, htr⟩ := hir
   have HTR := show Hid _ from htr
   have hgt : qs[k]? = some qs[k] := b72 hlt
   have HGT := show Hid _ from hgt
   clear htr hgt
   generalize qs[k] = t at *
   have hS : ∀ W', Below wr.heap.size wr W' → Below wr.heap.size wr W' ∧ (W'.cell? ⟨w.heap.size, 0, none⟩ = some v1 ∧ W'.cell? ⟨w.heap.size, 1, none⟩ = some v2 ∧ W'.cell? ⟨w.heap.size, 2, none⟩ = some (.slice a3 c.list.length k3)) ∧ W'.cell? ⟨gq, k, none⟩ = some (.int .i64 t) :=
    fun W' hb' => ⟨hb', bQ1 hL W' hb', by rw [(J1 hb').1 _ _ hgqb]; exact p0⟩
   have HS := show Hid _ from hS
   have hb0 := (Below.refl wr.heap.size wr).drew
   clear hS
   go_wp2_with fail
   go_region_held3 (fun W' => Below wr.heap.size wr W' ∧ (W'.cell? ⟨w.heap.size, 0, none⟩ = some v1 ∧ W'.cell? ⟨w.heap.size, 1, none⟩ = some v2 ∧ W'.cell? ⟨w.heap.size, 2, none⟩ = some (.slice a3 c.list.length k3)) ∧ W'.cell? ⟨gq, k, none⟩ = some (.int .i64 t))
    (exact HS.out _ (by assumption))
    (first | (go_at_call 89; refine (bg0 _ c t _ (hrow.below (ak6 (by assumption) hb (b76 _))) ht0 ht1).mono ?_; rintro e w7 ⟨u3, rfl, o3, b7⟩; have q7 := ak6 b7 hb0 (b76 _); obtain ⟨a9, c9, rfl⟩ := o3.form))
   all_goals go_wp2_with fail
   have hb7 := hb.trans (q7.mono hb.size)
   have hq7 := H0 hq q7 (b76 _)
   have hsz : w.heap.size + 1 + 1 ≤ wr.heap.size := (ho.lt _ rfl).2.2
   have ho7 := ho.keep q7 hsz
   have hL7 := hL.below q7 hL.lt
   have s7 := q7.size
   have o7 : A6 w7 (w.heap.size + 1 + 1) w7.heap.size 3 1 (.slice a9 (nx c t).length c9) (nx c t).length (ints (nx c t)) := o3.wide hsz (b76 _)
   have hd7 : R8 (Value.slice (some ⟨gq, 0, none⟩) qs.length cq) (Value.slice a9 (nx c t).length c9) := by
    intro g hg hg'
    cases hg
    have h1 := (o3.lt _ hg').1
    exact absurd hgqb (Nat.not_lt.2 h1)
   have hnx : ∀ x ∈ nx c t, 0 ≤ x ∧ x < c.list.length := fun x hx => az6 hc ht0 hx
   have HNX := show Hid _ from hnx
   clear o3 b7 hb0 HS hL hq ho p0 hnx hb
   generalize hns : nx c t = ns at *
   have HNS := show Hid _ from hns
   clear hns
   go_loopw [4, 7] (fun q i wi => ∃ (qs' : List Int) (bs' : List Bool) (j : Nat) (a : Option Addr) (cq : Nat), i = .int .i64 j ∧ q = .slice a qs'.length cq ∧ j ≤ ns.length ∧ wi.ownsRow (w.heap.size + 1 + 1) 3 1 q qs'.length (ints qs') ∧
    A6 wi (w.heap.size + 1) (w.heap.size + 1 + 1) 4 1 (.slice (some ⟨w.heap.size + 1, 0, none⟩) c.list.length c.list.length) c.list.length (bools bs') ∧ aQ1 c qs' bs' ∧ ac1 c qs' bs' k ∧ (k < qs'.length ∧ qs'[k]? = some t) ∧ (∀ x ∈ ns.take j, bs'[x.toNat]? = some true) ∧
    A6 wi (w.heap.size + 1 + 1) w7.heap.size 3 1 (.slice a9 ns.length c9) ns.length (ints ns) ∧ R8 q (.slice a9 ns.length c9) ∧
    A1 wi w.heap.size [v1, v2, .slice a3 c.list.length k3] ∧ Below w.heap.size w wi)
    (fun _ i _ => ns.length - (intOf i).toNat)
   case atStart => exact ⟨qs, bs, 0, _, _, rfl, rfl, by omega, hq7, ho7, HI.out, HC.out, ⟨hlt, HGT.out⟩, by simp, o7, hd7, hL7, hb7⟩
   case round =>
    obtain ⟨qs', bs', j, a', cq', rfl, rfl, hj, hq, ho, hi, hcl, ⟨hkq, hgk⟩, hms, hu, hd, hL, hb⟩ := hrel
    have hqn' : qs'.length ≤ c.list.length := by have := hi.cnt; omega
    have HI' := show Hid _ from hi
    have HC' := show Hid (ac1 c qs' bs' k) from hcl
    have HG' := show Hid _ from hgk
    have HM' := show Hid _ from hms
    have hD := show Hid _ from hd
    clear hi hcl hgk hms hq7 ho7 o7 hd7 hL7 hb7 HI HC HGT hd
    by_cases hjl : j < ns.length
    ·have hxr := HNX.out ns[j] (b91 hjl)
     have HX := show Hid (ns.take (j + 1) = ns.take j ++ [ns[j]]) from t2 _ _ hjl
     have hxm : ns[j] ∈ nx c t := by rw [HNS.out]; exact b91 hjl
     have HXM := show Hid _ from hxm
     clear hxm
     obtain ⟨gu, hgu, pu⟩ : ∃ gu, a9 = some ⟨gu, 0, none⟩ ∧ wr.cell? ⟨gu, j, none⟩ = some (.int .i64 ns[j]) := by
      obtain ⟨g, cap', hv, -, -, -, -, -, -, hcc⟩ := hu.open (by omega)
      cases hv
      exact ⟨g, rfl, hcc j _ (by simp [ints, hjl])⟩
     subst hgu
     generalize ns[j] = x at *
     obtain ⟨m, rfl⟩ : ∃ m : Nat, x = m := ⟨x.toNat, by omega⟩
     have hmn : m < c.list.length := by omega
     have hmb : m < bs'.length := by rw [HI'.out.len]; exact hmn
     obtain ⟨g, cap, hv, hg1, hg2, hg3, hf, u0, hcb⟩ := ho.at (j := m) (by simpa [bools] using hmb)
     cases hv
     have p1 : wr.cell? ⟨w.heap.size + 1, m, none⟩ = some (.bool bs'[m]) := by
      obtain ⟨g, cap', hv, -, -, -, -, -, -, hcc⟩ := ho.open (by omega)
      cases hv
      exact hcc m _ (by simp [bools, hmb])
     have hgu1 : w.heap.size + 1 + 1 ≤ gu := (hu.lt _ rfl).1
     have hgu2 : gu < wr.heap.size := (hu.lt _ rfl).2.2
     have hnl := hu.row.len
     have hux := hu.other (b := w.heap.size + 1) (by omega) m (.bool true)
     have py : (wr.setCell ⟨w.heap.size + 1, m, none⟩ (.bool true)).cell? ⟨gu, j, none⟩ = some (.int .i64 m) := by
      rw [World.cell?_setCell_other _ _ _ _ (by intro h; cases h; omega)]
      exact pu
     have hqx := ((A6.mk' hq).other (b := w.heap.size + 1) (by omega) m (.bool true)).1
     have hbq : bs'[m]? = some bs'[m] := by rw [b72 hmb]
     clear u0 hcb hxr
     have s1 : w.heap.size + 1 + 1 ≤ wr.heap.size := hg3
     cases hbm : bs'[m]
     all_goals
      rw [hbm] at p1 hbq
      have HB := show Hid _ from hbq
      clear hbm hbq
     ·go_wp2_with (at_builtin; refine A9 rfl _ _ rfl Tryz.underlying23 ae8 rfl (by omega) rfl (hqx.alloc _) rfl (ae3 _ (.int .i64 m) _ (by simp)) (fun u hu => by simp at hu; subst hu; rfl) (by omega) (by omega) (by simp; omega) ?_; rintro a4 q4 w4 o4 b4 g4 h4)
      have hx1 : wr.heap.size ≤ (wr.setCell ⟨w.heap.size + 1, m, none⟩ (.bool true)).heap.size := by simp
      have hbx : Below w.heap.size w (wr.setCell ⟨w.heap.size + 1, m, none⟩ (.bool true)) := hb.setCell (p := ⟨w.heap.size + 1, m, none⟩) (by show w.heap.size ≤ w.heap.size + 1; omega) _
      have hox := ho.setCell (j := m) (by simpa [bools] using hmb) (.bool true)
      rw [show (bools bs').set m (.bool true) = bools (bs'.set m true) by simp [bools]] at hox
      have hLx := hL.other (p := ⟨w.heap.size + 1, m, none⟩) (by show w.heap.size ≠ w.heap.size + 1; omega) (.bool true)
      clear py hL ho hu hq p1 pu hf hg1 hg2 hg3
      generalize wr.setCell ⟨w.heap.size + 1, m, none⟩ (.bool true) = W4 at *
      have ba := (Below.refl W4.heap.size W4).alloc (b76 _) (.cells #[.int .i64 m] 3)
      have b5 : Below (w.heap.size + 1 + 1) W4 w4 := (ba.mono (by omega)).trans b4
      have hpush := HI'.out.push (t := (m : Int)) (by omega) (by omega) (.step HTR.out HXM.out) (by rw [cb0]; exact HB.out)
      rw [cb0] at hpush
      refine ⟨⟨qs' ++ [(m : Int)], bs'.set m true, j + 1, a4, q4, by go_num, by simp, by omega, by simpa [ints] using o4, hox.keep b5 (by omega), hpush, HC'.out.push (by omega) _ _, ⟨by simp; omega, by rw [b99 hkq]; exact HG'.out⟩, ?_, ?_, ?_, hLx.below b5 (by omega), hbx.trans (b5.mono (by omega))⟩, by simp [intOf]; omega⟩
      ·intro x hx
       rw [HX.out] at hx
       rcases b87.1 hx with hx | hx
       ·exact ad9 (HM'.out x hx)
       ·simp at hx; subst hx; rw [cb0]; exact X6 hmb
      ·exact A6.grown ⟨hux.1.alloc _, hux.2⟩ g4 fun g h1 h2 => hD.out g h2 h1
      ·intro g h1 h2
       rcases h4 g h1 with h1 | h1
       ·exact hD.out g h1 h2
       ·cases h2; simp at h1; omega
     ·go_wp2_with fail
      refine ⟨⟨qs', bs', j + 1, a', cq', by go_num, rfl, by omega, hq, ho, HI'.out, HC'.out, ⟨hkq, HG'.out⟩, ?_, hu, hD.out, hL, hb⟩, by simp [intOf]; omega⟩
      intro x hx
      rw [HX.out] at hx
      rcases b87.1 hx with hx | hx
      ·exact HM'.out x hx
      ·simp at hx; subst hx; rw [cb0]; exact HB.out
    ·have hjn : j = ns.length := by omega
     subst hjn
     go_wp2_with fail
     refine ⟨⟨qs', bs', k + 1, a', cq', by go_num, rfl, by omega, hq, ho, HI'.out, ?_, hL, hb⟩, by simp [intOf]; omega⟩
     intro m u hm hu' y hy
     rcases b93 m k with h1 | h1
     ·exact HC'.out m u h1 hu' y hy
     ·obtain rfl : m = k := by omega
      rw [HG'.out] at hu'
      cases hu'
      rw [HNS.out] at hy
      exact HM'.out y (by rw [List.take_length]; exact hy)
  ·have hkn : k = qs.length := by omega
   subst hkn
   go_wp2_with fail
   go_ret
   exact ⟨_, rfl, by rw [← ac1.done hc HI.out HC.out]; exact ho.wide (by omega) (by have := ho.lt _ rfl; omega), hb⟩
def aC0 (w : World) (B n : Nat) : Nat := (b88 n).countP fun j => match w.cell? ⟨B, j, none⟩ with | some (.bool false) => true | _ => false
theorem aB9 {w : World} {lo hi : Nat} {e : TypeId} {B n cap : Nat} {bs : List Bool} (h : A6 w lo hi e 1 (.slice (some ⟨B, 0, none⟩) n cap) n (bools bs)) (hn : 0 < n) : aC0 w B n = bs.count false := by
 obtain ⟨g, cap', hv, -, -, -, -, -, -, hc⟩ := h.open hn
 cases hv
 have hl : bs.length = n := by have := h.1.1; simpa [bools] using this
 have e1 : bs = (b88 n).map fun j => bs.getD j true := by
  apply List.ext_getElem
  ·simp [hl]
  ·intro j h1 h2; simp [h1]
 unfold aC0
 rw [List.count, e1, List.countP_map]
 refine List.countP_congr fun j hj => ?_
 rw [ca9] at hj
 have hjl : j < bs.length := by omega
 rw [hc j (.bool bs[j]) (by simp [bools, hjl])]
 simp [hjl]
 cases bs[j] <;> simp
theorem ae9 (v : Value) (c : b6) (hc : i5 c = true) (w : World) (h : t6 w v c) :
  Calls Tryz.prog 42 #[v] w fun e w' => ∃ u, e = .returned u ∧ A6 w' w.heap.size w'.heap.size 4 1 u c.list.length (bools (B9 c)) ∧ Below w.heap.size w w' := by
 have hrow := h
 obtain ⟨v1, v2, v3, rfl, h1, h2, h3⟩ := h
 obtain ⟨a3, k3, rfl, -, hm3, -, -⟩ := h3.open
 obtain ⟨W, hW⟩ : ∃ W, W = (w.alloc (.cells #[v1, v2, .slice a3 c.list.length k3] 26)) := ⟨_, rfl⟩
 have B0 : Below w.heap.size w W := by rw [hW]; go_grown
 have sW : W.heap.size = w.heap.size + 1 := by rw [hW]; simp
 have L1 : A1 W w.heap.size [v1, v2, .slice a3 c.list.length k3] := by rw [hW]; exact (A1.new w [v1, v2, .slice a3 c.list.length k3] _)
 obtain ⟨-, hn1, hn2, -, -⟩ := l9 hc
 have hmk := an4 (P := Tryz.prog) (t := 43) Tryz.underlying43 bJ4 rfl (by omega) c.list.length (by omega) hm3
 have hown := am9 W (Value.bool false).cells.toList c.list.length 1 4 rfl hm3
 rw [show (Value.bool false).cells.toList = [Value.bool false] from rfl, G2, sW] at hown
 have hown0 : A6 (W.alloc (.cells (b70 c.list.length (Value.bool false)).toArray 4)) (w.heap.size + 1) (w.heap.size + 1 + 1) 4 1 (.slice (some ⟨w.heap.size + 1, 0, none⟩) c.list.length c.list.length) c.list.length (bools (b70 c.list.length false)) := by
  rw [bools, List.map_replicate]; exact hown
 have x2 := L1.cell 2
 simp at x2
 rw [show (Value.bool false).cells.toList = [Value.bool false] from rfl, G2] at hmk
 have eR : (b70 c.list.length (Value.bool false)).toArray = ca2 c.list.length (Value.bool false) := by simp
 rw [eR] at hmk hown0
 clear hown eR
 go_enter Tryz.func42, Tryz.ntmps42
 rw [hW] at x2
 go_wp2_with fail
 rw [← hW]
 clear x2 hmk hW
 have B1 : Below w.heap.size w (W.alloc (.cells (ca2 c.list.length (Value.bool false)) 4)) := B0.trans (Below.mono (by go_grown : Below W.heap.size W _) B0.size)
 have s1 : (W.alloc (.cells (ca2 c.list.length (Value.bool false)) 4)).heap.size = w.heap.size + 1 + 1 := by simp [sW]
 replace L1 := L1.alloc (.cells (ca2 c.list.length (Value.bool false)) 4)
 generalize W.alloc (.cells (ca2 c.list.length (Value.bool false)) 4) = W1 at *
 have hq := v8 W1 #[.int .i64 0] 1 1 3 s1.symm rfl (by omega)
 rw [s1] at hq
 have B2 := B1.trans (Below.mono (by go_grown : Below W1.heap.size W1 (W1.alloc (.cells #[.int .i64 0] 3))) B1.size)
 replace hown0 := hown0.keep (by go_grown : Below W1.heap.size W1 (W1.alloc (.cells #[.int .i64 0] 3))) (by omega)
 replace L1 := L1.alloc (.cells #[.int .i64 0] 3)
 generalize W1.alloc (.cells #[.int .i64 0] 3) = W2 at *
 clear B0 B1 s1 sW
 go_loopw [4] (fun q wr => ∃ (ls : List Int) (bs : List Bool) (a : Option Addr) (k : Nat), q = .slice a ls.length k ∧ wr.ownsRow (w.heap.size + 1 + 1) 3 1 q ls.length (ints ls) ∧
  A6 wr (w.heap.size + 1) (w.heap.size + 1 + 1) 4 1 (.slice (some ⟨w.heap.size + 1, 0, none⟩) c.list.length c.list.length) c.list.length (bools bs) ∧ av2 c ls bs ∧
  A1 wr w.heap.size [v1, v2, .slice a3 c.list.length k3] ∧ Below w.heap.size w wr)
  (fun q wr => (match q with | .slice _ n _ => n | _ => 0) + 3 * aC0 wr (w.heap.size + 1) c.list.length)
 case atStart => exact ⟨[0], _, _, _, rfl, hq.1, hown0, av2.start hc, L1, B2⟩
 case round =>
  obtain ⟨ls, bs, a, k, rfl, hq, ho, hi, hL, hb⟩ := hrel
  have HI := show Hid _ from hi
  have hf := aB9 ho (by omega)
  have HF := show Hid _ from hf
  clear hi hf hown0 B2 L1
  by_cases hlt : 0 < ls.length
  ·obtain ⟨ls', i, hls⟩ : ∃ ls' i, ls = ls' ++ [i] := ⟨ls.dropLast, ls.getLast (by intro h; rw [h] at hlt; simp at hlt), (List.dropLast_concat_getLast _).symm⟩
   have hlen : ls.length = ls'.length + 1 := by rw [hls]; simp
   have hI := HI.out
   rw [hls] at hI
   have hir := hI.l i (by simp)
   obtain ⟨m, rfl⟩ : ∃ m : Nat, i = m := ⟨i.toNat, by omega⟩
   have hmn : m < c.list.length := by omega
   have hmb : m < bs.length := by rw [hI.len]; exact hmn
   obtain ⟨g, cap, hv, hg1, hg2, hg3, hf, u0, hcb⟩ := ho.at (j := m) (by simpa [bools] using hmb)
   cases hv
   have p1 : wr.cell? ⟨w.heap.size + 1, m, none⟩ = some (.bool bs[m]) := by
    obtain ⟨g, cap', hv, -, -, -, -, -, -, hcc⟩ := ho.open (by omega)
    cases hv
    exact hcc m _ (by simp [bools, hmb])
   obtain ⟨gq, hgq, p0⟩ : ∃ gq, a = some ⟨gq, 0, none⟩ ∧ wr.cell? ⟨gq, ls'.length, none⟩ = some (.int .i64 m) := by
    have hoq : A6 wr (w.heap.size + 1 + 1) wr.heap.size 3 1 (.slice a ls.length k) ls.length (ints ls) := A6.mk' hq
    obtain ⟨g, cap', hv, -, -, -, -, -, -, hcc⟩ := hoq.open hlt
    cases hv
    exact ⟨g, rfl, hcc ls'.length _ (by rw [hls]; simp [ints])⟩
   subst hgq
   have hkc : ls.length ≤ k := by
    rcases hq.2 with ⟨hv, _⟩ | ⟨g, cap', cur, hv, _, _, hnc, _⟩
    ·cases hv
    ·cases hv; exact hnc
   have hcut : wr.ownsRow (w.heap.size + 1 + 1) 3 1 (.slice (some ⟨gq, 0, none⟩) ls'.length k) ls'.length (ints ls') := by
    have hq' := hq
    rw [show ints ls = ints ls' ++ [.int .i64 m] by rw [hls]; simp [ints]] at hq'
    exact br7 hq' (by omega) hlt (by simp [ints])
   rw [hlen] at hq hkc ⊢
   have HLS := show Hid _ from hls
   have HLEN := show Hid _ from hlen
   clear hls hlen hlt u0 hcb
   have hbq : bs[(m : Int).toNat]? = some bs[m] := by rw [cb0, b72 hmb]
   have hll : ls'.length ≤ 1000 := by have := hI.cnt; simp at this; omega
   have HI2 := show Hid _ from hI
   have HIR := show Hid (Rc c m) from hir.2.2
   clear hI hir
   have hL2 := hL.other (p := ⟨w.heap.size + 1, m, none⟩) (by show w.heap.size ≠ w.heap.size + 1; omega) (.bool true)
   have y0 := hL2.cell 0
   have y1 := hL2.cell 1
   have y2 := hL2.cell 2
   simp only [b81, b82] at y0 y1 y2
   cases hbm : bs[m]
   all_goals
    rw [hbm] at p1
    rw [hbm] at hbq
    have HB := show Hid _ from hbq
    clear hbm hbq
    go_wp2_with fail
   ·have hbx : Below w.heap.size w (wr.setCell ⟨w.heap.size + 1, m, none⟩ (.bool true)) := hb.setCell (p := ⟨w.heap.size + 1, m, none⟩) (by show w.heap.size ≤ w.heap.size + 1; omega) _
    have hox := ho.setCell (j := m) (by simpa [bools] using hmb) (.bool true)
    have hqx := ((A6.mk' hcut).other (b := w.heap.size + 1) (by omega) m (.bool true)).1
    rw [show (bools bs).set m (.bool true) = bools (bs.set m true) by simp [bools]] at hox
    have hsx : (wr.setCell ⟨w.heap.size + 1, m, none⟩ (.bool true)).heap.size = wr.heap.size := by simp
    clear y0 y1 y2 hL hf p1 p0 hg1 hg2
    generalize wr.setCell ⟨w.heap.size + 1, m, none⟩ (.bool true) = W3 at *
    refine (aO2 _ c hc m _ (hrow.below hbx) (by omega) (by omega)).mono ?_
    rintro e w2 ⟨u, ns, rfl, hnl, hnm, hru, b2⟩
    obtain ⟨a2, q2, rfl⟩ := hru.form
    have s2 := b2.size
    have hq3 := H0 hqx b2 (b76 _)
    have hox3 := hox.keep b2 (by omega)
    have hL3 := hL2.below b2 hL2.lt
    have hb3 := hbx.trans (b2.mono hbx.size)
    clear hqx hox hL2
    go_wp2_with (at_builtin; refine A9 rfl _ _ rfl Tryz.underlying23 ae8 rfl (by omega) rfl hq3 rfl hru V5 (by omega) (by omega) (by omega) ?_; rintro a4 q4 w4 o4 b4 - -)
    have hox4 := hox3.keep b4 (by omega)
    have hm4 := HI2.out.mark hc HB.out hnl hnm
    rw [cb0] at hm4
    have hcs := U1 (bs := bs) (k := m) (by have := HB.out; rwa [cb0] at this)
    have hf4 := aB9 hox4 (by omega)
    refine ⟨⟨ls' ++ ns, bs.set m true, a4, q4, by simp, by simpa [ints] using o4, hox4, hm4, hL3.below b4 (by omega), hb3.trans (b4.mono (by omega))⟩, ?_⟩
    rw [hf4, HF.out]
    simp
    omega
   ·exact ⟨⟨ls', bs, _, _, rfl, hcut, ho, HI2.out.skip HB.out, hL, hb⟩, by simp⟩
  ·have hl0 : ls = [] := b96 (by omega)
   subst hl0
   go_wp2_with fail
   go_ret
   exact ⟨_, rfl, by rw [← HI.out.done hc]; exact ho.wide (by omega) (by have := ho.lt _ rfl; omega), hb⟩
noncomputable def B6 (c : b6) : List Bool := if i5 c = true then B9 c else []
theorem ae4 (c : b6) : (B9 c).length = c.list.length := by simp [B9]
theorem a36 (c : b6) : (B6 c).length ≤ c.list.length := by
 unfold B6; split
 ·rw [ae4]; exact b76 _
 ·simp
theorem ak0 (v : Value) (c : b6) (w : World) (h : t6 w v c) :
  Calls Tryz.prog 18 #[v] w fun e w' => ∃ u, e = .returned u ∧ A6 w' w.heap.size w'.heap.size 4 1 u (B6 c).length (bools (B6 c)) ∧ Below w.heap.size w w' := by
 have hrow := h
 obtain ⟨v1, v2, v3, rfl, h1, h2, h3⟩ := h
 have HT : Hid (B6 c = if i5 c = true then B9 c else []) := rfl
 obtain ⟨W, hW⟩ : ∃ W, W = w.alloc (.cells #[v1, v2, v3] 26) := ⟨_, rfl⟩
 have B0 : Below w.heap.size w W := by rw [hW]; go_grown
 have L1 : A1 W w.heap.size [v1, v2, v3] := by rw [hW]; exact (A1.new w [v1, v2, v3] _)
 go_enter Tryz.func18, Tryz.ntmps18
 go_wp2_with fail
 rw [← hW]
 clear hW
 refine (V8 _ c _ (hrow.below B0)).mono ?_
 rintro e w1 ⟨rfl, b1⟩
 replace L1 := L1.below b1 L1.lt
 have B1 := B0.trans (b1.mono B0.size)
 cases hh : i5 c
 ·have HH := show Hid (B6 c = []) from by unfold Hid; rw [HT.out, hh]; rfl
  clear hh
  go_wp2_with fail
  go_ret
  rw [HH.out]
  exact ⟨_, rfl, ⟨World.ownsRow_nil _ _ _ _, fun g hg => by cases hg⟩, B1⟩
 ·have HH := show Hid (B6 c = B9 c) from by unfold Hid; rw [HT.out, hh]; rfl
  have HO := show Hid _ from hh
  clear hh
  have x0 := L1.cell 0
  have x1 := L1.cell 1
  have x2 := L1.cell 2
  simp only [b81, b82] at x0 x1 x2
  go_wp2_with fail
  refine (ae9 _ c HO.out _ (hrow.below B1)).mono ?_
  rintro e w2 ⟨u, rfl, o2, b2⟩
  obtain ⟨a2, k2, rfl⟩ := o2.form
  go_wp2_with fail
  go_ret
  rw [HH.out, ae4]
  exact ⟨_, rfl, o2.wide B1.size (b76 _), B1.trans (b2.mono B1.size)⟩
def ak8 (w : World) (v : Value) (m : List (List Bool)) : Prop :=
 ∃ vs : List Value, F8 w v m.length 1 vs ∧ ∀ (i : Nat) (u : Value) (r : List Bool), vs[i]? = some u → m[i]? = some r → F8 w u r.length 1 (bools r)
def S5 (w : World) (lo hi : Nat) (v : Value) (m : List (List Bool)) : Prop :=
 ∃ vs : List Value, A6 w lo hi 43 1 v m.length vs ∧ (∀ (i : Nat) (u : Value) (r : List Bool), vs[i]? = some u → m[i]? = some r → A6 w lo hi 4 1 u r.length (bools r)) ∧
  (∀ (i j : Nat) (u u' : Value), i < j → vs[i]? = some u → vs[j]? = some u' → R8 u u') ∧ ∀ (i : Nat) (u : Value), vs[i]? = some u → R8 u v
theorem ak8.below {w w' : World} {v : Value} {m : List (List Bool)} (h : ak8 w v m) (hb : Below w.heap.size w w') : ak8 w' v m := by
 obtain ⟨vs, h1, h2⟩ := h
 exact ⟨vs, h1.below hb, fun i u r a b => (h2 i u r a b).below hb⟩
theorem S5.row {w : World} {lo hi : Nat} {v : Value} {m : List (List Bool)} (h : S5 w lo hi v m) : ak8 w v m := by
 obtain ⟨vs, h1, h2, _⟩ := h
 exact ⟨vs, h1.row, fun i u r a b => (h2 i u r a b).row⟩
theorem S5.keep {w w' : World} {lo hi B : Nat} {v : Value} {m : List (List Bool)} (h : S5 w lo hi v m) (hb : Below B w w') (hB : hi ≤ B) : S5 w' lo hi v m := by
 obtain ⟨vs, h1, h2, hd⟩ := h
 exact ⟨vs, h1.keep hb hB, fun i u r a b => (h2 i u r a b).keep hb hB, hd⟩
theorem S5.out {w w' : World} {lo hi lo' hi' : Nat} {v : Value} {m : List (List Bool)} (h : S5 w lo hi v m) (hb : Out lo' hi' w w') (hB : hi ≤ lo' ∨ hi' ≤ lo) : S5 w' lo hi v m := by
 obtain ⟨vs, h1, h2, hd⟩ := h
 exact ⟨vs, h1.out hb hB, fun i u r a b => (h2 i u r a b).out hb hB, hd⟩
theorem S5.wide {w : World} {lo hi lo' hi' : Nat} {v : Value} {m : List (List Bool)} (h : S5 w lo hi v m) (g1 : lo' ≤ lo) (g2 : hi ≤ hi') : S5 w lo' hi' v m := by
 obtain ⟨vs, h1, h2, hd⟩ := h
 exact ⟨vs, h1.wide g1 g2, fun i u r a b => (h2 i u r a b).wide g1 g2, hd⟩
theorem ak8.open {w : World} {v : Value} {m : List (List Bool)} (h : ak8 w v m) : ∃ a cap, v = .slice a m.length cap ∧ m.length ≤ 9223372036854775807 ∧
  ∀ i (hi : i < m.length), ∃ b off a' c', a = some ⟨b, off, none⟩ ∧ b < w.heap.size ∧ w.cell? ⟨b, off + i, none⟩ = some (.slice a' m[i].length c') ∧ F8 w (.slice a' m[i].length c') m[i].length 1 (bools m[i]) := by
 obtain ⟨vs, h1, h2⟩ := h
 obtain ⟨a, cap, hv, hc, hm, hm2, hcell⟩ := h1.open1
 refine ⟨a, cap, hv, hm, fun i hi => ?_⟩
 obtain ⟨b, off, ha, hb, hx⟩ := hcell i hi
 have hl : i < vs.length := by rw [h1.1]; omega
 rw [b72 hl] at hx
 have hr := h2 i _ _ (b72 hl) (b72 hi)
 obtain ⟨a', c', hs⟩ := hr.form
 rw [hs] at hx hr
 exact ⟨b, off, a', c', ha, hb, hx, hr⟩
theorem aJ2 (v : Value) (t : List Int) (w : World) (h : F8 w v t.length 1 (ints t)) (hb : t.length ≤ 1000000000000) :
  Calls Tryz.prog 71 #[v] w fun e w' => ∃ u, e = .returned u ∧ A6 w' w.heap.size w'.heap.size 3 1 u t.length (ints t) ∧ Below w.heap.size w w' := by
 obtain ⟨a, cap, rfl, hc1, hc2, hc3, -⟩ := h.open
 have hnil := fun w => Lib.run_eql_slice_nil (P := Tryz.prog) w 23 3 a t.length cap 0 0 Tryz.underlying23
 rcases a with _ | a
 ·have hn : t.length = 0 := by
   rcases Nat.eq_zero_or_pos t.length with h0 | h0
   ·exact h0
   ·obtain ⟨_, a, c, he, _, _, hx⟩ := h
    cases he
    obtain ⟨_, _, he, _⟩ := hx h0
    cases he
  have ht : t = [] := b96 hn
  subst ht
  simp only [b85, Option.isNone_none] at hnil
  go_enter Tryz.func71, Tryz.ntmps71
  go_wp2_with fail
  go_ret
  exact ⟨_, rfl, ⟨World.ownsRow_nil _ _ _ _, fun g hg => by cases hg⟩, Below.refl _ _⟩
 ·go_enter Tryz.func71, Tryz.ntmps71
  simp only [Option.isNone_some] at hnil
  have ba := (Below.refl w.heap.size w).alloc (b76 _) (.cells #[] 3)
  go_wp2_with (at_builtin; refine A9 rfl _ _ rfl Tryz.underlying23 ae8 rfl (by omega) rfl (v8 w #[] 0 1 _ rfl rfl (by omega)).1 rfl (h.below ba) V5 (by omega) (by omega) (by simp) ?_; rintro a4 q4 w4 o4 b4 - -)
  go_ret
  refine ⟨_, rfl, A6.mk' (by simpa using o4), ba.trans b4⟩
theorem ai4 (x : d7) (w : World) :
  Calls Tryz.prog 57 #[x.v] w fun e w' => e = .returned (.int .i64 (j6 x)) ∧ Below w.heap.size w w' := by
 obtain ⟨x0, x1, x2, x3, x4⟩ := x
 by_cases h8 : x0 = 8
 ·have HN := show Hid (j6 ⟨x0, x1, x2, x3, x4⟩ = x1) from by simp [Hid, j6, h8]
  have q8 : (x0 == 8) = true := by simp [h8]
  clear h8
  go_enter Tryz.func57, Tryz.ntmps57
  go_wp2_with fail
  go_ret
  exact ⟨K0 HN.out.symm, by go_grown⟩
 ·have q8 : (x0 == 8) = false := by simp [h8]
  by_cases h9 : x0 = 9 ∨ x0 = 10
  ·have HN := show Hid (j6 ⟨x0, x1, x2, x3, x4⟩ = x2) from by simp [Hid, j6, h8, h9]
   have h9' : (x0 == 9) = true ∨ ((x0 == 9) = false ∧ (x0 == 10) = true) := by
    rcases h9 with h9 | h9
    ·left; simp [h9]
    ·right; simp [h9]
   clear h8 h9
   rcases h9' with q9 | ⟨q9, q10⟩
   all_goals
    go_enter Tryz.func57, Tryz.ntmps57
    go_wp2_with fail
    go_ret
    exact ⟨K0 HN.out.symm, by go_grown⟩
  ·have HN := show Hid (j6 ⟨x0, x1, x2, x3, x4⟩ = -1) from by simp [Hid, j6, h8, h9]
   have q9 : (x0 == 9) = false := by simp; omega
   have q10 : (x0 == 10) = false := by simp; omega
   clear h8 h9
   go_enter Tryz.func57, Tryz.ntmps57
   go_wp2_with fail
   go_ret
   exact ⟨K0 HN.out.symm, by go_grown⟩
theorem a24 (x : d7) (t : Int) (w : World) :
  Calls Tryz.prog 58 #[x.v, .int .i64 t] w fun e w' => e = .returned (G0 x t).v ∧ Below w.heap.size w w' := by
 obtain ⟨x0, x1, x2, x3, x4⟩ := x
 by_cases h8 : x0 = 8
 ·have HN := show Hid (G0 ⟨x0, x1, x2, x3, x4⟩ t = ⟨x0, t, x2, x3, x4⟩) from by simp [Hid, G0, h8]
  have q8 : (x0 == 8) = true := by simp [h8]
  have q9 : (x0 == 9) = false := by simp [h8]
  have q10 : (x0 == 10) = false := by simp [h8]
  clear h8
  go_enter Tryz.func58, Tryz.ntmps58
  go_wp2_with fail
  refine bodyPost_ret (v := .agg #[.int .i64 x0, .int .i64 t, .int .i64 x2, .int .i64 x3, .int .i64 x4]) (by simp [results, Tryz.results58, go_sem]) rfl ⟨by rw [HN.out], by go_grown⟩
 ·have q8 : (x0 == 8) = false := by simp [h8]
  by_cases h9 : x0 = 9 ∨ x0 = 10
  ·have HN := show Hid (G0 ⟨x0, x1, x2, x3, x4⟩ t = ⟨x0, x1, t, x3, x4⟩) from by simp [Hid, G0, h8, h9]
   have h9' : (x0 == 9) = true ∨ ((x0 == 9) = false ∧ (x0 == 10) = true) := by
    rcases h9 with h9 | h9
    ·left; simp [h9]
    ·right; simp [h9]
   clear h8 h9
   rcases h9' with q9 | ⟨q9, q10⟩
   all_goals
    go_enter Tryz.func58, Tryz.ntmps58
    go_wp2_with fail
    refine bodyPost_ret (v := .agg #[.int .i64 x0, .int .i64 x1, .int .i64 t, .int .i64 x3, .int .i64 x4]) (by simp [results, Tryz.results58, go_sem]) rfl ⟨by rw [HN.out], by go_grown⟩
  ·have HN := show Hid (G0 ⟨x0, x1, x2, x3, x4⟩ t = ⟨x0, x1, x2, x3, x4⟩) from by simp [Hid, G0, h8, h9]
   have q9 : (x0 == 9) = false := by simp; omega
   have q10 : (x0 == 10) = false := by simp; omega
   clear h8 h9
   go_enter Tryz.func58, Tryz.ntmps58
   go_wp2_with fail
   refine bodyPost_ret (v := .agg #[.int .i64 x0, .int .i64 x1, .int .i64 x2, .int .i64 x3, .int .i64 x4]) (by simp [results, Tryz.results58, go_sem]) rfl ⟨by rw [HN.out], by go_grown⟩
theorem bF5 (x : d7) (t : Int) (w : World) (h : 0 ≤ j6 x) :
  Calls Tryz.prog 53 #[x.v, .int .i64 t] w fun e w' => e = .returned (G0 x t).v ∧ Below w.heap.size w w' := by
 obtain ⟨x0, x1, x2, x3, x4⟩ := x
 by_cases h8 : x0 = 8
 ·have HN := show Hid (G0 ⟨x0, x1, x2, x3, x4⟩ t = ⟨x0, t, x2, x3, x4⟩) from by simp [Hid, G0, h8]
  have q8 : (x0 == 8) = true := by simp [h8]
  clear h8 h
  go_enter Tryz.func53, Tryz.ntmps53
  go_wp2_with fail
  refine bodyPost_ret (v := .agg #[.int .i64 x0, .int .i64 t, .int .i64 x2, .int .i64 x3, .int .i64 x4]) (by simp [results, Tryz.results53, go_sem]) rfl ⟨by rw [HN.out], by go_grown⟩
 ·have q8 : (x0 == 8) = false := by simp [h8]
  have h9 : x0 = 9 ∨ x0 = 10 := by
   unfold j6 at h
   simp only at h
   rw [if_neg h8] at h
   split at h
   ·assumption
   ·omega
  have HN := show Hid (G0 ⟨x0, x1, x2, x3, x4⟩ t = ⟨x0, x1, t, x3, x4⟩) from by simp [Hid, G0, h8, h9]
  clear h8 h9 h
  go_enter Tryz.func53, Tryz.ntmps53
  go_wp2_with fail
  refine bodyPost_ret (v := .agg #[.int .i64 x0, .int .i64 x1, .int .i64 t, .int .i64 x3, .int .i64 x4]) (by simp [results, Tryz.results53, go_sem]) rfl ⟨by rw [HN.out], by go_grown⟩
theorem bi0 (v : Value) (c : b6) (p : Option Addr) (m k : Nat) (l : List d7) (lo hi : Nat) (w : World) (h : t6 w v c) (hs : c.size ≤ 1048576) (hl : A6 w lo hi 60 5 (.slice p m k) l.length (ints (A8 l))) (hlo : lo ≤ w.heap.size) (hhi : hi ≤ w.heap.size) :
  Calls Tryz.prog 88 #[v, .slice p m k] w fun e w' => ∃ u, e = .returned u ∧ D7 w' lo w'.heap.size u { c with list := l } ∧ Below w.heap.size w w' := by
 obtain ⟨v1, v2, v3, rfl, h1, h2, h3⟩ := h
 unfold b6.size at hs
 have hlm : m = l.length := by obtain ⟨a, c, e⟩ := hl.form; simp only [Value.slice.injEq] at e; omega
 subst hlm
 obtain ⟨n, hn⟩ : ∃ n, n = w.heap.size := ⟨_, rfl⟩
 obtain ⟨W, hW⟩ : ∃ W, W = (w.alloc (.cells #[v1, v2, v3] 26)).alloc (.cells #[.slice none 0 0, .slice none 0 0, .slice none 0 0] 26) := ⟨_, rfl⟩
 have B0 : Below n w W := by rw [hW, hn]; go_grown
 have sW : W.heap.size = n + 1 + 1 := by rw [hW, hn]; simp
 have L1 : A1 W n [v1, v2, v3] := by rw [hW, hn]; exact (A1.new w [v1, v2, v3] _).alloc _
 have L2 : A1 W (n + 1) [.slice none 0 0, .slice none 0 0, .slice none 0 0] := by rw [hW, hn]; exact A1.new' (w.alloc _) [.slice none 0 0, .slice none 0 0, .slice none 0 0] _ (by simp)
 have hS : ∀ W', Below (n + 1) W W' → Below (n + 1) W W' ∧ (W'.cell? ⟨n, 0, none⟩ = some v1 ∧ W'.cell? ⟨n, 1, none⟩ = some v2 ∧ W'.cell? ⟨n, 2, none⟩ = some v3) := by
  intro W' hb
  have L' := L1.below hb (by omega)
  exact ⟨hb, by simpa using L'.cell 0, by simpa using L'.cell 1, by simpa using L'.cell 2⟩
 have hQ : ∀ W' W'', Below (n + 1 + 1) W W' → Below W'.heap.size W' W'' → Below (n + 1 + 1) W W'' := fun W' W'' g k => g.trans (k.mono (by have := g.size; omega))
 have hT : ∀ W', Below (n + 1 + 1) W W' → (W'.frozen? ⟨n + 1, 0, none⟩ = false ∧ W'.frozen? ⟨n + 1, 1, none⟩ = false ∧ W'.frozen? ⟨n + 1, 2, none⟩ = false) ∧ W'.cell? ⟨n + 1, 0, none⟩ = some (.slice none 0 0) ∧ W'.cell? ⟨n + 1, 1, none⟩ = some (.slice none 0 0) ∧ W'.cell? ⟨n + 1, 2, none⟩ = some (.slice none 0 0) := by
  intro W' hb
  have L' := L2.below hb (by omega)
  exact ⟨⟨L'.free 0, L'.free 1, L'.free 2⟩, by simpa using L'.cell 0, by simpa using L'.cell 1, by simpa using L'.cell 2⟩
 have hA : ∀ W', Below (n + 1 + 1) W W' → Below n w W' := fun W' g => B0.trans (g.mono (by omega))
 have HA1 := show Hid (∀ W', Below (n + 1 + 1) W W' → F8 W' v1 c.vars.length 1 (ints c.vars)) from fun W' g => h1.below (by rw [← hn]; exact hA _ g)
 have HA2 := show Hid (∀ W', Below (n + 1 + 1) W W' → F8 W' v2 c.arrays.length 1 (ints c.arrays)) from fun W' g => h2.below (by rw [← hn]; exact hA _ g)
 have HA3 := show Hid (∀ W', Below (n + 1 + 1) W W' → W5 W' v3 c.list) from fun W' g => h3.below (by rw [← hn]; exact hA _ g)
 have HA := show Hid _ from hA
 have HS := show Hid _ from hS
 have HQ := show Hid _ from hQ
 have HT := show Hid _ from hT
 have hb0 : Below (n + 1 + 1) W W.drew := (Below.refl _ W).drew
 have hb1 : Below (n + 1) W W.drew := (Below.refl _ W).drew
 have HN := show Hid (n = w.heap.size) from hn
 have HL2 := show Hid _ from L2
 have zd : W.drew.heap.size = n + 1 + 1 := sW
 have HB0 := show Hid _ from B0
 clear hS hQ hT hA h1 h2 h3 L1
 go_enter Tryz.func88, Tryz.ntmps88
 go_wp2_with fail
 rw [← HN.out]
 rw [← hW]
 clear hn hW B0 L2
 go_region_held3 (fun W' => Below (n + 1) W W' ∧ (W'.cell? ⟨n, 0, none⟩ = some v1 ∧ W'.cell? ⟨n, 1, none⟩ = some v2 ∧ W'.cell? ⟨n, 2, none⟩ = some v3))
  (first | exact HS.out _ (by assumption) | exact HS.out _ ((by assumption : Below (n + 1 + 1) W _).mono (Nat.le_succ _)) | exact HS.out _ (((((by assumption : Below (n + 1 + 1) W _).mono (Nat.le_succ _)).setCell (b76 _) _).setCell (b76 _) _).setCell (b76 _) _))
  (first
   | (go_at_call 71; refine (aJ2 v1 c.vars _ (HA1.out _ (by assumption)) (by omega)).mono ?_; rintro e w7 ⟨u1, rfl, o1, b7⟩; obtain ⟨x1, k1, rfl⟩ := o1.form; have s7 := b7.size; (try replace o2 := o2.keep b7 (by omega)); have q7 := HQ.out _ _ (by assumption) b7; have z7 := q7.size; obtain ⟨⟨f0, f1, f2⟩, c0, c1, c2⟩ := HT.out _ q7)
   | (go_at_call 71; refine (aJ2 v2 c.arrays _ (HA2.out _ (by assumption)) (by omega)).mono ?_; rintro e w7 ⟨u2, rfl, o2, b7⟩; obtain ⟨x2, k2, rfl⟩ := o2.form; have s7 := b7.size; (try replace o1 := o1.keep b7 (by omega)); have q7 := HQ.out _ _ (by assumption) b7; have z7 := q7.size; obtain ⟨⟨f0, f1, f2⟩, c0, c1, c2⟩ := HT.out _ q7))
 have L2 := A1.below HL2.out q7 (by omega)
 have hn0 := HN.out
 have o3 := (hl.keep HB0.out (by have := HN.out; omega)).keep (q7.mono (show n ≤ n + 1 + 1 by omega)) (by have := HN.out; omega)
 have L3 := ((L2.set (j := 0) (.slice x1 c.vars.length k1)).set (j := 1) (.slice x2 c.arrays.length k2)).set (j := 2) (.slice p l.length k)
 replace o1 := (((o1.other (b := n + 1) (by omega) 0 (.slice x1 c.vars.length k1)).other (b := n + 1) (by omega) 1 (.slice x2 c.arrays.length k2)).other (b := n + 1) (by omega) 2 (.slice p l.length k))
 replace o2 := (((o2.other (b := n + 1) (by omega) 0 (.slice x1 c.vars.length k1)).other (b := n + 1) (by omega) 1 (.slice x2 c.arrays.length k2)).other (b := n + 1) (by omega) 2 (.slice p l.length k))
 replace o3 := (((o3.other (b := n + 1) (by omega) 0 (.slice x1 c.vars.length k1)).other (b := n + 1) (by omega) 1 (.slice x2 c.arrays.length k2)).other (b := n + 1) (by omega) 2 (.slice p l.length k))
 have BF := (((HB0.out.trans (q7.mono (by omega))).setCell (p := ⟨n + 1, 0, none⟩) (by show n ≤ n + 1; omega) (.slice x1 c.vars.length k1)).setCell (p := ⟨n + 1, 1, none⟩) (by show n ≤ n + 1; omega) (.slice x2 c.arrays.length k2)).setCell (p := ⟨n + 1, 2, none⟩) (by show n ≤ n + 1; omega) (.slice p l.length k)
 have zF : (((w7.setCell ⟨n + 1, 0, none⟩ (.slice x1 c.vars.length k1)).setCell ⟨n + 1, 1, none⟩ (.slice x2 c.arrays.length k2)).setCell ⟨n + 1, 2, none⟩ (.slice p l.length k)).heap.size = w7.heap.size := by simp
 generalize ((w7.setCell ⟨n + 1, 0, none⟩ (.slice x1 c.vars.length k1)).setCell ⟨n + 1, 1, none⟩ (.slice x2 c.arrays.length k2)).setCell ⟨n + 1, 2, none⟩ (.slice p l.length k) = WF at *
 have r0 := L3.cell 0
 have r1 := L3.cell 1
 have r2 := L3.cell 2
 simp at r0 r1 r2
 have hn' := HN.out
 clear f0 f1 f2 c0 c1 c2 L2 HS HQ HT HA HA1 HA2 HA3 HL2 HB0 hb0 hb1 HN
 go_wp2_with fail
 refine bodyPost_ret (v := .agg #[.slice x1 c.vars.length k1, .slice x2 c.arrays.length k2, .slice p l.length k]) (by simp [results, Tryz.results88, go_sem, r0, r1, r2]) rfl ⟨_, rfl, ⟨_, _, _, rfl, o1.wide (by omega) (by omega), o2.wide (by omega) (by omega), o3.wide (by omega) (by omega), ah0 o1 o2 (by omega), ah0 o1 o3 (by omega), ah0 o2 o3 (by omega)⟩, by rw [← hn']; exact BF⟩
def ab2 (i : Nat) : Prop := i % 4 = 0 ∨ i % 4 = 3
def Pv (n : Nat) (v1 v2 v3 : Value) (c : b6) (i : Nat) (x : Value) (w : World) : Prop :=
 match i with
 | 0 => (∃ b, x = .slice (some b) 0 0) ∧ w.ownsRow (n + 1 + 1) 3 1 x 0 []
 | 1 => x = .pointer (some ⟨n, 0, none⟩)
 | 2 => x = v1
 | 3 => w.ownsRow (n + 1 + 1) 3 1 x c.vars.length (ints c.vars)
 | 4 => (∃ b, x = .slice (some b) 0 0) ∧ w.ownsRow (n + 1 + 1) 3 1 x 0 []
 | 5 => x = .pointer (some ⟨n, 1, none⟩)
 | 6 => x = v2
 | 7 => w.ownsRow (n + 1 + 1) 3 1 x c.arrays.length (ints c.arrays)
 | 8 => (∃ b, x = .slice (some b) 0 0) ∧ w.ownsRow (n + 1 + 1) 60 5 x 0 []
 | 9 => x = .pointer (some ⟨n, 2, none⟩)
 | 10 => x = v3
 | 11 => w.ownsRow (n + 1 + 1) 60 5 x c.list.length (ints (A8 c.list))
 | 12 => ∃ y1 y2 y3, x = .agg #[y1, y2, y3] ∧ w.ownsRow (n + 1 + 1) 3 1 y1 c.vars.length (ints c.vars) ∧ w.ownsRow (n + 1 + 1) 3 1 y2 c.arrays.length (ints c.arrays) ∧ w.ownsRow (n + 1 + 1) 60 5 y3 c.list.length (ints (A8 c.list)) ∧ R8 y1 y2 ∧ R8 y1 y3 ∧ R8 y2 y3
 | _ => True
theorem Pv.next {n : Nat} {v1 v2 v3 : Value} {c : b6} {i : Nat} {x : Value} {w w' : World} (h : Pv n v1 v2 v3 c i x w) (hb : Below w.heap.size w w') : Pv n v1 v2 v3 c i x w' := by
 have k := fun {e : TypeId} {sz : Nat} {v : Value} {m : Nat} {xs : List Value} (g : w.ownsRow (n + 1 + 1) e sz v m xs) => H0 g hb (b76 _)
 unfold Pv at *
 split at h <;> first | exact h | exact k h | exact ⟨h.1, k h.2⟩ | (obtain ⟨y1, y2, y3, e, g1, g2, g3, d⟩ := h; exact ⟨y1, y2, y3, e, k g1, k g2, k g3, d⟩)
theorem Pv.lt {n : Nat} {v1 v2 v3 : Value} {c : b6} {i : Nat} {x : Value} {w : World} (h : Pv n v1 v2 v3 c i x w) (hi : i < 12) (ho : ab2 i) : ∀ g, x.ownBlock = some g → g < w.heap.size := by
 intro g hg
 unfold ab2 at ho
 have : i = 0 ∨ i = 3 ∨ i = 4 ∨ i = 7 ∨ i = 8 ∨ i = 11 := by omega
 rcases this with rfl | rfl | rfl | rfl | rfl | rfl
 ·exact (h.2.lt g hg).2
 ·exact (World.ownsRow.lt h g hg).2
 ·exact (h.2.lt g hg).2
 ·exact (World.ownsRow.lt h g hg).2
 ·exact (h.2.lt g hg).2
 ·exact (World.ownsRow.lt h g hg).2
structure a08 (n : Nat) (v1 v2 v3 : Value) (c : b6) (W : World) (listed : Array Bool) (f : Nat → Value) (w : World) : Prop where
 size : listed.size = 14
 val : ∀ i, i < 13 → listed.getD i false = true → Pv n v1 v2 v3 c i (f i) w
 dis : ∀ i j, i < 12 → j < 12 → ab2 i → ab2 j → i / 4 ≠ j / 4 → listed.getD i false = true → listed.getD j false = true → R8 (f i) (f j)
 box : Below (n + 1) W w
 big : n + 1 + 1 ≤ w.heap.size
 pre : listed.getD 13 false = false → Below (n + 1 + 1) W w
 post : listed.getD 13 false = true → ∃ y1 y2 y3, A1 w (n + 1) [y1, y2, y3] ∧ w.ownsRow (n + 1 + 1) 3 1 y1 c.vars.length (ints c.vars) ∧ w.ownsRow (n + 1 + 1) 3 1 y2 c.arrays.length (ints c.arrays) ∧ w.ownsRow (n + 1 + 1) 60 5 y3 c.list.length (ints (A8 c.list)) ∧ R8 y1 y2 ∧ R8 y1 y3 ∧ R8 y2 y3
theorem a08.step {n : Nat} {v1 v2 v3 : Value} {c : b6} {W : World} {listed : Array Bool} {f : Nat → Value} {w w' : World} (h : a08 n v1 v2 v3 c W listed f w) {i : Nat} (hi : i < 13) {x : Value} (hb : Below w.heap.size w w') (hx : Pv n v1 v2 v3 c i x w')
  (hd : ab2 i → ∀ j, j < 12 → ab2 j → i / 4 ≠ j / 4 → listed.getD j false = true → R8 x (f j)) : a08 n v1 v2 v3 c W (listed.setIfInBounds i true) (fun k => if k = i then x else f k) w' := by
 have hs := hb.size
 have hbig := h.big
 have get : ∀ j, j ≠ i → (listed.setIfInBounds i true).getD j false = true → listed.getD j false = true := fun j hj g => by rwa [getD_set_ne false (fun e => hj e.symm)] at g
 refine ⟨by simpa using h.size, fun j hj g => ?_, fun j k hj hk oj ok hjk gj gk => ?_, h.box.trans (hb.mono (by omega)), by omega, fun g => ?_, fun g => ?_⟩
 ·by_cases e : j = i
  ·subst e; simpa using hx
  ·simp only [if_neg e]; exact (h.val j hj (get j e g)).next hb
 ·by_cases e1 : j = i
  ·subst e1
   have e2 : k ≠ j := fun e => hjk (by rw [e])
   simp only [if_pos, if_neg e2]
   exact hd oj k hk ok hjk (get k e2 gk)
  ·by_cases e2 : k = i
   ·subst e2
    simp only [if_pos, if_neg e1]
    exact (hd ok j hj oj (fun e => hjk e.symm) (get j e1 gj)).symm
   ·simp only [if_neg e1, if_neg e2]
    exact h.dis j k hj hk oj ok hjk (get j e1 gj) (get k e2 gk)
 ·rw [getD_set_ne false (by omega)] at g
  exact (h.pre g).trans (hb.mono (by omega))
 ·rw [getD_set_ne false (by omega)] at g
  obtain ⟨y1, y2, y3, k0, k1, k2, k3, k4⟩ := h.post g
  exact ⟨y1, y2, y3, k0.below hb k0.lt, H0 k1 hb (b76 _), H0 k2 hb (b76 _), H0 k3 hb (b76 _), k4⟩
theorem a08.new {n : Nat} {v1 v2 v3 : Value} {c : b6} {W : World} {listed : Array Bool} {f : Nat → Value} {w : World} (h : a08 n v1 v2 v3 c W listed f w) {x : Value} (hx : ∀ g, x.ownBlock = some g → w.heap.size ≤ g) : ∀ j, j < 12 → ab2 j → listed.getD j false = true → R8 x (f j) := by
 intro j hj oj gj g h1 h2
 have := hx g h1
 have := (h.val j (by omega) gj).lt hj oj g h2
 omega
theorem br6 {w : World} {base : Nat} {e : TypeId} {sz : Nat} {v : Value} {m : Nat} {xs : List Value} (h : w.ownsRow base e sz v m xs) {b : Nat} (hb : b < base) (j : Nat) (u : Value) : (w.setCell ⟨b, j, none⟩ u).ownsRow base e sz v m xs :=
 ((A6.mk' h).other (b := b) (.inl hb) j u).1
theorem Pv.store {n : Nat} {v1 v2 v3 : Value} {c : b6} {i : Nat} {x : Value} {w : World} (h : Pv n v1 v2 v3 c i x w) (j : Nat) (u : Value) : Pv n v1 v2 v3 c i x (w.setCell ⟨n + 1, j, none⟩ u) := by
 have k := fun {e : TypeId} {sz : Nat} {v : Value} {m : Nat} {xs : List Value} (g : w.ownsRow (n + 1 + 1) e sz v m xs) => br6 g (cb1 (n + 1)) j u
 unfold Pv at *
 split at h <;> first | exact h | exact k h | exact ⟨h.1, k h.2⟩ | (obtain ⟨y1, y2, y3, e, g1, g2, g3, d⟩ := h; exact ⟨y1, y2, y3, e, k g1, k g2, k g3, d⟩)
end Go.Proofs.YtmokkddidcmglaaGreat

namespace Go.Proofs.YtmokkddidcmglaaGreat
open Go Go.RowKit Go.ChangeShapes Go.WideShapes Go.Deep
section
variable {H : Type} {enc : TypeId × Value → H} {W : World}
end
end Go.Proofs.YtmokkddidcmglaaGreat

namespace Go.Proofs.YtmokkddidcmglaaGreat
open Go Go.RowKit
def P2 (w : World) (lo hi g : Nat) (m : List (List Bool)) : Prop :=
 S5 w lo hi (.slice (some ⟨g, 0, none⟩) m.length m.length) m ∧ ∀ i : Nat, i < m.length → (rowAt m i).length = 0 → w.cell? ⟨g, i, none⟩ = some (.slice none 0 0)
theorem P2.wide {w : World} {lo hi lo' hi' g : Nat} {m : List (List Bool)} (h : P2 w lo hi g m) (h1 : lo' ≤ lo) (h2 : hi ≤ hi') : P2 w lo' hi' g m := ⟨h.1.wide h1 h2, h.2⟩
theorem P2.lt {w : World} {lo hi g : Nat} {m : List (List Bool)} (h : P2 w lo hi g m) : lo ≤ g ∧ g < hi ∧ g < w.heap.size := by
 obtain ⟨vs, h1, _⟩ := h.1
 exact h1.lt g rfl
theorem P2.keep {w w' : World} {lo hi B g : Nat} {m : List (List Bool)} (h : P2 w lo hi g m) (hb : Below B w w') (hB : hi ≤ B) : P2 w' lo hi g m := by
 have hl := h.lt
 exact ⟨h.1.keep hb hB, fun i hi h0 => (hb.cell (p := ⟨g, i, none⟩) (by show g < B; omega)).trans (h.2 i hi h0)⟩
theorem P2.at {w : World} {lo hi g : Nat} {m : List (List Bool)} (h : P2 w lo hi g m) {i : Nat} (hi' : i < m.length) :
  w.frozen? ⟨g, i, none⟩ = false ∧ ∃ u, w.cell? ⟨g, i, none⟩ = some u ∧ A6 w lo hi 4 1 u (rowAt m i).length (bools (rowAt m i)) ∧ u.ownBlock ≠ some g := by
 obtain ⟨vs, h1, h2, h3, h4⟩ := h.1
 have hl : i < vs.length := by have := h1.1.1; omega
 obtain ⟨g', cap, hv, -, -, -, hf, u0, hc⟩ := h1.at hl
 cases hv
 obtain ⟨g', cap, hv, -, -, -, -, -, -, hcc⟩ := h1.open (by omega)
 cases hv
 have hu := b72 hl
 refine ⟨hf, vs[i], hcc i _ hu, ?_, fun e => h4 i _ hu g e rfl⟩
 have := h2 i _ _ hu (b72 hi')
 rw [ag3 hi']
 exact this
theorem bF9 {vs : List Value} {y : Nat} {u : Value} (hd : ∀ (i j : Nat) (a b : Value), i < j → vs[i]? = some a → vs[j]? = some b → R8 a b) (hu : ∀ i a, vs[i]? = some a → i ≠ y → R8 a u) :
  ∀ (i j : Nat) (a b : Value), i < j → (vs.set y u)[i]? = some a → (vs.set y u)[j]? = some b → R8 a b := by
 intro i j a b hij ha hb
 rw [List.getElem?_set] at ha hb
 by_cases h1 : y = i
 ·rw [if_pos h1] at ha
  have h2 : ¬ y = j := by omega
  rw [if_neg h2] at hb
  split at ha
  ·cases ha
   exact (hu j b hb (by omega)).symm
  ·cases ha
 ·rw [if_neg h1] at ha
  by_cases h2 : y = j
  ·rw [if_pos h2] at hb
   split at hb
   ·cases hb
    exact hu i a ha (by omega)
   ·cases hb
  ·rw [if_neg h2] at hb
   exact hd i j a b hij ha hb
theorem af0 (w : World) (b j : Nat) (u : Value) (k : Nat) (h : k ≠ b) : (w.setCell ⟨b, j, none⟩ u).heap[k]? = w.heap[k]? := Below.heap_setCell _ _ _ _ h
theorem P2.setRow {w : World} {lo hi lo' hi' g : Nat} {m : List (List Bool)} (h : P2 w lo hi g m) {y : Nat} (hy : y < m.length) {u : Value} {r : List Bool} (hr : r.length = 14) (hu : A6 w lo' hi' 4 1 u 14 (bools r)) (h1 : hi ≤ lo') (h2 : lo' ≤ hi') :
  P2 (w.setCell ⟨g, y, none⟩ u) lo hi' g (m.set y r) := by
 have hgl := h.lt
 obtain ⟨⟨vs, k1, k2, k3, k4⟩, hnil⟩ := h
 have hvl : vs.length = m.length := by have := k1.1.1; omega
 have hug : ∀ g', u.ownBlock = some g' → g' ≠ g := fun g' e => by have := hu.lt g' e; omega
 refine ⟨⟨vs.set y u, ?_, ?_, ?_, ?_⟩, ?_⟩
 ·rw [b95]
  exact (k1.setCell (by omega) u).wide (b76 _) (by omega)
 ·intro i a r' ha hr'
  rw [List.getElem?_set] at ha hr'
  split at ha
  ·rename_i e
   rw [if_pos e] at hr'
   rw [if_pos hy] at hr'
   cases hr'
   split at ha
   ·cases ha
    rw [hr]
    exact (hu.same fun g' e => af0 _ _ _ _ _ (hug g' e)).wide (by omega) (b76 _)
   ·cases ha
  ·rename_i e
   rw [if_neg e] at hr'
   exact ((k2 i a r' ha hr').same fun g' e => af0 _ _ _ _ _ fun e' => k4 i a ha g' e (by rw [e']; rfl)).wide (b76 _) (by omega)
 ·refine bF9 k3 fun i a ha _ => ?_
  have hi : i < m.length := by have := (b77.1 ha).1; omega
  exact ah0 (k2 i a _ ha (b72 hi)) hu (by omega)
 ·intro i a ha
  rw [List.getElem?_set] at ha
  split at ha
  ·split at ha
   ·cases ha
    exact fun g' e e' => hug g' e (by cases e'; rfl)
   ·cases ha
  ·have := k4 i a ha
   rw [b95]
   exact this
 ·intro i hi h0
  rw [b95] at hi
  rw [B5 _ _ hy] at h0
  split at h0
  ·omega
  ·rename_i e
   rw [World.cell?_setCell_other _ _ _ _ (by intro e'; cases e'; exact e (by simp))]
   exact hnil i hi h0
def av1 (w : World) (g : Nat) (m : List (List Bool)) (b : Nat) : Prop := b = g ∨ ∃ (i : Nat) (u : Value), i < m.length ∧ w.cell? ⟨g, i, none⟩ = some u ∧ u.ownBlock = some b
theorem P2.blk {w : World} {lo hi g : Nat} {m : List (List Bool)} (h : P2 w lo hi g m) {b : Nat} (hb : av1 w g m b) : lo ≤ b ∧ b < hi ∧ b < w.heap.size := by
 rcases hb with rfl | ⟨i, u, hi', hc, hu⟩
 ·exact h.lt
 ·obtain ⟨-, u', hc', ho, -⟩ := h.at hi'
  rw [hc] at hc'
  cases hc'
  exact ho.lt b hu
theorem aJ3 {w w' : World} {b : Nat} (h : w'.heap[b]? = w.heap[b]?) (o : Nat) : w'.cell? ⟨b, o, none⟩ = w.cell? ⟨b, o, none⟩ := by simp [World.cell?, h]
theorem P2.same {w w' : World} {lo hi g : Nat} {m : List (List Bool)} (h : P2 w lo hi g m) (hs : ∀ b, av1 w g m b → w'.heap[b]? = w.heap[b]?) : P2 w' lo hi g m ∧ ∀ b, av1 w' g m b → av1 w g m b := by
 have hg := hs g (.inl rfl)
 obtain ⟨⟨vs, k1, k2, k3, k4⟩, hnil⟩ := h
 have hvl : vs.length = m.length := by have := k1.1.1; omega
 have hrow : ∀ (i : Nat) (u : Value), vs[i]? = some u → i < m.length ∧ w.cell? ⟨g, i, none⟩ = some u := by
  intro i u hu
  have hi' := (b77.1 hu).1
  obtain ⟨g', cap, hv, -, -, -, -, -, -, hcc⟩ := k1.open (by omega)
  cases hv
  exact ⟨by omega, hcc i u hu⟩
 refine ⟨⟨⟨vs, k1.same fun g' e => by cases e; exact hg, fun i u r hu hr => (k2 i u r hu hr).same fun b e => hs b (.inr ⟨i, u, (hrow i u hu).1, (hrow i u hu).2, e⟩), k3, k4⟩, fun i hi' h0 => (aJ3 hg i).trans (hnil i hi' h0)⟩, ?_⟩
 rintro b (rfl | ⟨i, u, h1, h2, h3⟩)
 ·exact .inl rfl
 ·exact .inr ⟨i, u, h1, (aJ3 hg i).symm.trans h2, h3⟩
theorem P2.next {w w' : World} {lo hi g : Nat} {m : List (List Bool)} (h : P2 w lo hi g m) (hb : Below w.heap.size w w') : P2 w' lo hi g m ∧ ∀ b, av1 w' g m b → av1 w g m b :=
 h.same fun b hb' => hb.block b (h.blk hb').2.2
theorem P2.grown {w w' : World} {lo hi g : Nat} {m : List (List Bool)} {row : Option Nat} (h : P2 w lo hi g m) (hg : w.grownBy w' row) (hne : ∀ b, row = some b → ¬ av1 w g m b) : P2 w' lo hi g m ∧ ∀ b, av1 w' g m b → av1 w g m b :=
 h.same fun b hb' => hg.block b (h.blk hb').2.2 fun he => hne b he.symm hb'
theorem P2.setRow_blk {w : World} {lo hi g : Nat} {m : List (List Bool)} (h : P2 w lo hi g m) {y : Nat} (hy : y < m.length) (u : Value) (r : List Bool) {b : Nat} (hb : av1 (w.setCell ⟨g, y, none⟩ u) g (m.set y r) b) : av1 w g m b ∨ u.ownBlock = some b := by
 rcases hb with rfl | ⟨i, u', h1, h2, h3⟩
 ·exact .inl (.inl rfl)
 ·rw [b95] at h1
  by_cases e : i = y
  ·subst e
   obtain ⟨hf, u0, hc, -, -⟩ := h.at hy
   rw [World.cell?_setCell_same _ _ _ hc] at h2
   cases h2
   exact .inr h3
  ·rw [World.cell?_setCell_other _ _ _ _ (by intro e'; cases e'; exact e rfl)] at h2
   exact .inl (.inr ⟨i, u', h1, h2, h3⟩)
def aJ8 (w : World) (g : Nat) (m : List (List Bool)) (v : Value) : Prop := ∀ b, v.ownBlock = some b → ¬ av1 w g m b
theorem aJ8.next {w w' : World} {lo hi g : Nat} {m : List (List Bool)} {v : Value} (h : aJ8 w g m v) (hS : P2 w lo hi g m) (hb : Below w.heap.size w w') : aJ8 w' g m v := fun b hv hm => h b hv ((hS.next hb).2 b hm)
theorem aJ8.setRow {w : World} {lo hi g y : Nat} {m : List (List Bool)} {v u : Value} {r : List Bool} (h : aJ8 w g m v) (hS : P2 w lo hi g m) (hy : y < m.length) (hu : ∀ b, v.ownBlock = some b → u.ownBlock ≠ some b) : aJ8 (w.setCell ⟨g, y, none⟩ u) g (m.set y r) v := by
 intro b hv hm
 rcases hS.setRow_blk hy _ _ hm with h1 | h1
 ·exact h b hv h1
 ·exact hu b hv h1
noncomputable def b65 (w : World) (v : Value) : Nat := open Classical in if h : ∃ m, ak8 w v m then pot h.choose else 0
def ap5 (ks : List Bool) (n k : Nat) : List Int := ad1 ks k ++ b70 (n - k) 0
theorem aV5 (ks : List Bool) {n k : Nat} (h : k ≤ n) : (ap5 ks n k).length = n := by simp [ap5, O0]; omega
theorem bh2 (ks : List Bool) (n : Nat) : ap5 ks n 0 = b70 n 0 := by simp [ap5, ad1]
theorem bs8 (ks : List Bool) (n : Nat) : ap5 ks n n = ad1 ks n := by simp [ap5]
theorem bh3 (ks : List Bool) {n k : Nat} (h : k < n) : ap5 ks n (k + 1) = (ap5 ks n k).set k (L5 ks k : Int) := by
 unfold ap5
 rw [List.set_append_right _ _ (by rw [O0]; exact b76 _), O0, Nat.sub_self, aI6]
 obtain ⟨d, hd⟩ : ∃ d, n - k = d + 1 := ⟨n - k - 1, by omega⟩
 rw [hd, show n - (k + 1) = d by omega, List.replicate_succ]
 simp
theorem aN8 (v u : Value) (c : b6) (ds ks : List Bool) (hc : i5 c = true) (w : World) (h : t6 w v c) (hu : F8 w u c.list.length 1 (bools ds)) (hks : ks.length = c.list.length) (hkd : ∀ i, i < c.list.length → ds.getD i false = !ks.getD i false) :
  Calls Tryz.prog 68 #[v, u] w fun e w' => ∃ z, e = .returned z ∧ D7 w' w.heap.size w'.heap.size z { c with list := j5 c ks c.list.length } ∧ Below w.heap.size w w' := by
 have hrow := h
 obtain ⟨v1, v2, v3, rfl, h1, h2, h3⟩ := h
 obtain ⟨a3, k3, rfl, -, hm3, -, hc3⟩ := h3.ins
 obtain ⟨au, cu, rfl, -, -, -, hcu⟩ := hu.open1
 have hn4 := (l9 hc).2.2.1
 have hn1 := (l9 hc).2.1
 obtain ⟨n, hn⟩ : ∃ n, n = w.heap.size := ⟨_, rfl⟩
 obtain ⟨W, hW⟩ : ∃ W, W = (w.alloc (.cells #[v1, v2, .slice a3 c.list.length k3] 26)).alloc (.cells #[.slice none 0 0, .slice none 0 0, .slice none 0 0] 26) := ⟨_, rfl⟩
 have B0 : Below w.heap.size w W := by rw [hW]; go_grown
 have sW : W.heap.size = n + 1 + 1 := by rw [hW, hn]; simp
 have L1 : A1 W n [v1, v2, .slice a3 c.list.length k3] := by rw [hW, hn]; exact (A1.new w [v1, v2, .slice a3 c.list.length k3] _).alloc _
 have L2 : A1 W (n + 1) [.slice none 0 0, .slice none 0 0, .slice none 0 0] := by rw [hW, hn]; exact A1.new' (w.alloc _) [.slice none 0 0, .slice none 0 0, .slice none 0 0] _ (by simp)
 have hmk := an4 (P := Tryz.prog) (t := 23) Tryz.underlying23 ae8 rfl (by omega) c.list.length (by omega) hm3
 have hown := am9 W (Value.int .i64 0).cells.toList c.list.length 1 3 rfl hm3
 rw [show (Value.int .i64 0).cells.toList = [Value.int .i64 0] from rfl, G2, sW] at hown
 rw [show (Value.int .i64 0).cells.toList = [Value.int .i64 0] from rfl, G2] at hmk
 have eR : (b70 c.list.length (Value.int .i64 0)).toArray = ca2 c.list.length (Value.int .i64 0) := by simp
 rw [eR] at hmk hown
 have hown1 : A6 (W.alloc (.cells (ca2 c.list.length (Value.int .i64 0)) 3)) (n + 1 + 1) (n + 1 + 1 + 1) 3 1 (.slice (some ⟨n + 1 + 1, 0, none⟩) c.list.length c.list.length) c.list.length (ints (ap5 ks c.list.length 0)) := by
  rw [bh2, ints, List.map_replicate]; exact hown
 have x2 : (W.alloc (.cells (ca2 c.list.length (Value.int .i64 0)) 3)).cell? ⟨n, 2, none⟩ = some (.slice a3 c.list.length k3) := by simpa using (L1.alloc (.cells (ca2 c.list.length (Value.int .i64 0)) 3)).cell 2
 have x2' := L1.cell 2
 simp only [b81, b82] at x2'
 generalize ca2 c.list.length (Value.int .i64 0) = zn at *
 rw [hW, hn] at x2 x2'
 go_enter Tryz.func68, Tryz.ntmps68
 go_wp2_with fail
 rw [← hW, ← hn]
 clear x2 x2' hW hmk eR hown
 obtain ⟨W2, hW2⟩ : ∃ W2, W2 = W.alloc (.cells zn 3) := ⟨_, rfl⟩
 have bz : Below W.heap.size W W2 := by rw [hW2]; go_grown
 have s2 : W2.heap.size = n + 1 + 1 + 1 := by rw [hW2]; simp [sW]
 rw [← hW2] at hown1 ⊢
 replace L1 := L1.below bz L1.lt
 replace L2 := L2.below bz L2.lt
 have B2 := B0.trans (bz.mono B0.size)
 have HN := show Hid (n = w.heap.size) from hn
 have HI := show Hid _ from hc3
 have HU := show Hid _ from hcu
 have HKD := show Hid _ from hkd
 clear hW2 bz sW B0 hc3 hcu hkd hn
 go_loopw [6, 7, 19] (fun q _ i wr => ∃ k : Nat, k ≤ c.list.length ∧ i = .int .i64 k ∧ q = .int .i64 (L5 ks k : Int) ∧ A1 wr n [v1, v2, .slice a3 c.list.length k3] ∧ A1 wr (n + 1) [.slice none 0 0, .slice none 0 0, .slice none 0 0] ∧
   A6 wr (n + 1 + 1) (n + 1 + 1 + 1) 3 1 (.slice (some ⟨n + 1 + 1, 0, none⟩) c.list.length c.list.length) c.list.length (ints (ap5 ks c.list.length k)) ∧ Below w.heap.size w wr) (fun _ _ i _ => c.list.length - (intOf i).toNat)
 case atStart => exact ⟨0, b92 _, rfl, by rw [V0]; rfl, L1, L2, hown1, B2⟩
 case round =>
  obtain ⟨k, hk, rfl, rfl, hL1, hL2, ho, hb⟩ := hrel
  clear L1 L2 hown1 B2
  by_cases hlt : k < c.list.length
  ·obtain ⟨b, off, rfl, hbk, hy⟩ := HU.out k hlt
   have hdl : ds.length = c.list.length := by have := hu.1; simpa [bools] using this
   rw [U3 _ _ (by omega), ← (J1 hb).1 _ _ hbk] at hy
   have hde : ds[k]'(by omega) = !ks.getD k false := by rw [← HKD.out k hlt]; simp [show k < ds.length by omega]
   rw [hde] at hy
   have HP := show Hid _ from bh3 ks hlt
   have HS := show Hid _ from R5 ks k (by omega)
   obtain ⟨g, cap, hv, -, -, -, hf, u0, hcc⟩ := ho.at (j := k) (by rw [aW3, aV5 ks hk]; exact hlt)
   cases hv
   have hSet := ho.setCell (j := k) (by rw [aW3, aV5 ks hk]; exact hlt) (.int .i64 (L5 ks k : Int))
   rw [show (ints (ap5 ks c.list.length k)).set k (.int .i64 (L5 ks k : Int)) = ints ((ap5 ks c.list.length k).set k (L5 ks k : Int)) by simp [ints, List.map_set], ← HP.out] at hSet
   have hL1x := hL1.other (p := ⟨n + 1 + 1, k, none⟩) (by show n ≠ n + 1 + 1; omega) (.int .i64 (L5 ks k : Int))
   have hL2x := hL2.other (p := ⟨n + 1 + 1, k, none⟩) (by show n + 1 ≠ n + 1 + 1; omega) (.int .i64 (L5 ks k : Int))
   have hbx := hb.setCell (p := ⟨n + 1 + 1, k, none⟩) (by show w.heap.size ≤ n + 1 + 1; have := HN.out; omega) (.int .i64 (L5 ks k : Int))
   have hyx : (wr.setCell ⟨n + 1 + 1, k, none⟩ (.int .i64 (L5 ks k : Int))).cell? ⟨b, off + k, none⟩ = some (.bool !ks.getD k false) := by
    rw [World.cell?_setCell_other _ _ _ _ (by intro e; have e1 : n + 1 + 1 = b := congrArg Addr.block e; have := HN.out; omega)]
    exact hy
   have hpl := br1 ks k
   clear hde hdl hy
   cases hkb : ks.getD k false
   ·have HN1 := show Hid (L5 ks (k + 1) = L5 ks k) from by unfold Hid; rw [HS.out, hkb]; simp
    rw [hkb] at hyx
    simp only [Bool.not_false] at hyx
    clear hkb
    go_wp2_with fail
    exact ⟨⟨k + 1, by omega, by go_num, by rw [HN1.out], hL1x, hL2x, hSet, hbx⟩, by simp [intOf]; omega⟩
   ·have HN1 := show Hid (L5 ks (k + 1) = L5 ks k + 1) from by unfold Hid; rw [HS.out, hkb]; simp
    rw [hkb] at hyx
    simp only [Bool.not_true] at hyx
    clear hkb
    go_wp2_with fail
    exact ⟨⟨k + 1, by omega, by go_num, by rw [HN1.out]; go_num, hL1x, hL2x, hSet, hbx⟩, by simp [intOf]; omega⟩
  ·have hkn : k = c.list.length := by omega
   subst hkn
   rw [bs8] at ho
   have x2 := hL1.cell 2
   simp only [b81, b82] at x2
   go_wp2_with fail
   clear x2
   go_loopw [8, 9, 10, 11, 37] (fun q _ _ _ i wr => ∃ (k : Nat) (a : Option Addr) (cq : Nat), k ≤ c.list.length ∧ i = .int .i64 k ∧ q = .slice a (j5 c ks k).length cq ∧ wr.ownsRow (n + 1 + 1 + 1) 60 5 q (j5 c ks k).length (ints (A8 (j5 c ks k))) ∧ A1 wr n [v1, v2, .slice a3 c.list.length k3] ∧ A1 wr (n + 1) [.slice none 0 0, .slice none 0 0, .slice none 0 0] ∧
     A6 wr (n + 1 + 1) (n + 1 + 1 + 1) 3 1 (.slice (some ⟨n + 1 + 1, 0, none⟩) c.list.length c.list.length) c.list.length (ints (ad1 ks c.list.length)) ∧ Below w.heap.size w wr) (fun _ _ _ _ i _ => c.list.length - (intOf i).toNat)
   case atStart => exact ⟨0, none, 0, b92 _, rfl, rfl, World.ownsRow_nil _ _ _ _, hL1, hL2, ho, hb⟩
   case round =>
    clear hL1 hL2 ho hb
    obtain ⟨k, a, cq, hk, rfl, rfl, hq, hL1, hL2, ho, hb⟩ := hrel
    by_cases hlt : k < c.list.length
    ·obtain ⟨b, off, rfl, hbk, hy⟩ := HU.out k hlt
     obtain ⟨bl, ol, he3, hb3, i0, i1, i2, i3, i4⟩ := HI.out k hlt
     have hdl : ds.length = c.list.length := by have := hu.1; simpa [bools] using this
     rw [U3 _ _ (by omega), ← (J1 hb).1 _ _ hbk] at hy
     have hde : ds[k]'(by omega) = !ks.getD k false := by rw [← HKD.out k hlt]; simp [show k < ds.length by omega]
     rw [hde] at hy
     have hins := (l9 hc).2.2.2.1 k hlt
     rw [← (J1 hb).1 _ _ hb3] at i0 i1 i2 i3 i4
     have HTG := show Hid (0 ≤ j6 c.list[k] → bc4 c (j6 c.list[k])) from fun g => ⟨g, aH0 hins g⟩
     have HTR : Hid (trI ks c.list[k] = if 0 ≤ j6 c.list[k] then G0 c.list[k] (L5 ks (j6 c.list[k]).toNat : Int) else c.list[k]) := rfl
     have HPUT := show Hid (ks.getD k false = true → j5 c ks (k + 1) = j5 c ks k ++ [trI ks c.list[k]]) from fun g => by rw [Z6 g, E4 hlt]
     have HSKIP := show Hid (ks.getD k false = false → j5 c ks (k + 1) = j5 c ks k) from fun g => U5 g
     have hle := al9 c ks k
     obtain ⟨x, hx⟩ : ∃ x, x = c.list[k] := ⟨_, rfl⟩
     rw [← hx] at i0 i1 i2 i3 i4 HTG HTR HPUT
     have hki : (k : Int) < c.list.length := by omega
     have hPl : n + 1 + 1 < wr.heap.size := (ho.lt _ rfl).2.2
     have hbw : b < wr.heap.size := cb3 hbk hb.size
     have b4 : Below wr.heap.size wr (wr.alloc (.cells #[.int .i64 x.op, .int .i64 x.a, .int .i64 x.b, .int .i64 x.c, .int .i64 x.d] 60)) := by go_grown
     have hyx : (wr.alloc (.cells #[.int .i64 x.op, .int .i64 x.a, .int .i64 x.b, .int .i64 x.c, .int .i64 x.d] 60)).cell? ⟨b, off + k, none⟩ = some (.bool !ks.getD k false) := ((J1 b4).1 _ _ hbw).trans hy
     subst he3
     clear hde hdl hins hx
     have hq4 := H0 hq b4 (b76 _)
     have ho4 := ho.keep b4 (by omega)
     have hL14 := hL1.below b4 hL1.lt
     have hL24 := hL2.below b4 hL2.lt
     have hb4 := hb.trans (b4.mono hb.size)
     have LX := A1.new wr [.int .i64 x.op, .int .i64 x.a, .int .i64 x.b, .int .i64 x.c, .int .i64 x.d] 60
     cases hkb : ks.getD k false
     ·have HN1 := show Hid (j5 c ks (k + 1) = j5 c ks k) from HSKIP.out hkb
      rw [hkb] at hyx
      simp only [Bool.not_false] at hyx
      clear hkb HSKIP HPUT
      go_wp2_with fail
      refine ⟨⟨k + 1, a, cq, by omega, by go_num, by rw [HN1.out], by rw [HN1.out]; exact hq4, hL14, hL24, ho4, hb4⟩, by simp [intOf]; omega⟩
     ·have HN1 := show Hid (j5 c ks (k + 1) = j5 c ks k ++ [trI ks x]) from HPUT.out hkb
      rw [hkb] at hyx
      simp only [Bool.not_true] at hyx
      clear hkb HSKIP HPUT
      go_wp2_with fail
      clear hyx hy i0 i1 i2 i3 i4
      obtain ⟨w4, hw4⟩ : ∃ w4, w4 = wr.alloc (.cells #[.int .i64 x.op, .int .i64 x.a, .int .i64 x.b, .int .i64 x.c, .int .i64 x.d] 60) := ⟨_, rfl⟩
      rw [← hw4] at LX hq4 ho4 hL14 hL24 hb4 ⊢
      have LXs : w4.heap.size = wr.heap.size + 1 := by rw [hw4]; simp
      have hqlt : ∀ g, (Value.slice a (j5 c ks k).length cq).ownBlock = some g → g < wr.heap.size := fun g e => (hq.lt g e).2
      obtain ⟨X0, hX0⟩ : ∃ X0, X0 = wr.heap.size := ⟨_, rfl⟩
      rw [← hX0] at LX LXs hqlt hPl ⊢
      clear hw4 hq ho hL1 hL2 hb b4 hbw hX0
      refine (as9 x _).mono ?_
      rintro e w5 ⟨rfl, b5⟩
      have hX5 := b5.size
      have hq5 := H0 hq4 b5 (b76 _)
      have ho5 := ho4.keep b5 (by omega)
      have hL15 := hL14.below b5 hL14.lt
      have hL25 := hL24.below b5 hL24.lt
      have LX5 := LX.below b5 LX.lt
      have hb5 := hb4.trans (b5.mono hb4.size)
      have hX3 : X0 < w5.heap.size := by omega
      clear b5 hq4 ho4 hL14 hL24 LX hb4
      by_cases ht : 0 ≤ j6 x
      ·have hpl := HTG.out ht
       have htr := HTR.out
       rw [if_pos ht] at htr
       obtain ⟨t, htt⟩ : ∃ t : Nat, j6 x = t := ⟨(j6 x).toNat, by omega⟩
       have HT0 := show Hid (0 ≤ j6 x) from ht
       rw [htt] at htr hpl ht ⊢
       rw [cb0] at htr
       obtain ⟨hp0, hp1⟩ := hpl
       have htl : t < c.list.length := by omega
       obtain ⟨g, cap, hv, -, -, -, -, -, -, hcc⟩ := ho5.open (by omega)
       cases hv
       have hpc := hcc t _ (by rw [V6 _ _ (by rw [O0]; exact htl)])
       have hpe : (ad1 ks c.list.length)[t]'(by rw [O0]; exact htl) = (L5 ks t : Int) := by
        have := aV0 ks c.list.length t htl
        rw [b72 (by rw [O0]; exact htl)] at this
        exact Option.some.inj this
       rw [hpe] at hpc
       obtain ⟨q, hqe⟩ : ∃ q, q = G0 x (L5 ks t : Int) := ⟨_, rfl⟩
       have HQE := show Hid (trI ks x = q) from by unfold Hid; rw [htr, hqe]
       have HC3 : Hid (∀ X, Calls Tryz.prog 53 #[x.v, .int .i64 (L5 ks t : Int)] (w5.ext X) fun e w'' => e = .returned (.agg #[.int .i64 q.op, .int .i64 q.a, .int .i64 q.b, .int .i64 q.c, .int .i64 q.d]) ∧ ∃ Y, w'' = w5.ext Y) := fun X => Calls.ext_of' ((bF5 x _ _ HT0.out).mono fun e w' h => by rw [← hqe] at h; exact h)
       have i0 := LX5.cell 0
       have i1 := LX5.cell 1
       have i2 := LX5.cell 2
       have i3 := LX5.cell 3
       have i4 := LX5.cell 4
       simp only [b81, b82] at i0 i1 i2 i3 i4
       have j0 := fun X => t4 i0 X
       have j1 := fun X => t4 i1 X
       have j2 := fun X => t4 i2 X
       have j3 := fun X => t4 i3 X
       have j4 := fun X => t4 i4 X
       have jp := fun X => t4 hpc X
       have ff0 := fun X => Q7 hX3 (LX5.free 0) X
       have ff1 := fun X => Q7 hX3 (LX5.free 1) X
       have ff2 := fun X => Q7 hX3 (LX5.free 2) X
       have ff3 := fun X => Q7 hX3 (LX5.free 3) X
       have ff4 := fun X => Q7 hX3 (LX5.free 4) X
       clear i0 i1 i2 i3 i4 hpc hcc hpe hqe htr htt
       go_wp2_with fail
       refine ad5 6 _ rfl (by kernel_rfl) (by kernel_rfl) ?_
       simp only [List.set_cons_succ, List.set_cons_zero, ab5]
       repeat (any_goals (first | go_big_quiet_step ((go_at_call 53; exact HC3.out _)) | quiet_step ((go_at_call 53; exact HC3.out _))))
       refine wpQuiet_nil ?_
       rintro _ ⟨X, rfl⟩
       have bX := x8 w5 X
       have LXX := LX5.below bX LX5.lt
       have LX6 : A1 ((((((w5.ext X).setCell ⟨X0, 0, none⟩ (.int .i64 q.op)).setCell ⟨X0, 1, none⟩ (.int .i64 q.a)).setCell ⟨X0, 2, none⟩ (.int .i64 q.b)).setCell ⟨X0, 3, none⟩ (.int .i64 q.c)).setCell ⟨X0, 4, none⟩ (.int .i64 q.d)) X0 [.int .i64 q.op, .int .i64 q.a, .int .i64 q.b, .int .i64 q.c, .int .i64 q.d] := ((((LXX.set (j := 0) (.int .i64 q.op)).set (j := 1) (.int .i64 q.a)).set (j := 2) (.int .i64 q.b)).set (j := 3) (.int .i64 q.c)).set (j := 4) (.int .i64 q.d)
       have hO : Out X0 (X0 + 1) (w5.ext X) ((((((w5.ext X).setCell ⟨X0, 0, none⟩ (.int .i64 q.op)).setCell ⟨X0, 1, none⟩ (.int .i64 q.a)).setCell ⟨X0, 2, none⟩ (.int .i64 q.b)).setCell ⟨X0, 3, none⟩ (.int .i64 q.c)).setCell ⟨X0, 4, none⟩ (.int .i64 q.d)) := Out.setFrom (p := 0) [.int .i64 q.op, .int .i64 q.a, .int .i64 q.b, .int .i64 q.c, .int .i64 q.d] (Out.refl X0 (X0 + 1) (w5.ext X)) (b76 X0) (cb1 X0)
       have hqX := H0 hq5 bX (b76 _)
       have hq6 : ((((((w5.ext X).setCell ⟨X0, 0, none⟩ (.int .i64 q.op)).setCell ⟨X0, 1, none⟩ (.int .i64 q.a)).setCell ⟨X0, 2, none⟩ (.int .i64 q.b)).setCell ⟨X0, 3, none⟩ (.int .i64 q.c)).setCell ⟨X0, 4, none⟩ (.int .i64 q.d)).ownsRow (n + 1 + 1 + 1) 60 5 (.slice a (j5 c ks k).length cq) (j5 c ks k).length (ints (A8 (j5 c ks k))) := by
        have h1 : A6 (w5.ext X) (n + 1 + 1 + 1) X0 60 5 (.slice a (j5 c ks k).length cq) (j5 c ks k).length (ints (A8 (j5 c ks k))) := ⟨hqX, hqlt⟩
        exact (h1.out hO (.inl (b76 _))).1
       have ho6 := (ho5.keep bX (by omega)).out hO (.inl (by omega))
       have hL16 := (hL15.below bX hL15.lt).out hO (.inl (by omega))
       have hL26 := (hL25.below bX hL25.lt).out hO (.inl (by omega))
       have hz5 := bX.size
       have hb6 : Below w.heap.size w ((((((w5.ext X).setCell ⟨X0, 0, none⟩ (.int .i64 q.op)).setCell ⟨X0, 1, none⟩ (.int .i64 q.a)).setCell ⟨X0, 2, none⟩ (.int .i64 q.b)).setCell ⟨X0, 3, none⟩ (.int .i64 q.c)).setCell ⟨X0, 4, none⟩ (.int .i64 q.d)) := (hb5.trans (bX.mono hb5.size)).trans (hO.below (by have := HN.out; omega) (by have := hb5.size; omega))
       clear jp LXX hqX
       have i0 := LX6.cell 0
       have i1 := LX6.cell 1
       have i2 := LX6.cell 2
       have i3 := LX6.cell 3
       have i4 := LX6.cell 4
       simp only [b81, b82] at i0 i1 i2 i3 i4
       have hrow6 := (v8 ((((((w5.ext X).setCell ⟨X0, 0, none⟩ (.int .i64 q.op)).setCell ⟨X0, 1, none⟩ (.int .i64 q.a)).setCell ⟨X0, 2, none⟩ (.int .i64 q.b)).setCell ⟨X0, 3, none⟩ (.int .i64 q.c)).setCell ⟨X0, 4, none⟩ (.int .i64 q.d)) (g := (w5.ext X).heap.size) #[.int .i64 q.op, .int .i64 q.a, .int .i64 q.b, .int .i64 q.c, .int .i64 q.d] 1 5 60 (by simp) rfl (by omega)).row
       have hqa := hq6.alloc (.cells #[.int .i64 q.op, .int .i64 q.a, .int .i64 q.b, .int .i64 q.c, .int .i64 q.d] 60)
       have hsz6 : (((((((w5.ext X).setCell ⟨X0, 0, none⟩ (.int .i64 q.op)).setCell ⟨X0, 1, none⟩ (.int .i64 q.a)).setCell ⟨X0, 2, none⟩ (.int .i64 q.b)).setCell ⟨X0, 3, none⟩ (.int .i64 q.c)).setCell ⟨X0, 4, none⟩ (.int .i64 q.d)).alloc (.cells #[.int .i64 q.op, .int .i64 q.a, .int .i64 q.b, .int .i64 q.c, .int .i64 q.d] 60)).heap.size = (w5.ext X).heap.size + 1 := by simp
       have hbase : n + 1 + 1 + 1 ≤ (w5.ext X).heap.size := by omega
       go_wp2_with (at_builtin; refine A9 rfl _ _ rfl Tryz.underlying24 bd7 rfl (by omega) rfl hqa rfl hrow6 (V5 (l := (q).l)) (by omega) (by omega) (by rw [hsz6]; omega) ?_; rintro a4 q4 w7 o4 b7 - -)
       have ba : Below (w5.ext X).heap.size ((((((w5.ext X).setCell ⟨X0, 0, none⟩ (.int .i64 q.op)).setCell ⟨X0, 1, none⟩ (.int .i64 q.a)).setCell ⟨X0, 2, none⟩ (.int .i64 q.b)).setCell ⟨X0, 3, none⟩ (.int .i64 q.c)).setCell ⟨X0, 4, none⟩ (.int .i64 q.d)) (((((((w5.ext X).setCell ⟨X0, 0, none⟩ (.int .i64 q.op)).setCell ⟨X0, 1, none⟩ (.int .i64 q.a)).setCell ⟨X0, 2, none⟩ (.int .i64 q.b)).setCell ⟨X0, 3, none⟩ (.int .i64 q.c)).setCell ⟨X0, 4, none⟩ (.int .i64 q.d)).alloc (.cells #[.int .i64 q.op, .int .i64 q.a, .int .i64 q.b, .int .i64 q.c, .int .i64 q.d] 60)) := (Below.refl _ _).alloc (by simp) _
       have b8 : Below (n + 1 + 1 + 1) ((((((w5.ext X).setCell ⟨X0, 0, none⟩ (.int .i64 q.op)).setCell ⟨X0, 1, none⟩ (.int .i64 q.a)).setCell ⟨X0, 2, none⟩ (.int .i64 q.b)).setCell ⟨X0, 3, none⟩ (.int .i64 q.c)).setCell ⟨X0, 4, none⟩ (.int .i64 q.d)) w7 := (ba.mono (by omega)).trans b7
       have hll : (j5 c ks (k + 1)).length = (j5 c ks k).length + 1 := by rw [HN1.out]; simp
       have hcells : ints (A8 (j5 c ks (k + 1))) = ints (A8 (j5 c ks k)) ++ (#[.int .i64 q.op, .int .i64 q.a, .int .i64 q.b, .int .i64 q.c, .int .i64 q.d] : Array Value).toList := by
        rw [HN1.out, HQE.out, Y1]; simp [ints, A8]
       refine ⟨⟨k + 1, a4, q4, by omega, by go_num, by rw [hll], by rw [hll, hcells]; exact o4, hL16.below b8 (by omega), hL26.below b8 (by omega), ho6.keep b8 (b76 _), hb6.trans (b8.mono (by have := HN.out; omega))⟩, by simp [intOf]; omega⟩
      ·have htr := HTR.out
       rw [if_neg ht] at htr
       have HQE := show Hid (trI ks x = x) from htr
       have ht' : j6 x < 0 := by omega
       clear htr ht HTR HTG
       have LX6 := LX5
       have hq6 := hq5
       have ho6 := ho5
       have hL16 := hL15
       have hL26 := hL25
       have hb6 := hb5
       have i0 := LX6.cell 0
       have i1 := LX6.cell 1
       have i2 := LX6.cell 2
       have i3 := LX6.cell 3
       have i4 := LX6.cell 4
       simp only [b81, b82] at i0 i1 i2 i3 i4
       have hrow6 := (v8 w5 (g := w5.heap.size) #[.int .i64 x.op, .int .i64 x.a, .int .i64 x.b, .int .i64 x.c, .int .i64 x.d] 1 5 60 (by simp) rfl (by omega)).row
       have hqa := hq6.alloc (.cells #[.int .i64 x.op, .int .i64 x.a, .int .i64 x.b, .int .i64 x.c, .int .i64 x.d] 60)
       have hsz6 : (w5.alloc (.cells #[.int .i64 x.op, .int .i64 x.a, .int .i64 x.b, .int .i64 x.c, .int .i64 x.d] 60)).heap.size = w5.heap.size + 1 := by simp
       have hbase : n + 1 + 1 + 1 ≤ w5.heap.size := by omega
       go_wp2_with (at_builtin; refine A9 rfl _ _ rfl Tryz.underlying24 bd7 rfl (by omega) rfl hqa rfl hrow6 (V5 (l := (x).l)) (by omega) (by omega) (by rw [hsz6]; omega) ?_; rintro a4 q4 w7 o4 b7 - -)
       have ba : Below w5.heap.size w5 (w5.alloc (.cells #[.int .i64 x.op, .int .i64 x.a, .int .i64 x.b, .int .i64 x.c, .int .i64 x.d] 60)) := (Below.refl _ _).alloc (by simp) _
       have b8 : Below (n + 1 + 1 + 1) w5 w7 := (ba.mono (by omega)).trans b7
       have hll : (j5 c ks (k + 1)).length = (j5 c ks k).length + 1 := by rw [HN1.out]; simp
       have hcells : ints (A8 (j5 c ks (k + 1))) = ints (A8 (j5 c ks k)) ++ (#[.int .i64 x.op, .int .i64 x.a, .int .i64 x.b, .int .i64 x.c, .int .i64 x.d] : Array Value).toList := by
        rw [HN1.out, HQE.out, Y1]; simp [ints, A8]
       refine ⟨⟨k + 1, a4, q4, by omega, by go_num, by rw [hll], by rw [hll, hcells]; exact o4, hL16.below b8 (by omega), hL26.below b8 (by omega), ho6.keep b8 (b76 _), hb6.trans (b8.mono (by have := HN.out; omega))⟩, by simp [intOf]; omega⟩
    ·have hkn : k = c.list.length := by omega
     subst hkn
     have x0 := hL1.cell 0
     have x1 := hL1.cell 1
     have x2 := hL1.cell 2
     have z0 := hL2.cell 0
     have z1 := hL2.cell 1
     have z2 := hL2.cell 2
     simp only [b81, b82] at x0 x1 x2 z0 z1 z2
     go_wp2_with fail
     have hqo : A6 wr (n + 1 + 1 + 1) wr.heap.size 60 5 (.slice a (j5 c ks c.list.length).length cq) (j5 c ks c.list.length).length (ints (A8 (j5 c ks c.list.length))) := A6.mk' hq
     have hPl : n + 1 + 1 < wr.heap.size := (ho.lt _ rfl).2.2
     refine (bi0 _ c _ _ _ (j5 c ks c.list.length) _ _ _ (hrow.below hb) (at1 hc) hqo (by omega) (b76 _)).mono ?_
     rintro e w5 ⟨z, rfl, oz, b5⟩
     obtain ⟨y1, y2, y3, rfl, -⟩ := id oz
     obtain ⟨p1, q1, p2, q2, p3, q3, e1, e2, e3⟩ := Code.rowOf oz
     simp only at e1 e2 e3
     subst e1 e2 e3
     have hb5 := hb.trans (b5.mono hb.size)
     have hL25 := hL2.below b5 hL2.lt
     clear x0 x1 x2 z0 z1 z2
     have z0 := hL25.cell 0
     have z1 := hL25.cell 1
     have z2 := hL25.cell 2
     simp only [b81, b82] at z0 z1 z2
     have f0 := hL25.free 0
     have f1 := hL25.free 1
     have f2 := hL25.free 2
     have s5 := b5.size
     go_wp2_with fail
     have hn := HN.out
     have L4 := ((hL25.set (j := 0) (.slice p1 c.vars.length q1)).set (j := 1) (.slice p2 c.arrays.length q2)).set (j := 2) (.slice p3 (j5 c ks c.list.length).length q3)
     have hO : Out (n + 1) (n + 1 + 1) w5 (((w5.setCell ⟨n + 1, 0, none⟩ (.slice p1 c.vars.length q1)).setCell ⟨n + 1, 1, none⟩ (.slice p2 c.arrays.length q2)).setCell ⟨n + 1, 2, none⟩ (.slice p3 (j5 c ks c.list.length).length q3)) :=
      (((Out.refl (n + 1) (n + 1 + 1) w5).setCell (p := ⟨n + 1, 0, none⟩) (b76 _) (cb1 _) _).setCell (p := ⟨n + 1, 1, none⟩) (b76 _) (cb1 _) _).setCell (p := ⟨n + 1, 2, none⟩) (b76 _) (cb1 _) _
     have oF := oz.out hO (.inr (by omega))
     have zF : (((w5.setCell ⟨n + 1, 0, none⟩ (.slice p1 c.vars.length q1)).setCell ⟨n + 1, 1, none⟩ (.slice p2 c.arrays.length q2)).setCell ⟨n + 1, 2, none⟩ (.slice p3 (j5 c ks c.list.length).length q3)).heap.size = w5.heap.size := by simp
     have BF := ((hb5.setCell (p := ⟨n + 1, 0, none⟩) (by show w.heap.size ≤ n + 1; omega) (.slice p1 c.vars.length q1)).setCell (p := ⟨n + 1, 1, none⟩) (by show w.heap.size ≤ n + 1; omega) (.slice p2 c.arrays.length q2)).setCell (p := ⟨n + 1, 2, none⟩) (by show w.heap.size ≤ n + 1; omega) (.slice p3 (j5 c ks c.list.length).length q3)
     have r0 := L4.cell 0
     have r1 := L4.cell 1
     have r2 := L4.cell 2
     simp only [b81, b82, List.set_cons_zero, List.set_cons_succ] at r0 r1 r2
     generalize ((w5.setCell ⟨n + 1, 0, none⟩ (.slice p1 c.vars.length q1)).setCell ⟨n + 1, 1, none⟩ (.slice p2 c.arrays.length q2)).setCell ⟨n + 1, 2, none⟩ (.slice p3 (j5 c ks c.list.length).length q3) = WF at *
     exact bodyPost_ret (v := .agg #[.slice p1 c.vars.length q1, .slice p2 c.arrays.length q2, .slice p3 (j5 c ks c.list.length).length q3]) (by simp [results, Tryz.results68, go_sem, r0, r1, r2]) rfl ⟨_, rfl, oF.wide (by omega) (by omega), BF⟩
noncomputable def D6 (c : b6) (k : Nat) : List Bool := (b88 c.list.length).map fun i => if i < k then !kpB c i else (B9 c).getD i false
theorem af1 (c : b6) (k : Nat) : (D6 c k).length = c.list.length := by simp [D6]
theorem aO6 (c : b6) : D6 c 0 = B9 c := by
 apply List.ext_getElem (by rw [af1, az0])
 intro i h1 h2
 simp [D6, h2]
theorem aO7 (c : b6) (k : Nat) (_h : k < c.list.length) : D6 c (k + 1) = (D6 c k).set k (!kpB c k) := by
 apply List.ext_getElem (by simp [af1])
 intro i h1 h2
 rw [List.getElem_set]
 simp only [D6, List.getElem_map, List.getElem_range]
 by_cases e : k = i
 ·subst e
  rw [if_pos rfl, if_pos (cb1 _)]
 ·rw [if_neg e]
  by_cases h3 : i < k
  ·rw [if_pos (by omega), if_pos h3]
  ·rw [if_neg (by omega), if_neg h3]
theorem a67 (c : b6) (k : Nat) (h : k < c.list.length) : (D6 c k)[k]? = some ((B9 c).getD k false) := by
 simp [D6, h]
theorem aY2 (c : b6) (i : Nat) (h : i < c.list.length) : (D6 c c.list.length).getD i false = !(A0 c).getD i false := by
 rw [ag7 c i h]
 simp [D6, h]
theorem aN9 (v : Value) (c : b6) (hc : i5 c = true) (w : World) (h : t6 w v c) :
  Calls Tryz.prog 40 #[v] w fun e w' => ∃ z, e = .returned z ∧ D7 w' w.heap.size w'.heap.size z (n5 c) ∧ Below w.heap.size w w' := by
 have hrow := h
 obtain ⟨v1, v2, v3, rfl, h1, h2, h3⟩ := h
 obtain ⟨a3, k3, rfl, -, hm3, -, hc3⟩ := h3.ins
 have hn4 := (l9 hc).2.2.1
 obtain ⟨n, hn⟩ : ∃ n, n = w.heap.size := ⟨_, rfl⟩
 obtain ⟨W, hW⟩ : ∃ W, W = (w.alloc (.cells #[v1, v2, .slice a3 c.list.length k3] 26)).alloc (.cells #[.slice none 0 0, .slice none 0 0, .slice none 0 0] 26) := ⟨_, rfl⟩
 have B0 : Below w.heap.size w W := by rw [hW]; go_grown
 have sW : W.heap.size = n + 1 + 1 := by rw [hW, hn]; simp
 have L1 : A1 W n [v1, v2, .slice a3 c.list.length k3] := by rw [hW, hn]; exact (A1.new w [v1, v2, .slice a3 c.list.length k3] _).alloc _
 have L2 : A1 W (n + 1) [.slice none 0 0, .slice none 0 0, .slice none 0 0] := by rw [hW, hn]; exact A1.new' (w.alloc _) [.slice none 0 0, .slice none 0 0, .slice none 0 0] _ (by simp)
 have x0 := L1.cell 0
 have x1 := L1.cell 1
 have x2 := L1.cell 2
 simp only [b81, b82] at x0 x1 x2
 rw [hW, hn] at x0 x1 x2
 go_enter Tryz.func40, Tryz.ntmps40
 go_wp2_with fail
 rw [← hW, ← hn]
 clear hW x0 x1 x2
 refine (ae9 _ c hc _ (hrow.below B0)).mono ?_
 rintro e w1 ⟨ud, rfl, od, b1⟩
 obtain ⟨ad, kd, rfl⟩ := od.form
 replace L1 := L1.below b1 L1.lt
 replace L2 := L2.below b1 L2.lt
 have B1 := B0.trans (b1.mono B0.size)
 have s1 := b1.size
 have od' := od.wide (show n + 1 + 1 ≤ W.heap.size by omega) (b76 _)
 have HN := show Hid (n = w.heap.size) from hn
 have HI := show Hid _ from hc3
 have x2 := L1.cell 2
 simp only [b81, b82] at x2
 clear hc3 hn od
 go_wp2_with fail
 clear x2
 rw [← aO6] at od'
 obtain ⟨H, hH⟩ : ∃ H, H = w1.heap.size := ⟨_, rfl⟩
 rw [← hH] at od'
 have hHs : H ≤ w1.heap.size := by omega
 clear hH
 go_loopw [4, 5, 11] (fun _ _ i wr => ∃ k : Nat, k ≤ c.list.length ∧ i = .int .i64 k ∧ A1 wr n [v1, v2, .slice a3 c.list.length k3] ∧ A1 wr (n + 1) [.slice none 0 0, .slice none 0 0, .slice none 0 0] ∧ A6 wr (n + 1 + 1) H 4 1 (.slice ad c.list.length kd) c.list.length (bools (D6 c k)) ∧ Below w.heap.size w wr ∧ H ≤ wr.heap.size) (fun _ _ i _ => c.list.length - (intOf i).toNat)
 case atStart => exact ⟨0, b92 _, rfl, L1, L2, od', B1, hHs⟩
 case round =>
  obtain ⟨k, hk, rfl, hL1, hL2, ho, hb, hHr⟩ := hrel
  clear L1 L2 od' B1
  by_cases hlt : k < c.list.length
  ·obtain ⟨b, off, he3, hb3, i0, i1, i2, i3, i4⟩ := HI.out k hlt
   rw [← (J1 hb).1 _ _ hb3] at i0 i1 i2 i3 i4
   have HK : Hid (kpB c k = ((B9 c).getD k false && !(decide (c.list[k].op = 8) && decide (c.list[k].a = (k : Int) + 1)))) := by unfold Hid kpB aB3; rw [E4 hlt]
   have HS := show Hid _ from aO7 c k hlt
   obtain ⟨x, hx⟩ : ∃ x, x = c.list[k] := ⟨_, rfl⟩
   rw [← hx] at i0 i1 i2 i3 i4 HK
   clear hx
   subst he3
   have hki : (k : Int) < c.list.length := by omega
   obtain ⟨g, cap, hv, hg1, hg2, hg3, -, -, hgf, hgc⟩ := ho.open (by omega)
   cases hv
   have hdl : k < (D6 c k).length := by rw [af1]; exact hlt
   have yk := hgc k _ (U3 _ k hdl)
   have hde : (D6 c k)[k] = (B9 c).getD k false := by
    have := a67 c k hlt
    rw [b72 hdl] at this
    exact Option.some.inj this
   rw [hde] at yk
   have b4 : Below wr.heap.size wr (wr.alloc (.cells #[.int .i64 x.op, .int .i64 x.a, .int .i64 x.b, .int .i64 x.c, .int .i64 x.d] 60)) := by go_grown
   have yw := ((J1 b4).1 _ k hg3).trans yk
   have fw := ((J1 b4).2 _ k hg3).trans (hgf k)
   have hfin : ∀ z : Bool, z = !kpB c k → A1 ((wr.setCell ⟨g, k, none⟩ (.bool z)).alloc (.cells #[.int .i64 x.op, .int .i64 x.a, .int .i64 x.b, .int .i64 x.c, .int .i64 x.d] 60)) n [v1, v2, .slice (some ⟨b, off, none⟩) c.list.length k3] ∧ A1 ((wr.setCell ⟨g, k, none⟩ (.bool z)).alloc (.cells #[.int .i64 x.op, .int .i64 x.a, .int .i64 x.b, .int .i64 x.c, .int .i64 x.d] 60)) (n + 1) [.slice none 0 0, .slice none 0 0, .slice none 0 0] ∧
     A6 ((wr.setCell ⟨g, k, none⟩ (.bool z)).alloc (.cells #[.int .i64 x.op, .int .i64 x.a, .int .i64 x.b, .int .i64 x.c, .int .i64 x.d] 60)) (n + 1 + 1) H 4 1 (.slice (some ⟨g, 0, none⟩) c.list.length kd) c.list.length (bools (D6 c (k + 1))) ∧ Below w.heap.size w ((wr.setCell ⟨g, k, none⟩ (.bool z)).alloc (.cells #[.int .i64 x.op, .int .i64 x.a, .int .i64 x.b, .int .i64 x.c, .int .i64 x.d] 60)) ∧ H ≤ ((wr.setCell ⟨g, k, none⟩ (.bool z)).alloc (.cells #[.int .i64 x.op, .int .i64 x.a, .int .i64 x.b, .int .i64 x.c, .int .i64 x.d] 60)).heap.size := by
    intro z hz
    have h1 := ho.setCell (j := k) (by simpa [bools] using hdl) (.bool z)
    rw [show (bools (D6 c k)).set k (.bool z) = bools ((D6 c k).set k z) by simp [bools, List.map_set], hz, ← HS.out, ← hz] at h1
    have bb : Below (wr.setCell ⟨g, k, none⟩ (.bool z)).heap.size (wr.setCell ⟨g, k, none⟩ (.bool z)) ((wr.setCell ⟨g, k, none⟩ (.bool z)).alloc (.cells #[.int .i64 x.op, .int .i64 x.a, .int .i64 x.b, .int .i64 x.c, .int .i64 x.d] 60)) := by go_grown
    refine ⟨(hL1.other (p := ⟨g, k, none⟩) (by show n ≠ g; omega) _).alloc _, (hL2.other (p := ⟨g, k, none⟩) (by show n + 1 ≠ g; omega) _).alloc _, h1.keep bb (by simpa using hHr), ?_, by simp; omega⟩
    exact (hb.setCell (p := ⟨g, k, none⟩) (by show w.heap.size ≤ g; have := HN.out; omega) _).alloc (by have := hb.size; simpa using this) _
   have HFIN := show Hid _ from hfin
   clear hfin hde hdl yk hgc hgf ho hL1 hL2
   cases hr : (B9 c).getD k false
   ·have HV := show Hid (true = !kpB c k) from by unfold Hid; rw [HK.out, hr]; rfl
    rw [hr] at yw
    clear hr
    go_wp2_with fail
    obtain ⟨e1, e2, e3, e4, e5⟩ := HFIN.out _ HV.out
    exact ⟨⟨k + 1, by omega, by go_num, e1, e2, e3, e4, e5⟩, by simp [intOf]; omega⟩
   ·rw [hr] at yw
    by_cases h8 : x.op = 8
    ·have q8 : (x.op == 8) = true := by simp [h8]
     by_cases ha : x.a = (k : Int) + 1
     ·have qa : (x.a == (k : Int) + 1) = true := by simp [ha]
      have HV := show Hid (true = !kpB c k) from by unfold Hid; rw [HK.out, hr]; simp [h8, ha]
      clear hr h8 ha
      go_wp2_with fail
      obtain ⟨e1, e2, e3, e4, e5⟩ := HFIN.out _ HV.out
      exact ⟨⟨k + 1, by omega, by go_num, e1, e2, e3, e4, e5⟩, by simp [intOf]; omega⟩
     ·have qa : (x.a == (k : Int) + 1) = false := by simp [ha]
      have HV := show Hid (false = !kpB c k) from by unfold Hid; rw [HK.out, hr]; simp [ha]
      clear hr h8 ha
      go_wp2_with fail
      obtain ⟨e1, e2, e3, e4, e5⟩ := HFIN.out _ HV.out
      exact ⟨⟨k + 1, by omega, by go_num, e1, e2, e3, e4, e5⟩, by simp [intOf]; omega⟩
    ·have q8 : (x.op == 8) = false := by simp [h8]
     have HV := show Hid (false = !kpB c k) from by unfold Hid; rw [HK.out, hr]; simp [h8]
     clear hr h8
     go_wp2_with fail
     obtain ⟨e1, e2, e3, e4, e5⟩ := HFIN.out _ HV.out
     exact ⟨⟨k + 1, by omega, by go_num, e1, e2, e3, e4, e5⟩, by simp [intOf]; omega⟩
  ·have hkn : k = c.list.length := by omega
   subst hkn
   have x0 := hL1.cell 0
   have x1 := hL1.cell 1
   have x2 := hL1.cell 2
   simp only [b81, b82] at x0 x1 x2
   go_wp2_with fail
   refine (aN8 _ _ c (D6 c c.list.length) (A0 c) hc _ (hrow.below hb) ho.row (O2 c) (aY2 c)).mono ?_
   rintro e w5 ⟨z, rfl, oz, b5⟩
   obtain ⟨y1, y2, y3, rfl, -⟩ := id oz
   obtain ⟨p1, q1, p2, q2, p3, q3, e1, e2, e3⟩ := Code.rowOf oz
   simp only at e1 e2 e3
   subst e1 e2 e3
   have hb5 := hb.trans (b5.mono hb.size)
   have hL25 := hL2.below b5 hL2.lt
   have hz2 := hL2.lt
   clear x0 x1 x2
   have z0 := hL25.cell 0
   have z1 := hL25.cell 1
   have z2 := hL25.cell 2
   simp only [b81, b82] at z0 z1 z2
   have f0 := hL25.free 0
   have f1 := hL25.free 1
   have f2 := hL25.free 2
   have s5 := b5.size
   go_wp2_with fail
   have hn := HN.out
   obtain ⟨l, hl⟩ : ∃ l, l = j5 c (A0 c) c.list.length := ⟨_, rfl⟩
   rw [← hl] at oz ⊢
   have L4 := ((hL25.set (j := 0) (.slice p1 c.vars.length q1)).set (j := 1) (.slice p2 c.arrays.length q2)).set (j := 2) (.slice p3 l.length q3)
   have hO : Out (n + 1) (n + 1 + 1) w5 (((w5.setCell ⟨n + 1, 0, none⟩ (.slice p1 c.vars.length q1)).setCell ⟨n + 1, 1, none⟩ (.slice p2 c.arrays.length q2)).setCell ⟨n + 1, 2, none⟩ (.slice p3 l.length q3)) :=
    (((Out.refl (n + 1) (n + 1 + 1) w5).setCell (p := ⟨n + 1, 0, none⟩) (b76 _) (cb1 _) _).setCell (p := ⟨n + 1, 1, none⟩) (b76 _) (cb1 _) _).setCell (p := ⟨n + 1, 2, none⟩) (b76 _) (cb1 _) _
   have oF := oz.out hO (.inr (by omega))
   have zF : (((w5.setCell ⟨n + 1, 0, none⟩ (.slice p1 c.vars.length q1)).setCell ⟨n + 1, 1, none⟩ (.slice p2 c.arrays.length q2)).setCell ⟨n + 1, 2, none⟩ (.slice p3 l.length q3)).heap.size = w5.heap.size := by simp
   have BF := ((hb5.setCell (p := ⟨n + 1, 0, none⟩) (by show w.heap.size ≤ n + 1; omega) (.slice p1 c.vars.length q1)).setCell (p := ⟨n + 1, 1, none⟩) (by show w.heap.size ≤ n + 1; omega) (.slice p2 c.arrays.length q2)).setCell (p := ⟨n + 1, 2, none⟩) (by show w.heap.size ≤ n + 1; omega) (.slice p3 l.length q3)
   have r0 := L4.cell 0
   have r1 := L4.cell 1
   have r2 := L4.cell 2
   simp only [b81, b82, List.set_cons_zero, List.set_cons_succ] at r0 r1 r2
   generalize ((w5.setCell ⟨n + 1, 0, none⟩ (.slice p1 c.vars.length q1)).setCell ⟨n + 1, 1, none⟩ (.slice p2 c.arrays.length q2)).setCell ⟨n + 1, 2, none⟩ (.slice p3 l.length q3) = WF at *
   have hTF : Hid (n5 c = { c with list := l }) := by unfold Hid n5; rw [hl]
   exact bodyPost_ret (v := .agg #[.slice p1 c.vars.length q1, .slice p2 c.arrays.length q2, .slice p3 l.length q3]) (by simp [results, Tryz.results40, go_sem, r0, r1, r2]) rfl ⟨_, rfl, by rw [hTF.out]; exact oF.wide (by omega) (by omega), BF⟩
def aa5 (w : World) (φ : Nat → Prop) (v : Value) (c : b6) : Prop :=
 ∃ v1 v2 v3, v = .agg #[v1, v2, v3] ∧ m6 w φ v1 c.vars.length 1 (ints c.vars) ∧ m6 w φ v2 c.arrays.length 1 (ints c.arrays) ∧ m6 w φ v3 c.list.length 5 (ints (A8 c.list))
theorem aa5.nice (v : Value) (c : b6) : W7 fun w φ => aa5 w φ v c := by
 rintro w w' φ φ' ha ⟨v1, v2, v3, rfl, h1, h2, h3⟩
 exact ⟨v1, v2, v3, rfl, m6.nice _ _ _ _ _ _ _ _ ha h1, m6.nice _ _ _ _ _ _ _ _ ha h2, m6.nice _ _ _ _ _ _ _ _ ha h3⟩
theorem aa5.row {w : World} {φ : Nat → Prop} {v : Value} {c : b6} (h : aa5 w φ v c) : t6 w v c := by
 obtain ⟨v1, v2, v3, rfl, h1, h2, h3⟩ := h
 exact ⟨v1, v2, v3, rfl, h1.row, h2.row, h3.row⟩
theorem aT1 (v : Value) (c : b6) (hc : i5 c = true) (w : World) (h : t6 w v c) :
  Calls Tryz.prog 41 #[v] w fun e w' => ∃ z, e = .returned z ∧ aa5 w' (fun b => w.heap.size ≤ b) z (n5 c) ∧ Below w.heap.size w w' := by
 have hrow := h
 obtain ⟨v1, v2, v3, rfl, h1, h2, h3⟩ := h
 obtain ⟨a3, k3, rfl, -, hm3, -, hc3⟩ := h3.ins
 have hn4 := (l9 hc).2.2.1
 obtain ⟨φ, hφ⟩ : ∃ φ : Nat → Prop, φ = fun b => w.heap.size ≤ b := ⟨_, rfl⟩
 obtain ⟨W, hW, M⟩ : ∃ W, W = (w.alloc (.cells #[v1, v2, .slice a3 c.list.length k3] 26)).alloc (.cells #[.slice none 0 0, .slice none 0 0, .slice none 0 0] 26) ∧ C9 φ (fun _ => True) w W [.box w.heap.size [v1, v2, .slice a3 c.list.length k3], .box (w.heap.size + 1) [.slice none 0 0, .slice none 0 0, .slice none 0 0]] :=
  ⟨_, rfl, ((C9.start (by rw [hφ]; exact fun _ h => h)).box _ _).box' _ _ (by simp)⟩
 have HF := show Hid _ from hφ
 clear hφ
 have x0 := M.c 0 0 rfl rfl
 have x1 := M.c 0 1 rfl rfl
 have x2 := M.c 0 2 rfl rfl
 rw [hW] at x0 x1 x2
 go_enter Tryz.func41, Tryz.ntmps41
 go_wp2_with fail
 rw [← hW]
 clear hW x0 x1 x2
 refine (aL3 _ c hc _ (hrow.below (M.below fun _ _ => trivial))).mono ?_
 rintro e w1 ⟨ud, rfl, od, b1⟩
 obtain ⟨ad, kd, rfl⟩ := od.form
 replace M := M.callR b1 od.1
 have HI := show Hid _ from hc3
 clear hc3 od b1
 go_wp2_with fail
 rw [← aN4] at M
 go_loopw [4] (fun i wr => ∃ k : Nat, k ≤ c.list.length ∧ i = .int .i64 k ∧ C9 φ (fun _ => True) w wr [.box w.heap.size [v1, v2, .slice a3 c.list.length k3], .box (w.heap.size + 1) [.slice none 0 0, .slice none 0 0, .slice none 0 0], .row 4 1 (.slice ad c.list.length kd) c.list.length (bools (z9 c k))]) (fun i _ => c.list.length - (intOf i).toNat)
 case atStart => exact ⟨0, b92 _, rfl, M⟩
 case round =>
  clear M
  obtain ⟨k, hk, rfl, M⟩ := hrel
  have x2 := M.c 0 2 rfl rfl
  by_cases hlt : k < c.list.length
  ·have hb := M.below fun _ _ => trivial
   obtain ⟨b, off, he3, hb3, i0, i1, -⟩ := HI.out k hlt
   rw [← (J1 hb).1 _ _ hb3] at i0 i1
   have HK : Hid (aB3 c k = (decide (c.list[k].op = 8) && decide (c.list[k].a = (k : Int) + 1))) := by unfold Hid aB3; rw [E4 hlt]
   have HKEEP := show Hid (aB3 c k = false → z9 c (k + 1) = z9 c k) from fun h => aN5 h
   have HPUT := show Hid (aB3 c k = true → z9 c (k + 1) = (z9 c k).set k false) from fun h => aW0 hlt h
   obtain ⟨x, hx⟩ : ∃ x, x = c.list[k] := ⟨_, rfl⟩
   rw [← hx] at i0 i1 HK
   clear hx hb
   subst he3
   have hki : (k : Int) < c.list.length := by omega
   obtain ⟨g, cap, hv, hg1, hg2, hg3, hf, u, yk⟩ := (A6.mk' (M.r 2 rfl)).at (j := k) (by simp [bools, Y0]; exact hlt)
   cases hv
   by_cases hh : x.op = 8 ∧ x.a = (k : Int) + 1
   ·have q8 : (x.op == 8) = true := by simp [hh.1]
    have qa : (x.a == (k : Int) + 1) = true := by simp [hh.2]
    have HV := show Hid (z9 c (k + 1) = (z9 c k).set k false) from HPUT.out (by rw [HK.out]; simp [hh.1, hh.2])
    have M' := M.rowSet 2 rfl (j := k) (by simp [bools, Y0]; exact hlt) (.bool false)
    rw [show (bools (z9 c k)).set k (.bool false) = bools ((z9 c k).set k false) by simp [bools, List.map_set], ← HV.out] at M'
    clear hh M
    go_wp2_with fail
    exact ⟨⟨k + 1, by omega, by go_num, M'⟩, by simp [intOf]; omega⟩
   ·have HV := show Hid (z9 c (k + 1) = z9 c k) from HKEEP.out (by rw [HK.out]; cases h8 : decide (x.op = 8) <;> cases ha : decide (x.a = (k : Int) + 1) <;> simp_all)
    rw [← HV.out] at M
    by_cases h8 : x.op = 8
    ·have q8 : (x.op == 8) = true := by simp [h8]
     have qa : (x.a == (k : Int) + 1) = false := by simp; exact fun h => hh ⟨h8, h⟩
     clear hh h8
     go_wp2_with fail
     exact ⟨⟨k + 1, by omega, by go_num, M⟩, by simp [intOf]; omega⟩
    ·have q8 : (x.op == 8) = false := by simp [h8]
     clear hh h8
     go_wp2_with fail
     exact ⟨⟨k + 1, by omega, by go_num, M⟩, by simp [intOf]; omega⟩
  ·have hkn : k = c.list.length := by omega
   subst hkn
   rw [aW1] at M
   go_wp2_with fail
   clear x2
   have HKL := show Hid _ from O2 c
   replace M := M.add ((Below.refl _ _).alloc (b76 _) _) (.row 3 1 (.slice (some ⟨wr.heap.size, 0, none⟩) 0 0) 0 []) (A5 (v8 wr (g := wr.heap.size) #[] 0 1 3 rfl rfl (by omega)).1 (b92 _)) (fun g hg => by cases hg; exact b76 _)
   generalize wr.alloc (.cells #[] 3) = wa at *
   go_loopw [5, 6, 7] (fun q m i wr => ∃ (k : Nat) (a : Option Addr) (cq : Nat), k ≤ c.list.length ∧ i = .int .i64 k ∧ m = .int .i64 (L5 (A0 c) k : Int) ∧ q = .slice a k cq ∧ C9 φ (fun _ => True) w wr [.box w.heap.size [v1, v2, .slice a3 c.list.length k3], .box (w.heap.size + 1) [.slice none 0 0, .slice none 0 0, .slice none 0 0], .row 4 1 (.slice ad c.list.length kd) c.list.length (bools (A0 c)), .row 3 1 q k (ints (ad1 (A0 c) k))]) (fun _ _ i _ => c.list.length - (intOf i).toNat)
   case atStart => exact ⟨0, _, _, b92 _, rfl, by rw [V0]; rfl, rfl, M⟩
   case round =>
    clear M
    obtain ⟨k, qa, cq, hk, rfl, rfl, rfl, M⟩ := hrel
    by_cases hlt : k < c.list.length
    ·obtain ⟨g, cap, hv, hg1, hg2, hg3, -, -, -, hgc⟩ := (A6.mk' (M.r 2 rfl)).open (by omega)
     cases hv
     have hkl := HKL.out
     have yk := hgc k _ (U3 _ k (by omega))
     have hde : (A0 c)[k]'(by omega) = (A0 c).getD k false := by simp [show k < (A0 c).length by omega]
     rw [hde] at yk
     have HS := show Hid _ from R5 (A0 c) k (by omega)
     have HP := show Hid _ from aI6 (A0 c) k
     have hpl := br1 (A0 c) k
     clear hgc hde
     have bz : Below wr.heap.size wr (wr.alloc (.cells #[.int .i64 (L5 (A0 c) k : Int)] 3)) := by go_grown
     have M1 := M.call bz
     have hown := M1.r 3 rfl
     have hne : ∀ g', (Value.slice qa k cq).ownBlock = some g' → g' ≠ g := fun g' h e => M.dis 3 2 _ _ g' rfl rfl (by omega) h (by rw [e]; rfl)
     have HNE := show Hid _ from hne
     have HM := show Hid _ from M1
     clear M M1 hne
     cases hkb : (A0 c).getD k false
     all_goals
      have HB := show Hid _ from hkb
      clear hkb
      have hyk : ∀ w4 v4, C9 φ (fun _ => True) w w4 [.box w.heap.size [v1, v2, .slice a3 c.list.length k3], .box (w.heap.size + 1) [.slice none 0 0, .slice none 0 0, .slice none 0 0], .row 4 1 (.slice (some ⟨g, 0, none⟩) c.list.length kd) c.list.length (bools (A0 c)), v4] → w4.cell? ⟨g, k, none⟩ = some (.bool ((A0 c).getD k false)) := by
       intro w4 v4 M4
       obtain ⟨g', cap', hv', -, -, -, -, -, -, hgc⟩ := (A6.mk' (M4.r 2 rfl)).open (by omega)
       cases hv'
       rw [hgc k _ (U3 _ k (by omega))]
       simp [show k < (A0 c).length by omega]
      have HYK := show Hid _ from hyk
      clear hyk
      go_wp2_with (at_builtin; refine A9 rfl _ _ rfl Tryz.underlying23 ae8 rfl (by omega) rfl hown rfl (ae3 wr (.int .i64 (L5 (A0 c) k : Int)) _ rfl) (bD8 _) (by omega) (by omega) (b92 _) ?_; rintro a4 q4 w4 o4 - g4 n4; have HM4 := show Hid _ from HM.out.app 3 rfl o4 g4 n4; have yk4 := HYK.out w4 _ HM4.out; rw [HB.out] at yk4)
      have M4 := HM4.out
      refine ⟨⟨k + 1, a4, q4, by omega, by go_num, by rw [HS.out, HB.out]; go_num, by simp, ?_⟩, by simp [intOf]; omega⟩
      rw [HP.out, show ints (ad1 (A0 c) k ++ [(L5 (A0 c) k : Int)]) = ints (ad1 (A0 c) k) ++ [.int .i64 (L5 (A0 c) k : Int)] by simp [ints]]
      exact M4
    ·have hkn : k = c.list.length := by omega
     subst hkn
     go_wp2_with fail
     have hsz := at1 hc
     unfold b6.size at hsz
     have HM := show Hid _ from M
     have HR := show Hid (∀ W', Below wr.heap.size wr W' → (F8 W' v1 c.vars.length 1 (ints c.vars) ∧ F8 W' v2 c.arrays.length 1 (ints c.arrays)) ∧ W'.cell? ⟨w.heap.size, 0, none⟩ = some v1 ∧ W'.cell? ⟨w.heap.size, 1, none⟩ = some v2) from fun W' k => by
      have M' := M.call k
      have bb := M'.below fun _ _ => trivial
      exact ⟨⟨h1.below bb, h2.below bb⟩, M'.c 0 0 rfl rfl, M'.c 0 1 rfl rfl⟩
     have hfr := M.frFresh
     obtain ⟨φ', hφ'⟩ : ∃ φ', φ' = Fr φ [.box w.heap.size [v1, v2, .slice a3 c.list.length k3], .box (w.heap.size + 1) [.slice none 0 0, .slice none 0 0, .slice none 0 0], .row 4 1 (.slice ad c.list.length kd) c.list.length (bools (A0 c)), .row 3 1 (.slice qa c.list.length cq) c.list.length (ints (ad1 (A0 c) c.list.length))] := ⟨_, rfl⟩
     rw [← hφ'] at hfr
     have HFR := show Hid _ from hfr
     have HPH := show Hid _ from hφ'
     clear M hφ' hfr
     refine al5 10 (PS [by8, IsS (.pointer (some ⟨w.heap.size, 0, none⟩)), IsS v1, bH3 φ' (fun v w φ => m6 w φ v c.vars.length 1 (ints c.vars)), by8, IsS (.pointer (some ⟨w.heap.size, 1, none⟩)), IsS v2, bH3 φ' (fun v w φ => m6 w φ v c.arrays.length 1 (ints c.arrays)),
      bH3 φ' (fun x w φ => ∃ y1 y2, x = .agg #[y1, y2, .slice none 0 0] ∧ m6 w φ y1 c.vars.length 1 (ints c.vars) ∧ m6 w φ y2 c.arrays.length 1 (ints c.arrays)), b03 [.slice none 0 0, .slice none 0 0, .slice none 0 0]])
      (by kernel_rfl) (by kernel_rfl) (by kernel_rfl) (PS.stable ⟨bn6, ba9 _, ba9 _, a23 _ (fun _ => m6.nice _ _ _ _), bn6, ba9 _, ba9 _, a23 _ (fun _ => m6.nice _ _ _ _),
       a23 _ (fun _ _ _ _ _ ha ⟨y1, y2, e, g1, g2⟩ => ⟨y1, y2, e, m6.nice _ _ _ _ _ _ _ _ ha g1, m6.nice _ _ _ _ _ _ _ _ ha g2⟩), bL1 _, b84⟩) ?_ ?_
     ·intro i o hi ho f W' S hG hdep Q' hQ
      have hc : i = 0 ∨ i = 1 ∨ i = 2 ∨ i = 3 ∨ i = 4 ∨ i = 5 ∨ i = 6 ∨ i = 7 ∨ i = 8 ∨ i = 9 := by omega
      have HQ := show Hid _ from hQ
      have HG := show Hid _ from hG
      clear hQ hG
      rcases hc with rfl | rfl | rfl | rfl | rfl | rfl | rfl | rfl | rfl | rfl
      all_goals
       simp only [b81, b82, Option.some.injEq] at ho
       subst ho
      ·clear hdep
       simp only [y9]
       go_wp2_with fail
       exact X5 (HQ.out.1 (.slice (some ⟨W'.heap.size, 0, none⟩) 0 0) _ (by go_grown) ⟨_, rfl⟩) (by kernel_rfl)
      ·clear hdep
       simp only [y9]
       go_wp2_with fail
       exact X5 (HQ.out.1 (.pointer (some ⟨w.heap.size, 0, none⟩)) _ (Below.refl _ _) rfl) (by kernel_rfl)
      ·have e1 : f 1 = .pointer (some ⟨w.heap.size, 0, none⟩) := hdep { on := 1, ground := .data } (by simp) (by kernel_rfl)
       have cc := (HR.out W' HG.out.below).2.1
       clear hdep
       obtain ⟨f', rfl⟩ := Z5 e1
       clear e1
       simp only [y9, upd, ↓reduceIte, Nat.reduceEqDiff]
       go_wp2_with fail
       exact X5 (HQ.out.1 v1 _ (Below.refl _ _) rfl) (by kernel_rfl)
      ·have e0 : by8 (f 0) W' S := hdep { on := 0, ground := .data } (by simp) (by kernel_rfl)
       have e2 : f 2 = v1 := hdep { on := 2, ground := .data } (by simp) (by kernel_rfl)
       refine al6 rfl _ _ rfl Tryz.underlying23 ae8 rfl (by omega) e0 (by kernel_rfl) (Eq.trans (by kernel_rfl) e2) (HR.out W' HG.out.below).1.1 (by omega) ?_
       intro x w' ox bx
       exact wpList_nil (HQ.out.1 _ _ bx (m6.nice _ _ _ _ _ _ _ _ (Agr.mono (HG.out.fresh' bx HFR.out)) ox))
      ·clear hdep
       simp only [y9]
       go_wp2_with fail
       exact X5 (HQ.out.1 (.slice (some ⟨W'.heap.size, 0, none⟩) 0 0) _ (by go_grown) ⟨_, rfl⟩) (by kernel_rfl)
      ·clear hdep
       simp only [y9]
       go_wp2_with fail
       exact X5 (HQ.out.1 (.pointer (some ⟨w.heap.size, 1, none⟩)) _ (Below.refl _ _) rfl) (by kernel_rfl)
      ·have e1 : f 5 = .pointer (some ⟨w.heap.size, 1, none⟩) := hdep { on := 5, ground := .data } (by simp) (by kernel_rfl)
       have cc := (HR.out W' HG.out.below).2.2
       clear hdep
       obtain ⟨f', rfl⟩ := Z5 e1
       clear e1
       simp only [y9, upd, ↓reduceIte, Nat.reduceEqDiff]
       go_wp2_with fail
       exact X5 (HQ.out.1 v2 _ (Below.refl _ _) rfl) (by kernel_rfl)
      ·have e0 : by8 (f 4) W' S := hdep { on := 4, ground := .data } (by simp) (by kernel_rfl)
       have e2 : f 6 = v2 := hdep { on := 6, ground := .data } (by simp) (by kernel_rfl)
       refine al6 rfl _ _ rfl Tryz.underlying23 ae8 rfl (by omega) e0 (by kernel_rfl) (Eq.trans (by kernel_rfl) e2) (HR.out W' HG.out.below).1.2 (by omega) ?_
       intro x w' ox bx
       exact wpList_nil (HQ.out.1 _ _ bx (m6.nice _ _ _ _ _ _ _ _ (Agr.mono (HG.out.fresh' bx HFR.out)) ox))
      ·have g3 : m6 W' (RF φ' S) (f 3) c.vars.length 1 (ints c.vars) := hdep { on := 3, ground := .data } (by simp) (by kernel_rfl)
       have g7 : m6 W' (RF φ' S) (f 7) c.arrays.length 1 (ints c.arrays) := hdep { on := 7, ground := .data } (by simp) (by kernel_rfl)
       obtain ⟨p3, k3', e3⟩ := g3.row.form
       obtain ⟨p7, k7', e7⟩ := g7.row.form
       rw [e3] at g3
       rw [e7] at g7
       clear hdep
       obtain ⟨f', rfl⟩ := Z5 e3
       clear e3
       simp only [upd, ↓reduceIte, Nat.reduceEqDiff] at e7
       obtain ⟨f'', rfl⟩ := Z5 e7
       clear e7
       simp only [y9, upd, ↓reduceIte, Nat.reduceEqDiff]
       go_wp2_with fail
       exact X5 (HQ.out.1 (.agg #[.slice p3 c.vars.length k3', .slice p7 c.arrays.length k7', .slice none 0 0]) _ (Below.refl _ _) ⟨_, _, rfl, g3, g7⟩) (by kernel_rfl)
      ·clear hdep
       simp only [y9]
       go_wp2_with fail
       exact X5 (HQ.out.2 (.pointer (some ⟨W'.heap.size, 0, none⟩)) _ (by go_grown) (by simp) ⟨_, rfl, A1.new W' [.slice none 0 0, .slice none 0 0, .slice none 0 0] _, .inr rfl⟩) (by kernel_rfl)
     ·intro o ho f W' S hG hall
      simp only [b81, b82, Option.some.injEq] at ho
      subst ho
      obtain ⟨y1, y2, e8, g1, g2⟩ : ∃ y1 y2, f 8 = .agg #[y1, y2, .slice none 0 0] ∧ m6 W' (RF φ' S) y1 c.vars.length 1 (ints c.vars) ∧ m6 W' (RF φ' S) y2 c.arrays.length 1 (ints c.arrays) := hall 8 (by omega)
      obtain ⟨gb, e9, Lb, hgb⟩ : ∃ g, f 9 = .pointer (some ⟨g, 0, none⟩) ∧ A1 W' g [.slice none 0 0, .slice none 0 0, .slice none 0 0] ∧ S g := hall 9 (by omega)
      obtain ⟨p1, q1, rfl⟩ := g1.row.form
      obtain ⟨p2, q2, rfl⟩ := g2.row.form
      clear hall
      have M := HM.out
      rw [HPH.out] at g1 g2
      have M1 := M.region hG Lb hgb
      have M2 := C9.rdat [_] M1 (fun r hr g h => by simp at hr; subst hr; cases h; exact hgb) (m6.nice _ _ _ _) g1
      have M3 := C9.rdat [_, _] M2 (fun r hr g h => by simp at hr; rcases hr with rfl | rfl <;> cases h; exact hgb) (m6.nice _ _ _ _) g2
      have M4 := (((M3.nil 60 5).set 4 rfl 0 (.slice p1 c.vars.length q1)).set 4 rfl 1 (.slice p2 c.arrays.length q2)).set 4 rfl 2 (.slice none 0 0)
      have c0 := Lb.cell 0
      have c1 := Lb.cell 1
      have c2 := Lb.cell 2
      simp only [b81, b82] at c0 c1 c2
      have fr := Lb.free
      have HM4 := show Hid _ from M4
      clear M M1 M2 M3 M4 g1 g2 HR HM HFR HPH hG
      obtain ⟨f', rfl⟩ := Z5 e8
      clear e8
      simp only [upd, ↓reduceIte, Nat.reduceEqDiff] at e9
      obtain ⟨f'', rfl⟩ := Z5 e9
      clear e9
      simp only [y9, upd, ↓reduceIte, Nat.reduceEqDiff]
      go_wp2_with fail
      clear c0 c1 c2 fr Lb
      have M := HM4.out
      clear HM4
      generalize ((W'.setCell ⟨gb, 0, none⟩ (.slice p1 c.vars.length q1)).setCell ⟨gb, 1, none⟩ (.slice p2 c.arrays.length q2)).setCell ⟨gb, 2, none⟩ (.slice none 0 0) = wa at *
      have HKL := show Hid _ from O2 c
      obtain ⟨Q5, hQ5⟩ : ∃ Q5, Q5 = Value.slice qa c.list.length cq := ⟨_, rfl⟩
      obtain ⟨g5, c5, hv5, -⟩ := (A6.mk' (M.r 3 rfl)).open (by have := (l9 hc).2.1; omega)
      obtain ⟨g2, c2, hv2, -⟩ := (A6.mk' (M.r 2 rfl)).open (by have := (l9 hc).2.1; omega)
      cases hv5
      cases hv2
      clear hQ5 Q5
      go_loopw [9, 10] (fun i _ wr => ∃ (k : Nat) (qb : Option Addr) (cb : Nat), k ≤ c.list.length ∧ i = .int .i64 k ∧ C9 φ (fun _ => True) w wr [.box w.heap.size [v1, v2, .slice a3 c.list.length k3], .box (w.heap.size + 1) [.slice none 0 0, .slice none 0 0, .slice none 0 0], .row 4 1 (.slice (some ⟨g2, 0, none⟩) c.list.length kd) c.list.length (bools (A0 c)), .row 3 1 (.slice (some ⟨g5, 0, none⟩) c.list.length cq) c.list.length (ints (ad1 (A0 c) c.list.length)), .box gb [.slice p1 c.vars.length q1, .slice p2 c.arrays.length q2, .slice qb (j5 c (A0 c) k).length cb], .dat (fun w φ => m6 w φ (.slice p1 c.vars.length q1) c.vars.length 1 (ints c.vars)), .dat (fun w φ => m6 w φ (.slice p2 c.arrays.length q2) c.arrays.length 1 (ints c.arrays)), .row 60 5 (.slice qb (j5 c (A0 c) k).length cb) (j5 c (A0 c) k).length (ints (A8 (j5 c (A0 c) k)))]) (fun i _ _ => c.list.length - (intOf i).toNat)
      case atStart => exact ⟨0, none, 0, b92 _, rfl, M⟩
      case round =>
       clear M
       obtain ⟨k, qb, cb, hk, rfl, M⟩ := hrel
       by_cases hlt : k < c.list.length
       ·obtain ⟨g', cap', hv', -, -, -, -, -, -, hgc⟩ := (A6.mk' (M.r 2 rfl)).open (by omega)
        cases hv'
        have hkl := HKL.out
        have yk := hgc k _ (U3 _ k (by omega))
        have hde : (A0 c)[k]'(by omega) = (A0 c).getD k false := by simp [show k < (A0 c).length by omega]
        rw [hde] at yk
        clear hgc hde
        have hb := M.below fun _ _ => trivial
        obtain ⟨bl, ol, he3, hb3, i0, i1, i2, i3, i4⟩ := HI.out k hlt
        rw [← (J1 hb).1 _ _ hb3] at i0 i1 i2 i3 i4
        subst he3
        have hins := (l9 hc).2.2.2.1 k hlt
        have HTG := show Hid (0 ≤ j6 c.list[k] → bc4 c (j6 c.list[k])) from fun g => ⟨g, aH0 hins g⟩
        have HTR : Hid (trI (A0 c) c.list[k] = if 0 ≤ j6 c.list[k] then G0 c.list[k] (L5 (A0 c) (j6 c.list[k]).toNat : Int) else c.list[k]) := rfl
        have HPUT := show Hid ((A0 c).getD k false = true → j5 c (A0 c) (k + 1) = j5 c (A0 c) k ++ [trI (A0 c) c.list[k]]) from fun g => by rw [Z6 g, E4 hlt]
        have HSKIP := show Hid ((A0 c).getD k false = false → j5 c (A0 c) (k + 1) = j5 c (A0 c) k) from fun g => U5 g
        have hle := al9 c (A0 c) k
        obtain ⟨x, hx⟩ : ∃ x, x = c.list[k] := ⟨_, rfl⟩
        rw [← hx] at i0 i1 i2 i3 i4 HTG HTR HPUT
        have hki : (k : Int) < c.list.length := by omega
        clear hx hins hb
        have x2 := M.c 0 2 rfl rfl
        cases hkb : (A0 c).getD k false
        ·rw [hkb] at yk
         have HN := HSKIP.out hkb
         rw [← HN] at M
         have HM := show Hid _ from M
         clear hkb HN M HSKIP HPUT
         go_wp2_with fail
         exact ⟨⟨k + 1, _, _, by omega, by go_num, HM.out⟩, by simp [intOf]; omega⟩
        ·rw [hkb] at yk
         have HN := show Hid _ from HPUT.out hkb
         clear hkb HSKIP HPUT
         have M1 := M.box [.int .i64 x.op, .int .i64 x.a, .int .i64 x.b, .int .i64 x.c, .int .i64 x.d] 60
         have HM1 := show Hid _ from M1
         clear M M1
         go_wp2_with fail
         clear yk i0 i1 i2 i3 i4 x2
         have M1 := HM1.out
         clear HM1
         obtain ⟨X0, hX0⟩ : ∃ X0, X0 = wr.heap.size := ⟨_, rfl⟩
         rw [← hX0] at M1 ⊢
         clear hX0
         refine (ai4 x _).mono ?_
         rintro e w5 ⟨rfl, b5⟩
         have M5 := M1.call b5
         clear M1 b5
         by_cases ht : 0 ≤ j6 x
         ·have hpl := HTG.out ht
          have htr := HTR.out
          rw [if_pos ht] at htr
          obtain ⟨t, htt⟩ : ∃ t : Nat, j6 x = t := ⟨(j6 x).toNat, by omega⟩
          rw [htt] at htr hpl ht ⊢
          rw [cb0] at htr
          obtain ⟨hp0, hp1⟩ := hpl
          have htl : t < c.list.length := by omega
          obtain ⟨g, cap, hv, -, -, -, -, -, -, hcc⟩ := (A6.mk' (M5.r 3 rfl)).open (by omega)
          cases hv
          have hpc := hcc t _ (by rw [V6 _ _ (by rw [O0]; exact htl)])
          have hpe : (ad1 (A0 c) c.list.length)[t]'(by rw [O0]; exact htl) = (L5 (A0 c) t : Int) := by
           have := aV0 (A0 c) c.list.length t htl
           rw [b72 (by rw [O0]; exact htl)] at this
           exact Option.some.inj this
          rw [hpe] at hpc
          obtain ⟨q, hqe⟩ : ∃ q, q = G0 x (L5 (A0 c) t : Int) := ⟨_, rfl⟩
          have HQE := show Hid (trI (A0 c) x = q) from by unfold Hid; rw [htr, hqe]
          have HC2 : Hid (∀ X, Calls Tryz.prog 57 #[.agg #[.int .i64 x.op, .int .i64 x.a, .int .i64 x.b, .int .i64 x.c, .int .i64 x.d]] (w5.ext X) fun e w'' => e = .returned (.int .i64 (t : Int)) ∧ ∃ Y, w'' = w5.ext Y) := fun X => Calls.ext_of' (by have := ai4 x (w5.ext X); rw [htt] at this; exact this)
          have HC3 : Hid (∀ X, Calls Tryz.prog 58 #[.agg #[.int .i64 x.op, .int .i64 x.a, .int .i64 x.b, .int .i64 x.c, .int .i64 x.d], .int .i64 (L5 (A0 c) t : Int)] (w5.ext X) fun e w'' => e = .returned (.agg #[.int .i64 q.op, .int .i64 q.a, .int .i64 q.b, .int .i64 q.c, .int .i64 q.d]) ∧ ∃ Y, w'' = w5.ext Y) := fun X => Calls.ext_of' ((a24 x _ _).mono fun e w' h => by rw [← hqe] at h; exact h)
          have LX5 := M5.blk 8 rfl
          have hX3 := LX5.lt
          have i0 := LX5.cell 0
          have i1 := LX5.cell 1
          have i2 := LX5.cell 2
          have i3 := LX5.cell 3
          have i4 := LX5.cell 4
          simp only [b81, b82] at i0 i1 i2 i3 i4
          have j0 := fun X => t4 i0 X
          have j1 := fun X => t4 i1 X
          have j2 := fun X => t4 i2 X
          have j3 := fun X => t4 i3 X
          have j4 := fun X => t4 i4 X
          have jp := fun X => t4 hpc X
          have ff := fun (X : World) (j : Nat) => Q7 (o := j) hX3 (LX5.free j) X
          have HM5 := show Hid _ from M5
          clear i0 i1 i2 i3 i4 hpc hcc hpe hqe htr htt LX5 M5
          go_wp2_with fail
          refine ad5 7 _ rfl (by kernel_rfl) (by kernel_rfl) ?_
          simp only [List.set_cons_succ, List.set_cons_zero, ab5]
          repeat (any_goals (first | go_big_quiet_step ((first | (go_at_call 57; exact HC2.out _) | (go_at_call 58; exact HC3.out _))) | quiet_step ((first | (go_at_call 57; exact HC2.out _) | (go_at_call 58; exact HC3.out _)))))
          refine wpQuiet_nil ?_
          rintro _ ⟨X, rfl⟩
          have M6 := (((((HM5.out.call (x8 w5 X)).set 8 rfl 0 (.int .i64 q.op)).set 8 rfl 1 (.int .i64 q.a)).set 8 rfl 2 (.int .i64 q.b)).set 8 rfl 3 (.int .i64 q.c)).set 8 rfl 4 (.int .i64 q.d)
          clear HM5 jp
          have k0 : World.cell? _ ⟨X0, 0, none⟩ = some (.int .i64 q.op) := M6.c 8 0 rfl rfl
          have k1 : World.cell? _ ⟨X0, 1, none⟩ = some (.int .i64 q.a) := M6.c 8 1 rfl rfl
          have k2 : World.cell? _ ⟨X0, 2, none⟩ = some (.int .i64 q.b) := M6.c 8 2 rfl rfl
          have k3' : World.cell? _ ⟨X0, 3, none⟩ = some (.int .i64 q.c) := M6.c 8 3 rfl rfl
          have k4 : World.cell? _ ⟨X0, 4, none⟩ = some (.int .i64 q.d) := M6.c 8 4 rfl rfl
          have kg : World.cell? _ ⟨gb, 2, none⟩ = some (.slice qb (j5 c (A0 c) k).length cb) := M6.c 4 2 rfl rfl
          have hrow6 := (v8 ((((((w5.ext X).setCell ⟨X0, 0, none⟩ (.int .i64 q.op)).setCell ⟨X0, 1, none⟩ (.int .i64 q.a)).setCell ⟨X0, 2, none⟩ (.int .i64 q.b)).setCell ⟨X0, 3, none⟩ (.int .i64 q.c)).setCell ⟨X0, 4, none⟩ (.int .i64 q.d)) (g := (w5.ext X).heap.size) #[.int .i64 q.op, .int .i64 q.a, .int .i64 q.b, .int .i64 q.c, .int .i64 q.d] 1 5 60 (by simp) rfl (by omega)).row
          have M6a := M6.call ((Below.refl _ _).alloc (b76 _) (.cells #[.int .i64 q.op, .int .i64 q.a, .int .i64 q.b, .int .i64 q.c, .int .i64 q.d] 60))
          have hqa := M6a.r 7 rfl
          have HM6a := show Hid _ from M6a
          clear M6a M6 HTG HTR
          go_wp2_with (at_builtin; refine A9 rfl _ _ rfl Tryz.underlying24 bd7 rfl (by omega) rfl hqa rfl hrow6 (V5 (l := (q).l)) (by omega) (by omega) (b92 _) ?_; rintro a4 q4 w7 o4 - g4 n4; have M7 := HM6a.out.app 7 rfl o4 g4 n4; have f7 := M7.f 4 rfl; have c7 := M7.c 4 2 rfl rfl; have HM7 := show Hid _ from M7; clear M7)
          have M8 := (HM7.out.set 4 rfl 2 (.slice a4 ((j5 c (A0 c) k).length + 1) q4)).take 8
          have hll : (j5 c (A0 c) (k + 1)).length = (j5 c (A0 c) k).length + 1 := by rw [HN.out]; simp
          have hcells : ints (A8 (j5 c (A0 c) (k + 1))) = ints (A8 (j5 c (A0 c) k)) ++ (#[.int .i64 q.op, .int .i64 q.a, .int .i64 q.b, .int .i64 q.c, .int .i64 q.d] : Array Value).toList := by
           rw [HN.out, HQE.out, Y1]; simp [ints, A8]
          refine ⟨⟨k + 1, a4, q4, by omega, by go_num, ?_⟩, by simp [intOf]; omega⟩
          rw [hll, hcells]
          exact M8
         ·have htr := HTR.out
          rw [if_neg ht] at htr
          have HQE := show Hid (trI (A0 c) x = x) from htr
          have ht' : j6 x < 0 := by omega
          clear htr ht
          have M6 := M5
          clear M5
          have k0 : World.cell? _ ⟨X0, 0, none⟩ = some (.int .i64 x.op) := M6.c 8 0 rfl rfl
          have k1 : World.cell? _ ⟨X0, 1, none⟩ = some (.int .i64 x.a) := M6.c 8 1 rfl rfl
          have k2 : World.cell? _ ⟨X0, 2, none⟩ = some (.int .i64 x.b) := M6.c 8 2 rfl rfl
          have k3' : World.cell? _ ⟨X0, 3, none⟩ = some (.int .i64 x.c) := M6.c 8 3 rfl rfl
          have k4 : World.cell? _ ⟨X0, 4, none⟩ = some (.int .i64 x.d) := M6.c 8 4 rfl rfl
          have kg : World.cell? _ ⟨gb, 2, none⟩ = some (.slice qb (j5 c (A0 c) k).length cb) := M6.c 4 2 rfl rfl
          have hrow6 := (v8 w5 (g := w5.heap.size) #[.int .i64 x.op, .int .i64 x.a, .int .i64 x.b, .int .i64 x.c, .int .i64 x.d] 1 5 60 rfl rfl (by omega)).row
          have M6a := M6.call ((Below.refl _ _).alloc (b76 _) (.cells #[.int .i64 x.op, .int .i64 x.a, .int .i64 x.b, .int .i64 x.c, .int .i64 x.d] 60))
          have hqa := M6a.r 7 rfl
          have HM6a := show Hid _ from M6a
          clear M6a M6 HTG HTR
          go_wp2_with (at_builtin; refine A9 rfl _ _ rfl Tryz.underlying24 bd7 rfl (by omega) rfl hqa rfl hrow6 (V5 (l := (x).l)) (by omega) (by omega) (b92 _) ?_; rintro a4 q4 w7 o4 - g4 n4; have M7 := HM6a.out.app 7 rfl o4 g4 n4; have f7 := M7.f 4 rfl; have c7 := M7.c 4 2 rfl rfl; have HM7 := show Hid _ from M7; clear M7)
          have M8 := (HM7.out.set 4 rfl 2 (.slice a4 ((j5 c (A0 c) k).length + 1) q4)).take 8
          have hll : (j5 c (A0 c) (k + 1)).length = (j5 c (A0 c) k).length + 1 := by rw [HN.out]; simp
          have hcells : ints (A8 (j5 c (A0 c) (k + 1))) = ints (A8 (j5 c (A0 c) k)) ++ (#[.int .i64 x.op, .int .i64 x.a, .int .i64 x.b, .int .i64 x.c, .int .i64 x.d] : Array Value).toList := by
           rw [HN.out, HQE.out, Y1]; simp [ints, A8]
          refine ⟨⟨k + 1, a4, q4, by omega, by go_num, ?_⟩, by simp [intOf]; omega⟩
          rw [hll, hcells]
          exact M8
       ·have hkn : k = c.list.length := by omega
        subst hkn
        have y0 := M.c 4 0 rfl rfl
        have y1 := M.c 4 1 rfl rfl
        have y2 := M.c 4 2 rfl rfl
        have z0 := M.c 1 0 rfl rfl
        have z1 := M.c 1 1 rfl rfl
        have z2 := M.c 1 2 rfl rfl
        have fz := M.f 1 rfl
        have M2 := (((M.freeze 7 rfl (fun g hg => by rw [HF.out]; exact (M.ge _ g (b86 (i := 7) rfl) hg).elim (fun h => h) (fun h => absurd b84 h))).set 1 rfl 0 (.slice p1 c.vars.length q1)).set 1 rfl 1 (.slice p2 c.arrays.length q2)).set 1 rfl 2 (.slice qb (j5 c (A0 c) c.list.length).length cb)
        have HM2 := show Hid _ from M2
        clear M M2
        go_wp2_with fail
        have M2 := HM2.out
        have r0 : World.cell? _ ⟨w.heap.size + 1, 0, none⟩ = some (.slice p1 c.vars.length q1) := M2.c 1 0 rfl rfl
        have r1 : World.cell? _ ⟨w.heap.size + 1, 1, none⟩ = some (.slice p2 c.arrays.length q2) := M2.c 1 1 rfl rfl
        have r2 : World.cell? _ ⟨w.heap.size + 1, 2, none⟩ = some (.slice qb (j5 c (A0 c) c.list.length).length cb) := M2.c 1 2 rfl rfl
        refine bodyPost_ret (v := .agg #[.slice p1 c.vars.length q1, .slice p2 c.arrays.length q2, .slice qb (j5 c (A0 c) c.list.length).length cb]) (by simp [results, Tryz.results41, go_sem, r0, r1, r2]) rfl ⟨_, rfl, ⟨_, _, _, rfl, ?_, ?_, ?_⟩, M2.below fun _ _ => trivial⟩
        ·rw [← HF.out]; exact M2.out 5 rfl
        ·rw [← HF.out]; exact M2.out 6 rfl
        ·rw [← HF.out]; exact M2.out 7 rfl
theorem bi9 (w : World) (lo hi : Nat) : D7 w lo hi (.agg #[.slice none 0 0, .slice none 0 0, .slice none 0 0]) ⟨[], [], []⟩ :=
 ⟨_, _, _, rfl, ⟨World.ownsRow_nil _ _ _ _, (fun g hg => by cases hg)⟩, ⟨World.ownsRow_nil _ _ _ _, (fun g hg => by cases hg)⟩, ⟨World.ownsRow_nil _ _ _ _, (fun g hg => by cases hg)⟩, (fun g hg => by cases hg), (fun g hg => by cases hg), (fun g hg => by cases hg)⟩
def H2 (w : World) (lo hi : Nat) (v : Value) (c : b6) : Prop := aa5 w (fun b => lo ≤ b ∧ b < hi) v c
theorem H2.row {w : World} {lo hi : Nat} {v : Value} {c : b6} (h : H2 w lo hi v c) : t6 w v c := aa5.row h
theorem aa5.in {w : World} {φ : Nat → Prop} {lo : Nat} {v : Value} {c : b6} (h : aa5 w φ v c) (hf : ∀ b, φ b → lo ≤ b) : H2 w lo w.heap.size v c := aa5.nice v c _ _ _ _ (Agr.mono fun b hb hp => ⟨hf b hp, hb⟩) h
theorem H2.wide {w : World} {lo hi lo' hi' : Nat} {v : Value} {c : b6} (h : H2 w lo hi v c) (h1 : lo' ≤ lo) (h2 : hi ≤ hi') : H2 w lo' hi' v c := aa5.nice v c _ _ _ _ (Agr.mono fun _ _ hp => ⟨b97 h1 hp.1, cb3 hp.2 h2⟩) h
theorem H2.keep {w w' : World} {lo hi B : Nat} {v : Value} {c : b6} (h : H2 w lo hi v c) (hb : Below B w w') (hB : hi ≤ B) : H2 w' lo hi v c := aa5.nice v c _ _ _ _ ⟨hb.size, fun b _ hp => ⟨hp, hb.block b (by omega)⟩⟩ h
theorem H2.out {w w' : World} {lo hi lo' hi' : Nat} {v : Value} {c : b6} (h : H2 w lo hi v c) (ho : Out lo' hi' w w') (hd : hi ≤ lo' ∨ hi' ≤ lo) : H2 w' lo hi v c := aa5.nice v c _ _ _ _ ⟨ho.size, fun b hb hp => ⟨hp, ho.block b hb (by omega)⟩⟩ h
theorem H2.rowOf {w : World} {lo hi : Nat} {v1 v2 v3 : Value} {c : b6} (h : H2 w lo hi (.agg #[v1, v2, v3]) c) : ∃ a1 k1 a2 k2 a3 k3, v1 = .slice a1 c.vars.length k1 ∧ v2 = .slice a2 c.arrays.length k2 ∧ v3 = .slice a3 c.list.length k3 := by
 obtain ⟨u1, u2, u3, he, h1, h2, h3⟩ := h
 simp only [Value.agg.injEq, Array.mk.injEq, List.cons.injEq, and_true] at he
 obtain ⟨rfl, rfl, rfl⟩ := he
 obtain ⟨a1, k1, e1⟩ := h1.row.form
 obtain ⟨a2, k2, e2⟩ := h2.row.form
 obtain ⟨a3, k3, e3⟩ := h3.row.form
 exact ⟨a1, k1, a2, k2, a3, k3, e1, e2, e3⟩
theorem aY6 (w : World) (lo hi : Nat) : H2 w lo hi (.agg #[.slice none 0 0, .slice none 0 0, .slice none 0 0]) ⟨[], [], []⟩ := ⟨_, _, _, rfl, m6.nil _ _ _, m6.nil _ _ _, m6.nil _ _ _⟩
noncomputable def K9 (c : b6) : b6 := if i5 c = true then n5 c else ⟨[], [], []⟩
theorem aE1 (v : Value) (c : b6) (hc : i5 c = true) (w : World) (h : t6 w v c) :
  Calls Tryz.prog 41 #[v] w fun e w' => ∃ z, e = .returned z ∧ H2 w' w.heap.size w'.heap.size z (n5 c) ∧ Below w.heap.size w w' :=
 (aT1 v c hc w h).mono fun _ _ ⟨z, h1, h2, h3⟩ => ⟨z, h1, h2.in fun _ h => h, h3⟩
theorem aE2 (v : Value) (c : b6) (w : World) (h : t6 w v c) :
  Calls Tryz.prog 17 #[v] w fun e w' => ∃ u, e = .returned (.tuple #[u, .bool (i5 c)]) ∧ H2 w' w.heap.size w'.heap.size u (K9 c) ∧ Below w.heap.size w w' := by
 have hrow := h
 obtain ⟨v1, v2, v3, rfl, h1, h2, h3⟩ := h
 obtain ⟨n, hn⟩ : ∃ n, n = w.heap.size := ⟨_, rfl⟩
 obtain ⟨W, hW⟩ : ∃ W, W = (w.alloc (.cells #[v1, v2, v3] 26)).alloc (.cells #[.slice none 0 0, .slice none 0 0, .slice none 0 0] 26) := ⟨_, rfl⟩
 have B0 : Below w.heap.size w W := by rw [hW]; go_grown
 have sW : W.heap.size = n + 1 + 1 := by rw [hW, hn]; simp
 have L1 : A1 W n [v1, v2, v3] := by rw [hW, hn]; exact (A1.new w [v1, v2, v3] _).alloc _
 have L2 : A1 W (n + 1) [.slice none 0 0, .slice none 0 0, .slice none 0 0] := by rw [hW, hn]; exact A1.new' (w.alloc _) [.slice none 0 0, .slice none 0 0, .slice none 0 0] _ (by simp)
 have HT : Hid (K9 c = if i5 c = true then n5 c else ⟨[], [], []⟩) := rfl
 have x0 := L1.cell 0
 have x1 := L1.cell 1
 have x2 := L1.cell 2
 simp only [b81, b82] at x0 x1 x2
 rw [hW, hn] at x0 x1 x2
 go_enter Tryz.func17, Tryz.ntmps17
 go_wp2_with fail
 rw [← hW, ← hn]
 clear hW x0 x1 x2
 refine (ay1 _ c _ (hrow.below B0)).mono ?_
 rintro e w1 ⟨rfl, b1⟩
 replace L1 := L1.below b1 L1.lt
 replace L2 := L2.below b1 L2.lt
 have B1 := B0.trans (b1.mono B0.size)
 have s1 := b1.size
 have HN := show Hid (n = w.heap.size) from hn
 clear b1 B0 hn
 have x0 := L1.cell 0
 have x1 := L1.cell 1
 have x2 := L1.cell 2
 simp only [b81, b82] at x0 x1 x2
 cases hc : i5 c
 ·have HC := show Hid (K9 c = ⟨[], [], []⟩) from by unfold Hid; rw [HT.out, hc]; simp
  have z0 := L2.cell 0
  have z1 := L2.cell 1
  have z2 := L2.cell 2
  simp only [b81, b82] at z0 z1 z2
  have f0 := L2.free 0
  have f1 := L2.free 1
  have f2 := L2.free 2
  have HO := show Hid _ from hc
  clear hc
  go_wp2_with fail
  have hn := HN.out
  have L3 := ((L2.set (j := 0) (.slice none 0 0)).set (j := 1) (.slice none 0 0)).set (j := 2) (.slice none 0 0)
  have BF := ((B1.setCell (p := ⟨n + 1, 0, none⟩) (by show w.heap.size ≤ n + 1; omega) (.slice none 0 0)).setCell (p := ⟨n + 1, 1, none⟩) (by show w.heap.size ≤ n + 1; omega) (.slice none 0 0)).setCell (p := ⟨n + 1, 2, none⟩) (by show w.heap.size ≤ n + 1; omega) (.slice none 0 0)
  have r0 := L3.cell 0
  have r1 := L3.cell 1
  have r2 := L3.cell 2
  simp only [b81, b82, List.set_cons_zero, List.set_cons_succ] at r0 r1 r2
  generalize ((w1.setCell ⟨n + 1, 0, none⟩ (.slice none 0 0)).setCell ⟨n + 1, 1, none⟩ (.slice none 0 0)).setCell ⟨n + 1, 2, none⟩ (.slice none 0 0) = WF at *
  exact bodyPost_ret (v := .tuple #[.agg #[.slice none 0 0, .slice none 0 0, .slice none 0 0], .bool false]) (by simp [results, Tryz.results17, go_sem, r0, r1, r2]) rfl ⟨_, by rw [HO.out], by rw [HC.out]; exact aY6 _ _ _, BF⟩
 ·have HC := show Hid (K9 c = n5 c) from by unfold Hid; rw [HT.out, hc]; simp
  have HO := show Hid _ from hc
  clear hc
  go_wp2_with fail
  refine (aE1 _ c HO.out _ (hrow.below B1)).mono ?_
  rintro e w2 ⟨u, rfl, ou, b2⟩
  obtain ⟨y1, y2, y3, rfl, -⟩ := id ou
  obtain ⟨p1, q1, p2, q2, p3, q3, rfl, rfl, rfl⟩ := H2.rowOf ou
  have B2 := B1.trans (b2.mono B1.size)
  replace L2 := L2.below b2 L2.lt
  have s2 := b2.size
  clear x0 x1 x2
  have z0 := L2.cell 0
  have z1 := L2.cell 1
  have z2 := L2.cell 2
  simp only [b81, b82] at z0 z1 z2
  have f0 := L2.free 0
  have f1 := L2.free 1
  have f2 := L2.free 2
  go_wp2_with fail
  have hn := HN.out
  have L3 := ((L2.set (j := 0) (.slice p1 (n5 c).vars.length q1)).set (j := 1) (.slice p2 (n5 c).arrays.length q2)).set (j := 2) (.slice p3 (n5 c).list.length q3)
  have hO : Out (n + 1) (n + 1 + 1) w2 (((w2.setCell ⟨n + 1, 0, none⟩ (.slice p1 (n5 c).vars.length q1)).setCell ⟨n + 1, 1, none⟩ (.slice p2 (n5 c).arrays.length q2)).setCell ⟨n + 1, 2, none⟩ (.slice p3 (n5 c).list.length q3)) :=
   (((Out.refl (n + 1) (n + 1 + 1) w2).setCell (p := ⟨n + 1, 0, none⟩) (b76 _) (cb1 _) _).setCell (p := ⟨n + 1, 1, none⟩) (b76 _) (cb1 _) _).setCell (p := ⟨n + 1, 2, none⟩) (b76 _) (cb1 _) _
  have oF := ou.out hO (.inr (by omega))
  have zF : (((w2.setCell ⟨n + 1, 0, none⟩ (.slice p1 (n5 c).vars.length q1)).setCell ⟨n + 1, 1, none⟩ (.slice p2 (n5 c).arrays.length q2)).setCell ⟨n + 1, 2, none⟩ (.slice p3 (n5 c).list.length q3)).heap.size = w2.heap.size := by simp
  have BF := ((B2.setCell (p := ⟨n + 1, 0, none⟩) (by show w.heap.size ≤ n + 1; omega) (.slice p1 (n5 c).vars.length q1)).setCell (p := ⟨n + 1, 1, none⟩) (by show w.heap.size ≤ n + 1; omega) (.slice p2 (n5 c).arrays.length q2)).setCell (p := ⟨n + 1, 2, none⟩) (by show w.heap.size ≤ n + 1; omega) (.slice p3 (n5 c).list.length q3)
  have r0 := L3.cell 0
  have r1 := L3.cell 1
  have r2 := L3.cell 2
  simp only [b81, b82, List.set_cons_zero, List.set_cons_succ] at r0 r1 r2
  generalize ((w2.setCell ⟨n + 1, 0, none⟩ (.slice p1 (n5 c).vars.length q1)).setCell ⟨n + 1, 1, none⟩ (.slice p2 (n5 c).arrays.length q2)).setCell ⟨n + 1, 2, none⟩ (.slice p3 (n5 c).list.length q3) = WF at *
  exact bodyPost_ret (v := .tuple #[.agg #[.slice p1 (n5 c).vars.length q1, .slice p2 (n5 c).arrays.length q2, .slice p3 (n5 c).list.length q3], .bool true]) (by simp [results, Tryz.results17, go_sem, r0, r1, r2]) rfl ⟨_, by rw [HO.out], by rw [HC.out]; exact oF.wide (by omega) (by omega), BF⟩
theorem aE6 (v : Value) (c : b6) (w : World) (h : t6 w v c) :
  Calls Tryz.prog 16 #[v] w fun e w' => ∃ u, e = .returned (.tuple #[u, .bool (i5 c)]) ∧ D7 w' w.heap.size w'.heap.size u (K9 c) ∧ Below w.heap.size w w' := by
 have hrow := h
 obtain ⟨v1, v2, v3, rfl, h1, h2, h3⟩ := h
 obtain ⟨n, hn⟩ : ∃ n, n = w.heap.size := ⟨_, rfl⟩
 obtain ⟨W, hW⟩ : ∃ W, W = (w.alloc (.cells #[v1, v2, v3] 26)).alloc (.cells #[.slice none 0 0, .slice none 0 0, .slice none 0 0] 26) := ⟨_, rfl⟩
 have B0 : Below w.heap.size w W := by rw [hW]; go_grown
 have sW : W.heap.size = n + 1 + 1 := by rw [hW, hn]; simp
 have L1 : A1 W n [v1, v2, v3] := by rw [hW, hn]; exact (A1.new w [v1, v2, v3] _).alloc _
 have L2 : A1 W (n + 1) [.slice none 0 0, .slice none 0 0, .slice none 0 0] := by rw [hW, hn]; exact A1.new' (w.alloc _) [.slice none 0 0, .slice none 0 0, .slice none 0 0] _ (by simp)
 have HT : Hid (K9 c = if i5 c = true then n5 c else ⟨[], [], []⟩) := rfl
 have x0 := L1.cell 0
 have x1 := L1.cell 1
 have x2 := L1.cell 2
 simp only [b81, b82] at x0 x1 x2
 rw [hW, hn] at x0 x1 x2
 go_enter Tryz.func16, Tryz.ntmps16
 go_wp2_with fail
 rw [← hW, ← hn]
 clear hW x0 x1 x2
 refine (V8 _ c _ (hrow.below B0)).mono ?_
 rintro e w1 ⟨rfl, b1⟩
 replace L1 := L1.below b1 L1.lt
 replace L2 := L2.below b1 L2.lt
 have B1 := B0.trans (b1.mono B0.size)
 have s1 := b1.size
 have HN := show Hid (n = w.heap.size) from hn
 clear b1 B0 hn
 have x0 := L1.cell 0
 have x1 := L1.cell 1
 have x2 := L1.cell 2
 simp only [b81, b82] at x0 x1 x2
 cases hc : i5 c
 ·have HC := show Hid (K9 c = ⟨[], [], []⟩) from by unfold Hid; rw [HT.out, hc]; simp
  have z0 := L2.cell 0
  have z1 := L2.cell 1
  have z2 := L2.cell 2
  simp only [b81, b82] at z0 z1 z2
  have f0 := L2.free 0
  have f1 := L2.free 1
  have f2 := L2.free 2
  have HO := show Hid _ from hc
  clear hc
  go_wp2_with fail
  have hn := HN.out
  have L3 := ((L2.set (j := 0) (.slice none 0 0)).set (j := 1) (.slice none 0 0)).set (j := 2) (.slice none 0 0)
  have BF := ((B1.setCell (p := ⟨n + 1, 0, none⟩) (by show w.heap.size ≤ n + 1; omega) (.slice none 0 0)).setCell (p := ⟨n + 1, 1, none⟩) (by show w.heap.size ≤ n + 1; omega) (.slice none 0 0)).setCell (p := ⟨n + 1, 2, none⟩) (by show w.heap.size ≤ n + 1; omega) (.slice none 0 0)
  have r0 := L3.cell 0
  have r1 := L3.cell 1
  have r2 := L3.cell 2
  simp only [b81, b82, List.set_cons_zero, List.set_cons_succ] at r0 r1 r2
  generalize ((w1.setCell ⟨n + 1, 0, none⟩ (.slice none 0 0)).setCell ⟨n + 1, 1, none⟩ (.slice none 0 0)).setCell ⟨n + 1, 2, none⟩ (.slice none 0 0) = WF at *
  exact bodyPost_ret (v := .tuple #[.agg #[.slice none 0 0, .slice none 0 0, .slice none 0 0], .bool false]) (by simp [results, Tryz.results16, go_sem, r0, r1, r2]) rfl ⟨_, by rw [HO.out], by rw [HC.out]; exact bi9 _ _ _, BF⟩
 ·have HC := show Hid (K9 c = n5 c) from by unfold Hid; rw [HT.out, hc]; simp
  have HO := show Hid _ from hc
  clear hc
  go_wp2_with fail
  refine (aN9 _ c HO.out _ (hrow.below B1)).mono ?_
  rintro e w2 ⟨u, rfl, ou, b2⟩
  obtain ⟨y1, y2, y3, rfl, -⟩ := id ou
  obtain ⟨p1, q1, p2, q2, p3, q3, rfl, rfl, rfl⟩ := Code.rowOf ou
  have B2 := B1.trans (b2.mono B1.size)
  replace L2 := L2.below b2 L2.lt
  have s2 := b2.size
  clear x0 x1 x2
  have z0 := L2.cell 0
  have z1 := L2.cell 1
  have z2 := L2.cell 2
  simp only [b81, b82] at z0 z1 z2
  have f0 := L2.free 0
  have f1 := L2.free 1
  have f2 := L2.free 2
  go_wp2_with fail
  have hn := HN.out
  have L3 := ((L2.set (j := 0) (.slice p1 (n5 c).vars.length q1)).set (j := 1) (.slice p2 (n5 c).arrays.length q2)).set (j := 2) (.slice p3 (n5 c).list.length q3)
  have hO : Out (n + 1) (n + 1 + 1) w2 (((w2.setCell ⟨n + 1, 0, none⟩ (.slice p1 (n5 c).vars.length q1)).setCell ⟨n + 1, 1, none⟩ (.slice p2 (n5 c).arrays.length q2)).setCell ⟨n + 1, 2, none⟩ (.slice p3 (n5 c).list.length q3)) :=
   (((Out.refl (n + 1) (n + 1 + 1) w2).setCell (p := ⟨n + 1, 0, none⟩) (b76 _) (cb1 _) _).setCell (p := ⟨n + 1, 1, none⟩) (b76 _) (cb1 _) _).setCell (p := ⟨n + 1, 2, none⟩) (b76 _) (cb1 _) _
  have oF := ou.out hO (.inr (by omega))
  have zF : (((w2.setCell ⟨n + 1, 0, none⟩ (.slice p1 (n5 c).vars.length q1)).setCell ⟨n + 1, 1, none⟩ (.slice p2 (n5 c).arrays.length q2)).setCell ⟨n + 1, 2, none⟩ (.slice p3 (n5 c).list.length q3)).heap.size = w2.heap.size := by simp
  have BF := ((B2.setCell (p := ⟨n + 1, 0, none⟩) (by show w.heap.size ≤ n + 1; omega) (.slice p1 (n5 c).vars.length q1)).setCell (p := ⟨n + 1, 1, none⟩) (by show w.heap.size ≤ n + 1; omega) (.slice p2 (n5 c).arrays.length q2)).setCell (p := ⟨n + 1, 2, none⟩) (by show w.heap.size ≤ n + 1; omega) (.slice p3 (n5 c).list.length q3)
  have r0 := L3.cell 0
  have r1 := L3.cell 1
  have r2 := L3.cell 2
  simp only [b81, b82, List.set_cons_zero, List.set_cons_succ] at r0 r1 r2
  generalize ((w2.setCell ⟨n + 1, 0, none⟩ (.slice p1 (n5 c).vars.length q1)).setCell ⟨n + 1, 1, none⟩ (.slice p2 (n5 c).arrays.length q2)).setCell ⟨n + 1, 2, none⟩ (.slice p3 (n5 c).list.length q3) = WF at *
  exact bodyPost_ret (v := .tuple #[.agg #[.slice p1 (n5 c).vars.length q1, .slice p2 (n5 c).arrays.length q2, .slice p3 (n5 c).list.length q3], .bool true]) (by simp [results, Tryz.results16, go_sem, r0, r1, r2]) rfl ⟨_, by rw [HO.out], by rw [HC.out]; exact oF.wide (by omega) (by omega), BF⟩
theorem bF3 (x y : d7) (w : World) : (binOp .neq 60 (.agg #[.int .i64 x.op, .int .i64 x.a, .int .i64 x.b, .int .i64 x.c, .int .i64 x.d]) (.agg #[.int .i64 y.op, .int .i64 y.a, .int .i64 y.b, .int .i64 y.c, .int .i64 y.d])).run Tryz.prog w = .ok (.bool (!decide (x.l = y.l))) w := by
 rw [run_neq_struct, run_equalIn_struct _ _ _ _ _ (by kernel_rfl) (by kernel_rfl)]
 rw [show (Tryz.prog.fieldsOf 60).toList = [⟨"Op", 3, 0, false, "", "", 0⟩, ⟨"A", 3, 1, false, "", "", 8⟩, ⟨"B", 3, 2, false, "", "", 16⟩, ⟨"C", 3, 3, false, "", "", 24⟩, ⟨"D", 3, 4, false, "", "", 32⟩] from by kernel_rfl]
 simp only [d7.l, List.cons.injEq, and_true]
 simp [go_sem, Op.eqFields]
 (repeat' split) <;> simp_all
theorem aC2 (v1 v2 : Value) (xs ys : List Int) (w : World) (h1 : F8 w v1 xs.length 1 (ints xs)) (h2 : F8 w v2 ys.length 1 (ints ys)) :
  Calls Tryz.prog 30 #[v1, v2] w fun e w' => e = .returned (.bool (decide (xs = ys))) ∧ ∃ n, w' = w.drewN n := by
 obtain ⟨a1, c1, rfl, -, hm1, -, hc1⟩ := h1.open1
 obtain ⟨a2, c2, rfl, -, hm2, -, hc2⟩ := h2.open1
 by_cases hl : xs.length = ys.length
 ·have heq : ((xs.length : Int) == (ys.length : Int)) = true := by simp; omega
  have HL : Hid (xs.length = ys.length) := hl
  clear h1 h2 hl
  go_enter Tryz.func30, Tryz.ntmps30
  go_wp2
  go_loopw [5, 13] (fun _ i wr => ∃ k : Nat, k ≤ xs.length ∧ i = .int .i64 k ∧ xs.take k = ys.take k ∧ ∃ n, wr = w.drewN n) (fun _ i _ => xs.length - (intOf i).toNat)
  case atStart => exact ⟨0, b92 _, rfl, rfl, 0, rfl⟩
  case round =>
   obtain ⟨k, hk, rfl, ht, nd, rfl⟩ := hrel
   have HT : Hid (xs.take k = ys.take k) := ht
   clear ht
   by_cases hlt : k < xs.length
   ·have hlt2 : k < ys.length := by have := HL.out; omega
    obtain ⟨b1, o1, rfl, hb1, hx⟩ := hc1 k hlt
    obtain ⟨b2, o2, rfl, hb2, hy⟩ := hc2 k hlt2
    rw [V6 _ _ hlt] at hx
    rw [V6 _ _ hlt2] at hy
    clear hc1 hc2
    go_wp2
    go_quiet (fail)
    go_wp2
    ·rename_i hd
     go_ret
     exact ⟨j7 (by symm; simp; intro h; subst h; simp at hd), _, by first | rfl | exact World.drewN_drewN _ _ _⟩
    ·rename_i hd
     refine ⟨⟨k + 1, by omega, by go_num, aa7 HT.out hlt hlt2 (by simpa using hd), _, by first | rfl | exact World.drewN_drewN _ _ _⟩, by simp [intOf]; omega⟩
   ·have hge : decide ((k : Int) < (xs.length : Int)) = false := by simp; omega
    go_wp2
    go_ret
    exact ⟨j7 (by symm; simp; exact ad6 HT.out (by omega) (by have := HL.out; omega)), _, rfl⟩
 ·have hne : ((xs.length : Int) == (ys.length : Int)) = false := by simp; omega
  clear hc1 hc2
  go_enter Tryz.func30, Tryz.ntmps30
  go_wp2
  go_ret
  exact ⟨j7 (by symm; simp; intro h; exact hl (by rw [h])), 0, rfl⟩
theorem bi3 (v1 v2 : Value) (xs ys : List d7) (w : World) (h1 : W5 w v1 xs) (h2 : W5 w v2 ys) :
  Calls Tryz.prog 31 #[v1, v2] w fun e w' => e = .returned (.bool (decide (A8 xs = A8 ys))) ∧ ∃ n, w' = w.drewN n := by
 obtain ⟨a1, c1, rfl, -, hm1, -, hc1⟩ := h1.ins
 obtain ⟨a2, c2, rfl, -, hm2, -, hc2⟩ := h2.ins
 by_cases hl : xs.length = ys.length
 ·have heq : ((xs.length : Int) == (ys.length : Int)) = true := by simp; omega
  have HL : Hid (xs.length = ys.length) := hl
  clear h1 h2 hl
  go_enter Tryz.func31, Tryz.ntmps31
  go_wp2
  go_loopw [5, 13] (fun _ i wr => ∃ k : Nat, k ≤ xs.length ∧ i = .int .i64 k ∧ xs.take k = ys.take k ∧ ∃ n, wr = w.drewN n) (fun _ i _ => xs.length - (intOf i).toNat)
  case atStart => exact ⟨0, b92 _, rfl, rfl, 0, rfl⟩
  case round =>
   obtain ⟨k, hk, rfl, ht, nd, rfl⟩ := hrel
   have HT : Hid (xs.take k = ys.take k) := ht
   clear ht
   by_cases hlt : k < xs.length
   ·have hlt2 : k < ys.length := by have := HL.out; omega
    obtain ⟨b1, o1, e1, hb1, i0, i1, i2, i3, i4⟩ := hc1 k hlt
    obtain ⟨b2, o2, e2, hb2, j0, j1, j2, j3, j4⟩ := hc2 k hlt2
    have hq := fun w => bF3 xs[k] ys[k] w
    have HE := show Hid _ from (fun (h : xs[k].l = ys[k].l) => aa7 HT.out hlt hlt2 (d7.ext' h))
    obtain ⟨q, hq0⟩ : ∃ q, q = !decide (xs[k].l = ys[k].l) := ⟨_, rfl⟩
    rw [← hq0] at hq
    have HQ0 := show Hid _ from hq0
    obtain ⟨x, hx⟩ : ∃ x, x = xs[k] := ⟨_, rfl⟩
    obtain ⟨y, hy⟩ : ∃ y, y = ys[k] := ⟨_, rfl⟩
    rw [← hx] at i0 i1 i2 i3 i4
    rw [← hy] at j0 j1 j2 j3 j4
    simp only [← hx, ← hy] at hq
    subst e1 e2
    clear hc1 hc2 hq0 hx hy
    cases q
    ·go_wp2
     go_quiet (fail)
     go_wp2
     refine ⟨⟨k + 1, by omega, by go_num, HE.out (by have := HQ0.out; simpa using this), _, by first | rfl | exact World.drewN_drewN _ _ _⟩, by simp [intOf]; omega⟩
    ·go_wp2
     go_quiet (fail)
     go_wp2
     go_ret
     exact ⟨j7 (by symm; simp; intro h; have := an9 h; subst this; simpa using HQ0.out), _, by first | rfl | exact World.drewN_drewN _ _ _⟩
   ·go_wp2
    go_ret
    exact ⟨j7 (by symm; simp; exact congrArg A8 (ad6 HT.out (by omega) (by have := HL.out; omega))), _, rfl⟩
 ·have hne : ((xs.length : Int) == (ys.length : Int)) = false := by simp; omega
  clear hc1 hc2
  go_enter Tryz.func31, Tryz.ntmps31
  go_wp2
  go_ret
  exact ⟨j7 (by symm; simp; intro h; exact hl (by rw [an9 h])), 0, rfl⟩
theorem aE7 (v u : Value) (c d : b6) (w : World) (h : t6 w v c) (h' : t6 w u d) :
  Calls Tryz.prog 10 #[v, u] w fun e w' => e = .returned (.bool (c.same d)) ∧ Below w.heap.size w w' := by
 obtain ⟨v1, v2, v3, rfl, h1, h2, h3⟩ := h
 obtain ⟨u1, u2, u3, rfl, g1, g2, g3⟩ := h'
 obtain ⟨W, hW, M⟩ : ∃ W, W = ((w.alloc (.cells #[v1, v2, v3] 26)).alloc (.cells #[u1, u2, u3] 26)) ∧ C9 (fun _ => True) (fun _ => True) w W [.box w.heap.size [v1, v2, v3], .box (w.heap.size + 1) [u1, u2, u3]] :=
  ⟨_, rfl, ((C9.start fun _ _ => trivial).box _ _).box' _ _ (by simp)⟩
 have hs : Hid (c.same d = (decide (c.vars = d.vars) && decide (c.arrays = d.arrays) && decide (A8 c.list = A8 d.list))) := rfl
 have HR := show Hid (∀ W', Below W.heap.size W W' → (F8 W' v1 c.vars.length 1 (ints c.vars) ∧ F8 W' v2 c.arrays.length 1 (ints c.arrays) ∧ W5 W' v3 c.list) ∧ F8 W' u1 d.vars.length 1 (ints d.vars) ∧ F8 W' u2 d.arrays.length 1 (ints d.arrays) ∧ W5 W' u3 d.list) from fun W' k => by
  have bb := (M.call k).below fun _ _ => trivial
  exact ⟨⟨h1.below bb, h2.below bb, h3.below bb⟩, g1.below bb, g2.below bb, g3.below bb⟩
 have HB := show Hid (∀ n, Below w.heap.size w (W.drewN n)) from fun n => (M.call (below_drewN (Below.refl _ _) n)).below fun _ _ => trivial
 have x0 := M.c 0 0 rfl rfl
 have x1 := M.c 0 1 rfl rfl
 have x2 := M.c 0 2 rfl rfl
 have y0 := M.c 1 0 rfl rfl
 have y1 := M.c 1 1 rfl rfl
 have y2 := M.c 1 2 rfl rfl
 rw [hW] at x0 x1 x2 y0 y1 y2
 clear h1 h2 h3 g1 g2 g3 M
 go_enter Tryz.func10, Tryz.ntmps10
 go_wp2_with fail
 rw [← hW] at x0 x1 x2 y0 y1 y2 ⊢
 clear hW
 refine (aC2 _ _ c.vars d.vars _ (HR.out _ (Below.refl _ _)).1.1 (HR.out _ (Below.refl _ _)).2.1).mono ?_
 rintro e w1 ⟨rfl, n1, rfl⟩
 by_cases q1 : c.vars = d.vars
 ·rw [decide_eq_true q1]
  have Q1 := show Hid _ from q1
  clear q1
  go_wp2_with fail
  refine (aC2 _ _ c.arrays d.arrays _ (HR.out _ (below_drewN (Below.refl _ _) n1)).1.2.1 (HR.out _ (below_drewN (Below.refl _ _) n1)).2.2.1).mono ?_
  rintro e w1 ⟨rfl, n2, rfl⟩
  by_cases q2 : c.arrays = d.arrays
  ·rw [decide_eq_true q2]
   have Q2 := show Hid _ from q2
   clear q2
   go_wp2_with fail
   refine (bi3 _ _ c.list d.list _ (HR.out _ (below_drewN (Below.refl _ _) (n1 + n2))).1.2.2 (HR.out _ (below_drewN (Below.refl _ _) (n1 + n2))).2.2.2).mono ?_
   rintro e w1 ⟨rfl, n3, rfl⟩
   obtain ⟨q, hq⟩ : ∃ q, q = decide (A8 c.list = A8 d.list) := ⟨_, rfl⟩
   rw [← hq]
   have HQ := show Hid _ from hq
   clear hq
   go_wp2_with fail
   go_ret
   exact ⟨j7 (by rw [hs.out, decide_eq_true Q1.out, decide_eq_true Q2.out, HQ.out]; rfl), HB.out _⟩
  ·rw [decide_eq_false q2]
   go_wp2_with fail
   go_ret
   exact ⟨j7 (by rw [hs.out, decide_eq_false q2]; simp), HB.out _⟩
 ·rw [decide_eq_false q1]
  go_wp2_with fail
  go_ret
  exact ⟨j7 (by rw [hs.out, decide_eq_false q1]; simp), HB.out _⟩
end Go.Proofs.YtmokkddidcmglaaGreat

namespace Go.Proofs.YtmokkddidcmglaaGreat
open Go Go.RowKit Go.ChangeShapes Go.WideShapes Go.Deep
section
variable {H : Type} {enc : TypeId × Value → H} {W : World}
theorem aF1 {fuel : Nat} {t : TypeId} {v : Value} {x : DataW H × List MemPlace} (ht : Tryz.prog.underlying t = some (.slice 5))
  (h : DataW.trod enc Tryz.prog W 0 (fun _ => true) true fuel t [v] = some x) : ∃ l : List UInt8, F8 W v l.length 1 (l.map fun b => Value.int .u8 (b.toNat : Int)) := by
 obtain ⟨n, m, C, hr, hC, hx⟩ := aU1 ht (sz := 1) (by kernel_rfl) (by omega) h
 obtain ⟨g, hg⟩ := choose_lt (α := UInt8) (n := n) (p := fun i b => C i = [.int .u8 (b.toNat : Int)]) (fun i hi => by
  obtain ⟨y, hy⟩ := hx i hi
  obtain ⟨z, hz, _, hw⟩ := DataW.trod_int Tryz.underlying5 hy
  simp only [Lit.wf, b73, decide_eq_true_eq] at hw
  have h0 : (0 : Int) ≤ z := hw.1
  have h1 : z ≤ 255 := hw.2
  refine ⟨UInt8.ofNat z.toNat, ?_⟩
  rw [hz]
  have e : (UInt8.ofNat z.toNat).toNat = z.toNat := by
   rw [UInt8.toNat_ofNat']; omega
  rw [e, Int.toNat_of_nonneg h0])
 refine ⟨(b88 n).map g, ?_⟩
 rw [List.length_map, List.length_range, ← aA2 n C (fun b => Value.int .u8 (b.toNat : Int)) g hg]
 exact hr
end
end Go.Proofs.YtmokkddidcmglaaGreat
