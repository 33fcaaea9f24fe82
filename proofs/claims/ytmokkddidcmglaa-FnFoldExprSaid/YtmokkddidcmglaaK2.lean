/- Part 2: functions on the way, plain laws. Conditions: as said. -/
import Derived.Test.YtmokkddidcmglaaRows
import Derived.OpenShut
import Derived.ChangeOld
import Derived.Deep.Slices
import Derived.Lib.SmallJoins
import Derived.StillTailTactics
import Derived.Deep.RegionHeld3
import Derived.Test.YtmokkddidcmglaaK1
set_option maxRecDepth 100000
set_option maxHeartbeats 16000000
set_option linter.unusedVariables false
set_option linter.unusedSimpArgs false
open Bool renaming and_eq_true → bE8
open Int renaming tmod_eq_emod_of_nonneg → bI3
open List renaming all_eq_true → bF5, getElem?_append_left → bH1, getElem?_append_right → bI6, getElem?_cons_succ → bG9, getElem?_cons_zero → bG1, getElem?_eq_getElem → bF0, getElem?_eq_some_iff → bF6, getElem_mem → bG3, length_append → bH8, map_cons → bH5, mem_cons_of_mem → bG0, mem_cons_self → bF7, mem_map → bI7, mem_of_getElem? → bE9, range → bH0, replicate → bG6, take_of_length_le → bF9
open Nat renaming le_refl → bG4, le_trans → bH6, mul_le_mul_right → bI5, reduceEqDiff → bG5, succ_mul → bI0, zero_add → bI4, zero_le → bI1
open True renaming intro → bF1

namespace Go.Proofs.Ytmokkddidcmglaa
open Go Go.RowKit Go.ChangeShapes Go.WideShapes Go.Deep
theorem own : ownKnob Try.prog.godebug = none := by kernel_rfl
theorem bi3 : laidOutB Try.prog = true := by kernel_rfl
section
variable {H : Type} {enc : TypeId × Value → H} {W : World}
theorem ba2 {C : Nat → List Value} {sz : Nat} (hC : ∀ i, (C i).length = sz) : ∀ (n i j : Nat), i < n → j < sz → ((bH0 n).flatMap C)[i * sz + j]? = (C i)[j]? := by
 intro n
 induction n with
 | zero => intro i j h; omega
 | succ n ih =>
  intro i j h hj
  have hlen : ((bH0 n).flatMap C).length = n * sz := by
   clear ih h
   induction n with
   | zero => simp
   | succ n ih2 => rw [List.range_succ, List.flatMap_append, bH8, ih2]; simp [hC, bI0]
  rw [List.range_succ, List.flatMap_append]
  by_cases hin : i < n
  ·rw [bH1 (by rw [hlen]; have := bI5 sz (Nat.succ_le_of_lt hin); rw [bI0] at this; omega)]
   exact ih i j hin hj
  ·obtain rfl : i = n := by omega
   rw [bI6 (by omega), hlen]
   simp
theorem aI7 {C : Nat → List Value} {sz : Nat} (hC : ∀ i, (C i).length = sz) (n : Nat) : ((bH0 n).flatMap C).length = n * sz := by
 induction n with
 | zero => simp
 | succ n ih2 => rw [List.range_succ, List.flatMap_append, bH8, ih2]; simp [hC, bI0]
theorem aG4 {t e : TypeId} {fuel : Nat} {v : Value} {x : DataW H × List MemPlace} {sz : Nat} (ht : Try.prog.underlying t = some (.slice e)) (hc : Try.prog.cellsOf e = sz) (hsz : 0 < sz)
  (h : DataW.trod enc Try.prog W 0 (fun _ => true) true fuel t [v] = some x) :
  ∃ (n m : Nat) (C : Nat → List Value), K9 W v n sz ((bH0 n).flatMap C) ∧ (∀ i, (C i).length = sz) ∧ ∀ i, i < n → ∃ y, DataW.trod enc Try.prog W 0 (fun _ => true) true m e (C i) = some y := by
 rcases open_slice ht h with ⟨hcs, _⟩ | ⟨a, len, cap, m, k, D, Pl, hcs, _, hl, hm, hmm, _, hx⟩
 ·cases hcs
  exact ⟨0, 0, fun _ => bG6 sz undef, K9.nil _ _, by simp, fun i hi => by omega⟩
 ·cases hcs
  rw [hc] at hx
  have hmc : len ≤ m := by rw [hmm]; simp; omega
  obtain ⟨C, hC⟩ := choose_lt (α := List Value) (n := len) (p := fun i cs => cs.length = sz ∧ (∀ j, j < sz → W.cell? (a.add (i * sz + j)) = cs[j]?) ∧ ∃ y, DataW.trod enc Try.prog W 0 (fun _ => true) true k e cs = some y) (fun i hi => by
   obtain ⟨cs', h1, h2⟩ := hx i (by omega)
   obtain ⟨_, hlen, hcell⟩ := World.cells?_some h1
   exact ⟨cs', hlen, fun j hj => by rw [← add_add]; exact hcell j hj, _, h2⟩)
  let C' : Nat → List Value := fun i => if i < len then C i else bG6 sz undef
  have hC' : ∀ i, (C' i).length = sz := fun i => by
   by_cases hi : i < len
   ·simp only [C', if_pos hi]; exact (hC i hi).1
   ·simp [C', if_neg hi]
  refine ⟨len, k, C', ⟨aI7 hC' len, some a, cap, rfl, hl, hm, fun hn => ?_⟩, hC', fun i hi => ?_⟩
  ·obtain ⟨b, off, spot⟩ := a
   have h00 := (hC 0 hn).2.1 0 hsz
   have hlen0 := (hC 0 hn).1
   rw [bF0 (by omega)] at h00
   have hs : spot = none := by
    simpa [Addr.add] using World.cell?_spot h00
   subst hs
   have hb : b < W.heap.size := by simpa [Addr.add] using World.block_lt_of_cell? W _ h00
   refine ⟨b, off, rfl, hb, fun j u hj => ?_⟩
   have hjl : j < len * sz := by have := (bF6.1 hj).1; rw [aI7 hC'] at this; exact this
   have hi : j / sz < len := Nat.div_lt_of_lt_mul (by rw [Nat.mul_comm]; exact hjl)
   have hr : j % sz < sz := Nat.mod_lt _ hsz
   have hjj : j / sz * sz + j % sz = j := Nat.div_add_mod' j sz
   have hg := ba2 hC' len (j / sz) (j % sz) hi hr
   rw [hjj, hj] at hg
   have hcc := (hC _ hi).2.1 _ hr
   simp only [C', if_pos hi] at hg
   rw [hjj, ← hg] at hcc
   have hadd : (⟨b, off, none⟩ : Addr).add j = ⟨b, off + j, none⟩ := by unfold Addr.add; split <;> simp_all
   rw [hadd] at hcc
   exact hcc
  ·obtain ⟨y, hy⟩ := (hC i hi).2.2
   exact ⟨y, by simp only [C', if_pos hi]; exact hy⟩
theorem aq6 {α : Type} (n : Nat) (C : Nat → List Value) (f : α → Value) (g : Nat → α) (h : ∀ i, i < n → C i = [f (g i)]) : (bH0 n).flatMap C = ((bH0 n).map g).map f := by
 rw [List.map_map, List.flatMap_def]
 rw [List.map_congr_left (g := fun i => [f (g i)]) (fun i hi => h i (by simpa using hi))]
 induction n with
 | zero => simp
 | succ n ih =>
  rw [List.range_succ, List.map_append, List.flatten_append, List.map_append, ih (fun i hi => h i (by omega))]
  simp
end
end Go.Proofs.Ytmokkddidcmglaa

namespace Go.Proofs.Ytmokkddidcmglaa
open Go Go.RowKit
def aa2 (w : World) (v : Value) (m : List (List Int)) : Prop :=
 ∃ vs : List Value, K9 w v m.length 1 vs ∧ ∀ (i : Nat) (u : Value) (r : List Int), vs[i]? = some u → m[i]? = some r → K9 w u r.length 1 (ints r)
def P8 (w : World) (lo hi : Nat) (v : Value) (m : List (List Int)) : Prop :=
 ∃ vs : List Value, V7 w lo hi 23 1 v m.length vs ∧ (∀ (i : Nat) (u : Value) (r : List Int), vs[i]? = some u → m[i]? = some r → V7 w lo hi 3 1 u r.length (ints r)) ∧
  (∀ (i j : Nat) (u u' : Value), i < j → vs[i]? = some u → vs[j]? = some u' → aL3 u u') ∧ ∀ (i : Nat) (u : Value), vs[i]? = some u → aL3 u v
theorem aa2.below {w w' : World} {v : Value} {m : List (List Int)} (h : aa2 w v m) (hb : Below w.heap.size w w') : aa2 w' v m := by
 obtain ⟨vs, h1, h2⟩ := h
 exact ⟨vs, h1.below hb, fun i u r a b => (h2 i u r a b).below hb⟩
theorem P8.row {w : World} {lo hi : Nat} {v : Value} {m : List (List Int)} (h : P8 w lo hi v m) : aa2 w v m := by
 obtain ⟨vs, h1, h2, _⟩ := h
 exact ⟨vs, h1.row, fun i u r a b => (h2 i u r a b).row⟩
theorem P8.keep {w w' : World} {lo hi B : Nat} {v : Value} {m : List (List Int)} (h : P8 w lo hi v m) (hb : Below B w w') (hB : hi ≤ B) : P8 w' lo hi v m := by
 obtain ⟨vs, h1, h2, hd⟩ := h
 exact ⟨vs, h1.keep hb hB, fun i u r a b => (h2 i u r a b).keep hb hB, hd⟩
theorem P8.out {w w' : World} {lo hi lo' hi' : Nat} {v : Value} {m : List (List Int)} (h : P8 w lo hi v m) (hb : Out lo' hi' w w') (hB : hi ≤ lo' ∨ hi' ≤ lo) : P8 w' lo hi v m := by
 obtain ⟨vs, h1, h2, hd⟩ := h
 exact ⟨vs, h1.out hb hB, fun i u r a b => (h2 i u r a b).out hb hB, hd⟩
theorem aa2.open {w : World} {v : Value} {m : List (List Int)} (h : aa2 w v m) : ∃ a cap, v = .slice a m.length cap ∧ m.length ≤ 9223372036854775807 ∧
  ∀ i (hi : i < m.length), ∃ b off a' c', a = some ⟨b, off, none⟩ ∧ b < w.heap.size ∧ w.cell? ⟨b, off + i, none⟩ = some (.slice a' m[i].length c') ∧ K9 w (.slice a' m[i].length c') m[i].length 1 (ints m[i]) := by
 obtain ⟨vs, h1, h2⟩ := h
 obtain ⟨a, cap, hv, hc, hm, hm2, hcell⟩ := h1.open1
 refine ⟨a, cap, hv, hm, fun i hi => ?_⟩
 obtain ⟨b, off, ha, hb, hx⟩ := hcell i hi
 have hl : i < vs.length := by rw [h1.1]; omega
 rw [bF0 hl] at hx
 have hr := h2 i _ _ (bF0 hl) (bF0 hi)
 obtain ⟨a', c', hs⟩ := hr.form
 rw [hs] at hx hr
 exact ⟨b, off, a', c', ha, hb, hx, hr⟩
end Go.Proofs.Ytmokkddidcmglaa

namespace Go.Proofs.Ytmokkddidcmglaa
mutual
def C9 : b5 → Bool
 | ⟨k, n, ks⟩ => decide ((ks.length : Int) = i8 k) && (decide (k ≠ 1) || (decide (0 ≤ n) && decide (n ≤ 255))) && X8 ks
def X8 : List b5 → Bool
 | [] => true
 | e :: r => C9 e && X8 r
end
theorem x7 (ks : List b5) : X8 ks = true ↔ ∀ e ∈ ks, C9 e = true := by
 induction ks with
 | nil => simp [X8]
 | cons a r ih => simp [X8, ih]
theorem N5 (e : b5) : C9 e = (decide ((e.kids.length : Int) = i8 e.kind) && (decide (e.kind ≠ 1) || (decide (0 ≤ e.value) && decide (e.value ≤ 255))) && X8 e.kids) := by cases e; rfl
theorem ai0 {e : b5} (h : C9 e = true) : (e.kids.length : Int) = i8 e.kind := by rw [N5] at h; simp at h; exact h.1.1
theorem N4 {e : b5} (h : C9 e = true) (hk : e.kind = 1) : 0 ≤ e.value ∧ e.value ≤ 255 := by rw [N5] at h; simp [hk] at h; exact h.1.2
theorem F3 {e : b5} (h : C9 e = true) : X8 e.kids = true := by rw [N5] at h; simp at h; exact h.2
theorem ar9 (nv na : Nat) : ∀ (d : Nat) (e : b5), d7 nv na d e = true → C9 e = true := by
 intro d
 induction d with
 | zero => intro e h; simp [d7] at h
 | succ d ih =>
  intro e h
  simp only [d7, r9, bE8, decide_eq_true_eq, bF5] at h
  obtain ⟨⟨⟨⟨h1, h2⟩, h3⟩, h4⟩, h5⟩ := h
  rw [N5]
  simp only [bE8, Bool.or_eq_true, decide_eq_true_eq]
  refine ⟨⟨h1, ?_⟩, (x7 _).2 fun x hx => ih x (h4 x hx)⟩
  by_cases hk : e.kind = 1
  ·right; rw [hk] at h3; simp [w6] at h3; omega
  ·exact .inl hk
theorem aK4 (k : Int) : i8 k ≤ 3 := by unfold i8; (repeat' split) <;> omega
mutual
def t9 : b5 → Bool
 | ⟨k, _, ks⟩ => decide (k ≠ 3) && Z1 ks
def Z1 : List b5 → Bool
 | [] => true
 | e :: r => t9 e && Z1 r
end
theorem aG7 (ks : List b5) : Z1 ks = ks.all t9 := by
 induction ks with
 | nil => rfl
 | cons a r ih => simp [Z1, ih]
theorem aq0 (e : b5) : t9 e = (decide (e.kind ≠ 3) && e.kids.all t9) := by cases e; simp only [t9, aG7]; rfl
def Y4 (b : Bool) : Int := if b then 1 else 0
def n4 (k a b : Int) : Int :=
 if k = 4 then (a + b).tmod 256 else if k = 5 then (a - b + 256).tmod 256 else if k = 6 then (a * b).tmod 256
 else if k = 7 then ((a.toNat &&& b.toNat : Nat) : Int) else if k = 8 then ((a.toNat ^^^ b.toNat : Nat) : Int) else if k = 9 then Y4 (decide (a = b)) else Y4 (decide (a < b))
theorem am1 (b : Bool) : 0 ≤ Y4 b ∧ Y4 b ≤ 255 := by cases b <;> simp [Y4]
theorem X9 {k a b : Int} (h1 : 0 ≤ a) (h2 : a ≤ 255) (h3 : 0 ≤ b) (h4 : b ≤ 255) : 0 ≤ n4 k a b ∧ n4 k a b ≤ 255 := by
 unfold n4
 have hm : 0 ≤ a * b := Int.mul_nonneg h1 h3
 have ha : a.toNat < 2 ^ 8 := by omega
 have hb : b.toNat < 2 ^ 8 := by omega
 have hand : a.toNat &&& b.toNat < 2 ^ 8 := Nat.and_lt_two_pow _ hb
 have hxor : a.toNat ^^^ b.toNat < 2 ^ 8 := Nat.xor_lt_two_pow ha hb
 split
 ·rw [bI3 (by omega)]; omega
 split
 ·rw [bI3 (by omega)]; omega
 split
 ·rw [bI3 hm]; omega
 split
 ·omega
 split
 ·omega
 split
 ·exact am1 _
 ·exact am1 _
def as9 (n : Int) : b5 := ⟨1, n, []⟩
def j5 (e : b5) (n : Int) : Bool := decide (e.kind = 1) && decide (e.value = n)
def j6 (e : b5) : b5 :=
 match e.kids with
 | [a, b] =>
  if a.kind = 1 ∧ b.kind = 1 then as9 (n4 e.kind a.value b.value)
  else if ((e.kind = 4 ∨ e.kind = 8) ∧ j5 a 0 = true) ∨ (e.kind = 6 ∧ j5 a 1 = true) then b
  else if ((e.kind = 4 ∨ e.kind = 8 ∨ e.kind = 5) ∧ j5 b 0 = true) ∨ (e.kind = 6 ∧ j5 b 1 = true) then a
  else e
 | [a, b, c] => if a.kind = 1 ∧ t9 b = true ∧ t9 c = true then (if a.value ≠ 0 then b else c) else e
 | _ => e
mutual
def b9 : b5 → b5
 | ⟨k, n, ks⟩ => j6 ⟨k, n, aC0 ks⟩
def aC0 : List b5 → List b5
 | [] => []
 | e :: r => b9 e :: aC0 r
end
theorem aQ6 (ks : List b5) : aC0 ks = ks.map b9 := by
 induction ks with
 | nil => rfl
 | cons a r ih => simp [aC0, ih]
theorem H1 (e : b5) : b9 e = j6 ⟨e.kind, e.value, e.kids.map b9⟩ := by cases e; simp only [b9, aQ6]; rfl
theorem C2 (k n : Int) (a b : b5) : j6 ⟨k, n, [a, b]⟩ = (if a.kind = 1 ∧ b.kind = 1 then as9 (n4 k a.value b.value)
  else if ((k = 4 ∨ k = 8) ∧ j5 a 0 = true) ∨ (k = 6 ∧ j5 a 1 = true) then b
  else if ((k = 4 ∨ k = 8 ∨ k = 5) ∧ j5 b 0 = true) ∨ (k = 6 ∧ j5 b 1 = true) then a
  else ⟨k, n, [a, b]⟩) := rfl
theorem al6 (k n : Int) (a b c : b5) : j6 ⟨k, n, [a, b, c]⟩ = (if a.kind = 1 ∧ t9 b = true ∧ t9 c = true then (if a.value ≠ 0 then b else c) else ⟨k, n, [a, b, c]⟩) := rfl
theorem P5 : ∀ e : b5, j6 e = e ∨ (j6 e ∈ e.kids) ∨ ∃ a b : b5, a ∈ e.kids ∧ b ∈ e.kids ∧ a.kind = 1 ∧ b.kind = 1 ∧ j6 e = as9 (n4 e.kind a.value b.value)
 | ⟨k, n, []⟩ => .inl rfl
 | ⟨k, n, [_]⟩ => .inl rfl
 | ⟨k, n, [a, b]⟩ => by
  rw [C2]
  show _ ∨ _ ∈ [a, b] ∨ _
  split
  ·rename_i h; exact .inr (.inr ⟨a, b, bF7, bG0 _ bF7, h.1, h.2, rfl⟩)
  split
  ·exact .inr (.inl (by simp))
  split
  ·exact .inr (.inl (by simp))
  ·exact .inl rfl
 | ⟨k, n, [a, b, c]⟩ => by
  rw [al6]
  show _ ∨ _ ∈ [a, b, c] ∨ _
  split
  ·split
   ·exact .inr (.inl (by simp))
   ·exact .inr (.inl (by simp))
  ·exact .inl rfl
 | ⟨k, n, _ :: _ :: _ :: _ :: _⟩ => .inl rfl
theorem aP2 {e : b5} (h : C9 e = true) : C9 (j6 e) = true := by
 rcases P5 e with h1 | h1 | ⟨a, b, ha, hb, ka, kb, h1⟩
 ·rw [h1]; exact h
 ·exact (x7 _).1 (F3 h) _ h1
 ·rw [h1]
  have va := N4 ((x7 _).1 (F3 h) _ ha) ka
  have vb := N4 ((x7 _).1 (F3 h) _ hb) kb
  have := X9 (k := e.kind) va.1 va.2 vb.1 vb.2
  simp [as9, C9, i8, X8, this]
theorem aQ7 (e : b5) : C9 e = true → C9 (b9 e) = true := by
 refine b5.ind (P := fun e => C9 e = true → C9 (b9 e) = true) (fun k n ks ih h => ?_) e
 rw [H1]
 refine aP2 ?_
 rw [N5] at h ⊢
 simp only [b5.kids, b5.kind, b5.value, List.length_map, bE8] at h ⊢
 refine ⟨h.1, (x7 _).2 fun x hx => ?_⟩
 obtain ⟨y, hy, rfl⟩ := bI7.1 hx
 exact ih y hy ((x7 _).1 h.2 y hy)
theorem a75 (e : b5) : G7 (j6 e) ≤ G7 e := by
 rcases P5 e with h1 | h1 | ⟨a, b, ha, hb, ka, kb, h1⟩
 ·rw [h1]; exact bG4 _
 ·rw [B7 e]; exact Nat.le_of_lt (aU4 h1)
 ·rw [h1]; simp [as9, G7, m6]
theorem ba0 (e : b5) : G7 (b9 e) ≤ G7 e := by
 refine b5.ind (P := fun e => G7 (b9 e) ≤ G7 e) (fun k n ks ih => ?_) e
 rw [H1]
 refine bH6 (a75 _) ?_
 rw [B7, B7]
 simp only [b5.kids]
 clear k n
 induction ks with
 | nil => simp
 | cons a r ihr =>
  simp only [bH5, m6]
  have h1 := ih a bF7
  have h2 := ihr fun e he => ih e (bG0 _ he)
  omega
end Go.Proofs.Ytmokkddidcmglaa

namespace Go.Proofs.Ytmokkddidcmglaa
open Go Go.RowKit
theorem aD0 (a b : Nat) (ha : a < 9223372036854775808) (hb : b < 9223372036854775808) : bits .and .i64 (a : Int) (b : Int) = ((a &&& b : Nat) : Int) := by
 have hx : a &&& b < 2 ^ 63 := Nat.and_lt_two_pow _ (by omega)
 have h1 : (BitVec.ofInt 64 (a : Int)).toNat = a := by
  rw [BitVec.ofInt_natCast, BitVec.toNat_ofNat]; exact Nat.mod_eq_of_lt (by omega)
 have h2 : (BitVec.ofInt 64 (b : Int)).toNat = b := by
  rw [BitVec.ofInt_natCast, BitVec.toNat_ofNat]; exact Nat.mod_eq_of_lt (by omega)
 show IntKind.i64.wrap ((BitVec.ofInt 64 (a : Int) &&& BitVec.ofInt 64 (b : Int)).toNat : Int) = _
 rw [BitVec.toNat_and, h1, h2, IntKind.wrap_i64]
 omega
theorem aC9 (a b : Nat) (ha : a < 9223372036854775808) (hb : b < 9223372036854775808) : bits .xor .i64 (a : Int) (b : Int) = ((a ^^^ b : Nat) : Int) := by
 have hx : a ^^^ b < 2 ^ 63 := Nat.xor_lt_two_pow (by omega) (by omega)
 have h1 : (BitVec.ofInt 64 (a : Int)).toNat = a := by
  rw [BitVec.ofInt_natCast, BitVec.toNat_ofNat]; exact Nat.mod_eq_of_lt (by omega)
 have h2 : (BitVec.ofInt 64 (b : Int)).toNat = b := by
  rw [BitVec.ofInt_natCast, BitVec.toNat_ofNat]; exact Nat.mod_eq_of_lt (by omega)
 show IntKind.i64.wrap ((BitVec.ofInt 64 (a : Int) ^^^ BitVec.ofInt 64 (b : Int)).toNat : Int) = _
 rw [BitVec.toNat_xor, h1, h2, IntKind.wrap_i64]
 omega
theorem ag7 {a b : Int} (h1 : 0 ≤ a) (h2 : a ≤ 255) (h3 : 0 ≤ b) (h4 : b ≤ 255) : bits .and .i64 a b = ((a.toNat &&& b.toNat : Nat) : Int) := by
 rw [← aD0 _ _ (by omega) (by omega), Int.toNat_of_nonneg h1, Int.toNat_of_nonneg h3]
theorem ag6 {a b : Int} (h1 : 0 ≤ a) (h2 : a ≤ 255) (h3 : 0 ≤ b) (h4 : b ≤ 255) : bits .xor .i64 a b = ((a.toNat ^^^ b.toNat : Nat) : Int) := by
 rw [← aC9 _ _ (by omega) (by omega), Int.toNat_of_nonneg h1, Int.toNat_of_nonneg h3]
theorem al1 (b : Bool) (w : World) : Calls Try.prog 134 #[.bool b] w fun e w' => e = .returned (.int .i64 (Y4 b)) ∧ w = w' := by
 cases b
 all_goals
  go_enter Try.func134, Try.ntmps134
  go_wp2_with fail
  go_ret
  exact ⟨rfl, rfl⟩
theorem ar6 (b : Bool) (w : World) : Calls Try.prog 106 #[.bool b] w fun e w' => e = .returned (.int .i64 (Y4 b)) ∧ w = w' := by
 cases b
 all_goals
  go_enter Try.func106, Try.ntmps106
  go_wp2_with fail
  go_ret
  exact ⟨rfl, rfl⟩
theorem aN0 (k a b : Int) (w : World) (h1 : 0 ≤ a) (h2 : a ≤ 255) (h3 : 0 ≤ b) (h4 : b ≤ 255) : Calls Try.prog 109 #[.int .i64 k, .int .i64 a, .int .i64 b] w fun e w' => e = .returned (.int .i64 (n4 k a b)) ∧ w = w' := by
 have hm : 0 ≤ a * b := Int.mul_nonneg h1 h3
 have hm2 : a * b ≤ 65025 := by
  have := Int.mul_le_mul h2 h4 h3 (by omega : (0 : Int) ≤ 255)
  omega
 by_cases k4 : k = 4
 ·subst k4
  have HV : Hid (n4 4 a b = (a + b).tmod 256) := by unfold Hid n4; simp
  go_enter Try.func109, Try.ntmps109
  go_wp2_with fail
  go_ret
  exact ⟨v9 (by rw [HV.out]; exact (bI3 (by first | assumption | omega)).symm), rfl⟩
 by_cases k5 : k = 5
 ·subst k5
  have HV : Hid (n4 5 a b = (a - b + 256).tmod 256) := by unfold Hid n4; simp
  go_enter Try.func109, Try.ntmps109
  go_wp2_with fail
  go_ret
  exact ⟨v9 (by rw [HV.out]; exact (bI3 (by first | assumption | omega)).symm), rfl⟩
 by_cases k6 : k = 6
 ·subst k6
  have HV : Hid (n4 6 a b = (a * b).tmod 256) := by unfold Hid n4; simp
  go_enter Try.func109, Try.ntmps109
  go_wp2_with fail
  go_ret
  exact ⟨v9 (by rw [HV.out]; exact (bI3 (by first | assumption | omega)).symm), rfl⟩
 by_cases k7 : k = 7
 ·subst k7
  have HV : Hid (n4 7 a b = bits .and .i64 a b) := by unfold Hid; rw [ag7 h1 h2 h3 h4]; unfold n4; simp
  go_enter Try.func109, Try.ntmps109
  go_wp2_with fail
  go_ret
  exact ⟨v9 (by rw [HV.out]), rfl⟩
 by_cases k8 : k = 8
 ·subst k8
  have HV : Hid (n4 8 a b = bits .xor .i64 a b) := by unfold Hid; rw [ag6 h1 h2 h3 h4]; unfold n4; simp
  go_enter Try.func109, Try.ntmps109
  go_wp2_with fail
  go_ret
  exact ⟨v9 (by rw [HV.out]), rfl⟩
 have HK := show Hid _ from And.intro k4 (And.intro k5 (And.intro k6 (And.intro k7 k8)))
 have p4 : (k == 4) = false := by simp [k4]
 have p5 : (k == 5) = false := by simp [k5]
 have p6 : (k == 6) = false := by simp [k6]
 have p7 : (k == 7) = false := by simp [k7]
 have p8 : (k == 8) = false := by simp [k8]
 clear k4 k5 k6 k7 k8
 by_cases k9 : k = 9
 ·subst k9
  have HV : Hid (n4 9 a b = Y4 (decide (a = b))) := by unfold Hid n4; simp
  clear hm hm2
  go_enter Try.func109, Try.ntmps109
  go_wp2_with fail
  refine (al1 _ _).mono ?_
  rintro x w1 ⟨rfl, rfl⟩
  go_wp2_with fail
  go_ret
  exact ⟨v9 (by rw [HV.out]; congr 1), rfl⟩
 ·have HV : Hid (n4 k a b = Y4 (decide (a < b))) := by
   obtain ⟨k4, k5, k6, k7, k8⟩ := HK.out
   unfold Hid n4; rw [if_neg k4, if_neg k5, if_neg k6, if_neg k7, if_neg k8, if_neg k9]
  have p9 : (k == 9) = false := by simp [k9]
  clear hm hm2 k9
  go_enter Try.func109, Try.ntmps109
  go_wp2_with fail
  refine (al1 _ _).mono ?_
  rintro x w1 ⟨rfl, rfl⟩
  go_wp2_with fail
  go_ret
  exact ⟨v9 (by rw [HV.out]), rfl⟩
theorem af6 (k a b : Int) (w : World) (h1 : 0 ≤ a) (h2 : a ≤ 255) (h3 : 0 ≤ b) (h4 : b ≤ 255) : Calls Try.prog 71 #[.int .i64 k, .int .i64 a, .int .i64 b] w fun e w' => e = .returned (.int .i64 (n4 k a b)) ∧ w = w' := by
 have hm : 0 ≤ a * b := Int.mul_nonneg h1 h3
 have hm2 : a * b ≤ 65025 := by
  have := Int.mul_le_mul h2 h4 h3 (by omega : (0 : Int) ≤ 255)
  omega
 by_cases k4 : k = 4
 ·subst k4
  have HV : Hid (n4 4 a b = (a + b).tmod 256) := by unfold Hid n4; simp
  go_enter Try.func71, Try.ntmps71
  go_wp2_with fail
  go_ret
  exact ⟨v9 (by rw [HV.out]; exact (bI3 (by first | assumption | omega)).symm), rfl⟩
 by_cases k5 : k = 5
 ·subst k5
  have HV : Hid (n4 5 a b = (a - b + 256).tmod 256) := by unfold Hid n4; simp
  go_enter Try.func71, Try.ntmps71
  go_wp2_with fail
  go_ret
  exact ⟨v9 (by rw [HV.out]; exact (bI3 (by first | assumption | omega)).symm), rfl⟩
 by_cases k6 : k = 6
 ·subst k6
  have HV : Hid (n4 6 a b = (a * b).tmod 256) := by unfold Hid n4; simp
  go_enter Try.func71, Try.ntmps71
  go_wp2_with fail
  go_ret
  exact ⟨v9 (by rw [HV.out]; exact (bI3 (by first | assumption | omega)).symm), rfl⟩
 by_cases k7 : k = 7
 ·subst k7
  have HV : Hid (n4 7 a b = bits .and .i64 a b) := by unfold Hid; rw [ag7 h1 h2 h3 h4]; unfold n4; simp
  go_enter Try.func71, Try.ntmps71
  go_wp2_with fail
  go_ret
  exact ⟨v9 (by rw [HV.out]), rfl⟩
 by_cases k8 : k = 8
 ·subst k8
  have HV : Hid (n4 8 a b = bits .xor .i64 a b) := by unfold Hid; rw [ag6 h1 h2 h3 h4]; unfold n4; simp
  go_enter Try.func71, Try.ntmps71
  go_wp2_with fail
  go_ret
  exact ⟨v9 (by rw [HV.out]), rfl⟩
 have HK := show Hid _ from And.intro k4 (And.intro k5 (And.intro k6 (And.intro k7 k8)))
 have p4 : (k == 4) = false := by simp [k4]
 have p5 : (k == 5) = false := by simp [k5]
 have p6 : (k == 6) = false := by simp [k6]
 have p7 : (k == 7) = false := by simp [k7]
 have p8 : (k == 8) = false := by simp [k8]
 clear k4 k5 k6 k7 k8
 by_cases k9 : k = 9
 ·subst k9
  have HV : Hid (n4 9 a b = Y4 (decide (a = b))) := by unfold Hid n4; simp
  clear hm hm2
  go_enter Try.func71, Try.ntmps71
  go_wp2_with fail
  refine (ar6 _ _).mono ?_
  rintro x w1 ⟨rfl, rfl⟩
  go_wp2_with fail
  go_ret
  exact ⟨v9 (by rw [HV.out]; congr 1), rfl⟩
 ·have HV : Hid (n4 k a b = Y4 (decide (a < b))) := by
   obtain ⟨k4, k5, k6, k7, k8⟩ := HK.out
   unfold Hid n4; rw [if_neg k4, if_neg k5, if_neg k6, if_neg k7, if_neg k8, if_neg k9]
  have p9 : (k == 9) = false := by simp [k9]
  clear hm hm2 k9
  go_enter Try.func71, Try.ntmps71
  go_wp2_with fail
  refine (ar6 _ _).mono ?_
  rintro x w1 ⟨rfl, rfl⟩
  go_wp2_with fail
  go_ret
  exact ⟨v9 (by rw [HV.out]), rfl⟩
theorem r7 (k n m : Int) (kv : Value) (w : World) : Calls Try.prog 110 #[.agg #[.int .i64 k, .int .i64 n, kv], .int .i64 m] w fun e w' => e = .returned (.bool (decide (k = 1) && decide (n = m))) ∧ Below w.heap.size w w' := by
 by_cases q1 : k = 1
 ·have p1 : (k == 1) = true := by simp [q1]
  have HQ := show Hid _ from q1
  clear q1
  by_cases q2 : n = m
  ·have p2 : (n == m) = true := by simp [q2]
   have HQ2 := show Hid _ from q2
   clear q2
   go_enter Try.func110, Try.ntmps110
   go_wp2_with fail
   go_ret
   exact ⟨f8 (by rw [decide_eq_true HQ.out, decide_eq_true HQ2.out]; rfl), by go_grown⟩
  ·have p2 : (n == m) = false := by simp [q2]
   have HQ2 := show Hid _ from q2
   clear q2
   go_enter Try.func110, Try.ntmps110
   go_wp2_with fail
   go_ret
   exact ⟨f8 (by rw [decide_eq_true HQ.out, decide_eq_false HQ2.out]; rfl), by go_grown⟩
 ·have p1 : (k == 1) = false := by simp [q1]
  have HQ := show Hid _ from q1
  clear q1
  go_enter Try.func110, Try.ntmps110
  go_wp2_with fail
  go_ret
  exact ⟨f8 (by rw [decide_eq_false HQ.out]; rfl), by go_grown⟩
theorem o5 (k n m : Int) (kv : Value) (w : World) : Calls Try.prog 72 #[.agg #[.int .i64 k, .int .i64 n, kv], .int .i64 m] w fun e w' => e = .returned (.bool (decide (k = 1) && decide (n = m))) ∧ Below w.heap.size w w' := by
 by_cases q1 : k = 1
 ·have p1 : (k == 1) = true := by simp [q1]
  have HQ := show Hid _ from q1
  clear q1
  by_cases q2 : n = m
  ·have p2 : (n == m) = true := by simp [q2]
   have HQ2 := show Hid _ from q2
   clear q2
   go_enter Try.func72, Try.ntmps72
   go_wp2_with fail
   go_ret
   exact ⟨f8 (by rw [decide_eq_true HQ.out, decide_eq_true HQ2.out]; rfl), by go_grown⟩
  ·have p2 : (n == m) = false := by simp [q2]
   have HQ2 := show Hid _ from q2
   clear q2
   go_enter Try.func72, Try.ntmps72
   go_wp2_with fail
   go_ret
   exact ⟨f8 (by rw [decide_eq_true HQ.out, decide_eq_false HQ2.out]; rfl), by go_grown⟩
 ·have p1 : (k == 1) = false := by simp [q1]
  have HQ := show Hid _ from q1
  clear q1
  go_enter Try.func72, Try.ntmps72
  go_wp2_with fail
  go_ret
  exact ⟨f8 (by rw [decide_eq_false HQ.out]; rfl), by go_grown⟩
theorem az2 (n : Int) (w : World) : Calls Try.prog 28 #[.int .i64 n] w fun e w' => e = .returned (.agg #[.int .i64 1, .int .i64 n, .slice none 0 0]) ∧ Below w.heap.size w w' := by
 have HM : Hid (m0 (fun _ => True) (fun _ => True) w _ [.box w.heap.size [.int .i64 1, .int .i64 n, .slice none 0 0]]) := (m0.start fun _ _ => trivial).box [.int .i64 1, .int .i64 n, .slice none 0 0] 29
 go_enter Try.func28, Try.ntmps28
 go_wp2_with fail
 have M2 := HM.out
 have r0 : World.cell? _ ⟨w.heap.size, 0, none⟩ = some (.int .i64 1) := M2.c 0 0 rfl rfl
 have r1 : World.cell? _ ⟨w.heap.size, 1, none⟩ = some (.int .i64 n) := M2.c 0 1 rfl rfl
 have r2 : World.cell? _ ⟨w.heap.size, 2, none⟩ = some (.slice none 0 0) := M2.c 0 2 rfl rfl
 exact bodyPost_ret (v := .agg #[.int .i64 1, .int .i64 n, .slice none 0 0]) (by simp [results, Try.results28, go_sem, r0, r1, r2]) rfl ⟨rfl, M2.below fun _ _ => trivial⟩
theorem aI0 (n : Int) (w : World) : Calls Try.prog 70 #[.int .i64 n] w fun e w' => e = .returned (.agg #[.int .i64 1, .int .i64 n, .slice none 0 0]) ∧ Below w.heap.size w w' := by
 have HM : Hid (m0 (fun _ => True) (fun _ => True) w _ [.box w.heap.size [.int .i64 1, .int .i64 n, .slice none 0 0]]) := (m0.start fun _ _ => trivial).box [.int .i64 1, .int .i64 n, .slice none 0 0] 29
 go_enter Try.func70, Try.ntmps70
 go_wp2_with fail
 have M2 := HM.out
 have r0 : World.cell? _ ⟨w.heap.size, 0, none⟩ = some (.int .i64 1) := M2.c 0 0 rfl rfl
 have r1 : World.cell? _ ⟨w.heap.size, 1, none⟩ = some (.int .i64 n) := M2.c 0 1 rfl rfl
 have r2 : World.cell? _ ⟨w.heap.size, 2, none⟩ = some (.slice none 0 0) := M2.c 0 2 rfl rfl
 exact bodyPost_ret (v := .agg #[.int .i64 1, .int .i64 n, .slice none 0 0]) (by simp [results, Try.results70, go_sem, r0, r1, r2]) rfl ⟨rfl, M2.below fun _ _ => trivial⟩
def QuE (e : b5) : Prop := ∀ (φ : Nat → Prop) (v : Value) (w : World), E8 w φ v e →
 Calls Try.prog 108 #[v] w fun x w' => x = .returned (.bool (t9 e)) ∧ Below w.heap.size w w'
theorem ae5 (e : b5) : QuE e := by
 refine b5.ind (P := QuE) (fun k0 n0 ks ih => ?_) e
 obtain ⟨e, he⟩ : ∃ e : b5, e = ⟨k0, n0, ks⟩ := ⟨_, rfl⟩
 have hks : ks = e.kids := by rw [he]; rfl
 rw [← he]
 subst hks
 clear he
 intro φ v w h
 obtain ⟨kv, rfl, hk⟩ := h
 obtain ⟨ak, ck, rfl, -, hn, -, hc⟩ := hk.open
 have HD := show Hid _ from aq0 e
 obtain ⟨W, hW, M⟩ : ∃ W, W = w.alloc (.cells #[.int .i64 e.kind, .int .i64 e.value, .slice ak e.kids.length ck] 29) ∧ m0 (fun _ => True) (fun _ => True) w W [.box w.heap.size [.int .i64 e.kind, .int .i64 e.value, .slice ak e.kids.length ck]] :=
  ⟨_, rfl, (m0.start fun _ _ => trivial).box _ _⟩
 have HC := show Hid _ from hc
 have y0 := M.c 0 0 rfl rfl
 rw [hW] at y0
 clear hk hc
 by_cases q : e.kind = 3
 ·have p : (e.kind == 3) = true := by simp [q]
  have HF : Hid (t9 e = false) := by rw [Hid, HD.out]; simp [q]
  have HB := show Hid _ from M.below fun _ _ => trivial
  clear q M
  go_enter Try.func108, Try.ntmps108
  go_wp2_with fail
  rw [← hW]
  clear hW
  go_ret
  exact ⟨f8 HF.out.symm, HB.out⟩
 have p : (e.kind == 3) = false := by simp [q]
 have HF : Hid (t9 e = e.kids.all t9) := by rw [Hid, HD.out, decide_eq_true q]; rfl
 clear q
 go_enter Try.func108, Try.ntmps108
 go_wp2_with fail
 rw [← hW]
 clear hW y0 p
 go_loopw [3] (fun i wr => ∃ k : Nat, k ≤ e.kids.length ∧ i = .int .i64 k ∧ (e.kids.take k).all t9 = true ∧ m0 (fun _ => True) (fun _ => True) w wr [.box w.heap.size [.int .i64 e.kind, .int .i64 e.value, .slice ak e.kids.length ck]]) (fun i _ => e.kids.length - (intOf i).toNat)
 case atStart => exact ⟨0, bI1 _, rfl, rfl, M⟩
 case round =>
  clear M
  obtain ⟨k, hk, rfl, hall, M⟩ := hrel
  have HALL := show Hid _ from hall
  have hB := M.below fun _ _ => trivial
  have y2 := M.c 0 2 rfl rfl
  clear hall
  by_cases hlt : k < e.kids.length
  ·obtain ⟨b, off, kv, rfl, hbk, hf, c0, c1', c2', hkv⟩ := HC.out k hlt
   rw [← (P7 hB).1 _ _ hbk] at c0 c1' c2'
   have HE := show Hid (E8 wr φ (.agg #[.int .i64 e.kids[k].kind, .int .i64 e.kids[k].value, kv]) e.kids[k]) from ⟨kv, rfl, n7.nice _ _ _ _ _ _ (O1.below hB) hkv⟩
   have HM := show Hid _ from M
   have hlt' : (k : Int) < e.kids.length := by omega
   clear hkv M hB
   go_wp2_with fail
   refine (ih _ (bG3 hlt) φ _ _ HE.out).mono ?_
   rintro x w2 ⟨rfl, b2⟩
   have HM2 := show Hid _ from HM.out.call b2
   obtain ⟨q, hq⟩ : ∃ q, q = t9 e.kids[k] := ⟨_, rfl⟩
   rw [← hq]
   have HQ := show Hid _ from hq
   clear b2 hq
   cases q
   ·go_wp2_with fail
    go_ret
    exact ⟨f8 (by rw [HF.out]; symm; exact List.all_eq_false.2 ⟨_, bG3 hlt, by rw [← HQ.out]; simp⟩), HM2.out.below fun _ _ => trivial⟩
   ·go_wp2_with fail
    refine ⟨⟨k + 1, by omega, by go_num, ?_, HM2.out⟩, by simp [intOf]; omega⟩
    rw [B9 _ _ hlt, List.all_append, HALL.out]
    simp [← HQ.out]
  ·have hkn : k = e.kids.length := by omega
   subst hkn
   have HB := show Hid _ from hB
   have hall := HALL.out
   rw [bF9 (bG4 _)] at hall
   have HAL := show Hid _ from hall
   clear M hB hall
   go_wp2_with fail
   go_ret
   exact ⟨f8 (by rw [HF.out, HAL.out]), HB.out⟩
theorem ar5 (p : b5 → Bool) (f : FuncId) (v : Value) (ks : List b5) (φ : Nat → Prop) (w : World) (h : n7 w φ v ks) (he : ∀ args w, (callFunc f args).run Try.prog w = .ok (.enter f args) w)
  (hf : ∀ x ∈ ks, ∀ u w', E8 w' φ u x → Calls Try.prog f #[u] w' fun e w'' => e = .returned (.bool (p x)) ∧ Below w'.heap.size w' w'') :
  Calls Try.prog 133 #[v, .func (.func f) #[] #[]] w fun e w' => ∃ r : Int, e = .returned (.int .i64 r) ∧ decide (0 ≤ r) = ks.any p ∧ Below w.heap.size w w' := by
 obtain ⟨ak, ck, rfl, -, hn, -, hc⟩ := h.open
 have HF := show Hid _ from hf
 have HC := show Hid _ from hc
 clear h hf hc
 go_enter Try.func133, Try.ntmps133
 go_wp2_with fail
 go_loopw [5, 8] (fun _ i wr => ∃ k : Nat, k ≤ ks.length ∧ i = .int .i64 k ∧ (ks.take k).any p = false ∧ Below w.heap.size w wr) (fun _ i _ => ks.length - (intOf i).toNat)
 case atStart => exact ⟨0, bI1 _, rfl, rfl, Below.refl _ _⟩
 case round =>
  obtain ⟨k, hk, rfl, ha, hB⟩ := hrel
  have HA := show Hid _ from ha
  have HB := show Hid _ from hB
  clear ha hB
  by_cases hlt : k < ks.length
  ·obtain ⟨b, off, kv, rfl, hbk, hf, c0, c1', c2', hkv⟩ := HC.out k hlt
   rw [← (P7 HB.out).1 _ _ hbk] at c0 c1' c2'
   have HE := show Hid (E8 wr φ (.agg #[.int .i64 ks[k].kind, .int .i64 ks[k].value, kv]) ks[k]) from ⟨kv, rfl, n7.nice _ _ _ _ _ _ (O1.below HB.out) hkv⟩
   have hlt' : (k : Int) < ks.length := by omega
   clear hkv
   go_wp2_with fail
   refine (HF.out _ (bG3 hlt) _ _ HE.out).mono ?_
   rintro e w1 ⟨rfl, b1⟩
   have HB1 := show Hid _ from HB.out.trans (b1.mono HB.out.size)
   clear b1
   obtain ⟨q, hq⟩ : ∃ q, q = p ks[k] := ⟨_, rfl⟩
   rw [← hq]
   have HQ := show Hid _ from hq
   clear hq
   cases q
   ·go_wp2_with fail
    exact ⟨⟨k + 1, by omega, by go_num, by rw [n8 _ _ hlt, List.any_append, HA.out]; simp [← HQ.out], HB1.out⟩, by simp [intOf]; omega⟩
   ·go_wp2_with fail
    go_ret
    exact ⟨_, rfl, by rw [decide_eq_true (by omega)]; symm; rw [List.any_eq_true]; exact ⟨_, bG3 hlt, HQ.out.symm⟩, HB1.out⟩
  ·go_wp2_with fail
   go_ret
   refine ⟨_, rfl, ?_, HB.out⟩
   have := HA.out
   rw [bF9 (by omega)] at this
   rw [this]; rfl
theorem ag3 (p : b5 → Bool) (f : FuncId) (v : Value) (ks : List b5) (φ : Nat → Prop) (w : World) (h : n7 w φ v ks) (he : ∀ args w, (callFunc f args).run Try.prog w = .ok (.enter f args) w)
  (hf : ∀ x ∈ ks, ∀ u w', E8 w' φ u x → Calls Try.prog f #[u] w' fun e w'' => e = .returned (.bool (p x)) ∧ Below w'.heap.size w' w'') :
  Calls Try.prog 105 #[v, .func (.func f) #[] #[]] w fun e w' => e = .returned (.bool (ks.any p)) ∧ Below w.heap.size w w' := by
 obtain ⟨a1, c1, rfl, -⟩ := h.open
 have HF := show Hid _ from hf
 have HE := show Hid _ from he
 have HH := show Hid _ from h
 clear hf he h
 go_enter Try.func105, Try.ntmps105
 go_wp2_with fail
 refine (ar5 p f _ ks φ _ HH.out HE.out HF.out).mono ?_
 rintro e w1 ⟨r, rfl, hr, b1⟩
 have HR := show Hid _ from hr
 have HB := show Hid _ from b1
 clear hr b1
 go_wp2_with fail
 go_ret
 exact ⟨f8 HR.out, HB.out⟩
def ReE (e : b5) : Prop := ∀ (φ : Nat → Prop) (v : Value) (w : World), E8 w φ v e →
 Calls Try.prog 68 #[v] w fun x w' => x = .returned (.bool (!t9 e)) ∧ Below w.heap.size w w'
theorem a19 (ks : List b5) : ks.any (fun e => !t9 e) = !ks.all t9 := by
 induction ks with
 | nil => rfl
 | cons a r ih => simp only [List.any_cons, List.all_cons, ih]; cases t9 a <;> simp
theorem ar7 (e : b5) : ReE e := by
 refine b5.ind (P := ReE) (fun k0 n0 ks ih => ?_) e
 obtain ⟨e, he⟩ : ∃ e : b5, e = ⟨k0, n0, ks⟩ := ⟨_, rfl⟩
 have hks : ks = e.kids := by rw [he]; rfl
 rw [← he]
 subst hks
 clear he
 intro φ v w h
 obtain ⟨kv, rfl, hk⟩ := h
 have HD := show Hid _ from aq0 e
 obtain ⟨W, hW, M⟩ : ∃ W, W = w.alloc (.cells #[.int .i64 e.kind, .int .i64 e.value, kv] 29) ∧ m0 (fun _ => True) (fun _ => True) w W [.box w.heap.size [.int .i64 e.kind, .int .i64 e.value, kv]] :=
  ⟨_, rfl, (m0.start fun _ _ => trivial).box _ _⟩
 have HB := show Hid _ from M.below fun _ _ => trivial
 have HK := show Hid _ from n7.nice _ _ _ _ _ _ (O1.below HB.out) hk
 have y0 := M.c 0 0 rfl rfl
 have y2 := M.c 0 2 rfl rfl
 rw [hW] at y0 y2
 clear hk M
 by_cases q : e.kind = 3
 ·have p : (e.kind == 3) = true := by simp [q]
  have HF : Hid (t9 e = false) := by rw [Hid, HD.out]; simp [q]
  clear q
  go_enter Try.func68, Try.ntmps68
  go_wp2_with fail
  rw [← hW]
  clear hW
  go_ret
  exact ⟨f8 (by rw [HF.out]; rfl), HB.out⟩
 have p : (e.kind == 3) = false := by simp [q]
 have HF : Hid (t9 e = e.kids.all t9) := by rw [Hid, HD.out, decide_eq_true q]; rfl
 clear q
 go_enter Try.func68, Try.ntmps68
 go_wp2_with fail
 rw [← hW]
 clear hW y0 p y2
 refine (ag3 (fun e => !t9 e) 68 _ e.kids φ _ HK.out (ai4 Try.func68 (by kernel_rfl) rfl) fun x hx u w' hu => ih x hx φ u w' hu).mono ?_
 rintro x w1 ⟨rfl, b1⟩
 rw [a19]
 have HB1 := show Hid _ from HB.out.trans (b1.mono HB.out.size)
 clear b1
 go_wp2_with fail
 go_ret
 exact ⟨f8 (by rw [HF.out]), HB1.out⟩
theorem i7.two {w : World} {S : Nat → Prop} {a b : b5} {v : Value} (h : i7 w v [a, b] S) : ∃ g off cap av ac bv bc, v = .slice (some ⟨g, off, none⟩) 2 cap ∧ g < w.heap.size ∧ S g ∧
  (w.cell? ⟨g, off, none⟩ = some (.int .i64 a.kind) ∧ w.cell? ⟨g, off + 1, none⟩ = some (.int .i64 a.value) ∧ w.cell? ⟨g, off + 2, none⟩ = some (.slice av a.kids.length ac) ∧
   w.cell? ⟨g, off + 3, none⟩ = some (.int .i64 b.kind) ∧ w.cell? ⟨g, off + 4, none⟩ = some (.int .i64 b.value) ∧ w.cell? ⟨g, off + 5, none⟩ = some (.slice bv b.kids.length bc)) ∧
  i7 w (.slice av a.kids.length ac) a.kids S ∧ i7 w (.slice bv b.kids.length bc) b.kids S := by
 obtain ⟨ad, cap, rfl, -, -, -, hc⟩ := h.open
 obtain ⟨g, off, kv, rfl, hg, hs, c0, c1, c2, k0⟩ := hc 0 (by simp)
 obtain ⟨g', off', kv', he, -, -, c3, c4, c5, k1⟩ := hc 1 (by simp)
 cases he
 obtain ⟨av, ac, rfl, -⟩ := k0.open
 obtain ⟨bv, bc, rfl, -⟩ := k1.open
 exact ⟨g, off, cap, av, ac, bv, bc, rfl, hg, hs, ⟨c0, c1, c2, c3, c4, c5⟩, k0, k1⟩
theorem i7.three {w : World} {S : Nat → Prop} {a b c : b5} {v : Value} (h : i7 w v [a, b, c] S) : ∃ g off cap av ac bv bc cv cc, v = .slice (some ⟨g, off, none⟩) 3 cap ∧ g < w.heap.size ∧ S g ∧
  (w.cell? ⟨g, off, none⟩ = some (.int .i64 a.kind) ∧ w.cell? ⟨g, off + 1, none⟩ = some (.int .i64 a.value) ∧ w.cell? ⟨g, off + 2, none⟩ = some (.slice av a.kids.length ac) ∧
   w.cell? ⟨g, off + 3, none⟩ = some (.int .i64 b.kind) ∧ w.cell? ⟨g, off + 4, none⟩ = some (.int .i64 b.value) ∧ w.cell? ⟨g, off + 5, none⟩ = some (.slice bv b.kids.length bc) ∧
   w.cell? ⟨g, off + 6, none⟩ = some (.int .i64 c.kind) ∧ w.cell? ⟨g, off + 7, none⟩ = some (.int .i64 c.value) ∧ w.cell? ⟨g, off + 8, none⟩ = some (.slice cv c.kids.length cc)) ∧
  i7 w (.slice av a.kids.length ac) a.kids S ∧ i7 w (.slice bv b.kids.length bc) b.kids S ∧ i7 w (.slice cv c.kids.length cc) c.kids S := by
 obtain ⟨ad, cap, rfl, -, -, -, hc⟩ := h.open
 obtain ⟨g, off, kv, rfl, hg, hs, c0, c1, c2, k0⟩ := hc 0 (by simp)
 obtain ⟨g', off', kv', he, -, -, c3, c4, c5, k1⟩ := hc 1 (by simp)
 cases he
 obtain ⟨g', off', kv'', he, -, -, c6, c7, c8, k2⟩ := hc 2 (by simp)
 cases he
 obtain ⟨av, ac, rfl, -⟩ := k0.open
 obtain ⟨bv, bc, rfl, -⟩ := k1.open
 obtain ⟨cv, cc, rfl, -⟩ := k2.open
 exact ⟨g, off, cap, av, ac, bv, bc, cv, cc, rfl, hg, hs, ⟨c0, c1, c2, c3, c4, c5, c6, c7, c8⟩, k0, k1, k2⟩
def aY1 (w : World) (S : Nat → Prop) (e : b5) (x : Ending) (w' : World) : Prop :=
 ∃ a c, x = .returned (.agg #[.int .i64 e.kind, .int .i64 e.value, .slice a e.kids.length c]) ∧ i7 w' (.slice a e.kids.length c) e.kids S ∧ Below w.heap.size w w'
theorem az1 (k n : Int) (a b : b5) (v : Value) (S : Nat → Prop) (w : World) (h : i7 w v [a, b] S) (h4 : 4 ≤ k) (h10 : k ≤ 10) (ha : a.kind = 1 → 0 ≤ a.value ∧ a.value ≤ 255) (hb : b.kind = 1 → 0 ≤ b.value ∧ b.value ≤ 255) :
  Calls Try.prog 74 #[.agg #[.int .i64 k, .int .i64 n, v]] w fun x w' => aY1 w S (j6 ⟨k, n, [a, b]⟩) x w' := by
 have hh := h
 obtain ⟨g, off, cap, av, ac, bv, bc, rfl, hg, hs, hcell, k0, k1⟩ := h.two
 have HCELL : Hid (∀ W, Below w.heap.size w W → W.cell? ⟨g, off, none⟩ = some (.int .i64 a.kind) ∧ W.cell? ⟨g, off + 1, none⟩ = some (.int .i64 a.value) ∧ W.cell? ⟨g, off + 2, none⟩ = some (.slice av a.kids.length ac) ∧
   W.cell? ⟨g, off + 3, none⟩ = some (.int .i64 b.kind) ∧ W.cell? ⟨g, off + 4, none⟩ = some (.int .i64 b.value) ∧ W.cell? ⟨g, off + 5, none⟩ = some (.slice bv b.kids.length bc)) := fun W hW => by
  have hc := fun o => (P7 hW).1 g o hg
  simp only [hc]; exact hcell
 have HKK : Hid (∀ W, Below w.heap.size w W → i7 W (.slice av a.kids.length ac) a.kids S ∧ i7 W (.slice bv b.kids.length bc) b.kids S ∧ i7 W (.slice (some ⟨g, off, none⟩) 2 cap) [a, b] S) := fun W hW =>
  ⟨i7.same k0 fun b _ hl => hW.block b hl, i7.same k1 fun b _ hl => hW.block b hl, i7.same hh fun b _ hl => hW.block b hl⟩
 clear hcell k0 k1 h hh hs
 have p11 : (k == 11) = false := by simp; omega
 have p3 : ¬ (k < 4) := by omega
 obtain ⟨W, hW, M⟩ : ∃ W, W = (w.alloc (.cells #[.int .i64 k, .int .i64 n, .slice (some ⟨g, off, none⟩) 2 cap] 29)).alloc (.cells #[.int .i64 0, .int .i64 0, .slice none 0 0] 29) ∧ m0 (fun _ => True) (fun _ => True) w W [.box w.heap.size [.int .i64 k, .int .i64 n, .slice (some ⟨g, off, none⟩) 2 cap], .box (w.heap.size + 1) [.int .i64 0, .int .i64 0, .slice none 0 0]] :=
  ⟨_, rfl, ((m0.start fun _ _ => trivial).box _ _).box' _ _ (by simp)⟩
 by_cases qa : a.kind = 1
 ·have pa : (a.kind == 1) = true := by simp [qa]
  by_cases qb : b.kind = 1
  ·have pb : (b.kind == 1) = true := by simp [qb]
   have HN : Hid (j6 ⟨k, n, [a, b]⟩ = ⟨1, n4 k a.value b.value, []⟩) := by rw [Hid, C2, if_pos ⟨qa, qb⟩]; rfl
   have HA := ha qa
   have HB := hb qb
   clear qa qb ha hb
   have y0 := M.c 0 0 rfl rfl
   have y1 := M.c 0 1 rfl rfl
   have y2 := M.c 0 2 rfl rfl
   have d0 := M.c 1 0 rfl rfl
   have d1 := M.c 1 1 rfl rfl
   have d2 := M.c 1 2 rfl rfl
   have ff := M.f 1 rfl
   obtain ⟨c0, c1, c2, c3, c4, c5⟩ := HCELL.out _ (M.below fun _ _ => trivial)
   have HM := show Hid _ from M
   rw [hW] at y0 y1 y2 d0 d1 d2 ff c0 c1 c2 c3 c4 c5
   clear M
   go_enter Try.func74, Try.ntmps74
   go_wp2_with fail
   rw [← hW]
   clear hW
   have M := HM.out
   clear HM y0 y1 y2 d0 d1 d2 ff c0 c1 c2 c3 c4 c5
   have y0 := M.c 0 0 rfl rfl
   have y2 := M.c 0 2 rfl rfl
   have d0 := M.c 1 0 rfl rfl
   have d1 := M.c 1 1 rfl rfl
   have d2 := M.c 1 2 rfl rfl
   have ff := M.f 1 rfl
   obtain ⟨c0, c1, c2, c3, c4, c5⟩ := HCELL.out _ (M.below fun _ _ => trivial)
   have z0 := fun X => o6 y0 X
   have z2 := fun X => o6 y2 X
   have z3 := fun X => o6 d0 X
   have z4 := fun X => o6 d1 X
   have z5 := fun X => o6 d2 X
   have z6 := fun X => ac6 (M.lt (r := .box (w.heap.size + 1) [.int .i64 0, .int .i64 0, .slice none 0 0]) (bG0 _ bF7) rfl) (ff 0) X
   have z7 := fun X => ac6 (M.lt (r := .box (w.heap.size + 1) [.int .i64 0, .int .i64 0, .slice none 0 0]) (bG0 _ bF7) rfl) (ff 1) X
   have z8 := fun X => ac6 (M.lt (r := .box (w.heap.size + 1) [.int .i64 0, .int .i64 0, .slice none 0 0]) (bG0 _ bF7) rfl) (ff 2) X
   have e0 := fun X => o6 c0 X
   have e1 := fun X => o6 c1 X
   have e3 := fun X => o6 c3 X
   have e4 := fun X => o6 c4 X
   have HC1 : Hid (∀ X, Calls Try.prog 109 #[.int .i64 k, .int .i64 a.value, .int .i64 b.value] (W.ext X) fun x w'' => x = .returned (.int .i64 (n4 k a.value b.value)) ∧ ∃ Y, w'' = W.ext Y) := fun X =>
    Calls.ext_of' ((aN0 k a.value b.value _ HA.1 HA.2 HB.1 HB.2).mono fun x w' h => ⟨h.1, h.2 ▸ Below.refl _ _⟩)
   have HC2 : Hid (∀ X, Calls Try.prog 28 #[.int .i64 (n4 k a.value b.value)] (W.ext X) fun x w'' => x = .returned (.agg #[.int .i64 1, .int .i64 (n4 k a.value b.value), .slice none 0 0]) ∧ ∃ Y, w'' = W.ext Y) := fun X =>
    Calls.ext_of' (az2 _ _)
   have HM := show Hid _ from M
   clear M y0 y2 d0 d1 d2 ff c0 c1 c2 c3 c4 c5 HA HB
   refine ao3 14 _ rfl (by kernel_rfl) (by kernel_rfl) ?_
   simp only [List.set_cons_succ, List.set_cons_zero, W2]
   repeat (any_goals (first | go_big_quiet_step (((first | (go_at_call 109; exact HC1.out _) | (go_at_call 28; exact HC2.out _)))) | quiet_step (((first | (go_at_call 109; exact HC1.out _) | (go_at_call 28; exact HC2.out _))))))
   refine wpQuiet_nil ?_
   rintro _ ⟨X, rfl⟩
   replace HM := show Hid _ from (((HM.out.call (t5 W X)).set 1 rfl 0 (.int .i64 1)).set 1 rfl 1 (.int .i64 (n4 k a.value b.value))).set 1 rfl 2 (.slice none 0 0)
   go_wp2_with fail
   have M2 := HM.out
   have r0 : World.cell? _ ⟨w.heap.size + 1, 0, none⟩ = some (.int .i64 1) := M2.c 1 0 rfl rfl
   have r1 : World.cell? _ ⟨w.heap.size + 1, 1, none⟩ = some (.int .i64 (n4 k a.value b.value)) := M2.c 1 1 rfl rfl
   have r2 : World.cell? _ ⟨w.heap.size + 1, 2, none⟩ = some (.slice none 0 0) := M2.c 1 2 rfl rfl
   refine bodyPost_ret (v := .agg #[.int .i64 1, .int .i64 (n4 k a.value b.value), .slice none 0 0]) (by simp [results, Try.results74, go_sem, r0, r1, r2]) rfl ?_
   rw [HN.out]
   exact ⟨_, _, rfl, i7.nil _ _, M2.below fun _ _ => trivial⟩
  ·have pb : (b.kind == 1) = false := by simp [qb]
   have HCN : Hid (¬ (a.kind = 1 ∧ b.kind = 1)) := fun h => qb h.2
   clear qa qb ha hb
   by_cases q4 : k = 4
   ·subst q4
    have y0 := M.c 0 0 rfl rfl
    have y1 := M.c 0 1 rfl rfl
    have y2 := M.c 0 2 rfl rfl
    have d0 := M.c 1 0 rfl rfl
    have d1 := M.c 1 1 rfl rfl
    have d2 := M.c 1 2 rfl rfl
    have ff := M.f 1 rfl
    obtain ⟨c0, c1, c2, c3, c4, c5⟩ := HCELL.out _ (M.below fun _ _ => trivial)
    have HM := show Hid _ from M
    rw [hW] at y0 y1 y2 d0 d1 d2 ff c0 c1 c2 c3 c4 c5
    clear M
    go_enter Try.func74, Try.ntmps74
    go_wp2_with fail
    rw [← hW]
    clear hW
    have M := HM.out
    clear HM y0 y1 y2 d0 d1 d2 ff c0 c1 c2 c3 c4 c5
    refine (r7 a.kind a.value 0 (.slice av a.kids.length ac) _).mono ?_
    rintro x w1 ⟨rfl, b1⟩
    rw [show (decide (a.kind = 1) && decide (a.value = 0)) = j5 a 0 from rfl]
    replace M := M.call b1
    clear b1
    cases hK : j5 a 0
    ·have y0 := M.c 0 0 rfl rfl
     have y1 := M.c 0 1 rfl rfl
     have y2 := M.c 0 2 rfl rfl
     have d0 := M.c 1 0 rfl rfl
     have d1 := M.c 1 1 rfl rfl
     have d2 := M.c 1 2 rfl rfl
     have ff := M.f 1 rfl
     obtain ⟨c0, c1, c2, c3, c4, c5⟩ := HCELL.out _ (M.below fun _ _ => trivial)
     have HM := show Hid _ from M
     clear M
     go_wp2_with fail
     have M := HM.out
     clear HM y0 y1 y2 d0 d1 d2 ff c0 c1 c2 c3 c4 c5
     refine (r7 b.kind b.value 0 (.slice bv b.kids.length bc) _).mono ?_
     rintro x w1 ⟨rfl, b1⟩
     rw [show (decide (b.kind = 1) && decide (b.value = 0)) = j5 b 0 from rfl]
     replace M := M.call b1
     clear b1
     cases hK2 : j5 b 0
     ·have HN : Hid (j6 ⟨4, n, [a, b]⟩ = ⟨4, n, [a, b]⟩) := by rw [Hid, C2, if_neg HCN.out, if_neg (by simp [hK]), if_neg (by simp [hK2])]
      clear hK hK2
      have y0 := M.c 0 0 rfl rfl
      have y1 := M.c 0 1 rfl rfl
      have y2 := M.c 0 2 rfl rfl
      have d0 := M.c 1 0 rfl rfl
      have d1 := M.c 1 1 rfl rfl
      have d2 := M.c 1 2 rfl rfl
      have ff := M.f 1 rfl
      obtain ⟨c0, c1, c2, c3, c4, c5⟩ := HCELL.out _ (M.below fun _ _ => trivial)
      have HM := show Hid _ from ((M.set 1 rfl 0 (.int .i64 4)).set 1 rfl 1 (.int .i64 n)).set 1 rfl 2 (.slice (some ⟨g, off, none⟩) 2 cap)
      clear M
      go_wp2_with fail
      have M2 := HM.out
      have r0 : World.cell? _ ⟨w.heap.size + 1, 0, none⟩ = some (.int .i64 4) := M2.c 1 0 rfl rfl
      have r1 : World.cell? _ ⟨w.heap.size + 1, 1, none⟩ = some (.int .i64 n) := M2.c 1 1 rfl rfl
      have r2 : World.cell? _ ⟨w.heap.size + 1, 2, none⟩ = some (.slice (some ⟨g, off, none⟩) 2 cap) := M2.c 1 2 rfl rfl
      refine bodyPost_ret (v := .agg #[.int .i64 4, .int .i64 n, .slice (some ⟨g, off, none⟩) 2 cap]) (by simp [results, Try.results74, go_sem, r0, r1, r2]) rfl ?_
      rw [HN.out]
      exact ⟨_, _, rfl, HKK.out _ (M2.below fun _ _ => trivial) |>.2.2, M2.below fun _ _ => trivial⟩
     ·have HN : Hid (j6 ⟨4, n, [a, b]⟩ = a) := by rw [Hid, C2, if_neg HCN.out, if_neg (by simp [hK]), if_pos (by simp [hK2])]
      clear hK hK2
      have y0 := M.c 0 0 rfl rfl
      have y1 := M.c 0 1 rfl rfl
      have y2 := M.c 0 2 rfl rfl
      have d0 := M.c 1 0 rfl rfl
      have d1 := M.c 1 1 rfl rfl
      have d2 := M.c 1 2 rfl rfl
      have ff := M.f 1 rfl
      obtain ⟨c0, c1, c2, c3, c4, c5⟩ := HCELL.out _ (M.below fun _ _ => trivial)
      have HM := show Hid _ from ((M.set 1 rfl 0 (.int .i64 a.kind)).set 1 rfl 1 (.int .i64 a.value)).set 1 rfl 2 (.slice av a.kids.length ac)
      clear M
      go_wp2_with fail
      have M2 := HM.out
      have r0 : World.cell? _ ⟨w.heap.size + 1, 0, none⟩ = some (.int .i64 a.kind) := M2.c 1 0 rfl rfl
      have r1 : World.cell? _ ⟨w.heap.size + 1, 1, none⟩ = some (.int .i64 a.value) := M2.c 1 1 rfl rfl
      have r2 : World.cell? _ ⟨w.heap.size + 1, 2, none⟩ = some (.slice av a.kids.length ac) := M2.c 1 2 rfl rfl
      refine bodyPost_ret (v := .agg #[.int .i64 a.kind, .int .i64 a.value, .slice av a.kids.length ac]) (by simp [results, Try.results74, go_sem, r0, r1, r2]) rfl ?_
      rw [HN.out]
      exact ⟨_, _, rfl, HKK.out _ (M2.below fun _ _ => trivial) |>.1, M2.below fun _ _ => trivial⟩
    ·have HN : Hid (j6 ⟨4, n, [a, b]⟩ = b) := by rw [Hid, C2, if_neg HCN.out, if_pos (by simp [hK])]
     clear hK
     have y0 := M.c 0 0 rfl rfl
     have y1 := M.c 0 1 rfl rfl
     have y2 := M.c 0 2 rfl rfl
     have d0 := M.c 1 0 rfl rfl
     have d1 := M.c 1 1 rfl rfl
     have d2 := M.c 1 2 rfl rfl
     have ff := M.f 1 rfl
     obtain ⟨c0, c1, c2, c3, c4, c5⟩ := HCELL.out _ (M.below fun _ _ => trivial)
     have HM := show Hid _ from ((M.set 1 rfl 0 (.int .i64 b.kind)).set 1 rfl 1 (.int .i64 b.value)).set 1 rfl 2 (.slice bv b.kids.length bc)
     clear M
     go_wp2_with fail
     have M2 := HM.out
     have r0 : World.cell? _ ⟨w.heap.size + 1, 0, none⟩ = some (.int .i64 b.kind) := M2.c 1 0 rfl rfl
     have r1 : World.cell? _ ⟨w.heap.size + 1, 1, none⟩ = some (.int .i64 b.value) := M2.c 1 1 rfl rfl
     have r2 : World.cell? _ ⟨w.heap.size + 1, 2, none⟩ = some (.slice bv b.kids.length bc) := M2.c 1 2 rfl rfl
     refine bodyPost_ret (v := .agg #[.int .i64 b.kind, .int .i64 b.value, .slice bv b.kids.length bc]) (by simp [results, Try.results74, go_sem, r0, r1, r2]) rfl ?_
     rw [HN.out]
     exact ⟨_, _, rfl, HKK.out _ (M2.below fun _ _ => trivial) |>.2.1, M2.below fun _ _ => trivial⟩
   by_cases q8 : k = 8
   ·subst q8
    have y0 := M.c 0 0 rfl rfl
    have y1 := M.c 0 1 rfl rfl
    have y2 := M.c 0 2 rfl rfl
    have d0 := M.c 1 0 rfl rfl
    have d1 := M.c 1 1 rfl rfl
    have d2 := M.c 1 2 rfl rfl
    have ff := M.f 1 rfl
    obtain ⟨c0, c1, c2, c3, c4, c5⟩ := HCELL.out _ (M.below fun _ _ => trivial)
    have HM := show Hid _ from M
    rw [hW] at y0 y1 y2 d0 d1 d2 ff c0 c1 c2 c3 c4 c5
    clear M
    go_enter Try.func74, Try.ntmps74
    go_wp2_with fail
    rw [← hW]
    clear hW
    have M := HM.out
    clear HM y0 y1 y2 d0 d1 d2 ff c0 c1 c2 c3 c4 c5
    refine (r7 a.kind a.value 0 (.slice av a.kids.length ac) _).mono ?_
    rintro x w1 ⟨rfl, b1⟩
    rw [show (decide (a.kind = 1) && decide (a.value = 0)) = j5 a 0 from rfl]
    replace M := M.call b1
    clear b1
    cases hK : j5 a 0
    ·have y0 := M.c 0 0 rfl rfl
     have y1 := M.c 0 1 rfl rfl
     have y2 := M.c 0 2 rfl rfl
     have d0 := M.c 1 0 rfl rfl
     have d1 := M.c 1 1 rfl rfl
     have d2 := M.c 1 2 rfl rfl
     have ff := M.f 1 rfl
     obtain ⟨c0, c1, c2, c3, c4, c5⟩ := HCELL.out _ (M.below fun _ _ => trivial)
     have HM := show Hid _ from M
     clear M
     go_wp2_with fail
     have M := HM.out
     clear HM y0 y1 y2 d0 d1 d2 ff c0 c1 c2 c3 c4 c5
     refine (r7 b.kind b.value 0 (.slice bv b.kids.length bc) _).mono ?_
     rintro x w1 ⟨rfl, b1⟩
     rw [show (decide (b.kind = 1) && decide (b.value = 0)) = j5 b 0 from rfl]
     replace M := M.call b1
     clear b1
     cases hK2 : j5 b 0
     ·have HN : Hid (j6 ⟨8, n, [a, b]⟩ = ⟨8, n, [a, b]⟩) := by rw [Hid, C2, if_neg HCN.out, if_neg (by simp [hK]), if_neg (by simp [hK2])]
      clear hK hK2
      have y0 := M.c 0 0 rfl rfl
      have y1 := M.c 0 1 rfl rfl
      have y2 := M.c 0 2 rfl rfl
      have d0 := M.c 1 0 rfl rfl
      have d1 := M.c 1 1 rfl rfl
      have d2 := M.c 1 2 rfl rfl
      have ff := M.f 1 rfl
      obtain ⟨c0, c1, c2, c3, c4, c5⟩ := HCELL.out _ (M.below fun _ _ => trivial)
      have HM := show Hid _ from ((M.set 1 rfl 0 (.int .i64 8)).set 1 rfl 1 (.int .i64 n)).set 1 rfl 2 (.slice (some ⟨g, off, none⟩) 2 cap)
      clear M
      go_wp2_with fail
      have M2 := HM.out
      have r0 : World.cell? _ ⟨w.heap.size + 1, 0, none⟩ = some (.int .i64 8) := M2.c 1 0 rfl rfl
      have r1 : World.cell? _ ⟨w.heap.size + 1, 1, none⟩ = some (.int .i64 n) := M2.c 1 1 rfl rfl
      have r2 : World.cell? _ ⟨w.heap.size + 1, 2, none⟩ = some (.slice (some ⟨g, off, none⟩) 2 cap) := M2.c 1 2 rfl rfl
      refine bodyPost_ret (v := .agg #[.int .i64 8, .int .i64 n, .slice (some ⟨g, off, none⟩) 2 cap]) (by simp [results, Try.results74, go_sem, r0, r1, r2]) rfl ?_
      rw [HN.out]
      exact ⟨_, _, rfl, HKK.out _ (M2.below fun _ _ => trivial) |>.2.2, M2.below fun _ _ => trivial⟩
     ·have HN : Hid (j6 ⟨8, n, [a, b]⟩ = a) := by rw [Hid, C2, if_neg HCN.out, if_neg (by simp [hK]), if_pos (by simp [hK2])]
      clear hK hK2
      have y0 := M.c 0 0 rfl rfl
      have y1 := M.c 0 1 rfl rfl
      have y2 := M.c 0 2 rfl rfl
      have d0 := M.c 1 0 rfl rfl
      have d1 := M.c 1 1 rfl rfl
      have d2 := M.c 1 2 rfl rfl
      have ff := M.f 1 rfl
      obtain ⟨c0, c1, c2, c3, c4, c5⟩ := HCELL.out _ (M.below fun _ _ => trivial)
      have HM := show Hid _ from ((M.set 1 rfl 0 (.int .i64 a.kind)).set 1 rfl 1 (.int .i64 a.value)).set 1 rfl 2 (.slice av a.kids.length ac)
      clear M
      go_wp2_with fail
      have M2 := HM.out
      have r0 : World.cell? _ ⟨w.heap.size + 1, 0, none⟩ = some (.int .i64 a.kind) := M2.c 1 0 rfl rfl
      have r1 : World.cell? _ ⟨w.heap.size + 1, 1, none⟩ = some (.int .i64 a.value) := M2.c 1 1 rfl rfl
      have r2 : World.cell? _ ⟨w.heap.size + 1, 2, none⟩ = some (.slice av a.kids.length ac) := M2.c 1 2 rfl rfl
      refine bodyPost_ret (v := .agg #[.int .i64 a.kind, .int .i64 a.value, .slice av a.kids.length ac]) (by simp [results, Try.results74, go_sem, r0, r1, r2]) rfl ?_
      rw [HN.out]
      exact ⟨_, _, rfl, HKK.out _ (M2.below fun _ _ => trivial) |>.1, M2.below fun _ _ => trivial⟩
    ·have HN : Hid (j6 ⟨8, n, [a, b]⟩ = b) := by rw [Hid, C2, if_neg HCN.out, if_pos (by simp [hK])]
     clear hK
     have y0 := M.c 0 0 rfl rfl
     have y1 := M.c 0 1 rfl rfl
     have y2 := M.c 0 2 rfl rfl
     have d0 := M.c 1 0 rfl rfl
     have d1 := M.c 1 1 rfl rfl
     have d2 := M.c 1 2 rfl rfl
     have ff := M.f 1 rfl
     obtain ⟨c0, c1, c2, c3, c4, c5⟩ := HCELL.out _ (M.below fun _ _ => trivial)
     have HM := show Hid _ from ((M.set 1 rfl 0 (.int .i64 b.kind)).set 1 rfl 1 (.int .i64 b.value)).set 1 rfl 2 (.slice bv b.kids.length bc)
     clear M
     go_wp2_with fail
     have M2 := HM.out
     have r0 : World.cell? _ ⟨w.heap.size + 1, 0, none⟩ = some (.int .i64 b.kind) := M2.c 1 0 rfl rfl
     have r1 : World.cell? _ ⟨w.heap.size + 1, 1, none⟩ = some (.int .i64 b.value) := M2.c 1 1 rfl rfl
     have r2 : World.cell? _ ⟨w.heap.size + 1, 2, none⟩ = some (.slice bv b.kids.length bc) := M2.c 1 2 rfl rfl
     refine bodyPost_ret (v := .agg #[.int .i64 b.kind, .int .i64 b.value, .slice bv b.kids.length bc]) (by simp [results, Try.results74, go_sem, r0, r1, r2]) rfl ?_
     rw [HN.out]
     exact ⟨_, _, rfl, HKK.out _ (M2.below fun _ _ => trivial) |>.2.1, M2.below fun _ _ => trivial⟩
   by_cases q5 : k = 5
   ·subst q5
    have y0 := M.c 0 0 rfl rfl
    have y1 := M.c 0 1 rfl rfl
    have y2 := M.c 0 2 rfl rfl
    have d0 := M.c 1 0 rfl rfl
    have d1 := M.c 1 1 rfl rfl
    have d2 := M.c 1 2 rfl rfl
    have ff := M.f 1 rfl
    obtain ⟨c0, c1, c2, c3, c4, c5⟩ := HCELL.out _ (M.below fun _ _ => trivial)
    have HM := show Hid _ from M
    rw [hW] at y0 y1 y2 d0 d1 d2 ff c0 c1 c2 c3 c4 c5
    clear M
    go_enter Try.func74, Try.ntmps74
    go_wp2_with fail
    rw [← hW]
    clear hW
    have M := HM.out
    clear HM y0 y1 y2 d0 d1 d2 ff c0 c1 c2 c3 c4 c5
    refine (r7 b.kind b.value 0 (.slice bv b.kids.length bc) _).mono ?_
    rintro x w1 ⟨rfl, b1⟩
    rw [show (decide (b.kind = 1) && decide (b.value = 0)) = j5 b 0 from rfl]
    replace M := M.call b1
    clear b1
    cases hK : j5 b 0
    ·have HN : Hid (j6 ⟨5, n, [a, b]⟩ = ⟨5, n, [a, b]⟩) := by rw [Hid, C2, if_neg HCN.out, if_neg (by simp), if_neg (by simp [hK])]
     clear hK
     have y0 := M.c 0 0 rfl rfl
     have y1 := M.c 0 1 rfl rfl
     have y2 := M.c 0 2 rfl rfl
     have d0 := M.c 1 0 rfl rfl
     have d1 := M.c 1 1 rfl rfl
     have d2 := M.c 1 2 rfl rfl
     have ff := M.f 1 rfl
     obtain ⟨c0, c1, c2, c3, c4, c5⟩ := HCELL.out _ (M.below fun _ _ => trivial)
     have HM := show Hid _ from ((M.set 1 rfl 0 (.int .i64 5)).set 1 rfl 1 (.int .i64 n)).set 1 rfl 2 (.slice (some ⟨g, off, none⟩) 2 cap)
     clear M
     go_wp2_with fail
     have M2 := HM.out
     have r0 : World.cell? _ ⟨w.heap.size + 1, 0, none⟩ = some (.int .i64 5) := M2.c 1 0 rfl rfl
     have r1 : World.cell? _ ⟨w.heap.size + 1, 1, none⟩ = some (.int .i64 n) := M2.c 1 1 rfl rfl
     have r2 : World.cell? _ ⟨w.heap.size + 1, 2, none⟩ = some (.slice (some ⟨g, off, none⟩) 2 cap) := M2.c 1 2 rfl rfl
     refine bodyPost_ret (v := .agg #[.int .i64 5, .int .i64 n, .slice (some ⟨g, off, none⟩) 2 cap]) (by simp [results, Try.results74, go_sem, r0, r1, r2]) rfl ?_
     rw [HN.out]
     exact ⟨_, _, rfl, HKK.out _ (M2.below fun _ _ => trivial) |>.2.2, M2.below fun _ _ => trivial⟩
    ·have HN : Hid (j6 ⟨5, n, [a, b]⟩ = a) := by rw [Hid, C2, if_neg HCN.out, if_neg (by simp), if_pos (by simp [hK])]
     clear hK
     have y0 := M.c 0 0 rfl rfl
     have y1 := M.c 0 1 rfl rfl
     have y2 := M.c 0 2 rfl rfl
     have d0 := M.c 1 0 rfl rfl
     have d1 := M.c 1 1 rfl rfl
     have d2 := M.c 1 2 rfl rfl
     have ff := M.f 1 rfl
     obtain ⟨c0, c1, c2, c3, c4, c5⟩ := HCELL.out _ (M.below fun _ _ => trivial)
     have HM := show Hid _ from ((M.set 1 rfl 0 (.int .i64 a.kind)).set 1 rfl 1 (.int .i64 a.value)).set 1 rfl 2 (.slice av a.kids.length ac)
     clear M
     go_wp2_with fail
     have M2 := HM.out
     have r0 : World.cell? _ ⟨w.heap.size + 1, 0, none⟩ = some (.int .i64 a.kind) := M2.c 1 0 rfl rfl
     have r1 : World.cell? _ ⟨w.heap.size + 1, 1, none⟩ = some (.int .i64 a.value) := M2.c 1 1 rfl rfl
     have r2 : World.cell? _ ⟨w.heap.size + 1, 2, none⟩ = some (.slice av a.kids.length ac) := M2.c 1 2 rfl rfl
     refine bodyPost_ret (v := .agg #[.int .i64 a.kind, .int .i64 a.value, .slice av a.kids.length ac]) (by simp [results, Try.results74, go_sem, r0, r1, r2]) rfl ?_
     rw [HN.out]
     exact ⟨_, _, rfl, HKK.out _ (M2.below fun _ _ => trivial) |>.1, M2.below fun _ _ => trivial⟩
   by_cases q6 : k = 6
   ·subst q6
    have y0 := M.c 0 0 rfl rfl
    have y1 := M.c 0 1 rfl rfl
    have y2 := M.c 0 2 rfl rfl
    have d0 := M.c 1 0 rfl rfl
    have d1 := M.c 1 1 rfl rfl
    have d2 := M.c 1 2 rfl rfl
    have ff := M.f 1 rfl
    obtain ⟨c0, c1, c2, c3, c4, c5⟩ := HCELL.out _ (M.below fun _ _ => trivial)
    have HM := show Hid _ from M
    rw [hW] at y0 y1 y2 d0 d1 d2 ff c0 c1 c2 c3 c4 c5
    clear M
    go_enter Try.func74, Try.ntmps74
    go_wp2_with fail
    rw [← hW]
    clear hW
    have M := HM.out
    clear HM y0 y1 y2 d0 d1 d2 ff c0 c1 c2 c3 c4 c5
    refine (r7 a.kind a.value 1 (.slice av a.kids.length ac) _).mono ?_
    rintro x w1 ⟨rfl, b1⟩
    rw [show (decide (a.kind = 1) && decide (a.value = 1)) = j5 a 1 from rfl]
    replace M := M.call b1
    clear b1
    cases hK : j5 a 1
    ·have y0 := M.c 0 0 rfl rfl
     have y1 := M.c 0 1 rfl rfl
     have y2 := M.c 0 2 rfl rfl
     have d0 := M.c 1 0 rfl rfl
     have d1 := M.c 1 1 rfl rfl
     have d2 := M.c 1 2 rfl rfl
     have ff := M.f 1 rfl
     obtain ⟨c0, c1, c2, c3, c4, c5⟩ := HCELL.out _ (M.below fun _ _ => trivial)
     have HM := show Hid _ from M
     clear M
     go_wp2_with fail
     have M := HM.out
     clear HM y0 y1 y2 d0 d1 d2 ff c0 c1 c2 c3 c4 c5
     refine (r7 b.kind b.value 1 (.slice bv b.kids.length bc) _).mono ?_
     rintro x w1 ⟨rfl, b1⟩
     rw [show (decide (b.kind = 1) && decide (b.value = 1)) = j5 b 1 from rfl]
     replace M := M.call b1
     clear b1
     cases hK2 : j5 b 1
     ·have HN : Hid (j6 ⟨6, n, [a, b]⟩ = ⟨6, n, [a, b]⟩) := by rw [Hid, C2, if_neg HCN.out, if_neg (by simp [hK]), if_neg (by simp [hK2])]
      clear hK hK2
      have y0 := M.c 0 0 rfl rfl
      have y1 := M.c 0 1 rfl rfl
      have y2 := M.c 0 2 rfl rfl
      have d0 := M.c 1 0 rfl rfl
      have d1 := M.c 1 1 rfl rfl
      have d2 := M.c 1 2 rfl rfl
      have ff := M.f 1 rfl
      obtain ⟨c0, c1, c2, c3, c4, c5⟩ := HCELL.out _ (M.below fun _ _ => trivial)
      have HM := show Hid _ from ((M.set 1 rfl 0 (.int .i64 6)).set 1 rfl 1 (.int .i64 n)).set 1 rfl 2 (.slice (some ⟨g, off, none⟩) 2 cap)
      clear M
      go_wp2_with fail
      have M2 := HM.out
      have r0 : World.cell? _ ⟨w.heap.size + 1, 0, none⟩ = some (.int .i64 6) := M2.c 1 0 rfl rfl
      have r1 : World.cell? _ ⟨w.heap.size + 1, 1, none⟩ = some (.int .i64 n) := M2.c 1 1 rfl rfl
      have r2 : World.cell? _ ⟨w.heap.size + 1, 2, none⟩ = some (.slice (some ⟨g, off, none⟩) 2 cap) := M2.c 1 2 rfl rfl
      refine bodyPost_ret (v := .agg #[.int .i64 6, .int .i64 n, .slice (some ⟨g, off, none⟩) 2 cap]) (by simp [results, Try.results74, go_sem, r0, r1, r2]) rfl ?_
      rw [HN.out]
      exact ⟨_, _, rfl, HKK.out _ (M2.below fun _ _ => trivial) |>.2.2, M2.below fun _ _ => trivial⟩
     ·have HN : Hid (j6 ⟨6, n, [a, b]⟩ = a) := by rw [Hid, C2, if_neg HCN.out, if_neg (by simp [hK]), if_pos (by simp [hK2])]
      clear hK hK2
      have y0 := M.c 0 0 rfl rfl
      have y1 := M.c 0 1 rfl rfl
      have y2 := M.c 0 2 rfl rfl
      have d0 := M.c 1 0 rfl rfl
      have d1 := M.c 1 1 rfl rfl
      have d2 := M.c 1 2 rfl rfl
      have ff := M.f 1 rfl
      obtain ⟨c0, c1, c2, c3, c4, c5⟩ := HCELL.out _ (M.below fun _ _ => trivial)
      have HM := show Hid _ from ((M.set 1 rfl 0 (.int .i64 a.kind)).set 1 rfl 1 (.int .i64 a.value)).set 1 rfl 2 (.slice av a.kids.length ac)
      clear M
      go_wp2_with fail
      have M2 := HM.out
      have r0 : World.cell? _ ⟨w.heap.size + 1, 0, none⟩ = some (.int .i64 a.kind) := M2.c 1 0 rfl rfl
      have r1 : World.cell? _ ⟨w.heap.size + 1, 1, none⟩ = some (.int .i64 a.value) := M2.c 1 1 rfl rfl
      have r2 : World.cell? _ ⟨w.heap.size + 1, 2, none⟩ = some (.slice av a.kids.length ac) := M2.c 1 2 rfl rfl
      refine bodyPost_ret (v := .agg #[.int .i64 a.kind, .int .i64 a.value, .slice av a.kids.length ac]) (by simp [results, Try.results74, go_sem, r0, r1, r2]) rfl ?_
      rw [HN.out]
      exact ⟨_, _, rfl, HKK.out _ (M2.below fun _ _ => trivial) |>.1, M2.below fun _ _ => trivial⟩
    ·have HN : Hid (j6 ⟨6, n, [a, b]⟩ = b) := by rw [Hid, C2, if_neg HCN.out, if_pos (by simp [hK])]
     clear hK
     have y0 := M.c 0 0 rfl rfl
     have y1 := M.c 0 1 rfl rfl
     have y2 := M.c 0 2 rfl rfl
     have d0 := M.c 1 0 rfl rfl
     have d1 := M.c 1 1 rfl rfl
     have d2 := M.c 1 2 rfl rfl
     have ff := M.f 1 rfl
     obtain ⟨c0, c1, c2, c3, c4, c5⟩ := HCELL.out _ (M.below fun _ _ => trivial)
     have HM := show Hid _ from ((M.set 1 rfl 0 (.int .i64 b.kind)).set 1 rfl 1 (.int .i64 b.value)).set 1 rfl 2 (.slice bv b.kids.length bc)
     clear M
     go_wp2_with fail
     have M2 := HM.out
     have r0 : World.cell? _ ⟨w.heap.size + 1, 0, none⟩ = some (.int .i64 b.kind) := M2.c 1 0 rfl rfl
     have r1 : World.cell? _ ⟨w.heap.size + 1, 1, none⟩ = some (.int .i64 b.value) := M2.c 1 1 rfl rfl
     have r2 : World.cell? _ ⟨w.heap.size + 1, 2, none⟩ = some (.slice bv b.kids.length bc) := M2.c 1 2 rfl rfl
     refine bodyPost_ret (v := .agg #[.int .i64 b.kind, .int .i64 b.value, .slice bv b.kids.length bc]) (by simp [results, Try.results74, go_sem, r0, r1, r2]) rfl ?_
     rw [HN.out]
     exact ⟨_, _, rfl, HKK.out _ (M2.below fun _ _ => trivial) |>.2.1, M2.below fun _ _ => trivial⟩
   have p4 : (k == 4) = false := by simp [q4]
   have p8 : (k == 8) = false := by simp [q8]
   have p5 : (k == 5) = false := by simp [q5]
   have p6 : (k == 6) = false := by simp [q6]
   have HN : Hid (j6 ⟨k, n, [a, b]⟩ = ⟨k, n, [a, b]⟩) := by rw [Hid, C2, if_neg HCN.out, if_neg (by simp [q4, q5, q6, q8]), if_neg (by simp [q4, q5, q6, q8])]
   clear q4 q5 q6 q8
   have y0 := M.c 0 0 rfl rfl
   have y1 := M.c 0 1 rfl rfl
   have y2 := M.c 0 2 rfl rfl
   have d0 := M.c 1 0 rfl rfl
   have d1 := M.c 1 1 rfl rfl
   have d2 := M.c 1 2 rfl rfl
   have ff := M.f 1 rfl
   obtain ⟨c0, c1, c2, c3, c4, c5⟩ := HCELL.out _ (M.below fun _ _ => trivial)
   rw [hW] at y0 y1 y2 d0 d1 d2 ff c0 c1 c2 c3 c4 c5
   have HM : Hid (m0 (fun _ => True) (fun _ => True) w _ [.box w.heap.size [.int .i64 k, .int .i64 n, .slice (some ⟨g, off, none⟩) 2 cap], .box (w.heap.size + 1) [.int .i64 k, .int .i64 n, .slice (some ⟨g, off, none⟩) 2 cap]]) := ((m0.start fun _ _ => trivial).box [.int .i64 k, .int .i64 n, .slice (some ⟨g, off, none⟩) 2 cap] 29).box' [.int .i64 k, .int .i64 n, .slice (some ⟨g, off, none⟩) 2 cap] 29 (by simp)
   clear M
   go_enter Try.func74, Try.ntmps74
   go_wp2_with fail
   have M2 := HM.out
   have r0 : World.cell? _ ⟨w.heap.size + 1, 0, none⟩ = some (.int .i64 k) := M2.c 1 0 rfl rfl
   have r1 : World.cell? _ ⟨w.heap.size + 1, 1, none⟩ = some (.int .i64 n) := M2.c 1 1 rfl rfl
   have r2 : World.cell? _ ⟨w.heap.size + 1, 2, none⟩ = some (.slice (some ⟨g, off, none⟩) 2 cap) := M2.c 1 2 rfl rfl
   refine bodyPost_ret (v := .agg #[.int .i64 k, .int .i64 n, .slice (some ⟨g, off, none⟩) 2 cap]) (by simp [results, Try.results74, go_sem, r0, r1, r2]) rfl ?_
   rw [HN.out]
   exact ⟨_, _, rfl, HKK.out _ (M2.below fun _ _ => trivial) |>.2.2, M2.below fun _ _ => trivial⟩
 ·have pa : (a.kind == 1) = false := by simp [qa]
  have HCN : Hid (¬ (a.kind = 1 ∧ b.kind = 1)) := fun h => qa h.1
  clear qa ha hb
  by_cases q4 : k = 4
  ·subst q4
   have y0 := M.c 0 0 rfl rfl
   have y1 := M.c 0 1 rfl rfl
   have y2 := M.c 0 2 rfl rfl
   have d0 := M.c 1 0 rfl rfl
   have d1 := M.c 1 1 rfl rfl
   have d2 := M.c 1 2 rfl rfl
   have ff := M.f 1 rfl
   obtain ⟨c0, c1, c2, c3, c4, c5⟩ := HCELL.out _ (M.below fun _ _ => trivial)
   have HM := show Hid _ from M
   rw [hW] at y0 y1 y2 d0 d1 d2 ff c0 c1 c2 c3 c4 c5
   clear M
   go_enter Try.func74, Try.ntmps74
   go_wp2_with fail
   rw [← hW]
   clear hW
   have M := HM.out
   clear HM y0 y1 y2 d0 d1 d2 ff c0 c1 c2 c3 c4 c5
   refine (r7 a.kind a.value 0 (.slice av a.kids.length ac) _).mono ?_
   rintro x w1 ⟨rfl, b1⟩
   rw [show (decide (a.kind = 1) && decide (a.value = 0)) = j5 a 0 from rfl]
   replace M := M.call b1
   clear b1
   cases hK : j5 a 0
   ·have y0 := M.c 0 0 rfl rfl
    have y1 := M.c 0 1 rfl rfl
    have y2 := M.c 0 2 rfl rfl
    have d0 := M.c 1 0 rfl rfl
    have d1 := M.c 1 1 rfl rfl
    have d2 := M.c 1 2 rfl rfl
    have ff := M.f 1 rfl
    obtain ⟨c0, c1, c2, c3, c4, c5⟩ := HCELL.out _ (M.below fun _ _ => trivial)
    have HM := show Hid _ from M
    clear M
    go_wp2_with fail
    have M := HM.out
    clear HM y0 y1 y2 d0 d1 d2 ff c0 c1 c2 c3 c4 c5
    refine (r7 b.kind b.value 0 (.slice bv b.kids.length bc) _).mono ?_
    rintro x w1 ⟨rfl, b1⟩
    rw [show (decide (b.kind = 1) && decide (b.value = 0)) = j5 b 0 from rfl]
    replace M := M.call b1
    clear b1
    cases hK2 : j5 b 0
    ·have HN : Hid (j6 ⟨4, n, [a, b]⟩ = ⟨4, n, [a, b]⟩) := by rw [Hid, C2, if_neg HCN.out, if_neg (by simp [hK]), if_neg (by simp [hK2])]
     clear hK hK2
     have y0 := M.c 0 0 rfl rfl
     have y1 := M.c 0 1 rfl rfl
     have y2 := M.c 0 2 rfl rfl
     have d0 := M.c 1 0 rfl rfl
     have d1 := M.c 1 1 rfl rfl
     have d2 := M.c 1 2 rfl rfl
     have ff := M.f 1 rfl
     obtain ⟨c0, c1, c2, c3, c4, c5⟩ := HCELL.out _ (M.below fun _ _ => trivial)
     have HM := show Hid _ from ((M.set 1 rfl 0 (.int .i64 4)).set 1 rfl 1 (.int .i64 n)).set 1 rfl 2 (.slice (some ⟨g, off, none⟩) 2 cap)
     clear M
     go_wp2_with fail
     have M2 := HM.out
     have r0 : World.cell? _ ⟨w.heap.size + 1, 0, none⟩ = some (.int .i64 4) := M2.c 1 0 rfl rfl
     have r1 : World.cell? _ ⟨w.heap.size + 1, 1, none⟩ = some (.int .i64 n) := M2.c 1 1 rfl rfl
     have r2 : World.cell? _ ⟨w.heap.size + 1, 2, none⟩ = some (.slice (some ⟨g, off, none⟩) 2 cap) := M2.c 1 2 rfl rfl
     refine bodyPost_ret (v := .agg #[.int .i64 4, .int .i64 n, .slice (some ⟨g, off, none⟩) 2 cap]) (by simp [results, Try.results74, go_sem, r0, r1, r2]) rfl ?_
     rw [HN.out]
     exact ⟨_, _, rfl, HKK.out _ (M2.below fun _ _ => trivial) |>.2.2, M2.below fun _ _ => trivial⟩
    ·have HN : Hid (j6 ⟨4, n, [a, b]⟩ = a) := by rw [Hid, C2, if_neg HCN.out, if_neg (by simp [hK]), if_pos (by simp [hK2])]
     clear hK hK2
     have y0 := M.c 0 0 rfl rfl
     have y1 := M.c 0 1 rfl rfl
     have y2 := M.c 0 2 rfl rfl
     have d0 := M.c 1 0 rfl rfl
     have d1 := M.c 1 1 rfl rfl
     have d2 := M.c 1 2 rfl rfl
     have ff := M.f 1 rfl
     obtain ⟨c0, c1, c2, c3, c4, c5⟩ := HCELL.out _ (M.below fun _ _ => trivial)
     have HM := show Hid _ from ((M.set 1 rfl 0 (.int .i64 a.kind)).set 1 rfl 1 (.int .i64 a.value)).set 1 rfl 2 (.slice av a.kids.length ac)
     clear M
     go_wp2_with fail
     have M2 := HM.out
     have r0 : World.cell? _ ⟨w.heap.size + 1, 0, none⟩ = some (.int .i64 a.kind) := M2.c 1 0 rfl rfl
     have r1 : World.cell? _ ⟨w.heap.size + 1, 1, none⟩ = some (.int .i64 a.value) := M2.c 1 1 rfl rfl
     have r2 : World.cell? _ ⟨w.heap.size + 1, 2, none⟩ = some (.slice av a.kids.length ac) := M2.c 1 2 rfl rfl
     refine bodyPost_ret (v := .agg #[.int .i64 a.kind, .int .i64 a.value, .slice av a.kids.length ac]) (by simp [results, Try.results74, go_sem, r0, r1, r2]) rfl ?_
     rw [HN.out]
     exact ⟨_, _, rfl, HKK.out _ (M2.below fun _ _ => trivial) |>.1, M2.below fun _ _ => trivial⟩
   ·have HN : Hid (j6 ⟨4, n, [a, b]⟩ = b) := by rw [Hid, C2, if_neg HCN.out, if_pos (by simp [hK])]
    clear hK
    have y0 := M.c 0 0 rfl rfl
    have y1 := M.c 0 1 rfl rfl
    have y2 := M.c 0 2 rfl rfl
    have d0 := M.c 1 0 rfl rfl
    have d1 := M.c 1 1 rfl rfl
    have d2 := M.c 1 2 rfl rfl
    have ff := M.f 1 rfl
    obtain ⟨c0, c1, c2, c3, c4, c5⟩ := HCELL.out _ (M.below fun _ _ => trivial)
    have HM := show Hid _ from ((M.set 1 rfl 0 (.int .i64 b.kind)).set 1 rfl 1 (.int .i64 b.value)).set 1 rfl 2 (.slice bv b.kids.length bc)
    clear M
    go_wp2_with fail
    have M2 := HM.out
    have r0 : World.cell? _ ⟨w.heap.size + 1, 0, none⟩ = some (.int .i64 b.kind) := M2.c 1 0 rfl rfl
    have r1 : World.cell? _ ⟨w.heap.size + 1, 1, none⟩ = some (.int .i64 b.value) := M2.c 1 1 rfl rfl
    have r2 : World.cell? _ ⟨w.heap.size + 1, 2, none⟩ = some (.slice bv b.kids.length bc) := M2.c 1 2 rfl rfl
    refine bodyPost_ret (v := .agg #[.int .i64 b.kind, .int .i64 b.value, .slice bv b.kids.length bc]) (by simp [results, Try.results74, go_sem, r0, r1, r2]) rfl ?_
    rw [HN.out]
    exact ⟨_, _, rfl, HKK.out _ (M2.below fun _ _ => trivial) |>.2.1, M2.below fun _ _ => trivial⟩
  by_cases q8 : k = 8
  ·subst q8
   have y0 := M.c 0 0 rfl rfl
   have y1 := M.c 0 1 rfl rfl
   have y2 := M.c 0 2 rfl rfl
   have d0 := M.c 1 0 rfl rfl
   have d1 := M.c 1 1 rfl rfl
   have d2 := M.c 1 2 rfl rfl
   have ff := M.f 1 rfl
   obtain ⟨c0, c1, c2, c3, c4, c5⟩ := HCELL.out _ (M.below fun _ _ => trivial)
   have HM := show Hid _ from M
   rw [hW] at y0 y1 y2 d0 d1 d2 ff c0 c1 c2 c3 c4 c5
   clear M
   go_enter Try.func74, Try.ntmps74
   go_wp2_with fail
   rw [← hW]
   clear hW
   have M := HM.out
   clear HM y0 y1 y2 d0 d1 d2 ff c0 c1 c2 c3 c4 c5
   refine (r7 a.kind a.value 0 (.slice av a.kids.length ac) _).mono ?_
   rintro x w1 ⟨rfl, b1⟩
   rw [show (decide (a.kind = 1) && decide (a.value = 0)) = j5 a 0 from rfl]
   replace M := M.call b1
   clear b1
   cases hK : j5 a 0
   ·have y0 := M.c 0 0 rfl rfl
    have y1 := M.c 0 1 rfl rfl
    have y2 := M.c 0 2 rfl rfl
    have d0 := M.c 1 0 rfl rfl
    have d1 := M.c 1 1 rfl rfl
    have d2 := M.c 1 2 rfl rfl
    have ff := M.f 1 rfl
    obtain ⟨c0, c1, c2, c3, c4, c5⟩ := HCELL.out _ (M.below fun _ _ => trivial)
    have HM := show Hid _ from M
    clear M
    go_wp2_with fail
    have M := HM.out
    clear HM y0 y1 y2 d0 d1 d2 ff c0 c1 c2 c3 c4 c5
    refine (r7 b.kind b.value 0 (.slice bv b.kids.length bc) _).mono ?_
    rintro x w1 ⟨rfl, b1⟩
    rw [show (decide (b.kind = 1) && decide (b.value = 0)) = j5 b 0 from rfl]
    replace M := M.call b1
    clear b1
    cases hK2 : j5 b 0
    ·have HN : Hid (j6 ⟨8, n, [a, b]⟩ = ⟨8, n, [a, b]⟩) := by rw [Hid, C2, if_neg HCN.out, if_neg (by simp [hK]), if_neg (by simp [hK2])]
     clear hK hK2
     have y0 := M.c 0 0 rfl rfl
     have y1 := M.c 0 1 rfl rfl
     have y2 := M.c 0 2 rfl rfl
     have d0 := M.c 1 0 rfl rfl
     have d1 := M.c 1 1 rfl rfl
     have d2 := M.c 1 2 rfl rfl
     have ff := M.f 1 rfl
     obtain ⟨c0, c1, c2, c3, c4, c5⟩ := HCELL.out _ (M.below fun _ _ => trivial)
     have HM := show Hid _ from ((M.set 1 rfl 0 (.int .i64 8)).set 1 rfl 1 (.int .i64 n)).set 1 rfl 2 (.slice (some ⟨g, off, none⟩) 2 cap)
     clear M
     go_wp2_with fail
     have M2 := HM.out
     have r0 : World.cell? _ ⟨w.heap.size + 1, 0, none⟩ = some (.int .i64 8) := M2.c 1 0 rfl rfl
     have r1 : World.cell? _ ⟨w.heap.size + 1, 1, none⟩ = some (.int .i64 n) := M2.c 1 1 rfl rfl
     have r2 : World.cell? _ ⟨w.heap.size + 1, 2, none⟩ = some (.slice (some ⟨g, off, none⟩) 2 cap) := M2.c 1 2 rfl rfl
     refine bodyPost_ret (v := .agg #[.int .i64 8, .int .i64 n, .slice (some ⟨g, off, none⟩) 2 cap]) (by simp [results, Try.results74, go_sem, r0, r1, r2]) rfl ?_
     rw [HN.out]
     exact ⟨_, _, rfl, HKK.out _ (M2.below fun _ _ => trivial) |>.2.2, M2.below fun _ _ => trivial⟩
    ·have HN : Hid (j6 ⟨8, n, [a, b]⟩ = a) := by rw [Hid, C2, if_neg HCN.out, if_neg (by simp [hK]), if_pos (by simp [hK2])]
     clear hK hK2
     have y0 := M.c 0 0 rfl rfl
     have y1 := M.c 0 1 rfl rfl
     have y2 := M.c 0 2 rfl rfl
     have d0 := M.c 1 0 rfl rfl
     have d1 := M.c 1 1 rfl rfl
     have d2 := M.c 1 2 rfl rfl
     have ff := M.f 1 rfl
     obtain ⟨c0, c1, c2, c3, c4, c5⟩ := HCELL.out _ (M.below fun _ _ => trivial)
     have HM := show Hid _ from ((M.set 1 rfl 0 (.int .i64 a.kind)).set 1 rfl 1 (.int .i64 a.value)).set 1 rfl 2 (.slice av a.kids.length ac)
     clear M
     go_wp2_with fail
     have M2 := HM.out
     have r0 : World.cell? _ ⟨w.heap.size + 1, 0, none⟩ = some (.int .i64 a.kind) := M2.c 1 0 rfl rfl
     have r1 : World.cell? _ ⟨w.heap.size + 1, 1, none⟩ = some (.int .i64 a.value) := M2.c 1 1 rfl rfl
     have r2 : World.cell? _ ⟨w.heap.size + 1, 2, none⟩ = some (.slice av a.kids.length ac) := M2.c 1 2 rfl rfl
     refine bodyPost_ret (v := .agg #[.int .i64 a.kind, .int .i64 a.value, .slice av a.kids.length ac]) (by simp [results, Try.results74, go_sem, r0, r1, r2]) rfl ?_
     rw [HN.out]
     exact ⟨_, _, rfl, HKK.out _ (M2.below fun _ _ => trivial) |>.1, M2.below fun _ _ => trivial⟩
   ·have HN : Hid (j6 ⟨8, n, [a, b]⟩ = b) := by rw [Hid, C2, if_neg HCN.out, if_pos (by simp [hK])]
    clear hK
    have y0 := M.c 0 0 rfl rfl
    have y1 := M.c 0 1 rfl rfl
    have y2 := M.c 0 2 rfl rfl
    have d0 := M.c 1 0 rfl rfl
    have d1 := M.c 1 1 rfl rfl
    have d2 := M.c 1 2 rfl rfl
    have ff := M.f 1 rfl
    obtain ⟨c0, c1, c2, c3, c4, c5⟩ := HCELL.out _ (M.below fun _ _ => trivial)
    have HM := show Hid _ from ((M.set 1 rfl 0 (.int .i64 b.kind)).set 1 rfl 1 (.int .i64 b.value)).set 1 rfl 2 (.slice bv b.kids.length bc)
    clear M
    go_wp2_with fail
    have M2 := HM.out
    have r0 : World.cell? _ ⟨w.heap.size + 1, 0, none⟩ = some (.int .i64 b.kind) := M2.c 1 0 rfl rfl
    have r1 : World.cell? _ ⟨w.heap.size + 1, 1, none⟩ = some (.int .i64 b.value) := M2.c 1 1 rfl rfl
    have r2 : World.cell? _ ⟨w.heap.size + 1, 2, none⟩ = some (.slice bv b.kids.length bc) := M2.c 1 2 rfl rfl
    refine bodyPost_ret (v := .agg #[.int .i64 b.kind, .int .i64 b.value, .slice bv b.kids.length bc]) (by simp [results, Try.results74, go_sem, r0, r1, r2]) rfl ?_
    rw [HN.out]
    exact ⟨_, _, rfl, HKK.out _ (M2.below fun _ _ => trivial) |>.2.1, M2.below fun _ _ => trivial⟩
  by_cases q5 : k = 5
  ·subst q5
   have y0 := M.c 0 0 rfl rfl
   have y1 := M.c 0 1 rfl rfl
   have y2 := M.c 0 2 rfl rfl
   have d0 := M.c 1 0 rfl rfl
   have d1 := M.c 1 1 rfl rfl
   have d2 := M.c 1 2 rfl rfl
   have ff := M.f 1 rfl
   obtain ⟨c0, c1, c2, c3, c4, c5⟩ := HCELL.out _ (M.below fun _ _ => trivial)
   have HM := show Hid _ from M
   rw [hW] at y0 y1 y2 d0 d1 d2 ff c0 c1 c2 c3 c4 c5
   clear M
   go_enter Try.func74, Try.ntmps74
   go_wp2_with fail
   rw [← hW]
   clear hW
   have M := HM.out
   clear HM y0 y1 y2 d0 d1 d2 ff c0 c1 c2 c3 c4 c5
   refine (r7 b.kind b.value 0 (.slice bv b.kids.length bc) _).mono ?_
   rintro x w1 ⟨rfl, b1⟩
   rw [show (decide (b.kind = 1) && decide (b.value = 0)) = j5 b 0 from rfl]
   replace M := M.call b1
   clear b1
   cases hK : j5 b 0
   ·have HN : Hid (j6 ⟨5, n, [a, b]⟩ = ⟨5, n, [a, b]⟩) := by rw [Hid, C2, if_neg HCN.out, if_neg (by simp), if_neg (by simp [hK])]
    clear hK
    have y0 := M.c 0 0 rfl rfl
    have y1 := M.c 0 1 rfl rfl
    have y2 := M.c 0 2 rfl rfl
    have d0 := M.c 1 0 rfl rfl
    have d1 := M.c 1 1 rfl rfl
    have d2 := M.c 1 2 rfl rfl
    have ff := M.f 1 rfl
    obtain ⟨c0, c1, c2, c3, c4, c5⟩ := HCELL.out _ (M.below fun _ _ => trivial)
    have HM := show Hid _ from ((M.set 1 rfl 0 (.int .i64 5)).set 1 rfl 1 (.int .i64 n)).set 1 rfl 2 (.slice (some ⟨g, off, none⟩) 2 cap)
    clear M
    go_wp2_with fail
    have M2 := HM.out
    have r0 : World.cell? _ ⟨w.heap.size + 1, 0, none⟩ = some (.int .i64 5) := M2.c 1 0 rfl rfl
    have r1 : World.cell? _ ⟨w.heap.size + 1, 1, none⟩ = some (.int .i64 n) := M2.c 1 1 rfl rfl
    have r2 : World.cell? _ ⟨w.heap.size + 1, 2, none⟩ = some (.slice (some ⟨g, off, none⟩) 2 cap) := M2.c 1 2 rfl rfl
    refine bodyPost_ret (v := .agg #[.int .i64 5, .int .i64 n, .slice (some ⟨g, off, none⟩) 2 cap]) (by simp [results, Try.results74, go_sem, r0, r1, r2]) rfl ?_
    rw [HN.out]
    exact ⟨_, _, rfl, HKK.out _ (M2.below fun _ _ => trivial) |>.2.2, M2.below fun _ _ => trivial⟩
   ·have HN : Hid (j6 ⟨5, n, [a, b]⟩ = a) := by rw [Hid, C2, if_neg HCN.out, if_neg (by simp), if_pos (by simp [hK])]
    clear hK
    have y0 := M.c 0 0 rfl rfl
    have y1 := M.c 0 1 rfl rfl
    have y2 := M.c 0 2 rfl rfl
    have d0 := M.c 1 0 rfl rfl
    have d1 := M.c 1 1 rfl rfl
    have d2 := M.c 1 2 rfl rfl
    have ff := M.f 1 rfl
    obtain ⟨c0, c1, c2, c3, c4, c5⟩ := HCELL.out _ (M.below fun _ _ => trivial)
    have HM := show Hid _ from ((M.set 1 rfl 0 (.int .i64 a.kind)).set 1 rfl 1 (.int .i64 a.value)).set 1 rfl 2 (.slice av a.kids.length ac)
    clear M
    go_wp2_with fail
    have M2 := HM.out
    have r0 : World.cell? _ ⟨w.heap.size + 1, 0, none⟩ = some (.int .i64 a.kind) := M2.c 1 0 rfl rfl
    have r1 : World.cell? _ ⟨w.heap.size + 1, 1, none⟩ = some (.int .i64 a.value) := M2.c 1 1 rfl rfl
    have r2 : World.cell? _ ⟨w.heap.size + 1, 2, none⟩ = some (.slice av a.kids.length ac) := M2.c 1 2 rfl rfl
    refine bodyPost_ret (v := .agg #[.int .i64 a.kind, .int .i64 a.value, .slice av a.kids.length ac]) (by simp [results, Try.results74, go_sem, r0, r1, r2]) rfl ?_
    rw [HN.out]
    exact ⟨_, _, rfl, HKK.out _ (M2.below fun _ _ => trivial) |>.1, M2.below fun _ _ => trivial⟩
  by_cases q6 : k = 6
  ·subst q6
   have y0 := M.c 0 0 rfl rfl
   have y1 := M.c 0 1 rfl rfl
   have y2 := M.c 0 2 rfl rfl
   have d0 := M.c 1 0 rfl rfl
   have d1 := M.c 1 1 rfl rfl
   have d2 := M.c 1 2 rfl rfl
   have ff := M.f 1 rfl
   obtain ⟨c0, c1, c2, c3, c4, c5⟩ := HCELL.out _ (M.below fun _ _ => trivial)
   have HM := show Hid _ from M
   rw [hW] at y0 y1 y2 d0 d1 d2 ff c0 c1 c2 c3 c4 c5
   clear M
   go_enter Try.func74, Try.ntmps74
   go_wp2_with fail
   rw [← hW]
   clear hW
   have M := HM.out
   clear HM y0 y1 y2 d0 d1 d2 ff c0 c1 c2 c3 c4 c5
   refine (r7 a.kind a.value 1 (.slice av a.kids.length ac) _).mono ?_
   rintro x w1 ⟨rfl, b1⟩
   rw [show (decide (a.kind = 1) && decide (a.value = 1)) = j5 a 1 from rfl]
   replace M := M.call b1
   clear b1
   cases hK : j5 a 1
   ·have y0 := M.c 0 0 rfl rfl
    have y1 := M.c 0 1 rfl rfl
    have y2 := M.c 0 2 rfl rfl
    have d0 := M.c 1 0 rfl rfl
    have d1 := M.c 1 1 rfl rfl
    have d2 := M.c 1 2 rfl rfl
    have ff := M.f 1 rfl
    obtain ⟨c0, c1, c2, c3, c4, c5⟩ := HCELL.out _ (M.below fun _ _ => trivial)
    have HM := show Hid _ from M
    clear M
    go_wp2_with fail
    have M := HM.out
    clear HM y0 y1 y2 d0 d1 d2 ff c0 c1 c2 c3 c4 c5
    refine (r7 b.kind b.value 1 (.slice bv b.kids.length bc) _).mono ?_
    rintro x w1 ⟨rfl, b1⟩
    rw [show (decide (b.kind = 1) && decide (b.value = 1)) = j5 b 1 from rfl]
    replace M := M.call b1
    clear b1
    cases hK2 : j5 b 1
    ·have HN : Hid (j6 ⟨6, n, [a, b]⟩ = ⟨6, n, [a, b]⟩) := by rw [Hid, C2, if_neg HCN.out, if_neg (by simp [hK]), if_neg (by simp [hK2])]
     clear hK hK2
     have y0 := M.c 0 0 rfl rfl
     have y1 := M.c 0 1 rfl rfl
     have y2 := M.c 0 2 rfl rfl
     have d0 := M.c 1 0 rfl rfl
     have d1 := M.c 1 1 rfl rfl
     have d2 := M.c 1 2 rfl rfl
     have ff := M.f 1 rfl
     obtain ⟨c0, c1, c2, c3, c4, c5⟩ := HCELL.out _ (M.below fun _ _ => trivial)
     have HM := show Hid _ from ((M.set 1 rfl 0 (.int .i64 6)).set 1 rfl 1 (.int .i64 n)).set 1 rfl 2 (.slice (some ⟨g, off, none⟩) 2 cap)
     clear M
     go_wp2_with fail
     have M2 := HM.out
     have r0 : World.cell? _ ⟨w.heap.size + 1, 0, none⟩ = some (.int .i64 6) := M2.c 1 0 rfl rfl
     have r1 : World.cell? _ ⟨w.heap.size + 1, 1, none⟩ = some (.int .i64 n) := M2.c 1 1 rfl rfl
     have r2 : World.cell? _ ⟨w.heap.size + 1, 2, none⟩ = some (.slice (some ⟨g, off, none⟩) 2 cap) := M2.c 1 2 rfl rfl
     refine bodyPost_ret (v := .agg #[.int .i64 6, .int .i64 n, .slice (some ⟨g, off, none⟩) 2 cap]) (by simp [results, Try.results74, go_sem, r0, r1, r2]) rfl ?_
     rw [HN.out]
     exact ⟨_, _, rfl, HKK.out _ (M2.below fun _ _ => trivial) |>.2.2, M2.below fun _ _ => trivial⟩
    ·have HN : Hid (j6 ⟨6, n, [a, b]⟩ = a) := by rw [Hid, C2, if_neg HCN.out, if_neg (by simp [hK]), if_pos (by simp [hK2])]
     clear hK hK2
     have y0 := M.c 0 0 rfl rfl
     have y1 := M.c 0 1 rfl rfl
     have y2 := M.c 0 2 rfl rfl
     have d0 := M.c 1 0 rfl rfl
     have d1 := M.c 1 1 rfl rfl
     have d2 := M.c 1 2 rfl rfl
     have ff := M.f 1 rfl
     obtain ⟨c0, c1, c2, c3, c4, c5⟩ := HCELL.out _ (M.below fun _ _ => trivial)
     have HM := show Hid _ from ((M.set 1 rfl 0 (.int .i64 a.kind)).set 1 rfl 1 (.int .i64 a.value)).set 1 rfl 2 (.slice av a.kids.length ac)
     clear M
     go_wp2_with fail
     have M2 := HM.out
     have r0 : World.cell? _ ⟨w.heap.size + 1, 0, none⟩ = some (.int .i64 a.kind) := M2.c 1 0 rfl rfl
     have r1 : World.cell? _ ⟨w.heap.size + 1, 1, none⟩ = some (.int .i64 a.value) := M2.c 1 1 rfl rfl
     have r2 : World.cell? _ ⟨w.heap.size + 1, 2, none⟩ = some (.slice av a.kids.length ac) := M2.c 1 2 rfl rfl
     refine bodyPost_ret (v := .agg #[.int .i64 a.kind, .int .i64 a.value, .slice av a.kids.length ac]) (by simp [results, Try.results74, go_sem, r0, r1, r2]) rfl ?_
     rw [HN.out]
     exact ⟨_, _, rfl, HKK.out _ (M2.below fun _ _ => trivial) |>.1, M2.below fun _ _ => trivial⟩
   ·have HN : Hid (j6 ⟨6, n, [a, b]⟩ = b) := by rw [Hid, C2, if_neg HCN.out, if_pos (by simp [hK])]
    clear hK
    have y0 := M.c 0 0 rfl rfl
    have y1 := M.c 0 1 rfl rfl
    have y2 := M.c 0 2 rfl rfl
    have d0 := M.c 1 0 rfl rfl
    have d1 := M.c 1 1 rfl rfl
    have d2 := M.c 1 2 rfl rfl
    have ff := M.f 1 rfl
    obtain ⟨c0, c1, c2, c3, c4, c5⟩ := HCELL.out _ (M.below fun _ _ => trivial)
    have HM := show Hid _ from ((M.set 1 rfl 0 (.int .i64 b.kind)).set 1 rfl 1 (.int .i64 b.value)).set 1 rfl 2 (.slice bv b.kids.length bc)
    clear M
    go_wp2_with fail
    have M2 := HM.out
    have r0 : World.cell? _ ⟨w.heap.size + 1, 0, none⟩ = some (.int .i64 b.kind) := M2.c 1 0 rfl rfl
    have r1 : World.cell? _ ⟨w.heap.size + 1, 1, none⟩ = some (.int .i64 b.value) := M2.c 1 1 rfl rfl
    have r2 : World.cell? _ ⟨w.heap.size + 1, 2, none⟩ = some (.slice bv b.kids.length bc) := M2.c 1 2 rfl rfl
    refine bodyPost_ret (v := .agg #[.int .i64 b.kind, .int .i64 b.value, .slice bv b.kids.length bc]) (by simp [results, Try.results74, go_sem, r0, r1, r2]) rfl ?_
    rw [HN.out]
    exact ⟨_, _, rfl, HKK.out _ (M2.below fun _ _ => trivial) |>.2.1, M2.below fun _ _ => trivial⟩
  have p4 : (k == 4) = false := by simp [q4]
  have p8 : (k == 8) = false := by simp [q8]
  have p5 : (k == 5) = false := by simp [q5]
  have p6 : (k == 6) = false := by simp [q6]
  have HN : Hid (j6 ⟨k, n, [a, b]⟩ = ⟨k, n, [a, b]⟩) := by rw [Hid, C2, if_neg HCN.out, if_neg (by simp [q4, q5, q6, q8]), if_neg (by simp [q4, q5, q6, q8])]
  clear q4 q5 q6 q8
  have y0 := M.c 0 0 rfl rfl
  have y1 := M.c 0 1 rfl rfl
  have y2 := M.c 0 2 rfl rfl
  have d0 := M.c 1 0 rfl rfl
  have d1 := M.c 1 1 rfl rfl
  have d2 := M.c 1 2 rfl rfl
  have ff := M.f 1 rfl
  obtain ⟨c0, c1, c2, c3, c4, c5⟩ := HCELL.out _ (M.below fun _ _ => trivial)
  rw [hW] at y0 y1 y2 d0 d1 d2 ff c0 c1 c2 c3 c4 c5
  have HM : Hid (m0 (fun _ => True) (fun _ => True) w _ [.box w.heap.size [.int .i64 k, .int .i64 n, .slice (some ⟨g, off, none⟩) 2 cap], .box (w.heap.size + 1) [.int .i64 k, .int .i64 n, .slice (some ⟨g, off, none⟩) 2 cap]]) := ((m0.start fun _ _ => trivial).box [.int .i64 k, .int .i64 n, .slice (some ⟨g, off, none⟩) 2 cap] 29).box' [.int .i64 k, .int .i64 n, .slice (some ⟨g, off, none⟩) 2 cap] 29 (by simp)
  clear M
  go_enter Try.func74, Try.ntmps74
  go_wp2_with fail
  have M2 := HM.out
  have r0 : World.cell? _ ⟨w.heap.size + 1, 0, none⟩ = some (.int .i64 k) := M2.c 1 0 rfl rfl
  have r1 : World.cell? _ ⟨w.heap.size + 1, 1, none⟩ = some (.int .i64 n) := M2.c 1 1 rfl rfl
  have r2 : World.cell? _ ⟨w.heap.size + 1, 2, none⟩ = some (.slice (some ⟨g, off, none⟩) 2 cap) := M2.c 1 2 rfl rfl
  refine bodyPost_ret (v := .agg #[.int .i64 k, .int .i64 n, .slice (some ⟨g, off, none⟩) 2 cap]) (by simp [results, Try.results74, go_sem, r0, r1, r2]) rfl ?_
  rw [HN.out]
  exact ⟨_, _, rfl, HKK.out _ (M2.below fun _ _ => trivial) |>.2.2, M2.below fun _ _ => trivial⟩
theorem az0 (n : Int) (a b c : b5) (v : Value) (S : Nat → Prop) (w : World) (h : i7 w v [a, b, c] S) :
  Calls Try.prog 74 #[.agg #[.int .i64 11, .int .i64 n, v]] w fun x w' => aY1 w S (j6 ⟨11, n, [a, b, c]⟩) x w' := by
 have hh := h
 obtain ⟨g, off, cap, av, ac, bv, bc, cv, cc, rfl, hg, hs, hcell, k0, k1, k2⟩ := h.three
 have HCELL : Hid (∀ W, Below w.heap.size w W → W.cell? ⟨g, off, none⟩ = some (.int .i64 a.kind) ∧ W.cell? ⟨g, off + 1, none⟩ = some (.int .i64 a.value) ∧ W.cell? ⟨g, off + 2, none⟩ = some (.slice av a.kids.length ac) ∧
   W.cell? ⟨g, off + 3, none⟩ = some (.int .i64 b.kind) ∧ W.cell? ⟨g, off + 4, none⟩ = some (.int .i64 b.value) ∧ W.cell? ⟨g, off + 5, none⟩ = some (.slice bv b.kids.length bc) ∧
   W.cell? ⟨g, off + 6, none⟩ = some (.int .i64 c.kind) ∧ W.cell? ⟨g, off + 7, none⟩ = some (.int .i64 c.value) ∧ W.cell? ⟨g, off + 8, none⟩ = some (.slice cv c.kids.length cc)) := fun W hW => by
  have hc := fun o => (P7 hW).1 g o hg
  simp only [hc]; exact hcell
 have HKK : Hid (∀ W, Below w.heap.size w W → i7 W (.slice av a.kids.length ac) a.kids S ∧ i7 W (.slice bv b.kids.length bc) b.kids S ∧ i7 W (.slice cv c.kids.length cc) c.kids S ∧ i7 W (.slice (some ⟨g, off, none⟩) 3 cap) [a, b, c] S) := fun W hW =>
  ⟨i7.same k0 fun b _ hl => hW.block b hl, i7.same k1 fun b _ hl => hW.block b hl, i7.same k2 fun b _ hl => hW.block b hl, i7.same hh fun b _ hl => hW.block b hl⟩
 clear hcell k0 k1 k2 h hh hs
 obtain ⟨W, hW, M⟩ : ∃ W, W = (w.alloc (.cells #[.int .i64 11, .int .i64 n, .slice (some ⟨g, off, none⟩) 3 cap] 29)).alloc (.cells #[.int .i64 0, .int .i64 0, .slice none 0 0] 29) ∧ m0 (fun _ => True) (fun _ => True) w W [.box w.heap.size [.int .i64 11, .int .i64 n, .slice (some ⟨g, off, none⟩) 3 cap], .box (w.heap.size + 1) [.int .i64 0, .int .i64 0, .slice none 0 0]] :=
  ⟨_, rfl, ((m0.start fun _ _ => trivial).box _ _).box' _ _ (by simp)⟩
 by_cases qa : a.kind = 1
 case neg =>
  have pa : (a.kind != 1) = true := by simp [qa]
  have HN : Hid (j6 ⟨11, n, [a, b, c]⟩ = ⟨11, n, [a, b, c]⟩) := by rw [Hid, al6, if_neg (fun h => qa h.1)]
  clear qa
  have y0 := M.c 0 0 rfl rfl
  have y1 := M.c 0 1 rfl rfl
  have y2 := M.c 0 2 rfl rfl
  have d0 := M.c 1 0 rfl rfl
  have d1 := M.c 1 1 rfl rfl
  have d2 := M.c 1 2 rfl rfl
  have ff := M.f 1 rfl
  obtain ⟨c0, c1, c2, c3, c4, c5, c6, c7, c8⟩ := HCELL.out _ (M.below fun _ _ => trivial)
  rw [hW] at y0 y1 y2 d0 d1 d2 ff c0 c1 c2 c3 c4 c5 c6 c7 c8
  have HM : Hid (m0 (fun _ => True) (fun _ => True) w _ [.box w.heap.size [.int .i64 11, .int .i64 n, .slice (some ⟨g, off, none⟩) 3 cap], .box (w.heap.size + 1) [.int .i64 11, .int .i64 n, .slice (some ⟨g, off, none⟩) 3 cap]]) := ((m0.start fun _ _ => trivial).box [.int .i64 11, .int .i64 n, .slice (some ⟨g, off, none⟩) 3 cap] 29).box' [.int .i64 11, .int .i64 n, .slice (some ⟨g, off, none⟩) 3 cap] 29 (by simp)
  clear M
  go_enter Try.func74, Try.ntmps74
  go_wp2_with fail
  have M2 := HM.out
  have r0 : World.cell? _ ⟨w.heap.size + 1, 0, none⟩ = some (.int .i64 11) := M2.c 1 0 rfl rfl
  have r1 : World.cell? _ ⟨w.heap.size + 1, 1, none⟩ = some (.int .i64 n) := M2.c 1 1 rfl rfl
  have r2 : World.cell? _ ⟨w.heap.size + 1, 2, none⟩ = some (.slice (some ⟨g, off, none⟩) 3 cap) := M2.c 1 2 rfl rfl
  refine bodyPost_ret (v := .agg #[.int .i64 11, .int .i64 n, .slice (some ⟨g, off, none⟩) 3 cap]) (by simp [results, Try.results74, go_sem, r0, r1, r2]) rfl ?_
  rw [HN.out]
  exact ⟨_, _, rfl, HKK.out _ (M2.below fun _ _ => trivial) |>.2.2.2, M2.below fun _ _ => trivial⟩
 have pa : (a.kind != 1) = false := by simp [qa]
 have HQA := show Hid _ from qa
 clear qa
 have y0 := M.c 0 0 rfl rfl
 have y1 := M.c 0 1 rfl rfl
 have y2 := M.c 0 2 rfl rfl
 have d0 := M.c 1 0 rfl rfl
 have d1 := M.c 1 1 rfl rfl
 have d2 := M.c 1 2 rfl rfl
 have ff := M.f 1 rfl
 obtain ⟨c0, c1, c2, c3, c4, c5, c6, c7, c8⟩ := HCELL.out _ (M.below fun _ _ => trivial)
 have HM := show Hid _ from M
 rw [hW] at y0 y1 y2 d0 d1 d2 ff c0 c1 c2 c3 c4 c5 c6 c7 c8
 clear M
 go_enter Try.func74, Try.ntmps74
 go_wp2_with fail
 rw [← hW]
 clear hW
 have M := HM.out
 clear HM y0 y1 y2 d0 d1 d2 ff c0 c1 c2 c3 c4 c5 c6 c7 c8
 refine (ae5 b S _ _ ⟨_, rfl, i7.read (HKK.out _ (M.below fun _ _ => trivial) |>.2.1) fun _ h => h⟩).mono ?_
 rintro x w1 ⟨rfl, b1⟩
 replace M := M.call b1
 clear b1
 cases hb : t9 b
 ·have HN : Hid (j6 ⟨11, n, [a, b, c]⟩ = ⟨11, n, [a, b, c]⟩) := by rw [Hid, al6, if_neg (fun h => by rw [hb] at h; exact absurd h.2.1 (by simp))]
  clear hb
  have y0 := M.c 0 0 rfl rfl
  have y1 := M.c 0 1 rfl rfl
  have y2 := M.c 0 2 rfl rfl
  have d0 := M.c 1 0 rfl rfl
  have d1 := M.c 1 1 rfl rfl
  have d2 := M.c 1 2 rfl rfl
  have ff := M.f 1 rfl
  obtain ⟨c0, c1, c2, c3, c4, c5, c6, c7, c8⟩ := HCELL.out _ (M.below fun _ _ => trivial)
  have HM := show Hid _ from ((M.set 1 rfl 0 (.int .i64 11)).set 1 rfl 1 (.int .i64 n)).set 1 rfl 2 (.slice (some ⟨g, off, none⟩) 3 cap)
  clear M
  go_wp2_with fail
  have M2 := HM.out
  have r0 : World.cell? _ ⟨w.heap.size + 1, 0, none⟩ = some (.int .i64 11) := M2.c 1 0 rfl rfl
  have r1 : World.cell? _ ⟨w.heap.size + 1, 1, none⟩ = some (.int .i64 n) := M2.c 1 1 rfl rfl
  have r2 : World.cell? _ ⟨w.heap.size + 1, 2, none⟩ = some (.slice (some ⟨g, off, none⟩) 3 cap) := M2.c 1 2 rfl rfl
  refine bodyPost_ret (v := .agg #[.int .i64 11, .int .i64 n, .slice (some ⟨g, off, none⟩) 3 cap]) (by simp [results, Try.results74, go_sem, r0, r1, r2]) rfl ?_
  rw [HN.out]
  exact ⟨_, _, rfl, HKK.out _ (M2.below fun _ _ => trivial) |>.2.2.2, M2.below fun _ _ => trivial⟩
 ·have y0 := M.c 0 0 rfl rfl
  have y1 := M.c 0 1 rfl rfl
  have y2 := M.c 0 2 rfl rfl
  have d0 := M.c 1 0 rfl rfl
  have d1 := M.c 1 1 rfl rfl
  have d2 := M.c 1 2 rfl rfl
  have ff := M.f 1 rfl
  obtain ⟨c0, c1, c2, c3, c4, c5, c6, c7, c8⟩ := HCELL.out _ (M.below fun _ _ => trivial)
  have HM := show Hid _ from M
  clear M
  go_wp2_with fail
  have M := HM.out
  clear HM y0 y1 y2 d0 d1 d2 ff c0 c1 c2 c3 c4 c5 c6 c7 c8
  refine (ae5 c S _ _ ⟨_, rfl, i7.read (HKK.out _ (M.below fun _ _ => trivial) |>.2.2.1) fun _ h => h⟩).mono ?_
  rintro x w1 ⟨rfl, b1⟩
  replace M := M.call b1
  clear b1
  cases hc : t9 c
  ·have HN : Hid (j6 ⟨11, n, [a, b, c]⟩ = ⟨11, n, [a, b, c]⟩) := by rw [Hid, al6, if_neg (fun h => by rw [hc] at h; exact absurd h.2.2 (by simp))]
   clear hb hc
   have y0 := M.c 0 0 rfl rfl
   have y1 := M.c 0 1 rfl rfl
   have y2 := M.c 0 2 rfl rfl
   have d0 := M.c 1 0 rfl rfl
   have d1 := M.c 1 1 rfl rfl
   have d2 := M.c 1 2 rfl rfl
   have ff := M.f 1 rfl
   obtain ⟨c0, c1, c2, c3, c4, c5, c6, c7, c8⟩ := HCELL.out _ (M.below fun _ _ => trivial)
   have HM := show Hid _ from ((M.set 1 rfl 0 (.int .i64 11)).set 1 rfl 1 (.int .i64 n)).set 1 rfl 2 (.slice (some ⟨g, off, none⟩) 3 cap)
   clear M
   go_wp2_with fail
   have M2 := HM.out
   have r0 : World.cell? _ ⟨w.heap.size + 1, 0, none⟩ = some (.int .i64 11) := M2.c 1 0 rfl rfl
   have r1 : World.cell? _ ⟨w.heap.size + 1, 1, none⟩ = some (.int .i64 n) := M2.c 1 1 rfl rfl
   have r2 : World.cell? _ ⟨w.heap.size + 1, 2, none⟩ = some (.slice (some ⟨g, off, none⟩) 3 cap) := M2.c 1 2 rfl rfl
   refine bodyPost_ret (v := .agg #[.int .i64 11, .int .i64 n, .slice (some ⟨g, off, none⟩) 3 cap]) (by simp [results, Try.results74, go_sem, r0, r1, r2]) rfl ?_
   rw [HN.out]
   exact ⟨_, _, rfl, HKK.out _ (M2.below fun _ _ => trivial) |>.2.2.2, M2.below fun _ _ => trivial⟩
  ·by_cases qv : a.value = 0
   ·have pv : (a.value != 0) = false := by simp [qv]
    have HN : Hid (j6 ⟨11, n, [a, b, c]⟩ = c) := by rw [Hid, al6, if_pos ⟨HQA.out, hb, hc⟩, if_neg (by simp [qv])]
    clear qv hb hc
    have y0 := M.c 0 0 rfl rfl
    have y1 := M.c 0 1 rfl rfl
    have y2 := M.c 0 2 rfl rfl
    have d0 := M.c 1 0 rfl rfl
    have d1 := M.c 1 1 rfl rfl
    have d2 := M.c 1 2 rfl rfl
    have ff := M.f 1 rfl
    obtain ⟨c0, c1, c2, c3, c4, c5, c6, c7, c8⟩ := HCELL.out _ (M.below fun _ _ => trivial)
    have HM := show Hid _ from ((M.set 1 rfl 0 (.int .i64 c.kind)).set 1 rfl 1 (.int .i64 c.value)).set 1 rfl 2 (.slice cv c.kids.length cc)
    clear M
    go_wp2_with fail
    have M2 := HM.out
    have r0 : World.cell? _ ⟨w.heap.size + 1, 0, none⟩ = some (.int .i64 c.kind) := M2.c 1 0 rfl rfl
    have r1 : World.cell? _ ⟨w.heap.size + 1, 1, none⟩ = some (.int .i64 c.value) := M2.c 1 1 rfl rfl
    have r2 : World.cell? _ ⟨w.heap.size + 1, 2, none⟩ = some (.slice cv c.kids.length cc) := M2.c 1 2 rfl rfl
    refine bodyPost_ret (v := .agg #[.int .i64 c.kind, .int .i64 c.value, .slice cv c.kids.length cc]) (by simp [results, Try.results74, go_sem, r0, r1, r2]) rfl ?_
    rw [HN.out]
    exact ⟨_, _, rfl, HKK.out _ (M2.below fun _ _ => trivial) |>.2.2.1, M2.below fun _ _ => trivial⟩
   ·have pv : (a.value != 0) = true := by simp [qv]
    have HN : Hid (j6 ⟨11, n, [a, b, c]⟩ = b) := by rw [Hid, al6, if_pos ⟨HQA.out, hb, hc⟩, if_pos qv]
    clear qv hb hc
    have y0 := M.c 0 0 rfl rfl
    have y1 := M.c 0 1 rfl rfl
    have y2 := M.c 0 2 rfl rfl
    have d0 := M.c 1 0 rfl rfl
    have d1 := M.c 1 1 rfl rfl
    have d2 := M.c 1 2 rfl rfl
    have ff := M.f 1 rfl
    obtain ⟨c0, c1, c2, c3, c4, c5, c6, c7, c8⟩ := HCELL.out _ (M.below fun _ _ => trivial)
    have HM := show Hid _ from ((M.set 1 rfl 0 (.int .i64 b.kind)).set 1 rfl 1 (.int .i64 b.value)).set 1 rfl 2 (.slice bv b.kids.length bc)
    clear M
    go_wp2_with fail
    have M2 := HM.out
    have r0 : World.cell? _ ⟨w.heap.size + 1, 0, none⟩ = some (.int .i64 b.kind) := M2.c 1 0 rfl rfl
    have r1 : World.cell? _ ⟨w.heap.size + 1, 1, none⟩ = some (.int .i64 b.value) := M2.c 1 1 rfl rfl
    have r2 : World.cell? _ ⟨w.heap.size + 1, 2, none⟩ = some (.slice bv b.kids.length bc) := M2.c 1 2 rfl rfl
    refine bodyPost_ret (v := .agg #[.int .i64 b.kind, .int .i64 b.value, .slice bv b.kids.length bc]) (by simp [results, Try.results74, go_sem, r0, r1, r2]) rfl ?_
    rw [HN.out]
    exact ⟨_, _, rfl, HKK.out _ (M2.below fun _ _ => trivial) |>.2.1, M2.below fun _ _ => trivial⟩
theorem V0 (k n : Int) (ks : List b5) (v : Value) (S : Nat → Prop) (w : World) (h : i7 w v ks S) (hk : k < 4) (hN : j6 ⟨k, n, ks⟩ = ⟨k, n, ks⟩) :
  Calls Try.prog 74 #[.agg #[.int .i64 k, .int .i64 n, v]] w fun x w' => aY1 w S (j6 ⟨k, n, ks⟩) x w' := by
 have HN := show Hid _ from hN
 obtain ⟨ad, cap, rfl, -⟩ := h.open
 have HKK : Hid (∀ W, Below w.heap.size w W → i7 W (.slice ad ks.length cap) ks S) := fun W hW => i7.same h fun b _ hl => hW.block b hl
 have p11 : (k == 11) = false := by simp; omega
 clear h hN
 obtain ⟨W, hW, M⟩ : ∃ W, W = (w.alloc (.cells #[.int .i64 k, .int .i64 n, .slice ad ks.length cap] 29)).alloc (.cells #[.int .i64 0, .int .i64 0, .slice none 0 0] 29) ∧ m0 (fun _ => True) (fun _ => True) w W [.box w.heap.size [.int .i64 k, .int .i64 n, .slice ad ks.length cap], .box (w.heap.size + 1) [.int .i64 0, .int .i64 0, .slice none 0 0]] :=
  ⟨_, rfl, ((m0.start fun _ _ => trivial).box _ _).box' _ _ (by simp)⟩
 have y0 := M.c 0 0 rfl rfl
 have y1 := M.c 0 1 rfl rfl
 have y2 := M.c 0 2 rfl rfl
 have d0 := M.c 1 0 rfl rfl
 have d1 := M.c 1 1 rfl rfl
 have d2 := M.c 1 2 rfl rfl
 have ff := M.f 1 rfl
 rw [hW] at y0 y1 y2 d0 d1 d2 ff
 have HM : Hid (m0 (fun _ => True) (fun _ => True) w _ [.box w.heap.size [.int .i64 k, .int .i64 n, .slice ad ks.length cap], .box (w.heap.size + 1) [.int .i64 k, .int .i64 n, .slice ad ks.length cap]]) := ((m0.start fun _ _ => trivial).box [.int .i64 k, .int .i64 n, .slice ad ks.length cap] 29).box' [.int .i64 k, .int .i64 n, .slice ad ks.length cap] 29 (by simp)
 clear M
 go_enter Try.func74, Try.ntmps74
 go_wp2_with fail
 have M2 := HM.out
 have r0 : World.cell? _ ⟨w.heap.size + 1, 0, none⟩ = some (.int .i64 k) := M2.c 1 0 rfl rfl
 have r1 : World.cell? _ ⟨w.heap.size + 1, 1, none⟩ = some (.int .i64 n) := M2.c 1 1 rfl rfl
 have r2 : World.cell? _ ⟨w.heap.size + 1, 2, none⟩ = some (.slice ad ks.length cap) := M2.c 1 2 rfl rfl
 refine bodyPost_ret (v := .agg #[.int .i64 k, .int .i64 n, .slice ad ks.length cap]) (by simp [results, Try.results74, go_sem, r0, r1, r2]) rfl ?_
 rw [HN.out]
 exact ⟨_, _, rfl, HKK.out _ (M2.below fun _ _ => trivial), M2.below fun _ _ => trivial⟩
theorem as0 {e : b5} (h : C9 e = true) : (e.kind = 11 ∧ e.kids.length = 3) ∨ (4 ≤ e.kind ∧ e.kind ≤ 10 ∧ e.kids.length = 2) ∨ (e.kind < 4 ∧ 1 ≤ e.kind ∧ e.kids.length ≤ 1) := by
 have h1 := ai0 h
 unfold i8 at h1
 split at h1
 ·right; right; omega
 split at h1
 ·right; right; omega
 split at h1
 ·right; left; omega
 split at h1
 ·left; omega
 ·omega
theorem aF5 (e : b5) (hg : C9 e = true) (v : Value) (S : Nat → Prop) (w : World) (h : i7 w v e.kids S) :
  Calls Try.prog 74 #[.agg #[.int .i64 e.kind, .int .i64 e.value, v]] w fun x w' => aY1 w S (j6 e) x w' := by
 rcases e with ⟨k, n, ks⟩
 have hk := (x7 _).1 (F3 hg)
 rcases as0 hg with ⟨h1, h2⟩ | ⟨h1, h2, h3⟩ | ⟨h1, h2, h3⟩
 ·have h1' : k = 11 := h1
  subst h1'
  match ks, h2, h with
  | [a, b, c], _, h => exact az0 n a b c v S w h
 ·match ks, h3, h, hk with
  | [a, b], _, h, hk => exact az1 k n a b v S w h h1 h2 (N4 (hk a (by simp [b5.kids]))) (N4 (hk b (by simp [b5.kids])))
 ·match ks, h3, h with
  | [], _, h => exact V0 k n _ v S w h h1 rfl
  | [a], _, h => exact V0 k n _ v S w h h1 rfl
theorem aX9 {w : World} {g : Nat} {cs : List Value} (h : R1 w g cs) : K9 w (.slice (some ⟨g, 0, none⟩) 1 1) 1 cs.length cs := by
 refine ⟨by simp, _, _, rfl, bG4 _, by unfold maxLen; omega, fun _ => ⟨_, _, rfl, h.lt, fun j u hj => ?_⟩⟩
 rw [bI4, h.cell j]; exact hj
theorem aI2 {e : b5} (h : C9 e = true) : C9 ⟨e.kind, e.value, e.kids.map b9⟩ = true := by
 rw [N5] at h ⊢
 simp only [b5.kids, b5.kind, b5.value, List.length_map, bE8] at h ⊢
 refine ⟨h.1, (x7 _).2 fun x hx => ?_⟩
 obtain ⟨y, hy, rfl⟩ := bI7.1 hx
 exact aQ7 y ((x7 _).1 h.2 y hy)
def FoE (e : b5) : Prop := C9 e = true → ∀ (φ : Nat → Prop) (v : Value) (w : World), E8 w φ v e →
 Calls Try.prog 36 #[v] w fun x w' => ∃ a c S, x = .returned (.agg #[.int .i64 (b9 e).kind, .int .i64 (b9 e).value, .slice a (b9 e).kids.length c]) ∧ i7 w' (.slice a (b9 e).kids.length c) (b9 e).kids S ∧ (∀ b, S b → w.heap.size ≤ b ∧ b < w'.heap.size) ∧ Below w.heap.size w w'
theorem aF6 (e : b5) : FoE e := by
 refine b5.ind (P := FoE) (fun k0 n0 ks ih => ?_) e
 obtain ⟨e, he⟩ : ∃ e : b5, e = ⟨k0, n0, ks⟩ := ⟨_, rfl⟩
 have hks : ks = e.kids := by rw [he]; rfl
 rw [← he]
 subst hks
 clear he
 intro hgood φ v w h
 obtain ⟨kv, rfl, hk⟩ := h
 obtain ⟨ak, ck, rfl, -, hn, -, hc⟩ := hk.open
 have hl3 : e.kids.length ≤ 3 := by have h1 := ai0 hgood; have h2 := aK4 e.kind; omega
 obtain ⟨W, hW, M⟩ : ∃ W, W = ((w.alloc (.cells #[.int .i64 e.kind, .int .i64 e.value, .slice ak e.kids.length ck] 29)).alloc (.cells #[.int .i64 0, .int .i64 0, .slice none 0 0] 29)).alloc (.cells #[.int .i64 e.kind, .int .i64 e.value, .slice none 0 0] 29) ∧
   m0 (fun _ => True) (fun _ => True) w W [.box w.heap.size [.int .i64 e.kind, .int .i64 e.value, .slice ak e.kids.length ck], .box (w.heap.size + 1) [.int .i64 0, .int .i64 0, .slice none 0 0], .box (w.heap.size + 1 + 1) [.int .i64 e.kind, .int .i64 e.value, .slice none 0 0], .row 29 3 (.slice none 0 0) 0 [], .own (fun _ => False) (fun w => f9 w [] (fun _ => False) [])] :=
  ⟨_, rfl, (((((m0.start fun _ _ => trivial).box _ _).box' _ _ (by simp)).box' _ _ (by simp)).nil 29 3).noneE⟩
 have HC0 := show Hid _ from hc
 have HGK := show Hid (∀ x ∈ e.kids, C9 x = true) from (x7 _).1 (F3 hgood)
 have HM := show Hid _ from M
 clear hk hc M
 go_enter Try.func36, Try.ntmps36
 go_wp2_with fail
 rw [← hW]
 clear hW
 go_loopw [4] (fun i wr => ∃ (k : Nat) (a : Option Addr) (c : Nat) (S : Nat → Prop) (ys : List Value), k ≤ e.kids.length ∧ i = .int .i64 k ∧ m0 (fun _ => True) (fun _ => True) w wr [.box w.heap.size [.int .i64 e.kind, .int .i64 e.value, .slice ak e.kids.length ck], .box (w.heap.size + 1) [.int .i64 0, .int .i64 0, .slice none 0 0], .box (w.heap.size + 1 + 1) [.int .i64 e.kind, .int .i64 e.value, .slice a k c], .row 29 3 (.slice a k c) k ys, .own S (fun w => f9 w ((e.kids.take k).map b9) S ys)]) (fun i _ => e.kids.length - (intOf i).toNat)
 case atStart => exact ⟨0, none, 0, fun _ => False, [], bI1 _, rfl, HM.out⟩
 case round =>
  clear HM
  obtain ⟨k, a, c, S, ys, hk, rfl, M⟩ := hrel
  by_cases hlt : k < e.kids.length
  ·obtain ⟨b, off, kv, rfl, hbk, hf, c0, c1, c2, hkv⟩ := HC0.out k hlt
   obtain ⟨ka, kc, rfl, -⟩ := hkv.open
   have HE : Hid (∀ w', Below w.heap.size w w' → Calls Try.prog 36 #[.agg #[.int .i64 e.kids[k].kind, .int .i64 e.kids[k].value, .slice ka e.kids[k].kids.length kc]] w' fun x w'' => ∃ a c S, x = .returned (.agg #[.int .i64 (b9 e.kids[k]).kind, .int .i64 (b9 e.kids[k]).value, .slice a (b9 e.kids[k]).kids.length c]) ∧ i7 w'' (.slice a (b9 e.kids[k]).kids.length c) (b9 e.kids[k]).kids S ∧ (∀ b, S b → w'.heap.size ≤ b ∧ b < w''.heap.size) ∧ Below w'.heap.size w' w'') := fun w' hw =>
    ih _ (bG3 hlt) (HGK.out _ (bG3 hlt)) φ _ _ ⟨_, rfl, n7.nice _ _ _ _ _ _ (O1.below hw) hkv⟩
   have HC : Hid (∀ (s : Nat) (g : Nat → Value) (w' : World), (fun (s : Nat) (g : Nat → Value) (w' : World) => match s with
 | 0 => m0 (fun _ => True) (fun _ => True) w w' ([.box w.heap.size [.int .i64 e.kind, .int .i64 e.value, .slice (some ⟨b, off, none⟩) e.kids.length ck], .box (w.heap.size + 1) [.int .i64 0, .int .i64 0, .slice none 0 0], .box (w.heap.size + 1 + 1) [.int .i64 e.kind, .int .i64 e.value, .slice a k c], .row 29 3 (.slice a k c) k ys, .own S (fun w => f9 w ((e.kids.take k).map b9) S ys)])
 | 1 => ∃ a7 c7 T, g 0 = .agg #[.int .i64 (b9 e.kids[k]).kind, .int .i64 (b9 e.kids[k]).value, .slice a7 (b9 e.kids[k]).kids.length c7] ∧ m0 (fun _ => True) (fun _ => True) w w' ([.box w.heap.size [.int .i64 e.kind, .int .i64 e.value, .slice (some ⟨b, off, none⟩) e.kids.length ck], .box (w.heap.size + 1) [.int .i64 0, .int .i64 0, .slice none 0 0], .box (w.heap.size + 1 + 1) [.int .i64 e.kind, .int .i64 e.value, .slice a k c], .row 29 3 (.slice a k c) k ys, .own S (fun w => f9 w ((e.kids.take k).map b9) S ys), .own T (fun w => i7 w (.slice a7 (b9 e.kids[k]).kids.length c7) (b9 e.kids[k]).kids T)])
 | 2 => ∃ a7 c7 T gb, g 1 = .slice (some ⟨gb, 0, none⟩) 1 1 ∧ m0 (fun _ => True) (fun _ => True) w w' ([.box w.heap.size [.int .i64 e.kind, .int .i64 e.value, .slice (some ⟨b, off, none⟩) e.kids.length ck], .box (w.heap.size + 1) [.int .i64 0, .int .i64 0, .slice none 0 0], .box (w.heap.size + 1 + 1) [.int .i64 e.kind, .int .i64 e.value, .slice a k c], .row 29 3 (.slice a k c) k ys, .own S (fun w => f9 w ((e.kids.take k).map b9) S ys), .own T (fun w => i7 w (.slice a7 (b9 e.kids[k]).kids.length c7) (b9 e.kids[k]).kids T), .box gb [.int .i64 (b9 e.kids[k]).kind, .int .i64 (b9 e.kids[k]).value, .slice a7 (b9 e.kids[k]).kids.length c7]])
 | 3 => ∃ a7 c7 T gb a9 c9, g 2 = .slice a9 (k + 1) c9 ∧ m0 (fun _ => True) (fun _ => True) w w' ([.box w.heap.size [.int .i64 e.kind, .int .i64 e.value, .slice (some ⟨b, off, none⟩) e.kids.length ck], .box (w.heap.size + 1) [.int .i64 0, .int .i64 0, .slice none 0 0], .box (w.heap.size + 1 + 1) [.int .i64 e.kind, .int .i64 e.value, .slice a k c], .row 29 3 (.slice a9 (k + 1) c9) (k + 1) (ys ++ [.int .i64 (b9 e.kids[k]).kind, .int .i64 (b9 e.kids[k]).value, .slice a7 (b9 e.kids[k]).kids.length c7]), .own S (fun w => f9 w ((e.kids.take k).map b9) S ys), .own T (fun w => i7 w (.slice a7 (b9 e.kids[k]).kids.length c7) (b9 e.kids[k]).kids T), .box gb [.int .i64 (b9 e.kids[k]).kind, .int .i64 (b9 e.kids[k]).value, .slice a7 (b9 e.kids[k]).kids.length c7]])
 | _ => False : Nat → (Nat → Value) → World → Prop) s g w' → w'.cell? ⟨w.heap.size + 1 + 1, 2, none⟩ = some (.slice a k c) ∧ w'.cell? ⟨w.heap.size, 2, none⟩ = some (.slice (some ⟨b, off, none⟩) e.kids.length ck) ∧ w'.cell? ⟨b, off + k * 3, none⟩ = some (.int .i64 e.kids[k].kind) ∧ w'.cell? ⟨b, off + k * 3 + 1, none⟩ = some (.int .i64 e.kids[k].value) ∧ w'.cell? ⟨b, off + k * 3 + 2, none⟩ = some (.slice ka e.kids[k].kids.length kc)) := by
    intro s g w' h
    have key : ∀ (L : List K3), m0 (fun _ => True) (fun _ => True) w w' L → L[0]? = some (.box w.heap.size [.int .i64 e.kind, .int .i64 e.value, .slice (some ⟨b, off, none⟩) e.kids.length ck]) → L[2]? = some (.box (w.heap.size + 1 + 1) [.int .i64 e.kind, .int .i64 e.value, .slice a k c]) → w'.cell? ⟨w.heap.size + 1 + 1, 2, none⟩ = some (.slice a k c) ∧ w'.cell? ⟨w.heap.size, 2, none⟩ = some (.slice (some ⟨b, off, none⟩) e.kids.length ck) ∧ w'.cell? ⟨b, off + k * 3, none⟩ = some (.int .i64 e.kids[k].kind) ∧ w'.cell? ⟨b, off + k * 3 + 1, none⟩ = some (.int .i64 e.kids[k].value) ∧ w'.cell? ⟨b, off + k * 3 + 2, none⟩ = some (.slice ka e.kids[k].kids.length kc) := fun L M h0 h2 => by
     have bb := M.below fun _ _ => trivial
     refine ⟨M.c 2 2 h2 rfl, M.c 0 2 h0 rfl, ?_, ?_, ?_⟩
     ·rw [(P7 bb).1 _ _ hbk]; exact c0
     ·rw [(P7 bb).1 _ _ hbk]; exact c1
     ·rw [(P7 bb).1 _ _ hbk]; exact c2
    match s, h with
    | 0, h => exact key _ h rfl rfl
    | 1, ⟨_, _, _, _, h⟩ => exact key _ h rfl rfl
    | 2, ⟨_, _, _, _, _, h⟩ => exact key _ h rfl rfl
    | 3, ⟨_, _, _, _, _, _, _, h⟩ => exact key _ h rfl rfl
   have x2 := M.c 0 2 rfl rfl
   have hlt' : (k : Int) < e.kids.length := by omega
   have HM := show Hid _ from M
   clear M hkv c0 c1 c2
   go_wp2_with fail
   clear x2
   refine U9 11 [7, 8, 9] (fun i => [.pointer (some ⟨w.heap.size + 1 + 1, 2, none⟩), .slice a k c, .pointer (some ⟨w.heap.size, 2, none⟩), .slice (some ⟨b, off, none⟩) e.kids.length ck, .int .i64 k, .pointer (some ⟨b, off + k * 3, none⟩), .agg #[.int .i64 e.kids[k].kind, .int .i64 e.kids[k].value, .slice ka e.kids[k].kids.length kc], undef, undef, undef, .pointer (some ⟨w.heap.size + 1 + 1, 2, none⟩)].getD i undef) (fun (s : Nat) (g : Nat → Value) (w' : World) => match s with
    | 0 => m0 (fun _ => True) (fun _ => True) w w' ([.box w.heap.size [.int .i64 e.kind, .int .i64 e.value, .slice (some ⟨b, off, none⟩) e.kids.length ck], .box (w.heap.size + 1) [.int .i64 0, .int .i64 0, .slice none 0 0], .box (w.heap.size + 1 + 1) [.int .i64 e.kind, .int .i64 e.value, .slice a k c], .row 29 3 (.slice a k c) k ys, .own S (fun w => f9 w ((e.kids.take k).map b9) S ys)])
    | 1 => ∃ a7 c7 T, g 0 = .agg #[.int .i64 (b9 e.kids[k]).kind, .int .i64 (b9 e.kids[k]).value, .slice a7 (b9 e.kids[k]).kids.length c7] ∧ m0 (fun _ => True) (fun _ => True) w w' ([.box w.heap.size [.int .i64 e.kind, .int .i64 e.value, .slice (some ⟨b, off, none⟩) e.kids.length ck], .box (w.heap.size + 1) [.int .i64 0, .int .i64 0, .slice none 0 0], .box (w.heap.size + 1 + 1) [.int .i64 e.kind, .int .i64 e.value, .slice a k c], .row 29 3 (.slice a k c) k ys, .own S (fun w => f9 w ((e.kids.take k).map b9) S ys), .own T (fun w => i7 w (.slice a7 (b9 e.kids[k]).kids.length c7) (b9 e.kids[k]).kids T)])
    | 2 => ∃ a7 c7 T gb, g 1 = .slice (some ⟨gb, 0, none⟩) 1 1 ∧ m0 (fun _ => True) (fun _ => True) w w' ([.box w.heap.size [.int .i64 e.kind, .int .i64 e.value, .slice (some ⟨b, off, none⟩) e.kids.length ck], .box (w.heap.size + 1) [.int .i64 0, .int .i64 0, .slice none 0 0], .box (w.heap.size + 1 + 1) [.int .i64 e.kind, .int .i64 e.value, .slice a k c], .row 29 3 (.slice a k c) k ys, .own S (fun w => f9 w ((e.kids.take k).map b9) S ys), .own T (fun w => i7 w (.slice a7 (b9 e.kids[k]).kids.length c7) (b9 e.kids[k]).kids T), .box gb [.int .i64 (b9 e.kids[k]).kind, .int .i64 (b9 e.kids[k]).value, .slice a7 (b9 e.kids[k]).kids.length c7]])
    | 3 => ∃ a7 c7 T gb a9 c9, g 2 = .slice a9 (k + 1) c9 ∧ m0 (fun _ => True) (fun _ => True) w w' ([.box w.heap.size [.int .i64 e.kind, .int .i64 e.value, .slice (some ⟨b, off, none⟩) e.kids.length ck], .box (w.heap.size + 1) [.int .i64 0, .int .i64 0, .slice none 0 0], .box (w.heap.size + 1 + 1) [.int .i64 e.kind, .int .i64 e.value, .slice a k c], .row 29 3 (.slice a9 (k + 1) c9) (k + 1) (ys ++ [.int .i64 (b9 e.kids[k]).kind, .int .i64 (b9 e.kids[k]).value, .slice a7 (b9 e.kids[k]).kids.length c7]), .own S (fun w => f9 w ((e.kids.take k).map b9) S ys), .own T (fun w => i7 w (.slice a7 (b9 e.kids[k]).kids.length c7) (b9 e.kids[k]).kids T), .box gb [.int .i64 (b9 e.kids[k]).kind, .int .i64 (b9 e.kids[k]).value, .slice a7 (b9 e.kids[k]).kids.length c7]])
    | _ => False) (by kernel_rfl) (by kernel_rfl) (by kernel_rfl) (by kernel_rfl) (by decide) (by decide) ?_ ?_ ?_ ?_ ?_
   ·intro s g g' w' hg h
    match s, h with
    | 0, h => exact h
    | 1, ⟨a7, c7, T, h1, h2⟩ => exact ⟨a7, c7, T, (hg 0 (by omega)).symm.trans h1, h2⟩
    | 2, ⟨a7, c7, T, gb, h1, h2⟩ => exact ⟨a7, c7, T, gb, (hg 1 (by omega)).symm.trans h1, h2⟩
    | 3, ⟨a7, c7, T, gb, a9, c9, h1, h2⟩ => exact ⟨a7, c7, T, gb, a9, c9, (hg 2 (by omega)).symm.trans h1, h2⟩
   ·intro g
    exact HM.out.drew
   ·intro i o hi hn ho s f w' hst hdep Q' hQ
    have HQ := show Hid _ from hQ
    clear hQ
    have hc : i = 0 ∨ i = 1 ∨ i = 2 ∨ i = 3 ∨ i = 4 ∨ i = 5 ∨ i = 6 ∨ i = 10 := by simp at hn; omega
    clear hn
    rcases hc with rfl | rfl | rfl | rfl | rfl | rfl | rfl | rfl
    all_goals
     simp only [bG1, bG9, Option.some.injEq] at ho
     subst ho
    ·clear hdep hst
     simp only [j4]
     go_wp2_with fail
     exact o7 HQ.out (by kernel_rfl)
    ·have e0 : f 0 = .pointer (some ⟨w.heap.size + 1 + 1, 2, none⟩) := hdep { on := 0, ground := .data } (by simp) (by kernel_rfl) (by simp)
     obtain ⟨x0, x1, x2, x3, x4⟩ := HC.out _ _ _ hst
     clear hdep hst
     obtain ⟨f', rfl⟩ := o3 e0
     clear e0
     simp only [j4, J6, ↓reduceIte, bG5]
     go_wp2_with fail
     exact o7 HQ.out (by kernel_rfl)
    ·clear hdep hst
     simp only [j4]
     go_wp2_with fail
     exact o7 HQ.out (by kernel_rfl)
    ·have e2 : f 2 = .pointer (some ⟨w.heap.size, 2, none⟩) := hdep { on := 2, ground := .data } (by simp) (by kernel_rfl) (by simp)
     obtain ⟨x0, x1, x2, x3, x4⟩ := HC.out _ _ _ hst
     clear hdep hst
     obtain ⟨f', rfl⟩ := o3 e2
     clear e2
     simp only [j4, J6, ↓reduceIte, bG5]
     go_wp2_with fail
     exact o7 HQ.out (by kernel_rfl)
    ·clear hdep hst
     simp only [j4]
     go_wp2_with fail
     exact o7 HQ.out (by kernel_rfl)
    ·have e3 : f 3 = .slice (some ⟨b, off, none⟩) e.kids.length ck := hdep { on := 3, ground := .data } (by simp) (by kernel_rfl) (by simp)
     have e4 : f 4 = .int .i64 k := hdep { on := 4, ground := .data } (by simp) (by kernel_rfl) (by simp)
     obtain ⟨x0, x1, x2, x3, x4⟩ := HC.out _ _ _ hst
     clear hdep hst
     obtain ⟨f', rfl⟩ := o3 e3
     clear e3
     simp only [J6, ↓reduceIte, bG5] at e4
     obtain ⟨f'', rfl⟩ := o3 e4
     clear e4
     simp only [j4, J6, ↓reduceIte, bG5]
     go_wp2_with fail
     exact o7 HQ.out (by kernel_rfl)
    ·have e5 : f 5 = .pointer (some ⟨b, off + k * 3, none⟩) := hdep { on := 5, ground := .data } (by simp) (by kernel_rfl) (by simp)
     obtain ⟨x0, x1, x2, x3, x4⟩ := HC.out _ _ _ hst
     clear hdep hst
     obtain ⟨f', rfl⟩ := o3 e5
     clear e5
     simp only [j4, J6, ↓reduceIte, bG5]
     go_wp2_with fail
     exact o7 HQ.out (by kernel_rfl)
    ·clear hdep hst
     simp only [j4]
     go_wp2_with fail
     exact o7 HQ.out (by kernel_rfl)
   ·intro s j o hs ho f w' hst hdep Q' hQ
    have HQ := show Hid _ from hQ
    clear hQ
    match s, hs, hst, HQ with
    | 0, hs, hst, HQ =>
     simp only [bG1, Option.some.injEq] at hs
     subst hs
     simp only [bG1, bG9, Option.some.injEq] at ho
     subst ho
     have M : m0 (fun _ => True) (fun _ => True) w w' ([.box w.heap.size [.int .i64 e.kind, .int .i64 e.value, .slice (some ⟨b, off, none⟩) e.kids.length ck], .box (w.heap.size + 1) [.int .i64 0, .int .i64 0, .slice none 0 0], .box (w.heap.size + 1 + 1) [.int .i64 e.kind, .int .i64 e.value, .slice a k c], .row 29 3 (.slice a k c) k ys, .own S (fun w => f9 w ((e.kids.take k).map b9) S ys)]) := hst
     have HM7 := show Hid _ from M
     have e6 : f 6 = .agg #[.int .i64 e.kids[k].kind, .int .i64 e.kids[k].value, .slice ka e.kids[k].kids.length kc] := hdep { on := 6, ground := .data } (by simp) (by kernel_rfl) (by simp)
     clear hdep hst M
     obtain ⟨f', rfl⟩ := o3 e6
     clear e6
     simp only [j4, J6, ↓reduceIte, bG5]
     go_wp2_with fail
     refine (HE.out w' (HM7.out.below fun _ _ => trivial)).mono ?_
     rintro x w7 ⟨a7, c7, T, rfl, hO, hT, b7⟩
     have HM8 := show Hid _ from HM7.out.callO b7 (S := T) (R := fun w => i7 w (.slice a7 (b9 e.kids[k]).kids.length c7) (b9 e.kids[k]).kids T) (fun _ _ h hs => i7.same h hs) hO hT
     clear hO hT b7
     go_wp2_with fail
     exact o7 (HQ.out (.agg #[.int .i64 (b9 e.kids[k]).kind, .int .i64 (b9 e.kids[k]).value, .slice a7 (b9 e.kids[k]).kids.length c7]) _ ⟨a7, c7, T, rfl, HM8.out⟩) (by kernel_rfl)
    | 1, hs, hst, HQ =>
     simp only [bG1, bG9, Option.some.injEq] at hs
     subst hs
     simp only [bG1, bG9, Option.some.injEq] at ho
     subst ho
     obtain ⟨a7, c7, T, e7, M⟩ := hst
     have e7 : f 7 = .agg #[.int .i64 (b9 e.kids[k]).kind, .int .i64 (b9 e.kids[k]).value, .slice a7 (b9 e.kids[k]).kids.length c7] := e7
     have HM7 := show Hid _ from M.box [.int .i64 (b9 e.kids[k]).kind, .int .i64 (b9 e.kids[k]).value, .slice a7 (b9 e.kids[k]).kids.length c7] 29
     clear hdep M
     obtain ⟨f', rfl⟩ := o3 e7
     clear e7
     simp only [j4, J6, ↓reduceIte, bG5]
     go_wp2_with fail
     exact o7 (HQ.out (.slice (some ⟨w'.heap.size, 0, none⟩) 1 1) _ ⟨a7, c7, T, w'.heap.size, rfl, HM7.out⟩) (by kernel_rfl)
    | 2, hs, hst, HQ =>
     simp only [bG1, bG9, Option.some.injEq] at hs
     subst hs
     simp only [bG1, bG9, Option.some.injEq] at ho
     subst ho
     obtain ⟨a7, c7, T, gb, e8, M⟩ := hst
     have e8 : f 8 = .slice (some ⟨gb, 0, none⟩) 1 1 := e8
     have e1 : f 1 = .slice a k c := hdep { on := 1, ground := .data } (by simp) (by kernel_rfl) (by simp)
     clear hdep
     refine ao5 rfl _ _ rfl Try.underlying27 bm6 rfl (by omega) (Eq.trans (by kernel_rfl) e1) (M.r 3 rfl) (Eq.trans (by kernel_rfl) e8) (aX9 (M.blk 6 rfl)) (fun u hu => by simp at hu; rcases hu with rfl | rfl | rfl <;> rfl) (by omega) (by omega) (bI1 _) ?_
     intro a9 c9 w9 o9 _ g9 n9
     exact wpList_nil (HQ.out _ _ ⟨a7, c7, T, gb, a9, c9, rfl, M.app 3 rfl o9 g9 n9⟩)
    | s + 3, hs, _, _ => simp at hs
   ·intro o ho f w' hst hall
    simp only [bG1, bG9, Option.some.injEq] at ho
    subst ho
    obtain ⟨a7, c7, T, gb, a9, c9, e9, M⟩ := hst
    have e9 : f 9 = .slice a9 (k + 1) c9 := e9
    have e10 : f 10 = .pointer (some ⟨w.heap.size + 1 + 1, 2, none⟩) := hall 10 (by omega) (by simp)
    have x0 := M.c 2 2 rfl rfl
    have f0 := M.f 2 rfl
    have M9 : m0 (fun _ => True) (fun _ => True) w _ ([.box w.heap.size [.int .i64 e.kind, .int .i64 e.value, .slice (some ⟨b, off, none⟩) e.kids.length ck], .box (w.heap.size + 1) [.int .i64 0, .int .i64 0, .slice none 0 0], .box (w.heap.size + 1 + 1) [.int .i64 e.kind, .int .i64 e.value, .slice a9 (k + 1) c9], .row 29 3 (.slice a9 (k + 1) c9) (k + 1) (ys ++ [.int .i64 (b9 e.kids[k]).kind, .int .i64 (b9 e.kids[k]).value, .slice a7 (b9 e.kids[k]).kids.length c7])] ++ [.own S (fun w => f9 w ((e.kids.take k).map b9) S ys), .own T (fun w => i7 w (.slice a7 (b9 e.kids[k]).kids.length c7) (b9 e.kids[k]).kids T)]) := (M.set 2 rfl 2 (.slice a9 (k + 1) c9)).take 6
    have HM9 := show Hid _ from m0.joinE (e := b9 e.kids[k]) M9
    clear M9
    clear hall M HM HC
    obtain ⟨f', rfl⟩ := o3 e9
    clear e9
    simp only [J6, ↓reduceIte, bG5] at e10
    obtain ⟨f'', rfl⟩ := o3 e10
    clear e10
    simp only [j4, J6, ↓reduceIte, bG5]
    go_wp2_with fail
    refine ⟨⟨k + 1, a9, c9, _, _, by omega, by go_num, by rw [n8 _ _ hlt, List.map_append]; exact HM9.out⟩, by simp [intOf]; omega⟩
  ·have hkn : k = e.kids.length := by omega
   subst hkn
   have x0 := M.c 2 0 rfl rfl
   have x1 := M.c 2 1 rfl rfl
   have x2 := M.c 2 2 rfl rfl
   have x3 := M.c 0 2 rfl rfl
   rw [bF9 (bG4 _)] at M
   have M3 : m0 (fun _ => True) (fun _ => True) w wr ([.box w.heap.size [.int .i64 e.kind, .int .i64 e.value, .slice ak e.kids.length ck], .box (w.heap.size + 1) [.int .i64 0, .int .i64 0, .slice none 0 0], .box (w.heap.size + 1 + 1) [.int .i64 e.kind, .int .i64 e.value, .slice a e.kids.length c]] ++ [.row 29 3 (.slice a e.kids.length c) e.kids.length ys, .own S (fun w => f9 w (e.kids.map b9) S ys)]) := M
   have M4 := m0.joinK M3 (by simp)
   have HG2 := show Hid (C9 ⟨e.kind, e.value, e.kids.map b9⟩ = true) from aI2 hgood
   have HM4 := show Hid _ from M4
   clear M M3 M4
   go_wp2_with fail
   clear x0 x1 x2 x3
   refine (aF5 ⟨e.kind, e.value, e.kids.map b9⟩ HG2.out _ _ _ (HM4.out.o 3 rfl)).mono ?_
   rintro x w2 ⟨a2, c2, rfl, hO, b2⟩
   rw [← H1] at hO ⊢
   have M5 := (HM4.out.call b2).turn 3 rfl (y6.refl _ _) (fun _ _ h hs => i7.same h hs) hO
   have d0 := M5.c 1 0 rfl rfl
   have d1 := M5.c 1 1 rfl rfl
   have d2 := M5.c 1 2 rfl rfl
   have ff := M5.f 1 rfl
   have HM6 := show Hid _ from ((M5.set 1 rfl 0 (.int .i64 (b9 e).kind)).set 1 rfl 1 (.int .i64 (b9 e).value)).set 1 rfl 2 (.slice a2 (b9 e).kids.length c2)
   clear M5 hO b2 HM4
   go_wp2_with fail
   have M2 := HM6.out
   have r0 : World.cell? _ ⟨w.heap.size + 1, 0, none⟩ = some (.int .i64 (b9 e).kind) := M2.c 1 0 rfl rfl
   have r1 : World.cell? _ ⟨w.heap.size + 1, 1, none⟩ = some (.int .i64 (b9 e).value) := M2.c 1 1 rfl rfl
   have r2 : World.cell? _ ⟨w.heap.size + 1, 2, none⟩ = some (.slice a2 (b9 e).kids.length c2) := M2.c 1 2 rfl rfl
   refine bodyPost_ret (v := .agg #[.int .i64 (b9 e).kind, .int .i64 (b9 e).value, .slice a2 (b9 e).kids.length c2]) (by simp [results, Try.results36, go_sem, r0, r1, r2]) rfl ⟨a2, c2, _, rfl, M2.o 3 rfl, fun b hb => ⟨?_, M2.lt (bE9 (i := 3) rfl) hb⟩, M2.below fun _ _ => trivial⟩
   exact (M2.ge _ b (bE9 (i := 3) rfl) hb).elim (fun h => h) fun h => absurd bF1 h
theorem B4 {w w' : World} {S : Nat → Prop} {g o : Nat} {u : Value} (hs : S g) (h : w.cell? ⟨g, o, none⟩ = some u) (hk : ∀ b, S b → b < w.heap.size → w'.heap[b]? = w.heap[b]?) : w'.cell? ⟨g, o, none⟩ = some u := by
 have := hk g hs (World.block_lt_of_cell? w _ h)
 simp only [World.cell?, this] at h ⊢
 exact h
def R0 (w : World) (S : Nat → Prop) (g off cap : Nat) (av : Option Addr) (ac : Nat) (bv : Option Addr) (bc : Nat) (a b : b5) : Prop :=
 S g ∧ w.cell? ⟨g, off, none⟩ = some (.int .i64 a.kind) ∧ w.cell? ⟨g, off + 1, none⟩ = some (.int .i64 a.value) ∧ w.cell? ⟨g, off + 2, none⟩ = some (.slice av a.kids.length ac) ∧
   w.cell? ⟨g, off + 3, none⟩ = some (.int .i64 b.kind) ∧ w.cell? ⟨g, off + 4, none⟩ = some (.int .i64 b.value) ∧ w.cell? ⟨g, off + 5, none⟩ = some (.slice bv b.kids.length bc) ∧
  i7 w (.slice av a.kids.length ac) a.kids S ∧ i7 w (.slice bv b.kids.length bc) b.kids S ∧ i7 w (.slice (some ⟨g, off, none⟩) 2 cap) [a, b] S
theorem R0.same {w w' : World} {S : Nat → Prop} {g off cap : Nat} {av : Option Addr} {ac : Nat} {bv : Option Addr} {bc : Nat} {a b : b5} (h : R0 w S g off cap av ac bv bc a b) (hk : ∀ b, S b → b < w.heap.size → w'.heap[b]? = w.heap[b]?) : R0 w' S g off cap av ac bv bc a b :=
 ⟨h.1, B4 h.1 h.2.1 hk, B4 h.1 h.2.2.1 hk, B4 h.1 h.2.2.2.1 hk, B4 h.1 h.2.2.2.2.1 hk, B4 h.1 h.2.2.2.2.2.1 hk, B4 h.1 h.2.2.2.2.2.2.1 hk, h.2.2.2.2.2.2.2.1.same hk, h.2.2.2.2.2.2.2.2.1.same hk, h.2.2.2.2.2.2.2.2.2.same hk⟩
def aj4 (w : World) (S : Nat → Prop) (g off cap : Nat) (av : Option Addr) (ac : Nat) (bv : Option Addr) (bc : Nat) (cv : Option Addr) (cc : Nat) (a b c : b5) : Prop :=
 S g ∧ (w.cell? ⟨g, off, none⟩ = some (.int .i64 a.kind) ∧ w.cell? ⟨g, off + 1, none⟩ = some (.int .i64 a.value) ∧ w.cell? ⟨g, off + 2, none⟩ = some (.slice av a.kids.length ac) ∧
   w.cell? ⟨g, off + 3, none⟩ = some (.int .i64 b.kind) ∧ w.cell? ⟨g, off + 4, none⟩ = some (.int .i64 b.value) ∧ w.cell? ⟨g, off + 5, none⟩ = some (.slice bv b.kids.length bc) ∧
   w.cell? ⟨g, off + 6, none⟩ = some (.int .i64 c.kind) ∧ w.cell? ⟨g, off + 7, none⟩ = some (.int .i64 c.value) ∧ w.cell? ⟨g, off + 8, none⟩ = some (.slice cv c.kids.length cc)) ∧
  i7 w (.slice av a.kids.length ac) a.kids S ∧ i7 w (.slice bv b.kids.length bc) b.kids S ∧ i7 w (.slice cv c.kids.length cc) c.kids S ∧ i7 w (.slice (some ⟨g, off, none⟩) 3 cap) [a, b, c] S
theorem aj4.same {w w' : World} {S : Nat → Prop} {g off cap : Nat} {av : Option Addr} {ac : Nat} {bv : Option Addr} {bc : Nat} {cv : Option Addr} {cc : Nat} {a b c : b5} (h : aj4 w S g off cap av ac bv bc cv cc a b c) (hk : ∀ b, S b → b < w.heap.size → w'.heap[b]? = w.heap[b]?) : aj4 w' S g off cap av ac bv bc cv cc a b c := by
 obtain ⟨h1, ⟨k0, k1, k2, k3, k4, k5, k6, k7, k8⟩, h2, h3, h4, h5⟩ := h
 exact ⟨h1, ⟨B4 h1 k0 hk, B4 h1 k1 hk, B4 h1 k2 hk, B4 h1 k3 hk, B4 h1 k4 hk, B4 h1 k5 hk, B4 h1 k6 hk, B4 h1 k7 hk, B4 h1 k8 hk⟩, h2.same hk, h3.same hk, h4.same hk, h5.same hk⟩
def G4 (w : World) (e : b5) (x : Ending) (w' : World) : Prop :=
 ∃ a c S, x = .returned (.agg #[.int .i64 (b9 e).kind, .int .i64 (b9 e).value, .slice a (b9 e).kids.length c]) ∧ i7 w' (.slice a (b9 e).kids.length c) (b9 e).kids S ∧ (∀ b, S b → w.heap.size ≤ b ∧ b < w'.heap.size) ∧ Below w.heap.size w w'
def FoI (e : b5) : Prop := C9 e = true → ∀ (φ : Nat → Prop) (v : Value) (w : World), E8 w φ v e →
 Calls Try.prog 34 #[v] w fun x w' => G4 w e x w'
theorem aZ5 (e : b5) : FoI e := by
 refine b5.ind (P := FoI) (fun k0 n0 ks ih => ?_) e
 obtain ⟨e, he⟩ : ∃ e : b5, e = ⟨k0, n0, ks⟩ := ⟨_, rfl⟩
 have hks : ks = e.kids := by rw [he]; rfl
 rw [← he]
 subst hks
 clear he
 intro hgood φ v w h
 obtain ⟨kv, rfl, hk⟩ := h
 obtain ⟨ak, ck, rfl, -, hn, -, hc⟩ := hk.open
 have hl3 : e.kids.length ≤ 3 := by have h1 := ai0 hgood; have h2 := aK4 e.kind; omega
 obtain ⟨m, hm⟩ : ∃ m, m = e.kids.length := ⟨_, rfl⟩
 rw [← hm] at hn hl3 ⊢
 obtain ⟨W, hW, M⟩ : ∃ W, W = ((w.alloc (.cells #[.int .i64 e.kind, .int .i64 e.value, .slice ak m ck] 29)).alloc (.cells #[.int .i64 0, .int .i64 0, .slice none 0 0] 29)).alloc (.cells #[.int .i64 e.kind, .int .i64 e.value, .slice none 0 0] 29) ∧
   m0 (fun _ => True) (fun _ => True) w W [.box w.heap.size [.int .i64 e.kind, .int .i64 e.value, .slice ak m ck], .box (w.heap.size + 1) [.int .i64 0, .int .i64 0, .slice none 0 0], .box (w.heap.size + 1 + 1) [.int .i64 e.kind, .int .i64 e.value, .slice none 0 0], .row 29 3 (.slice none 0 0) 0 [], .own (fun _ => False) (fun w => f9 w [] (fun _ => False) [])] :=
  ⟨_, rfl, (((((m0.start fun _ _ => trivial).box _ _).box' _ _ (by simp)).box' _ _ (by simp)).nil 29 3).noneE⟩
 have HC0 := show Hid _ from hc
 have HGK := show Hid (∀ x ∈ e.kids, C9 x = true) from (x7 _).1 (F3 hgood)
 have HM := show Hid _ from M
 have HMM := show Hid _ from hm
 have y2 := M.c 0 2 rfl rfl
 rw [hW] at y2
 clear hk hc M hm
 go_enter Try.func34, Try.ntmps34
 go_wp2_with fail
 rw [← hW]
 clear hW y2
 go_loopw [17] (fun i wr => ∃ (k : Nat) (a : Option Addr) (c : Nat) (S : Nat → Prop) (ys : List Value), k ≤ m ∧ i = .int .i64 k ∧ m0 (fun _ => True) (fun _ => True) w wr [.box w.heap.size [.int .i64 e.kind, .int .i64 e.value, .slice ak m ck], .box (w.heap.size + 1) [.int .i64 0, .int .i64 0, .slice none 0 0], .box (w.heap.size + 1 + 1) [.int .i64 e.kind, .int .i64 e.value, .slice a k c], .row 29 3 (.slice a k c) k ys, .own S (fun w => f9 w ((e.kids.take k).map b9) S ys)]) (fun i _ => m - (intOf i).toNat)
 case atStart => exact ⟨0, none, 0, fun _ => False, [], bI1 _, rfl, HM.out⟩
 case round =>
  clear HM
  obtain ⟨k, a, c, S, ys, hk, rfl, M⟩ := hrel
  by_cases hltm : k < m
  ·have hlt : k < e.kids.length := by have := HMM.out; omega
   obtain ⟨b, off, kv, rfl, hbk, hf, c0, c1, c2, hkv⟩ := HC0.out k hlt
   obtain ⟨ka, kc, rfl, -⟩ := hkv.open
   rw [← (P7 (M.below fun _ _ => trivial)).1 _ _ hbk] at c0 c1 c2
   have HE : Hid (∀ w', Below w.heap.size w w' → Calls Try.prog 34 #[.agg #[.int .i64 e.kids[k].kind, .int .i64 e.kids[k].value, .slice ka e.kids[k].kids.length kc]] w' fun x w'' => G4 w' e.kids[k] x w'') := fun w' hw =>
    ih _ (bG3 hlt) (HGK.out _ (bG3 hlt)) φ _ _ ⟨_, rfl, n7.nice _ _ _ _ _ _ (O1.below hw) hkv⟩
   have HM := show Hid _ from M.box [.int .i64 e.kids[k].kind, .int .i64 e.kids[k].value, .slice ka e.kids[k].kids.length kc] 29
   clear M hkv
   go_wp2_with fail
   clear c0 c1 c2
   obtain ⟨g5, hg5⟩ : ∃ g5, g5 = wr.heap.size := ⟨_, rfl⟩
   replace HM : Hid (m0 (fun _ => True) (fun _ => True) w (wr.alloc (.cells #[.int .i64 e.kids[k].kind, .int .i64 e.kids[k].value, .slice ka e.kids[k].kids.length kc] 29)) ([.box w.heap.size [.int .i64 e.kind, .int .i64 e.value, .slice (some ⟨b, off, none⟩) m ck], .box (w.heap.size + 1) [.int .i64 0, .int .i64 0, .slice none 0 0], .box (w.heap.size + 1 + 1) [.int .i64 e.kind, .int .i64 e.value, .slice a k c], .row 29 3 (.slice a k c) k ys, .own S (fun w => f9 w ((e.kids.take k).map b9) S ys), .box g5 [.int .i64 e.kids[k].kind, .int .i64 e.kids[k].value, .slice ka e.kids[k].kids.length kc]])) := by rw [hg5]; exact HM
   rw [← hg5]
   clear hg5
   generalize wr.alloc (.cells #[.int .i64 e.kids[k].kind, .int .i64 e.kids[k].value, .slice ka e.kids[k].kids.length kc] 29) = w5 at *
   have HC : Hid (∀ (s : Nat) (g : Nat → Value) (w' : World), (fun (s : Nat) (g : Nat → Value) (w' : World) => match s with
 | 0 => m0 (fun _ => True) (fun _ => True) w w' ([.box w.heap.size [.int .i64 e.kind, .int .i64 e.value, .slice (some ⟨b, off, none⟩) m ck], .box (w.heap.size + 1) [.int .i64 0, .int .i64 0, .slice none 0 0], .box (w.heap.size + 1 + 1) [.int .i64 e.kind, .int .i64 e.value, .slice a k c], .row 29 3 (.slice a k c) k ys, .own S (fun w => f9 w ((e.kids.take k).map b9) S ys), .box g5 [.int .i64 e.kids[k].kind, .int .i64 e.kids[k].value, .slice ka e.kids[k].kids.length kc]])
 | 1 => ∃ a7 c7 T, g 0 = .agg #[.int .i64 (b9 e.kids[k]).kind, .int .i64 (b9 e.kids[k]).value, .slice a7 (b9 e.kids[k]).kids.length c7] ∧ m0 (fun _ => True) (fun _ => True) w w' ([.box w.heap.size [.int .i64 e.kind, .int .i64 e.value, .slice (some ⟨b, off, none⟩) m ck], .box (w.heap.size + 1) [.int .i64 0, .int .i64 0, .slice none 0 0], .box (w.heap.size + 1 + 1) [.int .i64 e.kind, .int .i64 e.value, .slice a k c], .row 29 3 (.slice a k c) k ys, .own S (fun w => f9 w ((e.kids.take k).map b9) S ys), .box g5 [.int .i64 e.kids[k].kind, .int .i64 e.kids[k].value, .slice ka e.kids[k].kids.length kc], .own T (fun w => i7 w (.slice a7 (b9 e.kids[k]).kids.length c7) (b9 e.kids[k]).kids T)])
 | 2 => ∃ a7 c7 T gb, g 1 = .slice (some ⟨gb, 0, none⟩) 1 1 ∧ m0 (fun _ => True) (fun _ => True) w w' ([.box w.heap.size [.int .i64 e.kind, .int .i64 e.value, .slice (some ⟨b, off, none⟩) m ck], .box (w.heap.size + 1) [.int .i64 0, .int .i64 0, .slice none 0 0], .box (w.heap.size + 1 + 1) [.int .i64 e.kind, .int .i64 e.value, .slice a k c], .row 29 3 (.slice a k c) k ys, .own S (fun w => f9 w ((e.kids.take k).map b9) S ys), .box g5 [.int .i64 e.kids[k].kind, .int .i64 e.kids[k].value, .slice ka e.kids[k].kids.length kc], .own T (fun w => i7 w (.slice a7 (b9 e.kids[k]).kids.length c7) (b9 e.kids[k]).kids T), .box gb [.int .i64 (b9 e.kids[k]).kind, .int .i64 (b9 e.kids[k]).value, .slice a7 (b9 e.kids[k]).kids.length c7]])
 | 3 => ∃ a7 c7 T gb a9 c9, g 2 = .slice a9 (k + 1) c9 ∧ m0 (fun _ => True) (fun _ => True) w w' ([.box w.heap.size [.int .i64 e.kind, .int .i64 e.value, .slice (some ⟨b, off, none⟩) m ck], .box (w.heap.size + 1) [.int .i64 0, .int .i64 0, .slice none 0 0], .box (w.heap.size + 1 + 1) [.int .i64 e.kind, .int .i64 e.value, .slice a k c], .row 29 3 (.slice a9 (k + 1) c9) (k + 1) (ys ++ [.int .i64 (b9 e.kids[k]).kind, .int .i64 (b9 e.kids[k]).value, .slice a7 (b9 e.kids[k]).kids.length c7]), .own S (fun w => f9 w ((e.kids.take k).map b9) S ys), .box g5 [.int .i64 e.kids[k].kind, .int .i64 e.kids[k].value, .slice ka e.kids[k].kids.length kc], .own T (fun w => i7 w (.slice a7 (b9 e.kids[k]).kids.length c7) (b9 e.kids[k]).kids T), .box gb [.int .i64 (b9 e.kids[k]).kind, .int .i64 (b9 e.kids[k]).value, .slice a7 (b9 e.kids[k]).kids.length c7]])
 | _ => False : Nat → (Nat → Value) → World → Prop) s g w' → w'.cell? ⟨w.heap.size + 1 + 1, 2, none⟩ = some (.slice a k c) ∧ w'.cell? ⟨g5, 0, none⟩ = some (.int .i64 e.kids[k].kind) ∧ w'.cell? ⟨g5, 1, none⟩ = some (.int .i64 e.kids[k].value) ∧ w'.cell? ⟨g5, 2, none⟩ = some (.slice ka e.kids[k].kids.length kc)) := by
    intro s g w' h
    have key : ∀ (L : List K3), m0 (fun _ => True) (fun _ => True) w w' L → L[5]? = some (.box g5 [.int .i64 e.kids[k].kind, .int .i64 e.kids[k].value, .slice ka e.kids[k].kids.length kc]) → L[2]? = some (.box (w.heap.size + 1 + 1) [.int .i64 e.kind, .int .i64 e.value, .slice a k c]) → w'.cell? ⟨w.heap.size + 1 + 1, 2, none⟩ = some (.slice a k c) ∧ w'.cell? ⟨g5, 0, none⟩ = some (.int .i64 e.kids[k].kind) ∧ w'.cell? ⟨g5, 1, none⟩ = some (.int .i64 e.kids[k].value) ∧ w'.cell? ⟨g5, 2, none⟩ = some (.slice ka e.kids[k].kids.length kc) := fun L M h0 h2 =>
     ⟨M.c 2 2 h2 rfl, M.c 5 0 h0 rfl, M.c 5 1 h0 rfl, M.c 5 2 h0 rfl⟩
    match s, h with
    | 0, h => exact key _ h rfl rfl
    | 1, ⟨_, _, _, _, h⟩ => exact key _ h rfl rfl
    | 2, ⟨_, _, _, _, _, h⟩ => exact key _ h rfl rfl
    | 3, ⟨_, _, _, _, _, _, _, h⟩ => exact key _ h rfl rfl
   refine U9 7 [3, 4, 5] (fun i => [.pointer (some ⟨w.heap.size + 1 + 1, 2, none⟩), .slice a k c, .agg #[.int .i64 e.kids[k].kind, .int .i64 e.kids[k].value, .slice ka e.kids[k].kids.length kc], undef, undef, undef, .pointer (some ⟨w.heap.size + 1 + 1, 2, none⟩)].getD i undef) (fun (s : Nat) (g : Nat → Value) (w' : World) => match s with
    | 0 => m0 (fun _ => True) (fun _ => True) w w' ([.box w.heap.size [.int .i64 e.kind, .int .i64 e.value, .slice (some ⟨b, off, none⟩) m ck], .box (w.heap.size + 1) [.int .i64 0, .int .i64 0, .slice none 0 0], .box (w.heap.size + 1 + 1) [.int .i64 e.kind, .int .i64 e.value, .slice a k c], .row 29 3 (.slice a k c) k ys, .own S (fun w => f9 w ((e.kids.take k).map b9) S ys), .box g5 [.int .i64 e.kids[k].kind, .int .i64 e.kids[k].value, .slice ka e.kids[k].kids.length kc]])
    | 1 => ∃ a7 c7 T, g 0 = .agg #[.int .i64 (b9 e.kids[k]).kind, .int .i64 (b9 e.kids[k]).value, .slice a7 (b9 e.kids[k]).kids.length c7] ∧ m0 (fun _ => True) (fun _ => True) w w' ([.box w.heap.size [.int .i64 e.kind, .int .i64 e.value, .slice (some ⟨b, off, none⟩) m ck], .box (w.heap.size + 1) [.int .i64 0, .int .i64 0, .slice none 0 0], .box (w.heap.size + 1 + 1) [.int .i64 e.kind, .int .i64 e.value, .slice a k c], .row 29 3 (.slice a k c) k ys, .own S (fun w => f9 w ((e.kids.take k).map b9) S ys), .box g5 [.int .i64 e.kids[k].kind, .int .i64 e.kids[k].value, .slice ka e.kids[k].kids.length kc], .own T (fun w => i7 w (.slice a7 (b9 e.kids[k]).kids.length c7) (b9 e.kids[k]).kids T)])
    | 2 => ∃ a7 c7 T gb, g 1 = .slice (some ⟨gb, 0, none⟩) 1 1 ∧ m0 (fun _ => True) (fun _ => True) w w' ([.box w.heap.size [.int .i64 e.kind, .int .i64 e.value, .slice (some ⟨b, off, none⟩) m ck], .box (w.heap.size + 1) [.int .i64 0, .int .i64 0, .slice none 0 0], .box (w.heap.size + 1 + 1) [.int .i64 e.kind, .int .i64 e.value, .slice a k c], .row 29 3 (.slice a k c) k ys, .own S (fun w => f9 w ((e.kids.take k).map b9) S ys), .box g5 [.int .i64 e.kids[k].kind, .int .i64 e.kids[k].value, .slice ka e.kids[k].kids.length kc], .own T (fun w => i7 w (.slice a7 (b9 e.kids[k]).kids.length c7) (b9 e.kids[k]).kids T), .box gb [.int .i64 (b9 e.kids[k]).kind, .int .i64 (b9 e.kids[k]).value, .slice a7 (b9 e.kids[k]).kids.length c7]])
    | 3 => ∃ a7 c7 T gb a9 c9, g 2 = .slice a9 (k + 1) c9 ∧ m0 (fun _ => True) (fun _ => True) w w' ([.box w.heap.size [.int .i64 e.kind, .int .i64 e.value, .slice (some ⟨b, off, none⟩) m ck], .box (w.heap.size + 1) [.int .i64 0, .int .i64 0, .slice none 0 0], .box (w.heap.size + 1 + 1) [.int .i64 e.kind, .int .i64 e.value, .slice a k c], .row 29 3 (.slice a9 (k + 1) c9) (k + 1) (ys ++ [.int .i64 (b9 e.kids[k]).kind, .int .i64 (b9 e.kids[k]).value, .slice a7 (b9 e.kids[k]).kids.length c7]), .own S (fun w => f9 w ((e.kids.take k).map b9) S ys), .box g5 [.int .i64 e.kids[k].kind, .int .i64 e.kids[k].value, .slice ka e.kids[k].kids.length kc], .own T (fun w => i7 w (.slice a7 (b9 e.kids[k]).kids.length c7) (b9 e.kids[k]).kids T), .box gb [.int .i64 (b9 e.kids[k]).kind, .int .i64 (b9 e.kids[k]).value, .slice a7 (b9 e.kids[k]).kids.length c7]])
    | _ => False) (by kernel_rfl) (by kernel_rfl) (by kernel_rfl) (by kernel_rfl) (by decide) (by decide) ?_ ?_ ?_ ?_ ?_
   ·intro s g g' w' hg h
    match s, h with
    | 0, h => exact h
    | 1, ⟨a7, c7, T, h1, h2⟩ => exact ⟨a7, c7, T, (hg 0 (by omega)).symm.trans h1, h2⟩
    | 2, ⟨a7, c7, T, gb, h1, h2⟩ => exact ⟨a7, c7, T, gb, (hg 1 (by omega)).symm.trans h1, h2⟩
    | 3, ⟨a7, c7, T, gb, a9, c9, h1, h2⟩ => exact ⟨a7, c7, T, gb, a9, c9, (hg 2 (by omega)).symm.trans h1, h2⟩
   ·intro g
    exact HM.out.drew
   ·intro i o hi hn ho s f w' hst hdep Q' hQ
    have HQ := show Hid _ from hQ
    clear hQ
    have hc : i = 0 ∨ i = 1 ∨ i = 2 ∨ i = 6 := by simp at hn; omega
    clear hn
    rcases hc with rfl | rfl | rfl | rfl
    all_goals
     simp only [bG1, bG9, Option.some.injEq] at ho
     subst ho
    ·clear hdep hst
     simp only [j4]
     go_wp2_with fail
     exact o7 HQ.out (by kernel_rfl)
    ·have e0 : f 0 = .pointer (some ⟨w.heap.size + 1 + 1, 2, none⟩) := hdep { on := 0, ground := .data } (by simp) (by kernel_rfl) (by simp)
     obtain ⟨x0, x1, x2, x3⟩ := HC.out _ _ _ hst
     clear hdep hst
     obtain ⟨f', rfl⟩ := o3 e0
     clear e0
     simp only [j4, J6, ↓reduceIte, bG5]
     go_wp2_with fail
     exact o7 HQ.out (by kernel_rfl)
    ·obtain ⟨x0, x1, x2, x3⟩ := HC.out _ _ _ hst
     clear hdep hst
     simp only [j4]
     go_wp2_with fail
     exact o7 HQ.out (by kernel_rfl)
    ·clear hdep hst
     simp only [j4]
     go_wp2_with fail
     exact o7 HQ.out (by kernel_rfl)
   ·intro s j o hs ho f w' hst hdep Q' hQ
    have HQ := show Hid _ from hQ
    clear hQ
    match s, hs, hst, HQ with
    | 0, hs, hst, HQ =>
     simp only [bG1, Option.some.injEq] at hs
     subst hs
     simp only [bG1, bG9, Option.some.injEq] at ho
     subst ho
     have M : m0 (fun _ => True) (fun _ => True) w w' ([.box w.heap.size [.int .i64 e.kind, .int .i64 e.value, .slice (some ⟨b, off, none⟩) m ck], .box (w.heap.size + 1) [.int .i64 0, .int .i64 0, .slice none 0 0], .box (w.heap.size + 1 + 1) [.int .i64 e.kind, .int .i64 e.value, .slice a k c], .row 29 3 (.slice a k c) k ys, .own S (fun w => f9 w ((e.kids.take k).map b9) S ys), .box g5 [.int .i64 e.kids[k].kind, .int .i64 e.kids[k].value, .slice ka e.kids[k].kids.length kc]]) := hst
     have HM7 := show Hid _ from M
     have e2 : f 2 = .agg #[.int .i64 e.kids[k].kind, .int .i64 e.kids[k].value, .slice ka e.kids[k].kids.length kc] := hdep { on := 2, ground := .data } (by simp) (by kernel_rfl) (by simp)
     clear hdep hst M
     obtain ⟨f', rfl⟩ := o3 e2
     clear e2
     simp only [j4, J6, ↓reduceIte, bG5]
     go_wp2_with fail
     refine (HE.out w' (HM7.out.below fun _ _ => trivial)).mono ?_
     rintro x w7 ⟨a7, c7, T, rfl, hO, hT, b7⟩
     have HM8 := show Hid _ from HM7.out.callO b7 (S := T) (R := fun w => i7 w (.slice a7 (b9 e.kids[k]).kids.length c7) (b9 e.kids[k]).kids T) (fun _ _ h hs => i7.same h hs) hO hT
     clear hO hT b7
     go_wp2_with fail
     exact o7 (HQ.out (.agg #[.int .i64 (b9 e.kids[k]).kind, .int .i64 (b9 e.kids[k]).value, .slice a7 (b9 e.kids[k]).kids.length c7]) _ ⟨a7, c7, T, rfl, HM8.out⟩) (by kernel_rfl)
    | 1, hs, hst, HQ =>
     simp only [bG1, bG9, Option.some.injEq] at hs
     subst hs
     simp only [bG1, bG9, Option.some.injEq] at ho
     subst ho
     obtain ⟨a7, c7, T, e3, M⟩ := hst
     have e3 : f 3 = .agg #[.int .i64 (b9 e.kids[k]).kind, .int .i64 (b9 e.kids[k]).value, .slice a7 (b9 e.kids[k]).kids.length c7] := e3
     have HM7 := show Hid _ from M.box [.int .i64 (b9 e.kids[k]).kind, .int .i64 (b9 e.kids[k]).value, .slice a7 (b9 e.kids[k]).kids.length c7] 29
     clear hdep M
     obtain ⟨f', rfl⟩ := o3 e3
     clear e3
     simp only [j4, J6, ↓reduceIte, bG5]
     go_wp2_with fail
     exact o7 (HQ.out (.slice (some ⟨w'.heap.size, 0, none⟩) 1 1) _ ⟨a7, c7, T, w'.heap.size, rfl, HM7.out⟩) (by kernel_rfl)
    | 2, hs, hst, HQ =>
     simp only [bG1, bG9, Option.some.injEq] at hs
     subst hs
     simp only [bG1, bG9, Option.some.injEq] at ho
     subst ho
     obtain ⟨a7, c7, T, gb, e4, M⟩ := hst
     have e4 : f 4 = .slice (some ⟨gb, 0, none⟩) 1 1 := e4
     have e1 : f 1 = .slice a k c := hdep { on := 1, ground := .data } (by simp) (by kernel_rfl) (by simp)
     clear hdep
     refine ao5 rfl _ _ rfl Try.underlying27 bm6 rfl (by omega) (Eq.trans (by kernel_rfl) e1) (M.r 3 rfl) (Eq.trans (by kernel_rfl) e4) (aX9 (M.blk 7 rfl)) (fun u hu => by simp at hu; rcases hu with rfl | rfl | rfl <;> rfl) (by omega) (by omega) (bI1 _) ?_
     intro a9 c9 w9 o9 _ g9 n9
     exact wpList_nil (HQ.out _ _ ⟨a7, c7, T, gb, a9, c9, rfl, M.app 3 rfl o9 g9 n9⟩)
    | s + 3, hs, _, _ => simp at hs
   ·intro o ho f w' hst hall
    simp only [bG1, bG9, Option.some.injEq] at ho
    subst ho
    obtain ⟨a7, c7, T, gb, a9, c9, e5, M⟩ := hst
    have e5 : f 5 = .slice a9 (k + 1) c9 := e5
    have e6 : f 6 = .pointer (some ⟨w.heap.size + 1 + 1, 2, none⟩) := hall 6 (by omega) (by simp)
    have x0 := M.c 2 2 rfl rfl
    have f0 := M.f 2 rfl
    have M9 : m0 (fun _ => True) (fun _ => True) w _ ([.box w.heap.size [.int .i64 e.kind, .int .i64 e.value, .slice (some ⟨b, off, none⟩) m ck], .box (w.heap.size + 1) [.int .i64 0, .int .i64 0, .slice none 0 0], .box (w.heap.size + 1 + 1) [.int .i64 e.kind, .int .i64 e.value, .slice a9 (k + 1) c9], .row 29 3 (.slice a9 (k + 1) c9) (k + 1) (ys ++ [.int .i64 (b9 e.kids[k]).kind, .int .i64 (b9 e.kids[k]).value, .slice a7 (b9 e.kids[k]).kids.length c7])] ++ [.own S (fun w => f9 w ((e.kids.take k).map b9) S ys), .own T (fun w => i7 w (.slice a7 (b9 e.kids[k]).kids.length c7) (b9 e.kids[k]).kids T)]) := (M.set 2 rfl 2 (.slice a9 (k + 1) c9)).sel [0, 1, 2, 3, 4, 6] _ rfl (by decide)
    have HM9 := show Hid _ from m0.joinE (e := b9 e.kids[k]) M9
    clear M9
    clear hall M HM HC
    obtain ⟨f', rfl⟩ := o3 e5
    clear e5
    simp only [J6, ↓reduceIte, bG5] at e6
    obtain ⟨f'', rfl⟩ := o3 e6
    clear e6
    simp only [j4, J6, ↓reduceIte, bG5]
    go_wp2_with fail
    refine ⟨⟨k + 1, a9, c9, _, _, by omega, by go_num, by rw [n8 _ _ hlt, List.map_append]; exact HM9.out⟩, by simp [intOf]; omega⟩
  ·have hkn : k = m := by omega
   subst hkn
   rw [bF9 (by have := HMM.out; omega)] at M
   obtain ⟨ks', hks'⟩ : ∃ ks', ks' = e.kids.map b9 := ⟨_, rfl⟩
   have HND := show Hid (b9 e = j6 ⟨e.kind, e.value, ks'⟩) from by rw [hks']; exact H1 e
   have HG2 := show Hid (C9 ⟨e.kind, e.value, ks'⟩ = true) from by rw [hks']; exact aI2 hgood
   have hkl : k = ks'.length := by rw [hks', List.length_map]; exact HMM.out
   rw [← hks'] at M
   clear hks' HMM HC0 HGK
   have M3 : m0 (fun _ => True) (fun _ => True) w wr ([.box w.heap.size [.int .i64 e.kind, .int .i64 e.value, .slice ak k ck], .box (w.heap.size + 1) [.int .i64 0, .int .i64 0, .slice none 0 0], .box (w.heap.size + 1 + 1) [.int .i64 e.kind, .int .i64 e.value, .slice a k c]] ++ [.row 29 3 (.slice a k c) k ys, .own S (fun w => f9 w ks' S ys)]) := M
   have M4 := m0.joinK M3 hkl
   obtain ⟨S', hS'⟩ : ∃ S' : Nat → Prop, S' = fun b => (Value.slice a k c).ownBlock = some b ∨ S b := ⟨_, rfl⟩
   rw [← hS'] at M4
   clear M M3 hS'
   have M : m0 (fun _ => True) (fun _ => True) w wr [.box w.heap.size [.int .i64 e.kind, .int .i64 e.value, .slice ak k ck], .box (w.heap.size + 1) [.int .i64 0, .int .i64 0, .slice none 0 0], .box (w.heap.size + 1 + 1) [.int .i64 e.kind, .int .i64 e.value, .slice a k c], .own S' (fun w => i7 w (.slice a k c) ks' S')] := M4
   clear M4
   have hkind : (e.kind = 11 ∧ ks'.length = 3) ∨ (4 ≤ e.kind ∧ e.kind ≤ 10 ∧ ks'.length = 2) ∨ (e.kind < 4 ∧ 1 ≤ e.kind ∧ ks'.length ≤ 1) := as0 HG2.out
   rcases hkind with ⟨h1, h2⟩ | ⟨h1, h2, h3⟩ | ⟨h1, h2, h3⟩
   ·obtain ⟨p, q, r, rfl⟩ : ∃ p q r, ks' = [p, q, r] := by
     match ks', h2 with
     | [p, q, r], _ => exact ⟨p, q, r, rfl⟩
    clear h2
    have hkl2 : k = 3 := hkl
    clear hkl
    subst hkl2
    obtain ⟨g, off, cap, av, ac, bv, bc, cv, cc, hv, hg, hs, hcell, k0, k1, k2⟩ := (show i7 _ _ [p, q, r] S' from M.o 3 rfl).three
    have e1 : a = some ⟨g, off, none⟩ := by cases hv; rfl
    have e2 : cap = c := by cases hv; rfl
    subst e1 e2
    clear hv
    replace M := M.turn 3 rfl (y6.refl _ _) (R' := fun w => aj4 w S' g off cap av ac bv bc cv cc p q r) (fun _ _ h hs => aj4.same h hs) ⟨hs, hcell, k0, k1, k2, M.o 3 rfl⟩
    replace M : m0 (fun _ => True) (fun _ => True) w wr [.box w.heap.size [.int .i64 e.kind, .int .i64 e.value, .slice ak 3 ck], .box (w.heap.size + 1) [.int .i64 0, .int .i64 0, .slice none 0 0], .box (w.heap.size + 1 + 1) [.int .i64 e.kind, .int .i64 e.value, .slice (some ⟨g, off, none⟩) 3 cap], .own S' (fun w => aj4 w S' g off cap av ac bv bc cv cc p q r)] := M
    clear hcell k0 k1 k2 hs
    have pk : (e.kind == 11) = true := by simp [h1]
    have HN0 := show Hid (j6 ⟨e.kind, e.value, [p, q, r]⟩ = (if p.kind = 1 ∧ t9 q = true ∧ t9 r = true then (if p.value ≠ 0 then q else r) else ⟨e.kind, e.value, [p, q, r]⟩)) from al6 _ _ _ _ _
    clear h1
    by_cases qa : p.kind = 1
    case neg =>
     have pa : (p.kind != 1) = true := by simp [qa]
     have HN : Hid (j6 ⟨e.kind, e.value, [p, q, r]⟩ = ⟨e.kind, e.value, [p, q, r]⟩) := by rw [Hid, HN0.out, if_neg (fun h => qa h.1)]
     clear qa HN0
     have y0 := M.c 0 0 rfl rfl
     have d0 := M.c 1 0 rfl rfl
     have d1 := M.c 1 1 rfl rfl
     have d2 := M.c 1 2 rfl rfl
     have ff := M.f 1 rfl
     have o0 := M.c 2 0 rfl rfl
     have o1 := M.c 2 1 rfl rfl
     have o2 := M.c 2 2 rfl rfl
     obtain ⟨-, ⟨c0, c1, c2, c3, c4, c5, c6, c7, c8⟩, -⟩ := M.o 3 rfl
     have HM := show Hid _ from ((M.set 1 rfl 0 (.int .i64 e.kind)).set 1 rfl 1 (.int .i64 e.value)).set 1 rfl 2 (.slice (some ⟨g, off, none⟩) 3 cap)
     clear M
     go_wp2_with fail
     have M2 := HM.out
     have r0 : World.cell? _ ⟨w.heap.size + 1, 0, none⟩ = some (.int .i64 e.kind) := M2.c 1 0 rfl rfl
     have r1 : World.cell? _ ⟨w.heap.size + 1, 1, none⟩ = some (.int .i64 e.value) := M2.c 1 1 rfl rfl
     have r2 : World.cell? _ ⟨w.heap.size + 1, 2, none⟩ = some (.slice (some ⟨g, off, none⟩) 3 cap) := M2.c 1 2 rfl rfl
     refine bodyPost_ret (v := .agg #[.int .i64 e.kind, .int .i64 e.value, .slice (some ⟨g, off, none⟩) 3 cap]) (by simp [results, Try.results34, go_sem, r0, r1, r2]) rfl ?_
     show G4 w e _ _
     unfold G4
     rw [HND.out, HN.out]
     exact ⟨_, _, S', rfl, (M2.o 3 rfl).2.2.2.2.2, fun b hb => ⟨(M2.ge _ b (bE9 (i := 3) rfl) hb).elim (fun h => h) fun h => absurd bF1 h, M2.lt (bE9 (i := 3) rfl) hb⟩, M2.below fun _ _ => trivial⟩
    have pa : (p.kind != 1) = false := by simp [qa]
    have HQA := show Hid _ from qa
    clear qa
    have y0 := M.c 0 0 rfl rfl
    have d0 := M.c 1 0 rfl rfl
    have d1 := M.c 1 1 rfl rfl
    have d2 := M.c 1 2 rfl rfl
    have ff := M.f 1 rfl
    have o0 := M.c 2 0 rfl rfl
    have o1 := M.c 2 1 rfl rfl
    have o2 := M.c 2 2 rfl rfl
    obtain ⟨-, ⟨c0, c1, c2, c3, c4, c5, c6, c7, c8⟩, -⟩ := M.o 3 rfl
    have HM := show Hid _ from M
    clear M
    go_wp2_with fail
    have M := HM.out
    clear HM y0 d0 d1 d2 ff o0 o1 o2 c0 c1 c2 c3 c4 c5 c6 c7 c8
    refine (ar7 q S' _ _ ⟨_, rfl, i7.read (M.o 3 rfl).2.2.2.1 fun _ h => h⟩).mono ?_
    rintro x w1 ⟨rfl, b1⟩
    replace M := M.call b1
    clear b1
    cases hb : t9 q
    ·have HN : Hid (j6 ⟨e.kind, e.value, [p, q, r]⟩ = ⟨e.kind, e.value, [p, q, r]⟩) := by rw [Hid, HN0.out, if_neg (fun h => by rw [hb] at h; exact absurd h.2.1 (by simp))]
     clear hb HN0
     have y0 := M.c 0 0 rfl rfl
     have d0 := M.c 1 0 rfl rfl
     have d1 := M.c 1 1 rfl rfl
     have d2 := M.c 1 2 rfl rfl
     have ff := M.f 1 rfl
     have o0 := M.c 2 0 rfl rfl
     have o1 := M.c 2 1 rfl rfl
     have o2 := M.c 2 2 rfl rfl
     obtain ⟨-, ⟨c0, c1, c2, c3, c4, c5, c6, c7, c8⟩, -⟩ := M.o 3 rfl
     have HM := show Hid _ from ((M.set 1 rfl 0 (.int .i64 e.kind)).set 1 rfl 1 (.int .i64 e.value)).set 1 rfl 2 (.slice (some ⟨g, off, none⟩) 3 cap)
     clear M
     go_wp2_with fail
     have M2 := HM.out
     have r0 : World.cell? _ ⟨w.heap.size + 1, 0, none⟩ = some (.int .i64 e.kind) := M2.c 1 0 rfl rfl
     have r1 : World.cell? _ ⟨w.heap.size + 1, 1, none⟩ = some (.int .i64 e.value) := M2.c 1 1 rfl rfl
     have r2 : World.cell? _ ⟨w.heap.size + 1, 2, none⟩ = some (.slice (some ⟨g, off, none⟩) 3 cap) := M2.c 1 2 rfl rfl
     refine bodyPost_ret (v := .agg #[.int .i64 e.kind, .int .i64 e.value, .slice (some ⟨g, off, none⟩) 3 cap]) (by simp [results, Try.results34, go_sem, r0, r1, r2]) rfl ?_
     show G4 w e _ _
     unfold G4
     rw [HND.out, HN.out]
     exact ⟨_, _, S', rfl, (M2.o 3 rfl).2.2.2.2.2, fun b hb => ⟨(M2.ge _ b (bE9 (i := 3) rfl) hb).elim (fun h => h) fun h => absurd bF1 h, M2.lt (bE9 (i := 3) rfl) hb⟩, M2.below fun _ _ => trivial⟩
    ·have y0 := M.c 0 0 rfl rfl
     have d0 := M.c 1 0 rfl rfl
     have d1 := M.c 1 1 rfl rfl
     have d2 := M.c 1 2 rfl rfl
     have ff := M.f 1 rfl
     have o0 := M.c 2 0 rfl rfl
     have o1 := M.c 2 1 rfl rfl
     have o2 := M.c 2 2 rfl rfl
     obtain ⟨-, ⟨c0, c1, c2, c3, c4, c5, c6, c7, c8⟩, -⟩ := M.o 3 rfl
     have HM := show Hid _ from M
     clear M
     go_wp2_with fail
     have M := HM.out
     clear HM y0 d0 d1 d2 ff o0 o1 o2 c0 c1 c2 c3 c4 c5 c6 c7 c8
     refine (ar7 r S' _ _ ⟨_, rfl, i7.read (M.o 3 rfl).2.2.2.2.1 fun _ h => h⟩).mono ?_
     rintro x w1 ⟨rfl, b1⟩
     replace M := M.call b1
     clear b1
     cases hc : t9 r
     ·have HN : Hid (j6 ⟨e.kind, e.value, [p, q, r]⟩ = ⟨e.kind, e.value, [p, q, r]⟩) := by rw [Hid, HN0.out, if_neg (fun h => by rw [hc] at h; exact absurd h.2.2 (by simp))]
      clear hb hc HN0
      have y0 := M.c 0 0 rfl rfl
      have d0 := M.c 1 0 rfl rfl
      have d1 := M.c 1 1 rfl rfl
      have d2 := M.c 1 2 rfl rfl
      have ff := M.f 1 rfl
      have o0 := M.c 2 0 rfl rfl
      have o1 := M.c 2 1 rfl rfl
      have o2 := M.c 2 2 rfl rfl
      obtain ⟨-, ⟨c0, c1, c2, c3, c4, c5, c6, c7, c8⟩, -⟩ := M.o 3 rfl
      have HM := show Hid _ from ((M.set 1 rfl 0 (.int .i64 e.kind)).set 1 rfl 1 (.int .i64 e.value)).set 1 rfl 2 (.slice (some ⟨g, off, none⟩) 3 cap)
      clear M
      go_wp2_with fail
      have M2 := HM.out
      have r0 : World.cell? _ ⟨w.heap.size + 1, 0, none⟩ = some (.int .i64 e.kind) := M2.c 1 0 rfl rfl
      have r1 : World.cell? _ ⟨w.heap.size + 1, 1, none⟩ = some (.int .i64 e.value) := M2.c 1 1 rfl rfl
      have r2 : World.cell? _ ⟨w.heap.size + 1, 2, none⟩ = some (.slice (some ⟨g, off, none⟩) 3 cap) := M2.c 1 2 rfl rfl
      refine bodyPost_ret (v := .agg #[.int .i64 e.kind, .int .i64 e.value, .slice (some ⟨g, off, none⟩) 3 cap]) (by simp [results, Try.results34, go_sem, r0, r1, r2]) rfl ?_
      show G4 w e _ _
      unfold G4
      rw [HND.out, HN.out]
      exact ⟨_, _, S', rfl, (M2.o 3 rfl).2.2.2.2.2, fun b hb => ⟨(M2.ge _ b (bE9 (i := 3) rfl) hb).elim (fun h => h) fun h => absurd bF1 h, M2.lt (bE9 (i := 3) rfl) hb⟩, M2.below fun _ _ => trivial⟩
     ·by_cases qv : p.value = 0
      ·have pv : (p.value != 0) = false := by simp [qv]
       have HN : Hid (j6 ⟨e.kind, e.value, [p, q, r]⟩ = r) := by rw [Hid, HN0.out, if_pos ⟨HQA.out, hb, hc⟩, if_neg (by simp [qv])]
       clear qv hb hc HN0
       have y0 := M.c 0 0 rfl rfl
       have d0 := M.c 1 0 rfl rfl
       have d1 := M.c 1 1 rfl rfl
       have d2 := M.c 1 2 rfl rfl
       have ff := M.f 1 rfl
       have o0 := M.c 2 0 rfl rfl
       have o1 := M.c 2 1 rfl rfl
       have o2 := M.c 2 2 rfl rfl
       obtain ⟨-, ⟨c0, c1, c2, c3, c4, c5, c6, c7, c8⟩, -⟩ := M.o 3 rfl
       have HM := show Hid _ from ((M.set 1 rfl 0 (.int .i64 r.kind)).set 1 rfl 1 (.int .i64 r.value)).set 1 rfl 2 (.slice cv r.kids.length cc)
       clear M
       go_wp2_with fail
       have M2 := HM.out
       have r0 : World.cell? _ ⟨w.heap.size + 1, 0, none⟩ = some (.int .i64 r.kind) := M2.c 1 0 rfl rfl
       have r1 : World.cell? _ ⟨w.heap.size + 1, 1, none⟩ = some (.int .i64 r.value) := M2.c 1 1 rfl rfl
       have r2 : World.cell? _ ⟨w.heap.size + 1, 2, none⟩ = some (.slice cv r.kids.length cc) := M2.c 1 2 rfl rfl
       refine bodyPost_ret (v := .agg #[.int .i64 r.kind, .int .i64 r.value, .slice cv r.kids.length cc]) (by simp [results, Try.results34, go_sem, r0, r1, r2]) rfl ?_
       show G4 w e _ _
       unfold G4
       rw [HND.out, HN.out]
       exact ⟨_, _, S', rfl, (M2.o 3 rfl).2.2.2.2.1, fun b hb => ⟨(M2.ge _ b (bE9 (i := 3) rfl) hb).elim (fun h => h) fun h => absurd bF1 h, M2.lt (bE9 (i := 3) rfl) hb⟩, M2.below fun _ _ => trivial⟩
      ·have pv : (p.value != 0) = true := by simp [qv]
       have HN : Hid (j6 ⟨e.kind, e.value, [p, q, r]⟩ = q) := by rw [Hid, HN0.out, if_pos ⟨HQA.out, hb, hc⟩, if_pos qv]
       clear qv hb hc HN0
       have y0 := M.c 0 0 rfl rfl
       have d0 := M.c 1 0 rfl rfl
       have d1 := M.c 1 1 rfl rfl
       have d2 := M.c 1 2 rfl rfl
       have ff := M.f 1 rfl
       have o0 := M.c 2 0 rfl rfl
       have o1 := M.c 2 1 rfl rfl
       have o2 := M.c 2 2 rfl rfl
       obtain ⟨-, ⟨c0, c1, c2, c3, c4, c5, c6, c7, c8⟩, -⟩ := M.o 3 rfl
       have HM := show Hid _ from ((M.set 1 rfl 0 (.int .i64 q.kind)).set 1 rfl 1 (.int .i64 q.value)).set 1 rfl 2 (.slice bv q.kids.length bc)
       clear M
       go_wp2_with fail
       have M2 := HM.out
       have r0 : World.cell? _ ⟨w.heap.size + 1, 0, none⟩ = some (.int .i64 q.kind) := M2.c 1 0 rfl rfl
       have r1 : World.cell? _ ⟨w.heap.size + 1, 1, none⟩ = some (.int .i64 q.value) := M2.c 1 1 rfl rfl
       have r2 : World.cell? _ ⟨w.heap.size + 1, 2, none⟩ = some (.slice bv q.kids.length bc) := M2.c 1 2 rfl rfl
       refine bodyPost_ret (v := .agg #[.int .i64 q.kind, .int .i64 q.value, .slice bv q.kids.length bc]) (by simp [results, Try.results34, go_sem, r0, r1, r2]) rfl ?_
       show G4 w e _ _
       unfold G4
       rw [HND.out, HN.out]
       exact ⟨_, _, S', rfl, (M2.o 3 rfl).2.2.2.1, fun b hb => ⟨(M2.ge _ b (bE9 (i := 3) rfl) hb).elim (fun h => h) fun h => absurd bF1 h, M2.lt (bE9 (i := 3) rfl) hb⟩, M2.below fun _ _ => trivial⟩
   ·obtain ⟨p, q, rfl⟩ : ∃ p q, ks' = [p, q] := by
     match ks', h3 with
     | [p, q], _ => exact ⟨p, q, rfl⟩
    clear h3
    have hkl2 : k = 2 := hkl
    clear hkl
    subst hkl2
    have HPV : Hid (p.kind = 1 → 0 ≤ p.value ∧ p.value ≤ 255) := N4 ((x7 _).1 (F3 HG2.out) p (by simp [b5.kids]))
    have HQV : Hid (q.kind = 1 → 0 ≤ q.value ∧ q.value ≤ 255) := N4 ((x7 _).1 (F3 HG2.out) q (by simp [b5.kids]))
    obtain ⟨g, off, cap, av, ac, bv, bc, hv, hg, hs, hcell, k0, k1⟩ := (show i7 _ _ [p, q] S' from M.o 3 rfl).two
    have e1 : a = some ⟨g, off, none⟩ := by cases hv; rfl
    have e2 : cap = c := by cases hv; rfl
    subst e1 e2
    clear hv
    replace M := M.turn 3 rfl (y6.refl _ _) (R' := fun w => R0 w S' g off cap av ac bv bc p q) (fun _ _ h hs => R0.same h hs) ⟨hs, hcell.1, hcell.2.1, hcell.2.2.1, hcell.2.2.2.1, hcell.2.2.2.2.1, hcell.2.2.2.2.2, k0, k1, M.o 3 rfl⟩
    replace M : m0 (fun _ => True) (fun _ => True) w wr [.box w.heap.size [.int .i64 e.kind, .int .i64 e.value, .slice ak 2 ck], .box (w.heap.size + 1) [.int .i64 0, .int .i64 0, .slice none 0 0], .box (w.heap.size + 1 + 1) [.int .i64 e.kind, .int .i64 e.value, .slice (some ⟨g, off, none⟩) 2 cap], .own S' (fun w => R0 w S' g off cap av ac bv bc p q)] := M
    clear hcell k0 k1 hs
    have pk : (e.kind == 11) = false := by simp; omega
    have pw : (decide (4 ≤ e.kind) && decide (e.kind ≤ 10)) = true := by simp; omega
    have HN0 := show Hid (j6 ⟨e.kind, e.value, [p, q]⟩ = _) from C2 _ _ _ _
    clear h1 h2
    have y0 := M.c 0 0 rfl rfl
    have d0 := M.c 1 0 rfl rfl
    have d1 := M.c 1 1 rfl rfl
    have d2 := M.c 1 2 rfl rfl
    have ff := M.f 1 rfl
    have o0 := M.c 2 0 rfl rfl
    have o1 := M.c 2 1 rfl rfl
    have o2 := M.c 2 2 rfl rfl
    obtain ⟨-, c0, c1, c2, c3, c4, c5, -, -, -⟩ := M.o 3 rfl
    have HM := show Hid _ from M
    clear M
    go_wp2_with fail
    have M := HM.out
    clear HM y0 d0 d1 d2 ff o0 o1 o2 c0 c1 c2 c3 c4 c5
    refine (v6 e.kind 4 10 _).mono ?_
    rintro x w1 ⟨rfl, rfl⟩
    rw [pw]
    clear pw
    have y0 := M.c 0 0 rfl rfl
    have d0 := M.c 1 0 rfl rfl
    have d1 := M.c 1 1 rfl rfl
    have d2 := M.c 1 2 rfl rfl
    have ff := M.f 1 rfl
    have o0 := M.c 2 0 rfl rfl
    have o1 := M.c 2 1 rfl rfl
    have o2 := M.c 2 2 rfl rfl
    obtain ⟨-, c0, c1, c2, c3, c4, c5, -, -, -⟩ := M.o 3 rfl
    have HM := show Hid _ from M
    clear M
    go_wp2_with fail
    have M := HM.out
    clear HM y0 d0 d1 d2 ff o0 o1 o2 c0 c1 c2 c3 c4 c5
    have HC : Hid (∀ (b : Nat → Bool) (gg : Nat → Value) (w' : World), (fun (b : Nat → Bool) (gg : Nat → Value) (w' : World) => Fl3 (b 0) (b 1) (b 2) (m0 (fun _ => True) (fun _ => True) w w' [.box w.heap.size [.int .i64 e.kind, .int .i64 e.value, .slice ak 2 ck], .box (w.heap.size + 1) [.int .i64 0, .int .i64 0, .slice none 0 0], .box (w.heap.size + 1 + 1) [.int .i64 e.kind, .int .i64 e.value, .slice (some ⟨g, off, none⟩) 2 cap], .own S' (fun w => R0 w S' g off cap av ac bv bc p q)]) (∃ g6, gg 0 = .pointer (some ⟨g6, 0, none⟩) ∧ m0 (fun _ => True) (fun _ => True) w w' [.box w.heap.size [.int .i64 e.kind, .int .i64 e.value, .slice ak 2 ck], .box (w.heap.size + 1) [.int .i64 0, .int .i64 0, .slice none 0 0], .box (w.heap.size + 1 + 1) [.int .i64 e.kind, .int .i64 e.value, .slice (some ⟨g, off, none⟩) 2 cap], .own S' (fun w => R0 w S' g off cap av ac bv bc p q), .box g6 [.int .i64 0, .int .i64 0, .slice none 0 0]]) (∃ g7, gg 1 = .pointer (some ⟨g7, 0, none⟩) ∧ m0 (fun _ => True) (fun _ => True) w w' [.box w.heap.size [.int .i64 e.kind, .int .i64 e.value, .slice ak 2 ck], .box (w.heap.size + 1) [.int .i64 0, .int .i64 0, .slice none 0 0], .box (w.heap.size + 1 + 1) [.int .i64 e.kind, .int .i64 e.value, .slice (some ⟨g, off, none⟩) 2 cap], .own S' (fun w => R0 w S' g off cap av ac bv bc p q), .box g7 [.int .i64 0, .int .i64 0, .slice none 0 0]]) (∃ g6 g7, gg 0 = .pointer (some ⟨g6, 0, none⟩) ∧ gg 1 = .pointer (some ⟨g7, 0, none⟩) ∧ m0 (fun _ => True) (fun _ => True) w w' [.box w.heap.size [.int .i64 e.kind, .int .i64 e.value, .slice ak 2 ck], .box (w.heap.size + 1) [.int .i64 0, .int .i64 0, .slice none 0 0], .box (w.heap.size + 1 + 1) [.int .i64 e.kind, .int .i64 e.value, .slice (some ⟨g, off, none⟩) 2 cap], .own S' (fun w => R0 w S' g off cap av ac bv bc p q), .box g6 [.int .i64 0, .int .i64 0, .slice none 0 0], .box g7 [.int .i64 0, .int .i64 0, .slice none 0 0]]) (∃ g6, gg 0 = .pointer (some ⟨g6, 0, none⟩) ∧ m0 (fun _ => True) (fun _ => True) w w' [.box w.heap.size [.int .i64 e.kind, .int .i64 e.value, .slice ak 2 ck], .box (w.heap.size + 1) [.int .i64 0, .int .i64 0, .slice none 0 0], .box (w.heap.size + 1 + 1) [.int .i64 e.kind, .int .i64 e.value, .slice (some ⟨g, off, none⟩) 2 cap], .own S' (fun w => R0 w S' g off cap av ac bv bc p q), .box g6 [.int .i64 p.kind, .int .i64 p.value, .slice av p.kids.length ac]]) (∃ g6 g7, gg 0 = .pointer (some ⟨g6, 0, none⟩) ∧ gg 1 = .pointer (some ⟨g7, 0, none⟩) ∧ m0 (fun _ => True) (fun _ => True) w w' [.box w.heap.size [.int .i64 e.kind, .int .i64 e.value, .slice ak 2 ck], .box (w.heap.size + 1) [.int .i64 0, .int .i64 0, .slice none 0 0], .box (w.heap.size + 1 + 1) [.int .i64 e.kind, .int .i64 e.value, .slice (some ⟨g, off, none⟩) 2 cap], .own S' (fun w => R0 w S' g off cap av ac bv bc p q), .box g6 [.int .i64 p.kind, .int .i64 p.value, .slice av p.kids.length ac], .box g7 [.int .i64 0, .int .i64 0, .slice none 0 0]]) : (Nat → Bool) → (Nat → Value) → World → Prop) b gg w' → w'.cell? ⟨w.heap.size + 1 + 1, 2, none⟩ = some (.slice (some ⟨g, off, none⟩) 2 cap) ∧ w'.cell? ⟨g, off, none⟩ = some (.int .i64 p.kind) ∧ w'.cell? ⟨g, off + 1, none⟩ = some (.int .i64 p.value) ∧ w'.cell? ⟨g, off + 2, none⟩ = some (.slice av p.kids.length ac) ∧ w'.cell? ⟨g, off + 3, none⟩ = some (.int .i64 q.kind) ∧ w'.cell? ⟨g, off + 4, none⟩ = some (.int .i64 q.value) ∧ w'.cell? ⟨g, off + 5, none⟩ = some (.slice bv q.kids.length bc)) := by
     intro b gg w' h
     have key : ∀ (L : List K3), m0 (fun _ => True) (fun _ => True) w w' L → L[2]? = some (.box (w.heap.size + 1 + 1) [.int .i64 e.kind, .int .i64 e.value, .slice (some ⟨g, off, none⟩) 2 cap]) → L[3]? = some (.own S' (fun w => R0 w S' g off cap av ac bv bc p q)) → w'.cell? ⟨w.heap.size + 1 + 1, 2, none⟩ = some (.slice (some ⟨g, off, none⟩) 2 cap) ∧ w'.cell? ⟨g, off, none⟩ = some (.int .i64 p.kind) ∧ w'.cell? ⟨g, off + 1, none⟩ = some (.int .i64 p.value) ∧ w'.cell? ⟨g, off + 2, none⟩ = some (.slice av p.kids.length ac) ∧ w'.cell? ⟨g, off + 3, none⟩ = some (.int .i64 q.kind) ∧ w'.cell? ⟨g, off + 4, none⟩ = some (.int .i64 q.value) ∧ w'.cell? ⟨g, off + 5, none⟩ = some (.slice bv q.kids.length bc) := fun L M h2 h3 => by
      obtain ⟨-, c0, c1, c2, c3, c4, c5, -, -, -⟩ := M.o 3 h3
      exact ⟨M.c 2 2 h2 rfl, c0, c1, c2, c3, c4, c5⟩
     cases h0 : b 0 <;> cases h1 : b 1 <;> cases h2 : b 2 <;> simp only [h0, h1, h2, Fl3] at h
     ·exact key _ h rfl rfl
     ·obtain ⟨_, _, h⟩ := h; exact key _ h rfl rfl
     ·obtain ⟨_, _, h⟩ := h; exact key _ h rfl rfl
     ·obtain ⟨_, _, h⟩ := h; exact key _ h rfl rfl
     ·obtain ⟨_, _, _, _, h⟩ := h; exact key _ h rfl rfl
     ·obtain ⟨_, _, _, _, h⟩ := h; exact key _ h rfl rfl
    have HM := show Hid _ from M
    clear M
    refine am4 11 [8, 9, 10] (fun i => [.pointer (some ⟨w.heap.size + 1 + 1, 2, none⟩), .slice (some ⟨g, off, none⟩) 2 cap, .pointer (some ⟨g, off, none⟩), .agg #[.int .i64 p.kind, .int .i64 p.value, .slice av p.kids.length ac], .pointer (some ⟨w.heap.size + 1 + 1, 2, none⟩), .slice (some ⟨g, off, none⟩) 2 cap, .pointer (some ⟨g, off + 3, none⟩), .agg #[.int .i64 q.kind, .int .i64 q.value, .slice bv q.kids.length bc]].getD i undef) (fun (b : Nat → Bool) (gg : Nat → Value) (w' : World) => Fl3 (b 0) (b 1) (b 2) (m0 (fun _ => True) (fun _ => True) w w' [.box w.heap.size [.int .i64 e.kind, .int .i64 e.value, .slice ak 2 ck], .box (w.heap.size + 1) [.int .i64 0, .int .i64 0, .slice none 0 0], .box (w.heap.size + 1 + 1) [.int .i64 e.kind, .int .i64 e.value, .slice (some ⟨g, off, none⟩) 2 cap], .own S' (fun w => R0 w S' g off cap av ac bv bc p q)]) (∃ g6, gg 0 = .pointer (some ⟨g6, 0, none⟩) ∧ m0 (fun _ => True) (fun _ => True) w w' [.box w.heap.size [.int .i64 e.kind, .int .i64 e.value, .slice ak 2 ck], .box (w.heap.size + 1) [.int .i64 0, .int .i64 0, .slice none 0 0], .box (w.heap.size + 1 + 1) [.int .i64 e.kind, .int .i64 e.value, .slice (some ⟨g, off, none⟩) 2 cap], .own S' (fun w => R0 w S' g off cap av ac bv bc p q), .box g6 [.int .i64 0, .int .i64 0, .slice none 0 0]]) (∃ g7, gg 1 = .pointer (some ⟨g7, 0, none⟩) ∧ m0 (fun _ => True) (fun _ => True) w w' [.box w.heap.size [.int .i64 e.kind, .int .i64 e.value, .slice ak 2 ck], .box (w.heap.size + 1) [.int .i64 0, .int .i64 0, .slice none 0 0], .box (w.heap.size + 1 + 1) [.int .i64 e.kind, .int .i64 e.value, .slice (some ⟨g, off, none⟩) 2 cap], .own S' (fun w => R0 w S' g off cap av ac bv bc p q), .box g7 [.int .i64 0, .int .i64 0, .slice none 0 0]]) (∃ g6 g7, gg 0 = .pointer (some ⟨g6, 0, none⟩) ∧ gg 1 = .pointer (some ⟨g7, 0, none⟩) ∧ m0 (fun _ => True) (fun _ => True) w w' [.box w.heap.size [.int .i64 e.kind, .int .i64 e.value, .slice ak 2 ck], .box (w.heap.size + 1) [.int .i64 0, .int .i64 0, .slice none 0 0], .box (w.heap.size + 1 + 1) [.int .i64 e.kind, .int .i64 e.value, .slice (some ⟨g, off, none⟩) 2 cap], .own S' (fun w => R0 w S' g off cap av ac bv bc p q), .box g6 [.int .i64 0, .int .i64 0, .slice none 0 0], .box g7 [.int .i64 0, .int .i64 0, .slice none 0 0]]) (∃ g6, gg 0 = .pointer (some ⟨g6, 0, none⟩) ∧ m0 (fun _ => True) (fun _ => True) w w' [.box w.heap.size [.int .i64 e.kind, .int .i64 e.value, .slice ak 2 ck], .box (w.heap.size + 1) [.int .i64 0, .int .i64 0, .slice none 0 0], .box (w.heap.size + 1 + 1) [.int .i64 e.kind, .int .i64 e.value, .slice (some ⟨g, off, none⟩) 2 cap], .own S' (fun w => R0 w S' g off cap av ac bv bc p q), .box g6 [.int .i64 p.kind, .int .i64 p.value, .slice av p.kids.length ac]]) (∃ g6 g7, gg 0 = .pointer (some ⟨g6, 0, none⟩) ∧ gg 1 = .pointer (some ⟨g7, 0, none⟩) ∧ m0 (fun _ => True) (fun _ => True) w w' [.box w.heap.size [.int .i64 e.kind, .int .i64 e.value, .slice ak 2 ck], .box (w.heap.size + 1) [.int .i64 0, .int .i64 0, .slice none 0 0], .box (w.heap.size + 1 + 1) [.int .i64 e.kind, .int .i64 e.value, .slice (some ⟨g, off, none⟩) 2 cap], .own S' (fun w => R0 w S' g off cap av ac bv bc p q), .box g6 [.int .i64 p.kind, .int .i64 p.value, .slice av p.kids.length ac], .box g7 [.int .i64 0, .int .i64 0, .slice none 0 0]])) (by kernel_rfl) (by kernel_rfl) (by kernel_rfl) (by decide) (by decide) ?_ ?_ ?_ ?_ ?_
    ·intro b b' gg gg' w' hb hg h
     have e0 := hb 0 (by decide)
     have e1 := hb 1 (by decide)
     have e2 := hb 2 (by decide)
     have i0 := hg 0 (by decide)
     have i1 := hg 1 (by decide)
     clear hb hg HC HM
     show Fl3 (b' 0) (b' 1) (b' 2) _ _ _ _ _ _
     rw [← e0, ← e1, ← e2]
     replace h : Fl3 (b 0) (b 1) (b 2) _ _ _ _ _ _ := h
     cases h0 : b 0 <;> cases h1 : b 1 <;> cases h2 : b 2 <;> simp only [h0, h1, h2, Fl3] at h i0 i1 ⊢
     ·exact h
     ·obtain ⟨g7, k0, M⟩ := h; exact ⟨g7, (i1 bF1).symm.trans k0, M⟩
     ·obtain ⟨g6, k0, M⟩ := h; exact ⟨g6, (i0 bF1).symm.trans k0, M⟩
     ·obtain ⟨g6, k0, M⟩ := h; exact ⟨g6, (i0 bF1).symm.trans k0, M⟩
     ·obtain ⟨g6, g7, k0, k1, M⟩ := h; exact ⟨g6, g7, (i0 bF1).symm.trans k0, (i1 bF1).symm.trans k1, M⟩
     ·obtain ⟨g6, g7, k0, k1, M⟩ := h; exact ⟨g6, g7, (i0 bF1).symm.trans k0, (i1 bF1).symm.trans k1, M⟩
    ·intro gg
     exact HM.out.drew
    ·intro i o hi hn ho b f w' hst hdep Q' hQ
     have HQ := show Hid _ from hQ
     clear hQ
     have hc : i = 0 ∨ i = 1 ∨ i = 2 ∨ i = 3 ∨ i = 4 ∨ i = 5 ∨ i = 6 ∨ i = 7 := by simp at hn; omega
     clear hn
     rcases hc with rfl | rfl | rfl | rfl | rfl | rfl | rfl | rfl
     all_goals
      simp only [bG1, bG9, Option.some.injEq] at ho
      subst ho
     ·clear hdep hst
      simp only [j4]
      go_wp2_with fail
      exact o7 HQ.out (by kernel_rfl)
     ·have e0 : f 0 = .pointer (some ⟨w.heap.size + 1 + 1, 2, none⟩) := hdep { on := 0, ground := .data } (by simp) (by kernel_rfl) (by simp)
      obtain ⟨x0, x1, x2, x3, x4, x5, x6⟩ := HC.out _ _ _ hst
      clear hdep hst
      obtain ⟨f', rfl⟩ := o3 e0
      clear e0
      simp only [j4, J6, ↓reduceIte, bG5]
      go_wp2_with fail
      exact o7 HQ.out (by kernel_rfl)
     ·have e1 : f 1 = .slice (some ⟨g, off, none⟩) 2 cap := hdep { on := 1, ground := .data } (by simp) (by kernel_rfl) (by simp)
      clear hdep hst
      obtain ⟨f', rfl⟩ := o3 e1
      clear e1
      simp only [j4, J6, ↓reduceIte, bG5]
      go_wp2_with fail
      exact o7 HQ.out (by kernel_rfl)
     ·have e2 : f 2 = .pointer (some ⟨g, off, none⟩) := hdep { on := 2, ground := .data } (by simp) (by kernel_rfl) (by simp)
      obtain ⟨x0, x1, x2, x3, x4, x5, x6⟩ := HC.out _ _ _ hst
      clear hdep hst
      obtain ⟨f', rfl⟩ := o3 e2
      clear e2
      simp only [j4, J6, ↓reduceIte, bG5]
      go_wp2_with fail
      exact o7 HQ.out (by kernel_rfl)
     ·clear hdep hst
      simp only [j4]
      go_wp2_with fail
      exact o7 HQ.out (by kernel_rfl)
     ·have e4 : f 4 = .pointer (some ⟨w.heap.size + 1 + 1, 2, none⟩) := hdep { on := 4, ground := .data } (by simp) (by kernel_rfl) (by simp)
      obtain ⟨x0, x1, x2, x3, x4, x5, x6⟩ := HC.out _ _ _ hst
      clear hdep hst
      obtain ⟨f', rfl⟩ := o3 e4
      clear e4
      simp only [j4, J6, ↓reduceIte, bG5]
      go_wp2_with fail
      exact o7 HQ.out (by kernel_rfl)
     ·have e5 : f 5 = .slice (some ⟨g, off, none⟩) 2 cap := hdep { on := 5, ground := .data } (by simp) (by kernel_rfl) (by simp)
      clear hdep hst
      obtain ⟨f', rfl⟩ := o3 e5
      clear e5
      simp only [j4, J6, ↓reduceIte, bG5]
      go_wp2_with fail
      exact o7 HQ.out (by kernel_rfl)
     ·have e6 : f 6 = .pointer (some ⟨g, off + 3, none⟩) := hdep { on := 6, ground := .data } (by simp) (by kernel_rfl) (by simp)
      obtain ⟨x0, x1, x2, x3, x4, x5, x6⟩ := HC.out _ _ _ hst
      clear hdep hst
      obtain ⟨f', rfl⟩ := o3 e6
      clear e6
      simp only [j4, J6, ↓reduceIte, bG5]
      go_wp2_with fail
      exact o7 HQ.out (by kernel_rfl)
    ·intro j i o hj ho b f w' hbj hst hdep hdj Q' hQ
     have HQ := show Hid _ from hQ
     clear hQ
     replace hst : Fl3 (b 0) (b 1) (b 2) _ _ _ _ _ _ := hst
     match j, hj, hbj, HQ with
     | 0, hj, h0, HQ =>
      simp only [bG1, Option.some.injEq] at hj
      subst hj
      simp only [bG1, bG9, Option.some.injEq] at ho
      subst ho
      clear hdep hdj
      cases h1 : b 1 <;> cases h2 : b 2 <;> simp only [h0, h1, h2, Fl3] at hst
      ·have HM1 := show Hid _ from hst.box [.int .i64 0, .int .i64 0, .slice none 0 0] 29
       clear hst
       simp only [j4]
       go_wp2_with fail
       refine o7 (HQ.out (.pointer (some ⟨w'.heap.size, 0, none⟩)) _ ?_) (by kernel_rfl)
       show Fl3 (if 0 = 0 then true else b 0) (if 1 = 0 then true else b 1) (if 2 = 0 then true else b 2) _ _ _ _ _ _
       simp only [h0, h1, h2, bG5, ↓reduceIte]
       exact ⟨_, rfl, HM1.out⟩
      ·obtain ⟨g7, k7, M⟩ := hst
       have K7 := show Hid _ from k7
       have HM1 := show Hid (m0 (fun _ => True) (fun _ => True) w _ [.box w.heap.size [.int .i64 e.kind, .int .i64 e.value, .slice ak 2 ck], .box (w.heap.size + 1) [.int .i64 0, .int .i64 0, .slice none 0 0], .box (w.heap.size + 1 + 1) [.int .i64 e.kind, .int .i64 e.value, .slice (some ⟨g, off, none⟩) 2 cap], .own S' (fun w => R0 w S' g off cap av ac bv bc p q), .box w'.heap.size [.int .i64 0, .int .i64 0, .slice none 0 0], .box g7 [.int .i64 0, .int .i64 0, .slice none 0 0]]) from (M.box [.int .i64 0, .int .i64 0, .slice none 0 0] 29).sel [0, 1, 2, 3, 5, 4] _ rfl (by decide)
       clear M k7
       simp only [j4]
       go_wp2_with fail
       refine o7 (HQ.out (.pointer (some ⟨w'.heap.size, 0, none⟩)) _ ?_) (by kernel_rfl)
       show Fl3 (if 0 = 0 then true else b 0) (if 1 = 0 then true else b 1) (if 2 = 0 then true else b 2) _ _ _ _ _ _
       simp only [h0, h1, h2, bG5, ↓reduceIte]
       exact ⟨_, _, rfl, K7.out, HM1.out⟩
     | 1, hj, h1, HQ =>
      simp only [bG1, bG9, Option.some.injEq] at hj
      subst hj
      simp only [bG1, bG9, Option.some.injEq] at ho
      subst ho
      clear hdep hdj
      cases h0 : b 0 <;> cases h2 : b 2 <;> simp only [h0, h1, h2, Fl3] at hst
      ·have HM1 := show Hid _ from hst.box [.int .i64 0, .int .i64 0, .slice none 0 0] 29
       clear hst
       simp only [j4]
       go_wp2_with fail
       refine o7 (HQ.out (.pointer (some ⟨w'.heap.size, 0, none⟩)) _ ?_) (by kernel_rfl)
       show Fl3 (if 0 = 1 then true else b 0) (if 1 = 1 then true else b 1) (if 2 = 1 then true else b 2) _ _ _ _ _ _
       simp only [h0, h1, h2, bG5, ↓reduceIte]
       exact ⟨_, rfl, HM1.out⟩
      ·obtain ⟨g6, k6, M⟩ := hst
       have K6 := show Hid _ from k6
       have HM1 := show Hid _ from M.box [.int .i64 0, .int .i64 0, .slice none 0 0] 29
       clear M k6
       simp only [j4]
       go_wp2_with fail
       refine o7 (HQ.out (.pointer (some ⟨w'.heap.size, 0, none⟩)) _ ?_) (by kernel_rfl)
       show Fl3 (if 0 = 1 then true else b 0) (if 1 = 1 then true else b 1) (if 2 = 1 then true else b 2) _ _ _ _ _ _
       simp only [h0, h1, h2, bG5, ↓reduceIte]
       exact ⟨_, _, K6.out, rfl, HM1.out⟩
      ·obtain ⟨g6, k6, M⟩ := hst
       have K6 := show Hid _ from k6
       have HM1 := show Hid _ from M.box [.int .i64 0, .int .i64 0, .slice none 0 0] 29
       clear M k6
       simp only [j4]
       go_wp2_with fail
       refine o7 (HQ.out (.pointer (some ⟨w'.heap.size, 0, none⟩)) _ ?_) (by kernel_rfl)
       show Fl3 (if 0 = 1 then true else b 0) (if 1 = 1 then true else b 1) (if 2 = 1 then true else b 2) _ _ _ _ _ _
       simp only [h0, h1, h2, bG5, ↓reduceIte]
       exact ⟨_, _, K6.out, rfl, HM1.out⟩
     | 2, hj, h2, HQ =>
      simp only [bG1, bG9, Option.some.injEq] at hj
      subst hj
      simp only [bG1, bG9, Option.some.injEq] at ho
      subst ho
      have h0 : b 0 = true := hdj { on := 8, ground := .data } (by simp) (by kernel_rfl) 0 rfl
      have e3 : f 3 = .agg #[.int .i64 p.kind, .int .i64 p.value, .slice av p.kids.length ac] := hdep { on := 3, ground := .data } (by simp) (by kernel_rfl) (by simp)
      clear hdep hdj
      cases h1 : b 1 <;> simp only [h0, h1, h2, Fl3] at hst
      ·obtain ⟨g6, k6, M⟩ := hst
       have e8 : f 8 = .pointer (some ⟨g6, 0, none⟩) := k6
       have K6 := show Hid _ from k6
       have z0 := M.c 4 0 rfl rfl
       have z1 := M.c 4 1 rfl rfl
       have z2 := M.c 4 2 rfl rfl
       have f6 := M.f 4 rfl
       have HM1 := show Hid _ from ((M.set 4 rfl 0 (.int .i64 p.kind)).set 4 rfl 1 (.int .i64 p.value)).set 4 rfl 2 (.slice av p.kids.length ac)
       clear M k6
       obtain ⟨f', rfl⟩ := o3 e3
       clear e3
       simp only [J6, ↓reduceIte, bG5] at e8
       obtain ⟨f'', rfl⟩ := o3 e8
       clear e8
       simp only [j4, J6, ↓reduceIte, bG5]
       go_wp2_with fail
       refine o7 (HQ.out undef _ ?_) (by kernel_rfl)
       show Fl3 (if 0 = 2 then true else b 0) (if 1 = 2 then true else b 1) (if 2 = 2 then true else b 2) _ _ _ _ _ _
       simp only [h0, h1, bG5, ↓reduceIte]
       exact ⟨_, rfl, HM1.out⟩
      ·obtain ⟨g6, g7, k6, k7, M⟩ := hst
       have e8 : f 8 = .pointer (some ⟨g6, 0, none⟩) := k6
       have e9 : f 9 = .pointer (some ⟨g7, 0, none⟩) := k7
       have z0 := M.c 4 0 rfl rfl
       have z1 := M.c 4 1 rfl rfl
       have z2 := M.c 4 2 rfl rfl
       have f6 := M.f 4 rfl
       have HM1 := show Hid _ from ((M.set 4 rfl 0 (.int .i64 p.kind)).set 4 rfl 1 (.int .i64 p.value)).set 4 rfl 2 (.slice av p.kids.length ac)
       clear M k6 k7
       obtain ⟨f', rfl⟩ := o3 e3
       clear e3
       simp only [J6, ↓reduceIte, bG5] at e8 e9
       obtain ⟨f'', rfl⟩ := o3 e8
       clear e8
       simp only [J6, ↓reduceIte, bG5] at e9
       obtain ⟨f3, rfl⟩ := o3 e9
       clear e9
       simp only [j4, J6, ↓reduceIte, bG5]
       go_wp2_with fail
       refine o7 (HQ.out undef _ ?_) (by kernel_rfl)
       show Fl3 (if 0 = 2 then true else b 0) (if 1 = 2 then true else b 1) (if 2 = 2 then true else b 2) _ _ _ _ _ _
       simp only [h0, h1, bG5, ↓reduceIte]
       exact ⟨_, _, rfl, rfl, HM1.out⟩
     | j + 3, hj, _, _ => simp at hj
    ·intro o ho f w' hst hu
     simp only [bG1, bG9, Option.some.injEq] at ho
     subst ho
     obtain ⟨g6, g7, k6, k7, M⟩ := hst
     have e8 : f 8 = .pointer (some ⟨g6, 0, none⟩) := k6
     have e9 : f 9 = .pointer (some ⟨g7, 0, none⟩) := k7
     have e7 : f 7 = .agg #[.int .i64 q.kind, .int .i64 q.value, .slice bv q.kids.length bc] := hu 7 (by omega) (by simp)
     have z0 := M.c 5 0 rfl rfl
     have z1 := M.c 5 1 rfl rfl
     have z2 := M.c 5 2 rfl rfl
     have f6 := M.f 5 rfl
     have HM1 := show Hid _ from ((M.set 5 rfl 0 (.int .i64 q.kind)).set 5 rfl 1 (.int .i64 q.value)).set 5 rfl 2 (.slice bv q.kids.length bc)
     clear M k6 k7 hu HC HM
     obtain ⟨f', rfl⟩ := o3 e8
     clear e8
     simp only [J6, ↓reduceIte, bG5] at e9
     simp only [J6, ↓reduceIte, bG5] at e7
     obtain ⟨f'', rfl⟩ := o3 e9
     clear e9
     simp only [J6, ↓reduceIte, bG5] at e7
     obtain ⟨f''', rfl⟩ := o3 e7
     clear e7
     simp only [j4, J6, ↓reduceIte, bG5]
     apply aM1 (fun w'' => m0 (fun _ => True) (fun _ => True) w w'' [.box w.heap.size [.int .i64 e.kind, .int .i64 e.value, .slice ak 2 ck], .box (w.heap.size + 1) [.int .i64 0, .int .i64 0, .slice none 0 0], .box (w.heap.size + 1 + 1) [.int .i64 e.kind, .int .i64 e.value, .slice (some ⟨g, off, none⟩) 2 cap], .own S' (fun w => R0 w S' g off cap av ac bv bc p q), .box g6 [.int .i64 p.kind, .int .i64 p.value, .slice av p.kids.length ac], .box g7 [.int .i64 q.kind, .int .i64 q.value, .slice bv q.kids.length bc]])
     ·go_wp2_with fail
      first | exact HM1.out | exact ⟨rfl, HM1.out⟩ | exact ⟨rfl, rfl, HM1.out⟩
     clear z0 z1 z2 f6 HM1
     intro w'' M
     by_cases qc : p.kind = 1 ∧ q.kind = 1
     ·have pa : (p.kind == 1) = true := by simp [qc.1]
      have pb : (q.kind == 1) = true := by simp [qc.2]
      have HN : Hid (j6 ⟨e.kind, e.value, [p, q]⟩ = ⟨1, n4 e.kind p.value q.value, []⟩) := by rw [Hid, HN0.out, if_pos qc]; rfl
      have HP := HPV.out qc.1
      have HQV2 := HQV.out qc.2
      clear qc HN0
      have hs : (e.kind == 4) = true ∨ ((e.kind == 4) = false ∧ (e.kind == 8) = true) ∨ ((e.kind == 4) = false ∧ (e.kind == 8) = false) := by
       cases (e.kind == 4) <;> cases (e.kind == 8) <;> simp
      rcases hs with p4 | ⟨p4, p8⟩ | ⟨p4, p8⟩
      all_goals
       have y0 := M.c 0 0 rfl rfl
       have q0 := M.c 4 0 rfl rfl
       have q1 := M.c 4 1 rfl rfl
       have q2 := M.c 4 2 rfl rfl
       have q3 := M.c 5 0 rfl rfl
       have q4 := M.c 5 1 rfl rfl
       have q5 := M.c 5 2 rfl rfl
       have HM := show Hid _ from M
       clear M
       go_wp2_with fail
       have M := HM.out
       clear HM y0 q0 q1 q2 q3 q4 q5
       refine (af6 e.kind p.value q.value _ HP.1 HP.2 HQV2.1 HQV2.2).mono ?_
       rintro x w1 ⟨rfl, rfl⟩
       have y0 := M.c 0 0 rfl rfl
       have HM := show Hid _ from M
       clear M
       go_wp2_with fail
       have M := HM.out
       clear HM y0
       refine (aI0 _ _).mono ?_
       rintro x w1 ⟨rfl, b1⟩
       replace M := M.call b1
       clear b1
       have y0 := M.c 0 0 rfl rfl
       have d0 := M.c 1 0 rfl rfl
       have d1 := M.c 1 1 rfl rfl
       have d2 := M.c 1 2 rfl rfl
       have ff := M.f 1 rfl
       have HM := show Hid _ from ((M.set 1 rfl 0 (.int .i64 1)).set 1 rfl 1 (.int .i64 (n4 e.kind p.value q.value))).set 1 rfl 2 (.slice none 0 0)
       clear M
       go_wp2_with fail
       have M2 := HM.out
       have r0 : World.cell? _ ⟨w.heap.size + 1, 0, none⟩ = some (.int .i64 1) := M2.c 1 0 rfl rfl
       have r1 : World.cell? _ ⟨w.heap.size + 1, 1, none⟩ = some (.int .i64 (n4 e.kind p.value q.value)) := M2.c 1 1 rfl rfl
       have r2 : World.cell? _ ⟨w.heap.size + 1, 2, none⟩ = some (.slice none 0 0) := M2.c 1 2 rfl rfl
       refine bodyPost_ret (v := .agg #[.int .i64 1, .int .i64 (n4 e.kind p.value q.value), .slice none 0 0]) (by simp [results, Try.results34, go_sem, r0, r1, r2]) rfl ?_
       show G4 w e _ _
       unfold G4
       rw [HND.out, HN.out]
       exact ⟨_, _, S', rfl, i7.nil _ _, fun b hb => ⟨(M2.ge _ b (bE9 (i := 3) rfl) hb).elim (fun h => h) fun h => absurd bF1 h, M2.lt (bE9 (i := 3) rfl) hb⟩, M2.below fun _ _ => trivial⟩
     have HCN : Hid (¬ (p.kind = 1 ∧ q.kind = 1)) := qc
     have pab : ((p.kind == 1) = true ∧ (q.kind == 1) = false) ∨ (p.kind == 1) = false := by
      by_cases h : p.kind = 1
      ·exact .inl ⟨by simp [h], by simp; exact fun h' => qc ⟨h, h'⟩⟩
      ·exact .inr (by simp [h])
     clear qc
     rcases pab with ⟨pa, pb⟩ | pa
     ·by_cases hq : e.kind = 4
      ·have p4 : (e.kind == 4) = true := by simp [hq]
       have p8 : (e.kind == 8) = false := by simp [hq]
       have p5 : (e.kind == 5) = false := by simp [hq]
       have p6 : (e.kind == 6) = false := by simp [hq]
       have HQK := show Hid _ from hq
       clear hq
       have y0 := M.c 0 0 rfl rfl
       have q0 := M.c 4 0 rfl rfl
       have q1 := M.c 4 1 rfl rfl
       have q2 := M.c 4 2 rfl rfl
       have q3 := M.c 5 0 rfl rfl
       have q4 := M.c 5 1 rfl rfl
       have q5 := M.c 5 2 rfl rfl
       have HM := show Hid _ from M
       clear M
       go_wp2_with fail
       have M := HM.out
       clear HM y0 q0 q1 q2 q3 q4 q5
       refine (o5 p.kind p.value 0 (.slice av p.kids.length ac) _).mono ?_
       rintro x w1 ⟨rfl, b1⟩
       rw [show (decide (p.kind = 1) && decide (p.value = 0)) = j5 p 0 from rfl]
       replace M := M.call b1
       clear b1
       cases hK : j5 p 0
       ·have y0 := M.c 0 0 rfl rfl
        have q0 := M.c 4 0 rfl rfl
        have q1 := M.c 4 1 rfl rfl
        have q2 := M.c 4 2 rfl rfl
        have q3 := M.c 5 0 rfl rfl
        have q4 := M.c 5 1 rfl rfl
        have q5 := M.c 5 2 rfl rfl
        have HM := show Hid _ from M
        clear M
        go_wp2_with fail
        have M := HM.out
        clear HM y0 q0 q1 q2 q3 q4 q5
        refine (o5 q.kind q.value 0 (.slice bv q.kids.length bc) _).mono ?_
        rintro x w1 ⟨rfl, b1⟩
        rw [show (decide (q.kind = 1) && decide (q.value = 0)) = j5 q 0 from rfl]
        replace M := M.call b1
        clear b1
        cases hK2 : j5 q 0
        ·have HN : Hid (j6 ⟨e.kind, e.value, [p, q]⟩ = ⟨e.kind, e.value, [p, q]⟩) := by have hq := HQK.out; rw [Hid, HN0.out, if_neg HCN.out, if_neg (by simp [hq, hK]), if_neg (by simp [hq, hK2])]
         clear hK2 hK HQK HN0
         have y0 := M.c 0 0 rfl rfl
         have d0 := M.c 1 0 rfl rfl
         have d1 := M.c 1 1 rfl rfl
         have d2 := M.c 1 2 rfl rfl
         have o0 := M.c 2 0 rfl rfl
         have o1 := M.c 2 1 rfl rfl
         have o2 := M.c 2 2 rfl rfl
         have ff := M.f 1 rfl
         have HM := show Hid _ from ((M.set 1 rfl 0 (.int .i64 e.kind)).set 1 rfl 1 (.int .i64 e.value)).set 1 rfl 2 (.slice (some ⟨g, off, none⟩) 2 cap)
         clear M
         go_wp2_with fail
         have M2 := HM.out
         have r0 : World.cell? _ ⟨w.heap.size + 1, 0, none⟩ = some (.int .i64 e.kind) := M2.c 1 0 rfl rfl
         have r1 : World.cell? _ ⟨w.heap.size + 1, 1, none⟩ = some (.int .i64 e.value) := M2.c 1 1 rfl rfl
         have r2 : World.cell? _ ⟨w.heap.size + 1, 2, none⟩ = some (.slice (some ⟨g, off, none⟩) 2 cap) := M2.c 1 2 rfl rfl
         refine bodyPost_ret (v := .agg #[.int .i64 e.kind, .int .i64 e.value, .slice (some ⟨g, off, none⟩) 2 cap]) (by simp [results, Try.results34, go_sem, r0, r1, r2]) rfl ?_
         show G4 w e _ _
         unfold G4
         rw [HND.out, HN.out]
         exact ⟨_, _, S', rfl, (M2.o 3 rfl).2.2.2.2.2.2.2.2.2, fun b hb => ⟨(M2.ge _ b (bE9 (i := 3) rfl) hb).elim (fun h => h) fun h => absurd bF1 h, M2.lt (bE9 (i := 3) rfl) hb⟩, M2.below fun _ _ => trivial⟩
        ·have HN : Hid (j6 ⟨e.kind, e.value, [p, q]⟩ = p) := by have hq := HQK.out; rw [Hid, HN0.out, if_neg HCN.out, if_neg (by simp [hq, hK]), if_pos (by simp [hq, hK2])]
         clear hK2 hK HQK HN0
         have y0 := M.c 0 0 rfl rfl
         have d0 := M.c 1 0 rfl rfl
         have d1 := M.c 1 1 rfl rfl
         have d2 := M.c 1 2 rfl rfl
         have q0 := M.c 4 0 rfl rfl
         have q1 := M.c 4 1 rfl rfl
         have q2 := M.c 4 2 rfl rfl
         have ff := M.f 1 rfl
         have HM := show Hid _ from ((M.set 1 rfl 0 (.int .i64 p.kind)).set 1 rfl 1 (.int .i64 p.value)).set 1 rfl 2 (.slice av p.kids.length ac)
         clear M
         go_wp2_with fail
         have M2 := HM.out
         have r0 : World.cell? _ ⟨w.heap.size + 1, 0, none⟩ = some (.int .i64 p.kind) := M2.c 1 0 rfl rfl
         have r1 : World.cell? _ ⟨w.heap.size + 1, 1, none⟩ = some (.int .i64 p.value) := M2.c 1 1 rfl rfl
         have r2 : World.cell? _ ⟨w.heap.size + 1, 2, none⟩ = some (.slice av p.kids.length ac) := M2.c 1 2 rfl rfl
         refine bodyPost_ret (v := .agg #[.int .i64 p.kind, .int .i64 p.value, .slice av p.kids.length ac]) (by simp [results, Try.results34, go_sem, r0, r1, r2]) rfl ?_
         show G4 w e _ _
         unfold G4
         rw [HND.out, HN.out]
         exact ⟨_, _, S', rfl, (M2.o 3 rfl).2.2.2.2.2.2.2.1, fun b hb => ⟨(M2.ge _ b (bE9 (i := 3) rfl) hb).elim (fun h => h) fun h => absurd bF1 h, M2.lt (bE9 (i := 3) rfl) hb⟩, M2.below fun _ _ => trivial⟩
       ·have HN : Hid (j6 ⟨e.kind, e.value, [p, q]⟩ = q) := by have hq := HQK.out; rw [Hid, HN0.out, if_neg HCN.out, if_pos (by simp [hq, hK])]
        clear hK HQK HN0
        have y0 := M.c 0 0 rfl rfl
        have d0 := M.c 1 0 rfl rfl
        have d1 := M.c 1 1 rfl rfl
        have d2 := M.c 1 2 rfl rfl
        have q3 := M.c 5 0 rfl rfl
        have q4 := M.c 5 1 rfl rfl
        have q5 := M.c 5 2 rfl rfl
        have ff := M.f 1 rfl
        have HM := show Hid _ from ((M.set 1 rfl 0 (.int .i64 q.kind)).set 1 rfl 1 (.int .i64 q.value)).set 1 rfl 2 (.slice bv q.kids.length bc)
        clear M
        go_wp2_with fail
        have M2 := HM.out
        have r0 : World.cell? _ ⟨w.heap.size + 1, 0, none⟩ = some (.int .i64 q.kind) := M2.c 1 0 rfl rfl
        have r1 : World.cell? _ ⟨w.heap.size + 1, 1, none⟩ = some (.int .i64 q.value) := M2.c 1 1 rfl rfl
        have r2 : World.cell? _ ⟨w.heap.size + 1, 2, none⟩ = some (.slice bv q.kids.length bc) := M2.c 1 2 rfl rfl
        refine bodyPost_ret (v := .agg #[.int .i64 q.kind, .int .i64 q.value, .slice bv q.kids.length bc]) (by simp [results, Try.results34, go_sem, r0, r1, r2]) rfl ?_
        show G4 w e _ _
        unfold G4
        rw [HND.out, HN.out]
        exact ⟨_, _, S', rfl, (M2.o 3 rfl).2.2.2.2.2.2.2.2.1, fun b hb => ⟨(M2.ge _ b (bE9 (i := 3) rfl) hb).elim (fun h => h) fun h => absurd bF1 h, M2.lt (bE9 (i := 3) rfl) hb⟩, M2.below fun _ _ => trivial⟩
      have HN4 := show Hid _ from hq
      clear hq
      by_cases hq : e.kind = 8
      ·have p4 : (e.kind == 4) = false := by simp [hq]
       have p8 : (e.kind == 8) = true := by simp [hq]
       have p5 : (e.kind == 5) = false := by simp [hq]
       have p6 : (e.kind == 6) = false := by simp [hq]
       have HQK := show Hid _ from hq
       clear hq
       have y0 := M.c 0 0 rfl rfl
       have q0 := M.c 4 0 rfl rfl
       have q1 := M.c 4 1 rfl rfl
       have q2 := M.c 4 2 rfl rfl
       have q3 := M.c 5 0 rfl rfl
       have q4 := M.c 5 1 rfl rfl
       have q5 := M.c 5 2 rfl rfl
       have HM := show Hid _ from M
       clear M
       go_wp2_with fail
       have M := HM.out
       clear HM y0 q0 q1 q2 q3 q4 q5
       refine (o5 p.kind p.value 0 (.slice av p.kids.length ac) _).mono ?_
       rintro x w1 ⟨rfl, b1⟩
       rw [show (decide (p.kind = 1) && decide (p.value = 0)) = j5 p 0 from rfl]
       replace M := M.call b1
       clear b1
       cases hK : j5 p 0
       ·have y0 := M.c 0 0 rfl rfl
        have q0 := M.c 4 0 rfl rfl
        have q1 := M.c 4 1 rfl rfl
        have q2 := M.c 4 2 rfl rfl
        have q3 := M.c 5 0 rfl rfl
        have q4 := M.c 5 1 rfl rfl
        have q5 := M.c 5 2 rfl rfl
        have HM := show Hid _ from M
        clear M
        go_wp2_with fail
        have M := HM.out
        clear HM y0 q0 q1 q2 q3 q4 q5
        refine (o5 q.kind q.value 0 (.slice bv q.kids.length bc) _).mono ?_
        rintro x w1 ⟨rfl, b1⟩
        rw [show (decide (q.kind = 1) && decide (q.value = 0)) = j5 q 0 from rfl]
        replace M := M.call b1
        clear b1
        cases hK2 : j5 q 0
        ·have HN : Hid (j6 ⟨e.kind, e.value, [p, q]⟩ = ⟨e.kind, e.value, [p, q]⟩) := by have hq := HQK.out; rw [Hid, HN0.out, if_neg HCN.out, if_neg (by simp [hq, hK]), if_neg (by simp [hq, hK2])]
         clear hK2 hK HQK HN0
         have y0 := M.c 0 0 rfl rfl
         have d0 := M.c 1 0 rfl rfl
         have d1 := M.c 1 1 rfl rfl
         have d2 := M.c 1 2 rfl rfl
         have o0 := M.c 2 0 rfl rfl
         have o1 := M.c 2 1 rfl rfl
         have o2 := M.c 2 2 rfl rfl
         have ff := M.f 1 rfl
         have HM := show Hid _ from ((M.set 1 rfl 0 (.int .i64 e.kind)).set 1 rfl 1 (.int .i64 e.value)).set 1 rfl 2 (.slice (some ⟨g, off, none⟩) 2 cap)
         clear M
         go_wp2_with fail
         have M2 := HM.out
         have r0 : World.cell? _ ⟨w.heap.size + 1, 0, none⟩ = some (.int .i64 e.kind) := M2.c 1 0 rfl rfl
         have r1 : World.cell? _ ⟨w.heap.size + 1, 1, none⟩ = some (.int .i64 e.value) := M2.c 1 1 rfl rfl
         have r2 : World.cell? _ ⟨w.heap.size + 1, 2, none⟩ = some (.slice (some ⟨g, off, none⟩) 2 cap) := M2.c 1 2 rfl rfl
         refine bodyPost_ret (v := .agg #[.int .i64 e.kind, .int .i64 e.value, .slice (some ⟨g, off, none⟩) 2 cap]) (by simp [results, Try.results34, go_sem, r0, r1, r2]) rfl ?_
         show G4 w e _ _
         unfold G4
         rw [HND.out, HN.out]
         exact ⟨_, _, S', rfl, (M2.o 3 rfl).2.2.2.2.2.2.2.2.2, fun b hb => ⟨(M2.ge _ b (bE9 (i := 3) rfl) hb).elim (fun h => h) fun h => absurd bF1 h, M2.lt (bE9 (i := 3) rfl) hb⟩, M2.below fun _ _ => trivial⟩
        ·have HN : Hid (j6 ⟨e.kind, e.value, [p, q]⟩ = p) := by have hq := HQK.out; rw [Hid, HN0.out, if_neg HCN.out, if_neg (by simp [hq, hK]), if_pos (by simp [hq, hK2])]
         clear hK2 hK HQK HN0
         have y0 := M.c 0 0 rfl rfl
         have d0 := M.c 1 0 rfl rfl
         have d1 := M.c 1 1 rfl rfl
         have d2 := M.c 1 2 rfl rfl
         have q0 := M.c 4 0 rfl rfl
         have q1 := M.c 4 1 rfl rfl
         have q2 := M.c 4 2 rfl rfl
         have ff := M.f 1 rfl
         have HM := show Hid _ from ((M.set 1 rfl 0 (.int .i64 p.kind)).set 1 rfl 1 (.int .i64 p.value)).set 1 rfl 2 (.slice av p.kids.length ac)
         clear M
         go_wp2_with fail
         have M2 := HM.out
         have r0 : World.cell? _ ⟨w.heap.size + 1, 0, none⟩ = some (.int .i64 p.kind) := M2.c 1 0 rfl rfl
         have r1 : World.cell? _ ⟨w.heap.size + 1, 1, none⟩ = some (.int .i64 p.value) := M2.c 1 1 rfl rfl
         have r2 : World.cell? _ ⟨w.heap.size + 1, 2, none⟩ = some (.slice av p.kids.length ac) := M2.c 1 2 rfl rfl
         refine bodyPost_ret (v := .agg #[.int .i64 p.kind, .int .i64 p.value, .slice av p.kids.length ac]) (by simp [results, Try.results34, go_sem, r0, r1, r2]) rfl ?_
         show G4 w e _ _
         unfold G4
         rw [HND.out, HN.out]
         exact ⟨_, _, S', rfl, (M2.o 3 rfl).2.2.2.2.2.2.2.1, fun b hb => ⟨(M2.ge _ b (bE9 (i := 3) rfl) hb).elim (fun h => h) fun h => absurd bF1 h, M2.lt (bE9 (i := 3) rfl) hb⟩, M2.below fun _ _ => trivial⟩
       ·have HN : Hid (j6 ⟨e.kind, e.value, [p, q]⟩ = q) := by have hq := HQK.out; rw [Hid, HN0.out, if_neg HCN.out, if_pos (by simp [hq, hK])]
        clear hK HQK HN0
        have y0 := M.c 0 0 rfl rfl
        have d0 := M.c 1 0 rfl rfl
        have d1 := M.c 1 1 rfl rfl
        have d2 := M.c 1 2 rfl rfl
        have q3 := M.c 5 0 rfl rfl
        have q4 := M.c 5 1 rfl rfl
        have q5 := M.c 5 2 rfl rfl
        have ff := M.f 1 rfl
        have HM := show Hid _ from ((M.set 1 rfl 0 (.int .i64 q.kind)).set 1 rfl 1 (.int .i64 q.value)).set 1 rfl 2 (.slice bv q.kids.length bc)
        clear M
        go_wp2_with fail
        have M2 := HM.out
        have r0 : World.cell? _ ⟨w.heap.size + 1, 0, none⟩ = some (.int .i64 q.kind) := M2.c 1 0 rfl rfl
        have r1 : World.cell? _ ⟨w.heap.size + 1, 1, none⟩ = some (.int .i64 q.value) := M2.c 1 1 rfl rfl
        have r2 : World.cell? _ ⟨w.heap.size + 1, 2, none⟩ = some (.slice bv q.kids.length bc) := M2.c 1 2 rfl rfl
        refine bodyPost_ret (v := .agg #[.int .i64 q.kind, .int .i64 q.value, .slice bv q.kids.length bc]) (by simp [results, Try.results34, go_sem, r0, r1, r2]) rfl ?_
        show G4 w e _ _
        unfold G4
        rw [HND.out, HN.out]
        exact ⟨_, _, S', rfl, (M2.o 3 rfl).2.2.2.2.2.2.2.2.1, fun b hb => ⟨(M2.ge _ b (bE9 (i := 3) rfl) hb).elim (fun h => h) fun h => absurd bF1 h, M2.lt (bE9 (i := 3) rfl) hb⟩, M2.below fun _ _ => trivial⟩
      have HN8 := show Hid _ from hq
      clear hq
      by_cases hq : e.kind = 5
      ·have p4 : (e.kind == 4) = false := by simp [hq]
       have p8 : (e.kind == 8) = false := by simp [hq]
       have p5 : (e.kind == 5) = true := by simp [hq]
       have p6 : (e.kind == 6) = false := by simp [hq]
       have HQK := show Hid _ from hq
       clear hq
       have y0 := M.c 0 0 rfl rfl
       have q0 := M.c 4 0 rfl rfl
       have q1 := M.c 4 1 rfl rfl
       have q2 := M.c 4 2 rfl rfl
       have q3 := M.c 5 0 rfl rfl
       have q4 := M.c 5 1 rfl rfl
       have q5 := M.c 5 2 rfl rfl
       have HM := show Hid _ from M
       clear M
       go_wp2_with fail
       have M := HM.out
       clear HM y0 q0 q1 q2 q3 q4 q5
       refine (o5 q.kind q.value 0 (.slice bv q.kids.length bc) _).mono ?_
       rintro x w1 ⟨rfl, b1⟩
       rw [show (decide (q.kind = 1) && decide (q.value = 0)) = j5 q 0 from rfl]
       replace M := M.call b1
       clear b1
       cases hK2 : j5 q 0
       ·have HN : Hid (j6 ⟨e.kind, e.value, [p, q]⟩ = ⟨e.kind, e.value, [p, q]⟩) := by have hq := HQK.out; rw [Hid, HN0.out, if_neg HCN.out, if_neg (by simp [hq, hq]), if_neg (by simp [hq, hK2])]
        clear hK2  HQK HN0
        have y0 := M.c 0 0 rfl rfl
        have d0 := M.c 1 0 rfl rfl
        have d1 := M.c 1 1 rfl rfl
        have d2 := M.c 1 2 rfl rfl
        have o0 := M.c 2 0 rfl rfl
        have o1 := M.c 2 1 rfl rfl
        have o2 := M.c 2 2 rfl rfl
        have ff := M.f 1 rfl
        have HM := show Hid _ from ((M.set 1 rfl 0 (.int .i64 e.kind)).set 1 rfl 1 (.int .i64 e.value)).set 1 rfl 2 (.slice (some ⟨g, off, none⟩) 2 cap)
        clear M
        go_wp2_with fail
        have M2 := HM.out
        have r0 : World.cell? _ ⟨w.heap.size + 1, 0, none⟩ = some (.int .i64 e.kind) := M2.c 1 0 rfl rfl
        have r1 : World.cell? _ ⟨w.heap.size + 1, 1, none⟩ = some (.int .i64 e.value) := M2.c 1 1 rfl rfl
        have r2 : World.cell? _ ⟨w.heap.size + 1, 2, none⟩ = some (.slice (some ⟨g, off, none⟩) 2 cap) := M2.c 1 2 rfl rfl
        refine bodyPost_ret (v := .agg #[.int .i64 e.kind, .int .i64 e.value, .slice (some ⟨g, off, none⟩) 2 cap]) (by simp [results, Try.results34, go_sem, r0, r1, r2]) rfl ?_
        show G4 w e _ _
        unfold G4
        rw [HND.out, HN.out]
        exact ⟨_, _, S', rfl, (M2.o 3 rfl).2.2.2.2.2.2.2.2.2, fun b hb => ⟨(M2.ge _ b (bE9 (i := 3) rfl) hb).elim (fun h => h) fun h => absurd bF1 h, M2.lt (bE9 (i := 3) rfl) hb⟩, M2.below fun _ _ => trivial⟩
       ·have HN : Hid (j6 ⟨e.kind, e.value, [p, q]⟩ = p) := by have hq := HQK.out; rw [Hid, HN0.out, if_neg HCN.out, if_neg (by simp [hq, hq]), if_pos (by simp [hq, hK2])]
        clear hK2  HQK HN0
        have y0 := M.c 0 0 rfl rfl
        have d0 := M.c 1 0 rfl rfl
        have d1 := M.c 1 1 rfl rfl
        have d2 := M.c 1 2 rfl rfl
        have q0 := M.c 4 0 rfl rfl
        have q1 := M.c 4 1 rfl rfl
        have q2 := M.c 4 2 rfl rfl
        have ff := M.f 1 rfl
        have HM := show Hid _ from ((M.set 1 rfl 0 (.int .i64 p.kind)).set 1 rfl 1 (.int .i64 p.value)).set 1 rfl 2 (.slice av p.kids.length ac)
        clear M
        go_wp2_with fail
        have M2 := HM.out
        have r0 : World.cell? _ ⟨w.heap.size + 1, 0, none⟩ = some (.int .i64 p.kind) := M2.c 1 0 rfl rfl
        have r1 : World.cell? _ ⟨w.heap.size + 1, 1, none⟩ = some (.int .i64 p.value) := M2.c 1 1 rfl rfl
        have r2 : World.cell? _ ⟨w.heap.size + 1, 2, none⟩ = some (.slice av p.kids.length ac) := M2.c 1 2 rfl rfl
        refine bodyPost_ret (v := .agg #[.int .i64 p.kind, .int .i64 p.value, .slice av p.kids.length ac]) (by simp [results, Try.results34, go_sem, r0, r1, r2]) rfl ?_
        show G4 w e _ _
        unfold G4
        rw [HND.out, HN.out]
        exact ⟨_, _, S', rfl, (M2.o 3 rfl).2.2.2.2.2.2.2.1, fun b hb => ⟨(M2.ge _ b (bE9 (i := 3) rfl) hb).elim (fun h => h) fun h => absurd bF1 h, M2.lt (bE9 (i := 3) rfl) hb⟩, M2.below fun _ _ => trivial⟩
      have HN5 := show Hid _ from hq
      clear hq
      by_cases hq : e.kind = 6
      ·have p4 : (e.kind == 4) = false := by simp [hq]
       have p8 : (e.kind == 8) = false := by simp [hq]
       have p5 : (e.kind == 5) = false := by simp [hq]
       have p6 : (e.kind == 6) = true := by simp [hq]
       have HQK := show Hid _ from hq
       clear hq
       have y0 := M.c 0 0 rfl rfl
       have q0 := M.c 4 0 rfl rfl
       have q1 := M.c 4 1 rfl rfl
       have q2 := M.c 4 2 rfl rfl
       have q3 := M.c 5 0 rfl rfl
       have q4 := M.c 5 1 rfl rfl
       have q5 := M.c 5 2 rfl rfl
       have HM := show Hid _ from M
       clear M
       go_wp2_with fail
       have M := HM.out
       clear HM y0 q0 q1 q2 q3 q4 q5
       refine (o5 p.kind p.value 1 (.slice av p.kids.length ac) _).mono ?_
       rintro x w1 ⟨rfl, b1⟩
       rw [show (decide (p.kind = 1) && decide (p.value = 1)) = j5 p 1 from rfl]
       replace M := M.call b1
       clear b1
       cases hK : j5 p 1
       ·have y0 := M.c 0 0 rfl rfl
        have q0 := M.c 4 0 rfl rfl
        have q1 := M.c 4 1 rfl rfl
        have q2 := M.c 4 2 rfl rfl
        have q3 := M.c 5 0 rfl rfl
        have q4 := M.c 5 1 rfl rfl
        have q5 := M.c 5 2 rfl rfl
        have HM := show Hid _ from M
        clear M
        go_wp2_with fail
        have M := HM.out
        clear HM y0 q0 q1 q2 q3 q4 q5
        refine (o5 q.kind q.value 1 (.slice bv q.kids.length bc) _).mono ?_
        rintro x w1 ⟨rfl, b1⟩
        rw [show (decide (q.kind = 1) && decide (q.value = 1)) = j5 q 1 from rfl]
        replace M := M.call b1
        clear b1
        cases hK2 : j5 q 1
        ·have HN : Hid (j6 ⟨e.kind, e.value, [p, q]⟩ = ⟨e.kind, e.value, [p, q]⟩) := by have hq := HQK.out; rw [Hid, HN0.out, if_neg HCN.out, if_neg (by simp [hq, hK]), if_neg (by simp [hq, hK2])]
         clear hK2 hK HQK HN0
         have y0 := M.c 0 0 rfl rfl
         have d0 := M.c 1 0 rfl rfl
         have d1 := M.c 1 1 rfl rfl
         have d2 := M.c 1 2 rfl rfl
         have o0 := M.c 2 0 rfl rfl
         have o1 := M.c 2 1 rfl rfl
         have o2 := M.c 2 2 rfl rfl
         have ff := M.f 1 rfl
         have HM := show Hid _ from ((M.set 1 rfl 0 (.int .i64 e.kind)).set 1 rfl 1 (.int .i64 e.value)).set 1 rfl 2 (.slice (some ⟨g, off, none⟩) 2 cap)
         clear M
         go_wp2_with fail
         have M2 := HM.out
         have r0 : World.cell? _ ⟨w.heap.size + 1, 0, none⟩ = some (.int .i64 e.kind) := M2.c 1 0 rfl rfl
         have r1 : World.cell? _ ⟨w.heap.size + 1, 1, none⟩ = some (.int .i64 e.value) := M2.c 1 1 rfl rfl
         have r2 : World.cell? _ ⟨w.heap.size + 1, 2, none⟩ = some (.slice (some ⟨g, off, none⟩) 2 cap) := M2.c 1 2 rfl rfl
         refine bodyPost_ret (v := .agg #[.int .i64 e.kind, .int .i64 e.value, .slice (some ⟨g, off, none⟩) 2 cap]) (by simp [results, Try.results34, go_sem, r0, r1, r2]) rfl ?_
         show G4 w e _ _
         unfold G4
         rw [HND.out, HN.out]
         exact ⟨_, _, S', rfl, (M2.o 3 rfl).2.2.2.2.2.2.2.2.2, fun b hb => ⟨(M2.ge _ b (bE9 (i := 3) rfl) hb).elim (fun h => h) fun h => absurd bF1 h, M2.lt (bE9 (i := 3) rfl) hb⟩, M2.below fun _ _ => trivial⟩
        ·have HN : Hid (j6 ⟨e.kind, e.value, [p, q]⟩ = p) := by have hq := HQK.out; rw [Hid, HN0.out, if_neg HCN.out, if_neg (by simp [hq, hK]), if_pos (by simp [hq, hK2])]
         clear hK2 hK HQK HN0
         have y0 := M.c 0 0 rfl rfl
         have d0 := M.c 1 0 rfl rfl
         have d1 := M.c 1 1 rfl rfl
         have d2 := M.c 1 2 rfl rfl
         have q0 := M.c 4 0 rfl rfl
         have q1 := M.c 4 1 rfl rfl
         have q2 := M.c 4 2 rfl rfl
         have ff := M.f 1 rfl
         have HM := show Hid _ from ((M.set 1 rfl 0 (.int .i64 p.kind)).set 1 rfl 1 (.int .i64 p.value)).set 1 rfl 2 (.slice av p.kids.length ac)
         clear M
         go_wp2_with fail
         have M2 := HM.out
         have r0 : World.cell? _ ⟨w.heap.size + 1, 0, none⟩ = some (.int .i64 p.kind) := M2.c 1 0 rfl rfl
         have r1 : World.cell? _ ⟨w.heap.size + 1, 1, none⟩ = some (.int .i64 p.value) := M2.c 1 1 rfl rfl
         have r2 : World.cell? _ ⟨w.heap.size + 1, 2, none⟩ = some (.slice av p.kids.length ac) := M2.c 1 2 rfl rfl
         refine bodyPost_ret (v := .agg #[.int .i64 p.kind, .int .i64 p.value, .slice av p.kids.length ac]) (by simp [results, Try.results34, go_sem, r0, r1, r2]) rfl ?_
         show G4 w e _ _
         unfold G4
         rw [HND.out, HN.out]
         exact ⟨_, _, S', rfl, (M2.o 3 rfl).2.2.2.2.2.2.2.1, fun b hb => ⟨(M2.ge _ b (bE9 (i := 3) rfl) hb).elim (fun h => h) fun h => absurd bF1 h, M2.lt (bE9 (i := 3) rfl) hb⟩, M2.below fun _ _ => trivial⟩
       ·have HN : Hid (j6 ⟨e.kind, e.value, [p, q]⟩ = q) := by have hq := HQK.out; rw [Hid, HN0.out, if_neg HCN.out, if_pos (by simp [hq, hK])]
        clear hK HQK HN0
        have y0 := M.c 0 0 rfl rfl
        have d0 := M.c 1 0 rfl rfl
        have d1 := M.c 1 1 rfl rfl
        have d2 := M.c 1 2 rfl rfl
        have q3 := M.c 5 0 rfl rfl
        have q4 := M.c 5 1 rfl rfl
        have q5 := M.c 5 2 rfl rfl
        have ff := M.f 1 rfl
        have HM := show Hid _ from ((M.set 1 rfl 0 (.int .i64 q.kind)).set 1 rfl 1 (.int .i64 q.value)).set 1 rfl 2 (.slice bv q.kids.length bc)
        clear M
        go_wp2_with fail
        have M2 := HM.out
        have r0 : World.cell? _ ⟨w.heap.size + 1, 0, none⟩ = some (.int .i64 q.kind) := M2.c 1 0 rfl rfl
        have r1 : World.cell? _ ⟨w.heap.size + 1, 1, none⟩ = some (.int .i64 q.value) := M2.c 1 1 rfl rfl
        have r2 : World.cell? _ ⟨w.heap.size + 1, 2, none⟩ = some (.slice bv q.kids.length bc) := M2.c 1 2 rfl rfl
        refine bodyPost_ret (v := .agg #[.int .i64 q.kind, .int .i64 q.value, .slice bv q.kids.length bc]) (by simp [results, Try.results34, go_sem, r0, r1, r2]) rfl ?_
        show G4 w e _ _
        unfold G4
        rw [HND.out, HN.out]
        exact ⟨_, _, S', rfl, (M2.o 3 rfl).2.2.2.2.2.2.2.2.1, fun b hb => ⟨(M2.ge _ b (bE9 (i := 3) rfl) hb).elim (fun h => h) fun h => absurd bF1 h, M2.lt (bE9 (i := 3) rfl) hb⟩, M2.below fun _ _ => trivial⟩
      have HN6 := show Hid _ from hq
      clear hq
      have p4 : (e.kind == 4) = false := by
       have h : ¬ e.kind = 4 := HN4.out
       simp [h]
      have p8 : (e.kind == 8) = false := by
       have h : ¬ e.kind = 8 := HN8.out
       simp [h]
      have p5 : (e.kind == 5) = false := by
       have h : ¬ e.kind = 5 := HN5.out
       simp [h]
      have p6 : (e.kind == 6) = false := by
       have h : ¬ e.kind = 6 := HN6.out
       simp [h]
      have HN : Hid (j6 ⟨e.kind, e.value, [p, q]⟩ = ⟨e.kind, e.value, [p, q]⟩) := by
       have h4 : ¬ e.kind = 4 := HN4.out
       have h5 : ¬ e.kind = 5 := HN5.out
       have h6 : ¬ e.kind = 6 := HN6.out
       have h8 : ¬ e.kind = 8 := HN8.out
       rw [Hid, HN0.out, if_neg HCN.out, if_neg (by simp [h4, h5, h6, h8]), if_neg (by simp [h4, h5, h6, h8])]
      clear HN4 HN5 HN6 HN8 HN0
      have y0 := M.c 0 0 rfl rfl
      have d0 := M.c 1 0 rfl rfl
      have d1 := M.c 1 1 rfl rfl
      have d2 := M.c 1 2 rfl rfl
      have o0 := M.c 2 0 rfl rfl
      have o1 := M.c 2 1 rfl rfl
      have o2 := M.c 2 2 rfl rfl
      have q0 := M.c 4 0 rfl rfl
      have q1 := M.c 4 1 rfl rfl
      have q2 := M.c 4 2 rfl rfl
      have q3 := M.c 5 0 rfl rfl
      have q4 := M.c 5 1 rfl rfl
      have q5 := M.c 5 2 rfl rfl
      have ff := M.f 1 rfl
      have HM := show Hid _ from ((M.set 1 rfl 0 (.int .i64 e.kind)).set 1 rfl 1 (.int .i64 e.value)).set 1 rfl 2 (.slice (some ⟨g, off, none⟩) 2 cap)
      clear M
      go_wp2_with fail
      have M2 := HM.out
      have r0 : World.cell? _ ⟨w.heap.size + 1, 0, none⟩ = some (.int .i64 e.kind) := M2.c 1 0 rfl rfl
      have r1 : World.cell? _ ⟨w.heap.size + 1, 1, none⟩ = some (.int .i64 e.value) := M2.c 1 1 rfl rfl
      have r2 : World.cell? _ ⟨w.heap.size + 1, 2, none⟩ = some (.slice (some ⟨g, off, none⟩) 2 cap) := M2.c 1 2 rfl rfl
      refine bodyPost_ret (v := .agg #[.int .i64 e.kind, .int .i64 e.value, .slice (some ⟨g, off, none⟩) 2 cap]) (by simp [results, Try.results34, go_sem, r0, r1, r2]) rfl ?_
      show G4 w e _ _
      unfold G4
      rw [HND.out, HN.out]
      exact ⟨_, _, S', rfl, (M2.o 3 rfl).2.2.2.2.2.2.2.2.2, fun b hb => ⟨(M2.ge _ b (bE9 (i := 3) rfl) hb).elim (fun h => h) fun h => absurd bF1 h, M2.lt (bE9 (i := 3) rfl) hb⟩, M2.below fun _ _ => trivial⟩
     ·by_cases hq : e.kind = 4
      ·have p4 : (e.kind == 4) = true := by simp [hq]
       have p8 : (e.kind == 8) = false := by simp [hq]
       have p5 : (e.kind == 5) = false := by simp [hq]
       have p6 : (e.kind == 6) = false := by simp [hq]
       have HQK := show Hid _ from hq
       clear hq
       have y0 := M.c 0 0 rfl rfl
       have q0 := M.c 4 0 rfl rfl
       have q1 := M.c 4 1 rfl rfl
       have q2 := M.c 4 2 rfl rfl
       have q3 := M.c 5 0 rfl rfl
       have q4 := M.c 5 1 rfl rfl
       have q5 := M.c 5 2 rfl rfl
       have HM := show Hid _ from M
       clear M
       go_wp2_with fail
       have M := HM.out
       clear HM y0 q0 q1 q2 q3 q4 q5
       refine (o5 p.kind p.value 0 (.slice av p.kids.length ac) _).mono ?_
       rintro x w1 ⟨rfl, b1⟩
       rw [show (decide (p.kind = 1) && decide (p.value = 0)) = j5 p 0 from rfl]
       replace M := M.call b1
       clear b1
       cases hK : j5 p 0
       ·have y0 := M.c 0 0 rfl rfl
        have q0 := M.c 4 0 rfl rfl
        have q1 := M.c 4 1 rfl rfl
        have q2 := M.c 4 2 rfl rfl
        have q3 := M.c 5 0 rfl rfl
        have q4 := M.c 5 1 rfl rfl
        have q5 := M.c 5 2 rfl rfl
        have HM := show Hid _ from M
        clear M
        go_wp2_with fail
        have M := HM.out
        clear HM y0 q0 q1 q2 q3 q4 q5
        refine (o5 q.kind q.value 0 (.slice bv q.kids.length bc) _).mono ?_
        rintro x w1 ⟨rfl, b1⟩
        rw [show (decide (q.kind = 1) && decide (q.value = 0)) = j5 q 0 from rfl]
        replace M := M.call b1
        clear b1
        cases hK2 : j5 q 0
        ·have HN : Hid (j6 ⟨e.kind, e.value, [p, q]⟩ = ⟨e.kind, e.value, [p, q]⟩) := by have hq := HQK.out; rw [Hid, HN0.out, if_neg HCN.out, if_neg (by simp [hq, hK]), if_neg (by simp [hq, hK2])]
         clear hK2 hK HQK HN0
         have y0 := M.c 0 0 rfl rfl
         have d0 := M.c 1 0 rfl rfl
         have d1 := M.c 1 1 rfl rfl
         have d2 := M.c 1 2 rfl rfl
         have o0 := M.c 2 0 rfl rfl
         have o1 := M.c 2 1 rfl rfl
         have o2 := M.c 2 2 rfl rfl
         have ff := M.f 1 rfl
         have HM := show Hid _ from ((M.set 1 rfl 0 (.int .i64 e.kind)).set 1 rfl 1 (.int .i64 e.value)).set 1 rfl 2 (.slice (some ⟨g, off, none⟩) 2 cap)
         clear M
         go_wp2_with fail
         have M2 := HM.out
         have r0 : World.cell? _ ⟨w.heap.size + 1, 0, none⟩ = some (.int .i64 e.kind) := M2.c 1 0 rfl rfl
         have r1 : World.cell? _ ⟨w.heap.size + 1, 1, none⟩ = some (.int .i64 e.value) := M2.c 1 1 rfl rfl
         have r2 : World.cell? _ ⟨w.heap.size + 1, 2, none⟩ = some (.slice (some ⟨g, off, none⟩) 2 cap) := M2.c 1 2 rfl rfl
         refine bodyPost_ret (v := .agg #[.int .i64 e.kind, .int .i64 e.value, .slice (some ⟨g, off, none⟩) 2 cap]) (by simp [results, Try.results34, go_sem, r0, r1, r2]) rfl ?_
         show G4 w e _ _
         unfold G4
         rw [HND.out, HN.out]
         exact ⟨_, _, S', rfl, (M2.o 3 rfl).2.2.2.2.2.2.2.2.2, fun b hb => ⟨(M2.ge _ b (bE9 (i := 3) rfl) hb).elim (fun h => h) fun h => absurd bF1 h, M2.lt (bE9 (i := 3) rfl) hb⟩, M2.below fun _ _ => trivial⟩
        ·have HN : Hid (j6 ⟨e.kind, e.value, [p, q]⟩ = p) := by have hq := HQK.out; rw [Hid, HN0.out, if_neg HCN.out, if_neg (by simp [hq, hK]), if_pos (by simp [hq, hK2])]
         clear hK2 hK HQK HN0
         have y0 := M.c 0 0 rfl rfl
         have d0 := M.c 1 0 rfl rfl
         have d1 := M.c 1 1 rfl rfl
         have d2 := M.c 1 2 rfl rfl
         have q0 := M.c 4 0 rfl rfl
         have q1 := M.c 4 1 rfl rfl
         have q2 := M.c 4 2 rfl rfl
         have ff := M.f 1 rfl
         have HM := show Hid _ from ((M.set 1 rfl 0 (.int .i64 p.kind)).set 1 rfl 1 (.int .i64 p.value)).set 1 rfl 2 (.slice av p.kids.length ac)
         clear M
         go_wp2_with fail
         have M2 := HM.out
         have r0 : World.cell? _ ⟨w.heap.size + 1, 0, none⟩ = some (.int .i64 p.kind) := M2.c 1 0 rfl rfl
         have r1 : World.cell? _ ⟨w.heap.size + 1, 1, none⟩ = some (.int .i64 p.value) := M2.c 1 1 rfl rfl
         have r2 : World.cell? _ ⟨w.heap.size + 1, 2, none⟩ = some (.slice av p.kids.length ac) := M2.c 1 2 rfl rfl
         refine bodyPost_ret (v := .agg #[.int .i64 p.kind, .int .i64 p.value, .slice av p.kids.length ac]) (by simp [results, Try.results34, go_sem, r0, r1, r2]) rfl ?_
         show G4 w e _ _
         unfold G4
         rw [HND.out, HN.out]
         exact ⟨_, _, S', rfl, (M2.o 3 rfl).2.2.2.2.2.2.2.1, fun b hb => ⟨(M2.ge _ b (bE9 (i := 3) rfl) hb).elim (fun h => h) fun h => absurd bF1 h, M2.lt (bE9 (i := 3) rfl) hb⟩, M2.below fun _ _ => trivial⟩
       ·have HN : Hid (j6 ⟨e.kind, e.value, [p, q]⟩ = q) := by have hq := HQK.out; rw [Hid, HN0.out, if_neg HCN.out, if_pos (by simp [hq, hK])]
        clear hK HQK HN0
        have y0 := M.c 0 0 rfl rfl
        have d0 := M.c 1 0 rfl rfl
        have d1 := M.c 1 1 rfl rfl
        have d2 := M.c 1 2 rfl rfl
        have q3 := M.c 5 0 rfl rfl
        have q4 := M.c 5 1 rfl rfl
        have q5 := M.c 5 2 rfl rfl
        have ff := M.f 1 rfl
        have HM := show Hid _ from ((M.set 1 rfl 0 (.int .i64 q.kind)).set 1 rfl 1 (.int .i64 q.value)).set 1 rfl 2 (.slice bv q.kids.length bc)
        clear M
        go_wp2_with fail
        have M2 := HM.out
        have r0 : World.cell? _ ⟨w.heap.size + 1, 0, none⟩ = some (.int .i64 q.kind) := M2.c 1 0 rfl rfl
        have r1 : World.cell? _ ⟨w.heap.size + 1, 1, none⟩ = some (.int .i64 q.value) := M2.c 1 1 rfl rfl
        have r2 : World.cell? _ ⟨w.heap.size + 1, 2, none⟩ = some (.slice bv q.kids.length bc) := M2.c 1 2 rfl rfl
        refine bodyPost_ret (v := .agg #[.int .i64 q.kind, .int .i64 q.value, .slice bv q.kids.length bc]) (by simp [results, Try.results34, go_sem, r0, r1, r2]) rfl ?_
        show G4 w e _ _
        unfold G4
        rw [HND.out, HN.out]
        exact ⟨_, _, S', rfl, (M2.o 3 rfl).2.2.2.2.2.2.2.2.1, fun b hb => ⟨(M2.ge _ b (bE9 (i := 3) rfl) hb).elim (fun h => h) fun h => absurd bF1 h, M2.lt (bE9 (i := 3) rfl) hb⟩, M2.below fun _ _ => trivial⟩
      have HN4 := show Hid _ from hq
      clear hq
      by_cases hq : e.kind = 8
      ·have p4 : (e.kind == 4) = false := by simp [hq]
       have p8 : (e.kind == 8) = true := by simp [hq]
       have p5 : (e.kind == 5) = false := by simp [hq]
       have p6 : (e.kind == 6) = false := by simp [hq]
       have HQK := show Hid _ from hq
       clear hq
       have y0 := M.c 0 0 rfl rfl
       have q0 := M.c 4 0 rfl rfl
       have q1 := M.c 4 1 rfl rfl
       have q2 := M.c 4 2 rfl rfl
       have q3 := M.c 5 0 rfl rfl
       have q4 := M.c 5 1 rfl rfl
       have q5 := M.c 5 2 rfl rfl
       have HM := show Hid _ from M
       clear M
       go_wp2_with fail
       have M := HM.out
       clear HM y0 q0 q1 q2 q3 q4 q5
       refine (o5 p.kind p.value 0 (.slice av p.kids.length ac) _).mono ?_
       rintro x w1 ⟨rfl, b1⟩
       rw [show (decide (p.kind = 1) && decide (p.value = 0)) = j5 p 0 from rfl]
       replace M := M.call b1
       clear b1
       cases hK : j5 p 0
       ·have y0 := M.c 0 0 rfl rfl
        have q0 := M.c 4 0 rfl rfl
        have q1 := M.c 4 1 rfl rfl
        have q2 := M.c 4 2 rfl rfl
        have q3 := M.c 5 0 rfl rfl
        have q4 := M.c 5 1 rfl rfl
        have q5 := M.c 5 2 rfl rfl
        have HM := show Hid _ from M
        clear M
        go_wp2_with fail
        have M := HM.out
        clear HM y0 q0 q1 q2 q3 q4 q5
        refine (o5 q.kind q.value 0 (.slice bv q.kids.length bc) _).mono ?_
        rintro x w1 ⟨rfl, b1⟩
        rw [show (decide (q.kind = 1) && decide (q.value = 0)) = j5 q 0 from rfl]
        replace M := M.call b1
        clear b1
        cases hK2 : j5 q 0
        ·have HN : Hid (j6 ⟨e.kind, e.value, [p, q]⟩ = ⟨e.kind, e.value, [p, q]⟩) := by have hq := HQK.out; rw [Hid, HN0.out, if_neg HCN.out, if_neg (by simp [hq, hK]), if_neg (by simp [hq, hK2])]
         clear hK2 hK HQK HN0
         have y0 := M.c 0 0 rfl rfl
         have d0 := M.c 1 0 rfl rfl
         have d1 := M.c 1 1 rfl rfl
         have d2 := M.c 1 2 rfl rfl
         have o0 := M.c 2 0 rfl rfl
         have o1 := M.c 2 1 rfl rfl
         have o2 := M.c 2 2 rfl rfl
         have ff := M.f 1 rfl
         have HM := show Hid _ from ((M.set 1 rfl 0 (.int .i64 e.kind)).set 1 rfl 1 (.int .i64 e.value)).set 1 rfl 2 (.slice (some ⟨g, off, none⟩) 2 cap)
         clear M
         go_wp2_with fail
         have M2 := HM.out
         have r0 : World.cell? _ ⟨w.heap.size + 1, 0, none⟩ = some (.int .i64 e.kind) := M2.c 1 0 rfl rfl
         have r1 : World.cell? _ ⟨w.heap.size + 1, 1, none⟩ = some (.int .i64 e.value) := M2.c 1 1 rfl rfl
         have r2 : World.cell? _ ⟨w.heap.size + 1, 2, none⟩ = some (.slice (some ⟨g, off, none⟩) 2 cap) := M2.c 1 2 rfl rfl
         refine bodyPost_ret (v := .agg #[.int .i64 e.kind, .int .i64 e.value, .slice (some ⟨g, off, none⟩) 2 cap]) (by simp [results, Try.results34, go_sem, r0, r1, r2]) rfl ?_
         show G4 w e _ _
         unfold G4
         rw [HND.out, HN.out]
         exact ⟨_, _, S', rfl, (M2.o 3 rfl).2.2.2.2.2.2.2.2.2, fun b hb => ⟨(M2.ge _ b (bE9 (i := 3) rfl) hb).elim (fun h => h) fun h => absurd bF1 h, M2.lt (bE9 (i := 3) rfl) hb⟩, M2.below fun _ _ => trivial⟩
        ·have HN : Hid (j6 ⟨e.kind, e.value, [p, q]⟩ = p) := by have hq := HQK.out; rw [Hid, HN0.out, if_neg HCN.out, if_neg (by simp [hq, hK]), if_pos (by simp [hq, hK2])]
         clear hK2 hK HQK HN0
         have y0 := M.c 0 0 rfl rfl
         have d0 := M.c 1 0 rfl rfl
         have d1 := M.c 1 1 rfl rfl
         have d2 := M.c 1 2 rfl rfl
         have q0 := M.c 4 0 rfl rfl
         have q1 := M.c 4 1 rfl rfl
         have q2 := M.c 4 2 rfl rfl
         have ff := M.f 1 rfl
         have HM := show Hid _ from ((M.set 1 rfl 0 (.int .i64 p.kind)).set 1 rfl 1 (.int .i64 p.value)).set 1 rfl 2 (.slice av p.kids.length ac)
         clear M
         go_wp2_with fail
         have M2 := HM.out
         have r0 : World.cell? _ ⟨w.heap.size + 1, 0, none⟩ = some (.int .i64 p.kind) := M2.c 1 0 rfl rfl
         have r1 : World.cell? _ ⟨w.heap.size + 1, 1, none⟩ = some (.int .i64 p.value) := M2.c 1 1 rfl rfl
         have r2 : World.cell? _ ⟨w.heap.size + 1, 2, none⟩ = some (.slice av p.kids.length ac) := M2.c 1 2 rfl rfl
         refine bodyPost_ret (v := .agg #[.int .i64 p.kind, .int .i64 p.value, .slice av p.kids.length ac]) (by simp [results, Try.results34, go_sem, r0, r1, r2]) rfl ?_
         show G4 w e _ _
         unfold G4
         rw [HND.out, HN.out]
         exact ⟨_, _, S', rfl, (M2.o 3 rfl).2.2.2.2.2.2.2.1, fun b hb => ⟨(M2.ge _ b (bE9 (i := 3) rfl) hb).elim (fun h => h) fun h => absurd bF1 h, M2.lt (bE9 (i := 3) rfl) hb⟩, M2.below fun _ _ => trivial⟩
       ·have HN : Hid (j6 ⟨e.kind, e.value, [p, q]⟩ = q) := by have hq := HQK.out; rw [Hid, HN0.out, if_neg HCN.out, if_pos (by simp [hq, hK])]
        clear hK HQK HN0
        have y0 := M.c 0 0 rfl rfl
        have d0 := M.c 1 0 rfl rfl
        have d1 := M.c 1 1 rfl rfl
        have d2 := M.c 1 2 rfl rfl
        have q3 := M.c 5 0 rfl rfl
        have q4 := M.c 5 1 rfl rfl
        have q5 := M.c 5 2 rfl rfl
        have ff := M.f 1 rfl
        have HM := show Hid _ from ((M.set 1 rfl 0 (.int .i64 q.kind)).set 1 rfl 1 (.int .i64 q.value)).set 1 rfl 2 (.slice bv q.kids.length bc)
        clear M
        go_wp2_with fail
        have M2 := HM.out
        have r0 : World.cell? _ ⟨w.heap.size + 1, 0, none⟩ = some (.int .i64 q.kind) := M2.c 1 0 rfl rfl
        have r1 : World.cell? _ ⟨w.heap.size + 1, 1, none⟩ = some (.int .i64 q.value) := M2.c 1 1 rfl rfl
        have r2 : World.cell? _ ⟨w.heap.size + 1, 2, none⟩ = some (.slice bv q.kids.length bc) := M2.c 1 2 rfl rfl
        refine bodyPost_ret (v := .agg #[.int .i64 q.kind, .int .i64 q.value, .slice bv q.kids.length bc]) (by simp [results, Try.results34, go_sem, r0, r1, r2]) rfl ?_
        show G4 w e _ _
        unfold G4
        rw [HND.out, HN.out]
        exact ⟨_, _, S', rfl, (M2.o 3 rfl).2.2.2.2.2.2.2.2.1, fun b hb => ⟨(M2.ge _ b (bE9 (i := 3) rfl) hb).elim (fun h => h) fun h => absurd bF1 h, M2.lt (bE9 (i := 3) rfl) hb⟩, M2.below fun _ _ => trivial⟩
      have HN8 := show Hid _ from hq
      clear hq
      by_cases hq : e.kind = 5
      ·have p4 : (e.kind == 4) = false := by simp [hq]
       have p8 : (e.kind == 8) = false := by simp [hq]
       have p5 : (e.kind == 5) = true := by simp [hq]
       have p6 : (e.kind == 6) = false := by simp [hq]
       have HQK := show Hid _ from hq
       clear hq
       have y0 := M.c 0 0 rfl rfl
       have q0 := M.c 4 0 rfl rfl
       have q1 := M.c 4 1 rfl rfl
       have q2 := M.c 4 2 rfl rfl
       have q3 := M.c 5 0 rfl rfl
       have q4 := M.c 5 1 rfl rfl
       have q5 := M.c 5 2 rfl rfl
       have HM := show Hid _ from M
       clear M
       go_wp2_with fail
       have M := HM.out
       clear HM y0 q0 q1 q2 q3 q4 q5
       refine (o5 q.kind q.value 0 (.slice bv q.kids.length bc) _).mono ?_
       rintro x w1 ⟨rfl, b1⟩
       rw [show (decide (q.kind = 1) && decide (q.value = 0)) = j5 q 0 from rfl]
       replace M := M.call b1
       clear b1
       cases hK2 : j5 q 0
       ·have HN : Hid (j6 ⟨e.kind, e.value, [p, q]⟩ = ⟨e.kind, e.value, [p, q]⟩) := by have hq := HQK.out; rw [Hid, HN0.out, if_neg HCN.out, if_neg (by simp [hq, hq]), if_neg (by simp [hq, hK2])]
        clear hK2  HQK HN0
        have y0 := M.c 0 0 rfl rfl
        have d0 := M.c 1 0 rfl rfl
        have d1 := M.c 1 1 rfl rfl
        have d2 := M.c 1 2 rfl rfl
        have o0 := M.c 2 0 rfl rfl
        have o1 := M.c 2 1 rfl rfl
        have o2 := M.c 2 2 rfl rfl
        have ff := M.f 1 rfl
        have HM := show Hid _ from ((M.set 1 rfl 0 (.int .i64 e.kind)).set 1 rfl 1 (.int .i64 e.value)).set 1 rfl 2 (.slice (some ⟨g, off, none⟩) 2 cap)
        clear M
        go_wp2_with fail
        have M2 := HM.out
        have r0 : World.cell? _ ⟨w.heap.size + 1, 0, none⟩ = some (.int .i64 e.kind) := M2.c 1 0 rfl rfl
        have r1 : World.cell? _ ⟨w.heap.size + 1, 1, none⟩ = some (.int .i64 e.value) := M2.c 1 1 rfl rfl
        have r2 : World.cell? _ ⟨w.heap.size + 1, 2, none⟩ = some (.slice (some ⟨g, off, none⟩) 2 cap) := M2.c 1 2 rfl rfl
        refine bodyPost_ret (v := .agg #[.int .i64 e.kind, .int .i64 e.value, .slice (some ⟨g, off, none⟩) 2 cap]) (by simp [results, Try.results34, go_sem, r0, r1, r2]) rfl ?_
        show G4 w e _ _
        unfold G4
        rw [HND.out, HN.out]
        exact ⟨_, _, S', rfl, (M2.o 3 rfl).2.2.2.2.2.2.2.2.2, fun b hb => ⟨(M2.ge _ b (bE9 (i := 3) rfl) hb).elim (fun h => h) fun h => absurd bF1 h, M2.lt (bE9 (i := 3) rfl) hb⟩, M2.below fun _ _ => trivial⟩
       ·have HN : Hid (j6 ⟨e.kind, e.value, [p, q]⟩ = p) := by have hq := HQK.out; rw [Hid, HN0.out, if_neg HCN.out, if_neg (by simp [hq, hq]), if_pos (by simp [hq, hK2])]
        clear hK2  HQK HN0
        have y0 := M.c 0 0 rfl rfl
        have d0 := M.c 1 0 rfl rfl
        have d1 := M.c 1 1 rfl rfl
        have d2 := M.c 1 2 rfl rfl
        have q0 := M.c 4 0 rfl rfl
        have q1 := M.c 4 1 rfl rfl
        have q2 := M.c 4 2 rfl rfl
        have ff := M.f 1 rfl
        have HM := show Hid _ from ((M.set 1 rfl 0 (.int .i64 p.kind)).set 1 rfl 1 (.int .i64 p.value)).set 1 rfl 2 (.slice av p.kids.length ac)
        clear M
        go_wp2_with fail
        have M2 := HM.out
        have r0 : World.cell? _ ⟨w.heap.size + 1, 0, none⟩ = some (.int .i64 p.kind) := M2.c 1 0 rfl rfl
        have r1 : World.cell? _ ⟨w.heap.size + 1, 1, none⟩ = some (.int .i64 p.value) := M2.c 1 1 rfl rfl
        have r2 : World.cell? _ ⟨w.heap.size + 1, 2, none⟩ = some (.slice av p.kids.length ac) := M2.c 1 2 rfl rfl
        refine bodyPost_ret (v := .agg #[.int .i64 p.kind, .int .i64 p.value, .slice av p.kids.length ac]) (by simp [results, Try.results34, go_sem, r0, r1, r2]) rfl ?_
        show G4 w e _ _
        unfold G4
        rw [HND.out, HN.out]
        exact ⟨_, _, S', rfl, (M2.o 3 rfl).2.2.2.2.2.2.2.1, fun b hb => ⟨(M2.ge _ b (bE9 (i := 3) rfl) hb).elim (fun h => h) fun h => absurd bF1 h, M2.lt (bE9 (i := 3) rfl) hb⟩, M2.below fun _ _ => trivial⟩
      have HN5 := show Hid _ from hq
      clear hq
      by_cases hq : e.kind = 6
      ·have p4 : (e.kind == 4) = false := by simp [hq]
       have p8 : (e.kind == 8) = false := by simp [hq]
       have p5 : (e.kind == 5) = false := by simp [hq]
       have p6 : (e.kind == 6) = true := by simp [hq]
       have HQK := show Hid _ from hq
       clear hq
       have y0 := M.c 0 0 rfl rfl
       have q0 := M.c 4 0 rfl rfl
       have q1 := M.c 4 1 rfl rfl
       have q2 := M.c 4 2 rfl rfl
       have q3 := M.c 5 0 rfl rfl
       have q4 := M.c 5 1 rfl rfl
       have q5 := M.c 5 2 rfl rfl
       have HM := show Hid _ from M
       clear M
       go_wp2_with fail
       have M := HM.out
       clear HM y0 q0 q1 q2 q3 q4 q5
       refine (o5 p.kind p.value 1 (.slice av p.kids.length ac) _).mono ?_
       rintro x w1 ⟨rfl, b1⟩
       rw [show (decide (p.kind = 1) && decide (p.value = 1)) = j5 p 1 from rfl]
       replace M := M.call b1
       clear b1
       cases hK : j5 p 1
       ·have y0 := M.c 0 0 rfl rfl
        have q0 := M.c 4 0 rfl rfl
        have q1 := M.c 4 1 rfl rfl
        have q2 := M.c 4 2 rfl rfl
        have q3 := M.c 5 0 rfl rfl
        have q4 := M.c 5 1 rfl rfl
        have q5 := M.c 5 2 rfl rfl
        have HM := show Hid _ from M
        clear M
        go_wp2_with fail
        have M := HM.out
        clear HM y0 q0 q1 q2 q3 q4 q5
        refine (o5 q.kind q.value 1 (.slice bv q.kids.length bc) _).mono ?_
        rintro x w1 ⟨rfl, b1⟩
        rw [show (decide (q.kind = 1) && decide (q.value = 1)) = j5 q 1 from rfl]
        replace M := M.call b1
        clear b1
        cases hK2 : j5 q 1
        ·have HN : Hid (j6 ⟨e.kind, e.value, [p, q]⟩ = ⟨e.kind, e.value, [p, q]⟩) := by have hq := HQK.out; rw [Hid, HN0.out, if_neg HCN.out, if_neg (by simp [hq, hK]), if_neg (by simp [hq, hK2])]
         clear hK2 hK HQK HN0
         have y0 := M.c 0 0 rfl rfl
         have d0 := M.c 1 0 rfl rfl
         have d1 := M.c 1 1 rfl rfl
         have d2 := M.c 1 2 rfl rfl
         have o0 := M.c 2 0 rfl rfl
         have o1 := M.c 2 1 rfl rfl
         have o2 := M.c 2 2 rfl rfl
         have ff := M.f 1 rfl
         have HM := show Hid _ from ((M.set 1 rfl 0 (.int .i64 e.kind)).set 1 rfl 1 (.int .i64 e.value)).set 1 rfl 2 (.slice (some ⟨g, off, none⟩) 2 cap)
         clear M
         go_wp2_with fail
         have M2 := HM.out
         have r0 : World.cell? _ ⟨w.heap.size + 1, 0, none⟩ = some (.int .i64 e.kind) := M2.c 1 0 rfl rfl
         have r1 : World.cell? _ ⟨w.heap.size + 1, 1, none⟩ = some (.int .i64 e.value) := M2.c 1 1 rfl rfl
         have r2 : World.cell? _ ⟨w.heap.size + 1, 2, none⟩ = some (.slice (some ⟨g, off, none⟩) 2 cap) := M2.c 1 2 rfl rfl
         refine bodyPost_ret (v := .agg #[.int .i64 e.kind, .int .i64 e.value, .slice (some ⟨g, off, none⟩) 2 cap]) (by simp [results, Try.results34, go_sem, r0, r1, r2]) rfl ?_
         show G4 w e _ _
         unfold G4
         rw [HND.out, HN.out]
         exact ⟨_, _, S', rfl, (M2.o 3 rfl).2.2.2.2.2.2.2.2.2, fun b hb => ⟨(M2.ge _ b (bE9 (i := 3) rfl) hb).elim (fun h => h) fun h => absurd bF1 h, M2.lt (bE9 (i := 3) rfl) hb⟩, M2.below fun _ _ => trivial⟩
        ·have HN : Hid (j6 ⟨e.kind, e.value, [p, q]⟩ = p) := by have hq := HQK.out; rw [Hid, HN0.out, if_neg HCN.out, if_neg (by simp [hq, hK]), if_pos (by simp [hq, hK2])]
         clear hK2 hK HQK HN0
         have y0 := M.c 0 0 rfl rfl
         have d0 := M.c 1 0 rfl rfl
         have d1 := M.c 1 1 rfl rfl
         have d2 := M.c 1 2 rfl rfl
         have q0 := M.c 4 0 rfl rfl
         have q1 := M.c 4 1 rfl rfl
         have q2 := M.c 4 2 rfl rfl
         have ff := M.f 1 rfl
         have HM := show Hid _ from ((M.set 1 rfl 0 (.int .i64 p.kind)).set 1 rfl 1 (.int .i64 p.value)).set 1 rfl 2 (.slice av p.kids.length ac)
         clear M
         go_wp2_with fail
         have M2 := HM.out
         have r0 : World.cell? _ ⟨w.heap.size + 1, 0, none⟩ = some (.int .i64 p.kind) := M2.c 1 0 rfl rfl
         have r1 : World.cell? _ ⟨w.heap.size + 1, 1, none⟩ = some (.int .i64 p.value) := M2.c 1 1 rfl rfl
         have r2 : World.cell? _ ⟨w.heap.size + 1, 2, none⟩ = some (.slice av p.kids.length ac) := M2.c 1 2 rfl rfl
         refine bodyPost_ret (v := .agg #[.int .i64 p.kind, .int .i64 p.value, .slice av p.kids.length ac]) (by simp [results, Try.results34, go_sem, r0, r1, r2]) rfl ?_
         show G4 w e _ _
         unfold G4
         rw [HND.out, HN.out]
         exact ⟨_, _, S', rfl, (M2.o 3 rfl).2.2.2.2.2.2.2.1, fun b hb => ⟨(M2.ge _ b (bE9 (i := 3) rfl) hb).elim (fun h => h) fun h => absurd bF1 h, M2.lt (bE9 (i := 3) rfl) hb⟩, M2.below fun _ _ => trivial⟩
       ·have HN : Hid (j6 ⟨e.kind, e.value, [p, q]⟩ = q) := by have hq := HQK.out; rw [Hid, HN0.out, if_neg HCN.out, if_pos (by simp [hq, hK])]
        clear hK HQK HN0
        have y0 := M.c 0 0 rfl rfl
        have d0 := M.c 1 0 rfl rfl
        have d1 := M.c 1 1 rfl rfl
        have d2 := M.c 1 2 rfl rfl
        have q3 := M.c 5 0 rfl rfl
        have q4 := M.c 5 1 rfl rfl
        have q5 := M.c 5 2 rfl rfl
        have ff := M.f 1 rfl
        have HM := show Hid _ from ((M.set 1 rfl 0 (.int .i64 q.kind)).set 1 rfl 1 (.int .i64 q.value)).set 1 rfl 2 (.slice bv q.kids.length bc)
        clear M
        go_wp2_with fail
        have M2 := HM.out
        have r0 : World.cell? _ ⟨w.heap.size + 1, 0, none⟩ = some (.int .i64 q.kind) := M2.c 1 0 rfl rfl
        have r1 : World.cell? _ ⟨w.heap.size + 1, 1, none⟩ = some (.int .i64 q.value) := M2.c 1 1 rfl rfl
        have r2 : World.cell? _ ⟨w.heap.size + 1, 2, none⟩ = some (.slice bv q.kids.length bc) := M2.c 1 2 rfl rfl
        refine bodyPost_ret (v := .agg #[.int .i64 q.kind, .int .i64 q.value, .slice bv q.kids.length bc]) (by simp [results, Try.results34, go_sem, r0, r1, r2]) rfl ?_
        show G4 w e _ _
        unfold G4
        rw [HND.out, HN.out]
        exact ⟨_, _, S', rfl, (M2.o 3 rfl).2.2.2.2.2.2.2.2.1, fun b hb => ⟨(M2.ge _ b (bE9 (i := 3) rfl) hb).elim (fun h => h) fun h => absurd bF1 h, M2.lt (bE9 (i := 3) rfl) hb⟩, M2.below fun _ _ => trivial⟩
      have HN6 := show Hid _ from hq
      clear hq
      have p4 : (e.kind == 4) = false := by
       have h : ¬ e.kind = 4 := HN4.out
       simp [h]
      have p8 : (e.kind == 8) = false := by
       have h : ¬ e.kind = 8 := HN8.out
       simp [h]
      have p5 : (e.kind == 5) = false := by
       have h : ¬ e.kind = 5 := HN5.out
       simp [h]
      have p6 : (e.kind == 6) = false := by
       have h : ¬ e.kind = 6 := HN6.out
       simp [h]
      have HN : Hid (j6 ⟨e.kind, e.value, [p, q]⟩ = ⟨e.kind, e.value, [p, q]⟩) := by
       have h4 : ¬ e.kind = 4 := HN4.out
       have h5 : ¬ e.kind = 5 := HN5.out
       have h6 : ¬ e.kind = 6 := HN6.out
       have h8 : ¬ e.kind = 8 := HN8.out
       rw [Hid, HN0.out, if_neg HCN.out, if_neg (by simp [h4, h5, h6, h8]), if_neg (by simp [h4, h5, h6, h8])]
      clear HN4 HN5 HN6 HN8 HN0
      have y0 := M.c 0 0 rfl rfl
      have d0 := M.c 1 0 rfl rfl
      have d1 := M.c 1 1 rfl rfl
      have d2 := M.c 1 2 rfl rfl
      have o0 := M.c 2 0 rfl rfl
      have o1 := M.c 2 1 rfl rfl
      have o2 := M.c 2 2 rfl rfl
      have q0 := M.c 4 0 rfl rfl
      have q1 := M.c 4 1 rfl rfl
      have q2 := M.c 4 2 rfl rfl
      have q3 := M.c 5 0 rfl rfl
      have q4 := M.c 5 1 rfl rfl
      have q5 := M.c 5 2 rfl rfl
      have ff := M.f 1 rfl
      have HM := show Hid _ from ((M.set 1 rfl 0 (.int .i64 e.kind)).set 1 rfl 1 (.int .i64 e.value)).set 1 rfl 2 (.slice (some ⟨g, off, none⟩) 2 cap)
      clear M
      go_wp2_with fail
      have M2 := HM.out
      have r0 : World.cell? _ ⟨w.heap.size + 1, 0, none⟩ = some (.int .i64 e.kind) := M2.c 1 0 rfl rfl
      have r1 : World.cell? _ ⟨w.heap.size + 1, 1, none⟩ = some (.int .i64 e.value) := M2.c 1 1 rfl rfl
      have r2 : World.cell? _ ⟨w.heap.size + 1, 2, none⟩ = some (.slice (some ⟨g, off, none⟩) 2 cap) := M2.c 1 2 rfl rfl
      refine bodyPost_ret (v := .agg #[.int .i64 e.kind, .int .i64 e.value, .slice (some ⟨g, off, none⟩) 2 cap]) (by simp [results, Try.results34, go_sem, r0, r1, r2]) rfl ?_
      show G4 w e _ _
      unfold G4
      rw [HND.out, HN.out]
      exact ⟨_, _, S', rfl, (M2.o 3 rfl).2.2.2.2.2.2.2.2.2, fun b hb => ⟨(M2.ge _ b (bE9 (i := 3) rfl) hb).elim (fun h => h) fun h => absurd bF1 h, M2.lt (bE9 (i := 3) rfl) hb⟩, M2.below fun _ _ => trivial⟩
   ·have pk : (e.kind == 11) = false := by simp; omega
    have pw : (decide (4 ≤ e.kind) && decide (e.kind ≤ 10)) = false := by simp; omega
    have HN : Hid (j6 ⟨e.kind, e.value, ks'⟩ = ⟨e.kind, e.value, ks'⟩) := by
     match ks', h3 with
     | [], _ => rfl
     | [_], _ => rfl
    have HKL := show Hid _ from hkl
    clear h1 h2 hkl
    have y0 := M.c 0 0 rfl rfl
    have d0 := M.c 1 0 rfl rfl
    have d1 := M.c 1 1 rfl rfl
    have d2 := M.c 1 2 rfl rfl
    have ff := M.f 1 rfl
    have o0 := M.c 2 0 rfl rfl
    have o1 := M.c 2 1 rfl rfl
    have o2 := M.c 2 2 rfl rfl
    have HM := show Hid _ from M
    clear M
    go_wp2_with fail
    have M := HM.out
    clear HM y0 d0 d1 d2 ff o0 o1 o2
    refine (v6 e.kind 4 10 _).mono ?_
    rintro x w1 ⟨rfl, rfl⟩
    rw [pw]
    clear pw pk
    have y0 := M.c 0 0 rfl rfl
    have d0 := M.c 1 0 rfl rfl
    have d1 := M.c 1 1 rfl rfl
    have d2 := M.c 1 2 rfl rfl
    have ff := M.f 1 rfl
    have o0 := M.c 2 0 rfl rfl
    have o1 := M.c 2 1 rfl rfl
    have o2 := M.c 2 2 rfl rfl
    have HM := show Hid _ from ((M.set 1 rfl 0 (.int .i64 e.kind)).set 1 rfl 1 (.int .i64 e.value)).set 1 rfl 2 (.slice a k c)
    clear M
    go_wp2_with fail
    have M2 := HM.out
    have r0 : World.cell? _ ⟨w.heap.size + 1, 0, none⟩ = some (.int .i64 e.kind) := M2.c 1 0 rfl rfl
    have r1 : World.cell? _ ⟨w.heap.size + 1, 1, none⟩ = some (.int .i64 e.value) := M2.c 1 1 rfl rfl
    have r2 : World.cell? _ ⟨w.heap.size + 1, 2, none⟩ = some (.slice a k c) := M2.c 1 2 rfl rfl
    refine bodyPost_ret (v := .agg #[.int .i64 e.kind, .int .i64 e.value, .slice a k c]) (by simp [results, Try.results34, go_sem, r0, r1, r2]) rfl ?_
    show G4 w e _ _
    unfold G4
    rw [HND.out, HN.out]
    rw [show (b5.mk e.kind e.value ks').kids.length = k from HKL.out.symm]
    exact ⟨a, c, S', rfl, M2.o 3 rfl, fun b hb => ⟨(M2.ge _ b (bE9 (i := 3) rfl) hb).elim (fun h => h) fun h => absurd bF1 h, M2.lt (bE9 (i := 3) rfl) hb⟩, M2.below fun _ _ => trivial⟩
end Go.Proofs.Ytmokkddidcmglaa

namespace Go.Proofs.Ytmokkddidcmglaa
open Go Go.RowKit Go.ChangeShapes Go.WideShapes Go.Deep
section
variable {H : Type} {enc : TypeId × Value → H} {W : World}
theorem av1 {fuel : Nat} {t : TypeId} {v : Value} {x : DataW H × List MemPlace} (ht : Try.prog.underlying t = some (.slice 5))
  (h : DataW.trod enc Try.prog W 0 (fun _ => true) true fuel t [v] = some x) : ∃ l : List UInt8, K9 W v l.length 1 (l.map fun b => Value.int .u8 (b.toNat : Int)) := by
 obtain ⟨n, m, C, hr, hC, hx⟩ := aG4 ht (sz := 1) (by kernel_rfl) (by omega) h
 obtain ⟨g, hg⟩ := choose_lt (α := UInt8) (n := n) (p := fun i b => C i = [.int .u8 (b.toNat : Int)]) (fun i hi => by
  obtain ⟨y, hy⟩ := hx i hi
  obtain ⟨z, hz, _, hw⟩ := DataW.trod_int Try.underlying5 hy
  simp only [Lit.wf, bE8, decide_eq_true_eq] at hw
  have h0 : (0 : Int) ≤ z := hw.1
  have h1 : z ≤ 255 := hw.2
  refine ⟨UInt8.ofNat z.toNat, ?_⟩
  rw [hz]
  have e : (UInt8.ofNat z.toNat).toNat = z.toNat := by
   rw [UInt8.toNat_ofNat']; omega
  rw [e, Int.toNat_of_nonneg h0])
 refine ⟨(bH0 n).map g, ?_⟩
 rw [List.length_map, List.length_range, ← aq6 n C (fun b => Value.int .u8 (b.toNat : Int)) g hg]
 exact hr
end
end Go.Proofs.Ytmokkddidcmglaa
