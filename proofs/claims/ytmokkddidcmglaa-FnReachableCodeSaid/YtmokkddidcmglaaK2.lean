/- Part 2: functions on the way, plain laws. Conditions: as said. -/
import Derived.Test.YtmokkddidcmglaaRows
import Derived.OpenShut
import Derived.ChangeOld
import Derived.Deep.Slices
import Derived.Lib.SmallJoins
import Derived.StillTailTactics
import Derived.Deep.RegionHeld3
import Derived.Deep.QuietTactic
import Derived.BigQuiet
import Derived.Test.YtmokkddidcmglaaK1
set_option maxRecDepth 100000
set_option maxHeartbeats 16000000
set_option linter.unusedVariables false
set_option linter.unusedSimpArgs false
open Array renaming replicate → bV7
open Bool renaming and_eq_true → bR6, eq_iff_iff → bT5
open List renaming eq_nil_of_length_eq_zero → bU3, getElem?_append_left → bT3, getElem?_cons_zero → bV0, getElem?_eq_getElem → bo2, getElem?_eq_some_iff → bS0, getElem_mem → bS9, length_append → bR8, mem_append → bS7, mem_range → bU9, range → bS8, replicate → a04, take_of_length_le → bT9
open Nat renaming le_refl → bS5, le_trans → bT4, lt_or_ge → bT8, mul_le_mul_right → bU6, succ_mul → bT7, zero_le → bU8

namespace Go.Proofs.Ytmokkddidcmglaa
open Go Go.RowKit Go.ChangeShapes Go.WideShapes Go.Deep
theorem own : ownKnob Try.prog.godebug = none := by kernel_rfl
theorem a03 : laidOutB Try.prog = true := by kernel_rfl
section
variable {H : Type} {enc : TypeId × Value → H} {W : World}
theorem bg1 {C : Nat → List Value} {sz : Nat} (hC : ∀ i, (C i).length = sz) : ∀ (n i j : Nat), i < n → j < sz → ((bS8 n).flatMap C)[i * sz + j]? = (C i)[j]? := by
 intro n
 induction n with
 | zero => intro i j h; omega
 | succ n ih =>
  intro i j h hj
  have hlen : ((bS8 n).flatMap C).length = n * sz := by
   clear ih h
   induction n with
   | zero => simp
   | succ n ih2 => rw [List.range_succ, List.flatMap_append, bR8, ih2]; simp [hC, bT7]
  rw [List.range_succ, List.flatMap_append]
  by_cases hin : i < n
  ·rw [bT3 (by rw [hlen]; have := bU6 sz (Nat.succ_le_of_lt hin); rw [bT7] at this; omega)]
   exact ih i j hin hj
  ·obtain rfl : i = n := by omega
   rw [List.getElem?_append_right (by omega), hlen]
   simp
theorem aM2 {C : Nat → List Value} {sz : Nat} (hC : ∀ i, (C i).length = sz) (n : Nat) : ((bS8 n).flatMap C).length = n * sz := by
 induction n with
 | zero => simp
 | succ n ih2 => rw [List.range_succ, List.flatMap_append, bR8, ih2]; simp [hC, bT7]
theorem aJ5 {t e : TypeId} {fuel : Nat} {v : Value} {x : DataW H × List MemPlace} {sz : Nat} (ht : Try.prog.underlying t = some (.slice e)) (hc : Try.prog.cellsOf e = sz) (hsz : 0 < sz)
  (h : DataW.trod enc Try.prog W 0 (fun _ => true) true fuel t [v] = some x) :
  ∃ (n m : Nat) (C : Nat → List Value), H4 W v n sz ((bS8 n).flatMap C) ∧ (∀ i, (C i).length = sz) ∧ ∀ i, i < n → ∃ y, DataW.trod enc Try.prog W 0 (fun _ => true) true m e (C i) = some y := by
 rcases open_slice ht h with ⟨hcs, _⟩ | ⟨a, len, cap, m, k, D, Pl, hcs, _, hl, hm, hmm, _, hx⟩
 ·cases hcs
  exact ⟨0, 0, fun _ => a04 sz undef, H4.nil _ _, by simp, fun i hi => by omega⟩
 ·cases hcs
  rw [hc] at hx
  have hmc : len ≤ m := by rw [hmm]; simp; omega
  obtain ⟨C, hC⟩ := choose_lt (α := List Value) (n := len) (p := fun i cs => cs.length = sz ∧ (∀ j, j < sz → W.cell? (a.add (i * sz + j)) = cs[j]?) ∧ ∃ y, DataW.trod enc Try.prog W 0 (fun _ => true) true k e cs = some y) (fun i hi => by
   obtain ⟨cs', h1, h2⟩ := hx i (by omega)
   obtain ⟨_, hlen, hcell⟩ := World.cells?_some h1
   exact ⟨cs', hlen, fun j hj => by rw [← add_add]; exact hcell j hj, _, h2⟩)
  let C' : Nat → List Value := fun i => if i < len then C i else a04 sz undef
  have hC' : ∀ i, (C' i).length = sz := fun i => by
   by_cases hi : i < len
   ·simp only [C', if_pos hi]; exact (hC i hi).1
   ·simp [C', if_neg hi]
  refine ⟨len, k, C', ⟨aM2 hC' len, some a, cap, rfl, hl, hm, fun hn => ?_⟩, hC', fun i hi => ?_⟩
  ·obtain ⟨b, off, spot⟩ := a
   have h00 := (hC 0 hn).2.1 0 hsz
   have hlen0 := (hC 0 hn).1
   rw [bo2 (by omega)] at h00
   have hs : spot = none := by
    simpa [Addr.add] using World.cell?_spot h00
   subst hs
   have hb : b < W.heap.size := by simpa [Addr.add] using World.block_lt_of_cell? W _ h00
   refine ⟨b, off, rfl, hb, fun j u hj => ?_⟩
   have hjl : j < len * sz := by have := (bS0.1 hj).1; rw [aM2 hC'] at this; exact this
   have hi : j / sz < len := Nat.div_lt_of_lt_mul (by rw [Nat.mul_comm]; exact hjl)
   have hr : j % sz < sz := Nat.mod_lt _ hsz
   have hjj : j / sz * sz + j % sz = j := Nat.div_add_mod' j sz
   have hg := bg1 hC' len (j / sz) (j % sz) hi hr
   rw [hjj, hj] at hg
   have hcc := (hC _ hi).2.1 _ hr
   simp only [C', if_pos hi] at hg
   rw [hjj, ← hg] at hcc
   have hadd : (⟨b, off, none⟩ : Addr).add j = ⟨b, off + j, none⟩ := by unfold Addr.add; split <;> simp_all
   rw [hadd] at hcc
   exact hcc
  ·obtain ⟨y, hy⟩ := (hC i hi).2.2
   exact ⟨y, by simp only [C', if_pos hi]; exact hy⟩
theorem as1 {α : Type} (n : Nat) (C : Nat → List Value) (f : α → Value) (g : Nat → α) (h : ∀ i, i < n → C i = [f (g i)]) : (bS8 n).flatMap C = ((bS8 n).map g).map f := by
 rw [List.map_map, List.flatMap_def]
 rw [List.map_congr_left (g := fun i => [f (g i)]) (fun i hi => h i (by simpa using hi))]
 induction n with
 | zero => simp
 | succ n ih =>
  rw [List.range_succ, List.map_append, List.flatten_append, List.map_append, ih (fun i hi => h i (by omega))]
  simp
end
end Go.Proofs.Ytmokkddidcmglaa

namespace Go.Proofs.Ytmokkddidcmglaa
open Go Go.RowKit
theorem bp8 : (Try.prog.info? 23).map (fun i => (i.zero, i.size, i.bytes)) = some (some (.slice none 0 0), 1, 24) := by kernel_rfl
def S9 (w : World) (v : Value) (m : List (List Int)) : Prop :=
 ∃ vs : List Value, H4 w v m.length 1 vs ∧ ∀ (i : Nat) (u : Value) (r : List Int), vs[i]? = some u → m[i]? = some r → H4 w u r.length 1 (ints r)
def H1 (w : World) (lo hi : Nat) (v : Value) (m : List (List Int)) : Prop :=
 ∃ vs : List Value, A9 w lo hi 23 1 v m.length vs ∧ (∀ (i : Nat) (u : Value) (r : List Int), vs[i]? = some u → m[i]? = some r → A9 w lo hi 3 1 u r.length (ints r)) ∧
  (∀ (i j : Nat) (u u' : Value), i < j → vs[i]? = some u → vs[j]? = some u' → ah7 u u') ∧ ∀ (i : Nat) (u : Value), vs[i]? = some u → ah7 u v
theorem S9.below {w w' : World} {v : Value} {m : List (List Int)} (h : S9 w v m) (hb : Below w.heap.size w w') : S9 w' v m := by
 obtain ⟨vs, h1, h2⟩ := h
 exact ⟨vs, h1.below hb, fun i u r a b => (h2 i u r a b).below hb⟩
theorem H1.row {w : World} {lo hi : Nat} {v : Value} {m : List (List Int)} (h : H1 w lo hi v m) : S9 w v m := by
 obtain ⟨vs, h1, h2, _⟩ := h
 exact ⟨vs, h1.row, fun i u r a b => (h2 i u r a b).row⟩
theorem H1.keep {w w' : World} {lo hi B : Nat} {v : Value} {m : List (List Int)} (h : H1 w lo hi v m) (hb : Below B w w') (hB : hi ≤ B) : H1 w' lo hi v m := by
 obtain ⟨vs, h1, h2, hd⟩ := h
 exact ⟨vs, h1.keep hb hB, fun i u r a b => (h2 i u r a b).keep hb hB, hd⟩
theorem H1.out {w w' : World} {lo hi lo' hi' : Nat} {v : Value} {m : List (List Int)} (h : H1 w lo hi v m) (hb : Out lo' hi' w w') (hB : hi ≤ lo' ∨ hi' ≤ lo) : H1 w' lo hi v m := by
 obtain ⟨vs, h1, h2, hd⟩ := h
 exact ⟨vs, h1.out hb hB, fun i u r a b => (h2 i u r a b).out hb hB, hd⟩
theorem H1.wide {w : World} {lo hi lo' hi' : Nat} {v : Value} {m : List (List Int)} (h : H1 w lo hi v m) (g1 : lo' ≤ lo) (g2 : hi ≤ hi') : H1 w lo' hi' v m := by
 obtain ⟨vs, h1, h2, hd⟩ := h
 exact ⟨vs, h1.wide g1 g2, fun i u r a b => (h2 i u r a b).wide g1 g2, hd⟩
theorem S9.open {w : World} {v : Value} {m : List (List Int)} (h : S9 w v m) : ∃ a cap, v = .slice a m.length cap ∧ m.length ≤ 9223372036854775807 ∧
  ∀ i (hi : i < m.length), ∃ b off a' c', a = some ⟨b, off, none⟩ ∧ b < w.heap.size ∧ w.cell? ⟨b, off + i, none⟩ = some (.slice a' m[i].length c') ∧ H4 w (.slice a' m[i].length c') m[i].length 1 (ints m[i]) := by
 obtain ⟨vs, h1, h2⟩ := h
 obtain ⟨a, cap, hv, hc, hm, hm2, hcell⟩ := h1.open1
 refine ⟨a, cap, hv, hm, fun i hi => ?_⟩
 obtain ⟨b, off, ha, hb, hx⟩ := hcell i hi
 have hl : i < vs.length := by rw [h1.1]; omega
 rw [bo2 hl] at hx
 have hr := h2 i _ _ (bo2 hl) (bo2 hi)
 obtain ⟨a', c', hs⟩ := hr.form
 rw [hs] at hx hr
 exact ⟨b, off, a', c', ha, hb, hx, hr⟩
theorem ae1 {B : Nat} {w w1 w2 : World} (k : Below w1.heap.size w1 w2) (h : Below B w w1) (hB : B ≤ w.heap.size) : Below B w w2 :=
 h.trans (k.mono (bT4 hB h.size))
theorem bA3 {w : World} {b : Nat} {x y z : Value} (L : C2 w b [x, y, z]) : ∀ W', Below w.heap.size w W' → W'.cell? ⟨b, 0, none⟩ = some x ∧ W'.cell? ⟨b, 1, none⟩ = some y ∧ W'.cell? ⟨b, 2, none⟩ = some z := by
 intro W' hb
 have L' := L.below hb L.lt
 exact ⟨by simpa using L'.cell 0, by simpa using L'.cell 1, by simpa using L'.cell 2⟩
end Go.Proofs.Ytmokkddidcmglaa

namespace Go.Proofs.Ytmokkddidcmglaa
def am0 (b : Bool) : Int := if b then 1 else 0
def G5 (k a b : Int) : Int :=
 if k = 4 then (a + b).tmod 256 else if k = 5 then (a - b + 256).tmod 256 else if k = 6 then (a * b).tmod 256
 else if k = 7 then ((a.toNat &&& b.toNat : Nat) : Int) else if k = 8 then ((a.toNat ^^^ b.toNat : Nat) : Int) else if k = 9 then am0 (decide (a = b)) else am0 (decide (a < b))
theorem al9 (b : Bool) : 0 ≤ am0 b ∧ am0 b ≤ 255 := by cases b <;> simp [am0]
theorem aM0 {k a b : Int} (h1 : 0 ≤ a) (h2 : a ≤ 255) (h3 : 0 ≤ b) (h4 : b ≤ 255) : 0 ≤ G5 k a b ∧ G5 k a b ≤ 255 := by
 unfold G5
 have hm : 0 ≤ a * b := Int.mul_nonneg h1 h3
 have ha : a.toNat < 2 ^ 8 := by omega
 have hb : b.toNat < 2 ^ 8 := by omega
 have hand : a.toNat &&& b.toNat < 2 ^ 8 := Nat.and_lt_two_pow _ hb
 have hxor : a.toNat ^^^ b.toNat < 2 ^ 8 := Nat.xor_lt_two_pow ha hb
 split
 ·rw [Int.tmod_eq_emod_of_nonneg (by omega)]; omega
 split
 ·rw [Int.tmod_eq_emod_of_nonneg (by omega)]; omega
 split
 ·rw [Int.tmod_eq_emod_of_nonneg hm]; omega
 split
 ·omega
 split
 ·omega
 split
 ·exact al9 _
 ·exact al9 _
theorem aS6 {c : d7} {x : c7} (h : y8 c x = true) :
  (x.op = 1 → 0 ≤ x.a ∧ x.a < 14) ∧ (x.op = 11 → 0 ≤ x.a ∧ x.a < 14) ∧
  (x.op = 2 → (0 ≤ x.a ∧ x.a < 14) ∧ 0 ≤ x.b ∧ x.b < c.vars.length) ∧
  (x.op = 3 → (0 ≤ x.a ∧ x.a < c.vars.length) ∧ 0 ≤ x.b ∧ x.b < 14) ∧
  (x.op = 4 → (0 ≤ x.a ∧ x.a < 14) ∧ (0 ≤ x.b ∧ x.b < c.arrays.length) ∧ 0 ≤ x.c ∧ x.c < 14) ∧
  (x.op = 5 → (0 ≤ x.a ∧ x.a < c.arrays.length) ∧ (0 ≤ x.b ∧ x.b < 14) ∧ 0 ≤ x.c ∧ x.c < 14) ∧
  (x.op = 6 → (0 ≤ x.a ∧ x.a < 14) ∧ (0 ≤ x.c ∧ x.c < 14) ∧ 0 ≤ x.d ∧ x.d < 14) ∧
  (x.op = 7 → (0 ≤ x.a ∧ x.a < 14) ∧ (0 ≤ x.b ∧ x.b < 14) ∧ (0 ≤ x.c ∧ x.c < 14) ∧ 0 ≤ x.d ∧ x.d < 14) ∧
  (x.op = 9 → 0 ≤ x.a ∧ x.a < 14) ∧ (x.op = 10 → 0 ≤ x.a ∧ x.a < 14) := by
 unfold y8 at h
 simp only [bR6, decide_eq_true_eq] at h
 obtain ⟨_, ⟨⟨ha, hb⟩, hc⟩, hd⟩ := h
 refine ⟨fun e => ?_, fun e => ?_, fun e => ?_, fun e => ?_, fun e => ?_, fun e => ?_, fun e => ?_, fun e => ?_, fun e => ?_, fun e => ?_⟩
 all_goals
  rw [e] at ha hb hc hd
  simp [e6, C3, J9] at ha hb hc hd
  omega
def al6 (c : d7) (i : Nat) : c7 := c.list.getD i ⟨0, 0, 0, 0, 0⟩
theorem a48 {c : d7} {i : Nat} (h : i < c.list.length) : al6 c i = c.list[i] := by simp [al6, h]
def isJ (c : d7) (x : Int) : Bool := decide ((al6 c x.toNat).op = 8)
def bh7 (c : d7) : Nat → Int → Int
 | 0, x => x
 | k + 1, x => if isJ c x = true then bh7 c k (al6 c x.toNat).a else x
def bz0 (c : d7) (t : Int) : Int := if isJ c (bh7 c c.list.length t) = true then t else bh7 c c.list.length t
def bK1 (x : c7) (t : Int) : c7 := if x.op = 8 then { x with a := t } else if x.op = 9 ∨ x.op = 10 then { x with b := t } else x
def bL2 (c : d7) (x : c7) : c7 := if 0 ≤ C6 x then bK1 x (bz0 c (C6 x)) else x
def bB8 (c : d7) : d7 := { c with list := c.list.map (bL2 c) }
def bG0 (c : d7) (i : Nat) : Bool := decide ((al6 c i).op = 8) && decide ((al6 c i).a = (i : Int) + 1)
noncomputable def kpB (c : d7) (i : Nat) : Bool := (E4 c).getD i false && !bG0 c i
noncomputable def kpL (c : d7) : List Bool := (bS8 c.list.length).map (kpB c)
noncomputable def bK3 (c : d7) (k : Nat) : List Bool := (bS8 c.list.length).map fun i => (E4 c).getD i false && !(decide (i < k) && bG0 c i)
def plc (ks : List Bool) (k : Nat) : Nat := (ks.take k).count true
def trI (ks : List Bool) (x : c7) : c7 := if 0 ≤ C6 x then bK1 x (plc ks (C6 x).toNat : Int) else x
def bB5 (c : d7) (ks : List Bool) (k : Nat) : List c7 := (bS8 k).flatMap fun i => if ks.getD i false = true then [trI ks (al6 c i)] else []
noncomputable def bB6 (c : d7) : d7 := { c with list := bB5 c (kpL c) c.list.length }
theorem a37 {c : d7} {i : Nat} (h : i < c.list.length) : (E4 c).getD i false = true ↔ Rc c (i : Int) := by
 simp [E4, h]
noncomputable def bx5 (c : d7) : d7 := bB6 (bB8 c)
inductive Opt : d7 → d7 → Prop
 | stop {c : d7} : bx5 c = c → Opt c c
 | step {c r : d7} : bx5 c ≠ c → Opt (bx5 c) r → Opt c r
open Classical in
noncomputable def bR3 (c : d7) : Nat := 2 * c.list.length + (if bB8 c = c then 0 else 1)
open Classical in
noncomputable def bR4 (c : d7) : d7 := if h : ∃ r, Opt c r then Classical.choose h else c
end Go.Proofs.Ytmokkddidcmglaa

namespace Go.Proofs.Ytmokkddidcmglaa
open Go Go.RowKit
theorem aF5 (a b : Nat) (ha : a < 9223372036854775808) (hb : b < 9223372036854775808) : bits .and .i64 (a : Int) (b : Int) = ((a &&& b : Nat) : Int) := by
 have hx : a &&& b < 2 ^ 63 := Nat.and_lt_two_pow _ (by omega)
 have h1 : (BitVec.ofInt 64 (a : Int)).toNat = a := by
  rw [BitVec.ofInt_natCast, BitVec.toNat_ofNat]; exact Nat.mod_eq_of_lt (by omega)
 have h2 : (BitVec.ofInt 64 (b : Int)).toNat = b := by
  rw [BitVec.ofInt_natCast, BitVec.toNat_ofNat]; exact Nat.mod_eq_of_lt (by omega)
 show IntKind.i64.wrap ((BitVec.ofInt 64 (a : Int) &&& BitVec.ofInt 64 (b : Int)).toNat : Int) = _
 rw [BitVec.toNat_and, h1, h2, IntKind.wrap_i64]
 omega
theorem aF3 (a b : Nat) (ha : a < 9223372036854775808) (hb : b < 9223372036854775808) : bits .xor .i64 (a : Int) (b : Int) = ((a ^^^ b : Nat) : Int) := by
 have hx : a ^^^ b < 2 ^ 63 := Nat.xor_lt_two_pow (by omega) (by omega)
 have h1 : (BitVec.ofInt 64 (a : Int)).toNat = a := by
  rw [BitVec.ofInt_natCast, BitVec.toNat_ofNat]; exact Nat.mod_eq_of_lt (by omega)
 have h2 : (BitVec.ofInt 64 (b : Int)).toNat = b := by
  rw [BitVec.ofInt_natCast, BitVec.toNat_ofNat]; exact Nat.mod_eq_of_lt (by omega)
 show IntKind.i64.wrap ((BitVec.ofInt 64 (a : Int) ^^^ BitVec.ofInt 64 (b : Int)).toNat : Int) = _
 rw [BitVec.toNat_xor, h1, h2, IntKind.wrap_i64]
 omega
theorem aF6 {a b : Int} (h1 : 0 ≤ a) (h2 : a ≤ 255) (h3 : 0 ≤ b) (h4 : b ≤ 255) : bits .and .i64 a b = ((a.toNat &&& b.toNat : Nat) : Int) := by
 rw [← aF5 _ _ (by omega) (by omega), Int.toNat_of_nonneg h1, Int.toNat_of_nonneg h3]
theorem aF4 {a b : Int} (h1 : 0 ≤ a) (h2 : a ≤ 255) (h3 : 0 ≤ b) (h4 : b ≤ 255) : bits .xor .i64 a b = ((a.toNat ^^^ b.toNat : Nat) : Int) := by
 rw [← aF3 _ _ (by omega) (by omega), Int.toNat_of_nonneg h1, Int.toNat_of_nonneg h3]
theorem at1 (b : Bool) (w : World) : Calls Try.prog 106 #[.bool b] w fun e w' => e = .returned (.int .i64 (am0 b)) ∧ w = w' := by
 cases b
 all_goals
  go_enter Try.func106, Try.ntmps106
  go_wp2_with fail
  go_ret
  exact ⟨rfl, rfl⟩
theorem aE0 (k a b : Int) (w : World) (h1 : 0 ≤ a) (h2 : a ≤ 255) (h3 : 0 ≤ b) (h4 : b ≤ 255) : Calls Try.prog 71 #[.int .i64 k, .int .i64 a, .int .i64 b] w fun e w' => e = .returned (.int .i64 (G5 k a b)) ∧ w = w' := by
 have hm : 0 ≤ a * b := Int.mul_nonneg h1 h3
 have hm2 : a * b ≤ 65025 := by
  have := Int.mul_le_mul h2 h4 h3 (by omega : (0 : Int) ≤ 255)
  omega
 by_cases k4 : k = 4
 ·subst k4
  have HV : Hid (G5 4 a b = (a + b).tmod 256) := by unfold Hid G5; simp
  go_enter Try.func71, Try.ntmps71
  go_wp2_with fail
  go_ret
  exact ⟨M8 (by rw [HV.out]; exact (Int.tmod_eq_emod_of_nonneg (by first | assumption | omega)).symm), rfl⟩
 by_cases k5 : k = 5
 ·subst k5
  have HV : Hid (G5 5 a b = (a - b + 256).tmod 256) := by unfold Hid G5; simp
  go_enter Try.func71, Try.ntmps71
  go_wp2_with fail
  go_ret
  exact ⟨M8 (by rw [HV.out]; exact (Int.tmod_eq_emod_of_nonneg (by first | assumption | omega)).symm), rfl⟩
 by_cases k6 : k = 6
 ·subst k6
  have HV : Hid (G5 6 a b = (a * b).tmod 256) := by unfold Hid G5; simp
  go_enter Try.func71, Try.ntmps71
  go_wp2_with fail
  go_ret
  exact ⟨M8 (by rw [HV.out]; exact (Int.tmod_eq_emod_of_nonneg (by first | assumption | omega)).symm), rfl⟩
 by_cases k7 : k = 7
 ·subst k7
  have HV : Hid (G5 7 a b = bits .and .i64 a b) := by unfold Hid; rw [aF6 h1 h2 h3 h4]; unfold G5; simp
  go_enter Try.func71, Try.ntmps71
  go_wp2_with fail
  go_ret
  exact ⟨M8 (by rw [HV.out]), rfl⟩
 by_cases k8 : k = 8
 ·subst k8
  have HV : Hid (G5 8 a b = bits .xor .i64 a b) := by unfold Hid; rw [aF4 h1 h2 h3 h4]; unfold G5; simp
  go_enter Try.func71, Try.ntmps71
  go_wp2_with fail
  go_ret
  exact ⟨M8 (by rw [HV.out]), rfl⟩
 have HK := show Hid _ from And.intro k4 (And.intro k5 (And.intro k6 (And.intro k7 k8)))
 have p4 : (k == 4) = false := by simp [k4]
 have p5 : (k == 5) = false := by simp [k5]
 have p6 : (k == 6) = false := by simp [k6]
 have p7 : (k == 7) = false := by simp [k7]
 have p8 : (k == 8) = false := by simp [k8]
 clear k4 k5 k6 k7 k8
 by_cases k9 : k = 9
 ·subst k9
  have HV : Hid (G5 9 a b = am0 (decide (a = b))) := by unfold Hid G5; simp
  clear hm hm2
  go_enter Try.func71, Try.ntmps71
  go_wp2_with fail
  refine (at1 _ _).mono ?_
  rintro x w1 ⟨rfl, rfl⟩
  go_wp2_with fail
  go_ret
  exact ⟨M8 (by rw [HV.out]; congr 1), rfl⟩
 ·have HV : Hid (G5 k a b = am0 (decide (a < b))) := by
   obtain ⟨k4, k5, k6, k7, k8⟩ := HK.out
   unfold Hid G5; rw [if_neg k4, if_neg k5, if_neg k6, if_neg k7, if_neg k8, if_neg k9]
  have p9 : (k == 9) = false := by simp [k9]
  clear hm hm2 k9
  go_enter Try.func71, Try.ntmps71
  go_wp2_with fail
  refine (at1 _ _).mono ?_
  rintro x w1 ⟨rfl, rfl⟩
  go_wp2_with fail
  go_ret
  exact ⟨M8 (by rw [HV.out]), rfl⟩
theorem as9 (p : c7 → Bool) (f : FuncId) (q : Value) (v : Value) (xs : List c7) (w : World) (h : aj9 w v xs) (he : ∀ args w, (callFunc f args).run Try.prog w = .ok (.enter f args) w)
  (hf : ∀ x w', Below w.heap.size w w' → Calls Try.prog f #[x.v, q] w' fun e w'' => e = .returned (.bool (p x)) ∧ Below w'.heap.size w' w'') :
  Calls Try.prog 119 #[v, .func (.func f) #[] #[q]] w fun e w' => ∃ r : Int, e = .returned (.int .i64 r) ∧ decide (0 ≤ r) = xs.any p ∧ Below w.heap.size w w' := by
 obtain ⟨a1, c1, rfl, -, hm1, -, hc1⟩ := h.ins
 have HF := show Hid _ from hf
 clear h hf
 go_enter Try.func119, Try.ntmps119
 go_wp2_with fail
 go_loopw [5, 8] (fun _ i wr => ∃ k : Nat, k ≤ xs.length ∧ i = .int .i64 k ∧ (xs.take k).any p = false ∧ Below w.heap.size w wr) (fun _ i _ => xs.length - (intOf i).toNat)
 case atStart => exact ⟨0, bU8 _, rfl, rfl, Below.refl _ _⟩
 case round =>
  obtain ⟨k, hk, rfl, ha, hb⟩ := hrel
  have HA := show Hid _ from ha
  clear ha
  by_cases hlt : k < xs.length
  ·obtain ⟨b1, o1, rfl, hb1, i0, i1, i2, i3, i4⟩ := hc1 k hlt
   rw [← (S8 hb).1 _ _ hb1] at i0 i1 i2 i3 i4
   clear hc1
   cases hp : p xs[k]
   all_goals
    have HP := show Hid _ from hp
    clear hp
    go_wp2_with fail
    refine (HF.out xs[k] _ hb).mono ?_
    rintro e w1 ⟨rfl, hb2⟩
    rw [HP.out]
    go_wp2_with fail
   ·go_roundw
    case rel => exact ⟨k + 1, by omega, by go_num, by rw [x5 _ _ hlt, List.any_append, HA.out]; simp [HP.out], hb.trans (hb2.mono hb.size)⟩
    case measure => simp [intOf]; omega
   ·go_ret
    exact ⟨_, rfl, by rw [decide_eq_true (by omega)]; symm; rw [List.any_eq_true]; exact ⟨_, bS9 hlt, HP.out⟩, hb.trans (hb2.mono hb.size)⟩
  ·go_wp2_with fail
   go_ret
   refine ⟨_, rfl, ?_, hb⟩
   have := HA.out
   rw [bT9 (by omega)] at this
   rw [this]; rfl
theorem ah2 (p : c7 → Bool) (f : FuncId) (q : Value) (v : Value) (xs : List c7) (w : World) (h : aj9 w v xs) (he : ∀ args w, (callFunc f args).run Try.prog w = .ok (.enter f args) w)
  (hf : ∀ x w', Below w.heap.size w w' → Calls Try.prog f #[x.v, q] w' fun e w'' => e = .returned (.bool (p x)) ∧ Below w'.heap.size w' w'') :
  Calls Try.prog 83 #[v, .func (.func f) #[] #[q]] w fun e w' => e = .returned (.bool (xs.any p)) ∧ Below w.heap.size w w' := by
 obtain ⟨a1, c1, rfl, -⟩ := h.open
 have HF := show Hid _ from hf
 have HE := show Hid _ from he
 clear hf he
 go_enter Try.func83, Try.ntmps83
 go_wp2_with fail
 refine (as9 p f q _ xs _ h HE.out HF.out).mono ?_
 rintro e w1 ⟨r, rfl, hr, hb⟩
 have HR := show Hid _ from hr
 clear hr
 go_wp2_with fail
 go_ret
 exact ⟨o0 HR.out, hb⟩
theorem aS9 (op : Int) (w : World) :
  Calls Try.prog 120 #[.int .i64 op] w fun e w' => e = .returned (.string ⟨(I5 op).toArray⟩) ∧ Below w.heap.size w w' := by
 by_cases h : 1 ≤ op ∧ op ≤ 13
 ·obtain ⟨h1, h2⟩ := h
  have h : op = 1 ∨ op = 2 ∨ op = 3 ∨ op = 4 ∨ op = 5 ∨ op = 6 ∨ op = 7 ∨ op = 8 ∨ op = 9 ∨ op = 10 ∨ op = 11 ∨ op = 12 ∨ op = 13 := by omega
  clear h1 h2
  rcases h with rfl | rfl | rfl | rfl | rfl | rfl | rfl | rfl | rfl | rfl | rfl | rfl | rfl
  all_goals
   go_enter Try.func120, Try.ntmps120
   go_wp2_with fail
   refine (A1 _ 1 13 _).mono ?_
   rintro e w1 ⟨rfl, rfl⟩
   go_wp2_with fail
   go_ret
   exact ⟨by simp [I5], by go_grown⟩
 ·have hF : Hid (I5 op = []) := ay4 h
  have hb : (decide ((1 : Int) ≤ op) && decide (op ≤ 13)) = false := by
   rw [Bool.eq_false_iff]; simp only [ne_eq, bR6, decide_eq_true_eq]; exact h
  have HB := show Hid _ from hb
  clear h hb
  go_enter Try.func120, Try.ntmps120
  go_wp2_with fail
  refine (A1 _ 1 13 _).mono ?_
  rintro e w1 ⟨rfl, rfl⟩
  rw [HB.out]
  go_wp2_with fail
  go_ret
  exact ⟨by rw [hF.out]; rfl, Below.refl _ _⟩
theorem aL7 (x : c7) (w : World) :
  Calls Try.prog 121 #[x.v] w fun e w' => ∃ u, e = .returned u ∧ A9 w' w.heap.size w'.heap.size 3 1 u 4 (ints [x.a, x.b, x.c, x.d]) ∧ Below w.heap.size w w' := by
 obtain ⟨x0, x1, x2, x3, x4⟩ := x
 go_enter Try.func121, Try.ntmps121
 go_wp2_with fail
 go_ret
 refine ⟨_, rfl, (y6 _ #[.int .i64 x1, .int .i64 x2, .int .i64 x3, .int .i64 x4] 4 1 _ (by simp) rfl (by omega)).wide (by simp) (by simp), by go_grown⟩
theorem aE3 (v1 v2 v3 : Value) (c : d7) (kd : UInt8) (n : Int) (w : World) (h1 : H4 w v1 c.vars.length 1 (ints c.vars)) (h2 : H4 w v2 c.arrays.length 1 (ints c.arrays)) (h3 : aj9 w v3 c.list) :
  Calls Try.prog 122 #[.agg #[v1, v2, v3], .int .u8 kd.toNat, .int .i64 n] w fun e w' => e = .returned (.bool (G3 c kd n)) ∧ Below w.heap.size w w' := by
 obtain ⟨a1, k1, rfl, -, q1, -, -⟩ := h1.open1
 obtain ⟨a2, k2, rfl, -, q2, -, -⟩ := h2.open1
 obtain ⟨a3, k3, rfl, -, q3, -, -⟩ := h3.open
 have hk : kd.toNat < 256 := kd.toNat_lt
 have HK : Hid (∀ m : UInt8, (kd = m) = ((kd.toNat : Int) = (m.toNat : Int))) := fun m => by
  rw [eq_iff_iff]
  constructor
  ·rintro rfl; rfl
  ·intro h; exact UInt8.toNat_inj.1 (by omega)
 clear h1 h2 h3
 obtain ⟨z, hz⟩ : ∃ z, z = kd.toNat := ⟨_, rfl⟩
 rw [← hz] at hk ⊢
 have HZ := show Hid _ from hz
 clear hz
 go_enter Try.func122, Try.ntmps122
 go_wp2_with (go_at_call 69; refine (A1 _ _ _ _).mono ?_; rintro e w1 ⟨rfl, rfl⟩)
 all_goals go_ret
 all_goals refine ⟨o0 ?_, by go_grown⟩
 all_goals unfold G3
 all_goals simp only [HK.out, ← HZ.out, show (UInt8.toNat 114) = 114 from rfl, show (UInt8.toNat 110) = 110 from rfl, show (UInt8.toNat 118) = 118 from rfl, show (UInt8.toNat 97) = 97 from rfl, show (UInt8.toNat 111) = 111 from rfl, show (UInt8.toNat 105) = 105 from rfl]
 all_goals clear HK HZ hk q1 q2 q3
 all_goals simp_all
 all_goals (rw [bT5]; simp)
theorem aE1 (v : Value) (c : d7) (x : c7) (w : World) (h : z6 w v c) :
  Calls Try.prog 85 #[v, x.v] w fun e w' => e = .returned (.bool (y8 c x)) ∧ Below w.heap.size w w' := by
 obtain ⟨v1, v2, v3, rfl, h1, h2, h3⟩ := h
 obtain ⟨W, hW⟩ : ∃ W, W = ((w.alloc (.cells #[v1, v2, v3] 50)).alloc (.cells #[.int .i64 x.op, .int .i64 x.a, .int .i64 x.b, .int .i64 x.c, .int .i64 x.d] 122)) := ⟨_, rfl⟩
 have B0 : Below w.heap.size w W := by rw [hW]; go_grown
 have L1 : C2 W w.heap.size [v1, v2, v3] := by rw [hW]; exact (C2.new w [v1, v2, v3] _).alloc _
 have L2 : C2 W (w.heap.size + 1) [.int .i64 x.op, .int .i64 x.a, .int .i64 x.b, .int .i64 x.c, .int .i64 x.d] := by rw [hW]; exact C2.new' (w.alloc _) [.int .i64 x.op, .int .i64 x.a, .int .i64 x.b, .int .i64 x.c, .int .i64 x.d] _ (by simp)
 go_enter Try.func85, Try.ntmps85
 go_wp2_with fail
 rw [← hW]
 clear hW
 refine (aS9 x.op W).mono ?_
 rintro e w1 ⟨rfl, b1⟩
 replace L1 := L1.below b1 L1.lt
 replace L2 := L2.below b1 L2.lt
 have y0 := L2.cell 0
 have y1 := L2.cell 1
 have y2 := L2.cell 2
 have y3 := L2.cell 3
 have y4 := L2.cell 4
 simp at y0 y1 y2 y3 y4
 go_wp2_with fail
 refine (aL7 x _).mono ?_
 rintro e w2 ⟨u, rfl, o2, b2⟩
 replace L1 := L1.below b2 L1.lt
 have B2 := (B0.trans (b1.mono B0.size)).trans (b2.mono (by have := B0.size; have := b1.size; omega))
 obtain ⟨g, cap, rfl, -, -, hg, -, -, -, hp⟩ := o2.open (by omega)
 clear y0 y1 y2 y3 y4 L2 o2
 by_cases hop : 1 ≤ x.op ∧ x.op ≤ 13
 ·have hR : Hid (y8 c x = ar1 c (I5 x.op) [x.a, x.b, x.c, x.d] 4) := aS8 c x hop
  have hkl := bl3 hop
  obtain ⟨kinds, hkinds⟩ : ∃ kinds, kinds = I5 x.op := ⟨_, rfl⟩
  obtain ⟨parts, hparts⟩ : ∃ parts, parts = [x.a, x.b, x.c, x.d] := ⟨_, rfl⟩
  rw [← hkinds] at hkl ⊢
  rw [← hkinds] at hR
  rw [← hparts] at hR hp
  have hpl : parts.length = 4 := by rw [hparts]; rfl
  clear hkinds hparts hop
  have HPL := show Hid _ from hpl
  clear hpl
  have hne : kinds.isEmpty = false := by
   rw [List.isEmpty_eq_false_iff]; intro h; rw [h] at hkl; simp at hkl
  go_wp2_with fail
  go_loopw [14] (fun i wr => ∃ k : Nat, k ≤ 4 ∧ i = .int .i64 k ∧ ar1 c kinds parts k = true ∧ Below w2.heap.size w2 wr) (fun i _ => 4 - (intOf i).toNat)
  case atStart => exact ⟨0, by omega, rfl, rfl, Below.refl _ _⟩
  case round =>
   obtain ⟨k, hk, rfl, ha, hb⟩ := hrel
   have HA := show Hid _ from ha
   clear ha
   replace L1 := L1.below hb L1.lt
   by_cases hlt : k < 4
   ·have x0 := L1.cell 0
    have x1 := L1.cell 1
    have x2 := L1.cell 2
    simp only [bV0, List.getElem?_cons_succ] at x0 x1 x2
    have z0 := fun X => A8 x0 X
    have z1 := fun X => A8 x1 X
    have z2 := fun X => A8 x2 X
    have hpk : k < parts.length := by rw [HPL.out]; exact hlt
    have p0 : wr.cell? ⟨g, k, none⟩ = some (.int .i64 parts[k]) := by
     rw [(S8 hb).1 _ _ hg]; exact hp k _ (by simp [hpk])
    have hkk : k < kinds.length := by rw [hkl]; exact hlt
    have HS := show Hid _ from az2 c kinds parts k
    have HG := show Hid (parts.getD k 0 = parts[k]) from by simp [Hid, hpk]
    have HKD := show Hid (kinds.getD k 0 = kinds[k]) from by simp [Hid, hkk]
    have BW := B2.trans (hb.mono B2.size)
    clear x0 x1 x2 hp
    cases hr : G3 c kinds[k] parts[k]
    all_goals
     have HR := show Hid _ from hr
     clear hr
     have HC : Hid (∀ X, Calls Try.prog 122 #[.agg #[v1, v2, v3], .int .u8 kinds[k].toNat, .int .i64 parts[k]] (wr.ext X) fun e w'' => e = .returned (.bool _) ∧ ∃ Y, w'' = wr.ext Y) :=
      fun X => Calls.ext_of' ((aE3 v1 v2 v3 c kinds[k] parts[k] _ ((h1.below BW).below (x8 _ X)) ((h2.below BW).below (x8 _ X)) ((h3.below BW).below (x8 _ X))).mono fun e w' h => by rw [HR.out] at h; exact h)
     go_wp2_with fail
     refine F0 (by kernel_rfl) (by kernel_rfl) ?_
     repeat (any_goals (first | go_big_quiet_step ((go_at_call 122; exact HC.out _)) | quiet_step ((go_at_call 122; exact HC.out _))))
     refine wpQuiet_nil ?_
     rintro _ ⟨X, rfl⟩
     have hbX := hb.trans ((x8 wr X).mono hb.size)
     go_wp2_with fail
    ·go_ret
     exact ⟨o0 (by rw [hR.out, a39 4 hlt (by rw [HG.out, HKD.out, HR.out])]), B2.trans (hbX.mono B2.size)⟩
    ·exact ⟨⟨k + 1, by omega, by go_num, by rw [HS.out, HA.out, HG.out, HKD.out, HR.out]; rfl, hbX⟩, by simp [intOf]; omega⟩
   ·go_wp2_with fail
    go_ret
    obtain rfl : k = 4 := by omega
    exact ⟨o0 (by rw [hR.out, HA.out]), B2.trans (hb.mono B2.size)⟩
 ·have hR : Hid (y8 c x = false) := by
   unfold Hid y8
   rcases Classical.not_and_iff_not_or_not.1 hop with h | h
   ·rw [decide_eq_false h]; rfl
   ·rw [decide_eq_false h]; simp
  rw [ay4 hop]
  have p0 := hp 0 (.int .i64 x.a) (by simp)
  clear hop hp h1 h2 h3
  go_wp2_with fail
  go_loopw [14] (fun i wr => i = .int .i64 0 ∧ w2 = wr) (fun i _ => 0)
  case atStart => exact ⟨rfl, rfl⟩
  case round =>
   obtain ⟨rfl, rfl⟩ := hrel
   go_wp2_with fail
   refine F0 (by kernel_rfl) (by kernel_rfl) ?_
   repeat (any_goals (first | go_big_quiet_step ((fail)) | quiet_step ((fail))))
   refine wpQuiet_nil ?_
   rintro _ ⟨X, rfl⟩
   have hbX := B2.trans ((x8 w2 X).mono B2.size)
   go_wp2_with fail
   go_ret
   exact ⟨o0 hR.out.symm, hbX⟩
theorem am9 (v : Value) (c : d7) (x : c7) (b : Nat) (v1 v2 v3 : Value) (w : World) (hv : v = .agg #[v1, v2, v3]) (h : z6 w v c) (hb : C2 w b [v1, v2, v3]) :
  Calls Try.prog 84 #[x.v, .pointer (some ⟨b, 0, none⟩)] w fun e w' => e = .returned (.bool (!y8 c x)) ∧ Below w.heap.size w w' := by
 subst hv
 obtain ⟨W, hW⟩ : ∃ W, W = (w.alloc (.cells #[.int .i64 x.op, .int .i64 x.a, .int .i64 x.b, .int .i64 x.c, .int .i64 x.d] 122)) := ⟨_, rfl⟩
 have B0 : Below w.heap.size w W := by rw [hW]; go_grown
 have L1 : C2 W b [v1, v2, v3] := hb.below B0 hb.lt
 have L2 : C2 W w.heap.size [.int .i64 x.op, .int .i64 x.a, .int .i64 x.b, .int .i64 x.c, .int .i64 x.d] := by rw [hW]; exact C2.new w [.int .i64 x.op, .int .i64 x.a, .int .i64 x.b, .int .i64 x.c, .int .i64 x.d] _
 have x0 := L1.cell 0
 have x1 := L1.cell 1
 have x2 := L1.cell 2
 have y0 := L2.cell 0
 have y1 := L2.cell 1
 have y2 := L2.cell 2
 have y3 := L2.cell 3
 have y4 := L2.cell 4
 simp at x0 x1 x2 y0 y1 y2 y3 y4
 rw [hW] at x0 x1 x2 y0 y1 y2 y3 y4
 go_enter Try.func84, Try.ntmps84
 go_wp2_with fail
 rw [← hW]
 refine (aE1 _ c x _ (h.below B0)).mono ?_
 rintro e w1 ⟨rfl, b1⟩
 clear x0 x1 x2 y0 y1 y2 y3 y4 hW
 go_wp2_with fail
 go_ret
 exact ⟨rfl, B0.trans (b1.mono B0.size)⟩
theorem aV3 (xs : List c7) (c : d7) : (xs.any fun l => !y8 c l) = !xs.all (y8 c) := by
 induction xs with
 | nil => rfl
 | cons x r ih => simp only [List.any_cons, List.all_cons, ih]; cases y8 c x <;> simp
theorem Z1 (v : Value) (c : d7) (w : World) (h : z6 w v c) :
  Calls Try.prog 47 #[v] w fun e w' => e = .returned (.bool (f8 c)) ∧ Below w.heap.size w w' := by
 have hrow := h
 obtain ⟨v1, v2, v3, rfl, h1, h2, h3⟩ := h
 have HT : Hid (f8 c = (D4 c.vars c.arrays && decide (1 ≤ c.list.length) && decide (c.list.length ≤ 400) && c.list.all (y8 c) && V3 c)) := rfl
 obtain ⟨W, hW⟩ : ∃ W, W = w.alloc (.cells #[v1, v2, v3] 50) := ⟨_, rfl⟩
 have B0 : Below w.heap.size w W := by rw [hW]; go_grown
 have L1 : C2 W w.heap.size [v1, v2, v3] := by rw [hW]; exact (C2.new w [v1, v2, v3] _)
 have hmf : ∀ fn first cap w, (Instr.makeFunc fn first cap).run Try.prog w = .ok (.func fn first cap) w := fun _ _ _ _ => rfl
 obtain ⟨a3, k3, rfl, hk3, hm3, -, hc3⟩ := h3.ins
 have x0 := L1.cell 0
 have x1 := L1.cell 1
 have x2 := L1.cell 2
 simp at x0 x1 x2
 rw [hW] at x0 x1 x2
 go_enter Try.func47, Try.ntmps47
 go_wp2_with fail
 rw [← hW] at x0 x1 x2 ⊢
 clear hW
 refine (aw4 _ _ c.vars c.arrays _ (h1.below B0) (h2.below B0)).mono ?_
 rintro e w1 ⟨rfl, rfl⟩
 cases hh : D4 c.vars c.arrays
 ·have HH := show Hid _ from hh
  clear hh hc3
  go_wp2_with fail
  go_ret
  exact ⟨o0 (by rw [HT.out, HH.out]; rfl), B0⟩
 ·have HH := show Hid _ from hh
  clear hh
  go_wp2_with fail
  refine (A1 _ 1 400 _).mono ?_
  rintro e w1 ⟨rfl, rfl⟩
  by_cases hn : (1 : Int) ≤ (c.list.length : Int) ∧ (c.list.length : Int) ≤ 400
  ·have hn' : (decide ((1 : Int) ≤ (c.list.length : Int)) && decide ((c.list.length : Int) ≤ 400)) = true := by simpa using hn
   have HN := show Hid _ from hn
   rw [hn']
   clear hn hn'
   go_wp2_with fail
   refine (ah2 (fun l => !y8 c l) 84 _ _ c.list _ (h3.below B0) (ai7 Try.func84 (by kernel_rfl) rfl) (fun x w' hb => am9 _ c x _ _ _ _ w' rfl ((hrow.below B0).below hb) (L1.below hb L1.lt))).mono ?_
   rintro e w1 ⟨rfl, b1⟩
   rw [aV3]
   have BW := B0.trans (b1.mono B0.size)
   replace L1 := L1.below b1 L1.lt
   clear x0 x1 x2
   cases ha : c.list.all (y8 c)
   ·have HA := show Hid _ from ha
    clear ha hc3
    go_wp2_with fail
    go_ret
    exact ⟨o0 (by rw [HT.out, HA.out]; simp), BW⟩
   ·have HA := show Hid _ from ha
    clear ha
    have hl : c.list.length - 1 < c.list.length := by have := HN.out; omega
    obtain ⟨b, off, rfl, hb3, i0, i1, i2, i3, i4⟩ := hc3 _ hl
    rw [← (S8 BW).1 _ _ hb3] at i0
    have x2 := L1.cell 2
    simp only [bV0, List.getElem?_cons_succ] at x2
    have hn1 : 1 ≤ c.list.length := by omega
    have hn2 : c.list.length ≤ 400 := by have := HN.out; omega
    have HL : Hid (V3 c = (decide (c.list[c.list.length - 1].op = 13) || decide (c.list[c.list.length - 1].op = 8))) := by
     unfold Hid V3
     rw [List.getLast?_eq_getElem?, bo2 hl]
    clear hc3 i1 i2 i3 i4
    have hF : Hid (f8 c = (decide (c.list[c.list.length - 1].op = 13) || decide (c.list[c.list.length - 1].op = 8))) := by
     unfold Hid; rw [HT.out, HH.out, HA.out, HL.out, decide_eq_true hn1, decide_eq_true hn2]; rfl
    go_wp2_with fail
    all_goals go_ret
    all_goals exact ⟨o0 (by rw [hF.out, bT5]; simp_all), BW⟩
  ·have hn' : (decide ((1 : Int) ≤ (c.list.length : Int)) && decide ((c.list.length : Int) ≤ 400)) = false := by
    rw [Bool.eq_false_iff]; simp only [ne_eq, bR6, decide_eq_true_eq]; exact hn
   have hF : Hid (f8 c = false) := by
    unfold Hid; rw [HT.out]
    rcases Classical.not_and_iff_not_or_not.1 hn with h | h
    ·rw [decide_eq_false (show ¬ 1 ≤ c.list.length by omega)]; simp
    ·rw [decide_eq_false (show ¬ c.list.length ≤ 400 by omega)]; simp
   rw [hn']
   clear hn hn' hc3
   go_wp2_with fail
   go_ret
   exact ⟨o0 hF.out.symm, B0⟩
theorem aC1 (v : Value) (c : d7) (x : c7) (w : World) (h : z6 w v c) :
  Calls Try.prog 87 #[v, x.v] w fun e w' => e = .returned (.bool (y8 c x)) ∧ Below w.heap.size w w' := by
 obtain ⟨v1, v2, v3, rfl, h1, h2, h3⟩ := h
 have HT : Hid (y8 c x = (decide (1 ≤ x.op) && decide (x.op ≤ 13) && Y7 c (e6 x.op) [x.a, x.b, x.c, x.d] 4)) := by
  unfold Hid y8; rw [aR3]
 by_cases hop : 1 ≤ x.op ∧ x.op ≤ 13
 ·obtain ⟨hop1, hop2⟩ := hop
  have hR : Hid (y8 c x = Y7 c (e6 x.op) [x.a, x.b, x.c, x.d] 4) := by
   unfold Hid; rw [HT.out, decide_eq_true hop1, decide_eq_true hop2]; rfl
  clear HT
  obtain ⟨W, hW⟩ : ∃ W, W = ((w.alloc (.cells #[v1, v2, v3] 50)).alloc (.cells #[.int .i64 x.op, .int .i64 x.a, .int .i64 x.b, .int .i64 x.c, .int .i64 x.d] 122)) := ⟨_, rfl⟩
  have B0 : Below w.heap.size w W := by rw [hW]; go_grown
  have L1 : C2 W w.heap.size [v1, v2, v3] := by rw [hW]; exact (C2.new w [v1, v2, v3] _).alloc _
  have L2 : C2 W (w.heap.size + 1) [.int .i64 x.op, .int .i64 x.a, .int .i64 x.b, .int .i64 x.c, .int .i64 x.d] := by rw [hW]; exact C2.new' (w.alloc _) [.int .i64 x.op, .int .i64 x.a, .int .i64 x.b, .int .i64 x.c, .int .i64 x.d] _ (by simp)
  go_enter Try.func87, Try.ntmps87
  go_wp2_with fail
  rw [← hW]
  clear hW
  refine (ac2 x.op W hop1 hop2).mono ?_
  rintro e w1 ⟨rfl, b1⟩
  replace L1 := L1.below b1 L1.lt
  replace L2 := L2.below b1 L2.lt
  have y0 := L2.cell 0
  have y1 := L2.cell 1
  have y2 := L2.cell 2
  have y3 := L2.cell 3
  have y4 := L2.cell 4
  simp at y0 y1 y2 y3 y4
  go_wp2_with fail
  refine (aC0 x _).mono ?_
  rintro e w2 ⟨u, rfl, o2, b2⟩
  replace L1 := L1.below b2 L1.lt
  have B2 := (B0.trans (b1.mono B0.size)).trans (b2.mono (by have := B0.size; have := b1.size; omega))
  obtain ⟨g, cap, rfl, -, -, hg, -, -, -, hp⟩ := o2.open (by omega)
  have hkl := M5 x.op
  obtain ⟨kinds, hkinds⟩ : ∃ kinds, kinds = e6 x.op := ⟨_, rfl⟩
  obtain ⟨parts, hparts⟩ : ∃ parts, parts = [x.a, x.b, x.c, x.d] := ⟨_, rfl⟩
  rw [← hkinds] at hkl ⊢
  rw [← hkinds] at hR
  rw [← hparts] at hR hp
  have hpl : parts.length = 4 := by rw [hparts]; rfl
  clear hkinds hparts y0 y1 y2 y3 y4 L2 o2
  have HPL := show Hid _ from hpl
  clear hpl
  go_wp2_with fail
  go_loopw [7] (fun i wr => ∃ k : Nat, k ≤ 4 ∧ i = .int .i64 k ∧ Y7 c kinds parts k = true ∧ Below w2.heap.size w2 wr) (fun i _ => 4 - (intOf i).toNat)
  case atStart => exact ⟨0, by omega, rfl, rfl, Below.refl _ _⟩
  case round =>
   obtain ⟨k, hk, rfl, ha, hb⟩ := hrel
   have HA := show Hid _ from ha
   clear ha
   replace L1 := L1.below hb L1.lt
   by_cases hlt : k < 4
   ·have x0 := L1.cell 0
    have x1 := L1.cell 1
    have x2 := L1.cell 2
    simp only [bV0, List.getElem?_cons_succ] at x0 x1 x2
    have z0 := fun X => A8 x0 X
    have z1 := fun X => A8 x1 X
    have z2 := fun X => A8 x2 X
    have hpk : k < parts.length := by rw [HPL.out]; exact hlt
    have p0 : wr.cell? ⟨g, k, none⟩ = some (.int .i64 parts[k]) := by
     rw [(S8 hb).1 _ _ hg]; exact hp k _ (by simp [hpk])
    have pX := fun X => A8 p0 X
    have HS := show Hid _ from aq9 c kinds parts k
    have hgd : parts.getD k 0 = parts[k] := by simp [hpk]
    have HG := show Hid _ from hgd
    have BW := B2.trans (hb.mono B2.size)
    clear x0 x1 x2 p0 hp hgd
    by_cases hkk : k < kinds.length
    ·have hpo : C3 c kinds k parts[k] = J9 c kinds[k] parts[k] := by simp [C3, hkk]
     have HPO := show Hid _ from hpo
     clear hpo
     have hd1 : decide (kinds.length ≤ k) = false := by simp; omega
     have hd2 : decide ((kinds.length : Int) ≤ (k : Int)) = false := by simp; omega
     cases hr : J9 c kinds[k] parts[k]
     all_goals
      have HR := show Hid _ from hr
      clear hr
      have HC : Hid (∀ X, Calls Try.prog 126 #[.agg #[v1, v2, v3], .int .u8 kinds[k].toNat, .int .i64 parts[k]] (wr.ext X) fun e w'' => e = .returned (.bool _) ∧ ∃ Y, w'' = wr.ext Y) :=
       fun X => Calls.ext_of' ((aB9 v1 v2 v3 c kinds[k] parts[k] _ ((h1.below BW).below (x8 _ X)) ((h2.below BW).below (x8 _ X)) ((h3.below BW).below (x8 _ X))).mono fun e w' h => by rw [HR.out] at h; exact h)
      go_wp2_with fail
      refine F0 (by kernel_rfl) (by kernel_rfl) ?_
      repeat (any_goals (first | go_big_quiet_step ((go_at_call 126; exact HC.out _)) | quiet_step ((go_at_call 126; exact HC.out _))))
      refine wpQuiet_nil ?_
      rintro w' ⟨X, rfl⟩
      have hbX := hb.trans ((x8 wr X).mono hb.size)
      go_wp2_with fail
     ·go_ret
      exact ⟨o0 (by rw [hR.out, ar0 4 hlt (by rw [HG.out, HPO.out, HR.out])]), B2.trans (hbX.mono B2.size)⟩
     ·exact ⟨⟨k + 1, by omega, by go_num, by rw [HS.out, HA.out, HG.out, HPO.out, HR.out]; rfl, hbX⟩, by simp [intOf]; omega⟩
    ·have hpo : C3 c kinds k parts[k] = decide (parts[k] = 0) := by simp [C3, hkk]
     have HPO := show Hid _ from hpo
     clear hpo
     have hd1 : decide (kinds.length ≤ k) = true := by simp; omega
     have hd2 : decide ((kinds.length : Int) ≤ (k : Int)) = true := by simp; omega
     have hd3 : decide (k < kinds.length) = false := by simp; omega
     have hd4 : decide ((k : Int) < (kinds.length : Int)) = false := by simp; omega
     by_cases hz : parts[k] = 0
     ·have hz1 : (parts[k] != 0) = false := by simp [hz]
      have HZ := show Hid _ from hz
      clear hz
      go_wp2_with fail
      refine F0 (by kernel_rfl) (by kernel_rfl) ?_
      repeat (any_goals (first | go_big_quiet_step (fail) | quiet_step (fail)))
      refine wpQuiet_nil ?_
      rintro w' ⟨X, rfl⟩
      have hbX := hb.trans ((x8 wr X).mono hb.size)
      go_wp2_with fail
      exact ⟨⟨k + 1, by omega, by go_num, by rw [HS.out, HA.out, HG.out, HPO.out, HZ.out]; rfl, hbX⟩, by simp [intOf]; omega⟩
     ·have hz1 : (parts[k] != 0) = true := by simp [hz]
      have HZ := show Hid (¬ parts[k] = 0) from hz
      clear hz
      go_wp2_with fail
      refine F0 (by kernel_rfl) (by kernel_rfl) ?_
      repeat (any_goals (first | go_big_quiet_step (fail) | quiet_step (fail)))
      refine wpQuiet_nil ?_
      rintro w' ⟨X, rfl⟩
      have hbX := hb.trans ((x8 wr X).mono hb.size)
      go_wp2_with fail
      go_ret
      exact ⟨o0 (by rw [hR.out, ar0 4 hlt (by rw [HG.out, HPO.out, decide_eq_false HZ.out])]), B2.trans (hbX.mono B2.size)⟩
   ·go_wp2_with fail
    go_ret
    obtain rfl : k = 4 := by omega
    exact ⟨o0 (by rw [hR.out, HA.out]), B2.trans (hb.mono B2.size)⟩
 ·have hR : Hid (y8 c x = false) := by
   unfold Hid; rw [HT.out]
   rcases Classical.not_and_iff_not_or_not.1 hop with h | h
   ·rw [decide_eq_false h]; rfl
   ·rw [decide_eq_false h]; simp
  clear HT h1 h2 h3
  have hcase : x.op < 1 ∨ (¬ x.op < 1 ∧ 13 < x.op) := by omega
  clear hop
  rcases hcase with hop | ⟨hop, hop2⟩
  all_goals
   go_enter Try.func87, Try.ntmps87
   go_wp2_with fail
   go_ret
   exact ⟨o0 hR.out.symm, by go_grown⟩
theorem aq2 (v : Value) (c : d7) (w : World) (h : z6 w v c) :
  Calls Try.prog 49 #[v] w fun e w' => e = .returned (.bool (f8 c)) ∧ Below w.heap.size w w' := by
 have hrow := h
 obtain ⟨v1, v2, v3, rfl, h1, h2, h3⟩ := h
 have HT : Hid (f8 c = (D4 c.vars c.arrays && decide (1 ≤ c.list.length) && decide (c.list.length ≤ 400) && c.list.all (y8 c) && V3 c)) := rfl
 obtain ⟨W, hW⟩ : ∃ W, W = w.alloc (.cells #[v1, v2, v3] 50) := ⟨_, rfl⟩
 have B0 : Below w.heap.size w W := by rw [hW]; go_grown
 have L1 : C2 W w.heap.size [v1, v2, v3] := by rw [hW]; exact (C2.new w [v1, v2, v3] _)
 obtain ⟨a3, k3, rfl, hk3, hm3, -, hc3⟩ := h3.ins
 go_enter Try.func49, Try.ntmps49
 go_wp2_with fail
 rw [← hW]
 clear hW
 refine (aC2 _ _ _ _ _ _ _ _ (h1.below B0) (h2.below B0)).mono ?_
 rintro e w1 ⟨rfl, b1⟩
 replace L1 := L1.below b1 L1.lt
 have B1 := B0.trans (b1.mono B0.size)
 go_wp2_with fail
 refine (af5 _ _ _ c.vars c.arrays _ (h1.below B1) (h2.below B1)).mono ?_
 rintro e w2 ⟨rfl, b2⟩
 replace L1 := L1.below b2 L1.lt
 have B2 := B1.trans (b2.mono B1.size)
 cases hh : D4 c.vars c.arrays
 ·have HH := show Hid _ from hh
  clear hh hc3
  go_wp2_with fail
  go_ret
  exact ⟨o0 (by rw [HT.out, HH.out]; rfl), B2⟩
 ·have HH := show Hid _ from hh
  clear hh
  by_cases hn : 1 ≤ c.list.length ∧ c.list.length ≤ 400
  ·obtain ⟨hn1, hn2⟩ := hn
   have x0 := L1.cell 0
   have x1 := L1.cell 1
   have x2 := L1.cell 2
   simp at x0 x1 x2
   go_wp2_with fail
   go_loopw [4] (fun i wr => ∃ k : Nat, k ≤ c.list.length ∧ i = .int .i64 k ∧ (c.list.take k).all (y8 c) = true ∧ Below w2.heap.size w2 wr) (fun i _ => c.list.length - (intOf i).toNat)
   case atStart => exact ⟨0, by omega, rfl, rfl, Below.refl _ _⟩
   case round =>
    obtain ⟨k, hk, rfl, ha, hb⟩ := hrel
    have HA := show Hid _ from ha
    clear ha x0 x1 x2
    replace L1 := L1.below hb L1.lt
    have BW := B2.trans (hb.mono B2.size)
    by_cases hlt : k < c.list.length
    ·obtain ⟨b, off, rfl, hb3, i0, i1, i2, i3, i4⟩ := hc3 k hlt
     rw [← (S8 BW).1 _ _ hb3] at i0 i1 i2 i3 i4
     have x0 := L1.cell 0
     have x1 := L1.cell 1
     have x2 := L1.cell 2
     simp only [bV0, List.getElem?_cons_succ] at x0 x1 x2
     have z0 := fun X => A8 x0 X
     have z1 := fun X => A8 x1 X
     have z2 := fun X => A8 x2 X
     have j0 := fun X => A8 i0 X
     have j1 := fun X => A8 i1 X
     have j2 := fun X => A8 i2 X
     have j3 := fun X => A8 i3 X
     have j4 := fun X => A8 i4 X
     have HS := show Hid _ from N1 (y8 c) c.list k hlt
     clear x0 x1 x2 i0 i1 i2 i3 i4 hc3
     cases hi : y8 c c.list[k]
     all_goals
      have HI := show Hid _ from hi
      clear hi
      have HC : Hid (∀ X, Calls Try.prog 87 #[.agg #[v1, v2, .slice (some ⟨b, off, none⟩) c.list.length k3], c.list[k].v] (wr.ext X) fun e w'' => e = .returned (.bool _) ∧ ∃ Y, w'' = wr.ext Y) :=
       fun X => Calls.ext_of' ((aC1 _ c c.list[k] _ ((hrow.below BW).below (x8 _ X))).mono fun e w' h => by rw [HI.out] at h; exact h)
      go_wp2_with fail
      refine F0 (by kernel_rfl) (by kernel_rfl) ?_
      repeat (any_goals (first | go_big_quiet_step ((go_at_call 87; exact HC.out _)) | quiet_step ((go_at_call 87; exact HC.out _))))
      refine wpQuiet_nil ?_
      rintro _ ⟨X, rfl⟩
      have hbX := hb.trans ((x8 wr X).mono hb.size)
      go_wp2_with fail
     ·go_ret
      exact ⟨o0 (by rw [HT.out, ag5 hlt HI.out]; simp), B2.trans (hbX.mono B2.size)⟩
     ·exact ⟨⟨k + 1, by omega, by go_num, by rw [HS.out, HA.out, HI.out]; rfl, hbX⟩, by simp [intOf]; omega⟩
    ·have hl : c.list.length - 1 < c.list.length := by omega
     obtain ⟨b, off, rfl, hb3, i0, i1, i2, i3, i4⟩ := hc3 _ hl
     rw [← (S8 BW).1 _ _ hb3] at i0
     have x2 := L1.cell 2
     simp only [bV0, List.getElem?_cons_succ] at x2
     have ec : ((c.list.length : Int) - 1) = ((c.list.length - 1 : Nat) : Int) := by omega
     have EC := show Hid _ from ec
     have HL : Hid (V3 c = (decide (c.list[c.list.length - 1].op = 13) || decide (c.list[c.list.length - 1].op = 8))) := by
      unfold Hid V3
      rw [List.getLast?_eq_getElem?, bo2 hl]
     clear hc3 ec i1 i2 i3 i4
     have HA' := show Hid (c.list.all (y8 c) = true) from by have := HA.out; rwa [bT9 (by omega)] at this
     have hF : Hid (f8 c = (decide (c.list[c.list.length - 1].op = 13) || decide (c.list[c.list.length - 1].op = 8))) := by
      unfold Hid; rw [HT.out, HH.out, HA'.out, HL.out, decide_eq_true hn1, decide_eq_true hn2]; rfl
     go_wp2_with fail
     all_goals go_ret
     all_goals exact ⟨o0 (by rw [hF.out, bT5]; simp_all), BW⟩
  ·have hF : Hid (f8 c = false) := by
    unfold Hid; rw [HT.out]
    rcases Classical.not_and_iff_not_or_not.1 hn with h | h
    ·rw [decide_eq_false h]; simp
    ·rw [decide_eq_false h]; simp
   have hcase : c.list.length < 1 ∨ (¬ c.list.length < 1 ∧ 400 < c.list.length) := by omega
   clear hn hc3 HT
   rcases hcase with hn | ⟨hn, hn2⟩
   all_goals
    go_wp2_with fail
    go_ret
    exact ⟨o0 hF.out.symm, B2⟩
theorem aI6 (v : Value) (c : d7) (i : Nat) (w : World) (h : z6 w v c) (hi : i < c.list.length) :
  Calls Try.prog 88 #[v, .int .i64 i] w fun e w' => ∃ u, e = .returned u ∧ A9 w' w.heap.size w'.heap.size 3 1 u (J2 c.list[i] i).length (ints (J2 c.list[i] i)) ∧ Below w.heap.size w w' := by
 obtain ⟨v1, v2, v3, rfl, h1, h2, h3⟩ := h
 obtain ⟨a3, k3, rfl, hk3, hm3, -, hc3⟩ := h3.ins
 obtain ⟨W, hW⟩ : ∃ W, W = w.alloc (.cells #[v1, v2, .slice a3 c.list.length k3] 50) := ⟨_, rfl⟩
 have B0 : Below w.heap.size w W := by rw [hW]; go_grown
 have s0 := B0.size
 have L1 : C2 W w.heap.size [v1, v2, .slice a3 c.list.length k3] := by rw [hW]; exact (C2.new w [v1, v2, .slice a3 c.list.length k3] _)
 obtain ⟨b, off, rfl, hb3, i0, i1, i2, i3, i4⟩ := hc3 i hi
 rw [← (S8 B0).1 _ _ hb3] at i0 i1 i2 i3 i4
 have x2 := L1.cell 2
 simp at x2
 generalize c.list[i] = x at *
 rw [hW] at x2 i0 i1 i2 i3 i4
 clear hc3 h3 h1 h2
 by_cases h13 : x.op = 13
 ·have q13 : (x.op == 13) = true := by simp [h13]
  have HN := show Hid (J2 x i = []) from by simp [Hid, J2, h13]
  clear h13
  go_enter Try.func88, Try.ntmps88
  go_wp2_with fail
  go_ret
  rw [HN.out]
  exact ⟨_, rfl, (y6 _ #[] 0 1 _ (by simp) rfl (by omega)).wide (by simp; omega) (by simp), by go_grown⟩
 ·have q13 : (x.op == 13) = false := by simp [h13]
  by_cases h8 : x.op = 8
  ·have q8 : (x.op == 8) = true := by simp [h8]
   have HN := show Hid (J2 x i = [x.a]) from by simp [Hid, J2, h8]
   clear h13 h8
   go_enter Try.func88, Try.ntmps88
   go_wp2_with fail
   go_ret
   rw [HN.out]
   exact ⟨_, rfl, (y6 _ #[_] 1 1 _ (by simp) rfl (by omega)).wide (by simp; omega) (by simp), by go_grown⟩
  ·have q8 : (x.op == 8) = false := by simp [h8]
   by_cases h9 : x.op = 9 ∨ x.op = 10
   ·have HN := show Hid (J2 x i = [(i : Int) + 1, x.b]) from by simp [Hid, J2, h13, h8, h9]
    have h9' : (x.op == 9) = true ∨ ((x.op == 9) = false ∧ (x.op == 10) = true) := by
     rcases h9 with h9 | h9
     ·left; simp [h9]
     ·right; simp [h9]
    clear h13 h8 h9
    rcases h9' with q9 | ⟨q9, q10⟩
    all_goals
     go_enter Try.func88, Try.ntmps88
     go_wp2_with fail
     go_ret
     rw [HN.out]
     exact ⟨_, rfl, ((y6 _ #[.int .i64 ((i : Int) + 1), .int .i64 x.b] 2 1 _ (by simp) rfl (by omega))).wide (by simp; omega) (by simp), by go_grown⟩
   ·have q9 : (x.op == 9) = false := by simp; omega
    have q10 : (x.op == 10) = false := by simp; omega
    have HN := show Hid (J2 x i = [(i : Int) + 1]) from by simp [Hid, J2, h13, h8, h9]
    clear h13 h8 h9
    go_enter Try.func88, Try.ntmps88
    go_wp2_with fail
    go_ret
    rw [HN.out]
    exact ⟨_, rfl, (y6 _ #[_] 1 1 _ (by simp) rfl (by omega)).wide (by simp; omega) (by simp), by go_grown⟩
theorem a30 (v : Value) (c : d7) (t : Int) (w : World) (h : z6 w v c) (h0 : 0 ≤ t) (h1 : t < c.list.length) :
  Calls Try.prog 88 #[v, .int .i64 t] w fun e w' => ∃ u, e = .returned u ∧ A9 w' w.heap.size w'.heap.size 3 1 u (nx c t).length (ints (nx c t)) ∧ Below w.heap.size w w' := by
 obtain ⟨i, rfl⟩ : ∃ i : Nat, t = i := ⟨t.toNat, by omega⟩
 have hi : i < c.list.length := by omega
 have e : nx c i = J2 c.list[i] i := aZ6 (t := (i : Int)) hi
 rw [e]
 exact aI6 v c i w h hi
theorem aL5 (x : c7) (w : World) :
  Calls Try.prog 123 #[x.v] w fun e w' => e = .returned (.int .i64 (C6 x)) ∧ Below w.heap.size w w' := by
 obtain ⟨x0, x1, x2, x3, x4⟩ := x
 by_cases h8 : x0 = 8
 ·have HN := show Hid (C6 ⟨x0, x1, x2, x3, x4⟩ = x1) from by simp [Hid, C6, h8]
  have q8 : (x0 == 8) = true := by simp [h8]
  clear h8
  go_enter Try.func123, Try.ntmps123
  go_wp2_with fail
  go_ret
  exact ⟨M8 HN.out.symm, by go_grown⟩
 ·have q8 : (x0 == 8) = false := by simp [h8]
  by_cases h9 : x0 = 9 ∨ x0 = 10
  ·have HN := show Hid (C6 ⟨x0, x1, x2, x3, x4⟩ = x2) from by simp [Hid, C6, h8, h9]
   have h9' : (x0 == 9) = true ∨ ((x0 == 9) = false ∧ (x0 == 10) = true) := by
    rcases h9 with h9 | h9
    ·left; simp [h9]
    ·right; simp [h9]
   clear h8 h9
   rcases h9' with q9 | ⟨q9, q10⟩
   all_goals
    go_enter Try.func123, Try.ntmps123
    go_wp2_with fail
    go_ret
    exact ⟨M8 HN.out.symm, by go_grown⟩
  ·have HN := show Hid (C6 ⟨x0, x1, x2, x3, x4⟩ = -1) from by simp [Hid, C6, h8, h9]
   have q9 : (x0 == 9) = false := by simp; omega
   have q10 : (x0 == 10) = false := by simp; omega
   clear h8 h9
   go_enter Try.func123, Try.ntmps123
   go_wp2_with fail
   go_ret
   exact ⟨M8 HN.out.symm, by go_grown⟩
theorem am6 (v : Value) (c : d7) (i : Nat) (w : World) (h : z6 w v c) (hi : i < c.list.length) :
    Calls Try.prog 86 #[v, .int .i64 i] w fun e w' => ∃ u, e = .returned u ∧ A9 w' w.heap.size w'.heap.size 3 1 u (U2 c.list[i] i).length (ints (U2 c.list[i] i)) ∧ Below w.heap.size w w' := by
  obtain ⟨v1, v2, v3, rfl, h1, h2, h3⟩ := h
  obtain ⟨a3, k3, rfl, hk3, hm3, -, hc3⟩ := h3.ins
  obtain ⟨W, hW⟩ : ∃ W, W = (w.alloc (.cells #[v1, v2, .slice a3 c.list.length k3] 50)) := ⟨_, rfl⟩
  have B0 : Below w.heap.size w W := by rw [hW]; go_grown
  have L1 : C2 W w.heap.size [v1, v2, .slice a3 c.list.length k3] := by rw [hW]; exact (C2.new w [v1, v2, .slice a3 c.list.length k3] _)
  have sW : W.heap.size = w.heap.size + 1 := by rw [hW]; simp
  obtain ⟨b, off, rfl, hb3, i0, i1, i2, i3, i4⟩ := hc3 i hi
  rw [← (S8 B0).1 _ _ hb3] at i0 i1 i2 i3 i4
  have x2 := L1.cell 2
  simp at x2
  generalize c.list[i] = x at *
  clear hc3 h3 h1 h2
  go_enter Try.func86, Try.ntmps86
  rw [hW] at x2 i0 i1 i2 i3 i4
  go_wp2_with fail
  rw [← hW]
  clear x2 i0 i1 i2 i3 i4 hW
  have s0 := B0.size
  have L2 := C2.new W [.int .i64 x.op, .int .i64 x.a, .int .i64 x.b, .int .i64 x.c, .int .i64 x.d] 122
  have B1 : Below w.heap.size w (W.alloc (.cells #[.int .i64 x.op, .int .i64 x.a, .int .i64 x.b, .int .i64 x.c, .int .i64 x.d] 122)) := B0.trans (Below.mono (by go_grown : Below W.heap.size W _) s0)
  generalize W.alloc (.cells #[.int .i64 x.op, .int .i64 x.a, .int .i64 x.b, .int .i64 x.c, .int .i64 x.d] 122) = W1 at *
  rw [sW] at L2
  clear B0 s0 sW
  have s1 := B1.size
  refine (aL5 x _).mono ?_
  rintro e w1 ⟨rfl, b1⟩
  replace L2 := L2.below b1 L2.lt
  have B2 := B1.trans (b1.mono s1)
  have s2 := B2.size
  have HN : Hid (U2 x i = (if 0 ≤ C6 x then [C6 x] else []) ++ (if x.op ≠ 8 ∧ x.op ≠ 13 then [(i : Int) + 1] else [])) := rfl
  generalize C6 x = tg at *
  have c0 := L2.cell 0
  simp only [bV0] at c0
  by_cases ht : 0 ≤ tg
  · have HT := show Hid _ from ht
    go_wp2_with (first | (at_builtin; refine I4 rfl _ _ rfl Try.underlying23 az5 rfl (by omega) rfl (World.ownsRow_nil _ w1.heap.size _ _) rfl (ag0 w1 (.int .i64 tg) _ rfl) (fun u hu => by simp at hu; subst hu; rfl) (by omega) (by omega) (by simp) ?_; rintro a1 q1 w2 o2 b2 - -; have b2' := ((Below.refl w1.heap.size w1).alloc (bS5 _) _).trans b2; replace L2 := L2.below b2' L2.lt; have B3 := B2.trans (b2'.mono s2); have s3 := b2'.size; have d0 := L2.cell 0; simp only [bV0] at d0; clear b2) | (at_builtin; refine I4 rfl _ _ rfl Try.underlying23 az5 rfl (by omega) rfl (o2.alloc _) rfl (ag0 w2 (.int .i64 ((i : Int) + 1)) _ rfl) (fun u hu => by simp at hu; subst hu; rfl) (by omega) (by omega) (by simp; omega) ?_; rintro a2 q2 w3 o3 b3 - -; have b3' := ((Below.refl w1.heap.size w2).alloc s3 _).trans b3; have B4 := B3.trans (Below.mono (b3' : Below w1.heap.size w2 w3) s2)))
    all_goals go_ret
    all_goals simp only [bne_iff_ne, ne_eq, bne_eq_false_iff_eq] at *
    all_goals first
      | (have e : U2 x i = [tg, (i : Int) + 1] := by
           rw [HN.out, if_pos HT.out]; clear HN HT; simp; omega
         rw [e]; exact ⟨_, rfl, A9.mk' (B7 o3 s2), B4⟩)
      | (have e : U2 x i = [tg] := by
           rw [HN.out, if_pos HT.out]; clear HN HT; simp; omega
         rw [e]; exact ⟨_, rfl, A9.mk' (B7 o2 s2), B3⟩)
  · have HT := show Hid (¬ 0 ≤ tg) from ht
    go_wp2_with ((at_builtin; refine I4 rfl _ _ rfl Try.underlying23 az5 rfl (by omega) rfl (World.ownsRow_nil _ w1.heap.size _ _) rfl (ag0 w1 (.int .i64 ((i : Int) + 1)) _ rfl) (fun u hu => by simp at hu; subst hu; rfl) (by omega) (by omega) (by simp) ?_; rintro a1 q1 w2 o2 b2 - -; have b2' := ((Below.refl w1.heap.size w1).alloc (bS5 _) _).trans b2; have B3 := B2.trans (b2'.mono s2)))
    all_goals go_ret
    all_goals simp only [bne_iff_ne, ne_eq, bne_eq_false_iff_eq] at *
    all_goals first
      | (have e : U2 x i = [(i : Int) + 1] := by
           rw [HN.out, if_neg (by have := HT.out; omega)]; clear HN HT; simp; omega
         rw [e]; exact ⟨_, rfl, A9.mk' (B7 o2 s2), B3⟩)
      | (have e : U2 x i = [] := by
           rw [HN.out, if_neg (by have := HT.out; omega)]; clear HN HT; simp; omega
         rw [e]; exact ⟨_, rfl, ⟨World.ownsRow_nil _ _ _ _, fun g hg => by cases hg⟩, B2⟩)
theorem aL6 (v : Value) (c : d7) (i : Nat) (w : World) (h : z6 w v c) (hi : i < c.list.length) :
  Calls Try.prog 86 #[v, .int .i64 i] w fun e w' => ∃ u, e = .returned u ∧ H4 w' u (U2 c.list[i] i).length 1 (ints (U2 c.list[i] i)) ∧ Below w.heap.size w w' :=
 (am6 v c i w h hi).mono fun _ _ ⟨u, h1, h2, h3⟩ => ⟨u, h1, h2.row, h3⟩
theorem aE2 (v : Value) (c : d7) (hc : f8 c = true) (t : Int) (w : World) (h : z6 w v c) (h0 : 0 ≤ t) (h1 : t < c.list.length) :
  Calls Try.prog 86 #[v, .int .i64 t] w fun e w' => ∃ u ns, e = .returned u ∧ ns.length ≤ 2 ∧ (∀ x, x ∈ ns ↔ x ∈ nx c t) ∧ H4 w' u ns.length 1 (ints ns) ∧ Below w.heap.size w w' := by
 obtain ⟨i, rfl⟩ : ∃ i : Nat, t = i := ⟨t.toNat, by omega⟩
 have hi : i < c.list.length := by omega
 have e : nx c i = J2 c.list[i] i := aZ6 (t := (i : Int)) hi
 rw [e]
 refine (aL6 v c i w h hi).mono fun e w' ⟨u, h1, h2, h3⟩ => ⟨u, _, h1, a43 _ _, fun x => a42 ((x6 hc).2.2.2.1 i hi) _ _, h2, h3⟩
abbrev bools (l : List Bool) : List Value := l.map Value.bool
theorem bt8 : (Try.prog.info? 4).map (fun i => (i.zero, i.size, i.bytes)) = some (some (.bool false), 1, 1) := by kernel_rfl
theorem aB8 (v : Value) (c : d7) (hc : f8 c = true) (w : World) (h : z6 w v c) :
  Calls Try.prog 50 #[v] w fun e w' => ∃ u, e = .returned u ∧ A9 w' w.heap.size w'.heap.size 4 1 u c.list.length (bools (E4 c)) ∧ Below w.heap.size w w' := by
 have hrow := h
 obtain ⟨v1, v2, v3, rfl, h1, h2, h3⟩ := h
 obtain ⟨a3, k3, rfl, -, hm3, -, -⟩ := h3.open
 obtain ⟨W, hW⟩ : ∃ W, W = (w.alloc (.cells #[v1, v2, .slice a3 c.list.length k3] 50)) := ⟨_, rfl⟩
 have B0 : Below w.heap.size w W := by rw [hW]; go_grown
 have sW : W.heap.size = w.heap.size + 1 := by rw [hW]; simp
 have L1 : C2 W w.heap.size [v1, v2, .slice a3 c.list.length k3] := by rw [hW]; exact (C2.new w [v1, v2, .slice a3 c.list.length k3] _)
 obtain ⟨-, hn1, hn2, -, -⟩ := x6 hc
 have hmk := as2 (P := Try.prog) (t := 55) Try.underlying55 bt8 rfl (by omega) c.list.length (by omega) hm3
 have hown := ar4 W (Value.bool false).cells.toList c.list.length 1 4 rfl hm3
 rw [show (Value.bool false).cells.toList = [Value.bool false] from rfl, I8, sW] at hown
 have hown0 : A9 (W.alloc (.cells (a04 c.list.length (Value.bool false)).toArray 4)) (w.heap.size + 1) (w.heap.size + 1 + 1) 4 1 (.slice (some ⟨w.heap.size + 1, 0, none⟩) c.list.length c.list.length) c.list.length (bools (a04 c.list.length false)) := by
  rw [bools, List.map_replicate]; exact hown
 have x2 := L1.cell 2
 simp at x2
 rw [show (Value.bool false).cells.toList = [Value.bool false] from rfl, I8] at hmk
 have eR : (a04 c.list.length (Value.bool false)).toArray = bV7 c.list.length (Value.bool false) := by simp
 rw [eR] at hmk hown0
 clear hown eR
 obtain ⟨g0, cap0, hv0, -, -, -, f0, u0, p0⟩ := hown0.at (j := 0) (by simp [bools]; omega)
 cases hv0
 rw [hW] at x2 f0 p0
 go_enter Try.func50, Try.ntmps50
 go_wp2_with fail
 rw [← hW]
 clear x2 hmk hW f0 p0
 have hown1 := y6 W (g := w.heap.size + 1) ((bV7 c.list.length (Value.bool false)).setIfInBounds 0 (.bool true)) c.list.length 1 4 sW.symm (by simp) hm3
 rw [sW, show ((bV7 c.list.length (Value.bool false)).setIfInBounds 0 (.bool true)).toList = bools ((a04 c.list.length false).set 0 true) by simp [bools]] at hown1
 have B2 : Below w.heap.size w (W.alloc (.cells ((bV7 c.list.length (Value.bool false)).setIfInBounds 0 (.bool true)) 4)) := B0.trans (Below.mono (by go_grown : Below W.heap.size W _) B0.size)
 have s2 : (W.alloc (.cells ((bV7 c.list.length (Value.bool false)).setIfInBounds 0 (.bool true)) 4)).heap.size = w.heap.size + 1 + 1 := by simp [sW]
 replace L1 := L1.alloc (.cells ((bV7 c.list.length (Value.bool false)).setIfInBounds 0 (.bool true)) 4)
 generalize W.alloc (.cells ((bV7 c.list.length (Value.bool false)).setIfInBounds 0 (.bool true)) 4) = W2 at *
 have hq := y6 W2 #[.int .i64 0] 1 1 3 s2.symm rfl (by omega)
 rw [s2] at hq
 have B3 := B2.trans (Below.mono (by go_grown : Below W2.heap.size W2 (W2.alloc (.cells #[.int .i64 0] 3))) B2.size)
 replace hown1 := hown1.keep (by go_grown : Below W2.heap.size W2 (W2.alloc (.cells #[.int .i64 0] 3))) (by omega)
 replace L1 := L1.alloc (.cells #[.int .i64 0] 3)
 generalize W2.alloc (.cells #[.int .i64 0] 3) = W3 at *
 clear B0 B2 s2 sW hown0
 go_loopw [4, 5] (fun q i wr => ∃ (qs : List Int) (bs : List Bool) (k : Nat) (a : Option Addr) (cq : Nat), i = .int .i64 k ∧ q = .slice a qs.length cq ∧ k ≤ qs.length ∧ wr.ownsRow (w.heap.size + 1 + 1) 3 1 q qs.length (ints qs) ∧
  A9 wr (w.heap.size + 1) (w.heap.size + 1 + 1) 4 1 (.slice (some ⟨w.heap.size + 1, 0, none⟩) c.list.length c.list.length) c.list.length (bools bs) ∧ aF8 c qs bs ∧ W0 c qs bs k ∧
  C2 wr w.heap.size [v1, v2, .slice a3 c.list.length k3] ∧ Below w.heap.size w wr)
  (fun _ i _ => c.list.length - (intOf i).toNat)
 case atStart => exact ⟨[0], _, 0, _, _, rfl, rfl, by simp, hq.1, hown1, aF8.start hc, fun m u hm => absurd hm (by omega), L1, B3⟩
 case round =>
  obtain ⟨qs, bs, k, a, cq, rfl, rfl, hk, hq, ho, hi, hcl, hL, hb⟩ := hrel
  have hqn : qs.length ≤ c.list.length := by have := hi.cnt; omega
  have HI := show Hid _ from hi
  have HC := show Hid _ from hcl
  clear hi hcl hown1 B3 L1
  by_cases hlt : k < qs.length
  ·have hir := HI.out.q qs[k] (bS9 hlt)
   obtain ⟨gq, hgq, p0⟩ : ∃ gq, a = some ⟨gq, 0, none⟩ ∧ wr.cell? ⟨gq, k, none⟩ = some (.int .i64 qs[k]) := by
    have hoq : A9 wr (w.heap.size + 1 + 1) wr.heap.size 3 1 (.slice a qs.length cq) qs.length (ints qs) := A9.mk' hq
    obtain ⟨g, cap', hv, -, -, -, -, -, -, hcc⟩ := hoq.open (by omega)
    cases hv
    exact ⟨g, rfl, hcc k _ (by simp [ints, hlt])⟩
   subst hgq
   have hgqb : gq < wr.heap.size := World.block_lt_of_cell? wr ⟨gq, k, none⟩ p0
   obtain ⟨ht0, ht1, htr⟩ := hir
   have HTR := show Hid _ from htr
   have hgt : qs[k]? = some qs[k] := bo2 hlt
   have HGT := show Hid _ from hgt
   clear htr hgt
   generalize qs[k] = t at *
   have hS : ∀ W', Below wr.heap.size wr W' → Below wr.heap.size wr W' ∧ (W'.cell? ⟨w.heap.size, 0, none⟩ = some v1 ∧ W'.cell? ⟨w.heap.size, 1, none⟩ = some v2 ∧ W'.cell? ⟨w.heap.size, 2, none⟩ = some (.slice a3 c.list.length k3)) ∧ W'.cell? ⟨gq, k, none⟩ = some (.int .i64 t) :=
    fun W' hb' => ⟨hb', bA3 hL W' hb', by rw [(S8 hb').1 _ _ hgqb]; exact p0⟩
   have HS := show Hid _ from hS
   have hb0 := (Below.refl wr.heap.size wr).drew
   clear hS
   go_wp2_with fail
   go_region_held3 (fun W' => Below wr.heap.size wr W' ∧ (W'.cell? ⟨w.heap.size, 0, none⟩ = some v1 ∧ W'.cell? ⟨w.heap.size, 1, none⟩ = some v2 ∧ W'.cell? ⟨w.heap.size, 2, none⟩ = some (.slice a3 c.list.length k3)) ∧ W'.cell? ⟨gq, k, none⟩ = some (.int .i64 t))
    (exact HS.out _ (by assumption))
    (first | (go_at_call 88; refine (a30 _ c t _ (hrow.below (ae1 (by assumption) hb (bS5 _))) ht0 ht1).mono ?_; rintro e w7 ⟨u3, rfl, o3, b7⟩; have q7 := ae1 b7 hb0 (bS5 _); obtain ⟨a9, c9, rfl⟩ := o3.form))
   all_goals go_wp2_with fail
   have hb7 := hb.trans (q7.mono hb.size)
   have hq7 := ar2 hq q7 (bS5 _)
   have hsz : w.heap.size + 1 + 1 ≤ wr.heap.size := (ho.lt _ rfl).2.2
   have ho7 := ho.keep q7 hsz
   have hL7 := hL.below q7 hL.lt
   have s7 := q7.size
   have o7 : A9 w7 (w.heap.size + 1 + 1) w7.heap.size 3 1 (.slice a9 (nx c t).length c9) (nx c t).length (ints (nx c t)) := o3.wide hsz (bS5 _)
   have hd7 : ah7 (Value.slice (some ⟨gq, 0, none⟩) qs.length cq) (Value.slice a9 (nx c t).length c9) := by
    intro g hg hg'
    cases hg
    have h1 := (o3.lt _ hg').1
    exact absurd hgqb (Nat.not_lt.2 h1)
   have hnx : ∀ x ∈ nx c t, 0 ≤ x ∧ x < c.list.length := fun x hx => aK6 hc ht0 hx
   have HNX := show Hid _ from hnx
   clear o3 b7 hb0 HS hL hq ho p0 hnx hb
   generalize hns : nx c t = ns at *
   have HNS := show Hid _ from hns
   clear hns
   go_loopw [4, 7] (fun q i wi => ∃ (qs' : List Int) (bs' : List Bool) (j : Nat) (a : Option Addr) (cq : Nat), i = .int .i64 j ∧ q = .slice a qs'.length cq ∧ j ≤ ns.length ∧ wi.ownsRow (w.heap.size + 1 + 1) 3 1 q qs'.length (ints qs') ∧
    A9 wi (w.heap.size + 1) (w.heap.size + 1 + 1) 4 1 (.slice (some ⟨w.heap.size + 1, 0, none⟩) c.list.length c.list.length) c.list.length (bools bs') ∧ aF8 c qs' bs' ∧ W0 c qs' bs' k ∧ (k < qs'.length ∧ qs'[k]? = some t) ∧ (∀ x ∈ ns.take j, bs'[x.toNat]? = some true) ∧
    A9 wi (w.heap.size + 1 + 1) w7.heap.size 3 1 (.slice a9 ns.length c9) ns.length (ints ns) ∧ ah7 q (.slice a9 ns.length c9) ∧
    C2 wi w.heap.size [v1, v2, .slice a3 c.list.length k3] ∧ Below w.heap.size w wi)
    (fun _ i _ => ns.length - (intOf i).toNat)
   case atStart => exact ⟨qs, bs, 0, _, _, rfl, rfl, by omega, hq7, ho7, HI.out, HC.out, ⟨hlt, HGT.out⟩, by simp, o7, hd7, hL7, hb7⟩
   case round =>
    obtain ⟨qs', bs', j, a', cq', rfl, rfl, hj, hq, ho, hi, hcl, ⟨hkq, hgk⟩, hms, hu, hd, hL, hb⟩ := hrel
    have hqn' : qs'.length ≤ c.list.length := by have := hi.cnt; omega
    have HI' := show Hid _ from hi
    have HC' := show Hid (W0 c qs' bs' k) from hcl
    have HG' := show Hid _ from hgk
    have HM' := show Hid _ from hms
    have hD := show Hid _ from hd
    clear hi hcl hgk hms hq7 ho7 o7 hd7 hL7 hb7 HI HC HGT hd
    by_cases hjl : j < ns.length
    ·have hxr := HNX.out ns[j] (bS9 hjl)
     have HX := show Hid (ns.take (j + 1) = ns.take j ++ [ns[j]]) from x5 _ _ hjl
     have hxm : ns[j] ∈ nx c t := by rw [HNS.out]; exact bS9 hjl
     have HXM := show Hid _ from hxm
     clear hxm
     obtain ⟨gu, hgu, pu⟩ : ∃ gu, a9 = some ⟨gu, 0, none⟩ ∧ wr.cell? ⟨gu, j, none⟩ = some (.int .i64 ns[j]) := by
      obtain ⟨g, cap', hv, -, -, -, -, -, -, hcc⟩ := hu.open (by omega)
      cases hv
      exact ⟨g, rfl, hcc j _ (by simp [ints, hjl])⟩
     subst hgu
     generalize ns[j] = x at *
     obtain ⟨m, rfl⟩ : ∃ m : Nat, x = m := ⟨x.toNat, by omega⟩
     have hmn : m < c.list.length := by omega
     have hmb : m < bs'.length := by rw [HI'.out.len]; exact hmn
     obtain ⟨g, cap, hv, hg1, hg2, hg3, hf, u0, hcb⟩ := ho.at (j := m) (by simpa [bools] using hmb)
     cases hv
     have p1 : wr.cell? ⟨w.heap.size + 1, m, none⟩ = some (.bool bs'[m]) := by
      obtain ⟨g, cap', hv, -, -, -, -, -, -, hcc⟩ := ho.open (by omega)
      cases hv
      exact hcc m _ (by simp [bools, hmb])
     have hgu1 : w.heap.size + 1 + 1 ≤ gu := (hu.lt _ rfl).1
     have hgu2 : gu < wr.heap.size := (hu.lt _ rfl).2.2
     have hnl := hu.row.len
     have hux := hu.other (b := w.heap.size + 1) (by omega) m (.bool true)
     have py : (wr.setCell ⟨w.heap.size + 1, m, none⟩ (.bool true)).cell? ⟨gu, j, none⟩ = some (.int .i64 m) := by
      rw [World.cell?_setCell_other _ _ _ _ (by intro h; cases h; omega)]
      exact pu
     have hqx := ((A9.mk' hq).other (b := w.heap.size + 1) (by omega) m (.bool true)).1
     have hbq : bs'[m]? = some bs'[m] := by rw [bo2 hmb]
     clear u0 hcb hxr
     have s1 : w.heap.size + 1 + 1 ≤ wr.heap.size := hg3
     cases hbm : bs'[m]
     all_goals
      rw [hbm] at p1 hbq
      have HB := show Hid _ from hbq
      clear hbm hbq
     ·go_wp2_with (at_builtin; refine I4 rfl _ _ rfl Try.underlying23 az5 rfl (by omega) rfl (hqx.alloc _) rfl (ag0 _ (.int .i64 m) _ (by simp)) (fun u hu => by simp at hu; subst hu; rfl) (by omega) (by omega) (by simp; omega) ?_; rintro a4 q4 w4 o4 b4 g4 h4)
      have hx1 : wr.heap.size ≤ (wr.setCell ⟨w.heap.size + 1, m, none⟩ (.bool true)).heap.size := by simp
      have hbx : Below w.heap.size w (wr.setCell ⟨w.heap.size + 1, m, none⟩ (.bool true)) := hb.setCell (p := ⟨w.heap.size + 1, m, none⟩) (by show w.heap.size ≤ w.heap.size + 1; omega) _
      have hox := ho.setCell (j := m) (by simpa [bools] using hmb) (.bool true)
      rw [show (bools bs').set m (.bool true) = bools (bs'.set m true) by simp [bools]] at hox
      have hLx := hL.other (p := ⟨w.heap.size + 1, m, none⟩) (by show w.heap.size ≠ w.heap.size + 1; omega) (.bool true)
      clear py hL ho hu hq p1 pu hf hg1 hg2 hg3
      generalize wr.setCell ⟨w.heap.size + 1, m, none⟩ (.bool true) = W4 at *
      have ba := (Below.refl W4.heap.size W4).alloc (bS5 _) (.cells #[.int .i64 m] 3)
      have b5 : Below (w.heap.size + 1 + 1) W4 w4 := (ba.mono (by omega)).trans b4
      have hpush := HI'.out.push (t := (m : Int)) (by omega) (by omega) (.step HTR.out HXM.out) (by rw [Int.toNat_natCast]; exact HB.out)
      rw [Int.toNat_natCast] at hpush
      refine ⟨⟨qs' ++ [(m : Int)], bs'.set m true, j + 1, a4, q4, by go_num, by simp, by omega, by simpa [ints] using o4, hox.keep b5 (by omega), hpush, HC'.out.push (by omega) _ _, ⟨by simp; omega, by rw [bT3 hkq]; exact HG'.out⟩, ?_, ?_, ?_, hLx.below b5 (by omega), hbx.trans (b5.mono (by omega))⟩, by simp [intOf]; omega⟩
      ·intro x hx
       rw [HX.out] at hx
       rcases bS7.1 hx with hx | hx
       ·exact Y3 (HM'.out x hx)
       ·simp at hx; subst hx; rw [Int.toNat_natCast]; exact R9 hmb
      ·exact A9.grown ⟨hux.1.alloc _, hux.2⟩ g4 fun g h1 h2 => hD.out g h2 h1
      ·intro g h1 h2
       rcases h4 g h1 with h1 | h1
       ·exact hD.out g h1 h2
       ·cases h2; simp at h1; omega
     ·go_wp2_with fail
      refine ⟨⟨qs', bs', j + 1, a', cq', by go_num, rfl, by omega, hq, ho, HI'.out, HC'.out, ⟨hkq, HG'.out⟩, ?_, hu, hD.out, hL, hb⟩, by simp [intOf]; omega⟩
      intro x hx
      rw [HX.out] at hx
      rcases bS7.1 hx with hx | hx
      ·exact HM'.out x hx
      ·simp at hx; subst hx; rw [Int.toNat_natCast]; exact HB.out
    ·have hjn : j = ns.length := by omega
     subst hjn
     go_wp2_with fail
     refine ⟨⟨qs', bs', k + 1, a', cq', by go_num, rfl, by omega, hq, ho, HI'.out, ?_, hL, hb⟩, by simp [intOf]; omega⟩
     intro m u hm hu' y hy
     rcases bT8 m k with h1 | h1
     ·exact HC'.out m u h1 hu' y hy
     ·obtain rfl : m = k := by omega
      rw [HG'.out] at hu'
      cases hu'
      rw [HNS.out] at hy
      exact HM'.out y (by rw [List.take_length]; exact hy)
  ·have hkn : k = qs.length := by omega
   subst hkn
   go_wp2_with fail
   go_ret
   exact ⟨_, rfl, by rw [← W0.done hc HI.out HC.out]; exact ho.wide (by omega) (by have := ho.lt _ rfl; omega), hb⟩
def at8 (w : World) (B n : Nat) : Nat := (bS8 n).countP fun j => match w.cell? ⟨B, j, none⟩ with | some (.bool false) => true | _ => false
theorem at7 {w : World} {lo hi : Nat} {e : TypeId} {B n cap : Nat} {bs : List Bool} (h : A9 w lo hi e 1 (.slice (some ⟨B, 0, none⟩) n cap) n (bools bs)) (hn : 0 < n) : at8 w B n = bs.count false := by
 obtain ⟨g, cap', hv, -, -, -, -, -, -, hc⟩ := h.open hn
 cases hv
 have hl : bs.length = n := by have := h.1.1; simpa [bools] using this
 have e1 : bs = (bS8 n).map fun j => bs.getD j true := by
  apply List.ext_getElem
  ·simp [hl]
  ·intro j h1 h2; simp [h1]
 unfold at8
 rw [List.count, e1, List.countP_map]
 refine List.countP_congr fun j hj => ?_
 rw [bU9] at hj
 have hjl : j < bs.length := by omega
 rw [hc j (.bool bs[j]) (by simp [bools, hjl])]
 simp [hjl]
 cases bs[j] <;> simp
theorem at2 (v : Value) (c : d7) (hc : f8 c = true) (w : World) (h : z6 w v c) :
  Calls Try.prog 48 #[v] w fun e w' => ∃ u, e = .returned u ∧ A9 w' w.heap.size w'.heap.size 4 1 u c.list.length (bools (E4 c)) ∧ Below w.heap.size w w' := by
 have hrow := h
 obtain ⟨v1, v2, v3, rfl, h1, h2, h3⟩ := h
 obtain ⟨a3, k3, rfl, -, hm3, -, -⟩ := h3.open
 obtain ⟨W, hW⟩ : ∃ W, W = (w.alloc (.cells #[v1, v2, .slice a3 c.list.length k3] 50)) := ⟨_, rfl⟩
 have B0 : Below w.heap.size w W := by rw [hW]; go_grown
 have sW : W.heap.size = w.heap.size + 1 := by rw [hW]; simp
 have L1 : C2 W w.heap.size [v1, v2, .slice a3 c.list.length k3] := by rw [hW]; exact (C2.new w [v1, v2, .slice a3 c.list.length k3] _)
 obtain ⟨-, hn1, hn2, -, -⟩ := x6 hc
 have hmk := as2 (P := Try.prog) (t := 55) Try.underlying55 bt8 rfl (by omega) c.list.length (by omega) hm3
 have hown := ar4 W (Value.bool false).cells.toList c.list.length 1 4 rfl hm3
 rw [show (Value.bool false).cells.toList = [Value.bool false] from rfl, I8, sW] at hown
 have hown0 : A9 (W.alloc (.cells (a04 c.list.length (Value.bool false)).toArray 4)) (w.heap.size + 1) (w.heap.size + 1 + 1) 4 1 (.slice (some ⟨w.heap.size + 1, 0, none⟩) c.list.length c.list.length) c.list.length (bools (a04 c.list.length false)) := by
  rw [bools, List.map_replicate]; exact hown
 have x2 := L1.cell 2
 simp at x2
 rw [show (Value.bool false).cells.toList = [Value.bool false] from rfl, I8] at hmk
 have eR : (a04 c.list.length (Value.bool false)).toArray = bV7 c.list.length (Value.bool false) := by simp
 rw [eR] at hmk hown0
 clear hown eR
 go_enter Try.func48, Try.ntmps48
 rw [hW] at x2
 go_wp2_with fail
 rw [← hW]
 clear x2 hmk hW
 have B1 : Below w.heap.size w (W.alloc (.cells (bV7 c.list.length (Value.bool false)) 4)) := B0.trans (Below.mono (by go_grown : Below W.heap.size W _) B0.size)
 have s1 : (W.alloc (.cells (bV7 c.list.length (Value.bool false)) 4)).heap.size = w.heap.size + 1 + 1 := by simp [sW]
 replace L1 := L1.alloc (.cells (bV7 c.list.length (Value.bool false)) 4)
 generalize W.alloc (.cells (bV7 c.list.length (Value.bool false)) 4) = W1 at *
 have hq := y6 W1 #[.int .i64 0] 1 1 3 s1.symm rfl (by omega)
 rw [s1] at hq
 have B2 := B1.trans (Below.mono (by go_grown : Below W1.heap.size W1 (W1.alloc (.cells #[.int .i64 0] 3))) B1.size)
 replace hown0 := hown0.keep (by go_grown : Below W1.heap.size W1 (W1.alloc (.cells #[.int .i64 0] 3))) (by omega)
 replace L1 := L1.alloc (.cells #[.int .i64 0] 3)
 generalize W1.alloc (.cells #[.int .i64 0] 3) = W2 at *
 clear B0 B1 s1 sW
 go_loopw [4] (fun q wr => ∃ (ls : List Int) (bs : List Bool) (a : Option Addr) (k : Nat), q = .slice a ls.length k ∧ wr.ownsRow (w.heap.size + 1 + 1) 3 1 q ls.length (ints ls) ∧
  A9 wr (w.heap.size + 1) (w.heap.size + 1 + 1) 4 1 (.slice (some ⟨w.heap.size + 1, 0, none⟩) c.list.length c.list.length) c.list.length (bools bs) ∧ an3 c ls bs ∧
  C2 wr w.heap.size [v1, v2, .slice a3 c.list.length k3] ∧ Below w.heap.size w wr)
  (fun q wr => (match q with | .slice _ n _ => n | _ => 0) + 3 * at8 wr (w.heap.size + 1) c.list.length)
 case atStart => exact ⟨[0], _, _, _, rfl, hq.1, hown0, an3.start hc, L1, B2⟩
 case round =>
  obtain ⟨ls, bs, a, k, rfl, hq, ho, hi, hL, hb⟩ := hrel
  have HI := show Hid _ from hi
  have hf := at7 ho (by omega)
  have HF := show Hid _ from hf
  clear hi hf hown0 B2 L1
  by_cases hlt : 0 < ls.length
  ·obtain ⟨ls', i, hls⟩ : ∃ ls' i, ls = ls' ++ [i] := ⟨ls.dropLast, ls.getLast (by intro h; rw [h] at hlt; simp at hlt), (List.dropLast_concat_getLast _).symm⟩
   have hlen : ls.length = ls'.length + 1 := by rw [hls]; simp
   have hI := HI.out
   rw [hls] at hI
   have hir := hI.l i (by simp)
   obtain ⟨m, rfl⟩ : ∃ m : Nat, i = m := ⟨i.toNat, by omega⟩
   have hmn : m < c.list.length := by omega
   have hmb : m < bs.length := by rw [hI.len]; exact hmn
   obtain ⟨g, cap, hv, hg1, hg2, hg3, hf, u0, hcb⟩ := ho.at (j := m) (by simpa [bools] using hmb)
   cases hv
   have p1 : wr.cell? ⟨w.heap.size + 1, m, none⟩ = some (.bool bs[m]) := by
    obtain ⟨g, cap', hv, -, -, -, -, -, -, hcc⟩ := ho.open (by omega)
    cases hv
    exact hcc m _ (by simp [bools, hmb])
   obtain ⟨gq, hgq, p0⟩ : ∃ gq, a = some ⟨gq, 0, none⟩ ∧ wr.cell? ⟨gq, ls'.length, none⟩ = some (.int .i64 m) := by
    have hoq : A9 wr (w.heap.size + 1 + 1) wr.heap.size 3 1 (.slice a ls.length k) ls.length (ints ls) := A9.mk' hq
    obtain ⟨g, cap', hv, -, -, -, -, -, -, hcc⟩ := hoq.open hlt
    cases hv
    exact ⟨g, rfl, hcc ls'.length _ (by rw [hls]; simp [ints])⟩
   subst hgq
   have hkc : ls.length ≤ k := by
    rcases hq.2 with ⟨hv, _⟩ | ⟨g, cap', cur, hv, _, _, hnc, _⟩
    ·cases hv
    ·cases hv; exact hnc
   have hcut : wr.ownsRow (w.heap.size + 1 + 1) 3 1 (.slice (some ⟨gq, 0, none⟩) ls'.length k) ls'.length (ints ls') := by
    have hq' := hq
    rw [show ints ls = ints ls' ++ [.int .i64 m] by rw [hls]; simp [ints]] at hq'
    exact bd4 hq' (by omega) hlt (by simp [ints])
   rw [hlen] at hq hkc ⊢
   have HLS := show Hid _ from hls
   have HLEN := show Hid _ from hlen
   clear hls hlen hlt u0 hcb
   have hbq : bs[(m : Int).toNat]? = some bs[m] := by rw [Int.toNat_natCast, bo2 hmb]
   have hll : ls'.length ≤ 1000 := by have := hI.cnt; simp at this; omega
   have HI2 := show Hid _ from hI
   have HIR := show Hid (Rc c m) from hir.2.2
   clear hI hir
   have hL2 := hL.other (p := ⟨w.heap.size + 1, m, none⟩) (by show w.heap.size ≠ w.heap.size + 1; omega) (.bool true)
   have y0 := hL2.cell 0
   have y1 := hL2.cell 1
   have y2 := hL2.cell 2
   simp only [bV0, List.getElem?_cons_succ] at y0 y1 y2
   cases hbm : bs[m]
   all_goals
    rw [hbm] at p1
    rw [hbm] at hbq
    have HB := show Hid _ from hbq
    clear hbm hbq
    go_wp2_with fail
   ·have hbx : Below w.heap.size w (wr.setCell ⟨w.heap.size + 1, m, none⟩ (.bool true)) := hb.setCell (p := ⟨w.heap.size + 1, m, none⟩) (by show w.heap.size ≤ w.heap.size + 1; omega) _
    have hox := ho.setCell (j := m) (by simpa [bools] using hmb) (.bool true)
    have hqx := ((A9.mk' hcut).other (b := w.heap.size + 1) (by omega) m (.bool true)).1
    rw [show (bools bs).set m (.bool true) = bools (bs.set m true) by simp [bools]] at hox
    have hsx : (wr.setCell ⟨w.heap.size + 1, m, none⟩ (.bool true)).heap.size = wr.heap.size := by simp
    clear y0 y1 y2 hL hf p1 p0 hg1 hg2
    generalize wr.setCell ⟨w.heap.size + 1, m, none⟩ (.bool true) = W3 at *
    refine (aE2 _ c hc m _ (hrow.below hbx) (by omega) (by omega)).mono ?_
    rintro e w2 ⟨u, ns, rfl, hnl, hnm, hru, b2⟩
    obtain ⟨a2, q2, rfl⟩ := hru.form
    have s2 := b2.size
    have hq3 := ar2 hqx b2 (bS5 _)
    have hox3 := hox.keep b2 (by omega)
    have hL3 := hL2.below b2 hL2.lt
    have hb3 := hbx.trans (b2.mono hbx.size)
    clear hqx hox hL2
    go_wp2_with (at_builtin; refine I4 rfl _ _ rfl Try.underlying23 az5 rfl (by omega) rfl hq3 rfl hru aL1 (by omega) (by omega) (by omega) ?_; rintro a4 q4 w4 o4 b4 - -)
    have hox4 := hox3.keep b4 (by omega)
    have hm4 := HI2.out.mark hc HB.out hnl hnm
    rw [Int.toNat_natCast] at hm4
    have hcs := U3 (bs := bs) (k := m) (by have := HB.out; rwa [Int.toNat_natCast] at this)
    have hf4 := at7 hox4 (by omega)
    refine ⟨⟨ls' ++ ns, bs.set m true, a4, q4, by simp, by simpa [ints] using o4, hox4, hm4, hL3.below b4 (by omega), hb3.trans (b4.mono (by omega))⟩, ?_⟩
    rw [hf4, HF.out]
    simp
    omega
   ·exact ⟨⟨ls', bs, _, _, rfl, hcut, ho, HI2.out.skip HB.out, hL, hb⟩, by simp⟩
  ·have hl0 : ls = [] := bU3 (by omega)
   subst hl0
   go_wp2_with fail
   go_ret
   exact ⟨_, rfl, by rw [← HI.out.done hc]; exact ho.wide (by omega) (by have := ho.lt _ rfl; omega), hb⟩
noncomputable def i5 (c : d7) : List Bool := if f8 c = true then E4 c else []
theorem N6 (c : d7) : (E4 c).length = c.list.length := by simp [E4]
theorem aQ7 (c : d7) : (i5 c).length ≤ c.list.length := by
 unfold i5; split
 ·rw [N6]; exact bS5 _
 ·simp
theorem P8 (v : Value) (c : d7) (w : World) (h : z6 w v c) :
  Calls Try.prog 19 #[v] w fun e w' => ∃ u, e = .returned u ∧ A9 w' w.heap.size w'.heap.size 4 1 u (i5 c).length (bools (i5 c)) ∧ Below w.heap.size w w' := by
 have hrow := h
 obtain ⟨v1, v2, v3, rfl, h1, h2, h3⟩ := h
 have HT : Hid (i5 c = if f8 c = true then E4 c else []) := rfl
 obtain ⟨W, hW⟩ : ∃ W, W = w.alloc (.cells #[v1, v2, v3] 50) := ⟨_, rfl⟩
 have B0 : Below w.heap.size w W := by rw [hW]; go_grown
 have L1 : C2 W w.heap.size [v1, v2, v3] := by rw [hW]; exact (C2.new w [v1, v2, v3] _)
 go_enter Try.func19, Try.ntmps19
 go_wp2_with fail
 rw [← hW]
 clear hW
 refine (aq2 _ c _ (hrow.below B0)).mono ?_
 rintro e w1 ⟨rfl, b1⟩
 replace L1 := L1.below b1 L1.lt
 have B1 := B0.trans (b1.mono B0.size)
 cases hh : f8 c
 ·have HH := show Hid (i5 c = []) from by unfold Hid; rw [HT.out, hh]; rfl
  clear hh
  go_wp2_with fail
  go_ret
  rw [HH.out]
  exact ⟨_, rfl, (y6 _ #[] 0 1 _ (by simp) rfl (by omega)).wide B1.size (by simp), B1.alloc B1.size _⟩
 ·have HH := show Hid (i5 c = E4 c) from by unfold Hid; rw [HT.out, hh]; rfl
  have HO := show Hid _ from hh
  clear hh
  have x0 := L1.cell 0
  have x1 := L1.cell 1
  have x2 := L1.cell 2
  simp only [bV0, List.getElem?_cons_succ] at x0 x1 x2
  go_wp2_with fail
  refine (aB8 _ c HO.out _ (hrow.below B1)).mono ?_
  rintro e w2 ⟨u, rfl, o2, b2⟩
  obtain ⟨a2, k2, rfl⟩ := o2.form
  go_wp2_with fail
  go_ret
  rw [HH.out, N6]
  exact ⟨_, rfl, o2.wide B1.size (bS5 _), B1.trans (b2.mono B1.size)⟩
theorem Q8 (v : Value) (c : d7) (w : World) (h : z6 w v c) :
  Calls Try.prog 17 #[v] w fun e w' => ∃ u, e = .returned u ∧ A9 w' w.heap.size w'.heap.size 4 1 u (i5 c).length (bools (i5 c)) ∧ Below w.heap.size w w' := by
 have hrow := h
 obtain ⟨v1, v2, v3, rfl, h1, h2, h3⟩ := h
 have HT : Hid (i5 c = if f8 c = true then E4 c else []) := rfl
 obtain ⟨W, hW⟩ : ∃ W, W = w.alloc (.cells #[v1, v2, v3] 50) := ⟨_, rfl⟩
 have B0 : Below w.heap.size w W := by rw [hW]; go_grown
 have L1 : C2 W w.heap.size [v1, v2, v3] := by rw [hW]; exact (C2.new w [v1, v2, v3] _)
 go_enter Try.func17, Try.ntmps17
 go_wp2_with fail
 rw [← hW]
 clear hW
 refine (Z1 _ c _ (hrow.below B0)).mono ?_
 rintro e w1 ⟨rfl, b1⟩
 replace L1 := L1.below b1 L1.lt
 have B1 := B0.trans (b1.mono B0.size)
 cases hh : f8 c
 ·have HH := show Hid (i5 c = []) from by unfold Hid; rw [HT.out, hh]; rfl
  clear hh
  go_wp2_with fail
  go_ret
  rw [HH.out]
  exact ⟨_, rfl, ⟨World.ownsRow_nil _ _ _ _, fun g hg => by cases hg⟩, B1⟩
 ·have HH := show Hid (i5 c = E4 c) from by unfold Hid; rw [HT.out, hh]; rfl
  have HO := show Hid _ from hh
  clear hh
  have x0 := L1.cell 0
  have x1 := L1.cell 1
  have x2 := L1.cell 2
  simp only [bV0, List.getElem?_cons_succ] at x0 x1 x2
  go_wp2_with fail
  refine (at2 _ c HO.out _ (hrow.below B1)).mono ?_
  rintro e w2 ⟨u, rfl, o2, b2⟩
  obtain ⟨a2, k2, rfl⟩ := o2.form
  go_wp2_with fail
  go_ret
  rw [HH.out, N6]
  exact ⟨_, rfl, o2.wide B1.size (bS5 _), B1.trans (b2.mono B1.size)⟩
def aj8 (w : World) (v : Value) (m : List (List Bool)) : Prop :=
 ∃ vs : List Value, H4 w v m.length 1 vs ∧ ∀ (i : Nat) (u : Value) (r : List Bool), vs[i]? = some u → m[i]? = some r → H4 w u r.length 1 (bools r)
def R0 (w : World) (lo hi : Nat) (v : Value) (m : List (List Bool)) : Prop :=
 ∃ vs : List Value, A9 w lo hi 55 1 v m.length vs ∧ (∀ (i : Nat) (u : Value) (r : List Bool), vs[i]? = some u → m[i]? = some r → A9 w lo hi 4 1 u r.length (bools r)) ∧
  (∀ (i j : Nat) (u u' : Value), i < j → vs[i]? = some u → vs[j]? = some u' → ah7 u u') ∧ ∀ (i : Nat) (u : Value), vs[i]? = some u → ah7 u v
theorem aj8.below {w w' : World} {v : Value} {m : List (List Bool)} (h : aj8 w v m) (hb : Below w.heap.size w w') : aj8 w' v m := by
 obtain ⟨vs, h1, h2⟩ := h
 exact ⟨vs, h1.below hb, fun i u r a b => (h2 i u r a b).below hb⟩
theorem R0.row {w : World} {lo hi : Nat} {v : Value} {m : List (List Bool)} (h : R0 w lo hi v m) : aj8 w v m := by
 obtain ⟨vs, h1, h2, _⟩ := h
 exact ⟨vs, h1.row, fun i u r a b => (h2 i u r a b).row⟩
theorem R0.keep {w w' : World} {lo hi B : Nat} {v : Value} {m : List (List Bool)} (h : R0 w lo hi v m) (hb : Below B w w') (hB : hi ≤ B) : R0 w' lo hi v m := by
 obtain ⟨vs, h1, h2, hd⟩ := h
 exact ⟨vs, h1.keep hb hB, fun i u r a b => (h2 i u r a b).keep hb hB, hd⟩
theorem R0.out {w w' : World} {lo hi lo' hi' : Nat} {v : Value} {m : List (List Bool)} (h : R0 w lo hi v m) (hb : Out lo' hi' w w') (hB : hi ≤ lo' ∨ hi' ≤ lo) : R0 w' lo hi v m := by
 obtain ⟨vs, h1, h2, hd⟩ := h
 exact ⟨vs, h1.out hb hB, fun i u r a b => (h2 i u r a b).out hb hB, hd⟩
theorem R0.wide {w : World} {lo hi lo' hi' : Nat} {v : Value} {m : List (List Bool)} (h : R0 w lo hi v m) (g1 : lo' ≤ lo) (g2 : hi ≤ hi') : R0 w lo' hi' v m := by
 obtain ⟨vs, h1, h2, hd⟩ := h
 exact ⟨vs, h1.wide g1 g2, fun i u r a b => (h2 i u r a b).wide g1 g2, hd⟩
theorem aj8.open {w : World} {v : Value} {m : List (List Bool)} (h : aj8 w v m) : ∃ a cap, v = .slice a m.length cap ∧ m.length ≤ 9223372036854775807 ∧
  ∀ i (hi : i < m.length), ∃ b off a' c', a = some ⟨b, off, none⟩ ∧ b < w.heap.size ∧ w.cell? ⟨b, off + i, none⟩ = some (.slice a' m[i].length c') ∧ H4 w (.slice a' m[i].length c') m[i].length 1 (bools m[i]) := by
 obtain ⟨vs, h1, h2⟩ := h
 obtain ⟨a, cap, hv, hc, hm, hm2, hcell⟩ := h1.open1
 refine ⟨a, cap, hv, hm, fun i hi => ?_⟩
 obtain ⟨b, off, ha, hb, hx⟩ := hcell i hi
 have hl : i < vs.length := by rw [h1.1]; omega
 rw [bo2 hl] at hx
 have hr := h2 i _ _ (bo2 hl) (bo2 hi)
 obtain ⟨a', c', hs⟩ := hr.form
 rw [hs] at hx hr
 exact ⟨b, off, a', c', ha, hb, hx, hr⟩
end Go.Proofs.Ytmokkddidcmglaa

namespace Go.Proofs.Ytmokkddidcmglaa
open Go Go.RowKit Go.ChangeShapes Go.WideShapes Go.Deep
section
variable {H : Type} {enc : TypeId × Value → H} {W : World}
theorem ac6 {fuel : Nat} {t : TypeId} {v : Value} {x : DataW H × List MemPlace} (ht : Try.prog.underlying t = some (.slice 5))
  (h : DataW.trod enc Try.prog W 0 (fun _ => true) true fuel t [v] = some x) : ∃ l : List UInt8, H4 W v l.length 1 (l.map fun b => Value.int .u8 (b.toNat : Int)) := by
 obtain ⟨n, m, C, hr, hC, hx⟩ := aJ5 ht (sz := 1) (by kernel_rfl) (by omega) h
 obtain ⟨g, hg⟩ := choose_lt (α := UInt8) (n := n) (p := fun i b => C i = [.int .u8 (b.toNat : Int)]) (fun i hi => by
  obtain ⟨y, hy⟩ := hx i hi
  obtain ⟨z, hz, _, hw⟩ := DataW.trod_int Try.underlying5 hy
  simp only [Lit.wf, bR6, decide_eq_true_eq] at hw
  have h0 : (0 : Int) ≤ z := hw.1
  have h1 : z ≤ 255 := hw.2
  refine ⟨UInt8.ofNat z.toNat, ?_⟩
  rw [hz]
  have e : (UInt8.ofNat z.toNat).toNat = z.toNat := by
   rw [UInt8.toNat_ofNat']; omega
  rw [e, Int.toNat_of_nonneg h0])
 refine ⟨(bS8 n).map g, ?_⟩
 rw [List.length_map, List.length_range, ← as1 n C (fun b => Value.int .u8 (b.toNat : Int)) g hg]
 exact hr
end
end Go.Proofs.Ytmokkddidcmglaa
