/- Part 3: functions on the way, plain laws. Conditions: as said. -/
import Derived.Test.YtgmhmijcnlfmfaaRows
import Derived.OpenShut
import Derived.ChangeOld
import Derived.Deep.Slices
import Derived.Lib.SmallJoins
import Derived.StillTailTactics
import Derived.Deep.RegionHeld3
import Derived.Test.YtgmhmijcnlfmfaaK1
set_option maxRecDepth 100000
set_option maxHeartbeats 16000000
set_option linter.unusedVariables false
set_option linter.unusedSimpArgs false
open List renaming getElem?_append_left → bh5, getElem?_append_right → bh6, getElem?_eq_getElem → be9, getElem?_eq_some_iff → bf3, length_append → bh9, map_cons → bh1, mem_cons_of_mem → bg5, mem_cons_self → bg2, range → bg0, replicate → bh8
open Nat renaming add_zero → bi2, le_refl → bf5, mul_le_mul_right → bi3, succ_mul → bg9, zero_le → bg3

namespace Go.Proofs.Ytgmhmijcnlfmfaa
open Go Go.RowKit Go.ChangeShapes Go.WideShapes Go.Deep
theorem own : ownKnob Try.prog.godebug = none := by kernel_rfl
theorem av1 : laidOutB Try.prog = true := by kernel_rfl
section
variable {H : Type} {enc : TypeId × Value → H} {W : World}
theorem aA9 {C : Nat → List Value} {sz : Nat} (hC : ∀ i, (C i).length = sz) : ∀ (n i j : Nat), i < n → j < sz → ((bg0 n).flatMap C)[i * sz + j]? = (C i)[j]? := by
 intro n
 induction n with
 | zero => intro i j h; omega
 | succ n ih =>
  intro i j h hj
  have hlen : ((bg0 n).flatMap C).length = n * sz := by
   clear ih h
   induction n with
   | zero => simp
   | succ n ih2 => rw [List.range_succ, List.flatMap_append, bh9, ih2]; simp [hC, bg9]
  rw [List.range_succ, List.flatMap_append]
  by_cases hin : i < n
  ·rw [bh5 (by rw [hlen]; have := bi3 sz (Nat.succ_le_of_lt hin); rw [bg9] at this; omega)]
   exact ih i j hin hj
  ·obtain rfl : i = n := by omega
   rw [bh6 (by omega), hlen]
   simp
theorem ad9 {C : Nat → List Value} {sz : Nat} (hC : ∀ i, (C i).length = sz) (n : Nat) : ((bg0 n).flatMap C).length = n * sz := by
 induction n with
 | zero => simp
 | succ n ih2 => rw [List.range_succ, List.flatMap_append, bh9, ih2]; simp [hC, bg9]
theorem ai1 {t e : TypeId} {fuel : Nat} {v : Value} {x : DataW H × List MemPlace} {sz : Nat} (ht : Try.prog.underlying t = some (.slice e)) (hc : Try.prog.cellsOf e = sz) (hsz : 0 < sz)
  (h : DataW.trod enc Try.prog W 0 (fun _ => true) true fuel t [v] = some x) :
  ∃ (n m : Nat) (C : Nat → List Value), K5 W v n sz ((bg0 n).flatMap C) ∧ (∀ i, (C i).length = sz) ∧ ∀ i, i < n → ∃ y, DataW.trod enc Try.prog W 0 (fun _ => true) true m e (C i) = some y := by
 rcases open_slice ht h with ⟨hcs, _⟩ | ⟨a, len, cap, m, k, D, Pl, hcs, _, hl, hm, hmm, _, hx⟩
 ·cases hcs
  exact ⟨0, 0, fun _ => bh8 sz undef, K5.nil _ _, by simp, fun i hi => by omega⟩
 ·cases hcs
  rw [hc] at hx
  have hmc : len ≤ m := by rw [hmm]; simp; omega
  obtain ⟨C, hC⟩ := choose_lt (α := List Value) (n := len) (p := fun i cs => cs.length = sz ∧ (∀ j, j < sz → W.cell? (a.add (i * sz + j)) = cs[j]?) ∧ ∃ y, DataW.trod enc Try.prog W 0 (fun _ => true) true k e cs = some y) (fun i hi => by
   obtain ⟨cs', h1, h2⟩ := hx i (by omega)
   obtain ⟨_, hlen, hcell⟩ := World.cells?_some h1
   exact ⟨cs', hlen, fun j hj => by rw [← add_add]; exact hcell j hj, _, h2⟩)
  let C' : Nat → List Value := fun i => if i < len then C i else bh8 sz undef
  have hC' : ∀ i, (C' i).length = sz := fun i => by
   by_cases hi : i < len
   ·simp only [C', if_pos hi]; exact (hC i hi).1
   ·simp [C', if_neg hi]
  refine ⟨len, k, C', ⟨ad9 hC' len, some a, cap, rfl, hl, hm, fun hn => ?_⟩, hC', fun i hi => ?_⟩
  ·obtain ⟨b, off, spot⟩ := a
   have h00 := (hC 0 hn).2.1 0 hsz
   have hlen0 := (hC 0 hn).1
   rw [be9 (by omega)] at h00
   have hs : spot = none := by
    simpa [Addr.add] using World.cell?_spot h00
   subst hs
   have hb : b < W.heap.size := by simpa [Addr.add] using World.block_lt_of_cell? W _ h00
   refine ⟨b, off, rfl, hb, fun j u hj => ?_⟩
   have hjl : j < len * sz := by have := (bf3.1 hj).1; rw [ad9 hC'] at this; exact this
   have hi : j / sz < len := Nat.div_lt_of_lt_mul (by rw [Nat.mul_comm]; exact hjl)
   have hr : j % sz < sz := Nat.mod_lt _ hsz
   have hjj : j / sz * sz + j % sz = j := Nat.div_add_mod' j sz
   have hg := aA9 hC' len (j / sz) (j % sz) hi hr
   rw [hjj, hj] at hg
   have hcc := (hC _ hi).2.1 _ hr
   simp only [C', if_pos hi] at hg
   rw [hjj, ← hg] at hcc
   have hadd : (⟨b, off, none⟩ : Addr).add j = ⟨b, off + j, none⟩ := by unfold Addr.add; split <;> simp_all
   rw [hadd] at hcc
   exact hcc
  ·obtain ⟨y, hy⟩ := (hC i hi).2.2
   exact ⟨y, by simp only [C', if_pos hi]; exact hy⟩
theorem X6 {α : Type} (n : Nat) (C : Nat → List Value) (f : α → Value) (g : Nat → α) (h : ∀ i, i < n → C i = [f (g i)]) : (bg0 n).flatMap C = ((bg0 n).map g).map f := by
 rw [List.map_map, List.flatMap_def]
 rw [List.map_congr_left (g := fun i => [f (g i)]) (fun i hi => h i (by simpa using hi))]
 induction n with
 | zero => simp
 | succ n ih =>
  rw [List.range_succ, List.map_append, List.flatten_append, List.map_append, ih (fun i hi => h i (by omega))]
  simp
theorem O6 {fuel : Nat} {t : TypeId} {v : Value} {x : DataW H × List MemPlace} (ht : Try.prog.underlying t = some (.slice 3))
  (h : DataW.trod enc Try.prog W 0 (fun _ => true) true fuel t [v] = some x) : ∃ l : List Int, K5 W v l.length 1 (l.map (Value.int .i64)) := by
 obtain ⟨n, m, C, hr, hC, hx⟩ := ai1 ht (sz := 1) (by kernel_rfl) (by omega) h
 obtain ⟨g, hg⟩ := choose_lt (α := Int) (n := n) (p := fun i b => C i = [.int .i64 b]) (fun i hi => by
  obtain ⟨y, hy⟩ := hx i hi
  obtain ⟨b, hb, _⟩ := DataW.trod_int Try.underlying3 hy
  exact ⟨b, hb⟩)
 refine ⟨(bg0 n).map g, ?_⟩
 rw [List.length_map, List.length_range, ← X6 n C (Value.int .i64) g hg]
 exact hr
end
end Go.Proofs.Ytgmhmijcnlfmfaa

namespace Go.Proofs.Ytgmhmijcnlfmfaa
def Y2 (b : Bool) : Int := if b then 1 else 0
def A5 (k a b : Int) : Int :=
 if k = 4 then (a + b).tmod 256 else if k = 5 then (a - b + 256).tmod 256 else if k = 6 then (a * b).tmod 256
 else if k = 7 then ((a.toNat &&& b.toNat : Nat) : Int) else if k = 8 then ((a.toNat ^^^ b.toNat : Nat) : Int) else if k = 9 then Y2 (decide (a = b)) else Y2 (decide (a < b))
theorem ai4 (b : Bool) : 0 ≤ Y2 b ∧ Y2 b ≤ 255 := by cases b <;> simp [Y2]
theorem aA7 {k a b : Int} (h1 : 0 ≤ a) (h2 : a ≤ 255) (h3 : 0 ≤ b) (h4 : b ≤ 255) : 0 ≤ A5 k a b ∧ A5 k a b ≤ 255 := by
 unfold A5
 have hm : 0 ≤ a * b := Int.mul_nonneg h1 h3
 have ha : a.toNat < 2 ^ 8 := by omega
 have hb : b.toNat < 2 ^ 8 := by omega
 have hand : a.toNat &&& b.toNat < 2 ^ 8 := Nat.and_lt_two_pow _ hb
 have hxor : a.toNat ^^^ b.toNat < 2 ^ 8 := Nat.xor_lt_two_pow ha hb
 split
 ·rw [Int.tmod_eq_emod_of_nonneg (by omega)]; omega
 split
 ·rw [Int.tmod_eq_emod_of_nonneg (by omega)]; omega
 split
 ·rw [Int.tmod_eq_emod_of_nonneg hm]; omega
 split
 ·omega
 split
 ·omega
 split
 ·exact ai4 _
 ·exact ai4 _
end Go.Proofs.Ytgmhmijcnlfmfaa

namespace Go.Proofs.Ytgmhmijcnlfmfaa
open Go Go.RowKit
theorem aw7 (a b : Nat) (ha : a < 9223372036854775808) (hb : b < 9223372036854775808) : bits .and .i64 (a : Int) (b : Int) = ((a &&& b : Nat) : Int) := by
 have hx : a &&& b < 2 ^ 63 := Nat.and_lt_two_pow _ (by omega)
 have h1 : (BitVec.ofInt 64 (a : Int)).toNat = a := by
  rw [BitVec.ofInt_natCast, BitVec.toNat_ofNat]; exact Nat.mod_eq_of_lt (by omega)
 have h2 : (BitVec.ofInt 64 (b : Int)).toNat = b := by
  rw [BitVec.ofInt_natCast, BitVec.toNat_ofNat]; exact Nat.mod_eq_of_lt (by omega)
 show IntKind.i64.wrap ((BitVec.ofInt 64 (a : Int) &&& BitVec.ofInt 64 (b : Int)).toNat : Int) = _
 rw [BitVec.toNat_and, h1, h2, IntKind.wrap_i64]
 omega
theorem aw6 (a b : Nat) (ha : a < 9223372036854775808) (hb : b < 9223372036854775808) : bits .xor .i64 (a : Int) (b : Int) = ((a ^^^ b : Nat) : Int) := by
 have hx : a ^^^ b < 2 ^ 63 := Nat.xor_lt_two_pow (by omega) (by omega)
 have h1 : (BitVec.ofInt 64 (a : Int)).toNat = a := by
  rw [BitVec.ofInt_natCast, BitVec.toNat_ofNat]; exact Nat.mod_eq_of_lt (by omega)
 have h2 : (BitVec.ofInt 64 (b : Int)).toNat = b := by
  rw [BitVec.ofInt_natCast, BitVec.toNat_ofNat]; exact Nat.mod_eq_of_lt (by omega)
 show IntKind.i64.wrap ((BitVec.ofInt 64 (a : Int) ^^^ BitVec.ofInt 64 (b : Int)).toNat : Int) = _
 rw [BitVec.toNat_xor, h1, h2, IntKind.wrap_i64]
 omega
theorem ae6 {a b : Int} (h1 : 0 ≤ a) (h2 : a ≤ 255) (h3 : 0 ≤ b) (h4 : b ≤ 255) : bits .and .i64 a b = ((a.toNat &&& b.toNat : Nat) : Int) := by
 rw [← aw7 _ _ (by omega) (by omega), Int.toNat_of_nonneg h1, Int.toNat_of_nonneg h3]
theorem ae5 {a b : Int} (h1 : 0 ≤ a) (h2 : a ≤ 255) (h3 : 0 ≤ b) (h4 : b ≤ 255) : bits .xor .i64 a b = ((a.toNat ^^^ b.toNat : Nat) : Int) := by
 rw [← aw6 _ _ (by omega) (by omega), Int.toNat_of_nonneg h1, Int.toNat_of_nonneg h3]
theorem ah9 (b : Bool) (w : World) : Calls Try.prog 218 #[.bool b] w fun e w' => e = .returned (.int .i64 (Y2 b)) ∧ w = w' := by
 cases b
 all_goals
  go_enter Try.func218, Try.ntmps218
  go_wp2_with fail
  go_ret
  exact ⟨rfl, rfl⟩
theorem am6 (b : Bool) (w : World) : Calls Try.prog 203 #[.bool b] w fun e w' => e = .returned (.int .i64 (Y2 b)) ∧ w = w' := by
 cases b
 all_goals
  go_enter Try.func203, Try.ntmps203
  go_wp2_with fail
  go_ret
  exact ⟨rfl, rfl⟩
theorem aE3 (k a b : Int) (w : World) (h1 : 0 ≤ a) (h2 : a ≤ 255) (h3 : 0 ≤ b) (h4 : b ≤ 255) : Calls Try.prog 184 #[.int .i64 k, .int .i64 a, .int .i64 b] w fun e w' => e = .returned (.int .i64 (A5 k a b)) ∧ w = w' := by
 have hm : 0 ≤ a * b := Int.mul_nonneg h1 h3
 have hm2 : a * b ≤ 65025 := by
  have := Int.mul_le_mul h2 h4 h3 (by omega : (0 : Int) ≤ 255)
  omega
 by_cases k4 : k = 4
 ·subst k4
  have HV : Hid (A5 4 a b = (a + b).tmod 256) := by unfold Hid A5; simp
  go_enter Try.func184, Try.ntmps184
  go_wp2_with fail
  go_ret
  exact ⟨s6 (by rw [HV.out]; exact (Int.tmod_eq_emod_of_nonneg (by first | assumption | omega)).symm), rfl⟩
 by_cases k5 : k = 5
 ·subst k5
  have HV : Hid (A5 5 a b = (a - b + 256).tmod 256) := by unfold Hid A5; simp
  go_enter Try.func184, Try.ntmps184
  go_wp2_with fail
  go_ret
  exact ⟨s6 (by rw [HV.out]; exact (Int.tmod_eq_emod_of_nonneg (by first | assumption | omega)).symm), rfl⟩
 by_cases k6 : k = 6
 ·subst k6
  have HV : Hid (A5 6 a b = (a * b).tmod 256) := by unfold Hid A5; simp
  go_enter Try.func184, Try.ntmps184
  go_wp2_with fail
  go_ret
  exact ⟨s6 (by rw [HV.out]; exact (Int.tmod_eq_emod_of_nonneg (by first | assumption | omega)).symm), rfl⟩
 by_cases k7 : k = 7
 ·subst k7
  have HV : Hid (A5 7 a b = bits .and .i64 a b) := by unfold Hid; rw [ae6 h1 h2 h3 h4]; unfold A5; simp
  go_enter Try.func184, Try.ntmps184
  go_wp2_with fail
  go_ret
  exact ⟨s6 (by rw [HV.out]), rfl⟩
 by_cases k8 : k = 8
 ·subst k8
  have HV : Hid (A5 8 a b = bits .xor .i64 a b) := by unfold Hid; rw [ae5 h1 h2 h3 h4]; unfold A5; simp
  go_enter Try.func184, Try.ntmps184
  go_wp2_with fail
  go_ret
  exact ⟨s6 (by rw [HV.out]), rfl⟩
 have HK := show Hid _ from And.intro k4 (And.intro k5 (And.intro k6 (And.intro k7 k8)))
 have p4 : (k == 4) = false := by simp [k4]
 have p5 : (k == 5) = false := by simp [k5]
 have p6 : (k == 6) = false := by simp [k6]
 have p7 : (k == 7) = false := by simp [k7]
 have p8 : (k == 8) = false := by simp [k8]
 clear k4 k5 k6 k7 k8
 by_cases k9 : k = 9
 ·subst k9
  have HV : Hid (A5 9 a b = Y2 (decide (a = b))) := by unfold Hid A5; simp
  clear hm hm2
  go_enter Try.func184, Try.ntmps184
  go_wp2_with fail
  refine (ah9 _ _).mono ?_
  rintro x w1 ⟨rfl, rfl⟩
  go_wp2_with fail
  go_ret
  exact ⟨s6 (by rw [HV.out]; congr 1), rfl⟩
 ·have HV : Hid (A5 k a b = Y2 (decide (a < b))) := by
   obtain ⟨k4, k5, k6, k7, k8⟩ := HK.out
   unfold Hid A5; rw [if_neg k4, if_neg k5, if_neg k6, if_neg k7, if_neg k8, if_neg k9]
  have p9 : (k == 9) = false := by simp [k9]
  clear hm hm2 k9
  go_enter Try.func184, Try.ntmps184
  go_wp2_with fail
  refine (ah9 _ _).mono ?_
  rintro x w1 ⟨rfl, rfl⟩
  go_wp2_with fail
  go_ret
  exact ⟨s6 (by rw [HV.out]), rfl⟩
theorem av4 (k a b : Int) (w : World) (h1 : 0 ≤ a) (h2 : a ≤ 255) (h3 : 0 ≤ b) (h4 : b ≤ 255) : Calls Try.prog 156 #[.int .i64 k, .int .i64 a, .int .i64 b] w fun e w' => e = .returned (.int .i64 (A5 k a b)) ∧ w = w' := by
 have hm : 0 ≤ a * b := Int.mul_nonneg h1 h3
 have hm2 : a * b ≤ 65025 := by
  have := Int.mul_le_mul h2 h4 h3 (by omega : (0 : Int) ≤ 255)
  omega
 by_cases k4 : k = 4
 ·subst k4
  have HV : Hid (A5 4 a b = (a + b).tmod 256) := by unfold Hid A5; simp
  go_enter Try.func156, Try.ntmps156
  go_wp2_with fail
  go_ret
  exact ⟨s6 (by rw [HV.out]; exact (Int.tmod_eq_emod_of_nonneg (by first | assumption | omega)).symm), rfl⟩
 by_cases k5 : k = 5
 ·subst k5
  have HV : Hid (A5 5 a b = (a - b + 256).tmod 256) := by unfold Hid A5; simp
  go_enter Try.func156, Try.ntmps156
  go_wp2_with fail
  go_ret
  exact ⟨s6 (by rw [HV.out]; exact (Int.tmod_eq_emod_of_nonneg (by first | assumption | omega)).symm), rfl⟩
 by_cases k6 : k = 6
 ·subst k6
  have HV : Hid (A5 6 a b = (a * b).tmod 256) := by unfold Hid A5; simp
  go_enter Try.func156, Try.ntmps156
  go_wp2_with fail
  go_ret
  exact ⟨s6 (by rw [HV.out]; exact (Int.tmod_eq_emod_of_nonneg (by first | assumption | omega)).symm), rfl⟩
 by_cases k7 : k = 7
 ·subst k7
  have HV : Hid (A5 7 a b = bits .and .i64 a b) := by unfold Hid; rw [ae6 h1 h2 h3 h4]; unfold A5; simp
  go_enter Try.func156, Try.ntmps156
  go_wp2_with fail
  go_ret
  exact ⟨s6 (by rw [HV.out]), rfl⟩
 by_cases k8 : k = 8
 ·subst k8
  have HV : Hid (A5 8 a b = bits .xor .i64 a b) := by unfold Hid; rw [ae5 h1 h2 h3 h4]; unfold A5; simp
  go_enter Try.func156, Try.ntmps156
  go_wp2_with fail
  go_ret
  exact ⟨s6 (by rw [HV.out]), rfl⟩
 have HK := show Hid _ from And.intro k4 (And.intro k5 (And.intro k6 (And.intro k7 k8)))
 have p4 : (k == 4) = false := by simp [k4]
 have p5 : (k == 5) = false := by simp [k5]
 have p6 : (k == 6) = false := by simp [k6]
 have p7 : (k == 7) = false := by simp [k7]
 have p8 : (k == 8) = false := by simp [k8]
 clear k4 k5 k6 k7 k8
 by_cases k9 : k = 9
 ·subst k9
  have HV : Hid (A5 9 a b = Y2 (decide (a = b))) := by unfold Hid A5; simp
  clear hm hm2
  go_enter Try.func156, Try.ntmps156
  go_wp2_with fail
  refine (am6 _ _).mono ?_
  rintro x w1 ⟨rfl, rfl⟩
  go_wp2_with fail
  go_ret
  exact ⟨s6 (by rw [HV.out]; congr 1), rfl⟩
 ·have HV : Hid (A5 k a b = Y2 (decide (a < b))) := by
   obtain ⟨k4, k5, k6, k7, k8⟩ := HK.out
   unfold Hid A5; rw [if_neg k4, if_neg k5, if_neg k6, if_neg k7, if_neg k8, if_neg k9]
  have p9 : (k == 9) = false := by simp [k9]
  clear hm hm2 k9
  go_enter Try.func156, Try.ntmps156
  go_wp2_with fail
  refine (am6 _ _).mono ?_
  rintro x w1 ⟨rfl, rfl⟩
  go_wp2_with fail
  go_ret
  exact ⟨s6 (by rw [HV.out]), rfl⟩
theorem a23 : (Try.prog.info? 23).map (fun i => (i.zero, i.size, i.bytes)) = some (some (.slice none 0 0), 1, 24) := by kernel_rfl
def Q9 (w : World) (v : Value) (m : List (List Int)) : Prop :=
 ∃ vs : List Value, K5 w v m.length 1 vs ∧ ∀ (i : Nat) (u : Value) (r : List Int), vs[i]? = some u → m[i]? = some r → K5 w u r.length 1 (ints r)
def I2 (w : World) (lo hi : Nat) (v : Value) (m : List (List Int)) : Prop :=
 ∃ vs : List Value, I5 w lo hi 23 1 v m.length vs ∧ (∀ (i : Nat) (u : Value) (r : List Int), vs[i]? = some u → m[i]? = some r → I5 w lo hi 3 1 u r.length (ints r)) ∧
  (∀ (i j : Nat) (u u' : Value), i < j → vs[i]? = some u → vs[j]? = some u' → ap9 u u') ∧ ∀ (i : Nat) (u : Value), vs[i]? = some u → ap9 u v
theorem Q9.below {w w' : World} {v : Value} {m : List (List Int)} (h : Q9 w v m) (hb : Below w.heap.size w w') : Q9 w' v m := by
 obtain ⟨vs, h1, h2⟩ := h
 exact ⟨vs, h1.below hb, fun i u r a b => (h2 i u r a b).below hb⟩
theorem I2.row {w : World} {lo hi : Nat} {v : Value} {m : List (List Int)} (h : I2 w lo hi v m) : Q9 w v m := by
 obtain ⟨vs, h1, h2, _⟩ := h
 exact ⟨vs, h1.row, fun i u r a b => (h2 i u r a b).row⟩
theorem I2.keep {w w' : World} {lo hi B : Nat} {v : Value} {m : List (List Int)} (h : I2 w lo hi v m) (hb : Below B w w') (hB : hi ≤ B) : I2 w' lo hi v m := by
 obtain ⟨vs, h1, h2, hd⟩ := h
 exact ⟨vs, h1.keep hb hB, fun i u r a b => (h2 i u r a b).keep hb hB, hd⟩
theorem I2.out {w w' : World} {lo hi lo' hi' : Nat} {v : Value} {m : List (List Int)} (h : I2 w lo hi v m) (hb : W6 lo' hi' w w') (hB : hi ≤ lo' ∨ hi' ≤ lo) : I2 w' lo hi v m := by
 obtain ⟨vs, h1, h2, hd⟩ := h
 exact ⟨vs, h1.out hb hB, fun i u r a b => (h2 i u r a b).out hb hB, hd⟩
theorem I2.wide {w : World} {lo hi lo' hi' : Nat} {v : Value} {m : List (List Int)} (h : I2 w lo hi v m) (g1 : lo' ≤ lo) (g2 : hi ≤ hi') : I2 w lo' hi' v m := by
 obtain ⟨vs, h1, h2, hd⟩ := h
 exact ⟨vs, h1.wide g1 g2, fun i u r a b => (h2 i u r a b).wide g1 g2, hd⟩
theorem Q9.open {w : World} {v : Value} {m : List (List Int)} (h : Q9 w v m) : ∃ a cap, v = .slice a m.length cap ∧ m.length ≤ 9223372036854775807 ∧
  ∀ i (hi : i < m.length), ∃ b off a' c', a = some ⟨b, off, none⟩ ∧ b < w.heap.size ∧ w.cell? ⟨b, off + i, none⟩ = some (.slice a' m[i].length c') ∧ K5 w (.slice a' m[i].length c') m[i].length 1 (ints m[i]) := by
 obtain ⟨vs, h1, h2⟩ := h
 obtain ⟨a, cap, hv, hc, hm, hm2, hcell⟩ := h1.open1
 refine ⟨a, cap, hv, hm, fun i hi => ?_⟩
 obtain ⟨b, off, ha, hb, hx⟩ := hcell i hi
 have hl : i < vs.length := by rw [h1.1]; omega
 rw [be9 hl] at hx
 have hr := h2 i _ _ (be9 hl) (be9 hi)
 obtain ⟨a', c', hs⟩ := hr.form
 rw [hs] at hx hr
 exact ⟨b, off, a', c', ha, hb, hx, hr⟩
def O4 (m : List (List Int)) : Nat := (m.map List.length).sum
def al7 (m : List (List Int)) : Nat := m.length + O4 m
theorem at4 (m : List (List Int)) (k : Nat) (h : k < m.length) : O4 (m.take (k + 1)) = O4 (m.take k) + m[k].length := by
 unfold O4
 rw [s8 _ _ h, List.map_append, List.sum_append]
 simp only [bh1, List.map_nil, List.sum_cons, List.sum_nil, bi2]
theorem aF0 (m : List (List Int)) (k : Nat) : O4 (m.take k) ≤ O4 m := by
 have := congrArg O4 (List.take_append_drop k m)
 simp only [O4, List.map_append, List.sum_append] at this ⊢
 omega
theorem aZ6 (m : List (List Int)) (k : Nat) (h : k < m.length) : m[k].length ≤ O4 m := by
 have h1 := at4 m k h
 have h2 := aF0 m (k + 1)
 omega
theorem ax4 (v : Value) (m : List (List Int)) (w : World) (h : Q9 w v m) (hb : al7 m ≤ 1048576) :
  Calls Try.prog 115 #[v] w fun e w' => ∃ u, e = .returned u ∧ I2 w' w.heap.size w'.heap.size u m ∧ Below w.heap.size w w' := by
 obtain ⟨a1, c1, rfl, hm1, hc1⟩ := h.open
 clear h
 have hm2 : m.length ≤ 1048576 := by unfold al7 at hb; omega
 have hmk := X7 (P := Try.prog) (t := 35) Try.underlying35 a23 rfl (by omega) m.length (by omega) hm1
 have hown := X1 w (Value.slice none 0 0).cells.toList m.length 1 23 rfl hm1
 go_enter Try.func115, Try.ntmps115
 go_wp2_with fail
 clear hmk
 go_loopw [4] (fun i wr => ∃ (k : Nat) (vs : List Value), k ≤ m.length ∧ i = .int .i64 k ∧ I5 wr w.heap.size (w.heap.size + 1) 23 1 (.slice (some ⟨w.heap.size, 0, none⟩) m.length m.length) m.length vs ∧
   (∀ (i : Nat) (u : Value) (r : List Int), i < k → vs[i]? = some u → m[i]? = some r → I5 wr (w.heap.size + 1) wr.heap.size 3 1 u r.length (ints r)) ∧
   (∀ (i j : Nat) (u u' : Value), i < j → j < k → vs[i]? = some u → vs[j]? = some u' → ap9 u u') ∧ Below w.heap.size w wr) (fun i _ => m.length - (intOf i).toNat)
 case atStart => exact ⟨0, _, bg3 _, rfl, hown, fun i u r h => by omega, fun i j u u' _ h => by omega, (Below.refl _ _).alloc (bf5 _) _⟩
 case round =>
  obtain ⟨k, vs, hk, rfl, ho, hrow, hdis, hbw⟩ := hrel
  clear hown
  by_cases hlt : k < m.length
  ·obtain ⟨b1, o1, a', c', rfl, hb1, hx, hr⟩ := hc1 k hlt
   rw [← (V9 hbw).1 _ _ hb1] at hx
   have HY := show Hid (vs.length = m.length) from by have := ho.1.1; unfold Hid; omega
   have hrl := aZ6 m k hlt
   have hrl2 : m[k].length ≤ 1048576 := by unfold al7 at hb; omega
   have HR := show Hid _ from hrow
   have HD := show Hid _ from hdis
   clear hrl hc1 hrow hdis
   go_wp2_with fail
   refine (T8 _ m[k] _ (hr.below hbw) (by omega)).mono ?_
   rintro e w1 ⟨u1, rfl, o1, b1⟩
   obtain ⟨a2, k2, rfl⟩ := o1.form
   have hs : w.heap.size < wr.heap.size := (ho.lt _ rfl).2.2
   have ho1 := ho.keep b1 (by omega)
   obtain ⟨g, cap, hv, hg1, hg2, hg3, f0, u0, y0⟩ := ho1.at (j := k) (by have := HY.out; omega)
   cases hv
   go_wp2_with fail
   have hs1 := b1.size
   refine ⟨⟨k + 1, vs.set k (.slice a2 m[k].length k2), by omega, by go_num, ho1.setCell (by have := HY.out; omega) _, ?_, ?_, (hbw.trans (b1.mono hbw.size)).setCell (bf5 _) _⟩, by simp [intOf]; omega⟩
   ·intro i u r hi hu hr'
    by_cases hik : i = k
    ·subst hik
     rw [List.getElem?_set_self (by have := HY.out; omega)] at hu
     cases hu
     rw [be9 hlt] at hr'
     cases hr'
     exact (o1.other (b := w.heap.size) (by omega) _ _).wide (by omega) (by simp)
    ·rw [List.getElem?_set_ne (by omega)] at hu
     exact (((HR.out i u r (by omega) hu hr').keep b1 (bf5 _)).other (b := w.heap.size) (by omega) _ _).wide (bf5 _) (by simpa using hs1)
   ·intro i j u u' hij hj hu hu'
    rw [List.getElem?_set_ne (by omega)] at hu
    by_cases hjk : j = k
    ·subst hjk
     rw [List.getElem?_set_self (by have := HY.out; omega)] at hu'
     cases hu'
     exact aK6 (HR.out i u _ (by omega) hu (be9 (by omega))) o1 (by omega)
    ·rw [List.getElem?_set_ne (by omega)] at hu'
     exact HD.out i j u u' hij (by omega) hu hu'
  ·go_wp2_with fail
   go_ret
   obtain rfl : k = m.length := by omega
   have hs : w.heap.size < wr.heap.size := (ho.lt _ rfl).2.2
   have hl : ∀ (i : Nat) (u : Value), vs[i]? = some u → i < m.length := fun i u h => by
    have := (bf3.1 h).1
    have := ho.1.1
    omega
   refine ⟨_, rfl, ⟨vs, ho.wide (bf5 _) (by omega), fun i u r hu hr => (hrow i u r (hl i u hu) hu hr).wide (by omega) (bf5 _), fun i j u u' hij hu hu' => hdis i j u u' hij (hl j u' hu') hu hu', fun i u hu => ?_⟩, hbw⟩
   exact aK6 (hrow i u _ (hl i u hu) hu (be9 (hl i u hu))) ho (by omega)
end Go.Proofs.Ytgmhmijcnlfmfaa

namespace Go.Proofs.Ytgmhmijcnlfmfaa
open Go Go.RowKit Go.ChangeShapes Go.WideShapes Go.Deep
section
variable {H : Type} {enc : TypeId × Value → H} {W : World}
theorem H3 {t e : TypeId} {fuel : Nat} {v : Value} {x : DataW H × List MemPlace} {sz : Nat} (ht : Try.prog.underlying t = some (.slice e)) (hc : Try.prog.cellsOf e = sz) (hsz : 0 < sz)
  (h : DataW.trod enc Try.prog W 0 (fun _ => true) true fuel t [v] = some x) :
  ∃ (n m : Nat) (C : Nat → List Value), K5 W v n sz ((bg0 n).flatMap C) ∧ (∀ i, (C i).length = sz) ∧ ∀ i, i < n → m < fuel ∧ ∃ y, DataW.trod enc Try.prog W 0 (fun _ => true) true m e (C i) = some y := by
 rcases DataW.trod_slice ht h with ⟨hcs, _⟩ | ⟨a, len, cap, elems, rest, k, hfu, hcs, _, hb, hl, hm, hlen, hel, _, _⟩
 ·cases hcs
  exact ⟨0, 0, fun _ => bh8 sz undef, K5.nil _ _, by simp, fun i hi => by omega⟩
 ·cases hcs
  rw [hc] at hel
  obtain ⟨C, hC⟩ := choose_lt (α := List Value) (n := len) (p := fun i cs => cs.length = sz ∧ (∀ j, j < sz → W.cell? (a.add (i * sz + j)) = cs[j]?) ∧ ∃ y, DataW.trod enc Try.prog W 0 (fun _ => true) true k e cs = some y) (fun i hi => by
   have h0 := hel i hi
   rw [be9 (by omega)] at h0
   obtain ⟨cs', h1, h2⟩ := Option.bind_eq_some_iff.1 h0
   obtain ⟨_, hlen, hcell⟩ := World.cells?_some h1
   exact ⟨cs', hlen, fun j hj => by rw [← add_add]; exact hcell j hj, _, h2⟩)
  let C' : Nat → List Value := fun i => if i < len then C i else bh8 sz undef
  have hC' : ∀ i, (C' i).length = sz := fun i => by
   by_cases hi : i < len
   ·simp only [C', if_pos hi]; exact (hC i hi).1
   ·simp [C', if_neg hi]
  refine ⟨len, k, C', ⟨ad9 hC' len, some a, cap, rfl, hl, hm, fun hn => ?_⟩, hC', fun i hi => ?_⟩
  ·obtain ⟨b, off, spot⟩ := a
   have h00 := (hC 0 hn).2.1 0 hsz
   have hlen0 := (hC 0 hn).1
   rw [be9 (by omega)] at h00
   have hs : spot = none := by
    simpa [Addr.add] using World.cell?_spot h00
   subst hs
   have hb : b < W.heap.size := by simpa [Addr.add] using World.block_lt_of_cell? W _ h00
   refine ⟨b, off, rfl, hb, fun j u hj => ?_⟩
   have hjl : j < len * sz := by have := (bf3.1 hj).1; rw [ad9 hC'] at this; exact this
   have hi : j / sz < len := Nat.div_lt_of_lt_mul (by rw [Nat.mul_comm]; exact hjl)
   have hr : j % sz < sz := Nat.mod_lt _ hsz
   have hjj : j / sz * sz + j % sz = j := Nat.div_add_mod' j sz
   have hg := aA9 hC' len (j / sz) (j % sz) hi hr
   rw [hjj, hj] at hg
   have hcc := (hC _ hi).2.1 _ hr
   simp only [C', if_pos hi] at hg
   rw [hjj, ← hg] at hcc
   have hadd : (⟨b, off, none⟩ : Addr).add j = ⟨b, off + j, none⟩ := by unfold Addr.add; split <;> simp_all
   rw [hadd] at hcc
   exact hcc
  ·obtain ⟨y, hy⟩ := (hC i hi).2.2
   exact ⟨by omega, y, by simp only [C', if_pos hi]; exact hy⟩
instance inhOE : Inhabited b7 := ⟨⟨0, 0, []⟩⟩
instance inhOS : Inhabited b6 := ⟨⟨0, 0, ⟨0, 0, []⟩, ⟨0, 0, []⟩, 0, [], []⟩⟩
theorem U9 {w : World} {φ : Nat → Prop} (C : Nat → List Value) (g : Nat → b7) : ∀ l : List Nat, (∀ i ∈ l, H1 w φ (g i) (C i)) → A4 w φ (l.map g) (l.flatMap C)
 | [], _ => rfl
 | a :: r, h => ⟨C a, r.flatMap C, rfl, h a bg2, U9 C g r fun i hi => h i (bg5 _ hi)⟩
theorem N9 {w : World} {φ : Nat → Prop} (C : Nat → List Value) (g : Nat → b6) : ∀ l : List Nat, (∀ i ∈ l, H0 w φ (g i) (C i)) → w9 w φ (l.map g) (l.flatMap C)
 | [], _ => rfl
 | a :: r, h => ⟨C a, r.flatMap C, rfl, h a bg2, N9 C g r fun i hi => h i (bg5 _ hi)⟩
theorem V0 : ∀ (fuel : Nat) (cs : List Value) (x : DataW H × List MemPlace), DataW.trod enc Try.prog W 0 (fun _ => true) true fuel 92 cs = some x → ∃ e, H1 W (fun _ => True) e cs := by
 intro fuel
 induction fuel using Nat.strongRecOn with
 | ind fuel ih =>
  intro cs x h
  obtain ⟨ys, k, hfu, _, hl, hys, hf⟩ := DataW.trod_struct Try.underlying92 h
  rw [show Try.prog.cellsOf 92 = 3 from by kernel_rfl] at hl
  match cs, hl with
  | [c0, c1, c2], _ =>
   have h0 := hf 0 _ rfl
   have h1 := hf 1 _ rfl
   have h2 := hf 2 _ rfl
   rw [be9 (by rw [hys]; decide)] at h0 h1 h2
   have e0 := DataW.trod_int Try.underlying3 ((show Try.prog.cellsOf 3 = 1 from by kernel_rfl) ▸ h0)
   have e1 := DataW.trod_int Try.underlying3 ((show Try.prog.cellsOf 3 = 1 from by kernel_rfl) ▸ h1)
   have e2 := H3 (v := c2) Try.underlying90 (sz := 3) (by kernel_rfl) (by omega) ((show Try.prog.cellsOf 90 = 1 from by kernel_rfl) ▸ h2)
   obtain ⟨b0, hb0, _⟩ := e0
   obtain ⟨b1, hb1, _⟩ := e1
   obtain ⟨n, m, C, hr, hC, hx⟩ := e2
   simp at hb0 hb1
   obtain ⟨g, hg⟩ := choose_lt (α := b7) (n := n) (p := fun i e => H1 W (fun _ => True) e (C i)) (fun i hi => by
    obtain ⟨hm, y, hy⟩ := hx i hi
    exact ih m (by omega) _ _ hy)
   refine ⟨⟨b0, b1, (bg0 n).map g⟩, c2, _, by rw [hb0, hb1], ?_, U9 C g (bg0 n) fun i hi => hg i (by simpa using hi)⟩
   rw [List.length_map, List.length_range]
   exact hr.rowF fun _ _ => trivial
theorem av2 {fuel : Nat} {v : Value} {x : DataW H × List MemPlace} (h : DataW.trod enc Try.prog W 0 (fun _ => true) true fuel 90 [v] = some x) : ∃ ks, s7 W (fun _ => True) v ks := by
 obtain ⟨n, m, C, hr, hC, hx⟩ := H3 Try.underlying90 (sz := 3) (by kernel_rfl) (by omega) h
 obtain ⟨g, hg⟩ := choose_lt (α := b7) (n := n) (p := fun i e => H1 W (fun _ => True) e (C i)) (fun i hi => by
  obtain ⟨hm, y, hy⟩ := hx i hi
  exact V0 m _ _ hy)
 refine ⟨(bg0 n).map g, _, ?_, U9 C g (bg0 n) fun i hi => hg i (by simpa using hi)⟩
 rw [List.length_map, List.length_range]
 exact hr.rowF fun _ _ => trivial
theorem as5 : ∀ (fuel : Nat) (cs : List Value) (x : DataW H × List MemPlace), DataW.trod enc Try.prog W 0 (fun _ => true) true fuel 190 cs = some x → ∃ s, H0 W (fun _ => True) s cs := by
 intro fuel
 induction fuel using Nat.strongRecOn with
 | ind fuel ih =>
  intro cs x h
  obtain ⟨ys, k, hfu, _, hl, hys, hf⟩ := DataW.trod_struct Try.underlying190 h
  rw [show Try.prog.cellsOf 190 = 11 from by kernel_rfl] at hl
  match cs, hl with
  | [c0, c1, c2, c3, c4, c5, c6, c7, c8, c9, c10], _ =>
   have h0 := hf 0 _ rfl
   have h1 := hf 1 _ rfl
   have h2 := hf 2 _ rfl
   have h3 := hf 3 _ rfl
   have h4 := hf 4 _ rfl
   have h5 := hf 5 _ rfl
   have h6 := hf 6 _ rfl
   rw [be9 (by rw [hys]; decide)] at h0 h1 h2 h3 h4 h5 h6
   obtain ⟨b0, hb0, _⟩ := DataW.trod_int Try.underlying3 ((show Try.prog.cellsOf 3 = 1 from by kernel_rfl) ▸ h0)
   obtain ⟨b1, hb1, _⟩ := DataW.trod_int Try.underlying3 ((show Try.prog.cellsOf 3 = 1 from by kernel_rfl) ▸ h1)
   obtain ⟨b4, hb4, _⟩ := DataW.trod_int Try.underlying3 ((show Try.prog.cellsOf 3 = 1 from by kernel_rfl) ▸ h4)
   obtain ⟨ie, hie⟩ := V0 k [c2, c3, c4] _ ((show Try.prog.cellsOf 92 = 3 from by kernel_rfl) ▸ h2)
   obtain ⟨ve, hve⟩ := V0 k [c5, c6, c7] _ ((show Try.prog.cellsOf 92 = 3 from by kernel_rfl) ▸ h3)
   obtain ⟨n, m, C, hr, hC, hx⟩ := H3 (v := c9) Try.underlying74 (sz := 11) (by kernel_rfl) (by omega) ((show Try.prog.cellsOf 74 = 1 from by kernel_rfl) ▸ h5)
   obtain ⟨n', m', C', hr', hC', hx'⟩ := H3 (v := c10) Try.underlying74 (sz := 11) (by kernel_rfl) (by omega) ((show Try.prog.cellsOf 74 = 1 from by kernel_rfl) ▸ h6)
   simp at hb0 hb1 hb4
   obtain ⟨g, hg⟩ := choose_lt (α := b6) (n := n) (p := fun i e => H0 W (fun _ => True) e (C i)) (fun i hi => by
    obtain ⟨hm, y, hy⟩ := hx i hi
    exact ih m (by omega) _ _ hy)
   obtain ⟨g', hg'⟩ := choose_lt (α := b6) (n := n') (p := fun i e => H0 W (fun _ => True) e (C' i)) (fun i hi => by
    obtain ⟨hm, y, hy⟩ := hx' i hi
    exact ih m' (by omega) _ _ hy)
   obtain ⟨iv, hi1, hi2⟩ := (H1.iff _ _).1 hie
   obtain ⟨vv, hv1, hv2⟩ := (H1.iff _ _).1 hve
   simp at hi1 hv1
   obtain ⟨i1, i2, i3⟩ := hi1
   obtain ⟨v1, v2, v3⟩ := hv1
   refine ⟨⟨b0, b1, ie, ve, b4, (bg0 n).map g, (bg0 n').map g'⟩, iv, vv, c9, c10, _, _, by rw [hb0, hb1, hb4, i1, i2, i3, v1, v2, v3], hi2, hv2, ?_, N9 C g (bg0 n) fun i hi => hg i (by simpa using hi), ?_, N9 C' g' (bg0 n') fun i hi => hg' i (by simpa using hi)⟩
   ·rw [List.length_map, List.length_range]
    exact hr.rowF fun _ _ => trivial
   ·rw [List.length_map, List.length_range]
    exact hr'.rowF fun _ _ => trivial
theorem ap8 {fuel : Nat} {v : Value} {x : DataW H × List MemPlace} (h : DataW.trod enc Try.prog W 0 (fun _ => true) true fuel 74 [v] = some x) : ∃ ss, t3 W (fun _ => True) v ss := by
 obtain ⟨n, m, C, hr, hC, hx⟩ := H3 Try.underlying74 (sz := 11) (by kernel_rfl) (by omega) h
 obtain ⟨g, hg⟩ := choose_lt (α := b6) (n := n) (p := fun i e => H0 W (fun _ => True) e (C i)) (fun i hi => by
  obtain ⟨hm, y, hy⟩ := hx i hi
  exact as5 m _ _ hy)
 refine ⟨(bg0 n).map g, _, ?_, N9 C g (bg0 n) fun i hi => hg i (by simpa using hi)⟩
 rw [List.length_map, List.length_range]
 exact hr.rowF fun _ _ => trivial
theorem at7 {r : Reach} {b0 : Nat} {v : Value} {d : DataW H} {p : List MemPlace} (hv : Value.okWide Try.prog W r b0 76 v)
  (h : DataW.Trod enc Try.prog W 0 (fun _ => true) true 76 v d p) : ∃ c : l9, ae8 W (fun _ => True) v c := by
 obtain ⟨v0, v1, v2, y0, y1, y2, n, rfl, -, -, h0, h1, h2⟩ := Joins.open_agg3 Try.underlying76 (by kernel_rfl) (by kernel_rfl) hv h
 obtain ⟨l0, r0⟩ := O6 Try.underlying23 h0
 obtain ⟨l1, r1⟩ := O6 Try.underlying23 h1
 obtain ⟨l2, r2⟩ := ap8 h2
 exact ⟨⟨l0, l1, l2⟩, _, _, _, rfl, r0.rowF fun _ _ => trivial, r1.rowF fun _ _ => trivial, r2⟩
theorem ap5 {r : Reach} {b0 : Nat} {v : Value} {d : DataW H} {p : List MemPlace} (hv : Value.okWide Try.prog W r b0 92 v)
  (h : DataW.Trod enc Try.prog W 0 (fun _ => true) true 92 v d p) : ∃ c : b7, I4 W (fun _ => True) v c := by
 obtain ⟨v0, v1, v2, y0, y1, y2, n, rfl, -, -, h0, h1, h2⟩ := Joins.open_agg3 Try.underlying92 (by kernel_rfl) (by kernel_rfl) hv h
 obtain ⟨n0, e0, _⟩ := DataW.trod_int Try.underlying3 h0
 obtain ⟨n1, e1, _⟩ := DataW.trod_int Try.underlying3 h1
 obtain ⟨ks, r2⟩ := av2 h2
 simp at e0 e1
 exact ⟨⟨n0, n1, ks⟩, v2, by rw [e0, e1]; rfl, r2⟩
end
end Go.Proofs.Ytgmhmijcnlfmfaa
