/- Part 2: functions on the way, plain laws. Conditions: as said. -/
import Derived.Test.YtgmhmijcnlfmfaaGreatRows
import Derived.OpenShut
import Derived.ChangeOld
import Derived.Deep.Slices
import Derived.Lib.SmallJoins
import Derived.StillTailTactics
import Derived.Test.YtgmhmijcnlfmfaaGreatK1
set_option maxRecDepth 100000
set_option maxHeartbeats 16000000
set_option linter.unusedVariables false
set_option linter.unusedSimpArgs false
open Bool renaming and_eq_true → bW2
open List renaming getElem?_append_left → bX8, getElem?_append_right → b01, getElem?_eq_getElem → bW4, getElem?_eq_some_iff → bX1, length_append → bX5, range → bY1, replicate → bW8
open Nat renaming mul_le_mul_right → bZ7, succ_mul → bZ2

namespace Go.Proofs.YtgmhmijcnlfmfaaGreat
open Go Go.RowKit Go.ChangeShapes Go.WideShapes Go.Deep
theorem own : ownKnob Tryz.prog.godebug = none := by kernel_rfl
theorem bs4 : laidOutB Tryz.prog = true := by kernel_rfl
section
variable {H : Type} {enc : TypeId × Value → H} {W : World}
theorem bk2 {C : Nat → List Value} {sz : Nat} (hC : ∀ i, (C i).length = sz) : ∀ (n i j : Nat), i < n → j < sz → ((bY1 n).flatMap C)[i * sz + j]? = (C i)[j]? := by
 intro n
 induction n with
 | zero => intro i j h; omega
 | succ n ih =>
  intro i j h hj
  have hlen : ((bY1 n).flatMap C).length = n * sz := by
   clear ih h
   induction n with
   | zero => simp
   | succ n ih2 => rw [List.range_succ, List.flatMap_append, bX5, ih2]; simp [hC, bZ2]
  rw [List.range_succ, List.flatMap_append]
  by_cases hin : i < n
  ·rw [bX8 (by rw [hlen]; have := bZ7 sz (Nat.succ_le_of_lt hin); rw [bZ2] at this; omega)]
   exact ih i j hin hj
  ·obtain rfl : i = n := by omega
   rw [b01 (by omega), hlen]
   simp
theorem aP8 {C : Nat → List Value} {sz : Nat} (hC : ∀ i, (C i).length = sz) (n : Nat) : ((bY1 n).flatMap C).length = n * sz := by
 induction n with
 | zero => simp
 | succ n ih2 => rw [List.range_succ, List.flatMap_append, bX5, ih2]; simp [hC, bZ2]
theorem aN3 {t e : TypeId} {fuel : Nat} {v : Value} {x : DataW H × List MemPlace} {sz : Nat} (ht : Tryz.prog.underlying t = some (.slice e)) (hc : Tryz.prog.cellsOf e = sz) (hsz : 0 < sz)
  (h : DataW.trod enc Tryz.prog W 0 (fun _ => true) true fuel t [v] = some x) :
  ∃ (n m : Nat) (C : Nat → List Value), O1 W v n sz ((bY1 n).flatMap C) ∧ (∀ i, (C i).length = sz) ∧ ∀ i, i < n → ∃ y, DataW.trod enc Tryz.prog W 0 (fun _ => true) true m e (C i) = some y := by
 rcases open_slice ht h with ⟨hcs, _⟩ | ⟨a, len, cap, m, k, D, Pl, hcs, _, hl, hm, hmm, _, hx⟩
 ·cases hcs
  exact ⟨0, 0, fun _ => bW8 sz undef, O1.nil _ _, by simp, fun i hi => by omega⟩
 ·cases hcs
  rw [hc] at hx
  have hmc : len ≤ m := by rw [hmm]; simp; omega
  obtain ⟨C, hC⟩ := choose_lt (α := List Value) (n := len) (p := fun i cs => cs.length = sz ∧ (∀ j, j < sz → W.cell? (a.add (i * sz + j)) = cs[j]?) ∧ ∃ y, DataW.trod enc Tryz.prog W 0 (fun _ => true) true k e cs = some y) (fun i hi => by
   obtain ⟨cs', h1, h2⟩ := hx i (by omega)
   obtain ⟨_, hlen, hcell⟩ := World.cells?_some h1
   exact ⟨cs', hlen, fun j hj => by rw [← add_add]; exact hcell j hj, _, h2⟩)
  let C' : Nat → List Value := fun i => if i < len then C i else bW8 sz undef
  have hC' : ∀ i, (C' i).length = sz := fun i => by
   by_cases hi : i < len
   ·simp only [C', if_pos hi]; exact (hC i hi).1
   ·simp [C', if_neg hi]
  refine ⟨len, k, C', ⟨aP8 hC' len, some a, cap, rfl, hl, hm, fun hn => ?_⟩, hC', fun i hi => ?_⟩
  ·obtain ⟨b, off, spot⟩ := a
   have h00 := (hC 0 hn).2.1 0 hsz
   have hlen0 := (hC 0 hn).1
   rw [bW4 (by omega)] at h00
   have hs : spot = none := by
    simpa [Addr.add] using World.cell?_spot h00
   subst hs
   have hb : b < W.heap.size := by simpa [Addr.add] using World.block_lt_of_cell? W _ h00
   refine ⟨b, off, rfl, hb, fun j u hj => ?_⟩
   have hjl : j < len * sz := by have := (bX1.1 hj).1; rw [aP8 hC'] at this; exact this
   have hi : j / sz < len := Nat.div_lt_of_lt_mul (by rw [Nat.mul_comm]; exact hjl)
   have hr : j % sz < sz := Nat.mod_lt _ hsz
   have hjj : j / sz * sz + j % sz = j := Nat.div_add_mod' j sz
   have hg := bk2 hC' len (j / sz) (j % sz) hi hr
   rw [hjj, hj] at hg
   have hcc := (hC _ hi).2.1 _ hr
   simp only [C', if_pos hi] at hg
   rw [hjj, ← hg] at hcc
   have hadd : (⟨b, off, none⟩ : Addr).add j = ⟨b, off + j, none⟩ := by unfold Addr.add; split <;> simp_all
   rw [hadd] at hcc
   exact hcc
  ·obtain ⟨y, hy⟩ := (hC i hi).2.2
   exact ⟨y, by simp only [C', if_pos hi]; exact hy⟩
theorem av0 {α : Type} (n : Nat) (C : Nat → List Value) (f : α → Value) (g : Nat → α) (h : ∀ i, i < n → C i = [f (g i)]) : (bY1 n).flatMap C = ((bY1 n).map g).map f := by
 rw [List.map_map, List.flatMap_def]
 rw [List.map_congr_left (g := fun i => [f (g i)]) (fun i hi => h i (by simpa using hi))]
 induction n with
 | zero => simp
 | succ n ih =>
  rw [List.range_succ, List.map_append, List.flatten_append, List.map_append, ih (fun i hi => h i (by omega))]
  simp
end
end Go.Proofs.YtgmhmijcnlfmfaaGreat

namespace Go.Proofs.YtgmhmijcnlfmfaaGreat
open Go Go.RowKit
theorem bs6 : (Tryz.prog.info? 23).map (fun i => (i.zero, i.size, i.bytes)) = some (some (.slice none 0 0), 1, 24) := by kernel_rfl
def ab8 (w : World) (v : Value) (m : List (List Int)) : Prop :=
 ∃ vs : List Value, O1 w v m.length 1 vs ∧ ∀ (i : Nat) (u : Value) (r : List Int), vs[i]? = some u → m[i]? = some r → O1 w u r.length 1 (ints r)
def P9 (w : World) (lo hi : Nat) (v : Value) (m : List (List Int)) : Prop :=
 ∃ vs : List Value, V3 w lo hi 23 1 v m.length vs ∧ (∀ (i : Nat) (u : Value) (r : List Int), vs[i]? = some u → m[i]? = some r → V3 w lo hi 3 1 u r.length (ints r)) ∧
  (∀ (i j : Nat) (u u' : Value), i < j → vs[i]? = some u → vs[j]? = some u' → bo1 u u') ∧ ∀ (i : Nat) (u : Value), vs[i]? = some u → bo1 u v
theorem ab8.below {w w' : World} {v : Value} {m : List (List Int)} (h : ab8 w v m) (hb : Below w.heap.size w w') : ab8 w' v m := by
 obtain ⟨vs, h1, h2⟩ := h
 exact ⟨vs, h1.below hb, fun i u r a b => (h2 i u r a b).below hb⟩
theorem P9.row {w : World} {lo hi : Nat} {v : Value} {m : List (List Int)} (h : P9 w lo hi v m) : ab8 w v m := by
 obtain ⟨vs, h1, h2, _⟩ := h
 exact ⟨vs, h1.row, fun i u r a b => (h2 i u r a b).row⟩
theorem P9.keep {w w' : World} {lo hi B : Nat} {v : Value} {m : List (List Int)} (h : P9 w lo hi v m) (hb : Below B w w') (hB : hi ≤ B) : P9 w' lo hi v m := by
 obtain ⟨vs, h1, h2, hd⟩ := h
 exact ⟨vs, h1.keep hb hB, fun i u r a b => (h2 i u r a b).keep hb hB, hd⟩
theorem P9.out {w w' : World} {lo hi lo' hi' : Nat} {v : Value} {m : List (List Int)} (h : P9 w lo hi v m) (hb : Out lo' hi' w w') (hB : hi ≤ lo' ∨ hi' ≤ lo) : P9 w' lo hi v m := by
 obtain ⟨vs, h1, h2, hd⟩ := h
 exact ⟨vs, h1.out hb hB, fun i u r a b => (h2 i u r a b).out hb hB, hd⟩
theorem ab8.open {w : World} {v : Value} {m : List (List Int)} (h : ab8 w v m) : ∃ a cap, v = .slice a m.length cap ∧ m.length ≤ 9223372036854775807 ∧
  ∀ i (hi : i < m.length), ∃ b off a' c', a = some ⟨b, off, none⟩ ∧ b < w.heap.size ∧ w.cell? ⟨b, off + i, none⟩ = some (.slice a' m[i].length c') ∧ O1 w (.slice a' m[i].length c') m[i].length 1 (ints m[i]) := by
 obtain ⟨vs, h1, h2⟩ := h
 obtain ⟨a, cap, hv, hc, hm, hm2, hcell⟩ := h1.open1
 refine ⟨a, cap, hv, hm, fun i hi => ?_⟩
 obtain ⟨b, off, ha, hb, hx⟩ := hcell i hi
 have hl : i < vs.length := by rw [h1.1]; omega
 rw [bW4 hl] at hx
 have hr := h2 i _ _ (bW4 hl) (bW4 hi)
 obtain ⟨a', c', hs⟩ := hr.form
 rw [hs] at hx hr
 exact ⟨b, off, a', c', ha, hb, hx, hr⟩
end Go.Proofs.YtgmhmijcnlfmfaaGreat

namespace Go.Proofs.YtgmhmijcnlfmfaaGreat
open Go Go.RowKit Go.ChangeShapes Go.WideShapes Go.Deep
section
variable {H : Type} {enc : TypeId × Value → H} {W : World}
theorem aA0 {fuel : Nat} {t : TypeId} {v : Value} {x : DataW H × List MemPlace} (ht : Tryz.prog.underlying t = some (.slice 5))
  (h : DataW.trod enc Tryz.prog W 0 (fun _ => true) true fuel t [v] = some x) : ∃ l : List UInt8, O1 W v l.length 1 (l.map fun b => Value.int .u8 (b.toNat : Int)) := by
 obtain ⟨n, m, C, hr, hC, hx⟩ := aN3 ht (sz := 1) (by kernel_rfl) (by omega) h
 obtain ⟨g, hg⟩ := choose_lt (α := UInt8) (n := n) (p := fun i b => C i = [.int .u8 (b.toNat : Int)]) (fun i hi => by
  obtain ⟨y, hy⟩ := hx i hi
  obtain ⟨z, hz, _, hw⟩ := DataW.trod_int Tryz.underlying5 hy
  simp only [Lit.wf, bW2, decide_eq_true_eq] at hw
  have h0 : (0 : Int) ≤ z := hw.1
  have h1 : z ≤ 255 := hw.2
  refine ⟨UInt8.ofNat z.toNat, ?_⟩
  rw [hz]
  have e : (UInt8.ofNat z.toNat).toNat = z.toNat := by
   rw [UInt8.toNat_ofNat']; omega
  rw [e, Int.toNat_of_nonneg h0])
 refine ⟨(bY1 n).map g, ?_⟩
 rw [List.length_map, List.length_range, ← av0 n C (fun b => Value.int .u8 (b.toNat : Int)) g hg]
 exact hr
end
end Go.Proofs.YtgmhmijcnlfmfaaGreat
