/- Part 3: functions on the way, plain laws. Conditions: as said. -/
import Derived.Test.YtgmhmijcnlfmfaaRows
import Derived.OpenShut
import Derived.ChangeOld
import Derived.Deep.Slices
import Derived.Lib.SmallJoins
import Derived.StillTailTactics
import Derived.Deep.RegionHeld3
import Derived.Test.YtgmhmijcnlfmfaaK1
set_option maxRecDepth 100000
set_option maxHeartbeats 16000000
set_option linter.unusedVariables false
set_option linter.unusedSimpArgs false
open List renaming getElem?_append_left → be7, getElem?_append_right → be2, getElem?_eq_getElem → bb7, getElem?_eq_some_iff → bc0, getElem?_set_ne → bf1, map_cons → bd8, mem_cons_of_mem → bd5, mem_cons_self → bd3, range → bc7, replicate → bd1
open Nat renaming add_zero → be4, le_refl → bc1, le_trans → be0, mul_le_mul_right → be6, succ_mul → bd6, zero_le → bd0

namespace Go.Proofs.Ytgmhmijcnlfmfaa
open Go Go.RowKit Go.ChangeShapes Go.WideShapes Go.Deep
theorem own : ownKnob Try.prog.godebug = none := by kernel_rfl
theorem aI0 : laidOutB Try.prog = true := by kernel_rfl
section
variable {H : Type} {enc : TypeId × Value → H} {W : World}
theorem ay3 {C : Nat → List Value} {sz : Nat} (hC : ∀ i, (C i).length = sz) : ∀ (n i j : Nat), i < n → j < sz → ((bc7 n).flatMap C)[i * sz + j]? = (C i)[j]? := by
 intro n
 induction n with
 | zero => intro i j h; omega
 | succ n ih =>
  intro i j h hj
  have hlen : ((bc7 n).flatMap C).length = n * sz := by
   clear ih h
   induction n with
   | zero => simp
   | succ n ih2 => rw [List.range_succ, List.flatMap_append, List.length_append, ih2]; simp [hC, bd6]
  rw [List.range_succ, List.flatMap_append]
  by_cases hin : i < n
  ·rw [be7 (by rw [hlen]; have := be6 sz (Nat.succ_le_of_lt hin); rw [bd6] at this; omega)]
   exact ih i j hin hj
  ·obtain rfl : i = n := by omega
   rw [be2 (by omega), hlen]
   simp
theorem ad0 {C : Nat → List Value} {sz : Nat} (hC : ∀ i, (C i).length = sz) (n : Nat) : ((bc7 n).flatMap C).length = n * sz := by
 induction n with
 | zero => simp
 | succ n ih2 => rw [List.range_succ, List.flatMap_append, List.length_append, ih2]; simp [hC, bd6]
theorem ag8 {t e : TypeId} {fuel : Nat} {v : Value} {x : DataW H × List MemPlace} {sz : Nat} (ht : Try.prog.underlying t = some (.slice e)) (hc : Try.prog.cellsOf e = sz) (hsz : 0 < sz)
  (h : DataW.trod enc Try.prog W 0 (fun _ => true) true fuel t [v] = some x) :
  ∃ (n m : Nat) (C : Nat → List Value), H6 W v n sz ((bc7 n).flatMap C) ∧ (∀ i, (C i).length = sz) ∧ ∀ i, i < n → ∃ y, DataW.trod enc Try.prog W 0 (fun _ => true) true m e (C i) = some y := by
 rcases open_slice ht h with ⟨hcs, _⟩ | ⟨a, len, cap, m, k, D, Pl, hcs, _, hl, hm, hmm, _, hx⟩
 ·cases hcs
  exact ⟨0, 0, fun _ => bd1 sz undef, H6.nil _ _, by simp, fun i hi => by omega⟩
 ·cases hcs
  rw [hc] at hx
  have hmc : len ≤ m := by rw [hmm]; simp; omega
  obtain ⟨C, hC⟩ := choose_lt (α := List Value) (n := len) (p := fun i cs => cs.length = sz ∧ (∀ j, j < sz → W.cell? (a.add (i * sz + j)) = cs[j]?) ∧ ∃ y, DataW.trod enc Try.prog W 0 (fun _ => true) true k e cs = some y) (fun i hi => by
   obtain ⟨cs', h1, h2⟩ := hx i (by omega)
   obtain ⟨_, hlen, hcell⟩ := World.cells?_some h1
   exact ⟨cs', hlen, fun j hj => by rw [← add_add]; exact hcell j hj, _, h2⟩)
  let C' : Nat → List Value := fun i => if i < len then C i else bd1 sz undef
  have hC' : ∀ i, (C' i).length = sz := fun i => by
   by_cases hi : i < len
   ·simp only [C', if_pos hi]; exact (hC i hi).1
   ·simp [C', if_neg hi]
  refine ⟨len, k, C', ⟨ad0 hC' len, some a, cap, rfl, hl, hm, fun hn => ?_⟩, hC', fun i hi => ?_⟩
  ·obtain ⟨b, off, spot⟩ := a
   have h00 := (hC 0 hn).2.1 0 hsz
   have hlen0 := (hC 0 hn).1
   rw [bb7 (by omega)] at h00
   have hs : spot = none := by
    simpa [Addr.add] using World.cell?_spot h00
   subst hs
   have hb : b < W.heap.size := by simpa [Addr.add] using World.block_lt_of_cell? W _ h00
   refine ⟨b, off, rfl, hb, fun j u hj => ?_⟩
   have hjl : j < len * sz := by have := (bc0.1 hj).1; rw [ad0 hC'] at this; exact this
   have hi : j / sz < len := Nat.div_lt_of_lt_mul (by rw [Nat.mul_comm]; exact hjl)
   have hr : j % sz < sz := Nat.mod_lt _ hsz
   have hjj : j / sz * sz + j % sz = j := Nat.div_add_mod' j sz
   have hg := ay3 hC' len (j / sz) (j % sz) hi hr
   rw [hjj, hj] at hg
   have hcc := (hC _ hi).2.1 _ hr
   simp only [C', if_pos hi] at hg
   rw [hjj, ← hg] at hcc
   have hadd : (⟨b, off, none⟩ : Addr).add j = ⟨b, off + j, none⟩ := by unfold Addr.add; split <;> simp_all
   rw [hadd] at hcc
   exact hcc
  ·obtain ⟨y, hy⟩ := (hC i hi).2.2
   exact ⟨y, by simp only [C', if_pos hi]; exact hy⟩
theorem W7 {α : Type} (n : Nat) (C : Nat → List Value) (f : α → Value) (g : Nat → α) (h : ∀ i, i < n → C i = [f (g i)]) : (bc7 n).flatMap C = ((bc7 n).map g).map f := by
 rw [List.map_map, List.flatMap_def]
 rw [List.map_congr_left (g := fun i => [f (g i)]) (fun i hi => h i (by simpa using hi))]
 induction n with
 | zero => simp
 | succ n ih =>
  rw [List.range_succ, List.map_append, List.flatten_append, List.map_append, ih (fun i hi => h i (by omega))]
  simp
theorem N9 {fuel : Nat} {t : TypeId} {v : Value} {x : DataW H × List MemPlace} (ht : Try.prog.underlying t = some (.slice 3))
  (h : DataW.trod enc Try.prog W 0 (fun _ => true) true fuel t [v] = some x) : ∃ l : List Int, H6 W v l.length 1 (l.map (Value.int .i64)) := by
 obtain ⟨n, m, C, hr, hC, hx⟩ := ag8 ht (sz := 1) (by kernel_rfl) (by omega) h
 obtain ⟨g, hg⟩ := choose_lt (α := Int) (n := n) (p := fun i b => C i = [.int .i64 b]) (fun i hi => by
  obtain ⟨y, hy⟩ := hx i hi
  obtain ⟨b, hb, _⟩ := DataW.trod_int Try.underlying3 hy
  exact ⟨b, hb⟩)
 refine ⟨(bc7 n).map g, ?_⟩
 rw [List.length_map, List.length_range, ← W7 n C (Value.int .i64) g hg]
 exact hr
end
end Go.Proofs.Ytgmhmijcnlfmfaa

namespace Go.Proofs.Ytgmhmijcnlfmfaa
open Go Go.RowKit
theorem aI3 : (Try.prog.info? 23).map (fun i => (i.zero, i.size, i.bytes)) = some (some (.slice none 0 0), 1, 24) := by kernel_rfl
def O1 (w : World) (v : Value) (m : List (List Int)) : Prop :=
 ∃ vs : List Value, H6 w v m.length 1 vs ∧ ∀ (i : Nat) (u : Value) (r : List Int), vs[i]? = some u → m[i]? = some r → H6 w u r.length 1 (ints r)
def G2 (w : World) (lo hi : Nat) (v : Value) (m : List (List Int)) : Prop :=
 ∃ vs : List Value, E9 w lo hi 23 1 v m.length vs ∧ (∀ (i : Nat) (u : Value) (r : List Int), vs[i]? = some u → m[i]? = some r → E9 w lo hi 3 1 u r.length (ints r)) ∧
  (∀ (i j : Nat) (u u' : Value), i < j → vs[i]? = some u → vs[j]? = some u' → an9 u u') ∧ ∀ (i : Nat) (u : Value), vs[i]? = some u → an9 u v
theorem O1.below {w w' : World} {v : Value} {m : List (List Int)} (h : O1 w v m) (hb : Below w.heap.size w w') : O1 w' v m := by
 obtain ⟨vs, h1, h2⟩ := h
 exact ⟨vs, h1.below hb, fun i u r a b => (h2 i u r a b).below hb⟩
theorem G2.row {w : World} {lo hi : Nat} {v : Value} {m : List (List Int)} (h : G2 w lo hi v m) : O1 w v m := by
 obtain ⟨vs, h1, h2, _⟩ := h
 exact ⟨vs, h1.row, fun i u r a b => (h2 i u r a b).row⟩
theorem G2.keep {w w' : World} {lo hi B : Nat} {v : Value} {m : List (List Int)} (h : G2 w lo hi v m) (hb : Below B w w') (hB : hi ≤ B) : G2 w' lo hi v m := by
 obtain ⟨vs, h1, h2, hd⟩ := h
 exact ⟨vs, h1.keep hb hB, fun i u r a b => (h2 i u r a b).keep hb hB, hd⟩
theorem G2.out {w w' : World} {lo hi lo' hi' : Nat} {v : Value} {m : List (List Int)} (h : G2 w lo hi v m) (hb : V7 lo' hi' w w') (hB : hi ≤ lo' ∨ hi' ≤ lo) : G2 w' lo hi v m := by
 obtain ⟨vs, h1, h2, hd⟩ := h
 exact ⟨vs, h1.out hb hB, fun i u r a b => (h2 i u r a b).out hb hB, hd⟩
theorem G2.wide {w : World} {lo hi lo' hi' : Nat} {v : Value} {m : List (List Int)} (h : G2 w lo hi v m) (g1 : lo' ≤ lo) (g2 : hi ≤ hi') : G2 w lo' hi' v m := by
 obtain ⟨vs, h1, h2, hd⟩ := h
 exact ⟨vs, h1.wide g1 g2, fun i u r a b => (h2 i u r a b).wide g1 g2, hd⟩
theorem O1.open {w : World} {v : Value} {m : List (List Int)} (h : O1 w v m) : ∃ a cap, v = .slice a m.length cap ∧ m.length ≤ 9223372036854775807 ∧
  ∀ i (hi : i < m.length), ∃ b off a' c', a = some ⟨b, off, none⟩ ∧ b < w.heap.size ∧ w.cell? ⟨b, off + i, none⟩ = some (.slice a' m[i].length c') ∧ H6 w (.slice a' m[i].length c') m[i].length 1 (ints m[i]) := by
 obtain ⟨vs, h1, h2⟩ := h
 obtain ⟨a, cap, hv, hc, hm, hm2, hcell⟩ := h1.open1
 refine ⟨a, cap, hv, hm, fun i hi => ?_⟩
 obtain ⟨b, off, ha, hb, hx⟩ := hcell i hi
 have hl : i < vs.length := by rw [h1.1]; omega
 rw [bb7 hl] at hx
 have hr := h2 i _ _ (bb7 hl) (bb7 hi)
 obtain ⟨a', c', hs⟩ := hr.form
 rw [hs] at hx hr
 exact ⟨b, off, a', c', ha, hb, hx, hr⟩
def N8 (m : List (List Int)) : Nat := (m.map List.length).sum
def ak7 (m : List (List Int)) : Nat := m.length + N8 m
theorem as3 (m : List (List Int)) (k : Nat) (h : k < m.length) : N8 (m.take (k + 1)) = N8 (m.take k) + m[k].length := by
 unfold N8
 rw [p7 _ _ h, List.map_append, List.sum_append]
 simp only [bd8, List.map_nil, List.sum_cons, List.sum_nil, be4]
theorem aC5 (m : List (List Int)) (k : Nat) : N8 (m.take k) ≤ N8 m := by
 have := congrArg N8 (List.take_append_drop k m)
 simp only [N8, List.map_append, List.sum_append] at this ⊢
 omega
theorem aW4 (m : List (List Int)) (k : Nat) (h : k < m.length) : m[k].length ≤ N8 m := by
 have h1 := as3 m k h
 have h2 := aC5 m (k + 1)
 omega
theorem av2 (v : Value) (m : List (List Int)) (w : World) (h : O1 w v m) (hb : ak7 m ≤ 1048576) :
  Calls Try.prog 115 #[v] w fun e w' => ∃ u, e = .returned u ∧ G2 w' w.heap.size w'.heap.size u m ∧ Below w.heap.size w w' := by
 obtain ⟨a1, c1, rfl, hm1, hc1⟩ := h.open
 clear h
 have hm2 : m.length ≤ 1048576 := by unfold ak7 at hb; omega
 have hmk := W8 (P := Try.prog) (t := 35) Try.underlying35 aI3 rfl (by omega) m.length (by omega) hm1
 have hown := W3 w (Value.slice none 0 0).cells.toList m.length 1 23 rfl hm1
 go_enter Try.func115, Try.ntmps115
 go_wp2_with fail
 clear hmk
 go_loopw [4] (fun i wr => ∃ (k : Nat) (vs : List Value), k ≤ m.length ∧ i = .int .i64 k ∧ E9 wr w.heap.size (w.heap.size + 1) 23 1 (.slice (some ⟨w.heap.size, 0, none⟩) m.length m.length) m.length vs ∧
   (∀ (i : Nat) (u : Value) (r : List Int), i < k → vs[i]? = some u → m[i]? = some r → E9 wr (w.heap.size + 1) wr.heap.size 3 1 u r.length (ints r)) ∧
   (∀ (i j : Nat) (u u' : Value), i < j → j < k → vs[i]? = some u → vs[j]? = some u' → an9 u u') ∧ Below w.heap.size w wr) (fun i _ => m.length - (intOf i).toNat)
 case atStart => exact ⟨0, _, bd0 _, rfl, hown, fun i u r h => by omega, fun i j u u' _ h => by omega, (Below.refl _ _).alloc (bc1 _) _⟩
 case round =>
  obtain ⟨k, vs, hk, rfl, ho, hrow, hdis, hbw⟩ := hrel
  clear hown
  by_cases hlt : k < m.length
  ·obtain ⟨b1, o1, a', c', rfl, hb1, hx, hr⟩ := hc1 k hlt
   rw [← (P3 hbw).1 _ _ hb1] at hx
   have HY := show Hid (vs.length = m.length) from by have := ho.1.1; unfold Hid; omega
   have hrl := aW4 m k hlt
   have hrl2 : m[k].length ≤ 1048576 := by unfold ak7 at hb; omega
   have HR := show Hid _ from hrow
   have HD := show Hid _ from hdis
   clear hrl hc1 hrow hdis
   go_wp2_with fail
   refine (T3 _ m[k] _ (hr.below hbw) (by omega)).mono ?_
   rintro e w1 ⟨u1, rfl, o1, b1⟩
   obtain ⟨a2, k2, rfl⟩ := o1.form
   have hs : w.heap.size < wr.heap.size := (ho.lt _ rfl).2.2
   have ho1 := ho.keep b1 (by omega)
   obtain ⟨g, cap, hv, hg1, hg2, hg3, f0, u0, y0⟩ := ho1.at (j := k) (by have := HY.out; omega)
   cases hv
   go_wp2_with fail
   have hs1 := b1.size
   refine ⟨⟨k + 1, vs.set k (.slice a2 m[k].length k2), by omega, by go_num, ho1.setCell (by have := HY.out; omega) _, ?_, ?_, (hbw.trans (b1.mono hbw.size)).setCell (bc1 _) _⟩, by simp [intOf]; omega⟩
   ·intro i u r hi hu hr'
    by_cases hik : i = k
    ·subst hik
     rw [List.getElem?_set_self (by have := HY.out; omega)] at hu
     cases hu
     rw [bb7 hlt] at hr'
     cases hr'
     exact (o1.other (b := w.heap.size) (by omega) _ _).wide (by omega) (by simp)
    ·rw [bf1 (by omega)] at hu
     exact (((HR.out i u r (by omega) hu hr').keep b1 (bc1 _)).other (b := w.heap.size) (by omega) _ _).wide (bc1 _) (by simpa using hs1)
   ·intro i j u u' hij hj hu hu'
    rw [bf1 (by omega)] at hu
    by_cases hjk : j = k
    ·subst hjk
     rw [List.getElem?_set_self (by have := HY.out; omega)] at hu'
     cases hu'
     exact ai0 (HR.out i u _ (by omega) hu (bb7 (by omega))) o1 (by omega)
    ·rw [bf1 (by omega)] at hu'
     exact HD.out i j u u' hij (by omega) hu hu'
  ·go_wp2_with fail
   go_ret
   obtain rfl : k = m.length := by omega
   have hs : w.heap.size < wr.heap.size := (ho.lt _ rfl).2.2
   have hl : ∀ (i : Nat) (u : Value), vs[i]? = some u → i < m.length := fun i u h => by
    have := (bc0.1 h).1
    have := ho.1.1
    omega
   refine ⟨_, rfl, ⟨vs, ho.wide (bc1 _) (by omega), fun i u r hu hr => (hrow i u r (hl i u hu) hu hr).wide (by omega) (bc1 _), fun i j u u' hij hu hu' => hdis i j u u' hij (hl j u' hu') hu hu', fun i u hu => ?_⟩, hbw⟩
   exact ai0 (hrow i u _ (hl i u hu) hu (bb7 (hl i u hu))) ho (by omega)
theorem aF6 {B : Nat} {w w1 w2 : World} (k : Below w1.heap.size w1 w2) (h : Below B w w1) (hB : B ≤ w.heap.size) : Below B w w2 :=
 h.trans (k.mono (be0 hB h.size))
end Go.Proofs.Ytgmhmijcnlfmfaa

namespace Go.Proofs.Ytgmhmijcnlfmfaa
open Go Go.RowKit Go.ChangeShapes Go.WideShapes Go.Deep
section
variable {H : Type} {enc : TypeId × Value → H} {W : World}
theorem J2 {t e : TypeId} {fuel : Nat} {v : Value} {x : DataW H × List MemPlace} {sz : Nat} (ht : Try.prog.underlying t = some (.slice e)) (hc : Try.prog.cellsOf e = sz) (hsz : 0 < sz)
  (h : DataW.trod enc Try.prog W 0 (fun _ => true) true fuel t [v] = some x) :
  ∃ (n m : Nat) (C : Nat → List Value), H6 W v n sz ((bc7 n).flatMap C) ∧ (∀ i, (C i).length = sz) ∧ ∀ i, i < n → m < fuel ∧ ∃ y, DataW.trod enc Try.prog W 0 (fun _ => true) true m e (C i) = some y := by
 rcases DataW.trod_slice ht h with ⟨hcs, _⟩ | ⟨a, len, cap, elems, rest, k, hfu, hcs, _, hb, hl, hm, hlen, hel, _, _⟩
 ·cases hcs
  exact ⟨0, 0, fun _ => bd1 sz undef, H6.nil _ _, by simp, fun i hi => by omega⟩
 ·cases hcs
  rw [hc] at hel
  obtain ⟨C, hC⟩ := choose_lt (α := List Value) (n := len) (p := fun i cs => cs.length = sz ∧ (∀ j, j < sz → W.cell? (a.add (i * sz + j)) = cs[j]?) ∧ ∃ y, DataW.trod enc Try.prog W 0 (fun _ => true) true k e cs = some y) (fun i hi => by
   have h0 := hel i hi
   rw [bb7 (by omega)] at h0
   obtain ⟨cs', h1, h2⟩ := Option.bind_eq_some_iff.1 h0
   obtain ⟨_, hlen, hcell⟩ := World.cells?_some h1
   exact ⟨cs', hlen, fun j hj => by rw [← add_add]; exact hcell j hj, _, h2⟩)
  let C' : Nat → List Value := fun i => if i < len then C i else bd1 sz undef
  have hC' : ∀ i, (C' i).length = sz := fun i => by
   by_cases hi : i < len
   ·simp only [C', if_pos hi]; exact (hC i hi).1
   ·simp [C', if_neg hi]
  refine ⟨len, k, C', ⟨ad0 hC' len, some a, cap, rfl, hl, hm, fun hn => ?_⟩, hC', fun i hi => ?_⟩
  ·obtain ⟨b, off, spot⟩ := a
   have h00 := (hC 0 hn).2.1 0 hsz
   have hlen0 := (hC 0 hn).1
   rw [bb7 (by omega)] at h00
   have hs : spot = none := by
    simpa [Addr.add] using World.cell?_spot h00
   subst hs
   have hb : b < W.heap.size := by simpa [Addr.add] using World.block_lt_of_cell? W _ h00
   refine ⟨b, off, rfl, hb, fun j u hj => ?_⟩
   have hjl : j < len * sz := by have := (bc0.1 hj).1; rw [ad0 hC'] at this; exact this
   have hi : j / sz < len := Nat.div_lt_of_lt_mul (by rw [Nat.mul_comm]; exact hjl)
   have hr : j % sz < sz := Nat.mod_lt _ hsz
   have hjj : j / sz * sz + j % sz = j := Nat.div_add_mod' j sz
   have hg := ay3 hC' len (j / sz) (j % sz) hi hr
   rw [hjj, hj] at hg
   have hcc := (hC _ hi).2.1 _ hr
   simp only [C', if_pos hi] at hg
   rw [hjj, ← hg] at hcc
   have hadd : (⟨b, off, none⟩ : Addr).add j = ⟨b, off + j, none⟩ := by unfold Addr.add; split <;> simp_all
   rw [hadd] at hcc
   exact hcc
  ·obtain ⟨y, hy⟩ := (hC i hi).2.2
   exact ⟨by omega, y, by simp only [C', if_pos hi]; exact hy⟩
instance inhOE : Inhabited k5 := ⟨⟨0, 0, []⟩⟩
instance inhOS : Inhabited b6 := ⟨⟨0, 0, ⟨0, 0, []⟩, ⟨0, 0, []⟩, 0, [], []⟩⟩
theorem ad2 {w : World} {φ : Nat → Prop} (C : Nat → List Value) (g : Nat → k5) : ∀ l : List Nat, (∀ i ∈ l, G7 w φ (g i) (C i)) → A2 w φ (l.map g) (l.flatMap C)
 | [], _ => rfl
 | a :: r, h => ⟨C a, r.flatMap C, rfl, h a bd3, ad2 C g r fun i hi => h i (bd5 _ hi)⟩
theorem N3 {w : World} {φ : Nat → Prop} (C : Nat → List Value) (g : Nat → b6) : ∀ l : List Nat, (∀ i ∈ l, G0 w φ (g i) (C i)) → v9 w φ (l.map g) (l.flatMap C)
 | [], _ => rfl
 | a :: r, h => ⟨C a, r.flatMap C, rfl, h a bd3, N3 C g r fun i hi => h i (bd5 _ hi)⟩
theorem ad3 : ∀ (fuel : Nat) (cs : List Value) (x : DataW H × List MemPlace), DataW.trod enc Try.prog W 0 (fun _ => true) true fuel 92 cs = some x → ∃ e, G7 W (fun _ => True) e cs := by
 intro fuel
 induction fuel using Nat.strongRecOn with
 | ind fuel ih =>
  intro cs x h
  obtain ⟨ys, k, hfu, _, hl, hys, hf⟩ := DataW.trod_struct Try.underlying92 h
  rw [show Try.prog.cellsOf 92 = 3 from by kernel_rfl] at hl
  match cs, hl with
  | [c0, c1, c2], _ =>
   have h0 := hf 0 _ rfl
   have h1 := hf 1 _ rfl
   have h2 := hf 2 _ rfl
   rw [bb7 (by rw [hys]; decide)] at h0 h1 h2
   have e0 := DataW.trod_int Try.underlying3 ((show Try.prog.cellsOf 3 = 1 from by kernel_rfl) ▸ h0)
   have e1 := DataW.trod_int Try.underlying3 ((show Try.prog.cellsOf 3 = 1 from by kernel_rfl) ▸ h1)
   have e2 := J2 (v := c2) Try.underlying90 (sz := 3) (by kernel_rfl) (by omega) ((show Try.prog.cellsOf 90 = 1 from by kernel_rfl) ▸ h2)
   obtain ⟨b0, hb0, _⟩ := e0
   obtain ⟨b1, hb1, _⟩ := e1
   obtain ⟨n, m, C, hr, hC, hx⟩ := e2
   simp at hb0 hb1
   obtain ⟨g, hg⟩ := choose_lt (α := k5) (n := n) (p := fun i e => G7 W (fun _ => True) e (C i)) (fun i hi => by
    obtain ⟨hm, y, hy⟩ := hx i hi
    exact ih m (by omega) _ _ hy)
   refine ⟨⟨b0, b1, (bc7 n).map g⟩, c2, _, by rw [hb0, hb1], ?_, ad2 C g (bc7 n) fun i hi => hg i (by simpa using hi)⟩
   rw [List.length_map, List.length_range]
   exact hr.rowF fun _ _ => trivial
theorem ar3 : ∀ (fuel : Nat) (cs : List Value) (x : DataW H × List MemPlace), DataW.trod enc Try.prog W 0 (fun _ => true) true fuel 190 cs = some x → ∃ s, G0 W (fun _ => True) s cs := by
 intro fuel
 induction fuel using Nat.strongRecOn with
 | ind fuel ih =>
  intro cs x h
  obtain ⟨ys, k, hfu, _, hl, hys, hf⟩ := DataW.trod_struct Try.underlying190 h
  rw [show Try.prog.cellsOf 190 = 11 from by kernel_rfl] at hl
  match cs, hl with
  | [c0, c1, c2, c3, c4, c5, c6, c7, c8, c9, c10], _ =>
   have h0 := hf 0 _ rfl
   have h1 := hf 1 _ rfl
   have h2 := hf 2 _ rfl
   have h3 := hf 3 _ rfl
   have h4 := hf 4 _ rfl
   have h5 := hf 5 _ rfl
   have h6 := hf 6 _ rfl
   rw [bb7 (by rw [hys]; decide)] at h0 h1 h2 h3 h4 h5 h6
   obtain ⟨b0, hb0, _⟩ := DataW.trod_int Try.underlying3 ((show Try.prog.cellsOf 3 = 1 from by kernel_rfl) ▸ h0)
   obtain ⟨b1, hb1, _⟩ := DataW.trod_int Try.underlying3 ((show Try.prog.cellsOf 3 = 1 from by kernel_rfl) ▸ h1)
   obtain ⟨b4, hb4, _⟩ := DataW.trod_int Try.underlying3 ((show Try.prog.cellsOf 3 = 1 from by kernel_rfl) ▸ h4)
   obtain ⟨ie, hie⟩ := ad3 k [c2, c3, c4] _ ((show Try.prog.cellsOf 92 = 3 from by kernel_rfl) ▸ h2)
   obtain ⟨ve, hve⟩ := ad3 k [c5, c6, c7] _ ((show Try.prog.cellsOf 92 = 3 from by kernel_rfl) ▸ h3)
   obtain ⟨n, m, C, hr, hC, hx⟩ := J2 (v := c9) Try.underlying74 (sz := 11) (by kernel_rfl) (by omega) ((show Try.prog.cellsOf 74 = 1 from by kernel_rfl) ▸ h5)
   obtain ⟨n', m', C', hr', hC', hx'⟩ := J2 (v := c10) Try.underlying74 (sz := 11) (by kernel_rfl) (by omega) ((show Try.prog.cellsOf 74 = 1 from by kernel_rfl) ▸ h6)
   simp at hb0 hb1 hb4
   obtain ⟨g, hg⟩ := choose_lt (α := b6) (n := n) (p := fun i e => G0 W (fun _ => True) e (C i)) (fun i hi => by
    obtain ⟨hm, y, hy⟩ := hx i hi
    exact ih m (by omega) _ _ hy)
   obtain ⟨g', hg'⟩ := choose_lt (α := b6) (n := n') (p := fun i e => G0 W (fun _ => True) e (C' i)) (fun i hi => by
    obtain ⟨hm, y, hy⟩ := hx' i hi
    exact ih m' (by omega) _ _ hy)
   obtain ⟨iv, hi1, hi2⟩ := (G7.iff _ _).1 hie
   obtain ⟨vv, hv1, hv2⟩ := (G7.iff _ _).1 hve
   simp at hi1 hv1
   obtain ⟨i1, i2, i3⟩ := hi1
   obtain ⟨v1, v2, v3⟩ := hv1
   refine ⟨⟨b0, b1, ie, ve, b4, (bc7 n).map g, (bc7 n').map g'⟩, iv, vv, c9, c10, _, _, by rw [hb0, hb1, hb4, i1, i2, i3, v1, v2, v3], hi2, hv2, ?_, N3 C g (bc7 n) fun i hi => hg i (by simpa using hi), ?_, N3 C' g' (bc7 n') fun i hi => hg' i (by simpa using hi)⟩
   ·rw [List.length_map, List.length_range]
    exact hr.rowF fun _ _ => trivial
   ·rw [List.length_map, List.length_range]
    exact hr'.rowF fun _ _ => trivial
theorem ap0 {fuel : Nat} {v : Value} {x : DataW H × List MemPlace} (h : DataW.trod enc Try.prog W 0 (fun _ => true) true fuel 74 [v] = some x) : ∃ ss, s4 W (fun _ => True) v ss := by
 obtain ⟨n, m, C, hr, hC, hx⟩ := J2 Try.underlying74 (sz := 11) (by kernel_rfl) (by omega) h
 obtain ⟨g, hg⟩ := choose_lt (α := b6) (n := n) (p := fun i e => G0 W (fun _ => True) e (C i)) (fun i hi => by
  obtain ⟨hm, y, hy⟩ := hx i hi
  exact ar3 m _ _ hy)
 refine ⟨(bc7 n).map g, _, ?_, N3 C g (bc7 n) fun i hi => hg i (by simpa using hi)⟩
 rw [List.length_map, List.length_range]
 exact hr.rowF fun _ _ => trivial
theorem as5 {r : Reach} {b0 : Nat} {v : Value} {d : DataW H} {p : List MemPlace} (hv : Value.okWide Try.prog W r b0 76 v)
  (h : DataW.Trod enc Try.prog W 0 (fun _ => true) true 76 v d p) : ∃ c : l6, ae0 W (fun _ => True) v c := by
 obtain ⟨v0, v1, v2, y0, y1, y2, n, rfl, -, -, h0, h1, h2⟩ := Joins.open_agg3 Try.underlying76 (by kernel_rfl) (by kernel_rfl) hv h
 obtain ⟨l0, r0⟩ := N9 Try.underlying23 h0
 obtain ⟨l1, r1⟩ := N9 Try.underlying23 h1
 obtain ⟨l2, r2⟩ := ap0 h2
 exact ⟨⟨l0, l1, l2⟩, _, _, _, rfl, r0.rowF fun _ _ => trivial, r1.rowF fun _ _ => trivial, r2⟩
end
end Go.Proofs.Ytgmhmijcnlfmfaa
