/-
  Texts of this claim, part 2: what the functions on the way do, and plain laws. Conditions: as each statement says.
-/
import Derived.Great.BuildSlice
import Derived.Deep.LoopGhost
import Derived.IntWalk
import Derived.Test.YthikdkjjdeehoaaGreatK1
set_option maxRecDepth 100000
set_option maxHeartbeats 16000000
open Bool renaming and_eq_true → bV8, not_eq_true' → bW7
open Inhabited renaming default → bV3
open List renaming all_eq_true → bX0, append_assoc → bZ1, eq_nil_of_length_eq_zero → bY8, getD_eq_getElem?_getD → bW2, getElem?_append_left → bX7, getElem?_append_right → bZ0, getElem?_eq_getElem → bW0, getElem?_eq_none → bY0, getElem?_eq_some_iff → bW9, getElem_mem → bX2, length_append → bV4, length_cons → bV6, length_nil → bV7, length_set → bX3, map_cons → bY9, mem_append → bY5, mem_cons → bZ6, mem_cons_of_mem → bX9, mem_cons_self → bX6, mem_of_getElem? → bX1, mem_singleton → bY7, range → bX4, replicate → bV5, take_of_length_le → bW5
open Nat renaming add_zero → bZ5, le_refl → bW6, le_trans → bX8, lt_of_lt_of_le → bY4, lt_or_ge → bY6, mul_le_mul_right → bZ3, succ_mul → bY3, zero_add → bZ2, zero_le → bX5
open Option renaming isSome_iff_exists → bZ4, map_eq_some_iff → bW4
open True renaming intro → bW1

namespace Go.Proofs.YthikdkjjdeehoaaGreat
set_option linter.unusedVariables false
set_option linter.unusedSimpArgs false
open Go Go.RowKit
theorem ad3 (us : List Value) : ∀ (ys : List Value) (p q : Nat), p + us.length ≤ ys.length → (setFrom ys p us)[q]? = if p ≤ q ∧ q < p + us.length then us[q - p]? else ys[q]? := by
 induction us with
 | nil => intro ys p q _; simp only [setFrom, bV7]; split; omega; rfl
 | cons u r ih =>
  intro ys p q h
  simp only [bV6] at h
  simp only [setFrom, bV6]
  rw [ih _ _ _ (by simp; omega)]
  by_cases h1 : q = p
  ·subst h1
   rw [if_neg (by omega), if_pos (by omega), List.getElem?_set_self (by omega), Nat.sub_self]; rfl
  ·by_cases h2 : p + 1 ≤ q ∧ q < p + 1 + r.length
   ·rw [if_pos h2, if_pos (by omega), show q - p = q - (p + 1) + 1 by omega]; rfl
   ·rw [if_neg h2, if_neg (by omega), List.getElem?_set_ne (by omega)]
theorem ah5 {xs cs : List Value} {p : Nat} (h : p + cs.length ≤ xs.length) (hc : ∀ j, j < cs.length → xs[p + j]? = cs[j]?) : setFrom xs p cs = xs := by
 apply List.ext_getElem?
 intro q
 rw [ad3 _ _ _ _ h]
 split
 ·rename_i h1
  rw [← hc _ (by omega)]; congr 1; omega
 ·rfl
theorem ak7 {xs cs : List Value} {p k : Nat} (u : Value) (h : p + cs.length ≤ xs.length) (hk : k < cs.length) : (setFrom xs p cs).set (p + k) u = setFrom xs p (cs.set k u) := by
 apply List.ext_getElem?
 intro q
 rw [ad3 _ _ _ _ (by simpa using h), List.getElem?_set, ad3 _ _ _ _ h, L1, bX3]
 by_cases h1 : p + k = q
 ·subst h1
  rw [if_pos rfl, if_pos (by omega), if_pos (by omega), Nat.add_sub_cancel_left, List.getElem?_set_self hk]
 ·rw [if_neg h1]
  split
  ·rw [List.getElem?_set_ne (by omega)]
  ·rfl
def Y5.plain : Y5 → Prop
 | .dat _ => False
 | _ => True
theorem Y5.holds_plain {w : World} {φ φ' : Nat → Prop} {r : Y5} (hp : r.plain) (h : r.holds w φ) : r.holds w φ' := by
 cases r with
 | dat R => exact hp.elim
 | box b cs => exact h
 | row e sz v n xs => exact h
 | own S R => exact h
theorem C2.adopt {φ ψ : Nat → Prop} {w0 w : World} {L : List Y5} (M : C2 φ ψ w0 w L) (r : Y5) (hL : ∀ a ∈ L, a.plain) (hp : r.plain) (h : r.holds w (fun _ => True)) (hd : ∀ a ∈ L, ∀ g, r.blk g → ¬ a.blk g) (hg : ∀ g, r.blk g → ¬ ψ g) : C2 φ ψ w0 w (L ++ [r]) := by
 have get : ∀ (i : Nat) (x : Y5), (L ++ [r])[i]? = some x → (i < L.length ∧ x ∈ L ∧ L[i]? = some x) ∨ (i = L.length ∧ x = r) := by
  intro k z hz
  rcases bY6 k L.length with hk | hk
  ·rw [bX7 hk] at hz; exact .inl ⟨hk, bX1 hz, hz⟩
  ·rw [bZ0 hk] at hz
   have : k - L.length = 0 := by
    rcases Nat.eq_zero_or_pos (k - L.length) with h | h
    ·exact h
    ·rw [bY0 (by rw [List.length_singleton]; exact h)] at hz; cases hz
   rw [this] at hz; simp at hz
   exact .inr ⟨by omega, hz.symm⟩
 refine ⟨M.kept, M.fresh, fun x hx => ?_, fun i j x y g hi hj hij hx hy => ?_, fun x g hx hxg => ?_⟩
 ·rcases bY5.1 hx with hx | hx
  ·exact Y5.holds_plain (hL x hx) (M.holds x hx)
  ·rw [bY7] at hx; subst hx; exact Y5.holds_plain hp h
 ·rcases get i x hi with ⟨hi1, hi2, hi3⟩ | ⟨hi1, rfl⟩ <;> rcases get j y hj with ⟨hj1, hj2, hj3⟩ | ⟨hj1, rfl⟩
  ·exact M.dis i j x y g hi3 hj3 hij hx hy
  ·exact hd x hi2 g hy hx
  ·exact hd y hj2 g hx hy
  ·omega
 ·rcases bY5.1 hx with hx | hx
  ·exact M.ge x g hx hxg
  ·rw [bY7] at hx; subst hx; exact .inr (hg g hxg)
def mxS (ks : List b6) (k : Int) (i : Nat) : List b6 := (al5 ks k).take i ++ ks.drop i
theorem ab5 : ∀ (ks : List b6) (k : Int), (al5 ks k).length = ks.length
 | [], _ => rfl
 | _ :: r, k => by simp [al5, ab5 r]
theorem aI7 (a b : List b6) : mkN (a ++ b) = mkN a + mkN b := by
 induction a with
 | nil => simp [mkN]
 | cons x r ih => simp only [List.cons_append, mkN, ih]; omega
theorem a20 : ∀ (ks : List b6) (k : Int) (i : Nat) (h : i < ks.length), (al5 ks k)[i]? = some (mkS ks[i] (k + mkN (ks.take i)))
 | [], _, i, h => by simp at h
 | e :: r, k, 0, _ => by simp [al5, mkN]
 | e :: r, k, i + 1, h => by
  simp only [al5, List.getElem?_cons_succ, List.getElem_cons_succ, List.take_succ_cons, mkN]
  rw [a20 r _ i (by simpa using h)]
  congr 2
  omega
theorem bB2 (ks : List b6) (k : Int) {i : Nat} (h : i ≤ ks.length) : (mxS ks k i).length = ks.length := by simp [mxS, ab5]; omega
theorem bs7 (ks : List b6) (k : Int) : mxS ks k 0 = ks := by simp [mxS]
theorem bB3 (ks : List b6) (k : Int) : mxS ks k ks.length = al5 ks k := by
 unfold mxS; rw [List.drop_length, List.append_nil, bW5 (by rw [ab5]; exact bW6 _)]
theorem bK2 (ks : List b6) (k : Int) {i : Nat} (h : i < ks.length) : (mxS ks k i)[i]? = some ks[i] := by
 unfold mxS
 rw [bZ0 (by rw [List.length_take]; omega), List.length_take, ab5, Nat.min_eq_left (by omega), Nat.sub_self, List.getElem?_drop, bZ5, bW0 h]
theorem bs8 (ks : List b6) (k : Int) {i : Nat} (h : i < ks.length) : mxS ks k (i + 1) = (mxS ks k i).set i (mkS ks[i] (k + mkN (ks.take i))) := by
 have hl : ((al5 ks k).take i).length = i := by rw [List.length_take, ab5]; omega
 have hg := a20 ks k i h
 have hi : i < (al5 ks k).length := by rw [ab5]; exact h
 rw [bW0 hi] at hg
 have hg' := Option.some.inj hg
 unfold mxS
 rw [List.set_append_right _ _ (by omega), hl, Nat.sub_self, List.drop_eq_getElem_cons h, List.set_cons_zero, m8 _ _ hi, hg']
 simp
mutual
theorem a21 : ∀ s : b6, 0 ≤ a22 s ∧ a22 s ≤ 7 * (1 + J4 s)
 | ⟨_, _, i, v, _, b, e⟩ => by
  have h1 := J6 b
  have h2 := J6 e
  simp only [a22, J4]
  omega
theorem J6 : ∀ ss : List b6, 0 ≤ mkN ss ∧ mkN ss ≤ 7 * l8 ss
 | [] => by simp [mkN, l8]
 | s :: r => by
  have h1 := a21 s
  have h2 := J6 r
  simp only [mkN, l8]
  omega
end
theorem bk9 {ks : List b6} {k : Nat} (h : k < ks.length) : mkN (ks.take (k + 1)) = mkN (ks.take k) + a22 ks[k] := by
 rw [m8 _ _ h, aI7]; simp [mkN]
theorem bt3 (ks : List b6) (k : Nat) : mkN ks = mkN (ks.take k) + mkN (ks.drop k) := by
 have := aI7 (ks.take k) (ks.drop k)
 rwa [List.take_append_drop] at this
theorem bt4 (s : b6) : a22 s = 7 + 2 * s6 s.index.kids + 2 * s6 s.value.kids + mkN s.body + mkN s.els := by
 rcases s with ⟨_, _, ⟨_, _, _⟩, ⟨_, _, _⟩, _, _, _⟩; simp only [a22, t2]; rfl
theorem bB6 (s : b6) (y A B : Int) (hA : A = 2 * s6 s.index.kids) (hB : B = 2 * s6 s.value.kids) :
  mkS s y = ⟨y, y + 1, ⟨y + 1 + 1, y + 1 + 1 + 1, ao2 s.index.kids (y + 1 + 1 + 1 + 1)⟩, ⟨y + 1 + 1 + 1 + 1 + A, y + 1 + 1 + 1 + 1 + A + 1, ao2 s.value.kids (y + 1 + 1 + 1 + 1 + A + 1 + 1)⟩,
   y + 1 + 1 + 1 + 1 + A + 1 + 1 + B, al5 s.body (y + 1 + 1 + 1 + 1 + A + 1 + 1 + B + 1), al5 s.els (y + 1 + 1 + 1 + 1 + A + 1 + 1 + B + 1 + mkN s.body)⟩ := by
 rcases s with ⟨_, _, ⟨_, _, _⟩, ⟨_, _, _⟩, _, _, _⟩
 simp only [b6.index, b6.value, b6.body, b6.els, b5.kids] at hA hB ⊢
 subst hA hB
 simp only [mkS, mkE, t2, b6.mk.injEq, b5.mk.injEq, true_and]
 refine ⟨⟨by omega, by omega, by congr 1; omega⟩, ⟨by omega, by omega, by congr 1; omega⟩, by omega, by congr 1; omega, by congr 1; omega⟩
section
variable {w : World}
mutual
theorem G5.cut : ∀ (e : b5) (S : Nat → Prop) (cs : List Value), G5 w e S cs → G5 w e (fun b => S b ∧ b < w.heap.size) cs
 | ⟨_, _, ks⟩, _, _, ⟨v, xs, S', h1, h2, h3, h4, h5⟩ => ⟨v, xs, fun b => S' b ∧ b < w.heap.size, h1, h2, fun g hg => ⟨⟨(h3 g hg).1, (World.ownsRow.lt h2 g hg).2⟩, fun h => (h3 g hg).2 h.1⟩, fun b hb => ⟨h4 b hb.1, hb.2⟩, t9.cut ks S' xs h5⟩
theorem t9.cut : ∀ (ks : List b5) (S : Nat → Prop) (xs : List Value), t9 w ks S xs → t9 w ks (fun b => S b ∧ b < w.heap.size) xs
 | [], _, _, h => h
 | e :: r, _, _, ⟨c, ys, S1, S2, h1, h2, h3, h4, h5⟩ => ⟨c, ys, fun b => S1 b ∧ b < w.heap.size, fun b => S2 b ∧ b < w.heap.size, h1, fun b hb => ⟨⟨(h2 b hb.1).1, hb.2⟩, fun h => (h2 b hb.1).2 h.1⟩, fun b hb => ⟨h3 b hb.1, hb.2⟩, G5.cut e S1 c h4, t9.cut r S2 ys h5⟩
end
theorem B8.cut {v : Value} {ks : List b5} {S : Nat → Prop} (h : B8 w v ks S) : B8 w v ks (fun b => S b ∧ b < w.heap.size) := by
 obtain ⟨xs, S', h2, h3, h4, h5⟩ := h
 exact ⟨xs, fun b => S' b ∧ b < w.heap.size, h2, fun g hg => ⟨⟨(h3 g hg).1, (World.ownsRow.lt h2 g hg).2⟩, fun h => (h3 g hg).2 h.1⟩, fun b hb => ⟨h4 b hb.1, hb.2⟩, t9.cut ks S' xs h5⟩
mutual
theorem G3.cut : ∀ (s : b6) (S : Nat → Prop) (cs : List Value), G3 w s S cs → G3 w s (fun b => S b ∧ b < w.heap.size) cs
 | ⟨_, _, _, _, _, b, e⟩, _, _, ⟨iv, vv, bv, ev, xb, xe, Si, Sv, Sb, Se, Sb', Se', h1, ⟨d1, d2, d3, d4⟩, h2, h3, ⟨b1, b2, b3, b4⟩, ⟨e1, e2, e3, e4⟩⟩ =>
  ⟨iv, vv, bv, ev, xb, xe, fun b => Si b ∧ b < w.heap.size, fun b => Sv b ∧ b < w.heap.size, fun b => Sb b ∧ b < w.heap.size, fun b => Se b ∧ b < w.heap.size, fun b => Sb' b ∧ b < w.heap.size, fun b => Se' b ∧ b < w.heap.size, h1,
   ⟨fun b hb => ⟨⟨(d1 b hb.1).1, hb.2⟩, fun h => (d1 b hb.1).2.1 h.1, fun h => (d1 b hb.1).2.2.1 h.1, fun h => (d1 b hb.1).2.2.2 h.1⟩, fun b hb => ⟨⟨(d2 b hb.1).1, hb.2⟩, fun h => (d2 b hb.1).2.1 h.1, fun h => (d2 b hb.1).2.2 h.1⟩,
    fun b hb => ⟨⟨(d3 b hb.1).1, hb.2⟩, fun h => (d3 b hb.1).2 h.1⟩, fun b hb => ⟨d4 b hb.1, hb.2⟩⟩, h2.cut, h3.cut,
   ⟨b1, fun g hg => ⟨⟨(b2 g hg).1, (World.ownsRow.lt b1 g hg).2⟩, fun h => (b2 g hg).2 h.1⟩, fun b hb => ⟨b3 b hb.1, hb.2⟩, t7.cut b Sb' xb b4⟩,
   ⟨e1, fun g hg => ⟨⟨(e2 g hg).1, (World.ownsRow.lt e1 g hg).2⟩, fun h => (e2 g hg).2 h.1⟩, fun b hb => ⟨e3 b hb.1, hb.2⟩, t7.cut e Se' xe e4⟩⟩
theorem t7.cut : ∀ (ks : List b6) (S : Nat → Prop) (xs : List Value), t7 w ks S xs → t7 w ks (fun b => S b ∧ b < w.heap.size) xs
 | [], _, _, h => h
 | e :: r, _, _, ⟨c, ys, S1, S2, h1, h2, h3, h4, h5⟩ => ⟨c, ys, fun b => S1 b ∧ b < w.heap.size, fun b => S2 b ∧ b < w.heap.size, h1, fun b hb => ⟨⟨(h2 b hb.1).1, hb.2⟩, fun h => (h2 b hb.1).2 h.1⟩, fun b hb => ⟨h3 b hb.1, hb.2⟩, G3.cut e S1 c h4, t7.cut r S2 ys h5⟩
end
theorem A5.cut {v : Value} {ks : List b6} {S : Nat → Prop} (h : A5 w v ks S) : A5 w v ks (fun b => S b ∧ b < w.heap.size) := by
 obtain ⟨xs, S', h2, h3, h4, h5⟩ := h
 exact ⟨xs, fun b => S' b ∧ b < w.heap.size, h2, fun g hg => ⟨⟨(h3 g hg).1, (World.ownsRow.lt h2 g hg).2⟩, fun h => (h3 g hg).2 h.1⟩, fun b hb => ⟨h4 b hb.1, hb.2⟩, t7.cut ks S' xs h5⟩
end
section
variable {φ ψ : Nat → Prop} {w0 w : World} {L : List Y5}
theorem C2.elemSet (M : C2 φ ψ w0 w L) (i : Nat) {e : TypeId} {sz n cap g p : Nat} {xs cs : List Value} (hi : L[i]? = some (.row e sz (.slice (some ⟨g, 0, none⟩) n cap) n (Go.Proofs.YthikdkjjdeehoaaGreat.setFrom xs p cs))) (hp : p + cs.length ≤ xs.length) (k : Nat) (hk : k < cs.length) (u : Value) {o : Nat} (ho : o = p + k) :
  C2 φ ψ w0 (w.setCell ⟨g, o, none⟩ u) (L.set i (.row e sz (.slice (some ⟨g, 0, none⟩) n cap) n (Go.Proofs.YthikdkjjdeehoaaGreat.setFrom xs p (cs.set k u)))) := by
 subst ho
 rw [← ak7 u hp hk]
 exact M.rowSet i hi (by rw [L1]; omega) u
theorem C2.elemCell (M : C2 φ ψ w0 w L) (i : Nat) {e : TypeId} {sz n cap g p : Nat} {xs cs : List Value} (hi : L[i]? = some (.row e sz (.slice (some ⟨g, 0, none⟩) n cap) n (Go.Proofs.YthikdkjjdeehoaaGreat.setFrom xs p cs))) (hn : 0 < n) (hp : p + cs.length ≤ xs.length) (k : Nat) {u : Value} (hk : cs[k]? = some u) {o : Nat} (ho : o = p + k) :
  w.cell? ⟨g, o, none⟩ = some u := by
 subst ho
 obtain ⟨g', cap', hv, -, -, -, -, -, -, hc⟩ := (R3.mk' (M.r i hi)).open hn
 cases hv
 refine hc (p + k) u ?_
 have := (bW9.1 hk).1
 rw [ad3 _ _ _ _ hp, if_pos (by omega), Nat.add_sub_cancel_left, hk]
theorem C2.rowFree (M : C2 φ ψ w0 w L) (i : Nat) {e : TypeId} {sz n cap g : Nat} {xs : List Value} (hi : L[i]? = some (.row e sz (.slice (some ⟨g, 0, none⟩) n cap) n xs)) (hn : 0 < n) : ∀ o, w.frozen? ⟨g, o, none⟩ = false := by
 obtain ⟨g', cap', hv, -, -, -, -, -, hf, -⟩ := (R3.mk' (M.r i hi)).open hn
 cases hv
 exact hf
end
def a71 (ss : List b6) : Prop := ∀ (v : Value) (k : Int) (w : World) (S : Nat → Prop), A5 w v ss S → 0 ≤ k → k + mkN ss ≤ 9000000000000000000 →
 Calls Tryz.prog 86 #[v, .int .i64 k] w fun x w' => x = .returned (.int .i64 (k + mkN ss)) ∧ A5 w' v (al5 ss k) S ∧ D0 (fun b => ¬ S b) w w'
theorem ai2 (ks : List b6) (ih : ∀ s ∈ ks, a71 s.body ∧ a71 s.els) : a71 ks := by
 intro v k0 w S h hk0 hkb
 obtain ⟨xs, S', ho, hg, hs, hx⟩ := h
 obtain ⟨a, cap, rfl⟩ := an0 ho
 have hm : ks.length ≤ 9223372036854775807 := (ab1 ho).len
 have HG := show Hid _ from hg
 have HS := show Hid _ from hs
 have HX := show Hid _ from hx
 have HO := show Hid _ from ho
 have HKB := show Hid _ from hkb
 clear hg hs hx ho hkb
 go_enter Tryz.func86, Tryz.ntmps86
 go_wp2_with fail
 go_loopw [1, 5] (fun q i wr => ∃ (j : Nat) (y : Int) (xs : List Value), j ≤ ks.length ∧ i = .int .i64 j ∧ q = .int .i64 y ∧ y = k0 + mkN (ks.take j) ∧ wr.ownsRow 0 106 11 (.slice a ks.length cap) ks.length xs ∧ t7 wr (mxS ks k0 j) S' xs ∧ D0 (fun b => ¬ S b) w wr) (fun _ i _ => ks.length - (intOf i).toNat)
 case atStart => exact ⟨0, k0, xs, bX5 _, rfl, rfl, by simp [mkN], HO.out, by rw [bs7]; exact HX.out, D0.refl _ _⟩
 case round =>
  obtain ⟨j, y, xs, hj, rfl, rfl, hy, ho, hx, hkp⟩ := hrel
  have HY := show Hid _ from hy
  have HKP := show Hid _ from hkp
  have HX1 := show Hid _ from hx
  have HO1 := show Hid _ from ho
  clear hy hkp hx ho
  by_cases hlt : j < ks.length
  ·have hlen := bB2 ks k0 hj
   obtain ⟨c, Sc, f1, f2, f3, f4⟩ := HX1.out.focus j (by omega)
   have hge := bK2 ks k0 hlt
   rw [bW0 (by omega)] at hge
   rw [Option.some.inj hge] at f1
   obtain ⟨iv, vv, bv, ev, Si, Sv, Sb, Se, rfl, ⟨d1, d2, d3, d4⟩, o1, o2, o3, o4⟩ := (G3.iff _ _ _).1 f1
   obtain ⟨g, cap', hv, -, hg2, hg3, -, -, -, -⟩ := (R3.mk' HO1.out).open (by omega)
   cases hv
   have hxl : xs.length = ks.length * 11 := HO1.out.1
   have hmx := bs8 ks k0 hlt
   rw [← HY.out] at hmx
   have hih := ih _ (bX2 hlt)
   have ht1 := bk9 hlt
   have hdr := bt3 ks (j + 1)
   obtain ⟨s, hsj⟩ : ∃ s, s = ks[j] := ⟨_, rfl⟩
   rw [← hsj] at f1 f3 o1 o2 o3 o4 hih hmx ht1
   have hdef := bt4 s
   have hnb := (J6 s.body).1
   have hne := (J6 s.els).1
   have hnt := (J6 (ks.take j)).1
   have hnd := (J6 (ks.drop (j + 1))).1
   obtain ⟨A, hA⟩ : ∃ A : Int, A = 2 * s6 s.index.kids := ⟨_, rfl⟩
   obtain ⟨B, hB⟩ : ∃ B : Int, B = 2 * s6 s.value.kids := ⟨_, rfl⟩
   obtain ⟨C, hC⟩ : ∃ C : Int, C = mkN s.body := ⟨_, rfl⟩
   obtain ⟨D, hD⟩ : ∃ D : Int, D = mkN s.els := ⟨_, rfl⟩
   have hA0 : 0 ≤ A := by omega
   have hB0 : 0 ≤ B := by omega
   have hC0 : 0 ≤ C := by omega
   have hD0 : 0 ≤ D := by omega
   have hy0 : 0 ≤ y := by have := HY.out; omega
   have hy1 : y + 7 + A + B + C + D ≤ 9000000000000000000 := by have := HY.out; have := HKB.out; omega
   have hyn : y + 7 + A + B + C + D = k0 + mkN (ks.take (j + 1)) := by have := HY.out; omega
   have hmk := bB6 s y A B hA hB
   rw [← hC] at hmk
   have hp : j * 11 + 11 ≤ xs.length := by omega
   have hxs : setFrom xs (j * 11) [.int .i64 s.kind, .int .i64 s.target, .int .i64 s.index.kind, .int .i64 s.index.value, iv, .int .i64 s.value.kind, .int .i64 s.value.value, vv, .int .i64 s.count, bv, ev] = xs := ah5 hp f3
   have hgS' : ¬ S' g := (HG.out g rfl).2
   have hgc : ¬ Sc g := fun h => hgS' (f2 g h)
   have M : C2 (fun _ => True) (fun b => ¬ (b = g ∨ Sc b)) wr wr [.row 106 11 (.slice (some ⟨g, 0, none⟩) ks.length cap) ks.length (setFrom xs (j * 11) [.int .i64 s.kind, .int .i64 s.target, .int .i64 s.index.kind, .int .i64 s.index.value, iv, .int .i64 s.value.kind, .int .i64 s.value.value, vv, .int .i64 s.count, bv, ev]),
     .own (fun b => Si b ∧ b < wr.heap.size) (fun w => B8 w iv s.index.kids (fun b => Si b ∧ b < wr.heap.size)), .own (fun b => Sv b ∧ b < wr.heap.size) (fun w => B8 w vv s.value.kids (fun b => Sv b ∧ b < wr.heap.size)),
     .own (fun b => Sb b ∧ b < wr.heap.size) (fun w => A5 w bv s.body (fun b => Sb b ∧ b < wr.heap.size)), .own (fun b => Se b ∧ b < wr.heap.size) (fun w => A5 w ev s.els (fun b => Se b ∧ b < wr.heap.size))] := by
    rw [hxs]
    refine (((((C2.start fun _ _ => trivial).adopt (.row 106 11 (.slice (some ⟨g, 0, none⟩) ks.length cap) ks.length xs) ?_ bW1 HO1.out ?_ ?_).adopt (.own (fun b => Si b ∧ b < wr.heap.size) _) ?_ bW1 ⟨fun _ _ h hs => B8.same h hs, o1.cut, fun _ h => h.2⟩ ?_ ?_).adopt (.own (fun b => Sv b ∧ b < wr.heap.size) _) ?_ bW1 ⟨fun _ _ h hs => B8.same h hs, o2.cut, fun _ h => h.2⟩ ?_ ?_).adopt (.own (fun b => Sb b ∧ b < wr.heap.size) _) ?_ bW1 ⟨fun _ _ h hs => A5.same h hs, o3.cut, fun _ h => h.2⟩ ?_ ?_).adopt (.own (fun b => Se b ∧ b < wr.heap.size) _) ?_ bW1 ⟨fun _ _ h hs => A5.same h hs, o4.cut, fun _ h => h.2⟩ ?_ ?_
    ·intro a ha; cases ha
    ·intro a ha; cases ha
    ·intro g' hg' hn; cases hg'; exact hn (.inl rfl)
    ·intro a ha; simp at ha; subst ha; trivial
    ·intro a ha g' hg' h; simp at ha; subst ha; cases h; exact hgc (d1 _ hg'.1).1
    ·intro g' hg' hn; exact hn (.inr (d1 _ hg'.1).1)
    ·intro a ha; simp at ha; rcases ha with rfl | rfl <;> trivial
    ·intro a ha g' hg' h; simp at ha; rcases ha with rfl | rfl
     ·cases h; exact hgc (d2 _ hg'.1).1
     ·exact (d1 _ h.1).2.1 hg'.1
    ·intro g' hg' hn; exact hn (.inr (d2 _ hg'.1).1)
    ·intro a ha; simp at ha; rcases ha with rfl | rfl | rfl <;> trivial
    ·intro a ha g' hg' h; simp at ha; rcases ha with rfl | rfl | rfl
     ·cases h; exact hgc (d3 _ hg'.1).1
     ·exact (d1 _ h.1).2.2.1 hg'.1
     ·exact (d2 _ h.1).2.1 hg'.1
    ·intro g' hg' hn; exact hn (.inr (d3 _ hg'.1).1)
    ·intro a ha; simp at ha; rcases ha with rfl | rfl | rfl | rfl <;> trivial
    ·intro a ha g' hg' h; simp at ha; rcases ha with rfl | rfl | rfl | rfl
     ·cases h; exact hgc (d4 _ hg'.1)
     ·exact (d1 _ h.1).2.2.2 hg'.1
     ·exact (d2 _ h.1).2.2 hg'.1
     ·exact (d3 _ h.1).2 hg'.1
    ·intro g' hg' hn; exact hn (.inr (d4 _ hg'.1))
   have hn0 : 0 < ks.length := by omega
   have HIH := show Hid _ from hih
   have HF := show Hid _ from And.intro f2 (And.intro f4 (And.intro hmx (And.intro hmk hyn)))
   have HD := show Hid _ from And.intro d1 (And.intro d2 (And.intro d3 d4))
   have HE := show Hid _ from And.intro hA (And.intro hB (And.intro hC hD))
   have HGS := show Hid _ from hgS'
   have HP := show Hid _ from hp
   clear hih f1 f2 f3 f4 hmx hmk hyn d1 d2 d3 d4 o1 o2 o3 o4 hA hB hC hD hgS' hgc hxs hxl hlen hge ht1 hdr hdef hnb hne hnt hnd hsj hp
   have fz := M.rowFree 0 rfl hn0
   have e0 := M.elemCell 0 rfl hn0 HP.out 0 rfl (o := j * 11) rfl
   have e1 := M.elemCell 0 rfl hn0 HP.out 1 rfl rfl
   have e2 := M.elemCell 0 rfl hn0 HP.out 2 rfl rfl
   have e3 := M.elemCell 0 rfl hn0 HP.out 3 rfl rfl
   have e4 := M.elemCell 0 rfl hn0 HP.out 4 rfl rfl
   have M1 := (((M.elemSet 0 rfl HP.out 0 (by simp) (.int .i64 y) (o := j * 11) rfl).elemSet 0 rfl HP.out 1 (by simp) (.int .i64 (y + 1)) rfl).elemSet 0 rfl HP.out 2 (by simp) (.int .i64 (y + 1 + 1)) rfl).elemSet 0 rfl HP.out 3 (by simp) (.int .i64 (y + 1 + 1 + 1)) rfl
   have HM := show Hid _ from M1
   clear M M1
   go_wp2_with fail
   have M := HM.out
   clear HM fz e0 e1 e2 e3 e4
   refine (ao9 s.index.kids iv (y + 1 + 1 + 1 + 1) _ _ (M.o 1 rfl) (by omega) (by have := HE.out.1; omega)).mono ?_
   rintro x w1 ⟨rfl, k1, kp1⟩
   rw [← HE.out.1]
   replace M := M.turn 1 rfl kp1 (fun _ _ h hs => B8.same h hs) k1
   clear k1 kp1
   have fz := M.rowFree 0 rfl hn0
   have e5 := M.elemCell 0 rfl hn0 HP.out 5 rfl rfl
   have e6 := M.elemCell 0 rfl hn0 HP.out 6 rfl rfl
   have e7 := M.elemCell 0 rfl hn0 HP.out 7 rfl rfl
   have M1 := (M.elemSet 0 rfl HP.out 5 (by simp) (.int .i64 (y + 1 + 1 + 1 + 1 + A)) rfl).elemSet 0 rfl HP.out 6 (by simp) (.int .i64 (y + 1 + 1 + 1 + 1 + A + 1)) rfl
   have HM := show Hid _ from M1
   clear M M1
   go_wp2_with fail
   have M := HM.out
   clear HM fz e5 e6 e7
   refine (ao9 s.value.kids vv (y + 1 + 1 + 1 + 1 + A + 1 + 1) _ _ (M.o 2 rfl) (by omega) (by have := HE.out.2.1; omega)).mono ?_
   rintro x w2 ⟨rfl, k1, kp1⟩
   rw [← HE.out.2.1]
   replace M := M.turn 2 rfl kp1 (fun _ _ h hs => B8.same h hs) k1
   clear k1 kp1
   have fz := M.rowFree 0 rfl hn0
   have e8 := M.elemCell 0 rfl hn0 HP.out 8 rfl rfl
   have e9 := M.elemCell 0 rfl hn0 HP.out 9 rfl rfl
   have M1 := M.elemSet 0 rfl HP.out 8 (by simp) (.int .i64 (y + 1 + 1 + 1 + 1 + A + 1 + 1 + B)) rfl
   have HM := show Hid _ from M1
   clear M M1
   go_wp2_with fail
   have M := HM.out
   clear HM fz e8 e9
   refine (HIH.out.1 bv (y + 1 + 1 + 1 + 1 + A + 1 + 1 + B + 1) _ _ (M.o 3 rfl) (by omega) (by have := HE.out.2.2.1; omega)).mono ?_
   rintro x w3 ⟨rfl, k1, kp1⟩
   rw [← HE.out.2.2.1]
   replace M := M.turn 3 rfl kp1 (fun _ _ h hs => A5.same h hs) k1
   clear k1 kp1
   have e10 := M.elemCell 0 rfl hn0 HP.out 10 rfl rfl
   have HM := show Hid _ from M
   clear M
   go_wp2_with fail
   have M := HM.out
   clear HM e10
   refine (HIH.out.2 ev (y + 1 + 1 + 1 + 1 + A + 1 + 1 + B + 1 + C) _ _ (M.o 4 rfl) (by omega) (by have := HE.out.2.2.2; omega)).mono ?_
   rintro x w4 ⟨rfl, k1, kp1⟩
   rw [← HE.out.2.2.2]
   replace M := M.turn 4 rfl kp1 (fun _ _ h hs => A5.same h hs) k1
   clear k1 kp1
   have HM := show Hid _ from M
   clear M
   obtain ⟨z, hz⟩ : ∃ z : Int, z = y + 1 + 1 + 1 + 1 + A + 1 + 1 + B + 1 + C + D := ⟨_, rfl⟩
   have HZ := show Hid _ from hz
   rw [← hz]
   have hz0 : 0 ≤ z := by omega
   have hz1 : z ≤ 9000000000000000000 := by omega
   have HY1 := show Hid _ from hy1
   clear hz hy1
   go_wp2_with fail
   have M := HM.out
   obtain ⟨f2, f4, hmx, hmk, hyn⟩ := HF.out
   obtain ⟨d1, d2, d3, d4⟩ := HD.out
   have hO : G3 w4 (mkS s y) Sc [.int .i64 y, .int .i64 (y + 1), .int .i64 (y + 1 + 1), .int .i64 (y + 1 + 1 + 1), iv, .int .i64 (y + 1 + 1 + 1 + 1 + A), .int .i64 (y + 1 + 1 + 1 + 1 + A + 1), vv, .int .i64 (y + 1 + 1 + 1 + 1 + A + 1 + 1 + B), bv, ev] := by
    rw [hmk]
    exact (G3.iff _ _ _).2 ⟨iv, vv, bv, ev, Si, Sv, Sb, Se, rfl, ⟨d1, d2, d3, d4⟩, (M.o 1 rfl).mono fun _ h => h.1, (M.o 2 rfl).mono fun _ h => h.1, (M.o 3 rfl).mono fun _ h => h.1, (M.o 4 rfl).mono fun _ h => h.1⟩
   have hX := f4 w4 (mkS s y) _ (fun b hb hn hl => M.kept.block b hl fun h => h.elim (fun h => HGS.out (h ▸ hb)) hn) hO
   rw [← hmx] at hX
   refine ⟨⟨j + 1, _, _, by omega, by go_num, rfl, by have := HZ.out; omega, M.r 0 rfl, hX, HKP.out.trans (M.kept.mono fun b hb h => hb (h.elim (fun h => h ▸ (HG.out g rfl).1) fun h => HS.out b (f2 b h)))⟩, by simp [intOf]; omega⟩
  ·have hjn : j = ks.length := by omega
   subst hjn
   go_wp2_with fail
   go_ret
   exact ⟨C1 (by have := HY.out; rw [bW5 (bW6 _)] at this; exact this), ⟨xs, S', by rw [ab5]; exact HO1.out, HG.out, HS.out, by rw [← bB3]; exact HX1.out⟩, HKP.out⟩
theorem aN0 (s : b6) : a71 s.body ∧ a71 s.els :=
 b6.ind (P := fun s => a71 s.body ∧ a71 s.els) (fun _ _ _ _ _ b e ihb ihe => ⟨ai2 b ihb, ai2 e ihe⟩) s
theorem aM9 (ks : List b6) : a71 ks := ai2 ks fun s _ => aN0 s
structure Tr where
 new : List (Nat × It)
 made : List Nat
 res : AV
 obs : List Prop
def bn9 (P : Program) (t : TypeId) (l : List AV) : Option AV :=
 match aZ0 P t with
 | some true => if Z2 P t = some l.length then some (.agg l) else none
 | some false => match l with
  | [x] => some x
  | _ => none
 | none => none
def aG4 (P : Program) (t : TypeId) : Nat := match aZ0 P t with
 | some true => (Z2 P t).getD 0
 | _ => 1
def aV9 (P : Program) (S : Nat → It) (id : Nat) (t : TypeId) : AV → Option Tr
 | .ptr a off => match S a with
  | .box cs => (bn9 P t ((cs.drop off).take (aG4 P t))).map fun r => ⟨[], [], r, []⟩
  | _ => none
 | .ea a i j sz => match itD (S a) with
  | some d =>
   if sz = d.sz then
    (bn9 P t (xav (((d.elem i).drop j).take (aG4 P t)) id)).map fun r => ⟨X8 (((d.elem i).drop j).take (aG4 P t)) id, (X8 (((d.elem i).drop j).take (aG4 P t)) id).map (·.1), r, [i < d.len]⟩
   else none
  | none => none
 | _ => none
def D.empty : D → D
 | .ints _ => .ints []
 | .bools _ => .bools []
 | .bytes _ => .bytes []
 | .strs _ => .strs []
 | .instrs _ => .instrs []
 | .events _ => .events []
 | .rows _ => .rows []
 | .brows _ => .brows []
 | .exprs _ => .exprs []
 | .stmts _ => .stmts []
def D.putX : D → Nat → List X → Option D
 | .ints l, i, [.v (.int .i64 n)] => some (.ints (l.set i n))
 | .bools l, i, [.v (.bool b)] => some (.bools (l.set i b))
 | .strs l, i, [.v (.string s)] => some (.strs (l.set i s))
 | .instrs l, i, [.v (.int .i64 o), .v (.int .i64 a), .v (.int .i64 b), .v (.int .i64 c), .v (.int .i64 d)] => some (.instrs (l.set i ⟨o, a, b, c, d⟩))
 | .events l, i, [.v (.int .i64 a), .v (.int .i64 b)] => some (.events (l.set i (a, b)))
 | .rows l, i, [.sl (.ints r)] => some (.rows (l.set i r))
 | .brows l, i, [.sl (.bools r)] => some (.brows (l.set i r))
 | .exprs l, i, [.v (.int .i64 a), .v (.int .i64 b), .sl (.exprs x)] => some (.exprs (l.set i ⟨a, b, x⟩))
 | .stmts l, i, [.v (.int .i64 a), .v (.int .i64 b), .v (.int .i64 c), .v (.int .i64 d), .sl (.exprs x), .v (.int .i64 e), .v (.int .i64 f), .sl (.exprs y), .v (.int .i64 g), .sl (.stmts z), .sl (.stmts u)] => some (.stmts (l.set i ⟨a, b, ⟨c, d, x⟩, ⟨e, f, y⟩, g, z, u⟩))
 | _, _, _ => none
def ah8 (S : Nat → It) : List X → List AV → Option (List X)
 | [], [] => some []
 | .v _ :: r, .v x :: s => (ah8 S r s).map (.v x :: ·)
 | .sl d0 :: r, y :: s => match y with
  | .ref id => match S id with
   | .dat d => (ah8 S r s).map (.sl d :: ·)
   | _ => none
  | .v (.slice none 0 0) => (ah8 S r s).map (.sl d0.empty :: ·)
  | _ => none
 | _, _ => none
def b5.putI (e : b5) (n : Int) : Nat → Option b5
 | 0 => some ⟨n, e.value, e.kids⟩
 | 1 => some ⟨e.kind, n, e.kids⟩
 | _ => none
def b6.putI (s : b6) (n : Int) : Nat → Option b6
 | 0 => some ⟨n, s.target, s.index, s.value, s.count, s.body, s.els⟩
 | 1 => some ⟨s.kind, n, s.index, s.value, s.count, s.body, s.els⟩
 | 2 => some ⟨s.kind, s.target, ⟨n, s.index.value, s.index.kids⟩, s.value, s.count, s.body, s.els⟩
 | 3 => some ⟨s.kind, s.target, ⟨s.index.kind, n, s.index.kids⟩, s.value, s.count, s.body, s.els⟩
 | 5 => some ⟨s.kind, s.target, s.index, ⟨n, s.value.value, s.value.kids⟩, s.count, s.body, s.els⟩
 | 6 => some ⟨s.kind, s.target, s.index, ⟨s.value.kind, n, s.value.kids⟩, s.count, s.body, s.els⟩
 | 8 => some ⟨s.kind, s.target, s.index, s.value, n, s.body, s.els⟩
 | _ => none
def D.putI (i j : Nat) (n : Int) : D → Option D
 | .exprs l => ((l.getD i bV3).putI n j).map fun e => .exprs (l.set i e)
 | .stmts l => ((l.getD i bV3).putI n j).map fun s => .stmts (l.set i s)
 | _ => none
def af2 (P : Program) (S : Nat → It) (t : TypeId) (v : AV) : AV → Option Tr
 | .ptr a off => match S a with
  | .box cs => if aC1 S v && decide (Z2 P t = some v.cells.length) && decide (off + v.cells.length ≤ cs.length) then some ⟨[(a, .box (ar2 cs off v.cells))], [], .v undef, []⟩ else none
  | _ => none
 | .ea a i j sz => match S a with
  | .row e d => if aC1 S v && decide (Z2 P t = some v.cells.length) && decide (sz = d.sz) && decide (j + v.cells.length ≤ d.sz) then
    match ah8 S (((d.elem i).drop j).take v.cells.length) v.cells with
    | some xs => (d.putX i (ar2 (d.elem i) j xs)).map fun d' => ⟨[(a, .row e d')], [], .v undef, [i < d.len]⟩
    | none => none
   else none
  | .tree d => match v with
   | .v (.int .i64 n) => if decide (Z2 P t = some 1) && decide (sz = d.sz) then (d.putI i j n).map fun d' => ⟨[(a, .tree d')], [], .v undef, [i < d.len]⟩ else none
   | _ => none
  | _ => none
 | _ => none
def ba8 (S : Nat → It) (id : Nat) (v : AV) : Option Tr :=
 if aC1 S v then some ⟨[(id, .box v.cells)], [id], .ptr id 0, []⟩ else none
section
variable {P : Program} {ι : Type} {φ ψ : Nat → Prop} {w0 w w' : World} {F : ι → Rs} {ρ : Nat → Value} {S : Nat → It}
def N9 (φ ψ : Nat → Prop) (w0 : World) (F : ι → Rs) (ρ : Nat → Value) (S : Nat → It) (t : Tr) (v : Value) (w' : World) : Prop :=
 ∃ ρ', H0 t.made ρ ρ' ∧ s7 φ ψ w0 w' (v9 F ρ' (v8 S t.new)) ∧ v = t.res.val ρ'
theorem aB0 {t : TypeId} {l : List AV} {r : AV} (h : bn9 P t l = some r) (a : Addr) (hc : ∀ j u, (AV.vals ρ l)[j]? = some u → w.cell? (a.add j) = some u) : (loadVar t a).run P w = .ok (r.val ρ) w := by
 unfold bn9 at h
 unfold loadVar
 split at h
 ·rename_i ha
  split at h
  ·rename_i hs
   cases h
   have hl : l.length = (AV.vals ρ l).length := (AV.vals_length ρ l).symm
   have := run_loadCells_list (P := P) (w := w) a (AV.vals ρ l) hc
   rw [AV.vals_length] at this
   simp [am9 ha, I9 hs, this, AV.val]
  ·cases h
 ·rename_i ha
  split at h <;> first | cases h | skip
  rename_i x
  have h0 := hc 0 (r.val ρ) (by simp [AV.vals])
  have e : a.add 0 = a := by simp [Addr.add]
  rw [e] at h0
  simp [am9 ha, h0]
 ·cases h
theorem bI1 {d : D} {φ : Nat → Prop} {b off i : Nat} (h : ∀ j x, (d.elem i)[j]? = some x → ∃ u, w.cell? ⟨b, off + (i * d.sz + j), none⟩ = some u ∧ XH w φ x u) : ∀ (n j : Nat), ∃ us, XHs w φ (((d.elem i).drop j).take n) us ∧ ∀ k u, us[k]? = some u → w.cell? ⟨b, off + (i * d.sz + (j + k)), none⟩ = some u := by
 intro n
 induction n with
 | zero => intro j; exact ⟨[], by simp [XHs], by simp⟩
 | succ n ih =>
  intro j
  cases hx : (d.elem i)[j]? with
  | none =>
   have hl : (d.elem i).drop j = [] := by
    rw [List.drop_eq_nil_iff]; exact List.getElem?_eq_none_iff.1 hx
   exact ⟨[], by simp [hl, XHs], by simp⟩
  | some x =>
   obtain ⟨u, h1, h2⟩ := h j x hx
   obtain ⟨us, h3, h4⟩ := ih (j + 1)
   have hl := (bW9.1 hx)
   refine ⟨u :: us, ?_, fun k u' hk => ?_⟩
   ·rw [List.drop_eq_getElem_cons hl.1, List.take_succ_cons, hl.2]
    exact ⟨h2, h3⟩
   ·cases k with
    | zero => simp at hk; subst hk; exact h1
    | succ k =>
     have := h4 k u' (by simpa using hk)
     rw [show j + (k + 1) = j + 1 + k by omega]; exact this
theorem bC3 (M : s7 φ ψ w0 w (v9 F ρ S)) {o : Oper} {g : Operand → Value} {t : TypeId} {x : Operand} (hop : o.op = .load t x) {av : AV} (hx : g x = av.val ρ) {id : Nat} {r : Tr} (h : aV9 P S id t av = some r) (ho : C4 r.obs) (hmk : ∀ j ∈ r.made, S j = .none) (hi : Inv S ρ r.made) :
  O8 P o g w (N9 φ ψ w0 F ρ S r) := by
 cases av <;> simp only [aV9] at h <;> first | cases h | skip
 ·rename_i a off
  split at h <;> first | cases h | skip
  rename_i cs hS
  obtain ⟨v, h1, h2⟩ := bW4.1 h
  cases h2
  refine .inl ⟨v.val ρ, w, ?_, ρ, H0.refl _ _, M, rfl⟩
  have hb := M.boxAt hS
  have hl := aB0 (P := P) (ρ := ρ) (w := w) h1 ⟨Y9 (ρ a), off, none⟩ (fun j u hj => by
   rw [AV.vals_take, AV.vals_drop] at hj
   have hadd : (⟨Y9 (ρ a), off, none⟩ : Addr).add j = ⟨Y9 (ρ a), off + j, none⟩ := by unfold Addr.add; split <;> simp_all
   rw [hadd, hb.cell]
   rw [List.getElem?_take] at hj
   split at hj
   ·rw [List.getElem?_drop] at hj; exact hj
   ·cases hj)
  simp [execOp, hop, hx, AV.val, Instr.loadAt, Instr.sureAddr, hl]
 ·rename_i a i j sz
  split at h <;> first | cases h | skip
  rename_i d hd
  split at h <;> first | cases h | skip
  rename_i hsz
  subst hsz
  obtain ⟨v, h1, h2⟩ := bW4.1 h
  cases h2
  simp only [C4] at ho
  obtain ⟨aa, cap, hr, _, _, hc⟩ := M.sliceAt hd
  obtain ⟨b, off, rfl, hcc⟩ := hc i ho.1
  obtain ⟨us, k1, k2⟩ := bI1 hcc (aG4 P t) j
  obtain ⟨ρ', m1, m2, m3⟩ := M.dats _ us id k1 hmk hi
  refine .inl ⟨v.val ρ', w, ?_, ρ', m1, m2, rfl⟩
  have hl := aB0 (P := P) (ρ := ρ') (w := w) h1 ⟨b, off + (i * d.sz + j), none⟩ (fun k u hk => by
   rw [← m3] at hk
   have hadd : (⟨b, off + (i * d.sz + j), none⟩ : Addr).add k = ⟨b, off + (i * d.sz + (j + k)), none⟩ := by unfold Addr.add; split <;> simp_all [Nat.add_assoc]
   rw [hadd]; exact k2 k u hk)
  simp [execOp, hop, hx, AV.val, Instr.loadAt, Instr.sureAddr, hr, I8, aK9, hl]
theorem D0.setRow' {w : World} {b : Nat} {cs cs' : List Value} {T : TypeId} (_h : w.heap[b]? = some (.cells cs.toArray T (0, 0))) : D0 (fun c => ¬ c = b) w (w.setRow b cs'.toArray) ∧ Blk (w.setRow b cs'.toArray) b cs' :=
 ⟨⟨rfl, rfl, rfl, by simp, fun c _ hc => setRow_other _ _ _ _ hc⟩, T, setRow_heap _ _ _ _ _ _ _h⟩
theorem aH5 {α : Type} : ∀ (us ys : List α) (p q : Nat), p + us.length ≤ ys.length → (ar2 ys p us)[q]? = if p ≤ q ∧ q < p + us.length then us[q - p]? else ys[q]?
 | [], ys, p, q, _ => by simp [ar2]; intro h1 h2; omega
 | u :: r, ys, p, q, h => by
  simp only [bV6] at h
  simp only [ar2]
  rw [aH5 r _ _ _ (by simp; omega)]
  by_cases h1 : p + 1 ≤ q ∧ q < p + 1 + r.length
  ·rw [if_pos h1, if_pos (by simp; omega)]
   rw [show q - p = (q - (p + 1)) + 1 by omega]; simp
  ·rw [if_neg h1]
   by_cases h2 : q = p
   ·subst h2
    rw [if_pos (by simp)]
    rw [List.getElem?_set_self (by omega)]; simp
   ·rw [if_neg (by simp; omega), List.getElem?_set_ne (by omega)]
theorem aO6 : ∀ (us ys : List Value) (p : Nat), setFrom ys p us = ar2 ys p us
 | [], _, _ => rfl
 | u :: r, ys, p => by simp only [setFrom, ar2]; exact aO6 r _ _
theorem ak8 : ∀ (us ys : List Value) (p k : Nat), (setFrom ys p us).take k = setFrom (ys.take k) p us
 | [], _, _, _ => rfl
 | u :: r, ys, p, k => by simp only [setFrom]; rw [ak8 r, List.take_set]
theorem U0 {α : Type} (f : α → List X) {l : List α} {i : Nat} {y z : α} {xs : List X} (h : f y = xs) : (i < l.length → f ((l.set i y).getD i z) = xs) ∧ ∀ k, k ≠ i → f ((l.set i y).getD k z) = f (l.getD k z) :=
 ⟨fun hi => by rw [bW2, List.getElem?_set_self hi]; exact h, fun k hk => by rw [bW2, List.getElem?_set_ne fun e => hk e.symm, ← bW2]⟩
theorem D.putX_ok {d d' : D} {i : Nat} {xs : List X} (h : d.putX i xs = some d') : d'.len = d.len ∧ d'.sz = d.sz ∧ (i < d.len → d'.elem i = xs) ∧ ∀ k, k ≠ i → d'.elem k = d.elem k := by
 unfold D.putX at h
 split at h <;> first | cases h | skip
 ·exact ⟨by simp [D.len], rfl, U0 (fun n => [X.v (.int .i64 n)]) rfl⟩
 ·exact ⟨by simp [D.len], rfl, U0 (fun n => [X.v (.bool n)]) rfl⟩
 ·exact ⟨by simp [D.len], rfl, U0 (fun n => [X.v (.string n)]) rfl⟩
 ·exact ⟨by simp [D.len], rfl, U0 bb4 rfl⟩
 ·exact ⟨by simp [D.len], rfl, U0 as3 rfl⟩
 ·exact ⟨by simp [D.len], rfl, U0 (fun r => [X.sl (.ints r)]) rfl⟩
 ·exact ⟨by simp [D.len], rfl, U0 (fun r => [X.sl (.bools r)]) rfl⟩
 ·exact ⟨by simp [D.len], rfl, U0 aK5 rfl⟩
 ·exact ⟨by simp [D.len], rfl, U0 aH1 rfl⟩
theorem D.empty_len (d : D) : d.empty.len = 0 := by cases d <;> rfl
theorem RD.empty (w : World) (φ : Nat → Prop) (d : D) : RD w φ d.empty (.slice none 0 0) := by
 refine RD.make (xs := []) ?_ fun i hi => by rw [D.empty_len] at hi; omega
 rw [D.empty_len]; exact E9.nil _ _ _
theorem aD5 (M : s7 φ ψ w0 w (v9 F ρ S)) : ∀ {old : List X} {l : List AV} {xs : List X}, ah8 S old l = some xs → XHs w (FrF φ (v9 F ρ S)) xs (AV.vals ρ l)
 | [], [], xs, h => by simp only [ah8, Option.some.injEq] at h; subst h; trivial
 | .v y :: r, .v x :: s, xs, h => by
  simp only [ah8, bW4] at h
  obtain ⟨ys, h1, rfl⟩ := h
  exact ⟨rfl, aD5 M h1⟩
 | .sl d0 :: r, y :: s, xs, h => by
  simp only [ah8] at h
  split at h
  ·split at h <;> first | cases h | skip
   rename_i id _ d hS
   obtain ⟨ys, h1, rfl⟩ := bW4.1 h
   exact ⟨M.datAt hS, aD5 M h1⟩
  ·obtain ⟨ys, h1, rfl⟩ := bW4.1 h
   exact ⟨RD.empty _ _ _, aD5 M h1⟩
  ·cases h
 | [], _ :: _, xs, h => by simp [ah8] at h
 | .v _ :: _, [], xs, h => by simp [ah8] at h
 | .sl _ :: _, [], xs, h => by simp [ah8] at h
 | .v _ :: _, .ptr _ _ :: _, xs, h => by simp [ah8] at h
 | .v _ :: _, .ea _ _ _ _ :: _, xs, h => by simp [ah8] at h
 | .v _ :: _, .ref _ :: _, xs, h => by simp [ah8] at h
 | .v _ :: _, .agg _ :: _, xs, h => by simp [ah8] at h
 | .v _ :: _, .tup _ :: _, xs, h => by simp [ah8] at h
 | .v _ :: _, .fn _ _ :: _, xs, h => by simp [ah8] at h
 | .v _ :: _, .bm _ _ :: _, xs, h => by simp [ah8] at h
 | .v _ :: _, .tref _ :: _, xs, h => by simp [ah8] at h
theorem XHs.get {φ : Nat → Prop} : ∀ {xs : List X} {us : List Value}, XHs w φ xs us → xs.length = us.length ∧ ∀ (j : Nat) x, xs[j]? = some x → ∃ u, us[j]? = some u ∧ XH w φ x u
 | [], [], _ => ⟨rfl, fun j x h => by simp at h⟩
 | x :: r, u :: s, h => by
  obtain ⟨h1, h2⟩ := XHs.get h.2
  refine ⟨by simp [h1], fun j y hj => ?_⟩
  cases j with
  | zero => simp at hj; subst hj; exact ⟨u, rfl, h.1⟩
  | succ j => simpa using h2 j y (by simpa using hj)
 | [], _ :: _, h => h.elim
 | _ :: _, [], h => by cases h
theorem RW.put {φ : Nat → Prop} {d d' : D} {xs us : List Value} {i j : Nat} {ys : List X} (hx : RW w φ d xs) (hl : xs.length = d.len * d.sz) (hi : i < d.len) (hj : j + us.length ≤ d.sz) (hy : XHs w φ ys us) (h : d.putX i (ar2 (d.elem i) j ys) = some d') : RW w φ d' (setFrom xs (i * d.sz + j) us) := by
 obtain ⟨h1, h2, h3, h4⟩ := D.putX_ok h
 obtain ⟨g1, g2⟩ := hy.get
 have hfit : i * d.sz + j + us.length ≤ xs.length := by
  have : (i + 1) * d.sz ≤ d.len * d.sz := bZ3 _ hi
  rw [bY3] at this
  omega
 intro k hk q x hq
 rw [aO6, h2, aH5 _ _ _ _ hfit]
 by_cases e : k = i
 ·subst e
  rw [h3 hi, aH5 _ _ _ _ (by rw [D.elem_len, g1]; exact hj)] at hq
  by_cases hr : j ≤ q ∧ q < j + ys.length
  ·rw [if_pos hr] at hq
   rw [if_pos (by omega)]
   obtain ⟨u, k1, k2⟩ := g2 _ x hq
   exact ⟨u, by rw [show k * d.sz + q - (k * d.sz + j) = q - j by omega]; exact k1, k2⟩
  ·rw [if_neg hr] at hq
   rw [if_neg (by omega)]
   exact hx k hi q x hq
 ·rw [h4 k e] at hq
  have hqs : q < d.sz := by rw [← D.elem_len d k]; exact (bW9.1 hq).1
  rw [if_neg]
  ·exact hx k (by omega) q x hq
  ·rintro ⟨a1, a2⟩
   rcases Nat.lt_or_gt_of_ne e with h | h
   ·have : (k + 1) * d.sz ≤ i * d.sz := bZ3 _ h
    rw [bY3] at this; omega
   ·have : (i + 1) * d.sz ≤ k * d.sz := bZ3 _ h
    rw [bY3] at this; omega
theorem b5.putI_ok {w : World} {e e' : b5} {n : Int} {j : Nat} {S : Nat → Prop} {c : List Value} (h : e.putI n j = some e') (hO : G5 w e S c) : j < 3 ∧ G5 w e' S (c.set j (.int .i64 n)) := by
 obtain ⟨kv, rfl, hk⟩ := (G5.iff _ _ _).1 hO
 unfold b5.putI at h
 split at h <;> first | cases h | skip
 ·exact ⟨by omega, (G5.iff _ _ _).2 ⟨kv, rfl, hk⟩⟩
 ·exact ⟨by omega, (G5.iff _ _ _).2 ⟨kv, rfl, hk⟩⟩
theorem b6.putI_ok {w : World} {s s' : b6} {n : Int} {j : Nat} {S : Nat → Prop} {c : List Value} (h : s.putI n j = some s') (hO : G3 w s S c) : j < 11 ∧ G3 w s' S (c.set j (.int .i64 n)) := by
 obtain ⟨iv, vv, bv, ev, Si, Sv, Sb, Se, rfl, hd, h1, h2, h3, h4⟩ := (G3.iff _ _ _).1 hO
 unfold b6.putI at h
 split at h <;> first | cases h | skip
 all_goals exact ⟨by omega, (G3.iff _ _ _).2 ⟨iv, vv, bv, ev, Si, Sv, Sb, Se, rfl, hd, h1, h2, h3, h4⟩⟩
theorem U3.putI {w w' : World} {d d' : D} {i j : Nat} {n : Int} {S : Nat → Prop} {xs : List Value} (hp : d.putI i j n = some d') (hi : i < d.len) (hxl : xs.length = d.len * d.sz) (h : U3 w d S xs) (hs : ∀ b, S b → b < w.heap.size → w'.heap[b]? = w.heap[b]?) : d'.len = d.len ∧ d'.sz = d.sz ∧ ao7 d' = ao7 d ∧ j < d.sz ∧ U3 w' d' S (xs.set (i * d.sz + j) (.int .i64 n)) := by
 unfold D.putI at hp
 split at hp <;> first | cases hp | skip
 ·rename_i l
  obtain ⟨e', h1, h2⟩ := bW4.1 hp
  cases h2
  have hi' : i < l.length := hi
  have hx := t9.same _ _ _ (show t9 w l S xs from h) hs
  obtain ⟨c, Sc, k1, k2, k3, k4⟩ := t9.focus hx i hi'
  rw [A1 hi'] at h1
  obtain ⟨p1, p2⟩ := b5.putI_ok h1 k1
  have hl := k1.len
  have hlen : xs.length = l.length * 3 := hxl
  refine ⟨by simp [D.len], rfl, rfl, p1, ?_⟩
  have := k4 w' e' _ (fun b _ _ _ => rfl) p2
  have hfit : i * 3 + 3 ≤ xs.length := by
   have : (i + 1) * 3 ≤ l.length * 3 := bZ3 _ hi'
   rw [bY3] at this; omega
  have e : setFrom xs (i * 3) (c.set j (.int .i64 n)) = xs.set (i * 3 + j) (.int .i64 n) := by
   rw [← ak7 _ (by rw [hl]; exact hfit) (by rw [hl]; exact p1), ah5 (by rw [hl]; exact hfit) (fun q hq => k3 q (by rw [hl] at hq; exact hq))]
  rw [e] at this
  exact this
 ·rename_i l
  obtain ⟨e', h1, h2⟩ := bW4.1 hp
  cases h2
  have hi' : i < l.length := hi
  have hx := t7.same _ _ _ (show t7 w l S xs from h) hs
  obtain ⟨c, Sc, k1, k2, k3, k4⟩ := t7.focus hx i hi'
  rw [A1 hi'] at h1
  obtain ⟨p1, p2⟩ := b6.putI_ok h1 k1
  have hl := k1.len
  have hlen : xs.length = l.length * 11 := hxl
  refine ⟨by simp [D.len], rfl, rfl, p1, ?_⟩
  have := k4 w' e' _ (fun b _ _ _ => rfl) p2
  have hfit : i * 11 + 11 ≤ xs.length := by
   have : (i + 1) * 11 ≤ l.length * 11 := bZ3 _ hi'
   rw [bY3] at this; omega
  have e : setFrom xs (i * 11) (c.set j (.int .i64 n)) = xs.set (i * 11 + j) (.int .i64 n) := by
   rw [← ak7 _ (by rw [hl]; exact hfit) (by rw [hl]; exact p1), ah5 (by rw [hl]; exact hfit) (fun q hq => k3 q (by rw [hl] at hq; exact hq))]
  rw [e] at this
  exact this
theorem aT2 (M : s7 φ ψ w0 w (v9 F ρ S)) {o : Oper} {g : Operand → Value} {t : TypeId} {x y : Operand} (hop : o.op = .store t x y) {a i j : Nat} {n : Int} {d d' : D} (hx : g x = (AV.ea a i j d.sz).val ρ) (hy : g y = (AV.v (.int .i64 n)).val ρ) (k2 : Z2 P t = some 1) (hS : S a = .tree d) (hd' : d.putI i j n = some d') (hi : i < d.len) :
  O8 P o g w (N9 φ ψ w0 F ρ S ⟨[(a, .tree d')], [], .v undef, [i < d.len]⟩) := by
 obtain ⟨hT, hlt⟩ := M.treeAt (id := a) (d := d) (by rw [hS]; rfl)
 obtain ⟨e, xs, S', h0, h1, h2, h3, h4⟩ := hT
 have hown := h1
 obtain ⟨hxl, hform⟩ := hown
 rcases hform with ⟨_, hn⟩ | ⟨b, cap, cur, hv, _, hb, hcap, hmax, hcs, htk⟩
 ·omega
 have hbS : G7 (ρ a) b ∧ ¬ S' b := h2 b (by rw [hv]; rfl)
 obtain ⟨q1, q2, q3, q4, -⟩ := U3.putI hd' hi hxl h4 fun _ _ _ => rfl
 have hfit : i * d.sz + j + 1 ≤ d.len * d.sz := by
  have : (i + 1) * d.sz ≤ d.len * d.sz := bZ3 _ hi
  rw [bY3] at this
  omega
 have hcapsz : d.len * d.sz ≤ cap * d.sz := bZ3 _ hcap
 have hcur : i * d.sz + j + 1 ≤ cur.toList.length := by
  have hc2 : cur.toList.length = cap * d.sz := by rw [Array.length_toList]; exact hcs
  omega
 have hst := run_storeCells_at (P := P) b (i * d.sz + j) e [.int .i64 n] 0 cur w hb (by simpa using hcur) (fun u hu => by rw [bY7.1 hu]; rfl)
 simp only [bZ5] at hst
 rw [← ab0 _ _ _ (by simpa using hcur)] at hst
 have hrun : (execOp g o).run P w = .ok .skip (w.setRow b (setFrom cur.toList (i * d.sz + j) [.int .i64 n]).toArray) := by
  simp only [AV.val] at hx hy
  simp [execOp, hop, hx, hy, Instr.storeAt, Instr.sureAddr, storeVar, Value.cells, I9 k2, hv, aK9]
  rw [hst]; rfl
 have hk : D0 (fun c => ¬ ((S a).res ρ a).blk c) w (w.setRow b (setFrom cur.toList (i * d.sz + j) [.int .i64 n]).toArray) :=
  ⟨rfl, rfl, rfl, by simp, fun c _ hc => setRow_other _ _ _ _ fun e => hc (by rw [hS, e]; exact hbS.1)⟩
 have M1 : s7 φ ψ w0 (w.setRow b (setFrom cur.toList (i * d.sz + j) [.int .i64 n]).toArray) (v9 F ρ (v8 S [(a, .tree d')])) := by
  refine M.one a _ [] (fun ρ' h j => by rw [show ρ' = ρ from funext fun k => h k (by simp)]) (H0.refl _ _) hk (fun c hc => .inl (by rw [hS]; exact hc)) ?_
  simp only [It.res]
  refine ⟨fun _ _ h hs => h.same hs, ⟨e, setFrom xs (i * d.sz + j) [.int .i64 n], S', by rw [q3, h0], ?_, h2, h3, ?_⟩, fun c hc => by simpa using hlt c hc⟩
  ·rw [q1, q2]
   refine ⟨by rw [L1, hxl], .inr ⟨b, cap, (setFrom cur.toList (i * d.sz + j) [.int .i64 n]).toArray, hv, bX5 _, setRow_heap _ _ _ _ _ _ hb, hcap, hmax, ?_, ?_⟩⟩
   ·simp [L1, hcs]
   ·rw [← htk]; exact ak8 _ _ _ _
  ·exact (U3.putI hd' hi hxl h4 fun c hc _ => setRow_other _ _ _ _ fun e => hbS.2 (by rw [← e]; exact hc)).2.2.2.2
 exact .inr (.inl ⟨_, hrun, ρ, H0.refl _ _, M1, rfl⟩)
theorem aZ2 (M : s7 φ ψ w0 w (v9 F ρ S)) {o : Oper} {g : Operand → Value} {t : TypeId} {x y : Operand} (hop : o.op = .store t x y) {a i j sz : Nat} {vv : AV} (hx : g x = (AV.ea a i j sz).val ρ) (hy : g y = vv.val ρ) {r : Tr} (h : af2 P S t vv (.ea a i j sz) = some r) (ho : C4 r.obs) :
  O8 P o g w (N9 φ ψ w0 F ρ S r) := by
 simp only [af2] at h
 split at h <;> first | cases h | skip
 case h_2 d hS =>
  split at h <;> first | cases h | skip
  rename_i n
  split at h
  case isFalse => cases h
  rename_i hc
  simp only [bV8, decide_eq_true_eq] at hc
  obtain ⟨k2, rfl⟩ := hc
  obtain ⟨d', hd', hr⟩ := bW4.1 h
  subst hr
  simp only [C4] at ho
  exact aT2 M hop hx hy k2 hS hd' ho.1
 rename_i e d hS
 split at h
 case isFalse => cases h
 rename_i hc
 simp only [bV8, decide_eq_true_eq] at hc
 obtain ⟨⟨⟨k1, k2⟩, rfl⟩, k3⟩ := hc
 split at h <;> first | cases h | skip
 rename_i ys hys
 obtain ⟨d', hd', hr⟩ := bW4.1 h
 subst hr
 simp only [C4] at ho
 have hi := ho.1
 obtain ⟨c1, c2⟩ := ab2 M k1
 obtain ⟨xs, hown, hRW⟩ := M.rowAt hS
 have hXs := aD5 M hys
 obtain ⟨p1, p2, p3, p4⟩ := D.putX_ok hd'
 have hul : (AV.vals ρ vv.cells).length = vv.cells.length := AV.vals_length _ _
 have hsz : 0 < d.sz := by cases d <;> simp [D.sz]
 obtain ⟨hxl, hform⟩ := hown
 rcases hform with ⟨_, hn⟩ | ⟨b, cap, cur, hv, _, hb, hcap, hmax, hcs, htk⟩
 ·omega
 have hfit : i * d.sz + j + (AV.vals ρ vv.cells).length ≤ d.len * d.sz := by
  have : (i + 1) * d.sz ≤ d.len * d.sz := bZ3 _ hi
  rw [bY3] at this
  omega
 have hcapsz : d.len * d.sz ≤ cap * d.sz := bZ3 _ hcap
 have hcur : i * d.sz + j + (AV.vals ρ vv.cells).length ≤ cur.toList.length := by
  have hc2 : cur.toList.length = cap * d.sz := by rw [Array.length_toList]; exact hcs
  omega
 have hst := run_storeCells_at (P := P) b (i * d.sz + j) e (AV.vals ρ vv.cells) 0 cur w hb (by simpa using hcur) c2
 simp only [bZ5] at hst
 rw [← ab0 _ _ _ hcur] at hst
 have hrun : (execOp g o).run P w = .ok .skip (w.setRow b (setFrom cur.toList (i * d.sz + j) (AV.vals ρ vv.cells)).toArray) := by
  simp [execOp, hop, hx, hy, AV.val, Instr.storeAt, Instr.sureAddr, storeVar, c1, I9 k2, AV.vals_length, hv, I8, aK9]
  rw [hst]; rfl
 have hblk : ∀ c, ((S a).res ρ a).blk c ↔ c = b := fun c => by
  rw [hS]; simp only [It.res, Rs.blk, hv, Value.ownBlock, Option.some.injEq]; exact ⟨fun h => h.symm, fun h => h.symm⟩
 have hk : D0 (fun c => ¬ ((S a).res ρ a).blk c) w (w.setRow b (setFrom cur.toList (i * d.sz + j) (AV.vals ρ vv.cells)).toArray) :=
  ⟨rfl, rfl, rfl, by simp, fun c _ hc => setRow_other _ _ _ _ fun e => hc ((hblk c).2 e)⟩
 have hfr : ∀ c, FrF φ (v9 F ρ S) c → FrF φ (v9 F ρ (v8 S [(a, .row e d')])) c := fun c hc => ⟨hc.1, fun k hk' => by
  cases k with
  | inl i => exact hc.2 (.inl i) hk'
  | inr q =>
   by_cases eq : q = a
   ·subst eq
    simp only [v9, v8, if_true] at hk'
    refine hc.2 (.inr q) ?_
    simp only [v9]
    rw [hS]; exact hk'
   ·simp only [v9, v8, if_neg eq] at hk'
    exact hc.2 (.inr q) hk'⟩
 have M1 : s7 φ ψ w0 (w.setRow b (setFrom cur.toList (i * d.sz + j) (AV.vals ρ vv.cells)).toArray) (v9 F ρ (v8 S [(a, .row e d')])) := by
  refine M.one a _ [] (fun ρ' h j => by rw [show ρ' = ρ from funext fun k => h k (by simp)]) (H0.refl _ _) hk (fun c hc => .inl (by rw [hS]; exact hc)) ?_
  simp only [It.res]
  refine ⟨fun xs => RW.nice d' xs, setFrom xs (i * d.sz + j) (AV.vals ρ vv.cells), ?_, ?_⟩
  ·rw [p1, p2]
   refine ⟨by rw [L1, hxl], .inr ⟨b, cap, (setFrom cur.toList (i * d.sz + j) (AV.vals ρ vv.cells)).toArray, hv, bX5 _, setRow_heap _ _ _ _ _ _ hb, hcap, hmax, ?_, ?_⟩⟩
   ·simp [L1, hcs]
   ·rw [← htk]; exact ak8 _ _ _ _
  ·refine RW.nice d' _ _ _ _ _ ⟨hk.size, fun c hc hf => ⟨hfr c hf, hk.block c hc fun he => hf.2 (.inr a) he⟩⟩ ?_
   exact RW.put hRW hxl hi (by rw [hul]; exact k3) hXs hd'
 exact .inr (.inl ⟨_, hrun, ρ, H0.refl _ _, M1, rfl⟩)
theorem bp3 (M : s7 φ ψ w0 w (v9 F ρ S)) {o : Oper} {g : Operand → Value} {t : TypeId} {x y : Operand} (hop : o.op = .store t x y) {av vv : AV} (hx : g x = av.val ρ) (hy : g y = vv.val ρ) {r : Tr} (h : af2 P S t vv av = some r) (ho : C4 r.obs) :
  O8 P o g w (N9 φ ψ w0 F ρ S r) := by
 cases av
 case ea a i j sz => exact aZ2 M hop hx hy h ho
 all_goals (simp only [af2] at h)
 all_goals first | cases h | skip
 rename_i a off
 split at h <;> first | cases h | skip
 rename_i cs hS
 split at h
 case isFalse => cases h
 rename_i hc
 simp only [bV8, decide_eq_true_eq] at hc
 obtain ⟨⟨k1, k2⟩, k3⟩ := hc
 cases h
 obtain ⟨c1, c2⟩ := ab2 M k1
 obtain ⟨T, hb⟩ := M.boxAt hS
 have hst := run_storeCells_at (P := P) (Y9 (ρ a)) off T (AV.vals ρ vv.cells) 0 _ w hb (by simp [AV.vals_length]; omega) c2
 obtain ⟨q1, q2⟩ := D0.setRow' (cs' := setFrom (AV.vals ρ cs) off (AV.vals ρ vv.cells)) hb
 simp only [bZ5] at hst
 rw [← ab0 _ _ _ (by simp [AV.vals_length]; omega)] at hst
 have hrun : (execOp g o).run P w = .ok .skip (w.setRow (Y9 (ρ a)) (setFrom (AV.vals ρ cs) off (AV.vals ρ vv.cells)).toArray) := by
  simp [execOp, hop, hx, hy, AV.val, Instr.storeAt, Instr.sureAddr, storeVar, c1, I9 k2, AV.vals_length]
  rw [hst]; rfl
 have M1 : s7 φ ψ w0 (w.setRow (Y9 (ρ a)) (setFrom (AV.vals ρ cs) off (AV.vals ρ vv.cells)).toArray) (v9 F ρ (v8 S [(a, .box (ar2 cs off vv.cells))])) :=
  M.one a _ [] (fun ρ' h j => by rw [show ρ' = ρ from funext fun k => h k (by simp)]) (H0.refl _ _) (by rw [hS]; exact q1) (fun g hg => .inl (by rw [hS]; exact hg)) (by simp only [It.res, AV.vals_setL]; exact q2)
 exact .inr (.inl ⟨_, hrun, ρ, H0.refl _ _, M1, rfl⟩)
theorem bK1 (M : s7 φ ψ w0 w (v9 F ρ S)) {o : Oper} {g : Operand → Value} {t : TypeId} {vv : AV} {v : Value} (hop : (execOp g o).run P w = .ok (.value (.pointer (some ⟨w.heap.size, 0, none⟩))) (w.alloc (.cells v.cells t))) (hv : v = vv.val ρ) {id : Nat} {r : Tr} (h : ba8 S id vv = some r) (hmk : ∀ j ∈ r.made, S j = .none) (hi : Inv S ρ r.made) :
  O8 P o g w (N9 φ ψ w0 F ρ S r) := by
 unfold ba8 at h
 split at h
 case isFalse => cases h
 rename_i hc
 cases h
 obtain ⟨c1, _⟩ := ab2 M hc
 have hS : S id = .none := hmk id (by simp)
 have ha : H0 [id] ρ (fun j => if j = id then .pointer (some ⟨w.heap.size, 0, none⟩) else ρ j) := fun j hj => by
  have : j ≠ id := by simpa using hj
  simp [this]
 refine .inl ⟨_, _, hop, _, ha, M.one id _ [id] hi ha (D0.any ((Below.refl _ _).alloc (bW6 _) _)) (fun g hg => ?_) ?_, ?_⟩
 ·simp only [It.res, if_true, Y9] at hg
  exact .inr (by rw [show g = w.heap.size from hg]; exact bW6 _)
 ·simp only [It.res, if_true, Y9, Rs.holds]
  have e : AV.vals (fun j => if j = id then .pointer (some ⟨w.heap.size, 0, none⟩) else ρ j) vv.cells = AV.vals ρ vv.cells := AV.vals_congr _ fun k hk => by
   have : k ≠ id := fun e => bs3 hS hc (e ▸ hk)
   simp [this]
  rw [e, hv, c1]
  exact Blk.new _ _ _
 ·simp [AV.val, Y9]
end
def D.nil : Nat → Option D
 | 1 => some (.ints [])
 | 2 => some (.bools [])
 | 3 => some (.bytes [])
 | 4 => some (.strs [])
 | 5 => some (.instrs [])
 | 6 => some (.events [])
 | 7 => some (.rows [])
 | 8 => some (.brows [])
 | 9 => some (.exprs [])
 | 10 => some (.stmts [])
 | _ => none
theorem D.nil_len {k : Nat} {d : D} (h : D.nil k = some d) : d.len = 0 := by
 unfold D.nil at h
 split at h <;> first | (cases h; rfl) | cases h
def aW8 (S : Nat → It) (k : Nat) : AV → Option D
 | .ref id => match S id with
  | .dat d => some d
  | _ => none
 | .v (.slice none 0 0) => D.nil k
 | _ => none
def bI5 (S : Nat → It) (k : Nat) : AV → Option D
 | .ref id => itD (S id)
 | .v (.slice none 0 0) => D.nil k
 | _ => none
def bJ8 (S : Nat → It) (k : Nat) (l : List AV) : Option (D × List Prop) :=
 match k, l with
 | 1, [.v (.int .i64 n)] => some (.ints [n], [])
 | 2, [.v (.bool b)] => some (.bools [b], [])
 | 3, [.v (.int .u8 n)] => some (.bytes [UInt8.ofNat n.toNat], [0 ≤ n, n < 256])
 | 4, [.v (.string s)] => some (.strs [s], [])
 | 5, [.v (.int .i64 o), .v (.int .i64 a), .v (.int .i64 b), .v (.int .i64 c), .v (.int .i64 d)] => some (.instrs [⟨o, a, b, c, d⟩], [])
 | 6, [.v (.int .i64 a), .v (.int .i64 b)] => some (.events [(a, b)], [])
 | 7, [x] => match aW8 S 1 x with
  | some (.ints l) => some (.rows [l], [])
  | _ => none
 | 8, [x] => match aW8 S 2 x with
  | some (.bools l) => some (.brows [l], [])
  | _ => none
 | 9, [.v (.int .i64 a), .v (.int .i64 b), x] => match aW8 S 9 x with
  | some (.exprs l) => some (.exprs [⟨a, b, l⟩], [])
  | _ => none
 | 10, [.v (.int .i64 a), .v (.int .i64 b), .v (.int .i64 c), .v (.int .i64 d), x, .v (.int .i64 e), .v (.int .i64 f), y, .v (.int .i64 g), z, u] =>
  match aW8 S 9 x, aW8 S 9 y, aW8 S 10 z, aW8 S 10 u with
  | some (.exprs x), some (.exprs y), some (.stmts z), some (.stmts u) => some (.stmts [⟨a, b, ⟨c, d, x⟩, ⟨e, f, y⟩, g, z, u⟩], [])
  | _, _, _, _ => none
 | _, _ => none
def D.app : D → D → Option D
 | .ints a, .ints b => some (.ints (a ++ b))
 | .bools a, .bools b => some (.bools (a ++ b))
 | .bytes a, .bytes b => some (.bytes (a ++ b))
 | .strs a, .strs b => some (.strs (a ++ b))
 | .instrs a, .instrs b => some (.instrs (a ++ b))
 | .events a, .events b => some (.events (a ++ b))
 | .rows a, .rows b => some (.rows (a ++ b))
 | .brows a, .brows b => some (.brows (a ++ b))
 | .exprs a, .exprs b => some (.exprs (a ++ b))
 | .stmts a, .stmts b => some (.stmts (a ++ b))
 | _, _ => none
theorem bw1 {α : Type} (a b : List α) (z : α) (i : Nat) : (a ++ b).getD i z = if i < a.length then a.getD i z else b.getD (i - a.length) z := by
 split
 ·rename_i h; simp [bW2, bX7 h]
 ·rename_i h; simp [bW2, bZ0 (Nat.le_of_not_lt h)]
theorem P8 {α : Type} (f : α → List X) (a b : List α) (z : α) (i : Nat) : f ((a ++ b).getD i z) = if i < a.length then f (a.getD i z) else f (b.getD (i - a.length) z) := by rw [bw1]; split <;> rfl
theorem D.app_ok {a b d : D} (h : a.app b = some d) : d.len = a.len + b.len ∧ d.sz = a.sz ∧ b.sz = a.sz ∧ ∀ i, d.elem i = if i < a.len then a.elem i else b.elem (i - a.len) := by
 cases a <;> cases b <;> simp only [D.app] at h <;> first | cases h | skip
 ·exact ⟨by simp [D.len], rfl, rfl, fun i => P8 (fun x => [.v (.int .i64 x)]) _ _ _ _⟩
 ·exact ⟨by simp [D.len], rfl, rfl, fun i => P8 (fun x => [.v (.bool x)]) _ _ _ _⟩
 ·exact ⟨by simp [D.len], rfl, rfl, fun i => P8 (fun x : UInt8 => [.v (.int .u8 (x.toNat : Int))]) _ _ _ _⟩
 ·exact ⟨by simp [D.len], rfl, rfl, fun i => P8 (fun x => [.v (.string x)]) _ _ _ _⟩
 ·exact ⟨by simp [D.len], rfl, rfl, fun i => P8 bb4 _ _ _ _⟩
 ·exact ⟨by simp [D.len], rfl, rfl, fun i => P8 as3 _ _ _ _⟩
 ·exact ⟨by simp [D.len], rfl, rfl, fun i => P8 (fun x => [.sl (.ints x)]) _ _ _ _⟩
 ·exact ⟨by simp [D.len], rfl, rfl, fun i => P8 (fun x => [.sl (.bools x)]) _ _ _ _⟩
 ·exact ⟨by simp [D.len], rfl, rfl, fun i => P8 aK5 _ _ _ _⟩
 ·exact ⟨by simp [D.len], rfl, rfl, fun i => P8 aH1 _ _ _ _⟩
section
variable {P : Program} {ι : Type} {φ ψ : Nat → Prop} {w0 w w' : World} {F : ι → Rs} {ρ : Nat → Value} {S : Nat → It}
theorem RW.append {φ : Nat → Prop} {a b d : D} {xs ys : List Value} (h : a.app b = some d) (hl : xs.length = a.len * a.sz) (hx : RW w φ a xs) (hy : RW w φ b ys) : RW w φ d (xs ++ ys) := by
 obtain ⟨h1, h2, h3, h4⟩ := D.app_ok h
 intro i hi j x hj
 rw [h4] at hj
 rw [h2]
 split at hj
 ·rename_i hlt
  obtain ⟨u, k1, k2⟩ := hx i hlt j x hj
  refine ⟨u, ?_, k2⟩
  rw [bX7 ((bW9.1 k1).1)]; exact k1
 ·rename_i hge
  obtain ⟨u, k1, k2⟩ := hy (i - a.len) (by omega) j x hj
  refine ⟨u, ?_, k2⟩
  have e : i * a.sz + j = xs.length + ((i - a.len) * a.sz + j) := by
   rw [hl, ← Nat.add_assoc, ← Nat.add_mul]
   congr 2; omega
  rw [e, bZ0 (by omega), Nat.add_sub_cancel_left, ← k1, h3]
theorem RW.nil {φ : Nat → Prop} {d : D} (h : d.len = 0) (xs : List Value) : RW w φ d xs := fun i hi => by omega
theorem RD.nil {φ : Nat → Prop} {k : Nat} {d : D} (h : D.nil k = some d) : RD w φ d (.slice none 0 0) := by
 have hl := D.nil_len h
 refine RD.make (xs := []) ?_ (RW.nil hl _)
 rw [hl]; exact E9.nil _ _ _
theorem aj0 (M : s7 φ ψ w0 w (v9 F ρ S)) {k : Nat} {x : AV} {d : D} (h : aW8 S k x = some d) : RD w (FrF φ (v9 F ρ S)) d (x.val ρ) := by
 unfold aW8 at h
 split at h <;> first | cases h | skip
 ·split at h <;> first | cases h | skip
  rename_i id _ hS
  exact M.datAt hS
 ·exact RD.nil h
theorem ae4 {φ : Nat → Prop} {d : D} {xs : List Value} (hl : d.len = 1) (h : ∀ (j : Nat) x, (d.elem 0)[j]? = some x → ∃ u, xs[j]? = some u ∧ XH w φ x u) : RW w φ d xs := by
 intro i hi j x hj
 have : i = 0 := by omega
 subst this
 rw [Nat.zero_mul, bZ2]; exact h j x hj
theorem C6 {φ : Nat → Prop} {x : X} {r : List X} {u : Value} {s : List Value} (h : XH w φ x u) (hr : ∀ (j : Nat) y, r[j]? = some y → ∃ v, s[j]? = some v ∧ XH w φ y v) : ∀ (j : Nat) y, (x :: r)[j]? = some y → ∃ v, (u :: s)[j]? = some v ∧ XH w φ y v := by
 intro j y hj
 cases j with
 | zero => simp at hj; subst hj; exact ⟨u, rfl, h⟩
 | succ j => simpa using hr j y (by simpa using hj)
theorem ae1 {φ : Nat → Prop} {s : List Value} : ∀ (j : Nat) y, ([] : List X)[j]? = some y → ∃ v, s[j]? = some v ∧ XH w φ y v := by intro j y h; simp at h
theorem bB0 (M : s7 φ ψ w0 w (v9 F ρ S)) {k : Nat} {l : List AV} {d : D} {obs : List Prop} (h : bJ8 S k l = some (d, obs)) (ho : C4 obs) : d.len = 1 ∧ d.sz = l.length ∧ RW w (FrF φ (v9 F ρ S)) d (AV.vals ρ l) := by
 unfold bJ8 at h
 split at h <;> first | cases h | skip
 ·exact ⟨rfl, rfl, ae4 rfl (C6 rfl ae1)⟩
 ·exact ⟨rfl, rfl, ae4 rfl (C6 rfl ae1)⟩
 ·rename_i n
  simp only [C4] at ho
  refine ⟨rfl, rfl, ae4 rfl (C6 ?_ ae1)⟩
  show Value.int .u8 n = Value.int .u8 ((UInt8.ofNat n.toNat).toNat : Int)
  congr 1
  have : (UInt8.ofNat n.toNat).toNat = n.toNat := by simp [UInt8.toNat_ofNat']; omega
  rw [this]; omega
 ·exact ⟨rfl, rfl, ae4 rfl (C6 rfl ae1)⟩
 ·exact ⟨rfl, rfl, ae4 rfl (C6 rfl (C6 rfl (C6 rfl (C6 rfl (C6 rfl ae1)))))⟩
 ·exact ⟨rfl, rfl, ae4 rfl (C6 rfl (C6 rfl ae1))⟩
 ·split at h <;> first | cases h | skip
  rename_i hx
  exact ⟨rfl, rfl, ae4 rfl (C6 (aj0 M hx) ae1)⟩
 ·split at h <;> first | cases h | skip
  rename_i hx
  exact ⟨rfl, rfl, ae4 rfl (C6 (aj0 M hx) ae1)⟩
 ·split at h <;> first | cases h | skip
  rename_i hx
  exact ⟨rfl, rfl, ae4 rfl (C6 rfl (C6 rfl (C6 (aj0 M hx) ae1)))⟩
 ·split at h <;> first | cases h | skip
  rename_i hx hy hz hu
  exact ⟨rfl, rfl, ae4 rfl (C6 rfl (C6 rfl (C6 rfl (C6 rfl (C6 (aj0 M hx) (C6 rfl (C6 rfl (C6 (aj0 M hy) (C6 rfl (C6 (aj0 M hz) (C6 (aj0 M hu) ae1)))))))))))⟩
def aP4 (S : Nat → It) (k : Nat) : List (List AV) → Option (D × List Prop)
 | [] => (D.nil k).map fun d => (d, [])
 | c :: r =>
  match bJ8 S k c, aP4 S k r with
  | some (a, oa), some (b, ob) => (a.app b).map fun d => (d, oa ++ ob)
  | _, _ => none
theorem a25 (M : s7 φ ψ w0 w (v9 F ρ S)) {k n : Nat} : ∀ {l : List (List AV)} {d : D} {obs : List Prop}, aP4 S k l = some (d, obs) → C4 obs → (∀ c ∈ l, c.length = n) → d.len = l.length ∧ (l = [] ∨ d.sz = n) ∧ RW w (FrF φ (v9 F ρ S)) d (AV.vals ρ l.flatten)
 | [], d, obs, h, _, _ => by
  simp only [aP4, bW4] at h
  obtain ⟨d', h1, h2⟩ := h
  cases h2
  exact ⟨D.nil_len h1, .inl rfl, RW.nil (D.nil_len h1) _⟩
 | c :: r, d, obs, h, ho, hn => by
  simp only [aP4] at h
  split at h
  case h_2 => cases h
  rename_i a oa b ob h1 h2
  obtain ⟨d', h3, h4⟩ := bW4.1 h
  cases h4
  rw [C4.append] at ho
  obtain ⟨k1, k2, k3⟩ := bB0 M h1 ho.1
  obtain ⟨m1, m2, m3⟩ := a25 M h2 ho.2 fun c hc => hn c (bX9 _ hc)
  obtain ⟨q1, q2, q3, q4⟩ := D.app_ok h3
  have hc := hn c bX6
  refine ⟨by simp; omega, .inr (by rw [q2, k2, hc]), ?_⟩
  rw [List.flatten_cons, AV.vals_append]
  exact RW.append h3 (by rw [AV.vals_length, k1, Nat.one_mul, k2]) k3 m3
def ah7 (e : Operand → Option AV) (S : Nat → It) (n : Nat) : Nat → List (Nat × Operand) → Option (List (List AV))
 | _, [] => some []
 | k, (i, x) :: r =>
  match e x with
  | some v => if i = k && v.cells.length = n && aC1 S v then (ah7 e S n (k + 1) r).map fun l => v.cells :: l else none
  | none => none
theorem ar3 {e : Operand → Option AV} {n : Nat} : ∀ {ps : List (Nat × Operand)} {k : Nat} {l : List (List AV)}, ah7 e S n k ps = some l → l.length = ps.length ∧ ∀ c ∈ l, c.length = n
 | [], k, l, h => by simp only [ah7, Option.some.injEq] at h; subst h; exact ⟨rfl, fun c hc => by cases hc⟩
 | (i, x) :: r, k, l, h => by
  simp only [ah7] at h
  split at h
  case h_2 => cases h
  rename_i v hv
  split at h
  case isFalse => cases h
  rename_i hc
  obtain ⟨m, h1, h2⟩ := bW4.1 h
  subst h2
  obtain ⟨k1, k2⟩ := ar3 h1
  simp only [bV8, decide_eq_true_eq] at hc
  refine ⟨by simp [k1], fun c hc' => ?_⟩
  rcases bZ6.1 hc' with rfl | hc'
  ·exact hc.1.2
  ·exact k2 c hc'
theorem aZ8 : ∀ (us a b : List Value) (p : Nat), a.length = p → us.length ≤ b.length → setFrom (a ++ b) p us = a ++ (us ++ b.drop us.length)
 | us, a, b, p, h, hl => by
  subst h
  rw [ab0 _ _ _ (by simp; omega)]
  simp [List.drop_append]
theorem al2 (M : s7 φ ψ w0 w (v9 F ρ S)) {e : Operand → Option AV} {g : Operand → Value} {n : Nat} : ∀ (ps : List (Nat × Operand)) (k : Nat) (l : List (List AV)) (pre suf : List Value), ah7 e S n k ps = some l → (∀ p ∈ ps, ∀ v, e p.2 = some v → g p.2 = v.val ρ) → pre.length = k * n → suf.length = ps.length * n →
  Instr.fill (fun i => some (i * n, n)) (pre ++ suf).toArray (ps.map fun p => (p.1, g p.2)) = some (pre ++ AV.vals ρ l.flatten).toArray
 | [], k, l, pre, suf, h, _, _, hs => by
  simp only [ah7, Option.some.injEq] at h; subst h
  have : suf = [] := bY8 (by simpa using hs)
  subst this
  simp [Instr.fill, AV.vals]
 | (i, x) :: r, k, l, pre, suf, h, hg, hp, hs => by
  simp only [ah7] at h
  split at h
  case h_2 => cases h
  rename_i v hv
  split at h
  case isFalse => cases h
  rename_i hc
  obtain ⟨m, h1, h2⟩ := bW4.1 h
  subst h2
  simp only [bV8, decide_eq_true_eq] at hc
  obtain ⟨⟨rfl, hn⟩, hok⟩ := hc
  obtain ⟨c1, _⟩ := ab2 M hok
  have hvl : (AV.vals ρ v.cells).length = n := by rw [AV.vals_length, hn]
  have hgx := hg (i, x) bX6 v hv
  simp only at hgx
  simp only [bV6, bY3] at hs
  simp only [bY9, Instr.fill]
  rw [hgx, c1]
  have hz := aE5 (AV.vals ρ v.cells) 0 (i * n) (pre ++ suf).toArray
  simp only [bZ5] at hz
  rw [aZ8 _ _ _ _ hp (by omega)] at hz
  have ih := al2 M r (i + 1) m (pre ++ AV.vals ρ v.cells) (suf.drop n) h1 (fun p hp' => hg p (bX9 _ hp')) (by rw [bV4, hp, hvl, bY3]) (by rw [List.length_drop]; omega)
  rw [List.flatten_cons, AV.vals_append, ← bZ1, ← ih]
  simp only [List.size_toArray, hvl, bV4]
  rw [if_neg (by simp; omega)]
  congr 1
  rw [bZ1]
  rw [hvl] at hz
  rw [← hz]
  simp [Array.zipIdx, ← Array.foldl_toList, List.mapIdx_eq_zipIdx_map]
theorem s7.newRow (M : s7 φ ψ w0 w (v9 F ρ S)) {id : Nat} {e : TypeId} {d : D} {v : Value} {xs : List Value} (hb : Below w.heap.size w w') (hS : S id = .none) (hi : Inv S ρ [id]) (ho : w'.ownsRow w.heap.size e d.sz v d.len xs) (hx : RW w (FrF φ (v9 F ρ S)) d xs) :
  ∃ ρ', H0 [id] ρ ρ' ∧ s7 φ ψ w0 w' (v9 F ρ' (v8 S [(id, .row e d)])) ∧ v = ρ' id := by
 have ha : H0 [id] ρ (fun j => if j = id then v else ρ j) := fun j hj => by
  have : j ≠ id := by simpa using hj
  simp [this]
 refine ⟨_, ha, M.one id _ [id] hi ha (D0.any hb) (fun g hg => ?_) ?_, by simp⟩
 ·simp only [It.res, if_true] at hg
  exact .inr (ho.lt g hg).1
 ·simp only [It.res, if_true]
  refine ⟨fun xs => RW.nice d xs, xs, I2 ho (bX5 _), ?_⟩
  refine RW.nice d xs _ _ _ _ ⟨hb.size, fun b hbl hf => ⟨⟨hf.1, fun k hk => ?_⟩, hb.block b hbl⟩⟩ hx
  cases k with
  | inl i => exact hf.2 (.inl i) hk
  | inr j =>
   by_cases e' : j = id
   ·subst e'
    simp only [v9, v8, if_true, It.res] at hk
    have := (ho.lt b hk).1; omega
   ·simp only [v9, v8, if_neg e'] at hk
    rw [hi _ ha j] at hk
    exact hf.2 (.inr j) hk
end
def am6 (P : Program) (t : TypeId) : Option Nat := (P.info? t).map (·.bytes)
def ax2 (P : Program) (dk : TypeId → Nat) (e : Operand → Option AV) (S : Nat → It) (id : Nat) (t : TypeId) (len : Nat) (parts : List (Nat × Operand)) : Option Tr :=
 match aa9 P t with
 | none => none
 | some el =>
  match Z2 P el, O1 P el, D.nil (dk el) with
  | some n, some z, some d0 =>
   if 0 < n && z.cells.size = n && d0.sz = n && len = parts.length && len * n ≤ 16777216 then
    match ah7 e S n 0 parts with
    | some l => (aP4 S (dk el) l).map fun r => ⟨[(id, .row el r.1)], [id], .ref id, r.2⟩
    | none => none
   else none
  | _, _, _ => none
def a74 (k n : Nat) : Option (D × Value) :=
 match k with
 | 1 => some (.ints (bV5 n 0), .int .i64 0)
 | 2 => some (.bools (bV5 n false), .bool false)
 | 3 => some (.bytes (bV5 n 0), .int .u8 0)
 | 7 => some (.rows (bV5 n []), .slice none 0 0)
 | 8 => some (.brows (bV5 n []), .slice none 0 0)
 | _ => none
def aV7 (P : Program) (dk : TypeId → Nat) (id : Nat) (t : TypeId) (l c : AV) : Option Tr :=
 match l, c, aa9 P t with
 | .v (.int .i64 n), .v (.int .i64 m), some el =>
  match a74 (dk el) n.toNat, am6 P el, Z2 P el, O1 P el with
  | some (d, z), some by_, some sz, some z' => if sz = 1 then some ⟨[(id, .row el d)], [id], .ref id, [m = n, 0 ≤ n, by_ * n ≤ 281474976710656, n ≤ 9223372036854775807, z' = z]⟩ else none
  | _, _, _, _ => none
 | _, _, _ => none
def be0 (P : Program) (dk : TypeId → Nat) (S : Nat → It) (id : Nat) (t t' : TypeId) (s x : AV) : Option Tr :=
 if t = t' then
  match aa9 P t with
  | none => none
  | some el =>
   match bI5 S (dk el) x, am6 P el, Z2 P el, O1 P el with
   | some d2, some by_, some n, some z =>
    if 0 < n && z.cells.size = n && d2.sz = n then
     match s with
     | .ref a => match S a with
      | .row e' d1 => if e' = el then (d1.app d2).map fun d => ⟨[(a, .dead), (id, .row el d)], [id], .ref id, [d1.len + d2.len ≤ 9223372036854775807, (d1.len + d2.len) * by_ ≤ 140737488355328]⟩ else none
      | _ => none
     | .v (.slice none 0 0) => some ⟨[(id, .row el d2)], [id], .ref id, [d2.len ≤ 9223372036854775807, d2.len * by_ ≤ 140737488355328]⟩
     | _ => none
    else none
   | _, _, _, _ => none
 else none
def aX0 (P : Program) (S : Nat → It) (id : Nat) (t : TypeId) (x : AV) (lo hi : Option AV) : Option Tr :=
 match x with
 | .ref a => match S a, (aa9 P t).bind (Z2 P) with
  | .dat d, some n =>
   if n = d.sz then
    match lo, hi with
    | none, none => some ⟨[(id, .dat (d.sub 0 d.len))], [id], .ref id, []⟩
    | none, some (.v (.int _ h)) => some ⟨[(id, .dat (d.sub 0 h.toNat))], [id], .ref id, [0 ≤ h, h ≤ (d.len : Int)]⟩
    | some (.v (.int _ l)), none => some ⟨[(id, .dat (d.sub l.toNat d.len))], [id], .ref id, [0 ≤ l, l ≤ (d.len : Int)]⟩
    | some (.v (.int _ l)), some (.v (.int _ h)) => some ⟨[(id, .dat (d.sub l.toNat h.toNat))], [id], .ref id, [0 ≤ l, l ≤ h, h ≤ (d.len : Int)]⟩
    | _, _ => none
   else none
  | _, _ => none
 | .v (.string s) => match P.underlying t with
  | some .string =>
   match lo, hi with
   | none, some (.v (.int _ h)) => some ⟨[], [], .v (.string (s.extract 0 h.toNat)), [0 ≤ h, h ≤ (s.size : Int)]⟩
   | some (.v (.int _ l)), none => some ⟨[], [], .v (.string (s.extract l.toNat s.size)), [0 ≤ l, l ≤ (s.size : Int)]⟩
   | some (.v (.int _ l)), some (.v (.int _ h)) => some ⟨[], [], .v (.string (s.extract l.toNat h.toNat)), [0 ≤ l, l ≤ h, h ≤ (s.size : Int)]⟩
   | _, _ => none
  | _ => none
 | _ => none
section
variable {P : Program} {ι : Type} {φ ψ : Nat → Prop} {w0 w w' : World} {F : ι → Rs} {ρ : Nat → Value} {S : Nat → It}
theorem a64 (M : s7 φ ψ w0 w (v9 F ρ S)) {dk : TypeId → Nat} {o : Oper} {e : Operand → Option AV} {g : Operand → Value} {t : TypeId} {len : Nat} {parts : Array (Nat × Operand)} (hop : o.op = .buildSlice t len parts) (hg : ∀ p ∈ parts.toList, ∀ v, e p.2 = some v → g p.2 = v.val ρ) {id : Nat} {r : Tr} (h : ax2 P dk e S id t len parts.toList = some r) (ho : C4 r.obs) (hmk : ∀ j ∈ r.made, S j = .none) (hi : Inv S ρ r.made) :
  O8 P o g w (N9 φ ψ w0 F ρ S r) := by
 unfold ax2 at h
 split at h <;> first | cases h | skip
 rename_i el hel
 split at h <;> first | cases h | skip
 rename_i n z d0 h1 h2 h3
 split at h
 case isFalse => cases h
 rename_i hc
 simp only [bV8, decide_eq_true_eq] at hc
 obtain ⟨⟨⟨⟨hn, hz⟩, hd0⟩, hlen⟩, hbig⟩ := hc
 split at h
 case h_2 => cases h
 rename_i l hl
 obtain ⟨⟨d, obs⟩, h4, h5⟩ := bW4.1 h
 subst h5
 obtain ⟨k1, k2⟩ := ar3 hl
 obtain ⟨m1, m2, m3⟩ := a25 M h4 ho k2
 have hsz : d.sz = n := by
  rcases m2 with m2 | m2
  ·subst m2
   simp only [aP4, h3, Option.map_some, Option.some.injEq, Prod.mk.injEq] at h4
   rw [← h4.1, hd0]
  ·exact m2
 have hS : S id = .none := hmk id (by simp)
 obtain ⟨ie, hie, hie2⟩ := bW4.1 h1
 have hiz : ie.zero = some z := by
  unfold O1 at h2; rw [hie] at h2; exact h2
 have hu := aa1 hel
 have hdl : d.len = len := by rw [m1, k1, hlen]
 have hvl : (AV.vals ρ l.flatten).length = len * n := by
  have : ∀ (l : List (List AV)), (∀ c ∈ l, c.length = n) → l.flatten.length = l.length * n := by
   intro l
   induction l with
   | nil => intro _; simp
   | cons c r ih => intro h; rw [List.flatten_cons, bV4, ih fun c hc => h c (bX9 _ hc), h c bX6, bV6, bY3]; omega
  rw [AV.vals_length, this l k2, k1, hlen]
 have hrun : (Instr.buildSlice t len (parts.map fun p => (p.1, g p.2))).run P w = .ok (.slice (some ⟨w.heap.size, 0, none⟩) len len) (w.alloc (.cells (AV.vals ρ l.flatten).toArray el)) := by
  rcases Nat.eq_zero_or_pos len with h0 | h0
  ·have hp0 : parts.toList = [] := bY8 (by omega)
   have hl0 : l = [] := bY8 (by omega)
   subst hl0
   have hpa : parts = #[] := by apply Array.ext'; simpa using hp0
   subst hpa; subst h0
   have hr0 : Array.range 0 = #[] := rfl
   simp [Instr.buildSlice, run_underlying hu, sizeOf, typeInfo, hie, Instr.fill, newRow, AV.vals, hr0]
  ·refine run_buildSlice w t el len _ _ ie z hu hie hiz (by rw [hie2]; omega) (by rw [hie2]; have := Nat.mul_pos h0 hn; omega) ?_
   have hf := al2 M parts.toList 0 l [] (((Array.range (len * ie.size)).map (z.cells[· % z.cells.size]!)).toList) hl hg (by simp) (by simp [hie2, hlen])
   rw [hie2] at hf ⊢
   simp only [List.nil_append, Array.toArray_toList] at hf
   simpa using hf
 have hle : len ≤ 16777216 := bX8 (Nat.le_mul_of_pos_right len hn) hbig
 have hown := (an1 w (AV.vals ρ l.flatten).toArray len n el rfl (by simpa using hvl) (by omega)).1
 rw [← hdl, ← hsz] at hown
 obtain ⟨ρ', q1, q2, q3⟩ := M.newRow (id := id) (e := el) (d := d) ((Below.refl _ _).alloc (bW6 _) _) hS hi hown (by simpa using m3)
 have hrun2 : (execOp g o).run P w = .ok (.value (.slice (some ⟨w.heap.size, 0, none⟩) len len)) (w.alloc (.cells (AV.vals ρ l.flatten).toArray el)) := by
  simp only [execOp, hop, Sem.run_bind]
  rw [show (parts.map fun (i, x) => (i, g x)) = parts.map fun p => (p.1, g p.2) from rfl, hrun]
  rfl
 exact .inl ⟨_, _, hrun2, ρ', q1, q2, by simp only [AV.val]; rw [← q3, hdl]⟩
theorem bJ2 {φ : Nat → Prop} {d : D} {v : Value} (h : RD w φ d v) : v.oneCell' = true := by
 obtain ⟨a, cap, rfl, _⟩ := h.open; rfl
theorem bw5 (d : D) (i j : Nat) (x : Value) (h : (d.elem i)[j]? = some (.v x)) : x.oneCell' = true := by
 have : ∀ y ∈ d.elem i, ∀ x, y = .v x → x.oneCell' = true := by
  intro y hy x hx
  subst hx
  cases d <;> simp [D.elem, bb4, as3, aK5, aH1] at hy <;> (try rcases hy with rfl | rfl | rfl | rfl | rfl | rfl | rfl) <;> first | rfl | (subst hy; rfl) | (rcases hy with rfl | rfl | rfl | rfl | rfl <;> rfl) | (rcases hy with rfl | rfl <;> rfl)
 exact this _ (bX1 h) x rfl
theorem a02 {φ : Nat → Prop} {d : D} {xs : List Value} (hl : xs.length = d.len * d.sz) (h : RW w φ d xs) : ∀ u ∈ xs, u.oneCell' = true := by
 intro u hu
 obtain ⟨p, hp⟩ := List.mem_iff_getElem?.1 hu
 have hp' := (bW9.1 hp).1
 have hs : 0 < d.sz := by cases d <;> simp [D.sz]
 have hi : p / d.sz < d.len := by rw [hl] at hp'; exact Nat.div_lt_of_lt_mul (by rw [Nat.mul_comm]; exact hp')
 have hj : p % d.sz < (d.elem (p / d.sz)).length := by rw [D.elem_len]; exact Nat.mod_lt _ hs
 obtain ⟨v, h3, h4⟩ := h _ hi _ _ (bW0 hj)
 rw [Nat.mul_comm, Nat.div_add_mod, hp] at h3
 cases h3
 cases hx : (d.elem (p / d.sz))[p % d.sz] with
 | v x =>
  rw [hx] at h4
  rw [show u = x from h4]
  exact bw5 d _ _ x (by rw [bW0 hj, hx])
 | sl d' => rw [hx] at h4; exact bJ2 (show RD _ _ _ _ from h4)
theorem bz7 (M : s7 φ ψ w0 w (v9 F ρ S)) {k : Nat} {x : AV} {d : D} (h : bI5 S k x = some d) : ∃ xs, V9 w (x.val ρ) d.len d.sz xs ∧ RW w (FrF φ (v9 F ρ S)) d xs := by
 unfold bI5 at h
 split at h <;> first | cases h | skip
 ·rename_i id
  cases hS : S id with
  | dat d' =>
   rw [hS] at h; cases h
   obtain ⟨xs, h1, h2⟩ := (M.datAt hS).split
   exact ⟨xs, h1.row, h2⟩
  | row e d' =>
   rw [hS] at h; cases h
   obtain ⟨xs, h1, h2⟩ := M.rowAt hS
   exact ⟨xs, ab1 h1, h2⟩
  | none => rw [hS] at h; cases h
  | dead => rw [hS] at h; cases h
  | box cs => rw [hS] at h; cases h
  | tree d => rw [hS] at h; cases h
  | kept e d => rw [hS] at h; cases h
 ·refine ⟨[], ?_, RW.nil (D.nil_len h) _⟩
  rw [D.nil_len h]; exact V9.nil _ _
theorem s7.move (M : s7 φ ψ w0 w (v9 F ρ S)) {a id : Nat} {e : TypeId} {d1 d : D} {v : Value} {xs : List Value} (hS : S a = .row e d1) (hSi : S id = .none) (hi : Inv S ρ [id]) (hk : D0 (fun b => ¬ (ρ a).ownBlock = some b) w w')
  (ho : w'.ownsRow 0 e d.sz v d.len xs) (hx : RW w (FrF φ (v9 F ρ S)) d xs) (hg : ∀ g, v.ownBlock = some g → (ρ a).ownBlock = some g ∨ w.heap.size ≤ g) :
  ∃ ρ', H0 [id] ρ ρ' ∧ s7 φ ψ w0 w' (v9 F ρ' (v8 S [(a, .dead), (id, .row e d)])) ∧ v = ρ' id := by
 have hne : id ≠ a := fun h => by rw [h, hS] at hSi; cases hSi
 have ha : H0 [id] ρ (fun j => if j = id then v else ρ j) := fun j hj => by
  have : j ≠ id := by simpa using hj
  simp [this]
 have M1 : s7 φ ψ w0 w' (fun k : ι ⊕ Nat => match k with | .inl i => F i | .inr j => if j = a then .row e d.sz v d.len (fun xs w φ => RW w φ d xs) else (S j).res ρ j) := by
  refine s7.put M (.inr a) (fun k hk' => ?_) ?_ ?_ ?_
  ·cases k with
   | inl i => rfl
   | inr j =>
    have : j ≠ a := fun e => hk' (by rw [e])
    simp [v9, this]
  ·simp only [v9, hS, It.res]; exact hk
  ·simp only [if_true]
   refine ⟨fun xs => RW.nice d xs, xs, ho, RW.nice d xs _ _ _ _ ⟨hk.size, fun b hb hf => ⟨⟨hf.1, fun k hk' => ?_⟩, hk.block b hb fun he => by have := hf.2 (.inr a); simp only [v9, hS, It.res] at this; exact this he⟩⟩ hx⟩
   cases k with
   | inl i => exact hf.2 (.inl i) hk'
   | inr j =>
    by_cases e' : j = a
    ·subst e'
     simp only [if_true] at hk'
     have h2 := hf.2 (.inr j)
     simp only [v9, hS, It.res] at h2
     rcases hg b hk' with h3 | h3
     ·exact h2 h3
     ·omega
    ·simp only [if_neg e'] at hk'
     exact hf.2 (.inr j) hk'
  ·intro g hg'
   simp only [if_true] at hg'
   simp only [v9, hS, It.res]
   exact hg g hg'
 refine ⟨_, ha, ?_, by simp⟩
 refine M1.map (fun k : ι ⊕ Nat => (match k with | .inl i => some (.inl i) | .inr j => if j = id then some (.inr a) else if j = a then none else some (.inr j) : Option (ι ⊕ Nat))) ?_ ?_
 ·intro k k' i h1 h2
  cases k with
  | inl x =>
   cases k' with
   | inl y => simp at h1 h2; rw [h1] at *; cases h2; rfl
   | inr y => simp at h1; subst h1; simp at h2; split at h2 <;> first | cases h2 | (split at h2 <;> cases h2)
  | inr x =>
   cases k' with
   | inl y => simp at h2; subst h2; simp at h1; split at h1 <;> first | cases h1 | (split at h1 <;> cases h1)
   | inr y =>
    simp only at h1 h2
    by_cases e1 : x = id
    ·rw [if_pos e1] at h1
     cases h1
     by_cases e2 : y = id
     ·rw [e1, e2]
     ·rw [if_neg e2] at h2
      by_cases e3 : y = a
      ·rw [if_pos e3] at h2; cases h2
      ·rw [if_neg e3] at h2; simp at h2; exact absurd h2 e3
    ·rw [if_neg e1] at h1
     by_cases e3 : x = a
     ·rw [if_pos e3] at h1; cases h1
     ·rw [if_neg e3] at h1
      simp at h1; subst h1
      by_cases e2 : y = id
      ·rw [if_pos e2] at h2; simp at h2; exact absurd h2.symm e3
      ·rw [if_neg e2] at h2
       by_cases e4 : y = a
       ·rw [if_pos e4] at h2; cases h2
       ·rw [if_neg e4] at h2; simp at h2; rw [h2]
 ·intro k
  cases k with
  | inl i => exact .inl ⟨_, rfl, rfl⟩
  | inr j =>
   by_cases e1 : j = id
   ·subst e1
    refine .inl ⟨.inr a, by simp, ?_⟩
    simp [v9, v8, hne, It.res]
   ·by_cases e2 : j = a
    ·subst e2
     exact .inr (by simp [v9, v8, It.res])
    ·refine .inl ⟨.inr j, by simp [e1, e2], ?_⟩
     simp only [v9, v8, if_neg e1, if_neg e2]
     exact hi _ ha j
theorem app_ok (M : s7 φ ψ w0 w (v9 F ρ S)) {dk : TypeId → Nat} {o : Oper} {g : Operand → Value} {t t' : TypeId} {s x : Operand} (hop : o.op = .call { callee := .builtin .append, args := #[s, x], argTypes := #[t, t'] }) {sa xa : AV} (hs : g s = sa.val ρ) (hx : g x = xa.val ρ) {id : Nat} {r : Tr} (h : be0 P dk S id t t' sa xa = some r) (ho : C4 r.obs) (hmk : ∀ j ∈ r.made, S j = .none) (hi : Inv S ρ r.made) :
  O8 P o g w (N9 φ ψ w0 F ρ S r) := by
 unfold be0 at h
 split at h
 case isFalse => cases h
 rename_i htt
 subst htt
 split at h <;> first | cases h | skip
 rename_i el hel
 split at h <;> first | cases h | skip
 rename_i d2 by_ n z h1 h2 h3 h4
 split at h
 case isFalse => cases h
 rename_i hc
 simp only [bV8, decide_eq_true_eq] at hc
 obtain ⟨⟨hn, hz⟩, hd2⟩ := hc
 have hu := aa1 hel
 obtain ⟨ie, hie, hie2⟩ := bW4.1 h3
 have hiz : ie.zero = some z := by unfold O1 at h4; rw [hie] at h4; exact h4
 have hib : ie.bytes = by_ := by
  unfold am6 at h2; rw [hie] at h2; exact Option.some.inj h2
 have hinfo : (P.info? el).map (fun i => (i.zero, i.size, i.bytes)) = some (some z, n, by_) := by rw [hie]; simp [hiz, hie2, hib]
 obtain ⟨news, k1, k2⟩ := bz7 M h1
 have k1' := k1
 rw [hd2] at k1'
 have h1c := a02 k1.1 k2
 have hexec : ∀ v w', (Builtin.append_ #[t, t] o.type #[sa.val ρ, xa.val ρ]).run P w = .ok v w' → (execOp g o).run P w = .ok (.value v) w' := by
  intro v w' hr
  simp only [execOp, hop, resolve, invoke, builtin, Sem.run_bind, Sem.run_pure, Result.andThen_ok, List.map_toArray, bY9, List.map_nil, hs, hx, hr]
 split at h
 ·rename_i a
  split at h <;> first | cases h | skip
  rename_i e' d1 hS
  split at h
  case isFalse => cases h
  rename_i he'
  subst he'
  obtain ⟨d, hd, hr⟩ := bW4.1 h
  subst hr
  simp only [C4] at ho
  obtain ⟨q1, q2, q3, q4⟩ := D.app_ok hd
  obtain ⟨xs, m1, m2⟩ := M.rowAt hS
  have hsz : d1.sz = n := by omega
  rw [hsz] at m1
  obtain ⟨a', k', w', hrun, r2, r3, r4, r5⟩ := au1 (P := P) (lo := 0) (ty := o.type) hu hinfo hz hn m1 k1' h1c ho.1 ho.2.1 (bX5 _)
  obtain ⟨ρ', p1, p2, p3⟩ := M.move (id := id) (d := d) (v := .slice a' (d1.len + d2.len) k') (xs := xs ++ news) hS (hmk id (by simp)) hi ⟨r4.os, r4.tape, r4.output, r4.size, fun b hb hne => r4.block b hb fun h => hne h.symm⟩
   (by rw [q2, hsz, q1]; exact r2) (RW.append hd (by rw [m1.1, hsz]) m2 k2) r5
  exact .inl ⟨_, _, hexec _ _ hrun, ρ', p1, p2, p3⟩
 ·cases h
  simp only [C4] at ho
  have m1 : w.ownsRow 0 el n (.slice none 0 0) 0 [] := World.ownsRow_nil _ _ _ _
  obtain ⟨a', k', w', hrun, r2, r3, r4, r5⟩ := au1 (P := P) (lo := w.heap.size) (ty := o.type) hu hinfo hz hn (World.ownsRow_nil _ _ _ _) k1' h1c (by omega) (by rw [bZ2]; exact ho.2.1) (bW6 _)
  rw [bZ2, List.nil_append] at r2
  obtain ⟨ρ', p1, p2, p3⟩ := M.newRow (id := id) (e := el) (d := d2) (w' := w') r3 (hmk id (by simp)) hi (by rw [hd2]; exact r2) k2
  refine .inl ⟨_, _, hexec _ _ hrun, ρ', p1, p2, ?_⟩
  rw [bZ2]; exact p3
 ·cases h
theorem D.sub_len (d : D) (l h : Nat) (hh : h ≤ d.len) : (d.sub l h).len = h - l := by
 cases d <;> simp only [D.sub, D.len, List.length_drop, List.length_take] <;> (simp only [D.len] at hh; omega)
theorem D.sub_sz (d : D) (l h : Nat) : (d.sub l h).sz = d.sz := by cases d <;> rfl
theorem bw0 {α : Type} (x : List α) (z : α) (l h i : Nat) (hi : i < h - l) : ((x.take h).drop l).getD i z = x.getD (l + i) z := by
 simp only [bW2, List.getElem?_drop, List.getElem?_take]
 rw [if_pos (by omega)]
theorem D.sub_elem (d : D) (l h i : Nat) (hi : i < h - l) : (d.sub l h).elem i = d.elem (l + i) := by
 cases d <;> simp only [D.sub, D.elem] <;> rw [bw0 _ _ _ _ _ hi]
theorem RD.sub {φ : Nat → Prop} {d : D} {a : Option Addr} {n cap l h : Nat} (hr : RD w φ d (.slice a n cap)) (hl : l ≤ h) (hh : h ≤ d.len) : RD w φ (d.sub l h) (.slice (if cap = l then a else a.map (·.add (l * d.sz))) (h - l) (cap - l)) := by
 obtain ⟨xs, ⟨k0, a', cap', he, k1, k2, k3⟩, k4⟩ := hr.split
 cases he
 have hs : 0 < d.sz := by cases d <;> simp [D.sz]
 have hle : h * d.sz ≤ d.len * d.sz := bZ3 _ hh
 have hle2 : l * d.sz ≤ h * d.sz := bZ3 _ hl
 refine RD.make (xs := (xs.take (h * d.sz)).drop (l * d.sz)) ⟨?_, _, _, by rw [D.sub_len d l h hh], by rw [D.sub_len d l h hh]; omega, by omega, fun hp => ?_⟩ ?_
 ·rw [D.sub_len d l h hh, D.sub_sz, List.length_drop, List.length_take, k0, Nat.sub_mul]; omega
 ·rw [D.sub_len d l h hh] at hp
  obtain ⟨b, off, rfl, hb, hf, hc⟩ := k3 (by omega)
  rw [if_neg (by omega)]
  refine ⟨b, off + l * d.sz, ?_, hb, hf, fun j u hj => ?_⟩
  ·simp only [Option.map_some, Addr.add]; split
   ·rename_i h0; rw [h0, bZ5]
   ·rfl
  ·rw [List.getElem?_drop, List.getElem?_take] at hj
   split at hj
   ·have := hc _ u hj; rw [← Nat.add_assoc] at this; exact this
   ·cases hj
 ·intro i hi j x hx
  rw [D.sub_len d l h hh] at hi
  rw [D.sub_elem d l h i hi] at hx
  have hj : j < d.sz := by
   have := (bW9.1 hx).1
   rw [D.elem_len] at this; exact this
  obtain ⟨u, m1, m2⟩ := k4 (l + i) (by omega) j x hx
  refine ⟨u, ?_, m2⟩
  rw [D.sub_sz, List.getElem?_drop, List.getElem?_take, if_pos, ← m1]
  ·congr 1; rw [Nat.add_mul]; omega
  ·have : (i + 1) * d.sz ≤ (h - l) * d.sz := bZ3 _ (by omega)
   rw [bY3, Nat.sub_mul] at this; omega
theorem R5 {k : IntKind} {i : Int} {y : Nat} {c : BoundsCode} (h1 : 0 ≤ i) (h2 : i ≤ y) : (Instr.sliceBound (.int k i) y c).run P w = .ok i.toNat w := by
 simp [Instr.sliceBound, asIntOf, h1, h2]
theorem s7.newDat (M : s7 φ ψ w0 w (v9 F ρ S)) {id : Nat} {d : D} {v : Value} (hS : S id = .none) (hi : Inv S ρ [id]) (h : RD w (FrF φ (v9 F ρ S)) d v) : ∃ ρ', H0 [id] ρ ρ' ∧ s7 φ ψ w0 w (v9 F ρ' (v8 S [(id, .dat d)])) ∧ v = ρ' id := by
 obtain ⟨ρ', h1, h2, h3⟩ := M.dats [.sl d] [v] id ⟨h, bW1⟩ (fun j hj => by simp [X8] at hj; rw [hj]; exact hS) (by simpa [X8] using hi)
 simp only [X8, bY9, List.map_nil] at h1
 simp only [xav, AV.vals, AV.val, List.cons.injEq, and_true] at h3
 exact ⟨ρ', h1, h2, h3⟩
theorem bx0 (M : s7 φ ψ w0 w (v9 F ρ S)) {o : Oper} {g : Operand → Value} {t : TypeId} {x : Operand} {lo hi : Option Operand} {e : Operand → Option AV} (hop : o.op = .slice t x lo hi none) {xa : AV} (hx : g x = xa.val ρ) {la ha : Option AV} (hlo : lo.map g = la.map (AV.val ρ)) (hhi : hi.map g = ha.map (AV.val ρ)) {id : Nat} {r : Tr} (h : aX0 P S id t xa la ha = some r) (ho : C4 r.obs) (hmk : ∀ j ∈ r.made, S j = .none) (hin : Inv S ρ r.made) :
  O8 P o g w (N9 φ ψ w0 F ρ S r) := by
 have hexec : ∀ v, (Instr.slice t (xa.val ρ) (la.map (AV.val ρ)) (ha.map (AV.val ρ)) none).run P w = .ok v w → P.underlying t = some .string ∨ (∃ el, P.underlying t = some (.slice el)) → (execOp g o).run P w = .ok (.value v) w := by
  intro v hr hu
  have hA : (Instr.sliceAt t (xa.val ρ) (la.map (AV.val ρ)) (ha.map (AV.val ρ)) none).run P w = .ok v w := by
   unfold Instr.sliceAt
   rcases hu with hu | ⟨el, hu⟩
   ·rw [Sem.run_bind, run_underlying hu]; exact hr
   ·rw [Sem.run_bind, run_underlying hu]; exact hr
  simp only [execOp, hop, Sem.run_bind, hx, hlo, hhi, Option.map_none, hA]
  rfl
 unfold aX0 at h
 split at h
 ·rename_i a
  split at h
  case h_2 => cases h
  rename_i d n hS hn
  split at h
  case isFalse => cases h
  rename_i hsz
  obtain ⟨el, h1, h2⟩ := Option.bind_eq_some_iff.1 hn
  have hu := aa1 h1
  have hrd := M.datAt hS
  obtain ⟨aa, cap, hra, hcap, hmax, _⟩ := hrd.open
  rw [hra] at hrd
  have fin : ∀ (l hh : Nat) (obs : List Prop), l ≤ hh → hh ≤ d.len → r = ⟨[(id, .dat (d.sub l hh))], [id], .ref id, obs⟩ → (Instr.slice t (ρ a) (la.map (AV.val ρ)) (ha.map (AV.val ρ)) none).run P w = .ok (.slice (if cap = l then aa else aa.map (·.add (l * d.sz))) (hh - l) (cap - l)) w → O8 P o g w (N9 φ ψ w0 F ρ S r) := by
   intro l hh obs hl hhd hr hrun
   subst hr
   obtain ⟨ρ', p1, p2, p3⟩ := M.newDat (id := id) (hmk id (by simp)) hin (hrd.sub hl hhd)
   exact .inl ⟨_, _, hexec _ hrun (.inr ⟨el, hu⟩), ρ', p1, p2, p3⟩
  have hsz' : (sizeOf el).run P w = .ok d.sz w := by rw [I9 h2, hsz]
  split at h
  ·cases h
   refine fin 0 d.len _ (bX5 _) (bW6 _) rfl ?_
   simp [Instr.slice, run_underlying hu, hra, Instr.sliceBounds, hsz']
  ·cases h
   simp only [C4] at ho
   refine fin 0 _ _ (bX5 _) (by omega) rfl ?_
   rename_i k hh
   have e1 := R5 (P := P) (w := w) (k := k) (i := hh) (y := cap) (c := .sliceAcap) ho.1 (by omega)
   simp [Instr.slice, run_underlying hu, hra, Instr.sliceBounds, hsz', AV.val, e1]
  ·cases h
   simp only [C4] at ho
   refine fin _ d.len _ (by omega) (bW6 _) rfl ?_
   rename_i k l
   have e1 := R5 (P := P) (w := w) (k := k) (i := l) (y := d.len) (c := .sliceB) ho.1 (by omega)
   simp [Instr.slice, run_underlying hu, hra, Instr.sliceBounds, hsz', AV.val, e1]
  ·cases h
   simp only [C4] at ho
   refine fin _ _ _ (by omega) (by omega) rfl ?_
   rename_i k l k' hh
   have e1 := R5 (P := P) (w := w) (k := k) (i := l) (y := hh.toNat) (c := .sliceB) ho.1 (by omega)
   have e2 := R5 (P := P) (w := w) (k := k') (i := hh) (y := cap) (c := .sliceAcap) (by omega) (by omega)
   simp [Instr.slice, run_underlying hu, hra, Instr.sliceBounds, hsz', AV.val, e1, e2]
  ·cases h
 ·rename_i s
  split at h
  case h_2 => cases h
  rename_i hu
  have fin : ∀ (l hh : Nat) (obs : List Prop), r = ⟨[], [], .v (.string (s.extract l hh)), obs⟩ → (Instr.slice t (.string s) (la.map (AV.val ρ)) (ha.map (AV.val ρ)) none).run P w = .ok (.string (s.extract l hh)) w → O8 P o g w (N9 φ ψ w0 F ρ S r) := by
   intro l hh obs hr hrun
   subst hr
   exact .inl ⟨_, _, hexec _ hrun (.inl hu), ρ, H0.refl _ _, M, rfl⟩
  split at h
  ·cases h
   simp only [C4] at ho
   refine fin 0 _ _ rfl ?_
   rename_i k hh
   have e1 := R5 (P := P) (w := w) (k := k) (i := hh) (y := s.size) (c := .sliceAlen) ho.1 (by omega)
   simp [Instr.slice, run_underlying hu, Instr.sliceBounds, AV.val, e1]
  ·cases h
   simp only [C4] at ho
   refine fin _ s.size _ rfl ?_
   rename_i k l
   have e1 := R5 (P := P) (w := w) (k := k) (i := l) (y := s.size) (c := .sliceB) ho.1 (by omega)
   simp [Instr.slice, run_underlying hu, Instr.sliceBounds, AV.val, e1]
  ·cases h
   simp only [C4] at ho
   refine fin _ _ _ rfl ?_
   rename_i k l k' hh
   have e1 := R5 (P := P) (w := w) (k := k) (i := l) (y := hh.toNat) (c := .sliceB) ho.1 (by omega)
   have e2 := R5 (P := P) (w := w) (k := k') (i := hh) (y := s.size) (c := .sliceAlen) (by omega) (by omega)
   simp [Instr.slice, run_underlying hu, Instr.sliceBounds, AV.val, e1, e2]
  ·cases h
 ·cases h
end
section
variable {P : Program} {ι : Type} {φ ψ : Nat → Prop} {w0 w w' : World} {F : ι → Rs} {ρ : Nat → Value} {S : Nat → It}
theorem s7.eat {L L' : ι → Rs} (M : s7 φ ψ w0 w L) (K : ι → Prop) (i : ι) (ho : ∀ j, j ≠ i → ¬ K j → L' j = L j) (hK : ∀ j, j ≠ i → K j → L' j = Rs.none) (hi : K i ∨ ∀ b, ¬ (L i).blk b)
  (hk : D0 (fun b => ¬ ∃ j, K j ∧ (L j).blk b) w w') (h : (L' i).holds w' (FrF φ L')) (hg : ∀ g, (L' i).blk g → (∃ j, K j ∧ (L j).blk g) ∨ w.heap.size ≤ g) : s7 φ ψ w0 w' L' := by
 have old : ∀ j b, j ≠ i → (L' j).blk b → ¬ K j ∧ (L j).blk b := fun j b hj hb => by
  by_cases e : K j
  ·rw [hK j hj e] at hb; exact hb.elim
  ·rw [ho j hj e] at hb; exact ⟨e, hb⟩
 have hfr : ∀ b, b < w.heap.size → FrF φ L b → FrF φ L' b := fun b hb hf => ⟨hf.1, fun j hj => by
  by_cases e : j = i
  ·subst e
   rcases hg b hj with ⟨k, _, h2⟩ | h2
   ·exact hf.2 k h2
   ·omega
  ·exact hf.2 j (old j b e hj).2⟩
 refine ⟨⟨hk.os.trans M.kept.os, hk.tape.trans M.kept.tape, hk.output.trans M.kept.output, bX8 M.size hk.size, fun b hb hp => (hk.block b (bY4 hb M.size) ?_).trans (M.kept.block b hb hp)⟩, M.fresh, fun j => ?_, fun j k g hjk hj hk' => ?_, fun j b hj => ?_, fun j b hj => ?_⟩
 ·rintro ⟨j, _, hj⟩
  rcases M.ge j b hj with h' | h'
  ·omega
  ·exact h' hp
 ·by_cases e : j = i
  ·subst e; exact h
  ·by_cases e2 : K j
   ·rw [hK j e e2]; exact Rs.none_holds _ _
   ·rw [ho j e e2]
    refine Rs.keep (M.holds j) ⟨hk.size, fun b hb hf => ⟨hfr b hb hf, hk.block b hb ?_⟩⟩ fun g hgx => hk.block g (M.lt hgx) ?_
    ·rintro ⟨k, _, h2⟩; exact hf.2 k h2
    ·rintro ⟨k, h1, h2⟩
     exact M.dis j k g (fun h => e2 (h ▸ h1)) hgx h2
 ·by_cases e : j = i
  ·subst e
   obtain ⟨n2, h2⟩ := old k g (fun h => hjk h.symm) hk'
   rcases hg g hj with ⟨q, h3, h4⟩ | h3
   ·exact M.dis q k g (fun h => n2 (h ▸ h3)) h4 h2
   ·have := M.lt h2; omega
  ·obtain ⟨n1, h1⟩ := old j g e hj
   by_cases e' : k = i
   ·subst e'
    rcases hg g hk' with ⟨q, h3, h4⟩ | h3
    ·exact M.dis j q g (fun h => n1 (h ▸ h3)) h1 h4
    ·have := M.lt h1; omega
   ·exact M.dis j k g hjk h1 (old k g e' hk').2
 ·by_cases e : j = i
  ·subst e
   rcases hg b hj with ⟨k, _, h2⟩ | h2
   ·exact M.ge k b h2
   ·exact .inl (bX8 M.size h2)
  ·exact M.ge j b (old j b e hj).2
 ·by_cases e : j = i
  ·subst e
   rcases hg b hj with ⟨k, _, h2⟩ | h2
   ·exact M.ph k b h2
   ·exact M.fresh b (bX8 M.size h2)
  ·exact M.ph j b (old j b e hj).2
def Bk (S : Nat → It) (ρ : Nat → Value) (ids : List Nat) (b : Nat) : Prop := ∃ j ∈ ids, ((S j).res ρ j).blk b
theorem ay7 (S : Nat → It) (j : Nat) : ∀ (ids : List Nat), v8 S (ids.map fun i => (i, It.dead)) j = if j ∈ ids then It.dead else S j
 | [] => rfl
 | a :: r => by
  simp only [bY9, v8, bZ6]
  rw [ay7 S j r]
  by_cases e : j = a
  ·simp [e]
  ·simp [e]
theorem s7.graft (M : s7 φ ψ w0 w (v9 F ρ S)) {id : Nat} {ids : List Nat} {d : D} {v : Value} {T : Nat → Prop} (hS : S id = .none) (hid : id ∉ ids) (hi : Inv S ρ [id]) (hk : D0 (fun b => ¬ Bk S ρ ids b) w w') (hT : G9 w' T d v) (hg : ∀ b, T b → Bk S ρ ids b ∨ w.heap.size ≤ b) :
  ∃ ρ', H0 [id] ρ ρ' ∧ s7 φ ψ w0 w' (v9 F ρ' (v8 S ((id, .tree d) :: ids.map fun j => (j, .dead)))) ∧ v = I8 (ρ' id) := by
 obtain ⟨x, hx1, hx2⟩ := as5 v (fun b => T b ∧ b < w'.heap.size) w'.heap.size fun b h => h.2
 have ha : H0 [id] ρ (fun j => if j = id then x else ρ j) := fun j hj => by
  have : j ≠ id := by simpa using hj
  simp [this]
 refine ⟨_, ha, ?_, by simp [hx1]⟩
 refine M.eat (fun k => ∃ j ∈ ids, k = .inr j) (.inr id) (fun k hk1 hk2 => ?_) (fun k hk1 hk2 => ?_) (.inr fun b hb => by simp only [v9, hS, It.res] at hb; exact hb) ?_ ?_ fun g hg' => ?_
 ·cases k with
  | inl i => rfl
  | inr j =>
   have h1 : j ≠ id := fun e => hk1 (by rw [e])
   have h2 : j ∉ ids := fun e => hk2 ⟨j, e, rfl⟩
   simp only [v9, v8, if_neg h1]
   rw [ay7, if_neg h2]
   exact hi _ ha j
 ·obtain ⟨j, hj, rfl⟩ := hk2
  have h1 : j ≠ id := fun e => hk1 (by rw [e])
  simp only [v9, v8, if_neg h1]
  rw [ay7, if_pos hj]; rfl
 ·refine ⟨hk.os, hk.tape, hk.output, hk.size, fun b hb hn => hk.block b hb fun ⟨j, h1, h2⟩ => hn ⟨.inr j, ⟨j, h1, rfl⟩, h2⟩⟩
 ·simp only [v9, v8, if_true, It.res]
  have e : G7 x = fun b => T b ∧ b < w'.heap.size := funext fun b => propext (hx2 b)
  rw [hx1, e]
  exact ⟨fun _ _ h hs => h.same hs, hT.cut, fun b hb => hb.2⟩
 ·simp only [v9, v8, if_true, It.res] at hg'
  have h1 := (hx2 g).1 hg'
  rcases hg g h1.1 with ⟨j, h2, h3⟩ | h2
  ·exact .inl ⟨.inr j, ⟨j, h2, rfl⟩, h3⟩
  ·exact .inr h2
def as2 (S : Nat → It) : AV → Option (List b5 × List Nat)
 | .tref id => match S id with
  | .tree (.exprs l) => some (l, [id])
  | _ => none
 | .v (.slice none 0 0) => some ([], [])
 | _ => none
def ay9 (S : Nat → It) : AV → Option (List b6 × List Nat)
 | .tref id => match S id with
  | .tree (.stmts l) => some (l, [id])
  | _ => none
 | .v (.slice none 0 0) => some ([], [])
 | _ => none
def a30 (S : Nat → It) : AV → Option (List Int × List Nat)
 | .ref id => match S id with
  | .row e (.ints l) => if natEq e 3 then some (l, [id]) else none
  | _ => none
 | .v (.slice none 0 0) => some ([], [])
 | _ => none
def bs1 (S : Nat → It) (k : Nat) (l : List AV) : Option (D × List Nat) :=
 match k, l with
 | 9, [.v (.int .i64 a), .v (.int .i64 b), x] => (as2 S x).map fun r => (.exprs [⟨a, b, r.1⟩], r.2)
 | 10, [.v (.int .i64 a), .v (.int .i64 b), .v (.int .i64 c), .v (.int .i64 d), x, .v (.int .i64 e), .v (.int .i64 f), y, .v (.int .i64 g), z, u] =>
  match as2 S x, as2 S y, ay9 S z, ay9 S u with
  | some x, some y, some z, some u => some (.stmts [⟨a, b, ⟨c, d, x.1⟩, ⟨e, f, y.1⟩, g, z.1, u.1⟩], x.2 ++ (y.2 ++ (z.2 ++ u.2)))
  | _, _, _, _ => none
 | 7, [x] => (a30 S x).map fun r => (.rows [r.1], r.2)
 | _, _ => none
theorem bu8 (w : World) (T : Nat → Prop) : B8 w (.slice none 0 0) [] T := ⟨[], fun _ => False, World.ownsRow_nil _ _ _ _, (fun g hg => by cases hg), fun _ h => h.elim, rfl⟩
theorem bn6 (w : World) (T : Nat → Prop) : A5 w (.slice none 0 0) [] T := ⟨[], fun _ => False, World.ownsRow_nil _ _ _ _, (fun g hg => by cases hg), fun _ h => h.elim, rfl⟩
theorem az6 (M : s7 φ ψ w0 w (v9 F ρ S)) {x : AV} {l : List b5} {ids : List Nat} (h : as2 S x = some (l, ids)) : B8 w (x.val ρ) l (Bk S ρ ids) := by
 unfold as2 at h
 split at h <;> first | cases h | skip
 ·rename_i id
  split at h <;> first | cases h | skip
  rename_i hS
  have h1 := (M.treeAt (id := id) (d := .exprs l) (by rw [hS]; rfl)).1
  exact (G9.kids.1 h1).mono fun b hb => ⟨id, by simp, by rw [hS]; exact hb⟩
 ·exact bu8 _ _
theorem aO4 (M : s7 φ ψ w0 w (v9 F ρ S)) {x : AV} {l : List b6} {ids : List Nat} (h : ay9 S x = some (l, ids)) : A5 w (x.val ρ) l (Bk S ρ ids) := by
 unfold ay9 at h
 split at h <;> first | cases h | skip
 ·rename_i id
  split at h <;> first | cases h | skip
  rename_i hS
  have h1 := (M.treeAt (id := id) (d := .stmts l) (by rw [hS]; rfl)).1
  exact (G9.block.1 h1).mono fun b hb => ⟨id, by simp, by rw [hS]; exact hb⟩
 ·exact bn6 _ _
theorem bf0 {φ : Nat → Prop} {l : List Int} {xs : List Value} (hl : xs.length = l.length) (h : RW w φ (.ints l) xs) : xs = ints l := by
 apply List.ext_getElem?
 intro j
 by_cases hj : j < l.length
 ·obtain ⟨u, h1, h2⟩ := h j hj 0 _ rfl
  simp only [D.sz, Nat.mul_one, bZ5] at h1
  rw [h1, show u = _ from h2]
  simp [ints, hj]
 ·rw [bY0 (by omega), bY0 (by simp [ints]; omega)]
theorem bv4 (M : s7 φ ψ w0 w (v9 F ρ S)) {x : AV} {l : List Int} {ids : List Nat} (h : a30 S x = some (l, ids)) : w.ownsRow 0 3 1 (x.val ρ) l.length (ints l) ∧ ∀ g, (x.val ρ).ownBlock = some g → Bk S ρ ids g := by
 unfold a30 at h
 split at h <;> first | cases h | skip
 ·rename_i id
  split at h <;> first | cases h | skip
  rename_i e l' hS
  split at h <;> first | cases h | skip
  rename_i he
  have he' : e = 3 := by simpa [natEq] using he
  subst he'
  obtain ⟨xs, h1, h2⟩ := M.rowAt hS
  have h3 : xs.length = l.length := by have := h1.1; simpa [D.len, D.sz] using this
  rw [bf0 h3 h2] at h1
  exact ⟨h1, fun g hg => ⟨id, by simp, by rw [hS]; exact hg⟩⟩
 ·exact ⟨World.ownsRow_nil _ _ _ _, fun g hg => by cases hg⟩
theorem aA9 (M : s7 φ ψ w0 w (v9 F ρ S)) {a b : List Nat} (h : ∀ x ∈ a, x ∉ b) {g : Nat} (h1 : Bk S ρ a g) : ¬ Bk S ρ b g := by
 rintro ⟨j, hj, hb⟩
 obtain ⟨i, hi, ha⟩ := h1
 exact M.dis (.inr i) (.inr j) g (fun e => h i hi (by cases e; exact hj)) ha hb
theorem bA9 (M : s7 φ ψ w0 w (v9 F ρ S)) {k : Nat} {l : List AV} {d : D} {ids : List Nat} (h : bs1 S k l = some (d, ids)) (hn : ids.Nodup) : d.len = 1 ∧ d.sz = l.length ∧ U3 w d (Bk S ρ ids) (AV.vals ρ l) := by
 unfold bs1 at h
 split at h <;> first | cases h | skip
 ·rename_i a b x
  obtain ⟨r, h1, h2⟩ := bW4.1 h
  cases h2
  refine ⟨rfl, rfl, ?_⟩
  simp only [U3]
  exact ⟨_, [], Bk S ρ r.2, fun _ => False, (List.append_nil _).symm, fun b hb => ⟨hb, fun h => h⟩, fun b hb => hb.elim, (G5.iff _ _ _).2 ⟨_, rfl, az6 M h1⟩, rfl⟩
 ·rename_i a b c d x e f y g z u
  split at h <;> first | cases h | skip
  rename_i rx ry rz ru hx hy hz hu
  refine ⟨rfl, rfl, ?_⟩
  simp only [List.nodup_append, bY5] at hn
  obtain ⟨-, ⟨-, ⟨-, -, n3⟩, n2⟩, n1⟩ := hn
  have d1 : ∀ q ∈ rx.2, q ∉ ry.2 := fun q h1 h2 => n1 q h1 q (.inl h2) rfl
  have d2 : ∀ q ∈ rx.2, q ∉ rz.2 := fun q h1 h2 => n1 q h1 q (.inr (.inl h2)) rfl
  have d3 : ∀ q ∈ rx.2, q ∉ ru.2 := fun q h1 h2 => n1 q h1 q (.inr (.inr h2)) rfl
  have d4 : ∀ q ∈ ry.2, q ∉ rz.2 := fun q h1 h2 => n2 q h1 q (.inl h2) rfl
  have d5 : ∀ q ∈ ry.2, q ∉ ru.2 := fun q h1 h2 => n2 q h1 q (.inr h2) rfl
  have d6 : ∀ q ∈ rz.2, q ∉ ru.2 := fun q h1 h2 => n3 q h1 q h2 rfl
  have up : ∀ (s : List Nat), (∀ q ∈ s, q ∈ rx.2 ++ (ry.2 ++ (rz.2 ++ ru.2))) → ∀ b, Bk S ρ s b → Bk S ρ (rx.2 ++ (ry.2 ++ (rz.2 ++ ru.2))) b := fun s hs b ⟨j, h1, h2⟩ => ⟨j, hs j h1, h2⟩
  simp only [U3]
  refine ⟨_, [], Bk S ρ (rx.2 ++ (ry.2 ++ (rz.2 ++ ru.2))), fun _ => False, (List.append_nil _).symm, fun b hb => ⟨hb, fun h => h⟩, fun b hb => hb.elim, (G3.iff _ _ _).2 ⟨_, _, _, _, Bk S ρ rx.2, Bk S ρ ry.2, Bk S ρ rz.2, Bk S ρ ru.2, rfl, ⟨fun b hb => ⟨up _ (fun q hq => by simp [hq]) b hb, aA9 M d1 hb, aA9 M d2 hb, aA9 M d3 hb⟩, fun b hb => ⟨up _ (fun q hq => by simp [hq]) b hb, aA9 M d4 hb, aA9 M d5 hb⟩, fun b hb => ⟨up _ (fun q hq => by simp [hq]) b hb, aA9 M d6 hb⟩, fun b hb => up _ (fun q hq => by simp [hq]) b hb⟩, az6 M hx, az6 M hy, aO4 M hz, aO4 M hu⟩, rfl⟩
 ·rename_i x
  obtain ⟨r, h1, h2⟩ := bW4.1 h
  cases h2
  obtain ⟨k1, k2⟩ := bv4 M h1
  refine ⟨rfl, rfl, ?_⟩
  simp only [U3]
  exact ⟨_, [], fun _ => False, rfl, k1, fun g hg => ⟨k2 g hg, fun h => h⟩, fun b hb => hb.elim, rfl⟩
def ay8 (d : D) (el : TypeId) : Bool := match ao7 d with
 | some e => natEq e el
 | none => false
theorem aa2 {d : D} {el : TypeId} (h : ay8 d el = true) : ao7 d = some el := by
 unfold ay8 at h
 split at h
 ·rename_i e he; rw [he, show e = el by simpa [natEq] using h]
 ·cases h
def ag2 (P : Program) (dk : TypeId → Nat) (e : Operand → Option AV) (S : Nat → It) (id : Nat) (t : TypeId) (len : Nat) (parts : List (Nat × Operand)) : Option Tr :=
 match aa9 P t with
 | none => none
 | some el =>
  match Z2 P el, O1 P el with
  | some n, some z =>
   if 0 < n && z.cells.size = n && len = 1 && parts.length = 1 && n ≤ 16777216 then
    match ah7 e S n 0 parts with
    | some [c] => match bs1 S (dk el) c with
     | some (d, ids) => if nodupB ids && ay8 d el then some ⟨(id, .tree d) :: ids.map fun j => (j, .dead), [id], .tref id, []⟩ else none
     | none => none
    | _ => none
   else none
  | _, _ => none
where nodupB : List Nat → Bool
 | [] => true
 | x :: r => !(r.any (natEq x)) && nodupB r
theorem ba7 {l : List Nat} (h : ag2.nodupB l = true) : l.Nodup := by
 induction l with
 | nil => simp
 | cons x r ih =>
  simp only [ag2.nodupB, bV8, bW7] at h
  refine List.nodup_cons.2 ⟨fun hm => ?_, ih h.2⟩
  have : r.any (natEq x) = true := List.any_eq_true.2 ⟨x, hm, by simp [natEq]⟩
  rw [this] at h; cases h.1
theorem bn4 (M : s7 φ ψ w0 w (v9 F ρ S)) {dk : TypeId → Nat} {o : Oper} {e : Operand → Option AV} {g : Operand → Value} {t : TypeId} {len : Nat} {parts : Array (Nat × Operand)} (hop : o.op = .buildSlice t len parts) (hg : ∀ p ∈ parts.toList, ∀ v, e p.2 = some v → g p.2 = v.val ρ) {id : Nat} {r : Tr} (h : ag2 P dk e S id t len parts.toList = some r) (hmk : ∀ j ∈ r.made, S j = .none) (hi : Inv S ρ r.made) :
  O8 P o g w (N9 φ ψ w0 F ρ S r) := by
 unfold ag2 at h
 split at h <;> first | cases h | skip
 rename_i el hel
 split at h <;> first | cases h | skip
 rename_i n z h1 h2
 split at h
 case isFalse => cases h
 rename_i hc
 simp only [bV8, decide_eq_true_eq] at hc
 obtain ⟨⟨⟨⟨hn, hz⟩, hlen⟩, hpl⟩, hbig⟩ := hc
 split at h <;> first | cases h | skip
 rename_i c hl
 split at h <;> first | cases h | skip
 rename_i d ids h4
 split at h
 case isFalse => cases h
 rename_i hcc
 simp only [bV8] at hcc
 cases h
 subst hlen
 obtain ⟨k1, k2⟩ := ar3 hl
 obtain ⟨m1, m2, m3⟩ := bA9 M h4 (ba7 hcc.1)
 have hte := aa2 hcc.2
 have hsz : d.sz = n := by rw [m2]; exact k2 c (by simp)
 have hS : S id = .none := hmk id (by simp)
 obtain ⟨ie, hie, hie2⟩ := bW4.1 h1
 have hiz : ie.zero = some z := by
  unfold O1 at h2; rw [hie] at h2; exact h2
 have hu := aa1 hel
 have hvl : (AV.vals ρ c).length = 1 * n := by rw [AV.vals_length, k2 c (by simp), Nat.one_mul]
 have hrun : (Instr.buildSlice t 1 (parts.map fun p => (p.1, g p.2))).run P w = .ok (.slice (some ⟨w.heap.size, 0, none⟩) 1 1) (w.alloc (.cells (AV.vals ρ c).toArray el)) := by
  refine run_buildSlice w t el 1 _ _ ie z hu hie hiz (by omega) (by rw [hie2]; omega) ?_
  have hf := al2 M parts.toList 0 [c] [] (((Array.range (1 * ie.size)).map (z.cells[· % z.cells.size]!)).toList) hl hg (by simp) (by simp [hie2, hpl])
  rw [hie2] at hf ⊢
  simp only [List.nil_append, Array.toArray_toList, List.flatten_cons, List.flatten_nil, List.append_nil] at hf
  simpa using hf
 have hown := (an1 w (g := w.heap.size) (AV.vals ρ c).toArray 1 n el rfl (by simpa using hvl) (by omega)).1
 have hb : Below w.heap.size w (w.alloc (.cells (AV.vals ρ c).toArray el)) := (Below.refl _ _).alloc (bW6 _) _
 have hbk : ∀ j ∈ ids, ∀ b, ((S j).res ρ j).blk b → b < w.heap.size := fun j _ b hb => M.lt (i := .inr j) hb
 obtain ⟨ρ', q1, q2, q3⟩ := M.graft (id := id) (ids := ids) (d := d) (v := .slice (some ⟨w.heap.size, 0, none⟩) 1 1) (T := fun b => Bk S ρ ids b ∨ b = w.heap.size) hS (fun hm => by
   have : ∀ (k : Nat) (l : List AV) (r : D × List Nat), bs1 S k l = some r → ∀ j ∈ r.2, S j ≠ .none := by
    intro k l r h j hj
    have hE : ∀ {x : AV} {q : List b5 × List Nat}, as2 S x = some q → ∀ j ∈ q.2, S j ≠ .none := by
     intro x q h j hj
     unfold as2 at h
     split at h <;> first | cases h | skip
     ·split at h <;> first | cases h | skip
      rename_i hS; simp at hj; subst hj; rw [hS]; intro h; cases h
     ·cases hj
    have hT : ∀ {x : AV} {q : List b6 × List Nat}, ay9 S x = some q → ∀ j ∈ q.2, S j ≠ .none := by
     intro x q h j hj
     unfold ay9 at h
     split at h <;> first | cases h | skip
     ·split at h <;> first | cases h | skip
      rename_i hS; simp at hj; subst hj; rw [hS]; intro h; cases h
     ·cases hj
    have hI : ∀ {x : AV} {q : List Int × List Nat}, a30 S x = some q → ∀ j ∈ q.2, S j ≠ .none := by
     intro x q h j hj
     unfold a30 at h
     split at h <;> first | cases h | skip
     ·split at h <;> first | cases h | skip
      split at h <;> first | cases h | skip
      rename_i hS _; simp at hj; subst hj; rw [hS]; intro h; cases h
     ·cases hj
    unfold bs1 at h
    split at h <;> first | cases h | skip
    ·obtain ⟨q, h1, h2⟩ := bW4.1 h
     cases h2; exact hE h1 j hj
    ·split at h <;> first | cases h | skip
     rename_i hx hy hz hu
     simp only [bY5] at hj
     rcases hj with hj | hj | hj | hj
     ·exact hE hx j hj
     ·exact hE hy j hj
     ·exact hT hz j hj
     ·exact hT hu j hj
    ·obtain ⟨q, h1, h2⟩ := bW4.1 h
     cases h2; exact hI h1 j hj
   exact this _ _ _ h4 id hm hS) hi (D0.any hb)
  ⟨el, _, Bk S ρ ids, hte, by rw [m1, hsz]; exact I2 hown (bX5 _), fun g hg => by
   cases hg
   exact ⟨.inr rfl, fun ⟨j, h1, h2⟩ => Nat.lt_irrefl _ (hbk j h1 _ h2)⟩, fun b hb => .inl hb, by
   simpa using m3.same (w' := w.alloc (.cells (AV.vals ρ c).toArray el)) fun b _ hlt => hb.block b hlt⟩
  (fun b hb => hb.imp (fun h => h) fun h => by omega)
 have hrun2 : (execOp g o).run P w = .ok (.value (.slice (some ⟨w.heap.size, 0, none⟩) 1 1)) (w.alloc (.cells (AV.vals ρ c).toArray el)) := by
  simp only [execOp, hop, Sem.run_bind]
  rw [show (parts.map fun (i, x) => (i, g x)) = parts.map fun p => (p.1, g p.2) from rfl, hrun]
  rfl
 exact .inl ⟨_, _, hrun2, ρ', q1, q2, by simp only [AV.val]; exact q3⟩
def aA8 (P : Program) (dk : TypeId → Nat) (id : Nat) (t : TypeId) (len : Nat) (parts : List (Nat × Operand)) : Option Tr :=
 match aa9 P t with
 | none => none
 | some el =>
  match Z2 P el, O1 P el, D.nil (dk el) with
  | some n, some z, some d =>
   if 0 < n && z.cells.size = n && d.sz = n && natEq len 0 && natEq parts.length 0 && ay8 d el && decide (9 ≤ dk el) then some ⟨[(id, .tree d)], [id], .tref id, []⟩ else none
  | _, _, _ => none
theorem bz5 {k : Nat} {d : D} (h : D.nil k = some d) (h9 : 9 ≤ k) (w : World) (T : Nat → Prop) : U3 w d T [] := by
 unfold D.nil at h
 split at h <;> first | omega | skip
 ·cases h; rfl
 ·cases h; rfl
 ·cases h
theorem bn5 (M : s7 φ ψ w0 w (v9 F ρ S)) {dk : TypeId → Nat} {o : Oper} {g : Operand → Value} {t : TypeId} {len : Nat} {parts : Array (Nat × Operand)} (hop : o.op = .buildSlice t len parts) {id : Nat} {r : Tr} (h : aA8 P dk id t len parts.toList = some r) (hmk : ∀ j ∈ r.made, S j = .none) (hi : Inv S ρ r.made) :
  O8 P o g w (N9 φ ψ w0 F ρ S r) := by
 unfold aA8 at h
 split at h <;> first | cases h | skip
 rename_i el hel
 split at h <;> first | cases h | skip
 rename_i n z d h1 h2 h3
 split at h
 case isFalse => cases h
 rename_i hc
 simp only [bV8, decide_eq_true_eq, natEq, beq_iff_eq] at hc
 obtain ⟨⟨⟨⟨⟨⟨hn, hz⟩, hsz⟩, hlen⟩, hpl⟩, ht⟩, h9⟩ := hc
 cases h
 subst hlen
 have hp0 : parts = #[] := by
  apply Array.ext'
  exact bY8 hpl
 subst hp0
 have hte := aa2 ht
 have hd0 := D.nil_len h3
 have hS : S id = .none := hmk id (by simp)
 obtain ⟨ie, hie, hie2⟩ := bW4.1 h1
 have hiz : ie.zero = some z := by
  unfold O1 at h2; rw [hie] at h2; exact h2
 have hu := aa1 hel
 have hrun : (Instr.buildSlice t 0 (#[] : Array (Nat × Value))).run P w = .ok (.slice (some ⟨w.heap.size, 0, none⟩) 0 0) (w.alloc (.cells #[] el)) := by
  have hr0 : Array.range 0 = #[] := rfl
  simp [Instr.buildSlice, run_underlying hu, sizeOf, typeInfo, hie, Instr.fill, newRow, hr0]
 have hown := (an1 w (g := w.heap.size) (#[] : Array Value) 0 n el rfl (by simp) (by omega)).1
 have hb : Below w.heap.size w (w.alloc (.cells #[] el)) := (Below.refl _ _).alloc (bW6 _) _
 obtain ⟨ρ', q1, q2, q3⟩ := M.graft (id := id) (ids := []) (d := d) (v := .slice (some ⟨w.heap.size, 0, none⟩) 0 0) (T := fun b => b = w.heap.size) hS (by simp) hi (D0.any hb)
  ⟨el, [], fun _ => False, hte, by rw [hd0, hsz]; exact I2 hown (bX5 _), fun g hg => by
   cases hg
   exact ⟨rfl, fun h => h⟩, fun b hb => hb.elim, bz5 h3 h9 _ _⟩
  (fun b hb => .inr (by omega))
 have hrun2 : (execOp g o).run P w = .ok (.value (.slice (some ⟨w.heap.size, 0, none⟩) 0 0)) (w.alloc (.cells #[] el)) := by
  simp only [execOp, hop, Sem.run_bind, List.map_toArray, List.map_nil, hrun]
  rfl
 exact .inl ⟨_, _, hrun2, ρ', q1, q2, by simp only [AV.val]; exact q3⟩
def aY1 (P : Program) (S : Nat → It) (id : Nat) (t t' : TypeId) (s x : AV) : Option Tr :=
 if t = t' then
  match aa9 P t, x with
  | some el, .tref b =>
   match S b, am6 P el, Z2 P el, O1 P el with
   | .tree d2, some by_, some n, some z =>
    if 0 < n && z.cells.size = n && d2.sz = n && ay8 d2 el then
     match s with
     | .tref a => if natEq a b then none else match S a with
      | .tree d1 => if ay8 d1 el then (d1.app d2).map fun d => ⟨(id, .tree d) :: [a, b].map fun j => (j, .dead), [id], .tref id, [d1.len + d2.len ≤ 9223372036854775807, (d1.len + d2.len) * by_ ≤ 140737488355328]⟩ else none
      | _ => none
     | .v (.slice none 0 0) => some ⟨(id, .tree d2) :: [b].map fun j => (j, .dead), [id], .tref id, [d2.len ≤ 9223372036854775807, d2.len * by_ ≤ 140737488355328]⟩
     | _ => none
    else none
   | _, _, _, _ => none
  | _, _ => none
 else none
theorem a98 {v : Value} {n sz : Nat} {xs ys : List Value} (h : V9 w v n sz xs) (k : V9 w v n sz ys) : xs = ys := by
 obtain ⟨h0, a, cap, rfl, _, _, h1⟩ := h
 obtain ⟨k0, a', cap', he, _, _, k1⟩ := k
 cases he
 apply List.ext_getElem?
 intro j
 by_cases hj : j < n * sz
 ·have hn : 0 < n := Nat.pos_of_ne_zero fun h => by subst h; simp at hj
  obtain ⟨b, off, rfl, _, h2⟩ := h1 hn
  obtain ⟨b', off', he, _, k2⟩ := k1 hn
  cases he
  have e1 := h2 j _ (bW0 (by omega))
  have e2 := k2 j _ (bW0 (by omega))
  rw [e1] at e2
  rw [bW0 (by omega), bW0 (by omega)]; exact e2
 ·rw [bY0 (by omega), bY0 (by omega)]
theorem U3.app {d1 d2 d : D} {S T S' : Nat → Prop} {xs ys : List Value} (h : d1.app d2 = some d) (h1 : U3 w d1 S xs) (h2 : U3 w d2 T ys) (h3 : ∀ x, S x → S' x ∧ ¬ T x) (h4 : ∀ x, T x → S' x) : U3 w d S' (xs ++ ys) := by
 cases d1 <;> cases d2 <;> simp only [D.app] at h <;> first | cases h | skip
 all_goals simp only [U3] at h1 h2 ⊢
 ·exact h1.app h2 h3 h4
 ·exact t9.app h1 h2 h3 h4
 ·exact t7.app h1 h2 h3 h4
theorem bj1 {d1 d2 d : D} (h : d1.app d2 = some d) : ao7 d = ao7 d1 := by
 cases d1 <;> cases d2 <;> simp only [D.app] at h <;> first | cases h | skip
 all_goals rfl
theorem bE8 (M : s7 φ ψ w0 w (v9 F ρ S)) {o : Oper} {g : Operand → Value} {t t' : TypeId} {s x : Operand} (hop : o.op = .call { callee := .builtin .append, args := #[s, x], argTypes := #[t, t'] }) {sa xa : AV} (hs : g s = sa.val ρ) (hx : g x = xa.val ρ) {id : Nat} {r : Tr} (h : aY1 P S id t t' sa xa = some r) (ho : C4 r.obs) (hmk : ∀ j ∈ r.made, S j = .none) (hi : Inv S ρ r.made) :
  O8 P o g w (N9 φ ψ w0 F ρ S r) := by
 unfold aY1 at h
 split at h
 case isFalse => cases h
 rename_i htt
 subst htt
 split at h <;> first | cases h | skip
 rename_i el b hel
 split at h <;> first | cases h | skip
 rename_i d2 by_ n z hSb h2 h3 h4
 split at h
 case isFalse => cases h
 rename_i hc
 simp only [bV8, decide_eq_true_eq] at hc
 obtain ⟨⟨⟨hn, hz⟩, hd2⟩, ht2⟩ := hc
 have hu := aa1 hel
 obtain ⟨ie, hie, hie2⟩ := bW4.1 h3
 have hiz : ie.zero = some z := by unfold O1 at h4; rw [hie] at h4; exact h4
 have hib : ie.bytes = by_ := by
  unfold am6 at h2; rw [hie] at h2; exact Option.some.inj h2
 have hinfo : (P.info? el).map (fun i => (i.zero, i.size, i.bytes)) = some (some z, n, by_) := by rw [hie]; simp [hiz, hie2, hib]
 obtain ⟨hTb, hltb⟩ := M.treeAt (id := b) (d := d2) (by rw [hSb]; rfl)
 have hrd := G9.read (φ := fun _ => True) hTb fun _ _ => trivial
 obtain ⟨e2, news, S2, f0, f1, f2, f3, f4⟩ := hTb
 rw [aa2 ht2] at f0; cases f0
 have k1 := ab1 f1
 have h1c : ∀ u ∈ news, u.oneCell' = true := by
  obtain ⟨xs', r1, r2⟩ := hrd.split
  rw [a98 k1 r1.row]
  exact a02 r1.1 r2
 rw [hd2] at k1
 have hexec : ∀ v w', (Builtin.append_ #[t, t] o.type #[sa.val ρ, AV.val ρ (.tref b)]).run P w = .ok v w' → (execOp g o).run P w = .ok (.value v) w' := by
  intro v w' hr
  simp only [execOp, hop, resolve, invoke, builtin, Sem.run_bind, Sem.run_pure, Result.andThen_ok, List.map_toArray, bY9, List.map_nil, hs, hx, hr]
 have hbk : ∀ c, G7 (ρ b) c → ((S b).res ρ b).blk c := fun c hc => by rw [hSb]; exact hc
 split at h
 ·rename_i a
  split at h
  case isTrue => cases h
  rename_i hab
  have hab' : a ≠ b := by simpa [natEq] using hab
  split at h <;> first | cases h | skip
  rename_i d1 hSa
  split at h
  case isFalse => cases h
  rename_i ht1
  obtain ⟨d, hd, hr⟩ := bW4.1 h
  subst hr
  simp only [C4] at ho
  obtain ⟨q1, q2, q3, q4⟩ := D.app_ok hd
  obtain ⟨hTa, hlta⟩ := M.treeAt (id := a) (d := d1) (by rw [hSa]; rfl)
  obtain ⟨e1, xs, S1, g0, g1, g2, g3, g4⟩ := hTa
  rw [aa2 ht1] at g0; cases g0
  have hak : ∀ c, G7 (ρ a) c → ((S a).res ρ a).blk c := fun c hc => by rw [hSa]; exact hc
  have hdis : ∀ c, G7 (ρ a) c → ¬ G7 (ρ b) c := fun c h1 h2 => M.dis (.inr a) (.inr b) c (fun e => hab' (by cases e; rfl)) (hak c h1) (hbk c h2)
  have hsz : d1.sz = n := by omega
  rw [hsz] at g1
  obtain ⟨a', k', w', hrun, r2, r3, r4, r5⟩ := au1 (P := P) (lo := 0) (ty := o.type) hu hinfo hz hn g1 k1 h1c ho.1 ho.2.1 (bX5 _)
  have hkeep : ∀ c, c < w.heap.size → (I8 (ρ a)).ownBlock ≠ some c → w'.heap[c]? = w.heap[c]? := fun c hc hne => r4.block c hc fun h => hne h.symm
  obtain ⟨ρ', p1, p2, p3⟩ := M.graft (id := id) (ids := [a, b]) (d := d) (v := .slice a' (d1.len + d2.len) k') (T := fun c => G7 (ρ a) c ∨ G7 (ρ b) c ∨ (w.heap.size ≤ c ∧ (Value.slice a' (d1.len + d2.len) k').ownBlock = some c)) (hmk id (by simp))
   (fun hm => by
    have h0 := hmk id (by simp)
    simp only [bZ6, List.not_mem_nil, or_false] at hm
    rcases hm with rfl | rfl
    ·rw [hSa] at h0; cases h0
    ·rw [hSb] at h0; cases h0) hi
   ⟨r4.os, r4.tape, r4.output, r4.size, fun c hc hne => hkeep c hc fun he => hne ⟨a, by simp, hak c (g2 c he).1⟩⟩
   ⟨el, xs ++ news, fun c => S1 c ∨ S2 c, by rw [bj1 hd, aa2 ht1], by rw [q2, hsz, q1]; exact r2, fun c hc => by
    rcases r5 c hc with h | h
    ·exact ⟨.inl (g2 c h).1, fun hh => hh.elim (g2 c h).2 fun h2 => hdis c (g2 c h).1 (f3 c h2)⟩
    ·exact ⟨.inr (.inr ⟨h, hc⟩), fun hh => hh.elim (fun h2 => by have := hlta c (g3 c h2); omega) fun h2 => by have := hltb c (f3 c h2); omega⟩,
    fun c hc => hc.imp (g3 c) fun h => .inl (f3 c h), by
    refine U3.app hd (g4.same fun c hc hlt => hkeep c hlt fun he => (g2 c he).2 hc) (f4.same fun c hc hlt => hkeep c hlt fun he => hdis c (g2 c he).1 (f3 c hc)) (fun c hc => ⟨.inl hc, fun h2 => hdis c (g3 c hc) (f3 c h2)⟩) fun c hc => .inr hc⟩
   (fun c hc => by
    rcases hc with h | h | h
    ·exact .inl ⟨a, by simp, hak c h⟩
    ·exact .inl ⟨b, by simp, hbk c h⟩
    ·exact .inr h.1)
  exact .inl ⟨_, _, hexec _ _ hrun, ρ', p1, p2, p3⟩
 ·cases h
  simp only [C4] at ho
  obtain ⟨a', k', w', hrun, r2, r3, r4, r5⟩ := au1 (P := P) (lo := w.heap.size) (ty := o.type) hu hinfo hz hn (World.ownsRow_nil _ _ _ _) k1 h1c (by omega) (by rw [bZ2]; exact ho.2.1) (bW6 _)
  rw [bZ2, List.nil_append] at r2
  obtain ⟨ρ', p1, p2, p3⟩ := M.graft (id := id) (ids := [b]) (d := d2) (v := .slice a' (0 + d2.len) k') (w' := w') (T := fun c => G7 (ρ b) c ∨ (w.heap.size ≤ c ∧ (Value.slice a' (0 + d2.len) k').ownBlock = some c)) (hmk id (by simp))
   (fun hm => by
    have h0 := hmk id (by simp)
    simp only [bZ6, List.not_mem_nil, or_false] at hm
    subst hm
    rw [hSb] at h0; cases h0) hi (D0.any r3)
   ⟨el, news, S2, aa2 ht2, by rw [hd2, bZ2]; exact I2 r2 (bX5 _), fun c hc => by
    rcases r5 c hc with h | h
    ·cases h
    ·exact ⟨.inr ⟨h, hc⟩, fun h2 => by have := hltb c (f3 c h2); omega⟩, fun c hc => .inl (f3 c hc), f4.same fun c _ hlt => r3.block c hlt⟩
   (fun c hc => hc.imp (fun h => ⟨b, by simp, hbk c h⟩) fun h => h.1)
  exact .inl ⟨_, _, hexec _ _ hrun, ρ', p1, p2, p3⟩
 ·cases h
theorem aY9 (S : Nat → It) (l2 : List (Nat × It)) : ∀ (l1 : List (Nat × It)) (j : Nat), v8 (v8 S l2) l1 j = v8 S (l1 ++ l2) j
 | [], _ => rfl
 | (k, x) :: r, j => by
  simp only [v8, List.cons_append]
  rw [aY9 S l2 r j]
theorem s7.rowDat (M : s7 φ ψ w0 w (v9 F ρ S)) {a : Nat} {el : TypeId} {d : D} (hS : S a = .row el d) : s7 φ ψ w0 w (v9 F ρ (v8 S [(a, .dat d)])) := by
 obtain ⟨xs, h1, h2⟩ := M.rowAt hS
 have e0 : v8 S [(a, .dat d)] a = .dat d := by simp [v8]
 have e1 : ∀ j, j ≠ a → v8 S [(a, .dat d)] j = S j := fun j h => by simp [v8, h]
 generalize v8 S [(a, .dat d)] = S' at e0 e1
 have hoth : ∀ k : ι ⊕ Nat, k ≠ .inr a → v9 F ρ S' k = v9 F ρ S k := fun k hk => by
  cases k with
  | inl q => rfl
  | inr j =>
   have : j ≠ a := fun e => hk (by rw [e])
   simp only [v9]; rw [e1 j this]
 have hno : ∀ g, ¬ (v9 F ρ S' (.inr a)).blk g := fun g hg => by
  simp only [v9] at hg
  rw [e0] at hg; exact hg
 refine M.put (.inr a) hoth (D0.refl _ _) ?_ fun g hg => (hno g hg).elim
 show (((S' a).res ρ a)).holds w _
 rw [e0]
 refine ⟨RD.nice _ _, ?_⟩
 have hfr : ∀ b, FrF φ (v9 F ρ S) b → FrF φ (v9 F ρ S') b := fun b hb => ⟨hb.1, fun k hk => by
  by_cases e : k = .inr a
  ·subst e; exact hno b hk
  ·rw [hoth k e] at hk; exact hb.2 k hk⟩
 refine RD.make (H1 h1 fun g hg => ?_) (RW.nice _ _ _ _ _ _ (N2.mono fun b _ hb => hfr b hb) h2)
 have ho : (v9 F ρ S (.inr a)).blk g := by simp only [v9]; rw [hS]; exact hg
 refine ⟨M.ph _ _ ho, fun k hk => ?_⟩
 by_cases e : k = .inr a
 ·subst e; exact hno g hk
 ·rw [hoth k e] at hk
  exact M.dis _ _ g (fun h => e h.symm) ho hk
def az9 (P : Program) (S : Nat → It) (id : Nat) (t : TypeId) (x : AV) (lo hi : Option AV) : Option Tr :=
 match x with
 | .ref a => match S a with
  | .row _ d => (aX0 P (v8 S [(a, .dat d)]) id t x lo hi).map fun r => ⟨r.new ++ [(a, .dat d)], r.made, r.res, r.obs⟩
  | _ => none
 | _ => none
theorem bm3 (M : s7 φ ψ w0 w (v9 F ρ S)) {o : Oper} {g : Operand → Value} {t : TypeId} {x : Operand} {lo hi : Option Operand} {e : Operand → Option AV} (hop : o.op = .slice t x lo hi none) {xa : AV} (hx : g x = xa.val ρ) {la ha : Option AV} (hlo : lo.map g = la.map (AV.val ρ)) (hhi : hi.map g = ha.map (AV.val ρ)) {id : Nat} {r : Tr} (h : az9 P S id t xa la ha = some r) (ho : C4 r.obs) (hmk : ∀ j ∈ r.made, S j = .none) (hin : Inv S ρ r.made) :
  O8 P o g w (N9 φ ψ w0 F ρ S r) := by
 unfold az9 at h
 split at h <;> first | cases h | skip
 rename_i a
 split at h <;> first | cases h | skip
 rename_i el d hS
 obtain ⟨r', h1, h2⟩ := bW4.1 h
 subst h2
 have ha : ∀ j ∈ r'.made, j ≠ a := fun j hj e => by
  have := hmk j hj
  rw [e, hS] at this; cases this
 have hin' : Inv (v8 S [(a, .dat d)]) ρ r'.made := fun ρ' hag j => by
  simp only [v8]
  split
  ·rename_i e
   subst e
   have := hin ρ' hag j
   refine It.res_congr _ (fun i hi => by cases hi) (.inr (.inr (hag j fun hm => ha j hm rfl)))
  ·exact hin ρ' hag j
 have D1 := bx0 (e := e) (M.rowDat hS) hop hx hlo hhi h1 ho (fun j hj => by
  simp only [v8]
  rw [if_neg (ha j hj)]
  exact hmk j hj) hin'
 refine D1.mono fun v w' ⟨ρ', q1, q2, q3⟩ => ⟨ρ', q1, ?_, q3⟩
 have e2 : v8 S (r'.new ++ [(a, .dat d)]) = v8 (v8 S [(a, .dat d)]) r'.new := funext fun j => (aY9 S _ _ j).symm
 simp only
 rw [e2]; exact q2
def an5 (P : Program) (S : Nat → It) (id : Nat) (t : TypeId) (x : AV) (lo hi : Option AV) : Option Tr := match aX0 P S id t x lo hi with
 | some r => some r
 | none => az9 P S id t x lo hi
theorem aE0 (M : s7 φ ψ w0 w (v9 F ρ S)) {o : Oper} {g : Operand → Value} {t : TypeId} {x : Operand} {lo hi : Option Operand} {e : Operand → Option AV} (hop : o.op = .slice t x lo hi none) {xa : AV} (hx : g x = xa.val ρ) {la ha : Option AV} (hlo : lo.map g = la.map (AV.val ρ)) (hhi : hi.map g = ha.map (AV.val ρ)) {id : Nat} {r : Tr} (h : an5 P S id t xa la ha = some r) (ho : C4 r.obs) (hmk : ∀ j ∈ r.made, S j = .none) (hin : Inv S ρ r.made) :
  O8 P o g w (N9 φ ψ w0 F ρ S r) := by
 unfold an5 at h
 split at h
 ·rename_i r' h1
  cases h
  exact bx0 (e := e) M hop hx hlo hhi h1 ho hmk hin
 ·exact bm3 (e := e) M hop hx hlo hhi h ho hmk hin
end
section
variable {P : Program} {ι : Type} {φ ψ : Nat → Prop} {w0 w w' : World} {F : ι → Rs} {ρ : Nat → Value} {S : Nat → It}
theorem bo1 {φ : Nat → Prop} {k n : Nat} {d : D} {z : Value} (h : a74 k n = some (d, z)) : d.len = n ∧ d.sz = 1 ∧ z.cells = #[z] ∧ RW w φ d (bV5 n z) := by
 have key : ∀ (d : D) (z : Value), d.len = n → d.sz = 1 → (∀ i, i < n → ∃ x, d.elem i = [x] ∧ XH w φ x z) → RW w φ d (bV5 n z) := by
  intro d z h1 h2 h3 i hi j x hx
  obtain ⟨y, hy, hz⟩ := h3 i (by omega)
  rw [hy] at hx
  cases j with
  | zero => simp at hx; subst hx; exact ⟨z, by rw [h1] at hi; rw [h2, Nat.mul_one, bZ5, List.getElem?_replicate, if_pos hi], hz⟩
  | succ j => simp at hx
 unfold a74 at h
 split at h <;> first | cases h | skip
 ·exact ⟨by simp [D.len], rfl, rfl, key _ _ (by simp [D.len]) rfl fun i hi => ⟨_, rfl, by simp [XH, hi]⟩⟩
 ·exact ⟨by simp [D.len], rfl, rfl, key _ _ (by simp [D.len]) rfl fun i hi => ⟨_, rfl, by simp [XH, hi]⟩⟩
 ·exact ⟨by simp [D.len], rfl, rfl, key _ _ (by simp [D.len]) rfl fun i hi => ⟨_, rfl, by simp [XH, hi]⟩⟩
 ·exact ⟨by simp [D.len], rfl, rfl, key _ _ (by simp [D.len]) rfl fun i hi => ⟨_, rfl, by simp only [XH, bW2, List.getElem?_replicate, hi, if_true, Option.getD_some]; exact E9.nil _ _ _⟩⟩
 ·exact ⟨by simp [D.len], rfl, rfl, key _ _ (by simp [D.len]) rfl fun i hi => ⟨_, rfl, by simp only [XH, bW2, List.getElem?_replicate, hi, if_true, Option.getD_some]; exact E9.nil _ _ _⟩⟩
theorem bC0 (M : s7 φ ψ w0 w (v9 F ρ S)) {dk : TypeId → Nat} {o : Oper} {g : Operand → Value} {t : TypeId} {l c : Operand} (hop : o.op = .makeSlice t l c) {la ca : AV} (hl : g l = la.val ρ) (hc : g c = ca.val ρ) {id : Nat} {r : Tr} (h : aV7 P dk id t la ca = some r) (ho : C4 r.obs) (hmk : ∀ j ∈ r.made, S j = .none) (hi : Inv S ρ r.made) :
  O8 P o g w (N9 φ ψ w0 F ρ S r) := by
 unfold aV7 at h
 split at h
 case h_2 => cases h
 rename_i n m el hel
 split at h
 case h_2 => cases h
 rename_i d z by_ sz z' h1 h2 h3 h4
 split at h
 case isFalse => cases h
 rename_i hsz
 cases h
 simp only [C4] at ho
 obtain ⟨hm, hn, hb, hbig, hzz, -⟩ := ho
 subst hm; subst hzz; subst hsz
 obtain ⟨k1, k2, k3, k4⟩ := bo1 (w := w) (φ := FrF φ (v9 F ρ S)) h1
 obtain ⟨ie, hie, hie2⟩ := bW4.1 h3
 have hiz : ie.zero = some z' := by unfold O1 at h4; rw [hie] at h4; exact h4
 have hib : ie.bytes = by_ := by
  unfold am6 at h2; rw [hie] at h2; exact Option.some.inj h2
 have hinfo : (P.info? el).map (fun i => (i.zero, i.size, i.bytes)) = some (some z', 1, by_) := by rw [hie]; simp [hiz, hie2, hib]
 have hb' : by_ * m.toNat ≤ 281474976710656 := by
  have : ((by_ * m.toNat : Nat) : Int) = by_ * m := by rw [Int.natCast_mul, Int.toNat_of_nonneg hn]
  omega
 have hrun := av1 (P := P) (aa1 hel) hinfo (by rw [k3]; rfl) (by omega) m.toNat hb' (by omega) w
 rw [Int.toNat_of_nonneg hn] at hrun
 have hown := (au5 w z'.cells.toList m.toNat 1 el (by rw [k3]; rfl) (by omega)).1
 rw [k3, aB2, ← k1, ← k2] at hown
 obtain ⟨ρ', q1, q2, q3⟩ := M.newRow (id := id) (e := el) (d := d) ((Below.refl _ _).alloc (bW6 _) _) (hmk id (by simp)) hi hown (by rw [k1]; exact k4)
 have hrun2 : (execOp g o).run P w = .ok (.value (.slice (some ⟨w.heap.size, 0, none⟩) m.toNat m.toNat)) (w.alloc (.cells (I5 z'.cells.toList m.toNat).toArray el)) := by
  simp only [execOp, hop, Sem.run_bind, hl, hc, AV.val, hrun]
  rfl
 rw [k3, aB2, ← k1] at hrun2
 exact .inl ⟨_, _, hrun2, ρ', q1, q2, q3⟩
end
def AV.agN : AV → AV
 | .v (.agg l) => .agg (l.toList.map .v)
 | x => x
theorem AV.val_agN (ρ : Nat → Value) (x : AV) : x.agN.val ρ = x.val ρ := by
 cases x <;> try rfl
 rename_i v
 cases v <;> try rfl
 simp only [AV.agN, AV.val, ad1, Array.toArray_toList]
def evN (e : Operand → Option AV) (x : Operand) : Option AV := (e x).map AV.agN
def al6 (P : Program) (dk : TypeId → Nat) (e : Operand → Option AV) (S : Nat → It) (id : Nat) : Op → Option Tr
 | .load t x => (e x).bind fun a => aV9 P S id t a
 | .store t x y => match e x, e y with
  | some a, some v => af2 P S t v a
  | _, _ => none
 | .alloc t => match O1 P t with
  | some z => if z.cells.toList.all (·.oneCell') then some ⟨[(id, .box (z.cells.toList.map .v))], [id], .ptr id 0, []⟩ else none
  | none => none
 | .box _ x => (e x).bind fun v => ba8 S id v
 | .buildSlice t len parts => match aA8 P dk id t len parts.toList with
  | some r => some r
  | none => match ag2 P dk e S id t len parts.toList with
   | some r => some r
   | none => match ax2 P dk e S id t len parts.toList with
    | some r => some r
    | none => ax2 P dk (evN e) S id t len parts.toList
 | .makeSlice t l c => match e l, e c with
  | some a, some b => aV7 P dk id t a b
  | _, _ => none
 | .slice t x lo hi none => match e x, lo.map e, hi.map e with
  | some a, none, none => an5 P S id t a none none
  | some a, some (some l), none => an5 P S id t a (some l) none
  | some a, none, some (some h) => an5 P S id t a none (some h)
  | some a, some (some l), some (some h) => an5 P S id t a (some l) (some h)
  | _, _, _ => none
 | .call { callee := .builtin .append, args, argTypes } =>
  match args.toList, argTypes.toList with
  | [s, x], [t, t'] => match e s, e x with
   | some a, some b => match be0 P dk S id t t' a b with
    | some r => some r
    | none => aY1 P S id t t' a b
   | _, _ => none
  | _, _ => none
 | _ => none
def au0 (P : Program) (dk : TypeId → Nat) (e : Operand → Option AV) (S : Nat → It) (id : Nat) (op : Op) : Option Tr :=
 match ad5 P e S op with
 | some r => some ⟨[], [], r.1, r.2⟩
 | none => al6 P dk e S id op
section
variable {P : Program} {ι : Type} {φ ψ : Nat → Prop} {w0 w w' : World} {F : ι → Rs} {ρ : Nat → Value} {S : Nat → It}
theorem bB1 (M : s7 φ ψ w0 w (v9 F ρ S)) {o : Oper} {g : Operand → Value} {t : TypeId} {cs : List AV} {v : Value} (hop : (execOp g o).run P w = .ok (.value (.pointer (some ⟨w.heap.size, 0, none⟩))) (w.alloc (.cells v.cells t))) (hv : v.cells = (AV.vals ρ cs).toArray) {id : Nat} (hn : id ∉ AV.idsL cs) (hS : S id = .none) (hi : Inv S ρ [id]) :
  O8 P o g w (N9 φ ψ w0 F ρ S ⟨[(id, .box cs)], [id], .ptr id 0, []⟩) := by
 have ha : H0 [id] ρ (fun j => if j = id then .pointer (some ⟨w.heap.size, 0, none⟩) else ρ j) := fun j hj => by
  have : j ≠ id := by simpa using hj
  simp [this]
 refine .inl ⟨_, _, hop, _, ha, M.one id _ [id] hi ha (D0.any ((Below.refl _ _).alloc (bW6 _) _)) (fun g hg => ?_) ?_, ?_⟩
 ·simp only [It.res, if_true, Y9] at hg
  exact .inr (by rw [show g = w.heap.size from hg]; exact bW6 _)
 ·simp only [It.res, if_true, Y9, Rs.holds]
  have e : AV.vals (fun j => if j = id then .pointer (some ⟨w.heap.size, 0, none⟩) else ρ j) cs = AV.vals ρ cs := AV.vals_congr _ fun k hk => by
   have : k ≠ id := fun e => hn (e ▸ hk)
   simp [this]
  rw [e, hv]
  exact Blk.new _ _ _
 ·simp [AV.val, Y9]
theorem bb5 (l : List Value) : AV.idsL (l.map .v) = [] := by
 induction l with
 | nil => rfl
 | cons a r ih => simp [AV.idsL, AV.ids, ih]
theorem bp8 (M : s7 φ ψ w0 w (v9 F ρ S)) {dk : TypeId → Nat} {o : Oper} {e : Operand → Option AV} {g : Operand → Value} (hg : ∀ x ∈ o.op.operands, ∀ v, e x = some v → g x = v.val ρ) {id : Nat} {r : Tr} (h : au0 P dk e S id o.op = some r) (ho : C4 r.obs) (hmk : ∀ j ∈ r.made, S j = .none) (hi : Inv S ρ r.made) :
  O8 P o g w (N9 φ ψ w0 F ρ S r) := by
 unfold au0 at h
 split at h
 ·rename_i q hq
  cases h
  exact .inl ⟨_, _, bA4 M hg (r := q.1) (obs := q.2) hq ho, ρ, H0.refl _ _, M, rfl⟩
 rename_i hnone
 clear hnone
 cases hop : o.op <;> rw [hop] at h hg <;> simp only [al6] at h <;> first | cases h | skip
 case load t x =>
  obtain ⟨a, h1, h2⟩ := Option.bind_eq_some_iff.1 h
  exact bC3 M hop (hg x (by simp [Op.operands]) _ h1) h2 ho hmk hi
 case store t x y =>
  split at h
  case h_2 => cases h
  rename_i a v h1 h2
  exact bp3 M hop (hg x (by simp [Op.operands]) _ h1) (hg y (by simp [Op.operands]) _ h2) h ho
 case alloc t =>
  split at h
  case h_2 => cases h
  rename_i z hz
  split at h
  case isFalse => cases h
  cases h
  have hrun : (execOp g o).run P w = .ok (.value (.pointer (some ⟨w.heap.size, 0, none⟩))) (w.alloc (.cells z.cells t)) := by
   simp [execOp, hop, Instr.alloc, bk3 hz, newVar, newRow]
  exact bB1 M hrun (by rw [ad1]) (by rw [bb5]; simp) (hmk id (by simp)) hi
 case box t x =>
  obtain ⟨a, h1, h2⟩ := Option.bind_eq_some_iff.1 h
  have hx := hg x (by simp [Op.operands]) _ h1
  have hrun : (execOp g o).run P w = .ok (.value (.pointer (some ⟨w.heap.size, 0, none⟩))) (w.alloc (.cells (a.val ρ).cells t)) := by
   simp [execOp, hop, Instr.box, newVar, newRow, hx]
  exact bK1 M hrun rfl h2 hmk hi
 case buildSlice t len parts =>
  split at h
  ·rename_i r' h'
   cases h
   exact bn5 M hop h' hmk hi
  split at h
  ·rename_i r' h'
   cases h
   exact bn4 M hop (fun p hp v hv => hg p.2 (by simp [Op.operands]; exact ⟨p.1, by simpa using hp⟩) v hv) h' hmk hi
  split at h
  ·rename_i r' h'
   cases h
   exact a64 M hop (fun p hp v hv => hg p.2 (by simp [Op.operands]; exact ⟨p.1, by simpa using hp⟩) v hv) h' ho hmk hi
  ·refine a64 M hop (e := evN e) (fun p hp v hv => ?_) h ho hmk hi
   obtain ⟨y, h1, rfl⟩ := bW4.1 hv
   rw [AV.val_agN]
   exact hg p.2 (by simp [Op.operands]; exact ⟨p.1, by simpa using hp⟩) y h1
 case makeSlice t l c =>
  split at h
  case h_2 => cases h
  rename_i a b h1 h2
  exact bC0 M hop (hg l (by simp [Op.operands]) _ h1) (hg c (by simp [Op.operands]) _ h2) h ho hmk hi
 case slice t x lo hi' mx =>
  cases mx with
  | some mx => simp only [al6] at h; cases h
  | none =>
  simp only [al6] at h
  split at h <;> first | cases h | skip
  ·rename_i a h1 h2 h3
   have : lo = none := by cases lo <;> simp at h2 ⊢
   subst this
   have : hi' = none := by cases hi' <;> simp at h3 ⊢
   subst this
   exact aE0 M (e := e) hop (hg x (by simp [Op.operands]) _ h1) rfl rfl h ho hmk hi
  ·rename_i a l h1 h2 h3
   obtain ⟨lo', rfl, hlo⟩ := bW4.1 h2
   have : hi' = none := by cases hi' <;> simp at h3 ⊢
   subst this
   exact aE0 M (e := e) hop (hg x (by simp [Op.operands]) _ h1) (by simp [hg lo' (by simp [Op.operands]) _ hlo]) rfl h ho hmk hi
  ·rename_i a l h1 h2 h3
   obtain ⟨hi'', rfl, hhi⟩ := bW4.1 h3
   have : lo = none := by cases lo <;> simp at h2 ⊢
   subst this
   exact aE0 M (e := e) hop (hg x (by simp [Op.operands]) _ h1) rfl (by simp [hg hi'' (by simp [Op.operands]) _ hhi]) h ho hmk hi
  ·rename_i a l hh h1 h2 h3
   obtain ⟨lo', rfl, hlo⟩ := bW4.1 h2
   obtain ⟨hi'', rfl, hhi⟩ := bW4.1 h3
   exact aE0 M (e := e) hop (hg x (by simp [Op.operands]) _ h1) (by simp [hg lo' (by simp [Op.operands]) _ hlo]) (by simp [hg hi'' (by simp [Op.operands]) _ hhi]) h ho hmk hi
 case call c =>
  obtain ⟨callee, args, argTypes⟩ := c
  cases callee <;> (try simp only [al6] at h) <;> first | cases h | skip
  rename_i b
  cases b <;> (try simp only [al6] at h) <;> first | cases h | skip
  split at h <;> first | cases h | skip
  rename_i s x t t' hx ht
  have hx' : args = #[s, x] := by apply Array.ext'; simpa using hx
  have ht' : argTypes = #[t, t'] := by apply Array.ext'; simpa using ht
  subst hx'; subst ht'
  split at h
  case h_2 => cases h
  rename_i a b h1 h2
  split at h
  ·rename_i r' h'
   cases h
   exact app_ok M hop (hg s (by simp [Op.operands, Call.operands]) _ h1) (hg x (by simp [Op.operands, Call.operands]) _ h2) h' ho hmk hi
  ·exact bE8 M hop (hg s (by simp [Op.operands, Call.operands]) _ h1) (hg x (by simp [Op.operands, Call.operands]) _ h2) h ho hmk hi
end
structure p6 where
 f : FuncId
 args : List AV
 pre : List It
 post : List It
 res : AV
def p6.ok (P : Program) (c : p6) : Prop := ∀ (ι : Type) (φ ψ : Nat → Prop) (w0 w : World) (F : ι → Rs) (ρ : Nat → Value), s7 φ ψ w0 w (v9 F ρ (w7 c.pre)) →
 Calls P c.f (AV.vals ρ c.args).toArray w fun x w' => ∃ ρ', (∀ i, i < c.pre.length → ρ' i = ρ i) ∧ x = .returned (c.res.val ρ') ∧ s7 φ ψ w0 w' (v9 F ρ' (w7 c.post))
def aD9 (P : Program) (f : FuncId) : Bool :=
 match P.funcs[f]? with
 | some fn => fn.body.isSome && !(fn.name == "runtime.NumGoroutine")
 | none => false
theorem aP7 {P : Program} {f : FuncId} (h : aD9 P f = true) (args : Array Value) (w : World) : (callFunc f args).run P w = .ok (.enter f args) w := by
 unfold aD9 at h
 cases hf : P.funcs[f]? with
 | none => rw [hf] at h; cases h
 | some fn =>
  rw [hf] at h
  simp only [bV8, bW7] at h
  cases hb : fn.body with
  | none => rw [hb] at h; cases h.1
  | some c => exact aP8 hf h.2 hb args w
def memN (j : Nat) : List Nat → Bool
 | [] => false
 | x :: r => natEq j x || memN j r
def nodupB : List Nat → Bool
 | [] => true
 | x :: r => !memN x r && nodupB r
theorem A8 {j : Nat} {l : List Nat} : memN j l = true ↔ j ∈ l := by
 induction l with
 | nil => simp [memN]
 | cons x r ih => simp [memN, natEq, ih]
theorem ar5 {l : List Nat} (h : nodupB l = true) : l.Nodup := by
 induction l with
 | nil => simp
 | cons x r ih =>
  simp only [nodupB, bV8, bW7] at h
  refine List.nodup_cons.2 ⟨fun hm => ?_, ih h.2⟩
  rw [A8.2 hm] at h; cases h.1
def ab7 (n : Nat) (l : List Nat) : Bool := l.all fun j => decide (j < n)
theorem I3 {n : Nat} {l : List Nat} (h : ab7 n l = true) : ∀ j ∈ l, j < n := fun j hj => by simpa using bX0.1 h j hj
def ak0 : List Nat → List It → List (Nat × It)
 | a :: r, x :: s => (a, x) :: ak0 r s
 | _, _ => []
def nth (σ : List Nat) (i : Nat) : Nat := σ.getD i 0
def ax3 : List Nat → List It → List It → List (Nat × It)
 | a :: r, p :: q, x :: s => match p, x with
  | .dat _, .dat _ => ax3 r q s
  | .row _ _, .kept (some _) _ => ax3 r q s
  | .tree _, .kept none _ => ax3 r q s
  | _, _ => (a, x.unK) :: ax3 r q s
 | a :: r, [], x :: s => (a, x.unK) :: ax3 r [] s
 | _, _, _ => []
def az8 : List It → List It → List It
 | p :: q, x :: s => match p, x with
  | .dat d, .dat _ => .dat d :: az8 q s
  | .row e d, .kept (some _) _ => .row e d :: az8 q s
  | .tree d, .kept none _ => .tree d :: az8 q s
  | _, _ => az8 q s
 | _, _ => []
def az7 : List It → List It → List It
 | p :: q, x :: s => match p, x with
  | .dat _, .dat e => .dat e :: az7 q s
  | .row _ _, .kept (some e) d => .row e d :: az7 q s
  | .tree _, .kept none d => .tree d :: az7 q s
  | _, _ => az7 q s
 | _, _ => []
def aJ9 : It → It → Bool
 | .dat _, .dat _ => true
 | .row _ _, .kept (some _) _ => true
 | .tree _, .kept none _ => true
 | _, _ => false
theorem bi8 (a : Nat) (r : List Nat) (p : It) (q : List It) (x : It) (s : List It) : ax3 (a :: r) (p :: q) (x :: s) = if aJ9 p x then ax3 r q s else (a, x.unK) :: ax3 r q s := by
 cases p <;> cases x <;> first | rfl | (rename_i e d; cases e <;> rfl) | (rename_i d e; cases e <;> rfl) | (rename_i e d f g; cases f <;> rfl) | (rename_i d f g; cases f <;> rfl)
theorem bl9 (p : It) (q : List It) (x : It) (s : List It) : az8 (p :: q) (x :: s) = if aJ9 p x then p :: az8 q s else az8 q s := by
 cases p <;> cases x <;> first | rfl | (rename_i e d; cases e <;> rfl) | (rename_i d e; cases e <;> rfl) | (rename_i e d f g; cases f <;> rfl) | (rename_i d f g; cases f <;> rfl)
theorem bl8 (p : It) (q : List It) (x : It) (s : List It) : az7 (p :: q) (x :: s) = if aJ9 p x then x.unK :: az7 q s else az7 q s := by
 cases p <;> cases x <;> first | rfl | (rename_i e d; cases e <;> rfl) | (rename_i d e; cases e <;> rfl) | (rename_i e d f g; cases f <;> rfl) | (rename_i d f g; cases f <;> rfl)
theorem aW3 : ∀ {P X : List It} {i : Nat} {p x : It}, az8 P X = az7 P X → P[i]? = some p → X[i]? = some x → aJ9 p x = true → p = x.unK
 | [], _, _, _, _, _, h, _, _ => by simp at h
 | _ :: _, [], _, _, _, _, _, h, _ => by simp at h
 | p :: q, x :: s, i, p1, x1, h, h1, h2, hk => by
  rw [bl9, bl8] at h
  cases i with
  | zero =>
   simp at h1 h2
   subst h1 h2
   rw [if_pos hk, if_pos hk] at h
   exact (List.cons.inj h).1
  | succ i =>
   refine aW3 (P := q) (X := s) (i := i) ?_ (by simpa using h1) (by simpa using h2) hk
   split at h
   ·exact (List.cons.inj h).2
   ·exact h
theorem bL9 {P X : List It} {i : Nat} {d e : D} (h : az8 P X = az7 P X) (h1 : P[i]? = some (.dat d)) (h2 : X[i]? = some (.dat e)) : d = e := by
 have := aW3 h h1 h2 rfl
 simpa [It.unK] using this
theorem ay5 {S : Nat → It} : ∀ {σ : List Nat} {P X : List It}, σ.Nodup → (∀ (i j : Nat) (p x : It), σ[i]? = some j → P[i]? = some p → X[i]? = some x → aJ9 p x = true → S j = x.unK) → ∀ j, v8 S (ax3 σ P X) j = v8 S (ak0 σ (X.map It.unK)) j
 | [], _, _, _, _, j => by simp [ax3, ak0]
 | a :: r, P, [], _, _, j => by cases P <;> simp [ax3, ak0]
 | a :: r, [], x :: s, hn, h, j => by
  simp only [ax3, ak0, v8, bY9]
  rw [ay5 (List.nodup_cons.1 hn).2 (fun i j d e _ h2 _ => by simp at h2) j]
 | a :: r, p :: q, x :: s, hn, h, j => by
  have ih := ay5 (S := S) (P := q) (X := s) (List.nodup_cons.1 hn).2 (fun i j d e h1 h2 h3 h4 => h (i + 1) j d e (by simpa using h1) (by simpa using h2) (by simpa using h3) h4) j
  rw [bi8]
  simp only [ak0, bY9]
  split
  ·rename_i hk
   rw [ih]
   simp only [v8]
   split
   ·rename_i hj
    subst hj
    rw [at8 fun hm => (List.nodup_cons.1 hn).1 (by
     have : ∀ {σ : List Nat} {L : List It} {j : Nat}, j ∈ (ak0 σ L).map (·.1) → j ∈ σ := fun {σ} => by
      induction σ with
      | nil => intro L j h; simp [ak0] at h
      | cons a r ih => intro L j h; cases L with
       | nil => simp [ak0] at h
       | cons y s => simp only [ak0, bY9, bZ6] at h ⊢; exact h.imp id ih
     exact this hm)]
    exact h 0 j p x rfl rfl rfl hk
   ·rfl
  ·simp only [v8]
   rw [ih]
def bi1 : AV → Option (Nat × List AV × List AV)
 | .fn f l => some (f, [], l)
 | .bm f l => some (f, l, [])
 | _ => none
def aE1 (P : Program) (e : Operand → Option AV) (S : Nat → It) (id : Nat) (c : p6) (τ : List Nat) : Op → Option Tr
 | .call { callee := .value fo, args, .. } =>
  match (e fo).bind bi1, args.toList.mapM e with
  | some (f, _, _), some xs =>
   if natEq f c.f && aD9 P f && natEq τ.length c.pre.length && decide (c.pre.length ≤ c.post.length) && nodupB (τ ++ List.range' id (c.post.length - c.pre.length)) && c.post.all (fun x => ab7 c.post.length x.ids) && ab7 c.post.length c.res.ids then
    some ⟨ax3 (τ ++ List.range' id (c.post.length - c.pre.length)) c.pre (c.post.map (It.ren (nth (τ ++ List.range' id (c.post.length - c.pre.length))))),
     List.range' id (c.post.length - c.pre.length), c.res.ren (nth (τ ++ List.range' id (c.post.length - c.pre.length))),
     []⟩
   else none
  | _, _ => none
 | _ => none
def aE2 (e : Operand → Option AV) (S : Nat → It) (id : Nat) (c : p6) (τ : List Nat) : Op → List (List AV × List It) × List (List AV × List It)
 | .call { callee := .value fo, args, .. } =>
  match (e fo).bind bi1, args.toList.mapM e with
  | some (_, fst, caps), some xs => ([(fst ++ (xs ++ caps), τ.map S ++ az8 c.pre c.post)], [(AV.renL (nth (τ ++ List.range' id (c.post.length - c.pre.length))) c.args, c.pre.map (It.ren (nth (τ ++ List.range' id (c.post.length - c.pre.length)))) ++ az7 c.pre c.post)])
  | _, _ => ([], [])
 | _ => ([], [])
section
variable {P : Program} {ι : Type} {φ ψ : Nat → Prop} {w0 w w' : World} {F : ι → Rs} {ρ : Nat → Value} {S : Nat → It}
theorem aY8 {S : Nat → It} : ∀ {σ : List Nat} {L : List It} {i j : Nat} {x : It}, σ.Nodup → σ[i]? = some j → L[i]? = some x → v8 S (ak0 σ L) j = x
 | [], _, _, _, _, _, h, _ => by simp at h
 | a :: r, [], _, _, _, _, _, h => by simp at h
 | a :: r, y :: s, 0, j, x, _, h1, h2 => by
  simp at h1 h2
  subst h1 h2
  simp [ak0, v8]
 | a :: r, y :: s, i + 1, j, x, hn, h1, h2 => by
  have h1' : r[i]? = some j := by simpa using h1
  have hne : j ≠ a := fun e => (List.nodup_cons.1 hn).1 (e ▸ bX1 h1')
  simp only [ak0, v8, if_neg hne]
  exact aY8 (List.nodup_cons.1 hn).2 h1' (by simpa using h2)
theorem aY3 : ∀ {σ : List Nat} {L : List It} {j : Nat}, j ∈ (ak0 σ L).map (·.1) → j ∈ σ
 | [], _, _, h => by simp [ak0] at h
 | a :: r, [], _, h => by simp [ak0] at h
 | a :: r, y :: s, j, h => by
  simp only [ak0, bY9, bZ6] at h ⊢
  exact h.imp id aY3
theorem L8 {σ : List Nat} {i j : Nat} (h : σ[i]? = some j) : nth σ i = j := by simp [nth, bW2, h]
theorem ar9 {σ : List Nat} (hn : σ.Nodup) {i j : Nat} (h : σ[i]? = some j) : σ.idxOf j = i := by
 have hl := (bW9.1 h).1
 have hm := bX1 h
 have h1 : σ[σ.idxOf j]? = some j := by
  have := List.idxOf_lt_length_of_mem hm
  rw [bW0 this, List.getElem_idxOf]
 exact (List.getElem?_inj (List.idxOf_lt_length_of_mem hm) hn).1 (h1.trans h.symm)
theorem p6.okPost {c : p6} (hc : c.ok P) (post : List It) (h : ∀ (ρ : Nat → Value) (i : Nat), (w7 post i).res ρ i = (w7 c.post i).res ρ i) : p6.ok P ⟨c.f, c.args, c.pre, post, c.res⟩ := by
 intro ι φ ψ w0 w F ρ M
 refine (hc ι φ ψ w0 w F ρ M).mono ?_
 rintro x w' ⟨ρ', h1, h2, M2⟩
 refine ⟨ρ', h1, h2, ?_⟩
 have e : v9 F ρ' (w7 post) = v9 F ρ' (w7 c.post) := by
  funext k
  cases k with
  | inl i => rfl
  | inr j => exact h ρ' j
 simp only
 rw [e]; exact M2
theorem bC2 {f : It → It} (hf : f .none = .none) (l : List It) (i : Nat) : w7 (l.map f) i = f (w7 l i) := by
 simp only [w7, bW2, List.getElem?_map]
 cases l[i]? with
 | none => exact hf.symm
 | some x => rfl
theorem bm5 (M : s7 φ ψ w0 w (v9 F ρ S)) {o : Oper} {e : Operand → Option AV} {g : Operand → Value} {fo : Operand} {args : Array Operand} {argTypes : Array TypeId} (hop : o.op = .call { callee := .value fo, args := args, argTypes := argTypes })
  (hg : ∀ x ∈ (Op.call { callee := .value fo, args := args, argTypes := argTypes }).operands, ∀ v, e x = some v → g x = v.val ρ) {c : p6} (hc : c.ok P) {fst caps xs : List AV} (hf : (e fo).bind bi1 = some (c.f, fst, caps)) (has : args.toList.mapM e = some xs) {τ σ : List Nat} {id m : Nat} (hm0 : m = c.post.length - c.pre.length) (hσ : τ ++ List.range' id m = σ)
  (hent : aD9 P c.f = true) (hτ : τ.length = c.pre.length) (hle : c.pre.length ≤ c.post.length) (hn : σ.Nodup) (hpost : c.post.all (fun x => ab7 c.post.length x.ids) = true) (hres : ab7 c.post.length c.res.ids = true) (hargs : fst ++ (xs ++ caps) = AV.renL (nth σ) c.args) (hSpre : ∀ i j, i < c.pre.length → σ[i]? = some j → S j = ((w7 c.pre) i).ren (nth σ))
  (L : List (Nat × It)) (hzip : v8 S L = v8 S (ak0 σ (c.post.map (It.ren (nth σ))))) (hi : Inv S ρ (List.range' id m)) : O8 P o g w (N9 φ ψ w0 F ρ S ⟨L, List.range' id m, c.res.ren (nth σ), []⟩) := by
 subst hm0
 have hσl : σ.length = c.post.length := by rw [← hσ, bV4, List.length_range']; omega
 have hmade : ∀ i, c.pre.length ≤ i → ∀ j, σ[i]? = some j → j ∈ List.range' id (c.post.length - c.pre.length) := fun i hi' j hj => by
  rw [← hσ, bZ0 (by omega)] at hj
  exact bX1 hj
 let F' : ι ⊕ Nat → Rs := fun k => match k with | .inl i => F i | .inr j => if memN j σ then Rs.none else (S j).res ρ j
 have M1 : s7 φ ψ w0 w (v9 F' (fun i => ρ (nth σ i)) (w7 c.pre)) := by
  refine M.map (fun k : (ι ⊕ Nat) ⊕ Nat => (match k with | .inl (.inl i) => some (.inl i) | .inl (.inr j) => if memN j σ then none else some (.inr j) | .inr i => if i < c.pre.length then some (.inr (nth σ i)) else none : Option (ι ⊕ Nat))) ?_ ?_
  ·intro k k' x h1 h2
   match k, k' with
   | .inl (.inl i), .inl (.inl i') => simp at h1 h2; subst h1; simpa using h2.symm
   | .inl (.inl i), .inl (.inr j') => simp at h1; subst h1; simp at h2
   | .inl (.inl i), .inr j' => simp at h1; subst h1; simp at h2
   | .inl (.inr j), .inl (.inl i') => simp at h2; subst h2; simp at h1
   | .inr j, .inl (.inl i') => simp at h2; subst h2; simp at h1
   | .inl (.inr j), .inl (.inr j') =>
    simp at h1 h2
    rw [← h1.2] at h2
    rw [Sum.inr.inj h2.2]
   | .inl (.inr j), .inr i' =>
    simp at h1 h2
    rw [← h1.2] at h2
    have hj := Sum.inr.inj h2.2
    have hlt : i' < σ.length := by omega
    have : memN j σ = true := A8.2 (by rw [← hj, L8 (bW0 hlt)]; exact bX2 hlt)
    rw [this] at h1; cases h1.1
   | .inr i, .inl (.inr j') =>
    simp at h1 h2
    rw [← h1.2] at h2
    have hj := Sum.inr.inj h2.2
    have hlt : i < σ.length := by omega
    have : memN j' σ = true := A8.2 (by rw [hj, L8 (bW0 hlt)]; exact bX2 hlt)
    rw [this] at h2; cases h2.1
   | .inr i, .inr i' =>
    simp at h1 h2
    rw [← h1.2] at h2
    have hj := Sum.inr.inj h2.2
    have hlt : i < σ.length := by omega
    have hlt' : i' < σ.length := by omega
    rw [L8 (bW0 hlt), L8 (bW0 hlt')] at hj
    have := (List.getElem?_inj hlt hn).1 ((bW0 hlt).trans (by rw [← hj]; exact (bW0 hlt').symm))
    rw [this]
  ·intro k
   match k with
   | .inl (.inl i) => exact .inl ⟨.inl i, rfl, rfl⟩
   | .inl (.inr j) =>
    cases hm : memN j σ
    ·exact .inl ⟨.inr j, by simp [hm], by simp [v9, F', hm]⟩
    ·exact .inr (by simp [v9, F', hm])
   | .inr i =>
    by_cases hlt : i < c.pre.length
    ·refine .inl ⟨.inr (nth σ i), by simp [hlt], ?_⟩
     have hlt' : i < σ.length := by omega
     have h1 := hSpre i _ hlt (bW0 hlt')
     simp only [v9]
     rw [L8 (bW0 hlt'), h1, ← It.res_ren, L8 (bW0 hlt')]
    ·refine .inr ?_
     simp only [v9, w7, bW2, bY0 (Nat.le_of_not_lt hlt)]
     rfl
 have hcalls := hc _ φ ψ w0 w F' (fun i => ρ (nth σ i)) M1
 obtain ⟨av, hav, hcal⟩ := Option.bind_eq_some_iff.1 hf
 have hgf := hg fo (by simp [Op.operands, Call.operands]) _ hav
 have hga := an2 (ρ := ρ) (g := g) (fun x hx v hv => hg x (by simp [Op.operands, Call.operands]; exact .inr (by simpa using hx)) v hv) has
 have hrun : (execOp g o).run P w = .ok (.enter c.f (AV.vals (fun i => ρ (nth σ i)) c.args).toArray) w := by
  have e1 : (AV.vals ρ fst).toArray ++ args.map g ++ (AV.vals ρ caps).toArray = (AV.vals (fun i => ρ (nth σ i)) c.args).toArray := by
   rw [← AV.vals_ren (ρ := ρ) (σ := nth σ) c.args, ← hargs, AV.vals_append, AV.vals_append, ← hga]
   apply Array.ext'; simp
  simp only [execOp, hop, resolve, Deferred.ofValue, Sem.run_bind, Sem.run_pure, Result.andThen_ok]
  rw [hgf]
  cases av <;> simp only [bi1, Option.some.injEq, Prod.mk.injEq, reduceCtorEq] at hcal
  ·obtain ⟨rfl, rfl, rfl⟩ := hcal
   simp only [AV.val, Sem.run_pure, Result.andThen_ok, invoke]
   simp only [AV.vals] at e1
   rw [e1]
   exact aP7 hent _ _
  ·obtain ⟨rfl, rfl, rfl⟩ := hcal
   simp only [AV.val, Sem.run_pure, Result.andThen_ok, invoke]
   simp only [AV.vals] at e1
   rw [e1]
   exact aP7 hent _ _
 refine .inr (.inr ⟨_, _, _, hrun, hcalls.mono ?_⟩)
 rintro x w' ⟨ρ', h1, rfl, M2⟩
 refine ⟨_, rfl, fun j => if memN j σ then ρ' (σ.idxOf j) else ρ j, ?_, ?_, ?_⟩
 ·intro j hj
  show (if memN j σ then ρ' (σ.idxOf j) else ρ j) = ρ j
  cases hm : memN j σ
  ·rfl
  ·obtain ⟨i, hi'⟩ := List.mem_iff_getElem?.1 (A8.1 hm)
   have hlt : i < c.pre.length := by
    rcases bY6 i c.pre.length with h | h
    ·exact h
    ·exact absurd (hmade i h j hi') hj
   simp only [if_true]
   rw [ar9 hn hi', h1 i hlt, L8 hi']
 ·have hag : ∀ j, j ∉ List.range' id (c.post.length - c.pre.length) → (fun j => if memN j σ then ρ' (σ.idxOf j) else ρ j) j = ρ j := by
   intro j hj
   show (if memN j σ then ρ' (σ.idxOf j) else ρ j) = ρ j
   cases hm : memN j σ
   ·rfl
   ·obtain ⟨i, hi'⟩ := List.mem_iff_getElem?.1 (A8.1 hm)
    have hlt : i < c.pre.length := by
     rcases bY6 i c.pre.length with h | h
     ·exact h
     ·exact absurd (hmade i h j hi') hj
    simp only [if_true]
    rw [ar9 hn hi', h1 i hlt, L8 hi']
  have hρσ : ∀ i, i < c.post.length → (fun j => if memN j σ then ρ' (σ.idxOf j) else ρ j) (nth σ i) = ρ' i := by
   intro i hlt
   have hi' := bW0 (show i < σ.length by omega)
   show (if memN (nth σ i) σ then ρ' (σ.idxOf (nth σ i)) else ρ (nth σ i)) = ρ' i
   rw [L8 hi', A8.2 (bX2 _), if_pos rfl, ar9 hn hi']
  rw [hzip]
  refine M2.map (fun k : ι ⊕ Nat => (match k with | .inl i => some (.inl (.inl i)) | .inr j => if memN j σ then some (.inr (σ.idxOf j)) else some (.inl (.inr j)) : Option ((ι ⊕ Nat) ⊕ Nat))) ?_ ?_
  ·intro k k' x h2 h3
   match k, k' with
   | .inl i, .inl i' => simp at h2 h3; rw [← h2] at h3; simpa using h3.symm
   | .inl i, .inr j => simp at h2; subst h2; simp at h3; split at h3 <;> simp at h3
   | .inr j, .inl i => simp at h3; subst h3; simp at h2; split at h2 <;> simp at h2
   | .inr j, .inr j' =>
    simp only at h2 h3
    cases hm : memN j σ <;> cases hm' : memN j' σ <;> rw [hm] at h2 <;> rw [hm'] at h3 <;> simp at h2 h3 <;> subst h2 <;> simp at h3
    ·rw [h3]
    ·obtain ⟨i, hi1⟩ := List.mem_iff_getElem?.1 (A8.1 hm)
     obtain ⟨i', hi2⟩ := List.mem_iff_getElem?.1 (A8.1 hm')
     rw [ar9 hn hi1, ar9 hn hi2] at h3
     subst h3
     rw [hi1] at hi2; cases hi2; rfl
  ·intro k
   match k with
   | .inl i => exact .inl ⟨_, rfl, rfl⟩
   | .inr j =>
    cases hm : memN j σ
    ·refine .inl ⟨.inl (.inr j), by simp [hm], ?_⟩
     simp only [v9, F', hm]
     rw [at8 fun hh => by have := A8.2 (aY3 hh); rw [hm] at this; cases this]
     exact hi _ hag j
    ·obtain ⟨i, hi'⟩ := List.mem_iff_getElem?.1 (A8.1 hm)
     have hlt : i < c.post.length := by have := (bW9.1 hi').1; omega
     refine .inl ⟨.inr (σ.idxOf j), by simp [hm], ?_⟩
     rw [ar9 hn hi']
     have hx : (c.post.map (It.ren (nth σ)))[i]? = some ((c.post[i]).ren (nth σ)) := by simp [hlt]
     simp only [v9]
     rw [aY8 hn hi' hx]
     conv => lhs; rw [← L8 hi']
     rw [It.res_ren]
     have hl : w7 c.post i = c.post[i] := by simp [w7, bW2, hlt]
     rw [hl]
     exact It.res_congr _ (fun q hq => hρσ q (I3 (bX0.1 hpost _ (bX2 hlt)) q hq)) (.inr (.inr (hρσ i hlt)))
 ·rw [AV.val_ren]
  refine (AV.val_congr _ fun q hq => ?_).symm
  have hlt := I3 hres q hq
  have hi' := bW0 (show q < σ.length by omega)
  show (if memN (nth σ q) σ then ρ' (σ.idxOf (nth σ q)) else ρ (nth σ q)) = ρ' q
  rw [L8 hi', A8.2 (bX2 _), if_pos rfl, ar9 hn hi']
theorem bD9 (M : s7 φ ψ w0 w (v9 F ρ S)) {o : Oper} {e : Operand → Option AV} {g : Operand → Value} (hg : ∀ x ∈ o.op.operands, ∀ v, e x = some v → g x = v.val ρ) {c : p6} (hc : c.ok P) {τ : List Nat} {id : Nat} {r : Tr} (h : aE1 P e S id c τ o.op = some r) (ho : (aE2 e S id c τ o.op).1 = (aE2 e S id c τ o.op).2) (hmk : ∀ j ∈ r.made, S j = .none) (hi : Inv S ρ r.made) :
  O8 P o g w (N9 φ ψ w0 F ρ S r) := by
 cases hop : o.op <;> rw [hop] at h hg ho <;> simp only [aE1] at h <;> first | cases h | skip
 rename_i cl
 obtain ⟨callee, args, argTypes⟩ := cl
 cases callee <;> (try simp only [aE1] at h) <;> first | cases h | skip
 rename_i fo
 split at h
 case h_2 => cases h
 rename_i f fst caps xs hf has
 split at h
 case isFalse => cases h
 rename_i hcond
 cases h
 simp only [aE2, hf, has, List.cons.injEq, Prod.mk.injEq, and_true] at ho
 generalize hσ : τ ++ List.range' id (c.post.length - c.pre.length) = σ at *
 simp only [bV8, decide_eq_true_eq, natEq, beq_iff_eq] at hcond
 obtain ⟨⟨⟨⟨⟨⟨rfl, hent⟩, hτ⟩, hle⟩, hnd⟩, hpost⟩, hres⟩ := hcond
 have hn := ar5 hnd
 obtain ⟨hargs, hpre⟩ := ho
 obtain ⟨hpre, hsame⟩ := List.append_inj hpre (by simp [hτ])
 have hσl : σ.length = c.post.length := by rw [← hσ, bV4, List.length_range']; omega
 have hστ : ∀ i, i < c.pre.length → σ[i]? = τ[i]? := fun i hi' => by rw [← hσ, bX7 (by omega)]
 have hmade : ∀ i, c.pre.length ≤ i → ∀ j, σ[i]? = some j → j ∈ List.range' id (c.post.length - c.pre.length) := fun i hi' j hj => by
  rw [← hσ, bZ0 (by omega)] at hj
  exact bX1 hj
 have hSpre : ∀ i j, i < c.pre.length → σ[i]? = some j → S j = ((w7 c.pre) i).ren (nth σ) := fun i j hi' hj => by
  have h1 : (τ.map S)[i]? = (c.pre.map (It.ren (nth σ)))[i]? := by rw [hpre]
  rw [List.getElem?_map, List.getElem?_map, ← hστ i hi', hj] at h1
  simp only [w7, bW2]
  rw [bW0 hi'] at h1 ⊢
  simpa using h1
 have hc1 : p6.ok P ⟨c.f, c.args, c.pre, c.post.map It.unK, c.res⟩ := p6.okPost hc _ fun ρ i => by rw [bC2 rfl, It.res_unK]
 have hll : (c.post.map It.unK).length = c.post.length := List.length_map It.unK
 refine bm5 M hop hg hc1 hf has (by simp only; rw [hll]) hσ hent hτ (by simp only; omega) hn ?_ (by simp only; rw [hll]; exact hres) hargs hSpre _ ?_ hi
 ·simp only
  rw [hll, List.all_map]
  refine bX0.2 fun x hx => ?_
  simp only [Function.comp, It.ids_unK]
  exact bX0.1 hpost x hx
 ·funext j
  rw [ay5 hn (fun i j p x h1 h2 h3 hk => ?_) j]
  ·simp only [List.map_map]
   congr 3
   funext x
   exact It.unK_ren _ x
  ·have hlt : i < c.pre.length := (bW9.1 h2).1
   rw [hSpre i j hlt h1]
   rw [List.getElem?_map] at h3
   cases hx : c.post[i]? with
   | none => rw [hx] at h3; simp at h3
   | some y =>
    rw [hx] at h3
    simp at h3
    subst h3
    have hk2 : aJ9 p y = true := by
     cases p <;> cases y <;> first | exact hk | (simp [aJ9, It.ren] at hk; done)
    have := aW3 hsame h2 hx hk2
    rw [show w7 c.pre i = p by simp [w7, bW2, h2], this, It.unK_ren]
end
def E2 : List (Nat × AV) → Nat → Option AV
 | [], _ => none
 | (k, x) :: r, t => if natEq t k then some x else E2 r t
abbrev rg (n : Nat) : List Nat := bX4 n
theorem dFf {p : Prop} [Decidable p] (h : decide p = false) : ¬ p := of_decide_eq_false h
theorem dTt {p : Prop} [Decidable p] (h : decide p = true) : p := of_decide_eq_true h
def us : List (Nat × Nat × Nat) → List (Nat × Nat)
 | [] => []
 | (a, b, k) :: r => ((bX4 (b + 1 - a)).map fun i => (a + i, k)) ++ us r
structure W0 where
 calls : List (Nat × p6 × List Nat)
 facts : List (Bool × Bool)
 uses : List (Nat × Nat)
def P0 : List (Nat × p6 × List Nat) → Nat → Option (p6 × List Nat)
 | [], _ => none
 | (k, x) :: r, i => if natEq i k then some x else P0 r i
def bR6 : List (Nat × Nat) → Nat → Option Nat
 | [], _ => none
 | (k, x) :: r, i => if natEq i k then some x else bR6 r i
def bg9 (H : W0) (i : Nat) : Option (Bool × Bool) := (bR6 H.uses i).bind fun k => H.facts[k]?
def U4 : List (Bool × Bool) → Prop
 | [] => True
 | p :: r => p.1 = p.2 ∧ U4 r
theorem a42 : ∀ {l : List (Bool × Bool)} {k : Nat} {p : Bool × Bool}, U4 l → l[k]? = some p → p.1 = p.2
 | [], _, _, _, h => by simp at h
 | q :: r, 0, p, hf, h => by simp at h; subst h; exact hf.1
 | q :: r, k + 1, p, hf, h => a42 hf.2 (by simpa using h)
theorem a34 {H : W0} (hF : U4 H.facts) {i : Nat} {p : Bool × Bool} (h : bg9 H i = some p) : p.1 = p.2 := by
 obtain ⟨k, _, h2⟩ := Option.bind_eq_some_iff.1 h
 exact a42 hF h2
def opT (op : Op) : List Nat := op.operands.toList.filterMap fun | .tmp t => some t | _ => none
def rtm (tm : Nat → Option AV) (l : List Nat) : Nat → Option AV := fun t => if memN t l then tm t else none
def rS (S : Nat → It) (l : List Nat) : Nat → It := fun j => if memN j l then S j else .none
def Y6 (tm : Nat → Option AV) (l : List Nat) : List Nat := (l.filterMap tm).flatMap AV.ids
def tch (tm : Nat → Option AV) (op : Op) : List Nat := match op with
 | .move _ => []
 | .store _ x _ => match ev (rtm tm (opT op)) x with
  | some (.ptr b _) => [b]
  | _ => Y6 tm (opT op)
 | _ => Y6 tm (opT op)
def wk (tm : Nat → Option AV) (op : Op) : List Nat := match op with
 | .store _ x _ => match ev (rtm tm (opT op)) x with
  | some (.ptr _ _) => Y6 tm (opT op)
  | _ => []
 | _ => []
def aU8 (d : Option (Bool × Bool)) (e : Operand → Option AV) : Op → Option Tr
 | .pick c a b =>
  match d, e c with
  | some d, some (.v (.bool _)) => (e (if d.2 then a else b)).map fun r => ⟨[], [], r, []⟩
  | _, _ => none
 | _ => none
def aU9 (d : Option (Bool × Bool)) (e : Operand → Option AV) : Op → List (List AV × List It) × List (List AV × List It)
 | .pick c _ _ =>
  match d, e c with
  | some d, some x => ([([x], [])], [([.v (.bool d.1)], [])])
  | _, _ => ([], [])
 | _ => ([], [])
def aI1 (P : Program) (dk : TypeId → Nat) (H : W0) (tm : Nat → Option AV) (S : Nat → It) (id i : Nat) (op : Op) : Option Tr :=
 match P0 H.calls i with
 | some (c, τ) => aE1 P (ev (rtm tm (opT op))) (rS S (tch tm op ++ τ)) id c τ op
 | none =>
  match aU8 (bg9 H (i + 1000)) (ev (rtm tm (opT op))) op with
  | some r => some r
  | none => au0 P dk (ev (rtm tm (opT op))) (rS S (tch tm op ++ wk tm op)) id op
def ba6 (H : W0) (tm : Nat → Option AV) (S : Nat → It) (id i : Nat) (op : Op) : List (List AV × List It) × List (List AV × List It) :=
 match P0 H.calls i with
 | some (c, τ) => aE2 (ev (rtm tm (opT op))) (rS S (tch tm op ++ τ)) id c τ op
 | none => aU9 (bg9 H (i + 1000)) (ev (rtm tm (opT op))) op
def aG3 (ops : List Oper) (H : W0) (tm : Nat → Option AV) (i : Nat) (o : Oper) : Option (Bool × List AV × List AV) :=
 match o.guard with
 | none => some (true, [], [])
 | some (j, want) =>
  match (ops[j]?).bind (·.dst) with
  | none => none
  | some t =>
   match tm t with
   | some (.v (.bool b)) => (bg9 H i).map fun d => (d.2 == want, [.v (.bool b)], [.v (.bool d.1)])
   | some (.v (.tuple _)) => some (false, [], [])
   | _ => none
def knd : It → Nat
 | .box _ => 1
 | .dat _ => 2
 | .row _ _ => 2
 | .tree _ => 3
 | _ => 0
theorem bP8 (x : It) : itB x = natEq (knd x) 1 := by cases x <;> rfl
theorem bG8 (x : It) : (itD x).isSome = natEq (knd x) 2 := by cases x <;> rfl
theorem bP7 (x : It) : (itT x).isSome = natEq (knd x) 3 := by cases x <;> rfl
section
variable {S S' : Nat → It}
mutual
theorem W4 : ∀ {x : AV}, (∀ j ∈ x.ids, knd (S j) = knd (S' j)) → okc S x = okc S' x
 | .v _, _ => rfl
 | .ptr b _, h => by simp only [okc, bP8]; rw [h b (by simp [AV.ids])]
 | .ea b _ _ _, h => by simp only [okc, bG8]; rw [h b (by simp [AV.ids])]
 | .ref b, h => by simp only [okc, bG8]; rw [h b (by simp [AV.ids])]
 | .fn _ l, h => by simp only [okc]; exact au7 fun j hj => h j (by simpa [AV.ids] using hj)
 | .bm _ l, h => by simp only [okc]; exact P5 fun j hj => h j (by simpa [AV.ids] using hj)
 | .tref b, h => by simp only [okc, bP7]; rw [h b (by simp [AV.ids])]
 | .agg _, _ => rfl
 | .tup _, _ => rfl
theorem au7 : ∀ {l : List AV}, (∀ j ∈ AV.idsL l, knd (S j) = knd (S' j)) → aI2 S l = aI2 S' l
 | [], _ => rfl
 | x :: r, h => by
  simp only [aI2]
  rw [W4 (x := x) fun j hj => h j (by simp [AV.idsL, hj]), au7 (l := r) fun j hj => h j (by simp [AV.idsL, hj])]
theorem P5 : ∀ {l : List AV}, (∀ j ∈ AV.idsL l, knd (S j) = knd (S' j)) → ab4 S l = ab4 S' l
 | [], _ => rfl
 | .agg c :: r, h => by
  simp only [ab4]
  rw [au7 (l := c) fun j hj => h j (by simp [AV.idsL, AV.ids, hj]), P5 (l := r) fun j hj => h j (by simp [AV.idsL, hj])]
 | .v x :: r, h => by
  simp only [ab4]
  rw [W4 (x := .v x) fun j hj => h j (by simp [AV.idsL, hj]), P5 (l := r) fun j hj => h j (by simp [AV.idsL, hj])]
 | .ptr x y :: r, h => by
  simp only [ab4]
  rw [W4 (x := .ptr x y) fun j hj => h j (by simp [AV.idsL, hj]), P5 (l := r) fun j hj => h j (by simp [AV.idsL, hj])]
 | .ea x y z u :: r, h => by
  simp only [ab4]
  rw [W4 (x := .ea x y z u) fun j hj => h j (by simp [AV.idsL, hj]), P5 (l := r) fun j hj => h j (by simp [AV.idsL, hj])]
 | .ref x :: r, h => by
  simp only [ab4]
  rw [W4 (x := .ref x) fun j hj => h j (by simp [AV.idsL, hj]), P5 (l := r) fun j hj => h j (by simp [AV.idsL, hj])]
 | .fn x y :: r, h => by
  simp only [ab4]
  rw [W4 (x := .fn x y) fun j hj => h j (by simp [AV.idsL, hj]), P5 (l := r) fun j hj => h j (by simp [AV.idsL, hj])]
 | .bm x y :: r, h => by
  simp only [ab4]
  rw [W4 (x := .bm x y) fun j hj => h j (by simp [AV.idsL, hj]), P5 (l := r) fun j hj => h j (by simp [AV.idsL, hj])]
 | .tref x :: r, h => by
  simp only [ab4]
  rw [W4 (x := .tref x) fun j hj => h j (by simp [AV.idsL, hj]), P5 (l := r) fun j hj => h j (by simp [AV.idsL, hj])]
 | .tup x :: r, h => by
  simp only [ab4]
  rw [W4 (x := .tup x) fun j hj => h j (by simp [AV.idsL, hj]), P5 (l := r) fun j hj => h j (by simp [AV.idsL, hj])]
end
theorem bs2 {x : AV} (h : ∀ j ∈ x.ids, knd (S j) = knd (S' j)) : aC1 S x = aC1 S' x := by
 cases x <;> simp only [aC1]
 case agg l => exact au7 fun j hj => h j (by simpa [AV.ids] using hj)
 all_goals exact W4 h
theorem bj2 {tm : Nat → Option AV} {l : List Nat} {t : Nat} {y : AV} (ht : t ∈ l) (hy : tm t = some y) {j : Nat} (hj : j ∈ y.ids) : j ∈ Y6 tm l := List.mem_flatMap.2 ⟨y, List.mem_filterMap.2 ⟨t, ht, hy⟩, hj⟩
theorem bp7 {P : Program} {dk : TypeId → Nat} {tm : Nat → Option AV} {op : Op} {id : Nat} (hs : ∀ j ∈ tch tm op, S' j = S j) (hk : ∀ j ∈ wk tm op, knd (S' j) = knd (S j)) : au0 P dk (ev (rtm tm (opT op))) (rS S' (tch tm op ++ wk tm op)) id op = au0 P dk (ev (rtm tm (opT op))) (rS S (tch tm op ++ wk tm op)) id op := by
 have plain : wk tm op = [] → au0 P dk (ev (rtm tm (opT op))) (rS S' (tch tm op ++ wk tm op)) id op = au0 P dk (ev (rtm tm (opT op))) (rS S (tch tm op ++ wk tm op)) id op := fun e => by
  rw [e, List.append_nil]
  have : rS S' (tch tm op) = rS S (tch tm op) := by
   funext j
   unfold rS
   split
   ·rename_i hm; exact hs j (A8.1 hm)
   ·rfl
  rw [this]
 cases op with
 | store t x y =>
  cases hx : ev (rtm tm (opT (.store t x y))) x with
  | none => exact plain (by simp only [wk, hx])
  | some v =>
   cases v with
   | ptr b off =>
    cases hy : ev (rtm tm (opT (.store t x y))) y with
    | none => simp only [au0, al6, hx, hy, ad5]
    | some u =>
     have e1 : tch tm (.store t x y) = [b] := by simp only [tch, hx]
     have e2 : wk tm (.store t x y) = Y6 tm (opT (.store t x y)) := by simp only [wk, hx]
     rw [e1] at hs ⊢
     rw [e2] at hk ⊢
     have e3 : rS S' ([b] ++ Y6 tm (opT (.store t x y))) b = rS S ([b] ++ Y6 tm (opT (.store t x y))) b := by
      unfold rS
      split
      ·exact hs b (by simp)
      ·rfl
     have hyi : ∀ j ∈ u.ids, j ∈ Y6 tm (opT (.store t x y)) := fun j hj => by
      cases y with
      | tmp s =>
       simp only [ev, rtm] at hy
       split at hy
       ·rename_i hm; exact bj2 (A8.1 hm) hy hj
       ·cases hy
      | const c => cases hy; simp [AV.ids, AV.idsL] at hj
      | global g => cases hy <;> simp [AV.ids, AV.idsL] at hj
      | func f => cases hy <;> simp [AV.ids, AV.idsL] at hj
     have e4 : aC1 (rS S' ([b] ++ Y6 tm (opT (.store t x y)))) u = aC1 (rS S ([b] ++ Y6 tm (opT (.store t x y)))) u := bs2 fun j hj => by
      unfold rS
      split
      ·rename_i hm
       rcases bY5.1 (A8.1 hm) with h | h
       ·rw [hs j h]
       ·exact hk j h
      ·rfl
     simp only [au0, ad5, al6, hx, hy, af2, e3, e4]
   | _ => exact plain (by simp only [wk, hx])
 | _ => exact plain rfl
end
section
variable {P : Program} {ι : Type} {φ ψ : Nat → Prop} {w0 w w' : World} {F : ι → Rs} {ρ : Nat → Value} {S : Nat → It}
theorem aq7 {S S' : Nat → It} {j : Nat} (h : S j = S' j) : ∀ (l : List (Nat × It)), v8 S l j = v8 S' l j
 | [] => h
 | (k, x) :: r => by simp only [v8]; split; rfl; exact aq7 h r
theorem O8.frame {o : Oper} {g : Operand → Value} {t : Tr} (l : List Nat) (M : s7 φ ψ w0 w (v9 F ρ S)) (hi : Inv S ρ t.made) (hmk : ∀ j ∈ t.made, S j = .none) (hnew : ∀ j ∈ t.new.map (·.1), j ∈ l ∨ S j = .none)
  (h : ∀ {κ : Type} (F' : κ → Rs), s7 φ ψ w0 w (v9 F' ρ (rS S l)) → Inv (rS S l) ρ t.made → (∀ j ∈ t.made, rS S l j = .none) → O8 P o g w (N9 φ ψ w0 F' ρ (rS S l) t)) : O8 P o g w (N9 φ ψ w0 F ρ S t) := by
 let F' : ι ⊕ Nat → Rs := fun k => match k with | .inl i => F i | .inr j => if memN j l then Rs.none else (S j).res ρ j
 have M1 : s7 φ ψ w0 w (v9 F' ρ (rS S l)) := by
  refine M.map (fun k : (ι ⊕ Nat) ⊕ Nat => (match k with | .inl (.inl i) => some (.inl i) | .inl (.inr j) => if memN j l then none else some (.inr j) | .inr j => if memN j l then some (.inr j) else none : Option (ι ⊕ Nat))) ?_ ?_
  ·intro k k' x h1 h2
   match k, k' with
   | .inl (.inl i), .inl (.inl i') => simp at h1 h2; subst h1; simpa using h2.symm
   | .inl (.inl i), .inl (.inr j') => simp at h1; subst h1; simp at h2
   | .inl (.inl i), .inr j' => simp at h1; subst h1; simp at h2
   | .inl (.inr j), .inl (.inl i') => simp at h2; subst h2; simp at h1
   | .inr j, .inl (.inl i') => simp at h2; subst h2; simp at h1
   | .inl (.inr j), .inl (.inr j') => simp at h1 h2; rw [← h1.2] at h2; rw [Sum.inr.inj h2.2]
   | .inl (.inr j), .inr j' =>
    simp at h1 h2
    rw [← h1.2] at h2
    have := Sum.inr.inj h2.2
    subst this
    rw [h1.1] at h2; cases h2.1
   | .inr j, .inl (.inr j') =>
    simp at h1 h2
    rw [← h1.2] at h2
    have := Sum.inr.inj h2.2
    subst this
    rw [h1.1] at h2; cases h2.1
   | .inr j, .inr j' => simp at h1 h2; rw [← h1.2] at h2; rw [Sum.inr.inj h2.2]
  ·intro k
   match k with
   | .inl (.inl i) => exact .inl ⟨.inl i, rfl, rfl⟩
   | .inl (.inr j) =>
    cases hm : memN j l
    ·exact .inl ⟨.inr j, by simp [hm], by simp [v9, F', hm]⟩
    ·exact .inr (by simp [v9, F', hm])
   | .inr j =>
    cases hm : memN j l
    ·exact .inr (by simp [v9, rS, hm, It.res])
    ·exact .inl ⟨.inr j, by simp [hm], by simp [v9, rS, hm]⟩
 have hi1 : Inv (rS S l) ρ t.made := fun ρ' ha j => by
  unfold rS
  split
  ·exact hi ρ' ha j
  ·rfl
 refine (h F' M1 hi1 fun j hj => by unfold rS; split; exact hmk j hj; rfl).mono ?_
 rintro v w' ⟨ρ', ha, M2, rfl⟩
 refine ⟨ρ', ha, ?_, rfl⟩
 refine M2.map (fun k : ι ⊕ Nat => (match k with | .inl i => some (.inl (.inl i)) | .inr j => if memN j l || memN j (t.new.map (·.1)) then some (.inr j) else some (.inl (.inr j)) : Option ((ι ⊕ Nat) ⊕ Nat))) ?_ ?_
 ·intro k k' x h1 h2
  match k, k' with
  | .inl i, .inl i' => simp at h1 h2; rw [← h1] at h2; simpa using h2.symm
  | .inl i, .inr j => simp only at h1 h2; cases h1; split at h2 <;> simp at h2
  | .inr j, .inl i => simp only at h1 h2; cases h2; split at h1 <;> simp at h1
  | .inr j, .inr j' =>
   simp only at h1 h2
   split at h1 <;> split at h2 <;> simp at h1 h2 <;> subst h1 <;> simp at h2 <;> rw [h2]
 ·intro k
  match k with
  | .inl i => exact .inl ⟨_, rfl, rfl⟩
  | .inr j =>
   cases hc : (memN j l || memN j (t.new.map (·.1)))
   ·refine .inl ⟨.inl (.inr j), by simp only [hc]; rfl, ?_⟩
    simp only [Bool.or_eq_false_iff] at hc
    simp only [v9, F', hc.1]
    rw [at8 fun hh => by rw [A8.2 hh] at hc; cases hc.2]
    exact hi ρ' ha j
   ·refine .inl ⟨.inr j, by simp only [hc, if_true], ?_⟩
    simp only [v9]
    cases hm : memN j l
    ·rw [hm] at hc
     simp only [Bool.false_or] at hc
     rcases hnew j (A8.1 hc) with h1 | h1
     ·rw [A8.2 h1] at hm; cases hm
     ·rw [aq7 (S := rS S l) (S' := S) (by unfold rS; rw [hm, h1]; rfl)]
    ·rw [aq7 (S := rS S l) (S' := S) (by unfold rS; rw [hm]; rfl)]
theorem bc1 {tm : Nat → Option AV} {l : List Nat} {a : Act} {x : Operand} {v : AV} (ht : ∀ t y, t ∈ l → tm t = some y → a.tmps[t]? = some (y.val ρ)) (h : ev (rtm tm l) x = some v) : a.eval x = v.val ρ := by
 cases x with
 | tmp t =>
  simp only [ev, rtm] at h
  split at h
  ·rename_i hm
   have := ht t v (A8.1 hm) h
   simp [Act.eval, Array.getD_eq_getD_getElem?, this]
  ·cases h
 | const c => cases h; rfl
 | global g => cases h; rfl
 | func f => cases h; rfl
theorem bA5 (M : s7 φ ψ w0 w (v9 F ρ S)) {o : Oper} {e : Operand → Option AV} {g : Operand → Value} (hg : ∀ x, ∀ v, e x = some v → g x = v.val ρ) {d : Option (Bool × Bool)} {r : Tr} (h : aU8 d e o.op = some r) (hd : ∀ p, d = some p → p.1 = p.2) (he : (aU9 d e o.op).1 = (aU9 d e o.op).2) : O8 P o g w (N9 φ ψ w0 F ρ S r) := by
 cases hop : o.op <;> rw [hop] at h he <;> simp only [aU8] at h <;> first | cases h | skip
 rename_i c a b
 split at h
 case h_2 => cases h
 rename_i d' x hx
 obtain ⟨v, h1, h2⟩ := bW4.1 h
 subst h2
 simp only [aU9, hx, List.cons.injEq, Prod.mk.injEq, and_true, AV.v.injEq, Value.bool.injEq] at he
 have hc := hg c _ hx
 have hv := hg _ _ h1
 have hx2 : x = d'.2 := he.trans (hd d' rfl)
 refine .inl ⟨v.val ρ, w, ?_, ρ, H0.refl _ _, M, rfl⟩
 simp only [execOp, hop, hc, AV.val, hx2]
 cases hdd : d'.2 <;> rw [hdd] at hv <;> simp [asBool] at hv ⊢ <;> exact hv
def bP1 (l : List Nat) (made : List Nat) (t : Tr) : Bool := t.new.all fun p => memN p.1 l || memN p.1 made
theorem a17 (M : s7 φ ψ w0 w (v9 F ρ S)) {dk : TypeId → Nat} {H : W0} (hH : ∀ i c τ, P0 H.calls i = some (c, τ) → c.ok P) (hF : U4 H.facts) {tm : Nat → Option AV} {a : Act} {o : Oper} (ht : ∀ t y, t ∈ opT o.op → tm t = some y → a.tmps[t]? = some (y.val ρ)) {id i : Nat} {r : Tr} (h : aI1 P dk H tm S id i o.op = some r) (ho : C4 r.obs) (he : (ba6 H tm S id i o.op).1 = (ba6 H tm S id i o.op).2) (hmk : ∀ j ∈ r.made, S j = .none) (hi : Inv S ρ r.made)
  (hnew : ∀ j ∈ r.new.map (·.1), j ∈ tch tm o.op ++ (match P0 H.calls i with | some (_, τ) => τ | none => []) ∨ j ∈ r.made) :
  O8 P o a.eval w (N9 φ ψ w0 F ρ S r) := by
 unfold aI1 at h
 unfold ba6 at he
 split at h
 ·rename_i c τ hcl
  rw [hcl] at hnew he
  refine O8.frame (tch tm o.op ++ τ) M hi hmk (fun j hj => (hnew j hj).imp (fun h => h) (hmk j)) fun F' M' hi' hmk' => ?_
  exact bD9 M' (e := ev (rtm tm (opT o.op))) (fun x _ v hv => bc1 ht hv) (hH i c τ hcl) h he hmk' hi'
 ·rename_i hcl
  rw [hcl] at hnew he
  refine O8.frame (tch tm o.op ++ wk tm o.op) M hi hmk (fun j hj => (hnew j hj).imp (fun h => List.mem_append_left _ (by simpa using h)) (hmk j)) fun F' M' hi' hmk' => ?_
  split at h
  ·rename_i q hq
   cases h
   exact bA5 M' (e := ev (rtm tm (opT o.op))) (fun x v hv => bc1 ht hv) hq (fun p hp => a34 hF hp) he
  ·exact bp8 M' (e := ev (rtm tm (opT o.op))) (fun x _ v hv => bc1 ht hv) h ho hmk' hi'
theorem at7 {ops : List Oper} {H : W0} (hF : U4 H.facts) {tm : Nat → Option AV} {i : Nat} {o : Oper} {a : Act} {b : Bool} {l r : List AV} (h : aG3 ops H tm i o = some (b, l, r)) (ho : l = r)
  (ht : ∀ t y, (∃ j wnt, o.guard = some (j, wnt) ∧ (ops[j]?).bind (·.dst) = some t) → tm t = some y → a.tmps[t]? = some (y.val ρ)) : Region.wanted o (yielded ops.toArray a.tmps) = b := by
 unfold aG3 at h
 unfold Region.wanted
 cases hg : o.guard with
 | none => rw [hg] at h; cases h; rfl
 | some q =>
  obtain ⟨j, want⟩ := q
  rw [hg] at h
  simp only at h ⊢
  split at h
  case h_1 => cases h
  rename_i t hd
  have hy : ∀ y, tm t = some y → a.tmps[t]? = some (y.val ρ) := fun y hy => ht t y ⟨j, want, hg, hd⟩ hy
  unfold yielded
  rw [show ((ops.toArray[j]?).bind (·.dst)).bind (a.tmps[·]?) = a.tmps[t]? by simp only [List.getElem?_toArray, hd]; rfl]
  split at h
  ·rename_i x b' hb
   rw [hy _ hb]
   obtain ⟨d, h1, h2⟩ := bW4.1 h
   cases h2
   simp only [List.cons.injEq, AV.v.injEq, Value.bool.injEq, and_true] at ho
   simp only [AV.val]
   rw [ho, a34 hF h1]
   rfl
  ·rename_i x b' hb
   rw [hy _ hb]
   cases h
   rfl
  ·cases h
end
structure Ac where
 dst : Option Nat
 t : Tr
 want : Bool
 rt : List Nat
 ri : List Nat
 eqs : List (List AV × List It) × List (List AV × List It)
 eqw : List AV × List AV
 rk : List Nat
def bK0 : Tr := ⟨[], [], .v undef, []⟩
def ba0 (dst : Option Nat) (x : AV) (tm : List (Nat × AV)) : List (Nat × AV) :=
 match dst with
 | some d => (d, x) :: tm
 | none => tm
def aM8 (dst : Option Nat) (x : AV) (tm : Nat → Option AV) : Nat → Option AV := fun t => if dst = some t then some x else tm t
def bw7 (N : Nat) (dst : Option Nat) : Bool := match dst with | some d => decide (d < N) | none => true
def a40 (n : Nat) (t : Tr) : Bool :=
 t.new.all (fun p => decide (p.1 < n + 8) && ab7 (n + 8) p.2.ids) && t.made.all (fun j => decide (n ≤ j) && decide (j < n + 8)) && ab7 (n + 8) t.res.ids
def aW4 (ops : List Oper) (o : Oper) : List Nat :=
 match o.guard with
 | some (j, _) => ((ops[j]?).bind (·.dst)).toList
 | none => []
def bi0 (H : W0) (i : Nat) : List Nat := match P0 H.calls i with
 | some (_, τ) => τ
 | none => []
def opA (P : Program) (dk : TypeId → Nat) (N : Nat) (ops : List Oper) (H : W0) (i : Nat) (o : Oper) (tm : Nat → Option AV) (S : Nat → It) (n : Nat) : Option (Ac × List Prop) :=
 if bw7 N o.dst then
  match aG3 ops H tm i o with
  | none => none
  | some (false, l, r) => some (⟨o.dst, bK0, false, aW4 ops o, [], ([], []), (l, r), []⟩, [])
  | some (true, l, r) =>
   match aI1 P dk H tm S n i o.op with
   | none => none
   | some t =>
    if a40 n t && bP1 (tch tm o.op ++ bi0 H i) t.made t then some (⟨o.dst, t, true, opT o.op ++ aW4 ops o, tch tm o.op ++ bi0 H i, ba6 H tm S n i o.op, (l, r), wk tm o.op⟩, t.obs) else none
 else none
structure RS where
 acts : List Ac
 obs : List Prop
 tm : List (Nat × AV)
 S : Nat → It
def Z8 (P : Program) (dk : TypeId → Nat) (N : Nat) (ops : List Oper) (H : W0) : List Oper → Nat → List (Nat × AV) → (Nat → It) → Nat → Option RS
 | [], _, tm, S, _ => some ⟨[], [], tm, S⟩
 | o :: r, i, tm, S, n =>
  match opA P dk N ops H i o (E2 tm) S n with
  | none => none
  | some (a, ob) =>
   match Z8 P dk N ops H r (i + 1) (ba0 a.dst a.t.res tm) (v8 S a.t.new) (n + 8) with
   | none => none
   | some s => some ⟨a :: s.acts, ob ++ s.obs, s.tm, s.S⟩
section
variable {P : Program} {ι : Type} {φ ψ : Nat → Prop} {w0 w w' : World} {F : ι → Rs} {ρ : Nat → Value} {S : Nat → It} {N m n : Nat} {ρ0 : Nat → Value}
structure Inn (φ ψ : Nat → Prop) (w0 : World) (F : ι → Rs) (N m : Nat) (ρ0 : Nat → Value) (n : Nat) (ρ : Nat → Value) (tm : Nat → Option AV) (S : Nat → It) (a : Act) (w : World) : Prop where
 size : a.tmps.size = N
 defs : a.defers = []
 tmv : ∀ t x, tm t = some x → a.tmps[t]? = some (x.val ρ)
 tmi : ∀ t x, tm t = some x → ∀ id ∈ x.ids, id < n
 bd : ∀ j, (∀ id ∈ (S j).ids, id < n) ∧ (n ≤ j → S j = .none)
 mem : s7 φ ψ w0 w (v9 F ρ S)
 le : m ≤ n
 old : ∀ i, i < m → ρ i = ρ0 i
theorem Inn.inv {tm : Nat → Option AV} {a : Act} (I : Inn φ ψ w0 F N m ρ0 n ρ tm S a w) {mk : List Nat} (h : ∀ j ∈ mk, n ≤ j) : Inv S ρ mk := fun ρ' ha j => by
 have hlt : ∀ id, id < n → ρ' id = ρ id := fun id hid => ha id fun hm => by have := h id hm; omega
 refine It.res_congr _ (fun id hid => hlt id ((I.bd j).1 id hid)) ?_
 rcases bY6 j n with hj | hj
 ·exact .inr (.inr (hlt j hj))
 ·exact .inl ((I.bd j).2 hj)
theorem aP2 {dst : Option Nat} {x : AV} {tm : List (Nat × AV)} : E2 (ba0 dst x tm) = aM8 dst x (E2 tm) := by
 funext t
 cases dst with
 | none => simp [ba0, aM8]
 | some d =>
  simp only [ba0, E2, aM8, natEq]
  by_cases h : t = d
  ·subst h; simp
  ·simp [h, Ne.symm h]
theorem ai9 {t : Tr} (h : a40 n t = true) : (∀ p ∈ t.new, p.1 < n + 8 ∧ ∀ id ∈ p.2.ids, id < n + 8) ∧ (∀ j ∈ t.made, n ≤ j ∧ j < n + 8) ∧ ∀ id ∈ t.res.ids, id < n + 8 := by
 simp only [a40, bV8] at h
 refine ⟨fun p hp => ?_, fun j hj => ?_, I3 h.2⟩
 ·have := bX0.1 h.1.1 p hp
  simp only [bV8, decide_eq_true_eq] at this
  exact ⟨this.1, I3 this.2⟩
 ·have := bX0.1 h.1.2 j hj
  simpa using this
theorem bz2 {l : List (Nat × It)} {m : Nat} (hS : ∀ j, (∀ id ∈ (S j).ids, id < m) ∧ (m ≤ j → S j = .none)) (h : ∀ p ∈ l, p.1 < m ∧ ∀ id ∈ p.2.ids, id < m) : ∀ j, (∀ id ∈ (v8 S l j).ids, id < m) ∧ (m ≤ j → v8 S l j = .none) := by
 induction l with
 | nil => exact hS
 | cons p r ih =>
  obtain ⟨k, x⟩ := p
  intro j
  have hp := h (k, x) bX6
  simp only at hp
  simp only [v8]
  by_cases e : j = k
  ·rw [if_pos e]
   exact ⟨hp.2, fun hm => by omega⟩
  ·rw [if_neg e]
   exact ih (fun p hp => h p (bX9 _ hp)) j
theorem a08 (a : Act) (dst : Option Nat) (v : Value) : (a.put dst v).tmps.size = a.tmps.size := by cases dst <;> simp [Act.put]
theorem a09 (a : Act) (dst : Option Nat) (v : Value) : (a.put dst v).defers = a.defers := by cases dst <;> simp [Act.put]
theorem br8 {a : Act} {dst : Option Nat} {v : Value} {t : Nat} (h : bw7 a.tmps.size dst = true) : (a.put dst v).tmps[t]? = if dst = some t then some v else a.tmps[t]? := by
 cases dst with
 | none => simp [Act.put]
 | some d =>
  have hd : d < a.tmps.size := by simpa [bw7] using h
  simp only [Act.put, Option.some.injEq]
  rw [Array.getElem?_setIfInBounds]
  by_cases e : d = t
  ·subst e; simp [hd]
  ·simp [e]
theorem Inn.next {tm : Nat → Option AV} {a : Act} (I : Inn φ ψ w0 F N m ρ0 n ρ tm S a w) {t : Tr} {dst : Option Nat} (hd : bw7 N dst = true) (hf : a40 n t = true) {ρ' : Nat → Value} (ha : H0 t.made ρ ρ') (M : s7 φ ψ w0 w' (v9 F ρ' (v8 S t.new))) :
  Inn φ ψ w0 F N m ρ0 (n + 8) ρ' (aM8 dst t.res tm) (v8 S t.new) (a.put dst (t.res.val ρ')) w' := by
 obtain ⟨h1, h2, h3⟩ := ai9 hf
 have hlt : ∀ id, id < n → ρ' id = ρ id := fun id hid => ha id fun hm => by have := (h2 id hm).1; omega
 refine ⟨(a08 _ _ _).trans I.size, (a09 _ _ _).trans I.defs, fun s x hx => ?_, fun s x hx => ?_, bz2 (fun j => ⟨fun id hid => by have := (I.bd j).1 id hid; omega, fun hj => (I.bd j).2 (by omega)⟩) h1, M, by have := I.le; omega, fun i hi => (hlt i (by have := I.le; omega)).trans (I.old i hi)⟩
 ·rw [br8 (by rw [I.size]; exact hd)]
  simp only [aM8] at hx
  split
  ·rename_i e; rw [if_pos e] at hx; cases hx; rfl
  ·rename_i e
   rw [if_neg e] at hx
   rw [I.tmv s x hx, AV.val_congr x fun id hid => hlt id (I.tmi s x hx id hid)]
 ·simp only [aM8] at hx
  split at hx
  ·cases hx; exact h3
  ·intro id hid; have := I.tmi s x hx id hid; omega
theorem bJ6 {dk : TypeId → Nat} {H : W0} (hH : ∀ i c τ, P0 H.calls i = some (c, τ) → c.ok P) (hF : U4 H.facts) {ops : List Oper} {i : Nat} {o : Oper} {tm : Nat → Option AV} {a : Act} (I : Inn φ ψ w0 F N m ρ0 n ρ tm S a w) {ac : Ac} {obs : List Prop} (h : opA P dk N ops H i o tm S n = some (ac, obs)) (ho : C4 obs) (he : ac.eqs.1 = ac.eqs.2) (hw' : ac.eqw.1 = ac.eqw.2)
  {Q : Exit → Act → World → Prop} {rest : List Oper} (hk : ∀ ρ' w', H0 ac.t.made ρ ρ' → s7 φ ψ w0 w' (v9 F ρ' (v8 S ac.t.new)) → wpList P ops.toArray Q rest (a.put o.dst (ac.t.res.val ρ')) w') : wpList P ops.toArray Q (o :: rest) a w := by
 unfold opA at h
 split at h
 case isFalse => cases h
 rename_i hd
 split at h
 case h_1 => cases h
 ·rename_i l r hw
  cases h
  refine be9 (at7 (ρ := ρ) hF hw hw' fun t y _ hy => I.tmv t y hy) ?_
  exact hk ρ w (H0.refl _ _) (by simpa [bK0, v8] using I.mem)
 ·rename_i l r hw
  split at h
  case h_1 => cases h
  rename_i t ht
  split at h
  case isFalse => cases h
  rename_i hf
  cases h
  simp only [bV8] at hf
  obtain ⟨h1, h2, h3⟩ := ai9 hf.1
  refine O8.wp (at7 (ρ := ρ) hF hw hw' fun t y _ hy => I.tmv t y hy) ?_
  refine (a17 I.mem hH hF (fun t y _ hy => I.tmv t y hy) ht ho he (fun j hj => (I.bd j).2 (h2 j hj).1) (I.inv fun j hj => (h2 j hj).1) (fun j hj => ?_)).mono ?_
  ·obtain ⟨p, hp, rfl⟩ := List.mem_map.1 hj
   have := bX0.1 hf.2 p hp
   simp only [Bool.or_eq_true] at this
   exact this.imp A8.1 A8.1
  ·rintro v w' ⟨ρ', p1, p2, rfl⟩
   exact hk ρ' w' p1 p2
theorem aV3 {dk : TypeId → Nat} {H : W0} {ops : List Oper} {i : Nat} {o : Oper} {tm : Nat → Option AV} {ac : Ac} {obs : List Prop} (h : opA P dk N ops H i o tm S n = some (ac, obs)) : ac.dst = o.dst ∧ bw7 N o.dst = true ∧ a40 n ac.t = true := by
 unfold opA at h
 split at h
 case isFalse => cases h
 rename_i hd
 split at h
 case h_1 => cases h
 ·cases h; exact ⟨rfl, hd, rfl⟩
 ·split at h
  case h_1 => cases h
  split at h
  case isFalse => cases h
  rename_i hf
  cases h
  simp only [bV8] at hf
  exact ⟨rfl, hd, hf.1⟩
theorem bf1 {dk : TypeId → Nat} {H : W0} (hH : ∀ i c τ, P0 H.calls i = some (c, τ) → c.ok P) (hF : U4 H.facts) {ops : List Oper} {Q : Exit → Act → World → Prop} : ∀ (l : List Oper) (i n : Nat) {tm : List (Nat × AV)} {S : Nat → It} {ρ : Nat → Value} {a : Act} {w : World} {r : RS}, Inn φ ψ w0 F N m ρ0 n ρ (E2 tm) S a w → Z8 P dk N ops H l i tm S n = some r → C4 r.obs → r.acts.map (·.eqs.1) = r.acts.map (·.eqs.2) → r.acts.map (·.eqw.1) = r.acts.map (·.eqw.2) →
  (∀ ρ' a' w' n', Inn φ ψ w0 F N m ρ0 n' ρ' (E2 r.tm) r.S a' w' → Q .normal a' w') → wpList P ops.toArray Q l a w
 | [], i, n, tm, S, ρ, a, w, r, I, h, _, _, _, hk => by cases h; exact hk _ _ _ _ I
 | o :: l, i, n, tm, S, ρ, a, w, r, I, h, ho, he, hw', hk => by
  simp only [Z8] at h
  split at h
  case h_1 => cases h
  rename_i ac ob h1
  split at h
  case h_1 => cases h
  rename_i s h2
  cases h
  simp only [C4.append] at ho
  simp only [bY9, List.cons.injEq] at he hw'
  obtain ⟨q1, q2, q3⟩ := aV3 h1
  refine bJ6 hH hF I h1 ho.1 he.1 hw'.1 fun ρ' w' ha M => ?_
  have I' : Inn φ ψ w0 F N m ρ0 (n + 8) ρ' (E2 (ba0 ac.dst ac.t.res tm)) (v8 S ac.t.new) (a.put o.dst (ac.t.res.val ρ')) w' := by
   rw [aP2, q1]
   exact I.next q2 q3 ha M
  exact bf1 hH hF l (i + 1) (n + 8) I' h2 ho.2 he.2 hw'.2 hk
end
section
variable {P : Program}
structure ag3 (wr w : World) (S : Nat → Prop) : Prop where
 below : Below wr.heap.size wr w
 box : ∀ b, S b → wr.heap.size ≤ b ∧ b < w.heap.size
theorem ag3.start (w : World) : ag3 w w.drew fun _ => False := ⟨(Below.refl _ _).drew, fun _ h => h.elim⟩
theorem ag3.call {wr w w' : World} {S : Nat → Prop} (h : ag3 wr w S) (b : Below w.heap.size w w') : ag3 wr w' S := ⟨h.below.trans (b.mono h.below.size), fun c hc => ⟨(h.box c hc).1, bY4 (h.box c hc).2 b.size⟩⟩
theorem ag3.new {wr w w' : World} {S : Nat → Prop} (h : ag3 wr w S) (b : Below w.heap.size w w') (hs : w.heap.size < w'.heap.size) : ag3 wr w' fun c => S c ∨ c = w.heap.size :=
 ⟨h.below.trans (b.mono h.below.size), fun c hc => by
  rcases hc with hc | rfl
  ·exact ⟨(h.box c hc).1, bY4 (h.box c hc).2 b.size⟩
  ·exact ⟨h.below.size, hs⟩⟩
def RF (φ S : Nat → Prop) (b : Nat) : Prop := φ b ∧ ¬ S b
theorem ag3.fresh {wr w : World} {S φ : Nat → Prop} (h : ag3 wr w S) (hf : ∀ b, wr.heap.size ≤ b → φ b) : ∀ b, w.heap.size ≤ b → RF φ S b := fun b hb => ⟨hf b (bX8 h.below.size hb), fun hs => by have := (h.box b hs).2; omega⟩
theorem ag3.old {wr w : World} {S φ : Nat → Prop} (h : ag3 wr w S) {R : World → (Nat → Prop) → Prop} (hn : aj4 R) (hr : R wr φ) : R w (RF φ S) :=
 hn _ _ _ _ ⟨h.below.size, fun b hb hf => ⟨⟨hf, fun hs => by have := (h.box b hs).1; omega⟩, h.below.block b hb⟩⟩ hr
end
theorem C2.region {φ ψ : Nat → Prop} {w0 wr w : World} {L : List Y5} {S : Nat → Prop} (M : C2 φ ψ w0 wr L) (hg : ag3 wr w S) {g : Nat} {cs : List Value} (hb : Blk w g cs) (hs : S g) : C2 φ ψ w0 w (L ++ [.box g cs]) :=
 M.add hg.below _ hb fun g' h => by cases h; exact (hg.box _ hs).1
theorem RF.app {φ S : Nat → Prop} {L : List Y5} {b : Nat} (h : RF (Fr φ L) S b) (X : List Y5) (hX : ∀ r ∈ X, ∀ g, r.blk g → S g) : Fr φ (L ++ X) b :=
 ⟨h.1.1, fun r hr he => by
  rcases bY5.1 hr with hr | hr
  ·exact h.1.2 r hr he
  ·exact h.2 (hX r hr b he)⟩
section
variable {P : Program}
def am3 (ops : Array Oper) : Bool := (bX4 ops.size).all fun j => (ops[j]?).any fun o => o.after.all fun e => !Region.binds .any e || decide (e.on < j)
theorem aM0 {ops : Array Oper} (hb : am3 ops = true) {k : Nat} {o : Oper} (hk : k < ops.size) (ho : ops[k]? = some o) {e : Edge} (he : e ∈ o.after) (hbi : Region.binds .any e = true) : e.on < k := by
 have h1 := bX0.1 hb k (List.mem_range.2 hk)
 rw [ho] at h1
 simp only [Option.any_some] at h1
 have h2 := Array.all_eq_true'.1 h1 e he
 rw [hbi] at h2
 simpa using h2
theorem aZ4 {ops : Array Oper} (hb : am3 ops = true) {listed : Array Bool} (hsz : listed.size = ops.size) : ∀ k, k < ops.size → listed.getD k true = false → Region.ready .any ops listed ≠ [] := by
 intro k
 induction k using Nat.strongRecOn with
 | _ k ih =>
  intro hk hl hn
  by_cases hall : ∃ j, j < k ∧ listed.getD j true = false
  ·obtain ⟨j, hj, hlj⟩ := hall
   exact ih j hj (by omega) hlj hn
  ·have hok : ops[k]? = some ops[k] := Array.getElem?_eq_getElem hk
   have : k ∈ Region.ready .any ops listed := by
    refine mem_ready.2 ⟨hl, ops[k], hok, fun e he hbi => ?_⟩
    have h2 := aM0 hb hk hok he hbi
    cases h3 : listed.getD e.on true
    ·exact absurd ⟨e.on, h2, h3⟩ hall
    ·have : e.on < listed.size := by omega
     simp [this] at h3 ⊢
     exact h3
   rw [hn] at this
   cases this
theorem bh0 {a : Array Bool} {j : Nat} (h : j < a.size) : a.getD j true = a.getD j false := by simp [h]
end
def pf {β : Type} (wr : Ac → Option β) : List Ac → Nat → (Nat → Bool) → β → β
 | [], _, _, v => v
 | a :: r, k, B, v => pf wr r (k + 1) B (match wr a with | some x => if B k then x else v | none => v)
theorem W8 {β : Type} {wr : Ac → Option β} {B B' : Nat → Bool} : ∀ {az : List Ac} {k : Nat} {v : β}, (∀ j a, az[j]? = some a → (wr a).isSome = true → B (k + j) = B' (k + j)) → pf wr az k B v = pf wr az k B' v
 | [], _, _, _ => rfl
 | a :: r, k, v, h => by
  simp only [pf]
  have h0 := h 0 a rfl
  have hr : ∀ j b, r[j]? = some b → (wr b).isSome = true → B (k + 1 + j) = B' (k + 1 + j) := fun j b hb hw => by
   have := h (j + 1) b (by simpa using hb) hw
   rw [show k + (j + 1) = k + 1 + j by omega] at this; exact this
  cases hw : wr a with
  | none => exact W8 hr
  | some x =>
   rw [hw] at h0
   simp only [bZ5, Option.isSome_some, forall_const] at h0
   rw [h0]
   exact W8 hr
theorem ad6 {β : Type} {wr : Ac → Option β} {B : Nat → Bool} : ∀ {az : List Ac} {k : Nat} {v : β}, (∀ j a, az[j]? = some a → (wr a).isSome = true → B (k + j) = false) → pf wr az k B v = v
 | [], _, _, _ => rfl
 | a :: r, k, v, h => by
  simp only [pf]
  have h0 := h 0 a rfl
  have hr : ∀ j b, r[j]? = some b → (wr b).isSome = true → B (k + 1 + j) = false := fun j b hb hw => by
   have := h (j + 1) b (by simpa using hb) hw
   rw [show k + (j + 1) = k + 1 + j by omega] at this; exact this
  rw [ad6 hr]
  cases hw : wr a with
  | none => rfl
  | some x =>
   rw [hw] at h0
   simp only [bZ5, Option.isSome_some, forall_const] at h0
   simp [h0]
theorem aV0 {β : Type} {wr : Ac → Option β} {B : Nat → Bool} : ∀ {az : List Ac} {k i : Nat} {v x : β} {a : Ac}, az[i]? = some a → wr a = some x → B (k + i) = true → (∀ j b, i < j → az[j]? = some b → (wr b).isSome = true → B (k + j) = false) → pf wr az k B v = x
 | [], _, _, _, _, _, h, _, _, _ => by simp at h
 | b :: r, k, 0, v, x, a, h, hw, hB, hn => by
  simp at h; subst h
  simp only [pf, hw]
  rw [bZ5] at hB
  rw [hB, if_pos rfl]
  refine ad6 fun j c hc hs => ?_
  have := hn (j + 1) c (by omega) (by simpa using hc) hs
  rw [show k + (j + 1) = k + 1 + j by omega] at this; exact this
 | b :: r, k, i + 1, v, x, a, h, hw, hB, hn => by
  simp only [pf]
  refine aV0 (i := i) (by simpa using h) hw (by rw [show k + 1 + i = k + (i + 1) by omega]; exact hB) fun j c hj hc hs => ?_
  have := hn (j + 1) c (by omega) (by simpa using hc) hs
  rw [show k + (j + 1) = k + 1 + j by omega] at this; exact this
theorem au4 {β : Type} {wr : Ac → Option β} {B : Nat → Bool} (p : β → Prop) : ∀ {az : List Ac} {k : Nat} {v : β}, p v → (∀ j a x, az[j]? = some a → B (k + j) = true → wr a = some x → p x) → p (pf wr az k B v)
 | [], _, _, h, _ => h
 | a :: r, k, v, h, hs => by
  simp only [pf]
  refine au4 p ?_ fun j b x hb hB hw => hs (j + 1) b x (by simpa using hb) (by rw [show k + (j + 1) = k + 1 + j by omega]; exact hB) hw
  cases hw : wr a with
  | none => exact h
  | some x =>
   simp only
   split
   ·rename_i hB; exact hs 0 a x rfl (by simpa using hB) hw
   ·exact h
def aK4 : List (Nat × It) → Nat → Option It
 | [], _ => none
 | (k, x) :: r, i => if i = k then some x else aK4 r i
theorem ay6 (S : Nat → It) (i : Nat) : ∀ (l : List (Nat × It)), v8 S l i = match aK4 l i with | some x => x | none => S i
 | [] => rfl
 | (k, x) :: r => by simp only [v8, aK4]; split; rfl; exact ay6 S i r
theorem V6 {l : List (Nat × It)} {i : Nat} {x : It} (h : aK4 l i = some x) : (i, x) ∈ l := by
 induction l with
 | nil => cases h
 | cons p r ih =>
  obtain ⟨k, y⟩ := p
  simp only [aK4] at h
  split at h
  ·rename_i e; cases h; rw [e]; exact bX6
  ·exact bX9 _ (ih h)
def wrT (t : Nat) (a : Ac) : Option (Option AV) := if a.dst = some t then some (some a.t.res) else none
def wrS (i : Nat) (a : Ac) : Option It := aK4 a.t.new i
def tmD (az : List Ac) (B : Nat → Bool) (tm : Nat → Option AV) : Nat → Option AV := fun t => pf (wrT t) az 0 B (tm t)
def sD (az : List Ac) (B : Nat → Bool) (S : Nat → It) : Nat → It := fun i => pf (wrS i) az 0 B (S i)
def bef (ms : List Nat) (j i : Nat) : Bool := (nth ms i).testBit j
def ba9 (ms : List Nat) (o : Oper) : Nat := o.after.foldl (fun s e => if Region.binds .any e then s ||| (2 ^ e.on ||| nth ms e.on) else s) 0
def aV5 (ms : List Nat) (l : List Oper) : Bool := (bX4 l.length).all fun i => match l[i]? with | some o => natEq (nth ms i) (ba9 ms o) | none => false
def aj5 (a b : Ac) : Bool :=
 (match b.dst with | some t => memN t a.rt || (match a.dst with | some s => natEq s t | none => false) | none => false) ||
 b.t.new.any (fun p => memN p.1 a.ri || a.t.new.any fun q => natEq q.1 p.1)
def bJ4 (ms : List Nat) (az : List Ac) : Bool :=
 (bX4 az.length).all fun i => (bX4 az.length).all fun j =>
  match az[i]?, az[j]? with
  | some a, some b => natEq i j || !aj5 a b || (if decide (j < i) then bef ms j i else bef ms i j)
  | _, _ => false
def bC7 (S : Nat → It) (az : List Ac) (j : Nat) : Nat := match az.findSome? (wrS j) with
 | some x => knd x
 | none => knd (S j)
def bp0 (ms : List Nat) (S : Nat → It) (az : List Ac) : Bool :=
 (bX4 az.length).all fun i =>
  match az[i]? with
  | some a => a.rk.all fun j => az.all (fun b => match wrS j b with | some x => natEq (knd x) (bC7 S az j) | none => true) && (natEq (knd (S j)) (bC7 S az j) || (bX4 i).any fun k => bef ms k i && match az[k]? with | some b => (wrS j b).isSome | none => false)
  | none => true
theorem bf3 {β : Type} {wr : Ac → Option β} {B : Nat → Bool} (p : β → Prop) : ∀ {az : List Ac} {k : Nat} {v : β}, (∀ (j : Nat) (a : Ac) (x : β), az[j]? = some a → wr a = some x → p x) → (p v ∨ ∃ (j : Nat) (a : Ac), az[j]? = some a ∧ (wr a).isSome = true ∧ B (k + j) = true) → p (pf wr az k B v)
 | [], _, _, _, h => by rcases h with h | ⟨j, a, h, _⟩; exact h; simp at h
 | a :: r, k, v, hs, h => by
  simp only [pf]
  refine bf3 p (fun j b x hb => hs (j + 1) b x (by simpa using hb)) ?_
  rcases h with h | ⟨j, b, h1, h2, h3⟩
  ·left
   cases hw : wr a with
   | none => exact h
   | some x =>
    simp only
    split
    ·exact hs 0 a x rfl hw
    ·exact h
  ·cases j with
   | zero =>
    left
    simp at h1; subst h1
    obtain ⟨x, hx⟩ := bZ4.1 h2
    rw [hx]
    rw [bZ5] at h3
    simp only [h3, if_true]
    exact hs 0 _ x rfl hx
   | succ j =>
    right
    exact ⟨j, b, by simpa using h1, h2, by rw [show k + 1 + j = k + (j + 1) by omega]; exact h3⟩
theorem be6 {ms : List Nat} {S : Nat → It} {az : List Ac} (h : bp0 ms S az = true) {i : Nat} {a : Ac} (ha : az[i]? = some a) {j : Nat} (hj : j ∈ a.rk) {B : Nat → Bool} (hB : ∀ k, k < i → bef ms k i = true → B k = true) : knd (pf (wrS j) az 0 B (S j)) = bC7 S az j := by
 have hi := (bW9.1 ha).1
 have h1 := bX0.1 h i (List.mem_range.2 hi)
 rw [ha] at h1
 have h2 := bX0.1 h1 j hj
 simp only [bV8, Bool.or_eq_true] at h2
 refine bf3 (fun x => knd x = bC7 S az j) (fun q b x hb hx => ?_) ?_
 ·have := bX0.1 h2.1 b (bX1 hb)
  rw [hx] at this
  simpa [natEq] using this
 ·rcases h2.2 with h3 | h3
  ·left; simpa [natEq] using h3
  ·right
   obtain ⟨k, hk, h4⟩ := List.any_eq_true.1 h3
   rw [List.mem_range] at hk
   simp only [bV8] at h4
   cases hb : az[k]? with
   | none => rw [hb] at h4; cases h4.2
   | some b =>
    rw [hb] at h4
    exact ⟨k, b, hb, h4.2, by rw [bZ2]; exact hB k hk h4.1⟩
def bt8 (ms : List Nat) (n0 : Nat) (az : List Ac) : Bool :=
 (bX4 az.length).all fun i =>
  match az[i]? with
  | some a => (a.t.res.ids ++ a.t.new.map (·.1) ++ a.t.new.flatMap (fun p => p.2.ids)).all fun id => decide (id < n0) || natEq ((id - n0) / 8) i || bef ms ((id - n0) / 8) i
  | none => false
section
variable {P : Program} {ι : Type} {φ ψ : Nat → Prop} {w0 w w' : World} {F : ι → Rs} {ρ : Nat → Value} {S : Nat → It} {N n : Nat}
theorem as1 {α β : Type} {f g : α → Option β} : ∀ {l : List α}, (∀ x ∈ l, f x = g x) → l.filterMap f = l.filterMap g
 | [], _ => rfl
 | a :: r, h => by rw [List.filterMap_cons, List.filterMap_cons, h a bX6, as1 fun x hx => h x (bX9 _ hx)]
theorem aB3 {ops : List Oper} {H : W0} {tm tm' : Nat → Option AV} {i : Nat} {o : Oper} (h : ∀ t ∈ aW4 ops o, tm' t = tm t) : aG3 ops H tm' i o = aG3 ops H tm i o := by
 unfold aG3
 unfold aW4 at h
 cases hg : o.guard with
 | none => rfl
 | some q =>
  obtain ⟨j, want⟩ := q
  rw [hg] at h
  simp only at h ⊢
  cases hd : (ops[j]?).bind (·.dst) with
  | none => rfl
  | some t =>
   rw [hd] at h
   simp only at h ⊢
   rw [h t (by simp)]
theorem bk6 {dk : TypeId → Nat} {H : W0} {ops : List Oper} {i : Nat} {o : Oper} {tm tm' : Nat → Option AV} {S S' : Nat → It} {ac : Ac} {ob : List Prop} (h : opA P dk N ops H i o tm S n = some (ac, ob)) (ht : ∀ t ∈ ac.rt, tm' t = tm t) (hs : ∀ j ∈ ac.ri, S' j = S j) (hk : ∀ j ∈ ac.rk, knd (S' j) = knd (S j)) : opA P dk N ops H i o tm' S' n = some (ac, ob) := by
 unfold opA at h ⊢
 split at h
 case isFalse => cases h
 rename_i hd
 rw [if_pos hd]
 cases hw : aG3 ops H tm i o with
 | none => rw [hw] at h; cases h
 | some q =>
  obtain ⟨b, lq, rq⟩ := q
  rw [hw] at h
  cases b
  ·simp only at h
   cases h
   rw [aB3 (tm := tm) ht, hw]
  ·simp only at h
   cases hr : aI1 P dk H tm S n i o.op with
   | none => rw [hr] at h; cases h
   | some t =>
    rw [hr] at h
    simp only at h
    split at h
    case isFalse => cases h
    rename_i hf
    cases h
    simp only at ht hs hk
    rw [aB3 (tm := tm) fun t ht' => ht t (List.mem_append_right _ ht'), hw]
    have e1 : rtm tm' (opT o.op) = rtm tm (opT o.op) := by
     funext t
     unfold rtm
     split
     ·rename_i hm; exact ht t (List.mem_append_left _ (A8.1 hm))
     ·rfl
    have e2 : tch tm' o.op = tch tm o.op := by
     have e9 : Y6 tm' (opT o.op) = Y6 tm (opT o.op) := by
      unfold Y6
      congr 1
      exact as1 fun t ht' => ht t (List.mem_append_left _ ht')
     cases ho' : o.op <;> simp only [tch] <;> rw [← ho'] <;> first | rw [e1, e9] | exact e9
    have e8 : wk tm' o.op = wk tm o.op := by
     have e9 : Y6 tm' (opT o.op) = Y6 tm (opT o.op) := by
      unfold Y6
      congr 1
      exact as1 fun t ht' => ht t (List.mem_append_left _ ht')
     cases ho' : o.op <;> simp only [wk] <;> rw [← ho', e1, e9]
    have e3 : aI1 P dk H tm' S' n i o.op = aI1 P dk H tm S n i o.op := by
     unfold aI1
     cases hc : P0 H.calls i with
     | none =>
      simp only
      rw [e1, e2, e8, bp7 (fun j hj => hs j (List.mem_append_left _ hj)) hk]
     | some q =>
      obtain ⟨c, τ⟩ := q
      simp only
      rw [e1, e2]
      congr 1
      funext j
      unfold rS
      split
      ·rename_i hm
       refine hs j ?_
       unfold bi0
       rw [hc]; exact A8.1 hm
      ·rfl
    have e4 : ba6 H tm' S' n i o.op = ba6 H tm S n i o.op := by
     unfold ba6
     cases hc : P0 H.calls i with
     | none => simp only; rw [e1]
     | some q =>
      obtain ⟨c, τ⟩ := q
      simp only
      rw [e1, e2]
      congr 1
      funext j
      unfold rS
      split
      ·rename_i hm
       refine hs j ?_
       unfold bi0
       rw [hc]; exact A8.1 hm
      ·rfl
    rw [e3, hr, e4]
    simp only
    rw [e2, e8, if_pos hf]
theorem bA8 {dk : TypeId → Nat} {H : W0} (hH : ∀ i c τ, P0 H.calls i = some (c, τ) → c.ok P) (hF : U4 H.facts) {ops : List Oper} {i : Nat} {o : Oper} {tm : Nat → Option AV} {a : Act} (hv : ∀ t x, tm t = some x → a.tmps[t]? = some (x.val ρ)) (M : s7 φ ψ w0 w (v9 F ρ S)) {ac : Ac} {obs : List Prop} (h : opA P dk N ops H i o tm S n = some (ac, obs)) (ho : C4 obs) (he : ac.eqs.1 = ac.eqs.2) (hw' : ac.eqw.1 = ac.eqw.2)
  (hmk : ∀ j ∈ ac.t.made, S j = .none) (hi : Inv S ρ ac.t.made)
  {Q : Exit → Act → World → Prop} {rest : List Oper} (hk : ∀ ρ' w', H0 ac.t.made ρ ρ' → s7 φ ψ w0 w' (v9 F ρ' (v8 S ac.t.new)) → wpList P ops.toArray Q rest (a.put o.dst (ac.t.res.val ρ')) w') : wpList P ops.toArray Q (o :: rest) a w := by
 unfold opA at h
 split at h
 case isFalse => cases h
 rename_i hd
 split at h
 case h_1 => cases h
 ·rename_i l r hw
  cases h
  refine be9 (at7 (ρ := ρ) hF hw hw' fun t y _ hy => hv t y hy) ?_
  exact hk ρ w (H0.refl _ _) (by simpa [bK0, v8] using M)
 ·rename_i l r hw
  split at h
  case h_1 => cases h
  rename_i t ht
  split at h
  case isFalse => cases h
  rename_i hf
  cases h
  simp only [bV8] at hf
  refine O8.wp (at7 (ρ := ρ) hF hw hw' fun t y _ hy => hv t y hy) ?_
  refine (a17 M hH hF (fun t y _ hy => hv t y hy) ht ho he hmk hi (fun j hj => ?_)).mono ?_
  ·obtain ⟨p, hp, rfl⟩ := List.mem_map.1 hj
   have := bX0.1 hf.2 p hp
   simp only [Bool.or_eq_true] at this
   exact this.imp A8.1 A8.1
  ·rintro v w' ⟨ρ', p1, p2, rfl⟩
   exact hk ρ' w' p1 p2
theorem bf2 {dk : TypeId → Nat} {H : W0} {ops : List Oper} : ∀ (l : List Oper) (i n : Nat) {tm : List (Nat × AV)} {S : Nat → It} {r : RS}, Z8 P dk N ops H l i tm S n = some r → C4 r.obs →
  r.acts.length = l.length ∧ (∀ t, E2 r.tm t = pf (wrT t) r.acts i (fun _ => true) (E2 tm t)) ∧ (∀ j, r.S j = pf (wrS j) r.acts i (fun _ => true) (S j)) ∧
  ∀ k o, l[k]? = some o → ∃ ac ob, r.acts[k]? = some ac ∧ C4 ob ∧ opA P dk N ops H (i + k) o (fun t => pf (wrT t) r.acts i (fun j => decide (j < i + k)) (E2 tm t)) (fun j => pf (wrS j) r.acts i (fun q => decide (q < i + k)) (S j)) (n + 8 * k) = some (ac, ob)
 | [], i, n, tm, S, r, h, _ => by cases h; exact ⟨rfl, fun _ => rfl, fun _ => rfl, fun k o h => by simp at h⟩
 | o :: l, i, n, tm, S, r, h, ho => by
  simp only [Z8] at h
  split at h
  case h_1 => cases h
  rename_i ac ob h1
  split at h
  case h_1 => cases h
  rename_i s h2
  cases h
  simp only [C4.append] at ho
  obtain ⟨k1, k2, k3, k4⟩ := bf2 l (i + 1) (n + 8) h2 ho.2
  have eT : ∀ t, E2 (ba0 ac.dst ac.t.res tm) t = match wrT t ac with | some x => x | none => E2 tm t := fun t => by
   rw [aP2]
   simp only [aM8, wrT]
   split <;> rfl
  have eS : ∀ j, v8 S ac.t.new j = match wrS j ac with | some x => x | none => S j := fun j => ay6 S j _
  refine ⟨by simp [k1], fun t => ?_, fun j => ?_, fun k o' hk => ?_⟩
  ·rw [k2 t, eT]; simp only [pf]; cases wrT t ac <;> rfl
  ·rw [k3 j, eS]; simp only [pf]; cases wrS j ac <;> rfl
  ·cases k with
   | zero =>
    simp at hk; subst hk
    refine ⟨ac, ob, rfl, ho.1, ?_⟩
    have e1 : (fun t => pf (wrT t) (ac :: s.acts) i (fun j => decide (j < i + 0)) (E2 tm t)) = E2 tm := by
     funext t; exact ad6 fun j a _ _ => by simp
    have e2 : (fun j => pf (wrS j) (ac :: s.acts) i (fun q => decide (q < i + 0)) (S j)) = S := by
     funext j; exact ad6 fun j a _ _ => by simp
    rw [e1, e2]; exact h1
   | succ k =>
    obtain ⟨ac', ob', m1, m2, m3⟩ := k4 k o' (by simpa using hk)
    refine ⟨ac', ob', by simpa using m1, m2, ?_⟩
    have hi : decide (i < i + (k + 1)) = true := by simp
    have e1 : (fun t => pf (wrT t) (ac :: s.acts) i (fun j => decide (j < i + (k + 1))) (E2 tm t)) = fun t => pf (wrT t) s.acts (i + 1) (fun j => decide (j < i + 1 + k)) (E2 (ba0 ac.dst ac.t.res tm) t) := by
     funext t
     rw [eT]
     simp only [pf, hi, if_true]
     rw [show i + (k + 1) = i + 1 + k by omega]
     cases wrT t ac <;> rfl
    have e2 : (fun j => pf (wrS j) (ac :: s.acts) i (fun q => decide (q < i + (k + 1))) (S j)) = fun j => pf (wrS j) s.acts (i + 1) (fun q => decide (q < i + 1 + k)) (v8 S ac.t.new j) := by
     funext j
     rw [eS]
     simp only [pf, hi, if_true]
     rw [show i + (k + 1) = i + 1 + k by omega]
     cases wrS j ac <;> rfl
    rw [e1, e2, show i + (k + 1) = i + 1 + k by omega, show n + 8 * (k + 1) = n + 8 + 8 * k by omega]
    exact m3
def bz0 (l : List Oper) (B : Nat → Bool) : Prop := ∀ j o, l[j]? = some o → B j = true → ∀ e ∈ o.after, Region.binds .any e = true → B e.on = true
theorem aI8 {ms : List Nat} {o : Oper} {j : Nat} (h : (ba9 ms o).testBit j = true) : ∃ e ∈ o.after, Region.binds .any e = true ∧ (e.on = j ∨ bef ms j e.on = true) := by
 unfold ba9 at h
 rw [← Array.foldl_toList] at h
 have key : ∀ (es : List Edge) (s : Nat), (es.foldl (fun s e => if Region.binds .any e then s ||| (2 ^ e.on ||| nth ms e.on) else s) s).testBit j = true → s.testBit j = true ∨ ∃ e ∈ es, Region.binds .any e = true ∧ (e.on = j ∨ bef ms j e.on = true) := by
  intro es
  induction es with
  | nil => intro s h; exact .inl h
  | cons e r ih =>
   intro s h
   simp only [List.foldl_cons] at h
   rcases ih _ h with h1 | ⟨e', he', h2⟩
   ·split at h1
    ·rename_i hb
     simp only [Nat.testBit_or, Bool.or_eq_true, Nat.testBit_two_pow, decide_eq_true_eq] at h1
     rcases h1 with h1 | h1 | h1
     ·exact .inl h1
     ·exact .inr ⟨e, bX6, hb, .inl h1⟩
     ·exact .inr ⟨e, bX6, hb, .inr h1⟩
    ·exact .inl h1
   ·exact .inr ⟨e', bX9 _ he', h2⟩
 rcases key _ _ h with h1 | ⟨e, he, h2⟩
 ·simp at h1
 ·exact ⟨e, by simpa using he, h2⟩
theorem aL9 {ms : List Nat} {l : List Oper} (hm : aV5 ms l = true) (hb : am3 l.toArray = true) {B : Nat → Bool} (hc : bz0 l B) : ∀ i, i < l.length → B i = true → ∀ j, bef ms j i = true → B j = true := by
 intro i
 induction i using Nat.strongRecOn with
 | _ i ih =>
  intro hi hB j hj
  have h1 := bX0.1 hm i (List.mem_range.2 hi)
  rw [bW0 hi] at h1
  simp only [natEq, beq_iff_eq] at h1
  unfold bef at hj
  rw [h1] at hj
  obtain ⟨e, he, h2, h3⟩ := aI8 hj
  have h4 := hc i _ (bW0 hi) hB e he h2
  have h5 := aM0 hb (show i < l.toArray.size by simpa using hi) (show l.toArray[i]? = some l[i] by simp [hi]) he h2
  rcases h3 with rfl | h3
  ·exact h4
  ·exact ih e.on h5 (by omega) h4 j h3
theorem bn8 {ms : List Nat} {l : List Oper} (hm : aV5 ms l = true) (hb : am3 l.toArray = true) {B : Nat → Bool} (hc : bz0 l B) {i : Nat} {o : Oper} (ho : l[i]? = some o) (hr : ∀ e ∈ o.after, Region.binds .any e = true → B e.on = true) {j : Nat} (hj : bef ms j i = true) : B j = true := by
 have hi := (bW9.1 ho).1
 have h1 := bX0.1 hm i (List.mem_range.2 hi)
 rw [ho] at h1
 simp only [natEq, beq_iff_eq] at h1
 unfold bef at hj
 rw [h1] at hj
 obtain ⟨e, he, h2, h3⟩ := aI8 hj
 have h5 := aM0 hb (show i < l.toArray.size by simpa using hi) (show l.toArray[i]? = some o by simpa using ho) he h2
 rcases h3 with rfl | h3
 ·exact hr e he h2
 ·exact aL9 hm hb hc e.on (by omega) (hr e he h2) j h3
end
section
variable {P : Program} {ι : Type} {φ ψ : Nat → Prop} {w0 w w' : World} {F : ι → Rs} {ρ : Nat → Value} {S : Nat → It} {N m n : Nat} {ρ0 : Nat → Value}
theorem a84 {l : List Oper} {Q : Exit → Act → World → Prop} (I : Array Bool → Act → World → Prop) (hb : am3 l.toArray = true)
  (step : ∀ listed a w, I listed a w → ∀ i o, l[i]? = some o → listed.getD i true = false → (∀ e ∈ o.after, Region.binds .any e = true → listed.getD e.on false = true) →
   ∀ Q' : Exit → Act → World → Prop, (∀ a w, I (listed.setIfInBounds i true) a w → Q' .normal a w) → wpList P l.toArray Q' [o] a w)
  (done : ∀ listed a w, I listed a w → (∀ j, j < l.length → listed.getD j true = true) → Q .normal a w) :
  ∀ (fuel : Nat) (listed : Array Bool) (a : Act) (w : World), listed.size = l.toArray.size → listed.toList.count false = fuel → I listed a w → wpAny P .any l.toArray Q fuel listed a w := by
 have hfin : ∀ (listed : Array Bool) (a : Act) (w : World), listed.size = l.toArray.size → Region.ready .any l.toArray listed = [] → I listed a w → Q .normal a w := by
  intro listed a w hsz hr hI
  refine done listed a w hI fun j hj => ?_
  cases hl : listed.getD j true
  ·exact absurd hr (aZ4 hb hsz j (by simpa using hj) hl)
  ·rfl
 intro fuel
 induction fuel with
 | zero =>
  intro listed a w hsz hc hI
  have hr : Region.ready .any l.toArray listed = [] := by
   rw [List.eq_nil_iff_forall_not_mem]
   intro j hj
   have := aw5 (mem_ready.1 hj).1
   omega
  exact ⟨hr, hfin listed a w hsz hr hI⟩
 | succ f ih =>
  intro listed a w hsz hc hI
  refine ⟨fun hr => hfin listed a w hsz hr hI, fun i hi => ?_⟩
  obtain ⟨h1, o, ho, h2⟩ := mem_ready.1 hi
  have ho' : l[i]? = some o := by simpa using ho
  have hcl := aw5 h1
  have hs := step listed a w hI i o ho' h1 h2 (fun e a w => e = .normal ∧ I (listed.setIfInBounds i true) a w) fun a w h => ⟨rfl, h⟩
  unfold wpOp
  rw [ho]
  simp only
  unfold wpList at hs
  split
  ·rename_i hw
   rw [if_pos hw] at hs
   rcases hs with hs | ⟨_, a, w, he, _⟩
   ·exact .inl (bi9 (fun _ _ _ h => h.1) (Oper.wp_mono (fun a' w' h => ih _ a' w' (by simpa using hsz) (by omega) h.2) hs))
   ·cases he
  ·rename_i hw
   rw [if_neg hw] at hs
   exact ih _ _ _ (by simpa using hsz) (by omega) hs.2
theorem aG2 {id : Nat} {l : List Oper} {Q : Exit → Act → World → Prop} {a : Act} {w : World} (I : Array Bool → Act → World → Prop) (hm : P.follows .mixedOrders = true) (hb : am3 l.toArray = true)
  (h0 : I (Array.replicate l.length false) a w.drew)
  (step : ∀ listed a w, I listed a w → ∀ i o, l[i]? = some o → listed.getD i true = false → (∀ e ∈ o.after, Region.binds .any e = true → listed.getD e.on false = true) →
   ∀ Q' : Exit → Act → World → Prop, (∀ a w, I (listed.setIfInBounds i true) a w → Q' .normal a w) → wpList P l.toArray Q' [o] a w)
  (done : ∀ listed a w, I listed a w → (∀ j, j < l.length → listed.getD j true = true) → Q .normal a w) : (Code.region id l.toArray true).wp P Q a w :=
 wp_region_any hm (a84 I hb step done _ _ _ _ (by simp) (by simp) (by simpa using h0))
def RI (φ ψ : Nat → Prop) (w0 : World) (F : ι → Rs) (N m : Nat) (ρ0 : Nat → Value) (l : List Oper) (az : List Ac) (tm : Nat → Option AV) (S : Nat → It) (listed : Array Bool) (a : Act) (w : World) : Prop :=
 listed.size = l.length ∧ bz0 l (fun j => listed.getD j false) ∧ ∃ ρ, (∀ i, i < m → ρ i = ρ0 i) ∧ a.tmps.size = N ∧ a.defers = [] ∧ (∀ t x, tmD az (fun j => listed.getD j false) tm t = some x → a.tmps[t]? = some (x.val ρ)) ∧ s7 φ ψ w0 w (v9 F ρ (sD az (fun j => listed.getD j false) S))
theorem ba5 {ms : List Nat} {az : List Ac} (h : bJ4 ms az = true) {i j : Nat} {a b : Ac} (ha : az[i]? = some a) (hb : az[j]? = some b) (hij : i ≠ j) (hm : aj5 a b = true) : (j < i → bef ms j i = true) ∧ (i < j → bef ms i j = true) := by
 have hi := (bW9.1 ha).1
 have hj := (bW9.1 hb).1
 have h1 := bX0.1 (bX0.1 h i (List.mem_range.2 hi)) j (List.mem_range.2 hj)
 rw [ha, hb] at h1
 have hne : natEq i j = false := by simp [natEq, hij]
 simp only [hne, hm, Bool.not_true, Bool.false_or] at h1
 constructor
 ·intro hlt; rw [if_pos (by simpa using hlt)] at h1; exact h1
 ·intro hlt; rw [if_neg (by simp; omega)] at h1; exact h1
theorem bf9 {ms : List Nat} {n0 : Nat} {az : List Ac} (h : bt8 ms n0 az = true) {i : Nat} {a : Ac} (ha : az[i]? = some a) : ∀ id, (id ∈ a.t.res.ids ∨ id ∈ a.t.new.map (·.1) ∨ ∃ p ∈ a.t.new, id ∈ p.2.ids) → id < n0 ∨ (id - n0) / 8 = i ∨ bef ms ((id - n0) / 8) i = true := by
 intro id hid
 have hi := (bW9.1 ha).1
 have h1 := bX0.1 h i (List.mem_range.2 hi)
 rw [ha] at h1
 have h2 := bX0.1 h1 id (by
  rcases hid with h | h | ⟨p, hp, h⟩
  ·exact List.mem_append_left _ (List.mem_append_left _ h)
  ·exact List.mem_append_left _ (List.mem_append_right _ h)
  ·exact List.mem_append_right _ (List.mem_flatMap.2 ⟨p, hp, h⟩))
 simp only [Bool.or_eq_true, decide_eq_true_eq, natEq, beq_iff_eq] at h2
 rcases h2 with (h2 | h2) | h2
 ·exact .inl h2
 ·exact .inr (.inl h2)
 ·exact .inr (.inr h2)
theorem aS9 {dk : TypeId → Nat} {H : W0} (hH : ∀ i c τ, P0 H.calls i = some (c, τ) → c.ok P) (hF : U4 H.facts) {l : List Oper} {id : Nat} {Q : Exit → Act → World → Prop} {tm : List (Nat × AV)} {a : Act} {wr : World} (I0 : Inn φ ψ w0 F N m ρ0 n ρ (E2 tm) S a wr) {r : RS} (hrun : Z8 P dk N l H l 0 tm S n = some r) (ho : C4 r.obs) (heq : r.acts.map (·.eqs.1) = r.acts.map (·.eqs.2)) (hew : r.acts.map (·.eqw.1) = r.acts.map (·.eqw.2))
  (ms : List Nat) (hm : P.follows .mixedOrders = true) (hb : am3 l.toArray = true) (hms : aV5 ms l = true) (hord : bJ4 ms r.acts = true) (hment : bt8 ms n r.acts = true) (hweak : bp0 ms S r.acts = true)
  (done : ∀ ρ' a' w' n', Inn φ ψ w0 F N m ρ0 n' ρ' (E2 r.tm) r.S a' w' → Q .normal a' w') : (Code.region id l.toArray true).wp P Q a wr := by
 obtain ⟨hlen, hfT, hfS, hat⟩ := bf2 l 0 n hrun ho
 have hmt : ∀ (i : Nat) ac, r.acts[i]? = some ac → ∀ t b, b.dst = some t → t ∈ ac.rt → aj5 ac b = true := fun i ac _ t b hb ht => by
  simp [aj5, hb, A8.2 ht]
 have hmd : ∀ ac b t, ac.dst = some t → b.dst = some t → aj5 ac b = true := fun ac b t h1 h2 => by
  simp [aj5, h1, h2, natEq]
 have hms' : ∀ (ac b : Ac) (j : Nat), j ∈ ac.ri → j ∈ b.t.new.map (·.1) → aj5 ac b = true := fun ac b j h1 h2 => by
  obtain ⟨p, hp, rfl⟩ := List.mem_map.1 h2
  unfold aj5
  have : b.t.new.any (fun p => memN p.1 ac.ri || ac.t.new.any fun q => natEq q.1 p.1) = true := List.any_eq_true.2 ⟨p, hp, by simp [A8.2 h1]⟩
  rw [this]; simp
 have hmn : ∀ (ac b : Ac) (j : Nat), j ∈ ac.t.new.map (·.1) → j ∈ b.t.new.map (·.1) → aj5 ac b = true := fun ac b j h1 h2 => by
  obtain ⟨p, hp, rfl⟩ := List.mem_map.1 h2
  obtain ⟨q, hq, e⟩ := List.mem_map.1 h1
  unfold aj5
  have : b.t.new.any (fun p => memN p.1 ac.ri || ac.t.new.any fun q => natEq q.1 p.1) = true := List.any_eq_true.2 ⟨p, hp, by
   have : ac.t.new.any (fun q => natEq q.1 p.1) = true := List.any_eq_true.2 ⟨q, hq, by simp [natEq, e]⟩
   rw [this]; simp⟩
  rw [this]; simp
 refine aG2 (RI φ ψ w0 F N m ρ0 l r.acts (E2 tm) S) hm hb ?_ ?_ ?_
 ·refine ⟨by simp, fun j o _ hj => ?_, ρ, I0.old, I0.size, I0.defs, fun t x hx => ?_, ?_⟩
  ·have hj' : (Array.replicate l.length false).getD j false = true := hj
   rw [getD_replicate_false] at hj'; cases hj'
  ·refine I0.tmv t x ?_
   rw [← hx]
   exact (ad6 fun j b _ _ => getD_replicate_false _ _).symm
  ·have e : sD r.acts (fun j => (Array.replicate l.length false).getD j false) S = S := by
    funext j; exact ad6 fun j b _ _ => getD_replicate_false _ _
   rw [e]; exact I0.mem.drew
 ·rintro listed a w ⟨hsz, hdn, ρ, hold, hN, hdf, hv, M⟩ i o hoi hun hdep Q' hQ
  generalize hB : (fun j => listed.getD j false) = B at *
  have hBj : ∀ j, B j = listed.getD j false := fun j => by rw [← hB]
  have hil := (bW9.1 hoi).1
  have hBi : B i = false := by
   rw [hBj, ← bh0 (by omega)]; exact hun
  obtain ⟨ac, ob, hac, hob, hop⟩ := hat i o hoi
  simp only [bZ2] at hop
  have heqi : ac.eqs.1 = ac.eqs.2 := by
   have := congrArg (·[i]?) heq
   simpa [hac] using this
  have hewi : ac.eqw.1 = ac.eqw.2 := by
   have := congrArg (·[i]?) hew
   simpa [hac] using this
  obtain ⟨hdst, hdN, hfine⟩ := aV3 hop
  obtain ⟨hf1, hf2, hf3⟩ := ai9 hfine
  have hdep' : ∀ e ∈ o.after, Region.binds .any e = true → B e.on = true := fun e he hbi => by rw [hBj]; exact hdep e he hbi
  have ahead : ∀ j, bef ms j i = true → B j = true := fun j hj => bn8 hms hb hdn hoi hdep' hj
  have behind : ∀ j, j < l.length → bef ms i j = true → B j = false := fun j hjl hj => by
   cases h : B j
   ·rfl
   ·have := aL9 hms hb hdn j hjl h i hj
    rw [hBi] at this; cases this
  have hagree : ∀ (j : Nat) b, r.acts[j]? = some b → aj5 ac b = true → B j = decide (j < i) := fun j b hj hmm => by
   have hjl : j < l.length := by have := (bW9.1 hj).1; omega
   rcases Nat.lt_trichotomy j i with h | h | h
   ·rw [ahead j ((ba5 hord hac hj (by omega) hmm).1 h)]; simp [h]
   ·subst h; rw [hBi]; simp
   ·rw [behind j hjl ((ba5 hord hac hj (by omega) hmm).2 h)]
    have : ¬ j < i := by omega
    simp [this]
  have hop2 := bk6 hop (tm' := tmD r.acts B (E2 tm)) (S' := sD r.acts B S) (fun t ht => W8 fun j b hj hw => by
    rw [bZ2]
    refine hagree j b hj (hmt i ac hac t b ?_ ht)
    unfold wrT at hw
    split at hw
    ·assumption
    ·cases hw)
   (fun q hq => W8 fun j b hj hw => by
    rw [bZ2]
    obtain ⟨x, hx⟩ := bZ4.1 hw
    exact hagree j b hj (hms' ac b q hq (List.mem_map.2 ⟨_, V6 hx, rfl⟩)))
   (fun q hq => by
    show knd (pf (wrS q) r.acts 0 B (S q)) = _
    rw [be6 hweak hac hq fun k _ hk => ahead k hk, be6 hweak hac hq fun k hk _ => by simpa using hk])
  have hrange : ∀ id, n + 8 * i ≤ id → id < n + 8 * i + 8 → (id - n) / 8 = i := fun id h1 h2 => by omega
  have hmk : ∀ j ∈ ac.t.made, sD r.acts B S j = .none := fun j hj => by
   obtain ⟨g1, g2⟩ := hf2 j hj
   have e : sD r.acts B S j = S j := ad6 fun k b hk hw => by
    rw [bZ2]
    obtain ⟨x, hx⟩ := bZ4.1 hw
    have hkl : k < l.length := by have := (bW9.1 hk).1; omega
    rcases bf9 hment hk j (.inr (.inl (List.mem_map.2 ⟨_, V6 hx, rfl⟩))) with h | h | h
    ·omega
    ·rw [hrange j g1 g2] at h; subst h; exact hBi
    ·rw [hrange j g1 g2] at h; exact behind k hkl h
   rw [e]; exact (I0.bd j).2 (by omega)
  have hnot : ∀ (k : Nat) b, r.acts[k]? = some b → B k = true → ∀ id, (id ∈ b.t.res.ids ∨ id ∈ b.t.new.map (·.1) ∨ ∃ p ∈ b.t.new, id ∈ p.2.ids) → id ∉ ac.t.made := fun k b hk hBk id hid hm => by
   obtain ⟨g1, g2⟩ := hf2 id hm
   have hkl : k < l.length := by have := (bW9.1 hk).1; omega
   rcases bf9 hment hk id hid with h | h | h
   ·omega
   ·rw [hrange id g1 g2] at h; subst h; rw [hBi] at hBk; cases hBk
   ·rw [hrange id g1 g2] at h; rw [behind k hkl h] at hBk; cases hBk
  have hitem : ∀ j, ∀ id ∈ (sD r.acts B S j).ids, id ∉ ac.t.made := fun j => by
   refine au4 (fun x : It => ∀ id ∈ x.ids, id ∉ ac.t.made) (fun id hid hm => ?_) fun k b x hk hBk hw id hid => ?_
   ·have := (I0.bd j).1 id hid; have := (hf2 id hm).1; omega
   ·rw [bZ2] at hBk
    exact hnot k b hk hBk id (.inr (.inr ⟨_, V6 hw, hid⟩))
  have htm : ∀ t x, tmD r.acts B (E2 tm) t = some x → ∀ id ∈ x.ids, id ∉ ac.t.made := fun t => by
   refine au4 (fun y : Option AV => ∀ x, y = some x → ∀ id ∈ x.ids, id ∉ ac.t.made) (fun x hx id hid hm => ?_) fun k b y hk hBk hw x hx id hid => ?_
   ·have := I0.tmi t x hx id hid; have := (hf2 id hm).1; omega
   ·rw [bZ2] at hBk
    unfold wrT at hw
    split at hw
    ·cases hw; cases hx
     exact hnot k b hk hBk id (.inl hid)
    ·cases hw
  have hinv : Inv (sD r.acts B S) ρ ac.t.made := fun ρ' ha j => by
   refine It.res_congr _ (fun id hid => ha id (hitem j id hid)) ?_
   by_cases hj : j ∈ ac.t.made
   ·exact .inl (hmk j hj)
   ·exact .inr (.inr (ha j hj))
  refine bA8 hH hF hv M hop2 hob heqi hewi hmk hinv fun ρ' w' ha M' => ?_
  refine hQ _ _ ?_
  have hB' : ∀ j, (listed.setIfInBounds i true).getD j false = if j = i then true else B j := fun j => by
   by_cases e : j = i
   ·subst e
    have : j < listed.size := by omega
    simp [this]
   ·rw [if_neg e, getD_set_ne false (fun h => e h.symm), hBj]
  have hBe : (fun j => (listed.setIfInBounds i true).getD j false) = fun j => if j = i then true else B j := funext hB'
  have later : ∀ (j : Nat) b, i < j → r.acts[j]? = some b → aj5 ac b = true → (if j = i then true else B j) = false := fun j b hij hj hmm => by
   have hjl : j < l.length := by have := (bW9.1 hj).1; omega
   rw [if_neg (by omega)]
   exact behind j hjl ((ba5 hord hac hj (by omega) hmm).2 hij)
  have eT : tmD r.acts (fun j => if j = i then true else B j) (E2 tm) = aM8 ac.dst ac.t.res (tmD r.acts B (E2 tm)) := by
   funext t
   simp only [aM8]
   by_cases e : ac.dst = some t
   ·rw [if_pos e]
    refine aV0 (i := i) hac (by simp [wrT, e]) (by simp) fun j b hij hj hw => ?_
    rw [bZ2]
    refine later j b hij hj (hmd ac b t e ?_)
    unfold wrT at hw
    split at hw
    ·assumption
    ·cases hw
   ·rw [if_neg e]
    refine W8 fun j b hj hw => ?_
    have : j ≠ i := fun h => by
     subst h
     rw [hac] at hj; cases hj
     simp [wrT, e] at hw
    simp [this]
  have eS : sD r.acts (fun j => if j = i then true else B j) S = v8 (sD r.acts B S) ac.t.new := by
   funext q
   rw [ay6]
   cases hx : aK4 ac.t.new q with
   | some x =>
    refine aV0 (i := i) hac hx (by simp) fun j b hij hj hw => ?_
    rw [bZ2]
    obtain ⟨y, hy⟩ := bZ4.1 hw
    exact later j b hij hj (hmn ac b q (List.mem_map.2 ⟨_, V6 hx, rfl⟩) (List.mem_map.2 ⟨_, V6 hy, rfl⟩))
   | none =>
    refine W8 fun j b hj hw => ?_
    have : j ≠ i := fun h => by
     subst h
     rw [hac] at hj; cases hj
     unfold wrS at hw
     rw [hx] at hw; cases hw
    simp [this]
  refine ⟨by simpa using hsz, ?_, ρ', fun j hj => (ha j fun hm => by have := (hf2 j hm).1; have := I0.le; omega).trans (hold j hj), (a08 _ _ _).trans hN, (a09 _ _ _).trans hdf, ?_, ?_⟩
  ·rw [hBe]
   intro j oj hj hBj' e he hbi
   show (if e.on = i then true else B e.on) = true
   by_cases e1 : e.on = i
   ·simp [e1]
   ·rw [if_neg e1]
    by_cases e2 : j = i
    ·subst e2
     rw [hoi] at hj; cases hj
     exact hdep' e he hbi
    ·simp only [if_neg e2] at hBj'
     exact hdn j oj hj hBj' e he hbi
  ·rw [hBe, eT, hdst]
   intro t x hx
   rw [br8 (by rw [hN]; exact hdN)]
   simp only [aM8] at hx
   split
   ·rename_i e; rw [if_pos e] at hx; cases hx; rfl
   ·rename_i e
    rw [if_neg e] at hx
    rw [hv t x hx, AV.val_congr x fun id hid => ha id (htm t x hx id hid)]
  ·rw [hBe, eS]; exact M'
 ·rintro listed a w ⟨hsz, hdn, ρ, hold, hN, hdf, hv, M⟩ hall
  have hall' : ∀ j, j < l.length → listed.getD j false = true := fun j hj => by rw [← bh0 (by omega)]; exact hall j hj
  have eT : tmD r.acts (fun j => listed.getD j false) (E2 tm) = E2 r.tm := by
   funext t
   rw [hfT t]
   refine W8 fun j b hj _ => ?_
   rw [bZ2]
   exact hall' j (by have := (bW9.1 hj).1; omega)
  have eS : sD r.acts (fun j => listed.getD j false) S = r.S := by
   funext q
   rw [hfS q]
   refine W8 fun j b hj _ => ?_
   rw [bZ2]
   exact hall' j (by have := (bW9.1 hj).1; omega)
  have hids : ∀ (k : Nat) b, r.acts[k]? = some b → ∀ id, (id ∈ b.t.res.ids ∨ id ∈ b.t.new.map (·.1) ∨ ∃ p ∈ b.t.new, id ∈ p.2.ids) → id < n + 8 * l.length := fun k b hk id hid => by
   have hkl : k < l.length := by have := (bW9.1 hk).1; omega
   obtain ⟨o, ho'⟩ : ∃ o, l[k]? = some o := ⟨_, bW0 hkl⟩
   obtain ⟨ac, ob, hac, _, hop⟩ := hat k o ho'
   rw [hk] at hac; cases hac
   obtain ⟨_, _, hfine⟩ := aV3 hop
   obtain ⟨hf1, hf2, hf3⟩ := ai9 hfine
   rcases hid with h | h | ⟨p, hp, h⟩
   ·have := hf3 id h; omega
   ·obtain ⟨p, hp, rfl⟩ := List.mem_map.1 h
    have := (hf1 p hp).1; omega
   ·have := (hf1 p hp).2 id h; omega
  refine done ρ a w (n + 8 * l.length) ⟨hN, hdf, by rw [← eT]; exact hv, fun t x hx => ?_, fun j => ?_, by rw [← eS]; exact M, by have := I0.le; omega, hold⟩
  ·rw [hfT t] at hx
   revert x
   refine au4 (fun y : Option AV => ∀ x, y = some x → ∀ id ∈ x.ids, id < n + 8 * l.length) (fun x hx id hid => ?_) fun k b y hk _ hw x hx id hid => ?_
   ·have := I0.tmi t x hx id hid; omega
   ·unfold wrT at hw
    split at hw
    ·cases hw; cases hx
     exact hids k b hk id (.inl hid)
    ·cases hw
  ·refine ⟨?_, fun hj => ?_⟩
   ·rw [hfS j]
    refine au4 (fun x : It => ∀ id ∈ x.ids, id < n + 8 * l.length) (fun id hid => ?_) fun k b x hk _ hw id hid => ?_
    ·have := (I0.bd j).1 id hid; omega
    ·exact hids k b hk id (.inr (.inr ⟨_, V6 hw, hid⟩))
   ·rw [hfS j, ad6 fun k b hk hw => ?_]
    ·exact (I0.bd j).2 (by omega)
    ·obtain ⟨x, hx⟩ := bZ4.1 hw
     have := hids k b hk j (.inr (.inl (List.mem_map.2 ⟨_, V6 hx, rfl⟩)))
     omega
end
def A9 {ι : Type} (φ ψ : Nat → Prop) (w0 : World) (F : ι → Rs) (N m : Nat) (ρ0 ρ : Nat → Value) (S : List It) (tm : List (Nat × AV)) (a : Act) (w : World) : Prop := Inn φ ψ w0 F N m ρ0 S.length ρ (E2 tm) (w7 S) a w
def wfB (S : List It) (tm : List (Nat × AV)) : Bool := S.all (fun x => ab7 S.length x.ids) && tm.all (fun p => ab7 S.length p.2.ids)
def bG9 (m : Nat) (js : List Nat) : Bool := (bX4 m).all fun i => natEq (nth js i) i && decide (i < js.length)
def ak9 (m : Nat) (js : List Nat) (S : List It) (tm : List (Nat × AV)) : Bool := nodupB js && natEq js.length S.length && wfB S tm && bG9 m js
section
variable {P : Program} {ι : Type} {φ ψ : Nat → Prop} {w0 w w' : World} {F : ι → Rs} {ρ ρ0 : Nat → Value} {N m n : Nat} {S : List It} {tm : List (Nat × AV)} {a : Act} {Q : Exit → Act → World → Prop}
theorem aJ3 : ∀ {tm : List (Nat × AV)} {t : Nat} {x : AV}, E2 tm t = some x → (t, x) ∈ tm
 | [], _, _, h => by cases h
 | (k, y) :: r, t, x, h => by
  simp only [E2, natEq, beq_iff_eq] at h
  split at h
  ·rename_i e; subst e; cases h; exact bX6
  ·exact bX9 _ (aJ3 h)
theorem ai3 {l : List It} {i : Nat} (h : i < l.length) : w7 l i = l[i] := by simp [w7, bW2, h]
theorem B6 {l : List It} {i : Nat} (h : l.length ≤ i) : w7 l i = .none := by simp [w7, bW2, h]
theorem bF8 {S : List It} {tm : List (Nat × AV)} (h : wfB S tm = true) : (∀ j, (∀ id ∈ (w7 S j).ids, id < S.length) ∧ (S.length ≤ j → w7 S j = .none)) ∧ ∀ t x, E2 tm t = some x → ∀ id ∈ x.ids, id < S.length := by
 simp only [wfB, bV8] at h
 refine ⟨fun j => ⟨fun id hid => ?_, fun hj => B6 hj⟩, fun t x hx id hid => ?_⟩
 ·rcases bY6 j S.length with hj | hj
  ·rw [ai3 hj] at hid
   exact I3 (bX0.1 h.1 _ (bX2 hj)) id hid
  ·rw [B6 hj] at hid; cases hid
 ·exact I3 (bX0.1 h.2 _ (aJ3 hx)) id hid
theorem Inn.sel {tf : Nat → Option AV} {Sf : Nat → It} (I : Inn φ ψ w0 F N m ρ0 n ρ tf Sf a w) (js : List Nat) (S1 : List It) (tm1 : List (Nat × AV)) (hb : ak9 m js S1 tm1 = true) (hS : js.map Sf = S1.map (It.ren (nth js))) (ht : (tm1.map (·.1)).map tf = tm1.map fun p => some (p.2.ren (nth js))) :
  A9 φ ψ w0 F N m ρ0 (fun i => ρ (nth js i)) S1 tm1 a w := by
 simp only [ak9, bV8, natEq, beq_iff_eq] at hb
 obtain ⟨⟨⟨hnd, hl⟩, hwf⟩, hkeep⟩ := hb
 have hn := ar5 hnd
 obtain ⟨b1, b2⟩ := bF8 hwf
 have hk : ∀ i, i < m → nth js i = i ∧ i < js.length := fun i hi => by
  have := bX0.1 hkeep i (List.mem_range.2 hi)
  simpa [natEq] using this
 refine ⟨I.size, I.defs, fun t x hx => ?_, b2, b1, ?_, ?_, fun i hi => ?_⟩
 ·obtain ⟨i, hi⟩ := List.mem_iff_getElem?.1 (aJ3 hx)
  have h1 := congrArg (·[i]?) ht
  simp only [List.getElem?_map, hi, Option.map_some] at h1
  rw [I.tmv t _ (Option.some.inj h1), AV.val_ren]
 ·refine I.mem.map (fun k : ι ⊕ Nat => (match k with | .inl i => some (.inl i) | .inr i => if i < js.length then some (.inr (nth js i)) else none : Option (ι ⊕ Nat))) ?_ ?_
  ·intro k k' x h1 h2
   match k, k' with
   | .inl i, .inl i' => simp at h1 h2; rw [← h1] at h2; simpa using h2.symm
   | .inl i, .inr j => simp only at h1 h2; cases h1; split at h2 <;> simp at h2
   | .inr j, .inl i => simp only at h1 h2; cases h2; split at h1 <;> simp at h1
   | .inr j, .inr j' =>
    simp at h1 h2
    obtain ⟨f1, f2⟩ := h1
    obtain ⟨g1, g2⟩ := h2
    rw [← f2] at g2
    have hj := Sum.inr.inj g2
    have e1 := bW0 f1
    have e2 := bW0 g1
    rw [L8 e2, L8 e1] at hj
    have := (List.getElem?_inj f1 hn).1 (e1.trans (by rw [← hj]; exact e2.symm))
    rw [this]
  ·intro k
   match k with
   | .inl i => exact .inl ⟨_, rfl, rfl⟩
   | .inr i =>
    by_cases hlt : i < js.length
    ·refine .inl ⟨.inr (nth js i), by simp [hlt], ?_⟩
     have h1 := congrArg (·[i]?) hS
     have hlt' : i < S1.length := by omega
     simp only [List.getElem?_map, bW0 hlt, bW0 hlt', Option.map_some, Option.some.injEq] at h1
     simp only [v9]
     rw [ai3 hlt', L8 (bW0 hlt), h1, ← It.res_ren, L8 (bW0 hlt)]
    ·refine .inr ?_
     simp only [v9]
     rw [B6 (by omega)]
     rfl
 ·rcases bY6 S1.length m with h | h
  ·have := (hk S1.length h).2; omega
  ·exact h
 ·rw [(hk i hi).1]; exact I.old i hi
def a14 (o : Option RS) (js ts : List Nat) : Option (List Prop × List It × List (Option AV) × List (List (List AV × List It)) × List (List AV)) := o.map fun r => (r.obs, js.map r.S, ts.map (E2 r.tm), r.acts.map (·.eqs.1), r.acts.map (·.eqw.1))
def ba4 (o : Option RS) (obs : List Prop) (js : List Nat) (S : List It) (tm : List (Nat × AV)) : Option (List Prop × List It × List (Option AV) × List (List (List AV × List It)) × List (List AV)) := o.map fun r => (obs, S.map (It.ren (nth js)), tm.map (fun p => some (p.2.ren (nth js))), r.acts.map (·.eqs.2), r.acts.map (·.eqw.2))
def bh5 (l : List Oper) (ms : List Nat) (n : Nat) (S : Nat → It) (o : Option RS) : Bool := aV5 ms l && am3 l.toArray && match o with
 | some r => bJ4 ms r.acts && bt8 ms n r.acts && bp0 ms S r.acts
 | none => false
theorem bJ0 {dk : TypeId → Nat} {l : List Oper} {id : Nat} (G : A9 φ ψ w0 F N m ρ0 ρ S tm a w) (H : W0) (hH : ∀ i c τ, P0 H.calls i = some (c, τ) → c.ok P) (hF : U4 H.facts) (js : List Nat) (S1 : List It) (tm1 : List (Nat × AV)) (obs : List Prop)
  (hs : ((Z8 P dk N l H l 0 tm (w7 S) S.length).isSome && ak9 m js S1 tm1) = true)
  (hc : a14 (Z8 P dk N l H l 0 tm (w7 S) S.length) js (tm1.map (·.1)) = ba4 (Z8 P dk N l H l 0 tm (w7 S) S.length) obs js S1 tm1)
  (ho : C4 obs) (k : ∀ ρ' a' w', A9 φ ψ w0 F N m ρ0 ρ' S1 tm1 a' w' → Q .normal a' w') : (Code.region id l.toArray false).wp P Q a w := by
 simp only [bV8] at hs
 obtain ⟨r, hr⟩ := bZ4.1 hs.1
 rw [hr] at hc
 simp only [a14, ba4, Option.map_some, Option.some.injEq, Prod.mk.injEq] at hc
 obtain ⟨h1, h2, h3, h4, h5⟩ := hc
 refine wp_region_lit (bf1 hH hF l 0 S.length G hr (by rw [h1]; exact ho) h4 h5 fun ρ' a' w' n' I => ?_)
 exact k _ a' w' (I.sel js S1 tm1 hs.2 h2 h3)
theorem bA2 {dk : TypeId → Nat} {l : List Oper} {id : Nat} (G : A9 φ ψ w0 F N m ρ0 ρ S tm a w) (H : W0) (hH : ∀ i c τ, P0 H.calls i = some (c, τ) → c.ok P) (hF : U4 H.facts) (ms : List Nat) (js : List Nat) (S1 : List It) (tm1 : List (Nat × AV)) (obs : List Prop) (hm : P.follows .mixedOrders = true)
  (hs : (bh5 l ms S.length (w7 S) (Z8 P dk N l H l 0 tm (w7 S) S.length) && ak9 m js S1 tm1) = true)
  (hc : a14 (Z8 P dk N l H l 0 tm (w7 S) S.length) js (tm1.map (·.1)) = ba4 (Z8 P dk N l H l 0 tm (w7 S) S.length) obs js S1 tm1)
  (ho : C4 obs) (k : ∀ ρ' a' w', A9 φ ψ w0 F N m ρ0 ρ' S1 tm1 a' w' → Q .normal a' w') : (Code.region id l.toArray true).wp P Q a w := by
 simp only [bV8, bh5] at hs
 obtain ⟨⟨⟨q1, q2⟩, q3⟩, q4⟩ := hs
 cases hr : Z8 P dk N l H l 0 tm (w7 S) S.length with
 | none => rw [hr] at q3; cases q3
 | some r =>
  rw [hr] at q3 hc
  simp only [bV8] at q3
  simp only [a14, ba4, Option.map_some, Option.some.injEq, Prod.mk.injEq] at hc
  obtain ⟨h1, h2, h3, h4, h5⟩ := hc
  refine aS9 hH hF G hr (by rw [h1]; exact ho) h4 h5 ms hm q2 q1 q3.1.1 q3.1.2 q3.2 fun ρ' a' w' n' I => ?_
  exact k _ a' w' (I.sel js S1 tm1 q4 h2 h3)
theorem rs1 {dk : TypeId → Nat} {l : List Oper} {id : Nat} (G : A9 φ ψ w0 F N m ρ0 ρ S tm a w) (H : W0) (hH : ∀ i c τ, P0 H.calls i = some (c, τ) → c.ok P) (hF : U4 H.facts) (js : List Nat) (S1 : List It) (tm1 : List (Nat × AV)) (obs : List Prop)
  (ho : C4 obs) (k : ∀ ρ' a' w', A9 φ ψ w0 F N m ρ0 ρ' S1 tm1 a' w' → Q .normal a' w')
  (hs : ((Z8 P dk N l H l 0 tm (w7 S) S.length).isSome && ak9 m js S1 tm1) = true := by kernel_rfl)
  (hc : a14 (Z8 P dk N l H l 0 tm (w7 S) S.length) js (tm1.map (·.1)) = ba4 (Z8 P dk N l H l 0 tm (w7 S) S.length) obs js S1 tm1 := by kernel_rfl) : (Code.region id l.toArray false).wp P Q a w := bJ0 G H hH hF js S1 tm1 obs hs hc ho k
theorem rd1 {dk : TypeId → Nat} {l : List Oper} {id : Nat} (G : A9 φ ψ w0 F N m ρ0 ρ S tm a w) (H : W0) (hH : ∀ i c τ, P0 H.calls i = some (c, τ) → c.ok P) (hF : U4 H.facts) (ms : List Nat) (js : List Nat) (S1 : List It) (tm1 : List (Nat × AV)) (obs : List Prop)
  (ho : C4 obs) (k : ∀ ρ' a' w', A9 φ ψ w0 F N m ρ0 ρ' S1 tm1 a' w' → Q .normal a' w') (hm : P.follows .mixedOrders = true := by kernel_rfl)
  (hs : (bh5 l ms S.length (w7 S) (Z8 P dk N l H l 0 tm (w7 S) S.length) && ak9 m js S1 tm1) = true := by kernel_rfl)
  (hc : a14 (Z8 P dk N l H l 0 tm (w7 S) S.length) js (tm1.map (·.1)) = ba4 (Z8 P dk N l H l 0 tm (w7 S) S.length) obs js S1 tm1 := by kernel_rfl) : (Code.region id l.toArray true).wp P Q a w := bA2 G H hH hF ms js S1 tm1 obs hm hs hc ho k
theorem an8 : ∀ i c τ, P0 [] i = some (c, τ) → p6.ok P c := fun i c τ h => by cases h
theorem aL0 {i0 : Nat} {c0 : p6} {τ0 : List Nat} {r : List (Nat × p6 × List Nat)} (h0 : c0.ok P) (hr : ∀ i c τ, P0 r i = some (c, τ) → p6.ok P c) : ∀ i c τ, P0 ((i0, c0, τ0) :: r) i = some (c, τ) → p6.ok P c := fun i c τ h => by
 simp only [P0] at h
 split at h
 ·cases h; exact h0
 ·exact hr i c τ h
theorem A9.sel (G : A9 φ ψ w0 F N m ρ0 ρ S tm a w) (js : List Nat) (S1 : List It) (tm1 : List (Nat × AV)) (hb : ak9 m js S1 tm1 = true) (hS : js.map (w7 S) = S1.map (It.ren (nth js))) (ht : (tm1.map (·.1)).map (E2 tm) = tm1.map fun p => some (p.2.ren (nth js))) : ∃ ρ', A9 φ ψ w0 F N m ρ0 ρ' S1 tm1 a w := ⟨_, Inn.sel G js S1 tm1 hb hS ht⟩
theorem A9.as (G : A9 φ ψ w0 F N m ρ0 ρ S tm a w) (S1 : List It) (tm1 : List (Nat × AV)) (hS : S = S1) (ht : tm = tm1) : A9 φ ψ w0 F N m ρ0 ρ S1 tm1 a w := by subst hS; subst ht; exact G
theorem A9.at (G : A9 φ ψ w0 F N m ρ0 ρ S tm a w) (S1 : List It) (tm1 : List (Nat × AV)) (hS : S = S1 := by kernel_rfl) (ht : tm = tm1 := by kernel_rfl) : A9 φ ψ w0 F N m ρ0 ρ S1 tm1 a w := G.as S1 tm1 hS ht
theorem am8 {c : Nat} {x y : Code} (G : A9 φ ψ w0 F N m ρ0 ρ S tm a w) (b : Bool) (hc : E2 tm c = some (.v (.bool b))) (ht : b = true → x.wp P Q a w) (hf : b = false → y.wp P Q a w) : (Code.cond (.tmp c) x y).wp P Q a w := by
 have h := G.tmv c _ hc
 refine wp_cond_split (t := b) ?_ ht hf
 simp [Act.eval, Array.getD_eq_getD_getElem?, h, AV.val]
theorem br1 {c : Nat} {x y : Code} (G : A9 φ ψ w0 F N m ρ0 ρ S tm a w) (b : Bool) (hc : E2 tm c = some (.v (.bool b))) (hb : b = true) (h : x.wp P Q a w) : (Code.cond (.tmp c) x y).wp P Q a w := am8 G b hc (fun _ => h) fun hf => by rw [hb] at hf; cases hf
theorem br2 {c : Nat} {x y : Code} (G : A9 φ ψ w0 F N m ρ0 ρ S tm a w) (b : Bool) (hc : E2 tm c = some (.v (.bool b))) (hb : b = false) (h : y.wp P Q a w) : (Code.cond (.tmp c) x y).wp P Q a w := am8 G b hc (fun ht => by rw [hb] at ht; cases ht) fun _ => h
def a99 (P : Program) (tm : Nat → Option AV) (S : Nat → It) : List ResultVar → Option (List AV)
 | [] => some []
 | .tmp t :: r =>
  match tm t, a99 P tm S r with
  | some x, some l => some (x :: l)
  | _, _ => none
 | .cell t ty :: r =>
  match tm t, a99 P tm S r with
  | some (.ptr b off), some l =>
   match S b with
   | .box cs => (bn9 P ty ((cs.drop off).take (aG4 P ty))).map fun x => x :: l
   | _ => none
  | _, _ => none
def a05 (P : Program) (fn : Func) (tm : List (Nat × AV)) (S : List It) : Option AV :=
 match a99 P (E2 tm) (w7 S) fn.results.toList with
 | some [x] => some x
 | some l => some (.tup l)
 | none => none
theorem by8 {cs : List AV} {ty : TypeId} {b off : Nat} {x : AV} (hB : Blk w b (AV.vals ρ cs)) (h : bn9 P ty ((cs.drop off).take (aG4 P ty)) = some x) : (loadVar ty ⟨b, off, none⟩).run P w = .ok (x.val ρ) w :=
 aB0 h ⟨b, off, none⟩ fun j u hj => by
  rw [AV.vals_take, AV.vals_drop] at hj
  have hadd : (⟨b, off, none⟩ : Addr).add j = ⟨b, off + j, none⟩ := by unfold Addr.add; split <;> simp_all
  rw [hadd, hB.cell]
  rw [List.getElem?_take] at hj
  split at hj
  ·rw [List.getElem?_drop] at hj; exact hj
  ·cases hj
theorem aU6 (G : A9 φ ψ w0 F N m ρ0 ρ S tm a w) : ∀ {rs : List ResultVar} {l : List AV}, a99 P (E2 tm) (w7 S) rs = some l →
  (rs.mapM (fun r => (match r with | .tmp t => pure (a.tmps.getD t undef) | .cell b t => do loadVar t (← asAddr (a.tmps.getD b undef)) : Sem Value))).run P w = .ok (AV.vals ρ l) w
 | [], l, h => by cases h; simp [AV.vals]
 | .tmp t :: r, l, h => by
  simp only [a99] at h
  split at h
  case h_2 => cases h
  rename_i x l' h1 h2
  cases h
  have ht := G.tmv t x h1
  have ih := aU6 G h2
  have e : (pure (a.tmps.getD t undef) : Sem Value).run P w = .ok (x.val ρ) w := by simp [Array.getD_eq_getD_getElem?, ht]
  rw [List.mapM_cons, Sem.run_bind, e, Result.andThen_ok, Sem.run_bind, ih]
  rfl
 | .cell t ty :: r, l, h => by
  simp only [a99] at h
  split at h
  case h_2 => cases h
  rename_i b off l' h1 h2
  split at h
  case h_2 => cases h
  rename_i cs hS
  obtain ⟨x, h3, h4⟩ := bW4.1 h
  subst h4
  have ht := G.tmv t _ h1
  have ih := aU6 G h2
  have hl := by8 (P := P) (G.mem.boxAt hS) h3
  have e : (do loadVar ty (← asAddr (a.tmps.getD t undef)) : Sem Value).run P w = .ok (x.val ρ) w := by
   rw [show a.tmps.getD t undef = .pointer (some ⟨Y9 (ρ b), off, none⟩) by simp [Array.getD_eq_getD_getElem?, ht, AV.val]]
   simp [asAddr, hl]
  rw [List.mapM_cons, Sem.run_bind, e, Result.andThen_ok, Sem.run_bind, ih]
  rfl
theorem bJ1 {fn : Func} {R : Ending → World → Prop} {v : AV} (G : A9 φ ψ w0 F N m ρ0 ρ S tm a w) (h : a05 P fn tm S = some v) (hR : R (.returned (v.val ρ)) w) : bodyPost P fn R .ret a w := by
 refine ⟨G.defs, v.val ρ, ?_, hR⟩
 unfold a05 at h
 cases hl : a99 P (E2 tm) (w7 S) fn.results.toList with
 | none => rw [hl] at h; cases h
 | some l =>
  rw [hl] at h
  have := aU6 G hl
  unfold results
  rw [Sem.run_bind, Array.mapM_eq_mapM_toList, Sem.run_map]
  erw [this]
  simp only [Result.andThen_ok, Sem.run_pure]
  match l, h with
  | [], h => cases h; rfl
  | [x], h => cases h; rfl
  | x :: y :: r, h => cases h; rfl
def aM3 (i : Nat) : List AV → List (Nat × AV)
 | [] => []
 | x :: r => (i, x) :: aM3 (i + 1) r
theorem a66 (ρ : Nat → Value) : ∀ {l : List AV} {i t : Nat} {x : AV}, E2 (aM3 i l) t = some x → i ≤ t ∧ (AV.vals ρ l)[t - i]? = some (x.val ρ)
 | [], _, _, _, h => by cases h
 | y :: r, i, t, x, h => by
  simp only [aM3, E2, natEq, beq_iff_eq] at h
  split at h
  ·rename_i e; subst e; cases h; exact ⟨bW6 _, by simp [AV.vals]⟩
  ·obtain ⟨h1, h2⟩ := a66 ρ h
   refine ⟨by omega, ?_⟩
   rw [show t - i = (t - (i + 1)) + 1 by omega]
   simpa [AV.vals] using h2
def a73 (φ ψ : Nat → Prop) (w0 : World) (F : ι → Rs) (ρ0 : Nat → Value) (c : p6) (x : Ending) (w' : World) : Prop := ∃ ρ', (∀ i, i < c.pre.length → ρ' i = ρ0 i) ∧ x = .returned (c.res.val ρ') ∧ s7 φ ψ w0 w' (v9 F ρ' (w7 c.post))
theorem br0 {c : p6} {fn : Func} {code : Code} (N : Nat) (hf : P.funcs[c.f]? = some fn) (hb : fn.body = some code) (hN : fn.ntmps = N) (hw : (wfB c.pre (aM3 0 c.args) && decide (c.args.length ≤ N)) = true)
  (k : ∀ {ι : Type} (φ ψ : Nat → Prop) (w0 w : World) (F : ι → Rs) (ρ0 ρ : Nat → Value) (a : Act), A9 φ ψ w0 F N c.pre.length ρ0 ρ c.pre (aM3 0 c.args) a w → code.wp P (bodyPost P fn (a73 φ ψ w0 F ρ0 c)) a w) : c.ok P := by
 intro ι φ ψ w0 w F ρ M
 simp only [bV8, decide_eq_true_eq] at hw
 obtain ⟨b1, b2⟩ := bF8 hw.1
 refine calls_of_wp hf hb (k φ ψ w0 w F ρ ρ _ ⟨?_, rfl, fun t x hx => ?_, b2, b1, M, bW6 _, fun _ _ => rfl⟩)
 ·simp [AV.vals_length, hN]; omega
 ·obtain ⟨_, h1⟩ := a66 ρ hx
  rw [Nat.sub_zero] at h1
  have hlt := (bW9.1 h1).1
  rw [Array.getElem?_append_left (by simpa using hlt)]
  simpa using h1
theorem aH9 {fn : Func} {c : p6} {v : AV} (G : A9 φ ψ w0 F N c.pre.length ρ0 ρ S tm a w) (js : List Nat) (h : a05 P fn tm S = some v) (hb : ak9 c.pre.length js c.post [] = true) (hS : js.map (w7 S) = c.post.map (It.ren (nth js))) (hv : v = c.res.ren (nth js)) : bodyPost P fn (a73 φ ψ w0 F ρ0 c) .ret a w := by
 have G1 := Inn.sel G js c.post [] hb hS rfl
 refine bJ1 G h ⟨fun i => ρ (nth js i), G1.old, ?_, G1.mem⟩
 rw [hv, AV.val_ren]
theorem b7 {K : Act → World → Prop} (h : K a w) : Exit.then K Q .normal a w := h
theorem A2 {K : Act → World → Prop} {id : Nat} (h : Q (.exit id) a w) : Exit.then K Q (.exit id) a w := h
theorem t6 {K : Act → World → Prop} (h : Q .ret a w) : Exit.then K Q .ret a w := h
theorem w5 {id : Nat} (h : Q .normal a w) : Exit.inBlock id Q .normal a w := h
theorem M8 {id : Nat} (h : Q .ret a w) : Exit.inBlock id Q .ret a w := h
theorem w9 {id : Nat} (h : Q .normal a w) : Exit.inBlock id Q (.exit id) a w := by simp only [Exit.inBlock, if_true]; exact h
theorem w64 {x : Int} (h1 : -9223372036854775808 ≤ x) (h2 : x ≤ 9223372036854775807) : IntKind.i64.wrap x = x := IntWalk.i64_in x ⟨h1, h2⟩
theorem rT {c : Nat} {x y : Code} (G : A9 φ ψ w0 F N m ρ0 ρ S tm a w) (b : Bool) (hb : b = true) (h : x.wp P Q a w) (hc : E2 tm c = some (.v (.bool b)) := by kernel_rfl) : (Code.cond (.tmp c) x y).wp P Q a w := br1 G b hc hb h
theorem rF {c : Nat} {x y : Code} (G : A9 φ ψ w0 F N m ρ0 ρ S tm a w) (b : Bool) (hb : b = false) (h : y.wp P Q a w) (hc : E2 tm c = some (.v (.bool b)) := by kernel_rfl) : (Code.cond (.tmp c) x y).wp P Q a w := br2 G b hc hb h
theorem A3 {κ : Type} {c : Code} (pre : κ → Prop) (μ : κ → Nat) (Sk : κ → List It) (Tk : κ → List (Nat × AV)) (k0 : κ) (hp : pre k0) (G : A9 φ ψ w0 F N m ρ0 ρ (Sk k0) (Tk k0) a w)
  (round : ∀ k ρ a w, pre k → A9 φ ψ w0 F N m ρ0 ρ (Sk k) (Tk k) a w → c.wp P (Exit.then (fun a' w' => ∃ k' ρ', pre k' ∧ μ k' < μ k ∧ A9 φ ψ w0 F N m ρ0 ρ' (Sk k') (Tk k') a' w') Q) a w) : (Code.loop c).wp P Q a w := by
 refine wp_loop_ghost (fun n a w => ∃ k ρ, μ k = n ∧ pre k ∧ A9 φ ψ w0 F N m ρ0 ρ (Sk k) (Tk k) a w) (μ k0) ⟨k0, ρ, rfl, hp, G⟩ ?_
 rintro n a w ⟨k, ρ, rfl, hk, Gk⟩
 refine wp_mono (round k ρ a w hk Gk) ?_
 intro e a' w' hq
 cases e with
 | normal =>
  obtain ⟨k', ρ', h1, h2, h3⟩ := hq
  exact ⟨μ k', h2, k', ρ', rfl, h1, h3⟩
 | _ => exact hq
theorem bA1 {κ : Type} {pre : κ → Prop} {μ : κ → Nat} {Sk : κ → List It} {Tk : κ → List (Nat × AV)} {k : κ} (G : A9 φ ψ w0 F N m ρ0 ρ S tm a w) (k' : κ) (hp : pre k') (hμ : μ k' < μ k) (js : List Nat) (S1 : List It) (tm1 : List (Nat × AV)) (hs1 : Sk k' = S1) (ht1 : Tk k' = tm1)
  (hb : ak9 m js S1 tm1 = true) (hS : js.map (w7 S) = S1.map (It.ren (nth js))) (ht : (tm1.map (·.1)).map (E2 tm) = tm1.map fun p => some (p.2.ren (nth js))) :
  ∃ k' ρ', pre k' ∧ μ k' < μ k ∧ A9 φ ψ w0 F N m ρ0 ρ' (Sk k') (Tk k') a w := by
 subst hs1; subst ht1
 exact ⟨k', _, hp, hμ, Inn.sel G js _ _ hb hS ht⟩
theorem A9.len (G : A9 φ ψ w0 F N m ρ0 ρ S tm a w) (i : Nat) {d : D} (h : itD (w7 S i) = some d) : d.len ≤ 9223372036854775807 := by
 obtain ⟨_, cap, _, h1, h2, _⟩ := G.mem.sliceAt h
 unfold maxLen at h2; omega
end
end Go.Proofs.YthikdkjjdeehoaaGreat

namespace Go.Proofs.YthikdkjjdeehoaaGreat
set_option linter.unusedVariables false
set_option linter.unusedSimpArgs false
def K7 (k : Int) : Int := if k = 1 ∨ k = 2 then 0 else if k = 3 then 1 else if 4 ≤ k ∧ k ≤ 10 then 2 else if k = 11 then 3 else -1
def N6 (nv na : Nat) (k : Int) : Int := if k = 1 then 256 else if k = 2 then nv else if k = 3 then na else 1
def atomB (e : b5) : Bool := decide (e.kind = 1) || decide (e.kind = 2)
def E3 (nv na : Nat) (e : b5) : Bool := decide ((e.kids.length : Int) = K7 e.kind) && decide (0 ≤ e.value) && decide (e.value < N6 nv na e.kind)
def T6 (e : b5) : Bool := decide (e.kind ≠ 3) || (match e.kids with | k :: _ => atomB k | [] => false)
def l9 (nv na : Nat) : Nat → b5 → Bool
 | 0, _ => false
 | d + 1, e => E3 nv na e && e.kids.all (l9 nv na d) && T6 e
def s0 (nv na : Nat) (e : b5) : Bool := l9 nv na 5 e && decide (1 + t2 e ≤ 15)
theorem F6 (e : b5) : t2 e = s6 e.kids := by cases e; rfl
def D3 (nv na : Nat) (d c : Nat) (e : b5) : Bool := l9 nv na d e && decide (c + 1 + t2 e ≤ 15)
def C7 (nv na : Nat) (d c : Nat) (ks : List b5) (k : Nat) : Bool := (ks.take k).all (l9 nv na d) && decide (c + s6 (ks.take k) ≤ 15)
theorem aO2 {ks : List b5} {k : Nat} (h : k < ks.length) : s6 (ks.take (k + 1)) = s6 (ks.take k) + (1 + t2 ks[k]) := by
 rw [L2 _ _ h, O2]
 simp [s6]
theorem Z3 (ks : List b5) (k : Nat) : s6 (ks.take k) ≤ s6 ks := by
 have := O2 (ks.take k) (ks.drop k)
 rw [List.take_append_drop] at this
 omega
theorem Z6 (nv na : Nat) {d c : Nat} {ks : List b5} {k : Nat} (h : k < ks.length) : C7 nv na d c ks (k + 1) = (C7 nv na d c ks k && D3 nv na d (c + s6 (ks.take k)) ks[k]) := by
 unfold C7 D3
 rw [aO2 h, L2 _ _ h, List.all_append]
 simp only [List.all_cons, List.all_nil, Bool.and_true]
 rw [Bool.eq_iff_iff]
 simp only [bV8, decide_eq_true_eq]
 constructor
 ·rintro ⟨⟨h1, h2⟩, h3⟩; exact ⟨⟨h1, by omega⟩, h2, by omega⟩
 ·rintro ⟨⟨h1, _⟩, h3, h4⟩; exact ⟨⟨h1, h3⟩, by omega⟩
theorem aU2 (nv na : Nat) {d c : Nat} {ks : List b5} {k : Nat} (h : k < ks.length) (hs : D3 nv na d (c + s6 (ks.take k)) ks[k] = false) : (ks.all (l9 nv na d) && decide (c + s6 ks ≤ 15)) = false := by
 rw [Bool.eq_false_iff]
 intro ht
 simp only [bV8, decide_eq_true_eq, bX0] at ht
 have h1 := ht.1 _ (bX2 h)
 have h2 := Z3 ks (k + 1)
 rw [aO2 h] at h2
 unfold D3 at hs
 rw [h1] at hs
 simp at hs
 omega
def noneB (e : b5) : Bool := decide (e.kind = 0) && decide (e.value = 0) && decide (e.kids.length = 0)
def F5 (s : b6) : Bool :=
 if (s.kind = 3 ∨ s.kind = 4) then
  decide (s.target = 0) && (if s.kind = 4 then decide (s.els.length = 0) && decide (1 ≤ s.count) && decide (s.count ≤ 3) && noneB s.index && noneB s.value
   else decide (s.count = 0) && noneB s.index)
 else decide (s.body.length = 0) && decide (s.els.length = 0) && decide (s.count = 0) && (decide (s.kind = 2) || noneB s.index)
def m5 (nv na : Nat) : Nat → b6 → Bool
  | 0, _ => false
  | d + 1, s => F5 s &&
    (if s.kind = 1 ∨ s.kind = 5 then decide (0 ≤ s.target) && decide (s.target < nv) && s0 nv na s.value
     else if s.kind = 2 then decide (0 ≤ s.target) && decide (s.target < na) && s0 nv na s.index && atomB s.index && s0 nv na s.value
     else if s.kind = 3 then s0 nv na s.value && s.body.all (m5 nv na d) && s.els.all (m5 nv na d)
     else if s.kind = 4 then s.body.all (m5 nv na d)
     else false)
def ac6 (nv na : Nat) (d : Nat) (ss : List b6) : Bool := ss.all (m5 nv na d)
mutual
def nS : b6 → Nat
 | ⟨_, _, _, _, _, b, e⟩ => 1 + J0 b + J0 e
def J0 : List b6 → Nat
 | [] => 0
 | s :: r => nS s + J0 r
end
def s9 (p : k6) : Bool := L9 p.vars p.arrays && ac6 p.vars.length p.arrays.length 5 p.body && decide (J0 p.body ≤ 60)
end Go.Proofs.YthikdkjjdeehoaaGreat

namespace Go.Proofs.YthikdkjjdeehoaaGreat
set_option linter.unusedVariables false
set_option linter.unusedSimpArgs false
open Go Go.RowKit
def dkP (t : TypeId) : Nat :=
 if natEq t 3 then 1 else
 if natEq t 4 then 2 else
 if natEq t 5 then 3 else
 if natEq t 9 then 4 else
if natEq t 86 then 5 else
 if natEq t 23 then 7 else
if natEq t 57 then 8 else
if natEq t 104 then 9 else
if natEq t 106 then 10 else
 0
abbrev eA (e : b5) (r : Nat) : AV := .agg [.v (.int .i64 e.kind), .v (.int .i64 e.value), .ref r]
abbrev eS (e : b5) : List It := [.dat (.exprs e.kids)]
abbrev sA (s : b6) (r : Nat) : AV := .agg [.v (.int .i64 s.kind), .v (.int .i64 s.target), .v (.int .i64 s.index.kind), .v (.int .i64 s.index.value), .ref r, .v (.int .i64 s.value.kind), .v (.int .i64 s.value.value), .ref (r + 1), .v (.int .i64 s.count), .ref (r + 2), .ref (r + 3)]
abbrev sS (s : b6) : List It := [.dat (.exprs s.index.kids), .dat (.exprs s.value.kids), .dat (.stmts s.body), .dat (.stmts s.els)]
abbrev pA (r : Nat) : AV := .agg [.ref r, .ref (r + 1), .ref (r + 2)]
abbrev pS (p : k6) : List It := [.dat (.ints p.vars), .dat (.ints p.arrays), .dat (.stmts p.body)]
abbrev iA (n : Int) : AV := .v (.int .i64 n)
abbrev bA (b : Bool) : AV := .v (.bool b)
abbrev P3 (f : FuncId) (args : List AV) (S : List It) (res : AV) : p6 := ⟨f, args, S, S, res⟩
abbrev dI (l : List Int) : It := .dat (.ints l)
abbrev dN (l : List l7) : It := .dat (.instrs l)
abbrev dE (l : List b5) : It := .dat (.exprs l)
abbrev dT (l : List b6) : It := .dat (.stmts l)
abbrev eL (e : b5) (r : Nat) : List AV := [.v (.int .i64 e.kind), .v (.int .i64 e.value), .ref r]
abbrev sL (s : b6) (r : Nat) : List AV := [.v (.int .i64 s.kind), .v (.int .i64 s.target), .v (.int .i64 s.index.kind), .v (.int .i64 s.index.value), .ref r, .v (.int .i64 s.value.kind), .v (.int .i64 s.value.value), .ref (r + 1), .v (.int .i64 s.count), .ref (r + 2), .ref (r + 3)]
abbrev pL (r : Nat) : List AV := [.ref r, .ref (r + 1), .ref (r + 2)]
section
variable {P : Program} {ι : Type} {φ ψ : Nat → Prop} {w0 w w' : World} {F : ι → Rs} {ρ ρ0 : Nat → Value} {N m n : Nat} {S : List It} {tm : List (Nat × AV)} {a : Act} {Q : Exit → Act → World → Prop}
end
theorem b5.eta (e : b5) : (⟨e.kind, e.value, e.kids⟩ : b5) = e := by cases e; rfl
theorem b6.eta (s : b6) : (⟨s.kind, s.target, s.index, s.value, s.count, s.body, s.els⟩ : b6) = s := by cases s; rfl
section
variable {ι : Type} {P : Program} {φ ψ : Nat → Prop} {w0 w : World} {F : ι → Rs} {N m : Nat} {ρ0 ρ : Nat → Value} {S : List It} {tm : List (Nat × AV)} {a : Act}
theorem O9 {fn : Func} {c : p6} (G : A9 φ ψ w0 F N c.pre.length ρ0 ρ S tm a w) (js : List Nat) (hS : js.map (w7 S) = c.post.map (It.ren (nth js)) := by kernel_rfl) (h : a05 P fn tm S = some (c.res.ren (nth js)) := by kernel_rfl) (hb : ak9 c.pre.length js c.post [] = true := by kernel_rfl) : bodyPost P fn (a73 φ ψ w0 F ρ0 c) .ret a w := aH9 G js h hb hS rfl
theorem az1 {fn : Func} {c : p6} (G : A9 φ ψ w0 F N c.pre.length ρ0 ρ S tm a w) (js : List Nat) (hS : js.map (w7 S) = c.post.map (It.ren (nth js)) := by kernel_rfl) (h : a05 P fn tm S = some (c.res.ren (nth js)) := by kernel_rfl) (hb : ak9 c.pre.length js c.post [] = true := by kernel_rfl) : bodyPost P fn (a73 φ ψ w0 F ρ0 c) .normal a w := aH9 G js h hb hS rfl
theorem rxv {fn : Func} {c : p6} (v : AV) (G : A9 φ ψ w0 F N c.pre.length ρ0 ρ S tm a w) (js : List Nat) (hv : v = c.res.ren (nth js)) (hS : js.map (w7 S) = c.post.map (It.ren (nth js)) := by kernel_rfl) (h : a05 P fn tm S = some v := by kernel_rfl) (hb : ak9 c.pre.length js c.post [] = true := by kernel_rfl) : bodyPost P fn (a73 φ ψ w0 F ρ0 c) .ret a w := aH9 G js h hb hS hv
theorem Y3 {κ : Type} {pre : κ → Prop} {μ : κ → Nat} {Sk : κ → List It} {Tk : κ → List (Nat × AV)} {k : κ} (G : A9 φ ψ w0 F N m ρ0 ρ S tm a w) (k' : κ) (hp : pre k') (hμ : μ k' < μ k) (js : List Nat) (hS : js.map (w7 S) = (Sk k').map (It.ren (nth js)) := by kernel_rfl) (ht : ((Tk k').map (·.1)).map (E2 tm) = (Tk k').map (fun p => some (p.2.ren (nth js))) := by kernel_rfl) (hb : ak9 m js (Sk k') (Tk k') = true := by kernel_rfl) : ∃ k' ρ', pre k' ∧ μ k' < μ k ∧ A9 φ ψ w0 F N m ρ0 ρ' (Sk k') (Tk k') a w := bA1 G k' hp hμ js _ _ rfl rfl hb hS ht
theorem S6 {fn : Func} {f : FuncId} {args : List AV} {pre post : List It} {x : Bool} (y : Bool) (G : A9 φ ψ w0 F N pre.length ρ0 ρ S tm a w) (js : List Nat) (e : x = y) (hS : js.map (w7 S) = post.map (It.ren (nth js)) := by kernel_rfl) (h : a05 P fn tm S = some (bA y) := by kernel_rfl) (hb : ak9 pre.length js post [] = true := by kernel_rfl) : bodyPost P fn (a73 φ ψ w0 F ρ0 ⟨f, args, pre, post, bA x⟩) .ret a w := aH9 (c := ⟨f, args, pre, post, bA x⟩) G js h hb hS (by rw [e]; rfl)
theorem Z7 {fn : Func} {f : FuncId} {args : List AV} {pre post : List It} {x : Int} (y : Int) (G : A9 φ ψ w0 F N pre.length ρ0 ρ S tm a w) (js : List Nat) (e : x = y) (hS : js.map (w7 S) = post.map (It.ren (nth js)) := by kernel_rfl) (h : a05 P fn tm S = some (iA y) := by kernel_rfl) (hb : ak9 pre.length js post [] = true := by kernel_rfl) : bodyPost P fn (a73 φ ψ w0 F ρ0 ⟨f, args, pre, post, iA x⟩) .ret a w := aH9 (c := ⟨f, args, pre, post, iA x⟩) G js h hb hS (by rw [e]; rfl)
end
abbrev wO (x : Int) : Prop := IntKind.i64.wrap x = x
theorem oW {x : Int} (h : -9223372036854775808 ≤ x ∧ x ≤ 9223372036854775807) : wO x := w64 h.1 h.2
theorem o1 {x : Int} (h : -9223372036854775808 ≤ x ∧ x ≤ 9223372036854775807) : C4 [wO x] := ⟨oW h, bW1⟩
theorem o2 {x y : Int} (h : (-9223372036854775808 ≤ x ∧ x ≤ 9223372036854775807) ∧ -9223372036854775808 ≤ y ∧ y ≤ 9223372036854775807) : C4 [wO x, wO y] := ⟨oW h.1, oW h.2, bW1⟩
theorem o3 {x y z : Int} (h : (-9223372036854775808 ≤ x ∧ x ≤ 9223372036854775807) ∧ (-9223372036854775808 ≤ y ∧ y ≤ 9223372036854775807) ∧ -9223372036854775808 ≤ z ∧ z ≤ 9223372036854775807) : C4 [wO x, wO y, wO z] := ⟨oW h.1, oW h.2.1, oW h.2.2, bW1⟩
theorem o4 {x y z u : Int} (h : (-9223372036854775808 ≤ x ∧ x ≤ 9223372036854775807) ∧ (-9223372036854775808 ≤ y ∧ y ≤ 9223372036854775807) ∧ (-9223372036854775808 ≤ z ∧ z ≤ 9223372036854775807) ∧ -9223372036854775808 ≤ u ∧ u ≤ 9223372036854775807) : C4 [wO x, wO y, wO z, wO u] := ⟨oW h.1, oW h.2.1, oW h.2.2.1, oW h.2.2.2, bW1⟩
abbrev aP (n b : Nat) (r : List Prop) : List Prop := (n ≤ 9223372036854775807) :: (n * b ≤ 140737488355328) :: r
theorem aK {n b : Nat} {r : List Prop} (h : n ≤ 100000000000) (k : C4 r) (hb : b ≤ 1000 := by decide) : C4 (aP n b r) := ⟨by omega, bX8 (Nat.mul_le_mul h hb) (by decide), k⟩
abbrev iX (x : Int) (n l : Nat) (r : List Prop) : List Prop := (0 ≤ x) :: (x < (l : Int)) :: (n < l) :: r
theorem iK {x : Int} {n l : Nat} {r : List Prop} (h : 0 ≤ x ∧ x < (l : Int) ∧ n < l) (k : C4 r) : C4 (iX x n l r) := ⟨h.1, h.2.1, h.2.2, k⟩
abbrev mR (js : List Nat) (l : List It) : List It := List.map (It.ren (nth js)) l
theorem fz : U4 [] := bW1
theorem fc {a b : Bool} {r : List (Bool × Bool)} (h : a = b) (k : U4 r) : U4 ((a, b) :: r) := ⟨h, k⟩
abbrev t3 (e : b5) : b5 := b5.mk e.kind e.value e.kids
abbrev qzS (s : b6) : b6 := b6.mk s.kind s.target (b5.mk s.index.kind s.index.value s.index.kids) (b5.mk s.value.kind s.value.value s.value.kids) s.count s.body s.els
def kL (P : Program) (N m : Nat) (l : List Oper) (H : W0) (tm : List (Nat × AV)) (S : List It) (js : List Nat) (S1 : List It) (t1 : List (Nat × AV)) := ((Z8 P dkP N l H l 0 tm (w7 S) S.length).isSome && ak9 m js S1 t1, a14 (Z8 P dkP N l H l 0 tm (w7 S) S.length) js (t1.map (·.1)))
def kR (P : Program) (N : Nat) (l : List Oper) (H : W0) (tm : List (Nat × AV)) (S : List It) (o : List Prop) (js : List Nat) (S1 : List It) (t1 : List (Nat × AV)) := (true, ba4 (Z8 P dkP N l H l 0 tm (w7 S) S.length) o js S1 t1)
def kM (P : Program) (N m : Nat) (l : List Oper) (H : W0) (ms : List Nat) (tm : List (Nat × AV)) (S : List It) (js : List Nat) (S1 : List It) (t1 : List (Nat × AV)) := (bh5 l ms S.length (w7 S) (Z8 P dkP N l H l 0 tm (w7 S) S.length) && ak9 m js S1 t1, a14 (Z8 P dkP N l H l 0 tm (w7 S) S.length) js (t1.map (·.1)))
theorem H9 {P : Program} {c : p6} {fn : Func} {code : Code} (N : Nat) (hf : P.funcs[c.f]? = some fn) (S : List It) (tm : List (Nat × AV)) (k : ∀ {ι : Type} {φ ψ : Nat → Prop} {w0 w : World} {F : ι → Rs} {ρ0 ρ : Nat → Value} {a : Act}, A9 φ ψ w0 F N c.pre.length ρ0 ρ S tm a w → code.wp P (bodyPost P fn (a73 φ ψ w0 F ρ0 c)) a w) (hb : fn.body = some code := by rfl) (hN : (fn.ntmps, c.pre, aM3 0 c.args) = (N, S, tm) := by kernel_rfl) (hw : (wfB c.pre (aM3 0 c.args) && decide (c.args.length ≤ N)) = true := by kernel_rfl) : c.ok P := by
 simp only [Prod.mk.injEq] at hN
 obtain ⟨h1, h2, h3⟩ := hN
 exact br0 N hf hb h1 hw fun φ ψ w0 w F ρ0 ρ a G => k (ρ := ρ) (G.as S tm h2 h3)
def aT (x y : List (Nat × AV)) : List (Nat × AV) := x ++ y.filter fun p => !(x.any fun q => natEq q.1 p.1)
def HH (P : Program) (H : W0) : Prop := (∀ i c τ, P0 H.calls i = some (c, τ) → c.ok P) ∧ U4 H.facts
theorem l6 {P : Program} : HH P ⟨[], [], []⟩ := ⟨an8, bW1⟩
theorem B5 {P : Program} {c : p6} (i : Nat) (σ : List Nat) (h : c.ok P) : HH P ⟨[(i, c, σ)], [], []⟩ := ⟨aL0 h an8, bW1⟩
theorem hhF {P : Program} {f : List (Bool × Bool)} (h : U4 f) (u : List (Nat × Nat)) : HH P ⟨[], f, u⟩ := ⟨an8, h⟩
def Cs (P : Program) (r : List (Nat × p6 × List Nat)) : Prop := ∀ i c τ, P0 r i = some (c, τ) → c.ok P
theorem E4 {P : Program} : Cs P [] := an8
theorem t4 {P : Program} {c : p6} {r : List (Nat × p6 × List Nat)} (i : Nat) (σ : List Nat) (h : c.ok P) (k : Cs P r) : Cs P ((i, c, σ) :: r) := aL0 h k
theorem E5 {P : Program} {r : List (Nat × p6 × List Nat)} {f : List (Bool × Bool)} (h : Cs P r) (h' : U4 f) (u : List (Nat × Nat)) : HH P ⟨r, f, u⟩ := ⟨h, h'⟩
section
variable {ι : Type} {P : Program} {φ ψ : Nat → Prop} {w0 w : World} {F : ι → Rs} {N m : Nat} {ρ0 ρ : Nat → Value} {S : List It} {tm : List (Nat × AV)} {a : Act} {l : List Oper} {id : Nat} {Q : Exit → Act → World → Prop} {H : W0}
theorem R6 (G : A9 φ ψ w0 F N m ρ0 ρ S tm a w) (hh : HH P H) (js : List Nat) (S1 : List It) (t1 : List (Nat × AV)) (o : List Prop) (ho : C4 o) (k : ∀ {ρ' a' w'}, A9 φ ψ w0 F N m ρ0 ρ' S1 t1 a' w' → Q .normal a' w') (h : kL P N m l H tm S js S1 t1 = kR P N l H tm S o js S1 t1 := by kernel_rfl) : (Code.region id l.toArray false).wp P Q a w := rs1 (dk := dkP) G H hh.1 hh.2 js S1 t1 o ho (fun _ _ _ => k) (congrArg Prod.fst h) (congrArg Prod.snd h)
theorem s4 (G : A9 φ ψ w0 F N m ρ0 ρ S tm a w) (hh : HH P H) (js : List Nat) (S1 : List It) (t1 : List (Nat × AV)) (k : ∀ {ρ' a' w'}, A9 φ ψ w0 F N m ρ0 ρ' S1 t1 a' w' → Q .normal a' w') (h : kL P N m l H tm S js S1 t1 = kR P N l H tm S [] js S1 t1 := by kernel_rfl) : (Code.region id l.toArray false).wp P Q a w := R6 G hh js S1 t1 [] bW1 k h
theorem rB1 (G : A9 φ ψ w0 F N m ρ0 ρ S tm a w) (hh : HH P H) (t1 : List (Nat × AV)) (o : List Prop) (ho : C4 o) (k : ∀ {ρ' a' w'}, A9 φ ψ w0 F N m ρ0 ρ' S t1 a' w' → Q .normal a' w') (h : kL P N m l H tm S (bX4 S.length) S t1 = kR P N l H tm S o (bX4 S.length) S t1 := by kernel_rfl) : (Code.region id l.toArray false).wp P Q a w := rs1 (dk := dkP) G H hh.1 hh.2 (bX4 S.length) S t1 o ho (fun _ _ _ => k) (congrArg Prod.fst h) (congrArg Prod.snd h)
theorem J5 (G : A9 φ ψ w0 F N m ρ0 ρ S tm a w) (hh : HH P H) (t1 : List (Nat × AV)) (k : ∀ {ρ' a' w'}, A9 φ ψ w0 F N m ρ0 ρ' S t1 a' w' → Q .normal a' w') (h : kL P N m l H tm S (bX4 S.length) S t1 = kR P N l H tm S [] (bX4 S.length) S t1 := by kernel_rfl) : (Code.region id l.toArray false).wp P Q a w := rB1 G hh t1 [] bW1 k h
theorem J2 (G : A9 φ ψ w0 F N m ρ0 ρ S tm a w) (hh : HH P H) (t1 : List (Nat × AV)) (o : List Prop) (ho : C4 o) (k : ∀ {ρ' a' w'}, A9 φ ψ w0 F N m ρ0 ρ' S (aT t1 tm) a' w' → Q .normal a' w') (h : kL P N m l H tm S (bX4 S.length) S (aT t1 tm) = kR P N l H tm S o (bX4 S.length) S (aT t1 tm) := by kernel_rfl) : (Code.region id l.toArray false).wp P Q a w := rs1 (dk := dkP) G H hh.1 hh.2 (bX4 S.length) S (aT t1 tm) o ho (fun _ _ _ => k) (congrArg Prod.fst h) (congrArg Prod.snd h)
theorem n9 (G : A9 φ ψ w0 F N m ρ0 ρ S tm a w) (hh : HH P H) (t1 : List (Nat × AV)) (k : ∀ {ρ' a' w'}, A9 φ ψ w0 F N m ρ0 ρ' S (aT t1 tm) a' w' → Q .normal a' w') (h : kL P N m l H tm S (bX4 S.length) S (aT t1 tm) = kR P N l H tm S [] (bX4 S.length) S (aT t1 tm) := by kernel_rfl) : (Code.region id l.toArray false).wp P Q a w := J2 G hh t1 [] bW1 k h
theorem P2 (G : A9 φ ψ w0 F N m ρ0 ρ S tm a w) (hh : HH P H) (ms : List Nat) (js : List Nat) (S1 : List It) (t1 : List (Nat × AV)) (o : List Prop) (ho : C4 o) (k : ∀ {ρ' a' w'}, A9 φ ψ w0 F N m ρ0 ρ' S1 t1 a' w' → Q .normal a' w') (hm : P.follows .mixedOrders = true := by kernel_rfl) (h : kM P N m l H ms tm S js S1 t1 = kR P N l H tm S o js S1 t1 := by kernel_rfl) : (Code.region id l.toArray true).wp P Q a w := rd1 (dk := dkP) G H hh.1 hh.2 ms js S1 t1 o ho (fun _ _ _ => k) hm (congrArg Prod.fst h) (congrArg Prod.snd h)
theorem ae5 (G : A9 φ ψ w0 F N m ρ0 ρ S tm a w) (hh : HH P H) (ms : List Nat) (js : List Nat) (S1 : List It) (t1 : List (Nat × AV)) (k : ∀ {ρ' a' w'}, A9 φ ψ w0 F N m ρ0 ρ' S1 t1 a' w' → Q .normal a' w') (hm : P.follows .mixedOrders = true := by kernel_rfl) (h : kM P N m l H ms tm S js S1 t1 = kR P N l H tm S [] js S1 t1 := by kernel_rfl) : (Code.region id l.toArray true).wp P Q a w := P2 G hh ms js S1 t1 [] bW1 k hm h
theorem bk4 (G : A9 φ ψ w0 F N m ρ0 ρ S tm a w) (hh : HH P H) (ms : List Nat) (t1 : List (Nat × AV)) (o : List Prop) (ho : C4 o) (k : ∀ {ρ' a' w'}, A9 φ ψ w0 F N m ρ0 ρ' S t1 a' w' → Q .normal a' w') (hm : P.follows .mixedOrders = true := by kernel_rfl) (h : kM P N m l H ms tm S (bX4 S.length) S t1 = kR P N l H tm S o (bX4 S.length) S t1 := by kernel_rfl) : (Code.region id l.toArray true).wp P Q a w := rd1 (dk := dkP) G H hh.1 hh.2 ms (bX4 S.length) S t1 o ho (fun _ _ _ => k) hm (congrArg Prod.fst h) (congrArg Prod.snd h)
theorem bO5 (G : A9 φ ψ w0 F N m ρ0 ρ S tm a w) (hh : HH P H) (ms : List Nat) (t1 : List (Nat × AV)) (k : ∀ {ρ' a' w'}, A9 φ ψ w0 F N m ρ0 ρ' S t1 a' w' → Q .normal a' w') (hm : P.follows .mixedOrders = true := by kernel_rfl) (h : kM P N m l H ms tm S (bX4 S.length) S t1 = kR P N l H tm S [] (bX4 S.length) S t1 := by kernel_rfl) : (Code.region id l.toArray true).wp P Q a w := bk4 G hh ms t1 [] bW1 k hm h
theorem au3 (G : A9 φ ψ w0 F N m ρ0 ρ S tm a w) (hh : HH P H) (ms : List Nat) (t1 : List (Nat × AV)) (o : List Prop) (ho : C4 o) (k : ∀ {ρ' a' w'}, A9 φ ψ w0 F N m ρ0 ρ' S (aT t1 tm) a' w' → Q .normal a' w') (hm : P.follows .mixedOrders = true := by kernel_rfl) (h : kM P N m l H ms tm S (bX4 S.length) S (aT t1 tm) = kR P N l H tm S o (bX4 S.length) S (aT t1 tm) := by kernel_rfl) : (Code.region id l.toArray true).wp P Q a w := rd1 (dk := dkP) G H hh.1 hh.2 ms (bX4 S.length) S (aT t1 tm) o ho (fun _ _ _ => k) hm (congrArg Prod.fst h) (congrArg Prod.snd h)
theorem a07 (G : A9 φ ψ w0 F N m ρ0 ρ S tm a w) (hh : HH P H) (ms : List Nat) (t1 : List (Nat × AV)) (k : ∀ {ρ' a' w'}, A9 φ ψ w0 F N m ρ0 ρ' S (aT t1 tm) a' w' → Q .normal a' w') (hm : P.follows .mixedOrders = true := by kernel_rfl) (h : kM P N m l H ms tm S (bX4 S.length) S (aT t1 tm) = kR P N l H tm S [] (bX4 S.length) S (aT t1 tm) := by kernel_rfl) : (Code.region id l.toArray true).wp P Q a w := au3 G hh ms t1 [] bW1 k hm h
variable {c : Nat} {x y : Code}
theorem rcB {b : Bool} (G : A9 φ ψ w0 F N m ρ0 ρ S tm a w) (f : b = false → y.wp P Q a w) (t : b = true → x.wp P Q a w) (h : E2 tm c = some (.v (.bool b)) := by rfl) : (Code.cond (.tmp c) x y).wp P Q a w := am8 G b h t f
theorem rcE {α : Type} [BEq α] [LawfulBEq α] {u v : α} (G : A9 φ ψ w0 F N m ρ0 ρ S tm a w) (f : (u == v) = false → u ≠ v → y.wp P Q a w) (t : (u == v) = true → u = v → x.wp P Q a w) (h : E2 tm c = some (.v (.bool (u == v))) := by rfl) : (Code.cond (.tmp c) x y).wp P Q a w := am8 G _ h (fun q => t q (eq_of_beq q)) fun q => f q (ne_of_beq_false q)
theorem rcN {α : Type} [BEq α] [LawfulBEq α] {u v : α} (G : A9 φ ψ w0 F N m ρ0 ρ S tm a w) (f : (u != v) = false → u = v → y.wp P Q a w) (t : (u != v) = true → u ≠ v → x.wp P Q a w) (h : E2 tm c = some (.v (.bool (u != v))) := by rfl) : (Code.cond (.tmp c) x y).wp P Q a w := am8 G _ h (fun q => t q (bne_iff_ne.1 q)) fun q => f q (bne_eq_false_iff_eq.1 q)
theorem rcD {p : Prop} [Decidable p] (G : A9 φ ψ w0 F N m ρ0 ρ S tm a w) (f : decide p = false → ¬ p → y.wp P Q a w) (t : decide p = true → p → x.wp P Q a w) (h : E2 tm c = some (.v (.bool (decide p))) := by rfl) : (Code.cond (.tmp c) x y).wp P Q a w := am8 G _ h (fun q => t q (dTt q)) fun q => f q (dFf q)
end
end Go.Proofs.YthikdkjjdeehoaaGreat
