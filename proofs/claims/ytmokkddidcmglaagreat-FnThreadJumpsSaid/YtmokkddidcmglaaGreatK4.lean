/- Part 4: functions on the way, plain laws. Conditions: as said. -/
import Derived.Deep.LoopGhost
import Derived.IntWalk
import Derived.WalkSpells
import Derived.Lib.SliceRun
import Derived.Test.YtmokkddidcmglaaGreatK1
import Derived.Test.YtmokkddidcmglaaGreatK3
set_option maxRecDepth 100000
set_option maxHeartbeats 16000000
set_option linter.unusedVariables false
set_option linter.unusedSimpArgs false
open Bool renaming and_eq_true → bX0, eq_iff_iff → bZ7, not_eq_true' → b03
open Inhabited renaming default → bW7
open Int renaming mul_le_mul_of_nonneg_right → b10
open List renaming all_eq_true → bX9, eq_nil_of_length_eq_zero → bZ3, getD_eq_getElem?_getD → bX2, getElem?_append_left → b04, getElem?_eq_getElem → bW9, getElem?_eq_none → bZ1, getElem?_eq_some_iff → bX7, getElem_mem → bZ0, length_append → bX1, length_cons → bX8, length_nil → bY2, length_set → bY9, map_cons → bZ5, mem_append → bY7, mem_cons → b02, mem_cons_of_mem → b00, mem_cons_self → b01, mem_of_getElem? → bY4, mem_range → b11, mem_singleton → bZ2, nil_append → b14, range → bY5, take → bY0, take_of_length_le → bY3
open Nat renaming add_zero → b07, le_refl → bX4, le_trans → bZ6, lt_of_lt_of_le → b13, lt_or_ge → bY8, mul_le_mul_right → b05, zero_add → b06, zero_le → bZ4
open Option renaming isSome_iff_exists → b09, map_eq_some_iff → bX5
open True renaming intro → bY1

namespace Go.Proofs.YtmokkddidcmglaaGreat
open Go Go.RowKit
def pf {β : Type} (wr : Ac → Option β) : List Ac → Nat → (Nat → Bool) → β → β
 | [], _, _, v => v
 | a :: r, k, B, v => pf wr r (k + 1) B (match wr a with | some x => if B k then x else v | none => v)
theorem O8 {β : Type} {wr : Ac → Option β} {B B' : Nat → Bool} : ∀ {az : List Ac} {k : Nat} {v : β}, (∀ j a, az[j]? = some a → (wr a).isSome = true → B (k + j) = B' (k + j)) → pf wr az k B v = pf wr az k B' v
 | [], _, _, _ => rfl
 | a :: r, k, v, h => by
  simp only [pf]
  have h0 := h 0 a rfl
  have hr : ∀ j b, r[j]? = some b → (wr b).isSome = true → B (k + 1 + j) = B' (k + 1 + j) := fun j b hb hw => by
   have := h (j + 1) b (by simpa using hb) hw
   rw [show k + (j + 1) = k + 1 + j by omega] at this; exact this
  cases hw : wr a with
  | none => exact O8 hr
  | some x =>
   rw [hw] at h0
   simp only [b07, Option.isSome_some, forall_const] at h0
   rw [h0]
   exact O8 hr
theorem U3 {β : Type} {wr : Ac → Option β} {B : Nat → Bool} : ∀ {az : List Ac} {k : Nat} {v : β}, (∀ j a, az[j]? = some a → (wr a).isSome = true → B (k + j) = false) → pf wr az k B v = v
 | [], _, _, _ => rfl
 | a :: r, k, v, h => by
  simp only [pf]
  have h0 := h 0 a rfl
  have hr : ∀ j b, r[j]? = some b → (wr b).isSome = true → B (k + 1 + j) = false := fun j b hb hw => by
   have := h (j + 1) b (by simpa using hb) hw
   rw [show k + (j + 1) = k + 1 + j by omega] at this; exact this
  rw [U3 hr]
  cases hw : wr a with
  | none => rfl
  | some x =>
   rw [hw] at h0
   simp only [b07, Option.isSome_some, forall_const] at h0
   simp [h0]
theorem aH0 {β : Type} {wr : Ac → Option β} {B : Nat → Bool} : ∀ {az : List Ac} {k i : Nat} {v x : β} {a : Ac}, az[i]? = some a → wr a = some x → B (k + i) = true → (∀ j b, i < j → az[j]? = some b → (wr b).isSome = true → B (k + j) = false) → pf wr az k B v = x
 | [], _, _, _, _, _, h, _, _, _ => by simp at h
 | b :: r, k, 0, v, x, a, h, hw, hB, hn => by
  simp at h; subst h
  simp only [pf, hw]
  rw [b07] at hB
  rw [hB, if_pos rfl]
  refine U3 fun j c hc hs => ?_
  have := hn (j + 1) c (by omega) (by simpa using hc) hs
  rw [show k + (j + 1) = k + 1 + j by omega] at this; exact this
 | b :: r, k, i + 1, v, x, a, h, hw, hB, hn => by
  simp only [pf]
  refine aH0 (i := i) (by simpa using h) hw (by rw [show k + 1 + i = k + (i + 1) by omega]; exact hB) fun j c hj hc hs => ?_
  have := hn (j + 1) c (by omega) (by simpa using hc) hs
  rw [show k + (j + 1) = k + 1 + j by omega] at this; exact this
theorem ai0 {β : Type} {wr : Ac → Option β} {B : Nat → Bool} (p : β → Prop) : ∀ {az : List Ac} {k : Nat} {v : β}, p v → (∀ j a x, az[j]? = some a → B (k + j) = true → wr a = some x → p x) → p (pf wr az k B v)
 | [], _, _, h, _ => h
 | a :: r, k, v, h, hs => by
  simp only [pf]
  refine ai0 p ?_ fun j b x hb hB hw => hs (j + 1) b x (by simpa using hb) (by rw [show k + (j + 1) = k + 1 + j by omega]; exact hB) hw
  cases hw : wr a with
  | none => exact h
  | some x =>
   simp only
   split
   ·rename_i hB; exact hs 0 a x rfl (by simpa using hB) hw
   ·exact h
def aw4 : List (Nat × It) → Nat → Option It
 | [], _ => none
 | (k, x) :: r, i => if i = k then some x else aw4 r i
theorem ak0 (S : Nat → It) (i : Nat) : ∀ (l : List (Nat × It)), l7 S l i = match aw4 l i with | some x => x | none => S i
 | [] => rfl
 | (k, x) :: r => by simp only [l7, aw4]; split; rfl; exact ak0 S i r
theorem N9 {l : List (Nat × It)} {i : Nat} {x : It} (h : aw4 l i = some x) : (i, x) ∈ l := by
 induction l with
 | nil => cases h
 | cons p r ih =>
  obtain ⟨k, y⟩ := p
  simp only [aw4] at h
  split at h
  ·rename_i e; cases h; rw [e]; exact b01
  ·exact b00 _ (ih h)
def wrT (t : Nat) (a : Ac) : Option (Option AV) := if a.dst = some t then some (some a.t.res) else none
def wrS (i : Nat) (a : Ac) : Option It := aw4 a.t.new i
def tmD (az : List Ac) (B : Nat → Bool) (tm : Nat → Option AV) : Nat → Option AV := fun t => pf (wrT t) az 0 B (tm t)
def sD (az : List Ac) (B : Nat → Bool) (S : Nat → It) : Nat → It := fun i => pf (wrS i) az 0 B (S i)
def bef (ms : List Nat) (j i : Nat) : Bool := (nth ms i).testBit j
def aX5 (ms : List Nat) (o : Oper) : Nat := o.after.foldl (fun s e => if Region.binds .any e then s ||| (2 ^ e.on ||| nth ms e.on) else s) 0
def aH4 (ms : List Nat) (l : List Oper) : Bool := (bY5 l.length).all fun i => match l[i]? with | some o => natEq (nth ms i) (aX5 ms o) | none => false
def Z1 (a b : Ac) : Bool :=
 (match b.dst with | some t => memN t a.rt || (match a.dst with | some s => natEq s t | none => false) | none => false) ||
 b.t.new.any (fun p => memN p.1 a.ri || a.t.new.any fun q => natEq q.1 p.1)
def bC8 (ms : List Nat) (az : List Ac) : Bool :=
 (bY5 az.length).all fun i => (bY5 az.length).all fun j =>
  match az[i]?, az[j]? with
  | some a, some b => natEq i j || !Z1 a b || (if decide (j < i) then bef ms j i else bef ms i j)
  | _, _ => false
def bv2 (S : Nat → It) (az : List Ac) (j : Nat) : Nat := match az.findSome? (wrS j) with
 | some x => knd x
 | none => knd (S j)
def bd7 (ms : List Nat) (S : Nat → It) (az : List Ac) : Bool :=
 (bY5 az.length).all fun i =>
  match az[i]? with
  | some a => a.rk.all fun j => az.all (fun b => match wrS j b with | some x => natEq (knd x) (bv2 S az j) | none => true) && (natEq (knd (S j)) (bv2 S az j) || (bY5 i).any fun k => bef ms k i && match az[k]? with | some b => (wrS j b).isSome | none => false)
  | none => true
theorem a45 {β : Type} {wr : Ac → Option β} {B : Nat → Bool} (p : β → Prop) : ∀ {az : List Ac} {k : Nat} {v : β}, (∀ (j : Nat) (a : Ac) (x : β), az[j]? = some a → wr a = some x → p x) → (p v ∨ ∃ (j : Nat) (a : Ac), az[j]? = some a ∧ (wr a).isSome = true ∧ B (k + j) = true) → p (pf wr az k B v)
 | [], _, _, _, h => by rcases h with h | ⟨j, a, h, _⟩; exact h; simp at h
 | a :: r, k, v, hs, h => by
  simp only [pf]
  refine a45 p (fun j b x hb => hs (j + 1) b x (by simpa using hb)) ?_
  rcases h with h | ⟨j, b, h1, h2, h3⟩
  ·left
   cases hw : wr a with
   | none => exact h
   | some x =>
    simp only
    split
    ·exact hs 0 a x rfl hw
    ·exact h
  ·cases j with
   | zero =>
    left
    simp at h1; subst h1
    obtain ⟨x, hx⟩ := b09.1 h2
    rw [hx]
    rw [b07] at h3
    simp only [h3, if_true]
    exact hs 0 _ x rfl hx
   | succ j =>
    right
    exact ⟨j, b, by simpa using h1, h2, by rw [show k + 1 + j = k + (j + 1) by omega]; exact h3⟩
theorem a26 {ms : List Nat} {S : Nat → It} {az : List Ac} (h : bd7 ms S az = true) {i : Nat} {a : Ac} (ha : az[i]? = some a) {j : Nat} (hj : j ∈ a.rk) {B : Nat → Bool} (hB : ∀ k, k < i → bef ms k i = true → B k = true) : knd (pf (wrS j) az 0 B (S j)) = bv2 S az j := by
 have hi := (bX7.1 ha).1
 have h1 := bX9.1 h i (b11.2 hi)
 rw [ha] at h1
 have h2 := bX9.1 h1 j hj
 simp only [bX0, Bool.or_eq_true] at h2
 refine a45 (fun x => knd x = bv2 S az j) (fun q b x hb hx => ?_) ?_
 ·have := bX9.1 h2.1 b (bY4 hb)
  rw [hx] at this
  simpa [natEq] using this
 ·rcases h2.2 with h3 | h3
  ·left; simpa [natEq] using h3
  ·right
   obtain ⟨k, hk, h4⟩ := List.any_eq_true.1 h3
   rw [b11] at hk
   simp only [bX0] at h4
   cases hb : az[k]? with
   | none => rw [hb] at h4; cases h4.2
   | some b =>
    rw [hb] at h4
    exact ⟨k, b, hb, h4.2, by rw [b06]; exact hB k hk h4.1⟩
def bj4 (ms : List Nat) (n0 : Nat) (az : List Ac) : Bool :=
 (bY5 az.length).all fun i =>
  match az[i]? with
  | some a => (a.t.res.ids ++ a.t.new.map (·.1) ++ a.t.new.flatMap (fun p => p.2.ids)).all fun id => decide (id < n0) || natEq ((id - n0) / 8) i || bef ms ((id - n0) / 8) i
  | none => false
section
variable {P : Program} {ι : Type} {φ ψ : Nat → Prop} {w0 w w' : World} {F : ι → Rs} {ρ : Nat → Value} {S : Nat → It} {N n : Nat}
theorem af8 {α β : Type} {f g : α → Option β} : ∀ {l : List α}, (∀ x ∈ l, f x = g x) → l.filterMap f = l.filterMap g
 | [], _ => rfl
 | a :: r, h => by rw [List.filterMap_cons, List.filterMap_cons, h a b01, af8 fun x hx => h x (b00 _ hx)]
theorem an7 {ops : List Oper} {H : O1} {tm tm' : Nat → Option AV} {i : Nat} {o : Oper} (h : ∀ t ∈ aI6 ops o, tm' t = tm t) : as7 ops H tm' i o = as7 ops H tm i o := by
 unfold as7
 unfold aI6 at h
 cases hg : o.guard with
 | none => rfl
 | some q =>
  obtain ⟨j, want⟩ := q
  rw [hg] at h
  simp only at h ⊢
  cases hd : (ops[j]?).bind (·.dst) with
  | none => rfl
  | some t =>
   rw [hd] at h
   simp only at h ⊢
   rw [h t (by simp)]
theorem a88 {dk : TypeId → Nat} {H : O1} {ops : List Oper} {i : Nat} {o : Oper} {tm tm' : Nat → Option AV} {S S' : Nat → It} {ac : Ac} {ob : List Prop} (h : opA P dk N ops H i o tm S n = some (ac, ob)) (ht : ∀ t ∈ ac.rt, tm' t = tm t) (hs : ∀ j ∈ ac.ri, S' j = S j) (hk : ∀ j ∈ ac.rk, knd (S' j) = knd (S j)) : opA P dk N ops H i o tm' S' n = some (ac, ob) := by
 unfold opA at h ⊢
 split at h
 case isFalse => cases h
 rename_i hd
 rw [if_pos hd]
 cases hw : as7 ops H tm i o with
 | none => rw [hw] at h; cases h
 | some q =>
  obtain ⟨b, lq, rq⟩ := q
  rw [hw] at h
  cases b
  ·simp only at h
   cases h
   rw [an7 (tm := tm) ht, hw]
  ·simp only at h
   cases hr : au6 P dk H tm S n i o.op with
   | none => rw [hr] at h; cases h
   | some t =>
    rw [hr] at h
    simp only at h
    split at h
    case isFalse => cases h
    rename_i hf
    cases h
    simp only at ht hs hk
    rw [an7 (tm := tm) fun t ht' => ht t (List.mem_append_right _ ht'), hw]
    have e1 : rtm tm' (opT o.op) = rtm tm (opT o.op) := by
     funext t
     unfold rtm
     split
     ·rename_i hm; exact ht t (List.mem_append_left _ (r7.1 hm))
     ·rfl
    have e2 : tch tm' o.op = tch tm o.op := by
     have e9 : Q4 tm' (opT o.op) = Q4 tm (opT o.op) := by
      unfold Q4
      congr 1
      exact af8 fun t ht' => ht t (List.mem_append_left _ ht')
     cases ho' : o.op <;> simp only [tch] <;> rw [← ho'] <;> first | rw [e1, e9] | exact e9
    have e8 : wk tm' o.op = wk tm o.op := by
     have e9 : Q4 tm' (opT o.op) = Q4 tm (opT o.op) := by
      unfold Q4
      congr 1
      exact af8 fun t ht' => ht t (List.mem_append_left _ ht')
     cases ho' : o.op <;> simp only [wk] <;> rw [← ho', e1, e9]
    have e3 : au6 P dk H tm' S' n i o.op = au6 P dk H tm S n i o.op := by
     unfold au6
     cases hc : J1 H.calls i with
     | none =>
      simp only
      rw [e1, e2, e8, be6 (fun j hj => hs j (List.mem_append_left _ hj)) hk]
     | some q =>
      obtain ⟨c, τ⟩ := q
      simp only
      rw [e1, e2]
      congr 1
      funext j
      unfold rS
      split
      ·rename_i hm
       refine hs j ?_
       unfold a67
       rw [hc]; exact r7.1 hm
      ·rfl
    have e4 : aW9 H tm' S' n i o.op = aW9 H tm S n i o.op := by
     unfold aW9
     cases hc : J1 H.calls i with
     | none => simp only; rw [e1]
     | some q =>
      obtain ⟨c, τ⟩ := q
      simp only
      rw [e1, e2]
      congr 1
      funext j
      unfold rS
      split
      ·rename_i hm
       refine hs j ?_
       unfold a67
       rw [hc]; exact r7.1 hm
      ·rfl
    rw [e3, hr, e4]
    simp only
    rw [e2, e8, if_pos hf]
theorem bt9 {dk : TypeId → Nat} {H : O1} (hH : ∀ i c τ, J1 H.calls i = some (c, τ) → c.ok P) (hF : L9 H.facts) {ops : List Oper} {i : Nat} {o : Oper} {tm : Nat → Option AV} {a : Act} (hv : ∀ t x, tm t = some x → a.tmps[t]? = some (x.val ρ)) (M : i7 φ ψ w0 w (l6 F ρ S)) {ac : Ac} {obs : List Prop} (h : opA P dk N ops H i o tm S n = some (ac, obs)) (ho : s5 obs) (he : ac.eqs.1 = ac.eqs.2) (hw' : ac.eqw.1 = ac.eqw.2)
  (hmk : ∀ j ∈ ac.t.made, S j = .none) (hi : Inv S ρ ac.t.made)
  {Q : Exit → Act → World → Prop} {rest : List Oper} (hk : ∀ ρ' w', z8 ac.t.made ρ ρ' → i7 φ ψ w0 w' (l6 F ρ' (l7 S ac.t.new)) → wpList P ops.toArray Q rest (a.put o.dst (ac.t.res.val ρ')) w') : wpList P ops.toArray Q (o :: rest) a w := by
 unfold opA at h
 split at h
 case isFalse => cases h
 rename_i hd
 split at h
 case h_1 => cases h
 ·rename_i l r hw
  cases h
  refine a33 (ah0 (ρ := ρ) hF hw hw' fun t y _ hy => hv t y hy) ?_
  exact hk ρ w (z8.refl _ _) (by simpa [bD6, l7] using M)
 ·rename_i l r hw
  split at h
  case h_1 => cases h
  rename_i t ht
  split at h
  case isFalse => cases h
  rename_i hf
  cases h
  simp only [bX0] at hf
  refine H8.wp (ah0 (ρ := ρ) hF hw hw' fun t y _ hy => hv t y hy) ?_
  refine (aO8 M hH hF (fun t y _ hy => hv t y hy) ht ho he hmk hi (fun j hj => ?_)).mono ?_
  ·obtain ⟨p, hp, rfl⟩ := List.mem_map.1 hj
   have := bX9.1 hf.2 p hp
   simp only [Bool.or_eq_true] at this
   exact this.imp r7.1 r7.1
  ·rintro v w' ⟨ρ', p1, p2, rfl⟩
   exact hk ρ' w' p1 p2
theorem a41 {dk : TypeId → Nat} {H : O1} {ops : List Oper} : ∀ (l : List Oper) (i n : Nat) {tm : List (Nat × AV)} {S : Nat → It} {r : RS}, R2 P dk N ops H l i tm S n = some r → s5 r.obs →
  r.acts.length = l.length ∧ (∀ t, y5 r.tm t = pf (wrT t) r.acts i (fun _ => true) (y5 tm t)) ∧ (∀ j, r.S j = pf (wrS j) r.acts i (fun _ => true) (S j)) ∧
  ∀ k o, l[k]? = some o → ∃ ac ob, r.acts[k]? = some ac ∧ s5 ob ∧ opA P dk N ops H (i + k) o (fun t => pf (wrT t) r.acts i (fun j => decide (j < i + k)) (y5 tm t)) (fun j => pf (wrS j) r.acts i (fun q => decide (q < i + k)) (S j)) (n + 8 * k) = some (ac, ob)
 | [], i, n, tm, S, r, h, _ => by cases h; exact ⟨rfl, fun _ => rfl, fun _ => rfl, fun k o h => by simp at h⟩
 | o :: l, i, n, tm, S, r, h, ho => by
  simp only [R2] at h
  split at h
  case h_1 => cases h
  rename_i ac ob h1
  split at h
  case h_1 => cases h
  rename_i s h2
  cases h
  simp only [s5.append] at ho
  obtain ⟨k1, k2, k3, k4⟩ := a41 l (i + 1) (n + 8) h2 ho.2
  have eT : ∀ t, y5 (aW2 ac.dst ac.t.res tm) t = match wrT t ac with | some x => x | none => y5 tm t := fun t => by
   rw [aC8]
   simp only [ay9, wrT]
   split <;> rfl
  have eS : ∀ j, l7 S ac.t.new j = match wrS j ac with | some x => x | none => S j := fun j => ak0 S j _
  refine ⟨by simp [k1], fun t => ?_, fun j => ?_, fun k o' hk => ?_⟩
  ·rw [k2 t, eT]; simp only [pf]; cases wrT t ac <;> rfl
  ·rw [k3 j, eS]; simp only [pf]; cases wrS j ac <;> rfl
  ·cases k with
   | zero =>
    simp at hk; subst hk
    refine ⟨ac, ob, rfl, ho.1, ?_⟩
    have e1 : (fun t => pf (wrT t) (ac :: s.acts) i (fun j => decide (j < i + 0)) (y5 tm t)) = y5 tm := by
     funext t; exact U3 fun j a _ _ => by simp
    have e2 : (fun j => pf (wrS j) (ac :: s.acts) i (fun q => decide (q < i + 0)) (S j)) = S := by
     funext j; exact U3 fun j a _ _ => by simp
    rw [e1, e2]; exact h1
   | succ k =>
    obtain ⟨ac', ob', m1, m2, m3⟩ := k4 k o' (by simpa using hk)
    refine ⟨ac', ob', by simpa using m1, m2, ?_⟩
    have hi : decide (i < i + (k + 1)) = true := by simp
    have e1 : (fun t => pf (wrT t) (ac :: s.acts) i (fun j => decide (j < i + (k + 1))) (y5 tm t)) = fun t => pf (wrT t) s.acts (i + 1) (fun j => decide (j < i + 1 + k)) (y5 (aW2 ac.dst ac.t.res tm) t) := by
     funext t
     rw [eT]
     simp only [pf, hi, if_true]
     rw [show i + (k + 1) = i + 1 + k by omega]
     cases wrT t ac <;> rfl
    have e2 : (fun j => pf (wrS j) (ac :: s.acts) i (fun q => decide (q < i + (k + 1))) (S j)) = fun j => pf (wrS j) s.acts (i + 1) (fun q => decide (q < i + 1 + k)) (l7 S ac.t.new j) := by
     funext j
     rw [eS]
     simp only [pf, hi, if_true]
     rw [show i + (k + 1) = i + 1 + k by omega]
     cases wrS j ac <;> rfl
    rw [e1, e2, show i + (k + 1) = i + 1 + k by omega, show n + 8 * (k + 1) = n + 8 + 8 * k by omega]
    exact m3
def bp1 (l : List Oper) (B : Nat → Bool) : Prop := ∀ j o, l[j]? = some o → B j = true → ∀ e ∈ o.after, Region.binds .any e = true → B e.on = true
theorem av0 {ms : List Nat} {o : Oper} {j : Nat} (h : (aX5 ms o).testBit j = true) : ∃ e ∈ o.after, Region.binds .any e = true ∧ (e.on = j ∨ bef ms j e.on = true) := by
 unfold aX5 at h
 rw [← Array.foldl_toList] at h
 have key : ∀ (es : List Edge) (s : Nat), (es.foldl (fun s e => if Region.binds .any e then s ||| (2 ^ e.on ||| nth ms e.on) else s) s).testBit j = true → s.testBit j = true ∨ ∃ e ∈ es, Region.binds .any e = true ∧ (e.on = j ∨ bef ms j e.on = true) := by
  intro es
  induction es with
  | nil => intro s h; exact .inl h
  | cons e r ih =>
   intro s h
   simp only [List.foldl_cons] at h
   rcases ih _ h with h1 | ⟨e', he', h2⟩
   ·split at h1
    ·rename_i hb
     simp only [Nat.testBit_or, Bool.or_eq_true, Nat.testBit_two_pow, decide_eq_true_eq] at h1
     rcases h1 with h1 | h1 | h1
     ·exact .inl h1
     ·exact .inr ⟨e, b01, hb, .inl h1⟩
     ·exact .inr ⟨e, b01, hb, .inr h1⟩
    ·exact .inl h1
   ·exact .inr ⟨e', b00 _ he', h2⟩
 rcases key _ _ h with h1 | ⟨e, he, h2⟩
 ·simp at h1
 ·exact ⟨e, by simpa using he, h2⟩
theorem ax9 {ms : List Nat} {l : List Oper} (hm : aH4 ms l = true) (hb : ac0 l.toArray = true) {B : Nat → Bool} (hc : bp1 l B) : ∀ i, i < l.length → B i = true → ∀ j, bef ms j i = true → B j = true := by
 intro i
 induction i using Nat.strongRecOn with
 | _ i ih =>
  intro hi hB j hj
  have h1 := bX9.1 hm i (b11.2 hi)
  rw [bW9 hi] at h1
  simp only [natEq, beq_iff_eq] at h1
  unfold bef at hj
  rw [h1] at hj
  obtain ⟨e, he, h2, h3⟩ := av0 hj
  have h4 := hc i _ (bW9 hi) hB e he h2
  have h5 := ay0 hb (show i < l.toArray.size by simpa using hi) (show l.toArray[i]? = some l[i] by simp [hi]) he h2
  rcases h3 with rfl | h3
  ·exact h4
  ·exact ih e.on h5 (by omega) h4 j h3
theorem bc3 {ms : List Nat} {l : List Oper} (hm : aH4 ms l = true) (hb : ac0 l.toArray = true) {B : Nat → Bool} (hc : bp1 l B) {i : Nat} {o : Oper} (ho : l[i]? = some o) (hr : ∀ e ∈ o.after, Region.binds .any e = true → B e.on = true) {j : Nat} (hj : bef ms j i = true) : B j = true := by
 have hi := (bX7.1 ho).1
 have h1 := bX9.1 hm i (b11.2 hi)
 rw [ho] at h1
 simp only [natEq, beq_iff_eq] at h1
 unfold bef at hj
 rw [h1] at hj
 obtain ⟨e, he, h2, h3⟩ := av0 hj
 have h5 := ay0 hb (show i < l.toArray.size by simpa using hi) (show l.toArray[i]? = some o by simpa using ho) he h2
 rcases h3 with rfl | h3
 ·exact hr e he h2
 ·exact ax9 hm hb hc e.on (by omega) (hr e he h2) j h3
end
section
variable {P : Program} {ι : Type} {φ ψ : Nat → Prop} {w0 w w' : World} {F : ι → Rs} {ρ : Nat → Value} {S : Nat → It} {N m n : Nat} {ρ0 : Nat → Value}
theorem aT9 {l : List Oper} {Q : Exit → Act → World → Prop} (I : Array Bool → Act → World → Prop) (hb : ac0 l.toArray = true)
  (step : ∀ listed a w, I listed a w → ∀ i o, l[i]? = some o → listed.getD i true = false → (∀ e ∈ o.after, Region.binds .any e = true → listed.getD e.on false = true) →
   ∀ Q' : Exit → Act → World → Prop, (∀ a w, I (listed.setIfInBounds i true) a w → Q' .normal a w) → wpList P l.toArray Q' [o] a w)
  (done : ∀ listed a w, I listed a w → (∀ j, j < l.length → listed.getD j true = true) → Q .normal a w) :
  ∀ (fuel : Nat) (listed : Array Bool) (a : Act) (w : World), listed.size = l.toArray.size → listed.toList.count false = fuel → I listed a w → wpAny P .any l.toArray Q fuel listed a w := by
 have hfin : ∀ (listed : Array Bool) (a : Act) (w : World), listed.size = l.toArray.size → Region.ready .any l.toArray listed = [] → I listed a w → Q .normal a w := by
  intro listed a w hsz hr hI
  refine done listed a w hI fun j hj => ?_
  cases hl : listed.getD j true
  ·exact absurd hr (aM9 hb hsz j (by simpa using hj) hl)
  ·rfl
 intro fuel
 induction fuel with
 | zero =>
  intro listed a w hsz hc hI
  have hr : Region.ready .any l.toArray listed = [] := by
   rw [List.eq_nil_iff_forall_not_mem]
   intro j hj
   have := I6 (mem_ready.1 hj).1
   omega
  exact ⟨hr, hfin listed a w hsz hr hI⟩
 | succ f ih =>
  intro listed a w hsz hc hI
  refine ⟨fun hr => hfin listed a w hsz hr hI, fun i hi => ?_⟩
  obtain ⟨h1, o, ho, h2⟩ := mem_ready.1 hi
  have ho' : l[i]? = some o := by simpa using ho
  have hcl := I6 h1
  have hs := step listed a w hI i o ho' h1 h2 (fun e a w => e = .normal ∧ I (listed.setIfInBounds i true) a w) fun a w h => ⟨rfl, h⟩
  unfold wpOp
  rw [ho]
  simp only
  unfold wpList at hs
  split
  ·rename_i hw
   rw [if_pos hw] at hs
   rcases hs with hs | ⟨_, a, w, he, _⟩
   ·exact .inl (aB4 (fun _ _ _ h => h.1) (Oper.wp_mono (fun a' w' h => ih _ a' w' (by simpa using hsz) (by omega) h.2) hs))
   ·cases he
  ·rename_i hw
   rw [if_neg hw] at hs
   exact ih _ _ _ (by simpa using hsz) (by omega) hs.2
theorem as6 {id : Nat} {l : List Oper} {Q : Exit → Act → World → Prop} {a : Act} {w : World} (I : Array Bool → Act → World → Prop) (hm : P.follows .mixedOrders = true) (hb : ac0 l.toArray = true)
  (h0 : I (Array.replicate l.length false) a w.drew)
  (step : ∀ listed a w, I listed a w → ∀ i o, l[i]? = some o → listed.getD i true = false → (∀ e ∈ o.after, Region.binds .any e = true → listed.getD e.on false = true) →
   ∀ Q' : Exit → Act → World → Prop, (∀ a w, I (listed.setIfInBounds i true) a w → Q' .normal a w) → wpList P l.toArray Q' [o] a w)
  (done : ∀ listed a w, I listed a w → (∀ j, j < l.length → listed.getD j true = true) → Q .normal a w) : (Code.region id l.toArray true).wp P Q a w :=
 wp_region_any hm (aT9 I hb step done _ _ _ _ (by simp) (by simp) (by simpa using h0))
def RI (φ ψ : Nat → Prop) (w0 : World) (F : ι → Rs) (N m : Nat) (ρ0 : Nat → Value) (l : List Oper) (az : List Ac) (tm : Nat → Option AV) (S : Nat → It) (listed : Array Bool) (a : Act) (w : World) : Prop :=
 listed.size = l.length ∧ bp1 l (fun j => listed.getD j false) ∧ ∃ ρ, (∀ i, i < m → ρ i = ρ0 i) ∧ a.tmps.size = N ∧ a.defers = [] ∧ (∀ t x, tmD az (fun j => listed.getD j false) tm t = some x → a.tmps[t]? = some (x.val ρ)) ∧ i7 φ ψ w0 w (l6 F ρ (sD az (fun j => listed.getD j false) S))
theorem aW8 {ms : List Nat} {az : List Ac} (h : bC8 ms az = true) {i j : Nat} {a b : Ac} (ha : az[i]? = some a) (hb : az[j]? = some b) (hij : i ≠ j) (hm : Z1 a b = true) : (j < i → bef ms j i = true) ∧ (i < j → bef ms i j = true) := by
 have hi := (bX7.1 ha).1
 have hj := (bX7.1 hb).1
 have h1 := bX9.1 (bX9.1 h i (b11.2 hi)) j (b11.2 hj)
 rw [ha, hb] at h1
 have hne : natEq i j = false := by simp [natEq, hij]
 simp only [hne, hm, Bool.not_true, Bool.false_or] at h1
 constructor
 ·intro hlt; rw [if_pos (by simpa using hlt)] at h1; exact h1
 ·intro hlt; rw [if_neg (by simp; omega)] at h1; exact h1
theorem a51 {ms : List Nat} {n0 : Nat} {az : List Ac} (h : bj4 ms n0 az = true) {i : Nat} {a : Ac} (ha : az[i]? = some a) : ∀ id, (id ∈ a.t.res.ids ∨ id ∈ a.t.new.map (·.1) ∨ ∃ p ∈ a.t.new, id ∈ p.2.ids) → id < n0 ∨ (id - n0) / 8 = i ∨ bef ms ((id - n0) / 8) i = true := by
 intro id hid
 have hi := (bX7.1 ha).1
 have h1 := bX9.1 h i (b11.2 hi)
 rw [ha] at h1
 have h2 := bX9.1 h1 id (by
  rcases hid with h | h | ⟨p, hp, h⟩
  ·exact List.mem_append_left _ (List.mem_append_left _ h)
  ·exact List.mem_append_left _ (List.mem_append_right _ h)
  ·exact List.mem_append_right _ (List.mem_flatMap.2 ⟨p, hp, h⟩))
 simp only [Bool.or_eq_true, decide_eq_true_eq, natEq, beq_iff_eq] at h2
 rcases h2 with (h2 | h2) | h2
 ·exact .inl h2
 ·exact .inr (.inl h2)
 ·exact .inr (.inr h2)
theorem aF3 {dk : TypeId → Nat} {H : O1} (hH : ∀ i c τ, J1 H.calls i = some (c, τ) → c.ok P) (hF : L9 H.facts) {l : List Oper} {id : Nat} {Q : Exit → Act → World → Prop} {tm : List (Nat × AV)} {a : Act} {wr : World} (I0 : Inn φ ψ w0 F N m ρ0 n ρ (y5 tm) S a wr) {r : RS} (hrun : R2 P dk N l H l 0 tm S n = some r) (ho : s5 r.obs) (heq : r.acts.map (·.eqs.1) = r.acts.map (·.eqs.2)) (hew : r.acts.map (·.eqw.1) = r.acts.map (·.eqw.2))
  (ms : List Nat) (hm : P.follows .mixedOrders = true) (hb : ac0 l.toArray = true) (hms : aH4 ms l = true) (hord : bC8 ms r.acts = true) (hment : bj4 ms n r.acts = true) (hweak : bd7 ms S r.acts = true)
  (done : ∀ ρ' a' w' n', Inn φ ψ w0 F N m ρ0 n' ρ' (y5 r.tm) r.S a' w' → Q .normal a' w') : (Code.region id l.toArray true).wp P Q a wr := by
 obtain ⟨hlen, hfT, hfS, hat⟩ := a41 l 0 n hrun ho
 have hmt : ∀ (i : Nat) ac, r.acts[i]? = some ac → ∀ t b, b.dst = some t → t ∈ ac.rt → Z1 ac b = true := fun i ac _ t b hb ht => by
  simp [Z1, hb, r7.2 ht]
 have hmd : ∀ ac b t, ac.dst = some t → b.dst = some t → Z1 ac b = true := fun ac b t h1 h2 => by
  simp [Z1, h1, h2, natEq]
 have hms' : ∀ (ac b : Ac) (j : Nat), j ∈ ac.ri → j ∈ b.t.new.map (·.1) → Z1 ac b = true := fun ac b j h1 h2 => by
  obtain ⟨p, hp, rfl⟩ := List.mem_map.1 h2
  unfold Z1
  have : b.t.new.any (fun p => memN p.1 ac.ri || ac.t.new.any fun q => natEq q.1 p.1) = true := List.any_eq_true.2 ⟨p, hp, by simp [r7.2 h1]⟩
  rw [this]; simp
 have hmn : ∀ (ac b : Ac) (j : Nat), j ∈ ac.t.new.map (·.1) → j ∈ b.t.new.map (·.1) → Z1 ac b = true := fun ac b j h1 h2 => by
  obtain ⟨p, hp, rfl⟩ := List.mem_map.1 h2
  obtain ⟨q, hq, e⟩ := List.mem_map.1 h1
  unfold Z1
  have : b.t.new.any (fun p => memN p.1 ac.ri || ac.t.new.any fun q => natEq q.1 p.1) = true := List.any_eq_true.2 ⟨p, hp, by
   have : ac.t.new.any (fun q => natEq q.1 p.1) = true := List.any_eq_true.2 ⟨q, hq, by simp [natEq, e]⟩
   rw [this]; simp⟩
  rw [this]; simp
 refine as6 (RI φ ψ w0 F N m ρ0 l r.acts (y5 tm) S) hm hb ?_ ?_ ?_
 ·refine ⟨by simp, fun j o _ hj => ?_, ρ, I0.old, I0.size, I0.defs, fun t x hx => ?_, ?_⟩
  ·have hj' : (Array.replicate l.length false).getD j false = true := hj
   rw [getD_replicate_false] at hj'; cases hj'
  ·refine I0.tmv t x ?_
   rw [← hx]
   exact (U3 fun j b _ _ => getD_replicate_false _ _).symm
  ·have e : sD r.acts (fun j => (Array.replicate l.length false).getD j false) S = S := by
    funext j; exact U3 fun j b _ _ => getD_replicate_false _ _
   rw [e]; exact I0.mem.drew
 ·rintro listed a w ⟨hsz, hdn, ρ, hold, hN, hdf, hv, M⟩ i o hoi hun hdep Q' hQ
  generalize hB : (fun j => listed.getD j false) = B at *
  have hBj : ∀ j, B j = listed.getD j false := fun j => by rw [← hB]
  have hil := (bX7.1 hoi).1
  have hBi : B i = false := by
   rw [hBj, ← a58 (by omega)]; exact hun
  obtain ⟨ac, ob, hac, hob, hop⟩ := hat i o hoi
  simp only [b06] at hop
  have heqi : ac.eqs.1 = ac.eqs.2 := by
   have := congrArg (·[i]?) heq
   simpa [hac] using this
  have hewi : ac.eqw.1 = ac.eqw.2 := by
   have := congrArg (·[i]?) hew
   simpa [hac] using this
  obtain ⟨hdst, hdN, hfine⟩ := aH1 hop
  obtain ⟨hf1, hf2, hf3⟩ := X8 hfine
  have hdep' : ∀ e ∈ o.after, Region.binds .any e = true → B e.on = true := fun e he hbi => by rw [hBj]; exact hdep e he hbi
  have ahead : ∀ j, bef ms j i = true → B j = true := fun j hj => bc3 hms hb hdn hoi hdep' hj
  have behind : ∀ j, j < l.length → bef ms i j = true → B j = false := fun j hjl hj => by
   cases h : B j
   ·rfl
   ·have := ax9 hms hb hdn j hjl h i hj
    rw [hBi] at this; cases this
  have hagree : ∀ (j : Nat) b, r.acts[j]? = some b → Z1 ac b = true → B j = decide (j < i) := fun j b hj hmm => by
   have hjl : j < l.length := by have := (bX7.1 hj).1; omega
   rcases Nat.lt_trichotomy j i with h | h | h
   ·rw [ahead j ((aW8 hord hac hj (by omega) hmm).1 h)]; simp [h]
   ·subst h; rw [hBi]; simp
   ·rw [behind j hjl ((aW8 hord hac hj (by omega) hmm).2 h)]
    have : ¬ j < i := by omega
    simp [this]
  have hop2 := a88 hop (tm' := tmD r.acts B (y5 tm)) (S' := sD r.acts B S) (fun t ht => O8 fun j b hj hw => by
    rw [b06]
    refine hagree j b hj (hmt i ac hac t b ?_ ht)
    unfold wrT at hw
    split at hw
    ·assumption
    ·cases hw)
   (fun q hq => O8 fun j b hj hw => by
    rw [b06]
    obtain ⟨x, hx⟩ := b09.1 hw
    exact hagree j b hj (hms' ac b q hq (List.mem_map.2 ⟨_, N9 hx, rfl⟩)))
   (fun q hq => by
    show knd (pf (wrS q) r.acts 0 B (S q)) = _
    rw [a26 hweak hac hq fun k _ hk => ahead k hk, a26 hweak hac hq fun k hk _ => by simpa using hk])
  have hrange : ∀ id, n + 8 * i ≤ id → id < n + 8 * i + 8 → (id - n) / 8 = i := fun id h1 h2 => by omega
  have hmk : ∀ j ∈ ac.t.made, sD r.acts B S j = .none := fun j hj => by
   obtain ⟨g1, g2⟩ := hf2 j hj
   have e : sD r.acts B S j = S j := U3 fun k b hk hw => by
    rw [b06]
    obtain ⟨x, hx⟩ := b09.1 hw
    have hkl : k < l.length := by have := (bX7.1 hk).1; omega
    rcases a51 hment hk j (.inr (.inl (List.mem_map.2 ⟨_, N9 hx, rfl⟩))) with h | h | h
    ·omega
    ·rw [hrange j g1 g2] at h; subst h; exact hBi
    ·rw [hrange j g1 g2] at h; exact behind k hkl h
   rw [e]; exact (I0.bd j).2 (by omega)
  have hnot : ∀ (k : Nat) b, r.acts[k]? = some b → B k = true → ∀ id, (id ∈ b.t.res.ids ∨ id ∈ b.t.new.map (·.1) ∨ ∃ p ∈ b.t.new, id ∈ p.2.ids) → id ∉ ac.t.made := fun k b hk hBk id hid hm => by
   obtain ⟨g1, g2⟩ := hf2 id hm
   have hkl : k < l.length := by have := (bX7.1 hk).1; omega
   rcases a51 hment hk id hid with h | h | h
   ·omega
   ·rw [hrange id g1 g2] at h; subst h; rw [hBi] at hBk; cases hBk
   ·rw [hrange id g1 g2] at h; rw [behind k hkl h] at hBk; cases hBk
  have hitem : ∀ j, ∀ id ∈ (sD r.acts B S j).ids, id ∉ ac.t.made := fun j => by
   refine ai0 (fun x : It => ∀ id ∈ x.ids, id ∉ ac.t.made) (fun id hid hm => ?_) fun k b x hk hBk hw id hid => ?_
   ·have := (I0.bd j).1 id hid; have := (hf2 id hm).1; omega
   ·rw [b06] at hBk
    exact hnot k b hk hBk id (.inr (.inr ⟨_, N9 hw, hid⟩))
  have htm : ∀ t x, tmD r.acts B (y5 tm) t = some x → ∀ id ∈ x.ids, id ∉ ac.t.made := fun t => by
   refine ai0 (fun y : Option AV => ∀ x, y = some x → ∀ id ∈ x.ids, id ∉ ac.t.made) (fun x hx id hid hm => ?_) fun k b y hk hBk hw x hx id hid => ?_
   ·have := I0.tmi t x hx id hid; have := (hf2 id hm).1; omega
   ·rw [b06] at hBk
    unfold wrT at hw
    split at hw
    ·cases hw; cases hx
     exact hnot k b hk hBk id (.inl hid)
    ·cases hw
  have hinv : Inv (sD r.acts B S) ρ ac.t.made := fun ρ' ha j => by
   refine It.res_congr _ (fun id hid => ha id (hitem j id hid)) ?_
   by_cases hj : j ∈ ac.t.made
   ·exact .inl (hmk j hj)
   ·exact .inr (.inr (ha j hj))
  refine bt9 hH hF hv M hop2 hob heqi hewi hmk hinv fun ρ' w' ha M' => ?_
  refine hQ _ _ ?_
  have hB' : ∀ j, (listed.setIfInBounds i true).getD j false = if j = i then true else B j := fun j => by
   by_cases e : j = i
   ·subst e
    have : j < listed.size := by omega
    simp [this]
   ·rw [if_neg e, getD_set_ne false (fun h => e h.symm), hBj]
  have hBe : (fun j => (listed.setIfInBounds i true).getD j false) = fun j => if j = i then true else B j := funext hB'
  have later : ∀ (j : Nat) b, i < j → r.acts[j]? = some b → Z1 ac b = true → (if j = i then true else B j) = false := fun j b hij hj hmm => by
   have hjl : j < l.length := by have := (bX7.1 hj).1; omega
   rw [if_neg (by omega)]
   exact behind j hjl ((aW8 hord hac hj (by omega) hmm).2 hij)
  have eT : tmD r.acts (fun j => if j = i then true else B j) (y5 tm) = ay9 ac.dst ac.t.res (tmD r.acts B (y5 tm)) := by
   funext t
   simp only [ay9]
   by_cases e : ac.dst = some t
   ·rw [if_pos e]
    refine aH0 (i := i) hac (by simp [wrT, e]) (by simp) fun j b hij hj hw => ?_
    rw [b06]
    refine later j b hij hj (hmd ac b t e ?_)
    unfold wrT at hw
    split at hw
    ·assumption
    ·cases hw
   ·rw [if_neg e]
    refine O8 fun j b hj hw => ?_
    have : j ≠ i := fun h => by
     subst h
     rw [hac] at hj; cases hj
     simp [wrT, e] at hw
    simp [this]
  have eS : sD r.acts (fun j => if j = i then true else B j) S = l7 (sD r.acts B S) ac.t.new := by
   funext q
   rw [ak0]
   cases hx : aw4 ac.t.new q with
   | some x =>
    refine aH0 (i := i) hac hx (by simp) fun j b hij hj hw => ?_
    rw [b06]
    obtain ⟨y, hy⟩ := b09.1 hw
    exact later j b hij hj (hmn ac b q (List.mem_map.2 ⟨_, N9 hx, rfl⟩) (List.mem_map.2 ⟨_, N9 hy, rfl⟩))
   | none =>
    refine O8 fun j b hj hw => ?_
    have : j ≠ i := fun h => by
     subst h
     rw [hac] at hj; cases hj
     unfold wrS at hw
     rw [hx] at hw; cases hw
    simp [this]
  refine ⟨by simpa using hsz, ?_, ρ', fun j hj => (ha j fun hm => by have := (hf2 j hm).1; have := I0.le; omega).trans (hold j hj), (aO1 _ _ _).trans hN, (aO2 _ _ _).trans hdf, ?_, ?_⟩
  ·rw [hBe]
   intro j oj hj hBj' e he hbi
   show (if e.on = i then true else B e.on) = true
   by_cases e1 : e.on = i
   ·simp [e1]
   ·rw [if_neg e1]
    by_cases e2 : j = i
    ·subst e2
     rw [hoi] at hj; cases hj
     exact hdep' e he hbi
    ·simp only [if_neg e2] at hBj'
     exact hdn j oj hj hBj' e he hbi
  ·rw [hBe, eT, hdst]
   intro t x hx
   rw [bh6 (by rw [hN]; exact hdN)]
   simp only [ay9] at hx
   split
   ·rename_i e; rw [if_pos e] at hx; cases hx; rfl
   ·rename_i e
    rw [if_neg e] at hx
    rw [hv t x hx, AV.val_congr x fun id hid => ha id (htm t x hx id hid)]
  ·rw [hBe, eS]; exact M'
 ·rintro listed a w ⟨hsz, hdn, ρ, hold, hN, hdf, hv, M⟩ hall
  have hall' : ∀ j, j < l.length → listed.getD j false = true := fun j hj => by rw [← a58 (by omega)]; exact hall j hj
  have eT : tmD r.acts (fun j => listed.getD j false) (y5 tm) = y5 r.tm := by
   funext t
   rw [hfT t]
   refine O8 fun j b hj _ => ?_
   rw [b06]
   exact hall' j (by have := (bX7.1 hj).1; omega)
  have eS : sD r.acts (fun j => listed.getD j false) S = r.S := by
   funext q
   rw [hfS q]
   refine O8 fun j b hj _ => ?_
   rw [b06]
   exact hall' j (by have := (bX7.1 hj).1; omega)
  have hids : ∀ (k : Nat) b, r.acts[k]? = some b → ∀ id, (id ∈ b.t.res.ids ∨ id ∈ b.t.new.map (·.1) ∨ ∃ p ∈ b.t.new, id ∈ p.2.ids) → id < n + 8 * l.length := fun k b hk id hid => by
   have hkl : k < l.length := by have := (bX7.1 hk).1; omega
   obtain ⟨o, ho'⟩ : ∃ o, l[k]? = some o := ⟨_, bW9 hkl⟩
   obtain ⟨ac, ob, hac, _, hop⟩ := hat k o ho'
   rw [hk] at hac; cases hac
   obtain ⟨_, _, hfine⟩ := aH1 hop
   obtain ⟨hf1, hf2, hf3⟩ := X8 hfine
   rcases hid with h | h | ⟨p, hp, h⟩
   ·have := hf3 id h; omega
   ·obtain ⟨p, hp, rfl⟩ := List.mem_map.1 h
    have := (hf1 p hp).1; omega
   ·have := (hf1 p hp).2 id h; omega
  refine done ρ a w (n + 8 * l.length) ⟨hN, hdf, by rw [← eT]; exact hv, fun t x hx => ?_, fun j => ?_, by rw [← eS]; exact M, by have := I0.le; omega, hold⟩
  ·rw [hfT t] at hx
   revert x
   refine ai0 (fun y : Option AV => ∀ x, y = some x → ∀ id ∈ x.ids, id < n + 8 * l.length) (fun x hx id hid => ?_) fun k b y hk _ hw x hx id hid => ?_
   ·have := I0.tmi t x hx id hid; omega
   ·unfold wrT at hw
    split at hw
    ·cases hw; cases hx
     exact hids k b hk id (.inl hid)
    ·cases hw
  ·refine ⟨?_, fun hj => ?_⟩
   ·rw [hfS j]
    refine ai0 (fun x : It => ∀ id ∈ x.ids, id < n + 8 * l.length) (fun id hid => ?_) fun k b x hk _ hw id hid => ?_
    ·have := (I0.bd j).1 id hid; omega
    ·exact hids k b hk id (.inr (.inr ⟨_, N9 hw, hid⟩))
   ·rw [hfS j, U3 fun k b hk hw => ?_]
    ·exact (I0.bd j).2 (by omega)
    ·obtain ⟨x, hx⟩ := b09.1 hw
     have := hids k b hk j (.inr (.inl (List.mem_map.2 ⟨_, N9 hx, rfl⟩)))
     omega
end
def s4 {ι : Type} (φ ψ : Nat → Prop) (w0 : World) (F : ι → Rs) (N m : Nat) (ρ0 ρ : Nat → Value) (S : List It) (tm : List (Nat × AV)) (a : Act) (w : World) : Prop := Inn φ ψ w0 F N m ρ0 S.length ρ (y5 tm) (o7 S) a w
def wfB (S : List It) (tm : List (Nat × AV)) : Bool := S.all (fun x => V7 S.length x.ids) && tm.all (fun p => V7 S.length p.2.ids)
def bL1 (m : Nat) (js : List Nat) : Bool := (bY5 m).all fun i => natEq (nth js i) i && decide (i < js.length)
def aa4 (m : Nat) (js : List Nat) (S : List It) (tm : List (Nat × AV)) : Bool := nodupB js && natEq js.length S.length && wfB S tm && bL1 m js
section
variable {P : Program} {ι : Type} {φ ψ : Nat → Prop} {w0 w w' : World} {F : ι → Rs} {ρ ρ0 : Nat → Value} {N m n : Nat} {S : List It} {tm : List (Nat × AV)} {a : Act} {Q : Exit → Act → World → Prop}
theorem av3 : ∀ {tm : List (Nat × AV)} {t : Nat} {x : AV}, y5 tm t = some x → (t, x) ∈ tm
 | [], _, _, h => by cases h
 | (k, y) :: r, t, x, h => by
  simp only [y5, natEq, beq_iff_eq] at h
  split at h
  ·rename_i e; subst e; cases h; exact b01
  ·exact b00 _ (av3 h)
theorem al0 {l : List It} {i : Nat} (h : i < l.length) : o7 l i = l[i] := by simp [o7, bX2, h]
theorem v9 {l : List It} {i : Nat} (h : l.length ≤ i) : o7 l i = .none := by simp [o7, bX2, h]
theorem by2 {S : List It} {tm : List (Nat × AV)} (h : wfB S tm = true) : (∀ j, (∀ id ∈ (o7 S j).ids, id < S.length) ∧ (S.length ≤ j → o7 S j = .none)) ∧ ∀ t x, y5 tm t = some x → ∀ id ∈ x.ids, id < S.length := by
 simp only [wfB, bX0] at h
 refine ⟨fun j => ⟨fun id hid => ?_, fun hj => v9 hj⟩, fun t x hx id hid => ?_⟩
 ·rcases bY8 j S.length with hj | hj
  ·rw [al0 hj] at hid
   exact G0 (bX9.1 h.1 _ (bZ0 hj)) id hid
  ·rw [v9 hj] at hid; cases hid
 ·exact G0 (bX9.1 h.2 _ (av3 hx)) id hid
theorem Inn.sel {tf : Nat → Option AV} {Sf : Nat → It} (I : Inn φ ψ w0 F N m ρ0 n ρ tf Sf a w) (js : List Nat) (S1 : List It) (tm1 : List (Nat × AV)) (hb : aa4 m js S1 tm1 = true) (hS : js.map Sf = S1.map (It.ren (nth js))) (ht : (tm1.map (·.1)).map tf = tm1.map fun p => some (p.2.ren (nth js))) :
  s4 φ ψ w0 F N m ρ0 (fun i => ρ (nth js i)) S1 tm1 a w := by
 simp only [aa4, bX0, natEq, beq_iff_eq] at hb
 obtain ⟨⟨⟨hnd, hl⟩, hwf⟩, hkeep⟩ := hb
 have hn := au8 hnd
 obtain ⟨b1, b2⟩ := by2 hwf
 have hk : ∀ i, i < m → nth js i = i ∧ i < js.length := fun i hi => by
  have := bX9.1 hkeep i (b11.2 hi)
  simpa [natEq] using this
 refine ⟨I.size, I.defs, fun t x hx => ?_, b2, b1, ?_, ?_, fun i hi => ?_⟩
 ·obtain ⟨i, hi⟩ := List.mem_iff_getElem?.1 (av3 hx)
  have h1 := congrArg (·[i]?) ht
  simp only [List.getElem?_map, hi, Option.map_some] at h1
  rw [I.tmv t _ (Option.some.inj h1), AV.val_ren]
 ·refine I.mem.map (fun k : ι ⊕ Nat => (match k with | .inl i => some (.inl i) | .inr i => if i < js.length then some (.inr (nth js i)) else none : Option (ι ⊕ Nat))) ?_ ?_
  ·intro k k' x h1 h2
   match k, k' with
   | .inl i, .inl i' => simp at h1 h2; rw [← h1] at h2; simpa using h2.symm
   | .inl i, .inr j => simp only at h1 h2; cases h1; split at h2 <;> simp at h2
   | .inr j, .inl i => simp only at h1 h2; cases h2; split at h1 <;> simp at h1
   | .inr j, .inr j' =>
    simp at h1 h2
    obtain ⟨f1, f2⟩ := h1
    obtain ⟨g1, g2⟩ := h2
    rw [← f2] at g2
    have hj := Sum.inr.inj g2
    have e1 := bW9 f1
    have e2 := bW9 g1
    rw [E8 e2, E8 e1] at hj
    have := (List.getElem?_inj f1 hn).1 (e1.trans (by rw [← hj]; exact e2.symm))
    rw [this]
  ·intro k
   match k with
   | .inl i => exact .inl ⟨_, rfl, rfl⟩
   | .inr i =>
    by_cases hlt : i < js.length
    ·refine .inl ⟨.inr (nth js i), by simp [hlt], ?_⟩
     have h1 := congrArg (·[i]?) hS
     have hlt' : i < S1.length := by omega
     simp only [List.getElem?_map, bW9 hlt, bW9 hlt', Option.map_some, Option.some.injEq] at h1
     simp only [l6]
     rw [al0 hlt', E8 (bW9 hlt), h1, ← It.res_ren, E8 (bW9 hlt)]
    ·refine .inr ?_
     simp only [l6]
     rw [v9 (by omega)]
     rfl
 ·rcases bY8 S1.length m with h | h
  ·have := (hk S1.length h).2; omega
  ·exact h
 ·rw [(hk i hi).1]; exact I.old i hi
def aO6 (o : Option RS) (js ts : List Nat) : Option (List Prop × List It × List (Option AV) × List (List (List AV × List It)) × List (List AV)) := o.map fun r => (r.obs, js.map r.S, ts.map (y5 r.tm), r.acts.map (·.eqs.1), r.acts.map (·.eqw.1))
def aW7 (o : Option RS) (obs : List Prop) (js : List Nat) (S : List It) (tm : List (Nat × AV)) : Option (List Prop × List It × List (Option AV) × List (List (List AV × List It)) × List (List AV)) := o.map fun r => (obs, S.map (It.ren (nth js)), tm.map (fun p => some (p.2.ren (nth js))), r.acts.map (·.eqs.2), r.acts.map (·.eqw.2))
def a64 (l : List Oper) (ms : List Nat) (n : Nat) (S : Nat → It) (o : Option RS) : Bool := aH4 ms l && ac0 l.toArray && match o with
 | some r => bC8 ms r.acts && bj4 ms n r.acts && bd7 ms S r.acts
 | none => false
theorem bB8 {dk : TypeId → Nat} {l : List Oper} {id : Nat} (G : s4 φ ψ w0 F N m ρ0 ρ S tm a w) (H : O1) (hH : ∀ i c τ, J1 H.calls i = some (c, τ) → c.ok P) (hF : L9 H.facts) (js : List Nat) (S1 : List It) (tm1 : List (Nat × AV)) (obs : List Prop)
  (hs : ((R2 P dk N l H l 0 tm (o7 S) S.length).isSome && aa4 m js S1 tm1) = true)
  (hc : aO6 (R2 P dk N l H l 0 tm (o7 S) S.length) js (tm1.map (·.1)) = aW7 (R2 P dk N l H l 0 tm (o7 S) S.length) obs js S1 tm1)
  (ho : s5 obs) (k : ∀ ρ' a' w', s4 φ ψ w0 F N m ρ0 ρ' S1 tm1 a' w' → Q .normal a' w') : (Code.region id l.toArray false).wp P Q a w := by
 simp only [bX0] at hs
 obtain ⟨r, hr⟩ := b09.1 hs.1
 rw [hr] at hc
 simp only [aO6, aW7, Option.map_some, Option.some.injEq, Prod.mk.injEq] at hc
 obtain ⟨h1, h2, h3, h4, h5⟩ := hc
 refine wp_region_lit (a40 hH hF l 0 S.length G hr (by rw [h1]; exact ho) h4 h5 fun ρ' a' w' n' I => ?_)
 exact k _ a' w' (I.sel js S1 tm1 hs.2 h2 h3)
theorem bs2 {dk : TypeId → Nat} {l : List Oper} {id : Nat} (G : s4 φ ψ w0 F N m ρ0 ρ S tm a w) (H : O1) (hH : ∀ i c τ, J1 H.calls i = some (c, τ) → c.ok P) (hF : L9 H.facts) (ms : List Nat) (js : List Nat) (S1 : List It) (tm1 : List (Nat × AV)) (obs : List Prop) (hm : P.follows .mixedOrders = true)
  (hs : (a64 l ms S.length (o7 S) (R2 P dk N l H l 0 tm (o7 S) S.length) && aa4 m js S1 tm1) = true)
  (hc : aO6 (R2 P dk N l H l 0 tm (o7 S) S.length) js (tm1.map (·.1)) = aW7 (R2 P dk N l H l 0 tm (o7 S) S.length) obs js S1 tm1)
  (ho : s5 obs) (k : ∀ ρ' a' w', s4 φ ψ w0 F N m ρ0 ρ' S1 tm1 a' w' → Q .normal a' w') : (Code.region id l.toArray true).wp P Q a w := by
 simp only [bX0, a64] at hs
 obtain ⟨⟨⟨q1, q2⟩, q3⟩, q4⟩ := hs
 cases hr : R2 P dk N l H l 0 tm (o7 S) S.length with
 | none => rw [hr] at q3; cases q3
 | some r =>
  rw [hr] at q3 hc
  simp only [bX0] at q3
  simp only [aO6, aW7, Option.map_some, Option.some.injEq, Prod.mk.injEq] at hc
  obtain ⟨h1, h2, h3, h4, h5⟩ := hc
  refine aF3 hH hF G hr (by rw [h1]; exact ho) h4 h5 ms hm q2 q1 q3.1.1 q3.1.2 q3.2 fun ρ' a' w' n' I => ?_
  exact k _ a' w' (I.sel js S1 tm1 q4 h2 h3)
theorem rs1 {dk : TypeId → Nat} {l : List Oper} {id : Nat} (G : s4 φ ψ w0 F N m ρ0 ρ S tm a w) (H : O1) (hH : ∀ i c τ, J1 H.calls i = some (c, τ) → c.ok P) (hF : L9 H.facts) (js : List Nat) (S1 : List It) (tm1 : List (Nat × AV)) (obs : List Prop)
  (ho : s5 obs) (k : ∀ ρ' a' w', s4 φ ψ w0 F N m ρ0 ρ' S1 tm1 a' w' → Q .normal a' w')
  (hs : ((R2 P dk N l H l 0 tm (o7 S) S.length).isSome && aa4 m js S1 tm1) = true := by kernel_rfl)
  (hc : aO6 (R2 P dk N l H l 0 tm (o7 S) S.length) js (tm1.map (·.1)) = aW7 (R2 P dk N l H l 0 tm (o7 S) S.length) obs js S1 tm1 := by kernel_rfl) : (Code.region id l.toArray false).wp P Q a w := bB8 G H hH hF js S1 tm1 obs hs hc ho k
theorem rd1 {dk : TypeId → Nat} {l : List Oper} {id : Nat} (G : s4 φ ψ w0 F N m ρ0 ρ S tm a w) (H : O1) (hH : ∀ i c τ, J1 H.calls i = some (c, τ) → c.ok P) (hF : L9 H.facts) (ms : List Nat) (js : List Nat) (S1 : List It) (tm1 : List (Nat × AV)) (obs : List Prop)
  (ho : s5 obs) (k : ∀ ρ' a' w', s4 φ ψ w0 F N m ρ0 ρ' S1 tm1 a' w' → Q .normal a' w') (hm : P.follows .mixedOrders = true := by kernel_rfl)
  (hs : (a64 l ms S.length (o7 S) (R2 P dk N l H l 0 tm (o7 S) S.length) && aa4 m js S1 tm1) = true := by kernel_rfl)
  (hc : aO6 (R2 P dk N l H l 0 tm (o7 S) S.length) js (tm1.map (·.1)) = aW7 (R2 P dk N l H l 0 tm (o7 S) S.length) obs js S1 tm1 := by kernel_rfl) : (Code.region id l.toArray true).wp P Q a w := bs2 G H hH hF ms js S1 tm1 obs hm hs hc ho k
theorem ad2 : ∀ i c τ, J1 [] i = some (c, τ) → j8.ok P c := fun i c τ h => by cases h
theorem ax3 {i0 : Nat} {c0 : j8} {τ0 : List Nat} {r : List (Nat × j8 × List Nat)} (h0 : c0.ok P) (hr : ∀ i c τ, J1 r i = some (c, τ) → j8.ok P c) : ∀ i c τ, J1 ((i0, c0, τ0) :: r) i = some (c, τ) → j8.ok P c := fun i c τ h => by
 simp only [J1] at h
 split at h
 ·cases h; exact h0
 ·exact hr i c τ h
theorem s4.sel (G : s4 φ ψ w0 F N m ρ0 ρ S tm a w) (js : List Nat) (S1 : List It) (tm1 : List (Nat × AV)) (hb : aa4 m js S1 tm1 = true) (hS : js.map (o7 S) = S1.map (It.ren (nth js))) (ht : (tm1.map (·.1)).map (y5 tm) = tm1.map fun p => some (p.2.ren (nth js))) : ∃ ρ', s4 φ ψ w0 F N m ρ0 ρ' S1 tm1 a w := ⟨_, Inn.sel G js S1 tm1 hb hS ht⟩
theorem s4.as (G : s4 φ ψ w0 F N m ρ0 ρ S tm a w) (S1 : List It) (tm1 : List (Nat × AV)) (hS : S = S1) (ht : tm = tm1) : s4 φ ψ w0 F N m ρ0 ρ S1 tm1 a w := by subst hS; subst ht; exact G
theorem s4.at (G : s4 φ ψ w0 F N m ρ0 ρ S tm a w) (S1 : List It) (tm1 : List (Nat × AV)) (hS : S = S1 := by kernel_rfl) (ht : tm = tm1 := by kernel_rfl) : s4 φ ψ w0 F N m ρ0 ρ S1 tm1 a w := G.as S1 tm1 hS ht
theorem ac3 {c : Nat} {x y : Code} (G : s4 φ ψ w0 F N m ρ0 ρ S tm a w) (b : Bool) (hc : y5 tm c = some (.v (.bool b))) (ht : b = true → x.wp P Q a w) (hf : b = false → y.wp P Q a w) : (Code.cond (.tmp c) x y).wp P Q a w := by
 have h := G.tmv c _ hc
 refine wp_cond_split (t := b) ?_ ht hf
 simp [Act.eval, Array.getD_eq_getD_getElem?, h, AV.val]
theorem bg8 {c : Nat} {x y : Code} (G : s4 φ ψ w0 F N m ρ0 ρ S tm a w) (b : Bool) (hc : y5 tm c = some (.v (.bool b))) (hb : b = true) (h : x.wp P Q a w) : (Code.cond (.tmp c) x y).wp P Q a w := ac3 G b hc (fun _ => h) fun hf => by rw [hb] at hf; cases hf
theorem bg9 {c : Nat} {x y : Code} (G : s4 φ ψ w0 F N m ρ0 ρ S tm a w) (b : Bool) (hc : y5 tm c = some (.v (.bool b))) (hb : b = false) (h : y.wp P Q a w) : (Code.cond (.tmp c) x y).wp P Q a w := ac3 G b hc (fun ht => by rw [hb] at ht; cases ht) fun _ => h
def aV8 (P : Program) (tm : Nat → Option AV) (S : Nat → It) : List ResultVar → Option (List AV)
 | [] => some []
 | .tmp t :: r =>
  match tm t, aV8 P tm S r with
  | some x, some l => some (x :: l)
  | _, _ => none
 | .cell t ty :: r =>
  match tm t, aV8 P tm S r with
  | some (.ptr b off), some l =>
   match S b with
   | .box cs => (aS9 P ty ((cs.drop off).take (an8 P ty))).map fun x => x :: l
   | _ => none
  | _, _ => none
def aO0 (P : Program) (fn : Func) (tm : List (Nat × AV)) (S : List It) : Option AV :=
 match aV8 P (y5 tm) (o7 S) fn.results.toList with
 | some [x] => some x
 | some l => some (.tup l)
 | none => none
theorem bo5 {cs : List AV} {ty : TypeId} {b off : Nat} {x : AV} (hB : y9 w b (AV.vals ρ cs)) (h : aS9 P ty ((cs.drop off).take (an8 P ty)) = some x) : (loadVar ty ⟨b, off, none⟩).run P w = .ok (x.val ρ) w :=
 ad4 h ⟨b, off, none⟩ fun j u hj => by
  rw [AV.vals_take, AV.vals_drop] at hj
  have hadd : (⟨b, off, none⟩ : Addr).add j = ⟨b, off + j, none⟩ := by unfold Addr.add; split <;> simp_all
  rw [hadd, hB.cell]
  rw [List.getElem?_take] at hj
  split at hj
  ·rw [List.getElem?_drop] at hj; exact hj
  ·cases hj
theorem aG6 (G : s4 φ ψ w0 F N m ρ0 ρ S tm a w) : ∀ {rs : List ResultVar} {l : List AV}, aV8 P (y5 tm) (o7 S) rs = some l →
  (rs.mapM (fun r => (match r with | .tmp t => pure (a.tmps.getD t undef) | .cell b t => do loadVar t (← asAddr (a.tmps.getD b undef)) : Sem Value))).run P w = .ok (AV.vals ρ l) w
 | [], l, h => by cases h; simp [AV.vals]
 | .tmp t :: r, l, h => by
  simp only [aV8] at h
  split at h
  case h_2 => cases h
  rename_i x l' h1 h2
  cases h
  have ht := G.tmv t x h1
  have ih := aG6 G h2
  have e : (pure (a.tmps.getD t undef) : Sem Value).run P w = .ok (x.val ρ) w := by simp [Array.getD_eq_getD_getElem?, ht]
  rw [List.mapM_cons, Sem.run_bind, e, Result.andThen_ok, Sem.run_bind, ih]
  rfl
 | .cell t ty :: r, l, h => by
  simp only [aV8] at h
  split at h
  case h_2 => cases h
  rename_i b off l' h1 h2
  split at h
  case h_2 => cases h
  rename_i cs hS
  obtain ⟨x, h3, h4⟩ := bX5.1 h
  subst h4
  have ht := G.tmv t _ h1
  have ih := aG6 G h2
  have hl := bo5 (P := P) (G.mem.boxAt hS) h3
  have e : (do loadVar ty (← asAddr (a.tmps.getD t undef)) : Sem Value).run P w = .ok (x.val ρ) w := by
   rw [show a.tmps.getD t undef = .pointer (some ⟨Q9 (ρ b), off, none⟩) by simp [Array.getD_eq_getD_getElem?, ht, AV.val]]
   simp [asAddr, hl]
  rw [List.mapM_cons, Sem.run_bind, e, Result.andThen_ok, Sem.run_bind, ih]
  rfl
theorem bB9 {fn : Func} {R : Ending → World → Prop} {v : AV} (G : s4 φ ψ w0 F N m ρ0 ρ S tm a w) (h : aO0 P fn tm S = some v) (hR : R (.returned (v.val ρ)) w) : bodyPost P fn R .ret a w := by
 refine ⟨G.defs, v.val ρ, ?_, hR⟩
 unfold aO0 at h
 cases hl : aV8 P (y5 tm) (o7 S) fn.results.toList with
 | none => rw [hl] at h; cases h
 | some l =>
  rw [hl] at h
  have := aG6 G hl
  unfold results
  rw [Sem.run_bind, Array.mapM_eq_mapM_toList, Sem.run_map]
  erw [this]
  simp only [Result.andThen_ok, Sem.run_pure]
  match l, h with
  | [], h => cases h; rfl
  | [x], h => cases h; rfl
  | x :: y :: r, h => cases h; rfl
def ay1 (i : Nat) : List AV → List (Nat × AV)
 | [] => []
 | x :: r => (i, x) :: ay1 (i + 1) r
theorem aT0 (ρ : Nat → Value) : ∀ {l : List AV} {i t : Nat} {x : AV}, y5 (ay1 i l) t = some x → i ≤ t ∧ (AV.vals ρ l)[t - i]? = some (x.val ρ)
 | [], _, _, _, h => by cases h
 | y :: r, i, t, x, h => by
  simp only [ay1, y5, natEq, beq_iff_eq] at h
  split at h
  ·rename_i e; subst e; cases h; exact ⟨bX4 _, by simp [AV.vals]⟩
  ·obtain ⟨h1, h2⟩ := aT0 ρ h
   refine ⟨by omega, ?_⟩
   rw [show t - i = (t - (i + 1)) + 1 by omega]
   simpa [AV.vals] using h2
def aT6 (φ ψ : Nat → Prop) (w0 : World) (F : ι → Rs) (ρ0 : Nat → Value) (c : j8) (x : Ending) (w' : World) : Prop := ∃ ρ', (∀ i, i < c.pre.length → ρ' i = ρ0 i) ∧ x = .returned (c.res.val ρ') ∧ i7 φ ψ w0 w' (l6 F ρ' (o7 c.post))
theorem bg7 {c : j8} {fn : Func} {code : Code} (N : Nat) (hf : P.funcs[c.f]? = some fn) (hb : fn.body = some code) (hN : fn.ntmps = N) (hw : (wfB c.pre (ay1 0 c.args) && decide (c.args.length ≤ N)) = true)
  (k : ∀ {ι : Type} (φ ψ : Nat → Prop) (w0 w : World) (F : ι → Rs) (ρ0 ρ : Nat → Value) (a : Act), s4 φ ψ w0 F N c.pre.length ρ0 ρ c.pre (ay1 0 c.args) a w → code.wp P (bodyPost P fn (aT6 φ ψ w0 F ρ0 c)) a w) : c.ok P := by
 intro ι φ ψ w0 w F ρ M
 simp only [bX0, decide_eq_true_eq] at hw
 obtain ⟨b1, b2⟩ := by2 hw.1
 refine calls_of_wp hf hb (k φ ψ w0 w F ρ ρ _ ⟨?_, rfl, fun t x hx => ?_, b2, b1, M, bX4 _, fun _ _ => rfl⟩)
 ·simp [AV.vals_length, hN]; omega
 ·obtain ⟨_, h1⟩ := aT0 ρ hx
  rw [Nat.sub_zero] at h1
  have hlt := (bX7.1 h1).1
  rw [Array.getElem?_append_left (by simpa using hlt)]
  simpa using h1
theorem at9 {fn : Func} {c : j8} {v : AV} (G : s4 φ ψ w0 F N c.pre.length ρ0 ρ S tm a w) (js : List Nat) (h : aO0 P fn tm S = some v) (hb : aa4 c.pre.length js c.post [] = true) (hS : js.map (o7 S) = c.post.map (It.ren (nth js))) (hv : v = c.res.ren (nth js)) : bodyPost P fn (aT6 φ ψ w0 F ρ0 c) .ret a w := by
 have G1 := Inn.sel G js c.post [] hb hS rfl
 refine bB9 G h ⟨fun i => ρ (nth js i), G1.old, ?_, G1.mem⟩
 rw [hv, AV.val_ren]
theorem b0 {K : Act → World → Prop} (h : K a w) : Exit.then K Q .normal a w := h
theorem t6 {K : Act → World → Prop} {id : Nat} (h : Q (.exit id) a w) : Exit.then K Q (.exit id) a w := h
theorem n7 {K : Act → World → Prop} (h : Q .ret a w) : Exit.then K Q .ret a w := h
theorem i8 {id : Nat} (h : Q .normal a w) : Exit.inBlock id Q .normal a w := h
theorem C2 {id : Nat} (h : Q .ret a w) : Exit.inBlock id Q .ret a w := h
theorem t3 {id : Nat} (h : Q .normal a w) : Exit.inBlock id Q (.exit id) a w := by simp only [Exit.inBlock, if_true]; exact h
theorem w64 {x : Int} (h1 : -9223372036854775808 ≤ x) (h2 : x ≤ 9223372036854775807) : IntKind.i64.wrap x = x := IntWalk.i64_in x ⟨h1, h2⟩
theorem rT {c : Nat} {x y : Code} (G : s4 φ ψ w0 F N m ρ0 ρ S tm a w) (b : Bool) (hb : b = true) (h : x.wp P Q a w) (hc : y5 tm c = some (.v (.bool b)) := by kernel_rfl) : (Code.cond (.tmp c) x y).wp P Q a w := bg8 G b hc hb h
theorem rF {c : Nat} {x y : Code} (G : s4 φ ψ w0 F N m ρ0 ρ S tm a w) (b : Bool) (hb : b = false) (h : y.wp P Q a w) (hc : y5 tm c = some (.v (.bool b)) := by kernel_rfl) : (Code.cond (.tmp c) x y).wp P Q a w := bg9 G b hc hb h
theorem v5 {κ : Type} {c : Code} (pre : κ → Prop) (μ : κ → Nat) (Sk : κ → List It) (Tk : κ → List (Nat × AV)) (k0 : κ) (hp : pre k0) (G : s4 φ ψ w0 F N m ρ0 ρ (Sk k0) (Tk k0) a w)
  (round : ∀ k ρ a w, pre k → s4 φ ψ w0 F N m ρ0 ρ (Sk k) (Tk k) a w → c.wp P (Exit.then (fun a' w' => ∃ k' ρ', pre k' ∧ μ k' < μ k ∧ s4 φ ψ w0 F N m ρ0 ρ' (Sk k') (Tk k') a' w') Q) a w) : (Code.loop c).wp P Q a w := by
 refine wp_loop_ghost (fun n a w => ∃ k ρ, μ k = n ∧ pre k ∧ s4 φ ψ w0 F N m ρ0 ρ (Sk k) (Tk k) a w) (μ k0) ⟨k0, ρ, rfl, hp, G⟩ ?_
 rintro n a w ⟨k, ρ, rfl, hk, Gk⟩
 refine wp_mono (round k ρ a w hk Gk) ?_
 intro e a' w' hq
 cases e with
 | normal =>
  obtain ⟨k', ρ', h1, h2, h3⟩ := hq
  exact ⟨μ k', h2, k', ρ', rfl, h1, h3⟩
 | _ => exact hq
theorem bs1 {κ : Type} {pre : κ → Prop} {μ : κ → Nat} {Sk : κ → List It} {Tk : κ → List (Nat × AV)} {k : κ} (G : s4 φ ψ w0 F N m ρ0 ρ S tm a w) (k' : κ) (hp : pre k') (hμ : μ k' < μ k) (js : List Nat) (S1 : List It) (tm1 : List (Nat × AV)) (hs1 : Sk k' = S1) (ht1 : Tk k' = tm1)
  (hb : aa4 m js S1 tm1 = true) (hS : js.map (o7 S) = S1.map (It.ren (nth js))) (ht : (tm1.map (·.1)).map (y5 tm) = tm1.map fun p => some (p.2.ren (nth js))) :
  ∃ k' ρ', pre k' ∧ μ k' < μ k ∧ s4 φ ψ w0 F N m ρ0 ρ' (Sk k') (Tk k') a w := by
 subst hs1; subst ht1
 exact ⟨k', _, hp, hμ, Inn.sel G js _ _ hb hS ht⟩
theorem s4.len (G : s4 φ ψ w0 F N m ρ0 ρ S tm a w) (i : Nat) {d : D} (h : itD (o7 S i) = some d) : d.len ≤ 9223372036854775807 := by
 obtain ⟨_, cap, _, h1, h2, _⟩ := G.mem.sliceAt h
 unfold maxLen at h2; omega
end
def dkP (t : TypeId) : Nat :=
 if natEq t 3 then 1 else
 if natEq t 4 then 2 else
 if natEq t 5 then 3 else
 if natEq t 9 then 4 else
if natEq t 60 then 5 else
if natEq t 71 then 6 else
 if natEq t 23 then 7 else
if natEq t 43 then 8 else
if natEq t 109 then 9 else
if natEq t 111 then 10 else
 0
abbrev eA (e : c8) (r : Nat) : AV := .agg [.v (.int .i64 e.kind), .v (.int .i64 e.value), .ref r]
abbrev eS (e : c8) : List It := [.dat (.exprs e.kids)]
abbrev sA (s : c6) (r : Nat) : AV := .agg [.v (.int .i64 s.kind), .v (.int .i64 s.target), .v (.int .i64 s.index.kind), .v (.int .i64 s.index.value), .ref r, .v (.int .i64 s.value.kind), .v (.int .i64 s.value.value), .ref (r + 1), .v (.int .i64 s.count), .ref (r + 2), .ref (r + 3)]
abbrev sS (s : c6) : List It := [.dat (.exprs s.index.kids), .dat (.exprs s.value.kids), .dat (.stmts s.body), .dat (.stmts s.els)]
abbrev pA (r : Nat) : AV := .agg [.ref r, .ref (r + 1), .ref (r + 2)]
abbrev pS (p : j7) : List It := [.dat (.ints p.vars), .dat (.ints p.arrays), .dat (.stmts p.body)]
abbrev iA (n : Int) : AV := .v (.int .i64 n)
abbrev bA (b : Bool) : AV := .v (.bool b)
abbrev V1 (f : FuncId) (args : List AV) (S : List It) (res : AV) : j8 := ⟨f, args, S, S, res⟩
abbrev dI (l : List Int) : It := .dat (.ints l)
abbrev dY (l : List UInt8) : It := .dat (.bytes l)
abbrev dN (l : List c7) : It := .dat (.instrs l)
abbrev dV (l : List (Int × Int)) : It := .dat (.events l)
abbrev dR (l : List (List Int)) : It := .dat (.rows l)
abbrev dE (l : List c8) : It := .dat (.exprs l)
abbrev dT (l : List c6) : It := .dat (.stmts l)
abbrev eL (e : c8) (r : Nat) : List AV := [.v (.int .i64 e.kind), .v (.int .i64 e.value), .ref r]
abbrev sL (s : c6) (r : Nat) : List AV := [.v (.int .i64 s.kind), .v (.int .i64 s.target), .v (.int .i64 s.index.kind), .v (.int .i64 s.index.value), .ref r, .v (.int .i64 s.value.kind), .v (.int .i64 s.value.value), .ref (r + 1), .v (.int .i64 s.count), .ref (r + 2), .ref (r + 3)]
abbrev pL (r : Nat) : List AV := [.ref r, .ref (r + 1), .ref (r + 2)]
section
variable {P : Program} {ι : Type} {φ ψ : Nat → Prop} {w0 w w' : World} {F : ι → Rs} {ρ ρ0 : Nat → Value} {N m n : Nat} {S : List It} {tm : List (Nat × AV)} {a : Act} {Q : Exit → Act → World → Prop}
end
theorem c8.eta (e : c8) : (⟨e.kind, e.value, e.kids⟩ : c8) = e := by cases e; rfl
theorem c6.eta (s : c6) : (⟨s.kind, s.target, s.index, s.value, s.count, s.body, s.els⟩ : c6) = s := by cases s; rfl
section
variable {ι : Type} {P : Program} {φ ψ : Nat → Prop} {w0 w : World} {F : ι → Rs} {N m : Nat} {ρ0 ρ : Nat → Value} {S : List It} {tm : List (Nat × AV)} {a : Act}
theorem I9 {fn : Func} {c : j8} (G : s4 φ ψ w0 F N c.pre.length ρ0 ρ S tm a w) (js : List Nat) (hS : js.map (o7 S) = c.post.map (It.ren (nth js)) := by kernel_rfl) (h : aO0 P fn tm S = some (c.res.ren (nth js)) := by kernel_rfl) (hb : aa4 c.pre.length js c.post [] = true := by kernel_rfl) : bodyPost P fn (aT6 φ ψ w0 F ρ0 c) .ret a w := at9 G js h hb hS rfl
theorem bR5 {fn : Func} {c : j8} (G : s4 φ ψ w0 F N c.pre.length ρ0 ρ S tm a w) (js : List Nat) (hS : js.map (o7 S) = c.post.map (It.ren (nth js)) := by kernel_rfl) (h : aO0 P fn tm S = some (c.res.ren (nth js)) := by kernel_rfl) (hb : aa4 c.pre.length js c.post [] = true := by kernel_rfl) : bodyPost P fn (aT6 φ ψ w0 F ρ0 c) .normal a w := at9 G js h hb hS rfl
theorem W4 {fn : Func} {c : j8} (v : AV) (G : s4 φ ψ w0 F N c.pre.length ρ0 ρ S tm a w) (js : List Nat) (hv : v = c.res.ren (nth js)) (hS : js.map (o7 S) = c.post.map (It.ren (nth js)) := by kernel_rfl) (h : aO0 P fn tm S = some v := by kernel_rfl) (hb : aa4 c.pre.length js c.post [] = true := by kernel_rfl) : bodyPost P fn (aT6 φ ψ w0 F ρ0 c) .ret a w := at9 G js h hb hS hv
theorem J5 {κ : Type} {pre : κ → Prop} {μ : κ → Nat} {Sk : κ → List It} {Tk : κ → List (Nat × AV)} {k : κ} (G : s4 φ ψ w0 F N m ρ0 ρ S tm a w) (k' : κ) (hp : pre k') (hμ : μ k' < μ k) (js : List Nat) (hS : js.map (o7 S) = (Sk k').map (It.ren (nth js)) := by kernel_rfl) (ht : ((Tk k').map (·.1)).map (y5 tm) = (Tk k').map (fun p => some (p.2.ren (nth js))) := by kernel_rfl) (hb : aa4 m js (Sk k') (Tk k') = true := by kernel_rfl) : ∃ k' ρ', pre k' ∧ μ k' < μ k ∧ s4 φ ψ w0 F N m ρ0 ρ' (Sk k') (Tk k') a w := bs1 G k' hp hμ js _ _ rfl rfl hb hS ht
theorem J6 {fn : Func} {f : FuncId} {args : List AV} {pre post : List It} {x : Bool} (y : Bool) (G : s4 φ ψ w0 F N pre.length ρ0 ρ S tm a w) (js : List Nat) (e : x = y) (hS : js.map (o7 S) = post.map (It.ren (nth js)) := by kernel_rfl) (h : aO0 P fn tm S = some (bA y) := by kernel_rfl) (hb : aa4 pre.length js post [] = true := by kernel_rfl) : bodyPost P fn (aT6 φ ψ w0 F ρ0 ⟨f, args, pre, post, bA x⟩) .ret a w := at9 (c := ⟨f, args, pre, post, bA x⟩) G js h hb hS (by rw [e]; rfl)
theorem rxI {fn : Func} {f : FuncId} {args : List AV} {pre post : List It} {x : Int} (y : Int) (G : s4 φ ψ w0 F N pre.length ρ0 ρ S tm a w) (js : List Nat) (e : x = y) (hS : js.map (o7 S) = post.map (It.ren (nth js)) := by kernel_rfl) (h : aO0 P fn tm S = some (iA y) := by kernel_rfl) (hb : aa4 pre.length js post [] = true := by kernel_rfl) : bodyPost P fn (aT6 φ ψ w0 F ρ0 ⟨f, args, pre, post, iA x⟩) .ret a w := at9 (c := ⟨f, args, pre, post, iA x⟩) G js h hb hS (by rw [e]; rfl)
end
abbrev wO (x : Int) : Prop := IntKind.i64.wrap x = x
theorem oW {x : Int} (h : -9223372036854775808 ≤ x ∧ x ≤ 9223372036854775807) : wO x := w64 h.1 h.2
theorem o1 {x : Int} (h : -9223372036854775808 ≤ x ∧ x ≤ 9223372036854775807) : s5 [wO x] := ⟨oW h, bY1⟩
theorem o2 {x y : Int} (h : (-9223372036854775808 ≤ x ∧ x ≤ 9223372036854775807) ∧ -9223372036854775808 ≤ y ∧ y ≤ 9223372036854775807) : s5 [wO x, wO y] := ⟨oW h.1, oW h.2, bY1⟩
theorem o3 {x y z : Int} (h : (-9223372036854775808 ≤ x ∧ x ≤ 9223372036854775807) ∧ (-9223372036854775808 ≤ y ∧ y ≤ 9223372036854775807) ∧ -9223372036854775808 ≤ z ∧ z ≤ 9223372036854775807) : s5 [wO x, wO y, wO z] := ⟨oW h.1, oW h.2.1, oW h.2.2, bY1⟩
theorem o4 {x y z u : Int} (h : (-9223372036854775808 ≤ x ∧ x ≤ 9223372036854775807) ∧ (-9223372036854775808 ≤ y ∧ y ≤ 9223372036854775807) ∧ (-9223372036854775808 ≤ z ∧ z ≤ 9223372036854775807) ∧ -9223372036854775808 ≤ u ∧ u ≤ 9223372036854775807) : s5 [wO x, wO y, wO z, wO u] := ⟨oW h.1, oW h.2.1, oW h.2.2.1, oW h.2.2.2, bY1⟩
abbrev aP (n b : Nat) (r : List Prop) : List Prop := (n ≤ 9223372036854775807) :: (n * b ≤ 140737488355328) :: r
theorem aK {n b : Nat} {r : List Prop} (h : n ≤ 100000000000) (k : s5 r) (hb : b ≤ 1000 := by decide) : s5 (aP n b r) := ⟨by omega, bZ6 (Nat.mul_le_mul h hb) (by decide), k⟩
abbrev iX (x : Int) (n l : Nat) (r : List Prop) : List Prop := (0 ≤ x) :: (x < (l : Int)) :: (n < l) :: r
theorem iK {x : Int} {n l : Nat} {r : List Prop} (h : 0 ≤ x ∧ x < (l : Int) ∧ n < l) (k : s5 r) : s5 (iX x n l r) := ⟨h.1, h.2.1, h.2.2, k⟩
abbrev mR (js : List Nat) (l : List It) : List It := List.map (It.ren (nth js)) l
theorem fz : L9 [] := bY1
theorem fc {a b : Bool} {r : List (Bool × Bool)} (h : a = b) (k : L9 r) : L9 ((a, b) :: r) := ⟨h, k⟩
abbrev qzE (e : c8) : c8 := c8.mk e.kind e.value e.kids
abbrev qzS (s : c6) : c6 := c6.mk s.kind s.target (c8.mk s.index.kind s.index.value s.index.kids) (c8.mk s.value.kind s.value.value s.value.kids) s.count s.body s.els
def kL (P : Program) (N m : Nat) (l : List Oper) (H : O1) (tm : List (Nat × AV)) (S : List It) (js : List Nat) (S1 : List It) (t1 : List (Nat × AV)) := ((R2 P dkP N l H l 0 tm (o7 S) S.length).isSome && aa4 m js S1 t1, aO6 (R2 P dkP N l H l 0 tm (o7 S) S.length) js (t1.map (·.1)))
def kR (P : Program) (N : Nat) (l : List Oper) (H : O1) (tm : List (Nat × AV)) (S : List It) (o : List Prop) (js : List Nat) (S1 : List It) (t1 : List (Nat × AV)) := (true, aW7 (R2 P dkP N l H l 0 tm (o7 S) S.length) o js S1 t1)
def kM (P : Program) (N m : Nat) (l : List Oper) (H : O1) (ms : List Nat) (tm : List (Nat × AV)) (S : List It) (js : List Nat) (S1 : List It) (t1 : List (Nat × AV)) := (a64 l ms S.length (o7 S) (R2 P dkP N l H l 0 tm (o7 S) S.length) && aa4 m js S1 t1, aO6 (R2 P dkP N l H l 0 tm (o7 S) S.length) js (t1.map (·.1)))
theorem I1 {P : Program} {c : j8} {fn : Func} {code : Code} (N : Nat) (hf : P.funcs[c.f]? = some fn) (S : List It) (tm : List (Nat × AV)) (k : ∀ {ι : Type} {φ ψ : Nat → Prop} {w0 w : World} {F : ι → Rs} {ρ0 ρ : Nat → Value} {a : Act}, s4 φ ψ w0 F N c.pre.length ρ0 ρ S tm a w → code.wp P (bodyPost P fn (aT6 φ ψ w0 F ρ0 c)) a w) (hb : fn.body = some code := by rfl) (hN : (fn.ntmps, c.pre, ay1 0 c.args) = (N, S, tm) := by kernel_rfl) (hw : (wfB c.pre (ay1 0 c.args) && decide (c.args.length ≤ N)) = true := by kernel_rfl) : c.ok P := by
 simp only [Prod.mk.injEq] at hN
 obtain ⟨h1, h2, h3⟩ := hN
 exact bg7 N hf hb h1 hw fun φ ψ w0 w F ρ0 ρ a G => k (ρ := ρ) (G.as S tm h2 h3)
def aT (x y : List (Nat × AV)) : List (Nat × AV) := x ++ y.filter fun p => !(x.any fun q => natEq q.1 p.1)
def HH (P : Program) (H : O1) : Prop := (∀ i c τ, J1 H.calls i = some (c, τ) → c.ok P) ∧ L9 H.facts
theorem d9 {P : Program} : HH P ⟨[], [], []⟩ := ⟨ad2, bY1⟩
theorem t0 {P : Program} {c : j8} (i : Nat) (σ : List Nat) (h : c.ok P) : HH P ⟨[(i, c, σ)], [], []⟩ := ⟨ax3 h ad2, bY1⟩
theorem H4 {P : Program} {f : List (Bool × Bool)} (h : L9 f) (u : List (Nat × Nat)) : HH P ⟨[], f, u⟩ := ⟨ad2, h⟩
def Cs (P : Program) (r : List (Nat × j8 × List Nat)) : Prop := ∀ i c τ, J1 r i = some (c, τ) → c.ok P
theorem Q7 {P : Program} : Cs P [] := ad2
theorem E2 {P : Program} {c : j8} {r : List (Nat × j8 × List Nat)} (i : Nat) (σ : List Nat) (h : c.ok P) (k : Cs P r) : Cs P ((i, c, σ) :: r) := ax3 h k
theorem Q8 {P : Program} {r : List (Nat × j8 × List Nat)} {f : List (Bool × Bool)} (h : Cs P r) (h' : L9 f) (u : List (Nat × Nat)) : HH P ⟨r, f, u⟩ := ⟨h, h'⟩
section
variable {ι : Type} {P : Program} {φ ψ : Nat → Prop} {w0 w : World} {F : ι → Rs} {N m : Nat} {ρ0 ρ : Nat → Value} {S : List It} {tm : List (Nat × AV)} {a : Act} {l : List Oper} {id : Nat} {Q : Exit → Act → World → Prop} {H : O1}
theorem J0 (G : s4 φ ψ w0 F N m ρ0 ρ S tm a w) (hh : HH P H) (js : List Nat) (S1 : List It) (t1 : List (Nat × AV)) (o : List Prop) (ho : s5 o) (k : ∀ {ρ' a' w'}, s4 φ ψ w0 F N m ρ0 ρ' S1 t1 a' w' → Q .normal a' w') (h : kL P N m l H tm S js S1 t1 = kR P N l H tm S o js S1 t1 := by kernel_rfl) : (Code.region id l.toArray false).wp P Q a w := rs1 (dk := dkP) G H hh.1 hh.2 js S1 t1 o ho (fun _ _ _ => k) (congrArg Prod.fst h) (congrArg Prod.snd h)
theorem i9 (G : s4 φ ψ w0 F N m ρ0 ρ S tm a w) (hh : HH P H) (js : List Nat) (S1 : List It) (t1 : List (Nat × AV)) (k : ∀ {ρ' a' w'}, s4 φ ψ w0 F N m ρ0 ρ' S1 t1 a' w' → Q .normal a' w') (h : kL P N m l H tm S js S1 t1 = kR P N l H tm S [] js S1 t1 := by kernel_rfl) : (Code.region id l.toArray false).wp P Q a w := J0 G hh js S1 t1 [] bY1 k h
theorem rB1 (G : s4 φ ψ w0 F N m ρ0 ρ S tm a w) (hh : HH P H) (t1 : List (Nat × AV)) (o : List Prop) (ho : s5 o) (k : ∀ {ρ' a' w'}, s4 φ ψ w0 F N m ρ0 ρ' S t1 a' w' → Q .normal a' w') (h : kL P N m l H tm S (bY5 S.length) S t1 = kR P N l H tm S o (bY5 S.length) S t1 := by kernel_rfl) : (Code.region id l.toArray false).wp P Q a w := rs1 (dk := dkP) G H hh.1 hh.2 (bY5 S.length) S t1 o ho (fun _ _ _ => k) (congrArg Prod.fst h) (congrArg Prod.snd h)
theorem F5 (G : s4 φ ψ w0 F N m ρ0 ρ S tm a w) (hh : HH P H) (t1 : List (Nat × AV)) (k : ∀ {ρ' a' w'}, s4 φ ψ w0 F N m ρ0 ρ' S t1 a' w' → Q .normal a' w') (h : kL P N m l H tm S (bY5 S.length) S t1 = kR P N l H tm S [] (bY5 S.length) S t1 := by kernel_rfl) : (Code.region id l.toArray false).wp P Q a w := rB1 G hh t1 [] bY1 k h
theorem B5 (G : s4 φ ψ w0 F N m ρ0 ρ S tm a w) (hh : HH P H) (t1 : List (Nat × AV)) (o : List Prop) (ho : s5 o) (k : ∀ {ρ' a' w'}, s4 φ ψ w0 F N m ρ0 ρ' S (aT t1 tm) a' w' → Q .normal a' w') (h : kL P N m l H tm S (bY5 S.length) S (aT t1 tm) = kR P N l H tm S o (bY5 S.length) S (aT t1 tm) := by kernel_rfl) : (Code.region id l.toArray false).wp P Q a w := rs1 (dk := dkP) G H hh.1 hh.2 (bY5 S.length) S (aT t1 tm) o ho (fun _ _ _ => k) (congrArg Prod.fst h) (congrArg Prod.snd h)
theorem l0 (G : s4 φ ψ w0 F N m ρ0 ρ S tm a w) (hh : HH P H) (t1 : List (Nat × AV)) (k : ∀ {ρ' a' w'}, s4 φ ψ w0 F N m ρ0 ρ' S (aT t1 tm) a' w' → Q .normal a' w') (h : kL P N m l H tm S (bY5 S.length) S (aT t1 tm) = kR P N l H tm S [] (bY5 S.length) S (aT t1 tm) := by kernel_rfl) : (Code.region id l.toArray false).wp P Q a w := B5 G hh t1 [] bY1 k h
theorem F4 (G : s4 φ ψ w0 F N m ρ0 ρ S tm a w) (hh : HH P H) (ms : List Nat) (js : List Nat) (S1 : List It) (t1 : List (Nat × AV)) (o : List Prop) (ho : s5 o) (k : ∀ {ρ' a' w'}, s4 φ ψ w0 F N m ρ0 ρ' S1 t1 a' w' → Q .normal a' w') (hm : P.follows .mixedOrders = true := by kernel_rfl) (h : kM P N m l H ms tm S js S1 t1 = kR P N l H tm S o js S1 t1 := by kernel_rfl) : (Code.region id l.toArray true).wp P Q a w := rd1 (dk := dkP) G H hh.1 hh.2 ms js S1 t1 o ho (fun _ _ _ => k) hm (congrArg Prod.fst h) (congrArg Prod.snd h)
theorem bh5 (G : s4 φ ψ w0 F N m ρ0 ρ S tm a w) (hh : HH P H) (ms : List Nat) (js : List Nat) (S1 : List It) (t1 : List (Nat × AV)) (k : ∀ {ρ' a' w'}, s4 φ ψ w0 F N m ρ0 ρ' S1 t1 a' w' → Q .normal a' w') (hm : P.follows .mixedOrders = true := by kernel_rfl) (h : kM P N m l H ms tm S js S1 t1 = kR P N l H tm S [] js S1 t1 := by kernel_rfl) : (Code.region id l.toArray true).wp P Q a w := F4 G hh ms js S1 t1 [] bY1 k hm h
theorem a85 (G : s4 φ ψ w0 F N m ρ0 ρ S tm a w) (hh : HH P H) (ms : List Nat) (t1 : List (Nat × AV)) (o : List Prop) (ho : s5 o) (k : ∀ {ρ' a' w'}, s4 φ ψ w0 F N m ρ0 ρ' S (aT t1 tm) a' w' → Q .normal a' w') (hm : P.follows .mixedOrders = true := by kernel_rfl) (h : kM P N m l H ms tm S (bY5 S.length) S (aT t1 tm) = kR P N l H tm S o (bY5 S.length) S (aT t1 tm) := by kernel_rfl) : (Code.region id l.toArray true).wp P Q a w := rd1 (dk := dkP) G H hh.1 hh.2 ms (bY5 S.length) S (aT t1 tm) o ho (fun _ _ _ => k) hm (congrArg Prod.fst h) (congrArg Prod.snd h)
theorem bs7 (G : s4 φ ψ w0 F N m ρ0 ρ S tm a w) (hh : HH P H) (ms : List Nat) (t1 : List (Nat × AV)) (k : ∀ {ρ' a' w'}, s4 φ ψ w0 F N m ρ0 ρ' S (aT t1 tm) a' w' → Q .normal a' w') (hm : P.follows .mixedOrders = true := by kernel_rfl) (h : kM P N m l H ms tm S (bY5 S.length) S (aT t1 tm) = kR P N l H tm S [] (bY5 S.length) S (aT t1 tm) := by kernel_rfl) : (Code.region id l.toArray true).wp P Q a w := a85 G hh ms t1 [] bY1 k hm h
variable {c : Nat} {x y : Code}
theorem rcB {b : Bool} (G : s4 φ ψ w0 F N m ρ0 ρ S tm a w) (f : b = false → y.wp P Q a w) (t : b = true → x.wp P Q a w) (h : y5 tm c = some (.v (.bool b)) := by rfl) : (Code.cond (.tmp c) x y).wp P Q a w := ac3 G b h t f
theorem M4 {α : Type} [BEq α] [LawfulBEq α] {u v : α} (G : s4 φ ψ w0 F N m ρ0 ρ S tm a w) (f : (u == v) = false → u ≠ v → y.wp P Q a w) (t : (u == v) = true → u = v → x.wp P Q a w) (h : y5 tm c = some (.v (.bool (u == v))) := by rfl) : (Code.cond (.tmp c) x y).wp P Q a w := ac3 G _ h (fun q => t q (eq_of_beq q)) fun q => f q (ne_of_beq_false q)
theorem rcN {α : Type} [BEq α] [LawfulBEq α] {u v : α} (G : s4 φ ψ w0 F N m ρ0 ρ S tm a w) (f : (u != v) = false → u = v → y.wp P Q a w) (t : (u != v) = true → u ≠ v → x.wp P Q a w) (h : y5 tm c = some (.v (.bool (u != v))) := by rfl) : (Code.cond (.tmp c) x y).wp P Q a w := ac3 G _ h (fun q => t q (bne_iff_ne.1 q)) fun q => f q (bne_eq_false_iff_eq.1 q)
theorem rcD {p : Prop} [Decidable p] (G : s4 φ ψ w0 F N m ρ0 ρ S tm a w) (f : decide p = false → ¬ p → y.wp P Q a w) (t : decide p = true → p → x.wp P Q a w) (h : y5 tm c = some (.v (.bool (decide p))) := by rfl) : (Code.cond (.tmp c) x y).wp P Q a w := ac3 G _ h (fun q => t q (V9 q)) fun q => f q (W0 q)
end
section
variable {P : Program} {f : FuncId}
theorem af5 {args : List AV} {S : List It} {x : Value} (h : ∀ (φ : Nat → Prop) (w : World) (ρ : Nat → Value), (∀ i d, o7 S i = .dat d → RD w φ d (ρ i)) → Calls P f (AV.vals ρ args).toArray w fun e w' => e = .returned x ∧ Below w.heap.size w w') : j8.ok P (V1 f args S (.v x)) := by
 intro ι φ ψ w0 w F ρ M
 refine (h (V3 φ (l6 F ρ (o7 S))) w ρ fun i d hi => M.datAt hi).mono ?_
 rintro e w' ⟨rfl, hb⟩
 exact ⟨ρ, fun _ _ => rfl, rfl, M.call hb⟩
end
theorem aR9 (n lo hi : Int) : j8.ok Tryz.prog (V1 34 [iA n, iA lo, iA hi] [] (bA (decide (lo ≤ n) && decide (n ≤ hi)))) :=
 af5 fun φ w ρ _ => (A6 n lo hi w).mono fun e w' h => ⟨h.1, h.2 ▸ Below.refl _ _⟩
theorem am0 (p : j7) : j8.ok Tryz.prog (V1 54 [pA 0] (pS p) (bA (C6 p.vars p.arrays))) :=
 af5 fun φ w ρ h => ah4 (ρ 0) (ρ 1) (ρ 2) _ _ w (t4.row (h 0 _ rfl)) (t4.row (h 1 _ rfl))
mutual
theorem bK2 : ∀ s : c6, nS s ≤ 1 + szS s
 | ⟨_, _, _, _, _, b, e⟩ => by
  have h1 := aH2 b
  have h2 := aH2 e
  simp only [nS, szS]; omega
theorem aH2 : ∀ ss : List c6, nSs ss ≤ s6 ss
 | [] => bX4 _
 | s :: r => by
  have h1 := bK2 s
  have h2 := aH2 r
  simp only [nSs, s6]; omega
end
theorem au9 (a b : List c6) : nSs (a ++ b) = nSs a + nSs b := by
 induction a with
 | nil => simp [nSs]
 | cons x r ih => simp [nSs, ih]; omega
theorem aH3 (s : c6) : nS s = 1 + nSs s.body + nSs s.els := by cases s; simp only [nS]; rfl
theorem X1 {nv na d : Nat} {s : c6} (h : l9 nv na (d + 1) s = true) : s.body.all (l9 nv na d) = true ∧ s.els.all (l9 nv na d) = true := by
 rw [l9, bX0] at h
 obtain ⟨h1, h2⟩ := h
 unfold n6 at h1
 by_cases k3 : s.kind = 3
 ·rw [if_neg (by omega), if_neg (by omega), if_pos k3] at h2
  simp only [bX0] at h2
  exact ⟨h2.1.2, h2.2⟩
 by_cases k4 : s.kind = 4
 ·rw [if_neg (by omega), if_neg (by omega), if_neg (by omega), if_pos k4] at h2
  rw [if_pos (.inr k4), if_pos k4] at h1
  simp only [bX0, decide_eq_true_eq] at h1
  exact ⟨h2, by rw [bZ3 h1.2.1.1.1.1]; rfl⟩
 ·rw [if_neg (by omega)] at h1
  simp only [bX0, decide_eq_true_eq] at h1
  exact ⟨by rw [bZ3 h1.1.1.1]; rfl, by rw [bZ3 h1.1.1.2]; rfl⟩
theorem aB7 (s : c6) : s6 s.body ≤ szS s ∧ s6 s.els ≤ szS s := by
 rcases s with ⟨_, _, _, _, _, b, e⟩
 simp only [szS, c6.body, c6.els]
 omega
theorem aQ4 {nv na : Nat} : ∀ {ss : List c6}, (∀ s ∈ ss, l9 nv na 1 s = true) → nSs ss = ss.length
 | [], _ => rfl
 | s :: r, h => by
  have h1 := X1 (h s b01)
  have key : ∀ l : List c6, l.all (l9 nv na 0) = true → l = [] := fun l hl => by
   cases l with
   | nil => rfl
   | cons a r => simp [l9] at hl
  have h2 := aQ4 (ss := r) fun x hx => h x (b00 _ hx)
  rw [nSs, aH3, key _ h1.1, key _ h1.2, h2]
  simp [nSs]; omega
def bo8 (x y : Int) : Int := IntKind.i64.wrap ((BitVec.ofInt (IntKind.bits .i64) x &&& BitVec.ofInt (IntKind.bits .i64) y).toNat : Int)
def aT8 (x y : Int) : Int := IntKind.i64.wrap ((BitVec.ofInt (IntKind.bits .i64) x ^^^ BitVec.ofInt (IntKind.bits .i64) y).toNat : Int)
theorem j8.dup {P : Program} {f : FuncId} {args args' : List AV} {S S' : List It} {d : D} {res : AV} {i : Nat} (hc : j8.ok P ⟨f, args, S ++ [.dat d], S' ++ [.dat d], res⟩) (hi : S[i]? = some (.dat d)) (hl : S'.length = S.length)
  (hS : S.all (fun x => V7 S.length x.ids) = true) (ha : ∀ ρ : Nat → Value, ρ S.length = ρ i → AV.vals ρ args = AV.vals ρ args') (hg : V7 S.length (AV.idsL args') = true) : j8.ok P ⟨f, args', S, S', res⟩ := by
 intro ι φ ψ w0 w F ρ M
 have hi' : o7 S i = .dat d := by simp [o7, hi]
 have hlt : i < S.length := (bX7.1 hi).1
 have hinv : Inv (o7 S) ρ [S.length] := fun ρ' h j => by
  by_cases hj : j < S.length
  ·refine It.res_congr _ (fun k hk => h k ?_) (.inr (.inr (h j (by simp; omega))))
   have h1 := G0 (bX9.1 hS (S[j]) (bZ0 hj)) k (by simpa [o7, bX2, bW9 hj] using hk)
   simp; omega
  ·rw [show o7 S j = .none by simp only [o7, bX2, bZ1 (Nat.le_of_not_lt hj)]; rfl]; rfl
 obtain ⟨ρ', h1, M1, h2⟩ := M.newDat (id := S.length) (by simp [o7]) hinv (M.datAt hi')
 have e : l7 (o7 S) [(S.length, .dat d)] = o7 (S ++ [.dat d]) := by
  funext j
  simp only [l7, o7, bX2]
  by_cases hj : j = S.length
  ·subst hj; simp
  ·rw [if_neg hj]
   by_cases hj2 : j < S.length
   ·rw [b04 hj2]
   ·rw [bZ1 (by omega), bZ1 (by simp; omega)]
 rw [e] at M1
 have hρ : ρ' i = ρ i := h1 i (by simp; omega)
 have ea : AV.vals ρ args' = AV.vals ρ' args := by
  rw [ha ρ' (by rw [← h2, hρ])]
  exact (AV.vals_congr _ fun k hk => by
   have := G0 hg k hk
   exact h1 k (by simp; omega)).symm
 simp only
 rw [ea]
 refine (hc ι φ ψ w0 w F ρ' M1).mono ?_
 rintro x w' ⟨ρ2, g1, g2, M2⟩
 refine ⟨ρ2, fun k hk => ?_, g2, ?_⟩
 ·rw [g1 k (by simp; omega)]; exact h1 k (by simp; omega)
 ·refine M2.map (fun k => match k with | .inl i => some (.inl i) | .inr j => if j < S'.length then some (.inr j) else none) ?_ ?_
  ·intro k k' x h1 h2
   match k, k' with
   | .inl i, .inl i' => simp at h1 h2; rw [h1, h2]
   | .inl i, .inr j => simp at h1; subst h1; simp at h2
   | .inr j, .inl i => simp at h2; subst h2; simp at h1
   | .inr j, .inr j' => simp at h1 h2; rw [← h1.2] at h2; rw [Sum.inr.inj h2.2]
  ·intro k
   match k with
   | .inl i => exact .inl ⟨.inl i, rfl, rfl⟩
   | .inr j =>
    by_cases hj : j < S'.length
    ·refine .inl ⟨.inr j, by simp [hj], ?_⟩
     simp only [l6, o7, bX2, b04 hj]
    ·refine .inr ?_
     simp only [l6, o7, bX2, bZ1 (Nat.le_of_not_lt hj)]
     rfl
def pkX (b : List UInt8) (k : Int) : Int := ((b.getD (k.tmod b.length).toNat 0).toNat : Int) * 131 + ((b.getD ((k * 7 + 3).tmod b.length).toNat 0).toNat : Int) * 1117 + k * 29 + k.tdiv b.length * 53
def pk (b : List UInt8) (k n : Int) : Int :=
 if n < 1 ∨ b.length = 0 then 0 else if k < b.length then ((b.getD k.toNat 0).toNat : Int).tmod n else (aT8 (pkX b k) ((pkX b k).tdiv 64)).tmod n
def nm (b : List UInt8) (k : Int) (l : List Int) : Int := l.getD (pk b k l.length).toNat 0
theorem bp3 {x y : Int} (hx : 0 ≤ x) (hx2 : x < 9223372036854775808) (hy : 0 ≤ y) (hy2 : y < 9223372036854775808) : 0 ≤ aT8 x y := by
 obtain ⟨a, rfl⟩ := Int.eq_ofNat_of_zero_le hx
 obtain ⟨c, rfl⟩ := Int.eq_ofNat_of_zero_le hy
 have ha : a < 2 ^ 63 := by omega
 have hc : c < 2 ^ 63 := by omega
 have h : (BitVec.ofInt (IntKind.bits .i64) (a : Int) ^^^ BitVec.ofInt (IntKind.bits .i64) (c : Int)).toNat < 2 ^ 63 := by
  rw [BitVec.toNat_xor]
  refine Nat.xor_lt_two_pow ?_ ?_
  ·simp only [BitVec.ofInt_natCast, BitVec.toNat_ofNat, IntKind.bits]; omega
  ·simp only [BitVec.ofInt_natCast, BitVec.toNat_ofNat, IntKind.bits]; omega
 unfold aT8
 generalize (BitVec.ofInt (IntKind.bits .i64) (a : Int) ^^^ BitVec.ofInt (IntKind.bits .i64) (c : Int)).toNat = z at h ⊢
 rw [w64 (by omega) (by omega)]
 omega
theorem aM0 (x : UInt8) : ((x.toNat : Nat) : Int) ≤ 255 := by have := x.toNat_lt; omega
theorem aM3 {k n : Int} (hk : 0 ≤ k) (hn : 1 ≤ n) : 0 ≤ k.tdiv n ∧ k.tdiv n ≤ k := by
 refine ⟨Int.tdiv_nonneg hk (by omega), ?_⟩
 rw [Int.tdiv_eq_ediv_of_nonneg hk]
 exact Int.ediv_le_self _ hk
theorem aO5 {b : List UInt8} {k : Int} (hk : 0 ≤ k) (hk2 : k ≤ 1000000000) (hb : b.length ≠ 0) : 0 ≤ pkX b k ∧ pkX b k ≤ 100000000000 := by
 unfold pkX
 have h1 := aM0 (b.getD (k.tmod b.length).toNat 0)
 have h2 := aM0 (b.getD ((k * 7 + 3).tmod b.length).toNat 0)
 have h3 := aM3 (n := b.length) hk (by omega)
 omega
theorem aU1 {x n : Int} (hx : 0 ≤ x) (hn : 1 ≤ n) : 0 ≤ x.tmod n ∧ x.tmod n < n := ⟨Int.tmod_nonneg _ hx, Int.tmod_lt_of_pos _ (by omega)⟩
theorem bz2 {b : List UInt8} {k : Int} (hk : 0 ≤ k) (hk2 : k ≤ 1000000000) (hb : b.length ≠ 0) : 0 ≤ (pkX b k).tdiv 64 ∧ (pkX b k).tdiv 64 ≤ 100000000000 := by
 have h := aO5 hk hk2 hb
 have h2 := aM3 (n := 64) h.1 (by omega)
 omega
theorem bt7 (b : List UInt8) {k n : Int} (hk : 0 ≤ k) (hk2 : k ≤ 1000000000) (hn : 1 ≤ n) : 0 ≤ pk b k n ∧ pk b k n < n := by
 unfold pk
 split
 ·omega
 ·split
  ·exact aU1 (by omega) hn
  ·have h := aO5 hk hk2 (show b.length ≠ 0 by omega)
   have h2 := bz2 hk hk2 (show b.length ≠ 0 by omega)
   exact aU1 (bp3 h.1 (by omega) h2.1 (by omega)) hn
theorem a50 (b : List UInt8) {k : Int} (hk : 0 ≤ k) (hk2 : k ≤ 1000000000) {l : List Int} (hl : l ≠ []) : 0 ≤ pk b k l.length ∧ pk b k l.length < l.length ∧ (pk b k l.length).toNat < l.length := by
 have h0 : 0 < l.length := List.length_pos_iff.2 hl
 have h := bt7 b (n := l.length) hk hk2 (by omega)
 omega
theorem af6 (b : List UInt8) {k : Int} (hk : 0 ≤ k) (hk2 : k ≤ 1000000000) {l : List Int} (hl : l ≠ []) : nm b k l ∈ l := by
 unfold nm
 rw [n9 (a50 b hk hk2 hl).2.2]
 exact bZ0 _
def E4 {α : Type} (f : Int → α × Int) : Nat → Int → List α × Int
 | 0, k => ([], k)
 | n + 1, k => ((E4 f n k).1 ++ [(f (E4 f n k).2).1], (f (E4 f n k).2).2)
theorem aI8 {α : Type} (f : Int → α × Int) (n : Nat) (k : Int) : (E4 f n k).1.length = n := by
 induction n with
 | zero => rfl
 | succ n ih => simp [E4, ih]
theorem bm0 {α : Type} {f : Int → α × Int} {c : Int} (hc : 0 ≤ c) {m : Nat} : ∀ (n : Nat) (k : Int), n ≤ m → (∀ j, k ≤ j → j ≤ k + m * c → j ≤ (f j).2 ∧ (f j).2 ≤ j + c) → k ≤ (E4 f n k).2 ∧ (E4 f n k).2 ≤ k + n * c := by
 intro n
 induction n with
 | zero => intro k _ _; simp [E4]
 | succ n ih =>
  intro k hm h
  have h1 := ih k (by omega) h
  have e : ((n + 1 : Nat) : Int) * c = n * c + c := by rw [Int.natCast_add, Int.add_mul]; simp
  have h3 : ((n + 1 : Nat) : Int) * c ≤ m * c := b10 (by omega) hc
  have h2 := h (E4 f n k).2 h1.1 (by omega)
  simp only [E4]
  rw [e]
  omega
theorem bw0 {α : Type} {f : Int → α × Int} {Q : α → Prop} (h : ∀ j, Q (f j).1) (n : Nat) (k : Int) : ∀ x ∈ (E4 f n k).1, Q x := by
 induction n with
 | zero => intro x hx; cases hx
 | succ n ih =>
  intro x hx
  simp only [E4, bY7, bZ2] at hx
  rcases hx with hx | rfl
  ·exact ih x hx
  ·exact h _
abbrev atL : List Int := [1] ++ ([0] ++ ([2] ++ ([3] ++ ([255] ++ ([7] ++ ([128] ++ []))))))
def n4 (b : List UInt8) (nv : Int) (k : Int) : c8 := if pk b k 3 = 0 then ⟨1, nm b (k + 1) atL, []⟩ else ⟨2, pk b (k + 1) nv, []⟩
abbrev K3 : List Int := [4] ++ ([10] ++ ([8] ++ ([9] ++ ([3] ++ ([6] ++ ([7] ++ ([5] ++ ([11] ++ []))))))))
def J2 (b : List UInt8) (nv na : Int) : Nat → Int → c8 × Int
 | 0, k => (n4 b nv k, k + 2)
 | d + 1, k => if d = 0 then (n4 b nv k, k + 2) else if pk b k 4 = 0 then (n4 b nv (k + 1), k + 3)
  else if nm b (k + 1) K3 = 3 then (if na = 0 then (n4 b nv (k + 2), k + 4) else (⟨3, pk b (k + 2) na, [n4 b nv (k + 3)]⟩, k + 5))
  else (⟨nm b (k + 1) K3, 0, (E4 (J2 b nv na d) (s0 (nm b (k + 1) K3)).toNat (k + 2)).1⟩, (E4 (J2 b nv na d) (s0 (nm b (k + 1) K3)).toNat (k + 2)).2)
def cE : Nat → Int
 | 0 => 2
 | d + 1 => 5 + 3 * cE d
theorem ax8 (d : Nat) : 2 ≤ cE d := by
 induction d with
 | zero => exact Int.le_refl _
 | succ d ih => simp only [cE]; omega
theorem ar3 (k : Int) : (s0 k).toNat ≤ 3 := by unfold s0; (repeat' split) <;> decide
theorem aR3 (b : List UInt8) (nv na : Int) : ∀ (d : Nat) (k : Int), k ≤ (J2 b nv na d k).2 ∧ (J2 b nv na d k).2 ≤ k + cE d
 | 0, k => by simp only [J2, cE]; omega
 | d + 1, k => by
  have hc := ax8 d
  rw [J2]
  simp only [cE]
  split
  ·simp only; omega
  ·split
   ·simp only; omega
   ·split
    ·split <;> (simp only; omega)
    ·have h3 := ar3 (nm b (k + 1) K3)
     have h := bm0 (f := J2 b nv na d) (c := cE d) (m := 3) (by omega) (s0 (nm b (k + 1) K3)).toNat (k + 2) h3 fun j _ _ => aR3 b nv na d j
     have h4 : ((s0 (nm b (k + 1) K3)).toNat : Int) * cE d ≤ 3 * cE d := b10 (by omega) (by omega)
     simp only
     omega
theorem a27 {c : Nat} : ∀ {l : List c8}, (∀ x ∈ l, P4 x ≤ c) → M5 l ≤ l.length * (1 + c)
 | [], _ => bZ4 _
 | e :: r, h => by
  have h1 := h e (b01 ..)
  have h2 := a27 (l := r) fun x hx => h x (b00 _ hx)
  simp only [M5, bX8]
  rw [Nat.add_mul]
  omega
theorem bm1 (b : List UInt8) (nv na : Int) : ∀ (d : Nat) (k : Int), (P4 (J2 b nv na d k).1 : Int) ≤ cE d
 | 0, k => by
  simp only [J2, cE, n4]
  split <;> simp [P4, M5]
 | d + 1, k => by
  have hc := ax8 d
  have ha : ∀ j, P4 (n4 b nv j) = 0 := fun j => by unfold n4; split <;> rfl
  rw [J2]
  simp only [cE]
  split
  ·simp only [ha]; omega
  ·split
   ·simp only [ha]; omega
   ·split
    ·split
     ·simp only [ha]; omega
     ·simp only [P4, M5, ha]; omega
    ·have h3 := ar3 (nm b (k + 1) K3)
     have h1 := bw0 (f := J2 b nv na d) (Q := fun x => P4 x ≤ (cE d).toNat) (fun j => by have := bm1 b nv na d j; omega) (s0 (nm b (k + 1) K3)).toNat (k + 2)
     have h2 := a27 h1
     rw [aI8] at h2
     simp only [P4]
     have h4 := b05 (1 + (cE d).toNat) h3
     omega
abbrev dpL : List Int := [2] ++ ([3] ++ ([2] ++ ([1] ++ ([4] ++ []))))
def t5 (b : List UInt8) (nv na : Nat) (k : Int) : c8 × Int :=
 if o6 nv na (J2 b nv na (nm b k dpL).toNat (k + 1)).1 = true then J2 b nv na (nm b k dpL).toNat (k + 1)
 else (n4 b nv (J2 b nv na (nm b k dpL).toNat (k + 1)).2, (J2 b nv na (nm b k dpL).toNat (k + 1)).2 + 2)
theorem cE4 {d : Nat} (h : d ≤ 4) : cE d ≤ 364 := by
 match d, h with
 | 0, _ => decide
 | 1, _ => decide
 | 2, _ => decide
 | 3, _ => decide
 | 4, _ => decide
theorem dp4 (b : List UInt8) {k : Int} (hk : 0 ≤ k) (hk2 : k ≤ 1000000000) : 1 ≤ nm b k dpL ∧ nm b k dpL ≤ 4 ∧ (nm b k dpL).toNat ≤ 4 := by
 have h := af6 b hk hk2 (l := dpL) (by simp)
 simp only [bY7, b02, List.not_mem_nil, or_false] at h
 omega
theorem bF3 (b : List UInt8) {k : Int} (hk : 0 ≤ k) (hk2 : k ≤ 1000000000) : nm b k dpL = ((nm b k dpL).toNat : Int) := by have := dp4 b hk hk2; omega
theorem a32 (b : List UInt8) (nv na : Nat) {k : Int} (hk : 0 ≤ k) (hk2 : k ≤ 1000000000) : k ≤ (t5 b nv na k).2 ∧ (t5 b nv na k).2 ≤ k + 367 := by
 have h := aR3 b nv na (nm b k dpL).toNat (k + 1)
 have h2 := cE4 (dp4 b hk hk2).2.2
 unfold t5
 split
 ·omega
 ·simp only; omega
theorem aS8 (b : List UInt8) (nv j : Int) : P4 (n4 b nv j) = 0 := by unfold n4; split <;> rfl
theorem aU9 (b : List UInt8) (nv na : Nat) {k : Int} (hk : 0 ≤ k) (hk2 : k ≤ 1000000000) : P4 (t5 b nv na k).1 ≤ 364 := by
 have h := bm1 b nv na (nm b k dpL).toNat (k + 1)
 have h2 := cE4 (dp4 b hk hk2).2.2
 unfold t5
 split
 ·omega
 ·rw [aS8]; omega
abbrev noE : c8 := ⟨0, 0, []⟩
abbrev H9 : List Int := [1] ++ ([1] ++ ([2] ++ ([3] ++ ([4] ++ ([1] ++ ([3] ++ ([5] ++ [])))))))
abbrev ibL : List Int := [1] ++ ([2] ++ ([1] ++ ([0] ++ [])))
abbrev ieL : List Int := [0] ++ ([1] ++ ([0] ++ ([2] ++ [])))
abbrev rcL : List Int := [2] ++ ([1] ++ ([3] ++ []))
abbrev rbL : List Int := [1] ++ ([2] ++ ([1] ++ []))
def dfS (b : List UInt8) (nv na : Nat) (kd k : Int) : c6 × Int := (⟨if kd = 5 then 5 else 1, pk b k nv, noE, (t5 b nv na (k + 1)).1, 0, [], []⟩, (t5 b nv na (k + 1)).2)
def soS (b : List UInt8) (nv na : Nat) (k : Int) : c6 × Int := (⟨2, pk b k na, n4 b nv (k + 1), (t5 b nv na (k + 1 + 2)).1, 0, [], []⟩, (t5 b nv na (k + 1 + 2)).2)
def mnD (b : List UInt8) (f : Int → c6 × Int) (l : List Int) (k : Int) : List c6 × Int := E4 f (nm b k l).toNat (k + 1)
def ifS (b : List UInt8) (nv na : Nat) (f : Int → c6 × Int) (k : Int) : c6 × Int :=
 (⟨3, 0, noE, (t5 b nv na k).1, 0, (mnD b f ibL (t5 b nv na k).2).1, (mnD b f ieL (mnD b f ibL (t5 b nv na k).2).2).1⟩, (mnD b f ieL (mnD b f ibL (t5 b nv na k).2).2).2)
def rpS (b : List UInt8) (f : Int → c6 × Int) (k : Int) : c6 × Int := (⟨4, 0, noE, noE, nm b k rcL, (mnD b f rbL (k + 1)).1, []⟩, (mnD b f rbL (k + 1)).2)
def A1 (b : List UInt8) (nv na : Nat) : Nat → Int → c6 × Int
 | 0, k => if nm b k H9 = 2 ∧ na ≠ 0 then soS b nv na (k + 1) else dfS b nv na (nm b k H9) (k + 1)
 | d + 1, k => if nm b k H9 = 2 ∧ na ≠ 0 then soS b nv na (k + 1) else if nm b k H9 = 3 ∧ d ≠ 0 then ifS b nv na (A1 b nv na d) (k + 1) else if nm b k H9 = 4 ∧ d ≠ 0 then rpS b (A1 b nv na d) (k + 1)
  else dfS b nv na (nm b k H9) (k + 1)
def cS : Nat → Int
 | 0 => 402
 | d + 1 => 402 + 4 * cS d
theorem ao7 (d : Nat) : 402 ≤ cS d := by
 induction d with
 | zero => exact Int.le_refl _
 | succ d ih => simp only [cS]; omega
section
variable (b : List UInt8) (nv na : Nat) {k : Int}
theorem bz8 (kd : Int) (hk : 0 ≤ k) (hk2 : k + 400 ≤ 1000000000) : k ≤ (dfS b nv na kd k).2 ∧ (dfS b nv na kd k).2 ≤ k + 368 := by
 have h := a32 b nv na (k := k + 1) (by omega) (by omega)
 simp only [dfS]; omega
theorem by3 (hk : 0 ≤ k) (hk2 : k + 400 ≤ 1000000000) : k ≤ (soS b nv na k).2 ∧ (soS b nv na k).2 ≤ k + 370 := by
 have h := a32 b nv na (k := k + 1 + 2) (by omega) (by omega)
 simp only [soS]; omega
theorem nm2 {l : List Int} (hl : l ≠ []) (h : ∀ x ∈ l, 0 ≤ x ∧ x ≤ 2) (hk : 0 ≤ k) (hk2 : k ≤ 1000000000) : (nm b k l).toNat ≤ 2 ∧ nm b k l = ((nm b k l).toNat : Int) := by
 have := h _ (af6 b hk hk2 hl); omega
theorem bj2 {f : Int → c6 × Int} {c : Int} {l : List Int} (hl : l ≠ []) (h : ∀ x ∈ l, 0 ≤ x ∧ x ≤ 2) (hc : 0 ≤ c) (hk : 0 ≤ k) (hk2 : k + 1 + 2 * c ≤ 1000000000) (hf : ∀ j, 0 ≤ j → j + c ≤ 1000000000 → j ≤ (f j).2 ∧ (f j).2 ≤ j + c) : k ≤ (mnD b f l k).2 ∧ (mnD b f l k).2 ≤ k + 1 + 2 * c := by
 have h2 := (nm2 b hl h hk (by omega)).1
 have h3 : ∀ m : Nat, m ≤ 2 → k + 1 ≤ (E4 f m (k + 1)).2 ∧ (E4 f m (k + 1)).2 ≤ k + 1 + m * c := by
  intro m
  induction m with
  | zero => intro _; simp [E4]
  | succ m ih =>
   intro hm
   have h4 := ih (by omega)
   have h6 : (m : Int) * c ≤ 1 * c := b10 (by omega) hc
   have h5 := hf (E4 f m (k + 1)).2 (by omega) (by omega)
   have e : ((m + 1 : Nat) : Int) * c = m * c + c := by rw [Int.natCast_add, Int.add_mul]; simp
   simp only [E4]
   rw [e]
   omega
 have h4 := h3 _ h2
 have h6 : ((nm b k l).toNat : Int) * c ≤ 2 * c := b10 (by omega) hc
 unfold mnD
 omega
theorem aY4 : ∀ x : Int, x ∈ ibL → 0 ≤ x ∧ x ≤ 2 := by intro x hx; simp only [bY7, b02, List.not_mem_nil, or_false] at hx; omega
theorem aY2 : ∀ x : Int, x ∈ ieL → 0 ≤ x ∧ x ≤ 2 := by intro x hx; simp only [bY7, b02, List.not_mem_nil, or_false] at hx; omega
theorem aW0 : ∀ x : Int, x ∈ rbL → 0 ≤ x ∧ x ≤ 2 := by intro x hx; simp only [bY7, b02, List.not_mem_nil, or_false] at hx; omega
theorem bz7 {f : Int → c6 × Int} {c : Int} (hc : 0 ≤ c) (hk : 0 ≤ k) (hk2 : k + 380 + 4 * c ≤ 1000000000) (hf : ∀ j, 0 ≤ j → j + c ≤ 1000000000 → j ≤ (f j).2 ∧ (f j).2 ≤ j + c) : k ≤ (t5 b nv na k).2 ∧ (t5 b nv na k).2 ≤ k + 367 ∧ (t5 b nv na k).2 ≤ (mnD b f ibL (t5 b nv na k).2).2 ∧ (mnD b f ibL (t5 b nv na k).2).2 ≤ k + 370 + 2 * c ∧ k ≤ (ifS b nv na f k).2 ∧ (ifS b nv na f k).2 ≤ k + 380 + 4 * c := by
 have h1 := a32 b nv na (k := k) (by omega) (by omega)
 have h2 := bj2 b (k := (t5 b nv na k).2) (f := f) (c := c) (l := ibL) (by simp) aY4 hc (by omega) (by omega) hf
 have h3 := bj2 b (k := (mnD b f ibL (t5 b nv na k).2).2) (f := f) (c := c) (l := ieL) (by simp) aY2 hc (by omega) (by omega) hf
 simp only [ifS]
 omega
theorem bJ3 {f : Int → c6 × Int} {c : Int} (hc : 0 ≤ c) (hk : 0 ≤ k) (hk2 : k + 10 + 2 * c ≤ 1000000000) (hf : ∀ j, 0 ≤ j → j + c ≤ 1000000000 → j ≤ (f j).2 ∧ (f j).2 ≤ j + c) : k ≤ (rpS b f k).2 ∧ (rpS b f k).2 ≤ k + 10 + 2 * c := by
 have h2 := bj2 b (k := k + 1) (f := f) (c := c) (l := rbL) (by simp) aW0 hc (by omega) (by omega) hf
 simp only [rpS]; omega
theorem aM7 : ∀ (d : Nat) (k : Int), 0 ≤ k → k + cS d ≤ 1000000000 → k ≤ (A1 b nv na d k).2 ∧ (A1 b nv na d k).2 ≤ k + cS d
 | 0, k, hk, hk2 => by
  rw [A1]
  simp only [cS] at hk2 ⊢
  have h1 := by3 b nv na (k := k + 1) (by omega) (by omega)
  have h2 := bz8 b nv na (k := k + 1) (nm b k H9) (by omega) (by omega)
  split <;> omega
 | d + 1, k, hk, hk2 => by
  rw [A1]
  simp only [cS] at hk2 ⊢
  have hc := ao7 d
  have ih := aM7 d
  have h1 := by3 b nv na (k := k + 1) (by omega) (by omega)
  have h2 := bz8 b nv na (k := k + 1) (nm b k H9) (by omega) (by omega)
  have h3 := bz7 b nv na (k := k + 1) (f := A1 b nv na d) (c := cS d) (by omega) (by omega) (by omega) ih
  have h4 := bJ3 b (k := k + 1) (f := A1 b nv na d) (c := cS d) (by omega) (by omega) (by omega) ih
  (repeat' split) <;> omega
theorem aX2 : P4 noE = 0 := rfl
theorem bm2 (kd : Int) (hk : 0 ≤ k) (hk2 : k + 400 ≤ 1000000000) : szS (dfS b nv na kd k).1 ≤ 364 := by
 have h := aU9 b nv na (k := k + 1) (by omega) (by omega)
 simp only [dfS, szS, s6, aX2]; omega
theorem bf0 (hk : 0 ≤ k) (hk2 : k + 400 ≤ 1000000000) : szS (soS b nv na k).1 ≤ 364 := by
 have h := aU9 b nv na (k := k + 1 + 2) (by omega) (by omega)
 simp only [soS, szS, s6, aS8]; omega
def Drw (f : Int → c6 × Int) (c : Int) : Prop := ∀ j, 0 ≤ j → j + c ≤ 1000000000 → j ≤ (f j).2 ∧ (f j).2 ≤ j + c ∧ (szS (f j).1 : Int) ≤ c
theorem aI7 {f : Int → c6 × Int} {c : Int} (hc : 0 ≤ c) (hf : Drw f c) : ∀ (m : Nat) (k : Int), 0 ≤ k → k + m * c ≤ 1000000000 → k ≤ (E4 f m k).2 ∧ (E4 f m k).2 ≤ k + m * c ∧ (s6 (E4 f m k).1 : Int) ≤ m * (1 + c) := by
 intro m
 induction m with
 | zero => intro k _ _; simp [E4, s6]
 | succ m ih =>
  intro k hk hk2
  have e : ((m + 1 : Nat) : Int) * c = m * c + c := by rw [Int.natCast_add, Int.add_mul]; simp
  have e2 : ((m + 1 : Nat) : Int) * (1 + c) = m * (1 + c) + (1 + c) := by rw [Int.natCast_add, Int.add_mul]; simp
  rw [e] at hk2
  have h4 := ih k hk (by omega)
  have h5 := hf (E4 f m k).2 (by omega) (by omega)
  have h6 : s6 ((E4 f m k).1 ++ [(f (E4 f m k).2).1]) = s6 (E4 f m k).1 + (1 + szS (f (E4 f m k).2).1) := by
   generalize (E4 f m k).1 = l
   induction l with
   | nil => simp [s6]
   | cons a r ih => simp only [List.cons_append, s6]; omega
  simp only [E4]
  rw [e, e2, h6]
  omega
theorem aX4 {f : Int → c6 × Int} {c : Int} {l : List Int} (hl : l ≠ []) (h : ∀ x ∈ l, 0 ≤ x ∧ x ≤ 2) (hc : 0 ≤ c) (hk : 0 ≤ k) (hk2 : k + 1 + 2 * c ≤ 1000000000) (hf : Drw f c) : (s6 (mnD b f l k).1 : Int) ≤ 2 * (1 + c) := by
 have h2 := (nm2 b hl h hk (by omega)).1
 have h6 : ((nm b k l).toNat : Int) * c ≤ 2 * c := b10 (by omega) hc
 have h7 : ((nm b k l).toNat : Int) * (1 + c) ≤ 2 * (1 + c) := b10 (by omega) (by omega)
 have h3 := (aI7 hc hf (nm b k l).toNat (k + 1) (by omega) (by omega)).2.2
 unfold mnD
 omega
theorem aU7 : ∀ (d : Nat) (k : Int), 0 ≤ k → k + cS d ≤ 1000000000 → (szS (A1 b nv na d k).1 : Int) ≤ cS d
 | 0, k, hk, hk2 => by
  rw [A1]
  simp only [cS] at hk2 ⊢
  have h1 := bf0 b nv na (k := k + 1) (by omega) (by omega)
  have h2 := bm2 b nv na (k := k + 1) (nm b k H9) (by omega) (by omega)
  split <;> omega
 | d + 1, k, hk, hk2 => by
  rw [A1]
  simp only [cS] at hk2 ⊢
  have hc := ao7 d
  have ih := aM7 b nv na d
  have hf : Drw (A1 b nv na d) (cS d) := fun j h1 h2 => ⟨(ih j h1 h2).1, (ih j h1 h2).2, aU7 d j h1 h2⟩
  have h1 := bf0 b nv na (k := k + 1) (by omega) (by omega)
  have h2 := bm2 b nv na (k := k + 1) (nm b k H9) (by omega) (by omega)
  have h3 := bz7 b nv na (k := k + 1) (f := A1 b nv na d) (c := cS d) (by omega) (by omega) (by omega) ih
  have h4 := aU9 b nv na (k := k + 1) (by omega) (by omega)
  have h5 := aX4 b (k := (t5 b nv na (k + 1)).2) (l := ibL) (by simp) aY4 (by omega) (by omega) (by omega) hf
  have h6 := aX4 b (k := (mnD b (A1 b nv na d) ibL (t5 b nv na (k + 1)).2).2) (l := ieL) (by simp) aY2 (by omega) (by omega) (by omega) hf
  have h7 := aX4 b (k := k + 1 + 1) (l := rbL) (by simp) aW0 (by omega) (by omega) (by omega) hf
  split
  ·omega
  ·split
   ·simp only [ifS, szS, aX2]; omega
   ·split
    ·simp only [rpS, szS, aX2, s6]; omega
    ·omega
theorem bM8 (d : Nat) : Drw (A1 b nv na d) (cS d) := fun j h1 h2 => ⟨(aM7 b nv na d j h1 h2).1, (aM7 b nv na d j h1 h2).2, aU7 b nv na d j h1 h2⟩
theorem bA4 {d m i : Nat} {B : Int} (hB : (m : Int) * cS d ≤ B) (hi : i ≤ m) (hk : 0 ≤ k) (hk2 : k + B ≤ 1000000000) : k ≤ (E4 (A1 b nv na d) i k).2 ∧ (E4 (A1 b nv na d) i k).2 ≤ k + B := by
 have hc := ao7 d
 have h6 : (i : Int) * cS d ≤ m * cS d := b10 (by omega) (by omega)
 have h := aI7 (by omega) (bM8 b nv na d) i k hk (by omega)
 omega
theorem bP2 {d m i : Nat} {B : Int} (hB : (m : Int) * cS d ≤ B) (hi : i < m) (hk : 0 ≤ k) (hk2 : k + B ≤ 1000000000) : (E4 (A1 b nv na d) i k).2 + cS d ≤ k + B := by
 have hc := ao7 d
 have h6 : ((i + 1 : Nat) : Int) * cS d ≤ m * cS d := b10 (by omega) (by omega)
 have e : ((i + 1 : Nat) : Int) * cS d = i * cS d + cS d := by rw [Int.natCast_add, Int.add_mul]; simp
 have h := aI7 (by omega) (bM8 b nv na d) i k hk (by omega)
 omega
theorem bK3 {m : Int} {c : Int} (h0 : 0 ≤ m) (hm : m ≤ 2) (hc : 0 ≤ c) : (m.toNat : Int) * c ≤ 2 * c := b10 (by omega) hc
theorem bU1 {m : Int} {c : Int} (h0 : 0 ≤ m) (hm : m ≤ 4) (hc : 0 ≤ c) : (m.toNat : Int) * c ≤ 4 * c := b10 (by omega) hc
end
theorem aC7 (b : List UInt8) {k : Int} {l : List Int} {m : Int} (hl : l ≠ []) (h : ∀ x ∈ l, 0 ≤ x ∧ x ≤ m) (hk : 0 ≤ k) (hk2 : k ≤ 1000000000) : 0 ≤ nm b k l ∧ nm b k l ≤ m := h _ (af6 b hk hk2 hl)
mutual
def AV.den (t : Bool) (n : Nat) : AV → AV
 | .v x => .v x
 | .ptr a b => .ptr a b
 | .ea a b c d => .ea a b c d
 | .ref i => if !t && natEq i n then .v (.slice none 0 0) else .ref i
 | .agg l => .agg (AV.denL t n l)
 | .tup l => .tup (AV.denL t n l)
 | .fn f l => .fn f (AV.denL t n l)
 | .bm f l => .bm f (AV.denL t n l)
 | .tref i => if t && natEq i n then .v (.slice none 0 0) else .tref i
def AV.denL (t : Bool) (n : Nat) : List AV → List AV
 | [] => []
 | x :: r => x.den t n :: AV.denL t n r
end
def It.den (t : Bool) (n : Nat) : It → It
 | .box cs => .box (AV.denL t n cs)
 | x => x
mutual
theorem AV.val_den {ρ : Nat → Value} {t : Bool} {n : Nat} {z : Value} (hz : if t then B8 z = .slice none 0 0 else z = .slice none 0 0) : ∀ (x : AV), (∀ i ∈ (x.den t n).ids, i < n) → x.val (fun j => if j = n then z else ρ j) = (x.den t n).val ρ ∧ ∀ i ∈ x.ids, i < n + 1
 | .v _, _ => ⟨rfl, fun i hi => by simp [AV.ids] at hi⟩
 | .ptr a b, h => by
  have ha : a < n := h a (by simp [AV.den, AV.ids])
  refine ⟨?_, fun i hi => by simp [AV.ids] at hi; omega⟩
  simp only [AV.den, AV.val]
  rw [if_neg (by omega)]
 | .ea a b c d, h => by
  have ha : a < n := h a (by simp [AV.den, AV.ids])
  refine ⟨?_, fun i hi => by simp [AV.ids] at hi; omega⟩
  simp only [AV.den, AV.val]
  rw [if_neg (by omega)]
 | .ref a, h => by
  by_cases e : t = false ∧ a = n
  ·obtain ⟨rfl, rfl⟩ := e
   refine ⟨?_, fun i hi => by simp [AV.ids] at hi; omega⟩
   simp only [Bool.false_eq_true, if_false] at hz
   simp [AV.den, AV.val, natEq, hz]
  ·have hd : (AV.ref a).den t n = .ref a := by
    simp only [AV.den]
    rw [if_neg]
    simp [natEq]; intro h1 h2; exact e ⟨h1, h2⟩
   rw [hd] at h ⊢
   have ha : a < n := h a (by simp [AV.ids])
   refine ⟨?_, fun i hi => by simp [AV.ids] at hi; omega⟩
   simp only [AV.val]
   rw [if_neg (by omega)]
 | .tref a, h => by
  by_cases e : t = true ∧ a = n
  ·obtain ⟨rfl, rfl⟩ := e
   refine ⟨?_, fun i hi => by simp [AV.ids] at hi; omega⟩
   simp only [if_true] at hz
   simp [AV.den, AV.val, natEq, hz]
  ·have hd : (AV.tref a).den t n = .tref a := by
    simp only [AV.den]
    rw [if_neg]
    simp [natEq]; intro h1 h2; exact e ⟨h1, h2⟩
   rw [hd] at h ⊢
   have ha : a < n := h a (by simp [AV.ids])
   refine ⟨?_, fun i hi => by simp [AV.ids] at hi; omega⟩
   simp only [AV.val]
   rw [if_neg (by omega)]
 | .agg l, h => by
  obtain ⟨h1, h2⟩ := AV.vals_den hz l (by simpa [AV.den, AV.ids] using h)
  exact ⟨by simp only [AV.den, AV.val]; rw [h1], by simpa [AV.ids] using h2⟩
 | .tup l, h => by
  obtain ⟨h1, h2⟩ := AV.vals_den hz l (by simpa [AV.den, AV.ids] using h)
  exact ⟨by simp only [AV.den, AV.val]; rw [h1], by simpa [AV.ids] using h2⟩
 | .fn f l, h => by
  obtain ⟨h1, h2⟩ := AV.vals_den hz l (by simpa [AV.den, AV.ids] using h)
  exact ⟨by simp only [AV.den, AV.val]; rw [h1], by simpa [AV.ids] using h2⟩
 | .bm f l, h => by
  obtain ⟨h1, h2⟩ := AV.vals_den hz l (by simpa [AV.den, AV.ids] using h)
  exact ⟨by simp only [AV.den, AV.val]; rw [h1], by simpa [AV.ids] using h2⟩
theorem AV.vals_den {ρ : Nat → Value} {t : Bool} {n : Nat} {z : Value} (hz : if t then B8 z = .slice none 0 0 else z = .slice none 0 0) : ∀ (l : List AV), (∀ i ∈ AV.idsL (AV.denL t n l), i < n) → AV.vals (fun j => if j = n then z else ρ j) l = AV.vals ρ (AV.denL t n l) ∧ ∀ i ∈ AV.idsL l, i < n + 1
 | [], _ => ⟨rfl, fun i hi => by simp [AV.idsL] at hi⟩
 | x :: r, h => by
  obtain ⟨h1, h2⟩ := AV.val_den hz x fun i hi => h i (by simp only [AV.denL, AV.idsL, bY7]; exact .inl hi)
  obtain ⟨h3, h4⟩ := AV.vals_den hz r fun i hi => h i (by simp only [AV.denL, AV.idsL, bY7]; exact .inr hi)
  refine ⟨by simp only [AV.denL, AV.vals]; rw [h1, h3], fun i hi => ?_⟩
  simp only [AV.idsL, bY7] at hi
  rcases hi with hi | hi
  ·exact h2 i hi
  ·exact h4 i hi
end
theorem av5 {m : Bool} {n : Nat} {t : Nat} {x : AV} : ∀ {tm : List (Nat × AV)}, y5 tm t = some x → y5 (tm.map fun p => (p.1, p.2.den m n)) t = some (x.den m n)
 | [], h => by cases h
 | (k, y) :: r, h => by
  simp only [y5, bZ5] at h ⊢
  split at h
  ·rename_i e; cases h; rw [if_pos e]
  ·rename_i e; rw [if_neg e]; exact av5 h
section
variable {P : Program} {ι : Type} {φ ψ : Nat → Prop} {w0 w : World} {F : ι → Rs} {ρ ρ0 : Nat → Value} {N m n : Nat} {S : List It} {tm : List (Nat × AV)} {a : Act}
theorem s4.nilW (G : s4 φ ψ w0 F N m ρ0 ρ S tm a w) (n : Nat) (hn : S.length = n) (b : Bool) (x : It) (z : Value) (hz : if b then B8 z = .slice none 0 0 else z = .slice none 0 0) (hids : x.ids = []) (hb : ∀ g, ¬ (x.res (fun j => if j = n then z else ρ j) n).blk g)
  (hx : ∀ φ', (x.res (fun j => if j = n then z else ρ j) n).holds w φ') (S1 : List It) (tm1 : List (Nat × AV)) (hS : S = S1.map (It.den b n)) (ht : tm = tm1.map fun p => (p.1, p.2.den b n)) :
  ∃ ρ', s4 φ ψ w0 F N m ρ0 ρ' (S1 ++ [x]) tm1 a w := by
 have hl : S1.length = n := by rw [← hn, hS, List.length_map]
 have hat : ∀ j (hj : j < n), o7 S j = (S1[j]'(by omega)).den b n := fun j hj => by
  rw [al0 (show j < S.length by omega)]
  have h1 := congrArg (·[j]?) hS
  simp only [List.getElem?_map, bW9 (show j < S.length by omega), bW9 (show j < S1.length by omega), Option.map_some, Option.some.injEq] at h1
  exact h1
 have hnew : ∀ j (hj : j < n), o7 (S1 ++ [x]) j = S1[j]'(by omega) := fun j hj => by
  simp [o7, bX2, b04 (show j < S1.length by omega), bW9 (show j < S1.length by omega)]
 have hlast : o7 (S1 ++ [x]) n = x := by
  simp [o7, bX2, ← hl]
 have hout : ∀ j, n < j → o7 (S1 ++ [x]) j = .none := fun j hj => v9 (by simp; omega)
 have hbx : ∀ j (hj : j < n), ((S1[j]'(by omega)).res (fun j => if j = n then z else ρ j) j = (o7 S j).res ρ j) ∧ ∀ i ∈ (S1[j]'(by omega)).ids, i < n + 1 := fun j hj => by
  rw [hat j hj]
  have hb := (G.bd j).1
  rw [hat j hj, hn] at hb
  generalize S1[j]'(by omega) = x at *
  cases x with
  | box cs =>
   obtain ⟨h1, h2⟩ := AV.vals_den (ρ := ρ) (n := n) hz cs hb
   refine ⟨?_, h2⟩
   simp only [It.res, It.den]
   rw [h1, if_neg (show ¬ j = n by omega)]
  | none => exact ⟨rfl, fun i hi => by cases hi⟩
  | dead => exact ⟨rfl, fun i hi => by cases hi⟩
  | dat d' => exact ⟨by simp only [It.res, It.den]; rw [if_neg (show ¬ j = n by omega)], fun i hi => by cases hi⟩
  | row e' d' => exact ⟨by simp only [It.res, It.den]; rw [if_neg (show ¬ j = n by omega)], fun i hi => by cases hi⟩
  | tree d' => exact ⟨by simp only [It.res, It.den]; rw [if_neg (show ¬ j = n by omega)], fun i hi => by cases hi⟩
  | kept e' d' => exact ⟨by cases e' <;> (simp only [It.res, It.den]; rw [if_neg (show ¬ j = n by omega)]), fun i hi => by cases hi⟩
  | hole k q ls =>
   have hk : k < n := hb k (by simp [It.den, It.ids])
   exact ⟨by simp only [It.res, It.den]; rw [if_neg (show ¬ j = n by omega), if_neg (show ¬ k = n by omega)], fun i hi => by simp [It.ids] at hi; omega⟩
 have hw : ∀ t x, y5 tm1 t = some x → x.val (fun j => if j = n then z else ρ j) = (x.den b n).val ρ ∧ ∀ i ∈ x.ids, i < n + 1 := fun t x hx => by
  refine AV.val_den hz x fun i hi => ?_
  have h1 : y5 tm t = some (x.den b n) := by rw [ht]; exact av5 hx
  have := G.tmi t _ h1 i hi
  omega
 refine ⟨fun j => if j = n then z else ρ j, ?_⟩
 refine ⟨G.size, G.defs, fun t x hx => ?_, fun t x hx i hi => ?_, fun j => ⟨fun i hi => ?_, fun hj => v9 hj⟩, ?_, ?_, fun i hi => ?_⟩
 ·have h1 : y5 tm t = some (x.den b n) := by rw [ht]; exact av5 hx
  rw [(hw t x hx).1]; exact G.tmv t _ h1
 ·have := (hw t x hx).2 i hi
  simp; omega
 ·rcases Nat.lt_trichotomy j n with h | h | h
  ·rw [hnew j h] at hi
   have := (hbx j h).2 i hi
   simp; omega
  ·subst h; rw [hlast, hids] at hi; cases hi
  ·rw [hout j h] at hi; cases hi
 ·refine i7.put G.mem (.inr n) (fun k hk => ?_) (B7.refl _ _) ?_ ?_
  ·cases k with
   | inl i => rfl
   | inr j =>
    simp only [l6]
    rcases Nat.lt_trichotomy j n with h | h | h
    ·rw [hnew j h]; exact (hbx j h).1
    ·exact absurd (by rw [h]) hk
    ·rw [hout j h, v9 (show S.length ≤ j by omega)]; rfl
  ·simp only [l6, hlast]; exact hx _
  ·intro g hg
   simp only [l6, hlast] at hg
   exact absurd hg (hb g)
 ·have := G.le; simp; omega
 ·show (if i = n then _ else ρ i) = ρ0 i
  have := G.le
  rw [if_neg (by omega)]; exact G.old i hi
theorem s4.nil (G : s4 φ ψ w0 F N m ρ0 ρ S tm a w) (n : Nat) (e : TypeId) (d : D) (k : Nat) (S1 : List It) (tm1 : List (Nat × AV)) (hn : S.length = n := by kernel_rfl) (hd : D.nil k = some d := by kernel_rfl) (hS : S = S1.map (It.den false n) := by kernel_rfl) (ht : tm = tm1.map (fun p => (p.1, p.2.den false n)) := by kernel_rfl) :
  ∃ ρ', s4 φ ψ w0 F N m ρ0 ρ' (S1 ++ [.row e d]) tm1 a w := by
 have hz := D.nil_len hd
 refine G.nilW n hn false (.row e d) (.slice none 0 0) (by simp) rfl (fun g hg => ?_) (fun φ' => ?_) S1 tm1 hS ht
 ·simp only [It.res, if_true] at hg
  cases hg
 ·simp only [It.res, if_true]
  refine ⟨fun xs => RW.nice d xs, [], ?_, RW.nil hz _⟩
  rw [hz]; exact World.ownsRow_nil _ _ _ _
theorem s4.nilT (G : s4 φ ψ w0 F N m ρ0 ρ S tm a w) (n : Nat) (d : D) (S1 : List It) (tm1 : List (Nat × AV)) (hn : S.length = n := by kernel_rfl) (hd : ((ae1 d).isSome && natEq d.len 0) = true := by kernel_rfl) (hS : S = S1.map (It.den true n) := by kernel_rfl) (ht : tm = tm1.map (fun p => (p.1, p.2.den true n)) := by kernel_rfl) :
  ∃ ρ', s4 φ ψ w0 F N m ρ0 ρ' (S1 ++ [.tree d]) tm1 a w := by
 simp only [bX0, natEq, beq_iff_eq] at hd
 obtain ⟨e, he⟩ := b09.1 hd.1
 obtain ⟨z, h1, h2⟩ := ag1 (.slice none 0 0) (fun _ => False) 0 fun b h => h.elim
 refine G.nilW n hn true (.tree d) z (by simp [h1]) rfl (fun g hg => ?_) (fun φ' => ?_) S1 tm1 hS ht
 ·simp only [It.res, if_true] at hg
  exact ((h2 g).1 hg).elim
 ·simp only [It.res, if_true]
  rw [h1]
  refine ⟨fun _ _ h hs => h.same hs, ⟨e, [], fun _ => False, he, ?_, (fun g hg => by cases hg), (fun b hb => hb.elim), ?_⟩, fun b hb => ((h2 b).1 hb).elim⟩
  ·rw [hd.2]; exact World.ownsRow_nil _ _ _ _
  ·have h0 := hd.2
   cases d <;> simp only [ae1] at he <;> first | cases he | skip
   all_goals (simp only [D.len] at h0; rw [bZ3 h0]; rfl)
end
inductive Ln where
 | no
 | row (e : TypeId)
 | tree
def y6 (M : List Ln) (i : Nat) : Ln := M.getD i .no
def Ln.isT : Ln → Bool
 | .tree => true
 | _ => false
mutual
def AV.tr (M : List Ln) : AV → AV
 | .v x => .v x
 | .ptr a b => .ptr a b
 | .ea a b c d => .ea a b c d
 | .ref i => if (y6 M i).isT then .tref i else .ref i
 | .agg l => .agg (AV.trL M l)
 | .tup l => .tup (AV.trL M l)
 | .fn f l => .fn f (AV.trL M l)
 | .bm f l => .bm f (AV.trL M l)
 | .tref i => .tref i
def AV.trL (M : List Ln) : List AV → List AV
 | [] => []
 | x :: r => x.tr M :: AV.trL M r
end
mutual
def AV.trOk (M : List Ln) : AV → Bool
 | .v _ => true
 | .ptr a _ => !(y6 M a).isT
 | .ea a _ _ _ => !(y6 M a).isT
 | .ref _ => true
 | .agg l => AV.trOkL M l
 | .tup l => AV.trOkL M l
 | .fn _ l => AV.trOkL M l
 | .bm _ l => AV.trOkL M l
 | .tref i => !(y6 M i).isT
def AV.trOkL (M : List Ln) : List AV → Bool
 | [] => true
 | x :: r => x.trOk M && AV.trOkL M r
end
mutual
theorem AV.val_tr {ρ ρ' : Nat → Value} {M : List Ln} (h : ∀ i, ρ' i = if (y6 M i).isT then B8 (ρ i) else ρ i) : ∀ (x : AV), x.trOk M = true → (x.tr M).val ρ = x.val ρ'
 | .v _, _ => rfl
 | .ptr a _, hx => by
  simp only [AV.trOk, b03] at hx
  simp only [AV.tr, AV.val]; rw [h a, hx]; rfl
 | .ea a _ _ _, hx => by
  simp only [AV.trOk, b03] at hx
  simp only [AV.tr, AV.val]; rw [h a, hx]; rfl
 | .ref i, _ => by
  simp only [AV.tr]
  cases hm : (y6 M i).isT
  ·simp only [Bool.false_eq_true, if_false, AV.val]; rw [h i, hm]; rfl
  ·simp only [if_true, AV.val]; rw [h i, hm]; rfl
 | .agg l, hx => by simp only [AV.tr, AV.val]; rw [AV.vals_tr h l (by simpa [AV.trOk] using hx)]
 | .tup l, hx => by simp only [AV.tr, AV.val]; rw [AV.vals_tr h l (by simpa [AV.trOk] using hx)]
 | .fn _ l, hx => by simp only [AV.tr, AV.val]; rw [AV.vals_tr h l (by simpa [AV.trOk] using hx)]
 | .bm _ l, hx => by simp only [AV.tr, AV.val]; rw [AV.vals_tr h l (by simpa [AV.trOk] using hx)]
 | .tref i, hx => by
  simp only [AV.trOk, b03] at hx
  simp only [AV.tr, AV.val]; rw [h i, hx]; rfl
theorem AV.vals_tr {ρ ρ' : Nat → Value} {M : List Ln} (h : ∀ i, ρ' i = if (y6 M i).isT then B8 (ρ i) else ρ i) : ∀ (l : List AV), AV.trOkL M l = true → AV.vals ρ (AV.trL M l) = AV.vals ρ' l
 | [], _ => rfl
 | x :: r, hx => by
  simp only [AV.trOkL, bX0] at hx
  simp only [AV.trL, AV.vals]; rw [AV.val_tr h x hx.1, AV.vals_tr h r hx.2]
end
def y8 (M : List Ln) : Ln → It → It
 | .row e, .dat d => .row e d
 | .tree, .dat d => .tree d
 | .no, .box cs => .box (AV.trL M cs)
 | _, x => x
def Q6 (M : List Ln) (S : List It) : List It := (bY5 S.length).map fun i => y8 M (y6 M i) (o7 S i)
theorem S9 (M : List Ln) (S : List It) (i : Nat) : o7 (Q6 M S) i = y8 M (y6 M i) (o7 S i) := by
 unfold Q6
 rcases bY8 i S.length with h | h
 ·conv => lhs; rw [o7, bX2, List.getElem?_map, List.getElem?_range h]
  rfl
 ·rw [v9 (by simpa using h), v9 h]
  cases y6 M i <;> rfl
def aQ6 : D → Bool
 | .rows _ => false
 | .brows _ => false
 | .exprs _ => false
 | .stmts _ => false
 | _ => true
theorem a59 {w w' : World} {φ φ' : Nat → Prop} {d : D} {xs : List Value} (hd : aQ6 d = true) (h : RW w φ d xs) : RW w' φ' d xs := by
 intro i hi j x hx
 obtain ⟨u, h1, h2⟩ := h i hi j x hx
 refine ⟨u, h1, ?_⟩
 have : ∃ y, x = .v y := by
  have hm := bY4 hx
  cases d <;> simp only [aQ6, Bool.false_eq_true] at hd <;> simp [D.elem, aX9, ag0] at hm
  ·exact ⟨_, hm⟩
  ·exact ⟨_, hm⟩
  ·exact ⟨_, hm⟩
  ·exact ⟨_, hm⟩
  ·rcases hm with h | h | h | h | h <;> exact ⟨_, h⟩
  ·rcases hm with h | h <;> exact ⟨_, h⟩
 obtain ⟨y, rfl⟩ := this
 exact h2
def aH8 (M : List Ln) (l : Ln) (p x : It) : Bool :=
 match l with
 | .no => match x with
  | .dat _ => (match p with | .dat _ => true | _ => false)
  | .row _ d => aQ6 d
  | .box cs => AV.trOkL M cs
  | .kept _ _ => false
  | .hole _ _ _ => false
  | _ => true
 | .row _ => (match p, x with | .dat d, .dat _ => aQ6 d | _, _ => false)
 | .tree => (match p, x with | .dat d, .dat _ => (ae1 d).isSome | _, _ => false)
def bi0 (M : List Ln) (l : Ln) (p : It) : Bool :=
 match l, p with
 | .no, .box cs => AV.trOkL M cs
 | .no, .hole _ _ _ => false
 | _, _ => true
def bj8 (M : List Ln) (c : j8) : Bool :=
 decide (M.length ≤ c.pre.length) && decide (c.pre.length ≤ c.post.length) && AV.trOkL M c.args && c.res.trOk M && (bY5 c.post.length).all (fun i => aH8 M (y6 M i) (o7 c.pre i) (o7 c.post i)) && (bY5 c.pre.length).all fun i => bi0 M (y6 M i) (o7 c.pre i)
def Rs.snap (w : World) (r : Rs) : Rs := .own r.blk fun w' => ∀ b, r.blk b → b < w.heap.size → w'.heap[b]? = w.heap[b]?
theorem Rs.snap_holds {w : World} {φ φ' : Nat → Prop} {r : Rs} (h : r.holds w φ) : (r.snap w).holds w φ' := by
 refine ⟨fun w1 w2 h1 h2 b hb hlt => ?_, fun b _ _ => rfl, fun b hb => Rs.lt h hb⟩
 have h3 := h1 b hb hlt
 rw [h2 b hb, h3]
 have : (w1.heap[b]?).isSome = true := by rw [h3, Array.getElem?_eq_getElem hlt]; rfl
 obtain ⟨o, ho⟩ := b09.1 this
 exact (Array.getElem?_eq_some_iff.1 ho).1
theorem aI9 : ∀ {P X : List It} {i : Nat} {d e : D}, al5 P X = al4 P X → o7 P i = .dat d → o7 X i = .dat e → d = e
 | P, X, i, d, e, h, h1, h2 => by
  have hp : P[i]? = some (.dat d) := by
   rcases bY8 i P.length with hl | hl
   ·rw [al0 hl] at h1; rw [bW9 hl, h1]
   ·rw [v9 hl] at h1; cases h1
  have hx : X[i]? = some (.dat e) := by
   rcases bY8 i X.length with hl | hl
   ·rw [al0 hl] at h2; rw [bW9 hl, h2]
   ·rw [v9 hl] at h2; cases h2
  exact bF5 h hp hx
theorem j8.lend0 {P : Program} {c : j8} (hc : c.ok P) (M : List Ln) (hb : bj8 M c = true) (he : al5 c.pre c.post = al4 c.pre c.post) : j8.ok P ⟨c.f, AV.trL M c.args, Q6 M c.pre, Q6 M c.post, c.res.tr M⟩ := by
 simp only [bj8, bX0, decide_eq_true_eq] at hb
 obtain ⟨⟨⟨⟨⟨hM, hle⟩, hargs⟩, hres⟩, hpost⟩, hpre⟩ := hb
 have hno : ∀ i, c.pre.length ≤ i → y6 M i = .no := fun i hi => by
  unfold y6; rw [bX2, bZ1 (by omega)]; rfl
 have hpo : ∀ i, aH8 M (y6 M i) (o7 c.pre i) (o7 c.post i) = true := fun i => by
  rcases bY8 i c.post.length with h | h
  ·exact bX9.1 hpost i (b11.2 h)
  ·rw [hno i (by omega), v9 h]; rfl
 have hpr : ∀ i, bi0 M (y6 M i) (o7 c.pre i) = true := fun i => by
  rcases bY8 i c.pre.length with h | h
  ·exact bX9.1 hpre i (b11.2 h)
  ·rw [hno i h, v9 h]; rfl
 intro ι φ ψ w0 w F ρ MM
 let ρ1 : Nat → Value := fun i => if (y6 M i).isT then B8 (ρ i) else ρ i
 have hρ1 : ∀ i, ρ1 i = if (y6 M i).isT then B8 (ρ i) else ρ i := fun _ => rfl
 let F1 : ι → Rs := fun i => (F i).snap w
 have hLi : ∀ i, l6 F ρ (o7 (Q6 M c.pre)) (.inl i) = F i := fun _ => rfl
 have hLj : ∀ j, l6 F ρ (o7 (Q6 M c.pre)) (.inr j) = (y8 M (y6 M j) (o7 c.pre j)).res ρ j := fun j => by simp only [l6]; rw [S9]
 generalize hL : l6 F ρ (o7 (Q6 M c.pre)) = L at MM hLi hLj
 have h1j : ∀ j, y6 M j = .no → (o7 c.pre j).res ρ1 j = L (.inr j) := fun j hl => by
  rw [hLj, hl]
  have hp := hpr j
  have e : ρ1 j = ρ j := by rw [hρ1, hl]; rfl
  cases hx : o7 c.pre j with
  | none => rfl
  | dead => rfl
  | dat d => simp only [y8, It.res]; rw [e]
  | row e' d => simp only [y8, It.res]; rw [e]
  | tree d => simp only [y8, It.res]; rw [e]
  | kept e' d => cases e' <;> (simp only [y8, It.res]; rw [e])
  | hole k i ls => rw [hl, hx] at hp; cases hp
  | box cs =>
   rw [hl, hx] at hp
   simp only [bi0] at hp
   simp only [y8, It.res]
   rw [e, AV.vals_tr hρ1 cs hp]
 have hlent : ∀ j, y6 M j ≠ .no → (∃ d, o7 c.pre j = .dat d ∧ o7 c.post j = .dat d ∧ ((∃ e, y6 M j = .row e ∧ aQ6 d = true) ∨ y6 M j = .tree)) := fun j hj => by
  have h := hpo j
  cases hl : y6 M j with
  | no => exact absurd hl hj
  | row e =>
   rw [hl] at h
   simp only [aH8] at h
   split at h
   ·rename_i d d' h1 h2
    exact ⟨d, h1, by rw [h2, ← aI9 he h1 h2], .inl ⟨e, rfl, h⟩⟩
   ·cases h
  | tree =>
   rw [hl] at h
   simp only [aH8] at h
   split at h
   ·rename_i d d' h1 h2
    exact ⟨d, h1, by rw [h2, ← aI9 he h1 h2], .inr rfl⟩
   ·cases h
 have hsub : ∀ k b, (l6 F1 ρ1 (o7 c.pre) k).blk b → (L k).blk b ∧ ∀ j, k = .inr j → y6 M j = .no := fun k b hb => by
  cases k with
  | inl i => rw [hLi]; exact ⟨hb, fun j h => by cases h⟩
  | inr j =>
   by_cases hl : y6 M j = .no
   ·simp only [l6] at hb
    rw [h1j j hl] at hb
    exact ⟨hb, fun j' h => by cases h; exact hl⟩
   ·obtain ⟨d, h1, _⟩ := hlent j hl
    simp only [l6, h1, It.res] at hb
    exact hb.elim
 have hfr1 : ∀ b, V3 φ L b → V3 φ (l6 F1 ρ1 (o7 c.pre)) b := fun b hb => ⟨hb.1, fun k hk => hb.2 k (hsub k b hk).1⟩
 let ψ1 : Nat → Prop := fun b => ∀ k, ¬ (l6 F1 ρ1 (o7 c.pre) k).blk b
 have M1 : i7 φ ψ1 w w (l6 F1 ρ1 (o7 c.pre)) := by
  refine ⟨B7.refl _ _, fun b hb => MM.fresh b (bZ6 MM.size hb), fun k => ?_, fun k k' b hkk h1 h2 => MM.dis k k' b hkk (hsub k b h1).1 (hsub k' b h2).1, fun k b h1 => .inr fun h => h k h1, fun k b h1 => MM.ph k b (hsub k b h1).1⟩
  cases k with
  | inl i => exact Rs.snap_holds (show (F i).holds w _ from by rw [← hLi i]; exact MM.holds (.inl i))
  | inr j =>
   by_cases hl : y6 M j = .no
   ·simp only [l6]
    rw [h1j j hl]
    exact Rs.keep (MM.holds (.inr j)) (Agr.mono fun b _ hf => hfr1 b hf) fun _ _ => rfl
   ·obtain ⟨d, h1, h2, h3⟩ := hlent j hl
    have hh := MM.holds (.inr j)
    have hown : ∀ b, (L (.inr j)).blk b → V3 φ (l6 F1 ρ1 (o7 c.pre)) b := fun b hb => ⟨MM.ph _ _ hb, fun k hk => by
     obtain ⟨q1, q2⟩ := hsub k b hk
     by_cases e : k = .inr j
     ·exact hl (q2 j e)
     ·exact MM.dis k (.inr j) b e q1 hb⟩
    simp only [l6, h1, It.res]
    refine ⟨RD.nice _ _, ?_⟩
    rcases h3 with ⟨e, h3, hflat⟩ | h3
    ·rw [hLj, h3, h1] at hh
     simp only [y8, It.res] at hh
     obtain ⟨_, xs, o1, o2⟩ := hh
     have e1 : ρ1 j = ρ j := by rw [hρ1, h3]; rfl
     rw [e1]
     refine RD.make (A7 o1 fun g hg => hown g ?_) (a59 hflat o2)
     rw [hLj, h3, h1]; exact hg
    ·rw [hLj, h3, h1] at hh
     simp only [y8, It.res] at hh
     have e1 : ρ1 j = B8 (ρ j) := by rw [hρ1, h3]; rfl
     rw [e1]
     refine A2.read hh.2.1 fun b hb => hown b ?_
     rw [hLj, h3, h1]; exact hb
 simp only
 rw [AV.vals_tr hρ1 c.args hargs]
 refine (hc ι φ ψ1 w w F1 ρ1 M1).mono ?_
 rintro x w' ⟨ρ2, g1, g2, M2⟩
 have hplen : (Q6 M c.pre).length = c.pre.length := by simp [Q6]
 let ρ' : Nat → Value := fun j => if j < c.pre.length then ρ j else ρ2 j
 have hρ' : ∀ j, ρ2 j = if (y6 M j).isT then B8 (ρ' j) else ρ' j := fun j => by
  show _ = if (y6 M j).isT then B8 (if j < c.pre.length then ρ j else ρ2 j) else (if j < c.pre.length then ρ j else ρ2 j)
  rcases bY8 j c.pre.length with h | h
  ·rw [if_pos h, g1 j h]
  ·rw [hno j h]
   exact (if_neg (Nat.not_lt.2 h)).symm
 have hρo : ∀ j, y6 M j ≠ .no → ρ' j = ρ j := fun j hj => by
  rcases bY8 j c.pre.length with h | h
  ·exact if_pos h
  ·exact absurd (hno j h) hj
 refine ⟨ρ', fun i hi => if_pos (by rw [hplen] at hi; exact hi), by rw [AV.val_tr hρ' c.res hres]; exact g2, ?_⟩
 have hL'j : ∀ j, l6 F ρ' (o7 (Q6 M c.post)) (.inr j) = (y8 M (y6 M j) (o7 c.post j)).res ρ' j := fun j => by simp only [l6]; rw [S9]
 have hL'i : ∀ i, l6 F ρ' (o7 (Q6 M c.post)) (.inl i) = F i := fun _ => rfl
 generalize hL' : l6 F ρ' (o7 (Q6 M c.post)) = L' at hL'j hL'i
 have hL2j : ∀ j, y6 M j = .no → L' (.inr j) = l6 F1 ρ2 (o7 c.post) (.inr j) := fun j hl => by
  rw [hL'j, hl]
  have hp := hpo j
  have e : ρ2 j = ρ' j := by rw [hρ', hl]; rfl
  simp only [l6]
  cases hx : o7 c.post j with
  | none => rfl
  | dead => rfl
  | dat d => simp only [y8, It.res]; rw [e]
  | row e' d => simp only [y8, It.res]; rw [e]
  | tree d => simp only [y8, It.res]; rw [e]
  | kept e' d => cases e' <;> (simp only [y8, It.res]; rw [e])
  | hole k i ls => rw [hl, hx] at hp; cases hp
  | box cs =>
   rw [hl, hx] at hp
   simp only [aH8] at hp
   simp only [y8, It.res]
   rw [e, AV.vals_tr hρ' cs hp]
 have hlj : ∀ j, y6 M j ≠ .no → L' (.inr j) = L (.inr j) := fun j hl => by
  obtain ⟨d, h1, h2, h3⟩ := hlent j hl
  rw [hL'j, hLj, h1, h2]
  rcases h3 with ⟨e, h3, _⟩ | h3
  ·rw [h3]; simp only [y8, It.res]; rw [hρo j hl]
  ·rw [h3]; simp only [y8, It.res]; rw [hρo j hl]
 have hin : ∀ b, b < w.heap.size → ¬ ψ1 b → ∃ k, (L k).blk b ∧ ∀ j, k = .inr j → y6 M j = .no := fun b _ hn => by
  obtain ⟨k, hk⟩ := Classical.not_forall.1 hn
  exact ⟨k, hsub k b (Classical.not_not.1 hk)⟩
 have hnew : ∀ k b, (∀ j, k = .inr j → y6 M j = .no) → (l6 F1 ρ2 (o7 c.post) k).blk b → b < w.heap.size → ∃ k', (L k').blk b ∧ ∀ j, k' = .inr j → y6 M j = .no := fun k b _ hb hlt => by
  rcases M2.ge k b hb with h | h
  ·omega
  ·exact hin b hlt h
 have hback : ∀ k b, (L' k).blk b → b < w.heap.size → ∃ k', (L k').blk b := fun k b hb hlt => by
  cases k with
  | inl i => rw [hL'i] at hb; exact ⟨.inl i, by rw [hLi]; exact hb⟩
  | inr j =>
   by_cases hl : y6 M j = .no
   ·rw [hL2j j hl] at hb
    obtain ⟨k', h1, _⟩ := hnew (.inr j) b (fun j' h => by cases h; exact hl) hb hlt
    exact ⟨k', h1⟩
   ·rw [hlj j hl] at hb; exact ⟨_, hb⟩
 have hsame : ∀ b, b < w.heap.size → ψ1 b → w'.heap[b]? = w.heap[b]? := fun b h1 h2 => M2.kept.block b h1 h2
 have hagr : Agr (V3 φ L) (V3 φ L') w w' := ⟨M2.kept.size, fun b hb hf => ⟨⟨hf.1, fun k hk => let ⟨k', h1⟩ := hback k b hk hb; hf.2 k' h1⟩, hsame b hb fun k hk => (hfr1 b hf).2 k hk⟩⟩
 have hlsame : ∀ j, y6 M j ≠ .no → ∀ b, (L (.inr j)).blk b → w'.heap[b]? = w.heap[b]? := fun j hl b hb => hsame b (MM.lt hb) fun k hk => by
  obtain ⟨q1, q2⟩ := hsub k b hk
  by_cases e : k = .inr j
  ·exact hl (q2 j e)
  ·exact MM.dis k (.inr j) b e q1 hb
 have hcross : ∀ j k b, y6 M j ≠ .no → (∀ j, k = .inr j → y6 M j = .no) → (L (.inr j)).blk b → ¬ (l6 F1 ρ2 (o7 c.post) k).blk b := fun j k b hl hk h1 h2 => by
  obtain ⟨k', h3, h4⟩ := hnew k b hk h2 (MM.lt h1)
  exact MM.dis k' (.inr j) b (fun e => hl (h4 j e)) h3 h1
 refine ⟨⟨M2.kept.os.trans MM.kept.os, M2.kept.tape.trans MM.kept.tape, M2.kept.output.trans MM.kept.output, bZ6 MM.size M2.kept.size, fun b hb hp => (hsame b (b13 hb MM.size) fun k hk => ?_).trans (MM.kept.block b hb hp)⟩, MM.fresh, fun k => ?_, fun k k' b hkk h1 h2 => ?_, fun k b h1 => ?_, fun k b h1 => ?_⟩
 ·rcases MM.ge k b (hsub k b hk).1 with h | h
  ·omega
  ·exact h hp
 ·cases k with
  | inl i =>
   rw [hL'i, ← hLi i]
   refine Rs.keep (MM.holds (.inl i)) hagr fun b hb => ?_
   have := (M2.holds (.inl i)).2.1 b (by rw [← hLi i]; exact hb) (MM.lt hb)
   exact this
  | inr j =>
   by_cases hl : y6 M j = .no
   ·have hh := M2.holds (.inr j)
    rw [← hL2j j hl] at hh
    have hp := hpo j
    rw [hl] at hp
    cases hx : o7 c.post j with
    | none => rw [hL'j, hl, hx]; exact Rs.none_holds _ _
    | dead => rw [hL'j, hl, hx]; exact Rs.none_holds _ _
    | box cs => rw [hL'j, hl, hx] at hh ⊢; exact hh
    | tree d => rw [hL'j, hl, hx] at hh ⊢; exact hh
    | kept e' d => rw [hx] at hp; exact absurd hp (by simp [aH8])
    | hole k i ls => rw [hx] at hp; exact absurd hp (by simp [aH8])
    | row e d =>
     rw [hx] at hp
     simp only [aH8] at hp
     rw [hL'j, hl, hx] at hh ⊢
     simp only [y8, It.res] at hh ⊢
     obtain ⟨_, xs, o1, o2⟩ := hh
     exact ⟨fun xs => RW.nice d xs, xs, o1, a59 hp o2⟩
    | dat d =>
     rw [hx] at hp
     simp only [aH8] at hp
     split at hp
     ·rename_i d' hpx
      have hd : d' = d := aI9 he hpx hx
      subst hd
      have e : L' (.inr j) = L (.inr j) := by
       rw [hL'j, hLj, hl, hx, hpx]
       simp only [y8, It.res]
       have : j < c.pre.length := by
        rcases bY8 j c.pre.length with h | h
        ·exact h
        ·rw [v9 h] at hpx; cases hpx
       rw [show ρ' j = ρ j from if_pos this]
      rw [e]
      refine Rs.keep (MM.holds (.inr j)) hagr fun b hb => ?_
      rw [hLj, hl, hpx] at hb
      exact hb.elim
     ·cases hp
   ·rw [hlj j hl]
    exact Rs.keep (MM.holds (.inr j)) hagr fun b hb => hlsame j hl b hb
 ·have key : ∀ k, (∃ j, k = .inr j ∧ y6 M j ≠ .no ∧ (L' k) = L k) ∨ ((∀ j, k = .inr j → y6 M j = .no) ∧ ∀ b, (L' k).blk b → (l6 F1 ρ2 (o7 c.post) k).blk b) := fun k => by
   cases k with
   | inl i => exact .inr ⟨(fun j h => by cases h), fun b hb => by rw [hL'i] at hb; exact hb⟩
   | inr j =>
    by_cases hl : y6 M j = .no
    ·exact .inr ⟨fun j' h => by cases h; exact hl, fun b hb => by rw [hL2j j hl] at hb; exact hb⟩
    ·exact .inl ⟨j, rfl, hl, hlj j hl⟩
  rcases key k with ⟨j, rfl, k1, k2⟩ | ⟨k1, k2⟩ <;> rcases key k' with ⟨j', rfl, k3, k4⟩ | ⟨k3, k4⟩
  ·rw [k2] at h1; rw [k4] at h2; exact MM.dis _ _ b hkk h1 h2
  ·rw [k2] at h1; exact hcross j k' b k1 k3 h1 (k4 b h2)
  ·rw [k4] at h2; exact hcross j' k b k3 k1 h2 (k2 b h1)
  ·exact M2.dis k k' b hkk (k2 b h1) (k4 b h2)
 ·cases k with
  | inl i => rw [hL'i, ← hLi i] at h1; exact MM.ge _ b h1
  | inr j =>
   by_cases hl : y6 M j = .no
   ·rw [hL2j j hl] at h1
    rcases bY8 b w.heap.size with hlt | hge
    ·obtain ⟨k', h2, _⟩ := hnew (.inr j) b (fun j' h => by cases h; exact hl) h1 hlt
     exact MM.ge k' b h2
    ·exact .inl (bZ6 MM.size hge)
   ·rw [hlj j hl] at h1; exact MM.ge _ b h1
 ·cases k with
  | inl i => rw [hL'i, ← hLi i] at h1; exact MM.ph _ b h1
  | inr j =>
   by_cases hl : y6 M j = .no
   ·rw [hL2j j hl] at h1; exact M2.ph _ b h1
   ·rw [hlj j hl] at h1; exact MM.ph _ b h1
def bk4 (M : List Ln) : Ln → It → It
 | .row e, .dat d => .kept (some e) d
 | .tree, .dat d => .kept none d
 | .no, .box cs => .box (AV.trL M cs)
 | _, x => x
def bk3 (M : List Ln) (S : List It) : List It := (bY5 S.length).map fun i => bk4 M (y6 M i) (o7 S i)
theorem bj7 (M : List Ln) (S : List It) (i : Nat) : o7 (bk3 M S) i = bk4 M (y6 M i) (o7 S i) := by
 unfold bk3
 rcases bY8 i S.length with h | h
 ·conv => lhs; rw [o7, bX2, List.getElem?_map, List.getElem?_range h]
  rfl
 ·rw [v9 (by simpa using h), v9 h]
  cases y6 M i <;> rfl
theorem j8.lend {P : Program} {c : j8} (hc : c.ok P) (M : List Ln) (hb : bj8 M c = true := by kernel_rfl) (he : al5 c.pre c.post = al4 c.pre c.post := by kernel_rfl) : j8.ok P ⟨c.f, AV.trL M c.args, Q6 M c.pre, bk3 M c.post, c.res.tr M⟩ :=
 j8.okPost (j8.lend0 hc M hb he) _ fun ρ i => by
  simp only
  rw [bj7, S9]
  cases y6 M i <;> cases o7 c.post i <;> rfl
section
variable {P : Program} {ι κ : Type} {φ ψ : Nat → Prop} {w0 w : World} {F : ι → Rs} {ρ ρ0 : Nat → Value} {N m n : Nat} {S : List It} {tm : List (Nat × AV)} {a : Act}
theorem i7.release {L L' : κ → Rs} (M : i7 φ ψ w0 w L) (h : ∀ k, L' k = L k ∨ ((∀ b, ¬ (L' k).blk b) ∧ ∀ φ', (∀ b, V3 φ L b → φ' b) → (∀ b, (L k).blk b → φ' b) → (L' k).holds w φ')) : i7 φ ψ w0 w L' := by
 have old : ∀ k b, (L' k).blk b → (L k).blk b := fun k b hb => by
  rcases h k with e | ⟨h1, _⟩
  ·rw [e] at hb; exact hb
  ·exact (h1 b hb).elim
 have hfr : ∀ b, V3 φ L b → V3 φ L' b := fun b hb => ⟨hb.1, fun k hk => hb.2 k (old k b hk)⟩
 refine ⟨M.kept, M.fresh, fun k => ?_, fun i j g hij h1 h2 => M.dis i j g hij (old i g h1) (old j g h2), fun i b hb => M.ge i b (old i b hb), fun i b hb => M.ph i b (old i b hb)⟩
 rcases h k with e | ⟨h1, h2⟩
 ·rw [e]; exact Rs.keep (M.holds k) (Agr.mono fun b _ hf => hfr b hf) fun _ _ => rfl
 ·refine h2 _ hfr fun b hb => ⟨M.ph k b hb, fun j hj => ?_⟩
  by_cases e : j = k
  ·subst e; exact h1 b hj
  ·exact M.dis j k b e (old j b hj) hb
mutual
theorem AV.ids_tr (M : List Ln) : ∀ (x : AV), (x.tr M).ids = x.ids
 | .v _ => rfl
 | .ptr _ _ => rfl
 | .ea _ _ _ _ => rfl
 | .ref i => by simp only [AV.tr]; split <;> rfl
 | .agg l => by simp only [AV.tr, AV.ids]; exact AV.idsL_tr M l
 | .tup l => by simp only [AV.tr, AV.ids]; exact AV.idsL_tr M l
 | .fn _ l => by simp only [AV.tr, AV.ids]; exact AV.idsL_tr M l
 | .bm _ l => by simp only [AV.tr, AV.ids]; exact AV.idsL_tr M l
 | .tref _ => rfl
theorem AV.idsL_tr (M : List Ln) : ∀ (l : List AV), AV.idsL (AV.trL M l) = AV.idsL l
 | [] => rfl
 | x :: r => by simp only [AV.trL, AV.idsL]; rw [AV.ids_tr M x, AV.idsL_tr M r]
end
theorem aH6 {M : List Ln} {t : Nat} {x : AV} : ∀ {tm : List (Nat × AV)}, y5 tm t = some x → y5 (tm.map fun p => (p.1, p.2.tr M)) t = some (x.tr M) ∧ ∃ p ∈ tm, p.2 = x
 | [], h => by cases h
 | (k, y) :: r, h => by
  simp only [y5, bZ5] at h ⊢
  split at h
  ·cases h; rename_i hk; rw [if_pos hk]; exact ⟨rfl, _, b01, rfl⟩
  ·rename_i hk; rw [if_neg hk]
   obtain ⟨h1, p, h2, h3⟩ := aH6 h
   exact ⟨h1, p, b00 _ h2, h3⟩
def bM1 (M : List Ln) (m : Nat) (S1 : List It) (tm1 : List (Nat × AV)) : Bool :=
 decide (M.length ≤ S1.length) && (bY5 S1.length).all (fun i => match y6 M i, o7 S1 i with
  | .no, .box cs => AV.trOkL M cs
  | .no, .hole _ _ _ => false
  | .no, _ => true
  | .row _, .dat _ => true
  | .tree, .dat _ => decide (m ≤ i)
  | _, _ => false) && tm1.all fun p => p.2.trOk M
theorem It.ids_lend (M : List Ln) (l : Ln) (x : It) : x.ids = [] ∨ (y8 M l x).ids = x.ids := by
 cases x with
 | box cs => cases l <;> first | exact .inr rfl | exact .inr (AV.idsL_tr M cs)
 | hole k i ls => cases l <;> exact .inr rfl
 | _ => exact .inl rfl
theorem s4.frz (G : s4 φ ψ w0 F N m ρ0 ρ S tm a w) (M : List Ln) (S1 : List It) (tm1 : List (Nat × AV)) (hb : bM1 M m S1 tm1 = true := by kernel_rfl) (hS : S = Q6 M S1 := by kernel_rfl) (ht : tm = tm1.map (fun p => (p.1, p.2.tr M)) := by kernel_rfl) :
  ∃ ρ', s4 φ ψ w0 F N m ρ0 ρ' S1 tm1 a w := by
 subst hS
 subst ht
 simp only [bM1, bX0, decide_eq_true_eq] at hb
 obtain ⟨⟨hM, hall⟩, htm⟩ := hb
 have hlen : (Q6 M S1).length = S1.length := by simp [Q6]
 have hno : ∀ i, S1.length ≤ i → y6 M i = .no := fun i hi => by
  unfold y6; rw [bX2, bZ1 (by omega)]; rfl
 have hat := fun i (hi : i < S1.length) => bX9.1 hall i (b11.2 hi)
 let ρ1 : Nat → Value := fun i => if (y6 M i).isT then B8 (ρ i) else ρ i
 have hρ1 : ∀ i, ρ1 i = if (y6 M i).isT then B8 (ρ i) else ρ i := fun _ => rfl
 have hρn : ∀ i, (y6 M i).isT = false → ρ1 i = ρ i := fun i h => by rw [hρ1, h]; rfl
 refine ⟨ρ1, G.size, G.defs, fun t x hx => ?_, fun t x hx i hi => ?_, fun j => ⟨fun i hi => ?_, fun hj => v9 hj⟩, ?_, ?_, fun i hi => ?_⟩
 ·obtain ⟨h1, p, h2, h3⟩ := aH6 (M := M) hx
  rw [G.tmv t _ h1, AV.val_tr hρ1 x (by rw [← h3]; exact bX9.1 htm p h2)]
 ·obtain ⟨h1, _⟩ := aH6 (M := M) hx
  have := G.tmi t _ h1 i (by rw [AV.ids_tr]; exact hi)
  rw [hlen] at this; exact this
 ·have h1 := (G.bd j).1 i
  rw [S9, hlen] at h1
  rcases It.ids_lend M (y6 M j) (o7 S1 j) with h | h
  ·rw [h] at hi; cases hi
  ·exact h1 (by rw [h]; exact hi)
 ·refine G.mem.release fun k => ?_
  cases k with
  | inl i => exact .inl rfl
  | inr j =>
   simp only [l6]
   rw [S9]
   rcases bY8 j S1.length with hj | hj
   case inr => rw [hno j hj, v9 hj]; exact .inl rfl
   have h1 := hat j hj
   cases hl : y6 M j with
   | no =>
    have e : ρ1 j = ρ j := hρn j (by rw [hl]; rfl)
    rw [hl] at h1
    left
    cases hx : o7 S1 j with
    | box cs =>
     rw [hx] at h1
     simp only [y8, It.res]
     rw [e, AV.vals_tr hρ1 cs h1]
    | none => rfl
    | dead => rfl
    | dat d => simp only [y8, It.res]; rw [e]
    | row e' d => simp only [y8, It.res]; rw [e]
    | tree d => simp only [y8, It.res]; rw [e]
    | kept e' d => cases e' <;> (simp only [y8, It.res]; rw [e])
    | hole k i ls => rw [hx] at h1; cases h1
   | row e' =>
    have e : ρ1 j = ρ j := hρn j (by rw [hl]; rfl)
    rw [hl] at h1
    cases hx : o7 S1 j <;> rw [hx] at h1 <;> first | cases h1 | skip
    rename_i d
    refine .inr ⟨fun b hb => hb, fun φ' hf hown => ⟨RD.nice _ _, ?_⟩⟩
    have hh := G.mem.holds (.inr j)
    simp only [l6] at hh
    rw [S9, hl, hx] at hh
    simp only [y8, It.res] at hh
    obtain ⟨_, xs, o1, o2⟩ := hh
    rw [e]
    exact RD.make (A7 o1 fun g hg => hown g hg) (RW.nice _ _ _ _ _ _ (Agr.mono fun b _ hb => hf b hb) o2)
   | tree =>
    have e : ρ1 j = B8 (ρ j) := by rw [hρ1, hl]; rfl
    rw [hl] at h1
    cases hx : o7 S1 j <;> rw [hx] at h1 <;> first | cases h1 | skip
    rename_i d
    refine .inr ⟨fun b hb => hb, fun φ' hf hown => ⟨RD.nice _ _, ?_⟩⟩
    have hh := G.mem.holds (.inr j)
    simp only [l6] at hh
    rw [S9, hl, hx] at hh
    simp only [y8, It.res] at hh
    rw [e]
    exact A2.read hh.2.1 fun b hb => hown b hb
 ·have := G.le; rw [hlen] at this; exact this
 ·have hm := G.le
  rw [hlen] at hm
  have : (y6 M i).isT = false := by
   cases hl : y6 M i with
   | no => rfl
   | row _ => rfl
   | tree =>
    have h1 := hat i (by omega)
    rw [hl] at h1
    cases hx : o7 S1 i <;> rw [hx] at h1 <;> simp at h1
    omega
  show ρ1 i = ρ0 i
  rw [hρn i this]; exact G.old i hi
end
section
variable {P : Program} {ι κ : Type} {φ ψ : Nat → Prop} {w0 w w' : World} {F : ι → Rs} {ρ ρ0 : Nat → Value}
theorem i7.grow {L L' : κ → Rs} (M : i7 φ ψ w0 w L) (hb : Below w.heap.size w w') (K : κ → Prop) (ho : ∀ k, ¬ K k → L' k = L k) (hg : ∀ k, K k → ∀ b, (L' k).blk b → w.heap.size ≤ b) (hd : ∀ j k b, j ≠ k → K j → K k → (L' j).blk b → ¬ (L' k).blk b) (h : ∀ k, K k → (L' k).holds w' (V3 φ L')) : i7 φ ψ w0 w' L' := by
 have M1 := M.call hb
 have old : ∀ k, ¬ K k → ∀ b, (L' k).blk b → b < w.heap.size := fun k hk b h1 => by rw [ho k hk] at h1; exact M.lt h1
 refine ⟨M1.kept, M.fresh, fun k => ?_, fun i j g hij h1 h2 => ?_, fun i b h1 => ?_, fun i b h1 => ?_⟩
 ·by_cases e : K k
  ·exact h k e
  ·rw [ho k e]
   refine Rs.keep (M.holds k) ⟨hb.size, fun b hl hf => ⟨⟨hf.1, fun j hj => ?_⟩, hb.block b hl⟩⟩ fun g hgx => hb.block g (M.lt hgx)
   by_cases e2 : K j
   ·have := hg j e2 b hj; omega
   ·rw [ho j e2] at hj; exact hf.2 j hj
 ·by_cases e1 : K i <;> by_cases e2 : K j
  ·exact hd i j g hij e1 e2 h1 h2
  ·have := hg i e1 g h1; have := old j e2 g h2; omega
  ·have := hg j e2 g h2; have := old i e1 g h1; omega
  ·rw [ho i e1] at h1; rw [ho j e2] at h2; exact M.dis i j g hij h1 h2
 ·by_cases e : K i
  ·exact .inl (bZ6 M.size (hg i e b h1))
  ·rw [ho i e] at h1; exact M.ge i b h1
 ·by_cases e : K i
  ·exact M.fresh b (bZ6 M.size (hg i e b h1))
  ·rw [ho i e] at h1; exact M.ph i b h1
end
abbrev oP (p : j7) : List It := [.row 3 (.ints p.vars), .row 3 (.ints p.arrays), .tree (.stmts p.body)]
abbrev oA (r : Nat) : AV := .agg [.ref r, .ref (r + 1), .tref (r + 2)]
theorem ak7 {w : World} {φ : Nat → Prop} {v : Value} {l : List Int} (h : w.ownsRow 0 3 1 v l.length (ints l)) : (Rs.row 3 (D.ints l).sz v (D.ints l).len fun xs w φ => RW w φ (.ints l) xs).holds w φ := by
 refine ⟨fun xs => RW.nice (.ints l) xs, ints l, h, fun i hi j x hx => ?_⟩
 have hi' : i < l.length := hi
 simp only [D.elem] at hx
 have hj : j = 0 := by
  cases j with
  | zero => rfl
  | succ j => simp at hx
 subst hj
 simp at hx
 subst hx
 refine ⟨_, ?_, rfl⟩
 simp only [D.sz]
 rw [Nat.mul_one, b07]
 simp [ints, hi']
theorem ax0 (v : Value) (t : List Int) (w : World) (h : F2 w v t.length 1 (ints t)) (hb : t.length ≤ 1000000000000) :
  Calls Tryz.prog 71 #[v] w fun e w' => ∃ u, e = .returned u ∧ D6 w' w.heap.size w'.heap.size 3 1 u t.length (ints t) ∧ Below w.heap.size w w' := by
 obtain ⟨a, cap, rfl, hc1, hc2, hc3, -⟩ := h.open
 have hnil := fun w => Lib.run_eql_slice_nil (P := Tryz.prog) w 23 3 a t.length cap 0 0 Tryz.underlying23
 rcases a with _ | a
 ·have hn : t.length = 0 := by
   rcases Nat.eq_zero_or_pos t.length with h0 | h0
   ·exact h0
   ·obtain ⟨_, a, c, he, _, _, hx⟩ := h
    cases he
    obtain ⟨_, _, he, _⟩ := hx h0
    cases he
  have ht : t = [] := bZ3 hn
  subst ht
  simp only [bY2, Option.isNone_none] at hnil
  go_enter Tryz.func71, Tryz.ntmps71
  go_wp2_with fail
  go_ret
  exact ⟨_, rfl, ⟨World.ownsRow_nil _ _ _ _, fun g hg => by cases hg⟩, Below.refl _ _⟩
 ·go_enter Tryz.func71, Tryz.ntmps71
  simp only [Option.isNone_some] at hnil
  have ba := (Below.refl w.heap.size w).alloc (bX4 _) (.cells #[] 3)
  go_wp2_with (at_builtin; refine W8 rfl _ _ rfl Tryz.underlying23 a55 rfl (by omega) rfl (C3 w #[] 0 1 _ rfl rfl (by omega)).1 rfl (h.below ba) av7 (by omega) (by omega) (by simp) ?_; rintro a4 q4 w4 o4 b4 - -)
  go_ret
  refine ⟨_, rfl, D6.mk' (by simpa using o4), ba.trans b4⟩
theorem ab7 (e : c8) : j8.ok Tryz.prog ⟨118, [.agg [.v (.int .i64 e.kind), .v (.int .i64 e.value), .ref 0]], [.dat (.exprs e.kids)], [.dat (.exprs e.kids)], .v (.bool (noneB e))⟩ := by
  refine I1 17 Tryz.func118 [dE e.kids] [(0, eA e 0)] fun G => ?_; refine wp_seq (i9 G d9 [0, 1] [dE e.kids, .box (eL e 0)] [(1, .ptr 1 0), (2, bA false)] fun G => b0 (wp_seq ?_)); cases h0 : (e.kind == 0)
  · have q0 := ne_of_beq_false h0; refine i9 G (H4 (fc h0 (fc (b := false) rfl fz)) (us [(4, 6, 0), (1007, 1007, 0), (9, 12, 1), (1013, 1013, 1)])) [0] [dE e.kids] [(2, bA false)] fun G => b0 (wp_ret ?_); exact J6 false G [0] (by rw [bZ7]; simp [noneB, h0, q0]; done)
  ·
   have q0 := eq_of_beq h0; cases h1 : (e.value == 0)
   · have q1 := ne_of_beq_false h1; refine i9 G (H4 (fc h0 (fc h1 fz)) (us [(4, 6, 0), (1007, 1007, 0), (9, 12, 1), (1013, 1013, 1)])) [0] [dE e.kids] [(2, bA false)] fun G => b0 (wp_ret ?_); exact J6 false G [0] (by rw [bZ7]; simp [noneB, h0, q0, h1, q1]; done)
   · have q1 := eq_of_beq h1; refine i9 G (H4 (fc h0 (fc h1 fz)) (us [(4, 6, 0), (1007, 1007, 0), (9, 12, 1), (1013, 1013, 1)])) [0] [dE e.kids] [(2, bA ((e.kids.length : Int) == 0))] fun G => b0 (wp_ret ?_); exact J6 ((e.kids.length : Int) == 0) G [0] (by rw [bZ7]; simp [noneB, h0, q0, h1, q1]; done)
theorem ad3 (k : Int) : j8.ok Tryz.prog ⟨115, [.v (.int .i64 k)], [], [], .v (.int .i64 (s0 k))⟩ := by
  refine I1 23 Tryz.func115 [] [(0, iA k)] fun G => ?_; refine wp_seq (l0 G d9 [(2, iA 0)] fun G => b0 (wp_seq (wp_block (wp_seq ?_)))); cases h0 : (k == 1)
  ·
   have q0 := ne_of_beq_false h0; refine l0 G (H4 (fc h0 fz) [(3, 0), (4, 0), (1005, 0)]) [(3, bA (k == 2))] fun G => b0 (M4 G (fun h1 q1 => ?_) fun h1 q1 => ?_)
   ·
    refine wp_seq (l0 G d9 [(10, bA (k == 3))] fun G => b0 (M4 G (fun h2 q2 => ?_) fun h2 q2 => ?_))
    ·
     refine wp_seq ?_; cases h3 : (decide (k ≥ 4))
     ·
      have q3 := W0 h3; refine l0 G (H4 (fc h3 fz) [(3, 0), (4, 0), (1005, 0)]) [(13, bA false)] fun G => b0 (rF G false (by kernel_rfl) (wp_seq (F5 G d9 [(2, iA 0), (20, bA (k == 11))] fun G => b0 ?_))); cases h4 : (k == 11)
      · have q4 := ne_of_beq_false h4; refine rF G _ h4 (wp_skip (i8 (b0 (wp_seq (l0 G d9 [(2, iA (-1))] fun G => b0 (wp_ret ?_)))))); exact rxI (-1) G [] (by unfold s0; (repeat' split) <;> omega)
      · have q4 := eq_of_beq h4; exact False.elim (by omega)
     ·
      have q3 := V9 h3; refine l0 G (H4 (fc h3 fz) [(3, 0), (4, 0), (1005, 0)]) [(13, bA (decide (k ≤ 10)))] fun G => b0 (rcD G (fun h5 q5 => ?_) fun h5 q5 => ?_)
      ·
       refine wp_seq (l0 G d9 [(20, bA (k == 11))] fun G => b0 (M4 G (fun h6 q6 => ?_) fun h6 q6 => ?_))
       · refine wp_skip (i8 (b0 (wp_seq (l0 G d9 [(2, iA (-1))] fun G => b0 (wp_ret ?_))))); exact rxI (-1) G [] (by unfold s0; (repeat' split) <;> omega)
       · refine wp_seq (l0 G d9 [(2, iA 3)] fun G => b0 (wp_ret (C2 (n7 ?_)))); exact rxI 3 G [] (by unfold s0; (repeat' split) <;> omega)
      · refine wp_seq (l0 G d9 [(2, iA 2)] fun G => b0 (wp_ret (C2 (n7 ?_)))); exact rxI 2 G [] (by unfold s0; (repeat' split) <;> omega)
    · refine wp_seq (l0 G d9 [(2, iA 1)] fun G => b0 (wp_ret (C2 (n7 ?_)))); exact rxI 1 G [] (by unfold s0; (repeat' split) <;> omega)
   · refine wp_seq (l0 G d9 [] fun G => b0 (wp_ret (C2 (n7 ?_)))); exact rxI 0 G [] (by unfold s0; (repeat' split) <;> omega)
  · have q0 := eq_of_beq h0; refine l0 G (H4 (fc h0 fz) [(3, 0), (4, 0), (1005, 0)]) [(3, bA true)] fun G => b0 (rT G true (by kernel_rfl) (wp_seq (l0 G d9 [] fun G => b0 (wp_ret (C2 (n7 ?_)))))); exact rxI 0 G [] (by unfold s0; (repeat' split) <;> omega)
theorem ax6 (e : c8) : j8.ok Tryz.prog ⟨114, [.agg [.v (.int .i64 e.kind), .v (.int .i64 e.value), .ref 0]], [.dat (.exprs e.kids)], [.dat (.exprs e.kids)], .v (.bool (R0 e))⟩ := by
 refine I1 11 Tryz.func114 [dE e.kids] [(0, eA e 0)] fun G => ?_; refine wp_seq (i9 G d9 [0, 1] [dE e.kids, .box (eL e 0)] [(1, .ptr 1 0), (2, bA false)] fun G => b0 (wp_seq ?_)); cases h0 : (e.kind == 1)
 ·have q0 := ne_of_beq_false h0; refine i9 G (H4 (fc h0 fz) [(4, 0), (5, 0), (6, 0), (1007, 0)]) [0] [dE e.kids] [(2, bA (e.kind == 2))] fun G => b0 (wp_ret ?_); exact J6 (e.kind == 2) G [0] (by rw [bZ7]; simp [R0, h0, q0]; done)
 ·have q0 := eq_of_beq h0; refine i9 G (H4 (fc h0 fz) [(4, 0), (5, 0), (6, 0), (1007, 0)]) [0] [dE e.kids] [(2, bA true)] fun G => b0 (wp_ret ?_); exact J6 true G [0] (by rw [bZ7]; simp [R0, h0, q0]; done)
theorem bb5 (vs ars : List Int) (b : List c6) (k : Int) : j8.ok Tryz.prog ⟨119, [.agg [.ref 0, .ref 1, .ref 2], .v (.int .i64 k)], [.dat (.ints vs), .dat (.ints ars), .dat (.stmts b)], [.dat (.ints vs), .dat (.ints ars), .dat (.stmts b)], .v (.int .i64 (ae6 vs.length ars.length k))⟩ := by
  refine I1 18 Tryz.func119 [dI vs, dI ars, dT b] [(0, pA 0), (1, iA k)] fun G => ?_; refine wp_seq (i9 G d9 (rg 4) [dI vs, dI ars, dT b, .box (pL 0)] [(1, iA k), (2, .ptr 3 0), (4, iA 0)] fun G => b0 (wp_seq (wp_seq (l0 G d9 [(5, iA k)] fun G => b0 (wp_block (wp_seq (l0 G d9 [(6, bA (k == 1))] fun G => b0 (M4 G (fun h0 q0 => ?_) fun h0 q0 => ?_))))))))
  ·
   refine wp_seq (l0 G d9 [(8, bA (k == 2))] fun G => b0 (M4 G (fun h1 q1 => ?_) fun h1 q1 => ?_))
   ·
    refine wp_seq (l0 G d9 [(13, bA (k == 3))] fun G => b0 (M4 G (fun h2 q2 => ?_) fun h2 q2 => ?_))
    · refine wp_skip (i8 (b0 (wp_seq (i9 G d9 [0, 1, 2] [dI vs, dI ars, dT b] [(4, iA 1)] fun G => b0 (wp_ret ?_))))); exact rxI 1 G [0, 1, 2] (by unfold ae6; (repeat' split) <;> omega)
    · refine wp_seq (i9 G d9 [0, 1, 2] [dI vs, dI ars, dT b] [(4, iA (ars.length : Int))] fun G => b0 (wp_ret (C2 (n7 ?_)))); exact rxI ((ars.length : Int)) G [0, 1, 2] (by unfold ae6; (repeat' split) <;> omega)
   · refine wp_seq (i9 G d9 [0, 1, 2] [dI vs, dI ars, dT b] [(4, iA (vs.length : Int))] fun G => b0 (wp_ret (C2 (n7 ?_)))); exact rxI ((vs.length : Int)) G [0, 1, 2] (by unfold ae6; (repeat' split) <;> omega)
  · refine wp_seq (i9 G d9 [0, 1, 2] [dI vs, dI ars, dT b] [(4, iA 256)] fun G => b0 (wp_ret (C2 (n7 ?_)))); exact rxI 256 G [0, 1, 2] (by unfold ae6; (repeat' split) <;> omega)
theorem aT4 {α : Type} {l : List α} {k : Nat} {p : α → Bool} {z : α} (h : (l.take k).all p = true) (hk : k < l.length) (hp : p (l.getD k z) = true) : (l.take (k + 1)).all p = true := by
 rw [O3 p l k hk, h, ← n9 (d := z) hk, hp]; rfl
theorem ay2 {α : Type} {l : List α} {k : Nat} {p : α → Bool} (h : (l.take k).all p = true) (hk : l.length ≤ k) : l.all p = true := by
 rw [bY3 hk] at h; exact h
section
variable {nv na d : Nat} {e : c8}
theorem br5 (h : ¬ (e.kids.length : Int) = s0 e.kind) : m6 nv na (d + 1) e = false := by simp [m6, ai5, h]
theorem br4 (h : e.value < 0) : m6 nv na (d + 1) e = false := by
 have : ¬ 0 ≤ e.value := by omega
 simp [m6, ai5, this]
theorem br3 (h : ae6 nv na e.kind ≤ e.value) : m6 nv na (d + 1) e = false := by
 have : ¬ e.value < ae6 nv na e.kind := by omega
 simp [m6, ai5, this]
theorem br2 {k : Nat} {z : c8} (hk : k < e.kids.length) (h : m6 nv na d (e.kids.getD k z) = false) : m6 nv na (d + 1) e = false := by
 rw [n9 hk] at h
 have : e.kids.all (m6 nv na d) = false := ai4 hk h
 simp [m6, this]
theorem aV0 (h1 : (e.kids.length : Int) = s0 e.kind) (h2 : ¬ e.value < 0) (h3 : ¬ ae6 nv na e.kind ≤ e.value) : ai5 nv na e = true := by
 unfold ai5; rw [decide_eq_true h1, decide_eq_true (by omega), decide_eq_true (by omega)]; rfl
theorem br1 (hn : ai5 nv na e = true) (ha : e.kids.all (m6 nv na d) = true) (h : ¬ e.kind = 3) : m6 nv na (d + 1) e = true := by
 rw [m6, hn, ha]; simp [a42, h]
theorem br0 (hn : ai5 nv na e = true) (ha : e.kids.all (m6 nv na d) = true) (h : e.kind = 3) (hl : 0 < e.kids.length) : m6 nv na (d + 1) e = R0 (e.kids.getD 0 bW7) := by
 rw [m6, hn, ha, a84 h hl, n9 hl]; simp [R0]
theorem aE2 (h1 : (e.kids.length : Int) = s0 e.kind) (h : e.kind = 3) : 0 < e.kids.length := by
 rw [h] at h1; simp [s0] at h1; omega
end
theorem aZ7 (vs ars : List Int) (b : List c6) (e : c8) (n : Int) (hn : n = 0) : j8.ok Tryz.prog ⟨116, [.agg [.ref 0, .ref 1, .ref 2], .agg [.v (.int .i64 e.kind), .v (.int .i64 e.value), .ref 3], .v (.int .i64 n)], [.dat (.ints vs), .dat (.ints ars), .dat (.stmts b), .dat (.exprs e.kids)], [.dat (.ints vs), .dat (.ints ars), .dat (.stmts b), .dat (.exprs e.kids)], .v (.bool (m6 vs.length ars.length 0 e))⟩ := by
 have h100 : decide (n < 1) = true := by simp; omega
 refine I1 60 Tryz.func116 [dI vs, dI ars, dT b, dE e.kids] [(0, pA 0), (1, eA e 3), (2, iA n)] fun G => ?_; refine wp_seq (i9 G d9 [0, 1, 2, 3, 4, 12] [dI vs, dI ars, dT b, dE e.kids, .box (pL 0), .box (eL e 3)] [(2, iA n), (3, .ptr 4 0), (4, .ptr 5 0), (6, bA false)] fun G => b0 (wp_seq (wp_seq (bs7 G (H4 (fc (a := decide (n < 1)) (b := true) (by assumption) (fc (b := true) rfl fz)) (us [(3, 9, 0), (1010, 1010, 0), (12, 14, 1), (1015, 1015, 1), (17, 23, 1), (1024, 1024, 1)])) [0, 1, 3, 7, 15, 31, 7, 71, 199, 511, 1023, 2047, 4095, 8191, 16383, 32767, 65535, 131071, 262143, 131071, 131071, 1179647, 3801087, 8388607, 16777215] [(32, bA true)] fun G => b0 (rT G true (by kernel_rfl) (wp_seq (l0 G d9 [] fun G => b0 (wp_ret (n7 ?_))))))))); exact I9 G (rg 4)
theorem aZ6 (vs ars : List Int) (b : List c6) (d : Nat) (hd : d ≤ 5) (ih : ∀ (e : c8) (n : Int), n = d → j8.ok Tryz.prog ⟨116, [.agg [.ref 0, .ref 1, .ref 2], .agg [.v (.int .i64 e.kind), .v (.int .i64 e.value), .ref 3], .v (.int .i64 n)], [.dat (.ints vs), .dat (.ints ars), .dat (.stmts b), .dat (.exprs e.kids)], [.dat (.ints vs), .dat (.ints ars), .dat (.stmts b), .dat (.exprs e.kids)], .v (.bool (m6 vs.length ars.length d e))⟩)
    (e : c8) (n : Int) (hn : n = (d + 1 : Nat)) : j8.ok Tryz.prog ⟨116, [.agg [.ref 0, .ref 1, .ref 2], .agg [.v (.int .i64 e.kind), .v (.int .i64 e.value), .ref 3], .v (.int .i64 n)], [.dat (.ints vs), .dat (.ints ars), .dat (.stmts b), .dat (.exprs e.kids)], [.dat (.ints vs), .dat (.ints ars), .dat (.stmts b), .dat (.exprs e.kids)], .v (.bool (m6 vs.length ars.length (d + 1) e))⟩ := by
  have h100 : decide (n < 1) = false := by simp; omega
  refine I1 60 Tryz.func116 [dI vs, dI ars, dT b, dE e.kids] [(0, pA 0), (1, eA e 3), (2, iA n)] fun G => ?_; refine wp_seq (i9 G d9 [0, 1, 2, 3, 4, 12] [dI vs, dI ars, dT b, dE e.kids, .box (pL 0), .box (eL e 3)] [(2, iA n), (3, .ptr 4 0), (4, .ptr 5 0), (6, bA false)] fun G => b0 (wp_seq (wp_seq ?_))); cases h0 : ((e.kids.length : Int) != s0 e.kind)
  ·
   have q0 := bne_eq_false_iff_eq.1 h0; cases h1 : (decide (e.value < 0))
   ·
    have q1 := W0 h1; refine bs7 G (Q8 (E2 8 [] (ad3 e.kind) (E2 22 [0, 1, 2] (bb5 vs ars b e.kind) Q7)) (fc (a := decide (n < 1)) (b := false) (by assumption) (fc h0 (fc h1 fz))) (us [(3, 9, 0), (1010, 1010, 0), (12, 14, 1), (1015, 1015, 1), (17, 23, 2), (1024, 1024, 2)])) [0, 1, 3, 7, 15, 31, 7, 71, 199, 511, 1023, 2047, 4095, 8191, 16383, 32767, 65535, 131071, 262143, 131071, 131071, 1179647, 3801087, 8388607, 16777215] [(32, bA (decide (e.value ≥ ae6 vs.length ars.length e.kind)))] fun G => b0 (rcD G (fun h2 q2 => ?_) fun h2 q2 => ?_)
    ·
     refine wp_skip (b0 (wp_seq (wp_seq (F5 G d9 [(2, iA n), (3, .ptr 4 0), (4, .ptr 5 0), (6, bA false), (7, iA 0)] fun G => b0 (wp_block ?_))))); refine v5 (κ := Nat) (fun k => k ≤ e.kids.length ∧ (e.kids.take k).all (m6 vs.length ars.length d) = true) (fun k => e.kids.length - k) (fun k => [dI vs, dI ars, dT b, dE e.kids, .box (pL 0), .box (eL e 3)]) (fun k => [(2, iA n), (3, .ptr 4 0), (4, .ptr 5 0), (6, bA false), (7, iA k)]) 0 (by simp [h100, h0, h1, h2]) (s4.at G _ _) ?_; clear G; intro k ρ a w hp G; have hlen : e.kids.length ≤ 9223372036854775807 := G.len 3 (d := .exprs e.kids) (by kernel_rfl); have hnode := aV0 (nv := vs.length) (na := ars.length) q0 q1 q2; refine wp_seq (wp_seq (F5 G d9 [(2, iA n), (3, .ptr 4 0), (4, .ptr 5 0), (6, bA false), (7, iA k), (37, bA (decide ((k : Int) < e.kids.length)))] fun G => b0 (rcD G (fun h3 q3 => ?_) fun h3 q3 => ?_)))
     ·
      refine wp_exit (t6 (t6 (t3 (b0 (wp_seq ?_))))); cases h4 : (e.kind != 3)
      · have q4 := bne_eq_false_iff_eq.1 h4; refine J0 G (Q8 (E2 8 [62] (ax6 (e.kids.getD 0 bW7)) Q7) (fc h4 fz) (us [(4, 8, 0), (1009, 1009, 0)])) (rg 4) [dI vs, dI ars, dT b, dE e.kids] [(6, bA (R0 (e.kids.getD 0 bW7)))] (iX 0 0 e.kids.length []) (iK (by have := aE2 q0 (by omega); omega) bY1) fun G => b0 (wp_ret ?_); exact J6 (R0 (e.kids.getD 0 bW7)) G (rg 4) (br0 hnode (ay2 hp.2 (by omega)) (by omega) (aE2 q0 (by omega)))
      · have q4 := bne_iff_ne.1 h4; refine i9 G (H4 (fc h4 fz) (us [(4, 8, 0), (1009, 1009, 0)])) (rg 4) [dI vs, dI ars, dT b, dE e.kids] [(6, bA true)] fun G => b0 (wp_ret ?_); exact J6 true G (rg 4) (br1 hnode (ay2 hp.2 (by omega)) (by omega))
     ·
      refine wp_skip (b0 (wp_seq (wp_block (wp_seq (a85 G (t0 8 [0, 1, 2, 46] (ih (e.kids.getD k bW7) (n - 1) (by omega))) [0, 0, 2, 0, 14, 30, 0, 64, 255, 511] [(49, .v (.bool !m6 vs.length ars.length d (e.kids.getD k bW7)))] (iX k k e.kids.length ((wO (n - 1)) :: [])) (iK (by omega) (o1 (by omega))) fun G => b0 ?_))))); cases h5 : (!m6 vs.length ars.length d (e.kids.getD k bW7))
      · have q5 : (m6 vs.length ars.length d (e.kids.getD k bW7)) = true := (Eq.mp (Bool.not_eq_false' _) h5); refine rF G _ h5 (wp_skip (i8 (b0 (B5 G d9 [(7, iA ((k : Int) + 1))] [wO ((k : Int) + 1)] (o1 (by omega)) fun G => b0 ?_)))); exact J5 G (k + 1) (⟨by omega, aT4 hp.2 (by omega) (by assumption)⟩) (by omega) (rg 6)
      · have q5 : (m6 vs.length ars.length d (e.kids.getD k bW7)) = false := (Eq.mp (b03 _) h5); refine rT G _ h5 (wp_seq (l0 G d9 [] fun G => b0 (wp_ret (C2 (n7 (n7 (C2 (n7 ?_)))))))); exact J6 false G (rg 4) (br2 (k := k) (by omega) (by assumption))
    · refine wp_seq (l0 G d9 [] fun G => b0 (wp_ret (n7 ?_))); exact J6 false G (rg 4) (br3 (by omega))
   · have q1 := V9 h1; refine bs7 G (Q8 (E2 8 [] (ad3 e.kind) Q7) (fc (a := decide (n < 1)) (b := false) (by assumption) (fc h0 (fc h1 fz))) (us [(3, 9, 0), (1010, 1010, 0), (12, 14, 1), (1015, 1015, 1), (17, 23, 2), (1024, 1024, 2)])) [0, 1, 3, 7, 15, 31, 7, 71, 199, 511, 1023, 2047, 4095, 8191, 16383, 32767, 65535, 131071, 262143, 131071, 131071, 1179647, 3801087, 8388607, 16777215] [(32, bA true)] fun G => b0 (rT G true (by kernel_rfl) (wp_seq (l0 G d9 [] fun G => b0 (wp_ret (n7 ?_))))); exact J6 false G (rg 4) (br4 (by omega))
  · have q0 := bne_iff_ne.1 h0; refine bs7 G (Q8 (E2 8 [] (ad3 e.kind) Q7) (fc (a := decide (n < 1)) (b := false) (by assumption) (fc h0 (fc (b := true) rfl fz))) (us [(3, 9, 0), (1010, 1010, 0), (12, 14, 1), (1015, 1015, 1), (17, 23, 2), (1024, 1024, 2)])) [0, 1, 3, 7, 15, 31, 7, 71, 199, 511, 1023, 2047, 4095, 8191, 16383, 32767, 65535, 131071, 262143, 131071, 131071, 1179647, 3801087, 8388607, 16777215] [(32, bA true)] fun G => b0 (rT G true (by kernel_rfl) (wp_seq (l0 G d9 [] fun G => b0 (wp_ret (n7 ?_))))); exact J6 false G (rg 4) (br5 (by omega))
theorem aP2 (vs ars : List Int) (b : List c6) : ∀ (d : Nat), d ≤ 5 → ∀ (e : c8) (n : Int), n = d → j8.ok Tryz.prog ⟨116, [.agg [.ref 0, .ref 1, .ref 2], .agg [.v (.int .i64 e.kind), .v (.int .i64 e.value), .ref 3], .v (.int .i64 n)], [.dat (.ints vs), .dat (.ints ars), .dat (.stmts b), .dat (.exprs e.kids)], [.dat (.ints vs), .dat (.ints ars), .dat (.stmts b), .dat (.exprs e.kids)], .v (.bool (m6 vs.length ars.length d e))⟩
 | 0, _, e, n, hn => aZ7 vs ars b e n (by omega)
 | d + 1, hd, e, n, hn => aZ6 vs ars b d (by omega) (aP2 vs ars b d (by omega)) e n hn
theorem ax5 (vs ars : List Int) (b : List c6) (ky vy : Int) (ks : List c8) (n : Int) (hn : n = 5) : j8.ok Tryz.prog (V1 116 [pA 0, .agg [iA ky, iA vy, .ref 3], iA n] [dI vs, dI ars, dT b, dE ks] (bA (m6 vs.length ars.length 5 ⟨ky, vy, ks⟩))) := aP2 vs ars b 5 (by omega) ⟨ky, vy, ks⟩ n hn
def cnP (d : Nat) (ks : List c8) (k : Nat) : Nat := 1 + ((ks.take k).map (Z5 d)).sum
theorem bN5 (d : Nat) (ks : List c8) : cnP d ks 0 = 1 := rfl
theorem aR8 {d : Nat} {ks : List c8} {k : Nat} (hk : k < ks.length) : cnP d ks (k + 1) = cnP d ks k + Z5 d (ks.getD k bW7) := by
 unfold cnP
 rw [H6 ks k hk, List.map_append, List.sum_append, n9 hk]
 simp; omega
theorem bw3 {d : Nat} {e : c8} {k : Nat} (hk : e.kids.length ≤ k) : cnP d e.kids k = Z5 (d + 1) e := by
 unfold cnP; rw [bY3 hk, Z5]
section
variable {nv na d : Nat} {e : c8}
theorem aY8 (he : m6 nv na (d + 1) e = true) {k : Nat} (hk : k < e.kids.length) : m6 nv na d (e.kids.getD k bW7) = true := by
 rw [n9 hk]; exact (ag2 he).2 _ (bZ0 hk)
theorem bN4 (hd : d ≤ 5) (he : m6 nv na d e = true) : Z5 d e ≤ 1024 := by
 rw [aR7 nv na d e he]
 refine bZ6 (bf4 nv na d e he) ?_
 exact bZ6 (Nat.pow_le_pow_right (by decide) hd) (by decide)
theorem bA0 (hd : d ≤ 4) (he : m6 nv na (d + 1) e = true) : ∀ k : Nat, k ≤ e.kids.length → cnP d e.kids k ≤ 1 + 1024 * k
 | 0, _ => by rw [bN5]; omega
 | k + 1, hk => by
  have h := bA0 hd he k (by omega)
  have h2 := bN4 (by omega) (aY8 he (show k < e.kids.length by omega))
  rw [aR8 (by omega)]
  omega
end
abbrev cnC (d : Nat) (e : c8) (n : Int) : j8 := V1 117 [eA e 0, iA n] (eS e) (iA (Z5 d e : Nat))
theorem a82 (nv na d : Nat) (hd : d ≤ 4) (ih : ∀ (e : c8), m6 nv na d e = true → ∀ n : Int, n = d → j8.ok Tryz.prog (cnC d e n)) (e : c8) (he : m6 nv na (d + 1) e = true) (n : Int) (hn : n = (d + 1 : Nat)) : j8.ok Tryz.prog (cnC (d + 1) e n) := by
  have hk3 := (ag2 he).1; refine I1 29 Tryz.func117 [dE e.kids] [(0, eA e 0), (1, iA n)] fun G => ?_; refine wp_seq (i9 G d9 [0, 1] [dE e.kids, .box (eL e 0)] [(1, iA n), (2, .ptr 1 0), (4, iA 0)] fun G => b0 (wp_seq (l0 G d9 [(5, iA 1)] fun G => b0 (wp_seq (wp_seq (F5 G d9 [(1, iA n), (2, .ptr 1 0), (4, iA 0), (5, iA 1), (6, iA 0)] fun G => b0 (wp_block ?_))))))); refine v5 (κ := Nat) (fun k => k ≤ e.kids.length) (fun k => e.kids.length - k) (fun k => [dE e.kids, .box (eL e 0)]) (fun k => [(1, iA n), (2, .ptr 1 0), (4, iA 0), (5, iA (cnP d e.kids k : Nat)), (6, iA k)]) 0 (by omega) (s4.at G _ _) ?_; clear G; intro k ρ a w hp G; replace G := s4.at G [dE e.kids, .box (eL e 0)] [(1, iA n), (2, .ptr 1 0), (4, iA 0), (5, iA (↑(cnP d e.kids k) : Int)), (6, iA k)]; have hcb := bA0 hd he k hp; refine wp_seq (wp_seq ?_); cases h0 : (decide ((k : Int) < e.kids.length))
  · have q0 := W0 h0; refine l0 G (H4 (fc h0 fz) [(6, 0), (7, 0), (1008, 0)]) [(15, bA false)] fun G => b0 (rF G false (by kernel_rfl) (wp_exit (t6 (t6 (t3 (b0 (wp_seq (i9 G d9 [0] [dE e.kids] [(4, iA (↑(cnP d e.kids k) : Int))] fun G => b0 (wp_ret ?_))))))))); exact rxI ((↑(cnP d e.kids k) : Int)) G [0] (by rw [← bw3 (k := k) (by omega)]; done)
  ·
   have q0 := V9 h0; refine F5 G (H4 (fc h0 fz) [(6, 0), (7, 0), (1008, 0)]) [(1, iA n), (2, .ptr 1 0), (4, iA 0), (5, iA (↑(cnP d e.kids k) : Int)), (6, iA k), (15, bA (decide (n > 0)))] fun G => b0 ?_; cases h1 : (decide (n > 0))
   · have q1 := W0 h1; exact False.elim (by omega)
   · have q1 := V9 h1; refine rT G _ h1 (wp_skip (b0 (wp_seq (wp_block (B5 G (t0 8 [42] (ih (e.kids.getD k bW7) (aY8 he (by omega)) (n - 1) (by omega))) [(5, iA ((↑(cnP d e.kids k) : Int) + (↑(Z5 d (e.kids.getD k bW7)) : Int)))] (iX k k e.kids.length ((wO (n - 1)) :: ((wO ((↑(cnP d e.kids k) : Int) + (↑(Z5 d (e.kids.getD k bW7)) : Int))) :: []))) (iK (by omega) ⟨oW (by omega), ⟨(by have h9 := bN4 (nv := nv) (na := na) (d := d) (by omega) (aY8 he (show k < e.kids.length by omega)); exact w64 (by omega) (by omega)), bY1⟩⟩) fun G => i8 (b0 (B5 G d9 [(6, iA ((k : Int) + 1))] [wO ((k : Int) + 1)] (o1 (by omega)) fun G => b0 ?_))))))); exact J5 G (k + 1) (by omega) (by omega) [0, 1] (ht := by have e1 : ((↑(cnP d e.kids (k + 1)) : Int) : Int) = ((↑(cnP d e.kids k) : Int) + (↑(Z5 d (e.kids.getD k bW7)) : Int)) := (by rw [aR8 (by omega)]; omega); (first | rw [e1] | simp only [e1]) <;> rfl)
theorem aP3 (nv na : Nat) : ∀ (d : Nat), d ≤ 5 → ∀ (e : c8), m6 nv na d e = true → ∀ n : Int, n = d → j8.ok Tryz.prog (cnC d e n)
 | 0, _, e, h, _, _ => by simp [m6] at h
 | d + 1, hd, e, h, n, hn => a82 nv na d (by omega) (aP3 nv na d (by omega)) e h n hn
theorem aZ9 (nv na : Nat) (ky vy : Int) (ks : List c8) (n : Int) (hn : n = 5) (h : m6 nv na 5 ⟨ky, vy, ks⟩ = true) : j8.ok Tryz.prog (V1 117 [.agg [iA ky, iA vy, .ref 0], iA n] [dE ks] (iA (Z5 5 ⟨ky, vy, ks⟩ : Nat))) := aP3 nv na 5 (by omega) ⟨ky, vy, ks⟩ h n hn
theorem bR7 {nv na : Nat} {e : c8} (h : m6 nv na 5 ⟨e.kind, e.value, e.kids⟩ = false) : o6 nv na e = false := by
 rw [c8.eta] at h
 unfold o6; rw [h]; rfl
theorem bR6 {nv na : Nat} {e : c8} (h : m6 nv na 5 ⟨e.kind, e.value, e.kids⟩ = true) : o6 nv na e = decide ((Z5 5 ⟨e.kind, e.value, e.kids⟩ : Int) ≤ 15) := by
 rw [c8.eta] at h ⊢
 rw [aV7, h, Bool.true_and, bZ7]
 simp only [decide_eq_true_eq]; omega
section
variable {s : c6}
theorem bS5 (h : s.kind = 4) (h2 : ¬ (s.els.length : Int) = 0) : n6 s = false := by
 unfold n6; rw [if_pos (.inr h), if_pos h, decide_eq_false (p := s.els.length = 0) (by omega)]; simp
theorem bS8 (h : s.kind = 4) (h1 : s.target = 0) (h2 : (s.els.length : Int) = 0) (h3 : s.count ≥ 1) (h4 : s.count ≤ 3) (h5 : noneB s.index = true) : n6 s = noneB s.value := by
 unfold n6; rw [if_pos (.inr h), if_pos h, decide_eq_true (p := s.els.length = 0) (by omega), decide_eq_true h1, decide_eq_true (p := 1 ≤ s.count) h3, decide_eq_true h4, h5]; simp
theorem bS7 (h3 : ¬ s.kind = 3) (h4 : ¬ s.kind = 4) (b : ¬ (s.body.length : Int) > 0) (e : ¬ (s.els.length : Int) > 0) (c : s.count = 0) (h2 : ¬ s.kind = 2) : n6 s = noneB s.index := by
 unfold n6; rw [if_neg (by omega), decide_eq_true (p := s.body.length = 0) (by omega), decide_eq_true (p := s.els.length = 0) (by omega), decide_eq_true c, decide_eq_false h2]; simp
theorem bS6 (b : ¬ (s.body.length : Int) > 0) (e : ¬ (s.els.length : Int) > 0) (c : s.count = 0) (h2 : s.kind = 2) : n6 s = true := by
 unfold n6; rw [if_neg (by omega), decide_eq_true (p := s.body.length = 0) (by omega), decide_eq_true (p := s.els.length = 0) (by omega), decide_eq_true c, decide_eq_true h2]; simp
theorem bS4 (h3 : ¬ s.kind = 3) (h4 : ¬ s.kind = 4) (e : (s.els.length : Int) > 0) : n6 s = false := by
 unfold n6; rw [if_neg (by omega), decide_eq_false (p := s.els.length = 0) (by omega)]; simp
theorem bS3 (h3 : ¬ s.kind = 3) (h4 : ¬ s.kind = 4) (e : (s.body.length : Int) > 0) : n6 s = false := by
 unfold n6; rw [if_neg (by omega), decide_eq_false (p := s.body.length = 0) (by omega)]; simp
end
theorem G3 (p : j7) (e : c8) : j8.ok Tryz.prog (V1 112 [pA 0, eA e 3] (pS p ++ eS e) (bA (o6 p.vars.length p.arrays.length e))) := by
 have hcn := fun h => aZ9 p.vars.length p.arrays.length e.kind e.value e.kids 5 rfl h
 refine I1 13 Tryz.func112 [dI p.vars, dI p.arrays, dT p.body, dE e.kids] [(0, pA 0), (1, eA e 3)] fun G => ?_; refine wp_seq (i9 G d9 [0, 1, 2, 3, 4, 12] [dI p.vars, dI p.arrays, dT p.body, dE e.kids, .box (pL 0), .box (eL e 3)] [(2, .ptr 4 0), (3, .ptr 5 0), (4, bA false)] fun G => b0 (wp_seq ?_)); cases h0 : (m6 p.vars.length p.arrays.length (5 : Nat) (qzE e))
 ·refine i9 G (Q8 (E2 2 (rg 4) (ax5 p.vars p.arrays p.body e.kind e.value e.kids 5 (by kernel_rfl)) Q7) (fc h0 fz) [(4, 0), (5, 0), (6, 0), (1007, 0)]) (rg 4) [dI p.vars, dI p.arrays, dT p.body, dE e.kids] [(4, bA false)] fun G => b0 (wp_ret ?_); exact J6 false G (rg 4) (bR7 (by with_reducible assumption))
 ·refine i9 G (Q8 (E2 2 (rg 4) (ax5 p.vars p.arrays p.body e.kind e.value e.kids 5 (by kernel_rfl)) (E2 5 [3] (hcn (by assumption)) Q7)) (fc h0 fz) [(4, 0), (5, 0), (6, 0), (1007, 0)]) (rg 4) [dI p.vars, dI p.arrays, dT p.body, dE e.kids] [(4, bA (decide ((↑(Z5 5 (qzE e)) : Int) ≤ 15)))] fun G => b0 (wp_ret ?_); exact J6 (decide ((↑(Z5 5 (qzE e)) : Int) ≤ 15)) G (rg 4) (bR6 (by with_reducible assumption))
abbrev ar7 (s : c6) (r0 : List It) : List It := dE s.index.kids :: dE s.value.kids :: dT s.body :: dT s.els :: r0
theorem bb4 (s : c6) : j8.ok Tryz.prog (V1 113 [sA s 0] (sS s) (bA (n6 s))) := by
  refine I1 74 Tryz.func113 (ar7 s []) [(0, sA s 0)] fun G => ?_; refine wp_seq (i9 G d9 (rg 5) (ar7 s [.box (sL s 0)]) [(1, .ptr 4 0), (2, bA false)] fun G => b0 (wp_seq ?_)); cases h0 : (s.kind == 3)
  ·
   have q0 := ne_of_beq_false h0; refine F5 G (H4 (fc h0 fz) [(4, 0), (5, 0), (6, 0), (1007, 0)]) [(1, .ptr 4 0), (2, bA false), (3, bA (s.kind == 4))] fun G => b0 (wp_seq (wp_seq ?_)); cases h1 : (!s.kind == 4)
   ·
    have q1 : s.kind = 4 := (fun hq => eq_of_beq hq) (Eq.mp (Bool.not_eq_false' _) h1); cases h2 : (s.kind == 4)
    · have q2 := ne_of_beq_false h2; exact False.elim (by omega)
    ·
     have q2 := eq_of_beq h2; refine l0 G (H4 (fc h1 (fc (b := false) rfl (fc h2 fz))) (us [(3, 7, 0), (12, 12, 0), (1013, 1013, 0), (15, 16, 1), (17, 19, 2), (20, 20, 1), (1020, 1020, 2), (1021, 1021, 1)])) [(33, bA (s.target != 0))] fun G => b0 (rcN G (fun h3 q3 => ?_) fun h3 q3 => ?_)
     ·
      refine wp_skip (b0 (wp_seq (wp_seq (l0 G d9 [(36, bA (s.kind == 4))] fun G => b0 (rT G _ h2 (wp_seq ?_)))))); cases h4 : ((s.els.length : Int) == 0)
      · have q4 := ne_of_beq_false h4; refine l0 G (H4 (fc h4 (fc (b := false) rfl fz)) (us [(5, 7, 0), (1008, 1008, 0), (10, 12, 1), (1013, 1013, 1), (15, 17, 1), (1018, 1018, 1), (20, 22, 1), (1023, 1023, 1)])) [] fun G => b0 (wp_ret (n7 ?_)); exact J6 false G (rg 4) (bS5 (by omega) (by omega))
      ·
       have q4 := eq_of_beq h4; cases h5 : (decide (s.count ≥ 1))
       · have q5 := W0 h5; refine l0 G (H4 (fc h4 (fc h5 (fc (b := false) rfl fz))) (us [(5, 7, 0), (1008, 1008, 0), (10, 12, 1), (1013, 1013, 1), (15, 17, 2), (1018, 1018, 2), (20, 22, 2), (1023, 1023, 2)])) [] fun G => b0 (wp_ret (n7 ?_)); exact J6 false G (rg 4) (by rw [bZ7]; simp [n6, h0, q0, h1, q1, h2, q2, h3, q3, h4, q4, h5, q5]; done)
       ·
        have q5 := V9 h5; cases h6 : (decide (s.count ≤ 3))
        · have q6 := W0 h6; refine l0 G (H4 (fc h4 (fc h5 (fc h6 (fc (b := false) rfl fz)))) (us [(5, 7, 0), (1008, 1008, 0), (10, 12, 1), (1013, 1013, 1), (15, 17, 2), (1018, 1018, 2), (20, 22, 3), (1023, 1023, 3)])) [] fun G => b0 (wp_ret (n7 ?_)); exact J6 false G (rg 4) (by rw [bZ7]; simp [n6, h0, q0, h1, q1, h2, q2, h3, q3, h4, q4, h5, q5, h6, q6]; done)
        ·
         have q6 := V9 h6; cases h7 : (noneB s.index)
         · refine l0 G (Q8 (E2 17 [0] (ab7 s.index) Q7) (fc h4 (fc h5 (fc h6 (fc h7 fz)))) (us [(5, 7, 0), (1008, 1008, 0), (10, 12, 1), (1013, 1013, 1), (15, 17, 2), (1018, 1018, 2), (20, 22, 3), (1023, 1023, 3)])) [] fun G => b0 (wp_ret (n7 ?_)); exact J6 false G (rg 4) (by rw [bZ7]; simp [n6, h0, q0, h1, q1, h2, q2, h3, q3, h4, q4, h5, q5, h6, q6, h7]; done)
         · refine l0 G (Q8 (E2 17 [0] (ab7 s.index) (E2 22 [1] (ab7 s.value) Q7)) (fc h4 (fc h5 (fc h6 (fc h7 fz)))) (us [(5, 7, 0), (1008, 1008, 0), (10, 12, 1), (1013, 1013, 1), (15, 17, 2), (1018, 1018, 2), (20, 22, 3), (1023, 1023, 3)])) [(2, bA (noneB s.value))] fun G => b0 (wp_ret (n7 ?_)); exact J6 (noneB s.value) G (rg 4) (bS8 (by omega) (by omega) (by omega) (by omega) (by omega) (by with_reducible assumption))
     · refine wp_seq (l0 G d9 [] fun G => b0 (wp_ret (n7 ?_))); exact J6 false G (rg 4) (by rw [bZ7]; simp [n6, h0, q0, h1, q1, h2, q2, h3, q3]; done)
   ·
    have q1 : ¬ (s.kind = 4) := (fun hq => ne_of_beq_false hq) (Eq.mp (b03 _) h1); cases h8 : (decide ((s.body.length : Int) > 0))
    ·
     have q8 := W0 h8; cases h9 : (decide ((s.els.length : Int) > 0))
     ·
      have q9 := W0 h9; cases h10 : (s.kind == 4)
      ·
       have q10 := ne_of_beq_false h10; refine l0 G (H4 (fc h1 (fc h8 (fc h9 (fc h10 fz)))) (us [(3, 7, 0), (8, 11, 1), (12, 12, 0), (1012, 1012, 1), (1013, 1013, 0), (15, 16, 2), (17, 19, 3), (20, 20, 2), (1020, 1020, 3), (1021, 1021, 2)])) [(33, bA false)] fun G => b0 (rF G false (by kernel_rfl) (wp_skip (b0 (wp_seq (wp_seq (l0 G d9 [(36, bA (s.kind == 4))] fun G => b0 (rF G _ h10 (wp_skip (b0 (wp_seq ?_)))))))))); cases h11 : (s.count == 0)
       · have q11 := ne_of_beq_false h11; refine i9 G (H4 (fc h11 fz) (us [(4, 7, 0), (11, 11, 0), (1012, 1012, 0)])) (rg 4) (ar7 s []) [(2, bA false)] fun G => b0 (wp_ret ?_); exact J6 false G (rg 4) (by rw [bZ7]; simp [n6, h0, q0, h1, q1, h8, q8, h9, q9, h10, q10, h11, q11]; done)
       ·
        have q11 := eq_of_beq h11; cases h12 : (s.kind == 2)
        · have q12 := ne_of_beq_false h12; refine i9 G (Q8 (E2 10 [0] (ab7 s.index) Q7) (fc h11 (fc h12 fz)) (us [(4, 7, 0), (8, 10, 1), (11, 11, 0), (1011, 1011, 1), (1012, 1012, 0)])) (rg 4) (ar7 s []) [(2, bA (noneB s.index))] fun G => b0 (wp_ret ?_); exact J6 (noneB s.index) G (rg 4) (bS7 (by omega) (by omega) (by omega) (by omega) (by omega) (by omega))
        · have q12 := eq_of_beq h12; refine i9 G (H4 (fc h11 (fc h12 fz)) (us [(4, 7, 0), (8, 10, 1), (11, 11, 0), (1011, 1011, 1), (1012, 1012, 0)])) (rg 4) (ar7 s []) [(2, bA true)] fun G => b0 (wp_ret ?_); exact J6 true G (rg 4) (bS6 (by omega) (by omega) (by omega) (by omega))
      · have q10 := eq_of_beq h10; exact False.elim (by omega)
     · have q9 := V9 h9; refine l0 G (H4 (fc h1 (fc h8 (fc h9 fz))) (us [(3, 7, 0), (8, 11, 1), (12, 12, 0), (1012, 1012, 1), (1013, 1013, 0), (15, 16, 2), (20, 20, 2), (1021, 1021, 2)])) [(33, bA true)] fun G => b0 (rT G true (by kernel_rfl) (wp_seq (l0 G d9 [] fun G => b0 (wp_ret (n7 ?_))))); exact J6 false G (rg 4) (bS4 (by omega) (by omega) (by omega))
    · have q8 := V9 h8; refine l0 G (H4 (fc h1 (fc h8 (fc (b := true) rfl fz))) (us [(3, 7, 0), (8, 11, 1), (12, 12, 0), (1012, 1012, 1), (1013, 1013, 0), (15, 16, 2), (20, 20, 2), (1021, 1021, 2)])) [(33, bA true)] fun G => b0 (rT G true (by kernel_rfl) (wp_seq (l0 G d9 [] fun G => b0 (wp_ret (n7 ?_))))); exact J6 false G (rg 4) (bS3 (by omega) (by omega) (by omega))
  ·
   have q0 := eq_of_beq h0; refine l0 G (H4 (fc h0 fz) [(4, 0), (5, 0), (6, 0), (1007, 0)]) [(3, bA true)] fun G => b0 (wp_seq (wp_seq (l0 G (H4 (fc (b := false) rfl (fc (b := true) rfl fz)) (us [(3, 7, 0), (12, 12, 0), (1013, 1013, 0), (15, 16, 0), (17, 19, 1), (20, 20, 0), (1020, 1020, 1), (1021, 1021, 0)])) [(33, bA (s.target != 0))] fun G => b0 (rcN G (fun h13 q13 => ?_) fun h13 q13 => ?_))))
   ·
    refine wp_skip (b0 (wp_seq (wp_seq (F5 G d9 [(1, .ptr 4 0), (2, bA false), (36, bA (s.kind == 4))] fun G => b0 ?_)))); cases h14 : (s.kind == 4)
    ·
     have q14 := ne_of_beq_false h14; refine rF G _ h14 (wp_skip (b0 (wp_seq ?_))); cases h15 : (s.count == 0)
     · have q15 := ne_of_beq_false h15; refine i9 G (H4 (fc h15 fz) (us [(4, 7, 0), (11, 11, 0), (1012, 1012, 0)])) (rg 4) (ar7 s []) [(2, bA false)] fun G => b0 (wp_ret ?_); exact J6 false G (rg 4) (by rw [bZ7]; simp [n6, h0, q0, h13, q13, h14, q14, h15, q15]; done)
     ·
      have q15 := eq_of_beq h15; cases h16 : (s.kind == 2)
      · have q16 := ne_of_beq_false h16; refine i9 G (Q8 (E2 10 [0] (ab7 s.index) Q7) (fc h15 (fc h16 fz)) (us [(4, 7, 0), (8, 10, 1), (11, 11, 0), (1011, 1011, 1), (1012, 1012, 0)])) (rg 4) (ar7 s []) [(2, bA (noneB s.index))] fun G => b0 (wp_ret ?_); exact J6 (noneB s.index) G (rg 4) (by rw [bZ7]; simp [n6, h0, q0, h13, q13, h14, q14, h15, q15, h16, q16]; done)
      · have q16 := eq_of_beq h16; exact False.elim (by omega)
    · have q14 := eq_of_beq h14; exact False.elim (by omega)
   · refine wp_seq (l0 G d9 [] fun G => b0 (wp_ret (n7 ?_))); exact J6 false G (rg 4) (by rw [bZ7]; simp [n6, h0, q0, h13, q13]; done)
abbrev vbC (p : j7) (d : Nat) (ss : List c6) (n : Int) : j8 := V1 93 [pA 0, .ref 3, iA n] (pS p ++ [dT ss]) (bA (ss.all (l9 p.vars.length p.arrays.length d)))
abbrev vsC (p : j7) (d : Nat) (s : c6) (n : Int) : j8 := V1 105 [pA 0, sA s 3, iA n] (pS p ++ sS s) (bA (l9 p.vars.length p.arrays.length d s))
theorem a81 (p : j7) (s : c6) (n : Int) (hn : n = 0) : j8.ok Tryz.prog (vsC p 0 s n) := by
 refine I1 96 Tryz.func105 [dI p.vars, dI p.arrays, dT p.body, dE s.index.kids, dE s.value.kids, dT s.body, dT s.els] [(0, pA 0), (1, sA s 3), (2, iA n)] fun G => ?_; refine wp_seq (i9 G d9 [0, 1, 2, 3, 4, 5, 6, 7, 15] [dI p.vars, dI p.arrays, dT p.body, dE s.index.kids, dE s.value.kids, dT s.body, dT s.els, .box (pL 0), .box (sL s 3)] [(2, iA n), (3, .ptr 7 0), (4, .ptr 8 0), (6, bA false)] fun G => b0 (wp_seq (wp_seq ?_))); cases h0 : (decide (n < 1))
 ·have q0 := W0 h0; exact False.elim (by omega)
 ·have q0 := V9 h0; refine l0 G (H4 (fc h0 fz) [(3, 0), (4, 0), (5, 0), (1006, 0)]) [(13, bA true)] fun G => b0 (rT G true (by kernel_rfl) (wp_seq (l0 G d9 [] fun G => b0 (wp_ret (n7 ?_))))); exact I9 G (rg 7)
section
variable {nv na d : Nat} {s : c6}
theorem bR2 (h : n6 s = false) : l9 nv na (d + 1) s = false := by rw [l9, h]; rfl
theorem bB4 (hp : n6 s = true) (h : s.kind = 1 ∨ s.kind = 5) : l9 nv na (d + 1) s = (decide (0 ≤ s.target) && decide (s.target < nv) && o6 nv na s.value) := by rw [l9, hp, if_pos h]; rfl
theorem bf1 (hp : n6 s = true) (h : s.kind = 2) : l9 nv na (d + 1) s = (decide (0 ≤ s.target) && decide (s.target < na) && o6 nv na s.index && R0 s.index && o6 nv na s.value) := by rw [l9, hp, if_neg (by omega), if_pos h]; rfl
theorem bB3 (hp : n6 s = true) (h : s.kind = 3) : l9 nv na (d + 1) s = (o6 nv na s.value && s.body.all (l9 nv na d) && s.els.all (l9 nv na d)) := by rw [l9, hp, if_neg (by omega), if_neg (by omega), if_pos h]; rfl
theorem bR3 (hp : n6 s = true) (h : s.kind = 4) : l9 nv na (d + 1) s = s.body.all (l9 nv na d) := by rw [l9, hp, if_neg (by omega), if_neg (by omega), if_neg (by omega), if_pos h]; rfl
theorem by6 (hp : n6 s = true) (h : s.kind = 1 ∨ s.kind = 5) (q : ¬ s.target ≥ 0) : l9 nv na (d + 1) s = false := by rw [bB4 hp h, decide_eq_false (p := 0 ≤ s.target) q]; rfl
theorem by5 (hp : n6 s = true) (h : s.kind = 1 ∨ s.kind = 5) (q : ¬ s.target < (nv : Int)) : l9 nv na (d + 1) s = false := by rw [bB4 hp h, decide_eq_false q, Bool.and_false]; rfl
theorem by4 (hp : n6 s = true) (h : s.kind = 1 ∨ s.kind = 5) (q : s.target ≥ 0) (r : s.target < (nv : Int)) : l9 nv na (d + 1) s = o6 nv na s.value := by rw [bB4 hp h, decide_eq_true (p := 0 ≤ s.target) q, decide_eq_true r]; rfl
theorem bI9 (hp : n6 s = true) (h : s.kind = 2) (q : ¬ s.target ≥ 0) : l9 nv na (d + 1) s = false := by rw [bf1 hp h, decide_eq_false (p := 0 ≤ s.target) q]; rfl
theorem bI8 (hp : n6 s = true) (h : s.kind = 2) (q : ¬ s.target < (na : Int)) : l9 nv na (d + 1) s = false := by rw [bf1 hp h, decide_eq_false q, Bool.and_false]; rfl
theorem bI7 (hp : n6 s = true) (h : s.kind = 2) (q : o6 nv na s.index = false) : l9 nv na (d + 1) s = false := by rw [bf1 hp h, q, Bool.and_false]; rfl
theorem bI6 (hp : n6 s = true) (h : s.kind = 2) (q : R0 s.index = false) : l9 nv na (d + 1) s = false := by rw [bf1 hp h, q, Bool.and_false]; rfl
theorem bI5 (hp : n6 s = true) (h : s.kind = 2) (q : s.target ≥ 0) (r : s.target < (na : Int)) (u : o6 nv na s.index = true) (v : R0 s.index = true) : l9 nv na (d + 1) s = o6 nv na s.value := by rw [bf1 hp h, decide_eq_true (p := 0 ≤ s.target) q, decide_eq_true r, u, v]; rfl
theorem bI4 (hp : n6 s = true) (h : s.kind = 3) (q : o6 nv na s.value = false) : l9 nv na (d + 1) s = false := by rw [bB3 hp h, q]; rfl
theorem bI3 (hp : n6 s = true) (h : s.kind = 3) (q : s.body.all (l9 nv na d) = false) : l9 nv na (d + 1) s = false := by rw [bB3 hp h, q, Bool.and_false]; rfl
theorem bI2 (hp : n6 s = true) (h : s.kind = 3) (q : o6 nv na s.value = true) (r : s.body.all (l9 nv na d) = true) : l9 nv na (d + 1) s = s.els.all (l9 nv na d) := by rw [bB3 hp h, q, r]; rfl
theorem bR4 (h1 : ¬ s.kind = 1) (h2 : ¬ s.kind = 2) (h3 : ¬ s.kind = 3) (h4 : ¬ s.kind = 4) (h5 : ¬ s.kind = 5) : l9 nv na (d + 1) s = false := by rw [l9, if_neg (by omega), if_neg h2, if_neg h3, if_neg h4]; simp
end
abbrev M7 (p : j7) (s : c6) (r0 : List It) : List It := dI p.vars :: dI p.arrays :: dT p.body :: dE s.index.kids :: dE s.value.kids :: dT s.body :: dT s.els :: r0
theorem bg2 (p : j7) (d : Nat) (hB : ∀ (ss : List c6) (n : Int), n = d → j8.ok Tryz.prog (vbC p d ss n)) (s : c6) (n : Int) (hn : n = (d + 1 : Nat)) (hd : d ≤ 5) : j8.ok Tryz.prog (vsC p (d + 1) s n) := by
  refine I1 96 Tryz.func105 (M7 p s []) [(0, pA 0), (1, sA s 3), (2, iA n)] fun G => ?_; refine wp_seq (i9 G d9 [0, 1, 2, 3, 4, 5, 6, 7, 15] (M7 p s [.box (pL 0), .box (sL s 3)]) [(2, iA n), (3, .ptr 7 0), (4, .ptr 8 0), (6, bA false)] fun G => b0 (wp_seq (wp_seq ?_))); cases h0 : (decide (n < 1))
  ·
   have q0 := W0 h0; refine l0 G (Q8 (E2 4 [3, 4, 5, 6] (bb4 s) Q7) (fc h0 fz) [(3, 0), (4, 0), (5, 0), (1006, 0)]) [(13, .v (.bool !n6 s))] fun G => b0 ?_; cases h1 : (!n6 s)
   ·
    have q1 : (n6 s) = true := (Eq.mp (Bool.not_eq_false' _) h1); refine rF G _ h1 (wp_skip (b0 (wp_seq (wp_seq (l0 G d9 [(15, iA s.kind)] fun G => b0 (wp_block (wp_seq (wp_seq (l0 G d9 [(16, bA (s.kind == 1))] fun G => b0 (M4 G (fun h2 q2 => ?_) fun h2 q2 => ?_))))))))))
    ·
     refine l0 G d9 [(16, bA (s.kind == 5))] fun G => b0 (M4 G (fun h3 q3 => ?_) fun h3 q3 => ?_)
     ·
      refine wp_seq (l0 G d9 [(36, bA (s.kind == 2))] fun G => b0 (M4 G (fun h4 q4 => ?_) fun h4 q4 => ?_))
      ·
       refine wp_seq (l0 G d9 [(66, bA (s.kind == 3))] fun G => b0 (M4 G (fun h5 q5 => ?_) fun h5 q5 => ?_))
       ·
        refine wp_seq (l0 G d9 [(88, bA (s.kind == 4))] fun G => b0 (M4 G (fun h6 q6 => ?_) fun h6 q6 => ?_))
        · refine wp_skip (i8 (b0 (wp_seq (i9 G d9 (rg 7) (M7 p s []) [(6, bA false)] fun G => b0 (wp_ret ?_))))); exact J6 false G (rg 7) (bR4 (by omega) (by omega) (by omega) (by omega) (by omega))
        · refine wp_seq (J0 G (t0 5 [0, 1, 2, 5] (hB s.body (n - 1) (by omega))) (rg 7) (M7 p s []) [(6, bA (s.body.all (l9 p.vars.length p.arrays.length d)))] [wO (n - 1)] (o1 (by omega)) fun G => b0 (wp_ret (C2 (n7 ?_)))); exact J6 (s.body.all (l9 p.vars.length p.arrays.length d)) G (rg 7) (bR3 (by with_reducible assumption) (by omega))
       ·
        refine wp_seq ?_; cases h7 : (o6 p.vars.length p.arrays.length s.value)
        · refine i9 G (Q8 (E2 3 [0, 1, 2, 4] (G3 p s.value) Q7) (fc h7 (fc (b := false) rfl fz)) (us [(5, 10, 0), (1011, 1011, 0), (13, 18, 1), (1019, 1019, 1)])) (rg 7) (M7 p s []) [(6, bA false)] fun G => b0 (wp_ret (C2 (n7 ?_))); exact J6 false G (rg 7) (bI4 (by with_reducible assumption) (by omega) (by with_reducible assumption))
        ·
         cases h8 : (s.body.all (l9 p.vars.length p.arrays.length d))
         · refine J0 G (Q8 (E2 3 [0, 1, 2, 4] (G3 p s.value) (E2 10 [0, 1, 2, 5] (hB s.body (n - 1) (by omega)) Q7)) (fc h7 (fc h8 fz)) (us [(5, 10, 0), (1011, 1011, 0), (13, 18, 1), (1019, 1019, 1)])) (rg 7) (M7 p s []) [(6, bA false)] [wO (n - 1)] (o1 (by omega)) fun G => b0 (wp_ret (C2 (n7 ?_))); exact J6 false G (rg 7) (bI3 (by with_reducible assumption) (by omega) (by with_reducible assumption))
         · refine J0 G (Q8 (E2 3 [0, 1, 2, 4] (G3 p s.value) (E2 10 [0, 1, 2, 5] (hB s.body (n - 1) (by omega)) (E2 18 [0, 1, 2, 6] (hB s.els (n - 1) (by omega)) Q7))) (fc h7 (fc h8 fz)) (us [(5, 10, 0), (1011, 1011, 0), (13, 18, 1), (1019, 1019, 1)])) (rg 7) (M7 p s []) [(6, bA (s.els.all (l9 p.vars.length p.arrays.length d)))] [wO (n - 1), wO (n - 1)] (o2 (by omega)) fun G => b0 (wp_ret (C2 (n7 ?_))); exact J6 (s.els.all (l9 p.vars.length p.arrays.length d)) G (rg 7) (bI2 (by with_reducible assumption) (by omega) (by with_reducible assumption) (by with_reducible assumption))
      ·
       refine wp_seq ?_; cases h9 : (decide (s.target ≥ 0))
       · have q9 := W0 h9; refine i9 G (H4 (fc h9 (fc (b := false) rfl fz)) (us [(4, 9, 0), (1010, 1010, 0), (12, 15, 1), (1016, 1016, 1), (18, 20, 1), (1021, 1021, 1), (23, 26, 1), (1027, 1027, 1)])) (rg 7) (M7 p s []) [(6, bA false)] fun G => b0 (wp_ret (C2 (n7 ?_))); exact J6 false G (rg 7) (bI9 (by with_reducible assumption) (by omega) (by omega))
       ·
        have q9 := V9 h9; cases h10 : (decide (s.target < (p.arrays.length : Int)))
        · have q10 := W0 h10; refine i9 G (H4 (fc h9 (fc h10 (fc (b := false) rfl fz))) (us [(4, 9, 0), (1010, 1010, 0), (12, 15, 1), (1016, 1016, 1), (18, 20, 2), (1021, 1021, 2), (23, 26, 2), (1027, 1027, 2)])) (rg 7) (M7 p s []) [(6, bA false)] fun G => b0 (wp_ret (C2 (n7 ?_))); exact J6 false G (rg 7) (bI8 (by with_reducible assumption) (by omega) (by omega))
        ·
         have q10 := V9 h10; cases h11 : (o6 p.vars.length p.arrays.length s.index)
         · refine i9 G (Q8 (E2 15 (rg 4) (G3 p s.index) Q7) (fc h9 (fc h10 (fc h11 (fc (b := false) rfl fz)))) (us [(4, 9, 0), (1010, 1010, 0), (12, 15, 1), (1016, 1016, 1), (18, 20, 2), (1021, 1021, 2), (23, 26, 3), (1027, 1027, 3)])) (rg 7) (M7 p s []) [(6, bA false)] fun G => b0 (wp_ret (C2 (n7 ?_))); exact J6 false G (rg 7) (bI7 (by with_reducible assumption) (by omega) (by with_reducible assumption))
         ·
          cases h12 : (R0 s.index)
          · refine i9 G (Q8 (E2 15 (rg 4) (G3 p s.index) (E2 20 [3] (ax6 s.index) Q7)) (fc h9 (fc h10 (fc h11 (fc h12 fz)))) (us [(4, 9, 0), (1010, 1010, 0), (12, 15, 1), (1016, 1016, 1), (18, 20, 2), (1021, 1021, 2), (23, 26, 3), (1027, 1027, 3)])) (rg 7) (M7 p s []) [(6, bA false)] fun G => b0 (wp_ret (C2 (n7 ?_))); exact J6 false G (rg 7) (bI6 (by with_reducible assumption) (by omega) (by with_reducible assumption))
          · refine i9 G (Q8 (E2 15 (rg 4) (G3 p s.index) (E2 20 [3] (ax6 s.index) (E2 26 [0, 1, 2, 4] (G3 p s.value) Q7))) (fc h9 (fc h10 (fc h11 (fc h12 fz)))) (us [(4, 9, 0), (1010, 1010, 0), (12, 15, 1), (1016, 1016, 1), (18, 20, 2), (1021, 1021, 2), (23, 26, 3), (1027, 1027, 3)])) (rg 7) (M7 p s []) [(6, bA (o6 p.vars.length p.arrays.length s.value))] fun G => b0 (wp_ret (C2 (n7 ?_))); exact J6 (o6 p.vars.length p.arrays.length s.value) G (rg 7) (bI5 (by with_reducible assumption) (by omega) (by omega) (by omega) (by with_reducible assumption) (by with_reducible assumption))
     ·
      refine wp_seq ?_; cases h13 : (decide (s.target ≥ 0))
      · have q13 := W0 h13; refine i9 G (H4 (fc h13 (fc (b := false) rfl fz)) (us [(4, 9, 0), (1010, 1010, 0), (12, 15, 1), (1016, 1016, 1)])) (rg 7) (M7 p s []) [(6, bA false)] fun G => b0 (wp_ret (C2 (n7 ?_))); exact J6 false G (rg 7) (by6 (by with_reducible assumption) (by omega) (by omega))
      ·
       have q13 := V9 h13; cases h14 : (decide (s.target < (p.vars.length : Int)))
       · have q14 := W0 h14; refine i9 G (H4 (fc h13 (fc h14 fz)) (us [(4, 9, 0), (1010, 1010, 0), (12, 15, 1), (1016, 1016, 1)])) (rg 7) (M7 p s []) [(6, bA false)] fun G => b0 (wp_ret (C2 (n7 ?_))); exact J6 false G (rg 7) (by5 (by with_reducible assumption) (by omega) (by omega))
       · have q14 := V9 h14; refine i9 G (Q8 (E2 15 [0, 1, 2, 4] (G3 p s.value) Q7) (fc h13 (fc h14 fz)) (us [(4, 9, 0), (1010, 1010, 0), (12, 15, 1), (1016, 1016, 1)])) (rg 7) (M7 p s []) [(6, bA (o6 p.vars.length p.arrays.length s.value))] fun G => b0 (wp_ret (C2 (n7 ?_))); exact J6 (o6 p.vars.length p.arrays.length s.value) G (rg 7) (by4 (by with_reducible assumption) (by omega) (by omega) (by omega))
    ·
     refine wp_skip (b0 (rT G _ h2 (wp_seq ?_))); cases h15 : (decide (s.target ≥ 0))
     · have q15 := W0 h15; refine i9 G (H4 (fc h15 (fc (b := false) rfl fz)) (us [(4, 9, 0), (1010, 1010, 0), (12, 15, 1), (1016, 1016, 1)])) (rg 7) (M7 p s []) [(6, bA false)] fun G => b0 (wp_ret (C2 (n7 ?_))); exact J6 false G (rg 7) (by6 (by with_reducible assumption) (by omega) (by omega))
     ·
      have q15 := V9 h15; cases h16 : (decide (s.target < (p.vars.length : Int)))
      · have q16 := W0 h16; refine i9 G (H4 (fc h15 (fc h16 fz)) (us [(4, 9, 0), (1010, 1010, 0), (12, 15, 1), (1016, 1016, 1)])) (rg 7) (M7 p s []) [(6, bA false)] fun G => b0 (wp_ret (C2 (n7 ?_))); exact J6 false G (rg 7) (by5 (by with_reducible assumption) (by omega) (by omega))
      · have q16 := V9 h16; refine i9 G (Q8 (E2 15 [0, 1, 2, 4] (G3 p s.value) Q7) (fc h15 (fc h16 fz)) (us [(4, 9, 0), (1010, 1010, 0), (12, 15, 1), (1016, 1016, 1)])) (rg 7) (M7 p s []) [(6, bA (o6 p.vars.length p.arrays.length s.value))] fun G => b0 (wp_ret (C2 (n7 ?_))); exact J6 (o6 p.vars.length p.arrays.length s.value) G (rg 7) (by4 (by with_reducible assumption) (by omega) (by omega) (by omega))
   · have q1 : (n6 s) = false := (Eq.mp (b03 _) h1); refine rT G _ h1 (wp_seq (l0 G d9 [] fun G => b0 (wp_ret (n7 ?_)))); exact J6 false G (rg 7) (bR2 (by with_reducible assumption))
  · have q0 := V9 h0; exact False.elim (by omega)
theorem bP3 {nv na d : Nat} {ss : List c6} {k : Nat} (hk : k < ss.length) (h : l9 nv na d (ss.getD k bW7) = false) : ss.all (l9 nv na d) = false := by
 rw [n9 hk] at h
 exact ai4 hk h
theorem aC5 (p : j7) (d : Nat) (hd : d ≤ 5) (hS : ∀ (s : c6) (n : Int), n = d → j8.ok Tryz.prog (vsC p d s n)) (ss : List c6) (n : Int) (hn : n = d) : j8.ok Tryz.prog (vbC p d ss n) := by
  refine I1 22 Tryz.func93 [dI p.vars, dI p.arrays, dT p.body, dT ss] [(0, pA 0), (1, .ref 3), (2, iA n)] fun G => ?_; refine wp_seq (i9 G d9 (rg 5) [dI p.vars, dI p.arrays, dT p.body, dT ss, .box (pL 0)] [(1, .ref 3), (2, iA n), (3, .ptr 4 0), (6, bA false)] fun G => b0 (wp_seq (wp_seq (F5 G d9 [(1, .ref 3), (2, iA n), (3, .ptr 4 0), (6, bA false), (7, iA 0)] fun G => b0 (wp_block ?_))))); refine v5 (κ := Nat) (fun k => k ≤ ss.length ∧ (ss.take k).all (l9 p.vars.length p.arrays.length d) = true) (fun k => ss.length - k) (fun k => [dI p.vars, dI p.arrays, dT p.body, dT ss, .box (pL 0)]) (fun k => [(1, .ref 3), (2, iA n), (3, .ptr 4 0), (6, bA false), (7, iA k)]) 0 (by simp) (s4.at G _ _) ?_; clear G; intro k ρ a w hp G; have hlen : ss.length ≤ 9223372036854775807 := G.len 3 (d := .stmts ss) (by kernel_rfl); refine wp_seq (wp_seq (F5 G d9 [(1, .ref 3), (2, iA n), (3, .ptr 4 0), (6, bA false), (7, iA k), (11, bA (decide ((k : Int) < ss.length)))] fun G => b0 (rcD G (fun h0 q0 => ?_) fun h0 q0 => ?_)))
  · refine wp_exit (t6 (t6 (t3 (b0 (wp_seq (i9 G d9 (rg 4) [dI p.vars, dI p.arrays, dT p.body, dT ss] [(6, bA true)] fun G => b0 (wp_ret ?_))))))); exact J6 true G (rg 4) (ay2 hp.2 (by omega))
  ·
   refine wp_skip (b0 (wp_seq (wp_block (wp_seq (a85 G (t0 6 [0, 1, 2, 37, 38, 39, 40] (hS (ss.getD k bW7) n (by assumption))) [0, 0, 0, 6, 14, 0, 63, 127] [(21, .v (.bool !l9 p.vars.length p.arrays.length d (ss.getD k bW7)))] (iX k k ss.length []) (iK (by omega) bY1) fun G => b0 ?_))))); cases h1 : (!l9 p.vars.length p.arrays.length d (ss.getD k bW7))
   · have q1 : (l9 p.vars.length p.arrays.length d (ss.getD k bW7)) = true := (Eq.mp (Bool.not_eq_false' _) h1); refine rF G _ h1 (wp_skip (i8 (b0 (B5 G d9 [(7, iA ((k : Int) + 1))] [wO ((k : Int) + 1)] (o1 (by omega)) fun G => b0 ?_)))); exact J5 G (k + 1) (⟨by omega, aT4 hp.2 (by omega) (by assumption)⟩) (by omega) (rg 5)
   · have q1 : (l9 p.vars.length p.arrays.length d (ss.getD k bW7)) = false := (Eq.mp (b03 _) h1); refine rT G _ h1 (wp_seq (l0 G d9 [] fun G => b0 (wp_ret (C2 (n7 (n7 (C2 (n7 ?_)))))))); exact J6 false G (rg 4) (bP3 (k := k) (by omega) (by with_reducible assumption))
theorem a53 (p : j7) : ∀ (d : Nat), d ≤ 5 → ∀ (s : c6) (n : Int), n = d → j8.ok Tryz.prog (vsC p d s n)
 | 0, _, s, n, hn => a81 p s n hn
 | d + 1, hd, s, n, hn => bg2 p d (fun ss n hn => aC5 p d (by omega) (a53 p d (by omega)) ss n hn) s n hn (by omega)
theorem bb6 (p : j7) (ss : List c6) (n : Int) (hn : n = 5) : j8.ok Tryz.prog (V1 93 [pA 0, .ref 3, iA n] (pS p ++ [.dat (.stmts ss)]) (bA (ab9 p.vars.length p.arrays.length 5 ss))) :=
 aC5 p 5 (by omega) (a53 p 5 (by omega)) ss n hn
def B4 : Nat → List c6 → Nat
 | 0, ss => ss.length
 | d + 1, ss => ss.length + (ss.map fun s => B4 d s.body + B4 d s.els).sum
def szP (d : Nat) (ss : List c6) (k : Nat) : Nat := ss.length + ((ss.take k).map fun s => B4 d s.body + B4 d s.els).sum
theorem bp7 (d : Nat) (ss : List c6) {k : Nat} (h : ss.length ≤ k) : szP d ss k = B4 (d + 1) ss := by unfold szP; rw [bY3 h, B4]
theorem at1 {d : Nat} {ss : List c6} {k : Nat} (h : k < ss.length) : szP d ss (k + 1) = szP d ss k + (B4 d (ss.getD k bW7).body + B4 d (ss.getD k bW7).els) := by
 unfold szP
 rw [H6 ss k h, List.map_append, List.sum_append, n9 h]
 simp; omega
theorem bf2 : ∀ (d : Nat) (ss : List c6), B4 d ss ≤ s6 ss := by
 intro d
 induction d with
 | zero => intro ss; exact ah2 ss
 | succ d ih =>
  intro ss
  induction ss with
  | nil => simp [B4]
  | cons s r ihr =>
   have h1 := ih s.body
   have h2 := ih s.els
   have h3 := aB7 s
   simp only [B4, bZ5, List.sum_cons, bX8, s6] at ihr ⊢
   have h4 : s6 s.body + s6 s.els ≤ szS s := by
    rcases s with ⟨_, _, _, _, _, b, e⟩
    simp only [szS, c6.body, c6.els]; omega
   omega
theorem aU3 {d : Nat} {ss : List c6} {k : Nat} : szP d ss k ≤ s6 ss := by
 refine bZ6 ?_ (bf2 (d + 1) ss)
 unfold szP
 rw [B4]
 have : ∀ (l : List Nat) (k : Nat), (l.take k).sum ≤ l.sum := fun l k => by
  have := List.sum_append (l₁ := l.take k) (l₂ := l.drop k)
  rw [List.take_append_drop] at this; omega
 have h := this (ss.map fun s => B4 d s.body + B4 d s.els) k
 rw [← List.map_take] at h
 omega
theorem a69 {ss : List c6} {k B : Nat} (h : s6 ss ≤ B) (hk : k < ss.length) : s6 (ss.getD k bW7).body ≤ B ∧ s6 (ss.getD k bW7).els ≤ B := by
 rw [n9 hk]
 have h1 := bp6 (bZ0 hk)
 have h2 := aB7 ss[k]
 omega
theorem bb3 (ss : List c6) (n : Int) (hn : n = 1) (hb : s6 ss ≤ 1048576) : j8.ok Tryz.prog (V1 94 [.ref 0, iA n] [.dat (.stmts ss)] (iA (B4 0 ss : Nat))) := by
 have h100 : decide (n > 1) = false := by simp; omega
 refine I1 39 Tryz.func94 [dT ss] [(0, .ref 0), (1, iA n)] fun G => ?_; refine wp_seq (l0 G d9 [(4, iA 0)] fun G => b0 (wp_seq (l0 G d9 [(5, iA (ss.length : Int))] fun G => b0 (wp_seq (wp_seq (F5 G d9 [(0, .ref 0), (1, iA n), (4, iA 0), (5, iA (ss.length : Int)), (6, iA 0)] fun G => b0 (wp_block ?_))))))); refine v5 (κ := Nat) (fun k => k = 0) (fun k => 0) (fun k => [dT ss]) (fun k => [(0, .ref 0), (1, iA n), (4, iA 0), (5, iA (ss.length : Nat)), (6, iA k)]) 0 (by kernel_rfl) (s4.at G _ _) ?_; clear G; intro k ρ a w hp G; replace G := s4.at G [dT ss] [(0, .ref 0), (1, iA n), (4, iA 0), (5, iA (ss.length : Int)), (6, iA k)]; refine wp_seq (wp_seq ?_); cases h0 : (decide ((k : Int) < ss.length))
 ·have q0 := W0 h0; refine l0 G (H4 (fc h0 fz) [(5, 0), (6, 0), (1007, 0)]) [(16, bA false)] fun G => b0 (rF G false (by kernel_rfl) (wp_exit (t6 (t6 (t3 (b0 (wp_seq (l0 G d9 [(4, iA (ss.length : Int))] fun G => b0 (wp_ret ?_))))))))); exact I9 G [0]
 ·have q0 := V9 h0; refine l0 G (H4 (fc h0 fz) [(5, 0), (6, 0), (1007, 0)]) [(16, bA (decide (n > 1)))] fun G => b0 (rF G (decide (n > 1)) (by assumption) (wp_exit (t6 (t6 (t3 (b0 (wp_seq (l0 G d9 [(4, iA (ss.length : Int))] fun G => b0 (wp_ret ?_))))))))); exact I9 G [0]
theorem bb1 (d : Nat) (hd : d ≤ 5) (ih : ∀ (ss : List c6) (n : Int), n = (d + 1 : Nat) → s6 ss ≤ 1048576 → j8.ok Tryz.prog (V1 94 [.ref 0, iA n] [.dat (.stmts ss)] (iA (B4 d ss : Nat))))
  (ss : List c6) (n : Int) (hn : n = (d + 2 : Nat)) (hb : s6 ss ≤ 1048576) : j8.ok Tryz.prog (V1 94 [.ref 0, iA n] [.dat (.stmts ss)] (iA (B4 (d + 1) ss : Nat))) := by
 have h100 : decide (n > 1) = true := by simp; omega
 refine I1 39 Tryz.func94 [dT ss] [(0, .ref 0), (1, iA n)] fun G => ?_; refine wp_seq (l0 G d9 [(4, iA 0)] fun G => b0 (wp_seq (l0 G d9 [(5, iA (ss.length : Int))] fun G => b0 (wp_seq (wp_seq (F5 G d9 [(0, .ref 0), (1, iA n), (4, iA 0), (5, iA (ss.length : Int)), (6, iA 0)] fun G => b0 (wp_block ?_))))))); refine v5 (κ := Nat) (fun k => k ≤ ss.length) (fun k => ss.length - k) (fun k => [dT ss]) (fun k => [(0, .ref 0), (1, iA n), (4, iA 0), (5, iA (szP d ss k : Nat)), (6, iA k)]) 0 (by omega) (s4.at G _ _) ?_; clear G; intro k ρ a w hp G; replace G := s4.at G [dT ss] [(0, .ref 0), (1, iA n), (4, iA 0), (5, iA (↑(szP d ss k) : Int)), (6, iA k)]; have hlen := ah2 ss; refine wp_seq (wp_seq ?_); cases h0 : (decide ((k : Int) < ss.length))
 ·have q0 := W0 h0; refine l0 G (H4 (fc h0 fz) [(5, 0), (6, 0), (1007, 0)]) [(16, bA false)] fun G => b0 (rF G false (by kernel_rfl) (wp_exit (t6 (t6 (t3 (b0 (wp_seq (l0 G d9 [(4, iA (↑(szP d ss k) : Int))] fun G => b0 (wp_ret ?_))))))))); exact rxI ((↑(szP d ss k) : Int)) G [0] (by have h1 := bp7 d ss (k := k) (by omega); omega)
 ·have q0 := V9 h0; refine l0 G (H4 (fc h0 fz) [(5, 0), (6, 0), (1007, 0)]) [(16, bA (decide (n > 1)))] fun G => b0 (rT G (decide (n > 1)) (by assumption) (wp_skip (b0 (wp_seq (wp_block (a85 G (Q8 (E2 8 [41] (ih ((ss.getD k bW7).body) (n - 1) (by omega) ((a69 hb (by omega)).1)) (E2 17 [113] (ih ((ss.getD k bW7).els) (n - 1) (by omega) ((a69 hb (by omega)).2)) Q7)) fz []) [0, 0, 0, 6, 14, 30, 0, 64, 254, 511, 0, 0, 3072, 7168, 15360, 0, 32768, 130558, 262143, 524287] [(5, iA ((↑(szP d ss k) : Int) + (↑(B4 d (ss.getD k bW7).body) : Int) + (↑(B4 d (ss.getD k bW7).els) : Int)))] (iX k k ss.length ((wO (n - 1)) :: ((wO ((↑(szP d ss k) : Int) + (↑(B4 d (ss.getD k bW7).body) : Int))) :: (iX k k ss.length ((wO (n - 1)) :: ((wO ((↑(szP d ss k) : Int) + (↑(B4 d (ss.getD k bW7).body) : Int) + (↑(B4 d (ss.getD k bW7).els) : Int))) :: [])))))) (iK (by omega) ⟨oW (by omega), ⟨(by have h1 := at1 (d := d) (ss := ss) (k := k) (by omega); have h2 := aU3 (d := d) (ss := ss) (k := k + 1); exact w64 (by omega) (by omega)), (iK (by omega) ⟨oW (by omega), ⟨(by have h1 := at1 (d := d) (ss := ss) (k := k) (by omega); have h2 := aU3 (d := d) (ss := ss) (k := k + 1); exact w64 (by omega) (by omega)), bY1⟩⟩)⟩⟩) fun G => i8 (b0 (B5 G d9 [(6, iA ((k : Int) + 1))] [wO ((k : Int) + 1)] (o1 (by omega)) fun G => b0 ?_)))))))); exact J5 G (k + 1) (by omega) (by omega) [0] (ht := by have e1 : ((↑(szP d ss (k + 1)) : Int) : Int) = ((↑(szP d ss k) : Int) + (↑(B4 d (ss.getD k bW7).body) : Int) + (↑(B4 d (ss.getD k bW7).els) : Int)) := (by have h1 := at1 (d := d) (ss := ss) (k := k) (by omega); have h2 := aU3 (d := d) (ss := ss) (k := k + 1); omega); (first | rw [e1] | simp only [e1]) <;> rfl)
theorem bb2 : ∀ d, d ≤ 5 → ∀ (ss : List c6) (n : Int), n = (d + 1 : Nat) → s6 ss ≤ 1048576 → j8.ok Tryz.prog (V1 94 [.ref 0, iA n] [.dat (.stmts ss)] (iA (B4 d ss : Nat))) := by
 intro d
 induction d with
 | zero => intro _ ss n hn hb; exact bb3 ss n (by omega) hb
 | succ d ih => intro hd ss n hn hb; exact bb1 d (by omega) (fun ss n hn hb => ih (by omega) ss n hn hb) ss n (by omega) hb
theorem bn5 (ss : List c6) (n : Int) (hn : n = 5) (hb : s6 ss ≤ 1048576) : j8.ok Tryz.prog (V1 94 [.ref 0, iA n] [.dat (.stmts ss)] (iA (B4 4 ss : Nat))) :=
 bb2 4 (by omega) ss n (by omega) hb
theorem bf3 {nv na : Nat} : ∀ (d : Nat) (ss : List c6), (∀ s ∈ ss, l9 nv na (d + 1) s = true) → B4 d ss = nSs ss := by
 intro d
 induction d with
 | zero => intro ss h; rw [aQ4 h]; rfl
 | succ d ih =>
  intro ss
  induction ss with
  | nil => intro _; rfl
  | cons s r ihr =>
   intro h
   have h1 := X1 (h s b01)
   have h2 := ih s.body fun x hx => bX9.1 h1.1 x hx
   have h3 := ih s.els fun x hx => bX9.1 h1.2 x hx
   have h4 := ihr fun x hx => h x (b00 _ hx)
   rw [nSs, aH3, ← h2, ← h3, ← h4]
   simp [B4]; omega
theorem aO3 {p : j7} (h : C6 p.vars p.arrays = false) : C0 p = false := by simp [C0, h]
theorem aO4 {p : j7} (h : ab9 p.vars.length p.arrays.length 5 p.body = false) : C0 p = false := by simp [C0, h]
theorem aW5 {p : j7} (h1 : C6 p.vars p.arrays = true) (h2 : ab9 p.vars.length p.arrays.length 5 p.body = true) : C0 p = decide ((B4 4 p.body : Int) ≤ 60) := by
 have h3 := bf3 (nv := p.vars.length) (na := p.arrays.length) 4 p.body (fun x hx => bX9.1 h2 x hx)
 rw [C0, h1, h2, h3]
 simp
 exact ⟨fun h => by omega, fun h => by omega⟩
theorem aS3 (p : j7) (n : Int) (hn : n = 5) : j8.ok Tryz.prog (V1 93 [pA 0, .ref 2, iA n] (pS p) (bA (ab9 p.vars.length p.arrays.length 5 p.body))) :=
 j8.dup (S := pS p) (S' := pS p) (d := .stmts p.body) (i := 2) (bb6 p p.body n hn) rfl rfl rfl (fun ρ h => by simp only [AV.vals, AV.val]; rw [show ρ 3 = ρ 2 from h]) rfl
theorem ab8 (p : j7) (hb : s6 p.body ≤ 1048576) : j8.ok Tryz.prog (V1 77 [pA 0] (pS p) (bA (C0 p))) := by
  refine I1 17 Tryz.func77 [dI p.vars, dI p.arrays, dT p.body] [(0, pA 0)] fun G => ?_; refine wp_seq (i9 G d9 (rg 4) [dI p.vars, dI p.arrays, dT p.body, .box (pL 0)] [(1, .ptr 3 0), (2, bA false)] fun G => b0 (wp_seq ?_)); cases h0 : (C6 p.vars p.arrays)
  · refine i9 G (Q8 (E2 1 [0, 1, 2] (am0 p) Q7) (fc h0 (fc (b := false) rfl fz)) (us [(3, 6, 0), (1007, 1007, 0), (9, 12, 1), (1013, 1013, 1)])) [0, 1, 2] [dI p.vars, dI p.arrays, dT p.body] [(2, bA false)] fun G => b0 (wp_ret ?_); exact J6 false G [0, 1, 2] (aO3 (by assumption))
  ·
   cases h1 : (ab9 p.vars.length p.arrays.length (5 : Nat) p.body)
   · refine i9 G (Q8 (E2 1 [0, 1, 2] (am0 p) (E2 6 [0, 1, 2] (aS3 p 5 (by kernel_rfl)) Q7)) (fc h0 (fc h1 fz)) (us [(3, 6, 0), (1007, 1007, 0), (9, 12, 1), (1013, 1013, 1)])) [0, 1, 2] [dI p.vars, dI p.arrays, dT p.body] [(2, bA false)] fun G => b0 (wp_ret ?_); exact J6 false G [0, 1, 2] (aO4 (by assumption))
   · refine i9 G (Q8 (E2 1 [0, 1, 2] (am0 p) (E2 6 [0, 1, 2] (aS3 p 5 (by kernel_rfl)) (E2 11 [2] (bn5 p.body 5 (by kernel_rfl) (by assumption)) Q7))) (fc h0 (fc h1 fz)) (us [(3, 6, 0), (1007, 1007, 0), (9, 12, 1), (1013, 1013, 1)])) [0, 1, 2] [dI p.vars, dI p.arrays, dT p.body] [(2, bA (decide ((↑(B4 4 p.body) : Int) ≤ 60)))] fun G => b0 (wp_ret ?_); exact J6 (decide ((↑(B4 4 p.body) : Int) ≤ 60)) G [0, 1, 2] (aW5 (by assumption) (by assumption))
def T1 (nv na : Nat) (s : c6) : Bool := n6 s &&
    (if s.kind = 1 ∨ s.kind = 5 then decide (0 ≤ s.target) && decide (s.target < nv) && o6 nv na s.value
     else if s.kind = 2 then decide (0 ≤ s.target) && decide (s.target < na) && o6 nv na s.index && R0 s.index && o6 nv na s.value
     else if s.kind = 3 then o6 nv na s.value
     else decide (s.kind = 4))
theorem af1 {nv na d : Nat} {s : c6} : l9 nv na (d + 1) s = (T1 nv na s && (s.body.all (l9 nv na d) && s.els.all (l9 nv na d))) := by
 rw [bZ7]
 constructor
 ·intro h
  have h1 := X1 h
  rw [h1.1, h1.2, Bool.and_true, Bool.and_true]
  rw [l9, bX0] at h
  rw [T1, h.1, Bool.true_and]
  obtain ⟨-, h⟩ := h
  split at h
  ·rw [if_pos (by assumption)]; exact h
  split at h
  ·rw [if_neg (by assumption), if_pos (by assumption)]; exact h
  split at h
  ·rw [if_neg (by assumption), if_neg (by assumption), if_pos (by assumption)]
   simp only [bX0] at h; exact h.1.1
  split at h
  ·rw [if_neg (by assumption), if_neg (by assumption), if_neg (by assumption)]; simp [*]
  ·simp at h
 ·intro h
  simp only [bX0] at h
  obtain ⟨h, hb, he⟩ := h
  rw [T1, bX0] at h
  obtain ⟨h0, h⟩ := h
  rw [l9, h0, Bool.true_and]
  split at h
  ·rw [if_pos (by assumption)]; exact h
  split at h
  ·rw [if_neg (by assumption), if_pos (by assumption)]; exact h
  split at h
  ·rw [if_neg (by assumption), if_neg (by assumption), if_pos (by assumption), h, hb, he]; rfl
  ·rw [if_neg (by assumption), if_neg (by assumption), if_neg (by assumption), if_pos (by simpa using h), hb]
section
variable {nv na d c : Nat} {s : c6}
end
section
variable {nv na : Nat} {s : c6}
theorem bL9 (k : s.kind = 1 ∨ s.kind = 5) : T1 nv na s = (decide (0 ≤ s.target ∧ s.target < nv ∧ s.body.length = 0 ∧ s.els.length = 0 ∧ s.count = 0) && (noneB s.index && o6 nv na s.value)) := by
 rw [T1, n6, if_pos k, if_neg (by omega), show decide (s.kind = 2) = false from decide_eq_false (by omega), bZ7]
 simp only [bX0, decide_eq_true_eq, Bool.false_or]
 constructor
 ·rintro ⟨⟨⟨⟨a, b⟩, c⟩, d⟩, ⟨e, f⟩, g⟩; exact ⟨⟨e, f, a, b, c⟩, d, g⟩
 ·rintro ⟨⟨e, f, a, b, c⟩, d, g⟩; exact ⟨⟨⟨⟨a, b⟩, c⟩, d⟩, ⟨e, f⟩, g⟩
theorem bL8 (k : s.kind = 2) : T1 nv na s = (decide (0 ≤ s.target ∧ s.target < na ∧ s.body.length = 0 ∧ s.els.length = 0 ∧ s.count = 0) && (o6 nv na s.index && (R0 s.index && o6 nv na s.value))) := by
 rw [T1, n6, if_neg (by omega), if_pos k, if_neg (by omega), show decide (s.kind = 2) = true from decide_eq_true k, bZ7]
 simp only [bX0, decide_eq_true_eq, Bool.true_or]
 constructor
 ·rintro ⟨⟨⟨⟨a, b⟩, c⟩, -⟩, ⟨⟨⟨e, f⟩, i⟩, j⟩, g⟩; exact ⟨⟨e, f, a, b, c⟩, i, j, g⟩
 ·rintro ⟨⟨e, f, a, b, c⟩, i, j, g⟩; exact ⟨⟨⟨⟨a, b⟩, c⟩, bY1⟩, ⟨⟨⟨e, f⟩, i⟩, j⟩, g⟩
theorem bL7 (k : s.kind = 3) : T1 nv na s = (decide (s.target = 0 ∧ s.count = 0) && (noneB s.index && o6 nv na s.value)) := by
 rw [T1, n6, if_pos (show s.kind = 3 ∨ s.kind = 4 from .inl k), if_neg (show ¬ s.kind = 4 by omega), if_neg (by omega), if_neg (by omega), if_pos k, bZ7]
 simp only [bX0, decide_eq_true_eq]
 constructor
 ·rintro ⟨⟨a, b, c⟩, d⟩; exact ⟨⟨a, b⟩, c, d⟩
 ·rintro ⟨⟨a, b⟩, c, d⟩; exact ⟨⟨a, b, c⟩, d⟩
theorem bL6 (k : s.kind = 4) : T1 nv na s = (decide (s.target = 0 ∧ s.els.length = 0 ∧ 1 ≤ s.count ∧ s.count ≤ 3) && (noneB s.index && noneB s.value)) := by
 rw [T1, n6, if_pos (show s.kind = 3 ∨ s.kind = 4 from .inr k), if_pos k, if_neg (by omega), if_neg (by omega), if_neg (by omega), show decide (s.kind = 4) = true from decide_eq_true k, bZ7]
 simp only [bX0, decide_eq_true_eq]
 constructor
 ·rintro ⟨⟨a, ⟨⟨⟨b, c⟩, d⟩, e⟩, f⟩, -⟩; exact ⟨⟨a, b, c, d⟩, e, f⟩
 ·rintro ⟨⟨a, b, c, d⟩, e, f⟩; exact ⟨⟨a, ⟨⟨⟨b, c⟩, d⟩, e⟩, f⟩, bY1⟩
theorem aw0 (k : ¬ s.kind = 1 ∧ ¬ s.kind = 2 ∧ ¬ s.kind = 3 ∧ ¬ s.kind = 4 ∧ ¬ s.kind = 5) : T1 nv na s = false := by
 rw [T1, if_neg (by omega), if_neg (by omega), if_neg (by omega), show decide (s.kind = 4) = false from decide_eq_false (by omega), Bool.and_false]
end
theorem bl0 {l : List c8} {k : Nat} (h : (k : Int) < l.length) : l.getD k bW7 ∈ l := by rw [n9 (by omega)]; exact bZ0 (by omega)
theorem aQ2 {l : List c6} {k : Nat} (h : (k : Int) < l.length) : l.getD k bW7 ∈ l := by rw [n9 (by omega)]; exact bZ0 (by omega)
section
variable {nv na d : Nat} {e : c8}
end
section
variable {vs ars : List Int} {d : Nat} {e : c8}
end
theorem aT2 {α : Type} {l : List α} {k : Nat} {p : α → Bool} {z : α} (h : (l.take k).any p = false) (hk : k < l.length) (hp : p (l.getD k z) = false) : (l.take (k + 1)).any p = false := by
 rw [H6 l k hk, List.any_append, h, ← n9 (d := z) hk, List.any_cons, hp]; rfl
theorem aT3 {α : Type} {l : List α} {k : Nat} {p : α → Bool} (h : (l.take k).any p = false) (hk : l.length ≤ k) : l.any p = false := by
 rw [bY3 hk] at h; exact h
section
variable {nv na : Nat} {s : c6}
variable (h : T1 nv na s = true)
include h
end
section
variable {p : j7} {s : c6} {pc : Int} {strict : Bool} {x : Int}
end
section
variable {p : j7} {strict : Bool} {d c : Nat} {pc : Int} {s : c6}
end
section
variable {p : j7} {strict : Bool}
end
section
variable {p : j7} {s : c6} {cx : Int}
end
def Z2 {α : Type} (f : α → Bool) (l : List α) : Int := match l.findIdx? f with
 | some i => i
 | none => -1
theorem aD3 {α : Type} {f : α → Bool} {l : List α} {k : Nat} {z : α} (hk : k < l.length) (h : (l.take k).any f = false) (hf : f (l.getD k z) = true) : Z2 f l = k := by
 have : l.findIdx? f = some k := by
  rw [List.findIdx?_eq_some_iff_getElem]
  rw [n9 hk] at hf
  refine ⟨hk, hf, fun j hj => ?_⟩
  rw [List.any_eq_false] at h
  have hm : l[j] ∈ l.take k := List.mem_take_iff_getElem.2 ⟨j, by omega, rfl⟩
  exact h _ hm
 unfold Z2; rw [this]
theorem aw5 {α : Type} {f : α → Bool} {l : List α} (h : l.any f = false) : Z2 f l = -1 := by
 have : l.findIdx? f = none := by
  rw [List.findIdx?_eq_none_iff]
  intro x hx
  rw [List.any_eq_false] at h
  simpa using h x hx
 unfold Z2; rw [this]
theorem aD4 {α : Type} (f : α → Bool) (l : List α) : decide (Z2 f l ≥ 0) = l.any f := by
 cases h : l.any f
 ·rw [aw5 h]; rfl
 ·unfold Z2
  cases h2 : l.findIdx? f with
  | none =>
   rw [List.findIdx?_eq_none_iff] at h2
   obtain ⟨x, hx, hf⟩ := List.any_eq_true.1 h
   rw [h2 x hx] at hf; cases hf
  | some i => simp
section
variable {p : j7} {s : c6}
end
section
variable {R : c6 × Int → Int} {c a : Int} {n : Nat} {x : c6 × Int}
end
section
variable {R : c6 × Int → Int} {p : j7} {d : Nat} {cx : Int} {ss : List c6} {c b : Int} {n k : Nat}
end
abbrev Lab : Type := List Int × List Int
def bv (x : Int) : BitVec 64 := BitVec.ofInt 64 x
def leI (x y : Int) : Prop := bv x ||| bv y = bv y
theorem leI.refl (x : Int) : leI x x := BitVec.or_self
theorem leI.trans {x y z : Int} (h : leI x y) (k : leI y z) : leI x z := by
 unfold leI at *
 rw [← k, ← BitVec.or_assoc, h]
def leP (q r : Lab) : Prop := (∀ i, leI (q.1.getD i 0) (r.1.getD i 0)) ∧ ∀ i, leI (q.2.getD i 0) (r.2.getD i 0)
def shP (q r : Lab) : Prop := r.1.length = q.1.length ∧ r.2.length = q.2.length
theorem leP.refl (q : Lab) : leP q q := ⟨fun _ => leI.refl _, fun _ => leI.refl _⟩
theorem leP.trans {q r s : Lab} (h : leP q r) (k : leP r s) : leP q s := ⟨fun i => (h.1 i).trans (k.1 i), fun i => (h.2 i).trans (k.2 i)⟩
theorem shP.refl (q : Lab) : shP q q := ⟨rfl, rfl⟩
theorem shP.trans {q r s : Lab} (h : shP q r) (k : shP r s) : shP q s := ⟨k.1.trans h.1, k.2.trans h.2⟩
theorem shP.symm {q r : Lab} (h : shP q r) : shP r q := ⟨h.1.symm, h.2.symm⟩
section
variable {b : Bool} {d : Nat} {cx : Int} {q r : Lab} {ss : List c6}
end
section
variable {a b : c8} {k : Nat}
theorem aB6 {α : Type} {l m : List α} {k : Nat} {z : α} (h : l.take k = m.take k) (h1 : k < l.length) (h2 : k < m.length) (e : l.getD k z = m.getD k z) : l.take (k + 1) = m.take (k + 1) := by
 rw [r8 _ _ h1, r8 _ _ h2, h, ← n9 (d := z) h1, ← n9 (d := z) h2, e]
theorem aM4 {α : Type} {l m : List α} {k : Nat} (h : l.take k = m.take k) (h1 : l.length ≤ k) (h2 : (l.length : Int) = m.length) : l = m := by
 rw [bY3 h1, bY3 (by omega)] at h
 exact h
end
section
variable {s t : c6} {l m : List c6} {k : Nat}
end
section
variable {vs ars : List Int} {cx : Int} {s : c6} {d : Nat} {b : Bool}
section
variable {nv na d k : Nat} {ss : List c6} {q : Lab} {cx : Int}
end
end
section
variable {p : j7} {q : Lab} {b : List c6} {X : Lab}
end
abbrev Z0 : List Int := [3] ++ ([4] ++ ([2] ++ ([5] ++ [])))
abbrev viL : List Int := [0] ++ ([1] ++ ([0] ++ ([1] ++ ([2] ++ ([3] ++ [])))))
abbrev W5 : List Int := [1] ++ ([2] ++ ([0] ++ ([1] ++ [])))
abbrev aiL : List Int := [0] ++ ([1] ++ ([0] ++ ([1] ++ ([3] ++ []))))
abbrev nbL : List Int := [2] ++ ([3] ++ ([1] ++ ([4] ++ [])))
def nsD (b : List UInt8) (l : List Int) (n : Nat) (k : Int) : List Int := (bY5 n).map fun (i : Nat) => nm b (k + (i : Int)) l
theorem ac5 (b : List UInt8) (l : List Int) (n : Nat) (k : Int) : (nsD b l n k).length = n := by simp [nsD]
theorem bj0 (b : List UInt8) (l : List Int) (n : Nat) (k : Int) : nsD b l (n + 1) k = nsD b l n k ++ [nm b (k + (n : Int)) l] := by
 unfold nsD; rw [List.range_succ, List.map_append]; rfl
def G2 (b : List UInt8) (k : Int) : Int := k + 1 + nm b k Z0
def kp2 (b : List UInt8) (k : Int) : Int := G2 b k + 1 + nm b (G2 b k) W5
def vsD (b : List UInt8) (k : Int) : List Int := nsD b viL (nm b k Z0).toNat (k + 1)
def asD (b : List UInt8) (k : Int) : List Int := nsD b aiL (nm b (G2 b k) W5).toNat (G2 b k + 1)
def x8 (b : List UInt8) (k : Int) : List c6 × Int := E4 (A1 b (vsD b k).length (asD b k).length 3) (nm b (kp2 b k) nbL).toNat (kp2 b k + 1)
def rwD (b : List UInt8) (k : Int) : j7 := ⟨vsD b k, asD b k, (x8 b k).1⟩
def fbP : j7 := ⟨[0, 1], [], [⟨1, 1, noE, ⟨2, 0, []⟩, 0, [], []⟩]⟩
def o0 (b : List UInt8) (k : Int) : j7 := if C0 (rwD b k) = true then rwD b k else fbP
section
variable (b : List UInt8) {k : Int}
theorem bD4 (hk : 0 ≤ k) (hk2 : k ≤ 1000000000) : 0 ≤ nm b k Z0 ∧ nm b k Z0 ≤ 5 := aC7 b (by simp) (by simp) hk hk2
theorem bK1 (hk : 0 ≤ k) (hk2 : k ≤ 1000000000) : 0 ≤ nm b k nbL ∧ nm b k nbL ≤ 4 := aC7 b (by simp) (by simp) hk hk2
theorem bD8 (hk : 0 ≤ k) (hk2 : k ≤ 1000000000) : 0 ≤ nm b k W5 ∧ nm b k W5 ≤ 2 := aC7 b (by simp) (by simp) hk hk2
theorem bk1 (hk : 0 ≤ k) (hk2 : k ≤ 10000000) : k + 1 ≤ G2 b k ∧ G2 b k ≤ k + 6 := by
 have := bD4 b hk (by omega); unfold G2; omega
theorem bk0 (hk : 0 ≤ k) (hk2 : k ≤ 10000000) : k + 2 ≤ kp2 b k ∧ kp2 b k ≤ k + 9 := by
 have h1 := bk1 b hk hk2
 have := bD8 b (k := G2 b k) (by omega) (by omega); unfold kp2; omega
theorem cS3 : cS 3 = 34170 ∧ cS 2 = 8442 := by decide
theorem bV8 (nv na : Nat) : Drw (A1 b nv na 3) 34170 := fun j h1 h2 => by
 have e := cS3.1
 have h3 := aM7 b nv na 3 j h1 (by omega)
 have h4 := aU7 b nv na 3 j h1 (by omega)
 omega
theorem bo1 (hk : 0 ≤ k) (hk2 : k ≤ 10000000) : kp2 b k ≤ (x8 b k).2 ∧ (x8 b k).2 ≤ k + 150000 ∧ s6 (x8 b k).1 ≤ 150000 := by
 have h1 := bk0 b hk hk2
 have h2 := bK1 b (k := kp2 b k) (by omega) (by omega)
 have h3 := aI7 (f := A1 b (vsD b k).length (asD b k).length 3) (by omega) (bV8 b _ _) (nm b (kp2 b k) nbL).toNat (kp2 b k + 1) (by omega) (by omega)
 unfold x8
 omega
theorem bd8 (hk : 0 ≤ k) (hk2 : k ≤ 10000000) : (vsD b k).length ≤ 5 := by
 have := bD4 b hk (by omega); unfold vsD; rw [ac5]; omega
theorem bo4 (hk : 0 ≤ k) (hk2 : k ≤ 10000000) : (asD b k).length ≤ 2 := by
 have h1 := bk1 b hk hk2
 have := bD8 b (k := G2 b k) (by omega) (by omega); unfold asD; rw [ac5]; omega
theorem bE6 : C0 fbP = true := by decide +kernel
theorem bi3 (k : Int) : C0 (o0 b k) = true := by
 unfold o0; split
 ·assumption
 ·exact bE6
theorem bi2 (hk : 0 ≤ k) (hk2 : k ≤ 10000000) : (o0 b k).size ≤ 160000 := by
 have h1 := bo1 b hk hk2
 have h2 := bd8 b hk hk2
 have h3 := bo4 b hk hk2
 unfold o0; split
 ·show (vsD b k).length + (asD b k).length + s6 (x8 b k).1 ≤ 160000
  omega
 ·decide
end
def bsD (c : List UInt8) : List UInt8 := c.take 2000
abbrev opL : List Int := [1] ++ ([2] ++ ([3] ++ ([6] ++ ([2] ++ ([7] ++ ([9] ++ ([4] ++ ([5] ++ ([11] ++ ([8] ++ ([12] ++ [])))))))))))
abbrev Z9 : List Int := [0] ++ ([1] ++ ([2] ++ ([3] ++ ([255] ++ ([128] ++ ([7] ++ ([4] ++ ([100] ++ []))))))))
abbrev lnL : List Int := [6] ++ ([8] ++ ([4] ++ ([10] ++ ([1] ++ ([12] ++ [])))))
def opD (b : List UInt8) (j : Int) (na : Nat) : Int := if na = 0 ∧ (nm b j opL = 4 ∨ nm b j opL = 5) then 2 else nm b j opL
def ptD (b : List UInt8) (j : Int) (nv na : Nat) (at0 n : Int) (kd : UInt8) : Int :=
 if kd = 114 then pk b j 3 else if kd = 99 then nm b j Z9 else if kd = 118 then pk b j nv else if kd = 97 then pk b j na else if kd = 111 then 4 + pk b j 7 else at0 + 1 + pk b j (n - at0 - 1)
def psD (b : List UInt8) (j : Int) (nv na : Nat) (at0 n : Int) (ks : List UInt8) (k : Nat) : List Int := (bY5 4).map fun i => if i < k then ptD b (j + i) nv na at0 n (ks.getD i 0) else 0
theorem a43 (b : List UInt8) (j : Int) (nv na : Nat) (at0 n : Int) (ks : List UInt8) (k : Nat) : (psD b j nv na at0 n ks k).length = 4 := by simp [psD]
theorem bh9 (b : List UInt8) (j : Int) (nv na : Nat) (at0 n : Int) (ks : List UInt8) {k : Nat} (hk : k < 4) : psD b j nv na at0 n ks (k + 1) = (psD b j nv na at0 n ks k).set k (ptD b (j + k) nv na at0 n (ks.getD k 0)) := by
 apply List.ext_getElem (by simp [a43])
 intro i h1 h2
 rw [List.getElem_set]
 simp only [psD, List.getElem_map, List.getElem_range]
 by_cases e : k = i
 ·subst e; simp
 ·rw [if_neg e]
  have : (i < k + 1) ↔ (i < k) := by omega
  simp only [this]
def S4 (b : List UInt8) (j : Int) (nv na : Nat) (at0 n : Int) : c7 × Int :=
 (⟨opD b j na, (psD b (j + 1) nv na at0 n (e6 (opD b j na)) (e6 (opD b j na)).length).getD 0 0, (psD b (j + 1) nv na at0 n (e6 (opD b j na)) (e6 (opD b j na)).length).getD 1 0,
  (psD b (j + 1) nv na at0 n (e6 (opD b j na)) (e6 (opD b j na)).length).getD 2 0, (psD b (j + 1) nv na at0 n (e6 (opD b j na)) (e6 (opD b j na)).length).getD 3 0⟩, j + 1 + (e6 (opD b j na)).length)
theorem bS0 (b : List UInt8) (j : Int) (nv na : Nat) (at0 n : Int) : j + 1 ≤ (S4 b j nv na at0 n).2 ∧ (S4 b j nv na at0 n).2 ≤ j + 5 := by
 have := N8 (opD b j na)
 unfold S4
 simp only
 omega
def rsD (b : List UInt8) (j : Int) (nv na : Nat) (n : Int) : Nat → List c7 × Int
 | 0 => ([], j)
 | k + 1 => ((rsD b j nv na n k).1 ++ [(S4 b (rsD b j nv na n k).2 nv na k n).1], (S4 b (rsD b j nv na n k).2 nv na k n).2)
theorem bC0 (b : List UInt8) (j : Int) (nv na : Nat) (n : Int) : ∀ k : Nat, (rsD b j nv na n k).1.length = k ∧ j ≤ (rsD b j nv na n k).2 ∧ (rsD b j nv na n k).2 ≤ j + 5 * k
 | 0 => by simp [rsD]
 | k + 1 => by
  obtain ⟨h1, h2, h3⟩ := bC0 b j nv na n k
  have h4 := bS0 b (rsD b j nv na n k).2 nv na k n
  have e2 : (rsD b j nv na n (k + 1)).2 = (S4 b (rsD b j nv na n k).2 nv na k n).2 := rfl
  have e1 : (rsD b j nv na n (k + 1)).1.length = k + 1 := by
   show ((rsD b j nv na n k).1 ++ [(S4 b (rsD b j nv na n k).2 nv na k n).1]).length = k + 1
   rw [bX1, h1]; rfl
  rw [e1, e2]
  generalize (S4 b (rsD b j nv na n k).2 nv na k n).2 = x at h4 ⊢
  generalize (rsD b j nv na n k).2 = y at *
  refine ⟨rfl, ?_, ?_⟩ <;> omega
def clD (b : List UInt8) (j : Int) (nv na : Nat) : List c7 × Int :=
 (fun (n : Int) =>
  (fun (r : List c7 × Int) =>
   if n > 3 then
    (if pk b r.2 4 = 0 then (((r.1 ++ [(⟨13, 0, 0, 0, 0⟩ : c7)]).set 0 ⟨1, 5, 1 + pk b (r.2 + 1) 3, 0, 0⟩).set (n - 2).toNat ⟨10, 5, 1, 0, 0⟩, r.2 + 2) else (r.1 ++ [⟨13, 0, 0, 0, 0⟩], r.2 + 1))
   else (r.1 ++ [⟨13, 0, 0, 0, 0⟩], r.2)) (rsD b (j + 1) nv na n (n - 1).toNat)) (nm b j lnL)
theorem bD9 (b : List UInt8) {j : Int} (hj : 0 ≤ j) (hj2 : j ≤ 1000000000) : 1 ≤ nm b j lnL ∧ nm b j lnL ≤ 12 := by
 have h := af6 b hj hj2 (l := lnL) (List.cons_ne_nil _ _)
 generalize nm b j lnL = x at h ⊢
 simp only [lnL, List.cons_append, b14, b02, List.not_mem_nil, or_false] at h
 omega
theorem bW0 (b : List UInt8) {j : Int} (nv na : Nat) (hj : 0 ≤ j) (hj2 : j ≤ 1000000000) : (clD b j nv na).1.length = (nm b j lnL).toNat ∧ j + 1 ≤ (clD b j nv na).2 ∧ (clD b j nv na).2 ≤ j + 70 := by
 have hn := bD9 b hj hj2
 obtain ⟨h1, h2, h3⟩ := bC0 b (j + 1) nv na (nm b j lnL) (nm b j lnL - 1).toNat
 unfold clD
 simp only
 split
 ·split
  ·simp only [bY9, bX1, bX8, bY2, h1]; omega
  ·simp only [bX1, bX8, bY2, h1]; omega
 ·simp only [bX1, bX8, bY2, h1]; omega
structure t2 where
 vals : List Int
 arrs : List (List Int)
def D8 (l : List Int) : Bool := l.all fun n => decide (0 ≤ n) && decide (n ≤ 255)
def P0 (a : List Int) : Bool := decide (a.length = 4) && D8 a
def G5 (nv na : Nat) (m : t2) : Bool := decide (m.vals.length = nv) && (decide (m.arrs.length = na) && (D8 m.vals && m.arrs.all P0))
def W3 (b : List UInt8) (j : Int) (n : Nat) : List Int := (bY5 n).map fun i : Nat => nm b (j + i) Z9
theorem ae8 (b : List UInt8) (j : Int) (n : Nat) : (W3 b j n).length = n := by simp [W3]
theorem bR0 (b : List UInt8) (j : Int) : W3 b j 0 = [] := rfl
theorem aF4 (b : List UInt8) (j : Int) (k : Nat) : W3 b j (k + 1) = W3 b j k ++ [nm b (j + k) Z9] := by
 unfold W3; rw [List.range_succ, List.map_append]; rfl
def arD (b : List UInt8) (j : Int) (n : Nat) : List (List Int) := (bY5 n).map fun i : Nat => W3 b (j + 4 * i) 4
theorem bo7 (b : List UInt8) (j : Int) (n : Nat) : (arD b j n).length = n := by simp [arD]
theorem bx2 (b : List UInt8) (j : Int) (k : Nat) : arD b j (k + 1) = arD b j k ++ [W3 b (j + 4 * k) 4] := by
 unfold arD; rw [List.range_succ, List.map_append]; rfl
theorem bP8 (b : List UInt8) (j : Int) (n : Nat) : ∀ a ∈ arD b j n, a.length = 4 := by
 intro a ha
 obtain ⟨i, _, rfl⟩ := List.mem_map.1 ha
 exact ae8 _ _ _
def mmD (b : List UInt8) (j : Int) (nv na : Nat) : t2 := ⟨W3 b j nv, arD b (j + nv) na⟩
section
variable {nv na : Nat} {m : t2}
theorem bM7 (h : ¬ (m.vals.length : Int) = nv) : G5 nv na m = false := by unfold G5; rw [decide_eq_false (p := m.vals.length = nv) (by omega)]; rfl
theorem bM6 (h : ¬ (m.arrs.length : Int) = na) : G5 nv na m = false := by unfold G5; rw [decide_eq_false (p := m.arrs.length = na) (by omega)]; simp
theorem bM5 (h : D8 m.vals = false) : G5 nv na m = false := by unfold G5; rw [h]; simp
theorem bM4 (h1 : (m.vals.length : Int) = nv) (h2 : (m.arrs.length : Int) = na) (h3 : D8 m.vals = true) : G5 nv na m = m.arrs.all P0 := by
 unfold G5
 rw [decide_eq_true (p := m.vals.length = nv) (by omega), decide_eq_true (p := m.arrs.length = na) (by omega), h3]; rfl
theorem aw3 (h : G5 nv na m = true) : m.vals.length = nv ∧ m.arrs.length = na ∧ D8 m.vals = true ∧ m.arrs.all P0 = true := by
 unfold G5 at h
 simpa [bX0] using h
end
def jmS (b : List UInt8) (n : Int) (i : Nat) (x : List c7 × Int) : List c7 × Int :=
 if (x.1.getD i bW7).op ≠ 10 ∧ (x.1.getD i bW7).op ≠ 1 then
  (if pk b x.2 4 = 0 then (x.1.set i ⟨8, i + 1 + pk b (x.2 + 1) (n - i - 1), 0, 0, 0⟩, x.2 + 2) else (x.1, x.2 + 1))
 else x
def t8 (b : List UInt8) (n : Int) (x : List c7 × Int) : Nat → List c7 × Int
 | 0 => x
 | k + 1 => jmS b n k (t8 b n x k)
theorem bL3 (b : List UInt8) (n : Int) (i : Nat) (x : List c7 × Int) : (jmS b n i x).1.length = x.1.length ∧ x.2 ≤ (jmS b n i x).2 ∧ (jmS b n i x).2 ≤ x.2 + 2 := by
 unfold jmS
 split
 ·split
  ·exact ⟨bY9, by show x.2 ≤ x.2 + 2; omega, by show x.2 + 2 ≤ x.2 + 2; omega⟩
  ·exact ⟨rfl, by show x.2 ≤ x.2 + 1; omega, by show x.2 + 1 ≤ x.2 + 2; omega⟩
 ·exact ⟨rfl, Int.le_refl _, by omega⟩
theorem bE2 (b : List UInt8) (n : Int) (x : List c7 × Int) : ∀ k : Nat, (t8 b n x k).1.length = x.1.length ∧ x.2 ≤ (t8 b n x k).2 ∧ (t8 b n x k).2 ≤ x.2 + 2 * k
 | 0 => ⟨rfl, Int.le_refl _, by simp [t8]⟩
 | k + 1 => by
  obtain ⟨h1, h2, h3⟩ := bE2 b n x k
  obtain ⟨g1, g2, g3⟩ := bL3 b n k (t8 b n x k)
  rw [t8]
  refine ⟨g1.trans h1, by omega, by omega⟩
abbrev bK6 : List Int := [0] ++ ([14] ++ ([1] ++ ([12] ++ [])))
abbrev bK5 : List Int := [-1] ++ ([14] ++ ([0] ++ ([400] ++ [])))
abbrev bK4 : List Int := [1] ++ ([-1] ++ [])
def bC2 (l : List c7) (i : Nat) (n : Int) : List c7 := l.set i ⟨n, (l.getD i bW7).a, (l.getD i bW7).b, (l.getD i bW7).c, (l.getD i bW7).d⟩
def bh8 (l : List c7) (i : Nat) (n : Int) : List c7 := l.set i ⟨(l.getD i bW7).op, n, (l.getD i bW7).b, (l.getD i bW7).c, (l.getD i bW7).d⟩
def bC3 (l : List c7) (i : Nat) (n : Int) : List c7 := l.set i ⟨(l.getD i bW7).op, (l.getD i bW7).a, (l.getD i bW7).b, (l.getD i bW7).c, n⟩
def muD (b : List UInt8) (j : Int) (c : b6) : b6 × Int :=
 if c.list.length = 0 then (c, j)
 else if pk b j 60 = 0 then (⟨c.vars, c.arrays, bC2 c.list 0 (nm b (j + 1) bK6)⟩, j + 2)
 else if pk b j 60 = 1 then (⟨c.vars, c.arrays, bh8 c.list (pk b (j + 1) c.list.length).toNat (nm b (j + 2) bK5)⟩, j + 3)
 else if pk b j 60 = 2 then (⟨c.vars, c.arrays, c.list.set (c.list.length - 1) ⟨12, 0, 0, 0, 0⟩⟩, j + 1)
 else if pk b j 60 = 3 then (⟨c.vars, c.arrays, c.list.set (c.list.length - 1) ⟨8, 0, 0, 0, 0⟩⟩, j + 1)
 else if pk b j 60 = 4 then (⟨c.vars, c.arrays, bC3 c.list (pk b (j + 1) c.list.length).toNat (nm b (j + 2) bK4)⟩, j + 3)
 else if pk b j 60 = 5 then (⟨[], c.arrays, c.list⟩, j + 1)
 else (c, j + 1)
theorem bU5 (b : List UInt8) (j : Int) (c : b6) : (muD b j c).1.list.length = c.list.length ∧ (muD b j c).1.vars.length ≤ c.vars.length ∧ (muD b j c).1.arrays.length = c.arrays.length ∧ j ≤ (muD b j c).2 ∧ (muD b j c).2 ≤ j + 3 := by
 have key : ∀ (x : b6) (q : Int), x.list.length = c.list.length → x.vars.length ≤ c.vars.length → x.arrays.length = c.arrays.length → j ≤ q → q ≤ j + 3 → ((x, q).1.list.length = c.list.length ∧ (x, q).1.vars.length ≤ c.vars.length ∧ (x, q).1.arrays.length = c.arrays.length ∧ j ≤ (x, q).2 ∧ (x, q).2 ≤ j + 3) := fun x q h1 h2 h3 h4 h5 => ⟨h1, h2, h3, h4, h5⟩
 unfold muD
 repeat' split
 all_goals (refine key _ _ ?_ ?_ ?_ (by omega) (by omega) <;> simp [bC2, bh8, bC3])
theorem bJ5 {b : List UInt8} {j n : Int} (h : n < 1) : pk b j n = 0 := by unfold pk; rw [if_pos (.inl h)]
theorem bT2 {b : List UInt8} {j n : Int} (h : (b.length : Int) = 0) : pk b j n = 0 := by unfold pk; rw [if_pos (.inr (by omega))]
theorem bT1 {b : List UInt8} {j n : Int} (h : ¬ n < 1) (h1 : ¬ (b.length : Int) = 0) (h2 : j + 1 - 1 < b.length) : pk b j n = ((b.getD (j + 1 - 1).toNat 0).toNat : Int).tmod n := by
 unfold pk; rw [if_neg (by omega), if_pos (by omega), Int.add_sub_cancel]
theorem bT0 {b : List UInt8} {j n : Int} (h : ¬ n < 1) (h1 : ¬ (b.length : Int) = 0) (h2 : ¬ j + 1 - 1 < b.length) : pk b j n = (aT8 (pkX b (j + 1 - 1)) ((pkX b (j + 1 - 1)).tdiv 64)).tmod n := by
 unfold pk; rw [if_neg (by omega), if_neg (by omega), Int.add_sub_cancel]
theorem a91 {x : Int} {n : Nat} (hx : 0 ≤ x) (hn : ¬ (n : Int) = 0) : 0 ≤ x.tmod n ∧ x.tmod n < n ∧ (x.tmod n).toNat < n := by
 have := aU1 (x := x) (n := n) hx (by omega); omega
theorem o5 (b : List UInt8) (j n : Int) (r0 : 0 ≤ j) (r1 : j ≤ 1000000000) : j8.ok Tryz.prog ⟨45, [.ptr 0 0, iA n], [.box [.ref 1, iA j], dY b], [.box [.ref 1, iA (j + 1)], dY b], iA (pk b j n)⟩ := by
  refine I1 99 Tryz.func45 [.box [.ref 1, iA j], dY b] [(0, .ptr 0 0), (1, iA n)] fun G => ?_; have hu1 := aM0 (b.getD ((j + 1 - 1).tmod b.length).toNat 0); have hu2 := aM0 (b.getD (((j + 1 - 1) * 7 + 3).tmod b.length).toNat 0); refine wp_seq (l0 G d9 [(4, iA 0)] fun G => b0 (wp_seq (J0 G d9 [0, 1] [.box [.ref 1, iA (j + 1)], dY b] [(0, .ptr 0 0), (1, iA n), (4, iA 0)] [wO (j + 1)] (o1 (by omega)) fun G => b0 (wp_seq (wp_seq ?_))))); cases h0 : (decide (n < 1))
  ·
   have q0 := W0 h0; refine l0 G (H4 (fc h0 fz) (us [(3, 8, 0), (1009, 1009, 0)])) [(24, bA ((b.length : Int) == 0))] fun G => b0 (M4 G (fun h1 q1 => ?_) fun h1 q1 => ?_)
   ·
    refine wp_skip (b0 (wp_seq (B5 G d9 [(5, iA (j + 1 - 1))] [wO (j + 1 - 1)] (o1 (by omega)) fun G => b0 (wp_seq (wp_seq (l0 G d9 [(36, bA (decide (j + 1 - 1 < (b.length : Int))))] fun G => b0 (rcD G (fun h2 q2 => ?_) fun h2 q2 => ?_)))))))
    ·
     refine wp_skip (b0 (wp_seq (a85 G d9 [0, 1, 3, 7, 0, 0, 32, 96, 224, 480, 1008, 2047, 4095, 8191, 16383, 0, 32768, 98304, 229376, 0, 524288, 1572864, 0, 4194304, 12582912, 29360128, 62914560, 133693440, 268402688, 536838144, 1073709056, 2147450880, 4294967295, 0, 8589934592, 34359738367, 0, 0, 137438953472, 412316860416, 962072674304, 2061584302080, 4329327034368, 8727373545472, 17592186044415, 35184372088831] [(6, iA (((b.getD ((j + 1 - 1).tmod (b.length : Int)).toNat 0).toNat : Int) * 131 + ((b.getD (((j + 1 - 1) * 7 + 3).tmod (b.length : Int)).toNat 0).toNat : Int) * 1117 + (j + 1 - 1) * 29 + (j + 1 - 1).tdiv (b.length : Int) * 53))] [(b.length : Int) ≠ 0, (0 : Int) ≤ (j + 1 - 1).tmod (b.length : Int), (j + 1 - 1).tmod (b.length : Int) < b.length, ((j + 1 - 1).tmod (b.length : Int)).toNat < b.length, IntKind.i64.wrap ((b.getD ((j + 1 - 1).tmod (b.length : Int)).toNat (0 : UInt8)).toNat : Int) = ((b.getD ((j + 1 - 1).tmod (b.length : Int)).toNat (0 : UInt8)).toNat : Int), wO (((b.getD ((j + 1 - 1).tmod (b.length : Int)).toNat (0 : UInt8)).toNat : Int) * 131), wO ((j + 1 - 1) * 7), wO ((j + 1 - 1) * 7 + 3), (b.length : Int) ≠ 0, (0 : Int) ≤ ((j + 1 - 1) * 7 + 3).tmod (b.length : Int), ((j + 1 - 1) * 7 + 3).tmod (b.length : Int) < b.length, (((j + 1 - 1) * 7 + 3).tmod (b.length : Int)).toNat < b.length, IntKind.i64.wrap ((b.getD (((j + 1 - 1) * 7 + 3).tmod (b.length : Int)).toNat (0 : UInt8)).toNat : Int) = ((b.getD (((j + 1 - 1) * 7 + 3).tmod (b.length : Int)).toNat (0 : UInt8)).toNat : Int), wO (((b.getD (((j + 1 - 1) * 7 + 3).tmod (b.length : Int)).toNat (0 : UInt8)).toNat : Int) * 1117), wO (((b.getD ((j + 1 - 1).tmod (b.length : Int)).toNat (0 : UInt8)).toNat : Int) * 131 + ((b.getD (((j + 1 - 1) * 7 + 3).tmod (b.length : Int)).toNat (0 : UInt8)).toNat : Int) * 1117), wO ((j + 1 - 1) * 29), wO (((b.getD ((j + 1 - 1).tmod (b.length : Int)).toNat (0 : UInt8)).toNat : Int) * 131 + ((b.getD (((j + 1 - 1) * 7 + 3).tmod (b.length : Int)).toNat (0 : UInt8)).toNat : Int) * 1117 + (j + 1 - 1) * 29), (b.length : Int) ≠ 0, wO ((j + 1 - 1).tdiv (b.length : Int)), wO ((j + 1 - 1).tdiv (b.length : Int) * 53), wO (((b.getD ((j + 1 - 1).tmod (b.length : Int)).toNat (0 : UInt8)).toNat : Int) * 131 + ((b.getD (((j + 1 - 1) * 7 + 3).tmod (b.length : Int)).toNat (0 : UInt8)).toNat : Int) * 1117 + (j + 1 - 1) * 29 + (j + 1 - 1).tdiv (b.length : Int) * 53)] ⟨(by assumption), ((a91 (by omega) (by omega)).1), ((a91 (by omega) (by omega)).2.1), ((a91 (by omega) (by omega)).2.2), (w64 (by omega) (by omega)), (oW (by omega)), (oW (by omega)), (oW (by omega)), (by assumption), ((a91 (by omega) (by omega)).1), ((a91 (by omega) (by omega)).2.1), ((a91 (by omega) (by omega)).2.2), (w64 (by omega) (by omega)), (oW (by omega)), (oW (by omega)), (oW (by omega)), (oW (by omega)), (by assumption), (by have := aO5 (b := b) (k := j + 1 - 1) (by omega) (by omega) (by omega); exact w64 (by unfold pkX at this; omega) (by unfold pkX at this; omega)), (by have := aO5 (b := b) (k := j + 1 - 1) (by omega) (by omega) (by omega); exact w64 (by unfold pkX at this; omega) (by unfold pkX at this; omega)), (by have := aO5 (b := b) (k := j + 1 - 1) (by omega) (by omega) (by omega); exact w64 (by unfold pkX at this; omega) (by unfold pkX at this; omega)), bY1⟩ fun G => ?_)))
     refine b0 (wp_seq (B5 G d9 [(6, iA (aT8 (((b.getD ((j + 1 - 1).tmod (b.length : Int)).toNat 0).toNat : Int) * 131 + ((b.getD (((j + 1 - 1) * 7 + 3).tmod (b.length : Int)).toNat 0).toNat : Int) * 1117 + (j + 1 - 1) * 29 + (j + 1 - 1).tdiv (b.length : Int) * 53) ((((b.getD ((j + 1 - 1).tmod (b.length : Int)).toNat 0).toNat : Int) * 131 + ((b.getD (((j + 1 - 1) * 7 + 3).tmod (b.length : Int)).toNat 0).toNat : Int) * 1117 + (j + 1 - 1) * 29 + (j + 1 - 1).tdiv (b.length : Int) * 53).tdiv 64)))] [(64 : Int) ≠ 0, wO ((((b.getD ((j + 1 - 1).tmod (b.length : Int)).toNat (0 : UInt8)).toNat : Int) * 131 + ((b.getD (((j + 1 - 1) * 7 + 3).tmod (b.length : Int)).toNat (0 : UInt8)).toNat : Int) * 1117 + (j + 1 - 1) * 29 + (j + 1 - 1).tdiv (b.length : Int) * 53).tdiv (64 : Int))] ⟨(by omega), (by have := bz2 (b := b) (k := j + 1 - 1) (by omega) (by omega) (by omega); exact w64 (by unfold pkX at this; omega) (by unfold pkX at this; omega)), bY1⟩ fun G => b0 (wp_seq (B5 G d9 [(4, iA ((aT8 (((b.getD ((j + 1 - 1).tmod (b.length : Int)).toNat 0).toNat : Int) * 131 + ((b.getD (((j + 1 - 1) * 7 + 3).tmod (b.length : Int)).toNat 0).toNat : Int) * 1117 + (j + 1 - 1) * 29 + (j + 1 - 1).tdiv (b.length : Int) * 53) ((((b.getD ((j + 1 - 1).tmod (b.length : Int)).toNat 0).toNat : Int) * 131 + ((b.getD (((j + 1 - 1) * 7 + 3).tmod (b.length : Int)).toNat 0).toNat : Int) * 1117 + (j + 1 - 1) * 29 + (j + 1 - 1).tdiv (b.length : Int) * 53).tdiv 64)).tmod n))] [n ≠ 0] ⟨(by omega), bY1⟩ fun G => b0 (wp_ret ?_))))); exact rxI ((aT8 (((b.getD ((j + 1 - 1).tmod (b.length : Int)).toNat 0).toNat : Int) * 131 + ((b.getD (((j + 1 - 1) * 7 + 3).tmod (b.length : Int)).toNat 0).toNat : Int) * 1117 + (j + 1 - 1) * 29 + (j + 1 - 1).tdiv (b.length : Int) * 53) ((((b.getD ((j + 1 - 1).tmod (b.length : Int)).toNat 0).toNat : Int) * 131 + ((b.getD (((j + 1 - 1) * 7 + 3).tmod (b.length : Int)).toNat 0).toNat : Int) * 1117 + (j + 1 - 1) * 29 + (j + 1 - 1).tdiv (b.length : Int) * 53).tdiv 64)).tmod n) G [0, 1] (bT0 (by omega) (by omega) (by omega))
    · refine wp_seq (B5 G d9 [(4, iA (((b.getD (j + 1 - 1).toNat 0).toNat : Int).tmod n))] (iX (j + 1 - 1) ((j + 1 - 1).toNat) b.length ((IntKind.i64.wrap ((b.getD (j + 1 - 1).toNat (0 : UInt8)).toNat : Int) = ((b.getD (j + 1 - 1).toNat (0 : UInt8)).toNat : Int)) :: ((n ≠ 0) :: []))) (iK (by omega) ⟨(by have := aM0 (b.getD (j + 1 - 1).toNat 0); exact w64 (by omega) (by omega)), ⟨(by omega), bY1⟩⟩) fun G => b0 (wp_ret (n7 ?_))); exact rxI (((b.getD (j + 1 - 1).toNat 0).toNat : Int).tmod n) G [0, 1] (bT1 (by omega) (by omega) (by omega))
   · refine wp_seq (l0 G d9 [] fun G => b0 (wp_ret (n7 ?_))); exact rxI 0 G [0, 1] (bT2 (by omega))
  · have q0 := V9 h0; refine l0 G (H4 (fc h0 fz) (us [(3, 8, 0), (1009, 1009, 0)])) [(24, bA true)] fun G => b0 (rT G true (by kernel_rfl) (wp_seq (l0 G d9 [] fun G => b0 (wp_ret (n7 ?_))))); exact rxI 0 G [0, 1] (bJ5 (by omega))
theorem L6 (b : List UInt8) (j : Int) (l : List Int) (hl : l ≠ []) (r0 : 0 ≤ j) (r1 : j ≤ 1000000000) : j8.ok Tryz.prog ⟨46, [.ptr 0 0, .ref 2], [.box [.ref 1, iA j], dY b, dI l], [.box [.ref 1, iA (j + 1)], dY b, dI l], iA (nm b j l)⟩ := by
 refine I1 12 Tryz.func46 [.box [.ref 1, iA j], dY b, dI l] [(0, .ptr 0 0), (1, .ref 2)] fun G => ?_; refine wp_seq (l0 G d9 [(4, iA 0)] fun G => b0 (wp_seq (J0 G (t0 4 [0, 1] (o5 b j ((l.length : Int)) (by assumption) (by assumption))) [0, 1, 2] [.box [.ref 1, iA (j + 1)], dY b, dI l] [(4, iA (l.getD (pk b j (l.length : Int)).toNat 0))] [(0 : Int) ≤ pk b j (l.length : Int), pk b j (l.length : Int) < l.length, (pk b j (l.length : Int)).toNat < l.length] ⟨((a50 b r0 r1 hl).1), ((a50 b r0 r1 hl).2.1), ((a50 b r0 r1 hl).2.2), bY1⟩ fun G => b0 (wp_ret ?_)))); exact I9 G [0, 1, 2]
theorem a01 (c : List UInt8) (hc : c.length ≤ 2000) : j8.ok Tryz.prog ⟨21, [.ref 0], [dY c], [dY c, .box [.ref 0, iA 0]], .ptr 1 0⟩ := by
 refine I1 11 Tryz.func21 [dY c] [(0, .ref 0)] fun G => ?_; refine wp_seq (l0 G d9 [(2, .v (.pointer none))] fun G => b0 (wp_seq (wp_seq (F5 G d9 [(0, .ref 0), (2, .v (.pointer none)), (5, bA (decide ((c.length : Int) > 2000)))] fun G => b0 ?_)))); cases h0 : (decide ((c.length : Int) > 2000))
 ·have q0 := W0 h0; refine rF G _ h0 (wp_skip (b0 (wp_seq (i9 G d9 [0, 17] [dY c, .box [.ref 0, iA 0]] [(2, .ptr 1 0)] fun G => b0 (wp_ret ?_))))); exact I9 G [0, 1]
 ·have q0 := V9 h0; exact False.elim (by omega)
theorem a00 (c : List UInt8) (hc : 2000 < c.length) : j8.ok Tryz.prog ⟨21, [.ref 0], [dY c], [dY c, .box [.ref 2, iA 0], dY ((c.take 2000).drop 0)], .ptr 1 0⟩ := by
 refine I1 11 Tryz.func21 [dY c] [(0, .ref 0)] fun G => ?_; refine wp_seq (l0 G d9 [(2, .v (.pointer none))] fun G => b0 (wp_seq (wp_seq (F5 G d9 [(0, .ref 0), (2, .v (.pointer none)), (5, bA (decide ((c.length : Int) > 2000)))] fun G => b0 ?_)))); cases h0 : (decide ((c.length : Int) > 2000))
 ·have q0 := W0 h0; exact False.elim (by omega)
 ·have q0 := V9 h0; refine rT G _ h0 (J0 G d9 [0, 9] [dY c, dY (List.drop 0 (bY0 (Int.toNat 2000) c))] [(0, .ref 1), (2, .v (.pointer none))] [(0 : Int) ≤ 2000, (2000 : Int) ≤ c.length] ⟨(by omega), (by omega), bY1⟩ fun G => b0 (wp_seq (i9 G d9 [0, 1, 18] [dY c, dY (List.drop 0 (bY0 (Int.toNat 2000) c)), .box [.ref 1, iA 0]] [(2, .ptr 2 0)] fun G => b0 (wp_ret ?_)))); exact I9 G [0, 2, 1]
abbrev dwS (b : List UInt8) (j : Int) (vs ars : List Int) (bd : List c6) : List It := [.box [.ref 1, iA j], dY b, dI vs, dI ars, dT bd]
abbrev exO (e : c8) : List It := [.tree (.exprs e.kids)]
abbrev exA (e : c8) (r : Nat) : AV := .agg [iA e.kind, iA e.value, .tref r]
theorem bP5 {b : List UInt8} {nv j : Int} (h : pk b j 3 = 0) : n4 b nv j = ⟨1, nm b (j + 1) atL, []⟩ := if_pos h
theorem bP4 {b : List UInt8} {nv j : Int} (h : ¬ pk b j 3 = 0) : n4 b nv j = ⟨2, pk b (j + 1) nv, []⟩ := if_neg h
theorem am1 (b : List UInt8) (j : Int) (vs ars : List Int) (bd : List c6) (r0 : 0 ≤ j) (r1 : j ≤ 900000000) : j8.ok Tryz.prog ⟨103, [.ptr 0 0, pA 2], dwS b j vs ars bd, dwS b (j + 2) vs ars bd ++ exO (n4 b vs.length j), exA (n4 b vs.length j) 5⟩ := by
 refine I1 18 Tryz.func103 [.box [.ref 1, iA j], dY b, dI vs, dI ars, dT bd] [(0, .ptr 0 0), (1, pA 2)] fun G => ?_; refine wp_seq (i9 G d9 [0, 1, 2, 3, 4, 5, 13] [.box [.ref 1, iA j], dY b, dI vs, dI ars, dT bd, .box (pL 2), .box [iA 0, iA 0, .v (.slice none 0 0)]] [(0, .ptr 0 0), (3, .ptr 5 0), (4, .ptr 6 0)] fun G => b0 (wp_seq (wp_seq (i9 G (t0 1 [0, 1] (o5 b j 3 (by assumption) (by omega))) (rg 7) [.box [.ref 1, iA (j + 1)], dY b, dI vs, dI ars, dT bd, .box (pL 2), .box [iA 0, iA 0, .v (.slice none 0 0)]] [(0, .ptr 0 0), (3, .ptr 5 0), (4, .ptr 6 0), (7, bA (pk b j 3 == 0))] fun G => b0 (M4 G (fun h0 q0 => ?_) fun h0 q0 => ?_)))))
 ·refine wp_skip (b0 (wp_seq (i9 G (t0 4 [0, 1] (o5 b (j + 1) ((vs.length : Int)) (by omega) (by omega))) [0, 1, 2, 3, 4, 6] [.box [.ref 1, iA (j + 1 + 1)], dY b, dI vs, dI ars, dT bd, .box [iA 2, iA (pk b (j + 1) (vs.length : Int)), .v (.slice none 0 0)]] [(4, .ptr 5 0)] fun G => b0 (wp_ret ?_)))); obtain ⟨ρ, G⟩ := G.nilT 6 (.exprs []) [.box [.ref 1, iA (j + 1 + 1)], dY b, dI vs, dI ars, dT bd, .box [iA 2, iA (pk b (j + 1) (vs.length : Int)), .tref 6]] [(4, .ptr 5 0)]; exact W4 (.agg [iA 2, iA (pk b (j + 1) (vs.length : Int)), .tref 6]) G [0, 1, 2, 3, 4, 6] (by show _ = AV.ren (nth [0, 1, 2, 3, 4, 6]) (.agg [iA (n4 b (vs.length : Int) j).kind, iA (n4 b (vs.length : Int) j).value, .tref 5]); rw [bP4 (by omega)] <;> rfl) (by show _ = mR [0, 1, 2, 3, 4, 6] [.box [.ref 1, iA (j + 2)], dY b, dI vs, dI ars, dT bd, .tree (D.exprs (n4 b (vs.length : Int) j).kids)]; have e1 : (j + 2 : Int) = (j + 1 + 1) := (by omega); rw [e1, bP4 (by omega)] <;> rfl)
 ·refine wp_seq (i9 G (t0 2 [0, 1, 15] (j8.lend (L6 b (j + 1) atL (by simp [h0]) (by omega) (by omega)) [.no, .no, .row 3])) (rg 7) [.box [.ref 1, iA (j + 1 + 1)], dY b, dI vs, dI ars, dT bd, .box (pL 2), .box [iA 1, iA (nm b (j + 1) atL), .v (.slice none 0 0)]] [(0, .ptr 0 0), (3, .ptr 5 0), (4, .ptr 6 0)] fun G => b0 (wp_ret (n7 ?_))); obtain ⟨ρ, G⟩ := G.nilT 7 (.exprs []) [.box [.ref 1, iA (j + 1 + 1)], dY b, dI vs, dI ars, dT bd, .box (pL 2), .box [iA 1, iA (nm b (j + 1) atL), .tref 7]] [(0, .ptr 0 0), (3, .ptr 5 0), (4, .ptr 6 0)]; exact W4 (.agg [iA 1, iA (nm b (j + 1) atL), .tref 7]) G [0, 1, 2, 3, 4, 7] (by show _ = AV.ren (nth [0, 1, 2, 3, 4, 7]) (.agg [iA (n4 b (vs.length : Int) j).kind, iA (n4 b (vs.length : Int) j).value, .tref 5]); rw [bP5 (by omega)] <;> rfl) (by show _ = mR [0, 1, 2, 3, 4, 7] [.box [.ref 1, iA (j + 2)], dY b, dI vs, dI ars, dT bd, .tree (D.exprs (n4 b (vs.length : Int) j).kids)]; have e1 : (j + 2 : Int) = (j + 1 + 1) := (by omega); rw [e1, bP5 (by omega)] <;> rfl)
theorem aZ8 (vs ars : List Int) (bd : List c6) (e : c8) : j8.ok Tryz.prog (V1 112 [pA 0, eA e 3] ([dI vs, dI ars, dT bd] ++ eS e) (bA (o6 vs.length ars.length e))) := G3 ⟨vs, ars, bd⟩ e
abbrev drC (b : List UInt8) (vs ars : List Int) (bd : List c6) (d : Nat) (j n : Int) : j8 := ⟨111, [.ptr 0 0, pA 2, iA n], dwS b j vs ars bd, dwS b (J2 b vs.length ars.length d j).2 vs ars bd ++ exO (J2 b vs.length ars.length d j).1, exA (J2 b vs.length ars.length d j).1 5⟩
section
variable {b : List UInt8} {nv na : Int} {d : Nat} {j : Int}
theorem bN0 (h : d < 2) : J2 b nv na d j = (n4 b nv j, j + 2) := by
 match d, h with
 | 0, _ => rfl
 | 1, _ => simp [J2]
theorem bF2 (h : 0 < d) (h1 : pk b j 4 = 0) : J2 b nv na (d + 1) j = (n4 b nv (j + 1), j + 3) := by rw [J2, if_neg (by omega), if_pos h1]
theorem bv9 (h : 0 < d) (h1 : ¬ pk b j 4 = 0) (h2 : nm b (j + 1) K3 = 3) (h3 : na = 0) : J2 b nv na (d + 1) j = (n4 b nv (j + 2), j + 4) := by rw [J2, if_neg (by omega), if_neg h1, if_pos h2, if_pos h3]
theorem bv8 (h : 0 < d) (h1 : ¬ pk b j 4 = 0) (h2 : nm b (j + 1) K3 = 3) (h3 : ¬ na = 0) : J2 b nv na (d + 1) j = (⟨3, pk b (j + 2) na, [n4 b nv (j + 3)]⟩, j + 5) := by rw [J2, if_neg (by omega), if_neg h1, if_pos h2, if_neg h3]
abbrev drK (b : List UInt8) (nv na : Int) (d : Nat) (j : Int) (k : Nat) : List c8 × Int := E4 (J2 b nv na d) k (j + 2)
theorem bM9 (h : 0 < d) (h1 : ¬ pk b j 4 = 0) (h2 : ¬ nm b (j + 1) K3 = 3) {m : Int} (h3 : 0 ≤ m) (h4 : ¬ m > 0) : J2 b nv na (d + 1) j = (⟨nm b (j + 1) K3, 0, (drK b nv na d j (s0 (nm b (j + 1) K3) - m).toNat).1⟩, (drK b nv na d j (s0 (nm b (j + 1) K3) - m).toNat).2) := by
 have e : m = 0 := by omega
 rw [e, Int.sub_zero, J2, if_neg (by omega), if_neg h1, if_neg h2]
theorem a65 {x m : Int} (h3 : m > 0) (h4 : m ≤ x) : drK b nv na d j (x - (m - 1)).toNat = ((drK b nv na d j (x - m).toNat).1 ++ [(J2 b nv na d (drK b nv na d j (x - m).toNat).2).1], (J2 b nv na d (drK b nv na d j (x - m).toNat).2).2) := by
 rw [show (x - (m - 1)).toNat = (x - m).toNat + 1 by omega]; rfl
theorem bP7 (r0 : 0 ≤ j) (r1 : j ≤ 900000000) : 0 ≤ s0 (nm b (j + 1) K3) ∧ s0 (nm b (j + 1) K3) ≤ 3 := by
 have h := af6 b (k := j + 1) (l := K3) (by omega) (by omega) (by simp)
 simp only [bY7, b02, List.not_mem_nil, or_false] at h
 rcases h with h | h | h | h | h | h | h | h | h <;> rw [h] <;> decide
theorem bN2 (r0 : 0 ≤ j) {k : Nat} (hk : k ≤ 3) : j + 2 ≤ (drK b nv na d j k).2 ∧ (drK b nv na d j k).2 ≤ j + 2 + 3 * cE d := by
 have hc := ax8 d
 have h := bm0 (f := J2 b nv na d) (c := cE d) (m := 3) (by omega) k (j + 2) hk fun i _ _ => aR3 b nv na d i
 have h4 : (k : Int) * cE d ≤ 3 * cE d := b10 (by omega) (by omega)
 unfold drK; omega
theorem bN1 {x m : Int} (r0 : 0 ≤ j) (h3 : m > 0) (h4 : m ≤ x) (h5 : x ≤ 3) (r1 : j + cE (d + 1) ≤ 800000000) : (drK b nv na d j (x - m).toNat).2 + cE d ≤ 800000000 := by
 have hc := ax8 d
 have hce : cE (d + 1) = 5 + 3 * cE d := rfl
 have hm : (x - m).toNat ≤ 2 := by omega
 have h := bm0 (f := J2 b nv na d) (c := cE d) (m := 2) (by omega) (x - m).toNat (j + 2) hm fun i _ _ => aR3 b nv na d i
 have h4 : ((x - m).toNat : Int) * cE d ≤ 2 * cE d := b10 (by omega) (by omega)
 unfold drK; omega
end
theorem a37 (b : List UInt8) (vs ars : List Int) (bd : List c6) (d : Nat) (hd : d < 2) (j n : Int) (hn : n = d) (r0 : 0 ≤ j) (r1 : j ≤ 900000000) : j8.ok Tryz.prog (drC b vs ars bd d j n) := by
 refine I1 62 Tryz.func111 [.box [.ref 1, iA j], dY b, dI vs, dI ars, dT bd] [(0, .ptr 0 0), (1, pA 2), (2, iA n)] fun G => ?_; refine wp_seq (i9 G d9 [0, 1, 2, 3, 4, 5, 13] [.box [.ref 1, iA j], dY b, dI vs, dI ars, dT bd, .box (pL 2), .box [iA 0, iA 0, .v (.slice none 0 0)]] [(0, .ptr 0 0), (2, iA n), (4, .ptr 5 0), (6, .ptr 6 0)] fun G => b0 (wp_seq (wp_seq ?_))); cases h0 : (decide (n < 2))
 ·have q0 := W0 h0; exact False.elim (by omega)
 ·have q0 := V9 h0; refine l0 G (H4 (fc h0 fz) [(3, 0), (4, 0), (5, 0), (1006, 0)]) [(16, bA true)] fun G => b0 (rT G true (by kernel_rfl) (wp_seq (i9 G (t0 2 (rg 5) (am1 b j vs ars bd (by assumption) (by assumption))) [0, 1, 2, 3, 4, 5, 6, 23] [.box [.ref 1, iA (j + 2)], dY b, dI vs, dI ars, dT bd, .box (pL 2), .box [iA (n4 b (vs.length : Int) j).kind, iA (n4 b (vs.length : Int) j).value, .tref 7], .tree (D.exprs (n4 b (vs.length : Int) j).kids)] [(0, .ptr 0 0), (2, iA n), (4, .ptr 5 0), (6, .ptr 6 0)] fun G => b0 (wp_ret (n7 ?_))))); exact W4 (.agg [iA (n4 b (vs.length : Int) j).kind, iA (n4 b (vs.length : Int) j).value, .tref 7]) G [0, 1, 2, 3, 4, 7] (by show _ = AV.ren (nth [0, 1, 2, 3, 4, 7]) (.agg [iA (J2 b (vs.length : Int) (ars.length : Int) d j).fst.kind, iA (J2 b (vs.length : Int) (ars.length : Int) d j).fst.value, .tref 5]); rw [bN0 hd] <;> rfl) (by show _ = mR [0, 1, 2, 3, 4, 7] [.box [.ref 1, iA (J2 b (vs.length : Int) (ars.length : Int) d j).snd], dY b, dI vs, dI ars, dT bd, .tree (D.exprs (J2 b (vs.length : Int) (ars.length : Int) d j).fst.kids)]; rw [bN0 hd] <;> rfl)
abbrev as1 (b : List UInt8) (vs : List Int) (ars : List Int) (d : Nat) (j : Int) (k : Int) := drK b (vs.length : Int) (ars.length : Int) d j (s0 (nm b (j + 1) K3) - k).toNat
abbrev an2 (b : List UInt8) (vs : List Int) (ars : List Int) (d : Nat) (j : Int) : AV := (.agg [iA (J2 b (vs.length : Int) (ars.length : Int) (d + 1) j).fst.kind, iA (J2 b (vs.length : Int) (ars.length : Int) (d + 1) j).fst.value, .tref 5])
abbrev an1 (b : List UInt8) (vs : List Int) (ars : List Int) (bd : List c6) (d : Nat) (j : Int) : List It := [.box [.ref 1, iA (J2 b (vs.length : Int) (ars.length : Int) (d + 1) j).snd], dY b, dI vs, dI ars, dT bd, .tree (D.exprs (J2 b (vs.length : Int) (ars.length : Int) (d + 1) j).fst.kids)]
abbrev aA7 : It := .box [iA 0, iA 0, .v (.slice none 0 0)]
abbrev Y5 (n : Int) (r0 : List (Nat × AV)) : List (Nat × AV) := (0, .ptr 0 0) :: (2, iA n) :: (4, .ptr 5 0) :: (6, .ptr 6 0) :: r0
theorem br9 (b : List UInt8) (vs ars : List Int) (bd : List c6) (d : Nat) (hd : 0 < d) (hd2 : d ≤ 100) (ih : ∀ (j n : Int), n = d → 0 ≤ j → j + cE d ≤ 800000000 → j8.ok Tryz.prog (drC b vs ars bd d j n)) (j n : Int) (hn : n = ((d + 1 : Nat) : Int)) (r0 : 0 ≤ j) (r1 : j + cE (d + 1) ≤ 800000000) : j8.ok Tryz.prog (drC b vs ars bd (d + 1) j n) := by
  refine I1 62 Tryz.func111 [.box [.ref 1, iA j], dY b, dI vs, dI ars, dT bd] [(0, .ptr 0 0), (1, pA 2), (2, iA n)] fun G => ?_; have hc := ax8 d; have hce : cE (d + 1) = 5 + 3 * cE d := rfl; have har := bP7 (b := b) (j := j) r0 (by omega); refine wp_seq (i9 G d9 [0, 1, 2, 3, 4, 5, 13] [.box [.ref 1, iA j], dY b, dI vs, dI ars, dT bd, .box (pL 2), aA7] (Y5 n []) fun G => b0 (wp_seq (wp_seq ?_))); cases h0 : (decide (n < 2))
  ·
   have q0 := W0 h0; refine i9 G (Q8 (E2 4 [0, 1] (o5 b j 4 (by assumption) (by omega)) Q7) (fc h0 fz) [(3, 0), (4, 0), (5, 0), (1006, 0)]) (rg 7) [.box [.ref 1, iA (j + 1)], dY b, dI vs, dI ars, dT bd, .box (pL 2), aA7] (Y5 n [(16, bA (pk b j 4 == 0))]) fun G => b0 (M4 G (fun h1 q1 => ?_) fun h1 q1 => ?_)
   ·
    refine wp_skip (b0 (wp_seq (i9 G (t0 2 [0, 1, 15] (j8.lend (L6 b (j + 1) K3 (by simp [h0, h1]) (by omega) (by omega)) [.no, .no, .row 3])) (rg 7) [.box [.ref 1, iA (j + 1 + 1)], dY b, dI vs, dI ars, dT bd, .box (pL 2), aA7] (Y5 n [(7, iA (nm b (j + 1) K3))]) fun G => b0 (wp_seq (wp_seq (l0 G d9 [(24, bA (nm b (j + 1) K3 == 3))] fun G => b0 (M4 G (fun h2 q2 => ?_) fun h2 q2 => ?_)))))))
    ·
     refine wp_skip (b0 (wp_seq (i9 G d9 [0, 1, 2, 3, 4, 5, 6, 23] [.box [.ref 1, iA (j + 1 + 1)], dY b, dI vs, dI ars, dT bd, .box (pL 2), aA7, .box [iA (nm b (j + 1) K3), iA 0, .v (.slice none 0 0)]] (Y5 n [(7, iA (nm b (j + 1) K3)), (8, .ptr 7 0)]) fun G => b0 (wp_seq (wp_seq (F5 G (t0 1 [] (ad3 (nm b (j + 1) K3))) (Y5 n [(8, .ptr 7 0), (9, iA (s0 (nm b (j + 1) K3)))]) fun G => b0 (wp_block ?_))))))); obtain ⟨ρ, G⟩ := G.nilT 8 (.exprs []) [.box [.ref 1, iA (j + 1 + 1)], dY b, dI vs, dI ars, dT bd, .box (pL 2), .box [iA 0, iA 0, .v (.slice none 0 0)], .box [iA (nm b (j + 1) K3), iA 0, .tref 8]] (Y5 n [(8, .ptr 7 0), (9, iA (s0 (nm b (j + 1) K3)))]); replace G := G.as [.box [.ref 1, iA (drK b (vs.length : Int) (ars.length : Int) d j (s0 (nm b (j + 1) K3) - s0 (nm b (j + 1) K3)).toNat).snd], dY b, dI vs, dI ars, dT bd, .box (pL 2), .box [iA 0, iA 0, .v (.slice none 0 0)], .box [iA (nm b (j + 1) K3), iA 0, .tref 8], .tree (D.exprs (drK b (vs.length : Int) (ars.length : Int) d j (s0 (nm b (j + 1) K3) - s0 (nm b (j + 1) K3)).toNat).fst)] (Y5 n [(8, .ptr 7 0), (9, iA (s0 (nm b (j + 1) K3)))]) (by have e1 : ((drK b (vs.length : Int) (ars.length : Int) d j (s0 (nm b (j + 1) K3) - s0 (nm b (j + 1) K3)).toNat).snd : Int) = (j + 1 + 1) := (by rw [Int.sub_self]; show j + 2 = j + 1 + 1; omega); have e2 : ((drK b (vs.length : Int) (ars.length : Int) d j (s0 (nm b (j + 1) K3) - s0 (nm b (j + 1) K3)).toNat).fst : List c8) = ([]) := (by rw [Int.sub_self]; rfl); (first | rw [e1, e2] | simp only [e1, e2]) <;> rfl) (by kernel_rfl); refine v5 (κ := Int) (fun k => 0 ≤ k ∧ k ≤ s0 (nm b (j + 1) K3)) (fun k => k.toNat) (fun k => [.box [.ref 1, iA (drK b vs.length ars.length d j (s0 (nm b (j + 1) K3) - k).toNat).2], dY b, dI vs, dI ars, dT bd, .box (pL 2), .box [iA 0, iA 0, .v (.slice none 0 0)], .box [iA (nm b (j + 1) K3), iA 0, .tref 8], .tree (.exprs (drK b vs.length ars.length d j (s0 (nm b (j + 1) K3) - k).toNat).1)]) (fun k => [(0, .ptr 0 0), (2, iA n), (4, .ptr 5 0), (6, .ptr 6 0), (8, .ptr 7 0), (9, iA k)]) (s0 (nm b (j + 1) K3)) (by omega) (s4.at G _ _) ?_; clear G; intro k ρ a w hp G; replace G := s4.at G [.box [.ref 1, iA (as1 b vs ars d j k).snd], dY b, dI vs, dI ars, dT bd, .box (pL 2), aA7, .box [iA (nm b (j + 1) K3), iA 0, .tref 8], .tree (D.exprs (as1 b vs ars d j k).fst)] (Y5 n [(8, .ptr 7 0), (9, iA k)]); have hkb := bN2 (b := b) (nv := vs.length) (na := ars.length) (d := d) (j := j) r0 (k := (s0 (nm b (j + 1) K3) - k).toNat) (by omega); have hkl : (drK b vs.length ars.length d j (s0 (nm b (j + 1) K3) - k).toNat).1.length = (s0 (nm b (j + 1) K3) - k).toNat := aI8 _ _ _; refine wp_seq (wp_seq (l0 G d9 [(48, bA (decide (k > 0)))] fun G => b0 (rcD G (fun h4 q4 => ?_) fun h4 q4 => ?_)))
     · refine wp_exit (t6 (t6 (t3 (b0 (wp_seq (i9 G d9 [0, 1, 2, 3, 4, 6, 8] [.box [.ref 1, iA (as1 b vs ars d j k).snd], dY b, dI vs, dI ars, dT bd, .box [iA (nm b (j + 1) K3), iA 0, .tref 6], .tree (D.exprs (as1 b vs ars d j k).fst)] [(6, .ptr 5 0)] fun G => b0 (wp_ret ?_))))))); exact W4 (.agg [iA (nm b (j + 1) K3), iA 0, .tref 6]) G [0, 1, 2, 3, 4, 6] (by show _ = AV.ren (nth [0, 1, 2, 3, 4, 6]) (an2 b vs ars d j); unfold an2; rw [bM9 (m := k) hd (by omega) (by omega) (by omega) (by omega)] <;> rfl) (by show _ = mR [0, 1, 2, 3, 4, 6] (an1 b vs ars bd d j); unfold an1; rw [bM9 (m := k) hd (by omega) (by omega) (by omega) (by omega)] <;> rfl)
     · refine wp_skip (b0 (wp_seq (wp_block (F4 G (t0 6 (rg 5) (ih ((drK b (vs.length : Int) (ars.length : Int) d j (s0 (nm b (j + 1) K3) - k).toNat).snd) (n - 1) (by omega) (by omega) (bN1 (by omega) (by omega) (by omega) (by omega) r1))) [0, 1, 0, 0, 0, 16, 60, 124, 255, 511, 1023] [0, 1, 2, 3, 4, 5, 6, 7, 73] [.box [.ref 1, iA (J2 b (vs.length : Int) (ars.length : Int) d (as1 b vs ars d j k).snd).snd], dY b, dI vs, dI ars, dT bd, .box (pL 2), aA7, .box [iA (nm b (j + 1) K3), iA 0, .tref 8], .tree (D.exprs ((as1 b vs ars d j k).fst ++ [qzE (J2 b (vs.length : Int) (ars.length : Int) d (as1 b vs ars d j k).snd).fst]))] (Y5 n [(8, .ptr 7 0), (9, iA k)]) ((wO (n - 1)) :: (aP ((drK b (vs.length : Int) (ars.length : Int) d j (s0 (nm b (j + 1) K3) - k).toNat).fst.length + 1) 40 [])) ⟨oW (by omega), (aK (by omega) bY1)⟩ fun G => i8 (b0 (B5 G d9 [(9, iA (k - 1))] [wO (k - 1)] (o1 (by omega)) fun G => b0 ?_)))))); exact J5 G (k - 1) (by omega) (by omega) (rg 9) (by have e1 : ((drK b (vs.length : Int) (ars.length : Int) d j (s0 (nm b (j + 1) K3) - (k - 1)).toNat).snd : Int) = ((J2 b (vs.length : Int) (ars.length : Int) d (drK b (vs.length : Int) (ars.length : Int) d j (s0 (nm b (j + 1) K3) - k).toNat).snd).snd) := (by rw [a65 (by omega) (by omega)]; done); have e2 : ((drK b (vs.length : Int) (ars.length : Int) d j (s0 (nm b (j + 1) K3) - (k - 1)).toNat).fst : List c8) = ((drK b (vs.length : Int) (ars.length : Int) d j (s0 (nm b (j + 1) K3) - k).toNat).fst ++ [qzE (J2 b (vs.length : Int) (ars.length : Int) d (drK b (vs.length : Int) (ars.length : Int) d j (s0 (nm b (j + 1) K3) - k).toNat).snd).fst]) := (by rw [a65 (by omega) (by omega)]; (simp only [c8.eta]; done)); (first | rw [e1, e2] | simp only [e1, e2]) <;> rfl)
    ·
     refine wp_seq (wp_seq (l0 G d9 [(28, bA ((ars.length : Int) == 0))] fun G => b0 (M4 G (fun h3 q3 => ?_) fun h3 q3 => ?_)))
     · refine wp_skip (b0 (wp_seq (bh5 G (Q8 (E2 5 [0, 1] (o5 b (j + 1 + 1) ((ars.length : Int)) (by omega) (by omega)) (E2 8 (rg 5) (am1 b (j + 1 + 1 + 1) vs ars bd (by omega) (by omega)) Q7)) fz []) [0, 0, 0, 4, 12, 30, 0, 0, 254, 510, 1023, 2047] [0, 1, 2, 3, 4, 5, 6, 79] [.box [.ref 1, iA (j + 1 + 1 + 1 + 2)], dY b, dI vs, dI ars, dT bd, .box (pL 2), .box [iA (nm b (j + 1) K3), iA (pk b (j + 1 + 1) (ars.length : Int)), .tref 7], .tree (D.exprs [qzE (n4 b (vs.length : Int) (j + 1 + 1 + 1))])] (Y5 n [(7, iA (nm b (j + 1) K3))]) fun G => b0 (wp_ret (n7 ?_))))); exact W4 (.agg [iA (nm b (j + 1) K3), iA (pk b (j + 1 + 1) (ars.length : Int)), .tref 7]) G [0, 1, 2, 3, 4, 7] (by show _ = AV.ren (nth [0, 1, 2, 3, 4, 7]) (an2 b vs ars d j); unfold an2; have e1 : ((J2 b (vs.length : Int) (ars.length : Int) (d + 1) j).fst.kind : Int) = (nm b (j + 1) K3) := (by rw [bv8 hd (by omega) (by omega) (by omega)]; (simp only [Int.add_assoc, Int.reduceAdd, c8.eta, c8.kids, c8.kind, c8.value]; omega)); have e2 : ((J2 b (vs.length : Int) (ars.length : Int) (d + 1) j).fst.value : Int) = (pk b (j + 1 + 1) (ars.length : Int)) := (by rw [bv8 hd (by omega) (by omega) (by omega)]; (simp only [Int.add_assoc, Int.reduceAdd, c8.eta, c8.kids, c8.kind, c8.value]; done)); (first | rw [e1, e2] | simp only [e1, e2]) <;> rfl) (by show _ = mR [0, 1, 2, 3, 4, 7] (an1 b vs ars bd d j); unfold an1; have e1 : ((J2 b (vs.length : Int) (ars.length : Int) (d + 1) j).snd : Int) = (j + 1 + 1 + 1 + 2) := (by rw [bv8 hd (by omega) (by omega) (by omega)]; (simp only [Int.add_assoc, Int.reduceAdd, c8.eta, c8.kids, c8.kind, c8.value]; done)); have e2 : ((J2 b (vs.length : Int) (ars.length : Int) (d + 1) j).fst.kids : List c8) = ([qzE (n4 b (vs.length : Int) (j + 1 + 1 + 1))]) := (by rw [bv8 hd (by omega) (by omega) (by omega)]; show [_] = _; simp only [Int.add_assoc, Int.reduceAdd, c8.eta]; done); (first | rw [e1, e2] | simp only [e1, e2]) <;> rfl)
     · refine wp_seq (i9 G (t0 2 (rg 5) (am1 b (j + 1 + 1) vs ars bd (by omega) (by omega))) [0, 1, 2, 3, 4, 5, 6, 23] [.box [.ref 1, iA (j + 1 + 1 + 2)], dY b, dI vs, dI ars, dT bd, .box (pL 2), .box [iA (n4 b (vs.length : Int) (j + 1 + 1)).kind, iA (n4 b (vs.length : Int) (j + 1 + 1)).value, .tref 7], .tree (D.exprs (n4 b (vs.length : Int) (j + 1 + 1)).kids)] (Y5 n [(7, iA (nm b (j + 1) K3))]) fun G => b0 (wp_ret (n7 (n7 ?_)))); exact W4 (.agg [iA (n4 b (vs.length : Int) (j + 1 + 1)).kind, iA (n4 b (vs.length : Int) (j + 1 + 1)).value, .tref 7]) G [0, 1, 2, 3, 4, 7] (by show _ = AV.ren (nth [0, 1, 2, 3, 4, 7]) (an2 b vs ars d j); unfold an2; have e1 : ((J2 b (vs.length : Int) (ars.length : Int) (d + 1) j).fst.kind : Int) = ((n4 b (vs.length : Int) (j + 1 + 1)).kind) := (by rw [bv9 hd (by omega) (by omega) (by omega)]; (simp only [Int.add_assoc, Int.reduceAdd, c8.eta, c8.kids, c8.kind, c8.value]; done)); have e2 : ((J2 b (vs.length : Int) (ars.length : Int) (d + 1) j).fst.value : Int) = ((n4 b (vs.length : Int) (j + 1 + 1)).value) := (by rw [bv9 hd (by omega) (by omega) (by omega)]; (simp only [Int.add_assoc, Int.reduceAdd, c8.eta, c8.kids, c8.kind, c8.value]; done)); (first | rw [e1, e2] | simp only [e1, e2]) <;> rfl) (by show _ = mR [0, 1, 2, 3, 4, 7] (an1 b vs ars bd d j); unfold an1; have e1 : ((J2 b (vs.length : Int) (ars.length : Int) (d + 1) j).snd : Int) = (j + 1 + 1 + 2) := (by rw [bv9 hd (by omega) (by omega) (by omega)]; (simp only [Int.add_assoc, Int.reduceAdd, c8.eta, c8.kids, c8.kind, c8.value]; done)); have e2 : ((J2 b (vs.length : Int) (ars.length : Int) (d + 1) j).fst : c8) = (n4 b (vs.length : Int) (j + 1 + 1)) := (by rw [bv9 hd (by omega) (by omega) (by omega)]; (simp only [Int.add_assoc, Int.reduceAdd, c8.eta, c8.kids, c8.kind, c8.value]; done)); (first | rw [e1, e2] | simp only [e1, e2]) <;> rfl)
   · refine wp_seq (i9 G (t0 2 (rg 5) (am1 b (j + 1) vs ars bd (by omega) (by omega))) [0, 1, 2, 3, 4, 5, 6, 23] [.box [.ref 1, iA (j + 1 + 2)], dY b, dI vs, dI ars, dT bd, .box (pL 2), .box [iA (n4 b (vs.length : Int) (j + 1)).kind, iA (n4 b (vs.length : Int) (j + 1)).value, .tref 7], .tree (D.exprs (n4 b (vs.length : Int) (j + 1)).kids)] (Y5 n []) fun G => b0 (wp_ret (n7 ?_))); exact W4 (.agg [iA (n4 b (vs.length : Int) (j + 1)).kind, iA (n4 b (vs.length : Int) (j + 1)).value, .tref 7]) G [0, 1, 2, 3, 4, 7] (by show _ = AV.ren (nth [0, 1, 2, 3, 4, 7]) (an2 b vs ars d j); unfold an2; rw [bF2 hd (by omega)] <;> rfl) (by show _ = mR [0, 1, 2, 3, 4, 7] (an1 b vs ars bd d j); unfold an1; have e1 : ((J2 b (vs.length : Int) (ars.length : Int) (d + 1) j).snd : Int) = (j + 1 + 2) := (by rw [bF2 hd (by omega)]; (simp only [Int.add_assoc, Int.reduceAdd, c8.eta, c8.kids, c8.kind, c8.value]; done)); rw [e1, bF2 hd (by omega)] <;> rfl)
  · have q0 := V9 h0; exact False.elim (by omega)
theorem bn8 (b : List UInt8) (vs ars : List Int) (bd : List c6) : ∀ (d : Nat) (j n : Int), d ≤ 100 → n = d → 0 ≤ j → j + cE d ≤ 800000000 → j8.ok Tryz.prog (drC b vs ars bd d j n)
 | 0, j, n, _, hn, r0, r1 => a37 b vs ars bd 0 (by omega) j n hn r0 (by have := ax8 0; omega)
 | 1, j, n, _, hn, r0, r1 => a37 b vs ars bd 1 (by omega) j n hn r0 (by have := ax8 1; omega)
 | d + 2, j, n, hd, hn, r0, r1 => br9 b vs ars bd (d + 1) (by omega) (by omega) (fun j n => bn8 b vs ars bd (d + 1) j n (by omega)) j n hn r0 r1
abbrev smC (b : List UInt8) (vs ars : List Int) (bd : List c6) (j : Int) : j8 := ⟨104, [.ptr 0 0, pA 2], dwS b j vs ars bd, dwS b (t5 b vs.length ars.length j).2 vs ars bd ++ exO (t5 b vs.length ars.length j).1, exA (t5 b vs.length ars.length j).1 5⟩
section
variable {b : List UInt8} {nv na : Nat} {j : Int}
theorem bI1 (h : o6 nv na (J2 b nv na (nm b j dpL).toNat (j + 1)).1 = true) : t5 b nv na j = J2 b nv na (nm b j dpL).toNat (j + 1) := if_pos h
theorem bI0 (h : o6 nv na (J2 b nv na (nm b j dpL).toNat (j + 1)).1 = false) : t5 b nv na j = (n4 b nv (J2 b nv na (nm b j dpL).toNat (j + 1)).2, (J2 b nv na (nm b j dpL).toNat (j + 1)).2 + 2) := if_neg (by rw [h]; decide)
theorem bR1 (r0 : 0 ≤ j) (r1 : j ≤ 700000000) : cE (nm b j dpL).toNat ≤ 364 := cE4 (dp4 b r0 (by omega)).2.2
end
abbrev V4 (b : List UInt8) (vs : List Int) (ars : List Int) (j : Int) := J2 b (vs.length : Int) (ars.length : Int) (nm b j dpL).toNat (j + 1)
theorem Y2 (b : List UInt8) (vs ars : List Int) (bd : List c6) (j : Int) (r0 : 0 ≤ j) (r1 : j ≤ 700000000) : j8.ok Tryz.prog (smC b vs ars bd j) := by
 have hdr := fun (i n : Int) => bn8 b vs ars bd (nm b j dpL).toNat i n (bZ6 (dp4 b r0 (by omega)).2.2 (by omega))
 refine I1 19 Tryz.func104 [.box [.ref 1, iA j], dY b, dI vs, dI ars, dT bd] [(0, .ptr 0 0), (1, pA 2)] fun G => ?_; have hd4 := bR1 (b := b) r0 r1; have hdb := aR3 b vs.length ars.length (nm b j dpL).toNat (j + 1); refine wp_seq (i9 G d9 [0, 1, 2, 3, 4, 5, 13] [.box [.ref 1, iA j], dY b, dI vs, dI ars, dT bd, .box (pL 2), .box [iA 0, iA 0, .v (.slice none 0 0)]] [(0, .ptr 0 0), (3, .ptr 5 0), (4, .ptr 6 0)] fun G => b0 (wp_seq (bh5 G (Q8 (E2 4 [0, 1, 31] (j8.lend (L6 b j dpL (List.cons_ne_nil _ _) (by assumption) (by omega)) [.no, .no, .row 3]) (E2 5 (rg 5) (hdr (j + 1) (nm b j dpL) (bF3 b (by omega) (by omega)) (by omega) (by omega)) Q7)) fz []) [0, 0, 0, 0, 12, 31, 0, 127] [0, 1, 2, 3, 4, 5, 6, 47, 55] [.box [.ref 1, iA (V4 b vs ars j).snd], dY b, dI vs, dI ars, dT bd, .box (pL 2), .box [iA 0, iA 0, .v (.slice none 0 0)], .tree (D.exprs (V4 b vs ars j).fst.kids), .box [iA (V4 b vs ars j).fst.kind, iA (V4 b vs ars j).fst.value, .tref 7]] [(0, .ptr 0 0), (3, .ptr 5 0), (4, .ptr 6 0), (5, .ptr 8 0)] fun G => b0 (wp_seq (wp_seq (l0 G (t0 2 [2, 3, 4, 7] (j8.lend (aZ8 vs ars bd ((J2 b (vs.length : Int) (ars.length : Int) (nm b j dpL).toNat (j + 1)).fst)) [.no, .no, .no, .tree])) [(14, bA (o6 vs.length ars.length (V4 b vs ars j).fst))] fun G => b0 (rcB (b := o6 vs.length ars.length (J2 b (vs.length : Int) (ars.length : Int) (nm b j dpL).toNat (j + 1)).fst) G (fun h0 => ?_) fun h0 => ?_)))))))
 ·refine wp_skip (b0 (wp_seq (i9 G (t0 2 (rg 5) (am1 b ((J2 b (vs.length : Int) (ars.length : Int) (nm b j dpL).toNat (j + 1)).snd) vs ars bd (by omega) (by omega))) [0, 1, 2, 3, 4, 6, 25] [.box [.ref 1, iA ((V4 b vs ars j).snd + 2)], dY b, dI vs, dI ars, dT bd, .box [iA (n4 b (vs.length : Int) (V4 b vs ars j).snd).kind, iA (n4 b (vs.length : Int) (V4 b vs ars j).snd).value, .tref 6], .tree (D.exprs (n4 b (vs.length : Int) (V4 b vs ars j).snd).kids)] [(4, .ptr 5 0)] fun G => b0 (wp_ret ?_)))); exact W4 (.agg [iA (n4 b (vs.length : Int) (J2 b (vs.length : Int) (ars.length : Int) (nm b j dpL).toNat (j + 1)).snd).kind, iA (n4 b (vs.length : Int) (J2 b (vs.length : Int) (ars.length : Int) (nm b j dpL).toNat (j + 1)).snd).value, .tref 6]) G [0, 1, 2, 3, 4, 6] (by show _ = AV.ren (nth [0, 1, 2, 3, 4, 6]) (.agg [iA (t5 b vs.length ars.length j).fst.kind, iA (t5 b vs.length ars.length j).fst.value, .tref 5]); rw [bI0 (by with_reducible assumption)] <;> rfl) (by show _ = mR [0, 1, 2, 3, 4, 6] [.box [.ref 1, iA (t5 b vs.length ars.length j).snd], dY b, dI vs, dI ars, dT bd, .tree (D.exprs (t5 b vs.length ars.length j).fst.kids)]; rw [bI0 (by with_reducible assumption)] <;> rfl)
 ·refine wp_seq (i9 G d9 (rg 8) [.box [.ref 1, iA (V4 b vs ars j).snd], dY b, dI vs, dI ars, dT bd, .box (pL 2), .box [iA (V4 b vs ars j).fst.kind, iA (V4 b vs ars j).fst.value, .tref 7], .tree (D.exprs (V4 b vs ars j).fst.kids)] [(0, .ptr 0 0), (3, .ptr 5 0), (4, .ptr 6 0)] fun G => b0 (wp_ret (n7 ?_))); exact W4 (.agg [iA (J2 b (vs.length : Int) (ars.length : Int) (nm b j dpL).toNat (j + 1)).fst.kind, iA (J2 b (vs.length : Int) (ars.length : Int) (nm b j dpL).toNat (j + 1)).fst.value, .tref 7]) G [0, 1, 2, 3, 4, 7] (by show _ = AV.ren (nth [0, 1, 2, 3, 4, 7]) (.agg [iA (t5 b vs.length ars.length j).fst.kind, iA (t5 b vs.length ars.length j).fst.value, .tref 5]); rw [bI1 (by with_reducible assumption)] <;> rfl) (by show _ = mR [0, 1, 2, 3, 4, 7] [.box [.ref 1, iA (t5 b vs.length ars.length j).snd], dY b, dI vs, dI ars, dT bd, .tree (D.exprs (t5 b vs.length ars.length j).fst.kids)]; rw [bI1 (by with_reducible assumption)] <;> rfl)
end Go.Proofs.YtmokkddidcmglaaGreat
