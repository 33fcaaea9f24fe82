/- Part 4: functions on the way, plain laws. Conditions: as said. -/
import Derived.Deep.LoopGhost
import Derived.IntWalk
import Derived.WalkSpells
import Derived.Lib.SliceRun
import Derived.Test.YtmokkddidcmglaaK1
import Derived.Test.YtmokkddidcmglaaK3
set_option maxRecDepth 100000
set_option maxHeartbeats 16000000
set_option linter.unusedVariables false
set_option linter.unusedSimpArgs false
open Bool renaming and_eq_true → bE8, eq_iff_iff → bH9, not_eq_false' → bG2, not_eq_true' → bF8
open Inhabited renaming default → bF3
open Int renaming mul_le_mul_of_nonneg_right → bI9
open List renaming all_eq_true → bF5, getD_eq_getElem?_getD → bF2, getElem?_append_left → bH1, getElem?_eq_getElem → bF0, getElem?_eq_none → bH2, getElem?_eq_some_iff → bF6, getElem_mem → bG3, length_cons → bH3, map_cons → bH5, mem_append → bG8, mem_cons → bI2, mem_cons_of_mem → bG0, mem_cons_self → bF7, mem_map → bI7, mem_of_getElem? → bE9, mem_singleton → bH4, range → bH0, take → bG7, take_of_length_le → bF9
open Nat renaming le_refl → bG4, le_trans → bH6, lt_or_ge → bH7, mul_le_mul_right → bI5, zero_add → bI4, zero_le → bI1
open Option renaming isSome_iff_exists → bI8, map_eq_some_iff → bF4
open True renaming intro → bF1

namespace Go.Proofs.Ytmokkddidcmglaa
open Go Go.RowKit
def pf {β : Type} (wr : Ac → Option β) : List Ac → Nat → (Nat → Bool) → β → β
 | [], _, _, v => v
 | a :: r, k, B, v => pf wr r (k + 1) B (match wr a with | some x => if B k then x else v | none => v)
theorem L3 {β : Type} {wr : Ac → Option β} {B B' : Nat → Bool} : ∀ {az : List Ac} {k : Nat} {v : β}, (∀ j a, az[j]? = some a → (wr a).isSome = true → B (k + j) = B' (k + j)) → pf wr az k B v = pf wr az k B' v
 | [], _, _, _ => rfl
 | a :: r, k, v, h => by
  simp only [pf]
  have h0 := h 0 a rfl
  have hr : ∀ j b, r[j]? = some b → (wr b).isSome = true → B (k + 1 + j) = B' (k + 1 + j) := fun j b hb hw => by
   have := h (j + 1) b (by simpa using hb) hw
   rw [show k + (j + 1) = k + 1 + j by omega] at this; exact this
  cases hw : wr a with
  | none => exact L3 hr
  | some x =>
   rw [hw] at h0
   simp only [Nat.add_zero, Option.isSome_some, forall_const] at h0
   rw [h0]
   exact L3 hr
theorem P4 {β : Type} {wr : Ac → Option β} {B : Nat → Bool} : ∀ {az : List Ac} {k : Nat} {v : β}, (∀ j a, az[j]? = some a → (wr a).isSome = true → B (k + j) = false) → pf wr az k B v = v
 | [], _, _, _ => rfl
 | a :: r, k, v, h => by
  simp only [pf]
  have h0 := h 0 a rfl
  have hr : ∀ j b, r[j]? = some b → (wr b).isSome = true → B (k + 1 + j) = false := fun j b hb hw => by
   have := h (j + 1) b (by simpa using hb) hw
   rw [show k + (j + 1) = k + 1 + j by omega] at this; exact this
  rw [P4 hr]
  cases hw : wr a with
  | none => rfl
  | some x =>
   rw [hw] at h0
   simp only [Nat.add_zero, Option.isSome_some, forall_const] at h0
   simp [h0]
theorem aA7 {β : Type} {wr : Ac → Option β} {B : Nat → Bool} : ∀ {az : List Ac} {k i : Nat} {v x : β} {a : Ac}, az[i]? = some a → wr a = some x → B (k + i) = true → (∀ j b, i < j → az[j]? = some b → (wr b).isSome = true → B (k + j) = false) → pf wr az k B v = x
 | [], _, _, _, _, _, h, _, _, _ => by simp at h
 | b :: r, k, 0, v, x, a, h, hw, hB, hn => by
  simp at h; subst h
  simp only [pf, hw]
  rw [Nat.add_zero] at hB
  rw [hB, if_pos rfl]
  refine P4 fun j c hc hs => ?_
  have := hn (j + 1) c (by omega) (by simpa using hc) hs
  rw [show k + (j + 1) = k + 1 + j by omega] at this; exact this
 | b :: r, k, i + 1, v, x, a, h, hw, hB, hn => by
  simp only [pf]
  refine aA7 (i := i) (by simpa using h) hw (by rw [show k + 1 + i = k + (i + 1) by omega]; exact hB) fun j c hj hc hs => ?_
  have := hn (j + 1) c (by omega) (by simpa using hc) hs
  rw [show k + (j + 1) = k + 1 + j by omega] at this; exact this
theorem af1 {β : Type} {wr : Ac → Option β} {B : Nat → Bool} (p : β → Prop) : ∀ {az : List Ac} {k : Nat} {v : β}, p v → (∀ j a x, az[j]? = some a → B (k + j) = true → wr a = some x → p x) → p (pf wr az k B v)
 | [], _, _, h, _ => h
 | a :: r, k, v, h, hs => by
  simp only [pf]
  refine af1 p ?_ fun j b x hb hB hw => hs (j + 1) b x (by simpa using hb) (by rw [show k + (j + 1) = k + 1 + j by omega]; exact hB) hw
  cases hw : wr a with
  | none => exact h
  | some x =>
   simp only
   split
   ·rename_i hB; exact hs 0 a x rfl (by simpa using hB) hw
   ·exact h
def as5 : List (Nat × It) → Nat → Option It
 | [], _ => none
 | (k, x) :: r, i => if i = k then some x else as5 r i
theorem ah3 (S : Nat → It) (i : Nat) : ∀ (l : List (Nat × It)), l6 S l i = match as5 l i with | some x => x | none => S i
 | [] => rfl
 | (k, x) :: r => by simp only [l6, as5]; split; rfl; exact ah3 S i r
theorem K1 {l : List (Nat × It)} {i : Nat} {x : It} (h : as5 l i = some x) : (i, x) ∈ l := by
 induction l with
 | nil => cases h
 | cons p r ih =>
  obtain ⟨k, y⟩ := p
  simp only [as5] at h
  split at h
  ·rename_i e; cases h; rw [e]; exact bF7
  ·exact bG0 _ (ih h)
def wrT (t : Nat) (a : Ac) : Option (Option AV) := if a.dst = some t then some (some a.t.res) else none
def wrS (i : Nat) (a : Ac) : Option It := as5 a.t.new i
def tmD (az : List Ac) (B : Nat → Bool) (tm : Nat → Option AV) : Nat → Option AV := fun t => pf (wrT t) az 0 B (tm t)
def sD (az : List Ac) (B : Nat → Bool) (S : Nat → It) : Nat → It := fun i => pf (wrS i) az 0 B (S i)
def bef (ms : List Nat) (j i : Nat) : Bool := (nth ms i).testBit j
def aP8 (ms : List Nat) (o : Oper) : Nat := o.after.foldl (fun s e => if Region.binds .any e then s ||| (2 ^ e.on ||| nth ms e.on) else s) 0
def aB1 (ms : List Nat) (l : List Oper) : Bool := (bH0 l.length).all fun i => match l[i]? with | some o => natEq (nth ms i) (aP8 ms o) | none => false
def V3 (a b : Ac) : Bool :=
 (match b.dst with | some t => memN t a.rt || (match a.dst with | some s => natEq s t | none => false) | none => false) ||
 b.t.new.any (fun p => memN p.1 a.ri || a.t.new.any fun q => natEq q.1 p.1)
def bp2 (ms : List Nat) (az : List Ac) : Bool :=
 (bH0 az.length).all fun i => (bH0 az.length).all fun j =>
  match az[i]?, az[j]? with
  | some a, some b => natEq i j || !V3 a b || (if decide (j < i) then bef ms j i else bef ms i j)
  | _, _ => false
def bi4 (S : Nat → It) (az : List Ac) (j : Nat) : Nat := match az.findSome? (wrS j) with
 | some x => knd x
 | none => knd (S j)
def a35 (ms : List Nat) (S : Nat → It) (az : List Ac) : Bool :=
 (bH0 az.length).all fun i =>
  match az[i]? with
  | some a => a.rk.all fun j => az.all (fun b => match wrS j b with | some x => natEq (knd x) (bi4 S az j) | none => true) && (natEq (knd (S j)) (bi4 S az j) || (bH0 i).any fun k => bef ms k i && match az[k]? with | some b => (wrS j b).isSome | none => false)
  | none => true
theorem aV2 {β : Type} {wr : Ac → Option β} {B : Nat → Bool} (p : β → Prop) : ∀ {az : List Ac} {k : Nat} {v : β}, (∀ (j : Nat) (a : Ac) (x : β), az[j]? = some a → wr a = some x → p x) → (p v ∨ ∃ (j : Nat) (a : Ac), az[j]? = some a ∧ (wr a).isSome = true ∧ B (k + j) = true) → p (pf wr az k B v)
 | [], _, _, _, h => by rcases h with h | ⟨j, a, h, _⟩; exact h; simp at h
 | a :: r, k, v, hs, h => by
  simp only [pf]
  refine aV2 p (fun j b x hb => hs (j + 1) b x (by simpa using hb)) ?_
  rcases h with h | ⟨j, b, h1, h2, h3⟩
  ·left
   cases hw : wr a with
   | none => exact h
   | some x =>
    simp only
    split
    ·exact hs 0 a x rfl hw
    ·exact h
  ·cases j with
   | zero =>
    left
    simp at h1; subst h1
    obtain ⟨x, hx⟩ := bI8.1 h2
    rw [hx]
    rw [Nat.add_zero] at h3
    simp only [h3, if_true]
    exact hs 0 _ x rfl hx
   | succ j =>
    right
    exact ⟨j, b, by simpa using h1, h2, by rw [show k + 1 + j = k + (j + 1) by omega]; exact h3⟩
theorem aU0 {ms : List Nat} {S : Nat → It} {az : List Ac} (h : a35 ms S az = true) {i : Nat} {a : Ac} (ha : az[i]? = some a) {j : Nat} (hj : j ∈ a.rk) {B : Nat → Bool} (hB : ∀ k, k < i → bef ms k i = true → B k = true) : knd (pf (wrS j) az 0 B (S j)) = bi4 S az j := by
 have hi := (bF6.1 ha).1
 have h1 := bF5.1 h i (List.mem_range.2 hi)
 rw [ha] at h1
 have h2 := bF5.1 h1 j hj
 simp only [bE8, Bool.or_eq_true] at h2
 refine aV2 (fun x => knd x = bi4 S az j) (fun q b x hb hx => ?_) ?_
 ·have := bF5.1 h2.1 b (bE9 hb)
  rw [hx] at this
  simpa [natEq] using this
 ·rcases h2.2 with h3 | h3
  ·left; simpa [natEq] using h3
  ·right
   obtain ⟨k, hk, h4⟩ := List.any_eq_true.1 h3
   rw [List.mem_range] at hk
   simp only [bE8] at h4
   cases hb : az[k]? with
   | none => rw [hb] at h4; cases h4.2
   | some b =>
    rw [hb] at h4
    exact ⟨k, b, hb, h4.2, by rw [bI4]; exact hB k hk h4.1⟩
def a77 (ms : List Nat) (n0 : Nat) (az : List Ac) : Bool :=
 (bH0 az.length).all fun i =>
  match az[i]? with
  | some a => (a.t.res.ids ++ a.t.new.map (·.1) ++ a.t.new.flatMap (fun p => p.2.ids)).all fun id => decide (id < n0) || natEq ((id - n0) / 8) i || bef ms ((id - n0) / 8) i
  | none => false
section
variable {P : Program} {ι : Type} {φ ψ : Nat → Prop} {w0 w w' : World} {F : ι → Rs} {ρ : Nat → Value} {S : Nat → It} {N n : Nat}
theorem ac5 {α β : Type} {f g : α → Option β} : ∀ {l : List α}, (∀ x ∈ l, f x = g x) → l.filterMap f = l.filterMap g
 | [], _ => rfl
 | a :: r, h => by rw [List.filterMap_cons, List.filterMap_cons, h a bF7, ac5 fun x hx => h x (bG0 _ hx)]
theorem ak7 {ops : List Oper} {H : K4} {tm tm' : Nat → Option AV} {i : Nat} {o : Oper} (h : ∀ t ∈ aB7 ops o, tm' t = tm t) : ao6 ops H tm' i o = ao6 ops H tm i o := by
 unfold ao6
 unfold aB7 at h
 cases hg : o.guard with
 | none => rfl
 | some q =>
  obtain ⟨j, want⟩ := q
  rw [hg] at h
  simp only at h ⊢
  cases hd : (ops[j]?).bind (·.dst) with
  | none => rfl
  | some t =>
   rw [hd] at h
   simp only at h ⊢
   rw [h t (by simp)]
theorem aY9 {dk : TypeId → Nat} {H : K4} {ops : List Oper} {i : Nat} {o : Oper} {tm tm' : Nat → Option AV} {S S' : Nat → It} {ac : Ac} {ob : List Prop} (h : opA P dk N ops H i o tm S n = some (ac, ob)) (ht : ∀ t ∈ ac.rt, tm' t = tm t) (hs : ∀ j ∈ ac.ri, S' j = S j) (hk : ∀ j ∈ ac.rk, knd (S' j) = knd (S j)) : opA P dk N ops H i o tm' S' n = some (ac, ob) := by
 unfold opA at h ⊢
 split at h
 case isFalse => cases h
 rename_i hd
 rw [if_pos hd]
 cases hw : ao6 ops H tm i o with
 | none => rw [hw] at h; cases h
 | some q =>
  obtain ⟨b, lq, rq⟩ := q
  rw [hw] at h
  cases b
  ·simp only at h
   cases h
   rw [ak7 (tm := tm) ht, hw]
  ·simp only at h
   cases hr : aq2 P dk H tm S n i o.op with
   | none => rw [hr] at h; cases h
   | some t =>
    rw [hr] at h
    simp only at h
    split at h
    case isFalse => cases h
    rename_i hf
    cases h
    simp only at ht hs hk
    rw [ak7 (tm := tm) fun t ht' => ht t (List.mem_append_right _ ht'), hw]
    have e1 : rtm tm' (opT o.op) = rtm tm (opT o.op) := by
     funext t
     unfold rtm
     split
     ·rename_i hm; exact ht t (List.mem_append_left _ (o4.1 hm))
     ·rfl
    have e2 : tch tm' o.op = tch tm o.op := by
     have e9 : M0 tm' (opT o.op) = M0 tm (opT o.op) := by
      unfold M0
      congr 1
      exact ac5 fun t ht' => ht t (List.mem_append_left _ ht')
     cases ho' : o.op <;> simp only [tch] <;> rw [← ho'] <;> first | rw [e1, e9] | exact e9
    have e8 : wk tm' o.op = wk tm o.op := by
     have e9 : M0 tm' (opT o.op) = M0 tm (opT o.op) := by
      unfold M0
      congr 1
      exact ac5 fun t ht' => ht t (List.mem_append_left _ ht')
     cases ho' : o.op <;> simp only [wk] <;> rw [← ho', e1, e9]
    have e3 : aq2 P dk H tm' S' n i o.op = aq2 P dk H tm S n i o.op := by
     unfold aq2
     cases hc : F9 H.calls i with
     | none =>
      simp only
      rw [e1, e2, e8, a42 (fun j hj => hs j (List.mem_append_left _ hj)) hk]
     | some q =>
      obtain ⟨c, τ⟩ := q
      simp only
      rw [e1, e2]
      congr 1
      funext j
      unfold rS
      split
      ·rename_i hm
       refine hs j ?_
       unfold aX3
       rw [hc]; exact o4.1 hm
      ·rfl
    have e4 : aP0 H tm' S' n i o.op = aP0 H tm S n i o.op := by
     unfold aP0
     cases hc : F9 H.calls i with
     | none => simp only; rw [e1]
     | some q =>
      obtain ⟨c, τ⟩ := q
      simp only
      rw [e1, e2]
      congr 1
      funext j
      unfold rS
      split
      ·rename_i hm
       refine hs j ?_
       unfold aX3
       rw [hc]; exact o4.1 hm
      ·rfl
    rw [e3, hr, e4]
    simp only
    rw [e2, e8, if_pos hf]
theorem bh2 {dk : TypeId → Nat} {H : K4} (hH : ∀ i c τ, F9 H.calls i = some (c, τ) → c.ok P) (hF : I6 H.facts) {ops : List Oper} {i : Nat} {o : Oper} {tm : Nat → Option AV} {a : Act} (hv : ∀ t x, tm t = some x → a.tmps[t]? = some (x.val ρ)) (M : i9 φ ψ w0 w (l7 F ρ S)) {ac : Ac} {obs : List Prop} (h : opA P dk N ops H i o tm S n = some (ac, obs)) (ho : r8 obs) (he : ac.eqs.1 = ac.eqs.2) (hw' : ac.eqw.1 = ac.eqw.2)
  (hmk : ∀ j ∈ ac.t.made, S j = .none) (hi : Inv S ρ ac.t.made)
  {Q : Exit → Act → World → Prop} {rest : List Oper} (hk : ∀ ρ' w', y7 ac.t.made ρ ρ' → i9 φ ψ w0 w' (l7 F ρ' (l6 S ac.t.new)) → wpList P ops.toArray Q rest (a.put o.dst (ac.t.res.val ρ')) w') : wpList P ops.toArray Q (o :: rest) a w := by
 unfold opA at h
 split at h
 case isFalse => cases h
 rename_i hd
 split at h
 case h_1 => cases h
 ·rename_i l r hw
  cases h
  refine aU5 (ae0 (ρ := ρ) hF hw hw' fun t y _ hy => hv t y hy) ?_
  exact hk ρ w (y7.refl _ _) (by simpa [bp8, l6] using M)
 ·rename_i l r hw
  split at h
  case h_1 => cases h
  rename_i t ht
  split at h
  case isFalse => cases h
  rename_i hf
  cases h
  simp only [bE8] at hf
  refine F4.wp (ae0 (ρ := ρ) hF hw hw' fun t y _ hy => hv t y hy) ?_
  refine (aH3 M hH hF (fun t y _ hy => hv t y hy) ht ho he hmk hi (fun j hj => ?_)).mono ?_
  ·obtain ⟨p, hp, rfl⟩ := bI7.1 hj
   have := bF5.1 hf.2 p hp
   simp only [Bool.or_eq_true] at this
   exact this.imp o4.1 o4.1
  ·rintro v w' ⟨ρ', p1, p2, rfl⟩
   exact hk ρ' w' p1 p2
theorem aU9 {dk : TypeId → Nat} {H : K4} {ops : List Oper} : ∀ (l : List Oper) (i n : Nat) {tm : List (Nat × AV)} {S : Nat → It} {r : RS}, N2 P dk N ops H l i tm S n = some r → r8 r.obs →
  r.acts.length = l.length ∧ (∀ t, v8 r.tm t = pf (wrT t) r.acts i (fun _ => true) (v8 tm t)) ∧ (∀ j, r.S j = pf (wrS j) r.acts i (fun _ => true) (S j)) ∧
  ∀ k o, l[k]? = some o → ∃ ac ob, r.acts[k]? = some ac ∧ r8 ob ∧ opA P dk N ops H (i + k) o (fun t => pf (wrT t) r.acts i (fun j => decide (j < i + k)) (v8 tm t)) (fun j => pf (wrS j) r.acts i (fun q => decide (q < i + k)) (S j)) (n + 8 * k) = some (ac, ob)
 | [], i, n, tm, S, r, h, _ => by cases h; exact ⟨rfl, fun _ => rfl, fun _ => rfl, fun k o h => by simp at h⟩
 | o :: l, i, n, tm, S, r, h, ho => by
  simp only [N2] at h
  split at h
  case h_1 => cases h
  rename_i ac ob h1
  split at h
  case h_1 => cases h
  rename_i s h2
  cases h
  simp only [r8.append] at ho
  obtain ⟨k1, k2, k3, k4⟩ := aU9 l (i + 1) (n + 8) h2 ho.2
  have eT : ∀ t, v8 (aO5 ac.dst ac.t.res tm) t = match wrT t ac with | some x => x | none => v8 tm t := fun t => by
   rw [aw5]
   simp only [au5, wrT]
   split <;> rfl
  have eS : ∀ j, l6 S ac.t.new j = match wrS j ac with | some x => x | none => S j := fun j => ah3 S j _
  refine ⟨by simp [k1], fun t => ?_, fun j => ?_, fun k o' hk => ?_⟩
  ·rw [k2 t, eT]; simp only [pf]; cases wrT t ac <;> rfl
  ·rw [k3 j, eS]; simp only [pf]; cases wrS j ac <;> rfl
  ·cases k with
   | zero =>
    simp at hk; subst hk
    refine ⟨ac, ob, rfl, ho.1, ?_⟩
    have e1 : (fun t => pf (wrT t) (ac :: s.acts) i (fun j => decide (j < i + 0)) (v8 tm t)) = v8 tm := by
     funext t; exact P4 fun j a _ _ => by simp
    have e2 : (fun j => pf (wrS j) (ac :: s.acts) i (fun q => decide (q < i + 0)) (S j)) = S := by
     funext j; exact P4 fun j a _ _ => by simp
    rw [e1, e2]; exact h1
   | succ k =>
    obtain ⟨ac', ob', m1, m2, m3⟩ := k4 k o' (by simpa using hk)
    refine ⟨ac', ob', by simpa using m1, m2, ?_⟩
    have hi : decide (i < i + (k + 1)) = true := by simp
    have e1 : (fun t => pf (wrT t) (ac :: s.acts) i (fun j => decide (j < i + (k + 1))) (v8 tm t)) = fun t => pf (wrT t) s.acts (i + 1) (fun j => decide (j < i + 1 + k)) (v8 (aO5 ac.dst ac.t.res tm) t) := by
     funext t
     rw [eT]
     simp only [pf, hi, if_true]
     rw [show i + (k + 1) = i + 1 + k by omega]
     cases wrT t ac <;> rfl
    have e2 : (fun j => pf (wrS j) (ac :: s.acts) i (fun q => decide (q < i + (k + 1))) (S j)) = fun j => pf (wrS j) s.acts (i + 1) (fun q => decide (q < i + 1 + k)) (l6 S ac.t.new j) := by
     funext j
     rw [eS]
     simp only [pf, hi, if_true]
     rw [show i + (k + 1) = i + 1 + k by omega]
     cases wrS j ac <;> rfl
    rw [e1, e2, show i + (k + 1) = i + 1 + k by omega, show n + 8 * (k + 1) = n + 8 + 8 * k by omega]
    exact m3
def be6 (l : List Oper) (B : Nat → Bool) : Prop := ∀ j o, l[j]? = some o → B j = true → ∀ e ∈ o.after, Region.binds .any e = true → B e.on = true
theorem aq5 {ms : List Nat} {o : Oper} {j : Nat} (h : (aP8 ms o).testBit j = true) : ∃ e ∈ o.after, Region.binds .any e = true ∧ (e.on = j ∨ bef ms j e.on = true) := by
 unfold aP8 at h
 rw [← Array.foldl_toList] at h
 have key : ∀ (es : List Edge) (s : Nat), (es.foldl (fun s e => if Region.binds .any e then s ||| (2 ^ e.on ||| nth ms e.on) else s) s).testBit j = true → s.testBit j = true ∨ ∃ e ∈ es, Region.binds .any e = true ∧ (e.on = j ∨ bef ms j e.on = true) := by
  intro es
  induction es with
  | nil => intro s h; exact .inl h
  | cons e r ih =>
   intro s h
   simp only [List.foldl_cons] at h
   rcases ih _ h with h1 | ⟨e', he', h2⟩
   ·split at h1
    ·rename_i hb
     simp only [Nat.testBit_or, Bool.or_eq_true, Nat.testBit_two_pow, decide_eq_true_eq] at h1
     rcases h1 with h1 | h1 | h1
     ·exact .inl h1
     ·exact .inr ⟨e, bF7, hb, .inl h1⟩
     ·exact .inr ⟨e, bF7, hb, .inr h1⟩
    ·exact .inl h1
   ·exact .inr ⟨e', bG0 _ he', h2⟩
 rcases key _ _ h with h1 | ⟨e, he, h2⟩
 ·simp at h1
 ·exact ⟨e, by simpa using he, h2⟩
theorem au0 {ms : List Nat} {l : List Oper} (hm : aB1 ms l = true) (hb : Q8 l.toArray = true) {B : Nat → Bool} (hc : be6 l B) : ∀ i, i < l.length → B i = true → ∀ j, bef ms j i = true → B j = true := by
 intro i
 induction i using Nat.strongRecOn with
 | _ i ih =>
  intro hi hB j hj
  have h1 := bF5.1 hm i (List.mem_range.2 hi)
  rw [bF0 hi] at h1
  simp only [natEq, beq_iff_eq] at h1
  unfold bef at hj
  rw [h1] at hj
  obtain ⟨e, he, h2, h3⟩ := aq5 hj
  have h4 := hc i _ (bF0 hi) hB e he h2
  have h5 := Y5 hb (show i < l.toArray.size by simpa using hi) (show l.toArray[i]? = some l[i] by simp [hi]) he h2
  rcases h3 with rfl | h3
  ·exact h4
  ·exact ih e.on h5 (by omega) h4 j h3
theorem a18 {ms : List Nat} {l : List Oper} (hm : aB1 ms l = true) (hb : Q8 l.toArray = true) {B : Nat → Bool} (hc : be6 l B) {i : Nat} {o : Oper} (ho : l[i]? = some o) (hr : ∀ e ∈ o.after, Region.binds .any e = true → B e.on = true) {j : Nat} (hj : bef ms j i = true) : B j = true := by
 have hi := (bF6.1 ho).1
 have h1 := bF5.1 hm i (List.mem_range.2 hi)
 rw [ho] at h1
 simp only [natEq, beq_iff_eq] at h1
 unfold bef at hj
 rw [h1] at hj
 obtain ⟨e, he, h2, h3⟩ := aq5 hj
 have h5 := Y5 hb (show i < l.toArray.size by simpa using hi) (show l.toArray[i]? = some o by simpa using ho) he h2
 rcases h3 with rfl | h3
 ·exact hr e he h2
 ·exact au0 hm hb hc e.on (by omega) (hr e he h2) j h3
end
section
variable {P : Program} {ι : Type} {φ ψ : Nat → Prop} {w0 w w' : World} {F : ι → Rs} {ρ : Nat → Value} {S : Nat → It} {N m n : Nat} {ρ0 : Nat → Value}
theorem aM2 {l : List Oper} {Q : Exit → Act → World → Prop} (I : Array Bool → Act → World → Prop) (hb : Q8 l.toArray = true)
  (step : ∀ listed a w, I listed a w → ∀ i o, l[i]? = some o → listed.getD i true = false → (∀ e ∈ o.after, Region.binds .any e = true → listed.getD e.on false = true) →
   ∀ Q' : Exit → Act → World → Prop, (∀ a w, I (listed.setIfInBounds i true) a w → Q' .normal a w) → wpList P l.toArray Q' [o] a w)
  (done : ∀ listed a w, I listed a w → (∀ j, j < l.length → listed.getD j true = true) → Q .normal a w) :
  ∀ (fuel : Nat) (listed : Array Bool) (a : Act) (w : World), listed.size = l.toArray.size → listed.toList.count false = fuel → I listed a w → wpAny P .any l.toArray Q fuel listed a w := by
 have hfin : ∀ (listed : Array Bool) (a : Act) (w : World), listed.size = l.toArray.size → Region.ready .any l.toArray listed = [] → I listed a w → Q .normal a w := by
  intro listed a w hsz hr hI
  refine done listed a w hI fun j hj => ?_
  cases hl : listed.getD j true
  ·exact absurd hr (al2 hb hsz j (by simpa using hj) hl)
  ·rfl
 intro fuel
 induction fuel with
 | zero =>
  intro listed a w hsz hc hI
  have hr : Region.ready .any l.toArray listed = [] := by
   rw [List.eq_nil_iff_forall_not_mem]
   intro j hj
   have := F6 (mem_ready.1 hj).1
   omega
  exact ⟨hr, hfin listed a w hsz hr hI⟩
 | succ f ih =>
  intro listed a w hsz hc hI
  refine ⟨fun hr => hfin listed a w hsz hr hI, fun i hi => ?_⟩
  obtain ⟨h1, o, ho, h2⟩ := mem_ready.1 hi
  have ho' : l[i]? = some o := by simpa using ho
  have hcl := F6 h1
  have hs := step listed a w hI i o ho' h1 h2 (fun e a w => e = .normal ∧ I (listed.setIfInBounds i true) a w) fun a w h => ⟨rfl, h⟩
  unfold wpOp
  rw [ho]
  simp only
  unfold wpList at hs
  split
  ·rename_i hw
   rw [if_pos hw] at hs
   rcases hs with hs | ⟨_, a, w, he, _⟩
   ·exact .inl (ah1 (fun _ _ _ h => h.1) (Oper.wp_mono (fun a' w' h => ih _ a' w' (by simpa using hsz) (by omega) h.2) hs))
   ·cases he
  ·rename_i hw
   rw [if_neg hw] at hs
   exact ih _ _ _ (by simpa using hsz) (by omega) hs.2
theorem ao4 {id : Nat} {l : List Oper} {Q : Exit → Act → World → Prop} {a : Act} {w : World} (I : Array Bool → Act → World → Prop) (hm : P.follows .mixedOrders = true) (hb : Q8 l.toArray = true)
  (h0 : I (Array.replicate l.length false) a w.drew)
  (step : ∀ listed a w, I listed a w → ∀ i o, l[i]? = some o → listed.getD i true = false → (∀ e ∈ o.after, Region.binds .any e = true → listed.getD e.on false = true) →
   ∀ Q' : Exit → Act → World → Prop, (∀ a w, I (listed.setIfInBounds i true) a w → Q' .normal a w) → wpList P l.toArray Q' [o] a w)
  (done : ∀ listed a w, I listed a w → (∀ j, j < l.length → listed.getD j true = true) → Q .normal a w) : (Code.region id l.toArray true).wp P Q a w :=
 wp_region_any hm (aM2 I hb step done _ _ _ _ (by simp) (by simp) (by simpa using h0))
def RI (φ ψ : Nat → Prop) (w0 : World) (F : ι → Rs) (N m : Nat) (ρ0 : Nat → Value) (l : List Oper) (az : List Ac) (tm : Nat → Option AV) (S : Nat → It) (listed : Array Bool) (a : Act) (w : World) : Prop :=
 listed.size = l.length ∧ be6 l (fun j => listed.getD j false) ∧ ∃ ρ, (∀ i, i < m → ρ i = ρ0 i) ∧ a.tmps.size = N ∧ a.defers = [] ∧ (∀ t x, tmD az (fun j => listed.getD j false) tm t = some x → a.tmps[t]? = some (x.val ρ)) ∧ i9 φ ψ w0 w (l7 F ρ (sD az (fun j => listed.getD j false) S))
theorem aO9 {ms : List Nat} {az : List Ac} (h : bp2 ms az = true) {i j : Nat} {a b : Ac} (ha : az[i]? = some a) (hb : az[j]? = some b) (hij : i ≠ j) (hm : V3 a b = true) : (j < i → bef ms j i = true) ∧ (i < j → bef ms i j = true) := by
 have hi := (bF6.1 ha).1
 have hj := (bF6.1 hb).1
 have h1 := bF5.1 (bF5.1 h i (List.mem_range.2 hi)) j (List.mem_range.2 hj)
 rw [ha, hb] at h1
 have hne : natEq i j = false := by simp [natEq, hij]
 simp only [hne, hm, Bool.not_true, Bool.false_or] at h1
 constructor
 ·intro hlt; rw [if_pos (by simpa using hlt)] at h1; exact h1
 ·intro hlt; rw [if_neg (by simp; omega)] at h1; exact h1
theorem aV9 {ms : List Nat} {n0 : Nat} {az : List Ac} (h : a77 ms n0 az = true) {i : Nat} {a : Ac} (ha : az[i]? = some a) : ∀ id, (id ∈ a.t.res.ids ∨ id ∈ a.t.new.map (·.1) ∨ ∃ p ∈ a.t.new, id ∈ p.2.ids) → id < n0 ∨ (id - n0) / 8 = i ∨ bef ms ((id - n0) / 8) i = true := by
 intro id hid
 have hi := (bF6.1 ha).1
 have h1 := bF5.1 h i (List.mem_range.2 hi)
 rw [ha] at h1
 have h2 := bF5.1 h1 id (by
  rcases hid with h | h | ⟨p, hp, h⟩
  ·exact List.mem_append_left _ (List.mem_append_left _ h)
  ·exact List.mem_append_left _ (List.mem_append_right _ h)
  ·exact List.mem_append_right _ (List.mem_flatMap.2 ⟨p, hp, h⟩))
 simp only [Bool.or_eq_true, decide_eq_true_eq, natEq, beq_iff_eq] at h2
 rcases h2 with (h2 | h2) | h2
 ·exact .inl h2
 ·exact .inr (.inl h2)
 ·exact .inr (.inr h2)
theorem ay7 {dk : TypeId → Nat} {H : K4} (hH : ∀ i c τ, F9 H.calls i = some (c, τ) → c.ok P) (hF : I6 H.facts) {l : List Oper} {id : Nat} {Q : Exit → Act → World → Prop} {tm : List (Nat × AV)} {a : Act} {wr : World} (I0 : Inn φ ψ w0 F N m ρ0 n ρ (v8 tm) S a wr) {r : RS} (hrun : N2 P dk N l H l 0 tm S n = some r) (ho : r8 r.obs) (heq : r.acts.map (·.eqs.1) = r.acts.map (·.eqs.2)) (hew : r.acts.map (·.eqw.1) = r.acts.map (·.eqw.2))
  (ms : List Nat) (hm : P.follows .mixedOrders = true) (hb : Q8 l.toArray = true) (hms : aB1 ms l = true) (hord : bp2 ms r.acts = true) (hment : a77 ms n r.acts = true) (hweak : a35 ms S r.acts = true)
  (done : ∀ ρ' a' w' n', Inn φ ψ w0 F N m ρ0 n' ρ' (v8 r.tm) r.S a' w' → Q .normal a' w') : (Code.region id l.toArray true).wp P Q a wr := by
 obtain ⟨hlen, hfT, hfS, hat⟩ := aU9 l 0 n hrun ho
 have hmt : ∀ (i : Nat) ac, r.acts[i]? = some ac → ∀ t b, b.dst = some t → t ∈ ac.rt → V3 ac b = true := fun i ac _ t b hb ht => by
  simp [V3, hb, o4.2 ht]
 have hmd : ∀ ac b t, ac.dst = some t → b.dst = some t → V3 ac b = true := fun ac b t h1 h2 => by
  simp [V3, h1, h2, natEq]
 have hms' : ∀ (ac b : Ac) (j : Nat), j ∈ ac.ri → j ∈ b.t.new.map (·.1) → V3 ac b = true := fun ac b j h1 h2 => by
  obtain ⟨p, hp, rfl⟩ := bI7.1 h2
  unfold V3
  have : b.t.new.any (fun p => memN p.1 ac.ri || ac.t.new.any fun q => natEq q.1 p.1) = true := List.any_eq_true.2 ⟨p, hp, by simp [o4.2 h1]⟩
  rw [this]; simp
 have hmn : ∀ (ac b : Ac) (j : Nat), j ∈ ac.t.new.map (·.1) → j ∈ b.t.new.map (·.1) → V3 ac b = true := fun ac b j h1 h2 => by
  obtain ⟨p, hp, rfl⟩ := bI7.1 h2
  obtain ⟨q, hq, e⟩ := bI7.1 h1
  unfold V3
  have : b.t.new.any (fun p => memN p.1 ac.ri || ac.t.new.any fun q => natEq q.1 p.1) = true := List.any_eq_true.2 ⟨p, hp, by
   have : ac.t.new.any (fun q => natEq q.1 p.1) = true := List.any_eq_true.2 ⟨q, hq, by simp [natEq, e]⟩
   rw [this]; simp⟩
  rw [this]; simp
 refine ao4 (RI φ ψ w0 F N m ρ0 l r.acts (v8 tm) S) hm hb ?_ ?_ ?_
 ·refine ⟨by simp, fun j o _ hj => ?_, ρ, I0.old, I0.size, I0.defs, fun t x hx => ?_, ?_⟩
  ·have hj' : (Array.replicate l.length false).getD j false = true := hj
   rw [getD_replicate_false] at hj'; cases hj'
  ·refine I0.tmv t x ?_
   rw [← hx]
   exact (P4 fun j b _ _ => getD_replicate_false _ _).symm
  ·have e : sD r.acts (fun j => (Array.replicate l.length false).getD j false) S = S := by
    funext j; exact P4 fun j b _ _ => getD_replicate_false _ _
   rw [e]; exact I0.mem.drew
 ·rintro listed a w ⟨hsz, hdn, ρ, hold, hN, hdf, hv, M⟩ i o hoi hun hdep Q' hQ
  generalize hB : (fun j => listed.getD j false) = B at *
  have hBj : ∀ j, B j = listed.getD j false := fun j => by rw [← hB]
  have hil := (bF6.1 hoi).1
  have hBi : B i = false := by
   rw [hBj, ← Z5 (by omega)]; exact hun
  obtain ⟨ac, ob, hac, hob, hop⟩ := hat i o hoi
  simp only [bI4] at hop
  have heqi : ac.eqs.1 = ac.eqs.2 := by
   have := congrArg (·[i]?) heq
   simpa [hac] using this
  have hewi : ac.eqw.1 = ac.eqw.2 := by
   have := congrArg (·[i]?) hew
   simpa [hac] using this
  obtain ⟨hdst, hdN, hfine⟩ := aA9 hop
  obtain ⟨hf1, hf2, hf3⟩ := U0 hfine
  have hdep' : ∀ e ∈ o.after, Region.binds .any e = true → B e.on = true := fun e he hbi => by rw [hBj]; exact hdep e he hbi
  have ahead : ∀ j, bef ms j i = true → B j = true := fun j hj => a18 hms hb hdn hoi hdep' hj
  have behind : ∀ j, j < l.length → bef ms i j = true → B j = false := fun j hjl hj => by
   cases h : B j
   ·rfl
   ·have := au0 hms hb hdn j hjl h i hj
    rw [hBi] at this; cases this
  have hagree : ∀ (j : Nat) b, r.acts[j]? = some b → V3 ac b = true → B j = decide (j < i) := fun j b hj hmm => by
   have hjl : j < l.length := by have := (bF6.1 hj).1; omega
   rcases Nat.lt_trichotomy j i with h | h | h
   ·rw [ahead j ((aO9 hord hac hj (by omega) hmm).1 h)]; simp [h]
   ·subst h; rw [hBi]; simp
   ·rw [behind j hjl ((aO9 hord hac hj (by omega) hmm).2 h)]
    have : ¬ j < i := by omega
    simp [this]
  have hop2 := aY9 hop (tm' := tmD r.acts B (v8 tm)) (S' := sD r.acts B S) (fun t ht => L3 fun j b hj hw => by
    rw [bI4]
    refine hagree j b hj (hmt i ac hac t b ?_ ht)
    unfold wrT at hw
    split at hw
    ·assumption
    ·cases hw)
   (fun q hq => L3 fun j b hj hw => by
    rw [bI4]
    obtain ⟨x, hx⟩ := bI8.1 hw
    exact hagree j b hj (hms' ac b q hq (bI7.2 ⟨_, K1 hx, rfl⟩)))
   (fun q hq => by
    show knd (pf (wrS q) r.acts 0 B (S q)) = _
    rw [aU0 hweak hac hq fun k _ hk => ahead k hk, aU0 hweak hac hq fun k hk _ => by simpa using hk])
  have hrange : ∀ id, n + 8 * i ≤ id → id < n + 8 * i + 8 → (id - n) / 8 = i := fun id h1 h2 => by omega
  have hmk : ∀ j ∈ ac.t.made, sD r.acts B S j = .none := fun j hj => by
   obtain ⟨g1, g2⟩ := hf2 j hj
   have e : sD r.acts B S j = S j := P4 fun k b hk hw => by
    rw [bI4]
    obtain ⟨x, hx⟩ := bI8.1 hw
    have hkl : k < l.length := by have := (bF6.1 hk).1; omega
    rcases aV9 hment hk j (.inr (.inl (bI7.2 ⟨_, K1 hx, rfl⟩))) with h | h | h
    ·omega
    ·rw [hrange j g1 g2] at h; subst h; exact hBi
    ·rw [hrange j g1 g2] at h; exact behind k hkl h
   rw [e]; exact (I0.bd j).2 (by omega)
  have hnot : ∀ (k : Nat) b, r.acts[k]? = some b → B k = true → ∀ id, (id ∈ b.t.res.ids ∨ id ∈ b.t.new.map (·.1) ∨ ∃ p ∈ b.t.new, id ∈ p.2.ids) → id ∉ ac.t.made := fun k b hk hBk id hid hm => by
   obtain ⟨g1, g2⟩ := hf2 id hm
   have hkl : k < l.length := by have := (bF6.1 hk).1; omega
   rcases aV9 hment hk id hid with h | h | h
   ·omega
   ·rw [hrange id g1 g2] at h; subst h; rw [hBi] at hBk; cases hBk
   ·rw [hrange id g1 g2] at h; rw [behind k hkl h] at hBk; cases hBk
  have hitem : ∀ j, ∀ id ∈ (sD r.acts B S j).ids, id ∉ ac.t.made := fun j => by
   refine af1 (fun x : It => ∀ id ∈ x.ids, id ∉ ac.t.made) (fun id hid hm => ?_) fun k b x hk hBk hw id hid => ?_
   ·have := (I0.bd j).1 id hid; have := (hf2 id hm).1; omega
   ·rw [bI4] at hBk
    exact hnot k b hk hBk id (.inr (.inr ⟨_, K1 hw, hid⟩))
  have htm : ∀ t x, tmD r.acts B (v8 tm) t = some x → ∀ id ∈ x.ids, id ∉ ac.t.made := fun t => by
   refine af1 (fun y : Option AV => ∀ x, y = some x → ∀ id ∈ x.ids, id ∉ ac.t.made) (fun x hx id hid hm => ?_) fun k b y hk hBk hw x hx id hid => ?_
   ·have := I0.tmi t x hx id hid; have := (hf2 id hm).1; omega
   ·rw [bI4] at hBk
    unfold wrT at hw
    split at hw
    ·cases hw; cases hx
     exact hnot k b hk hBk id (.inl hid)
    ·cases hw
  have hinv : Inv (sD r.acts B S) ρ ac.t.made := fun ρ' ha j => by
   refine It.res_congr _ (fun id hid => ha id (hitem j id hid)) ?_
   by_cases hj : j ∈ ac.t.made
   ·exact .inl (hmk j hj)
   ·exact .inr (.inr (ha j hj))
  refine bh2 hH hF hv M hop2 hob heqi hewi hmk hinv fun ρ' w' ha M' => ?_
  refine hQ _ _ ?_
  have hB' : ∀ j, (listed.setIfInBounds i true).getD j false = if j = i then true else B j := fun j => by
   by_cases e : j = i
   ·subst e
    have : j < listed.size := by omega
    simp [this]
   ·rw [if_neg e, getD_set_ne false (fun h => e h.symm), hBj]
  have hBe : (fun j => (listed.setIfInBounds i true).getD j false) = fun j => if j = i then true else B j := funext hB'
  have later : ∀ (j : Nat) b, i < j → r.acts[j]? = some b → V3 ac b = true → (if j = i then true else B j) = false := fun j b hij hj hmm => by
   have hjl : j < l.length := by have := (bF6.1 hj).1; omega
   rw [if_neg (by omega)]
   exact behind j hjl ((aO9 hord hac hj (by omega) hmm).2 hij)
  have eT : tmD r.acts (fun j => if j = i then true else B j) (v8 tm) = au5 ac.dst ac.t.res (tmD r.acts B (v8 tm)) := by
   funext t
   simp only [au5]
   by_cases e : ac.dst = some t
   ·rw [if_pos e]
    refine aA7 (i := i) hac (by simp [wrT, e]) (by simp) fun j b hij hj hw => ?_
    rw [bI4]
    refine later j b hij hj (hmd ac b t e ?_)
    unfold wrT at hw
    split at hw
    ·assumption
    ·cases hw
   ·rw [if_neg e]
    refine L3 fun j b hj hw => ?_
    have : j ≠ i := fun h => by
     subst h
     rw [hac] at hj; cases hj
     simp [wrT, e] at hw
    simp [this]
  have eS : sD r.acts (fun j => if j = i then true else B j) S = l6 (sD r.acts B S) ac.t.new := by
   funext q
   rw [ah3]
   cases hx : as5 ac.t.new q with
   | some x =>
    refine aA7 (i := i) hac hx (by simp) fun j b hij hj hw => ?_
    rw [bI4]
    obtain ⟨y, hy⟩ := bI8.1 hw
    exact later j b hij hj (hmn ac b q (bI7.2 ⟨_, K1 hx, rfl⟩) (bI7.2 ⟨_, K1 hy, rfl⟩))
   | none =>
    refine L3 fun j b hj hw => ?_
    have : j ≠ i := fun h => by
     subst h
     rw [hac] at hj; cases hj
     unfold wrS at hw
     rw [hx] at hw; cases hw
    simp [this]
  refine ⟨by simpa using hsz, ?_, ρ', fun j hj => (ha j fun hm => by have := (hf2 j hm).1; have := I0.le; omega).trans (hold j hj), (aG8 _ _ _).trans hN, (aG9 _ _ _).trans hdf, ?_, ?_⟩
  ·rw [hBe]
   intro j oj hj hBj' e he hbi
   show (if e.on = i then true else B e.on) = true
   by_cases e1 : e.on = i
   ·simp [e1]
   ·rw [if_neg e1]
    by_cases e2 : j = i
    ·subst e2
     rw [hoi] at hj; cases hj
     exact hdep' e he hbi
    ·simp only [if_neg e2] at hBj'
     exact hdn j oj hj hBj' e he hbi
  ·rw [hBe, eT, hdst]
   intro t x hx
   rw [a66 (by rw [hN]; exact hdN)]
   simp only [au5] at hx
   split
   ·rename_i e; rw [if_pos e] at hx; cases hx; rfl
   ·rename_i e
    rw [if_neg e] at hx
    rw [hv t x hx, AV.val_congr x fun id hid => ha id (htm t x hx id hid)]
  ·rw [hBe, eS]; exact M'
 ·rintro listed a w ⟨hsz, hdn, ρ, hold, hN, hdf, hv, M⟩ hall
  have hall' : ∀ j, j < l.length → listed.getD j false = true := fun j hj => by rw [← Z5 (by omega)]; exact hall j hj
  have eT : tmD r.acts (fun j => listed.getD j false) (v8 tm) = v8 r.tm := by
   funext t
   rw [hfT t]
   refine L3 fun j b hj _ => ?_
   rw [bI4]
   exact hall' j (by have := (bF6.1 hj).1; omega)
  have eS : sD r.acts (fun j => listed.getD j false) S = r.S := by
   funext q
   rw [hfS q]
   refine L3 fun j b hj _ => ?_
   rw [bI4]
   exact hall' j (by have := (bF6.1 hj).1; omega)
  have hids : ∀ (k : Nat) b, r.acts[k]? = some b → ∀ id, (id ∈ b.t.res.ids ∨ id ∈ b.t.new.map (·.1) ∨ ∃ p ∈ b.t.new, id ∈ p.2.ids) → id < n + 8 * l.length := fun k b hk id hid => by
   have hkl : k < l.length := by have := (bF6.1 hk).1; omega
   obtain ⟨o, ho'⟩ : ∃ o, l[k]? = some o := ⟨_, bF0 hkl⟩
   obtain ⟨ac, ob, hac, _, hop⟩ := hat k o ho'
   rw [hk] at hac; cases hac
   obtain ⟨_, _, hfine⟩ := aA9 hop
   obtain ⟨hf1, hf2, hf3⟩ := U0 hfine
   rcases hid with h | h | ⟨p, hp, h⟩
   ·have := hf3 id h; omega
   ·obtain ⟨p, hp, rfl⟩ := bI7.1 h
    have := (hf1 p hp).1; omega
   ·have := (hf1 p hp).2 id h; omega
  refine done ρ a w (n + 8 * l.length) ⟨hN, hdf, by rw [← eT]; exact hv, fun t x hx => ?_, fun j => ?_, by rw [← eS]; exact M, by have := I0.le; omega, hold⟩
  ·rw [hfT t] at hx
   revert x
   refine af1 (fun y : Option AV => ∀ x, y = some x → ∀ id ∈ x.ids, id < n + 8 * l.length) (fun x hx id hid => ?_) fun k b y hk _ hw x hx id hid => ?_
   ·have := I0.tmi t x hx id hid; omega
   ·unfold wrT at hw
    split at hw
    ·cases hw; cases hx
     exact hids k b hk id (.inl hid)
    ·cases hw
  ·refine ⟨?_, fun hj => ?_⟩
   ·rw [hfS j]
    refine af1 (fun x : It => ∀ id ∈ x.ids, id < n + 8 * l.length) (fun id hid => ?_) fun k b x hk _ hw id hid => ?_
    ·have := (I0.bd j).1 id hid; omega
    ·exact hids k b hk id (.inr (.inr ⟨_, K1 hw, hid⟩))
   ·rw [hfS j, P4 fun k b hk hw => ?_]
    ·exact (I0.bd j).2 (by omega)
    ·obtain ⟨x, hx⟩ := bI8.1 hw
     have := hids k b hk j (.inr (.inl (bI7.2 ⟨_, K1 hx, rfl⟩)))
     omega
end
def t7 {ι : Type} (φ ψ : Nat → Prop) (w0 : World) (F : ι → Rs) (N m : Nat) (ρ0 ρ : Nat → Value) (S : List It) (tm : List (Nat × AV)) (a : Act) (w : World) : Prop := Inn φ ψ w0 F N m ρ0 S.length ρ (v8 tm) (n5 S) a w
def wfB (S : List It) (tm : List (Nat × AV)) : Bool := S.all (fun x => R9 S.length x.ids) && tm.all (fun p => R9 S.length p.2.ids)
def bv6 (m : Nat) (js : List Nat) : Bool := (bH0 m).all fun i => natEq (nth js i) i && decide (i < js.length)
def X1 (m : Nat) (js : List Nat) (S : List It) (tm : List (Nat × AV)) : Bool := nodupB js && natEq js.length S.length && wfB S tm && bv6 m js
section
variable {P : Program} {ι : Type} {φ ψ : Nat → Prop} {w0 w w' : World} {F : ι → Rs} {ρ ρ0 : Nat → Value} {N m n : Nat} {S : List It} {tm : List (Nat × AV)} {a : Act} {Q : Exit → Act → World → Prop}
theorem aq8 : ∀ {tm : List (Nat × AV)} {t : Nat} {x : AV}, v8 tm t = some x → (t, x) ∈ tm
 | [], _, _, h => by cases h
 | (k, y) :: r, t, x, h => by
  simp only [v8, natEq, beq_iff_eq] at h
  split at h
  ·rename_i e; subst e; cases h; exact bF7
  ·exact bG0 _ (aq8 h)
theorem ac2 {l : List It} {i : Nat} (h : i < l.length) : n5 l i = l[i] := by simp [n5, bF2, h]
theorem s9 {l : List It} {i : Nat} (h : l.length ≤ i) : n5 l i = .none := by simp [n5, bF2, h]
theorem bl5 {S : List It} {tm : List (Nat × AV)} (h : wfB S tm = true) : (∀ j, (∀ id ∈ (n5 S j).ids, id < S.length) ∧ (S.length ≤ j → n5 S j = .none)) ∧ ∀ t x, v8 tm t = some x → ∀ id ∈ x.ids, id < S.length := by
 simp only [wfB, bE8] at h
 refine ⟨fun j => ⟨fun id hid => ?_, fun hj => s9 hj⟩, fun t x hx id hid => ?_⟩
 ·rcases bH7 j S.length with hj | hj
  ·rw [ac2 hj] at hid
   exact D8 (bF5.1 h.1 _ (bG3 hj)) id hid
  ·rw [s9 hj] at hid; cases hid
 ·exact D8 (bF5.1 h.2 _ (aq8 hx)) id hid
theorem Inn.sel {tf : Nat → Option AV} {Sf : Nat → It} (I : Inn φ ψ w0 F N m ρ0 n ρ tf Sf a w) (js : List Nat) (S1 : List It) (tm1 : List (Nat × AV)) (hb : X1 m js S1 tm1 = true) (hS : js.map Sf = S1.map (It.ren (nth js))) (ht : (tm1.map (·.1)).map tf = tm1.map fun p => some (p.2.ren (nth js))) :
  t7 φ ψ w0 F N m ρ0 (fun i => ρ (nth js i)) S1 tm1 a w := by
 simp only [X1, bE8, natEq, beq_iff_eq] at hb
 obtain ⟨⟨⟨hnd, hl⟩, hwf⟩, hkeep⟩ := hb
 have hn := aq4 hnd
 obtain ⟨b1, b2⟩ := bl5 hwf
 have hk : ∀ i, i < m → nth js i = i ∧ i < js.length := fun i hi => by
  have := bF5.1 hkeep i (List.mem_range.2 hi)
  simpa [natEq] using this
 refine ⟨I.size, I.defs, fun t x hx => ?_, b2, b1, ?_, ?_, fun i hi => ?_⟩
 ·obtain ⟨i, hi⟩ := List.mem_iff_getElem?.1 (aq8 hx)
  have h1 := congrArg (·[i]?) ht
  simp only [List.getElem?_map, hi, Option.map_some] at h1
  rw [I.tmv t _ (Option.some.inj h1), AV.val_ren]
 ·refine I.mem.map (fun k : ι ⊕ Nat => (match k with | .inl i => some (.inl i) | .inr i => if i < js.length then some (.inr (nth js i)) else none : Option (ι ⊕ Nat))) ?_ ?_
  ·intro k k' x h1 h2
   match k, k' with
   | .inl i, .inl i' => simp at h1 h2; rw [← h1] at h2; simpa using h2.symm
   | .inl i, .inr j => simp only at h1 h2; cases h1; split at h2 <;> simp at h2
   | .inr j, .inl i => simp only at h1 h2; cases h2; split at h1 <;> simp at h1
   | .inr j, .inr j' =>
    simp at h1 h2
    obtain ⟨f1, f2⟩ := h1
    obtain ⟨g1, g2⟩ := h2
    rw [← f2] at g2
    have hj := Sum.inr.inj g2
    have e1 := bF0 f1
    have e2 := bF0 g1
    rw [D3 e2, D3 e1] at hj
    have := (List.getElem?_inj f1 hn).1 (e1.trans (by rw [← hj]; exact e2.symm))
    rw [this]
  ·intro k
   match k with
   | .inl i => exact .inl ⟨_, rfl, rfl⟩
   | .inr i =>
    by_cases hlt : i < js.length
    ·refine .inl ⟨.inr (nth js i), by simp [hlt], ?_⟩
     have h1 := congrArg (·[i]?) hS
     have hlt' : i < S1.length := by omega
     simp only [List.getElem?_map, bF0 hlt, bF0 hlt', Option.map_some, Option.some.injEq] at h1
     simp only [l7]
     rw [ac2 hlt', D3 (bF0 hlt), h1, ← It.res_ren, D3 (bF0 hlt)]
    ·refine .inr ?_
     simp only [l7]
     rw [s9 (by omega)]
     rfl
 ·rcases bH7 S1.length m with h | h
  ·have := (hk S1.length h).2; omega
  ·exact h
 ·rw [(hk i hi).1]; exact I.old i hi
def aH2 (o : Option RS) (js ts : List Nat) : Option (List Prop × List It × List (Option AV) × List (List (List AV × List It)) × List (List AV)) := o.map fun r => (r.obs, js.map r.S, ts.map (v8 r.tm), r.acts.map (·.eqs.1), r.acts.map (·.eqw.1))
def aO8 (o : Option RS) (obs : List Prop) (js : List Nat) (S : List It) (tm : List (Nat × AV)) : Option (List Prop × List It × List (Option AV) × List (List (List AV × List It)) × List (List AV)) := o.map fun r => (obs, S.map (It.ren (nth js)), tm.map (fun p => some (p.2.ren (nth js))), r.acts.map (·.eqs.2), r.acts.map (·.eqw.2))
def aX1 (l : List Oper) (ms : List Nat) (n : Nat) (S : Nat → It) (o : Option RS) : Bool := aB1 ms l && Q8 l.toArray && match o with
 | some r => bp2 ms r.acts && a77 ms n r.acts && a35 ms S r.acts
 | none => false
theorem bo7 {dk : TypeId → Nat} {l : List Oper} {id : Nat} (G : t7 φ ψ w0 F N m ρ0 ρ S tm a w) (H : K4) (hH : ∀ i c τ, F9 H.calls i = some (c, τ) → c.ok P) (hF : I6 H.facts) (js : List Nat) (S1 : List It) (tm1 : List (Nat × AV)) (obs : List Prop)
  (hs : ((N2 P dk N l H l 0 tm (n5 S) S.length).isSome && X1 m js S1 tm1) = true)
  (hc : aH2 (N2 P dk N l H l 0 tm (n5 S) S.length) js (tm1.map (·.1)) = aO8 (N2 P dk N l H l 0 tm (n5 S) S.length) obs js S1 tm1)
  (ho : r8 obs) (k : ∀ ρ' a' w', t7 φ ψ w0 F N m ρ0 ρ' S1 tm1 a' w' → Q .normal a' w') : (Code.region id l.toArray false).wp P Q a w := by
 simp only [bE8] at hs
 obtain ⟨r, hr⟩ := bI8.1 hs.1
 rw [hr] at hc
 simp only [aH2, aO8, Option.map_some, Option.some.injEq, Prod.mk.injEq] at hc
 obtain ⟨h1, h2, h3, h4, h5⟩ := hc
 refine wp_region_lit (aU8 hH hF l 0 S.length G hr (by rw [h1]; exact ho) h4 h5 fun ρ' a' w' n' I => ?_)
 exact k _ a' w' (I.sel js S1 tm1 hs.2 h2 h3)
theorem bg4 {dk : TypeId → Nat} {l : List Oper} {id : Nat} (G : t7 φ ψ w0 F N m ρ0 ρ S tm a w) (H : K4) (hH : ∀ i c τ, F9 H.calls i = some (c, τ) → c.ok P) (hF : I6 H.facts) (ms : List Nat) (js : List Nat) (S1 : List It) (tm1 : List (Nat × AV)) (obs : List Prop) (hm : P.follows .mixedOrders = true)
  (hs : (aX1 l ms S.length (n5 S) (N2 P dk N l H l 0 tm (n5 S) S.length) && X1 m js S1 tm1) = true)
  (hc : aH2 (N2 P dk N l H l 0 tm (n5 S) S.length) js (tm1.map (·.1)) = aO8 (N2 P dk N l H l 0 tm (n5 S) S.length) obs js S1 tm1)
  (ho : r8 obs) (k : ∀ ρ' a' w', t7 φ ψ w0 F N m ρ0 ρ' S1 tm1 a' w' → Q .normal a' w') : (Code.region id l.toArray true).wp P Q a w := by
 simp only [bE8, aX1] at hs
 obtain ⟨⟨⟨q1, q2⟩, q3⟩, q4⟩ := hs
 cases hr : N2 P dk N l H l 0 tm (n5 S) S.length with
 | none => rw [hr] at q3; cases q3
 | some r =>
  rw [hr] at q3 hc
  simp only [bE8] at q3
  simp only [aH2, aO8, Option.map_some, Option.some.injEq, Prod.mk.injEq] at hc
  obtain ⟨h1, h2, h3, h4, h5⟩ := hc
  refine ay7 hH hF G hr (by rw [h1]; exact ho) h4 h5 ms hm q2 q1 q3.1.1 q3.1.2 q3.2 fun ρ' a' w' n' I => ?_
  exact k _ a' w' (I.sel js S1 tm1 q4 h2 h3)
theorem rs1 {dk : TypeId → Nat} {l : List Oper} {id : Nat} (G : t7 φ ψ w0 F N m ρ0 ρ S tm a w) (H : K4) (hH : ∀ i c τ, F9 H.calls i = some (c, τ) → c.ok P) (hF : I6 H.facts) (js : List Nat) (S1 : List It) (tm1 : List (Nat × AV)) (obs : List Prop)
  (ho : r8 obs) (k : ∀ ρ' a' w', t7 φ ψ w0 F N m ρ0 ρ' S1 tm1 a' w' → Q .normal a' w')
  (hs : ((N2 P dk N l H l 0 tm (n5 S) S.length).isSome && X1 m js S1 tm1) = true := by kernel_rfl)
  (hc : aH2 (N2 P dk N l H l 0 tm (n5 S) S.length) js (tm1.map (·.1)) = aO8 (N2 P dk N l H l 0 tm (n5 S) S.length) obs js S1 tm1 := by kernel_rfl) : (Code.region id l.toArray false).wp P Q a w := bo7 G H hH hF js S1 tm1 obs hs hc ho k
theorem rd1 {dk : TypeId → Nat} {l : List Oper} {id : Nat} (G : t7 φ ψ w0 F N m ρ0 ρ S tm a w) (H : K4) (hH : ∀ i c τ, F9 H.calls i = some (c, τ) → c.ok P) (hF : I6 H.facts) (ms : List Nat) (js : List Nat) (S1 : List It) (tm1 : List (Nat × AV)) (obs : List Prop)
  (ho : r8 obs) (k : ∀ ρ' a' w', t7 φ ψ w0 F N m ρ0 ρ' S1 tm1 a' w' → Q .normal a' w') (hm : P.follows .mixedOrders = true := by kernel_rfl)
  (hs : (aX1 l ms S.length (n5 S) (N2 P dk N l H l 0 tm (n5 S) S.length) && X1 m js S1 tm1) = true := by kernel_rfl)
  (hc : aH2 (N2 P dk N l H l 0 tm (n5 S) S.length) js (tm1.map (·.1)) = aO8 (N2 P dk N l H l 0 tm (n5 S) S.length) obs js S1 tm1 := by kernel_rfl) : (Code.region id l.toArray true).wp P Q a w := bg4 G H hH hF ms js S1 tm1 obs hm hs hc ho k
theorem Z8 : ∀ i c τ, F9 [] i = some (c, τ) → i6.ok P c := fun i c τ h => by cases h
theorem at3 {i0 : Nat} {c0 : i6} {τ0 : List Nat} {r : List (Nat × i6 × List Nat)} (h0 : c0.ok P) (hr : ∀ i c τ, F9 r i = some (c, τ) → i6.ok P c) : ∀ i c τ, F9 ((i0, c0, τ0) :: r) i = some (c, τ) → i6.ok P c := fun i c τ h => by
 simp only [F9] at h
 split at h
 ·cases h; exact h0
 ·exact hr i c τ h
theorem t7.sel (G : t7 φ ψ w0 F N m ρ0 ρ S tm a w) (js : List Nat) (S1 : List It) (tm1 : List (Nat × AV)) (hb : X1 m js S1 tm1 = true) (hS : js.map (n5 S) = S1.map (It.ren (nth js))) (ht : (tm1.map (·.1)).map (v8 tm) = tm1.map fun p => some (p.2.ren (nth js))) : ∃ ρ', t7 φ ψ w0 F N m ρ0 ρ' S1 tm1 a w := ⟨_, Inn.sel G js S1 tm1 hb hS ht⟩
theorem t7.as (G : t7 φ ψ w0 F N m ρ0 ρ S tm a w) (S1 : List It) (tm1 : List (Nat × AV)) (hS : S = S1) (ht : tm = tm1) : t7 φ ψ w0 F N m ρ0 ρ S1 tm1 a w := by subst hS; subst ht; exact G
theorem t7.at (G : t7 φ ψ w0 F N m ρ0 ρ S tm a w) (S1 : List It) (tm1 : List (Nat × AV)) (hS : S = S1 := by kernel_rfl) (ht : tm = tm1 := by kernel_rfl) : t7 φ ψ w0 F N m ρ0 ρ S1 tm1 a w := G.as S1 tm1 hS ht
theorem Y8 {c : Nat} {x y : Code} (G : t7 φ ψ w0 F N m ρ0 ρ S tm a w) (b : Bool) (hc : v8 tm c = some (.v (.bool b))) (ht : b = true → x.wp P Q a w) (hf : b = false → y.wp P Q a w) : (Code.cond (.tmp c) x y).wp P Q a w := by
 have h := G.tmv c _ hc
 refine wp_cond_split (t := b) ?_ ht hf
 simp [Act.eval, Array.getD_eq_getD_getElem?, h, AV.val]
theorem a60 {c : Nat} {x y : Code} (G : t7 φ ψ w0 F N m ρ0 ρ S tm a w) (b : Bool) (hc : v8 tm c = some (.v (.bool b))) (hb : b = true) (h : x.wp P Q a w) : (Code.cond (.tmp c) x y).wp P Q a w := Y8 G b hc (fun _ => h) fun hf => by rw [hb] at hf; cases hf
theorem a61 {c : Nat} {x y : Code} (G : t7 φ ψ w0 F N m ρ0 ρ S tm a w) (b : Bool) (hc : v8 tm c = some (.v (.bool b))) (hb : b = false) (h : y.wp P Q a w) : (Code.cond (.tmp c) x y).wp P Q a w := Y8 G b hc (fun ht => by rw [hb] at ht; cases ht) fun _ => h
def aO0 (P : Program) (tm : Nat → Option AV) (S : Nat → It) : List ResultVar → Option (List AV)
 | [] => some []
 | .tmp t :: r =>
  match tm t, aO0 P tm S r with
  | some x, some l => some (x :: l)
  | _, _ => none
 | .cell t ty :: r =>
  match tm t, aO0 P tm S r with
  | some (.ptr b off), some l =>
   match S b with
   | .box cs => (aK3 P ty ((cs.drop off).take (ak8 P ty))).map fun x => x :: l
   | _ => none
  | _, _ => none
def aG6 (P : Program) (fn : Func) (tm : List (Nat × AV)) (S : List It) : Option AV :=
 match aO0 P (v8 tm) (n5 S) fn.results.toList with
 | some [x] => some x
 | some l => some (.tup l)
 | none => none
theorem be3 {cs : List AV} {ty : TypeId} {b off : Nat} {x : AV} (hB : R1 w b (AV.vals ρ cs)) (h : aK3 P ty ((cs.drop off).take (ak8 P ty)) = some x) : (loadVar ty ⟨b, off, none⟩).run P w = .ok (x.val ρ) w :=
 aa1 h ⟨b, off, none⟩ fun j u hj => by
  rw [AV.vals_take, AV.vals_drop] at hj
  have hadd : (⟨b, off, none⟩ : Addr).add j = ⟨b, off + j, none⟩ := by unfold Addr.add; split <;> simp_all
  rw [hadd, hB.cell]
  rw [List.getElem?_take] at hj
  split at hj
  ·rw [List.getElem?_drop] at hj; exact hj
  ·cases hj
theorem aA4 (G : t7 φ ψ w0 F N m ρ0 ρ S tm a w) : ∀ {rs : List ResultVar} {l : List AV}, aO0 P (v8 tm) (n5 S) rs = some l →
  (rs.mapM (fun r => (match r with | .tmp t => pure (a.tmps.getD t undef) | .cell b t => do loadVar t (← asAddr (a.tmps.getD b undef)) : Sem Value))).run P w = .ok (AV.vals ρ l) w
 | [], l, h => by cases h; simp [AV.vals]
 | .tmp t :: r, l, h => by
  simp only [aO0] at h
  split at h
  case h_2 => cases h
  rename_i x l' h1 h2
  cases h
  have ht := G.tmv t x h1
  have ih := aA4 G h2
  have e : (pure (a.tmps.getD t undef) : Sem Value).run P w = .ok (x.val ρ) w := by simp [Array.getD_eq_getD_getElem?, ht]
  rw [List.mapM_cons, Sem.run_bind, e, Result.andThen_ok, Sem.run_bind, ih]
  rfl
 | .cell t ty :: r, l, h => by
  simp only [aO0] at h
  split at h
  case h_2 => cases h
  rename_i b off l' h1 h2
  split at h
  case h_2 => cases h
  rename_i cs hS
  obtain ⟨x, h3, h4⟩ := bF4.1 h
  subst h4
  have ht := G.tmv t _ h1
  have ih := aA4 G h2
  have hl := be3 (P := P) (G.mem.boxAt hS) h3
  have e : (do loadVar ty (← asAddr (a.tmps.getD t undef)) : Sem Value).run P w = .ok (x.val ρ) w := by
   rw [show a.tmps.getD t undef = .pointer (some ⟨M7 (ρ b), off, none⟩) by simp [Array.getD_eq_getD_getElem?, ht, AV.val]]
   simp [asAddr, hl]
  rw [List.mapM_cons, Sem.run_bind, e, Result.andThen_ok, Sem.run_bind, ih]
  rfl
theorem bo8 {fn : Func} {R : Ending → World → Prop} {v : AV} (G : t7 φ ψ w0 F N m ρ0 ρ S tm a w) (h : aG6 P fn tm S = some v) (hR : R (.returned (v.val ρ)) w) : bodyPost P fn R .ret a w := by
 refine ⟨G.defs, v.val ρ, ?_, hR⟩
 unfold aG6 at h
 cases hl : aO0 P (v8 tm) (n5 S) fn.results.toList with
 | none => rw [hl] at h; cases h
 | some l =>
  rw [hl] at h
  have := aA4 G hl
  unfold results
  rw [Sem.run_bind, Array.mapM_eq_mapM_toList, Sem.run_map]
  erw [this]
  simp only [Result.andThen_ok, Sem.run_pure]
  match l, h with
  | [], h => cases h; rfl
  | [x], h => cases h; rfl
  | x :: y :: r, h => cases h; rfl
def au2 (i : Nat) : List AV → List (Nat × AV)
 | [] => []
 | x :: r => (i, x) :: au2 (i + 1) r
theorem aK5 (ρ : Nat → Value) : ∀ {l : List AV} {i t : Nat} {x : AV}, v8 (au2 i l) t = some x → i ≤ t ∧ (AV.vals ρ l)[t - i]? = some (x.val ρ)
 | [], _, _, _, h => by cases h
 | y :: r, i, t, x, h => by
  simp only [au2, v8, natEq, beq_iff_eq] at h
  split at h
  ·rename_i e; subst e; cases h; exact ⟨bG4 _, by simp [AV.vals]⟩
  ·obtain ⟨h1, h2⟩ := aK5 ρ h
   refine ⟨by omega, ?_⟩
   rw [show t - i = (t - (i + 1)) + 1 by omega]
   simpa [AV.vals] using h2
def aL2 (φ ψ : Nat → Prop) (w0 : World) (F : ι → Rs) (ρ0 : Nat → Value) (c : i6) (x : Ending) (w' : World) : Prop := ∃ ρ', (∀ i, i < c.pre.length → ρ' i = ρ0 i) ∧ x = .returned (c.res.val ρ') ∧ i9 φ ψ w0 w' (l7 F ρ' (n5 c.post))
theorem a59 {c : i6} {fn : Func} {code : Code} (N : Nat) (hf : P.funcs[c.f]? = some fn) (hb : fn.body = some code) (hN : fn.ntmps = N) (hw : (wfB c.pre (au2 0 c.args) && decide (c.args.length ≤ N)) = true)
  (k : ∀ {ι : Type} (φ ψ : Nat → Prop) (w0 w : World) (F : ι → Rs) (ρ0 ρ : Nat → Value) (a : Act), t7 φ ψ w0 F N c.pre.length ρ0 ρ c.pre (au2 0 c.args) a w → code.wp P (bodyPost P fn (aL2 φ ψ w0 F ρ0 c)) a w) : c.ok P := by
 intro ι φ ψ w0 w F ρ M
 simp only [bE8, decide_eq_true_eq] at hw
 obtain ⟨b1, b2⟩ := bl5 hw.1
 refine calls_of_wp hf hb (k φ ψ w0 w F ρ ρ _ ⟨?_, rfl, fun t x hx => ?_, b2, b1, M, bG4 _, fun _ _ => rfl⟩)
 ·simp [AV.vals_length, hN]; omega
 ·obtain ⟨_, h1⟩ := aK5 ρ hx
  rw [Nat.sub_zero] at h1
  have hlt := (bF6.1 h1).1
  rw [Array.getElem?_append_left (by simpa using hlt)]
  simpa using h1
theorem ap7 {fn : Func} {c : i6} {v : AV} (G : t7 φ ψ w0 F N c.pre.length ρ0 ρ S tm a w) (js : List Nat) (h : aG6 P fn tm S = some v) (hb : X1 c.pre.length js c.post [] = true) (hS : js.map (n5 S) = c.post.map (It.ren (nth js))) (hv : v = c.res.ren (nth js)) : bodyPost P fn (aL2 φ ψ w0 F ρ0 c) .ret a w := by
 have G1 := Inn.sel G js c.post [] hb hS rfl
 refine bo8 G h ⟨fun i => ρ (nth js i), G1.old, ?_, G1.mem⟩
 rw [hv, AV.val_ren]
theorem b6 {K : Act → World → Prop} (h : K a w) : Exit.then K Q .normal a w := h
theorem A2 {K : Act → World → Prop} {id : Nat} (h : Q (.exit id) a w) : Exit.then K Q (.exit id) a w := h
theorem j8 {K : Act → World → Prop} (h : Q .ret a w) : Exit.then K Q .ret a w := h
theorem v7 {id : Nat} (h : Q .normal a w) : Exit.inBlock id Q .normal a w := h
theorem C1 {id : Nat} (h : Q .ret a w) : Exit.inBlock id Q .ret a w := h
theorem A1 {id : Nat} (h : Q .normal a w) : Exit.inBlock id Q (.exit id) a w := by simp only [Exit.inBlock, if_true]; exact h
theorem w64 {x : Int} (h1 : -9223372036854775808 ≤ x) (h2 : x ≤ 9223372036854775807) : IntKind.i64.wrap x = x := IntWalk.i64_in x ⟨h1, h2⟩
theorem rT {c : Nat} {x y : Code} (G : t7 φ ψ w0 F N m ρ0 ρ S tm a w) (b : Bool) (hb : b = true) (h : x.wp P Q a w) (hc : v8 tm c = some (.v (.bool b)) := by kernel_rfl) : (Code.cond (.tmp c) x y).wp P Q a w := a60 G b hc hb h
theorem rF {c : Nat} {x y : Code} (G : t7 φ ψ w0 F N m ρ0 ρ S tm a w) (b : Bool) (hb : b = false) (h : y.wp P Q a w) (hc : v8 tm c = some (.v (.bool b)) := by kernel_rfl) : (Code.cond (.tmp c) x y).wp P Q a w := a61 G b hc hb h
theorem A4 {κ : Type} {c : Code} (pre : κ → Prop) (μ : κ → Nat) (Sk : κ → List It) (Tk : κ → List (Nat × AV)) (k0 : κ) (hp : pre k0) (G : t7 φ ψ w0 F N m ρ0 ρ (Sk k0) (Tk k0) a w)
  (round : ∀ k ρ a w, pre k → t7 φ ψ w0 F N m ρ0 ρ (Sk k) (Tk k) a w → c.wp P (Exit.then (fun a' w' => ∃ k' ρ', pre k' ∧ μ k' < μ k ∧ t7 φ ψ w0 F N m ρ0 ρ' (Sk k') (Tk k') a' w') Q) a w) : (Code.loop c).wp P Q a w := by
 refine wp_loop_ghost (fun n a w => ∃ k ρ, μ k = n ∧ pre k ∧ t7 φ ψ w0 F N m ρ0 ρ (Sk k) (Tk k) a w) (μ k0) ⟨k0, ρ, rfl, hp, G⟩ ?_
 rintro n a w ⟨k, ρ, rfl, hk, Gk⟩
 refine wp_mono (round k ρ a w hk Gk) ?_
 intro e a' w' hq
 cases e with
 | normal =>
  obtain ⟨k', ρ', h1, h2, h3⟩ := hq
  exact ⟨μ k', h2, k', ρ', rfl, h1, h3⟩
 | _ => exact hq
theorem bg3 {κ : Type} {pre : κ → Prop} {μ : κ → Nat} {Sk : κ → List It} {Tk : κ → List (Nat × AV)} {k : κ} (G : t7 φ ψ w0 F N m ρ0 ρ S tm a w) (k' : κ) (hp : pre k') (hμ : μ k' < μ k) (js : List Nat) (S1 : List It) (tm1 : List (Nat × AV)) (hs1 : Sk k' = S1) (ht1 : Tk k' = tm1)
  (hb : X1 m js S1 tm1 = true) (hS : js.map (n5 S) = S1.map (It.ren (nth js))) (ht : (tm1.map (·.1)).map (v8 tm) = tm1.map fun p => some (p.2.ren (nth js))) :
  ∃ k' ρ', pre k' ∧ μ k' < μ k ∧ t7 φ ψ w0 F N m ρ0 ρ' (Sk k') (Tk k') a w := by
 subst hs1; subst ht1
 exact ⟨k', _, hp, hμ, Inn.sel G js _ _ hb hS ht⟩
theorem t7.len (G : t7 φ ψ w0 F N m ρ0 ρ S tm a w) (i : Nat) {d : D} (h : itD (n5 S i) = some d) : d.len ≤ 9223372036854775807 := by
 obtain ⟨_, cap, _, h1, h2, _⟩ := G.mem.sliceAt h
 unfold maxLen at h2; omega
end
def dkP (t : TypeId) : Nat :=
 if natEq t 3 then 1 else
 if natEq t 4 then 2 else
 if natEq t 5 then 3 else
 if natEq t 9 then 4 else
if natEq t 122 then 5 else
if natEq t 65 then 6 else
 if natEq t 23 then 7 else
if natEq t 55 then 8 else
if natEq t 29 then 9 else
if natEq t 103 then 10 else
 0
abbrev eA (e : b5) (r : Nat) : AV := .agg [.v (.int .i64 e.kind), .v (.int .i64 e.value), .ref r]
abbrev eS (e : b5) : List It := [.dat (.exprs e.kids)]
abbrev sA (s : b8) (r : Nat) : AV := .agg [.v (.int .i64 s.kind), .v (.int .i64 s.target), .v (.int .i64 s.index.kind), .v (.int .i64 s.index.value), .ref r, .v (.int .i64 s.value.kind), .v (.int .i64 s.value.value), .ref (r + 1), .v (.int .i64 s.count), .ref (r + 2), .ref (r + 3)]
abbrev sS (s : b8) : List It := [.dat (.exprs s.index.kids), .dat (.exprs s.value.kids), .dat (.stmts s.body), .dat (.stmts s.els)]
abbrev pA (r : Nat) : AV := .agg [.ref r, .ref (r + 1), .ref (r + 2)]
abbrev pS (p : f5) : List It := [.dat (.ints p.vars), .dat (.ints p.arrays), .dat (.stmts p.body)]
abbrev iA (n : Int) : AV := .v (.int .i64 n)
abbrev bA (b : Bool) : AV := .v (.bool b)
abbrev J3 (f : FuncId) (args : List AV) (S : List It) (res : AV) : i6 := ⟨f, args, S, S, res⟩
abbrev dI (l : List Int) : It := .dat (.ints l)
abbrev dY (l : List UInt8) : It := .dat (.bytes l)
abbrev dV (l : List (Int × Int)) : It := .dat (.events l)
abbrev dR (l : List (List Int)) : It := .dat (.rows l)
abbrev dE (l : List b5) : It := .dat (.exprs l)
abbrev dT (l : List b8) : It := .dat (.stmts l)
abbrev eL (e : b5) (r : Nat) : List AV := [.v (.int .i64 e.kind), .v (.int .i64 e.value), .ref r]
abbrev sL (s : b8) (r : Nat) : List AV := [.v (.int .i64 s.kind), .v (.int .i64 s.target), .v (.int .i64 s.index.kind), .v (.int .i64 s.index.value), .ref r, .v (.int .i64 s.value.kind), .v (.int .i64 s.value.value), .ref (r + 1), .v (.int .i64 s.count), .ref (r + 2), .ref (r + 3)]
abbrev pL (r : Nat) : List AV := [.ref r, .ref (r + 1), .ref (r + 2)]
section
variable {P : Program} {ι : Type} {φ ψ : Nat → Prop} {w0 w w' : World} {F : ι → Rs} {ρ ρ0 : Nat → Value} {N m n : Nat} {S : List It} {tm : List (Nat × AV)} {a : Act} {Q : Exit → Act → World → Prop}
end
theorem b5.eta (e : b5) : (⟨e.kind, e.value, e.kids⟩ : b5) = e := by cases e; rfl
theorem b8.eta (s : b8) : (⟨s.kind, s.target, s.index, s.value, s.count, s.body, s.els⟩ : b8) = s := by cases s; rfl
section
variable {ι : Type} {P : Program} {φ ψ : Nat → Prop} {w0 w : World} {F : ι → Rs} {N m : Nat} {ρ0 ρ : Nat → Value} {S : List It} {tm : List (Nat × AV)} {a : Act}
theorem I7 {fn : Func} {c : i6} (G : t7 φ ψ w0 F N c.pre.length ρ0 ρ S tm a w) (js : List Nat) (hS : js.map (n5 S) = c.post.map (It.ren (nth js)) := by kernel_rfl) (h : aG6 P fn tm S = some (c.res.ren (nth js)) := by kernel_rfl) (hb : X1 c.pre.length js c.post [] = true := by kernel_rfl) : bodyPost P fn (aL2 φ ψ w0 F ρ0 c) .ret a w := ap7 G js h hb hS rfl
theorem bA5 {fn : Func} {c : i6} (G : t7 φ ψ w0 F N c.pre.length ρ0 ρ S tm a w) (js : List Nat) (hS : js.map (n5 S) = c.post.map (It.ren (nth js)) := by kernel_rfl) (h : aG6 P fn tm S = some (c.res.ren (nth js)) := by kernel_rfl) (hb : X1 c.pre.length js c.post [] = true := by kernel_rfl) : bodyPost P fn (aL2 φ ψ w0 F ρ0 c) .normal a w := ap7 G js h hb hS rfl
theorem rxv {fn : Func} {c : i6} (v : AV) (G : t7 φ ψ w0 F N c.pre.length ρ0 ρ S tm a w) (js : List Nat) (hv : v = c.res.ren (nth js)) (hS : js.map (n5 S) = c.post.map (It.ren (nth js)) := by kernel_rfl) (h : aG6 P fn tm S = some v := by kernel_rfl) (hb : X1 c.pre.length js c.post [] = true := by kernel_rfl) : bodyPost P fn (aL2 φ ψ w0 F ρ0 c) .ret a w := ap7 G js h hb hS hv
theorem rxn {κ : Type} {pre : κ → Prop} {μ : κ → Nat} {Sk : κ → List It} {Tk : κ → List (Nat × AV)} {k : κ} (G : t7 φ ψ w0 F N m ρ0 ρ S tm a w) (k' : κ) (hp : pre k') (hμ : μ k' < μ k) (js : List Nat) (hS : js.map (n5 S) = (Sk k').map (It.ren (nth js)) := by kernel_rfl) (ht : ((Tk k').map (·.1)).map (v8 tm) = (Tk k').map (fun p => some (p.2.ren (nth js))) := by kernel_rfl) (hb : X1 m js (Sk k') (Tk k') = true := by kernel_rfl) : ∃ k' ρ', pre k' ∧ μ k' < μ k ∧ t7 φ ψ w0 F N m ρ0 ρ' (Sk k') (Tk k') a w := bg3 G k' hp hμ js _ _ rfl rfl hb hS ht
theorem w8 {fn : Func} {f : FuncId} {args : List AV} {pre post : List It} {x : Bool} (y : Bool) (G : t7 φ ψ w0 F N pre.length ρ0 ρ S tm a w) (js : List Nat) (e : x = y) (hS : js.map (n5 S) = post.map (It.ren (nth js)) := by kernel_rfl) (h : aG6 P fn tm S = some (bA y) := by kernel_rfl) (hb : X1 pre.length js post [] = true := by kernel_rfl) : bodyPost P fn (aL2 φ ψ w0 F ρ0 ⟨f, args, pre, post, bA x⟩) .ret a w := ap7 (c := ⟨f, args, pre, post, bA x⟩) G js h hb hS (by rw [e]; rfl)
theorem Y9 {fn : Func} {f : FuncId} {args : List AV} {pre post : List It} {x : Int} (y : Int) (G : t7 φ ψ w0 F N pre.length ρ0 ρ S tm a w) (js : List Nat) (e : x = y) (hS : js.map (n5 S) = post.map (It.ren (nth js)) := by kernel_rfl) (h : aG6 P fn tm S = some (iA y) := by kernel_rfl) (hb : X1 pre.length js post [] = true := by kernel_rfl) : bodyPost P fn (aL2 φ ψ w0 F ρ0 ⟨f, args, pre, post, iA x⟩) .ret a w := ap7 (c := ⟨f, args, pre, post, iA x⟩) G js h hb hS (by rw [e]; rfl)
end
abbrev wO (x : Int) : Prop := IntKind.i64.wrap x = x
theorem oW {x : Int} (h : -9223372036854775808 ≤ x ∧ x ≤ 9223372036854775807) : wO x := w64 h.1 h.2
theorem o1 {x : Int} (h : -9223372036854775808 ≤ x ∧ x ≤ 9223372036854775807) : r8 [wO x] := ⟨oW h, bF1⟩
theorem o2 {x y : Int} (h : (-9223372036854775808 ≤ x ∧ x ≤ 9223372036854775807) ∧ -9223372036854775808 ≤ y ∧ y ≤ 9223372036854775807) : r8 [wO x, wO y] := ⟨oW h.1, oW h.2, bF1⟩
abbrev aP (n b : Nat) (r : List Prop) : List Prop := (n ≤ 9223372036854775807) :: (n * b ≤ 140737488355328) :: r
theorem aK {n b : Nat} {r : List Prop} (h : n ≤ 100000000000) (k : r8 r) (hb : b ≤ 1000 := by decide) : r8 (aP n b r) := ⟨by omega, bH6 (Nat.mul_le_mul h hb) (by decide), k⟩
abbrev iX (x : Int) (n l : Nat) (r : List Prop) : List Prop := (0 ≤ x) :: (x < (l : Int)) :: (n < l) :: r
theorem iK {x : Int} {n l : Nat} {r : List Prop} (h : 0 ≤ x ∧ x < (l : Int) ∧ n < l) (k : r8 r) : r8 (iX x n l r) := ⟨h.1, h.2.1, h.2.2, k⟩
abbrev mR (js : List Nat) (l : List It) : List It := List.map (It.ren (nth js)) l
theorem fz : I6 [] := bF1
theorem fc {a b : Bool} {r : List (Bool × Bool)} (h : a = b) (k : I6 r) : I6 ((a, b) :: r) := ⟨h, k⟩
abbrev F0 (e : b5) : b5 := b5.mk e.kind e.value e.kids
abbrev qzS (s : b8) : b8 := b8.mk s.kind s.target (b5.mk s.index.kind s.index.value s.index.kids) (b5.mk s.value.kind s.value.value s.value.kids) s.count s.body s.els
def kL (P : Program) (N m : Nat) (l : List Oper) (H : K4) (tm : List (Nat × AV)) (S : List It) (js : List Nat) (S1 : List It) (t1 : List (Nat × AV)) := ((N2 P dkP N l H l 0 tm (n5 S) S.length).isSome && X1 m js S1 t1, aH2 (N2 P dkP N l H l 0 tm (n5 S) S.length) js (t1.map (·.1)))
def kR (P : Program) (N : Nat) (l : List Oper) (H : K4) (tm : List (Nat × AV)) (S : List It) (o : List Prop) (js : List Nat) (S1 : List It) (t1 : List (Nat × AV)) := (true, aO8 (N2 P dkP N l H l 0 tm (n5 S) S.length) o js S1 t1)
def kM (P : Program) (N m : Nat) (l : List Oper) (H : K4) (ms : List Nat) (tm : List (Nat × AV)) (S : List It) (js : List Nat) (S1 : List It) (t1 : List (Nat × AV)) := (aX1 l ms S.length (n5 S) (N2 P dkP N l H l 0 tm (n5 S) S.length) && X1 m js S1 t1, aH2 (N2 P dkP N l H l 0 tm (n5 S) S.length) js (t1.map (·.1)))
theorem E2 {P : Program} {c : i6} {fn : Func} {code : Code} (N : Nat) (hf : P.funcs[c.f]? = some fn) (S : List It) (tm : List (Nat × AV)) (k : ∀ {ι : Type} {φ ψ : Nat → Prop} {w0 w : World} {F : ι → Rs} {ρ0 ρ : Nat → Value} {a : Act}, t7 φ ψ w0 F N c.pre.length ρ0 ρ S tm a w → code.wp P (bodyPost P fn (aL2 φ ψ w0 F ρ0 c)) a w) (hb : fn.body = some code := by rfl) (hN : (fn.ntmps, c.pre, au2 0 c.args) = (N, S, tm) := by kernel_rfl) (hw : (wfB c.pre (au2 0 c.args) && decide (c.args.length ≤ N)) = true := by kernel_rfl) : c.ok P := by
 simp only [Prod.mk.injEq] at hN
 obtain ⟨h1, h2, h3⟩ := hN
 exact a59 N hf hb h1 hw fun φ ψ w0 w F ρ0 ρ a G => k (ρ := ρ) (G.as S tm h2 h3)
def aT (x y : List (Nat × AV)) : List (Nat × AV) := x ++ y.filter fun p => !(x.any fun q => natEq q.1 p.1)
def HH (P : Program) (H : K4) : Prop := (∀ i c τ, F9 H.calls i = some (c, τ) → c.ok P) ∧ I6 H.facts
theorem f7 {P : Program} : HH P ⟨[], [], []⟩ := ⟨Z8, bF1⟩
theorem t8 {P : Program} {c : i6} (i : Nat) (σ : List Nat) (h : c.ok P) : HH P ⟨[(i, c, σ)], [], []⟩ := ⟨at3 h Z8, bF1⟩
theorem H2 {P : Program} {f : List (Bool × Bool)} (h : I6 f) (u : List (Nat × Nat)) : HH P ⟨[], f, u⟩ := ⟨Z8, h⟩
def Cs (P : Program) (r : List (Nat × i6 × List Nat)) : Prop := ∀ i c τ, F9 r i = some (c, τ) → c.ok P
theorem y8 {P : Program} : Cs P [] := Z8
theorem m9 {P : Program} {c : i6} {r : List (Nat × i6 × List Nat)} (i : Nat) (σ : List Nat) (h : c.ok P) (k : Cs P r) : Cs P ((i, c, σ) :: r) := at3 h k
theorem y9 {P : Program} {r : List (Nat × i6 × List Nat)} {f : List (Bool × Bool)} (h : Cs P r) (h' : I6 f) (u : List (Nat × Nat)) : HH P ⟨r, f, u⟩ := ⟨h, h'⟩
section
variable {ι : Type} {P : Program} {φ ψ : Nat → Prop} {w0 w : World} {F : ι → Rs} {N m : Nat} {ρ0 ρ : Nat → Value} {S : List It} {tm : List (Nat × AV)} {a : Act} {l : List Oper} {id : Nat} {Q : Exit → Act → World → Prop} {H : K4}
theorem W0 (G : t7 φ ψ w0 F N m ρ0 ρ S tm a w) (hh : HH P H) (js : List Nat) (S1 : List It) (t1 : List (Nat × AV)) (o : List Prop) (ho : r8 o) (k : ∀ {ρ' a' w'}, t7 φ ψ w0 F N m ρ0 ρ' S1 t1 a' w' → Q .normal a' w') (h : kL P N m l H tm S js S1 t1 = kR P N l H tm S o js S1 t1 := by kernel_rfl) : (Code.region id l.toArray false).wp P Q a w := rs1 (dk := dkP) G H hh.1 hh.2 js S1 t1 o ho (fun _ _ _ => k) (congrArg Prod.fst h) (congrArg Prod.snd h)
theorem j7 (G : t7 φ ψ w0 F N m ρ0 ρ S tm a w) (hh : HH P H) (js : List Nat) (S1 : List It) (t1 : List (Nat × AV)) (k : ∀ {ρ' a' w'}, t7 φ ψ w0 F N m ρ0 ρ' S1 t1 a' w' → Q .normal a' w') (h : kL P N m l H tm S js S1 t1 = kR P N l H tm S [] js S1 t1 := by kernel_rfl) : (Code.region id l.toArray false).wp P Q a w := W0 G hh js S1 t1 [] bF1 k h
theorem rB1 (G : t7 φ ψ w0 F N m ρ0 ρ S tm a w) (hh : HH P H) (t1 : List (Nat × AV)) (o : List Prop) (ho : r8 o) (k : ∀ {ρ' a' w'}, t7 φ ψ w0 F N m ρ0 ρ' S t1 a' w' → Q .normal a' w') (h : kL P N m l H tm S (bH0 S.length) S t1 = kR P N l H tm S o (bH0 S.length) S t1 := by kernel_rfl) : (Code.region id l.toArray false).wp P Q a w := rs1 (dk := dkP) G H hh.1 hh.2 (bH0 S.length) S t1 o ho (fun _ _ _ => k) (congrArg Prod.fst h) (congrArg Prod.snd h)
theorem J1 (G : t7 φ ψ w0 F N m ρ0 ρ S tm a w) (hh : HH P H) (t1 : List (Nat × AV)) (k : ∀ {ρ' a' w'}, t7 φ ψ w0 F N m ρ0 ρ' S t1 a' w' → Q .normal a' w') (h : kL P N m l H tm S (bH0 S.length) S t1 = kR P N l H tm S [] (bH0 S.length) S t1 := by kernel_rfl) : (Code.region id l.toArray false).wp P Q a w := rB1 G hh t1 [] bF1 k h
theorem K5 (G : t7 φ ψ w0 F N m ρ0 ρ S tm a w) (hh : HH P H) (t1 : List (Nat × AV)) (o : List Prop) (ho : r8 o) (k : ∀ {ρ' a' w'}, t7 φ ψ w0 F N m ρ0 ρ' S (aT t1 tm) a' w' → Q .normal a' w') (h : kL P N m l H tm S (bH0 S.length) S (aT t1 tm) = kR P N l H tm S o (bH0 S.length) S (aT t1 tm) := by kernel_rfl) : (Code.region id l.toArray false).wp P Q a w := rs1 (dk := dkP) G H hh.1 hh.2 (bH0 S.length) S (aT t1 tm) o ho (fun _ _ _ => k) (congrArg Prod.fst h) (congrArg Prod.snd h)
theorem l5 (G : t7 φ ψ w0 F N m ρ0 ρ S tm a w) (hh : HH P H) (t1 : List (Nat × AV)) (k : ∀ {ρ' a' w'}, t7 φ ψ w0 F N m ρ0 ρ' S (aT t1 tm) a' w' → Q .normal a' w') (h : kL P N m l H tm S (bH0 S.length) S (aT t1 tm) = kR P N l H tm S [] (bH0 S.length) S (aT t1 tm) := by kernel_rfl) : (Code.region id l.toArray false).wp P Q a w := K5 G hh t1 [] bF1 k h
theorem R7 (G : t7 φ ψ w0 F N m ρ0 ρ S tm a w) (hh : HH P H) (ms : List Nat) (js : List Nat) (S1 : List It) (t1 : List (Nat × AV)) (o : List Prop) (ho : r8 o) (k : ∀ {ρ' a' w'}, t7 φ ψ w0 F N m ρ0 ρ' S1 t1 a' w' → Q .normal a' w') (hm : P.follows .mixedOrders = true := by kernel_rfl) (h : kM P N m l H ms tm S js S1 t1 = kR P N l H tm S o js S1 t1 := by kernel_rfl) : (Code.region id l.toArray true).wp P Q a w := rd1 (dk := dkP) G H hh.1 hh.2 ms js S1 t1 o ho (fun _ _ _ => k) hm (congrArg Prod.fst h) (congrArg Prod.snd h)
theorem O3 (G : t7 φ ψ w0 F N m ρ0 ρ S tm a w) (hh : HH P H) (ms : List Nat) (js : List Nat) (S1 : List It) (t1 : List (Nat × AV)) (k : ∀ {ρ' a' w'}, t7 φ ψ w0 F N m ρ0 ρ' S1 t1 a' w' → Q .normal a' w') (hm : P.follows .mixedOrders = true := by kernel_rfl) (h : kM P N m l H ms tm S js S1 t1 = kR P N l H tm S [] js S1 t1 := by kernel_rfl) : (Code.region id l.toArray true).wp P Q a w := R7 G hh ms js S1 t1 [] bF1 k hm h
theorem aO2 (G : t7 φ ψ w0 F N m ρ0 ρ S tm a w) (hh : HH P H) (ms : List Nat) (t1 : List (Nat × AV)) (o : List Prop) (ho : r8 o) (k : ∀ {ρ' a' w'}, t7 φ ψ w0 F N m ρ0 ρ' S (aT t1 tm) a' w' → Q .normal a' w') (hm : P.follows .mixedOrders = true := by kernel_rfl) (h : kM P N m l H ms tm S (bH0 S.length) S (aT t1 tm) = kR P N l H tm S o (bH0 S.length) S (aT t1 tm) := by kernel_rfl) : (Code.region id l.toArray true).wp P Q a w := rd1 (dk := dkP) G H hh.1 hh.2 ms (bH0 S.length) S (aT t1 tm) o ho (fun _ _ _ => k) hm (congrArg Prod.fst h) (congrArg Prod.snd h)
theorem bg6 (G : t7 φ ψ w0 F N m ρ0 ρ S tm a w) (hh : HH P H) (ms : List Nat) (t1 : List (Nat × AV)) (k : ∀ {ρ' a' w'}, t7 φ ψ w0 F N m ρ0 ρ' S (aT t1 tm) a' w' → Q .normal a' w') (hm : P.follows .mixedOrders = true := by kernel_rfl) (h : kM P N m l H ms tm S (bH0 S.length) S (aT t1 tm) = kR P N l H tm S [] (bH0 S.length) S (aT t1 tm) := by kernel_rfl) : (Code.region id l.toArray true).wp P Q a w := aO2 G hh ms t1 [] bF1 k hm h
variable {c : Nat} {x y : Code}
theorem rcB {b : Bool} (G : t7 φ ψ w0 F N m ρ0 ρ S tm a w) (f : b = false → y.wp P Q a w) (t : b = true → x.wp P Q a w) (h : v8 tm c = some (.v (.bool b)) := by rfl) : (Code.cond (.tmp c) x y).wp P Q a w := Y8 G b h t f
theorem W5 {α : Type} [BEq α] [LawfulBEq α] {u v : α} (G : t7 φ ψ w0 F N m ρ0 ρ S tm a w) (f : (u == v) = false → u ≠ v → y.wp P Q a w) (t : (u == v) = true → u = v → x.wp P Q a w) (h : v8 tm c = some (.v (.bool (u == v))) := by rfl) : (Code.cond (.tmp c) x y).wp P Q a w := Y8 G _ h (fun q => t q (eq_of_beq q)) fun q => f q (ne_of_beq_false q)
theorem rcN {α : Type} [BEq α] [LawfulBEq α] {u v : α} (G : t7 φ ψ w0 F N m ρ0 ρ S tm a w) (f : (u != v) = false → u = v → y.wp P Q a w) (t : (u != v) = true → u ≠ v → x.wp P Q a w) (h : v8 tm c = some (.v (.bool (u != v))) := by rfl) : (Code.cond (.tmp c) x y).wp P Q a w := Y8 G _ h (fun q => t q (bne_iff_ne.1 q)) fun q => f q (bne_eq_false_iff_eq.1 q)
theorem rcD {p : Prop} [Decidable p] (G : t7 φ ψ w0 F N m ρ0 ρ S tm a w) (f : decide p = false → ¬ p → y.wp P Q a w) (t : decide p = true → p → x.wp P Q a w) (h : v8 tm c = some (.v (.bool (decide p))) := by rfl) : (Code.cond (.tmp c) x y).wp P Q a w := Y8 G _ h (fun q => t q (Y0 q)) fun q => f q (Y1 q)
end
section
variable {P : Program} {f : FuncId}
theorem Q7 {args : List AV} {S : List It} {x : Value} (h : ∀ (φ : Nat → Prop) (w : World) (ρ : Nat → Value), (∀ i d, n5 S i = .dat d → RD w φ d (ρ i)) → Calls P f (AV.vals ρ args).toArray w fun e w' => e = .returned x ∧ Below w.heap.size w w') : i6.ok P (J3 f args S (.v x)) := by
 intro ι φ ψ w0 w F ρ M
 refine (h (O2 φ (l7 F ρ (n5 S))) w ρ fun i d hi => M.datAt hi).mono ?_
 rintro e w' ⟨rfl, hb⟩
 exact ⟨ρ, fun _ _ => rfl, rfl, M.call hb⟩
end
theorem aV0 {w : World} {φ : Nat → Prop} {d : D} {v : Value} (h : RD w φ d v) : ∃ a cap, v = .slice a d.len cap ∧ d.len ≤ 9223372036854775807 := by
 obtain ⟨a, cap, h1, h2, h3, _⟩ := h.open
 unfold maxLen at h3
 exact ⟨a, cap, h1, by omega⟩
theorem G3 (l : Int) : i6.ok Try.prog (J3 43 [iA l] [] (bA (m8 l))) :=
 Q7 fun φ w ρ _ => (V4 l w).mono fun e w' h => ⟨h.1, h.2 ▸ Below.refl _ _⟩
theorem t6 (n lo hi : Int) : i6.ok Try.prog (J3 69 [iA n, iA lo, iA hi] [] (bA (decide (lo ≤ n) && decide (n ≤ hi)))) :=
 Q7 fun φ w ρ _ => (v6 n lo hi w).mono fun e w' h => ⟨h.1, h.2 ▸ Below.refl _ _⟩
theorem ai9 (p : f5) : i6.ok Try.prog (J3 73 [pA 0] (pS p) (bA (A5 p.vars p.arrays))) :=
 Q7 fun φ w ρ h => ae6 (ρ 0) (ρ 1) (ρ 2) _ _ w (w3.row (h 0 _ rfl)) (w3.row (h 1 _ rfl))
theorem at7 (vs ars : List Int) : i6.ok Try.prog (J3 41 [.ref 0, .ref 1] [.dat (.ints vs), .dat (.ints ars)] (bA (A5 vs ars))) :=
 Q7 fun φ w ρ h => (ab3 (ρ 0) (ρ 1) _ _ w (w3.row (h 0 _ rfl)) (w3.row (h 1 _ rfl))).mono fun e w' h => ⟨h.1, h.2 ▸ Below.refl _ _⟩
theorem K2 (p : f5) (e : b5) : i6.ok Try.prog (J3 39 [pA 0, eA e 3] (pS p ++ eS e) (bA (d8 p.vars.length p.arrays.length e))) :=
 Q7 fun φ w ρ h => by
  obtain ⟨a1, c1, h1, l1⟩ := aV0 (h 0 _ rfl)
  obtain ⟨a2, c2, h2, l2⟩ := aV0 (h 1 _ rfl)
  simp only [AV.vals, AV.val, h1, h2]
  exact aw8 a1 a2 _ c1 _ c2 (ρ 2) l1 l2 e φ _ w ⟨_, rfl, h 3 _ rfl⟩
theorem aj0 (e : b5) : i6.ok Try.prog (J3 115 [eA e 0] (eS e) (bA (D6 e))) :=
 Q7 fun φ w ρ h => af7 e.kind e.value (ρ 0) w
theorem aP5 (s : b8) : nS s = 1 + nSs s.body + nSs s.els := by cases s; simp only [nS]; rfl
theorem T4 {nv na d : Nat} {s : b8} (h : m5 nv na (d + 1) s = true) : s.body.all (m5 nv na d) = true ∧ s.els.all (m5 nv na d) = true := by
 rw [m5, bE8] at h
 obtain ⟨h1, h2⟩ := h
 unfold m7 at h1
 by_cases k3 : s.kind = 3
 ·rw [if_neg (by omega), if_neg (by omega), if_pos k3] at h2
  simp only [bE8] at h2
  exact ⟨h2.1.2, h2.2⟩
 by_cases k4 : s.kind = 4
 ·rw [if_neg (by omega), if_neg (by omega), if_neg (by omega), if_pos k4] at h2
  rw [if_pos (.inr k4), if_pos k4] at h1
  simp only [bE8, decide_eq_true_eq] at h1
  exact ⟨h2, by rw [List.eq_nil_of_length_eq_zero h1.2.1.1.1.1]; rfl⟩
 ·rw [if_neg (by omega)] at h1
  simp only [bE8, decide_eq_true_eq] at h1
  exact ⟨by rw [List.eq_nil_of_length_eq_zero h1.1.1.1]; rfl, by rw [List.eq_nil_of_length_eq_zero h1.1.1.2]; rfl⟩
theorem av8 (s : b8) : x9 s.body ≤ szS s ∧ x9 s.els ≤ szS s := by
 rcases s with ⟨_, _, _, _, _, b, e⟩
 simp only [szS, b8.body, b8.els]
 omega
theorem aI6 {nv na : Nat} : ∀ {ss : List b8}, (∀ s ∈ ss, m5 nv na 1 s = true) → nSs ss = ss.length
 | [], _ => rfl
 | s :: r, h => by
  have h1 := T4 (h s bF7)
  have key : ∀ l : List b8, l.all (m5 nv na 0) = true → l = [] := fun l hl => by
   cases l with
   | nil => rfl
   | cons a r => simp [m5] at hl
  have h2 := aI6 (ss := r) fun x hx => h x (bG0 _ hx)
  rw [nSs, aP5, key _ h1.1, key _ h1.2, h2]
  simp [nSs]; omega
def orI (x y : Int) : Int := IntKind.i64.wrap ((BitVec.ofInt (IntKind.bits .i64) x ||| BitVec.ofInt (IntKind.bits .i64) y).toNat : Int)
def bE5 (x y : Int) : Int := IntKind.i64.wrap ((BitVec.ofInt (IntKind.bits .i64) x &&& BitVec.ofInt (IntKind.bits .i64) y).toNat : Int)
def aM0 (x y : Int) : Int := IntKind.i64.wrap ((BitVec.ofInt (IntKind.bits .i64) x ^^^ BitVec.ofInt (IntKind.bits .i64) y).toNat : Int)
def anI (x y : Int) : Int := IntKind.i64.wrap ((BitVec.ofInt (IntKind.bits .i64) x &&& ~~~(BitVec.ofInt (IntKind.bits .i64) y)).toNat : Int)
theorem i6.dup {P : Program} {f : FuncId} {args args' : List AV} {S S' : List It} {d : D} {res : AV} {i : Nat} (hc : i6.ok P ⟨f, args, S ++ [.dat d], S' ++ [.dat d], res⟩) (hi : S[i]? = some (.dat d)) (hl : S'.length = S.length)
  (hS : S.all (fun x => R9 S.length x.ids) = true) (ha : ∀ ρ : Nat → Value, ρ S.length = ρ i → AV.vals ρ args = AV.vals ρ args') (hg : R9 S.length (AV.idsL args') = true) : i6.ok P ⟨f, args', S, S', res⟩ := by
 intro ι φ ψ w0 w F ρ M
 have hi' : n5 S i = .dat d := by simp [n5, hi]
 have hlt : i < S.length := (bF6.1 hi).1
 have hinv : Inv (n5 S) ρ [S.length] := fun ρ' h j => by
  by_cases hj : j < S.length
  ·refine It.res_congr _ (fun k hk => h k ?_) (.inr (.inr (h j (by simp; omega))))
   have h1 := D8 (bF5.1 hS (S[j]) (bG3 hj)) k (by simpa [n5, bF2, bF0 hj] using hk)
   simp; omega
  ·rw [show n5 S j = .none by simp only [n5, bF2, bH2 (Nat.le_of_not_lt hj)]; rfl]; rfl
 obtain ⟨ρ', h1, M1, h2⟩ := M.newDat (id := S.length) (by simp [n5]) hinv (M.datAt hi')
 have e : l6 (n5 S) [(S.length, .dat d)] = n5 (S ++ [.dat d]) := by
  funext j
  simp only [l6, n5, bF2]
  by_cases hj : j = S.length
  ·subst hj; simp
  ·rw [if_neg hj]
   by_cases hj2 : j < S.length
   ·rw [bH1 hj2]
   ·rw [bH2 (by omega), bH2 (by simp; omega)]
 rw [e] at M1
 have hρ : ρ' i = ρ i := h1 i (by simp; omega)
 have ea : AV.vals ρ args' = AV.vals ρ' args := by
  rw [ha ρ' (by rw [← h2, hρ])]
  exact (AV.vals_congr _ fun k hk => by
   have := D8 hg k hk
   exact h1 k (by simp; omega)).symm
 simp only
 rw [ea]
 refine (hc ι φ ψ w0 w F ρ' M1).mono ?_
 rintro x w' ⟨ρ2, g1, g2, M2⟩
 refine ⟨ρ2, fun k hk => ?_, g2, ?_⟩
 ·rw [g1 k (by simp; omega)]; exact h1 k (by simp; omega)
 ·refine M2.map (fun k => match k with | .inl i => some (.inl i) | .inr j => if j < S'.length then some (.inr j) else none) ?_ ?_
  ·intro k k' x h1 h2
   match k, k' with
   | .inl i, .inl i' => simp at h1 h2; rw [h1, h2]
   | .inl i, .inr j => simp at h1; subst h1; simp at h2
   | .inr j, .inl i => simp at h2; subst h2; simp at h1
   | .inr j, .inr j' => simp at h1 h2; rw [← h1.2] at h2; rw [Sum.inr.inj h2.2]
  ·intro k
   match k with
   | .inl i => exact .inl ⟨.inl i, rfl, rfl⟩
   | .inr j =>
    by_cases hj : j < S'.length
    ·refine .inl ⟨.inr j, by simp [hj], ?_⟩
     simp only [l7, n5, bF2, bH1 hj]
    ·refine .inr ?_
     simp only [l7, n5, bF2, bH2 (Nat.le_of_not_lt hj)]
     rfl
def pkX (b : List UInt8) (k : Int) : Int := ((b.getD (k.tmod b.length).toNat 0).toNat : Int) * 131 + ((b.getD ((k * 7 + 3).tmod b.length).toNat 0).toNat : Int) * 1117 + k * 29 + k.tdiv b.length * 53
def pk (b : List UInt8) (k n : Int) : Int :=
 if n < 1 ∨ b.length = 0 then 0 else if k < b.length then ((b.getD k.toNat 0).toNat : Int).tmod n else (aM0 (pkX b k) ((pkX b k).tdiv 64)).tmod n
def nm (b : List UInt8) (k : Int) (l : List Int) : Int := l.getD (pk b k l.length).toNat 0
theorem be8 {x y : Int} (hx : 0 ≤ x) (hx2 : x < 9223372036854775808) (hy : 0 ≤ y) (hy2 : y < 9223372036854775808) : 0 ≤ aM0 x y := by
 obtain ⟨a, rfl⟩ := Int.eq_ofNat_of_zero_le hx
 obtain ⟨c, rfl⟩ := Int.eq_ofNat_of_zero_le hy
 have ha : a < 2 ^ 63 := by omega
 have hc : c < 2 ^ 63 := by omega
 have h : (BitVec.ofInt (IntKind.bits .i64) (a : Int) ^^^ BitVec.ofInt (IntKind.bits .i64) (c : Int)).toNat < 2 ^ 63 := by
  rw [BitVec.toNat_xor]
  refine Nat.xor_lt_two_pow ?_ ?_
  ·simp only [BitVec.ofInt_natCast, BitVec.toNat_ofNat, IntKind.bits]; omega
  ·simp only [BitVec.ofInt_natCast, BitVec.toNat_ofNat, IntKind.bits]; omega
 unfold aM0
 generalize (BitVec.ofInt (IntKind.bits .i64) (a : Int) ^^^ BitVec.ofInt (IntKind.bits .i64) (c : Int)).toNat = z at h ⊢
 rw [w64 (by omega) (by omega)]
 omega
theorem aE7 (x : UInt8) : ((x.toNat : Nat) : Int) ≤ 255 := by have := x.toNat_lt; omega
theorem aE9 {k n : Int} (hk : 0 ≤ k) (hn : 1 ≤ n) : 0 ≤ k.tdiv n ∧ k.tdiv n ≤ k := by
 refine ⟨Int.tdiv_nonneg hk (by omega), ?_⟩
 rw [Int.tdiv_eq_ediv_of_nonneg hk]
 exact Int.ediv_le_self _ hk
theorem aH1 {b : List UInt8} {k : Int} (hk : 0 ≤ k) (hk2 : k ≤ 1000000000) (hb : b.length ≠ 0) : 0 ≤ pkX b k ∧ pkX b k ≤ 100000000000 := by
 unfold pkX
 have h1 := aE7 (b.getD (k.tmod b.length).toNat 0)
 have h2 := aE7 (b.getD ((k * 7 + 3).tmod b.length).toNat 0)
 have h3 := aE9 (n := b.length) hk (by omega)
 omega
theorem aM3 {x n : Int} (hx : 0 ≤ x) (hn : 1 ≤ n) : 0 ≤ x.tmod n ∧ x.tmod n < n := ⟨Int.tmod_nonneg _ hx, Int.tmod_lt_of_pos _ (by omega)⟩
theorem bm3 {b : List UInt8} {k : Int} (hk : 0 ≤ k) (hk2 : k ≤ 1000000000) (hb : b.length ≠ 0) : 0 ≤ (pkX b k).tdiv 64 ∧ (pkX b k).tdiv 64 ≤ 100000000000 := by
 have h := aH1 hk hk2 hb
 have h2 := aE9 (n := 64) h.1 (by omega)
 omega
theorem bC0 (b : List UInt8) {k n : Int} (hk : 0 ≤ k) (hk2 : k ≤ 1000000000) (hn : 1 ≤ n) : 0 ≤ pk b k n ∧ pk b k n < n := by
 unfold pk
 split
 ·omega
 ·split
  ·exact aM3 (by omega) hn
  ·have h := aH1 hk hk2 (show b.length ≠ 0 by omega)
   have h2 := bm3 hk hk2 (show b.length ≠ 0 by omega)
   exact aM3 (be8 h.1 (by omega) h2.1 (by omega)) hn
theorem aV8 (b : List UInt8) {k : Int} (hk : 0 ≤ k) (hk2 : k ≤ 1000000000) {l : List Int} (hl : l ≠ []) : 0 ≤ pk b k l.length ∧ pk b k l.length < l.length ∧ (pk b k l.length).toNat < l.length := by
 have h0 : 0 < l.length := List.length_pos_iff.2 hl
 have h := bC0 b (n := l.length) hk hk2 (by omega)
 omega
theorem aB0 (b : List UInt8) {k : Int} (hk : 0 ≤ k) (hk2 : k ≤ 1000000000) {l : List Int} (hl : l ≠ []) : nm b k l ∈ l := by
 unfold nm
 rw [n6 (aV8 b hk hk2 hl).2.2]
 exact bG3 _
abbrev l1L : List Int := [-1] ++ ([4] ++ ([9223372036854775807] ++ ([-9223372036854775808] ++ [])))
def l1D (b : List UInt8) (k : Int) : Int := if pk b k 12 = 0 then nm b (k + 1) l1L else pk b (k + 1) 4
def D0 {α : Type} (f : Int → α × Int) : Nat → Int → List α × Int
 | 0, k => ([], k)
 | n + 1, k => ((D0 f n k).1 ++ [(f (D0 f n k).2).1], (f (D0 f n k).2).2)
theorem aC3 {α : Type} (f : Int → α × Int) (n : Nat) (k : Int) : (D0 f n k).1.length = n := by
 induction n with
 | zero => rfl
 | succ n ih => simp [D0, ih]
theorem bb2 {α : Type} {f : Int → α × Int} {c : Int} (hc : 0 ≤ c) {m : Nat} : ∀ (n : Nat) (k : Int), n ≤ m → (∀ j, k ≤ j → j ≤ k + m * c → j ≤ (f j).2 ∧ (f j).2 ≤ j + c) → k ≤ (D0 f n k).2 ∧ (D0 f n k).2 ≤ k + n * c := by
 intro n
 induction n with
 | zero => intro k _ _; simp [D0]
 | succ n ih =>
  intro k hm h
  have h1 := ih k (by omega) h
  have e : ((n + 1 : Nat) : Int) * c = n * c + c := by rw [Int.natCast_add, Int.add_mul]; simp
  have h3 : ((n + 1 : Nat) : Int) * c ≤ m * c := bI9 (by omega) hc
  have h2 := h (D0 f n k).2 h1.1 (by omega)
  simp only [D0]
  rw [e]
  omega
theorem bj1 {α : Type} {f : Int → α × Int} {Q : α → Prop} (h : ∀ j, Q (f j).1) (n : Nat) (k : Int) : ∀ x ∈ (D0 f n k).1, Q x := by
 induction n with
 | zero => intro x hx; cases hx
 | succ n ih =>
  intro x hx
  simp only [D0, bG8, bH4] at hx
  rcases hx with hx | rfl
  ·exact ih x hx
  ·exact h _
abbrev atL : List Int := [1] ++ ([0] ++ ([2] ++ ([3] ++ ([255] ++ ([7] ++ ([128] ++ []))))))
def i5 (b : List UInt8) (nv : Int) (k : Int) : b5 := if pk b k 3 = 0 then ⟨1, nm b (k + 1) atL, []⟩ else ⟨2, pk b (k + 1) nv, []⟩
abbrev G9 : List Int := [4] ++ ([10] ++ ([8] ++ ([9] ++ ([3] ++ ([6] ++ ([7] ++ ([5] ++ ([11] ++ []))))))))
def A9 (b : List UInt8) (nv na : Int) : Nat → Int → b5 × Int
 | 0, k => (i5 b nv k, k + 2)
 | d + 1, k => if d = 0 then (i5 b nv k, k + 2) else if pk b k 4 = 0 then (i5 b nv (k + 1), k + 3)
  else if nm b (k + 1) G9 = 3 then (if na = 0 then (i5 b nv (k + 2), k + 4) else (⟨3, pk b (k + 2) na, [i5 b nv (k + 3)]⟩, k + 5))
  else (⟨nm b (k + 1) G9, 0, (D0 (A9 b nv na d) (i8 (nm b (k + 1) G9)).toNat (k + 2)).1⟩, (D0 (A9 b nv na d) (i8 (nm b (k + 1) G9)).toNat (k + 2)).2)
def cE : Nat → Int
 | 0 => 2
 | d + 1 => 5 + 3 * cE d
theorem at9 (d : Nat) : 2 ≤ cE d := by
 induction d with
 | zero => exact Int.le_refl _
 | succ d ih => simp only [cE]; omega
theorem ar3 (k : Int) : (i8 k).toNat ≤ 3 := by unfold i8; (repeat' split) <;> decide
theorem ax4 (b : List UInt8) (nv na : Int) : ∀ (d : Nat) (k : Int), k ≤ (A9 b nv na d k).2 ∧ (A9 b nv na d k).2 ≤ k + cE d
 | 0, k => by simp only [A9, cE]; omega
 | d + 1, k => by
  have hc := at9 d
  rw [A9]
  simp only [cE]
  split
  ·simp only; omega
  ·split
   ·simp only; omega
   ·split
    ·split <;> (simp only; omega)
    ·have h3 := ar3 (nm b (k + 1) G9)
     have h := bb2 (f := A9 b nv na d) (c := cE d) (m := 3) (by omega) (i8 (nm b (k + 1) G9)).toNat (k + 2) h3 fun j _ _ => ax4 b nv na d j
     have h4 : ((i8 (nm b (k + 1) G9)).toNat : Int) * cE d ≤ 3 * cE d := bI9 (by omega) (by omega)
     simp only
     omega
theorem aU3 {c : Nat} : ∀ {l : List b5}, (∀ x ∈ l, G7 x ≤ c) → m6 l ≤ l.length * (1 + c)
 | [], _ => bI1 _
 | e :: r, h => by
  have h1 := h e (bF7 ..)
  have h2 := aU3 (l := r) fun x hx => h x (bG0 _ hx)
  simp only [m6, bH3]
  rw [Nat.add_mul]
  omega
theorem bb3 (b : List UInt8) (nv na : Int) : ∀ (d : Nat) (k : Int), (G7 (A9 b nv na d k).1 : Int) ≤ cE d
 | 0, k => by
  simp only [A9, cE, i5]
  split <;> simp [G7, m6]
 | d + 1, k => by
  have hc := at9 d
  have ha : ∀ j, G7 (i5 b nv j) = 0 := fun j => by unfold i5; split <;> rfl
  rw [A9]
  simp only [cE]
  split
  ·simp only [ha]; omega
  ·split
   ·simp only [ha]; omega
   ·split
    ·split
     ·simp only [ha]; omega
     ·simp only [G7, m6, ha]; omega
    ·have h3 := ar3 (nm b (k + 1) G9)
     have h1 := bj1 (f := A9 b nv na d) (Q := fun x => G7 x ≤ (cE d).toNat) (fun j => by have := bb3 b nv na d j; omega) (i8 (nm b (k + 1) G9)).toNat (k + 2)
     have h2 := aU3 h1
     rw [aC3] at h2
     simp only [G7]
     have h4 := bI5 (1 + (cE d).toNat) h3
     omega
abbrev G5 : List Int := [2] ++ ([3] ++ ([2] ++ ([1] ++ ([4] ++ []))))
def o8 (b : List UInt8) (nv na : Nat) (k : Int) : b5 × Int :=
 if d8 nv na (A9 b nv na (nm b k G5).toNat (k + 1)).1 = true then A9 b nv na (nm b k G5).toNat (k + 1)
 else (i5 b nv (A9 b nv na (nm b k G5).toNat (k + 1)).2, (A9 b nv na (nm b k G5).toNat (k + 1)).2 + 2)
theorem cE4 {d : Nat} (h : d ≤ 4) : cE d ≤ 364 := by
 match d, h with
 | 0, _ => decide
 | 1, _ => decide
 | 2, _ => decide
 | 3, _ => decide
 | 4, _ => decide
theorem dp4 (b : List UInt8) {k : Int} (hk : 0 ≤ k) (hk2 : k ≤ 1000000000) : 1 ≤ nm b k G5 ∧ nm b k G5 ≤ 4 ∧ (nm b k G5).toNat ≤ 4 := by
 have h := aB0 b hk hk2 (l := G5) (by simp)
 simp only [bG8, bI2, List.not_mem_nil, or_false] at h
 omega
theorem bb4 (b : List UInt8) {k : Int} (hk : 0 ≤ k) (hk2 : k ≤ 1000000000) : nm b k G5 = ((nm b k G5).toNat : Int) := by have := dp4 b hk hk2; omega
theorem aF8 (b : List UInt8) (nv na : Nat) {k : Int} (hk : 0 ≤ k) (hk2 : k ≤ 1000000000) : k ≤ (o8 b nv na k).2 ∧ (o8 b nv na k).2 ≤ k + 367 := by
 have h := ax4 b nv na (nm b k G5).toNat (k + 1)
 have h2 := cE4 (dp4 b hk hk2).2.2
 unfold o8
 split
 ·omega
 ·simp only; omega
theorem aK2 (b : List UInt8) (nv j : Int) : G7 (i5 b nv j) = 0 := by unfold i5; split <;> rfl
theorem aN2 (b : List UInt8) (nv na : Nat) {k : Int} (hk : 0 ≤ k) (hk2 : k ≤ 1000000000) : G7 (o8 b nv na k).1 ≤ 364 := by
 have h := bb3 b nv na (nm b k G5).toNat (k + 1)
 have h2 := cE4 (dp4 b hk hk2).2.2
 unfold o8
 split
 ·omega
 ·rw [aK2]; omega
abbrev noE : b5 := ⟨0, 0, []⟩
abbrev F5 : List Int := [1] ++ ([1] ++ ([2] ++ ([3] ++ ([4] ++ ([1] ++ ([3] ++ ([5] ++ [])))))))
abbrev ibL : List Int := [1] ++ ([2] ++ ([1] ++ ([0] ++ [])))
abbrev ieL : List Int := [0] ++ ([1] ++ ([0] ++ ([2] ++ [])))
abbrev rcL : List Int := [2] ++ ([1] ++ ([3] ++ []))
abbrev rbL : List Int := [1] ++ ([2] ++ ([1] ++ []))
def dfS (b : List UInt8) (nv na : Nat) (kd k : Int) : b8 × Int := (⟨if kd = 5 then 5 else 1, pk b k nv, noE, (o8 b nv na (k + 1)).1, 0, [], []⟩, (o8 b nv na (k + 1)).2)
def soS (b : List UInt8) (nv na : Nat) (k : Int) : b8 × Int := (⟨2, pk b k na, i5 b nv (k + 1), (o8 b nv na (k + 1 + 2)).1, 0, [], []⟩, (o8 b nv na (k + 1 + 2)).2)
def mnD (b : List UInt8) (f : Int → b8 × Int) (l : List Int) (k : Int) : List b8 × Int := D0 f (nm b k l).toNat (k + 1)
def ifS (b : List UInt8) (nv na : Nat) (f : Int → b8 × Int) (k : Int) : b8 × Int :=
 (⟨3, 0, noE, (o8 b nv na k).1, 0, (mnD b f ibL (o8 b nv na k).2).1, (mnD b f ieL (mnD b f ibL (o8 b nv na k).2).2).1⟩, (mnD b f ieL (mnD b f ibL (o8 b nv na k).2).2).2)
def rpS (b : List UInt8) (f : Int → b8 × Int) (k : Int) : b8 × Int := (⟨4, 0, noE, noE, nm b k rcL, (mnD b f rbL (k + 1)).1, []⟩, (mnD b f rbL (k + 1)).2)
def A3 (b : List UInt8) (nv na : Nat) : Nat → Int → b8 × Int
 | 0, k => if nm b k F5 = 2 ∧ na ≠ 0 then soS b nv na (k + 1) else dfS b nv na (nm b k F5) (k + 1)
 | d + 1, k => if nm b k F5 = 2 ∧ na ≠ 0 then soS b nv na (k + 1) else if nm b k F5 = 3 ∧ d ≠ 0 then ifS b nv na (A3 b nv na d) (k + 1) else if nm b k F5 = 4 ∧ d ≠ 0 then rpS b (A3 b nv na d) (k + 1)
  else dfS b nv na (nm b k F5) (k + 1)
def cS : Nat → Int
 | 0 => 402
 | d + 1 => 402 + 4 * cS d
theorem am0 (d : Nat) : 402 ≤ cS d := by
 induction d with
 | zero => exact Int.le_refl _
 | succ d ih => simp only [cS]; omega
section
variable (b : List UInt8) (nv na : Nat) {k : Int}
theorem bn2 (kd : Int) (hk : 0 ≤ k) (hk2 : k + 400 ≤ 1000000000) : k ≤ (dfS b nv na kd k).2 ∧ (dfS b nv na kd k).2 ≤ k + 368 := by
 have h := aF8 b nv na (k := k + 1) (by omega) (by omega)
 simp only [dfS]; omega
theorem bl8 (hk : 0 ≤ k) (hk2 : k + 400 ≤ 1000000000) : k ≤ (soS b nv na k).2 ∧ (soS b nv na k).2 ≤ k + 370 := by
 have h := aF8 b nv na (k := k + 1 + 2) (by omega) (by omega)
 simp only [soS]; omega
theorem nm2 {l : List Int} (hl : l ≠ []) (h : ∀ x ∈ l, 0 ≤ x ∧ x ≤ 2) (hk : 0 ≤ k) (hk2 : k ≤ 1000000000) : (nm b k l).toNat ≤ 2 ∧ nm b k l = ((nm b k l).toNat : Int) := by
 have := h _ (aB0 b hk hk2 hl); omega
theorem a76 {f : Int → b8 × Int} {c : Int} {l : List Int} (hl : l ≠ []) (h : ∀ x ∈ l, 0 ≤ x ∧ x ≤ 2) (hc : 0 ≤ c) (hk : 0 ≤ k) (hk2 : k + 1 + 2 * c ≤ 1000000000) (hf : ∀ j, 0 ≤ j → j + c ≤ 1000000000 → j ≤ (f j).2 ∧ (f j).2 ≤ j + c) : k ≤ (mnD b f l k).2 ∧ (mnD b f l k).2 ≤ k + 1 + 2 * c := by
 have h2 := (nm2 b hl h hk (by omega)).1
 have h3 : ∀ m : Nat, m ≤ 2 → k + 1 ≤ (D0 f m (k + 1)).2 ∧ (D0 f m (k + 1)).2 ≤ k + 1 + m * c := by
  intro m
  induction m with
  | zero => intro _; simp [D0]
  | succ m ih =>
   intro hm
   have h4 := ih (by omega)
   have h6 : (m : Int) * c ≤ 1 * c := bI9 (by omega) hc
   have h5 := hf (D0 f m (k + 1)).2 (by omega) (by omega)
   have e : ((m + 1 : Nat) : Int) * c = m * c + c := by rw [Int.natCast_add, Int.add_mul]; simp
   simp only [D0]
   rw [e]
   omega
 have h4 := h3 _ h2
 have h6 : ((nm b k l).toNat : Int) * c ≤ 2 * c := bI9 (by omega) hc
 unfold mnD
 omega
theorem aQ4 : ∀ x : Int, x ∈ ibL → 0 ≤ x ∧ x ≤ 2 := by intro x hx; simp only [bG8, bI2, List.not_mem_nil, or_false] at hx; omega
theorem aQ2 : ∀ x : Int, x ∈ ieL → 0 ≤ x ∧ x ≤ 2 := by intro x hx; simp only [bG8, bI2, List.not_mem_nil, or_false] at hx; omega
theorem aO3 : ∀ x : Int, x ∈ rbL → 0 ≤ x ∧ x ≤ 2 := by intro x hx; simp only [bG8, bI2, List.not_mem_nil, or_false] at hx; omega
theorem bm7 {f : Int → b8 × Int} {c : Int} (hc : 0 ≤ c) (hk : 0 ≤ k) (hk2 : k + 380 + 4 * c ≤ 1000000000) (hf : ∀ j, 0 ≤ j → j + c ≤ 1000000000 → j ≤ (f j).2 ∧ (f j).2 ≤ j + c) : k ≤ (o8 b nv na k).2 ∧ (o8 b nv na k).2 ≤ k + 367 ∧ (o8 b nv na k).2 ≤ (mnD b f ibL (o8 b nv na k).2).2 ∧ (mnD b f ibL (o8 b nv na k).2).2 ≤ k + 370 + 2 * c ∧ k ≤ (ifS b nv na f k).2 ∧ (ifS b nv na f k).2 ≤ k + 380 + 4 * c := by
 have h1 := aF8 b nv na (k := k) (by omega) (by omega)
 have h2 := a76 b (k := (o8 b nv na k).2) (f := f) (c := c) (l := ibL) (by simp) aQ4 hc (by omega) (by omega) hf
 have h3 := a76 b (k := (mnD b f ibL (o8 b nv na k).2).2) (f := f) (c := c) (l := ieL) (by simp) aQ2 hc (by omega) (by omega) hf
 simp only [ifS]
 omega
theorem bu2 {f : Int → b8 × Int} {c : Int} (hc : 0 ≤ c) (hk : 0 ≤ k) (hk2 : k + 10 + 2 * c ≤ 1000000000) (hf : ∀ j, 0 ≤ j → j + c ≤ 1000000000 → j ≤ (f j).2 ∧ (f j).2 ≤ j + c) : k ≤ (rpS b f k).2 ∧ (rpS b f k).2 ≤ k + 10 + 2 * c := by
 have h2 := a76 b (k := k + 1) (f := f) (c := c) (l := rbL) (by simp) aO3 hc (by omega) (by omega) hf
 simp only [rpS]; omega
theorem aF4 : ∀ (d : Nat) (k : Int), 0 ≤ k → k + cS d ≤ 1000000000 → k ≤ (A3 b nv na d k).2 ∧ (A3 b nv na d k).2 ≤ k + cS d
 | 0, k, hk, hk2 => by
  rw [A3]
  simp only [cS] at hk2 ⊢
  have h1 := bl8 b nv na (k := k + 1) (by omega) (by omega)
  have h2 := bn2 b nv na (k := k + 1) (nm b k F5) (by omega) (by omega)
  split <;> omega
 | d + 1, k, hk, hk2 => by
  rw [A3]
  simp only [cS] at hk2 ⊢
  have hc := am0 d
  have ih := aF4 d
  have h1 := bl8 b nv na (k := k + 1) (by omega) (by omega)
  have h2 := bn2 b nv na (k := k + 1) (nm b k F5) (by omega) (by omega)
  have h3 := bm7 b nv na (k := k + 1) (f := A3 b nv na d) (c := cS d) (by omega) (by omega) (by omega) ih
  have h4 := bu2 b (k := k + 1) (f := A3 b nv na d) (c := cS d) (by omega) (by omega) (by omega) ih
  (repeat' split) <;> omega
theorem aP3 : G7 noE = 0 := rfl
theorem bb5 (kd : Int) (hk : 0 ≤ k) (hk2 : k + 400 ≤ 1000000000) : szS (dfS b nv na kd k).1 ≤ 364 := by
 have h := aN2 b nv na (k := k + 1) (by omega) (by omega)
 simp only [dfS, szS, x9, aP3]; omega
theorem a45 (hk : 0 ≤ k) (hk2 : k + 400 ≤ 1000000000) : szS (soS b nv na k).1 ≤ 364 := by
 have h := aN2 b nv na (k := k + 1 + 2) (by omega) (by omega)
 simp only [soS, szS, x9, aK2]; omega
def Drw (f : Int → b8 × Int) (c : Int) : Prop := ∀ j, 0 ≤ j → j + c ≤ 1000000000 → j ≤ (f j).2 ∧ (f j).2 ≤ j + c ∧ (szS (f j).1 : Int) ≤ c
theorem aC2 {f : Int → b8 × Int} {c : Int} (hc : 0 ≤ c) (hf : Drw f c) : ∀ (m : Nat) (k : Int), 0 ≤ k → k + m * c ≤ 1000000000 → k ≤ (D0 f m k).2 ∧ (D0 f m k).2 ≤ k + m * c ∧ (x9 (D0 f m k).1 : Int) ≤ m * (1 + c) := by
 intro m
 induction m with
 | zero => intro k _ _; simp [D0, x9]
 | succ m ih =>
  intro k hk hk2
  have e : ((m + 1 : Nat) : Int) * c = m * c + c := by rw [Int.natCast_add, Int.add_mul]; simp
  have e2 : ((m + 1 : Nat) : Int) * (1 + c) = m * (1 + c) + (1 + c) := by rw [Int.natCast_add, Int.add_mul]; simp
  rw [e] at hk2
  have h4 := ih k hk (by omega)
  have h5 := hf (D0 f m k).2 (by omega) (by omega)
  have h6 : x9 ((D0 f m k).1 ++ [(f (D0 f m k).2).1]) = x9 (D0 f m k).1 + (1 + szS (f (D0 f m k).2).1) := by
   generalize (D0 f m k).1 = l
   induction l with
   | nil => simp [x9]
   | cons a r ih => simp only [List.cons_append, x9]; omega
  simp only [D0]
  rw [e, e2, h6]
  omega
theorem aP7 {f : Int → b8 × Int} {c : Int} {l : List Int} (hl : l ≠ []) (h : ∀ x ∈ l, 0 ≤ x ∧ x ≤ 2) (hc : 0 ≤ c) (hk : 0 ≤ k) (hk2 : k + 1 + 2 * c ≤ 1000000000) (hf : Drw f c) : (x9 (mnD b f l k).1 : Int) ≤ 2 * (1 + c) := by
 have h2 := (nm2 b hl h hk (by omega)).1
 have h6 : ((nm b k l).toNat : Int) * c ≤ 2 * c := bI9 (by omega) hc
 have h7 : ((nm b k l).toNat : Int) * (1 + c) ≤ 2 * (1 + c) := bI9 (by omega) (by omega)
 have h3 := (aC2 hc hf (nm b k l).toNat (k + 1) (by omega) (by omega)).2.2
 unfold mnD
 omega
theorem aM9 : ∀ (d : Nat) (k : Int), 0 ≤ k → k + cS d ≤ 1000000000 → (szS (A3 b nv na d k).1 : Int) ≤ cS d
 | 0, k, hk, hk2 => by
  rw [A3]
  simp only [cS] at hk2 ⊢
  have h1 := a45 b nv na (k := k + 1) (by omega) (by omega)
  have h2 := bb5 b nv na (k := k + 1) (nm b k F5) (by omega) (by omega)
  split <;> omega
 | d + 1, k, hk, hk2 => by
  rw [A3]
  simp only [cS] at hk2 ⊢
  have hc := am0 d
  have ih := aF4 b nv na d
  have hf : Drw (A3 b nv na d) (cS d) := fun j h1 h2 => ⟨(ih j h1 h2).1, (ih j h1 h2).2, aM9 d j h1 h2⟩
  have h1 := a45 b nv na (k := k + 1) (by omega) (by omega)
  have h2 := bb5 b nv na (k := k + 1) (nm b k F5) (by omega) (by omega)
  have h3 := bm7 b nv na (k := k + 1) (f := A3 b nv na d) (c := cS d) (by omega) (by omega) (by omega) ih
  have h4 := aN2 b nv na (k := k + 1) (by omega) (by omega)
  have h5 := aP7 b (k := (o8 b nv na (k + 1)).2) (l := ibL) (by simp) aQ4 (by omega) (by omega) (by omega) hf
  have h6 := aP7 b (k := (mnD b (A3 b nv na d) ibL (o8 b nv na (k + 1)).2).2) (l := ieL) (by simp) aQ2 (by omega) (by omega) (by omega) hf
  have h7 := aP7 b (k := k + 1 + 1) (l := rbL) (by simp) aO3 (by omega) (by omega) (by omega) hf
  split
  ·omega
  ·split
   ·simp only [ifS, szS, aP3]; omega
   ·split
    ·simp only [rpS, szS, aP3, x9]; omega
    ·omega
theorem bx1 (d : Nat) : Drw (A3 b nv na d) (cS d) := fun j h1 h2 => ⟨(aF4 b nv na d j h1 h2).1, (aF4 b nv na d j h1 h2).2, aM9 b nv na d j h1 h2⟩
theorem bn6 {d m i : Nat} {B : Int} (hB : (m : Int) * cS d ≤ B) (hi : i ≤ m) (hk : 0 ≤ k) (hk2 : k + B ≤ 1000000000) : k ≤ (D0 (A3 b nv na d) i k).2 ∧ (D0 (A3 b nv na d) i k).2 ≤ k + B := by
 have hc := am0 d
 have h6 : (i : Int) * cS d ≤ m * cS d := bI9 (by omega) (by omega)
 have h := aC2 (by omega) (bx1 b nv na d) i k hk (by omega)
 omega
theorem bz0 {d m i : Nat} {B : Int} (hB : (m : Int) * cS d ≤ B) (hi : i < m) (hk : 0 ≤ k) (hk2 : k + B ≤ 1000000000) : (D0 (A3 b nv na d) i k).2 + cS d ≤ k + B := by
 have hc := am0 d
 have h6 : ((i + 1 : Nat) : Int) * cS d ≤ m * cS d := bI9 (by omega) (by omega)
 have e : ((i + 1 : Nat) : Int) * cS d = i * cS d + cS d := by rw [Int.natCast_add, Int.add_mul]; simp
 have h := aC2 (by omega) (bx1 b nv na d) i k hk (by omega)
 omega
theorem bv2 {m : Int} {c : Int} (h0 : 0 ≤ m) (hm : m ≤ 2) (hc : 0 ≤ c) : (m.toNat : Int) * c ≤ 2 * c := bI9 (by omega) hc
theorem bC9 {m : Int} {c : Int} (h0 : 0 ≤ m) (hm : m ≤ 4) (hc : 0 ≤ c) : (m.toNat : Int) * c ≤ 4 * c := bI9 (by omega) hc
end
theorem aw3 (b : List UInt8) {k : Int} {l : List Int} {m : Int} (hl : l ≠ []) (h : ∀ x ∈ l, 0 ≤ x ∧ x ≤ m) (hk : 0 ≤ k) (hk2 : k ≤ 1000000000) : 0 ≤ nm b k l ∧ nm b k l ≤ m := h _ (aB0 b hk hk2 hl)
mutual
def AV.den (t : Bool) (n : Nat) : AV → AV
 | .v x => .v x
 | .ptr a b => .ptr a b
 | .ea a b c d => .ea a b c d
 | .ref i => if !t && natEq i n then .v (.slice none 0 0) else .ref i
 | .agg l => .agg (AV.denL t n l)
 | .tup l => .tup (AV.denL t n l)
 | .fn f l => .fn f (AV.denL t n l)
 | .bm f l => .bm f (AV.denL t n l)
 | .tref i => if t && natEq i n then .v (.slice none 0 0) else .tref i
def AV.denL (t : Bool) (n : Nat) : List AV → List AV
 | [] => []
 | x :: r => x.den t n :: AV.denL t n r
end
def It.den (t : Bool) (n : Nat) : It → It
 | .box cs => .box (AV.denL t n cs)
 | x => x
mutual
theorem AV.val_den {ρ : Nat → Value} {t : Bool} {n : Nat} {z : Value} (hz : if t then z9 z = .slice none 0 0 else z = .slice none 0 0) : ∀ (x : AV), (∀ i ∈ (x.den t n).ids, i < n) → x.val (fun j => if j = n then z else ρ j) = (x.den t n).val ρ ∧ ∀ i ∈ x.ids, i < n + 1
 | .v _, _ => ⟨rfl, fun i hi => by simp [AV.ids] at hi⟩
 | .ptr a b, h => by
  have ha : a < n := h a (by simp [AV.den, AV.ids])
  refine ⟨?_, fun i hi => by simp [AV.ids] at hi; omega⟩
  simp only [AV.den, AV.val]
  rw [if_neg (by omega)]
 | .ea a b c d, h => by
  have ha : a < n := h a (by simp [AV.den, AV.ids])
  refine ⟨?_, fun i hi => by simp [AV.ids] at hi; omega⟩
  simp only [AV.den, AV.val]
  rw [if_neg (by omega)]
 | .ref a, h => by
  by_cases e : t = false ∧ a = n
  ·obtain ⟨rfl, rfl⟩ := e
   refine ⟨?_, fun i hi => by simp [AV.ids] at hi; omega⟩
   simp only [Bool.false_eq_true, if_false] at hz
   simp [AV.den, AV.val, natEq, hz]
  ·have hd : (AV.ref a).den t n = .ref a := by
    simp only [AV.den]
    rw [if_neg]
    simp [natEq]; intro h1 h2; exact e ⟨h1, h2⟩
   rw [hd] at h ⊢
   have ha : a < n := h a (by simp [AV.ids])
   refine ⟨?_, fun i hi => by simp [AV.ids] at hi; omega⟩
   simp only [AV.val]
   rw [if_neg (by omega)]
 | .tref a, h => by
  by_cases e : t = true ∧ a = n
  ·obtain ⟨rfl, rfl⟩ := e
   refine ⟨?_, fun i hi => by simp [AV.ids] at hi; omega⟩
   simp only [if_true] at hz
   simp [AV.den, AV.val, natEq, hz]
  ·have hd : (AV.tref a).den t n = .tref a := by
    simp only [AV.den]
    rw [if_neg]
    simp [natEq]; intro h1 h2; exact e ⟨h1, h2⟩
   rw [hd] at h ⊢
   have ha : a < n := h a (by simp [AV.ids])
   refine ⟨?_, fun i hi => by simp [AV.ids] at hi; omega⟩
   simp only [AV.val]
   rw [if_neg (by omega)]
 | .agg l, h => by
  obtain ⟨h1, h2⟩ := AV.vals_den hz l (by simpa [AV.den, AV.ids] using h)
  exact ⟨by simp only [AV.den, AV.val]; rw [h1], by simpa [AV.ids] using h2⟩
 | .tup l, h => by
  obtain ⟨h1, h2⟩ := AV.vals_den hz l (by simpa [AV.den, AV.ids] using h)
  exact ⟨by simp only [AV.den, AV.val]; rw [h1], by simpa [AV.ids] using h2⟩
 | .fn f l, h => by
  obtain ⟨h1, h2⟩ := AV.vals_den hz l (by simpa [AV.den, AV.ids] using h)
  exact ⟨by simp only [AV.den, AV.val]; rw [h1], by simpa [AV.ids] using h2⟩
 | .bm f l, h => by
  obtain ⟨h1, h2⟩ := AV.vals_den hz l (by simpa [AV.den, AV.ids] using h)
  exact ⟨by simp only [AV.den, AV.val]; rw [h1], by simpa [AV.ids] using h2⟩
theorem AV.vals_den {ρ : Nat → Value} {t : Bool} {n : Nat} {z : Value} (hz : if t then z9 z = .slice none 0 0 else z = .slice none 0 0) : ∀ (l : List AV), (∀ i ∈ AV.idsL (AV.denL t n l), i < n) → AV.vals (fun j => if j = n then z else ρ j) l = AV.vals ρ (AV.denL t n l) ∧ ∀ i ∈ AV.idsL l, i < n + 1
 | [], _ => ⟨rfl, fun i hi => by simp [AV.idsL] at hi⟩
 | x :: r, h => by
  obtain ⟨h1, h2⟩ := AV.val_den hz x fun i hi => h i (by simp only [AV.denL, AV.idsL, bG8]; exact .inl hi)
  obtain ⟨h3, h4⟩ := AV.vals_den hz r fun i hi => h i (by simp only [AV.denL, AV.idsL, bG8]; exact .inr hi)
  refine ⟨by simp only [AV.denL, AV.vals]; rw [h1, h3], fun i hi => ?_⟩
  simp only [AV.idsL, bG8] at hi
  rcases hi with hi | hi
  ·exact h2 i hi
  ·exact h4 i hi
end
theorem ar0 {m : Bool} {n : Nat} {t : Nat} {x : AV} : ∀ {tm : List (Nat × AV)}, v8 tm t = some x → v8 (tm.map fun p => (p.1, p.2.den m n)) t = some (x.den m n)
 | [], h => by cases h
 | (k, y) :: r, h => by
  simp only [v8, bH5] at h ⊢
  split at h
  ·rename_i e; cases h; rw [if_pos e]
  ·rename_i e; rw [if_neg e]; exact ar0 h
section
variable {P : Program} {ι : Type} {φ ψ : Nat → Prop} {w0 w : World} {F : ι → Rs} {ρ ρ0 : Nat → Value} {N m n : Nat} {S : List It} {tm : List (Nat × AV)} {a : Act}
theorem t7.nilW (G : t7 φ ψ w0 F N m ρ0 ρ S tm a w) (n : Nat) (hn : S.length = n) (b : Bool) (x : It) (z : Value) (hz : if b then z9 z = .slice none 0 0 else z = .slice none 0 0) (hids : x.ids = []) (hb : ∀ g, ¬ (x.res (fun j => if j = n then z else ρ j) n).blk g)
  (hx : ∀ φ', (x.res (fun j => if j = n then z else ρ j) n).holds w φ') (S1 : List It) (tm1 : List (Nat × AV)) (hS : S = S1.map (It.den b n)) (ht : tm = tm1.map fun p => (p.1, p.2.den b n)) :
  ∃ ρ', t7 φ ψ w0 F N m ρ0 ρ' (S1 ++ [x]) tm1 a w := by
 have hl : S1.length = n := by rw [← hn, hS, List.length_map]
 have hat : ∀ j (hj : j < n), n5 S j = (S1[j]'(by omega)).den b n := fun j hj => by
  rw [ac2 (show j < S.length by omega)]
  have h1 := congrArg (·[j]?) hS
  simp only [List.getElem?_map, bF0 (show j < S.length by omega), bF0 (show j < S1.length by omega), Option.map_some, Option.some.injEq] at h1
  exact h1
 have hnew : ∀ j (hj : j < n), n5 (S1 ++ [x]) j = S1[j]'(by omega) := fun j hj => by
  simp [n5, bF2, bH1 (show j < S1.length by omega), bF0 (show j < S1.length by omega)]
 have hlast : n5 (S1 ++ [x]) n = x := by
  simp [n5, bF2, ← hl]
 have hout : ∀ j, n < j → n5 (S1 ++ [x]) j = .none := fun j hj => s9 (by simp; omega)
 have hbx : ∀ j (hj : j < n), ((S1[j]'(by omega)).res (fun j => if j = n then z else ρ j) j = (n5 S j).res ρ j) ∧ ∀ i ∈ (S1[j]'(by omega)).ids, i < n + 1 := fun j hj => by
  rw [hat j hj]
  have hb := (G.bd j).1
  rw [hat j hj, hn] at hb
  generalize S1[j]'(by omega) = x at *
  cases x with
  | box cs =>
   obtain ⟨h1, h2⟩ := AV.vals_den (ρ := ρ) (n := n) hz cs hb
   refine ⟨?_, h2⟩
   simp only [It.res, It.den]
   rw [h1, if_neg (show ¬ j = n by omega)]
  | none => exact ⟨rfl, fun i hi => by cases hi⟩
  | dead => exact ⟨rfl, fun i hi => by cases hi⟩
  | dat d' => exact ⟨by simp only [It.res, It.den]; rw [if_neg (show ¬ j = n by omega)], fun i hi => by cases hi⟩
  | row e' d' => exact ⟨by simp only [It.res, It.den]; rw [if_neg (show ¬ j = n by omega)], fun i hi => by cases hi⟩
  | tree d' => exact ⟨by simp only [It.res, It.den]; rw [if_neg (show ¬ j = n by omega)], fun i hi => by cases hi⟩
  | kept e' d' => exact ⟨by cases e' <;> (simp only [It.res, It.den]; rw [if_neg (show ¬ j = n by omega)]), fun i hi => by cases hi⟩
  | hole k q ls =>
   have hk : k < n := hb k (by simp [It.den, It.ids])
   exact ⟨by simp only [It.res, It.den]; rw [if_neg (show ¬ j = n by omega), if_neg (show ¬ k = n by omega)], fun i hi => by simp [It.ids] at hi; omega⟩
 have hw : ∀ t x, v8 tm1 t = some x → x.val (fun j => if j = n then z else ρ j) = (x.den b n).val ρ ∧ ∀ i ∈ x.ids, i < n + 1 := fun t x hx => by
  refine AV.val_den hz x fun i hi => ?_
  have h1 : v8 tm t = some (x.den b n) := by rw [ht]; exact ar0 hx
  have := G.tmi t _ h1 i hi
  omega
 refine ⟨fun j => if j = n then z else ρ j, ?_⟩
 refine ⟨G.size, G.defs, fun t x hx => ?_, fun t x hx i hi => ?_, fun j => ⟨fun i hi => ?_, fun hj => s9 hj⟩, ?_, ?_, fun i hi => ?_⟩
 ·have h1 : v8 tm t = some (x.den b n) := by rw [ht]; exact ar0 hx
  rw [(hw t x hx).1]; exact G.tmv t _ h1
 ·have := (hw t x hx).2 i hi
  simp; omega
 ·rcases Nat.lt_trichotomy j n with h | h | h
  ·rw [hnew j h] at hi
   have := (hbx j h).2 i hi
   simp; omega
  ·subst h; rw [hlast, hids] at hi; cases hi
  ·rw [hout j h] at hi; cases hi
 ·refine i9.put G.mem (.inr n) (fun k hk => ?_) (y6.refl _ _) ?_ ?_
  ·cases k with
   | inl i => rfl
   | inr j =>
    simp only [l7]
    rcases Nat.lt_trichotomy j n with h | h | h
    ·rw [hnew j h]; exact (hbx j h).1
    ·exact absurd (by rw [h]) hk
    ·rw [hout j h, s9 (show S.length ≤ j by omega)]; rfl
  ·simp only [l7, hlast]; exact hx _
  ·intro g hg
   simp only [l7, hlast] at hg
   exact absurd hg (hb g)
 ·have := G.le; simp; omega
 ·show (if i = n then _ else ρ i) = ρ0 i
  have := G.le
  rw [if_neg (by omega)]; exact G.old i hi
theorem t7.nil (G : t7 φ ψ w0 F N m ρ0 ρ S tm a w) (n : Nat) (e : TypeId) (d : D) (k : Nat) (S1 : List It) (tm1 : List (Nat × AV)) (hn : S.length = n := by kernel_rfl) (hd : D.nil k = some d := by kernel_rfl) (hS : S = S1.map (It.den false n) := by kernel_rfl) (ht : tm = tm1.map (fun p => (p.1, p.2.den false n)) := by kernel_rfl) :
  ∃ ρ', t7 φ ψ w0 F N m ρ0 ρ' (S1 ++ [.row e d]) tm1 a w := by
 have hz := D.nil_len hd
 refine G.nilW n hn false (.row e d) (.slice none 0 0) (by simp) rfl (fun g hg => ?_) (fun φ' => ?_) S1 tm1 hS ht
 ·simp only [It.res, if_true] at hg
  cases hg
 ·simp only [It.res, if_true]
  refine ⟨fun xs => RW.nice d xs, [], ?_, RW.nil hz _⟩
  rw [hz]; exact World.ownsRow_nil _ _ _ _
theorem t7.nilT (G : t7 φ ψ w0 F N m ρ0 ρ S tm a w) (n : Nat) (d : D) (S1 : List It) (tm1 : List (Nat × AV)) (hn : S.length = n := by kernel_rfl) (hd : ((ab0 d).isSome && natEq d.len 0) = true := by kernel_rfl) (hS : S = S1.map (It.den true n) := by kernel_rfl) (ht : tm = tm1.map (fun p => (p.1, p.2.den true n)) := by kernel_rfl) :
  ∃ ρ', t7 φ ψ w0 F N m ρ0 ρ' (S1 ++ [.tree d]) tm1 a w := by
 simp only [bE8, natEq, beq_iff_eq] at hd
 obtain ⟨e, he⟩ := bI8.1 hd.1
 obtain ⟨z, h1, h2⟩ := ac9 (.slice none 0 0) (fun _ => False) 0 fun b h => h.elim
 refine G.nilW n hn true (.tree d) z (by simp [h1]) rfl (fun g hg => ?_) (fun φ' => ?_) S1 tm1 hS ht
 ·simp only [It.res, if_true] at hg
  exact ((h2 g).1 hg).elim
 ·simp only [It.res, if_true]
  rw [h1]
  refine ⟨fun _ _ h hs => h.same hs, ⟨e, [], fun _ => False, he, ?_, (fun g hg => by cases hg), (fun b hb => hb.elim), ?_⟩, fun b hb => ((h2 b).1 hb).elim⟩
  ·rw [hd.2]; exact World.ownsRow_nil _ _ _ _
  ·have h0 := hd.2
   cases d <;> simp only [ab0] at he <;> first | cases he | skip
   all_goals (simp only [D.len] at h0; rw [List.eq_nil_of_length_eq_zero h0]; rfl)
end
inductive Ln where
 | no
 | row (e : TypeId)
 | tree
def t4 (M : List Ln) (i : Nat) : Ln := M.getD i .no
def Ln.isT : Ln → Bool
 | .tree => true
 | _ => false
mutual
def AV.tr (M : List Ln) : AV → AV
 | .v x => .v x
 | .ptr a b => .ptr a b
 | .ea a b c d => .ea a b c d
 | .ref i => if (t4 M i).isT then .tref i else .ref i
 | .agg l => .agg (AV.trL M l)
 | .tup l => .tup (AV.trL M l)
 | .fn f l => .fn f (AV.trL M l)
 | .bm f l => .bm f (AV.trL M l)
 | .tref i => .tref i
def AV.trL (M : List Ln) : List AV → List AV
 | [] => []
 | x :: r => x.tr M :: AV.trL M r
end
mutual
def AV.trOk (M : List Ln) : AV → Bool
 | .v _ => true
 | .ptr a _ => !(t4 M a).isT
 | .ea a _ _ _ => !(t4 M a).isT
 | .ref _ => true
 | .agg l => AV.trOkL M l
 | .tup l => AV.trOkL M l
 | .fn _ l => AV.trOkL M l
 | .bm _ l => AV.trOkL M l
 | .tref i => !(t4 M i).isT
def AV.trOkL (M : List Ln) : List AV → Bool
 | [] => true
 | x :: r => x.trOk M && AV.trOkL M r
end
mutual
theorem AV.val_tr {ρ ρ' : Nat → Value} {M : List Ln} (h : ∀ i, ρ' i = if (t4 M i).isT then z9 (ρ i) else ρ i) : ∀ (x : AV), x.trOk M = true → (x.tr M).val ρ = x.val ρ'
 | .v _, _ => rfl
 | .ptr a _, hx => by
  simp only [AV.trOk, bF8] at hx
  simp only [AV.tr, AV.val]; rw [h a, hx]; rfl
 | .ea a _ _ _, hx => by
  simp only [AV.trOk, bF8] at hx
  simp only [AV.tr, AV.val]; rw [h a, hx]; rfl
 | .ref i, _ => by
  simp only [AV.tr]
  cases hm : (t4 M i).isT
  ·simp only [Bool.false_eq_true, if_false, AV.val]; rw [h i, hm]; rfl
  ·simp only [if_true, AV.val]; rw [h i, hm]; rfl
 | .agg l, hx => by simp only [AV.tr, AV.val]; rw [AV.vals_tr h l (by simpa [AV.trOk] using hx)]
 | .tup l, hx => by simp only [AV.tr, AV.val]; rw [AV.vals_tr h l (by simpa [AV.trOk] using hx)]
 | .fn _ l, hx => by simp only [AV.tr, AV.val]; rw [AV.vals_tr h l (by simpa [AV.trOk] using hx)]
 | .bm _ l, hx => by simp only [AV.tr, AV.val]; rw [AV.vals_tr h l (by simpa [AV.trOk] using hx)]
 | .tref i, hx => by
  simp only [AV.trOk, bF8] at hx
  simp only [AV.tr, AV.val]; rw [h i, hx]; rfl
theorem AV.vals_tr {ρ ρ' : Nat → Value} {M : List Ln} (h : ∀ i, ρ' i = if (t4 M i).isT then z9 (ρ i) else ρ i) : ∀ (l : List AV), AV.trOkL M l = true → AV.vals ρ (AV.trL M l) = AV.vals ρ' l
 | [], _ => rfl
 | x :: r, hx => by
  simp only [AV.trOkL, bE8] at hx
  simp only [AV.trL, AV.vals]; rw [AV.val_tr h x hx.1, AV.vals_tr h r hx.2]
end
def t0 (M : List Ln) : Ln → It → It
 | .row e, .dat d => .row e d
 | .tree, .dat d => .tree d
 | .no, .box cs => .box (AV.trL M cs)
 | _, x => x
def E6 (M : List Ln) (S : List It) : List It := (bH0 S.length).map fun i => t0 M (t4 M i) (n5 S i)
theorem L4 (M : List Ln) (S : List It) (i : Nat) : n5 (E6 M S) i = t0 M (t4 M i) (n5 S i) := by
 unfold E6
 rcases bH7 i S.length with h | h
 ·conv => lhs; rw [n5, bF2, List.getElem?_map, List.getElem?_range h]
  rfl
 ·rw [s9 (by simpa using h), s9 h]
  cases t4 M i <;> rfl
def aI8 : D → Bool
 | .rows _ => false
 | .brows _ => false
 | .exprs _ => false
 | .stmts _ => false
 | _ => true
theorem aW5 {w w' : World} {φ φ' : Nat → Prop} {d : D} {xs : List Value} (hd : aI8 d = true) (h : RW w φ d xs) : RW w' φ' d xs := by
 intro i hi j x hx
 obtain ⟨u, h1, h2⟩ := h i hi j x hx
 refine ⟨u, h1, ?_⟩
 have : ∃ y, x = .v y := by
  have hm := bE9 hx
  cases d <;> simp only [aI8, Bool.false_eq_true] at hd <;> simp [D.elem, aQ1, ac8] at hm
  ·exact ⟨_, hm⟩
  ·exact ⟨_, hm⟩
  ·exact ⟨_, hm⟩
  ·exact ⟨_, hm⟩
  ·rcases hm with h | h | h | h | h <;> exact ⟨_, h⟩
  ·rcases hm with h | h <;> exact ⟨_, h⟩
 obtain ⟨y, rfl⟩ := this
 exact h2
def aB4 (M : List Ln) (l : Ln) (p x : It) : Bool :=
 match l with
 | .no => match x with
  | .dat _ => (match p with | .dat _ => true | _ => false)
  | .row _ d => aI8 d
  | .box cs => AV.trOkL M cs
  | .kept _ _ => false
  | .hole _ _ _ => false
  | _ => true
 | .row _ => (match p, x with | .dat d, .dat _ => aI8 d | _, _ => false)
 | .tree => (match p, x with | .dat d, .dat _ => (ab0 d).isSome | _, _ => false)
def a68 (M : List Ln) (l : Ln) (p : It) : Bool :=
 match l, p with
 | .no, .box cs => AV.trOkL M cs
 | .no, .hole _ _ _ => false
 | _, _ => true
def a80 (M : List Ln) (c : i6) : Bool :=
 decide (M.length ≤ c.pre.length) && decide (c.pre.length ≤ c.post.length) && AV.trOkL M c.args && c.res.trOk M && (bH0 c.post.length).all (fun i => aB4 M (t4 M i) (n5 c.pre i) (n5 c.post i)) && (bH0 c.pre.length).all fun i => a68 M (t4 M i) (n5 c.pre i)
def Rs.snap (w : World) (r : Rs) : Rs := .own r.blk fun w' => ∀ b, r.blk b → b < w.heap.size → w'.heap[b]? = w.heap[b]?
theorem Rs.snap_holds {w : World} {φ φ' : Nat → Prop} {r : Rs} (h : r.holds w φ) : (r.snap w).holds w φ' := by
 refine ⟨fun w1 w2 h1 h2 b hb hlt => ?_, fun b _ _ => rfl, fun b hb => Rs.lt h hb⟩
 have h3 := h1 b hb hlt
 rw [h2 b hb, h3]
 have : (w1.heap[b]?).isSome = true := by rw [h3, Array.getElem?_eq_getElem hlt]; rfl
 obtain ⟨o, ho⟩ := bI8.1 this
 exact (Array.getElem?_eq_some_iff.1 ho).1
theorem aC4 : ∀ {P X : List It} {i : Nat} {d e : D}, ai6 P X = ai5 P X → n5 P i = .dat d → n5 X i = .dat e → d = e
 | P, X, i, d, e, h, h1, h2 => by
  have hp : P[i]? = some (.dat d) := by
   rcases bH7 i P.length with hl | hl
   ·rw [ac2 hl] at h1; rw [bF0 hl, h1]
   ·rw [s9 hl] at h1; cases h1
  have hx : X[i]? = some (.dat e) := by
   rcases bH7 i X.length with hl | hl
   ·rw [ac2 hl] at h2; rw [bF0 hl, h2]
   ·rw [s9 hl] at h2; cases h2
  exact bq8 h hp hx
theorem i6.lend0 {P : Program} {c : i6} (hc : c.ok P) (M : List Ln) (hb : a80 M c = true) (he : ai6 c.pre c.post = ai5 c.pre c.post) : i6.ok P ⟨c.f, AV.trL M c.args, E6 M c.pre, E6 M c.post, c.res.tr M⟩ := by
 simp only [a80, bE8, decide_eq_true_eq] at hb
 obtain ⟨⟨⟨⟨⟨hM, hle⟩, hargs⟩, hres⟩, hpost⟩, hpre⟩ := hb
 have hno : ∀ i, c.pre.length ≤ i → t4 M i = .no := fun i hi => by
  unfold t4; rw [bF2, bH2 (by omega)]; rfl
 have hpo : ∀ i, aB4 M (t4 M i) (n5 c.pre i) (n5 c.post i) = true := fun i => by
  rcases bH7 i c.post.length with h | h
  ·exact bF5.1 hpost i (List.mem_range.2 h)
  ·rw [hno i (by omega), s9 h]; rfl
 have hpr : ∀ i, a68 M (t4 M i) (n5 c.pre i) = true := fun i => by
  rcases bH7 i c.pre.length with h | h
  ·exact bF5.1 hpre i (List.mem_range.2 h)
  ·rw [hno i h, s9 h]; rfl
 intro ι φ ψ w0 w F ρ MM
 let ρ1 : Nat → Value := fun i => if (t4 M i).isT then z9 (ρ i) else ρ i
 have hρ1 : ∀ i, ρ1 i = if (t4 M i).isT then z9 (ρ i) else ρ i := fun _ => rfl
 let F1 : ι → Rs := fun i => (F i).snap w
 have hLi : ∀ i, l7 F ρ (n5 (E6 M c.pre)) (.inl i) = F i := fun _ => rfl
 have hLj : ∀ j, l7 F ρ (n5 (E6 M c.pre)) (.inr j) = (t0 M (t4 M j) (n5 c.pre j)).res ρ j := fun j => by simp only [l7]; rw [L4]
 generalize hL : l7 F ρ (n5 (E6 M c.pre)) = L at MM hLi hLj
 have h1j : ∀ j, t4 M j = .no → (n5 c.pre j).res ρ1 j = L (.inr j) := fun j hl => by
  rw [hLj, hl]
  have hp := hpr j
  have e : ρ1 j = ρ j := by rw [hρ1, hl]; rfl
  cases hx : n5 c.pre j with
  | none => rfl
  | dead => rfl
  | dat d => simp only [t0, It.res]; rw [e]
  | row e' d => simp only [t0, It.res]; rw [e]
  | tree d => simp only [t0, It.res]; rw [e]
  | kept e' d => cases e' <;> (simp only [t0, It.res]; rw [e])
  | hole k i ls => rw [hl, hx] at hp; cases hp
  | box cs =>
   rw [hl, hx] at hp
   simp only [a68] at hp
   simp only [t0, It.res]
   rw [e, AV.vals_tr hρ1 cs hp]
 have hlent : ∀ j, t4 M j ≠ .no → (∃ d, n5 c.pre j = .dat d ∧ n5 c.post j = .dat d ∧ ((∃ e, t4 M j = .row e ∧ aI8 d = true) ∨ t4 M j = .tree)) := fun j hj => by
  have h := hpo j
  cases hl : t4 M j with
  | no => exact absurd hl hj
  | row e =>
   rw [hl] at h
   simp only [aB4] at h
   split at h
   ·rename_i d d' h1 h2
    exact ⟨d, h1, by rw [h2, ← aC4 he h1 h2], .inl ⟨e, rfl, h⟩⟩
   ·cases h
  | tree =>
   rw [hl] at h
   simp only [aB4] at h
   split at h
   ·rename_i d d' h1 h2
    exact ⟨d, h1, by rw [h2, ← aC4 he h1 h2], .inr rfl⟩
   ·cases h
 have hsub : ∀ k b, (l7 F1 ρ1 (n5 c.pre) k).blk b → (L k).blk b ∧ ∀ j, k = .inr j → t4 M j = .no := fun k b hb => by
  cases k with
  | inl i => rw [hLi]; exact ⟨hb, fun j h => by cases h⟩
  | inr j =>
   by_cases hl : t4 M j = .no
   ·simp only [l7] at hb
    rw [h1j j hl] at hb
    exact ⟨hb, fun j' h => by cases h; exact hl⟩
   ·obtain ⟨d, h1, _⟩ := hlent j hl
    simp only [l7, h1, It.res] at hb
    exact hb.elim
 have hfr1 : ∀ b, O2 φ L b → O2 φ (l7 F1 ρ1 (n5 c.pre)) b := fun b hb => ⟨hb.1, fun k hk => hb.2 k (hsub k b hk).1⟩
 let ψ1 : Nat → Prop := fun b => ∀ k, ¬ (l7 F1 ρ1 (n5 c.pre) k).blk b
 have M1 : i9 φ ψ1 w w (l7 F1 ρ1 (n5 c.pre)) := by
  refine ⟨y6.refl _ _, fun b hb => MM.fresh b (bH6 MM.size hb), fun k => ?_, fun k k' b hkk h1 h2 => MM.dis k k' b hkk (hsub k b h1).1 (hsub k' b h2).1, fun k b h1 => .inr fun h => h k h1, fun k b h1 => MM.ph k b (hsub k b h1).1⟩
  cases k with
  | inl i => exact Rs.snap_holds (show (F i).holds w _ from by rw [← hLi i]; exact MM.holds (.inl i))
  | inr j =>
   by_cases hl : t4 M j = .no
   ·simp only [l7]
    rw [h1j j hl]
    exact Rs.keep (MM.holds (.inr j)) (O1.mono fun b _ hf => hfr1 b hf) fun _ _ => rfl
   ·obtain ⟨d, h1, h2, h3⟩ := hlent j hl
    have hh := MM.holds (.inr j)
    have hown : ∀ b, (L (.inr j)).blk b → O2 φ (l7 F1 ρ1 (n5 c.pre)) b := fun b hb => ⟨MM.ph _ _ hb, fun k hk => by
     obtain ⟨q1, q2⟩ := hsub k b hk
     by_cases e : k = .inr j
     ·exact hl (q2 j e)
     ·exact MM.dis k (.inr j) b e q1 hb⟩
    simp only [l7, h1, It.res]
    refine ⟨RD.nice _ _, ?_⟩
    rcases h3 with ⟨e, h3, hflat⟩ | h3
    ·rw [hLj, h3, h1] at hh
     simp only [t0, It.res] at hh
     obtain ⟨_, xs, o1, o2⟩ := hh
     have e1 : ρ1 j = ρ j := by rw [hρ1, h3]; rfl
     rw [e1]
     refine RD.make (A0 o1 fun g hg => hown g ?_) (aW5 hflat o2)
     rw [hLj, h3, h1]; exact hg
    ·rw [hLj, h3, h1] at hh
     simp only [t0, It.res] at hh
     have e1 : ρ1 j = z9 (ρ j) := by rw [hρ1, h3]; rfl
     rw [e1]
     refine A8.read hh.2.1 fun b hb => hown b ?_
     rw [hLj, h3, h1]; exact hb
 simp only
 rw [AV.vals_tr hρ1 c.args hargs]
 refine (hc ι φ ψ1 w w F1 ρ1 M1).mono ?_
 rintro x w' ⟨ρ2, g1, g2, M2⟩
 have hplen : (E6 M c.pre).length = c.pre.length := by simp [E6]
 let ρ' : Nat → Value := fun j => if j < c.pre.length then ρ j else ρ2 j
 have hρ' : ∀ j, ρ2 j = if (t4 M j).isT then z9 (ρ' j) else ρ' j := fun j => by
  show _ = if (t4 M j).isT then z9 (if j < c.pre.length then ρ j else ρ2 j) else (if j < c.pre.length then ρ j else ρ2 j)
  rcases bH7 j c.pre.length with h | h
  ·rw [if_pos h, g1 j h]
  ·rw [hno j h]
   exact (if_neg (Nat.not_lt.2 h)).symm
 have hρo : ∀ j, t4 M j ≠ .no → ρ' j = ρ j := fun j hj => by
  rcases bH7 j c.pre.length with h | h
  ·exact if_pos h
  ·exact absurd (hno j h) hj
 refine ⟨ρ', fun i hi => if_pos (by rw [hplen] at hi; exact hi), by rw [AV.val_tr hρ' c.res hres]; exact g2, ?_⟩
 have hL'j : ∀ j, l7 F ρ' (n5 (E6 M c.post)) (.inr j) = (t0 M (t4 M j) (n5 c.post j)).res ρ' j := fun j => by simp only [l7]; rw [L4]
 have hL'i : ∀ i, l7 F ρ' (n5 (E6 M c.post)) (.inl i) = F i := fun _ => rfl
 generalize hL' : l7 F ρ' (n5 (E6 M c.post)) = L' at hL'j hL'i
 have hL2j : ∀ j, t4 M j = .no → L' (.inr j) = l7 F1 ρ2 (n5 c.post) (.inr j) := fun j hl => by
  rw [hL'j, hl]
  have hp := hpo j
  have e : ρ2 j = ρ' j := by rw [hρ', hl]; rfl
  simp only [l7]
  cases hx : n5 c.post j with
  | none => rfl
  | dead => rfl
  | dat d => simp only [t0, It.res]; rw [e]
  | row e' d => simp only [t0, It.res]; rw [e]
  | tree d => simp only [t0, It.res]; rw [e]
  | kept e' d => cases e' <;> (simp only [t0, It.res]; rw [e])
  | hole k i ls => rw [hl, hx] at hp; cases hp
  | box cs =>
   rw [hl, hx] at hp
   simp only [aB4] at hp
   simp only [t0, It.res]
   rw [e, AV.vals_tr hρ' cs hp]
 have hlj : ∀ j, t4 M j ≠ .no → L' (.inr j) = L (.inr j) := fun j hl => by
  obtain ⟨d, h1, h2, h3⟩ := hlent j hl
  rw [hL'j, hLj, h1, h2]
  rcases h3 with ⟨e, h3, _⟩ | h3
  ·rw [h3]; simp only [t0, It.res]; rw [hρo j hl]
  ·rw [h3]; simp only [t0, It.res]; rw [hρo j hl]
 have hin : ∀ b, b < w.heap.size → ¬ ψ1 b → ∃ k, (L k).blk b ∧ ∀ j, k = .inr j → t4 M j = .no := fun b _ hn => by
  obtain ⟨k, hk⟩ := Classical.not_forall.1 hn
  exact ⟨k, hsub k b (Classical.not_not.1 hk)⟩
 have hnew : ∀ k b, (∀ j, k = .inr j → t4 M j = .no) → (l7 F1 ρ2 (n5 c.post) k).blk b → b < w.heap.size → ∃ k', (L k').blk b ∧ ∀ j, k' = .inr j → t4 M j = .no := fun k b _ hb hlt => by
  rcases M2.ge k b hb with h | h
  ·omega
  ·exact hin b hlt h
 have hback : ∀ k b, (L' k).blk b → b < w.heap.size → ∃ k', (L k').blk b := fun k b hb hlt => by
  cases k with
  | inl i => rw [hL'i] at hb; exact ⟨.inl i, by rw [hLi]; exact hb⟩
  | inr j =>
   by_cases hl : t4 M j = .no
   ·rw [hL2j j hl] at hb
    obtain ⟨k', h1, _⟩ := hnew (.inr j) b (fun j' h => by cases h; exact hl) hb hlt
    exact ⟨k', h1⟩
   ·rw [hlj j hl] at hb; exact ⟨_, hb⟩
 have hsame : ∀ b, b < w.heap.size → ψ1 b → w'.heap[b]? = w.heap[b]? := fun b h1 h2 => M2.kept.block b h1 h2
 have hagr : O1 (O2 φ L) (O2 φ L') w w' := ⟨M2.kept.size, fun b hb hf => ⟨⟨hf.1, fun k hk => let ⟨k', h1⟩ := hback k b hk hb; hf.2 k' h1⟩, hsame b hb fun k hk => (hfr1 b hf).2 k hk⟩⟩
 have hlsame : ∀ j, t4 M j ≠ .no → ∀ b, (L (.inr j)).blk b → w'.heap[b]? = w.heap[b]? := fun j hl b hb => hsame b (MM.lt hb) fun k hk => by
  obtain ⟨q1, q2⟩ := hsub k b hk
  by_cases e : k = .inr j
  ·exact hl (q2 j e)
  ·exact MM.dis k (.inr j) b e q1 hb
 have hcross : ∀ j k b, t4 M j ≠ .no → (∀ j, k = .inr j → t4 M j = .no) → (L (.inr j)).blk b → ¬ (l7 F1 ρ2 (n5 c.post) k).blk b := fun j k b hl hk h1 h2 => by
  obtain ⟨k', h3, h4⟩ := hnew k b hk h2 (MM.lt h1)
  exact MM.dis k' (.inr j) b (fun e => hl (h4 j e)) h3 h1
 refine ⟨⟨M2.kept.os.trans MM.kept.os, M2.kept.tape.trans MM.kept.tape, M2.kept.output.trans MM.kept.output, bH6 MM.size M2.kept.size, fun b hb hp => (hsame b (Nat.lt_of_lt_of_le hb MM.size) fun k hk => ?_).trans (MM.kept.block b hb hp)⟩, MM.fresh, fun k => ?_, fun k k' b hkk h1 h2 => ?_, fun k b h1 => ?_, fun k b h1 => ?_⟩
 ·rcases MM.ge k b (hsub k b hk).1 with h | h
  ·omega
  ·exact h hp
 ·cases k with
  | inl i =>
   rw [hL'i, ← hLi i]
   refine Rs.keep (MM.holds (.inl i)) hagr fun b hb => ?_
   have := (M2.holds (.inl i)).2.1 b (by rw [← hLi i]; exact hb) (MM.lt hb)
   exact this
  | inr j =>
   by_cases hl : t4 M j = .no
   ·have hh := M2.holds (.inr j)
    rw [← hL2j j hl] at hh
    have hp := hpo j
    rw [hl] at hp
    cases hx : n5 c.post j with
    | none => rw [hL'j, hl, hx]; exact Rs.none_holds _ _
    | dead => rw [hL'j, hl, hx]; exact Rs.none_holds _ _
    | box cs => rw [hL'j, hl, hx] at hh ⊢; exact hh
    | tree d => rw [hL'j, hl, hx] at hh ⊢; exact hh
    | kept e' d => rw [hx] at hp; exact absurd hp (by simp [aB4])
    | hole k i ls => rw [hx] at hp; exact absurd hp (by simp [aB4])
    | row e d =>
     rw [hx] at hp
     simp only [aB4] at hp
     rw [hL'j, hl, hx] at hh ⊢
     simp only [t0, It.res] at hh ⊢
     obtain ⟨_, xs, o1, o2⟩ := hh
     exact ⟨fun xs => RW.nice d xs, xs, o1, aW5 hp o2⟩
    | dat d =>
     rw [hx] at hp
     simp only [aB4] at hp
     split at hp
     ·rename_i d' hpx
      have hd : d' = d := aC4 he hpx hx
      subst hd
      have e : L' (.inr j) = L (.inr j) := by
       rw [hL'j, hLj, hl, hx, hpx]
       simp only [t0, It.res]
       have : j < c.pre.length := by
        rcases bH7 j c.pre.length with h | h
        ·exact h
        ·rw [s9 h] at hpx; cases hpx
       rw [show ρ' j = ρ j from if_pos this]
      rw [e]
      refine Rs.keep (MM.holds (.inr j)) hagr fun b hb => ?_
      rw [hLj, hl, hpx] at hb
      exact hb.elim
     ·cases hp
   ·rw [hlj j hl]
    exact Rs.keep (MM.holds (.inr j)) hagr fun b hb => hlsame j hl b hb
 ·have key : ∀ k, (∃ j, k = .inr j ∧ t4 M j ≠ .no ∧ (L' k) = L k) ∨ ((∀ j, k = .inr j → t4 M j = .no) ∧ ∀ b, (L' k).blk b → (l7 F1 ρ2 (n5 c.post) k).blk b) := fun k => by
   cases k with
   | inl i => exact .inr ⟨(fun j h => by cases h), fun b hb => by rw [hL'i] at hb; exact hb⟩
   | inr j =>
    by_cases hl : t4 M j = .no
    ·exact .inr ⟨fun j' h => by cases h; exact hl, fun b hb => by rw [hL2j j hl] at hb; exact hb⟩
    ·exact .inl ⟨j, rfl, hl, hlj j hl⟩
  rcases key k with ⟨j, rfl, k1, k2⟩ | ⟨k1, k2⟩ <;> rcases key k' with ⟨j', rfl, k3, k4⟩ | ⟨k3, k4⟩
  ·rw [k2] at h1; rw [k4] at h2; exact MM.dis _ _ b hkk h1 h2
  ·rw [k2] at h1; exact hcross j k' b k1 k3 h1 (k4 b h2)
  ·rw [k4] at h2; exact hcross j' k b k3 k1 h2 (k2 b h1)
  ·exact M2.dis k k' b hkk (k2 b h1) (k4 b h2)
 ·cases k with
  | inl i => rw [hL'i, ← hLi i] at h1; exact MM.ge _ b h1
  | inr j =>
   by_cases hl : t4 M j = .no
   ·rw [hL2j j hl] at h1
    rcases bH7 b w.heap.size with hlt | hge
    ·obtain ⟨k', h2, _⟩ := hnew (.inr j) b (fun j' h => by cases h; exact hl) h1 hlt
     exact MM.ge k' b h2
    ·exact .inl (bH6 MM.size hge)
   ·rw [hlj j hl] at h1; exact MM.ge _ b h1
 ·cases k with
  | inl i => rw [hL'i, ← hLi i] at h1; exact MM.ph _ b h1
  | inr j =>
   by_cases hl : t4 M j = .no
   ·rw [hL2j j hl] at h1; exact M2.ph _ b h1
   ·rw [hlj j hl] at h1; exact MM.ph _ b h1
def a93 (M : List Ln) : Ln → It → It
 | .row e, .dat d => .kept (some e) d
 | .tree, .dat d => .kept none d
 | .no, .box cs => .box (AV.trL M cs)
 | _, x => x
def a92 (M : List Ln) (S : List It) : List It := (bH0 S.length).map fun i => a93 M (t4 M i) (n5 S i)
theorem a79 (M : List Ln) (S : List It) (i : Nat) : n5 (a92 M S) i = a93 M (t4 M i) (n5 S i) := by
 unfold a92
 rcases bH7 i S.length with h | h
 ·conv => lhs; rw [n5, bF2, List.getElem?_map, List.getElem?_range h]
  rfl
 ·rw [s9 (by simpa using h), s9 h]
  cases t4 M i <;> rfl
theorem i6.lend {P : Program} {c : i6} (hc : c.ok P) (M : List Ln) (hb : a80 M c = true := by kernel_rfl) (he : ai6 c.pre c.post = ai5 c.pre c.post := by kernel_rfl) : i6.ok P ⟨c.f, AV.trL M c.args, E6 M c.pre, a92 M c.post, c.res.tr M⟩ :=
 i6.okPost (i6.lend0 hc M hb he) _ fun ρ i => by
  simp only
  rw [a79, L4]
  cases t4 M i <;> cases n5 c.post i <;> rfl
section
variable {P : Program} {ι κ : Type} {φ ψ : Nat → Prop} {w0 w : World} {F : ι → Rs} {ρ ρ0 : Nat → Value} {N m n : Nat} {S : List It} {tm : List (Nat × AV)} {a : Act}
theorem i9.release {L L' : κ → Rs} (M : i9 φ ψ w0 w L) (h : ∀ k, L' k = L k ∨ ((∀ b, ¬ (L' k).blk b) ∧ ∀ φ', (∀ b, O2 φ L b → φ' b) → (∀ b, (L k).blk b → φ' b) → (L' k).holds w φ')) : i9 φ ψ w0 w L' := by
 have old : ∀ k b, (L' k).blk b → (L k).blk b := fun k b hb => by
  rcases h k with e | ⟨h1, _⟩
  ·rw [e] at hb; exact hb
  ·exact (h1 b hb).elim
 have hfr : ∀ b, O2 φ L b → O2 φ L' b := fun b hb => ⟨hb.1, fun k hk => hb.2 k (old k b hk)⟩
 refine ⟨M.kept, M.fresh, fun k => ?_, fun i j g hij h1 h2 => M.dis i j g hij (old i g h1) (old j g h2), fun i b hb => M.ge i b (old i b hb), fun i b hb => M.ph i b (old i b hb)⟩
 rcases h k with e | ⟨h1, h2⟩
 ·rw [e]; exact Rs.keep (M.holds k) (O1.mono fun b _ hf => hfr b hf) fun _ _ => rfl
 ·refine h2 _ hfr fun b hb => ⟨M.ph k b hb, fun j hj => ?_⟩
  by_cases e : j = k
  ·subst e; exact h1 b hj
  ·exact M.dis j k b e (old j b hj) hb
mutual
theorem AV.ids_tr (M : List Ln) : ∀ (x : AV), (x.tr M).ids = x.ids
 | .v _ => rfl
 | .ptr _ _ => rfl
 | .ea _ _ _ _ => rfl
 | .ref i => by simp only [AV.tr]; split <;> rfl
 | .agg l => by simp only [AV.tr, AV.ids]; exact AV.idsL_tr M l
 | .tup l => by simp only [AV.tr, AV.ids]; exact AV.idsL_tr M l
 | .fn _ l => by simp only [AV.tr, AV.ids]; exact AV.idsL_tr M l
 | .bm _ l => by simp only [AV.tr, AV.ids]; exact AV.idsL_tr M l
 | .tref _ => rfl
theorem AV.idsL_tr (M : List Ln) : ∀ (l : List AV), AV.idsL (AV.trL M l) = AV.idsL l
 | [] => rfl
 | x :: r => by simp only [AV.trL, AV.idsL]; rw [AV.ids_tr M x, AV.idsL_tr M r]
end
theorem af4 {M : List Ln} {t : Nat} {x : AV} : ∀ {tm : List (Nat × AV)}, v8 tm t = some x → v8 (tm.map fun p => (p.1, p.2.tr M)) t = some (x.tr M) ∧ ∃ p ∈ tm, p.2 = x
 | [], h => by cases h
 | (k, y) :: r, h => by
  simp only [v8, bH5] at h ⊢
  split at h
  ·cases h; rename_i hk; rw [if_pos hk]; exact ⟨rfl, _, bF7, rfl⟩
  ·rename_i hk; rw [if_neg hk]
   obtain ⟨h1, p, h2, h3⟩ := af4 h
   exact ⟨h1, p, bG0 _ h2, h3⟩
def bv8 (M : List Ln) (m : Nat) (S1 : List It) (tm1 : List (Nat × AV)) : Bool :=
 decide (M.length ≤ S1.length) && (bH0 S1.length).all (fun i => match t4 M i, n5 S1 i with
  | .no, .box cs => AV.trOkL M cs
  | .no, .hole _ _ _ => false
  | .no, _ => true
  | .row _, .dat _ => true
  | .tree, .dat _ => decide (m ≤ i)
  | _, _ => false) && tm1.all fun p => p.2.trOk M
theorem It.ids_lend (M : List Ln) (l : Ln) (x : It) : x.ids = [] ∨ (t0 M l x).ids = x.ids := by
 cases x with
 | box cs => cases l <;> first | exact .inr rfl | exact .inr (AV.idsL_tr M cs)
 | hole k i ls => cases l <;> exact .inr rfl
 | _ => exact .inl rfl
theorem t7.frz (G : t7 φ ψ w0 F N m ρ0 ρ S tm a w) (M : List Ln) (S1 : List It) (tm1 : List (Nat × AV)) (hb : bv8 M m S1 tm1 = true := by kernel_rfl) (hS : S = E6 M S1 := by kernel_rfl) (ht : tm = tm1.map (fun p => (p.1, p.2.tr M)) := by kernel_rfl) :
  ∃ ρ', t7 φ ψ w0 F N m ρ0 ρ' S1 tm1 a w := by
 subst hS
 subst ht
 simp only [bv8, bE8, decide_eq_true_eq] at hb
 obtain ⟨⟨hM, hall⟩, htm⟩ := hb
 have hlen : (E6 M S1).length = S1.length := by simp [E6]
 have hno : ∀ i, S1.length ≤ i → t4 M i = .no := fun i hi => by
  unfold t4; rw [bF2, bH2 (by omega)]; rfl
 have hat := fun i (hi : i < S1.length) => bF5.1 hall i (List.mem_range.2 hi)
 let ρ1 : Nat → Value := fun i => if (t4 M i).isT then z9 (ρ i) else ρ i
 have hρ1 : ∀ i, ρ1 i = if (t4 M i).isT then z9 (ρ i) else ρ i := fun _ => rfl
 have hρn : ∀ i, (t4 M i).isT = false → ρ1 i = ρ i := fun i h => by rw [hρ1, h]; rfl
 refine ⟨ρ1, G.size, G.defs, fun t x hx => ?_, fun t x hx i hi => ?_, fun j => ⟨fun i hi => ?_, fun hj => s9 hj⟩, ?_, ?_, fun i hi => ?_⟩
 ·obtain ⟨h1, p, h2, h3⟩ := af4 (M := M) hx
  rw [G.tmv t _ h1, AV.val_tr hρ1 x (by rw [← h3]; exact bF5.1 htm p h2)]
 ·obtain ⟨h1, _⟩ := af4 (M := M) hx
  have := G.tmi t _ h1 i (by rw [AV.ids_tr]; exact hi)
  rw [hlen] at this; exact this
 ·have h1 := (G.bd j).1 i
  rw [L4, hlen] at h1
  rcases It.ids_lend M (t4 M j) (n5 S1 j) with h | h
  ·rw [h] at hi; cases hi
  ·exact h1 (by rw [h]; exact hi)
 ·refine G.mem.release fun k => ?_
  cases k with
  | inl i => exact .inl rfl
  | inr j =>
   simp only [l7]
   rw [L4]
   rcases bH7 j S1.length with hj | hj
   case inr => rw [hno j hj, s9 hj]; exact .inl rfl
   have h1 := hat j hj
   cases hl : t4 M j with
   | no =>
    have e : ρ1 j = ρ j := hρn j (by rw [hl]; rfl)
    rw [hl] at h1
    left
    cases hx : n5 S1 j with
    | box cs =>
     rw [hx] at h1
     simp only [t0, It.res]
     rw [e, AV.vals_tr hρ1 cs h1]
    | none => rfl
    | dead => rfl
    | dat d => simp only [t0, It.res]; rw [e]
    | row e' d => simp only [t0, It.res]; rw [e]
    | tree d => simp only [t0, It.res]; rw [e]
    | kept e' d => cases e' <;> (simp only [t0, It.res]; rw [e])
    | hole k i ls => rw [hx] at h1; cases h1
   | row e' =>
    have e : ρ1 j = ρ j := hρn j (by rw [hl]; rfl)
    rw [hl] at h1
    cases hx : n5 S1 j <;> rw [hx] at h1 <;> first | cases h1 | skip
    rename_i d
    refine .inr ⟨fun b hb => hb, fun φ' hf hown => ⟨RD.nice _ _, ?_⟩⟩
    have hh := G.mem.holds (.inr j)
    simp only [l7] at hh
    rw [L4, hl, hx] at hh
    simp only [t0, It.res] at hh
    obtain ⟨_, xs, o1, o2⟩ := hh
    rw [e]
    exact RD.make (A0 o1 fun g hg => hown g hg) (RW.nice _ _ _ _ _ _ (O1.mono fun b _ hb => hf b hb) o2)
   | tree =>
    have e : ρ1 j = z9 (ρ j) := by rw [hρ1, hl]; rfl
    rw [hl] at h1
    cases hx : n5 S1 j <;> rw [hx] at h1 <;> first | cases h1 | skip
    rename_i d
    refine .inr ⟨fun b hb => hb, fun φ' hf hown => ⟨RD.nice _ _, ?_⟩⟩
    have hh := G.mem.holds (.inr j)
    simp only [l7] at hh
    rw [L4, hl, hx] at hh
    simp only [t0, It.res] at hh
    rw [e]
    exact A8.read hh.2.1 fun b hb => hown b hb
 ·have := G.le; rw [hlen] at this; exact this
 ·have hm := G.le
  rw [hlen] at hm
  have : (t4 M i).isT = false := by
   cases hl : t4 M i with
   | no => rfl
   | row _ => rfl
   | tree =>
    have h1 := hat i (by omega)
    rw [hl] at h1
    cases hx : n5 S1 i <;> rw [hx] at h1 <;> simp at h1
    omega
  show ρ1 i = ρ0 i
  rw [hρn i this]; exact G.old i hi
end
section
variable {P : Program} {ι κ : Type} {φ ψ : Nat → Prop} {w0 w w' : World} {F : ι → Rs} {ρ ρ0 : Nat → Value}
theorem i9.grow {L L' : κ → Rs} (M : i9 φ ψ w0 w L) (hb : Below w.heap.size w w') (K : κ → Prop) (ho : ∀ k, ¬ K k → L' k = L k) (hg : ∀ k, K k → ∀ b, (L' k).blk b → w.heap.size ≤ b) (hd : ∀ j k b, j ≠ k → K j → K k → (L' j).blk b → ¬ (L' k).blk b) (h : ∀ k, K k → (L' k).holds w' (O2 φ L')) : i9 φ ψ w0 w' L' := by
 have M1 := M.call hb
 have old : ∀ k, ¬ K k → ∀ b, (L' k).blk b → b < w.heap.size := fun k hk b h1 => by rw [ho k hk] at h1; exact M.lt h1
 refine ⟨M1.kept, M.fresh, fun k => ?_, fun i j g hij h1 h2 => ?_, fun i b h1 => ?_, fun i b h1 => ?_⟩
 ·by_cases e : K k
  ·exact h k e
  ·rw [ho k e]
   refine Rs.keep (M.holds k) ⟨hb.size, fun b hl hf => ⟨⟨hf.1, fun j hj => ?_⟩, hb.block b hl⟩⟩ fun g hgx => hb.block g (M.lt hgx)
   by_cases e2 : K j
   ·have := hg j e2 b hj; omega
   ·rw [ho j e2] at hj; exact hf.2 j hj
 ·by_cases e1 : K i <;> by_cases e2 : K j
  ·exact hd i j g hij e1 e2 h1 h2
  ·have := hg i e1 g h1; have := old j e2 g h2; omega
  ·have := hg j e2 g h2; have := old i e1 g h1; omega
  ·rw [ho i e1] at h1; rw [ho j e2] at h2; exact M.dis i j g hij h1 h2
 ·by_cases e : K i
  ·exact .inl (bH6 M.size (hg i e b h1))
  ·rw [ho i e] at h1; exact M.ge i b h1
 ·by_cases e : K i
  ·exact M.fresh b (bH6 M.size (hg i e b h1))
  ·rw [ho i e] at h1; exact M.ph i b h1
end
abbrev oP (p : f5) : List It := [.row 3 (.ints p.vars), .row 3 (.ints p.arrays), .tree (.stmts p.body)]
abbrev oA (r : Nat) : AV := .agg [.ref r, .ref (r + 1), .tref (r + 2)]
theorem D5 (e : b5) : i6.ok Try.prog ⟨141, [.agg [.v (.int .i64 e.kind), .v (.int .i64 e.value), .ref 0]], [.dat (.exprs e.kids)], [.dat (.exprs e.kids)], .v (.bool (noneB e))⟩ := by
  refine E2 17 Try.func141 [dE e.kids] [(0, eA e 0)] fun G => ?_; refine wp_seq (j7 G f7 [0, 1] [dE e.kids, .box (eL e 0)] [(1, .ptr 1 0), (2, bA false)] fun G => b6 (wp_seq ?_)); cases h0 : (e.kind == 0)
  · have q0 := ne_of_beq_false h0; refine j7 G (H2 (fc h0 (fc (b := false) rfl fz)) (us [(4, 6, 0), (1007, 1007, 0), (9, 12, 1), (1013, 1013, 1)])) [0] [dE e.kids] [(2, bA false)] fun G => b6 (wp_ret ?_); exact w8 false G [0] (by rw [bH9]; simp [noneB, h0, q0]; done)
  ·
   have q0 := eq_of_beq h0; cases h1 : (e.value == 0)
   · have q1 := ne_of_beq_false h1; refine j7 G (H2 (fc h0 (fc h1 fz)) (us [(4, 6, 0), (1007, 1007, 0), (9, 12, 1), (1013, 1013, 1)])) [0] [dE e.kids] [(2, bA false)] fun G => b6 (wp_ret ?_); exact w8 false G [0] (by rw [bH9]; simp [noneB, h0, q0, h1, q1]; done)
   · have q1 := eq_of_beq h1; refine j7 G (H2 (fc h0 (fc h1 fz)) (us [(4, 6, 0), (1007, 1007, 0), (9, 12, 1), (1013, 1013, 1)])) [0] [dE e.kids] [(2, bA ((e.kids.length : Int) == 0))] fun G => b6 (wp_ret ?_); exact w8 ((e.kids.length : Int) == 0) G [0] (by rw [bH9]; simp [noneB, h0, q0, h1, q1]; done)
theorem Y3 (e : b5) : i6.ok Try.prog ⟨143, [.agg [.v (.int .i64 e.kind), .v (.int .i64 e.value), .ref 0]], [.dat (.exprs e.kids)], [.dat (.exprs e.kids)], .v (.bool (noneB e))⟩ := by
  refine E2 17 Try.func143 [dE e.kids] [(0, eA e 0)] fun G => ?_; refine wp_seq (j7 G f7 [0, 1] [dE e.kids, .box (eL e 0)] [(1, .ptr 1 0), (2, bA false)] fun G => b6 (wp_seq ?_)); cases h0 : (e.kind == 0)
  · have q0 := ne_of_beq_false h0; refine j7 G (H2 (fc h0 (fc (b := false) rfl fz)) (us [(4, 6, 0), (1007, 1007, 0), (9, 12, 1), (1013, 1013, 1)])) [0] [dE e.kids] [(2, bA false)] fun G => b6 (wp_ret ?_); exact w8 false G [0] (by rw [bH9]; simp [noneB, h0, q0]; done)
  ·
   have q0 := eq_of_beq h0; cases h1 : (e.value == 0)
   · have q1 := ne_of_beq_false h1; refine j7 G (H2 (fc h0 (fc h1 fz)) (us [(4, 6, 0), (1007, 1007, 0), (9, 12, 1), (1013, 1013, 1)])) [0] [dE e.kids] [(2, bA false)] fun G => b6 (wp_ret ?_); exact w8 false G [0] (by rw [bH9]; simp [noneB, h0, q0, h1, q1]; done)
   · have q1 := eq_of_beq h1; refine j7 G (H2 (fc h0 (fc h1 fz)) (us [(4, 6, 0), (1007, 1007, 0), (9, 12, 1), (1013, 1013, 1)])) [0] [dE e.kids] [(2, bA ((e.kids.length : Int) == 0))] fun G => b6 (wp_ret ?_); exact w8 ((e.kids.length : Int) == 0) G [0] (by rw [bH9]; simp [noneB, h0, q0, h1, q1]; done)
theorem Z9 (k : Int) : i6.ok Try.prog ⟨101, [.v (.int .i64 k)], [], [], .v (.int .i64 (i8 k))⟩ := by
  refine E2 23 Try.func101 [] [(0, iA k)] fun G => ?_; refine wp_seq (l5 G f7 [(2, iA 0)] fun G => b6 (wp_seq (wp_block (wp_seq ?_)))); cases h0 : (k == 1)
  ·
   have q0 := ne_of_beq_false h0; refine l5 G (H2 (fc h0 fz) [(3, 0), (4, 0), (1005, 0)]) [(3, bA (k == 2))] fun G => b6 (W5 G (fun h1 q1 => ?_) fun h1 q1 => ?_)
   ·
    refine wp_seq (l5 G f7 [(10, bA (k == 3))] fun G => b6 (W5 G (fun h2 q2 => ?_) fun h2 q2 => ?_))
    ·
     refine wp_seq ?_; cases h3 : (decide (k ≥ 4))
     ·
      have q3 := Y1 h3; refine l5 G (H2 (fc h3 fz) [(3, 0), (4, 0), (1005, 0)]) [(13, bA false)] fun G => b6 (rF G false (by kernel_rfl) (wp_seq (J1 G f7 [(2, iA 0), (20, bA (k == 11))] fun G => b6 ?_))); cases h4 : (k == 11)
      · have q4 := ne_of_beq_false h4; refine rF G _ h4 (wp_skip (v7 (b6 (wp_seq (l5 G f7 [(2, iA (-1))] fun G => b6 (wp_ret ?_)))))); exact Y9 (-1) G [] (by unfold i8; (repeat' split) <;> omega)
      · have q4 := eq_of_beq h4; exact False.elim (by omega)
     ·
      have q3 := Y0 h3; refine l5 G (H2 (fc h3 fz) [(3, 0), (4, 0), (1005, 0)]) [(13, bA (decide (k ≤ 10)))] fun G => b6 (rcD G (fun h5 q5 => ?_) fun h5 q5 => ?_)
      ·
       refine wp_seq (l5 G f7 [(20, bA (k == 11))] fun G => b6 (W5 G (fun h6 q6 => ?_) fun h6 q6 => ?_))
       · refine wp_skip (v7 (b6 (wp_seq (l5 G f7 [(2, iA (-1))] fun G => b6 (wp_ret ?_))))); exact Y9 (-1) G [] (by unfold i8; (repeat' split) <;> omega)
       · refine wp_seq (l5 G f7 [(2, iA 3)] fun G => b6 (wp_ret (C1 (j8 ?_)))); exact Y9 3 G [] (by unfold i8; (repeat' split) <;> omega)
      · refine wp_seq (l5 G f7 [(2, iA 2)] fun G => b6 (wp_ret (C1 (j8 ?_)))); exact Y9 2 G [] (by unfold i8; (repeat' split) <;> omega)
    · refine wp_seq (l5 G f7 [(2, iA 1)] fun G => b6 (wp_ret (C1 (j8 ?_)))); exact Y9 1 G [] (by unfold i8; (repeat' split) <;> omega)
   · refine wp_seq (l5 G f7 [] fun G => b6 (wp_ret (C1 (j8 ?_)))); exact Y9 0 G [] (by unfold i8; (repeat' split) <;> omega)
  · have q0 := eq_of_beq h0; refine l5 G (H2 (fc h0 fz) [(3, 0), (4, 0), (1005, 0)]) [(3, bA true)] fun G => b6 (rT G true (by kernel_rfl) (wp_seq (l5 G f7 [] fun G => b6 (wp_ret (C1 (j8 ?_)))))); exact Y9 0 G [] (by unfold i8; (repeat' split) <;> omega)
theorem at5 (e : b5) : i6.ok Try.prog ⟨103, [.agg [.v (.int .i64 e.kind), .v (.int .i64 e.value), .ref 0]], [.dat (.exprs e.kids)], [.dat (.exprs e.kids)], .v (.bool (D6 e))⟩ := by
 refine E2 11 Try.func103 [dE e.kids] [(0, eA e 0)] fun G => ?_; refine wp_seq (j7 G f7 [0, 1] [dE e.kids, .box (eL e 0)] [(1, .ptr 1 0), (2, bA false)] fun G => b6 (wp_seq ?_)); cases h0 : (e.kind == 1)
 ·have q0 := ne_of_beq_false h0; refine j7 G (H2 (fc h0 fz) [(4, 0), (5, 0), (6, 0), (1007, 0)]) [0] [dE e.kids] [(2, bA (e.kind == 2))] fun G => b6 (wp_ret ?_); exact w8 (e.kind == 2) G [0] (by rw [bH9]; simp [D6, h0, q0]; done)
 ·have q0 := eq_of_beq h0; refine j7 G (H2 (fc h0 fz) [(4, 0), (5, 0), (6, 0), (1007, 0)]) [0] [dE e.kids] [(2, bA true)] fun G => b6 (wp_ret ?_); exact w8 true G [0] (by rw [bH9]; simp [D6, h0, q0]; done)
theorem a07 (vs ars : List Int) (b : List b8) (k : Int) : i6.ok Try.prog ⟨102, [.agg [.ref 0, .ref 1, .ref 2], .v (.int .i64 k)], [.dat (.ints vs), .dat (.ints ars), .dat (.stmts b)], [.dat (.ints vs), .dat (.ints ars), .dat (.stmts b)], .v (.int .i64 (w6 vs.length ars.length k))⟩ := by
  refine E2 18 Try.func102 [dI vs, dI ars, dT b] [(0, pA 0), (1, iA k)] fun G => ?_; refine wp_seq (j7 G f7 (rg 4) [dI vs, dI ars, dT b, .box (pL 0)] [(1, iA k), (2, .ptr 3 0), (4, iA 0)] fun G => b6 (wp_seq (wp_seq (l5 G f7 [(5, iA k)] fun G => b6 (wp_block (wp_seq (l5 G f7 [(6, bA (k == 1))] fun G => b6 (W5 G (fun h0 q0 => ?_) fun h0 q0 => ?_))))))))
  ·
   refine wp_seq (l5 G f7 [(8, bA (k == 2))] fun G => b6 (W5 G (fun h1 q1 => ?_) fun h1 q1 => ?_))
   ·
    refine wp_seq (l5 G f7 [(13, bA (k == 3))] fun G => b6 (W5 G (fun h2 q2 => ?_) fun h2 q2 => ?_))
    · refine wp_skip (v7 (b6 (wp_seq (j7 G f7 [0, 1, 2] [dI vs, dI ars, dT b] [(4, iA 1)] fun G => b6 (wp_ret ?_))))); exact Y9 1 G [0, 1, 2] (by unfold w6; (repeat' split) <;> omega)
    · refine wp_seq (j7 G f7 [0, 1, 2] [dI vs, dI ars, dT b] [(4, iA (ars.length : Int))] fun G => b6 (wp_ret (C1 (j8 ?_)))); exact Y9 ((ars.length : Int)) G [0, 1, 2] (by unfold w6; (repeat' split) <;> omega)
   · refine wp_seq (j7 G f7 [0, 1, 2] [dI vs, dI ars, dT b] [(4, iA (vs.length : Int))] fun G => b6 (wp_ret (C1 (j8 ?_)))); exact Y9 ((vs.length : Int)) G [0, 1, 2] (by unfold w6; (repeat' split) <;> omega)
  · refine wp_seq (j7 G f7 [0, 1, 2] [dI vs, dI ars, dT b] [(4, iA 256)] fun G => b6 (wp_ret (C1 (j8 ?_)))); exact Y9 256 G [0, 1, 2] (by unfold w6; (repeat' split) <;> omega)
theorem aK9 {α : Type} {l : List α} {k : Nat} {p : α → Bool} {z : α} (h : (l.take k).all p = true) (hk : k < l.length) (hp : p (l.getD k z) = true) : (l.take (k + 1)).all p = true := by
 rw [Q9 p l k hk, h, ← n6 (d := z) hk, hp]; rfl
theorem au4 {α : Type} {l : List α} {k : Nat} {p : α → Bool} (h : (l.take k).all p = true) (hk : l.length ≤ k) : l.all p = true := by
 rw [bF9 hk] at h; exact h
section
variable {nv na d : Nat} {e : b5}
theorem bf9 (h : ¬ (e.kids.length : Int) = i8 e.kind) : d7 nv na (d + 1) e = false := by simp [d7, r9, h]
theorem bf8 (h : e.value < 0) : d7 nv na (d + 1) e = false := by
 have : ¬ 0 ≤ e.value := by omega
 simp [d7, r9, this]
theorem bf7 (h : w6 nv na e.kind ≤ e.value) : d7 nv na (d + 1) e = false := by
 have : ¬ e.value < w6 nv na e.kind := by omega
 simp [d7, r9, this]
theorem bf6 {k : Nat} {z : b5} (hk : k < e.kids.length) (h : d7 nv na d (e.kids.getD k z) = false) : d7 nv na (d + 1) e = false := by
 rw [n6 hk] at h
 have : e.kids.all (d7 nv na d) = false := an0 hk h
 simp [d7, this]
theorem aN3 (h1 : (e.kids.length : Int) = i8 e.kind) (h2 : ¬ e.value < 0) (h3 : ¬ w6 nv na e.kind ≤ e.value) : r9 nv na e = true := by
 unfold r9; rw [decide_eq_true h1, decide_eq_true (by omega), decide_eq_true (by omega)]; rfl
theorem bf5 (hn : r9 nv na e = true) (ha : e.kids.all (d7 nv na d) = true) (h : ¬ e.kind = 3) : d7 nv na (d + 1) e = true := by
 rw [d7, hn, ha]; simp [H8, h]
theorem bf4 (hn : r9 nv na e = true) (ha : e.kids.all (d7 nv na d) = true) (h : e.kind = 3) (hl : 0 < e.kids.length) : d7 nv na (d + 1) e = D6 (e.kids.getD 0 bF3) := by
 rw [d7, hn, ha, ah7 h hl, n6 hl]; simp [D6]
theorem ax9 (h1 : (e.kids.length : Int) = i8 e.kind) (h : e.kind = 3) : 0 < e.kids.length := by
 rw [h] at h1; simp [i8] at h1; omega
end
theorem aR6 (vs ars : List Int) (b : List b8) (e : b5) (n : Int) (hn : n = 0) : i6.ok Try.prog ⟨63, [.agg [.ref 0, .ref 1, .ref 2], .agg [.v (.int .i64 e.kind), .v (.int .i64 e.value), .ref 3], .v (.int .i64 n)], [.dat (.ints vs), .dat (.ints ars), .dat (.stmts b), .dat (.exprs e.kids)], [.dat (.ints vs), .dat (.ints ars), .dat (.stmts b), .dat (.exprs e.kids)], .v (.bool (d7 vs.length ars.length 0 e))⟩ := by
 have h100 : decide (n < 1) = true := by simp; omega
 refine E2 60 Try.func63 [dI vs, dI ars, dT b, dE e.kids] [(0, pA 0), (1, eA e 3), (2, iA n)] fun G => ?_; refine wp_seq (j7 G f7 [0, 1, 2, 3, 4, 12] [dI vs, dI ars, dT b, dE e.kids, .box (pL 0), .box (eL e 3)] [(2, iA n), (3, .ptr 4 0), (4, .ptr 5 0), (6, bA false)] fun G => b6 (wp_seq (wp_seq (bg6 G (H2 (fc (a := decide (n < 1)) (b := true) (by assumption) (fc (b := true) rfl fz)) (us [(3, 9, 0), (1010, 1010, 0), (12, 14, 1), (1015, 1015, 1), (17, 23, 1), (1024, 1024, 1)])) [0, 1, 3, 7, 15, 31, 7, 71, 199, 511, 1023, 2047, 4095, 8191, 16383, 32767, 65535, 131071, 262143, 131071, 131071, 1179647, 3801087, 8388607, 16777215] [(32, bA true)] fun G => b6 (rT G true (by kernel_rfl) (wp_seq (l5 G f7 [] fun G => b6 (wp_ret (j8 ?_))))))))); exact I7 G (rg 4)
theorem aR5 (vs ars : List Int) (b : List b8) (d : Nat) (hd : d ≤ 5) (ih : ∀ (e : b5) (n : Int), n = d → i6.ok Try.prog ⟨63, [.agg [.ref 0, .ref 1, .ref 2], .agg [.v (.int .i64 e.kind), .v (.int .i64 e.value), .ref 3], .v (.int .i64 n)], [.dat (.ints vs), .dat (.ints ars), .dat (.stmts b), .dat (.exprs e.kids)], [.dat (.ints vs), .dat (.ints ars), .dat (.stmts b), .dat (.exprs e.kids)], .v (.bool (d7 vs.length ars.length d e))⟩)
    (e : b5) (n : Int) (hn : n = (d + 1 : Nat)) : i6.ok Try.prog ⟨63, [.agg [.ref 0, .ref 1, .ref 2], .agg [.v (.int .i64 e.kind), .v (.int .i64 e.value), .ref 3], .v (.int .i64 n)], [.dat (.ints vs), .dat (.ints ars), .dat (.stmts b), .dat (.exprs e.kids)], [.dat (.ints vs), .dat (.ints ars), .dat (.stmts b), .dat (.exprs e.kids)], .v (.bool (d7 vs.length ars.length (d + 1) e))⟩ := by
  have h100 : decide (n < 1) = false := by simp; omega
  refine E2 60 Try.func63 [dI vs, dI ars, dT b, dE e.kids] [(0, pA 0), (1, eA e 3), (2, iA n)] fun G => ?_; refine wp_seq (j7 G f7 [0, 1, 2, 3, 4, 12] [dI vs, dI ars, dT b, dE e.kids, .box (pL 0), .box (eL e 3)] [(2, iA n), (3, .ptr 4 0), (4, .ptr 5 0), (6, bA false)] fun G => b6 (wp_seq (wp_seq ?_))); cases h0 : ((e.kids.length : Int) != i8 e.kind)
  ·
   have q0 := bne_eq_false_iff_eq.1 h0; cases h1 : (decide (e.value < 0))
   ·
    have q1 := Y1 h1; refine bg6 G (y9 (m9 8 [] (Z9 e.kind) (m9 22 [0, 1, 2] (a07 vs ars b e.kind) y8)) (fc (a := decide (n < 1)) (b := false) (by assumption) (fc h0 (fc h1 fz))) (us [(3, 9, 0), (1010, 1010, 0), (12, 14, 1), (1015, 1015, 1), (17, 23, 2), (1024, 1024, 2)])) [0, 1, 3, 7, 15, 31, 7, 71, 199, 511, 1023, 2047, 4095, 8191, 16383, 32767, 65535, 131071, 262143, 131071, 131071, 1179647, 3801087, 8388607, 16777215] [(32, bA (decide (e.value ≥ w6 vs.length ars.length e.kind)))] fun G => b6 (rcD G (fun h2 q2 => ?_) fun h2 q2 => ?_)
    ·
     refine wp_skip (b6 (wp_seq (wp_seq (J1 G f7 [(2, iA n), (3, .ptr 4 0), (4, .ptr 5 0), (6, bA false), (7, iA 0)] fun G => b6 (wp_block ?_))))); refine A4 (κ := Nat) (fun k => k ≤ e.kids.length ∧ (e.kids.take k).all (d7 vs.length ars.length d) = true) (fun k => e.kids.length - k) (fun k => [dI vs, dI ars, dT b, dE e.kids, .box (pL 0), .box (eL e 3)]) (fun k => [(2, iA n), (3, .ptr 4 0), (4, .ptr 5 0), (6, bA false), (7, iA k)]) 0 (by simp [h100, h0, h1, h2]) (t7.at G _ _) ?_; clear G; intro k ρ a w hp G; have hlen : e.kids.length ≤ 9223372036854775807 := G.len 3 (d := .exprs e.kids) (by kernel_rfl); have hnode := aN3 (nv := vs.length) (na := ars.length) q0 q1 q2; refine wp_seq (wp_seq (J1 G f7 [(2, iA n), (3, .ptr 4 0), (4, .ptr 5 0), (6, bA false), (7, iA k), (37, bA (decide ((k : Int) < e.kids.length)))] fun G => b6 (rcD G (fun h3 q3 => ?_) fun h3 q3 => ?_)))
     ·
      refine wp_exit (A2 (A2 (A1 (b6 (wp_seq ?_))))); cases h4 : (e.kind != 3)
      · have q4 := bne_eq_false_iff_eq.1 h4; refine W0 G (y9 (m9 8 [62] (at5 (e.kids.getD 0 bF3)) y8) (fc h4 fz) (us [(4, 8, 0), (1009, 1009, 0)])) (rg 4) [dI vs, dI ars, dT b, dE e.kids] [(6, bA (D6 (e.kids.getD 0 bF3)))] (iX 0 0 e.kids.length []) (iK (by have := ax9 q0 (by omega); omega) bF1) fun G => b6 (wp_ret ?_); exact w8 (D6 (e.kids.getD 0 bF3)) G (rg 4) (bf4 hnode (au4 hp.2 (by omega)) (by omega) (ax9 q0 (by omega)))
      · have q4 := bne_iff_ne.1 h4; refine j7 G (H2 (fc h4 fz) (us [(4, 8, 0), (1009, 1009, 0)])) (rg 4) [dI vs, dI ars, dT b, dE e.kids] [(6, bA true)] fun G => b6 (wp_ret ?_); exact w8 true G (rg 4) (bf5 hnode (au4 hp.2 (by omega)) (by omega))
     ·
      refine wp_skip (b6 (wp_seq (wp_block (wp_seq (aO2 G (t8 8 [0, 1, 2, 46] (ih (e.kids.getD k bF3) (n - 1) (by omega))) [0, 0, 2, 0, 14, 30, 0, 64, 255, 511] [(49, .v (.bool !d7 vs.length ars.length d (e.kids.getD k bF3)))] (iX k k e.kids.length ((wO (n - 1)) :: [])) (iK (by omega) (o1 (by omega))) fun G => b6 ?_))))); cases h5 : (!d7 vs.length ars.length d (e.kids.getD k bF3))
      · have q5 : (d7 vs.length ars.length d (e.kids.getD k bF3)) = true := (Eq.mp (bG2 _) h5); refine rF G _ h5 (wp_skip (v7 (b6 (K5 G f7 [(7, iA ((k : Int) + 1))] [wO ((k : Int) + 1)] (o1 (by omega)) fun G => b6 ?_)))); exact rxn G (k + 1) (⟨by omega, aK9 hp.2 (by omega) (by assumption)⟩) (by omega) (rg 6)
      · have q5 : (d7 vs.length ars.length d (e.kids.getD k bF3)) = false := (Eq.mp (bF8 _) h5); refine rT G _ h5 (wp_seq (l5 G f7 [] fun G => b6 (wp_ret (C1 (j8 (j8 (C1 (j8 ?_)))))))); exact w8 false G (rg 4) (bf6 (k := k) (by omega) (by assumption))
    · refine wp_seq (l5 G f7 [] fun G => b6 (wp_ret (j8 ?_))); exact w8 false G (rg 4) (bf7 (by omega))
   · have q1 := Y0 h1; refine bg6 G (y9 (m9 8 [] (Z9 e.kind) y8) (fc (a := decide (n < 1)) (b := false) (by assumption) (fc h0 (fc h1 fz))) (us [(3, 9, 0), (1010, 1010, 0), (12, 14, 1), (1015, 1015, 1), (17, 23, 2), (1024, 1024, 2)])) [0, 1, 3, 7, 15, 31, 7, 71, 199, 511, 1023, 2047, 4095, 8191, 16383, 32767, 65535, 131071, 262143, 131071, 131071, 1179647, 3801087, 8388607, 16777215] [(32, bA true)] fun G => b6 (rT G true (by kernel_rfl) (wp_seq (l5 G f7 [] fun G => b6 (wp_ret (j8 ?_))))); exact w8 false G (rg 4) (bf8 (by omega))
  · have q0 := bne_iff_ne.1 h0; refine bg6 G (y9 (m9 8 [] (Z9 e.kind) y8) (fc (a := decide (n < 1)) (b := false) (by assumption) (fc h0 (fc (b := true) rfl fz))) (us [(3, 9, 0), (1010, 1010, 0), (12, 14, 1), (1015, 1015, 1), (17, 23, 2), (1024, 1024, 2)])) [0, 1, 3, 7, 15, 31, 7, 71, 199, 511, 1023, 2047, 4095, 8191, 16383, 32767, 65535, 131071, 262143, 131071, 131071, 1179647, 3801087, 8388607, 16777215] [(32, bA true)] fun G => b6 (rT G true (by kernel_rfl) (wp_seq (l5 G f7 [] fun G => b6 (wp_ret (j8 ?_))))); exact w8 false G (rg 4) (bf9 (by omega))
theorem aH7 (vs ars : List Int) (b : List b8) : ∀ (d : Nat), d ≤ 5 → ∀ (e : b5) (n : Int), n = d → i6.ok Try.prog ⟨63, [.agg [.ref 0, .ref 1, .ref 2], .agg [.v (.int .i64 e.kind), .v (.int .i64 e.value), .ref 3], .v (.int .i64 n)], [.dat (.ints vs), .dat (.ints ars), .dat (.stmts b), .dat (.exprs e.kids)], [.dat (.ints vs), .dat (.ints ars), .dat (.stmts b), .dat (.exprs e.kids)], .v (.bool (d7 vs.length ars.length d e))⟩
 | 0, _, e, n, hn => aR6 vs ars b e n (by omega)
 | d + 1, hd, e, n, hn => aR5 vs ars b d (by omega) (aH7 vs ars b d (by omega)) e n hn
theorem at4 (vs ars : List Int) (b : List b8) (ky vy : Int) (ks : List b5) (n : Int) (hn : n = 5) : i6.ok Try.prog (J3 63 [pA 0, .agg [iA ky, iA vy, .ref 3], iA n] [dI vs, dI ars, dT b, dE ks] (bA (d7 vs.length ars.length 5 ⟨ky, vy, ks⟩))) := aH7 vs ars b 5 (by omega) ⟨ky, vy, ks⟩ n hn
def cnP (d : Nat) (ks : List b5) (k : Nat) : Nat := 1 + ((ks.take k).map (W3 d)).sum
theorem bx9 (d : Nat) (ks : List b5) : cnP d ks 0 = 1 := rfl
theorem aJ6 {d : Nat} {ks : List b5} {k : Nat} (hk : k < ks.length) : cnP d ks (k + 1) = cnP d ks k + W3 d (ks.getD k bF3) := by
 unfold cnP
 rw [B9 ks k hk, List.map_append, List.sum_append, n6 hk]
 simp; omega
theorem bj4 {d : Nat} {e : b5} {k : Nat} (hk : e.kids.length ≤ k) : cnP d e.kids k = W3 (d + 1) e := by
 unfold cnP; rw [bF9 hk, W3]
section
variable {nv na d : Nat} {e : b5}
theorem aR3 (he : d7 nv na (d + 1) e = true) {k : Nat} (hk : k < e.kids.length) : d7 nv na d (e.kids.getD k bF3) = true := by
 rw [n6 hk]; exact (U5 he).2 _ (bG3 hk)
theorem bx8 (hd : d ≤ 5) (he : d7 nv na d e = true) : W3 d e ≤ 1024 := by
 rw [aJ5 nv na d e he]
 refine bH6 (ap5 nv na d e he) ?_
 exact bH6 (Nat.pow_le_pow_right (by decide) hd) (by decide)
theorem bn3 (hd : d ≤ 4) (he : d7 nv na (d + 1) e = true) : ∀ k : Nat, k ≤ e.kids.length → cnP d e.kids k ≤ 1 + 1024 * k
 | 0, _ => by rw [bx9]; omega
 | k + 1, hk => by
  have h := bn3 hd he k (by omega)
  have h2 := bx8 (by omega) (aR3 he (show k < e.kids.length by omega))
  rw [aJ6 (by omega)]
  omega
end
abbrev cnC (d : Nat) (e : b5) (n : Int) : i6 := J3 64 [eA e 0, iA n] (eS e) (iA (W3 d e : Nat))
theorem aY8 (nv na d : Nat) (hd : d ≤ 4) (ih : ∀ (e : b5), d7 nv na d e = true → ∀ n : Int, n = d → i6.ok Try.prog (cnC d e n)) (e : b5) (he : d7 nv na (d + 1) e = true) (n : Int) (hn : n = (d + 1 : Nat)) : i6.ok Try.prog (cnC (d + 1) e n) := by
  have hk3 := (U5 he).1; refine E2 29 Try.func64 [dE e.kids] [(0, eA e 0), (1, iA n)] fun G => ?_; refine wp_seq (j7 G f7 [0, 1] [dE e.kids, .box (eL e 0)] [(1, iA n), (2, .ptr 1 0), (4, iA 0)] fun G => b6 (wp_seq (l5 G f7 [(5, iA 1)] fun G => b6 (wp_seq (wp_seq (J1 G f7 [(1, iA n), (2, .ptr 1 0), (4, iA 0), (5, iA 1), (6, iA 0)] fun G => b6 (wp_block ?_))))))); refine A4 (κ := Nat) (fun k => k ≤ e.kids.length) (fun k => e.kids.length - k) (fun k => [dE e.kids, .box (eL e 0)]) (fun k => [(1, iA n), (2, .ptr 1 0), (4, iA 0), (5, iA (cnP d e.kids k : Nat)), (6, iA k)]) 0 (by omega) (t7.at G _ _) ?_; clear G; intro k ρ a w hp G; replace G := t7.at G [dE e.kids, .box (eL e 0)] [(1, iA n), (2, .ptr 1 0), (4, iA 0), (5, iA (↑(cnP d e.kids k) : Int)), (6, iA k)]; have hcb := bn3 hd he k hp; refine wp_seq (wp_seq ?_); cases h0 : (decide ((k : Int) < e.kids.length))
  · have q0 := Y1 h0; refine l5 G (H2 (fc h0 fz) [(6, 0), (7, 0), (1008, 0)]) [(15, bA false)] fun G => b6 (rF G false (by kernel_rfl) (wp_exit (A2 (A2 (A1 (b6 (wp_seq (j7 G f7 [0] [dE e.kids] [(4, iA (↑(cnP d e.kids k) : Int))] fun G => b6 (wp_ret ?_))))))))); exact Y9 ((↑(cnP d e.kids k) : Int)) G [0] (by rw [← bj4 (k := k) (by omega)]; done)
  ·
   have q0 := Y0 h0; refine J1 G (H2 (fc h0 fz) [(6, 0), (7, 0), (1008, 0)]) [(1, iA n), (2, .ptr 1 0), (4, iA 0), (5, iA (↑(cnP d e.kids k) : Int)), (6, iA k), (15, bA (decide (n > 0)))] fun G => b6 ?_; cases h1 : (decide (n > 0))
   · have q1 := Y1 h1; exact False.elim (by omega)
   · have q1 := Y0 h1; refine rT G _ h1 (wp_skip (b6 (wp_seq (wp_block (K5 G (t8 8 [42] (ih (e.kids.getD k bF3) (aR3 he (by omega)) (n - 1) (by omega))) [(5, iA ((↑(cnP d e.kids k) : Int) + (↑(W3 d (e.kids.getD k bF3)) : Int)))] (iX k k e.kids.length ((wO (n - 1)) :: ((wO ((↑(cnP d e.kids k) : Int) + (↑(W3 d (e.kids.getD k bF3)) : Int))) :: []))) (iK (by omega) ⟨oW (by omega), ⟨(by have h9 := bx8 (nv := nv) (na := na) (d := d) (by omega) (aR3 he (show k < e.kids.length by omega)); exact w64 (by omega) (by omega)), bF1⟩⟩) fun G => v7 (b6 (K5 G f7 [(6, iA ((k : Int) + 1))] [wO ((k : Int) + 1)] (o1 (by omega)) fun G => b6 ?_))))))); exact rxn G (k + 1) (by omega) (by omega) [0, 1] (ht := by have e1 : ((↑(cnP d e.kids (k + 1)) : Int) : Int) = ((↑(cnP d e.kids k) : Int) + (↑(W3 d (e.kids.getD k bF3)) : Int)) := (by rw [aJ6 (by omega)]; omega); (first | rw [e1] | simp only [e1]) <;> rfl)
theorem aH8 (nv na : Nat) : ∀ (d : Nat), d ≤ 5 → ∀ (e : b5), d7 nv na d e = true → ∀ n : Int, n = d → i6.ok Try.prog (cnC d e n)
 | 0, _, e, h, _, _ => by simp [d7] at h
 | d + 1, hd, e, h, n, hn => aY8 nv na d (by omega) (aH8 nv na d (by omega)) e h n hn
theorem aR7 (nv na : Nat) (ky vy : Int) (ks : List b5) (n : Int) (hn : n = 5) (h : d7 nv na 5 ⟨ky, vy, ks⟩ = true) : i6.ok Try.prog (J3 64 [.agg [iA ky, iA vy, .ref 0], iA n] [dE ks] (iA (W3 5 ⟨ky, vy, ks⟩ : Nat))) := aH8 nv na 5 (by omega) ⟨ky, vy, ks⟩ h n hn
theorem bA7 {nv na : Nat} {e : b5} (h : d7 nv na 5 ⟨e.kind, e.value, e.kids⟩ = false) : d8 nv na e = false := by
 rw [b5.eta] at h
 unfold d8; rw [h]; rfl
theorem bA6 {nv na : Nat} {e : b5} (h : d7 nv na 5 ⟨e.kind, e.value, e.kids⟩ = true) : d8 nv na e = decide ((W3 5 ⟨e.kind, e.value, e.kids⟩ : Int) ≤ 15) := by
 rw [b5.eta] at h ⊢
 rw [aN9, h, Bool.true_and, bH9]
 simp only [decide_eq_true_eq]; omega
section
variable {s : b8}
theorem bB5 (h : s.kind = 4) (h2 : ¬ (s.els.length : Int) = 0) : m7 s = false := by
 unfold m7; rw [if_pos (.inr h), if_pos h, decide_eq_false (p := s.els.length = 0) (by omega)]; simp
theorem bB8 (h : s.kind = 4) (h1 : s.target = 0) (h2 : (s.els.length : Int) = 0) (h3 : s.count ≥ 1) (h4 : s.count ≤ 3) (h5 : noneB s.index = true) : m7 s = noneB s.value := by
 unfold m7; rw [if_pos (.inr h), if_pos h, decide_eq_true (p := s.els.length = 0) (by omega), decide_eq_true h1, decide_eq_true (p := 1 ≤ s.count) h3, decide_eq_true h4, h5]; simp
theorem bB7 (h3 : ¬ s.kind = 3) (h4 : ¬ s.kind = 4) (b : ¬ (s.body.length : Int) > 0) (e : ¬ (s.els.length : Int) > 0) (c : s.count = 0) (h2 : ¬ s.kind = 2) : m7 s = noneB s.index := by
 unfold m7; rw [if_neg (by omega), decide_eq_true (p := s.body.length = 0) (by omega), decide_eq_true (p := s.els.length = 0) (by omega), decide_eq_true c, decide_eq_false h2]; simp
theorem bB6 (b : ¬ (s.body.length : Int) > 0) (e : ¬ (s.els.length : Int) > 0) (c : s.count = 0) (h2 : s.kind = 2) : m7 s = true := by
 unfold m7; rw [if_neg (by omega), decide_eq_true (p := s.body.length = 0) (by omega), decide_eq_true (p := s.els.length = 0) (by omega), decide_eq_true c, decide_eq_true h2]; simp
theorem bB4 (h3 : ¬ s.kind = 3) (h4 : ¬ s.kind = 4) (e : (s.els.length : Int) > 0) : m7 s = false := by
 unfold m7; rw [if_neg (by omega), decide_eq_false (p := s.els.length = 0) (by omega)]; simp
theorem bB3 (h3 : ¬ s.kind = 3) (h4 : ¬ s.kind = 4) (e : (s.body.length : Int) > 0) : m7 s = false := by
 unfold m7; rw [if_neg (by omega), decide_eq_false (p := s.body.length = 0) (by omega)]; simp
end
theorem E0 (p : f5) (e : b5) : i6.ok Try.prog (J3 31 [pA 0, eA e 3] (pS p ++ eS e) (bA (d8 p.vars.length p.arrays.length e))) := by
 have hcn := fun h => aR7 p.vars.length p.arrays.length e.kind e.value e.kids 5 rfl h
 refine E2 13 Try.func31 [dI p.vars, dI p.arrays, dT p.body, dE e.kids] [(0, pA 0), (1, eA e 3)] fun G => ?_; refine wp_seq (j7 G f7 [0, 1, 2, 3, 4, 12] [dI p.vars, dI p.arrays, dT p.body, dE e.kids, .box (pL 0), .box (eL e 3)] [(2, .ptr 4 0), (3, .ptr 5 0), (4, bA false)] fun G => b6 (wp_seq ?_)); cases h0 : (d7 p.vars.length p.arrays.length (5 : Nat) (F0 e))
 ·refine j7 G (y9 (m9 2 (rg 4) (at4 p.vars p.arrays p.body e.kind e.value e.kids 5 (by kernel_rfl)) y8) (fc h0 fz) [(4, 0), (5, 0), (6, 0), (1007, 0)]) (rg 4) [dI p.vars, dI p.arrays, dT p.body, dE e.kids] [(4, bA false)] fun G => b6 (wp_ret ?_); exact w8 false G (rg 4) (bA7 (by with_reducible assumption))
 ·refine j7 G (y9 (m9 2 (rg 4) (at4 p.vars p.arrays p.body e.kind e.value e.kids 5 (by kernel_rfl)) (m9 5 [3] (hcn (by assumption)) y8)) (fc h0 fz) [(4, 0), (5, 0), (6, 0), (1007, 0)]) (rg 4) [dI p.vars, dI p.arrays, dT p.body, dE e.kids] [(4, bA (decide ((↑(W3 5 (F0 e)) : Int) ≤ 15)))] fun G => b6 (wp_ret ?_); exact w8 (decide ((↑(W3 5 (F0 e)) : Int) ≤ 15)) G (rg 4) (bA6 (by with_reducible assumption))
abbrev an8 (s : b8) (r0 : List It) : List It := dE s.index.kids :: dE s.value.kids :: dT s.body :: dT s.els :: r0
theorem a06 (s : b8) : i6.ok Try.prog (J3 140 [sA s 0] (sS s) (bA (m7 s))) := by
  refine E2 74 Try.func140 (an8 s []) [(0, sA s 0)] fun G => ?_; refine wp_seq (j7 G f7 (rg 5) (an8 s [.box (sL s 0)]) [(1, .ptr 4 0), (2, bA false)] fun G => b6 (wp_seq ?_)); cases h0 : (s.kind == 3)
  ·
   have q0 := ne_of_beq_false h0; refine J1 G (H2 (fc h0 fz) [(4, 0), (5, 0), (6, 0), (1007, 0)]) [(1, .ptr 4 0), (2, bA false), (3, bA (s.kind == 4))] fun G => b6 (wp_seq (wp_seq ?_)); cases h1 : (!s.kind == 4)
   ·
    have q1 : s.kind = 4 := (fun hq => eq_of_beq hq) (Eq.mp (bG2 _) h1); cases h2 : (s.kind == 4)
    · have q2 := ne_of_beq_false h2; exact False.elim (by omega)
    ·
     have q2 := eq_of_beq h2; refine l5 G (H2 (fc h1 (fc (b := false) rfl (fc h2 fz))) (us [(3, 7, 0), (12, 12, 0), (1013, 1013, 0), (15, 16, 1), (17, 19, 2), (20, 20, 1), (1020, 1020, 2), (1021, 1021, 1)])) [(33, bA (s.target != 0))] fun G => b6 (rcN G (fun h3 q3 => ?_) fun h3 q3 => ?_)
     ·
      refine wp_skip (b6 (wp_seq (wp_seq (l5 G f7 [(36, bA (s.kind == 4))] fun G => b6 (rT G _ h2 (wp_seq ?_)))))); cases h4 : ((s.els.length : Int) == 0)
      · have q4 := ne_of_beq_false h4; refine l5 G (H2 (fc h4 (fc (b := false) rfl fz)) (us [(5, 7, 0), (1008, 1008, 0), (10, 12, 1), (1013, 1013, 1), (15, 17, 1), (1018, 1018, 1), (20, 22, 1), (1023, 1023, 1)])) [] fun G => b6 (wp_ret (j8 ?_)); exact w8 false G (rg 4) (bB5 (by omega) (by omega))
      ·
       have q4 := eq_of_beq h4; cases h5 : (decide (s.count ≥ 1))
       · have q5 := Y1 h5; refine l5 G (H2 (fc h4 (fc h5 (fc (b := false) rfl fz))) (us [(5, 7, 0), (1008, 1008, 0), (10, 12, 1), (1013, 1013, 1), (15, 17, 2), (1018, 1018, 2), (20, 22, 2), (1023, 1023, 2)])) [] fun G => b6 (wp_ret (j8 ?_)); exact w8 false G (rg 4) (by rw [bH9]; simp [m7, h0, q0, h1, q1, h2, q2, h3, q3, h4, q4, h5, q5]; done)
       ·
        have q5 := Y0 h5; cases h6 : (decide (s.count ≤ 3))
        · have q6 := Y1 h6; refine l5 G (H2 (fc h4 (fc h5 (fc h6 (fc (b := false) rfl fz)))) (us [(5, 7, 0), (1008, 1008, 0), (10, 12, 1), (1013, 1013, 1), (15, 17, 2), (1018, 1018, 2), (20, 22, 3), (1023, 1023, 3)])) [] fun G => b6 (wp_ret (j8 ?_)); exact w8 false G (rg 4) (by rw [bH9]; simp [m7, h0, q0, h1, q1, h2, q2, h3, q3, h4, q4, h5, q5, h6, q6]; done)
        ·
         have q6 := Y0 h6; cases h7 : (noneB s.index)
         · refine l5 G (y9 (m9 17 [0] (Y3 s.index) y8) (fc h4 (fc h5 (fc h6 (fc h7 fz)))) (us [(5, 7, 0), (1008, 1008, 0), (10, 12, 1), (1013, 1013, 1), (15, 17, 2), (1018, 1018, 2), (20, 22, 3), (1023, 1023, 3)])) [] fun G => b6 (wp_ret (j8 ?_)); exact w8 false G (rg 4) (by rw [bH9]; simp [m7, h0, q0, h1, q1, h2, q2, h3, q3, h4, q4, h5, q5, h6, q6, h7]; done)
         · refine l5 G (y9 (m9 17 [0] (Y3 s.index) (m9 22 [1] (Y3 s.value) y8)) (fc h4 (fc h5 (fc h6 (fc h7 fz)))) (us [(5, 7, 0), (1008, 1008, 0), (10, 12, 1), (1013, 1013, 1), (15, 17, 2), (1018, 1018, 2), (20, 22, 3), (1023, 1023, 3)])) [(2, bA (noneB s.value))] fun G => b6 (wp_ret (j8 ?_)); exact w8 (noneB s.value) G (rg 4) (bB8 (by omega) (by omega) (by omega) (by omega) (by omega) (by with_reducible assumption))
     · refine wp_seq (l5 G f7 [] fun G => b6 (wp_ret (j8 ?_))); exact w8 false G (rg 4) (by rw [bH9]; simp [m7, h0, q0, h1, q1, h2, q2, h3, q3]; done)
   ·
    have q1 : ¬ (s.kind = 4) := (fun hq => ne_of_beq_false hq) (Eq.mp (bF8 _) h1); cases h8 : (decide ((s.body.length : Int) > 0))
    ·
     have q8 := Y1 h8; cases h9 : (decide ((s.els.length : Int) > 0))
     ·
      have q9 := Y1 h9; cases h10 : (s.kind == 4)
      ·
       have q10 := ne_of_beq_false h10; refine l5 G (H2 (fc h1 (fc h8 (fc h9 (fc h10 fz)))) (us [(3, 7, 0), (8, 11, 1), (12, 12, 0), (1012, 1012, 1), (1013, 1013, 0), (15, 16, 2), (17, 19, 3), (20, 20, 2), (1020, 1020, 3), (1021, 1021, 2)])) [(33, bA false)] fun G => b6 (rF G false (by kernel_rfl) (wp_skip (b6 (wp_seq (wp_seq (l5 G f7 [(36, bA (s.kind == 4))] fun G => b6 (rF G _ h10 (wp_skip (b6 (wp_seq ?_)))))))))); cases h11 : (s.count == 0)
       · have q11 := ne_of_beq_false h11; refine j7 G (H2 (fc h11 fz) (us [(4, 7, 0), (11, 11, 0), (1012, 1012, 0)])) (rg 4) (an8 s []) [(2, bA false)] fun G => b6 (wp_ret ?_); exact w8 false G (rg 4) (by rw [bH9]; simp [m7, h0, q0, h1, q1, h8, q8, h9, q9, h10, q10, h11, q11]; done)
       ·
        have q11 := eq_of_beq h11; cases h12 : (s.kind == 2)
        · have q12 := ne_of_beq_false h12; refine j7 G (y9 (m9 10 [0] (Y3 s.index) y8) (fc h11 (fc h12 fz)) (us [(4, 7, 0), (8, 10, 1), (11, 11, 0), (1011, 1011, 1), (1012, 1012, 0)])) (rg 4) (an8 s []) [(2, bA (noneB s.index))] fun G => b6 (wp_ret ?_); exact w8 (noneB s.index) G (rg 4) (bB7 (by omega) (by omega) (by omega) (by omega) (by omega) (by omega))
        · have q12 := eq_of_beq h12; refine j7 G (H2 (fc h11 (fc h12 fz)) (us [(4, 7, 0), (8, 10, 1), (11, 11, 0), (1011, 1011, 1), (1012, 1012, 0)])) (rg 4) (an8 s []) [(2, bA true)] fun G => b6 (wp_ret ?_); exact w8 true G (rg 4) (bB6 (by omega) (by omega) (by omega) (by omega))
      · have q10 := eq_of_beq h10; exact False.elim (by omega)
     · have q9 := Y0 h9; refine l5 G (H2 (fc h1 (fc h8 (fc h9 fz))) (us [(3, 7, 0), (8, 11, 1), (12, 12, 0), (1012, 1012, 1), (1013, 1013, 0), (15, 16, 2), (20, 20, 2), (1021, 1021, 2)])) [(33, bA true)] fun G => b6 (rT G true (by kernel_rfl) (wp_seq (l5 G f7 [] fun G => b6 (wp_ret (j8 ?_))))); exact w8 false G (rg 4) (bB4 (by omega) (by omega) (by omega))
    · have q8 := Y0 h8; refine l5 G (H2 (fc h1 (fc h8 (fc (b := true) rfl fz))) (us [(3, 7, 0), (8, 11, 1), (12, 12, 0), (1012, 1012, 1), (1013, 1013, 0), (15, 16, 2), (20, 20, 2), (1021, 1021, 2)])) [(33, bA true)] fun G => b6 (rT G true (by kernel_rfl) (wp_seq (l5 G f7 [] fun G => b6 (wp_ret (j8 ?_))))); exact w8 false G (rg 4) (bB3 (by omega) (by omega) (by omega))
  ·
   have q0 := eq_of_beq h0; refine l5 G (H2 (fc h0 fz) [(4, 0), (5, 0), (6, 0), (1007, 0)]) [(3, bA true)] fun G => b6 (wp_seq (wp_seq (l5 G (H2 (fc (b := false) rfl (fc (b := true) rfl fz)) (us [(3, 7, 0), (12, 12, 0), (1013, 1013, 0), (15, 16, 0), (17, 19, 1), (20, 20, 0), (1020, 1020, 1), (1021, 1021, 0)])) [(33, bA (s.target != 0))] fun G => b6 (rcN G (fun h13 q13 => ?_) fun h13 q13 => ?_))))
   ·
    refine wp_skip (b6 (wp_seq (wp_seq (J1 G f7 [(1, .ptr 4 0), (2, bA false), (36, bA (s.kind == 4))] fun G => b6 ?_)))); cases h14 : (s.kind == 4)
    ·
     have q14 := ne_of_beq_false h14; refine rF G _ h14 (wp_skip (b6 (wp_seq ?_))); cases h15 : (s.count == 0)
     · have q15 := ne_of_beq_false h15; refine j7 G (H2 (fc h15 fz) (us [(4, 7, 0), (11, 11, 0), (1012, 1012, 0)])) (rg 4) (an8 s []) [(2, bA false)] fun G => b6 (wp_ret ?_); exact w8 false G (rg 4) (by rw [bH9]; simp [m7, h0, q0, h13, q13, h14, q14, h15, q15]; done)
     ·
      have q15 := eq_of_beq h15; cases h16 : (s.kind == 2)
      · have q16 := ne_of_beq_false h16; refine j7 G (y9 (m9 10 [0] (Y3 s.index) y8) (fc h15 (fc h16 fz)) (us [(4, 7, 0), (8, 10, 1), (11, 11, 0), (1011, 1011, 1), (1012, 1012, 0)])) (rg 4) (an8 s []) [(2, bA (noneB s.index))] fun G => b6 (wp_ret ?_); exact w8 (noneB s.index) G (rg 4) (by rw [bH9]; simp [m7, h0, q0, h13, q13, h14, q14, h15, q15, h16, q16]; done)
      · have q16 := eq_of_beq h16; exact False.elim (by omega)
    · have q14 := eq_of_beq h14; exact False.elim (by omega)
   · refine wp_seq (l5 G f7 [] fun G => b6 (wp_ret (j8 ?_))); exact w8 false G (rg 4) (by rw [bH9]; simp [m7, h0, q0, h13, q13]; done)
abbrev vbC (p : f5) (d : Nat) (ss : List b8) (n : Int) : i6 := J3 99 [pA 0, .ref 3, iA n] (pS p ++ [dT ss]) (bA (ss.all (m5 p.vars.length p.arrays.length d)))
abbrev vsC (p : f5) (d : Nat) (s : b8) (n : Int) : i6 := J3 131 [pA 0, sA s 3, iA n] (pS p ++ sS s) (bA (m5 p.vars.length p.arrays.length d s))
theorem aY7 (p : f5) (s : b8) (n : Int) (hn : n = 0) : i6.ok Try.prog (vsC p 0 s n) := by
 refine E2 96 Try.func131 [dI p.vars, dI p.arrays, dT p.body, dE s.index.kids, dE s.value.kids, dT s.body, dT s.els] [(0, pA 0), (1, sA s 3), (2, iA n)] fun G => ?_; refine wp_seq (j7 G f7 [0, 1, 2, 3, 4, 5, 6, 7, 15] [dI p.vars, dI p.arrays, dT p.body, dE s.index.kids, dE s.value.kids, dT s.body, dT s.els, .box (pL 0), .box (sL s 3)] [(2, iA n), (3, .ptr 7 0), (4, .ptr 8 0), (6, bA false)] fun G => b6 (wp_seq (wp_seq ?_))); cases h0 : (decide (n < 1))
 ·have q0 := Y1 h0; exact False.elim (by omega)
 ·have q0 := Y0 h0; refine l5 G (H2 (fc h0 fz) [(3, 0), (4, 0), (5, 0), (1006, 0)]) [(13, bA true)] fun G => b6 (rT G true (by kernel_rfl) (wp_seq (l5 G f7 [] fun G => b6 (wp_ret (j8 ?_))))); exact I7 G (rg 7)
section
variable {nv na d : Nat} {s : b8}
theorem bA2 (h : m7 s = false) : m5 nv na (d + 1) s = false := by rw [m5, h]; rfl
theorem bo6 (hp : m7 s = true) (h : s.kind = 1 ∨ s.kind = 5) : m5 nv na (d + 1) s = (decide (0 ≤ s.target) && decide (s.target < nv) && d8 nv na s.value) := by rw [m5, hp, if_pos h]; rfl
theorem a48 (hp : m7 s = true) (h : s.kind = 2) : m5 nv na (d + 1) s = (decide (0 ≤ s.target) && decide (s.target < na) && d8 nv na s.index && D6 s.index && d8 nv na s.value) := by rw [m5, hp, if_neg (by omega), if_pos h]; rfl
theorem bo5 (hp : m7 s = true) (h : s.kind = 3) : m5 nv na (d + 1) s = (d8 nv na s.value && s.body.all (m5 nv na d) && s.els.all (m5 nv na d)) := by rw [m5, hp, if_neg (by omega), if_neg (by omega), if_pos h]; rfl
theorem bA3 (hp : m7 s = true) (h : s.kind = 4) : m5 nv na (d + 1) s = s.body.all (m5 nv na d) := by rw [m5, hp, if_neg (by omega), if_neg (by omega), if_neg (by omega), if_pos h]; rfl
theorem bm1 (hp : m7 s = true) (h : s.kind = 1 ∨ s.kind = 5) (q : ¬ s.target ≥ 0) : m5 nv na (d + 1) s = false := by rw [bo6 hp h, decide_eq_false (p := 0 ≤ s.target) q]; rfl
theorem bm0 (hp : m7 s = true) (h : s.kind = 1 ∨ s.kind = 5) (q : ¬ s.target < (nv : Int)) : m5 nv na (d + 1) s = false := by rw [bo6 hp h, decide_eq_false q, Bool.and_false]; rfl
theorem bl9 (hp : m7 s = true) (h : s.kind = 1 ∨ s.kind = 5) (q : s.target ≥ 0) (r : s.target < (nv : Int)) : m5 nv na (d + 1) s = d8 nv na s.value := by rw [bo6 hp h, decide_eq_true (p := 0 ≤ s.target) q, decide_eq_true r]; rfl
theorem bt2 (hp : m7 s = true) (h : s.kind = 2) (q : ¬ s.target ≥ 0) : m5 nv na (d + 1) s = false := by rw [a48 hp h, decide_eq_false (p := 0 ≤ s.target) q]; rfl
theorem bt1 (hp : m7 s = true) (h : s.kind = 2) (q : ¬ s.target < (na : Int)) : m5 nv na (d + 1) s = false := by rw [a48 hp h, decide_eq_false q, Bool.and_false]; rfl
theorem bt0 (hp : m7 s = true) (h : s.kind = 2) (q : d8 nv na s.index = false) : m5 nv na (d + 1) s = false := by rw [a48 hp h, q, Bool.and_false]; rfl
theorem bs9 (hp : m7 s = true) (h : s.kind = 2) (q : D6 s.index = false) : m5 nv na (d + 1) s = false := by rw [a48 hp h, q, Bool.and_false]; rfl
theorem bs8 (hp : m7 s = true) (h : s.kind = 2) (q : s.target ≥ 0) (r : s.target < (na : Int)) (u : d8 nv na s.index = true) (v : D6 s.index = true) : m5 nv na (d + 1) s = d8 nv na s.value := by rw [a48 hp h, decide_eq_true (p := 0 ≤ s.target) q, decide_eq_true r, u, v]; rfl
theorem bs7 (hp : m7 s = true) (h : s.kind = 3) (q : d8 nv na s.value = false) : m5 nv na (d + 1) s = false := by rw [bo5 hp h, q]; rfl
theorem bs6 (hp : m7 s = true) (h : s.kind = 3) (q : s.body.all (m5 nv na d) = false) : m5 nv na (d + 1) s = false := by rw [bo5 hp h, q, Bool.and_false]; rfl
theorem bs5 (hp : m7 s = true) (h : s.kind = 3) (q : d8 nv na s.value = true) (r : s.body.all (m5 nv na d) = true) : m5 nv na (d + 1) s = s.els.all (m5 nv na d) := by rw [bo5 hp h, q, r]; rfl
theorem bA4 (h1 : ¬ s.kind = 1) (h2 : ¬ s.kind = 2) (h3 : ¬ s.kind = 3) (h4 : ¬ s.kind = 4) (h5 : ¬ s.kind = 5) : m5 nv na (d + 1) s = false := by rw [m5, if_neg (by omega), if_neg h2, if_neg h3, if_neg h4]; simp
end
abbrev I9 (p : f5) (s : b8) (r0 : List It) : List It := dI p.vars :: dI p.arrays :: dT p.body :: dE s.index.kids :: dE s.value.kids :: dT s.body :: dT s.els :: r0
theorem a54 (p : f5) (d : Nat) (hB : ∀ (ss : List b8) (n : Int), n = d → i6.ok Try.prog (vbC p d ss n)) (s : b8) (n : Int) (hn : n = (d + 1 : Nat)) (hd : d ≤ 5) : i6.ok Try.prog (vsC p (d + 1) s n) := by
  refine E2 96 Try.func131 (I9 p s []) [(0, pA 0), (1, sA s 3), (2, iA n)] fun G => ?_; refine wp_seq (j7 G f7 [0, 1, 2, 3, 4, 5, 6, 7, 15] (I9 p s [.box (pL 0), .box (sL s 3)]) [(2, iA n), (3, .ptr 7 0), (4, .ptr 8 0), (6, bA false)] fun G => b6 (wp_seq (wp_seq ?_))); cases h0 : (decide (n < 1))
  ·
   have q0 := Y1 h0; refine l5 G (y9 (m9 4 [3, 4, 5, 6] (a06 s) y8) (fc h0 fz) [(3, 0), (4, 0), (5, 0), (1006, 0)]) [(13, .v (.bool !m7 s))] fun G => b6 ?_; cases h1 : (!m7 s)
   ·
    have q1 : (m7 s) = true := (Eq.mp (bG2 _) h1); refine rF G _ h1 (wp_skip (b6 (wp_seq (wp_seq (l5 G f7 [(15, iA s.kind)] fun G => b6 (wp_block (wp_seq (wp_seq (l5 G f7 [(16, bA (s.kind == 1))] fun G => b6 (W5 G (fun h2 q2 => ?_) fun h2 q2 => ?_))))))))))
    ·
     refine l5 G f7 [(16, bA (s.kind == 5))] fun G => b6 (W5 G (fun h3 q3 => ?_) fun h3 q3 => ?_)
     ·
      refine wp_seq (l5 G f7 [(36, bA (s.kind == 2))] fun G => b6 (W5 G (fun h4 q4 => ?_) fun h4 q4 => ?_))
      ·
       refine wp_seq (l5 G f7 [(66, bA (s.kind == 3))] fun G => b6 (W5 G (fun h5 q5 => ?_) fun h5 q5 => ?_))
       ·
        refine wp_seq (l5 G f7 [(88, bA (s.kind == 4))] fun G => b6 (W5 G (fun h6 q6 => ?_) fun h6 q6 => ?_))
        · refine wp_skip (v7 (b6 (wp_seq (j7 G f7 (rg 7) (I9 p s []) [(6, bA false)] fun G => b6 (wp_ret ?_))))); exact w8 false G (rg 7) (bA4 (by omega) (by omega) (by omega) (by omega) (by omega))
        · refine wp_seq (W0 G (t8 5 [0, 1, 2, 5] (hB s.body (n - 1) (by omega))) (rg 7) (I9 p s []) [(6, bA (s.body.all (m5 p.vars.length p.arrays.length d)))] [wO (n - 1)] (o1 (by omega)) fun G => b6 (wp_ret (C1 (j8 ?_)))); exact w8 (s.body.all (m5 p.vars.length p.arrays.length d)) G (rg 7) (bA3 (by with_reducible assumption) (by omega))
       ·
        refine wp_seq ?_; cases h7 : (d8 p.vars.length p.arrays.length s.value)
        · refine j7 G (y9 (m9 3 [0, 1, 2, 4] (E0 p s.value) y8) (fc h7 (fc (b := false) rfl fz)) (us [(5, 10, 0), (1011, 1011, 0), (13, 18, 1), (1019, 1019, 1)])) (rg 7) (I9 p s []) [(6, bA false)] fun G => b6 (wp_ret (C1 (j8 ?_))); exact w8 false G (rg 7) (bs7 (by with_reducible assumption) (by omega) (by with_reducible assumption))
        ·
         cases h8 : (s.body.all (m5 p.vars.length p.arrays.length d))
         · refine W0 G (y9 (m9 3 [0, 1, 2, 4] (E0 p s.value) (m9 10 [0, 1, 2, 5] (hB s.body (n - 1) (by omega)) y8)) (fc h7 (fc h8 fz)) (us [(5, 10, 0), (1011, 1011, 0), (13, 18, 1), (1019, 1019, 1)])) (rg 7) (I9 p s []) [(6, bA false)] [wO (n - 1)] (o1 (by omega)) fun G => b6 (wp_ret (C1 (j8 ?_))); exact w8 false G (rg 7) (bs6 (by with_reducible assumption) (by omega) (by with_reducible assumption))
         · refine W0 G (y9 (m9 3 [0, 1, 2, 4] (E0 p s.value) (m9 10 [0, 1, 2, 5] (hB s.body (n - 1) (by omega)) (m9 18 [0, 1, 2, 6] (hB s.els (n - 1) (by omega)) y8))) (fc h7 (fc h8 fz)) (us [(5, 10, 0), (1011, 1011, 0), (13, 18, 1), (1019, 1019, 1)])) (rg 7) (I9 p s []) [(6, bA (s.els.all (m5 p.vars.length p.arrays.length d)))] [wO (n - 1), wO (n - 1)] (o2 (by omega)) fun G => b6 (wp_ret (C1 (j8 ?_))); exact w8 (s.els.all (m5 p.vars.length p.arrays.length d)) G (rg 7) (bs5 (by with_reducible assumption) (by omega) (by with_reducible assumption) (by with_reducible assumption))
      ·
       refine wp_seq ?_; cases h9 : (decide (s.target ≥ 0))
       · have q9 := Y1 h9; refine j7 G (H2 (fc h9 (fc (b := false) rfl fz)) (us [(4, 9, 0), (1010, 1010, 0), (12, 15, 1), (1016, 1016, 1), (18, 20, 1), (1021, 1021, 1), (23, 26, 1), (1027, 1027, 1)])) (rg 7) (I9 p s []) [(6, bA false)] fun G => b6 (wp_ret (C1 (j8 ?_))); exact w8 false G (rg 7) (bt2 (by with_reducible assumption) (by omega) (by omega))
       ·
        have q9 := Y0 h9; cases h10 : (decide (s.target < (p.arrays.length : Int)))
        · have q10 := Y1 h10; refine j7 G (H2 (fc h9 (fc h10 (fc (b := false) rfl fz))) (us [(4, 9, 0), (1010, 1010, 0), (12, 15, 1), (1016, 1016, 1), (18, 20, 2), (1021, 1021, 2), (23, 26, 2), (1027, 1027, 2)])) (rg 7) (I9 p s []) [(6, bA false)] fun G => b6 (wp_ret (C1 (j8 ?_))); exact w8 false G (rg 7) (bt1 (by with_reducible assumption) (by omega) (by omega))
        ·
         have q10 := Y0 h10; cases h11 : (d8 p.vars.length p.arrays.length s.index)
         · refine j7 G (y9 (m9 15 (rg 4) (E0 p s.index) y8) (fc h9 (fc h10 (fc h11 (fc (b := false) rfl fz)))) (us [(4, 9, 0), (1010, 1010, 0), (12, 15, 1), (1016, 1016, 1), (18, 20, 2), (1021, 1021, 2), (23, 26, 3), (1027, 1027, 3)])) (rg 7) (I9 p s []) [(6, bA false)] fun G => b6 (wp_ret (C1 (j8 ?_))); exact w8 false G (rg 7) (bt0 (by with_reducible assumption) (by omega) (by with_reducible assumption))
         ·
          cases h12 : (D6 s.index)
          · refine j7 G (y9 (m9 15 (rg 4) (E0 p s.index) (m9 20 [3] (at5 s.index) y8)) (fc h9 (fc h10 (fc h11 (fc h12 fz)))) (us [(4, 9, 0), (1010, 1010, 0), (12, 15, 1), (1016, 1016, 1), (18, 20, 2), (1021, 1021, 2), (23, 26, 3), (1027, 1027, 3)])) (rg 7) (I9 p s []) [(6, bA false)] fun G => b6 (wp_ret (C1 (j8 ?_))); exact w8 false G (rg 7) (bs9 (by with_reducible assumption) (by omega) (by with_reducible assumption))
          · refine j7 G (y9 (m9 15 (rg 4) (E0 p s.index) (m9 20 [3] (at5 s.index) (m9 26 [0, 1, 2, 4] (E0 p s.value) y8))) (fc h9 (fc h10 (fc h11 (fc h12 fz)))) (us [(4, 9, 0), (1010, 1010, 0), (12, 15, 1), (1016, 1016, 1), (18, 20, 2), (1021, 1021, 2), (23, 26, 3), (1027, 1027, 3)])) (rg 7) (I9 p s []) [(6, bA (d8 p.vars.length p.arrays.length s.value))] fun G => b6 (wp_ret (C1 (j8 ?_))); exact w8 (d8 p.vars.length p.arrays.length s.value) G (rg 7) (bs8 (by with_reducible assumption) (by omega) (by omega) (by omega) (by with_reducible assumption) (by with_reducible assumption))
     ·
      refine wp_seq ?_; cases h13 : (decide (s.target ≥ 0))
      · have q13 := Y1 h13; refine j7 G (H2 (fc h13 (fc (b := false) rfl fz)) (us [(4, 9, 0), (1010, 1010, 0), (12, 15, 1), (1016, 1016, 1)])) (rg 7) (I9 p s []) [(6, bA false)] fun G => b6 (wp_ret (C1 (j8 ?_))); exact w8 false G (rg 7) (bm1 (by with_reducible assumption) (by omega) (by omega))
      ·
       have q13 := Y0 h13; cases h14 : (decide (s.target < (p.vars.length : Int)))
       · have q14 := Y1 h14; refine j7 G (H2 (fc h13 (fc h14 fz)) (us [(4, 9, 0), (1010, 1010, 0), (12, 15, 1), (1016, 1016, 1)])) (rg 7) (I9 p s []) [(6, bA false)] fun G => b6 (wp_ret (C1 (j8 ?_))); exact w8 false G (rg 7) (bm0 (by with_reducible assumption) (by omega) (by omega))
       · have q14 := Y0 h14; refine j7 G (y9 (m9 15 [0, 1, 2, 4] (E0 p s.value) y8) (fc h13 (fc h14 fz)) (us [(4, 9, 0), (1010, 1010, 0), (12, 15, 1), (1016, 1016, 1)])) (rg 7) (I9 p s []) [(6, bA (d8 p.vars.length p.arrays.length s.value))] fun G => b6 (wp_ret (C1 (j8 ?_))); exact w8 (d8 p.vars.length p.arrays.length s.value) G (rg 7) (bl9 (by with_reducible assumption) (by omega) (by omega) (by omega))
    ·
     refine wp_skip (b6 (rT G _ h2 (wp_seq ?_))); cases h15 : (decide (s.target ≥ 0))
     · have q15 := Y1 h15; refine j7 G (H2 (fc h15 (fc (b := false) rfl fz)) (us [(4, 9, 0), (1010, 1010, 0), (12, 15, 1), (1016, 1016, 1)])) (rg 7) (I9 p s []) [(6, bA false)] fun G => b6 (wp_ret (C1 (j8 ?_))); exact w8 false G (rg 7) (bm1 (by with_reducible assumption) (by omega) (by omega))
     ·
      have q15 := Y0 h15; cases h16 : (decide (s.target < (p.vars.length : Int)))
      · have q16 := Y1 h16; refine j7 G (H2 (fc h15 (fc h16 fz)) (us [(4, 9, 0), (1010, 1010, 0), (12, 15, 1), (1016, 1016, 1)])) (rg 7) (I9 p s []) [(6, bA false)] fun G => b6 (wp_ret (C1 (j8 ?_))); exact w8 false G (rg 7) (bm0 (by with_reducible assumption) (by omega) (by omega))
      · have q16 := Y0 h16; refine j7 G (y9 (m9 15 [0, 1, 2, 4] (E0 p s.value) y8) (fc h15 (fc h16 fz)) (us [(4, 9, 0), (1010, 1010, 0), (12, 15, 1), (1016, 1016, 1)])) (rg 7) (I9 p s []) [(6, bA (d8 p.vars.length p.arrays.length s.value))] fun G => b6 (wp_ret (C1 (j8 ?_))); exact w8 (d8 p.vars.length p.arrays.length s.value) G (rg 7) (bl9 (by with_reducible assumption) (by omega) (by omega) (by omega))
   · have q1 : (m7 s) = false := (Eq.mp (bF8 _) h1); refine rT G _ h1 (wp_seq (l5 G f7 [] fun G => b6 (wp_ret (j8 ?_)))); exact w8 false G (rg 7) (bA2 (by with_reducible assumption))
  · have q0 := Y0 h0; exact False.elim (by omega)
theorem bz1 {nv na d : Nat} {ss : List b8} {k : Nat} (hk : k < ss.length) (h : m5 nv na d (ss.getD k bF3) = false) : ss.all (m5 nv na d) = false := by
 rw [n6 hk] at h
 exact an0 hk h
theorem aw1 (p : f5) (d : Nat) (hd : d ≤ 5) (hS : ∀ (s : b8) (n : Int), n = d → i6.ok Try.prog (vsC p d s n)) (ss : List b8) (n : Int) (hn : n = d) : i6.ok Try.prog (vbC p d ss n) := by
  refine E2 22 Try.func99 [dI p.vars, dI p.arrays, dT p.body, dT ss] [(0, pA 0), (1, .ref 3), (2, iA n)] fun G => ?_; refine wp_seq (j7 G f7 (rg 5) [dI p.vars, dI p.arrays, dT p.body, dT ss, .box (pL 0)] [(1, .ref 3), (2, iA n), (3, .ptr 4 0), (6, bA false)] fun G => b6 (wp_seq (wp_seq (J1 G f7 [(1, .ref 3), (2, iA n), (3, .ptr 4 0), (6, bA false), (7, iA 0)] fun G => b6 (wp_block ?_))))); refine A4 (κ := Nat) (fun k => k ≤ ss.length ∧ (ss.take k).all (m5 p.vars.length p.arrays.length d) = true) (fun k => ss.length - k) (fun k => [dI p.vars, dI p.arrays, dT p.body, dT ss, .box (pL 0)]) (fun k => [(1, .ref 3), (2, iA n), (3, .ptr 4 0), (6, bA false), (7, iA k)]) 0 (by simp) (t7.at G _ _) ?_; clear G; intro k ρ a w hp G; have hlen : ss.length ≤ 9223372036854775807 := G.len 3 (d := .stmts ss) (by kernel_rfl); refine wp_seq (wp_seq (J1 G f7 [(1, .ref 3), (2, iA n), (3, .ptr 4 0), (6, bA false), (7, iA k), (11, bA (decide ((k : Int) < ss.length)))] fun G => b6 (rcD G (fun h0 q0 => ?_) fun h0 q0 => ?_)))
  · refine wp_exit (A2 (A2 (A1 (b6 (wp_seq (j7 G f7 (rg 4) [dI p.vars, dI p.arrays, dT p.body, dT ss] [(6, bA true)] fun G => b6 (wp_ret ?_))))))); exact w8 true G (rg 4) (au4 hp.2 (by omega))
  ·
   refine wp_skip (b6 (wp_seq (wp_block (wp_seq (aO2 G (t8 6 [0, 1, 2, 37, 38, 39, 40] (hS (ss.getD k bF3) n (by assumption))) [0, 0, 0, 6, 14, 0, 63, 127] [(21, .v (.bool !m5 p.vars.length p.arrays.length d (ss.getD k bF3)))] (iX k k ss.length []) (iK (by omega) bF1) fun G => b6 ?_))))); cases h1 : (!m5 p.vars.length p.arrays.length d (ss.getD k bF3))
   · have q1 : (m5 p.vars.length p.arrays.length d (ss.getD k bF3)) = true := (Eq.mp (bG2 _) h1); refine rF G _ h1 (wp_skip (v7 (b6 (K5 G f7 [(7, iA ((k : Int) + 1))] [wO ((k : Int) + 1)] (o1 (by omega)) fun G => b6 ?_)))); exact rxn G (k + 1) (⟨by omega, aK9 hp.2 (by omega) (by assumption)⟩) (by omega) (rg 5)
   · have q1 : (m5 p.vars.length p.arrays.length d (ss.getD k bF3)) = false := (Eq.mp (bF8 _) h1); refine rT G _ h1 (wp_seq (l5 G f7 [] fun G => b6 (wp_ret (C1 (j8 (j8 (C1 (j8 ?_)))))))); exact w8 false G (rg 4) (bz1 (k := k) (by omega) (by with_reducible assumption))
theorem aW0 (p : f5) : ∀ (d : Nat), d ≤ 5 → ∀ (s : b8) (n : Int), n = d → i6.ok Try.prog (vsC p d s n)
 | 0, _, s, n, hn => aY7 p s n hn
 | d + 1, hd, s, n, hn => a54 p d (fun ss n hn => aw1 p d (by omega) (aW0 p d (by omega)) ss n hn) s n hn (by omega)
theorem a08 (p : f5) (ss : List b8) (n : Int) (hn : n = 5) : i6.ok Try.prog (J3 99 [pA 0, .ref 3, iA n] (pS p ++ [.dat (.stmts ss)]) (bA (ad3 p.vars.length p.arrays.length 5 ss))) :=
 aw1 p 5 (by omega) (aW0 p 5 (by omega)) ss n hn
def B3 : Nat → List b8 → Nat
 | 0, ss => ss.length
 | d + 1, ss => ss.length + (ss.map fun s => B3 d s.body + B3 d s.els).sum
def szP (d : Nat) (ss : List b8) (k : Nat) : Nat := ss.length + ((ss.take k).map fun s => B3 d s.body + B3 d s.els).sum
theorem bf1 (d : Nat) (ss : List b8) {k : Nat} (h : ss.length ≤ k) : szP d ss k = B3 (d + 1) ss := by unfold szP; rw [bF9 h, B3]
theorem ap0 {d : Nat} {ss : List b8} {k : Nat} (h : k < ss.length) : szP d ss (k + 1) = szP d ss k + (B3 d (ss.getD k bF3).body + B3 d (ss.getD k bF3).els) := by
 unfold szP
 rw [B9 ss k h, List.map_append, List.sum_append, n6 h]
 simp; omega
theorem a49 : ∀ (d : Nat) (ss : List b8), B3 d ss ≤ x9 ss := by
 intro d
 induction d with
 | zero => intro ss; exact ae2 ss
 | succ d ih =>
  intro ss
  induction ss with
  | nil => simp [B3]
  | cons s r ihr =>
   have h1 := ih s.body
   have h2 := ih s.els
   have h3 := av8 s
   simp only [B3, bH5, List.sum_cons, bH3, x9] at ihr ⊢
   have h4 : x9 s.body + x9 s.els ≤ szS s := by
    rcases s with ⟨_, _, _, _, _, b, e⟩
    simp only [szS, b8.body, b8.els]; omega
   omega
theorem aM4 {d : Nat} {ss : List b8} {k : Nat} : szP d ss k ≤ x9 ss := by
 refine bH6 ?_ (a49 (d + 1) ss)
 unfold szP
 rw [B3]
 have : ∀ (l : List Nat) (k : Nat), (l.take k).sum ≤ l.sum := fun l k => by
  have := List.sum_append (l₁ := l.take k) (l₂ := l.drop k)
  rw [List.take_append_drop] at this; omega
 have h := this (ss.map fun s => B3 d s.body + B3 d s.els) k
 rw [← List.map_take] at h
 omega
theorem aX8 {ss : List b8} {k B : Nat} (h : x9 ss ≤ B) (hk : k < ss.length) : x9 (ss.getD k bF3).body ≤ B ∧ x9 (ss.getD k bF3).els ≤ B := by
 rw [n6 hk]
 have h1 := O8 (bG3 hk)
 have h2 := av8 ss[k]
 omega
theorem a05 (ss : List b8) (n : Int) (hn : n = 1) (hb : x9 ss ≤ 1048576) : i6.ok Try.prog (J3 100 [.ref 0, iA n] [.dat (.stmts ss)] (iA (B3 0 ss : Nat))) := by
 have h100 : decide (n > 1) = false := by simp; omega
 refine E2 39 Try.func100 [dT ss] [(0, .ref 0), (1, iA n)] fun G => ?_; refine wp_seq (l5 G f7 [(4, iA 0)] fun G => b6 (wp_seq (l5 G f7 [(5, iA (ss.length : Int))] fun G => b6 (wp_seq (wp_seq (J1 G f7 [(0, .ref 0), (1, iA n), (4, iA 0), (5, iA (ss.length : Int)), (6, iA 0)] fun G => b6 (wp_block ?_))))))); refine A4 (κ := Nat) (fun k => k = 0) (fun k => 0) (fun k => [dT ss]) (fun k => [(0, .ref 0), (1, iA n), (4, iA 0), (5, iA (ss.length : Nat)), (6, iA k)]) 0 (by kernel_rfl) (t7.at G _ _) ?_; clear G; intro k ρ a w hp G; replace G := t7.at G [dT ss] [(0, .ref 0), (1, iA n), (4, iA 0), (5, iA (ss.length : Int)), (6, iA k)]; refine wp_seq (wp_seq ?_); cases h0 : (decide ((k : Int) < ss.length))
 ·have q0 := Y1 h0; refine l5 G (H2 (fc h0 fz) [(5, 0), (6, 0), (1007, 0)]) [(16, bA false)] fun G => b6 (rF G false (by kernel_rfl) (wp_exit (A2 (A2 (A1 (b6 (wp_seq (l5 G f7 [(4, iA (ss.length : Int))] fun G => b6 (wp_ret ?_))))))))); exact I7 G [0]
 ·have q0 := Y0 h0; refine l5 G (H2 (fc h0 fz) [(5, 0), (6, 0), (1007, 0)]) [(16, bA (decide (n > 1)))] fun G => b6 (rF G (decide (n > 1)) (by assumption) (wp_exit (A2 (A2 (A1 (b6 (wp_seq (l5 G f7 [(4, iA (ss.length : Int))] fun G => b6 (wp_ret ?_))))))))); exact I7 G [0]
theorem a03 (d : Nat) (hd : d ≤ 5) (ih : ∀ (ss : List b8) (n : Int), n = (d + 1 : Nat) → x9 ss ≤ 1048576 → i6.ok Try.prog (J3 100 [.ref 0, iA n] [.dat (.stmts ss)] (iA (B3 d ss : Nat))))
  (ss : List b8) (n : Int) (hn : n = (d + 2 : Nat)) (hb : x9 ss ≤ 1048576) : i6.ok Try.prog (J3 100 [.ref 0, iA n] [.dat (.stmts ss)] (iA (B3 (d + 1) ss : Nat))) := by
 have h100 : decide (n > 1) = true := by simp; omega
 refine E2 39 Try.func100 [dT ss] [(0, .ref 0), (1, iA n)] fun G => ?_; refine wp_seq (l5 G f7 [(4, iA 0)] fun G => b6 (wp_seq (l5 G f7 [(5, iA (ss.length : Int))] fun G => b6 (wp_seq (wp_seq (J1 G f7 [(0, .ref 0), (1, iA n), (4, iA 0), (5, iA (ss.length : Int)), (6, iA 0)] fun G => b6 (wp_block ?_))))))); refine A4 (κ := Nat) (fun k => k ≤ ss.length) (fun k => ss.length - k) (fun k => [dT ss]) (fun k => [(0, .ref 0), (1, iA n), (4, iA 0), (5, iA (szP d ss k : Nat)), (6, iA k)]) 0 (by omega) (t7.at G _ _) ?_; clear G; intro k ρ a w hp G; replace G := t7.at G [dT ss] [(0, .ref 0), (1, iA n), (4, iA 0), (5, iA (↑(szP d ss k) : Int)), (6, iA k)]; have hlen := ae2 ss; refine wp_seq (wp_seq ?_); cases h0 : (decide ((k : Int) < ss.length))
 ·have q0 := Y1 h0; refine l5 G (H2 (fc h0 fz) [(5, 0), (6, 0), (1007, 0)]) [(16, bA false)] fun G => b6 (rF G false (by kernel_rfl) (wp_exit (A2 (A2 (A1 (b6 (wp_seq (l5 G f7 [(4, iA (↑(szP d ss k) : Int))] fun G => b6 (wp_ret ?_))))))))); exact Y9 ((↑(szP d ss k) : Int)) G [0] (by have h1 := bf1 d ss (k := k) (by omega); omega)
 ·have q0 := Y0 h0; refine l5 G (H2 (fc h0 fz) [(5, 0), (6, 0), (1007, 0)]) [(16, bA (decide (n > 1)))] fun G => b6 (rT G (decide (n > 1)) (by assumption) (wp_skip (b6 (wp_seq (wp_block (aO2 G (y9 (m9 8 [41] (ih ((ss.getD k bF3).body) (n - 1) (by omega) ((aX8 hb (by omega)).1)) (m9 17 [113] (ih ((ss.getD k bF3).els) (n - 1) (by omega) ((aX8 hb (by omega)).2)) y8)) fz []) [0, 0, 0, 6, 14, 30, 0, 64, 254, 511, 0, 0, 3072, 7168, 15360, 0, 32768, 130558, 262143, 524287] [(5, iA ((↑(szP d ss k) : Int) + (↑(B3 d (ss.getD k bF3).body) : Int) + (↑(B3 d (ss.getD k bF3).els) : Int)))] (iX k k ss.length ((wO (n - 1)) :: ((wO ((↑(szP d ss k) : Int) + (↑(B3 d (ss.getD k bF3).body) : Int))) :: (iX k k ss.length ((wO (n - 1)) :: ((wO ((↑(szP d ss k) : Int) + (↑(B3 d (ss.getD k bF3).body) : Int) + (↑(B3 d (ss.getD k bF3).els) : Int))) :: [])))))) (iK (by omega) ⟨oW (by omega), ⟨(by have h1 := ap0 (d := d) (ss := ss) (k := k) (by omega); have h2 := aM4 (d := d) (ss := ss) (k := k + 1); exact w64 (by omega) (by omega)), (iK (by omega) ⟨oW (by omega), ⟨(by have h1 := ap0 (d := d) (ss := ss) (k := k) (by omega); have h2 := aM4 (d := d) (ss := ss) (k := k + 1); exact w64 (by omega) (by omega)), bF1⟩⟩)⟩⟩) fun G => v7 (b6 (K5 G f7 [(6, iA ((k : Int) + 1))] [wO ((k : Int) + 1)] (o1 (by omega)) fun G => b6 ?_)))))))); exact rxn G (k + 1) (by omega) (by omega) [0] (ht := by have e1 : ((↑(szP d ss (k + 1)) : Int) : Int) = ((↑(szP d ss k) : Int) + (↑(B3 d (ss.getD k bF3).body) : Int) + (↑(B3 d (ss.getD k bF3).els) : Int)) := (by have h1 := ap0 (d := d) (ss := ss) (k := k) (by omega); have h2 := aM4 (d := d) (ss := ss) (k := k + 1); omega); (first | rw [e1] | simp only [e1]) <;> rfl)
theorem a04 : ∀ d, d ≤ 5 → ∀ (ss : List b8) (n : Int), n = (d + 1 : Nat) → x9 ss ≤ 1048576 → i6.ok Try.prog (J3 100 [.ref 0, iA n] [.dat (.stmts ss)] (iA (B3 d ss : Nat))) := by
 intro d
 induction d with
 | zero => intro _ ss n hn hb; exact a05 ss n (by omega) hb
 | succ d ih => intro hd ss n hn hb; exact a03 d (by omega) (fun ss n hn hb => ih (by omega) ss n hn hb) ss n (by omega) hb
theorem bc6 (ss : List b8) (n : Int) (hn : n = 5) (hb : x9 ss ≤ 1048576) : i6.ok Try.prog (J3 100 [.ref 0, iA n] [.dat (.stmts ss)] (iA (B3 4 ss : Nat))) :=
 a04 4 (by omega) ss n (by omega) hb
theorem a50 {nv na : Nat} : ∀ (d : Nat) (ss : List b8), (∀ s ∈ ss, m5 nv na (d + 1) s = true) → B3 d ss = nSs ss := by
 intro d
 induction d with
 | zero => intro ss h; rw [aI6 h]; rfl
 | succ d ih =>
  intro ss
  induction ss with
  | nil => intro _; rfl
  | cons s r ihr =>
   intro h
   have h1 := T4 (h s bF7)
   have h2 := ih s.body fun x hx => bF5.1 h1.1 x hx
   have h3 := ih s.els fun x hx => bF5.1 h1.2 x hx
   have h4 := ihr fun x hx => h x (bG0 _ hx)
   rw [nSs, aP5, ← h2, ← h3, ← h4]
   simp [B3]; omega
theorem al5 {p : f5} (h : A5 p.vars p.arrays = false) : F2 p = false := by simp [F2, h]
theorem aH0 {p : f5} (h : ad3 p.vars.length p.arrays.length 5 p.body = false) : F2 p = false := by simp [F2, h]
theorem aO7 {p : f5} (h1 : A5 p.vars p.arrays = true) (h2 : ad3 p.vars.length p.arrays.length 5 p.body = true) : F2 p = decide ((B3 4 p.body : Int) ≤ 60) := by
 have h3 := a50 (nv := p.vars.length) (na := p.arrays.length) 4 p.body (fun x hx => bF5.1 h2 x hx)
 rw [F2, h1, h2, h3]
 simp
 exact ⟨fun h => by omega, fun h => by omega⟩
theorem aJ9 (p : f5) (n : Int) (hn : n = 5) : i6.ok Try.prog (J3 99 [pA 0, .ref 2, iA n] (pS p) (bA (ad3 p.vars.length p.arrays.length 5 p.body))) :=
 i6.dup (S := pS p) (S' := pS p) (d := .stmts p.body) (i := 2) (a08 p p.body n hn) rfl rfl rfl (fun ρ h => by simp only [AV.vals, AV.val]; rw [show ρ 3 = ρ 2 from h]) rfl
theorem at8 (p : f5) (hb : x9 p.body ≤ 1048576) : i6.ok Try.prog (J3 61 [pA 0] (pS p) (bA (F2 p))) := by
  refine E2 17 Try.func61 [dI p.vars, dI p.arrays, dT p.body] [(0, pA 0)] fun G => ?_; refine wp_seq (j7 G f7 (rg 4) [dI p.vars, dI p.arrays, dT p.body, .box (pL 0)] [(1, .ptr 3 0), (2, bA false)] fun G => b6 (wp_seq ?_)); cases h0 : (A5 p.vars p.arrays)
  · refine j7 G (y9 (m9 1 [0, 1, 2] (ai9 p) y8) (fc h0 (fc (b := false) rfl fz)) (us [(3, 6, 0), (1007, 1007, 0), (9, 12, 1), (1013, 1013, 1)])) [0, 1, 2] [dI p.vars, dI p.arrays, dT p.body] [(2, bA false)] fun G => b6 (wp_ret ?_); exact w8 false G [0, 1, 2] (al5 (by assumption))
  ·
   cases h1 : (ad3 p.vars.length p.arrays.length (5 : Nat) p.body)
   · refine j7 G (y9 (m9 1 [0, 1, 2] (ai9 p) (m9 6 [0, 1, 2] (aJ9 p 5 (by kernel_rfl)) y8)) (fc h0 (fc h1 fz)) (us [(3, 6, 0), (1007, 1007, 0), (9, 12, 1), (1013, 1013, 1)])) [0, 1, 2] [dI p.vars, dI p.arrays, dT p.body] [(2, bA false)] fun G => b6 (wp_ret ?_); exact w8 false G [0, 1, 2] (aH0 (by assumption))
   · refine j7 G (y9 (m9 1 [0, 1, 2] (ai9 p) (m9 6 [0, 1, 2] (aJ9 p 5 (by kernel_rfl)) (m9 11 [2] (bc6 p.body 5 (by kernel_rfl) (by assumption)) y8))) (fc h0 (fc h1 fz)) (us [(3, 6, 0), (1007, 1007, 0), (9, 12, 1), (1013, 1013, 1)])) [0, 1, 2] [dI p.vars, dI p.arrays, dT p.body] [(2, bA (decide ((↑(B3 4 p.body) : Int) ≤ 60)))] fun G => b6 (wp_ret ?_); exact w8 (decide ((↑(B3 4 p.body) : Int) ≤ 60)) G [0, 1, 2] (aO7 (by assumption) (by assumption))
def H0 (nv na : Nat) (s : b8) : Bool := m7 s &&
    (if s.kind = 1 ∨ s.kind = 5 then decide (0 ≤ s.target) && decide (s.target < nv) && d8 nv na s.value
     else if s.kind = 2 then decide (0 ≤ s.target) && decide (s.target < na) && d8 nv na s.index && D6 s.index && d8 nv na s.value
     else if s.kind = 3 then d8 nv na s.value
     else decide (s.kind = 4))
theorem ap3 {nv na d : Nat} {s : b8} : m5 nv na (d + 1) s = (H0 nv na s && (s.body.all (m5 nv na d) && s.els.all (m5 nv na d))) := by
 rw [bH9]
 constructor
 ·intro h
  have h1 := T4 h
  rw [h1.1, h1.2, Bool.and_true, Bool.and_true]
  rw [m5, bE8] at h
  rw [H0, h.1, Bool.true_and]
  obtain ⟨-, h⟩ := h
  split at h
  ·rw [if_pos (by assumption)]; exact h
  split at h
  ·rw [if_neg (by assumption), if_pos (by assumption)]; exact h
  split at h
  ·rw [if_neg (by assumption), if_neg (by assumption), if_pos (by assumption)]
   simp only [bE8] at h; exact h.1.1
  split at h
  ·rw [if_neg (by assumption), if_neg (by assumption), if_neg (by assumption)]; simp [*]
  ·simp at h
 ·intro h
  simp only [bE8] at h
  obtain ⟨h, hb, he⟩ := h
  rw [H0, bE8] at h
  obtain ⟨h0, h⟩ := h
  rw [m5, h0, Bool.true_and]
  split at h
  ·rw [if_pos (by assumption)]; exact h
  split at h
  ·rw [if_neg (by assumption), if_pos (by assumption)]; exact h
  split at h
  ·rw [if_neg (by assumption), if_neg (by assumption), if_pos (by assumption), h, hb, he]; rfl
  ·rw [if_neg (by assumption), if_neg (by assumption), if_neg (by assumption), if_pos (by simpa using h), hb]
def y5 (F : Nat → b8 → Bool × Nat) : Nat → List b8 → Bool × Nat
 | c, [] => (true, c)
 | c, s :: r => if (F c s).1 then y5 F (F c s).2 r else F c s
def s6 (nv na : Nat) : Nat → Nat → b8 → Bool × Nat
 | 0, c, _ => (false, c + 1)
 | d + 1, c, s => if 60 < c + 1 then (false, c + 1) else if H0 nv na s then
   (if (y5 (s6 nv na d) (c + 1) s.body).1 then y5 (s6 nv na d) (y5 (s6 nv na d) (c + 1) s.body).2 s.els else y5 (s6 nv na d) (c + 1) s.body)
   else (false, c + 1)
abbrev j3 (nv na d c : Nat) (ss : List b8) : Bool × Nat := y5 (s6 nv na d) c ss
theorem T9 (F : Nat → b8 → Bool × Nat) : ∀ (a b : List b8) (c : Nat), y5 F c (a ++ b) = if (y5 F c a).1 then y5 F (y5 F c a).2 b else y5 F c a
 | [], b, c => by simp [y5]
 | x :: r, b, c => by
  simp only [List.cons_append, y5]
  by_cases h : (F c x).1 = true
  ·simp only [h, if_true]; exact T9 F r b _
  ·simp [h]
theorem ac4 {F : Nat → b8 → Bool × Nat} {c k : Nat} {ss : List b8} (h : (y5 F c (ss.take k)).1 = true) (hk : k < ss.length) : y5 F c (ss.take (k + 1)) = F (y5 F c (ss.take k)).2 (ss.getD k bF3) := by
 rw [n8 _ _ hk, T9, if_pos h, n6 hk]
 simp only [y5]
 split
 ·rename_i h; exact Prod.ext h.symm rfl
 ·rfl
theorem as3 {F : Nat → b8 → Bool × Nat} {c k : Nat} {ss : List b8} (h : (y5 F c (ss.take k)).1 = true) (hk : k < ss.length) (hf : (F (y5 F c (ss.take k)).2 (ss.getD k bF3)).1 = false) : y5 F c ss = F (y5 F c (ss.take k)).2 (ss.getD k bF3) := by
 conv => lhs; rw [← List.take_append_drop (k + 1) ss]
 rw [T9, ac4 h hk, hf]
 rfl
theorem as4 {F : Nat → b8 → Bool × Nat} {c k : Nat} {ss : List b8} (hk : ss.length ≤ k) : y5 F c (ss.take k) = y5 F c ss := by rw [bF9 hk]
theorem af9 {F : Nat → b8 → Bool × Nat} (hF : ∀ c s, c ≤ 60 → (F c s).2 ≤ 61 ∧ ((F c s).1 = true → (F c s).2 ≤ 60)) : ∀ (ss : List b8) (c : Nat), c ≤ 60 → (y5 F c ss).2 ≤ 61 ∧ ((y5 F c ss).1 = true → (y5 F c ss).2 ≤ 60)
 | [], c, h => ⟨by simp only [y5]; omega, fun _ => by simp only [y5]; omega⟩
 | s :: r, c, h => by
  simp only [y5]
  by_cases h1 : (F c s).1 = true
  ·rw [if_pos h1]; exact af9 hF r _ ((hF c s h).2 h1)
  ·rw [if_neg h1]; exact hF c s h
theorem ae3 {nv na : Nat} : ∀ (d c : Nat) (s : b8), c ≤ 60 → (s6 nv na d c s).2 ≤ 61 ∧ ((s6 nv na d c s).1 = true → (s6 nv na d c s).2 ≤ 60)
 | 0, c, s, h => by simp [s6]; omega
 | d + 1, c, s, h => by
  rw [s6]
  by_cases h1 : 60 < c + 1
  ·rw [if_pos h1]; simp; omega
  rw [if_neg h1]
  by_cases h2 : H0 nv na s = true
  ·rw [if_pos h2]
   have h3 := af9 (ae3 (nv := nv) (na := na) d) s.body (c + 1) (by omega)
   by_cases h4 : (y5 (s6 nv na d) (c + 1) s.body).1 = true
   ·rw [if_pos h4]; exact af9 (ae3 d) s.els _ (h3.2 h4)
   ·rw [if_neg h4]; exact h3
  ·rw [if_neg h2]; simp; omega
theorem J9 {nv na d c : Nat} {ss : List b8} (h : c ≤ 60) (h1 : (j3 nv na d c ss).1 = true) : (j3 nv na d c ss).2 ≤ 60 := (af9 (ae3 d) ss c h).2 h1
section
variable {nv na d c : Nat} {s : b8}
theorem ab8 (h : 60 < c + 1) : s6 nv na d c s = (false, c + 1) := by cases d with
 | zero => rfl
 | succ d => rw [s6, if_pos h]
theorem d9 (h : H0 nv na s = false) : s6 nv na d c s = (false, c + 1) := by cases d with
 | zero => rfl
 | succ d => rw [s6, h]; simp
theorem B1 (h1 : c + 1 ≤ 60) (h : H0 nv na s = true) (h2 : (j3 nv na d (c + 1) s.body).1 = false) : s6 nv na (d + 1) c s = j3 nv na d (c + 1) s.body := by
 rw [s6, if_neg (by omega), if_pos h, if_neg (by simp [h2])]
theorem C5 (h1 : c + 1 ≤ 60) (h : H0 nv na s = true) (h2 : (j3 nv na d (c + 1) s.body).1 = true) : s6 nv na (d + 1) c s = j3 nv na d (j3 nv na d (c + 1) s.body).2 s.els := by
 rw [s6, if_neg (by omega), if_pos h, if_pos h2]
end
theorem ag0 {nv na d : Nat} (hF : ∀ c s, c ≤ 60 → ((s6 nv na d c s).1 = (m5 nv na d s && decide (c + nS s ≤ 60))) ∧ ((s6 nv na d c s).1 = true → (s6 nv na d c s).2 = c + nS s)) : ∀ (ss : List b8) (c : Nat), c ≤ 60 → ((j3 nv na d c ss).1 = (ss.all (m5 nv na d) && decide (c + nSs ss ≤ 60))) ∧ ((j3 nv na d c ss).1 = true → (j3 nv na d c ss).2 = c + nSs ss)
 | [], c, h => by simp [y5, nSs, h]
 | s :: r, c, h => by
  obtain ⟨h1, h2⟩ := hF c s h
  simp only [j3, y5]
  by_cases h3 : (s6 nv na d c s).1 = true
  ·rw [if_pos h3]
   have e := h2 h3
   have l := (ae3 d c s h).2 h3
   obtain ⟨h4, h5⟩ := ag0 hF r (s6 nv na d c s).2 l
   rw [h1, bE8] at h3
   constructor
   ·rw [show y5 (s6 nv na d) (s6 nv na d c s).2 r = j3 nv na d (s6 nv na d c s).2 r from rfl, h4, List.all_cons, h3.1, Bool.true_and, e, nSs, Nat.add_assoc]
   ·intro h6; rw [show y5 (s6 nv na d) (s6 nv na d c s).2 r = j3 nv na d (s6 nv na d c s).2 r from rfl, h5 h6, e, nSs]; omega
  ·rw [if_neg h3]
   refine ⟨?_, fun h => absurd h h3⟩
   have h4 := h3
   rw [h1] at h4
   rw [Bool.eq_false_iff.2 h3, List.all_cons, nSs]
   cases ha : m5 nv na d s
   ·simp
   ·rw [ha, Bool.true_and, decide_eq_true_eq] at h4
    rw [Bool.true_and, show decide (c + (nS s + nSs r) ≤ 60) = false from decide_eq_false (by omega), Bool.and_false]
theorem ap2 {nv na : Nat} : ∀ (d c : Nat) (s : b8), c ≤ 60 → ((s6 nv na d c s).1 = (m5 nv na d s && decide (c + nS s ≤ 60))) ∧ ((s6 nv na d c s).1 = true → (s6 nv na d c s).2 = c + nS s)
 | 0, c, s, h => by simp [s6, m5]
 | d + 1, c, s, h => by
  have hs := aP5 s
  by_cases h1 : 60 < c + 1
  ·rw [ab8 h1, show decide (c + nS s ≤ 60) = false from decide_eq_false (by omega), Bool.and_false]; simp
  cases h2 : H0 nv na s
  ·rw [d9 h2, ap3, h2]; simp
  obtain ⟨b1, b2⟩ := ag0 (ap2 (nv := nv) (na := na) d) s.body (c + 1) (by omega)
  rw [ap3, h2, Bool.true_and]
  cases h3 : (j3 nv na d (c + 1) s.body).1
  ·rw [B1 (by omega) h2 h3, h3]
   refine ⟨?_, fun h => by simp at h⟩
   rw [h3] at b1
   cases h4 : s.body.all (m5 nv na d)
   ·simp
   ·rw [h4, Bool.true_and] at b1
    have := of_decide_eq_false b1.symm
    rw [show decide (c + nS s ≤ 60) = false from decide_eq_false (by omega), Bool.and_false]
  ·rw [C5 (by omega) h2 h3]
   have e := b2 h3
   have l := J9 (nv := nv) (na := na) (d := d) (c := c + 1) (by omega) h3
   obtain ⟨e1, e2⟩ := ag0 (ap2 (nv := nv) (na := na) d) s.els _ l
   rw [h3] at b1
   have b3 := b1.symm
   rw [bE8] at b3
   rw [b3.1, Bool.true_and, e1, e]
   refine ⟨by rw [show c + 1 + nSs s.body + nSs s.els = c + nS s by omega], fun h => ?_⟩
   have h' : (j3 nv na d (j3 nv na d (c + 1) s.body).2 s.els).1 = true := by rw [e1, e]; exact h
   have := e2 h'
   rw [e] at this
   rw [this]; omega
theorem aF3 {p : f5} (h : A5 p.vars p.arrays = true) : (j3 p.vars.length p.arrays.length 5 0 p.body).1 = F2 p := by
 rw [(ag0 (ap2 5) p.body 0 (by omega)).1, F2, h, Bool.true_and, ad3]; simp
theorem bj7 (p : f5) (s : b8) (c : Nat) (hc : c ≤ 60) (n : Int) (hn : n = 6) : i6.ok Try.prog ⟨135, [pA 0, sA s 4, iA n, .ptr 3 0], pS p ++ [.box [iA c]] ++ sS s, pS p ++ [.box [iA (s6 p.vars.length p.arrays.length 0 c s).2]] ++ sS s, bA false⟩ := by
 have h100 : decide (n > 5) = true := by simp; omega
 refine E2 149 Try.func135 [dI p.vars, dI p.arrays, dT p.body, .box [iA c], dE s.index.kids, dE s.value.kids, dT s.body, dT s.els] [(0, pA 0), (1, sA s 4), (2, iA n), (3, .ptr 3 0)] fun G => ?_; refine wp_seq (j7 G f7 [0, 1, 2, 3, 4, 5, 6, 7, 8, 16] [dI p.vars, dI p.arrays, dT p.body, .box [iA c], dE s.index.kids, dE s.value.kids, dT s.body, dT s.els, .box (pL 0), .box (sL s 4)] [(2, iA n), (3, .ptr 3 0), (4, .ptr 8 0), (5, .ptr 9 0), (8, bA false)] fun G => b6 (wp_seq (W0 G f7 (rg 10) [dI p.vars, dI p.arrays, dT p.body, .box [iA ((c : Int) + 1)], dE s.index.kids, dE s.value.kids, dT s.body, dT s.els, .box (pL 0), .box (sL s 4)] [(2, iA n), (3, .ptr 3 0), (4, .ptr 8 0), (5, .ptr 9 0), (8, bA false)] [wO ((c : Int) + 1)] (o1 (by omega)) fun G => b6 (wp_seq (wp_seq ?_))))); cases h0 : (decide ((c : Int) + 1 > 60))
 ·have q0 := Y1 h0; refine l5 G (H2 (fc h0 fz) [(5, 0), (6, 0), (1007, 0)]) [(27, bA (decide (n > 5)))] fun G => b6 (rT G (decide (n > 5)) (by assumption) (wp_seq (l5 G f7 [] fun G => b6 (wp_ret (j8 ?_))))); exact I7 G (rg 8)
 ·have q0 := Y0 h0; refine l5 G (H2 (fc h0 fz) [(5, 0), (6, 0), (1007, 0)]) [(27, bA true)] fun G => b6 (rT G true (by kernel_rfl) (wp_seq (l5 G f7 [] fun G => b6 (wp_ret (j8 ?_))))); exact I7 G (rg 8)
abbrev bl7 (p : f5) (d c : Nat) (s : b8) (n : Int) : i6 := ⟨135, [pA 0, sA s 4, iA n, .ptr 3 0], pS p ++ [.box [iA c]] ++ sS s, pS p ++ [.box [iA (s6 p.vars.length p.arrays.length d c s).2]] ++ sS s, bA (s6 p.vars.length p.arrays.length d c s).1⟩
abbrev aM6 (p : f5) (d c : Nat) (ss : List b8) (n : Int) : i6 := ⟨111, [pA 0, .ref 4, iA n, .ptr 3 0], pS p ++ [.box [iA c]] ++ [.dat (.stmts ss)], pS p ++ [.box [iA (j3 p.vars.length p.arrays.length d c ss).2]] ++ [.dat (.stmts ss)], bA (j3 p.vars.length p.arrays.length d c ss).1⟩
theorem aJ7 (p : f5) (d : Nat) (hd : d ≤ 5) (ih : ∀ (s : b8) (c : Nat) (n : Int), c ≤ 60 → n = 6 - (d : Int) → i6.ok Try.prog (bl7 p d c s n))
    (ss : List b8) (c : Nat) (n : Int) (hc : c ≤ 60) (hn : n = 6 - (d : Int)) : i6.ok Try.prog (aM6 p d c ss n) := by
  refine E2 24 Try.func111 [dI p.vars, dI p.arrays, dT p.body, .box [iA c], dT ss] [(0, pA 0), (1, .ref 4), (2, iA n), (3, .ptr 3 0)] fun G => ?_; refine wp_seq (j7 G f7 (rg 6) [dI p.vars, dI p.arrays, dT p.body, .box [iA c], dT ss, .box (pL 0)] [(1, .ref 4), (2, iA n), (3, .ptr 3 0), (4, .ptr 5 0), (8, bA false)] fun G => b6 (wp_seq (wp_seq (J1 G f7 [(2, iA n), (3, .ptr 3 0), (4, .ptr 5 0), (8, bA false), (11, .ref 4), (12, iA (ss.length : Int)), (13, iA 0)] fun G => b6 (wp_block ?_))))); have hlen : ss.length ≤ 9223372036854775807 := G.len 4 (d := .stmts ss) (by kernel_rfl); refine A4 (κ := Nat) (fun k => k ≤ ss.length ∧ (j3 p.vars.length p.arrays.length d c (ss.take k)).1 = true) (fun k => ss.length - k) (fun k => [dI p.vars, dI p.arrays, dT p.body, .box [iA (j3 p.vars.length p.arrays.length d c (ss.take k)).2], dT ss, .box (pL 0)]) (fun k => [(2, iA n), (3, .ptr 3 0), (4, .ptr 5 0), (8, bA false), (11, .ref 4), (12, iA (ss.length : Int)), (13, iA k)]) 0 (by simp [j3, y5]; done) (t7.at G _ _) ?_; clear G; intro k ρ a w hp G; replace G := t7.at G [dI p.vars, dI p.arrays, dT p.body, .box [iA ((j3 p.vars.length p.arrays.length d c (bG7 k ss)).snd : Int)], dT ss, .box (pL 0)] [(2, iA n), (3, .ptr 3 0), (4, .ptr 5 0), (8, bA false), (11, .ref 4), (12, iA (ss.length : Int)), (13, iA k)]; refine wp_seq (l5 G f7 [(14, bA (decide ((k : Int) < ss.length)))] fun G => b6 (wp_seq (rcD G (fun h0 q0 => ?_) fun h0 q0 => ?_)))
  · refine wp_exit (A2 (A2 (A1 (b6 (wp_seq (j7 G f7 (rg 5) [dI p.vars, dI p.arrays, dT p.body, .box [iA ((j3 p.vars.length p.arrays.length d c (bG7 k ss)).snd : Int)], dT ss] [(8, bA true)] fun G => b6 (wp_ret ?_))))))); exact w8 true G (rg 5) (by rw [j3, ← as4 (k := k) (by omega)]; exact hp.2) (by show _ = mR (rg 5) [dI p.vars, dI p.arrays, dT p.body, .box [iA ((j3 p.vars.length p.arrays.length d c ss).snd : Int)], dT ss]; have e1 : (((j3 p.vars.length p.arrays.length d c ss).snd : Int) : Int) = (((j3 p.vars.length p.arrays.length d c (bG7 k ss)).snd : Int)) := (by rw [j3, ← as4 (k := k) (by omega)]); (first | rw [e1] | simp only [e1]) <;> rfl)
  ·
   refine wp_skip (b6 (wp_seq (wp_block (wp_seq (W0 G f7 [0, 1, 2, 3, 4, 5, 14, 15, 16, 17, 22] [dI p.vars, dI p.arrays, dT p.body, .box [iA ((j3 p.vars.length p.arrays.length d c (bG7 k ss)).snd : Int)], dT ss, .box (pL 0), dE (ss.getD k bF3).index.kids, dE (ss.getD k bF3).value.kids, dT (ss.getD k bF3).body, dT (ss.getD k bF3).els, .box (sL (ss.getD k bF3) 6)] [(2, iA n), (3, .ptr 3 0), (4, .ptr 5 0), (8, bA false), (10, .ptr 10 0), (11, .ref 4), (12, iA (ss.length : Int)), (13, iA k)] (iX k k ss.length []) (iK (by omega) bF1) fun G => b6 (wp_seq (j7 G (t8 4 [0, 1, 2, 3, 6, 7, 8, 9] (ih (ss.getD k bF3) ((j3 p.vars.length p.arrays.length d c (bG7 k ss)).snd) n (J9 (by omega) hp.2) (by assumption))) (rg 6) [dI p.vars, dI p.arrays, dT p.body, .box [iA ((s6 p.vars.length p.arrays.length d (j3 p.vars.length p.arrays.length d c (bG7 k ss)).snd (ss.getD k bF3)).snd : Int)], dT ss, .box (pL 0)] [(2, iA n), (3, .ptr 3 0), (4, .ptr 5 0), (8, bA false), (11, .ref 4), (12, iA (ss.length : Int)), (13, iA k), (22, .v (.bool !(s6 p.vars.length p.arrays.length d (j3 p.vars.length p.arrays.length d c (bG7 k ss)).snd (ss.getD k bF3)).fst))] fun G => b6 ?_))))))); cases h1 : (!(s6 p.vars.length p.arrays.length d (j3 p.vars.length p.arrays.length d c (bG7 k ss)).snd (ss.getD k bF3)).fst)
   · have q1 : ((s6 p.vars.length p.arrays.length d (j3 p.vars.length p.arrays.length d c (bG7 k ss)).snd (ss.getD k bF3)).fst) = true := (Eq.mp (bG2 _) h1); refine rF G _ h1 (wp_skip (v7 (b6 (K5 G f7 [(13, iA ((k : Int) + 1))] [wO ((k : Int) + 1)] (o1 (by omega)) fun G => b6 ?_)))); exact rxn G (k + 1) (⟨by omega, by rw [j3, ac4 hp.2 (by omega)]; assumption⟩) (by omega) (rg 6) (by have e1 : (((j3 p.vars.length p.arrays.length d c (bG7 (k + 1) ss)).snd : Int) : Int) = (((s6 p.vars.length p.arrays.length d (j3 p.vars.length p.arrays.length d c (bG7 k ss)).snd (ss.getD k bF3)).snd : Int)) := (by rw [j3, ac4 hp.2 (by omega)]); (first | rw [e1] | simp only [e1]) <;> rfl)
   · have q1 : ((s6 p.vars.length p.arrays.length d (j3 p.vars.length p.arrays.length d c (bG7 k ss)).snd (ss.getD k bF3)).fst) = false := (Eq.mp (bF8 _) h1); refine rT G _ h1 (wp_seq (l5 G f7 [] fun G => b6 (wp_ret (C1 (j8 (j8 (C1 (j8 ?_)))))))); exact w8 false G (rg 5) (by rw [j3, as3 hp.2 (by omega) (by assumption)]; assumption) (by show _ = mR (rg 5) [dI p.vars, dI p.arrays, dT p.body, .box [iA ((j3 p.vars.length p.arrays.length d c ss).snd : Int)], dT ss]; have e1 : (((j3 p.vars.length p.arrays.length d c ss).snd : Int) : Int) = (((s6 p.vars.length p.arrays.length d (j3 p.vars.length p.arrays.length d c (bG7 k ss)).snd (ss.getD k bF3)).snd : Int)) := (by rw [j3, as3 hp.2 (by omega) (by assumption)]); (first | rw [e1] | simp only [e1]) <;> rfl)
section
variable {nv na : Nat} {s : b8}
theorem A7 (k : s.kind = 1 ∨ s.kind = 5) : H0 nv na s = (decide (0 ≤ s.target ∧ s.target < nv ∧ s.body.length = 0 ∧ s.els.length = 0 ∧ s.count = 0) && (noneB s.index && d8 nv na s.value)) := by
 rw [H0, m7, if_pos k, if_neg (by omega), show decide (s.kind = 2) = false from decide_eq_false (by omega), bH9]
 simp only [bE8, decide_eq_true_eq, Bool.false_or]
 constructor
 ·rintro ⟨⟨⟨⟨a, b⟩, c⟩, d⟩, ⟨e, f⟩, g⟩; exact ⟨⟨e, f, a, b, c⟩, d, g⟩
 ·rintro ⟨⟨e, f, a, b, c⟩, d, g⟩; exact ⟨⟨⟨⟨a, b⟩, c⟩, d⟩, ⟨e, f⟩, g⟩
theorem J2 (k : s.kind = 2) : H0 nv na s = (decide (0 ≤ s.target ∧ s.target < na ∧ s.body.length = 0 ∧ s.els.length = 0 ∧ s.count = 0) && (d8 nv na s.index && (D6 s.index && d8 nv na s.value))) := by
 rw [H0, m7, if_neg (by omega), if_pos k, if_neg (by omega), show decide (s.kind = 2) = true from decide_eq_true k, bH9]
 simp only [bE8, decide_eq_true_eq, Bool.true_or]
 constructor
 ·rintro ⟨⟨⟨⟨a, b⟩, c⟩, -⟩, ⟨⟨⟨e, f⟩, i⟩, j⟩, g⟩; exact ⟨⟨e, f, a, b, c⟩, i, j, g⟩
 ·rintro ⟨⟨e, f, a, b, c⟩, i, j, g⟩; exact ⟨⟨⟨⟨a, b⟩, c⟩, bF1⟩, ⟨⟨⟨e, f⟩, i⟩, j⟩, g⟩
theorem V5 (k : s.kind = 3) : H0 nv na s = (decide (s.target = 0 ∧ s.count = 0) && (noneB s.index && d8 nv na s.value)) := by
 rw [H0, m7, if_pos (show s.kind = 3 ∨ s.kind = 4 from .inl k), if_neg (show ¬ s.kind = 4 by omega), if_neg (by omega), if_neg (by omega), if_pos k, bH9]
 simp only [bE8, decide_eq_true_eq]
 constructor
 ·rintro ⟨⟨a, b, c⟩, d⟩; exact ⟨⟨a, b⟩, c, d⟩
 ·rintro ⟨⟨a, b⟩, c, d⟩; exact ⟨⟨a, b, c⟩, d⟩
theorem P6 (k : s.kind = 4) : H0 nv na s = (decide (s.target = 0 ∧ s.els.length = 0 ∧ 1 ≤ s.count ∧ s.count ≤ 3) && (noneB s.index && noneB s.value)) := by
 rw [H0, m7, if_pos (show s.kind = 3 ∨ s.kind = 4 from .inr k), if_pos k, if_neg (by omega), if_neg (by omega), if_neg (by omega), show decide (s.kind = 4) = true from decide_eq_true k, bH9]
 simp only [bE8, decide_eq_true_eq]
 constructor
 ·rintro ⟨⟨a, ⟨⟨⟨b, c⟩, d⟩, e⟩, f⟩, -⟩; exact ⟨⟨a, b, c, d⟩, e, f⟩
 ·rintro ⟨⟨a, b, c, d⟩, e, f⟩; exact ⟨⟨a, ⟨⟨⟨b, c⟩, d⟩, e⟩, f⟩, bF1⟩
theorem bm8 (k : ¬ s.kind = 1 ∧ ¬ s.kind = 2 ∧ ¬ s.kind = 3 ∧ ¬ s.kind = 4 ∧ ¬ s.kind = 5) : H0 nv na s = false := by
 rw [H0, if_neg (by omega), if_neg (by omega), if_neg (by omega), show decide (s.kind = 4) = false from decide_eq_false (by omega), Bool.and_false]
theorem M8 {p : Prop} [Decidable p] {a b : Bool} (hp : p) (ha : a = true) (hb : b = true) : (decide p && (a && b)) = true := by rw [ha, hb, decide_eq_true hp]; rfl
theorem aD2 {p : Prop} [Decidable p] {a b c : Bool} (hp : p) (ha : a = true) (hb : b = true) (hc : c = true) : (decide p && (a && (b && c))) = true := by rw [ha, hb, hc, decide_eq_true hp]; rfl
end
abbrev aa7 (p : f5) (d : Nat) (s : b8) (c : Nat) := j3 p.vars.length p.arrays.length d (j3 p.vars.length p.arrays.length d (c + 1) s.body).snd s.els
abbrev aa6 (p : f5) (d : Nat) (s : b8) (c : Nat) := j3 p.vars.length p.arrays.length d (c + 1) s.body
abbrev j9 (p : f5) (d : Nat) (s : b8) (c : Nat) : List It := [dI p.vars, dI p.arrays, dT p.body, .box [iA ((s6 p.vars.length p.arrays.length (d + 1) c s).snd : Int)], dE s.index.kids, dE s.value.kids, dT s.body, dT s.els]
abbrev R3 (s : b8) (r0 : List It) : List It := dE s.index.kids :: dE s.value.kids :: dT s.body :: dT s.els :: r0
abbrev R2 (p : f5) (r0 : List It) : List It := dI p.vars :: dI p.arrays :: dT p.body :: r0
theorem bj6 (p : f5) (d : Nat) (hd : d ≤ 4) (ih : ∀ (ss : List b8) (c : Nat) (n : Int), c ≤ 60 → n = 6 - (d : Int) → i6.ok Try.prog (aM6 p d c ss n))
    (s : b8) (c : Nat) (n : Int) (hc : c ≤ 60) (hn : n = 5 - (d : Int)) : i6.ok Try.prog (bl7 p (d + 1) c s n) := by
  have h100 : decide (n > 5) = false := by simp; omega
  refine E2 149 Try.func135 (R2 p (.box [iA c] :: (R3 s []))) [(0, pA 0), (1, sA s 4), (2, iA n), (3, .ptr 3 0)] fun G => ?_; have hl0 : p.vars.length ≤ 9223372036854775807 := G.len 0 (d := .ints p.vars) (by kernel_rfl); have hl1 : p.arrays.length ≤ 9223372036854775807 := G.len 1 (d := .ints p.arrays) (by kernel_rfl); refine wp_seq (j7 G f7 [0, 1, 2, 3, 4, 5, 6, 7, 8, 16] (R2 p (.box [iA c] :: (R3 s [.box (pL 0), .box (sL s 4)]))) [(2, iA n), (3, .ptr 3 0), (4, .ptr 8 0), (5, .ptr 9 0), (8, bA false)] fun G => b6 (wp_seq (W0 G f7 (rg 10) (R2 p (.box [iA ((c : Int) + 1)] :: (R3 s [.box (pL 0), .box (sL s 4)]))) [(2, iA n), (3, .ptr 3 0), (4, .ptr 8 0), (5, .ptr 9 0), (8, bA false)] [wO ((c : Int) + 1)] (o1 (by omega)) fun G => b6 (wp_seq (wp_seq ?_))))); cases h0 : (decide ((c : Int) + 1 > 60))
  ·
   have q0 := Y1 h0; refine l5 G (H2 (fc h0 fz) [(5, 0), (6, 0), (1007, 0)]) [(27, bA (decide (n > 5)))] fun G => b6 (rF G (decide (n > 5)) (by assumption) (wp_skip (b6 (wp_seq (l5 G f7 [(9, iA 1), (10, bA false), (11, bA true), (12, bA false), (13, bA false), (14, bA false)] fun G => b6 (wp_seq (wp_seq (l5 G f7 [(29, iA s.kind)] fun G => b6 (wp_block (wp_seq (wp_seq (l5 G f7 [(30, bA (s.kind == 1))] fun G => b6 (W5 G (fun h1 q1 => ?_) fun h1 q1 => ?_)))))))))))))
   ·
    refine l5 G f7 [(30, bA (s.kind == 5))] fun G => b6 (W5 G (fun h2 q2 => ?_) fun h2 q2 => ?_)
    ·
     refine wp_seq (l5 G f7 [(36, bA (s.kind == 2))] fun G => b6 (W5 G (fun h3 q3 => ?_) fun h3 q3 => ?_))
     ·
      refine wp_seq (l5 G f7 [(41, bA (s.kind == 3))] fun G => b6 (W5 G (fun h4 q4 => ?_) fun h4 q4 => ?_))
      ·
       refine wp_seq (l5 G f7 [(43, bA (s.kind == 4))] fun G => b6 (W5 G (fun h5 q5 => ?_) fun h5 q5 => ?_))
       · refine wp_seq (l5 G f7 [] fun G => b6 (wp_ret (C1 (j8 ?_)))); exact w8 false G (rg 8) (by rw [d9 (bm8 (by omega))]; done) (by show _ = mR (rg 8) (j9 p d s c); unfold j9; rw [d9 (bm8 (by omega))] <;> rfl)
       ·
        refine l5 G f7 [(11, bA false), (12, bA true), (13, bA true)] fun G => v7 (b6 (wp_seq (wp_seq ?_))); cases h6 : (!(decide ((0 : Int) ≤ s.target) && decide (s.target ≤ 0)))
        ·
         have q6 : (0 ≤ s.target) ∧ (s.target ≤ 0) := (fun hq => And.imp (fun hq => of_decide_eq_true hq) (fun hq => of_decide_eq_true hq) (Bool.and_eq_true_iff.1 hq)) (Eq.mp (bG2 _) h6); cases h7 : (!(decide ((1 : Int) ≤ s.count) && decide (s.count ≤ 3)))
         ·
          have q7 : (1 ≤ s.count) ∧ (s.count ≤ 3) := (fun hq => And.imp (fun hq => of_decide_eq_true hq) (fun hq => of_decide_eq_true hq) (Bool.and_eq_true_iff.1 hq)) (Eq.mp (bG2 _) h7); refine K5 G (y9 (m9 4 [] (t6 s.target 0 0) (m9 11 [] (t6 s.count 1 3) y8)) (fc h6 (fc (b := true) rfl (fc h7 (fc (b := false) rfl fz)))) (us [(7, 8, 0), (9, 12, 1), (13, 13, 0), (1013, 1013, 1), (1014, 1014, 0), (16, 18, 2), (19, 21, 3), (22, 22, 2), (1022, 1022, 3), (1023, 1023, 2), (25, 32, 3), (1032, 1033, 3), (35, 37, 3), (38, 41, 1), (42, 42, 3), (1042, 1042, 1), (1043, 1043, 3)])) [(88, bA (decide ((s.els.length : Int) > 0)))] [IntKind.i64.wrap ((1 : Int) - 1) = 1 - 1] ⟨(by kernel_rfl), bF1⟩ fun G => b6 (rcD G (fun h8 q8 => ?_) fun h8 q8 => ?_)
          ·
           refine wp_skip (b6 (wp_seq (wp_seq ?_))); cases h9 : (!noneB s.index)
           ·
            have q9 : (noneB s.index) = true := (Eq.mp (bG2 _) h9); refine l5 G (y9 (m9 20 [4] (D5 s.index) (m9 40 [5] (D5 s.value) y8)) (fc (b := false) rfl (fc (b := true) rfl (fc h9 fz))) (us [(2, 7, 0), (12, 12, 0), (1013, 1013, 0), (15, 17, 0), (18, 21, 1), (22, 22, 0), (1022, 1022, 1), (1023, 1023, 0), (25, 26, 2), (27, 31, 0), (32, 32, 2), (1032, 1032, 0), (1033, 1033, 2), (35, 37, 0), (38, 41, 1), (42, 42, 0), (1042, 1042, 1), (1043, 1043, 0)])) [(132, .v (.bool !noneB s.value))] fun G => b6 ?_; cases h10 : (!noneB s.value)
            ·
             have q10 : (noneB s.value) = true := (Eq.mp (bG2 _) h10); refine rF G _ h10 (wp_skip (b6 (wp_seq ?_))); cases h11 : ((j3 p.vars.length p.arrays.length d (c + (1 : Nat)) s.body).fst)
             · refine W0 G (y9 (m9 6 [0, 1, 2, 3, 6] (ih s.body (c + 1) (n + 1) (by simp; omega) (by omega)) y8) (fc h11 fz) (us [(8, 14, 0), (1015, 1015, 0)])) (rg 8) (R2 p (.box [iA ((aa6 p d s c).snd : Int)] :: (R3 s []))) [(8, bA false)] [wO (n + 1)] (o1 (by omega)) fun G => b6 (wp_ret ?_); exact w8 false G (rg 8) (by rw [B1 (by omega) (by (rw [P6 (by omega)]; exact M8 (by omega) (by assumption) (by assumption))) (by assumption)]; assumption) (by show _ = mR (rg 8) (j9 p d s c); unfold j9; rw [B1 (by omega) (by (rw [P6 (by omega)]; exact M8 (by omega) (by assumption) (by assumption))) (by assumption)] <;> rfl)
             · refine W0 G (y9 (m9 6 [0, 1, 2, 3, 6] (ih s.body (c + 1) (n + 1) (by simp; omega) (by omega)) (m9 14 [0, 1, 2, 3, 7] (ih s.els ((aa6 p d s c).snd) (n + 1) (J9 (by omega) (by assumption)) (by omega)) y8)) (fc h11 fz) (us [(8, 14, 0), (1015, 1015, 0)])) (rg 8) (R2 p (.box [iA ((aa7 p d s c).snd : Int)] :: (R3 s []))) [(8, bA (aa7 p d s c).fst)] [wO (n + 1), wO (n + 1)] (o2 (by omega)) fun G => b6 (wp_ret ?_); exact w8 ((j3 p.vars.length p.arrays.length d (j3 p.vars.length p.arrays.length d (c + 1) s.body).snd s.els).fst) G (rg 8) (by rw [C5 (by omega) (by (rw [P6 (by omega)]; exact M8 (by omega) (by assumption) (by assumption))) (by assumption)]; done) (by show _ = mR (rg 8) (j9 p d s c); unfold j9; rw [C5 (by omega) (by (rw [P6 (by omega)]; exact M8 (by omega) (by assumption) (by assumption))) (by assumption)] <;> rfl)
            · have q10 : (noneB s.value) = false := (Eq.mp (bF8 _) h10); refine rT G _ h10 (wp_seq (l5 G f7 [] fun G => b6 (wp_ret (j8 ?_)))); exact w8 false G (rg 8) (by rw [d9 (by (rw [P6 (by omega)]; simp [h100, h0, q0, h1, q1, h2, q2, h3, q3, h4, q4, h5, q5, h6, q6, h7, q7, h8, q8, h9, q9, h10, q10]; done))]; done) (by show _ = mR (rg 8) (j9 p d s c); unfold j9; rw [d9 (by (rw [P6 (by omega)]; simp [h100, h0, q0, h1, q1, h2, q2, h3, q3, h4, q4, h5, q5, h6, q6, h7, q7, h8, q8, h9, q9, h10, q10]; done))] <;> rfl)
           · have q9 : (noneB s.index) = false := (Eq.mp (bF8 _) h9); refine l5 G (y9 (m9 20 [4] (D5 s.index) y8) (fc (b := false) rfl (fc (b := true) rfl (fc h9 fz))) (us [(2, 7, 0), (12, 12, 0), (1013, 1013, 0), (15, 17, 0), (18, 21, 1), (22, 22, 0), (1022, 1022, 1), (1023, 1023, 0), (25, 26, 2), (32, 32, 2), (1033, 1033, 2), (35, 37, 1), (42, 42, 1), (1043, 1043, 1)])) [(132, bA true)] fun G => b6 (rT G true (by kernel_rfl) (wp_seq (l5 G f7 [] fun G => b6 (wp_ret (j8 ?_))))); exact w8 false G (rg 8) (by rw [d9 (by (rw [P6 (by omega)]; simp [h100, h0, q0, h1, q1, h2, q2, h3, q3, h4, q4, h5, q5, h6, q6, h7, q7, h8, q8, h9, q9]; done))]; done) (by show _ = mR (rg 8) (j9 p d s c); unfold j9; rw [d9 (by (rw [P6 (by omega)]; simp [h100, h0, q0, h1, q1, h2, q2, h3, q3, h4, q4, h5, q5, h6, q6, h7, q7, h8, q8, h9, q9]; done))] <;> rfl)
          · refine wp_seq (l5 G f7 [] fun G => b6 (wp_ret (j8 ?_))); exact w8 false G (rg 8) (by rw [d9 (by (rw [P6 (by omega), decide_eq_false (by omega)]; rfl))]; done) (by show _ = mR (rg 8) (j9 p d s c); unfold j9; rw [d9 (by (rw [P6 (by omega), decide_eq_false (by omega)]; rfl))] <;> rfl)
         · have q7 : (¬ (1 ≤ s.count)) ∨ (¬ (s.count ≤ 3)) := (fun hq => Or.imp (fun hq => of_decide_eq_false hq) (fun hq => of_decide_eq_false hq) (Bool.and_eq_false_iff.1 hq)) (Eq.mp (bF8 _) h7); refine K5 G (y9 (m9 4 [] (t6 s.target 0 0) (m9 11 [] (t6 s.count 1 3) y8)) (fc h6 (fc (b := true) rfl (fc h7 fz))) (us [(7, 8, 0), (9, 12, 1), (13, 13, 0), (1013, 1013, 1), (1014, 1014, 0), (16, 18, 2), (22, 22, 2), (1023, 1023, 2), (25, 27, 1), (32, 32, 1), (1033, 1033, 1), (35, 37, 1), (42, 42, 1), (1043, 1043, 1)])) [(88, bA true)] [IntKind.i64.wrap ((1 : Int) - 1) = 1 - 1] ⟨(by kernel_rfl), bF1⟩ fun G => b6 (rT G true (by kernel_rfl) (wp_seq (l5 G f7 [] fun G => b6 (wp_ret (j8 ?_))))); exact w8 false G (rg 8) (by rw [d9 (by (rw [P6 (by omega), decide_eq_false (by omega)]; rfl))]; done) (by show _ = mR (rg 8) (j9 p d s c); unfold j9; rw [d9 (by (rw [P6 (by omega), decide_eq_false (by omega)]; rfl))] <;> rfl)
        · have q6 : (¬ (0 ≤ s.target)) ∨ (¬ (s.target ≤ 0)) := (fun hq => Or.imp (fun hq => of_decide_eq_false hq) (fun hq => of_decide_eq_false hq) (Bool.and_eq_false_iff.1 hq)) (Eq.mp (bF8 _) h6); refine K5 G (y9 (m9 4 [] (t6 s.target 0 0) y8) (fc h6 (fc (b := true) rfl fz)) [(7, 0), (8, 0), (13, 0), (1014, 0), (16, 1), (17, 1), (18, 1), (22, 1), (1023, 1), (25, 1), (26, 1), (27, 1), (32, 1), (1033, 1), (35, 1), (36, 1), (37, 1), (42, 1), (1043, 1)]) [(88, bA true)] [IntKind.i64.wrap ((1 : Int) - 1) = 1 - 1] ⟨(by kernel_rfl), bF1⟩ fun G => b6 (rT G true (by kernel_rfl) (wp_seq (l5 G f7 [] fun G => b6 (wp_ret (j8 ?_))))); exact w8 false G (rg 8) (by rw [d9 (by (rw [P6 (by omega), decide_eq_false (by omega)]; rfl))]; done) (by show _ = mR (rg 8) (j9 p d s c); unfold j9; rw [d9 (by (rw [P6 (by omega), decide_eq_false (by omega)]; rfl))] <;> rfl)
      ·
       refine l5 G f7 [(13, bA true), (14, bA true)] fun G => v7 (b6 (wp_seq (wp_seq ?_))); cases h12 : (!(decide ((0 : Int) ≤ s.target) && decide (s.target ≤ 0)))
       ·
        have q12 : (0 ≤ s.target) ∧ (s.target ≤ 0) := (fun hq => And.imp (fun hq => of_decide_eq_true hq) (fun hq => of_decide_eq_true hq) (Bool.and_eq_true_iff.1 hq)) (Eq.mp (bG2 _) h12); cases h13 : (s.count != 0)
        ·
         have q13 := bne_eq_false_iff_eq.1 h13; refine K5 G (y9 (m9 4 [] (t6 s.target 0 0) y8) (fc h12 (fc (b := false) rfl (fc (b := true) rfl (fc h13 fz)))) (us [(7, 8, 0), (9, 12, 1), (13, 13, 0), (1013, 1013, 1), (1014, 1014, 0), (16, 18, 1), (19, 21, 2), (22, 22, 1), (1022, 1022, 2), (1023, 1023, 1), (25, 27, 3), (28, 31, 1), (32, 32, 3), (1032, 1032, 1), (1033, 1033, 3), (35, 42, 1), (1042, 1043, 1)])) [(88, bA false)] [IntKind.i64.wrap ((1 : Int) - 1) = 1 - 1] ⟨(by kernel_rfl), bF1⟩ fun G => b6 (rF G false (by kernel_rfl) (wp_skip (b6 (wp_seq (wp_seq ?_))))); cases h14 : (!noneB s.index)
         ·
          have q14 : (noneB s.index) = true := (Eq.mp (bG2 _) h14); cases h15 : (!d8 p.vars.length p.arrays.length s.value)
          ·
           have q15 : (d8 p.vars.length p.arrays.length s.value) = true := (Eq.mp (bG2 _) h15); refine l5 G (y9 (m9 20 [4] (D5 s.index) (m9 30 [0, 1, 2, 5] (K2 p s.value) y8)) (fc (b := false) rfl (fc (b := true) rfl (fc h14 (fc h15 fz)))) (us [(2, 7, 0), (12, 12, 0), (1013, 1013, 0), (15, 17, 0), (18, 21, 1), (22, 22, 0), (1022, 1022, 1), (1023, 1023, 0), (25, 26, 2), (27, 31, 1), (32, 32, 2), (1032, 1032, 1), (1033, 1033, 2), (35, 37, 3), (38, 41, 0), (42, 42, 3), (1042, 1042, 0), (1043, 1043, 3)])) [(132, bA false)] fun G => b6 (rF G false (by kernel_rfl) (wp_skip (b6 (wp_seq ?_)))); cases h16 : ((j3 p.vars.length p.arrays.length d (c + (1 : Nat)) s.body).fst)
           · refine W0 G (y9 (m9 6 [0, 1, 2, 3, 6] (ih s.body (c + 1) (n + 1) (by simp; omega) (by omega)) y8) (fc h16 fz) (us [(8, 14, 0), (1015, 1015, 0)])) (rg 8) (R2 p (.box [iA ((aa6 p d s c).snd : Int)] :: (R3 s []))) [(8, bA false)] [wO (n + 1)] (o1 (by omega)) fun G => b6 (wp_ret ?_); exact w8 false G (rg 8) (by rw [B1 (by omega) (by (rw [V5 (by omega)]; exact M8 (by omega) (by assumption) (by assumption))) (by assumption)]; assumption) (by show _ = mR (rg 8) (j9 p d s c); unfold j9; rw [B1 (by omega) (by (rw [V5 (by omega)]; exact M8 (by omega) (by assumption) (by assumption))) (by assumption)] <;> rfl)
           · refine W0 G (y9 (m9 6 [0, 1, 2, 3, 6] (ih s.body (c + 1) (n + 1) (by simp; omega) (by omega)) (m9 14 [0, 1, 2, 3, 7] (ih s.els ((aa6 p d s c).snd) (n + 1) (J9 (by omega) (by assumption)) (by omega)) y8)) (fc h16 fz) (us [(8, 14, 0), (1015, 1015, 0)])) (rg 8) (R2 p (.box [iA ((aa7 p d s c).snd : Int)] :: (R3 s []))) [(8, bA (aa7 p d s c).fst)] [wO (n + 1), wO (n + 1)] (o2 (by omega)) fun G => b6 (wp_ret ?_); exact w8 ((j3 p.vars.length p.arrays.length d (j3 p.vars.length p.arrays.length d (c + 1) s.body).snd s.els).fst) G (rg 8) (by rw [C5 (by omega) (by (rw [V5 (by omega)]; exact M8 (by omega) (by assumption) (by assumption))) (by assumption)]; done) (by show _ = mR (rg 8) (j9 p d s c); unfold j9; rw [C5 (by omega) (by (rw [V5 (by omega)]; exact M8 (by omega) (by assumption) (by assumption))) (by assumption)] <;> rfl)
          · have q15 : (d8 p.vars.length p.arrays.length s.value) = false := (Eq.mp (bF8 _) h15); refine l5 G (y9 (m9 20 [4] (D5 s.index) (m9 30 [0, 1, 2, 5] (K2 p s.value) y8)) (fc (b := false) rfl (fc (b := true) rfl (fc h14 (fc h15 fz)))) (us [(2, 7, 0), (12, 12, 0), (1013, 1013, 0), (15, 17, 0), (18, 21, 1), (22, 22, 0), (1022, 1022, 1), (1023, 1023, 0), (25, 26, 2), (27, 31, 1), (32, 32, 2), (1032, 1032, 1), (1033, 1033, 2), (35, 37, 3), (42, 42, 3), (1043, 1043, 3)])) [(132, bA true)] fun G => b6 (rT G true (by kernel_rfl) (wp_seq (l5 G f7 [] fun G => b6 (wp_ret (j8 ?_))))); exact w8 false G (rg 8) (by rw [d9 (by (rw [V5 (by omega)]; simp [h100, h0, q0, h1, q1, h2, q2, h3, q3, h4, q4, h12, q12, h13, q13, h14, q14, h15, q15]; done))]; done) (by show _ = mR (rg 8) (j9 p d s c); unfold j9; rw [d9 (by (rw [V5 (by omega)]; simp [h100, h0, q0, h1, q1, h2, q2, h3, q3, h4, q4, h12, q12, h13, q13, h14, q14, h15, q15]; done))] <;> rfl)
         · have q14 : (noneB s.index) = false := (Eq.mp (bF8 _) h14); refine l5 G (y9 (m9 20 [4] (D5 s.index) y8) (fc (b := false) rfl (fc (b := true) rfl (fc h14 fz))) (us [(2, 7, 0), (12, 12, 0), (1013, 1013, 0), (15, 17, 0), (18, 21, 1), (22, 22, 0), (1022, 1022, 1), (1023, 1023, 0), (25, 26, 2), (32, 32, 2), (1033, 1033, 2), (35, 37, 1), (42, 42, 1), (1043, 1043, 1)])) [(132, bA true)] fun G => b6 (rT G true (by kernel_rfl) (wp_seq (l5 G f7 [] fun G => b6 (wp_ret (j8 ?_))))); exact w8 false G (rg 8) (by rw [d9 (by (rw [V5 (by omega)]; simp [h100, h0, q0, h1, q1, h2, q2, h3, q3, h4, q4, h12, q12, h13, q13, h14, q14]; done))]; done) (by show _ = mR (rg 8) (j9 p d s c); unfold j9; rw [d9 (by (rw [V5 (by omega)]; simp [h100, h0, q0, h1, q1, h2, q2, h3, q3, h4, q4, h12, q12, h13, q13, h14, q14]; done))] <;> rfl)
        · have q13 := bne_iff_ne.1 h13; refine K5 G (y9 (m9 4 [] (t6 s.target 0 0) y8) (fc h12 (fc (b := false) rfl (fc (b := true) rfl (fc h13 fz)))) (us [(7, 8, 0), (9, 12, 1), (13, 13, 0), (1013, 1013, 1), (1014, 1014, 0), (16, 18, 1), (19, 21, 2), (22, 22, 1), (1022, 1022, 2), (1023, 1023, 1), (25, 27, 3), (32, 32, 3), (1033, 1033, 3), (35, 37, 2), (42, 42, 2), (1043, 1043, 2)])) [(88, bA true)] [IntKind.i64.wrap ((1 : Int) - 1) = 1 - 1] ⟨(by kernel_rfl), bF1⟩ fun G => b6 (rT G true (by kernel_rfl) (wp_seq (l5 G f7 [] fun G => b6 (wp_ret (j8 ?_))))); exact w8 false G (rg 8) (by rw [d9 (by (rw [V5 (by omega), decide_eq_false (by omega)]; rfl))]; done) (by show _ = mR (rg 8) (j9 p d s c); unfold j9; rw [d9 (by (rw [V5 (by omega), decide_eq_false (by omega)]; rfl))] <;> rfl)
       · have q12 : (¬ (0 ≤ s.target)) ∨ (¬ (s.target ≤ 0)) := (fun hq => Or.imp (fun hq => of_decide_eq_false hq) (fun hq => of_decide_eq_false hq) (Bool.and_eq_false_iff.1 hq)) (Eq.mp (bF8 _) h12); refine K5 G (y9 (m9 4 [] (t6 s.target 0 0) y8) (fc h12 (fc (b := true) rfl fz)) [(7, 0), (8, 0), (13, 0), (1014, 0), (16, 1), (17, 1), (18, 1), (22, 1), (1023, 1), (25, 1), (26, 1), (27, 1), (32, 1), (1033, 1), (35, 1), (36, 1), (37, 1), (42, 1), (1043, 1)]) [(88, bA true)] [IntKind.i64.wrap ((1 : Int) - 1) = 1 - 1] ⟨(by kernel_rfl), bF1⟩ fun G => b6 (rT G true (by kernel_rfl) (wp_seq (l5 G f7 [] fun G => b6 (wp_ret (j8 ?_))))); exact w8 false G (rg 8) (by rw [d9 (by (rw [V5 (by omega), decide_eq_false (by omega)]; rfl))]; done) (by show _ = mR (rg 8) (j9 p d s c); unfold j9; rw [d9 (by (rw [V5 (by omega), decide_eq_false (by omega)]; rfl))] <;> rfl)
     ·
      refine l5 G f7 [(9, iA (p.arrays.length : Int)), (10, bA true)] fun G => v7 (b6 (wp_seq (wp_seq ?_))); cases h17 : (!(decide ((0 : Int) ≤ s.target) && decide (s.target ≤ (p.arrays.length : Int) - 1)))
      ·
       have q17 : (0 ≤ s.target) ∧ (s.target ≤ (p.arrays.length : Int) - 1) := (fun hq => And.imp (fun hq => of_decide_eq_true hq) (fun hq => of_decide_eq_true hq) (Bool.and_eq_true_iff.1 hq)) (Eq.mp (bG2 _) h17); cases h18 : (s.count != 0)
       ·
        have q18 := bne_eq_false_iff_eq.1 h18; cases h19 : (decide ((s.body.length : Int) > 0))
        ·
         have q19 := Y1 h19; refine K5 G (y9 (m9 4 [] (t6 s.target 0 ((p.arrays.length : Int) - 1)) y8) (fc h17 (fc (b := false) rfl (fc (b := true) rfl (fc h18 (fc h19 fz))))) (us [(7, 8, 0), (9, 12, 1), (13, 13, 0), (1013, 1013, 1), (1014, 1014, 0), (16, 18, 1), (19, 21, 2), (22, 22, 1), (1022, 1022, 2), (1023, 1023, 1), (25, 27, 3), (28, 31, 2), (32, 32, 3), (1032, 1032, 2), (1033, 1033, 3), (35, 37, 4), (38, 41, 2), (42, 42, 4), (1042, 1042, 2), (1043, 1043, 4)])) [(88, bA (decide ((s.els.length : Int) > 0)))] [wO ((p.arrays.length : Int) - 1)] (o1 (by omega)) fun G => b6 (rcD G (fun h20 q20 => ?_) fun h20 q20 => ?_)
         ·
          refine wp_skip (b6 (wp_seq (wp_seq ?_))); cases h21 : (!d8 p.vars.length p.arrays.length s.index)
          ·
           have q21 : (d8 p.vars.length p.arrays.length s.index) = true := (Eq.mp (bG2 _) h21); cases h22 : (!D6 s.index)
           ·
            have q22 : (D6 s.index) = true := (Eq.mp (bG2 _) h22); cases h23 : (!d8 p.vars.length p.arrays.length s.value)
            ·
             have q23 : (d8 p.vars.length p.arrays.length s.value) = true := (Eq.mp (bG2 _) h23); refine l5 G (y9 (m9 5 [0, 1, 2, 4] (K2 p s.index) (m9 10 [4] (aj0 s.index) (m9 30 [0, 1, 2, 5] (K2 p s.value) y8))) (fc (b := true) rfl (fc h21 (fc h22 (fc (b := false) rfl (fc h23 fz))))) (us [(2, 7, 0), (8, 11, 1), (12, 12, 0), (1012, 1012, 1), (1013, 1013, 0), (15, 17, 2), (18, 21, 3), (22, 22, 2), (1022, 1022, 3), (1023, 1023, 2), (25, 26, 3), (27, 31, 0), (32, 32, 3), (1032, 1032, 0), (1033, 1033, 3), (35, 37, 4), (38, 41, 3), (42, 42, 4), (1042, 1042, 3), (1043, 1043, 4)])) [(132, bA false)] fun G => b6 (rF G false (by kernel_rfl) (wp_skip (b6 (wp_seq ?_)))); cases h24 : ((j3 p.vars.length p.arrays.length d (c + (1 : Nat)) s.body).fst)
             · refine W0 G (y9 (m9 6 [0, 1, 2, 3, 6] (ih s.body (c + 1) (n + 1) (by simp; omega) (by omega)) y8) (fc h24 fz) (us [(8, 14, 0), (1015, 1015, 0)])) (rg 8) (R2 p (.box [iA ((aa6 p d s c).snd : Int)] :: (R3 s []))) [(8, bA false)] [wO (n + 1)] (o1 (by omega)) fun G => b6 (wp_ret ?_); exact w8 false G (rg 8) (by rw [B1 (by omega) (by (rw [J2 (by omega)]; exact aD2 (by omega) (by assumption) (by assumption) (by assumption))) (by assumption)]; assumption) (by show _ = mR (rg 8) (j9 p d s c); unfold j9; rw [B1 (by omega) (by (rw [J2 (by omega)]; exact aD2 (by omega) (by assumption) (by assumption) (by assumption))) (by assumption)] <;> rfl)
             · refine W0 G (y9 (m9 6 [0, 1, 2, 3, 6] (ih s.body (c + 1) (n + 1) (by simp; omega) (by omega)) (m9 14 [0, 1, 2, 3, 7] (ih s.els ((aa6 p d s c).snd) (n + 1) (J9 (by omega) (by assumption)) (by omega)) y8)) (fc h24 fz) (us [(8, 14, 0), (1015, 1015, 0)])) (rg 8) (R2 p (.box [iA ((aa7 p d s c).snd : Int)] :: (R3 s []))) [(8, bA (aa7 p d s c).fst)] [wO (n + 1), wO (n + 1)] (o2 (by omega)) fun G => b6 (wp_ret ?_); exact w8 ((j3 p.vars.length p.arrays.length d (j3 p.vars.length p.arrays.length d (c + 1) s.body).snd s.els).fst) G (rg 8) (by rw [C5 (by omega) (by (rw [J2 (by omega)]; exact aD2 (by omega) (by assumption) (by assumption) (by assumption))) (by assumption)]; done) (by show _ = mR (rg 8) (j9 p d s c); unfold j9; rw [C5 (by omega) (by (rw [J2 (by omega)]; exact aD2 (by omega) (by assumption) (by assumption) (by assumption))) (by assumption)] <;> rfl)
            · have q23 : (d8 p.vars.length p.arrays.length s.value) = false := (Eq.mp (bF8 _) h23); refine l5 G (y9 (m9 5 [0, 1, 2, 4] (K2 p s.index) (m9 10 [4] (aj0 s.index) (m9 30 [0, 1, 2, 5] (K2 p s.value) y8))) (fc (b := true) rfl (fc h21 (fc h22 (fc (b := false) rfl (fc h23 fz))))) (us [(2, 7, 0), (8, 11, 1), (12, 12, 0), (1012, 1012, 1), (1013, 1013, 0), (15, 17, 2), (18, 21, 3), (22, 22, 2), (1022, 1022, 3), (1023, 1023, 2), (25, 26, 3), (27, 31, 0), (32, 32, 3), (1032, 1032, 0), (1033, 1033, 3), (35, 37, 4), (42, 42, 4), (1043, 1043, 4)])) [(132, bA true)] fun G => b6 (rT G true (by kernel_rfl) (wp_seq (l5 G f7 [] fun G => b6 (wp_ret (j8 ?_))))); exact w8 false G (rg 8) (by rw [d9 (by (rw [J2 (by omega)]; simp [h100, h0, q0, h1, q1, h2, q2, h3, q3, h17, q17, h18, q18, h19, q19, h20, q20, h21, q21, h22, q22, h23, q23]; done))]; done) (by show _ = mR (rg 8) (j9 p d s c); unfold j9; rw [d9 (by (rw [J2 (by omega)]; simp [h100, h0, q0, h1, q1, h2, q2, h3, q3, h17, q17, h18, q18, h19, q19, h20, q20, h21, q21, h22, q22, h23, q23]; done))] <;> rfl)
           · have q22 : (D6 s.index) = false := (Eq.mp (bF8 _) h22); refine l5 G (y9 (m9 5 [0, 1, 2, 4] (K2 p s.index) (m9 10 [4] (aj0 s.index) y8)) (fc (b := true) rfl (fc h21 (fc h22 fz))) (us [(2, 7, 0), (8, 11, 1), (12, 12, 0), (1012, 1012, 1), (1013, 1013, 0), (15, 17, 2), (22, 22, 2), (1023, 1023, 2), (25, 26, 0), (32, 32, 0), (1033, 1033, 0), (35, 37, 0), (42, 42, 0), (1043, 1043, 0)])) [(132, bA true)] fun G => b6 (rT G true (by kernel_rfl) (wp_seq (l5 G f7 [] fun G => b6 (wp_ret (j8 ?_))))); exact w8 false G (rg 8) (by rw [d9 (by (rw [J2 (by omega)]; simp [h100, h0, q0, h1, q1, h2, q2, h3, q3, h17, q17, h18, q18, h19, q19, h20, q20, h21, q21, h22, q22]; done))]; done) (by show _ = mR (rg 8) (j9 p d s c); unfold j9; rw [d9 (by (rw [J2 (by omega)]; simp [h100, h0, q0, h1, q1, h2, q2, h3, q3, h17, q17, h18, q18, h19, q19, h20, q20, h21, q21, h22, q22]; done))] <;> rfl)
          · have q21 : (d8 p.vars.length p.arrays.length s.index) = false := (Eq.mp (bF8 _) h21); refine l5 G (y9 (m9 5 [0, 1, 2, 4] (K2 p s.index) y8) (fc (b := true) rfl (fc h21 fz)) (us [(2, 7, 0), (8, 11, 1), (12, 12, 0), (1012, 1012, 1), (1013, 1013, 0), (15, 17, 0), (22, 22, 0), (1023, 1023, 0), (25, 26, 0), (32, 32, 0), (1033, 1033, 0), (35, 37, 0), (42, 42, 0), (1043, 1043, 0)])) [(132, bA true)] fun G => b6 (rT G true (by kernel_rfl) (wp_seq (l5 G f7 [] fun G => b6 (wp_ret (j8 ?_))))); exact w8 false G (rg 8) (by rw [d9 (by (rw [J2 (by omega)]; simp [h100, h0, q0, h1, q1, h2, q2, h3, q3, h17, q17, h18, q18, h19, q19, h20, q20, h21, q21]; done))]; done) (by show _ = mR (rg 8) (j9 p d s c); unfold j9; rw [d9 (by (rw [J2 (by omega)]; simp [h100, h0, q0, h1, q1, h2, q2, h3, q3, h17, q17, h18, q18, h19, q19, h20, q20, h21, q21]; done))] <;> rfl)
         · refine wp_seq (l5 G f7 [] fun G => b6 (wp_ret (j8 ?_))); exact w8 false G (rg 8) (by rw [d9 (by (rw [J2 (by omega), decide_eq_false (by omega)]; rfl))]; done) (by show _ = mR (rg 8) (j9 p d s c); unfold j9; rw [d9 (by (rw [J2 (by omega), decide_eq_false (by omega)]; rfl))] <;> rfl)
        · have q19 := Y0 h19; refine K5 G (y9 (m9 4 [] (t6 s.target 0 ((p.arrays.length : Int) - 1)) y8) (fc h17 (fc (b := false) rfl (fc (b := true) rfl (fc h18 (fc h19 fz))))) (us [(7, 8, 0), (9, 12, 1), (13, 13, 0), (1013, 1013, 1), (1014, 1014, 0), (16, 18, 1), (19, 21, 2), (22, 22, 1), (1022, 1022, 2), (1023, 1023, 1), (25, 27, 3), (28, 31, 2), (32, 32, 3), (1032, 1032, 2), (1033, 1033, 3), (35, 37, 4), (42, 42, 4), (1043, 1043, 4)])) [(88, bA true)] [wO ((p.arrays.length : Int) - 1)] (o1 (by omega)) fun G => b6 (rT G true (by kernel_rfl) (wp_seq (l5 G f7 [] fun G => b6 (wp_ret (j8 ?_))))); exact w8 false G (rg 8) (by rw [d9 (by (rw [J2 (by omega), decide_eq_false (by omega)]; rfl))]; done) (by show _ = mR (rg 8) (j9 p d s c); unfold j9; rw [d9 (by (rw [J2 (by omega), decide_eq_false (by omega)]; rfl))] <;> rfl)
       · have q18 := bne_iff_ne.1 h18; refine K5 G (y9 (m9 4 [] (t6 s.target 0 ((p.arrays.length : Int) - 1)) y8) (fc h17 (fc (b := false) rfl (fc (b := true) rfl (fc h18 fz)))) (us [(7, 8, 0), (9, 12, 1), (13, 13, 0), (1013, 1013, 1), (1014, 1014, 0), (16, 18, 1), (19, 21, 2), (22, 22, 1), (1022, 1022, 2), (1023, 1023, 1), (25, 27, 3), (32, 32, 3), (1033, 1033, 3), (35, 37, 2), (42, 42, 2), (1043, 1043, 2)])) [(88, bA true)] [wO ((p.arrays.length : Int) - 1)] (o1 (by omega)) fun G => b6 (rT G true (by kernel_rfl) (wp_seq (l5 G f7 [] fun G => b6 (wp_ret (j8 ?_))))); exact w8 false G (rg 8) (by rw [d9 (by (rw [J2 (by omega), decide_eq_false (by omega)]; rfl))]; done) (by show _ = mR (rg 8) (j9 p d s c); unfold j9; rw [d9 (by (rw [J2 (by omega), decide_eq_false (by omega)]; rfl))] <;> rfl)
      · have q17 : (¬ (0 ≤ s.target)) ∨ (¬ (s.target ≤ (p.arrays.length : Int) - 1)) := (fun hq => Or.imp (fun hq => of_decide_eq_false hq) (fun hq => of_decide_eq_false hq) (Bool.and_eq_false_iff.1 hq)) (Eq.mp (bF8 _) h17); refine K5 G (y9 (m9 4 [] (t6 s.target 0 ((p.arrays.length : Int) - 1)) y8) (fc h17 (fc (b := true) rfl fz)) [(7, 0), (8, 0), (13, 0), (1014, 0), (16, 1), (17, 1), (18, 1), (22, 1), (1023, 1), (25, 1), (26, 1), (27, 1), (32, 1), (1033, 1), (35, 1), (36, 1), (37, 1), (42, 1), (1043, 1)]) [(88, bA true)] [wO ((p.arrays.length : Int) - 1)] (o1 (by omega)) fun G => b6 (rT G true (by kernel_rfl) (wp_seq (l5 G f7 [] fun G => b6 (wp_ret (j8 ?_))))); exact w8 false G (rg 8) (by rw [d9 (by (rw [J2 (by omega), decide_eq_false (by omega)]; rfl))]; done) (by show _ = mR (rg 8) (j9 p d s c); unfold j9; rw [d9 (by (rw [J2 (by omega), decide_eq_false (by omega)]; rfl))] <;> rfl)
    ·
     refine l5 G f7 [(9, iA (p.vars.length : Int))] fun G => v7 (b6 (wp_seq (wp_seq ?_))); cases h25 : (!(decide ((0 : Int) ≤ s.target) && decide (s.target ≤ (p.vars.length : Int) - 1)))
     ·
      have q25 : (0 ≤ s.target) ∧ (s.target ≤ (p.vars.length : Int) - 1) := (fun hq => And.imp (fun hq => of_decide_eq_true hq) (fun hq => of_decide_eq_true hq) (Bool.and_eq_true_iff.1 hq)) (Eq.mp (bG2 _) h25); cases h26 : (s.count != 0)
      ·
       have q26 := bne_eq_false_iff_eq.1 h26; cases h27 : (decide ((s.body.length : Int) > 0))
       ·
        have q27 := Y1 h27; refine K5 G (y9 (m9 4 [] (t6 s.target 0 ((p.vars.length : Int) - 1)) y8) (fc h25 (fc (b := false) rfl (fc (b := true) rfl (fc h26 (fc h27 fz))))) (us [(7, 8, 0), (9, 12, 1), (13, 13, 0), (1013, 1013, 1), (1014, 1014, 0), (16, 18, 1), (19, 21, 2), (22, 22, 1), (1022, 1022, 2), (1023, 1023, 1), (25, 27, 3), (28, 31, 2), (32, 32, 3), (1032, 1032, 2), (1033, 1033, 3), (35, 37, 4), (38, 41, 2), (42, 42, 4), (1042, 1042, 2), (1043, 1043, 4)])) [(88, bA (decide ((s.els.length : Int) > 0)))] [wO ((p.vars.length : Int) - 1)] (o1 (by omega)) fun G => b6 (rcD G (fun h28 q28 => ?_) fun h28 q28 => ?_)
        ·
         refine wp_skip (b6 (wp_seq (wp_seq ?_))); cases h29 : (!noneB s.index)
         ·
          have q29 : (noneB s.index) = true := (Eq.mp (bG2 _) h29); cases h30 : (!d8 p.vars.length p.arrays.length s.value)
          ·
           have q30 : (d8 p.vars.length p.arrays.length s.value) = true := (Eq.mp (bG2 _) h30); refine l5 G (y9 (m9 20 [4] (D5 s.index) (m9 30 [0, 1, 2, 5] (K2 p s.value) y8)) (fc (b := false) rfl (fc (b := true) rfl (fc h29 (fc h30 fz)))) (us [(2, 7, 0), (12, 12, 0), (1013, 1013, 0), (15, 17, 0), (18, 21, 1), (22, 22, 0), (1022, 1022, 1), (1023, 1023, 0), (25, 26, 2), (27, 31, 1), (32, 32, 2), (1032, 1032, 1), (1033, 1033, 2), (35, 37, 3), (38, 41, 0), (42, 42, 3), (1042, 1042, 0), (1043, 1043, 3)])) [(132, bA false)] fun G => b6 (rF G false (by kernel_rfl) (wp_skip (b6 (wp_seq ?_)))); cases h31 : ((j3 p.vars.length p.arrays.length d (c + (1 : Nat)) s.body).fst)
           · refine W0 G (y9 (m9 6 [0, 1, 2, 3, 6] (ih s.body (c + 1) (n + 1) (by simp; omega) (by omega)) y8) (fc h31 fz) (us [(8, 14, 0), (1015, 1015, 0)])) (rg 8) (R2 p (.box [iA ((aa6 p d s c).snd : Int)] :: (R3 s []))) [(8, bA false)] [wO (n + 1)] (o1 (by omega)) fun G => b6 (wp_ret ?_); exact w8 false G (rg 8) (by rw [B1 (by omega) (by (rw [A7 (by omega)]; exact M8 (by omega) (by assumption) (by assumption))) (by assumption)]; assumption) (by show _ = mR (rg 8) (j9 p d s c); unfold j9; rw [B1 (by omega) (by (rw [A7 (by omega)]; exact M8 (by omega) (by assumption) (by assumption))) (by assumption)] <;> rfl)
           · refine W0 G (y9 (m9 6 [0, 1, 2, 3, 6] (ih s.body (c + 1) (n + 1) (by simp; omega) (by omega)) (m9 14 [0, 1, 2, 3, 7] (ih s.els ((aa6 p d s c).snd) (n + 1) (J9 (by omega) (by assumption)) (by omega)) y8)) (fc h31 fz) (us [(8, 14, 0), (1015, 1015, 0)])) (rg 8) (R2 p (.box [iA ((aa7 p d s c).snd : Int)] :: (R3 s []))) [(8, bA (aa7 p d s c).fst)] [wO (n + 1), wO (n + 1)] (o2 (by omega)) fun G => b6 (wp_ret ?_); exact w8 ((j3 p.vars.length p.arrays.length d (j3 p.vars.length p.arrays.length d (c + 1) s.body).snd s.els).fst) G (rg 8) (by rw [C5 (by omega) (by (rw [A7 (by omega)]; exact M8 (by omega) (by assumption) (by assumption))) (by assumption)]; done) (by show _ = mR (rg 8) (j9 p d s c); unfold j9; rw [C5 (by omega) (by (rw [A7 (by omega)]; exact M8 (by omega) (by assumption) (by assumption))) (by assumption)] <;> rfl)
          · have q30 : (d8 p.vars.length p.arrays.length s.value) = false := (Eq.mp (bF8 _) h30); refine l5 G (y9 (m9 20 [4] (D5 s.index) (m9 30 [0, 1, 2, 5] (K2 p s.value) y8)) (fc (b := false) rfl (fc (b := true) rfl (fc h29 (fc h30 fz)))) (us [(2, 7, 0), (12, 12, 0), (1013, 1013, 0), (15, 17, 0), (18, 21, 1), (22, 22, 0), (1022, 1022, 1), (1023, 1023, 0), (25, 26, 2), (27, 31, 1), (32, 32, 2), (1032, 1032, 1), (1033, 1033, 2), (35, 37, 3), (42, 42, 3), (1043, 1043, 3)])) [(132, bA true)] fun G => b6 (rT G true (by kernel_rfl) (wp_seq (l5 G f7 [] fun G => b6 (wp_ret (j8 ?_))))); exact w8 false G (rg 8) (by rw [d9 (by (rw [A7 (by omega)]; simp [h100, h0, q0, h1, q1, h2, q2, h25, q25, h26, q26, h27, q27, h28, q28, h29, q29, h30, q30]; done))]; done) (by show _ = mR (rg 8) (j9 p d s c); unfold j9; rw [d9 (by (rw [A7 (by omega)]; simp [h100, h0, q0, h1, q1, h2, q2, h25, q25, h26, q26, h27, q27, h28, q28, h29, q29, h30, q30]; done))] <;> rfl)
         · have q29 : (noneB s.index) = false := (Eq.mp (bF8 _) h29); refine l5 G (y9 (m9 20 [4] (D5 s.index) y8) (fc (b := false) rfl (fc (b := true) rfl (fc h29 fz))) (us [(2, 7, 0), (12, 12, 0), (1013, 1013, 0), (15, 17, 0), (18, 21, 1), (22, 22, 0), (1022, 1022, 1), (1023, 1023, 0), (25, 26, 2), (32, 32, 2), (1033, 1033, 2), (35, 37, 1), (42, 42, 1), (1043, 1043, 1)])) [(132, bA true)] fun G => b6 (rT G true (by kernel_rfl) (wp_seq (l5 G f7 [] fun G => b6 (wp_ret (j8 ?_))))); exact w8 false G (rg 8) (by rw [d9 (by (rw [A7 (by omega)]; simp [h100, h0, q0, h1, q1, h2, q2, h25, q25, h26, q26, h27, q27, h28, q28, h29, q29]; done))]; done) (by show _ = mR (rg 8) (j9 p d s c); unfold j9; rw [d9 (by (rw [A7 (by omega)]; simp [h100, h0, q0, h1, q1, h2, q2, h25, q25, h26, q26, h27, q27, h28, q28, h29, q29]; done))] <;> rfl)
        · refine wp_seq (l5 G f7 [] fun G => b6 (wp_ret (j8 ?_))); exact w8 false G (rg 8) (by rw [d9 (by (rw [A7 (by omega), decide_eq_false (by omega)]; rfl))]; done) (by show _ = mR (rg 8) (j9 p d s c); unfold j9; rw [d9 (by (rw [A7 (by omega), decide_eq_false (by omega)]; rfl))] <;> rfl)
       · have q27 := Y0 h27; refine K5 G (y9 (m9 4 [] (t6 s.target 0 ((p.vars.length : Int) - 1)) y8) (fc h25 (fc (b := false) rfl (fc (b := true) rfl (fc h26 (fc h27 fz))))) (us [(7, 8, 0), (9, 12, 1), (13, 13, 0), (1013, 1013, 1), (1014, 1014, 0), (16, 18, 1), (19, 21, 2), (22, 22, 1), (1022, 1022, 2), (1023, 1023, 1), (25, 27, 3), (28, 31, 2), (32, 32, 3), (1032, 1032, 2), (1033, 1033, 3), (35, 37, 4), (42, 42, 4), (1043, 1043, 4)])) [(88, bA true)] [wO ((p.vars.length : Int) - 1)] (o1 (by omega)) fun G => b6 (rT G true (by kernel_rfl) (wp_seq (l5 G f7 [] fun G => b6 (wp_ret (j8 ?_))))); exact w8 false G (rg 8) (by rw [d9 (by (rw [A7 (by omega), decide_eq_false (by omega)]; rfl))]; done) (by show _ = mR (rg 8) (j9 p d s c); unfold j9; rw [d9 (by (rw [A7 (by omega), decide_eq_false (by omega)]; rfl))] <;> rfl)
      · have q26 := bne_iff_ne.1 h26; refine K5 G (y9 (m9 4 [] (t6 s.target 0 ((p.vars.length : Int) - 1)) y8) (fc h25 (fc (b := false) rfl (fc (b := true) rfl (fc h26 fz)))) (us [(7, 8, 0), (9, 12, 1), (13, 13, 0), (1013, 1013, 1), (1014, 1014, 0), (16, 18, 1), (19, 21, 2), (22, 22, 1), (1022, 1022, 2), (1023, 1023, 1), (25, 27, 3), (32, 32, 3), (1033, 1033, 3), (35, 37, 2), (42, 42, 2), (1043, 1043, 2)])) [(88, bA true)] [wO ((p.vars.length : Int) - 1)] (o1 (by omega)) fun G => b6 (rT G true (by kernel_rfl) (wp_seq (l5 G f7 [] fun G => b6 (wp_ret (j8 ?_))))); exact w8 false G (rg 8) (by rw [d9 (by (rw [A7 (by omega), decide_eq_false (by omega)]; rfl))]; done) (by show _ = mR (rg 8) (j9 p d s c); unfold j9; rw [d9 (by (rw [A7 (by omega), decide_eq_false (by omega)]; rfl))] <;> rfl)
     · have q25 : (¬ (0 ≤ s.target)) ∨ (¬ (s.target ≤ (p.vars.length : Int) - 1)) := (fun hq => Or.imp (fun hq => of_decide_eq_false hq) (fun hq => of_decide_eq_false hq) (Bool.and_eq_false_iff.1 hq)) (Eq.mp (bF8 _) h25); refine K5 G (y9 (m9 4 [] (t6 s.target 0 ((p.vars.length : Int) - 1)) y8) (fc h25 (fc (b := true) rfl fz)) [(7, 0), (8, 0), (13, 0), (1014, 0), (16, 1), (17, 1), (18, 1), (22, 1), (1023, 1), (25, 1), (26, 1), (27, 1), (32, 1), (1033, 1), (35, 1), (36, 1), (37, 1), (42, 1), (1043, 1)]) [(88, bA true)] [wO ((p.vars.length : Int) - 1)] (o1 (by omega)) fun G => b6 (rT G true (by kernel_rfl) (wp_seq (l5 G f7 [] fun G => b6 (wp_ret (j8 ?_))))); exact w8 false G (rg 8) (by rw [d9 (by (rw [A7 (by omega), decide_eq_false (by omega)]; rfl))]; done) (by show _ = mR (rg 8) (j9 p d s c); unfold j9; rw [d9 (by (rw [A7 (by omega), decide_eq_false (by omega)]; rfl))] <;> rfl)
   ·
    refine wp_skip (b6 (rT G _ h1 (l5 G f7 [(9, iA (p.vars.length : Int))] fun G => v7 (b6 (wp_seq (wp_seq ?_)))))); cases h32 : (!(decide ((0 : Int) ≤ s.target) && decide (s.target ≤ (p.vars.length : Int) - 1)))
    ·
     have q32 : (0 ≤ s.target) ∧ (s.target ≤ (p.vars.length : Int) - 1) := (fun hq => And.imp (fun hq => of_decide_eq_true hq) (fun hq => of_decide_eq_true hq) (Bool.and_eq_true_iff.1 hq)) (Eq.mp (bG2 _) h32); cases h33 : (s.count != 0)
     ·
      have q33 := bne_eq_false_iff_eq.1 h33; cases h34 : (decide ((s.body.length : Int) > 0))
      ·
       have q34 := Y1 h34; refine K5 G (y9 (m9 4 [] (t6 s.target 0 ((p.vars.length : Int) - 1)) y8) (fc h32 (fc (b := false) rfl (fc (b := true) rfl (fc h33 (fc h34 fz))))) (us [(7, 8, 0), (9, 12, 1), (13, 13, 0), (1013, 1013, 1), (1014, 1014, 0), (16, 18, 1), (19, 21, 2), (22, 22, 1), (1022, 1022, 2), (1023, 1023, 1), (25, 27, 3), (28, 31, 2), (32, 32, 3), (1032, 1032, 2), (1033, 1033, 3), (35, 37, 4), (38, 41, 2), (42, 42, 4), (1042, 1042, 2), (1043, 1043, 4)])) [(88, bA (decide ((s.els.length : Int) > 0)))] [wO ((p.vars.length : Int) - 1)] (o1 (by omega)) fun G => b6 (rcD G (fun h35 q35 => ?_) fun h35 q35 => ?_)
       ·
        refine wp_skip (b6 (wp_seq (wp_seq ?_))); cases h36 : (!noneB s.index)
        ·
         have q36 : (noneB s.index) = true := (Eq.mp (bG2 _) h36); cases h37 : (!d8 p.vars.length p.arrays.length s.value)
         ·
          have q37 : (d8 p.vars.length p.arrays.length s.value) = true := (Eq.mp (bG2 _) h37); refine l5 G (y9 (m9 20 [4] (D5 s.index) (m9 30 [0, 1, 2, 5] (K2 p s.value) y8)) (fc (b := false) rfl (fc (b := true) rfl (fc h36 (fc h37 fz)))) (us [(2, 7, 0), (12, 12, 0), (1013, 1013, 0), (15, 17, 0), (18, 21, 1), (22, 22, 0), (1022, 1022, 1), (1023, 1023, 0), (25, 26, 2), (27, 31, 1), (32, 32, 2), (1032, 1032, 1), (1033, 1033, 2), (35, 37, 3), (38, 41, 0), (42, 42, 3), (1042, 1042, 0), (1043, 1043, 3)])) [(132, bA false)] fun G => b6 (rF G false (by kernel_rfl) (wp_skip (b6 (wp_seq ?_)))); cases h38 : ((j3 p.vars.length p.arrays.length d (c + (1 : Nat)) s.body).fst)
          · refine W0 G (y9 (m9 6 [0, 1, 2, 3, 6] (ih s.body (c + 1) (n + 1) (by simp; omega) (by omega)) y8) (fc h38 fz) (us [(8, 14, 0), (1015, 1015, 0)])) (rg 8) (R2 p (.box [iA ((aa6 p d s c).snd : Int)] :: (R3 s []))) [(8, bA false)] [wO (n + 1)] (o1 (by omega)) fun G => b6 (wp_ret ?_); exact w8 false G (rg 8) (by rw [B1 (by omega) (by (rw [A7 (by omega)]; exact M8 (by omega) (by assumption) (by assumption))) (by assumption)]; assumption) (by show _ = mR (rg 8) (j9 p d s c); unfold j9; rw [B1 (by omega) (by (rw [A7 (by omega)]; exact M8 (by omega) (by assumption) (by assumption))) (by assumption)] <;> rfl)
          · refine W0 G (y9 (m9 6 [0, 1, 2, 3, 6] (ih s.body (c + 1) (n + 1) (by simp; omega) (by omega)) (m9 14 [0, 1, 2, 3, 7] (ih s.els ((aa6 p d s c).snd) (n + 1) (J9 (by omega) (by assumption)) (by omega)) y8)) (fc h38 fz) (us [(8, 14, 0), (1015, 1015, 0)])) (rg 8) (R2 p (.box [iA ((aa7 p d s c).snd : Int)] :: (R3 s []))) [(8, bA (aa7 p d s c).fst)] [wO (n + 1), wO (n + 1)] (o2 (by omega)) fun G => b6 (wp_ret ?_); exact w8 ((j3 p.vars.length p.arrays.length d (j3 p.vars.length p.arrays.length d (c + 1) s.body).snd s.els).fst) G (rg 8) (by rw [C5 (by omega) (by (rw [A7 (by omega)]; exact M8 (by omega) (by assumption) (by assumption))) (by assumption)]; done) (by show _ = mR (rg 8) (j9 p d s c); unfold j9; rw [C5 (by omega) (by (rw [A7 (by omega)]; exact M8 (by omega) (by assumption) (by assumption))) (by assumption)] <;> rfl)
         · have q37 : (d8 p.vars.length p.arrays.length s.value) = false := (Eq.mp (bF8 _) h37); refine l5 G (y9 (m9 20 [4] (D5 s.index) (m9 30 [0, 1, 2, 5] (K2 p s.value) y8)) (fc (b := false) rfl (fc (b := true) rfl (fc h36 (fc h37 fz)))) (us [(2, 7, 0), (12, 12, 0), (1013, 1013, 0), (15, 17, 0), (18, 21, 1), (22, 22, 0), (1022, 1022, 1), (1023, 1023, 0), (25, 26, 2), (27, 31, 1), (32, 32, 2), (1032, 1032, 1), (1033, 1033, 2), (35, 37, 3), (42, 42, 3), (1043, 1043, 3)])) [(132, bA true)] fun G => b6 (rT G true (by kernel_rfl) (wp_seq (l5 G f7 [] fun G => b6 (wp_ret (j8 ?_))))); exact w8 false G (rg 8) (by rw [d9 (by (rw [A7 (by omega)]; simp [h100, h0, q0, h1, q1, h32, q32, h33, q33, h34, q34, h35, q35, h36, q36, h37, q37]; done))]; done) (by show _ = mR (rg 8) (j9 p d s c); unfold j9; rw [d9 (by (rw [A7 (by omega)]; simp [h100, h0, q0, h1, q1, h32, q32, h33, q33, h34, q34, h35, q35, h36, q36, h37, q37]; done))] <;> rfl)
        · have q36 : (noneB s.index) = false := (Eq.mp (bF8 _) h36); refine l5 G (y9 (m9 20 [4] (D5 s.index) y8) (fc (b := false) rfl (fc (b := true) rfl (fc h36 fz))) (us [(2, 7, 0), (12, 12, 0), (1013, 1013, 0), (15, 17, 0), (18, 21, 1), (22, 22, 0), (1022, 1022, 1), (1023, 1023, 0), (25, 26, 2), (32, 32, 2), (1033, 1033, 2), (35, 37, 1), (42, 42, 1), (1043, 1043, 1)])) [(132, bA true)] fun G => b6 (rT G true (by kernel_rfl) (wp_seq (l5 G f7 [] fun G => b6 (wp_ret (j8 ?_))))); exact w8 false G (rg 8) (by rw [d9 (by (rw [A7 (by omega)]; simp [h100, h0, q0, h1, q1, h32, q32, h33, q33, h34, q34, h35, q35, h36, q36]; done))]; done) (by show _ = mR (rg 8) (j9 p d s c); unfold j9; rw [d9 (by (rw [A7 (by omega)]; simp [h100, h0, q0, h1, q1, h32, q32, h33, q33, h34, q34, h35, q35, h36, q36]; done))] <;> rfl)
       · refine wp_seq (l5 G f7 [] fun G => b6 (wp_ret (j8 ?_))); exact w8 false G (rg 8) (by rw [d9 (by (rw [A7 (by omega), decide_eq_false (by omega)]; rfl))]; done) (by show _ = mR (rg 8) (j9 p d s c); unfold j9; rw [d9 (by (rw [A7 (by omega), decide_eq_false (by omega)]; rfl))] <;> rfl)
      · have q34 := Y0 h34; refine K5 G (y9 (m9 4 [] (t6 s.target 0 ((p.vars.length : Int) - 1)) y8) (fc h32 (fc (b := false) rfl (fc (b := true) rfl (fc h33 (fc h34 fz))))) (us [(7, 8, 0), (9, 12, 1), (13, 13, 0), (1013, 1013, 1), (1014, 1014, 0), (16, 18, 1), (19, 21, 2), (22, 22, 1), (1022, 1022, 2), (1023, 1023, 1), (25, 27, 3), (28, 31, 2), (32, 32, 3), (1032, 1032, 2), (1033, 1033, 3), (35, 37, 4), (42, 42, 4), (1043, 1043, 4)])) [(88, bA true)] [wO ((p.vars.length : Int) - 1)] (o1 (by omega)) fun G => b6 (rT G true (by kernel_rfl) (wp_seq (l5 G f7 [] fun G => b6 (wp_ret (j8 ?_))))); exact w8 false G (rg 8) (by rw [d9 (by (rw [A7 (by omega), decide_eq_false (by omega)]; rfl))]; done) (by show _ = mR (rg 8) (j9 p d s c); unfold j9; rw [d9 (by (rw [A7 (by omega), decide_eq_false (by omega)]; rfl))] <;> rfl)
     · have q33 := bne_iff_ne.1 h33; refine K5 G (y9 (m9 4 [] (t6 s.target 0 ((p.vars.length : Int) - 1)) y8) (fc h32 (fc (b := false) rfl (fc (b := true) rfl (fc h33 fz)))) (us [(7, 8, 0), (9, 12, 1), (13, 13, 0), (1013, 1013, 1), (1014, 1014, 0), (16, 18, 1), (19, 21, 2), (22, 22, 1), (1022, 1022, 2), (1023, 1023, 1), (25, 27, 3), (32, 32, 3), (1033, 1033, 3), (35, 37, 2), (42, 42, 2), (1043, 1043, 2)])) [(88, bA true)] [wO ((p.vars.length : Int) - 1)] (o1 (by omega)) fun G => b6 (rT G true (by kernel_rfl) (wp_seq (l5 G f7 [] fun G => b6 (wp_ret (j8 ?_))))); exact w8 false G (rg 8) (by rw [d9 (by (rw [A7 (by omega), decide_eq_false (by omega)]; rfl))]; done) (by show _ = mR (rg 8) (j9 p d s c); unfold j9; rw [d9 (by (rw [A7 (by omega), decide_eq_false (by omega)]; rfl))] <;> rfl)
    · have q32 : (¬ (0 ≤ s.target)) ∨ (¬ (s.target ≤ (p.vars.length : Int) - 1)) := (fun hq => Or.imp (fun hq => of_decide_eq_false hq) (fun hq => of_decide_eq_false hq) (Bool.and_eq_false_iff.1 hq)) (Eq.mp (bF8 _) h32); refine K5 G (y9 (m9 4 [] (t6 s.target 0 ((p.vars.length : Int) - 1)) y8) (fc h32 (fc (b := true) rfl fz)) [(7, 0), (8, 0), (13, 0), (1014, 0), (16, 1), (17, 1), (18, 1), (22, 1), (1023, 1), (25, 1), (26, 1), (27, 1), (32, 1), (1033, 1), (35, 1), (36, 1), (37, 1), (42, 1), (1043, 1)]) [(88, bA true)] [wO ((p.vars.length : Int) - 1)] (o1 (by omega)) fun G => b6 (rT G true (by kernel_rfl) (wp_seq (l5 G f7 [] fun G => b6 (wp_ret (j8 ?_))))); exact w8 false G (rg 8) (by rw [d9 (by (rw [A7 (by omega), decide_eq_false (by omega)]; rfl))]; done) (by show _ = mR (rg 8) (j9 p d s c); unfold j9; rw [d9 (by (rw [A7 (by omega), decide_eq_false (by omega)]; rfl))] <;> rfl)
  · have q0 := Y0 h0; refine l5 G (H2 (fc h0 fz) [(5, 0), (6, 0), (1007, 0)]) [(27, bA true)] fun G => b6 (rT G true (by kernel_rfl) (wp_seq (l5 G f7 [] fun G => b6 (wp_ret (j8 ?_))))); exact w8 false G (rg 8) (by simp [ab8 (d := d + 1) (s := s) (show 60 < c + 1 by omega)]; done) (by show _ = mR (rg 8) (j9 p d s c); unfold j9; have e1 : (((s6 p.vars.length p.arrays.length (d + 1) c s).snd : Int) : Int) = ((c : Int) + 1) := (by simp [ab8 (d := d + 1) (s := s) (show 60 < c + 1 by omega)]; done); (first | rw [e1] | simp only [e1]) <;> rfl)
theorem bc2 (p : f5) : ∀ (d : Nat), d ≤ 5 → ∀ (ss : List b8) (c : Nat) (n : Int), c ≤ 60 → n = 6 - (d : Int) → i6.ok Try.prog (aM6 p d c ss n) := by
 intro d
 induction d with
 | zero => intro hd ss c n hc hn; exact aJ7 p 0 hd (fun s c n hc hn => bj7 p s c hc n (by omega)) ss c n hc hn
 | succ d ih => intro hd ss c n hc hn; exact aJ7 p (d + 1) hd (fun s c n hc hn => bj6 p d (by omega) (ih (by omega)) s c n hc (by omega)) ss c n hc hn
theorem aJ8 (p : f5) (n : Int) (hn : n = 1) : i6.ok Try.prog ⟨111, [pA 0, .ref 2, iA n, .ptr 3 0], pS p ++ [.box [iA 0]], pS p ++ [.box [iA (j3 p.vars.length p.arrays.length 5 0 p.body).2]], bA (j3 p.vars.length p.arrays.length 5 0 p.body).1⟩ :=
 i6.dup (S := pS p ++ [.box [iA 0]]) (S' := pS p ++ [.box [iA (j3 p.vars.length p.arrays.length 5 0 p.body).2]]) (d := .stmts p.body) (i := 2) (bc2 p 5 (by omega) p.body 0 n (by omega) (by omega)) rfl rfl rfl (fun ρ h => by simp only [AV.vals, AV.val]; rw [show ρ 4 = ρ 2 from h]) rfl
theorem am8 (p : f5) : i6.ok Try.prog (J3 75 [pA 0] (pS p) (bA (F2 p))) := by
 refine E2 15 Try.func75 [dI p.vars, dI p.arrays, dT p.body] [(0, pA 0)] fun G => ?_; refine wp_seq (j7 G f7 (rg 4) [dI p.vars, dI p.arrays, dT p.body, .box (pL 0)] [(1, .ptr 3 0), (2, bA false)] fun G => b6 (wp_seq (j7 G f7 (rg 5) [dI p.vars, dI p.arrays, dT p.body, .box (pL 0), .box [iA 0]] [(1, .ptr 3 0), (2, bA false), (3, .ptr 4 0)] fun G => b6 (wp_seq ?_)))); cases h0 : (A5 p.vars p.arrays)
 ·refine j7 G (y9 (m9 4 [0, 1] (at7 p.vars p.arrays) y8) (fc h0 fz) (us [(6, 9, 0), (1010, 1010, 0)])) [0, 1, 2] [dI p.vars, dI p.arrays, dT p.body] [(2, bA false)] fun G => b6 (wp_ret ?_); exact w8 false G [0, 1, 2] (al5 (by assumption))
 ·refine j7 G (y9 (m9 4 [0, 1] (at7 p.vars p.arrays) (m9 9 [0, 1, 2, 4] (aJ8 p 1 (by kernel_rfl)) y8)) (fc h0 fz) (us [(6, 9, 0), (1010, 1010, 0)])) [0, 1, 2] [dI p.vars, dI p.arrays, dT p.body] [(2, bA (j3 p.vars.length p.arrays.length 5 0 p.body).fst)] fun G => b6 (wp_ret ?_); exact w8 ((j3 p.vars.length p.arrays.length 5 0 p.body).fst) G [0, 1, 2] (by rw [← aF3 (p := p) (by assumption)])
end Go.Proofs.Ytmokkddidcmglaa
