/- Part 5: functions on the way, plain laws. Conditions: as said. -/
import Derived.Deep.LoopGhost
import Derived.IntWalk
import Derived.WalkSpells
import Derived.Lib.SliceRun
import Derived.Test.YtmokkddidcmglaaGreatK1
import Derived.Test.YtmokkddidcmglaaGreatK4
set_option maxRecDepth 100000
set_option maxHeartbeats 16000000
set_option linter.unusedVariables false
set_option linter.unusedSimpArgs false
open Array renaming replicate → cd9
open Bool renaming and_eq_true → cb0, eq_iff_iff → ce0, not_eq_true' → cf0, or_eq_true → cf9
open Inhabited renaming default → ca9
open Int renaming mul_le_mul_of_nonneg_right → cf6
open List renaming all_eq_true → cb9, eq_nil_of_length_eq_zero → cc8, getD_eq_getElem?_getD → cb3, getElem?_append_left → cd5, getElem?_eq_getElem → ca8, getElem?_eq_none → cd6, getElem?_eq_some_iff → cb6, getElem_mem → cd1, length_append → cb2, length_cons → cb8, length_nil → cc1, length_set → cd2, map_cons → cd7, mem_append → cc4, mem_cons → ce7, mem_cons_of_mem → ce5, mem_cons_self → ce6, mem_of_getElem? → cc3, mem_range → ce9, mem_singleton → cd4, nil_append → cf8, range → cc5, take → cc0, take_of_length_le → cc6
open Nat renaming add_zero → cf3, le_refl → cb1, le_trans → cd3, lt_of_lt_of_le → cf1, lt_or_ge → cc9, mul_le_mul_right → ce8, zero_add → cf2, zero_le → cc7
open Option renaming isSome_iff_exists → cf5, map_eq_some_iff → cb7
open True renaming intro → cc2

namespace Go.Proofs.YtmokkddidcmglaaGreat
open Go Go.RowKit
def pf {β : Type} (wr : Ac → Option β) : List Ac → Nat → (Nat → Bool) → β → β
 | [], _, _, v => v
 | a :: r, k, B, v => pf wr r (k + 1) B (match wr a with | some x => if B k then x else v | none => v)
theorem S6 {β : Type} {wr : Ac → Option β} {B B' : Nat → Bool} : ∀ {az : List Ac} {k : Nat} {v : β}, (∀ j a, az[j]? = some a → (wr a).isSome = true → B (k + j) = B' (k + j)) → pf wr az k B v = pf wr az k B' v
 | [], _, _, _ => rfl
 | a :: r, k, v, h => by
  simp only [pf]
  have h0 := h 0 a rfl
  have hr : ∀ j b, r[j]? = some b → (wr b).isSome = true → B (k + 1 + j) = B' (k + 1 + j) := fun j b hb hw => by
   have := h (j + 1) b (by simpa using hb) hw
   rw [show k + (j + 1) = k + 1 + j by omega] at this; exact this
  cases hw : wr a with
  | none => exact S6 hr
  | some x =>
   rw [hw] at h0
   simp only [cf3, Option.isSome_some, forall_const] at h0
   rw [h0]
   exact S6 hr
theorem Z3 {β : Type} {wr : Ac → Option β} {B : Nat → Bool} : ∀ {az : List Ac} {k : Nat} {v : β}, (∀ j a, az[j]? = some a → (wr a).isSome = true → B (k + j) = false) → pf wr az k B v = v
 | [], _, _, _ => rfl
 | a :: r, k, v, h => by
  simp only [pf]
  have h0 := h 0 a rfl
  have hr : ∀ j b, r[j]? = some b → (wr b).isSome = true → B (k + 1 + j) = false := fun j b hb hw => by
   have := h (j + 1) b (by simpa using hb) hw
   rw [show k + (j + 1) = k + 1 + j by omega] at this; exact this
  rw [Z3 hr]
  cases hw : wr a with
  | none => rfl
  | some x =>
   rw [hw] at h0
   simp only [cf3, Option.isSome_some, forall_const] at h0
   simp [h0]
theorem aO4 {β : Type} {wr : Ac → Option β} {B : Nat → Bool} : ∀ {az : List Ac} {k i : Nat} {v x : β} {a : Ac}, az[i]? = some a → wr a = some x → B (k + i) = true → (∀ j b, i < j → az[j]? = some b → (wr b).isSome = true → B (k + j) = false) → pf wr az k B v = x
 | [], _, _, _, _, _, h, _, _, _ => by simp at h
 | b :: r, k, 0, v, x, a, h, hw, hB, hn => by
  simp at h; subst h
  simp only [pf, hw]
  rw [cf3] at hB
  rw [hB, if_pos rfl]
  refine Z3 fun j c hc hs => ?_
  have := hn (j + 1) c (by omega) (by simpa using hc) hs
  rw [show k + (j + 1) = k + 1 + j by omega] at this; exact this
 | b :: r, k, i + 1, v, x, a, h, hw, hB, hn => by
  simp only [pf]
  refine aO4 (i := i) (by simpa using h) hw (by rw [show k + 1 + i = k + (i + 1) by omega]; exact hB) fun j c hj hc hs => ?_
  have := hn (j + 1) c (by omega) (by simpa using hc) hs
  rw [show k + (j + 1) = k + 1 + j by omega] at this; exact this
theorem ao4 {β : Type} {wr : Ac → Option β} {B : Nat → Bool} (p : β → Prop) : ∀ {az : List Ac} {k : Nat} {v : β}, p v → (∀ j a x, az[j]? = some a → B (k + j) = true → wr a = some x → p x) → p (pf wr az k B v)
 | [], _, _, h, _ => h
 | a :: r, k, v, h, hs => by
  simp only [pf]
  refine ao4 p ?_ fun j b x hb hB hw => hs (j + 1) b x (by simpa using hb) (by rw [show k + (j + 1) = k + 1 + j by omega]; exact hB) hw
  cases hw : wr a with
  | none => exact h
  | some x =>
   simp only
   split
   ·rename_i hB; exact hs 0 a x rfl (by simpa using hB) hw
   ·exact h
def aD7 : List (Nat × It) → Nat → Option It
 | [], _ => none
 | (k, x) :: r, i => if i = k then some x else aD7 r i
theorem aq8 (S : Nat → It) (i : Nat) : ∀ (l : List (Nat × It)), l8 S l i = match aD7 l i with | some x => x | none => S i
 | [] => rfl
 | (k, x) :: r => by simp only [l8, aD7]; split; rfl; exact aq8 S i r
theorem R2 {l : List (Nat × It)} {i : Nat} {x : It} (h : aD7 l i = some x) : (i, x) ∈ l := by
 induction l with
 | nil => cases h
 | cons p r ih =>
  obtain ⟨k, y⟩ := p
  simp only [aD7] at h
  split at h
  ·rename_i e; cases h; rw [e]; exact ce6
  ·exact ce5 _ (ih h)
def wrT (t : Nat) (a : Ac) : Option (Option AV) := if a.dst = some t then some (some a.t.res) else none
def wrS (i : Nat) (a : Ac) : Option It := aD7 a.t.new i
def tmD (az : List Ac) (B : Nat → Bool) (tm : Nat → Option AV) : Nat → Option AV := fun t => pf (wrT t) az 0 B (tm t)
def sD (az : List Ac) (B : Nat → Bool) (S : Nat → It) : Nat → It := fun i => pf (wrS i) az 0 B (S i)
def bef (ms : List Nat) (j i : Nat) : Bool := (nth ms i).testBit j
def a89 (ms : List Nat) (o : Oper) : Nat := o.after.foldl (fun s e => if Region.binds .any e then s ||| (2 ^ e.on ||| nth ms e.on) else s) 0
def aP0 (ms : List Nat) (l : List Oper) : Bool := (cc5 l.length).all fun i => match l[i]? with | some o => natEq (nth ms i) (a89 ms o) | none => false
def ae3 (a b : Ac) : Bool :=
 (match b.dst with | some t => memN t a.rt || (match a.dst with | some s => natEq s t | none => false) | none => false) ||
 b.t.new.any (fun p => memN p.1 a.ri || a.t.new.any fun q => natEq q.1 p.1)
def bP6 (ms : List Nat) (az : List Ac) : Bool :=
 (cc5 az.length).all fun i => (cc5 az.length).all fun j =>
  match az[i]?, az[j]? with
  | some a, some b => natEq i j || !ae3 a b || (if decide (j < i) then bef ms j i else bef ms i j)
  | _, _ => false
def bI1 (S : Nat → It) (az : List Ac) (j : Nat) : Nat := match az.findSome? (wrS j) with
 | some x => knd x
 | none => knd (S j)
def bq5 (ms : List Nat) (S : Nat → It) (az : List Ac) : Bool :=
 (cc5 az.length).all fun i =>
  match az[i]? with
  | some a => a.rk.all fun j => az.all (fun b => match wrS j b with | some x => natEq (knd x) (bI1 S az j) | none => true) && (natEq (knd (S j)) (bI1 S az j) || (cc5 i).any fun k => bef ms k i && match az[k]? with | some b => (wrS j b).isSome | none => false)
  | none => true
theorem bg3 {β : Type} {wr : Ac → Option β} {B : Nat → Bool} (p : β → Prop) : ∀ {az : List Ac} {k : Nat} {v : β}, (∀ (j : Nat) (a : Ac) (x : β), az[j]? = some a → wr a = some x → p x) → (p v ∨ ∃ (j : Nat) (a : Ac), az[j]? = some a ∧ (wr a).isSome = true ∧ B (k + j) = true) → p (pf wr az k B v)
 | [], _, _, _, h => by rcases h with h | ⟨j, a, h, _⟩; exact h; simp at h
 | a :: r, k, v, hs, h => by
  simp only [pf]
  refine bg3 p (fun j b x hb => hs (j + 1) b x (by simpa using hb)) ?_
  rcases h with h | ⟨j, b, h1, h2, h3⟩
  ·left
   cases hw : wr a with
   | none => exact h
   | some x =>
    simp only
    split
    ·exact hs 0 a x rfl hw
    ·exact h
  ·cases j with
   | zero =>
    left
    simp at h1; subst h1
    obtain ⟨x, hx⟩ := cf5.1 h2
    rw [hx]
    rw [cf3] at h3
    simp only [h3, if_true]
    exact hs 0 _ x rfl hx
   | succ j =>
    right
    exact ⟨j, b, by simpa using h1, h2, by rw [show k + 1 + j = k + (j + 1) by omega]; exact h3⟩
theorem be0 {ms : List Nat} {S : Nat → It} {az : List Ac} (h : bq5 ms S az = true) {i : Nat} {a : Ac} (ha : az[i]? = some a) {j : Nat} (hj : j ∈ a.rk) {B : Nat → Bool} (hB : ∀ k, k < i → bef ms k i = true → B k = true) : knd (pf (wrS j) az 0 B (S j)) = bI1 S az j := by
 have hi := (cb6.1 ha).1
 have h1 := cb9.1 h i (ce9.2 hi)
 rw [ha] at h1
 have h2 := cb9.1 h1 j hj
 simp only [cb0, cf9] at h2
 refine bg3 (fun x => knd x = bI1 S az j) (fun q b x hb hx => ?_) ?_
 ·have := cb9.1 h2.1 b (cc3 hb)
  rw [hx] at this
  simpa [natEq] using this
 ·rcases h2.2 with h3 | h3
  ·left; simpa [natEq] using h3
  ·right
   obtain ⟨k, hk, h4⟩ := List.any_eq_true.1 h3
   rw [ce9] at hk
   simp only [cb0] at h4
   cases hb : az[k]? with
   | none => rw [hb] at h4; cases h4.2
   | some b =>
    rw [hb] at h4
    exact ⟨k, b, hb, h4.2, by rw [cf2]; exact hB k hk h4.1⟩
def bw6 (ms : List Nat) (n0 : Nat) (az : List Ac) : Bool :=
 (cc5 az.length).all fun i =>
  match az[i]? with
  | some a => (a.t.res.ids ++ a.t.new.map (·.1) ++ a.t.new.flatMap (fun p => p.2.ids)).all fun id => decide (id < n0) || natEq ((id - n0) / 8) i || bef ms ((id - n0) / 8) i
  | none => false
section
variable {P : Program} {ι : Type} {φ ψ : Nat → Prop} {w0 w w' : World} {F : ι → Rs} {ρ : Nat → Value} {S : Nat → It} {N n : Nat}
theorem al5 {α β : Type} {f g : α → Option β} : ∀ {l : List α}, (∀ x ∈ l, f x = g x) → l.filterMap f = l.filterMap g
 | [], _ => rfl
 | a :: r, h => by rw [List.filterMap_cons, List.filterMap_cons, h a ce6, al5 fun x hx => h x (ce5 _ hx)]
theorem au3 {ops : List Oper} {H : R5} {tm tm' : Nat → Option AV} {i : Nat} {o : Oper} (h : ∀ t ∈ aQ9 ops o, tm' t = tm t) : az5 ops H tm' i o = az5 ops H tm i o := by
 unfold az5
 unfold aQ9 at h
 cases hg : o.guard with
 | none => rfl
 | some q =>
  obtain ⟨j, want⟩ := q
  rw [hg] at h
  simp only at h ⊢
  cases hd : (ops[j]?).bind (·.dst) with
  | none => rfl
  | some t =>
   rw [hd] at h
   simp only at h ⊢
   rw [h t (by simp)]
theorem bl1 {dk : TypeId → Nat} {H : R5} {ops : List Oper} {i : Nat} {o : Oper} {tm tm' : Nat → Option AV} {S S' : Nat → It} {ac : Ac} {ob : List Prop} (h : opA P dk N ops H i o tm S n = some (ac, ob)) (ht : ∀ t ∈ ac.rt, tm' t = tm t) (hs : ∀ j ∈ ac.ri, S' j = S j) (hk : ∀ j ∈ ac.rk, knd (S' j) = knd (S j)) : opA P dk N ops H i o tm' S' n = some (ac, ob) := by
 unfold opA at h ⊢
 split at h
 case isFalse => cases h
 rename_i hd
 rw [if_pos hd]
 cases hw : az5 ops H tm i o with
 | none => rw [hw] at h; cases h
 | some q =>
  obtain ⟨b, lq, rq⟩ := q
  rw [hw] at h
  cases b
  ·simp only at h
   cases h
   rw [au3 (tm := tm) ht, hw]
  ·simp only at h
   cases hr : aB5 P dk H tm S n i o.op with
   | none => rw [hr] at h; cases h
   | some t =>
    rw [hr] at h
    simp only at h
    split at h
    case isFalse => cases h
    rename_i hf
    cases h
    simp only at ht hs hk
    rw [au3 (tm := tm) fun t ht' => ht t (List.mem_append_right _ ht'), hw]
    have e1 : rtm tm' (opT o.op) = rtm tm (opT o.op) := by
     funext t
     unfold rtm
     split
     ·rename_i hm; exact ht t (List.mem_append_left _ (t3.1 hm))
     ·rfl
    have e2 : tch tm' o.op = tch tm o.op := by
     have e9 : U0 tm' (opT o.op) = U0 tm (opT o.op) := by
      unfold U0
      congr 1
      exact al5 fun t ht' => ht t (List.mem_append_left _ ht')
     cases ho' : o.op <;> simp only [tch] <;> rw [← ho'] <;> first | rw [e1, e9] | exact e9
    have e8 : wk tm' o.op = wk tm o.op := by
     have e9 : U0 tm' (opT o.op) = U0 tm (opT o.op) := by
      unfold U0
      congr 1
      exact al5 fun t ht' => ht t (List.mem_append_left _ ht')
     cases ho' : o.op <;> simp only [wk] <;> rw [← ho', e1, e9]
    have e3 : aB5 P dk H tm' S' n i o.op = aB5 P dk H tm S n i o.op := by
     unfold aB5
     cases hc : L5 H.calls i with
     | none =>
      simp only
      rw [e1, e2, e8, br5 (fun j hj => hs j (List.mem_append_left _ hj)) hk]
     | some q =>
      obtain ⟨c, τ⟩ := q
      simp only
      rw [e1, e2]
      congr 1
      funext j
      unfold rS
      split
      ·rename_i hm
       refine hs j ?_
       unfold bi5
       rw [hc]; exact t3.1 hm
      ·rfl
    have e4 : a82 H tm' S' n i o.op = a82 H tm S n i o.op := by
     unfold a82
     cases hc : L5 H.calls i with
     | none => simp only; rw [e1]
     | some q =>
      obtain ⟨c, τ⟩ := q
      simp only
      rw [e1, e2]
      congr 1
      funext j
      unfold rS
      split
      ·rename_i hm
       refine hs j ?_
       unfold bi5
       rw [hc]; exact t3.1 hm
      ·rfl
    rw [e3, hr, e4]
    simp only
    rw [e2, e8, if_pos hf]
theorem bG8 {dk : TypeId → Nat} {H : R5} (hH : ∀ i c τ, L5 H.calls i = some (c, τ) → c.ok P) (hF : P4 H.facts) {ops : List Oper} {i : Nat} {o : Oper} {tm : Nat → Option AV} {a : Act} (hv : ∀ t x, tm t = some x → a.tmps[t]? = some (x.val ρ)) (M : j5 φ ψ w0 w (l7 F ρ S)) {ac : Ac} {obs : List Prop} (h : opA P dk N ops H i o tm S n = some (ac, obs)) (ho : v6 obs) (he : ac.eqs.1 = ac.eqs.2) (hw' : ac.eqw.1 = ac.eqw.2)
  (hmk : ∀ j ∈ ac.t.made, S j = .none) (hi : Inv S ρ ac.t.made)
  {Q : Exit → Act → World → Prop} {rest : List Oper} (hk : ∀ ρ' w', C2 ac.t.made ρ ρ' → j5 φ ψ w0 w' (l7 F ρ' (l8 S ac.t.new)) → wpList P ops.toArray Q rest (a.put o.dst (ac.t.res.val ρ')) w') : wpList P ops.toArray Q (o :: rest) a w := by
 unfold opA at h
 split at h
 case isFalse => cases h
 rename_i hd
 split at h
 case h_1 => cases h
 ·rename_i l r hw
  cases h
  refine be9 (an2 (ρ := ρ) hF hw hw' fun t y _ hy => hv t y hy) ?_
  exact hk ρ w (C2.refl _ _) (by simpa [bQ5, l8] using M)
 ·rename_i l r hw
  split at h
  case h_1 => cases h
  rename_i t ht
  split at h
  case isFalse => cases h
  rename_i hf
  cases h
  simp only [cb0] at hf
  refine K1.wp (an2 (ρ := ρ) hF hw hw' fun t y _ hy => hv t y hy) ?_
  refine (aY2 M hH hF (fun t y _ hy => hv t y hy) ht ho he hmk hi (fun j hj => ?_)).mono ?_
  ·obtain ⟨p, hp, rfl⟩ := List.mem_map.1 hj
   have := cb9.1 hf.2 p hp
   simp only [cf9] at this
   exact this.imp t3.1 t3.1
  ·rintro v w' ⟨ρ', p1, p2, rfl⟩
   exact hk ρ' w' p1 p2
theorem bf9 {dk : TypeId → Nat} {H : R5} {ops : List Oper} : ∀ (l : List Oper) (i n : Nat) {tm : List (Nat × AV)} {S : Nat → It} {r : RS}, U6 P dk N ops H l i tm S n = some r → v6 r.obs →
  r.acts.length = l.length ∧ (∀ t, z9 r.tm t = pf (wrT t) r.acts i (fun _ => true) (z9 tm t)) ∧ (∀ j, r.S j = pf (wrS j) r.acts i (fun _ => true) (S j)) ∧
  ∀ k o, l[k]? = some o → ∃ ac ob, r.acts[k]? = some ac ∧ v6 ob ∧ opA P dk N ops H (i + k) o (fun t => pf (wrT t) r.acts i (fun j => decide (j < i + k)) (z9 tm t)) (fun j => pf (wrS j) r.acts i (fun q => decide (q < i + k)) (S j)) (n + 8 * k) = some (ac, ob)
 | [], i, n, tm, S, r, h, _ => by cases h; exact ⟨rfl, fun _ => rfl, fun _ => rfl, fun k o h => by simp at h⟩
 | o :: l, i, n, tm, S, r, h, ho => by
  simp only [U6] at h
  split at h
  case h_1 => cases h
  rename_i ac ob h1
  split at h
  case h_1 => cases h
  rename_i s h2
  cases h
  simp only [v6.append] at ho
  obtain ⟨k1, k2, k3, k4⟩ := bf9 l (i + 1) (n + 8) h2 ho.2
  have eT : ∀ t, z9 (a73 ac.dst ac.t.res tm) t = match wrT t ac with | some x => x | none => z9 tm t := fun t => by
   rw [aK2]
   simp only [aG5, wrT]
   split <;> rfl
  have eS : ∀ j, l8 S ac.t.new j = match wrS j ac with | some x => x | none => S j := fun j => aq8 S j _
  refine ⟨by simp [k1], fun t => ?_, fun j => ?_, fun k o' hk => ?_⟩
  ·rw [k2 t, eT]; simp only [pf]; cases wrT t ac <;> rfl
  ·rw [k3 j, eS]; simp only [pf]; cases wrS j ac <;> rfl
  ·cases k with
   | zero =>
    simp at hk; subst hk
    refine ⟨ac, ob, rfl, ho.1, ?_⟩
    have e1 : (fun t => pf (wrT t) (ac :: s.acts) i (fun j => decide (j < i + 0)) (z9 tm t)) = z9 tm := by
     funext t; exact Z3 fun j a _ _ => by simp
    have e2 : (fun j => pf (wrS j) (ac :: s.acts) i (fun q => decide (q < i + 0)) (S j)) = S := by
     funext j; exact Z3 fun j a _ _ => by simp
    rw [e1, e2]; exact h1
   | succ k =>
    obtain ⟨ac', ob', m1, m2, m3⟩ := k4 k o' (by simpa using hk)
    refine ⟨ac', ob', by simpa using m1, m2, ?_⟩
    have hi : decide (i < i + (k + 1)) = true := by simp
    have e1 : (fun t => pf (wrT t) (ac :: s.acts) i (fun j => decide (j < i + (k + 1))) (z9 tm t)) = fun t => pf (wrT t) s.acts (i + 1) (fun j => decide (j < i + 1 + k)) (z9 (a73 ac.dst ac.t.res tm) t) := by
     funext t
     rw [eT]
     simp only [pf, hi, if_true]
     rw [show i + (k + 1) = i + 1 + k by omega]
     cases wrT t ac <;> rfl
    have e2 : (fun j => pf (wrS j) (ac :: s.acts) i (fun q => decide (q < i + (k + 1))) (S j)) = fun j => pf (wrS j) s.acts (i + 1) (fun q => decide (q < i + 1 + k)) (l8 S ac.t.new j) := by
     funext j
     rw [eS]
     simp only [pf, hi, if_true]
     rw [show i + (k + 1) = i + 1 + k by omega]
     cases wrS j ac <;> rfl
    rw [e1, e2, show i + (k + 1) = i + 1 + k by omega, show n + 8 * (k + 1) = n + 8 + 8 * k by omega]
    exact m3
def bC4 (l : List Oper) (B : Nat → Bool) : Prop := ∀ j o, l[j]? = some o → B j = true → ∀ e ∈ o.after, Region.binds .any e = true → B e.on = true
theorem aC0 {ms : List Nat} {o : Oper} {j : Nat} (h : (a89 ms o).testBit j = true) : ∃ e ∈ o.after, Region.binds .any e = true ∧ (e.on = j ∨ bef ms j e.on = true) := by
 unfold a89 at h
 rw [← Array.foldl_toList] at h
 have key : ∀ (es : List Edge) (s : Nat), (es.foldl (fun s e => if Region.binds .any e then s ||| (2 ^ e.on ||| nth ms e.on) else s) s).testBit j = true → s.testBit j = true ∨ ∃ e ∈ es, Region.binds .any e = true ∧ (e.on = j ∨ bef ms j e.on = true) := by
  intro es
  induction es with
  | nil => intro s h; exact .inl h
  | cons e r ih =>
   intro s h
   simp only [List.foldl_cons] at h
   rcases ih _ h with h1 | ⟨e', he', h2⟩
   ·split at h1
    ·rename_i hb
     simp only [Nat.testBit_or, cf9, Nat.testBit_two_pow, decide_eq_true_eq] at h1
     rcases h1 with h1 | h1 | h1
     ·exact .inl h1
     ·exact .inr ⟨e, ce6, hb, .inl h1⟩
     ·exact .inr ⟨e, ce6, hb, .inr h1⟩
    ·exact .inl h1
   ·exact .inr ⟨e', ce5 _ he', h2⟩
 rcases key _ _ h with h1 | ⟨e, he, h2⟩
 ·simp at h1
 ·exact ⟨e, by simpa using he, h2⟩
theorem aF4 {ms : List Nat} {l : List Oper} (hm : aP0 ms l = true) (hb : ah1 l.toArray = true) {B : Nat → Bool} (hc : bC4 l B) : ∀ i, i < l.length → B i = true → ∀ j, bef ms j i = true → B j = true := by
 intro i
 induction i using Nat.strongRecOn with
 | _ i ih =>
  intro hi hB j hj
  have h1 := cb9.1 hm i (ce9.2 hi)
  rw [ca8 hi] at h1
  simp only [natEq, beq_iff_eq] at h1
  unfold bef at hj
  rw [h1] at hj
  obtain ⟨e, he, h2, h3⟩ := aC0 hj
  have h4 := hc i _ (ca8 hi) hB e he h2
  have h5 := aF6 hb (show i < l.toArray.size by simpa using hi) (show l.toArray[i]? = some l[i] by simp [hi]) he h2
  rcases h3 with rfl | h3
  ·exact h4
  ·exact ih e.on h5 (by omega) h4 j h3
theorem bp1 {ms : List Nat} {l : List Oper} (hm : aP0 ms l = true) (hb : ah1 l.toArray = true) {B : Nat → Bool} (hc : bC4 l B) {i : Nat} {o : Oper} (ho : l[i]? = some o) (hr : ∀ e ∈ o.after, Region.binds .any e = true → B e.on = true) {j : Nat} (hj : bef ms j i = true) : B j = true := by
 have hi := (cb6.1 ho).1
 have h1 := cb9.1 hm i (ce9.2 hi)
 rw [ho] at h1
 simp only [natEq, beq_iff_eq] at h1
 unfold bef at hj
 rw [h1] at hj
 obtain ⟨e, he, h2, h3⟩ := aC0 hj
 have h5 := aF6 hb (show i < l.toArray.size by simpa using hi) (show l.toArray[i]? = some o by simpa using ho) he h2
 rcases h3 with rfl | h3
 ·exact hr e he h2
 ·exact aF4 hm hb hc e.on (by omega) (hr e he h2) j h3
end
section
variable {P : Program} {ι : Type} {φ ψ : Nat → Prop} {w0 w w' : World} {F : ι → Rs} {ρ : Nat → Value} {S : Nat → It} {N m n : Nat} {ρ0 : Nat → Value}
theorem a49 {l : List Oper} {Q : Exit → Act → World → Prop} (I : Array Bool → Act → World → Prop) (hb : ah1 l.toArray = true)
  (step : ∀ listed a w, I listed a w → ∀ i o, l[i]? = some o → listed.getD i true = false → (∀ e ∈ o.after, Region.binds .any e = true → listed.getD e.on false = true) →
   ∀ Q' : Exit → Act → World → Prop, (∀ a w, I (listed.setIfInBounds i true) a w → Q' .normal a w) → wpList P l.toArray Q' [o] a w)
  (done : ∀ listed a w, I listed a w → (∀ j, j < l.length → listed.getD j true = true) → Q .normal a w) :
  ∀ (fuel : Nat) (listed : Array Bool) (a : Act) (w : World), listed.size = l.toArray.size → listed.toList.count false = fuel → I listed a w → wpAny P .any l.toArray Q fuel listed a w := by
 have hfin : ∀ (listed : Array Bool) (a : Act) (w : World), listed.size = l.toArray.size → Region.ready .any l.toArray listed = [] → I listed a w → Q .normal a w := by
  intro listed a w hsz hr hI
  refine done listed a w hI fun j hj => ?_
  cases hl : listed.getD j true
  ·exact absurd hr (aV7 hb hsz j (by simpa using hj) hl)
  ·rfl
 intro fuel
 induction fuel with
 | zero =>
  intro listed a w hsz hc hI
  have hr : Region.ready .any l.toArray listed = [] := by
   rw [List.eq_nil_iff_forall_not_mem]
   intro j hj
   have := E9 (mem_ready.1 hj).1
   omega
  exact ⟨hr, hfin listed a w hsz hr hI⟩
 | succ f ih =>
  intro listed a w hsz hc hI
  refine ⟨fun hr => hfin listed a w hsz hr hI, fun i hi => ?_⟩
  obtain ⟨h1, o, ho, h2⟩ := mem_ready.1 hi
  have ho' : l[i]? = some o := by simpa using ho
  have hcl := E9 h1
  have hs := step listed a w hI i o ho' h1 h2 (fun e a w => e = .normal ∧ I (listed.setIfInBounds i true) a w) fun a w h => ⟨rfl, h⟩
  unfold wpOp
  rw [ho]
  simp only
  unfold wpList at hs
  split
  ·rename_i hw
   rw [if_pos hw] at hs
   rcases hs with hs | ⟨_, a, w, he, _⟩
   ·exact .inl (aq6 (fun _ _ _ h => h.1) (Oper.wp_mono (fun a' w' h => ih _ a' w' (by simpa using hsz) (by omega) h.2) hs))
   ·cases he
  ·rename_i hw
   rw [if_neg hw] at hs
   exact ih _ _ _ (by simpa using hsz) (by omega) hs.2
theorem az4 {id : Nat} {l : List Oper} {Q : Exit → Act → World → Prop} {a : Act} {w : World} (I : Array Bool → Act → World → Prop) (hm : P.follows .mixedOrders = true) (hb : ah1 l.toArray = true)
  (h0 : I (cd9 l.length false) a w.drew)
  (step : ∀ listed a w, I listed a w → ∀ i o, l[i]? = some o → listed.getD i true = false → (∀ e ∈ o.after, Region.binds .any e = true → listed.getD e.on false = true) →
   ∀ Q' : Exit → Act → World → Prop, (∀ a w, I (listed.setIfInBounds i true) a w → Q' .normal a w) → wpList P l.toArray Q' [o] a w)
  (done : ∀ listed a w, I listed a w → (∀ j, j < l.length → listed.getD j true = true) → Q .normal a w) : (Code.region id l.toArray true).wp P Q a w :=
 wp_region_any hm (a49 I hb step done _ _ _ _ (by simp) (by simp) (by simpa using h0))
def RI (φ ψ : Nat → Prop) (w0 : World) (F : ι → Rs) (N m : Nat) (ρ0 : Nat → Value) (l : List Oper) (az : List Ac) (tm : Nat → Option AV) (S : Nat → It) (listed : Array Bool) (a : Act) (w : World) : Prop :=
 listed.size = l.length ∧ bC4 l (fun j => listed.getD j false) ∧ ∃ ρ, (∀ i, i < m → ρ i = ρ0 i) ∧ a.tmps.size = N ∧ a.defers = [] ∧ (∀ t x, tmD az (fun j => listed.getD j false) tm t = some x → a.tmps[t]? = some (x.val ρ)) ∧ j5 φ ψ w0 w (l7 F ρ (sD az (fun j => listed.getD j false) S))
theorem a80 {ms : List Nat} {az : List Ac} (h : bP6 ms az = true) {i j : Nat} {a b : Ac} (ha : az[i]? = some a) (hb : az[j]? = some b) (hij : i ≠ j) (hm : ae3 a b = true) : (j < i → bef ms j i = true) ∧ (i < j → bef ms i j = true) := by
 have hi := (cb6.1 ha).1
 have hj := (cb6.1 hb).1
 have h1 := cb9.1 (cb9.1 h i (ce9.2 hi)) j (ce9.2 hj)
 rw [ha, hb] at h1
 have hne : natEq i j = false := by simp [natEq, hij]
 simp only [hne, hm, Bool.not_true, Bool.false_or] at h1
 constructor
 ·intro hlt; rw [if_pos (by simpa using hlt)] at h1; exact h1
 ·intro hlt; rw [if_neg (by simp; omega)] at h1; exact h1
theorem bg9 {ms : List Nat} {n0 : Nat} {az : List Ac} (h : bw6 ms n0 az = true) {i : Nat} {a : Ac} (ha : az[i]? = some a) : ∀ id, (id ∈ a.t.res.ids ∨ id ∈ a.t.new.map (·.1) ∨ ∃ p ∈ a.t.new, id ∈ p.2.ids) → id < n0 ∨ (id - n0) / 8 = i ∨ bef ms ((id - n0) / 8) i = true := by
 intro id hid
 have hi := (cb6.1 ha).1
 have h1 := cb9.1 h i (ce9.2 hi)
 rw [ha] at h1
 have h2 := cb9.1 h1 id (by
  rcases hid with h | h | ⟨p, hp, h⟩
  ·exact List.mem_append_left _ (List.mem_append_left _ h)
  ·exact List.mem_append_left _ (List.mem_append_right _ h)
  ·exact List.mem_append_right _ (List.mem_flatMap.2 ⟨p, hp, h⟩))
 simp only [cf9, decide_eq_true_eq, natEq, beq_iff_eq] at h2
 rcases h2 with (h2 | h2) | h2
 ·exact .inl h2
 ·exact .inr (.inl h2)
 ·exact .inr (.inr h2)
theorem aM7 {dk : TypeId → Nat} {H : R5} (hH : ∀ i c τ, L5 H.calls i = some (c, τ) → c.ok P) (hF : P4 H.facts) {l : List Oper} {id : Nat} {Q : Exit → Act → World → Prop} {tm : List (Nat × AV)} {a : Act} {wr : World} (I0 : Inn φ ψ w0 F N m ρ0 n ρ (z9 tm) S a wr) {r : RS} (hrun : U6 P dk N l H l 0 tm S n = some r) (ho : v6 r.obs) (heq : r.acts.map (·.eqs.1) = r.acts.map (·.eqs.2)) (hew : r.acts.map (·.eqw.1) = r.acts.map (·.eqw.2))
  (ms : List Nat) (hm : P.follows .mixedOrders = true) (hb : ah1 l.toArray = true) (hms : aP0 ms l = true) (hord : bP6 ms r.acts = true) (hment : bw6 ms n r.acts = true) (hweak : bq5 ms S r.acts = true)
  (done : ∀ ρ' a' w' n', Inn φ ψ w0 F N m ρ0 n' ρ' (z9 r.tm) r.S a' w' → Q .normal a' w') : (Code.region id l.toArray true).wp P Q a wr := by
 obtain ⟨hlen, hfT, hfS, hat⟩ := bf9 l 0 n hrun ho
 have hmt : ∀ (i : Nat) ac, r.acts[i]? = some ac → ∀ t b, b.dst = some t → t ∈ ac.rt → ae3 ac b = true := fun i ac _ t b hb ht => by
  simp [ae3, hb, t3.2 ht]
 have hmd : ∀ ac b t, ac.dst = some t → b.dst = some t → ae3 ac b = true := fun ac b t h1 h2 => by
  simp [ae3, h1, h2, natEq]
 have hms' : ∀ (ac b : Ac) (j : Nat), j ∈ ac.ri → j ∈ b.t.new.map (·.1) → ae3 ac b = true := fun ac b j h1 h2 => by
  obtain ⟨p, hp, rfl⟩ := List.mem_map.1 h2
  unfold ae3
  have : b.t.new.any (fun p => memN p.1 ac.ri || ac.t.new.any fun q => natEq q.1 p.1) = true := List.any_eq_true.2 ⟨p, hp, by simp [t3.2 h1]⟩
  rw [this]; simp
 have hmn : ∀ (ac b : Ac) (j : Nat), j ∈ ac.t.new.map (·.1) → j ∈ b.t.new.map (·.1) → ae3 ac b = true := fun ac b j h1 h2 => by
  obtain ⟨p, hp, rfl⟩ := List.mem_map.1 h2
  obtain ⟨q, hq, e⟩ := List.mem_map.1 h1
  unfold ae3
  have : b.t.new.any (fun p => memN p.1 ac.ri || ac.t.new.any fun q => natEq q.1 p.1) = true := List.any_eq_true.2 ⟨p, hp, by
   have : ac.t.new.any (fun q => natEq q.1 p.1) = true := List.any_eq_true.2 ⟨q, hq, by simp [natEq, e]⟩
   rw [this]; simp⟩
  rw [this]; simp
 refine az4 (RI φ ψ w0 F N m ρ0 l r.acts (z9 tm) S) hm hb ?_ ?_ ?_
 ·refine ⟨by simp, fun j o _ hj => ?_, ρ, I0.old, I0.size, I0.defs, fun t x hx => ?_, ?_⟩
  ·have hj' : (cd9 l.length false).getD j false = true := hj
   rw [getD_replicate_false] at hj'; cases hj'
  ·refine I0.tmv t x ?_
   rw [← hx]
   exact (Z3 fun j b _ _ => getD_replicate_false _ _).symm
  ·have e : sD r.acts (fun j => (cd9 l.length false).getD j false) S = S := by
    funext j; exact Z3 fun j b _ _ => getD_replicate_false _ _
   rw [e]; exact I0.mem.drew
 ·rintro listed a w ⟨hsz, hdn, ρ, hold, hN, hdf, hv, M⟩ i o hoi hun hdep Q' hQ
  generalize hB : (fun j => listed.getD j false) = B at *
  have hBj : ∀ j, B j = listed.getD j false := fun j => by rw [← hB]
  have hil := (cb6.1 hoi).1
  have hBi : B i = false := by
   rw [hBj, ← bh7 (by omega)]; exact hun
  obtain ⟨ac, ob, hac, hob, hop⟩ := hat i o hoi
  simp only [cf2] at hop
  have heqi : ac.eqs.1 = ac.eqs.2 := by
   have := congrArg (·[i]?) heq
   simpa [hac] using this
  have hewi : ac.eqw.1 = ac.eqw.2 := by
   have := congrArg (·[i]?) hew
   simpa [hac] using this
  obtain ⟨hdst, hdN, hfine⟩ := aO7 hop
  obtain ⟨hf1, hf2, hf3⟩ := ad3 hfine
  have hdep' : ∀ e ∈ o.after, Region.binds .any e = true → B e.on = true := fun e he hbi => by rw [hBj]; exact hdep e he hbi
  have ahead : ∀ j, bef ms j i = true → B j = true := fun j hj => bp1 hms hb hdn hoi hdep' hj
  have behind : ∀ j, j < l.length → bef ms i j = true → B j = false := fun j hjl hj => by
   cases h : B j
   ·rfl
   ·have := aF4 hms hb hdn j hjl h i hj
    rw [hBi] at this; cases this
  have hagree : ∀ (j : Nat) b, r.acts[j]? = some b → ae3 ac b = true → B j = decide (j < i) := fun j b hj hmm => by
   have hjl : j < l.length := by have := (cb6.1 hj).1; omega
   rcases Nat.lt_trichotomy j i with h | h | h
   ·rw [ahead j ((a80 hord hac hj (by omega) hmm).1 h)]; simp [h]
   ·subst h; rw [hBi]; simp
   ·rw [behind j hjl ((a80 hord hac hj (by omega) hmm).2 h)]
    have : ¬ j < i := by omega
    simp [this]
  have hop2 := bl1 hop (tm' := tmD r.acts B (z9 tm)) (S' := sD r.acts B S) (fun t ht => S6 fun j b hj hw => by
    rw [cf2]
    refine hagree j b hj (hmt i ac hac t b ?_ ht)
    unfold wrT at hw
    split at hw
    ·assumption
    ·cases hw)
   (fun q hq => S6 fun j b hj hw => by
    rw [cf2]
    obtain ⟨x, hx⟩ := cf5.1 hw
    exact hagree j b hj (hms' ac b q hq (List.mem_map.2 ⟨_, R2 hx, rfl⟩)))
   (fun q hq => by
    show knd (pf (wrS q) r.acts 0 B (S q)) = _
    rw [be0 hweak hac hq fun k _ hk => ahead k hk, be0 hweak hac hq fun k hk _ => by simpa using hk])
  have hrange : ∀ id, n + 8 * i ≤ id → id < n + 8 * i + 8 → (id - n) / 8 = i := fun id h1 h2 => by omega
  have hmk : ∀ j ∈ ac.t.made, sD r.acts B S j = .none := fun j hj => by
   obtain ⟨g1, g2⟩ := hf2 j hj
   have e : sD r.acts B S j = S j := Z3 fun k b hk hw => by
    rw [cf2]
    obtain ⟨x, hx⟩ := cf5.1 hw
    have hkl : k < l.length := by have := (cb6.1 hk).1; omega
    rcases bg9 hment hk j (.inr (.inl (List.mem_map.2 ⟨_, R2 hx, rfl⟩))) with h | h | h
    ·omega
    ·rw [hrange j g1 g2] at h; subst h; exact hBi
    ·rw [hrange j g1 g2] at h; exact behind k hkl h
   rw [e]; exact (I0.bd j).2 (by omega)
  have hnot : ∀ (k : Nat) b, r.acts[k]? = some b → B k = true → ∀ id, (id ∈ b.t.res.ids ∨ id ∈ b.t.new.map (·.1) ∨ ∃ p ∈ b.t.new, id ∈ p.2.ids) → id ∉ ac.t.made := fun k b hk hBk id hid hm => by
   obtain ⟨g1, g2⟩ := hf2 id hm
   have hkl : k < l.length := by have := (cb6.1 hk).1; omega
   rcases bg9 hment hk id hid with h | h | h
   ·omega
   ·rw [hrange id g1 g2] at h; subst h; rw [hBi] at hBk; cases hBk
   ·rw [hrange id g1 g2] at h; rw [behind k hkl h] at hBk; cases hBk
  have hitem : ∀ j, ∀ id ∈ (sD r.acts B S j).ids, id ∉ ac.t.made := fun j => by
   refine ao4 (fun x : It => ∀ id ∈ x.ids, id ∉ ac.t.made) (fun id hid hm => ?_) fun k b x hk hBk hw id hid => ?_
   ·have := (I0.bd j).1 id hid; have := (hf2 id hm).1; omega
   ·rw [cf2] at hBk
    exact hnot k b hk hBk id (.inr (.inr ⟨_, R2 hw, hid⟩))
  have htm : ∀ t x, tmD r.acts B (z9 tm) t = some x → ∀ id ∈ x.ids, id ∉ ac.t.made := fun t => by
   refine ao4 (fun y : Option AV => ∀ x, y = some x → ∀ id ∈ x.ids, id ∉ ac.t.made) (fun x hx id hid hm => ?_) fun k b y hk hBk hw x hx id hid => ?_
   ·have := I0.tmi t x hx id hid; have := (hf2 id hm).1; omega
   ·rw [cf2] at hBk
    unfold wrT at hw
    split at hw
    ·cases hw; cases hx
     exact hnot k b hk hBk id (.inl hid)
    ·cases hw
  have hinv : Inv (sD r.acts B S) ρ ac.t.made := fun ρ' ha j => by
   refine It.res_congr _ (fun id hid => ha id (hitem j id hid)) ?_
   by_cases hj : j ∈ ac.t.made
   ·exact .inl (hmk j hj)
   ·exact .inr (.inr (ha j hj))
  refine bG8 hH hF hv M hop2 hob heqi hewi hmk hinv fun ρ' w' ha M' => ?_
  refine hQ _ _ ?_
  have hB' : ∀ j, (listed.setIfInBounds i true).getD j false = if j = i then true else B j := fun j => by
   by_cases e : j = i
   ·subst e
    have : j < listed.size := by omega
    simp [this]
   ·rw [if_neg e, getD_set_ne false (fun h => e h.symm), hBj]
  have hBe : (fun j => (listed.setIfInBounds i true).getD j false) = fun j => if j = i then true else B j := funext hB'
  have later : ∀ (j : Nat) b, i < j → r.acts[j]? = some b → ae3 ac b = true → (if j = i then true else B j) = false := fun j b hij hj hmm => by
   have hjl : j < l.length := by have := (cb6.1 hj).1; omega
   rw [if_neg (by omega)]
   exact behind j hjl ((a80 hord hac hj (by omega) hmm).2 hij)
  have eT : tmD r.acts (fun j => if j = i then true else B j) (z9 tm) = aG5 ac.dst ac.t.res (tmD r.acts B (z9 tm)) := by
   funext t
   simp only [aG5]
   by_cases e : ac.dst = some t
   ·rw [if_pos e]
    refine aO4 (i := i) hac (by simp [wrT, e]) (by simp) fun j b hij hj hw => ?_
    rw [cf2]
    refine later j b hij hj (hmd ac b t e ?_)
    unfold wrT at hw
    split at hw
    ·assumption
    ·cases hw
   ·rw [if_neg e]
    refine S6 fun j b hj hw => ?_
    have : j ≠ i := fun h => by
     subst h
     rw [hac] at hj; cases hj
     simp [wrT, e] at hw
    simp [this]
  have eS : sD r.acts (fun j => if j = i then true else B j) S = l8 (sD r.acts B S) ac.t.new := by
   funext q
   rw [aq8]
   cases hx : aD7 ac.t.new q with
   | some x =>
    refine aO4 (i := i) hac hx (by simp) fun j b hij hj hw => ?_
    rw [cf2]
    obtain ⟨y, hy⟩ := cf5.1 hw
    exact later j b hij hj (hmn ac b q (List.mem_map.2 ⟨_, R2 hx, rfl⟩) (List.mem_map.2 ⟨_, R2 hy, rfl⟩))
   | none =>
    refine S6 fun j b hj hw => ?_
    have : j ≠ i := fun h => by
     subst h
     rw [hac] at hj; cases hj
     unfold wrS at hw
     rw [hx] at hw; cases hw
    simp [this]
  refine ⟨by simpa using hsz, ?_, ρ', fun j hj => (ha j fun hm => by have := (hf2 j hm).1; have := I0.le; omega).trans (hold j hj), (aX0 _ _ _).trans hN, (aX1 _ _ _).trans hdf, ?_, ?_⟩
  ·rw [hBe]
   intro j oj hj hBj' e he hbi
   show (if e.on = i then true else B e.on) = true
   by_cases e1 : e.on = i
   ·simp [e1]
   ·rw [if_neg e1]
    by_cases e2 : j = i
    ·subst e2
     rw [hoi] at hj; cases hj
     exact hdep' e he hbi
    ·simp only [if_neg e2] at hBj'
     exact hdn j oj hj hBj' e he hbi
  ·rw [hBe, eT, hdst]
   intro t x hx
   rw [bu4 (by rw [hN]; exact hdN)]
   simp only [aG5] at hx
   split
   ·rename_i e; rw [if_pos e] at hx; cases hx; rfl
   ·rename_i e
    rw [if_neg e] at hx
    rw [hv t x hx, AV.val_congr x fun id hid => ha id (htm t x hx id hid)]
  ·rw [hBe, eS]; exact M'
 ·rintro listed a w ⟨hsz, hdn, ρ, hold, hN, hdf, hv, M⟩ hall
  have hall' : ∀ j, j < l.length → listed.getD j false = true := fun j hj => by rw [← bh7 (by omega)]; exact hall j hj
  have eT : tmD r.acts (fun j => listed.getD j false) (z9 tm) = z9 r.tm := by
   funext t
   rw [hfT t]
   refine S6 fun j b hj _ => ?_
   rw [cf2]
   exact hall' j (by have := (cb6.1 hj).1; omega)
  have eS : sD r.acts (fun j => listed.getD j false) S = r.S := by
   funext q
   rw [hfS q]
   refine S6 fun j b hj _ => ?_
   rw [cf2]
   exact hall' j (by have := (cb6.1 hj).1; omega)
  have hids : ∀ (k : Nat) b, r.acts[k]? = some b → ∀ id, (id ∈ b.t.res.ids ∨ id ∈ b.t.new.map (·.1) ∨ ∃ p ∈ b.t.new, id ∈ p.2.ids) → id < n + 8 * l.length := fun k b hk id hid => by
   have hkl : k < l.length := by have := (cb6.1 hk).1; omega
   obtain ⟨o, ho'⟩ : ∃ o, l[k]? = some o := ⟨_, ca8 hkl⟩
   obtain ⟨ac, ob, hac, _, hop⟩ := hat k o ho'
   rw [hk] at hac; cases hac
   obtain ⟨_, _, hfine⟩ := aO7 hop
   obtain ⟨hf1, hf2, hf3⟩ := ad3 hfine
   rcases hid with h | h | ⟨p, hp, h⟩
   ·have := hf3 id h; omega
   ·obtain ⟨p, hp, rfl⟩ := List.mem_map.1 h
    have := (hf1 p hp).1; omega
   ·have := (hf1 p hp).2 id h; omega
  refine done ρ a w (n + 8 * l.length) ⟨hN, hdf, by rw [← eT]; exact hv, fun t x hx => ?_, fun j => ?_, by rw [← eS]; exact M, by have := I0.le; omega, hold⟩
  ·rw [hfT t] at hx
   revert x
   refine ao4 (fun y : Option AV => ∀ x, y = some x → ∀ id ∈ x.ids, id < n + 8 * l.length) (fun x hx id hid => ?_) fun k b y hk _ hw x hx id hid => ?_
   ·have := I0.tmi t x hx id hid; omega
   ·unfold wrT at hw
    split at hw
    ·cases hw; cases hx
     exact hids k b hk id (.inl hid)
    ·cases hw
  ·refine ⟨?_, fun hj => ?_⟩
   ·rw [hfS j]
    refine ao4 (fun x : It => ∀ id ∈ x.ids, id < n + 8 * l.length) (fun id hid => ?_) fun k b x hk _ hw id hid => ?_
    ·have := (I0.bd j).1 id hid; omega
    ·exact hids k b hk id (.inr (.inr ⟨_, R2 hw, hid⟩))
   ·rw [hfS j, Z3 fun k b hk hw => ?_]
    ·exact (I0.bd j).2 (by omega)
    ·obtain ⟨x, hx⟩ := cf5.1 hw
     have := hids k b hk j (.inr (.inl (List.mem_map.2 ⟨_, R2 hx, rfl⟩)))
     omega
end
def v5 {ι : Type} (φ ψ : Nat → Prop) (w0 : World) (F : ι → Rs) (N m : Nat) (ρ0 ρ : Nat → Value) (S : List It) (tm : List (Nat × AV)) (a : Act) (w : World) : Prop := Inn φ ψ w0 F N m ρ0 S.length ρ (z9 tm) (o0 S) a w
def wfB (S : List It) (tm : List (Nat × AV)) : Bool := S.all (fun x => ab6 S.length x.ids) && tm.all (fun p => ab6 S.length p.2.ids)
def bY1 (m : Nat) (js : List Nat) : Bool := (cc5 m).all fun i => natEq (nth js i) i && decide (i < js.length)
def ae7 (m : Nat) (js : List Nat) (S : List It) (tm : List (Nat × AV)) : Bool := nodupB js && natEq js.length S.length && wfB S tm && bY1 m js
section
variable {P : Program} {ι : Type} {φ ψ : Nat → Prop} {w0 w w' : World} {F : ι → Rs} {ρ ρ0 : Nat → Value} {N m n : Nat} {S : List It} {tm : List (Nat × AV)} {a : Act} {Q : Exit → Act → World → Prop}
theorem aC3 : ∀ {tm : List (Nat × AV)} {t : Nat} {x : AV}, z9 tm t = some x → (t, x) ∈ tm
 | [], _, _, h => by cases h
 | (k, y) :: r, t, x, h => by
  simp only [z9, natEq, beq_iff_eq] at h
  split at h
  ·rename_i e; subst e; cases h; exact ce6
  ·exact ce5 _ (aC3 h)
theorem as0 {l : List It} {i : Nat} (h : i < l.length) : o0 l i = l[i] := by simp [o0, cb3, h]
theorem y5 {l : List It} {i : Nat} (h : l.length ≤ i) : o0 l i = .none := by simp [o0, cb3, h]
theorem bL0 {S : List It} {tm : List (Nat × AV)} (h : wfB S tm = true) : (∀ j, (∀ id ∈ (o0 S j).ids, id < S.length) ∧ (S.length ≤ j → o0 S j = .none)) ∧ ∀ t x, z9 tm t = some x → ∀ id ∈ x.ids, id < S.length := by
 simp only [wfB, cb0] at h
 refine ⟨fun j => ⟨fun id hid => ?_, fun hj => y5 hj⟩, fun t x hx id hid => ?_⟩
 ·rcases cc9 j S.length with hj | hj
  ·rw [as0 hj] at hid
   exact I4 (cb9.1 h.1 _ (cd1 hj)) id hid
  ·rw [y5 hj] at hid; cases hid
 ·exact I4 (cb9.1 h.2 _ (aC3 hx)) id hid
theorem Inn.sel {tf : Nat → Option AV} {Sf : Nat → It} (I : Inn φ ψ w0 F N m ρ0 n ρ tf Sf a w) (js : List Nat) (S1 : List It) (tm1 : List (Nat × AV)) (hb : ae7 m js S1 tm1 = true) (hS : js.map Sf = S1.map (It.ren (nth js))) (ht : (tm1.map (·.1)).map tf = tm1.map fun p => some (p.2.ren (nth js))) :
  v5 φ ψ w0 F N m ρ0 (fun i => ρ (nth js i)) S1 tm1 a w := by
 simp only [ae7, cb0, natEq, beq_iff_eq] at hb
 obtain ⟨⟨⟨hnd, hl⟩, hwf⟩, hkeep⟩ := hb
 have hn := aB8 hnd
 obtain ⟨b1, b2⟩ := bL0 hwf
 have hk : ∀ i, i < m → nth js i = i ∧ i < js.length := fun i hi => by
  have := cb9.1 hkeep i (ce9.2 hi)
  simpa [natEq] using this
 refine ⟨I.size, I.defs, fun t x hx => ?_, b2, b1, ?_, ?_, fun i hi => ?_⟩
 ·obtain ⟨i, hi⟩ := List.mem_iff_getElem?.1 (aC3 hx)
  have h1 := congrArg (·[i]?) ht
  simp only [List.getElem?_map, hi, Option.map_some] at h1
  rw [I.tmv t _ (Option.some.inj h1), AV.val_ren]
 ·refine I.mem.map (fun k : ι ⊕ Nat => (match k with | .inl i => some (.inl i) | .inr i => if i < js.length then some (.inr (nth js i)) else none : Option (ι ⊕ Nat))) ?_ ?_
  ·intro k k' x h1 h2
   match k, k' with
   | .inl i, .inl i' => simp at h1 h2; rw [← h1] at h2; simpa using h2.symm
   | .inl i, .inr j => simp only at h1 h2; cases h1; split at h2 <;> simp at h2
   | .inr j, .inl i => simp only at h1 h2; cases h2; split at h1 <;> simp at h1
   | .inr j, .inr j' =>
    simp at h1 h2
    obtain ⟨f1, f2⟩ := h1
    obtain ⟨g1, g2⟩ := h2
    rw [← f2] at g2
    have hj := Sum.inr.inj g2
    have e1 := ca8 f1
    have e2 := ca8 g1
    rw [H2 e2, H2 e1] at hj
    have := (List.getElem?_inj f1 hn).1 (e1.trans (by rw [← hj]; exact e2.symm))
    rw [this]
  ·intro k
   match k with
   | .inl i => exact .inl ⟨_, rfl, rfl⟩
   | .inr i =>
    by_cases hlt : i < js.length
    ·refine .inl ⟨.inr (nth js i), by simp [hlt], ?_⟩
     have h1 := congrArg (·[i]?) hS
     have hlt' : i < S1.length := by omega
     simp only [List.getElem?_map, ca8 hlt, ca8 hlt', Option.map_some, Option.some.injEq] at h1
     simp only [l7]
     rw [as0 hlt', H2 (ca8 hlt), h1, ← It.res_ren, H2 (ca8 hlt)]
    ·refine .inr ?_
     simp only [l7]
     rw [y5 (by omega)]
     rfl
 ·rcases cc9 S1.length m with h | h
  ·have := (hk S1.length h).2; omega
  ·exact h
 ·rw [(hk i hi).1]; exact I.old i hi
def aX8 (o : Option RS) (js ts : List Nat) : Option (List Prop × List It × List (Option AV) × List (List (List AV × List It)) × List (List AV)) := o.map fun r => (r.obs, js.map r.S, ts.map (z9 r.tm), r.acts.map (·.eqs.1), r.acts.map (·.eqw.1))
def a79 (o : Option RS) (obs : List Prop) (js : List Nat) (S : List It) (tm : List (Nat × AV)) : Option (List Prop × List It × List (Option AV) × List (List (List AV × List It)) × List (List AV)) := o.map fun r => (obs, S.map (It.ren (nth js)), tm.map (fun p => some (p.2.ren (nth js))), r.acts.map (·.eqs.2), r.acts.map (·.eqw.2))
def bi2 (l : List Oper) (ms : List Nat) (n : Nat) (S : Nat → It) (o : Option RS) : Bool := aP0 ms l && ah1 l.toArray && match o with
 | some r => bP6 ms r.acts && bw6 ms n r.acts && bq5 ms S r.acts
 | none => false
theorem bO5 {dk : TypeId → Nat} {l : List Oper} {id : Nat} (G : v5 φ ψ w0 F N m ρ0 ρ S tm a w) (H : R5) (hH : ∀ i c τ, L5 H.calls i = some (c, τ) → c.ok P) (hF : P4 H.facts) (js : List Nat) (S1 : List It) (tm1 : List (Nat × AV)) (obs : List Prop)
  (hs : ((U6 P dk N l H l 0 tm (o0 S) S.length).isSome && ae7 m js S1 tm1) = true)
  (hc : aX8 (U6 P dk N l H l 0 tm (o0 S) S.length) js (tm1.map (·.1)) = a79 (U6 P dk N l H l 0 tm (o0 S) S.length) obs js S1 tm1)
  (ho : v6 obs) (k : ∀ ρ' a' w', v5 φ ψ w0 F N m ρ0 ρ' S1 tm1 a' w' → Q .normal a' w') : (Code.region id l.toArray false).wp P Q a w := by
 simp only [cb0] at hs
 obtain ⟨r, hr⟩ := cf5.1 hs.1
 rw [hr] at hc
 simp only [aX8, a79, Option.map_some, Option.some.injEq, Prod.mk.injEq] at hc
 obtain ⟨h1, h2, h3, h4, h5⟩ := hc
 refine wp_region_lit (bf8 hH hF l 0 S.length G hr (by rw [h1]; exact ho) h4 h5 fun ρ' a' w' n' I => ?_)
 exact k _ a' w' (I.sel js S1 tm1 hs.2 h2 h3)
theorem bF5 {dk : TypeId → Nat} {l : List Oper} {id : Nat} (G : v5 φ ψ w0 F N m ρ0 ρ S tm a w) (H : R5) (hH : ∀ i c τ, L5 H.calls i = some (c, τ) → c.ok P) (hF : P4 H.facts) (ms : List Nat) (js : List Nat) (S1 : List It) (tm1 : List (Nat × AV)) (obs : List Prop) (hm : P.follows .mixedOrders = true)
  (hs : (bi2 l ms S.length (o0 S) (U6 P dk N l H l 0 tm (o0 S) S.length) && ae7 m js S1 tm1) = true)
  (hc : aX8 (U6 P dk N l H l 0 tm (o0 S) S.length) js (tm1.map (·.1)) = a79 (U6 P dk N l H l 0 tm (o0 S) S.length) obs js S1 tm1)
  (ho : v6 obs) (k : ∀ ρ' a' w', v5 φ ψ w0 F N m ρ0 ρ' S1 tm1 a' w' → Q .normal a' w') : (Code.region id l.toArray true).wp P Q a w := by
 simp only [cb0, bi2] at hs
 obtain ⟨⟨⟨q1, q2⟩, q3⟩, q4⟩ := hs
 cases hr : U6 P dk N l H l 0 tm (o0 S) S.length with
 | none => rw [hr] at q3; cases q3
 | some r =>
  rw [hr] at q3 hc
  simp only [cb0] at q3
  simp only [aX8, a79, Option.map_some, Option.some.injEq, Prod.mk.injEq] at hc
  obtain ⟨h1, h2, h3, h4, h5⟩ := hc
  refine aM7 hH hF G hr (by rw [h1]; exact ho) h4 h5 ms hm q2 q1 q3.1.1 q3.1.2 q3.2 fun ρ' a' w' n' I => ?_
  exact k _ a' w' (I.sel js S1 tm1 q4 h2 h3)
theorem rs1 {dk : TypeId → Nat} {l : List Oper} {id : Nat} (G : v5 φ ψ w0 F N m ρ0 ρ S tm a w) (H : R5) (hH : ∀ i c τ, L5 H.calls i = some (c, τ) → c.ok P) (hF : P4 H.facts) (js : List Nat) (S1 : List It) (tm1 : List (Nat × AV)) (obs : List Prop)
  (ho : v6 obs) (k : ∀ ρ' a' w', v5 φ ψ w0 F N m ρ0 ρ' S1 tm1 a' w' → Q .normal a' w')
  (hs : ((U6 P dk N l H l 0 tm (o0 S) S.length).isSome && ae7 m js S1 tm1) = true := by kernel_rfl)
  (hc : aX8 (U6 P dk N l H l 0 tm (o0 S) S.length) js (tm1.map (·.1)) = a79 (U6 P dk N l H l 0 tm (o0 S) S.length) obs js S1 tm1 := by kernel_rfl) : (Code.region id l.toArray false).wp P Q a w := bO5 G H hH hF js S1 tm1 obs hs hc ho k
theorem rd1 {dk : TypeId → Nat} {l : List Oper} {id : Nat} (G : v5 φ ψ w0 F N m ρ0 ρ S tm a w) (H : R5) (hH : ∀ i c τ, L5 H.calls i = some (c, τ) → c.ok P) (hF : P4 H.facts) (ms : List Nat) (js : List Nat) (S1 : List It) (tm1 : List (Nat × AV)) (obs : List Prop)
  (ho : v6 obs) (k : ∀ ρ' a' w', v5 φ ψ w0 F N m ρ0 ρ' S1 tm1 a' w' → Q .normal a' w') (hm : P.follows .mixedOrders = true := by kernel_rfl)
  (hs : (bi2 l ms S.length (o0 S) (U6 P dk N l H l 0 tm (o0 S) S.length) && ae7 m js S1 tm1) = true := by kernel_rfl)
  (hc : aX8 (U6 P dk N l H l 0 tm (o0 S) S.length) js (tm1.map (·.1)) = a79 (U6 P dk N l H l 0 tm (o0 S) S.length) obs js S1 tm1 := by kernel_rfl) : (Code.region id l.toArray true).wp P Q a w := bF5 G H hH hF ms js S1 tm1 obs hm hs hc ho k
theorem ai7 : ∀ i c τ, L5 [] i = some (c, τ) → j9.ok P c := fun i c τ h => by cases h
theorem aE9 {i0 : Nat} {c0 : j9} {τ0 : List Nat} {r : List (Nat × j9 × List Nat)} (h0 : c0.ok P) (hr : ∀ i c τ, L5 r i = some (c, τ) → j9.ok P c) : ∀ i c τ, L5 ((i0, c0, τ0) :: r) i = some (c, τ) → j9.ok P c := fun i c τ h => by
 simp only [L5] at h
 split at h
 ·cases h; exact h0
 ·exact hr i c τ h
theorem v5.sel (G : v5 φ ψ w0 F N m ρ0 ρ S tm a w) (js : List Nat) (S1 : List It) (tm1 : List (Nat × AV)) (hb : ae7 m js S1 tm1 = true) (hS : js.map (o0 S) = S1.map (It.ren (nth js))) (ht : (tm1.map (·.1)).map (z9 tm) = tm1.map fun p => some (p.2.ren (nth js))) : ∃ ρ', v5 φ ψ w0 F N m ρ0 ρ' S1 tm1 a w := ⟨_, Inn.sel G js S1 tm1 hb hS ht⟩
theorem v5.as (G : v5 φ ψ w0 F N m ρ0 ρ S tm a w) (S1 : List It) (tm1 : List (Nat × AV)) (hS : S = S1) (ht : tm = tm1) : v5 φ ψ w0 F N m ρ0 ρ S1 tm1 a w := by subst hS; subst ht; exact G
theorem v5.at (G : v5 φ ψ w0 F N m ρ0 ρ S tm a w) (S1 : List It) (tm1 : List (Nat × AV)) (hS : S = S1 := by kernel_rfl) (ht : tm = tm1 := by kernel_rfl) : v5 φ ψ w0 F N m ρ0 ρ S1 tm1 a w := G.as S1 tm1 hS ht
theorem ah4 {c : Nat} {x y : Code} (G : v5 φ ψ w0 F N m ρ0 ρ S tm a w) (b : Bool) (hc : z9 tm c = some (.v (.bool b))) (ht : b = true → x.wp P Q a w) (hf : b = false → y.wp P Q a w) : (Code.cond (.tmp c) x y).wp P Q a w := by
 have h := G.tmv c _ hc
 refine wp_cond_split (t := b) ?_ ht hf
 simp [Act.eval, Array.getD_eq_getD_getElem?, h, AV.val]
theorem bt5 {c : Nat} {x y : Code} (G : v5 φ ψ w0 F N m ρ0 ρ S tm a w) (b : Bool) (hc : z9 tm c = some (.v (.bool b))) (hb : b = true) (h : x.wp P Q a w) : (Code.cond (.tmp c) x y).wp P Q a w := ah4 G b hc (fun _ => h) fun hf => by rw [hb] at hf; cases hf
theorem bt6 {c : Nat} {x y : Code} (G : v5 φ ψ w0 F N m ρ0 ρ S tm a w) (b : Bool) (hc : z9 tm c = some (.v (.bool b))) (hb : b = false) (h : y.wp P Q a w) : (Code.cond (.tmp c) x y).wp P Q a w := ah4 G b hc (fun ht => by rw [hb] at ht; cases ht) fun _ => h
def a69 (P : Program) (tm : Nat → Option AV) (S : Nat → It) : List ResultVar → Option (List AV)
 | [] => some []
 | .tmp t :: r =>
  match tm t, a69 P tm S r with
  | some x, some l => some (x :: l)
  | _, _ => none
 | .cell t ty :: r =>
  match tm t, a69 P tm S r with
  | some (.ptr b off), some l =>
   match S b with
   | .box cs => (a37 P ty ((cs.drop off).take (au4 P ty))).map fun x => x :: l
   | _ => none
  | _, _ => none
def aW9 (P : Program) (fn : Func) (tm : List (Nat × AV)) (S : List It) : Option AV :=
 match a69 P (z9 tm) (o0 S) fn.results.toList with
 | some [x] => some x
 | some l => some (.tup l)
 | none => none
theorem bB6 {cs : List AV} {ty : TypeId} {b off : Nat} {x : AV} (hB : v9 w b (AV.vals ρ cs)) (h : a37 P ty ((cs.drop off).take (au4 P ty)) = some x) : (loadVar ty ⟨b, off, none⟩).run P w = .ok (x.val ρ) w :=
 ai9 h ⟨b, off, none⟩ fun j u hj => by
  rw [AV.vals_take, AV.vals_drop] at hj
  have hadd : (⟨b, off, none⟩ : Addr).add j = ⟨b, off + j, none⟩ := by unfold Addr.add; split <;> simp_all
  rw [hadd, hB.cell]
  rw [List.getElem?_take] at hj
  split at hj
  ·rw [List.getElem?_drop] at hj; exact hj
  ·cases hj
theorem aO1 (G : v5 φ ψ w0 F N m ρ0 ρ S tm a w) : ∀ {rs : List ResultVar} {l : List AV}, a69 P (z9 tm) (o0 S) rs = some l →
  (rs.mapM (fun r => (match r with | .tmp t => pure (a.tmps.getD t undef) | .cell b t => do loadVar t (← asAddr (a.tmps.getD b undef)) : Sem Value))).run P w = .ok (AV.vals ρ l) w
 | [], l, h => by cases h; simp [AV.vals]
 | .tmp t :: r, l, h => by
  simp only [a69] at h
  split at h
  case h_2 => cases h
  rename_i x l' h1 h2
  cases h
  have ht := G.tmv t x h1
  have ih := aO1 G h2
  have e : (pure (a.tmps.getD t undef) : Sem Value).run P w = .ok (x.val ρ) w := by simp [Array.getD_eq_getD_getElem?, ht]
  rw [List.mapM_cons, Sem.run_bind, e, Result.andThen_ok, Sem.run_bind, ih]
  rfl
 | .cell t ty :: r, l, h => by
  simp only [a69] at h
  split at h
  case h_2 => cases h
  rename_i b off l' h1 h2
  split at h
  case h_2 => cases h
  rename_i cs hS
  obtain ⟨x, h3, h4⟩ := cb7.1 h
  subst h4
  have ht := G.tmv t _ h1
  have ih := aO1 G h2
  have hl := bB6 (P := P) (G.mem.boxAt hS) h3
  have e : (do loadVar ty (← asAddr (a.tmps.getD t undef)) : Sem Value).run P w = .ok (x.val ρ) w := by
   rw [show a.tmps.getD t undef = .pointer (some ⟨U3 (ρ b), off, none⟩) by simp [Array.getD_eq_getD_getElem?, ht, AV.val]]
   simp [asAddr, hl]
  rw [List.mapM_cons, Sem.run_bind, e, Result.andThen_ok, Sem.run_bind, ih]
  rfl
theorem bO6 {fn : Func} {R : Ending → World → Prop} {v : AV} (G : v5 φ ψ w0 F N m ρ0 ρ S tm a w) (h : aW9 P fn tm S = some v) (hR : R (.returned (v.val ρ)) w) : bodyPost P fn R .ret a w := by
 refine ⟨G.defs, v.val ρ, ?_, hR⟩
 unfold aW9 at h
 cases hl : a69 P (z9 tm) (o0 S) fn.results.toList with
 | none => rw [hl] at h; cases h
 | some l =>
  rw [hl] at h
  have := aO1 G hl
  unfold results
  rw [Sem.run_bind, Array.mapM_eq_mapM_toList, Sem.run_map]
  erw [this]
  simp only [Result.andThen_ok, Sem.run_pure]
  match l, h with
  | [], h => cases h; rfl
  | [x], h => cases h; rfl
  | x :: y :: r, h => cases h; rfl
theorem v5.freeze (G : v5 φ ψ w0 F N m ρ0 ρ S tm a w) (i : Nat) {e : TypeId} {d : D} (hS : S[i]? = some (.row e d)) : v5 φ ψ w0 F N m ρ0 ρ (S.set i (.dat d)) tm a w := by
 have hi := (cb6.1 hS).1
 have hl : o0 S i = .row e d := by simp [o0, cb3, hS]
 have hset : ∀ j, o0 (S.set i (.dat d)) j = if j = i then .dat d else o0 S j := fun j => by
  simp only [o0, cb3]
  by_cases e : j = i
  ·subst e; simp [hi]
  ·rw [List.getElem?_set_ne (fun h => e h.symm), if_neg e]
 refine ⟨G.size, G.defs, G.tmv, by rw [cd2]; exact G.tmi, fun j => ?_, ?_, by rw [cd2]; exact G.le, G.old⟩
 ·rw [hset, cd2]
  split
  ·exact ⟨fun id h => by simp [It.ids] at h, fun h => by omega⟩
  ·exact G.bd j
 ·obtain ⟨xs, h1, h2⟩ := G.mem.rowAt hl
  have hoth : ∀ k : ι ⊕ Nat, k ≠ .inr i → l7 F ρ (o0 (S.set i (.dat d))) k = l7 F ρ (o0 S) k := fun k hk => by
   cases k with
   | inl q => rfl
   | inr j =>
    have : j ≠ i := fun e => hk (by rw [e])
    simp only [l7]; rw [hset, if_neg this]
  refine G.mem.put (.inr i) hoth (C6.refl _ _) ?_ fun g hg => ?_
  ·simp only [l7]
   rw [hset, if_pos rfl]
   refine ⟨RD.nice _ _, ?_⟩
   have hfr : ∀ b, Y0 φ (l7 F ρ (o0 S)) b → Y0 φ (l7 F ρ (o0 (S.set i (.dat d)))) b := fun b hb => ⟨hb.1, fun k hk => by
    by_cases e : k = .inr i
    ·subst e
     simp only [l7] at hk
     rw [hset, if_pos rfl] at hk; exact hk
    ·rw [hoth k e] at hk; exact hb.2 k hk⟩
   refine RD.make (x6 h1 fun g hg => ?_) (RW.nice _ _ _ _ _ _ (Agr.mono fun b _ hb => hfr b hb) h2)
   have hown : (l7 F ρ (o0 S) (.inr i)).blk g := by simp only [l7]; rw [hl]; exact hg
   refine ⟨G.mem.ph _ _ hown, fun k hk => ?_⟩
   by_cases e : k = .inr i
   ·subst e
    simp only [l7] at hk
    rw [hset, if_pos rfl] at hk; exact hk
   ·rw [hoth k e] at hk
    exact G.mem.dis _ _ g (fun h => e h.symm) hown hk
  ·simp only [l7] at hg
   rw [hset, if_pos rfl] at hg; exact hg.elim
def aF7 (i : Nat) : List AV → List (Nat × AV)
 | [] => []
 | x :: r => (i, x) :: aF7 (i + 1) r
theorem a38 (ρ : Nat → Value) : ∀ {l : List AV} {i t : Nat} {x : AV}, z9 (aF7 i l) t = some x → i ≤ t ∧ (AV.vals ρ l)[t - i]? = some (x.val ρ)
 | [], _, _, _, h => by cases h
 | y :: r, i, t, x, h => by
  simp only [aF7, z9, natEq, beq_iff_eq] at h
  split at h
  ·rename_i e; subst e; cases h; exact ⟨cb1 _, by simp [AV.vals]⟩
  ·obtain ⟨h1, h2⟩ := a38 ρ h
   refine ⟨by omega, ?_⟩
   rw [show t - i = (t - (i + 1)) + 1 by omega]
   simpa [AV.vals] using h2
def a45 (φ ψ : Nat → Prop) (w0 : World) (F : ι → Rs) (ρ0 : Nat → Value) (c : j9) (x : Ending) (w' : World) : Prop := ∃ ρ', (∀ i, i < c.pre.length → ρ' i = ρ0 i) ∧ x = .returned (c.res.val ρ') ∧ j5 φ ψ w0 w' (l7 F ρ' (o0 c.post))
theorem bt4 {c : j9} {fn : Func} {code : Code} (N : Nat) (hf : P.funcs[c.f]? = some fn) (hb : fn.body = some code) (hN : fn.ntmps = N) (hw : (wfB c.pre (aF7 0 c.args) && decide (c.args.length ≤ N)) = true)
  (k : ∀ {ι : Type} (φ ψ : Nat → Prop) (w0 w : World) (F : ι → Rs) (ρ0 ρ : Nat → Value) (a : Act), v5 φ ψ w0 F N c.pre.length ρ0 ρ c.pre (aF7 0 c.args) a w → code.wp P (bodyPost P fn (a45 φ ψ w0 F ρ0 c)) a w) : c.ok P := by
 intro ι φ ψ w0 w F ρ M
 simp only [cb0, decide_eq_true_eq] at hw
 obtain ⟨b1, b2⟩ := bL0 hw.1
 refine calls_of_wp hf hb (k φ ψ w0 w F ρ ρ _ ⟨?_, rfl, fun t x hx => ?_, b2, b1, M, cb1 _, fun _ _ => rfl⟩)
 ·simp [AV.vals_length, hN]; omega
 ·obtain ⟨_, h1⟩ := a38 ρ hx
  rw [Nat.sub_zero] at h1
  have hlt := (cb6.1 h1).1
  rw [Array.getElem?_append_left (by simpa using hlt)]
  simpa using h1
theorem aA7 {fn : Func} {c : j9} {v : AV} (G : v5 φ ψ w0 F N c.pre.length ρ0 ρ S tm a w) (js : List Nat) (h : aW9 P fn tm S = some v) (hb : ae7 c.pre.length js c.post [] = true) (hS : js.map (o0 S) = c.post.map (It.ren (nth js))) (hv : v = c.res.ren (nth js)) : bodyPost P fn (a45 φ ψ w0 F ρ0 c) .ret a w := by
 have G1 := Inn.sel G js c.post [] hb hS rfl
 refine bO6 G h ⟨fun i => ρ (nth js i), G1.old, ?_, G1.mem⟩
 rw [hv, AV.val_ren]
theorem b0 {K : Act → World → Prop} (h : K a w) : Exit.then K Q .normal a w := h
theorem A2 {K : Act → World → Prop} {id : Nat} (h : Q (.exit id) a w) : Exit.then K Q (.exit id) a w := h
theorem o5 {K : Act → World → Prop} (h : Q .ret a w) : Exit.then K Q .ret a w := h
theorem t5 {id : Nat} (h : Q .normal a w) : Exit.inBlock id Q .normal a w := h
theorem E5 {id : Nat} (h : Q .ret a w) : Exit.inBlock id Q .ret a w := h
theorem A1 {id : Nat} (h : Q .normal a w) : Exit.inBlock id Q (.exit id) a w := by simp only [Exit.inBlock, if_true]; exact h
theorem w64 {x : Int} (h1 : -9223372036854775808 ≤ x) (h2 : x ≤ 9223372036854775807) : IntKind.i64.wrap x = x := IntWalk.i64_in x ⟨h1, h2⟩
theorem rT {c : Nat} {x y : Code} (G : v5 φ ψ w0 F N m ρ0 ρ S tm a w) (b : Bool) (hb : b = true) (h : x.wp P Q a w) (hc : z9 tm c = some (.v (.bool b)) := by kernel_rfl) : (Code.cond (.tmp c) x y).wp P Q a w := bt5 G b hc hb h
theorem rF {c : Nat} {x y : Code} (G : v5 φ ψ w0 F N m ρ0 ρ S tm a w) (b : Bool) (hb : b = false) (h : y.wp P Q a w) (hc : z9 tm c = some (.v (.bool b)) := by kernel_rfl) : (Code.cond (.tmp c) x y).wp P Q a w := bt6 G b hc hb h
theorem A8 {κ : Type} {c : Code} (pre : κ → Prop) (μ : κ → Nat) (Sk : κ → List It) (Tk : κ → List (Nat × AV)) (k0 : κ) (hp : pre k0) (G : v5 φ ψ w0 F N m ρ0 ρ (Sk k0) (Tk k0) a w)
  (round : ∀ k ρ a w, pre k → v5 φ ψ w0 F N m ρ0 ρ (Sk k) (Tk k) a w → c.wp P (Exit.then (fun a' w' => ∃ k' ρ', pre k' ∧ μ k' < μ k ∧ v5 φ ψ w0 F N m ρ0 ρ' (Sk k') (Tk k') a' w') Q) a w) : (Code.loop c).wp P Q a w := by
 refine wp_loop_ghost (fun n a w => ∃ k ρ, μ k = n ∧ pre k ∧ v5 φ ψ w0 F N m ρ0 ρ (Sk k) (Tk k) a w) (μ k0) ⟨k0, ρ, rfl, hp, G⟩ ?_
 rintro n a w ⟨k, ρ, rfl, hk, Gk⟩
 refine wp_mono (round k ρ a w hk Gk) ?_
 intro e a' w' hq
 cases e with
 | normal =>
  obtain ⟨k', ρ', h1, h2, h3⟩ := hq
  exact ⟨μ k', h2, k', ρ', rfl, h1, h3⟩
 | _ => exact hq
theorem bF4 {κ : Type} {pre : κ → Prop} {μ : κ → Nat} {Sk : κ → List It} {Tk : κ → List (Nat × AV)} {k : κ} (G : v5 φ ψ w0 F N m ρ0 ρ S tm a w) (k' : κ) (hp : pre k') (hμ : μ k' < μ k) (js : List Nat) (S1 : List It) (tm1 : List (Nat × AV)) (hs1 : Sk k' = S1) (ht1 : Tk k' = tm1)
  (hb : ae7 m js S1 tm1 = true) (hS : js.map (o0 S) = S1.map (It.ren (nth js))) (ht : (tm1.map (·.1)).map (z9 tm) = tm1.map fun p => some (p.2.ren (nth js))) :
  ∃ k' ρ', pre k' ∧ μ k' < μ k ∧ v5 φ ψ w0 F N m ρ0 ρ' (Sk k') (Tk k') a w := by
 subst hs1; subst ht1
 exact ⟨k', _, hp, hμ, Inn.sel G js _ _ hb hS ht⟩
theorem v5.len (G : v5 φ ψ w0 F N m ρ0 ρ S tm a w) (i : Nat) {d : D} (h : itD (o0 S i) = some d) : d.len ≤ 9223372036854775807 := by
 obtain ⟨_, cap, _, h1, h2, _⟩ := G.mem.sliceAt h
 unfold maxLen at h2; omega
end
def dkP (t : TypeId) : Nat :=
 if natEq t 3 then 1 else
 if natEq t 4 then 2 else
 if natEq t 5 then 3 else
 if natEq t 9 then 4 else
if natEq t 60 then 5 else
if natEq t 71 then 6 else
 if natEq t 23 then 7 else
if natEq t 43 then 8 else
if natEq t 109 then 9 else
if natEq t 111 then 10 else
 0
abbrev eA (e : d9) (r : Nat) : AV := .agg [.v (.int .i64 e.kind), .v (.int .i64 e.value), .ref r]
abbrev eS (e : d9) : List It := [.dat (.exprs e.kids)]
abbrev sA (s : c8) (r : Nat) : AV := .agg [.v (.int .i64 s.kind), .v (.int .i64 s.target), .v (.int .i64 s.index.kind), .v (.int .i64 s.index.value), .ref r, .v (.int .i64 s.value.kind), .v (.int .i64 s.value.value), .ref (r + 1), .v (.int .i64 s.count), .ref (r + 2), .ref (r + 3)]
abbrev sS (s : c8) : List It := [.dat (.exprs s.index.kids), .dat (.exprs s.value.kids), .dat (.stmts s.body), .dat (.stmts s.els)]
abbrev pA (r : Nat) : AV := .agg [.ref r, .ref (r + 1), .ref (r + 2)]
abbrev pS (p : j8) : List It := [.dat (.ints p.vars), .dat (.ints p.arrays), .dat (.stmts p.body)]
abbrev iA (n : Int) : AV := .v (.int .i64 n)
abbrev bA (b : Bool) : AV := .v (.bool b)
abbrev fnC (f : FuncId) (args : List AV) (S : List It) (res : AV) : j9 := ⟨f, args, S, S, res⟩
abbrev dI (l : List Int) : It := .dat (.ints l)
abbrev dY (l : List UInt8) : It := .dat (.bytes l)
abbrev dN (l : List d8) : It := .dat (.instrs l)
abbrev dV (l : List (Int × Int)) : It := .dat (.events l)
abbrev dR (l : List (List Int)) : It := .dat (.rows l)
abbrev dE (l : List d9) : It := .dat (.exprs l)
abbrev dT (l : List c8) : It := .dat (.stmts l)
abbrev eL (e : d9) (r : Nat) : List AV := [.v (.int .i64 e.kind), .v (.int .i64 e.value), .ref r]
abbrev sL (s : c8) (r : Nat) : List AV := [.v (.int .i64 s.kind), .v (.int .i64 s.target), .v (.int .i64 s.index.kind), .v (.int .i64 s.index.value), .ref r, .v (.int .i64 s.value.kind), .v (.int .i64 s.value.value), .ref (r + 1), .v (.int .i64 s.count), .ref (r + 2), .ref (r + 3)]
abbrev pL (r : Nat) : List AV := [.ref r, .ref (r + 1), .ref (r + 2)]
section
variable {P : Program} {ι : Type} {φ ψ : Nat → Prop} {w0 w w' : World} {F : ι → Rs} {ρ ρ0 : Nat → Value} {N m n : Nat} {S : List It} {tm : List (Nat × AV)} {a : Act} {Q : Exit → Act → World → Prop}
end
theorem d9.eta (e : d9) : (⟨e.kind, e.value, e.kids⟩ : d9) = e := by cases e; rfl
theorem c8.eta (s : c8) : (⟨s.kind, s.target, s.index, s.value, s.count, s.body, s.els⟩ : c8) = s := by cases s; rfl
section
variable {ι : Type} {P : Program} {φ ψ : Nat → Prop} {w0 w : World} {F : ι → Rs} {N m : Nat} {ρ0 ρ : Nat → Value} {S : List It} {tm : List (Nat × AV)} {a : Act}
theorem L6 {fn : Func} {c : j9} (G : v5 φ ψ w0 F N c.pre.length ρ0 ρ S tm a w) (js : List Nat) (hS : js.map (o0 S) = c.post.map (It.ren (nth js)) := by kernel_rfl) (h : aW9 P fn tm S = some (c.res.ren (nth js)) := by kernel_rfl) (hb : ae7 c.pre.length js c.post [] = true := by kernel_rfl) : bodyPost P fn (a45 φ ψ w0 F ρ0 c) .ret a w := aA7 G js h hb hS rfl
theorem b51 {fn : Func} {c : j9} (G : v5 φ ψ w0 F N c.pre.length ρ0 ρ S tm a w) (js : List Nat) (hS : js.map (o0 S) = c.post.map (It.ren (nth js)) := by kernel_rfl) (h : aW9 P fn tm S = some (c.res.ren (nth js)) := by kernel_rfl) (hb : ae7 c.pre.length js c.post [] = true := by kernel_rfl) : bodyPost P fn (a45 φ ψ w0 F ρ0 c) .normal a w := aA7 G js h hb hS rfl
theorem rxv {fn : Func} {c : j9} (v : AV) (G : v5 φ ψ w0 F N c.pre.length ρ0 ρ S tm a w) (js : List Nat) (hv : v = c.res.ren (nth js)) (hS : js.map (o0 S) = c.post.map (It.ren (nth js)) := by kernel_rfl) (h : aW9 P fn tm S = some v := by kernel_rfl) (hb : ae7 c.pre.length js c.post [] = true := by kernel_rfl) : bodyPost P fn (a45 φ ψ w0 F ρ0 c) .ret a w := aA7 G js h hb hS hv
theorem rxn {κ : Type} {pre : κ → Prop} {μ : κ → Nat} {Sk : κ → List It} {Tk : κ → List (Nat × AV)} {k : κ} (G : v5 φ ψ w0 F N m ρ0 ρ S tm a w) (k' : κ) (hp : pre k') (hμ : μ k' < μ k) (js : List Nat) (hS : js.map (o0 S) = (Sk k').map (It.ren (nth js)) := by kernel_rfl) (ht : ((Tk k').map (·.1)).map (z9 tm) = (Tk k').map (fun p => some (p.2.ren (nth js))) := by kernel_rfl) (hb : ae7 m js (Sk k') (Tk k') = true := by kernel_rfl) : ∃ k' ρ', pre k' ∧ μ k' < μ k ∧ v5 φ ψ w0 F N m ρ0 ρ' (Sk k') (Tk k') a w := bF4 G k' hp hμ js _ _ rfl rfl hb hS ht
theorem N4 {fn : Func} {f : FuncId} {args : List AV} {pre post : List It} {x : Bool} (y : Bool) (G : v5 φ ψ w0 F N pre.length ρ0 ρ S tm a w) (js : List Nat) (e : x = y) (hS : js.map (o0 S) = post.map (It.ren (nth js)) := by kernel_rfl) (h : aW9 P fn tm S = some (bA y) := by kernel_rfl) (hb : ae7 pre.length js post [] = true := by kernel_rfl) : bodyPost P fn (a45 φ ψ w0 F ρ0 ⟨f, args, pre, post, bA x⟩) .ret a w := aA7 (c := ⟨f, args, pre, post, bA x⟩) G js h hb hS (by rw [e]; rfl)
theorem rxI {fn : Func} {f : FuncId} {args : List AV} {pre post : List It} {x : Int} (y : Int) (G : v5 φ ψ w0 F N pre.length ρ0 ρ S tm a w) (js : List Nat) (e : x = y) (hS : js.map (o0 S) = post.map (It.ren (nth js)) := by kernel_rfl) (h : aW9 P fn tm S = some (iA y) := by kernel_rfl) (hb : ae7 pre.length js post [] = true := by kernel_rfl) : bodyPost P fn (a45 φ ψ w0 F ρ0 ⟨f, args, pre, post, iA x⟩) .ret a w := aA7 (c := ⟨f, args, pre, post, iA x⟩) G js h hb hS (by rw [e]; rfl)
end
abbrev wO (x : Int) : Prop := IntKind.i64.wrap x = x
theorem oW {x : Int} (h : -9223372036854775808 ≤ x ∧ x ≤ 9223372036854775807) : wO x := w64 h.1 h.2
theorem o1 {x : Int} (h : -9223372036854775808 ≤ x ∧ x ≤ 9223372036854775807) : v6 [wO x] := ⟨oW h, cc2⟩
theorem o2 {x y : Int} (h : (-9223372036854775808 ≤ x ∧ x ≤ 9223372036854775807) ∧ -9223372036854775808 ≤ y ∧ y ≤ 9223372036854775807) : v6 [wO x, wO y] := ⟨oW h.1, oW h.2, cc2⟩
theorem o3 {x y z : Int} (h : (-9223372036854775808 ≤ x ∧ x ≤ 9223372036854775807) ∧ (-9223372036854775808 ≤ y ∧ y ≤ 9223372036854775807) ∧ -9223372036854775808 ≤ z ∧ z ≤ 9223372036854775807) : v6 [wO x, wO y, wO z] := ⟨oW h.1, oW h.2.1, oW h.2.2, cc2⟩
theorem o4 {x y z u : Int} (h : (-9223372036854775808 ≤ x ∧ x ≤ 9223372036854775807) ∧ (-9223372036854775808 ≤ y ∧ y ≤ 9223372036854775807) ∧ (-9223372036854775808 ≤ z ∧ z ≤ 9223372036854775807) ∧ -9223372036854775808 ≤ u ∧ u ≤ 9223372036854775807) : v6 [wO x, wO y, wO z, wO u] := ⟨oW h.1, oW h.2.1, oW h.2.2.1, oW h.2.2.2, cc2⟩
abbrev aP (n b : Nat) (r : List Prop) : List Prop := (n ≤ 9223372036854775807) :: (n * b ≤ 140737488355328) :: r
theorem aK {n b : Nat} {r : List Prop} (h : n ≤ 100000000000) (k : v6 r) (hb : b ≤ 1000 := by decide) : v6 (aP n b r) := ⟨by omega, cd3 (Nat.mul_le_mul h hb) (by decide), k⟩
abbrev iX (x : Int) (n l : Nat) (r : List Prop) : List Prop := (0 ≤ x) :: (x < (l : Int)) :: (n < l) :: r
theorem iK {x : Int} {n l : Nat} {r : List Prop} (h : 0 ≤ x ∧ x < (l : Int) ∧ n < l) (k : v6 r) : v6 (iX x n l r) := ⟨h.1, h.2.1, h.2.2, k⟩
abbrev mR (js : List Nat) (l : List It) : List It := List.map (It.ren (nth js)) l
theorem fz : P4 [] := cc2
theorem fc {a b : Bool} {r : List (Bool × Bool)} (h : a = b) (k : P4 r) : P4 ((a, b) :: r) := ⟨h, k⟩
abbrev qzE (e : d9) : d9 := d9.mk e.kind e.value e.kids
abbrev qzS (s : c8) : c8 := c8.mk s.kind s.target (d9.mk s.index.kind s.index.value s.index.kids) (d9.mk s.value.kind s.value.value s.value.kids) s.count s.body s.els
def kL (P : Program) (N m : Nat) (l : List Oper) (H : R5) (tm : List (Nat × AV)) (S : List It) (js : List Nat) (S1 : List It) (t1 : List (Nat × AV)) := ((U6 P dkP N l H l 0 tm (o0 S) S.length).isSome && ae7 m js S1 t1, aX8 (U6 P dkP N l H l 0 tm (o0 S) S.length) js (t1.map (·.1)))
def kR (P : Program) (N : Nat) (l : List Oper) (H : R5) (tm : List (Nat × AV)) (S : List It) (o : List Prop) (js : List Nat) (S1 : List It) (t1 : List (Nat × AV)) := (true, a79 (U6 P dkP N l H l 0 tm (o0 S) S.length) o js S1 t1)
def kM (P : Program) (N m : Nat) (l : List Oper) (H : R5) (ms : List Nat) (tm : List (Nat × AV)) (S : List It) (js : List Nat) (S1 : List It) (t1 : List (Nat × AV)) := (bi2 l ms S.length (o0 S) (U6 P dkP N l H l 0 tm (o0 S) S.length) && ae7 m js S1 t1, aX8 (U6 P dkP N l H l 0 tm (o0 S) S.length) js (t1.map (·.1)))
theorem K9 {P : Program} {c : j9} {fn : Func} {code : Code} (N : Nat) (hf : P.funcs[c.f]? = some fn) (S : List It) (tm : List (Nat × AV)) (k : ∀ {ι : Type} {φ ψ : Nat → Prop} {w0 w : World} {F : ι → Rs} {ρ0 ρ : Nat → Value} {a : Act}, v5 φ ψ w0 F N c.pre.length ρ0 ρ S tm a w → code.wp P (bodyPost P fn (a45 φ ψ w0 F ρ0 c)) a w) (hb : fn.body = some code := by rfl) (hN : (fn.ntmps, c.pre, aF7 0 c.args) = (N, S, tm) := by kernel_rfl) (hw : (wfB c.pre (aF7 0 c.args) && decide (c.args.length ≤ N)) = true := by kernel_rfl) : c.ok P := by
 simp only [Prod.mk.injEq] at hN
 obtain ⟨h1, h2, h3⟩ := hN
 exact bt4 N hf hb h1 hw fun φ ψ w0 w F ρ0 ρ a G => k (ρ := ρ) (G.as S tm h2 h3)
def aT (x y : List (Nat × AV)) : List (Nat × AV) := x ++ y.filter fun p => !(x.any fun q => natEq q.1 p.1)
def HH (P : Program) (H : R5) : Prop := (∀ i c τ, L5 H.calls i = some (c, τ) → c.ok P) ∧ P4 H.facts
theorem f8 {P : Program} : HH P ⟨[], [], []⟩ := ⟨ai7, cc2⟩
theorem A4 {P : Program} {c : j9} (i : Nat) (σ : List Nat) (h : c.ok P) : HH P ⟨[(i, c, σ)], [], []⟩ := ⟨aE9 h ai7, cc2⟩
theorem N1 {P : Program} {f : List (Bool × Bool)} (h : P4 f) (u : List (Nat × Nat)) : HH P ⟨[], f, u⟩ := ⟨ai7, h⟩
def Cs (P : Program) (r : List (Nat × j9 × List Nat)) : Prop := ∀ i c τ, L5 r i = some (c, τ) → c.ok P
theorem X6 {P : Program} : Cs P [] := ai7
theorem H7 {P : Program} {c : j9} {r : List (Nat × j9 × List Nat)} (i : Nat) (σ : List Nat) (h : c.ok P) (k : Cs P r) : Cs P ((i, c, σ) :: r) := aE9 h k
theorem X7 {P : Program} {r : List (Nat × j9 × List Nat)} {f : List (Bool × Bool)} (h : Cs P r) (h' : P4 f) (u : List (Nat × Nat)) : HH P ⟨r, f, u⟩ := ⟨h, h'⟩
section
variable {ι : Type} {P : Program} {φ ψ : Nat → Prop} {w0 w : World} {F : ι → Rs} {N m : Nat} {ρ0 ρ : Nat → Value} {S : List It} {tm : List (Nat × AV)} {a : Act} {l : List Oper} {id : Nat} {Q : Exit → Act → World → Prop} {H : R5}
theorem V2 (G : v5 φ ψ w0 F N m ρ0 ρ S tm a w) (hh : HH P H) (js : List Nat) (S1 : List It) (t1 : List (Nat × AV)) (o : List Prop) (ho : v6 o) (k : ∀ {ρ' a' w'}, v5 φ ψ w0 F N m ρ0 ρ' S1 t1 a' w' → Q .normal a' w') (h : kL P N m l H tm S js S1 t1 = kR P N l H tm S o js S1 t1 := by kernel_rfl) : (Code.region id l.toArray false).wp P Q a w := rs1 (dk := dkP) G H hh.1 hh.2 js S1 t1 o ho (fun _ _ _ => k) (congrArg Prod.fst h) (congrArg Prod.snd h)
theorem l0 (G : v5 φ ψ w0 F N m ρ0 ρ S tm a w) (hh : HH P H) (js : List Nat) (S1 : List It) (t1 : List (Nat × AV)) (k : ∀ {ρ' a' w'}, v5 φ ψ w0 F N m ρ0 ρ' S1 t1 a' w' → Q .normal a' w') (h : kL P N m l H tm S js S1 t1 = kR P N l H tm S [] js S1 t1 := by kernel_rfl) : (Code.region id l.toArray false).wp P Q a w := V2 G hh js S1 t1 [] cc2 k h
theorem rB1 (G : v5 φ ψ w0 F N m ρ0 ρ S tm a w) (hh : HH P H) (t1 : List (Nat × AV)) (o : List Prop) (ho : v6 o) (k : ∀ {ρ' a' w'}, v5 φ ψ w0 F N m ρ0 ρ' S t1 a' w' → Q .normal a' w') (h : kL P N m l H tm S (cc5 S.length) S t1 = kR P N l H tm S o (cc5 S.length) S t1 := by kernel_rfl) : (Code.region id l.toArray false).wp P Q a w := rs1 (dk := dkP) G H hh.1 hh.2 (cc5 S.length) S t1 o ho (fun _ _ _ => k) (congrArg Prod.fst h) (congrArg Prod.snd h)
theorem I8 (G : v5 φ ψ w0 F N m ρ0 ρ S tm a w) (hh : HH P H) (t1 : List (Nat × AV)) (k : ∀ {ρ' a' w'}, v5 φ ψ w0 F N m ρ0 ρ' S t1 a' w' → Q .normal a' w') (h : kL P N m l H tm S (cc5 S.length) S t1 = kR P N l H tm S [] (cc5 S.length) S t1 := by kernel_rfl) : (Code.region id l.toArray false).wp P Q a w := rB1 G hh t1 [] cc2 k h
theorem O0 (G : v5 φ ψ w0 F N m ρ0 ρ S tm a w) (hh : HH P H) (t1 : List (Nat × AV)) (o : List Prop) (ho : v6 o) (k : ∀ {ρ' a' w'}, v5 φ ψ w0 F N m ρ0 ρ' S (aT t1 tm) a' w' → Q .normal a' w') (h : kL P N m l H tm S (cc5 S.length) S (aT t1 tm) = kR P N l H tm S o (cc5 S.length) S (aT t1 tm) := by kernel_rfl) : (Code.region id l.toArray false).wp P Q a w := rs1 (dk := dkP) G H hh.1 hh.2 (cc5 S.length) S (aT t1 tm) o ho (fun _ _ _ => k) (congrArg Prod.fst h) (congrArg Prod.snd h)
theorem m7 (G : v5 φ ψ w0 F N m ρ0 ρ S tm a w) (hh : HH P H) (t1 : List (Nat × AV)) (k : ∀ {ρ' a' w'}, v5 φ ψ w0 F N m ρ0 ρ' S (aT t1 tm) a' w' → Q .normal a' w') (h : kL P N m l H tm S (cc5 S.length) S (aT t1 tm) = kR P N l H tm S [] (cc5 S.length) S (aT t1 tm) := by kernel_rfl) : (Code.region id l.toArray false).wp P Q a w := O0 G hh t1 [] cc2 k h
theorem L7 (G : v5 φ ψ w0 F N m ρ0 ρ S tm a w) (hh : HH P H) (ms : List Nat) (js : List Nat) (S1 : List It) (t1 : List (Nat × AV)) (o : List Prop) (ho : v6 o) (k : ∀ {ρ' a' w'}, v5 φ ψ w0 F N m ρ0 ρ' S1 t1 a' w' → Q .normal a' w') (hm : P.follows .mixedOrders = true := by kernel_rfl) (h : kM P N m l H ms tm S js S1 t1 = kR P N l H tm S o js S1 t1 := by kernel_rfl) : (Code.region id l.toArray true).wp P Q a w := rd1 (dk := dkP) G H hh.1 hh.2 ms js S1 t1 o ho (fun _ _ _ => k) hm (congrArg Prod.fst h) (congrArg Prod.snd h)
theorem bu2 (G : v5 φ ψ w0 F N m ρ0 ρ S tm a w) (hh : HH P H) (ms : List Nat) (js : List Nat) (S1 : List It) (t1 : List (Nat × AV)) (k : ∀ {ρ' a' w'}, v5 φ ψ w0 F N m ρ0 ρ' S1 t1 a' w' → Q .normal a' w') (hm : P.follows .mixedOrders = true := by kernel_rfl) (h : kM P N m l H ms tm S js S1 t1 = kR P N l H tm S [] js S1 t1 := by kernel_rfl) : (Code.region id l.toArray true).wp P Q a w := L7 G hh ms js S1 t1 [] cc2 k hm h
theorem bk7 (G : v5 φ ψ w0 F N m ρ0 ρ S tm a w) (hh : HH P H) (ms : List Nat) (t1 : List (Nat × AV)) (o : List Prop) (ho : v6 o) (k : ∀ {ρ' a' w'}, v5 φ ψ w0 F N m ρ0 ρ' S (aT t1 tm) a' w' → Q .normal a' w') (hm : P.follows .mixedOrders = true := by kernel_rfl) (h : kM P N m l H ms tm S (cc5 S.length) S (aT t1 tm) = kR P N l H tm S o (cc5 S.length) S (aT t1 tm) := by kernel_rfl) : (Code.region id l.toArray true).wp P Q a w := rd1 (dk := dkP) G H hh.1 hh.2 ms (cc5 S.length) S (aT t1 tm) o ho (fun _ _ _ => k) hm (congrArg Prod.fst h) (congrArg Prod.snd h)
theorem bG1 (G : v5 φ ψ w0 F N m ρ0 ρ S tm a w) (hh : HH P H) (ms : List Nat) (t1 : List (Nat × AV)) (k : ∀ {ρ' a' w'}, v5 φ ψ w0 F N m ρ0 ρ' S (aT t1 tm) a' w' → Q .normal a' w') (hm : P.follows .mixedOrders = true := by kernel_rfl) (h : kM P N m l H ms tm S (cc5 S.length) S (aT t1 tm) = kR P N l H tm S [] (cc5 S.length) S (aT t1 tm) := by kernel_rfl) : (Code.region id l.toArray true).wp P Q a w := bk7 G hh ms t1 [] cc2 k hm h
variable {c : Nat} {x y : Code}
theorem rcB {b : Bool} (G : v5 φ ψ w0 F N m ρ0 ρ S tm a w) (f : b = false → y.wp P Q a w) (t : b = true → x.wp P Q a w) (h : z9 tm c = some (.v (.bool b)) := by rfl) : (Code.cond (.tmp c) x y).wp P Q a w := ah4 G b h t f
theorem rcE {α : Type} [BEq α] [LawfulBEq α] {u v : α} (G : v5 φ ψ w0 F N m ρ0 ρ S tm a w) (f : (u == v) = false → u ≠ v → y.wp P Q a w) (t : (u == v) = true → u = v → x.wp P Q a w) (h : z9 tm c = some (.v (.bool (u == v))) := by rfl) : (Code.cond (.tmp c) x y).wp P Q a w := ah4 G _ h (fun q => t q (eq_of_beq q)) fun q => f q (ne_of_beq_false q)
theorem rcN {α : Type} [BEq α] [LawfulBEq α] {u v : α} (G : v5 φ ψ w0 F N m ρ0 ρ S tm a w) (f : (u != v) = false → u = v → y.wp P Q a w) (t : (u != v) = true → u ≠ v → x.wp P Q a w) (h : z9 tm c = some (.v (.bool (u != v))) := by rfl) : (Code.cond (.tmp c) x y).wp P Q a w := ah4 G _ h (fun q => t q (bne_iff_ne.1 q)) fun q => f q (bne_eq_false_iff_eq.1 q)
theorem rcD {p : Prop} [Decidable p] (G : v5 φ ψ w0 F N m ρ0 ρ S tm a w) (f : decide p = false → ¬ p → y.wp P Q a w) (t : decide p = true → p → x.wp P Q a w) (h : z9 tm c = some (.v (.bool (decide p))) := by rfl) : (Code.cond (.tmp c) x y).wp P Q a w := ah4 G _ h (fun q => t q (dTt q)) fun q => f q (dFf q)
end
section
variable {P : Program} {f : FuncId}
theorem al2 {args : List AV} {S : List It} {x : Value} (h : ∀ (φ : Nat → Prop) (w : World) (ρ : Nat → Value), (∀ i d, o0 S i = .dat d → RD w φ d (ρ i)) → Calls P f (AV.vals ρ args).toArray w fun e w' => e = .returned x ∧ Below w.heap.size w w') : j9.ok P (fnC f args S (.v x)) := by
 intro ι φ ψ w0 w F ρ M
 refine (h (Y0 φ (l7 F ρ (o0 S))) w ρ fun i d hi => M.datAt hi).mono ?_
 rintro e w' ⟨rfl, hb⟩
 exact ⟨ρ, fun _ _ => rfl, rfl, M.call hb⟩
end
theorem a28 (n lo hi : Int) : j9.ok Tryz.prog (fnC 34 [iA n, iA lo, iA hi] [] (bA (decide (lo ≤ n) && decide (n ≤ hi)))) :=
 al2 fun φ w ρ _ => (D2 n lo hi w).mono fun e w' h => ⟨h.1, h.2 ▸ Below.refl _ _⟩
theorem at1 (p : j8) : j9.ok Tryz.prog (fnC 54 [pA 0] (pS p) (bA (F0 p.vars p.arrays))) :=
 al2 fun φ w ρ h => an7 (ρ 0) (ρ 1) (ρ 2) _ _ w (l9.row (h 0 _ rfl)) (l9.row (h 1 _ rfl))
mutual
theorem bX2 : ∀ s : c8, nS s ≤ 1 + szS s
 | ⟨_, _, _, _, _, b, e⟩ => by
  have h1 := aO8 b
  have h2 := aO8 e
  simp only [nS, szS]; omega
theorem aO8 : ∀ ss : List c8, nSs ss ≤ v7 ss
 | [] => cb1 _
 | s :: r => by
  have h1 := bX2 s
  have h2 := aO8 r
  simp only [nSs, v7]; omega
end
theorem aB9 (a b : List c8) : nSs (a ++ b) = nSs a + nSs b := by
 induction a with
 | nil => simp [nSs]
 | cons x r ih => simp [nSs, ih]; omega
theorem aO9 (s : c8) : nS s = 1 + nSs s.body + nSs s.els := by cases s; simp only [nS]; rfl
theorem ac7 {nv na d : Nat} {s : c8} (h : m6 nv na (d + 1) s = true) : s.body.all (m6 nv na d) = true ∧ s.els.all (m6 nv na d) = true := by
 rw [m6, cb0] at h
 obtain ⟨h1, h2⟩ := h
 unfold n9 at h1
 by_cases k3 : s.kind = 3
 ·rw [if_neg (by omega), if_neg (by omega), if_pos k3] at h2
  simp only [cb0] at h2
  exact ⟨h2.1.2, h2.2⟩
 by_cases k4 : s.kind = 4
 ·rw [if_neg (by omega), if_neg (by omega), if_neg (by omega), if_pos k4] at h2
  rw [if_pos (.inr k4), if_pos k4] at h1
  simp only [cb0, decide_eq_true_eq] at h1
  exact ⟨h2, by rw [cc8 h1.2.1.1.1.1]; rfl⟩
 ·rw [if_neg (by omega)] at h1
  simp only [cb0, decide_eq_true_eq] at h1
  exact ⟨by rw [cc8 h1.1.1.1]; rfl, by rw [cc8 h1.1.1.2]; rfl⟩
theorem aJ0 (s : c8) : v7 s.body ≤ szS s ∧ v7 s.els ≤ szS s := by
 rcases s with ⟨_, _, _, _, _, b, e⟩
 simp only [szS, c8.body, c8.els]
 omega
theorem a07 {nv na : Nat} : ∀ {ss : List c8}, (∀ s ∈ ss, m6 nv na 1 s = true) → nSs ss = ss.length
 | [], _ => rfl
 | s :: r, h => by
  have h1 := ac7 (h s ce6)
  have key : ∀ l : List c8, l.all (m6 nv na 0) = true → l = [] := fun l hl => by
   cases l with
   | nil => rfl
   | cons a r => simp [m6] at hl
  have h2 := a07 (ss := r) fun x hx => h x (ce5 _ hx)
  rw [nSs, aO9, key _ h1.1, key _ h1.2, h2]
  simp [nSs]; omega
def bB9 (x y : Int) : Int := IntKind.i64.wrap ((BitVec.ofInt (IntKind.bits .i64) x &&& BitVec.ofInt (IntKind.bits .i64) y).toNat : Int)
def a47 (x y : Int) : Int := IntKind.i64.wrap ((BitVec.ofInt (IntKind.bits .i64) x ^^^ BitVec.ofInt (IntKind.bits .i64) y).toNat : Int)
theorem j9.dup {P : Program} {f : FuncId} {args args' : List AV} {S S' : List It} {d : D} {res : AV} {i : Nat} (hc : j9.ok P ⟨f, args, S ++ [.dat d], S' ++ [.dat d], res⟩) (hi : S[i]? = some (.dat d)) (hl : S'.length = S.length)
  (hS : S.all (fun x => ab6 S.length x.ids) = true) (ha : ∀ ρ : Nat → Value, ρ S.length = ρ i → AV.vals ρ args = AV.vals ρ args') (hg : ab6 S.length (AV.idsL args') = true) : j9.ok P ⟨f, args', S, S', res⟩ := by
 intro ι φ ψ w0 w F ρ M
 have hi' : o0 S i = .dat d := by simp [o0, hi]
 have hlt : i < S.length := (cb6.1 hi).1
 have hinv : Inv (o0 S) ρ [S.length] := fun ρ' h j => by
  by_cases hj : j < S.length
  ·refine It.res_congr _ (fun k hk => h k ?_) (.inr (.inr (h j (by simp; omega))))
   have h1 := I4 (cb9.1 hS (S[j]) (cd1 hj)) k (by simpa [o0, cb3, ca8 hj] using hk)
   simp; omega
  ·rw [show o0 S j = .none by simp only [o0, cb3, cd6 (Nat.le_of_not_lt hj)]; rfl]; rfl
 obtain ⟨ρ', h1, M1, h2⟩ := M.newDat (id := S.length) (by simp [o0]) hinv (M.datAt hi')
 have e : l8 (o0 S) [(S.length, .dat d)] = o0 (S ++ [.dat d]) := by
  funext j
  simp only [l8, o0, cb3]
  by_cases hj : j = S.length
  ·subst hj; simp
  ·rw [if_neg hj]
   by_cases hj2 : j < S.length
   ·rw [cd5 hj2]
   ·rw [cd6 (by omega), cd6 (by simp; omega)]
 rw [e] at M1
 have hρ : ρ' i = ρ i := h1 i (by simp; omega)
 have ea : AV.vals ρ args' = AV.vals ρ' args := by
  rw [ha ρ' (by rw [← h2, hρ])]
  exact (AV.vals_congr _ fun k hk => by
   have := I4 hg k hk
   exact h1 k (by simp; omega)).symm
 simp only
 rw [ea]
 refine (hc ι φ ψ w0 w F ρ' M1).mono ?_
 rintro x w' ⟨ρ2, g1, g2, M2⟩
 refine ⟨ρ2, fun k hk => ?_, g2, ?_⟩
 ·rw [g1 k (by simp; omega)]; exact h1 k (by simp; omega)
 ·refine M2.map (fun k => match k with | .inl i => some (.inl i) | .inr j => if j < S'.length then some (.inr j) else none) ?_ ?_
  ·intro k k' x h1 h2
   match k, k' with
   | .inl i, .inl i' => simp at h1 h2; rw [h1, h2]
   | .inl i, .inr j => simp at h1; subst h1; simp at h2
   | .inr j, .inl i => simp at h2; subst h2; simp at h1
   | .inr j, .inr j' => simp at h1 h2; rw [← h1.2] at h2; rw [Sum.inr.inj h2.2]
  ·intro k
   match k with
   | .inl i => exact .inl ⟨.inl i, rfl, rfl⟩
   | .inr j =>
    by_cases hj : j < S'.length
    ·refine .inl ⟨.inr j, by simp [hj], ?_⟩
     simp only [l7, o0, cb3, cd5 hj]
    ·refine .inr ?_
     simp only [l7, o0, cb3, cd6 (Nat.le_of_not_lt hj)]
     rfl
def pkX (b : List UInt8) (k : Int) : Int := ((b.getD (k.tmod b.length).toNat 0).toNat : Int) * 131 + ((b.getD ((k * 7 + 3).tmod b.length).toNat 0).toNat : Int) * 1117 + k * 29 + k.tdiv b.length * 53
def pk (b : List UInt8) (k n : Int) : Int :=
 if n < 1 ∨ b.length = 0 then 0 else if k < b.length then ((b.getD k.toNat 0).toNat : Int).tmod n else (a47 (pkX b k) ((pkX b k).tdiv 64)).tmod n
def nm (b : List UInt8) (k : Int) (l : List Int) : Int := l.getD (pk b k l.length).toNat 0
theorem bC5 {x y : Int} (hx : 0 ≤ x) (hx2 : x < 9223372036854775808) (hy : 0 ≤ y) (hy2 : y < 9223372036854775808) : 0 ≤ a47 x y := by
 obtain ⟨a, rfl⟩ := Int.eq_ofNat_of_zero_le hx
 obtain ⟨c, rfl⟩ := Int.eq_ofNat_of_zero_le hy
 have ha : a < 2 ^ 63 := by omega
 have hc : c < 2 ^ 63 := by omega
 have h : (BitVec.ofInt (IntKind.bits .i64) (a : Int) ^^^ BitVec.ofInt (IntKind.bits .i64) (c : Int)).toNat < 2 ^ 63 := by
  rw [BitVec.toNat_xor]
  refine Nat.xor_lt_two_pow ?_ ?_
  ·simp only [BitVec.ofInt_natCast, BitVec.toNat_ofNat, IntKind.bits]; omega
  ·simp only [BitVec.ofInt_natCast, BitVec.toNat_ofNat, IntKind.bits]; omega
 unfold a47
 generalize (BitVec.ofInt (IntKind.bits .i64) (a : Int) ^^^ BitVec.ofInt (IntKind.bits .i64) (c : Int)).toNat = z at h ⊢
 rw [w64 (by omega) (by omega)]
 omega
theorem aU5 (x : UInt8) : ((x.toNat : Nat) : Int) ≤ 255 := by have := x.toNat_lt; omega
theorem aU9 {k n : Int} (hk : 0 ≤ k) (hn : 1 ≤ n) : 0 ≤ k.tdiv n ∧ k.tdiv n ≤ k := by
 refine ⟨Int.tdiv_nonneg hk (by omega), ?_⟩
 rw [Int.tdiv_eq_ediv_of_nonneg hk]
 exact Int.ediv_le_self _ hk
theorem aX7 {b : List UInt8} {k : Int} (hk : 0 ≤ k) (hk2 : k ≤ 1000000000) (hb : b.length ≠ 0) : 0 ≤ pkX b k ∧ pkX b k ≤ 100000000000 := by
 unfold pkX
 have h1 := aU5 (b.getD (k.tmod b.length).toNat 0)
 have h2 := aU5 (b.getD ((k * 7 + 3).tmod b.length).toNat 0)
 have h3 := aU9 (n := b.length) hk (by omega)
 omega
theorem a53 {x n : Int} (hx : 0 ≤ x) (hn : 1 ≤ n) : 0 ≤ x.tmod n ∧ x.tmod n < n := ⟨Int.tmod_nonneg _ hx, Int.tmod_lt_of_pos _ (by omega)⟩
theorem bM0 {b : List UInt8} {k : Int} (hk : 0 ≤ k) (hk2 : k ≤ 1000000000) (hb : b.length ≠ 0) : 0 ≤ (pkX b k).tdiv 64 ∧ (pkX b k).tdiv 64 ≤ 100000000000 := by
 have h := aX7 hk hk2 hb
 have h2 := aU9 (n := 64) h.1 (by omega)
 omega
theorem bG5 (b : List UInt8) {k n : Int} (hk : 0 ≤ k) (hk2 : k ≤ 1000000000) (hn : 1 ≤ n) : 0 ≤ pk b k n ∧ pk b k n < n := by
 unfold pk
 split
 ·omega
 ·split
  ·exact a53 (by omega) hn
  ·have h := aX7 hk hk2 (show b.length ≠ 0 by omega)
   have h2 := bM0 hk hk2 (show b.length ≠ 0 by omega)
   exact a53 (bC5 h.1 (by omega) h2.1 (by omega)) hn
theorem bg8 (b : List UInt8) {k : Int} (hk : 0 ≤ k) (hk2 : k ≤ 1000000000) {l : List Int} (hl : l ≠ []) : 0 ≤ pk b k l.length ∧ pk b k l.length < l.length ∧ (pk b k l.length).toNat < l.length := by
 have h0 : 0 < l.length := List.length_pos_iff.2 hl
 have h := bG5 b (n := l.length) hk hk2 (by omega)
 omega
theorem al3 (b : List UInt8) {k : Int} (hk : 0 ≤ k) (hk2 : k ≤ 1000000000) {l : List Int} (hl : l ≠ []) : nm b k l ∈ l := by
 unfold nm
 rw [o8 (bg8 b hk hk2 hl).2.2]
 exact cd1 _
def G7 {α : Type} (f : Int → α × Int) : Nat → Int → List α × Int
 | 0, k => ([], k)
 | n + 1, k => ((G7 f n k).1 ++ [(f (G7 f n k).2).1], (f (G7 f n k).2).2)
theorem aR3 {α : Type} (f : Int → α × Int) (n : Nat) (k : Int) : (G7 f n k).1.length = n := by
 induction n with
 | zero => rfl
 | succ n ih => simp [G7, ih]
theorem bz0 {α : Type} {f : Int → α × Int} {c : Int} (hc : 0 ≤ c) {m : Nat} : ∀ (n : Nat) (k : Int), n ≤ m → (∀ j, k ≤ j → j ≤ k + m * c → j ≤ (f j).2 ∧ (f j).2 ≤ j + c) → k ≤ (G7 f n k).2 ∧ (G7 f n k).2 ≤ k + n * c := by
 intro n
 induction n with
 | zero => intro k _ _; simp [G7]
 | succ n ih =>
  intro k hm h
  have h1 := ih k (by omega) h
  have e : ((n + 1 : Nat) : Int) * c = n * c + c := by rw [Int.natCast_add, Int.add_mul]; simp
  have h3 : ((n + 1 : Nat) : Int) * c ≤ m * c := cf6 (by omega) hc
  have h2 := h (G7 f n k).2 h1.1 (by omega)
  simp only [G7]
  rw [e]
  omega
theorem bI6 {α : Type} {f : Int → α × Int} {Q : α → Prop} (h : ∀ j, Q (f j).1) (n : Nat) (k : Int) : ∀ x ∈ (G7 f n k).1, Q x := by
 induction n with
 | zero => intro x hx; cases hx
 | succ n ih =>
  intro x hx
  simp only [G7, cc4, cd4] at hx
  rcases hx with hx | rfl
  ·exact ih x hx
  ·exact h _
abbrev atL : List Int := [1] ++ ([0] ++ ([2] ++ ([3] ++ ([255] ++ ([7] ++ ([128] ++ []))))))
def n7 (b : List UInt8) (nv : Int) (k : Int) : d9 := if pk b k 3 = 0 then ⟨1, nm b (k + 1) atL, []⟩ else ⟨2, pk b (k + 1) nv, []⟩
abbrev N6 : List Int := [4] ++ ([10] ++ ([8] ++ ([9] ++ ([3] ++ ([6] ++ ([7] ++ ([5] ++ ([11] ++ []))))))))
def L8 (b : List UInt8) (nv na : Int) : Nat → Int → d9 × Int
 | 0, k => (n7 b nv k, k + 2)
 | d + 1, k => if d = 0 then (n7 b nv k, k + 2) else if pk b k 4 = 0 then (n7 b nv (k + 1), k + 3)
  else if nm b (k + 1) N6 = 3 then (if na = 0 then (n7 b nv (k + 2), k + 4) else (⟨3, pk b (k + 2) na, [n7 b nv (k + 3)]⟩, k + 5))
  else (⟨nm b (k + 1) N6, 0, (G7 (L8 b nv na d) (t7 (nm b (k + 1) N6)).toNat (k + 2)).1⟩, (G7 (L8 b nv na d) (t7 (nm b (k + 1) N6)).toNat (k + 2)).2)
def cE : Nat → Int
 | 0 => 2
 | d + 1 => 5 + 3 * cE d
theorem aF3 (d : Nat) : 2 ≤ cE d := by
 induction d with
 | zero => exact Int.le_refl _
 | succ d ih => simp only [cE]; omega
theorem ar3 (k : Int) : (t7 k).toNat ≤ 3 := by unfold t7; (repeat' split) <;> decide
theorem a20 (b : List UInt8) (nv na : Int) : ∀ (d : Nat) (k : Int), k ≤ (L8 b nv na d k).2 ∧ (L8 b nv na d k).2 ≤ k + cE d
 | 0, k => by simp only [L8, cE]; omega
 | d + 1, k => by
  have hc := aF3 d
  rw [L8]
  simp only [cE]
  split
  ·simp only; omega
  ·split
   ·simp only; omega
   ·split
    ·split <;> (simp only; omega)
    ·have h3 := ar3 (nm b (k + 1) N6)
     have h := bz0 (f := L8 b nv na d) (c := cE d) (m := 3) (by omega) (t7 (nm b (k + 1) N6)).toNat (k + 2) h3 fun j _ _ => a20 b nv na d j
     have h4 : ((t7 (nm b (k + 1) N6)).toNat : Int) * cE d ≤ 3 * cE d := cf6 (by omega) (by omega)
     simp only
     omega
theorem be2 {c : Nat} : ∀ {l : List d9}, (∀ x ∈ l, T2 x ≤ c) → P6 l ≤ l.length * (1 + c)
 | [], _ => cc7 _
 | e :: r, h => by
  have h1 := h e (ce6 ..)
  have h2 := be2 (l := r) fun x hx => h x (ce5 _ hx)
  simp only [P6, cb8]
  rw [Nat.add_mul]
  omega
theorem bz1 (b : List UInt8) (nv na : Int) : ∀ (d : Nat) (k : Int), (T2 (L8 b nv na d k).1 : Int) ≤ cE d
 | 0, k => by
  simp only [L8, cE, n7]
  split <;> simp [T2, P6]
 | d + 1, k => by
  have hc := aF3 d
  have ha : ∀ j, T2 (n7 b nv j) = 0 := fun j => by unfold n7; split <;> rfl
  rw [L8]
  simp only [cE]
  split
  ·simp only [ha]; omega
  ·split
   ·simp only [ha]; omega
   ·split
    ·split
     ·simp only [ha]; omega
     ·simp only [T2, P6, ha]; omega
    ·have h3 := ar3 (nm b (k + 1) N6)
     have h1 := bI6 (f := L8 b nv na d) (Q := fun x => T2 x ≤ (cE d).toNat) (fun j => by have := bz1 b nv na d j; omega) (t7 (nm b (k + 1) N6)).toNat (k + 2)
     have h2 := be2 h1
     rw [aR3] at h2
     simp only [T2]
     have h4 := ce8 (1 + (cE d).toNat) h3
     omega
abbrev dpL : List Int := [2] ++ ([3] ++ ([2] ++ ([1] ++ ([4] ++ []))))
def w6 (b : List UInt8) (nv na : Nat) (k : Int) : d9 × Int :=
 if r7 nv na (L8 b nv na (nm b k dpL).toNat (k + 1)).1 = true then L8 b nv na (nm b k dpL).toNat (k + 1)
 else (n7 b nv (L8 b nv na (nm b k dpL).toNat (k + 1)).2, (L8 b nv na (nm b k dpL).toNat (k + 1)).2 + 2)
theorem cE4 {d : Nat} (h : d ≤ 4) : cE d ≤ 364 := by
 match d, h with
 | 0, _ => decide
 | 1, _ => decide
 | 2, _ => decide
 | 3, _ => decide
 | 4, _ => decide
theorem dp4 (b : List UInt8) {k : Int} (hk : 0 ≤ k) (hk2 : k ≤ 1000000000) : 1 ≤ nm b k dpL ∧ nm b k dpL ≤ 4 ∧ (nm b k dpL).toNat ≤ 4 := by
 have h := al3 b hk hk2 (l := dpL) (by simp)
 simp only [cc4, ce7, List.not_mem_nil, or_false] at h
 omega
theorem bS1 (b : List UInt8) {k : Int} (hk : 0 ≤ k) (hk2 : k ≤ 1000000000) : nm b k dpL = ((nm b k dpL).toNat : Int) := by have := dp4 b hk hk2; omega
theorem be8 (b : List UInt8) (nv na : Nat) {k : Int} (hk : 0 ≤ k) (hk2 : k ≤ 1000000000) : k ≤ (w6 b nv na k).2 ∧ (w6 b nv na k).2 ≤ k + 367 := by
 have h := a20 b nv na (nm b k dpL).toNat (k + 1)
 have h2 := cE4 (dp4 b hk hk2).2.2
 unfold w6
 split
 ·omega
 ·simp only; omega
theorem a36 (b : List UInt8) (nv j : Int) : T2 (n7 b nv j) = 0 := by unfold n7; split <;> rfl
theorem a60 (b : List UInt8) (nv na : Nat) {k : Int} (hk : 0 ≤ k) (hk2 : k ≤ 1000000000) : T2 (w6 b nv na k).1 ≤ 364 := by
 have h := bz1 b nv na (nm b k dpL).toNat (k + 1)
 have h2 := cE4 (dp4 b hk hk2).2.2
 unfold w6
 split
 ·omega
 ·rw [a36]; omega
abbrev noE : d9 := ⟨0, 0, []⟩
abbrev K2 : List Int := [1] ++ ([1] ++ ([2] ++ ([3] ++ ([4] ++ ([1] ++ ([3] ++ ([5] ++ [])))))))
abbrev ibL : List Int := [1] ++ ([2] ++ ([1] ++ ([0] ++ [])))
abbrev ieL : List Int := [0] ++ ([1] ++ ([0] ++ ([2] ++ [])))
abbrev rcL : List Int := [2] ++ ([1] ++ ([3] ++ []))
abbrev rbL : List Int := [1] ++ ([2] ++ ([1] ++ []))
def dfS (b : List UInt8) (nv na : Nat) (kd k : Int) : c8 × Int := (⟨if kd = 5 then 5 else 1, pk b k nv, noE, (w6 b nv na (k + 1)).1, 0, [], []⟩, (w6 b nv na (k + 1)).2)
def soS (b : List UInt8) (nv na : Nat) (k : Int) : c8 × Int := (⟨2, pk b k na, n7 b nv (k + 1), (w6 b nv na (k + 1 + 2)).1, 0, [], []⟩, (w6 b nv na (k + 1 + 2)).2)
def mnD (b : List UInt8) (f : Int → c8 × Int) (l : List Int) (k : Int) : List c8 × Int := G7 f (nm b k l).toNat (k + 1)
def ifS (b : List UInt8) (nv na : Nat) (f : Int → c8 × Int) (k : Int) : c8 × Int :=
 (⟨3, 0, noE, (w6 b nv na k).1, 0, (mnD b f ibL (w6 b nv na k).2).1, (mnD b f ieL (mnD b f ibL (w6 b nv na k).2).2).1⟩, (mnD b f ieL (mnD b f ibL (w6 b nv na k).2).2).2)
def rpS (b : List UInt8) (f : Int → c8 × Int) (k : Int) : c8 × Int := (⟨4, 0, noE, noE, nm b k rcL, (mnD b f rbL (k + 1)).1, []⟩, (mnD b f rbL (k + 1)).2)
def C4 (b : List UInt8) (nv na : Nat) : Nat → Int → c8 × Int
 | 0, k => if nm b k K2 = 2 ∧ na ≠ 0 then soS b nv na (k + 1) else dfS b nv na (nm b k K2) (k + 1)
 | d + 1, k => if nm b k K2 = 2 ∧ na ≠ 0 then soS b nv na (k + 1) else if nm b k K2 = 3 ∧ d ≠ 0 then ifS b nv na (C4 b nv na d) (k + 1) else if nm b k K2 = 4 ∧ d ≠ 0 then rpS b (C4 b nv na d) (k + 1)
  else dfS b nv na (nm b k K2) (k + 1)
def cS : Nat → Int
 | 0 => 402
 | d + 1 => 402 + 4 * cS d
theorem av5 (d : Nat) : 402 ≤ cS d := by
 induction d with
 | zero => exact Int.le_refl _
 | succ d ih => simp only [cS]; omega
section
variable (b : List UInt8) (nv na : Nat) {k : Int}
theorem bM6 (kd : Int) (hk : 0 ≤ k) (hk2 : k + 400 ≤ 1000000000) : k ≤ (dfS b nv na kd k).2 ∧ (dfS b nv na kd k).2 ≤ k + 368 := by
 have h := be8 b nv na (k := k + 1) (by omega) (by omega)
 simp only [dfS]; omega
theorem bL1 (hk : 0 ≤ k) (hk2 : k + 400 ≤ 1000000000) : k ≤ (soS b nv na k).2 ∧ (soS b nv na k).2 ≤ k + 370 := by
 have h := be8 b nv na (k := k + 1 + 2) (by omega) (by omega)
 simp only [soS]; omega
theorem nm2 {l : List Int} (hl : l ≠ []) (h : ∀ x ∈ l, 0 ≤ x ∧ x ≤ 2) (hk : 0 ≤ k) (hk2 : k ≤ 1000000000) : (nm b k l).toNat ≤ 2 ∧ nm b k l = ((nm b k l).toNat : Int) := by
 have := h _ (al3 b hk hk2 hl); omega
theorem bw2 {f : Int → c8 × Int} {c : Int} {l : List Int} (hl : l ≠ []) (h : ∀ x ∈ l, 0 ≤ x ∧ x ≤ 2) (hc : 0 ≤ c) (hk : 0 ≤ k) (hk2 : k + 1 + 2 * c ≤ 1000000000) (hf : ∀ j, 0 ≤ j → j + c ≤ 1000000000 → j ≤ (f j).2 ∧ (f j).2 ≤ j + c) : k ≤ (mnD b f l k).2 ∧ (mnD b f l k).2 ≤ k + 1 + 2 * c := by
 have h2 := (nm2 b hl h hk (by omega)).1
 have h3 : ∀ m : Nat, m ≤ 2 → k + 1 ≤ (G7 f m (k + 1)).2 ∧ (G7 f m (k + 1)).2 ≤ k + 1 + m * c := by
  intro m
  induction m with
  | zero => intro _; simp [G7]
  | succ m ih =>
   intro hm
   have h4 := ih (by omega)
   have h6 : (m : Int) * c ≤ 1 * c := cf6 (by omega) hc
   have h5 := hf (G7 f m (k + 1)).2 (by omega) (by omega)
   have e : ((m + 1 : Nat) : Int) * c = m * c + c := by rw [Int.natCast_add, Int.add_mul]; simp
   simp only [G7]
   rw [e]
   omega
 have h4 := h3 _ h2
 have h6 : ((nm b k l).toNat : Int) * c ≤ 2 * c := cf6 (by omega) hc
 unfold mnD
 omega
theorem a97 : ∀ x : Int, x ∈ ibL → 0 ≤ x ∧ x ≤ 2 := by intro x hx; simp only [cc4, ce7, List.not_mem_nil, or_false] at hx; omega
theorem a95 : ∀ x : Int, x ∈ ieL → 0 ≤ x ∧ x ≤ 2 := by intro x hx; simp only [cc4, ce7, List.not_mem_nil, or_false] at hx; omega
theorem a71 : ∀ x : Int, x ∈ rbL → 0 ≤ x ∧ x ≤ 2 := by intro x hx; simp only [cc4, ce7, List.not_mem_nil, or_false] at hx; omega
theorem bM5 {f : Int → c8 × Int} {c : Int} (hc : 0 ≤ c) (hk : 0 ≤ k) (hk2 : k + 380 + 4 * c ≤ 1000000000) (hf : ∀ j, 0 ≤ j → j + c ≤ 1000000000 → j ≤ (f j).2 ∧ (f j).2 ≤ j + c) : k ≤ (w6 b nv na k).2 ∧ (w6 b nv na k).2 ≤ k + 367 ∧ (w6 b nv na k).2 ≤ (mnD b f ibL (w6 b nv na k).2).2 ∧ (mnD b f ibL (w6 b nv na k).2).2 ≤ k + 370 + 2 * c ∧ k ≤ (ifS b nv na f k).2 ∧ (ifS b nv na f k).2 ≤ k + 380 + 4 * c := by
 have h1 := be8 b nv na (k := k) (by omega) (by omega)
 have h2 := bw2 b (k := (w6 b nv na k).2) (f := f) (c := c) (l := ibL) (by simp) a97 hc (by omega) (by omega) hf
 have h3 := bw2 b (k := (mnD b f ibL (w6 b nv na k).2).2) (f := f) (c := c) (l := ieL) (by simp) a95 hc (by omega) (by omega) hf
 simp only [ifS]
 omega
theorem bW1 {f : Int → c8 × Int} {c : Int} (hc : 0 ≤ c) (hk : 0 ≤ k) (hk2 : k + 10 + 2 * c ≤ 1000000000) (hf : ∀ j, 0 ≤ j → j + c ≤ 1000000000 → j ≤ (f j).2 ∧ (f j).2 ≤ j + c) : k ≤ (rpS b f k).2 ∧ (rpS b f k).2 ≤ k + 10 + 2 * c := by
 have h2 := bw2 b (k := k + 1) (f := f) (c := c) (l := rbL) (by simp) a71 hc (by omega) (by omega) hf
 simp only [rpS]; omega
theorem aV3 : ∀ (d : Nat) (k : Int), 0 ≤ k → k + cS d ≤ 1000000000 → k ≤ (C4 b nv na d k).2 ∧ (C4 b nv na d k).2 ≤ k + cS d
 | 0, k, hk, hk2 => by
  rw [C4]
  simp only [cS] at hk2 ⊢
  have h1 := bL1 b nv na (k := k + 1) (by omega) (by omega)
  have h2 := bM6 b nv na (k := k + 1) (nm b k K2) (by omega) (by omega)
  split <;> omega
 | d + 1, k, hk, hk2 => by
  rw [C4]
  simp only [cS] at hk2 ⊢
  have hc := av5 d
  have ih := aV3 d
  have h1 := bL1 b nv na (k := k + 1) (by omega) (by omega)
  have h2 := bM6 b nv na (k := k + 1) (nm b k K2) (by omega) (by omega)
  have h3 := bM5 b nv na (k := k + 1) (f := C4 b nv na d) (c := cS d) (by omega) (by omega) (by omega) ih
  have h4 := bW1 b (k := k + 1) (f := C4 b nv na d) (c := cS d) (by omega) (by omega) (by omega) ih
  (repeat' split) <;> omega
theorem a86 : T2 noE = 0 := rfl
theorem bz2 (kd : Int) (hk : 0 ≤ k) (hk2 : k + 400 ≤ 1000000000) : szS (dfS b nv na kd k).1 ≤ 364 := by
 have h := a60 b nv na (k := k + 1) (by omega) (by omega)
 simp only [dfS, szS, v7, a86]; omega
theorem bs0 (hk : 0 ≤ k) (hk2 : k + 400 ≤ 1000000000) : szS (soS b nv na k).1 ≤ 364 := by
 have h := a60 b nv na (k := k + 1 + 2) (by omega) (by omega)
 simp only [soS, szS, v7, a36]; omega
def Drw (f : Int → c8 × Int) (c : Int) : Prop := ∀ j, 0 ≤ j → j + c ≤ 1000000000 → j ≤ (f j).2 ∧ (f j).2 ≤ j + c ∧ (szS (f j).1 : Int) ≤ c
theorem aR2 {f : Int → c8 × Int} {c : Int} (hc : 0 ≤ c) (hf : Drw f c) : ∀ (m : Nat) (k : Int), 0 ≤ k → k + m * c ≤ 1000000000 → k ≤ (G7 f m k).2 ∧ (G7 f m k).2 ≤ k + m * c ∧ (v7 (G7 f m k).1 : Int) ≤ m * (1 + c) := by
 intro m
 induction m with
 | zero => intro k _ _; simp [G7, v7]
 | succ m ih =>
  intro k hk hk2
  have e : ((m + 1 : Nat) : Int) * c = m * c + c := by rw [Int.natCast_add, Int.add_mul]; simp
  have e2 : ((m + 1 : Nat) : Int) * (1 + c) = m * (1 + c) + (1 + c) := by rw [Int.natCast_add, Int.add_mul]; simp
  rw [e] at hk2
  have h4 := ih k hk (by omega)
  have h5 := hf (G7 f m k).2 (by omega) (by omega)
  have h6 : v7 ((G7 f m k).1 ++ [(f (G7 f m k).2).1]) = v7 (G7 f m k).1 + (1 + szS (f (G7 f m k).2).1) := by
   generalize (G7 f m k).1 = l
   induction l with
   | nil => simp [v7]
   | cons a r ih => simp only [List.cons_append, v7]; omega
  simp only [G7]
  rw [e, e2, h6]
  omega
theorem a88 {f : Int → c8 × Int} {c : Int} {l : List Int} (hl : l ≠ []) (h : ∀ x ∈ l, 0 ≤ x ∧ x ≤ 2) (hc : 0 ≤ c) (hk : 0 ≤ k) (hk2 : k + 1 + 2 * c ≤ 1000000000) (hf : Drw f c) : (v7 (mnD b f l k).1 : Int) ≤ 2 * (1 + c) := by
 have h2 := (nm2 b hl h hk (by omega)).1
 have h6 : ((nm b k l).toNat : Int) * c ≤ 2 * c := cf6 (by omega) hc
 have h7 : ((nm b k l).toNat : Int) * (1 + c) ≤ 2 * (1 + c) := cf6 (by omega) (by omega)
 have h3 := (aR2 hc hf (nm b k l).toNat (k + 1) (by omega) (by omega)).2.2
 unfold mnD
 omega
theorem a58 : ∀ (d : Nat) (k : Int), 0 ≤ k → k + cS d ≤ 1000000000 → (szS (C4 b nv na d k).1 : Int) ≤ cS d
 | 0, k, hk, hk2 => by
  rw [C4]
  simp only [cS] at hk2 ⊢
  have h1 := bs0 b nv na (k := k + 1) (by omega) (by omega)
  have h2 := bz2 b nv na (k := k + 1) (nm b k K2) (by omega) (by omega)
  split <;> omega
 | d + 1, k, hk, hk2 => by
  rw [C4]
  simp only [cS] at hk2 ⊢
  have hc := av5 d
  have ih := aV3 b nv na d
  have hf : Drw (C4 b nv na d) (cS d) := fun j h1 h2 => ⟨(ih j h1 h2).1, (ih j h1 h2).2, a58 d j h1 h2⟩
  have h1 := bs0 b nv na (k := k + 1) (by omega) (by omega)
  have h2 := bz2 b nv na (k := k + 1) (nm b k K2) (by omega) (by omega)
  have h3 := bM5 b nv na (k := k + 1) (f := C4 b nv na d) (c := cS d) (by omega) (by omega) (by omega) ih
  have h4 := a60 b nv na (k := k + 1) (by omega) (by omega)
  have h5 := a88 b (k := (w6 b nv na (k + 1)).2) (l := ibL) (by simp) a97 (by omega) (by omega) (by omega) hf
  have h6 := a88 b (k := (mnD b (C4 b nv na d) ibL (w6 b nv na (k + 1)).2).2) (l := ieL) (by simp) a95 (by omega) (by omega) (by omega) hf
  have h7 := a88 b (k := k + 1 + 1) (l := rbL) (by simp) a71 (by omega) (by omega) (by omega) hf
  split
  ·omega
  ·split
   ·simp only [ifS, szS, a86]; omega
   ·split
    ·simp only [rpS, szS, a86, v7]; omega
    ·omega
theorem b02 (d : Nat) : Drw (C4 b nv na d) (cS d) := fun j h1 h2 => ⟨(aV3 b nv na d j h1 h2).1, (aV3 b nv na d j h1 h2).2, a58 b nv na d j h1 h2⟩
theorem bN0 {d m i : Nat} {B : Int} (hB : (m : Int) * cS d ≤ B) (hi : i ≤ m) (hk : 0 ≤ k) (hk2 : k + B ≤ 1000000000) : k ≤ (G7 (C4 b nv na d) i k).2 ∧ (G7 (C4 b nv na d) i k).2 ≤ k + B := by
 have hc := av5 d
 have h6 : (i : Int) * cS d ≤ m * cS d := cf6 (by omega) (by omega)
 have h := aR2 (by omega) (b02 b nv na d) i k hk (by omega)
 omega
theorem b29 {d m i : Nat} {B : Int} (hB : (m : Int) * cS d ≤ B) (hi : i < m) (hk : 0 ≤ k) (hk2 : k + B ≤ 1000000000) : (G7 (C4 b nv na d) i k).2 + cS d ≤ k + B := by
 have hc := av5 d
 have h6 : ((i + 1 : Nat) : Int) * cS d ≤ m * cS d := cf6 (by omega) (by omega)
 have e : ((i + 1 : Nat) : Int) * cS d = i * cS d + cS d := by rw [Int.natCast_add, Int.add_mul]; simp
 have h := aR2 (by omega) (b02 b nv na d) i k hk (by omega)
 omega
theorem bX3 {m : Int} {c : Int} (h0 : 0 ≤ m) (hm : m ≤ 2) (hc : 0 ≤ c) : (m.toNat : Int) * c ≤ 2 * c := cf6 (by omega) hc
theorem b84 {m : Int} {c : Int} (h0 : 0 ≤ m) (hm : m ≤ 4) (hc : 0 ≤ c) : (m.toNat : Int) * c ≤ 4 * c := cf6 (by omega) hc
end
theorem aK1 (b : List UInt8) {k : Int} {l : List Int} {m : Int} (hl : l ≠ []) (h : ∀ x ∈ l, 0 ≤ x ∧ x ≤ m) (hk : 0 ≤ k) (hk2 : k ≤ 1000000000) : 0 ≤ nm b k l ∧ nm b k l ≤ m := h _ (al3 b hk hk2 hl)
mutual
def AV.den (t : Bool) (n : Nat) : AV → AV
 | .v x => .v x
 | .ptr a b => .ptr a b
 | .ea a b c d => .ea a b c d
 | .ref i => if !t && natEq i n then .v (.slice none 0 0) else .ref i
 | .agg l => .agg (AV.denL t n l)
 | .tup l => .tup (AV.denL t n l)
 | .fn f l => .fn f (AV.denL t n l)
 | .bm f l => .bm f (AV.denL t n l)
 | .tref i => if t && natEq i n then .v (.slice none 0 0) else .tref i
def AV.denL (t : Bool) (n : Nat) : List AV → List AV
 | [] => []
 | x :: r => x.den t n :: AV.denL t n r
end
def It.den (t : Bool) (n : Nat) : It → It
 | .box cs => .box (AV.denL t n cs)
 | x => x
mutual
theorem AV.val_den {ρ : Nat → Value} {t : Bool} {n : Nat} {z : Value} (hz : if t then E0 z = .slice none 0 0 else z = .slice none 0 0) : ∀ (x : AV), (∀ i ∈ (x.den t n).ids, i < n) → x.val (fun j => if j = n then z else ρ j) = (x.den t n).val ρ ∧ ∀ i ∈ x.ids, i < n + 1
 | .v _, _ => ⟨rfl, fun i hi => by simp [AV.ids] at hi⟩
 | .ptr a b, h => by
  have ha : a < n := h a (by simp [AV.den, AV.ids])
  refine ⟨?_, fun i hi => by simp [AV.ids] at hi; omega⟩
  simp only [AV.den, AV.val]
  rw [if_neg (by omega)]
 | .ea a b c d, h => by
  have ha : a < n := h a (by simp [AV.den, AV.ids])
  refine ⟨?_, fun i hi => by simp [AV.ids] at hi; omega⟩
  simp only [AV.den, AV.val]
  rw [if_neg (by omega)]
 | .ref a, h => by
  by_cases e : t = false ∧ a = n
  ·obtain ⟨rfl, rfl⟩ := e
   refine ⟨?_, fun i hi => by simp [AV.ids] at hi; omega⟩
   simp only [Bool.false_eq_true, if_false] at hz
   simp [AV.den, AV.val, natEq, hz]
  ·have hd : (AV.ref a).den t n = .ref a := by
    simp only [AV.den]
    rw [if_neg]
    simp [natEq]; intro h1 h2; exact e ⟨h1, h2⟩
   rw [hd] at h ⊢
   have ha : a < n := h a (by simp [AV.ids])
   refine ⟨?_, fun i hi => by simp [AV.ids] at hi; omega⟩
   simp only [AV.val]
   rw [if_neg (by omega)]
 | .tref a, h => by
  by_cases e : t = true ∧ a = n
  ·obtain ⟨rfl, rfl⟩ := e
   refine ⟨?_, fun i hi => by simp [AV.ids] at hi; omega⟩
   simp only [if_true] at hz
   simp [AV.den, AV.val, natEq, hz]
  ·have hd : (AV.tref a).den t n = .tref a := by
    simp only [AV.den]
    rw [if_neg]
    simp [natEq]; intro h1 h2; exact e ⟨h1, h2⟩
   rw [hd] at h ⊢
   have ha : a < n := h a (by simp [AV.ids])
   refine ⟨?_, fun i hi => by simp [AV.ids] at hi; omega⟩
   simp only [AV.val]
   rw [if_neg (by omega)]
 | .agg l, h => by
  obtain ⟨h1, h2⟩ := AV.vals_den hz l (by simpa [AV.den, AV.ids] using h)
  exact ⟨by simp only [AV.den, AV.val]; rw [h1], by simpa [AV.ids] using h2⟩
 | .tup l, h => by
  obtain ⟨h1, h2⟩ := AV.vals_den hz l (by simpa [AV.den, AV.ids] using h)
  exact ⟨by simp only [AV.den, AV.val]; rw [h1], by simpa [AV.ids] using h2⟩
 | .fn f l, h => by
  obtain ⟨h1, h2⟩ := AV.vals_den hz l (by simpa [AV.den, AV.ids] using h)
  exact ⟨by simp only [AV.den, AV.val]; rw [h1], by simpa [AV.ids] using h2⟩
 | .bm f l, h => by
  obtain ⟨h1, h2⟩ := AV.vals_den hz l (by simpa [AV.den, AV.ids] using h)
  exact ⟨by simp only [AV.den, AV.val]; rw [h1], by simpa [AV.ids] using h2⟩
theorem AV.vals_den {ρ : Nat → Value} {t : Bool} {n : Nat} {z : Value} (hz : if t then E0 z = .slice none 0 0 else z = .slice none 0 0) : ∀ (l : List AV), (∀ i ∈ AV.idsL (AV.denL t n l), i < n) → AV.vals (fun j => if j = n then z else ρ j) l = AV.vals ρ (AV.denL t n l) ∧ ∀ i ∈ AV.idsL l, i < n + 1
 | [], _ => ⟨rfl, fun i hi => by simp [AV.idsL] at hi⟩
 | x :: r, h => by
  obtain ⟨h1, h2⟩ := AV.val_den hz x fun i hi => h i (by simp only [AV.denL, AV.idsL, cc4]; exact .inl hi)
  obtain ⟨h3, h4⟩ := AV.vals_den hz r fun i hi => h i (by simp only [AV.denL, AV.idsL, cc4]; exact .inr hi)
  refine ⟨by simp only [AV.denL, AV.vals]; rw [h1, h3], fun i hi => ?_⟩
  simp only [AV.idsL, cc4] at hi
  rcases hi with hi | hi
  ·exact h2 i hi
  ·exact h4 i hi
end
theorem aC5 {m : Bool} {n : Nat} {t : Nat} {x : AV} : ∀ {tm : List (Nat × AV)}, z9 tm t = some x → z9 (tm.map fun p => (p.1, p.2.den m n)) t = some (x.den m n)
 | [], h => by cases h
 | (k, y) :: r, h => by
  simp only [z9, cd7] at h ⊢
  split at h
  ·rename_i e; cases h; rw [if_pos e]
  ·rename_i e; rw [if_neg e]; exact aC5 h
section
variable {P : Program} {ι : Type} {φ ψ : Nat → Prop} {w0 w : World} {F : ι → Rs} {ρ ρ0 : Nat → Value} {N m n : Nat} {S : List It} {tm : List (Nat × AV)} {a : Act}
theorem v5.nilW (G : v5 φ ψ w0 F N m ρ0 ρ S tm a w) (n : Nat) (hn : S.length = n) (b : Bool) (x : It) (z : Value) (hz : if b then E0 z = .slice none 0 0 else z = .slice none 0 0) (hids : x.ids = []) (hb : ∀ g, ¬ (x.res (fun j => if j = n then z else ρ j) n).blk g)
  (hx : ∀ φ', (x.res (fun j => if j = n then z else ρ j) n).holds w φ') (S1 : List It) (tm1 : List (Nat × AV)) (hS : S = S1.map (It.den b n)) (ht : tm = tm1.map fun p => (p.1, p.2.den b n)) :
  ∃ ρ', v5 φ ψ w0 F N m ρ0 ρ' (S1 ++ [x]) tm1 a w := by
 have hl : S1.length = n := by rw [← hn, hS, List.length_map]
 have hat : ∀ j (hj : j < n), o0 S j = (S1[j]'(by omega)).den b n := fun j hj => by
  rw [as0 (show j < S.length by omega)]
  have h1 := congrArg (·[j]?) hS
  simp only [List.getElem?_map, ca8 (show j < S.length by omega), ca8 (show j < S1.length by omega), Option.map_some, Option.some.injEq] at h1
  exact h1
 have hnew : ∀ j (hj : j < n), o0 (S1 ++ [x]) j = S1[j]'(by omega) := fun j hj => by
  simp [o0, cb3, cd5 (show j < S1.length by omega), ca8 (show j < S1.length by omega)]
 have hlast : o0 (S1 ++ [x]) n = x := by
  simp [o0, cb3, ← hl]
 have hout : ∀ j, n < j → o0 (S1 ++ [x]) j = .none := fun j hj => y5 (by simp; omega)
 have hbx : ∀ j (hj : j < n), ((S1[j]'(by omega)).res (fun j => if j = n then z else ρ j) j = (o0 S j).res ρ j) ∧ ∀ i ∈ (S1[j]'(by omega)).ids, i < n + 1 := fun j hj => by
  rw [hat j hj]
  have hb := (G.bd j).1
  rw [hat j hj, hn] at hb
  generalize S1[j]'(by omega) = x at *
  cases x with
  | box cs =>
   obtain ⟨h1, h2⟩ := AV.vals_den (ρ := ρ) (n := n) hz cs hb
   refine ⟨?_, h2⟩
   simp only [It.res, It.den]
   rw [h1, if_neg (show ¬ j = n by omega)]
  | none => exact ⟨rfl, fun i hi => by cases hi⟩
  | dead => exact ⟨rfl, fun i hi => by cases hi⟩
  | dat d' => exact ⟨by simp only [It.res, It.den]; rw [if_neg (show ¬ j = n by omega)], fun i hi => by cases hi⟩
  | row e' d' => exact ⟨by simp only [It.res, It.den]; rw [if_neg (show ¬ j = n by omega)], fun i hi => by cases hi⟩
  | tree d' => exact ⟨by simp only [It.res, It.den]; rw [if_neg (show ¬ j = n by omega)], fun i hi => by cases hi⟩
  | kept e' d' => exact ⟨by cases e' <;> (simp only [It.res, It.den]; rw [if_neg (show ¬ j = n by omega)]), fun i hi => by cases hi⟩
  | hole k q ls =>
   have hk : k < n := hb k (by simp [It.den, It.ids])
   exact ⟨by simp only [It.res, It.den]; rw [if_neg (show ¬ j = n by omega), if_neg (show ¬ k = n by omega)], fun i hi => by simp [It.ids] at hi; omega⟩
 have hw : ∀ t x, z9 tm1 t = some x → x.val (fun j => if j = n then z else ρ j) = (x.den b n).val ρ ∧ ∀ i ∈ x.ids, i < n + 1 := fun t x hx => by
  refine AV.val_den hz x fun i hi => ?_
  have h1 : z9 tm t = some (x.den b n) := by rw [ht]; exact aC5 hx
  have := G.tmi t _ h1 i hi
  omega
 refine ⟨fun j => if j = n then z else ρ j, ?_⟩
 refine ⟨G.size, G.defs, fun t x hx => ?_, fun t x hx i hi => ?_, fun j => ⟨fun i hi => ?_, fun hj => y5 hj⟩, ?_, ?_, fun i hi => ?_⟩
 ·have h1 : z9 tm t = some (x.den b n) := by rw [ht]; exact aC5 hx
  rw [(hw t x hx).1]; exact G.tmv t _ h1
 ·have := (hw t x hx).2 i hi
  simp; omega
 ·rcases Nat.lt_trichotomy j n with h | h | h
  ·rw [hnew j h] at hi
   have := (hbx j h).2 i hi
   simp; omega
  ·subst h; rw [hlast, hids] at hi; cases hi
  ·rw [hout j h] at hi; cases hi
 ·refine j5.put G.mem (.inr n) (fun k hk => ?_) (C6.refl _ _) ?_ ?_
  ·cases k with
   | inl i => rfl
   | inr j =>
    simp only [l7]
    rcases Nat.lt_trichotomy j n with h | h | h
    ·rw [hnew j h]; exact (hbx j h).1
    ·exact absurd (by rw [h]) hk
    ·rw [hout j h, y5 (show S.length ≤ j by omega)]; rfl
  ·simp only [l7, hlast]; exact hx _
  ·intro g hg
   simp only [l7, hlast] at hg
   exact absurd hg (hb g)
 ·have := G.le; simp; omega
 ·show (if i = n then _ else ρ i) = ρ0 i
  have := G.le
  rw [if_neg (by omega)]; exact G.old i hi
theorem v5.nil (G : v5 φ ψ w0 F N m ρ0 ρ S tm a w) (n : Nat) (e : TypeId) (d : D) (k : Nat) (S1 : List It) (tm1 : List (Nat × AV)) (hn : S.length = n := by kernel_rfl) (hd : D.nil k = some d := by kernel_rfl) (hS : S = S1.map (It.den false n) := by kernel_rfl) (ht : tm = tm1.map (fun p => (p.1, p.2.den false n)) := by kernel_rfl) :
  ∃ ρ', v5 φ ψ w0 F N m ρ0 ρ' (S1 ++ [.row e d]) tm1 a w := by
 have hz := D.nil_len hd
 refine G.nilW n hn false (.row e d) (.slice none 0 0) (by simp) rfl (fun g hg => ?_) (fun φ' => ?_) S1 tm1 hS ht
 ·simp only [It.res, if_true] at hg
  cases hg
 ·simp only [It.res, if_true]
  refine ⟨fun xs => RW.nice d xs, [], ?_, RW.nil hz _⟩
  rw [hz]; exact World.ownsRow_nil _ _ _ _
theorem v5.nilT (G : v5 φ ψ w0 F N m ρ0 ρ S tm a w) (n : Nat) (d : D) (S1 : List It) (tm1 : List (Nat × AV)) (hn : S.length = n := by kernel_rfl) (hd : ((aj6 d).isSome && natEq d.len 0) = true := by kernel_rfl) (hS : S = S1.map (It.den true n) := by kernel_rfl) (ht : tm = tm1.map (fun p => (p.1, p.2.den true n)) := by kernel_rfl) :
  ∃ ρ', v5 φ ψ w0 F N m ρ0 ρ' (S1 ++ [.tree d]) tm1 a w := by
 simp only [cb0, natEq, beq_iff_eq] at hd
 obtain ⟨e, he⟩ := cf5.1 hd.1
 obtain ⟨z, h1, h2⟩ := al9 (.slice none 0 0) (fun _ => False) 0 fun b h => h.elim
 refine G.nilW n hn true (.tree d) z (by simp [h1]) rfl (fun g hg => ?_) (fun φ' => ?_) S1 tm1 hS ht
 ·simp only [It.res, if_true] at hg
  exact ((h2 g).1 hg).elim
 ·simp only [It.res, if_true]
  rw [h1]
  refine ⟨fun _ _ h hs => h.same hs, ⟨e, [], fun _ => False, he, ?_, (fun g hg => by cases hg), (fun b hb => hb.elim), ?_⟩, fun b hb => ((h2 b).1 hb).elim⟩
  ·rw [hd.2]; exact World.ownsRow_nil _ _ _ _
  ·have h0 := hd.2
   cases d <;> simp only [aj6] at he <;> first | cases he | skip
   all_goals (simp only [D.len] at h0; rw [cc8 h0]; rfl)
end
inductive Ln where
 | no
 | row (e : TypeId)
 | tree
def A3 (M : List Ln) (i : Nat) : Ln := M.getD i .no
def Ln.isT : Ln → Bool
 | .tree => true
 | _ => false
mutual
def AV.tr (M : List Ln) : AV → AV
 | .v x => .v x
 | .ptr a b => .ptr a b
 | .ea a b c d => .ea a b c d
 | .ref i => if (A3 M i).isT then .tref i else .ref i
 | .agg l => .agg (AV.trL M l)
 | .tup l => .tup (AV.trL M l)
 | .fn f l => .fn f (AV.trL M l)
 | .bm f l => .bm f (AV.trL M l)
 | .tref i => .tref i
def AV.trL (M : List Ln) : List AV → List AV
 | [] => []
 | x :: r => x.tr M :: AV.trL M r
end
mutual
def AV.trOk (M : List Ln) : AV → Bool
 | .v _ => true
 | .ptr a _ => !(A3 M a).isT
 | .ea a _ _ _ => !(A3 M a).isT
 | .ref _ => true
 | .agg l => AV.trOkL M l
 | .tup l => AV.trOkL M l
 | .fn _ l => AV.trOkL M l
 | .bm _ l => AV.trOkL M l
 | .tref i => !(A3 M i).isT
def AV.trOkL (M : List Ln) : List AV → Bool
 | [] => true
 | x :: r => x.trOk M && AV.trOkL M r
end
mutual
theorem AV.val_tr {ρ ρ' : Nat → Value} {M : List Ln} (h : ∀ i, ρ' i = if (A3 M i).isT then E0 (ρ i) else ρ i) : ∀ (x : AV), x.trOk M = true → (x.tr M).val ρ = x.val ρ'
 | .v _, _ => rfl
 | .ptr a _, hx => by
  simp only [AV.trOk, cf0] at hx
  simp only [AV.tr, AV.val]; rw [h a, hx]; rfl
 | .ea a _ _ _, hx => by
  simp only [AV.trOk, cf0] at hx
  simp only [AV.tr, AV.val]; rw [h a, hx]; rfl
 | .ref i, _ => by
  simp only [AV.tr]
  cases hm : (A3 M i).isT
  ·simp only [Bool.false_eq_true, if_false, AV.val]; rw [h i, hm]; rfl
  ·simp only [if_true, AV.val]; rw [h i, hm]; rfl
 | .agg l, hx => by simp only [AV.tr, AV.val]; rw [AV.vals_tr h l (by simpa [AV.trOk] using hx)]
 | .tup l, hx => by simp only [AV.tr, AV.val]; rw [AV.vals_tr h l (by simpa [AV.trOk] using hx)]
 | .fn _ l, hx => by simp only [AV.tr, AV.val]; rw [AV.vals_tr h l (by simpa [AV.trOk] using hx)]
 | .bm _ l, hx => by simp only [AV.tr, AV.val]; rw [AV.vals_tr h l (by simpa [AV.trOk] using hx)]
 | .tref i, hx => by
  simp only [AV.trOk, cf0] at hx
  simp only [AV.tr, AV.val]; rw [h i, hx]; rfl
theorem AV.vals_tr {ρ ρ' : Nat → Value} {M : List Ln} (h : ∀ i, ρ' i = if (A3 M i).isT then E0 (ρ i) else ρ i) : ∀ (l : List AV), AV.trOkL M l = true → AV.vals ρ (AV.trL M l) = AV.vals ρ' l
 | [], _ => rfl
 | x :: r, hx => by
  simp only [AV.trOkL, cb0] at hx
  simp only [AV.trL, AV.vals]; rw [AV.val_tr h x hx.1, AV.vals_tr h r hx.2]
end
def A9 (M : List Ln) : Ln → It → It
 | .row e, .dat d => .row e d
 | .tree, .dat d => .tree d
 | .no, .box cs => .box (AV.trL M cs)
 | _, x => x
def U2 (M : List Ln) (S : List It) : List It := (cc5 S.length).map fun i => A9 M (A3 M i) (o0 S i)
theorem X2 (M : List Ln) (S : List It) (i : Nat) : o0 (U2 M S) i = A9 M (A3 M i) (o0 S i) := by
 unfold U2
 rcases cc9 i S.length with h | h
 ·conv => lhs; rw [o0, cb3, List.getElem?_map, List.getElem?_range h]
  rfl
 ·rw [y5 (by simpa using h), y5 h]
  cases A3 M i <;> rfl
def a09 : D → Bool
 | .rows _ => false
 | .brows _ => false
 | .exprs _ => false
 | .stmts _ => false
 | _ => true
theorem bh8 {w w' : World} {φ φ' : Nat → Prop} {d : D} {xs : List Value} (hd : a09 d = true) (h : RW w φ d xs) : RW w' φ' d xs := by
 intro i hi j x hx
 obtain ⟨u, h1, h2⟩ := h i hi j x hx
 refine ⟨u, h1, ?_⟩
 have : ∃ y, x = .v y := by
  have hm := cc3 hx
  cases d <;> simp only [a09, Bool.false_eq_true] at hd <;> simp [D.elem, a92, al8] at hm
  ·exact ⟨_, hm⟩
  ·exact ⟨_, hm⟩
  ·exact ⟨_, hm⟩
  ·exact ⟨_, hm⟩
  ·rcases hm with h | h | h | h | h <;> exact ⟨_, h⟩
  ·rcases hm with h | h <;> exact ⟨_, h⟩
 obtain ⟨y, rfl⟩ := this
 exact h2
def aP4 (M : List Ln) (l : Ln) (p x : It) : Bool :=
 match l with
 | .no => match x with
  | .dat _ => (match p with | .dat _ => true | _ => false)
  | .row _ d => a09 d
  | .box cs => AV.trOkL M cs
  | .kept _ _ => false
  | .hole _ _ _ => false
  | _ => true
 | .row _ => (match p, x with | .dat d, .dat _ => a09 d | _, _ => false)
 | .tree => (match p, x with | .dat d, .dat _ => (aj6 d).isSome | _, _ => false)
def bu8 (M : List Ln) (l : Ln) (p : It) : Bool :=
 match l, p with
 | .no, .box cs => AV.trOkL M cs
 | .no, .hole _ _ _ => false
 | _, _ => true
def bw9 (M : List Ln) (c : j9) : Bool :=
 decide (M.length ≤ c.pre.length) && decide (c.pre.length ≤ c.post.length) && AV.trOkL M c.args && c.res.trOk M && (cc5 c.post.length).all (fun i => aP4 M (A3 M i) (o0 c.pre i) (o0 c.post i)) && (cc5 c.pre.length).all fun i => bu8 M (A3 M i) (o0 c.pre i)
def Rs.snap (w : World) (r : Rs) : Rs := .own r.blk fun w' => ∀ b, r.blk b → b < w.heap.size → w'.heap[b]? = w.heap[b]?
theorem Rs.snap_holds {w : World} {φ φ' : Nat → Prop} {r : Rs} (h : r.holds w φ) : (r.snap w).holds w φ' := by
 refine ⟨fun w1 w2 h1 h2 b hb hlt => ?_, fun b _ _ => rfl, fun b hb => Rs.lt h hb⟩
 have h3 := h1 b hb hlt
 rw [h2 b hb, h3]
 have : (w1.heap[b]?).isSome = true := by rw [h3, Array.getElem?_eq_getElem hlt]; rfl
 obtain ⟨o, ho⟩ := cf5.1 this
 exact (Array.getElem?_eq_some_iff.1 ho).1
theorem aR4 : ∀ {P X : List It} {i : Nat} {d e : D}, as6 P X = as5 P X → o0 P i = .dat d → o0 X i = .dat e → d = e
 | P, X, i, d, e, h, h1, h2 => by
  have hp : P[i]? = some (.dat d) := by
   rcases cc9 i P.length with hl | hl
   ·rw [as0 hl] at h1; rw [ca8 hl, h1]
   ·rw [y5 hl] at h1; cases h1
  have hx : X[i]? = some (.dat e) := by
   rcases cc9 i X.length with hl | hl
   ·rw [as0 hl] at h2; rw [ca8 hl, h2]
   ·rw [y5 hl] at h2; cases h2
  exact bS3 h hp hx
theorem j9.lend0 {P : Program} {c : j9} (hc : c.ok P) (M : List Ln) (hb : bw9 M c = true) (he : as6 c.pre c.post = as5 c.pre c.post) : j9.ok P ⟨c.f, AV.trL M c.args, U2 M c.pre, U2 M c.post, c.res.tr M⟩ := by
 simp only [bw9, cb0, decide_eq_true_eq] at hb
 obtain ⟨⟨⟨⟨⟨hM, hle⟩, hargs⟩, hres⟩, hpost⟩, hpre⟩ := hb
 have hno : ∀ i, c.pre.length ≤ i → A3 M i = .no := fun i hi => by
  unfold A3; rw [cb3, cd6 (by omega)]; rfl
 have hpo : ∀ i, aP4 M (A3 M i) (o0 c.pre i) (o0 c.post i) = true := fun i => by
  rcases cc9 i c.post.length with h | h
  ·exact cb9.1 hpost i (ce9.2 h)
  ·rw [hno i (by omega), y5 h]; rfl
 have hpr : ∀ i, bu8 M (A3 M i) (o0 c.pre i) = true := fun i => by
  rcases cc9 i c.pre.length with h | h
  ·exact cb9.1 hpre i (ce9.2 h)
  ·rw [hno i h, y5 h]; rfl
 intro ι φ ψ w0 w F ρ MM
 let ρ1 : Nat → Value := fun i => if (A3 M i).isT then E0 (ρ i) else ρ i
 have hρ1 : ∀ i, ρ1 i = if (A3 M i).isT then E0 (ρ i) else ρ i := fun _ => rfl
 let F1 : ι → Rs := fun i => (F i).snap w
 have hLi : ∀ i, l7 F ρ (o0 (U2 M c.pre)) (.inl i) = F i := fun _ => rfl
 have hLj : ∀ j, l7 F ρ (o0 (U2 M c.pre)) (.inr j) = (A9 M (A3 M j) (o0 c.pre j)).res ρ j := fun j => by simp only [l7]; rw [X2]
 generalize hL : l7 F ρ (o0 (U2 M c.pre)) = L at MM hLi hLj
 have h1j : ∀ j, A3 M j = .no → (o0 c.pre j).res ρ1 j = L (.inr j) := fun j hl => by
  rw [hLj, hl]
  have hp := hpr j
  have e : ρ1 j = ρ j := by rw [hρ1, hl]; rfl
  cases hx : o0 c.pre j with
  | none => rfl
  | dead => rfl
  | dat d => simp only [A9, It.res]; rw [e]
  | row e' d => simp only [A9, It.res]; rw [e]
  | tree d => simp only [A9, It.res]; rw [e]
  | kept e' d => cases e' <;> (simp only [A9, It.res]; rw [e])
  | hole k i ls => rw [hl, hx] at hp; cases hp
  | box cs =>
   rw [hl, hx] at hp
   simp only [bu8] at hp
   simp only [A9, It.res]
   rw [e, AV.vals_tr hρ1 cs hp]
 have hlent : ∀ j, A3 M j ≠ .no → (∃ d, o0 c.pre j = .dat d ∧ o0 c.post j = .dat d ∧ ((∃ e, A3 M j = .row e ∧ a09 d = true) ∨ A3 M j = .tree)) := fun j hj => by
  have h := hpo j
  cases hl : A3 M j with
  | no => exact absurd hl hj
  | row e =>
   rw [hl] at h
   simp only [aP4] at h
   split at h
   ·rename_i d d' h1 h2
    exact ⟨d, h1, by rw [h2, ← aR4 he h1 h2], .inl ⟨e, rfl, h⟩⟩
   ·cases h
  | tree =>
   rw [hl] at h
   simp only [aP4] at h
   split at h
   ·rename_i d d' h1 h2
    exact ⟨d, h1, by rw [h2, ← aR4 he h1 h2], .inr rfl⟩
   ·cases h
 have hsub : ∀ k b, (l7 F1 ρ1 (o0 c.pre) k).blk b → (L k).blk b ∧ ∀ j, k = .inr j → A3 M j = .no := fun k b hb => by
  cases k with
  | inl i => rw [hLi]; exact ⟨hb, fun j h => by cases h⟩
  | inr j =>
   by_cases hl : A3 M j = .no
   ·simp only [l7] at hb
    rw [h1j j hl] at hb
    exact ⟨hb, fun j' h => by cases h; exact hl⟩
   ·obtain ⟨d, h1, _⟩ := hlent j hl
    simp only [l7, h1, It.res] at hb
    exact hb.elim
 have hfr1 : ∀ b, Y0 φ L b → Y0 φ (l7 F1 ρ1 (o0 c.pre)) b := fun b hb => ⟨hb.1, fun k hk => hb.2 k (hsub k b hk).1⟩
 let ψ1 : Nat → Prop := fun b => ∀ k, ¬ (l7 F1 ρ1 (o0 c.pre) k).blk b
 have M1 : j5 φ ψ1 w w (l7 F1 ρ1 (o0 c.pre)) := by
  refine ⟨C6.refl _ _, fun b hb => MM.fresh b (cd3 MM.size hb), fun k => ?_, fun k k' b hkk h1 h2 => MM.dis k k' b hkk (hsub k b h1).1 (hsub k' b h2).1, fun k b h1 => .inr fun h => h k h1, fun k b h1 => MM.ph k b (hsub k b h1).1⟩
  cases k with
  | inl i => exact Rs.snap_holds (show (F i).holds w _ from by rw [← hLi i]; exact MM.holds (.inl i))
  | inr j =>
   by_cases hl : A3 M j = .no
   ·simp only [l7]
    rw [h1j j hl]
    exact Rs.keep (MM.holds (.inr j)) (Agr.mono fun b _ hf => hfr1 b hf) fun _ _ => rfl
   ·obtain ⟨d, h1, h2, h3⟩ := hlent j hl
    have hh := MM.holds (.inr j)
    have hown : ∀ b, (L (.inr j)).blk b → Y0 φ (l7 F1 ρ1 (o0 c.pre)) b := fun b hb => ⟨MM.ph _ _ hb, fun k hk => by
     obtain ⟨q1, q2⟩ := hsub k b hk
     by_cases e : k = .inr j
     ·exact hl (q2 j e)
     ·exact MM.dis k (.inr j) b e q1 hb⟩
    simp only [l7, h1, It.res]
    refine ⟨RD.nice _ _, ?_⟩
    rcases h3 with ⟨e, h3, hflat⟩ | h3
    ·rw [hLj, h3, h1] at hh
     simp only [A9, It.res] at hh
     obtain ⟨_, xs, o1, o2⟩ := hh
     have e1 : ρ1 j = ρ j := by rw [hρ1, h3]; rfl
     rw [e1]
     refine RD.make (x6 o1 fun g hg => hown g ?_) (bh8 hflat o2)
     rw [hLj, h3, h1]; exact hg
    ·rw [hLj, h3, h1] at hh
     simp only [A9, It.res] at hh
     have e1 : ρ1 j = E0 (ρ j) := by rw [hρ1, h3]; rfl
     rw [e1]
     refine C5.read hh.2.1 fun b hb => hown b ?_
     rw [hLj, h3, h1]; exact hb
 simp only
 rw [AV.vals_tr hρ1 c.args hargs]
 refine (hc ι φ ψ1 w w F1 ρ1 M1).mono ?_
 rintro x w' ⟨ρ2, g1, g2, M2⟩
 have hplen : (U2 M c.pre).length = c.pre.length := by simp [U2]
 let ρ' : Nat → Value := fun j => if j < c.pre.length then ρ j else ρ2 j
 have hρ' : ∀ j, ρ2 j = if (A3 M j).isT then E0 (ρ' j) else ρ' j := fun j => by
  show _ = if (A3 M j).isT then E0 (if j < c.pre.length then ρ j else ρ2 j) else (if j < c.pre.length then ρ j else ρ2 j)
  rcases cc9 j c.pre.length with h | h
  ·rw [if_pos h, g1 j h]
  ·rw [hno j h]
   exact (if_neg (Nat.not_lt.2 h)).symm
 have hρo : ∀ j, A3 M j ≠ .no → ρ' j = ρ j := fun j hj => by
  rcases cc9 j c.pre.length with h | h
  ·exact if_pos h
  ·exact absurd (hno j h) hj
 refine ⟨ρ', fun i hi => if_pos (by rw [hplen] at hi; exact hi), by rw [AV.val_tr hρ' c.res hres]; exact g2, ?_⟩
 have hL'j : ∀ j, l7 F ρ' (o0 (U2 M c.post)) (.inr j) = (A9 M (A3 M j) (o0 c.post j)).res ρ' j := fun j => by simp only [l7]; rw [X2]
 have hL'i : ∀ i, l7 F ρ' (o0 (U2 M c.post)) (.inl i) = F i := fun _ => rfl
 generalize hL' : l7 F ρ' (o0 (U2 M c.post)) = L' at hL'j hL'i
 have hL2j : ∀ j, A3 M j = .no → L' (.inr j) = l7 F1 ρ2 (o0 c.post) (.inr j) := fun j hl => by
  rw [hL'j, hl]
  have hp := hpo j
  have e : ρ2 j = ρ' j := by rw [hρ', hl]; rfl
  simp only [l7]
  cases hx : o0 c.post j with
  | none => rfl
  | dead => rfl
  | dat d => simp only [A9, It.res]; rw [e]
  | row e' d => simp only [A9, It.res]; rw [e]
  | tree d => simp only [A9, It.res]; rw [e]
  | kept e' d => cases e' <;> (simp only [A9, It.res]; rw [e])
  | hole k i ls => rw [hl, hx] at hp; cases hp
  | box cs =>
   rw [hl, hx] at hp
   simp only [aP4] at hp
   simp only [A9, It.res]
   rw [e, AV.vals_tr hρ' cs hp]
 have hlj : ∀ j, A3 M j ≠ .no → L' (.inr j) = L (.inr j) := fun j hl => by
  obtain ⟨d, h1, h2, h3⟩ := hlent j hl
  rw [hL'j, hLj, h1, h2]
  rcases h3 with ⟨e, h3, _⟩ | h3
  ·rw [h3]; simp only [A9, It.res]; rw [hρo j hl]
  ·rw [h3]; simp only [A9, It.res]; rw [hρo j hl]
 have hin : ∀ b, b < w.heap.size → ¬ ψ1 b → ∃ k, (L k).blk b ∧ ∀ j, k = .inr j → A3 M j = .no := fun b _ hn => by
  obtain ⟨k, hk⟩ := Classical.not_forall.1 hn
  exact ⟨k, hsub k b (Classical.not_not.1 hk)⟩
 have hnew : ∀ k b, (∀ j, k = .inr j → A3 M j = .no) → (l7 F1 ρ2 (o0 c.post) k).blk b → b < w.heap.size → ∃ k', (L k').blk b ∧ ∀ j, k' = .inr j → A3 M j = .no := fun k b _ hb hlt => by
  rcases M2.ge k b hb with h | h
  ·omega
  ·exact hin b hlt h
 have hback : ∀ k b, (L' k).blk b → b < w.heap.size → ∃ k', (L k').blk b := fun k b hb hlt => by
  cases k with
  | inl i => rw [hL'i] at hb; exact ⟨.inl i, by rw [hLi]; exact hb⟩
  | inr j =>
   by_cases hl : A3 M j = .no
   ·rw [hL2j j hl] at hb
    obtain ⟨k', h1, _⟩ := hnew (.inr j) b (fun j' h => by cases h; exact hl) hb hlt
    exact ⟨k', h1⟩
   ·rw [hlj j hl] at hb; exact ⟨_, hb⟩
 have hsame : ∀ b, b < w.heap.size → ψ1 b → w'.heap[b]? = w.heap[b]? := fun b h1 h2 => M2.kept.block b h1 h2
 have hagr : Agr (Y0 φ L) (Y0 φ L') w w' := ⟨M2.kept.size, fun b hb hf => ⟨⟨hf.1, fun k hk => let ⟨k', h1⟩ := hback k b hk hb; hf.2 k' h1⟩, hsame b hb fun k hk => (hfr1 b hf).2 k hk⟩⟩
 have hlsame : ∀ j, A3 M j ≠ .no → ∀ b, (L (.inr j)).blk b → w'.heap[b]? = w.heap[b]? := fun j hl b hb => hsame b (MM.lt hb) fun k hk => by
  obtain ⟨q1, q2⟩ := hsub k b hk
  by_cases e : k = .inr j
  ·exact hl (q2 j e)
  ·exact MM.dis k (.inr j) b e q1 hb
 have hcross : ∀ j k b, A3 M j ≠ .no → (∀ j, k = .inr j → A3 M j = .no) → (L (.inr j)).blk b → ¬ (l7 F1 ρ2 (o0 c.post) k).blk b := fun j k b hl hk h1 h2 => by
  obtain ⟨k', h3, h4⟩ := hnew k b hk h2 (MM.lt h1)
  exact MM.dis k' (.inr j) b (fun e => hl (h4 j e)) h3 h1
 refine ⟨⟨M2.kept.os.trans MM.kept.os, M2.kept.tape.trans MM.kept.tape, M2.kept.output.trans MM.kept.output, cd3 MM.size M2.kept.size, fun b hb hp => (hsame b (cf1 hb MM.size) fun k hk => ?_).trans (MM.kept.block b hb hp)⟩, MM.fresh, fun k => ?_, fun k k' b hkk h1 h2 => ?_, fun k b h1 => ?_, fun k b h1 => ?_⟩
 ·rcases MM.ge k b (hsub k b hk).1 with h | h
  ·omega
  ·exact h hp
 ·cases k with
  | inl i =>
   rw [hL'i, ← hLi i]
   refine Rs.keep (MM.holds (.inl i)) hagr fun b hb => ?_
   have := (M2.holds (.inl i)).2.1 b (by rw [← hLi i]; exact hb) (MM.lt hb)
   exact this
  | inr j =>
   by_cases hl : A3 M j = .no
   ·have hh := M2.holds (.inr j)
    rw [← hL2j j hl] at hh
    have hp := hpo j
    rw [hl] at hp
    cases hx : o0 c.post j with
    | none => rw [hL'j, hl, hx]; exact Rs.none_holds _ _
    | dead => rw [hL'j, hl, hx]; exact Rs.none_holds _ _
    | box cs => rw [hL'j, hl, hx] at hh ⊢; exact hh
    | tree d => rw [hL'j, hl, hx] at hh ⊢; exact hh
    | kept e' d => rw [hx] at hp; exact absurd hp (by simp [aP4])
    | hole k i ls => rw [hx] at hp; exact absurd hp (by simp [aP4])
    | row e d =>
     rw [hx] at hp
     simp only [aP4] at hp
     rw [hL'j, hl, hx] at hh ⊢
     simp only [A9, It.res] at hh ⊢
     obtain ⟨_, xs, o1, o2⟩ := hh
     exact ⟨fun xs => RW.nice d xs, xs, o1, bh8 hp o2⟩
    | dat d =>
     rw [hx] at hp
     simp only [aP4] at hp
     split at hp
     ·rename_i d' hpx
      have hd : d' = d := aR4 he hpx hx
      subst hd
      have e : L' (.inr j) = L (.inr j) := by
       rw [hL'j, hLj, hl, hx, hpx]
       simp only [A9, It.res]
       have : j < c.pre.length := by
        rcases cc9 j c.pre.length with h | h
        ·exact h
        ·rw [y5 h] at hpx; cases hpx
       rw [show ρ' j = ρ j from if_pos this]
      rw [e]
      refine Rs.keep (MM.holds (.inr j)) hagr fun b hb => ?_
      rw [hLj, hl, hpx] at hb
      exact hb.elim
     ·cases hp
   ·rw [hlj j hl]
    exact Rs.keep (MM.holds (.inr j)) hagr fun b hb => hlsame j hl b hb
 ·have key : ∀ k, (∃ j, k = .inr j ∧ A3 M j ≠ .no ∧ (L' k) = L k) ∨ ((∀ j, k = .inr j → A3 M j = .no) ∧ ∀ b, (L' k).blk b → (l7 F1 ρ2 (o0 c.post) k).blk b) := fun k => by
   cases k with
   | inl i => exact .inr ⟨(fun j h => by cases h), fun b hb => by rw [hL'i] at hb; exact hb⟩
   | inr j =>
    by_cases hl : A3 M j = .no
    ·exact .inr ⟨fun j' h => by cases h; exact hl, fun b hb => by rw [hL2j j hl] at hb; exact hb⟩
    ·exact .inl ⟨j, rfl, hl, hlj j hl⟩
  rcases key k with ⟨j, rfl, k1, k2⟩ | ⟨k1, k2⟩ <;> rcases key k' with ⟨j', rfl, k3, k4⟩ | ⟨k3, k4⟩
  ·rw [k2] at h1; rw [k4] at h2; exact MM.dis _ _ b hkk h1 h2
  ·rw [k2] at h1; exact hcross j k' b k1 k3 h1 (k4 b h2)
  ·rw [k4] at h2; exact hcross j' k b k3 k1 h2 (k2 b h1)
  ·exact M2.dis k k' b hkk (k2 b h1) (k4 b h2)
 ·cases k with
  | inl i => rw [hL'i, ← hLi i] at h1; exact MM.ge _ b h1
  | inr j =>
   by_cases hl : A3 M j = .no
   ·rw [hL2j j hl] at h1
    rcases cc9 b w.heap.size with hlt | hge
    ·obtain ⟨k', h2, _⟩ := hnew (.inr j) b (fun j' h => by cases h; exact hl) h1 hlt
     exact MM.ge k' b h2
    ·exact .inl (cd3 MM.size hge)
   ·rw [hlj j hl] at h1; exact MM.ge _ b h1
 ·cases k with
  | inl i => rw [hL'i, ← hLi i] at h1; exact MM.ph _ b h1
  | inr j =>
   by_cases hl : A3 M j = .no
   ·rw [hL2j j hl] at h1; exact M2.ph _ b h1
   ·rw [hlj j hl] at h1; exact MM.ph _ b h1
def bx6 (M : List Ln) : Ln → It → It
 | .row e, .dat d => .kept (some e) d
 | .tree, .dat d => .kept none d
 | .no, .box cs => .box (AV.trL M cs)
 | _, x => x
def bx5 (M : List Ln) (S : List It) : List It := (cc5 S.length).map fun i => bx6 M (A3 M i) (o0 S i)
theorem bw8 (M : List Ln) (S : List It) (i : Nat) : o0 (bx5 M S) i = bx6 M (A3 M i) (o0 S i) := by
 unfold bx5
 rcases cc9 i S.length with h | h
 ·conv => lhs; rw [o0, cb3, List.getElem?_map, List.getElem?_range h]
  rfl
 ·rw [y5 (by simpa using h), y5 h]
  cases A3 M i <;> rfl
theorem j9.lend {P : Program} {c : j9} (hc : c.ok P) (M : List Ln) (hb : bw9 M c = true := by kernel_rfl) (he : as6 c.pre c.post = as5 c.pre c.post := by kernel_rfl) : j9.ok P ⟨c.f, AV.trL M c.args, U2 M c.pre, bx5 M c.post, c.res.tr M⟩ :=
 j9.okPost (j9.lend0 hc M hb he) _ fun ρ i => by
  simp only
  rw [bw8, X2]
  cases A3 M i <;> cases o0 c.post i <;> rfl
section
variable {P : Program} {ι κ : Type} {φ ψ : Nat → Prop} {w0 w : World} {F : ι → Rs} {ρ ρ0 : Nat → Value} {N m n : Nat} {S : List It} {tm : List (Nat × AV)} {a : Act}
theorem j5.release {L L' : κ → Rs} (M : j5 φ ψ w0 w L) (h : ∀ k, L' k = L k ∨ ((∀ b, ¬ (L' k).blk b) ∧ ∀ φ', (∀ b, Y0 φ L b → φ' b) → (∀ b, (L k).blk b → φ' b) → (L' k).holds w φ')) : j5 φ ψ w0 w L' := by
 have old : ∀ k b, (L' k).blk b → (L k).blk b := fun k b hb => by
  rcases h k with e | ⟨h1, _⟩
  ·rw [e] at hb; exact hb
  ·exact (h1 b hb).elim
 have hfr : ∀ b, Y0 φ L b → Y0 φ L' b := fun b hb => ⟨hb.1, fun k hk => hb.2 k (old k b hk)⟩
 refine ⟨M.kept, M.fresh, fun k => ?_, fun i j g hij h1 h2 => M.dis i j g hij (old i g h1) (old j g h2), fun i b hb => M.ge i b (old i b hb), fun i b hb => M.ph i b (old i b hb)⟩
 rcases h k with e | ⟨h1, h2⟩
 ·rw [e]; exact Rs.keep (M.holds k) (Agr.mono fun b _ hf => hfr b hf) fun _ _ => rfl
 ·refine h2 _ hfr fun b hb => ⟨M.ph k b hb, fun j hj => ?_⟩
  by_cases e : j = k
  ·subst e; exact h1 b hj
  ·exact M.dis j k b e (old j b hj) hb
mutual
theorem AV.ids_tr (M : List Ln) : ∀ (x : AV), (x.tr M).ids = x.ids
 | .v _ => rfl
 | .ptr _ _ => rfl
 | .ea _ _ _ _ => rfl
 | .ref i => by simp only [AV.tr]; split <;> rfl
 | .agg l => by simp only [AV.tr, AV.ids]; exact AV.idsL_tr M l
 | .tup l => by simp only [AV.tr, AV.ids]; exact AV.idsL_tr M l
 | .fn _ l => by simp only [AV.tr, AV.ids]; exact AV.idsL_tr M l
 | .bm _ l => by simp only [AV.tr, AV.ids]; exact AV.idsL_tr M l
 | .tref _ => rfl
theorem AV.idsL_tr (M : List Ln) : ∀ (l : List AV), AV.idsL (AV.trL M l) = AV.idsL l
 | [] => rfl
 | x :: r => by simp only [AV.trL, AV.idsL]; rw [AV.ids_tr M x, AV.idsL_tr M r]
end
theorem aP2 {M : List Ln} {t : Nat} {x : AV} : ∀ {tm : List (Nat × AV)}, z9 tm t = some x → z9 (tm.map fun p => (p.1, p.2.tr M)) t = some (x.tr M) ∧ ∃ p ∈ tm, p.2 = x
 | [], h => by cases h
 | (k, y) :: r, h => by
  simp only [z9, cd7] at h ⊢
  split at h
  ·cases h; rename_i hk; rw [if_pos hk]; exact ⟨rfl, _, ce6, rfl⟩
  ·rename_i hk; rw [if_neg hk]
   obtain ⟨h1, p, h2, h3⟩ := aP2 h
   exact ⟨h1, p, ce5 _ h2, h3⟩
def bZ5 (M : List Ln) (m : Nat) (S1 : List It) (tm1 : List (Nat × AV)) : Bool :=
 decide (M.length ≤ S1.length) && (cc5 S1.length).all (fun i => match A3 M i, o0 S1 i with
  | .no, .box cs => AV.trOkL M cs
  | .no, .hole _ _ _ => false
  | .no, _ => true
  | .row _, .dat _ => true
  | .tree, .dat _ => decide (m ≤ i)
  | _, _ => false) && tm1.all fun p => p.2.trOk M
theorem It.ids_lend (M : List Ln) (l : Ln) (x : It) : x.ids = [] ∨ (A9 M l x).ids = x.ids := by
 cases x with
 | box cs => cases l <;> first | exact .inr rfl | exact .inr (AV.idsL_tr M cs)
 | hole k i ls => cases l <;> exact .inr rfl
 | _ => exact .inl rfl
theorem v5.frz (G : v5 φ ψ w0 F N m ρ0 ρ S tm a w) (M : List Ln) (S1 : List It) (tm1 : List (Nat × AV)) (hb : bZ5 M m S1 tm1 = true := by kernel_rfl) (hS : S = U2 M S1 := by kernel_rfl) (ht : tm = tm1.map (fun p => (p.1, p.2.tr M)) := by kernel_rfl) :
  ∃ ρ', v5 φ ψ w0 F N m ρ0 ρ' S1 tm1 a w := by
 subst hS
 subst ht
 simp only [bZ5, cb0, decide_eq_true_eq] at hb
 obtain ⟨⟨hM, hall⟩, htm⟩ := hb
 have hlen : (U2 M S1).length = S1.length := by simp [U2]
 have hno : ∀ i, S1.length ≤ i → A3 M i = .no := fun i hi => by
  unfold A3; rw [cb3, cd6 (by omega)]; rfl
 have hat := fun i (hi : i < S1.length) => cb9.1 hall i (ce9.2 hi)
 let ρ1 : Nat → Value := fun i => if (A3 M i).isT then E0 (ρ i) else ρ i
 have hρ1 : ∀ i, ρ1 i = if (A3 M i).isT then E0 (ρ i) else ρ i := fun _ => rfl
 have hρn : ∀ i, (A3 M i).isT = false → ρ1 i = ρ i := fun i h => by rw [hρ1, h]; rfl
 refine ⟨ρ1, G.size, G.defs, fun t x hx => ?_, fun t x hx i hi => ?_, fun j => ⟨fun i hi => ?_, fun hj => y5 hj⟩, ?_, ?_, fun i hi => ?_⟩
 ·obtain ⟨h1, p, h2, h3⟩ := aP2 (M := M) hx
  rw [G.tmv t _ h1, AV.val_tr hρ1 x (by rw [← h3]; exact cb9.1 htm p h2)]
 ·obtain ⟨h1, _⟩ := aP2 (M := M) hx
  have := G.tmi t _ h1 i (by rw [AV.ids_tr]; exact hi)
  rw [hlen] at this; exact this
 ·have h1 := (G.bd j).1 i
  rw [X2, hlen] at h1
  rcases It.ids_lend M (A3 M j) (o0 S1 j) with h | h
  ·rw [h] at hi; cases hi
  ·exact h1 (by rw [h]; exact hi)
 ·refine G.mem.release fun k => ?_
  cases k with
  | inl i => exact .inl rfl
  | inr j =>
   simp only [l7]
   rw [X2]
   rcases cc9 j S1.length with hj | hj
   case inr => rw [hno j hj, y5 hj]; exact .inl rfl
   have h1 := hat j hj
   cases hl : A3 M j with
   | no =>
    have e : ρ1 j = ρ j := hρn j (by rw [hl]; rfl)
    rw [hl] at h1
    left
    cases hx : o0 S1 j with
    | box cs =>
     rw [hx] at h1
     simp only [A9, It.res]
     rw [e, AV.vals_tr hρ1 cs h1]
    | none => rfl
    | dead => rfl
    | dat d => simp only [A9, It.res]; rw [e]
    | row e' d => simp only [A9, It.res]; rw [e]
    | tree d => simp only [A9, It.res]; rw [e]
    | kept e' d => cases e' <;> (simp only [A9, It.res]; rw [e])
    | hole k i ls => rw [hx] at h1; cases h1
   | row e' =>
    have e : ρ1 j = ρ j := hρn j (by rw [hl]; rfl)
    rw [hl] at h1
    cases hx : o0 S1 j <;> rw [hx] at h1 <;> first | cases h1 | skip
    rename_i d
    refine .inr ⟨fun b hb => hb, fun φ' hf hown => ⟨RD.nice _ _, ?_⟩⟩
    have hh := G.mem.holds (.inr j)
    simp only [l7] at hh
    rw [X2, hl, hx] at hh
    simp only [A9, It.res] at hh
    obtain ⟨_, xs, o1, o2⟩ := hh
    rw [e]
    exact RD.make (x6 o1 fun g hg => hown g hg) (RW.nice _ _ _ _ _ _ (Agr.mono fun b _ hb => hf b hb) o2)
   | tree =>
    have e : ρ1 j = E0 (ρ j) := by rw [hρ1, hl]; rfl
    rw [hl] at h1
    cases hx : o0 S1 j <;> rw [hx] at h1 <;> first | cases h1 | skip
    rename_i d
    refine .inr ⟨fun b hb => hb, fun φ' hf hown => ⟨RD.nice _ _, ?_⟩⟩
    have hh := G.mem.holds (.inr j)
    simp only [l7] at hh
    rw [X2, hl, hx] at hh
    simp only [A9, It.res] at hh
    rw [e]
    exact C5.read hh.2.1 fun b hb => hown b hb
 ·have := G.le; rw [hlen] at this; exact this
 ·have hm := G.le
  rw [hlen] at hm
  have : (A3 M i).isT = false := by
   cases hl : A3 M i with
   | no => rfl
   | row _ => rfl
   | tree =>
    have h1 := hat i (by omega)
    rw [hl] at h1
    cases hx : o0 S1 i <;> rw [hx] at h1 <;> simp at h1
    omega
  show ρ1 i = ρ0 i
  rw [hρn i this]; exact G.old i hi
end
section
variable {P : Program} {ι κ : Type} {φ ψ : Nat → Prop} {w0 w w' : World} {F : ι → Rs} {ρ ρ0 : Nat → Value}
theorem j5.grow {L L' : κ → Rs} (M : j5 φ ψ w0 w L) (hb : Below w.heap.size w w') (K : κ → Prop) (ho : ∀ k, ¬ K k → L' k = L k) (hg : ∀ k, K k → ∀ b, (L' k).blk b → w.heap.size ≤ b) (hd : ∀ j k b, j ≠ k → K j → K k → (L' j).blk b → ¬ (L' k).blk b) (h : ∀ k, K k → (L' k).holds w' (Y0 φ L')) : j5 φ ψ w0 w' L' := by
 have M1 := M.call hb
 have old : ∀ k, ¬ K k → ∀ b, (L' k).blk b → b < w.heap.size := fun k hk b h1 => by rw [ho k hk] at h1; exact M.lt h1
 refine ⟨M1.kept, M.fresh, fun k => ?_, fun i j g hij h1 h2 => ?_, fun i b h1 => ?_, fun i b h1 => ?_⟩
 ·by_cases e : K k
  ·exact h k e
  ·rw [ho k e]
   refine Rs.keep (M.holds k) ⟨hb.size, fun b hl hf => ⟨⟨hf.1, fun j hj => ?_⟩, hb.block b hl⟩⟩ fun g hgx => hb.block g (M.lt hgx)
   by_cases e2 : K j
   ·have := hg j e2 b hj; omega
   ·rw [ho j e2] at hj; exact hf.2 j hj
 ·by_cases e1 : K i <;> by_cases e2 : K j
  ·exact hd i j g hij e1 e2 h1 h2
  ·have := hg i e1 g h1; have := old j e2 g h2; omega
  ·have := hg j e2 g h2; have := old i e1 g h1; omega
  ·rw [ho i e1] at h1; rw [ho j e2] at h2; exact M.dis i j g hij h1 h2
 ·by_cases e : K i
  ·exact .inl (cd3 M.size (hg i e b h1))
  ·rw [ho i e] at h1; exact M.ge i b h1
 ·by_cases e : K i
  ·exact M.fresh b (cd3 M.size (hg i e b h1))
  ·rw [ho i e] at h1; exact M.ph i b h1
end
abbrev oP (p : j8) : List It := [.row 3 (.ints p.vars), .row 3 (.ints p.arrays), .tree (.stmts p.body)]
abbrev oA (r : Nat) : AV := .agg [.ref r, .ref (r + 1), .tref (r + 2)]
theorem ar5 {w : World} {φ : Nat → Prop} {v : Value} {l : List Int} (h : w.ownsRow 0 3 1 v l.length (ints l)) : (Rs.row 3 (D.ints l).sz v (D.ints l).len fun xs w φ => RW w φ (.ints l) xs).holds w φ := by
 refine ⟨fun xs => RW.nice (.ints l) xs, ints l, h, fun i hi j x hx => ?_⟩
 have hi' : i < l.length := hi
 simp only [D.elem] at hx
 have hj : j = 0 := by
  cases j with
  | zero => rfl
  | succ j => simp at hx
 subst hj
 simp at hx
 subst hx
 refine ⟨_, ?_, rfl⟩
 simp only [D.sz]
 rw [Nat.mul_one, cf3]
 simp [ints, hi']
theorem aE5 (v : Value) (t : List Int) (w : World) (h : D3 w v t.length 1 (ints t)) (hb : t.length ≤ 1000000000000) :
  Calls Tryz.prog 71 #[v] w fun e w' => ∃ u, e = .returned u ∧ y7 w' w.heap.size w'.heap.size 3 1 u t.length (ints t) ∧ Below w.heap.size w w' := by
 obtain ⟨a, cap, rfl, hc1, hc2, hc3, -⟩ := h.open
 have hnil := fun w => Lib.run_eql_slice_nil (P := Tryz.prog) w 23 3 a t.length cap 0 0 Tryz.underlying23
 rcases a with _ | a
 ·have hn : t.length = 0 := by
   rcases Nat.eq_zero_or_pos t.length with h0 | h0
   ·exact h0
   ·obtain ⟨_, a, c, he, _, _, hx⟩ := h
    cases he
    obtain ⟨_, _, he, _⟩ := hx h0
    cases he
  have ht : t = [] := cc8 hn
  subst ht
  simp only [cc1, Option.isNone_none] at hnil
  go_enter Tryz.func71, Tryz.ntmps71
  go_wp2_with fail
  go_ret
  exact ⟨_, rfl, ⟨World.ownsRow_nil _ _ _ _, fun g hg => by cases hg⟩, Below.refl _ _⟩
 ·go_enter Tryz.func71, Tryz.ntmps71
  simp only [Option.isNone_some] at hnil
  have ba := (Below.refl w.heap.size w).alloc (cb1 _) (.cells #[] 3)
  go_wp2_with (at_builtin; refine A5 rfl _ _ rfl Tryz.underlying23 ab9 rfl (by omega) rfl (t0 w #[] 0 1 _ rfl rfl (by omega)).1 rfl (h.below ba) S7 (by omega) (by omega) (by simp) ?_; rintro a4 q4 w4 o4 b4 - -)
  go_ret
  refine ⟨_, rfl, y7.mk' (by simpa using o4), ba.trans b4⟩
theorem ag8 (e : d9) : j9.ok Tryz.prog ⟨118, [.agg [.v (.int .i64 e.kind), .v (.int .i64 e.value), .ref 0]], [.dat (.exprs e.kids)], [.dat (.exprs e.kids)], .v (.bool (noneB e))⟩ := by
  refine K9 17 Tryz.func118 [dE e.kids] [(0, eA e 0)] fun G => ?_; refine wp_seq (l0 G f8 [0, 1] [dE e.kids, .box (eL e 0)] [(1, .ptr 1 0), (2, bA false)] fun G => b0 (wp_seq ?_)); cases h0 : (e.kind == 0)
  · have q0 := ne_of_beq_false h0; refine l0 G (N1 (fc h0 (fc (b := false) rfl fz)) (us [(4, 6, 0), (1007, 1007, 0), (9, 12, 1), (1013, 1013, 1)])) [0] [dE e.kids] [(2, bA false)] fun G => b0 (wp_ret ?_); exact N4 false G [0] (by rw [ce0]; simp [noneB, h0, q0]; done)
  ·
   have q0 := eq_of_beq h0; cases h1 : (e.value == 0)
   · have q1 := ne_of_beq_false h1; refine l0 G (N1 (fc h0 (fc h1 fz)) (us [(4, 6, 0), (1007, 1007, 0), (9, 12, 1), (1013, 1013, 1)])) [0] [dE e.kids] [(2, bA false)] fun G => b0 (wp_ret ?_); exact N4 false G [0] (by rw [ce0]; simp [noneB, h0, q0, h1, q1]; done)
   · have q1 := eq_of_beq h1; refine l0 G (N1 (fc h0 (fc h1 fz)) (us [(4, 6, 0), (1007, 1007, 0), (9, 12, 1), (1013, 1013, 1)])) [0] [dE e.kids] [(2, bA ((e.kids.length : Int) == 0))] fun G => b0 (wp_ret ?_); exact N4 ((e.kids.length : Int) == 0) G [0] (by rw [ce0]; simp [noneB, h0, q0, h1, q1]; done)
theorem ai8 (k : Int) : j9.ok Tryz.prog ⟨115, [.v (.int .i64 k)], [], [], .v (.int .i64 (t7 k))⟩ := by
  refine K9 23 Tryz.func115 [] [(0, iA k)] fun G => ?_; refine wp_seq (m7 G f8 [(2, iA 0)] fun G => b0 (wp_seq (wp_block (wp_seq ?_)))); cases h0 : (k == 1)
  ·
   have q0 := ne_of_beq_false h0; refine m7 G (N1 (fc h0 fz) [(3, 0), (4, 0), (1005, 0)]) [(3, bA (k == 2))] fun G => b0 (rcE G (fun h1 q1 => ?_) fun h1 q1 => ?_)
   ·
    refine wp_seq (m7 G f8 [(10, bA (k == 3))] fun G => b0 (rcE G (fun h2 q2 => ?_) fun h2 q2 => ?_))
    ·
     refine wp_seq ?_; cases h3 : (decide (k ≥ 4))
     ·
      have q3 := dFf h3; refine m7 G (N1 (fc h3 fz) [(3, 0), (4, 0), (1005, 0)]) [(13, bA false)] fun G => b0 (rF G false (by kernel_rfl) (wp_seq (I8 G f8 [(2, iA 0), (20, bA (k == 11))] fun G => b0 ?_))); cases h4 : (k == 11)
      · have q4 := ne_of_beq_false h4; refine rF G _ h4 (wp_skip (t5 (b0 (wp_seq (m7 G f8 [(2, iA (-1))] fun G => b0 (wp_ret ?_)))))); exact rxI (-1) G [] (by unfold t7; (repeat' split) <;> omega)
      · have q4 := eq_of_beq h4; exact False.elim (by omega)
     ·
      have q3 := dTt h3; refine m7 G (N1 (fc h3 fz) [(3, 0), (4, 0), (1005, 0)]) [(13, bA (decide (k ≤ 10)))] fun G => b0 (rcD G (fun h5 q5 => ?_) fun h5 q5 => ?_)
      ·
       refine wp_seq (m7 G f8 [(20, bA (k == 11))] fun G => b0 (rcE G (fun h6 q6 => ?_) fun h6 q6 => ?_))
       · refine wp_skip (t5 (b0 (wp_seq (m7 G f8 [(2, iA (-1))] fun G => b0 (wp_ret ?_))))); exact rxI (-1) G [] (by unfold t7; (repeat' split) <;> omega)
       · refine wp_seq (m7 G f8 [(2, iA 3)] fun G => b0 (wp_ret (E5 (o5 ?_)))); exact rxI 3 G [] (by unfold t7; (repeat' split) <;> omega)
      · refine wp_seq (m7 G f8 [(2, iA 2)] fun G => b0 (wp_ret (E5 (o5 ?_)))); exact rxI 2 G [] (by unfold t7; (repeat' split) <;> omega)
    · refine wp_seq (m7 G f8 [(2, iA 1)] fun G => b0 (wp_ret (E5 (o5 ?_)))); exact rxI 1 G [] (by unfold t7; (repeat' split) <;> omega)
   · refine wp_seq (m7 G f8 [] fun G => b0 (wp_ret (E5 (o5 ?_)))); exact rxI 0 G [] (by unfold t7; (repeat' split) <;> omega)
  · have q0 := eq_of_beq h0; refine m7 G (N1 (fc h0 fz) [(3, 0), (4, 0), (1005, 0)]) [(3, bA true)] fun G => b0 (rT G true (by kernel_rfl) (wp_seq (m7 G f8 [] fun G => b0 (wp_ret (E5 (o5 ?_)))))); exact rxI 0 G [] (by unfold t7; (repeat' split) <;> omega)
theorem aF1 (e : d9) : j9.ok Tryz.prog ⟨114, [.agg [.v (.int .i64 e.kind), .v (.int .i64 e.value), .ref 0]], [.dat (.exprs e.kids)], [.dat (.exprs e.kids)], .v (.bool (U4 e))⟩ := by
 refine K9 11 Tryz.func114 [dE e.kids] [(0, eA e 0)] fun G => ?_; refine wp_seq (l0 G f8 [0, 1] [dE e.kids, .box (eL e 0)] [(1, .ptr 1 0), (2, bA false)] fun G => b0 (wp_seq ?_)); cases h0 : (e.kind == 1)
 ·have q0 := ne_of_beq_false h0; refine l0 G (N1 (fc h0 fz) [(4, 0), (5, 0), (6, 0), (1007, 0)]) [0] [dE e.kids] [(2, bA (e.kind == 2))] fun G => b0 (wp_ret ?_); exact N4 (e.kind == 2) G [0] (by rw [ce0]; simp [U4, h0, q0]; done)
 ·have q0 := eq_of_beq h0; refine l0 G (N1 (fc h0 fz) [(4, 0), (5, 0), (6, 0), (1007, 0)]) [0] [dE e.kids] [(2, bA true)] fun G => b0 (wp_ret ?_); exact N4 true G [0] (by rw [ce0]; simp [U4, h0, q0]; done)
theorem bo3 (vs ars : List Int) (b : List c8) (k : Int) : j9.ok Tryz.prog ⟨119, [.agg [.ref 0, .ref 1, .ref 2], .v (.int .i64 k)], [.dat (.ints vs), .dat (.ints ars), .dat (.stmts b)], [.dat (.ints vs), .dat (.ints ars), .dat (.stmts b)], .v (.int .i64 (ak0 vs.length ars.length k))⟩ := by
  refine K9 18 Tryz.func119 [dI vs, dI ars, dT b] [(0, pA 0), (1, iA k)] fun G => ?_; refine wp_seq (l0 G f8 (rg 4) [dI vs, dI ars, dT b, .box (pL 0)] [(1, iA k), (2, .ptr 3 0), (4, iA 0)] fun G => b0 (wp_seq (wp_seq (m7 G f8 [(5, iA k)] fun G => b0 (wp_block (wp_seq (m7 G f8 [(6, bA (k == 1))] fun G => b0 (rcE G (fun h0 q0 => ?_) fun h0 q0 => ?_))))))))
  ·
   refine wp_seq (m7 G f8 [(8, bA (k == 2))] fun G => b0 (rcE G (fun h1 q1 => ?_) fun h1 q1 => ?_))
   ·
    refine wp_seq (m7 G f8 [(13, bA (k == 3))] fun G => b0 (rcE G (fun h2 q2 => ?_) fun h2 q2 => ?_))
    · refine wp_skip (t5 (b0 (wp_seq (l0 G f8 [0, 1, 2] [dI vs, dI ars, dT b] [(4, iA 1)] fun G => b0 (wp_ret ?_))))); exact rxI 1 G [0, 1, 2] (by unfold ak0; (repeat' split) <;> omega)
    · refine wp_seq (l0 G f8 [0, 1, 2] [dI vs, dI ars, dT b] [(4, iA (ars.length : Int))] fun G => b0 (wp_ret (E5 (o5 ?_)))); exact rxI ((ars.length : Int)) G [0, 1, 2] (by unfold ak0; (repeat' split) <;> omega)
   · refine wp_seq (l0 G f8 [0, 1, 2] [dI vs, dI ars, dT b] [(4, iA (vs.length : Int))] fun G => b0 (wp_ret (E5 (o5 ?_)))); exact rxI ((vs.length : Int)) G [0, 1, 2] (by unfold ak0; (repeat' split) <;> omega)
  · refine wp_seq (l0 G f8 [0, 1, 2] [dI vs, dI ars, dT b] [(4, iA 256)] fun G => b0 (wp_ret (E5 (o5 ?_)))); exact rxI 256 G [0, 1, 2] (by unfold ak0; (repeat' split) <;> omega)
theorem a42 {α : Type} {l : List α} {k : Nat} {p : α → Bool} {z : α} (h : (l.take k).all p = true) (hk : k < l.length) (hp : p (l.getD k z) = true) : (l.take (k + 1)).all p = true := by
 rw [R8 p l k hk, h, ← o8 (d := z) hk, hp]; rfl
theorem aF8 {α : Type} {l : List α} {k : Nat} {p : α → Bool} (h : (l.take k).all p = true) (hk : l.length ≤ k) : l.all p = true := by
 rw [cc6 hk] at h; exact h
section
variable {nv na d : Nat} {e : d9}
theorem bE7 (h : ¬ (e.kids.length : Int) = t7 e.kind) : m8 nv na (d + 1) e = false := by simp [m8, ap1, h]
theorem bE6 (h : e.value < 0) : m8 nv na (d + 1) e = false := by
 have : ¬ 0 ≤ e.value := by omega
 simp [m8, ap1, this]
theorem bE5 (h : ak0 nv na e.kind ≤ e.value) : m8 nv na (d + 1) e = false := by
 have : ¬ e.value < ak0 nv na e.kind := by omega
 simp [m8, ap1, this]
theorem bE4 {k : Nat} {z : d9} (hk : k < e.kids.length) (h : m8 nv na d (e.kids.getD k z) = false) : m8 nv na (d + 1) e = false := by
 rw [o8 hk] at h
 have : e.kids.all (m8 nv na d) = false := ap0 hk h
 simp [m8, this]
theorem a61 (h1 : (e.kids.length : Int) = t7 e.kind) (h2 : ¬ e.value < 0) (h3 : ¬ ak0 nv na e.kind ≤ e.value) : ap1 nv na e = true := by
 unfold ap1; rw [decide_eq_true h1, decide_eq_true (by omega), decide_eq_true (by omega)]; rfl
theorem bE3 (hn : ap1 nv na e = true) (ha : e.kids.all (m8 nv na d) = true) (h : ¬ e.kind = 3) : m8 nv na (d + 1) e = true := by
 rw [m8, hn, ha]; simp [bg0, h]
theorem bE2 (hn : ap1 nv na e = true) (ha : e.kids.all (m8 nv na d) = true) (h : e.kind = 3) (hl : 0 < e.kids.length) : m8 nv na (d + 1) e = U4 (e.kids.getD 0 ca9) := by
 rw [m8, hn, ha, bk6 h hl, o8 hl]; simp [U4]
theorem aL7 (h1 : (e.kids.length : Int) = t7 e.kind) (h : e.kind = 3) : 0 < e.kids.length := by
 rw [h] at h1; simp [t7] at h1; omega
end
theorem bb5 (vs ars : List Int) (b : List c8) (e : d9) (n : Int) (hn : n = 0) : j9.ok Tryz.prog ⟨116, [.agg [.ref 0, .ref 1, .ref 2], .agg [.v (.int .i64 e.kind), .v (.int .i64 e.value), .ref 3], .v (.int .i64 n)], [.dat (.ints vs), .dat (.ints ars), .dat (.stmts b), .dat (.exprs e.kids)], [.dat (.ints vs), .dat (.ints ars), .dat (.stmts b), .dat (.exprs e.kids)], .v (.bool (m8 vs.length ars.length 0 e))⟩ := by
 have h100 : decide (n < 1) = true := by simp; omega
 refine K9 60 Tryz.func116 [dI vs, dI ars, dT b, dE e.kids] [(0, pA 0), (1, eA e 3), (2, iA n)] fun G => ?_; refine wp_seq (l0 G f8 [0, 1, 2, 3, 4, 12] [dI vs, dI ars, dT b, dE e.kids, .box (pL 0), .box (eL e 3)] [(2, iA n), (3, .ptr 4 0), (4, .ptr 5 0), (6, bA false)] fun G => b0 (wp_seq (wp_seq (bG1 G (N1 (fc (a := decide (n < 1)) (b := true) (by assumption) (fc (b := true) rfl fz)) (us [(3, 9, 0), (1010, 1010, 0), (12, 14, 1), (1015, 1015, 1), (17, 23, 1), (1024, 1024, 1)])) [0, 1, 3, 7, 15, 31, 7, 71, 199, 511, 1023, 2047, 4095, 8191, 16383, 32767, 65535, 131071, 262143, 131071, 131071, 1179647, 3801087, 8388607, 16777215] [(32, bA true)] fun G => b0 (rT G true (by kernel_rfl) (wp_seq (m7 G f8 [] fun G => b0 (wp_ret (o5 ?_))))))))); exact L6 G (rg 4)
theorem bb4 (vs ars : List Int) (b : List c8) (d : Nat) (hd : d ≤ 5) (ih : ∀ (e : d9) (n : Int), n = d → j9.ok Tryz.prog ⟨116, [.agg [.ref 0, .ref 1, .ref 2], .agg [.v (.int .i64 e.kind), .v (.int .i64 e.value), .ref 3], .v (.int .i64 n)], [.dat (.ints vs), .dat (.ints ars), .dat (.stmts b), .dat (.exprs e.kids)], [.dat (.ints vs), .dat (.ints ars), .dat (.stmts b), .dat (.exprs e.kids)], .v (.bool (m8 vs.length ars.length d e))⟩)
    (e : d9) (n : Int) (hn : n = (d + 1 : Nat)) : j9.ok Tryz.prog ⟨116, [.agg [.ref 0, .ref 1, .ref 2], .agg [.v (.int .i64 e.kind), .v (.int .i64 e.value), .ref 3], .v (.int .i64 n)], [.dat (.ints vs), .dat (.ints ars), .dat (.stmts b), .dat (.exprs e.kids)], [.dat (.ints vs), .dat (.ints ars), .dat (.stmts b), .dat (.exprs e.kids)], .v (.bool (m8 vs.length ars.length (d + 1) e))⟩ := by
  have h100 : decide (n < 1) = false := by simp; omega
  refine K9 60 Tryz.func116 [dI vs, dI ars, dT b, dE e.kids] [(0, pA 0), (1, eA e 3), (2, iA n)] fun G => ?_; refine wp_seq (l0 G f8 [0, 1, 2, 3, 4, 12] [dI vs, dI ars, dT b, dE e.kids, .box (pL 0), .box (eL e 3)] [(2, iA n), (3, .ptr 4 0), (4, .ptr 5 0), (6, bA false)] fun G => b0 (wp_seq (wp_seq ?_))); cases h0 : ((e.kids.length : Int) != t7 e.kind)
  ·
   have q0 := bne_eq_false_iff_eq.1 h0; cases h1 : (decide (e.value < 0))
   ·
    have q1 := dFf h1; refine bG1 G (X7 (H7 8 [] (ai8 e.kind) (H7 22 [0, 1, 2] (bo3 vs ars b e.kind) X6)) (fc (a := decide (n < 1)) (b := false) (by assumption) (fc h0 (fc h1 fz))) (us [(3, 9, 0), (1010, 1010, 0), (12, 14, 1), (1015, 1015, 1), (17, 23, 2), (1024, 1024, 2)])) [0, 1, 3, 7, 15, 31, 7, 71, 199, 511, 1023, 2047, 4095, 8191, 16383, 32767, 65535, 131071, 262143, 131071, 131071, 1179647, 3801087, 8388607, 16777215] [(32, bA (decide (e.value ≥ ak0 vs.length ars.length e.kind)))] fun G => b0 (rcD G (fun h2 q2 => ?_) fun h2 q2 => ?_)
    ·
     refine wp_skip (b0 (wp_seq (wp_seq (I8 G f8 [(2, iA n), (3, .ptr 4 0), (4, .ptr 5 0), (6, bA false), (7, iA 0)] fun G => b0 (wp_block ?_))))); refine A8 (κ := Nat) (fun k => k ≤ e.kids.length ∧ (e.kids.take k).all (m8 vs.length ars.length d) = true) (fun k => e.kids.length - k) (fun k => [dI vs, dI ars, dT b, dE e.kids, .box (pL 0), .box (eL e 3)]) (fun k => [(2, iA n), (3, .ptr 4 0), (4, .ptr 5 0), (6, bA false), (7, iA k)]) 0 (by simp [h100, h0, h1, h2]) (v5.at G _ _) ?_; clear G; intro k ρ a w hp G; have hlen : e.kids.length ≤ 9223372036854775807 := G.len 3 (d := .exprs e.kids) (by kernel_rfl); have hnode := a61 (nv := vs.length) (na := ars.length) q0 q1 q2; refine wp_seq (wp_seq (I8 G f8 [(2, iA n), (3, .ptr 4 0), (4, .ptr 5 0), (6, bA false), (7, iA k), (37, bA (decide ((k : Int) < e.kids.length)))] fun G => b0 (rcD G (fun h3 q3 => ?_) fun h3 q3 => ?_)))
     ·
      refine wp_exit (A2 (A2 (A1 (b0 (wp_seq ?_))))); cases h4 : (e.kind != 3)
      · have q4 := bne_eq_false_iff_eq.1 h4; refine V2 G (X7 (H7 8 [62] (aF1 (e.kids.getD 0 ca9)) X6) (fc h4 fz) (us [(4, 8, 0), (1009, 1009, 0)])) (rg 4) [dI vs, dI ars, dT b, dE e.kids] [(6, bA (U4 (e.kids.getD 0 ca9)))] (iX 0 0 e.kids.length []) (iK (by have := aL7 q0 (by omega); omega) cc2) fun G => b0 (wp_ret ?_); exact N4 (U4 (e.kids.getD 0 ca9)) G (rg 4) (bE2 hnode (aF8 hp.2 (by omega)) (by omega) (aL7 q0 (by omega)))
      · have q4 := bne_iff_ne.1 h4; refine l0 G (N1 (fc h4 fz) (us [(4, 8, 0), (1009, 1009, 0)])) (rg 4) [dI vs, dI ars, dT b, dE e.kids] [(6, bA true)] fun G => b0 (wp_ret ?_); exact N4 true G (rg 4) (bE3 hnode (aF8 hp.2 (by omega)) (by omega))
     ·
      refine wp_skip (b0 (wp_seq (wp_block (wp_seq (bk7 G (A4 8 [0, 1, 2, 46] (ih (e.kids.getD k ca9) (n - 1) (by omega))) [0, 0, 2, 0, 14, 30, 0, 64, 255, 511] [(49, .v (.bool !m8 vs.length ars.length d (e.kids.getD k ca9)))] (iX k k e.kids.length ((wO (n - 1)) :: [])) (iK (by omega) (o1 (by omega))) fun G => b0 ?_))))); cases h5 : (!m8 vs.length ars.length d (e.kids.getD k ca9))
      · have q5 : (m8 vs.length ars.length d (e.kids.getD k ca9)) = true := (Eq.mp (Bool.not_eq_false' _) h5); refine rF G _ h5 (wp_skip (t5 (b0 (O0 G f8 [(7, iA ((k : Int) + 1))] [wO ((k : Int) + 1)] (o1 (by omega)) fun G => b0 ?_)))); exact rxn G (k + 1) (⟨by omega, a42 hp.2 (by omega) (by assumption)⟩) (by omega) (rg 6)
      · have q5 : (m8 vs.length ars.length d (e.kids.getD k ca9)) = false := (Eq.mp (cf0 _) h5); refine rT G _ h5 (wp_seq (m7 G f8 [] fun G => b0 (wp_ret (E5 (o5 (o5 (E5 (o5 ?_)))))))); exact N4 false G (rg 4) (bE4 (k := k) (by omega) (by assumption))
    · refine wp_seq (m7 G f8 [] fun G => b0 (wp_ret (o5 ?_))); exact N4 false G (rg 4) (bE5 (by omega))
   · have q1 := dTt h1; refine bG1 G (X7 (H7 8 [] (ai8 e.kind) X6) (fc (a := decide (n < 1)) (b := false) (by assumption) (fc h0 (fc h1 fz))) (us [(3, 9, 0), (1010, 1010, 0), (12, 14, 1), (1015, 1015, 1), (17, 23, 2), (1024, 1024, 2)])) [0, 1, 3, 7, 15, 31, 7, 71, 199, 511, 1023, 2047, 4095, 8191, 16383, 32767, 65535, 131071, 262143, 131071, 131071, 1179647, 3801087, 8388607, 16777215] [(32, bA true)] fun G => b0 (rT G true (by kernel_rfl) (wp_seq (m7 G f8 [] fun G => b0 (wp_ret (o5 ?_))))); exact N4 false G (rg 4) (bE6 (by omega))
  · have q0 := bne_iff_ne.1 h0; refine bG1 G (X7 (H7 8 [] (ai8 e.kind) X6) (fc (a := decide (n < 1)) (b := false) (by assumption) (fc h0 (fc (b := true) rfl fz))) (us [(3, 9, 0), (1010, 1010, 0), (12, 14, 1), (1015, 1015, 1), (17, 23, 2), (1024, 1024, 2)])) [0, 1, 3, 7, 15, 31, 7, 71, 199, 511, 1023, 2047, 4095, 8191, 16383, 32767, 65535, 131071, 262143, 131071, 131071, 1179647, 3801087, 8388607, 16777215] [(32, bA true)] fun G => b0 (rT G true (by kernel_rfl) (wp_seq (m7 G f8 [] fun G => b0 (wp_ret (o5 ?_))))); exact N4 false G (rg 4) (bE7 (by omega))
theorem aY9 (vs ars : List Int) (b : List c8) : ∀ (d : Nat), d ≤ 5 → ∀ (e : d9) (n : Int), n = d → j9.ok Tryz.prog ⟨116, [.agg [.ref 0, .ref 1, .ref 2], .agg [.v (.int .i64 e.kind), .v (.int .i64 e.value), .ref 3], .v (.int .i64 n)], [.dat (.ints vs), .dat (.ints ars), .dat (.stmts b), .dat (.exprs e.kids)], [.dat (.ints vs), .dat (.ints ars), .dat (.stmts b), .dat (.exprs e.kids)], .v (.bool (m8 vs.length ars.length d e))⟩
 | 0, _, e, n, hn => bb5 vs ars b e n (by omega)
 | d + 1, hd, e, n, hn => bb4 vs ars b d (by omega) (aY9 vs ars b d (by omega)) e n hn
theorem aF0 (vs ars : List Int) (b : List c8) (ky vy : Int) (ks : List d9) (n : Int) (hn : n = 5) : j9.ok Tryz.prog (fnC 116 [pA 0, .agg [iA ky, iA vy, .ref 3], iA n] [dI vs, dI ars, dT b, dE ks] (bA (m8 vs.length ars.length 5 ⟨ky, vy, ks⟩))) := aY9 vs ars b 5 (by omega) ⟨ky, vy, ks⟩ n hn
def cnP (d : Nat) (ks : List d9) (k : Nat) : Nat := 1 + ((ks.take k).map (af0 d)).sum
theorem b10 (d : Nat) (ks : List d9) : cnP d ks 0 = 1 := rfl
theorem a26 {d : Nat} {ks : List d9} {k : Nat} (hk : k < ks.length) : cnP d ks (k + 1) = cnP d ks k + af0 d (ks.getD k ca9) := by
 unfold cnP
 rw [D0 ks k hk, List.map_append, List.sum_append, o8 hk]
 simp; omega
theorem bI9 {d : Nat} {e : d9} {k : Nat} (hk : e.kids.length ≤ k) : cnP d e.kids k = af0 (d + 1) e := by
 unfold cnP; rw [cc6 hk, af0]
section
variable {nv na d : Nat} {e : d9}
theorem ba3 (he : m8 nv na (d + 1) e = true) {k : Nat} (hk : k < e.kids.length) : m8 nv na d (e.kids.getD k ca9) = true := by
 rw [o8 hk]; exact (am1 he).2 _ (cd1 hk)
theorem b09 (hd : d ≤ 5) (he : m8 nv na d e = true) : af0 d e ≤ 1024 := by
 rw [a25 nv na d e he]
 refine cd3 (bs5 nv na d e he) ?_
 exact cd3 (Nat.pow_le_pow_right (by decide) hd) (by decide)
theorem bM7 (hd : d ≤ 4) (he : m8 nv na (d + 1) e = true) : ∀ k : Nat, k ≤ e.kids.length → cnP d e.kids k ≤ 1 + 1024 * k
 | 0, _ => by rw [b10]; omega
 | k + 1, hk => by
  have h := bM7 hd he k (by omega)
  have h2 := b09 (by omega) (ba3 he (show k < e.kids.length by omega))
  rw [a26 (by omega)]
  omega
end
abbrev cnC (d : Nat) (e : d9) (n : Int) : j9 := fnC 117 [eA e 0, iA n] (eS e) (iA (af0 d e : Nat))
theorem bk4 (nv na d : Nat) (hd : d ≤ 4) (ih : ∀ (e : d9), m8 nv na d e = true → ∀ n : Int, n = d → j9.ok Tryz.prog (cnC d e n)) (e : d9) (he : m8 nv na (d + 1) e = true) (n : Int) (hn : n = (d + 1 : Nat)) : j9.ok Tryz.prog (cnC (d + 1) e n) := by
  have hk3 := (am1 he).1; refine K9 29 Tryz.func117 [dE e.kids] [(0, eA e 0), (1, iA n)] fun G => ?_; refine wp_seq (l0 G f8 [0, 1] [dE e.kids, .box (eL e 0)] [(1, iA n), (2, .ptr 1 0), (4, iA 0)] fun G => b0 (wp_seq (m7 G f8 [(5, iA 1)] fun G => b0 (wp_seq (wp_seq (I8 G f8 [(1, iA n), (2, .ptr 1 0), (4, iA 0), (5, iA 1), (6, iA 0)] fun G => b0 (wp_block ?_))))))); refine A8 (κ := Nat) (fun k => k ≤ e.kids.length) (fun k => e.kids.length - k) (fun k => [dE e.kids, .box (eL e 0)]) (fun k => [(1, iA n), (2, .ptr 1 0), (4, iA 0), (5, iA (cnP d e.kids k : Nat)), (6, iA k)]) 0 (by omega) (v5.at G _ _) ?_; clear G; intro k ρ a w hp G; replace G := v5.at G [dE e.kids, .box (eL e 0)] [(1, iA n), (2, .ptr 1 0), (4, iA 0), (5, iA (↑(cnP d e.kids k) : Int)), (6, iA k)]; have hcb := bM7 hd he k hp; refine wp_seq (wp_seq ?_); cases h0 : (decide ((k : Int) < e.kids.length))
  · have q0 := dFf h0; refine m7 G (N1 (fc h0 fz) [(6, 0), (7, 0), (1008, 0)]) [(15, bA false)] fun G => b0 (rF G false (by kernel_rfl) (wp_exit (A2 (A2 (A1 (b0 (wp_seq (l0 G f8 [0] [dE e.kids] [(4, iA (↑(cnP d e.kids k) : Int))] fun G => b0 (wp_ret ?_))))))))); exact rxI ((↑(cnP d e.kids k) : Int)) G [0] (by rw [← bI9 (k := k) (by omega)]; done)
  ·
   have q0 := dTt h0; refine I8 G (N1 (fc h0 fz) [(6, 0), (7, 0), (1008, 0)]) [(1, iA n), (2, .ptr 1 0), (4, iA 0), (5, iA (↑(cnP d e.kids k) : Int)), (6, iA k), (15, bA (decide (n > 0)))] fun G => b0 ?_; cases h1 : (decide (n > 0))
   · have q1 := dFf h1; exact False.elim (by omega)
   · have q1 := dTt h1; refine rT G _ h1 (wp_skip (b0 (wp_seq (wp_block (O0 G (A4 8 [42] (ih (e.kids.getD k ca9) (ba3 he (by omega)) (n - 1) (by omega))) [(5, iA ((↑(cnP d e.kids k) : Int) + (↑(af0 d (e.kids.getD k ca9)) : Int)))] (iX k k e.kids.length ((wO (n - 1)) :: ((wO ((↑(cnP d e.kids k) : Int) + (↑(af0 d (e.kids.getD k ca9)) : Int))) :: []))) (iK (by omega) ⟨oW (by omega), ⟨(by have h9 := b09 (nv := nv) (na := na) (d := d) (by omega) (ba3 he (show k < e.kids.length by omega)); exact w64 (by omega) (by omega)), cc2⟩⟩) fun G => t5 (b0 (O0 G f8 [(6, iA ((k : Int) + 1))] [wO ((k : Int) + 1)] (o1 (by omega)) fun G => b0 ?_))))))); exact rxn G (k + 1) (by omega) (by omega) [0, 1] (ht := by have e1 : ((↑(cnP d e.kids (k + 1)) : Int) : Int) = ((↑(cnP d e.kids k) : Int) + (↑(af0 d (e.kids.getD k ca9)) : Int)) := (by rw [a26 (by omega)]; omega); (first | rw [e1] | simp only [e1]) <;> rfl)
theorem aZ0 (nv na : Nat) : ∀ (d : Nat), d ≤ 5 → ∀ (e : d9), m8 nv na d e = true → ∀ n : Int, n = d → j9.ok Tryz.prog (cnC d e n)
 | 0, _, e, h, _, _ => by simp [m8] at h
 | d + 1, hd, e, h, n, hn => bk4 nv na d (by omega) (aZ0 nv na d (by omega)) e h n hn
theorem bb7 (nv na : Nat) (ky vy : Int) (ks : List d9) (n : Int) (hn : n = 5) (h : m8 nv na 5 ⟨ky, vy, ks⟩ = true) : j9.ok Tryz.prog (fnC 117 [.agg [iA ky, iA vy, .ref 0], iA n] [dE ks] (iA (af0 5 ⟨ky, vy, ks⟩ : Nat))) := aZ0 nv na 5 (by omega) ⟨ky, vy, ks⟩ h n hn
theorem b53 {nv na : Nat} {e : d9} (h : m8 nv na 5 ⟨e.kind, e.value, e.kids⟩ = false) : r7 nv na e = false := by
 rw [d9.eta] at h
 unfold r7; rw [h]; rfl
theorem b52 {nv na : Nat} {e : d9} (h : m8 nv na 5 ⟨e.kind, e.value, e.kids⟩ = true) : r7 nv na e = decide ((af0 5 ⟨e.kind, e.value, e.kids⟩ : Int) ≤ 15) := by
 rw [d9.eta] at h ⊢
 rw [a68, h, Bool.true_and, ce0]
 simp only [decide_eq_true_eq]; omega
section
variable {s : c8}
theorem b62 (h : s.kind = 4) (h2 : ¬ (s.els.length : Int) = 0) : n9 s = false := by
 unfold n9; rw [if_pos (.inr h), if_pos h, decide_eq_false (p := s.els.length = 0) (by omega)]; simp
theorem b65 (h : s.kind = 4) (h1 : s.target = 0) (h2 : (s.els.length : Int) = 0) (h3 : s.count ≥ 1) (h4 : s.count ≤ 3) (h5 : noneB s.index = true) : n9 s = noneB s.value := by
 unfold n9; rw [if_pos (.inr h), if_pos h, decide_eq_true (p := s.els.length = 0) (by omega), decide_eq_true h1, decide_eq_true (p := 1 ≤ s.count) h3, decide_eq_true h4, h5]; simp
theorem b64 (h3 : ¬ s.kind = 3) (h4 : ¬ s.kind = 4) (b : ¬ (s.body.length : Int) > 0) (e : ¬ (s.els.length : Int) > 0) (c : s.count = 0) (h2 : ¬ s.kind = 2) : n9 s = noneB s.index := by
 unfold n9; rw [if_neg (by omega), decide_eq_true (p := s.body.length = 0) (by omega), decide_eq_true (p := s.els.length = 0) (by omega), decide_eq_true c, decide_eq_false h2]; simp
theorem b63 (b : ¬ (s.body.length : Int) > 0) (e : ¬ (s.els.length : Int) > 0) (c : s.count = 0) (h2 : s.kind = 2) : n9 s = true := by
 unfold n9; rw [if_neg (by omega), decide_eq_true (p := s.body.length = 0) (by omega), decide_eq_true (p := s.els.length = 0) (by omega), decide_eq_true c, decide_eq_true h2]; simp
theorem b61 (h3 : ¬ s.kind = 3) (h4 : ¬ s.kind = 4) (e : (s.els.length : Int) > 0) : n9 s = false := by
 unfold n9; rw [if_neg (by omega), decide_eq_false (p := s.els.length = 0) (by omega)]; simp
theorem b60 (h3 : ¬ s.kind = 3) (h4 : ¬ s.kind = 4) (e : (s.body.length : Int) > 0) : n9 s = false := by
 unfold n9; rw [if_neg (by omega), decide_eq_false (p := s.body.length = 0) (by omega)]; simp
end
theorem I6 (p : j8) (e : d9) : j9.ok Tryz.prog (fnC 112 [pA 0, eA e 3] (pS p ++ eS e) (bA (r7 p.vars.length p.arrays.length e))) := by
 have hcn := fun h => bb7 p.vars.length p.arrays.length e.kind e.value e.kids 5 rfl h
 refine K9 13 Tryz.func112 [dI p.vars, dI p.arrays, dT p.body, dE e.kids] [(0, pA 0), (1, eA e 3)] fun G => ?_; refine wp_seq (l0 G f8 [0, 1, 2, 3, 4, 12] [dI p.vars, dI p.arrays, dT p.body, dE e.kids, .box (pL 0), .box (eL e 3)] [(2, .ptr 4 0), (3, .ptr 5 0), (4, bA false)] fun G => b0 (wp_seq ?_)); cases h0 : (m8 p.vars.length p.arrays.length (5 : Nat) (qzE e))
 ·refine l0 G (X7 (H7 2 (rg 4) (aF0 p.vars p.arrays p.body e.kind e.value e.kids 5 (by kernel_rfl)) X6) (fc h0 fz) [(4, 0), (5, 0), (6, 0), (1007, 0)]) (rg 4) [dI p.vars, dI p.arrays, dT p.body, dE e.kids] [(4, bA false)] fun G => b0 (wp_ret ?_); exact N4 false G (rg 4) (b53 (by with_reducible assumption))
 ·refine l0 G (X7 (H7 2 (rg 4) (aF0 p.vars p.arrays p.body e.kind e.value e.kids 5 (by kernel_rfl)) (H7 5 [3] (hcn (by assumption)) X6)) (fc h0 fz) [(4, 0), (5, 0), (6, 0), (1007, 0)]) (rg 4) [dI p.vars, dI p.arrays, dT p.body, dE e.kids] [(4, bA (decide ((↑(af0 5 (qzE e)) : Int) ≤ 15)))] fun G => b0 (wp_ret ?_); exact N4 (decide ((↑(af0 5 (qzE e)) : Int) ≤ 15)) G (rg 4) (b52 (by with_reducible assumption))
abbrev ay7 (s : c8) (r0 : List It) : List It := dE s.index.kids :: dE s.value.kids :: dT s.body :: dT s.els :: r0
theorem bo1 (s : c8) : j9.ok Tryz.prog (fnC 113 [sA s 0] (sS s) (bA (n9 s))) := by
  refine K9 74 Tryz.func113 (ay7 s []) [(0, sA s 0)] fun G => ?_; refine wp_seq (l0 G f8 (rg 5) (ay7 s [.box (sL s 0)]) [(1, .ptr 4 0), (2, bA false)] fun G => b0 (wp_seq ?_)); cases h0 : (s.kind == 3)
  ·
   have q0 := ne_of_beq_false h0; refine I8 G (N1 (fc h0 fz) [(4, 0), (5, 0), (6, 0), (1007, 0)]) [(1, .ptr 4 0), (2, bA false), (3, bA (s.kind == 4))] fun G => b0 (wp_seq (wp_seq ?_)); cases h1 : (!s.kind == 4)
   ·
    have q1 : s.kind = 4 := (fun hq => eq_of_beq hq) (Eq.mp (Bool.not_eq_false' _) h1); cases h2 : (s.kind == 4)
    · have q2 := ne_of_beq_false h2; exact False.elim (by omega)
    ·
     have q2 := eq_of_beq h2; refine m7 G (N1 (fc h1 (fc (b := false) rfl (fc h2 fz))) (us [(3, 7, 0), (12, 12, 0), (1013, 1013, 0), (15, 16, 1), (17, 19, 2), (20, 20, 1), (1020, 1020, 2), (1021, 1021, 1)])) [(33, bA (s.target != 0))] fun G => b0 (rcN G (fun h3 q3 => ?_) fun h3 q3 => ?_)
     ·
      refine wp_skip (b0 (wp_seq (wp_seq (m7 G f8 [(36, bA (s.kind == 4))] fun G => b0 (rT G _ h2 (wp_seq ?_)))))); cases h4 : ((s.els.length : Int) == 0)
      · have q4 := ne_of_beq_false h4; refine m7 G (N1 (fc h4 (fc (b := false) rfl fz)) (us [(5, 7, 0), (1008, 1008, 0), (10, 12, 1), (1013, 1013, 1), (15, 17, 1), (1018, 1018, 1), (20, 22, 1), (1023, 1023, 1)])) [] fun G => b0 (wp_ret (o5 ?_)); exact N4 false G (rg 4) (b62 (by omega) (by omega))
      ·
       have q4 := eq_of_beq h4; cases h5 : (decide (s.count ≥ 1))
       · have q5 := dFf h5; refine m7 G (N1 (fc h4 (fc h5 (fc (b := false) rfl fz))) (us [(5, 7, 0), (1008, 1008, 0), (10, 12, 1), (1013, 1013, 1), (15, 17, 2), (1018, 1018, 2), (20, 22, 2), (1023, 1023, 2)])) [] fun G => b0 (wp_ret (o5 ?_)); exact N4 false G (rg 4) (by rw [ce0]; simp [n9, h0, q0, h1, q1, h2, q2, h3, q3, h4, q4, h5, q5]; done)
       ·
        have q5 := dTt h5; cases h6 : (decide (s.count ≤ 3))
        · have q6 := dFf h6; refine m7 G (N1 (fc h4 (fc h5 (fc h6 (fc (b := false) rfl fz)))) (us [(5, 7, 0), (1008, 1008, 0), (10, 12, 1), (1013, 1013, 1), (15, 17, 2), (1018, 1018, 2), (20, 22, 3), (1023, 1023, 3)])) [] fun G => b0 (wp_ret (o5 ?_)); exact N4 false G (rg 4) (by rw [ce0]; simp [n9, h0, q0, h1, q1, h2, q2, h3, q3, h4, q4, h5, q5, h6, q6]; done)
        ·
         have q6 := dTt h6; cases h7 : (noneB s.index)
         · refine m7 G (X7 (H7 17 [0] (ag8 s.index) X6) (fc h4 (fc h5 (fc h6 (fc h7 fz)))) (us [(5, 7, 0), (1008, 1008, 0), (10, 12, 1), (1013, 1013, 1), (15, 17, 2), (1018, 1018, 2), (20, 22, 3), (1023, 1023, 3)])) [] fun G => b0 (wp_ret (o5 ?_)); exact N4 false G (rg 4) (by rw [ce0]; simp [n9, h0, q0, h1, q1, h2, q2, h3, q3, h4, q4, h5, q5, h6, q6, h7]; done)
         · refine m7 G (X7 (H7 17 [0] (ag8 s.index) (H7 22 [1] (ag8 s.value) X6)) (fc h4 (fc h5 (fc h6 (fc h7 fz)))) (us [(5, 7, 0), (1008, 1008, 0), (10, 12, 1), (1013, 1013, 1), (15, 17, 2), (1018, 1018, 2), (20, 22, 3), (1023, 1023, 3)])) [(2, bA (noneB s.value))] fun G => b0 (wp_ret (o5 ?_)); exact N4 (noneB s.value) G (rg 4) (b65 (by omega) (by omega) (by omega) (by omega) (by omega) (by with_reducible assumption))
     · refine wp_seq (m7 G f8 [] fun G => b0 (wp_ret (o5 ?_))); exact N4 false G (rg 4) (by rw [ce0]; simp [n9, h0, q0, h1, q1, h2, q2, h3, q3]; done)
   ·
    have q1 : ¬ (s.kind = 4) := (fun hq => ne_of_beq_false hq) (Eq.mp (cf0 _) h1); cases h8 : (decide ((s.body.length : Int) > 0))
    ·
     have q8 := dFf h8; cases h9 : (decide ((s.els.length : Int) > 0))
     ·
      have q9 := dFf h9; cases h10 : (s.kind == 4)
      ·
       have q10 := ne_of_beq_false h10; refine m7 G (N1 (fc h1 (fc h8 (fc h9 (fc h10 fz)))) (us [(3, 7, 0), (8, 11, 1), (12, 12, 0), (1012, 1012, 1), (1013, 1013, 0), (15, 16, 2), (17, 19, 3), (20, 20, 2), (1020, 1020, 3), (1021, 1021, 2)])) [(33, bA false)] fun G => b0 (rF G false (by kernel_rfl) (wp_skip (b0 (wp_seq (wp_seq (m7 G f8 [(36, bA (s.kind == 4))] fun G => b0 (rF G _ h10 (wp_skip (b0 (wp_seq ?_)))))))))); cases h11 : (s.count == 0)
       · have q11 := ne_of_beq_false h11; refine l0 G (N1 (fc h11 fz) (us [(4, 7, 0), (11, 11, 0), (1012, 1012, 0)])) (rg 4) (ay7 s []) [(2, bA false)] fun G => b0 (wp_ret ?_); exact N4 false G (rg 4) (by rw [ce0]; simp [n9, h0, q0, h1, q1, h8, q8, h9, q9, h10, q10, h11, q11]; done)
       ·
        have q11 := eq_of_beq h11; cases h12 : (s.kind == 2)
        · have q12 := ne_of_beq_false h12; refine l0 G (X7 (H7 10 [0] (ag8 s.index) X6) (fc h11 (fc h12 fz)) (us [(4, 7, 0), (8, 10, 1), (11, 11, 0), (1011, 1011, 1), (1012, 1012, 0)])) (rg 4) (ay7 s []) [(2, bA (noneB s.index))] fun G => b0 (wp_ret ?_); exact N4 (noneB s.index) G (rg 4) (b64 (by omega) (by omega) (by omega) (by omega) (by omega) (by omega))
        · have q12 := eq_of_beq h12; refine l0 G (N1 (fc h11 (fc h12 fz)) (us [(4, 7, 0), (8, 10, 1), (11, 11, 0), (1011, 1011, 1), (1012, 1012, 0)])) (rg 4) (ay7 s []) [(2, bA true)] fun G => b0 (wp_ret ?_); exact N4 true G (rg 4) (b63 (by omega) (by omega) (by omega) (by omega))
      · have q10 := eq_of_beq h10; exact False.elim (by omega)
     · have q9 := dTt h9; refine m7 G (N1 (fc h1 (fc h8 (fc h9 fz))) (us [(3, 7, 0), (8, 11, 1), (12, 12, 0), (1012, 1012, 1), (1013, 1013, 0), (15, 16, 2), (20, 20, 2), (1021, 1021, 2)])) [(33, bA true)] fun G => b0 (rT G true (by kernel_rfl) (wp_seq (m7 G f8 [] fun G => b0 (wp_ret (o5 ?_))))); exact N4 false G (rg 4) (b61 (by omega) (by omega) (by omega))
    · have q8 := dTt h8; refine m7 G (N1 (fc h1 (fc h8 (fc (b := true) rfl fz))) (us [(3, 7, 0), (8, 11, 1), (12, 12, 0), (1012, 1012, 1), (1013, 1013, 0), (15, 16, 2), (20, 20, 2), (1021, 1021, 2)])) [(33, bA true)] fun G => b0 (rT G true (by kernel_rfl) (wp_seq (m7 G f8 [] fun G => b0 (wp_ret (o5 ?_))))); exact N4 false G (rg 4) (b60 (by omega) (by omega) (by omega))
  ·
   have q0 := eq_of_beq h0; refine m7 G (N1 (fc h0 fz) [(4, 0), (5, 0), (6, 0), (1007, 0)]) [(3, bA true)] fun G => b0 (wp_seq (wp_seq (m7 G (N1 (fc (b := false) rfl (fc (b := true) rfl fz)) (us [(3, 7, 0), (12, 12, 0), (1013, 1013, 0), (15, 16, 0), (17, 19, 1), (20, 20, 0), (1020, 1020, 1), (1021, 1021, 0)])) [(33, bA (s.target != 0))] fun G => b0 (rcN G (fun h13 q13 => ?_) fun h13 q13 => ?_))))
   ·
    refine wp_skip (b0 (wp_seq (wp_seq (I8 G f8 [(1, .ptr 4 0), (2, bA false), (36, bA (s.kind == 4))] fun G => b0 ?_)))); cases h14 : (s.kind == 4)
    ·
     have q14 := ne_of_beq_false h14; refine rF G _ h14 (wp_skip (b0 (wp_seq ?_))); cases h15 : (s.count == 0)
     · have q15 := ne_of_beq_false h15; refine l0 G (N1 (fc h15 fz) (us [(4, 7, 0), (11, 11, 0), (1012, 1012, 0)])) (rg 4) (ay7 s []) [(2, bA false)] fun G => b0 (wp_ret ?_); exact N4 false G (rg 4) (by rw [ce0]; simp [n9, h0, q0, h13, q13, h14, q14, h15, q15]; done)
     ·
      have q15 := eq_of_beq h15; cases h16 : (s.kind == 2)
      · have q16 := ne_of_beq_false h16; refine l0 G (X7 (H7 10 [0] (ag8 s.index) X6) (fc h15 (fc h16 fz)) (us [(4, 7, 0), (8, 10, 1), (11, 11, 0), (1011, 1011, 1), (1012, 1012, 0)])) (rg 4) (ay7 s []) [(2, bA (noneB s.index))] fun G => b0 (wp_ret ?_); exact N4 (noneB s.index) G (rg 4) (by rw [ce0]; simp [n9, h0, q0, h13, q13, h14, q14, h15, q15, h16, q16]; done)
      · have q16 := eq_of_beq h16; exact False.elim (by omega)
    · have q14 := eq_of_beq h14; exact False.elim (by omega)
   · refine wp_seq (m7 G f8 [] fun G => b0 (wp_ret (o5 ?_))); exact N4 false G (rg 4) (by rw [ce0]; simp [n9, h0, q0, h13, q13]; done)
abbrev vbC (p : j8) (d : Nat) (ss : List c8) (n : Int) : j9 := fnC 93 [pA 0, .ref 3, iA n] (pS p ++ [dT ss]) (bA (ss.all (m6 p.vars.length p.arrays.length d)))
abbrev vsC (p : j8) (d : Nat) (s : c8) (n : Int) : j9 := fnC 105 [pA 0, sA s 3, iA n] (pS p ++ sS s) (bA (m6 p.vars.length p.arrays.length d s))
theorem bk3 (p : j8) (s : c8) (n : Int) (hn : n = 0) : j9.ok Tryz.prog (vsC p 0 s n) := by
 refine K9 96 Tryz.func105 [dI p.vars, dI p.arrays, dT p.body, dE s.index.kids, dE s.value.kids, dT s.body, dT s.els] [(0, pA 0), (1, sA s 3), (2, iA n)] fun G => ?_; refine wp_seq (l0 G f8 [0, 1, 2, 3, 4, 5, 6, 7, 15] [dI p.vars, dI p.arrays, dT p.body, dE s.index.kids, dE s.value.kids, dT s.body, dT s.els, .box (pL 0), .box (sL s 3)] [(2, iA n), (3, .ptr 7 0), (4, .ptr 8 0), (6, bA false)] fun G => b0 (wp_seq (wp_seq ?_))); cases h0 : (decide (n < 1))
 ·have q0 := dFf h0; exact False.elim (by omega)
 ·have q0 := dTt h0; refine m7 G (N1 (fc h0 fz) [(3, 0), (4, 0), (5, 0), (1006, 0)]) [(13, bA true)] fun G => b0 (rT G true (by kernel_rfl) (wp_seq (m7 G f8 [] fun G => b0 (wp_ret (o5 ?_))))); exact L6 G (rg 7)
section
variable {nv na d : Nat} {s : c8}
theorem b48 (h : n9 s = false) : m6 nv na (d + 1) s = false := by rw [m6, h]; rfl
theorem bO1 (hp : n9 s = true) (h : s.kind = 1 ∨ s.kind = 5) : m6 nv na (d + 1) s = (decide (0 ≤ s.target) && decide (s.target < nv) && r7 nv na s.value) := by rw [m6, hp, if_pos h]; rfl
theorem bs1 (hp : n9 s = true) (h : s.kind = 2) : m6 nv na (d + 1) s = (decide (0 ≤ s.target) && decide (s.target < na) && r7 nv na s.index && U4 s.index && r7 nv na s.value) := by rw [m6, hp, if_neg (by omega), if_pos h]; rfl
theorem bO0 (hp : n9 s = true) (h : s.kind = 3) : m6 nv na (d + 1) s = (r7 nv na s.value && s.body.all (m6 nv na d) && s.els.all (m6 nv na d)) := by rw [m6, hp, if_neg (by omega), if_neg (by omega), if_pos h]; rfl
theorem b49 (hp : n9 s = true) (h : s.kind = 4) : m6 nv na (d + 1) s = s.body.all (m6 nv na d) := by rw [m6, hp, if_neg (by omega), if_neg (by omega), if_neg (by omega), if_pos h]; rfl
theorem bL4 (hp : n9 s = true) (h : s.kind = 1 ∨ s.kind = 5) (q : ¬ s.target ≥ 0) : m6 nv na (d + 1) s = false := by rw [bO1 hp h, decide_eq_false (p := 0 ≤ s.target) q]; rfl
theorem bL3 (hp : n9 s = true) (h : s.kind = 1 ∨ s.kind = 5) (q : ¬ s.target < (nv : Int)) : m6 nv na (d + 1) s = false := by rw [bO1 hp h, decide_eq_false q, Bool.and_false]; rfl
theorem bL2 (hp : n9 s = true) (h : s.kind = 1 ∨ s.kind = 5) (q : s.target ≥ 0) (r : s.target < (nv : Int)) : m6 nv na (d + 1) s = r7 nv na s.value := by rw [bO1 hp h, decide_eq_true (p := 0 ≤ s.target) q, decide_eq_true r]; rfl
theorem bV7 (hp : n9 s = true) (h : s.kind = 2) (q : ¬ s.target ≥ 0) : m6 nv na (d + 1) s = false := by rw [bs1 hp h, decide_eq_false (p := 0 ≤ s.target) q]; rfl
theorem bV6 (hp : n9 s = true) (h : s.kind = 2) (q : ¬ s.target < (na : Int)) : m6 nv na (d + 1) s = false := by rw [bs1 hp h, decide_eq_false q, Bool.and_false]; rfl
theorem bV5 (hp : n9 s = true) (h : s.kind = 2) (q : r7 nv na s.index = false) : m6 nv na (d + 1) s = false := by rw [bs1 hp h, q, Bool.and_false]; rfl
theorem bV4 (hp : n9 s = true) (h : s.kind = 2) (q : U4 s.index = false) : m6 nv na (d + 1) s = false := by rw [bs1 hp h, q, Bool.and_false]; rfl
theorem bV3 (hp : n9 s = true) (h : s.kind = 2) (q : s.target ≥ 0) (r : s.target < (na : Int)) (u : r7 nv na s.index = true) (v : U4 s.index = true) : m6 nv na (d + 1) s = r7 nv na s.value := by rw [bs1 hp h, decide_eq_true (p := 0 ≤ s.target) q, decide_eq_true r, u, v]; rfl
theorem bV2 (hp : n9 s = true) (h : s.kind = 3) (q : r7 nv na s.value = false) : m6 nv na (d + 1) s = false := by rw [bO0 hp h, q]; rfl
theorem bV1 (hp : n9 s = true) (h : s.kind = 3) (q : s.body.all (m6 nv na d) = false) : m6 nv na (d + 1) s = false := by rw [bO0 hp h, q, Bool.and_false]; rfl
theorem bV0 (hp : n9 s = true) (h : s.kind = 3) (q : r7 nv na s.value = true) (r : s.body.all (m6 nv na d) = true) : m6 nv na (d + 1) s = s.els.all (m6 nv na d) := by rw [bO0 hp h, q, r]; rfl
theorem b50 (h1 : ¬ s.kind = 1) (h2 : ¬ s.kind = 2) (h3 : ¬ s.kind = 3) (h4 : ¬ s.kind = 4) (h5 : ¬ s.kind = 5) : m6 nv na (d + 1) s = false := by rw [m6, if_neg (by omega), if_neg h2, if_neg h3, if_neg h4]; simp
end
abbrev P8 (p : j8) (s : c8) (r0 : List It) : List It := dI p.vars :: dI p.arrays :: dT p.body :: dE s.index.kids :: dE s.value.kids :: dT s.body :: dT s.els :: r0
theorem bt2 (p : j8) (d : Nat) (hB : ∀ (ss : List c8) (n : Int), n = d → j9.ok Tryz.prog (vbC p d ss n)) (s : c8) (n : Int) (hn : n = (d + 1 : Nat)) (hd : d ≤ 5) : j9.ok Tryz.prog (vsC p (d + 1) s n) := by
  refine K9 96 Tryz.func105 (P8 p s []) [(0, pA 0), (1, sA s 3), (2, iA n)] fun G => ?_; refine wp_seq (l0 G f8 [0, 1, 2, 3, 4, 5, 6, 7, 15] (P8 p s [.box (pL 0), .box (sL s 3)]) [(2, iA n), (3, .ptr 7 0), (4, .ptr 8 0), (6, bA false)] fun G => b0 (wp_seq (wp_seq ?_))); cases h0 : (decide (n < 1))
  ·
   have q0 := dFf h0; refine m7 G (X7 (H7 4 [3, 4, 5, 6] (bo1 s) X6) (fc h0 fz) [(3, 0), (4, 0), (5, 0), (1006, 0)]) [(13, .v (.bool !n9 s))] fun G => b0 ?_; cases h1 : (!n9 s)
   ·
    have q1 : (n9 s) = true := (Eq.mp (Bool.not_eq_false' _) h1); refine rF G _ h1 (wp_skip (b0 (wp_seq (wp_seq (m7 G f8 [(15, iA s.kind)] fun G => b0 (wp_block (wp_seq (wp_seq (m7 G f8 [(16, bA (s.kind == 1))] fun G => b0 (rcE G (fun h2 q2 => ?_) fun h2 q2 => ?_))))))))))
    ·
     refine m7 G f8 [(16, bA (s.kind == 5))] fun G => b0 (rcE G (fun h3 q3 => ?_) fun h3 q3 => ?_)
     ·
      refine wp_seq (m7 G f8 [(36, bA (s.kind == 2))] fun G => b0 (rcE G (fun h4 q4 => ?_) fun h4 q4 => ?_))
      ·
       refine wp_seq (m7 G f8 [(66, bA (s.kind == 3))] fun G => b0 (rcE G (fun h5 q5 => ?_) fun h5 q5 => ?_))
       ·
        refine wp_seq (m7 G f8 [(88, bA (s.kind == 4))] fun G => b0 (rcE G (fun h6 q6 => ?_) fun h6 q6 => ?_))
        · refine wp_skip (t5 (b0 (wp_seq (l0 G f8 (rg 7) (P8 p s []) [(6, bA false)] fun G => b0 (wp_ret ?_))))); exact N4 false G (rg 7) (b50 (by omega) (by omega) (by omega) (by omega) (by omega))
        · refine wp_seq (V2 G (A4 5 [0, 1, 2, 5] (hB s.body (n - 1) (by omega))) (rg 7) (P8 p s []) [(6, bA (s.body.all (m6 p.vars.length p.arrays.length d)))] [wO (n - 1)] (o1 (by omega)) fun G => b0 (wp_ret (E5 (o5 ?_)))); exact N4 (s.body.all (m6 p.vars.length p.arrays.length d)) G (rg 7) (b49 (by with_reducible assumption) (by omega))
       ·
        refine wp_seq ?_; cases h7 : (r7 p.vars.length p.arrays.length s.value)
        · refine l0 G (X7 (H7 3 [0, 1, 2, 4] (I6 p s.value) X6) (fc h7 (fc (b := false) rfl fz)) (us [(5, 10, 0), (1011, 1011, 0), (13, 18, 1), (1019, 1019, 1)])) (rg 7) (P8 p s []) [(6, bA false)] fun G => b0 (wp_ret (E5 (o5 ?_))); exact N4 false G (rg 7) (bV2 (by with_reducible assumption) (by omega) (by with_reducible assumption))
        ·
         cases h8 : (s.body.all (m6 p.vars.length p.arrays.length d))
         · refine V2 G (X7 (H7 3 [0, 1, 2, 4] (I6 p s.value) (H7 10 [0, 1, 2, 5] (hB s.body (n - 1) (by omega)) X6)) (fc h7 (fc h8 fz)) (us [(5, 10, 0), (1011, 1011, 0), (13, 18, 1), (1019, 1019, 1)])) (rg 7) (P8 p s []) [(6, bA false)] [wO (n - 1)] (o1 (by omega)) fun G => b0 (wp_ret (E5 (o5 ?_))); exact N4 false G (rg 7) (bV1 (by with_reducible assumption) (by omega) (by with_reducible assumption))
         · refine V2 G (X7 (H7 3 [0, 1, 2, 4] (I6 p s.value) (H7 10 [0, 1, 2, 5] (hB s.body (n - 1) (by omega)) (H7 18 [0, 1, 2, 6] (hB s.els (n - 1) (by omega)) X6))) (fc h7 (fc h8 fz)) (us [(5, 10, 0), (1011, 1011, 0), (13, 18, 1), (1019, 1019, 1)])) (rg 7) (P8 p s []) [(6, bA (s.els.all (m6 p.vars.length p.arrays.length d)))] [wO (n - 1), wO (n - 1)] (o2 (by omega)) fun G => b0 (wp_ret (E5 (o5 ?_))); exact N4 (s.els.all (m6 p.vars.length p.arrays.length d)) G (rg 7) (bV0 (by with_reducible assumption) (by omega) (by with_reducible assumption) (by with_reducible assumption))
      ·
       refine wp_seq ?_; cases h9 : (decide (s.target ≥ 0))
       · have q9 := dFf h9; refine l0 G (N1 (fc h9 (fc (b := false) rfl fz)) (us [(4, 9, 0), (1010, 1010, 0), (12, 15, 1), (1016, 1016, 1), (18, 20, 1), (1021, 1021, 1), (23, 26, 1), (1027, 1027, 1)])) (rg 7) (P8 p s []) [(6, bA false)] fun G => b0 (wp_ret (E5 (o5 ?_))); exact N4 false G (rg 7) (bV7 (by with_reducible assumption) (by omega) (by omega))
       ·
        have q9 := dTt h9; cases h10 : (decide (s.target < (p.arrays.length : Int)))
        · have q10 := dFf h10; refine l0 G (N1 (fc h9 (fc h10 (fc (b := false) rfl fz))) (us [(4, 9, 0), (1010, 1010, 0), (12, 15, 1), (1016, 1016, 1), (18, 20, 2), (1021, 1021, 2), (23, 26, 2), (1027, 1027, 2)])) (rg 7) (P8 p s []) [(6, bA false)] fun G => b0 (wp_ret (E5 (o5 ?_))); exact N4 false G (rg 7) (bV6 (by with_reducible assumption) (by omega) (by omega))
        ·
         have q10 := dTt h10; cases h11 : (r7 p.vars.length p.arrays.length s.index)
         · refine l0 G (X7 (H7 15 (rg 4) (I6 p s.index) X6) (fc h9 (fc h10 (fc h11 (fc (b := false) rfl fz)))) (us [(4, 9, 0), (1010, 1010, 0), (12, 15, 1), (1016, 1016, 1), (18, 20, 2), (1021, 1021, 2), (23, 26, 3), (1027, 1027, 3)])) (rg 7) (P8 p s []) [(6, bA false)] fun G => b0 (wp_ret (E5 (o5 ?_))); exact N4 false G (rg 7) (bV5 (by with_reducible assumption) (by omega) (by with_reducible assumption))
         ·
          cases h12 : (U4 s.index)
          · refine l0 G (X7 (H7 15 (rg 4) (I6 p s.index) (H7 20 [3] (aF1 s.index) X6)) (fc h9 (fc h10 (fc h11 (fc h12 fz)))) (us [(4, 9, 0), (1010, 1010, 0), (12, 15, 1), (1016, 1016, 1), (18, 20, 2), (1021, 1021, 2), (23, 26, 3), (1027, 1027, 3)])) (rg 7) (P8 p s []) [(6, bA false)] fun G => b0 (wp_ret (E5 (o5 ?_))); exact N4 false G (rg 7) (bV4 (by with_reducible assumption) (by omega) (by with_reducible assumption))
          · refine l0 G (X7 (H7 15 (rg 4) (I6 p s.index) (H7 20 [3] (aF1 s.index) (H7 26 [0, 1, 2, 4] (I6 p s.value) X6))) (fc h9 (fc h10 (fc h11 (fc h12 fz)))) (us [(4, 9, 0), (1010, 1010, 0), (12, 15, 1), (1016, 1016, 1), (18, 20, 2), (1021, 1021, 2), (23, 26, 3), (1027, 1027, 3)])) (rg 7) (P8 p s []) [(6, bA (r7 p.vars.length p.arrays.length s.value))] fun G => b0 (wp_ret (E5 (o5 ?_))); exact N4 (r7 p.vars.length p.arrays.length s.value) G (rg 7) (bV3 (by with_reducible assumption) (by omega) (by omega) (by omega) (by with_reducible assumption) (by with_reducible assumption))
     ·
      refine wp_seq ?_; cases h13 : (decide (s.target ≥ 0))
      · have q13 := dFf h13; refine l0 G (N1 (fc h13 (fc (b := false) rfl fz)) (us [(4, 9, 0), (1010, 1010, 0), (12, 15, 1), (1016, 1016, 1)])) (rg 7) (P8 p s []) [(6, bA false)] fun G => b0 (wp_ret (E5 (o5 ?_))); exact N4 false G (rg 7) (bL4 (by with_reducible assumption) (by omega) (by omega))
      ·
       have q13 := dTt h13; cases h14 : (decide (s.target < (p.vars.length : Int)))
       · have q14 := dFf h14; refine l0 G (N1 (fc h13 (fc h14 fz)) (us [(4, 9, 0), (1010, 1010, 0), (12, 15, 1), (1016, 1016, 1)])) (rg 7) (P8 p s []) [(6, bA false)] fun G => b0 (wp_ret (E5 (o5 ?_))); exact N4 false G (rg 7) (bL3 (by with_reducible assumption) (by omega) (by omega))
       · have q14 := dTt h14; refine l0 G (X7 (H7 15 [0, 1, 2, 4] (I6 p s.value) X6) (fc h13 (fc h14 fz)) (us [(4, 9, 0), (1010, 1010, 0), (12, 15, 1), (1016, 1016, 1)])) (rg 7) (P8 p s []) [(6, bA (r7 p.vars.length p.arrays.length s.value))] fun G => b0 (wp_ret (E5 (o5 ?_))); exact N4 (r7 p.vars.length p.arrays.length s.value) G (rg 7) (bL2 (by with_reducible assumption) (by omega) (by omega) (by omega))
    ·
     refine wp_skip (b0 (rT G _ h2 (wp_seq ?_))); cases h15 : (decide (s.target ≥ 0))
     · have q15 := dFf h15; refine l0 G (N1 (fc h15 (fc (b := false) rfl fz)) (us [(4, 9, 0), (1010, 1010, 0), (12, 15, 1), (1016, 1016, 1)])) (rg 7) (P8 p s []) [(6, bA false)] fun G => b0 (wp_ret (E5 (o5 ?_))); exact N4 false G (rg 7) (bL4 (by with_reducible assumption) (by omega) (by omega))
     ·
      have q15 := dTt h15; cases h16 : (decide (s.target < (p.vars.length : Int)))
      · have q16 := dFf h16; refine l0 G (N1 (fc h15 (fc h16 fz)) (us [(4, 9, 0), (1010, 1010, 0), (12, 15, 1), (1016, 1016, 1)])) (rg 7) (P8 p s []) [(6, bA false)] fun G => b0 (wp_ret (E5 (o5 ?_))); exact N4 false G (rg 7) (bL3 (by with_reducible assumption) (by omega) (by omega))
      · have q16 := dTt h16; refine l0 G (X7 (H7 15 [0, 1, 2, 4] (I6 p s.value) X6) (fc h15 (fc h16 fz)) (us [(4, 9, 0), (1010, 1010, 0), (12, 15, 1), (1016, 1016, 1)])) (rg 7) (P8 p s []) [(6, bA (r7 p.vars.length p.arrays.length s.value))] fun G => b0 (wp_ret (E5 (o5 ?_))); exact N4 (r7 p.vars.length p.arrays.length s.value) G (rg 7) (bL2 (by with_reducible assumption) (by omega) (by omega) (by omega))
   · have q1 : (n9 s) = false := (Eq.mp (cf0 _) h1); refine rT G _ h1 (wp_seq (m7 G f8 [] fun G => b0 (wp_ret (o5 ?_)))); exact N4 false G (rg 7) (b48 (by with_reducible assumption))
  · have q0 := dTt h0; exact False.elim (by omega)
theorem b30 {nv na d : Nat} {ss : List c8} {k : Nat} (hk : k < ss.length) (h : m6 nv na d (ss.getD k ca9) = false) : ss.all (m6 nv na d) = false := by
 rw [o8 hk] at h
 exact ap0 hk h
theorem aJ8 (p : j8) (d : Nat) (hd : d ≤ 5) (hS : ∀ (s : c8) (n : Int), n = d → j9.ok Tryz.prog (vsC p d s n)) (ss : List c8) (n : Int) (hn : n = d) : j9.ok Tryz.prog (vbC p d ss n) := by
  refine K9 22 Tryz.func93 [dI p.vars, dI p.arrays, dT p.body, dT ss] [(0, pA 0), (1, .ref 3), (2, iA n)] fun G => ?_; refine wp_seq (l0 G f8 (rg 5) [dI p.vars, dI p.arrays, dT p.body, dT ss, .box (pL 0)] [(1, .ref 3), (2, iA n), (3, .ptr 4 0), (6, bA false)] fun G => b0 (wp_seq (wp_seq (I8 G f8 [(1, .ref 3), (2, iA n), (3, .ptr 4 0), (6, bA false), (7, iA 0)] fun G => b0 (wp_block ?_))))); refine A8 (κ := Nat) (fun k => k ≤ ss.length ∧ (ss.take k).all (m6 p.vars.length p.arrays.length d) = true) (fun k => ss.length - k) (fun k => [dI p.vars, dI p.arrays, dT p.body, dT ss, .box (pL 0)]) (fun k => [(1, .ref 3), (2, iA n), (3, .ptr 4 0), (6, bA false), (7, iA k)]) 0 (by simp) (v5.at G _ _) ?_; clear G; intro k ρ a w hp G; have hlen : ss.length ≤ 9223372036854775807 := G.len 3 (d := .stmts ss) (by kernel_rfl); refine wp_seq (wp_seq (I8 G f8 [(1, .ref 3), (2, iA n), (3, .ptr 4 0), (6, bA false), (7, iA k), (11, bA (decide ((k : Int) < ss.length)))] fun G => b0 (rcD G (fun h0 q0 => ?_) fun h0 q0 => ?_)))
  · refine wp_exit (A2 (A2 (A1 (b0 (wp_seq (l0 G f8 (rg 4) [dI p.vars, dI p.arrays, dT p.body, dT ss] [(6, bA true)] fun G => b0 (wp_ret ?_))))))); exact N4 true G (rg 4) (aF8 hp.2 (by omega))
  ·
   refine wp_skip (b0 (wp_seq (wp_block (wp_seq (bk7 G (A4 6 [0, 1, 2, 37, 38, 39, 40] (hS (ss.getD k ca9) n (by assumption))) [0, 0, 0, 6, 14, 0, 63, 127] [(21, .v (.bool !m6 p.vars.length p.arrays.length d (ss.getD k ca9)))] (iX k k ss.length []) (iK (by omega) cc2) fun G => b0 ?_))))); cases h1 : (!m6 p.vars.length p.arrays.length d (ss.getD k ca9))
   · have q1 : (m6 p.vars.length p.arrays.length d (ss.getD k ca9)) = true := (Eq.mp (Bool.not_eq_false' _) h1); refine rF G _ h1 (wp_skip (t5 (b0 (O0 G f8 [(7, iA ((k : Int) + 1))] [wO ((k : Int) + 1)] (o1 (by omega)) fun G => b0 ?_)))); exact rxn G (k + 1) (⟨by omega, a42 hp.2 (by omega) (by assumption)⟩) (by omega) (rg 5)
   · have q1 : (m6 p.vars.length p.arrays.length d (ss.getD k ca9)) = false := (Eq.mp (cf0 _) h1); refine rT G _ h1 (wp_seq (m7 G f8 [] fun G => b0 (wp_ret (E5 (o5 (o5 (E5 (o5 ?_)))))))); exact N4 false G (rg 4) (b30 (k := k) (by omega) (by with_reducible assumption))
theorem bh2 (p : j8) : ∀ (d : Nat), d ≤ 5 → ∀ (s : c8) (n : Int), n = d → j9.ok Tryz.prog (vsC p d s n)
 | 0, _, s, n, hn => bk3 p s n hn
 | d + 1, hd, s, n, hn => bt2 p d (fun ss n hn => aJ8 p d (by omega) (bh2 p d (by omega)) ss n hn) s n hn (by omega)
theorem bo4 (p : j8) (ss : List c8) (n : Int) (hn : n = 5) : j9.ok Tryz.prog (fnC 93 [pA 0, .ref 3, iA n] (pS p ++ [.dat (.stmts ss)]) (bA (ah0 p.vars.length p.arrays.length 5 ss))) :=
 aJ8 p 5 (by omega) (bh2 p 5 (by omega)) ss n hn
def D6 : Nat → List c8 → Nat
 | 0, ss => ss.length
 | d + 1, ss => ss.length + (ss.map fun s => D6 d s.body + D6 d s.els).sum
def szP (d : Nat) (ss : List c8) (k : Nat) : Nat := ss.length + ((ss.take k).map fun s => D6 d s.body + D6 d s.els).sum
theorem bD0 (d : Nat) (ss : List c8) {k : Nat} (h : ss.length ≤ k) : szP d ss k = D6 (d + 1) ss := by unfold szP; rw [cc6 h, D6]
theorem az9 {d : Nat} {ss : List c8} {k : Nat} (h : k < ss.length) : szP d ss (k + 1) = szP d ss k + (D6 d (ss.getD k ca9).body + D6 d (ss.getD k ca9).els) := by
 unfold szP
 rw [D0 ss k h, List.map_append, List.sum_append, o8 h]
 simp; omega
theorem bs2 : ∀ (d : Nat) (ss : List c8), D6 d ss ≤ v7 ss := by
 intro d
 induction d with
 | zero => intro ss; exact an5 ss
 | succ d ih =>
  intro ss
  induction ss with
  | nil => simp [D6]
  | cons s r ihr =>
   have h1 := ih s.body
   have h2 := ih s.els
   have h3 := aJ0 s
   simp only [D6, cd7, List.sum_cons, cb8, v7] at ihr ⊢
   have h4 : v7 s.body + v7 s.els ≤ szS s := by
    rcases s with ⟨_, _, _, _, _, b, e⟩
    simp only [szS, c8.body, c8.els]; omega
   omega
theorem a54 {d : Nat} {ss : List c8} {k : Nat} : szP d ss k ≤ v7 ss := by
 refine cd3 ?_ (bs2 (d + 1) ss)
 unfold szP
 rw [D6]
 have : ∀ (l : List Nat) (k : Nat), (l.take k).sum ≤ l.sum := fun l k => by
  have := List.sum_append (l₁ := l.take k) (l₂ := l.drop k)
  rw [List.take_append_drop] at this; omega
 have h := this (ss.map fun s => D6 d s.body + D6 d s.els) k
 rw [← List.map_take] at h
 omega
theorem bi7 {ss : List c8} {k B : Nat} (h : v7 ss ≤ B) (hk : k < ss.length) : v7 (ss.getD k ca9).body ≤ B ∧ v7 (ss.getD k ca9).els ≤ B := by
 rw [o8 hk]
 have h1 := bC9 (cd1 hk)
 have h2 := aJ0 ss[k]
 omega
theorem bo0 (ss : List c8) (n : Int) (hn : n = 1) (hb : v7 ss ≤ 1048576) : j9.ok Tryz.prog (fnC 94 [.ref 0, iA n] [.dat (.stmts ss)] (iA (D6 0 ss : Nat))) := by
 have h100 : decide (n > 1) = false := by simp; omega
 refine K9 39 Tryz.func94 [dT ss] [(0, .ref 0), (1, iA n)] fun G => ?_; refine wp_seq (m7 G f8 [(4, iA 0)] fun G => b0 (wp_seq (m7 G f8 [(5, iA (ss.length : Int))] fun G => b0 (wp_seq (wp_seq (I8 G f8 [(0, .ref 0), (1, iA n), (4, iA 0), (5, iA (ss.length : Int)), (6, iA 0)] fun G => b0 (wp_block ?_))))))); refine A8 (κ := Nat) (fun k => k = 0) (fun k => 0) (fun k => [dT ss]) (fun k => [(0, .ref 0), (1, iA n), (4, iA 0), (5, iA (ss.length : Nat)), (6, iA k)]) 0 (by kernel_rfl) (v5.at G _ _) ?_; clear G; intro k ρ a w hp G; replace G := v5.at G [dT ss] [(0, .ref 0), (1, iA n), (4, iA 0), (5, iA (ss.length : Int)), (6, iA k)]; refine wp_seq (wp_seq ?_); cases h0 : (decide ((k : Int) < ss.length))
 ·have q0 := dFf h0; refine m7 G (N1 (fc h0 fz) [(5, 0), (6, 0), (1007, 0)]) [(16, bA false)] fun G => b0 (rF G false (by kernel_rfl) (wp_exit (A2 (A2 (A1 (b0 (wp_seq (m7 G f8 [(4, iA (ss.length : Int))] fun G => b0 (wp_ret ?_))))))))); exact L6 G [0]
 ·have q0 := dTt h0; refine m7 G (N1 (fc h0 fz) [(5, 0), (6, 0), (1007, 0)]) [(16, bA (decide (n > 1)))] fun G => b0 (rF G (decide (n > 1)) (by assumption) (wp_exit (A2 (A2 (A1 (b0 (wp_seq (m7 G f8 [(4, iA (ss.length : Int))] fun G => b0 (wp_ret ?_))))))))); exact L6 G [0]
theorem bn8 (d : Nat) (hd : d ≤ 5) (ih : ∀ (ss : List c8) (n : Int), n = (d + 1 : Nat) → v7 ss ≤ 1048576 → j9.ok Tryz.prog (fnC 94 [.ref 0, iA n] [.dat (.stmts ss)] (iA (D6 d ss : Nat))))
  (ss : List c8) (n : Int) (hn : n = (d + 2 : Nat)) (hb : v7 ss ≤ 1048576) : j9.ok Tryz.prog (fnC 94 [.ref 0, iA n] [.dat (.stmts ss)] (iA (D6 (d + 1) ss : Nat))) := by
 have h100 : decide (n > 1) = true := by simp; omega
 refine K9 39 Tryz.func94 [dT ss] [(0, .ref 0), (1, iA n)] fun G => ?_; refine wp_seq (m7 G f8 [(4, iA 0)] fun G => b0 (wp_seq (m7 G f8 [(5, iA (ss.length : Int))] fun G => b0 (wp_seq (wp_seq (I8 G f8 [(0, .ref 0), (1, iA n), (4, iA 0), (5, iA (ss.length : Int)), (6, iA 0)] fun G => b0 (wp_block ?_))))))); refine A8 (κ := Nat) (fun k => k ≤ ss.length) (fun k => ss.length - k) (fun k => [dT ss]) (fun k => [(0, .ref 0), (1, iA n), (4, iA 0), (5, iA (szP d ss k : Nat)), (6, iA k)]) 0 (by omega) (v5.at G _ _) ?_; clear G; intro k ρ a w hp G; replace G := v5.at G [dT ss] [(0, .ref 0), (1, iA n), (4, iA 0), (5, iA (↑(szP d ss k) : Int)), (6, iA k)]; have hlen := an5 ss; refine wp_seq (wp_seq ?_); cases h0 : (decide ((k : Int) < ss.length))
 ·have q0 := dFf h0; refine m7 G (N1 (fc h0 fz) [(5, 0), (6, 0), (1007, 0)]) [(16, bA false)] fun G => b0 (rF G false (by kernel_rfl) (wp_exit (A2 (A2 (A1 (b0 (wp_seq (m7 G f8 [(4, iA (↑(szP d ss k) : Int))] fun G => b0 (wp_ret ?_))))))))); exact rxI ((↑(szP d ss k) : Int)) G [0] (by have h1 := bD0 d ss (k := k) (by omega); omega)
 ·have q0 := dTt h0; refine m7 G (N1 (fc h0 fz) [(5, 0), (6, 0), (1007, 0)]) [(16, bA (decide (n > 1)))] fun G => b0 (rT G (decide (n > 1)) (by assumption) (wp_skip (b0 (wp_seq (wp_block (bk7 G (X7 (H7 8 [41] (ih ((ss.getD k ca9).body) (n - 1) (by omega) ((bi7 hb (by omega)).1)) (H7 17 [113] (ih ((ss.getD k ca9).els) (n - 1) (by omega) ((bi7 hb (by omega)).2)) X6)) fz []) [0, 0, 0, 6, 14, 30, 0, 64, 254, 511, 0, 0, 3072, 7168, 15360, 0, 32768, 130558, 262143, 524287] [(5, iA ((↑(szP d ss k) : Int) + (↑(D6 d (ss.getD k ca9).body) : Int) + (↑(D6 d (ss.getD k ca9).els) : Int)))] (iX k k ss.length ((wO (n - 1)) :: ((wO ((↑(szP d ss k) : Int) + (↑(D6 d (ss.getD k ca9).body) : Int))) :: (iX k k ss.length ((wO (n - 1)) :: ((wO ((↑(szP d ss k) : Int) + (↑(D6 d (ss.getD k ca9).body) : Int) + (↑(D6 d (ss.getD k ca9).els) : Int))) :: [])))))) (iK (by omega) ⟨oW (by omega), ⟨(by have h1 := az9 (d := d) (ss := ss) (k := k) (by omega); have h2 := a54 (d := d) (ss := ss) (k := k + 1); exact w64 (by omega) (by omega)), (iK (by omega) ⟨oW (by omega), ⟨(by have h1 := az9 (d := d) (ss := ss) (k := k) (by omega); have h2 := a54 (d := d) (ss := ss) (k := k + 1); exact w64 (by omega) (by omega)), cc2⟩⟩)⟩⟩) fun G => t5 (b0 (O0 G f8 [(6, iA ((k : Int) + 1))] [wO ((k : Int) + 1)] (o1 (by omega)) fun G => b0 ?_)))))))); exact rxn G (k + 1) (by omega) (by omega) [0] (ht := by have e1 : ((↑(szP d ss (k + 1)) : Int) : Int) = ((↑(szP d ss k) : Int) + (↑(D6 d (ss.getD k ca9).body) : Int) + (↑(D6 d (ss.getD k ca9).els) : Int)) := (by have h1 := az9 (d := d) (ss := ss) (k := k) (by omega); have h2 := a54 (d := d) (ss := ss) (k := k + 1); omega); (first | rw [e1] | simp only [e1]) <;> rfl)
theorem bn9 : ∀ d, d ≤ 5 → ∀ (ss : List c8) (n : Int), n = (d + 1 : Nat) → v7 ss ≤ 1048576 → j9.ok Tryz.prog (fnC 94 [.ref 0, iA n] [.dat (.stmts ss)] (iA (D6 d ss : Nat))) := by
 intro d
 induction d with
 | zero => intro _ ss n hn hb; exact bo0 ss n (by omega) hb
 | succ d ih => intro hd ss n hn hb; exact bn8 d (by omega) (fun ss n hn hb => ih (by omega) ss n hn hb) ss n (by omega) hb
theorem bA8 (ss : List c8) (n : Int) (hn : n = 5) (hb : v7 ss ≤ 1048576) : j9.ok Tryz.prog (fnC 94 [.ref 0, iA n] [.dat (.stmts ss)] (iA (D6 4 ss : Nat))) :=
 bn9 4 (by omega) ss n (by omega) hb
theorem bs3 {nv na : Nat} : ∀ (d : Nat) (ss : List c8), (∀ s ∈ ss, m6 nv na (d + 1) s = true) → D6 d ss = nSs ss := by
 intro d
 induction d with
 | zero => intro ss h; rw [a07 h]; rfl
 | succ d ih =>
  intro ss
  induction ss with
  | nil => intro _; rfl
  | cons s r ihr =>
   intro h
   have h1 := ac7 (h s ce6)
   have h2 := ih s.body fun x hx => cb9.1 h1.1 x hx
   have h3 := ih s.els fun x hx => cb9.1 h1.2 x hx
   have h4 := ihr fun x hx => h x (ce5 _ hx)
   rw [nSs, aO9, ← h2, ← h3, ← h4]
   simp [D6]; omega
theorem aX3 {p : j8} (h : F0 p.vars p.arrays = false) : E2 p = false := by simp [E2, h]
theorem aX4 {p : j8} (h : ah0 p.vars.length p.arrays.length 5 p.body = false) : E2 p = false := by simp [E2, h]
theorem a76 {p : j8} (h1 : F0 p.vars p.arrays = true) (h2 : ah0 p.vars.length p.arrays.length 5 p.body = true) : E2 p = decide ((D6 4 p.body : Int) ≤ 60) := by
 have h3 := bs3 (nv := p.vars.length) (na := p.arrays.length) 4 p.body (fun x hx => cb9.1 h2 x hx)
 rw [E2, h1, h2, h3]
 simp
 exact ⟨fun h => by omega, fun h => by omega⟩
theorem a32 (p : j8) (n : Int) (hn : n = 5) : j9.ok Tryz.prog (fnC 93 [pA 0, .ref 2, iA n] (pS p) (bA (ah0 p.vars.length p.arrays.length 5 p.body))) :=
 j9.dup (S := pS p) (S' := pS p) (d := .stmts p.body) (i := 2) (bo4 p p.body n hn) rfl rfl rfl (fun ρ h => by simp only [AV.vals, AV.val]; rw [show ρ 3 = ρ 2 from h]) rfl
theorem ag9 (p : j8) (hb : v7 p.body ≤ 1048576) : j9.ok Tryz.prog (fnC 77 [pA 0] (pS p) (bA (E2 p))) := by
  refine K9 17 Tryz.func77 [dI p.vars, dI p.arrays, dT p.body] [(0, pA 0)] fun G => ?_; refine wp_seq (l0 G f8 (rg 4) [dI p.vars, dI p.arrays, dT p.body, .box (pL 0)] [(1, .ptr 3 0), (2, bA false)] fun G => b0 (wp_seq ?_)); cases h0 : (F0 p.vars p.arrays)
  · refine l0 G (X7 (H7 1 [0, 1, 2] (at1 p) X6) (fc h0 (fc (b := false) rfl fz)) (us [(3, 6, 0), (1007, 1007, 0), (9, 12, 1), (1013, 1013, 1)])) [0, 1, 2] [dI p.vars, dI p.arrays, dT p.body] [(2, bA false)] fun G => b0 (wp_ret ?_); exact N4 false G [0, 1, 2] (aX3 (by assumption))
  ·
   cases h1 : (ah0 p.vars.length p.arrays.length (5 : Nat) p.body)
   · refine l0 G (X7 (H7 1 [0, 1, 2] (at1 p) (H7 6 [0, 1, 2] (a32 p 5 (by kernel_rfl)) X6)) (fc h0 (fc h1 fz)) (us [(3, 6, 0), (1007, 1007, 0), (9, 12, 1), (1013, 1013, 1)])) [0, 1, 2] [dI p.vars, dI p.arrays, dT p.body] [(2, bA false)] fun G => b0 (wp_ret ?_); exact N4 false G [0, 1, 2] (aX4 (by assumption))
   · refine l0 G (X7 (H7 1 [0, 1, 2] (at1 p) (H7 6 [0, 1, 2] (a32 p 5 (by kernel_rfl)) (H7 11 [2] (bA8 p.body 5 (by kernel_rfl) (by assumption)) X6))) (fc h0 (fc h1 fz)) (us [(3, 6, 0), (1007, 1007, 0), (9, 12, 1), (1013, 1013, 1)])) [0, 1, 2] [dI p.vars, dI p.arrays, dT p.body] [(2, bA (decide ((↑(D6 4 p.body) : Int) ≤ 60)))] fun G => b0 (wp_ret ?_); exact N4 (decide ((↑(D6 4 p.body) : Int) ≤ 60)) G [0, 1, 2] (a76 (by assumption) (by assumption))
def X8 (nv na : Nat) (s : c8) : Bool := n9 s &&
    (if s.kind = 1 ∨ s.kind = 5 then decide (0 ≤ s.target) && decide (s.target < nv) && r7 nv na s.value
     else if s.kind = 2 then decide (0 ≤ s.target) && decide (s.target < na) && r7 nv na s.index && U4 s.index && r7 nv na s.value
     else if s.kind = 3 then r7 nv na s.value
     else decide (s.kind = 4))
theorem ak6 {nv na d : Nat} {s : c8} : m6 nv na (d + 1) s = (X8 nv na s && (s.body.all (m6 nv na d) && s.els.all (m6 nv na d))) := by
 rw [ce0]
 constructor
 ·intro h
  have h1 := ac7 h
  rw [h1.1, h1.2, Bool.and_true, Bool.and_true]
  rw [m6, cb0] at h
  rw [X8, h.1, Bool.true_and]
  obtain ⟨-, h⟩ := h
  split at h
  ·rw [if_pos (by assumption)]; exact h
  split at h
  ·rw [if_neg (by assumption), if_pos (by assumption)]; exact h
  split at h
  ·rw [if_neg (by assumption), if_neg (by assumption), if_pos (by assumption)]
   simp only [cb0] at h; exact h.1.1
  split at h
  ·rw [if_neg (by assumption), if_neg (by assumption), if_neg (by assumption)]; simp [*]
  ·simp at h
 ·intro h
  simp only [cb0] at h
  obtain ⟨h, hb, he⟩ := h
  rw [X8, cb0] at h
  obtain ⟨h0, h⟩ := h
  rw [m6, h0, Bool.true_and]
  split at h
  ·rw [if_pos (by assumption)]; exact h
  split at h
  ·rw [if_neg (by assumption), if_pos (by assumption)]; exact h
  split at h
  ·rw [if_neg (by assumption), if_neg (by assumption), if_pos (by assumption), h, hb, he]; rfl
  ·rw [if_neg (by assumption), if_neg (by assumption), if_neg (by assumption), if_pos (by simpa using h), hb]
section
variable {nv na d c : Nat} {s : c8}
end
section
variable {nv na : Nat} {s : c8}
theorem bZ3 (k : s.kind = 1 ∨ s.kind = 5) : X8 nv na s = (decide (0 ≤ s.target ∧ s.target < nv ∧ s.body.length = 0 ∧ s.els.length = 0 ∧ s.count = 0) && (noneB s.index && r7 nv na s.value)) := by
 rw [X8, n9, if_pos k, if_neg (by omega), show decide (s.kind = 2) = false from decide_eq_false (by omega), ce0]
 simp only [cb0, decide_eq_true_eq, Bool.false_or]
 constructor
 ·rintro ⟨⟨⟨⟨a, b⟩, c⟩, d⟩, ⟨e, f⟩, g⟩; exact ⟨⟨e, f, a, b, c⟩, d, g⟩
 ·rintro ⟨⟨e, f, a, b, c⟩, d, g⟩; exact ⟨⟨⟨⟨a, b⟩, c⟩, d⟩, ⟨e, f⟩, g⟩
theorem bZ2 (k : s.kind = 2) : X8 nv na s = (decide (0 ≤ s.target ∧ s.target < na ∧ s.body.length = 0 ∧ s.els.length = 0 ∧ s.count = 0) && (r7 nv na s.index && (U4 s.index && r7 nv na s.value))) := by
 rw [X8, n9, if_neg (by omega), if_pos k, if_neg (by omega), show decide (s.kind = 2) = true from decide_eq_true k, ce0]
 simp only [cb0, decide_eq_true_eq, Bool.true_or]
 constructor
 ·rintro ⟨⟨⟨⟨a, b⟩, c⟩, -⟩, ⟨⟨⟨e, f⟩, i⟩, j⟩, g⟩; exact ⟨⟨e, f, a, b, c⟩, i, j, g⟩
 ·rintro ⟨⟨e, f, a, b, c⟩, i, j, g⟩; exact ⟨⟨⟨⟨a, b⟩, c⟩, cc2⟩, ⟨⟨⟨e, f⟩, i⟩, j⟩, g⟩
theorem bZ1 (k : s.kind = 3) : X8 nv na s = (decide (s.target = 0 ∧ s.count = 0) && (noneB s.index && r7 nv na s.value)) := by
 rw [X8, n9, if_pos (show s.kind = 3 ∨ s.kind = 4 from .inl k), if_neg (show ¬ s.kind = 4 by omega), if_neg (by omega), if_neg (by omega), if_pos k, ce0]
 simp only [cb0, decide_eq_true_eq]
 constructor
 ·rintro ⟨⟨a, b, c⟩, d⟩; exact ⟨⟨a, b⟩, c, d⟩
 ·rintro ⟨⟨a, b⟩, c, d⟩; exact ⟨⟨a, b, c⟩, d⟩
theorem bZ0 (k : s.kind = 4) : X8 nv na s = (decide (s.target = 0 ∧ s.els.length = 0 ∧ 1 ≤ s.count ∧ s.count ≤ 3) && (noneB s.index && noneB s.value)) := by
 rw [X8, n9, if_pos (show s.kind = 3 ∨ s.kind = 4 from .inr k), if_pos k, if_neg (by omega), if_neg (by omega), if_neg (by omega), show decide (s.kind = 4) = true from decide_eq_true k, ce0]
 simp only [cb0, decide_eq_true_eq]
 constructor
 ·rintro ⟨⟨a, ⟨⟨⟨b, c⟩, d⟩, e⟩, f⟩, -⟩; exact ⟨⟨a, b, c, d⟩, e, f⟩
 ·rintro ⟨⟨a, b, c, d⟩, e, f⟩; exact ⟨⟨a, ⟨⟨⟨b, c⟩, d⟩, e⟩, f⟩, cc2⟩
theorem aD3 (k : ¬ s.kind = 1 ∧ ¬ s.kind = 2 ∧ ¬ s.kind = 3 ∧ ¬ s.kind = 4 ∧ ¬ s.kind = 5) : X8 nv na s = false := by
 rw [X8, if_neg (by omega), if_neg (by omega), if_neg (by omega), show decide (s.kind = 4) = false from decide_eq_false (by omega), Bool.and_false]
end
theorem by0 {l : List d9} {k : Nat} (h : (k : Int) < l.length) : l.getD k ca9 ∈ l := by rw [o8 (by omega)]; exact cd1 (by omega)
theorem a05 {l : List c8} {k : Nat} (h : (k : Int) < l.length) : l.getD k ca9 ∈ l := by rw [o8 (by omega)]; exact cd1 (by omega)
section
variable {nv na d : Nat} {e : d9}
end
section
variable {vs ars : List Int} {d : Nat} {e : d9}
end
theorem a40 {α : Type} {l : List α} {k : Nat} {p : α → Bool} {z : α} (h : (l.take k).any p = false) (hk : k < l.length) (hp : p (l.getD k z) = false) : (l.take (k + 1)).any p = false := by
 rw [D0 l k hk, List.any_append, h, ← o8 (d := z) hk, List.any_cons, hp]; rfl
theorem a41 {α : Type} {l : List α} {k : Nat} {p : α → Bool} (h : (l.take k).any p = false) (hk : l.length ≤ k) : l.any p = false := by
 rw [cc6 hk] at h; exact h
section
variable {nv na : Nat} {s : c8}
variable (h : X8 nv na s = true)
include h
end
section
variable {p : j8} {s : c8} {pc : Int} {strict : Bool} {x : Int}
end
section
variable {p : j8} {strict : Bool} {d c : Nat} {pc : Int} {s : c8}
end
section
variable {p : j8} {strict : Bool}
end
section
variable {p : j8} {s : c8} {cx : Int}
end
def ae5 {α : Type} (f : α → Bool) (l : List α) : Int := match l.findIdx? f with
 | some i => i
 | none => -1
theorem aL0 {α : Type} {f : α → Bool} {l : List α} {k : Nat} {z : α} (hk : k < l.length) (h : (l.take k).any f = false) (hf : f (l.getD k z) = true) : ae5 f l = k := by
 have : l.findIdx? f = some k := by
  rw [List.findIdx?_eq_some_iff_getElem]
  rw [o8 hk] at hf
  refine ⟨hk, hf, fun j hj => ?_⟩
  rw [List.any_eq_false] at h
  have hm : l[j] ∈ l.take k := List.mem_take_iff_getElem.2 ⟨j, by omega, rfl⟩
  exact h _ hm
 unfold ae5; rw [this]
theorem aD8 {α : Type} {f : α → Bool} {l : List α} (h : l.any f = false) : ae5 f l = -1 := by
 have : l.findIdx? f = none := by
  rw [List.findIdx?_eq_none_iff]
  intro x hx
  rw [List.any_eq_false] at h
  simpa using h x hx
 unfold ae5; rw [this]
theorem aL1 {α : Type} (f : α → Bool) (l : List α) : decide (ae5 f l ≥ 0) = l.any f := by
 cases h : l.any f
 ·rw [aD8 h]; rfl
 ·unfold ae5
  cases h2 : l.findIdx? f with
  | none =>
   rw [List.findIdx?_eq_none_iff] at h2
   obtain ⟨x, hx, hf⟩ := List.any_eq_true.1 h
   rw [h2 x hx] at hf; cases hf
  | some i => simp
section
variable {p : j8} {s : c8}
end
section
variable {R : c8 × Int → Int} {c a : Int} {n : Nat} {x : c8 × Int}
end
section
variable {R : c8 × Int → Int} {p : j8} {d : Nat} {cx : Int} {ss : List c8} {c b : Int} {n k : Nat}
end
abbrev Lab : Type := List Int × List Int
def bv (x : Int) : BitVec 64 := BitVec.ofInt 64 x
def leI (x y : Int) : Prop := bv x ||| bv y = bv y
theorem leI.refl (x : Int) : leI x x := BitVec.or_self
theorem leI.trans {x y z : Int} (h : leI x y) (k : leI y z) : leI x z := by
 unfold leI at *
 rw [← k, ← BitVec.or_assoc, h]
def leP (q r : Lab) : Prop := (∀ i, leI (q.1.getD i 0) (r.1.getD i 0)) ∧ ∀ i, leI (q.2.getD i 0) (r.2.getD i 0)
def shP (q r : Lab) : Prop := r.1.length = q.1.length ∧ r.2.length = q.2.length
theorem leP.refl (q : Lab) : leP q q := ⟨fun _ => leI.refl _, fun _ => leI.refl _⟩
theorem leP.trans {q r s : Lab} (h : leP q r) (k : leP r s) : leP q s := ⟨fun i => (h.1 i).trans (k.1 i), fun i => (h.2 i).trans (k.2 i)⟩
theorem shP.refl (q : Lab) : shP q q := ⟨rfl, rfl⟩
theorem shP.trans {q r s : Lab} (h : shP q r) (k : shP r s) : shP q s := ⟨k.1.trans h.1, k.2.trans h.2⟩
theorem shP.symm {q r : Lab} (h : shP q r) : shP r q := ⟨h.1.symm, h.2.symm⟩
section
variable {b : Bool} {d : Nat} {cx : Int} {q r : Lab} {ss : List c8}
end
section
variable {a b : d9} {k : Nat}
theorem aI9 {α : Type} {l m : List α} {k : Nat} {z : α} (h : l.take k = m.take k) (h1 : k < l.length) (h2 : k < m.length) (e : l.getD k z = m.getD k z) : l.take (k + 1) = m.take (k + 1) := by
 rw [s4 _ _ h1, s4 _ _ h2, h, ← o8 (d := z) h1, ← o8 (d := z) h2, e]
theorem aV0 {α : Type} {l m : List α} {k : Nat} (h : l.take k = m.take k) (h1 : l.length ≤ k) (h2 : (l.length : Int) = m.length) : l = m := by
 rw [cc6 h1, cc6 (by omega)] at h
 exact h
end
section
variable {s t : c8} {l m : List c8} {k : Nat}
end
section
variable {vs ars : List Int} {cx : Int} {s : c8} {d : Nat} {b : Bool}
section
variable {nv na d k : Nat} {ss : List c8} {q : Lab} {cx : Int}
end
end
section
variable {p : j8} {q : Lab} {b : List c8} {X : Lab}
end
abbrev nvL : List Int := [3] ++ ([4] ++ ([2] ++ ([5] ++ [])))
abbrev viL : List Int := [0] ++ ([1] ++ ([0] ++ ([1] ++ ([2] ++ ([3] ++ [])))))
abbrev naL : List Int := [1] ++ ([2] ++ ([0] ++ ([1] ++ [])))
abbrev aiL : List Int := [0] ++ ([1] ++ ([0] ++ ([1] ++ ([3] ++ []))))
abbrev nbL : List Int := [2] ++ ([3] ++ ([1] ++ ([4] ++ [])))
def nsD (b : List UInt8) (l : List Int) (n : Nat) (k : Int) : List Int := (cc5 n).map fun (i : Nat) => nm b (k + (i : Int)) l
theorem ah7 (b : List UInt8) (l : List Int) (n : Nat) (k : Int) : (nsD b l n k).length = n := by simp [nsD]
theorem bw0 (b : List UInt8) (l : List Int) (n : Nat) (k : Int) : nsD b l (n + 1) k = nsD b l n k ++ [nm b (k + (n : Int)) l] := by
 unfold nsD; rw [List.range_succ, List.map_append]; rfl
def I5 (b : List UInt8) (k : Int) : Int := k + 1 + nm b k nvL
def kp2 (b : List UInt8) (k : Int) : Int := I5 b k + 1 + nm b (I5 b k) naL
def vsD (b : List UInt8) (k : Int) : List Int := nsD b viL (nm b k nvL).toNat (k + 1)
def asD (b : List UInt8) (k : Int) : List Int := nsD b aiL (nm b (I5 b k) naL).toNat (I5 b k + 1)
def Y2 (b : List UInt8) (k : Int) : List c8 × Int := G7 (C4 b (vsD b k).length (asD b k).length 3) (nm b (kp2 b k) nbL).toNat (kp2 b k + 1)
def rwD (b : List UInt8) (k : Int) : j8 := ⟨vsD b k, asD b k, (Y2 b k).1⟩
def fbP : j8 := ⟨[0, 1], [], [⟨1, 1, noE, ⟨2, 0, []⟩, 0, [], []⟩]⟩
def L0 (b : List UInt8) (k : Int) : j8 := if E2 (rwD b k) = true then rwD b k else fbP
section
variable (b : List UInt8) {k : Int}
theorem bQ3 (hk : 0 ≤ k) (hk2 : k ≤ 1000000000) : 0 ≤ nm b k nvL ∧ nm b k nvL ≤ 5 := aK1 b (by simp) (by simp) hk hk2
theorem bX1 (hk : 0 ≤ k) (hk2 : k ≤ 1000000000) : 0 ≤ nm b k nbL ∧ nm b k nbL ≤ 4 := aK1 b (by simp) (by simp) hk hk2
theorem bQ7 (hk : 0 ≤ k) (hk2 : k ≤ 1000000000) : 0 ≤ nm b k naL ∧ nm b k naL ≤ 2 := aK1 b (by simp) (by simp) hk hk2
theorem bx2 (hk : 0 ≤ k) (hk2 : k ≤ 10000000) : k + 1 ≤ I5 b k ∧ I5 b k ≤ k + 6 := by
 have := bQ3 b hk (by omega); unfold I5; omega
theorem bx1 (hk : 0 ≤ k) (hk2 : k ≤ 10000000) : k + 2 ≤ kp2 b k ∧ kp2 b k ≤ k + 9 := by
 have h1 := bx2 b hk hk2
 have := bQ7 b (k := I5 b k) (by omega) (by omega); unfold kp2; omega
theorem cS3 : cS 3 = 34170 ∧ cS 2 = 8442 := by decide
theorem b99 (nv na : Nat) : Drw (C4 b nv na 3) 34170 := fun j h1 h2 => by
 have e := cS3.1
 have h3 := aV3 b nv na 3 j h1 (by omega)
 have h4 := a58 b nv na 3 j h1 (by omega)
 omega
theorem bB3 (hk : 0 ≤ k) (hk2 : k ≤ 10000000) : kp2 b k ≤ (Y2 b k).2 ∧ (Y2 b k).2 ≤ k + 150000 ∧ v7 (Y2 b k).1 ≤ 150000 := by
 have h1 := bx1 b hk hk2
 have h2 := bX1 b (k := kp2 b k) (by omega) (by omega)
 have h3 := aR2 (f := C4 b (vsD b k).length (asD b k).length 3) (by omega) (b99 b _ _) (nm b (kp2 b k) nbL).toNat (kp2 b k + 1) (by omega) (by omega)
 unfold Y2
 omega
theorem bq6 (hk : 0 ≤ k) (hk2 : k ≤ 10000000) : (vsD b k).length ≤ 5 := by
 have := bQ3 b hk (by omega); unfold vsD; rw [ah7]; omega
theorem bB5 (hk : 0 ≤ k) (hk2 : k ≤ 10000000) : (asD b k).length ≤ 2 := by
 have h1 := bx2 b hk hk2
 have := bQ7 b (k := I5 b k) (by omega) (by omega); unfold asD; rw [ah7]; omega
theorem bR4 : E2 fbP = true := by decide +kernel
theorem bv2 (k : Int) : E2 (L0 b k) = true := by
 unfold L0; split
 ·assumption
 ·exact bR4
theorem bP5 (hk : 0 ≤ k) (hk2 : k ≤ 10000000) : (L0 b k).size ≤ 160000 := by
 have h1 := bB3 b hk hk2
 have h2 := bq6 b hk hk2
 have h3 := bB5 b hk hk2
 unfold L0; split
 ·show (vsD b k).length + (asD b k).length + v7 (Y2 b k).1 ≤ 160000
  omega
 ·decide
end
def bsD (c : List UInt8) : List UInt8 := c.take 2000
abbrev opL : List Int := [1] ++ ([2] ++ ([3] ++ ([6] ++ ([2] ++ ([7] ++ ([9] ++ ([4] ++ ([5] ++ ([11] ++ ([8] ++ ([12] ++ [])))))))))))
abbrev vaL : List Int := [0] ++ ([1] ++ ([2] ++ ([3] ++ ([255] ++ ([128] ++ ([7] ++ ([4] ++ ([100] ++ []))))))))
abbrev lnL : List Int := [6] ++ ([8] ++ ([4] ++ ([10] ++ ([1] ++ ([12] ++ [])))))
def opD (b : List UInt8) (j : Int) (na : Nat) : Int := if na = 0 ∧ (nm b j opL = 4 ∨ nm b j opL = 5) then 2 else nm b j opL
def ptD (b : List UInt8) (j : Int) (nv na : Nat) (at0 n : Int) (kd : UInt8) : Int :=
 if kd = 114 then pk b j 3 else if kd = 99 then nm b j vaL else if kd = 118 then pk b j nv else if kd = 97 then pk b j na else if kd = 111 then 4 + pk b j 7 else at0 + 1 + pk b j (n - at0 - 1)
def psD (b : List UInt8) (j : Int) (nv na : Nat) (at0 n : Int) (ks : List UInt8) (k : Nat) : List Int := (cc5 4).map fun i => if i < k then ptD b (j + i) nv na at0 n (ks.getD i 0) else 0
theorem bg1 (b : List UInt8) (j : Int) (nv na : Nat) (at0 n : Int) (ks : List UInt8) (k : Nat) : (psD b j nv na at0 n ks k).length = 4 := by simp [psD]
theorem bu7 (b : List UInt8) (j : Int) (nv na : Nat) (at0 n : Int) (ks : List UInt8) {k : Nat} (hk : k < 4) : psD b j nv na at0 n ks (k + 1) = (psD b j nv na at0 n ks k).set k (ptD b (j + k) nv na at0 n (ks.getD k 0)) := by
 apply List.ext_getElem (by simp [bg1])
 intro i h1 h2
 rw [List.getElem_set]
 simp only [psD, List.getElem_map, List.getElem_range]
 by_cases e : k = i
 ·subst e; simp
 ·rw [if_neg e]
  have : (i < k + 1) ↔ (i < k) := by omega
  simp only [this]
def rnD (b : List UInt8) (j : Int) (nv na : Nat) (at0 n : Int) : d8 × Int :=
 (⟨opD b j na, (psD b (j + 1) nv na at0 n (l6 (opD b j na)) (l6 (opD b j na)).length).getD 0 0, (psD b (j + 1) nv na at0 n (l6 (opD b j na)) (l6 (opD b j na)).length).getD 1 0,
  (psD b (j + 1) nv na at0 n (l6 (opD b j na)) (l6 (opD b j na)).length).getD 2 0, (psD b (j + 1) nv na at0 n (l6 (opD b j na)) (l6 (opD b j na)).length).getD 3 0⟩, j + 1 + (l6 (opD b j na)).length)
theorem b56 (b : List UInt8) (j : Int) (nv na : Nat) (at0 n : Int) : j + 1 ≤ (rnD b j nv na at0 n).2 ∧ (rnD b j nv na at0 n).2 ≤ j + 5 := by
 have := al6 (opD b j na)
 unfold rnD
 simp only
 omega
def rsD (b : List UInt8) (j : Int) (nv na : Nat) (n : Int) : Nat → List d8 × Int
 | 0 => ([], j)
 | k + 1 => ((rsD b j nv na n k).1 ++ [(rnD b (rsD b j nv na n k).2 nv na k n).1], (rnD b (rsD b j nv na n k).2 nv na k n).2)
theorem bO7 (b : List UInt8) (j : Int) (nv na : Nat) (n : Int) : ∀ k : Nat, (rsD b j nv na n k).1.length = k ∧ j ≤ (rsD b j nv na n k).2 ∧ (rsD b j nv na n k).2 ≤ j + 5 * k
 | 0 => by simp [rsD]
 | k + 1 => by
  obtain ⟨h1, h2, h3⟩ := bO7 b j nv na n k
  have h4 := b56 b (rsD b j nv na n k).2 nv na k n
  have e2 : (rsD b j nv na n (k + 1)).2 = (rnD b (rsD b j nv na n k).2 nv na k n).2 := rfl
  have e1 : (rsD b j nv na n (k + 1)).1.length = k + 1 := by
   show ((rsD b j nv na n k).1 ++ [(rnD b (rsD b j nv na n k).2 nv na k n).1]).length = k + 1
   rw [cb2, h1]; rfl
  rw [e1, e2]
  generalize (rnD b (rsD b j nv na n k).2 nv na k n).2 = x at h4 ⊢
  generalize (rsD b j nv na n k).2 = y at *
  refine ⟨rfl, ?_, ?_⟩ <;> omega
def clD (b : List UInt8) (j : Int) (nv na : Nat) : List d8 × Int :=
 (fun (n : Int) =>
  (fun (r : List d8 × Int) =>
   if n > 3 then
    (if pk b r.2 4 = 0 then (((r.1 ++ [(⟨13, 0, 0, 0, 0⟩ : d8)]).set 0 ⟨1, 5, 1 + pk b (r.2 + 1) 3, 0, 0⟩).set (n - 2).toNat ⟨10, 5, 1, 0, 0⟩, r.2 + 2) else (r.1 ++ [⟨13, 0, 0, 0, 0⟩], r.2 + 1))
   else (r.1 ++ [⟨13, 0, 0, 0, 0⟩], r.2)) (rsD b (j + 1) nv na n (n - 1).toNat)) (nm b j lnL)
theorem bQ8 (b : List UInt8) {j : Int} (hj : 0 ≤ j) (hj2 : j ≤ 1000000000) : 1 ≤ nm b j lnL ∧ nm b j lnL ≤ 12 := by
 have h := al3 b hj hj2 (l := lnL) (List.cons_ne_nil _ _)
 generalize nm b j lnL = x at h ⊢
 simp only [lnL, List.cons_append, cf8, ce7, List.not_mem_nil, or_false] at h
 omega
theorem ca1 (b : List UInt8) {j : Int} (nv na : Nat) (hj : 0 ≤ j) (hj2 : j ≤ 1000000000) : (clD b j nv na).1.length = (nm b j lnL).toNat ∧ j + 1 ≤ (clD b j nv na).2 ∧ (clD b j nv na).2 ≤ j + 70 := by
 have hn := bQ8 b hj hj2
 obtain ⟨h1, h2, h3⟩ := bO7 b (j + 1) nv na (nm b j lnL) (nm b j lnL - 1).toNat
 unfold clD
 simp only
 split
 ·split
  ·simp only [cd2, cb2, cb8, cc1, h1]; omega
  ·simp only [cb2, cb8, cc1, h1]; omega
 ·simp only [cb2, cb8, cc1, h1]; omega
structure t9 where
 vals : List Int
 arrs : List (List Int)
def F9 (l : List Int) : Bool := l.all fun n => decide (0 ≤ n) && decide (n ≤ 255)
def S9 (a : List Int) : Bool := decide (a.length = 4) && F9 a
def G4 (nv na : Nat) (m : t9) : Bool := decide (m.vals.length = nv) && (decide (m.arrs.length = na) && (F9 m.vals && m.arrs.all S9))
def vlD (b : List UInt8) (j : Int) (n : Nat) : List Int := (cc5 n).map fun i : Nat => nm b (j + i) vaL
theorem ak4 (b : List UInt8) (j : Int) (n : Nat) : (vlD b j n).length = n := by simp [vlD]
theorem b46 (b : List UInt8) (j : Int) : vlD b j 0 = [] := rfl
theorem aM8 (b : List UInt8) (j : Int) (k : Nat) : vlD b j (k + 1) = vlD b j k ++ [nm b (j + k) vaL] := by
 unfold vlD; rw [List.range_succ, List.map_append]; rfl
def arD (b : List UInt8) (j : Int) (n : Nat) : List (List Int) := (cc5 n).map fun i : Nat => vlD b (j + 4 * i) 4
theorem bB8 (b : List UInt8) (j : Int) (n : Nat) : (arD b j n).length = n := by simp [arD]
theorem bJ7 (b : List UInt8) (j : Int) (k : Nat) : arD b j (k + 1) = arD b j k ++ [vlD b (j + 4 * k) 4] := by
 unfold arD; rw [List.range_succ, List.map_append]; rfl
theorem b35 (b : List UInt8) (j : Int) (n : Nat) : ∀ a ∈ arD b j n, a.length = 4 := by
 intro a ha
 obtain ⟨i, _, rfl⟩ := List.mem_map.1 ha
 exact ak4 _ _ _
def mmD (b : List UInt8) (j : Int) (nv na : Nat) : t9 := ⟨vlD b j nv, arD b (j + nv) na⟩
section
variable {nv na : Nat} {m : t9}
theorem b01 (h : ¬ (m.vals.length : Int) = nv) : G4 nv na m = false := by unfold G4; rw [decide_eq_false (p := m.vals.length = nv) (by omega)]; rfl
theorem b00 (h : ¬ (m.arrs.length : Int) = na) : G4 nv na m = false := by unfold G4; rw [decide_eq_false (p := m.arrs.length = na) (by omega)]; simp
theorem bZ9 (h : F9 m.vals = false) : G4 nv na m = false := by unfold G4; rw [h]; simp
theorem bZ8 (h1 : (m.vals.length : Int) = nv) (h2 : (m.arrs.length : Int) = na) (h3 : F9 m.vals = true) : G4 nv na m = m.arrs.all S9 := by
 unfold G4
 rw [decide_eq_true (p := m.vals.length = nv) (by omega), decide_eq_true (p := m.arrs.length = na) (by omega), h3]; rfl
theorem aD6 (h : G4 nv na m = true) : m.vals.length = nv ∧ m.arrs.length = na ∧ F9 m.vals = true ∧ m.arrs.all S9 = true := by
 unfold G4 at h
 simpa [cb0] using h
end
def jmS (b : List UInt8) (n : Int) (i : Nat) (x : List d8 × Int) : List d8 × Int :=
 if (x.1.getD i ca9).op ≠ 10 ∧ (x.1.getD i ca9).op ≠ 1 then
  (if pk b x.2 4 = 0 then (x.1.set i ⟨8, i + 1 + pk b (x.2 + 1) (n - i - 1), 0, 0, 0⟩, x.2 + 2) else (x.1, x.2 + 1))
 else x
def J5 (b : List UInt8) (n : Int) (x : List d8 × Int) : Nat → List d8 × Int
 | 0 => x
 | k + 1 => jmS b n k (J5 b n x k)
theorem bY8 (b : List UInt8) (n : Int) (i : Nat) (x : List d8 × Int) : (jmS b n i x).1.length = x.1.length ∧ x.2 ≤ (jmS b n i x).2 ∧ (jmS b n i x).2 ≤ x.2 + 2 := by
 unfold jmS
 split
 ·split
  ·exact ⟨cd2, by show x.2 ≤ x.2 + 2; omega, by show x.2 + 2 ≤ x.2 + 2; omega⟩
  ·exact ⟨rfl, by show x.2 ≤ x.2 + 1; omega, by show x.2 + 1 ≤ x.2 + 2; omega⟩
 ·exact ⟨rfl, Int.le_refl _, by omega⟩
theorem bR1 (b : List UInt8) (n : Int) (x : List d8 × Int) : ∀ k : Nat, (J5 b n x k).1.length = x.1.length ∧ x.2 ≤ (J5 b n x k).2 ∧ (J5 b n x k).2 ≤ x.2 + 2 * k
 | 0 => ⟨rfl, Int.le_refl _, by simp [J5]⟩
 | k + 1 => by
  obtain ⟨h1, h2, h3⟩ := bR1 b n x k
  obtain ⟨g1, g2, g3⟩ := bY8 b n k (J5 b n x k)
  rw [J5]
  refine ⟨g1.trans h1, by omega, by omega⟩
abbrev bX6 : List Int := [0] ++ ([14] ++ ([1] ++ ([12] ++ [])))
abbrev bX5 : List Int := [-1] ++ ([14] ++ ([0] ++ ([400] ++ [])))
abbrev bX4 : List Int := [1] ++ ([-1] ++ [])
def bO9 (l : List d8) (i : Nat) (n : Int) : List d8 := l.set i ⟨n, (l.getD i ca9).a, (l.getD i ca9).b, (l.getD i ca9).c, (l.getD i ca9).d⟩
def bu6 (l : List d8) (i : Nat) (n : Int) : List d8 := l.set i ⟨(l.getD i ca9).op, n, (l.getD i ca9).b, (l.getD i ca9).c, (l.getD i ca9).d⟩
def bP0 (l : List d8) (i : Nat) (n : Int) : List d8 := l.set i ⟨(l.getD i ca9).op, (l.getD i ca9).a, (l.getD i ca9).b, (l.getD i ca9).c, n⟩
def muD (b : List UInt8) (j : Int) (c : b6) : b6 × Int :=
 if c.list.length = 0 then (c, j)
 else if pk b j 60 = 0 then (⟨c.vars, c.arrays, bO9 c.list 0 (nm b (j + 1) bX6)⟩, j + 2)
 else if pk b j 60 = 1 then (⟨c.vars, c.arrays, bu6 c.list (pk b (j + 1) c.list.length).toNat (nm b (j + 2) bX5)⟩, j + 3)
 else if pk b j 60 = 2 then (⟨c.vars, c.arrays, c.list.set (c.list.length - 1) ⟨12, 0, 0, 0, 0⟩⟩, j + 1)
 else if pk b j 60 = 3 then (⟨c.vars, c.arrays, c.list.set (c.list.length - 1) ⟨8, 0, 0, 0, 0⟩⟩, j + 1)
 else if pk b j 60 = 4 then (⟨c.vars, c.arrays, bP0 c.list (pk b (j + 1) c.list.length).toNat (nm b (j + 2) bX4)⟩, j + 3)
 else if pk b j 60 = 5 then (⟨[], c.arrays, c.list⟩, j + 1)
 else (c, j + 1)
theorem b88 (b : List UInt8) (j : Int) (c : b6) : (muD b j c).1.list.length = c.list.length ∧ (muD b j c).1.vars.length ≤ c.vars.length ∧ (muD b j c).1.arrays.length = c.arrays.length ∧ j ≤ (muD b j c).2 ∧ (muD b j c).2 ≤ j + 3 := by
 have key : ∀ (x : b6) (q : Int), x.list.length = c.list.length → x.vars.length ≤ c.vars.length → x.arrays.length = c.arrays.length → j ≤ q → q ≤ j + 3 → ((x, q).1.list.length = c.list.length ∧ (x, q).1.vars.length ≤ c.vars.length ∧ (x, q).1.arrays.length = c.arrays.length ∧ j ≤ (x, q).2 ∧ (x, q).2 ≤ j + 3) := fun x q h1 h2 h3 h4 h5 => ⟨h1, h2, h3, h4, h5⟩
 unfold muD
 repeat' split
 all_goals (refine key _ _ ?_ ?_ ?_ (by omega) (by omega) <;> simp [bO9, bu6, bP0])
theorem bW3 {b : List UInt8} {j n : Int} (h : n < 1) : pk b j n = 0 := by unfold pk; rw [if_pos (.inl h)]
theorem b75 {b : List UInt8} {j n : Int} (h : (b.length : Int) = 0) : pk b j n = 0 := by unfold pk; rw [if_pos (.inr (by omega))]
theorem b74 {b : List UInt8} {j n : Int} (h : ¬ n < 1) (h1 : ¬ (b.length : Int) = 0) (h2 : j + 1 - 1 < b.length) : pk b j n = ((b.getD (j + 1 - 1).toNat 0).toNat : Int).tmod n := by
 unfold pk; rw [if_neg (by omega), if_pos (by omega), Int.add_sub_cancel]
theorem b73 {b : List UInt8} {j n : Int} (h : ¬ n < 1) (h1 : ¬ (b.length : Int) = 0) (h2 : ¬ j + 1 - 1 < b.length) : pk b j n = (a47 (pkX b (j + 1 - 1)) ((pkX b (j + 1 - 1)).tdiv 64)).tmod n := by
 unfold pk; rw [if_neg (by omega), if_neg (by omega), Int.add_sub_cancel]
theorem bl8 {x : Int} {n : Nat} (hx : 0 ≤ x) (hn : ¬ (n : Int) = 0) : 0 ≤ x.tmod n ∧ x.tmod n < n ∧ (x.tmod n).toNat < n := by
 have := a53 (x := x) (n := n) hx (by omega); omega
theorem C7 (b : List UInt8) (j n : Int) (r0 : 0 ≤ j) (r1 : j ≤ 1000000000) : j9.ok Tryz.prog ⟨45, [.ptr 0 0, iA n], [.box [.ref 1, iA j], dY b], [.box [.ref 1, iA (j + 1)], dY b], iA (pk b j n)⟩ := by
  refine K9 99 Tryz.func45 [.box [.ref 1, iA j], dY b] [(0, .ptr 0 0), (1, iA n)] fun G => ?_; have hu1 := aU5 (b.getD ((j + 1 - 1).tmod b.length).toNat 0); have hu2 := aU5 (b.getD (((j + 1 - 1) * 7 + 3).tmod b.length).toNat 0); refine wp_seq (m7 G f8 [(4, iA 0)] fun G => b0 (wp_seq (V2 G f8 [0, 1] [.box [.ref 1, iA (j + 1)], dY b] [(0, .ptr 0 0), (1, iA n), (4, iA 0)] [wO (j + 1)] (o1 (by omega)) fun G => b0 (wp_seq (wp_seq ?_))))); cases h0 : (decide (n < 1))
  ·
   have q0 := dFf h0; refine m7 G (N1 (fc h0 fz) (us [(3, 8, 0), (1009, 1009, 0)])) [(24, bA ((b.length : Int) == 0))] fun G => b0 (rcE G (fun h1 q1 => ?_) fun h1 q1 => ?_)
   ·
    refine wp_skip (b0 (wp_seq (O0 G f8 [(5, iA (j + 1 - 1))] [wO (j + 1 - 1)] (o1 (by omega)) fun G => b0 (wp_seq (wp_seq (m7 G f8 [(36, bA (decide (j + 1 - 1 < (b.length : Int))))] fun G => b0 (rcD G (fun h2 q2 => ?_) fun h2 q2 => ?_)))))))
    ·
     refine wp_skip (b0 (wp_seq (bk7 G f8 [0, 1, 3, 7, 0, 0, 32, 96, 224, 480, 1008, 2047, 4095, 8191, 16383, 0, 32768, 98304, 229376, 0, 524288, 1572864, 0, 4194304, 12582912, 29360128, 62914560, 133693440, 268402688, 536838144, 1073709056, 2147450880, 4294967295, 0, 8589934592, 34359738367, 0, 0, 137438953472, 412316860416, 962072674304, 2061584302080, 4329327034368, 8727373545472, 17592186044415, 35184372088831] [(6, iA (((b.getD ((j + 1 - 1).tmod (b.length : Int)).toNat 0).toNat : Int) * 131 + ((b.getD (((j + 1 - 1) * 7 + 3).tmod (b.length : Int)).toNat 0).toNat : Int) * 1117 + (j + 1 - 1) * 29 + (j + 1 - 1).tdiv (b.length : Int) * 53))] [(b.length : Int) ≠ 0, (0 : Int) ≤ (j + 1 - 1).tmod (b.length : Int), (j + 1 - 1).tmod (b.length : Int) < b.length, ((j + 1 - 1).tmod (b.length : Int)).toNat < b.length, IntKind.i64.wrap ((b.getD ((j + 1 - 1).tmod (b.length : Int)).toNat (0 : UInt8)).toNat : Int) = ((b.getD ((j + 1 - 1).tmod (b.length : Int)).toNat (0 : UInt8)).toNat : Int), wO (((b.getD ((j + 1 - 1).tmod (b.length : Int)).toNat (0 : UInt8)).toNat : Int) * 131), wO ((j + 1 - 1) * 7), wO ((j + 1 - 1) * 7 + 3), (b.length : Int) ≠ 0, (0 : Int) ≤ ((j + 1 - 1) * 7 + 3).tmod (b.length : Int), ((j + 1 - 1) * 7 + 3).tmod (b.length : Int) < b.length, (((j + 1 - 1) * 7 + 3).tmod (b.length : Int)).toNat < b.length, IntKind.i64.wrap ((b.getD (((j + 1 - 1) * 7 + 3).tmod (b.length : Int)).toNat (0 : UInt8)).toNat : Int) = ((b.getD (((j + 1 - 1) * 7 + 3).tmod (b.length : Int)).toNat (0 : UInt8)).toNat : Int), wO (((b.getD (((j + 1 - 1) * 7 + 3).tmod (b.length : Int)).toNat (0 : UInt8)).toNat : Int) * 1117), wO (((b.getD ((j + 1 - 1).tmod (b.length : Int)).toNat (0 : UInt8)).toNat : Int) * 131 + ((b.getD (((j + 1 - 1) * 7 + 3).tmod (b.length : Int)).toNat (0 : UInt8)).toNat : Int) * 1117), wO ((j + 1 - 1) * 29), wO (((b.getD ((j + 1 - 1).tmod (b.length : Int)).toNat (0 : UInt8)).toNat : Int) * 131 + ((b.getD (((j + 1 - 1) * 7 + 3).tmod (b.length : Int)).toNat (0 : UInt8)).toNat : Int) * 1117 + (j + 1 - 1) * 29), (b.length : Int) ≠ 0, wO ((j + 1 - 1).tdiv (b.length : Int)), wO ((j + 1 - 1).tdiv (b.length : Int) * 53), wO (((b.getD ((j + 1 - 1).tmod (b.length : Int)).toNat (0 : UInt8)).toNat : Int) * 131 + ((b.getD (((j + 1 - 1) * 7 + 3).tmod (b.length : Int)).toNat (0 : UInt8)).toNat : Int) * 1117 + (j + 1 - 1) * 29 + (j + 1 - 1).tdiv (b.length : Int) * 53)] ⟨(by assumption), ((bl8 (by omega) (by omega)).1), ((bl8 (by omega) (by omega)).2.1), ((bl8 (by omega) (by omega)).2.2), (w64 (by omega) (by omega)), (oW (by omega)), (oW (by omega)), (oW (by omega)), (by assumption), ((bl8 (by omega) (by omega)).1), ((bl8 (by omega) (by omega)).2.1), ((bl8 (by omega) (by omega)).2.2), (w64 (by omega) (by omega)), (oW (by omega)), (oW (by omega)), (oW (by omega)), (oW (by omega)), (by assumption), (by have := aX7 (b := b) (k := j + 1 - 1) (by omega) (by omega) (by omega); exact w64 (by unfold pkX at this; omega) (by unfold pkX at this; omega)), (by have := aX7 (b := b) (k := j + 1 - 1) (by omega) (by omega) (by omega); exact w64 (by unfold pkX at this; omega) (by unfold pkX at this; omega)), (by have := aX7 (b := b) (k := j + 1 - 1) (by omega) (by omega) (by omega); exact w64 (by unfold pkX at this; omega) (by unfold pkX at this; omega)), cc2⟩ fun G => ?_)))
     refine b0 (wp_seq (O0 G f8 [(6, iA (a47 (((b.getD ((j + 1 - 1).tmod (b.length : Int)).toNat 0).toNat : Int) * 131 + ((b.getD (((j + 1 - 1) * 7 + 3).tmod (b.length : Int)).toNat 0).toNat : Int) * 1117 + (j + 1 - 1) * 29 + (j + 1 - 1).tdiv (b.length : Int) * 53) ((((b.getD ((j + 1 - 1).tmod (b.length : Int)).toNat 0).toNat : Int) * 131 + ((b.getD (((j + 1 - 1) * 7 + 3).tmod (b.length : Int)).toNat 0).toNat : Int) * 1117 + (j + 1 - 1) * 29 + (j + 1 - 1).tdiv (b.length : Int) * 53).tdiv 64)))] [(64 : Int) ≠ 0, wO ((((b.getD ((j + 1 - 1).tmod (b.length : Int)).toNat (0 : UInt8)).toNat : Int) * 131 + ((b.getD (((j + 1 - 1) * 7 + 3).tmod (b.length : Int)).toNat (0 : UInt8)).toNat : Int) * 1117 + (j + 1 - 1) * 29 + (j + 1 - 1).tdiv (b.length : Int) * 53).tdiv (64 : Int))] ⟨(by omega), (by have := bM0 (b := b) (k := j + 1 - 1) (by omega) (by omega) (by omega); exact w64 (by unfold pkX at this; omega) (by unfold pkX at this; omega)), cc2⟩ fun G => b0 (wp_seq (O0 G f8 [(4, iA ((a47 (((b.getD ((j + 1 - 1).tmod (b.length : Int)).toNat 0).toNat : Int) * 131 + ((b.getD (((j + 1 - 1) * 7 + 3).tmod (b.length : Int)).toNat 0).toNat : Int) * 1117 + (j + 1 - 1) * 29 + (j + 1 - 1).tdiv (b.length : Int) * 53) ((((b.getD ((j + 1 - 1).tmod (b.length : Int)).toNat 0).toNat : Int) * 131 + ((b.getD (((j + 1 - 1) * 7 + 3).tmod (b.length : Int)).toNat 0).toNat : Int) * 1117 + (j + 1 - 1) * 29 + (j + 1 - 1).tdiv (b.length : Int) * 53).tdiv 64)).tmod n))] [n ≠ 0] ⟨(by omega), cc2⟩ fun G => b0 (wp_ret ?_))))); exact rxI ((a47 (((b.getD ((j + 1 - 1).tmod (b.length : Int)).toNat 0).toNat : Int) * 131 + ((b.getD (((j + 1 - 1) * 7 + 3).tmod (b.length : Int)).toNat 0).toNat : Int) * 1117 + (j + 1 - 1) * 29 + (j + 1 - 1).tdiv (b.length : Int) * 53) ((((b.getD ((j + 1 - 1).tmod (b.length : Int)).toNat 0).toNat : Int) * 131 + ((b.getD (((j + 1 - 1) * 7 + 3).tmod (b.length : Int)).toNat 0).toNat : Int) * 1117 + (j + 1 - 1) * 29 + (j + 1 - 1).tdiv (b.length : Int) * 53).tdiv 64)).tmod n) G [0, 1] (b73 (by omega) (by omega) (by omega))
    · refine wp_seq (O0 G f8 [(4, iA (((b.getD (j + 1 - 1).toNat 0).toNat : Int).tmod n))] (iX (j + 1 - 1) ((j + 1 - 1).toNat) b.length ((IntKind.i64.wrap ((b.getD (j + 1 - 1).toNat (0 : UInt8)).toNat : Int) = ((b.getD (j + 1 - 1).toNat (0 : UInt8)).toNat : Int)) :: ((n ≠ 0) :: []))) (iK (by omega) ⟨(by have := aU5 (b.getD (j + 1 - 1).toNat 0); exact w64 (by omega) (by omega)), ⟨(by omega), cc2⟩⟩) fun G => b0 (wp_ret (o5 ?_))); exact rxI (((b.getD (j + 1 - 1).toNat 0).toNat : Int).tmod n) G [0, 1] (b74 (by omega) (by omega) (by omega))
   · refine wp_seq (m7 G f8 [] fun G => b0 (wp_ret (o5 ?_))); exact rxI 0 G [0, 1] (b75 (by omega))
  · have q0 := dTt h0; refine m7 G (N1 (fc h0 fz) (us [(3, 8, 0), (1009, 1009, 0)])) [(24, bA true)] fun G => b0 (rT G true (by kernel_rfl) (wp_seq (m7 G f8 [] fun G => b0 (wp_ret (o5 ?_))))); exact rxI 0 G [0, 1] (bW3 (by omega))
theorem P0 (b : List UInt8) (j : Int) (l : List Int) (hl : l ≠ []) (r0 : 0 ≤ j) (r1 : j ≤ 1000000000) : j9.ok Tryz.prog ⟨46, [.ptr 0 0, .ref 2], [.box [.ref 1, iA j], dY b, dI l], [.box [.ref 1, iA (j + 1)], dY b, dI l], iA (nm b j l)⟩ := by
 refine K9 12 Tryz.func46 [.box [.ref 1, iA j], dY b, dI l] [(0, .ptr 0 0), (1, .ref 2)] fun G => ?_; refine wp_seq (m7 G f8 [(4, iA 0)] fun G => b0 (wp_seq (V2 G (A4 4 [0, 1] (C7 b j ((l.length : Int)) (by assumption) (by assumption))) [0, 1, 2] [.box [.ref 1, iA (j + 1)], dY b, dI l] [(4, iA (l.getD (pk b j (l.length : Int)).toNat 0))] [(0 : Int) ≤ pk b j (l.length : Int), pk b j (l.length : Int) < l.length, (pk b j (l.length : Int)).toNat < l.length] ⟨((bg8 b r0 r1 hl).1), ((bg8 b r0 r1 hl).2.1), ((bg8 b r0 r1 hl).2.2), cc2⟩ fun G => b0 (wp_ret ?_)))); exact L6 G [0, 1, 2]
theorem bb9 (c : List UInt8) (hc : c.length ≤ 2000) : j9.ok Tryz.prog ⟨21, [.ref 0], [dY c], [dY c, .box [.ref 0, iA 0]], .ptr 1 0⟩ := by
 refine K9 11 Tryz.func21 [dY c] [(0, .ref 0)] fun G => ?_; refine wp_seq (m7 G f8 [(2, .v (.pointer none))] fun G => b0 (wp_seq (wp_seq (I8 G f8 [(0, .ref 0), (2, .v (.pointer none)), (5, bA (decide ((c.length : Int) > 2000)))] fun G => b0 ?_)))); cases h0 : (decide ((c.length : Int) > 2000))
 ·have q0 := dFf h0; refine rF G _ h0 (wp_skip (b0 (wp_seq (l0 G f8 [0, 17] [dY c, .box [.ref 0, iA 0]] [(2, .ptr 1 0)] fun G => b0 (wp_ret ?_))))); exact L6 G [0, 1]
 ·have q0 := dTt h0; exact False.elim (by omega)
theorem bb8 (c : List UInt8) (hc : 2000 < c.length) : j9.ok Tryz.prog ⟨21, [.ref 0], [dY c], [dY c, .box [.ref 2, iA 0], dY ((c.take 2000).drop 0)], .ptr 1 0⟩ := by
 refine K9 11 Tryz.func21 [dY c] [(0, .ref 0)] fun G => ?_; refine wp_seq (m7 G f8 [(2, .v (.pointer none))] fun G => b0 (wp_seq (wp_seq (I8 G f8 [(0, .ref 0), (2, .v (.pointer none)), (5, bA (decide ((c.length : Int) > 2000)))] fun G => b0 ?_)))); cases h0 : (decide ((c.length : Int) > 2000))
 ·have q0 := dFf h0; exact False.elim (by omega)
 ·have q0 := dTt h0; refine rT G _ h0 (V2 G f8 [0, 9] [dY c, dY (List.drop 0 (cc0 (Int.toNat 2000) c))] [(0, .ref 1), (2, .v (.pointer none))] [(0 : Int) ≤ 2000, (2000 : Int) ≤ c.length] ⟨(by omega), (by omega), cc2⟩ fun G => b0 (wp_seq (l0 G f8 [0, 1, 18] [dY c, dY (List.drop 0 (cc0 (Int.toNat 2000) c)), .box [.ref 1, iA 0]] [(2, .ptr 2 0)] fun G => b0 (wp_ret ?_)))); exact L6 G [0, 2, 1]
abbrev dwS (b : List UInt8) (j : Int) (vs ars : List Int) (bd : List c8) : List It := [.box [.ref 1, iA j], dY b, dI vs, dI ars, dT bd]
abbrev exO (e : d9) : List It := [.tree (.exprs e.kids)]
abbrev exA (e : d9) (r : Nat) : AV := .agg [iA e.kind, iA e.value, .tref r]
theorem b32 {b : List UInt8} {nv j : Int} (h : pk b j 3 = 0) : n7 b nv j = ⟨1, nm b (j + 1) atL, []⟩ := if_pos h
theorem b31 {b : List UInt8} {nv j : Int} (h : ¬ pk b j 3 = 0) : n7 b nv j = ⟨2, pk b (j + 1) nv, []⟩ := if_neg h
theorem at2 (b : List UInt8) (j : Int) (vs ars : List Int) (bd : List c8) (r0 : 0 ≤ j) (r1 : j ≤ 900000000) : j9.ok Tryz.prog ⟨103, [.ptr 0 0, pA 2], dwS b j vs ars bd, dwS b (j + 2) vs ars bd ++ exO (n7 b vs.length j), exA (n7 b vs.length j) 5⟩ := by
 refine K9 18 Tryz.func103 [.box [.ref 1, iA j], dY b, dI vs, dI ars, dT bd] [(0, .ptr 0 0), (1, pA 2)] fun G => ?_; refine wp_seq (l0 G f8 [0, 1, 2, 3, 4, 5, 13] [.box [.ref 1, iA j], dY b, dI vs, dI ars, dT bd, .box (pL 2), .box [iA 0, iA 0, .v (.slice none 0 0)]] [(0, .ptr 0 0), (3, .ptr 5 0), (4, .ptr 6 0)] fun G => b0 (wp_seq (wp_seq (l0 G (A4 1 [0, 1] (C7 b j 3 (by assumption) (by omega))) (rg 7) [.box [.ref 1, iA (j + 1)], dY b, dI vs, dI ars, dT bd, .box (pL 2), .box [iA 0, iA 0, .v (.slice none 0 0)]] [(0, .ptr 0 0), (3, .ptr 5 0), (4, .ptr 6 0), (7, bA (pk b j 3 == 0))] fun G => b0 (rcE G (fun h0 q0 => ?_) fun h0 q0 => ?_)))))
 ·refine wp_skip (b0 (wp_seq (l0 G (A4 4 [0, 1] (C7 b (j + 1) ((vs.length : Int)) (by omega) (by omega))) [0, 1, 2, 3, 4, 6] [.box [.ref 1, iA (j + 1 + 1)], dY b, dI vs, dI ars, dT bd, .box [iA 2, iA (pk b (j + 1) (vs.length : Int)), .v (.slice none 0 0)]] [(4, .ptr 5 0)] fun G => b0 (wp_ret ?_)))); obtain ⟨ρ, G⟩ := G.nilT 6 (.exprs []) [.box [.ref 1, iA (j + 1 + 1)], dY b, dI vs, dI ars, dT bd, .box [iA 2, iA (pk b (j + 1) (vs.length : Int)), .tref 6]] [(4, .ptr 5 0)]; exact rxv (.agg [iA 2, iA (pk b (j + 1) (vs.length : Int)), .tref 6]) G [0, 1, 2, 3, 4, 6] (by show _ = AV.ren (nth [0, 1, 2, 3, 4, 6]) (.agg [iA (n7 b (vs.length : Int) j).kind, iA (n7 b (vs.length : Int) j).value, .tref 5]); rw [b31 (by omega)] <;> rfl) (by show _ = mR [0, 1, 2, 3, 4, 6] [.box [.ref 1, iA (j + 2)], dY b, dI vs, dI ars, dT bd, .tree (D.exprs (n7 b (vs.length : Int) j).kids)]; have e1 : (j + 2 : Int) = (j + 1 + 1) := (by omega); rw [e1, b31 (by omega)] <;> rfl)
 ·refine wp_seq (l0 G (A4 2 [0, 1, 15] (j9.lend (P0 b (j + 1) atL (by simp [h0]) (by omega) (by omega)) [.no, .no, .row 3])) (rg 7) [.box [.ref 1, iA (j + 1 + 1)], dY b, dI vs, dI ars, dT bd, .box (pL 2), .box [iA 1, iA (nm b (j + 1) atL), .v (.slice none 0 0)]] [(0, .ptr 0 0), (3, .ptr 5 0), (4, .ptr 6 0)] fun G => b0 (wp_ret (o5 ?_))); obtain ⟨ρ, G⟩ := G.nilT 7 (.exprs []) [.box [.ref 1, iA (j + 1 + 1)], dY b, dI vs, dI ars, dT bd, .box (pL 2), .box [iA 1, iA (nm b (j + 1) atL), .tref 7]] [(0, .ptr 0 0), (3, .ptr 5 0), (4, .ptr 6 0)]; exact rxv (.agg [iA 1, iA (nm b (j + 1) atL), .tref 7]) G [0, 1, 2, 3, 4, 7] (by show _ = AV.ren (nth [0, 1, 2, 3, 4, 7]) (.agg [iA (n7 b (vs.length : Int) j).kind, iA (n7 b (vs.length : Int) j).value, .tref 5]); rw [b32 (by omega)] <;> rfl) (by show _ = mR [0, 1, 2, 3, 4, 7] [.box [.ref 1, iA (j + 2)], dY b, dI vs, dI ars, dT bd, .tree (D.exprs (n7 b (vs.length : Int) j).kids)]; have e1 : (j + 2 : Int) = (j + 1 + 1) := (by omega); rw [e1, b32 (by omega)] <;> rfl)
theorem bb6 (vs ars : List Int) (bd : List c8) (e : d9) : j9.ok Tryz.prog (fnC 112 [pA 0, eA e 3] ([dI vs, dI ars, dT bd] ++ eS e) (bA (r7 vs.length ars.length e))) := I6 ⟨vs, ars, bd⟩ e
abbrev drC (b : List UInt8) (vs ars : List Int) (bd : List c8) (d : Nat) (j n : Int) : j9 := ⟨111, [.ptr 0 0, pA 2, iA n], dwS b j vs ars bd, dwS b (L8 b vs.length ars.length d j).2 vs ars bd ++ exO (L8 b vs.length ars.length d j).1, exA (L8 b vs.length ars.length d j).1 5⟩
section
variable {b : List UInt8} {nv na : Int} {d : Nat} {j : Int}
theorem b04 (h : d < 2) : L8 b nv na d j = (n7 b nv j, j + 2) := by
 match d, h with
 | 0, _ => rfl
 | 1, _ => simp [L8]
theorem bS0 (h : 0 < d) (h1 : pk b j 4 = 0) : L8 b nv na (d + 1) j = (n7 b nv (j + 1), j + 3) := by rw [L8, if_neg (by omega), if_pos h1]
theorem bI5 (h : 0 < d) (h1 : ¬ pk b j 4 = 0) (h2 : nm b (j + 1) N6 = 3) (h3 : na = 0) : L8 b nv na (d + 1) j = (n7 b nv (j + 2), j + 4) := by rw [L8, if_neg (by omega), if_neg h1, if_pos h2, if_pos h3]
theorem bI4 (h : 0 < d) (h1 : ¬ pk b j 4 = 0) (h2 : nm b (j + 1) N6 = 3) (h3 : ¬ na = 0) : L8 b nv na (d + 1) j = (⟨3, pk b (j + 2) na, [n7 b nv (j + 3)]⟩, j + 5) := by rw [L8, if_neg (by omega), if_neg h1, if_pos h2, if_neg h3]
abbrev drK (b : List UInt8) (nv na : Int) (d : Nat) (j : Int) (k : Nat) : List d9 × Int := G7 (L8 b nv na d) k (j + 2)
theorem b03 (h : 0 < d) (h1 : ¬ pk b j 4 = 0) (h2 : ¬ nm b (j + 1) N6 = 3) {m : Int} (h3 : 0 ≤ m) (h4 : ¬ m > 0) : L8 b nv na (d + 1) j = (⟨nm b (j + 1) N6, 0, (drK b nv na d j (t7 (nm b (j + 1) N6) - m).toNat).1⟩, (drK b nv na d j (t7 (nm b (j + 1) N6) - m).toNat).2) := by
 have e : m = 0 := by omega
 rw [e, Int.sub_zero, L8, if_neg (by omega), if_neg h1, if_neg h2]
theorem bi3 {x m : Int} (h3 : m > 0) (h4 : m ≤ x) : drK b nv na d j (x - (m - 1)).toNat = ((drK b nv na d j (x - m).toNat).1 ++ [(L8 b nv na d (drK b nv na d j (x - m).toNat).2).1], (L8 b nv na d (drK b nv na d j (x - m).toNat).2).2) := by
 rw [show (x - (m - 1)).toNat = (x - m).toNat + 1 by omega]; rfl
theorem b34 (r0 : 0 ≤ j) (r1 : j ≤ 900000000) : 0 ≤ t7 (nm b (j + 1) N6) ∧ t7 (nm b (j + 1) N6) ≤ 3 := by
 have h := al3 b (k := j + 1) (l := N6) (by omega) (by omega) (by simp)
 simp only [cc4, ce7, List.not_mem_nil, or_false] at h
 rcases h with h | h | h | h | h | h | h | h | h <;> rw [h] <;> decide
theorem b06 (r0 : 0 ≤ j) {k : Nat} (hk : k ≤ 3) : j + 2 ≤ (drK b nv na d j k).2 ∧ (drK b nv na d j k).2 ≤ j + 2 + 3 * cE d := by
 have hc := aF3 d
 have h := bz0 (f := L8 b nv na d) (c := cE d) (m := 3) (by omega) k (j + 2) hk fun i _ _ => a20 b nv na d i
 have h4 : (k : Int) * cE d ≤ 3 * cE d := cf6 (by omega) (by omega)
 unfold drK; omega
theorem b05 {x m : Int} (r0 : 0 ≤ j) (h3 : m > 0) (h4 : m ≤ x) (h5 : x ≤ 3) (r1 : j + cE (d + 1) ≤ 800000000) : (drK b nv na d j (x - m).toNat).2 + cE d ≤ 800000000 := by
 have hc := aF3 d
 have hce : cE (d + 1) = 5 + 3 * cE d := rfl
 have hm : (x - m).toNat ≤ 2 := by omega
 have h := bz0 (f := L8 b nv na d) (c := cE d) (m := 2) (by omega) (x - m).toNat (j + 2) hm fun i _ _ => a20 b nv na d i
 have h4 : ((x - m).toNat : Int) * cE d ≤ 2 * cE d := cf6 (by omega) (by omega)
 unfold drK; omega
end
theorem bf4 (b : List UInt8) (vs ars : List Int) (bd : List c8) (d : Nat) (hd : d < 2) (j n : Int) (hn : n = d) (r0 : 0 ≤ j) (r1 : j ≤ 900000000) : j9.ok Tryz.prog (drC b vs ars bd d j n) := by
 refine K9 62 Tryz.func111 [.box [.ref 1, iA j], dY b, dI vs, dI ars, dT bd] [(0, .ptr 0 0), (1, pA 2), (2, iA n)] fun G => ?_; refine wp_seq (l0 G f8 [0, 1, 2, 3, 4, 5, 13] [.box [.ref 1, iA j], dY b, dI vs, dI ars, dT bd, .box (pL 2), .box [iA 0, iA 0, .v (.slice none 0 0)]] [(0, .ptr 0 0), (2, iA n), (4, .ptr 5 0), (6, .ptr 6 0)] fun G => b0 (wp_seq (wp_seq ?_))); cases h0 : (decide (n < 2))
 ·have q0 := dFf h0; exact False.elim (by omega)
 ·have q0 := dTt h0; refine m7 G (N1 (fc h0 fz) [(3, 0), (4, 0), (5, 0), (1006, 0)]) [(16, bA true)] fun G => b0 (rT G true (by kernel_rfl) (wp_seq (l0 G (A4 2 (rg 5) (at2 b j vs ars bd (by assumption) (by assumption))) [0, 1, 2, 3, 4, 5, 6, 23] [.box [.ref 1, iA (j + 2)], dY b, dI vs, dI ars, dT bd, .box (pL 2), .box [iA (n7 b (vs.length : Int) j).kind, iA (n7 b (vs.length : Int) j).value, .tref 7], .tree (D.exprs (n7 b (vs.length : Int) j).kids)] [(0, .ptr 0 0), (2, iA n), (4, .ptr 5 0), (6, .ptr 6 0)] fun G => b0 (wp_ret (o5 ?_))))); exact rxv (.agg [iA (n7 b (vs.length : Int) j).kind, iA (n7 b (vs.length : Int) j).value, .tref 7]) G [0, 1, 2, 3, 4, 7] (by show _ = AV.ren (nth [0, 1, 2, 3, 4, 7]) (.agg [iA (L8 b (vs.length : Int) (ars.length : Int) d j).fst.kind, iA (L8 b (vs.length : Int) (ars.length : Int) d j).fst.value, .tref 5]); rw [b04 hd] <;> rfl) (by show _ = mR [0, 1, 2, 3, 4, 7] [.box [.ref 1, iA (L8 b (vs.length : Int) (ars.length : Int) d j).snd], dY b, dI vs, dI ars, dT bd, .tree (D.exprs (L8 b (vs.length : Int) (ars.length : Int) d j).fst.kids)]; rw [b04 hd] <;> rfl)
abbrev az0 (b : List UInt8) (vs : List Int) (ars : List Int) (d : Nat) (j : Int) (k : Int) := drK b (vs.length : Int) (ars.length : Int) d j (t7 (nm b (j + 1) N6) - k).toNat
abbrev au2 (b : List UInt8) (vs : List Int) (ars : List Int) (d : Nat) (j : Int) : AV := (.agg [iA (L8 b (vs.length : Int) (ars.length : Int) (d + 1) j).fst.kind, iA (L8 b (vs.length : Int) (ars.length : Int) (d + 1) j).fst.value, .tref 5])
abbrev au1 (b : List UInt8) (vs : List Int) (ars : List Int) (bd : List c8) (d : Nat) (j : Int) : List It := [.box [.ref 1, iA (L8 b (vs.length : Int) (ars.length : Int) (d + 1) j).snd], dY b, dI vs, dI ars, dT bd, .tree (D.exprs (L8 b (vs.length : Int) (ars.length : Int) (d + 1) j).fst.kids)]
abbrev aI3 : It := .box [iA 0, iA 0, .v (.slice none 0 0)]
abbrev ad8 (n : Int) (r0 : List (Nat × AV)) : List (Nat × AV) := (0, .ptr 0 0) :: (2, iA n) :: (4, .ptr 5 0) :: (6, .ptr 6 0) :: r0
theorem bF2 (b : List UInt8) (vs ars : List Int) (bd : List c8) (d : Nat) (hd : 0 < d) (hd2 : d ≤ 100) (ih : ∀ (j n : Int), n = d → 0 ≤ j → j + cE d ≤ 800000000 → j9.ok Tryz.prog (drC b vs ars bd d j n)) (j n : Int) (hn : n = ((d + 1 : Nat) : Int)) (r0 : 0 ≤ j) (r1 : j + cE (d + 1) ≤ 800000000) : j9.ok Tryz.prog (drC b vs ars bd (d + 1) j n) := by
  refine K9 62 Tryz.func111 [.box [.ref 1, iA j], dY b, dI vs, dI ars, dT bd] [(0, .ptr 0 0), (1, pA 2), (2, iA n)] fun G => ?_; have hc := aF3 d; have hce : cE (d + 1) = 5 + 3 * cE d := rfl; have har := b34 (b := b) (j := j) r0 (by omega); refine wp_seq (l0 G f8 [0, 1, 2, 3, 4, 5, 13] [.box [.ref 1, iA j], dY b, dI vs, dI ars, dT bd, .box (pL 2), aI3] (ad8 n []) fun G => b0 (wp_seq (wp_seq ?_))); cases h0 : (decide (n < 2))
  ·
   have q0 := dFf h0; refine l0 G (X7 (H7 4 [0, 1] (C7 b j 4 (by assumption) (by omega)) X6) (fc h0 fz) [(3, 0), (4, 0), (5, 0), (1006, 0)]) (rg 7) [.box [.ref 1, iA (j + 1)], dY b, dI vs, dI ars, dT bd, .box (pL 2), aI3] (ad8 n [(16, bA (pk b j 4 == 0))]) fun G => b0 (rcE G (fun h1 q1 => ?_) fun h1 q1 => ?_)
   ·
    refine wp_skip (b0 (wp_seq (l0 G (A4 2 [0, 1, 15] (j9.lend (P0 b (j + 1) N6 (by simp [h0, h1]) (by omega) (by omega)) [.no, .no, .row 3])) (rg 7) [.box [.ref 1, iA (j + 1 + 1)], dY b, dI vs, dI ars, dT bd, .box (pL 2), aI3] (ad8 n [(7, iA (nm b (j + 1) N6))]) fun G => b0 (wp_seq (wp_seq (m7 G f8 [(24, bA (nm b (j + 1) N6 == 3))] fun G => b0 (rcE G (fun h2 q2 => ?_) fun h2 q2 => ?_)))))))
    ·
     refine wp_skip (b0 (wp_seq (l0 G f8 [0, 1, 2, 3, 4, 5, 6, 23] [.box [.ref 1, iA (j + 1 + 1)], dY b, dI vs, dI ars, dT bd, .box (pL 2), aI3, .box [iA (nm b (j + 1) N6), iA 0, .v (.slice none 0 0)]] (ad8 n [(7, iA (nm b (j + 1) N6)), (8, .ptr 7 0)]) fun G => b0 (wp_seq (wp_seq (I8 G (A4 1 [] (ai8 (nm b (j + 1) N6))) (ad8 n [(8, .ptr 7 0), (9, iA (t7 (nm b (j + 1) N6)))]) fun G => b0 (wp_block ?_))))))); obtain ⟨ρ, G⟩ := G.nilT 8 (.exprs []) [.box [.ref 1, iA (j + 1 + 1)], dY b, dI vs, dI ars, dT bd, .box (pL 2), .box [iA 0, iA 0, .v (.slice none 0 0)], .box [iA (nm b (j + 1) N6), iA 0, .tref 8]] (ad8 n [(8, .ptr 7 0), (9, iA (t7 (nm b (j + 1) N6)))]); replace G := G.as [.box [.ref 1, iA (drK b (vs.length : Int) (ars.length : Int) d j (t7 (nm b (j + 1) N6) - t7 (nm b (j + 1) N6)).toNat).snd], dY b, dI vs, dI ars, dT bd, .box (pL 2), .box [iA 0, iA 0, .v (.slice none 0 0)], .box [iA (nm b (j + 1) N6), iA 0, .tref 8], .tree (D.exprs (drK b (vs.length : Int) (ars.length : Int) d j (t7 (nm b (j + 1) N6) - t7 (nm b (j + 1) N6)).toNat).fst)] (ad8 n [(8, .ptr 7 0), (9, iA (t7 (nm b (j + 1) N6)))]) (by have e1 : ((drK b (vs.length : Int) (ars.length : Int) d j (t7 (nm b (j + 1) N6) - t7 (nm b (j + 1) N6)).toNat).snd : Int) = (j + 1 + 1) := (by rw [Int.sub_self]; show j + 2 = j + 1 + 1; omega); have e2 : ((drK b (vs.length : Int) (ars.length : Int) d j (t7 (nm b (j + 1) N6) - t7 (nm b (j + 1) N6)).toNat).fst : List d9) = ([]) := (by rw [Int.sub_self]; rfl); (first | rw [e1, e2] | simp only [e1, e2]) <;> rfl) (by kernel_rfl); refine A8 (κ := Int) (fun k => 0 ≤ k ∧ k ≤ t7 (nm b (j + 1) N6)) (fun k => k.toNat) (fun k => [.box [.ref 1, iA (drK b vs.length ars.length d j (t7 (nm b (j + 1) N6) - k).toNat).2], dY b, dI vs, dI ars, dT bd, .box (pL 2), .box [iA 0, iA 0, .v (.slice none 0 0)], .box [iA (nm b (j + 1) N6), iA 0, .tref 8], .tree (.exprs (drK b vs.length ars.length d j (t7 (nm b (j + 1) N6) - k).toNat).1)]) (fun k => [(0, .ptr 0 0), (2, iA n), (4, .ptr 5 0), (6, .ptr 6 0), (8, .ptr 7 0), (9, iA k)]) (t7 (nm b (j + 1) N6)) (by omega) (v5.at G _ _) ?_; clear G; intro k ρ a w hp G; replace G := v5.at G [.box [.ref 1, iA (az0 b vs ars d j k).snd], dY b, dI vs, dI ars, dT bd, .box (pL 2), aI3, .box [iA (nm b (j + 1) N6), iA 0, .tref 8], .tree (D.exprs (az0 b vs ars d j k).fst)] (ad8 n [(8, .ptr 7 0), (9, iA k)]); have hkb := b06 (b := b) (nv := vs.length) (na := ars.length) (d := d) (j := j) r0 (k := (t7 (nm b (j + 1) N6) - k).toNat) (by omega); have hkl : (drK b vs.length ars.length d j (t7 (nm b (j + 1) N6) - k).toNat).1.length = (t7 (nm b (j + 1) N6) - k).toNat := aR3 _ _ _; refine wp_seq (wp_seq (m7 G f8 [(48, bA (decide (k > 0)))] fun G => b0 (rcD G (fun h4 q4 => ?_) fun h4 q4 => ?_)))
     · refine wp_exit (A2 (A2 (A1 (b0 (wp_seq (l0 G f8 [0, 1, 2, 3, 4, 6, 8] [.box [.ref 1, iA (az0 b vs ars d j k).snd], dY b, dI vs, dI ars, dT bd, .box [iA (nm b (j + 1) N6), iA 0, .tref 6], .tree (D.exprs (az0 b vs ars d j k).fst)] [(6, .ptr 5 0)] fun G => b0 (wp_ret ?_))))))); exact rxv (.agg [iA (nm b (j + 1) N6), iA 0, .tref 6]) G [0, 1, 2, 3, 4, 6] (by show _ = AV.ren (nth [0, 1, 2, 3, 4, 6]) (au2 b vs ars d j); unfold au2; rw [b03 (m := k) hd (by omega) (by omega) (by omega) (by omega)] <;> rfl) (by show _ = mR [0, 1, 2, 3, 4, 6] (au1 b vs ars bd d j); unfold au1; rw [b03 (m := k) hd (by omega) (by omega) (by omega) (by omega)] <;> rfl)
     · refine wp_skip (b0 (wp_seq (wp_block (L7 G (A4 6 (rg 5) (ih ((drK b (vs.length : Int) (ars.length : Int) d j (t7 (nm b (j + 1) N6) - k).toNat).snd) (n - 1) (by omega) (by omega) (b05 (by omega) (by omega) (by omega) (by omega) r1))) [0, 1, 0, 0, 0, 16, 60, 124, 255, 511, 1023] [0, 1, 2, 3, 4, 5, 6, 7, 73] [.box [.ref 1, iA (L8 b (vs.length : Int) (ars.length : Int) d (az0 b vs ars d j k).snd).snd], dY b, dI vs, dI ars, dT bd, .box (pL 2), aI3, .box [iA (nm b (j + 1) N6), iA 0, .tref 8], .tree (D.exprs ((az0 b vs ars d j k).fst ++ [qzE (L8 b (vs.length : Int) (ars.length : Int) d (az0 b vs ars d j k).snd).fst]))] (ad8 n [(8, .ptr 7 0), (9, iA k)]) ((wO (n - 1)) :: (aP ((drK b (vs.length : Int) (ars.length : Int) d j (t7 (nm b (j + 1) N6) - k).toNat).fst.length + 1) 40 [])) ⟨oW (by omega), (aK (by omega) cc2)⟩ fun G => t5 (b0 (O0 G f8 [(9, iA (k - 1))] [wO (k - 1)] (o1 (by omega)) fun G => b0 ?_)))))); exact rxn G (k - 1) (by omega) (by omega) (rg 9) (by have e1 : ((drK b (vs.length : Int) (ars.length : Int) d j (t7 (nm b (j + 1) N6) - (k - 1)).toNat).snd : Int) = ((L8 b (vs.length : Int) (ars.length : Int) d (drK b (vs.length : Int) (ars.length : Int) d j (t7 (nm b (j + 1) N6) - k).toNat).snd).snd) := (by rw [bi3 (by omega) (by omega)]; done); have e2 : ((drK b (vs.length : Int) (ars.length : Int) d j (t7 (nm b (j + 1) N6) - (k - 1)).toNat).fst : List d9) = ((drK b (vs.length : Int) (ars.length : Int) d j (t7 (nm b (j + 1) N6) - k).toNat).fst ++ [qzE (L8 b (vs.length : Int) (ars.length : Int) d (drK b (vs.length : Int) (ars.length : Int) d j (t7 (nm b (j + 1) N6) - k).toNat).snd).fst]) := (by rw [bi3 (by omega) (by omega)]; (simp only [d9.eta]; done)); (first | rw [e1, e2] | simp only [e1, e2]) <;> rfl)
    ·
     refine wp_seq (wp_seq (m7 G f8 [(28, bA ((ars.length : Int) == 0))] fun G => b0 (rcE G (fun h3 q3 => ?_) fun h3 q3 => ?_)))
     · refine wp_skip (b0 (wp_seq (bu2 G (X7 (H7 5 [0, 1] (C7 b (j + 1 + 1) ((ars.length : Int)) (by omega) (by omega)) (H7 8 (rg 5) (at2 b (j + 1 + 1 + 1) vs ars bd (by omega) (by omega)) X6)) fz []) [0, 0, 0, 4, 12, 30, 0, 0, 254, 510, 1023, 2047] [0, 1, 2, 3, 4, 5, 6, 79] [.box [.ref 1, iA (j + 1 + 1 + 1 + 2)], dY b, dI vs, dI ars, dT bd, .box (pL 2), .box [iA (nm b (j + 1) N6), iA (pk b (j + 1 + 1) (ars.length : Int)), .tref 7], .tree (D.exprs [qzE (n7 b (vs.length : Int) (j + 1 + 1 + 1))])] (ad8 n [(7, iA (nm b (j + 1) N6))]) fun G => b0 (wp_ret (o5 ?_))))); exact rxv (.agg [iA (nm b (j + 1) N6), iA (pk b (j + 1 + 1) (ars.length : Int)), .tref 7]) G [0, 1, 2, 3, 4, 7] (by show _ = AV.ren (nth [0, 1, 2, 3, 4, 7]) (au2 b vs ars d j); unfold au2; have e1 : ((L8 b (vs.length : Int) (ars.length : Int) (d + 1) j).fst.kind : Int) = (nm b (j + 1) N6) := (by rw [bI4 hd (by omega) (by omega) (by omega)]; (simp only [Int.add_assoc, Int.reduceAdd, d9.eta, d9.kids, d9.kind, d9.value]; omega)); have e2 : ((L8 b (vs.length : Int) (ars.length : Int) (d + 1) j).fst.value : Int) = (pk b (j + 1 + 1) (ars.length : Int)) := (by rw [bI4 hd (by omega) (by omega) (by omega)]; (simp only [Int.add_assoc, Int.reduceAdd, d9.eta, d9.kids, d9.kind, d9.value]; done)); (first | rw [e1, e2] | simp only [e1, e2]) <;> rfl) (by show _ = mR [0, 1, 2, 3, 4, 7] (au1 b vs ars bd d j); unfold au1; have e1 : ((L8 b (vs.length : Int) (ars.length : Int) (d + 1) j).snd : Int) = (j + 1 + 1 + 1 + 2) := (by rw [bI4 hd (by omega) (by omega) (by omega)]; (simp only [Int.add_assoc, Int.reduceAdd, d9.eta, d9.kids, d9.kind, d9.value]; done)); have e2 : ((L8 b (vs.length : Int) (ars.length : Int) (d + 1) j).fst.kids : List d9) = ([qzE (n7 b (vs.length : Int) (j + 1 + 1 + 1))]) := (by rw [bI4 hd (by omega) (by omega) (by omega)]; show [_] = _; simp only [Int.add_assoc, Int.reduceAdd, d9.eta]; done); (first | rw [e1, e2] | simp only [e1, e2]) <;> rfl)
     · refine wp_seq (l0 G (A4 2 (rg 5) (at2 b (j + 1 + 1) vs ars bd (by omega) (by omega))) [0, 1, 2, 3, 4, 5, 6, 23] [.box [.ref 1, iA (j + 1 + 1 + 2)], dY b, dI vs, dI ars, dT bd, .box (pL 2), .box [iA (n7 b (vs.length : Int) (j + 1 + 1)).kind, iA (n7 b (vs.length : Int) (j + 1 + 1)).value, .tref 7], .tree (D.exprs (n7 b (vs.length : Int) (j + 1 + 1)).kids)] (ad8 n [(7, iA (nm b (j + 1) N6))]) fun G => b0 (wp_ret (o5 (o5 ?_)))); exact rxv (.agg [iA (n7 b (vs.length : Int) (j + 1 + 1)).kind, iA (n7 b (vs.length : Int) (j + 1 + 1)).value, .tref 7]) G [0, 1, 2, 3, 4, 7] (by show _ = AV.ren (nth [0, 1, 2, 3, 4, 7]) (au2 b vs ars d j); unfold au2; have e1 : ((L8 b (vs.length : Int) (ars.length : Int) (d + 1) j).fst.kind : Int) = ((n7 b (vs.length : Int) (j + 1 + 1)).kind) := (by rw [bI5 hd (by omega) (by omega) (by omega)]; (simp only [Int.add_assoc, Int.reduceAdd, d9.eta, d9.kids, d9.kind, d9.value]; done)); have e2 : ((L8 b (vs.length : Int) (ars.length : Int) (d + 1) j).fst.value : Int) = ((n7 b (vs.length : Int) (j + 1 + 1)).value) := (by rw [bI5 hd (by omega) (by omega) (by omega)]; (simp only [Int.add_assoc, Int.reduceAdd, d9.eta, d9.kids, d9.kind, d9.value]; done)); (first | rw [e1, e2] | simp only [e1, e2]) <;> rfl) (by show _ = mR [0, 1, 2, 3, 4, 7] (au1 b vs ars bd d j); unfold au1; have e1 : ((L8 b (vs.length : Int) (ars.length : Int) (d + 1) j).snd : Int) = (j + 1 + 1 + 2) := (by rw [bI5 hd (by omega) (by omega) (by omega)]; (simp only [Int.add_assoc, Int.reduceAdd, d9.eta, d9.kids, d9.kind, d9.value]; done)); have e2 : ((L8 b (vs.length : Int) (ars.length : Int) (d + 1) j).fst : d9) = (n7 b (vs.length : Int) (j + 1 + 1)) := (by rw [bI5 hd (by omega) (by omega) (by omega)]; (simp only [Int.add_assoc, Int.reduceAdd, d9.eta, d9.kids, d9.kind, d9.value]; done)); (first | rw [e1, e2] | simp only [e1, e2]) <;> rfl)
   · refine wp_seq (l0 G (A4 2 (rg 5) (at2 b (j + 1) vs ars bd (by omega) (by omega))) [0, 1, 2, 3, 4, 5, 6, 23] [.box [.ref 1, iA (j + 1 + 2)], dY b, dI vs, dI ars, dT bd, .box (pL 2), .box [iA (n7 b (vs.length : Int) (j + 1)).kind, iA (n7 b (vs.length : Int) (j + 1)).value, .tref 7], .tree (D.exprs (n7 b (vs.length : Int) (j + 1)).kids)] (ad8 n []) fun G => b0 (wp_ret (o5 ?_))); exact rxv (.agg [iA (n7 b (vs.length : Int) (j + 1)).kind, iA (n7 b (vs.length : Int) (j + 1)).value, .tref 7]) G [0, 1, 2, 3, 4, 7] (by show _ = AV.ren (nth [0, 1, 2, 3, 4, 7]) (au2 b vs ars d j); unfold au2; rw [bS0 hd (by omega)] <;> rfl) (by show _ = mR [0, 1, 2, 3, 4, 7] (au1 b vs ars bd d j); unfold au1; have e1 : ((L8 b (vs.length : Int) (ars.length : Int) (d + 1) j).snd : Int) = (j + 1 + 2) := (by rw [bS0 hd (by omega)]; (simp only [Int.add_assoc, Int.reduceAdd, d9.eta, d9.kids, d9.kind, d9.value]; done)); rw [e1, bS0 hd (by omega)] <;> rfl)
  · have q0 := dTt h0; exact False.elim (by omega)
theorem bB1 (b : List UInt8) (vs ars : List Int) (bd : List c8) : ∀ (d : Nat) (j n : Int), d ≤ 100 → n = d → 0 ≤ j → j + cE d ≤ 800000000 → j9.ok Tryz.prog (drC b vs ars bd d j n)
 | 0, j, n, _, hn, r0, r1 => bf4 b vs ars bd 0 (by omega) j n hn r0 (by have := aF3 0; omega)
 | 1, j, n, _, hn, r0, r1 => bf4 b vs ars bd 1 (by omega) j n hn r0 (by have := aF3 1; omega)
 | d + 2, j, n, hd, hn, r0, r1 => bF2 b vs ars bd (d + 1) (by omega) (by omega) (fun j n => bB1 b vs ars bd (d + 1) j n (by omega)) j n hn r0 r1
abbrev smC (b : List UInt8) (vs ars : List Int) (bd : List c8) (j : Int) : j9 := ⟨104, [.ptr 0 0, pA 2], dwS b j vs ars bd, dwS b (w6 b vs.length ars.length j).2 vs ars bd ++ exO (w6 b vs.length ars.length j).1, exA (w6 b vs.length ars.length j).1 5⟩
section
variable {b : List UInt8} {nv na : Nat} {j : Int}
theorem bU9 (h : r7 nv na (L8 b nv na (nm b j dpL).toNat (j + 1)).1 = true) : w6 b nv na j = L8 b nv na (nm b j dpL).toNat (j + 1) := if_pos h
theorem bU8 (h : r7 nv na (L8 b nv na (nm b j dpL).toNat (j + 1)).1 = false) : w6 b nv na j = (n7 b nv (L8 b nv na (nm b j dpL).toNat (j + 1)).2, (L8 b nv na (nm b j dpL).toNat (j + 1)).2 + 2) := if_neg (by rw [h]; decide)
theorem b47 (r0 : 0 ≤ j) (r1 : j ≤ 700000000) : cE (nm b j dpL).toNat ≤ 364 := cE4 (dp4 b r0 (by omega)).2.2
end
abbrev aa9 (b : List UInt8) (vs : List Int) (ars : List Int) (j : Int) := L8 b (vs.length : Int) (ars.length : Int) (nm b j dpL).toNat (j + 1)
theorem ad6 (b : List UInt8) (vs ars : List Int) (bd : List c8) (j : Int) (r0 : 0 ≤ j) (r1 : j ≤ 700000000) : j9.ok Tryz.prog (smC b vs ars bd j) := by
 have hdr := fun (i n : Int) => bB1 b vs ars bd (nm b j dpL).toNat i n (cd3 (dp4 b r0 (by omega)).2.2 (by omega))
 refine K9 19 Tryz.func104 [.box [.ref 1, iA j], dY b, dI vs, dI ars, dT bd] [(0, .ptr 0 0), (1, pA 2)] fun G => ?_; have hd4 := b47 (b := b) r0 r1; have hdb := a20 b vs.length ars.length (nm b j dpL).toNat (j + 1); refine wp_seq (l0 G f8 [0, 1, 2, 3, 4, 5, 13] [.box [.ref 1, iA j], dY b, dI vs, dI ars, dT bd, .box (pL 2), .box [iA 0, iA 0, .v (.slice none 0 0)]] [(0, .ptr 0 0), (3, .ptr 5 0), (4, .ptr 6 0)] fun G => b0 (wp_seq (bu2 G (X7 (H7 4 [0, 1, 31] (j9.lend (P0 b j dpL (List.cons_ne_nil _ _) (by assumption) (by omega)) [.no, .no, .row 3]) (H7 5 (rg 5) (hdr (j + 1) (nm b j dpL) (bS1 b (by omega) (by omega)) (by omega) (by omega)) X6)) fz []) [0, 0, 0, 0, 12, 31, 0, 127] [0, 1, 2, 3, 4, 5, 6, 47, 55] [.box [.ref 1, iA (aa9 b vs ars j).snd], dY b, dI vs, dI ars, dT bd, .box (pL 2), .box [iA 0, iA 0, .v (.slice none 0 0)], .tree (D.exprs (aa9 b vs ars j).fst.kids), .box [iA (aa9 b vs ars j).fst.kind, iA (aa9 b vs ars j).fst.value, .tref 7]] [(0, .ptr 0 0), (3, .ptr 5 0), (4, .ptr 6 0), (5, .ptr 8 0)] fun G => b0 (wp_seq (wp_seq (m7 G (A4 2 [2, 3, 4, 7] (j9.lend (bb6 vs ars bd ((L8 b (vs.length : Int) (ars.length : Int) (nm b j dpL).toNat (j + 1)).fst)) [.no, .no, .no, .tree])) [(14, bA (r7 vs.length ars.length (aa9 b vs ars j).fst))] fun G => b0 (rcB (b := r7 vs.length ars.length (L8 b (vs.length : Int) (ars.length : Int) (nm b j dpL).toNat (j + 1)).fst) G (fun h0 => ?_) fun h0 => ?_)))))))
 ·refine wp_skip (b0 (wp_seq (l0 G (A4 2 (rg 5) (at2 b ((L8 b (vs.length : Int) (ars.length : Int) (nm b j dpL).toNat (j + 1)).snd) vs ars bd (by omega) (by omega))) [0, 1, 2, 3, 4, 6, 25] [.box [.ref 1, iA ((aa9 b vs ars j).snd + 2)], dY b, dI vs, dI ars, dT bd, .box [iA (n7 b (vs.length : Int) (aa9 b vs ars j).snd).kind, iA (n7 b (vs.length : Int) (aa9 b vs ars j).snd).value, .tref 6], .tree (D.exprs (n7 b (vs.length : Int) (aa9 b vs ars j).snd).kids)] [(4, .ptr 5 0)] fun G => b0 (wp_ret ?_)))); exact rxv (.agg [iA (n7 b (vs.length : Int) (L8 b (vs.length : Int) (ars.length : Int) (nm b j dpL).toNat (j + 1)).snd).kind, iA (n7 b (vs.length : Int) (L8 b (vs.length : Int) (ars.length : Int) (nm b j dpL).toNat (j + 1)).snd).value, .tref 6]) G [0, 1, 2, 3, 4, 6] (by show _ = AV.ren (nth [0, 1, 2, 3, 4, 6]) (.agg [iA (w6 b vs.length ars.length j).fst.kind, iA (w6 b vs.length ars.length j).fst.value, .tref 5]); rw [bU8 (by with_reducible assumption)] <;> rfl) (by show _ = mR [0, 1, 2, 3, 4, 6] [.box [.ref 1, iA (w6 b vs.length ars.length j).snd], dY b, dI vs, dI ars, dT bd, .tree (D.exprs (w6 b vs.length ars.length j).fst.kids)]; rw [bU8 (by with_reducible assumption)] <;> rfl)
 ·refine wp_seq (l0 G f8 (rg 8) [.box [.ref 1, iA (aa9 b vs ars j).snd], dY b, dI vs, dI ars, dT bd, .box (pL 2), .box [iA (aa9 b vs ars j).fst.kind, iA (aa9 b vs ars j).fst.value, .tref 7], .tree (D.exprs (aa9 b vs ars j).fst.kids)] [(0, .ptr 0 0), (3, .ptr 5 0), (4, .ptr 6 0)] fun G => b0 (wp_ret (o5 ?_))); exact rxv (.agg [iA (L8 b (vs.length : Int) (ars.length : Int) (nm b j dpL).toNat (j + 1)).fst.kind, iA (L8 b (vs.length : Int) (ars.length : Int) (nm b j dpL).toNat (j + 1)).fst.value, .tref 7]) G [0, 1, 2, 3, 4, 7] (by show _ = AV.ren (nth [0, 1, 2, 3, 4, 7]) (.agg [iA (w6 b vs.length ars.length j).fst.kind, iA (w6 b vs.length ars.length j).fst.value, .tref 5]); rw [bU9 (by with_reducible assumption)] <;> rfl) (by show _ = mR [0, 1, 2, 3, 4, 7] [.box [.ref 1, iA (w6 b vs.length ars.length j).snd], dY b, dI vs, dI ars, dT bd, .tree (D.exprs (w6 b vs.length ars.length j).fst.kids)]; rw [bU9 (by with_reducible assumption)] <;> rfl)
end Go.Proofs.YtmokkddidcmglaaGreat
