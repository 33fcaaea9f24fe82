/- Part 4: functions on the way, plain laws. Conditions: as said. -/
import Derived.Deep.LoopGhost
import Derived.IntWalk
import Derived.Test.YtgmhmijcnlfmfaaK1
import Derived.Test.YtgmhmijcnlfmfaaK3
set_option maxRecDepth 100000
set_option maxHeartbeats 16000000
set_option linter.unusedVariables false
set_option linter.unusedSimpArgs false
open Bool renaming and_eq_false_iff → bN9, and_eq_true → bL3, and_eq_true_iff → bO2, eq_iff_iff → bO1, not_eq_false' → bM1, not_eq_true' → bL9
open Inhabited renaming default → bL2
open List renaming all_eq_true → bL7, eq_nil_of_length_eq_zero → bN7, getD_eq_getElem?_getD → bL4, getElem?_append_left → bN2, getElem?_eq_getElem → bL5, getElem?_eq_none → bM8, getElem?_eq_some_iff → bM0, getElem_mem → bN6, length_cons → bM2, map_cons → bO4, mem_cons_of_mem → bN4, mem_cons_self → bM7, mem_of_getElem? → bN3, range → bM9, take → bL8, take_of_length_le → bM5
open Nat renaming le_refl → bM4, le_trans → bN5, lt_or_ge → bO5, zero_add → bO8
open Option renaming isSome_iff_exists → bP0, map_eq_some_iff → bL6
open True renaming intro → bM6

namespace Go.Proofs.Ytgmhmijcnlfmfaa
open Go Go.RowKit
def pf {β : Type} (wr : Ac → Option β) : List Ac → Nat → (Nat → Bool) → β → β
 | [], _, _, v => v
 | a :: r, k, B, v => pf wr r (k + 1) B (match wr a with | some x => if B k then x else v | none => v)
theorem H7 {β : Type} {wr : Ac → Option β} {B B' : Nat → Bool} : ∀ {az : List Ac} {k : Nat} {v : β}, (∀ j a, az[j]? = some a → (wr a).isSome = true → B (k + j) = B' (k + j)) → pf wr az k B v = pf wr az k B' v
 | [], _, _, _ => rfl
 | a :: r, k, v, h => by
  simp only [pf]
  have h0 := h 0 a rfl
  have hr : ∀ j b, r[j]? = some b → (wr b).isSome = true → B (k + 1 + j) = B' (k + 1 + j) := fun j b hb hw => by
   have := h (j + 1) b (by simpa using hb) hw
   rw [show k + (j + 1) = k + 1 + j by omega] at this; exact this
  cases hw : wr a with
  | none => exact H7 hr
  | some x =>
   rw [hw] at h0
   simp only [Nat.add_zero, Option.isSome_some, forall_const] at h0
   rw [h0]
   exact H7 hr
theorem N7 {β : Type} {wr : Ac → Option β} {B : Nat → Bool} : ∀ {az : List Ac} {k : Nat} {v : β}, (∀ j a, az[j]? = some a → (wr a).isSome = true → B (k + j) = false) → pf wr az k B v = v
 | [], _, _, _ => rfl
 | a :: r, k, v, h => by
  simp only [pf]
  have h0 := h 0 a rfl
  have hr : ∀ j b, r[j]? = some b → (wr b).isSome = true → B (k + 1 + j) = false := fun j b hb hw => by
   have := h (j + 1) b (by simpa using hb) hw
   rw [show k + (j + 1) = k + 1 + j by omega] at this; exact this
  rw [N7 hr]
  cases hw : wr a with
  | none => rfl
  | some x =>
   rw [hw] at h0
   simp only [Nat.add_zero, Option.isSome_some, forall_const] at h0
   simp [h0]
theorem aD3 {β : Type} {wr : Ac → Option β} {B : Nat → Bool} : ∀ {az : List Ac} {k i : Nat} {v x : β} {a : Ac}, az[i]? = some a → wr a = some x → B (k + i) = true → (∀ j b, i < j → az[j]? = some b → (wr b).isSome = true → B (k + j) = false) → pf wr az k B v = x
 | [], _, _, _, _, _, h, _, _, _ => by simp at h
 | b :: r, k, 0, v, x, a, h, hw, hB, hn => by
  simp at h; subst h
  simp only [pf, hw]
  rw [Nat.add_zero] at hB
  rw [hB, if_pos rfl]
  refine N7 fun j c hc hs => ?_
  have := hn (j + 1) c (by omega) (by simpa using hc) hs
  rw [show k + (j + 1) = k + 1 + j by omega] at this; exact this
 | b :: r, k, i + 1, v, x, a, h, hw, hB, hn => by
  simp only [pf]
  refine aD3 (i := i) (by simpa using h) hw (by rw [show k + 1 + i = k + (i + 1) by omega]; exact hB) fun j c hj hc hs => ?_
  have := hn (j + 1) c (by omega) (by simpa using hc) hs
  rw [show k + (j + 1) = k + 1 + j by omega] at this; exact this
theorem af1 {β : Type} {wr : Ac → Option β} {B : Nat → Bool} (p : β → Prop) : ∀ {az : List Ac} {k : Nat} {v : β}, p v → (∀ j a x, az[j]? = some a → B (k + j) = true → wr a = some x → p x) → p (pf wr az k B v)
 | [], _, _, h, _ => h
 | a :: r, k, v, h, hs => by
  simp only [pf]
  refine af1 p ?_ fun j b x hb hB hw => hs (j + 1) b x (by simpa using hb) (by rw [show k + (j + 1) = k + 1 + j by omega]; exact hB) hw
  cases hw : wr a with
  | none => exact h
  | some x =>
   simp only
   split
   ·rename_i hB; exact hs 0 a x rfl (by simpa using hB) hw
   ·exact h
def at9 : List (Nat × It) → Nat → Option It
 | [], _ => none
 | (k, x) :: r, i => if i = k then some x else at9 r i
theorem ah6 (S : Nat → It) (i : Nat) : ∀ (l : List (Nat × It)), i7 S l i = match at9 l i with | some x => x | none => S i
 | [] => rfl
 | (k, x) :: r => by simp only [i7, at9]; split; rfl; exact ah6 S i r
theorem G5 {l : List (Nat × It)} {i : Nat} {x : It} (h : at9 l i = some x) : (i, x) ∈ l := by
 induction l with
 | nil => cases h
 | cons p r ih =>
  obtain ⟨k, y⟩ := p
  simp only [at9] at h
  split at h
  ·rename_i e; cases h; rw [e]; exact bM7
  ·exact bN4 _ (ih h)
def wrT (t : Nat) (a : Ac) : Option (Option AV) := if a.dst = some t then some (some a.t.res) else none
def wrS (i : Nat) (a : Ac) : Option It := at9 a.t.new i
def tmD (az : List Ac) (B : Nat → Bool) (tm : Nat → Option AV) : Nat → Option AV := fun t => pf (wrT t) az 0 B (tm t)
def sD (az : List Ac) (B : Nat → Bool) (S : Nat → It) : Nat → It := fun i => pf (wrS i) az 0 B (S i)
def bef (ms : List Nat) (j i : Nat) : Bool := (nth ms i).testBit j
def aS3 (ms : List Nat) (o : Oper) : Nat := o.after.foldl (fun s e => if Region.binds .any e then s ||| (2 ^ e.on ||| nth ms e.on) else s) 0
def aD8 (ms : List Nat) (l : List Oper) : Bool := (bM9 l.length).all fun i => match l[i]? with | some o => natEq (nth ms i) (aS3 ms o) | none => false
def U1 (a b : Ac) : Bool :=
 (match b.dst with | some t => memN t a.rt || (match a.dst with | some s => natEq s t | none => false) | none => false) ||
 b.t.new.any (fun p => memN p.1 a.ri || a.t.new.any fun q => natEq q.1 p.1)
def bs6 (ms : List Nat) (az : List Ac) : Bool :=
 (bM9 az.length).all fun i => (bM9 az.length).all fun j =>
  match az[i]?, az[j]? with
  | some a, some b => natEq i j || !U1 a b || (if decide (j < i) then bef ms j i else bef ms i j)
  | _, _ => false
def bk8 (S : Nat → It) (az : List Ac) (j : Nat) : Nat := match az.findSome? (wrS j) with
 | some x => knd x
 | none => knd (S j)
def a72 (ms : List Nat) (S : Nat → It) (az : List Ac) : Bool :=
 (bM9 az.length).all fun i =>
  match az[i]? with
  | some a => a.rk.all fun j => az.all (fun b => match wrS j b with | some x => natEq (knd x) (bk8 S az j) | none => true) && (natEq (knd (S j)) (bk8 S az j) || (bM9 i).any fun k => bef ms k i && match az[k]? with | some b => (wrS j b).isSome | none => false)
  | none => true
theorem aY0 {β : Type} {wr : Ac → Option β} {B : Nat → Bool} (p : β → Prop) : ∀ {az : List Ac} {k : Nat} {v : β}, (∀ (j : Nat) (a : Ac) (x : β), az[j]? = some a → wr a = some x → p x) → (p v ∨ ∃ (j : Nat) (a : Ac), az[j]? = some a ∧ (wr a).isSome = true ∧ B (k + j) = true) → p (pf wr az k B v)
 | [], _, _, _, h => by rcases h with h | ⟨j, a, h, _⟩; exact h; simp at h
 | a :: r, k, v, hs, h => by
  simp only [pf]
  refine aY0 p (fun j b x hb => hs (j + 1) b x (by simpa using hb)) ?_
  rcases h with h | ⟨j, b, h1, h2, h3⟩
  ·left
   cases hw : wr a with
   | none => exact h
   | some x =>
    simp only
    split
    ·exact hs 0 a x rfl hw
    ·exact h
  ·cases j with
   | zero =>
    left
    simp at h1; subst h1
    obtain ⟨x, hx⟩ := bP0.1 h2
    rw [hx]
    rw [Nat.add_zero] at h3
    simp only [h3, if_true]
    exact hs 0 _ x rfl hx
   | succ j =>
    right
    exact ⟨j, b, by simpa using h1, h2, by rw [show k + 1 + j = k + (j + 1) by omega]; exact h3⟩
theorem aW5 {ms : List Nat} {S : Nat → It} {az : List Ac} (h : a72 ms S az = true) {i : Nat} {a : Ac} (ha : az[i]? = some a) {j : Nat} (hj : j ∈ a.rk) {B : Nat → Bool} (hB : ∀ k, k < i → bef ms k i = true → B k = true) : knd (pf (wrS j) az 0 B (S j)) = bk8 S az j := by
 have hi := (bM0.1 ha).1
 have h1 := bL7.1 h i (List.mem_range.2 hi)
 rw [ha] at h1
 have h2 := bL7.1 h1 j hj
 simp only [bL3, Bool.or_eq_true] at h2
 refine aY0 (fun x => knd x = bk8 S az j) (fun q b x hb hx => ?_) ?_
 ·have := bL7.1 h2.1 b (bN3 hb)
  rw [hx] at this
  simpa [natEq] using this
 ·rcases h2.2 with h3 | h3
  ·left; simpa [natEq] using h3
  ·right
   obtain ⟨k, hk, h4⟩ := List.any_eq_true.1 h3
   rw [List.mem_range] at hk
   simp only [bL3] at h4
   cases hb : az[k]? with
   | none => rw [hb] at h4; cases h4.2
   | some b =>
    rw [hb] at h4
    exact ⟨k, b, hb, h4.2, by rw [bO8]; exact hB k hk h4.1⟩
def bb7 (ms : List Nat) (n0 : Nat) (az : List Ac) : Bool :=
 (bM9 az.length).all fun i =>
  match az[i]? with
  | some a => (a.t.res.ids ++ a.t.new.map (·.1) ++ a.t.new.flatMap (fun p => p.2.ids)).all fun id => decide (id < n0) || natEq ((id - n0) / 8) i || bef ms ((id - n0) / 8) i
  | none => false
section
variable {P : Program} {ι : Type} {φ ψ : Nat → Prop} {w0 w w' : World} {F : ι → Rs} {ρ : Nat → Value} {S : Nat → It} {N n : Nat}
theorem ad2 {α β : Type} {f g : α → Option β} : ∀ {l : List α}, (∀ x ∈ l, f x = g x) → l.filterMap f = l.filterMap g
 | [], _ => rfl
 | a :: r, h => by rw [List.filterMap_cons, List.filterMap_cons, h a bM7, ad2 fun x hx => h x (bN4 _ hx)]
theorem ak7 {ops : List Oper} {H : G7} {tm tm' : Nat → Option AV} {i : Nat} {o : Oper} (h : ∀ t ∈ aE7 ops o, tm' t = tm t) : ap4 ops H tm' i o = ap4 ops H tm i o := by
 unfold ap4
 unfold aE7 at h
 cases hg : o.guard with
 | none => rfl
 | some q =>
  obtain ⟨j, want⟩ := q
  rw [hg] at h
  simp only at h ⊢
  cases hd : (ops[j]?).bind (·.dst) with
  | none => rfl
  | some t =>
   rw [hd] at h
   simp only at h ⊢
   rw [h t (by simp)]
theorem a29 {dk : TypeId → Nat} {H : G7} {ops : List Oper} {i : Nat} {o : Oper} {tm tm' : Nat → Option AV} {S S' : Nat → It} {ac : Ac} {ob : List Prop} (h : opA P dk N ops H i o tm S n = some (ac, ob)) (ht : ∀ t ∈ ac.rt, tm' t = tm t) (hs : ∀ j ∈ ac.ri, S' j = S j) (hk : ∀ j ∈ ac.rk, knd (S' j) = knd (S j)) : opA P dk N ops H i o tm' S' n = some (ac, ob) := by
 unfold opA at h ⊢
 split at h
 case isFalse => cases h
 rename_i hd
 rw [if_pos hd]
 cases hw : ap4 ops H tm i o with
 | none => rw [hw] at h; cases h
 | some q =>
  obtain ⟨b, lq, rq⟩ := q
  rw [hw] at h
  cases b
  ·simp only at h
   cases h
   rw [ak7 (tm := tm) ht, hw]
  ·simp only at h
   cases hr : ar2 P dk H tm S n i o.op with
   | none => rw [hr] at h; cases h
   | some t =>
    rw [hr] at h
    simp only at h
    split at h
    case isFalse => cases h
    rename_i hf
    cases h
    simp only at ht hs hk
    rw [ak7 (tm := tm) fun t ht' => ht t (List.mem_append_right _ ht'), hw]
    have e1 : rtm tm' (opT o.op) = rtm tm (opT o.op) := by
     funext t
     unfold rtm
     split
     ·rename_i hm; exact ht t (List.mem_append_left _ (k6.1 hm))
     ·rfl
    have e2 : tch tm' o.op = tch tm o.op := by
     have e9 : J3 tm' (opT o.op) = J3 tm (opT o.op) := by
      unfold J3
      congr 1
      exact ad2 fun t ht' => ht t (List.mem_append_left _ ht')
     cases ho' : o.op <;> simp only [tch] <;> rw [← ho'] <;> first | rw [e1, e9] | exact e9
    have e8 : wk tm' o.op = wk tm o.op := by
     have e9 : J3 tm' (opT o.op) = J3 tm (opT o.op) := by
      unfold J3
      congr 1
      exact ad2 fun t ht' => ht t (List.mem_append_left _ ht')
     cases ho' : o.op <;> simp only [wk] <;> rw [← ho', e1, e9]
    have e3 : ar2 P dk H tm' S' n i o.op = ar2 P dk H tm S n i o.op := by
     unfold ar2
     cases hc : C5 H.calls i with
     | none =>
      simp only
      rw [e1, e2, e8, a81 (fun j hj => hs j (List.mem_append_left _ hj)) hk]
     | some q =>
      obtain ⟨c, τ⟩ := q
      simp only
      rw [e1, e2]
      congr 1
      funext j
      unfold rS
      split
      ·rename_i hm
       refine hs j ?_
       unfold a07
       rw [hc]; exact k6.1 hm
      ·rfl
    have e4 : aR7 H tm' S' n i o.op = aR7 H tm S n i o.op := by
     unfold aR7
     cases hc : C5 H.calls i with
     | none => simp only; rw [e1]
     | some q =>
      obtain ⟨c, τ⟩ := q
      simp only
      rw [e1, e2]
      congr 1
      funext j
      unfold rS
      split
      ·rename_i hm
       refine hs j ?_
       unfold a07
       rw [hc]; exact k6.1 hm
      ·rfl
    rw [e3, hr, e4]
    simp only
    rw [e2, e8, if_pos hf]
theorem bj8 {dk : TypeId → Nat} {H : G7} (hH : ∀ i c τ, C5 H.calls i = some (c, τ) → c.ok P) (hF : F3 H.facts) {ops : List Oper} {i : Nat} {o : Oper} {tm : Nat → Option AV} {a : Act} (hv : ∀ t x, tm t = some x → a.tmps[t]? = some (x.val ρ)) (M : f7 φ ψ w0 w (j0 F ρ S)) {ac : Ac} {obs : List Prop} (h : opA P dk N ops H i o tm S n = some (ac, obs)) (ho : m5 obs) (he : ac.eqs.1 = ac.eqs.2) (hw' : ac.eqw.1 = ac.eqw.2)
  (hmk : ∀ j ∈ ac.t.made, S j = .none) (hi : Inv S ρ ac.t.made)
  {Q : Exit → Act → World → Prop} {rest : List Oper} (hk : ∀ ρ' w', t4 ac.t.made ρ ρ' → f7 φ ψ w0 w' (j0 F ρ' (i7 S ac.t.new)) → wpList P ops.toArray Q rest (a.put o.dst (ac.t.res.val ρ')) w') : wpList P ops.toArray Q (o :: rest) a w := by
 unfold opA at h
 split at h
 case isFalse => cases h
 rename_i hd
 split at h
 case h_1 => cases h
 ·rename_i l r hw
  cases h
  refine aX4 (ae1 (ρ := ρ) hF hw hw' fun t y _ hy => hv t y hy) ?_
  exact hk ρ w (t4.refl _ _) (by simpa [bt5, i7] using M)
 ·rename_i l r hw
  split at h
  case h_1 => cases h
  rename_i t ht
  split at h
  case isFalse => cases h
  rename_i hf
  cases h
  simp only [bL3] at hf
  refine C3.wp (ae1 (ρ := ρ) hF hw hw' fun t y _ hy => hv t y hy) ?_
  refine (aJ8 M hH hF (fun t y _ hy => hv t y hy) ht ho he hmk hi (fun j hj => ?_)).mono ?_
  ·obtain ⟨p, hp, rfl⟩ := List.mem_map.1 hj
   have := bL7.1 hf.2 p hp
   simp only [Bool.or_eq_true] at this
   exact this.imp k6.1 k6.1
  ·rintro v w' ⟨ρ', p1, p2, rfl⟩
   exact hk ρ' w' p1 p2
theorem aX8 {dk : TypeId → Nat} {H : G7} {ops : List Oper} : ∀ (l : List Oper) (i n : Nat) {tm : List (Nat × AV)} {S : Nat → It} {r : RS}, K1 P dk N ops H l i tm S n = some r → m5 r.obs →
  r.acts.length = l.length ∧ (∀ t, r6 r.tm t = pf (wrT t) r.acts i (fun _ => true) (r6 tm t)) ∧ (∀ j, r.S j = pf (wrS j) r.acts i (fun _ => true) (S j)) ∧
  ∀ k o, l[k]? = some o → ∃ ac ob, r.acts[k]? = some ac ∧ m5 ob ∧ opA P dk N ops H (i + k) o (fun t => pf (wrT t) r.acts i (fun j => decide (j < i + k)) (r6 tm t)) (fun j => pf (wrS j) r.acts i (fun q => decide (q < i + k)) (S j)) (n + 8 * k) = some (ac, ob)
 | [], i, n, tm, S, r, h, _ => by cases h; exact ⟨rfl, fun _ => rfl, fun _ => rfl, fun k o h => by simp at h⟩
 | o :: l, i, n, tm, S, r, h, ho => by
  simp only [K1] at h
  split at h
  case h_1 => cases h
  rename_i ac ob h1
  split at h
  case h_1 => cases h
  rename_i s h2
  cases h
  simp only [m5.append] at ho
  obtain ⟨k1, k2, k3, k4⟩ := aX8 l (i + 1) (n + 8) h2 ho.2
  have eT : ∀ t, r6 (aR2 ac.dst ac.t.res tm) t = match wrT t ac with | some x => x | none => r6 tm t := fun t => by
   rw [ay5]
   simp only [av7, wrT]
   split <;> rfl
  have eS : ∀ j, i7 S ac.t.new j = match wrS j ac with | some x => x | none => S j := fun j => ah6 S j _
  refine ⟨by simp [k1], fun t => ?_, fun j => ?_, fun k o' hk => ?_⟩
  ·rw [k2 t, eT]; simp only [pf]; cases wrT t ac <;> rfl
  ·rw [k3 j, eS]; simp only [pf]; cases wrS j ac <;> rfl
  ·cases k with
   | zero =>
    simp at hk; subst hk
    refine ⟨ac, ob, rfl, ho.1, ?_⟩
    have e1 : (fun t => pf (wrT t) (ac :: s.acts) i (fun j => decide (j < i + 0)) (r6 tm t)) = r6 tm := by
     funext t; exact N7 fun j a _ _ => by simp
    have e2 : (fun j => pf (wrS j) (ac :: s.acts) i (fun q => decide (q < i + 0)) (S j)) = S := by
     funext j; exact N7 fun j a _ _ => by simp
    rw [e1, e2]; exact h1
   | succ k =>
    obtain ⟨ac', ob', m1, m2, m3⟩ := k4 k o' (by simpa using hk)
    refine ⟨ac', ob', by simpa using m1, m2, ?_⟩
    have hi : decide (i < i + (k + 1)) = true := by simp
    have e1 : (fun t => pf (wrT t) (ac :: s.acts) i (fun j => decide (j < i + (k + 1))) (r6 tm t)) = fun t => pf (wrT t) s.acts (i + 1) (fun j => decide (j < i + 1 + k)) (r6 (aR2 ac.dst ac.t.res tm) t) := by
     funext t
     rw [eT]
     simp only [pf, hi, if_true]
     rw [show i + (k + 1) = i + 1 + k by omega]
     cases wrT t ac <;> rfl
    have e2 : (fun j => pf (wrS j) (ac :: s.acts) i (fun q => decide (q < i + (k + 1))) (S j)) = fun j => pf (wrS j) s.acts (i + 1) (fun q => decide (q < i + 1 + k)) (i7 S ac.t.new j) := by
     funext j
     rw [eS]
     simp only [pf, hi, if_true]
     rw [show i + (k + 1) = i + 1 + k by omega]
     cases wrS j ac <;> rfl
    rw [e1, e2, show i + (k + 1) = i + 1 + k by omega, show n + 8 * (k + 1) = n + 8 + 8 * k by omega]
    exact m3
def bh0 (l : List Oper) (B : Nat → Bool) : Prop := ∀ j o, l[j]? = some o → B j = true → ∀ e ∈ o.after, Region.binds .any e = true → B e.on = true
theorem ar6 {ms : List Nat} {o : Oper} {j : Nat} (h : (aS3 ms o).testBit j = true) : ∃ e ∈ o.after, Region.binds .any e = true ∧ (e.on = j ∨ bef ms j e.on = true) := by
 unfold aS3 at h
 rw [← Array.foldl_toList] at h
 have key : ∀ (es : List Edge) (s : Nat), (es.foldl (fun s e => if Region.binds .any e then s ||| (2 ^ e.on ||| nth ms e.on) else s) s).testBit j = true → s.testBit j = true ∨ ∃ e ∈ es, Region.binds .any e = true ∧ (e.on = j ∨ bef ms j e.on = true) := by
  intro es
  induction es with
  | nil => intro s h; exact .inl h
  | cons e r ih =>
   intro s h
   simp only [List.foldl_cons] at h
   rcases ih _ h with h1 | ⟨e', he', h2⟩
   ·split at h1
    ·rename_i hb
     simp only [Nat.testBit_or, Bool.or_eq_true, Nat.testBit_two_pow, decide_eq_true_eq] at h1
     rcases h1 with h1 | h1 | h1
     ·exact .inl h1
     ·exact .inr ⟨e, bM7, hb, .inl h1⟩
     ·exact .inr ⟨e, bM7, hb, .inr h1⟩
    ·exact .inl h1
   ·exact .inr ⟨e', bN4 _ he', h2⟩
 rcases key _ _ h with h1 | ⟨e, he, h2⟩
 ·simp at h1
 ·exact ⟨e, by simpa using he, h2⟩
theorem av0 {ms : List Nat} {l : List Oper} (hm : aD8 ms l = true) (hb : X5 l.toArray = true) {B : Nat → Bool} (hc : bh0 l B) : ∀ i, i < l.length → B i = true → ∀ j, bef ms j i = true → B j = true := by
 intro i
 induction i using Nat.strongRecOn with
 | _ i ih =>
  intro hi hB j hj
  have h1 := bL7.1 hm i (List.mem_range.2 hi)
  rw [bL5 hi] at h1
  simp only [natEq, beq_iff_eq] at h1
  unfold bef at hj
  rw [h1] at hj
  obtain ⟨e, he, h2, h3⟩ := ar6 hj
  have h4 := hc i _ (bL5 hi) hB e he h2
  have h5 := av1 hb (show i < l.toArray.size by simpa using hi) (show l.toArray[i]? = some l[i] by simp [hi]) he h2
  rcases h3 with rfl | h3
  ·exact h4
  ·exact ih e.on h5 (by omega) h4 j h3
theorem a60 {ms : List Nat} {l : List Oper} (hm : aD8 ms l = true) (hb : X5 l.toArray = true) {B : Nat → Bool} (hc : bh0 l B) {i : Nat} {o : Oper} (ho : l[i]? = some o) (hr : ∀ e ∈ o.after, Region.binds .any e = true → B e.on = true) {j : Nat} (hj : bef ms j i = true) : B j = true := by
 have hi := (bM0.1 ho).1
 have h1 := bL7.1 hm i (List.mem_range.2 hi)
 rw [ho] at h1
 simp only [natEq, beq_iff_eq] at h1
 unfold bef at hj
 rw [h1] at hj
 obtain ⟨e, he, h2, h3⟩ := ar6 hj
 have h5 := av1 hb (show i < l.toArray.size by simpa using hi) (show l.toArray[i]? = some o by simpa using ho) he h2
 rcases h3 with rfl | h3
 ·exact hr e he h2
 ·exact av0 hm hb hc e.on (by omega) (hr e he h2) j h3
end
section
variable {P : Program} {ι : Type} {φ ψ : Nat → Prop} {w0 w w' : World} {F : ι → Rs} {ρ : Nat → Value} {S : Nat → It} {N m n : Nat} {ρ0 : Nat → Value}
theorem aP3 {l : List Oper} {Q : Exit → Act → World → Prop} (I : Array Bool → Act → World → Prop) (hb : X5 l.toArray = true)
  (step : ∀ listed a w, I listed a w → ∀ i o, l[i]? = some o → listed.getD i true = false → (∀ e ∈ o.after, Region.binds .any e = true → listed.getD e.on false = true) →
   ∀ Q' : Exit → Act → World → Prop, (∀ a w, I (listed.setIfInBounds i true) a w → Q' .normal a w) → wpList P l.toArray Q' [o] a w)
  (done : ∀ listed a w, I listed a w → (∀ j, j < l.length → listed.getD j true = true) → Q .normal a w) :
  ∀ (fuel : Nat) (listed : Array Bool) (a : Act) (w : World), listed.size = l.toArray.size → listed.toList.count false = fuel → I listed a w → wpAny P .any l.toArray Q fuel listed a w := by
 have hfin : ∀ (listed : Array Bool) (a : Act) (w : World), listed.size = l.toArray.size → Region.ready .any l.toArray listed = [] → I listed a w → Q .normal a w := by
  intro listed a w hsz hr hI
  refine done listed a w hI fun j hj => ?_
  cases hl : listed.getD j true
  ·exact absurd hr (aH9 hb hsz j (by simpa using hj) hl)
  ·rfl
 intro fuel
 induction fuel with
 | zero =>
  intro listed a w hsz hc hI
  have hr : Region.ready .any l.toArray listed = [] := by
   rw [List.eq_nil_iff_forall_not_mem]
   intro j hj
   have := ag4 (mem_ready.1 hj).1
   omega
  exact ⟨hr, hfin listed a w hsz hr hI⟩
 | succ f ih =>
  intro listed a w hsz hc hI
  refine ⟨fun hr => hfin listed a w hsz hr hI, fun i hi => ?_⟩
  obtain ⟨h1, o, ho, h2⟩ := mem_ready.1 hi
  have ho' : l[i]? = some o := by simpa using ho
  have hcl := ag4 h1
  have hs := step listed a w hI i o ho' h1 h2 (fun e a w => e = .normal ∧ I (listed.setIfInBounds i true) a w) fun a w h => ⟨rfl, h⟩
  unfold wpOp
  rw [ho]
  simp only
  unfold wpList at hs
  split
  ·rename_i hw
   rw [if_pos hw] at hs
   rcases hs with hs | ⟨_, a, w, he, _⟩
   ·exact .inl (a16 (fun _ _ _ h => h.1) (Oper.wp_mono (fun a' w' h => ih _ a' w' (by simpa using hsz) (by omega) h.2) hs))
   ·cases he
  ·rename_i hw
   rw [if_neg hw] at hs
   exact ih _ _ _ (by simpa using hsz) (by omega) hs.2
theorem ap3 {id : Nat} {l : List Oper} {Q : Exit → Act → World → Prop} {a : Act} {w : World} (I : Array Bool → Act → World → Prop) (hm : P.follows .mixedOrders = true) (hb : X5 l.toArray = true)
  (h0 : I (Array.replicate l.length false) a w.drew)
  (step : ∀ listed a w, I listed a w → ∀ i o, l[i]? = some o → listed.getD i true = false → (∀ e ∈ o.after, Region.binds .any e = true → listed.getD e.on false = true) →
   ∀ Q' : Exit → Act → World → Prop, (∀ a w, I (listed.setIfInBounds i true) a w → Q' .normal a w) → wpList P l.toArray Q' [o] a w)
  (done : ∀ listed a w, I listed a w → (∀ j, j < l.length → listed.getD j true = true) → Q .normal a w) : (Code.region id l.toArray true).wp P Q a w :=
 wp_region_any hm (aP3 I hb step done _ _ _ _ (by simp) (by simp) (by simpa using h0))
def RI (φ ψ : Nat → Prop) (w0 : World) (F : ι → Rs) (N m : Nat) (ρ0 : Nat → Value) (l : List Oper) (az : List Ac) (tm : Nat → Option AV) (S : Nat → It) (listed : Array Bool) (a : Act) (w : World) : Prop :=
 listed.size = l.length ∧ bh0 l (fun j => listed.getD j false) ∧ ∃ ρ, (∀ i, i < m → ρ i = ρ0 i) ∧ a.tmps.size = N ∧ a.defers = [] ∧ (∀ t x, tmD az (fun j => listed.getD j false) tm t = some x → a.tmps[t]? = some (x.val ρ)) ∧ f7 φ ψ w0 w (j0 F ρ (sD az (fun j => listed.getD j false) S))
theorem aR6 {ms : List Nat} {az : List Ac} (h : bs6 ms az = true) {i j : Nat} {a b : Ac} (ha : az[i]? = some a) (hb : az[j]? = some b) (hij : i ≠ j) (hm : U1 a b = true) : (j < i → bef ms j i = true) ∧ (i < j → bef ms i j = true) := by
 have hi := (bM0.1 ha).1
 have hj := (bM0.1 hb).1
 have h1 := bL7.1 (bL7.1 h i (List.mem_range.2 hi)) j (List.mem_range.2 hj)
 rw [ha, hb] at h1
 have hne : natEq i j = false := by simp [natEq, hij]
 simp only [hne, hm, Bool.not_true, Bool.false_or] at h1
 constructor
 ·intro hlt; rw [if_pos (by simpa using hlt)] at h1; exact h1
 ·intro hlt; rw [if_neg (by simp; omega)] at h1; exact h1
theorem aY7 {ms : List Nat} {n0 : Nat} {az : List Ac} (h : bb7 ms n0 az = true) {i : Nat} {a : Ac} (ha : az[i]? = some a) : ∀ id, (id ∈ a.t.res.ids ∨ id ∈ a.t.new.map (·.1) ∨ ∃ p ∈ a.t.new, id ∈ p.2.ids) → id < n0 ∨ (id - n0) / 8 = i ∨ bef ms ((id - n0) / 8) i = true := by
 intro id hid
 have hi := (bM0.1 ha).1
 have h1 := bL7.1 h i (List.mem_range.2 hi)
 rw [ha] at h1
 have h2 := bL7.1 h1 id (by
  rcases hid with h | h | ⟨p, hp, h⟩
  ·exact List.mem_append_left _ (List.mem_append_left _ h)
  ·exact List.mem_append_left _ (List.mem_append_right _ h)
  ·exact List.mem_append_right _ (List.mem_flatMap.2 ⟨p, hp, h⟩))
 simp only [Bool.or_eq_true, decide_eq_true_eq, natEq, beq_iff_eq] at h2
 rcases h2 with (h2 | h2) | h2
 ·exact .inl h2
 ·exact .inr (.inl h2)
 ·exact .inr (.inr h2)
theorem aB5 {dk : TypeId → Nat} {H : G7} (hH : ∀ i c τ, C5 H.calls i = some (c, τ) → c.ok P) (hF : F3 H.facts) {l : List Oper} {id : Nat} {Q : Exit → Act → World → Prop} {tm : List (Nat × AV)} {a : Act} {wr : World} (I0 : Inn φ ψ w0 F N m ρ0 n ρ (r6 tm) S a wr) {r : RS} (hrun : K1 P dk N l H l 0 tm S n = some r) (ho : m5 r.obs) (heq : r.acts.map (·.eqs.1) = r.acts.map (·.eqs.2)) (hew : r.acts.map (·.eqw.1) = r.acts.map (·.eqw.2))
  (ms : List Nat) (hm : P.follows .mixedOrders = true) (hb : X5 l.toArray = true) (hms : aD8 ms l = true) (hord : bs6 ms r.acts = true) (hment : bb7 ms n r.acts = true) (hweak : a72 ms S r.acts = true)
  (done : ∀ ρ' a' w' n', Inn φ ψ w0 F N m ρ0 n' ρ' (r6 r.tm) r.S a' w' → Q .normal a' w') : (Code.region id l.toArray true).wp P Q a wr := by
 obtain ⟨hlen, hfT, hfS, hat⟩ := aX8 l 0 n hrun ho
 have hmt : ∀ (i : Nat) ac, r.acts[i]? = some ac → ∀ t b, b.dst = some t → t ∈ ac.rt → U1 ac b = true := fun i ac _ t b hb ht => by
  simp [U1, hb, k6.2 ht]
 have hmd : ∀ ac b t, ac.dst = some t → b.dst = some t → U1 ac b = true := fun ac b t h1 h2 => by
  simp [U1, h1, h2, natEq]
 have hms' : ∀ (ac b : Ac) (j : Nat), j ∈ ac.ri → j ∈ b.t.new.map (·.1) → U1 ac b = true := fun ac b j h1 h2 => by
  obtain ⟨p, hp, rfl⟩ := List.mem_map.1 h2
  unfold U1
  have : b.t.new.any (fun p => memN p.1 ac.ri || ac.t.new.any fun q => natEq q.1 p.1) = true := List.any_eq_true.2 ⟨p, hp, by simp [k6.2 h1]⟩
  rw [this]; simp
 have hmn : ∀ (ac b : Ac) (j : Nat), j ∈ ac.t.new.map (·.1) → j ∈ b.t.new.map (·.1) → U1 ac b = true := fun ac b j h1 h2 => by
  obtain ⟨p, hp, rfl⟩ := List.mem_map.1 h2
  obtain ⟨q, hq, e⟩ := List.mem_map.1 h1
  unfold U1
  have : b.t.new.any (fun p => memN p.1 ac.ri || ac.t.new.any fun q => natEq q.1 p.1) = true := List.any_eq_true.2 ⟨p, hp, by
   have : ac.t.new.any (fun q => natEq q.1 p.1) = true := List.any_eq_true.2 ⟨q, hq, by simp [natEq, e]⟩
   rw [this]; simp⟩
  rw [this]; simp
 refine ap3 (RI φ ψ w0 F N m ρ0 l r.acts (r6 tm) S) hm hb ?_ ?_ ?_
 ·refine ⟨by simp, fun j o _ hj => ?_, ρ, I0.old, I0.size, I0.defs, fun t x hx => ?_, ?_⟩
  ·have hj' : (Array.replicate l.length false).getD j false = true := hj
   rw [getD_replicate_false] at hj'; cases hj'
  ·refine I0.tmv t x ?_
   rw [← hx]
   exact (N7 fun j b _ _ => getD_replicate_false _ _).symm
  ·have e : sD r.acts (fun j => (Array.replicate l.length false).getD j false) S = S := by
    funext j; exact N7 fun j b _ _ => getD_replicate_false _ _
   rw [e]; exact I0.mem.drew
 ·rintro listed a w ⟨hsz, hdn, ρ, hold, hN, hdf, hv, M⟩ i o hoi hun hdep Q' hQ
  generalize hB : (fun j => listed.getD j false) = B at *
  have hBj : ∀ j, B j = listed.getD j false := fun j => by rw [← hB]
  have hil := (bM0.1 hoi).1
  have hBi : B i = false := by
   rw [hBj, ← aZ9 (by omega)]; exact hun
  obtain ⟨ac, ob, hac, hob, hop⟩ := hat i o hoi
  simp only [bO8] at hop
  have heqi : ac.eqs.1 = ac.eqs.2 := by
   have := congrArg (·[i]?) heq
   simpa [hac] using this
  have hewi : ac.eqw.1 = ac.eqw.2 := by
   have := congrArg (·[i]?) hew
   simpa [hac] using this
  obtain ⟨hdst, hdN, hfine⟩ := aD5 hop
  obtain ⟨hf1, hf2, hf3⟩ := T3 hfine
  have hdep' : ∀ e ∈ o.after, Region.binds .any e = true → B e.on = true := fun e he hbi => by rw [hBj]; exact hdep e he hbi
  have ahead : ∀ j, bef ms j i = true → B j = true := fun j hj => a60 hms hb hdn hoi hdep' hj
  have behind : ∀ j, j < l.length → bef ms i j = true → B j = false := fun j hjl hj => by
   cases h : B j
   ·rfl
   ·have := av0 hms hb hdn j hjl h i hj
    rw [hBi] at this; cases this
  have hagree : ∀ (j : Nat) b, r.acts[j]? = some b → U1 ac b = true → B j = decide (j < i) := fun j b hj hmm => by
   have hjl : j < l.length := by have := (bM0.1 hj).1; omega
   rcases Nat.lt_trichotomy j i with h | h | h
   ·rw [ahead j ((aR6 hord hac hj (by omega) hmm).1 h)]; simp [h]
   ·subst h; rw [hBi]; simp
   ·rw [behind j hjl ((aR6 hord hac hj (by omega) hmm).2 h)]
    have : ¬ j < i := by omega
    simp [this]
  have hop2 := a29 hop (tm' := tmD r.acts B (r6 tm)) (S' := sD r.acts B S) (fun t ht => H7 fun j b hj hw => by
    rw [bO8]
    refine hagree j b hj (hmt i ac hac t b ?_ ht)
    unfold wrT at hw
    split at hw
    ·assumption
    ·cases hw)
   (fun q hq => H7 fun j b hj hw => by
    rw [bO8]
    obtain ⟨x, hx⟩ := bP0.1 hw
    exact hagree j b hj (hms' ac b q hq (List.mem_map.2 ⟨_, G5 hx, rfl⟩)))
   (fun q hq => by
    show knd (pf (wrS q) r.acts 0 B (S q)) = _
    rw [aW5 hweak hac hq fun k _ hk => ahead k hk, aW5 hweak hac hq fun k hk _ => by simpa using hk])
  have hrange : ∀ id, n + 8 * i ≤ id → id < n + 8 * i + 8 → (id - n) / 8 = i := fun id h1 h2 => by omega
  have hmk : ∀ j ∈ ac.t.made, sD r.acts B S j = .none := fun j hj => by
   obtain ⟨g1, g2⟩ := hf2 j hj
   have e : sD r.acts B S j = S j := N7 fun k b hk hw => by
    rw [bO8]
    obtain ⟨x, hx⟩ := bP0.1 hw
    have hkl : k < l.length := by have := (bM0.1 hk).1; omega
    rcases aY7 hment hk j (.inr (.inl (List.mem_map.2 ⟨_, G5 hx, rfl⟩))) with h | h | h
    ·omega
    ·rw [hrange j g1 g2] at h; subst h; exact hBi
    ·rw [hrange j g1 g2] at h; exact behind k hkl h
   rw [e]; exact (I0.bd j).2 (by omega)
  have hnot : ∀ (k : Nat) b, r.acts[k]? = some b → B k = true → ∀ id, (id ∈ b.t.res.ids ∨ id ∈ b.t.new.map (·.1) ∨ ∃ p ∈ b.t.new, id ∈ p.2.ids) → id ∉ ac.t.made := fun k b hk hBk id hid hm => by
   obtain ⟨g1, g2⟩ := hf2 id hm
   have hkl : k < l.length := by have := (bM0.1 hk).1; omega
   rcases aY7 hment hk id hid with h | h | h
   ·omega
   ·rw [hrange id g1 g2] at h; subst h; rw [hBi] at hBk; cases hBk
   ·rw [hrange id g1 g2] at h; rw [behind k hkl h] at hBk; cases hBk
  have hitem : ∀ j, ∀ id ∈ (sD r.acts B S j).ids, id ∉ ac.t.made := fun j => by
   refine af1 (fun x : It => ∀ id ∈ x.ids, id ∉ ac.t.made) (fun id hid hm => ?_) fun k b x hk hBk hw id hid => ?_
   ·have := (I0.bd j).1 id hid; have := (hf2 id hm).1; omega
   ·rw [bO8] at hBk
    exact hnot k b hk hBk id (.inr (.inr ⟨_, G5 hw, hid⟩))
  have htm : ∀ t x, tmD r.acts B (r6 tm) t = some x → ∀ id ∈ x.ids, id ∉ ac.t.made := fun t => by
   refine af1 (fun y : Option AV => ∀ x, y = some x → ∀ id ∈ x.ids, id ∉ ac.t.made) (fun x hx id hid hm => ?_) fun k b y hk hBk hw x hx id hid => ?_
   ·have := I0.tmi t x hx id hid; have := (hf2 id hm).1; omega
   ·rw [bO8] at hBk
    unfold wrT at hw
    split at hw
    ·cases hw; cases hx
     exact hnot k b hk hBk id (.inl hid)
    ·cases hw
  have hinv : Inv (sD r.acts B S) ρ ac.t.made := fun ρ' ha j => by
   refine It.res_congr _ (fun id hid => ha id (hitem j id hid)) ?_
   by_cases hj : j ∈ ac.t.made
   ·exact .inl (hmk j hj)
   ·exact .inr (.inr (ha j hj))
  refine bj8 hH hF hv M hop2 hob heqi hewi hmk hinv fun ρ' w' ha M' => ?_
  refine hQ _ _ ?_
  have hB' : ∀ j, (listed.setIfInBounds i true).getD j false = if j = i then true else B j := fun j => by
   by_cases e : j = i
   ·subst e
    have : j < listed.size := by omega
    simp [this]
   ·rw [if_neg e, getD_set_ne false (fun h => e h.symm), hBj]
  have hBe : (fun j => (listed.setIfInBounds i true).getD j false) = fun j => if j = i then true else B j := funext hB'
  have later : ∀ (j : Nat) b, i < j → r.acts[j]? = some b → U1 ac b = true → (if j = i then true else B j) = false := fun j b hij hj hmm => by
   have hjl : j < l.length := by have := (bM0.1 hj).1; omega
   rw [if_neg (by omega)]
   exact behind j hjl ((aR6 hord hac hj (by omega) hmm).2 hij)
  have eT : tmD r.acts (fun j => if j = i then true else B j) (r6 tm) = av7 ac.dst ac.t.res (tmD r.acts B (r6 tm)) := by
   funext t
   simp only [av7]
   by_cases e : ac.dst = some t
   ·rw [if_pos e]
    refine aD3 (i := i) hac (by simp [wrT, e]) (by simp) fun j b hij hj hw => ?_
    rw [bO8]
    refine later j b hij hj (hmd ac b t e ?_)
    unfold wrT at hw
    split at hw
    ·assumption
    ·cases hw
   ·rw [if_neg e]
    refine H7 fun j b hj hw => ?_
    have : j ≠ i := fun h => by
     subst h
     rw [hac] at hj; cases hj
     simp [wrT, e] at hw
    simp [this]
  have eS : sD r.acts (fun j => if j = i then true else B j) S = i7 (sD r.acts B S) ac.t.new := by
   funext q
   rw [ah6]
   cases hx : at9 ac.t.new q with
   | some x =>
    refine aD3 (i := i) hac hx (by simp) fun j b hij hj hw => ?_
    rw [bO8]
    obtain ⟨y, hy⟩ := bP0.1 hw
    exact later j b hij hj (hmn ac b q (List.mem_map.2 ⟨_, G5 hx, rfl⟩) (List.mem_map.2 ⟨_, G5 hy, rfl⟩))
   | none =>
    refine H7 fun j b hj hw => ?_
    have : j ≠ i := fun h => by
     subst h
     rw [hac] at hj; cases hj
     unfold wrS at hw
     rw [hx] at hw; cases hw
    simp [this]
  refine ⟨by simpa using hsz, ?_, ρ', fun j hj => (ha j fun hm => by have := (hf2 j hm).1; have := I0.le; omega).trans (hold j hj), (aJ3 _ _ _).trans hN, (aJ4 _ _ _).trans hdf, ?_, ?_⟩
  ·rw [hBe]
   intro j oj hj hBj' e he hbi
   show (if e.on = i then true else B e.on) = true
   by_cases e1 : e.on = i
   ·simp [e1]
   ·rw [if_neg e1]
    by_cases e2 : j = i
    ·subst e2
     rw [hoi] at hj; cases hj
     exact hdep' e he hbi
    ·simp only [if_neg e2] at hBj'
     exact hdn j oj hj hBj' e he hbi
  ·rw [hBe, eT, hdst]
   intro t x hx
   rw [ba3 (by rw [hN]; exact hdN)]
   simp only [av7] at hx
   split
   ·rename_i e; rw [if_pos e] at hx; cases hx; rfl
   ·rename_i e
    rw [if_neg e] at hx
    rw [hv t x hx, AV.val_congr x fun id hid => ha id (htm t x hx id hid)]
  ·rw [hBe, eS]; exact M'
 ·rintro listed a w ⟨hsz, hdn, ρ, hold, hN, hdf, hv, M⟩ hall
  have hall' : ∀ j, j < l.length → listed.getD j false = true := fun j hj => by rw [← aZ9 (by omega)]; exact hall j hj
  have eT : tmD r.acts (fun j => listed.getD j false) (r6 tm) = r6 r.tm := by
   funext t
   rw [hfT t]
   refine H7 fun j b hj _ => ?_
   rw [bO8]
   exact hall' j (by have := (bM0.1 hj).1; omega)
  have eS : sD r.acts (fun j => listed.getD j false) S = r.S := by
   funext q
   rw [hfS q]
   refine H7 fun j b hj _ => ?_
   rw [bO8]
   exact hall' j (by have := (bM0.1 hj).1; omega)
  have hids : ∀ (k : Nat) b, r.acts[k]? = some b → ∀ id, (id ∈ b.t.res.ids ∨ id ∈ b.t.new.map (·.1) ∨ ∃ p ∈ b.t.new, id ∈ p.2.ids) → id < n + 8 * l.length := fun k b hk id hid => by
   have hkl : k < l.length := by have := (bM0.1 hk).1; omega
   obtain ⟨o, ho'⟩ : ∃ o, l[k]? = some o := ⟨_, bL5 hkl⟩
   obtain ⟨ac, ob, hac, _, hop⟩ := hat k o ho'
   rw [hk] at hac; cases hac
   obtain ⟨_, _, hfine⟩ := aD5 hop
   obtain ⟨hf1, hf2, hf3⟩ := T3 hfine
   rcases hid with h | h | ⟨p, hp, h⟩
   ·have := hf3 id h; omega
   ·obtain ⟨p, hp, rfl⟩ := List.mem_map.1 h
    have := (hf1 p hp).1; omega
   ·have := (hf1 p hp).2 id h; omega
  refine done ρ a w (n + 8 * l.length) ⟨hN, hdf, by rw [← eT]; exact hv, fun t x hx => ?_, fun j => ?_, by rw [← eS]; exact M, by have := I0.le; omega, hold⟩
  ·rw [hfT t] at hx
   revert x
   refine af1 (fun y : Option AV => ∀ x, y = some x → ∀ id ∈ x.ids, id < n + 8 * l.length) (fun x hx id hid => ?_) fun k b y hk _ hw x hx id hid => ?_
   ·have := I0.tmi t x hx id hid; omega
   ·unfold wrT at hw
    split at hw
    ·cases hw; cases hx
     exact hids k b hk id (.inl hid)
    ·cases hw
  ·refine ⟨?_, fun hj => ?_⟩
   ·rw [hfS j]
    refine af1 (fun x : It => ∀ id ∈ x.ids, id < n + 8 * l.length) (fun id hid => ?_) fun k b x hk _ hw id hid => ?_
    ·have := (I0.bd j).1 id hid; omega
    ·exact hids k b hk id (.inr (.inr ⟨_, G5 hw, hid⟩))
   ·rw [hfS j, N7 fun k b hk hw => ?_]
    ·exact (I0.bd j).2 (by omega)
    ·obtain ⟨x, hx⟩ := bP0.1 hw
     have := hids k b hk j (.inr (.inl (List.mem_map.2 ⟨_, G5 hx, rfl⟩)))
     omega
end
def m8 {ι : Type} (φ ψ : Nat → Prop) (w0 : World) (F : ι → Rs) (N m : Nat) (ρ0 ρ : Nat → Value) (S : List It) (tm : List (Nat × AV)) (a : Act) (w : World) : Prop := Inn φ ψ w0 F N m ρ0 S.length ρ (r6 tm) (j6 S) a w
def wfB (S : List It) (tm : List (Nat × AV)) : Bool := S.all (fun x => H8 S.length x.ids) && tm.all (fun p => H8 S.length p.2.ids)
def bp4 (m : Nat) (js : List Nat) : Bool := (bM9 m).all fun i => natEq (nth js i) i && decide (i < js.length)
def W3 (m : Nat) (js : List Nat) (S : List It) (tm : List (Nat × AV)) : Bool := nodupB js && natEq js.length S.length && wfB S tm && bp4 m js
section
variable {P : Program} {ι : Type} {φ ψ : Nat → Prop} {w0 w w' : World} {F : ι → Rs} {ρ ρ0 : Nat → Value} {N m n : Nat} {S : List It} {tm : List (Nat × AV)} {a : Act} {Q : Exit → Act → World → Prop}
theorem ar9 : ∀ {tm : List (Nat × AV)} {t : Nat} {x : AV}, r6 tm t = some x → (t, x) ∈ tm
 | [], _, _, h => by cases h
 | (k, y) :: r, t, x, h => by
  simp only [r6, natEq, beq_iff_eq] at h
  split at h
  ·rename_i e; subst e; cases h; exact bM7
  ·exact bN4 _ (ar9 h)
theorem W9 {l : List It} {i : Nat} (h : i < l.length) : j6 l i = l[i] := by simp [j6, bL4, h]
theorem o0 {l : List It} {i : Nat} (h : l.length ≤ i) : j6 l i = .none := by simp [j6, bL4, h]
theorem bo2 {S : List It} {tm : List (Nat × AV)} (h : wfB S tm = true) : (∀ j, (∀ id ∈ (j6 S j).ids, id < S.length) ∧ (S.length ≤ j → j6 S j = .none)) ∧ ∀ t x, r6 tm t = some x → ∀ id ∈ x.ids, id < S.length := by
 simp only [wfB, bL3] at h
 refine ⟨fun j => ⟨fun id hid => ?_, fun hj => o0 hj⟩, fun t x hx id hid => ?_⟩
 ·rcases bO5 j S.length with hj | hj
  ·rw [W9 hj] at hid
   exact t0 (bL7.1 h.1 _ (bN6 hj)) id hid
  ·rw [o0 hj] at hid; cases hid
 ·exact t0 (bL7.1 h.2 _ (ar9 hx)) id hid
theorem Inn.sel {tf : Nat → Option AV} {Sf : Nat → It} (I : Inn φ ψ w0 F N m ρ0 n ρ tf Sf a w) (js : List Nat) (S1 : List It) (tm1 : List (Nat × AV)) (hb : W3 m js S1 tm1 = true) (hS : js.map Sf = S1.map (It.ren (nth js))) (ht : (tm1.map (·.1)).map tf = tm1.map fun p => some (p.2.ren (nth js))) :
  m8 φ ψ w0 F N m ρ0 (fun i => ρ (nth js i)) S1 tm1 a w := by
 simp only [W3, bL3, natEq, beq_iff_eq] at hb
 obtain ⟨⟨⟨hnd, hl⟩, hwf⟩, hkeep⟩ := hb
 have hn := ac7 hnd
 obtain ⟨b1, b2⟩ := bo2 hwf
 have hk : ∀ i, i < m → nth js i = i ∧ i < js.length := fun i hi => by
  have := bL7.1 hkeep i (List.mem_range.2 hi)
  simpa [natEq] using this
 refine ⟨I.size, I.defs, fun t x hx => ?_, b2, b1, ?_, ?_, fun i hi => ?_⟩
 ·obtain ⟨i, hi⟩ := List.mem_iff_getElem?.1 (ar9 hx)
  have h1 := congrArg (·[i]?) ht
  simp only [List.getElem?_map, hi, Option.map_some] at h1
  rw [I.tmv t _ (Option.some.inj h1), AV.val_ren]
 ·refine I.mem.map (fun k : ι ⊕ Nat => (match k with | .inl i => some (.inl i) | .inr i => if i < js.length then some (.inr (nth js i)) else none : Option (ι ⊕ Nat))) ?_ ?_
  ·intro k k' x h1 h2
   match k, k' with
   | .inl i, .inl i' => simp at h1 h2; rw [← h1] at h2; simpa using h2.symm
   | .inl i, .inr j => simp only at h1 h2; cases h1; split at h2 <;> simp at h2
   | .inr j, .inl i => simp only at h1 h2; cases h2; split at h1 <;> simp at h1
   | .inr j, .inr j' =>
    simp at h1 h2
    obtain ⟨f1, f2⟩ := h1
    obtain ⟨g1, g2⟩ := h2
    rw [← f2] at g2
    have hj := Sum.inr.inj g2
    have e1 := bL5 f1
    have e2 := bL5 g1
    rw [z3 e2, z3 e1] at hj
    have := (List.getElem?_inj f1 hn).1 (e1.trans (by rw [← hj]; exact e2.symm))
    rw [this]
  ·intro k
   match k with
   | .inl i => exact .inl ⟨_, rfl, rfl⟩
   | .inr i =>
    by_cases hlt : i < js.length
    ·refine .inl ⟨.inr (nth js i), by simp [hlt], ?_⟩
     have h1 := congrArg (·[i]?) hS
     have hlt' : i < S1.length := by omega
     simp only [List.getElem?_map, bL5 hlt, bL5 hlt', Option.map_some, Option.some.injEq] at h1
     simp only [j0]
     rw [W9 hlt', z3 (bL5 hlt), h1, ← It.res_ren, z3 (bL5 hlt)]
    ·refine .inr ?_
     simp only [j0]
     rw [o0 (by omega)]
     rfl
 ·rcases bO5 S1.length m with h | h
  ·have := (hk S1.length h).2; omega
  ·exact h
 ·rw [(hk i hi).1]; exact I.old i hi
def aJ7 (o : Option RS) (js ts : List Nat) : Option (List Prop × List It × List (Option AV) × List (List (List AV × List It)) × List (List AV)) := o.map fun r => (r.obs, js.map r.S, ts.map (r6 r.tm), r.acts.map (·.eqs.1), r.acts.map (·.eqw.1))
def aR5 (o : Option RS) (obs : List Prop) (js : List Nat) (S : List It) (tm : List (Nat × AV)) : Option (List Prop × List It × List (Option AV) × List (List (List AV × List It)) × List (List AV)) := o.map fun r => (obs, S.map (It.ren (nth js)), tm.map (fun p => some (p.2.ren (nth js))), r.acts.map (·.eqs.2), r.acts.map (·.eqw.2))
def a04 (l : List Oper) (ms : List Nat) (n : Nat) (S : Nat → It) (o : Option RS) : Bool := aD8 ms l && X5 l.toArray && match o with
 | some r => bs6 ms r.acts && bb7 ms n r.acts && a72 ms S r.acts
 | none => false
theorem bs2 {dk : TypeId → Nat} {l : List Oper} {id : Nat} (G : m8 φ ψ w0 F N m ρ0 ρ S tm a w) (H : G7) (hH : ∀ i c τ, C5 H.calls i = some (c, τ) → c.ok P) (hF : F3 H.facts) (js : List Nat) (S1 : List It) (tm1 : List (Nat × AV)) (obs : List Prop)
  (hs : ((K1 P dk N l H l 0 tm (j6 S) S.length).isSome && W3 m js S1 tm1) = true)
  (hc : aJ7 (K1 P dk N l H l 0 tm (j6 S) S.length) js (tm1.map (·.1)) = aR5 (K1 P dk N l H l 0 tm (j6 S) S.length) obs js S1 tm1)
  (ho : m5 obs) (k : ∀ ρ' a' w', m8 φ ψ w0 F N m ρ0 ρ' S1 tm1 a' w' → Q .normal a' w') : (Code.region id l.toArray false).wp P Q a w := by
 simp only [bL3] at hs
 obtain ⟨r, hr⟩ := bP0.1 hs.1
 rw [hr] at hc
 simp only [aJ7, aR5, Option.map_some, Option.some.injEq, Prod.mk.injEq] at hc
 obtain ⟨h1, h2, h3, h4, h5⟩ := hc
 refine wp_region_lit (aX7 hH hF l 0 S.length G hr (by rw [h1]; exact ho) h4 h5 fun ρ' a' w' n' I => ?_)
 exact k _ a' w' (I.sel js S1 tm1 hs.2 h2 h3)
theorem bj2 {dk : TypeId → Nat} {l : List Oper} {id : Nat} (G : m8 φ ψ w0 F N m ρ0 ρ S tm a w) (H : G7) (hH : ∀ i c τ, C5 H.calls i = some (c, τ) → c.ok P) (hF : F3 H.facts) (ms : List Nat) (js : List Nat) (S1 : List It) (tm1 : List (Nat × AV)) (obs : List Prop) (hm : P.follows .mixedOrders = true)
  (hs : (a04 l ms S.length (j6 S) (K1 P dk N l H l 0 tm (j6 S) S.length) && W3 m js S1 tm1) = true)
  (hc : aJ7 (K1 P dk N l H l 0 tm (j6 S) S.length) js (tm1.map (·.1)) = aR5 (K1 P dk N l H l 0 tm (j6 S) S.length) obs js S1 tm1)
  (ho : m5 obs) (k : ∀ ρ' a' w', m8 φ ψ w0 F N m ρ0 ρ' S1 tm1 a' w' → Q .normal a' w') : (Code.region id l.toArray true).wp P Q a w := by
 simp only [bL3, a04] at hs
 obtain ⟨⟨⟨q1, q2⟩, q3⟩, q4⟩ := hs
 cases hr : K1 P dk N l H l 0 tm (j6 S) S.length with
 | none => rw [hr] at q3; cases q3
 | some r =>
  rw [hr] at q3 hc
  simp only [bL3] at q3
  simp only [aJ7, aR5, Option.map_some, Option.some.injEq, Prod.mk.injEq] at hc
  obtain ⟨h1, h2, h3, h4, h5⟩ := hc
  refine aB5 hH hF G hr (by rw [h1]; exact ho) h4 h5 ms hm q2 q1 q3.1.1 q3.1.2 q3.2 fun ρ' a' w' n' I => ?_
  exact k _ a' w' (I.sel js S1 tm1 q4 h2 h3)
theorem rs1 {dk : TypeId → Nat} {l : List Oper} {id : Nat} (G : m8 φ ψ w0 F N m ρ0 ρ S tm a w) (H : G7) (hH : ∀ i c τ, C5 H.calls i = some (c, τ) → c.ok P) (hF : F3 H.facts) (js : List Nat) (S1 : List It) (tm1 : List (Nat × AV)) (obs : List Prop)
  (ho : m5 obs) (k : ∀ ρ' a' w', m8 φ ψ w0 F N m ρ0 ρ' S1 tm1 a' w' → Q .normal a' w')
  (hs : ((K1 P dk N l H l 0 tm (j6 S) S.length).isSome && W3 m js S1 tm1) = true := by kernel_rfl)
  (hc : aJ7 (K1 P dk N l H l 0 tm (j6 S) S.length) js (tm1.map (·.1)) = aR5 (K1 P dk N l H l 0 tm (j6 S) S.length) obs js S1 tm1 := by kernel_rfl) : (Code.region id l.toArray false).wp P Q a w := bs2 G H hH hF js S1 tm1 obs hs hc ho k
theorem rd1 {dk : TypeId → Nat} {l : List Oper} {id : Nat} (G : m8 φ ψ w0 F N m ρ0 ρ S tm a w) (H : G7) (hH : ∀ i c τ, C5 H.calls i = some (c, τ) → c.ok P) (hF : F3 H.facts) (ms : List Nat) (js : List Nat) (S1 : List It) (tm1 : List (Nat × AV)) (obs : List Prop)
  (ho : m5 obs) (k : ∀ ρ' a' w', m8 φ ψ w0 F N m ρ0 ρ' S1 tm1 a' w' → Q .normal a' w') (hm : P.follows .mixedOrders = true := by kernel_rfl)
  (hs : (a04 l ms S.length (j6 S) (K1 P dk N l H l 0 tm (j6 S) S.length) && W3 m js S1 tm1) = true := by kernel_rfl)
  (hc : aJ7 (K1 P dk N l H l 0 tm (j6 S) S.length) js (tm1.map (·.1)) = aR5 (K1 P dk N l H l 0 tm (j6 S) S.length) obs js S1 tm1 := by kernel_rfl) : (Code.region id l.toArray true).wp P Q a w := bj2 G H hH hF ms js S1 tm1 obs hm hs hc ho k
theorem Z5 : ∀ i c τ, C5 [] i = some (c, τ) → d8.ok P c := fun i c τ h => by cases h
theorem au2 {i0 : Nat} {c0 : d8} {τ0 : List Nat} {r : List (Nat × d8 × List Nat)} (h0 : c0.ok P) (hr : ∀ i c τ, C5 r i = some (c, τ) → d8.ok P c) : ∀ i c τ, C5 ((i0, c0, τ0) :: r) i = some (c, τ) → d8.ok P c := fun i c τ h => by
 simp only [C5] at h
 split at h
 ·cases h; exact h0
 ·exact hr i c τ h
theorem m8.sel (G : m8 φ ψ w0 F N m ρ0 ρ S tm a w) (js : List Nat) (S1 : List It) (tm1 : List (Nat × AV)) (hb : W3 m js S1 tm1 = true) (hS : js.map (j6 S) = S1.map (It.ren (nth js))) (ht : (tm1.map (·.1)).map (r6 tm) = tm1.map fun p => some (p.2.ren (nth js))) : ∃ ρ', m8 φ ψ w0 F N m ρ0 ρ' S1 tm1 a w := ⟨_, Inn.sel G js S1 tm1 hb hS ht⟩
theorem m8.as (G : m8 φ ψ w0 F N m ρ0 ρ S tm a w) (S1 : List It) (tm1 : List (Nat × AV)) (hS : S = S1) (ht : tm = tm1) : m8 φ ψ w0 F N m ρ0 ρ S1 tm1 a w := by subst hS; subst ht; exact G
theorem m8.at (G : m8 φ ψ w0 F N m ρ0 ρ S tm a w) (S1 : List It) (tm1 : List (Nat × AV)) (hS : S = S1 := by kernel_rfl) (ht : tm = tm1 := by kernel_rfl) : m8 φ ψ w0 F N m ρ0 ρ S1 tm1 a w := G.as S1 tm1 hS ht
theorem Y1 {c : Nat} {x y : Code} (G : m8 φ ψ w0 F N m ρ0 ρ S tm a w) (b : Bool) (hc : r6 tm c = some (.v (.bool b))) (ht : b = true → x.wp P Q a w) (hf : b = false → y.wp P Q a w) : (Code.cond (.tmp c) x y).wp P Q a w := by
 have h := G.tmv c _ hc
 refine wp_cond_split (t := b) ?_ ht hf
 simp [Act.eval, Array.getD_eq_getD_getElem?, h, AV.val]
theorem a95 {c : Nat} {x y : Code} (G : m8 φ ψ w0 F N m ρ0 ρ S tm a w) (b : Bool) (hc : r6 tm c = some (.v (.bool b))) (hb : b = true) (h : x.wp P Q a w) : (Code.cond (.tmp c) x y).wp P Q a w := Y1 G b hc (fun _ => h) fun hf => by rw [hb] at hf; cases hf
theorem a96 {c : Nat} {x y : Code} (G : m8 φ ψ w0 F N m ρ0 ρ S tm a w) (b : Bool) (hc : r6 tm c = some (.v (.bool b))) (hb : b = false) (h : y.wp P Q a w) : (Code.cond (.tmp c) x y).wp P Q a w := Y1 G b hc (fun ht => by rw [hb] at ht; cases ht) fun _ => h
def aR0 (P : Program) (tm : Nat → Option AV) (S : Nat → It) : List ResultVar → Option (List AV)
 | [] => some []
 | .tmp t :: r =>
  match tm t, aR0 P tm S r with
  | some x, some l => some (x :: l)
  | _, _ => none
 | .cell t ty :: r =>
  match tm t, aR0 P tm S r with
  | some (.ptr b off), some l =>
   match S b with
   | .box cs => (aN9 P ty ((cs.drop off).take (ak8 P ty))).map fun x => x :: l
   | _ => none
  | _, _ => none
def aJ0 (P : Program) (fn : Func) (tm : List (Nat × AV)) (S : List It) : Option AV :=
 match aR0 P (r6 tm) (j6 S) fn.results.toList with
 | some [x] => some x
 | some l => some (.tup l)
 | none => none
theorem bg7 {cs : List AV} {ty : TypeId} {b off : Nat} {x : AV} (hB : P3 w b (AV.vals ρ cs)) (h : aN9 P ty ((cs.drop off).take (ak8 P ty)) = some x) : (loadVar ty ⟨b, off, none⟩).run P w = .ok (x.val ρ) w :=
 Z9 h ⟨b, off, none⟩ fun j u hj => by
  rw [AV.vals_take, AV.vals_drop] at hj
  have hadd : (⟨b, off, none⟩ : Addr).add j = ⟨b, off + j, none⟩ := by unfold Addr.add; split <;> simp_all
  rw [hadd, hB.cell]
  rw [List.getElem?_take] at hj
  split at hj
  ·rw [List.getElem?_drop] at hj; exact hj
  ·cases hj
theorem aC9 (G : m8 φ ψ w0 F N m ρ0 ρ S tm a w) : ∀ {rs : List ResultVar} {l : List AV}, aR0 P (r6 tm) (j6 S) rs = some l →
  (rs.mapM (fun r => (match r with | .tmp t => pure (a.tmps.getD t undef) | .cell b t => do loadVar t (← asAddr (a.tmps.getD b undef)) : Sem Value))).run P w = .ok (AV.vals ρ l) w
 | [], l, h => by cases h; simp [AV.vals]
 | .tmp t :: r, l, h => by
  simp only [aR0] at h
  split at h
  case h_2 => cases h
  rename_i x l' h1 h2
  cases h
  have ht := G.tmv t x h1
  have ih := aC9 G h2
  have e : (pure (a.tmps.getD t undef) : Sem Value).run P w = .ok (x.val ρ) w := by simp [Array.getD_eq_getD_getElem?, ht]
  rw [List.mapM_cons, Sem.run_bind, e, Result.andThen_ok, Sem.run_bind, ih]
  rfl
 | .cell t ty :: r, l, h => by
  simp only [aR0] at h
  split at h
  case h_2 => cases h
  rename_i b off l' h1 h2
  split at h
  case h_2 => cases h
  rename_i cs hS
  obtain ⟨x, h3, h4⟩ := bL6.1 h
  subst h4
  have ht := G.tmv t _ h1
  have ih := aC9 G h2
  have hl := bg7 (P := P) (G.mem.boxAt hS) h3
  have e : (do loadVar ty (← asAddr (a.tmps.getD t undef)) : Sem Value).run P w = .ok (x.val ρ) w := by
   rw [show a.tmps.getD t undef = .pointer (some ⟨J6 (ρ b), off, none⟩) by simp [Array.getD_eq_getD_getElem?, ht, AV.val]]
   simp [asAddr, hl]
  rw [List.mapM_cons, Sem.run_bind, e, Result.andThen_ok, Sem.run_bind, ih]
  rfl
theorem bs3 {fn : Func} {R : Ending → World → Prop} {v : AV} (G : m8 φ ψ w0 F N m ρ0 ρ S tm a w) (h : aJ0 P fn tm S = some v) (hR : R (.returned (v.val ρ)) w) : bodyPost P fn R .ret a w := by
 refine ⟨G.defs, v.val ρ, ?_, hR⟩
 unfold aJ0 at h
 cases hl : aR0 P (r6 tm) (j6 S) fn.results.toList with
 | none => rw [hl] at h; cases h
 | some l =>
  rw [hl] at h
  have := aC9 G hl
  unfold results
  rw [Sem.run_bind, Array.mapM_eq_mapM_toList, Sem.run_map]
  erw [this]
  simp only [Result.andThen_ok, Sem.run_pure]
  match l, h with
  | [], h => cases h; rfl
  | [x], h => cases h; rfl
  | x :: y :: r, h => cases h; rfl
def av3 (i : Nat) : List AV → List (Nat × AV)
 | [] => []
 | x :: r => (i, x) :: av3 (i + 1) r
theorem aO0 (ρ : Nat → Value) : ∀ {l : List AV} {i t : Nat} {x : AV}, r6 (av3 i l) t = some x → i ≤ t ∧ (AV.vals ρ l)[t - i]? = some (x.val ρ)
 | [], _, _, _, h => by cases h
 | y :: r, i, t, x, h => by
  simp only [av3, r6, natEq, beq_iff_eq] at h
  split at h
  ·rename_i e; subst e; cases h; exact ⟨bM4 _, by simp [AV.vals]⟩
  ·obtain ⟨h1, h2⟩ := aO0 ρ h
   refine ⟨by omega, ?_⟩
   rw [show t - i = (t - (i + 1)) + 1 by omega]
   simpa [AV.vals] using h2
def aO6 (φ ψ : Nat → Prop) (w0 : World) (F : ι → Rs) (ρ0 : Nat → Value) (c : d8) (x : Ending) (w' : World) : Prop := ∃ ρ', (∀ i, i < c.pre.length → ρ' i = ρ0 i) ∧ x = .returned (c.res.val ρ') ∧ f7 φ ψ w0 w' (j0 F ρ' (j6 c.post))
theorem a94 {c : d8} {fn : Func} {code : Code} (N : Nat) (hf : P.funcs[c.f]? = some fn) (hb : fn.body = some code) (hN : fn.ntmps = N) (hw : (wfB c.pre (av3 0 c.args) && decide (c.args.length ≤ N)) = true)
  (k : ∀ {ι : Type} (φ ψ : Nat → Prop) (w0 w : World) (F : ι → Rs) (ρ0 ρ : Nat → Value) (a : Act), m8 φ ψ w0 F N c.pre.length ρ0 ρ c.pre (av3 0 c.args) a w → code.wp P (bodyPost P fn (aO6 φ ψ w0 F ρ0 c)) a w) : c.ok P := by
 intro ι φ ψ w0 w F ρ M
 simp only [bL3, decide_eq_true_eq] at hw
 obtain ⟨b1, b2⟩ := bo2 hw.1
 refine calls_of_wp hf hb (k φ ψ w0 w F ρ ρ _ ⟨?_, rfl, fun t x hx => ?_, b2, b1, M, bM4 _, fun _ _ => rfl⟩)
 ·simp [AV.vals_length, hN]; omega
 ·obtain ⟨_, h1⟩ := aO0 ρ hx
  rw [Nat.sub_zero] at h1
  have hlt := (bM0.1 h1).1
  rw [Array.getElem?_append_left (by simpa using hlt)]
  simpa using h1
theorem aq9 {fn : Func} {c : d8} {v : AV} (G : m8 φ ψ w0 F N c.pre.length ρ0 ρ S tm a w) (js : List Nat) (h : aJ0 P fn tm S = some v) (hb : W3 c.pre.length js c.post [] = true) (hS : js.map (j6 S) = c.post.map (It.ren (nth js))) (hv : v = c.res.ren (nth js)) : bodyPost P fn (aO6 φ ψ w0 F ρ0 c) .ret a w := by
 have G1 := Inn.sel G js c.post [] hb hS rfl
 refine bs3 G h ⟨fun i => ρ (nth js i), G1.old, ?_, G1.mem⟩
 rw [hv, AV.val_ren]
theorem b5 {K : Act → World → Prop} (h : K a w) : Exit.then K Q .normal a w := h
theorem l8 {K : Act → World → Prop} {id : Nat} (h : Q (.exit id) a w) : Exit.then K Q (.exit id) a w := h
theorem d7 {K : Act → World → Prop} (h : Q .ret a w) : Exit.then K Q .ret a w := h
theorem j8 {id : Nat} (h : Q .normal a w) : Exit.inBlock id Q .normal a w := h
theorem r7 {id : Nat} (h : Q .ret a w) : Exit.inBlock id Q .ret a w := h
theorem l5 {id : Nat} (h : Q .normal a w) : Exit.inBlock id Q (.exit id) a w := by simp only [Exit.inBlock, if_true]; exact h
theorem bn2 {id id' : Nat} (hne : natEq id' id = false) (h : Q (.exit id') a w) : Exit.inBlock id Q (.exit id') a w := by
 simp only [Exit.inBlock]
 rw [if_neg (by simpa [natEq] using hne)]; exact h
theorem w64 {x : Int} (h1 : -9223372036854775808 ≤ x) (h2 : x ≤ 9223372036854775807) : IntKind.i64.wrap x = x := IntWalk.i64_in x ⟨h1, h2⟩
theorem rT {c : Nat} {x y : Code} (G : m8 φ ψ w0 F N m ρ0 ρ S tm a w) (b : Bool) (hb : b = true) (h : x.wp P Q a w) (hc : r6 tm c = some (.v (.bool b)) := by kernel_rfl) : (Code.cond (.tmp c) x y).wp P Q a w := a95 G b hc hb h
theorem rF {c : Nat} {x y : Code} (G : m8 φ ψ w0 F N m ρ0 ρ S tm a w) (b : Bool) (hb : b = false) (h : y.wp P Q a w) (hc : r6 tm c = some (.v (.bool b)) := by kernel_rfl) : (Code.cond (.tmp c) x y).wp P Q a w := a96 G b hc hb h
theorem m6 {κ : Type} {c : Code} (pre : κ → Prop) (μ : κ → Nat) (Sk : κ → List It) (Tk : κ → List (Nat × AV)) (k0 : κ) (hp : pre k0) (G : m8 φ ψ w0 F N m ρ0 ρ (Sk k0) (Tk k0) a w)
  (round : ∀ k ρ a w, pre k → m8 φ ψ w0 F N m ρ0 ρ (Sk k) (Tk k) a w → c.wp P (Exit.then (fun a' w' => ∃ k' ρ', pre k' ∧ μ k' < μ k ∧ m8 φ ψ w0 F N m ρ0 ρ' (Sk k') (Tk k') a' w') Q) a w) : (Code.loop c).wp P Q a w := by
 refine wp_loop_ghost (fun n a w => ∃ k ρ, μ k = n ∧ pre k ∧ m8 φ ψ w0 F N m ρ0 ρ (Sk k) (Tk k) a w) (μ k0) ⟨k0, ρ, rfl, hp, G⟩ ?_
 rintro n a w ⟨k, ρ, rfl, hk, Gk⟩
 refine wp_mono (round k ρ a w hk Gk) ?_
 intro e a' w' hq
 cases e with
 | normal =>
  obtain ⟨k', ρ', h1, h2, h3⟩ := hq
  exact ⟨μ k', h2, k', ρ', rfl, h1, h3⟩
 | _ => exact hq
theorem bj1 {κ : Type} {pre : κ → Prop} {μ : κ → Nat} {Sk : κ → List It} {Tk : κ → List (Nat × AV)} {k : κ} (G : m8 φ ψ w0 F N m ρ0 ρ S tm a w) (k' : κ) (hp : pre k') (hμ : μ k' < μ k) (js : List Nat) (S1 : List It) (tm1 : List (Nat × AV)) (hs1 : Sk k' = S1) (ht1 : Tk k' = tm1)
  (hb : W3 m js S1 tm1 = true) (hS : js.map (j6 S) = S1.map (It.ren (nth js))) (ht : (tm1.map (·.1)).map (r6 tm) = tm1.map fun p => some (p.2.ren (nth js))) :
  ∃ k' ρ', pre k' ∧ μ k' < μ k ∧ m8 φ ψ w0 F N m ρ0 ρ' (Sk k') (Tk k') a w := by
 subst hs1; subst ht1
 exact ⟨k', _, hp, hμ, Inn.sel G js _ _ hb hS ht⟩
theorem m8.len (G : m8 φ ψ w0 F N m ρ0 ρ S tm a w) (i : Nat) {d : D} (h : itD (j6 S i) = some d) : d.len ≤ 9223372036854775807 := by
 obtain ⟨_, cap, _, h1, h2, _⟩ := G.mem.sliceAt h
 unfold maxLen at h2; omega
end
def dkP (t : TypeId) : Nat :=
 if natEq t 3 then 1 else
 if natEq t 4 then 2 else
 if natEq t 5 then 3 else
 if natEq t 9 then 4 else
 if natEq t 166 then 5 else
 if natEq t 54 then 6 else
 if natEq t 23 then 7 else
 if natEq t 42 then 8 else
 if natEq t 59 then 9 else
 if natEq t 161 then 10 else
 0
abbrev eA (e : b7) (r : Nat) : AV := .agg [.v (.int .i64 e.kind), .v (.int .i64 e.value), .ref r]
abbrev eS (e : b7) : List It := [.dat (.exprs e.kids)]
abbrev sA (s : b6) (r : Nat) : AV := .agg [.v (.int .i64 s.kind), .v (.int .i64 s.target), .v (.int .i64 s.index.kind), .v (.int .i64 s.index.value), .ref r, .v (.int .i64 s.value.kind), .v (.int .i64 s.value.value), .ref (r + 1), .v (.int .i64 s.count), .ref (r + 2), .ref (r + 3)]
abbrev sS (s : b6) : List It := [.dat (.exprs s.index.kids), .dat (.exprs s.value.kids), .dat (.stmts s.body), .dat (.stmts s.els)]
abbrev pA (r : Nat) : AV := .agg [.ref r, .ref (r + 1), .ref (r + 2)]
abbrev pS (p : b8) : List It := [.dat (.ints p.vars), .dat (.ints p.arrays), .dat (.stmts p.body)]
abbrev iA (n : Int) : AV := .v (.int .i64 n)
abbrev bA (b : Bool) : AV := .v (.bool b)
abbrev E0 (f : FuncId) (args : List AV) (S : List It) (res : AV) : d8 := ⟨f, args, S, S, res⟩
abbrev dI (l : List Int) : It := .dat (.ints l)
abbrev dY (l : List UInt8) : It := .dat (.bytes l)
abbrev dE (l : List b7) : It := .dat (.exprs l)
abbrev dT (l : List b6) : It := .dat (.stmts l)
abbrev eL (e : b7) (r : Nat) : List AV := [.v (.int .i64 e.kind), .v (.int .i64 e.value), .ref r]
abbrev sL (s : b6) (r : Nat) : List AV := [.v (.int .i64 s.kind), .v (.int .i64 s.target), .v (.int .i64 s.index.kind), .v (.int .i64 s.index.value), .ref r, .v (.int .i64 s.value.kind), .v (.int .i64 s.value.value), .ref (r + 1), .v (.int .i64 s.count), .ref (r + 2), .ref (r + 3)]
abbrev pL (r : Nat) : List AV := [.ref r, .ref (r + 1), .ref (r + 2)]
section
variable {P : Program} {ι : Type} {φ ψ : Nat → Prop} {w0 w w' : World} {F : ι → Rs} {ρ ρ0 : Nat → Value} {N m n : Nat} {S : List It} {tm : List (Nat × AV)} {a : Act} {Q : Exit → Act → World → Prop}
end
theorem b7.eta (e : b7) : (⟨e.kind, e.value, e.kids⟩ : b7) = e := by cases e; rfl
theorem b6.eta (s : b6) : (⟨s.kind, s.target, s.index, s.value, s.count, s.body, s.els⟩ : b6) = s := by cases s; rfl
section
variable {ι : Type} {P : Program} {φ ψ : Nat → Prop} {w0 w : World} {F : ι → Rs} {N m : Nat} {ρ0 ρ : Nat → Value} {S : List It} {tm : List (Nat × AV)} {a : Act}
theorem C4 {fn : Func} {c : d8} (G : m8 φ ψ w0 F N c.pre.length ρ0 ρ S tm a w) (js : List Nat) (hS : js.map (j6 S) = c.post.map (It.ren (nth js)) := by kernel_rfl) (h : aJ0 P fn tm S = some (c.res.ren (nth js)) := by kernel_rfl) (hb : W3 c.pre.length js c.post [] = true := by kernel_rfl) : bodyPost P fn (aO6 φ ψ w0 F ρ0 c) .ret a w := aq9 G js h hb hS rfl
theorem bH0 {fn : Func} {c : d8} (G : m8 φ ψ w0 F N c.pre.length ρ0 ρ S tm a w) (js : List Nat) (hS : js.map (j6 S) = c.post.map (It.ren (nth js)) := by kernel_rfl) (h : aJ0 P fn tm S = some (c.res.ren (nth js)) := by kernel_rfl) (hb : W3 c.pre.length js c.post [] = true := by kernel_rfl) : bodyPost P fn (aO6 φ ψ w0 F ρ0 c) .normal a w := aq9 G js h hb hS rfl
theorem U5 {fn : Func} {c : d8} (v : AV) (G : m8 φ ψ w0 F N c.pre.length ρ0 ρ S tm a w) (js : List Nat) (hv : v = c.res.ren (nth js)) (hS : js.map (j6 S) = c.post.map (It.ren (nth js)) := by kernel_rfl) (h : aJ0 P fn tm S = some v := by kernel_rfl) (hb : W3 c.pre.length js c.post [] = true := by kernel_rfl) : bodyPost P fn (aO6 φ ψ w0 F ρ0 c) .ret a w := aq9 G js h hb hS hv
theorem N5 {κ : Type} {pre : κ → Prop} {μ : κ → Nat} {Sk : κ → List It} {Tk : κ → List (Nat × AV)} {k : κ} (G : m8 φ ψ w0 F N m ρ0 ρ S tm a w) (k' : κ) (hp : pre k') (hμ : μ k' < μ k) (js : List Nat) (hS : js.map (j6 S) = (Sk k').map (It.ren (nth js)) := by kernel_rfl) (ht : ((Tk k').map (·.1)).map (r6 tm) = (Tk k').map (fun p => some (p.2.ren (nth js))) := by kernel_rfl) (hb : W3 m js (Sk k') (Tk k') = true := by kernel_rfl) : ∃ k' ρ', pre k' ∧ μ k' < μ k ∧ m8 φ ψ w0 F N m ρ0 ρ' (Sk k') (Tk k') a w := bj1 G k' hp hμ js _ _ rfl rfl hb hS ht
theorem n9 {fn : Func} {f : FuncId} {args : List AV} {pre post : List It} {x : Bool} (y : Bool) (G : m8 φ ψ w0 F N pre.length ρ0 ρ S tm a w) (js : List Nat) (e : x = y) (hS : js.map (j6 S) = post.map (It.ren (nth js)) := by kernel_rfl) (h : aJ0 P fn tm S = some (bA y) := by kernel_rfl) (hb : W3 pre.length js post [] = true := by kernel_rfl) : bodyPost P fn (aO6 φ ψ w0 F ρ0 ⟨f, args, pre, post, bA x⟩) .ret a w := aq9 (c := ⟨f, args, pre, post, bA x⟩) G js h hb hS (by rw [e]; rfl)
theorem L2 {fn : Func} {f : FuncId} {args : List AV} {pre post : List It} {x : Int} (y : Int) (G : m8 φ ψ w0 F N pre.length ρ0 ρ S tm a w) (js : List Nat) (e : x = y) (hS : js.map (j6 S) = post.map (It.ren (nth js)) := by kernel_rfl) (h : aJ0 P fn tm S = some (iA y) := by kernel_rfl) (hb : W3 pre.length js post [] = true := by kernel_rfl) : bodyPost P fn (aO6 φ ψ w0 F ρ0 ⟨f, args, pre, post, iA x⟩) .ret a w := aq9 (c := ⟨f, args, pre, post, iA x⟩) G js h hb hS (by rw [e]; rfl)
end
abbrev wO (x : Int) : Prop := IntKind.i64.wrap x = x
theorem oW {x : Int} (h : -9223372036854775808 ≤ x ∧ x ≤ 9223372036854775807) : wO x := w64 h.1 h.2
theorem o1 {x : Int} (h : -9223372036854775808 ≤ x ∧ x ≤ 9223372036854775807) : m5 [wO x] := ⟨oW h, bM6⟩
theorem o2 {x y : Int} (h : (-9223372036854775808 ≤ x ∧ x ≤ 9223372036854775807) ∧ -9223372036854775808 ≤ y ∧ y ≤ 9223372036854775807) : m5 [wO x, wO y] := ⟨oW h.1, oW h.2, bM6⟩
abbrev aP (n b : Nat) (r : List Prop) : List Prop := (n ≤ 9223372036854775807) :: (n * b ≤ 140737488355328) :: r
theorem aK {n b : Nat} {r : List Prop} (h : n ≤ 100000000000) (k : m5 r) (hb : b ≤ 1000 := by decide) : m5 (aP n b r) := ⟨by omega, bN5 (Nat.mul_le_mul h hb) (by decide), k⟩
abbrev iX (x : Int) (n l : Nat) (r : List Prop) : List Prop := (0 ≤ x) :: (x < (l : Int)) :: (n < l) :: r
theorem iK {x : Int} {n l : Nat} {r : List Prop} (h : 0 ≤ x ∧ x < (l : Int) ∧ n < l) (k : m5 r) : m5 (iX x n l r) := ⟨h.1, h.2.1, h.2.2, k⟩
abbrev mR (js : List Nat) (l : List It) : List It := List.map (It.ren (nth js)) l
theorem fz : F3 [] := bM6
theorem fc {a b : Bool} {r : List (Bool × Bool)} (h : a = b) (k : F3 r) : F3 ((a, b) :: r) := ⟨h, k⟩
abbrev m7 (e : b7) : b7 := b7.mk e.kind e.value e.kids
abbrev qzS (s : b6) : b6 := b6.mk s.kind s.target (b7.mk s.index.kind s.index.value s.index.kids) (b7.mk s.value.kind s.value.value s.value.kids) s.count s.body s.els
def kL (P : Program) (N m : Nat) (l : List Oper) (H : G7) (tm : List (Nat × AV)) (S : List It) (js : List Nat) (S1 : List It) (t1 : List (Nat × AV)) := ((K1 P dkP N l H l 0 tm (j6 S) S.length).isSome && W3 m js S1 t1, aJ7 (K1 P dkP N l H l 0 tm (j6 S) S.length) js (t1.map (·.1)))
def kR (P : Program) (N : Nat) (l : List Oper) (H : G7) (tm : List (Nat × AV)) (S : List It) (o : List Prop) (js : List Nat) (S1 : List It) (t1 : List (Nat × AV)) := (true, aR5 (K1 P dkP N l H l 0 tm (j6 S) S.length) o js S1 t1)
def kM (P : Program) (N m : Nat) (l : List Oper) (H : G7) (ms : List Nat) (tm : List (Nat × AV)) (S : List It) (js : List Nat) (S1 : List It) (t1 : List (Nat × AV)) := (a04 l ms S.length (j6 S) (K1 P dkP N l H l 0 tm (j6 S) S.length) && W3 m js S1 t1, aJ7 (K1 P dkP N l H l 0 tm (j6 S) S.length) js (t1.map (·.1)))
theorem x6 {P : Program} {c : d8} {fn : Func} {code : Code} (N : Nat) (hf : P.funcs[c.f]? = some fn) (S : List It) (tm : List (Nat × AV)) (k : ∀ {ι : Type} {φ ψ : Nat → Prop} {w0 w : World} {F : ι → Rs} {ρ0 ρ : Nat → Value} {a : Act}, m8 φ ψ w0 F N c.pre.length ρ0 ρ S tm a w → code.wp P (bodyPost P fn (aO6 φ ψ w0 F ρ0 c)) a w) (hb : fn.body = some code := by rfl) (hN : (fn.ntmps, c.pre, av3 0 c.args) = (N, S, tm) := by kernel_rfl) (hw : (wfB c.pre (av3 0 c.args) && decide (c.args.length ≤ N)) = true := by kernel_rfl) : c.ok P := by
 simp only [Prod.mk.injEq] at hN
 obtain ⟨h1, h2, h3⟩ := hN
 exact a94 N hf hb h1 hw fun φ ψ w0 w F ρ0 ρ a G => k (ρ := ρ) (G.as S tm h2 h3)
def aT (x y : List (Nat × AV)) : List (Nat × AV) := x ++ y.filter fun p => !(x.any fun q => natEq q.1 p.1)
def HH (P : Program) (H : G7) : Prop := (∀ i c τ, C5 H.calls i = some (c, τ) → c.ok P) ∧ F3 H.facts
theorem c4 {P : Program} : HH P ⟨[], [], []⟩ := ⟨Z5, bM6⟩
theorem o9 {P : Program} {c : d8} (i : Nat) (σ : List Nat) (h : c.ok P) : HH P ⟨[(i, c, σ)], [], []⟩ := ⟨au2 h Z5, bM6⟩
theorem z6 {P : Program} {f : List (Bool × Bool)} (h : F3 f) (u : List (Nat × Nat)) : HH P ⟨[], f, u⟩ := ⟨Z5, h⟩
def Cs (P : Program) (r : List (Nat × d8 × List Nat)) : Prop := ∀ i c τ, C5 r i = some (c, τ) → c.ok P
theorem l9 {P : Program} : Cs P [] := Z5
theorem f6 {P : Program} {c : d8} {r : List (Nat × d8 × List Nat)} (i : Nat) (σ : List Nat) (h : c.ok P) (k : Cs P r) : Cs P ((i, c, σ) :: r) := au2 h k
theorem m0 {P : Program} {r : List (Nat × d8 × List Nat)} {f : List (Bool × Bool)} (h : Cs P r) (h' : F3 f) (u : List (Nat × Nat)) : HH P ⟨r, f, u⟩ := ⟨h, h'⟩
section
variable {ι : Type} {P : Program} {φ ψ : Nat → Prop} {w0 w : World} {F : ι → Rs} {N m : Nat} {ρ0 ρ : Nat → Value} {S : List It} {tm : List (Nat × AV)} {a : Act} {l : List Oper} {id : Nat} {Q : Exit → Act → World → Prop} {H : G7}
theorem S4 (G : m8 φ ψ w0 F N m ρ0 ρ S tm a w) (hh : HH P H) (js : List Nat) (S1 : List It) (t1 : List (Nat × AV)) (o : List Prop) (ho : m5 o) (k : ∀ {ρ' a' w'}, m8 φ ψ w0 F N m ρ0 ρ' S1 t1 a' w' → Q .normal a' w') (h : kL P N m l H tm S js S1 t1 = kR P N l H tm S o js S1 t1 := by kernel_rfl) : (Code.region id l.toArray false).wp P Q a w := rs1 (dk := dkP) G H hh.1 hh.2 js S1 t1 o ho (fun _ _ _ => k) (congrArg Prod.fst h) (congrArg Prod.snd h)
theorem e6 (G : m8 φ ψ w0 F N m ρ0 ρ S tm a w) (hh : HH P H) (js : List Nat) (S1 : List It) (t1 : List (Nat × AV)) (k : ∀ {ρ' a' w'}, m8 φ ψ w0 F N m ρ0 ρ' S1 t1 a' w' → Q .normal a' w') (h : kL P N m l H tm S js S1 t1 = kR P N l H tm S [] js S1 t1 := by kernel_rfl) : (Code.region id l.toArray false).wp P Q a w := S4 G hh js S1 t1 [] bM6 k h
theorem rB1 (G : m8 φ ψ w0 F N m ρ0 ρ S tm a w) (hh : HH P H) (t1 : List (Nat × AV)) (o : List Prop) (ho : m5 o) (k : ∀ {ρ' a' w'}, m8 φ ψ w0 F N m ρ0 ρ' S t1 a' w' → Q .normal a' w') (h : kL P N m l H tm S (bM9 S.length) S t1 = kR P N l H tm S o (bM9 S.length) S t1 := by kernel_rfl) : (Code.region id l.toArray false).wp P Q a w := rs1 (dk := dkP) G H hh.1 hh.2 (bM9 S.length) S t1 o ho (fun _ _ _ => k) (congrArg Prod.fst h) (congrArg Prod.snd h)
theorem B7 (G : m8 φ ψ w0 F N m ρ0 ρ S tm a w) (hh : HH P H) (t1 : List (Nat × AV)) (k : ∀ {ρ' a' w'}, m8 φ ψ w0 F N m ρ0 ρ' S t1 a' w' → Q .normal a' w') (h : kL P N m l H tm S (bM9 S.length) S t1 = kR P N l H tm S [] (bM9 S.length) S t1 := by kernel_rfl) : (Code.region id l.toArray false).wp P Q a w := rB1 G hh t1 [] bM6 k h
theorem C8 (G : m8 φ ψ w0 F N m ρ0 ρ S tm a w) (hh : HH P H) (t1 : List (Nat × AV)) (o : List Prop) (ho : m5 o) (k : ∀ {ρ' a' w'}, m8 φ ψ w0 F N m ρ0 ρ' S (aT t1 tm) a' w' → Q .normal a' w') (h : kL P N m l H tm S (bM9 S.length) S (aT t1 tm) = kR P N l H tm S o (bM9 S.length) S (aT t1 tm) := by kernel_rfl) : (Code.region id l.toArray false).wp P Q a w := rs1 (dk := dkP) G H hh.1 hh.2 (bM9 S.length) S (aT t1 tm) o ho (fun _ _ _ => k) (congrArg Prod.fst h) (congrArg Prod.snd h)
theorem d9 (G : m8 φ ψ w0 F N m ρ0 ρ S tm a w) (hh : HH P H) (t1 : List (Nat × AV)) (k : ∀ {ρ' a' w'}, m8 φ ψ w0 F N m ρ0 ρ' S (aT t1 tm) a' w' → Q .normal a' w') (h : kL P N m l H tm S (bM9 S.length) S (aT t1 tm) = kR P N l H tm S [] (bM9 S.length) S (aT t1 tm) := by kernel_rfl) : (Code.region id l.toArray false).wp P Q a w := C8 G hh t1 [] bM6 k h
theorem E5 (G : m8 φ ψ w0 F N m ρ0 ρ S tm a w) (hh : HH P H) (ms : List Nat) (js : List Nat) (S1 : List It) (t1 : List (Nat × AV)) (o : List Prop) (ho : m5 o) (k : ∀ {ρ' a' w'}, m8 φ ψ w0 F N m ρ0 ρ' S1 t1 a' w' → Q .normal a' w') (hm : P.follows .mixedOrders = true := by kernel_rfl) (h : kM P N m l H ms tm S js S1 t1 = kR P N l H tm S o js S1 t1 := by kernel_rfl) : (Code.region id l.toArray true).wp P Q a w := rd1 (dk := dkP) G H hh.1 hh.2 ms js S1 t1 o ho (fun _ _ _ => k) hm (congrArg Prod.fst h) (congrArg Prod.snd h)
theorem C6 (G : m8 φ ψ w0 F N m ρ0 ρ S tm a w) (hh : HH P H) (ms : List Nat) (js : List Nat) (S1 : List It) (t1 : List (Nat × AV)) (k : ∀ {ρ' a' w'}, m8 φ ψ w0 F N m ρ0 ρ' S1 t1 a' w' → Q .normal a' w') (hm : P.follows .mixedOrders = true := by kernel_rfl) (h : kM P N m l H ms tm S js S1 t1 = kR P N l H tm S [] js S1 t1 := by kernel_rfl) : (Code.region id l.toArray true).wp P Q a w := E5 G hh ms js S1 t1 [] bM6 k hm h
theorem bs5 (G : m8 φ ψ w0 F N m ρ0 ρ S tm a w) (hh : HH P H) (ms : List Nat) (t1 : List (Nat × AV)) (o : List Prop) (ho : m5 o) (k : ∀ {ρ' a' w'}, m8 φ ψ w0 F N m ρ0 ρ' S t1 a' w' → Q .normal a' w') (hm : P.follows .mixedOrders = true := by kernel_rfl) (h : kM P N m l H ms tm S (bM9 S.length) S t1 = kR P N l H tm S o (bM9 S.length) S t1 := by kernel_rfl) : (Code.region id l.toArray true).wp P Q a w := rd1 (dk := dkP) G H hh.1 hh.2 ms (bM9 S.length) S t1 o ho (fun _ _ _ => k) hm (congrArg Prod.fst h) (congrArg Prod.snd h)
theorem bH5 (G : m8 φ ψ w0 F N m ρ0 ρ S tm a w) (hh : HH P H) (ms : List Nat) (t1 : List (Nat × AV)) (k : ∀ {ρ' a' w'}, m8 φ ψ w0 F N m ρ0 ρ' S t1 a' w' → Q .normal a' w') (hm : P.follows .mixedOrders = true := by kernel_rfl) (h : kM P N m l H ms tm S (bM9 S.length) S t1 = kR P N l H tm S [] (bM9 S.length) S t1 := by kernel_rfl) : (Code.region id l.toArray true).wp P Q a w := bs5 G hh ms t1 [] bM6 k hm h
theorem P9 (G : m8 φ ψ w0 F N m ρ0 ρ S tm a w) (hh : HH P H) (ms : List Nat) (t1 : List (Nat × AV)) (o : List Prop) (ho : m5 o) (k : ∀ {ρ' a' w'}, m8 φ ψ w0 F N m ρ0 ρ' S (aT t1 tm) a' w' → Q .normal a' w') (hm : P.follows .mixedOrders = true := by kernel_rfl) (h : kM P N m l H ms tm S (bM9 S.length) S (aT t1 tm) = kR P N l H tm S o (bM9 S.length) S (aT t1 tm) := by kernel_rfl) : (Code.region id l.toArray true).wp P Q a w := rd1 (dk := dkP) G H hh.1 hh.2 ms (bM9 S.length) S (aT t1 tm) o ho (fun _ _ _ => k) hm (congrArg Prod.fst h) (congrArg Prod.snd h)
theorem a28 (G : m8 φ ψ w0 F N m ρ0 ρ S tm a w) (hh : HH P H) (ms : List Nat) (t1 : List (Nat × AV)) (k : ∀ {ρ' a' w'}, m8 φ ψ w0 F N m ρ0 ρ' S (aT t1 tm) a' w' → Q .normal a' w') (hm : P.follows .mixedOrders = true := by kernel_rfl) (h : kM P N m l H ms tm S (bM9 S.length) S (aT t1 tm) = kR P N l H tm S [] (bM9 S.length) S (aT t1 tm) := by kernel_rfl) : (Code.region id l.toArray true).wp P Q a w := P9 G hh ms t1 [] bM6 k hm h
variable {c : Nat} {x y : Code}
theorem rcB {b : Bool} (G : m8 φ ψ w0 F N m ρ0 ρ S tm a w) (f : b = false → y.wp P Q a w) (t : b = true → x.wp P Q a w) (h : r6 tm c = some (.v (.bool b)) := by rfl) : (Code.cond (.tmp c) x y).wp P Q a w := Y1 G b h t f
theorem I7 {α : Type} [BEq α] [LawfulBEq α] {u v : α} (G : m8 φ ψ w0 F N m ρ0 ρ S tm a w) (f : (u == v) = false → u ≠ v → y.wp P Q a w) (t : (u == v) = true → u = v → x.wp P Q a w) (h : r6 tm c = some (.v (.bool (u == v))) := by rfl) : (Code.cond (.tmp c) x y).wp P Q a w := Y1 G _ h (fun q => t q (eq_of_beq q)) fun q => f q (ne_of_beq_false q)
theorem rcN {α : Type} [BEq α] [LawfulBEq α] {u v : α} (G : m8 φ ψ w0 F N m ρ0 ρ S tm a w) (f : (u != v) = false → u = v → y.wp P Q a w) (t : (u != v) = true → u ≠ v → x.wp P Q a w) (h : r6 tm c = some (.v (.bool (u != v))) := by rfl) : (Code.cond (.tmp c) x y).wp P Q a w := Y1 G _ h (fun q => t q (bne_iff_ne.1 q)) fun q => f q (bne_eq_false_iff_eq.1 q)
theorem M7 {p : Prop} [Decidable p] (G : m8 φ ψ w0 F N m ρ0 ρ S tm a w) (f : decide p = false → ¬ p → y.wp P Q a w) (t : decide p = true → p → x.wp P Q a w) (h : r6 tm c = some (.v (.bool (decide p))) := by rfl) : (Code.cond (.tmp c) x y).wp P Q a w := Y1 G _ h (fun q => t q (N9 q)) fun q => f q (O0 q)
end
section
variable {P : Program} {f : FuncId}
theorem ai4 {args : List AV} {S : List It} {x : Value} (h : ∀ (φ : Nat → Prop) (w : World) (ρ : Nat → Value), (∀ i d, j6 S i = .dat d → RD w φ d (ρ i)) → Calls P f (AV.vals ρ args).toArray w fun e w' => e = .returned x ∧ Below w.heap.size w w') : d8.ok P (E0 f args S (.v x)) := by
 intro ι φ ψ w0 w F ρ M
 refine (h (R2 φ (j0 F ρ (j6 S))) w ρ fun i d hi => M.datAt hi).mono ?_
 rintro e w' ⟨rfl, hb⟩
 exact ⟨ρ, fun _ _ => rfl, rfl, M.call hb⟩
end
theorem aX9 {w : World} {φ : Nat → Prop} {d : D} {v : Value} (h : RD w φ d v) : ∃ a cap, v = .slice a d.len cap ∧ d.len ≤ 9223372036854775807 := by
 obtain ⟨a, cap, h1, h2, h3, _⟩ := h.open
 unfold maxLen at h3
 exact ⟨a, cap, h1, by omega⟩
theorem t5 (l : Int) : d8.ok Try.prog (E0 187 [iA l] [] (bA (c5 l))) :=
 ai4 fun φ w ρ _ => (I6 l w).mono fun e w' h => ⟨h.1, h.2 ▸ Below.refl _ _⟩
theorem p9 (n lo hi : Int) : d8.ok Try.prog (E0 143 [iA n, iA lo, iA hi] [] (bA (decide (lo ≤ n) && decide (n ≤ hi)))) :=
 ai4 fun φ w ρ _ => (s5 n lo hi w).mono fun e w' h => ⟨h.1, h.2 ▸ Below.refl _ _⟩
theorem aj2 (p : b8) : d8.ok Try.prog (E0 140 [pA 0] (pS p) (bA (w4 p.vars p.arrays))) :=
 ai4 fun φ w ρ h => aC0 (ρ 0) (ρ 1) (ρ 2) _ _ w (s3.row (h 0 _ rfl)) (s3.row (h 1 _ rfl))
theorem au7 (vs ars : List Int) : d8.ok Try.prog (E0 69 [.ref 0, .ref 1] [.dat (.ints vs), .dat (.ints ars)] (bA (w4 vs ars))) :=
 ai4 fun φ w ρ h => (aw1 (ρ 0) (ρ 1) _ _ w (s3.row (h 0 _ rfl)) (s3.row (h 1 _ rfl))).mono fun e w' h => ⟨h.1, h.2 ▸ Below.refl _ _⟩
theorem I8 (p : b8) (e : b7) : d8.ok Try.prog (E0 92 [pA 0, eA e 3] (pS p ++ eS e) (bA (f5 p.vars.length p.arrays.length e))) :=
 ai4 fun φ w ρ h => by
  obtain ⟨a1, c1, h1, l1⟩ := aX9 (h 0 _ rfl)
  obtain ⟨a2, c2, h2, l2⟩ := aX9 (h 1 _ rfl)
  simp only [AV.vals, AV.val, h1, h2]
  exact a40 a1 a2 _ c1 _ c2 (ρ 2) l1 l2 e φ _ w ⟨_, rfl, h 3 _ rfl⟩
theorem aj3 (e : b7) : d8.ok Try.prog (E0 191 [eA e 0] (eS e) (bA (atomB e))) :=
 ai4 fun φ w ρ h => af7 e.kind e.value (ρ 0) w
theorem ar5 (a b : List b6) : K5 (a ++ b) = K5 a + K5 b := by
 induction a with
 | nil => simp [K5]
 | cons x r ih => simp [K5, ih]; omega
theorem a31 {ss : List b6} {k : Nat} (h : k < ss.length) : K5 (ss.take (k + 1)) = K5 (ss.take k) + nS ss[k] := by
 rw [j9 _ _ h, ar5]; simp [K5]
theorem aK0 (ss : List b6) (k : Nat) : K5 (ss.take k) ≤ K5 ss := by
 have := ar5 (ss.take k) (ss.drop k)
 rw [List.take_append_drop] at this
 omega
theorem ai5 (s : b6) : nS s = 1 + K5 s.body + K5 s.els := by cases s; simp only [nS]; rfl
theorem R7 {nv na d : Nat} {s : b6} (h : c8 nv na (d + 1) s = true) : s.body.all (c8 nv na d) = true ∧ s.els.all (c8 nv na d) = true := by
 rw [c8, bL3] at h
 obtain ⟨h1, h2⟩ := h
 unfold j4 at h1
 by_cases k3 : s.kind = 3
 ·rw [if_neg (by omega), if_neg (by omega), if_pos k3] at h2
  simp only [bL3] at h2
  exact ⟨h2.1.2, h2.2⟩
 by_cases k4 : s.kind = 4
 ·rw [if_neg (by omega), if_neg (by omega), if_neg (by omega), if_pos k4] at h2
  rw [if_pos (.inr k4), if_pos k4] at h1
  simp only [bL3, decide_eq_true_eq] at h1
  exact ⟨h2, by rw [bN7 h1.2.1.1.1.1]; rfl⟩
 ·rw [if_neg (by omega)] at h1
  simp only [bL3, decide_eq_true_eq] at h1
  exact ⟨by rw [bN7 h1.1.1.1]; rfl, by rw [bN7 h1.1.1.2]; rfl⟩
theorem ax4 (s : b6) : c9 s.body ≤ A7 s ∧ c9 s.els ≤ A7 s := by
 rcases s with ⟨_, _, _, _, _, b, e⟩
 simp only [A7, b6.body, b6.els]
 omega
theorem aL3 {nv na : Nat} : ∀ {ss : List b6}, (∀ s ∈ ss, c8 nv na 1 s = true) → K5 ss = ss.length
 | [], _ => rfl
 | s :: r, h => by
  have h1 := R7 (h s bM7)
  have key : ∀ l : List b6, l.all (c8 nv na 0) = true → l = [] := fun l hl => by
   cases l with
   | nil => rfl
   | cons a r => simp [c8] at hl
  have h2 := aL3 (ss := r) fun x hx => h x (bN4 _ hx)
  rw [K5, ai5, key _ h1.1, key _ h1.2, h2]
  simp [K5]; omega
def f8 (x y : Int) : Int := IntKind.i64.wrap ((BitVec.ofInt (IntKind.bits .i64) x ||| BitVec.ofInt (IntKind.bits .i64) y).toNat : Int)
def bn4 (x y : Int) : Int := IntKind.i64.wrap ((BitVec.ofInt (IntKind.bits .i64) x &&& BitVec.ofInt (IntKind.bits .i64) y).toNat : Int)
def aP2 (x y : Int) : Int := IntKind.i64.wrap ((BitVec.ofInt (IntKind.bits .i64) x ^^^ BitVec.ofInt (IntKind.bits .i64) y).toNat : Int)
theorem d8.dup {P : Program} {f : FuncId} {args args' : List AV} {S S' : List It} {d : D} {res : AV} {i : Nat} (hc : d8.ok P ⟨f, args, S ++ [.dat d], S' ++ [.dat d], res⟩) (hi : S[i]? = some (.dat d)) (hl : S'.length = S.length)
  (hS : S.all (fun x => H8 S.length x.ids) = true) (ha : ∀ ρ : Nat → Value, ρ S.length = ρ i → AV.vals ρ args = AV.vals ρ args') (hg : H8 S.length (AV.idsL args') = true) : d8.ok P ⟨f, args', S, S', res⟩ := by
 intro ι φ ψ w0 w F ρ M
 have hi' : j6 S i = .dat d := by simp [j6, hi]
 have hlt : i < S.length := (bM0.1 hi).1
 have hinv : Inv (j6 S) ρ [S.length] := fun ρ' h j => by
  by_cases hj : j < S.length
  ·refine It.res_congr _ (fun k hk => h k ?_) (.inr (.inr (h j (by simp; omega))))
   have h1 := t0 (bL7.1 hS (S[j]) (bN6 hj)) k (by simpa [j6, bL4, bL5 hj] using hk)
   simp; omega
  ·rw [show j6 S j = .none by simp only [j6, bL4, bM8 (Nat.le_of_not_lt hj)]; rfl]; rfl
 obtain ⟨ρ', h1, M1, h2⟩ := M.newDat (id := S.length) (by simp [j6]) hinv (M.datAt hi')
 have e : i7 (j6 S) [(S.length, .dat d)] = j6 (S ++ [.dat d]) := by
  funext j
  simp only [i7, j6, bL4]
  by_cases hj : j = S.length
  ·subst hj; simp
  ·rw [if_neg hj]
   by_cases hj2 : j < S.length
   ·rw [bN2 hj2]
   ·rw [bM8 (by omega), bM8 (by simp; omega)]
 rw [e] at M1
 have hρ : ρ' i = ρ i := h1 i (by simp; omega)
 have ea : AV.vals ρ args' = AV.vals ρ' args := by
  rw [ha ρ' (by rw [← h2, hρ])]
  exact (AV.vals_congr _ fun k hk => by
   have := t0 hg k hk
   exact h1 k (by simp; omega)).symm
 simp only
 rw [ea]
 refine (hc ι φ ψ w0 w F ρ' M1).mono ?_
 rintro x w' ⟨ρ2, g1, g2, M2⟩
 refine ⟨ρ2, fun k hk => ?_, g2, ?_⟩
 ·rw [g1 k (by simp; omega)]; exact h1 k (by simp; omega)
 ·refine M2.map (fun k => match k with | .inl i => some (.inl i) | .inr j => if j < S'.length then some (.inr j) else none) ?_ ?_
  ·intro k k' x h1 h2
   match k, k' with
   | .inl i, .inl i' => simp at h1 h2; rw [h1, h2]
   | .inl i, .inr j => simp at h1; subst h1; simp at h2
   | .inr j, .inl i => simp at h2; subst h2; simp at h1
   | .inr j, .inr j' => simp at h1 h2; rw [← h1.2] at h2; rw [Sum.inr.inj h2.2]
  ·intro k
   match k with
   | .inl i => exact .inl ⟨.inl i, rfl, rfl⟩
   | .inr j =>
    by_cases hj : j < S'.length
    ·refine .inl ⟨.inr j, by simp [hj], ?_⟩
     simp only [j0, j6, bL4, bN2 hj]
    ·refine .inr ?_
     simp only [j0, j6, bL4, bM8 (Nat.le_of_not_lt hj)]
     rfl
theorem z7 (e : b7) : d8.ok Try.prog ⟨192, [.agg [.v (.int .i64 e.kind), .v (.int .i64 e.value), .ref 0]], [.dat (.exprs e.kids)], [.dat (.exprs e.kids)], .v (.bool (noneB e))⟩ := by
  refine x6 17 Try.func192 [dE e.kids] [(0, eA e 0)] fun G => ?_; refine wp_seq (e6 G c4 [0, 1] [dE e.kids, .box (eL e 0)] [(1, .ptr 1 0), (2, bA false)] fun G => b5 (wp_seq ?_)); cases h0 : (e.kind == 0)
  · have q0 := ne_of_beq_false h0; refine e6 G (z6 (fc h0 (fc (b := false) rfl fz)) (us [(4, 6, 0), (1007, 1007, 0), (9, 12, 1), (1013, 1013, 1)])) [0] [dE e.kids] [(2, bA false)] fun G => b5 (wp_ret ?_); exact n9 false G [0] (by rw [bO1]; simp [noneB, h0, q0]; done)
  ·
   have q0 := eq_of_beq h0; cases h1 : (e.value == 0)
   · have q1 := ne_of_beq_false h1; refine e6 G (z6 (fc h0 (fc h1 fz)) (us [(4, 6, 0), (1007, 1007, 0), (9, 12, 1), (1013, 1013, 1)])) [0] [dE e.kids] [(2, bA false)] fun G => b5 (wp_ret ?_); exact n9 false G [0] (by rw [bO1]; simp [noneB, h0, q0, h1, q1]; done)
   · have q1 := eq_of_beq h1; refine e6 G (z6 (fc h0 (fc h1 fz)) (us [(4, 6, 0), (1007, 1007, 0), (9, 12, 1), (1013, 1013, 1)])) [0] [dE e.kids] [(2, bA ((e.kids.length : Int) == 0))] fun G => b5 (wp_ret ?_); exact n9 ((e.kids.length : Int) == 0) G [0] (by rw [bO1]; simp [noneB, h0, q0, h1, q1]; done)
theorem X3 (e : b7) : d8.ok Try.prog ⟨239, [.agg [.v (.int .i64 e.kind), .v (.int .i64 e.value), .ref 0]], [.dat (.exprs e.kids)], [.dat (.exprs e.kids)], .v (.bool (noneB e))⟩ := by
  refine x6 17 Try.func239 [dE e.kids] [(0, eA e 0)] fun G => ?_; refine wp_seq (e6 G c4 [0, 1] [dE e.kids, .box (eL e 0)] [(1, .ptr 1 0), (2, bA false)] fun G => b5 (wp_seq ?_)); cases h0 : (e.kind == 0)
  · have q0 := ne_of_beq_false h0; refine e6 G (z6 (fc h0 (fc (b := false) rfl fz)) (us [(4, 6, 0), (1007, 1007, 0), (9, 12, 1), (1013, 1013, 1)])) [0] [dE e.kids] [(2, bA false)] fun G => b5 (wp_ret ?_); exact n9 false G [0] (by rw [bO1]; simp [noneB, h0, q0]; done)
  ·
   have q0 := eq_of_beq h0; cases h1 : (e.value == 0)
   · have q1 := ne_of_beq_false h1; refine e6 G (z6 (fc h0 (fc h1 fz)) (us [(4, 6, 0), (1007, 1007, 0), (9, 12, 1), (1013, 1013, 1)])) [0] [dE e.kids] [(2, bA false)] fun G => b5 (wp_ret ?_); exact n9 false G [0] (by rw [bO1]; simp [noneB, h0, q0, h1, q1]; done)
   · have q1 := eq_of_beq h1; refine e6 G (z6 (fc h0 (fc h1 fz)) (us [(4, 6, 0), (1007, 1007, 0), (9, 12, 1), (1013, 1013, 1)])) [0] [dE e.kids] [(2, bA ((e.kids.length : Int) == 0))] fun G => b5 (wp_ret ?_); exact n9 ((e.kids.length : Int) == 0) G [0] (by rw [bO1]; simp [noneB, h0, q0, h1, q1]; done)
theorem Z8 (k : Int) : d8.ok Try.prog ⟨210, [.v (.int .i64 k)], [], [], .v (.int .i64 (i8 k))⟩ := by
  refine x6 23 Try.func210 [] [(0, iA k)] fun G => ?_; refine wp_seq (d9 G c4 [(2, iA 0)] fun G => b5 (wp_seq (wp_block (wp_seq ?_)))); cases h0 : (k == 1)
  ·
   have q0 := ne_of_beq_false h0; refine d9 G (z6 (fc h0 fz) [(3, 0), (4, 0), (1005, 0)]) [(3, bA (k == 2))] fun G => b5 (I7 G (fun h1 q1 => ?_) fun h1 q1 => ?_)
   ·
    refine wp_seq (d9 G c4 [(10, bA (k == 3))] fun G => b5 (I7 G (fun h2 q2 => ?_) fun h2 q2 => ?_))
    ·
     refine wp_seq ?_; cases h3 : (decide (k ≥ 4))
     ·
      have q3 := O0 h3; refine d9 G (z6 (fc h3 fz) [(3, 0), (4, 0), (1005, 0)]) [(13, bA false)] fun G => b5 (rF G false (by kernel_rfl) (wp_seq (B7 G c4 [(2, iA 0), (20, bA (k == 11))] fun G => b5 ?_))); cases h4 : (k == 11)
      · have q4 := ne_of_beq_false h4; refine rF G _ h4 (wp_skip (j8 (b5 (wp_seq (d9 G c4 [(2, iA (-1))] fun G => b5 (wp_ret ?_)))))); exact L2 (-1) G [] (by unfold i8; (repeat' split) <;> omega)
      · have q4 := eq_of_beq h4; exact False.elim (by omega)
     ·
      have q3 := N9 h3; refine d9 G (z6 (fc h3 fz) [(3, 0), (4, 0), (1005, 0)]) [(13, bA (decide (k ≤ 10)))] fun G => b5 (M7 G (fun h5 q5 => ?_) fun h5 q5 => ?_)
      ·
       refine wp_seq (d9 G c4 [(20, bA (k == 11))] fun G => b5 (I7 G (fun h6 q6 => ?_) fun h6 q6 => ?_))
       · refine wp_skip (j8 (b5 (wp_seq (d9 G c4 [(2, iA (-1))] fun G => b5 (wp_ret ?_))))); exact L2 (-1) G [] (by unfold i8; (repeat' split) <;> omega)
       · refine wp_seq (d9 G c4 [(2, iA 3)] fun G => b5 (wp_ret (r7 (d7 ?_)))); exact L2 3 G [] (by unfold i8; (repeat' split) <;> omega)
      · refine wp_seq (d9 G c4 [(2, iA 2)] fun G => b5 (wp_ret (r7 (d7 ?_)))); exact L2 2 G [] (by unfold i8; (repeat' split) <;> omega)
    · refine wp_seq (d9 G c4 [(2, iA 1)] fun G => b5 (wp_ret (r7 (d7 ?_)))); exact L2 1 G [] (by unfold i8; (repeat' split) <;> omega)
   · refine wp_seq (d9 G c4 [] fun G => b5 (wp_ret (r7 (d7 ?_)))); exact L2 0 G [] (by unfold i8; (repeat' split) <;> omega)
  · have q0 := eq_of_beq h0; refine d9 G (z6 (fc h0 fz) [(3, 0), (4, 0), (1005, 0)]) [(3, bA true)] fun G => b5 (rT G true (by kernel_rfl) (wp_seq (d9 G c4 [] fun G => b5 (wp_ret (r7 (d7 ?_)))))); exact L2 0 G [] (by unfold i8; (repeat' split) <;> omega)
theorem au5 (e : b7) : d8.ok Try.prog ⟨212, [.agg [.v (.int .i64 e.kind), .v (.int .i64 e.value), .ref 0]], [.dat (.exprs e.kids)], [.dat (.exprs e.kids)], .v (.bool (atomB e))⟩ := by
 refine x6 11 Try.func212 [dE e.kids] [(0, eA e 0)] fun G => ?_; refine wp_seq (e6 G c4 [0, 1] [dE e.kids, .box (eL e 0)] [(1, .ptr 1 0), (2, bA false)] fun G => b5 (wp_seq ?_)); cases h0 : (e.kind == 1)
 ·have q0 := ne_of_beq_false h0; refine e6 G (z6 (fc h0 fz) [(4, 0), (5, 0), (6, 0), (1007, 0)]) [0] [dE e.kids] [(2, bA (e.kind == 2))] fun G => b5 (wp_ret ?_); exact n9 (e.kind == 2) G [0] (by rw [bO1]; simp [atomB, h0, q0]; done)
 ·have q0 := eq_of_beq h0; refine e6 G (z6 (fc h0 fz) [(4, 0), (5, 0), (6, 0), (1007, 0)]) [0] [dE e.kids] [(2, bA true)] fun G => b5 (wp_ret ?_); exact n9 true G [0] (by rw [bO1]; simp [atomB, h0, q0]; done)
theorem a52 (vs ars : List Int) (b : List b6) (k : Int) : d8.ok Try.prog ⟨211, [.agg [.ref 0, .ref 1, .ref 2], .v (.int .i64 k)], [.dat (.ints vs), .dat (.ints ars), .dat (.stmts b)], [.dat (.ints vs), .dat (.ints ars), .dat (.stmts b)], .v (.int .i64 (y5 vs.length ars.length k))⟩ := by
  refine x6 18 Try.func211 [dI vs, dI ars, dT b] [(0, pA 0), (1, iA k)] fun G => ?_; refine wp_seq (e6 G c4 (rg 4) [dI vs, dI ars, dT b, .box (pL 0)] [(1, iA k), (2, .ptr 3 0), (4, iA 0)] fun G => b5 (wp_seq (wp_seq (d9 G c4 [(5, iA k)] fun G => b5 (wp_block (wp_seq (d9 G c4 [(6, bA (k == 1))] fun G => b5 (I7 G (fun h0 q0 => ?_) fun h0 q0 => ?_))))))))
  ·
   refine wp_seq (d9 G c4 [(8, bA (k == 2))] fun G => b5 (I7 G (fun h1 q1 => ?_) fun h1 q1 => ?_))
   ·
    refine wp_seq (d9 G c4 [(13, bA (k == 3))] fun G => b5 (I7 G (fun h2 q2 => ?_) fun h2 q2 => ?_))
    · refine wp_skip (j8 (b5 (wp_seq (e6 G c4 [0, 1, 2] [dI vs, dI ars, dT b] [(4, iA 1)] fun G => b5 (wp_ret ?_))))); exact L2 1 G [0, 1, 2] (by unfold y5; (repeat' split) <;> omega)
    · refine wp_seq (e6 G c4 [0, 1, 2] [dI vs, dI ars, dT b] [(4, iA (ars.length : Int))] fun G => b5 (wp_ret (r7 (d7 ?_)))); exact L2 ((ars.length : Int)) G [0, 1, 2] (by unfold y5; (repeat' split) <;> omega)
   · refine wp_seq (e6 G c4 [0, 1, 2] [dI vs, dI ars, dT b] [(4, iA (vs.length : Int))] fun G => b5 (wp_ret (r7 (d7 ?_)))); exact L2 ((vs.length : Int)) G [0, 1, 2] (by unfold y5; (repeat' split) <;> omega)
  · refine wp_seq (e6 G c4 [0, 1, 2] [dI vs, dI ars, dT b] [(4, iA 256)] fun G => b5 (wp_ret (r7 (d7 ?_)))); exact L2 256 G [0, 1, 2] (by unfold y5; (repeat' split) <;> omega)
theorem aO4 {α : Type} {l : List α} {k : Nat} {p : α → Bool} {z : α} (h : (l.take k).all p = true) (hk : k < l.length) (hp : p (l.getD k z) = true) : (l.take (k + 1)).all p = true := by
 rw [P1 p l k hk, h, ← i9 (d := z) hk, hp]; rfl
theorem av4 {α : Type} {l : List α} {k : Nat} {p : α → Bool} (h : (l.take k).all p = true) (hk : l.length ≤ k) : l.all p = true := by
 rw [bM5 hk] at h; exact h
section
variable {nv na d : Nat} {e : b7}
theorem bi5 (h : ¬ (e.kids.length : Int) = i8 e.kind) : c3 nv na (d + 1) e = false := by simp [c3, s4, h]
theorem bi4 (h : e.value < 0) : c3 nv na (d + 1) e = false := by
 have : ¬ 0 ≤ e.value := by omega
 simp [c3, s4, this]
theorem bi3 (h : y5 nv na e.kind ≤ e.value) : c3 nv na (d + 1) e = false := by
 have : ¬ e.value < y5 nv na e.kind := by omega
 simp [c3, s4, this]
theorem bi2 {k : Nat} {z : b7} (hk : k < e.kids.length) (h : c3 nv na d (e.kids.getD k z) = false) : c3 nv na (d + 1) e = false := by
 rw [i9 hk] at h
 have : e.kids.all (c3 nv na d) = false := am7 hk h
 simp [c3, this]
theorem aQ4 (h1 : (e.kids.length : Int) = i8 e.kind) (h2 : ¬ e.value < 0) (h3 : ¬ y5 nv na e.kind ≤ e.value) : s4 nv na e = true := by
 unfold s4; rw [decide_eq_true h1, decide_eq_true (by omega), decide_eq_true (by omega)]; rfl
theorem bi1 (hn : s4 nv na e = true) (ha : e.kids.all (c3 nv na d) = true) (h : ¬ e.kind = 3) : c3 nv na (d + 1) e = true := by
 rw [c3, hn, ha]; simp [H6, h]
theorem bi0 (hn : s4 nv na e = true) (ha : e.kids.all (c3 nv na d) = true) (h : e.kind = 3) (hl : 0 < e.kids.length) : c3 nv na (d + 1) e = atomB (e.kids.getD 0 bL2) := by
 rw [c3, hn, ha, ay4 h hl, i9 hl]; simp [atomB]
theorem aA1 (h1 : (e.kids.length : Int) = i8 e.kind) (h : e.kind = 3) : 0 < e.kids.length := by
 rw [h] at h1; simp [i8] at h1; omega
end
theorem aU2 (vs ars : List Int) (b : List b6) (e : b7) (n : Int) (hn : n = 0) : d8.ok Try.prog ⟨167, [.agg [.ref 0, .ref 1, .ref 2], .agg [.v (.int .i64 e.kind), .v (.int .i64 e.value), .ref 3], .v (.int .i64 n)], [.dat (.ints vs), .dat (.ints ars), .dat (.stmts b), .dat (.exprs e.kids)], [.dat (.ints vs), .dat (.ints ars), .dat (.stmts b), .dat (.exprs e.kids)], .v (.bool (c3 vs.length ars.length 0 e))⟩ := by
 have h100 : decide (n < 1) = true := by simp; omega
 refine x6 60 Try.func167 [dI vs, dI ars, dT b, dE e.kids] [(0, pA 0), (1, eA e 3), (2, iA n)] fun G => ?_; refine wp_seq (e6 G c4 [0, 1, 2, 3, 4, 12] [dI vs, dI ars, dT b, dE e.kids, .box (pL 0), .box (eL e 3)] [(2, iA n), (3, .ptr 4 0), (4, .ptr 5 0), (6, bA false)] fun G => b5 (wp_seq (wp_seq (a28 G (z6 (fc (a := decide (n < 1)) (b := true) (by assumption) (fc (b := true) rfl fz)) (us [(3, 9, 0), (1010, 1010, 0), (12, 14, 1), (1015, 1015, 1), (17, 23, 1), (1024, 1024, 1)])) [0, 1, 3, 7, 15, 31, 7, 71, 199, 511, 1023, 2047, 4095, 8191, 16383, 32767, 65535, 131071, 262143, 131071, 131071, 1179647, 3801087, 8388607, 16777215] [(32, bA true)] fun G => b5 (rT G true (by kernel_rfl) (wp_seq (d9 G c4 [] fun G => b5 (wp_ret (d7 ?_))))))))); exact C4 G (rg 4)
theorem aU1 (vs ars : List Int) (b : List b6) (d : Nat) (hd : d ≤ 5) (ih : ∀ (e : b7) (n : Int), n = d → d8.ok Try.prog ⟨167, [.agg [.ref 0, .ref 1, .ref 2], .agg [.v (.int .i64 e.kind), .v (.int .i64 e.value), .ref 3], .v (.int .i64 n)], [.dat (.ints vs), .dat (.ints ars), .dat (.stmts b), .dat (.exprs e.kids)], [.dat (.ints vs), .dat (.ints ars), .dat (.stmts b), .dat (.exprs e.kids)], .v (.bool (c3 vs.length ars.length d e))⟩)
    (e : b7) (n : Int) (hn : n = (d + 1 : Nat)) : d8.ok Try.prog ⟨167, [.agg [.ref 0, .ref 1, .ref 2], .agg [.v (.int .i64 e.kind), .v (.int .i64 e.value), .ref 3], .v (.int .i64 n)], [.dat (.ints vs), .dat (.ints ars), .dat (.stmts b), .dat (.exprs e.kids)], [.dat (.ints vs), .dat (.ints ars), .dat (.stmts b), .dat (.exprs e.kids)], .v (.bool (c3 vs.length ars.length (d + 1) e))⟩ := by
  have h100 : decide (n < 1) = false := by simp; omega
  refine x6 60 Try.func167 [dI vs, dI ars, dT b, dE e.kids] [(0, pA 0), (1, eA e 3), (2, iA n)] fun G => ?_; refine wp_seq (e6 G c4 [0, 1, 2, 3, 4, 12] [dI vs, dI ars, dT b, dE e.kids, .box (pL 0), .box (eL e 3)] [(2, iA n), (3, .ptr 4 0), (4, .ptr 5 0), (6, bA false)] fun G => b5 (wp_seq (wp_seq ?_))); cases h0 : ((e.kids.length : Int) != i8 e.kind)
  ·
   have q0 := bne_eq_false_iff_eq.1 h0; cases h1 : (decide (e.value < 0))
   ·
    have q1 := O0 h1; refine a28 G (m0 (f6 8 [] (Z8 e.kind) (f6 22 [0, 1, 2] (a52 vs ars b e.kind) l9)) (fc (a := decide (n < 1)) (b := false) (by assumption) (fc h0 (fc h1 fz))) (us [(3, 9, 0), (1010, 1010, 0), (12, 14, 1), (1015, 1015, 1), (17, 23, 2), (1024, 1024, 2)])) [0, 1, 3, 7, 15, 31, 7, 71, 199, 511, 1023, 2047, 4095, 8191, 16383, 32767, 65535, 131071, 262143, 131071, 131071, 1179647, 3801087, 8388607, 16777215] [(32, bA (decide (e.value ≥ y5 vs.length ars.length e.kind)))] fun G => b5 (M7 G (fun h2 q2 => ?_) fun h2 q2 => ?_)
    ·
     refine wp_skip (b5 (wp_seq (wp_seq (B7 G c4 [(2, iA n), (3, .ptr 4 0), (4, .ptr 5 0), (6, bA false), (7, iA 0)] fun G => b5 (wp_block ?_))))); refine m6 (κ := Nat) (fun k => k ≤ e.kids.length ∧ (e.kids.take k).all (c3 vs.length ars.length d) = true) (fun k => e.kids.length - k) (fun k => [dI vs, dI ars, dT b, dE e.kids, .box (pL 0), .box (eL e 3)]) (fun k => [(2, iA n), (3, .ptr 4 0), (4, .ptr 5 0), (6, bA false), (7, iA k)]) 0 (by simp [h100, h0, h1, h2]) (m8.at G _ _) ?_; clear G; intro k ρ a w hp G; have hlen : e.kids.length ≤ 9223372036854775807 := G.len 3 (d := .exprs e.kids) (by kernel_rfl); have hnode := aQ4 (nv := vs.length) (na := ars.length) q0 q1 q2; refine wp_seq (wp_seq (B7 G c4 [(2, iA n), (3, .ptr 4 0), (4, .ptr 5 0), (6, bA false), (7, iA k), (37, bA (decide ((k : Int) < e.kids.length)))] fun G => b5 (M7 G (fun h3 q3 => ?_) fun h3 q3 => ?_)))
     ·
      refine wp_exit (l8 (l8 (l5 (b5 (wp_seq ?_))))); cases h4 : (e.kind != 3)
      · have q4 := bne_eq_false_iff_eq.1 h4; refine S4 G (m0 (f6 8 [62] (au5 (e.kids.getD 0 bL2)) l9) (fc h4 fz) (us [(4, 8, 0), (1009, 1009, 0)])) (rg 4) [dI vs, dI ars, dT b, dE e.kids] [(6, bA (atomB (e.kids.getD 0 bL2)))] (iX 0 0 e.kids.length []) (iK (by have := aA1 q0 (by omega); omega) bM6) fun G => b5 (wp_ret ?_); exact n9 (atomB (e.kids.getD 0 bL2)) G (rg 4) (bi0 hnode (av4 hp.2 (by omega)) (by omega) (aA1 q0 (by omega)))
      · have q4 := bne_iff_ne.1 h4; refine e6 G (z6 (fc h4 fz) (us [(4, 8, 0), (1009, 1009, 0)])) (rg 4) [dI vs, dI ars, dT b, dE e.kids] [(6, bA true)] fun G => b5 (wp_ret ?_); exact n9 true G (rg 4) (bi1 hnode (av4 hp.2 (by omega)) (by omega))
     ·
      refine wp_skip (b5 (wp_seq (wp_block (wp_seq (P9 G (o9 8 [0, 1, 2, 46] (ih (e.kids.getD k bL2) (n - 1) (by omega))) [0, 0, 2, 0, 14, 30, 0, 64, 255, 511] [(49, .v (.bool !c3 vs.length ars.length d (e.kids.getD k bL2)))] (iX k k e.kids.length ((wO (n - 1)) :: [])) (iK (by omega) (o1 (by omega))) fun G => b5 ?_))))); cases h5 : (!c3 vs.length ars.length d (e.kids.getD k bL2))
      · have q5 : (c3 vs.length ars.length d (e.kids.getD k bL2)) = true := (Eq.mp (bM1 _) h5); refine rF G _ h5 (wp_skip (j8 (b5 (C8 G c4 [(7, iA ((k : Int) + 1))] [wO ((k : Int) + 1)] (o1 (by omega)) fun G => b5 ?_)))); exact N5 G (k + 1) (⟨by omega, aO4 hp.2 (by omega) (by assumption)⟩) (by omega) (rg 6)
      · have q5 : (c3 vs.length ars.length d (e.kids.getD k bL2)) = false := (Eq.mp (bL9 _) h5); refine rT G _ h5 (wp_seq (d9 G c4 [] fun G => b5 (wp_ret (r7 (d7 (d7 (r7 (d7 ?_)))))))); exact n9 false G (rg 4) (bi2 (k := k) (by omega) (by assumption))
    · refine wp_seq (d9 G c4 [] fun G => b5 (wp_ret (d7 ?_))); exact n9 false G (rg 4) (bi3 (by omega))
   · have q1 := N9 h1; refine a28 G (m0 (f6 8 [] (Z8 e.kind) l9) (fc (a := decide (n < 1)) (b := false) (by assumption) (fc h0 (fc h1 fz))) (us [(3, 9, 0), (1010, 1010, 0), (12, 14, 1), (1015, 1015, 1), (17, 23, 2), (1024, 1024, 2)])) [0, 1, 3, 7, 15, 31, 7, 71, 199, 511, 1023, 2047, 4095, 8191, 16383, 32767, 65535, 131071, 262143, 131071, 131071, 1179647, 3801087, 8388607, 16777215] [(32, bA true)] fun G => b5 (rT G true (by kernel_rfl) (wp_seq (d9 G c4 [] fun G => b5 (wp_ret (d7 ?_))))); exact n9 false G (rg 4) (bi4 (by omega))
  · have q0 := bne_iff_ne.1 h0; refine a28 G (m0 (f6 8 [] (Z8 e.kind) l9) (fc (a := decide (n < 1)) (b := false) (by assumption) (fc h0 (fc (b := true) rfl fz))) (us [(3, 9, 0), (1010, 1010, 0), (12, 14, 1), (1015, 1015, 1), (17, 23, 2), (1024, 1024, 2)])) [0, 1, 3, 7, 15, 31, 7, 71, 199, 511, 1023, 2047, 4095, 8191, 16383, 32767, 65535, 131071, 262143, 131071, 131071, 1179647, 3801087, 8388607, 16777215] [(32, bA true)] fun G => b5 (rT G true (by kernel_rfl) (wp_seq (d9 G c4 [] fun G => b5 (wp_ret (d7 ?_))))); exact n9 false G (rg 4) (bi5 (by omega))
theorem aK4 (vs ars : List Int) (b : List b6) : ∀ (d : Nat), d ≤ 5 → ∀ (e : b7) (n : Int), n = d → d8.ok Try.prog ⟨167, [.agg [.ref 0, .ref 1, .ref 2], .agg [.v (.int .i64 e.kind), .v (.int .i64 e.value), .ref 3], .v (.int .i64 n)], [.dat (.ints vs), .dat (.ints ars), .dat (.stmts b), .dat (.exprs e.kids)], [.dat (.ints vs), .dat (.ints ars), .dat (.stmts b), .dat (.exprs e.kids)], .v (.bool (c3 vs.length ars.length d e))⟩
 | 0, _, e, n, hn => aU2 vs ars b e n (by omega)
 | d + 1, hd, e, n, hn => aU1 vs ars b d (by omega) (aK4 vs ars b d (by omega)) e n hn
theorem au4 (vs ars : List Int) (b : List b6) (ky vy : Int) (ks : List b7) (n : Int) (hn : n = 5) : d8.ok Try.prog (E0 167 [pA 0, .agg [iA ky, iA vy, .ref 3], iA n] [dI vs, dI ars, dT b, dE ks] (bA (c3 vs.length ars.length 5 ⟨ky, vy, ks⟩))) := aK4 vs ars b 5 (by omega) ⟨ky, vy, ks⟩ n hn
def cnP (d : Nat) (ks : List b7) (k : Nat) : Nat := 1 + ((ks.take k).map (U9 d)).sum
theorem bF0 (d : Nat) (ks : List b7) : cnP d ks 0 = 1 := rfl
theorem aM4 {d : Nat} {ks : List b7} {k : Nat} (hk : k < ks.length) : cnP d ks (k + 1) = cnP d ks k + U9 d (ks.getD k bL2) := by
 unfold cnP
 rw [B8 ks k hk, List.map_append, List.sum_append, i9 hk]
 simp; omega
theorem bm0 {d : Nat} {e : b7} {k : Nat} (hk : e.kids.length ≤ k) : cnP d e.kids k = U9 (d + 1) e := by
 unfold cnP; rw [bM5 hk, U9]
section
variable {nv na d : Nat} {e : b7}
theorem aT2 (he : c3 nv na (d + 1) e = true) {k : Nat} (hk : k < e.kids.length) : c3 nv na d (e.kids.getD k bL2) = true := by
 rw [i9 hk]; exact (ad5 he).2 _ (bN6 hk)
theorem bE9 (hd : d ≤ 5) (he : c3 nv na d e = true) : U9 d e ≤ 1024 := by
 rw [aM3 nv na d e he]
 refine bN5 (a89 nv na d e he) ?_
 exact bN5 (Nat.pow_le_pow_right (by decide) hd) (by decide)
theorem bq0 (hd : d ≤ 4) (he : c3 nv na (d + 1) e = true) : ∀ k : Nat, k ≤ e.kids.length → cnP d e.kids k ≤ 1 + 1024 * k
 | 0, _ => by rw [bF0]; omega
 | k + 1, hk => by
  have h := bq0 hd he k (by omega)
  have h2 := bE9 (by omega) (aT2 he (show k < e.kids.length by omega))
  rw [aM4 (by omega)]
  omega
end
abbrev cnC (d : Nat) (e : b7) (n : Int) : d8 := E0 168 [eA e 0, iA n] (eS e) (iA (U9 d e : Nat))
theorem a24 (nv na d : Nat) (hd : d ≤ 4) (ih : ∀ (e : b7), c3 nv na d e = true → ∀ n : Int, n = d → d8.ok Try.prog (cnC d e n)) (e : b7) (he : c3 nv na (d + 1) e = true) (n : Int) (hn : n = (d + 1 : Nat)) : d8.ok Try.prog (cnC (d + 1) e n) := by
  have hk3 := (ad5 he).1; refine x6 29 Try.func168 [dE e.kids] [(0, eA e 0), (1, iA n)] fun G => ?_; refine wp_seq (e6 G c4 [0, 1] [dE e.kids, .box (eL e 0)] [(1, iA n), (2, .ptr 1 0), (4, iA 0)] fun G => b5 (wp_seq (d9 G c4 [(5, iA 1)] fun G => b5 (wp_seq (wp_seq (B7 G c4 [(1, iA n), (2, .ptr 1 0), (4, iA 0), (5, iA 1), (6, iA 0)] fun G => b5 (wp_block ?_))))))); refine m6 (κ := Nat) (fun k => k ≤ e.kids.length) (fun k => e.kids.length - k) (fun k => [dE e.kids, .box (eL e 0)]) (fun k => [(1, iA n), (2, .ptr 1 0), (4, iA 0), (5, iA (cnP d e.kids k : Nat)), (6, iA k)]) 0 (by omega) (m8.at G _ _) ?_; clear G; intro k ρ a w hp G; replace G := m8.at G [dE e.kids, .box (eL e 0)] [(1, iA n), (2, .ptr 1 0), (4, iA 0), (5, iA (↑(cnP d e.kids k) : Int)), (6, iA k)]; have hcb := bq0 hd he k hp; refine wp_seq (wp_seq ?_); cases h0 : (decide ((k : Int) < e.kids.length))
  · have q0 := O0 h0; refine d9 G (z6 (fc h0 fz) [(6, 0), (7, 0), (1008, 0)]) [(15, bA false)] fun G => b5 (rF G false (by kernel_rfl) (wp_exit (l8 (l8 (l5 (b5 (wp_seq (e6 G c4 [0] [dE e.kids] [(4, iA (↑(cnP d e.kids k) : Int))] fun G => b5 (wp_ret ?_))))))))); exact L2 ((↑(cnP d e.kids k) : Int)) G [0] (by rw [← bm0 (k := k) (by omega)]; done)
  ·
   have q0 := N9 h0; refine B7 G (z6 (fc h0 fz) [(6, 0), (7, 0), (1008, 0)]) [(1, iA n), (2, .ptr 1 0), (4, iA 0), (5, iA (↑(cnP d e.kids k) : Int)), (6, iA k), (15, bA (decide (n > 0)))] fun G => b5 ?_; cases h1 : (decide (n > 0))
   · have q1 := O0 h1; exact False.elim (by omega)
   · have q1 := N9 h1; refine rT G _ h1 (wp_skip (b5 (wp_seq (wp_block (C8 G (o9 8 [42] (ih (e.kids.getD k bL2) (aT2 he (by omega)) (n - 1) (by omega))) [(5, iA ((↑(cnP d e.kids k) : Int) + (↑(U9 d (e.kids.getD k bL2)) : Int)))] (iX k k e.kids.length ((wO (n - 1)) :: ((wO ((↑(cnP d e.kids k) : Int) + (↑(U9 d (e.kids.getD k bL2)) : Int))) :: []))) (iK (by omega) ⟨oW (by omega), ⟨(by have h9 := bE9 (nv := nv) (na := na) (d := d) (by omega) (aT2 he (show k < e.kids.length by omega)); exact w64 (by omega) (by omega)), bM6⟩⟩) fun G => j8 (b5 (C8 G c4 [(6, iA ((k : Int) + 1))] [wO ((k : Int) + 1)] (o1 (by omega)) fun G => b5 ?_))))))); exact N5 G (k + 1) (by omega) (by omega) [0, 1] (ht := by have e1 : ((↑(cnP d e.kids (k + 1)) : Int) : Int) = ((↑(cnP d e.kids k) : Int) + (↑(U9 d (e.kids.getD k bL2)) : Int)) := (by rw [aM4 (by omega)]; omega); (first | rw [e1] | simp only [e1]) <;> rfl)
theorem aK5 (nv na : Nat) : ∀ (d : Nat), d ≤ 5 → ∀ (e : b7), c3 nv na d e = true → ∀ n : Int, n = d → d8.ok Try.prog (cnC d e n)
 | 0, _, e, h, _, _ => by simp [c3] at h
 | d + 1, hd, e, h, n, hn => a24 nv na d (by omega) (aK5 nv na d (by omega)) e h n hn
theorem aU5 (nv na : Nat) (ky vy : Int) (ks : List b7) (n : Int) (hn : n = 5) (h : c3 nv na 5 ⟨ky, vy, ks⟩ = true) : d8.ok Try.prog (E0 168 [.agg [iA ky, iA vy, .ref 0], iA n] [dE ks] (iA (U9 5 ⟨ky, vy, ks⟩ : Nat))) := aK5 nv na 5 (by omega) ⟨ky, vy, ks⟩ h n hn
theorem bH2 {nv na : Nat} {e : b7} (h : c3 nv na 5 ⟨e.kind, e.value, e.kids⟩ = false) : f5 nv na e = false := by
 rw [b7.eta] at h
 unfold f5; rw [h]; rfl
theorem bH1 {nv na : Nat} {e : b7} (h : c3 nv na 5 ⟨e.kind, e.value, e.kids⟩ = true) : f5 nv na e = decide ((U9 5 ⟨e.kind, e.value, e.kids⟩ : Int) ≤ 15) := by
 rw [b7.eta] at h ⊢
 rw [aQ9, h, Bool.true_and, bO1]
 simp only [decide_eq_true_eq]; omega
section
variable {s : b6}
theorem bH9 (h : s.kind = 4) (h2 : ¬ (s.els.length : Int) = 0) : j4 s = false := by
 unfold j4; rw [if_pos (.inr h), if_pos h, decide_eq_false (p := s.els.length = 0) (by omega)]; simp
theorem bI2 (h : s.kind = 4) (h1 : s.target = 0) (h2 : (s.els.length : Int) = 0) (h3 : s.count ≥ 1) (h4 : s.count ≤ 3) (h5 : noneB s.index = true) : j4 s = noneB s.value := by
 unfold j4; rw [if_pos (.inr h), if_pos h, decide_eq_true (p := s.els.length = 0) (by omega), decide_eq_true h1, decide_eq_true (p := 1 ≤ s.count) h3, decide_eq_true h4, h5]; simp
theorem bI1 (h3 : ¬ s.kind = 3) (h4 : ¬ s.kind = 4) (b : ¬ (s.body.length : Int) > 0) (e : ¬ (s.els.length : Int) > 0) (c : s.count = 0) (h2 : ¬ s.kind = 2) : j4 s = noneB s.index := by
 unfold j4; rw [if_neg (by omega), decide_eq_true (p := s.body.length = 0) (by omega), decide_eq_true (p := s.els.length = 0) (by omega), decide_eq_true c, decide_eq_false h2]; simp
theorem bI0 (b : ¬ (s.body.length : Int) > 0) (e : ¬ (s.els.length : Int) > 0) (c : s.count = 0) (h2 : s.kind = 2) : j4 s = true := by
 unfold j4; rw [if_neg (by omega), decide_eq_true (p := s.body.length = 0) (by omega), decide_eq_true (p := s.els.length = 0) (by omega), decide_eq_true c, decide_eq_true h2]; simp
theorem bH8 (h3 : ¬ s.kind = 3) (h4 : ¬ s.kind = 4) (e : (s.els.length : Int) > 0) : j4 s = false := by
 unfold j4; rw [if_neg (by omega), decide_eq_false (p := s.els.length = 0) (by omega)]; simp
theorem bH7 (h3 : ¬ s.kind = 3) (h4 : ¬ s.kind = 4) (e : (s.body.length : Int) > 0) : j4 s = false := by
 unfold j4; rw [if_neg (by omega), decide_eq_false (p := s.body.length = 0) (by omega)]; simp
end
theorem A2 (p : b8) (e : b7) : d8.ok Try.prog (E0 100 [pA 0, eA e 3] (pS p ++ eS e) (bA (f5 p.vars.length p.arrays.length e))) := by
 have hcn := fun h => aU5 p.vars.length p.arrays.length e.kind e.value e.kids 5 rfl h
 refine x6 13 Try.func100 [dI p.vars, dI p.arrays, dT p.body, dE e.kids] [(0, pA 0), (1, eA e 3)] fun G => ?_; refine wp_seq (e6 G c4 [0, 1, 2, 3, 4, 12] [dI p.vars, dI p.arrays, dT p.body, dE e.kids, .box (pL 0), .box (eL e 3)] [(2, .ptr 4 0), (3, .ptr 5 0), (4, bA false)] fun G => b5 (wp_seq ?_)); cases h0 : (c3 p.vars.length p.arrays.length (5 : Nat) (m7 e))
 ·refine e6 G (m0 (f6 2 (rg 4) (au4 p.vars p.arrays p.body e.kind e.value e.kids 5 (by kernel_rfl)) l9) (fc h0 fz) [(4, 0), (5, 0), (6, 0), (1007, 0)]) (rg 4) [dI p.vars, dI p.arrays, dT p.body, dE e.kids] [(4, bA false)] fun G => b5 (wp_ret ?_); exact n9 false G (rg 4) (bH2 (by with_reducible assumption))
 ·refine e6 G (m0 (f6 2 (rg 4) (au4 p.vars p.arrays p.body e.kind e.value e.kids 5 (by kernel_rfl)) (f6 5 [3] (hcn (by assumption)) l9)) (fc h0 fz) [(4, 0), (5, 0), (6, 0), (1007, 0)]) (rg 4) [dI p.vars, dI p.arrays, dT p.body, dE e.kids] [(4, bA (decide ((↑(U9 5 (m7 e)) : Int) ≤ 15)))] fun G => b5 (wp_ret ?_); exact n9 (decide ((↑(U9 5 (m7 e)) : Int) ≤ 15)) G (rg 4) (bH1 (by with_reducible assumption))
abbrev an8 (s : b6) (r0 : List It) : List It := dE s.index.kids :: dE s.value.kids :: dT s.body :: dT s.els :: r0
theorem a51 (s : b6) : d8.ok Try.prog (E0 230 [sA s 0] (sS s) (bA (j4 s))) := by
  refine x6 74 Try.func230 (an8 s []) [(0, sA s 0)] fun G => ?_; refine wp_seq (e6 G c4 (rg 5) (an8 s [.box (sL s 0)]) [(1, .ptr 4 0), (2, bA false)] fun G => b5 (wp_seq ?_)); cases h0 : (s.kind == 3)
  ·
   have q0 := ne_of_beq_false h0; refine B7 G (z6 (fc h0 fz) [(4, 0), (5, 0), (6, 0), (1007, 0)]) [(1, .ptr 4 0), (2, bA false), (3, bA (s.kind == 4))] fun G => b5 (wp_seq (wp_seq ?_)); cases h1 : (!s.kind == 4)
   ·
    have q1 : s.kind = 4 := (fun hq => eq_of_beq hq) (Eq.mp (bM1 _) h1); cases h2 : (s.kind == 4)
    · have q2 := ne_of_beq_false h2; exact False.elim (by omega)
    ·
     have q2 := eq_of_beq h2; refine d9 G (z6 (fc h1 (fc (b := false) rfl (fc h2 fz))) (us [(3, 7, 0), (12, 12, 0), (1013, 1013, 0), (15, 16, 1), (17, 19, 2), (20, 20, 1), (1020, 1020, 2), (1021, 1021, 1)])) [(33, bA (s.target != 0))] fun G => b5 (rcN G (fun h3 q3 => ?_) fun h3 q3 => ?_)
     ·
      refine wp_skip (b5 (wp_seq (wp_seq (d9 G c4 [(36, bA (s.kind == 4))] fun G => b5 (rT G _ h2 (wp_seq ?_)))))); cases h4 : ((s.els.length : Int) == 0)
      · have q4 := ne_of_beq_false h4; refine d9 G (z6 (fc h4 (fc (b := false) rfl fz)) (us [(5, 7, 0), (1008, 1008, 0), (10, 12, 1), (1013, 1013, 1), (15, 17, 1), (1018, 1018, 1), (20, 22, 1), (1023, 1023, 1)])) [] fun G => b5 (wp_ret (d7 ?_)); exact n9 false G (rg 4) (bH9 (by omega) (by omega))
      ·
       have q4 := eq_of_beq h4; cases h5 : (decide (s.count ≥ 1))
       · have q5 := O0 h5; refine d9 G (z6 (fc h4 (fc h5 (fc (b := false) rfl fz))) (us [(5, 7, 0), (1008, 1008, 0), (10, 12, 1), (1013, 1013, 1), (15, 17, 2), (1018, 1018, 2), (20, 22, 2), (1023, 1023, 2)])) [] fun G => b5 (wp_ret (d7 ?_)); exact n9 false G (rg 4) (by rw [bO1]; simp [j4, h0, q0, h1, q1, h2, q2, h3, q3, h4, q4, h5, q5]; done)
       ·
        have q5 := N9 h5; cases h6 : (decide (s.count ≤ 3))
        · have q6 := O0 h6; refine d9 G (z6 (fc h4 (fc h5 (fc h6 (fc (b := false) rfl fz)))) (us [(5, 7, 0), (1008, 1008, 0), (10, 12, 1), (1013, 1013, 1), (15, 17, 2), (1018, 1018, 2), (20, 22, 3), (1023, 1023, 3)])) [] fun G => b5 (wp_ret (d7 ?_)); exact n9 false G (rg 4) (by rw [bO1]; simp [j4, h0, q0, h1, q1, h2, q2, h3, q3, h4, q4, h5, q5, h6, q6]; done)
        ·
         have q6 := N9 h6; cases h7 : (noneB s.index)
         · refine d9 G (m0 (f6 17 [0] (X3 s.index) l9) (fc h4 (fc h5 (fc h6 (fc h7 fz)))) (us [(5, 7, 0), (1008, 1008, 0), (10, 12, 1), (1013, 1013, 1), (15, 17, 2), (1018, 1018, 2), (20, 22, 3), (1023, 1023, 3)])) [] fun G => b5 (wp_ret (d7 ?_)); exact n9 false G (rg 4) (by rw [bO1]; simp [j4, h0, q0, h1, q1, h2, q2, h3, q3, h4, q4, h5, q5, h6, q6, h7]; done)
         · refine d9 G (m0 (f6 17 [0] (X3 s.index) (f6 22 [1] (X3 s.value) l9)) (fc h4 (fc h5 (fc h6 (fc h7 fz)))) (us [(5, 7, 0), (1008, 1008, 0), (10, 12, 1), (1013, 1013, 1), (15, 17, 2), (1018, 1018, 2), (20, 22, 3), (1023, 1023, 3)])) [(2, bA (noneB s.value))] fun G => b5 (wp_ret (d7 ?_)); exact n9 (noneB s.value) G (rg 4) (bI2 (by omega) (by omega) (by omega) (by omega) (by omega) (by with_reducible assumption))
     · refine wp_seq (d9 G c4 [] fun G => b5 (wp_ret (d7 ?_))); exact n9 false G (rg 4) (by rw [bO1]; simp [j4, h0, q0, h1, q1, h2, q2, h3, q3]; done)
   ·
    have q1 : ¬ (s.kind = 4) := (fun hq => ne_of_beq_false hq) (Eq.mp (bL9 _) h1); cases h8 : (decide ((s.body.length : Int) > 0))
    ·
     have q8 := O0 h8; cases h9 : (decide ((s.els.length : Int) > 0))
     ·
      have q9 := O0 h9; cases h10 : (s.kind == 4)
      ·
       have q10 := ne_of_beq_false h10; refine d9 G (z6 (fc h1 (fc h8 (fc h9 (fc h10 fz)))) (us [(3, 7, 0), (8, 11, 1), (12, 12, 0), (1012, 1012, 1), (1013, 1013, 0), (15, 16, 2), (17, 19, 3), (20, 20, 2), (1020, 1020, 3), (1021, 1021, 2)])) [(33, bA false)] fun G => b5 (rF G false (by kernel_rfl) (wp_skip (b5 (wp_seq (wp_seq (d9 G c4 [(36, bA (s.kind == 4))] fun G => b5 (rF G _ h10 (wp_skip (b5 (wp_seq ?_)))))))))); cases h11 : (s.count == 0)
       · have q11 := ne_of_beq_false h11; refine e6 G (z6 (fc h11 fz) (us [(4, 7, 0), (11, 11, 0), (1012, 1012, 0)])) (rg 4) (an8 s []) [(2, bA false)] fun G => b5 (wp_ret ?_); exact n9 false G (rg 4) (by rw [bO1]; simp [j4, h0, q0, h1, q1, h8, q8, h9, q9, h10, q10, h11, q11]; done)
       ·
        have q11 := eq_of_beq h11; cases h12 : (s.kind == 2)
        · have q12 := ne_of_beq_false h12; refine e6 G (m0 (f6 10 [0] (X3 s.index) l9) (fc h11 (fc h12 fz)) (us [(4, 7, 0), (8, 10, 1), (11, 11, 0), (1011, 1011, 1), (1012, 1012, 0)])) (rg 4) (an8 s []) [(2, bA (noneB s.index))] fun G => b5 (wp_ret ?_); exact n9 (noneB s.index) G (rg 4) (bI1 (by omega) (by omega) (by omega) (by omega) (by omega) (by omega))
        · have q12 := eq_of_beq h12; refine e6 G (z6 (fc h11 (fc h12 fz)) (us [(4, 7, 0), (8, 10, 1), (11, 11, 0), (1011, 1011, 1), (1012, 1012, 0)])) (rg 4) (an8 s []) [(2, bA true)] fun G => b5 (wp_ret ?_); exact n9 true G (rg 4) (bI0 (by omega) (by omega) (by omega) (by omega))
      · have q10 := eq_of_beq h10; exact False.elim (by omega)
     · have q9 := N9 h9; refine d9 G (z6 (fc h1 (fc h8 (fc h9 fz))) (us [(3, 7, 0), (8, 11, 1), (12, 12, 0), (1012, 1012, 1), (1013, 1013, 0), (15, 16, 2), (20, 20, 2), (1021, 1021, 2)])) [(33, bA true)] fun G => b5 (rT G true (by kernel_rfl) (wp_seq (d9 G c4 [] fun G => b5 (wp_ret (d7 ?_))))); exact n9 false G (rg 4) (bH8 (by omega) (by omega) (by omega))
    · have q8 := N9 h8; refine d9 G (z6 (fc h1 (fc h8 (fc (b := true) rfl fz))) (us [(3, 7, 0), (8, 11, 1), (12, 12, 0), (1012, 1012, 1), (1013, 1013, 0), (15, 16, 2), (20, 20, 2), (1021, 1021, 2)])) [(33, bA true)] fun G => b5 (rT G true (by kernel_rfl) (wp_seq (d9 G c4 [] fun G => b5 (wp_ret (d7 ?_))))); exact n9 false G (rg 4) (bH7 (by omega) (by omega) (by omega))
  ·
   have q0 := eq_of_beq h0; refine d9 G (z6 (fc h0 fz) [(4, 0), (5, 0), (6, 0), (1007, 0)]) [(3, bA true)] fun G => b5 (wp_seq (wp_seq (d9 G (z6 (fc (b := false) rfl (fc (b := true) rfl fz)) (us [(3, 7, 0), (12, 12, 0), (1013, 1013, 0), (15, 16, 0), (17, 19, 1), (20, 20, 0), (1020, 1020, 1), (1021, 1021, 0)])) [(33, bA (s.target != 0))] fun G => b5 (rcN G (fun h13 q13 => ?_) fun h13 q13 => ?_))))
   ·
    refine wp_skip (b5 (wp_seq (wp_seq (B7 G c4 [(1, .ptr 4 0), (2, bA false), (36, bA (s.kind == 4))] fun G => b5 ?_)))); cases h14 : (s.kind == 4)
    ·
     have q14 := ne_of_beq_false h14; refine rF G _ h14 (wp_skip (b5 (wp_seq ?_))); cases h15 : (s.count == 0)
     · have q15 := ne_of_beq_false h15; refine e6 G (z6 (fc h15 fz) (us [(4, 7, 0), (11, 11, 0), (1012, 1012, 0)])) (rg 4) (an8 s []) [(2, bA false)] fun G => b5 (wp_ret ?_); exact n9 false G (rg 4) (by rw [bO1]; simp [j4, h0, q0, h13, q13, h14, q14, h15, q15]; done)
     ·
      have q15 := eq_of_beq h15; cases h16 : (s.kind == 2)
      · have q16 := ne_of_beq_false h16; refine e6 G (m0 (f6 10 [0] (X3 s.index) l9) (fc h15 (fc h16 fz)) (us [(4, 7, 0), (8, 10, 1), (11, 11, 0), (1011, 1011, 1), (1012, 1012, 0)])) (rg 4) (an8 s []) [(2, bA (noneB s.index))] fun G => b5 (wp_ret ?_); exact n9 (noneB s.index) G (rg 4) (by rw [bO1]; simp [j4, h0, q0, h13, q13, h14, q14, h15, q15, h16, q16]; done)
      · have q16 := eq_of_beq h16; exact False.elim (by omega)
    · have q14 := eq_of_beq h14; exact False.elim (by omega)
   · refine wp_seq (d9 G c4 [] fun G => b5 (wp_ret (d7 ?_))); exact n9 false G (rg 4) (by rw [bO1]; simp [j4, h0, q0, h13, q13]; done)
abbrev vbC (p : b8) (d : Nat) (ss : List b6) (n : Int) : d8 := E0 141 [pA 0, .ref 3, iA n] (pS p ++ [dT ss]) (bA (ss.all (c8 p.vars.length p.arrays.length d)))
abbrev vsC (p : b8) (d : Nat) (s : b6) (n : Int) : d8 := E0 188 [pA 0, sA s 3, iA n] (pS p ++ sS s) (bA (c8 p.vars.length p.arrays.length d s))
theorem a23 (p : b8) (s : b6) (n : Int) (hn : n = 0) : d8.ok Try.prog (vsC p 0 s n) := by
 refine x6 96 Try.func188 [dI p.vars, dI p.arrays, dT p.body, dE s.index.kids, dE s.value.kids, dT s.body, dT s.els] [(0, pA 0), (1, sA s 3), (2, iA n)] fun G => ?_; refine wp_seq (e6 G c4 [0, 1, 2, 3, 4, 5, 6, 7, 15] [dI p.vars, dI p.arrays, dT p.body, dE s.index.kids, dE s.value.kids, dT s.body, dT s.els, .box (pL 0), .box (sL s 3)] [(2, iA n), (3, .ptr 7 0), (4, .ptr 8 0), (6, bA false)] fun G => b5 (wp_seq (wp_seq ?_))); cases h0 : (decide (n < 1))
 ·have q0 := O0 h0; exact False.elim (by omega)
 ·have q0 := N9 h0; refine d9 G (z6 (fc h0 fz) [(3, 0), (4, 0), (5, 0), (1006, 0)]) [(13, bA true)] fun G => b5 (rT G true (by kernel_rfl) (wp_seq (d9 G c4 [] fun G => b5 (wp_ret (d7 ?_))))); exact C4 G (rg 7)
section
variable {nv na d : Nat} {s : b6}
theorem bG7 (h : j4 s = false) : c8 nv na (d + 1) s = false := by rw [c8, h]; rfl
theorem br6 (hp : j4 s = true) (h : s.kind = 1 ∨ s.kind = 5) : c8 nv na (d + 1) s = (decide (0 ≤ s.target) && decide (s.target < nv) && f5 nv na s.value) := by rw [c8, hp, if_pos h]; rfl
theorem a86 (hp : j4 s = true) (h : s.kind = 2) : c8 nv na (d + 1) s = (decide (0 ≤ s.target) && decide (s.target < na) && f5 nv na s.index && atomB s.index && f5 nv na s.value) := by rw [c8, hp, if_neg (by omega), if_pos h]; rfl
theorem br5 (hp : j4 s = true) (h : s.kind = 3) : c8 nv na (d + 1) s = (f5 nv na s.value && s.body.all (c8 nv na d) && s.els.all (c8 nv na d)) := by rw [c8, hp, if_neg (by omega), if_neg (by omega), if_pos h]; rfl
theorem bG8 (hp : j4 s = true) (h : s.kind = 4) : c8 nv na (d + 1) s = s.body.all (c8 nv na d) := by rw [c8, hp, if_neg (by omega), if_neg (by omega), if_neg (by omega), if_pos h]; rfl
theorem bo7 (hp : j4 s = true) (h : s.kind = 1 ∨ s.kind = 5) (q : ¬ s.target ≥ 0) : c8 nv na (d + 1) s = false := by rw [br6 hp h, decide_eq_false (p := 0 ≤ s.target) q]; rfl
theorem bo6 (hp : j4 s = true) (h : s.kind = 1 ∨ s.kind = 5) (q : ¬ s.target < (nv : Int)) : c8 nv na (d + 1) s = false := by rw [br6 hp h, decide_eq_false q, Bool.and_false]; rfl
theorem bo5 (hp : j4 s = true) (h : s.kind = 1 ∨ s.kind = 5) (q : s.target ≥ 0) (r : s.target < (nv : Int)) : c8 nv na (d + 1) s = f5 nv na s.value := by rw [br6 hp h, decide_eq_true (p := 0 ≤ s.target) q, decide_eq_true r]; rfl
theorem bz9 (hp : j4 s = true) (h : s.kind = 2) (q : ¬ s.target ≥ 0) : c8 nv na (d + 1) s = false := by rw [a86 hp h, decide_eq_false (p := 0 ≤ s.target) q]; rfl
theorem bz8 (hp : j4 s = true) (h : s.kind = 2) (q : ¬ s.target < (na : Int)) : c8 nv na (d + 1) s = false := by rw [a86 hp h, decide_eq_false q, Bool.and_false]; rfl
theorem bz7 (hp : j4 s = true) (h : s.kind = 2) (q : f5 nv na s.index = false) : c8 nv na (d + 1) s = false := by rw [a86 hp h, q, Bool.and_false]; rfl
theorem bz6 (hp : j4 s = true) (h : s.kind = 2) (q : atomB s.index = false) : c8 nv na (d + 1) s = false := by rw [a86 hp h, q, Bool.and_false]; rfl
theorem bz5 (hp : j4 s = true) (h : s.kind = 2) (q : s.target ≥ 0) (r : s.target < (na : Int)) (u : f5 nv na s.index = true) (v : atomB s.index = true) : c8 nv na (d + 1) s = f5 nv na s.value := by rw [a86 hp h, decide_eq_true (p := 0 ≤ s.target) q, decide_eq_true r, u, v]; rfl
theorem bz4 (hp : j4 s = true) (h : s.kind = 3) (q : f5 nv na s.value = false) : c8 nv na (d + 1) s = false := by rw [br5 hp h, q]; rfl
theorem bz3 (hp : j4 s = true) (h : s.kind = 3) (q : s.body.all (c8 nv na d) = false) : c8 nv na (d + 1) s = false := by rw [br5 hp h, q, Bool.and_false]; rfl
theorem bz2 (hp : j4 s = true) (h : s.kind = 3) (q : f5 nv na s.value = true) (r : s.body.all (c8 nv na d) = true) : c8 nv na (d + 1) s = s.els.all (c8 nv na d) := by rw [br5 hp h, q, r]; rfl
theorem bG9 (h1 : ¬ s.kind = 1) (h2 : ¬ s.kind = 2) (h3 : ¬ s.kind = 3) (h4 : ¬ s.kind = 4) (h5 : ¬ s.kind = 5) : c8 nv na (d + 1) s = false := by rw [c8, if_neg (by omega), if_neg h2, if_neg h3, if_neg h4]; simp
end
abbrev F5 (p : b8) (s : b6) (r0 : List It) : List It := dI p.vars :: dI p.arrays :: dT p.body :: dE s.index.kids :: dE s.value.kids :: dT s.body :: dT s.els :: r0
theorem a92 (p : b8) (d : Nat) (hB : ∀ (ss : List b6) (n : Int), n = d → d8.ok Try.prog (vbC p d ss n)) (s : b6) (n : Int) (hn : n = (d + 1 : Nat)) (hd : d ≤ 5) : d8.ok Try.prog (vsC p (d + 1) s n) := by
  refine x6 96 Try.func188 (F5 p s []) [(0, pA 0), (1, sA s 3), (2, iA n)] fun G => ?_; refine wp_seq (e6 G c4 [0, 1, 2, 3, 4, 5, 6, 7, 15] (F5 p s [.box (pL 0), .box (sL s 3)]) [(2, iA n), (3, .ptr 7 0), (4, .ptr 8 0), (6, bA false)] fun G => b5 (wp_seq (wp_seq ?_))); cases h0 : (decide (n < 1))
  ·
   have q0 := O0 h0; refine d9 G (m0 (f6 4 [3, 4, 5, 6] (a51 s) l9) (fc h0 fz) [(3, 0), (4, 0), (5, 0), (1006, 0)]) [(13, .v (.bool !j4 s))] fun G => b5 ?_; cases h1 : (!j4 s)
   ·
    have q1 : (j4 s) = true := (Eq.mp (bM1 _) h1); refine rF G _ h1 (wp_skip (b5 (wp_seq (wp_seq (d9 G c4 [(15, iA s.kind)] fun G => b5 (wp_block (wp_seq (wp_seq (d9 G c4 [(16, bA (s.kind == 1))] fun G => b5 (I7 G (fun h2 q2 => ?_) fun h2 q2 => ?_))))))))))
    ·
     refine d9 G c4 [(16, bA (s.kind == 5))] fun G => b5 (I7 G (fun h3 q3 => ?_) fun h3 q3 => ?_)
     ·
      refine wp_seq (d9 G c4 [(36, bA (s.kind == 2))] fun G => b5 (I7 G (fun h4 q4 => ?_) fun h4 q4 => ?_))
      ·
       refine wp_seq (d9 G c4 [(66, bA (s.kind == 3))] fun G => b5 (I7 G (fun h5 q5 => ?_) fun h5 q5 => ?_))
       ·
        refine wp_seq (d9 G c4 [(88, bA (s.kind == 4))] fun G => b5 (I7 G (fun h6 q6 => ?_) fun h6 q6 => ?_))
        · refine wp_skip (j8 (b5 (wp_seq (e6 G c4 (rg 7) (F5 p s []) [(6, bA false)] fun G => b5 (wp_ret ?_))))); exact n9 false G (rg 7) (bG9 (by omega) (by omega) (by omega) (by omega) (by omega))
        · refine wp_seq (S4 G (o9 5 [0, 1, 2, 5] (hB s.body (n - 1) (by omega))) (rg 7) (F5 p s []) [(6, bA (s.body.all (c8 p.vars.length p.arrays.length d)))] [wO (n - 1)] (o1 (by omega)) fun G => b5 (wp_ret (r7 (d7 ?_)))); exact n9 (s.body.all (c8 p.vars.length p.arrays.length d)) G (rg 7) (bG8 (by with_reducible assumption) (by omega))
       ·
        refine wp_seq ?_; cases h7 : (f5 p.vars.length p.arrays.length s.value)
        · refine e6 G (m0 (f6 3 [0, 1, 2, 4] (A2 p s.value) l9) (fc h7 (fc (b := false) rfl fz)) (us [(5, 10, 0), (1011, 1011, 0), (13, 18, 1), (1019, 1019, 1)])) (rg 7) (F5 p s []) [(6, bA false)] fun G => b5 (wp_ret (r7 (d7 ?_))); exact n9 false G (rg 7) (bz4 (by with_reducible assumption) (by omega) (by with_reducible assumption))
        ·
         cases h8 : (s.body.all (c8 p.vars.length p.arrays.length d))
         · refine S4 G (m0 (f6 3 [0, 1, 2, 4] (A2 p s.value) (f6 10 [0, 1, 2, 5] (hB s.body (n - 1) (by omega)) l9)) (fc h7 (fc h8 fz)) (us [(5, 10, 0), (1011, 1011, 0), (13, 18, 1), (1019, 1019, 1)])) (rg 7) (F5 p s []) [(6, bA false)] [wO (n - 1)] (o1 (by omega)) fun G => b5 (wp_ret (r7 (d7 ?_))); exact n9 false G (rg 7) (bz3 (by with_reducible assumption) (by omega) (by with_reducible assumption))
         · refine S4 G (m0 (f6 3 [0, 1, 2, 4] (A2 p s.value) (f6 10 [0, 1, 2, 5] (hB s.body (n - 1) (by omega)) (f6 18 [0, 1, 2, 6] (hB s.els (n - 1) (by omega)) l9))) (fc h7 (fc h8 fz)) (us [(5, 10, 0), (1011, 1011, 0), (13, 18, 1), (1019, 1019, 1)])) (rg 7) (F5 p s []) [(6, bA (s.els.all (c8 p.vars.length p.arrays.length d)))] [wO (n - 1), wO (n - 1)] (o2 (by omega)) fun G => b5 (wp_ret (r7 (d7 ?_))); exact n9 (s.els.all (c8 p.vars.length p.arrays.length d)) G (rg 7) (bz2 (by with_reducible assumption) (by omega) (by with_reducible assumption) (by with_reducible assumption))
      ·
       refine wp_seq ?_; cases h9 : (decide (s.target ≥ 0))
       · have q9 := O0 h9; refine e6 G (z6 (fc h9 (fc (b := false) rfl fz)) (us [(4, 9, 0), (1010, 1010, 0), (12, 15, 1), (1016, 1016, 1), (18, 20, 1), (1021, 1021, 1), (23, 26, 1), (1027, 1027, 1)])) (rg 7) (F5 p s []) [(6, bA false)] fun G => b5 (wp_ret (r7 (d7 ?_))); exact n9 false G (rg 7) (bz9 (by with_reducible assumption) (by omega) (by omega))
       ·
        have q9 := N9 h9; cases h10 : (decide (s.target < (p.arrays.length : Int)))
        · have q10 := O0 h10; refine e6 G (z6 (fc h9 (fc h10 (fc (b := false) rfl fz))) (us [(4, 9, 0), (1010, 1010, 0), (12, 15, 1), (1016, 1016, 1), (18, 20, 2), (1021, 1021, 2), (23, 26, 2), (1027, 1027, 2)])) (rg 7) (F5 p s []) [(6, bA false)] fun G => b5 (wp_ret (r7 (d7 ?_))); exact n9 false G (rg 7) (bz8 (by with_reducible assumption) (by omega) (by omega))
        ·
         have q10 := N9 h10; cases h11 : (f5 p.vars.length p.arrays.length s.index)
         · refine e6 G (m0 (f6 15 (rg 4) (A2 p s.index) l9) (fc h9 (fc h10 (fc h11 (fc (b := false) rfl fz)))) (us [(4, 9, 0), (1010, 1010, 0), (12, 15, 1), (1016, 1016, 1), (18, 20, 2), (1021, 1021, 2), (23, 26, 3), (1027, 1027, 3)])) (rg 7) (F5 p s []) [(6, bA false)] fun G => b5 (wp_ret (r7 (d7 ?_))); exact n9 false G (rg 7) (bz7 (by with_reducible assumption) (by omega) (by with_reducible assumption))
         ·
          cases h12 : (atomB s.index)
          · refine e6 G (m0 (f6 15 (rg 4) (A2 p s.index) (f6 20 [3] (au5 s.index) l9)) (fc h9 (fc h10 (fc h11 (fc h12 fz)))) (us [(4, 9, 0), (1010, 1010, 0), (12, 15, 1), (1016, 1016, 1), (18, 20, 2), (1021, 1021, 2), (23, 26, 3), (1027, 1027, 3)])) (rg 7) (F5 p s []) [(6, bA false)] fun G => b5 (wp_ret (r7 (d7 ?_))); exact n9 false G (rg 7) (bz6 (by with_reducible assumption) (by omega) (by with_reducible assumption))
          · refine e6 G (m0 (f6 15 (rg 4) (A2 p s.index) (f6 20 [3] (au5 s.index) (f6 26 [0, 1, 2, 4] (A2 p s.value) l9))) (fc h9 (fc h10 (fc h11 (fc h12 fz)))) (us [(4, 9, 0), (1010, 1010, 0), (12, 15, 1), (1016, 1016, 1), (18, 20, 2), (1021, 1021, 2), (23, 26, 3), (1027, 1027, 3)])) (rg 7) (F5 p s []) [(6, bA (f5 p.vars.length p.arrays.length s.value))] fun G => b5 (wp_ret (r7 (d7 ?_))); exact n9 (f5 p.vars.length p.arrays.length s.value) G (rg 7) (bz5 (by with_reducible assumption) (by omega) (by omega) (by omega) (by with_reducible assumption) (by with_reducible assumption))
     ·
      refine wp_seq ?_; cases h13 : (decide (s.target ≥ 0))
      · have q13 := O0 h13; refine e6 G (z6 (fc h13 (fc (b := false) rfl fz)) (us [(4, 9, 0), (1010, 1010, 0), (12, 15, 1), (1016, 1016, 1)])) (rg 7) (F5 p s []) [(6, bA false)] fun G => b5 (wp_ret (r7 (d7 ?_))); exact n9 false G (rg 7) (bo7 (by with_reducible assumption) (by omega) (by omega))
      ·
       have q13 := N9 h13; cases h14 : (decide (s.target < (p.vars.length : Int)))
       · have q14 := O0 h14; refine e6 G (z6 (fc h13 (fc h14 fz)) (us [(4, 9, 0), (1010, 1010, 0), (12, 15, 1), (1016, 1016, 1)])) (rg 7) (F5 p s []) [(6, bA false)] fun G => b5 (wp_ret (r7 (d7 ?_))); exact n9 false G (rg 7) (bo6 (by with_reducible assumption) (by omega) (by omega))
       · have q14 := N9 h14; refine e6 G (m0 (f6 15 [0, 1, 2, 4] (A2 p s.value) l9) (fc h13 (fc h14 fz)) (us [(4, 9, 0), (1010, 1010, 0), (12, 15, 1), (1016, 1016, 1)])) (rg 7) (F5 p s []) [(6, bA (f5 p.vars.length p.arrays.length s.value))] fun G => b5 (wp_ret (r7 (d7 ?_))); exact n9 (f5 p.vars.length p.arrays.length s.value) G (rg 7) (bo5 (by with_reducible assumption) (by omega) (by omega) (by omega))
    ·
     refine wp_skip (b5 (rT G _ h2 (wp_seq ?_))); cases h15 : (decide (s.target ≥ 0))
     · have q15 := O0 h15; refine e6 G (z6 (fc h15 (fc (b := false) rfl fz)) (us [(4, 9, 0), (1010, 1010, 0), (12, 15, 1), (1016, 1016, 1)])) (rg 7) (F5 p s []) [(6, bA false)] fun G => b5 (wp_ret (r7 (d7 ?_))); exact n9 false G (rg 7) (bo7 (by with_reducible assumption) (by omega) (by omega))
     ·
      have q15 := N9 h15; cases h16 : (decide (s.target < (p.vars.length : Int)))
      · have q16 := O0 h16; refine e6 G (z6 (fc h15 (fc h16 fz)) (us [(4, 9, 0), (1010, 1010, 0), (12, 15, 1), (1016, 1016, 1)])) (rg 7) (F5 p s []) [(6, bA false)] fun G => b5 (wp_ret (r7 (d7 ?_))); exact n9 false G (rg 7) (bo6 (by with_reducible assumption) (by omega) (by omega))
      · have q16 := N9 h16; refine e6 G (m0 (f6 15 [0, 1, 2, 4] (A2 p s.value) l9) (fc h15 (fc h16 fz)) (us [(4, 9, 0), (1010, 1010, 0), (12, 15, 1), (1016, 1016, 1)])) (rg 7) (F5 p s []) [(6, bA (f5 p.vars.length p.arrays.length s.value))] fun G => b5 (wp_ret (r7 (d7 ?_))); exact n9 (f5 p.vars.length p.arrays.length s.value) G (rg 7) (bo5 (by with_reducible assumption) (by omega) (by omega) (by omega))
   · have q1 : (j4 s) = false := (Eq.mp (bL9 _) h1); refine rT G _ h1 (wp_seq (d9 G c4 [] fun G => b5 (wp_ret (d7 ?_)))); exact n9 false G (rg 7) (bG7 (by with_reducible assumption))
  · have q0 := N9 h0; exact False.elim (by omega)
theorem bF4 {nv na d : Nat} {ss : List b6} {k : Nat} (hk : k < ss.length) (h : c8 nv na d (ss.getD k bL2) = false) : ss.all (c8 nv na d) = false := by
 rw [i9 hk] at h
 exact am7 hk h
theorem ay2 (p : b8) (d : Nat) (hd : d ≤ 5) (hS : ∀ (s : b6) (n : Int), n = d → d8.ok Try.prog (vsC p d s n)) (ss : List b6) (n : Int) (hn : n = d) : d8.ok Try.prog (vbC p d ss n) := by
  refine x6 22 Try.func141 [dI p.vars, dI p.arrays, dT p.body, dT ss] [(0, pA 0), (1, .ref 3), (2, iA n)] fun G => ?_; refine wp_seq (e6 G c4 (rg 5) [dI p.vars, dI p.arrays, dT p.body, dT ss, .box (pL 0)] [(1, .ref 3), (2, iA n), (3, .ptr 4 0), (6, bA false)] fun G => b5 (wp_seq (wp_seq (B7 G c4 [(1, .ref 3), (2, iA n), (3, .ptr 4 0), (6, bA false), (7, iA 0)] fun G => b5 (wp_block ?_))))); refine m6 (κ := Nat) (fun k => k ≤ ss.length ∧ (ss.take k).all (c8 p.vars.length p.arrays.length d) = true) (fun k => ss.length - k) (fun k => [dI p.vars, dI p.arrays, dT p.body, dT ss, .box (pL 0)]) (fun k => [(1, .ref 3), (2, iA n), (3, .ptr 4 0), (6, bA false), (7, iA k)]) 0 (by simp) (m8.at G _ _) ?_; clear G; intro k ρ a w hp G; have hlen : ss.length ≤ 9223372036854775807 := G.len 3 (d := .stmts ss) (by kernel_rfl); refine wp_seq (wp_seq (B7 G c4 [(1, .ref 3), (2, iA n), (3, .ptr 4 0), (6, bA false), (7, iA k), (11, bA (decide ((k : Int) < ss.length)))] fun G => b5 (M7 G (fun h0 q0 => ?_) fun h0 q0 => ?_)))
  · refine wp_exit (l8 (l8 (l5 (b5 (wp_seq (e6 G c4 (rg 4) [dI p.vars, dI p.arrays, dT p.body, dT ss] [(6, bA true)] fun G => b5 (wp_ret ?_))))))); exact n9 true G (rg 4) (av4 hp.2 (by omega))
  ·
   refine wp_skip (b5 (wp_seq (wp_block (wp_seq (P9 G (o9 6 [0, 1, 2, 37, 38, 39, 40] (hS (ss.getD k bL2) n (by assumption))) [0, 0, 0, 6, 14, 0, 63, 127] [(21, .v (.bool !c8 p.vars.length p.arrays.length d (ss.getD k bL2)))] (iX k k ss.length []) (iK (by omega) bM6) fun G => b5 ?_))))); cases h1 : (!c8 p.vars.length p.arrays.length d (ss.getD k bL2))
   · have q1 : (c8 p.vars.length p.arrays.length d (ss.getD k bL2)) = true := (Eq.mp (bM1 _) h1); refine rF G _ h1 (wp_skip (j8 (b5 (C8 G c4 [(7, iA ((k : Int) + 1))] [wO ((k : Int) + 1)] (o1 (by omega)) fun G => b5 ?_)))); exact N5 G (k + 1) (⟨by omega, aO4 hp.2 (by omega) (by assumption)⟩) (by omega) (rg 5)
   · have q1 : (c8 p.vars.length p.arrays.length d (ss.getD k bL2)) = false := (Eq.mp (bL9 _) h1); refine rT G _ h1 (wp_seq (d9 G c4 [] fun G => b5 (wp_ret (r7 (d7 (d7 (r7 (d7 ?_)))))))); exact n9 false G (rg 4) (bF4 (k := k) (by omega) (by with_reducible assumption))
theorem aZ3 (p : b8) : ∀ (d : Nat), d ≤ 5 → ∀ (s : b6) (n : Int), n = d → d8.ok Try.prog (vsC p d s n)
 | 0, _, s, n, hn => a23 p s n hn
 | d + 1, hd, s, n, hn => a92 p d (fun ss n hn => ay2 p d (by omega) (aZ3 p d (by omega)) ss n hn) s n hn (by omega)
theorem a53 (p : b8) (ss : List b6) (n : Int) (hn : n = 5) : d8.ok Try.prog (E0 141 [pA 0, .ref 3, iA n] (pS p ++ [.dat (.stmts ss)]) (bA (P0 p.vars.length p.arrays.length 5 ss))) :=
 ay2 p 5 (by omega) (aZ3 p 5 (by omega)) ss n hn
def v5 : Nat → List b6 → Nat
 | 0, ss => ss.length
 | d + 1, ss => ss.length + (ss.map fun s => v5 d s.body + v5 d s.els).sum
def szP (d : Nat) (ss : List b6) (k : Nat) : Nat := ss.length + ((ss.take k).map fun s => v5 d s.body + v5 d s.els).sum
theorem bh6 (d : Nat) (ss : List b6) {k : Nat} (h : ss.length ≤ k) : szP d ss k = v5 (d + 1) ss := by unfold szP; rw [bM5 h, v5]
theorem ap8 {d : Nat} {ss : List b6} {k : Nat} (h : k < ss.length) : szP d ss (k + 1) = szP d ss k + (v5 d (ss.getD k bL2).body + v5 d (ss.getD k bL2).els) := by
 unfold szP
 rw [B8 ss k h, List.map_append, List.sum_append, i9 h]
 simp; omega
theorem a87 : ∀ (d : Nat) (ss : List b6), v5 d ss ≤ c9 ss := by
 intro d
 induction d with
 | zero => intro ss; exact D0 ss
 | succ d ih =>
  intro ss
  induction ss with
  | nil => simp [v5]
  | cons s r ihr =>
   have h1 := ih s.body
   have h2 := ih s.els
   have h3 := ax4 s
   simp only [v5, bO4, List.sum_cons, bM2, c9] at ihr ⊢
   have h4 : c9 s.body + c9 s.els ≤ A7 s := by
    rcases s with ⟨_, _, _, _, _, b, e⟩
    simp only [A7, b6.body, b6.els]; omega
   omega
theorem aP6 {d : Nat} {ss : List b6} {k : Nat} : szP d ss k ≤ c9 ss := by
 refine bN5 ?_ (a87 (d + 1) ss)
 unfold szP
 rw [v5]
 have : ∀ (l : List Nat) (k : Nat), (l.take k).sum ≤ l.sum := fun l k => by
  have := List.sum_append (l₁ := l.take k) (l₂ := l.drop k)
  rw [List.take_append_drop] at this; omega
 have h := this (ss.map fun s => v5 d s.body + v5 d s.els) k
 rw [← List.map_take] at h
 omega
theorem a11 {ss : List b6} {k B : Nat} (h : c9 ss ≤ B) (hk : k < ss.length) : c9 (ss.getD k bL2).body ≤ B ∧ c9 (ss.getD k bL2).els ≤ B := by
 rw [i9 hk]
 have h1 := N3 (bN6 hk)
 have h2 := ax4 ss[k]
 omega
theorem a50 (ss : List b6) (n : Int) (hn : n = 1) (hb : c9 ss ≤ 1048576) : d8.ok Try.prog (E0 142 [.ref 0, iA n] [.dat (.stmts ss)] (iA (v5 0 ss : Nat))) := by
 have h100 : decide (n > 1) = false := by simp; omega
 refine x6 39 Try.func142 [dT ss] [(0, .ref 0), (1, iA n)] fun G => ?_; refine wp_seq (d9 G c4 [(4, iA 0)] fun G => b5 (wp_seq (d9 G c4 [(5, iA (ss.length : Int))] fun G => b5 (wp_seq (wp_seq (B7 G c4 [(0, .ref 0), (1, iA n), (4, iA 0), (5, iA (ss.length : Int)), (6, iA 0)] fun G => b5 (wp_block ?_))))))); refine m6 (κ := Nat) (fun k => k = 0) (fun k => 0) (fun k => [dT ss]) (fun k => [(0, .ref 0), (1, iA n), (4, iA 0), (5, iA (ss.length : Nat)), (6, iA k)]) 0 (by kernel_rfl) (m8.at G _ _) ?_; clear G; intro k ρ a w hp G; replace G := m8.at G [dT ss] [(0, .ref 0), (1, iA n), (4, iA 0), (5, iA (ss.length : Int)), (6, iA k)]; refine wp_seq (wp_seq ?_); cases h0 : (decide ((k : Int) < ss.length))
 ·have q0 := O0 h0; refine d9 G (z6 (fc h0 fz) [(5, 0), (6, 0), (1007, 0)]) [(16, bA false)] fun G => b5 (rF G false (by kernel_rfl) (wp_exit (l8 (l8 (l5 (b5 (wp_seq (d9 G c4 [(4, iA (ss.length : Int))] fun G => b5 (wp_ret ?_))))))))); exact C4 G [0]
 ·have q0 := N9 h0; refine d9 G (z6 (fc h0 fz) [(5, 0), (6, 0), (1007, 0)]) [(16, bA (decide (n > 1)))] fun G => b5 (rF G (decide (n > 1)) (by assumption) (wp_exit (l8 (l8 (l5 (b5 (wp_seq (d9 G c4 [(4, iA (ss.length : Int))] fun G => b5 (wp_ret ?_))))))))); exact C4 G [0]
theorem a48 (d : Nat) (hd : d ≤ 5) (ih : ∀ (ss : List b6) (n : Int), n = (d + 1 : Nat) → c9 ss ≤ 1048576 → d8.ok Try.prog (E0 142 [.ref 0, iA n] [.dat (.stmts ss)] (iA (v5 d ss : Nat))))
  (ss : List b6) (n : Int) (hn : n = (d + 2 : Nat)) (hb : c9 ss ≤ 1048576) : d8.ok Try.prog (E0 142 [.ref 0, iA n] [.dat (.stmts ss)] (iA (v5 (d + 1) ss : Nat))) := by
 have h100 : decide (n > 1) = true := by simp; omega
 refine x6 39 Try.func142 [dT ss] [(0, .ref 0), (1, iA n)] fun G => ?_; refine wp_seq (d9 G c4 [(4, iA 0)] fun G => b5 (wp_seq (d9 G c4 [(5, iA (ss.length : Int))] fun G => b5 (wp_seq (wp_seq (B7 G c4 [(0, .ref 0), (1, iA n), (4, iA 0), (5, iA (ss.length : Int)), (6, iA 0)] fun G => b5 (wp_block ?_))))))); refine m6 (κ := Nat) (fun k => k ≤ ss.length) (fun k => ss.length - k) (fun k => [dT ss]) (fun k => [(0, .ref 0), (1, iA n), (4, iA 0), (5, iA (szP d ss k : Nat)), (6, iA k)]) 0 (by omega) (m8.at G _ _) ?_; clear G; intro k ρ a w hp G; replace G := m8.at G [dT ss] [(0, .ref 0), (1, iA n), (4, iA 0), (5, iA (↑(szP d ss k) : Int)), (6, iA k)]; have hlen := D0 ss; refine wp_seq (wp_seq ?_); cases h0 : (decide ((k : Int) < ss.length))
 ·have q0 := O0 h0; refine d9 G (z6 (fc h0 fz) [(5, 0), (6, 0), (1007, 0)]) [(16, bA false)] fun G => b5 (rF G false (by kernel_rfl) (wp_exit (l8 (l8 (l5 (b5 (wp_seq (d9 G c4 [(4, iA (↑(szP d ss k) : Int))] fun G => b5 (wp_ret ?_))))))))); exact L2 ((↑(szP d ss k) : Int)) G [0] (by have h1 := bh6 d ss (k := k) (by omega); omega)
 ·have q0 := N9 h0; refine d9 G (z6 (fc h0 fz) [(5, 0), (6, 0), (1007, 0)]) [(16, bA (decide (n > 1)))] fun G => b5 (rT G (decide (n > 1)) (by assumption) (wp_skip (b5 (wp_seq (wp_block (P9 G (m0 (f6 8 [41] (ih ((ss.getD k bL2).body) (n - 1) (by omega) ((a11 hb (by omega)).1)) (f6 17 [113] (ih ((ss.getD k bL2).els) (n - 1) (by omega) ((a11 hb (by omega)).2)) l9)) fz []) [0, 0, 0, 6, 14, 30, 0, 64, 254, 511, 0, 0, 3072, 7168, 15360, 0, 32768, 130558, 262143, 524287] [(5, iA ((↑(szP d ss k) : Int) + (↑(v5 d (ss.getD k bL2).body) : Int) + (↑(v5 d (ss.getD k bL2).els) : Int)))] (iX k k ss.length ((wO (n - 1)) :: ((wO ((↑(szP d ss k) : Int) + (↑(v5 d (ss.getD k bL2).body) : Int))) :: (iX k k ss.length ((wO (n - 1)) :: ((wO ((↑(szP d ss k) : Int) + (↑(v5 d (ss.getD k bL2).body) : Int) + (↑(v5 d (ss.getD k bL2).els) : Int))) :: [])))))) (iK (by omega) ⟨oW (by omega), ⟨(by have h1 := ap8 (d := d) (ss := ss) (k := k) (by omega); have h2 := aP6 (d := d) (ss := ss) (k := k + 1); exact w64 (by omega) (by omega)), (iK (by omega) ⟨oW (by omega), ⟨(by have h1 := ap8 (d := d) (ss := ss) (k := k) (by omega); have h2 := aP6 (d := d) (ss := ss) (k := k + 1); exact w64 (by omega) (by omega)), bM6⟩⟩)⟩⟩) fun G => j8 (b5 (C8 G c4 [(6, iA ((k : Int) + 1))] [wO ((k : Int) + 1)] (o1 (by omega)) fun G => b5 ?_)))))))); exact N5 G (k + 1) (by omega) (by omega) [0] (ht := by have e1 : ((↑(szP d ss (k + 1)) : Int) : Int) = ((↑(szP d ss k) : Int) + (↑(v5 d (ss.getD k bL2).body) : Int) + (↑(v5 d (ss.getD k bL2).els) : Int)) := (by have h1 := ap8 (d := d) (ss := ss) (k := k) (by omega); have h2 := aP6 (d := d) (ss := ss) (k := k + 1); omega); (first | rw [e1] | simp only [e1]) <;> rfl)
theorem a49 : ∀ d, d ≤ 5 → ∀ (ss : List b6) (n : Int), n = (d + 1 : Nat) → c9 ss ≤ 1048576 → d8.ok Try.prog (E0 142 [.ref 0, iA n] [.dat (.stmts ss)] (iA (v5 d ss : Nat))) := by
 intro d
 induction d with
 | zero => intro _ ss n hn hb; exact a50 ss n (by omega) hb
 | succ d ih => intro hd ss n hn hb; exact a48 d (by omega) (fun ss n hn hb => ih (by omega) ss n hn hb) ss n (by omega) hb
theorem bf9 (ss : List b6) (n : Int) (hn : n = 5) (hb : c9 ss ≤ 1048576) : d8.ok Try.prog (E0 142 [.ref 0, iA n] [.dat (.stmts ss)] (iA (v5 4 ss : Nat))) :=
 a49 4 (by omega) ss n (by omega) hb
theorem a88 {nv na : Nat} : ∀ (d : Nat) (ss : List b6), (∀ s ∈ ss, c8 nv na (d + 1) s = true) → v5 d ss = K5 ss := by
 intro d
 induction d with
 | zero => intro ss h; rw [aL3 h]; rfl
 | succ d ih =>
  intro ss
  induction ss with
  | nil => intro _; rfl
  | cons s r ihr =>
   intro h
   have h1 := R7 (h s bM7)
   have h2 := ih s.body fun x hx => bL7.1 h1.1 x hx
   have h3 := ih s.els fun x hx => bL7.1 h1.2 x hx
   have h4 := ihr fun x hx => h x (bN4 _ hx)
   rw [K5, ai5, ← h2, ← h3, ← h4]
   simp [v5]; omega
theorem al1 {p : b8} (h : w4 p.vars p.arrays = false) : e5 p = false := by simp [e5, h]
theorem aJ5 {p : b8} (h : P0 p.vars.length p.arrays.length 5 p.body = false) : e5 p = false := by simp [e5, h]
theorem aR3 {p : b8} (h1 : w4 p.vars p.arrays = true) (h2 : P0 p.vars.length p.arrays.length 5 p.body = true) : e5 p = decide ((v5 4 p.body : Int) ≤ 60) := by
 have h3 := a88 (nv := p.vars.length) (na := p.arrays.length) 4 p.body (fun x hx => bL7.1 h2 x hx)
 rw [e5, h1, h2, h3]
 simp
 exact ⟨fun h => by omega, fun h => by omega⟩
theorem aN4 (p : b8) (n : Int) (hn : n = 5) : d8.ok Try.prog (E0 141 [pA 0, .ref 2, iA n] (pS p) (bA (P0 p.vars.length p.arrays.length 5 p.body))) :=
 d8.dup (S := pS p) (S' := pS p) (d := .stmts p.body) (i := 2) (a53 p p.body n hn) rfl rfl rfl (fun ρ h => by simp only [AV.vals, AV.val]; rw [show ρ 3 = ρ 2 from h]) rfl
theorem l0 (p : b8) (hb : c9 p.body ≤ 1048576) : d8.ok Try.prog (E0 67 [pA 0] (pS p) (bA (e5 p))) := by
  refine x6 17 Try.func67 [dI p.vars, dI p.arrays, dT p.body] [(0, pA 0)] fun G => ?_; refine wp_seq (e6 G c4 (rg 4) [dI p.vars, dI p.arrays, dT p.body, .box (pL 0)] [(1, .ptr 3 0), (2, bA false)] fun G => b5 (wp_seq ?_)); cases h0 : (w4 p.vars p.arrays)
  · refine e6 G (m0 (f6 1 [0, 1, 2] (aj2 p) l9) (fc h0 (fc (b := false) rfl fz)) (us [(3, 6, 0), (1007, 1007, 0), (9, 12, 1), (1013, 1013, 1)])) [0, 1, 2] [dI p.vars, dI p.arrays, dT p.body] [(2, bA false)] fun G => b5 (wp_ret ?_); exact n9 false G [0, 1, 2] (al1 (by assumption))
  ·
   cases h1 : (P0 p.vars.length p.arrays.length (5 : Nat) p.body)
   · refine e6 G (m0 (f6 1 [0, 1, 2] (aj2 p) (f6 6 [0, 1, 2] (aN4 p 5 (by kernel_rfl)) l9)) (fc h0 (fc h1 fz)) (us [(3, 6, 0), (1007, 1007, 0), (9, 12, 1), (1013, 1013, 1)])) [0, 1, 2] [dI p.vars, dI p.arrays, dT p.body] [(2, bA false)] fun G => b5 (wp_ret ?_); exact n9 false G [0, 1, 2] (aJ5 (by assumption))
   · refine e6 G (m0 (f6 1 [0, 1, 2] (aj2 p) (f6 6 [0, 1, 2] (aN4 p 5 (by kernel_rfl)) (f6 11 [2] (bf9 p.body 5 (by kernel_rfl) (by assumption)) l9))) (fc h0 (fc h1 fz)) (us [(3, 6, 0), (1007, 1007, 0), (9, 12, 1), (1013, 1013, 1)])) [0, 1, 2] [dI p.vars, dI p.arrays, dT p.body] [(2, bA (decide ((↑(v5 4 p.body) : Int) ≤ 60)))] fun G => b5 (wp_ret ?_); exact n9 (decide ((↑(v5 4 p.body) : Int) ≤ 60)) G [0, 1, 2] (aR3 (by assumption) (by assumption))
def s6 (nv na : Nat) (s : b6) : Bool := j4 s &&
    (if s.kind = 1 ∨ s.kind = 5 then decide (0 ≤ s.target) && decide (s.target < nv) && f5 nv na s.value
     else if s.kind = 2 then decide (0 ≤ s.target) && decide (s.target < na) && f5 nv na s.index && atomB s.index && f5 nv na s.value
     else if s.kind = 3 then f5 nv na s.value
     else decide (s.kind = 4))
theorem G3 {nv na d : Nat} {s : b6} : c8 nv na (d + 1) s = (s6 nv na s && (s.body.all (c8 nv na d) && s.els.all (c8 nv na d))) := by
 rw [bO1]
 constructor
 ·intro h
  have h1 := R7 h
  rw [h1.1, h1.2, Bool.and_true, Bool.and_true]
  rw [c8, bL3] at h
  rw [s6, h.1, Bool.true_and]
  obtain ⟨-, h⟩ := h
  split at h
  ·rw [if_pos (by assumption)]; exact h
  split at h
  ·rw [if_neg (by assumption), if_pos (by assumption)]; exact h
  split at h
  ·rw [if_neg (by assumption), if_neg (by assumption), if_pos (by assumption)]
   simp only [bL3] at h; exact h.1.1
  split at h
  ·rw [if_neg (by assumption), if_neg (by assumption), if_neg (by assumption)]; simp [*]
  ·simp at h
 ·intro h
  simp only [bL3] at h
  obtain ⟨h, hb, he⟩ := h
  rw [s6, bL3] at h
  obtain ⟨h0, h⟩ := h
  rw [c8, h0, Bool.true_and]
  split at h
  ·rw [if_pos (by assumption)]; exact h
  split at h
  ·rw [if_neg (by assumption), if_pos (by assumption)]; exact h
  split at h
  ·rw [if_neg (by assumption), if_neg (by assumption), if_pos (by assumption), h, hb, he]; rfl
  ·rw [if_neg (by assumption), if_neg (by assumption), if_neg (by assumption), if_pos (by simpa using h), hb]
def s8 (F : Nat → b6 → Bool × Nat) : Nat → List b6 → Bool × Nat
 | c, [] => (true, c)
 | c, s :: r => if (F c s).1 then s8 F (F c s).2 r else F c s
def n4 (nv na : Nat) : Nat → Nat → b6 → Bool × Nat
 | 0, c, _ => (false, c + 1)
 | d + 1, c, s => if 60 < c + 1 then (false, c + 1) else if s6 nv na s then
   (if (s8 (n4 nv na d) (c + 1) s.body).1 then s8 (n4 nv na d) (s8 (n4 nv na d) (c + 1) s.body).2 s.els else s8 (n4 nv na d) (c + 1) s.body)
   else (false, c + 1)
abbrev e7 (nv na d c : Nat) (ss : List b6) : Bool × Nat := s8 (n4 nv na d) c ss
theorem T0 (F : Nat → b6 → Bool × Nat) : ∀ (a b : List b6) (c : Nat), s8 F c (a ++ b) = if (s8 F c a).1 then s8 F (s8 F c a).2 b else s8 F c a
 | [], b, c => by simp [s8]
 | x :: r, b, c => by
  simp only [List.cons_append, s8]
  by_cases h : (F c x).1 = true
  ·simp only [h, if_true]; exact T0 F r b _
  ·simp [h]
theorem ad1 {F : Nat → b6 → Bool × Nat} {c k : Nat} {ss : List b6} (h : (s8 F c (ss.take k)).1 = true) (hk : k < ss.length) : s8 F c (ss.take (k + 1)) = F (s8 F c (ss.take k)).2 (ss.getD k bL2) := by
 rw [j9 _ _ hk, T0, if_pos h, i9 hk]
 simp only [s8]
 split
 ·rename_i h; exact Prod.ext h.symm rfl
 ·rfl
theorem at5 {F : Nat → b6 → Bool × Nat} {c k : Nat} {ss : List b6} (h : (s8 F c (ss.take k)).1 = true) (hk : k < ss.length) (hf : (F (s8 F c (ss.take k)).2 (ss.getD k bL2)).1 = false) : s8 F c ss = F (s8 F c (ss.take k)).2 (ss.getD k bL2) := by
 conv => lhs; rw [← List.take_append_drop (k + 1) ss]
 rw [T0, ad1 h hk, hf]
 rfl
theorem at6 {F : Nat → b6 → Bool × Nat} {c k : Nat} {ss : List b6} (hk : ss.length ≤ k) : s8 F c (ss.take k) = s8 F c ss := by rw [bM5 hk]
theorem af9 {F : Nat → b6 → Bool × Nat} (hF : ∀ c s, c ≤ 60 → (F c s).2 ≤ 61 ∧ ((F c s).1 = true → (F c s).2 ≤ 60)) : ∀ (ss : List b6) (c : Nat), c ≤ 60 → (s8 F c ss).2 ≤ 61 ∧ ((s8 F c ss).1 = true → (s8 F c ss).2 ≤ 60)
 | [], c, h => ⟨by simp only [s8]; omega, fun _ => by simp only [s8]; omega⟩
 | s :: r, c, h => by
  simp only [s8]
  by_cases h1 : (F c s).1 = true
  ·rw [if_pos h1]; exact af9 hF r _ ((hF c s h).2 h1)
  ·rw [if_neg h1]; exact hF c s h
theorem ae6 {nv na : Nat} : ∀ (d c : Nat) (s : b6), c ≤ 60 → (n4 nv na d c s).2 ≤ 61 ∧ ((n4 nv na d c s).1 = true → (n4 nv na d c s).2 ≤ 60)
 | 0, c, s, h => by simp [n4]; omega
 | d + 1, c, s, h => by
  rw [n4]
  by_cases h1 : 60 < c + 1
  ·rw [if_pos h1]; simp; omega
  rw [if_neg h1]
  by_cases h2 : s6 nv na s = true
  ·rw [if_pos h2]
   have h3 := af9 (ae6 (nv := nv) (na := na) d) s.body (c + 1) (by omega)
   by_cases h4 : (s8 (n4 nv na d) (c + 1) s.body).1 = true
   ·rw [if_pos h4]; exact af9 (ae6 d) s.els _ (h3.2 h4)
   ·rw [if_neg h4]; exact h3
  ·rw [if_neg h2]; simp; omega
theorem G2 {nv na d c : Nat} {ss : List b6} (h : c ≤ 60) (h1 : (e7 nv na d c ss).1 = true) : (e7 nv na d c ss).2 ≤ 60 := (af9 (ae6 d) ss c h).2 h1
section
variable {nv na d c : Nat} {s : b6}
theorem ac3 (h : 60 < c + 1) : n4 nv na d c s = (false, c + 1) := by cases d with
 | zero => rfl
 | succ d => rw [n4, if_pos h]
theorem c7 (h : s6 nv na s = false) : n4 nv na d c s = (false, c + 1) := by cases d with
 | zero => rfl
 | succ d => rw [n4, h]; simp
theorem t9 (h1 : c + 1 ≤ 60) (h : s6 nv na s = true) (h2 : (e7 nv na d (c + 1) s.body).1 = false) : n4 nv na (d + 1) c s = e7 nv na d (c + 1) s.body := by
 rw [n4, if_neg (by omega), if_pos h, if_neg (by simp [h2])]
theorem x8 (h1 : c + 1 ≤ 60) (h : s6 nv na s = true) (h2 : (e7 nv na d (c + 1) s.body).1 = true) : n4 nv na (d + 1) c s = e7 nv na d (e7 nv na d (c + 1) s.body).2 s.els := by
 rw [n4, if_neg (by omega), if_pos h, if_pos h2]
end
theorem ag0 {nv na d : Nat} (hF : ∀ c s, c ≤ 60 → ((n4 nv na d c s).1 = (c8 nv na d s && decide (c + nS s ≤ 60))) ∧ ((n4 nv na d c s).1 = true → (n4 nv na d c s).2 = c + nS s)) : ∀ (ss : List b6) (c : Nat), c ≤ 60 → ((e7 nv na d c ss).1 = (ss.all (c8 nv na d) && decide (c + K5 ss ≤ 60))) ∧ ((e7 nv na d c ss).1 = true → (e7 nv na d c ss).2 = c + K5 ss)
 | [], c, h => by simp [s8, K5, h]
 | s :: r, c, h => by
  obtain ⟨h1, h2⟩ := hF c s h
  simp only [e7, s8]
  by_cases h3 : (n4 nv na d c s).1 = true
  ·rw [if_pos h3]
   have e := h2 h3
   have l := (ae6 d c s h).2 h3
   obtain ⟨h4, h5⟩ := ag0 hF r (n4 nv na d c s).2 l
   rw [h1, bL3] at h3
   constructor
   ·rw [show s8 (n4 nv na d) (n4 nv na d c s).2 r = e7 nv na d (n4 nv na d c s).2 r from rfl, h4, List.all_cons, h3.1, Bool.true_and, e, K5, Nat.add_assoc]
   ·intro h6; rw [show s8 (n4 nv na d) (n4 nv na d c s).2 r = e7 nv na d (n4 nv na d c s).2 r from rfl, h5 h6, e, K5]; omega
  ·rw [if_neg h3]
   refine ⟨?_, fun h => absurd h h3⟩
   have h4 := h3
   rw [h1] at h4
   rw [Bool.eq_false_iff.2 h3, List.all_cons, K5]
   cases ha : c8 nv na d s
   ·simp
   ·rw [ha, Bool.true_and, decide_eq_true_eq] at h4
    rw [Bool.true_and, show decide (c + (nS s + K5 r) ≤ 60) = false from decide_eq_false (by omega), Bool.and_false]
theorem aq2 {nv na : Nat} : ∀ (d c : Nat) (s : b6), c ≤ 60 → ((n4 nv na d c s).1 = (c8 nv na d s && decide (c + nS s ≤ 60))) ∧ ((n4 nv na d c s).1 = true → (n4 nv na d c s).2 = c + nS s)
 | 0, c, s, h => by simp [n4, c8]
 | d + 1, c, s, h => by
  have hs := ai5 s
  by_cases h1 : 60 < c + 1
  ·rw [ac3 h1, show decide (c + nS s ≤ 60) = false from decide_eq_false (by omega), Bool.and_false]; simp
  cases h2 : s6 nv na s
  ·rw [c7 h2, G3, h2]; simp
  obtain ⟨b1, b2⟩ := ag0 (aq2 (nv := nv) (na := na) d) s.body (c + 1) (by omega)
  rw [G3, h2, Bool.true_and]
  cases h3 : (e7 nv na d (c + 1) s.body).1
  ·rw [t9 (by omega) h2 h3, h3]
   refine ⟨?_, fun h => by simp at h⟩
   rw [h3] at b1
   cases h4 : s.body.all (c8 nv na d)
   ·simp
   ·rw [h4, Bool.true_and] at b1
    have := of_decide_eq_false b1.symm
    rw [show decide (c + nS s ≤ 60) = false from decide_eq_false (by omega), Bool.and_false]
  ·rw [x8 (by omega) h2 h3]
   have e := b2 h3
   have l := G2 (nv := nv) (na := na) (d := d) (c := c + 1) (by omega) h3
   obtain ⟨e1, e2⟩ := ag0 (aq2 (nv := nv) (na := na) d) s.els _ l
   rw [h3] at b1
   have b3 := b1.symm
   rw [bL3] at b3
   rw [b3.1, Bool.true_and, e1, e]
   refine ⟨by rw [show c + 1 + K5 s.body + K5 s.els = c + nS s by omega], fun h => ?_⟩
   have h' : (e7 nv na d (e7 nv na d (c + 1) s.body).2 s.els).1 = true := by rw [e1, e]; exact h
   have := e2 h'
   rw [e] at this
   rw [this]; omega
theorem aH7 {p : b8} (h : w4 p.vars p.arrays = true) : (e7 p.vars.length p.arrays.length 5 0 p.body).1 = e5 p := by
 rw [(ag0 (aq2 5) p.body 0 (by omega)).1, e5, h, Bool.true_and, P0]; simp
theorem bm5 (p : b8) (s : b6) (c : Nat) (hc : c ≤ 60) (n : Int) (hn : n = 6) : d8.ok Try.prog ⟨145, [pA 0, sA s 4, iA n, .ptr 3 0], pS p ++ [.box [iA c]] ++ sS s, pS p ++ [.box [iA (n4 p.vars.length p.arrays.length 0 c s).2]] ++ sS s, bA false⟩ := by
 have h100 : decide (n > 5) = true := by simp; omega
 refine x6 149 Try.func145 [dI p.vars, dI p.arrays, dT p.body, .box [iA c], dE s.index.kids, dE s.value.kids, dT s.body, dT s.els] [(0, pA 0), (1, sA s 4), (2, iA n), (3, .ptr 3 0)] fun G => ?_; refine wp_seq (e6 G c4 [0, 1, 2, 3, 4, 5, 6, 7, 8, 16] [dI p.vars, dI p.arrays, dT p.body, .box [iA c], dE s.index.kids, dE s.value.kids, dT s.body, dT s.els, .box (pL 0), .box (sL s 4)] [(2, iA n), (3, .ptr 3 0), (4, .ptr 8 0), (5, .ptr 9 0), (8, bA false)] fun G => b5 (wp_seq (S4 G c4 (rg 10) [dI p.vars, dI p.arrays, dT p.body, .box [iA ((c : Int) + 1)], dE s.index.kids, dE s.value.kids, dT s.body, dT s.els, .box (pL 0), .box (sL s 4)] [(2, iA n), (3, .ptr 3 0), (4, .ptr 8 0), (5, .ptr 9 0), (8, bA false)] [wO ((c : Int) + 1)] (o1 (by omega)) fun G => b5 (wp_seq (wp_seq ?_))))); cases h0 : (decide ((c : Int) + 1 > 60))
 ·have q0 := O0 h0; refine d9 G (z6 (fc h0 fz) [(5, 0), (6, 0), (1007, 0)]) [(27, bA (decide (n > 5)))] fun G => b5 (rT G (decide (n > 5)) (by assumption) (wp_seq (d9 G c4 [] fun G => b5 (wp_ret (d7 ?_))))); exact C4 G (rg 8)
 ·have q0 := N9 h0; refine d9 G (z6 (fc h0 fz) [(5, 0), (6, 0), (1007, 0)]) [(27, bA true)] fun G => b5 (rT G true (by kernel_rfl) (wp_seq (d9 G c4 [] fun G => b5 (wp_ret (d7 ?_))))); exact C4 G (rg 8)
abbrev bo3 (p : b8) (d c : Nat) (s : b6) (n : Int) : d8 := ⟨145, [pA 0, sA s 4, iA n, .ptr 3 0], pS p ++ [.box [iA c]] ++ sS s, pS p ++ [.box [iA (n4 p.vars.length p.arrays.length d c s).2]] ++ sS s, bA (n4 p.vars.length p.arrays.length d c s).1⟩
abbrev aP8 (p : b8) (d c : Nat) (ss : List b6) (n : Int) : d8 := ⟨70, [pA 0, .ref 4, iA n, .ptr 3 0], pS p ++ [.box [iA c]] ++ [.dat (.stmts ss)], pS p ++ [.box [iA (e7 p.vars.length p.arrays.length d c ss).2]] ++ [.dat (.stmts ss)], bA (e7 p.vars.length p.arrays.length d c ss).1⟩
theorem aM6 (p : b8) (d : Nat) (hd : d ≤ 5) (ih : ∀ (s : b6) (c : Nat) (n : Int), c ≤ 60 → n = 6 - (d : Int) → d8.ok Try.prog (bo3 p d c s n))
    (ss : List b6) (c : Nat) (n : Int) (hc : c ≤ 60) (hn : n = 6 - (d : Int)) : d8.ok Try.prog (aP8 p d c ss n) := by
  refine x6 24 Try.func70 [dI p.vars, dI p.arrays, dT p.body, .box [iA c], dT ss] [(0, pA 0), (1, .ref 4), (2, iA n), (3, .ptr 3 0)] fun G => ?_; refine wp_seq (e6 G c4 (rg 6) [dI p.vars, dI p.arrays, dT p.body, .box [iA c], dT ss, .box (pL 0)] [(1, .ref 4), (2, iA n), (3, .ptr 3 0), (4, .ptr 5 0), (8, bA false)] fun G => b5 (wp_seq (wp_seq (B7 G c4 [(2, iA n), (3, .ptr 3 0), (4, .ptr 5 0), (8, bA false), (11, .ref 4), (12, iA (ss.length : Int)), (13, iA 0)] fun G => b5 (wp_block ?_))))); have hlen : ss.length ≤ 9223372036854775807 := G.len 4 (d := .stmts ss) (by kernel_rfl); refine m6 (κ := Nat) (fun k => k ≤ ss.length ∧ (e7 p.vars.length p.arrays.length d c (ss.take k)).1 = true) (fun k => ss.length - k) (fun k => [dI p.vars, dI p.arrays, dT p.body, .box [iA (e7 p.vars.length p.arrays.length d c (ss.take k)).2], dT ss, .box (pL 0)]) (fun k => [(2, iA n), (3, .ptr 3 0), (4, .ptr 5 0), (8, bA false), (11, .ref 4), (12, iA (ss.length : Int)), (13, iA k)]) 0 (by simp [e7, s8]; done) (m8.at G _ _) ?_; clear G; intro k ρ a w hp G; replace G := m8.at G [dI p.vars, dI p.arrays, dT p.body, .box [iA ((e7 p.vars.length p.arrays.length d c (bL8 k ss)).snd : Int)], dT ss, .box (pL 0)] [(2, iA n), (3, .ptr 3 0), (4, .ptr 5 0), (8, bA false), (11, .ref 4), (12, iA (ss.length : Int)), (13, iA k)]; refine wp_seq (d9 G c4 [(14, bA (decide ((k : Int) < ss.length)))] fun G => b5 (wp_seq (M7 G (fun h0 q0 => ?_) fun h0 q0 => ?_)))
  · refine wp_exit (l8 (l8 (l5 (b5 (wp_seq (e6 G c4 (rg 5) [dI p.vars, dI p.arrays, dT p.body, .box [iA ((e7 p.vars.length p.arrays.length d c (bL8 k ss)).snd : Int)], dT ss] [(8, bA true)] fun G => b5 (wp_ret ?_))))))); exact n9 true G (rg 5) (by rw [e7, ← at6 (k := k) (by omega)]; exact hp.2) (by show _ = mR (rg 5) [dI p.vars, dI p.arrays, dT p.body, .box [iA ((e7 p.vars.length p.arrays.length d c ss).snd : Int)], dT ss]; have e1 : (((e7 p.vars.length p.arrays.length d c ss).snd : Int) : Int) = (((e7 p.vars.length p.arrays.length d c (bL8 k ss)).snd : Int)) := (by rw [e7, ← at6 (k := k) (by omega)]); (first | rw [e1] | simp only [e1]) <;> rfl)
  ·
   refine wp_skip (b5 (wp_seq (wp_block (wp_seq (S4 G c4 [0, 1, 2, 3, 4, 5, 14, 15, 16, 17, 22] [dI p.vars, dI p.arrays, dT p.body, .box [iA ((e7 p.vars.length p.arrays.length d c (bL8 k ss)).snd : Int)], dT ss, .box (pL 0), dE (ss.getD k bL2).index.kids, dE (ss.getD k bL2).value.kids, dT (ss.getD k bL2).body, dT (ss.getD k bL2).els, .box (sL (ss.getD k bL2) 6)] [(2, iA n), (3, .ptr 3 0), (4, .ptr 5 0), (8, bA false), (10, .ptr 10 0), (11, .ref 4), (12, iA (ss.length : Int)), (13, iA k)] (iX k k ss.length []) (iK (by omega) bM6) fun G => b5 (wp_seq (e6 G (o9 4 [0, 1, 2, 3, 6, 7, 8, 9] (ih (ss.getD k bL2) ((e7 p.vars.length p.arrays.length d c (bL8 k ss)).snd) n (G2 (by omega) hp.2) (by assumption))) (rg 6) [dI p.vars, dI p.arrays, dT p.body, .box [iA ((n4 p.vars.length p.arrays.length d (e7 p.vars.length p.arrays.length d c (bL8 k ss)).snd (ss.getD k bL2)).snd : Int)], dT ss, .box (pL 0)] [(2, iA n), (3, .ptr 3 0), (4, .ptr 5 0), (8, bA false), (11, .ref 4), (12, iA (ss.length : Int)), (13, iA k), (22, .v (.bool !(n4 p.vars.length p.arrays.length d (e7 p.vars.length p.arrays.length d c (bL8 k ss)).snd (ss.getD k bL2)).fst))] fun G => b5 ?_))))))); cases h1 : (!(n4 p.vars.length p.arrays.length d (e7 p.vars.length p.arrays.length d c (bL8 k ss)).snd (ss.getD k bL2)).fst)
   · have q1 : ((n4 p.vars.length p.arrays.length d (e7 p.vars.length p.arrays.length d c (bL8 k ss)).snd (ss.getD k bL2)).fst) = true := (Eq.mp (bM1 _) h1); refine rF G _ h1 (wp_skip (j8 (b5 (C8 G c4 [(13, iA ((k : Int) + 1))] [wO ((k : Int) + 1)] (o1 (by omega)) fun G => b5 ?_)))); exact N5 G (k + 1) (⟨by omega, by rw [e7, ad1 hp.2 (by omega)]; assumption⟩) (by omega) (rg 6) (by have e1 : (((e7 p.vars.length p.arrays.length d c (bL8 (k + 1) ss)).snd : Int) : Int) = (((n4 p.vars.length p.arrays.length d (e7 p.vars.length p.arrays.length d c (bL8 k ss)).snd (ss.getD k bL2)).snd : Int)) := (by rw [e7, ad1 hp.2 (by omega)]); (first | rw [e1] | simp only [e1]) <;> rfl)
   · have q1 : ((n4 p.vars.length p.arrays.length d (e7 p.vars.length p.arrays.length d c (bL8 k ss)).snd (ss.getD k bL2)).fst) = false := (Eq.mp (bL9 _) h1); refine rT G _ h1 (wp_seq (d9 G c4 [] fun G => b5 (wp_ret (r7 (d7 (d7 (r7 (d7 ?_)))))))); exact n9 false G (rg 5) (by rw [e7, at5 hp.2 (by omega) (by assumption)]; assumption) (by show _ = mR (rg 5) [dI p.vars, dI p.arrays, dT p.body, .box [iA ((e7 p.vars.length p.arrays.length d c ss).snd : Int)], dT ss]; have e1 : (((e7 p.vars.length p.arrays.length d c ss).snd : Int) : Int) = (((n4 p.vars.length p.arrays.length d (e7 p.vars.length p.arrays.length d c (bL8 k ss)).snd (ss.getD k bL2)).snd : Int)) := (by rw [e7, at5 hp.2 (by omega) (by assumption)]); (first | rw [e1] | simp only [e1]) <;> rfl)
section
variable {nv na : Nat} {s : b6}
theorem s7 (k : s.kind = 1 ∨ s.kind = 5) : s6 nv na s = (decide (0 ≤ s.target ∧ s.target < nv ∧ s.body.length = 0 ∧ s.els.length = 0 ∧ s.count = 0) && (noneB s.index && f5 nv na s.value)) := by
 rw [s6, j4, if_pos k, if_neg (by omega), show decide (s.kind = 2) = false from decide_eq_false (by omega), bO1]
 simp only [bL3, decide_eq_true_eq, Bool.false_or]
 constructor
 ·rintro ⟨⟨⟨⟨a, b⟩, c⟩, d⟩, ⟨e, f⟩, g⟩; exact ⟨⟨e, f, a, b, c⟩, d, g⟩
 ·rintro ⟨⟨e, f, a, b, c⟩, d, g⟩; exact ⟨⟨⟨⟨a, b⟩, c⟩, d⟩, ⟨e, f⟩, g⟩
theorem B9 (k : s.kind = 2) : s6 nv na s = (decide (0 ≤ s.target ∧ s.target < na ∧ s.body.length = 0 ∧ s.els.length = 0 ∧ s.count = 0) && (f5 nv na s.index && (atomB s.index && f5 nv na s.value))) := by
 rw [s6, j4, if_neg (by omega), if_pos k, if_neg (by omega), show decide (s.kind = 2) = true from decide_eq_true k, bO1]
 simp only [bL3, decide_eq_true_eq, Bool.true_or]
 constructor
 ·rintro ⟨⟨⟨⟨a, b⟩, c⟩, -⟩, ⟨⟨⟨e, f⟩, i⟩, j⟩, g⟩; exact ⟨⟨e, f, a, b, c⟩, i, j, g⟩
 ·rintro ⟨⟨e, f, a, b, c⟩, i, j, g⟩; exact ⟨⟨⟨⟨a, b⟩, c⟩, bM6⟩, ⟨⟨⟨e, f⟩, i⟩, j⟩, g⟩
theorem N8 (k : s.kind = 3) : s6 nv na s = (decide (s.target = 0 ∧ s.count = 0) && (noneB s.index && f5 nv na s.value)) := by
 rw [s6, j4, if_pos (show s.kind = 3 ∨ s.kind = 4 from .inl k), if_neg (show ¬ s.kind = 4 by omega), if_neg (by omega), if_neg (by omega), if_pos k, bO1]
 simp only [bL3, decide_eq_true_eq]
 constructor
 ·rintro ⟨⟨a, b, c⟩, d⟩; exact ⟨⟨a, b⟩, c, d⟩
 ·rintro ⟨⟨a, b⟩, c, d⟩; exact ⟨⟨a, b, c⟩, d⟩
theorem L9 (k : s.kind = 4) : s6 nv na s = (decide (s.target = 0 ∧ s.els.length = 0 ∧ 1 ≤ s.count ∧ s.count ≤ 3) && (noneB s.index && noneB s.value)) := by
 rw [s6, j4, if_pos (show s.kind = 3 ∨ s.kind = 4 from .inr k), if_pos k, if_neg (by omega), if_neg (by omega), if_neg (by omega), show decide (s.kind = 4) = true from decide_eq_true k, bO1]
 simp only [bL3, decide_eq_true_eq]
 constructor
 ·rintro ⟨⟨a, ⟨⟨⟨b, c⟩, d⟩, e⟩, f⟩, -⟩; exact ⟨⟨a, b, c, d⟩, e, f⟩
 ·rintro ⟨⟨a, b, c, d⟩, e, f⟩; exact ⟨⟨a, ⟨⟨⟨b, c⟩, d⟩, e⟩, f⟩, bM6⟩
theorem az3 (k : ¬ s.kind = 1 ∧ ¬ s.kind = 2 ∧ ¬ s.kind = 3 ∧ ¬ s.kind = 4 ∧ ¬ s.kind = 5) : s6 nv na s = false := by
 rw [s6, if_neg (by omega), if_neg (by omega), if_neg (by omega), show decide (s.kind = 4) = false from decide_eq_false (by omega), Bool.and_false]
theorem J7 {p : Prop} [Decidable p] {a b : Bool} (hp : p) (ha : a = true) (hb : b = true) : (decide p && (a && b)) = true := by rw [ha, hb, decide_eq_true hp]; rfl
theorem aG0 {p : Prop} [Decidable p] {a b c : Bool} (hp : p) (ha : a = true) (hb : b = true) (hc : c = true) : (decide p && (a && (b && c))) = true := by rw [ha, hb, hc, decide_eq_true hp]; rfl
end
abbrev aa4 (p : b8) (d : Nat) (s : b6) (c : Nat) := e7 p.vars.length p.arrays.length d (e7 p.vars.length p.arrays.length d (c + 1) s.body).snd s.els
abbrev aa3 (p : b8) (d : Nat) (s : b6) (c : Nat) := e7 p.vars.length p.arrays.length d (c + 1) s.body
abbrev f9 (p : b8) (d : Nat) (s : b6) (c : Nat) : List It := [dI p.vars, dI p.arrays, dT p.body, .box [iA ((n4 p.vars.length p.arrays.length (d + 1) c s).snd : Int)], dE s.index.kids, dE s.value.kids, dT s.body, dT s.els]
abbrev P5 (s : b6) (r0 : List It) : List It := dE s.index.kids :: dE s.value.kids :: dT s.body :: dT s.els :: r0
abbrev P4 (p : b8) (r0 : List It) : List It := dI p.vars :: dI p.arrays :: dT p.body :: r0
theorem bm4 (p : b8) (d : Nat) (hd : d ≤ 4) (ih : ∀ (ss : List b6) (c : Nat) (n : Int), c ≤ 60 → n = 6 - (d : Int) → d8.ok Try.prog (aP8 p d c ss n))
    (s : b6) (c : Nat) (n : Int) (hc : c ≤ 60) (hn : n = 5 - (d : Int)) : d8.ok Try.prog (bo3 p (d + 1) c s n) := by
  have h100 : decide (n > 5) = false := by simp; omega
  refine x6 149 Try.func145 (P4 p (.box [iA c] :: (P5 s []))) [(0, pA 0), (1, sA s 4), (2, iA n), (3, .ptr 3 0)] fun G => ?_; have hl0 : p.vars.length ≤ 9223372036854775807 := G.len 0 (d := .ints p.vars) (by kernel_rfl); have hl1 : p.arrays.length ≤ 9223372036854775807 := G.len 1 (d := .ints p.arrays) (by kernel_rfl); refine wp_seq (e6 G c4 [0, 1, 2, 3, 4, 5, 6, 7, 8, 16] (P4 p (.box [iA c] :: (P5 s [.box (pL 0), .box (sL s 4)]))) [(2, iA n), (3, .ptr 3 0), (4, .ptr 8 0), (5, .ptr 9 0), (8, bA false)] fun G => b5 (wp_seq (S4 G c4 (rg 10) (P4 p (.box [iA ((c : Int) + 1)] :: (P5 s [.box (pL 0), .box (sL s 4)]))) [(2, iA n), (3, .ptr 3 0), (4, .ptr 8 0), (5, .ptr 9 0), (8, bA false)] [wO ((c : Int) + 1)] (o1 (by omega)) fun G => b5 (wp_seq (wp_seq ?_))))); cases h0 : (decide ((c : Int) + 1 > 60))
  ·
   have q0 := O0 h0; refine d9 G (z6 (fc h0 fz) [(5, 0), (6, 0), (1007, 0)]) [(27, bA (decide (n > 5)))] fun G => b5 (rF G (decide (n > 5)) (by assumption) (wp_skip (b5 (wp_seq (d9 G c4 [(9, iA 1), (10, bA false), (11, bA true), (12, bA false), (13, bA false), (14, bA false)] fun G => b5 (wp_seq (wp_seq (d9 G c4 [(29, iA s.kind)] fun G => b5 (wp_block (wp_seq (wp_seq (d9 G c4 [(30, bA (s.kind == 1))] fun G => b5 (I7 G (fun h1 q1 => ?_) fun h1 q1 => ?_)))))))))))))
   ·
    refine d9 G c4 [(30, bA (s.kind == 5))] fun G => b5 (I7 G (fun h2 q2 => ?_) fun h2 q2 => ?_)
    ·
     refine wp_seq (d9 G c4 [(36, bA (s.kind == 2))] fun G => b5 (I7 G (fun h3 q3 => ?_) fun h3 q3 => ?_))
     ·
      refine wp_seq (d9 G c4 [(41, bA (s.kind == 3))] fun G => b5 (I7 G (fun h4 q4 => ?_) fun h4 q4 => ?_))
      ·
       refine wp_seq (d9 G c4 [(43, bA (s.kind == 4))] fun G => b5 (I7 G (fun h5 q5 => ?_) fun h5 q5 => ?_))
       · refine wp_seq (d9 G c4 [] fun G => b5 (wp_ret (r7 (d7 ?_)))); exact n9 false G (rg 8) (by rw [c7 (az3 (by omega))]; done) (by show _ = mR (rg 8) (f9 p d s c); unfold f9; rw [c7 (az3 (by omega))] <;> rfl)
       ·
        refine d9 G c4 [(11, bA false), (12, bA true), (13, bA true)] fun G => j8 (b5 (wp_seq (wp_seq ?_))); cases h6 : (!(decide ((0 : Int) ≤ s.target) && decide (s.target ≤ 0)))
        ·
         have q6 : (0 ≤ s.target) ∧ (s.target ≤ 0) := (fun hq => And.imp (fun hq => of_decide_eq_true hq) (fun hq => of_decide_eq_true hq) (bO2.1 hq)) (Eq.mp (bM1 _) h6); cases h7 : (!(decide ((1 : Int) ≤ s.count) && decide (s.count ≤ 3)))
         ·
          have q7 : (1 ≤ s.count) ∧ (s.count ≤ 3) := (fun hq => And.imp (fun hq => of_decide_eq_true hq) (fun hq => of_decide_eq_true hq) (bO2.1 hq)) (Eq.mp (bM1 _) h7); refine C8 G (m0 (f6 4 [] (p9 s.target 0 0) (f6 11 [] (p9 s.count 1 3) l9)) (fc h6 (fc (b := true) rfl (fc h7 (fc (b := false) rfl fz)))) (us [(7, 8, 0), (9, 12, 1), (13, 13, 0), (1013, 1013, 1), (1014, 1014, 0), (16, 18, 2), (19, 21, 3), (22, 22, 2), (1022, 1022, 3), (1023, 1023, 2), (25, 32, 3), (1032, 1033, 3), (35, 37, 3), (38, 41, 1), (42, 42, 3), (1042, 1042, 1), (1043, 1043, 3)])) [(88, bA (decide ((s.els.length : Int) > 0)))] [IntKind.i64.wrap ((1 : Int) - 1) = 1 - 1] ⟨(by kernel_rfl), bM6⟩ fun G => b5 (M7 G (fun h8 q8 => ?_) fun h8 q8 => ?_)
          ·
           refine wp_skip (b5 (wp_seq (wp_seq ?_))); cases h9 : (!noneB s.index)
           ·
            have q9 : (noneB s.index) = true := (Eq.mp (bM1 _) h9); refine d9 G (m0 (f6 20 [4] (z7 s.index) (f6 40 [5] (z7 s.value) l9)) (fc (b := false) rfl (fc (b := true) rfl (fc h9 fz))) (us [(2, 7, 0), (12, 12, 0), (1013, 1013, 0), (15, 17, 0), (18, 21, 1), (22, 22, 0), (1022, 1022, 1), (1023, 1023, 0), (25, 26, 2), (27, 31, 0), (32, 32, 2), (1032, 1032, 0), (1033, 1033, 2), (35, 37, 0), (38, 41, 1), (42, 42, 0), (1042, 1042, 1), (1043, 1043, 0)])) [(132, .v (.bool !noneB s.value))] fun G => b5 ?_; cases h10 : (!noneB s.value)
            ·
             have q10 : (noneB s.value) = true := (Eq.mp (bM1 _) h10); refine rF G _ h10 (wp_skip (b5 (wp_seq ?_))); cases h11 : ((e7 p.vars.length p.arrays.length d (c + (1 : Nat)) s.body).fst)
             · refine S4 G (m0 (f6 6 [0, 1, 2, 3, 6] (ih s.body (c + 1) (n + 1) (by simp; omega) (by omega)) l9) (fc h11 fz) (us [(8, 14, 0), (1015, 1015, 0)])) (rg 8) (P4 p (.box [iA ((aa3 p d s c).snd : Int)] :: (P5 s []))) [(8, bA false)] [wO (n + 1)] (o1 (by omega)) fun G => b5 (wp_ret ?_); exact n9 false G (rg 8) (by rw [t9 (by omega) (by (rw [L9 (by omega)]; exact J7 (by omega) (by assumption) (by assumption))) (by assumption)]; assumption) (by show _ = mR (rg 8) (f9 p d s c); unfold f9; rw [t9 (by omega) (by (rw [L9 (by omega)]; exact J7 (by omega) (by assumption) (by assumption))) (by assumption)] <;> rfl)
             · refine S4 G (m0 (f6 6 [0, 1, 2, 3, 6] (ih s.body (c + 1) (n + 1) (by simp; omega) (by omega)) (f6 14 [0, 1, 2, 3, 7] (ih s.els ((aa3 p d s c).snd) (n + 1) (G2 (by omega) (by assumption)) (by omega)) l9)) (fc h11 fz) (us [(8, 14, 0), (1015, 1015, 0)])) (rg 8) (P4 p (.box [iA ((aa4 p d s c).snd : Int)] :: (P5 s []))) [(8, bA (aa4 p d s c).fst)] [wO (n + 1), wO (n + 1)] (o2 (by omega)) fun G => b5 (wp_ret ?_); exact n9 ((e7 p.vars.length p.arrays.length d (e7 p.vars.length p.arrays.length d (c + 1) s.body).snd s.els).fst) G (rg 8) (by rw [x8 (by omega) (by (rw [L9 (by omega)]; exact J7 (by omega) (by assumption) (by assumption))) (by assumption)]; done) (by show _ = mR (rg 8) (f9 p d s c); unfold f9; rw [x8 (by omega) (by (rw [L9 (by omega)]; exact J7 (by omega) (by assumption) (by assumption))) (by assumption)] <;> rfl)
            · have q10 : (noneB s.value) = false := (Eq.mp (bL9 _) h10); refine rT G _ h10 (wp_seq (d9 G c4 [] fun G => b5 (wp_ret (d7 ?_)))); exact n9 false G (rg 8) (by rw [c7 (by (rw [L9 (by omega)]; simp [h100, h0, q0, h1, q1, h2, q2, h3, q3, h4, q4, h5, q5, h6, q6, h7, q7, h8, q8, h9, q9, h10, q10]; done))]; done) (by show _ = mR (rg 8) (f9 p d s c); unfold f9; rw [c7 (by (rw [L9 (by omega)]; simp [h100, h0, q0, h1, q1, h2, q2, h3, q3, h4, q4, h5, q5, h6, q6, h7, q7, h8, q8, h9, q9, h10, q10]; done))] <;> rfl)
           · have q9 : (noneB s.index) = false := (Eq.mp (bL9 _) h9); refine d9 G (m0 (f6 20 [4] (z7 s.index) l9) (fc (b := false) rfl (fc (b := true) rfl (fc h9 fz))) (us [(2, 7, 0), (12, 12, 0), (1013, 1013, 0), (15, 17, 0), (18, 21, 1), (22, 22, 0), (1022, 1022, 1), (1023, 1023, 0), (25, 26, 2), (32, 32, 2), (1033, 1033, 2), (35, 37, 1), (42, 42, 1), (1043, 1043, 1)])) [(132, bA true)] fun G => b5 (rT G true (by kernel_rfl) (wp_seq (d9 G c4 [] fun G => b5 (wp_ret (d7 ?_))))); exact n9 false G (rg 8) (by rw [c7 (by (rw [L9 (by omega)]; simp [h100, h0, q0, h1, q1, h2, q2, h3, q3, h4, q4, h5, q5, h6, q6, h7, q7, h8, q8, h9, q9]; done))]; done) (by show _ = mR (rg 8) (f9 p d s c); unfold f9; rw [c7 (by (rw [L9 (by omega)]; simp [h100, h0, q0, h1, q1, h2, q2, h3, q3, h4, q4, h5, q5, h6, q6, h7, q7, h8, q8, h9, q9]; done))] <;> rfl)
          · refine wp_seq (d9 G c4 [] fun G => b5 (wp_ret (d7 ?_))); exact n9 false G (rg 8) (by rw [c7 (by (rw [L9 (by omega), decide_eq_false (by omega)]; rfl))]; done) (by show _ = mR (rg 8) (f9 p d s c); unfold f9; rw [c7 (by (rw [L9 (by omega), decide_eq_false (by omega)]; rfl))] <;> rfl)
         · have q7 : (¬ (1 ≤ s.count)) ∨ (¬ (s.count ≤ 3)) := (fun hq => Or.imp (fun hq => of_decide_eq_false hq) (fun hq => of_decide_eq_false hq) (bN9.1 hq)) (Eq.mp (bL9 _) h7); refine C8 G (m0 (f6 4 [] (p9 s.target 0 0) (f6 11 [] (p9 s.count 1 3) l9)) (fc h6 (fc (b := true) rfl (fc h7 fz))) (us [(7, 8, 0), (9, 12, 1), (13, 13, 0), (1013, 1013, 1), (1014, 1014, 0), (16, 18, 2), (22, 22, 2), (1023, 1023, 2), (25, 27, 1), (32, 32, 1), (1033, 1033, 1), (35, 37, 1), (42, 42, 1), (1043, 1043, 1)])) [(88, bA true)] [IntKind.i64.wrap ((1 : Int) - 1) = 1 - 1] ⟨(by kernel_rfl), bM6⟩ fun G => b5 (rT G true (by kernel_rfl) (wp_seq (d9 G c4 [] fun G => b5 (wp_ret (d7 ?_))))); exact n9 false G (rg 8) (by rw [c7 (by (rw [L9 (by omega), decide_eq_false (by omega)]; rfl))]; done) (by show _ = mR (rg 8) (f9 p d s c); unfold f9; rw [c7 (by (rw [L9 (by omega), decide_eq_false (by omega)]; rfl))] <;> rfl)
        · have q6 : (¬ (0 ≤ s.target)) ∨ (¬ (s.target ≤ 0)) := (fun hq => Or.imp (fun hq => of_decide_eq_false hq) (fun hq => of_decide_eq_false hq) (bN9.1 hq)) (Eq.mp (bL9 _) h6); refine C8 G (m0 (f6 4 [] (p9 s.target 0 0) l9) (fc h6 (fc (b := true) rfl fz)) [(7, 0), (8, 0), (13, 0), (1014, 0), (16, 1), (17, 1), (18, 1), (22, 1), (1023, 1), (25, 1), (26, 1), (27, 1), (32, 1), (1033, 1), (35, 1), (36, 1), (37, 1), (42, 1), (1043, 1)]) [(88, bA true)] [IntKind.i64.wrap ((1 : Int) - 1) = 1 - 1] ⟨(by kernel_rfl), bM6⟩ fun G => b5 (rT G true (by kernel_rfl) (wp_seq (d9 G c4 [] fun G => b5 (wp_ret (d7 ?_))))); exact n9 false G (rg 8) (by rw [c7 (by (rw [L9 (by omega), decide_eq_false (by omega)]; rfl))]; done) (by show _ = mR (rg 8) (f9 p d s c); unfold f9; rw [c7 (by (rw [L9 (by omega), decide_eq_false (by omega)]; rfl))] <;> rfl)
      ·
       refine d9 G c4 [(13, bA true), (14, bA true)] fun G => j8 (b5 (wp_seq (wp_seq ?_))); cases h12 : (!(decide ((0 : Int) ≤ s.target) && decide (s.target ≤ 0)))
       ·
        have q12 : (0 ≤ s.target) ∧ (s.target ≤ 0) := (fun hq => And.imp (fun hq => of_decide_eq_true hq) (fun hq => of_decide_eq_true hq) (bO2.1 hq)) (Eq.mp (bM1 _) h12); cases h13 : (s.count != 0)
        ·
         have q13 := bne_eq_false_iff_eq.1 h13; refine C8 G (m0 (f6 4 [] (p9 s.target 0 0) l9) (fc h12 (fc (b := false) rfl (fc (b := true) rfl (fc h13 fz)))) (us [(7, 8, 0), (9, 12, 1), (13, 13, 0), (1013, 1013, 1), (1014, 1014, 0), (16, 18, 1), (19, 21, 2), (22, 22, 1), (1022, 1022, 2), (1023, 1023, 1), (25, 27, 3), (28, 31, 1), (32, 32, 3), (1032, 1032, 1), (1033, 1033, 3), (35, 42, 1), (1042, 1043, 1)])) [(88, bA false)] [IntKind.i64.wrap ((1 : Int) - 1) = 1 - 1] ⟨(by kernel_rfl), bM6⟩ fun G => b5 (rF G false (by kernel_rfl) (wp_skip (b5 (wp_seq (wp_seq ?_))))); cases h14 : (!noneB s.index)
         ·
          have q14 : (noneB s.index) = true := (Eq.mp (bM1 _) h14); cases h15 : (!f5 p.vars.length p.arrays.length s.value)
          ·
           have q15 : (f5 p.vars.length p.arrays.length s.value) = true := (Eq.mp (bM1 _) h15); refine d9 G (m0 (f6 20 [4] (z7 s.index) (f6 30 [0, 1, 2, 5] (I8 p s.value) l9)) (fc (b := false) rfl (fc (b := true) rfl (fc h14 (fc h15 fz)))) (us [(2, 7, 0), (12, 12, 0), (1013, 1013, 0), (15, 17, 0), (18, 21, 1), (22, 22, 0), (1022, 1022, 1), (1023, 1023, 0), (25, 26, 2), (27, 31, 1), (32, 32, 2), (1032, 1032, 1), (1033, 1033, 2), (35, 37, 3), (38, 41, 0), (42, 42, 3), (1042, 1042, 0), (1043, 1043, 3)])) [(132, bA false)] fun G => b5 (rF G false (by kernel_rfl) (wp_skip (b5 (wp_seq ?_)))); cases h16 : ((e7 p.vars.length p.arrays.length d (c + (1 : Nat)) s.body).fst)
           · refine S4 G (m0 (f6 6 [0, 1, 2, 3, 6] (ih s.body (c + 1) (n + 1) (by simp; omega) (by omega)) l9) (fc h16 fz) (us [(8, 14, 0), (1015, 1015, 0)])) (rg 8) (P4 p (.box [iA ((aa3 p d s c).snd : Int)] :: (P5 s []))) [(8, bA false)] [wO (n + 1)] (o1 (by omega)) fun G => b5 (wp_ret ?_); exact n9 false G (rg 8) (by rw [t9 (by omega) (by (rw [N8 (by omega)]; exact J7 (by omega) (by assumption) (by assumption))) (by assumption)]; assumption) (by show _ = mR (rg 8) (f9 p d s c); unfold f9; rw [t9 (by omega) (by (rw [N8 (by omega)]; exact J7 (by omega) (by assumption) (by assumption))) (by assumption)] <;> rfl)
           · refine S4 G (m0 (f6 6 [0, 1, 2, 3, 6] (ih s.body (c + 1) (n + 1) (by simp; omega) (by omega)) (f6 14 [0, 1, 2, 3, 7] (ih s.els ((aa3 p d s c).snd) (n + 1) (G2 (by omega) (by assumption)) (by omega)) l9)) (fc h16 fz) (us [(8, 14, 0), (1015, 1015, 0)])) (rg 8) (P4 p (.box [iA ((aa4 p d s c).snd : Int)] :: (P5 s []))) [(8, bA (aa4 p d s c).fst)] [wO (n + 1), wO (n + 1)] (o2 (by omega)) fun G => b5 (wp_ret ?_); exact n9 ((e7 p.vars.length p.arrays.length d (e7 p.vars.length p.arrays.length d (c + 1) s.body).snd s.els).fst) G (rg 8) (by rw [x8 (by omega) (by (rw [N8 (by omega)]; exact J7 (by omega) (by assumption) (by assumption))) (by assumption)]; done) (by show _ = mR (rg 8) (f9 p d s c); unfold f9; rw [x8 (by omega) (by (rw [N8 (by omega)]; exact J7 (by omega) (by assumption) (by assumption))) (by assumption)] <;> rfl)
          · have q15 : (f5 p.vars.length p.arrays.length s.value) = false := (Eq.mp (bL9 _) h15); refine d9 G (m0 (f6 20 [4] (z7 s.index) (f6 30 [0, 1, 2, 5] (I8 p s.value) l9)) (fc (b := false) rfl (fc (b := true) rfl (fc h14 (fc h15 fz)))) (us [(2, 7, 0), (12, 12, 0), (1013, 1013, 0), (15, 17, 0), (18, 21, 1), (22, 22, 0), (1022, 1022, 1), (1023, 1023, 0), (25, 26, 2), (27, 31, 1), (32, 32, 2), (1032, 1032, 1), (1033, 1033, 2), (35, 37, 3), (42, 42, 3), (1043, 1043, 3)])) [(132, bA true)] fun G => b5 (rT G true (by kernel_rfl) (wp_seq (d9 G c4 [] fun G => b5 (wp_ret (d7 ?_))))); exact n9 false G (rg 8) (by rw [c7 (by (rw [N8 (by omega)]; simp [h100, h0, q0, h1, q1, h2, q2, h3, q3, h4, q4, h12, q12, h13, q13, h14, q14, h15, q15]; done))]; done) (by show _ = mR (rg 8) (f9 p d s c); unfold f9; rw [c7 (by (rw [N8 (by omega)]; simp [h100, h0, q0, h1, q1, h2, q2, h3, q3, h4, q4, h12, q12, h13, q13, h14, q14, h15, q15]; done))] <;> rfl)
         · have q14 : (noneB s.index) = false := (Eq.mp (bL9 _) h14); refine d9 G (m0 (f6 20 [4] (z7 s.index) l9) (fc (b := false) rfl (fc (b := true) rfl (fc h14 fz))) (us [(2, 7, 0), (12, 12, 0), (1013, 1013, 0), (15, 17, 0), (18, 21, 1), (22, 22, 0), (1022, 1022, 1), (1023, 1023, 0), (25, 26, 2), (32, 32, 2), (1033, 1033, 2), (35, 37, 1), (42, 42, 1), (1043, 1043, 1)])) [(132, bA true)] fun G => b5 (rT G true (by kernel_rfl) (wp_seq (d9 G c4 [] fun G => b5 (wp_ret (d7 ?_))))); exact n9 false G (rg 8) (by rw [c7 (by (rw [N8 (by omega)]; simp [h100, h0, q0, h1, q1, h2, q2, h3, q3, h4, q4, h12, q12, h13, q13, h14, q14]; done))]; done) (by show _ = mR (rg 8) (f9 p d s c); unfold f9; rw [c7 (by (rw [N8 (by omega)]; simp [h100, h0, q0, h1, q1, h2, q2, h3, q3, h4, q4, h12, q12, h13, q13, h14, q14]; done))] <;> rfl)
        · have q13 := bne_iff_ne.1 h13; refine C8 G (m0 (f6 4 [] (p9 s.target 0 0) l9) (fc h12 (fc (b := false) rfl (fc (b := true) rfl (fc h13 fz)))) (us [(7, 8, 0), (9, 12, 1), (13, 13, 0), (1013, 1013, 1), (1014, 1014, 0), (16, 18, 1), (19, 21, 2), (22, 22, 1), (1022, 1022, 2), (1023, 1023, 1), (25, 27, 3), (32, 32, 3), (1033, 1033, 3), (35, 37, 2), (42, 42, 2), (1043, 1043, 2)])) [(88, bA true)] [IntKind.i64.wrap ((1 : Int) - 1) = 1 - 1] ⟨(by kernel_rfl), bM6⟩ fun G => b5 (rT G true (by kernel_rfl) (wp_seq (d9 G c4 [] fun G => b5 (wp_ret (d7 ?_))))); exact n9 false G (rg 8) (by rw [c7 (by (rw [N8 (by omega), decide_eq_false (by omega)]; rfl))]; done) (by show _ = mR (rg 8) (f9 p d s c); unfold f9; rw [c7 (by (rw [N8 (by omega), decide_eq_false (by omega)]; rfl))] <;> rfl)
       · have q12 : (¬ (0 ≤ s.target)) ∨ (¬ (s.target ≤ 0)) := (fun hq => Or.imp (fun hq => of_decide_eq_false hq) (fun hq => of_decide_eq_false hq) (bN9.1 hq)) (Eq.mp (bL9 _) h12); refine C8 G (m0 (f6 4 [] (p9 s.target 0 0) l9) (fc h12 (fc (b := true) rfl fz)) [(7, 0), (8, 0), (13, 0), (1014, 0), (16, 1), (17, 1), (18, 1), (22, 1), (1023, 1), (25, 1), (26, 1), (27, 1), (32, 1), (1033, 1), (35, 1), (36, 1), (37, 1), (42, 1), (1043, 1)]) [(88, bA true)] [IntKind.i64.wrap ((1 : Int) - 1) = 1 - 1] ⟨(by kernel_rfl), bM6⟩ fun G => b5 (rT G true (by kernel_rfl) (wp_seq (d9 G c4 [] fun G => b5 (wp_ret (d7 ?_))))); exact n9 false G (rg 8) (by rw [c7 (by (rw [N8 (by omega), decide_eq_false (by omega)]; rfl))]; done) (by show _ = mR (rg 8) (f9 p d s c); unfold f9; rw [c7 (by (rw [N8 (by omega), decide_eq_false (by omega)]; rfl))] <;> rfl)
     ·
      refine d9 G c4 [(9, iA (p.arrays.length : Int)), (10, bA true)] fun G => j8 (b5 (wp_seq (wp_seq ?_))); cases h17 : (!(decide ((0 : Int) ≤ s.target) && decide (s.target ≤ (p.arrays.length : Int) - 1)))
      ·
       have q17 : (0 ≤ s.target) ∧ (s.target ≤ (p.arrays.length : Int) - 1) := (fun hq => And.imp (fun hq => of_decide_eq_true hq) (fun hq => of_decide_eq_true hq) (bO2.1 hq)) (Eq.mp (bM1 _) h17); cases h18 : (s.count != 0)
       ·
        have q18 := bne_eq_false_iff_eq.1 h18; cases h19 : (decide ((s.body.length : Int) > 0))
        ·
         have q19 := O0 h19; refine C8 G (m0 (f6 4 [] (p9 s.target 0 ((p.arrays.length : Int) - 1)) l9) (fc h17 (fc (b := false) rfl (fc (b := true) rfl (fc h18 (fc h19 fz))))) (us [(7, 8, 0), (9, 12, 1), (13, 13, 0), (1013, 1013, 1), (1014, 1014, 0), (16, 18, 1), (19, 21, 2), (22, 22, 1), (1022, 1022, 2), (1023, 1023, 1), (25, 27, 3), (28, 31, 2), (32, 32, 3), (1032, 1032, 2), (1033, 1033, 3), (35, 37, 4), (38, 41, 2), (42, 42, 4), (1042, 1042, 2), (1043, 1043, 4)])) [(88, bA (decide ((s.els.length : Int) > 0)))] [wO ((p.arrays.length : Int) - 1)] (o1 (by omega)) fun G => b5 (M7 G (fun h20 q20 => ?_) fun h20 q20 => ?_)
         ·
          refine wp_skip (b5 (wp_seq (wp_seq ?_))); cases h21 : (!f5 p.vars.length p.arrays.length s.index)
          ·
           have q21 : (f5 p.vars.length p.arrays.length s.index) = true := (Eq.mp (bM1 _) h21); cases h22 : (!atomB s.index)
           ·
            have q22 : (atomB s.index) = true := (Eq.mp (bM1 _) h22); cases h23 : (!f5 p.vars.length p.arrays.length s.value)
            ·
             have q23 : (f5 p.vars.length p.arrays.length s.value) = true := (Eq.mp (bM1 _) h23); refine d9 G (m0 (f6 5 [0, 1, 2, 4] (I8 p s.index) (f6 10 [4] (aj3 s.index) (f6 30 [0, 1, 2, 5] (I8 p s.value) l9))) (fc (b := true) rfl (fc h21 (fc h22 (fc (b := false) rfl (fc h23 fz))))) (us [(2, 7, 0), (8, 11, 1), (12, 12, 0), (1012, 1012, 1), (1013, 1013, 0), (15, 17, 2), (18, 21, 3), (22, 22, 2), (1022, 1022, 3), (1023, 1023, 2), (25, 26, 3), (27, 31, 0), (32, 32, 3), (1032, 1032, 0), (1033, 1033, 3), (35, 37, 4), (38, 41, 3), (42, 42, 4), (1042, 1042, 3), (1043, 1043, 4)])) [(132, bA false)] fun G => b5 (rF G false (by kernel_rfl) (wp_skip (b5 (wp_seq ?_)))); cases h24 : ((e7 p.vars.length p.arrays.length d (c + (1 : Nat)) s.body).fst)
             · refine S4 G (m0 (f6 6 [0, 1, 2, 3, 6] (ih s.body (c + 1) (n + 1) (by simp; omega) (by omega)) l9) (fc h24 fz) (us [(8, 14, 0), (1015, 1015, 0)])) (rg 8) (P4 p (.box [iA ((aa3 p d s c).snd : Int)] :: (P5 s []))) [(8, bA false)] [wO (n + 1)] (o1 (by omega)) fun G => b5 (wp_ret ?_); exact n9 false G (rg 8) (by rw [t9 (by omega) (by (rw [B9 (by omega)]; exact aG0 (by omega) (by assumption) (by assumption) (by assumption))) (by assumption)]; assumption) (by show _ = mR (rg 8) (f9 p d s c); unfold f9; rw [t9 (by omega) (by (rw [B9 (by omega)]; exact aG0 (by omega) (by assumption) (by assumption) (by assumption))) (by assumption)] <;> rfl)
             · refine S4 G (m0 (f6 6 [0, 1, 2, 3, 6] (ih s.body (c + 1) (n + 1) (by simp; omega) (by omega)) (f6 14 [0, 1, 2, 3, 7] (ih s.els ((aa3 p d s c).snd) (n + 1) (G2 (by omega) (by assumption)) (by omega)) l9)) (fc h24 fz) (us [(8, 14, 0), (1015, 1015, 0)])) (rg 8) (P4 p (.box [iA ((aa4 p d s c).snd : Int)] :: (P5 s []))) [(8, bA (aa4 p d s c).fst)] [wO (n + 1), wO (n + 1)] (o2 (by omega)) fun G => b5 (wp_ret ?_); exact n9 ((e7 p.vars.length p.arrays.length d (e7 p.vars.length p.arrays.length d (c + 1) s.body).snd s.els).fst) G (rg 8) (by rw [x8 (by omega) (by (rw [B9 (by omega)]; exact aG0 (by omega) (by assumption) (by assumption) (by assumption))) (by assumption)]; done) (by show _ = mR (rg 8) (f9 p d s c); unfold f9; rw [x8 (by omega) (by (rw [B9 (by omega)]; exact aG0 (by omega) (by assumption) (by assumption) (by assumption))) (by assumption)] <;> rfl)
            · have q23 : (f5 p.vars.length p.arrays.length s.value) = false := (Eq.mp (bL9 _) h23); refine d9 G (m0 (f6 5 [0, 1, 2, 4] (I8 p s.index) (f6 10 [4] (aj3 s.index) (f6 30 [0, 1, 2, 5] (I8 p s.value) l9))) (fc (b := true) rfl (fc h21 (fc h22 (fc (b := false) rfl (fc h23 fz))))) (us [(2, 7, 0), (8, 11, 1), (12, 12, 0), (1012, 1012, 1), (1013, 1013, 0), (15, 17, 2), (18, 21, 3), (22, 22, 2), (1022, 1022, 3), (1023, 1023, 2), (25, 26, 3), (27, 31, 0), (32, 32, 3), (1032, 1032, 0), (1033, 1033, 3), (35, 37, 4), (42, 42, 4), (1043, 1043, 4)])) [(132, bA true)] fun G => b5 (rT G true (by kernel_rfl) (wp_seq (d9 G c4 [] fun G => b5 (wp_ret (d7 ?_))))); exact n9 false G (rg 8) (by rw [c7 (by (rw [B9 (by omega)]; simp [h100, h0, q0, h1, q1, h2, q2, h3, q3, h17, q17, h18, q18, h19, q19, h20, q20, h21, q21, h22, q22, h23, q23]; done))]; done) (by show _ = mR (rg 8) (f9 p d s c); unfold f9; rw [c7 (by (rw [B9 (by omega)]; simp [h100, h0, q0, h1, q1, h2, q2, h3, q3, h17, q17, h18, q18, h19, q19, h20, q20, h21, q21, h22, q22, h23, q23]; done))] <;> rfl)
           · have q22 : (atomB s.index) = false := (Eq.mp (bL9 _) h22); refine d9 G (m0 (f6 5 [0, 1, 2, 4] (I8 p s.index) (f6 10 [4] (aj3 s.index) l9)) (fc (b := true) rfl (fc h21 (fc h22 fz))) (us [(2, 7, 0), (8, 11, 1), (12, 12, 0), (1012, 1012, 1), (1013, 1013, 0), (15, 17, 2), (22, 22, 2), (1023, 1023, 2), (25, 26, 0), (32, 32, 0), (1033, 1033, 0), (35, 37, 0), (42, 42, 0), (1043, 1043, 0)])) [(132, bA true)] fun G => b5 (rT G true (by kernel_rfl) (wp_seq (d9 G c4 [] fun G => b5 (wp_ret (d7 ?_))))); exact n9 false G (rg 8) (by rw [c7 (by (rw [B9 (by omega)]; simp [h100, h0, q0, h1, q1, h2, q2, h3, q3, h17, q17, h18, q18, h19, q19, h20, q20, h21, q21, h22, q22]; done))]; done) (by show _ = mR (rg 8) (f9 p d s c); unfold f9; rw [c7 (by (rw [B9 (by omega)]; simp [h100, h0, q0, h1, q1, h2, q2, h3, q3, h17, q17, h18, q18, h19, q19, h20, q20, h21, q21, h22, q22]; done))] <;> rfl)
          · have q21 : (f5 p.vars.length p.arrays.length s.index) = false := (Eq.mp (bL9 _) h21); refine d9 G (m0 (f6 5 [0, 1, 2, 4] (I8 p s.index) l9) (fc (b := true) rfl (fc h21 fz)) (us [(2, 7, 0), (8, 11, 1), (12, 12, 0), (1012, 1012, 1), (1013, 1013, 0), (15, 17, 0), (22, 22, 0), (1023, 1023, 0), (25, 26, 0), (32, 32, 0), (1033, 1033, 0), (35, 37, 0), (42, 42, 0), (1043, 1043, 0)])) [(132, bA true)] fun G => b5 (rT G true (by kernel_rfl) (wp_seq (d9 G c4 [] fun G => b5 (wp_ret (d7 ?_))))); exact n9 false G (rg 8) (by rw [c7 (by (rw [B9 (by omega)]; simp [h100, h0, q0, h1, q1, h2, q2, h3, q3, h17, q17, h18, q18, h19, q19, h20, q20, h21, q21]; done))]; done) (by show _ = mR (rg 8) (f9 p d s c); unfold f9; rw [c7 (by (rw [B9 (by omega)]; simp [h100, h0, q0, h1, q1, h2, q2, h3, q3, h17, q17, h18, q18, h19, q19, h20, q20, h21, q21]; done))] <;> rfl)
         · refine wp_seq (d9 G c4 [] fun G => b5 (wp_ret (d7 ?_))); exact n9 false G (rg 8) (by rw [c7 (by (rw [B9 (by omega), decide_eq_false (by omega)]; rfl))]; done) (by show _ = mR (rg 8) (f9 p d s c); unfold f9; rw [c7 (by (rw [B9 (by omega), decide_eq_false (by omega)]; rfl))] <;> rfl)
        · have q19 := N9 h19; refine C8 G (m0 (f6 4 [] (p9 s.target 0 ((p.arrays.length : Int) - 1)) l9) (fc h17 (fc (b := false) rfl (fc (b := true) rfl (fc h18 (fc h19 fz))))) (us [(7, 8, 0), (9, 12, 1), (13, 13, 0), (1013, 1013, 1), (1014, 1014, 0), (16, 18, 1), (19, 21, 2), (22, 22, 1), (1022, 1022, 2), (1023, 1023, 1), (25, 27, 3), (28, 31, 2), (32, 32, 3), (1032, 1032, 2), (1033, 1033, 3), (35, 37, 4), (42, 42, 4), (1043, 1043, 4)])) [(88, bA true)] [wO ((p.arrays.length : Int) - 1)] (o1 (by omega)) fun G => b5 (rT G true (by kernel_rfl) (wp_seq (d9 G c4 [] fun G => b5 (wp_ret (d7 ?_))))); exact n9 false G (rg 8) (by rw [c7 (by (rw [B9 (by omega), decide_eq_false (by omega)]; rfl))]; done) (by show _ = mR (rg 8) (f9 p d s c); unfold f9; rw [c7 (by (rw [B9 (by omega), decide_eq_false (by omega)]; rfl))] <;> rfl)
       · have q18 := bne_iff_ne.1 h18; refine C8 G (m0 (f6 4 [] (p9 s.target 0 ((p.arrays.length : Int) - 1)) l9) (fc h17 (fc (b := false) rfl (fc (b := true) rfl (fc h18 fz)))) (us [(7, 8, 0), (9, 12, 1), (13, 13, 0), (1013, 1013, 1), (1014, 1014, 0), (16, 18, 1), (19, 21, 2), (22, 22, 1), (1022, 1022, 2), (1023, 1023, 1), (25, 27, 3), (32, 32, 3), (1033, 1033, 3), (35, 37, 2), (42, 42, 2), (1043, 1043, 2)])) [(88, bA true)] [wO ((p.arrays.length : Int) - 1)] (o1 (by omega)) fun G => b5 (rT G true (by kernel_rfl) (wp_seq (d9 G c4 [] fun G => b5 (wp_ret (d7 ?_))))); exact n9 false G (rg 8) (by rw [c7 (by (rw [B9 (by omega), decide_eq_false (by omega)]; rfl))]; done) (by show _ = mR (rg 8) (f9 p d s c); unfold f9; rw [c7 (by (rw [B9 (by omega), decide_eq_false (by omega)]; rfl))] <;> rfl)
      · have q17 : (¬ (0 ≤ s.target)) ∨ (¬ (s.target ≤ (p.arrays.length : Int) - 1)) := (fun hq => Or.imp (fun hq => of_decide_eq_false hq) (fun hq => of_decide_eq_false hq) (bN9.1 hq)) (Eq.mp (bL9 _) h17); refine C8 G (m0 (f6 4 [] (p9 s.target 0 ((p.arrays.length : Int) - 1)) l9) (fc h17 (fc (b := true) rfl fz)) [(7, 0), (8, 0), (13, 0), (1014, 0), (16, 1), (17, 1), (18, 1), (22, 1), (1023, 1), (25, 1), (26, 1), (27, 1), (32, 1), (1033, 1), (35, 1), (36, 1), (37, 1), (42, 1), (1043, 1)]) [(88, bA true)] [wO ((p.arrays.length : Int) - 1)] (o1 (by omega)) fun G => b5 (rT G true (by kernel_rfl) (wp_seq (d9 G c4 [] fun G => b5 (wp_ret (d7 ?_))))); exact n9 false G (rg 8) (by rw [c7 (by (rw [B9 (by omega), decide_eq_false (by omega)]; rfl))]; done) (by show _ = mR (rg 8) (f9 p d s c); unfold f9; rw [c7 (by (rw [B9 (by omega), decide_eq_false (by omega)]; rfl))] <;> rfl)
    ·
     refine d9 G c4 [(9, iA (p.vars.length : Int))] fun G => j8 (b5 (wp_seq (wp_seq ?_))); cases h25 : (!(decide ((0 : Int) ≤ s.target) && decide (s.target ≤ (p.vars.length : Int) - 1)))
     ·
      have q25 : (0 ≤ s.target) ∧ (s.target ≤ (p.vars.length : Int) - 1) := (fun hq => And.imp (fun hq => of_decide_eq_true hq) (fun hq => of_decide_eq_true hq) (bO2.1 hq)) (Eq.mp (bM1 _) h25); cases h26 : (s.count != 0)
      ·
       have q26 := bne_eq_false_iff_eq.1 h26; cases h27 : (decide ((s.body.length : Int) > 0))
       ·
        have q27 := O0 h27; refine C8 G (m0 (f6 4 [] (p9 s.target 0 ((p.vars.length : Int) - 1)) l9) (fc h25 (fc (b := false) rfl (fc (b := true) rfl (fc h26 (fc h27 fz))))) (us [(7, 8, 0), (9, 12, 1), (13, 13, 0), (1013, 1013, 1), (1014, 1014, 0), (16, 18, 1), (19, 21, 2), (22, 22, 1), (1022, 1022, 2), (1023, 1023, 1), (25, 27, 3), (28, 31, 2), (32, 32, 3), (1032, 1032, 2), (1033, 1033, 3), (35, 37, 4), (38, 41, 2), (42, 42, 4), (1042, 1042, 2), (1043, 1043, 4)])) [(88, bA (decide ((s.els.length : Int) > 0)))] [wO ((p.vars.length : Int) - 1)] (o1 (by omega)) fun G => b5 (M7 G (fun h28 q28 => ?_) fun h28 q28 => ?_)
        ·
         refine wp_skip (b5 (wp_seq (wp_seq ?_))); cases h29 : (!noneB s.index)
         ·
          have q29 : (noneB s.index) = true := (Eq.mp (bM1 _) h29); cases h30 : (!f5 p.vars.length p.arrays.length s.value)
          ·
           have q30 : (f5 p.vars.length p.arrays.length s.value) = true := (Eq.mp (bM1 _) h30); refine d9 G (m0 (f6 20 [4] (z7 s.index) (f6 30 [0, 1, 2, 5] (I8 p s.value) l9)) (fc (b := false) rfl (fc (b := true) rfl (fc h29 (fc h30 fz)))) (us [(2, 7, 0), (12, 12, 0), (1013, 1013, 0), (15, 17, 0), (18, 21, 1), (22, 22, 0), (1022, 1022, 1), (1023, 1023, 0), (25, 26, 2), (27, 31, 1), (32, 32, 2), (1032, 1032, 1), (1033, 1033, 2), (35, 37, 3), (38, 41, 0), (42, 42, 3), (1042, 1042, 0), (1043, 1043, 3)])) [(132, bA false)] fun G => b5 (rF G false (by kernel_rfl) (wp_skip (b5 (wp_seq ?_)))); cases h31 : ((e7 p.vars.length p.arrays.length d (c + (1 : Nat)) s.body).fst)
           · refine S4 G (m0 (f6 6 [0, 1, 2, 3, 6] (ih s.body (c + 1) (n + 1) (by simp; omega) (by omega)) l9) (fc h31 fz) (us [(8, 14, 0), (1015, 1015, 0)])) (rg 8) (P4 p (.box [iA ((aa3 p d s c).snd : Int)] :: (P5 s []))) [(8, bA false)] [wO (n + 1)] (o1 (by omega)) fun G => b5 (wp_ret ?_); exact n9 false G (rg 8) (by rw [t9 (by omega) (by (rw [s7 (by omega)]; exact J7 (by omega) (by assumption) (by assumption))) (by assumption)]; assumption) (by show _ = mR (rg 8) (f9 p d s c); unfold f9; rw [t9 (by omega) (by (rw [s7 (by omega)]; exact J7 (by omega) (by assumption) (by assumption))) (by assumption)] <;> rfl)
           · refine S4 G (m0 (f6 6 [0, 1, 2, 3, 6] (ih s.body (c + 1) (n + 1) (by simp; omega) (by omega)) (f6 14 [0, 1, 2, 3, 7] (ih s.els ((aa3 p d s c).snd) (n + 1) (G2 (by omega) (by assumption)) (by omega)) l9)) (fc h31 fz) (us [(8, 14, 0), (1015, 1015, 0)])) (rg 8) (P4 p (.box [iA ((aa4 p d s c).snd : Int)] :: (P5 s []))) [(8, bA (aa4 p d s c).fst)] [wO (n + 1), wO (n + 1)] (o2 (by omega)) fun G => b5 (wp_ret ?_); exact n9 ((e7 p.vars.length p.arrays.length d (e7 p.vars.length p.arrays.length d (c + 1) s.body).snd s.els).fst) G (rg 8) (by rw [x8 (by omega) (by (rw [s7 (by omega)]; exact J7 (by omega) (by assumption) (by assumption))) (by assumption)]; done) (by show _ = mR (rg 8) (f9 p d s c); unfold f9; rw [x8 (by omega) (by (rw [s7 (by omega)]; exact J7 (by omega) (by assumption) (by assumption))) (by assumption)] <;> rfl)
          · have q30 : (f5 p.vars.length p.arrays.length s.value) = false := (Eq.mp (bL9 _) h30); refine d9 G (m0 (f6 20 [4] (z7 s.index) (f6 30 [0, 1, 2, 5] (I8 p s.value) l9)) (fc (b := false) rfl (fc (b := true) rfl (fc h29 (fc h30 fz)))) (us [(2, 7, 0), (12, 12, 0), (1013, 1013, 0), (15, 17, 0), (18, 21, 1), (22, 22, 0), (1022, 1022, 1), (1023, 1023, 0), (25, 26, 2), (27, 31, 1), (32, 32, 2), (1032, 1032, 1), (1033, 1033, 2), (35, 37, 3), (42, 42, 3), (1043, 1043, 3)])) [(132, bA true)] fun G => b5 (rT G true (by kernel_rfl) (wp_seq (d9 G c4 [] fun G => b5 (wp_ret (d7 ?_))))); exact n9 false G (rg 8) (by rw [c7 (by (rw [s7 (by omega)]; simp [h100, h0, q0, h1, q1, h2, q2, h25, q25, h26, q26, h27, q27, h28, q28, h29, q29, h30, q30]; done))]; done) (by show _ = mR (rg 8) (f9 p d s c); unfold f9; rw [c7 (by (rw [s7 (by omega)]; simp [h100, h0, q0, h1, q1, h2, q2, h25, q25, h26, q26, h27, q27, h28, q28, h29, q29, h30, q30]; done))] <;> rfl)
         · have q29 : (noneB s.index) = false := (Eq.mp (bL9 _) h29); refine d9 G (m0 (f6 20 [4] (z7 s.index) l9) (fc (b := false) rfl (fc (b := true) rfl (fc h29 fz))) (us [(2, 7, 0), (12, 12, 0), (1013, 1013, 0), (15, 17, 0), (18, 21, 1), (22, 22, 0), (1022, 1022, 1), (1023, 1023, 0), (25, 26, 2), (32, 32, 2), (1033, 1033, 2), (35, 37, 1), (42, 42, 1), (1043, 1043, 1)])) [(132, bA true)] fun G => b5 (rT G true (by kernel_rfl) (wp_seq (d9 G c4 [] fun G => b5 (wp_ret (d7 ?_))))); exact n9 false G (rg 8) (by rw [c7 (by (rw [s7 (by omega)]; simp [h100, h0, q0, h1, q1, h2, q2, h25, q25, h26, q26, h27, q27, h28, q28, h29, q29]; done))]; done) (by show _ = mR (rg 8) (f9 p d s c); unfold f9; rw [c7 (by (rw [s7 (by omega)]; simp [h100, h0, q0, h1, q1, h2, q2, h25, q25, h26, q26, h27, q27, h28, q28, h29, q29]; done))] <;> rfl)
        · refine wp_seq (d9 G c4 [] fun G => b5 (wp_ret (d7 ?_))); exact n9 false G (rg 8) (by rw [c7 (by (rw [s7 (by omega), decide_eq_false (by omega)]; rfl))]; done) (by show _ = mR (rg 8) (f9 p d s c); unfold f9; rw [c7 (by (rw [s7 (by omega), decide_eq_false (by omega)]; rfl))] <;> rfl)
       · have q27 := N9 h27; refine C8 G (m0 (f6 4 [] (p9 s.target 0 ((p.vars.length : Int) - 1)) l9) (fc h25 (fc (b := false) rfl (fc (b := true) rfl (fc h26 (fc h27 fz))))) (us [(7, 8, 0), (9, 12, 1), (13, 13, 0), (1013, 1013, 1), (1014, 1014, 0), (16, 18, 1), (19, 21, 2), (22, 22, 1), (1022, 1022, 2), (1023, 1023, 1), (25, 27, 3), (28, 31, 2), (32, 32, 3), (1032, 1032, 2), (1033, 1033, 3), (35, 37, 4), (42, 42, 4), (1043, 1043, 4)])) [(88, bA true)] [wO ((p.vars.length : Int) - 1)] (o1 (by omega)) fun G => b5 (rT G true (by kernel_rfl) (wp_seq (d9 G c4 [] fun G => b5 (wp_ret (d7 ?_))))); exact n9 false G (rg 8) (by rw [c7 (by (rw [s7 (by omega), decide_eq_false (by omega)]; rfl))]; done) (by show _ = mR (rg 8) (f9 p d s c); unfold f9; rw [c7 (by (rw [s7 (by omega), decide_eq_false (by omega)]; rfl))] <;> rfl)
      · have q26 := bne_iff_ne.1 h26; refine C8 G (m0 (f6 4 [] (p9 s.target 0 ((p.vars.length : Int) - 1)) l9) (fc h25 (fc (b := false) rfl (fc (b := true) rfl (fc h26 fz)))) (us [(7, 8, 0), (9, 12, 1), (13, 13, 0), (1013, 1013, 1), (1014, 1014, 0), (16, 18, 1), (19, 21, 2), (22, 22, 1), (1022, 1022, 2), (1023, 1023, 1), (25, 27, 3), (32, 32, 3), (1033, 1033, 3), (35, 37, 2), (42, 42, 2), (1043, 1043, 2)])) [(88, bA true)] [wO ((p.vars.length : Int) - 1)] (o1 (by omega)) fun G => b5 (rT G true (by kernel_rfl) (wp_seq (d9 G c4 [] fun G => b5 (wp_ret (d7 ?_))))); exact n9 false G (rg 8) (by rw [c7 (by (rw [s7 (by omega), decide_eq_false (by omega)]; rfl))]; done) (by show _ = mR (rg 8) (f9 p d s c); unfold f9; rw [c7 (by (rw [s7 (by omega), decide_eq_false (by omega)]; rfl))] <;> rfl)
     · have q25 : (¬ (0 ≤ s.target)) ∨ (¬ (s.target ≤ (p.vars.length : Int) - 1)) := (fun hq => Or.imp (fun hq => of_decide_eq_false hq) (fun hq => of_decide_eq_false hq) (bN9.1 hq)) (Eq.mp (bL9 _) h25); refine C8 G (m0 (f6 4 [] (p9 s.target 0 ((p.vars.length : Int) - 1)) l9) (fc h25 (fc (b := true) rfl fz)) [(7, 0), (8, 0), (13, 0), (1014, 0), (16, 1), (17, 1), (18, 1), (22, 1), (1023, 1), (25, 1), (26, 1), (27, 1), (32, 1), (1033, 1), (35, 1), (36, 1), (37, 1), (42, 1), (1043, 1)]) [(88, bA true)] [wO ((p.vars.length : Int) - 1)] (o1 (by omega)) fun G => b5 (rT G true (by kernel_rfl) (wp_seq (d9 G c4 [] fun G => b5 (wp_ret (d7 ?_))))); exact n9 false G (rg 8) (by rw [c7 (by (rw [s7 (by omega), decide_eq_false (by omega)]; rfl))]; done) (by show _ = mR (rg 8) (f9 p d s c); unfold f9; rw [c7 (by (rw [s7 (by omega), decide_eq_false (by omega)]; rfl))] <;> rfl)
   ·
    refine wp_skip (b5 (rT G _ h1 (d9 G c4 [(9, iA (p.vars.length : Int))] fun G => j8 (b5 (wp_seq (wp_seq ?_)))))); cases h32 : (!(decide ((0 : Int) ≤ s.target) && decide (s.target ≤ (p.vars.length : Int) - 1)))
    ·
     have q32 : (0 ≤ s.target) ∧ (s.target ≤ (p.vars.length : Int) - 1) := (fun hq => And.imp (fun hq => of_decide_eq_true hq) (fun hq => of_decide_eq_true hq) (bO2.1 hq)) (Eq.mp (bM1 _) h32); cases h33 : (s.count != 0)
     ·
      have q33 := bne_eq_false_iff_eq.1 h33; cases h34 : (decide ((s.body.length : Int) > 0))
      ·
       have q34 := O0 h34; refine C8 G (m0 (f6 4 [] (p9 s.target 0 ((p.vars.length : Int) - 1)) l9) (fc h32 (fc (b := false) rfl (fc (b := true) rfl (fc h33 (fc h34 fz))))) (us [(7, 8, 0), (9, 12, 1), (13, 13, 0), (1013, 1013, 1), (1014, 1014, 0), (16, 18, 1), (19, 21, 2), (22, 22, 1), (1022, 1022, 2), (1023, 1023, 1), (25, 27, 3), (28, 31, 2), (32, 32, 3), (1032, 1032, 2), (1033, 1033, 3), (35, 37, 4), (38, 41, 2), (42, 42, 4), (1042, 1042, 2), (1043, 1043, 4)])) [(88, bA (decide ((s.els.length : Int) > 0)))] [wO ((p.vars.length : Int) - 1)] (o1 (by omega)) fun G => b5 (M7 G (fun h35 q35 => ?_) fun h35 q35 => ?_)
       ·
        refine wp_skip (b5 (wp_seq (wp_seq ?_))); cases h36 : (!noneB s.index)
        ·
         have q36 : (noneB s.index) = true := (Eq.mp (bM1 _) h36); cases h37 : (!f5 p.vars.length p.arrays.length s.value)
         ·
          have q37 : (f5 p.vars.length p.arrays.length s.value) = true := (Eq.mp (bM1 _) h37); refine d9 G (m0 (f6 20 [4] (z7 s.index) (f6 30 [0, 1, 2, 5] (I8 p s.value) l9)) (fc (b := false) rfl (fc (b := true) rfl (fc h36 (fc h37 fz)))) (us [(2, 7, 0), (12, 12, 0), (1013, 1013, 0), (15, 17, 0), (18, 21, 1), (22, 22, 0), (1022, 1022, 1), (1023, 1023, 0), (25, 26, 2), (27, 31, 1), (32, 32, 2), (1032, 1032, 1), (1033, 1033, 2), (35, 37, 3), (38, 41, 0), (42, 42, 3), (1042, 1042, 0), (1043, 1043, 3)])) [(132, bA false)] fun G => b5 (rF G false (by kernel_rfl) (wp_skip (b5 (wp_seq ?_)))); cases h38 : ((e7 p.vars.length p.arrays.length d (c + (1 : Nat)) s.body).fst)
          · refine S4 G (m0 (f6 6 [0, 1, 2, 3, 6] (ih s.body (c + 1) (n + 1) (by simp; omega) (by omega)) l9) (fc h38 fz) (us [(8, 14, 0), (1015, 1015, 0)])) (rg 8) (P4 p (.box [iA ((aa3 p d s c).snd : Int)] :: (P5 s []))) [(8, bA false)] [wO (n + 1)] (o1 (by omega)) fun G => b5 (wp_ret ?_); exact n9 false G (rg 8) (by rw [t9 (by omega) (by (rw [s7 (by omega)]; exact J7 (by omega) (by assumption) (by assumption))) (by assumption)]; assumption) (by show _ = mR (rg 8) (f9 p d s c); unfold f9; rw [t9 (by omega) (by (rw [s7 (by omega)]; exact J7 (by omega) (by assumption) (by assumption))) (by assumption)] <;> rfl)
          · refine S4 G (m0 (f6 6 [0, 1, 2, 3, 6] (ih s.body (c + 1) (n + 1) (by simp; omega) (by omega)) (f6 14 [0, 1, 2, 3, 7] (ih s.els ((aa3 p d s c).snd) (n + 1) (G2 (by omega) (by assumption)) (by omega)) l9)) (fc h38 fz) (us [(8, 14, 0), (1015, 1015, 0)])) (rg 8) (P4 p (.box [iA ((aa4 p d s c).snd : Int)] :: (P5 s []))) [(8, bA (aa4 p d s c).fst)] [wO (n + 1), wO (n + 1)] (o2 (by omega)) fun G => b5 (wp_ret ?_); exact n9 ((e7 p.vars.length p.arrays.length d (e7 p.vars.length p.arrays.length d (c + 1) s.body).snd s.els).fst) G (rg 8) (by rw [x8 (by omega) (by (rw [s7 (by omega)]; exact J7 (by omega) (by assumption) (by assumption))) (by assumption)]; done) (by show _ = mR (rg 8) (f9 p d s c); unfold f9; rw [x8 (by omega) (by (rw [s7 (by omega)]; exact J7 (by omega) (by assumption) (by assumption))) (by assumption)] <;> rfl)
         · have q37 : (f5 p.vars.length p.arrays.length s.value) = false := (Eq.mp (bL9 _) h37); refine d9 G (m0 (f6 20 [4] (z7 s.index) (f6 30 [0, 1, 2, 5] (I8 p s.value) l9)) (fc (b := false) rfl (fc (b := true) rfl (fc h36 (fc h37 fz)))) (us [(2, 7, 0), (12, 12, 0), (1013, 1013, 0), (15, 17, 0), (18, 21, 1), (22, 22, 0), (1022, 1022, 1), (1023, 1023, 0), (25, 26, 2), (27, 31, 1), (32, 32, 2), (1032, 1032, 1), (1033, 1033, 2), (35, 37, 3), (42, 42, 3), (1043, 1043, 3)])) [(132, bA true)] fun G => b5 (rT G true (by kernel_rfl) (wp_seq (d9 G c4 [] fun G => b5 (wp_ret (d7 ?_))))); exact n9 false G (rg 8) (by rw [c7 (by (rw [s7 (by omega)]; simp [h100, h0, q0, h1, q1, h32, q32, h33, q33, h34, q34, h35, q35, h36, q36, h37, q37]; done))]; done) (by show _ = mR (rg 8) (f9 p d s c); unfold f9; rw [c7 (by (rw [s7 (by omega)]; simp [h100, h0, q0, h1, q1, h32, q32, h33, q33, h34, q34, h35, q35, h36, q36, h37, q37]; done))] <;> rfl)
        · have q36 : (noneB s.index) = false := (Eq.mp (bL9 _) h36); refine d9 G (m0 (f6 20 [4] (z7 s.index) l9) (fc (b := false) rfl (fc (b := true) rfl (fc h36 fz))) (us [(2, 7, 0), (12, 12, 0), (1013, 1013, 0), (15, 17, 0), (18, 21, 1), (22, 22, 0), (1022, 1022, 1), (1023, 1023, 0), (25, 26, 2), (32, 32, 2), (1033, 1033, 2), (35, 37, 1), (42, 42, 1), (1043, 1043, 1)])) [(132, bA true)] fun G => b5 (rT G true (by kernel_rfl) (wp_seq (d9 G c4 [] fun G => b5 (wp_ret (d7 ?_))))); exact n9 false G (rg 8) (by rw [c7 (by (rw [s7 (by omega)]; simp [h100, h0, q0, h1, q1, h32, q32, h33, q33, h34, q34, h35, q35, h36, q36]; done))]; done) (by show _ = mR (rg 8) (f9 p d s c); unfold f9; rw [c7 (by (rw [s7 (by omega)]; simp [h100, h0, q0, h1, q1, h32, q32, h33, q33, h34, q34, h35, q35, h36, q36]; done))] <;> rfl)
       · refine wp_seq (d9 G c4 [] fun G => b5 (wp_ret (d7 ?_))); exact n9 false G (rg 8) (by rw [c7 (by (rw [s7 (by omega), decide_eq_false (by omega)]; rfl))]; done) (by show _ = mR (rg 8) (f9 p d s c); unfold f9; rw [c7 (by (rw [s7 (by omega), decide_eq_false (by omega)]; rfl))] <;> rfl)
      · have q34 := N9 h34; refine C8 G (m0 (f6 4 [] (p9 s.target 0 ((p.vars.length : Int) - 1)) l9) (fc h32 (fc (b := false) rfl (fc (b := true) rfl (fc h33 (fc h34 fz))))) (us [(7, 8, 0), (9, 12, 1), (13, 13, 0), (1013, 1013, 1), (1014, 1014, 0), (16, 18, 1), (19, 21, 2), (22, 22, 1), (1022, 1022, 2), (1023, 1023, 1), (25, 27, 3), (28, 31, 2), (32, 32, 3), (1032, 1032, 2), (1033, 1033, 3), (35, 37, 4), (42, 42, 4), (1043, 1043, 4)])) [(88, bA true)] [wO ((p.vars.length : Int) - 1)] (o1 (by omega)) fun G => b5 (rT G true (by kernel_rfl) (wp_seq (d9 G c4 [] fun G => b5 (wp_ret (d7 ?_))))); exact n9 false G (rg 8) (by rw [c7 (by (rw [s7 (by omega), decide_eq_false (by omega)]; rfl))]; done) (by show _ = mR (rg 8) (f9 p d s c); unfold f9; rw [c7 (by (rw [s7 (by omega), decide_eq_false (by omega)]; rfl))] <;> rfl)
     · have q33 := bne_iff_ne.1 h33; refine C8 G (m0 (f6 4 [] (p9 s.target 0 ((p.vars.length : Int) - 1)) l9) (fc h32 (fc (b := false) rfl (fc (b := true) rfl (fc h33 fz)))) (us [(7, 8, 0), (9, 12, 1), (13, 13, 0), (1013, 1013, 1), (1014, 1014, 0), (16, 18, 1), (19, 21, 2), (22, 22, 1), (1022, 1022, 2), (1023, 1023, 1), (25, 27, 3), (32, 32, 3), (1033, 1033, 3), (35, 37, 2), (42, 42, 2), (1043, 1043, 2)])) [(88, bA true)] [wO ((p.vars.length : Int) - 1)] (o1 (by omega)) fun G => b5 (rT G true (by kernel_rfl) (wp_seq (d9 G c4 [] fun G => b5 (wp_ret (d7 ?_))))); exact n9 false G (rg 8) (by rw [c7 (by (rw [s7 (by omega), decide_eq_false (by omega)]; rfl))]; done) (by show _ = mR (rg 8) (f9 p d s c); unfold f9; rw [c7 (by (rw [s7 (by omega), decide_eq_false (by omega)]; rfl))] <;> rfl)
    · have q32 : (¬ (0 ≤ s.target)) ∨ (¬ (s.target ≤ (p.vars.length : Int) - 1)) := (fun hq => Or.imp (fun hq => of_decide_eq_false hq) (fun hq => of_decide_eq_false hq) (bN9.1 hq)) (Eq.mp (bL9 _) h32); refine C8 G (m0 (f6 4 [] (p9 s.target 0 ((p.vars.length : Int) - 1)) l9) (fc h32 (fc (b := true) rfl fz)) [(7, 0), (8, 0), (13, 0), (1014, 0), (16, 1), (17, 1), (18, 1), (22, 1), (1023, 1), (25, 1), (26, 1), (27, 1), (32, 1), (1033, 1), (35, 1), (36, 1), (37, 1), (42, 1), (1043, 1)]) [(88, bA true)] [wO ((p.vars.length : Int) - 1)] (o1 (by omega)) fun G => b5 (rT G true (by kernel_rfl) (wp_seq (d9 G c4 [] fun G => b5 (wp_ret (d7 ?_))))); exact n9 false G (rg 8) (by rw [c7 (by (rw [s7 (by omega), decide_eq_false (by omega)]; rfl))]; done) (by show _ = mR (rg 8) (f9 p d s c); unfold f9; rw [c7 (by (rw [s7 (by omega), decide_eq_false (by omega)]; rfl))] <;> rfl)
  · have q0 := N9 h0; refine d9 G (z6 (fc h0 fz) [(5, 0), (6, 0), (1007, 0)]) [(27, bA true)] fun G => b5 (rT G true (by kernel_rfl) (wp_seq (d9 G c4 [] fun G => b5 (wp_ret (d7 ?_))))); exact n9 false G (rg 8) (by simp [ac3 (d := d + 1) (s := s) (show 60 < c + 1 by omega)]; done) (by show _ = mR (rg 8) (f9 p d s c); unfold f9; have e1 : (((n4 p.vars.length p.arrays.length (d + 1) c s).snd : Int) : Int) = ((c : Int) + 1) := (by simp [ac3 (d := d + 1) (s := s) (show 60 < c + 1 by omega)]; done); (first | rw [e1] | simp only [e1]) <;> rfl)
theorem bf7 (p : b8) : ∀ (d : Nat), d ≤ 5 → ∀ (ss : List b6) (c : Nat) (n : Int), c ≤ 60 → n = 6 - (d : Int) → d8.ok Try.prog (aP8 p d c ss n) := by
 intro d
 induction d with
 | zero => intro hd ss c n hc hn; exact aM6 p 0 hd (fun s c n hc hn => bm5 p s c hc n (by omega)) ss c n hc hn
 | succ d ih => intro hd ss c n hc hn; exact aM6 p (d + 1) hd (fun s c n hc hn => bm4 p d (by omega) (ih (by omega)) s c n hc (by omega)) ss c n hc hn
theorem aM7 (p : b8) (n : Int) (hn : n = 1) : d8.ok Try.prog ⟨70, [pA 0, .ref 2, iA n, .ptr 3 0], pS p ++ [.box [iA 0]], pS p ++ [.box [iA (e7 p.vars.length p.arrays.length 5 0 p.body).2]], bA (e7 p.vars.length p.arrays.length 5 0 p.body).1⟩ :=
 d8.dup (S := pS p ++ [.box [iA 0]]) (S' := pS p ++ [.box [iA (e7 p.vars.length p.arrays.length 5 0 p.body).2]]) (d := .stmts p.body) (i := 2) (bf7 p 5 (by omega) p.body 0 n (by omega) (by omega)) rfl rfl rfl (fun ρ h => by simp only [AV.vals, AV.val]; rw [show ρ 4 = ρ 2 from h]) rfl
theorem am1 (p : b8) : d8.ok Try.prog (E0 16 [pA 0] (pS p) (bA (e5 p))) := by
 refine x6 15 Try.func16 [dI p.vars, dI p.arrays, dT p.body] [(0, pA 0)] fun G => ?_; refine wp_seq (e6 G c4 (rg 4) [dI p.vars, dI p.arrays, dT p.body, .box (pL 0)] [(1, .ptr 3 0), (2, bA false)] fun G => b5 (wp_seq (e6 G c4 (rg 5) [dI p.vars, dI p.arrays, dT p.body, .box (pL 0), .box [iA 0]] [(1, .ptr 3 0), (2, bA false), (3, .ptr 4 0)] fun G => b5 (wp_seq ?_)))); cases h0 : (w4 p.vars p.arrays)
 ·refine e6 G (m0 (f6 4 [0, 1] (au7 p.vars p.arrays) l9) (fc h0 fz) (us [(6, 9, 0), (1010, 1010, 0)])) [0, 1, 2] [dI p.vars, dI p.arrays, dT p.body] [(2, bA false)] fun G => b5 (wp_ret ?_); exact n9 false G [0, 1, 2] (al1 (by assumption))
 ·refine e6 G (m0 (f6 4 [0, 1] (au7 p.vars p.arrays) (f6 9 [0, 1, 2, 4] (aM7 p 1 (by kernel_rfl)) l9)) (fc h0 fz) (us [(6, 9, 0), (1010, 1010, 0)])) [0, 1, 2] [dI p.vars, dI p.arrays, dT p.body] [(2, bA (e7 p.vars.length p.arrays.length 5 0 p.body).fst)] fun G => b5 (wp_ret ?_); exact n9 ((e7 p.vars.length p.arrays.length 5 0 p.body).fst) G [0, 1, 2] (by rw [← aH7 (p := p) (by assumption)])
def al6 (vs ars : List Int) (e : b7) : Int := if e.kind = 2 then vs.getD e.value.toNat 0 else if e.kind = 3 then ars.getD e.value.toNat 0 else 0
def c6 (vs ars : List Int) : Nat → b7 → Int
 | 0, _ => 0
 | d + 1, e => e.kids.foldl (fun a k => f8 a (c6 vs ars d k)) (al6 vs ars e)
def v7 (vs ars : List Int) (d : Nat) (x : Int) (ks : List b7) (k : Nat) : Int := (ks.take k).foldl (fun a k => f8 a (c6 vs ars d k)) x
theorem K6 {vs ars : List Int} {d k : Nat} {x : Int} {ks : List b7} (h : k < ks.length) : v7 vs ars d x ks (k + 1) = f8 (v7 vs ars d x ks k) (c6 vs ars d (ks.getD k bL2)) := by
 unfold v7; rw [B8 ks k h, List.foldl_append, i9 h]; rfl
theorem Q3 {vs ars : List Int} {d k : Nat} {x : Int} {e : b7} (h : e.kids.length ≤ k) (hx : al6 vs ars e = x) : c6 vs ars (d + 1) e = v7 vs ars d x e.kids k := by
 unfold v7; rw [bM5 h, c6, hx]
section
variable {nv na d : Nat} {e : b7}
theorem aC2 (h : c3 nv na (d + 1) e = true) : s4 nv na e = true := by simp only [c3, bL3] at h; exact h.1.1
theorem ai0 (h : c3 nv na (d + 1) e = true) (k : e.kind = 2) : 0 ≤ e.value ∧ e.value < nv ∧ e.value.toNat < nv := by
 have := aC2 h
 simp [s4, y5, k] at this; omega
theorem ai1 (h : c3 nv na (d + 1) e = true) (k : e.kind = 3) : 0 ≤ e.value ∧ e.value < na ∧ e.value.toNat < na := by
 have := aC2 h
 simp [s4, y5, k] at this; omega
theorem L0 {k : Nat} (h : c3 nv na (d + 1) e = true) (hk : k < e.kids.length) : c3 nv na d (e.kids.getD k bL2) = true := by
 simp only [c3, bL3] at h
 rw [i9 hk]; exact bL7.1 h.1.2 _ (bN6 hk)
theorem aq5 (h : c3 nv na (d + 1) e = true) (k : e.kind = 3) : 0 < e.kids.length := by
 have := aC2 h
 simp [s4, i8, k] at this; omega
end
theorem az1 {x : Int} (h : c5 x = true) : x = 0 ∨ x = 1 ∨ x = 2 ∨ x = 3 := by simp [c5] at h; omega
theorem A3 (l : Int) : d8.ok Try.prog (E0 226 [iA l] [] (bA (c5 l && decide (l % 2 = 1)))) := by
 refine x6 10 Try.func226 [] [(0, iA l)] fun G => ?_; refine wp_seq (d9 G c4 [(2, bA false)] fun G => b5 (wp_seq ?_)); cases h0 : (c5 l)
 ·refine d9 G (m0 (f6 1 [] (t5 l) l9) (fc h0 fz) [(3, 0), (4, 0), (5, 0), (1006, 0)]) [] fun G => b5 (wp_ret ?_); exact C4 G []
 ·refine d9 G (m0 (f6 1 [] (t5 l) l9) (fc h0 fz) [(3, 0), (4, 0), (5, 0), (1006, 0)]) [(2, bA (bn4 l 1 == 1))] fun G => b5 (wp_ret ?_); exact n9 (bn4 l 1 == 1) G [] (by rcases az1 h0 with rfl | rfl | rfl | rfl <;> kernel_rfl)
theorem X4 (l : Int) : d8.ok Try.prog (E0 246 [iA l] [] (bA (c5 l && decide (l ≤ 1)))) := by
 refine x6 10 Try.func246 [] [(0, iA l)] fun G => ?_; refine wp_seq (d9 G c4 [(2, bA false)] fun G => b5 (wp_seq ?_)); cases h0 : (c5 l)
 ·refine d9 G (m0 (f6 1 [] (t5 l) l9) (fc h0 fz) [(3, 0), (4, 0), (5, 0), (1006, 0)]) [] fun G => b5 (wp_ret ?_); exact C4 G []
 ·refine d9 G (m0 (f6 1 [] (t5 l) l9) (fc h0 fz) [(3, 0), (4, 0), (5, 0), (1006, 0)]) [(2, bA (bn4 l 2 == 0))] fun G => b5 (wp_ret ?_); exact n9 (bn4 l 2 == 0) G [] (by rcases az1 h0 with rfl | rfl | rfl | rfl <;> kernel_rfl)
theorem ag7 (x y : Int) : d8.ok Try.prog (E0 245 [iA x, iA y] [] (bA (c5 x && c5 y && (f8 x y == y)))) := by
  refine x6 18 Try.func245 [] [(0, iA x), (1, iA y)] fun G => ?_; refine wp_seq (d9 G c4 [(4, bA false)] fun G => b5 (wp_seq ?_)); cases h0 : (c5 x)
  · refine d9 G (m0 (f6 1 [] (t5 x) l9) (fc h0 (fc (b := false) rfl fz)) (us [(3, 4, 0), (1005, 1005, 0), (7, 11, 1), (1012, 1012, 1)])) [] fun G => b5 (wp_ret ?_); exact C4 G []
  ·
   cases h1 : (c5 y)
   · refine d9 G (m0 (f6 1 [] (t5 x) (f6 4 [] (t5 y) l9)) (fc h0 (fc h1 fz)) (us [(3, 4, 0), (1005, 1005, 0), (7, 11, 1), (1012, 1012, 1)])) [] fun G => b5 (wp_ret ?_); exact C4 G []
   · refine d9 G (m0 (f6 1 [] (t5 x) (f6 4 [] (t5 y) l9)) (fc h0 (fc h1 fz)) (us [(3, 4, 0), (1005, 1005, 0), (7, 11, 1), (1012, 1012, 1)])) [(4, bA (f8 x y == y))] fun G => b5 (wp_ret ?_); exact C4 G []
theorem K2 {x : Int} (h : c5 x = true) : ∃ a : Fin 4, x = (a.val : Int) := by
 simp [c5] at h
 exact ⟨⟨x.toNat, by omega⟩, by simp; omega⟩
theorem aT7 (p : b8) (d : Nat) (ih : ∀ (e : b7), c3 p.vars.length p.arrays.length d e = true → d8.ok Try.prog (E0 89 [pA 0, eA e 3] (pS p ++ eS e) (iA (c6 p.vars p.arrays d e))))
    (e : b7) (he : c3 p.vars.length p.arrays.length (d + 1) e = true) : d8.ok Try.prog (E0 89 [pA 0, eA e 3] (pS p ++ eS e) (iA (c6 p.vars p.arrays (d + 1) e))) := by
  refine x6 42 Try.func89 [dI p.vars, dI p.arrays, dT p.body, dE e.kids] [(0, pA 0), (1, eA e 3)] fun G => ?_; refine wp_seq (e6 G c4 [0, 1, 2, 3, 4, 12] [dI p.vars, dI p.arrays, dT p.body, dE e.kids, .box (pL 0), .box (eL e 3)] [(2, .ptr 4 0), (3, .ptr 5 0), (4, iA 0)] fun G => b5 (wp_seq (d9 G c4 [(5, iA 0)] fun G => b5 (wp_seq (wp_seq (d9 G c4 [(8, iA e.kind)] fun G => b5 (wp_block (wp_seq (d9 G c4 [(9, bA (e.kind == 2))] fun G => b5 (I7 G (fun h0 q0 => ?_) fun h0 q0 => ?_))))))))))
  ·
   refine wp_seq (d9 G c4 [(17, bA (e.kind == 3))] fun G => b5 (I7 G (fun h1 q1 => ?_) fun h1 q1 => ?_))
   ·
    refine wp_skip (j8 (b5 (wp_seq (wp_seq (B7 G c4 [(2, .ptr 4 0), (3, .ptr 5 0), (4, iA 0), (5, iA 0), (6, iA 0)] fun G => b5 (wp_block ?_)))))); refine m6 (κ := Nat) (fun k => k ≤ e.kids.length) (fun k => e.kids.length - k) (fun k => [dI p.vars, dI p.arrays, dT p.body, dE e.kids, .box (pL 0), .box (eL e 3)]) (fun k => [(2, .ptr 4 0), (3, .ptr 5 0), (4, iA 0), (5, iA (v7 p.vars p.arrays d 0 e.kids k)), (6, iA k)]) 0 (by omega) (m8.at G _ _) ?_; clear G; intro k ρ a w hp G; have hlen : e.kids.length ≤ 9223372036854775807 := G.len 3 (d := .exprs e.kids) (by kernel_rfl); refine wp_seq (wp_seq (B7 G c4 [(2, .ptr 4 0), (3, .ptr 5 0), (4, iA 0), (5, iA (v7 p.vars p.arrays d 0 e.kids k)), (6, iA k), (29, bA (decide ((k : Int) < e.kids.length)))] fun G => b5 (M7 G (fun h2 q2 => ?_) fun h2 q2 => ?_)))
    · refine wp_exit (l8 (l8 (l5 (b5 (wp_seq (e6 G c4 (rg 4) [dI p.vars, dI p.arrays, dT p.body, dE e.kids] [(4, iA (v7 p.vars p.arrays d 0 e.kids k))] fun G => b5 (wp_ret ?_))))))); exact L2 (v7 p.vars p.arrays d 0 e.kids k) G (rg 4) (Q3 (by omega) (by simp [al6, h0, q0, h1, q1, h2, q2]; done))
    · refine wp_skip (b5 (wp_seq (wp_block (P9 G (o9 7 [0, 1, 2, 54] (ih (e.kids.getD k bL2) (L0 he (by omega)))) [0, 0, 0, 4, 0, 28, 60, 126, 255, 511] [(5, iA (f8 (v7 p.vars p.arrays d 0 e.kids k) (c6 p.vars p.arrays d (e.kids.getD k bL2))))] (iX k k e.kids.length []) (iK (by omega) bM6) fun G => j8 (b5 (C8 G c4 [(6, iA ((k : Int) + 1))] [wO ((k : Int) + 1)] (o1 (by omega)) fun G => b5 ?_)))))); exact N5 G (k + 1) (by omega) (by omega) (rg 6) (ht := by have e1 : (v7 p.vars p.arrays d 0 e.kids (k + 1) : Int) = (f8 (v7 p.vars p.arrays d 0 e.kids k) (c6 p.vars p.arrays d (e.kids.getD k bL2))) := (K6 (by omega)); (first | rw [e1] | simp only [e1]) <;> rfl)
   ·
    refine C8 G c4 [(5, iA (p.arrays.getD e.value.toNat 0))] [(0 : Int) ≤ e.value, e.value < (p.arrays.length : Int), e.value.toNat < p.arrays.length] ⟨((ai1 he (by assumption)).1), ((ai1 he (by assumption)).2.1), ((ai1 he (by assumption)).2.2), bM6⟩ fun G => j8 (b5 (wp_seq (wp_seq (B7 G c4 [(2, .ptr 4 0), (3, .ptr 5 0), (4, iA 0), (5, iA (p.arrays.getD e.value.toNat 0)), (6, iA 0)] fun G => b5 (wp_block ?_))))); refine m6 (κ := Nat) (fun k => k ≤ e.kids.length) (fun k => e.kids.length - k) (fun k => [dI p.vars, dI p.arrays, dT p.body, dE e.kids, .box (pL 0), .box (eL e 3)]) (fun k => [(2, .ptr 4 0), (3, .ptr 5 0), (4, iA 0), (5, iA (v7 p.vars p.arrays d (p.arrays.getD e.value.toNat 0) e.kids k)), (6, iA k)]) 0 (by omega) (m8.at G _ _) ?_; clear G; intro k ρ a w hp G; have hlen : e.kids.length ≤ 9223372036854775807 := G.len 3 (d := .exprs e.kids) (by kernel_rfl); refine wp_seq (wp_seq (B7 G c4 [(2, .ptr 4 0), (3, .ptr 5 0), (4, iA 0), (5, iA (v7 p.vars p.arrays d (p.arrays.getD e.value.toNat 0) e.kids k)), (6, iA k), (29, bA (decide ((k : Int) < e.kids.length)))] fun G => b5 (M7 G (fun h3 q3 => ?_) fun h3 q3 => ?_)))
    · refine wp_exit (l8 (l8 (l5 (b5 (wp_seq (e6 G c4 (rg 4) [dI p.vars, dI p.arrays, dT p.body, dE e.kids] [(4, iA (v7 p.vars p.arrays d (p.arrays.getD e.value.toNat 0) e.kids k))] fun G => b5 (wp_ret ?_))))))); exact L2 (v7 p.vars p.arrays d (p.arrays.getD e.value.toNat 0) e.kids k) G (rg 4) (Q3 (by omega) (by simp [al6, h0, q0, h1, q1, h3, q3]; done))
    · refine wp_skip (b5 (wp_seq (wp_block (P9 G (o9 7 [0, 1, 2, 54] (ih (e.kids.getD k bL2) (L0 he (by omega)))) [0, 0, 0, 4, 0, 28, 60, 126, 255, 511] [(5, iA (f8 (v7 p.vars p.arrays d (p.arrays.getD e.value.toNat 0) e.kids k) (c6 p.vars p.arrays d (e.kids.getD k bL2))))] (iX k k e.kids.length []) (iK (by omega) bM6) fun G => j8 (b5 (C8 G c4 [(6, iA ((k : Int) + 1))] [wO ((k : Int) + 1)] (o1 (by omega)) fun G => b5 ?_)))))); exact N5 G (k + 1) (by omega) (by omega) (rg 6) (ht := by have e1 : (v7 p.vars p.arrays d (p.arrays.getD e.value.toNat 0) e.kids (k + 1) : Int) = (f8 (v7 p.vars p.arrays d (p.arrays.getD e.value.toNat 0) e.kids k) (c6 p.vars p.arrays d (e.kids.getD k bL2))) := (K6 (by omega)); (first | rw [e1] | simp only [e1]) <;> rfl)
  ·
   refine C8 G c4 [(5, iA (p.vars.getD e.value.toNat 0))] [(0 : Int) ≤ e.value, e.value < (p.vars.length : Int), e.value.toNat < p.vars.length] ⟨((ai0 he (by assumption)).1), ((ai0 he (by assumption)).2.1), ((ai0 he (by assumption)).2.2), bM6⟩ fun G => j8 (b5 (wp_seq (wp_seq (B7 G c4 [(2, .ptr 4 0), (3, .ptr 5 0), (4, iA 0), (5, iA (p.vars.getD e.value.toNat 0)), (6, iA 0)] fun G => b5 (wp_block ?_))))); refine m6 (κ := Nat) (fun k => k ≤ e.kids.length) (fun k => e.kids.length - k) (fun k => [dI p.vars, dI p.arrays, dT p.body, dE e.kids, .box (pL 0), .box (eL e 3)]) (fun k => [(2, .ptr 4 0), (3, .ptr 5 0), (4, iA 0), (5, iA (v7 p.vars p.arrays d (p.vars.getD e.value.toNat 0) e.kids k)), (6, iA k)]) 0 (by omega) (m8.at G _ _) ?_; clear G; intro k ρ a w hp G; have hlen : e.kids.length ≤ 9223372036854775807 := G.len 3 (d := .exprs e.kids) (by kernel_rfl); refine wp_seq (wp_seq (B7 G c4 [(2, .ptr 4 0), (3, .ptr 5 0), (4, iA 0), (5, iA (v7 p.vars p.arrays d (p.vars.getD e.value.toNat 0) e.kids k)), (6, iA k), (29, bA (decide ((k : Int) < e.kids.length)))] fun G => b5 (M7 G (fun h4 q4 => ?_) fun h4 q4 => ?_)))
   · refine wp_exit (l8 (l8 (l5 (b5 (wp_seq (e6 G c4 (rg 4) [dI p.vars, dI p.arrays, dT p.body, dE e.kids] [(4, iA (v7 p.vars p.arrays d (p.vars.getD e.value.toNat 0) e.kids k))] fun G => b5 (wp_ret ?_))))))); exact L2 (v7 p.vars p.arrays d (p.vars.getD e.value.toNat 0) e.kids k) G (rg 4) (Q3 (by omega) (by simp [al6, h0, q0, h4, q4]; done))
   · refine wp_skip (b5 (wp_seq (wp_block (P9 G (o9 7 [0, 1, 2, 54] (ih (e.kids.getD k bL2) (L0 he (by omega)))) [0, 0, 0, 4, 0, 28, 60, 126, 255, 511] [(5, iA (f8 (v7 p.vars p.arrays d (p.vars.getD e.value.toNat 0) e.kids k) (c6 p.vars p.arrays d (e.kids.getD k bL2))))] (iX k k e.kids.length []) (iK (by omega) bM6) fun G => j8 (b5 (C8 G c4 [(6, iA ((k : Int) + 1))] [wO ((k : Int) + 1)] (o1 (by omega)) fun G => b5 ?_)))))); exact N5 G (k + 1) (by omega) (by omega) (rg 6) (ht := by have e1 : (v7 p.vars p.arrays d (p.vars.getD e.value.toNat 0) e.kids (k + 1) : Int) = (f8 (v7 p.vars p.arrays d (p.vars.getD e.value.toNat 0) e.kids k) (c6 p.vars p.arrays d (e.kids.getD k bL2))) := (K6 (by omega)); (first | rw [e1] | simp only [e1]) <;> rfl)
theorem au3 (p : b8) : ∀ (d : Nat) (e : b7), c3 p.vars.length p.arrays.length d e = true → d8.ok Try.prog (E0 89 [pA 0, eA e 3] (pS p ++ eS e) (iA (c6 p.vars p.arrays d e))) := by
 intro d
 induction d with
 | zero => intro e h; simp [c3] at h
 | succ d ih => intro e h; exact aT7 p d ih e h
def G4 (vs ars : List Int) : Nat → b7 → Bool
 | 0, _ => false
 | d + 1, e => (decide (e.kind = 3) && (c5 (c6 vs ars d (e.kids.getD 0 bL2)) && decide (c6 vs ars d (e.kids.getD 0 bL2) % 2 = 1))) || e.kids.any (G4 vs ars d)
section
variable {vs ars : List Int} {d : Nat} {e : b7}
theorem br8 (k : e.kind = 3) (h : (c5 (c6 vs ars d (e.kids.getD 0 bL2)) && decide (c6 vs ars d (e.kids.getD 0 bL2) % 2 = 1)) = true) : G4 vs ars (d + 1) e = true := by rw [G4, h]; simp [k]
theorem br9 (h : e.kids.any (G4 vs ars d) = false) (k : ¬ e.kind = 3) : G4 vs ars (d + 1) e = false := by rw [G4, h]; simp [k]
theorem bi6 (h : e.kids.any (G4 vs ars d) = false) (k : (c5 (c6 vs ars d (e.kids.getD 0 bL2)) && decide (c6 vs ars d (e.kids.getD 0 bL2) % 2 = 1)) = false) : G4 vs ars (d + 1) e = false := by rw [G4, h, k]; simp
end
theorem aO2 {α : Type} {l : List α} {k : Nat} {p : α → Bool} {z : α} (h : (l.take k).any p = false) (hk : k < l.length) (hp : p (l.getD k z) = false) : (l.take (k + 1)).any p = false := by
 rw [B8 l k hk, List.any_append, h, ← i9 (d := z) hk, List.any_cons, hp]; rfl
theorem aO3 {α : Type} {l : List α} {k : Nat} {p : α → Bool} (h : (l.take k).any p = false) (hk : l.length ≤ k) : l.any p = false := by
 rw [bM5 hk] at h; exact h
theorem a13 {α : Type} {l : List α} {k : Nat} {p : α → Bool} {z : α} (hk : k < l.length) (hp : p (l.getD k z) = true) : l.any p = true := by
 rw [i9 hk] at hp
 exact List.any_eq_true.2 ⟨_, bN6 hk, hp⟩
theorem aN1 (p : b8) (d : Nat) (ih : ∀ (e : b7), c3 p.vars.length p.arrays.length d e = true → d8.ok Try.prog (E0 247 [pA 0, eA e 3] (pS p ++ eS e) (bA (G4 p.vars p.arrays d e))))
    (ihl : ∀ (e : b7), c3 p.vars.length p.arrays.length d e = true → d8.ok Try.prog (E0 89 [pA 0, eA e 3] (pS p ++ eS e) (iA (c6 p.vars p.arrays d e))))
    (e : b7) (he : c3 p.vars.length p.arrays.length (d + 1) e = true) : d8.ok Try.prog (E0 247 [pA 0, eA e 3] (pS p ++ eS e) (bA (G4 p.vars p.arrays (d + 1) e))) := by
  refine x6 32 Try.func247 [dI p.vars, dI p.arrays, dT p.body, dE e.kids] [(0, pA 0), (1, eA e 3)] fun G => ?_; have hlen : e.kids.length ≤ 9223372036854775807 := G.len 3 (d := .exprs e.kids) (by kernel_rfl); refine wp_seq (e6 G c4 [0, 1, 2, 3, 4, 12] [dI p.vars, dI p.arrays, dT p.body, dE e.kids, .box (pL 0), .box (eL e 3)] [(2, .ptr 4 0), (3, .ptr 5 0), (4, bA false)] fun G => b5 (wp_seq (wp_seq ?_))); cases h0 : (e.kind == 3)
  ·
   have q0 := ne_of_beq_false h0; refine a28 G (z6 (fc h0 fz) (us [(4, 10, 0), (1011, 1011, 0)])) [0, 1, 3, 7, 15, 15, 47, 111, 239, 511, 1023, 2047] [(17, bA false)] fun G => b5 (rF G false (by kernel_rfl) (wp_skip (b5 (wp_seq (wp_seq (B7 G c4 [(2, .ptr 4 0), (3, .ptr 5 0), (4, bA false), (5, iA 0)] fun G => b5 (wp_block ?_))))))); refine m6 (κ := Nat) (fun k => k ≤ e.kids.length ∧ (e.kids.take k).any (G4 p.vars p.arrays d) = false) (fun k => e.kids.length - k) (fun k => [dI p.vars, dI p.arrays, dT p.body, dE e.kids, .box (pL 0), .box (eL e 3)]) (fun k => [(2, .ptr 4 0), (3, .ptr 5 0), (4, bA false), (5, iA k)]) 0 (by simp [he, h0]) (m8.at G _ _) ?_; clear G; intro k ρ a w hp G; refine wp_seq (wp_seq (d9 G c4 [(22, bA (decide ((k : Int) < e.kids.length)))] fun G => b5 (M7 G (fun h2 q2 => ?_) fun h2 q2 => ?_)))
   · refine wp_exit (l8 (l8 (l5 (b5 (wp_seq (e6 G c4 (rg 4) [dI p.vars, dI p.arrays, dT p.body, dE e.kids] [(4, bA false)] fun G => b5 (wp_ret ?_))))))); exact n9 false G (rg 4) (br9 (aO3 hp.2 (by omega)) (by assumption))
   ·
    refine wp_skip (b5 (wp_seq (wp_block (wp_seq (P9 G (o9 6 [0, 1, 2, 46] (ih (e.kids.getD k bL2) (L0 he (by omega)))) [0, 0, 2, 0, 14, 30, 63] [(31, bA (G4 p.vars p.arrays d (e.kids.getD k bL2)))] (iX k k e.kids.length []) (iK (by omega) bM6) fun G => b5 (rcB G (fun h3 => ?_) fun h3 => ?_))))))
    · refine wp_skip (j8 (b5 (C8 G c4 [(5, iA ((k : Int) + 1))] [wO ((k : Int) + 1)] (o1 (by omega)) fun G => b5 ?_))); exact N5 G (k + 1) (⟨by omega, aO2 hp.2 (by omega) (by assumption)⟩) (by omega) (rg 6)
    · refine wp_seq (d9 G c4 [(4, bA true)] fun G => b5 (wp_ret (r7 (d7 (d7 (r7 (d7 ?_))))))); exact n9 true G (rg 4) (by rw [G4, a13 (k := k) (by omega) (by assumption), Bool.or_true])
  ·
   have q0 := eq_of_beq h0; refine P9 G (m0 (f6 9 [0, 1, 2, 70] (ihl (e.kids.getD 0 bL2) (L0 he (aq5 he (by assumption)))) (f6 10 [] (A3 (c6 p.vars p.arrays d (e.kids.getD 0 bL2))) l9)) (fc h0 fz) (us [(4, 10, 0), (1011, 1011, 0)])) [0, 1, 3, 7, 15, 15, 47, 111, 239, 511, 1023, 2047] [(17, bA (c5 (c6 p.vars p.arrays d (e.kids.getD 0 bL2)) && decide (c6 p.vars p.arrays d (e.kids.getD 0 bL2) % 2 = 1)))] (iX 0 0 e.kids.length []) (iK (by have := aq5 he (by assumption); omega) bM6) fun G => b5 ?_; cases h1 : (c5 (c6 p.vars p.arrays d (e.kids.getD (0 : Nat) bL2)) && decide (c6 p.vars p.arrays d (e.kids.getD (0 : Nat) bL2) % (2 : Int) = 1))
   ·
    have q1 : ((c5 (c6 p.vars p.arrays d (e.kids.getD 0 bL2))) = false) ∨ (¬ (c6 p.vars p.arrays d (e.kids.getD 0 bL2) % 2 = 1)) := Or.imp (fun hq => (hq)) (fun hq => of_decide_eq_false hq) (bN9.1 h1); refine rF G _ h1 (wp_skip (b5 (wp_seq (wp_seq (B7 G c4 [(2, .ptr 4 0), (3, .ptr 5 0), (4, bA false), (5, iA 0)] fun G => b5 (wp_block ?_)))))); refine m6 (κ := Nat) (fun k => k ≤ e.kids.length ∧ (e.kids.take k).any (G4 p.vars p.arrays d) = false) (fun k => e.kids.length - k) (fun k => [dI p.vars, dI p.arrays, dT p.body, dE e.kids, .box (pL 0), .box (eL e 3)]) (fun k => [(2, .ptr 4 0), (3, .ptr 5 0), (4, bA false), (5, iA k)]) 0 (by simp [he, h0, h1]) (m8.at G _ _) ?_; clear G; intro k ρ a w hp G; refine wp_seq (wp_seq (d9 G c4 [(22, bA (decide ((k : Int) < e.kids.length)))] fun G => b5 (M7 G (fun h4 q4 => ?_) fun h4 q4 => ?_)))
    · refine wp_exit (l8 (l8 (l5 (b5 (wp_seq (e6 G c4 (rg 4) [dI p.vars, dI p.arrays, dT p.body, dE e.kids] [(4, bA false)] fun G => b5 (wp_ret ?_))))))); exact n9 false G (rg 4) (bi6 (aO3 hp.2 (by omega)) (by assumption))
    ·
     refine wp_skip (b5 (wp_seq (wp_block (wp_seq (P9 G (o9 6 [0, 1, 2, 46] (ih (e.kids.getD k bL2) (L0 he (by omega)))) [0, 0, 2, 0, 14, 30, 63] [(31, bA (G4 p.vars p.arrays d (e.kids.getD k bL2)))] (iX k k e.kids.length []) (iK (by omega) bM6) fun G => b5 (rcB G (fun h5 => ?_) fun h5 => ?_))))))
     · refine wp_skip (j8 (b5 (C8 G c4 [(5, iA ((k : Int) + 1))] [wO ((k : Int) + 1)] (o1 (by omega)) fun G => b5 ?_))); exact N5 G (k + 1) (⟨by omega, aO2 hp.2 (by omega) (by assumption)⟩) (by omega) (rg 6)
     · refine wp_seq (d9 G c4 [(4, bA true)] fun G => b5 (wp_ret (r7 (d7 (d7 (r7 (d7 ?_))))))); exact n9 true G (rg 4) (by rw [G4, a13 (k := k) (by omega) (by assumption), Bool.or_true])
   · have q1 : ((c5 (c6 p.vars p.arrays d (e.kids.getD 0 bL2))) = true) ∧ (c6 p.vars p.arrays d (e.kids.getD 0 bL2) % 2 = 1) := And.imp (fun hq => (hq)) (fun hq => of_decide_eq_true hq) (bO2.1 h1); refine rT G _ h1 (wp_seq (d9 G c4 [(4, bA true)] fun G => b5 (wp_ret (d7 ?_)))); exact n9 true G (rg 4) (br8 (by assumption) (by assumption))
def flB (x y : Int) : Bool := c5 x && c5 y && (f8 x y == y)
abbrev i6 (p : b8) (e : b7) : Int := c6 p.vars p.arrays 5 e
def O5 (x : Int) : Bool := c5 x && decide (x % 2 = 1)
def E7 (p : b8) (s : b6) (pc : Int) : Int :=
 if s.kind = 1 then if flB (f8 (i6 p s.value) pc) (p.vars.getD s.target.toNat 0) then 0 else 1
 else if s.kind = 2 then if flB (f8 (f8 (i6 p s.value) (i6 p s.index)) pc) (p.arrays.getD s.target.toNat 0) then 0 else 1
 else if s.kind = 5 then if (c5 (i6 p s.value) && decide (i6 p s.value ≤ 1)) && decide (pc = 0) then 0 else 2
 else 0
def ab0 (p : b8) (s : b6) : Int :=
 if s.kind = 3 ∧ O5 (i6 p s.value) = true then 3
 else if (s.kind ≠ 4 ∧ G4 p.vars p.arrays 5 s.value = true) ∨ (s.kind = 2 ∧ O5 (i6 p s.index) = true) then 4 else 0
def M8 (p : b8) (s : b6) (pc : Int) (strict : Bool) : Int := if E7 p s pc = 0 then (if strict then ab0 p s else 0) else E7 p s pc
theorem C2 (p : b8) (e : b7) (he : c3 p.vars.length p.arrays.length 5 e = true) : d8.ok Try.prog (E0 89 [pA 0, eA e 3] (pS p ++ eS e) (iA (i6 p e))) := au3 p 5 e he
theorem aN2 (p : b8) : ∀ (d : Nat) (e : b7), c3 p.vars.length p.arrays.length d e = true → d8.ok Try.prog (E0 247 [pA 0, eA e 3] (pS p ++ eS e) (bA (G4 p.vars p.arrays d e))) := by
 intro d
 induction d with
 | zero => intro e h; simp [c3] at h
 | succ d ih => intro e h; exact aN1 p d ih (au3 p d) e h
theorem x4 (p : b8) (e : b7) (he : c3 p.vars.length p.arrays.length 5 e = true) : d8.ok Try.prog (E0 247 [pA 0, eA e 3] (pS p ++ eS e) (bA (G4 p.vars p.arrays 5 e))) := aN2 p 5 e he
section
variable {nv na : Nat} {s : b6}
theorem W5 {e : b7} (h : f5 nv na e = true) : c3 nv na 5 e = true := by unfold f5 at h; simp only [bL3] at h; exact h.1
variable (h : s6 nv na s = true)
include h
theorem p8 (k : ¬ s.kind = 4) : c3 nv na 5 s.value = true := by
 apply W5
 by_cases k1 : s.kind = 1 ∨ s.kind = 5
 ·rw [s7 k1] at h; simp only [bL3] at h; exact h.2.2
 by_cases k2 : s.kind = 2
 ·rw [B9 k2] at h; simp only [bL3] at h; exact h.2.2.2
 by_cases k3 : s.kind = 3
 ·rw [N8 k3] at h; simp only [bL3] at h; exact h.2.2
 ·rw [az3 (by omega)] at h; cases h
theorem at2 (k : s.kind = 2) : c3 nv na 5 s.index = true := by
 rw [B9 k] at h; simp only [bL3] at h; exact W5 h.2.1
theorem at1 (k : s.kind = 1 ∨ s.kind = 5) : 0 ≤ s.target ∧ s.target < nv ∧ s.target.toNat < nv := by
 rw [s7 k] at h; simp only [bL3, decide_eq_true_eq] at h; omega
theorem at3 (k : s.kind = 2) : 0 ≤ s.target ∧ s.target < na ∧ s.target.toNat < na := by
 rw [B9 k] at h; simp only [bL3, decide_eq_true_eq] at h; omega
end
section
variable {p : b8} {s : b6} {pc : Int} {strict : Bool} {x : Int}
theorem af2 (h : E7 p s pc = x) (hx : x ≠ 0) : M8 p s pc strict = x := by rw [M8, h, if_neg hx]
theorem W7 (h : E7 p s pc = 0) : M8 p s pc false = 0 := by rw [M8, h]; rfl
theorem p7 (h : E7 p s pc = 0) (hl : ab0 p s = x) : M8 p s pc true = x := by rw [M8, h, hl]; rfl
theorem bu8 (k : s.kind = 1) (h : (!(c5 (f8 (i6 p s.value) pc) && c5 (p.vars.getD s.target.toNat 0) && (f8 (f8 (i6 p s.value) pc) (p.vars.getD s.target.toNat 0) == (p.vars.getD s.target.toNat 0)))) = false) : E7 p s pc = 0 := by rw [E7, if_pos k, if_pos (by unfold flB; first | (rw [bM1] at h; exact h) | (rw [bL9] at h; rw [h]; simp))]
theorem bK6 (k : s.kind = 1) (h : (!(c5 (f8 (i6 p s.value) pc) && c5 (p.vars.getD s.target.toNat 0) && (f8 (f8 (i6 p s.value) pc) (p.vars.getD s.target.toNat 0) == (p.vars.getD s.target.toNat 0)))) = true) : E7 p s pc = 1 := by rw [E7, if_pos k, if_neg (by unfold flB; first | (rw [bM1] at h; exact h) | (rw [bL9] at h; rw [h]; simp))]
theorem bl2 (k : s.kind = 2) (h : (!(c5 (f8 (f8 (i6 p s.value) (i6 p s.index)) pc) && c5 (p.arrays.getD s.target.toNat 0) && (f8 (f8 (f8 (i6 p s.value) (i6 p s.index)) pc) (p.arrays.getD s.target.toNat 0) == (p.arrays.getD s.target.toNat 0)))) = false) : E7 p s pc = 0 := by rw [E7, if_neg (by omega), if_pos k, if_pos (by unfold flB; first | (rw [bM1] at h; exact h) | (rw [bL9] at h; rw [h]; simp))]
theorem bK5 (k : s.kind = 2) (h : (!(c5 (f8 (f8 (i6 p s.value) (i6 p s.index)) pc) && c5 (p.arrays.getD s.target.toNat 0) && (f8 (f8 (f8 (i6 p s.value) (i6 p s.index)) pc) (p.arrays.getD s.target.toNat 0) == (p.arrays.getD s.target.toNat 0)))) = true) : E7 p s pc = 1 := by rw [E7, if_neg (by omega), if_pos k, if_neg (by unfold flB; first | (rw [bM1] at h; exact h) | (rw [bL9] at h; rw [h]; simp))]
theorem bu7 (k : s.kind = 5) (h : (!(c5 (i6 p s.value) && decide (i6 p s.value ≤ 1))) = false) (h2 : pc = 0) : E7 p s pc = 0 := by
 rw [bM1] at h
 rw [E7, if_neg (by omega), if_neg (by omega), if_pos k, h, decide_eq_true h2]; rfl
theorem bD9 (k : s.kind = 5) (h : (!(c5 (i6 p s.value) && decide (i6 p s.value ≤ 1))) = true ∨ ¬ pc = 0) : E7 p s pc = 2 := by
 rw [E7, if_neg (by omega), if_neg (by omega), if_pos k]
 rcases h with h | h
 ·rw [bL9] at h
  rw [h]; rfl
 ·rw [decide_eq_false h, Bool.and_false]; rfl
theorem fl0 (k : ¬ s.kind = 1 ∧ ¬ s.kind = 2 ∧ ¬ s.kind = 5) : E7 p s pc = 0 := by rw [E7, if_neg k.1, if_neg k.2.1, if_neg k.2.2]
theorem lk3 (k : s.kind = 3) (h : (c5 (i6 p s.value) && decide (i6 p s.value % 2 = 1)) = true) : ab0 p s = 3 := by rw [ab0, if_pos ⟨k, (show O5 _ = true from h)⟩]
theorem lkv (h3 : ¬ s.kind = 3 ∨ (c5 (i6 p s.value) && decide (i6 p s.value % 2 = 1)) = false) (k : ¬ s.kind = 4) (h : G4 p.vars p.arrays 5 s.value = true) : ab0 p s = 4 := by
 rw [ab0, if_neg (by rintro ⟨a, b⟩; exact h3.elim (fun h => h a) (fun h => Bool.false_ne_true (h.symm.trans b))), if_pos (.inl ⟨k, h⟩)]
theorem lki (k : s.kind = 2) (h : (c5 (i6 p s.index) && decide (i6 p s.index % 2 = 1)) = true) : ab0 p s = 4 := by
 rw [ab0, if_neg (by omega), if_pos (.inr ⟨k, (show O5 _ = true from h)⟩)]
theorem lk0 (h3 : ¬ s.kind = 3 ∨ (c5 (i6 p s.value) && decide (i6 p s.value % 2 = 1)) = false) (h4 : s.kind = 4 ∨ G4 p.vars p.arrays 5 s.value = false) (h2 : ¬ s.kind = 2 ∨ (c5 (i6 p s.index) && decide (i6 p s.index % 2 = 1)) = false) : ab0 p s = 0 := by
 rw [ab0, if_neg (by rintro ⟨a, b⟩; exact h3.elim (fun h => h a) (fun h => Bool.false_ne_true (h.symm.trans b))), if_neg]
 rintro (⟨a, b⟩ | ⟨a, b⟩)
 ·rcases h4 with h | h
  ·exact a h
  ·rw [h] at b; cases b
 ·rcases h2 with h | h
  ·exact h a
  ·exact Bool.false_ne_true (h.symm.trans b)
end
abbrev F6 (p : b8) (s : b6) (r0 : List It) : List It := dI p.vars :: dI p.arrays :: dT p.body :: dE s.index.kids :: dE s.value.kids :: dT s.body :: dT s.els :: r0
theorem bm7 (p : b8) (s : b6) (pc : Int) (strict : Bool) (h : s6 p.vars.length p.arrays.length s = true) : d8.ok Try.prog (E0 242 [pA 0, sA s 3, iA pc, bA strict] (pS p ++ sS s) (iA (M8 p s pc strict))) := by
  refine x6 94 Try.func242 (F6 p s []) [(0, pA 0), (1, sA s 3), (2, iA pc), (3, bA strict)] fun G => ?_; refine wp_seq (e6 G c4 [0, 1, 2, 3, 4, 5, 6, 7, 15] (F6 p s [.box (pL 0), .box (sL s 3)]) [(2, iA pc), (3, bA strict), (4, .ptr 7 0), (5, .ptr 8 0), (8, iA 0)] fun G => b5 (wp_seq (wp_seq (d9 G c4 [(10, iA s.kind)] fun G => b5 (wp_block (wp_seq (d9 G c4 [(11, bA (s.kind == 1))] fun G => b5 (I7 G (fun h0 q0 => ?_) fun h0 q0 => ?_))))))))
  ·
   refine wp_seq (d9 G c4 [(27, bA (s.kind == 2))] fun G => b5 (I7 G (fun h1 q1 => ?_) fun h1 q1 => ?_))
   ·
    refine wp_seq (d9 G c4 [(48, bA (s.kind == 5))] fun G => b5 (I7 G (fun h2 q2 => ?_) fun h2 q2 => ?_))
    ·
     refine wp_seq (d9 G c4 [(60, bA (s.kind == 3))] fun G => b5 (I7 G (fun h3 q3 => ?_) fun h3 q3 => ?_))
     ·
      refine wp_skip (j8 (b5 (wp_seq (wp_seq ?_)))); cases h4 : (strict)
      · refine e6 G (z6 (fc h4 fz) (us [(2, 5, 0), (10, 11, 0), (22, 22, 0), (1023, 1023, 0)])) (rg 7) (F6 p s []) [(8, iA 0), (93, bA false)] fun G => b5 (rF G false (by kernel_rfl) (wp_skip (b5 (wp_seq (d9 G c4 [] fun G => b5 (wp_ret ?_)))))); exact L2 0 G (rg 7) (W7 (fl0 (by omega)))
      ·
       cases h5 : (s.kind != 4)
       · have q5 := bne_eq_false_iff_eq.1 h5; refine e6 G (z6 (fc h4 (fc h5 (fc (b := false) rfl (fc h1 fz)))) (us [(2, 5, 0), (6, 9, 1), (10, 10, 0), (1010, 1010, 1), (11, 11, 0), (12, 15, 2), (16, 20, 3), (21, 21, 2), (1021, 1021, 3), (22, 22, 0), (1022, 1022, 2), (1023, 1023, 0)])) (rg 7) (F6 p s []) [(8, iA 0), (93, bA false)] fun G => b5 (rF G false (by kernel_rfl) (wp_skip (b5 (wp_seq (d9 G c4 [] fun G => b5 (wp_ret ?_)))))); exact L2 0 G (rg 7) (p7 (fl0 (by omega)) (lk0 (by exact .inl (by omega)) (by exact .inl (by omega)) (by exact .inl (by omega))))
       ·
        have q5 := bne_iff_ne.1 h5; cases h6 : (G4 p.vars p.arrays (5 : Nat) s.value)
        · refine e6 G (m0 (f6 9 [0, 1, 2, 4] (x4 p s.value (p8 h (by omega))) l9) (fc h4 (fc h5 (fc h6 (fc h1 fz)))) (us [(2, 5, 0), (6, 9, 1), (10, 10, 0), (1010, 1010, 1), (11, 11, 0), (12, 15, 2), (16, 20, 3), (21, 21, 2), (1021, 1021, 3), (22, 22, 0), (1022, 1022, 2), (1023, 1023, 0)])) (rg 7) (F6 p s []) [(8, iA 0), (93, bA false)] fun G => b5 (rF G false (by kernel_rfl) (wp_skip (b5 (wp_seq (d9 G c4 [] fun G => b5 (wp_ret ?_)))))); exact L2 0 G (rg 7) (p7 (fl0 (by omega)) (lk0 (by exact .inl (by omega)) (by exact .inr (by with_reducible assumption)) (by exact .inl (by omega))))
        · refine e6 G (m0 (f6 9 [0, 1, 2, 4] (x4 p s.value (p8 h (by omega))) l9) (fc h4 (fc h5 (fc h6 fz))) (us [(2, 5, 0), (6, 9, 1), (10, 10, 0), (1010, 1010, 1), (11, 11, 0), (12, 15, 2), (21, 21, 2), (22, 22, 0), (1022, 1022, 2), (1023, 1023, 0)])) (rg 7) (F6 p s []) [(8, iA 0), (93, bA true)] fun G => b5 (rT G true (by kernel_rfl) (wp_seq (d9 G c4 [(8, iA 4)] fun G => b5 (wp_ret (d7 ?_))))); exact L2 4 G (rg 7) (p7 (fl0 (by omega)) (lkv (by exact .inl (by omega)) (by omega) (by with_reducible assumption)))
     ·
      refine wp_seq ?_; cases h7 : (strict)
      · refine d9 G (z6 (fc h7 fz) (us [(2, 6, 0), (1007, 1007, 0)])) [(69, bA false)] fun G => b5 (rF G false (by kernel_rfl) (wp_skip (j8 (b5 (wp_seq (wp_seq (e6 G (z6 (fc h7 fz) (us [(2, 5, 0), (10, 11, 0), (22, 22, 0), (1023, 1023, 0)])) (rg 7) (F6 p s []) [(8, iA 0), (93, bA false)] fun G => b5 (rF G false (by kernel_rfl) (wp_skip (b5 (wp_seq (d9 G c4 [] fun G => b5 (wp_ret ?_))))))))))))); exact L2 0 G (rg 7) (W7 (fl0 (by omega)))
      ·
       refine B7 G (m0 (f6 5 [0, 1, 2, 4] (C2 p s.value (p8 h (by omega))) (f6 6 [] (A3 (i6 p s.value)) l9)) (fc h7 fz) (us [(2, 6, 0), (1007, 1007, 0)])) [(3, bA strict), (4, .ptr 7 0), (5, .ptr 8 0), (8, iA 0), (69, bA (c5 (i6 p s.value) && decide (i6 p s.value % 2 = 1)))] fun G => b5 ?_; cases h8 : (c5 (i6 p s.value) && decide (i6 p s.value % (2 : Int) = 1))
       ·
        have q8 : ((c5 (i6 p s.value)) = false) ∨ (¬ (i6 p s.value % 2 = 1)) := Or.imp (fun hq => (hq)) (fun hq => of_decide_eq_false hq) (bN9.1 h8); refine rF G _ h8 (wp_skip (j8 (b5 (wp_seq (wp_seq ?_))))); cases h9 : (s.kind != 4)
        · have q9 := bne_eq_false_iff_eq.1 h9; exact False.elim (by omega)
        ·
         have q9 := bne_iff_ne.1 h9; cases h10 : (G4 p.vars p.arrays (5 : Nat) s.value)
         · refine e6 G (m0 (f6 9 [0, 1, 2, 4] (x4 p s.value (p8 h (by omega))) l9) (fc h7 (fc h9 (fc h10 (fc h1 fz)))) (us [(2, 5, 0), (6, 9, 1), (10, 10, 0), (1010, 1010, 1), (11, 11, 0), (12, 15, 2), (16, 20, 3), (21, 21, 2), (1021, 1021, 3), (22, 22, 0), (1022, 1022, 2), (1023, 1023, 0)])) (rg 7) (F6 p s []) [(8, iA 0), (93, bA false)] fun G => b5 (rF G false (by kernel_rfl) (wp_skip (b5 (wp_seq (d9 G c4 [] fun G => b5 (wp_ret ?_)))))); exact L2 0 G (rg 7) (p7 (fl0 (by omega)) (lk0 (by exact .inr (by with_reducible assumption)) (by exact .inr (by with_reducible assumption)) (by exact .inl (by omega))))
         · refine e6 G (m0 (f6 9 [0, 1, 2, 4] (x4 p s.value (p8 h (by omega))) l9) (fc h7 (fc h9 (fc h10 fz))) (us [(2, 5, 0), (6, 9, 1), (10, 10, 0), (1010, 1010, 1), (11, 11, 0), (12, 15, 2), (21, 21, 2), (22, 22, 0), (1022, 1022, 2), (1023, 1023, 0)])) (rg 7) (F6 p s []) [(8, iA 0), (93, bA true)] fun G => b5 (rT G true (by kernel_rfl) (wp_seq (d9 G c4 [(8, iA 4)] fun G => b5 (wp_ret (d7 ?_))))); exact L2 4 G (rg 7) (p7 (fl0 (by omega)) (lkv (by exact .inr (by with_reducible assumption)) (by omega) (by with_reducible assumption)))
       · have q8 : ((c5 (i6 p s.value)) = true) ∧ (i6 p s.value % 2 = 1) := And.imp (fun hq => (hq)) (fun hq => of_decide_eq_true hq) (bO2.1 h8); refine rT G _ h8 (wp_seq (d9 G c4 [(8, iA 3)] fun G => b5 (wp_ret (r7 (d7 ?_))))); exact L2 3 G (rg 7) (p7 (fl0 (by omega)) (lk3 (by with_reducible assumption) (by with_reducible assumption)))
    ·
     refine wp_seq ?_; cases h11 : (!(c5 (i6 p s.value) && decide (i6 p s.value ≤ 1)))
     ·
      have q11 : ((c5 (i6 p s.value)) = true) ∧ (i6 p s.value ≤ 1) := (fun hq => And.imp (fun hq => (hq)) (fun hq => of_decide_eq_true hq) (bO2.1 hq)) (Eq.mp (bM1 _) h11); refine B7 G (m0 (f6 3 [0, 1, 2, 4] (C2 p s.value (p8 h (by omega))) (f6 4 [] (X4 (i6 p s.value)) l9)) (fc h11 fz) [(7, 0), (8, 0), (1009, 0)]) [(3, bA strict), (4, .ptr 7 0), (5, .ptr 8 0), (8, iA 0), (59, bA (pc != 0))] fun G => b5 (rcN G (fun h12 q12 => ?_) fun h12 q12 => ?_)
      ·
       refine wp_skip (j8 (b5 (wp_seq (wp_seq ?_)))); cases h13 : (strict)
       · refine e6 G (z6 (fc h13 fz) (us [(2, 5, 0), (10, 11, 0), (22, 22, 0), (1023, 1023, 0)])) (rg 7) (F6 p s []) [(8, iA 0), (93, bA false)] fun G => b5 (rF G false (by kernel_rfl) (wp_skip (b5 (wp_seq (d9 G c4 [] fun G => b5 (wp_ret ?_)))))); exact L2 0 G (rg 7) (W7 (bu7 (by with_reducible assumption) (by with_reducible assumption) (by with_reducible assumption)))
       ·
        cases h14 : (s.kind != 4)
        · have q14 := bne_eq_false_iff_eq.1 h14; exact False.elim (by omega)
        ·
         have q14 := bne_iff_ne.1 h14; cases h15 : (G4 p.vars p.arrays (5 : Nat) s.value)
         · refine e6 G (m0 (f6 9 [0, 1, 2, 4] (x4 p s.value (p8 h (by omega))) l9) (fc h13 (fc h14 (fc h15 (fc h1 fz)))) (us [(2, 5, 0), (6, 9, 1), (10, 10, 0), (1010, 1010, 1), (11, 11, 0), (12, 15, 2), (16, 20, 3), (21, 21, 2), (1021, 1021, 3), (22, 22, 0), (1022, 1022, 2), (1023, 1023, 0)])) (rg 7) (F6 p s []) [(8, iA 0), (93, bA false)] fun G => b5 (rF G false (by kernel_rfl) (wp_skip (b5 (wp_seq (d9 G c4 [] fun G => b5 (wp_ret ?_)))))); exact L2 0 G (rg 7) (p7 (bu7 (by with_reducible assumption) (by with_reducible assumption) (by with_reducible assumption)) (lk0 (by exact .inl (by omega)) (by exact .inr (by with_reducible assumption)) (by exact .inl (by omega))))
         · refine e6 G (m0 (f6 9 [0, 1, 2, 4] (x4 p s.value (p8 h (by omega))) l9) (fc h13 (fc h14 (fc h15 fz))) (us [(2, 5, 0), (6, 9, 1), (10, 10, 0), (1010, 1010, 1), (11, 11, 0), (12, 15, 2), (21, 21, 2), (22, 22, 0), (1022, 1022, 2), (1023, 1023, 0)])) (rg 7) (F6 p s []) [(8, iA 0), (93, bA true)] fun G => b5 (rT G true (by kernel_rfl) (wp_seq (d9 G c4 [(8, iA 4)] fun G => b5 (wp_ret (d7 ?_))))); exact L2 4 G (rg 7) (p7 (bu7 (by with_reducible assumption) (by with_reducible assumption) (by with_reducible assumption)) (lkv (by exact .inl (by omega)) (by omega) (by with_reducible assumption)))
      · refine wp_seq (d9 G c4 [(8, iA 2)] fun G => b5 (wp_ret (r7 (d7 ?_)))); exact L2 2 G (rg 7) (af2 (bD9 (by with_reducible assumption) (.inr (by with_reducible assumption))) (by decide))
     · have q11 : ((c5 (i6 p s.value)) = false) ∨ (¬ (i6 p s.value ≤ 1)) := (fun hq => Or.imp (fun hq => (hq)) (fun hq => of_decide_eq_false hq) (bN9.1 hq)) (Eq.mp (bL9 _) h11); refine d9 G (m0 (f6 3 [0, 1, 2, 4] (C2 p s.value (p8 h (by omega))) (f6 4 [] (X4 (i6 p s.value)) l9)) (fc h11 fz) [(7, 0), (8, 0), (1009, 0)]) [(59, bA true)] fun G => b5 (rT G true (by kernel_rfl) (wp_seq (d9 G c4 [(8, iA 2)] fun G => b5 (wp_ret (r7 (d7 ?_)))))); exact L2 2 G (rg 7) (af2 (bD9 (by with_reducible assumption) (.inl (by with_reducible assumption))) (by decide))
   ·
    refine wp_seq (bs5 G (m0 (f6 3 [0, 1, 2, 4] (C2 p s.value (p8 h (by omega))) (f6 7 (rg 4) (C2 p s.index (at2 h (by with_reducible assumption))) (f6 17 [] (ag7 (f8 (f8 (i6 p s.value) (i6 p s.index)) pc) (p.arrays.getD s.target.toNat 0)) l9))) fz []) [0, 0, 2, 7, 0, 0, 32, 127, 255, 0, 1023, 0, 2048, 0, 8192, 30720, 63488, 131071, 262143] [(3, bA strict), (4, .ptr 7 0), (5, .ptr 8 0), (8, iA 0), (47, .v (.bool !(c5 (f8 (f8 (i6 p s.value) (i6 p s.index)) pc) && c5 (p.arrays.getD s.target.toNat 0) && f8 (f8 (f8 (i6 p s.value) (i6 p s.index)) pc) (p.arrays.getD s.target.toNat 0) == p.arrays.getD s.target.toNat 0)))] [(0 : Int) ≤ s.target, s.target < (p.arrays.length : Int), s.target.toNat < p.arrays.length] ⟨((at3 h (by omega)).1), ((at3 h (by omega)).2.1), ((at3 h (by omega)).2.2), bM6⟩ fun G => b5 ?_); cases h16 : (!(c5 (f8 (f8 (i6 p s.value) (i6 p s.index)) pc) && c5 (p.arrays.getD s.target.toNat (0 : Int)) && f8 (f8 (f8 (i6 p s.value) (i6 p s.index)) pc) (p.arrays.getD s.target.toNat (0 : Int)) == p.arrays.getD s.target.toNat (0 : Int)))
    ·
     have q16 : (((c5 (f8 (f8 (i6 p s.value) (i6 p s.index)) pc)) = true) ∧ ((c5 (p.arrays.getD s.target.toNat 0)) = true)) ∧ (f8 (f8 (f8 (i6 p s.value) (i6 p s.index)) pc) (p.arrays.getD s.target.toNat 0) = p.arrays.getD s.target.toNat 0) := (fun hq => And.imp (fun hq => And.imp (fun hq => (hq)) (fun hq => (hq)) (bO2.1 hq)) (fun hq => eq_of_beq hq) (bO2.1 hq)) (Eq.mp (bM1 _) h16); refine rF G _ h16 (wp_skip (j8 (b5 (wp_seq (wp_seq ?_))))); cases h17 : (strict)
     · refine e6 G (z6 (fc h17 fz) (us [(2, 5, 0), (10, 11, 0), (22, 22, 0), (1023, 1023, 0)])) (rg 7) (F6 p s []) [(8, iA 0), (93, bA false)] fun G => b5 (rF G false (by kernel_rfl) (wp_skip (b5 (wp_seq (d9 G c4 [] fun G => b5 (wp_ret ?_)))))); exact L2 0 G (rg 7) (W7 (bl2 (by with_reducible assumption) (by with_reducible assumption)))
     ·
      cases h18 : (s.kind != 4)
      · have q18 := bne_eq_false_iff_eq.1 h18; exact False.elim (by omega)
      ·
       have q18 := bne_iff_ne.1 h18; cases h19 : (G4 p.vars p.arrays (5 : Nat) s.value)
       ·
        refine e6 G (m0 (f6 9 [0, 1, 2, 4] (x4 p s.value (p8 h (by omega))) (f6 19 (rg 4) (C2 p s.index (at2 h (by with_reducible assumption))) (f6 20 [] (A3 (i6 p s.index)) l9))) (fc h17 (fc h18 (fc h19 (fc h1 fz)))) (us [(2, 5, 0), (6, 9, 1), (10, 10, 0), (1010, 1010, 1), (11, 11, 0), (12, 15, 2), (16, 20, 3), (21, 21, 2), (1021, 1021, 3), (22, 22, 0), (1022, 1022, 2), (1023, 1023, 0)])) (rg 7) (F6 p s []) [(8, iA 0), (93, bA (c5 (i6 p s.index) && decide (i6 p s.index % 2 = 1)))] fun G => b5 ?_; cases h20 : (c5 (i6 p s.index) && decide (i6 p s.index % (2 : Int) = 1))
        · have q20 : ((c5 (i6 p s.index)) = false) ∨ (¬ (i6 p s.index % 2 = 1)) := Or.imp (fun hq => (hq)) (fun hq => of_decide_eq_false hq) (bN9.1 h20); refine rF G _ h20 (wp_skip (b5 (wp_seq (d9 G c4 [] fun G => b5 (wp_ret ?_))))); exact L2 0 G (rg 7) (p7 (bl2 (by with_reducible assumption) (by with_reducible assumption)) (lk0 (by exact .inl (by omega)) (by exact .inr (by with_reducible assumption)) (by exact .inr (by with_reducible assumption))))
        · have q20 : ((c5 (i6 p s.index)) = true) ∧ (i6 p s.index % 2 = 1) := And.imp (fun hq => (hq)) (fun hq => of_decide_eq_true hq) (bO2.1 h20); refine rT G _ h20 (wp_seq (d9 G c4 [(8, iA 4)] fun G => b5 (wp_ret (d7 ?_)))); exact L2 4 G (rg 7) (p7 (bl2 (by with_reducible assumption) (by with_reducible assumption)) (lki (by with_reducible assumption) (by with_reducible assumption)))
       · refine e6 G (m0 (f6 9 [0, 1, 2, 4] (x4 p s.value (p8 h (by omega))) l9) (fc h17 (fc h18 (fc h19 fz))) (us [(2, 5, 0), (6, 9, 1), (10, 10, 0), (1010, 1010, 1), (11, 11, 0), (12, 15, 2), (21, 21, 2), (22, 22, 0), (1022, 1022, 2), (1023, 1023, 0)])) (rg 7) (F6 p s []) [(8, iA 0), (93, bA true)] fun G => b5 (rT G true (by kernel_rfl) (wp_seq (d9 G c4 [(8, iA 4)] fun G => b5 (wp_ret (d7 ?_))))); exact L2 4 G (rg 7) (p7 (bl2 (by with_reducible assumption) (by with_reducible assumption)) (lkv (by exact .inl (by omega)) (by omega) (by with_reducible assumption)))
    · have q16 : (((c5 (f8 (f8 (i6 p s.value) (i6 p s.index)) pc)) = false) ∨ ((c5 (p.arrays.getD s.target.toNat 0)) = false)) ∨ (¬ (f8 (f8 (f8 (i6 p s.value) (i6 p s.index)) pc) (p.arrays.getD s.target.toNat 0) = p.arrays.getD s.target.toNat 0)) := (fun hq => Or.imp (fun hq => Or.imp (fun hq => (hq)) (fun hq => (hq)) (bN9.1 hq)) (fun hq => ne_of_beq_false hq) (bN9.1 hq)) (Eq.mp (bL9 _) h16); refine rT G _ h16 (wp_seq (d9 G c4 [(8, iA 1)] fun G => b5 (wp_ret (r7 (d7 ?_))))); exact L2 1 G (rg 7) (af2 (bK5 (by with_reducible assumption) (by with_reducible assumption)) (by decide))
  ·
   refine wp_seq (bs5 G (m0 (f6 3 [0, 1, 2, 4] (C2 p s.value (p8 h (by omega))) (f6 12 [] (ag7 (f8 (i6 p s.value) pc) (p.vars.getD s.target.toNat 0)) l9)) fz []) [0, 0, 2, 7, 0, 31, 0, 64, 0, 256, 960, 1984, 4095, 8191] [(3, bA strict), (4, .ptr 7 0), (5, .ptr 8 0), (8, iA 0), (26, .v (.bool !(c5 (f8 (i6 p s.value) pc) && c5 (p.vars.getD s.target.toNat 0) && f8 (f8 (i6 p s.value) pc) (p.vars.getD s.target.toNat 0) == p.vars.getD s.target.toNat 0)))] [(0 : Int) ≤ s.target, s.target < (p.vars.length : Int), s.target.toNat < p.vars.length] ⟨((at1 h (by omega)).1), ((at1 h (by omega)).2.1), ((at1 h (by omega)).2.2), bM6⟩ fun G => b5 ?_); cases h21 : (!(c5 (f8 (i6 p s.value) pc) && c5 (p.vars.getD s.target.toNat (0 : Int)) && f8 (f8 (i6 p s.value) pc) (p.vars.getD s.target.toNat (0 : Int)) == p.vars.getD s.target.toNat (0 : Int)))
   ·
    have q21 : (((c5 (f8 (i6 p s.value) pc)) = true) ∧ ((c5 (p.vars.getD s.target.toNat 0)) = true)) ∧ (f8 (f8 (i6 p s.value) pc) (p.vars.getD s.target.toNat 0) = p.vars.getD s.target.toNat 0) := (fun hq => And.imp (fun hq => And.imp (fun hq => (hq)) (fun hq => (hq)) (bO2.1 hq)) (fun hq => eq_of_beq hq) (bO2.1 hq)) (Eq.mp (bM1 _) h21); refine rF G _ h21 (wp_skip (j8 (b5 (wp_seq (wp_seq ?_))))); cases h22 : (strict)
    · refine e6 G (z6 (fc h22 fz) (us [(2, 5, 0), (10, 11, 0), (22, 22, 0), (1023, 1023, 0)])) (rg 7) (F6 p s []) [(8, iA 0), (93, bA false)] fun G => b5 (rF G false (by kernel_rfl) (wp_skip (b5 (wp_seq (d9 G c4 [] fun G => b5 (wp_ret ?_)))))); exact L2 0 G (rg 7) (W7 (bu8 (by with_reducible assumption) (by with_reducible assumption)))
    ·
     cases h23 : (s.kind != 4)
     · have q23 := bne_eq_false_iff_eq.1 h23; exact False.elim (by omega)
     ·
      have q23 := bne_iff_ne.1 h23; cases h24 : (G4 p.vars p.arrays (5 : Nat) s.value)
      ·
       cases h25 : (s.kind == 2)
       · have q25 := ne_of_beq_false h25; refine e6 G (m0 (f6 9 [0, 1, 2, 4] (x4 p s.value (p8 h (by omega))) l9) (fc h22 (fc h23 (fc h24 (fc h25 fz)))) (us [(2, 5, 0), (6, 9, 1), (10, 10, 0), (1010, 1010, 1), (11, 11, 0), (12, 15, 2), (16, 20, 3), (21, 21, 2), (1021, 1021, 3), (22, 22, 0), (1022, 1022, 2), (1023, 1023, 0)])) (rg 7) (F6 p s []) [(8, iA 0), (93, bA false)] fun G => b5 (rF G false (by kernel_rfl) (wp_skip (b5 (wp_seq (d9 G c4 [] fun G => b5 (wp_ret ?_)))))); exact L2 0 G (rg 7) (p7 (bu8 (by with_reducible assumption) (by with_reducible assumption)) (lk0 (by exact .inl (by omega)) (by exact .inr (by with_reducible assumption)) (by exact .inl (by omega))))
       · have q25 := eq_of_beq h25; exact False.elim (by omega)
      · refine e6 G (m0 (f6 9 [0, 1, 2, 4] (x4 p s.value (p8 h (by omega))) l9) (fc h22 (fc h23 (fc h24 fz))) (us [(2, 5, 0), (6, 9, 1), (10, 10, 0), (1010, 1010, 1), (11, 11, 0), (12, 15, 2), (21, 21, 2), (22, 22, 0), (1022, 1022, 2), (1023, 1023, 0)])) (rg 7) (F6 p s []) [(8, iA 0), (93, bA true)] fun G => b5 (rT G true (by kernel_rfl) (wp_seq (d9 G c4 [(8, iA 4)] fun G => b5 (wp_ret (d7 ?_))))); exact L2 4 G (rg 7) (p7 (bu8 (by with_reducible assumption) (by with_reducible assumption)) (lkv (by exact .inl (by omega)) (by omega) (by with_reducible assumption)))
   · have q21 : (((c5 (f8 (i6 p s.value) pc)) = false) ∨ ((c5 (p.vars.getD s.target.toNat 0)) = false)) ∨ (¬ (f8 (f8 (i6 p s.value) pc) (p.vars.getD s.target.toNat 0) = p.vars.getD s.target.toNat 0)) := (fun hq => Or.imp (fun hq => Or.imp (fun hq => (hq)) (fun hq => (hq)) (bN9.1 hq)) (fun hq => ne_of_beq_false hq) (bN9.1 hq)) (Eq.mp (bL9 _) h21); refine rT G _ h21 (wp_seq (d9 G c4 [(8, iA 1)] fun G => b5 (wp_ret (r7 (d7 ?_))))); exact L2 1 G (rg 7) (af2 (bK6 (by with_reducible assumption) (by with_reducible assumption)) (by decide))
end Go.Proofs.Ytgmhmijcnlfmfaa
