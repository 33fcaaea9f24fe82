/- Part 5: functions on the way, plain laws. Conditions: as said. -/
import Derived.Deep.LoopGhost
import Derived.IntWalk
import Derived.WalkSpells
import Derived.Lib.SliceRun
import Derived.Test.YtgmhmijcnlfmfaaK1
import Derived.Test.YtgmhmijcnlfmfaaK2
import Derived.Test.YtgmhmijcnlfmfaaK4
set_option maxRecDepth 100000
set_option maxHeartbeats 16000000
set_option linter.unusedVariables false
set_option linter.unusedSimpArgs false
open Bool renaming and_eq_true → bb8, eq_iff_iff → bd7, not_eq_false' → bc9, not_eq_true' → bc7
open Inhabited renaming default → be5
open List renaming all_eq_true → bc8, eq_nil_of_length_eq_zero → bf0, getD_eq_getElem?_getD → bc2, getElem?_append_left → be7, getElem?_eq_getElem → bb7, getElem?_eq_none → be1, getElem?_eq_some_iff → bc0, getElem_mem → bd2, length_cons → be9, map_cons → bd8, mem_append → bd9, mem_cons_of_mem → bd5, mem_cons_self → bd3, mem_of_getElem? → bc5, range → bc6, replicate → bd1, take_of_length_le → bc3
open Nat renaming add_zero → be4, le_refl → bc1, le_trans → be0, lt_of_lt_of_le → bd4, lt_or_ge → be3, zero_add → be8
open Option renaming isSome_iff_exists → bf2, map_eq_some_iff → bb9
open True renaming intro → bc4

namespace Go.Proofs.Ytgmhmijcnlfmfaa
open Go Go.RowKit
def pf {β : Type} (wr : Ac → Option β) : List Ac → Nat → (Nat → Bool) → β → β
 | [], _, _, v => v
 | a :: r, k, B, v => pf wr r (k + 1) B (match wr a with | some x => if B k then x else v | none => v)
theorem L7 {β : Type} {wr : Ac → Option β} {B B' : Nat → Bool} : ∀ {az : List Ac} {k : Nat} {v : β}, (∀ j a, az[j]? = some a → (wr a).isSome = true → B (k + j) = B' (k + j)) → pf wr az k B v = pf wr az k B' v
 | [], _, _, _ => rfl
 | a :: r, k, v, h => by
  simp only [pf]
  have h0 := h 0 a rfl
  have hr : ∀ j b, r[j]? = some b → (wr b).isSome = true → B (k + 1 + j) = B' (k + 1 + j) := fun j b hb hw => by
   have := h (j + 1) b (by simpa using hb) hw
   rw [show k + (j + 1) = k + 1 + j by omega] at this; exact this
  cases hw : wr a with
  | none => exact L7 hr
  | some x =>
   rw [hw] at h0
   simp only [be4, Option.isSome_some, forall_const] at h0
   rw [h0]
   exact L7 hr
theorem Q6 {β : Type} {wr : Ac → Option β} {B : Nat → Bool} : ∀ {az : List Ac} {k : Nat} {v : β}, (∀ j a, az[j]? = some a → (wr a).isSome = true → B (k + j) = false) → pf wr az k B v = v
 | [], _, _, _ => rfl
 | a :: r, k, v, h => by
  simp only [pf]
  have h0 := h 0 a rfl
  have hr : ∀ j b, r[j]? = some b → (wr b).isSome = true → B (k + 1 + j) = false := fun j b hb hw => by
   have := h (j + 1) b (by simpa using hb) hw
   rw [show k + (j + 1) = k + 1 + j by omega] at this; exact this
  rw [Q6 hr]
  cases hw : wr a with
  | none => rfl
  | some x =>
   rw [hw] at h0
   simp only [be4, Option.isSome_some, forall_const] at h0
   simp [h0]
theorem as9 {β : Type} {wr : Ac → Option β} {B : Nat → Bool} : ∀ {az : List Ac} {k i : Nat} {v x : β} {a : Ac}, az[i]? = some a → wr a = some x → B (k + i) = true → (∀ j b, i < j → az[j]? = some b → (wr b).isSome = true → B (k + j) = false) → pf wr az k B v = x
 | [], _, _, _, _, _, h, _, _, _ => by simp at h
 | b :: r, k, 0, v, x, a, h, hw, hB, hn => by
  simp at h; subst h
  simp only [pf, hw]
  rw [be4] at hB
  rw [hB, if_pos rfl]
  refine Q6 fun j c hc hs => ?_
  have := hn (j + 1) c (by omega) (by simpa using hc) hs
  rw [show k + (j + 1) = k + 1 + j by omega] at this; exact this
 | b :: r, k, i + 1, v, x, a, h, hw, hB, hn => by
  simp only [pf]
  refine as9 (i := i) (by simpa using h) hw (by rw [show k + 1 + i = k + (i + 1) by omega]; exact hB) fun j c hj hc hs => ?_
  have := hn (j + 1) c (by omega) (by simpa using hc) hs
  rw [show k + (j + 1) = k + 1 + j by omega] at this; exact this
theorem ac4 {β : Type} {wr : Ac → Option β} {B : Nat → Bool} (p : β → Prop) : ∀ {az : List Ac} {k : Nat} {v : β}, p v → (∀ j a x, az[j]? = some a → B (k + j) = true → wr a = some x → p x) → p (pf wr az k B v)
 | [], _, _, h, _ => h
 | a :: r, k, v, h, hs => by
  simp only [pf]
  refine ac4 p ?_ fun j b x hb hB hw => hs (j + 1) b x (by simpa using hb) (by rw [show k + (j + 1) = k + 1 + j by omega]; exact hB) hw
  cases hw : wr a with
  | none => exact h
  | some x =>
   simp only
   split
   ·rename_i hB; exact hs 0 a x rfl (by simpa using hB) hw
   ·exact h
def al7 : List (Nat × It) → Nat → Option It
 | [], _ => none
 | (k, x) :: r, i => if i = k then some x else al7 r i
theorem ae6 (S : Nat → It) (i : Nat) : ∀ (l : List (Nat × It)), n8 S l i = match al7 l i with | some x => x | none => S i
 | [] => rfl
 | (k, x) :: r => by simp only [n8, al7]; split; rfl; exact ae6 S i r
theorem K9 {l : List (Nat × It)} {i : Nat} {x : It} (h : al7 l i = some x) : (i, x) ∈ l := by
 induction l with
 | nil => cases h
 | cons p r ih =>
  obtain ⟨k, y⟩ := p
  simp only [al7] at h
  split at h
  ·rename_i e; cases h; rw [e]; exact bd3
  ·exact bd5 _ (ih h)
def wrT (t : Nat) (a : Ac) : Option (Option AV) := if a.dst = some t then some (some a.t.res) else none
def wrS (i : Nat) (a : Ac) : Option It := al7 a.t.new i
def tmD (az : List Ac) (B : Nat → Bool) (tm : Nat → Option AV) : Nat → Option AV := fun t => pf (wrT t) az 0 B (tm t)
def sD (az : List Ac) (B : Nat → Bool) (S : Nat → It) : Nat → It := fun i => pf (wrS i) az 0 B (S i)
def bef (ms : List Nat) (j i : Nat) : Bool := (nth ms i).testBit j
def aE2 (ms : List Nat) (o : Oper) : Nat := o.after.foldl (fun s e => if Region.binds .any e then s ||| (2 ^ e.on ||| nth ms e.on) else s) 0
def at4 (ms : List Nat) (l : List Oper) : Bool := (bc6 l.length).all fun i => match l[i]? with | some o => natEq (nth ms i) (aE2 ms o) | none => false
def V1 (a b : Ac) : Bool :=
 (match b.dst with | some t => memN t a.rt || (match a.dst with | some s => natEq s t | none => false) | none => false) ||
 b.t.new.any (fun p => memN p.1 a.ri || a.t.new.any fun q => natEq q.1 p.1)
def a33 (ms : List Nat) (az : List Ac) : Bool :=
 (bc6 az.length).all fun i => (bc6 az.length).all fun j =>
  match az[i]?, az[j]? with
  | some a, some b => natEq i j || !V1 a b || (if decide (j < i) then bef ms j i else bef ms i j)
  | _, _ => false
def aY8 (S : Nat → It) (az : List Ac) (j : Nat) : Nat := match az.findSome? (wrS j) with
 | some x => knd x
 | none => knd (S j)
def aN1 (ms : List Nat) (S : Nat → It) (az : List Ac) : Bool :=
 (bc6 az.length).all fun i =>
  match az[i]? with
  | some a => a.rk.all fun j => az.all (fun b => match wrS j b with | some x => natEq (knd x) (aY8 S az j) | none => true) && (natEq (knd (S j)) (aY8 S az j) || (bc6 i).any fun k => bef ms k i && match az[k]? with | some b => (wrS j b).isSome | none => false)
  | none => true
theorem aH6 {β : Type} {wr : Ac → Option β} {B : Nat → Bool} (p : β → Prop) : ∀ {az : List Ac} {k : Nat} {v : β}, (∀ (j : Nat) (a : Ac) (x : β), az[j]? = some a → wr a = some x → p x) → (p v ∨ ∃ (j : Nat) (a : Ac), az[j]? = some a ∧ (wr a).isSome = true ∧ B (k + j) = true) → p (pf wr az k B v)
 | [], _, _, _, h => by rcases h with h | ⟨j, a, h, _⟩; exact h; simp at h
 | a :: r, k, v, hs, h => by
  simp only [pf]
  refine aH6 p (fun j b x hb => hs (j + 1) b x (by simpa using hb)) ?_
  rcases h with h | ⟨j, b, h1, h2, h3⟩
  ·left
   cases hw : wr a with
   | none => exact h
   | some x =>
    simp only
    split
    ·exact hs 0 a x rfl hw
    ·exact h
  ·cases j with
   | zero =>
    left
    simp at h1; subst h1
    obtain ⟨x, hx⟩ := bf2.1 h2
    rw [hx]
    rw [be4] at h3
    simp only [h3, if_true]
    exact hs 0 _ x rfl hx
   | succ j =>
    right
    exact ⟨j, b, by simpa using h1, h2, by rw [show k + 1 + j = k + (j + 1) by omega]; exact h3⟩
theorem aG6 {ms : List Nat} {S : Nat → It} {az : List Ac} (h : aN1 ms S az = true) {i : Nat} {a : Ac} (ha : az[i]? = some a) {j : Nat} (hj : j ∈ a.rk) {B : Nat → Bool} (hB : ∀ k, k < i → bef ms k i = true → B k = true) : knd (pf (wrS j) az 0 B (S j)) = aY8 S az j := by
 have hi := (bc0.1 ha).1
 have h1 := bc8.1 h i (List.mem_range.2 hi)
 rw [ha] at h1
 have h2 := bc8.1 h1 j hj
 simp only [bb8, Bool.or_eq_true] at h2
 refine aH6 (fun x => knd x = aY8 S az j) (fun q b x hb hx => ?_) ?_
 ·have := bc8.1 h2.1 b (bc5 hb)
  rw [hx] at this
  simpa [natEq] using this
 ·rcases h2.2 with h3 | h3
  ·left; simpa [natEq] using h3
  ·right
   obtain ⟨k, hk, h4⟩ := List.any_eq_true.1 h3
   rw [List.mem_range] at hk
   simp only [bb8] at h4
   cases hb : az[k]? with
   | none => rw [hb] at h4; cases h4.2
   | some b =>
    rw [hb] at h4
    exact ⟨k, b, hb, h4.2, by rw [be8]; exact hB k hk h4.1⟩
def aR6 (ms : List Nat) (n0 : Nat) (az : List Ac) : Bool :=
 (bc6 az.length).all fun i =>
  match az[i]? with
  | some a => (a.t.res.ids ++ a.t.new.map (·.1) ++ a.t.new.flatMap (fun p => p.2.ids)).all fun id => decide (id < n0) || natEq ((id - n0) / 8) i || bef ms ((id - n0) / 8) i
  | none => false
section
variable {P : Program} {ι : Type} {φ ψ : Nat → Prop} {w0 w w' : World} {F : ι → Rs} {ρ : Nat → Value} {S : Nat → It} {N n : Nat}
theorem ab1 {α β : Type} {f g : α → Option β} : ∀ {l : List α}, (∀ x ∈ l, f x = g x) → l.filterMap f = l.filterMap g
 | [], _ => rfl
 | a :: r, h => by rw [List.filterMap_cons, List.filterMap_cons, h a bd3, ab1 fun x hx => h x (bd5 _ hx)]
theorem ag6 {ops : List Oper} {H : L0} {tm tm' : Nat → Option AV} {i : Nat} {o : Oper} (h : ∀ t ∈ au0 ops o, tm' t = tm t) : aj1 ops H tm' i o = aj1 ops H tm i o := by
 unfold aj1
 unfold au0 at h
 cases hg : o.guard with
 | none => rfl
 | some q =>
  obtain ⟨j, want⟩ := q
  rw [hg] at h
  simp only at h ⊢
  cases hd : (ops[j]?).bind (·.dst) with
  | none => rfl
  | some t =>
   rw [hd] at h
   simp only at h ⊢
   rw [h t (by simp)]
theorem aK5 {dk : TypeId → Nat} {H : L0} {ops : List Oper} {i : Nat} {o : Oper} {tm tm' : Nat → Option AV} {S S' : Nat → It} {ac : Ac} {ob : List Prop} (h : opA P dk N ops H i o tm S n = some (ac, ob)) (ht : ∀ t ∈ ac.rt, tm' t = tm t) (hs : ∀ j ∈ ac.ri, S' j = S j) (hk : ∀ j ∈ ac.rk, knd (S' j) = knd (S j)) : opA P dk N ops H i o tm' S' n = some (ac, ob) := by
 unfold opA at h ⊢
 split at h
 case isFalse => cases h
 rename_i hd
 rw [if_pos hd]
 cases hw : aj1 ops H tm i o with
 | none => rw [hw] at h; cases h
 | some q =>
  obtain ⟨b, lq, rq⟩ := q
  rw [hw] at h
  cases b
  ·simp only at h
   cases h
   rw [ag6 (tm := tm) ht, hw]
  ·simp only at h
   cases hr : ak2 P dk H tm S n i o.op with
   | none => rw [hr] at h; cases h
   | some t =>
    rw [hr] at h
    simp only at h
    split at h
    case isFalse => cases h
    rename_i hf
    cases h
    simp only at ht hs hk
    rw [ag6 (tm := tm) fun t ht' => ht t (List.mem_append_right _ ht'), hw]
    have e1 : rtm tm' (Y6 o.op) = rtm tm (Y6 o.op) := by
     funext t
     unfold rtm
     split
     ·rename_i hm; exact ht t (List.mem_append_left _ (t0.1 hm))
     ·rfl
    have e2 : tch tm' o.op = tch tm o.op := by
     have e9 : M8 tm' (Y6 o.op) = M8 tm (Y6 o.op) := by
      unfold M8
      congr 1
      exact ab1 fun t ht' => ht t (List.mem_append_left _ ht')
     cases ho' : o.op <;> simp only [tch] <;> rw [← ho'] <;> first | rw [e1, e9] | exact e9
    have e8 : wk tm' o.op = wk tm o.op := by
     have e9 : M8 tm' (Y6 o.op) = M8 tm (Y6 o.op) := by
      unfold M8
      congr 1
      exact ab1 fun t ht' => ht t (List.mem_append_left _ ht')
     cases ho' : o.op <;> simp only [wk] <;> rw [← ho', e1, e9]
    have e3 : ak2 P dk H tm' S' n i o.op = ak2 P dk H tm S n i o.op := by
     unfold ak2
     cases hc : H1 H.calls i with
     | none =>
      simp only
      rw [e1, e2, e8, aO2 (fun j hj => hs j (List.mem_append_left _ hj)) hk]
     | some q =>
      obtain ⟨c, τ⟩ := q
      simp only
      rw [e1, e2]
      congr 1
      funext j
      unfold rS
      split
      ·rename_i hm
       refine hs j ?_
       unfold aJ1
       rw [hc]; exact t0.1 hm
      ·rfl
    have e4 : aD5 H tm' S' n i o.op = aD5 H tm S n i o.op := by
     unfold aD5
     cases hc : H1 H.calls i with
     | none => simp only; rw [e1]
     | some q =>
      obtain ⟨c, τ⟩ := q
      simp only
      rw [e1, e2]
      congr 1
      funext j
      unfold rS
      split
      ·rename_i hm
       refine hs j ?_
       unfold aJ1
       rw [hc]; exact t0.1 hm
      ·rfl
    rw [e3, hr, e4]
    simp only
    rw [e2, e8, if_pos hf]
theorem aW9 {dk : TypeId → Nat} {H : L0} (hH : ∀ i c τ, H1 H.calls i = some (c, τ) → c.ok P) (hF : J8 H.facts) {ops : List Oper} {i : Nat} {o : Oper} {tm : Nat → Option AV} {a : Act} (hv : ∀ t x, tm t = some x → a.tmps[t]? = some (x.val ρ)) (M : l8 φ ψ w0 w (n9 F ρ S)) {ac : Ac} {obs : List Prop} (h : opA P dk N ops H i o tm S n = some (ac, obs)) (ho : t5 obs) (he : ac.eqs.1 = ac.eqs.2) (hw' : ac.eqw.1 = ac.eqw.2)
  (hmk : ∀ j ∈ ac.t.made, S j = .none) (hi : Inv S ρ ac.t.made)
  {Q : Exit → Act → World → Prop} {rest : List Oper} (hk : ∀ ρ' w', B7 ac.t.made ρ ρ' → l8 φ ψ w0 w' (n9 F ρ' (n8 S ac.t.new)) → wpList P ops.toArray Q rest (a.put o.dst (ac.t.res.val ρ')) w') : wpList P ops.toArray Q (o :: rest) a w := by
 unfold opA at h
 split at h
 case isFalse => cases h
 rename_i hd
 split at h
 case h_1 => cases h
 ·rename_i l r hw
  cases h
  refine aG9 (ab7 (ρ := ρ) hF hw hw' fun t y _ hy => hv t y hy) ?_
  exact hk ρ w (B7.refl _ _) (by simpa [a37, n8] using M)
 ·rename_i l r hw
  split at h
  case h_1 => cases h
  rename_i t ht
  split at h
  case isFalse => cases h
  rename_i hf
  cases h
  simp only [bb8] at hf
  refine G9.wp (ab7 (ρ := ρ) hF hw hw' fun t y _ hy => hv t y hy) ?_
  refine (aw9 M hH hF (fun t y _ hy => hv t y hy) ht ho he hmk hi (fun j hj => ?_)).mono ?_
  ·obtain ⟨p, hp, rfl⟩ := List.mem_map.1 hj
   have := bc8.1 hf.2 p hp
   simp only [Bool.or_eq_true] at this
   exact this.imp t0.1 t0.1
  ·rintro v w' ⟨ρ', p1, p2, rfl⟩
   exact hk ρ' w' p1 p2
theorem aH1 {dk : TypeId → Nat} {H : L0} {ops : List Oper} : ∀ (l : List Oper) (i n : Nat) {tm : List (Nat × AV)} {S : Nat → It} {r : RS}, N8 P dk N ops H l i tm S n = some r → t5 r.obs →
  r.acts.length = l.length ∧ (∀ t, B2 r.tm t = pf (wrT t) r.acts i (fun _ => true) (B2 tm t)) ∧ (∀ j, r.S j = pf (wrS j) r.acts i (fun _ => true) (S j)) ∧
  ∀ k o, l[k]? = some o → ∃ ac ob, r.acts[k]? = some ac ∧ t5 ob ∧ opA P dk N ops H (i + k) o (fun t => pf (wrT t) r.acts i (fun j => decide (j < i + k)) (B2 tm t)) (fun j => pf (wrS j) r.acts i (fun q => decide (q < i + k)) (S j)) (n + 8 * k) = some (ac, ob)
 | [], i, n, tm, S, r, h, _ => by cases h; exact ⟨rfl, fun _ => rfl, fun _ => rfl, fun k o h => by simp at h⟩
 | o :: l, i, n, tm, S, r, h, ho => by
  simp only [N8] at h
  split at h
  case h_1 => cases h
  rename_i ac ob h1
  split at h
  case h_1 => cases h
  rename_i s h2
  cases h
  simp only [t5.append] at ho
  obtain ⟨k1, k2, k3, k4⟩ := aH1 l (i + 1) (n + 8) h2 ho.2
  have eT : ∀ t, B2 (aD0 ac.dst ac.t.res tm) t = match wrT t ac with | some x => x | none => B2 tm t := fun t => by
   rw [aq1]
   simp only [ao3, wrT]
   split <;> rfl
  have eS : ∀ j, n8 S ac.t.new j = match wrS j ac with | some x => x | none => S j := fun j => ae6 S j _
  refine ⟨by simp [k1], fun t => ?_, fun j => ?_, fun k o' hk => ?_⟩
  ·rw [k2 t, eT]; simp only [pf]; cases wrT t ac <;> rfl
  ·rw [k3 j, eS]; simp only [pf]; cases wrS j ac <;> rfl
  ·cases k with
   | zero =>
    simp at hk; subst hk
    refine ⟨ac, ob, rfl, ho.1, ?_⟩
    have e1 : (fun t => pf (wrT t) (ac :: s.acts) i (fun j => decide (j < i + 0)) (B2 tm t)) = B2 tm := by
     funext t; exact Q6 fun j a _ _ => by simp
    have e2 : (fun j => pf (wrS j) (ac :: s.acts) i (fun q => decide (q < i + 0)) (S j)) = S := by
     funext j; exact Q6 fun j a _ _ => by simp
    rw [e1, e2]; exact h1
   | succ k =>
    obtain ⟨ac', ob', m1, m2, m3⟩ := k4 k o' (by simpa using hk)
    refine ⟨ac', ob', by simpa using m1, m2, ?_⟩
    have hi : decide (i < i + (k + 1)) = true := by simp
    have e1 : (fun t => pf (wrT t) (ac :: s.acts) i (fun j => decide (j < i + (k + 1))) (B2 tm t)) = fun t => pf (wrT t) s.acts (i + 1) (fun j => decide (j < i + 1 + k)) (B2 (aD0 ac.dst ac.t.res tm) t) := by
     funext t
     rw [eT]
     simp only [pf, hi, if_true]
     rw [show i + (k + 1) = i + 1 + k by omega]
     cases wrT t ac <;> rfl
    have e2 : (fun j => pf (wrS j) (ac :: s.acts) i (fun q => decide (q < i + (k + 1))) (S j)) = fun j => pf (wrS j) s.acts (i + 1) (fun q => decide (q < i + 1 + k)) (n8 S ac.t.new j) := by
     funext j
     rw [eS]
     simp only [pf, hi, if_true]
     rw [show i + (k + 1) = i + 1 + k by omega]
     cases wrS j ac <;> rfl
    rw [e1, e2, show i + (k + 1) = i + 1 + k by omega, show n + 8 * (k + 1) = n + 8 + 8 * k by omega]
    exact m3
def aU4 (l : List Oper) (B : Nat → Bool) : Prop := ∀ j o, l[j]? = some o → B j = true → ∀ e ∈ o.after, Region.binds .any e = true → B e.on = true
theorem ak7 {ms : List Nat} {o : Oper} {j : Nat} (h : (aE2 ms o).testBit j = true) : ∃ e ∈ o.after, Region.binds .any e = true ∧ (e.on = j ∨ bef ms j e.on = true) := by
 unfold aE2 at h
 rw [← Array.foldl_toList] at h
 have key : ∀ (es : List Edge) (s : Nat), (es.foldl (fun s e => if Region.binds .any e then s ||| (2 ^ e.on ||| nth ms e.on) else s) s).testBit j = true → s.testBit j = true ∨ ∃ e ∈ es, Region.binds .any e = true ∧ (e.on = j ∨ bef ms j e.on = true) := by
  intro es
  induction es with
  | nil => intro s h; exact .inl h
  | cons e r ih =>
   intro s h
   simp only [List.foldl_cons] at h
   rcases ih _ h with h1 | ⟨e', he', h2⟩
   ·split at h1
    ·rename_i hb
     simp only [Nat.testBit_or, Bool.or_eq_true, Nat.testBit_two_pow, decide_eq_true_eq] at h1
     rcases h1 with h1 | h1 | h1
     ·exact .inl h1
     ·exact .inr ⟨e, bd3, hb, .inl h1⟩
     ·exact .inr ⟨e, bd3, hb, .inr h1⟩
    ·exact .inl h1
   ·exact .inr ⟨e', bd5 _ he', h2⟩
 rcases key _ _ h with h1 | ⟨e, he, h2⟩
 ·simp at h1
 ·exact ⟨e, by simpa using he, h2⟩
theorem an3 {ms : List Nat} {l : List Oper} (hm : at4 ms l = true) (hb : X4 l.toArray = true) {B : Nat → Bool} (hc : aU4 l B) : ∀ i, i < l.length → B i = true → ∀ j, bef ms j i = true → B j = true := by
 intro i
 induction i using Nat.strongRecOn with
 | _ i ih =>
  intro hi hB j hj
  have h1 := bc8.1 hm i (List.mem_range.2 hi)
  rw [bb7 hi] at h1
  simp only [natEq, beq_iff_eq] at h1
  unfold bef at hj
  rw [h1] at hj
  obtain ⟨e, he, h2, h3⟩ := ak7 hj
  have h4 := hc i _ (bb7 hi) hB e he h2
  have h5 := an4 hb (show i < l.toArray.size by simpa using hi) (show l.toArray[i]? = some l[i] by simp [hi]) he h2
  rcases h3 with rfl | h3
  ·exact h4
  ·exact ih e.on h5 (by omega) h4 j h3
theorem aM8 {ms : List Nat} {l : List Oper} (hm : at4 ms l = true) (hb : X4 l.toArray = true) {B : Nat → Bool} (hc : aU4 l B) {i : Nat} {o : Oper} (ho : l[i]? = some o) (hr : ∀ e ∈ o.after, Region.binds .any e = true → B e.on = true) {j : Nat} (hj : bef ms j i = true) : B j = true := by
 have hi := (bc0.1 ho).1
 have h1 := bc8.1 hm i (List.mem_range.2 hi)
 rw [ho] at h1
 simp only [natEq, beq_iff_eq] at h1
 unfold bef at hj
 rw [h1] at hj
 obtain ⟨e, he, h2, h3⟩ := ak7 hj
 have h5 := an4 hb (show i < l.toArray.size by simpa using hi) (show l.toArray[i]? = some o by simpa using ho) he h2
 rcases h3 with rfl | h3
 ·exact hr e he h2
 ·exact an3 hm hb hc e.on (by omega) (hr e he h2) j h3
end
section
variable {P : Program} {ι : Type} {φ ψ : Nat → Prop} {w0 w w' : World} {F : ι → Rs} {ρ : Nat → Value} {S : Nat → It} {N m n : Nat} {ρ0 : Nat → Value}
theorem aA9 {l : List Oper} {Q : Exit → Act → World → Prop} (I : Array Bool → Act → World → Prop) (hb : X4 l.toArray = true)
  (step : ∀ listed a w, I listed a w → ∀ i o, l[i]? = some o → listed.getD i true = false → (∀ e ∈ o.after, Region.binds .any e = true → listed.getD e.on false = true) →
   ∀ Q' : Exit → Act → World → Prop, (∀ a w, I (listed.setIfInBounds i true) a w → Q' .normal a w) → wpList P l.toArray Q' [o] a w)
  (done : ∀ listed a w, I listed a w → (∀ j, j < l.length → listed.getD j true = true) → Q .normal a w) :
  ∀ (fuel : Nat) (listed : Array Bool) (a : Act) (w : World), listed.size = l.toArray.size → listed.toList.count false = fuel → I listed a w → wpAny P .any l.toArray Q fuel listed a w := by
 have hfin : ∀ (listed : Array Bool) (a : Act) (w : World), listed.size = l.toArray.size → Region.ready .any l.toArray listed = [] → I listed a w → Q .normal a w := by
  intro listed a w hsz hr hI
  refine done listed a w hI fun j hj => ?_
  cases hl : listed.getD j true
  ·exact absurd hr (av8 hb hsz j (by simpa using hj) hl)
  ·rfl
 intro fuel
 induction fuel with
 | zero =>
  intro listed a w hsz hc hI
  have hr : Region.ready .any l.toArray listed = [] := by
   rw [List.eq_nil_iff_forall_not_mem]
   intro j hj
   have := ad6 (mem_ready.1 hj).1
   omega
  exact ⟨hr, hfin listed a w hsz hr hI⟩
 | succ f ih =>
  intro listed a w hsz hc hI
  refine ⟨fun hr => hfin listed a w hsz hr hI, fun i hi => ?_⟩
  obtain ⟨h1, o, ho, h2⟩ := mem_ready.1 hi
  have ho' : l[i]? = some o := by simpa using ho
  have hcl := ad6 h1
  have hs := step listed a w hI i o ho' h1 h2 (fun e a w => e = .normal ∧ I (listed.setIfInBounds i true) a w) fun a w h => ⟨rfl, h⟩
  unfold wpOp
  rw [ho]
  simp only
  unfold wpList at hs
  split
  ·rename_i hw
   rw [if_pos hw] at hs
   rcases hs with hs | ⟨_, a, w, he, _⟩
   ·exact .inl (aJ5 (fun _ _ _ h => h.1) (Oper.wp_mono (fun a' w' h => ih _ a' w' (by simpa using hsz) (by omega) h.2) hs))
   ·cases he
  ·rename_i hw
   rw [if_neg hw] at hs
   exact ih _ _ _ (by simpa using hsz) (by omega) hs.2
theorem ai9 {id : Nat} {l : List Oper} {Q : Exit → Act → World → Prop} {a : Act} {w : World} (I : Array Bool → Act → World → Prop) (hm : P.follows .mixedOrders = true) (hb : X4 l.toArray = true)
  (h0 : I (Array.replicate l.length false) a w.drew)
  (step : ∀ listed a w, I listed a w → ∀ i o, l[i]? = some o → listed.getD i true = false → (∀ e ∈ o.after, Region.binds .any e = true → listed.getD e.on false = true) →
   ∀ Q' : Exit → Act → World → Prop, (∀ a w, I (listed.setIfInBounds i true) a w → Q' .normal a w) → wpList P l.toArray Q' [o] a w)
  (done : ∀ listed a w, I listed a w → (∀ j, j < l.length → listed.getD j true = true) → Q .normal a w) : (Code.region id l.toArray true).wp P Q a w :=
 wp_region_any hm (aA9 I hb step done _ _ _ _ (by simp) (by simp) (by simpa using h0))
def RI (φ ψ : Nat → Prop) (w0 : World) (F : ι → Rs) (N m : Nat) (ρ0 : Nat → Value) (l : List Oper) (az : List Ac) (tm : Nat → Option AV) (S : Nat → It) (listed : Array Bool) (a : Act) (w : World) : Prop :=
 listed.size = l.length ∧ aU4 l (fun j => listed.getD j false) ∧ ∃ ρ, (∀ i, i < m → ρ i = ρ0 i) ∧ a.tmps.size = N ∧ a.defers = [] ∧ (∀ t x, tmD az (fun j => listed.getD j false) tm t = some x → a.tmps[t]? = some (x.val ρ)) ∧ l8 φ ψ w0 w (n9 F ρ (sD az (fun j => listed.getD j false) S))
theorem aD4 {ms : List Nat} {az : List Ac} (h : a33 ms az = true) {i j : Nat} {a b : Ac} (ha : az[i]? = some a) (hb : az[j]? = some b) (hij : i ≠ j) (hm : V1 a b = true) : (j < i → bef ms j i = true) ∧ (i < j → bef ms i j = true) := by
 have hi := (bc0.1 ha).1
 have hj := (bc0.1 hb).1
 have h1 := bc8.1 (bc8.1 h i (List.mem_range.2 hi)) j (List.mem_range.2 hj)
 rw [ha, hb] at h1
 have hne : natEq i j = false := by simp [natEq, hij]
 simp only [hne, hm, Bool.not_true, Bool.false_or] at h1
 constructor
 ·intro hlt; rw [if_pos (by simpa using hlt)] at h1; exact h1
 ·intro hlt; rw [if_neg (by simp; omega)] at h1; exact h1
theorem aI0 {ms : List Nat} {n0 : Nat} {az : List Ac} (h : aR6 ms n0 az = true) {i : Nat} {a : Ac} (ha : az[i]? = some a) : ∀ id, (id ∈ a.t.res.ids ∨ id ∈ a.t.new.map (·.1) ∨ ∃ p ∈ a.t.new, id ∈ p.2.ids) → id < n0 ∨ (id - n0) / 8 = i ∨ bef ms ((id - n0) / 8) i = true := by
 intro id hid
 have hi := (bc0.1 ha).1
 have h1 := bc8.1 h i (List.mem_range.2 hi)
 rw [ha] at h1
 have h2 := bc8.1 h1 id (by
  rcases hid with h | h | ⟨p, hp, h⟩
  ·exact List.mem_append_left _ (List.mem_append_left _ h)
  ·exact List.mem_append_left _ (List.mem_append_right _ h)
  ·exact List.mem_append_right _ (List.mem_flatMap.2 ⟨p, hp, h⟩))
 simp only [Bool.or_eq_true, decide_eq_true_eq, natEq, beq_iff_eq] at h2
 rcases h2 with (h2 | h2) | h2
 ·exact .inl h2
 ·exact .inr (.inl h2)
 ·exact .inr (.inr h2)
theorem ar1 {dk : TypeId → Nat} {H : L0} (hH : ∀ i c τ, H1 H.calls i = some (c, τ) → c.ok P) (hF : J8 H.facts) {l : List Oper} {id : Nat} {Q : Exit → Act → World → Prop} {tm : List (Nat × AV)} {a : Act} {wr : World} (I0 : Inn φ ψ w0 F N m ρ0 n ρ (B2 tm) S a wr) {r : RS} (hrun : N8 P dk N l H l 0 tm S n = some r) (ho : t5 r.obs) (heq : r.acts.map (·.eqs.1) = r.acts.map (·.eqs.2)) (hew : r.acts.map (·.eqw.1) = r.acts.map (·.eqw.2))
  (ms : List Nat) (hm : P.follows .mixedOrders = true) (hb : X4 l.toArray = true) (hms : at4 ms l = true) (hord : a33 ms r.acts = true) (hment : aR6 ms n r.acts = true) (hweak : aN1 ms S r.acts = true)
  (done : ∀ ρ' a' w' n', Inn φ ψ w0 F N m ρ0 n' ρ' (B2 r.tm) r.S a' w' → Q .normal a' w') : (Code.region id l.toArray true).wp P Q a wr := by
 obtain ⟨hlen, hfT, hfS, hat⟩ := aH1 l 0 n hrun ho
 have hmt : ∀ (i : Nat) ac, r.acts[i]? = some ac → ∀ t b, b.dst = some t → t ∈ ac.rt → V1 ac b = true := fun i ac _ t b hb ht => by
  simp [V1, hb, t0.2 ht]
 have hmd : ∀ ac b t, ac.dst = some t → b.dst = some t → V1 ac b = true := fun ac b t h1 h2 => by
  simp [V1, h1, h2, natEq]
 have hms' : ∀ (ac b : Ac) (j : Nat), j ∈ ac.ri → j ∈ b.t.new.map (·.1) → V1 ac b = true := fun ac b j h1 h2 => by
  obtain ⟨p, hp, rfl⟩ := List.mem_map.1 h2
  unfold V1
  have : b.t.new.any (fun p => memN p.1 ac.ri || ac.t.new.any fun q => natEq q.1 p.1) = true := List.any_eq_true.2 ⟨p, hp, by simp [t0.2 h1]⟩
  rw [this]; simp
 have hmn : ∀ (ac b : Ac) (j : Nat), j ∈ ac.t.new.map (·.1) → j ∈ b.t.new.map (·.1) → V1 ac b = true := fun ac b j h1 h2 => by
  obtain ⟨p, hp, rfl⟩ := List.mem_map.1 h2
  obtain ⟨q, hq, e⟩ := List.mem_map.1 h1
  unfold V1
  have : b.t.new.any (fun p => memN p.1 ac.ri || ac.t.new.any fun q => natEq q.1 p.1) = true := List.any_eq_true.2 ⟨p, hp, by
   have : ac.t.new.any (fun q => natEq q.1 p.1) = true := List.any_eq_true.2 ⟨q, hq, by simp [natEq, e]⟩
   rw [this]; simp⟩
  rw [this]; simp
 refine ai9 (RI φ ψ w0 F N m ρ0 l r.acts (B2 tm) S) hm hb ?_ ?_ ?_
 ·refine ⟨by simp, fun j o _ hj => ?_, ρ, I0.old, I0.size, I0.defs, fun t x hx => ?_, ?_⟩
  ·have hj' : (Array.replicate l.length false).getD j false = true := hj
   rw [getD_replicate_false] at hj'; cases hj'
  ·refine I0.tmv t x ?_
   rw [← hx]
   exact (Q6 fun j b _ _ => getD_replicate_false _ _).symm
  ·have e : sD r.acts (fun j => (Array.replicate l.length false).getD j false) S = S := by
    funext j; exact Q6 fun j b _ _ => getD_replicate_false _ _
   rw [e]; exact I0.mem.drew
 ·rintro listed a w ⟨hsz, hdn, ρ, hold, hN, hdf, hv, M⟩ i o hoi hun hdep Q' hQ
  generalize hB : (fun j => listed.getD j false) = B at *
  have hBj : ∀ j, B j = listed.getD j false := fun j => by rw [← hB]
  have hil := (bc0.1 hoi).1
  have hBi : B i = false := by
   rw [hBj, ← aI6 (by omega)]; exact hun
  obtain ⟨ac, ob, hac, hob, hop⟩ := hat i o hoi
  simp only [be8] at hop
  have heqi : ac.eqs.1 = ac.eqs.2 := by
   have := congrArg (·[i]?) heq
   simpa [hac] using this
  have hewi : ac.eqw.1 = ac.eqw.2 := by
   have := congrArg (·[i]?) hew
   simpa [hac] using this
  obtain ⟨hdst, hdN, hfine⟩ := at2 hop
  obtain ⟨hf1, hf2, hf3⟩ := U5 hfine
  have hdep' : ∀ e ∈ o.after, Region.binds .any e = true → B e.on = true := fun e he hbi => by rw [hBj]; exact hdep e he hbi
  have ahead : ∀ j, bef ms j i = true → B j = true := fun j hj => aM8 hms hb hdn hoi hdep' hj
  have behind : ∀ j, j < l.length → bef ms i j = true → B j = false := fun j hjl hj => by
   cases h : B j
   ·rfl
   ·have := an3 hms hb hdn j hjl h i hj
    rw [hBi] at this; cases this
  have hagree : ∀ (j : Nat) b, r.acts[j]? = some b → V1 ac b = true → B j = decide (j < i) := fun j b hj hmm => by
   have hjl : j < l.length := by have := (bc0.1 hj).1; omega
   rcases Nat.lt_trichotomy j i with h | h | h
   ·rw [ahead j ((aD4 hord hac hj (by omega) hmm).1 h)]; simp [h]
   ·subst h; rw [hBi]; simp
   ·rw [behind j hjl ((aD4 hord hac hj (by omega) hmm).2 h)]
    have : ¬ j < i := by omega
    simp [this]
  have hop2 := aK5 hop (tm' := tmD r.acts B (B2 tm)) (S' := sD r.acts B S) (fun t ht => L7 fun j b hj hw => by
    rw [be8]
    refine hagree j b hj (hmt i ac hac t b ?_ ht)
    unfold wrT at hw
    split at hw
    ·assumption
    ·cases hw)
   (fun q hq => L7 fun j b hj hw => by
    rw [be8]
    obtain ⟨x, hx⟩ := bf2.1 hw
    exact hagree j b hj (hms' ac b q hq (List.mem_map.2 ⟨_, K9 hx, rfl⟩)))
   (fun q hq => by
    show knd (pf (wrS q) r.acts 0 B (S q)) = _
    rw [aG6 hweak hac hq fun k _ hk => ahead k hk, aG6 hweak hac hq fun k hk _ => by simpa using hk])
  have hrange : ∀ id, n + 8 * i ≤ id → id < n + 8 * i + 8 → (id - n) / 8 = i := fun id h1 h2 => by omega
  have hmk : ∀ j ∈ ac.t.made, sD r.acts B S j = .none := fun j hj => by
   obtain ⟨g1, g2⟩ := hf2 j hj
   have e : sD r.acts B S j = S j := Q6 fun k b hk hw => by
    rw [be8]
    obtain ⟨x, hx⟩ := bf2.1 hw
    have hkl : k < l.length := by have := (bc0.1 hk).1; omega
    rcases aI0 hment hk j (.inr (.inl (List.mem_map.2 ⟨_, K9 hx, rfl⟩))) with h | h | h
    ·omega
    ·rw [hrange j g1 g2] at h; subst h; exact hBi
    ·rw [hrange j g1 g2] at h; exact behind k hkl h
   rw [e]; exact (I0.bd j).2 (by omega)
  have hnot : ∀ (k : Nat) b, r.acts[k]? = some b → B k = true → ∀ id, (id ∈ b.t.res.ids ∨ id ∈ b.t.new.map (·.1) ∨ ∃ p ∈ b.t.new, id ∈ p.2.ids) → id ∉ ac.t.made := fun k b hk hBk id hid hm => by
   obtain ⟨g1, g2⟩ := hf2 id hm
   have hkl : k < l.length := by have := (bc0.1 hk).1; omega
   rcases aI0 hment hk id hid with h | h | h
   ·omega
   ·rw [hrange id g1 g2] at h; subst h; rw [hBi] at hBk; cases hBk
   ·rw [hrange id g1 g2] at h; rw [behind k hkl h] at hBk; cases hBk
  have hitem : ∀ j, ∀ id ∈ (sD r.acts B S j).ids, id ∉ ac.t.made := fun j => by
   refine ac4 (fun x : It => ∀ id ∈ x.ids, id ∉ ac.t.made) (fun id hid hm => ?_) fun k b x hk hBk hw id hid => ?_
   ·have := (I0.bd j).1 id hid; have := (hf2 id hm).1; omega
   ·rw [be8] at hBk
    exact hnot k b hk hBk id (.inr (.inr ⟨_, K9 hw, hid⟩))
  have htm : ∀ t x, tmD r.acts B (B2 tm) t = some x → ∀ id ∈ x.ids, id ∉ ac.t.made := fun t => by
   refine ac4 (fun y : Option AV => ∀ x, y = some x → ∀ id ∈ x.ids, id ∉ ac.t.made) (fun x hx id hid hm => ?_) fun k b y hk hBk hw x hx id hid => ?_
   ·have := I0.tmi t x hx id hid; have := (hf2 id hm).1; omega
   ·rw [be8] at hBk
    unfold wrT at hw
    split at hw
    ·cases hw; cases hx
     exact hnot k b hk hBk id (.inl hid)
    ·cases hw
  have hinv : Inv (sD r.acts B S) ρ ac.t.made := fun ρ' ha j => by
   refine It.res_congr _ (fun id hid => ha id (hitem j id hid)) ?_
   by_cases hj : j ∈ ac.t.made
   ·exact .inl (hmk j hj)
   ·exact .inr (.inr (ha j hj))
  refine aW9 hH hF hv M hop2 hob heqi hewi hmk hinv fun ρ' w' ha M' => ?_
  refine hQ _ _ ?_
  have hB' : ∀ j, (listed.setIfInBounds i true).getD j false = if j = i then true else B j := fun j => by
   by_cases e : j = i
   ·subst e
    have : j < listed.size := by omega
    simp [this]
   ·rw [if_neg e, getD_set_ne false (fun h => e h.symm), hBj]
  have hBe : (fun j => (listed.setIfInBounds i true).getD j false) = fun j => if j = i then true else B j := funext hB'
  have later : ∀ (j : Nat) b, i < j → r.acts[j]? = some b → V1 ac b = true → (if j = i then true else B j) = false := fun j b hij hj hmm => by
   have hjl : j < l.length := by have := (bc0.1 hj).1; omega
   rw [if_neg (by omega)]
   exact behind j hjl ((aD4 hord hac hj (by omega) hmm).2 hij)
  have eT : tmD r.acts (fun j => if j = i then true else B j) (B2 tm) = ao3 ac.dst ac.t.res (tmD r.acts B (B2 tm)) := by
   funext t
   simp only [ao3]
   by_cases e : ac.dst = some t
   ·rw [if_pos e]
    refine as9 (i := i) hac (by simp [wrT, e]) (by simp) fun j b hij hj hw => ?_
    rw [be8]
    refine later j b hij hj (hmd ac b t e ?_)
    unfold wrT at hw
    split at hw
    ·assumption
    ·cases hw
   ·rw [if_neg e]
    refine L7 fun j b hj hw => ?_
    have : j ≠ i := fun h => by
     subst h
     rw [hac] at hj; cases hj
     simp [wrT, e] at hw
    simp [this]
  have eS : sD r.acts (fun j => if j = i then true else B j) S = n8 (sD r.acts B S) ac.t.new := by
   funext q
   rw [ae6]
   cases hx : al7 ac.t.new q with
   | some x =>
    refine as9 (i := i) hac hx (by simp) fun j b hij hj hw => ?_
    rw [be8]
    obtain ⟨y, hy⟩ := bf2.1 hw
    exact later j b hij hj (hmn ac b q (List.mem_map.2 ⟨_, K9 hx, rfl⟩) (List.mem_map.2 ⟨_, K9 hy, rfl⟩))
   | none =>
    refine L7 fun j b hj hw => ?_
    have : j ≠ i := fun h => by
     subst h
     rw [hac] at hj; cases hj
     unfold wrS at hw
     rw [hx] at hw; cases hw
    simp [this]
  refine ⟨by simpa using hsz, ?_, ρ', fun j hj => (ha j fun hm => by have := (hf2 j hm).1; have := I0.le; omega).trans (hold j hj), (aw5 _ _ _).trans hN, (aw6 _ _ _).trans hdf, ?_, ?_⟩
  ·rw [hBe]
   intro j oj hj hBj' e he hbi
   show (if e.on = i then true else B e.on) = true
   by_cases e1 : e.on = i
   ·simp [e1]
   ·rw [if_neg e1]
    by_cases e2 : j = i
    ·subst e2
     rw [hoi] at hj; cases hj
     exact hdep' e he hbi
    ·simp only [if_neg e2] at hBj'
     exact hdn j oj hj hBj' e he hbi
  ·rw [hBe, eT, hdst]
   intro t x hx
   rw [aP8 (by rw [hN]; exact hdN)]
   simp only [ao3] at hx
   split
   ·rename_i e; rw [if_pos e] at hx; cases hx; rfl
   ·rename_i e
    rw [if_neg e] at hx
    rw [hv t x hx, AV.val_congr x fun id hid => ha id (htm t x hx id hid)]
  ·rw [hBe, eS]; exact M'
 ·rintro listed a w ⟨hsz, hdn, ρ, hold, hN, hdf, hv, M⟩ hall
  have hall' : ∀ j, j < l.length → listed.getD j false = true := fun j hj => by rw [← aI6 (by omega)]; exact hall j hj
  have eT : tmD r.acts (fun j => listed.getD j false) (B2 tm) = B2 r.tm := by
   funext t
   rw [hfT t]
   refine L7 fun j b hj _ => ?_
   rw [be8]
   exact hall' j (by have := (bc0.1 hj).1; omega)
  have eS : sD r.acts (fun j => listed.getD j false) S = r.S := by
   funext q
   rw [hfS q]
   refine L7 fun j b hj _ => ?_
   rw [be8]
   exact hall' j (by have := (bc0.1 hj).1; omega)
  have hids : ∀ (k : Nat) b, r.acts[k]? = some b → ∀ id, (id ∈ b.t.res.ids ∨ id ∈ b.t.new.map (·.1) ∨ ∃ p ∈ b.t.new, id ∈ p.2.ids) → id < n + 8 * l.length := fun k b hk id hid => by
   have hkl : k < l.length := by have := (bc0.1 hk).1; omega
   obtain ⟨o, ho'⟩ : ∃ o, l[k]? = some o := ⟨_, bb7 hkl⟩
   obtain ⟨ac, ob, hac, _, hop⟩ := hat k o ho'
   rw [hk] at hac; cases hac
   obtain ⟨_, _, hfine⟩ := at2 hop
   obtain ⟨hf1, hf2, hf3⟩ := U5 hfine
   rcases hid with h | h | ⟨p, hp, h⟩
   ·have := hf3 id h; omega
   ·obtain ⟨p, hp, rfl⟩ := List.mem_map.1 h
    have := (hf1 p hp).1; omega
   ·have := (hf1 p hp).2 id h; omega
  refine done ρ a w (n + 8 * l.length) ⟨hN, hdf, by rw [← eT]; exact hv, fun t x hx => ?_, fun j => ?_, by rw [← eS]; exact M, by have := I0.le; omega, hold⟩
  ·rw [hfT t] at hx
   revert x
   refine ac4 (fun y : Option AV => ∀ x, y = some x → ∀ id ∈ x.ids, id < n + 8 * l.length) (fun x hx id hid => ?_) fun k b y hk _ hw x hx id hid => ?_
   ·have := I0.tmi t x hx id hid; omega
   ·unfold wrT at hw
    split at hw
    ·cases hw; cases hx
     exact hids k b hk id (.inl hid)
    ·cases hw
  ·refine ⟨?_, fun hj => ?_⟩
   ·rw [hfS j]
    refine ac4 (fun x : It => ∀ id ∈ x.ids, id < n + 8 * l.length) (fun id hid => ?_) fun k b x hk _ hw id hid => ?_
    ·have := (I0.bd j).1 id hid; omega
    ·exact hids k b hk id (.inr (.inr ⟨_, K9 hw, hid⟩))
   ·rw [hfS j, Q6 fun k b hk hw => ?_]
    ·exact (I0.bd j).2 (by omega)
    ·obtain ⟨x, hx⟩ := bf2.1 hw
     have := hids k b hk j (.inr (.inl (List.mem_map.2 ⟨_, K9 hx, rfl⟩)))
     omega
end
def A6 {ι : Type} (φ ψ : Nat → Prop) (w0 : World) (F : ι → Rs) (N m : Nat) (ρ0 ρ : Nat → Value) (S : List It) (tm : List (Nat × AV)) (a : Act) (w : World) : Prop := Inn φ ψ w0 F N m ρ0 S.length ρ (B2 tm) (t6 S) a w
def wfB (S : List It) (tm : List (Nat × AV)) : Bool := S.all (fun x => X0 S.length x.ids) && tm.all (fun p => X0 S.length p.2.ids)
def a75 (m : Nat) (js : List Nat) : Bool := (bc6 m).all fun i => natEq (nth js i) i && decide (i < js.length)
def Y5 (m : Nat) (js : List Nat) (S : List It) (tm : List (Nat × AV)) : Bool := nodupB js && natEq js.length S.length && wfB S tm && a75 m js
section
variable {P : Program} {ι : Type} {φ ψ : Nat → Prop} {w0 w w' : World} {F : ι → Rs} {ρ ρ0 : Nat → Value} {N m n : Nat} {S : List It} {tm : List (Nat × AV)} {a : Act} {Q : Exit → Act → World → Prop}
theorem al2 : ∀ {tm : List (Nat × AV)} {t : Nat} {x : AV}, B2 tm t = some x → (t, x) ∈ tm
 | [], _, _, h => by cases h
 | (k, y) :: r, t, x, h => by
  simp only [B2, natEq, beq_iff_eq] at h
  split at h
  ·rename_i e; subst e; cases h; exact bd3
  ·exact bd5 _ (al2 h)
theorem al1 {l : List It} {i : Nat} (h : i < l.length) : t6 l i = l[i] := by simp [t6, bc2, h]
theorem A4 {l : List It} {i : Nat} (h : l.length ≤ i) : t6 l i = .none := by simp [t6, bc2, h]
theorem aZ8 {S : List It} {tm : List (Nat × AV)} (h : wfB S tm = true) : (∀ j, (∀ id ∈ (t6 S j).ids, id < S.length) ∧ (S.length ≤ j → t6 S j = .none)) ∧ ∀ t x, B2 tm t = some x → ∀ id ∈ x.ids, id < S.length := by
 simp only [wfB, bb8] at h
 refine ⟨fun j => ⟨fun id hid => ?_, fun hj => A4 hj⟩, fun t x hx id hid => ?_⟩
 ·rcases be3 j S.length with hj | hj
  ·rw [al1 hj] at hid
   exact I3 (bc8.1 h.1 _ (bd2 hj)) id hid
  ·rw [A4 hj] at hid; cases hid
 ·exact I3 (bc8.1 h.2 _ (al2 hx)) id hid
theorem Inn.sel {tf : Nat → Option AV} {Sf : Nat → It} (I : Inn φ ψ w0 F N m ρ0 n ρ tf Sf a w) (js : List Nat) (S1 : List It) (tm1 : List (Nat × AV)) (hb : Y5 m js S1 tm1 = true) (hS : js.map Sf = S1.map (It.ren (nth js))) (ht : (tm1.map (·.1)).map tf = tm1.map fun p => some (p.2.ren (nth js))) :
  A6 φ ψ w0 F N m ρ0 (fun i => ρ (nth js i)) S1 tm1 a w := by
 simp only [Y5, bb8, natEq, beq_iff_eq] at hb
 obtain ⟨⟨⟨hnd, hl⟩, hwf⟩, hkeep⟩ := hb
 have hn := ak4 hnd
 obtain ⟨b1, b2⟩ := aZ8 hwf
 have hk : ∀ i, i < m → nth js i = i ∧ i < js.length := fun i hi => by
  have := bc8.1 hkeep i (List.mem_range.2 hi)
  simpa [natEq] using this
 refine ⟨I.size, I.defs, fun t x hx => ?_, b2, b1, ?_, ?_, fun i hi => ?_⟩
 ·obtain ⟨i, hi⟩ := List.mem_iff_getElem?.1 (al2 hx)
  have h1 := congrArg (·[i]?) ht
  simp only [List.getElem?_map, hi, Option.map_some] at h1
  rw [I.tmv t _ (Option.some.inj h1), AV.val_ren]
 ·refine I.mem.map (fun k : ι ⊕ Nat => (match k with | .inl i => some (.inl i) | .inr i => if i < js.length then some (.inr (nth js i)) else none : Option (ι ⊕ Nat))) ?_ ?_
  ·intro k k' x h1 h2
   match k, k' with
   | .inl i, .inl i' => simp at h1 h2; rw [← h1] at h2; simpa using h2.symm
   | .inl i, .inr j => simp only at h1 h2; cases h1; split at h2 <;> simp at h2
   | .inr j, .inl i => simp only at h1 h2; cases h2; split at h1 <;> simp at h1
   | .inr j, .inr j' =>
    simp at h1 h2
    obtain ⟨f1, f2⟩ := h1
    obtain ⟨g1, g2⟩ := h2
    rw [← f2] at g2
    have hj := Sum.inr.inj g2
    have e1 := bb7 f1
    have e2 := bb7 g1
    rw [H9 e2, H9 e1] at hj
    have := (List.getElem?_inj f1 hn).1 (e1.trans (by rw [← hj]; exact e2.symm))
    rw [this]
  ·intro k
   match k with
   | .inl i => exact .inl ⟨_, rfl, rfl⟩
   | .inr i =>
    by_cases hlt : i < js.length
    ·refine .inl ⟨.inr (nth js i), by simp [hlt], ?_⟩
     have h1 := congrArg (·[i]?) hS
     have hlt' : i < S1.length := by omega
     simp only [List.getElem?_map, bb7 hlt, bb7 hlt', Option.map_some, Option.some.injEq] at h1
     simp only [n9]
     rw [al1 hlt', H9 (bb7 hlt), h1, ← It.res_ren, H9 (bb7 hlt)]
    ·refine .inr ?_
     simp only [n9]
     rw [A4 (by omega)]
     rfl
 ·rcases be3 S1.length m with h | h
  ·have := (hk S1.length h).2; omega
  ·exact h
 ·rw [(hk i hi).1]; exact I.old i hi
def aw8 (o : Option RS) (js ts : List Nat) : Option (List Prop × List It × List (Option AV) × List (List (List AV × List It)) × List (List AV)) := o.map fun r => (r.obs, js.map r.S, ts.map (B2 r.tm), r.acts.map (·.eqs.1), r.acts.map (·.eqw.1))
def aD3 (o : Option RS) (obs : List Prop) (js : List Nat) (S : List It) (tm : List (Nat × AV)) : Option (List Prop × List It × List (Option AV) × List (List (List AV × List It)) × List (List AV)) := o.map fun r => (obs, S.map (It.ren (nth js)), tm.map (fun p => some (p.2.ren (nth js))), r.acts.map (·.eqs.2), r.acts.map (·.eqw.2))
def aJ0 (l : List Oper) (ms : List Nat) (n : Nat) (S : Nat → It) (o : Option RS) : Bool := at4 ms l && X4 l.toArray && match o with
 | some r => a33 ms r.acts && aR6 ms n r.acts && aN1 ms S r.acts
 | none => false
theorem a29 {dk : TypeId → Nat} {l : List Oper} {id : Nat} (G : A6 φ ψ w0 F N m ρ0 ρ S tm a w) (H : L0) (hH : ∀ i c τ, H1 H.calls i = some (c, τ) → c.ok P) (hF : J8 H.facts) (js : List Nat) (S1 : List It) (tm1 : List (Nat × AV)) (obs : List Prop)
  (hs : ((N8 P dk N l H l 0 tm (t6 S) S.length).isSome && Y5 m js S1 tm1) = true)
  (hc : aw8 (N8 P dk N l H l 0 tm (t6 S) S.length) js (tm1.map (·.1)) = aD3 (N8 P dk N l H l 0 tm (t6 S) S.length) obs js S1 tm1)
  (ho : t5 obs) (k : ∀ ρ' a' w', A6 φ ψ w0 F N m ρ0 ρ' S1 tm1 a' w' → Q .normal a' w') : (Code.region id l.toArray false).wp P Q a w := by
 simp only [bb8] at hs
 obtain ⟨r, hr⟩ := bf2.1 hs.1
 rw [hr] at hc
 simp only [aw8, aD3, Option.map_some, Option.some.injEq, Prod.mk.injEq] at hc
 obtain ⟨h1, h2, h3, h4, h5⟩ := hc
 refine wp_region_lit (aH0 hH hF l 0 S.length G hr (by rw [h1]; exact ho) h4 h5 fun ρ' a' w' n' I => ?_)
 exact k _ a' w' (I.sel js S1 tm1 hs.2 h2 h3)
theorem aW1 {dk : TypeId → Nat} {l : List Oper} {id : Nat} (G : A6 φ ψ w0 F N m ρ0 ρ S tm a w) (H : L0) (hH : ∀ i c τ, H1 H.calls i = some (c, τ) → c.ok P) (hF : J8 H.facts) (ms : List Nat) (js : List Nat) (S1 : List It) (tm1 : List (Nat × AV)) (obs : List Prop) (hm : P.follows .mixedOrders = true)
  (hs : (aJ0 l ms S.length (t6 S) (N8 P dk N l H l 0 tm (t6 S) S.length) && Y5 m js S1 tm1) = true)
  (hc : aw8 (N8 P dk N l H l 0 tm (t6 S) S.length) js (tm1.map (·.1)) = aD3 (N8 P dk N l H l 0 tm (t6 S) S.length) obs js S1 tm1)
  (ho : t5 obs) (k : ∀ ρ' a' w', A6 φ ψ w0 F N m ρ0 ρ' S1 tm1 a' w' → Q .normal a' w') : (Code.region id l.toArray true).wp P Q a w := by
 simp only [bb8, aJ0] at hs
 obtain ⟨⟨⟨q1, q2⟩, q3⟩, q4⟩ := hs
 cases hr : N8 P dk N l H l 0 tm (t6 S) S.length with
 | none => rw [hr] at q3; cases q3
 | some r =>
  rw [hr] at q3 hc
  simp only [bb8] at q3
  simp only [aw8, aD3, Option.map_some, Option.some.injEq, Prod.mk.injEq] at hc
  obtain ⟨h1, h2, h3, h4, h5⟩ := hc
  refine ar1 hH hF G hr (by rw [h1]; exact ho) h4 h5 ms hm q2 q1 q3.1.1 q3.1.2 q3.2 fun ρ' a' w' n' I => ?_
  exact k _ a' w' (I.sel js S1 tm1 q4 h2 h3)
theorem rs1 {dk : TypeId → Nat} {l : List Oper} {id : Nat} (G : A6 φ ψ w0 F N m ρ0 ρ S tm a w) (H : L0) (hH : ∀ i c τ, H1 H.calls i = some (c, τ) → c.ok P) (hF : J8 H.facts) (js : List Nat) (S1 : List It) (tm1 : List (Nat × AV)) (obs : List Prop)
  (ho : t5 obs) (k : ∀ ρ' a' w', A6 φ ψ w0 F N m ρ0 ρ' S1 tm1 a' w' → Q .normal a' w')
  (hs : ((N8 P dk N l H l 0 tm (t6 S) S.length).isSome && Y5 m js S1 tm1) = true := by kernel_rfl)
  (hc : aw8 (N8 P dk N l H l 0 tm (t6 S) S.length) js (tm1.map (·.1)) = aD3 (N8 P dk N l H l 0 tm (t6 S) S.length) obs js S1 tm1 := by kernel_rfl) : (Code.region id l.toArray false).wp P Q a w := a29 G H hH hF js S1 tm1 obs hs hc ho k
theorem rd1 {dk : TypeId → Nat} {l : List Oper} {id : Nat} (G : A6 φ ψ w0 F N m ρ0 ρ S tm a w) (H : L0) (hH : ∀ i c τ, H1 H.calls i = some (c, τ) → c.ok P) (hF : J8 H.facts) (ms : List Nat) (js : List Nat) (S1 : List It) (tm1 : List (Nat × AV)) (obs : List Prop)
  (ho : t5 obs) (k : ∀ ρ' a' w', A6 φ ψ w0 F N m ρ0 ρ' S1 tm1 a' w' → Q .normal a' w') (hm : P.follows .mixedOrders = true := by kernel_rfl)
  (hs : (aJ0 l ms S.length (t6 S) (N8 P dk N l H l 0 tm (t6 S) S.length) && Y5 m js S1 tm1) = true := by kernel_rfl)
  (hc : aw8 (N8 P dk N l H l 0 tm (t6 S) S.length) js (tm1.map (·.1)) = aD3 (N8 P dk N l H l 0 tm (t6 S) S.length) obs js S1 tm1 := by kernel_rfl) : (Code.region id l.toArray true).wp P Q a w := aW1 G H hH hF ms js S1 tm1 obs hm hs hc ho k
theorem Y3 : ∀ i c τ, H1 [] i = some (c, τ) → t7.ok P c := fun i c τ h => by cases h
theorem am4 {i0 : Nat} {c0 : t7} {τ0 : List Nat} {r : List (Nat × t7 × List Nat)} (h0 : c0.ok P) (hr : ∀ i c τ, H1 r i = some (c, τ) → t7.ok P c) : ∀ i c τ, H1 ((i0, c0, τ0) :: r) i = some (c, τ) → t7.ok P c := fun i c τ h => by
 simp only [H1] at h
 split at h
 ·cases h; exact h0
 ·exact hr i c τ h
theorem A6.sel (G : A6 φ ψ w0 F N m ρ0 ρ S tm a w) (js : List Nat) (S1 : List It) (tm1 : List (Nat × AV)) (hb : Y5 m js S1 tm1 = true) (hS : js.map (t6 S) = S1.map (It.ren (nth js))) (ht : (tm1.map (·.1)).map (B2 tm) = tm1.map fun p => some (p.2.ren (nth js))) : ∃ ρ', A6 φ ψ w0 F N m ρ0 ρ' S1 tm1 a w := ⟨_, Inn.sel G js S1 tm1 hb hS ht⟩
theorem A6.as (G : A6 φ ψ w0 F N m ρ0 ρ S tm a w) (S1 : List It) (tm1 : List (Nat × AV)) (hS : S = S1) (ht : tm = tm1) : A6 φ ψ w0 F N m ρ0 ρ S1 tm1 a w := by subst hS; subst ht; exact G
theorem A6.at (G : A6 φ ψ w0 F N m ρ0 ρ S tm a w) (S1 : List It) (tm1 : List (Nat × AV)) (hS : S = S1 := by kernel_rfl) (ht : tm = tm1 := by kernel_rfl) : A6 φ ψ w0 F N m ρ0 ρ S1 tm1 a w := G.as S1 tm1 hS ht
theorem X6 {c : Nat} {x y : Code} (G : A6 φ ψ w0 F N m ρ0 ρ S tm a w) (b : Bool) (hc : B2 tm c = some (.v (.bool b))) (ht : b = true → x.wp P Q a w) (hf : b = false → y.wp P Q a w) : (Code.cond (.tmp c) x y).wp P Q a w := by
 have h := G.tmv c _ hc
 refine wp_cond_split (t := b) ?_ ht hf
 simp [Act.eval, Array.getD_eq_getD_getElem?, h, AV.val]
theorem aP1 {c : Nat} {x y : Code} (G : A6 φ ψ w0 F N m ρ0 ρ S tm a w) (b : Bool) (hc : B2 tm c = some (.v (.bool b))) (hb : b = true) (h : x.wp P Q a w) : (Code.cond (.tmp c) x y).wp P Q a w := X6 G b hc (fun _ => h) fun hf => by rw [hb] at hf; cases hf
theorem aP2 {c : Nat} {x y : Code} (G : A6 φ ψ w0 F N m ρ0 ρ S tm a w) (b : Bool) (hc : B2 tm c = some (.v (.bool b))) (hb : b = false) (h : y.wp P Q a w) : (Code.cond (.tmp c) x y).wp P Q a w := X6 G b hc (fun ht => by rw [hb] at ht; cases ht) fun _ => h
def aC8 (P : Program) (tm : Nat → Option AV) (S : Nat → It) : List ResultVar → Option (List AV)
 | [] => some []
 | .tmp t :: r =>
  match tm t, aC8 P tm S r with
  | some x, some l => some (x :: l)
  | _, _ => none
 | .cell t ty :: r =>
  match tm t, aC8 P tm S r with
  | some (.ptr b off), some l =>
   match S b with
   | .box cs => (aA1 P ty ((cs.drop off).take (ag7 P ty))).map fun x => x :: l
   | _ => none
  | _, _ => none
def aC9 (P : Program) (fn : Func) (tm : List (Nat × AV)) (S : List It) : Option AV :=
 match aC8 P (B2 tm) (t6 S) fn.results.toList with
 | some [x] => some x
 | some l => some (.tup l)
 | none => none
theorem aT9 {cs : List AV} {ty : TypeId} {b off : Nat} {x : AV} (hB : I9 w b (AV.vals ρ cs)) (h : aA1 P ty ((cs.drop off).take (ag7 P ty)) = some x) : (loadVar ty ⟨b, off, none⟩).run P w = .ok (x.val ρ) w :=
 Y4 h ⟨b, off, none⟩ fun j u hj => by
  rw [AV.vals_take, AV.vals_drop] at hj
  have hadd : (⟨b, off, none⟩ : Addr).add j = ⟨b, off + j, none⟩ := by unfold Addr.add; split <;> simp_all
  rw [hadd, hB.cell]
  rw [List.getElem?_take] at hj
  split at hj
  ·rw [List.getElem?_drop] at hj; exact hj
  ·cases hj
theorem as5 (G : A6 φ ψ w0 F N m ρ0 ρ S tm a w) : ∀ {rs : List ResultVar} {l : List AV}, aC8 P (B2 tm) (t6 S) rs = some l →
  (rs.mapM (fun r => (match r with | .tmp t => pure (a.tmps.getD t undef) | .cell b t => do loadVar t (← asAddr (a.tmps.getD b undef)) : Sem Value))).run P w = .ok (AV.vals ρ l) w
 | [], l, h => by cases h; simp [AV.vals]
 | .tmp t :: r, l, h => by
  simp only [aC8] at h
  split at h
  case h_2 => cases h
  rename_i x l' h1 h2
  cases h
  have ht := G.tmv t x h1
  have ih := as5 G h2
  have e : (pure (a.tmps.getD t undef) : Sem Value).run P w = .ok (x.val ρ) w := by simp [Array.getD_eq_getD_getElem?, ht]
  rw [List.mapM_cons, Sem.run_bind, e, Result.andThen_ok, Sem.run_bind, ih]
  rfl
 | .cell t ty :: r, l, h => by
  simp only [aC8] at h
  split at h
  case h_2 => cases h
  rename_i b off l' h1 h2
  split at h
  case h_2 => cases h
  rename_i cs hS
  obtain ⟨x, h3, h4⟩ := bb9.1 h
  subst h4
  have ht := G.tmv t _ h1
  have ih := as5 G h2
  have hl := aT9 (P := P) (G.mem.boxAt hS) h3
  have e : (do loadVar ty (← asAddr (a.tmps.getD t undef)) : Sem Value).run P w = .ok (x.val ρ) w := by
   rw [show a.tmps.getD t undef = .pointer (some ⟨N1 (ρ b), off, none⟩) by simp [Array.getD_eq_getD_getElem?, ht, AV.val]]
   simp [asAddr, hl]
  rw [List.mapM_cons, Sem.run_bind, e, Result.andThen_ok, Sem.run_bind, ih]
  rfl
theorem a30 {fn : Func} {R : Ending → World → Prop} {v : AV} (G : A6 φ ψ w0 F N m ρ0 ρ S tm a w) (h : aC9 P fn tm S = some v) (hR : R (.returned (v.val ρ)) w) : bodyPost P fn R .ret a w := by
 refine ⟨G.defs, v.val ρ, ?_, hR⟩
 unfold aC9 at h
 cases hl : aC8 P (B2 tm) (t6 S) fn.results.toList with
 | none => rw [hl] at h; cases h
 | some l =>
  rw [hl] at h
  have := as5 G hl
  unfold results
  rw [Sem.run_bind, Array.mapM_eq_mapM_toList, Sem.run_map]
  erw [this]
  simp only [Result.andThen_ok, Sem.run_pure]
  match l, h with
  | [], h => cases h; rfl
  | [x], h => cases h; rfl
  | x :: y :: r, h => cases h; rfl
def an5 (i : Nat) : List AV → List (Nat × AV)
 | [] => []
 | x :: r => (i, x) :: an5 (i + 1) r
theorem aA2 (ρ : Nat → Value) : ∀ {l : List AV} {i t : Nat} {x : AV}, B2 (an5 i l) t = some x → i ≤ t ∧ (AV.vals ρ l)[t - i]? = some (x.val ρ)
 | [], _, _, _, h => by cases h
 | y :: r, i, t, x, h => by
  simp only [an5, B2, natEq, beq_iff_eq] at h
  split at h
  ·rename_i e; subst e; cases h; exact ⟨bc1 _, by simp [AV.vals]⟩
  ·obtain ⟨h1, h2⟩ := aA2 ρ h
   refine ⟨by omega, ?_⟩
   rw [show t - i = (t - (i + 1)) + 1 by omega]
   simpa [AV.vals] using h2
def aG0 (φ ψ : Nat → Prop) (w0 : World) (F : ι → Rs) (ρ0 : Nat → Value) (c : t7) (x : Ending) (w' : World) : Prop := ∃ ρ', (∀ i, i < c.pre.length → ρ' i = ρ0 i) ∧ x = .returned (c.res.val ρ') ∧ l8 φ ψ w0 w' (n9 F ρ' (t6 c.post))
theorem aP0 {c : t7} {fn : Func} {code : Code} (N : Nat) (hf : P.funcs[c.f]? = some fn) (hb : fn.body = some code) (hN : fn.ntmps = N) (hw : (wfB c.pre (an5 0 c.args) && decide (c.args.length ≤ N)) = true)
  (k : ∀ {ι : Type} (φ ψ : Nat → Prop) (w0 w : World) (F : ι → Rs) (ρ0 ρ : Nat → Value) (a : Act), A6 φ ψ w0 F N c.pre.length ρ0 ρ c.pre (an5 0 c.args) a w → code.wp P (bodyPost P fn (aG0 φ ψ w0 F ρ0 c)) a w) : c.ok P := by
 intro ι φ ψ w0 w F ρ M
 simp only [bb8, decide_eq_true_eq] at hw
 obtain ⟨b1, b2⟩ := aZ8 hw.1
 refine calls_of_wp hf hb (k φ ψ w0 w F ρ ρ _ ⟨?_, rfl, fun t x hx => ?_, b2, b1, M, bc1 _, fun _ _ => rfl⟩)
 ·simp [AV.vals_length, hN]; omega
 ·obtain ⟨_, h1⟩ := aA2 ρ hx
  rw [Nat.sub_zero] at h1
  have hlt := (bc0.1 h1).1
  rw [Array.getElem?_append_left (by simpa using hlt)]
  simpa using h1
theorem as0 {fn : Func} {c : t7} {v : AV} (G : A6 φ ψ w0 F N c.pre.length ρ0 ρ S tm a w) (js : List Nat) (h : aC9 P fn tm S = some v) (hb : Y5 c.pre.length js c.post [] = true) (hS : js.map (t6 S) = c.post.map (It.ren (nth js))) (hv : v = c.res.ren (nth js)) : bodyPost P fn (aG0 φ ψ w0 F ρ0 c) .ret a w := by
 have G1 := Inn.sel G js c.post [] hb hS rfl
 refine a30 G h ⟨fun i => ρ (nth js i), G1.old, ?_, G1.mem⟩
 rw [hv, AV.val_ren]
theorem b5 {K : Act → World → Prop} (h : K a w) : Exit.then K Q .normal a w := h
theorem C7 {K : Act → World → Prop} {id : Nat} (h : Q (.exit id) a w) : Exit.then K Q (.exit id) a w := h
theorem m5 {K : Act → World → Prop} (h : Q .ret a w) : Exit.then K Q .ret a w := h
theorem G7 {id : Nat} (h : Q .normal a w) : Exit.inBlock id Q .normal a w := h
theorem D3 {id : Nat} (h : Q .ret a w) : Exit.inBlock id Q .ret a w := h
theorem C5 {id : Nat} (h : Q .normal a w) : Exit.inBlock id Q (.exit id) a w := by simp only [Exit.inBlock, if_true]; exact h
theorem w64 {x : Int} (h1 : -9223372036854775808 ≤ x) (h2 : x ≤ 9223372036854775807) : IntKind.i64.wrap x = x := IntWalk.i64_in x ⟨h1, h2⟩
theorem rT {c : Nat} {x y : Code} (G : A6 φ ψ w0 F N m ρ0 ρ S tm a w) (b : Bool) (hb : b = true) (h : x.wp P Q a w) (hc : B2 tm c = some (.v (.bool b)) := by kernel_rfl) : (Code.cond (.tmp c) x y).wp P Q a w := aP1 G b hc hb h
theorem rF {c : Nat} {x y : Code} (G : A6 φ ψ w0 F N m ρ0 ρ S tm a w) (b : Bool) (hb : b = false) (h : y.wp P Q a w) (hc : B2 tm c = some (.v (.bool b)) := by kernel_rfl) : (Code.cond (.tmp c) x y).wp P Q a w := aP2 G b hc hb h
theorem D2 {κ : Type} {c : Code} (pre : κ → Prop) (μ : κ → Nat) (Sk : κ → List It) (Tk : κ → List (Nat × AV)) (k0 : κ) (hp : pre k0) (G : A6 φ ψ w0 F N m ρ0 ρ (Sk k0) (Tk k0) a w)
  (round : ∀ k ρ a w, pre k → A6 φ ψ w0 F N m ρ0 ρ (Sk k) (Tk k) a w → c.wp P (Exit.then (fun a' w' => ∃ k' ρ', pre k' ∧ μ k' < μ k ∧ A6 φ ψ w0 F N m ρ0 ρ' (Sk k') (Tk k') a' w') Q) a w) : (Code.loop c).wp P Q a w := by
 refine wp_loop_ghost (fun n a w => ∃ k ρ, μ k = n ∧ pre k ∧ A6 φ ψ w0 F N m ρ0 ρ (Sk k) (Tk k) a w) (μ k0) ⟨k0, ρ, rfl, hp, G⟩ ?_
 rintro n a w ⟨k, ρ, rfl, hk, Gk⟩
 refine wp_mono (round k ρ a w hk Gk) ?_
 intro e a' w' hq
 cases e with
 | normal =>
  obtain ⟨k', ρ', h1, h2, h3⟩ := hq
  exact ⟨μ k', h2, k', ρ', rfl, h1, h3⟩
 | _ => exact hq
theorem aW0 {κ : Type} {pre : κ → Prop} {μ : κ → Nat} {Sk : κ → List It} {Tk : κ → List (Nat × AV)} {k : κ} (G : A6 φ ψ w0 F N m ρ0 ρ S tm a w) (k' : κ) (hp : pre k') (hμ : μ k' < μ k) (js : List Nat) (S1 : List It) (tm1 : List (Nat × AV)) (hs1 : Sk k' = S1) (ht1 : Tk k' = tm1)
  (hb : Y5 m js S1 tm1 = true) (hS : js.map (t6 S) = S1.map (It.ren (nth js))) (ht : (tm1.map (·.1)).map (B2 tm) = tm1.map fun p => some (p.2.ren (nth js))) :
  ∃ k' ρ', pre k' ∧ μ k' < μ k ∧ A6 φ ψ w0 F N m ρ0 ρ' (Sk k') (Tk k') a w := by
 subst hs1; subst ht1
 exact ⟨k', _, hp, hμ, Inn.sel G js _ _ hb hS ht⟩
theorem A6.len (G : A6 φ ψ w0 F N m ρ0 ρ S tm a w) (i : Nat) {d : D} (h : itD (t6 S i) = some d) : d.len ≤ 9223372036854775807 := by
 obtain ⟨_, cap, _, h1, h2, _⟩ := G.mem.sliceAt h
 unfold maxLen at h2; omega
end
def dkP (t : TypeId) : Nat :=
 if natEq t 3 then 1 else
 if natEq t 4 then 2 else
 if natEq t 5 then 3 else
 if natEq t 9 then 4 else
 if natEq t 166 then 5 else
 if natEq t 54 then 6 else
 if natEq t 23 then 7 else
 if natEq t 42 then 8 else
 if natEq t 59 then 9 else
 if natEq t 161 then 10 else
 0
abbrev eA (e : k5) (r : Nat) : AV := .agg [.v (.int .i64 e.kind), .v (.int .i64 e.value), .ref r]
abbrev eS (e : k5) : List It := [.dat (.exprs e.kids)]
abbrev sA (s : b6) (r : Nat) : AV := .agg [.v (.int .i64 s.kind), .v (.int .i64 s.target), .v (.int .i64 s.index.kind), .v (.int .i64 s.index.value), .ref r, .v (.int .i64 s.value.kind), .v (.int .i64 s.value.value), .ref (r + 1), .v (.int .i64 s.count), .ref (r + 2), .ref (r + 3)]
abbrev sS (s : b6) : List It := [.dat (.exprs s.index.kids), .dat (.exprs s.value.kids), .dat (.stmts s.body), .dat (.stmts s.els)]
abbrev pA (r : Nat) : AV := .agg [.ref r, .ref (r + 1), .ref (r + 2)]
abbrev pS (p : l6) : List It := [.dat (.ints p.vars), .dat (.ints p.arrays), .dat (.stmts p.body)]
abbrev iA (n : Int) : AV := .v (.int .i64 n)
abbrev bA (b : Bool) : AV := .v (.bool b)
abbrev N0 (f : FuncId) (args : List AV) (S : List It) (res : AV) : t7 := ⟨f, args, S, S, res⟩
abbrev dI (l : List Int) : It := .dat (.ints l)
abbrev dR (l : List (List Int)) : It := .dat (.rows l)
abbrev dE (l : List k5) : It := .dat (.exprs l)
abbrev dT (l : List b6) : It := .dat (.stmts l)
abbrev eL (e : k5) (r : Nat) : List AV := [.v (.int .i64 e.kind), .v (.int .i64 e.value), .ref r]
abbrev sL (s : b6) (r : Nat) : List AV := [.v (.int .i64 s.kind), .v (.int .i64 s.target), .v (.int .i64 s.index.kind), .v (.int .i64 s.index.value), .ref r, .v (.int .i64 s.value.kind), .v (.int .i64 s.value.value), .ref (r + 1), .v (.int .i64 s.count), .ref (r + 2), .ref (r + 3)]
abbrev pL (r : Nat) : List AV := [.ref r, .ref (r + 1), .ref (r + 2)]
section
variable {P : Program} {ι : Type} {φ ψ : Nat → Prop} {w0 w w' : World} {F : ι → Rs} {ρ ρ0 : Nat → Value} {N m n : Nat} {S : List It} {tm : List (Nat × AV)} {a : Act} {Q : Exit → Act → World → Prop}
end
theorem k5.eta (e : k5) : (⟨e.kind, e.value, e.kids⟩ : k5) = e := by cases e; rfl
theorem b6.eta (s : b6) : (⟨s.kind, s.target, s.index, s.value, s.count, s.body, s.els⟩ : b6) = s := by cases s; rfl
section
variable {ι : Type} {P : Program} {φ ψ : Nat → Prop} {w0 w : World} {F : ι → Rs} {N m : Nat} {ρ0 ρ : Nat → Value} {S : List It} {tm : List (Nat × AV)} {a : Act}
theorem rxr {fn : Func} {c : t7} (G : A6 φ ψ w0 F N c.pre.length ρ0 ρ S tm a w) (js : List Nat) (hS : js.map (t6 S) = c.post.map (It.ren (nth js)) := by kernel_rfl) (h : aC9 P fn tm S = some (c.res.ren (nth js)) := by kernel_rfl) (hb : Y5 c.pre.length js c.post [] = true := by kernel_rfl) : bodyPost P fn (aG0 φ ψ w0 F ρ0 c) .ret a w := as0 G js h hb hS rfl
theorem rxv {fn : Func} {c : t7} (v : AV) (G : A6 φ ψ w0 F N c.pre.length ρ0 ρ S tm a w) (js : List Nat) (hv : v = c.res.ren (nth js)) (hS : js.map (t6 S) = c.post.map (It.ren (nth js)) := by kernel_rfl) (h : aC9 P fn tm S = some v := by kernel_rfl) (hb : Y5 c.pre.length js c.post [] = true := by kernel_rfl) : bodyPost P fn (aG0 φ ψ w0 F ρ0 c) .ret a w := as0 G js h hb hS hv
theorem rxn {κ : Type} {pre : κ → Prop} {μ : κ → Nat} {Sk : κ → List It} {Tk : κ → List (Nat × AV)} {k : κ} (G : A6 φ ψ w0 F N m ρ0 ρ S tm a w) (k' : κ) (hp : pre k') (hμ : μ k' < μ k) (js : List Nat) (hS : js.map (t6 S) = (Sk k').map (It.ren (nth js)) := by kernel_rfl) (ht : ((Tk k').map (·.1)).map (B2 tm) = (Tk k').map (fun p => some (p.2.ren (nth js))) := by kernel_rfl) (hb : Y5 m js (Sk k') (Tk k') = true := by kernel_rfl) : ∃ k' ρ', pre k' ∧ μ k' < μ k ∧ A6 φ ψ w0 F N m ρ0 ρ' (Sk k') (Tk k') a w := aW0 G k' hp hμ js _ _ rfl rfl hb hS ht
theorem A8 {fn : Func} {f : FuncId} {args : List AV} {pre post : List It} {x : Bool} (y : Bool) (G : A6 φ ψ w0 F N pre.length ρ0 ρ S tm a w) (js : List Nat) (e : x = y) (hS : js.map (t6 S) = post.map (It.ren (nth js)) := by kernel_rfl) (h : aC9 P fn tm S = some (bA y) := by kernel_rfl) (hb : Y5 pre.length js post [] = true := by kernel_rfl) : bodyPost P fn (aG0 φ ψ w0 F ρ0 ⟨f, args, pre, post, bA x⟩) .ret a w := as0 (c := ⟨f, args, pre, post, bA x⟩) G js h hb hS (by rw [e]; rfl)
theorem Z4 {fn : Func} {f : FuncId} {args : List AV} {pre post : List It} {x : Int} (y : Int) (G : A6 φ ψ w0 F N pre.length ρ0 ρ S tm a w) (js : List Nat) (e : x = y) (hS : js.map (t6 S) = post.map (It.ren (nth js)) := by kernel_rfl) (h : aC9 P fn tm S = some (iA y) := by kernel_rfl) (hb : Y5 pre.length js post [] = true := by kernel_rfl) : bodyPost P fn (aG0 φ ψ w0 F ρ0 ⟨f, args, pre, post, iA x⟩) .ret a w := as0 (c := ⟨f, args, pre, post, iA x⟩) G js h hb hS (by rw [e]; rfl)
end
abbrev wO (x : Int) : Prop := IntKind.i64.wrap x = x
theorem oW {x : Int} (h : -9223372036854775808 ≤ x ∧ x ≤ 9223372036854775807) : wO x := w64 h.1 h.2
theorem o1 {x : Int} (h : -9223372036854775808 ≤ x ∧ x ≤ 9223372036854775807) : t5 [wO x] := ⟨oW h, bc4⟩
theorem o2 {x y : Int} (h : (-9223372036854775808 ≤ x ∧ x ≤ 9223372036854775807) ∧ -9223372036854775808 ≤ y ∧ y ≤ 9223372036854775807) : t5 [wO x, wO y] := ⟨oW h.1, oW h.2, bc4⟩
theorem o3 {x y z : Int} (h : (-9223372036854775808 ≤ x ∧ x ≤ 9223372036854775807) ∧ (-9223372036854775808 ≤ y ∧ y ≤ 9223372036854775807) ∧ -9223372036854775808 ≤ z ∧ z ≤ 9223372036854775807) : t5 [wO x, wO y, wO z] := ⟨oW h.1, oW h.2.1, oW h.2.2, bc4⟩
theorem o4 {x y z u : Int} (h : (-9223372036854775808 ≤ x ∧ x ≤ 9223372036854775807) ∧ (-9223372036854775808 ≤ y ∧ y ≤ 9223372036854775807) ∧ (-9223372036854775808 ≤ z ∧ z ≤ 9223372036854775807) ∧ -9223372036854775808 ≤ u ∧ u ≤ 9223372036854775807) : t5 [wO x, wO y, wO z, wO u] := ⟨oW h.1, oW h.2.1, oW h.2.2.1, oW h.2.2.2, bc4⟩
abbrev aP (n b : Nat) (r : List Prop) : List Prop := (n ≤ 9223372036854775807) :: (n * b ≤ 140737488355328) :: r
theorem aK {n b : Nat} {r : List Prop} (h : n ≤ 100000000000) (k : t5 r) (hb : b ≤ 1000 := by decide) : t5 (aP n b r) := ⟨by omega, be0 (Nat.mul_le_mul h hb) (by decide), k⟩
abbrev iX (x : Int) (n l : Nat) (r : List Prop) : List Prop := (0 ≤ x) :: (x < (l : Int)) :: (n < l) :: r
theorem iK {x : Int} {n l : Nat} {r : List Prop} (h : 0 ≤ x ∧ x < (l : Int) ∧ n < l) (k : t5 r) : t5 (iX x n l r) := ⟨h.1, h.2.1, h.2.2, k⟩
abbrev mR (js : List Nat) (l : List It) : List It := List.map (It.ren (nth js)) l
theorem fz : J8 [] := bc4
theorem fc {a b : Bool} {r : List (Bool × Bool)} (h : a = b) (k : J8 r) : J8 ((a, b) :: r) := ⟨h, k⟩
abbrev qzE (e : k5) : k5 := k5.mk e.kind e.value e.kids
def kL (P : Program) (N m : Nat) (l : List Oper) (H : L0) (tm : List (Nat × AV)) (S : List It) (js : List Nat) (S1 : List It) (t1 : List (Nat × AV)) := ((N8 P dkP N l H l 0 tm (t6 S) S.length).isSome && Y5 m js S1 t1, aw8 (N8 P dkP N l H l 0 tm (t6 S) S.length) js (t1.map (·.1)))
def kR (P : Program) (N : Nat) (l : List Oper) (H : L0) (tm : List (Nat × AV)) (S : List It) (o : List Prop) (js : List Nat) (S1 : List It) (t1 : List (Nat × AV)) := (true, aD3 (N8 P dkP N l H l 0 tm (t6 S) S.length) o js S1 t1)
def kM (P : Program) (N m : Nat) (l : List Oper) (H : L0) (ms : List Nat) (tm : List (Nat × AV)) (S : List It) (js : List Nat) (S1 : List It) (t1 : List (Nat × AV)) := (aJ0 l ms S.length (t6 S) (N8 P dkP N l H l 0 tm (t6 S) S.length) && Y5 m js S1 t1, aw8 (N8 P dkP N l H l 0 tm (t6 S) S.length) js (t1.map (·.1)))
theorem M4 {P : Program} {c : t7} {fn : Func} {code : Code} (N : Nat) (hf : P.funcs[c.f]? = some fn) (S : List It) (tm : List (Nat × AV)) (k : ∀ {ι : Type} {φ ψ : Nat → Prop} {w0 w : World} {F : ι → Rs} {ρ0 ρ : Nat → Value} {a : Act}, A6 φ ψ w0 F N c.pre.length ρ0 ρ S tm a w → code.wp P (bodyPost P fn (aG0 φ ψ w0 F ρ0 c)) a w) (hb : fn.body = some code := by rfl) (hN : (fn.ntmps, c.pre, an5 0 c.args) = (N, S, tm) := by kernel_rfl) (hw : (wfB c.pre (an5 0 c.args) && decide (c.args.length ≤ N)) = true := by kernel_rfl) : c.ok P := by
 simp only [Prod.mk.injEq] at hN
 obtain ⟨h1, h2, h3⟩ := hN
 exact aP0 N hf hb h1 hw fun φ ψ w0 w F ρ0 ρ a G => k (ρ := ρ) (G.as S tm h2 h3)
def aT (x y : List (Nat × AV)) : List (Nat × AV) := x ++ y.filter fun p => !(x.any fun q => natEq q.1 p.1)
def HH (P : Program) (H : L0) : Prop := (∀ i c τ, H1 H.calls i = some (c, τ) → c.ok P) ∧ J8 H.facts
theorem l5 {P : Program} : HH P ⟨[], [], []⟩ := ⟨Y3, bc4⟩
theorem Q8 {P : Program} {c : t7} (i : Nat) (σ : List Nat) (h : c.ok P) : HH P ⟨[(i, c, σ)], [], []⟩ := ⟨am4 h Y3, bc4⟩
theorem L9 {P : Program} {f : List (Bool × Bool)} (h : J8 f) (u : List (Nat × Nat)) : HH P ⟨[], f, u⟩ := ⟨Y3, h⟩
def Cs (P : Program) (r : List (Nat × t7 × List Nat)) : Prop := ∀ i c τ, H1 r i = some (c, τ) → c.ok P
theorem E3 {P : Program} : Cs P [] := Y3
theorem A3 {P : Program} {c : t7} {r : List (Nat × t7 × List Nat)} (i : Nat) (σ : List Nat) (h : c.ok P) (k : Cs P r) : Cs P ((i, c, σ) :: r) := am4 h k
theorem E4 {P : Program} {r : List (Nat × t7 × List Nat)} {f : List (Bool × Bool)} (h : Cs P r) (h' : J8 f) (u : List (Nat × Nat)) : HH P ⟨r, f, u⟩ := ⟨h, h'⟩
section
variable {ι : Type} {P : Program} {φ ψ : Nat → Prop} {w0 w : World} {F : ι → Rs} {N m : Nat} {ρ0 ρ : Nat → Value} {S : List It} {tm : List (Nat × AV)} {a : Act} {l : List Oper} {id : Nat} {Q : Exit → Act → World → Prop} {H : L0}
theorem rA1 (G : A6 φ ψ w0 F N m ρ0 ρ S tm a w) (hh : HH P H) (js : List Nat) (S1 : List It) (t1 : List (Nat × AV)) (o : List Prop) (ho : t5 o) (k : ∀ {ρ' a' w'}, A6 φ ψ w0 F N m ρ0 ρ' S1 t1 a' w' → Q .normal a' w') (h : kL P N m l H tm S js S1 t1 = kR P N l H tm S o js S1 t1 := by kernel_rfl) : (Code.region id l.toArray false).wp P Q a w := rs1 (dk := dkP) G H hh.1 hh.2 js S1 t1 o ho (fun _ _ _ => k) (congrArg Prod.fst h) (congrArg Prod.snd h)
theorem B3 (G : A6 φ ψ w0 F N m ρ0 ρ S tm a w) (hh : HH P H) (js : List Nat) (S1 : List It) (t1 : List (Nat × AV)) (k : ∀ {ρ' a' w'}, A6 φ ψ w0 F N m ρ0 ρ' S1 t1 a' w' → Q .normal a' w') (h : kL P N m l H tm S js S1 t1 = kR P N l H tm S [] js S1 t1 := by kernel_rfl) : (Code.region id l.toArray false).wp P Q a w := rA1 G hh js S1 t1 [] bc4 k h
theorem rB1 (G : A6 φ ψ w0 F N m ρ0 ρ S tm a w) (hh : HH P H) (t1 : List (Nat × AV)) (o : List Prop) (ho : t5 o) (k : ∀ {ρ' a' w'}, A6 φ ψ w0 F N m ρ0 ρ' S t1 a' w' → Q .normal a' w') (h : kL P N m l H tm S (bc6 S.length) S t1 = kR P N l H tm S o (bc6 S.length) S t1 := by kernel_rfl) : (Code.region id l.toArray false).wp P Q a w := rs1 (dk := dkP) G H hh.1 hh.2 (bc6 S.length) S t1 o ho (fun _ _ _ => k) (congrArg Prod.fst h) (congrArg Prod.snd h)
theorem Q3 (G : A6 φ ψ w0 F N m ρ0 ρ S tm a w) (hh : HH P H) (t1 : List (Nat × AV)) (k : ∀ {ρ' a' w'}, A6 φ ψ w0 F N m ρ0 ρ' S t1 a' w' → Q .normal a' w') (h : kL P N m l H tm S (bc6 S.length) S t1 = kR P N l H tm S [] (bc6 S.length) S t1 := by kernel_rfl) : (Code.region id l.toArray false).wp P Q a w := rB1 G hh t1 [] bc4 k h
theorem K0 (G : A6 φ ψ w0 F N m ρ0 ρ S tm a w) (hh : HH P H) (t1 : List (Nat × AV)) (o : List Prop) (ho : t5 o) (k : ∀ {ρ' a' w'}, A6 φ ψ w0 F N m ρ0 ρ' S (aT t1 tm) a' w' → Q .normal a' w') (h : kL P N m l H tm S (bc6 S.length) S (aT t1 tm) = kR P N l H tm S o (bc6 S.length) S (aT t1 tm) := by kernel_rfl) : (Code.region id l.toArray false).wp P Q a w := rs1 (dk := dkP) G H hh.1 hh.2 (bc6 S.length) S (aT t1 tm) o ho (fun _ _ _ => k) (congrArg Prod.fst h) (congrArg Prod.snd h)
theorem m7 (G : A6 φ ψ w0 F N m ρ0 ρ S tm a w) (hh : HH P H) (t1 : List (Nat × AV)) (k : ∀ {ρ' a' w'}, A6 φ ψ w0 F N m ρ0 ρ' S (aT t1 tm) a' w' → Q .normal a' w') (h : kL P N m l H tm S (bc6 S.length) S (aT t1 tm) = kR P N l H tm S [] (bc6 S.length) S (aT t1 tm) := by kernel_rfl) : (Code.region id l.toArray false).wp P Q a w := K0 G hh t1 [] bc4 k h
theorem a69 (G : A6 φ ψ w0 F N m ρ0 ρ S tm a w) (hh : HH P H) (ms : List Nat) (js : List Nat) (S1 : List It) (t1 : List (Nat × AV)) (o : List Prop) (ho : t5 o) (k : ∀ {ρ' a' w'}, A6 φ ψ w0 F N m ρ0 ρ' S1 t1 a' w' → Q .normal a' w') (hm : P.follows .mixedOrders = true := by kernel_rfl) (h : kM P N m l H ms tm S js S1 t1 = kR P N l H tm S o js S1 t1 := by kernel_rfl) : (Code.region id l.toArray true).wp P Q a w := rd1 (dk := dkP) G H hh.1 hh.2 ms js S1 t1 o ho (fun _ _ _ => k) hm (congrArg Prod.fst h) (congrArg Prod.snd h)
theorem a70 (G : A6 φ ψ w0 F N m ρ0 ρ S tm a w) (hh : HH P H) (ms : List Nat) (js : List Nat) (S1 : List It) (t1 : List (Nat × AV)) (k : ∀ {ρ' a' w'}, A6 φ ψ w0 F N m ρ0 ρ' S1 t1 a' w' → Q .normal a' w') (hm : P.follows .mixedOrders = true := by kernel_rfl) (h : kM P N m l H ms tm S js S1 t1 = kR P N l H tm S [] js S1 t1 := by kernel_rfl) : (Code.region id l.toArray true).wp P Q a w := a69 G hh ms js S1 t1 [] bc4 k hm h
theorem ba5 (G : A6 φ ψ w0 F N m ρ0 ρ S tm a w) (hh : HH P H) (ms : List Nat) (t1 : List (Nat × AV)) (o : List Prop) (ho : t5 o) (k : ∀ {ρ' a' w'}, A6 φ ψ w0 F N m ρ0 ρ' S t1 a' w' → Q .normal a' w') (hm : P.follows .mixedOrders = true := by kernel_rfl) (h : kM P N m l H ms tm S (bc6 S.length) S t1 = kR P N l H tm S o (bc6 S.length) S t1 := by kernel_rfl) : (Code.region id l.toArray true).wp P Q a w := rd1 (dk := dkP) G H hh.1 hh.2 ms (bc6 S.length) S t1 o ho (fun _ _ _ => k) hm (congrArg Prod.fst h) (congrArg Prod.snd h)
theorem ba6 (G : A6 φ ψ w0 F N m ρ0 ρ S tm a w) (hh : HH P H) (ms : List Nat) (t1 : List (Nat × AV)) (k : ∀ {ρ' a' w'}, A6 φ ψ w0 F N m ρ0 ρ' S t1 a' w' → Q .normal a' w') (hm : P.follows .mixedOrders = true := by kernel_rfl) (h : kM P N m l H ms tm S (bc6 S.length) S t1 = kR P N l H tm S [] (bc6 S.length) S t1 := by kernel_rfl) : (Code.region id l.toArray true).wp P Q a w := ba5 G hh ms t1 [] bc4 k hm h
theorem aK4 (G : A6 φ ψ w0 F N m ρ0 ρ S tm a w) (hh : HH P H) (ms : List Nat) (t1 : List (Nat × AV)) (o : List Prop) (ho : t5 o) (k : ∀ {ρ' a' w'}, A6 φ ψ w0 F N m ρ0 ρ' S (aT t1 tm) a' w' → Q .normal a' w') (hm : P.follows .mixedOrders = true := by kernel_rfl) (h : kM P N m l H ms tm S (bc6 S.length) S (aT t1 tm) = kR P N l H tm S o (bc6 S.length) S (aT t1 tm) := by kernel_rfl) : (Code.region id l.toArray true).wp P Q a w := rd1 (dk := dkP) G H hh.1 hh.2 ms (bc6 S.length) S (aT t1 tm) o ho (fun _ _ _ => k) hm (congrArg Prod.fst h) (congrArg Prod.snd h)
theorem aP7 (G : A6 φ ψ w0 F N m ρ0 ρ S tm a w) (hh : HH P H) (ms : List Nat) (t1 : List (Nat × AV)) (k : ∀ {ρ' a' w'}, A6 φ ψ w0 F N m ρ0 ρ' S (aT t1 tm) a' w' → Q .normal a' w') (hm : P.follows .mixedOrders = true := by kernel_rfl) (h : kM P N m l H ms tm S (bc6 S.length) S (aT t1 tm) = kR P N l H tm S [] (bc6 S.length) S (aT t1 tm) := by kernel_rfl) : (Code.region id l.toArray true).wp P Q a w := aK4 G hh ms t1 [] bc4 k hm h
variable {c : Nat} {x y : Code}
theorem rcB {b : Bool} (G : A6 φ ψ w0 F N m ρ0 ρ S tm a w) (f : b = false → y.wp P Q a w) (t : b = true → x.wp P Q a w) (h : B2 tm c = some (.v (.bool b)) := by rfl) : (Code.cond (.tmp c) x y).wp P Q a w := X6 G b h t f
theorem rcE {α : Type} [BEq α] [LawfulBEq α] {u v : α} (G : A6 φ ψ w0 F N m ρ0 ρ S tm a w) (f : (u == v) = false → u ≠ v → y.wp P Q a w) (t : (u == v) = true → u = v → x.wp P Q a w) (h : B2 tm c = some (.v (.bool (u == v))) := by rfl) : (Code.cond (.tmp c) x y).wp P Q a w := X6 G _ h (fun q => t q (eq_of_beq q)) fun q => f q (ne_of_beq_false q)
theorem rcN {α : Type} [BEq α] [LawfulBEq α] {u v : α} (G : A6 φ ψ w0 F N m ρ0 ρ S tm a w) (f : (u != v) = false → u = v → y.wp P Q a w) (t : (u != v) = true → u ≠ v → x.wp P Q a w) (h : B2 tm c = some (.v (.bool (u != v))) := by rfl) : (Code.cond (.tmp c) x y).wp P Q a w := X6 G _ h (fun q => t q (bne_iff_ne.1 q)) fun q => f q (bne_eq_false_iff_eq.1 q)
theorem rcD {p : Prop} [Decidable p] (G : A6 φ ψ w0 F N m ρ0 ρ S tm a w) (f : decide p = false → ¬ p → y.wp P Q a w) (t : decide p = true → p → x.wp P Q a w) (h : B2 tm c = some (.v (.bool (decide p))) := by rfl) : (Code.cond (.tmp c) x y).wp P Q a w := X6 G _ h (fun q => t q (Y8 q)) fun q => f q (Y9 q)
end
section
variable {P : Program} {f : FuncId}
theorem U0 {args : List AV} {S : List It} {x : Value} (h : ∀ (φ : Nat → Prop) (w : World) (ρ : Nat → Value), (∀ i d, t6 S i = .dat d → RD w φ d (ρ i)) → Calls P f (AV.vals ρ args).toArray w fun e w' => e = .returned x ∧ Below w.heap.size w w') : t7.ok P (N0 f args S (.v x)) := by
 intro ι φ ψ w0 w F ρ M
 refine (h (R5 φ (n9 F ρ (t6 S))) w ρ fun i d hi => M.datAt hi).mono ?_
 rintro e w' ⟨rfl, hb⟩
 exact ⟨ρ, fun _ _ => rfl, rfl, M.call hb⟩
end
theorem aH4 {w : World} {φ : Nat → Prop} {d : D} {v : Value} (h : RD w φ d v) : ∃ a cap, v = .slice a d.len cap ∧ d.len ≤ 9223372036854775807 := by
 obtain ⟨a, cap, h1, h2, h3, _⟩ := h.open
 unfold maxLen at h3
 exact ⟨a, cap, h1, by omega⟩
theorem Z7 (l : Int) : t7.ok Try.prog (N0 90 [iA l] [] (bA (v5 l))) :=
 U0 fun φ w ρ _ => (V2 l w).mono fun e w' h => ⟨h.1, h.2 ▸ Below.refl _ _⟩
theorem A1 (n lo hi : Int) : t7.ok Try.prog (N0 143 [iA n, iA lo, iA hi] [] (bA (decide (lo ≤ n) && decide (n ≤ hi)))) :=
 U0 fun φ w ρ _ => (B5 n lo hi w).mono fun e w' h => ⟨h.1, h.2 ▸ Below.refl _ _⟩
theorem af9 (p : l6) : t7.ok Try.prog (N0 140 [pA 0] (pS p) (bA (G6 p.vars p.arrays))) :=
 U0 fun φ w ρ h => ar5 (ρ 0) (ρ 1) (ρ 2) _ _ w (A5.row (h 0 _ rfl)) (A5.row (h 1 _ rfl))
theorem an2 (vs ars : List Int) : t7.ok Try.prog (N0 69 [.ref 0, .ref 1] [.dat (.ints vs), .dat (.ints ars)] (bA (G6 vs ars))) :=
 U0 fun φ w ρ h => (ao8 (ρ 0) (ρ 1) _ _ w (A5.row (h 0 _ rfl)) (A5.row (h 1 _ rfl))).mono fun e w' h => ⟨h.1, h.2 ▸ Below.refl _ _⟩
theorem M5 (p : l6) (e : k5) : t7.ok Try.prog (N0 92 [pA 0, eA e 3] (pS p ++ eS e) (bA (m9 p.vars.length p.arrays.length e))) :=
 U0 fun φ w ρ h => by
  obtain ⟨a1, c1, h1, l1⟩ := aH4 (h 0 _ rfl)
  obtain ⟨a2, c2, h2, l2⟩ := aH4 (h 1 _ rfl)
  simp only [AV.vals, AV.val, h1, h2]
  exact aL0 a1 a2 _ c1 _ c2 (ρ 2) l1 l2 e φ _ w ⟨_, rfl, h 3 _ rfl⟩
theorem ag1 (e : k5) : t7.ok Try.prog (N0 191 [eA e 0] (eS e) (bA (I6 e))) :=
 U0 fun φ w ρ h => ac9 e.kind e.value (ρ 0) w
theorem aD8 (s : b6) : nS s = 1 + nSs s.body + nSs s.els := by cases s; simp only [nS]; rfl
theorem T6 {nv na d : Nat} {s : b6} (h : s0 nv na (d + 1) s = true) : s.body.all (s0 nv na d) = true ∧ s.els.all (s0 nv na d) = true := by
 rw [s0, bb8] at h
 obtain ⟨h1, h2⟩ := h
 unfold s3 at h1
 by_cases k3 : s.kind = 3
 ·rw [if_neg (by omega), if_neg (by omega), if_pos k3] at h2
  simp only [bb8] at h2
  exact ⟨h2.1.2, h2.2⟩
 by_cases k4 : s.kind = 4
 ·rw [if_neg (by omega), if_neg (by omega), if_neg (by omega), if_pos k4] at h2
  rw [if_pos (.inr k4), if_pos k4] at h1
  simp only [bb8, decide_eq_true_eq] at h1
  exact ⟨h2, by rw [bf0 h1.2.1.1.1.1]; rfl⟩
 ·rw [if_neg (by omega)] at h1
  simp only [bb8, decide_eq_true_eq] at h1
  exact ⟨by rw [bf0 h1.1.1.1]; rfl, by rw [bf0 h1.1.1.2]; rfl⟩
theorem ap4 (s : b6) : s6 s.body ≤ szS s ∧ s6 s.els ≤ szS s := by
 rcases s with ⟨_, _, _, _, _, b, e⟩
 simp only [szS, b6.body, b6.els]
 omega
theorem ay3 {nv na : Nat} : ∀ {ss : List b6}, (∀ s ∈ ss, s0 nv na 1 s = true) → nSs ss = ss.length
 | [], _ => rfl
 | s :: r, h => by
  have h1 := T6 (h s bd3)
  have key : ∀ l : List b6, l.all (s0 nv na 0) = true → l = [] := fun l hl => by
   cases l with
   | nil => rfl
   | cons a r => simp [s0] at hl
  have h2 := ay3 (ss := r) fun x hx => h x (bd5 _ hx)
  rw [nSs, aD8, key _ h1.1, key _ h1.2, h2]
  simp [nSs]; omega
def aF9 (x y : Int) : Int := IntKind.i64.wrap ((BitVec.ofInt (IntKind.bits .i64) x &&& BitVec.ofInt (IntKind.bits .i64) y).toNat : Int)
def a97 (x y : Int) : Int := IntKind.i64.wrap ((BitVec.ofInt (IntKind.bits .i64) x ^^^ BitVec.ofInt (IntKind.bits .i64) y).toNat : Int)
theorem t7.dup {P : Program} {f : FuncId} {args args' : List AV} {S S' : List It} {d : D} {res : AV} {i : Nat} (hc : t7.ok P ⟨f, args, S ++ [.dat d], S' ++ [.dat d], res⟩) (hi : S[i]? = some (.dat d)) (hl : S'.length = S.length)
  (hS : S.all (fun x => X0 S.length x.ids) = true) (ha : ∀ ρ : Nat → Value, ρ S.length = ρ i → AV.vals ρ args = AV.vals ρ args') (hg : X0 S.length (AV.idsL args') = true) : t7.ok P ⟨f, args', S, S', res⟩ := by
 intro ι φ ψ w0 w F ρ M
 have hi' : t6 S i = .dat d := by simp [t6, hi]
 have hlt : i < S.length := (bc0.1 hi).1
 have hinv : Inv (t6 S) ρ [S.length] := fun ρ' h j => by
  by_cases hj : j < S.length
  ·refine It.res_congr _ (fun k hk => h k ?_) (.inr (.inr (h j (by simp; omega))))
   have h1 := I3 (bc8.1 hS (S[j]) (bd2 hj)) k (by simpa [t6, bc2, bb7 hj] using hk)
   simp; omega
  ·rw [show t6 S j = .none by simp only [t6, bc2, be1 (Nat.le_of_not_lt hj)]; rfl]; rfl
 obtain ⟨ρ', h1, M1, h2⟩ := M.newDat (id := S.length) (by simp [t6]) hinv (M.datAt hi')
 have e : n8 (t6 S) [(S.length, .dat d)] = t6 (S ++ [.dat d]) := by
  funext j
  simp only [n8, t6, bc2]
  by_cases hj : j = S.length
  ·subst hj; simp
  ·rw [if_neg hj]
   by_cases hj2 : j < S.length
   ·rw [be7 hj2]
   ·rw [be1 (by omega), be1 (by simp; omega)]
 rw [e] at M1
 have hρ : ρ' i = ρ i := h1 i (by simp; omega)
 have ea : AV.vals ρ args' = AV.vals ρ' args := by
  rw [ha ρ' (by rw [← h2, hρ])]
  exact (AV.vals_congr _ fun k hk => by
   have := I3 hg k hk
   exact h1 k (by simp; omega)).symm
 simp only
 rw [ea]
 refine (hc ι φ ψ w0 w F ρ' M1).mono ?_
 rintro x w' ⟨ρ2, g1, g2, M2⟩
 refine ⟨ρ2, fun k hk => ?_, g2, ?_⟩
 ·rw [g1 k (by simp; omega)]; exact h1 k (by simp; omega)
 ·refine M2.map (fun k => match k with | .inl i => some (.inl i) | .inr j => if j < S'.length then some (.inr j) else none) ?_ ?_
  ·intro k k' x h1 h2
   match k, k' with
   | .inl i, .inl i' => simp at h1 h2; rw [h1, h2]
   | .inl i, .inr j => simp at h1; subst h1; simp at h2
   | .inr j, .inl i => simp at h2; subst h2; simp at h1
   | .inr j, .inr j' => simp at h1 h2; rw [← h1.2] at h2; rw [Sum.inr.inj h2.2]
  ·intro k
   match k with
   | .inl i => exact .inl ⟨.inl i, rfl, rfl⟩
   | .inr j =>
    by_cases hj : j < S'.length
    ·refine .inl ⟨.inr j, by simp [hj], ?_⟩
     simp only [n9, t6, bc2, be7 hj]
    ·refine .inr ?_
     simp only [n9, t6, bc2, be1 (Nat.le_of_not_lt hj)]
     rfl
def pkX (b : List UInt8) (k : Int) : Int := ((b.getD (k.tmod b.length).toNat 0).toNat : Int) * 131 + ((b.getD ((k * 7 + 3).tmod b.length).toNat 0).toNat : Int) * 1117 + k * 29 + k.tdiv b.length * 53
def pk (b : List UInt8) (k n : Int) : Int :=
 if n < 1 ∨ b.length = 0 then 0 else if k < b.length then ((b.getD k.toNat 0).toNat : Int).tmod n else (a97 (pkX b k) ((pkX b k).tdiv 64)).tmod n
def nm (b : List UInt8) (k : Int) (l : List Int) : Int := l.getD (pk b k l.length).toNat 0
section
variable (b : List UInt8) (nv na : Nat) {k : Int}
end
mutual
def AV.den (t : Bool) (n : Nat) : AV → AV
 | .v x => .v x
 | .ptr a b => .ptr a b
 | .ea a b c d => .ea a b c d
 | .ref i => if !t && natEq i n then .v (.slice none 0 0) else .ref i
 | .agg l => .agg (AV.denL t n l)
 | .tup l => .tup (AV.denL t n l)
 | .fn f l => .fn f (AV.denL t n l)
 | .bm f l => .bm f (AV.denL t n l)
 | .tref i => if t && natEq i n then .v (.slice none 0 0) else .tref i
def AV.denL (t : Bool) (n : Nat) : List AV → List AV
 | [] => []
 | x :: r => x.den t n :: AV.denL t n r
end
def It.den (t : Bool) (n : Nat) : It → It
 | .box cs => .box (AV.denL t n cs)
 | x => x
mutual
theorem AV.val_den {ρ : Nat → Value} {t : Bool} {n : Nat} {z : Value} (hz : if t then D4 z = .slice none 0 0 else z = .slice none 0 0) : ∀ (x : AV), (∀ i ∈ (x.den t n).ids, i < n) → x.val (fun j => if j = n then z else ρ j) = (x.den t n).val ρ ∧ ∀ i ∈ x.ids, i < n + 1
 | .v _, _ => ⟨rfl, fun i hi => by simp [AV.ids] at hi⟩
 | .ptr a b, h => by
  have ha : a < n := h a (by simp [AV.den, AV.ids])
  refine ⟨?_, fun i hi => by simp [AV.ids] at hi; omega⟩
  simp only [AV.den, AV.val]
  rw [if_neg (by omega)]
 | .ea a b c d, h => by
  have ha : a < n := h a (by simp [AV.den, AV.ids])
  refine ⟨?_, fun i hi => by simp [AV.ids] at hi; omega⟩
  simp only [AV.den, AV.val]
  rw [if_neg (by omega)]
 | .ref a, h => by
  by_cases e : t = false ∧ a = n
  ·obtain ⟨rfl, rfl⟩ := e
   refine ⟨?_, fun i hi => by simp [AV.ids] at hi; omega⟩
   simp only [Bool.false_eq_true, if_false] at hz
   simp [AV.den, AV.val, natEq, hz]
  ·have hd : (AV.ref a).den t n = .ref a := by
    simp only [AV.den]
    rw [if_neg]
    simp [natEq]; intro h1 h2; exact e ⟨h1, h2⟩
   rw [hd] at h ⊢
   have ha : a < n := h a (by simp [AV.ids])
   refine ⟨?_, fun i hi => by simp [AV.ids] at hi; omega⟩
   simp only [AV.val]
   rw [if_neg (by omega)]
 | .tref a, h => by
  by_cases e : t = true ∧ a = n
  ·obtain ⟨rfl, rfl⟩ := e
   refine ⟨?_, fun i hi => by simp [AV.ids] at hi; omega⟩
   simp only [if_true] at hz
   simp [AV.den, AV.val, natEq, hz]
  ·have hd : (AV.tref a).den t n = .tref a := by
    simp only [AV.den]
    rw [if_neg]
    simp [natEq]; intro h1 h2; exact e ⟨h1, h2⟩
   rw [hd] at h ⊢
   have ha : a < n := h a (by simp [AV.ids])
   refine ⟨?_, fun i hi => by simp [AV.ids] at hi; omega⟩
   simp only [AV.val]
   rw [if_neg (by omega)]
 | .agg l, h => by
  obtain ⟨h1, h2⟩ := AV.vals_den hz l (by simpa [AV.den, AV.ids] using h)
  exact ⟨by simp only [AV.den, AV.val]; rw [h1], by simpa [AV.ids] using h2⟩
 | .tup l, h => by
  obtain ⟨h1, h2⟩ := AV.vals_den hz l (by simpa [AV.den, AV.ids] using h)
  exact ⟨by simp only [AV.den, AV.val]; rw [h1], by simpa [AV.ids] using h2⟩
 | .fn f l, h => by
  obtain ⟨h1, h2⟩ := AV.vals_den hz l (by simpa [AV.den, AV.ids] using h)
  exact ⟨by simp only [AV.den, AV.val]; rw [h1], by simpa [AV.ids] using h2⟩
 | .bm f l, h => by
  obtain ⟨h1, h2⟩ := AV.vals_den hz l (by simpa [AV.den, AV.ids] using h)
  exact ⟨by simp only [AV.den, AV.val]; rw [h1], by simpa [AV.ids] using h2⟩
theorem AV.vals_den {ρ : Nat → Value} {t : Bool} {n : Nat} {z : Value} (hz : if t then D4 z = .slice none 0 0 else z = .slice none 0 0) : ∀ (l : List AV), (∀ i ∈ AV.idsL (AV.denL t n l), i < n) → AV.vals (fun j => if j = n then z else ρ j) l = AV.vals ρ (AV.denL t n l) ∧ ∀ i ∈ AV.idsL l, i < n + 1
 | [], _ => ⟨rfl, fun i hi => by simp [AV.idsL] at hi⟩
 | x :: r, h => by
  obtain ⟨h1, h2⟩ := AV.val_den hz x fun i hi => h i (by simp only [AV.denL, AV.idsL, bd9]; exact .inl hi)
  obtain ⟨h3, h4⟩ := AV.vals_den hz r fun i hi => h i (by simp only [AV.denL, AV.idsL, bd9]; exact .inr hi)
  refine ⟨by simp only [AV.denL, AV.vals]; rw [h1, h3], fun i hi => ?_⟩
  simp only [AV.idsL, bd9] at hi
  rcases hi with hi | hi
  ·exact h2 i hi
  ·exact h4 i hi
end
theorem al3 {m : Bool} {n : Nat} {t : Nat} {x : AV} : ∀ {tm : List (Nat × AV)}, B2 tm t = some x → B2 (tm.map fun p => (p.1, p.2.den m n)) t = some (x.den m n)
 | [], h => by cases h
 | (k, y) :: r, h => by
  simp only [B2, bd8] at h ⊢
  split at h
  ·rename_i e; cases h; rw [if_pos e]
  ·rename_i e; rw [if_neg e]; exact al3 h
section
variable {P : Program} {ι : Type} {φ ψ : Nat → Prop} {w0 w : World} {F : ι → Rs} {ρ ρ0 : Nat → Value} {N m n : Nat} {S : List It} {tm : List (Nat × AV)} {a : Act}
theorem A6.nilW (G : A6 φ ψ w0 F N m ρ0 ρ S tm a w) (n : Nat) (hn : S.length = n) (b : Bool) (x : It) (z : Value) (hz : if b then D4 z = .slice none 0 0 else z = .slice none 0 0) (hids : x.ids = []) (hb : ∀ g, ¬ (x.res (fun j => if j = n then z else ρ j) n).blk g)
  (hx : ∀ φ', (x.res (fun j => if j = n then z else ρ j) n).holds w φ') (S1 : List It) (tm1 : List (Nat × AV)) (hS : S = S1.map (It.den b n)) (ht : tm = tm1.map fun p => (p.1, p.2.den b n)) :
  ∃ ρ', A6 φ ψ w0 F N m ρ0 ρ' (S1 ++ [x]) tm1 a w := by
 have hl : S1.length = n := by rw [← hn, hS, List.length_map]
 have hat : ∀ j (hj : j < n), t6 S j = (S1[j]'(by omega)).den b n := fun j hj => by
  rw [al1 (show j < S.length by omega)]
  have h1 := congrArg (·[j]?) hS
  simp only [List.getElem?_map, bb7 (show j < S.length by omega), bb7 (show j < S1.length by omega), Option.map_some, Option.some.injEq] at h1
  exact h1
 have hnew : ∀ j (hj : j < n), t6 (S1 ++ [x]) j = S1[j]'(by omega) := fun j hj => by
  simp [t6, bc2, be7 (show j < S1.length by omega), bb7 (show j < S1.length by omega)]
 have hlast : t6 (S1 ++ [x]) n = x := by
  simp [t6, bc2, ← hl]
 have hout : ∀ j, n < j → t6 (S1 ++ [x]) j = .none := fun j hj => A4 (by simp; omega)
 have hbx : ∀ j (hj : j < n), ((S1[j]'(by omega)).res (fun j => if j = n then z else ρ j) j = (t6 S j).res ρ j) ∧ ∀ i ∈ (S1[j]'(by omega)).ids, i < n + 1 := fun j hj => by
  rw [hat j hj]
  have hb := (G.bd j).1
  rw [hat j hj, hn] at hb
  generalize S1[j]'(by omega) = x at *
  cases x with
  | box cs =>
   obtain ⟨h1, h2⟩ := AV.vals_den (ρ := ρ) (n := n) hz cs hb
   refine ⟨?_, h2⟩
   simp only [It.res, It.den]
   rw [h1, if_neg (show ¬ j = n by omega)]
  | none => exact ⟨rfl, fun i hi => by cases hi⟩
  | dead => exact ⟨rfl, fun i hi => by cases hi⟩
  | dat d' => exact ⟨by simp only [It.res, It.den]; rw [if_neg (show ¬ j = n by omega)], fun i hi => by cases hi⟩
  | row e' d' => exact ⟨by simp only [It.res, It.den]; rw [if_neg (show ¬ j = n by omega)], fun i hi => by cases hi⟩
  | tree d' => exact ⟨by simp only [It.res, It.den]; rw [if_neg (show ¬ j = n by omega)], fun i hi => by cases hi⟩
  | kept e' d' => exact ⟨by cases e' <;> (simp only [It.res, It.den]; rw [if_neg (show ¬ j = n by omega)]), fun i hi => by cases hi⟩
  | hole k q ls =>
   have hk : k < n := hb k (by simp [It.den, It.ids])
   exact ⟨by simp only [It.res, It.den]; rw [if_neg (show ¬ j = n by omega), if_neg (show ¬ k = n by omega)], fun i hi => by simp [It.ids] at hi; omega⟩
 have hw : ∀ t x, B2 tm1 t = some x → x.val (fun j => if j = n then z else ρ j) = (x.den b n).val ρ ∧ ∀ i ∈ x.ids, i < n + 1 := fun t x hx => by
  refine AV.val_den hz x fun i hi => ?_
  have h1 : B2 tm t = some (x.den b n) := by rw [ht]; exact al3 hx
  have := G.tmi t _ h1 i hi
  omega
 refine ⟨fun j => if j = n then z else ρ j, ?_⟩
 refine ⟨G.size, G.defs, fun t x hx => ?_, fun t x hx i hi => ?_, fun j => ⟨fun i hi => ?_, fun hj => A4 hj⟩, ?_, ?_, fun i hi => ?_⟩
 ·have h1 : B2 tm t = some (x.den b n) := by rw [ht]; exact al3 hx
  rw [(hw t x hx).1]; exact G.tmv t _ h1
 ·have := (hw t x hx).2 i hi
  simp; omega
 ·rcases Nat.lt_trichotomy j n with h | h | h
  ·rw [hnew j h] at hi
   have := (hbx j h).2 i hi
   simp; omega
  ·subst h; rw [hlast, hids] at hi; cases hi
  ·rw [hout j h] at hi; cases hi
 ·refine l8.put G.mem (.inr n) (fun k hk => ?_) (A0.refl _ _) ?_ ?_
  ·cases k with
   | inl i => rfl
   | inr j =>
    simp only [n9]
    rcases Nat.lt_trichotomy j n with h | h | h
    ·rw [hnew j h]; exact (hbx j h).1
    ·exact absurd (by rw [h]) hk
    ·rw [hout j h, A4 (show S.length ≤ j by omega)]; rfl
  ·simp only [n9, hlast]; exact hx _
  ·intro g hg
   simp only [n9, hlast] at hg
   exact absurd hg (hb g)
 ·have := G.le; simp; omega
 ·show (if i = n then _ else ρ i) = ρ0 i
  have := G.le
  rw [if_neg (by omega)]; exact G.old i hi
theorem A6.nil (G : A6 φ ψ w0 F N m ρ0 ρ S tm a w) (n : Nat) (e : TypeId) (d : D) (k : Nat) (S1 : List It) (tm1 : List (Nat × AV)) (hn : S.length = n := by kernel_rfl) (hd : D.nil k = some d := by kernel_rfl) (hS : S = S1.map (It.den false n) := by kernel_rfl) (ht : tm = tm1.map (fun p => (p.1, p.2.den false n)) := by kernel_rfl) :
  ∃ ρ', A6 φ ψ w0 F N m ρ0 ρ' (S1 ++ [.row e d]) tm1 a w := by
 have hz := D.nil_len hd
 refine G.nilW n hn false (.row e d) (.slice none 0 0) (by simp) rfl (fun g hg => ?_) (fun φ' => ?_) S1 tm1 hS ht
 ·simp only [It.res, if_true] at hg
  cases hg
 ·simp only [It.res, if_true]
  refine ⟨fun xs => RW.nice d xs, [], ?_, RW.nil hz _⟩
  rw [hz]; exact World.ownsRow_nil _ _ _ _
theorem A6.nilT (G : A6 φ ψ w0 F N m ρ0 ρ S tm a w) (n : Nat) (d : D) (S1 : List It) (tm1 : List (Nat × AV)) (hn : S.length = n := by kernel_rfl) (hd : ((Z2 d).isSome && natEq d.len 0) = true := by kernel_rfl) (hS : S = S1.map (It.den true n) := by kernel_rfl) (ht : tm = tm1.map (fun p => (p.1, p.2.den true n)) := by kernel_rfl) :
  ∃ ρ', A6 φ ψ w0 F N m ρ0 ρ' (S1 ++ [.tree d]) tm1 a w := by
 simp only [bb8, natEq, beq_iff_eq] at hd
 obtain ⟨e, he⟩ := bf2.1 hd.1
 obtain ⟨z, h1, h2⟩ := P3 (.slice none 0 0) (fun _ => False) 0 fun b h => h.elim
 refine G.nilW n hn true (.tree d) z (by simp [h1]) rfl (fun g hg => ?_) (fun φ' => ?_) S1 tm1 hS ht
 ·simp only [It.res, if_true] at hg
  exact ((h2 g).1 hg).elim
 ·simp only [It.res, if_true]
  rw [h1]
  refine ⟨fun _ _ h hs => h.same hs, ⟨e, [], fun _ => False, he, ?_, (fun g hg => by cases hg), (fun b hb => hb.elim), ?_⟩, fun b hb => ((h2 b).1 hb).elim⟩
  ·rw [hd.2]; exact World.ownsRow_nil _ _ _ _
  ·have h0 := hd.2
   cases d <;> simp only [Z2] at he <;> first | cases he | skip
   all_goals (simp only [D.len] at h0; rw [bf0 h0]; rfl)
end
inductive Ln where
 | no
 | row (e : TypeId)
 | tree
def C2 (M : List Ln) (i : Nat) : Ln := M.getD i .no
def Ln.isT : Ln → Bool
 | .tree => true
 | _ => false
mutual
def AV.tr (M : List Ln) : AV → AV
 | .v x => .v x
 | .ptr a b => .ptr a b
 | .ea a b c d => .ea a b c d
 | .ref i => if (C2 M i).isT then .tref i else .ref i
 | .agg l => .agg (AV.trL M l)
 | .tup l => .tup (AV.trL M l)
 | .fn f l => .fn f (AV.trL M l)
 | .bm f l => .bm f (AV.trL M l)
 | .tref i => .tref i
def AV.trL (M : List Ln) : List AV → List AV
 | [] => []
 | x :: r => x.tr M :: AV.trL M r
end
mutual
def AV.trOk (M : List Ln) : AV → Bool
 | .v _ => true
 | .ptr a _ => !(C2 M a).isT
 | .ea a _ _ _ => !(C2 M a).isT
 | .ref _ => true
 | .agg l => AV.trOkL M l
 | .tup l => AV.trOkL M l
 | .fn _ l => AV.trOkL M l
 | .bm _ l => AV.trOkL M l
 | .tref i => !(C2 M i).isT
def AV.trOkL (M : List Ln) : List AV → Bool
 | [] => true
 | x :: r => x.trOk M && AV.trOkL M r
end
mutual
theorem AV.val_tr {ρ ρ' : Nat → Value} {M : List Ln} (h : ∀ i, ρ' i = if (C2 M i).isT then D4 (ρ i) else ρ i) : ∀ (x : AV), x.trOk M = true → (x.tr M).val ρ = x.val ρ'
 | .v _, _ => rfl
 | .ptr a _, hx => by
  simp only [AV.trOk, bc7] at hx
  simp only [AV.tr, AV.val]; rw [h a, hx]; rfl
 | .ea a _ _ _, hx => by
  simp only [AV.trOk, bc7] at hx
  simp only [AV.tr, AV.val]; rw [h a, hx]; rfl
 | .ref i, _ => by
  simp only [AV.tr]
  cases hm : (C2 M i).isT
  ·simp only [Bool.false_eq_true, if_false, AV.val]; rw [h i, hm]; rfl
  ·simp only [if_true, AV.val]; rw [h i, hm]; rfl
 | .agg l, hx => by simp only [AV.tr, AV.val]; rw [AV.vals_tr h l (by simpa [AV.trOk] using hx)]
 | .tup l, hx => by simp only [AV.tr, AV.val]; rw [AV.vals_tr h l (by simpa [AV.trOk] using hx)]
 | .fn _ l, hx => by simp only [AV.tr, AV.val]; rw [AV.vals_tr h l (by simpa [AV.trOk] using hx)]
 | .bm _ l, hx => by simp only [AV.tr, AV.val]; rw [AV.vals_tr h l (by simpa [AV.trOk] using hx)]
 | .tref i, hx => by
  simp only [AV.trOk, bc7] at hx
  simp only [AV.tr, AV.val]; rw [h i, hx]; rfl
theorem AV.vals_tr {ρ ρ' : Nat → Value} {M : List Ln} (h : ∀ i, ρ' i = if (C2 M i).isT then D4 (ρ i) else ρ i) : ∀ (l : List AV), AV.trOkL M l = true → AV.vals ρ (AV.trL M l) = AV.vals ρ' l
 | [], _ => rfl
 | x :: r, hx => by
  simp only [AV.trOkL, bb8] at hx
  simp only [AV.trL, AV.vals]; rw [AV.val_tr h x hx.1, AV.vals_tr h r hx.2]
end
def E9 (M : List Ln) : Ln → It → It
 | .row e, .dat d => .row e d
 | .tree, .dat d => .tree d
 | .no, .box cs => .box (AV.trL M cs)
 | _, x => x
def S9 (M : List Ln) (S : List It) : List It := (bc6 S.length).map fun i => E9 M (C2 M i) (t6 S i)
theorem al0 (M : List Ln) (S : List It) (i : Nat) : t6 (S9 M S) i = E9 M (C2 M i) (t6 S i) := by
 unfold S9
 rcases be3 i S.length with h | h
 ·conv => lhs; rw [t6, bc2, List.getElem?_map, List.getElem?_range h]
  rfl
 ·rw [A4 (by simpa using h), A4 h]
  cases C2 M i <;> rfl
def ay5 : D → Bool
 | .rows _ => false
 | .brows _ => false
 | .exprs _ => false
 | .stmts _ => false
 | _ => true
theorem aI7 {w w' : World} {φ φ' : Nat → Prop} {d : D} {xs : List Value} (hd : ay5 d = true) (h : RW w φ d xs) : RW w' φ' d xs := by
 intro i hi j x hx
 obtain ⟨u, h1, h2⟩ := h i hi j x hx
 refine ⟨u, h1, ?_⟩
 have : ∃ y, x = .v y := by
  have hm := bc5 hx
  cases d <;> simp only [ay5, Bool.false_eq_true] at hd <;> simp [D.elem, aE3, ab3] at hm
  ·exact ⟨_, hm⟩
  ·exact ⟨_, hm⟩
  ·exact ⟨_, hm⟩
  ·exact ⟨_, hm⟩
  ·rcases hm with h | h | h | h | h <;> exact ⟨_, h⟩
  ·rcases hm with h | h <;> exact ⟨_, h⟩
 obtain ⟨y, rfl⟩ := this
 exact h2
def at8 (M : List Ln) (l : Ln) (p x : It) : Bool :=
 match l with
 | .no => match x with
  | .dat _ => (match p with | .dat _ => true | _ => false)
  | .row _ d => ay5 d
  | .box cs => AV.trOkL M cs
  | .kept _ _ => false
  | .hole _ _ _ => false
  | _ => true
 | .row _ => (match p, x with | .dat d, .dat _ => ay5 d | _, _ => false)
 | .tree => (match p, x with | .dat d, .dat _ => (Z2 d).isSome | _, _ => false)
def aQ0 (M : List Ln) (l : Ln) (p : It) : Bool :=
 match l, p with
 | .no, .box cs => AV.trOkL M cs
 | .no, .hole _ _ _ => false
 | _, _ => true
def aR8 (M : List Ln) (c : t7) : Bool :=
 decide (M.length ≤ c.pre.length) && decide (c.pre.length ≤ c.post.length) && AV.trOkL M c.args && c.res.trOk M && (bc6 c.post.length).all (fun i => at8 M (C2 M i) (t6 c.pre i) (t6 c.post i)) && (bc6 c.pre.length).all fun i => aQ0 M (C2 M i) (t6 c.pre i)
def Rs.snap (w : World) (r : Rs) : Rs := .own r.blk fun w' => ∀ b, r.blk b → b < w.heap.size → w'.heap[b]? = w.heap[b]?
theorem Rs.snap_holds {w : World} {φ φ' : Nat → Prop} {r : Rs} (h : r.holds w φ) : (r.snap w).holds w φ' := by
 refine ⟨fun w1 w2 h1 h2 b hb hlt => ?_, fun b _ _ => rfl, fun b hb => Rs.lt h hb⟩
 have h3 := h1 b hb hlt
 rw [h2 b hb, h3]
 have : (w1.heap[b]?).isSome = true := by rw [h3, Array.getElem?_eq_getElem hlt]; rfl
 obtain ⟨o, ho⟩ := bf2.1 this
 exact (Array.getElem?_eq_some_iff.1 ho).1
theorem au1 : ∀ {P X : List It} {i : Nat} {d e : D}, af6 P X = af5 P X → t6 P i = .dat d → t6 X i = .dat e → d = e
 | P, X, i, d, e, h, h1, h2 => by
  have hp : P[i]? = some (.dat d) := by
   rcases be3 i P.length with hl | hl
   ·rw [al1 hl] at h1; rw [bb7 hl, h1]
   ·rw [A4 hl] at h1; cases h1
  have hx : X[i]? = some (.dat e) := by
   rcases be3 i X.length with hl | hl
   ·rw [al1 hl] at h2; rw [bb7 hl, h2]
   ·rw [A4 hl] at h2; cases h2
  exact a45 h hp hx
theorem t7.lend0 {P : Program} {c : t7} (hc : c.ok P) (M : List Ln) (hb : aR8 M c = true) (he : af6 c.pre c.post = af5 c.pre c.post) : t7.ok P ⟨c.f, AV.trL M c.args, S9 M c.pre, S9 M c.post, c.res.tr M⟩ := by
 simp only [aR8, bb8, decide_eq_true_eq] at hb
 obtain ⟨⟨⟨⟨⟨hM, hle⟩, hargs⟩, hres⟩, hpost⟩, hpre⟩ := hb
 have hno : ∀ i, c.pre.length ≤ i → C2 M i = .no := fun i hi => by
  unfold C2; rw [bc2, be1 (by omega)]; rfl
 have hpo : ∀ i, at8 M (C2 M i) (t6 c.pre i) (t6 c.post i) = true := fun i => by
  rcases be3 i c.post.length with h | h
  ·exact bc8.1 hpost i (List.mem_range.2 h)
  ·rw [hno i (by omega), A4 h]; rfl
 have hpr : ∀ i, aQ0 M (C2 M i) (t6 c.pre i) = true := fun i => by
  rcases be3 i c.pre.length with h | h
  ·exact bc8.1 hpre i (List.mem_range.2 h)
  ·rw [hno i h, A4 h]; rfl
 intro ι φ ψ w0 w F ρ MM
 let ρ1 : Nat → Value := fun i => if (C2 M i).isT then D4 (ρ i) else ρ i
 have hρ1 : ∀ i, ρ1 i = if (C2 M i).isT then D4 (ρ i) else ρ i := fun _ => rfl
 let F1 : ι → Rs := fun i => (F i).snap w
 have hLi : ∀ i, n9 F ρ (t6 (S9 M c.pre)) (.inl i) = F i := fun _ => rfl
 have hLj : ∀ j, n9 F ρ (t6 (S9 M c.pre)) (.inr j) = (E9 M (C2 M j) (t6 c.pre j)).res ρ j := fun j => by simp only [n9]; rw [al0]
 generalize hL : n9 F ρ (t6 (S9 M c.pre)) = L at MM hLi hLj
 have h1j : ∀ j, C2 M j = .no → (t6 c.pre j).res ρ1 j = L (.inr j) := fun j hl => by
  rw [hLj, hl]
  have hp := hpr j
  have e : ρ1 j = ρ j := by rw [hρ1, hl]; rfl
  cases hx : t6 c.pre j with
  | none => rfl
  | dead => rfl
  | dat d => simp only [E9, It.res]; rw [e]
  | row e' d => simp only [E9, It.res]; rw [e]
  | tree d => simp only [E9, It.res]; rw [e]
  | kept e' d => cases e' <;> (simp only [E9, It.res]; rw [e])
  | hole k i ls => rw [hl, hx] at hp; cases hp
  | box cs =>
   rw [hl, hx] at hp
   simp only [aQ0] at hp
   simp only [E9, It.res]
   rw [e, AV.vals_tr hρ1 cs hp]
 have hlent : ∀ j, C2 M j ≠ .no → (∃ d, t6 c.pre j = .dat d ∧ t6 c.post j = .dat d ∧ ((∃ e, C2 M j = .row e ∧ ay5 d = true) ∨ C2 M j = .tree)) := fun j hj => by
  have h := hpo j
  cases hl : C2 M j with
  | no => exact absurd hl hj
  | row e =>
   rw [hl] at h
   simp only [at8] at h
   split at h
   ·rename_i d d' h1 h2
    exact ⟨d, h1, by rw [h2, ← au1 he h1 h2], .inl ⟨e, rfl, h⟩⟩
   ·cases h
  | tree =>
   rw [hl] at h
   simp only [at8] at h
   split at h
   ·rename_i d d' h1 h2
    exact ⟨d, h1, by rw [h2, ← au1 he h1 h2], .inr rfl⟩
   ·cases h
 have hsub : ∀ k b, (n9 F1 ρ1 (t6 c.pre) k).blk b → (L k).blk b ∧ ∀ j, k = .inr j → C2 M j = .no := fun k b hb => by
  cases k with
  | inl i => rw [hLi]; exact ⟨hb, fun j h => by cases h⟩
  | inr j =>
   by_cases hl : C2 M j = .no
   ·simp only [n9] at hb
    rw [h1j j hl] at hb
    exact ⟨hb, fun j' h => by cases h; exact hl⟩
   ·obtain ⟨d, h1, _⟩ := hlent j hl
    simp only [n9, h1, It.res] at hb
    exact hb.elim
 have hfr1 : ∀ b, R5 φ L b → R5 φ (n9 F1 ρ1 (t6 c.pre)) b := fun b hb => ⟨hb.1, fun k hk => hb.2 k (hsub k b hk).1⟩
 let ψ1 : Nat → Prop := fun b => ∀ k, ¬ (n9 F1 ρ1 (t6 c.pre) k).blk b
 have M1 : l8 φ ψ1 w w (n9 F1 ρ1 (t6 c.pre)) := by
  refine ⟨A0.refl _ _, fun b hb => MM.fresh b (be0 MM.size hb), fun k => ?_, fun k k' b hkk h1 h2 => MM.dis k k' b hkk (hsub k b h1).1 (hsub k' b h2).1, fun k b h1 => .inr fun h => h k h1, fun k b h1 => MM.ph k b (hsub k b h1).1⟩
  cases k with
  | inl i => exact Rs.snap_holds (show (F i).holds w _ from by rw [← hLi i]; exact MM.holds (.inl i))
  | inr j =>
   by_cases hl : C2 M j = .no
   ·simp only [n9]
    rw [h1j j hl]
    exact Rs.keep (MM.holds (.inr j)) (H8.mono fun b _ hf => hfr1 b hf) fun _ _ => rfl
   ·obtain ⟨d, h1, h2, h3⟩ := hlent j hl
    have hh := MM.holds (.inr j)
    have hown : ∀ b, (L (.inr j)).blk b → R5 φ (n9 F1 ρ1 (t6 c.pre)) b := fun b hb => ⟨MM.ph _ _ hb, fun k hk => by
     obtain ⟨q1, q2⟩ := hsub k b hk
     by_cases e : k = .inr j
     ·exact hl (q2 j e)
     ·exact MM.dis k (.inr j) b e q1 hb⟩
    simp only [n9, h1, It.res]
    refine ⟨RD.nice _ _, ?_⟩
    rcases h3 with ⟨e, h3, hflat⟩ | h3
    ·rw [hLj, h3, h1] at hh
     simp only [E9, It.res] at hh
     obtain ⟨_, xs, o1, o2⟩ := hh
     have e1 : ρ1 j = ρ j := by rw [hρ1, h3]; rfl
     rw [e1]
     refine RD.make (D6 o1 fun g hg => hown g ?_) (aI7 hflat o2)
     rw [hLj, h3, h1]; exact hg
    ·rw [hLj, h3, h1] at hh
     simp only [E9, It.res] at hh
     have e1 : ρ1 j = D4 (ρ j) := by rw [hρ1, h3]; rfl
     rw [e1]
     refine A7.read hh.2.1 fun b hb => hown b ?_
     rw [hLj, h3, h1]; exact hb
 simp only
 rw [AV.vals_tr hρ1 c.args hargs]
 refine (hc ι φ ψ1 w w F1 ρ1 M1).mono ?_
 rintro x w' ⟨ρ2, g1, g2, M2⟩
 have hplen : (S9 M c.pre).length = c.pre.length := by simp [S9]
 let ρ' : Nat → Value := fun j => if j < c.pre.length then ρ j else ρ2 j
 have hρ' : ∀ j, ρ2 j = if (C2 M j).isT then D4 (ρ' j) else ρ' j := fun j => by
  show _ = if (C2 M j).isT then D4 (if j < c.pre.length then ρ j else ρ2 j) else (if j < c.pre.length then ρ j else ρ2 j)
  rcases be3 j c.pre.length with h | h
  ·rw [if_pos h, g1 j h]
  ·rw [hno j h]
   exact (if_neg (Nat.not_lt.2 h)).symm
 have hρo : ∀ j, C2 M j ≠ .no → ρ' j = ρ j := fun j hj => by
  rcases be3 j c.pre.length with h | h
  ·exact if_pos h
  ·exact absurd (hno j h) hj
 refine ⟨ρ', fun i hi => if_pos (by rw [hplen] at hi; exact hi), by rw [AV.val_tr hρ' c.res hres]; exact g2, ?_⟩
 have hL'j : ∀ j, n9 F ρ' (t6 (S9 M c.post)) (.inr j) = (E9 M (C2 M j) (t6 c.post j)).res ρ' j := fun j => by simp only [n9]; rw [al0]
 have hL'i : ∀ i, n9 F ρ' (t6 (S9 M c.post)) (.inl i) = F i := fun _ => rfl
 generalize hL' : n9 F ρ' (t6 (S9 M c.post)) = L' at hL'j hL'i
 have hL2j : ∀ j, C2 M j = .no → L' (.inr j) = n9 F1 ρ2 (t6 c.post) (.inr j) := fun j hl => by
  rw [hL'j, hl]
  have hp := hpo j
  have e : ρ2 j = ρ' j := by rw [hρ', hl]; rfl
  simp only [n9]
  cases hx : t6 c.post j with
  | none => rfl
  | dead => rfl
  | dat d => simp only [E9, It.res]; rw [e]
  | row e' d => simp only [E9, It.res]; rw [e]
  | tree d => simp only [E9, It.res]; rw [e]
  | kept e' d => cases e' <;> (simp only [E9, It.res]; rw [e])
  | hole k i ls => rw [hl, hx] at hp; cases hp
  | box cs =>
   rw [hl, hx] at hp
   simp only [at8] at hp
   simp only [E9, It.res]
   rw [e, AV.vals_tr hρ' cs hp]
 have hlj : ∀ j, C2 M j ≠ .no → L' (.inr j) = L (.inr j) := fun j hl => by
  obtain ⟨d, h1, h2, h3⟩ := hlent j hl
  rw [hL'j, hLj, h1, h2]
  rcases h3 with ⟨e, h3, _⟩ | h3
  ·rw [h3]; simp only [E9, It.res]; rw [hρo j hl]
  ·rw [h3]; simp only [E9, It.res]; rw [hρo j hl]
 have hin : ∀ b, b < w.heap.size → ¬ ψ1 b → ∃ k, (L k).blk b ∧ ∀ j, k = .inr j → C2 M j = .no := fun b _ hn => by
  obtain ⟨k, hk⟩ := Classical.not_forall.1 hn
  exact ⟨k, hsub k b (Classical.not_not.1 hk)⟩
 have hnew : ∀ k b, (∀ j, k = .inr j → C2 M j = .no) → (n9 F1 ρ2 (t6 c.post) k).blk b → b < w.heap.size → ∃ k', (L k').blk b ∧ ∀ j, k' = .inr j → C2 M j = .no := fun k b _ hb hlt => by
  rcases M2.ge k b hb with h | h
  ·omega
  ·exact hin b hlt h
 have hback : ∀ k b, (L' k).blk b → b < w.heap.size → ∃ k', (L k').blk b := fun k b hb hlt => by
  cases k with
  | inl i => rw [hL'i] at hb; exact ⟨.inl i, by rw [hLi]; exact hb⟩
  | inr j =>
   by_cases hl : C2 M j = .no
   ·rw [hL2j j hl] at hb
    obtain ⟨k', h1, _⟩ := hnew (.inr j) b (fun j' h => by cases h; exact hl) hb hlt
    exact ⟨k', h1⟩
   ·rw [hlj j hl] at hb; exact ⟨_, hb⟩
 have hsame : ∀ b, b < w.heap.size → ψ1 b → w'.heap[b]? = w.heap[b]? := fun b h1 h2 => M2.kept.block b h1 h2
 have hagr : H8 (R5 φ L) (R5 φ L') w w' := ⟨M2.kept.size, fun b hb hf => ⟨⟨hf.1, fun k hk => let ⟨k', h1⟩ := hback k b hk hb; hf.2 k' h1⟩, hsame b hb fun k hk => (hfr1 b hf).2 k hk⟩⟩
 have hlsame : ∀ j, C2 M j ≠ .no → ∀ b, (L (.inr j)).blk b → w'.heap[b]? = w.heap[b]? := fun j hl b hb => hsame b (MM.lt hb) fun k hk => by
  obtain ⟨q1, q2⟩ := hsub k b hk
  by_cases e : k = .inr j
  ·exact hl (q2 j e)
  ·exact MM.dis k (.inr j) b e q1 hb
 have hcross : ∀ j k b, C2 M j ≠ .no → (∀ j, k = .inr j → C2 M j = .no) → (L (.inr j)).blk b → ¬ (n9 F1 ρ2 (t6 c.post) k).blk b := fun j k b hl hk h1 h2 => by
  obtain ⟨k', h3, h4⟩ := hnew k b hk h2 (MM.lt h1)
  exact MM.dis k' (.inr j) b (fun e => hl (h4 j e)) h3 h1
 refine ⟨⟨M2.kept.os.trans MM.kept.os, M2.kept.tape.trans MM.kept.tape, M2.kept.output.trans MM.kept.output, be0 MM.size M2.kept.size, fun b hb hp => (hsame b (bd4 hb MM.size) fun k hk => ?_).trans (MM.kept.block b hb hp)⟩, MM.fresh, fun k => ?_, fun k k' b hkk h1 h2 => ?_, fun k b h1 => ?_, fun k b h1 => ?_⟩
 ·rcases MM.ge k b (hsub k b hk).1 with h | h
  ·omega
  ·exact h hp
 ·cases k with
  | inl i =>
   rw [hL'i, ← hLi i]
   refine Rs.keep (MM.holds (.inl i)) hagr fun b hb => ?_
   have := (M2.holds (.inl i)).2.1 b (by rw [← hLi i]; exact hb) (MM.lt hb)
   exact this
  | inr j =>
   by_cases hl : C2 M j = .no
   ·have hh := M2.holds (.inr j)
    rw [← hL2j j hl] at hh
    have hp := hpo j
    rw [hl] at hp
    cases hx : t6 c.post j with
    | none => rw [hL'j, hl, hx]; exact Rs.none_holds _ _
    | dead => rw [hL'j, hl, hx]; exact Rs.none_holds _ _
    | box cs => rw [hL'j, hl, hx] at hh ⊢; exact hh
    | tree d => rw [hL'j, hl, hx] at hh ⊢; exact hh
    | kept e' d => rw [hx] at hp; exact absurd hp (by simp [at8])
    | hole k i ls => rw [hx] at hp; exact absurd hp (by simp [at8])
    | row e d =>
     rw [hx] at hp
     simp only [at8] at hp
     rw [hL'j, hl, hx] at hh ⊢
     simp only [E9, It.res] at hh ⊢
     obtain ⟨_, xs, o1, o2⟩ := hh
     exact ⟨fun xs => RW.nice d xs, xs, o1, aI7 hp o2⟩
    | dat d =>
     rw [hx] at hp
     simp only [at8] at hp
     split at hp
     ·rename_i d' hpx
      have hd : d' = d := au1 he hpx hx
      subst hd
      have e : L' (.inr j) = L (.inr j) := by
       rw [hL'j, hLj, hl, hx, hpx]
       simp only [E9, It.res]
       have : j < c.pre.length := by
        rcases be3 j c.pre.length with h | h
        ·exact h
        ·rw [A4 h] at hpx; cases hpx
       rw [show ρ' j = ρ j from if_pos this]
      rw [e]
      refine Rs.keep (MM.holds (.inr j)) hagr fun b hb => ?_
      rw [hLj, hl, hpx] at hb
      exact hb.elim
     ·cases hp
   ·rw [hlj j hl]
    exact Rs.keep (MM.holds (.inr j)) hagr fun b hb => hlsame j hl b hb
 ·have key : ∀ k, (∃ j, k = .inr j ∧ C2 M j ≠ .no ∧ (L' k) = L k) ∨ ((∀ j, k = .inr j → C2 M j = .no) ∧ ∀ b, (L' k).blk b → (n9 F1 ρ2 (t6 c.post) k).blk b) := fun k => by
   cases k with
   | inl i => exact .inr ⟨(fun j h => by cases h), fun b hb => by rw [hL'i] at hb; exact hb⟩
   | inr j =>
    by_cases hl : C2 M j = .no
    ·exact .inr ⟨fun j' h => by cases h; exact hl, fun b hb => by rw [hL2j j hl] at hb; exact hb⟩
    ·exact .inl ⟨j, rfl, hl, hlj j hl⟩
  rcases key k with ⟨j, rfl, k1, k2⟩ | ⟨k1, k2⟩ <;> rcases key k' with ⟨j', rfl, k3, k4⟩ | ⟨k3, k4⟩
  ·rw [k2] at h1; rw [k4] at h2; exact MM.dis _ _ b hkk h1 h2
  ·rw [k2] at h1; exact hcross j k' b k1 k3 h1 (k4 b h2)
  ·rw [k4] at h2; exact hcross j' k b k3 k1 h2 (k2 b h1)
  ·exact M2.dis k k' b hkk (k2 b h1) (k4 b h2)
 ·cases k with
  | inl i => rw [hL'i, ← hLi i] at h1; exact MM.ge _ b h1
  | inr j =>
   by_cases hl : C2 M j = .no
   ·rw [hL2j j hl] at h1
    rcases be3 b w.heap.size with hlt | hge
    ·obtain ⟨k', h2, _⟩ := hnew (.inr j) b (fun j' h => by cases h; exact hl) h1 hlt
     exact MM.ge k' b h2
    ·exact .inl (be0 MM.size hge)
   ·rw [hlj j hl] at h1; exact MM.ge _ b h1
 ·cases k with
  | inl i => rw [hL'i, ← hLi i] at h1; exact MM.ph _ b h1
  | inr j =>
   by_cases hl : C2 M j = .no
   ·rw [hL2j j hl] at h1; exact M2.ph _ b h1
   ·rw [hlj j hl] at h1; exact MM.ph _ b h1
def aS2 (M : List Ln) : Ln → It → It
 | .row e, .dat d => .kept (some e) d
 | .tree, .dat d => .kept none d
 | .no, .box cs => .box (AV.trL M cs)
 | _, x => x
def aS1 (M : List Ln) (S : List It) : List It := (bc6 S.length).map fun i => aS2 M (C2 M i) (t6 S i)
theorem aR7 (M : List Ln) (S : List It) (i : Nat) : t6 (aS1 M S) i = aS2 M (C2 M i) (t6 S i) := by
 unfold aS1
 rcases be3 i S.length with h | h
 ·conv => lhs; rw [t6, bc2, List.getElem?_map, List.getElem?_range h]
  rfl
 ·rw [A4 (by simpa using h), A4 h]
  cases C2 M i <;> rfl
theorem t7.lend {P : Program} {c : t7} (hc : c.ok P) (M : List Ln) (hb : aR8 M c = true := by kernel_rfl) (he : af6 c.pre c.post = af5 c.pre c.post := by kernel_rfl) : t7.ok P ⟨c.f, AV.trL M c.args, S9 M c.pre, aS1 M c.post, c.res.tr M⟩ :=
 t7.okPost (t7.lend0 hc M hb he) _ fun ρ i => by
  simp only
  rw [aR7, al0]
  cases C2 M i <;> cases t6 c.post i <;> rfl
section
variable {P : Program} {ι κ : Type} {φ ψ : Nat → Prop} {w0 w : World} {F : ι → Rs} {ρ ρ0 : Nat → Value} {N m n : Nat} {S : List It} {tm : List (Nat × AV)} {a : Act}
end
theorem az1 (p : l6) (m : Int) (hm : 0 ≤ m) (hm2 : m ≤ 1048576) : t7.ok Try.prog (N0 38 [pA 0, iA m] (pS p) (iA (p9 m p.size))) :=
 U0 fun φ w ρ h => ao2 φ _ p m w ⟨ρ 0, ρ 1, ρ 2, rfl, h 0 _ rfl, h 1 _ rfl, h 2 _ rfl⟩ hm hm2
theorem az8 (p q : l6) : t7.ok Try.prog (N0 45 [pA 0, pA 3] (pS p ++ pS q) (bA (p.same q))) :=
 U0 fun φ w ρ h => ao9 φ φ _ _ p q w ⟨ρ 0, ρ 1, ρ 2, rfl, h 0 _ rfl, h 1 _ rfl, h 2 _ rfl⟩ ⟨ρ 3, ρ 4, ρ 5, rfl, h 3 _ rfl, h 4 _ rfl, h 5 _ rfl⟩
section
variable {P : Program} {ι κ : Type} {φ ψ : Nat → Prop} {w0 w w' : World} {F : ι → Rs} {ρ ρ0 : Nat → Value}
theorem l8.turns {L L' : κ → Rs} (M : l8 φ ψ w0 w L) (hblk : ∀ k b, (L' k).blk b ↔ (L k).blk b) (K : κ → Prop) (ho : ∀ k, ¬ K k → L' k = L k) (hk : A0 (fun b => ¬ ∃ k, K k ∧ (L k).blk b) w w') (h : ∀ k, K k → (L' k).holds w' (R5 φ L')) : l8 φ ψ w0 w' L' := by
 have hfr : ∀ b, R5 φ L b → R5 φ L' b := fun b hb => ⟨hb.1, fun k hk => hb.2 k ((hblk k b).1 hk)⟩
 refine ⟨⟨hk.os.trans M.kept.os, hk.tape.trans M.kept.tape, hk.output.trans M.kept.output, be0 M.size hk.size, fun b hb hp => (hk.block b (bd4 hb M.size) ?_).trans (M.kept.block b hb hp)⟩, M.fresh, fun k => ?_, fun i j g hij h1 h2 => M.dis i j g hij ((hblk i g).1 h1) ((hblk j g).1 h2), fun i b hb => M.ge i b ((hblk i b).1 hb), fun i b hb => M.ph i b ((hblk i b).1 hb)⟩
 ·rintro ⟨k, _, h2⟩
  rcases M.ge k b h2 with h | h
  ·omega
  ·exact h hp
 ·by_cases e : K k
  ·exact h k e
  ·rw [ho k e]
   refine Rs.keep (M.holds k) ⟨hk.size, fun b hb hf => ⟨hfr b hf, hk.block b hb fun ⟨j, _, h2⟩ => hf.2 j h2⟩⟩ fun g hg => hk.block g (M.lt hg) ?_
   rintro ⟨j, h1, h2⟩
   exact M.dis j k g (fun h => e (h ▸ h1)) h2 hg
theorem l8.grow {L L' : κ → Rs} (M : l8 φ ψ w0 w L) (hb : Below w.heap.size w w') (K : κ → Prop) (ho : ∀ k, ¬ K k → L' k = L k) (hg : ∀ k, K k → ∀ b, (L' k).blk b → w.heap.size ≤ b) (hd : ∀ j k b, j ≠ k → K j → K k → (L' j).blk b → ¬ (L' k).blk b) (h : ∀ k, K k → (L' k).holds w' (R5 φ L')) : l8 φ ψ w0 w' L' := by
 have M1 := M.call hb
 have old : ∀ k, ¬ K k → ∀ b, (L' k).blk b → b < w.heap.size := fun k hk b h1 => by rw [ho k hk] at h1; exact M.lt h1
 refine ⟨M1.kept, M.fresh, fun k => ?_, fun i j g hij h1 h2 => ?_, fun i b h1 => ?_, fun i b h1 => ?_⟩
 ·by_cases e : K k
  ·exact h k e
  ·rw [ho k e]
   refine Rs.keep (M.holds k) ⟨hb.size, fun b hl hf => ⟨⟨hf.1, fun j hj => ?_⟩, hb.block b hl⟩⟩ fun g hgx => hb.block g (M.lt hgx)
   by_cases e2 : K j
   ·have := hg j e2 b hj; omega
   ·rw [ho j e2] at hj; exact hf.2 j hj
 ·by_cases e1 : K i <;> by_cases e2 : K j
  ·exact hd i j g hij e1 e2 h1 h2
  ·have := hg i e1 g h1; have := old j e2 g h2; omega
  ·have := hg j e2 g h2; have := old i e1 g h1; omega
  ·rw [ho i e1] at h1; rw [ho j e2] at h2; exact M.dis i j g hij h1 h2
 ·by_cases e : K i
  ·exact .inl (be0 M.size (hg i e b h1))
  ·rw [ho i e] at h1; exact M.ge i b h1
 ·by_cases e : K i
  ·exact M.fresh b (be0 M.size (hg i e b h1))
  ·rw [ho i e] at h1; exact M.ph i b h1
end
abbrev oP (p : l6) : List It := [.row 3 (.ints p.vars), .row 3 (.ints p.arrays), .tree (.stmts p.body)]
abbrev oA (r : Nat) : AV := .agg [.ref r, .ref (r + 1), .tref (r + 2)]
theorem O4 {w : World} {φ : Nat → Prop} {v : Value} {l : List Int} (h : w.ownsRow 0 3 1 v l.length (ints l)) : (Rs.row 3 (D.ints l).sz v (D.ints l).len fun xs w φ => RW w φ (.ints l) xs).holds w φ := by
 refine ⟨fun xs => RW.nice (.ints l) xs, ints l, h, fun i hi j x hx => ?_⟩
 have hi' : i < l.length := hi
 simp only [D.elem] at hx
 have hj : j = 0 := by
  cases j with
  | zero => rfl
  | succ j => simp at hx
 subst hj
 simp at hx
 subst hx
 refine ⟨_, ?_, rfl⟩
 simp only [D.sz]
 rw [Nat.mul_one, be4]
 simp [ints, hi']
theorem aP6 {w : World} {φ : Nat → Prop} {v : Value} {l : List Int} (h : (Rs.row 3 (D.ints l).sz v (D.ints l).len fun xs w φ => RW w φ (.ints l) xs).holds w φ) : w.ownsRow 0 3 1 v l.length (ints l) := by
 obtain ⟨_, xs, h1, h2⟩ := h
 have h3 : xs.length = l.length := by have := h1.1; simpa [D.len, D.sz] using this
 rw [as1 h3 h2] at h1
 exact h1
theorem av5 (p : l6) (hb : p.size ≤ 1048576) : t7.ok Try.prog ⟨41, [pA 0], pS p, pS p ++ oP p, oA 3⟩ := by
 intro ι φ ψ w0 w F ρ M
 refine (an9 (R5 φ (n9 F ρ (t6 (pS p)))) _ p w ⟨ρ 0, ρ 1, ρ 2, rfl, M.datAt (id := 0) rfl, M.datAt (id := 1) rfl, M.datAt (id := 2) rfl⟩ hb).mono ?_
 rintro e w' ⟨a1, k1, a2, k2, a3, k3, S, rfl, hO, hS, hbl⟩
 obtain ⟨v1, v2, v3, S3, hv, h1, h2, h3, d1, d2, d3⟩ := hO
 cases hv
 obtain ⟨z, hz1, hz2⟩ := P3 (.slice a3 p.body.length k3) (fun b => S3 b ∧ b < w'.heap.size) w'.heap.size fun b h => h.2
 refine ⟨fun i => if i = 3 then .slice a1 p.vars.length k1 else if i = 4 then .slice a2 p.arrays.length k2 else if i = 5 then z else ρ i, fun i hi => ?_, ?_, ?_⟩
 ·have : i < 3 := hi
  simp only [if_neg (show ¬ i = 3 by omega), if_neg (show ¬ i = 4 by omega), if_neg (show ¬ i = 5 by omega)]
 ·simp [AV.val, AV.vals, hz1]
 ·have hlt : ∀ j, 6 ≤ j → t6 (pS p ++ oP p) j = .none ∧ t6 (pS p) j = .none := fun j hj => ⟨A4 (by simp; omega), A4 (by simp; omega)⟩
  refine M.grow hbl (fun k => k = .inr 3 ∨ k = .inr 4 ∨ k = .inr 5) (fun k hk => ?_) ?_ ?_ ?_
  ·cases k with
   | inl i => rfl
   | inr j =>
    have n3 : j ≠ 3 := fun e => hk (.inl (by rw [e]))
    have n4 : j ≠ 4 := fun e => hk (.inr (.inl (by rw [e])))
    have n5 : j ≠ 5 := fun e => hk (.inr (.inr (by rw [e])))
    match j, n3, n4, n5 with
    | 0, _, _, _ => rfl
    | 1, _, _, _ => rfl
    | 2, _, _, _ => rfl
    | 3, h, _, _ => exact absurd rfl h
    | 4, _, h, _ => exact absurd rfl h
    | 5, _, _, h => exact absurd rfl h
    | j + 6, _, _, _ => simp only [n9, (hlt (j + 6) (by omega)).1, (hlt (j + 6) (by omega)).2]; rfl
  ·rintro k (rfl | rfl | rfl) b hbk
   ·exact (hS b (d1 b hbk).1).1
   ·exact (hS b (d2 b hbk).1).1
   ·exact (hS b (d3 b ((hz2 b).1 hbk).1)).1
  ·have x1 : ∀ b, (Value.slice a1 p.vars.length k1).ownBlock = some b → ¬ (Value.slice a2 p.arrays.length k2).ownBlock = some b := fun b hb => (d1 b hb).2.2
   rintro j k b hjk (rfl | rfl | rfl) (rfl | rfl | rfl) hj hk
   ·exact hjk rfl
   ·exact (d1 b hj).2.2 hk
   ·exact (d1 b hj).2.1 ((hz2 b).1 hk).1
   ·exact (d1 b hk).2.2 hj
   ·exact hjk rfl
   ·exact (d2 b hj).2 ((hz2 b).1 hk).1
   ·exact (d1 b hk).2.1 ((hz2 b).1 hj).1
   ·exact (d2 b hk).2 ((hz2 b).1 hj).1
   ·exact hjk rfl
  ·rintro k (rfl | rfl | rfl)
   ·exact O4 h1
   ·exact O4 h2
   ·have e : t3 z = fun b => S3 b ∧ b < w'.heap.size := funext fun b => propext (hz2 b)
    show (Rs.own (t3 z) fun w => A7 w (t3 z) (.stmts p.body) (D4 z)).holds _ _
    rw [hz1, e]
    exact ⟨fun _ _ h hs => h.same hs, (A7.block.2 h3).cut, fun b hb => hb.2⟩
theorem ap0 (p : l6) (k : Nat) (hb : k + aa8 p ≤ 9000000000000000000) : t7.ok Try.prog ⟨46, [oA 0, iA k], oP p, oP (mkP p k), iA (k + aa8 p)⟩ := by
 intro ι φ ψ w0 w F ρ M
 have r1 := aP6 (M.holds (.inr 0))
 have r2 := aP6 (M.holds (.inr 1))
 have r3 := (M.holds (.inr 2)).2.1
 have hO : V5 w (.agg #[ρ 0, ρ 1, D4 (ρ 2)]) p (fun b => (ρ 0).ownBlock = some b ∨ (ρ 1).ownBlock = some b ∨ t3 (ρ 2) b) :=
  ⟨_, _, _, t3 (ρ 2), rfl, r1, r2, A7.block.1 r3,
   fun g hg => ⟨.inl hg, fun h => M.dis (.inr 0) (.inr 2) g (by simp) hg h, fun h => M.dis (.inr 0) (.inr 1) g (by simp) hg h⟩,
   fun g hg => ⟨.inr (.inl hg), fun h => M.dis (.inr 1) (.inr 2) g (by simp) hg h⟩, fun b hb => .inr (.inr hb)⟩
 refine (ah4 _ p k w _ hO hb).mono ?_
 rintro e w' ⟨rfl, hO', hk⟩
 obtain ⟨v1, v2, v3, S3, hv, h1, h2, h3, d1, d2, d3⟩ := hO'
 cases hv
 have hS3 : ∀ b, S3 b → t3 (ρ 2) b := fun b hb => by
  rcases d3 b hb with h | h | h
  ·exact ((d1 b h).2.1 hb).elim
  ·exact ((d2 b h).2 hb).elim
  ·exact h
 refine ⟨ρ, fun _ _ => rfl, rfl, M.turns (fun k b => ?_) (fun k => k = .inr 0 ∨ k = .inr 1 ∨ k = .inr 2) (fun k hk => ?_) ?_ ?_⟩
 ·cases k with
  | inl i => rfl
  | inr j =>
   match j with
   | 0 => exact Iff.rfl
   | 1 => exact Iff.rfl
   | 2 => exact Iff.rfl
   | j + 3 => simp only [n9]; rw [A4 (show (oP (mkP p _)).length ≤ j + 3 by simp), A4 (show (oP p).length ≤ j + 3 by simp)]
 ·cases k with
  | inl i => rfl
  | inr j =>
   match j, hk with
   | 0, h => exact absurd (.inl rfl) h
   | 1, h => exact absurd (.inr (.inl rfl)) h
   | 2, h => exact absurd (.inr (.inr rfl)) h
   | j + 3, _ => simp only [n9]; rw [A4 (show (oP (mkP p _)).length ≤ j + 3 by simp), A4 (show (oP p).length ≤ j + 3 by simp)]
 ·refine ⟨hk.os, hk.tape, hk.output, hk.size, fun b hb hn => hk.block b hb ?_⟩
  rintro (h | h | h)
  ·exact hn ⟨_, .inl rfl, h⟩
  ·exact hn ⟨_, .inr (.inl rfl), h⟩
  ·exact hn ⟨_, .inr (.inr rfl), h⟩
 ·rintro k (rfl | rfl | rfl)
  ·exact O4 h1
  ·exact O4 h2
  ·exact ⟨fun _ _ h hs => h.same hs, A7.block.2 (h3.mono hS3), fun b hb => bd4 (M.lt (i := .inr 2) hb) hk.size⟩
theorem am2 (v : Value) (t : List Int) (w : World) (h : H7 w v t.length 1 (ints t)) (hb : t.length ≤ 1000000000000) :
  Calls Try.prog 118 #[v] w fun e w' => ∃ u, e = .returned u ∧ F0 w' w.heap.size w'.heap.size 3 1 u t.length (ints t) ∧ Below w.heap.size w w' := by
 obtain ⟨a, cap, rfl, hc1, hc2, hc3, -⟩ := h.open
 have hnil := fun w => Lib.run_eql_slice_nil (P := Try.prog) w 23 3 a t.length cap 0 0 Try.underlying23
 rcases a with _ | a
 ·have hn : t.length = 0 := by
   rcases Nat.eq_zero_or_pos t.length with h0 | h0
   ·exact h0
   ·obtain ⟨_, a, c, he, _, _, hx⟩ := h
    cases he
    obtain ⟨_, _, he, _⟩ := hx h0
    cases he
  have ht : t = [] := bf0 hn
  subst ht
  simp only [List.length_nil, Option.isNone_none] at hnil
  go_enter Try.func118, Try.ntmps118
  go_wp2_with fail
  go_ret
  exact ⟨_, rfl, ⟨World.ownsRow_nil _ _ _ _, fun g hg => by cases hg⟩, Below.refl _ _⟩
 ·go_enter Try.func118, Try.ntmps118
  simp only [Option.isNone_some] at hnil
  have ba := (Below.refl w.heap.size w).alloc (bc1 _) (.cells #[] 3)
  go_wp2_with (at_builtin; refine aj0 rfl _ _ rfl Try.underlying23 a07 rfl (by omega) rfl (S8 w #[] 0 1 _ rfl rfl (by omega)).1 rfl (h.below ba) aS3 (by omega) (by omega) (by simp) ?_; rintro a4 q4 w4 o4 b4 - -)
  go_ret
  refine ⟨_, rfl, F0.mk' (by simpa using o4), ba.trans b4⟩
theorem F6 (e : k5) : t7.ok Try.prog ⟨192, [.agg [.v (.int .i64 e.kind), .v (.int .i64 e.value), .ref 0]], [.dat (.exprs e.kids)], [.dat (.exprs e.kids)], .v (.bool (noneB e))⟩ := by
  refine M4 17 Try.func192 [dE e.kids] [(0, eA e 0)] fun G => ?_; refine wp_seq (B3 G l5 [0, 1] [dE e.kids, .box (eL e 0)] [(1, .ptr 1 0), (2, bA false)] fun G => b5 (wp_seq ?_)); cases h0 : (e.kind == 0)
  · have q0 := ne_of_beq_false h0; refine B3 G (L9 (fc h0 (fc (b := false) rfl fz)) (us [(4, 6, 0), (1007, 1007, 0), (9, 12, 1), (1013, 1013, 1)])) [0] [dE e.kids] [(2, bA false)] fun G => b5 (wp_ret ?_); exact A8 false G [0] (by rw [bd7]; simp [noneB, h0, q0]; done)
  ·
   have q0 := eq_of_beq h0; cases h1 : (e.value == 0)
   · have q1 := ne_of_beq_false h1; refine B3 G (L9 (fc h0 (fc h1 fz)) (us [(4, 6, 0), (1007, 1007, 0), (9, 12, 1), (1013, 1013, 1)])) [0] [dE e.kids] [(2, bA false)] fun G => b5 (wp_ret ?_); exact A8 false G [0] (by rw [bd7]; simp [noneB, h0, q0, h1, q1]; done)
   · have q1 := eq_of_beq h1; refine B3 G (L9 (fc h0 (fc h1 fz)) (us [(4, 6, 0), (1007, 1007, 0), (9, 12, 1), (1013, 1013, 1)])) [0] [dE e.kids] [(2, bA ((e.kids.length : Int) == 0))] fun G => b5 (wp_ret ?_); exact A8 ((e.kids.length : Int) == 0) G [0] (by rw [bd7]; simp [noneB, h0, q0, h1, q1]; done)
theorem X1 (e : k5) : t7.ok Try.prog ⟨239, [.agg [.v (.int .i64 e.kind), .v (.int .i64 e.value), .ref 0]], [.dat (.exprs e.kids)], [.dat (.exprs e.kids)], .v (.bool (noneB e))⟩ := by
  refine M4 17 Try.func239 [dE e.kids] [(0, eA e 0)] fun G => ?_; refine wp_seq (B3 G l5 [0, 1] [dE e.kids, .box (eL e 0)] [(1, .ptr 1 0), (2, bA false)] fun G => b5 (wp_seq ?_)); cases h0 : (e.kind == 0)
  · have q0 := ne_of_beq_false h0; refine B3 G (L9 (fc h0 (fc (b := false) rfl fz)) (us [(4, 6, 0), (1007, 1007, 0), (9, 12, 1), (1013, 1013, 1)])) [0] [dE e.kids] [(2, bA false)] fun G => b5 (wp_ret ?_); exact A8 false G [0] (by rw [bd7]; simp [noneB, h0, q0]; done)
  ·
   have q0 := eq_of_beq h0; cases h1 : (e.value == 0)
   · have q1 := ne_of_beq_false h1; refine B3 G (L9 (fc h0 (fc h1 fz)) (us [(4, 6, 0), (1007, 1007, 0), (9, 12, 1), (1013, 1013, 1)])) [0] [dE e.kids] [(2, bA false)] fun G => b5 (wp_ret ?_); exact A8 false G [0] (by rw [bd7]; simp [noneB, h0, q0, h1, q1]; done)
   · have q1 := eq_of_beq h1; refine B3 G (L9 (fc h0 (fc h1 fz)) (us [(4, 6, 0), (1007, 1007, 0), (9, 12, 1), (1013, 1013, 1)])) [0] [dE e.kids] [(2, bA ((e.kids.length : Int) == 0))] fun G => b5 (wp_ret ?_); exact A8 ((e.kids.length : Int) == 0) G [0] (by rw [bd7]; simp [noneB, h0, q0, h1, q1]; done)
theorem ag0 (k : Int) : t7.ok Try.prog ⟨210, [.v (.int .i64 k)], [], [], .v (.int .i64 (E2 k))⟩ := by
  refine M4 23 Try.func210 [] [(0, iA k)] fun G => ?_; refine wp_seq (m7 G l5 [(2, iA 0)] fun G => b5 (wp_seq (wp_block (wp_seq ?_)))); cases h0 : (k == 1)
  ·
   have q0 := ne_of_beq_false h0; refine m7 G (L9 (fc h0 fz) [(3, 0), (4, 0), (1005, 0)]) [(3, bA (k == 2))] fun G => b5 (rcE G (fun h1 q1 => ?_) fun h1 q1 => ?_)
   ·
    refine wp_seq (m7 G l5 [(10, bA (k == 3))] fun G => b5 (rcE G (fun h2 q2 => ?_) fun h2 q2 => ?_))
    ·
     refine wp_seq ?_; cases h3 : (decide (k ≥ 4))
     ·
      have q3 := Y9 h3; refine m7 G (L9 (fc h3 fz) [(3, 0), (4, 0), (1005, 0)]) [(13, bA false)] fun G => b5 (rF G false (by kernel_rfl) (wp_seq (Q3 G l5 [(2, iA 0), (20, bA (k == 11))] fun G => b5 ?_))); cases h4 : (k == 11)
      · have q4 := ne_of_beq_false h4; refine rF G _ h4 (wp_skip (G7 (b5 (wp_seq (m7 G l5 [(2, iA (-1))] fun G => b5 (wp_ret ?_)))))); exact Z4 (-1) G [] (by unfold E2; (repeat' split) <;> omega)
      · have q4 := eq_of_beq h4; exact False.elim (by omega)
     ·
      have q3 := Y8 h3; refine m7 G (L9 (fc h3 fz) [(3, 0), (4, 0), (1005, 0)]) [(13, bA (decide (k ≤ 10)))] fun G => b5 (rcD G (fun h5 q5 => ?_) fun h5 q5 => ?_)
      ·
       refine wp_seq (m7 G l5 [(20, bA (k == 11))] fun G => b5 (rcE G (fun h6 q6 => ?_) fun h6 q6 => ?_))
       · refine wp_skip (G7 (b5 (wp_seq (m7 G l5 [(2, iA (-1))] fun G => b5 (wp_ret ?_))))); exact Z4 (-1) G [] (by unfold E2; (repeat' split) <;> omega)
       · refine wp_seq (m7 G l5 [(2, iA 3)] fun G => b5 (wp_ret (D3 (m5 ?_)))); exact Z4 3 G [] (by unfold E2; (repeat' split) <;> omega)
      · refine wp_seq (m7 G l5 [(2, iA 2)] fun G => b5 (wp_ret (D3 (m5 ?_)))); exact Z4 2 G [] (by unfold E2; (repeat' split) <;> omega)
    · refine wp_seq (m7 G l5 [(2, iA 1)] fun G => b5 (wp_ret (D3 (m5 ?_)))); exact Z4 1 G [] (by unfold E2; (repeat' split) <;> omega)
   · refine wp_seq (m7 G l5 [] fun G => b5 (wp_ret (D3 (m5 ?_)))); exact Z4 0 G [] (by unfold E2; (repeat' split) <;> omega)
  · have q0 := eq_of_beq h0; refine m7 G (L9 (fc h0 fz) [(3, 0), (4, 0), (1005, 0)]) [(3, bA true)] fun G => b5 (rT G true (by kernel_rfl) (wp_seq (m7 G l5 [] fun G => b5 (wp_ret (D3 (m5 ?_)))))); exact Z4 0 G [] (by unfold E2; (repeat' split) <;> omega)
theorem am9 (e : k5) : t7.ok Try.prog ⟨212, [.agg [.v (.int .i64 e.kind), .v (.int .i64 e.value), .ref 0]], [.dat (.exprs e.kids)], [.dat (.exprs e.kids)], .v (.bool (I6 e))⟩ := by
 refine M4 11 Try.func212 [dE e.kids] [(0, eA e 0)] fun G => ?_; refine wp_seq (B3 G l5 [0, 1] [dE e.kids, .box (eL e 0)] [(1, .ptr 1 0), (2, bA false)] fun G => b5 (wp_seq ?_)); cases h0 : (e.kind == 1)
 ·have q0 := ne_of_beq_false h0; refine B3 G (L9 (fc h0 fz) [(4, 0), (5, 0), (6, 0), (1007, 0)]) [0] [dE e.kids] [(2, bA (e.kind == 2))] fun G => b5 (wp_ret ?_); exact A8 (e.kind == 2) G [0] (by rw [bd7]; simp [I6, h0, q0]; done)
 ·have q0 := eq_of_beq h0; refine B3 G (L9 (fc h0 fz) [(4, 0), (5, 0), (6, 0), (1007, 0)]) [0] [dE e.kids] [(2, bA true)] fun G => b5 (wp_ret ?_); exact A8 true G [0] (by rw [bd7]; simp [I6, h0, q0]; done)
theorem aM0 (vs ars : List Int) (b : List b6) (k : Int) : t7.ok Try.prog ⟨211, [.agg [.ref 0, .ref 1, .ref 2], .v (.int .i64 k)], [.dat (.ints vs), .dat (.ints ars), .dat (.stmts b)], [.dat (.ints vs), .dat (.ints ars), .dat (.stmts b)], .v (.int .i64 (I4 vs.length ars.length k))⟩ := by
  refine M4 18 Try.func211 [dI vs, dI ars, dT b] [(0, pA 0), (1, iA k)] fun G => ?_; refine wp_seq (B3 G l5 (rg 4) [dI vs, dI ars, dT b, .box (pL 0)] [(1, iA k), (2, .ptr 3 0), (4, iA 0)] fun G => b5 (wp_seq (wp_seq (m7 G l5 [(5, iA k)] fun G => b5 (wp_block (wp_seq (m7 G l5 [(6, bA (k == 1))] fun G => b5 (rcE G (fun h0 q0 => ?_) fun h0 q0 => ?_))))))))
  ·
   refine wp_seq (m7 G l5 [(8, bA (k == 2))] fun G => b5 (rcE G (fun h1 q1 => ?_) fun h1 q1 => ?_))
   ·
    refine wp_seq (m7 G l5 [(13, bA (k == 3))] fun G => b5 (rcE G (fun h2 q2 => ?_) fun h2 q2 => ?_))
    · refine wp_skip (G7 (b5 (wp_seq (B3 G l5 [0, 1, 2] [dI vs, dI ars, dT b] [(4, iA 1)] fun G => b5 (wp_ret ?_))))); exact Z4 1 G [0, 1, 2] (by unfold I4; (repeat' split) <;> omega)
    · refine wp_seq (B3 G l5 [0, 1, 2] [dI vs, dI ars, dT b] [(4, iA (ars.length : Int))] fun G => b5 (wp_ret (D3 (m5 ?_)))); exact Z4 ((ars.length : Int)) G [0, 1, 2] (by unfold I4; (repeat' split) <;> omega)
   · refine wp_seq (B3 G l5 [0, 1, 2] [dI vs, dI ars, dT b] [(4, iA (vs.length : Int))] fun G => b5 (wp_ret (D3 (m5 ?_)))); exact Z4 ((vs.length : Int)) G [0, 1, 2] (by unfold I4; (repeat' split) <;> omega)
  · refine wp_seq (B3 G l5 [0, 1, 2] [dI vs, dI ars, dT b] [(4, iA 256)] fun G => b5 (wp_ret (D3 (m5 ?_)))); exact Z4 256 G [0, 1, 2] (by unfold I4; (repeat' split) <;> omega)
theorem ae1 {α : Type} {l : List α} {k : Nat} {p : α → Bool} {z : α} (h : (l.take k).all p = true) (hk : k < l.length) (hp : p (l.getD k z) = true) : (l.take (k + 1)).all p = true := by
 rw [R4 p l k hk, h, ← t2 (d := z) hk, hp]; rfl
theorem an6 {α : Type} {l : List α} {k : Nat} {p : α → Bool} (h : (l.take k).all p = true) (hk : l.length ≤ k) : l.all p = true := by
 rw [bc3 hk] at h; exact h
section
variable {nv na d : Nat} {e : k5}
theorem aV9 (h : ¬ (e.kids.length : Int) = E2 e.kind) : m6 nv na (d + 1) e = false := by simp [m6, E1, h]
theorem aV8 (h : e.value < 0) : m6 nv na (d + 1) e = false := by
 have : ¬ 0 ≤ e.value := by omega
 simp [m6, E1, this]
theorem aV7 (h : I4 nv na e.kind ≤ e.value) : m6 nv na (d + 1) e = false := by
 have : ¬ e.value < I4 nv na e.kind := by omega
 simp [m6, E1, this]
theorem aV6 {k : Nat} {z : k5} (hk : k < e.kids.length) (h : m6 nv na d (e.kids.getD k z) = false) : m6 nv na (d + 1) e = false := by
 rw [t2 hk] at h
 have : e.kids.all (m6 nv na d) = false := ah8 hk h
 simp [m6, this]
theorem aB9 (h1 : (e.kids.length : Int) = E2 e.kind) (h2 : ¬ e.value < 0) (h3 : ¬ I4 nv na e.kind ≤ e.value) : E1 nv na e = true := by
 unfold E1; rw [decide_eq_true h1, decide_eq_true (by omega), decide_eq_true (by omega)]; rfl
theorem aV5 (hn : E1 nv na e = true) (ha : e.kids.all (m6 nv na d) = true) (h : ¬ e.kind = 3) : m6 nv na (d + 1) e = true := by
 rw [m6, hn, ha]; simp [S7, h]
theorem aV4 (hn : E1 nv na e = true) (ha : e.kids.all (m6 nv na d) = true) (h : e.kind = 3) (hl : 0 < e.kids.length) : m6 nv na (d + 1) e = I6 (e.kids.getD 0 be5) := by
 rw [m6, hn, ha, aq0 h hl, t2 hl]; simp [I6]
theorem aq9 (h1 : (e.kids.length : Int) = E2 e.kind) (h : e.kind = 3) : 0 < e.kids.length := by
 rw [h] at h1; simp [E2] at h1; omega
end
theorem aF4 (vs ars : List Int) (b : List b6) (e : k5) (n : Int) (hn : n = 0) : t7.ok Try.prog ⟨167, [.agg [.ref 0, .ref 1, .ref 2], .agg [.v (.int .i64 e.kind), .v (.int .i64 e.value), .ref 3], .v (.int .i64 n)], [.dat (.ints vs), .dat (.ints ars), .dat (.stmts b), .dat (.exprs e.kids)], [.dat (.ints vs), .dat (.ints ars), .dat (.stmts b), .dat (.exprs e.kids)], .v (.bool (m6 vs.length ars.length 0 e))⟩ := by
 have h100 : decide (n < 1) = true := by simp; omega
 refine M4 60 Try.func167 [dI vs, dI ars, dT b, dE e.kids] [(0, pA 0), (1, eA e 3), (2, iA n)] fun G => ?_; refine wp_seq (B3 G l5 [0, 1, 2, 3, 4, 12] [dI vs, dI ars, dT b, dE e.kids, .box (pL 0), .box (eL e 3)] [(2, iA n), (3, .ptr 4 0), (4, .ptr 5 0), (6, bA false)] fun G => b5 (wp_seq (wp_seq (aP7 G (L9 (fc (a := decide (n < 1)) (b := true) (by assumption) (fc (b := true) rfl fz)) (us [(3, 9, 0), (1010, 1010, 0), (12, 14, 1), (1015, 1015, 1), (17, 23, 1), (1024, 1024, 1)])) [0, 1, 3, 7, 15, 31, 7, 71, 199, 511, 1023, 2047, 4095, 8191, 16383, 32767, 65535, 131071, 262143, 131071, 131071, 1179647, 3801087, 8388607, 16777215] [(32, bA true)] fun G => b5 (rT G true (by kernel_rfl) (wp_seq (m7 G l5 [] fun G => b5 (wp_ret (m5 ?_))))))))); exact rxr G (rg 4)
theorem aF3 (vs ars : List Int) (b : List b6) (d : Nat) (hd : d ≤ 5) (ih : ∀ (e : k5) (n : Int), n = d → t7.ok Try.prog ⟨167, [.agg [.ref 0, .ref 1, .ref 2], .agg [.v (.int .i64 e.kind), .v (.int .i64 e.value), .ref 3], .v (.int .i64 n)], [.dat (.ints vs), .dat (.ints ars), .dat (.stmts b), .dat (.exprs e.kids)], [.dat (.ints vs), .dat (.ints ars), .dat (.stmts b), .dat (.exprs e.kids)], .v (.bool (m6 vs.length ars.length d e))⟩)
    (e : k5) (n : Int) (hn : n = (d + 1 : Nat)) : t7.ok Try.prog ⟨167, [.agg [.ref 0, .ref 1, .ref 2], .agg [.v (.int .i64 e.kind), .v (.int .i64 e.value), .ref 3], .v (.int .i64 n)], [.dat (.ints vs), .dat (.ints ars), .dat (.stmts b), .dat (.exprs e.kids)], [.dat (.ints vs), .dat (.ints ars), .dat (.stmts b), .dat (.exprs e.kids)], .v (.bool (m6 vs.length ars.length (d + 1) e))⟩ := by
  have h100 : decide (n < 1) = false := by simp; omega
  refine M4 60 Try.func167 [dI vs, dI ars, dT b, dE e.kids] [(0, pA 0), (1, eA e 3), (2, iA n)] fun G => ?_; refine wp_seq (B3 G l5 [0, 1, 2, 3, 4, 12] [dI vs, dI ars, dT b, dE e.kids, .box (pL 0), .box (eL e 3)] [(2, iA n), (3, .ptr 4 0), (4, .ptr 5 0), (6, bA false)] fun G => b5 (wp_seq (wp_seq ?_))); cases h0 : ((e.kids.length : Int) != E2 e.kind)
  ·
   have q0 := bne_eq_false_iff_eq.1 h0; cases h1 : (decide (e.value < 0))
   ·
    have q1 := Y9 h1; refine aP7 G (E4 (A3 8 [] (ag0 e.kind) (A3 22 [0, 1, 2] (aM0 vs ars b e.kind) E3)) (fc (a := decide (n < 1)) (b := false) (by assumption) (fc h0 (fc h1 fz))) (us [(3, 9, 0), (1010, 1010, 0), (12, 14, 1), (1015, 1015, 1), (17, 23, 2), (1024, 1024, 2)])) [0, 1, 3, 7, 15, 31, 7, 71, 199, 511, 1023, 2047, 4095, 8191, 16383, 32767, 65535, 131071, 262143, 131071, 131071, 1179647, 3801087, 8388607, 16777215] [(32, bA (decide (e.value ≥ I4 vs.length ars.length e.kind)))] fun G => b5 (rcD G (fun h2 q2 => ?_) fun h2 q2 => ?_)
    ·
     refine wp_skip (b5 (wp_seq (wp_seq (Q3 G l5 [(2, iA n), (3, .ptr 4 0), (4, .ptr 5 0), (6, bA false), (7, iA 0)] fun G => b5 (wp_block ?_))))); refine D2 (κ := Nat) (fun k => k ≤ e.kids.length ∧ (e.kids.take k).all (m6 vs.length ars.length d) = true) (fun k => e.kids.length - k) (fun k => [dI vs, dI ars, dT b, dE e.kids, .box (pL 0), .box (eL e 3)]) (fun k => [(2, iA n), (3, .ptr 4 0), (4, .ptr 5 0), (6, bA false), (7, iA k)]) 0 (by simp [h100, h0, h1, h2]) (A6.at G _ _) ?_; clear G; intro k ρ a w hp G; have hlen : e.kids.length ≤ 9223372036854775807 := G.len 3 (d := .exprs e.kids) (by kernel_rfl); have hnode := aB9 (nv := vs.length) (na := ars.length) q0 q1 q2; refine wp_seq (wp_seq (Q3 G l5 [(2, iA n), (3, .ptr 4 0), (4, .ptr 5 0), (6, bA false), (7, iA k), (37, bA (decide ((k : Int) < e.kids.length)))] fun G => b5 (rcD G (fun h3 q3 => ?_) fun h3 q3 => ?_)))
     ·
      refine wp_exit (C7 (C7 (C5 (b5 (wp_seq ?_))))); cases h4 : (e.kind != 3)
      · have q4 := bne_eq_false_iff_eq.1 h4; refine rA1 G (E4 (A3 8 [62] (am9 (e.kids.getD 0 be5)) E3) (fc h4 fz) (us [(4, 8, 0), (1009, 1009, 0)])) (rg 4) [dI vs, dI ars, dT b, dE e.kids] [(6, bA (I6 (e.kids.getD 0 be5)))] (iX 0 0 e.kids.length []) (iK (by have := aq9 q0 (by omega); omega) bc4) fun G => b5 (wp_ret ?_); exact A8 (I6 (e.kids.getD 0 be5)) G (rg 4) (aV4 hnode (an6 hp.2 (by omega)) (by omega) (aq9 q0 (by omega)))
      · have q4 := bne_iff_ne.1 h4; refine B3 G (L9 (fc h4 fz) (us [(4, 8, 0), (1009, 1009, 0)])) (rg 4) [dI vs, dI ars, dT b, dE e.kids] [(6, bA true)] fun G => b5 (wp_ret ?_); exact A8 true G (rg 4) (aV5 hnode (an6 hp.2 (by omega)) (by omega))
     ·
      refine wp_skip (b5 (wp_seq (wp_block (wp_seq (aK4 G (Q8 8 [0, 1, 2, 46] (ih (e.kids.getD k be5) (n - 1) (by omega))) [0, 0, 2, 0, 14, 30, 0, 64, 255, 511] [(49, .v (.bool !m6 vs.length ars.length d (e.kids.getD k be5)))] (iX k k e.kids.length ((wO (n - 1)) :: [])) (iK (by omega) (o1 (by omega))) fun G => b5 ?_))))); cases h5 : (!m6 vs.length ars.length d (e.kids.getD k be5))
      · have q5 : (m6 vs.length ars.length d (e.kids.getD k be5)) = true := (Eq.mp (bc9 _) h5); refine rF G _ h5 (wp_skip (G7 (b5 (K0 G l5 [(7, iA ((k : Int) + 1))] [wO ((k : Int) + 1)] (o1 (by omega)) fun G => b5 ?_)))); exact rxn G (k + 1) (⟨by omega, ae1 hp.2 (by omega) (by assumption)⟩) (by omega) (rg 6)
      · have q5 : (m6 vs.length ars.length d (e.kids.getD k be5)) = false := (Eq.mp (bc7 _) h5); refine rT G _ h5 (wp_seq (m7 G l5 [] fun G => b5 (wp_ret (D3 (m5 (m5 (D3 (m5 ?_)))))))); exact A8 false G (rg 4) (aV6 (k := k) (by omega) (by assumption))
    · refine wp_seq (m7 G l5 [] fun G => b5 (wp_ret (m5 ?_))); exact A8 false G (rg 4) (aV7 (by omega))
   · have q1 := Y8 h1; refine aP7 G (E4 (A3 8 [] (ag0 e.kind) E3) (fc (a := decide (n < 1)) (b := false) (by assumption) (fc h0 (fc h1 fz))) (us [(3, 9, 0), (1010, 1010, 0), (12, 14, 1), (1015, 1015, 1), (17, 23, 2), (1024, 1024, 2)])) [0, 1, 3, 7, 15, 31, 7, 71, 199, 511, 1023, 2047, 4095, 8191, 16383, 32767, 65535, 131071, 262143, 131071, 131071, 1179647, 3801087, 8388607, 16777215] [(32, bA true)] fun G => b5 (rT G true (by kernel_rfl) (wp_seq (m7 G l5 [] fun G => b5 (wp_ret (m5 ?_))))); exact A8 false G (rg 4) (aV8 (by omega))
  · have q0 := bne_iff_ne.1 h0; refine aP7 G (E4 (A3 8 [] (ag0 e.kind) E3) (fc (a := decide (n < 1)) (b := false) (by assumption) (fc h0 (fc (b := true) rfl fz))) (us [(3, 9, 0), (1010, 1010, 0), (12, 14, 1), (1015, 1015, 1), (17, 23, 2), (1024, 1024, 2)])) [0, 1, 3, 7, 15, 31, 7, 71, 199, 511, 1023, 2047, 4095, 8191, 16383, 32767, 65535, 131071, 262143, 131071, 131071, 1179647, 3801087, 8388607, 16777215] [(32, bA true)] fun G => b5 (rT G true (by kernel_rfl) (wp_seq (m7 G l5 [] fun G => b5 (wp_ret (m5 ?_))))); exact A8 false G (rg 4) (aV9 (by omega))
theorem ax8 (vs ars : List Int) (b : List b6) : ∀ (d : Nat), d ≤ 5 → ∀ (e : k5) (n : Int), n = d → t7.ok Try.prog ⟨167, [.agg [.ref 0, .ref 1, .ref 2], .agg [.v (.int .i64 e.kind), .v (.int .i64 e.value), .ref 3], .v (.int .i64 n)], [.dat (.ints vs), .dat (.ints ars), .dat (.stmts b), .dat (.exprs e.kids)], [.dat (.ints vs), .dat (.ints ars), .dat (.stmts b), .dat (.exprs e.kids)], .v (.bool (m6 vs.length ars.length d e))⟩
 | 0, _, e, n, hn => aF4 vs ars b e n (by omega)
 | d + 1, hd, e, n, hn => aF3 vs ars b d (by omega) (ax8 vs ars b d (by omega)) e n hn
theorem am8 (vs ars : List Int) (b : List b6) (ky vy : Int) (ks : List k5) (n : Int) (hn : n = 5) : t7.ok Try.prog (N0 167 [pA 0, .agg [iA ky, iA vy, .ref 3], iA n] [dI vs, dI ars, dT b, dE ks] (bA (m6 vs.length ars.length 5 ⟨ky, vy, ks⟩))) := ax8 vs ars b 5 (by omega) ⟨ky, vy, ks⟩ n hn
def cnP (d : Nat) (ks : List k5) (k : Nat) : Nat := 1 + ((ks.take k).map (V7 d)).sum
theorem a84 (d : Nat) (ks : List k5) : cnP d ks 0 = 1 := rfl
theorem az0 {d : Nat} {ks : List k5} {k : Nat} (hk : k < ks.length) : cnP d ks (k + 1) = cnP d ks k + V7 d (ks.getD k be5) := by
 unfold cnP
 rw [I2 ks k hk, List.map_append, List.sum_append, t2 hk]
 simp; omega
theorem aY9 {d : Nat} {e : k5} {k : Nat} (hk : e.kids.length ≤ k) : cnP d e.kids k = V7 (d + 1) e := by
 unfold cnP; rw [bc3 hk, V7]
section
variable {nv na d : Nat} {e : k5}
theorem aF0 (he : m6 nv na (d + 1) e = true) {k : Nat} (hk : k < e.kids.length) : m6 nv na d (e.kids.getD k be5) = true := by
 rw [t2 hk]; exact (ab6 he).2 _ (bd2 hk)
theorem a83 (hd : d ≤ 5) (he : m6 nv na d e = true) : V7 d e ≤ 1024 := by
 rw [ay9 nv na d e he]
 refine be0 (aO7 nv na d e he) ?_
 exact be0 (Nat.pow_le_pow_right (by decide) hd) (by decide)
theorem a16 (hd : d ≤ 4) (he : m6 nv na (d + 1) e = true) : ∀ k : Nat, k ≤ e.kids.length → cnP d e.kids k ≤ 1 + 1024 * k
 | 0, _ => by rw [a84]; omega
 | k + 1, hk => by
  have h := a16 hd he k (by omega)
  have h2 := a83 (by omega) (aF0 he (show k < e.kids.length by omega))
  rw [az0 (by omega)]
  omega
end
abbrev cnC (d : Nat) (e : k5) (n : Int) : t7 := N0 168 [eA e 0, iA n] (eS e) (iA (V7 d e : Nat))
theorem aK3 (nv na d : Nat) (hd : d ≤ 4) (ih : ∀ (e : k5), m6 nv na d e = true → ∀ n : Int, n = d → t7.ok Try.prog (cnC d e n)) (e : k5) (he : m6 nv na (d + 1) e = true) (n : Int) (hn : n = (d + 1 : Nat)) : t7.ok Try.prog (cnC (d + 1) e n) := by
  have hk3 := (ab6 he).1; refine M4 29 Try.func168 [dE e.kids] [(0, eA e 0), (1, iA n)] fun G => ?_; refine wp_seq (B3 G l5 [0, 1] [dE e.kids, .box (eL e 0)] [(1, iA n), (2, .ptr 1 0), (4, iA 0)] fun G => b5 (wp_seq (m7 G l5 [(5, iA 1)] fun G => b5 (wp_seq (wp_seq (Q3 G l5 [(1, iA n), (2, .ptr 1 0), (4, iA 0), (5, iA 1), (6, iA 0)] fun G => b5 (wp_block ?_))))))); refine D2 (κ := Nat) (fun k => k ≤ e.kids.length) (fun k => e.kids.length - k) (fun k => [dE e.kids, .box (eL e 0)]) (fun k => [(1, iA n), (2, .ptr 1 0), (4, iA 0), (5, iA (cnP d e.kids k : Nat)), (6, iA k)]) 0 (by omega) (A6.at G _ _) ?_; clear G; intro k ρ a w hp G; replace G := A6.at G [dE e.kids, .box (eL e 0)] [(1, iA n), (2, .ptr 1 0), (4, iA 0), (5, iA (↑(cnP d e.kids k) : Int)), (6, iA k)]; have hcb := a16 hd he k hp; refine wp_seq (wp_seq ?_); cases h0 : (decide ((k : Int) < e.kids.length))
  · have q0 := Y9 h0; refine m7 G (L9 (fc h0 fz) [(6, 0), (7, 0), (1008, 0)]) [(15, bA false)] fun G => b5 (rF G false (by kernel_rfl) (wp_exit (C7 (C7 (C5 (b5 (wp_seq (B3 G l5 [0] [dE e.kids] [(4, iA (↑(cnP d e.kids k) : Int))] fun G => b5 (wp_ret ?_))))))))); exact Z4 ((↑(cnP d e.kids k) : Int)) G [0] (by rw [← aY9 (k := k) (by omega)]; done)
  ·
   have q0 := Y8 h0; refine Q3 G (L9 (fc h0 fz) [(6, 0), (7, 0), (1008, 0)]) [(1, iA n), (2, .ptr 1 0), (4, iA 0), (5, iA (↑(cnP d e.kids k) : Int)), (6, iA k), (15, bA (decide (n > 0)))] fun G => b5 ?_; cases h1 : (decide (n > 0))
   · have q1 := Y9 h1; exact False.elim (by omega)
   · have q1 := Y8 h1; refine rT G _ h1 (wp_skip (b5 (wp_seq (wp_block (K0 G (Q8 8 [42] (ih (e.kids.getD k be5) (aF0 he (by omega)) (n - 1) (by omega))) [(5, iA ((↑(cnP d e.kids k) : Int) + (↑(V7 d (e.kids.getD k be5)) : Int)))] (iX k k e.kids.length ((wO (n - 1)) :: ((wO ((↑(cnP d e.kids k) : Int) + (↑(V7 d (e.kids.getD k be5)) : Int))) :: []))) (iK (by omega) ⟨oW (by omega), ⟨(by have h9 := a83 (nv := nv) (na := na) (d := d) (by omega) (aF0 he (show k < e.kids.length by omega)); exact w64 (by omega) (by omega)), bc4⟩⟩) fun G => G7 (b5 (K0 G l5 [(6, iA ((k : Int) + 1))] [wO ((k : Int) + 1)] (o1 (by omega)) fun G => b5 ?_))))))); exact rxn G (k + 1) (by omega) (by omega) [0, 1] (ht := by have e1 : ((↑(cnP d e.kids (k + 1)) : Int) : Int) = ((↑(cnP d e.kids k) : Int) + (↑(V7 d (e.kids.getD k be5)) : Int)) := (by rw [az0 (by omega)]; omega); (first | rw [e1] | simp only [e1]) <;> rfl)
theorem ax9 (nv na : Nat) : ∀ (d : Nat), d ≤ 5 → ∀ (e : k5), m6 nv na d e = true → ∀ n : Int, n = d → t7.ok Try.prog (cnC d e n)
 | 0, _, e, h, _, _ => by simp [m6] at h
 | d + 1, hd, e, h, n, hn => aK3 nv na d (by omega) (ax9 nv na d (by omega)) e h n hn
theorem aF5 (nv na : Nat) (ky vy : Int) (ks : List k5) (n : Int) (hn : n = 5) (h : m6 nv na 5 ⟨ky, vy, ks⟩ = true) : t7.ok Try.prog (N0 168 [.agg [iA ky, iA vy, .ref 0], iA n] [dE ks] (iA (V7 5 ⟨ky, vy, ks⟩ : Nat))) := ax9 nv na 5 (by omega) ⟨ky, vy, ks⟩ h n hn
theorem ba3 {nv na : Nat} {e : k5} (h : m6 nv na 5 ⟨e.kind, e.value, e.kids⟩ = false) : m9 nv na e = false := by
 rw [k5.eta] at h
 unfold m9; rw [h]; rfl
theorem ba2 {nv na : Nat} {e : k5} (h : m6 nv na 5 ⟨e.kind, e.value, e.kids⟩ = true) : m9 nv na e = decide ((V7 5 ⟨e.kind, e.value, e.kids⟩ : Int) ≤ 15) := by
 rw [k5.eta] at h ⊢
 rw [aC7, h, Bool.true_and, bd7]
 simp only [decide_eq_true_eq]; omega
section
variable {s : b6}
theorem ba9 (h : s.kind = 4) (h2 : ¬ (s.els.length : Int) = 0) : s3 s = false := by
 unfold s3; rw [if_pos (.inr h), if_pos h, decide_eq_false (p := s.els.length = 0) (by omega)]; simp
theorem bb2 (h : s.kind = 4) (h1 : s.target = 0) (h2 : (s.els.length : Int) = 0) (h3 : s.count ≥ 1) (h4 : s.count ≤ 3) (h5 : noneB s.index = true) : s3 s = noneB s.value := by
 unfold s3; rw [if_pos (.inr h), if_pos h, decide_eq_true (p := s.els.length = 0) (by omega), decide_eq_true h1, decide_eq_true (p := 1 ≤ s.count) h3, decide_eq_true h4, h5]; simp
theorem bb1 (h3 : ¬ s.kind = 3) (h4 : ¬ s.kind = 4) (b : ¬ (s.body.length : Int) > 0) (e : ¬ (s.els.length : Int) > 0) (c : s.count = 0) (h2 : ¬ s.kind = 2) : s3 s = noneB s.index := by
 unfold s3; rw [if_neg (by omega), decide_eq_true (p := s.body.length = 0) (by omega), decide_eq_true (p := s.els.length = 0) (by omega), decide_eq_true c, decide_eq_false h2]; simp
theorem bb0 (b : ¬ (s.body.length : Int) > 0) (e : ¬ (s.els.length : Int) > 0) (c : s.count = 0) (h2 : s.kind = 2) : s3 s = true := by
 unfold s3; rw [if_neg (by omega), decide_eq_true (p := s.body.length = 0) (by omega), decide_eq_true (p := s.els.length = 0) (by omega), decide_eq_true c, decide_eq_true h2]; simp
theorem ba8 (h3 : ¬ s.kind = 3) (h4 : ¬ s.kind = 4) (e : (s.els.length : Int) > 0) : s3 s = false := by
 unfold s3; rw [if_neg (by omega), decide_eq_false (p := s.els.length = 0) (by omega)]; simp
theorem ba7 (h3 : ¬ s.kind = 3) (h4 : ¬ s.kind = 4) (e : (s.body.length : Int) > 0) : s3 s = false := by
 unfold s3; rw [if_neg (by omega), decide_eq_false (p := s.body.length = 0) (by omega)]; simp
end
theorem H0 (p : l6) (e : k5) : t7.ok Try.prog (N0 100 [pA 0, eA e 3] (pS p ++ eS e) (bA (m9 p.vars.length p.arrays.length e))) := by
 have hcn := fun h => aF5 p.vars.length p.arrays.length e.kind e.value e.kids 5 rfl h
 refine M4 13 Try.func100 [dI p.vars, dI p.arrays, dT p.body, dE e.kids] [(0, pA 0), (1, eA e 3)] fun G => ?_; refine wp_seq (B3 G l5 [0, 1, 2, 3, 4, 12] [dI p.vars, dI p.arrays, dT p.body, dE e.kids, .box (pL 0), .box (eL e 3)] [(2, .ptr 4 0), (3, .ptr 5 0), (4, bA false)] fun G => b5 (wp_seq ?_)); cases h0 : (m6 p.vars.length p.arrays.length (5 : Nat) (qzE e))
 ·refine B3 G (E4 (A3 2 (rg 4) (am8 p.vars p.arrays p.body e.kind e.value e.kids 5 (by kernel_rfl)) E3) (fc h0 fz) [(4, 0), (5, 0), (6, 0), (1007, 0)]) (rg 4) [dI p.vars, dI p.arrays, dT p.body, dE e.kids] [(4, bA false)] fun G => b5 (wp_ret ?_); exact A8 false G (rg 4) (ba3 (by with_reducible assumption))
 ·refine B3 G (E4 (A3 2 (rg 4) (am8 p.vars p.arrays p.body e.kind e.value e.kids 5 (by kernel_rfl)) (A3 5 [3] (hcn (by assumption)) E3)) (fc h0 fz) [(4, 0), (5, 0), (6, 0), (1007, 0)]) (rg 4) [dI p.vars, dI p.arrays, dT p.body, dE e.kids] [(4, bA (decide ((↑(V7 5 (qzE e)) : Int) ≤ 15)))] fun G => b5 (wp_ret ?_); exact A8 (decide ((↑(V7 5 (qzE e)) : Int) ≤ 15)) G (rg 4) (ba2 (by with_reducible assumption))
abbrev ai7 (s : b6) (r0 : List It) : List It := dE s.index.kids :: dE s.value.kids :: dT s.body :: dT s.els :: r0
theorem aL9 (s : b6) : t7.ok Try.prog (N0 230 [sA s 0] (sS s) (bA (s3 s))) := by
  refine M4 74 Try.func230 (ai7 s []) [(0, sA s 0)] fun G => ?_; refine wp_seq (B3 G l5 (rg 5) (ai7 s [.box (sL s 0)]) [(1, .ptr 4 0), (2, bA false)] fun G => b5 (wp_seq ?_)); cases h0 : (s.kind == 3)
  ·
   have q0 := ne_of_beq_false h0; refine Q3 G (L9 (fc h0 fz) [(4, 0), (5, 0), (6, 0), (1007, 0)]) [(1, .ptr 4 0), (2, bA false), (3, bA (s.kind == 4))] fun G => b5 (wp_seq (wp_seq ?_)); cases h1 : (!s.kind == 4)
   ·
    have q1 : s.kind = 4 := (fun hq => eq_of_beq hq) (Eq.mp (bc9 _) h1); cases h2 : (s.kind == 4)
    · have q2 := ne_of_beq_false h2; exact False.elim (by omega)
    ·
     have q2 := eq_of_beq h2; refine m7 G (L9 (fc h1 (fc (b := false) rfl (fc h2 fz))) (us [(3, 7, 0), (12, 12, 0), (1013, 1013, 0), (15, 16, 1), (17, 19, 2), (20, 20, 1), (1020, 1020, 2), (1021, 1021, 1)])) [(33, bA (s.target != 0))] fun G => b5 (rcN G (fun h3 q3 => ?_) fun h3 q3 => ?_)
     ·
      refine wp_skip (b5 (wp_seq (wp_seq (m7 G l5 [(36, bA (s.kind == 4))] fun G => b5 (rT G _ h2 (wp_seq ?_)))))); cases h4 : ((s.els.length : Int) == 0)
      · have q4 := ne_of_beq_false h4; refine m7 G (L9 (fc h4 (fc (b := false) rfl fz)) (us [(5, 7, 0), (1008, 1008, 0), (10, 12, 1), (1013, 1013, 1), (15, 17, 1), (1018, 1018, 1), (20, 22, 1), (1023, 1023, 1)])) [] fun G => b5 (wp_ret (m5 ?_)); exact A8 false G (rg 4) (ba9 (by omega) (by omega))
      ·
       have q4 := eq_of_beq h4; cases h5 : (decide (s.count ≥ 1))
       · have q5 := Y9 h5; refine m7 G (L9 (fc h4 (fc h5 (fc (b := false) rfl fz))) (us [(5, 7, 0), (1008, 1008, 0), (10, 12, 1), (1013, 1013, 1), (15, 17, 2), (1018, 1018, 2), (20, 22, 2), (1023, 1023, 2)])) [] fun G => b5 (wp_ret (m5 ?_)); exact A8 false G (rg 4) (by rw [bd7]; simp [s3, h0, q0, h1, q1, h2, q2, h3, q3, h4, q4, h5, q5]; done)
       ·
        have q5 := Y8 h5; cases h6 : (decide (s.count ≤ 3))
        · have q6 := Y9 h6; refine m7 G (L9 (fc h4 (fc h5 (fc h6 (fc (b := false) rfl fz)))) (us [(5, 7, 0), (1008, 1008, 0), (10, 12, 1), (1013, 1013, 1), (15, 17, 2), (1018, 1018, 2), (20, 22, 3), (1023, 1023, 3)])) [] fun G => b5 (wp_ret (m5 ?_)); exact A8 false G (rg 4) (by rw [bd7]; simp [s3, h0, q0, h1, q1, h2, q2, h3, q3, h4, q4, h5, q5, h6, q6]; done)
        ·
         have q6 := Y8 h6; cases h7 : (noneB s.index)
         · refine m7 G (E4 (A3 17 [0] (X1 s.index) E3) (fc h4 (fc h5 (fc h6 (fc h7 fz)))) (us [(5, 7, 0), (1008, 1008, 0), (10, 12, 1), (1013, 1013, 1), (15, 17, 2), (1018, 1018, 2), (20, 22, 3), (1023, 1023, 3)])) [] fun G => b5 (wp_ret (m5 ?_)); exact A8 false G (rg 4) (by rw [bd7]; simp [s3, h0, q0, h1, q1, h2, q2, h3, q3, h4, q4, h5, q5, h6, q6, h7]; done)
         · refine m7 G (E4 (A3 17 [0] (X1 s.index) (A3 22 [1] (X1 s.value) E3)) (fc h4 (fc h5 (fc h6 (fc h7 fz)))) (us [(5, 7, 0), (1008, 1008, 0), (10, 12, 1), (1013, 1013, 1), (15, 17, 2), (1018, 1018, 2), (20, 22, 3), (1023, 1023, 3)])) [(2, bA (noneB s.value))] fun G => b5 (wp_ret (m5 ?_)); exact A8 (noneB s.value) G (rg 4) (bb2 (by omega) (by omega) (by omega) (by omega) (by omega) (by with_reducible assumption))
     · refine wp_seq (m7 G l5 [] fun G => b5 (wp_ret (m5 ?_))); exact A8 false G (rg 4) (by rw [bd7]; simp [s3, h0, q0, h1, q1, h2, q2, h3, q3]; done)
   ·
    have q1 : ¬ (s.kind = 4) := (fun hq => ne_of_beq_false hq) (Eq.mp (bc7 _) h1); cases h8 : (decide ((s.body.length : Int) > 0))
    ·
     have q8 := Y9 h8; cases h9 : (decide ((s.els.length : Int) > 0))
     ·
      have q9 := Y9 h9; cases h10 : (s.kind == 4)
      ·
       have q10 := ne_of_beq_false h10; refine m7 G (L9 (fc h1 (fc h8 (fc h9 (fc h10 fz)))) (us [(3, 7, 0), (8, 11, 1), (12, 12, 0), (1012, 1012, 1), (1013, 1013, 0), (15, 16, 2), (17, 19, 3), (20, 20, 2), (1020, 1020, 3), (1021, 1021, 2)])) [(33, bA false)] fun G => b5 (rF G false (by kernel_rfl) (wp_skip (b5 (wp_seq (wp_seq (m7 G l5 [(36, bA (s.kind == 4))] fun G => b5 (rF G _ h10 (wp_skip (b5 (wp_seq ?_)))))))))); cases h11 : (s.count == 0)
       · have q11 := ne_of_beq_false h11; refine B3 G (L9 (fc h11 fz) (us [(4, 7, 0), (11, 11, 0), (1012, 1012, 0)])) (rg 4) (ai7 s []) [(2, bA false)] fun G => b5 (wp_ret ?_); exact A8 false G (rg 4) (by rw [bd7]; simp [s3, h0, q0, h1, q1, h8, q8, h9, q9, h10, q10, h11, q11]; done)
       ·
        have q11 := eq_of_beq h11; cases h12 : (s.kind == 2)
        · have q12 := ne_of_beq_false h12; refine B3 G (E4 (A3 10 [0] (X1 s.index) E3) (fc h11 (fc h12 fz)) (us [(4, 7, 0), (8, 10, 1), (11, 11, 0), (1011, 1011, 1), (1012, 1012, 0)])) (rg 4) (ai7 s []) [(2, bA (noneB s.index))] fun G => b5 (wp_ret ?_); exact A8 (noneB s.index) G (rg 4) (bb1 (by omega) (by omega) (by omega) (by omega) (by omega) (by omega))
        · have q12 := eq_of_beq h12; refine B3 G (L9 (fc h11 (fc h12 fz)) (us [(4, 7, 0), (8, 10, 1), (11, 11, 0), (1011, 1011, 1), (1012, 1012, 0)])) (rg 4) (ai7 s []) [(2, bA true)] fun G => b5 (wp_ret ?_); exact A8 true G (rg 4) (bb0 (by omega) (by omega) (by omega) (by omega))
      · have q10 := eq_of_beq h10; exact False.elim (by omega)
     · have q9 := Y8 h9; refine m7 G (L9 (fc h1 (fc h8 (fc h9 fz))) (us [(3, 7, 0), (8, 11, 1), (12, 12, 0), (1012, 1012, 1), (1013, 1013, 0), (15, 16, 2), (20, 20, 2), (1021, 1021, 2)])) [(33, bA true)] fun G => b5 (rT G true (by kernel_rfl) (wp_seq (m7 G l5 [] fun G => b5 (wp_ret (m5 ?_))))); exact A8 false G (rg 4) (ba8 (by omega) (by omega) (by omega))
    · have q8 := Y8 h8; refine m7 G (L9 (fc h1 (fc h8 (fc (b := true) rfl fz))) (us [(3, 7, 0), (8, 11, 1), (12, 12, 0), (1012, 1012, 1), (1013, 1013, 0), (15, 16, 2), (20, 20, 2), (1021, 1021, 2)])) [(33, bA true)] fun G => b5 (rT G true (by kernel_rfl) (wp_seq (m7 G l5 [] fun G => b5 (wp_ret (m5 ?_))))); exact A8 false G (rg 4) (ba7 (by omega) (by omega) (by omega))
  ·
   have q0 := eq_of_beq h0; refine m7 G (L9 (fc h0 fz) [(4, 0), (5, 0), (6, 0), (1007, 0)]) [(3, bA true)] fun G => b5 (wp_seq (wp_seq (m7 G (L9 (fc (b := false) rfl (fc (b := true) rfl fz)) (us [(3, 7, 0), (12, 12, 0), (1013, 1013, 0), (15, 16, 0), (17, 19, 1), (20, 20, 0), (1020, 1020, 1), (1021, 1021, 0)])) [(33, bA (s.target != 0))] fun G => b5 (rcN G (fun h13 q13 => ?_) fun h13 q13 => ?_))))
   ·
    refine wp_skip (b5 (wp_seq (wp_seq (Q3 G l5 [(1, .ptr 4 0), (2, bA false), (36, bA (s.kind == 4))] fun G => b5 ?_)))); cases h14 : (s.kind == 4)
    ·
     have q14 := ne_of_beq_false h14; refine rF G _ h14 (wp_skip (b5 (wp_seq ?_))); cases h15 : (s.count == 0)
     · have q15 := ne_of_beq_false h15; refine B3 G (L9 (fc h15 fz) (us [(4, 7, 0), (11, 11, 0), (1012, 1012, 0)])) (rg 4) (ai7 s []) [(2, bA false)] fun G => b5 (wp_ret ?_); exact A8 false G (rg 4) (by rw [bd7]; simp [s3, h0, q0, h13, q13, h14, q14, h15, q15]; done)
     ·
      have q15 := eq_of_beq h15; cases h16 : (s.kind == 2)
      · have q16 := ne_of_beq_false h16; refine B3 G (E4 (A3 10 [0] (X1 s.index) E3) (fc h15 (fc h16 fz)) (us [(4, 7, 0), (8, 10, 1), (11, 11, 0), (1011, 1011, 1), (1012, 1012, 0)])) (rg 4) (ai7 s []) [(2, bA (noneB s.index))] fun G => b5 (wp_ret ?_); exact A8 (noneB s.index) G (rg 4) (by rw [bd7]; simp [s3, h0, q0, h13, q13, h14, q14, h15, q15, h16, q16]; done)
      · have q16 := eq_of_beq h16; exact False.elim (by omega)
    · have q14 := eq_of_beq h14; exact False.elim (by omega)
   · refine wp_seq (m7 G l5 [] fun G => b5 (wp_ret (m5 ?_))); exact A8 false G (rg 4) (by rw [bd7]; simp [s3, h0, q0, h13, q13]; done)
abbrev vbC (p : l6) (d : Nat) (ss : List b6) (n : Int) : t7 := N0 141 [pA 0, .ref 3, iA n] (pS p ++ [dT ss]) (bA (ss.all (s0 p.vars.length p.arrays.length d)))
abbrev vsC (p : l6) (d : Nat) (s : b6) (n : Int) : t7 := N0 188 [pA 0, sA s 3, iA n] (pS p ++ sS s) (bA (s0 p.vars.length p.arrays.length d s))
theorem aK2 (p : l6) (s : b6) (n : Int) (hn : n = 0) : t7.ok Try.prog (vsC p 0 s n) := by
 refine M4 96 Try.func188 [dI p.vars, dI p.arrays, dT p.body, dE s.index.kids, dE s.value.kids, dT s.body, dT s.els] [(0, pA 0), (1, sA s 3), (2, iA n)] fun G => ?_; refine wp_seq (B3 G l5 [0, 1, 2, 3, 4, 5, 6, 7, 15] [dI p.vars, dI p.arrays, dT p.body, dE s.index.kids, dE s.value.kids, dT s.body, dT s.els, .box (pL 0), .box (sL s 3)] [(2, iA n), (3, .ptr 7 0), (4, .ptr 8 0), (6, bA false)] fun G => b5 (wp_seq (wp_seq ?_))); cases h0 : (decide (n < 1))
 ·have q0 := Y9 h0; exact False.elim (by omega)
 ·have q0 := Y8 h0; refine m7 G (L9 (fc h0 fz) [(3, 0), (4, 0), (5, 0), (1006, 0)]) [(13, bA true)] fun G => b5 (rT G true (by kernel_rfl) (wp_seq (m7 G l5 [] fun G => b5 (wp_ret (m5 ?_))))); exact rxr G (rg 7)
section
variable {nv na d : Nat} {s : b6}
theorem a99 (h : s3 s = false) : s0 nv na (d + 1) s = false := by rw [s0, h]; rfl
theorem a28 (hp : s3 s = true) (h : s.kind = 1 ∨ s.kind = 5) : s0 nv na (d + 1) s = (decide (0 ≤ s.target) && decide (s.target < nv) && m9 nv na s.value) := by rw [s0, hp, if_pos h]; rfl
theorem aO4 (hp : s3 s = true) (h : s.kind = 2) : s0 nv na (d + 1) s = (decide (0 ≤ s.target) && decide (s.target < na) && m9 nv na s.index && I6 s.index && m9 nv na s.value) := by rw [s0, hp, if_neg (by omega), if_pos h]; rfl
theorem a27 (hp : s3 s = true) (h : s.kind = 3) : s0 nv na (d + 1) s = (m9 nv na s.value && s.body.all (s0 nv na d) && s.els.all (s0 nv na d)) := by rw [s0, hp, if_neg (by omega), if_neg (by omega), if_pos h]; rfl
theorem ba0 (hp : s3 s = true) (h : s.kind = 4) : s0 nv na (d + 1) s = s.body.all (s0 nv na d) := by rw [s0, hp, if_neg (by omega), if_neg (by omega), if_neg (by omega), if_pos h]; rfl
theorem a02 (hp : s3 s = true) (h : s.kind = 1 ∨ s.kind = 5) (q : ¬ s.target ≥ 0) : s0 nv na (d + 1) s = false := by rw [a28 hp h, decide_eq_false (p := 0 ≤ s.target) q]; rfl
theorem a01 (hp : s3 s = true) (h : s.kind = 1 ∨ s.kind = 5) (q : ¬ s.target < (nv : Int)) : s0 nv na (d + 1) s = false := by rw [a28 hp h, decide_eq_false q, Bool.and_false]; rfl
theorem a00 (hp : s3 s = true) (h : s.kind = 1 ∨ s.kind = 5) (q : s.target ≥ 0) (r : s.target < (nv : Int)) : s0 nv na (d + 1) s = m9 nv na s.value := by rw [a28 hp h, decide_eq_true (p := 0 ≤ s.target) q, decide_eq_true r]; rfl
theorem a67 (hp : s3 s = true) (h : s.kind = 2) (q : ¬ s.target ≥ 0) : s0 nv na (d + 1) s = false := by rw [aO4 hp h, decide_eq_false (p := 0 ≤ s.target) q]; rfl
theorem a66 (hp : s3 s = true) (h : s.kind = 2) (q : ¬ s.target < (na : Int)) : s0 nv na (d + 1) s = false := by rw [aO4 hp h, decide_eq_false q, Bool.and_false]; rfl
theorem a65 (hp : s3 s = true) (h : s.kind = 2) (q : m9 nv na s.index = false) : s0 nv na (d + 1) s = false := by rw [aO4 hp h, q, Bool.and_false]; rfl
theorem a64 (hp : s3 s = true) (h : s.kind = 2) (q : I6 s.index = false) : s0 nv na (d + 1) s = false := by rw [aO4 hp h, q, Bool.and_false]; rfl
theorem a63 (hp : s3 s = true) (h : s.kind = 2) (q : s.target ≥ 0) (r : s.target < (na : Int)) (u : m9 nv na s.index = true) (v : I6 s.index = true) : s0 nv na (d + 1) s = m9 nv na s.value := by rw [aO4 hp h, decide_eq_true (p := 0 ≤ s.target) q, decide_eq_true r, u, v]; rfl
theorem a62 (hp : s3 s = true) (h : s.kind = 3) (q : m9 nv na s.value = false) : s0 nv na (d + 1) s = false := by rw [a27 hp h, q]; rfl
theorem a61 (hp : s3 s = true) (h : s.kind = 3) (q : s.body.all (s0 nv na d) = false) : s0 nv na (d + 1) s = false := by rw [a27 hp h, q, Bool.and_false]; rfl
theorem a60 (hp : s3 s = true) (h : s.kind = 3) (q : m9 nv na s.value = true) (r : s.body.all (s0 nv na d) = true) : s0 nv na (d + 1) s = s.els.all (s0 nv na d) := by rw [a27 hp h, q, r]; rfl
theorem ba1 (h1 : ¬ s.kind = 1) (h2 : ¬ s.kind = 2) (h3 : ¬ s.kind = 3) (h4 : ¬ s.kind = 4) (h5 : ¬ s.kind = 5) : s0 nv na (d + 1) s = false := by rw [s0, if_neg (by omega), if_neg h2, if_neg h3, if_neg h4]; simp
end
abbrev K1 (p : l6) (s : b6) (r0 : List It) : List It := dI p.vars :: dI p.arrays :: dT p.body :: dE s.index.kids :: dE s.value.kids :: dT s.body :: dT s.els :: r0
theorem aO9 (p : l6) (d : Nat) (hB : ∀ (ss : List b6) (n : Int), n = d → t7.ok Try.prog (vbC p d ss n)) (s : b6) (n : Int) (hn : n = (d + 1 : Nat)) (hd : d ≤ 5) : t7.ok Try.prog (vsC p (d + 1) s n) := by
  refine M4 96 Try.func188 (K1 p s []) [(0, pA 0), (1, sA s 3), (2, iA n)] fun G => ?_; refine wp_seq (B3 G l5 [0, 1, 2, 3, 4, 5, 6, 7, 15] (K1 p s [.box (pL 0), .box (sL s 3)]) [(2, iA n), (3, .ptr 7 0), (4, .ptr 8 0), (6, bA false)] fun G => b5 (wp_seq (wp_seq ?_))); cases h0 : (decide (n < 1))
  ·
   have q0 := Y9 h0; refine m7 G (E4 (A3 4 [3, 4, 5, 6] (aL9 s) E3) (fc h0 fz) [(3, 0), (4, 0), (5, 0), (1006, 0)]) [(13, .v (.bool !s3 s))] fun G => b5 ?_; cases h1 : (!s3 s)
   ·
    have q1 : (s3 s) = true := (Eq.mp (bc9 _) h1); refine rF G _ h1 (wp_skip (b5 (wp_seq (wp_seq (m7 G l5 [(15, iA s.kind)] fun G => b5 (wp_block (wp_seq (wp_seq (m7 G l5 [(16, bA (s.kind == 1))] fun G => b5 (rcE G (fun h2 q2 => ?_) fun h2 q2 => ?_))))))))))
    ·
     refine m7 G l5 [(16, bA (s.kind == 5))] fun G => b5 (rcE G (fun h3 q3 => ?_) fun h3 q3 => ?_)
     ·
      refine wp_seq (m7 G l5 [(36, bA (s.kind == 2))] fun G => b5 (rcE G (fun h4 q4 => ?_) fun h4 q4 => ?_))
      ·
       refine wp_seq (m7 G l5 [(66, bA (s.kind == 3))] fun G => b5 (rcE G (fun h5 q5 => ?_) fun h5 q5 => ?_))
       ·
        refine wp_seq (m7 G l5 [(88, bA (s.kind == 4))] fun G => b5 (rcE G (fun h6 q6 => ?_) fun h6 q6 => ?_))
        · refine wp_skip (G7 (b5 (wp_seq (B3 G l5 (rg 7) (K1 p s []) [(6, bA false)] fun G => b5 (wp_ret ?_))))); exact A8 false G (rg 7) (ba1 (by omega) (by omega) (by omega) (by omega) (by omega))
        · refine wp_seq (rA1 G (Q8 5 [0, 1, 2, 5] (hB s.body (n - 1) (by omega))) (rg 7) (K1 p s []) [(6, bA (s.body.all (s0 p.vars.length p.arrays.length d)))] [wO (n - 1)] (o1 (by omega)) fun G => b5 (wp_ret (D3 (m5 ?_)))); exact A8 (s.body.all (s0 p.vars.length p.arrays.length d)) G (rg 7) (ba0 (by with_reducible assumption) (by omega))
       ·
        refine wp_seq ?_; cases h7 : (m9 p.vars.length p.arrays.length s.value)
        · refine B3 G (E4 (A3 3 [0, 1, 2, 4] (H0 p s.value) E3) (fc h7 (fc (b := false) rfl fz)) (us [(5, 10, 0), (1011, 1011, 0), (13, 18, 1), (1019, 1019, 1)])) (rg 7) (K1 p s []) [(6, bA false)] fun G => b5 (wp_ret (D3 (m5 ?_))); exact A8 false G (rg 7) (a62 (by with_reducible assumption) (by omega) (by with_reducible assumption))
        ·
         cases h8 : (s.body.all (s0 p.vars.length p.arrays.length d))
         · refine rA1 G (E4 (A3 3 [0, 1, 2, 4] (H0 p s.value) (A3 10 [0, 1, 2, 5] (hB s.body (n - 1) (by omega)) E3)) (fc h7 (fc h8 fz)) (us [(5, 10, 0), (1011, 1011, 0), (13, 18, 1), (1019, 1019, 1)])) (rg 7) (K1 p s []) [(6, bA false)] [wO (n - 1)] (o1 (by omega)) fun G => b5 (wp_ret (D3 (m5 ?_))); exact A8 false G (rg 7) (a61 (by with_reducible assumption) (by omega) (by with_reducible assumption))
         · refine rA1 G (E4 (A3 3 [0, 1, 2, 4] (H0 p s.value) (A3 10 [0, 1, 2, 5] (hB s.body (n - 1) (by omega)) (A3 18 [0, 1, 2, 6] (hB s.els (n - 1) (by omega)) E3))) (fc h7 (fc h8 fz)) (us [(5, 10, 0), (1011, 1011, 0), (13, 18, 1), (1019, 1019, 1)])) (rg 7) (K1 p s []) [(6, bA (s.els.all (s0 p.vars.length p.arrays.length d)))] [wO (n - 1), wO (n - 1)] (o2 (by omega)) fun G => b5 (wp_ret (D3 (m5 ?_))); exact A8 (s.els.all (s0 p.vars.length p.arrays.length d)) G (rg 7) (a60 (by with_reducible assumption) (by omega) (by with_reducible assumption) (by with_reducible assumption))
      ·
       refine wp_seq ?_; cases h9 : (decide (s.target ≥ 0))
       · have q9 := Y9 h9; refine B3 G (L9 (fc h9 (fc (b := false) rfl fz)) (us [(4, 9, 0), (1010, 1010, 0), (12, 15, 1), (1016, 1016, 1), (18, 20, 1), (1021, 1021, 1), (23, 26, 1), (1027, 1027, 1)])) (rg 7) (K1 p s []) [(6, bA false)] fun G => b5 (wp_ret (D3 (m5 ?_))); exact A8 false G (rg 7) (a67 (by with_reducible assumption) (by omega) (by omega))
       ·
        have q9 := Y8 h9; cases h10 : (decide (s.target < (p.arrays.length : Int)))
        · have q10 := Y9 h10; refine B3 G (L9 (fc h9 (fc h10 (fc (b := false) rfl fz))) (us [(4, 9, 0), (1010, 1010, 0), (12, 15, 1), (1016, 1016, 1), (18, 20, 2), (1021, 1021, 2), (23, 26, 2), (1027, 1027, 2)])) (rg 7) (K1 p s []) [(6, bA false)] fun G => b5 (wp_ret (D3 (m5 ?_))); exact A8 false G (rg 7) (a66 (by with_reducible assumption) (by omega) (by omega))
        ·
         have q10 := Y8 h10; cases h11 : (m9 p.vars.length p.arrays.length s.index)
         · refine B3 G (E4 (A3 15 (rg 4) (H0 p s.index) E3) (fc h9 (fc h10 (fc h11 (fc (b := false) rfl fz)))) (us [(4, 9, 0), (1010, 1010, 0), (12, 15, 1), (1016, 1016, 1), (18, 20, 2), (1021, 1021, 2), (23, 26, 3), (1027, 1027, 3)])) (rg 7) (K1 p s []) [(6, bA false)] fun G => b5 (wp_ret (D3 (m5 ?_))); exact A8 false G (rg 7) (a65 (by with_reducible assumption) (by omega) (by with_reducible assumption))
         ·
          cases h12 : (I6 s.index)
          · refine B3 G (E4 (A3 15 (rg 4) (H0 p s.index) (A3 20 [3] (am9 s.index) E3)) (fc h9 (fc h10 (fc h11 (fc h12 fz)))) (us [(4, 9, 0), (1010, 1010, 0), (12, 15, 1), (1016, 1016, 1), (18, 20, 2), (1021, 1021, 2), (23, 26, 3), (1027, 1027, 3)])) (rg 7) (K1 p s []) [(6, bA false)] fun G => b5 (wp_ret (D3 (m5 ?_))); exact A8 false G (rg 7) (a64 (by with_reducible assumption) (by omega) (by with_reducible assumption))
          · refine B3 G (E4 (A3 15 (rg 4) (H0 p s.index) (A3 20 [3] (am9 s.index) (A3 26 [0, 1, 2, 4] (H0 p s.value) E3))) (fc h9 (fc h10 (fc h11 (fc h12 fz)))) (us [(4, 9, 0), (1010, 1010, 0), (12, 15, 1), (1016, 1016, 1), (18, 20, 2), (1021, 1021, 2), (23, 26, 3), (1027, 1027, 3)])) (rg 7) (K1 p s []) [(6, bA (m9 p.vars.length p.arrays.length s.value))] fun G => b5 (wp_ret (D3 (m5 ?_))); exact A8 (m9 p.vars.length p.arrays.length s.value) G (rg 7) (a63 (by with_reducible assumption) (by omega) (by omega) (by omega) (by with_reducible assumption) (by with_reducible assumption))
     ·
      refine wp_seq ?_; cases h13 : (decide (s.target ≥ 0))
      · have q13 := Y9 h13; refine B3 G (L9 (fc h13 (fc (b := false) rfl fz)) (us [(4, 9, 0), (1010, 1010, 0), (12, 15, 1), (1016, 1016, 1)])) (rg 7) (K1 p s []) [(6, bA false)] fun G => b5 (wp_ret (D3 (m5 ?_))); exact A8 false G (rg 7) (a02 (by with_reducible assumption) (by omega) (by omega))
      ·
       have q13 := Y8 h13; cases h14 : (decide (s.target < (p.vars.length : Int)))
       · have q14 := Y9 h14; refine B3 G (L9 (fc h13 (fc h14 fz)) (us [(4, 9, 0), (1010, 1010, 0), (12, 15, 1), (1016, 1016, 1)])) (rg 7) (K1 p s []) [(6, bA false)] fun G => b5 (wp_ret (D3 (m5 ?_))); exact A8 false G (rg 7) (a01 (by with_reducible assumption) (by omega) (by omega))
       · have q14 := Y8 h14; refine B3 G (E4 (A3 15 [0, 1, 2, 4] (H0 p s.value) E3) (fc h13 (fc h14 fz)) (us [(4, 9, 0), (1010, 1010, 0), (12, 15, 1), (1016, 1016, 1)])) (rg 7) (K1 p s []) [(6, bA (m9 p.vars.length p.arrays.length s.value))] fun G => b5 (wp_ret (D3 (m5 ?_))); exact A8 (m9 p.vars.length p.arrays.length s.value) G (rg 7) (a00 (by with_reducible assumption) (by omega) (by omega) (by omega))
    ·
     refine wp_skip (b5 (rT G _ h2 (wp_seq ?_))); cases h15 : (decide (s.target ≥ 0))
     · have q15 := Y9 h15; refine B3 G (L9 (fc h15 (fc (b := false) rfl fz)) (us [(4, 9, 0), (1010, 1010, 0), (12, 15, 1), (1016, 1016, 1)])) (rg 7) (K1 p s []) [(6, bA false)] fun G => b5 (wp_ret (D3 (m5 ?_))); exact A8 false G (rg 7) (a02 (by with_reducible assumption) (by omega) (by omega))
     ·
      have q15 := Y8 h15; cases h16 : (decide (s.target < (p.vars.length : Int)))
      · have q16 := Y9 h16; refine B3 G (L9 (fc h15 (fc h16 fz)) (us [(4, 9, 0), (1010, 1010, 0), (12, 15, 1), (1016, 1016, 1)])) (rg 7) (K1 p s []) [(6, bA false)] fun G => b5 (wp_ret (D3 (m5 ?_))); exact A8 false G (rg 7) (a01 (by with_reducible assumption) (by omega) (by omega))
      · have q16 := Y8 h16; refine B3 G (E4 (A3 15 [0, 1, 2, 4] (H0 p s.value) E3) (fc h15 (fc h16 fz)) (us [(4, 9, 0), (1010, 1010, 0), (12, 15, 1), (1016, 1016, 1)])) (rg 7) (K1 p s []) [(6, bA (m9 p.vars.length p.arrays.length s.value))] fun G => b5 (wp_ret (D3 (m5 ?_))); exact A8 (m9 p.vars.length p.arrays.length s.value) G (rg 7) (a00 (by with_reducible assumption) (by omega) (by omega) (by omega))
   · have q1 : (s3 s) = false := (Eq.mp (bc7 _) h1); refine rT G _ h1 (wp_seq (m7 G l5 [] fun G => b5 (wp_ret (m5 ?_)))); exact A8 false G (rg 7) (a99 (by with_reducible assumption))
  · have q0 := Y8 h0; exact False.elim (by omega)
theorem a90 {nv na d : Nat} {ss : List b6} {k : Nat} (hk : k < ss.length) (h : s0 nv na d (ss.getD k be5) = false) : ss.all (s0 nv na d) = false := by
 rw [t2 hk] at h
 exact ah8 hk h
theorem ap8 (p : l6) (d : Nat) (hd : d ≤ 5) (hS : ∀ (s : b6) (n : Int), n = d → t7.ok Try.prog (vsC p d s n)) (ss : List b6) (n : Int) (hn : n = d) : t7.ok Try.prog (vbC p d ss n) := by
  refine M4 22 Try.func141 [dI p.vars, dI p.arrays, dT p.body, dT ss] [(0, pA 0), (1, .ref 3), (2, iA n)] fun G => ?_; refine wp_seq (B3 G l5 (rg 5) [dI p.vars, dI p.arrays, dT p.body, dT ss, .box (pL 0)] [(1, .ref 3), (2, iA n), (3, .ptr 4 0), (6, bA false)] fun G => b5 (wp_seq (wp_seq (Q3 G l5 [(1, .ref 3), (2, iA n), (3, .ptr 4 0), (6, bA false), (7, iA 0)] fun G => b5 (wp_block ?_))))); refine D2 (κ := Nat) (fun k => k ≤ ss.length ∧ (ss.take k).all (s0 p.vars.length p.arrays.length d) = true) (fun k => ss.length - k) (fun k => [dI p.vars, dI p.arrays, dT p.body, dT ss, .box (pL 0)]) (fun k => [(1, .ref 3), (2, iA n), (3, .ptr 4 0), (6, bA false), (7, iA k)]) 0 (by simp) (A6.at G _ _) ?_; clear G; intro k ρ a w hp G; have hlen : ss.length ≤ 9223372036854775807 := G.len 3 (d := .stmts ss) (by kernel_rfl); refine wp_seq (wp_seq (Q3 G l5 [(1, .ref 3), (2, iA n), (3, .ptr 4 0), (6, bA false), (7, iA k), (11, bA (decide ((k : Int) < ss.length)))] fun G => b5 (rcD G (fun h0 q0 => ?_) fun h0 q0 => ?_)))
  · refine wp_exit (C7 (C7 (C5 (b5 (wp_seq (B3 G l5 (rg 4) [dI p.vars, dI p.arrays, dT p.body, dT ss] [(6, bA true)] fun G => b5 (wp_ret ?_))))))); exact A8 true G (rg 4) (an6 hp.2 (by omega))
  ·
   refine wp_skip (b5 (wp_seq (wp_block (wp_seq (aK4 G (Q8 6 [0, 1, 2, 37, 38, 39, 40] (hS (ss.getD k be5) n (by assumption))) [0, 0, 0, 6, 14, 0, 63, 127] [(21, .v (.bool !s0 p.vars.length p.arrays.length d (ss.getD k be5)))] (iX k k ss.length []) (iK (by omega) bc4) fun G => b5 ?_))))); cases h1 : (!s0 p.vars.length p.arrays.length d (ss.getD k be5))
   · have q1 : (s0 p.vars.length p.arrays.length d (ss.getD k be5)) = true := (Eq.mp (bc9 _) h1); refine rF G _ h1 (wp_skip (G7 (b5 (K0 G l5 [(7, iA ((k : Int) + 1))] [wO ((k : Int) + 1)] (o1 (by omega)) fun G => b5 ?_)))); exact rxn G (k + 1) (⟨by omega, ae1 hp.2 (by omega) (by assumption)⟩) (by omega) (rg 5)
   · have q1 : (s0 p.vars.length p.arrays.length d (ss.getD k be5)) = false := (Eq.mp (bc7 _) h1); refine rT G _ h1 (wp_seq (m7 G l5 [] fun G => b5 (wp_ret (D3 (m5 (m5 (D3 (m5 ?_)))))))); exact A8 false G (rg 4) (a90 (k := k) (by omega) (by with_reducible assumption))
theorem aI2 (p : l6) : ∀ (d : Nat), d ≤ 5 → ∀ (s : b6) (n : Int), n = d → t7.ok Try.prog (vsC p d s n)
 | 0, _, s, n, hn => aK2 p s n hn
 | d + 1, hd, s, n, hn => aO9 p d (fun ss n hn => ap8 p d (by omega) (aI2 p d (by omega)) ss n hn) s n hn (by omega)
theorem aM1 (p : l6) (ss : List b6) (n : Int) (hn : n = 5) : t7.ok Try.prog (N0 141 [pA 0, .ref 3, iA n] (pS p ++ [.dat (.stmts ss)]) (bA (ab5 p.vars.length p.arrays.length 5 ss))) :=
 ap8 p 5 (by omega) (aI2 p 5 (by omega)) ss n hn
def D0 : Nat → List b6 → Nat
 | 0, ss => ss.length
 | d + 1, ss => ss.length + (ss.map fun s => D0 d s.body + D0 d s.els).sum
def szP (d : Nat) (ss : List b6) (k : Nat) : Nat := ss.length + ((ss.take k).map fun s => D0 d s.body + D0 d s.els).sum
theorem aV0 (d : Nat) (ss : List b6) {k : Nat} (h : ss.length ≤ k) : szP d ss k = D0 (d + 1) ss := by unfold szP; rw [bc3 h, D0]
theorem aj5 {d : Nat} {ss : List b6} {k : Nat} (h : k < ss.length) : szP d ss (k + 1) = szP d ss k + (D0 d (ss.getD k be5).body + D0 d (ss.getD k be5).els) := by
 unfold szP
 rw [I2 ss k h, List.map_append, List.sum_append, t2 h]
 simp; omega
theorem aO5 : ∀ (d : Nat) (ss : List b6), D0 d ss ≤ s6 ss := by
 intro d
 induction d with
 | zero => intro ss; exact R8 ss
 | succ d ih =>
  intro ss
  induction ss with
  | nil => simp [D0]
  | cons s r ihr =>
   have h1 := ih s.body
   have h2 := ih s.els
   have h3 := ap4 s
   simp only [D0, bd8, List.sum_cons, be9, s6] at ihr ⊢
   have h4 : s6 s.body + s6 s.els ≤ szS s := by
    rcases s with ⟨_, _, _, _, _, b, e⟩
    simp only [szS, b6.body, b6.els]; omega
   omega
theorem aB5 {d : Nat} {ss : List b6} {k : Nat} : szP d ss k ≤ s6 ss := by
 refine be0 ?_ (aO5 (d + 1) ss)
 unfold szP
 rw [D0]
 have : ∀ (l : List Nat) (k : Nat), (l.take k).sum ≤ l.sum := fun l k => by
  have := List.sum_append (l₁ := l.take k) (l₂ := l.drop k)
  rw [List.take_append_drop] at this; omega
 have h := this (ss.map fun s => D0 d s.body + D0 d s.els) k
 rw [← List.map_take] at h
 omega
theorem aJ3 {ss : List b6} {k B : Nat} (h : s6 ss ≤ B) (hk : k < ss.length) : s6 (ss.getD k be5).body ≤ B ∧ s6 (ss.getD k be5).els ≤ B := by
 rw [t2 hk]
 have h1 := aG7 (bd2 hk)
 have h2 := ap4 ss[k]
 omega
theorem aL8 (ss : List b6) (n : Int) (hn : n = 1) (hb : s6 ss ≤ 1048576) : t7.ok Try.prog (N0 142 [.ref 0, iA n] [.dat (.stmts ss)] (iA (D0 0 ss : Nat))) := by
 have h100 : decide (n > 1) = false := by simp; omega
 refine M4 39 Try.func142 [dT ss] [(0, .ref 0), (1, iA n)] fun G => ?_; refine wp_seq (m7 G l5 [(4, iA 0)] fun G => b5 (wp_seq (m7 G l5 [(5, iA (ss.length : Int))] fun G => b5 (wp_seq (wp_seq (Q3 G l5 [(0, .ref 0), (1, iA n), (4, iA 0), (5, iA (ss.length : Int)), (6, iA 0)] fun G => b5 (wp_block ?_))))))); refine D2 (κ := Nat) (fun k => k = 0) (fun k => 0) (fun k => [dT ss]) (fun k => [(0, .ref 0), (1, iA n), (4, iA 0), (5, iA (ss.length : Nat)), (6, iA k)]) 0 (by kernel_rfl) (A6.at G _ _) ?_; clear G; intro k ρ a w hp G; replace G := A6.at G [dT ss] [(0, .ref 0), (1, iA n), (4, iA 0), (5, iA (ss.length : Int)), (6, iA k)]; refine wp_seq (wp_seq ?_); cases h0 : (decide ((k : Int) < ss.length))
 ·have q0 := Y9 h0; refine m7 G (L9 (fc h0 fz) [(5, 0), (6, 0), (1007, 0)]) [(16, bA false)] fun G => b5 (rF G false (by kernel_rfl) (wp_exit (C7 (C7 (C5 (b5 (wp_seq (m7 G l5 [(4, iA (ss.length : Int))] fun G => b5 (wp_ret ?_))))))))); exact rxr G [0]
 ·have q0 := Y8 h0; refine m7 G (L9 (fc h0 fz) [(5, 0), (6, 0), (1007, 0)]) [(16, bA (decide (n > 1)))] fun G => b5 (rF G (decide (n > 1)) (by assumption) (wp_exit (C7 (C7 (C5 (b5 (wp_seq (m7 G l5 [(4, iA (ss.length : Int))] fun G => b5 (wp_ret ?_))))))))); exact rxr G [0]
theorem aL6 (d : Nat) (hd : d ≤ 5) (ih : ∀ (ss : List b6) (n : Int), n = (d + 1 : Nat) → s6 ss ≤ 1048576 → t7.ok Try.prog (N0 142 [.ref 0, iA n] [.dat (.stmts ss)] (iA (D0 d ss : Nat))))
  (ss : List b6) (n : Int) (hn : n = (d + 2 : Nat)) (hb : s6 ss ≤ 1048576) : t7.ok Try.prog (N0 142 [.ref 0, iA n] [.dat (.stmts ss)] (iA (D0 (d + 1) ss : Nat))) := by
 have h100 : decide (n > 1) = true := by simp; omega
 refine M4 39 Try.func142 [dT ss] [(0, .ref 0), (1, iA n)] fun G => ?_; refine wp_seq (m7 G l5 [(4, iA 0)] fun G => b5 (wp_seq (m7 G l5 [(5, iA (ss.length : Int))] fun G => b5 (wp_seq (wp_seq (Q3 G l5 [(0, .ref 0), (1, iA n), (4, iA 0), (5, iA (ss.length : Int)), (6, iA 0)] fun G => b5 (wp_block ?_))))))); refine D2 (κ := Nat) (fun k => k ≤ ss.length) (fun k => ss.length - k) (fun k => [dT ss]) (fun k => [(0, .ref 0), (1, iA n), (4, iA 0), (5, iA (szP d ss k : Nat)), (6, iA k)]) 0 (by omega) (A6.at G _ _) ?_; clear G; intro k ρ a w hp G; replace G := A6.at G [dT ss] [(0, .ref 0), (1, iA n), (4, iA 0), (5, iA (↑(szP d ss k) : Int)), (6, iA k)]; have hlen := R8 ss; refine wp_seq (wp_seq ?_); cases h0 : (decide ((k : Int) < ss.length))
 ·have q0 := Y9 h0; refine m7 G (L9 (fc h0 fz) [(5, 0), (6, 0), (1007, 0)]) [(16, bA false)] fun G => b5 (rF G false (by kernel_rfl) (wp_exit (C7 (C7 (C5 (b5 (wp_seq (m7 G l5 [(4, iA (↑(szP d ss k) : Int))] fun G => b5 (wp_ret ?_))))))))); exact Z4 ((↑(szP d ss k) : Int)) G [0] (by have h1 := aV0 d ss (k := k) (by omega); omega)
 ·have q0 := Y8 h0; refine m7 G (L9 (fc h0 fz) [(5, 0), (6, 0), (1007, 0)]) [(16, bA (decide (n > 1)))] fun G => b5 (rT G (decide (n > 1)) (by assumption) (wp_skip (b5 (wp_seq (wp_block (aK4 G (E4 (A3 8 [41] (ih ((ss.getD k be5).body) (n - 1) (by omega) ((aJ3 hb (by omega)).1)) (A3 17 [113] (ih ((ss.getD k be5).els) (n - 1) (by omega) ((aJ3 hb (by omega)).2)) E3)) fz []) [0, 0, 0, 6, 14, 30, 0, 64, 254, 511, 0, 0, 3072, 7168, 15360, 0, 32768, 130558, 262143, 524287] [(5, iA ((↑(szP d ss k) : Int) + (↑(D0 d (ss.getD k be5).body) : Int) + (↑(D0 d (ss.getD k be5).els) : Int)))] (iX k k ss.length ((wO (n - 1)) :: ((wO ((↑(szP d ss k) : Int) + (↑(D0 d (ss.getD k be5).body) : Int))) :: (iX k k ss.length ((wO (n - 1)) :: ((wO ((↑(szP d ss k) : Int) + (↑(D0 d (ss.getD k be5).body) : Int) + (↑(D0 d (ss.getD k be5).els) : Int))) :: [])))))) (iK (by omega) ⟨oW (by omega), ⟨(by have h1 := aj5 (d := d) (ss := ss) (k := k) (by omega); have h2 := aB5 (d := d) (ss := ss) (k := k + 1); exact w64 (by omega) (by omega)), (iK (by omega) ⟨oW (by omega), ⟨(by have h1 := aj5 (d := d) (ss := ss) (k := k) (by omega); have h2 := aB5 (d := d) (ss := ss) (k := k + 1); exact w64 (by omega) (by omega)), bc4⟩⟩)⟩⟩) fun G => G7 (b5 (K0 G l5 [(6, iA ((k : Int) + 1))] [wO ((k : Int) + 1)] (o1 (by omega)) fun G => b5 ?_)))))))); exact rxn G (k + 1) (by omega) (by omega) [0] (ht := by have e1 : ((↑(szP d ss (k + 1)) : Int) : Int) = ((↑(szP d ss k) : Int) + (↑(D0 d (ss.getD k be5).body) : Int) + (↑(D0 d (ss.getD k be5).els) : Int)) := (by have h1 := aj5 (d := d) (ss := ss) (k := k) (by omega); have h2 := aB5 (d := d) (ss := ss) (k := k + 1); omega); (first | rw [e1] | simp only [e1]) <;> rfl)
theorem aL7 : ∀ d, d ≤ 5 → ∀ (ss : List b6) (n : Int), n = (d + 1 : Nat) → s6 ss ≤ 1048576 → t7.ok Try.prog (N0 142 [.ref 0, iA n] [.dat (.stmts ss)] (iA (D0 d ss : Nat))) := by
 intro d
 induction d with
 | zero => intro _ ss n hn hb; exact aL8 ss n (by omega) hb
 | succ d ih => intro hd ss n hn hb; exact aL6 d (by omega) (fun ss n hn hb => ih (by omega) ss n hn hb) ss n (by omega) hb
theorem aT8 (ss : List b6) (n : Int) (hn : n = 5) (hb : s6 ss ≤ 1048576) : t7.ok Try.prog (N0 142 [.ref 0, iA n] [.dat (.stmts ss)] (iA (D0 4 ss : Nat))) :=
 aL7 4 (by omega) ss n (by omega) hb
theorem aO6 {nv na : Nat} : ∀ (d : Nat) (ss : List b6), (∀ s ∈ ss, s0 nv na (d + 1) s = true) → D0 d ss = nSs ss := by
 intro d
 induction d with
 | zero => intro ss h; rw [ay3 h]; rfl
 | succ d ih =>
  intro ss
  induction ss with
  | nil => intro _; rfl
  | cons s r ihr =>
   intro h
   have h1 := T6 (h s bd3)
   have h2 := ih s.body fun x hx => bc8.1 h1.1 x hx
   have h3 := ih s.els fun x hx => bc8.1 h1.2 x hx
   have h4 := ihr fun x hx => h x (bd5 _ hx)
   rw [nSs, aD8, ← h2, ← h3, ← h4]
   simp [D0]; omega
theorem ah1 {p : l6} (h : G6 p.vars p.arrays = false) : K2 p = false := by simp [K2, h]
theorem aw7 {p : l6} (h : ab5 p.vars.length p.arrays.length 5 p.body = false) : K2 p = false := by simp [K2, h]
theorem aD2 {p : l6} (h1 : G6 p.vars p.arrays = true) (h2 : ab5 p.vars.length p.arrays.length 5 p.body = true) : K2 p = decide ((D0 4 p.body : Int) ≤ 60) := by
 have h3 := aO6 (nv := p.vars.length) (na := p.arrays.length) 4 p.body (fun x hx => bc8.1 h2 x hx)
 rw [K2, h1, h2, h3]
 simp
 exact ⟨fun h => by omega, fun h => by omega⟩
theorem az6 (p : l6) (n : Int) (hn : n = 5) : t7.ok Try.prog (N0 141 [pA 0, .ref 2, iA n] (pS p) (bA (ab5 p.vars.length p.arrays.length 5 p.body))) :=
 t7.dup (S := pS p) (S' := pS p) (d := .stmts p.body) (i := 2) (aM1 p p.body n hn) rfl rfl rfl (fun ρ h => by simp only [AV.vals, AV.val]; rw [show ρ 3 = ρ 2 from h]) rfl
theorem X3 (p : l6) (hb : s6 p.body ≤ 1048576) : t7.ok Try.prog (N0 67 [pA 0] (pS p) (bA (K2 p))) := by
  refine M4 17 Try.func67 [dI p.vars, dI p.arrays, dT p.body] [(0, pA 0)] fun G => ?_; refine wp_seq (B3 G l5 (rg 4) [dI p.vars, dI p.arrays, dT p.body, .box (pL 0)] [(1, .ptr 3 0), (2, bA false)] fun G => b5 (wp_seq ?_)); cases h0 : (G6 p.vars p.arrays)
  · refine B3 G (E4 (A3 1 [0, 1, 2] (af9 p) E3) (fc h0 (fc (b := false) rfl fz)) (us [(3, 6, 0), (1007, 1007, 0), (9, 12, 1), (1013, 1013, 1)])) [0, 1, 2] [dI p.vars, dI p.arrays, dT p.body] [(2, bA false)] fun G => b5 (wp_ret ?_); exact A8 false G [0, 1, 2] (ah1 (by assumption))
  ·
   cases h1 : (ab5 p.vars.length p.arrays.length (5 : Nat) p.body)
   · refine B3 G (E4 (A3 1 [0, 1, 2] (af9 p) (A3 6 [0, 1, 2] (az6 p 5 (by kernel_rfl)) E3)) (fc h0 (fc h1 fz)) (us [(3, 6, 0), (1007, 1007, 0), (9, 12, 1), (1013, 1013, 1)])) [0, 1, 2] [dI p.vars, dI p.arrays, dT p.body] [(2, bA false)] fun G => b5 (wp_ret ?_); exact A8 false G [0, 1, 2] (aw7 (by assumption))
   · refine B3 G (E4 (A3 1 [0, 1, 2] (af9 p) (A3 6 [0, 1, 2] (az6 p 5 (by kernel_rfl)) (A3 11 [2] (aT8 p.body 5 (by kernel_rfl) (by assumption)) E3))) (fc h0 (fc h1 fz)) (us [(3, 6, 0), (1007, 1007, 0), (9, 12, 1), (1013, 1013, 1)])) [0, 1, 2] [dI p.vars, dI p.arrays, dT p.body] [(2, bA (decide ((↑(D0 4 p.body) : Int) ≤ 60)))] fun G => b5 (wp_ret ?_); exact A8 (decide ((↑(D0 4 p.body) : Int) ≤ 60)) G [0, 1, 2] (aD2 (by assumption) (by assumption))
def I5 (nv na : Nat) (s : b6) : Bool := s3 s &&
    (if s.kind = 1 ∨ s.kind = 5 then decide (0 ≤ s.target) && decide (s.target < nv) && m9 nv na s.value
     else if s.kind = 2 then decide (0 ≤ s.target) && decide (s.target < na) && m9 nv na s.index && I6 s.index && m9 nv na s.value
     else if s.kind = 3 then m9 nv na s.value
     else decide (s.kind = 4))
theorem aj9 {nv na d : Nat} {s : b6} : s0 nv na (d + 1) s = (I5 nv na s && (s.body.all (s0 nv na d) && s.els.all (s0 nv na d))) := by
 rw [bd7]
 constructor
 ·intro h
  have h1 := T6 h
  rw [h1.1, h1.2, Bool.and_true, Bool.and_true]
  rw [s0, bb8] at h
  rw [I5, h.1, Bool.true_and]
  obtain ⟨-, h⟩ := h
  split at h
  ·rw [if_pos (by assumption)]; exact h
  split at h
  ·rw [if_neg (by assumption), if_pos (by assumption)]; exact h
  split at h
  ·rw [if_neg (by assumption), if_neg (by assumption), if_pos (by assumption)]
   simp only [bb8] at h; exact h.1.1
  split at h
  ·rw [if_neg (by assumption), if_neg (by assumption), if_neg (by assumption)]; simp [*]
  ·simp at h
 ·intro h
  simp only [bb8] at h
  obtain ⟨h, hb, he⟩ := h
  rw [I5, bb8] at h
  obtain ⟨h0, h⟩ := h
  rw [s0, h0, Bool.true_and]
  split at h
  ·rw [if_pos (by assumption)]; exact h
  split at h
  ·rw [if_neg (by assumption), if_pos (by assumption)]; exact h
  split at h
  ·rw [if_neg (by assumption), if_neg (by assumption), if_pos (by assumption), h, hb, he]; rfl
  ·rw [if_neg (by assumption), if_neg (by assumption), if_neg (by assumption), if_pos (by simpa using h), hb]
def B6 (F : Nat → b6 → Bool × Nat) : Nat → List b6 → Bool × Nat
 | c, [] => (true, c)
 | c, s :: r => if (F c s).1 then B6 F (F c s).2 r else F c s
def t9 (nv na : Nat) : Nat → Nat → b6 → Bool × Nat
 | 0, c, _ => (false, c + 1)
 | d + 1, c, s => if 60 < c + 1 then (false, c + 1) else if I5 nv na s then
   (if (B6 (t9 nv na d) (c + 1) s.body).1 then B6 (t9 nv na d) (B6 (t9 nv na d) (c + 1) s.body).2 s.els else B6 (t9 nv na d) (c + 1) s.body)
   else (false, c + 1)
abbrev l7 (nv na d c : Nat) (ss : List b6) : Bool × Nat := B6 (t9 nv na d) c ss
theorem U4 (F : Nat → b6 → Bool × Nat) : ∀ (a b : List b6) (c : Nat), B6 F c (a ++ b) = if (B6 F c a).1 then B6 F (B6 F c a).2 b else B6 F c a
 | [], b, c => by simp [B6]
 | x :: r, b, c => by
  simp only [List.cons_append, B6]
  by_cases h : (F c x).1 = true
  ·simp only [h, if_true]; exact U4 F r b _
  ·simp [h]
theorem ab0 {F : Nat → b6 → Bool × Nat} {c k : Nat} {ss : List b6} (h : (B6 F c (ss.take k)).1 = true) (hk : k < ss.length) : B6 F c (ss.take (k + 1)) = F (B6 F c (ss.take k)).2 (ss.getD k be5) := by
 rw [p7 _ _ hk, U4, if_pos h, t2 hk]
 simp only [B6]
 split
 ·rename_i h; exact Prod.ext h.symm rfl
 ·rfl
theorem al5 {F : Nat → b6 → Bool × Nat} {c k : Nat} {ss : List b6} (h : (B6 F c (ss.take k)).1 = true) (hk : k < ss.length) (hf : (F (B6 F c (ss.take k)).2 (ss.getD k be5)).1 = false) : B6 F c ss = F (B6 F c (ss.take k)).2 (ss.getD k be5) := by
 conv => lhs; rw [← List.take_append_drop (k + 1) ss]
 rw [U4, ab0 h hk, hf]
 rfl
theorem al6 {F : Nat → b6 → Bool × Nat} {c k : Nat} {ss : List b6} (hk : ss.length ≤ k) : B6 F c (ss.take k) = B6 F c ss := by rw [bc3 hk]
theorem ad0 {F : Nat → b6 → Bool × Nat} (hF : ∀ c s, c ≤ 60 → (F c s).2 ≤ 61 ∧ ((F c s).1 = true → (F c s).2 ≤ 60)) : ∀ (ss : List b6) (c : Nat), c ≤ 60 → (B6 F c ss).2 ≤ 61 ∧ ((B6 F c ss).1 = true → (B6 F c ss).2 ≤ 60)
 | [], c, h => ⟨by simp only [B6]; omega, fun _ => by simp only [B6]; omega⟩
 | s :: r, c, h => by
  simp only [B6]
  by_cases h1 : (F c s).1 = true
  ·rw [if_pos h1]; exact ad0 hF r _ ((hF c s h).2 h1)
  ·rw [if_neg h1]; exact hF c s h
theorem ac0 {nv na : Nat} : ∀ (d c : Nat) (s : b6), c ≤ 60 → (t9 nv na d c s).2 ≤ 61 ∧ ((t9 nv na d c s).1 = true → (t9 nv na d c s).2 ≤ 60)
 | 0, c, s, h => by simp [t9]; omega
 | d + 1, c, s, h => by
  rw [t9]
  by_cases h1 : 60 < c + 1
  ·rw [if_pos h1]; simp; omega
  rw [if_neg h1]
  by_cases h2 : I5 nv na s = true
  ·rw [if_pos h2]
   have h3 := ad0 (ac0 (nv := nv) (na := na) d) s.body (c + 1) (by omega)
   by_cases h4 : (B6 (t9 nv na d) (c + 1) s.body).1 = true
   ·rw [if_pos h4]; exact ad0 (ac0 d) s.els _ (h3.2 h4)
   ·rw [if_neg h4]; exact h3
  ·rw [if_neg h2]; simp; omega
theorem K6 {nv na d c : Nat} {ss : List b6} (h : c ≤ 60) (h1 : (l7 nv na d c ss).1 = true) : (l7 nv na d c ss).2 ≤ 60 := (ad0 (ac0 d) ss c h).2 h1
section
variable {nv na d c : Nat} {s : b6}
theorem aa5 (h : 60 < c + 1) : t9 nv na d c s = (false, c + 1) := by cases d with
 | zero => rfl
 | succ d => rw [t9, if_pos h]
theorem k6 (h : I5 nv na s = false) : t9 nv na d c s = (false, c + 1) := by cases d with
 | zero => rfl
 | succ d => rw [t9, h]; simp
theorem C9 (h1 : c + 1 ≤ 60) (h : I5 nv na s = true) (h2 : (l7 nv na d (c + 1) s.body).1 = false) : t9 nv na (d + 1) c s = l7 nv na d (c + 1) s.body := by
 rw [t9, if_neg (by omega), if_pos h, if_neg (by simp [h2])]
theorem E7 (h1 : c + 1 ≤ 60) (h : I5 nv na s = true) (h2 : (l7 nv na d (c + 1) s.body).1 = true) : t9 nv na (d + 1) c s = l7 nv na d (l7 nv na d (c + 1) s.body).2 s.els := by
 rw [t9, if_neg (by omega), if_pos h, if_pos h2]
end
theorem ad1 {nv na d : Nat} (hF : ∀ c s, c ≤ 60 → ((t9 nv na d c s).1 = (s0 nv na d s && decide (c + nS s ≤ 60))) ∧ ((t9 nv na d c s).1 = true → (t9 nv na d c s).2 = c + nS s)) : ∀ (ss : List b6) (c : Nat), c ≤ 60 → ((l7 nv na d c ss).1 = (ss.all (s0 nv na d) && decide (c + nSs ss ≤ 60))) ∧ ((l7 nv na d c ss).1 = true → (l7 nv na d c ss).2 = c + nSs ss)
 | [], c, h => by simp [B6, nSs, h]
 | s :: r, c, h => by
  obtain ⟨h1, h2⟩ := hF c s h
  simp only [l7, B6]
  by_cases h3 : (t9 nv na d c s).1 = true
  ·rw [if_pos h3]
   have e := h2 h3
   have l := (ac0 d c s h).2 h3
   obtain ⟨h4, h5⟩ := ad1 hF r (t9 nv na d c s).2 l
   rw [h1, bb8] at h3
   constructor
   ·rw [show B6 (t9 nv na d) (t9 nv na d c s).2 r = l7 nv na d (t9 nv na d c s).2 r from rfl, h4, List.all_cons, h3.1, Bool.true_and, e, nSs, Nat.add_assoc]
   ·intro h6; rw [show B6 (t9 nv na d) (t9 nv na d c s).2 r = l7 nv na d (t9 nv na d c s).2 r from rfl, h5 h6, e, nSs]; omega
  ·rw [if_neg h3]
   refine ⟨?_, fun h => absurd h h3⟩
   have h4 := h3
   rw [h1] at h4
   rw [Bool.eq_false_iff.2 h3, List.all_cons, nSs]
   cases ha : s0 nv na d s
   ·simp
   ·rw [ha, Bool.true_and, decide_eq_true_eq] at h4
    rw [Bool.true_and, show decide (c + (nS s + nSs r) ≤ 60) = false from decide_eq_false (by omega), Bool.and_false]
theorem aj8 {nv na : Nat} : ∀ (d c : Nat) (s : b6), c ≤ 60 → ((t9 nv na d c s).1 = (s0 nv na d s && decide (c + nS s ≤ 60))) ∧ ((t9 nv na d c s).1 = true → (t9 nv na d c s).2 = c + nS s)
 | 0, c, s, h => by simp [t9, s0]
 | d + 1, c, s, h => by
  have hs := aD8 s
  by_cases h1 : 60 < c + 1
  ·rw [aa5 h1, show decide (c + nS s ≤ 60) = false from decide_eq_false (by omega), Bool.and_false]; simp
  cases h2 : I5 nv na s
  ·rw [k6 h2, aj9, h2]; simp
  obtain ⟨b1, b2⟩ := ad1 (aj8 (nv := nv) (na := na) d) s.body (c + 1) (by omega)
  rw [aj9, h2, Bool.true_and]
  cases h3 : (l7 nv na d (c + 1) s.body).1
  ·rw [C9 (by omega) h2 h3, h3]
   refine ⟨?_, fun h => by simp at h⟩
   rw [h3] at b1
   cases h4 : s.body.all (s0 nv na d)
   ·simp
   ·rw [h4, Bool.true_and] at b1
    have := of_decide_eq_false b1.symm
    rw [show decide (c + nS s ≤ 60) = false from decide_eq_false (by omega), Bool.and_false]
  ·rw [E7 (by omega) h2 h3]
   have e := b2 h3
   have l := K6 (nv := nv) (na := na) (d := d) (c := c + 1) (by omega) h3
   obtain ⟨e1, e2⟩ := ad1 (aj8 (nv := nv) (na := na) d) s.els _ l
   rw [h3] at b1
   have b3 := b1.symm
   rw [bb8] at b3
   rw [b3.1, Bool.true_and, e1, e]
   refine ⟨by rw [show c + 1 + nSs s.body + nSs s.els = c + nS s by omega], fun h => ?_⟩
   have h' : (l7 nv na d (l7 nv na d (c + 1) s.body).2 s.els).1 = true := by rw [e1, e]; exact h
   have := e2 h'
   rw [e] at this
   rw [this]; omega
theorem av7 {p : l6} (h : G6 p.vars p.arrays = true) : (l7 p.vars.length p.arrays.length 5 0 p.body).1 = K2 p := by
 rw [(ad1 (aj8 5) p.body 0 (by omega)).1, K2, h, Bool.true_and, ab5]; simp
theorem aZ2 (p : l6) (s : b6) (c : Nat) (hc : c ≤ 60) (n : Int) (hn : n = 6) : t7.ok Try.prog ⟨145, [pA 0, sA s 4, iA n, .ptr 3 0], pS p ++ [.box [iA c]] ++ sS s, pS p ++ [.box [iA (t9 p.vars.length p.arrays.length 0 c s).2]] ++ sS s, bA false⟩ := by
 have h100 : decide (n > 5) = true := by simp; omega
 refine M4 149 Try.func145 [dI p.vars, dI p.arrays, dT p.body, .box [iA c], dE s.index.kids, dE s.value.kids, dT s.body, dT s.els] [(0, pA 0), (1, sA s 4), (2, iA n), (3, .ptr 3 0)] fun G => ?_; refine wp_seq (B3 G l5 [0, 1, 2, 3, 4, 5, 6, 7, 8, 16] [dI p.vars, dI p.arrays, dT p.body, .box [iA c], dE s.index.kids, dE s.value.kids, dT s.body, dT s.els, .box (pL 0), .box (sL s 4)] [(2, iA n), (3, .ptr 3 0), (4, .ptr 8 0), (5, .ptr 9 0), (8, bA false)] fun G => b5 (wp_seq (rA1 G l5 (rg 10) [dI p.vars, dI p.arrays, dT p.body, .box [iA ((c : Int) + 1)], dE s.index.kids, dE s.value.kids, dT s.body, dT s.els, .box (pL 0), .box (sL s 4)] [(2, iA n), (3, .ptr 3 0), (4, .ptr 8 0), (5, .ptr 9 0), (8, bA false)] [wO ((c : Int) + 1)] (o1 (by omega)) fun G => b5 (wp_seq (wp_seq ?_))))); cases h0 : (decide ((c : Int) + 1 > 60))
 ·have q0 := Y9 h0; refine m7 G (L9 (fc h0 fz) [(5, 0), (6, 0), (1007, 0)]) [(27, bA (decide (n > 5)))] fun G => b5 (rT G (decide (n > 5)) (by assumption) (wp_seq (m7 G l5 [] fun G => b5 (wp_ret (m5 ?_))))); exact rxr G (rg 8)
 ·have q0 := Y8 h0; refine m7 G (L9 (fc h0 fz) [(5, 0), (6, 0), (1007, 0)]) [(27, bA true)] fun G => b5 (rT G true (by kernel_rfl) (wp_seq (m7 G l5 [] fun G => b5 (wp_ret (m5 ?_))))); exact rxr G (rg 8)
abbrev aZ9 (p : l6) (d c : Nat) (s : b6) (n : Int) : t7 := ⟨145, [pA 0, sA s 4, iA n, .ptr 3 0], pS p ++ [.box [iA c]] ++ sS s, pS p ++ [.box [iA (t9 p.vars.length p.arrays.length d c s).2]] ++ sS s, bA (t9 p.vars.length p.arrays.length d c s).1⟩
abbrev aB8 (p : l6) (d c : Nat) (ss : List b6) (n : Int) : t7 := ⟨70, [pA 0, .ref 4, iA n, .ptr 3 0], pS p ++ [.box [iA c]] ++ [.dat (.stmts ss)], pS p ++ [.box [iA (l7 p.vars.length p.arrays.length d c ss).2]] ++ [.dat (.stmts ss)], bA (l7 p.vars.length p.arrays.length d c ss).1⟩
theorem az3 (p : l6) (d : Nat) (hd : d ≤ 5) (ih : ∀ (s : b6) (c : Nat) (n : Int), c ≤ 60 → n = 6 - (d : Int) → t7.ok Try.prog (aZ9 p d c s n))
    (ss : List b6) (c : Nat) (n : Int) (hc : c ≤ 60) (hn : n = 6 - (d : Int)) : t7.ok Try.prog (aB8 p d c ss n) := by
  refine M4 24 Try.func70 [dI p.vars, dI p.arrays, dT p.body, .box [iA c], dT ss] [(0, pA 0), (1, .ref 4), (2, iA n), (3, .ptr 3 0)] fun G => ?_; refine wp_seq (B3 G l5 (rg 6) [dI p.vars, dI p.arrays, dT p.body, .box [iA c], dT ss, .box (pL 0)] [(1, .ref 4), (2, iA n), (3, .ptr 3 0), (4, .ptr 5 0), (8, bA false)] fun G => b5 (wp_seq (wp_seq (Q3 G l5 [(2, iA n), (3, .ptr 3 0), (4, .ptr 5 0), (8, bA false), (11, .ref 4), (12, iA (ss.length : Int)), (13, iA 0)] fun G => b5 (wp_block ?_))))); have hlen : ss.length ≤ 9223372036854775807 := G.len 4 (d := .stmts ss) (by kernel_rfl); refine D2 (κ := Nat) (fun k => k ≤ ss.length ∧ (l7 p.vars.length p.arrays.length d c (ss.take k)).1 = true) (fun k => ss.length - k) (fun k => [dI p.vars, dI p.arrays, dT p.body, .box [iA (l7 p.vars.length p.arrays.length d c (ss.take k)).2], dT ss, .box (pL 0)]) (fun k => [(2, iA n), (3, .ptr 3 0), (4, .ptr 5 0), (8, bA false), (11, .ref 4), (12, iA (ss.length : Int)), (13, iA k)]) 0 (by simp [l7, B6]; done) (A6.at G _ _) ?_; clear G; intro k ρ a w hp G; replace G := A6.at G [dI p.vars, dI p.arrays, dT p.body, .box [iA ((l7 p.vars.length p.arrays.length d c (List.take k ss)).snd : Int)], dT ss, .box (pL 0)] [(2, iA n), (3, .ptr 3 0), (4, .ptr 5 0), (8, bA false), (11, .ref 4), (12, iA (ss.length : Int)), (13, iA k)]; refine wp_seq (m7 G l5 [(14, bA (decide ((k : Int) < ss.length)))] fun G => b5 (wp_seq (rcD G (fun h0 q0 => ?_) fun h0 q0 => ?_)))
  · refine wp_exit (C7 (C7 (C5 (b5 (wp_seq (B3 G l5 (rg 5) [dI p.vars, dI p.arrays, dT p.body, .box [iA ((l7 p.vars.length p.arrays.length d c (List.take k ss)).snd : Int)], dT ss] [(8, bA true)] fun G => b5 (wp_ret ?_))))))); exact A8 true G (rg 5) (by rw [l7, ← al6 (k := k) (by omega)]; exact hp.2) (by show _ = mR (rg 5) [dI p.vars, dI p.arrays, dT p.body, .box [iA ((l7 p.vars.length p.arrays.length d c ss).snd : Int)], dT ss]; have e1 : (((l7 p.vars.length p.arrays.length d c ss).snd : Int) : Int) = (((l7 p.vars.length p.arrays.length d c (List.take k ss)).snd : Int)) := (by rw [l7, ← al6 (k := k) (by omega)]); (first | rw [e1] | simp only [e1]) <;> rfl)
  ·
   refine wp_skip (b5 (wp_seq (wp_block (wp_seq (rA1 G l5 [0, 1, 2, 3, 4, 5, 14, 15, 16, 17, 22] [dI p.vars, dI p.arrays, dT p.body, .box [iA ((l7 p.vars.length p.arrays.length d c (List.take k ss)).snd : Int)], dT ss, .box (pL 0), dE (ss.getD k be5).index.kids, dE (ss.getD k be5).value.kids, dT (ss.getD k be5).body, dT (ss.getD k be5).els, .box (sL (ss.getD k be5) 6)] [(2, iA n), (3, .ptr 3 0), (4, .ptr 5 0), (8, bA false), (10, .ptr 10 0), (11, .ref 4), (12, iA (ss.length : Int)), (13, iA k)] (iX k k ss.length []) (iK (by omega) bc4) fun G => b5 (wp_seq (B3 G (Q8 4 [0, 1, 2, 3, 6, 7, 8, 9] (ih (ss.getD k be5) ((l7 p.vars.length p.arrays.length d c (List.take k ss)).snd) n (K6 (by omega) hp.2) (by assumption))) (rg 6) [dI p.vars, dI p.arrays, dT p.body, .box [iA ((t9 p.vars.length p.arrays.length d (l7 p.vars.length p.arrays.length d c (List.take k ss)).snd (ss.getD k be5)).snd : Int)], dT ss, .box (pL 0)] [(2, iA n), (3, .ptr 3 0), (4, .ptr 5 0), (8, bA false), (11, .ref 4), (12, iA (ss.length : Int)), (13, iA k), (22, .v (.bool !(t9 p.vars.length p.arrays.length d (l7 p.vars.length p.arrays.length d c (List.take k ss)).snd (ss.getD k be5)).fst))] fun G => b5 ?_))))))); cases h1 : (!(t9 p.vars.length p.arrays.length d (l7 p.vars.length p.arrays.length d c (List.take k ss)).snd (ss.getD k be5)).fst)
   · have q1 : ((t9 p.vars.length p.arrays.length d (l7 p.vars.length p.arrays.length d c (List.take k ss)).snd (ss.getD k be5)).fst) = true := (Eq.mp (bc9 _) h1); refine rF G _ h1 (wp_skip (G7 (b5 (K0 G l5 [(13, iA ((k : Int) + 1))] [wO ((k : Int) + 1)] (o1 (by omega)) fun G => b5 ?_)))); exact rxn G (k + 1) (⟨by omega, by rw [l7, ab0 hp.2 (by omega)]; assumption⟩) (by omega) (rg 6) (by have e1 : (((l7 p.vars.length p.arrays.length d c (List.take (k + 1) ss)).snd : Int) : Int) = (((t9 p.vars.length p.arrays.length d (l7 p.vars.length p.arrays.length d c (List.take k ss)).snd (ss.getD k be5)).snd : Int)) := (by rw [l7, ab0 hp.2 (by omega)]); (first | rw [e1] | simp only [e1]) <;> rfl)
   · have q1 : ((t9 p.vars.length p.arrays.length d (l7 p.vars.length p.arrays.length d c (List.take k ss)).snd (ss.getD k be5)).fst) = false := (Eq.mp (bc7 _) h1); refine rT G _ h1 (wp_seq (m7 G l5 [] fun G => b5 (wp_ret (D3 (m5 (m5 (D3 (m5 ?_)))))))); exact A8 false G (rg 5) (by rw [l7, al5 hp.2 (by omega) (by assumption)]; assumption) (by show _ = mR (rg 5) [dI p.vars, dI p.arrays, dT p.body, .box [iA ((l7 p.vars.length p.arrays.length d c ss).snd : Int)], dT ss]; have e1 : (((l7 p.vars.length p.arrays.length d c ss).snd : Int) : Int) = (((t9 p.vars.length p.arrays.length d (l7 p.vars.length p.arrays.length d c (List.take k ss)).snd (ss.getD k be5)).snd : Int)) := (by rw [l7, al5 hp.2 (by omega) (by assumption)]); (first | rw [e1] | simp only [e1]) <;> rfl)
section
variable {nv na : Nat} {s : b6}
theorem C6 (k : s.kind = 1 ∨ s.kind = 5) : I5 nv na s = (decide (0 ≤ s.target ∧ s.target < nv ∧ s.body.length = 0 ∧ s.els.length = 0 ∧ s.count = 0) && (noneB s.index && m9 nv na s.value)) := by
 rw [I5, s3, if_pos k, if_neg (by omega), show decide (s.kind = 2) = false from decide_eq_false (by omega), bd7]
 simp only [bb8, decide_eq_true_eq, Bool.false_or]
 constructor
 ·rintro ⟨⟨⟨⟨a, b⟩, c⟩, d⟩, ⟨e, f⟩, g⟩; exact ⟨⟨e, f, a, b, c⟩, d, g⟩
 ·rintro ⟨⟨e, f, a, b, c⟩, d, g⟩; exact ⟨⟨⟨⟨a, b⟩, c⟩, d⟩, ⟨e, f⟩, g⟩
theorem K3 (k : s.kind = 2) : I5 nv na s = (decide (0 ≤ s.target ∧ s.target < na ∧ s.body.length = 0 ∧ s.els.length = 0 ∧ s.count = 0) && (m9 nv na s.index && (I6 s.index && m9 nv na s.value))) := by
 rw [I5, s3, if_neg (by omega), if_pos k, if_neg (by omega), show decide (s.kind = 2) = true from decide_eq_true k, bd7]
 simp only [bb8, decide_eq_true_eq, Bool.true_or]
 constructor
 ·rintro ⟨⟨⟨⟨a, b⟩, c⟩, -⟩, ⟨⟨⟨e, f⟩, i⟩, j⟩, g⟩; exact ⟨⟨e, f, a, b, c⟩, i, j, g⟩
 ·rintro ⟨⟨e, f, a, b, c⟩, i, j, g⟩; exact ⟨⟨⟨⟨a, b⟩, c⟩, bc4⟩, ⟨⟨⟨e, f⟩, i⟩, j⟩, g⟩
theorem V3 (k : s.kind = 3) : I5 nv na s = (decide (s.target = 0 ∧ s.count = 0) && (noneB s.index && m9 nv na s.value)) := by
 rw [I5, s3, if_pos (show s.kind = 3 ∨ s.kind = 4 from .inl k), if_neg (show ¬ s.kind = 4 by omega), if_neg (by omega), if_neg (by omega), if_pos k, bd7]
 simp only [bb8, decide_eq_true_eq]
 constructor
 ·rintro ⟨⟨a, b, c⟩, d⟩; exact ⟨⟨a, b⟩, c, d⟩
 ·rintro ⟨⟨a, b⟩, c, d⟩; exact ⟨⟨a, b, c⟩, d⟩
theorem Q9 (k : s.kind = 4) : I5 nv na s = (decide (s.target = 0 ∧ s.els.length = 0 ∧ 1 ≤ s.count ∧ s.count ≤ 3) && (noneB s.index && noneB s.value)) := by
 rw [I5, s3, if_pos (show s.kind = 3 ∨ s.kind = 4 from .inr k), if_pos k, if_neg (by omega), if_neg (by omega), if_neg (by omega), show decide (s.kind = 4) = true from decide_eq_true k, bd7]
 simp only [bb8, decide_eq_true_eq]
 constructor
 ·rintro ⟨⟨a, ⟨⟨⟨b, c⟩, d⟩, e⟩, f⟩, -⟩; exact ⟨⟨a, b, c, d⟩, e, f⟩
 ·rintro ⟨⟨a, b, c, d⟩, e, f⟩; exact ⟨⟨a, ⟨⟨⟨b, c⟩, d⟩, e⟩, f⟩, bc4⟩
theorem a08 (k : ¬ s.kind = 1 ∧ ¬ s.kind = 2 ∧ ¬ s.kind = 3 ∧ ¬ s.kind = 4 ∧ ¬ s.kind = 5) : I5 nv na s = false := by
 rw [I5, if_neg (by omega), if_neg (by omega), if_neg (by omega), show decide (s.kind = 4) = false from decide_eq_false (by omega), Bool.and_false]
theorem N2 {p : Prop} [Decidable p] {a b : Bool} (hp : p) (ha : a = true) (hb : b = true) : (decide p && (a && b)) = true := by rw [ha, hb, decide_eq_true hp]; rfl
theorem au7 {p : Prop} [Decidable p] {a b c : Bool} (hp : p) (ha : a = true) (hb : b = true) (hc : c = true) : (decide p && (a && (b && c))) = true := by rw [ha, hb, hc, decide_eq_true hp]; rfl
end
abbrev Z1 (p : l6) (d : Nat) (s : b6) (c : Nat) := l7 p.vars.length p.arrays.length d (l7 p.vars.length p.arrays.length d (c + 1) s.body).snd s.els
abbrev Z0 (p : l6) (d : Nat) (s : b6) (c : Nat) := l7 p.vars.length p.arrays.length d (c + 1) s.body
abbrev l9 (p : l6) (d : Nat) (s : b6) (c : Nat) : List It := [dI p.vars, dI p.arrays, dT p.body, .box [iA ((t9 p.vars.length p.arrays.length (d + 1) c s).snd : Int)], dE s.index.kids, dE s.value.kids, dT s.body, dT s.els]
abbrev R7 (s : b6) (r0 : List It) : List It := dE s.index.kids :: dE s.value.kids :: dT s.body :: dT s.els :: r0
abbrev R6 (p : l6) (r0 : List It) : List It := dI p.vars :: dI p.arrays :: dT p.body :: r0
theorem aZ1 (p : l6) (d : Nat) (hd : d ≤ 4) (ih : ∀ (ss : List b6) (c : Nat) (n : Int), c ≤ 60 → n = 6 - (d : Int) → t7.ok Try.prog (aB8 p d c ss n))
    (s : b6) (c : Nat) (n : Int) (hc : c ≤ 60) (hn : n = 5 - (d : Int)) : t7.ok Try.prog (aZ9 p (d + 1) c s n) := by
  have h100 : decide (n > 5) = false := by simp; omega
  refine M4 149 Try.func145 (R6 p (.box [iA c] :: (R7 s []))) [(0, pA 0), (1, sA s 4), (2, iA n), (3, .ptr 3 0)] fun G => ?_; have hl0 : p.vars.length ≤ 9223372036854775807 := G.len 0 (d := .ints p.vars) (by kernel_rfl); have hl1 : p.arrays.length ≤ 9223372036854775807 := G.len 1 (d := .ints p.arrays) (by kernel_rfl); refine wp_seq (B3 G l5 [0, 1, 2, 3, 4, 5, 6, 7, 8, 16] (R6 p (.box [iA c] :: (R7 s [.box (pL 0), .box (sL s 4)]))) [(2, iA n), (3, .ptr 3 0), (4, .ptr 8 0), (5, .ptr 9 0), (8, bA false)] fun G => b5 (wp_seq (rA1 G l5 (rg 10) (R6 p (.box [iA ((c : Int) + 1)] :: (R7 s [.box (pL 0), .box (sL s 4)]))) [(2, iA n), (3, .ptr 3 0), (4, .ptr 8 0), (5, .ptr 9 0), (8, bA false)] [wO ((c : Int) + 1)] (o1 (by omega)) fun G => b5 (wp_seq (wp_seq ?_))))); cases h0 : (decide ((c : Int) + 1 > 60))
  ·
   have q0 := Y9 h0; refine m7 G (L9 (fc h0 fz) [(5, 0), (6, 0), (1007, 0)]) [(27, bA (decide (n > 5)))] fun G => b5 (rF G (decide (n > 5)) (by assumption) (wp_skip (b5 (wp_seq (m7 G l5 [(9, iA 1), (10, bA false), (11, bA true), (12, bA false), (13, bA false), (14, bA false)] fun G => b5 (wp_seq (wp_seq (m7 G l5 [(29, iA s.kind)] fun G => b5 (wp_block (wp_seq (wp_seq (m7 G l5 [(30, bA (s.kind == 1))] fun G => b5 (rcE G (fun h1 q1 => ?_) fun h1 q1 => ?_)))))))))))))
   ·
    refine m7 G l5 [(30, bA (s.kind == 5))] fun G => b5 (rcE G (fun h2 q2 => ?_) fun h2 q2 => ?_)
    ·
     refine wp_seq (m7 G l5 [(36, bA (s.kind == 2))] fun G => b5 (rcE G (fun h3 q3 => ?_) fun h3 q3 => ?_))
     ·
      refine wp_seq (m7 G l5 [(41, bA (s.kind == 3))] fun G => b5 (rcE G (fun h4 q4 => ?_) fun h4 q4 => ?_))
      ·
       refine wp_seq (m7 G l5 [(43, bA (s.kind == 4))] fun G => b5 (rcE G (fun h5 q5 => ?_) fun h5 q5 => ?_))
       · refine wp_seq (m7 G l5 [] fun G => b5 (wp_ret (D3 (m5 ?_)))); exact A8 false G (rg 8) (by rw [k6 (a08 (by omega))]; done) (by show _ = mR (rg 8) (l9 p d s c); unfold l9; rw [k6 (a08 (by omega))] <;> rfl)
       ·
        refine m7 G l5 [(11, bA false), (12, bA true), (13, bA true)] fun G => G7 (b5 (wp_seq (wp_seq ?_))); cases h6 : (!(decide ((0 : Int) ≤ s.target) && decide (s.target ≤ 0)))
        ·
         have q6 : (0 ≤ s.target) ∧ (s.target ≤ 0) := (fun hq => And.imp (fun hq => of_decide_eq_true hq) (fun hq => of_decide_eq_true hq) (Bool.and_eq_true_iff.1 hq)) (Eq.mp (bc9 _) h6); cases h7 : (!(decide ((1 : Int) ≤ s.count) && decide (s.count ≤ 3)))
         ·
          have q7 : (1 ≤ s.count) ∧ (s.count ≤ 3) := (fun hq => And.imp (fun hq => of_decide_eq_true hq) (fun hq => of_decide_eq_true hq) (Bool.and_eq_true_iff.1 hq)) (Eq.mp (bc9 _) h7); refine K0 G (E4 (A3 4 [] (A1 s.target 0 0) (A3 11 [] (A1 s.count 1 3) E3)) (fc h6 (fc (b := true) rfl (fc h7 (fc (b := false) rfl fz)))) (us [(7, 8, 0), (9, 12, 1), (13, 13, 0), (1013, 1013, 1), (1014, 1014, 0), (16, 18, 2), (19, 21, 3), (22, 22, 2), (1022, 1022, 3), (1023, 1023, 2), (25, 32, 3), (1032, 1033, 3), (35, 37, 3), (38, 41, 1), (42, 42, 3), (1042, 1042, 1), (1043, 1043, 3)])) [(88, bA (decide ((s.els.length : Int) > 0)))] [IntKind.i64.wrap ((1 : Int) - 1) = 1 - 1] ⟨(by kernel_rfl), bc4⟩ fun G => b5 (rcD G (fun h8 q8 => ?_) fun h8 q8 => ?_)
          ·
           refine wp_skip (b5 (wp_seq (wp_seq ?_))); cases h9 : (!noneB s.index)
           ·
            have q9 : (noneB s.index) = true := (Eq.mp (bc9 _) h9); refine m7 G (E4 (A3 20 [4] (F6 s.index) (A3 40 [5] (F6 s.value) E3)) (fc (b := false) rfl (fc (b := true) rfl (fc h9 fz))) (us [(2, 7, 0), (12, 12, 0), (1013, 1013, 0), (15, 17, 0), (18, 21, 1), (22, 22, 0), (1022, 1022, 1), (1023, 1023, 0), (25, 26, 2), (27, 31, 0), (32, 32, 2), (1032, 1032, 0), (1033, 1033, 2), (35, 37, 0), (38, 41, 1), (42, 42, 0), (1042, 1042, 1), (1043, 1043, 0)])) [(132, .v (.bool !noneB s.value))] fun G => b5 ?_; cases h10 : (!noneB s.value)
            ·
             have q10 : (noneB s.value) = true := (Eq.mp (bc9 _) h10); refine rF G _ h10 (wp_skip (b5 (wp_seq ?_))); cases h11 : ((l7 p.vars.length p.arrays.length d (c + (1 : Nat)) s.body).fst)
             · refine rA1 G (E4 (A3 6 [0, 1, 2, 3, 6] (ih s.body (c + 1) (n + 1) (by simp; omega) (by omega)) E3) (fc h11 fz) (us [(8, 14, 0), (1015, 1015, 0)])) (rg 8) (R6 p (.box [iA ((Z0 p d s c).snd : Int)] :: (R7 s []))) [(8, bA false)] [wO (n + 1)] (o1 (by omega)) fun G => b5 (wp_ret ?_); exact A8 false G (rg 8) (by rw [C9 (by omega) (by (rw [Q9 (by omega)]; exact N2 (by omega) (by assumption) (by assumption))) (by assumption)]; assumption) (by show _ = mR (rg 8) (l9 p d s c); unfold l9; rw [C9 (by omega) (by (rw [Q9 (by omega)]; exact N2 (by omega) (by assumption) (by assumption))) (by assumption)] <;> rfl)
             · refine rA1 G (E4 (A3 6 [0, 1, 2, 3, 6] (ih s.body (c + 1) (n + 1) (by simp; omega) (by omega)) (A3 14 [0, 1, 2, 3, 7] (ih s.els ((Z0 p d s c).snd) (n + 1) (K6 (by omega) (by assumption)) (by omega)) E3)) (fc h11 fz) (us [(8, 14, 0), (1015, 1015, 0)])) (rg 8) (R6 p (.box [iA ((Z1 p d s c).snd : Int)] :: (R7 s []))) [(8, bA (Z1 p d s c).fst)] [wO (n + 1), wO (n + 1)] (o2 (by omega)) fun G => b5 (wp_ret ?_); exact A8 ((l7 p.vars.length p.arrays.length d (l7 p.vars.length p.arrays.length d (c + 1) s.body).snd s.els).fst) G (rg 8) (by rw [E7 (by omega) (by (rw [Q9 (by omega)]; exact N2 (by omega) (by assumption) (by assumption))) (by assumption)]; done) (by show _ = mR (rg 8) (l9 p d s c); unfold l9; rw [E7 (by omega) (by (rw [Q9 (by omega)]; exact N2 (by omega) (by assumption) (by assumption))) (by assumption)] <;> rfl)
            · have q10 : (noneB s.value) = false := (Eq.mp (bc7 _) h10); refine rT G _ h10 (wp_seq (m7 G l5 [] fun G => b5 (wp_ret (m5 ?_)))); exact A8 false G (rg 8) (by rw [k6 (by (rw [Q9 (by omega)]; simp [h100, h0, q0, h1, q1, h2, q2, h3, q3, h4, q4, h5, q5, h6, q6, h7, q7, h8, q8, h9, q9, h10, q10]; done))]; done) (by show _ = mR (rg 8) (l9 p d s c); unfold l9; rw [k6 (by (rw [Q9 (by omega)]; simp [h100, h0, q0, h1, q1, h2, q2, h3, q3, h4, q4, h5, q5, h6, q6, h7, q7, h8, q8, h9, q9, h10, q10]; done))] <;> rfl)
           · have q9 : (noneB s.index) = false := (Eq.mp (bc7 _) h9); refine m7 G (E4 (A3 20 [4] (F6 s.index) E3) (fc (b := false) rfl (fc (b := true) rfl (fc h9 fz))) (us [(2, 7, 0), (12, 12, 0), (1013, 1013, 0), (15, 17, 0), (18, 21, 1), (22, 22, 0), (1022, 1022, 1), (1023, 1023, 0), (25, 26, 2), (32, 32, 2), (1033, 1033, 2), (35, 37, 1), (42, 42, 1), (1043, 1043, 1)])) [(132, bA true)] fun G => b5 (rT G true (by kernel_rfl) (wp_seq (m7 G l5 [] fun G => b5 (wp_ret (m5 ?_))))); exact A8 false G (rg 8) (by rw [k6 (by (rw [Q9 (by omega)]; simp [h100, h0, q0, h1, q1, h2, q2, h3, q3, h4, q4, h5, q5, h6, q6, h7, q7, h8, q8, h9, q9]; done))]; done) (by show _ = mR (rg 8) (l9 p d s c); unfold l9; rw [k6 (by (rw [Q9 (by omega)]; simp [h100, h0, q0, h1, q1, h2, q2, h3, q3, h4, q4, h5, q5, h6, q6, h7, q7, h8, q8, h9, q9]; done))] <;> rfl)
          · refine wp_seq (m7 G l5 [] fun G => b5 (wp_ret (m5 ?_))); exact A8 false G (rg 8) (by rw [k6 (by (rw [Q9 (by omega), decide_eq_false (by omega)]; rfl))]; done) (by show _ = mR (rg 8) (l9 p d s c); unfold l9; rw [k6 (by (rw [Q9 (by omega), decide_eq_false (by omega)]; rfl))] <;> rfl)
         · have q7 : (¬ (1 ≤ s.count)) ∨ (¬ (s.count ≤ 3)) := (fun hq => Or.imp (fun hq => of_decide_eq_false hq) (fun hq => of_decide_eq_false hq) (Bool.and_eq_false_iff.1 hq)) (Eq.mp (bc7 _) h7); refine K0 G (E4 (A3 4 [] (A1 s.target 0 0) (A3 11 [] (A1 s.count 1 3) E3)) (fc h6 (fc (b := true) rfl (fc h7 fz))) (us [(7, 8, 0), (9, 12, 1), (13, 13, 0), (1013, 1013, 1), (1014, 1014, 0), (16, 18, 2), (22, 22, 2), (1023, 1023, 2), (25, 27, 1), (32, 32, 1), (1033, 1033, 1), (35, 37, 1), (42, 42, 1), (1043, 1043, 1)])) [(88, bA true)] [IntKind.i64.wrap ((1 : Int) - 1) = 1 - 1] ⟨(by kernel_rfl), bc4⟩ fun G => b5 (rT G true (by kernel_rfl) (wp_seq (m7 G l5 [] fun G => b5 (wp_ret (m5 ?_))))); exact A8 false G (rg 8) (by rw [k6 (by (rw [Q9 (by omega), decide_eq_false (by omega)]; rfl))]; done) (by show _ = mR (rg 8) (l9 p d s c); unfold l9; rw [k6 (by (rw [Q9 (by omega), decide_eq_false (by omega)]; rfl))] <;> rfl)
        · have q6 : (¬ (0 ≤ s.target)) ∨ (¬ (s.target ≤ 0)) := (fun hq => Or.imp (fun hq => of_decide_eq_false hq) (fun hq => of_decide_eq_false hq) (Bool.and_eq_false_iff.1 hq)) (Eq.mp (bc7 _) h6); refine K0 G (E4 (A3 4 [] (A1 s.target 0 0) E3) (fc h6 (fc (b := true) rfl fz)) [(7, 0), (8, 0), (13, 0), (1014, 0), (16, 1), (17, 1), (18, 1), (22, 1), (1023, 1), (25, 1), (26, 1), (27, 1), (32, 1), (1033, 1), (35, 1), (36, 1), (37, 1), (42, 1), (1043, 1)]) [(88, bA true)] [IntKind.i64.wrap ((1 : Int) - 1) = 1 - 1] ⟨(by kernel_rfl), bc4⟩ fun G => b5 (rT G true (by kernel_rfl) (wp_seq (m7 G l5 [] fun G => b5 (wp_ret (m5 ?_))))); exact A8 false G (rg 8) (by rw [k6 (by (rw [Q9 (by omega), decide_eq_false (by omega)]; rfl))]; done) (by show _ = mR (rg 8) (l9 p d s c); unfold l9; rw [k6 (by (rw [Q9 (by omega), decide_eq_false (by omega)]; rfl))] <;> rfl)
      ·
       refine m7 G l5 [(13, bA true), (14, bA true)] fun G => G7 (b5 (wp_seq (wp_seq ?_))); cases h12 : (!(decide ((0 : Int) ≤ s.target) && decide (s.target ≤ 0)))
       ·
        have q12 : (0 ≤ s.target) ∧ (s.target ≤ 0) := (fun hq => And.imp (fun hq => of_decide_eq_true hq) (fun hq => of_decide_eq_true hq) (Bool.and_eq_true_iff.1 hq)) (Eq.mp (bc9 _) h12); cases h13 : (s.count != 0)
        ·
         have q13 := bne_eq_false_iff_eq.1 h13; refine K0 G (E4 (A3 4 [] (A1 s.target 0 0) E3) (fc h12 (fc (b := false) rfl (fc (b := true) rfl (fc h13 fz)))) (us [(7, 8, 0), (9, 12, 1), (13, 13, 0), (1013, 1013, 1), (1014, 1014, 0), (16, 18, 1), (19, 21, 2), (22, 22, 1), (1022, 1022, 2), (1023, 1023, 1), (25, 27, 3), (28, 31, 1), (32, 32, 3), (1032, 1032, 1), (1033, 1033, 3), (35, 42, 1), (1042, 1043, 1)])) [(88, bA false)] [IntKind.i64.wrap ((1 : Int) - 1) = 1 - 1] ⟨(by kernel_rfl), bc4⟩ fun G => b5 (rF G false (by kernel_rfl) (wp_skip (b5 (wp_seq (wp_seq ?_))))); cases h14 : (!noneB s.index)
         ·
          have q14 : (noneB s.index) = true := (Eq.mp (bc9 _) h14); cases h15 : (!m9 p.vars.length p.arrays.length s.value)
          ·
           have q15 : (m9 p.vars.length p.arrays.length s.value) = true := (Eq.mp (bc9 _) h15); refine m7 G (E4 (A3 20 [4] (F6 s.index) (A3 30 [0, 1, 2, 5] (M5 p s.value) E3)) (fc (b := false) rfl (fc (b := true) rfl (fc h14 (fc h15 fz)))) (us [(2, 7, 0), (12, 12, 0), (1013, 1013, 0), (15, 17, 0), (18, 21, 1), (22, 22, 0), (1022, 1022, 1), (1023, 1023, 0), (25, 26, 2), (27, 31, 1), (32, 32, 2), (1032, 1032, 1), (1033, 1033, 2), (35, 37, 3), (38, 41, 0), (42, 42, 3), (1042, 1042, 0), (1043, 1043, 3)])) [(132, bA false)] fun G => b5 (rF G false (by kernel_rfl) (wp_skip (b5 (wp_seq ?_)))); cases h16 : ((l7 p.vars.length p.arrays.length d (c + (1 : Nat)) s.body).fst)
           · refine rA1 G (E4 (A3 6 [0, 1, 2, 3, 6] (ih s.body (c + 1) (n + 1) (by simp; omega) (by omega)) E3) (fc h16 fz) (us [(8, 14, 0), (1015, 1015, 0)])) (rg 8) (R6 p (.box [iA ((Z0 p d s c).snd : Int)] :: (R7 s []))) [(8, bA false)] [wO (n + 1)] (o1 (by omega)) fun G => b5 (wp_ret ?_); exact A8 false G (rg 8) (by rw [C9 (by omega) (by (rw [V3 (by omega)]; exact N2 (by omega) (by assumption) (by assumption))) (by assumption)]; assumption) (by show _ = mR (rg 8) (l9 p d s c); unfold l9; rw [C9 (by omega) (by (rw [V3 (by omega)]; exact N2 (by omega) (by assumption) (by assumption))) (by assumption)] <;> rfl)
           · refine rA1 G (E4 (A3 6 [0, 1, 2, 3, 6] (ih s.body (c + 1) (n + 1) (by simp; omega) (by omega)) (A3 14 [0, 1, 2, 3, 7] (ih s.els ((Z0 p d s c).snd) (n + 1) (K6 (by omega) (by assumption)) (by omega)) E3)) (fc h16 fz) (us [(8, 14, 0), (1015, 1015, 0)])) (rg 8) (R6 p (.box [iA ((Z1 p d s c).snd : Int)] :: (R7 s []))) [(8, bA (Z1 p d s c).fst)] [wO (n + 1), wO (n + 1)] (o2 (by omega)) fun G => b5 (wp_ret ?_); exact A8 ((l7 p.vars.length p.arrays.length d (l7 p.vars.length p.arrays.length d (c + 1) s.body).snd s.els).fst) G (rg 8) (by rw [E7 (by omega) (by (rw [V3 (by omega)]; exact N2 (by omega) (by assumption) (by assumption))) (by assumption)]; done) (by show _ = mR (rg 8) (l9 p d s c); unfold l9; rw [E7 (by omega) (by (rw [V3 (by omega)]; exact N2 (by omega) (by assumption) (by assumption))) (by assumption)] <;> rfl)
          · have q15 : (m9 p.vars.length p.arrays.length s.value) = false := (Eq.mp (bc7 _) h15); refine m7 G (E4 (A3 20 [4] (F6 s.index) (A3 30 [0, 1, 2, 5] (M5 p s.value) E3)) (fc (b := false) rfl (fc (b := true) rfl (fc h14 (fc h15 fz)))) (us [(2, 7, 0), (12, 12, 0), (1013, 1013, 0), (15, 17, 0), (18, 21, 1), (22, 22, 0), (1022, 1022, 1), (1023, 1023, 0), (25, 26, 2), (27, 31, 1), (32, 32, 2), (1032, 1032, 1), (1033, 1033, 2), (35, 37, 3), (42, 42, 3), (1043, 1043, 3)])) [(132, bA true)] fun G => b5 (rT G true (by kernel_rfl) (wp_seq (m7 G l5 [] fun G => b5 (wp_ret (m5 ?_))))); exact A8 false G (rg 8) (by rw [k6 (by (rw [V3 (by omega)]; simp [h100, h0, q0, h1, q1, h2, q2, h3, q3, h4, q4, h12, q12, h13, q13, h14, q14, h15, q15]; done))]; done) (by show _ = mR (rg 8) (l9 p d s c); unfold l9; rw [k6 (by (rw [V3 (by omega)]; simp [h100, h0, q0, h1, q1, h2, q2, h3, q3, h4, q4, h12, q12, h13, q13, h14, q14, h15, q15]; done))] <;> rfl)
         · have q14 : (noneB s.index) = false := (Eq.mp (bc7 _) h14); refine m7 G (E4 (A3 20 [4] (F6 s.index) E3) (fc (b := false) rfl (fc (b := true) rfl (fc h14 fz))) (us [(2, 7, 0), (12, 12, 0), (1013, 1013, 0), (15, 17, 0), (18, 21, 1), (22, 22, 0), (1022, 1022, 1), (1023, 1023, 0), (25, 26, 2), (32, 32, 2), (1033, 1033, 2), (35, 37, 1), (42, 42, 1), (1043, 1043, 1)])) [(132, bA true)] fun G => b5 (rT G true (by kernel_rfl) (wp_seq (m7 G l5 [] fun G => b5 (wp_ret (m5 ?_))))); exact A8 false G (rg 8) (by rw [k6 (by (rw [V3 (by omega)]; simp [h100, h0, q0, h1, q1, h2, q2, h3, q3, h4, q4, h12, q12, h13, q13, h14, q14]; done))]; done) (by show _ = mR (rg 8) (l9 p d s c); unfold l9; rw [k6 (by (rw [V3 (by omega)]; simp [h100, h0, q0, h1, q1, h2, q2, h3, q3, h4, q4, h12, q12, h13, q13, h14, q14]; done))] <;> rfl)
        · have q13 := bne_iff_ne.1 h13; refine K0 G (E4 (A3 4 [] (A1 s.target 0 0) E3) (fc h12 (fc (b := false) rfl (fc (b := true) rfl (fc h13 fz)))) (us [(7, 8, 0), (9, 12, 1), (13, 13, 0), (1013, 1013, 1), (1014, 1014, 0), (16, 18, 1), (19, 21, 2), (22, 22, 1), (1022, 1022, 2), (1023, 1023, 1), (25, 27, 3), (32, 32, 3), (1033, 1033, 3), (35, 37, 2), (42, 42, 2), (1043, 1043, 2)])) [(88, bA true)] [IntKind.i64.wrap ((1 : Int) - 1) = 1 - 1] ⟨(by kernel_rfl), bc4⟩ fun G => b5 (rT G true (by kernel_rfl) (wp_seq (m7 G l5 [] fun G => b5 (wp_ret (m5 ?_))))); exact A8 false G (rg 8) (by rw [k6 (by (rw [V3 (by omega), decide_eq_false (by omega)]; rfl))]; done) (by show _ = mR (rg 8) (l9 p d s c); unfold l9; rw [k6 (by (rw [V3 (by omega), decide_eq_false (by omega)]; rfl))] <;> rfl)
       · have q12 : (¬ (0 ≤ s.target)) ∨ (¬ (s.target ≤ 0)) := (fun hq => Or.imp (fun hq => of_decide_eq_false hq) (fun hq => of_decide_eq_false hq) (Bool.and_eq_false_iff.1 hq)) (Eq.mp (bc7 _) h12); refine K0 G (E4 (A3 4 [] (A1 s.target 0 0) E3) (fc h12 (fc (b := true) rfl fz)) [(7, 0), (8, 0), (13, 0), (1014, 0), (16, 1), (17, 1), (18, 1), (22, 1), (1023, 1), (25, 1), (26, 1), (27, 1), (32, 1), (1033, 1), (35, 1), (36, 1), (37, 1), (42, 1), (1043, 1)]) [(88, bA true)] [IntKind.i64.wrap ((1 : Int) - 1) = 1 - 1] ⟨(by kernel_rfl), bc4⟩ fun G => b5 (rT G true (by kernel_rfl) (wp_seq (m7 G l5 [] fun G => b5 (wp_ret (m5 ?_))))); exact A8 false G (rg 8) (by rw [k6 (by (rw [V3 (by omega), decide_eq_false (by omega)]; rfl))]; done) (by show _ = mR (rg 8) (l9 p d s c); unfold l9; rw [k6 (by (rw [V3 (by omega), decide_eq_false (by omega)]; rfl))] <;> rfl)
     ·
      refine m7 G l5 [(9, iA (p.arrays.length : Int)), (10, bA true)] fun G => G7 (b5 (wp_seq (wp_seq ?_))); cases h17 : (!(decide ((0 : Int) ≤ s.target) && decide (s.target ≤ (p.arrays.length : Int) - 1)))
      ·
       have q17 : (0 ≤ s.target) ∧ (s.target ≤ (p.arrays.length : Int) - 1) := (fun hq => And.imp (fun hq => of_decide_eq_true hq) (fun hq => of_decide_eq_true hq) (Bool.and_eq_true_iff.1 hq)) (Eq.mp (bc9 _) h17); cases h18 : (s.count != 0)
       ·
        have q18 := bne_eq_false_iff_eq.1 h18; cases h19 : (decide ((s.body.length : Int) > 0))
        ·
         have q19 := Y9 h19; refine K0 G (E4 (A3 4 [] (A1 s.target 0 ((p.arrays.length : Int) - 1)) E3) (fc h17 (fc (b := false) rfl (fc (b := true) rfl (fc h18 (fc h19 fz))))) (us [(7, 8, 0), (9, 12, 1), (13, 13, 0), (1013, 1013, 1), (1014, 1014, 0), (16, 18, 1), (19, 21, 2), (22, 22, 1), (1022, 1022, 2), (1023, 1023, 1), (25, 27, 3), (28, 31, 2), (32, 32, 3), (1032, 1032, 2), (1033, 1033, 3), (35, 37, 4), (38, 41, 2), (42, 42, 4), (1042, 1042, 2), (1043, 1043, 4)])) [(88, bA (decide ((s.els.length : Int) > 0)))] [wO ((p.arrays.length : Int) - 1)] (o1 (by omega)) fun G => b5 (rcD G (fun h20 q20 => ?_) fun h20 q20 => ?_)
         ·
          refine wp_skip (b5 (wp_seq (wp_seq ?_))); cases h21 : (!m9 p.vars.length p.arrays.length s.index)
          ·
           have q21 : (m9 p.vars.length p.arrays.length s.index) = true := (Eq.mp (bc9 _) h21); cases h22 : (!I6 s.index)
           ·
            have q22 : (I6 s.index) = true := (Eq.mp (bc9 _) h22); cases h23 : (!m9 p.vars.length p.arrays.length s.value)
            ·
             have q23 : (m9 p.vars.length p.arrays.length s.value) = true := (Eq.mp (bc9 _) h23); refine m7 G (E4 (A3 5 [0, 1, 2, 4] (M5 p s.index) (A3 10 [4] (ag1 s.index) (A3 30 [0, 1, 2, 5] (M5 p s.value) E3))) (fc (b := true) rfl (fc h21 (fc h22 (fc (b := false) rfl (fc h23 fz))))) (us [(2, 7, 0), (8, 11, 1), (12, 12, 0), (1012, 1012, 1), (1013, 1013, 0), (15, 17, 2), (18, 21, 3), (22, 22, 2), (1022, 1022, 3), (1023, 1023, 2), (25, 26, 3), (27, 31, 0), (32, 32, 3), (1032, 1032, 0), (1033, 1033, 3), (35, 37, 4), (38, 41, 3), (42, 42, 4), (1042, 1042, 3), (1043, 1043, 4)])) [(132, bA false)] fun G => b5 (rF G false (by kernel_rfl) (wp_skip (b5 (wp_seq ?_)))); cases h24 : ((l7 p.vars.length p.arrays.length d (c + (1 : Nat)) s.body).fst)
             · refine rA1 G (E4 (A3 6 [0, 1, 2, 3, 6] (ih s.body (c + 1) (n + 1) (by simp; omega) (by omega)) E3) (fc h24 fz) (us [(8, 14, 0), (1015, 1015, 0)])) (rg 8) (R6 p (.box [iA ((Z0 p d s c).snd : Int)] :: (R7 s []))) [(8, bA false)] [wO (n + 1)] (o1 (by omega)) fun G => b5 (wp_ret ?_); exact A8 false G (rg 8) (by rw [C9 (by omega) (by (rw [K3 (by omega)]; exact au7 (by omega) (by assumption) (by assumption) (by assumption))) (by assumption)]; assumption) (by show _ = mR (rg 8) (l9 p d s c); unfold l9; rw [C9 (by omega) (by (rw [K3 (by omega)]; exact au7 (by omega) (by assumption) (by assumption) (by assumption))) (by assumption)] <;> rfl)
             · refine rA1 G (E4 (A3 6 [0, 1, 2, 3, 6] (ih s.body (c + 1) (n + 1) (by simp; omega) (by omega)) (A3 14 [0, 1, 2, 3, 7] (ih s.els ((Z0 p d s c).snd) (n + 1) (K6 (by omega) (by assumption)) (by omega)) E3)) (fc h24 fz) (us [(8, 14, 0), (1015, 1015, 0)])) (rg 8) (R6 p (.box [iA ((Z1 p d s c).snd : Int)] :: (R7 s []))) [(8, bA (Z1 p d s c).fst)] [wO (n + 1), wO (n + 1)] (o2 (by omega)) fun G => b5 (wp_ret ?_); exact A8 ((l7 p.vars.length p.arrays.length d (l7 p.vars.length p.arrays.length d (c + 1) s.body).snd s.els).fst) G (rg 8) (by rw [E7 (by omega) (by (rw [K3 (by omega)]; exact au7 (by omega) (by assumption) (by assumption) (by assumption))) (by assumption)]; done) (by show _ = mR (rg 8) (l9 p d s c); unfold l9; rw [E7 (by omega) (by (rw [K3 (by omega)]; exact au7 (by omega) (by assumption) (by assumption) (by assumption))) (by assumption)] <;> rfl)
            · have q23 : (m9 p.vars.length p.arrays.length s.value) = false := (Eq.mp (bc7 _) h23); refine m7 G (E4 (A3 5 [0, 1, 2, 4] (M5 p s.index) (A3 10 [4] (ag1 s.index) (A3 30 [0, 1, 2, 5] (M5 p s.value) E3))) (fc (b := true) rfl (fc h21 (fc h22 (fc (b := false) rfl (fc h23 fz))))) (us [(2, 7, 0), (8, 11, 1), (12, 12, 0), (1012, 1012, 1), (1013, 1013, 0), (15, 17, 2), (18, 21, 3), (22, 22, 2), (1022, 1022, 3), (1023, 1023, 2), (25, 26, 3), (27, 31, 0), (32, 32, 3), (1032, 1032, 0), (1033, 1033, 3), (35, 37, 4), (42, 42, 4), (1043, 1043, 4)])) [(132, bA true)] fun G => b5 (rT G true (by kernel_rfl) (wp_seq (m7 G l5 [] fun G => b5 (wp_ret (m5 ?_))))); exact A8 false G (rg 8) (by rw [k6 (by (rw [K3 (by omega)]; simp [h100, h0, q0, h1, q1, h2, q2, h3, q3, h17, q17, h18, q18, h19, q19, h20, q20, h21, q21, h22, q22, h23, q23]; done))]; done) (by show _ = mR (rg 8) (l9 p d s c); unfold l9; rw [k6 (by (rw [K3 (by omega)]; simp [h100, h0, q0, h1, q1, h2, q2, h3, q3, h17, q17, h18, q18, h19, q19, h20, q20, h21, q21, h22, q22, h23, q23]; done))] <;> rfl)
           · have q22 : (I6 s.index) = false := (Eq.mp (bc7 _) h22); refine m7 G (E4 (A3 5 [0, 1, 2, 4] (M5 p s.index) (A3 10 [4] (ag1 s.index) E3)) (fc (b := true) rfl (fc h21 (fc h22 fz))) (us [(2, 7, 0), (8, 11, 1), (12, 12, 0), (1012, 1012, 1), (1013, 1013, 0), (15, 17, 2), (22, 22, 2), (1023, 1023, 2), (25, 26, 0), (32, 32, 0), (1033, 1033, 0), (35, 37, 0), (42, 42, 0), (1043, 1043, 0)])) [(132, bA true)] fun G => b5 (rT G true (by kernel_rfl) (wp_seq (m7 G l5 [] fun G => b5 (wp_ret (m5 ?_))))); exact A8 false G (rg 8) (by rw [k6 (by (rw [K3 (by omega)]; simp [h100, h0, q0, h1, q1, h2, q2, h3, q3, h17, q17, h18, q18, h19, q19, h20, q20, h21, q21, h22, q22]; done))]; done) (by show _ = mR (rg 8) (l9 p d s c); unfold l9; rw [k6 (by (rw [K3 (by omega)]; simp [h100, h0, q0, h1, q1, h2, q2, h3, q3, h17, q17, h18, q18, h19, q19, h20, q20, h21, q21, h22, q22]; done))] <;> rfl)
          · have q21 : (m9 p.vars.length p.arrays.length s.index) = false := (Eq.mp (bc7 _) h21); refine m7 G (E4 (A3 5 [0, 1, 2, 4] (M5 p s.index) E3) (fc (b := true) rfl (fc h21 fz)) (us [(2, 7, 0), (8, 11, 1), (12, 12, 0), (1012, 1012, 1), (1013, 1013, 0), (15, 17, 0), (22, 22, 0), (1023, 1023, 0), (25, 26, 0), (32, 32, 0), (1033, 1033, 0), (35, 37, 0), (42, 42, 0), (1043, 1043, 0)])) [(132, bA true)] fun G => b5 (rT G true (by kernel_rfl) (wp_seq (m7 G l5 [] fun G => b5 (wp_ret (m5 ?_))))); exact A8 false G (rg 8) (by rw [k6 (by (rw [K3 (by omega)]; simp [h100, h0, q0, h1, q1, h2, q2, h3, q3, h17, q17, h18, q18, h19, q19, h20, q20, h21, q21]; done))]; done) (by show _ = mR (rg 8) (l9 p d s c); unfold l9; rw [k6 (by (rw [K3 (by omega)]; simp [h100, h0, q0, h1, q1, h2, q2, h3, q3, h17, q17, h18, q18, h19, q19, h20, q20, h21, q21]; done))] <;> rfl)
         · refine wp_seq (m7 G l5 [] fun G => b5 (wp_ret (m5 ?_))); exact A8 false G (rg 8) (by rw [k6 (by (rw [K3 (by omega), decide_eq_false (by omega)]; rfl))]; done) (by show _ = mR (rg 8) (l9 p d s c); unfold l9; rw [k6 (by (rw [K3 (by omega), decide_eq_false (by omega)]; rfl))] <;> rfl)
        · have q19 := Y8 h19; refine K0 G (E4 (A3 4 [] (A1 s.target 0 ((p.arrays.length : Int) - 1)) E3) (fc h17 (fc (b := false) rfl (fc (b := true) rfl (fc h18 (fc h19 fz))))) (us [(7, 8, 0), (9, 12, 1), (13, 13, 0), (1013, 1013, 1), (1014, 1014, 0), (16, 18, 1), (19, 21, 2), (22, 22, 1), (1022, 1022, 2), (1023, 1023, 1), (25, 27, 3), (28, 31, 2), (32, 32, 3), (1032, 1032, 2), (1033, 1033, 3), (35, 37, 4), (42, 42, 4), (1043, 1043, 4)])) [(88, bA true)] [wO ((p.arrays.length : Int) - 1)] (o1 (by omega)) fun G => b5 (rT G true (by kernel_rfl) (wp_seq (m7 G l5 [] fun G => b5 (wp_ret (m5 ?_))))); exact A8 false G (rg 8) (by rw [k6 (by (rw [K3 (by omega), decide_eq_false (by omega)]; rfl))]; done) (by show _ = mR (rg 8) (l9 p d s c); unfold l9; rw [k6 (by (rw [K3 (by omega), decide_eq_false (by omega)]; rfl))] <;> rfl)
       · have q18 := bne_iff_ne.1 h18; refine K0 G (E4 (A3 4 [] (A1 s.target 0 ((p.arrays.length : Int) - 1)) E3) (fc h17 (fc (b := false) rfl (fc (b := true) rfl (fc h18 fz)))) (us [(7, 8, 0), (9, 12, 1), (13, 13, 0), (1013, 1013, 1), (1014, 1014, 0), (16, 18, 1), (19, 21, 2), (22, 22, 1), (1022, 1022, 2), (1023, 1023, 1), (25, 27, 3), (32, 32, 3), (1033, 1033, 3), (35, 37, 2), (42, 42, 2), (1043, 1043, 2)])) [(88, bA true)] [wO ((p.arrays.length : Int) - 1)] (o1 (by omega)) fun G => b5 (rT G true (by kernel_rfl) (wp_seq (m7 G l5 [] fun G => b5 (wp_ret (m5 ?_))))); exact A8 false G (rg 8) (by rw [k6 (by (rw [K3 (by omega), decide_eq_false (by omega)]; rfl))]; done) (by show _ = mR (rg 8) (l9 p d s c); unfold l9; rw [k6 (by (rw [K3 (by omega), decide_eq_false (by omega)]; rfl))] <;> rfl)
      · have q17 : (¬ (0 ≤ s.target)) ∨ (¬ (s.target ≤ (p.arrays.length : Int) - 1)) := (fun hq => Or.imp (fun hq => of_decide_eq_false hq) (fun hq => of_decide_eq_false hq) (Bool.and_eq_false_iff.1 hq)) (Eq.mp (bc7 _) h17); refine K0 G (E4 (A3 4 [] (A1 s.target 0 ((p.arrays.length : Int) - 1)) E3) (fc h17 (fc (b := true) rfl fz)) [(7, 0), (8, 0), (13, 0), (1014, 0), (16, 1), (17, 1), (18, 1), (22, 1), (1023, 1), (25, 1), (26, 1), (27, 1), (32, 1), (1033, 1), (35, 1), (36, 1), (37, 1), (42, 1), (1043, 1)]) [(88, bA true)] [wO ((p.arrays.length : Int) - 1)] (o1 (by omega)) fun G => b5 (rT G true (by kernel_rfl) (wp_seq (m7 G l5 [] fun G => b5 (wp_ret (m5 ?_))))); exact A8 false G (rg 8) (by rw [k6 (by (rw [K3 (by omega), decide_eq_false (by omega)]; rfl))]; done) (by show _ = mR (rg 8) (l9 p d s c); unfold l9; rw [k6 (by (rw [K3 (by omega), decide_eq_false (by omega)]; rfl))] <;> rfl)
    ·
     refine m7 G l5 [(9, iA (p.vars.length : Int))] fun G => G7 (b5 (wp_seq (wp_seq ?_))); cases h25 : (!(decide ((0 : Int) ≤ s.target) && decide (s.target ≤ (p.vars.length : Int) - 1)))
     ·
      have q25 : (0 ≤ s.target) ∧ (s.target ≤ (p.vars.length : Int) - 1) := (fun hq => And.imp (fun hq => of_decide_eq_true hq) (fun hq => of_decide_eq_true hq) (Bool.and_eq_true_iff.1 hq)) (Eq.mp (bc9 _) h25); cases h26 : (s.count != 0)
      ·
       have q26 := bne_eq_false_iff_eq.1 h26; cases h27 : (decide ((s.body.length : Int) > 0))
       ·
        have q27 := Y9 h27; refine K0 G (E4 (A3 4 [] (A1 s.target 0 ((p.vars.length : Int) - 1)) E3) (fc h25 (fc (b := false) rfl (fc (b := true) rfl (fc h26 (fc h27 fz))))) (us [(7, 8, 0), (9, 12, 1), (13, 13, 0), (1013, 1013, 1), (1014, 1014, 0), (16, 18, 1), (19, 21, 2), (22, 22, 1), (1022, 1022, 2), (1023, 1023, 1), (25, 27, 3), (28, 31, 2), (32, 32, 3), (1032, 1032, 2), (1033, 1033, 3), (35, 37, 4), (38, 41, 2), (42, 42, 4), (1042, 1042, 2), (1043, 1043, 4)])) [(88, bA (decide ((s.els.length : Int) > 0)))] [wO ((p.vars.length : Int) - 1)] (o1 (by omega)) fun G => b5 (rcD G (fun h28 q28 => ?_) fun h28 q28 => ?_)
        ·
         refine wp_skip (b5 (wp_seq (wp_seq ?_))); cases h29 : (!noneB s.index)
         ·
          have q29 : (noneB s.index) = true := (Eq.mp (bc9 _) h29); cases h30 : (!m9 p.vars.length p.arrays.length s.value)
          ·
           have q30 : (m9 p.vars.length p.arrays.length s.value) = true := (Eq.mp (bc9 _) h30); refine m7 G (E4 (A3 20 [4] (F6 s.index) (A3 30 [0, 1, 2, 5] (M5 p s.value) E3)) (fc (b := false) rfl (fc (b := true) rfl (fc h29 (fc h30 fz)))) (us [(2, 7, 0), (12, 12, 0), (1013, 1013, 0), (15, 17, 0), (18, 21, 1), (22, 22, 0), (1022, 1022, 1), (1023, 1023, 0), (25, 26, 2), (27, 31, 1), (32, 32, 2), (1032, 1032, 1), (1033, 1033, 2), (35, 37, 3), (38, 41, 0), (42, 42, 3), (1042, 1042, 0), (1043, 1043, 3)])) [(132, bA false)] fun G => b5 (rF G false (by kernel_rfl) (wp_skip (b5 (wp_seq ?_)))); cases h31 : ((l7 p.vars.length p.arrays.length d (c + (1 : Nat)) s.body).fst)
           · refine rA1 G (E4 (A3 6 [0, 1, 2, 3, 6] (ih s.body (c + 1) (n + 1) (by simp; omega) (by omega)) E3) (fc h31 fz) (us [(8, 14, 0), (1015, 1015, 0)])) (rg 8) (R6 p (.box [iA ((Z0 p d s c).snd : Int)] :: (R7 s []))) [(8, bA false)] [wO (n + 1)] (o1 (by omega)) fun G => b5 (wp_ret ?_); exact A8 false G (rg 8) (by rw [C9 (by omega) (by (rw [C6 (by omega)]; exact N2 (by omega) (by assumption) (by assumption))) (by assumption)]; assumption) (by show _ = mR (rg 8) (l9 p d s c); unfold l9; rw [C9 (by omega) (by (rw [C6 (by omega)]; exact N2 (by omega) (by assumption) (by assumption))) (by assumption)] <;> rfl)
           · refine rA1 G (E4 (A3 6 [0, 1, 2, 3, 6] (ih s.body (c + 1) (n + 1) (by simp; omega) (by omega)) (A3 14 [0, 1, 2, 3, 7] (ih s.els ((Z0 p d s c).snd) (n + 1) (K6 (by omega) (by assumption)) (by omega)) E3)) (fc h31 fz) (us [(8, 14, 0), (1015, 1015, 0)])) (rg 8) (R6 p (.box [iA ((Z1 p d s c).snd : Int)] :: (R7 s []))) [(8, bA (Z1 p d s c).fst)] [wO (n + 1), wO (n + 1)] (o2 (by omega)) fun G => b5 (wp_ret ?_); exact A8 ((l7 p.vars.length p.arrays.length d (l7 p.vars.length p.arrays.length d (c + 1) s.body).snd s.els).fst) G (rg 8) (by rw [E7 (by omega) (by (rw [C6 (by omega)]; exact N2 (by omega) (by assumption) (by assumption))) (by assumption)]; done) (by show _ = mR (rg 8) (l9 p d s c); unfold l9; rw [E7 (by omega) (by (rw [C6 (by omega)]; exact N2 (by omega) (by assumption) (by assumption))) (by assumption)] <;> rfl)
          · have q30 : (m9 p.vars.length p.arrays.length s.value) = false := (Eq.mp (bc7 _) h30); refine m7 G (E4 (A3 20 [4] (F6 s.index) (A3 30 [0, 1, 2, 5] (M5 p s.value) E3)) (fc (b := false) rfl (fc (b := true) rfl (fc h29 (fc h30 fz)))) (us [(2, 7, 0), (12, 12, 0), (1013, 1013, 0), (15, 17, 0), (18, 21, 1), (22, 22, 0), (1022, 1022, 1), (1023, 1023, 0), (25, 26, 2), (27, 31, 1), (32, 32, 2), (1032, 1032, 1), (1033, 1033, 2), (35, 37, 3), (42, 42, 3), (1043, 1043, 3)])) [(132, bA true)] fun G => b5 (rT G true (by kernel_rfl) (wp_seq (m7 G l5 [] fun G => b5 (wp_ret (m5 ?_))))); exact A8 false G (rg 8) (by rw [k6 (by (rw [C6 (by omega)]; simp [h100, h0, q0, h1, q1, h2, q2, h25, q25, h26, q26, h27, q27, h28, q28, h29, q29, h30, q30]; done))]; done) (by show _ = mR (rg 8) (l9 p d s c); unfold l9; rw [k6 (by (rw [C6 (by omega)]; simp [h100, h0, q0, h1, q1, h2, q2, h25, q25, h26, q26, h27, q27, h28, q28, h29, q29, h30, q30]; done))] <;> rfl)
         · have q29 : (noneB s.index) = false := (Eq.mp (bc7 _) h29); refine m7 G (E4 (A3 20 [4] (F6 s.index) E3) (fc (b := false) rfl (fc (b := true) rfl (fc h29 fz))) (us [(2, 7, 0), (12, 12, 0), (1013, 1013, 0), (15, 17, 0), (18, 21, 1), (22, 22, 0), (1022, 1022, 1), (1023, 1023, 0), (25, 26, 2), (32, 32, 2), (1033, 1033, 2), (35, 37, 1), (42, 42, 1), (1043, 1043, 1)])) [(132, bA true)] fun G => b5 (rT G true (by kernel_rfl) (wp_seq (m7 G l5 [] fun G => b5 (wp_ret (m5 ?_))))); exact A8 false G (rg 8) (by rw [k6 (by (rw [C6 (by omega)]; simp [h100, h0, q0, h1, q1, h2, q2, h25, q25, h26, q26, h27, q27, h28, q28, h29, q29]; done))]; done) (by show _ = mR (rg 8) (l9 p d s c); unfold l9; rw [k6 (by (rw [C6 (by omega)]; simp [h100, h0, q0, h1, q1, h2, q2, h25, q25, h26, q26, h27, q27, h28, q28, h29, q29]; done))] <;> rfl)
        · refine wp_seq (m7 G l5 [] fun G => b5 (wp_ret (m5 ?_))); exact A8 false G (rg 8) (by rw [k6 (by (rw [C6 (by omega), decide_eq_false (by omega)]; rfl))]; done) (by show _ = mR (rg 8) (l9 p d s c); unfold l9; rw [k6 (by (rw [C6 (by omega), decide_eq_false (by omega)]; rfl))] <;> rfl)
       · have q27 := Y8 h27; refine K0 G (E4 (A3 4 [] (A1 s.target 0 ((p.vars.length : Int) - 1)) E3) (fc h25 (fc (b := false) rfl (fc (b := true) rfl (fc h26 (fc h27 fz))))) (us [(7, 8, 0), (9, 12, 1), (13, 13, 0), (1013, 1013, 1), (1014, 1014, 0), (16, 18, 1), (19, 21, 2), (22, 22, 1), (1022, 1022, 2), (1023, 1023, 1), (25, 27, 3), (28, 31, 2), (32, 32, 3), (1032, 1032, 2), (1033, 1033, 3), (35, 37, 4), (42, 42, 4), (1043, 1043, 4)])) [(88, bA true)] [wO ((p.vars.length : Int) - 1)] (o1 (by omega)) fun G => b5 (rT G true (by kernel_rfl) (wp_seq (m7 G l5 [] fun G => b5 (wp_ret (m5 ?_))))); exact A8 false G (rg 8) (by rw [k6 (by (rw [C6 (by omega), decide_eq_false (by omega)]; rfl))]; done) (by show _ = mR (rg 8) (l9 p d s c); unfold l9; rw [k6 (by (rw [C6 (by omega), decide_eq_false (by omega)]; rfl))] <;> rfl)
      · have q26 := bne_iff_ne.1 h26; refine K0 G (E4 (A3 4 [] (A1 s.target 0 ((p.vars.length : Int) - 1)) E3) (fc h25 (fc (b := false) rfl (fc (b := true) rfl (fc h26 fz)))) (us [(7, 8, 0), (9, 12, 1), (13, 13, 0), (1013, 1013, 1), (1014, 1014, 0), (16, 18, 1), (19, 21, 2), (22, 22, 1), (1022, 1022, 2), (1023, 1023, 1), (25, 27, 3), (32, 32, 3), (1033, 1033, 3), (35, 37, 2), (42, 42, 2), (1043, 1043, 2)])) [(88, bA true)] [wO ((p.vars.length : Int) - 1)] (o1 (by omega)) fun G => b5 (rT G true (by kernel_rfl) (wp_seq (m7 G l5 [] fun G => b5 (wp_ret (m5 ?_))))); exact A8 false G (rg 8) (by rw [k6 (by (rw [C6 (by omega), decide_eq_false (by omega)]; rfl))]; done) (by show _ = mR (rg 8) (l9 p d s c); unfold l9; rw [k6 (by (rw [C6 (by omega), decide_eq_false (by omega)]; rfl))] <;> rfl)
     · have q25 : (¬ (0 ≤ s.target)) ∨ (¬ (s.target ≤ (p.vars.length : Int) - 1)) := (fun hq => Or.imp (fun hq => of_decide_eq_false hq) (fun hq => of_decide_eq_false hq) (Bool.and_eq_false_iff.1 hq)) (Eq.mp (bc7 _) h25); refine K0 G (E4 (A3 4 [] (A1 s.target 0 ((p.vars.length : Int) - 1)) E3) (fc h25 (fc (b := true) rfl fz)) [(7, 0), (8, 0), (13, 0), (1014, 0), (16, 1), (17, 1), (18, 1), (22, 1), (1023, 1), (25, 1), (26, 1), (27, 1), (32, 1), (1033, 1), (35, 1), (36, 1), (37, 1), (42, 1), (1043, 1)]) [(88, bA true)] [wO ((p.vars.length : Int) - 1)] (o1 (by omega)) fun G => b5 (rT G true (by kernel_rfl) (wp_seq (m7 G l5 [] fun G => b5 (wp_ret (m5 ?_))))); exact A8 false G (rg 8) (by rw [k6 (by (rw [C6 (by omega), decide_eq_false (by omega)]; rfl))]; done) (by show _ = mR (rg 8) (l9 p d s c); unfold l9; rw [k6 (by (rw [C6 (by omega), decide_eq_false (by omega)]; rfl))] <;> rfl)
   ·
    refine wp_skip (b5 (rT G _ h1 (m7 G l5 [(9, iA (p.vars.length : Int))] fun G => G7 (b5 (wp_seq (wp_seq ?_)))))); cases h32 : (!(decide ((0 : Int) ≤ s.target) && decide (s.target ≤ (p.vars.length : Int) - 1)))
    ·
     have q32 : (0 ≤ s.target) ∧ (s.target ≤ (p.vars.length : Int) - 1) := (fun hq => And.imp (fun hq => of_decide_eq_true hq) (fun hq => of_decide_eq_true hq) (Bool.and_eq_true_iff.1 hq)) (Eq.mp (bc9 _) h32); cases h33 : (s.count != 0)
     ·
      have q33 := bne_eq_false_iff_eq.1 h33; cases h34 : (decide ((s.body.length : Int) > 0))
      ·
       have q34 := Y9 h34; refine K0 G (E4 (A3 4 [] (A1 s.target 0 ((p.vars.length : Int) - 1)) E3) (fc h32 (fc (b := false) rfl (fc (b := true) rfl (fc h33 (fc h34 fz))))) (us [(7, 8, 0), (9, 12, 1), (13, 13, 0), (1013, 1013, 1), (1014, 1014, 0), (16, 18, 1), (19, 21, 2), (22, 22, 1), (1022, 1022, 2), (1023, 1023, 1), (25, 27, 3), (28, 31, 2), (32, 32, 3), (1032, 1032, 2), (1033, 1033, 3), (35, 37, 4), (38, 41, 2), (42, 42, 4), (1042, 1042, 2), (1043, 1043, 4)])) [(88, bA (decide ((s.els.length : Int) > 0)))] [wO ((p.vars.length : Int) - 1)] (o1 (by omega)) fun G => b5 (rcD G (fun h35 q35 => ?_) fun h35 q35 => ?_)
       ·
        refine wp_skip (b5 (wp_seq (wp_seq ?_))); cases h36 : (!noneB s.index)
        ·
         have q36 : (noneB s.index) = true := (Eq.mp (bc9 _) h36); cases h37 : (!m9 p.vars.length p.arrays.length s.value)
         ·
          have q37 : (m9 p.vars.length p.arrays.length s.value) = true := (Eq.mp (bc9 _) h37); refine m7 G (E4 (A3 20 [4] (F6 s.index) (A3 30 [0, 1, 2, 5] (M5 p s.value) E3)) (fc (b := false) rfl (fc (b := true) rfl (fc h36 (fc h37 fz)))) (us [(2, 7, 0), (12, 12, 0), (1013, 1013, 0), (15, 17, 0), (18, 21, 1), (22, 22, 0), (1022, 1022, 1), (1023, 1023, 0), (25, 26, 2), (27, 31, 1), (32, 32, 2), (1032, 1032, 1), (1033, 1033, 2), (35, 37, 3), (38, 41, 0), (42, 42, 3), (1042, 1042, 0), (1043, 1043, 3)])) [(132, bA false)] fun G => b5 (rF G false (by kernel_rfl) (wp_skip (b5 (wp_seq ?_)))); cases h38 : ((l7 p.vars.length p.arrays.length d (c + (1 : Nat)) s.body).fst)
          · refine rA1 G (E4 (A3 6 [0, 1, 2, 3, 6] (ih s.body (c + 1) (n + 1) (by simp; omega) (by omega)) E3) (fc h38 fz) (us [(8, 14, 0), (1015, 1015, 0)])) (rg 8) (R6 p (.box [iA ((Z0 p d s c).snd : Int)] :: (R7 s []))) [(8, bA false)] [wO (n + 1)] (o1 (by omega)) fun G => b5 (wp_ret ?_); exact A8 false G (rg 8) (by rw [C9 (by omega) (by (rw [C6 (by omega)]; exact N2 (by omega) (by assumption) (by assumption))) (by assumption)]; assumption) (by show _ = mR (rg 8) (l9 p d s c); unfold l9; rw [C9 (by omega) (by (rw [C6 (by omega)]; exact N2 (by omega) (by assumption) (by assumption))) (by assumption)] <;> rfl)
          · refine rA1 G (E4 (A3 6 [0, 1, 2, 3, 6] (ih s.body (c + 1) (n + 1) (by simp; omega) (by omega)) (A3 14 [0, 1, 2, 3, 7] (ih s.els ((Z0 p d s c).snd) (n + 1) (K6 (by omega) (by assumption)) (by omega)) E3)) (fc h38 fz) (us [(8, 14, 0), (1015, 1015, 0)])) (rg 8) (R6 p (.box [iA ((Z1 p d s c).snd : Int)] :: (R7 s []))) [(8, bA (Z1 p d s c).fst)] [wO (n + 1), wO (n + 1)] (o2 (by omega)) fun G => b5 (wp_ret ?_); exact A8 ((l7 p.vars.length p.arrays.length d (l7 p.vars.length p.arrays.length d (c + 1) s.body).snd s.els).fst) G (rg 8) (by rw [E7 (by omega) (by (rw [C6 (by omega)]; exact N2 (by omega) (by assumption) (by assumption))) (by assumption)]; done) (by show _ = mR (rg 8) (l9 p d s c); unfold l9; rw [E7 (by omega) (by (rw [C6 (by omega)]; exact N2 (by omega) (by assumption) (by assumption))) (by assumption)] <;> rfl)
         · have q37 : (m9 p.vars.length p.arrays.length s.value) = false := (Eq.mp (bc7 _) h37); refine m7 G (E4 (A3 20 [4] (F6 s.index) (A3 30 [0, 1, 2, 5] (M5 p s.value) E3)) (fc (b := false) rfl (fc (b := true) rfl (fc h36 (fc h37 fz)))) (us [(2, 7, 0), (12, 12, 0), (1013, 1013, 0), (15, 17, 0), (18, 21, 1), (22, 22, 0), (1022, 1022, 1), (1023, 1023, 0), (25, 26, 2), (27, 31, 1), (32, 32, 2), (1032, 1032, 1), (1033, 1033, 2), (35, 37, 3), (42, 42, 3), (1043, 1043, 3)])) [(132, bA true)] fun G => b5 (rT G true (by kernel_rfl) (wp_seq (m7 G l5 [] fun G => b5 (wp_ret (m5 ?_))))); exact A8 false G (rg 8) (by rw [k6 (by (rw [C6 (by omega)]; simp [h100, h0, q0, h1, q1, h32, q32, h33, q33, h34, q34, h35, q35, h36, q36, h37, q37]; done))]; done) (by show _ = mR (rg 8) (l9 p d s c); unfold l9; rw [k6 (by (rw [C6 (by omega)]; simp [h100, h0, q0, h1, q1, h32, q32, h33, q33, h34, q34, h35, q35, h36, q36, h37, q37]; done))] <;> rfl)
        · have q36 : (noneB s.index) = false := (Eq.mp (bc7 _) h36); refine m7 G (E4 (A3 20 [4] (F6 s.index) E3) (fc (b := false) rfl (fc (b := true) rfl (fc h36 fz))) (us [(2, 7, 0), (12, 12, 0), (1013, 1013, 0), (15, 17, 0), (18, 21, 1), (22, 22, 0), (1022, 1022, 1), (1023, 1023, 0), (25, 26, 2), (32, 32, 2), (1033, 1033, 2), (35, 37, 1), (42, 42, 1), (1043, 1043, 1)])) [(132, bA true)] fun G => b5 (rT G true (by kernel_rfl) (wp_seq (m7 G l5 [] fun G => b5 (wp_ret (m5 ?_))))); exact A8 false G (rg 8) (by rw [k6 (by (rw [C6 (by omega)]; simp [h100, h0, q0, h1, q1, h32, q32, h33, q33, h34, q34, h35, q35, h36, q36]; done))]; done) (by show _ = mR (rg 8) (l9 p d s c); unfold l9; rw [k6 (by (rw [C6 (by omega)]; simp [h100, h0, q0, h1, q1, h32, q32, h33, q33, h34, q34, h35, q35, h36, q36]; done))] <;> rfl)
       · refine wp_seq (m7 G l5 [] fun G => b5 (wp_ret (m5 ?_))); exact A8 false G (rg 8) (by rw [k6 (by (rw [C6 (by omega), decide_eq_false (by omega)]; rfl))]; done) (by show _ = mR (rg 8) (l9 p d s c); unfold l9; rw [k6 (by (rw [C6 (by omega), decide_eq_false (by omega)]; rfl))] <;> rfl)
      · have q34 := Y8 h34; refine K0 G (E4 (A3 4 [] (A1 s.target 0 ((p.vars.length : Int) - 1)) E3) (fc h32 (fc (b := false) rfl (fc (b := true) rfl (fc h33 (fc h34 fz))))) (us [(7, 8, 0), (9, 12, 1), (13, 13, 0), (1013, 1013, 1), (1014, 1014, 0), (16, 18, 1), (19, 21, 2), (22, 22, 1), (1022, 1022, 2), (1023, 1023, 1), (25, 27, 3), (28, 31, 2), (32, 32, 3), (1032, 1032, 2), (1033, 1033, 3), (35, 37, 4), (42, 42, 4), (1043, 1043, 4)])) [(88, bA true)] [wO ((p.vars.length : Int) - 1)] (o1 (by omega)) fun G => b5 (rT G true (by kernel_rfl) (wp_seq (m7 G l5 [] fun G => b5 (wp_ret (m5 ?_))))); exact A8 false G (rg 8) (by rw [k6 (by (rw [C6 (by omega), decide_eq_false (by omega)]; rfl))]; done) (by show _ = mR (rg 8) (l9 p d s c); unfold l9; rw [k6 (by (rw [C6 (by omega), decide_eq_false (by omega)]; rfl))] <;> rfl)
     · have q33 := bne_iff_ne.1 h33; refine K0 G (E4 (A3 4 [] (A1 s.target 0 ((p.vars.length : Int) - 1)) E3) (fc h32 (fc (b := false) rfl (fc (b := true) rfl (fc h33 fz)))) (us [(7, 8, 0), (9, 12, 1), (13, 13, 0), (1013, 1013, 1), (1014, 1014, 0), (16, 18, 1), (19, 21, 2), (22, 22, 1), (1022, 1022, 2), (1023, 1023, 1), (25, 27, 3), (32, 32, 3), (1033, 1033, 3), (35, 37, 2), (42, 42, 2), (1043, 1043, 2)])) [(88, bA true)] [wO ((p.vars.length : Int) - 1)] (o1 (by omega)) fun G => b5 (rT G true (by kernel_rfl) (wp_seq (m7 G l5 [] fun G => b5 (wp_ret (m5 ?_))))); exact A8 false G (rg 8) (by rw [k6 (by (rw [C6 (by omega), decide_eq_false (by omega)]; rfl))]; done) (by show _ = mR (rg 8) (l9 p d s c); unfold l9; rw [k6 (by (rw [C6 (by omega), decide_eq_false (by omega)]; rfl))] <;> rfl)
    · have q32 : (¬ (0 ≤ s.target)) ∨ (¬ (s.target ≤ (p.vars.length : Int) - 1)) := (fun hq => Or.imp (fun hq => of_decide_eq_false hq) (fun hq => of_decide_eq_false hq) (Bool.and_eq_false_iff.1 hq)) (Eq.mp (bc7 _) h32); refine K0 G (E4 (A3 4 [] (A1 s.target 0 ((p.vars.length : Int) - 1)) E3) (fc h32 (fc (b := true) rfl fz)) [(7, 0), (8, 0), (13, 0), (1014, 0), (16, 1), (17, 1), (18, 1), (22, 1), (1023, 1), (25, 1), (26, 1), (27, 1), (32, 1), (1033, 1), (35, 1), (36, 1), (37, 1), (42, 1), (1043, 1)]) [(88, bA true)] [wO ((p.vars.length : Int) - 1)] (o1 (by omega)) fun G => b5 (rT G true (by kernel_rfl) (wp_seq (m7 G l5 [] fun G => b5 (wp_ret (m5 ?_))))); exact A8 false G (rg 8) (by rw [k6 (by (rw [C6 (by omega), decide_eq_false (by omega)]; rfl))]; done) (by show _ = mR (rg 8) (l9 p d s c); unfold l9; rw [k6 (by (rw [C6 (by omega), decide_eq_false (by omega)]; rfl))] <;> rfl)
  · have q0 := Y8 h0; refine m7 G (L9 (fc h0 fz) [(5, 0), (6, 0), (1007, 0)]) [(27, bA true)] fun G => b5 (rT G true (by kernel_rfl) (wp_seq (m7 G l5 [] fun G => b5 (wp_ret (m5 ?_))))); exact A8 false G (rg 8) (by simp [aa5 (d := d + 1) (s := s) (show 60 < c + 1 by omega)]; done) (by show _ = mR (rg 8) (l9 p d s c); unfold l9; have e1 : (((t9 p.vars.length p.arrays.length (d + 1) c s).snd : Int) : Int) = ((c : Int) + 1) := (by simp [aa5 (d := d + 1) (s := s) (show 60 < c + 1 by omega)]; done); (first | rw [e1] | simp only [e1]) <;> rfl)
theorem aT5 (p : l6) : ∀ (d : Nat), d ≤ 5 → ∀ (ss : List b6) (c : Nat) (n : Int), c ≤ 60 → n = 6 - (d : Int) → t7.ok Try.prog (aB8 p d c ss n) := by
 intro d
 induction d with
 | zero => intro hd ss c n hc hn; exact az3 p 0 hd (fun s c n hc hn => aZ2 p s c hc n (by omega)) ss c n hc hn
 | succ d ih => intro hd ss c n hc hn; exact az3 p (d + 1) hd (fun s c n hc hn => aZ1 p d (by omega) (ih (by omega)) s c n hc (by omega)) ss c n hc hn
theorem az4 (p : l6) (n : Int) (hn : n = 1) : t7.ok Try.prog ⟨70, [pA 0, .ref 2, iA n, .ptr 3 0], pS p ++ [.box [iA 0]], pS p ++ [.box [iA (l7 p.vars.length p.arrays.length 5 0 p.body).2]], bA (l7 p.vars.length p.arrays.length 5 0 p.body).1⟩ :=
 t7.dup (S := pS p ++ [.box [iA 0]]) (S' := pS p ++ [.box [iA (l7 p.vars.length p.arrays.length 5 0 p.body).2]]) (d := .stmts p.body) (i := 2) (aT5 p 5 (by omega) p.body 0 n (by omega) (by omega)) rfl rfl rfl (fun ρ h => by simp only [AV.vals, AV.val]; rw [show ρ 4 = ρ 2 from h]) rfl
theorem ah7 (p : l6) : t7.ok Try.prog (N0 16 [pA 0] (pS p) (bA (K2 p))) := by
 refine M4 15 Try.func16 [dI p.vars, dI p.arrays, dT p.body] [(0, pA 0)] fun G => ?_; refine wp_seq (B3 G l5 (rg 4) [dI p.vars, dI p.arrays, dT p.body, .box (pL 0)] [(1, .ptr 3 0), (2, bA false)] fun G => b5 (wp_seq (B3 G l5 (rg 5) [dI p.vars, dI p.arrays, dT p.body, .box (pL 0), .box [iA 0]] [(1, .ptr 3 0), (2, bA false), (3, .ptr 4 0)] fun G => b5 (wp_seq ?_)))); cases h0 : (G6 p.vars p.arrays)
 ·refine B3 G (E4 (A3 4 [0, 1] (an2 p.vars p.arrays) E3) (fc h0 fz) (us [(6, 9, 0), (1010, 1010, 0)])) [0, 1, 2] [dI p.vars, dI p.arrays, dT p.body] [(2, bA false)] fun G => b5 (wp_ret ?_); exact A8 false G [0, 1, 2] (ah1 (by assumption))
 ·refine B3 G (E4 (A3 4 [0, 1] (an2 p.vars p.arrays) (A3 9 [0, 1, 2, 4] (az4 p 1 (by kernel_rfl)) E3)) (fc h0 fz) (us [(6, 9, 0), (1010, 1010, 0)])) [0, 1, 2] [dI p.vars, dI p.arrays, dT p.body] [(2, bA (l7 p.vars.length p.arrays.length 5 0 p.body).fst)] fun G => b5 (wp_ret ?_); exact A8 ((l7 p.vars.length p.arrays.length 5 0 p.body).fst) G [0, 1, 2] (by rw [← av7 (p := p) (by assumption)])
section
variable {nv na d : Nat} {e : k5}
end
theorem aK8 {x : Int} (h : v5 x = true) : x = 0 ∨ x = 1 ∨ x = 2 ∨ x = 3 := by simp [v5] at h; omega
theorem X2 (l : Int) : t7.ok Try.prog (N0 28 [iA l] [] (bA (v5 l && decide (l % 2 = 1)))) := by
 refine M4 10 Try.func28 [] [(0, iA l)] fun G => ?_; refine wp_seq (m7 G l5 [(2, bA false)] fun G => b5 (wp_seq ?_)); cases h0 : (v5 l)
 ·refine m7 G (E4 (A3 1 [] (Z7 l) E3) (fc h0 fz) [(3, 0), (4, 0), (5, 0), (1006, 0)]) [] fun G => b5 (wp_ret ?_); exact rxr G []
 ·refine m7 G (E4 (A3 1 [] (Z7 l) E3) (fc h0 fz) [(3, 0), (4, 0), (5, 0), (1006, 0)]) [(2, bA (aF9 l 1 != 0))] fun G => b5 (wp_ret ?_); exact A8 (aF9 l 1 != 0) G [] (by rcases aK8 h0 with rfl | rfl | rfl | rfl <;> kernel_rfl)
section
variable {vs ars : List Int} {d : Nat} {e : k5}
end
theorem aA4 {α : Type} {l : List α} {k : Nat} {p : α → Bool} {z : α} (h : (l.take k).any p = false) (hk : k < l.length) (hp : p (l.getD k z) = false) : (l.take (k + 1)).any p = false := by
 rw [I2 l k hk, List.any_append, h, ← t2 (d := z) hk, List.any_cons, hp]; rfl
theorem aA5 {α : Type} {l : List α} {k : Nat} {p : α → Bool} (h : (l.take k).any p = false) (hk : l.length ≤ k) : l.any p = false := by
 rw [bc3 hk] at h; exact h
section
variable {nv na : Nat} {s : b6}
variable (h : I5 nv na s = true)
include h
end
section
variable {p : l6} {s : b6} {pc : Int} {strict : Bool} {x : Int}
end
section
variable {p : l6} {strict : Bool} {d c : Nat} {pc : Int} {s : b6}
end
section
variable {p : l6} {strict : Bool}
end
section
variable {p : l6} {s : b6} {cx : Int}
end
def V4 {α : Type} (f : α → Bool) (l : List α) : Int := match l.findIdx? f with
 | some i => i
 | none => -1
theorem aq3 {α : Type} {f : α → Bool} {l : List α} {k : Nat} {z : α} (hk : k < l.length) (h : (l.take k).any f = false) (hf : f (l.getD k z) = true) : V4 f l = k := by
 have : l.findIdx? f = some k := by
  rw [List.findIdx?_eq_some_iff_getElem]
  rw [t2 hk] at hf
  refine ⟨hk, hf, fun j hj => ?_⟩
  rw [List.any_eq_false] at h
  have hm : l[j] ∈ l.take k := List.mem_take_iff_getElem.2 ⟨j, by omega, rfl⟩
  exact h _ hm
 unfold V4; rw [this]
theorem al8 {α : Type} {f : α → Bool} {l : List α} (h : l.any f = false) : V4 f l = -1 := by
 have : l.findIdx? f = none := by
  rw [List.findIdx?_eq_none_iff]
  intro x hx
  rw [List.any_eq_false] at h
  simpa using h x hx
 unfold V4; rw [this]
theorem aq4 {α : Type} (f : α → Bool) (l : List α) : decide (V4 f l ≥ 0) = l.any f := by
 cases h : l.any f
 ·rw [al8 h]; rfl
 ·unfold V4
  cases h2 : l.findIdx? f with
  | none =>
   rw [List.findIdx?_eq_none_iff] at h2
   obtain ⟨x, hx, hf⟩ := List.any_eq_true.1 h
   rw [h2 x hx] at hf; cases hf
  | some i => simp
section
variable {p : l6} {s : b6}
end
section
variable {R : b6 × Int → Int} {c a : Int} {n : Nat} {x : b6 × Int}
end
section
variable {R : b6 × Int → Int} {p : l6} {d : Nat} {cx : Int} {ss : List b6} {c b : Int} {n k : Nat}
end
abbrev Lab : Type := List Int × List Int
def bv (x : Int) : BitVec 64 := BitVec.ofInt 64 x
def leI (x y : Int) : Prop := bv x ||| bv y = bv y
theorem leI.refl (x : Int) : leI x x := BitVec.or_self
theorem leI.trans {x y z : Int} (h : leI x y) (k : leI y z) : leI x z := by
 unfold leI at *
 rw [← k, ← BitVec.or_assoc, h]
def leP (q r : Lab) : Prop := (∀ i, leI (q.1.getD i 0) (r.1.getD i 0)) ∧ ∀ i, leI (q.2.getD i 0) (r.2.getD i 0)
def shP (q r : Lab) : Prop := r.1.length = q.1.length ∧ r.2.length = q.2.length
theorem leP.refl (q : Lab) : leP q q := ⟨fun _ => leI.refl _, fun _ => leI.refl _⟩
theorem leP.trans {q r s : Lab} (h : leP q r) (k : leP r s) : leP q s := ⟨fun i => (h.1 i).trans (k.1 i), fun i => (h.2 i).trans (k.2 i)⟩
theorem shP.refl (q : Lab) : shP q q := ⟨rfl, rfl⟩
theorem shP.trans {q r s : Lab} (h : shP q r) (k : shP r s) : shP q s := ⟨k.1.trans h.1, k.2.trans h.2⟩
theorem shP.symm {q r : Lab} (h : shP q r) : shP r q := ⟨h.1.symm, h.2.symm⟩
section
variable {b : Bool} {d : Nat} {cx : Int} {q r : Lab} {ss : List b6}
end
section
variable {a b : k5} {k : Nat}
end
section
variable {s t : b6} {l m : List b6} {k : Nat}
end
section
variable {vs ars : List Int} {cx : Int} {s : b6} {d : Nat} {b : Bool}
section
variable {nv na d k : Nat} {ss : List b6} {q : Lab} {cx : Int}
end
end
section
variable {p : l6} {q : Lab} {b : List b6} {X : Lab}
end
abbrev nvL : List Int := [3] ++ ([4] ++ ([2] ++ ([5] ++ [])))
abbrev naL : List Int := [1] ++ ([2] ++ ([0] ++ ([1] ++ [])))
def kp1 (b : List UInt8) (k : Int) : Int := k + 1 + nm b k nvL
def kp2 (b : List UInt8) (k : Int) : Int := kp1 b k + 1 + nm b (kp1 b k) naL
section
variable (b : List UInt8) {k : Int}
end
abbrev vaL : List Int := [0] ++ ([1] ++ ([2] ++ ([3] ++ ([255] ++ ([128] ++ ([7] ++ ([4] ++ ([100] ++ []))))))))
def ptD (b : List UInt8) (j : Int) (nv na : Nat) (at0 n : Int) (kd : UInt8) : Int :=
 if kd = 114 then pk b j 3 else if kd = 99 then nm b j vaL else if kd = 118 then pk b j nv else if kd = 97 then pk b j na else if kd = 111 then 4 + pk b j 7 else at0 + 1 + pk b j (n - at0 - 1)
def psD (b : List UInt8) (j : Int) (nv na : Nat) (at0 n : Int) (ks : List UInt8) (k : Nat) : List Int := (bc6 4).map fun i => if i < k then ptD b (j + i) nv na at0 n (ks.getD i 0) else 0
theorem aH5 (b : List UInt8) (j : Int) (nv na : Nat) (at0 n : Int) (ks : List UInt8) (k : Nat) : (psD b j nv na at0 n ks k).length = 4 := by simp [psD]
theorem aP9 (b : List UInt8) (j : Int) (nv na : Nat) (at0 n : Int) (ks : List UInt8) {k : Nat} (hk : k < 4) : psD b j nv na at0 n ks (k + 1) = (psD b j nv na at0 n ks k).set k (ptD b (j + k) nv na at0 n (ks.getD k 0)) := by
 apply List.ext_getElem (by simp [aH5])
 intro i h1 h2
 rw [List.getElem_set]
 simp only [psD, List.getElem_map, List.getElem_range]
 by_cases e : k = i
 ·subst e; simp
 ·rw [if_neg e]
  have : (i < k + 1) ↔ (i < k) := by omega
  simp only [this]
structure D5 where
 vals : List Int
 arrs : List (List Int)
def H2 (l : List Int) : Bool := l.all fun n => decide (0 ≤ n) && decide (n ≤ 255)
def T2 (a : List Int) : Bool := decide (a.length = 4) && H2 a
def mfB (nv na : Nat) (m : D5) : Bool := decide (m.vals.length = nv) && (decide (m.arrs.length = na) && (H2 m.vals && m.arrs.all T2))
theorem aN3 {l : List Int} {k : Nat} (h : (l.take k).all (fun n => decide (0 ≤ n) && decide (n ≤ 255)) = true) (hk : k < l.length) (h1 : 0 ≤ l.getD k 0) (h2 : l.getD k 0 ≤ 255) : (l.take (k + 1)).all (fun n => decide (0 ≤ n) && decide (n ≤ 255)) = true :=
 ae1 (z := 0) h hk (by simp only [decide_eq_true h1, decide_eq_true h2]; rfl)
theorem aN2 {l : List Int} {k : Nat} (hk : k < l.length) (h : l.getD k 0 < 0 ∨ 255 < l.getD k 0) : H2 l = false := by
 unfold H2
 rw [List.all_eq_false]
 refine ⟨l.getD k 0, by rw [t2 hk]; exact bd2 hk, ?_⟩
 simp only [bb8, decide_eq_true_eq]
 omega
theorem aU5 {l : List Int} {k : Nat} (h : (l.take k).all (fun n => decide (0 ≤ n) && decide (n ≤ 255)) = true) (hk : l.length ≤ k) : H2 l = true := by
 rw [bc3 hk] at h; exact h
theorem aU1 {l : List (List Int)} {k : Nat} (h : (l.take k).all T2 = true) (hk : k < l.length) (h1 : ((l.getD k []).length : Int) = 4) (h2 : H2 (l.getD k []) = true) : (l.take (k + 1)).all T2 = true :=
 ae1 (z := []) h hk (by unfold T2; rw [decide_eq_true (p := (l.getD k []).length = 4) (by omega), h2]; rfl)
theorem aU0 {l : List (List Int)} {k : Nat} (hk : k < l.length) (h : ¬ ((l.getD k []).length : Int) = 4 ∨ H2 (l.getD k []) = false) : l.all T2 = false := by
 rw [List.all_eq_false]
 refine ⟨l.getD k [], by rw [t2 hk]; exact bd2 hk, ?_⟩
 unfold T2
 rcases h with h | h
 ·rw [decide_eq_false (p := (l.getD k []).length = 4) (by omega)]; simp
 ·rw [h]; simp
theorem aZ5 {l : List (List Int)} {k : Nat} (h : (l.take k).all T2 = true) (hk : l.length ≤ k) : l.all T2 = true := by
 rw [bc3 hk] at h; exact h
section
variable {nv na : Nat} {m : D5}
theorem a15 (h : ¬ (m.vals.length : Int) = nv) : mfB nv na m = false := by unfold mfB; rw [decide_eq_false (p := m.vals.length = nv) (by omega)]; rfl
theorem a14 (h : ¬ (m.arrs.length : Int) = na) : mfB nv na m = false := by unfold mfB; rw [decide_eq_false (p := m.arrs.length = na) (by omega)]; simp
theorem a13 (h : H2 m.vals = false) : mfB nv na m = false := by unfold mfB; rw [h]; simp
theorem a12 (h : m.arrs.all T2 = false) : mfB nv na m = false := by unfold mfB; rw [h]; simp
theorem a81 (h1 : (m.vals.length : Int) = nv) (h2 : (m.arrs.length : Int) = na) (h3 : H2 m.vals = true) (h4 : m.arrs.all T2 = true) : mfB nv na m = true := by
 unfold mfB
 rw [decide_eq_true (p := m.vals.length = nv) (by omega), decide_eq_true (p := m.arrs.length = na) (by omega), h3, h4]; rfl
theorem a80 (h1 : (m.vals.length : Int) = nv) (h2 : (m.arrs.length : Int) = na) (h3 : H2 m.vals = true) : mfB nv na m = m.arrs.all T2 := by
 unfold mfB
 rw [decide_eq_true (p := m.vals.length = nv) (by omega), decide_eq_true (p := m.arrs.length = na) (by omega), h3]; rfl
theorem a44 (h : mfB nv na m = true) : m.vals.length = nv ∧ m.arrs.length = na ∧ H2 m.vals = true ∧ m.arrs.all T2 = true := by
 unfold mfB at h
 simpa [bb8] using h
end
def zB (bit : Int) (l : Int) : Bool := !(aF9 l bit == 0)
def zL (bit : Int) (ls xs : List Int) (k : Nat) : List Int := (bc6 xs.length).map fun i => if i < k ∧ zB bit (ls.getD i 0) = true then 0 else xs.getD i 0
theorem aA8 (bit : Int) (ls xs : List Int) (k : Nat) : (zL bit ls xs k).length = xs.length := by simp [zL]
theorem aH2 {α : Type} (l : List α) (z : α) : ((bc6 l.length).map fun i => l.getD i z) = l := by
 apply List.ext_getElem (by simp)
 intro i h1 h2
 simp [List.getElem_map, bc2, h2]
theorem a56 (bit : Int) (ls xs : List Int) : zL bit ls xs 0 = xs := by
 unfold zL
 simp only [Nat.not_lt_zero, false_and, if_false]
 exact aH2 xs 0
theorem a54 {bit : Int} {ls xs : List Int} {k : Nat} (hk : k < xs.length) (h : zB bit (ls.getD k 0) = true) : zL bit ls xs (k + 1) = (zL bit ls xs k).set k 0 := by
 apply List.ext_getElem (by simp [zL])
 intro i h1 h2
 rw [List.getElem_set]
 simp only [zL, List.getElem_map, List.getElem_range]
 by_cases e : k = i
 ·subst e; rw [if_pos ⟨by omega, h⟩, if_pos rfl]
 ·rw [if_neg e]
  have : (i < k + 1) ↔ (i < k) := by omega
  simp only [this]
theorem a55 {bit : Int} {ls xs : List Int} {k : Nat} (h : zB bit (ls.getD k 0) = false) : zL bit ls xs (k + 1) = zL bit ls xs k := by
 apply List.ext_getElem (by simp [zL])
 intro i h1 h2
 simp only [zL, List.getElem_map, List.getElem_range]
 by_cases e : k = i
 ·subst e; rw [if_neg (by rw [h]; simp), if_neg (by omega)]
 ·have : (i < k + 1) ↔ (i < k) := by omega
  simp only [this]
def zR (bit : Int) (ls : List Int) (rs : List (List Int)) (k : Nat) : List (List Int) := (bc6 rs.length).map fun i => if i < k ∧ zB bit (ls.getD i 0) = true then bd1 (rs.getD i []).length 0 else rs.getD i []
theorem Z9 (bit : Int) (ls : List Int) (rs : List (List Int)) (k : Nat) : (zR bit ls rs k).length = rs.length := by simp [zR]
theorem a52 (bit : Int) (ls : List Int) (rs : List (List Int)) : zR bit ls rs 0 = rs := by
 unfold zR
 simp only [Nat.not_lt_zero, false_and, if_false]
 exact aH2 rs []
theorem aG1 {bit : Int} {ls : List Int} {rs : List (List Int)} {k i : Nat} (hi : i < rs.length) (hk : k ≤ i) : (zR bit ls rs k).getD i [] = rs.getD i [] := by
 rw [t2 (by rw [Z9]; exact hi)]
 simp only [zR, List.getElem_map, List.getElem_range]
 rw [if_neg (by omega)]
theorem a50 {bit : Int} {ls : List Int} {rs : List (List Int)} {k : Nat} (hk : k < rs.length) (h : zB bit (ls.getD k 0) = true) : zR bit ls rs (k + 1) = (zR bit ls rs k).set k (bd1 ((zR bit ls rs k).getD k []).length 0) := by
 rw [aG1 hk (bc1 _)]
 apply List.ext_getElem (by simp [zR])
 intro i h1 h2
 rw [List.getElem_set]
 simp only [zR, List.getElem_map, List.getElem_range]
 by_cases e : k = i
 ·subst e; rw [if_pos ⟨by omega, h⟩, if_pos rfl]
 ·rw [if_neg e]
  have : (i < k + 1) ↔ (i < k) := by omega
  simp only [this]
theorem a51 {bit : Int} {ls : List Int} {rs : List (List Int)} {k : Nat} (h : zB bit (ls.getD k 0) = false) : zR bit ls rs (k + 1) = zR bit ls rs k := by
 apply List.ext_getElem (by simp [zR])
 intro i h1 h2
 simp only [zR, List.getElem_map, List.getElem_range]
 by_cases e : k = i
 ·subst e; rw [if_neg (by rw [h]; simp), if_neg (by omega)]
 ·have : (i < k + 1) ↔ (i < k) := by omega
  simp only [this]
def zQ (bit : Int) (ls : List Int) (rs : List (List Int)) (i k : Nat) : List (List Int) :=
 (zR bit ls rs i).set i (if zB bit (ls.getD i 0) = true then bd1 k 0 ++ (rs.getD i []).drop k else rs.getD i [])
theorem a19 (bit : Int) (ls : List Int) (rs : List (List Int)) (i k : Nat) : (zQ bit ls rs i k).length = rs.length := by simp [zQ, Z9]
theorem a53 {bit : Int} {ls : List Int} {rs : List (List Int)} {i : Nat} (hi : i < rs.length) : zQ bit ls rs i 0 = zR bit ls rs i := by
 unfold zQ
 have e : (if zB bit (ls.getD i 0) = true then bd1 0 (0 : Int) ++ (rs.getD i []).drop 0 else rs.getD i []) = (zR bit ls rs i).getD i [] := by
  rw [aG1 hi (bc1 _)]; split <;> simp
 rw [e, t2 (by rw [Z9]; exact hi)]
 exact List.set_getElem_self _
theorem aZ7 {bit : Int} {ls : List Int} {rs : List (List Int)} {i k : Nat} (hi : i < rs.length) : (zQ bit ls rs i k).getD i [] = if zB bit (ls.getD i 0) = true then bd1 k 0 ++ (rs.getD i []).drop k else rs.getD i [] := by
 unfold zQ
 rw [bc2, List.getElem?_set_self (by rw [Z9]; exact hi)]; rfl
theorem aW5 {r : List Int} {k : Nat} (hk : k < r.length) : (bd1 k 0 ++ r.drop k).set k 0 = bd1 (k + 1) 0 ++ r.drop (k + 1) := by
 rw [List.set_append_right _ _ (by simp), List.length_replicate, Nat.sub_self, List.drop_eq_getElem_cons hk, List.set_cons_zero, List.replicate_succ', List.append_assoc]
 rfl
theorem a95 {bit : Int} {ls : List Int} {rs : List (List Int)} {i k : Nat} (hi : i < rs.length) (hk : k < (rs.getD i []).length) (h : zB bit (ls.getD i 0) = true) : zQ bit ls rs i (k + 1) = (zQ bit ls rs i k).set i (((zQ bit ls rs i k).getD i []).set k 0) := by
 rw [aZ7 hi, if_pos h, aW5 hk]
 unfold zQ
 rw [if_pos h, if_pos h, List.set_set]
theorem a96 {bit : Int} {ls : List Int} {rs : List (List Int)} {i k : Nat} (h : zB bit (ls.getD i 0) = false) : zQ bit ls rs i (k + 1) = zQ bit ls rs i k := by
 unfold zQ
 rw [if_neg (by rw [h]; decide), if_neg (by rw [h]; decide)]
theorem a18 {bit : Int} {ls : List Int} {rs : List (List Int)} {i k : Nat} (hi : i < rs.length) (hk : k ≤ (rs.getD i []).length) : ((zQ bit ls rs i k).getD i []).length = (rs.getD i []).length := by
 rw [aZ7 hi]; split
 ·simp only [List.length_append, List.length_replicate, List.length_drop]; omega
 ·rfl
theorem a20 {bit : Int} {ls : List Int} {rs : List (List Int)} {i k : Nat} (hi : i < rs.length) (hk : k = (rs.getD i []).length) : zQ bit ls rs i k = zR bit ls rs (i + 1) := by
 cases h : zB bit (ls.getD i 0)
 ·rw [a51 h]
  have : zQ bit ls rs i k = zQ bit ls rs i 0 := by
   unfold zQ; rw [if_neg (by rw [h]; decide), if_neg (by rw [h]; decide)]
  rw [this, a53 hi]
 ·rw [a50 hi h, aG1 hi (bc1 _)]
  unfold zQ
  rw [if_pos h, hk, List.drop_length, List.append_nil]
def af1 (bit : Int) (p : l6) (m : D5) : D5 := ⟨zL bit p.vars m.vals m.vals.length, zR bit p.arrays m.arrs m.arrs.length⟩
def Q7 (p : l6) (m : D5) : Bool := K2 p && mfB p.vars.length p.arrays.length m
def C4 (bit : Int) (p : l6) (m : D5) : D5 := if Q7 p m = true then af1 bit p m else ⟨[], []⟩
section
variable {bit : Int} {p : l6} {m : D5}
theorem a03 (h : Q7 p m = true) : C4 bit p m = af1 bit p m := if_pos h
theorem a04 (h : Q7 p m = false) : C4 bit p m = ⟨[], []⟩ := if_neg (by rw [h]; decide)
theorem aH9 (h : Q7 p m = true) : p.vars.all v5 = true ∧ p.arrays.all v5 = true ∧ m.vals.length = p.vars.length ∧ m.arrs.length = p.arrays.length ∧ m.arrs.all T2 = true ∧ p.vars.length ≤ 12 ∧ p.arrays.length ≤ 2 := by
 unfold Q7 at h
 rw [bb8] at h
 obtain ⟨f1, f2, f3, f4⟩ := a44 h.2
 have h2 := h.1
 unfold K2 at h2
 simp only [bb8] at h2
 have h6 := h2.1.1
 unfold G6 at h6
 simp only [bb8, decide_eq_true_eq] at h6
 refine ⟨h6.1.1.1.1, ?_, f1, f2, f4, ?_, ?_⟩
 ·exact h6.1.1.1.2
 ·omega
 ·omega
theorem a17 (h : m.arrs.all T2 = true) {i : Nat} (hi : i < m.arrs.length) : (m.arrs.getD i []).length = 4 := by
 have := bc8.1 h (m.arrs.getD i []) (by rw [t2 hi]; exact bd2 hi)
 unfold T2 at this
 simp only [bb8, decide_eq_true_eq] at this
 exact this.1
end
theorem a43 {l : List Int} {i : Nat} (h : l.all v5 = true) (hi : i < l.length) : v5 (l.getD i 0) = true := bc8.1 h _ (by rw [t2 hi]; exact bd2 hi)
theorem a21 : ∀ x : Fin 4, zB 1 (x.val : Int) = decide ((x.val : Int) % 2 = 1) := by decide +kernel
theorem a57 {l : Int} (h : v5 l = true) : (v5 l && decide (l % 2 = 1)) = zB 1 l := by
 unfold v5 at h ⊢
 simp only [bb8, decide_eq_true_eq] at h
 obtain ⟨x, rfl⟩ : ∃ x : Fin 4, l = (x.val : Int) := ⟨⟨l.toNat, by omega⟩, by show l = (l.toNat : Int); omega⟩
 rw [a21, decide_eq_true h.1, decide_eq_true h.2]; rfl
section
variable {ls xs : List Int} {rs : List (List Int)} {k : Nat} {b : Bool}
theorem zc1 (ho : ls.all v5 = true) (hk : k < ls.length) (h : (v5 (ls.getD k 0) && decide (ls.getD k 0 % 2 = 1)) = b) : zB 1 (ls.getD k 0) = b := by rw [← a57 (a43 ho hk)]; exact h
end
theorem zbt {bit l : Int} (h : ¬ aF9 l bit = 0) : zB bit l = true := by unfold zB; rw [beq_eq_false_iff_ne.2 h]; rfl
theorem zbf {bit l : Int} (h : aF9 l bit = 0) : zB bit l = false := by unfold zB; rw [h]; rfl
section
variable {b : List UInt8} {nv na : Int} {d : Nat} {j : Int}
end
section
variable {b : List UInt8} {nv na : Nat} {j : Int}
end
section
variable {b : List UInt8} {nv na d : Nat} {j : Int}
end
section
variable (b : List UInt8) {j : Int}
end
section
variable {b : List UInt8} {nv na d : Nat} {j : Int}
end
section
variable {b : List UInt8} {p : l6} {j : Int}
end
end Go.Proofs.Ytgmhmijcnlfmfaa

