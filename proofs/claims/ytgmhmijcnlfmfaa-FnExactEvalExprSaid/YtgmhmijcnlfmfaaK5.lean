/- Part 5: functions on the way, plain laws. Conditions: as said. -/
import Derived.Deep.LoopGhost
import Derived.IntWalk
import Derived.WalkSpells
import Derived.Lib.SliceRun
import Derived.Test.YtgmhmijcnlfmfaaK1
import Derived.Test.YtgmhmijcnlfmfaaK2
import Derived.Test.YtgmhmijcnlfmfaaK4
set_option maxRecDepth 100000
set_option maxHeartbeats 16000000
set_option linter.unusedVariables false
set_option linter.unusedSimpArgs false
open Bool renaming and_eq_true → bf0, eq_iff_iff → bh0, not_eq_false' → bg1, not_eq_true' → bf8
open Inhabited renaming default → bh2
open List renaming all_eq_true → bf9, getD_eq_getElem?_getD → bf2, getElem?_append_left → bh5, getElem?_append_right → bh6, getElem?_eq_getElem → be9, getElem?_eq_none → bh4, getElem?_eq_some_iff → bf3, getElem_mem → bg4, length_cons → bi0, map_cons → bh1, mem_append → bg8, mem_cons_of_mem → bg5, mem_cons_self → bg2, mem_of_getElem? → bf7, mem_singleton → bh3, range → bg0, replicate → bh8, take → bg7, take_of_length_le → bf6
open Nat renaming add_zero → bi2, le_refl → bf5, le_trans → bi1, lt_of_lt_of_le → bg6, lt_or_ge → bh7, zero_add → bi4
open Option renaming map_eq_some_iff → bf1
open True renaming intro → bf4

namespace Go.Proofs.Ytgmhmijcnlfmfaa
open Go Go.RowKit
def pf {β : Type} (wr : Ac → Option β) : List Ac → Nat → (Nat → Bool) → β → β
 | [], _, _, v => v
 | a :: r, k, B, v => pf wr r (k + 1) B (match wr a with | some x => if B k then x else v | none => v)
theorem M8 {β : Type} {wr : Ac → Option β} {B B' : Nat → Bool} : ∀ {az : List Ac} {k : Nat} {v : β}, (∀ j a, az[j]? = some a → (wr a).isSome = true → B (k + j) = B' (k + j)) → pf wr az k B v = pf wr az k B' v
 | [], _, _, _ => rfl
 | a :: r, k, v, h => by
  simp only [pf]
  have h0 := h 0 a rfl
  have hr : ∀ j b, r[j]? = some b → (wr b).isSome = true → B (k + 1 + j) = B' (k + 1 + j) := fun j b hb hw => by
   have := h (j + 1) b (by simpa using hb) hw
   rw [show k + (j + 1) = k + 1 + j by omega] at this; exact this
  cases hw : wr a with
  | none => exact M8 hr
  | some x =>
   rw [hw] at h0
   simp only [bi2, Option.isSome_some, forall_const] at h0
   rw [h0]
   exact M8 hr
theorem Q5 {β : Type} {wr : Ac → Option β} {B : Nat → Bool} : ∀ {az : List Ac} {k : Nat} {v : β}, (∀ j a, az[j]? = some a → (wr a).isSome = true → B (k + j) = false) → pf wr az k B v = v
 | [], _, _, _ => rfl
 | a :: r, k, v, h => by
  simp only [pf]
  have h0 := h 0 a rfl
  have hr : ∀ j b, r[j]? = some b → (wr b).isSome = true → B (k + 1 + j) = false := fun j b hb hw => by
   have := h (j + 1) b (by simpa using hb) hw
   rw [show k + (j + 1) = k + 1 + j by omega] at this; exact this
  rw [Q5 hr]
  cases hw : wr a with
  | none => rfl
  | some x =>
   rw [hw] at h0
   simp only [bi2, Option.isSome_some, forall_const] at h0
   simp [h0]
theorem au0 {β : Type} {wr : Ac → Option β} {B : Nat → Bool} : ∀ {az : List Ac} {k i : Nat} {v x : β} {a : Ac}, az[i]? = some a → wr a = some x → B (k + i) = true → (∀ j b, i < j → az[j]? = some b → (wr b).isSome = true → B (k + j) = false) → pf wr az k B v = x
 | [], _, _, _, _, _, h, _, _, _ => by simp at h
 | b :: r, k, 0, v, x, a, h, hw, hB, hn => by
  simp at h; subst h
  simp only [pf, hw]
  rw [bi2] at hB
  rw [hB, if_pos rfl]
  refine Q5 fun j c hc hs => ?_
  have := hn (j + 1) c (by omega) (by simpa using hc) hs
  rw [show k + (j + 1) = k + 1 + j by omega] at this; exact this
 | b :: r, k, i + 1, v, x, a, h, hw, hB, hn => by
  simp only [pf]
  refine au0 (i := i) (by simpa using h) hw (by rw [show k + 1 + i = k + (i + 1) by omega]; exact hB) fun j c hj hc hs => ?_
  have := hn (j + 1) c (by omega) (by simpa using hc) hs
  rw [show k + (j + 1) = k + 1 + j by omega] at this; exact this
theorem ad0 {β : Type} {wr : Ac → Option β} {B : Nat → Bool} (p : β → Prop) : ∀ {az : List Ac} {k : Nat} {v : β}, p v → (∀ j a x, az[j]? = some a → B (k + j) = true → wr a = some x → p x) → p (pf wr az k B v)
 | [], _, _, h, _ => h
 | a :: r, k, v, h, hs => by
  simp only [pf]
  refine ad0 p ?_ fun j b x hb hB hw => hs (j + 1) b x (by simpa using hb) (by rw [show k + (j + 1) = k + 1 + j by omega]; exact hB) hw
  cases hw : wr a with
  | none => exact h
  | some x =>
   simp only
   split
   ·rename_i hB; exact hs 0 a x rfl (by simpa using hB) hw
   ·exact h
def an0 : List (Nat × It) → Nat → Option It
 | [], _ => none
 | (k, x) :: r, i => if i = k then some x else an0 r i
theorem af2 (S : Nat → It) (i : Nat) : ∀ (l : List (Nat × It)), s0 S l i = match an0 l i with | some x => x | none => S i
 | [] => rfl
 | (k, x) :: r => by simp only [s0, an0]; split; rfl; exact af2 S i r
theorem L5 {l : List (Nat × It)} {i : Nat} {x : It} (h : an0 l i = some x) : (i, x) ∈ l := by
 induction l with
 | nil => cases h
 | cons p r ih =>
  obtain ⟨k, y⟩ := p
  simp only [an0] at h
  split at h
  ·rename_i e; cases h; rw [e]; exact bg2
  ·exact bg5 _ (ih h)
def wrT (t : Nat) (a : Ac) : Option (Option AV) := if a.dst = some t then some (some a.t.res) else none
def wrS (i : Nat) (a : Ac) : Option It := an0 a.t.new i
def tmD (az : List Ac) (B : Nat → Bool) (tm : Nat → Option AV) : Nat → Option AV := fun t => pf (wrT t) az 0 B (tm t)
def sD (az : List Ac) (B : Nat → Bool) (S : Nat → It) : Nat → It := fun i => pf (wrS i) az 0 B (S i)
def bef (ms : List Nat) (j i : Nat) : Bool := (nth ms i).testBit j
def aG3 (ms : List Nat) (o : Oper) : Nat := o.after.foldl (fun s e => if Region.binds .any e then s ||| (2 ^ e.on ||| nth ms e.on) else s) 0
def au5 (ms : List Nat) (l : List Oper) : Bool := (bg0 l.length).all fun i => match l[i]? with | some o => natEq (nth ms i) (aG3 ms o) | none => false
def V6 (a b : Ac) : Bool :=
 (match b.dst with | some t => memN t a.rt || (match a.dst with | some s => natEq s t | none => false) | none => false) ||
 b.t.new.any (fun p => memN p.1 a.ri || a.t.new.any fun q => natEq q.1 p.1)
def a72 (ms : List Nat) (az : List Ac) : Bool :=
 (bg0 az.length).all fun i => (bg0 az.length).all fun j =>
  match az[i]?, az[j]? with
  | some a, some b => natEq i j || !V6 a b || (if decide (j < i) then bef ms j i else bef ms i j)
  | _, _ => false
def a22 (S : Nat → It) (az : List Ac) (j : Nat) : Nat := match az.findSome? (wrS j) with
 | some x => knd x
 | none => knd (S j)
def aP4 (ms : List Nat) (S : Nat → It) (az : List Ac) : Bool :=
 (bg0 az.length).all fun i =>
  match az[i]? with
  | some a => a.rk.all fun j => az.all (fun b => match wrS j b with | some x => natEq (knd x) (a22 S az j) | none => true) && (natEq (knd (S j)) (a22 S az j) || (bg0 i).any fun k => bef ms k i && match az[k]? with | some b => (wrS j b).isSome | none => false)
  | none => true
theorem aJ0 {β : Type} {wr : Ac → Option β} {B : Nat → Bool} (p : β → Prop) : ∀ {az : List Ac} {k : Nat} {v : β}, (∀ (j : Nat) (a : Ac) (x : β), az[j]? = some a → wr a = some x → p x) → (p v ∨ ∃ (j : Nat) (a : Ac), az[j]? = some a ∧ (wr a).isSome = true ∧ B (k + j) = true) → p (pf wr az k B v)
 | [], _, _, _, h => by rcases h with h | ⟨j, a, h, _⟩; exact h; simp at h
 | a :: r, k, v, hs, h => by
  simp only [pf]
  refine aJ0 p (fun j b x hb => hs (j + 1) b x (by simpa using hb)) ?_
  rcases h with h | ⟨j, b, h1, h2, h3⟩
  ·left
   cases hw : wr a with
   | none => exact h
   | some x =>
    simp only
    split
    ·exact hs 0 a x rfl hw
    ·exact h
  ·cases j with
   | zero =>
    left
    simp at h1; subst h1
    obtain ⟨x, hx⟩ := Option.isSome_iff_exists.1 h2
    rw [hx]
    rw [bi2] at h3
    simp only [h3, if_true]
    exact hs 0 _ x rfl hx
   | succ j =>
    right
    exact ⟨j, b, by simpa using h1, h2, by rw [show k + 1 + j = k + (j + 1) by omega]; exact h3⟩
theorem aI1 {ms : List Nat} {S : Nat → It} {az : List Ac} (h : aP4 ms S az = true) {i : Nat} {a : Ac} (ha : az[i]? = some a) {j : Nat} (hj : j ∈ a.rk) {B : Nat → Bool} (hB : ∀ k, k < i → bef ms k i = true → B k = true) : knd (pf (wrS j) az 0 B (S j)) = a22 S az j := by
 have hi := (bf3.1 ha).1
 have h1 := bf9.1 h i (List.mem_range.2 hi)
 rw [ha] at h1
 have h2 := bf9.1 h1 j hj
 simp only [bf0, Bool.or_eq_true] at h2
 refine aJ0 (fun x => knd x = a22 S az j) (fun q b x hb hx => ?_) ?_
 ·have := bf9.1 h2.1 b (bf7 hb)
  rw [hx] at this
  simpa [natEq] using this
 ·rcases h2.2 with h3 | h3
  ·left; simpa [natEq] using h3
  ·right
   obtain ⟨k, hk, h4⟩ := List.any_eq_true.1 h3
   rw [List.mem_range] at hk
   simp only [bf0] at h4
   cases hb : az[k]? with
   | none => rw [hb] at h4; cases h4.2
   | some b =>
    rw [hb] at h4
    exact ⟨k, b, hb, h4.2, by rw [bi4]; exact hB k hk h4.1⟩
def aU4 (ms : List Nat) (n0 : Nat) (az : List Ac) : Bool :=
 (bg0 az.length).all fun i =>
  match az[i]? with
  | some a => (a.t.res.ids ++ a.t.new.map (·.1) ++ a.t.new.flatMap (fun p => p.2.ids)).all fun id => decide (id < n0) || natEq ((id - n0) / 8) i || bef ms ((id - n0) / 8) i
  | none => false
section
variable {P : Program} {ι : Type} {φ ψ : Nat → Prop} {w0 w w' : World} {F : ι → Rs} {ρ : Nat → Value} {S : Nat → It} {N n : Nat}
theorem ab5 {α β : Type} {f g : α → Option β} : ∀ {l : List α}, (∀ x ∈ l, f x = g x) → l.filterMap f = l.filterMap g
 | [], _ => rfl
 | a :: r, h => by rw [List.filterMap_cons, List.filterMap_cons, h a bg2, ab5 fun x hx => h x (bg5 _ hx)]
theorem ah4 {ops : List Oper} {H : L7} {tm tm' : Nat → Option AV} {i : Nat} {o : Oper} (h : ∀ t ∈ av5 ops o, tm' t = tm t) : ak3 ops H tm' i o = ak3 ops H tm i o := by
 unfold ak3
 unfold av5 at h
 cases hg : o.guard with
 | none => rfl
 | some q =>
  obtain ⟨j, want⟩ := q
  rw [hg] at h
  simp only at h ⊢
  cases hd : (ops[j]?).bind (·.dst) with
  | none => rfl
  | some t =>
   rw [hd] at h
   simp only at h ⊢
   rw [h t (by simp)]
theorem aM3 {dk : TypeId → Nat} {H : L7} {ops : List Oper} {i : Nat} {o : Oper} {tm tm' : Nat → Option AV} {S S' : Nat → It} {ac : Ac} {ob : List Prop} (h : opA P dk N ops H i o tm S n = some (ac, ob)) (ht : ∀ t ∈ ac.rt, tm' t = tm t) (hs : ∀ j ∈ ac.ri, S' j = S j) (hk : ∀ j ∈ ac.rk, knd (S' j) = knd (S j)) : opA P dk N ops H i o tm' S' n = some (ac, ob) := by
 unfold opA at h ⊢
 split at h
 case isFalse => cases h
 rename_i hd
 rw [if_pos hd]
 cases hw : ak3 ops H tm i o with
 | none => rw [hw] at h; cases h
 | some q =>
  obtain ⟨b, lq, rq⟩ := q
  rw [hw] at h
  cases b
  ·simp only at h
   cases h
   rw [ah4 (tm := tm) ht, hw]
  ·simp only at h
   cases hr : al3 P dk H tm S n i o.op with
   | none => rw [hr] at h; cases h
   | some t =>
    rw [hr] at h
    simp only at h
    split at h
    case isFalse => cases h
    rename_i hf
    cases h
    simp only at ht hs hk
    rw [ah4 (tm := tm) fun t ht' => ht t (List.mem_append_right _ ht'), hw]
    have e1 : rtm tm' (Z5 o.op) = rtm tm (Z5 o.op) := by
     funext t
     unfold rtm
     split
     ·rename_i hm; exact ht t (List.mem_append_left _ (t8.1 hm))
     ·rfl
    have e2 : tch tm' o.op = tch tm o.op := by
     have e9 : N3 tm' (Z5 o.op) = N3 tm (Z5 o.op) := by
      unfold N3
      congr 1
      exact ab5 fun t ht' => ht t (List.mem_append_left _ ht')
     cases ho' : o.op <;> simp only [tch] <;> rw [← ho'] <;> first | rw [e1, e9] | exact e9
    have e8 : wk tm' o.op = wk tm o.op := by
     have e9 : N3 tm' (Z5 o.op) = N3 tm (Z5 o.op) := by
      unfold N3
      congr 1
      exact ab5 fun t ht' => ht t (List.mem_append_left _ ht')
     cases ho' : o.op <;> simp only [wk] <;> rw [← ho', e1, e9]
    have e3 : al3 P dk H tm' S' n i o.op = al3 P dk H tm S n i o.op := by
     unfold al3
     cases hc : I3 H.calls i with
     | none =>
      simp only
      rw [e1, e2, e8, aQ6 (fun j hj => hs j (List.mem_append_left _ hj)) hk]
     | some q =>
      obtain ⟨c, τ⟩ := q
      simp only
      rw [e1, e2]
      congr 1
      funext j
      unfold rS
      split
      ·rename_i hm
       refine hs j ?_
       unfold aK7
       rw [hc]; exact t8.1 hm
      ·rfl
    have e4 : aF8 H tm' S' n i o.op = aF8 H tm S n i o.op := by
     unfold aF8
     cases hc : I3 H.calls i with
     | none => simp only; rw [e1]
     | some q =>
      obtain ⟨c, τ⟩ := q
      simp only
      rw [e1, e2]
      congr 1
      funext j
      unfold rS
      split
      ·rename_i hm
       refine hs j ?_
       unfold aK7
       rw [hc]; exact t8.1 hm
      ·rfl
    rw [e3, hr, e4]
    simp only
    rw [e2, e8, if_pos hf]
theorem a01 {dk : TypeId → Nat} {H : L7} (hH : ∀ i c τ, I3 H.calls i = some (c, τ) → c.ok P) (hF : K3 H.facts) {ops : List Oper} {i : Nat} {o : Oper} {tm : Nat → Option AV} {a : Act} (hv : ∀ t x, tm t = some x → a.tmps[t]? = some (x.val ρ)) (M : m0 φ ψ w0 w (n7 F ρ S)) {ac : Ac} {obs : List Prop} (h : opA P dk N ops H i o tm S n = some (ac, obs)) (ho : v7 obs) (he : ac.eqs.1 = ac.eqs.2) (hw' : ac.eqw.1 = ac.eqw.2)
  (hmk : ∀ j ∈ ac.t.made, S j = .none) (hi : Inv S ρ ac.t.made)
  {Q : Exit → Act → World → Prop} {rest : List Oper} (hk : ∀ ρ' w', C3 ac.t.made ρ ρ' → m0 φ ψ w0 w' (n7 F ρ' (s0 S ac.t.new)) → wpList P ops.toArray Q rest (a.put o.dst (ac.t.res.val ρ')) w') : wpList P ops.toArray Q (o :: rest) a w := by
 unfold opA at h
 split at h
 case isFalse => cases h
 rename_i hd
 split at h
 case h_1 => cases h
 ·rename_i l r hw
  cases h
  refine aI4 (ac4 (ρ := ρ) hF hw hw' fun t y _ hy => hv t y hy) ?_
  exact hk ρ w (C3.refl _ _) (by simpa [a76, s0] using M)
 ·rename_i l r hw
  split at h
  case h_1 => cases h
  rename_i t ht
  split at h
  case isFalse => cases h
  rename_i hf
  cases h
  simp only [bf0] at hf
  refine H8.wp (ac4 (ρ := ρ) hF hw hw' fun t y _ hy => hv t y hy) ?_
  refine (az2 M hH hF (fun t y _ hy => hv t y hy) ht ho he hmk hi (fun j hj => ?_)).mono ?_
  ·obtain ⟨p, hp, rfl⟩ := List.mem_map.1 hj
   have := bf9.1 hf.2 p hp
   simp only [Bool.or_eq_true] at this
   exact this.imp t8.1 t8.1
  ·rintro v w' ⟨ρ', p1, p2, rfl⟩
   exact hk ρ' w' p1 p2
theorem aI7 {dk : TypeId → Nat} {H : L7} {ops : List Oper} : ∀ (l : List Oper) (i n : Nat) {tm : List (Nat × AV)} {S : Nat → It} {r : RS}, O3 P dk N ops H l i tm S n = some r → v7 r.obs →
  r.acts.length = l.length ∧ (∀ t, B3 r.tm t = pf (wrT t) r.acts i (fun _ => true) (B3 tm t)) ∧ (∀ j, r.S j = pf (wrS j) r.acts i (fun _ => true) (S j)) ∧
  ∀ k o, l[k]? = some o → ∃ ac ob, r.acts[k]? = some ac ∧ v7 ob ∧ opA P dk N ops H (i + k) o (fun t => pf (wrT t) r.acts i (fun j => decide (j < i + k)) (B3 tm t)) (fun j => pf (wrS j) r.acts i (fun q => decide (q < i + k)) (S j)) (n + 8 * k) = some (ac, ob)
 | [], i, n, tm, S, r, h, _ => by cases h; exact ⟨rfl, fun _ => rfl, fun _ => rfl, fun k o h => by simp at h⟩
 | o :: l, i, n, tm, S, r, h, ho => by
  simp only [O3] at h
  split at h
  case h_1 => cases h
  rename_i ac ob h1
  split at h
  case h_1 => cases h
  rename_i s h2
  cases h
  simp only [v7.append] at ho
  obtain ⟨k1, k2, k3, k4⟩ := aI7 l (i + 1) (n + 8) h2 ho.2
  have eT : ∀ t, B3 (aF3 ac.dst ac.t.res tm) t = match wrT t ac with | some x => x | none => B3 tm t := fun t => by
   rw [aq9]
   simp only [ao9, wrT]
   split <;> rfl
  have eS : ∀ j, s0 S ac.t.new j = match wrS j ac with | some x => x | none => S j := fun j => af2 S j _
  refine ⟨by simp [k1], fun t => ?_, fun j => ?_, fun k o' hk => ?_⟩
  ·rw [k2 t, eT]; simp only [pf]; cases wrT t ac <;> rfl
  ·rw [k3 j, eS]; simp only [pf]; cases wrS j ac <;> rfl
  ·cases k with
   | zero =>
    simp at hk; subst hk
    refine ⟨ac, ob, rfl, ho.1, ?_⟩
    have e1 : (fun t => pf (wrT t) (ac :: s.acts) i (fun j => decide (j < i + 0)) (B3 tm t)) = B3 tm := by
     funext t; exact Q5 fun j a _ _ => by simp
    have e2 : (fun j => pf (wrS j) (ac :: s.acts) i (fun q => decide (q < i + 0)) (S j)) = S := by
     funext j; exact Q5 fun j a _ _ => by simp
    rw [e1, e2]; exact h1
   | succ k =>
    obtain ⟨ac', ob', m1, m2, m3⟩ := k4 k o' (by simpa using hk)
    refine ⟨ac', ob', by simpa using m1, m2, ?_⟩
    have hi : decide (i < i + (k + 1)) = true := by simp
    have e1 : (fun t => pf (wrT t) (ac :: s.acts) i (fun j => decide (j < i + (k + 1))) (B3 tm t)) = fun t => pf (wrT t) s.acts (i + 1) (fun j => decide (j < i + 1 + k)) (B3 (aF3 ac.dst ac.t.res tm) t) := by
     funext t
     rw [eT]
     simp only [pf, hi, if_true]
     rw [show i + (k + 1) = i + 1 + k by omega]
     cases wrT t ac <;> rfl
    have e2 : (fun j => pf (wrS j) (ac :: s.acts) i (fun q => decide (q < i + (k + 1))) (S j)) = fun j => pf (wrS j) s.acts (i + 1) (fun q => decide (q < i + 1 + k)) (s0 S ac.t.new j) := by
     funext j
     rw [eS]
     simp only [pf, hi, if_true]
     rw [show i + (k + 1) = i + 1 + k by omega]
     cases wrS j ac <;> rfl
    rw [e1, e2, show i + (k + 1) = i + 1 + k by omega, show n + 8 * (k + 1) = n + 8 + 8 * k by omega]
    exact m3
def aX5 (l : List Oper) (B : Nat → Bool) : Prop := ∀ j o, l[j]? = some o → B j = true → ∀ e ∈ o.after, Region.binds .any e = true → B e.on = true
theorem al8 {ms : List Nat} {o : Oper} {j : Nat} (h : (aG3 ms o).testBit j = true) : ∃ e ∈ o.after, Region.binds .any e = true ∧ (e.on = j ∨ bef ms j e.on = true) := by
 unfold aG3 at h
 rw [← Array.foldl_toList] at h
 have key : ∀ (es : List Edge) (s : Nat), (es.foldl (fun s e => if Region.binds .any e then s ||| (2 ^ e.on ||| nth ms e.on) else s) s).testBit j = true → s.testBit j = true ∨ ∃ e ∈ es, Region.binds .any e = true ∧ (e.on = j ∨ bef ms j e.on = true) := by
  intro es
  induction es with
  | nil => intro s h; exact .inl h
  | cons e r ih =>
   intro s h
   simp only [List.foldl_cons] at h
   rcases ih _ h with h1 | ⟨e', he', h2⟩
   ·split at h1
    ·rename_i hb
     simp only [Nat.testBit_or, Bool.or_eq_true, Nat.testBit_two_pow, decide_eq_true_eq] at h1
     rcases h1 with h1 | h1 | h1
     ·exact .inl h1
     ·exact .inr ⟨e, bg2, hb, .inl h1⟩
     ·exact .inr ⟨e, bg2, hb, .inr h1⟩
    ·exact .inl h1
   ·exact .inr ⟨e', bg5 _ he', h2⟩
 rcases key _ _ h with h1 | ⟨e, he, h2⟩
 ·simp at h1
 ·exact ⟨e, by simpa using he, h2⟩
theorem ao2 {ms : List Nat} {l : List Oper} (hm : au5 ms l = true) (hb : Y3 l.toArray = true) {B : Nat → Bool} (hc : aX5 l B) : ∀ i, i < l.length → B i = true → ∀ j, bef ms j i = true → B j = true := by
 intro i
 induction i using Nat.strongRecOn with
 | _ i ih =>
  intro hi hB j hj
  have h1 := bf9.1 hm i (List.mem_range.2 hi)
  rw [be9 hi] at h1
  simp only [natEq, beq_iff_eq] at h1
  unfold bef at hj
  rw [h1] at hj
  obtain ⟨e, he, h2, h3⟩ := al8 hj
  have h4 := hc i _ (be9 hi) hB e he h2
  have h5 := ao3 hb (show i < l.toArray.size by simpa using hi) (show l.toArray[i]? = some l[i] by simp [hi]) he h2
  rcases h3 with rfl | h3
  ·exact h4
  ·exact ih e.on h5 (by omega) h4 j h3
theorem aP0 {ms : List Nat} {l : List Oper} (hm : au5 ms l = true) (hb : Y3 l.toArray = true) {B : Nat → Bool} (hc : aX5 l B) {i : Nat} {o : Oper} (ho : l[i]? = some o) (hr : ∀ e ∈ o.after, Region.binds .any e = true → B e.on = true) {j : Nat} (hj : bef ms j i = true) : B j = true := by
 have hi := (bf3.1 ho).1
 have h1 := bf9.1 hm i (List.mem_range.2 hi)
 rw [ho] at h1
 simp only [natEq, beq_iff_eq] at h1
 unfold bef at hj
 rw [h1] at hj
 obtain ⟨e, he, h2, h3⟩ := al8 hj
 have h5 := ao3 hb (show i < l.toArray.size by simpa using hi) (show l.toArray[i]? = some o by simpa using ho) he h2
 rcases h3 with rfl | h3
 ·exact hr e he h2
 ·exact ao2 hm hb hc e.on (by omega) (hr e he h2) j h3
end
section
variable {P : Program} {ι : Type} {φ ψ : Nat → Prop} {w0 w w' : World} {F : ι → Rs} {ρ : Nat → Value} {S : Nat → It} {N m n : Nat} {ρ0 : Nat → Value}
theorem aD4 {l : List Oper} {Q : Exit → Act → World → Prop} (I : Array Bool → Act → World → Prop) (hb : Y3 l.toArray = true)
  (step : ∀ listed a w, I listed a w → ∀ i o, l[i]? = some o → listed.getD i true = false → (∀ e ∈ o.after, Region.binds .any e = true → listed.getD e.on false = true) →
   ∀ Q' : Exit → Act → World → Prop, (∀ a w, I (listed.setIfInBounds i true) a w → Q' .normal a w) → wpList P l.toArray Q' [o] a w)
  (done : ∀ listed a w, I listed a w → (∀ j, j < l.length → listed.getD j true = true) → Q .normal a w) :
  ∀ (fuel : Nat) (listed : Array Bool) (a : Act) (w : World), listed.size = l.toArray.size → listed.toList.count false = fuel → I listed a w → wpAny P .any l.toArray Q fuel listed a w := by
 have hfin : ∀ (listed : Array Bool) (a : Act) (w : World), listed.size = l.toArray.size → Region.ready .any l.toArray listed = [] → I listed a w → Q .normal a w := by
  intro listed a w hsz hr hI
  refine done listed a w hI fun j hj => ?_
  cases hl : listed.getD j true
  ·exact absurd hr (ay0 hb hsz j (by simpa using hj) hl)
  ·rfl
 intro fuel
 induction fuel with
 | zero =>
  intro listed a w hsz hc hI
  have hr : Region.ready .any l.toArray listed = [] := by
   rw [List.eq_nil_iff_forall_not_mem]
   intro j hj
   have := ae1 (mem_ready.1 hj).1
   omega
  exact ⟨hr, hfin listed a w hsz hr hI⟩
 | succ f ih =>
  intro listed a w hsz hc hI
  refine ⟨fun hr => hfin listed a w hsz hr hI, fun i hi => ?_⟩
  obtain ⟨h1, o, ho, h2⟩ := mem_ready.1 hi
  have ho' : l[i]? = some o := by simpa using ho
  have hcl := ae1 h1
  have hs := step listed a w hI i o ho' h1 h2 (fun e a w => e = .normal ∧ I (listed.setIfInBounds i true) a w) fun a w h => ⟨rfl, h⟩
  unfold wpOp
  rw [ho]
  simp only
  unfold wpList at hs
  split
  ·rename_i hw
   rw [if_pos hw] at hs
   rcases hs with hs | ⟨_, a, w, he, _⟩
   ·exact .inl (aL3 (fun _ _ _ h => h.1) (Oper.wp_mono (fun a' w' h => ih _ a' w' (by simpa using hsz) (by omega) h.2) hs))
   ·cases he
  ·rename_i hw
   rw [if_neg hw] at hs
   exact ih _ _ _ (by simpa using hsz) (by omega) hs.2
theorem ak2 {id : Nat} {l : List Oper} {Q : Exit → Act → World → Prop} {a : Act} {w : World} (I : Array Bool → Act → World → Prop) (hm : P.follows .mixedOrders = true) (hb : Y3 l.toArray = true)
  (h0 : I (Array.replicate l.length false) a w.drew)
  (step : ∀ listed a w, I listed a w → ∀ i o, l[i]? = some o → listed.getD i true = false → (∀ e ∈ o.after, Region.binds .any e = true → listed.getD e.on false = true) →
   ∀ Q' : Exit → Act → World → Prop, (∀ a w, I (listed.setIfInBounds i true) a w → Q' .normal a w) → wpList P l.toArray Q' [o] a w)
  (done : ∀ listed a w, I listed a w → (∀ j, j < l.length → listed.getD j true = true) → Q .normal a w) : (Code.region id l.toArray true).wp P Q a w :=
 wp_region_any hm (aD4 I hb step done _ _ _ _ (by simp) (by simp) (by simpa using h0))
def RI (φ ψ : Nat → Prop) (w0 : World) (F : ι → Rs) (N m : Nat) (ρ0 : Nat → Value) (l : List Oper) (az : List Ac) (tm : Nat → Option AV) (S : Nat → It) (listed : Array Bool) (a : Act) (w : World) : Prop :=
 listed.size = l.length ∧ aX5 l (fun j => listed.getD j false) ∧ ∃ ρ, (∀ i, i < m → ρ i = ρ0 i) ∧ a.tmps.size = N ∧ a.defers = [] ∧ (∀ t x, tmD az (fun j => listed.getD j false) tm t = some x → a.tmps[t]? = some (x.val ρ)) ∧ m0 φ ψ w0 w (n7 F ρ (sD az (fun j => listed.getD j false) S))
theorem aF7 {ms : List Nat} {az : List Ac} (h : a72 ms az = true) {i j : Nat} {a b : Ac} (ha : az[i]? = some a) (hb : az[j]? = some b) (hij : i ≠ j) (hm : V6 a b = true) : (j < i → bef ms j i = true) ∧ (i < j → bef ms i j = true) := by
 have hi := (bf3.1 ha).1
 have hj := (bf3.1 hb).1
 have h1 := bf9.1 (bf9.1 h i (List.mem_range.2 hi)) j (List.mem_range.2 hj)
 rw [ha, hb] at h1
 have hne : natEq i j = false := by simp [natEq, hij]
 simp only [hne, hm, Bool.not_true, Bool.false_or] at h1
 constructor
 ·intro hlt; rw [if_pos (by simpa using hlt)] at h1; exact h1
 ·intro hlt; rw [if_neg (by simp; omega)] at h1; exact h1
theorem aJ5 {ms : List Nat} {n0 : Nat} {az : List Ac} (h : aU4 ms n0 az = true) {i : Nat} {a : Ac} (ha : az[i]? = some a) : ∀ id, (id ∈ a.t.res.ids ∨ id ∈ a.t.new.map (·.1) ∨ ∃ p ∈ a.t.new, id ∈ p.2.ids) → id < n0 ∨ (id - n0) / 8 = i ∨ bef ms ((id - n0) / 8) i = true := by
 intro id hid
 have hi := (bf3.1 ha).1
 have h1 := bf9.1 h i (List.mem_range.2 hi)
 rw [ha] at h1
 have h2 := bf9.1 h1 id (by
  rcases hid with h | h | ⟨p, hp, h⟩
  ·exact List.mem_append_left _ (List.mem_append_left _ h)
  ·exact List.mem_append_left _ (List.mem_append_right _ h)
  ·exact List.mem_append_right _ (List.mem_flatMap.2 ⟨p, hp, h⟩))
 simp only [Bool.or_eq_true, decide_eq_true_eq, natEq, beq_iff_eq] at h2
 rcases h2 with (h2 | h2) | h2
 ·exact .inl h2
 ·exact .inr (.inl h2)
 ·exact .inr (.inr h2)
theorem as2 {dk : TypeId → Nat} {H : L7} (hH : ∀ i c τ, I3 H.calls i = some (c, τ) → c.ok P) (hF : K3 H.facts) {l : List Oper} {id : Nat} {Q : Exit → Act → World → Prop} {tm : List (Nat × AV)} {a : Act} {wr : World} (I0 : Inn φ ψ w0 F N m ρ0 n ρ (B3 tm) S a wr) {r : RS} (hrun : O3 P dk N l H l 0 tm S n = some r) (ho : v7 r.obs) (heq : r.acts.map (·.eqs.1) = r.acts.map (·.eqs.2)) (hew : r.acts.map (·.eqw.1) = r.acts.map (·.eqw.2))
  (ms : List Nat) (hm : P.follows .mixedOrders = true) (hb : Y3 l.toArray = true) (hms : au5 ms l = true) (hord : a72 ms r.acts = true) (hment : aU4 ms n r.acts = true) (hweak : aP4 ms S r.acts = true)
  (done : ∀ ρ' a' w' n', Inn φ ψ w0 F N m ρ0 n' ρ' (B3 r.tm) r.S a' w' → Q .normal a' w') : (Code.region id l.toArray true).wp P Q a wr := by
 obtain ⟨hlen, hfT, hfS, hat⟩ := aI7 l 0 n hrun ho
 have hmt : ∀ (i : Nat) ac, r.acts[i]? = some ac → ∀ t b, b.dst = some t → t ∈ ac.rt → V6 ac b = true := fun i ac _ t b hb ht => by
  simp [V6, hb, t8.2 ht]
 have hmd : ∀ ac b t, ac.dst = some t → b.dst = some t → V6 ac b = true := fun ac b t h1 h2 => by
  simp [V6, h1, h2, natEq]
 have hms' : ∀ (ac b : Ac) (j : Nat), j ∈ ac.ri → j ∈ b.t.new.map (·.1) → V6 ac b = true := fun ac b j h1 h2 => by
  obtain ⟨p, hp, rfl⟩ := List.mem_map.1 h2
  unfold V6
  have : b.t.new.any (fun p => memN p.1 ac.ri || ac.t.new.any fun q => natEq q.1 p.1) = true := List.any_eq_true.2 ⟨p, hp, by simp [t8.2 h1]⟩
  rw [this]; simp
 have hmn : ∀ (ac b : Ac) (j : Nat), j ∈ ac.t.new.map (·.1) → j ∈ b.t.new.map (·.1) → V6 ac b = true := fun ac b j h1 h2 => by
  obtain ⟨p, hp, rfl⟩ := List.mem_map.1 h2
  obtain ⟨q, hq, e⟩ := List.mem_map.1 h1
  unfold V6
  have : b.t.new.any (fun p => memN p.1 ac.ri || ac.t.new.any fun q => natEq q.1 p.1) = true := List.any_eq_true.2 ⟨p, hp, by
   have : ac.t.new.any (fun q => natEq q.1 p.1) = true := List.any_eq_true.2 ⟨q, hq, by simp [natEq, e]⟩
   rw [this]; simp⟩
  rw [this]; simp
 refine ak2 (RI φ ψ w0 F N m ρ0 l r.acts (B3 tm) S) hm hb ?_ ?_ ?_
 ·refine ⟨by simp, fun j o _ hj => ?_, ρ, I0.old, I0.size, I0.defs, fun t x hx => ?_, ?_⟩
  ·have hj' : (Array.replicate l.length false).getD j false = true := hj
   rw [getD_replicate_false] at hj'; cases hj'
  ·refine I0.tmv t x ?_
   rw [← hx]
   exact (Q5 fun j b _ _ => getD_replicate_false _ _).symm
  ·have e : sD r.acts (fun j => (Array.replicate l.length false).getD j false) S = S := by
    funext j; exact Q5 fun j b _ _ => getD_replicate_false _ _
   rw [e]; exact I0.mem.drew
 ·rintro listed a w ⟨hsz, hdn, ρ, hold, hN, hdf, hv, M⟩ i o hoi hun hdep Q' hQ
  generalize hB : (fun j => listed.getD j false) = B at *
  have hBj : ∀ j, B j = listed.getD j false := fun j => by rw [← hB]
  have hil := (bf3.1 hoi).1
  have hBi : B i = false := by
   rw [hBj, ← aJ9 (by omega)]; exact hun
  obtain ⟨ac, ob, hac, hob, hop⟩ := hat i o hoi
  simp only [bi4] at hop
  have heqi : ac.eqs.1 = ac.eqs.2 := by
   have := congrArg (·[i]?) heq
   simpa [hac] using this
  have hewi : ac.eqw.1 = ac.eqw.2 := by
   have := congrArg (·[i]?) hew
   simpa [hac] using this
  obtain ⟨hdst, hdN, hfine⟩ := au2 hop
  obtain ⟨hf1, hf2, hf3⟩ := U8 hfine
  have hdep' : ∀ e ∈ o.after, Region.binds .any e = true → B e.on = true := fun e he hbi => by rw [hBj]; exact hdep e he hbi
  have ahead : ∀ j, bef ms j i = true → B j = true := fun j hj => aP0 hms hb hdn hoi hdep' hj
  have behind : ∀ j, j < l.length → bef ms i j = true → B j = false := fun j hjl hj => by
   cases h : B j
   ·rfl
   ·have := ao2 hms hb hdn j hjl h i hj
    rw [hBi] at this; cases this
  have hagree : ∀ (j : Nat) b, r.acts[j]? = some b → V6 ac b = true → B j = decide (j < i) := fun j b hj hmm => by
   have hjl : j < l.length := by have := (bf3.1 hj).1; omega
   rcases Nat.lt_trichotomy j i with h | h | h
   ·rw [ahead j ((aF7 hord hac hj (by omega) hmm).1 h)]; simp [h]
   ·subst h; rw [hBi]; simp
   ·rw [behind j hjl ((aF7 hord hac hj (by omega) hmm).2 h)]
    have : ¬ j < i := by omega
    simp [this]
  have hop2 := aM3 hop (tm' := tmD r.acts B (B3 tm)) (S' := sD r.acts B S) (fun t ht => M8 fun j b hj hw => by
    rw [bi4]
    refine hagree j b hj (hmt i ac hac t b ?_ ht)
    unfold wrT at hw
    split at hw
    ·assumption
    ·cases hw)
   (fun q hq => M8 fun j b hj hw => by
    rw [bi4]
    obtain ⟨x, hx⟩ := Option.isSome_iff_exists.1 hw
    exact hagree j b hj (hms' ac b q hq (List.mem_map.2 ⟨_, L5 hx, rfl⟩)))
   (fun q hq => by
    show knd (pf (wrS q) r.acts 0 B (S q)) = _
    rw [aI1 hweak hac hq fun k _ hk => ahead k hk, aI1 hweak hac hq fun k hk _ => by simpa using hk])
  have hrange : ∀ id, n + 8 * i ≤ id → id < n + 8 * i + 8 → (id - n) / 8 = i := fun id h1 h2 => by omega
  have hmk : ∀ j ∈ ac.t.made, sD r.acts B S j = .none := fun j hj => by
   obtain ⟨g1, g2⟩ := hf2 j hj
   have e : sD r.acts B S j = S j := Q5 fun k b hk hw => by
    rw [bi4]
    obtain ⟨x, hx⟩ := Option.isSome_iff_exists.1 hw
    have hkl : k < l.length := by have := (bf3.1 hk).1; omega
    rcases aJ5 hment hk j (.inr (.inl (List.mem_map.2 ⟨_, L5 hx, rfl⟩))) with h | h | h
    ·omega
    ·rw [hrange j g1 g2] at h; subst h; exact hBi
    ·rw [hrange j g1 g2] at h; exact behind k hkl h
   rw [e]; exact (I0.bd j).2 (by omega)
  have hnot : ∀ (k : Nat) b, r.acts[k]? = some b → B k = true → ∀ id, (id ∈ b.t.res.ids ∨ id ∈ b.t.new.map (·.1) ∨ ∃ p ∈ b.t.new, id ∈ p.2.ids) → id ∉ ac.t.made := fun k b hk hBk id hid hm => by
   obtain ⟨g1, g2⟩ := hf2 id hm
   have hkl : k < l.length := by have := (bf3.1 hk).1; omega
   rcases aJ5 hment hk id hid with h | h | h
   ·omega
   ·rw [hrange id g1 g2] at h; subst h; rw [hBi] at hBk; cases hBk
   ·rw [hrange id g1 g2] at h; rw [behind k hkl h] at hBk; cases hBk
  have hitem : ∀ j, ∀ id ∈ (sD r.acts B S j).ids, id ∉ ac.t.made := fun j => by
   refine ad0 (fun x : It => ∀ id ∈ x.ids, id ∉ ac.t.made) (fun id hid hm => ?_) fun k b x hk hBk hw id hid => ?_
   ·have := (I0.bd j).1 id hid; have := (hf2 id hm).1; omega
   ·rw [bi4] at hBk
    exact hnot k b hk hBk id (.inr (.inr ⟨_, L5 hw, hid⟩))
  have htm : ∀ t x, tmD r.acts B (B3 tm) t = some x → ∀ id ∈ x.ids, id ∉ ac.t.made := fun t => by
   refine ad0 (fun y : Option AV => ∀ x, y = some x → ∀ id ∈ x.ids, id ∉ ac.t.made) (fun x hx id hid hm => ?_) fun k b y hk hBk hw x hx id hid => ?_
   ·have := I0.tmi t x hx id hid; have := (hf2 id hm).1; omega
   ·rw [bi4] at hBk
    unfold wrT at hw
    split at hw
    ·cases hw; cases hx
     exact hnot k b hk hBk id (.inl hid)
    ·cases hw
  have hinv : Inv (sD r.acts B S) ρ ac.t.made := fun ρ' ha j => by
   refine It.res_congr _ (fun id hid => ha id (hitem j id hid)) ?_
   by_cases hj : j ∈ ac.t.made
   ·exact .inl (hmk j hj)
   ·exact .inr (.inr (ha j hj))
  refine a01 hH hF hv M hop2 hob heqi hewi hmk hinv fun ρ' w' ha M' => ?_
  refine hQ _ _ ?_
  have hB' : ∀ j, (listed.setIfInBounds i true).getD j false = if j = i then true else B j := fun j => by
   by_cases e : j = i
   ·subst e
    have : j < listed.size := by omega
    simp [this]
   ·rw [if_neg e, getD_set_ne false (fun h => e h.symm), hBj]
  have hBe : (fun j => (listed.setIfInBounds i true).getD j false) = fun j => if j = i then true else B j := funext hB'
  have later : ∀ (j : Nat) b, i < j → r.acts[j]? = some b → V6 ac b = true → (if j = i then true else B j) = false := fun j b hij hj hmm => by
   have hjl : j < l.length := by have := (bf3.1 hj).1; omega
   rw [if_neg (by omega)]
   exact behind j hjl ((aF7 hord hac hj (by omega) hmm).2 hij)
  have eT : tmD r.acts (fun j => if j = i then true else B j) (B3 tm) = ao9 ac.dst ac.t.res (tmD r.acts B (B3 tm)) := by
   funext t
   simp only [ao9]
   by_cases e : ac.dst = some t
   ·rw [if_pos e]
    refine au0 (i := i) hac (by simp [wrT, e]) (by simp) fun j b hij hj hw => ?_
    rw [bi4]
    refine later j b hij hj (hmd ac b t e ?_)
    unfold wrT at hw
    split at hw
    ·assumption
    ·cases hw
   ·rw [if_neg e]
    refine M8 fun j b hj hw => ?_
    have : j ≠ i := fun h => by
     subst h
     rw [hac] at hj; cases hj
     simp [wrT, e] at hw
    simp [this]
  have eS : sD r.acts (fun j => if j = i then true else B j) S = s0 (sD r.acts B S) ac.t.new := by
   funext q
   rw [af2]
   cases hx : an0 ac.t.new q with
   | some x =>
    refine au0 (i := i) hac hx (by simp) fun j b hij hj hw => ?_
    rw [bi4]
    obtain ⟨y, hy⟩ := Option.isSome_iff_exists.1 hw
    exact later j b hij hj (hmn ac b q (List.mem_map.2 ⟨_, L5 hx, rfl⟩) (List.mem_map.2 ⟨_, L5 hy, rfl⟩))
   | none =>
    refine M8 fun j b hj hw => ?_
    have : j ≠ i := fun h => by
     subst h
     rw [hac] at hj; cases hj
     unfold wrS at hw
     rw [hx] at hw; cases hw
    simp [this]
  refine ⟨by simpa using hsz, ?_, ρ', fun j hj => (ha j fun hm => by have := (hf2 j hm).1; have := I0.le; omega).trans (hold j hj), (ay8 _ _ _).trans hN, (ay9 _ _ _).trans hdf, ?_, ?_⟩
  ·rw [hBe]
   intro j oj hj hBj' e he hbi
   show (if e.on = i then true else B e.on) = true
   by_cases e1 : e.on = i
   ·simp [e1]
   ·rw [if_neg e1]
    by_cases e2 : j = i
    ·subst e2
     rw [hoi] at hj; cases hj
     exact hdep' e he hbi
    ·simp only [if_neg e2] at hBj'
     exact hdn j oj hj hBj' e he hbi
  ·rw [hBe, eT, hdst]
   intro t x hx
   rw [aS2 (by rw [hN]; exact hdN)]
   simp only [ao9] at hx
   split
   ·rename_i e; rw [if_pos e] at hx; cases hx; rfl
   ·rename_i e
    rw [if_neg e] at hx
    rw [hv t x hx, AV.val_congr x fun id hid => ha id (htm t x hx id hid)]
  ·rw [hBe, eS]; exact M'
 ·rintro listed a w ⟨hsz, hdn, ρ, hold, hN, hdf, hv, M⟩ hall
  have hall' : ∀ j, j < l.length → listed.getD j false = true := fun j hj => by rw [← aJ9 (by omega)]; exact hall j hj
  have eT : tmD r.acts (fun j => listed.getD j false) (B3 tm) = B3 r.tm := by
   funext t
   rw [hfT t]
   refine M8 fun j b hj _ => ?_
   rw [bi4]
   exact hall' j (by have := (bf3.1 hj).1; omega)
  have eS : sD r.acts (fun j => listed.getD j false) S = r.S := by
   funext q
   rw [hfS q]
   refine M8 fun j b hj _ => ?_
   rw [bi4]
   exact hall' j (by have := (bf3.1 hj).1; omega)
  have hids : ∀ (k : Nat) b, r.acts[k]? = some b → ∀ id, (id ∈ b.t.res.ids ∨ id ∈ b.t.new.map (·.1) ∨ ∃ p ∈ b.t.new, id ∈ p.2.ids) → id < n + 8 * l.length := fun k b hk id hid => by
   have hkl : k < l.length := by have := (bf3.1 hk).1; omega
   obtain ⟨o, ho'⟩ : ∃ o, l[k]? = some o := ⟨_, be9 hkl⟩
   obtain ⟨ac, ob, hac, _, hop⟩ := hat k o ho'
   rw [hk] at hac; cases hac
   obtain ⟨_, _, hfine⟩ := au2 hop
   obtain ⟨hf1, hf2, hf3⟩ := U8 hfine
   rcases hid with h | h | ⟨p, hp, h⟩
   ·have := hf3 id h; omega
   ·obtain ⟨p, hp, rfl⟩ := List.mem_map.1 h
    have := (hf1 p hp).1; omega
   ·have := (hf1 p hp).2 id h; omega
  refine done ρ a w (n + 8 * l.length) ⟨hN, hdf, by rw [← eT]; exact hv, fun t x hx => ?_, fun j => ?_, by rw [← eS]; exact M, by have := I0.le; omega, hold⟩
  ·rw [hfT t] at hx
   revert x
   refine ad0 (fun y : Option AV => ∀ x, y = some x → ∀ id ∈ x.ids, id < n + 8 * l.length) (fun x hx id hid => ?_) fun k b y hk _ hw x hx id hid => ?_
   ·have := I0.tmi t x hx id hid; omega
   ·unfold wrT at hw
    split at hw
    ·cases hw; cases hx
     exact hids k b hk id (.inl hid)
    ·cases hw
  ·refine ⟨?_, fun hj => ?_⟩
   ·rw [hfS j]
    refine ad0 (fun x : It => ∀ id ∈ x.ids, id < n + 8 * l.length) (fun id hid => ?_) fun k b x hk _ hw id hid => ?_
    ·have := (I0.bd j).1 id hid; omega
    ·exact hids k b hk id (.inr (.inr ⟨_, L5 hw, hid⟩))
   ·rw [hfS j, Q5 fun k b hk hw => ?_]
    ·exact (I0.bd j).2 (by omega)
    ·obtain ⟨x, hx⟩ := Option.isSome_iff_exists.1 hw
     have := hids k b hk j (.inr (.inl (List.mem_map.2 ⟨_, L5 hx, rfl⟩)))
     omega
end
def B4 {ι : Type} (φ ψ : Nat → Prop) (w0 : World) (F : ι → Rs) (N m : Nat) (ρ0 ρ : Nat → Value) (S : List It) (tm : List (Nat × AV)) (a : Act) (w : World) : Prop := Inn φ ψ w0 F N m ρ0 S.length ρ (B3 tm) (t4 S) a w
def wfB (S : List It) (tm : List (Nat × AV)) : Bool := S.all (fun x => T0 S.length x.ids) && tm.all (fun p => T0 S.length p.2.ids)
def a46 (m : Nat) (js : List Nat) : Bool := (bg0 m).all fun i => natEq (nth js i) i && decide (i < js.length)
def W9 (m : Nat) (js : List Nat) (S : List It) (tm : List (Nat × AV)) : Bool := nodupB js && natEq js.length S.length && wfB S tm && a46 m js
section
variable {P : Program} {ι : Type} {φ ψ : Nat → Prop} {w0 w w' : World} {F : ι → Rs} {ρ ρ0 : Nat → Value} {N m n : Nat} {S : List It} {tm : List (Nat × AV)} {a : Act} {Q : Exit → Act → World → Prop}
theorem am2 : ∀ {tm : List (Nat × AV)} {t : Nat} {x : AV}, B3 tm t = some x → (t, x) ∈ tm
 | [], _, _, h => by cases h
 | (k, y) :: r, t, x, h => by
  simp only [B3, natEq, beq_iff_eq] at h
  split at h
  ·rename_i e; subst e; cases h; exact bg2
  ·exact bg5 _ (am2 h)
theorem ab2 {l : List It} {i : Nat} (h : i < l.length) : t4 l i = l[i] := by simp [t4, bf2, h]
theorem v6 {l : List It} {i : Nat} (h : l.length ≤ i) : t4 l i = .none := by simp [t4, bf2, h]
theorem a38 {S : List It} {tm : List (Nat × AV)} (h : wfB S tm = true) : (∀ j, (∀ id ∈ (t4 S j).ids, id < S.length) ∧ (S.length ≤ j → t4 S j = .none)) ∧ ∀ t x, B3 tm t = some x → ∀ id ∈ x.ids, id < S.length := by
 simp only [wfB, bf0] at h
 refine ⟨fun j => ⟨fun id hid => ?_, fun hj => v6 hj⟩, fun t x hx id hid => ?_⟩
 ·rcases bh7 j S.length with hj | hj
  ·rw [ab2 hj] at hid
   exact G6 (bf9.1 h.1 _ (bg4 hj)) id hid
  ·rw [v6 hj] at hid; cases hid
 ·exact G6 (bf9.1 h.2 _ (am2 hx)) id hid
theorem Inn.sel {tf : Nat → Option AV} {Sf : Nat → It} (I : Inn φ ψ w0 F N m ρ0 n ρ tf Sf a w) (js : List Nat) (S1 : List It) (tm1 : List (Nat × AV)) (hb : W9 m js S1 tm1 = true) (hS : js.map Sf = S1.map (It.ren (nth js))) (ht : (tm1.map (·.1)).map tf = tm1.map fun p => some (p.2.ren (nth js))) :
  B4 φ ψ w0 F N m ρ0 (fun i => ρ (nth js i)) S1 tm1 a w := by
 simp only [W9, bf0, natEq, beq_iff_eq] at hb
 obtain ⟨⟨⟨hnd, hl⟩, hwf⟩, hkeep⟩ := hb
 have hn := ab1 hnd
 obtain ⟨b1, b2⟩ := a38 hwf
 have hk : ∀ i, i < m → nth js i = i ∧ i < js.length := fun i hi => by
  have := bf9.1 hkeep i (List.mem_range.2 hi)
  simpa [natEq] using this
 refine ⟨I.size, I.defs, fun t x hx => ?_, b2, b1, ?_, ?_, fun i hi => ?_⟩
 ·obtain ⟨i, hi⟩ := List.mem_iff_getElem?.1 (am2 hx)
  have h1 := congrArg (·[i]?) ht
  simp only [List.getElem?_map, hi, Option.map_some] at h1
  rw [I.tmv t _ (Option.some.inj h1), AV.val_ren]
 ·refine I.mem.map (fun k : ι ⊕ Nat => (match k with | .inl i => some (.inl i) | .inr i => if i < js.length then some (.inr (nth js i)) else none : Option (ι ⊕ Nat))) ?_ ?_
  ·intro k k' x h1 h2
   match k, k' with
   | .inl i, .inl i' => simp at h1 h2; rw [← h1] at h2; simpa using h2.symm
   | .inl i, .inr j => simp only at h1 h2; cases h1; split at h2 <;> simp at h2
   | .inr j, .inl i => simp only at h1 h2; cases h2; split at h1 <;> simp at h1
   | .inr j, .inr j' =>
    simp at h1 h2
    obtain ⟨f1, f2⟩ := h1
    obtain ⟨g1, g2⟩ := h2
    rw [← f2] at g2
    have hj := Sum.inr.inj g2
    have e1 := be9 f1
    have e2 := be9 g1
    rw [F7 e2, F7 e1] at hj
    have := (List.getElem?_inj f1 hn).1 (e1.trans (by rw [← hj]; exact e2.symm))
    rw [this]
  ·intro k
   match k with
   | .inl i => exact .inl ⟨_, rfl, rfl⟩
   | .inr i =>
    by_cases hlt : i < js.length
    ·refine .inl ⟨.inr (nth js i), by simp [hlt], ?_⟩
     have h1 := congrArg (·[i]?) hS
     have hlt' : i < S1.length := by omega
     simp only [List.getElem?_map, be9 hlt, be9 hlt', Option.map_some, Option.some.injEq] at h1
     simp only [n7]
     rw [ab2 hlt', F7 (be9 hlt), h1, ← It.res_ren, F7 (be9 hlt)]
    ·refine .inr ?_
     simp only [n7]
     rw [v6 (by omega)]
     rfl
 ·rcases bh7 S1.length m with h | h
  ·have := (hk S1.length h).2; omega
  ·exact h
 ·rw [(hk i hi).1]; exact I.old i hi
def az1 (o : Option RS) (js ts : List Nat) : Option (List Prop × List It × List (Option AV) × List (List (List AV × List It)) × List (List AV)) := o.map fun r => (r.obs, js.map r.S, ts.map (B3 r.tm), r.acts.map (·.eqs.1), r.acts.map (·.eqw.1))
def aF6 (o : Option RS) (obs : List Prop) (js : List Nat) (S : List It) (tm : List (Nat × AV)) : Option (List Prop × List It × List (Option AV) × List (List (List AV × List It)) × List (List AV)) := o.map fun r => (obs, S.map (It.ren (nth js)), tm.map (fun p => some (p.2.ren (nth js))), r.acts.map (·.eqs.2), r.acts.map (·.eqw.2))
def aK5 (l : List Oper) (ms : List Nat) (n : Nat) (S : Nat → It) (o : Option RS) : Bool := au5 ms l && Y3 l.toArray && match o with
 | some r => a72 ms r.acts && aU4 ms n r.acts && aP4 ms S r.acts
 | none => false
theorem a66 {dk : TypeId → Nat} {l : List Oper} {id : Nat} (G : B4 φ ψ w0 F N m ρ0 ρ S tm a w) (H : L7) (hH : ∀ i c τ, I3 H.calls i = some (c, τ) → c.ok P) (hF : K3 H.facts) (js : List Nat) (S1 : List It) (tm1 : List (Nat × AV)) (obs : List Prop)
  (hs : ((O3 P dk N l H l 0 tm (t4 S) S.length).isSome && W9 m js S1 tm1) = true)
  (hc : az1 (O3 P dk N l H l 0 tm (t4 S) S.length) js (tm1.map (·.1)) = aF6 (O3 P dk N l H l 0 tm (t4 S) S.length) obs js S1 tm1)
  (ho : v7 obs) (k : ∀ ρ' a' w', B4 φ ψ w0 F N m ρ0 ρ' S1 tm1 a' w' → Q .normal a' w') : (Code.region id l.toArray false).wp P Q a w := by
 simp only [bf0] at hs
 obtain ⟨r, hr⟩ := Option.isSome_iff_exists.1 hs.1
 rw [hr] at hc
 simp only [az1, aF6, Option.map_some, Option.some.injEq, Prod.mk.injEq] at hc
 obtain ⟨h1, h2, h3, h4, h5⟩ := hc
 refine wp_region_lit (aI6 hH hF l 0 S.length G hr (by rw [h1]; exact ho) h4 h5 fun ρ' a' w' n' I => ?_)
 exact k _ a' w' (I.sel js S1 tm1 hs.2 h2 h3)
theorem aZ5 {dk : TypeId → Nat} {l : List Oper} {id : Nat} (G : B4 φ ψ w0 F N m ρ0 ρ S tm a w) (H : L7) (hH : ∀ i c τ, I3 H.calls i = some (c, τ) → c.ok P) (hF : K3 H.facts) (ms : List Nat) (js : List Nat) (S1 : List It) (tm1 : List (Nat × AV)) (obs : List Prop) (hm : P.follows .mixedOrders = true)
  (hs : (aK5 l ms S.length (t4 S) (O3 P dk N l H l 0 tm (t4 S) S.length) && W9 m js S1 tm1) = true)
  (hc : az1 (O3 P dk N l H l 0 tm (t4 S) S.length) js (tm1.map (·.1)) = aF6 (O3 P dk N l H l 0 tm (t4 S) S.length) obs js S1 tm1)
  (ho : v7 obs) (k : ∀ ρ' a' w', B4 φ ψ w0 F N m ρ0 ρ' S1 tm1 a' w' → Q .normal a' w') : (Code.region id l.toArray true).wp P Q a w := by
 simp only [bf0, aK5] at hs
 obtain ⟨⟨⟨q1, q2⟩, q3⟩, q4⟩ := hs
 cases hr : O3 P dk N l H l 0 tm (t4 S) S.length with
 | none => rw [hr] at q3; cases q3
 | some r =>
  rw [hr] at q3 hc
  simp only [bf0] at q3
  simp only [az1, aF6, Option.map_some, Option.some.injEq, Prod.mk.injEq] at hc
  obtain ⟨h1, h2, h3, h4, h5⟩ := hc
  refine as2 hH hF G hr (by rw [h1]; exact ho) h4 h5 ms hm q2 q1 q3.1.1 q3.1.2 q3.2 fun ρ' a' w' n' I => ?_
  exact k _ a' w' (I.sel js S1 tm1 q4 h2 h3)
theorem rs1 {dk : TypeId → Nat} {l : List Oper} {id : Nat} (G : B4 φ ψ w0 F N m ρ0 ρ S tm a w) (H : L7) (hH : ∀ i c τ, I3 H.calls i = some (c, τ) → c.ok P) (hF : K3 H.facts) (js : List Nat) (S1 : List It) (tm1 : List (Nat × AV)) (obs : List Prop)
  (ho : v7 obs) (k : ∀ ρ' a' w', B4 φ ψ w0 F N m ρ0 ρ' S1 tm1 a' w' → Q .normal a' w')
  (hs : ((O3 P dk N l H l 0 tm (t4 S) S.length).isSome && W9 m js S1 tm1) = true := by kernel_rfl)
  (hc : az1 (O3 P dk N l H l 0 tm (t4 S) S.length) js (tm1.map (·.1)) = aF6 (O3 P dk N l H l 0 tm (t4 S) S.length) obs js S1 tm1 := by kernel_rfl) : (Code.region id l.toArray false).wp P Q a w := a66 G H hH hF js S1 tm1 obs hs hc ho k
theorem rd1 {dk : TypeId → Nat} {l : List Oper} {id : Nat} (G : B4 φ ψ w0 F N m ρ0 ρ S tm a w) (H : L7) (hH : ∀ i c τ, I3 H.calls i = some (c, τ) → c.ok P) (hF : K3 H.facts) (ms : List Nat) (js : List Nat) (S1 : List It) (tm1 : List (Nat × AV)) (obs : List Prop)
  (ho : v7 obs) (k : ∀ ρ' a' w', B4 φ ψ w0 F N m ρ0 ρ' S1 tm1 a' w' → Q .normal a' w') (hm : P.follows .mixedOrders = true := by kernel_rfl)
  (hs : (aK5 l ms S.length (t4 S) (O3 P dk N l H l 0 tm (t4 S) S.length) && W9 m js S1 tm1) = true := by kernel_rfl)
  (hc : az1 (O3 P dk N l H l 0 tm (t4 S) S.length) js (tm1.map (·.1)) = aF6 (O3 P dk N l H l 0 tm (t4 S) S.length) obs js S1 tm1 := by kernel_rfl) : (Code.region id l.toArray true).wp P Q a w := aZ5 G H hH hF ms js S1 tm1 obs hm hs hc ho k
theorem Z3 : ∀ i c τ, I3 [] i = some (c, τ) → t6.ok P c := fun i c τ h => by cases h
theorem an5 {i0 : Nat} {c0 : t6} {τ0 : List Nat} {r : List (Nat × t6 × List Nat)} (h0 : c0.ok P) (hr : ∀ i c τ, I3 r i = some (c, τ) → t6.ok P c) : ∀ i c τ, I3 ((i0, c0, τ0) :: r) i = some (c, τ) → t6.ok P c := fun i c τ h => by
 simp only [I3] at h
 split at h
 ·cases h; exact h0
 ·exact hr i c τ h
theorem B4.sel (G : B4 φ ψ w0 F N m ρ0 ρ S tm a w) (js : List Nat) (S1 : List It) (tm1 : List (Nat × AV)) (hb : W9 m js S1 tm1 = true) (hS : js.map (t4 S) = S1.map (It.ren (nth js))) (ht : (tm1.map (·.1)).map (B3 tm) = tm1.map fun p => some (p.2.ren (nth js))) : ∃ ρ', B4 φ ψ w0 F N m ρ0 ρ' S1 tm1 a w := ⟨_, Inn.sel G js S1 tm1 hb hS ht⟩
theorem B4.as (G : B4 φ ψ w0 F N m ρ0 ρ S tm a w) (S1 : List It) (tm1 : List (Nat × AV)) (hS : S = S1) (ht : tm = tm1) : B4 φ ψ w0 F N m ρ0 ρ S1 tm1 a w := by subst hS; subst ht; exact G
theorem B4.at (G : B4 φ ψ w0 F N m ρ0 ρ S tm a w) (S1 : List It) (tm1 : List (Nat × AV)) (hS : S = S1 := by kernel_rfl) (ht : tm = tm1 := by kernel_rfl) : B4 φ ψ w0 F N m ρ0 ρ S1 tm1 a w := G.as S1 tm1 hS ht
theorem Y5 {c : Nat} {x y : Code} (G : B4 φ ψ w0 F N m ρ0 ρ S tm a w) (b : Bool) (hc : B3 tm c = some (.v (.bool b))) (ht : b = true → x.wp P Q a w) (hf : b = false → y.wp P Q a w) : (Code.cond (.tmp c) x y).wp P Q a w := by
 have h := G.tmv c _ hc
 refine wp_cond_split (t := b) ?_ ht hf
 simp [Act.eval, Array.getD_eq_getD_getElem?, h, AV.val]
theorem aR5 {c : Nat} {x y : Code} (G : B4 φ ψ w0 F N m ρ0 ρ S tm a w) (b : Bool) (hc : B3 tm c = some (.v (.bool b))) (hb : b = true) (h : x.wp P Q a w) : (Code.cond (.tmp c) x y).wp P Q a w := Y5 G b hc (fun _ => h) fun hf => by rw [hb] at hf; cases hf
theorem aR6 {c : Nat} {x y : Code} (G : B4 φ ψ w0 F N m ρ0 ρ S tm a w) (b : Bool) (hc : B3 tm c = some (.v (.bool b))) (hb : b = false) (h : y.wp P Q a w) : (Code.cond (.tmp c) x y).wp P Q a w := Y5 G b hc (fun ht => by rw [hb] at ht; cases ht) fun _ => h
def aF2 (P : Program) (tm : Nat → Option AV) (S : Nat → It) : List ResultVar → Option (List AV)
 | [] => some []
 | .tmp t :: r =>
  match tm t, aF2 P tm S r with
  | some x, some l => some (x :: l)
  | _, _ => none
 | .cell t ty :: r =>
  match tm t, aF2 P tm S r with
  | some (.ptr b off), some l =>
   match S b with
   | .box cs => (aC6 P ty ((cs.drop off).take (ah5 P ty))).map fun x => x :: l
   | _ => none
  | _, _ => none
def ay7 (P : Program) (fn : Func) (tm : List (Nat × AV)) (S : List It) : Option AV :=
 match aF2 P (B3 tm) (t4 S) fn.results.toList with
 | some [x] => some x
 | some l => some (.tup l)
 | none => none
theorem aX0 {cs : List AV} {ty : TypeId} {b off : Nat} {x : AV} (hB : P5 w b (AV.vals ρ cs)) (h : aC6 P ty ((cs.drop off).take (ah5 P ty)) = some x) : (loadVar ty ⟨b, off, none⟩).run P w = .ok (x.val ρ) w :=
 Z4 h ⟨b, off, none⟩ fun j u hj => by
  rw [AV.vals_take, AV.vals_drop] at hj
  have hadd : (⟨b, off, none⟩ : Addr).add j = ⟨b, off + j, none⟩ := by unfold Addr.add; split <;> simp_all
  rw [hadd, hB.cell]
  rw [List.getElem?_take] at hj
  split at hj
  ·rw [List.getElem?_drop] at hj; exact hj
  ·cases hj
theorem at5 (G : B4 φ ψ w0 F N m ρ0 ρ S tm a w) : ∀ {rs : List ResultVar} {l : List AV}, aF2 P (B3 tm) (t4 S) rs = some l →
  (rs.mapM (fun r => (match r with | .tmp t => pure (a.tmps.getD t undef) | .cell b t => do loadVar t (← asAddr (a.tmps.getD b undef)) : Sem Value))).run P w = .ok (AV.vals ρ l) w
 | [], l, h => by cases h; simp [AV.vals]
 | .tmp t :: r, l, h => by
  simp only [aF2] at h
  split at h
  case h_2 => cases h
  rename_i x l' h1 h2
  cases h
  have ht := G.tmv t x h1
  have ih := at5 G h2
  have e : (pure (a.tmps.getD t undef) : Sem Value).run P w = .ok (x.val ρ) w := by simp [Array.getD_eq_getD_getElem?, ht]
  rw [List.mapM_cons, Sem.run_bind, e, Result.andThen_ok, Sem.run_bind, ih]
  rfl
 | .cell t ty :: r, l, h => by
  simp only [aF2] at h
  split at h
  case h_2 => cases h
  rename_i b off l' h1 h2
  split at h
  case h_2 => cases h
  rename_i cs hS
  obtain ⟨x, h3, h4⟩ := bf1.1 h
  subst h4
  have ht := G.tmv t _ h1
  have ih := at5 G h2
  have hl := aX0 (P := P) (G.mem.boxAt hS) h3
  have e : (do loadVar ty (← asAddr (a.tmps.getD t undef)) : Sem Value).run P w = .ok (x.val ρ) w := by
   rw [show a.tmps.getD t undef = .pointer (some ⟨N6 (ρ b), off, none⟩) by simp [Array.getD_eq_getD_getElem?, ht, AV.val]]
   simp [asAddr, hl]
  rw [List.mapM_cons, Sem.run_bind, e, Result.andThen_ok, Sem.run_bind, ih]
  rfl
theorem a67 {fn : Func} {R : Ending → World → Prop} {v : AV} (G : B4 φ ψ w0 F N m ρ0 ρ S tm a w) (h : ay7 P fn tm S = some v) (hR : R (.returned (v.val ρ)) w) : bodyPost P fn R .ret a w := by
 refine ⟨G.defs, v.val ρ, ?_, hR⟩
 unfold ay7 at h
 cases hl : aF2 P (B3 tm) (t4 S) fn.results.toList with
 | none => rw [hl] at h; cases h
 | some l =>
  rw [hl] at h
  have := at5 G hl
  unfold results
  rw [Sem.run_bind, Array.mapM_eq_mapM_toList, Sem.run_map]
  erw [this]
  simp only [Result.andThen_ok, Sem.run_pure]
  match l, h with
  | [], h => cases h; rfl
  | [x], h => cases h; rfl
  | x :: y :: r, h => cases h; rfl
def ao4 (i : Nat) : List AV → List (Nat × AV)
 | [] => []
 | x :: r => (i, x) :: ao4 (i + 1) r
theorem aC7 (ρ : Nat → Value) : ∀ {l : List AV} {i t : Nat} {x : AV}, B3 (ao4 i l) t = some x → i ≤ t ∧ (AV.vals ρ l)[t - i]? = some (x.val ρ)
 | [], _, _, _, h => by cases h
 | y :: r, i, t, x, h => by
  simp only [ao4, B3, natEq, beq_iff_eq] at h
  split at h
  ·rename_i e; subst e; cases h; exact ⟨bf5 _, by simp [AV.vals]⟩
  ·obtain ⟨h1, h2⟩ := aC7 ρ h
   refine ⟨by omega, ?_⟩
   rw [show t - i = (t - (i + 1)) + 1 by omega]
   simpa [AV.vals] using h2
def aD2 (φ ψ : Nat → Prop) (w0 : World) (F : ι → Rs) (ρ0 : Nat → Value) (c : t6) (x : Ending) (w' : World) : Prop := ∃ ρ', (∀ i, i < c.pre.length → ρ' i = ρ0 i) ∧ x = .returned (c.res.val ρ') ∧ m0 φ ψ w0 w' (n7 F ρ' (t4 c.post))
theorem aR4 {c : t6} {fn : Func} {code : Code} (N : Nat) (hf : P.funcs[c.f]? = some fn) (hb : fn.body = some code) (hN : fn.ntmps = N) (hw : (wfB c.pre (ao4 0 c.args) && decide (c.args.length ≤ N)) = true)
  (k : ∀ {ι : Type} (φ ψ : Nat → Prop) (w0 w : World) (F : ι → Rs) (ρ0 ρ : Nat → Value) (a : Act), B4 φ ψ w0 F N c.pre.length ρ0 ρ c.pre (ao4 0 c.args) a w → code.wp P (bodyPost P fn (aD2 φ ψ w0 F ρ0 c)) a w) : c.ok P := by
 intro ι φ ψ w0 w F ρ M
 simp only [bf0, decide_eq_true_eq] at hw
 obtain ⟨b1, b2⟩ := a38 hw.1
 refine calls_of_wp hf hb (k φ ψ w0 w F ρ ρ _ ⟨?_, rfl, fun t x hx => ?_, b2, b1, M, bf5 _, fun _ _ => rfl⟩)
 ·simp [AV.vals_length, hN]; omega
 ·obtain ⟨_, h1⟩ := aC7 ρ hx
  rw [Nat.sub_zero] at h1
  have hlt := (bf3.1 h1).1
  rw [Array.getElem?_append_left (by simpa using hlt)]
  simpa using h1
theorem al2 {fn : Func} {c : t6} {v : AV} (G : B4 φ ψ w0 F N c.pre.length ρ0 ρ S tm a w) (js : List Nat) (h : ay7 P fn tm S = some v) (hb : W9 c.pre.length js c.post [] = true) (hS : js.map (t4 S) = c.post.map (It.ren (nth js))) (hv : v = c.res.ren (nth js)) : bodyPost P fn (aD2 φ ψ w0 F ρ0 c) .ret a w := by
 have G1 := Inn.sel G js c.post [] hb hS rfl
 refine a67 G h ⟨fun i => ρ (nth js i), G1.old, ?_, G1.mem⟩
 rw [hv, AV.val_ren]
theorem b5 {K : Act → World → Prop} (h : K a w) : Exit.then K Q .normal a w := h
theorem E6 {K : Act → World → Prop} {id : Nat} (h : Q (.exit id) a w) : Exit.then K Q (.exit id) a w := h
theorem m7 {K : Act → World → Prop} (h : Q .ret a w) : Exit.then K Q .ret a w := h
theorem I9 {id : Nat} (h : Q .normal a w) : Exit.inBlock id Q .normal a w := h
theorem B8 {id : Nat} (h : Q .ret a w) : Exit.inBlock id Q .ret a w := h
theorem E5 {id : Nat} (h : Q .normal a w) : Exit.inBlock id Q (.exit id) a w := by simp only [Exit.inBlock, if_true]; exact h
theorem w64 {x : Int} (h1 : -9223372036854775808 ≤ x) (h2 : x ≤ 9223372036854775807) : IntKind.i64.wrap x = x := IntWalk.i64_in x ⟨h1, h2⟩
theorem rT {c : Nat} {x y : Code} (G : B4 φ ψ w0 F N m ρ0 ρ S tm a w) (b : Bool) (hb : b = true) (h : x.wp P Q a w) (hc : B3 tm c = some (.v (.bool b)) := by kernel_rfl) : (Code.cond (.tmp c) x y).wp P Q a w := aR5 G b hc hb h
theorem rF {c : Nat} {x y : Code} (G : B4 φ ψ w0 F N m ρ0 ρ S tm a w) (b : Bool) (hb : b = false) (h : y.wp P Q a w) (hc : B3 tm c = some (.v (.bool b)) := by kernel_rfl) : (Code.cond (.tmp c) x y).wp P Q a w := aR6 G b hc hb h
theorem E9 {κ : Type} {c : Code} (pre : κ → Prop) (μ : κ → Nat) (Sk : κ → List It) (Tk : κ → List (Nat × AV)) (k0 : κ) (hp : pre k0) (G : B4 φ ψ w0 F N m ρ0 ρ (Sk k0) (Tk k0) a w)
  (round : ∀ k ρ a w, pre k → B4 φ ψ w0 F N m ρ0 ρ (Sk k) (Tk k) a w → c.wp P (Exit.then (fun a' w' => ∃ k' ρ', pre k' ∧ μ k' < μ k ∧ B4 φ ψ w0 F N m ρ0 ρ' (Sk k') (Tk k') a' w') Q) a w) : (Code.loop c).wp P Q a w := by
 refine wp_loop_ghost (fun n a w => ∃ k ρ, μ k = n ∧ pre k ∧ B4 φ ψ w0 F N m ρ0 ρ (Sk k) (Tk k) a w) (μ k0) ⟨k0, ρ, rfl, hp, G⟩ ?_
 rintro n a w ⟨k, ρ, rfl, hk, Gk⟩
 refine wp_mono (round k ρ a w hk Gk) ?_
 intro e a' w' hq
 cases e with
 | normal =>
  obtain ⟨k', ρ', h1, h2, h3⟩ := hq
  exact ⟨μ k', h2, k', ρ', rfl, h1, h3⟩
 | _ => exact hq
theorem aZ4 {κ : Type} {pre : κ → Prop} {μ : κ → Nat} {Sk : κ → List It} {Tk : κ → List (Nat × AV)} {k : κ} (G : B4 φ ψ w0 F N m ρ0 ρ S tm a w) (k' : κ) (hp : pre k') (hμ : μ k' < μ k) (js : List Nat) (S1 : List It) (tm1 : List (Nat × AV)) (hs1 : Sk k' = S1) (ht1 : Tk k' = tm1)
  (hb : W9 m js S1 tm1 = true) (hS : js.map (t4 S) = S1.map (It.ren (nth js))) (ht : (tm1.map (·.1)).map (B3 tm) = tm1.map fun p => some (p.2.ren (nth js))) :
  ∃ k' ρ', pre k' ∧ μ k' < μ k ∧ B4 φ ψ w0 F N m ρ0 ρ' (Sk k') (Tk k') a w := by
 subst hs1; subst ht1
 exact ⟨k', _, hp, hμ, Inn.sel G js _ _ hb hS ht⟩
theorem B4.len (G : B4 φ ψ w0 F N m ρ0 ρ S tm a w) (i : Nat) {d : D} (h : itD (t4 S i) = some d) : d.len ≤ 9223372036854775807 := by
 obtain ⟨_, cap, _, h1, h2, _⟩ := G.mem.sliceAt h
 unfold maxLen at h2; omega
end
def dkP (t : TypeId) : Nat :=
 if natEq t 3 then 1 else
 if natEq t 4 then 2 else
 if natEq t 5 then 3 else
 if natEq t 9 then 4 else
if natEq t 166 then 5 else
if natEq t 54 then 6 else
 if natEq t 23 then 7 else
if natEq t 42 then 8 else
if natEq t 59 then 9 else
if natEq t 161 then 10 else
 0
abbrev eA (e : b7) (r : Nat) : AV := .agg [.v (.int .i64 e.kind), .v (.int .i64 e.value), .ref r]
abbrev eS (e : b7) : List It := [.dat (.exprs e.kids)]
abbrev sA (s : b6) (r : Nat) : AV := .agg [.v (.int .i64 s.kind), .v (.int .i64 s.target), .v (.int .i64 s.index.kind), .v (.int .i64 s.index.value), .ref r, .v (.int .i64 s.value.kind), .v (.int .i64 s.value.value), .ref (r + 1), .v (.int .i64 s.count), .ref (r + 2), .ref (r + 3)]
abbrev sS (s : b6) : List It := [.dat (.exprs s.index.kids), .dat (.exprs s.value.kids), .dat (.stmts s.body), .dat (.stmts s.els)]
abbrev pA (r : Nat) : AV := .agg [.ref r, .ref (r + 1), .ref (r + 2)]
abbrev pS (p : l9) : List It := [.dat (.ints p.vars), .dat (.ints p.arrays), .dat (.stmts p.body)]
abbrev iA (n : Int) : AV := .v (.int .i64 n)
abbrev bA (b : Bool) : AV := .v (.bool b)
abbrev L4 (f : FuncId) (args : List AV) (S : List It) (res : AV) : t6 := ⟨f, args, S, S, res⟩
abbrev dI (l : List Int) : It := .dat (.ints l)
abbrev dV (l : List (Int × Int)) : It := .dat (.events l)
abbrev dR (l : List (List Int)) : It := .dat (.rows l)
abbrev dE (l : List b7) : It := .dat (.exprs l)
abbrev dT (l : List b6) : It := .dat (.stmts l)
abbrev eL (e : b7) (r : Nat) : List AV := [.v (.int .i64 e.kind), .v (.int .i64 e.value), .ref r]
abbrev sL (s : b6) (r : Nat) : List AV := [.v (.int .i64 s.kind), .v (.int .i64 s.target), .v (.int .i64 s.index.kind), .v (.int .i64 s.index.value), .ref r, .v (.int .i64 s.value.kind), .v (.int .i64 s.value.value), .ref (r + 1), .v (.int .i64 s.count), .ref (r + 2), .ref (r + 3)]
abbrev pL (r : Nat) : List AV := [.ref r, .ref (r + 1), .ref (r + 2)]
section
variable {P : Program} {ι : Type} {φ ψ : Nat → Prop} {w0 w w' : World} {F : ι → Rs} {ρ ρ0 : Nat → Value} {N m n : Nat} {S : List It} {tm : List (Nat × AV)} {a : Act} {Q : Exit → Act → World → Prop}
end
theorem b7.eta (e : b7) : (⟨e.kind, e.value, e.kids⟩ : b7) = e := by cases e; rfl
theorem b6.eta (s : b6) : (⟨s.kind, s.target, s.index, s.value, s.count, s.body, s.els⟩ : b6) = s := by cases s; rfl
section
variable {ι : Type} {P : Program} {φ ψ : Nat → Prop} {w0 w : World} {F : ι → Rs} {N m : Nat} {ρ0 ρ : Nat → Value} {S : List It} {tm : List (Nat × AV)} {a : Act}
theorem rxr {fn : Func} {c : t6} (G : B4 φ ψ w0 F N c.pre.length ρ0 ρ S tm a w) (js : List Nat) (hS : js.map (t4 S) = c.post.map (It.ren (nth js)) := by kernel_rfl) (h : ay7 P fn tm S = some (c.res.ren (nth js)) := by kernel_rfl) (hb : W9 c.pre.length js c.post [] = true := by kernel_rfl) : bodyPost P fn (aD2 φ ψ w0 F ρ0 c) .ret a w := al2 G js h hb hS rfl
theorem bd1 {fn : Func} {c : t6} (G : B4 φ ψ w0 F N c.pre.length ρ0 ρ S tm a w) (js : List Nat) (hS : js.map (t4 S) = c.post.map (It.ren (nth js)) := by kernel_rfl) (h : ay7 P fn tm S = some (c.res.ren (nth js)) := by kernel_rfl) (hb : W9 c.pre.length js c.post [] = true := by kernel_rfl) : bodyPost P fn (aD2 φ ψ w0 F ρ0 c) .normal a w := al2 G js h hb hS rfl
theorem rxv {fn : Func} {c : t6} (v : AV) (G : B4 φ ψ w0 F N c.pre.length ρ0 ρ S tm a w) (js : List Nat) (hv : v = c.res.ren (nth js)) (hS : js.map (t4 S) = c.post.map (It.ren (nth js)) := by kernel_rfl) (h : ay7 P fn tm S = some v := by kernel_rfl) (hb : W9 c.pre.length js c.post [] = true := by kernel_rfl) : bodyPost P fn (aD2 φ ψ w0 F ρ0 c) .ret a w := al2 G js h hb hS hv
theorem rxn {κ : Type} {pre : κ → Prop} {μ : κ → Nat} {Sk : κ → List It} {Tk : κ → List (Nat × AV)} {k : κ} (G : B4 φ ψ w0 F N m ρ0 ρ S tm a w) (k' : κ) (hp : pre k') (hμ : μ k' < μ k) (js : List Nat) (hS : js.map (t4 S) = (Sk k').map (It.ren (nth js)) := by kernel_rfl) (ht : ((Tk k').map (·.1)).map (B3 tm) = (Tk k').map (fun p => some (p.2.ren (nth js))) := by kernel_rfl) (hb : W9 m js (Sk k') (Tk k') = true := by kernel_rfl) : ∃ k' ρ', pre k' ∧ μ k' < μ k ∧ B4 φ ψ w0 F N m ρ0 ρ' (Sk k') (Tk k') a w := aZ4 G k' hp hμ js _ _ rfl rfl hb hS ht
theorem B5 {fn : Func} {f : FuncId} {args : List AV} {pre post : List It} {x : Bool} (y : Bool) (G : B4 φ ψ w0 F N pre.length ρ0 ρ S tm a w) (js : List Nat) (e : x = y) (hS : js.map (t4 S) = post.map (It.ren (nth js)) := by kernel_rfl) (h : ay7 P fn tm S = some (bA y) := by kernel_rfl) (hb : W9 pre.length js post [] = true := by kernel_rfl) : bodyPost P fn (aD2 φ ψ w0 F ρ0 ⟨f, args, pre, post, bA x⟩) .ret a w := al2 (c := ⟨f, args, pre, post, bA x⟩) G js h hb hS (by rw [e]; rfl)
theorem Y6 {fn : Func} {f : FuncId} {args : List AV} {pre post : List It} {x : Int} (y : Int) (G : B4 φ ψ w0 F N pre.length ρ0 ρ S tm a w) (js : List Nat) (e : x = y) (hS : js.map (t4 S) = post.map (It.ren (nth js)) := by kernel_rfl) (h : ay7 P fn tm S = some (iA y) := by kernel_rfl) (hb : W9 pre.length js post [] = true := by kernel_rfl) : bodyPost P fn (aD2 φ ψ w0 F ρ0 ⟨f, args, pre, post, iA x⟩) .ret a w := al2 (c := ⟨f, args, pre, post, iA x⟩) G js h hb hS (by rw [e]; rfl)
end
abbrev wO (x : Int) : Prop := IntKind.i64.wrap x = x
theorem oW {x : Int} (h : -9223372036854775808 ≤ x ∧ x ≤ 9223372036854775807) : wO x := w64 h.1 h.2
theorem o1 {x : Int} (h : -9223372036854775808 ≤ x ∧ x ≤ 9223372036854775807) : v7 [wO x] := ⟨oW h, bf4⟩
theorem o2 {x y : Int} (h : (-9223372036854775808 ≤ x ∧ x ≤ 9223372036854775807) ∧ -9223372036854775808 ≤ y ∧ y ≤ 9223372036854775807) : v7 [wO x, wO y] := ⟨oW h.1, oW h.2, bf4⟩
theorem o3 {x y z : Int} (h : (-9223372036854775808 ≤ x ∧ x ≤ 9223372036854775807) ∧ (-9223372036854775808 ≤ y ∧ y ≤ 9223372036854775807) ∧ -9223372036854775808 ≤ z ∧ z ≤ 9223372036854775807) : v7 [wO x, wO y, wO z] := ⟨oW h.1, oW h.2.1, oW h.2.2, bf4⟩
theorem o4 {x y z u : Int} (h : (-9223372036854775808 ≤ x ∧ x ≤ 9223372036854775807) ∧ (-9223372036854775808 ≤ y ∧ y ≤ 9223372036854775807) ∧ (-9223372036854775808 ≤ z ∧ z ≤ 9223372036854775807) ∧ -9223372036854775808 ≤ u ∧ u ≤ 9223372036854775807) : v7 [wO x, wO y, wO z, wO u] := ⟨oW h.1, oW h.2.1, oW h.2.2.1, oW h.2.2.2, bf4⟩
abbrev aP (n b : Nat) (r : List Prop) : List Prop := (n ≤ 9223372036854775807) :: (n * b ≤ 140737488355328) :: r
theorem aK {n b : Nat} {r : List Prop} (h : n ≤ 100000000000) (k : v7 r) (hb : b ≤ 1000 := by decide) : v7 (aP n b r) := ⟨by omega, bi1 (Nat.mul_le_mul h hb) (by decide), k⟩
abbrev iX (x : Int) (n l : Nat) (r : List Prop) : List Prop := (0 ≤ x) :: (x < (l : Int)) :: (n < l) :: r
theorem iK {x : Int} {n l : Nat} {r : List Prop} (h : 0 ≤ x ∧ x < (l : Int) ∧ n < l) (k : v7 r) : v7 (iX x n l r) := ⟨h.1, h.2.1, h.2.2, k⟩
abbrev mR (js : List Nat) (l : List It) : List It := List.map (It.ren (nth js)) l
theorem fz : K3 [] := bf4
theorem fc {a b : Bool} {r : List (Bool × Bool)} (h : a = b) (k : K3 r) : K3 ((a, b) :: r) := ⟨h, k⟩
abbrev qzE (e : b7) : b7 := b7.mk e.kind e.value e.kids
def kL (P : Program) (N m : Nat) (l : List Oper) (H : L7) (tm : List (Nat × AV)) (S : List It) (js : List Nat) (S1 : List It) (t1 : List (Nat × AV)) := ((O3 P dkP N l H l 0 tm (t4 S) S.length).isSome && W9 m js S1 t1, az1 (O3 P dkP N l H l 0 tm (t4 S) S.length) js (t1.map (·.1)))
def kR (P : Program) (N : Nat) (l : List Oper) (H : L7) (tm : List (Nat × AV)) (S : List It) (o : List Prop) (js : List Nat) (S1 : List It) (t1 : List (Nat × AV)) := (true, aF6 (O3 P dkP N l H l 0 tm (t4 S) S.length) o js S1 t1)
def kM (P : Program) (N m : Nat) (l : List Oper) (H : L7) (ms : List Nat) (tm : List (Nat × AV)) (S : List It) (js : List Nat) (S1 : List It) (t1 : List (Nat × AV)) := (aK5 l ms S.length (t4 S) (O3 P dkP N l H l 0 tm (t4 S) S.length) && W9 m js S1 t1, az1 (O3 P dkP N l H l 0 tm (t4 S) S.length) js (t1.map (·.1)))
theorem M7 {P : Program} {c : t6} {fn : Func} {code : Code} (N : Nat) (hf : P.funcs[c.f]? = some fn) (S : List It) (tm : List (Nat × AV)) (k : ∀ {ι : Type} {φ ψ : Nat → Prop} {w0 w : World} {F : ι → Rs} {ρ0 ρ : Nat → Value} {a : Act}, B4 φ ψ w0 F N c.pre.length ρ0 ρ S tm a w → code.wp P (bodyPost P fn (aD2 φ ψ w0 F ρ0 c)) a w) (hb : fn.body = some code := by rfl) (hN : (fn.ntmps, c.pre, ao4 0 c.args) = (N, S, tm) := by kernel_rfl) (hw : (wfB c.pre (ao4 0 c.args) && decide (c.args.length ≤ N)) = true := by kernel_rfl) : c.ok P := by
 simp only [Prod.mk.injEq] at hN
 obtain ⟨h1, h2, h3⟩ := hN
 exact aR4 N hf hb h1 hw fun φ ψ w0 w F ρ0 ρ a G => k (ρ := ρ) (G.as S tm h2 h3)
def aT (x y : List (Nat × AV)) : List (Nat × AV) := x ++ y.filter fun p => !(x.any fun q => natEq q.1 p.1)
def HH (P : Program) (H : L7) : Prop := (∀ i c τ, I3 H.calls i = some (c, τ) → c.ok P) ∧ K3 H.facts
theorem l6 {P : Program} : HH P ⟨[], [], []⟩ := ⟨Z3, bf4⟩
theorem Q6 {P : Program} {c : t6} (i : Nat) (σ : List Nat) (h : c.ok P) : HH P ⟨[(i, c, σ)], [], []⟩ := ⟨an5 h Z3, bf4⟩
theorem N0 {P : Program} {f : List (Bool × Bool)} (h : K3 f) (u : List (Nat × Nat)) : HH P ⟨[], f, u⟩ := ⟨Z3, h⟩
def Cs (P : Program) (r : List (Nat × t6 × List Nat)) : Prop := ∀ i c τ, I3 r i = some (c, τ) → c.ok P
theorem E2 {P : Program} : Cs P [] := Z3
theorem A1 {P : Program} {c : t6} {r : List (Nat × t6 × List Nat)} (i : Nat) (σ : List Nat) (h : c.ok P) (k : Cs P r) : Cs P ((i, c, σ) :: r) := an5 h k
theorem E3 {P : Program} {r : List (Nat × t6 × List Nat)} {f : List (Bool × Bool)} (h : Cs P r) (h' : K3 f) (u : List (Nat × Nat)) : HH P ⟨r, f, u⟩ := ⟨h, h'⟩
section
variable {ι : Type} {P : Program} {φ ψ : Nat → Prop} {w0 w : World} {F : ι → Rs} {N m : Nat} {ρ0 ρ : Nat → Value} {S : List It} {tm : List (Nat × AV)} {a : Act} {l : List Oper} {id : Nat} {Q : Exit → Act → World → Prop} {H : L7}
theorem rA1 (G : B4 φ ψ w0 F N m ρ0 ρ S tm a w) (hh : HH P H) (js : List Nat) (S1 : List It) (t1 : List (Nat × AV)) (o : List Prop) (ho : v7 o) (k : ∀ {ρ' a' w'}, B4 φ ψ w0 F N m ρ0 ρ' S1 t1 a' w' → Q .normal a' w') (h : kL P N m l H tm S js S1 t1 = kR P N l H tm S o js S1 t1 := by kernel_rfl) : (Code.region id l.toArray false).wp P Q a w := rs1 (dk := dkP) G H hh.1 hh.2 js S1 t1 o ho (fun _ _ _ => k) (congrArg Prod.fst h) (congrArg Prod.snd h)
theorem B6 (G : B4 φ ψ w0 F N m ρ0 ρ S tm a w) (hh : HH P H) (js : List Nat) (S1 : List It) (t1 : List (Nat × AV)) (k : ∀ {ρ' a' w'}, B4 φ ψ w0 F N m ρ0 ρ' S1 t1 a' w' → Q .normal a' w') (h : kL P N m l H tm S js S1 t1 = kR P N l H tm S [] js S1 t1 := by kernel_rfl) : (Code.region id l.toArray false).wp P Q a w := rA1 G hh js S1 t1 [] bf4 k h
theorem rB1 (G : B4 φ ψ w0 F N m ρ0 ρ S tm a w) (hh : HH P H) (t1 : List (Nat × AV)) (o : List Prop) (ho : v7 o) (k : ∀ {ρ' a' w'}, B4 φ ψ w0 F N m ρ0 ρ' S t1 a' w' → Q .normal a' w') (h : kL P N m l H tm S (bg0 S.length) S t1 = kR P N l H tm S o (bg0 S.length) S t1 := by kernel_rfl) : (Code.region id l.toArray false).wp P Q a w := rs1 (dk := dkP) G H hh.1 hh.2 (bg0 S.length) S t1 o ho (fun _ _ _ => k) (congrArg Prod.fst h) (congrArg Prod.snd h)
theorem O5 (G : B4 φ ψ w0 F N m ρ0 ρ S tm a w) (hh : HH P H) (t1 : List (Nat × AV)) (k : ∀ {ρ' a' w'}, B4 φ ψ w0 F N m ρ0 ρ' S t1 a' w' → Q .normal a' w') (h : kL P N m l H tm S (bg0 S.length) S t1 = kR P N l H tm S [] (bg0 S.length) S t1 := by kernel_rfl) : (Code.region id l.toArray false).wp P Q a w := rB1 G hh t1 [] bf4 k h
theorem J6 (G : B4 φ ψ w0 F N m ρ0 ρ S tm a w) (hh : HH P H) (t1 : List (Nat × AV)) (o : List Prop) (ho : v7 o) (k : ∀ {ρ' a' w'}, B4 φ ψ w0 F N m ρ0 ρ' S (aT t1 tm) a' w' → Q .normal a' w') (h : kL P N m l H tm S (bg0 S.length) S (aT t1 tm) = kR P N l H tm S o (bg0 S.length) S (aT t1 tm) := by kernel_rfl) : (Code.region id l.toArray false).wp P Q a w := rs1 (dk := dkP) G H hh.1 hh.2 (bg0 S.length) S (aT t1 tm) o ho (fun _ _ _ => k) (congrArg Prod.fst h) (congrArg Prod.snd h)
theorem n6 (G : B4 φ ψ w0 F N m ρ0 ρ S tm a w) (hh : HH P H) (t1 : List (Nat × AV)) (k : ∀ {ρ' a' w'}, B4 φ ψ w0 F N m ρ0 ρ' S (aT t1 tm) a' w' → Q .normal a' w') (h : kL P N m l H tm S (bg0 S.length) S (aT t1 tm) = kR P N l H tm S [] (bg0 S.length) S (aT t1 tm) := by kernel_rfl) : (Code.region id l.toArray false).wp P Q a w := J6 G hh t1 [] bf4 k h
theorem aM2 (G : B4 φ ψ w0 F N m ρ0 ρ S tm a w) (hh : HH P H) (ms : List Nat) (js : List Nat) (S1 : List It) (t1 : List (Nat × AV)) (o : List Prop) (ho : v7 o) (k : ∀ {ρ' a' w'}, B4 φ ψ w0 F N m ρ0 ρ' S1 t1 a' w' → Q .normal a' w') (hm : P.follows .mixedOrders = true := by kernel_rfl) (h : kM P N m l H ms tm S js S1 t1 = kR P N l H tm S o js S1 t1 := by kernel_rfl) : (Code.region id l.toArray true).wp P Q a w := rd1 (dk := dkP) G H hh.1 hh.2 ms js S1 t1 o ho (fun _ _ _ => k) hm (congrArg Prod.fst h) (congrArg Prod.snd h)
theorem a70 (G : B4 φ ψ w0 F N m ρ0 ρ S tm a w) (hh : HH P H) (ms : List Nat) (js : List Nat) (S1 : List It) (t1 : List (Nat × AV)) (k : ∀ {ρ' a' w'}, B4 φ ψ w0 F N m ρ0 ρ' S1 t1 a' w' → Q .normal a' w') (hm : P.follows .mixedOrders = true := by kernel_rfl) (h : kM P N m l H ms tm S js S1 t1 = kR P N l H tm S [] js S1 t1 := by kernel_rfl) : (Code.region id l.toArray true).wp P Q a w := aM2 G hh ms js S1 t1 [] bf4 k hm h
theorem bd6 (G : B4 φ ψ w0 F N m ρ0 ρ S tm a w) (hh : HH P H) (ms : List Nat) (t1 : List (Nat × AV)) (o : List Prop) (ho : v7 o) (k : ∀ {ρ' a' w'}, B4 φ ψ w0 F N m ρ0 ρ' S t1 a' w' → Q .normal a' w') (hm : P.follows .mixedOrders = true := by kernel_rfl) (h : kM P N m l H ms tm S (bg0 S.length) S t1 = kR P N l H tm S o (bg0 S.length) S t1 := by kernel_rfl) : (Code.region id l.toArray true).wp P Q a w := rd1 (dk := dkP) G H hh.1 hh.2 ms (bg0 S.length) S t1 o ho (fun _ _ _ => k) hm (congrArg Prod.fst h) (congrArg Prod.snd h)
theorem ba0 (G : B4 φ ψ w0 F N m ρ0 ρ S tm a w) (hh : HH P H) (ms : List Nat) (t1 : List (Nat × AV)) (k : ∀ {ρ' a' w'}, B4 φ ψ w0 F N m ρ0 ρ' S t1 a' w' → Q .normal a' w') (hm : P.follows .mixedOrders = true := by kernel_rfl) (h : kM P N m l H ms tm S (bg0 S.length) S t1 = kR P N l H tm S [] (bg0 S.length) S t1 := by kernel_rfl) : (Code.region id l.toArray true).wp P Q a w := bd6 G hh ms t1 [] bf4 k hm h
theorem at6 (G : B4 φ ψ w0 F N m ρ0 ρ S tm a w) (hh : HH P H) (ms : List Nat) (t1 : List (Nat × AV)) (o : List Prop) (ho : v7 o) (k : ∀ {ρ' a' w'}, B4 φ ψ w0 F N m ρ0 ρ' S (aT t1 tm) a' w' → Q .normal a' w') (hm : P.follows .mixedOrders = true := by kernel_rfl) (h : kM P N m l H ms tm S (bg0 S.length) S (aT t1 tm) = kR P N l H tm S o (bg0 S.length) S (aT t1 tm) := by kernel_rfl) : (Code.region id l.toArray true).wp P Q a w := rd1 (dk := dkP) G H hh.1 hh.2 ms (bg0 S.length) S (aT t1 tm) o ho (fun _ _ _ => k) hm (congrArg Prod.fst h) (congrArg Prod.snd h)
theorem aS1 (G : B4 φ ψ w0 F N m ρ0 ρ S tm a w) (hh : HH P H) (ms : List Nat) (t1 : List (Nat × AV)) (k : ∀ {ρ' a' w'}, B4 φ ψ w0 F N m ρ0 ρ' S (aT t1 tm) a' w' → Q .normal a' w') (hm : P.follows .mixedOrders = true := by kernel_rfl) (h : kM P N m l H ms tm S (bg0 S.length) S (aT t1 tm) = kR P N l H tm S [] (bg0 S.length) S (aT t1 tm) := by kernel_rfl) : (Code.region id l.toArray true).wp P Q a w := at6 G hh ms t1 [] bf4 k hm h
variable {c : Nat} {x y : Code}
theorem rcB {b : Bool} (G : B4 φ ψ w0 F N m ρ0 ρ S tm a w) (f : b = false → y.wp P Q a w) (t : b = true → x.wp P Q a w) (h : B3 tm c = some (.v (.bool b)) := by rfl) : (Code.cond (.tmp c) x y).wp P Q a w := Y5 G b h t f
theorem rcE {α : Type} [BEq α] [LawfulBEq α] {u v : α} (G : B4 φ ψ w0 F N m ρ0 ρ S tm a w) (f : (u == v) = false → u ≠ v → y.wp P Q a w) (t : (u == v) = true → u = v → x.wp P Q a w) (h : B3 tm c = some (.v (.bool (u == v))) := by rfl) : (Code.cond (.tmp c) x y).wp P Q a w := Y5 G _ h (fun q => t q (eq_of_beq q)) fun q => f q (ne_of_beq_false q)
theorem rcN {α : Type} [BEq α] [LawfulBEq α] {u v : α} (G : B4 φ ψ w0 F N m ρ0 ρ S tm a w) (f : (u != v) = false → u = v → y.wp P Q a w) (t : (u != v) = true → u ≠ v → x.wp P Q a w) (h : B3 tm c = some (.v (.bool (u != v))) := by rfl) : (Code.cond (.tmp c) x y).wp P Q a w := Y5 G _ h (fun q => t q (bne_iff_ne.1 q)) fun q => f q (bne_eq_false_iff_eq.1 q)
theorem rcD {p : Prop} [Decidable p] (G : B4 φ ψ w0 F N m ρ0 ρ S tm a w) (f : decide p = false → ¬ p → y.wp P Q a w) (t : decide p = true → p → x.wp P Q a w) (h : B3 tm c = some (.v (.bool (decide p))) := by rfl) : (Code.cond (.tmp c) x y).wp P Q a w := Y5 G _ h (fun q => t q (dTt q)) fun q => f q (dFf q)
end
section
variable {P : Program} {f : FuncId}
theorem N1 {args : List AV} {S : List It} {x : Value} (h : ∀ (φ : Nat → Prop) (w : World) (ρ : Nat → Value), (∀ i d, t4 S i = .dat d → RD w φ d (ρ i)) → Calls P f (AV.vals ρ args).toArray w fun e w' => e = .returned x ∧ Below w.heap.size w w') : t6.ok P (L4 f args S (.v x)) := by
 intro ι φ ψ w0 w F ρ M
 refine (h (R6 φ (n7 F ρ (t4 S))) w ρ fun i d hi => M.datAt hi).mono ?_
 rintro e w' ⟨rfl, hb⟩
 exact ⟨ρ, fun _ _ => rfl, rfl, M.call hb⟩
end
theorem aI8 {w : World} {φ : Nat → Prop} {d : D} {v : Value} (h : RD w φ d v) : ∃ a cap, v = .slice a d.len cap ∧ d.len ≤ 9223372036854775807 := by
 obtain ⟨a, cap, h1, h2, h3, _⟩ := h.open
 unfold maxLen at h3
 exact ⟨a, cap, h1, by omega⟩
theorem A3 (n lo hi : Int) : t6.ok Try.prog (L4 143 [iA n, iA lo, iA hi] [] (bA (decide (lo ≤ n) && decide (n ≤ hi)))) :=
 N1 fun φ w ρ _ => (C0 n lo hi w).mono fun e w' h => ⟨h.1, h.2 ▸ Below.refl _ _⟩
theorem ag6 (p : l9) : t6.ok Try.prog (L4 140 [pA 0] (pS p) (bA (H7 p.vars p.arrays))) :=
 N1 fun φ w ρ h => as6 (ρ 0) (ρ 1) (ρ 2) _ _ w (B2.row (h 0 _ rfl)) (B2.row (h 1 _ rfl))
theorem ao1 (vs ars : List Int) : t6.ok Try.prog (L4 69 [.ref 0, .ref 1] [.dat (.ints vs), .dat (.ints ars)] (bA (H7 vs ars))) :=
 N1 fun φ w ρ h => (ap4 (ρ 0) (ρ 1) _ _ w (B2.row (h 0 _ rfl)) (B2.row (h 1 _ rfl))).mono fun e w' h => ⟨h.1, h.2 ▸ Below.refl _ _⟩
theorem L6 (p : l9) (e : b7) : t6.ok Try.prog (L4 92 [pA 0, eA e 3] (pS p ++ eS e) (bA (l8 p.vars.length p.arrays.length e))) :=
 N1 fun φ w ρ h => by
  obtain ⟨a1, c1, h1, l1⟩ := aI8 (h 0 _ rfl)
  obtain ⟨a2, c2, h2, l2⟩ := aI8 (h 1 _ rfl)
  simp only [AV.vals, AV.val, h1, h2]
  exact aM8 a1 a2 _ c1 _ c2 (ρ 2) l1 l2 e φ _ w ⟨_, rfl, h 3 _ rfl⟩
theorem ag8 (e : b7) : t6.ok Try.prog (L4 191 [eA e 0] (eS e) (bA (J5 e))) :=
 N1 fun φ w ρ h => ad6 e.kind e.value (ρ 0) w
theorem aG1 (s : b6) : nS s = 1 + nSs s.body + nSs s.els := by cases s; simp only [nS]; rfl
theorem U0 {nv na d : Nat} {s : b6} (h : s9 nv na (d + 1) s = true) : s.body.all (s9 nv na d) = true ∧ s.els.all (s9 nv na d) = true := by
 rw [s9, bf0] at h
 obtain ⟨h1, h2⟩ := h
 unfold t2 at h1
 by_cases k3 : s.kind = 3
 ·rw [if_neg (by omega), if_neg (by omega), if_pos k3] at h2
  simp only [bf0] at h2
  exact ⟨h2.1.2, h2.2⟩
 by_cases k4 : s.kind = 4
 ·rw [if_neg (by omega), if_neg (by omega), if_neg (by omega), if_pos k4] at h2
  rw [if_pos (.inr k4), if_pos k4] at h1
  simp only [bf0, decide_eq_true_eq] at h1
  exact ⟨h2, by rw [List.eq_nil_of_length_eq_zero h1.2.1.1.1.1]; rfl⟩
 ·rw [if_neg (by omega)] at h1
  simp only [bf0, decide_eq_true_eq] at h1
  exact ⟨by rw [List.eq_nil_of_length_eq_zero h1.1.1.1]; rfl, by rw [List.eq_nil_of_length_eq_zero h1.1.1.2]; rfl⟩
theorem aq2 (s : b6) : t7 s.body ≤ szS s ∧ t7 s.els ≤ szS s := by
 rcases s with ⟨_, _, _, _, _, b, e⟩
 simp only [szS, b6.body, b6.els]
 omega
theorem aA8 {nv na : Nat} : ∀ {ss : List b6}, (∀ s ∈ ss, s9 nv na 1 s = true) → nSs ss = ss.length
 | [], _ => rfl
 | s :: r, h => by
  have h1 := U0 (h s bg2)
  have key : ∀ l : List b6, l.all (s9 nv na 0) = true → l = [] := fun l hl => by
   cases l with
   | nil => rfl
   | cons a r => simp [s9] at hl
  have h2 := aA8 (ss := r) fun x hx => h x (bg5 _ hx)
  rw [nSs, aG1, key _ h1.1, key _ h1.2, h2]
  simp [nSs]; omega
def bc6 (x y : Int) : Int := IntKind.i64.wrap ((BitVec.ofInt (IntKind.bits .i64) x ^^^ BitVec.ofInt (IntKind.bits .i64) y).toNat : Int)
theorem t6.dup {P : Program} {f : FuncId} {args args' : List AV} {S S' : List It} {d : D} {res : AV} {i : Nat} (hc : t6.ok P ⟨f, args, S ++ [.dat d], S' ++ [.dat d], res⟩) (hi : S[i]? = some (.dat d)) (hl : S'.length = S.length)
  (hS : S.all (fun x => T0 S.length x.ids) = true) (ha : ∀ ρ : Nat → Value, ρ S.length = ρ i → AV.vals ρ args = AV.vals ρ args') (hg : T0 S.length (AV.idsL args') = true) : t6.ok P ⟨f, args', S, S', res⟩ := by
 intro ι φ ψ w0 w F ρ M
 have hi' : t4 S i = .dat d := by simp [t4, hi]
 have hlt : i < S.length := (bf3.1 hi).1
 have hinv : Inv (t4 S) ρ [S.length] := fun ρ' h j => by
  by_cases hj : j < S.length
  ·refine It.res_congr _ (fun k hk => h k ?_) (.inr (.inr (h j (by simp; omega))))
   have h1 := G6 (bf9.1 hS (S[j]) (bg4 hj)) k (by simpa [t4, bf2, be9 hj] using hk)
   simp; omega
  ·rw [show t4 S j = .none by simp only [t4, bf2, bh4 (Nat.le_of_not_lt hj)]; rfl]; rfl
 obtain ⟨ρ', h1, M1, h2⟩ := M.newDat (id := S.length) (by simp [t4]) hinv (M.datAt hi')
 have e : s0 (t4 S) [(S.length, .dat d)] = t4 (S ++ [.dat d]) := by
  funext j
  simp only [s0, t4, bf2]
  by_cases hj : j = S.length
  ·subst hj; simp
  ·rw [if_neg hj]
   by_cases hj2 : j < S.length
   ·rw [bh5 hj2]
   ·rw [bh4 (by omega), bh4 (by simp; omega)]
 rw [e] at M1
 have hρ : ρ' i = ρ i := h1 i (by simp; omega)
 have ea : AV.vals ρ args' = AV.vals ρ' args := by
  rw [ha ρ' (by rw [← h2, hρ])]
  exact (AV.vals_congr _ fun k hk => by
   have := G6 hg k hk
   exact h1 k (by simp; omega)).symm
 simp only
 rw [ea]
 refine (hc ι φ ψ w0 w F ρ' M1).mono ?_
 rintro x w' ⟨ρ2, g1, g2, M2⟩
 refine ⟨ρ2, fun k hk => ?_, g2, ?_⟩
 ·rw [g1 k (by simp; omega)]; exact h1 k (by simp; omega)
 ·refine M2.map (fun k => match k with | .inl i => some (.inl i) | .inr j => if j < S'.length then some (.inr j) else none) ?_ ?_
  ·intro k k' x h1 h2
   match k, k' with
   | .inl i, .inl i' => simp at h1 h2; rw [h1, h2]
   | .inl i, .inr j => simp at h1; subst h1; simp at h2
   | .inr j, .inl i => simp at h2; subst h2; simp at h1
   | .inr j, .inr j' => simp at h1 h2; rw [← h1.2] at h2; rw [Sum.inr.inj h2.2]
  ·intro k
   match k with
   | .inl i => exact .inl ⟨.inl i, rfl, rfl⟩
   | .inr j =>
    by_cases hj : j < S'.length
    ·refine .inl ⟨.inr j, by simp [hj], ?_⟩
     simp only [n7, t4, bf2, bh5 hj]
    ·refine .inr ?_
     simp only [n7, t4, bf2, bh4 (Nat.le_of_not_lt hj)]
     rfl
def pkX (b : List UInt8) (k : Int) : Int := ((b.getD (k.tmod b.length).toNat 0).toNat : Int) * 131 + ((b.getD ((k * 7 + 3).tmod b.length).toNat 0).toNat : Int) * 1117 + k * 29 + k.tdiv b.length * 53
def pk (b : List UInt8) (k n : Int) : Int :=
 if n < 1 ∨ b.length = 0 then 0 else if k < b.length then ((b.getD k.toNat 0).toNat : Int).tmod n else (bc6 (pkX b k) ((pkX b k).tdiv 64)).tmod n
def nm (b : List UInt8) (k : Int) (l : List Int) : Int := l.getD (pk b k l.length).toNat 0
section
variable (b : List UInt8) (nv na : Nat) {k : Int}
end
mutual
def AV.den (t : Bool) (n : Nat) : AV → AV
 | .v x => .v x
 | .ptr a b => .ptr a b
 | .ea a b c d => .ea a b c d
 | .ref i => if !t && natEq i n then .v (.slice none 0 0) else .ref i
 | .agg l => .agg (AV.denL t n l)
 | .tup l => .tup (AV.denL t n l)
 | .fn f l => .fn f (AV.denL t n l)
 | .bm f l => .bm f (AV.denL t n l)
 | .tref i => if t && natEq i n then .v (.slice none 0 0) else .tref i
def AV.denL (t : Bool) (n : Nat) : List AV → List AV
 | [] => []
 | x :: r => x.den t n :: AV.denL t n r
end
def It.den (t : Bool) (n : Nat) : It → It
 | .box cs => .box (AV.denL t n cs)
 | x => x
mutual
theorem AV.val_den {ρ : Nat → Value} {t : Bool} {n : Nat} {z : Value} (hz : if t then D8 z = .slice none 0 0 else z = .slice none 0 0) : ∀ (x : AV), (∀ i ∈ (x.den t n).ids, i < n) → x.val (fun j => if j = n then z else ρ j) = (x.den t n).val ρ ∧ ∀ i ∈ x.ids, i < n + 1
 | .v _, _ => ⟨rfl, fun i hi => by simp [AV.ids] at hi⟩
 | .ptr a b, h => by
  have ha : a < n := h a (by simp [AV.den, AV.ids])
  refine ⟨?_, fun i hi => by simp [AV.ids] at hi; omega⟩
  simp only [AV.den, AV.val]
  rw [if_neg (by omega)]
 | .ea a b c d, h => by
  have ha : a < n := h a (by simp [AV.den, AV.ids])
  refine ⟨?_, fun i hi => by simp [AV.ids] at hi; omega⟩
  simp only [AV.den, AV.val]
  rw [if_neg (by omega)]
 | .ref a, h => by
  by_cases e : t = false ∧ a = n
  ·obtain ⟨rfl, rfl⟩ := e
   refine ⟨?_, fun i hi => by simp [AV.ids] at hi; omega⟩
   simp only [Bool.false_eq_true, if_false] at hz
   simp [AV.den, AV.val, natEq, hz]
  ·have hd : (AV.ref a).den t n = .ref a := by
    simp only [AV.den]
    rw [if_neg]
    simp [natEq]; intro h1 h2; exact e ⟨h1, h2⟩
   rw [hd] at h ⊢
   have ha : a < n := h a (by simp [AV.ids])
   refine ⟨?_, fun i hi => by simp [AV.ids] at hi; omega⟩
   simp only [AV.val]
   rw [if_neg (by omega)]
 | .tref a, h => by
  by_cases e : t = true ∧ a = n
  ·obtain ⟨rfl, rfl⟩ := e
   refine ⟨?_, fun i hi => by simp [AV.ids] at hi; omega⟩
   simp only [if_true] at hz
   simp [AV.den, AV.val, natEq, hz]
  ·have hd : (AV.tref a).den t n = .tref a := by
    simp only [AV.den]
    rw [if_neg]
    simp [natEq]; intro h1 h2; exact e ⟨h1, h2⟩
   rw [hd] at h ⊢
   have ha : a < n := h a (by simp [AV.ids])
   refine ⟨?_, fun i hi => by simp [AV.ids] at hi; omega⟩
   simp only [AV.val]
   rw [if_neg (by omega)]
 | .agg l, h => by
  obtain ⟨h1, h2⟩ := AV.vals_den hz l (by simpa [AV.den, AV.ids] using h)
  exact ⟨by simp only [AV.den, AV.val]; rw [h1], by simpa [AV.ids] using h2⟩
 | .tup l, h => by
  obtain ⟨h1, h2⟩ := AV.vals_den hz l (by simpa [AV.den, AV.ids] using h)
  exact ⟨by simp only [AV.den, AV.val]; rw [h1], by simpa [AV.ids] using h2⟩
 | .fn f l, h => by
  obtain ⟨h1, h2⟩ := AV.vals_den hz l (by simpa [AV.den, AV.ids] using h)
  exact ⟨by simp only [AV.den, AV.val]; rw [h1], by simpa [AV.ids] using h2⟩
 | .bm f l, h => by
  obtain ⟨h1, h2⟩ := AV.vals_den hz l (by simpa [AV.den, AV.ids] using h)
  exact ⟨by simp only [AV.den, AV.val]; rw [h1], by simpa [AV.ids] using h2⟩
theorem AV.vals_den {ρ : Nat → Value} {t : Bool} {n : Nat} {z : Value} (hz : if t then D8 z = .slice none 0 0 else z = .slice none 0 0) : ∀ (l : List AV), (∀ i ∈ AV.idsL (AV.denL t n l), i < n) → AV.vals (fun j => if j = n then z else ρ j) l = AV.vals ρ (AV.denL t n l) ∧ ∀ i ∈ AV.idsL l, i < n + 1
 | [], _ => ⟨rfl, fun i hi => by simp [AV.idsL] at hi⟩
 | x :: r, h => by
  obtain ⟨h1, h2⟩ := AV.val_den hz x fun i hi => h i (by simp only [AV.denL, AV.idsL, bg8]; exact .inl hi)
  obtain ⟨h3, h4⟩ := AV.vals_den hz r fun i hi => h i (by simp only [AV.denL, AV.idsL, bg8]; exact .inr hi)
  refine ⟨by simp only [AV.denL, AV.vals]; rw [h1, h3], fun i hi => ?_⟩
  simp only [AV.idsL, bg8] at hi
  rcases hi with hi | hi
  ·exact h2 i hi
  ·exact h4 i hi
end
theorem am4 {m : Bool} {n : Nat} {t : Nat} {x : AV} : ∀ {tm : List (Nat × AV)}, B3 tm t = some x → B3 (tm.map fun p => (p.1, p.2.den m n)) t = some (x.den m n)
 | [], h => by cases h
 | (k, y) :: r, h => by
  simp only [B3, bh1] at h ⊢
  split at h
  ·rename_i e; cases h; rw [if_pos e]
  ·rename_i e; rw [if_neg e]; exact am4 h
section
variable {P : Program} {ι : Type} {φ ψ : Nat → Prop} {w0 w : World} {F : ι → Rs} {ρ ρ0 : Nat → Value} {N m n : Nat} {S : List It} {tm : List (Nat × AV)} {a : Act}
theorem B4.nilW (G : B4 φ ψ w0 F N m ρ0 ρ S tm a w) (n : Nat) (hn : S.length = n) (b : Bool) (x : It) (z : Value) (hz : if b then D8 z = .slice none 0 0 else z = .slice none 0 0) (hids : x.ids = []) (hb : ∀ g, ¬ (x.res (fun j => if j = n then z else ρ j) n).blk g)
  (hx : ∀ φ', (x.res (fun j => if j = n then z else ρ j) n).holds w φ') (S1 : List It) (tm1 : List (Nat × AV)) (hS : S = S1.map (It.den b n)) (ht : tm = tm1.map fun p => (p.1, p.2.den b n)) :
  ∃ ρ', B4 φ ψ w0 F N m ρ0 ρ' (S1 ++ [x]) tm1 a w := by
 have hl : S1.length = n := by rw [← hn, hS, List.length_map]
 have hat : ∀ j (hj : j < n), t4 S j = (S1[j]'(by omega)).den b n := fun j hj => by
  rw [ab2 (show j < S.length by omega)]
  have h1 := congrArg (·[j]?) hS
  simp only [List.getElem?_map, be9 (show j < S.length by omega), be9 (show j < S1.length by omega), Option.map_some, Option.some.injEq] at h1
  exact h1
 have hnew : ∀ j (hj : j < n), t4 (S1 ++ [x]) j = S1[j]'(by omega) := fun j hj => by
  simp [t4, bf2, bh5 (show j < S1.length by omega), be9 (show j < S1.length by omega)]
 have hlast : t4 (S1 ++ [x]) n = x := by
  simp [t4, bf2, ← hl]
 have hout : ∀ j, n < j → t4 (S1 ++ [x]) j = .none := fun j hj => v6 (by simp; omega)
 have hbx : ∀ j (hj : j < n), ((S1[j]'(by omega)).res (fun j => if j = n then z else ρ j) j = (t4 S j).res ρ j) ∧ ∀ i ∈ (S1[j]'(by omega)).ids, i < n + 1 := fun j hj => by
  rw [hat j hj]
  have hb := (G.bd j).1
  rw [hat j hj, hn] at hb
  generalize S1[j]'(by omega) = x at *
  cases x with
  | box cs =>
   obtain ⟨h1, h2⟩ := AV.vals_den (ρ := ρ) (n := n) hz cs hb
   refine ⟨?_, h2⟩
   simp only [It.res, It.den]
   rw [h1, if_neg (show ¬ j = n by omega)]
  | none => exact ⟨rfl, fun i hi => by cases hi⟩
  | dead => exact ⟨rfl, fun i hi => by cases hi⟩
  | dat d' => exact ⟨by simp only [It.res, It.den]; rw [if_neg (show ¬ j = n by omega)], fun i hi => by cases hi⟩
  | row e' d' => exact ⟨by simp only [It.res, It.den]; rw [if_neg (show ¬ j = n by omega)], fun i hi => by cases hi⟩
  | tree d' => exact ⟨by simp only [It.res, It.den]; rw [if_neg (show ¬ j = n by omega)], fun i hi => by cases hi⟩
  | kept e' d' => exact ⟨by cases e' <;> (simp only [It.res, It.den]; rw [if_neg (show ¬ j = n by omega)]), fun i hi => by cases hi⟩
  | hole k q ls =>
   have hk : k < n := hb k (by simp [It.den, It.ids])
   exact ⟨by simp only [It.res, It.den]; rw [if_neg (show ¬ j = n by omega), if_neg (show ¬ k = n by omega)], fun i hi => by simp [It.ids] at hi; omega⟩
 have hw : ∀ t x, B3 tm1 t = some x → x.val (fun j => if j = n then z else ρ j) = (x.den b n).val ρ ∧ ∀ i ∈ x.ids, i < n + 1 := fun t x hx => by
  refine AV.val_den hz x fun i hi => ?_
  have h1 : B3 tm t = some (x.den b n) := by rw [ht]; exact am4 hx
  have := G.tmi t _ h1 i hi
  omega
 refine ⟨fun j => if j = n then z else ρ j, ?_⟩
 refine ⟨G.size, G.defs, fun t x hx => ?_, fun t x hx i hi => ?_, fun j => ⟨fun i hi => ?_, fun hj => v6 hj⟩, ?_, ?_, fun i hi => ?_⟩
 ·have h1 : B3 tm t = some (x.den b n) := by rw [ht]; exact am4 hx
  rw [(hw t x hx).1]; exact G.tmv t _ h1
 ·have := (hw t x hx).2 i hi
  simp; omega
 ·rcases Nat.lt_trichotomy j n with h | h | h
  ·rw [hnew j h] at hi
   have := (hbx j h).2 i hi
   simp; omega
  ·subst h; rw [hlast, hids] at hi; cases hi
  ·rw [hout j h] at hi; cases hi
 ·refine m0.put G.mem (.inr n) (fun k hk => ?_) (v9.refl _ _) ?_ ?_
  ·cases k with
   | inl i => rfl
   | inr j =>
    simp only [n7]
    rcases Nat.lt_trichotomy j n with h | h | h
    ·rw [hnew j h]; exact (hbx j h).1
    ·exact absurd (by rw [h]) hk
    ·rw [hout j h, v6 (show S.length ≤ j by omega)]; rfl
  ·simp only [n7, hlast]; exact hx _
  ·intro g hg
   simp only [n7, hlast] at hg
   exact absurd hg (hb g)
 ·have := G.le; simp; omega
 ·show (if i = n then _ else ρ i) = ρ0 i
  have := G.le
  rw [if_neg (by omega)]; exact G.old i hi
theorem B4.nil (G : B4 φ ψ w0 F N m ρ0 ρ S tm a w) (n : Nat) (e : TypeId) (d : D) (k : Nat) (S1 : List It) (tm1 : List (Nat × AV)) (hn : S.length = n := by kernel_rfl) (hd : D.nil k = some d := by kernel_rfl) (hS : S = S1.map (It.den false n) := by kernel_rfl) (ht : tm = tm1.map (fun p => (p.1, p.2.den false n)) := by kernel_rfl) :
  ∃ ρ', B4 φ ψ w0 F N m ρ0 ρ' (S1 ++ [.row e d]) tm1 a w := by
 have hz := D.nil_len hd
 refine G.nilW n hn false (.row e d) (.slice none 0 0) (by simp) rfl (fun g hg => ?_) (fun φ' => ?_) S1 tm1 hS ht
 ·simp only [It.res, if_true] at hg
  cases hg
 ·simp only [It.res, if_true]
  refine ⟨fun xs => RW.nice d xs, [], ?_, RW.nil hz _⟩
  rw [hz]; exact World.ownsRow_nil _ _ _ _
end
inductive Ln where
 | no
 | row (e : TypeId)
 | tree
def C7 (M : List Ln) (i : Nat) : Ln := M.getD i .no
def Ln.isT : Ln → Bool
 | .tree => true
 | _ => false
mutual
def AV.tr (M : List Ln) : AV → AV
 | .v x => .v x
 | .ptr a b => .ptr a b
 | .ea a b c d => .ea a b c d
 | .ref i => if (C7 M i).isT then .tref i else .ref i
 | .agg l => .agg (AV.trL M l)
 | .tup l => .tup (AV.trL M l)
 | .fn f l => .fn f (AV.trL M l)
 | .bm f l => .bm f (AV.trL M l)
 | .tref i => .tref i
def AV.trL (M : List Ln) : List AV → List AV
 | [] => []
 | x :: r => x.tr M :: AV.trL M r
end
mutual
def AV.trOk (M : List Ln) : AV → Bool
 | .v _ => true
 | .ptr a _ => !(C7 M a).isT
 | .ea a _ _ _ => !(C7 M a).isT
 | .ref _ => true
 | .agg l => AV.trOkL M l
 | .tup l => AV.trOkL M l
 | .fn _ l => AV.trOkL M l
 | .bm _ l => AV.trOkL M l
 | .tref i => !(C7 M i).isT
def AV.trOkL (M : List Ln) : List AV → Bool
 | [] => true
 | x :: r => x.trOk M && AV.trOkL M r
end
mutual
theorem AV.val_tr {ρ ρ' : Nat → Value} {M : List Ln} (h : ∀ i, ρ' i = if (C7 M i).isT then D8 (ρ i) else ρ i) : ∀ (x : AV), x.trOk M = true → (x.tr M).val ρ = x.val ρ'
 | .v _, _ => rfl
 | .ptr a _, hx => by
  simp only [AV.trOk, bf8] at hx
  simp only [AV.tr, AV.val]; rw [h a, hx]; rfl
 | .ea a _ _ _, hx => by
  simp only [AV.trOk, bf8] at hx
  simp only [AV.tr, AV.val]; rw [h a, hx]; rfl
 | .ref i, _ => by
  simp only [AV.tr]
  cases hm : (C7 M i).isT
  ·simp only [Bool.false_eq_true, if_false, AV.val]; rw [h i, hm]; rfl
  ·simp only [if_true, AV.val]; rw [h i, hm]; rfl
 | .agg l, hx => by simp only [AV.tr, AV.val]; rw [AV.vals_tr h l (by simpa [AV.trOk] using hx)]
 | .tup l, hx => by simp only [AV.tr, AV.val]; rw [AV.vals_tr h l (by simpa [AV.trOk] using hx)]
 | .fn _ l, hx => by simp only [AV.tr, AV.val]; rw [AV.vals_tr h l (by simpa [AV.trOk] using hx)]
 | .bm _ l, hx => by simp only [AV.tr, AV.val]; rw [AV.vals_tr h l (by simpa [AV.trOk] using hx)]
 | .tref i, hx => by
  simp only [AV.trOk, bf8] at hx
  simp only [AV.tr, AV.val]; rw [h i, hx]; rfl
theorem AV.vals_tr {ρ ρ' : Nat → Value} {M : List Ln} (h : ∀ i, ρ' i = if (C7 M i).isT then D8 (ρ i) else ρ i) : ∀ (l : List AV), AV.trOkL M l = true → AV.vals ρ (AV.trL M l) = AV.vals ρ' l
 | [], _ => rfl
 | x :: r, hx => by
  simp only [AV.trOkL, bf0] at hx
  simp only [AV.trL, AV.vals]; rw [AV.val_tr h x hx.1, AV.vals_tr h r hx.2]
end
def F0 (M : List Ln) : Ln → It → It
 | .row e, .dat d => .row e d
 | .tree, .dat d => .tree d
 | .no, .box cs => .box (AV.trL M cs)
 | _, x => x
def T1 (M : List Ln) (S : List It) : List It := (bg0 S.length).map fun i => F0 M (C7 M i) (t4 S i)
theorem am1 (M : List Ln) (S : List It) (i : Nat) : t4 (T1 M S) i = F0 M (C7 M i) (t4 S i) := by
 unfold T1
 rcases bh7 i S.length with h | h
 ·conv => lhs; rw [t4, bf2, List.getElem?_map, List.getElem?_range h]
  rfl
 ·rw [v6 (by simpa using h), v6 h]
  cases C7 M i <;> rfl
def aB0 : D → Bool
 | .rows _ => false
 | .brows _ => false
 | .exprs _ => false
 | .stmts _ => false
 | _ => true
theorem aK0 {w w' : World} {φ φ' : Nat → Prop} {d : D} {xs : List Value} (hd : aB0 d = true) (h : RW w φ d xs) : RW w' φ' d xs := by
 intro i hi j x hx
 obtain ⟨u, h1, h2⟩ := h i hi j x hx
 refine ⟨u, h1, ?_⟩
 have : ∃ y, x = .v y := by
  have hm := bf7 hx
  cases d <;> simp only [aB0, Bool.false_eq_true] at hd <;> simp [D.elem, aG4, ab7] at hm
  ·exact ⟨_, hm⟩
  ·exact ⟨_, hm⟩
  ·exact ⟨_, hm⟩
  ·exact ⟨_, hm⟩
  ·rcases hm with h | h | h | h | h <;> exact ⟨_, h⟩
  ·rcases hm with h | h <;> exact ⟨_, h⟩
 obtain ⟨y, rfl⟩ := this
 exact h2
def av0 (M : List Ln) (l : Ln) (p x : It) : Bool :=
 match l with
 | .no => match x with
  | .dat _ => (match p with | .dat _ => true | _ => false)
  | .row _ d => aB0 d
  | .box cs => AV.trOkL M cs
  | .kept _ _ => false
  | .hole _ _ _ => false
  | _ => true
 | .row _ => (match p, x with | .dat d, .dat _ => aB0 d | _, _ => false)
 | .tree => (match p, x with | .dat d, .dat _ => (ah7 d).isSome | _, _ => false)
def aS4 (M : List Ln) (l : Ln) (p : It) : Bool :=
 match l, p with
 | .no, .box cs => AV.trOkL M cs
 | .no, .hole _ _ _ => false
 | _, _ => true
def aU7 (M : List Ln) (c : t6) : Bool :=
 decide (M.length ≤ c.pre.length) && decide (c.pre.length ≤ c.post.length) && AV.trOkL M c.args && c.res.trOk M && (bg0 c.post.length).all (fun i => av0 M (C7 M i) (t4 c.pre i) (t4 c.post i)) && (bg0 c.pre.length).all fun i => aS4 M (C7 M i) (t4 c.pre i)
def Rs.snap (w : World) (r : Rs) : Rs := .own r.blk fun w' => ∀ b, r.blk b → b < w.heap.size → w'.heap[b]? = w.heap[b]?
theorem Rs.snap_holds {w : World} {φ φ' : Nat → Prop} {r : Rs} (h : r.holds w φ) : (r.snap w).holds w φ' := by
 refine ⟨fun w1 w2 h1 h2 b hb hlt => ?_, fun b _ _ => rfl, fun b hb => Rs.lt h hb⟩
 have h3 := h1 b hb hlt
 rw [h2 b hb, h3]
 have : (w1.heap[b]?).isSome = true := by rw [h3, Array.getElem?_eq_getElem hlt]; rfl
 obtain ⟨o, ho⟩ := Option.isSome_iff_exists.1 this
 exact (Array.getElem?_eq_some_iff.1 ho).1
theorem av9 : ∀ {P X : List It} {i : Nat} {d e : D}, ag3 P X = ag2 P X → t4 P i = .dat d → t4 X i = .dat e → d = e
 | P, X, i, d, e, h, h1, h2 => by
  have hp : P[i]? = some (.dat d) := by
   rcases bh7 i P.length with hl | hl
   ·rw [ab2 hl] at h1; rw [be9 hl, h1]
   ·rw [v6 hl] at h1; cases h1
  have hx : X[i]? = some (.dat e) := by
   rcases bh7 i X.length with hl | hl
   ·rw [ab2 hl] at h2; rw [be9 hl, h2]
   ·rw [v6 hl] at h2; cases h2
  exact a83 h hp hx
theorem t6.lend0 {P : Program} {c : t6} (hc : c.ok P) (M : List Ln) (hb : aU7 M c = true) (he : ag3 c.pre c.post = ag2 c.pre c.post) : t6.ok P ⟨c.f, AV.trL M c.args, T1 M c.pre, T1 M c.post, c.res.tr M⟩ := by
 simp only [aU7, bf0, decide_eq_true_eq] at hb
 obtain ⟨⟨⟨⟨⟨hM, hle⟩, hargs⟩, hres⟩, hpost⟩, hpre⟩ := hb
 have hno : ∀ i, c.pre.length ≤ i → C7 M i = .no := fun i hi => by
  unfold C7; rw [bf2, bh4 (by omega)]; rfl
 have hpo : ∀ i, av0 M (C7 M i) (t4 c.pre i) (t4 c.post i) = true := fun i => by
  rcases bh7 i c.post.length with h | h
  ·exact bf9.1 hpost i (List.mem_range.2 h)
  ·rw [hno i (by omega), v6 h]; rfl
 have hpr : ∀ i, aS4 M (C7 M i) (t4 c.pre i) = true := fun i => by
  rcases bh7 i c.pre.length with h | h
  ·exact bf9.1 hpre i (List.mem_range.2 h)
  ·rw [hno i h, v6 h]; rfl
 intro ι φ ψ w0 w F ρ MM
 let ρ1 : Nat → Value := fun i => if (C7 M i).isT then D8 (ρ i) else ρ i
 have hρ1 : ∀ i, ρ1 i = if (C7 M i).isT then D8 (ρ i) else ρ i := fun _ => rfl
 let F1 : ι → Rs := fun i => (F i).snap w
 have hLi : ∀ i, n7 F ρ (t4 (T1 M c.pre)) (.inl i) = F i := fun _ => rfl
 have hLj : ∀ j, n7 F ρ (t4 (T1 M c.pre)) (.inr j) = (F0 M (C7 M j) (t4 c.pre j)).res ρ j := fun j => by simp only [n7]; rw [am1]
 generalize hL : n7 F ρ (t4 (T1 M c.pre)) = L at MM hLi hLj
 have h1j : ∀ j, C7 M j = .no → (t4 c.pre j).res ρ1 j = L (.inr j) := fun j hl => by
  rw [hLj, hl]
  have hp := hpr j
  have e : ρ1 j = ρ j := by rw [hρ1, hl]; rfl
  cases hx : t4 c.pre j with
  | none => rfl
  | dead => rfl
  | dat d => simp only [F0, It.res]; rw [e]
  | row e' d => simp only [F0, It.res]; rw [e]
  | tree d => simp only [F0, It.res]; rw [e]
  | kept e' d => cases e' <;> (simp only [F0, It.res]; rw [e])
  | hole k i ls => rw [hl, hx] at hp; cases hp
  | box cs =>
   rw [hl, hx] at hp
   simp only [aS4] at hp
   simp only [F0, It.res]
   rw [e, AV.vals_tr hρ1 cs hp]
 have hlent : ∀ j, C7 M j ≠ .no → (∃ d, t4 c.pre j = .dat d ∧ t4 c.post j = .dat d ∧ ((∃ e, C7 M j = .row e ∧ aB0 d = true) ∨ C7 M j = .tree)) := fun j hj => by
  have h := hpo j
  cases hl : C7 M j with
  | no => exact absurd hl hj
  | row e =>
   rw [hl] at h
   simp only [av0] at h
   split at h
   ·rename_i d d' h1 h2
    exact ⟨d, h1, by rw [h2, ← av9 he h1 h2], .inl ⟨e, rfl, h⟩⟩
   ·cases h
  | tree =>
   rw [hl] at h
   simp only [av0] at h
   split at h
   ·rename_i d d' h1 h2
    exact ⟨d, h1, by rw [h2, ← av9 he h1 h2], .inr rfl⟩
   ·cases h
 have hsub : ∀ k b, (n7 F1 ρ1 (t4 c.pre) k).blk b → (L k).blk b ∧ ∀ j, k = .inr j → C7 M j = .no := fun k b hb => by
  cases k with
  | inl i => rw [hLi]; exact ⟨hb, fun j h => by cases h⟩
  | inr j =>
   by_cases hl : C7 M j = .no
   ·simp only [n7] at hb
    rw [h1j j hl] at hb
    exact ⟨hb, fun j' h => by cases h; exact hl⟩
   ·obtain ⟨d, h1, _⟩ := hlent j hl
    simp only [n7, h1, It.res] at hb
    exact hb.elim
 have hfr1 : ∀ b, R6 φ L b → R6 φ (n7 F1 ρ1 (t4 c.pre)) b := fun b hb => ⟨hb.1, fun k hk => hb.2 k (hsub k b hk).1⟩
 let ψ1 : Nat → Prop := fun b => ∀ k, ¬ (n7 F1 ρ1 (t4 c.pre) k).blk b
 have M1 : m0 φ ψ1 w w (n7 F1 ρ1 (t4 c.pre)) := by
  refine ⟨v9.refl _ _, fun b hb => MM.fresh b (bi1 MM.size hb), fun k => ?_, fun k k' b hkk h1 h2 => MM.dis k k' b hkk (hsub k b h1).1 (hsub k' b h2).1, fun k b h1 => .inr fun h => h k h1, fun k b h1 => MM.ph k b (hsub k b h1).1⟩
  cases k with
  | inl i => exact Rs.snap_holds (show (F i).holds w _ from by rw [← hLi i]; exact MM.holds (.inl i))
  | inr j =>
   by_cases hl : C7 M j = .no
   ·simp only [n7]
    rw [h1j j hl]
    exact Rs.keep (MM.holds (.inr j)) (I8.mono fun b _ hf => hfr1 b hf) fun _ _ => rfl
   ·obtain ⟨d, h1, h2, h3⟩ := hlent j hl
    have hh := MM.holds (.inr j)
    have hown : ∀ b, (L (.inr j)).blk b → R6 φ (n7 F1 ρ1 (t4 c.pre)) b := fun b hb => ⟨MM.ph _ _ hb, fun k hk => by
     obtain ⟨q1, q2⟩ := hsub k b hk
     by_cases e : k = .inr j
     ·exact hl (q2 j e)
     ·exact MM.dis k (.inr j) b e q1 hb⟩
    simp only [n7, h1, It.res]
    refine ⟨RD.nice _ _, ?_⟩
    rcases h3 with ⟨e, h3, hflat⟩ | h3
    ·rw [hLj, h3, h1] at hh
     simp only [F0, It.res] at hh
     obtain ⟨_, xs, o1, o2⟩ := hh
     have e1 : ρ1 j = ρ j := by rw [hρ1, h3]; rfl
     rw [e1]
     refine RD.make (D5 o1 fun g hg => hown g ?_) (aK0 hflat o2)
     rw [hLj, h3, h1]; exact hg
    ·rw [hLj, h3, h1] at hh
     simp only [F0, It.res] at hh
     have e1 : ρ1 j = D8 (ρ j) := by rw [hρ1, h3]; rfl
     rw [e1]
     refine A7.read hh.2.1 fun b hb => hown b ?_
     rw [hLj, h3, h1]; exact hb
 simp only
 rw [AV.vals_tr hρ1 c.args hargs]
 refine (hc ι φ ψ1 w w F1 ρ1 M1).mono ?_
 rintro x w' ⟨ρ2, g1, g2, M2⟩
 have hplen : (T1 M c.pre).length = c.pre.length := by simp [T1]
 let ρ' : Nat → Value := fun j => if j < c.pre.length then ρ j else ρ2 j
 have hρ' : ∀ j, ρ2 j = if (C7 M j).isT then D8 (ρ' j) else ρ' j := fun j => by
  show _ = if (C7 M j).isT then D8 (if j < c.pre.length then ρ j else ρ2 j) else (if j < c.pre.length then ρ j else ρ2 j)
  rcases bh7 j c.pre.length with h | h
  ·rw [if_pos h, g1 j h]
  ·rw [hno j h]
   exact (if_neg (Nat.not_lt.2 h)).symm
 have hρo : ∀ j, C7 M j ≠ .no → ρ' j = ρ j := fun j hj => by
  rcases bh7 j c.pre.length with h | h
  ·exact if_pos h
  ·exact absurd (hno j h) hj
 refine ⟨ρ', fun i hi => if_pos (by rw [hplen] at hi; exact hi), by rw [AV.val_tr hρ' c.res hres]; exact g2, ?_⟩
 have hL'j : ∀ j, n7 F ρ' (t4 (T1 M c.post)) (.inr j) = (F0 M (C7 M j) (t4 c.post j)).res ρ' j := fun j => by simp only [n7]; rw [am1]
 have hL'i : ∀ i, n7 F ρ' (t4 (T1 M c.post)) (.inl i) = F i := fun _ => rfl
 generalize hL' : n7 F ρ' (t4 (T1 M c.post)) = L' at hL'j hL'i
 have hL2j : ∀ j, C7 M j = .no → L' (.inr j) = n7 F1 ρ2 (t4 c.post) (.inr j) := fun j hl => by
  rw [hL'j, hl]
  have hp := hpo j
  have e : ρ2 j = ρ' j := by rw [hρ', hl]; rfl
  simp only [n7]
  cases hx : t4 c.post j with
  | none => rfl
  | dead => rfl
  | dat d => simp only [F0, It.res]; rw [e]
  | row e' d => simp only [F0, It.res]; rw [e]
  | tree d => simp only [F0, It.res]; rw [e]
  | kept e' d => cases e' <;> (simp only [F0, It.res]; rw [e])
  | hole k i ls => rw [hl, hx] at hp; cases hp
  | box cs =>
   rw [hl, hx] at hp
   simp only [av0] at hp
   simp only [F0, It.res]
   rw [e, AV.vals_tr hρ' cs hp]
 have hlj : ∀ j, C7 M j ≠ .no → L' (.inr j) = L (.inr j) := fun j hl => by
  obtain ⟨d, h1, h2, h3⟩ := hlent j hl
  rw [hL'j, hLj, h1, h2]
  rcases h3 with ⟨e, h3, _⟩ | h3
  ·rw [h3]; simp only [F0, It.res]; rw [hρo j hl]
  ·rw [h3]; simp only [F0, It.res]; rw [hρo j hl]
 have hin : ∀ b, b < w.heap.size → ¬ ψ1 b → ∃ k, (L k).blk b ∧ ∀ j, k = .inr j → C7 M j = .no := fun b _ hn => by
  obtain ⟨k, hk⟩ := Classical.not_forall.1 hn
  exact ⟨k, hsub k b (Classical.not_not.1 hk)⟩
 have hnew : ∀ k b, (∀ j, k = .inr j → C7 M j = .no) → (n7 F1 ρ2 (t4 c.post) k).blk b → b < w.heap.size → ∃ k', (L k').blk b ∧ ∀ j, k' = .inr j → C7 M j = .no := fun k b _ hb hlt => by
  rcases M2.ge k b hb with h | h
  ·omega
  ·exact hin b hlt h
 have hback : ∀ k b, (L' k).blk b → b < w.heap.size → ∃ k', (L k').blk b := fun k b hb hlt => by
  cases k with
  | inl i => rw [hL'i] at hb; exact ⟨.inl i, by rw [hLi]; exact hb⟩
  | inr j =>
   by_cases hl : C7 M j = .no
   ·rw [hL2j j hl] at hb
    obtain ⟨k', h1, _⟩ := hnew (.inr j) b (fun j' h => by cases h; exact hl) hb hlt
    exact ⟨k', h1⟩
   ·rw [hlj j hl] at hb; exact ⟨_, hb⟩
 have hsame : ∀ b, b < w.heap.size → ψ1 b → w'.heap[b]? = w.heap[b]? := fun b h1 h2 => M2.kept.block b h1 h2
 have hagr : I8 (R6 φ L) (R6 φ L') w w' := ⟨M2.kept.size, fun b hb hf => ⟨⟨hf.1, fun k hk => let ⟨k', h1⟩ := hback k b hk hb; hf.2 k' h1⟩, hsame b hb fun k hk => (hfr1 b hf).2 k hk⟩⟩
 have hlsame : ∀ j, C7 M j ≠ .no → ∀ b, (L (.inr j)).blk b → w'.heap[b]? = w.heap[b]? := fun j hl b hb => hsame b (MM.lt hb) fun k hk => by
  obtain ⟨q1, q2⟩ := hsub k b hk
  by_cases e : k = .inr j
  ·exact hl (q2 j e)
  ·exact MM.dis k (.inr j) b e q1 hb
 have hcross : ∀ j k b, C7 M j ≠ .no → (∀ j, k = .inr j → C7 M j = .no) → (L (.inr j)).blk b → ¬ (n7 F1 ρ2 (t4 c.post) k).blk b := fun j k b hl hk h1 h2 => by
  obtain ⟨k', h3, h4⟩ := hnew k b hk h2 (MM.lt h1)
  exact MM.dis k' (.inr j) b (fun e => hl (h4 j e)) h3 h1
 refine ⟨⟨M2.kept.os.trans MM.kept.os, M2.kept.tape.trans MM.kept.tape, M2.kept.output.trans MM.kept.output, bi1 MM.size M2.kept.size, fun b hb hp => (hsame b (bg6 hb MM.size) fun k hk => ?_).trans (MM.kept.block b hb hp)⟩, MM.fresh, fun k => ?_, fun k k' b hkk h1 h2 => ?_, fun k b h1 => ?_, fun k b h1 => ?_⟩
 ·rcases MM.ge k b (hsub k b hk).1 with h | h
  ·omega
  ·exact h hp
 ·cases k with
  | inl i =>
   rw [hL'i, ← hLi i]
   refine Rs.keep (MM.holds (.inl i)) hagr fun b hb => ?_
   have := (M2.holds (.inl i)).2.1 b (by rw [← hLi i]; exact hb) (MM.lt hb)
   exact this
  | inr j =>
   by_cases hl : C7 M j = .no
   ·have hh := M2.holds (.inr j)
    rw [← hL2j j hl] at hh
    have hp := hpo j
    rw [hl] at hp
    cases hx : t4 c.post j with
    | none => rw [hL'j, hl, hx]; exact Rs.none_holds _ _
    | dead => rw [hL'j, hl, hx]; exact Rs.none_holds _ _
    | box cs => rw [hL'j, hl, hx] at hh ⊢; exact hh
    | tree d => rw [hL'j, hl, hx] at hh ⊢; exact hh
    | kept e' d => rw [hx] at hp; exact absurd hp (by simp [av0])
    | hole k i ls => rw [hx] at hp; exact absurd hp (by simp [av0])
    | row e d =>
     rw [hx] at hp
     simp only [av0] at hp
     rw [hL'j, hl, hx] at hh ⊢
     simp only [F0, It.res] at hh ⊢
     obtain ⟨_, xs, o1, o2⟩ := hh
     exact ⟨fun xs => RW.nice d xs, xs, o1, aK0 hp o2⟩
    | dat d =>
     rw [hx] at hp
     simp only [av0] at hp
     split at hp
     ·rename_i d' hpx
      have hd : d' = d := av9 he hpx hx
      subst hd
      have e : L' (.inr j) = L (.inr j) := by
       rw [hL'j, hLj, hl, hx, hpx]
       simp only [F0, It.res]
       have : j < c.pre.length := by
        rcases bh7 j c.pre.length with h | h
        ·exact h
        ·rw [v6 h] at hpx; cases hpx
       rw [show ρ' j = ρ j from if_pos this]
      rw [e]
      refine Rs.keep (MM.holds (.inr j)) hagr fun b hb => ?_
      rw [hLj, hl, hpx] at hb
      exact hb.elim
     ·cases hp
   ·rw [hlj j hl]
    exact Rs.keep (MM.holds (.inr j)) hagr fun b hb => hlsame j hl b hb
 ·have key : ∀ k, (∃ j, k = .inr j ∧ C7 M j ≠ .no ∧ (L' k) = L k) ∨ ((∀ j, k = .inr j → C7 M j = .no) ∧ ∀ b, (L' k).blk b → (n7 F1 ρ2 (t4 c.post) k).blk b) := fun k => by
   cases k with
   | inl i => exact .inr ⟨(fun j h => by cases h), fun b hb => by rw [hL'i] at hb; exact hb⟩
   | inr j =>
    by_cases hl : C7 M j = .no
    ·exact .inr ⟨fun j' h => by cases h; exact hl, fun b hb => by rw [hL2j j hl] at hb; exact hb⟩
    ·exact .inl ⟨j, rfl, hl, hlj j hl⟩
  rcases key k with ⟨j, rfl, k1, k2⟩ | ⟨k1, k2⟩ <;> rcases key k' with ⟨j', rfl, k3, k4⟩ | ⟨k3, k4⟩
  ·rw [k2] at h1; rw [k4] at h2; exact MM.dis _ _ b hkk h1 h2
  ·rw [k2] at h1; exact hcross j k' b k1 k3 h1 (k4 b h2)
  ·rw [k4] at h2; exact hcross j' k b k3 k1 h2 (k2 b h1)
  ·exact M2.dis k k' b hkk (k2 b h1) (k4 b h2)
 ·cases k with
  | inl i => rw [hL'i, ← hLi i] at h1; exact MM.ge _ b h1
  | inr j =>
   by_cases hl : C7 M j = .no
   ·rw [hL2j j hl] at h1
    rcases bh7 b w.heap.size with hlt | hge
    ·obtain ⟨k', h2, _⟩ := hnew (.inr j) b (fun j' h => by cases h; exact hl) h1 hlt
     exact MM.ge k' b h2
    ·exact .inl (bi1 MM.size hge)
   ·rw [hlj j hl] at h1; exact MM.ge _ b h1
 ·cases k with
  | inl i => rw [hL'i, ← hLi i] at h1; exact MM.ph _ b h1
  | inr j =>
   by_cases hl : C7 M j = .no
   ·rw [hL2j j hl] at h1; exact M2.ph _ b h1
   ·rw [hlj j hl] at h1; exact MM.ph _ b h1
def aV1 (M : List Ln) : Ln → It → It
 | .row e, .dat d => .kept (some e) d
 | .tree, .dat d => .kept none d
 | .no, .box cs => .box (AV.trL M cs)
 | _, x => x
def aV0 (M : List Ln) (S : List It) : List It := (bg0 S.length).map fun i => aV1 M (C7 M i) (t4 S i)
theorem aU6 (M : List Ln) (S : List It) (i : Nat) : t4 (aV0 M S) i = aV1 M (C7 M i) (t4 S i) := by
 unfold aV0
 rcases bh7 i S.length with h | h
 ·conv => lhs; rw [t4, bf2, List.getElem?_map, List.getElem?_range h]
  rfl
 ·rw [v6 (by simpa using h), v6 h]
  cases C7 M i <;> rfl
theorem t6.lend {P : Program} {c : t6} (hc : c.ok P) (M : List Ln) (hb : aU7 M c = true := by kernel_rfl) (he : ag3 c.pre c.post = ag2 c.pre c.post := by kernel_rfl) : t6.ok P ⟨c.f, AV.trL M c.args, T1 M c.pre, aV0 M c.post, c.res.tr M⟩ :=
 t6.okPost (t6.lend0 hc M hb he) _ fun ρ i => by
  simp only
  rw [aU6, am1]
  cases C7 M i <;> cases t4 c.post i <;> rfl
section
variable {P : Program} {ι κ : Type} {φ ψ : Nat → Prop} {w0 w : World} {F : ι → Rs} {ρ ρ0 : Nat → Value} {N m n : Nat} {S : List It} {tm : List (Nat × AV)} {a : Act}
end
theorem aB6 (p : l9) (m : Int) (hm : 0 ≤ m) (hm2 : m ≤ 1048576) : t6.ok Try.prog (L4 38 [pA 0, iA m] (pS p) (iA (m8 m p.size))) :=
 N1 fun φ w ρ h => ao8 φ _ p m w ⟨ρ 0, ρ 1, ρ 2, rfl, h 0 _ rfl, h 1 _ rfl, h 2 _ rfl⟩ hm hm2
theorem aC3 (p q : l9) : t6.ok Try.prog (L4 45 [pA 0, pA 3] (pS p ++ pS q) (bA (p.same q))) :=
 N1 fun φ w ρ h => ap6 φ φ _ _ p q w ⟨ρ 0, ρ 1, ρ 2, rfl, h 0 _ rfl, h 1 _ rfl, h 2 _ rfl⟩ ⟨ρ 3, ρ 4, ρ 5, rfl, h 3 _ rfl, h 4 _ rfl, h 5 _ rfl⟩
section
variable {P : Program} {ι κ : Type} {φ ψ : Nat → Prop} {w0 w w' : World} {F : ι → Rs} {ρ ρ0 : Nat → Value}
theorem m0.turns {L L' : κ → Rs} (M : m0 φ ψ w0 w L) (hblk : ∀ k b, (L' k).blk b ↔ (L k).blk b) (K : κ → Prop) (ho : ∀ k, ¬ K k → L' k = L k) (hk : v9 (fun b => ¬ ∃ k, K k ∧ (L k).blk b) w w') (h : ∀ k, K k → (L' k).holds w' (R6 φ L')) : m0 φ ψ w0 w' L' := by
 have hfr : ∀ b, R6 φ L b → R6 φ L' b := fun b hb => ⟨hb.1, fun k hk => hb.2 k ((hblk k b).1 hk)⟩
 refine ⟨⟨hk.os.trans M.kept.os, hk.tape.trans M.kept.tape, hk.output.trans M.kept.output, bi1 M.size hk.size, fun b hb hp => (hk.block b (bg6 hb M.size) ?_).trans (M.kept.block b hb hp)⟩, M.fresh, fun k => ?_, fun i j g hij h1 h2 => M.dis i j g hij ((hblk i g).1 h1) ((hblk j g).1 h2), fun i b hb => M.ge i b ((hblk i b).1 hb), fun i b hb => M.ph i b ((hblk i b).1 hb)⟩
 ·rintro ⟨k, _, h2⟩
  rcases M.ge k b h2 with h | h
  ·omega
  ·exact h hp
 ·by_cases e : K k
  ·exact h k e
  ·rw [ho k e]
   refine Rs.keep (M.holds k) ⟨hk.size, fun b hb hf => ⟨hfr b hf, hk.block b hb fun ⟨j, _, h2⟩ => hf.2 j h2⟩⟩ fun g hg => hk.block g (M.lt hg) ?_
   rintro ⟨j, h1, h2⟩
   exact M.dis j k g (fun h => e (h ▸ h1)) h2 hg
theorem m0.grow {L L' : κ → Rs} (M : m0 φ ψ w0 w L) (hb : Below w.heap.size w w') (K : κ → Prop) (ho : ∀ k, ¬ K k → L' k = L k) (hg : ∀ k, K k → ∀ b, (L' k).blk b → w.heap.size ≤ b) (hd : ∀ j k b, j ≠ k → K j → K k → (L' j).blk b → ¬ (L' k).blk b) (h : ∀ k, K k → (L' k).holds w' (R6 φ L')) : m0 φ ψ w0 w' L' := by
 have M1 := M.call hb
 have old : ∀ k, ¬ K k → ∀ b, (L' k).blk b → b < w.heap.size := fun k hk b h1 => by rw [ho k hk] at h1; exact M.lt h1
 refine ⟨M1.kept, M.fresh, fun k => ?_, fun i j g hij h1 h2 => ?_, fun i b h1 => ?_, fun i b h1 => ?_⟩
 ·by_cases e : K k
  ·exact h k e
  ·rw [ho k e]
   refine Rs.keep (M.holds k) ⟨hb.size, fun b hl hf => ⟨⟨hf.1, fun j hj => ?_⟩, hb.block b hl⟩⟩ fun g hgx => hb.block g (M.lt hgx)
   by_cases e2 : K j
   ·have := hg j e2 b hj; omega
   ·rw [ho j e2] at hj; exact hf.2 j hj
 ·by_cases e1 : K i <;> by_cases e2 : K j
  ·exact hd i j g hij e1 e2 h1 h2
  ·have := hg i e1 g h1; have := old j e2 g h2; omega
  ·have := hg j e2 g h2; have := old i e1 g h1; omega
  ·rw [ho i e1] at h1; rw [ho j e2] at h2; exact M.dis i j g hij h1 h2
 ·by_cases e : K i
  ·exact .inl (bi1 M.size (hg i e b h1))
  ·rw [ho i e] at h1; exact M.ge i b h1
 ·by_cases e : K i
  ·exact M.fresh b (bi1 M.size (hg i e b h1))
  ·rw [ho i e] at h1; exact M.ph i b h1
end
abbrev oP (p : l9) : List It := [.row 3 (.ints p.vars), .row 3 (.ints p.arrays), .tree (.stmts p.body)]
abbrev oA (r : Nat) : AV := .agg [.ref r, .ref (r + 1), .tref (r + 2)]
theorem S8 {w : World} {φ : Nat → Prop} {v : Value} {l : List Int} (h : w.ownsRow 0 3 1 v l.length (ints l)) : (Rs.row 3 (D.ints l).sz v (D.ints l).len fun xs w φ => RW w φ (.ints l) xs).holds w φ := by
 refine ⟨fun xs => RW.nice (.ints l) xs, ints l, h, fun i hi j x hx => ?_⟩
 have hi' : i < l.length := hi
 simp only [D.elem] at hx
 have hj : j = 0 := by
  cases j with
  | zero => rfl
  | succ j => simp at hx
 subst hj
 simp at hx
 subst hx
 refine ⟨_, ?_, rfl⟩
 simp only [D.sz]
 rw [Nat.mul_one, bi2]
 simp [ints, hi']
theorem aS0 {w : World} {φ : Nat → Prop} {v : Value} {l : List Int} (h : (Rs.row 3 (D.ints l).sz v (D.ints l).len fun xs w φ => RW w φ (.ints l) xs).holds w φ) : w.ownsRow 0 3 1 v l.length (ints l) := by
 obtain ⟨_, xs, h1, h2⟩ := h
 have h3 : xs.length = l.length := by have := h1.1; simpa [D.len, D.sz] using this
 rw [at2 h3 h2] at h1
 exact h1
theorem ax5 (p : l9) (hb : p.size ≤ 1048576) : t6.ok Try.prog ⟨41, [pA 0], pS p, pS p ++ oP p, oA 3⟩ := by
 intro ι φ ψ w0 w F ρ M
 refine (ao7 (R6 φ (n7 F ρ (t4 (pS p)))) _ p w ⟨ρ 0, ρ 1, ρ 2, rfl, M.datAt (id := 0) rfl, M.datAt (id := 1) rfl, M.datAt (id := 2) rfl⟩ hb).mono ?_
 rintro e w' ⟨a1, k1, a2, k2, a3, k3, S, rfl, hO, hS, hbl⟩
 obtain ⟨v1, v2, v3, S3, hv, h1, h2, h3, d1, d2, d3⟩ := hO
 cases hv
 obtain ⟨z, hz1, hz2⟩ := ac0 (.slice a3 p.body.length k3) (fun b => S3 b ∧ b < w'.heap.size) w'.heap.size fun b h => h.2
 refine ⟨fun i => if i = 3 then .slice a1 p.vars.length k1 else if i = 4 then .slice a2 p.arrays.length k2 else if i = 5 then z else ρ i, fun i hi => ?_, ?_, ?_⟩
 ·have : i < 3 := hi
  simp only [if_neg (show ¬ i = 3 by omega), if_neg (show ¬ i = 4 by omega), if_neg (show ¬ i = 5 by omega)]
 ·simp [AV.val, AV.vals, hz1]
 ·have hlt : ∀ j, 6 ≤ j → t4 (pS p ++ oP p) j = .none ∧ t4 (pS p) j = .none := fun j hj => ⟨v6 (by simp; omega), v6 (by simp; omega)⟩
  refine M.grow hbl (fun k => k = .inr 3 ∨ k = .inr 4 ∨ k = .inr 5) (fun k hk => ?_) ?_ ?_ ?_
  ·cases k with
   | inl i => rfl
   | inr j =>
    have n3 : j ≠ 3 := fun e => hk (.inl (by rw [e]))
    have n4 : j ≠ 4 := fun e => hk (.inr (.inl (by rw [e])))
    have n5 : j ≠ 5 := fun e => hk (.inr (.inr (by rw [e])))
    match j, n3, n4, n5 with
    | 0, _, _, _ => rfl
    | 1, _, _, _ => rfl
    | 2, _, _, _ => rfl
    | 3, h, _, _ => exact absurd rfl h
    | 4, _, h, _ => exact absurd rfl h
    | 5, _, _, h => exact absurd rfl h
    | j + 6, _, _, _ => simp only [n7, (hlt (j + 6) (by omega)).1, (hlt (j + 6) (by omega)).2]; rfl
  ·rintro k (rfl | rfl | rfl) b hbk
   ·exact (hS b (d1 b hbk).1).1
   ·exact (hS b (d2 b hbk).1).1
   ·exact (hS b (d3 b ((hz2 b).1 hbk).1)).1
  ·have x1 : ∀ b, (Value.slice a1 p.vars.length k1).ownBlock = some b → ¬ (Value.slice a2 p.arrays.length k2).ownBlock = some b := fun b hb => (d1 b hb).2.2
   rintro j k b hjk (rfl | rfl | rfl) (rfl | rfl | rfl) hj hk
   ·exact hjk rfl
   ·exact (d1 b hj).2.2 hk
   ·exact (d1 b hj).2.1 ((hz2 b).1 hk).1
   ·exact (d1 b hk).2.2 hj
   ·exact hjk rfl
   ·exact (d2 b hj).2 ((hz2 b).1 hk).1
   ·exact (d1 b hk).2.1 ((hz2 b).1 hj).1
   ·exact (d2 b hk).2 ((hz2 b).1 hj).1
   ·exact hjk rfl
  ·rintro k (rfl | rfl | rfl)
   ·exact S8 h1
   ·exact S8 h2
   ·have e : v5 z = fun b => S3 b ∧ b < w'.heap.size := funext fun b => propext (hz2 b)
    show (Rs.own (v5 z) fun w => A7 w (v5 z) (.stmts p.body) (D8 z)).holds _ _
    rw [hz1, e]
    exact ⟨fun _ _ h hs => h.same hs, (A7.block.2 h3).cut, fun b hb => hb.2⟩
theorem ap7 (p : l9) (k : Nat) (hb : k + X3 p ≤ 9000000000000000000) : t6.ok Try.prog ⟨46, [oA 0, iA k], oP p, oP (mkP p k), iA (k + X3 p)⟩ := by
 intro ι φ ψ w0 w F ρ M
 have r1 := aS0 (M.holds (.inr 0))
 have r2 := aS0 (M.holds (.inr 1))
 have r3 := (M.holds (.inr 2)).2.1
 have hO : W0 w (.agg #[ρ 0, ρ 1, D8 (ρ 2)]) p (fun b => (ρ 0).ownBlock = some b ∨ (ρ 1).ownBlock = some b ∨ v5 (ρ 2) b) :=
  ⟨_, _, _, v5 (ρ 2), rfl, r1, r2, A7.block.1 r3,
   fun g hg => ⟨.inl hg, fun h => M.dis (.inr 0) (.inr 2) g (by simp) hg h, fun h => M.dis (.inr 0) (.inr 1) g (by simp) hg h⟩,
   fun g hg => ⟨.inr (.inl hg), fun h => M.dis (.inr 1) (.inr 2) g (by simp) hg h⟩, fun b hb => .inr (.inr hb)⟩
 refine (ai6 _ p k w _ hO hb).mono ?_
 rintro e w' ⟨rfl, hO', hk⟩
 obtain ⟨v1, v2, v3, S3, hv, h1, h2, h3, d1, d2, d3⟩ := hO'
 cases hv
 have hS3 : ∀ b, S3 b → v5 (ρ 2) b := fun b hb => by
  rcases d3 b hb with h | h | h
  ·exact ((d1 b h).2.1 hb).elim
  ·exact ((d2 b h).2 hb).elim
  ·exact h
 refine ⟨ρ, fun _ _ => rfl, rfl, M.turns (fun k b => ?_) (fun k => k = .inr 0 ∨ k = .inr 1 ∨ k = .inr 2) (fun k hk => ?_) ?_ ?_⟩
 ·cases k with
  | inl i => rfl
  | inr j =>
   match j with
   | 0 => exact Iff.rfl
   | 1 => exact Iff.rfl
   | 2 => exact Iff.rfl
   | j + 3 => simp only [n7]; rw [v6 (show (oP (mkP p _)).length ≤ j + 3 by simp), v6 (show (oP p).length ≤ j + 3 by simp)]
 ·cases k with
  | inl i => rfl
  | inr j =>
   match j, hk with
   | 0, h => exact absurd (.inl rfl) h
   | 1, h => exact absurd (.inr (.inl rfl)) h
   | 2, h => exact absurd (.inr (.inr rfl)) h
   | j + 3, _ => simp only [n7]; rw [v6 (show (oP (mkP p _)).length ≤ j + 3 by simp), v6 (show (oP p).length ≤ j + 3 by simp)]
 ·refine ⟨hk.os, hk.tape, hk.output, hk.size, fun b hb hn => hk.block b hb ?_⟩
  rintro (h | h | h)
  ·exact hn ⟨_, .inl rfl, h⟩
  ·exact hn ⟨_, .inr (.inl rfl), h⟩
  ·exact hn ⟨_, .inr (.inr rfl), h⟩
 ·rintro k (rfl | rfl | rfl)
  ·exact S8 h1
  ·exact S8 h2
  ·exact ⟨fun _ _ h hs => h.same hs, A7.block.2 (h3.mono hS3), fun b hb => bg6 (M.lt (i := .inr 2) hb) hk.size⟩
theorem G3 (e : b7) : t6.ok Try.prog ⟨192, [.agg [.v (.int .i64 e.kind), .v (.int .i64 e.value), .ref 0]], [.dat (.exprs e.kids)], [.dat (.exprs e.kids)], .v (.bool (noneB e))⟩ := by
  refine M7 17 Try.func192 [dE e.kids] [(0, eA e 0)] fun G => ?_; refine wp_seq (B6 G l6 [0, 1] [dE e.kids, .box (eL e 0)] [(1, .ptr 1 0), (2, bA false)] fun G => b5 (wp_seq ?_)); cases h0 : (e.kind == 0)
  · have q0 := ne_of_beq_false h0; refine B6 G (N0 (fc h0 (fc (b := false) rfl fz)) (us [(4, 6, 0), (1007, 1007, 0), (9, 12, 1), (1013, 1013, 1)])) [0] [dE e.kids] [(2, bA false)] fun G => b5 (wp_ret ?_); exact B5 false G [0] (by rw [bh0]; simp [noneB, h0, q0]; done)
  ·
   have q0 := eq_of_beq h0; cases h1 : (e.value == 0)
   · have q1 := ne_of_beq_false h1; refine B6 G (N0 (fc h0 (fc h1 fz)) (us [(4, 6, 0), (1007, 1007, 0), (9, 12, 1), (1013, 1013, 1)])) [0] [dE e.kids] [(2, bA false)] fun G => b5 (wp_ret ?_); exact B5 false G [0] (by rw [bh0]; simp [noneB, h0, q0, h1, q1]; done)
   · have q1 := eq_of_beq h1; refine B6 G (N0 (fc h0 (fc h1 fz)) (us [(4, 6, 0), (1007, 1007, 0), (9, 12, 1), (1013, 1013, 1)])) [0] [dE e.kids] [(2, bA ((e.kids.length : Int) == 0))] fun G => b5 (wp_ret ?_); exact B5 ((e.kids.length : Int) == 0) G [0] (by rw [bh0]; simp [noneB, h0, q0, h1, q1]; done)
theorem Y0 (e : b7) : t6.ok Try.prog ⟨239, [.agg [.v (.int .i64 e.kind), .v (.int .i64 e.value), .ref 0]], [.dat (.exprs e.kids)], [.dat (.exprs e.kids)], .v (.bool (noneB e))⟩ := by
  refine M7 17 Try.func239 [dE e.kids] [(0, eA e 0)] fun G => ?_; refine wp_seq (B6 G l6 [0, 1] [dE e.kids, .box (eL e 0)] [(1, .ptr 1 0), (2, bA false)] fun G => b5 (wp_seq ?_)); cases h0 : (e.kind == 0)
  · have q0 := ne_of_beq_false h0; refine B6 G (N0 (fc h0 (fc (b := false) rfl fz)) (us [(4, 6, 0), (1007, 1007, 0), (9, 12, 1), (1013, 1013, 1)])) [0] [dE e.kids] [(2, bA false)] fun G => b5 (wp_ret ?_); exact B5 false G [0] (by rw [bh0]; simp [noneB, h0, q0]; done)
  ·
   have q0 := eq_of_beq h0; cases h1 : (e.value == 0)
   · have q1 := ne_of_beq_false h1; refine B6 G (N0 (fc h0 (fc h1 fz)) (us [(4, 6, 0), (1007, 1007, 0), (9, 12, 1), (1013, 1013, 1)])) [0] [dE e.kids] [(2, bA false)] fun G => b5 (wp_ret ?_); exact B5 false G [0] (by rw [bh0]; simp [noneB, h0, q0, h1, q1]; done)
   · have q1 := eq_of_beq h1; refine B6 G (N0 (fc h0 (fc h1 fz)) (us [(4, 6, 0), (1007, 1007, 0), (9, 12, 1), (1013, 1013, 1)])) [0] [dE e.kids] [(2, bA ((e.kids.length : Int) == 0))] fun G => b5 (wp_ret ?_); exact B5 ((e.kids.length : Int) == 0) G [0] (by rw [bh0]; simp [noneB, h0, q0, h1, q1]; done)
theorem ag7 (k : Int) : t6.ok Try.prog ⟨210, [.v (.int .i64 k)], [], [], .v (.int .i64 (C2 k))⟩ := by
  refine M7 23 Try.func210 [] [(0, iA k)] fun G => ?_; refine wp_seq (n6 G l6 [(2, iA 0)] fun G => b5 (wp_seq (wp_block (wp_seq ?_)))); cases h0 : (k == 1)
  ·
   have q0 := ne_of_beq_false h0; refine n6 G (N0 (fc h0 fz) [(3, 0), (4, 0), (1005, 0)]) [(3, bA (k == 2))] fun G => b5 (rcE G (fun h1 q1 => ?_) fun h1 q1 => ?_)
   ·
    refine wp_seq (n6 G l6 [(10, bA (k == 3))] fun G => b5 (rcE G (fun h2 q2 => ?_) fun h2 q2 => ?_))
    ·
     refine wp_seq ?_; cases h3 : (decide (k ≥ 4))
     ·
      have q3 := dFf h3; refine n6 G (N0 (fc h3 fz) [(3, 0), (4, 0), (1005, 0)]) [(13, bA false)] fun G => b5 (rF G false (by kernel_rfl) (wp_seq (O5 G l6 [(2, iA 0), (20, bA (k == 11))] fun G => b5 ?_))); cases h4 : (k == 11)
      · have q4 := ne_of_beq_false h4; refine rF G _ h4 (wp_skip (I9 (b5 (wp_seq (n6 G l6 [(2, iA (-1))] fun G => b5 (wp_ret ?_)))))); exact Y6 (-1) G [] (by unfold C2; (repeat' split) <;> omega)
      · have q4 := eq_of_beq h4; exact False.elim (by omega)
     ·
      have q3 := dTt h3; refine n6 G (N0 (fc h3 fz) [(3, 0), (4, 0), (1005, 0)]) [(13, bA (decide (k ≤ 10)))] fun G => b5 (rcD G (fun h5 q5 => ?_) fun h5 q5 => ?_)
      ·
       refine wp_seq (n6 G l6 [(20, bA (k == 11))] fun G => b5 (rcE G (fun h6 q6 => ?_) fun h6 q6 => ?_))
       · refine wp_skip (I9 (b5 (wp_seq (n6 G l6 [(2, iA (-1))] fun G => b5 (wp_ret ?_))))); exact Y6 (-1) G [] (by unfold C2; (repeat' split) <;> omega)
       · refine wp_seq (n6 G l6 [(2, iA 3)] fun G => b5 (wp_ret (B8 (m7 ?_)))); exact Y6 3 G [] (by unfold C2; (repeat' split) <;> omega)
      · refine wp_seq (n6 G l6 [(2, iA 2)] fun G => b5 (wp_ret (B8 (m7 ?_)))); exact Y6 2 G [] (by unfold C2; (repeat' split) <;> omega)
    · refine wp_seq (n6 G l6 [(2, iA 1)] fun G => b5 (wp_ret (B8 (m7 ?_)))); exact Y6 1 G [] (by unfold C2; (repeat' split) <;> omega)
   · refine wp_seq (n6 G l6 [] fun G => b5 (wp_ret (B8 (m7 ?_)))); exact Y6 0 G [] (by unfold C2; (repeat' split) <;> omega)
  · have q0 := eq_of_beq h0; refine n6 G (N0 (fc h0 fz) [(3, 0), (4, 0), (1005, 0)]) [(3, bA true)] fun G => b5 (rT G true (by kernel_rfl) (wp_seq (n6 G l6 [] fun G => b5 (wp_ret (B8 (m7 ?_)))))); exact Y6 0 G [] (by unfold C2; (repeat' split) <;> omega)
theorem an9 (e : b7) : t6.ok Try.prog ⟨212, [.agg [.v (.int .i64 e.kind), .v (.int .i64 e.value), .ref 0]], [.dat (.exprs e.kids)], [.dat (.exprs e.kids)], .v (.bool (J5 e))⟩ := by
 refine M7 11 Try.func212 [dE e.kids] [(0, eA e 0)] fun G => ?_; refine wp_seq (B6 G l6 [0, 1] [dE e.kids, .box (eL e 0)] [(1, .ptr 1 0), (2, bA false)] fun G => b5 (wp_seq ?_)); cases h0 : (e.kind == 1)
 ·have q0 := ne_of_beq_false h0; refine B6 G (N0 (fc h0 fz) [(4, 0), (5, 0), (6, 0), (1007, 0)]) [0] [dE e.kids] [(2, bA (e.kind == 2))] fun G => b5 (wp_ret ?_); exact B5 (e.kind == 2) G [0] (by rw [bh0]; simp [J5, h0, q0]; done)
 ·have q0 := eq_of_beq h0; refine B6 G (N0 (fc h0 fz) [(4, 0), (5, 0), (6, 0), (1007, 0)]) [0] [dE e.kids] [(2, bA true)] fun G => b5 (wp_ret ?_); exact B5 true G [0] (by rw [bh0]; simp [J5, h0, q0]; done)
theorem aO0 (vs ars : List Int) (b : List b6) (k : Int) : t6.ok Try.prog ⟨211, [.agg [.ref 0, .ref 1, .ref 2], .v (.int .i64 k)], [.dat (.ints vs), .dat (.ints ars), .dat (.stmts b)], [.dat (.ints vs), .dat (.ints ars), .dat (.stmts b)], .v (.int .i64 (G2 vs.length ars.length k))⟩ := by
  refine M7 18 Try.func211 [dI vs, dI ars, dT b] [(0, pA 0), (1, iA k)] fun G => ?_; refine wp_seq (B6 G l6 (rg 4) [dI vs, dI ars, dT b, .box (pL 0)] [(1, iA k), (2, .ptr 3 0), (4, iA 0)] fun G => b5 (wp_seq (wp_seq (n6 G l6 [(5, iA k)] fun G => b5 (wp_block (wp_seq (n6 G l6 [(6, bA (k == 1))] fun G => b5 (rcE G (fun h0 q0 => ?_) fun h0 q0 => ?_))))))))
  ·
   refine wp_seq (n6 G l6 [(8, bA (k == 2))] fun G => b5 (rcE G (fun h1 q1 => ?_) fun h1 q1 => ?_))
   ·
    refine wp_seq (n6 G l6 [(13, bA (k == 3))] fun G => b5 (rcE G (fun h2 q2 => ?_) fun h2 q2 => ?_))
    · refine wp_skip (I9 (b5 (wp_seq (B6 G l6 [0, 1, 2] [dI vs, dI ars, dT b] [(4, iA 1)] fun G => b5 (wp_ret ?_))))); exact Y6 1 G [0, 1, 2] (by unfold G2; (repeat' split) <;> omega)
    · refine wp_seq (B6 G l6 [0, 1, 2] [dI vs, dI ars, dT b] [(4, iA (ars.length : Int))] fun G => b5 (wp_ret (B8 (m7 ?_)))); exact Y6 ((ars.length : Int)) G [0, 1, 2] (by unfold G2; (repeat' split) <;> omega)
   · refine wp_seq (B6 G l6 [0, 1, 2] [dI vs, dI ars, dT b] [(4, iA (vs.length : Int))] fun G => b5 (wp_ret (B8 (m7 ?_)))); exact Y6 ((vs.length : Int)) G [0, 1, 2] (by unfold G2; (repeat' split) <;> omega)
  · refine wp_seq (B6 G l6 [0, 1, 2] [dI vs, dI ars, dT b] [(4, iA 256)] fun G => b5 (wp_ret (B8 (m7 ?_)))); exact Y6 256 G [0, 1, 2] (by unfold G2; (repeat' split) <;> omega)
theorem ae7 {α : Type} {l : List α} {k : Nat} {p : α → Bool} {z : α} (h : (l.take k).all p = true) (hk : k < l.length) (hp : p (l.getD k z) = true) : (l.take (k + 1)).all p = true := by
 rw [R5 p l k hk, h, ← w8 (d := z) hk, hp]; rfl
theorem ao5 {α : Type} {l : List α} {k : Nat} {p : α → Bool} (h : (l.take k).all p = true) (hk : l.length ≤ k) : l.all p = true := by
 rw [bf6 hk] at h; exact h
section
variable {nv na d : Nat} {e : b7}
theorem aZ0 (h : ¬ (e.kids.length : Int) = C2 e.kind) : l5 nv na (d + 1) e = false := by simp [l5, E1, h]
theorem aY9 (h : e.value < 0) : l5 nv na (d + 1) e = false := by
 have : ¬ 0 ≤ e.value := by omega
 simp [l5, E1, this]
theorem aY8 (h : G2 nv na e.kind ≤ e.value) : l5 nv na (d + 1) e = false := by
 have : ¬ e.value < G2 nv na e.kind := by omega
 simp [l5, E1, this]
theorem aY7 {k : Nat} {z : b7} (hk : k < e.kids.length) (h : l5 nv na d (e.kids.getD k z) = false) : l5 nv na (d + 1) e = false := by
 rw [w8 hk] at h
 have : e.kids.all (l5 nv na d) = false := aj2 hk h
 simp [l5, this]
theorem aE4 (h1 : (e.kids.length : Int) = C2 e.kind) (h2 : ¬ e.value < 0) (h3 : ¬ G2 nv na e.kind ≤ e.value) : E1 nv na e = true := by
 unfold E1; rw [decide_eq_true h1, decide_eq_true (by omega), decide_eq_true (by omega)]; rfl
theorem aY6 (hn : E1 nv na e = true) (ha : e.kids.all (l5 nv na d) = true) (h : ¬ e.kind = 3) : l5 nv na (d + 1) e = true := by
 rw [l5, hn, ha]; simp [S9, h]
theorem aY5 (hn : E1 nv na e = true) (ha : e.kids.all (l5 nv na d) = true) (h : e.kind = 3) (hl : 0 < e.kids.length) : l5 nv na (d + 1) e = J5 (e.kids.getD 0 bh2) := by
 rw [l5, hn, ha, aq8 h hl, w8 hl]; simp [J5]
theorem as0 (h1 : (e.kids.length : Int) = C2 e.kind) (h : e.kind = 3) : 0 < e.kids.length := by
 rw [h] at h1; simp [C2] at h1; omega
end
theorem aH4 (vs ars : List Int) (b : List b6) (e : b7) (n : Int) (hn : n = 0) : t6.ok Try.prog ⟨167, [.agg [.ref 0, .ref 1, .ref 2], .agg [.v (.int .i64 e.kind), .v (.int .i64 e.value), .ref 3], .v (.int .i64 n)], [.dat (.ints vs), .dat (.ints ars), .dat (.stmts b), .dat (.exprs e.kids)], [.dat (.ints vs), .dat (.ints ars), .dat (.stmts b), .dat (.exprs e.kids)], .v (.bool (l5 vs.length ars.length 0 e))⟩ := by
 have h100 : decide (n < 1) = true := by simp; omega
 refine M7 60 Try.func167 [dI vs, dI ars, dT b, dE e.kids] [(0, pA 0), (1, eA e 3), (2, iA n)] fun G => ?_; refine wp_seq (B6 G l6 [0, 1, 2, 3, 4, 12] [dI vs, dI ars, dT b, dE e.kids, .box (pL 0), .box (eL e 3)] [(2, iA n), (3, .ptr 4 0), (4, .ptr 5 0), (6, bA false)] fun G => b5 (wp_seq (wp_seq (aS1 G (N0 (fc (a := decide (n < 1)) (b := true) (by assumption) (fc (b := true) rfl fz)) (us [(3, 9, 0), (1010, 1010, 0), (12, 14, 1), (1015, 1015, 1), (17, 23, 1), (1024, 1024, 1)])) [0, 1, 3, 7, 15, 31, 7, 71, 199, 511, 1023, 2047, 4095, 8191, 16383, 32767, 65535, 131071, 262143, 131071, 131071, 1179647, 3801087, 8388607, 16777215] [(32, bA true)] fun G => b5 (rT G true (by kernel_rfl) (wp_seq (n6 G l6 [] fun G => b5 (wp_ret (m7 ?_))))))))); exact rxr G (rg 4)
theorem aH3 (vs ars : List Int) (b : List b6) (d : Nat) (hd : d ≤ 5) (ih : ∀ (e : b7) (n : Int), n = d → t6.ok Try.prog ⟨167, [.agg [.ref 0, .ref 1, .ref 2], .agg [.v (.int .i64 e.kind), .v (.int .i64 e.value), .ref 3], .v (.int .i64 n)], [.dat (.ints vs), .dat (.ints ars), .dat (.stmts b), .dat (.exprs e.kids)], [.dat (.ints vs), .dat (.ints ars), .dat (.stmts b), .dat (.exprs e.kids)], .v (.bool (l5 vs.length ars.length d e))⟩)
    (e : b7) (n : Int) (hn : n = (d + 1 : Nat)) : t6.ok Try.prog ⟨167, [.agg [.ref 0, .ref 1, .ref 2], .agg [.v (.int .i64 e.kind), .v (.int .i64 e.value), .ref 3], .v (.int .i64 n)], [.dat (.ints vs), .dat (.ints ars), .dat (.stmts b), .dat (.exprs e.kids)], [.dat (.ints vs), .dat (.ints ars), .dat (.stmts b), .dat (.exprs e.kids)], .v (.bool (l5 vs.length ars.length (d + 1) e))⟩ := by
  have h100 : decide (n < 1) = false := by simp; omega
  refine M7 60 Try.func167 [dI vs, dI ars, dT b, dE e.kids] [(0, pA 0), (1, eA e 3), (2, iA n)] fun G => ?_; refine wp_seq (B6 G l6 [0, 1, 2, 3, 4, 12] [dI vs, dI ars, dT b, dE e.kids, .box (pL 0), .box (eL e 3)] [(2, iA n), (3, .ptr 4 0), (4, .ptr 5 0), (6, bA false)] fun G => b5 (wp_seq (wp_seq ?_))); cases h0 : ((e.kids.length : Int) != C2 e.kind)
  ·
   have q0 := bne_eq_false_iff_eq.1 h0; cases h1 : (decide (e.value < 0))
   ·
    have q1 := dFf h1; refine aS1 G (E3 (A1 8 [] (ag7 e.kind) (A1 22 [0, 1, 2] (aO0 vs ars b e.kind) E2)) (fc (a := decide (n < 1)) (b := false) (by assumption) (fc h0 (fc h1 fz))) (us [(3, 9, 0), (1010, 1010, 0), (12, 14, 1), (1015, 1015, 1), (17, 23, 2), (1024, 1024, 2)])) [0, 1, 3, 7, 15, 31, 7, 71, 199, 511, 1023, 2047, 4095, 8191, 16383, 32767, 65535, 131071, 262143, 131071, 131071, 1179647, 3801087, 8388607, 16777215] [(32, bA (decide (e.value ≥ G2 vs.length ars.length e.kind)))] fun G => b5 (rcD G (fun h2 q2 => ?_) fun h2 q2 => ?_)
    ·
     refine wp_skip (b5 (wp_seq (wp_seq (O5 G l6 [(2, iA n), (3, .ptr 4 0), (4, .ptr 5 0), (6, bA false), (7, iA 0)] fun G => b5 (wp_block ?_))))); refine E9 (κ := Nat) (fun k => k ≤ e.kids.length ∧ (e.kids.take k).all (l5 vs.length ars.length d) = true) (fun k => e.kids.length - k) (fun k => [dI vs, dI ars, dT b, dE e.kids, .box (pL 0), .box (eL e 3)]) (fun k => [(2, iA n), (3, .ptr 4 0), (4, .ptr 5 0), (6, bA false), (7, iA k)]) 0 (by simp [h100, h0, h1, h2]) (B4.at G _ _) ?_; clear G; intro k ρ a w hp G; have hlen : e.kids.length ≤ 9223372036854775807 := G.len 3 (d := .exprs e.kids) (by kernel_rfl); have hnode := aE4 (nv := vs.length) (na := ars.length) q0 q1 q2; refine wp_seq (wp_seq (O5 G l6 [(2, iA n), (3, .ptr 4 0), (4, .ptr 5 0), (6, bA false), (7, iA k), (37, bA (decide ((k : Int) < e.kids.length)))] fun G => b5 (rcD G (fun h3 q3 => ?_) fun h3 q3 => ?_)))
     ·
      refine wp_exit (E6 (E6 (E5 (b5 (wp_seq ?_))))); cases h4 : (e.kind != 3)
      · have q4 := bne_eq_false_iff_eq.1 h4; refine rA1 G (E3 (A1 8 [62] (an9 (e.kids.getD 0 bh2)) E2) (fc h4 fz) (us [(4, 8, 0), (1009, 1009, 0)])) (rg 4) [dI vs, dI ars, dT b, dE e.kids] [(6, bA (J5 (e.kids.getD 0 bh2)))] (iX 0 0 e.kids.length []) (iK (by have := as0 q0 (by omega); omega) bf4) fun G => b5 (wp_ret ?_); exact B5 (J5 (e.kids.getD 0 bh2)) G (rg 4) (aY5 hnode (ao5 hp.2 (by omega)) (by omega) (as0 q0 (by omega)))
      · have q4 := bne_iff_ne.1 h4; refine B6 G (N0 (fc h4 fz) (us [(4, 8, 0), (1009, 1009, 0)])) (rg 4) [dI vs, dI ars, dT b, dE e.kids] [(6, bA true)] fun G => b5 (wp_ret ?_); exact B5 true G (rg 4) (aY6 hnode (ao5 hp.2 (by omega)) (by omega))
     ·
      refine wp_skip (b5 (wp_seq (wp_block (wp_seq (at6 G (Q6 8 [0, 1, 2, 46] (ih (e.kids.getD k bh2) (n - 1) (by omega))) [0, 0, 2, 0, 14, 30, 0, 64, 255, 511] [(49, .v (.bool !l5 vs.length ars.length d (e.kids.getD k bh2)))] (iX k k e.kids.length ((wO (n - 1)) :: [])) (iK (by omega) (o1 (by omega))) fun G => b5 ?_))))); cases h5 : (!l5 vs.length ars.length d (e.kids.getD k bh2))
      · have q5 : (l5 vs.length ars.length d (e.kids.getD k bh2)) = true := (Eq.mp (bg1 _) h5); refine rF G _ h5 (wp_skip (I9 (b5 (J6 G l6 [(7, iA ((k : Int) + 1))] [wO ((k : Int) + 1)] (o1 (by omega)) fun G => b5 ?_)))); exact rxn G (k + 1) (⟨by omega, ae7 hp.2 (by omega) (by assumption)⟩) (by omega) (rg 6)
      · have q5 : (l5 vs.length ars.length d (e.kids.getD k bh2)) = false := (Eq.mp (bf8 _) h5); refine rT G _ h5 (wp_seq (n6 G l6 [] fun G => b5 (wp_ret (B8 (m7 (m7 (B8 (m7 ?_)))))))); exact B5 false G (rg 4) (aY7 (k := k) (by omega) (by assumption))
    · refine wp_seq (n6 G l6 [] fun G => b5 (wp_ret (m7 ?_))); exact B5 false G (rg 4) (aY8 (by omega))
   · have q1 := dTt h1; refine aS1 G (E3 (A1 8 [] (ag7 e.kind) E2) (fc (a := decide (n < 1)) (b := false) (by assumption) (fc h0 (fc h1 fz))) (us [(3, 9, 0), (1010, 1010, 0), (12, 14, 1), (1015, 1015, 1), (17, 23, 2), (1024, 1024, 2)])) [0, 1, 3, 7, 15, 31, 7, 71, 199, 511, 1023, 2047, 4095, 8191, 16383, 32767, 65535, 131071, 262143, 131071, 131071, 1179647, 3801087, 8388607, 16777215] [(32, bA true)] fun G => b5 (rT G true (by kernel_rfl) (wp_seq (n6 G l6 [] fun G => b5 (wp_ret (m7 ?_))))); exact B5 false G (rg 4) (aY9 (by omega))
  · have q0 := bne_iff_ne.1 h0; refine aS1 G (E3 (A1 8 [] (ag7 e.kind) E2) (fc (a := decide (n < 1)) (b := false) (by assumption) (fc h0 (fc (b := true) rfl fz))) (us [(3, 9, 0), (1010, 1010, 0), (12, 14, 1), (1015, 1015, 1), (17, 23, 2), (1024, 1024, 2)])) [0, 1, 3, 7, 15, 31, 7, 71, 199, 511, 1023, 2047, 4095, 8191, 16383, 32767, 65535, 131071, 262143, 131071, 131071, 1179647, 3801087, 8388607, 16777215] [(32, bA true)] fun G => b5 (rT G true (by kernel_rfl) (wp_seq (n6 G l6 [] fun G => b5 (wp_ret (m7 ?_))))); exact B5 false G (rg 4) (aZ0 (by omega))
theorem aA1 (vs ars : List Int) (b : List b6) : ∀ (d : Nat), d ≤ 5 → ∀ (e : b7) (n : Int), n = d → t6.ok Try.prog ⟨167, [.agg [.ref 0, .ref 1, .ref 2], .agg [.v (.int .i64 e.kind), .v (.int .i64 e.value), .ref 3], .v (.int .i64 n)], [.dat (.ints vs), .dat (.ints ars), .dat (.stmts b), .dat (.exprs e.kids)], [.dat (.ints vs), .dat (.ints ars), .dat (.stmts b), .dat (.exprs e.kids)], .v (.bool (l5 vs.length ars.length d e))⟩
 | 0, _, e, n, hn => aH4 vs ars b e n (by omega)
 | d + 1, hd, e, n, hn => aH3 vs ars b d (by omega) (aA1 vs ars b d (by omega)) e n hn
theorem an8 (vs ars : List Int) (b : List b6) (ky vy : Int) (ks : List b7) (n : Int) (hn : n = 5) : t6.ok Try.prog (L4 167 [pA 0, .agg [iA ky, iA vy, .ref 3], iA n] [dI vs, dI ars, dT b, dE ks] (bA (l5 vs.length ars.length 5 ⟨ky, vy, ks⟩))) := aA1 vs ars b 5 (by omega) ⟨ky, vy, ks⟩ n hn
def cnP (d : Nat) (ks : List b7) (k : Nat) : Nat := 1 + ((ks.take k).map (W5 d)).sum
theorem bb5 (d : Nat) (ks : List b7) : cnP d ks 0 = 1 := rfl
theorem aB5 {d : Nat} {ks : List b7} {k : Nat} (hk : k < ks.length) : cnP d ks (k + 1) = cnP d ks k + W5 d (ks.getD k bh2) := by
 unfold cnP
 rw [J3 ks k hk, List.map_append, List.sum_append, w8 hk]
 simp; omega
theorem a28 {d : Nat} {e : b7} {k : Nat} (hk : e.kids.length ≤ k) : cnP d e.kids k = W5 (d + 1) e := by
 unfold cnP; rw [bf6 hk, W5]
section
variable {nv na d : Nat} {e : b7}
theorem aH1 (he : l5 nv na (d + 1) e = true) {k : Nat} (hk : k < e.kids.length) : l5 nv na d (e.kids.getD k bh2) = true := by
 rw [w8 hk]; exact (ac3 he).2 _ (bg4 hk)
theorem bb4 (hd : d ≤ 5) (he : l5 nv na d e = true) : W5 d e ≤ 1024 := by
 rw [aB4 nv na d e he]
 refine bi1 (aR1 nv na d e he) ?_
 exact bi1 (Nat.pow_le_pow_right (by decide) hd) (by decide)
theorem a56 (hd : d ≤ 4) (he : l5 nv na (d + 1) e = true) : ∀ k : Nat, k ≤ e.kids.length → cnP d e.kids k ≤ 1 + 1024 * k
 | 0, _ => by rw [bb5]; omega
 | k + 1, hk => by
  have h := a56 hd he k (by omega)
  have h2 := bb4 (by omega) (aH1 he (show k < e.kids.length by omega))
  rw [aB5 (by omega)]
  omega
end
abbrev cnC (d : Nat) (e : b7) (n : Int) : t6 := L4 168 [eA e 0, iA n] (eS e) (iA (W5 d e : Nat))
theorem aM1 (nv na d : Nat) (hd : d ≤ 4) (ih : ∀ (e : b7), l5 nv na d e = true → ∀ n : Int, n = d → t6.ok Try.prog (cnC d e n)) (e : b7) (he : l5 nv na (d + 1) e = true) (n : Int) (hn : n = (d + 1 : Nat)) : t6.ok Try.prog (cnC (d + 1) e n) := by
  have hk3 := (ac3 he).1; refine M7 29 Try.func168 [dE e.kids] [(0, eA e 0), (1, iA n)] fun G => ?_; refine wp_seq (B6 G l6 [0, 1] [dE e.kids, .box (eL e 0)] [(1, iA n), (2, .ptr 1 0), (4, iA 0)] fun G => b5 (wp_seq (n6 G l6 [(5, iA 1)] fun G => b5 (wp_seq (wp_seq (O5 G l6 [(1, iA n), (2, .ptr 1 0), (4, iA 0), (5, iA 1), (6, iA 0)] fun G => b5 (wp_block ?_))))))); refine E9 (κ := Nat) (fun k => k ≤ e.kids.length) (fun k => e.kids.length - k) (fun k => [dE e.kids, .box (eL e 0)]) (fun k => [(1, iA n), (2, .ptr 1 0), (4, iA 0), (5, iA (cnP d e.kids k : Nat)), (6, iA k)]) 0 (by omega) (B4.at G _ _) ?_; clear G; intro k ρ a w hp G; replace G := B4.at G [dE e.kids, .box (eL e 0)] [(1, iA n), (2, .ptr 1 0), (4, iA 0), (5, iA (↑(cnP d e.kids k) : Int)), (6, iA k)]; have hcb := a56 hd he k hp; refine wp_seq (wp_seq ?_); cases h0 : (decide ((k : Int) < e.kids.length))
  · have q0 := dFf h0; refine n6 G (N0 (fc h0 fz) [(6, 0), (7, 0), (1008, 0)]) [(15, bA false)] fun G => b5 (rF G false (by kernel_rfl) (wp_exit (E6 (E6 (E5 (b5 (wp_seq (B6 G l6 [0] [dE e.kids] [(4, iA (↑(cnP d e.kids k) : Int))] fun G => b5 (wp_ret ?_))))))))); exact Y6 ((↑(cnP d e.kids k) : Int)) G [0] (by rw [← a28 (k := k) (by omega)]; done)
  ·
   have q0 := dTt h0; refine O5 G (N0 (fc h0 fz) [(6, 0), (7, 0), (1008, 0)]) [(1, iA n), (2, .ptr 1 0), (4, iA 0), (5, iA (↑(cnP d e.kids k) : Int)), (6, iA k), (15, bA (decide (n > 0)))] fun G => b5 ?_; cases h1 : (decide (n > 0))
   · have q1 := dFf h1; exact False.elim (by omega)
   · have q1 := dTt h1; refine rT G _ h1 (wp_skip (b5 (wp_seq (wp_block (J6 G (Q6 8 [42] (ih (e.kids.getD k bh2) (aH1 he (by omega)) (n - 1) (by omega))) [(5, iA ((↑(cnP d e.kids k) : Int) + (↑(W5 d (e.kids.getD k bh2)) : Int)))] (iX k k e.kids.length ((wO (n - 1)) :: ((wO ((↑(cnP d e.kids k) : Int) + (↑(W5 d (e.kids.getD k bh2)) : Int))) :: []))) (iK (by omega) ⟨oW (by omega), ⟨(by have h9 := bb4 (nv := nv) (na := na) (d := d) (by omega) (aH1 he (show k < e.kids.length by omega)); exact w64 (by omega) (by omega)), bf4⟩⟩) fun G => I9 (b5 (J6 G l6 [(6, iA ((k : Int) + 1))] [wO ((k : Int) + 1)] (o1 (by omega)) fun G => b5 ?_))))))); exact rxn G (k + 1) (by omega) (by omega) [0, 1] (ht := by have e1 : ((↑(cnP d e.kids (k + 1)) : Int) : Int) = ((↑(cnP d e.kids k) : Int) + (↑(W5 d (e.kids.getD k bh2)) : Int)) := (by rw [aB5 (by omega)]; omega); (first | rw [e1] | simp only [e1]) <;> rfl)
theorem aA2 (nv na : Nat) : ∀ (d : Nat), d ≤ 5 → ∀ (e : b7), l5 nv na d e = true → ∀ n : Int, n = d → t6.ok Try.prog (cnC d e n)
 | 0, _, e, h, _, _ => by simp [l5] at h
 | d + 1, hd, e, h, n, hn => aM1 nv na d (by omega) (aA2 nv na d (by omega)) e h n hn
theorem aH6 (nv na : Nat) (ky vy : Int) (ks : List b7) (n : Int) (hn : n = 5) (h : l5 nv na 5 ⟨ky, vy, ks⟩ = true) : t6.ok Try.prog (L4 168 [.agg [iA ky, iA vy, .ref 0], iA n] [dE ks] (iA (W5 5 ⟨ky, vy, ks⟩ : Nat))) := aA2 nv na 5 (by omega) ⟨ky, vy, ks⟩ h n hn
theorem bd3 {nv na : Nat} {e : b7} (h : l5 nv na 5 ⟨e.kind, e.value, e.kids⟩ = false) : l8 nv na e = false := by
 rw [b7.eta] at h
 unfold l8; rw [h]; rfl
theorem bd2 {nv na : Nat} {e : b7} (h : l5 nv na 5 ⟨e.kind, e.value, e.kids⟩ = true) : l8 nv na e = decide ((W5 5 ⟨e.kind, e.value, e.kids⟩ : Int) ≤ 15) := by
 rw [b7.eta] at h ⊢
 rw [aF1, h, Bool.true_and, bh0]
 simp only [decide_eq_true_eq]; omega
section
variable {s : b6}
theorem be0 (h : s.kind = 4) (h2 : ¬ (s.els.length : Int) = 0) : t2 s = false := by
 unfold t2; rw [if_pos (.inr h), if_pos h, decide_eq_false (p := s.els.length = 0) (by omega)]; simp
theorem be3 (h : s.kind = 4) (h1 : s.target = 0) (h2 : (s.els.length : Int) = 0) (h3 : s.count ≥ 1) (h4 : s.count ≤ 3) (h5 : noneB s.index = true) : t2 s = noneB s.value := by
 unfold t2; rw [if_pos (.inr h), if_pos h, decide_eq_true (p := s.els.length = 0) (by omega), decide_eq_true h1, decide_eq_true (p := 1 ≤ s.count) h3, decide_eq_true h4, h5]; simp
theorem be2 (h3 : ¬ s.kind = 3) (h4 : ¬ s.kind = 4) (b : ¬ (s.body.length : Int) > 0) (e : ¬ (s.els.length : Int) > 0) (c : s.count = 0) (h2 : ¬ s.kind = 2) : t2 s = noneB s.index := by
 unfold t2; rw [if_neg (by omega), decide_eq_true (p := s.body.length = 0) (by omega), decide_eq_true (p := s.els.length = 0) (by omega), decide_eq_true c, decide_eq_false h2]; simp
theorem be1 (b : ¬ (s.body.length : Int) > 0) (e : ¬ (s.els.length : Int) > 0) (c : s.count = 0) (h2 : s.kind = 2) : t2 s = true := by
 unfold t2; rw [if_neg (by omega), decide_eq_true (p := s.body.length = 0) (by omega), decide_eq_true (p := s.els.length = 0) (by omega), decide_eq_true c, decide_eq_true h2]; simp
theorem bd9 (h3 : ¬ s.kind = 3) (h4 : ¬ s.kind = 4) (e : (s.els.length : Int) > 0) : t2 s = false := by
 unfold t2; rw [if_neg (by omega), decide_eq_false (p := s.els.length = 0) (by omega)]; simp
theorem bd8 (h3 : ¬ s.kind = 3) (h4 : ¬ s.kind = 4) (e : (s.body.length : Int) > 0) : t2 s = false := by
 unfold t2; rw [if_neg (by omega), decide_eq_false (p := s.body.length = 0) (by omega)]; simp
end
theorem G7 (p : l9) (e : b7) : t6.ok Try.prog (L4 100 [pA 0, eA e 3] (pS p ++ eS e) (bA (l8 p.vars.length p.arrays.length e))) := by
 have hcn := fun h => aH6 p.vars.length p.arrays.length e.kind e.value e.kids 5 rfl h
 refine M7 13 Try.func100 [dI p.vars, dI p.arrays, dT p.body, dE e.kids] [(0, pA 0), (1, eA e 3)] fun G => ?_; refine wp_seq (B6 G l6 [0, 1, 2, 3, 4, 12] [dI p.vars, dI p.arrays, dT p.body, dE e.kids, .box (pL 0), .box (eL e 3)] [(2, .ptr 4 0), (3, .ptr 5 0), (4, bA false)] fun G => b5 (wp_seq ?_)); cases h0 : (l5 p.vars.length p.arrays.length (5 : Nat) (qzE e))
 ·refine B6 G (E3 (A1 2 (rg 4) (an8 p.vars p.arrays p.body e.kind e.value e.kids 5 (by kernel_rfl)) E2) (fc h0 fz) [(4, 0), (5, 0), (6, 0), (1007, 0)]) (rg 4) [dI p.vars, dI p.arrays, dT p.body, dE e.kids] [(4, bA false)] fun G => b5 (wp_ret ?_); exact B5 false G (rg 4) (bd3 (by with_reducible assumption))
 ·refine B6 G (E3 (A1 2 (rg 4) (an8 p.vars p.arrays p.body e.kind e.value e.kids 5 (by kernel_rfl)) (A1 5 [3] (hcn (by assumption)) E2)) (fc h0 fz) [(4, 0), (5, 0), (6, 0), (1007, 0)]) (rg 4) [dI p.vars, dI p.arrays, dT p.body, dE e.kids] [(4, bA (decide ((↑(W5 5 (qzE e)) : Int) ≤ 15)))] fun G => b5 (wp_ret ?_); exact B5 (decide ((↑(W5 5 (qzE e)) : Int) ≤ 15)) G (rg 4) (bd2 (by with_reducible assumption))
abbrev ak0 (s : b6) (r0 : List It) : List It := dE s.index.kids :: dE s.value.kids :: dT s.body :: dT s.els :: r0
theorem aN9 (s : b6) : t6.ok Try.prog (L4 230 [sA s 0] (sS s) (bA (t2 s))) := by
  refine M7 74 Try.func230 (ak0 s []) [(0, sA s 0)] fun G => ?_; refine wp_seq (B6 G l6 (rg 5) (ak0 s [.box (sL s 0)]) [(1, .ptr 4 0), (2, bA false)] fun G => b5 (wp_seq ?_)); cases h0 : (s.kind == 3)
  ·
   have q0 := ne_of_beq_false h0; refine O5 G (N0 (fc h0 fz) [(4, 0), (5, 0), (6, 0), (1007, 0)]) [(1, .ptr 4 0), (2, bA false), (3, bA (s.kind == 4))] fun G => b5 (wp_seq (wp_seq ?_)); cases h1 : (!s.kind == 4)
   ·
    have q1 : s.kind = 4 := (fun hq => eq_of_beq hq) (Eq.mp (bg1 _) h1); cases h2 : (s.kind == 4)
    · have q2 := ne_of_beq_false h2; exact False.elim (by omega)
    ·
     have q2 := eq_of_beq h2; refine n6 G (N0 (fc h1 (fc (b := false) rfl (fc h2 fz))) (us [(3, 7, 0), (12, 12, 0), (1013, 1013, 0), (15, 16, 1), (17, 19, 2), (20, 20, 1), (1020, 1020, 2), (1021, 1021, 1)])) [(33, bA (s.target != 0))] fun G => b5 (rcN G (fun h3 q3 => ?_) fun h3 q3 => ?_)
     ·
      refine wp_skip (b5 (wp_seq (wp_seq (n6 G l6 [(36, bA (s.kind == 4))] fun G => b5 (rT G _ h2 (wp_seq ?_)))))); cases h4 : ((s.els.length : Int) == 0)
      · have q4 := ne_of_beq_false h4; refine n6 G (N0 (fc h4 (fc (b := false) rfl fz)) (us [(5, 7, 0), (1008, 1008, 0), (10, 12, 1), (1013, 1013, 1), (15, 17, 1), (1018, 1018, 1), (20, 22, 1), (1023, 1023, 1)])) [] fun G => b5 (wp_ret (m7 ?_)); exact B5 false G (rg 4) (be0 (by omega) (by omega))
      ·
       have q4 := eq_of_beq h4; cases h5 : (decide (s.count ≥ 1))
       · have q5 := dFf h5; refine n6 G (N0 (fc h4 (fc h5 (fc (b := false) rfl fz))) (us [(5, 7, 0), (1008, 1008, 0), (10, 12, 1), (1013, 1013, 1), (15, 17, 2), (1018, 1018, 2), (20, 22, 2), (1023, 1023, 2)])) [] fun G => b5 (wp_ret (m7 ?_)); exact B5 false G (rg 4) (by rw [bh0]; simp [t2, h0, q0, h1, q1, h2, q2, h3, q3, h4, q4, h5, q5]; done)
       ·
        have q5 := dTt h5; cases h6 : (decide (s.count ≤ 3))
        · have q6 := dFf h6; refine n6 G (N0 (fc h4 (fc h5 (fc h6 (fc (b := false) rfl fz)))) (us [(5, 7, 0), (1008, 1008, 0), (10, 12, 1), (1013, 1013, 1), (15, 17, 2), (1018, 1018, 2), (20, 22, 3), (1023, 1023, 3)])) [] fun G => b5 (wp_ret (m7 ?_)); exact B5 false G (rg 4) (by rw [bh0]; simp [t2, h0, q0, h1, q1, h2, q2, h3, q3, h4, q4, h5, q5, h6, q6]; done)
        ·
         have q6 := dTt h6; cases h7 : (noneB s.index)
         · refine n6 G (E3 (A1 17 [0] (Y0 s.index) E2) (fc h4 (fc h5 (fc h6 (fc h7 fz)))) (us [(5, 7, 0), (1008, 1008, 0), (10, 12, 1), (1013, 1013, 1), (15, 17, 2), (1018, 1018, 2), (20, 22, 3), (1023, 1023, 3)])) [] fun G => b5 (wp_ret (m7 ?_)); exact B5 false G (rg 4) (by rw [bh0]; simp [t2, h0, q0, h1, q1, h2, q2, h3, q3, h4, q4, h5, q5, h6, q6, h7]; done)
         · refine n6 G (E3 (A1 17 [0] (Y0 s.index) (A1 22 [1] (Y0 s.value) E2)) (fc h4 (fc h5 (fc h6 (fc h7 fz)))) (us [(5, 7, 0), (1008, 1008, 0), (10, 12, 1), (1013, 1013, 1), (15, 17, 2), (1018, 1018, 2), (20, 22, 3), (1023, 1023, 3)])) [(2, bA (noneB s.value))] fun G => b5 (wp_ret (m7 ?_)); exact B5 (noneB s.value) G (rg 4) (be3 (by omega) (by omega) (by omega) (by omega) (by omega) (by with_reducible assumption))
     · refine wp_seq (n6 G l6 [] fun G => b5 (wp_ret (m7 ?_))); exact B5 false G (rg 4) (by rw [bh0]; simp [t2, h0, q0, h1, q1, h2, q2, h3, q3]; done)
   ·
    have q1 : ¬ (s.kind = 4) := (fun hq => ne_of_beq_false hq) (Eq.mp (bf8 _) h1); cases h8 : (decide ((s.body.length : Int) > 0))
    ·
     have q8 := dFf h8; cases h9 : (decide ((s.els.length : Int) > 0))
     ·
      have q9 := dFf h9; cases h10 : (s.kind == 4)
      ·
       have q10 := ne_of_beq_false h10; refine n6 G (N0 (fc h1 (fc h8 (fc h9 (fc h10 fz)))) (us [(3, 7, 0), (8, 11, 1), (12, 12, 0), (1012, 1012, 1), (1013, 1013, 0), (15, 16, 2), (17, 19, 3), (20, 20, 2), (1020, 1020, 3), (1021, 1021, 2)])) [(33, bA false)] fun G => b5 (rF G false (by kernel_rfl) (wp_skip (b5 (wp_seq (wp_seq (n6 G l6 [(36, bA (s.kind == 4))] fun G => b5 (rF G _ h10 (wp_skip (b5 (wp_seq ?_)))))))))); cases h11 : (s.count == 0)
       · have q11 := ne_of_beq_false h11; refine B6 G (N0 (fc h11 fz) (us [(4, 7, 0), (11, 11, 0), (1012, 1012, 0)])) (rg 4) (ak0 s []) [(2, bA false)] fun G => b5 (wp_ret ?_); exact B5 false G (rg 4) (by rw [bh0]; simp [t2, h0, q0, h1, q1, h8, q8, h9, q9, h10, q10, h11, q11]; done)
       ·
        have q11 := eq_of_beq h11; cases h12 : (s.kind == 2)
        · have q12 := ne_of_beq_false h12; refine B6 G (E3 (A1 10 [0] (Y0 s.index) E2) (fc h11 (fc h12 fz)) (us [(4, 7, 0), (8, 10, 1), (11, 11, 0), (1011, 1011, 1), (1012, 1012, 0)])) (rg 4) (ak0 s []) [(2, bA (noneB s.index))] fun G => b5 (wp_ret ?_); exact B5 (noneB s.index) G (rg 4) (be2 (by omega) (by omega) (by omega) (by omega) (by omega) (by omega))
        · have q12 := eq_of_beq h12; refine B6 G (N0 (fc h11 (fc h12 fz)) (us [(4, 7, 0), (8, 10, 1), (11, 11, 0), (1011, 1011, 1), (1012, 1012, 0)])) (rg 4) (ak0 s []) [(2, bA true)] fun G => b5 (wp_ret ?_); exact B5 true G (rg 4) (be1 (by omega) (by omega) (by omega) (by omega))
      · have q10 := eq_of_beq h10; exact False.elim (by omega)
     · have q9 := dTt h9; refine n6 G (N0 (fc h1 (fc h8 (fc h9 fz))) (us [(3, 7, 0), (8, 11, 1), (12, 12, 0), (1012, 1012, 1), (1013, 1013, 0), (15, 16, 2), (20, 20, 2), (1021, 1021, 2)])) [(33, bA true)] fun G => b5 (rT G true (by kernel_rfl) (wp_seq (n6 G l6 [] fun G => b5 (wp_ret (m7 ?_))))); exact B5 false G (rg 4) (bd9 (by omega) (by omega) (by omega))
    · have q8 := dTt h8; refine n6 G (N0 (fc h1 (fc h8 (fc (b := true) rfl fz))) (us [(3, 7, 0), (8, 11, 1), (12, 12, 0), (1012, 1012, 1), (1013, 1013, 0), (15, 16, 2), (20, 20, 2), (1021, 1021, 2)])) [(33, bA true)] fun G => b5 (rT G true (by kernel_rfl) (wp_seq (n6 G l6 [] fun G => b5 (wp_ret (m7 ?_))))); exact B5 false G (rg 4) (bd8 (by omega) (by omega) (by omega))
  ·
   have q0 := eq_of_beq h0; refine n6 G (N0 (fc h0 fz) [(4, 0), (5, 0), (6, 0), (1007, 0)]) [(3, bA true)] fun G => b5 (wp_seq (wp_seq (n6 G (N0 (fc (b := false) rfl (fc (b := true) rfl fz)) (us [(3, 7, 0), (12, 12, 0), (1013, 1013, 0), (15, 16, 0), (17, 19, 1), (20, 20, 0), (1020, 1020, 1), (1021, 1021, 0)])) [(33, bA (s.target != 0))] fun G => b5 (rcN G (fun h13 q13 => ?_) fun h13 q13 => ?_))))
   ·
    refine wp_skip (b5 (wp_seq (wp_seq (O5 G l6 [(1, .ptr 4 0), (2, bA false), (36, bA (s.kind == 4))] fun G => b5 ?_)))); cases h14 : (s.kind == 4)
    ·
     have q14 := ne_of_beq_false h14; refine rF G _ h14 (wp_skip (b5 (wp_seq ?_))); cases h15 : (s.count == 0)
     · have q15 := ne_of_beq_false h15; refine B6 G (N0 (fc h15 fz) (us [(4, 7, 0), (11, 11, 0), (1012, 1012, 0)])) (rg 4) (ak0 s []) [(2, bA false)] fun G => b5 (wp_ret ?_); exact B5 false G (rg 4) (by rw [bh0]; simp [t2, h0, q0, h13, q13, h14, q14, h15, q15]; done)
     ·
      have q15 := eq_of_beq h15; cases h16 : (s.kind == 2)
      · have q16 := ne_of_beq_false h16; refine B6 G (E3 (A1 10 [0] (Y0 s.index) E2) (fc h15 (fc h16 fz)) (us [(4, 7, 0), (8, 10, 1), (11, 11, 0), (1011, 1011, 1), (1012, 1012, 0)])) (rg 4) (ak0 s []) [(2, bA (noneB s.index))] fun G => b5 (wp_ret ?_); exact B5 (noneB s.index) G (rg 4) (by rw [bh0]; simp [t2, h0, q0, h13, q13, h14, q14, h15, q15, h16, q16]; done)
      · have q16 := eq_of_beq h16; exact False.elim (by omega)
    · have q14 := eq_of_beq h14; exact False.elim (by omega)
   · refine wp_seq (n6 G l6 [] fun G => b5 (wp_ret (m7 ?_))); exact B5 false G (rg 4) (by rw [bh0]; simp [t2, h0, q0, h13, q13]; done)
abbrev vbC (p : l9) (d : Nat) (ss : List b6) (n : Int) : t6 := L4 141 [pA 0, .ref 3, iA n] (pS p ++ [dT ss]) (bA (ss.all (s9 p.vars.length p.arrays.length d)))
abbrev vsC (p : l9) (d : Nat) (s : b6) (n : Int) : t6 := L4 188 [pA 0, sA s 3, iA n] (pS p ++ sS s) (bA (s9 p.vars.length p.arrays.length d s))
theorem aM0 (p : l9) (s : b6) (n : Int) (hn : n = 0) : t6.ok Try.prog (vsC p 0 s n) := by
 refine M7 96 Try.func188 [dI p.vars, dI p.arrays, dT p.body, dE s.index.kids, dE s.value.kids, dT s.body, dT s.els] [(0, pA 0), (1, sA s 3), (2, iA n)] fun G => ?_; refine wp_seq (B6 G l6 [0, 1, 2, 3, 4, 5, 6, 7, 15] [dI p.vars, dI p.arrays, dT p.body, dE s.index.kids, dE s.value.kids, dT s.body, dT s.els, .box (pL 0), .box (sL s 3)] [(2, iA n), (3, .ptr 7 0), (4, .ptr 8 0), (6, bA false)] fun G => b5 (wp_seq (wp_seq ?_))); cases h0 : (decide (n < 1))
 ·have q0 := dFf h0; exact False.elim (by omega)
 ·have q0 := dTt h0; refine n6 G (N0 (fc h0 fz) [(3, 0), (4, 0), (5, 0), (1006, 0)]) [(13, bA true)] fun G => b5 (rT G true (by kernel_rfl) (wp_seq (n6 G l6 [] fun G => b5 (wp_ret (m7 ?_))))); exact rxr G (rg 7)
section
variable {nv na d : Nat} {s : b6}
theorem bc8 (h : t2 s = false) : s9 nv na (d + 1) s = false := by rw [s9, h]; rfl
theorem a65 (hp : t2 s = true) (h : s.kind = 1 ∨ s.kind = 5) : s9 nv na (d + 1) s = (decide (0 ≤ s.target) && decide (s.target < nv) && l8 nv na s.value) := by rw [s9, hp, if_pos h]; rfl
theorem aQ8 (hp : t2 s = true) (h : s.kind = 2) : s9 nv na (d + 1) s = (decide (0 ≤ s.target) && decide (s.target < na) && l8 nv na s.index && J5 s.index && l8 nv na s.value) := by rw [s9, hp, if_neg (by omega), if_pos h]; rfl
theorem a64 (hp : t2 s = true) (h : s.kind = 3) : s9 nv na (d + 1) s = (l8 nv na s.value && s.body.all (s9 nv na d) && s.els.all (s9 nv na d)) := by rw [s9, hp, if_neg (by omega), if_neg (by omega), if_pos h]; rfl
theorem bc9 (hp : t2 s = true) (h : s.kind = 4) : s9 nv na (d + 1) s = s.body.all (s9 nv na d) := by rw [s9, hp, if_neg (by omega), if_neg (by omega), if_neg (by omega), if_pos h]; rfl
theorem a44 (hp : t2 s = true) (h : s.kind = 1 ∨ s.kind = 5) (q : ¬ s.target ≥ 0) : s9 nv na (d + 1) s = false := by rw [a65 hp h, decide_eq_false (p := 0 ≤ s.target) q]; rfl
theorem a43 (hp : t2 s = true) (h : s.kind = 1 ∨ s.kind = 5) (q : ¬ s.target < (nv : Int)) : s9 nv na (d + 1) s = false := by rw [a65 hp h, decide_eq_false q, Bool.and_false]; rfl
theorem a42 (hp : t2 s = true) (h : s.kind = 1 ∨ s.kind = 5) (q : s.target ≥ 0) (r : s.target < (nv : Int)) : s9 nv na (d + 1) s = l8 nv na s.value := by rw [a65 hp h, decide_eq_true (p := 0 ≤ s.target) q, decide_eq_true r]; rfl
theorem a97 (hp : t2 s = true) (h : s.kind = 2) (q : ¬ s.target ≥ 0) : s9 nv na (d + 1) s = false := by rw [aQ8 hp h, decide_eq_false (p := 0 ≤ s.target) q]; rfl
theorem a96 (hp : t2 s = true) (h : s.kind = 2) (q : ¬ s.target < (na : Int)) : s9 nv na (d + 1) s = false := by rw [aQ8 hp h, decide_eq_false q, Bool.and_false]; rfl
theorem a95 (hp : t2 s = true) (h : s.kind = 2) (q : l8 nv na s.index = false) : s9 nv na (d + 1) s = false := by rw [aQ8 hp h, q, Bool.and_false]; rfl
theorem a94 (hp : t2 s = true) (h : s.kind = 2) (q : J5 s.index = false) : s9 nv na (d + 1) s = false := by rw [aQ8 hp h, q, Bool.and_false]; rfl
theorem a93 (hp : t2 s = true) (h : s.kind = 2) (q : s.target ≥ 0) (r : s.target < (na : Int)) (u : l8 nv na s.index = true) (v : J5 s.index = true) : s9 nv na (d + 1) s = l8 nv na s.value := by rw [aQ8 hp h, decide_eq_true (p := 0 ≤ s.target) q, decide_eq_true r, u, v]; rfl
theorem a92 (hp : t2 s = true) (h : s.kind = 3) (q : l8 nv na s.value = false) : s9 nv na (d + 1) s = false := by rw [a64 hp h, q]; rfl
theorem a91 (hp : t2 s = true) (h : s.kind = 3) (q : s.body.all (s9 nv na d) = false) : s9 nv na (d + 1) s = false := by rw [a64 hp h, q, Bool.and_false]; rfl
theorem a90 (hp : t2 s = true) (h : s.kind = 3) (q : l8 nv na s.value = true) (r : s.body.all (s9 nv na d) = true) : s9 nv na (d + 1) s = s.els.all (s9 nv na d) := by rw [a64 hp h, q, r]; rfl
theorem bd0 (h1 : ¬ s.kind = 1) (h2 : ¬ s.kind = 2) (h3 : ¬ s.kind = 3) (h4 : ¬ s.kind = 4) (h5 : ¬ s.kind = 5) : s9 nv na (d + 1) s = false := by rw [s9, if_neg (by omega), if_neg h2, if_neg h3, if_neg h4]; simp
end
abbrev K6 (p : l9) (s : b6) (r0 : List It) : List It := dI p.vars :: dI p.arrays :: dT p.body :: dE s.index.kids :: dE s.value.kids :: dT s.body :: dT s.els :: r0
theorem aR3 (p : l9) (d : Nat) (hB : ∀ (ss : List b6) (n : Int), n = d → t6.ok Try.prog (vbC p d ss n)) (s : b6) (n : Int) (hn : n = (d + 1 : Nat)) (hd : d ≤ 5) : t6.ok Try.prog (vsC p (d + 1) s n) := by
  refine M7 96 Try.func188 (K6 p s []) [(0, pA 0), (1, sA s 3), (2, iA n)] fun G => ?_; refine wp_seq (B6 G l6 [0, 1, 2, 3, 4, 5, 6, 7, 15] (K6 p s [.box (pL 0), .box (sL s 3)]) [(2, iA n), (3, .ptr 7 0), (4, .ptr 8 0), (6, bA false)] fun G => b5 (wp_seq (wp_seq ?_))); cases h0 : (decide (n < 1))
  ·
   have q0 := dFf h0; refine n6 G (E3 (A1 4 [3, 4, 5, 6] (aN9 s) E2) (fc h0 fz) [(3, 0), (4, 0), (5, 0), (1006, 0)]) [(13, .v (.bool !t2 s))] fun G => b5 ?_; cases h1 : (!t2 s)
   ·
    have q1 : (t2 s) = true := (Eq.mp (bg1 _) h1); refine rF G _ h1 (wp_skip (b5 (wp_seq (wp_seq (n6 G l6 [(15, iA s.kind)] fun G => b5 (wp_block (wp_seq (wp_seq (n6 G l6 [(16, bA (s.kind == 1))] fun G => b5 (rcE G (fun h2 q2 => ?_) fun h2 q2 => ?_))))))))))
    ·
     refine n6 G l6 [(16, bA (s.kind == 5))] fun G => b5 (rcE G (fun h3 q3 => ?_) fun h3 q3 => ?_)
     ·
      refine wp_seq (n6 G l6 [(36, bA (s.kind == 2))] fun G => b5 (rcE G (fun h4 q4 => ?_) fun h4 q4 => ?_))
      ·
       refine wp_seq (n6 G l6 [(66, bA (s.kind == 3))] fun G => b5 (rcE G (fun h5 q5 => ?_) fun h5 q5 => ?_))
       ·
        refine wp_seq (n6 G l6 [(88, bA (s.kind == 4))] fun G => b5 (rcE G (fun h6 q6 => ?_) fun h6 q6 => ?_))
        · refine wp_skip (I9 (b5 (wp_seq (B6 G l6 (rg 7) (K6 p s []) [(6, bA false)] fun G => b5 (wp_ret ?_))))); exact B5 false G (rg 7) (bd0 (by omega) (by omega) (by omega) (by omega) (by omega))
        · refine wp_seq (rA1 G (Q6 5 [0, 1, 2, 5] (hB s.body (n - 1) (by omega))) (rg 7) (K6 p s []) [(6, bA (s.body.all (s9 p.vars.length p.arrays.length d)))] [wO (n - 1)] (o1 (by omega)) fun G => b5 (wp_ret (B8 (m7 ?_)))); exact B5 (s.body.all (s9 p.vars.length p.arrays.length d)) G (rg 7) (bc9 (by with_reducible assumption) (by omega))
       ·
        refine wp_seq ?_; cases h7 : (l8 p.vars.length p.arrays.length s.value)
        · refine B6 G (E3 (A1 3 [0, 1, 2, 4] (G7 p s.value) E2) (fc h7 (fc (b := false) rfl fz)) (us [(5, 10, 0), (1011, 1011, 0), (13, 18, 1), (1019, 1019, 1)])) (rg 7) (K6 p s []) [(6, bA false)] fun G => b5 (wp_ret (B8 (m7 ?_))); exact B5 false G (rg 7) (a92 (by with_reducible assumption) (by omega) (by with_reducible assumption))
        ·
         cases h8 : (s.body.all (s9 p.vars.length p.arrays.length d))
         · refine rA1 G (E3 (A1 3 [0, 1, 2, 4] (G7 p s.value) (A1 10 [0, 1, 2, 5] (hB s.body (n - 1) (by omega)) E2)) (fc h7 (fc h8 fz)) (us [(5, 10, 0), (1011, 1011, 0), (13, 18, 1), (1019, 1019, 1)])) (rg 7) (K6 p s []) [(6, bA false)] [wO (n - 1)] (o1 (by omega)) fun G => b5 (wp_ret (B8 (m7 ?_))); exact B5 false G (rg 7) (a91 (by with_reducible assumption) (by omega) (by with_reducible assumption))
         · refine rA1 G (E3 (A1 3 [0, 1, 2, 4] (G7 p s.value) (A1 10 [0, 1, 2, 5] (hB s.body (n - 1) (by omega)) (A1 18 [0, 1, 2, 6] (hB s.els (n - 1) (by omega)) E2))) (fc h7 (fc h8 fz)) (us [(5, 10, 0), (1011, 1011, 0), (13, 18, 1), (1019, 1019, 1)])) (rg 7) (K6 p s []) [(6, bA (s.els.all (s9 p.vars.length p.arrays.length d)))] [wO (n - 1), wO (n - 1)] (o2 (by omega)) fun G => b5 (wp_ret (B8 (m7 ?_))); exact B5 (s.els.all (s9 p.vars.length p.arrays.length d)) G (rg 7) (a90 (by with_reducible assumption) (by omega) (by with_reducible assumption) (by with_reducible assumption))
      ·
       refine wp_seq ?_; cases h9 : (decide (s.target ≥ 0))
       · have q9 := dFf h9; refine B6 G (N0 (fc h9 (fc (b := false) rfl fz)) (us [(4, 9, 0), (1010, 1010, 0), (12, 15, 1), (1016, 1016, 1), (18, 20, 1), (1021, 1021, 1), (23, 26, 1), (1027, 1027, 1)])) (rg 7) (K6 p s []) [(6, bA false)] fun G => b5 (wp_ret (B8 (m7 ?_))); exact B5 false G (rg 7) (a97 (by with_reducible assumption) (by omega) (by omega))
       ·
        have q9 := dTt h9; cases h10 : (decide (s.target < (p.arrays.length : Int)))
        · have q10 := dFf h10; refine B6 G (N0 (fc h9 (fc h10 (fc (b := false) rfl fz))) (us [(4, 9, 0), (1010, 1010, 0), (12, 15, 1), (1016, 1016, 1), (18, 20, 2), (1021, 1021, 2), (23, 26, 2), (1027, 1027, 2)])) (rg 7) (K6 p s []) [(6, bA false)] fun G => b5 (wp_ret (B8 (m7 ?_))); exact B5 false G (rg 7) (a96 (by with_reducible assumption) (by omega) (by omega))
        ·
         have q10 := dTt h10; cases h11 : (l8 p.vars.length p.arrays.length s.index)
         · refine B6 G (E3 (A1 15 (rg 4) (G7 p s.index) E2) (fc h9 (fc h10 (fc h11 (fc (b := false) rfl fz)))) (us [(4, 9, 0), (1010, 1010, 0), (12, 15, 1), (1016, 1016, 1), (18, 20, 2), (1021, 1021, 2), (23, 26, 3), (1027, 1027, 3)])) (rg 7) (K6 p s []) [(6, bA false)] fun G => b5 (wp_ret (B8 (m7 ?_))); exact B5 false G (rg 7) (a95 (by with_reducible assumption) (by omega) (by with_reducible assumption))
         ·
          cases h12 : (J5 s.index)
          · refine B6 G (E3 (A1 15 (rg 4) (G7 p s.index) (A1 20 [3] (an9 s.index) E2)) (fc h9 (fc h10 (fc h11 (fc h12 fz)))) (us [(4, 9, 0), (1010, 1010, 0), (12, 15, 1), (1016, 1016, 1), (18, 20, 2), (1021, 1021, 2), (23, 26, 3), (1027, 1027, 3)])) (rg 7) (K6 p s []) [(6, bA false)] fun G => b5 (wp_ret (B8 (m7 ?_))); exact B5 false G (rg 7) (a94 (by with_reducible assumption) (by omega) (by with_reducible assumption))
          · refine B6 G (E3 (A1 15 (rg 4) (G7 p s.index) (A1 20 [3] (an9 s.index) (A1 26 [0, 1, 2, 4] (G7 p s.value) E2))) (fc h9 (fc h10 (fc h11 (fc h12 fz)))) (us [(4, 9, 0), (1010, 1010, 0), (12, 15, 1), (1016, 1016, 1), (18, 20, 2), (1021, 1021, 2), (23, 26, 3), (1027, 1027, 3)])) (rg 7) (K6 p s []) [(6, bA (l8 p.vars.length p.arrays.length s.value))] fun G => b5 (wp_ret (B8 (m7 ?_))); exact B5 (l8 p.vars.length p.arrays.length s.value) G (rg 7) (a93 (by with_reducible assumption) (by omega) (by omega) (by omega) (by with_reducible assumption) (by with_reducible assumption))
     ·
      refine wp_seq ?_; cases h13 : (decide (s.target ≥ 0))
      · have q13 := dFf h13; refine B6 G (N0 (fc h13 (fc (b := false) rfl fz)) (us [(4, 9, 0), (1010, 1010, 0), (12, 15, 1), (1016, 1016, 1)])) (rg 7) (K6 p s []) [(6, bA false)] fun G => b5 (wp_ret (B8 (m7 ?_))); exact B5 false G (rg 7) (a44 (by with_reducible assumption) (by omega) (by omega))
      ·
       have q13 := dTt h13; cases h14 : (decide (s.target < (p.vars.length : Int)))
       · have q14 := dFf h14; refine B6 G (N0 (fc h13 (fc h14 fz)) (us [(4, 9, 0), (1010, 1010, 0), (12, 15, 1), (1016, 1016, 1)])) (rg 7) (K6 p s []) [(6, bA false)] fun G => b5 (wp_ret (B8 (m7 ?_))); exact B5 false G (rg 7) (a43 (by with_reducible assumption) (by omega) (by omega))
       · have q14 := dTt h14; refine B6 G (E3 (A1 15 [0, 1, 2, 4] (G7 p s.value) E2) (fc h13 (fc h14 fz)) (us [(4, 9, 0), (1010, 1010, 0), (12, 15, 1), (1016, 1016, 1)])) (rg 7) (K6 p s []) [(6, bA (l8 p.vars.length p.arrays.length s.value))] fun G => b5 (wp_ret (B8 (m7 ?_))); exact B5 (l8 p.vars.length p.arrays.length s.value) G (rg 7) (a42 (by with_reducible assumption) (by omega) (by omega) (by omega))
    ·
     refine wp_skip (b5 (rT G _ h2 (wp_seq ?_))); cases h15 : (decide (s.target ≥ 0))
     · have q15 := dFf h15; refine B6 G (N0 (fc h15 (fc (b := false) rfl fz)) (us [(4, 9, 0), (1010, 1010, 0), (12, 15, 1), (1016, 1016, 1)])) (rg 7) (K6 p s []) [(6, bA false)] fun G => b5 (wp_ret (B8 (m7 ?_))); exact B5 false G (rg 7) (a44 (by with_reducible assumption) (by omega) (by omega))
     ·
      have q15 := dTt h15; cases h16 : (decide (s.target < (p.vars.length : Int)))
      · have q16 := dFf h16; refine B6 G (N0 (fc h15 (fc h16 fz)) (us [(4, 9, 0), (1010, 1010, 0), (12, 15, 1), (1016, 1016, 1)])) (rg 7) (K6 p s []) [(6, bA false)] fun G => b5 (wp_ret (B8 (m7 ?_))); exact B5 false G (rg 7) (a43 (by with_reducible assumption) (by omega) (by omega))
      · have q16 := dTt h16; refine B6 G (E3 (A1 15 [0, 1, 2, 4] (G7 p s.value) E2) (fc h15 (fc h16 fz)) (us [(4, 9, 0), (1010, 1010, 0), (12, 15, 1), (1016, 1016, 1)])) (rg 7) (K6 p s []) [(6, bA (l8 p.vars.length p.arrays.length s.value))] fun G => b5 (wp_ret (B8 (m7 ?_))); exact B5 (l8 p.vars.length p.arrays.length s.value) G (rg 7) (a42 (by with_reducible assumption) (by omega) (by omega) (by omega))
   · have q1 : (t2 s) = false := (Eq.mp (bf8 _) h1); refine rT G _ h1 (wp_seq (n6 G l6 [] fun G => b5 (wp_ret (m7 ?_)))); exact B5 false G (rg 7) (bc8 (by with_reducible assumption))
  · have q0 := dTt h0; exact False.elim (by omega)
theorem bc1 {nv na d : Nat} {ss : List b6} {k : Nat} (hk : k < ss.length) (h : s9 nv na d (ss.getD k bh2) = false) : ss.all (s9 nv na d) = false := by
 rw [w8 hk] at h
 exact aj2 hk h
theorem aq6 (p : l9) (d : Nat) (hd : d ≤ 5) (hS : ∀ (s : b6) (n : Int), n = d → t6.ok Try.prog (vsC p d s n)) (ss : List b6) (n : Int) (hn : n = d) : t6.ok Try.prog (vbC p d ss n) := by
  refine M7 22 Try.func141 [dI p.vars, dI p.arrays, dT p.body, dT ss] [(0, pA 0), (1, .ref 3), (2, iA n)] fun G => ?_; refine wp_seq (B6 G l6 (rg 5) [dI p.vars, dI p.arrays, dT p.body, dT ss, .box (pL 0)] [(1, .ref 3), (2, iA n), (3, .ptr 4 0), (6, bA false)] fun G => b5 (wp_seq (wp_seq (O5 G l6 [(1, .ref 3), (2, iA n), (3, .ptr 4 0), (6, bA false), (7, iA 0)] fun G => b5 (wp_block ?_))))); refine E9 (κ := Nat) (fun k => k ≤ ss.length ∧ (ss.take k).all (s9 p.vars.length p.arrays.length d) = true) (fun k => ss.length - k) (fun k => [dI p.vars, dI p.arrays, dT p.body, dT ss, .box (pL 0)]) (fun k => [(1, .ref 3), (2, iA n), (3, .ptr 4 0), (6, bA false), (7, iA k)]) 0 (by simp) (B4.at G _ _) ?_; clear G; intro k ρ a w hp G; have hlen : ss.length ≤ 9223372036854775807 := G.len 3 (d := .stmts ss) (by kernel_rfl); refine wp_seq (wp_seq (O5 G l6 [(1, .ref 3), (2, iA n), (3, .ptr 4 0), (6, bA false), (7, iA k), (11, bA (decide ((k : Int) < ss.length)))] fun G => b5 (rcD G (fun h0 q0 => ?_) fun h0 q0 => ?_)))
  · refine wp_exit (E6 (E6 (E5 (b5 (wp_seq (B6 G l6 (rg 4) [dI p.vars, dI p.arrays, dT p.body, dT ss] [(6, bA true)] fun G => b5 (wp_ret ?_))))))); exact B5 true G (rg 4) (ao5 hp.2 (by omega))
  ·
   refine wp_skip (b5 (wp_seq (wp_block (wp_seq (at6 G (Q6 6 [0, 1, 2, 37, 38, 39, 40] (hS (ss.getD k bh2) n (by assumption))) [0, 0, 0, 6, 14, 0, 63, 127] [(21, .v (.bool !s9 p.vars.length p.arrays.length d (ss.getD k bh2)))] (iX k k ss.length []) (iK (by omega) bf4) fun G => b5 ?_))))); cases h1 : (!s9 p.vars.length p.arrays.length d (ss.getD k bh2))
   · have q1 : (s9 p.vars.length p.arrays.length d (ss.getD k bh2)) = true := (Eq.mp (bg1 _) h1); refine rF G _ h1 (wp_skip (I9 (b5 (J6 G l6 [(7, iA ((k : Int) + 1))] [wO ((k : Int) + 1)] (o1 (by omega)) fun G => b5 ?_)))); exact rxn G (k + 1) (⟨by omega, ae7 hp.2 (by omega) (by assumption)⟩) (by omega) (rg 5)
   · have q1 : (s9 p.vars.length p.arrays.length d (ss.getD k bh2)) = false := (Eq.mp (bf8 _) h1); refine rT G _ h1 (wp_seq (n6 G l6 [] fun G => b5 (wp_ret (B8 (m7 (m7 (B8 (m7 ?_)))))))); exact B5 false G (rg 4) (bc1 (k := k) (by omega) (by with_reducible assumption))
theorem aJ6 (p : l9) : ∀ (d : Nat), d ≤ 5 → ∀ (s : b6) (n : Int), n = d → t6.ok Try.prog (vsC p d s n)
 | 0, _, s, n, hn => aM0 p s n hn
 | d + 1, hd, s, n, hn => aR3 p d (fun ss n hn => aq6 p d (by omega) (aJ6 p d (by omega)) ss n hn) s n hn (by omega)
theorem aO1 (p : l9) (ss : List b6) (n : Int) (hn : n = 5) : t6.ok Try.prog (L4 141 [pA 0, .ref 3, iA n] (pS p ++ [.dat (.stmts ss)]) (bA (ac2 p.vars.length p.arrays.length 5 ss))) :=
 aq6 p 5 (by omega) (aJ6 p 5 (by omega)) ss n hn
def D4 : Nat → List b6 → Nat
 | 0, ss => ss.length
 | d + 1, ss => ss.length + (ss.map fun s => D4 d s.body + D4 d s.els).sum
def szP (d : Nat) (ss : List b6) (k : Nat) : Nat := ss.length + ((ss.take k).map fun s => D4 d s.body + D4 d s.els).sum
theorem aY1 (d : Nat) (ss : List b6) {k : Nat} (h : ss.length ≤ k) : szP d ss k = D4 (d + 1) ss := by unfold szP; rw [bf6 h, D4]
theorem ak6 {d : Nat} {ss : List b6} {k : Nat} (h : k < ss.length) : szP d ss (k + 1) = szP d ss k + (D4 d (ss.getD k bh2).body + D4 d (ss.getD k bh2).els) := by
 unfold szP
 rw [J3 ss k h, List.map_append, List.sum_append, w8 h]
 simp; omega
theorem aQ9 : ∀ (d : Nat) (ss : List b6), D4 d ss ≤ t7 ss := by
 intro d
 induction d with
 | zero => intro ss; exact R9 ss
 | succ d ih =>
  intro ss
  induction ss with
  | nil => simp [D4]
  | cons s r ihr =>
   have h1 := ih s.body
   have h2 := ih s.els
   have h3 := aq2 s
   simp only [D4, bh1, List.sum_cons, bi0, t7] at ihr ⊢
   have h4 : t7 s.body + t7 s.els ≤ szS s := by
    rcases s with ⟨_, _, _, _, _, b, e⟩
    simp only [szS, b6.body, b6.els]; omega
   omega
theorem aD9 {d : Nat} {ss : List b6} {k : Nat} : szP d ss k ≤ t7 ss := by
 refine bi1 ?_ (aQ9 (d + 1) ss)
 unfold szP
 rw [D4]
 have : ∀ (l : List Nat) (k : Nat), (l.take k).sum ≤ l.sum := fun l k => by
  have := List.sum_append (l₁ := l.take k) (l₂ := l.drop k)
  rw [List.take_append_drop] at this; omega
 have h := this (ss.map fun s => D4 d s.body + D4 d s.els) k
 rw [← List.map_take] at h
 omega
theorem aL1 {ss : List b6} {k B : Nat} (h : t7 ss ≤ B) (hk : k < ss.length) : t7 (ss.getD k bh2).body ≤ B ∧ t7 (ss.getD k bh2).els ≤ B := by
 rw [w8 hk]
 have h1 := aI2 (bg4 hk)
 have h2 := aq2 ss[k]
 omega
theorem aN8 (ss : List b6) (n : Int) (hn : n = 1) (hb : t7 ss ≤ 1048576) : t6.ok Try.prog (L4 142 [.ref 0, iA n] [.dat (.stmts ss)] (iA (D4 0 ss : Nat))) := by
 have h100 : decide (n > 1) = false := by simp; omega
 refine M7 39 Try.func142 [dT ss] [(0, .ref 0), (1, iA n)] fun G => ?_; refine wp_seq (n6 G l6 [(4, iA 0)] fun G => b5 (wp_seq (n6 G l6 [(5, iA (ss.length : Int))] fun G => b5 (wp_seq (wp_seq (O5 G l6 [(0, .ref 0), (1, iA n), (4, iA 0), (5, iA (ss.length : Int)), (6, iA 0)] fun G => b5 (wp_block ?_))))))); refine E9 (κ := Nat) (fun k => k = 0) (fun k => 0) (fun k => [dT ss]) (fun k => [(0, .ref 0), (1, iA n), (4, iA 0), (5, iA (ss.length : Nat)), (6, iA k)]) 0 (by kernel_rfl) (B4.at G _ _) ?_; clear G; intro k ρ a w hp G; replace G := B4.at G [dT ss] [(0, .ref 0), (1, iA n), (4, iA 0), (5, iA (ss.length : Int)), (6, iA k)]; refine wp_seq (wp_seq ?_); cases h0 : (decide ((k : Int) < ss.length))
 ·have q0 := dFf h0; refine n6 G (N0 (fc h0 fz) [(5, 0), (6, 0), (1007, 0)]) [(16, bA false)] fun G => b5 (rF G false (by kernel_rfl) (wp_exit (E6 (E6 (E5 (b5 (wp_seq (n6 G l6 [(4, iA (ss.length : Int))] fun G => b5 (wp_ret ?_))))))))); exact rxr G [0]
 ·have q0 := dTt h0; refine n6 G (N0 (fc h0 fz) [(5, 0), (6, 0), (1007, 0)]) [(16, bA (decide (n > 1)))] fun G => b5 (rF G (decide (n > 1)) (by assumption) (wp_exit (E6 (E6 (E5 (b5 (wp_seq (n6 G l6 [(4, iA (ss.length : Int))] fun G => b5 (wp_ret ?_))))))))); exact rxr G [0]
theorem aN6 (d : Nat) (hd : d ≤ 5) (ih : ∀ (ss : List b6) (n : Int), n = (d + 1 : Nat) → t7 ss ≤ 1048576 → t6.ok Try.prog (L4 142 [.ref 0, iA n] [.dat (.stmts ss)] (iA (D4 d ss : Nat))))
  (ss : List b6) (n : Int) (hn : n = (d + 2 : Nat)) (hb : t7 ss ≤ 1048576) : t6.ok Try.prog (L4 142 [.ref 0, iA n] [.dat (.stmts ss)] (iA (D4 (d + 1) ss : Nat))) := by
 have h100 : decide (n > 1) = true := by simp; omega
 refine M7 39 Try.func142 [dT ss] [(0, .ref 0), (1, iA n)] fun G => ?_; refine wp_seq (n6 G l6 [(4, iA 0)] fun G => b5 (wp_seq (n6 G l6 [(5, iA (ss.length : Int))] fun G => b5 (wp_seq (wp_seq (O5 G l6 [(0, .ref 0), (1, iA n), (4, iA 0), (5, iA (ss.length : Int)), (6, iA 0)] fun G => b5 (wp_block ?_))))))); refine E9 (κ := Nat) (fun k => k ≤ ss.length) (fun k => ss.length - k) (fun k => [dT ss]) (fun k => [(0, .ref 0), (1, iA n), (4, iA 0), (5, iA (szP d ss k : Nat)), (6, iA k)]) 0 (by omega) (B4.at G _ _) ?_; clear G; intro k ρ a w hp G; replace G := B4.at G [dT ss] [(0, .ref 0), (1, iA n), (4, iA 0), (5, iA (↑(szP d ss k) : Int)), (6, iA k)]; have hlen := R9 ss; refine wp_seq (wp_seq ?_); cases h0 : (decide ((k : Int) < ss.length))
 ·have q0 := dFf h0; refine n6 G (N0 (fc h0 fz) [(5, 0), (6, 0), (1007, 0)]) [(16, bA false)] fun G => b5 (rF G false (by kernel_rfl) (wp_exit (E6 (E6 (E5 (b5 (wp_seq (n6 G l6 [(4, iA (↑(szP d ss k) : Int))] fun G => b5 (wp_ret ?_))))))))); exact Y6 ((↑(szP d ss k) : Int)) G [0] (by have h1 := aY1 d ss (k := k) (by omega); omega)
 ·have q0 := dTt h0; refine n6 G (N0 (fc h0 fz) [(5, 0), (6, 0), (1007, 0)]) [(16, bA (decide (n > 1)))] fun G => b5 (rT G (decide (n > 1)) (by assumption) (wp_skip (b5 (wp_seq (wp_block (at6 G (E3 (A1 8 [41] (ih ((ss.getD k bh2).body) (n - 1) (by omega) ((aL1 hb (by omega)).1)) (A1 17 [113] (ih ((ss.getD k bh2).els) (n - 1) (by omega) ((aL1 hb (by omega)).2)) E2)) fz []) [0, 0, 0, 6, 14, 30, 0, 64, 254, 511, 0, 0, 3072, 7168, 15360, 0, 32768, 130558, 262143, 524287] [(5, iA ((↑(szP d ss k) : Int) + (↑(D4 d (ss.getD k bh2).body) : Int) + (↑(D4 d (ss.getD k bh2).els) : Int)))] (iX k k ss.length ((wO (n - 1)) :: ((wO ((↑(szP d ss k) : Int) + (↑(D4 d (ss.getD k bh2).body) : Int))) :: (iX k k ss.length ((wO (n - 1)) :: ((wO ((↑(szP d ss k) : Int) + (↑(D4 d (ss.getD k bh2).body) : Int) + (↑(D4 d (ss.getD k bh2).els) : Int))) :: [])))))) (iK (by omega) ⟨oW (by omega), ⟨(by have h1 := ak6 (d := d) (ss := ss) (k := k) (by omega); have h2 := aD9 (d := d) (ss := ss) (k := k + 1); exact w64 (by omega) (by omega)), (iK (by omega) ⟨oW (by omega), ⟨(by have h1 := ak6 (d := d) (ss := ss) (k := k) (by omega); have h2 := aD9 (d := d) (ss := ss) (k := k + 1); exact w64 (by omega) (by omega)), bf4⟩⟩)⟩⟩) fun G => I9 (b5 (J6 G l6 [(6, iA ((k : Int) + 1))] [wO ((k : Int) + 1)] (o1 (by omega)) fun G => b5 ?_)))))))); exact rxn G (k + 1) (by omega) (by omega) [0] (ht := by have e1 : ((↑(szP d ss (k + 1)) : Int) : Int) = ((↑(szP d ss k) : Int) + (↑(D4 d (ss.getD k bh2).body) : Int) + (↑(D4 d (ss.getD k bh2).els) : Int)) := (by have h1 := ak6 (d := d) (ss := ss) (k := k) (by omega); have h2 := aD9 (d := d) (ss := ss) (k := k + 1); omega); (first | rw [e1] | simp only [e1]) <;> rfl)
theorem aN7 : ∀ d, d ≤ 5 → ∀ (ss : List b6) (n : Int), n = (d + 1 : Nat) → t7 ss ≤ 1048576 → t6.ok Try.prog (L4 142 [.ref 0, iA n] [.dat (.stmts ss)] (iA (D4 d ss : Nat))) := by
 intro d
 induction d with
 | zero => intro _ ss n hn hb; exact aN8 ss n (by omega) hb
 | succ d ih => intro hd ss n hn hb; exact aN6 d (by omega) (fun ss n hn hb => ih (by omega) ss n hn hb) ss n (by omega) hb
theorem aW8 (ss : List b6) (n : Int) (hn : n = 5) (hb : t7 ss ≤ 1048576) : t6.ok Try.prog (L4 142 [.ref 0, iA n] [.dat (.stmts ss)] (iA (D4 4 ss : Nat))) :=
 aN7 4 (by omega) ss n (by omega) hb
theorem aR0 {nv na : Nat} : ∀ (d : Nat) (ss : List b6), (∀ s ∈ ss, s9 nv na (d + 1) s = true) → D4 d ss = nSs ss := by
 intro d
 induction d with
 | zero => intro ss h; rw [aA8 h]; rfl
 | succ d ih =>
  intro ss
  induction ss with
  | nil => intro _; rfl
  | cons s r ihr =>
   intro h
   have h1 := U0 (h s bg2)
   have h2 := ih s.body fun x hx => bf9.1 h1.1 x hx
   have h3 := ih s.els fun x hx => bf9.1 h1.2 x hx
   have h4 := ihr fun x hx => h x (bg5 _ hx)
   rw [nSs, aG1, ← h2, ← h3, ← h4]
   simp [D4]; omega
theorem ai2 {p : l9} (h : H7 p.vars p.arrays = false) : K7 p = false := by simp [K7, h]
theorem az0 {p : l9} (h : ac2 p.vars.length p.arrays.length 5 p.body = false) : K7 p = false := by simp [K7, h]
theorem aF5 {p : l9} (h1 : H7 p.vars p.arrays = true) (h2 : ac2 p.vars.length p.arrays.length 5 p.body = true) : K7 p = decide ((D4 4 p.body : Int) ≤ 60) := by
 have h3 := aR0 (nv := p.vars.length) (na := p.arrays.length) 4 p.body (fun x hx => bf9.1 h2 x hx)
 rw [K7, h1, h2, h3]
 simp
 exact ⟨fun h => by omega, fun h => by omega⟩
theorem aC2 (p : l9) (n : Int) (hn : n = 5) : t6.ok Try.prog (L4 141 [pA 0, .ref 2, iA n] (pS p) (bA (ac2 p.vars.length p.arrays.length 5 p.body))) :=
 t6.dup (S := pS p) (S' := pS p) (d := .stmts p.body) (i := 2) (aO1 p p.body n hn) rfl rfl rfl (fun ρ h => by simp only [AV.vals, AV.val]; rw [show ρ 3 = ρ 2 from h]) rfl
theorem Y1 (p : l9) (hb : t7 p.body ≤ 1048576) : t6.ok Try.prog (L4 67 [pA 0] (pS p) (bA (K7 p))) := by
  refine M7 17 Try.func67 [dI p.vars, dI p.arrays, dT p.body] [(0, pA 0)] fun G => ?_; refine wp_seq (B6 G l6 (rg 4) [dI p.vars, dI p.arrays, dT p.body, .box (pL 0)] [(1, .ptr 3 0), (2, bA false)] fun G => b5 (wp_seq ?_)); cases h0 : (H7 p.vars p.arrays)
  · refine B6 G (E3 (A1 1 [0, 1, 2] (ag6 p) E2) (fc h0 (fc (b := false) rfl fz)) (us [(3, 6, 0), (1007, 1007, 0), (9, 12, 1), (1013, 1013, 1)])) [0, 1, 2] [dI p.vars, dI p.arrays, dT p.body] [(2, bA false)] fun G => b5 (wp_ret ?_); exact B5 false G [0, 1, 2] (ai2 (by assumption))
  ·
   cases h1 : (ac2 p.vars.length p.arrays.length (5 : Nat) p.body)
   · refine B6 G (E3 (A1 1 [0, 1, 2] (ag6 p) (A1 6 [0, 1, 2] (aC2 p 5 (by kernel_rfl)) E2)) (fc h0 (fc h1 fz)) (us [(3, 6, 0), (1007, 1007, 0), (9, 12, 1), (1013, 1013, 1)])) [0, 1, 2] [dI p.vars, dI p.arrays, dT p.body] [(2, bA false)] fun G => b5 (wp_ret ?_); exact B5 false G [0, 1, 2] (az0 (by assumption))
   · refine B6 G (E3 (A1 1 [0, 1, 2] (ag6 p) (A1 6 [0, 1, 2] (aC2 p 5 (by kernel_rfl)) (A1 11 [2] (aW8 p.body 5 (by kernel_rfl) (by assumption)) E2))) (fc h0 (fc h1 fz)) (us [(3, 6, 0), (1007, 1007, 0), (9, 12, 1), (1013, 1013, 1)])) [0, 1, 2] [dI p.vars, dI p.arrays, dT p.body] [(2, bA (decide ((↑(D4 4 p.body) : Int) ≤ 60)))] fun G => b5 (wp_ret ?_); exact B5 (decide ((↑(D4 4 p.body) : Int) ≤ 60)) G [0, 1, 2] (aF5 (by assumption) (by assumption))
def J4 (nv na : Nat) (s : b6) : Bool := t2 s &&
    (if s.kind = 1 ∨ s.kind = 5 then decide (0 ≤ s.target) && decide (s.target < nv) && l8 nv na s.value
     else if s.kind = 2 then decide (0 ≤ s.target) && decide (s.target < na) && l8 nv na s.index && J5 s.index && l8 nv na s.value
     else if s.kind = 3 then l8 nv na s.value
     else decide (s.kind = 4))
theorem ak9 {nv na d : Nat} {s : b6} : s9 nv na (d + 1) s = (J4 nv na s && (s.body.all (s9 nv na d) && s.els.all (s9 nv na d))) := by
 rw [bh0]
 constructor
 ·intro h
  have h1 := U0 h
  rw [h1.1, h1.2, Bool.and_true, Bool.and_true]
  rw [s9, bf0] at h
  rw [J4, h.1, Bool.true_and]
  obtain ⟨-, h⟩ := h
  split at h
  ·rw [if_pos (by assumption)]; exact h
  split at h
  ·rw [if_neg (by assumption), if_pos (by assumption)]; exact h
  split at h
  ·rw [if_neg (by assumption), if_neg (by assumption), if_pos (by assumption)]
   simp only [bf0] at h; exact h.1.1
  split at h
  ·rw [if_neg (by assumption), if_neg (by assumption), if_neg (by assumption)]; simp [*]
  ·simp at h
 ·intro h
  simp only [bf0] at h
  obtain ⟨h, hb, he⟩ := h
  rw [J4, bf0] at h
  obtain ⟨h0, h⟩ := h
  rw [s9, h0, Bool.true_and]
  split at h
  ·rw [if_pos (by assumption)]; exact h
  split at h
  ·rw [if_neg (by assumption), if_pos (by assumption)]; exact h
  split at h
  ·rw [if_neg (by assumption), if_neg (by assumption), if_pos (by assumption), h, hb, he]; rfl
  ·rw [if_neg (by assumption), if_neg (by assumption), if_neg (by assumption), if_pos (by simpa using h), hb]
def C1 (F : Nat → b6 → Bool × Nat) : Nat → List b6 → Bool × Nat
 | c, [] => (true, c)
 | c, s :: r => if (F c s).1 then C1 F (F c s).2 r else F c s
def w5 (nv na : Nat) : Nat → Nat → b6 → Bool × Nat
 | 0, c, _ => (false, c + 1)
 | d + 1, c, s => if 60 < c + 1 then (false, c + 1) else if J4 nv na s then
   (if (C1 (w5 nv na d) (c + 1) s.body).1 then C1 (w5 nv na d) (C1 (w5 nv na d) (c + 1) s.body).2 s.els else C1 (w5 nv na d) (c + 1) s.body)
   else (false, c + 1)
abbrev m5 (nv na d c : Nat) (ss : List b6) : Bool × Nat := C1 (w5 nv na d) c ss
theorem U7 (F : Nat → b6 → Bool × Nat) : ∀ (a b : List b6) (c : Nat), C1 F c (a ++ b) = if (C1 F c a).1 then C1 F (C1 F c a).2 b else C1 F c a
 | [], b, c => by simp [C1]
 | x :: r, b, c => by
  simp only [List.cons_append, C1]
  by_cases h : (F c x).1 = true
  ·simp only [h, if_true]; exact U7 F r b _
  ·simp [h]
theorem ab4 {F : Nat → b6 → Bool × Nat} {c k : Nat} {ss : List b6} (h : (C1 F c (ss.take k)).1 = true) (hk : k < ss.length) : C1 F c (ss.take (k + 1)) = F (C1 F c (ss.take k)).2 (ss.getD k bh2) := by
 rw [s8 _ _ hk, U7, if_pos h, w8 hk]
 simp only [C1]
 split
 ·rename_i h; exact Prod.ext h.symm rfl
 ·rfl
theorem am7 {F : Nat → b6 → Bool × Nat} {c k : Nat} {ss : List b6} (h : (C1 F c (ss.take k)).1 = true) (hk : k < ss.length) (hf : (F (C1 F c (ss.take k)).2 (ss.getD k bh2)).1 = false) : C1 F c ss = F (C1 F c (ss.take k)).2 (ss.getD k bh2) := by
 conv => lhs; rw [← List.take_append_drop (k + 1) ss]
 rw [U7, ab4 h hk, hf]
 rfl
theorem am8 {F : Nat → b6 → Bool × Nat} {c k : Nat} {ss : List b6} (hk : ss.length ≤ k) : C1 F c (ss.take k) = C1 F c ss := by rw [bf6 hk]
theorem ad7 {F : Nat → b6 → Bool × Nat} (hF : ∀ c s, c ≤ 60 → (F c s).2 ≤ 61 ∧ ((F c s).1 = true → (F c s).2 ≤ 60)) : ∀ (ss : List b6) (c : Nat), c ≤ 60 → (C1 F c ss).2 ≤ 61 ∧ ((C1 F c ss).1 = true → (C1 F c ss).2 ≤ 60)
 | [], c, h => ⟨by simp only [C1]; omega, fun _ => by simp only [C1]; omega⟩
 | s :: r, c, h => by
  simp only [C1]
  by_cases h1 : (F c s).1 = true
  ·rw [if_pos h1]; exact ad7 hF r _ ((hF c s h).2 h1)
  ·rw [if_neg h1]; exact hF c s h
theorem ac6 {nv na : Nat} : ∀ (d c : Nat) (s : b6), c ≤ 60 → (w5 nv na d c s).2 ≤ 61 ∧ ((w5 nv na d c s).1 = true → (w5 nv na d c s).2 ≤ 60)
 | 0, c, s, h => by simp [w5]; omega
 | d + 1, c, s, h => by
  rw [w5]
  by_cases h1 : 60 < c + 1
  ·rw [if_pos h1]; simp; omega
  rw [if_neg h1]
  by_cases h2 : J4 nv na s = true
  ·rw [if_pos h2]
   have h3 := ad7 (ac6 (nv := nv) (na := na) d) s.body (c + 1) (by omega)
   by_cases h4 : (C1 (w5 nv na d) (c + 1) s.body).1 = true
   ·rw [if_pos h4]; exact ad7 (ac6 d) s.els _ (h3.2 h4)
   ·rw [if_neg h4]; exact h3
  ·rw [if_neg h2]; simp; omega
theorem L1 {nv na d c : Nat} {ss : List b6} (h : c ≤ 60) (h1 : (m5 nv na d c ss).1 = true) : (m5 nv na d c ss).2 ≤ 60 := (ad7 (ac6 d) ss c h).2 h1
section
variable {nv na d c : Nat} {s : b6}
theorem aa8 (h : 60 < c + 1) : w5 nv na d c s = (false, c + 1) := by cases d with
 | zero => rfl
 | succ d => rw [w5, if_pos h]
theorem b8 (h : J4 nv na s = false) : w5 nv na d c s = (false, c + 1) := by cases d with
 | zero => rfl
 | succ d => rw [w5, h]; simp
theorem D3 (h1 : c + 1 ≤ 60) (h : J4 nv na s = true) (h2 : (m5 nv na d (c + 1) s.body).1 = false) : w5 nv na (d + 1) c s = m5 nv na d (c + 1) s.body := by
 rw [w5, if_neg (by omega), if_pos h, if_neg (by simp [h2])]
theorem E7 (h1 : c + 1 ≤ 60) (h : J4 nv na s = true) (h2 : (m5 nv na d (c + 1) s.body).1 = true) : w5 nv na (d + 1) c s = m5 nv na d (m5 nv na d (c + 1) s.body).2 s.els := by
 rw [w5, if_neg (by omega), if_pos h, if_pos h2]
end
theorem ad8 {nv na d : Nat} (hF : ∀ c s, c ≤ 60 → ((w5 nv na d c s).1 = (s9 nv na d s && decide (c + nS s ≤ 60))) ∧ ((w5 nv na d c s).1 = true → (w5 nv na d c s).2 = c + nS s)) : ∀ (ss : List b6) (c : Nat), c ≤ 60 → ((m5 nv na d c ss).1 = (ss.all (s9 nv na d) && decide (c + nSs ss ≤ 60))) ∧ ((m5 nv na d c ss).1 = true → (m5 nv na d c ss).2 = c + nSs ss)
 | [], c, h => by simp [C1, nSs, h]
 | s :: r, c, h => by
  obtain ⟨h1, h2⟩ := hF c s h
  simp only [m5, C1]
  by_cases h3 : (w5 nv na d c s).1 = true
  ·rw [if_pos h3]
   have e := h2 h3
   have l := (ac6 d c s h).2 h3
   obtain ⟨h4, h5⟩ := ad8 hF r (w5 nv na d c s).2 l
   rw [h1, bf0] at h3
   constructor
   ·rw [show C1 (w5 nv na d) (w5 nv na d c s).2 r = m5 nv na d (w5 nv na d c s).2 r from rfl, h4, List.all_cons, h3.1, Bool.true_and, e, nSs, Nat.add_assoc]
   ·intro h6; rw [show C1 (w5 nv na d) (w5 nv na d c s).2 r = m5 nv na d (w5 nv na d c s).2 r from rfl, h5 h6, e, nSs]; omega
  ·rw [if_neg h3]
   refine ⟨?_, fun h => absurd h h3⟩
   have h4 := h3
   rw [h1] at h4
   rw [Bool.eq_false_iff.2 h3, List.all_cons, nSs]
   cases ha : s9 nv na d s
   ·simp
   ·rw [ha, Bool.true_and, decide_eq_true_eq] at h4
    rw [Bool.true_and, show decide (c + (nS s + nSs r) ≤ 60) = false from decide_eq_false (by omega), Bool.and_false]
theorem ak8 {nv na : Nat} : ∀ (d c : Nat) (s : b6), c ≤ 60 → ((w5 nv na d c s).1 = (s9 nv na d s && decide (c + nS s ≤ 60))) ∧ ((w5 nv na d c s).1 = true → (w5 nv na d c s).2 = c + nS s)
 | 0, c, s, h => by simp [w5, s9]
 | d + 1, c, s, h => by
  have hs := aG1 s
  by_cases h1 : 60 < c + 1
  ·rw [aa8 h1, show decide (c + nS s ≤ 60) = false from decide_eq_false (by omega), Bool.and_false]; simp
  cases h2 : J4 nv na s
  ·rw [b8 h2, ak9, h2]; simp
  obtain ⟨b1, b2⟩ := ad8 (ak8 (nv := nv) (na := na) d) s.body (c + 1) (by omega)
  rw [ak9, h2, Bool.true_and]
  cases h3 : (m5 nv na d (c + 1) s.body).1
  ·rw [D3 (by omega) h2 h3, h3]
   refine ⟨?_, fun h => by simp at h⟩
   rw [h3] at b1
   cases h4 : s.body.all (s9 nv na d)
   ·simp
   ·rw [h4, Bool.true_and] at b1
    have := of_decide_eq_false b1.symm
    rw [show decide (c + nS s ≤ 60) = false from decide_eq_false (by omega), Bool.and_false]
  ·rw [E7 (by omega) h2 h3]
   have e := b2 h3
   have l := L1 (nv := nv) (na := na) (d := d) (c := c + 1) (by omega) h3
   obtain ⟨e1, e2⟩ := ad8 (ak8 (nv := nv) (na := na) d) s.els _ l
   rw [h3] at b1
   have b3 := b1.symm
   rw [bf0] at b3
   rw [b3.1, Bool.true_and, e1, e]
   refine ⟨by rw [show c + 1 + nSs s.body + nSs s.els = c + nS s by omega], fun h => ?_⟩
   have h' : (m5 nv na d (m5 nv na d (c + 1) s.body).2 s.els).1 = true := by rw [e1, e]; exact h
   have := e2 h'
   rw [e] at this
   rw [this]; omega
theorem ax9 {p : l9} (h : H7 p.vars p.arrays = true) : (m5 p.vars.length p.arrays.length 5 0 p.body).1 = K7 p := by
 rw [(ad8 (ak8 5) p.body 0 (by omega)).1, K7, h, Bool.true_and, ac2]; simp
theorem a31 (p : l9) (s : b6) (c : Nat) (hc : c ≤ 60) (n : Int) (hn : n = 6) : t6.ok Try.prog ⟨145, [pA 0, sA s 4, iA n, .ptr 3 0], pS p ++ [.box [iA c]] ++ sS s, pS p ++ [.box [iA (w5 p.vars.length p.arrays.length 0 c s).2]] ++ sS s, bA false⟩ := by
 have h100 : decide (n > 5) = true := by simp; omega
 refine M7 149 Try.func145 [dI p.vars, dI p.arrays, dT p.body, .box [iA c], dE s.index.kids, dE s.value.kids, dT s.body, dT s.els] [(0, pA 0), (1, sA s 4), (2, iA n), (3, .ptr 3 0)] fun G => ?_; refine wp_seq (B6 G l6 [0, 1, 2, 3, 4, 5, 6, 7, 8, 16] [dI p.vars, dI p.arrays, dT p.body, .box [iA c], dE s.index.kids, dE s.value.kids, dT s.body, dT s.els, .box (pL 0), .box (sL s 4)] [(2, iA n), (3, .ptr 3 0), (4, .ptr 8 0), (5, .ptr 9 0), (8, bA false)] fun G => b5 (wp_seq (rA1 G l6 (rg 10) [dI p.vars, dI p.arrays, dT p.body, .box [iA ((c : Int) + 1)], dE s.index.kids, dE s.value.kids, dT s.body, dT s.els, .box (pL 0), .box (sL s 4)] [(2, iA n), (3, .ptr 3 0), (4, .ptr 8 0), (5, .ptr 9 0), (8, bA false)] [wO ((c : Int) + 1)] (o1 (by omega)) fun G => b5 (wp_seq (wp_seq ?_))))); cases h0 : (decide ((c : Int) + 1 > 60))
 ·have q0 := dFf h0; refine n6 G (N0 (fc h0 fz) [(5, 0), (6, 0), (1007, 0)]) [(27, bA (decide (n > 5)))] fun G => b5 (rT G (decide (n > 5)) (by assumption) (wp_seq (n6 G l6 [] fun G => b5 (wp_ret (m7 ?_))))); exact rxr G (rg 8)
 ·have q0 := dTt h0; refine n6 G (N0 (fc h0 fz) [(5, 0), (6, 0), (1007, 0)]) [(27, bA true)] fun G => b5 (rT G true (by kernel_rfl) (wp_seq (n6 G l6 [] fun G => b5 (wp_ret (m7 ?_))))); exact rxr G (rg 8)
abbrev a39 (p : l9) (d c : Nat) (s : b6) (n : Int) : t6 := ⟨145, [pA 0, sA s 4, iA n, .ptr 3 0], pS p ++ [.box [iA c]] ++ sS s, pS p ++ [.box [iA (w5 p.vars.length p.arrays.length d c s).2]] ++ sS s, bA (w5 p.vars.length p.arrays.length d c s).1⟩
abbrev aE2 (p : l9) (d c : Nat) (ss : List b6) (n : Int) : t6 := ⟨70, [pA 0, .ref 4, iA n, .ptr 3 0], pS p ++ [.box [iA c]] ++ [.dat (.stmts ss)], pS p ++ [.box [iA (m5 p.vars.length p.arrays.length d c ss).2]] ++ [.dat (.stmts ss)], bA (m5 p.vars.length p.arrays.length d c ss).1⟩
theorem aB8 (p : l9) (d : Nat) (hd : d ≤ 5) (ih : ∀ (s : b6) (c : Nat) (n : Int), c ≤ 60 → n = 6 - (d : Int) → t6.ok Try.prog (a39 p d c s n))
    (ss : List b6) (c : Nat) (n : Int) (hc : c ≤ 60) (hn : n = 6 - (d : Int)) : t6.ok Try.prog (aE2 p d c ss n) := by
  refine M7 24 Try.func70 [dI p.vars, dI p.arrays, dT p.body, .box [iA c], dT ss] [(0, pA 0), (1, .ref 4), (2, iA n), (3, .ptr 3 0)] fun G => ?_; refine wp_seq (B6 G l6 (rg 6) [dI p.vars, dI p.arrays, dT p.body, .box [iA c], dT ss, .box (pL 0)] [(1, .ref 4), (2, iA n), (3, .ptr 3 0), (4, .ptr 5 0), (8, bA false)] fun G => b5 (wp_seq (wp_seq (O5 G l6 [(2, iA n), (3, .ptr 3 0), (4, .ptr 5 0), (8, bA false), (11, .ref 4), (12, iA (ss.length : Int)), (13, iA 0)] fun G => b5 (wp_block ?_))))); have hlen : ss.length ≤ 9223372036854775807 := G.len 4 (d := .stmts ss) (by kernel_rfl); refine E9 (κ := Nat) (fun k => k ≤ ss.length ∧ (m5 p.vars.length p.arrays.length d c (ss.take k)).1 = true) (fun k => ss.length - k) (fun k => [dI p.vars, dI p.arrays, dT p.body, .box [iA (m5 p.vars.length p.arrays.length d c (ss.take k)).2], dT ss, .box (pL 0)]) (fun k => [(2, iA n), (3, .ptr 3 0), (4, .ptr 5 0), (8, bA false), (11, .ref 4), (12, iA (ss.length : Int)), (13, iA k)]) 0 (by simp [m5, C1]; done) (B4.at G _ _) ?_; clear G; intro k ρ a w hp G; replace G := B4.at G [dI p.vars, dI p.arrays, dT p.body, .box [iA ((m5 p.vars.length p.arrays.length d c (bg7 k ss)).snd : Int)], dT ss, .box (pL 0)] [(2, iA n), (3, .ptr 3 0), (4, .ptr 5 0), (8, bA false), (11, .ref 4), (12, iA (ss.length : Int)), (13, iA k)]; refine wp_seq (n6 G l6 [(14, bA (decide ((k : Int) < ss.length)))] fun G => b5 (wp_seq (rcD G (fun h0 q0 => ?_) fun h0 q0 => ?_)))
  · refine wp_exit (E6 (E6 (E5 (b5 (wp_seq (B6 G l6 (rg 5) [dI p.vars, dI p.arrays, dT p.body, .box [iA ((m5 p.vars.length p.arrays.length d c (bg7 k ss)).snd : Int)], dT ss] [(8, bA true)] fun G => b5 (wp_ret ?_))))))); exact B5 true G (rg 5) (by rw [m5, ← am8 (k := k) (by omega)]; exact hp.2) (by show _ = mR (rg 5) [dI p.vars, dI p.arrays, dT p.body, .box [iA ((m5 p.vars.length p.arrays.length d c ss).snd : Int)], dT ss]; have e1 : (((m5 p.vars.length p.arrays.length d c ss).snd : Int) : Int) = (((m5 p.vars.length p.arrays.length d c (bg7 k ss)).snd : Int)) := (by rw [m5, ← am8 (k := k) (by omega)]); (first | rw [e1] | simp only [e1]) <;> rfl)
  ·
   refine wp_skip (b5 (wp_seq (wp_block (wp_seq (rA1 G l6 [0, 1, 2, 3, 4, 5, 14, 15, 16, 17, 22] [dI p.vars, dI p.arrays, dT p.body, .box [iA ((m5 p.vars.length p.arrays.length d c (bg7 k ss)).snd : Int)], dT ss, .box (pL 0), dE (ss.getD k bh2).index.kids, dE (ss.getD k bh2).value.kids, dT (ss.getD k bh2).body, dT (ss.getD k bh2).els, .box (sL (ss.getD k bh2) 6)] [(2, iA n), (3, .ptr 3 0), (4, .ptr 5 0), (8, bA false), (10, .ptr 10 0), (11, .ref 4), (12, iA (ss.length : Int)), (13, iA k)] (iX k k ss.length []) (iK (by omega) bf4) fun G => b5 (wp_seq (B6 G (Q6 4 [0, 1, 2, 3, 6, 7, 8, 9] (ih (ss.getD k bh2) ((m5 p.vars.length p.arrays.length d c (bg7 k ss)).snd) n (L1 (by omega) hp.2) (by assumption))) (rg 6) [dI p.vars, dI p.arrays, dT p.body, .box [iA ((w5 p.vars.length p.arrays.length d (m5 p.vars.length p.arrays.length d c (bg7 k ss)).snd (ss.getD k bh2)).snd : Int)], dT ss, .box (pL 0)] [(2, iA n), (3, .ptr 3 0), (4, .ptr 5 0), (8, bA false), (11, .ref 4), (12, iA (ss.length : Int)), (13, iA k), (22, .v (.bool !(w5 p.vars.length p.arrays.length d (m5 p.vars.length p.arrays.length d c (bg7 k ss)).snd (ss.getD k bh2)).fst))] fun G => b5 ?_))))))); cases h1 : (!(w5 p.vars.length p.arrays.length d (m5 p.vars.length p.arrays.length d c (bg7 k ss)).snd (ss.getD k bh2)).fst)
   · have q1 : ((w5 p.vars.length p.arrays.length d (m5 p.vars.length p.arrays.length d c (bg7 k ss)).snd (ss.getD k bh2)).fst) = true := (Eq.mp (bg1 _) h1); refine rF G _ h1 (wp_skip (I9 (b5 (J6 G l6 [(13, iA ((k : Int) + 1))] [wO ((k : Int) + 1)] (o1 (by omega)) fun G => b5 ?_)))); exact rxn G (k + 1) (⟨by omega, by rw [m5, ab4 hp.2 (by omega)]; assumption⟩) (by omega) (rg 6) (by have e1 : (((m5 p.vars.length p.arrays.length d c (bg7 (k + 1) ss)).snd : Int) : Int) = (((w5 p.vars.length p.arrays.length d (m5 p.vars.length p.arrays.length d c (bg7 k ss)).snd (ss.getD k bh2)).snd : Int)) := (by rw [m5, ab4 hp.2 (by omega)]); (first | rw [e1] | simp only [e1]) <;> rfl)
   · have q1 : ((w5 p.vars.length p.arrays.length d (m5 p.vars.length p.arrays.length d c (bg7 k ss)).snd (ss.getD k bh2)).fst) = false := (Eq.mp (bf8 _) h1); refine rT G _ h1 (wp_seq (n6 G l6 [] fun G => b5 (wp_ret (B8 (m7 (m7 (B8 (m7 ?_)))))))); exact B5 false G (rg 5) (by rw [m5, am7 hp.2 (by omega) (by assumption)]; assumption) (by show _ = mR (rg 5) [dI p.vars, dI p.arrays, dT p.body, .box [iA ((m5 p.vars.length p.arrays.length d c ss).snd : Int)], dT ss]; have e1 : (((m5 p.vars.length p.arrays.length d c ss).snd : Int) : Int) = (((w5 p.vars.length p.arrays.length d (m5 p.vars.length p.arrays.length d c (bg7 k ss)).snd (ss.getD k bh2)).snd : Int)) := (by rw [m5, am7 hp.2 (by omega) (by assumption)]); (first | rw [e1] | simp only [e1]) <;> rfl)
section
variable {nv na : Nat} {s : b6}
theorem D0 (k : s.kind = 1 ∨ s.kind = 5) : J4 nv na s = (decide (0 ≤ s.target ∧ s.target < nv ∧ s.body.length = 0 ∧ s.els.length = 0 ∧ s.count = 0) && (noneB s.index && l8 nv na s.value)) := by
 rw [J4, t2, if_pos k, if_neg (by omega), show decide (s.kind = 2) = false from decide_eq_false (by omega), bh0]
 simp only [bf0, decide_eq_true_eq, Bool.false_or]
 constructor
 ·rintro ⟨⟨⟨⟨a, b⟩, c⟩, d⟩, ⟨e, f⟩, g⟩; exact ⟨⟨e, f, a, b, c⟩, d, g⟩
 ·rintro ⟨⟨e, f, a, b, c⟩, d, g⟩; exact ⟨⟨⟨⟨a, b⟩, c⟩, d⟩, ⟨e, f⟩, g⟩
theorem K8 (k : s.kind = 2) : J4 nv na s = (decide (0 ≤ s.target ∧ s.target < na ∧ s.body.length = 0 ∧ s.els.length = 0 ∧ s.count = 0) && (l8 nv na s.index && (J5 s.index && l8 nv na s.value))) := by
 rw [J4, t2, if_neg (by omega), if_pos k, if_neg (by omega), show decide (s.kind = 2) = true from decide_eq_true k, bh0]
 simp only [bf0, decide_eq_true_eq, Bool.true_or]
 constructor
 ·rintro ⟨⟨⟨⟨a, b⟩, c⟩, -⟩, ⟨⟨⟨e, f⟩, i⟩, j⟩, g⟩; exact ⟨⟨e, f, a, b, c⟩, i, j, g⟩
 ·rintro ⟨⟨e, f, a, b, c⟩, i, j, g⟩; exact ⟨⟨⟨⟨a, b⟩, c⟩, bf4⟩, ⟨⟨⟨e, f⟩, i⟩, j⟩, g⟩
theorem V7 (k : s.kind = 3) : J4 nv na s = (decide (s.target = 0 ∧ s.count = 0) && (noneB s.index && l8 nv na s.value)) := by
 rw [J4, t2, if_pos (show s.kind = 3 ∨ s.kind = 4 from .inl k), if_neg (show ¬ s.kind = 4 by omega), if_neg (by omega), if_neg (by omega), if_pos k, bh0]
 simp only [bf0, decide_eq_true_eq]
 constructor
 ·rintro ⟨⟨a, b, c⟩, d⟩; exact ⟨⟨a, b⟩, c, d⟩
 ·rintro ⟨⟨a, b⟩, c, d⟩; exact ⟨⟨a, b, c⟩, d⟩
theorem Q7 (k : s.kind = 4) : J4 nv na s = (decide (s.target = 0 ∧ s.els.length = 0 ∧ 1 ≤ s.count ∧ s.count ≤ 3) && (noneB s.index && noneB s.value)) := by
 rw [J4, t2, if_pos (show s.kind = 3 ∨ s.kind = 4 from .inr k), if_pos k, if_neg (by omega), if_neg (by omega), if_neg (by omega), show decide (s.kind = 4) = true from decide_eq_true k, bh0]
 simp only [bf0, decide_eq_true_eq]
 constructor
 ·rintro ⟨⟨a, ⟨⟨⟨b, c⟩, d⟩, e⟩, f⟩, -⟩; exact ⟨⟨a, b, c, d⟩, e, f⟩
 ·rintro ⟨⟨a, b, c, d⟩, e, f⟩; exact ⟨⟨a, ⟨⟨⟨b, c⟩, d⟩, e⟩, f⟩, bf4⟩
theorem a48 (k : ¬ s.kind = 1 ∧ ¬ s.kind = 2 ∧ ¬ s.kind = 3 ∧ ¬ s.kind = 4 ∧ ¬ s.kind = 5) : J4 nv na s = false := by
 rw [J4, if_neg (by omega), if_neg (by omega), if_neg (by omega), show decide (s.kind = 4) = false from decide_eq_false (by omega), Bool.and_false]
theorem N7 {p : Prop} [Decidable p] {a b : Bool} (hp : p) (ha : a = true) (hb : b = true) : (decide p && (a && b)) = true := by rw [ha, hb, decide_eq_true hp]; rfl
theorem aw9 {p : Prop} [Decidable p] {a b c : Bool} (hp : p) (ha : a = true) (hb : b = true) (hc : c = true) : (decide p && (a && (b && c))) = true := by rw [ha, hb, hc, decide_eq_true hp]; rfl
end
abbrev Z8 (p : l9) (d : Nat) (s : b6) (c : Nat) := m5 p.vars.length p.arrays.length d (m5 p.vars.length p.arrays.length d (c + 1) s.body).snd s.els
abbrev Z7 (p : l9) (d : Nat) (s : b6) (c : Nat) := m5 p.vars.length p.arrays.length d (c + 1) s.body
abbrev m9 (p : l9) (d : Nat) (s : b6) (c : Nat) : List It := [dI p.vars, dI p.arrays, dT p.body, .box [iA ((w5 p.vars.length p.arrays.length (d + 1) c s).snd : Int)], dE s.index.kids, dE s.value.kids, dT s.body, dT s.els]
abbrev R8 (s : b6) (r0 : List It) : List It := dE s.index.kids :: dE s.value.kids :: dT s.body :: dT s.els :: r0
abbrev R7 (p : l9) (r0 : List It) : List It := dI p.vars :: dI p.arrays :: dT p.body :: r0
theorem a30 (p : l9) (d : Nat) (hd : d ≤ 4) (ih : ∀ (ss : List b6) (c : Nat) (n : Int), c ≤ 60 → n = 6 - (d : Int) → t6.ok Try.prog (aE2 p d c ss n))
    (s : b6) (c : Nat) (n : Int) (hc : c ≤ 60) (hn : n = 5 - (d : Int)) : t6.ok Try.prog (a39 p (d + 1) c s n) := by
  have h100 : decide (n > 5) = false := by simp; omega
  refine M7 149 Try.func145 (R7 p (.box [iA c] :: (R8 s []))) [(0, pA 0), (1, sA s 4), (2, iA n), (3, .ptr 3 0)] fun G => ?_; have hl0 : p.vars.length ≤ 9223372036854775807 := G.len 0 (d := .ints p.vars) (by kernel_rfl); have hl1 : p.arrays.length ≤ 9223372036854775807 := G.len 1 (d := .ints p.arrays) (by kernel_rfl); refine wp_seq (B6 G l6 [0, 1, 2, 3, 4, 5, 6, 7, 8, 16] (R7 p (.box [iA c] :: (R8 s [.box (pL 0), .box (sL s 4)]))) [(2, iA n), (3, .ptr 3 0), (4, .ptr 8 0), (5, .ptr 9 0), (8, bA false)] fun G => b5 (wp_seq (rA1 G l6 (rg 10) (R7 p (.box [iA ((c : Int) + 1)] :: (R8 s [.box (pL 0), .box (sL s 4)]))) [(2, iA n), (3, .ptr 3 0), (4, .ptr 8 0), (5, .ptr 9 0), (8, bA false)] [wO ((c : Int) + 1)] (o1 (by omega)) fun G => b5 (wp_seq (wp_seq ?_))))); cases h0 : (decide ((c : Int) + 1 > 60))
  ·
   have q0 := dFf h0; refine n6 G (N0 (fc h0 fz) [(5, 0), (6, 0), (1007, 0)]) [(27, bA (decide (n > 5)))] fun G => b5 (rF G (decide (n > 5)) (by assumption) (wp_skip (b5 (wp_seq (n6 G l6 [(9, iA 1), (10, bA false), (11, bA true), (12, bA false), (13, bA false), (14, bA false)] fun G => b5 (wp_seq (wp_seq (n6 G l6 [(29, iA s.kind)] fun G => b5 (wp_block (wp_seq (wp_seq (n6 G l6 [(30, bA (s.kind == 1))] fun G => b5 (rcE G (fun h1 q1 => ?_) fun h1 q1 => ?_)))))))))))))
   ·
    refine n6 G l6 [(30, bA (s.kind == 5))] fun G => b5 (rcE G (fun h2 q2 => ?_) fun h2 q2 => ?_)
    ·
     refine wp_seq (n6 G l6 [(36, bA (s.kind == 2))] fun G => b5 (rcE G (fun h3 q3 => ?_) fun h3 q3 => ?_))
     ·
      refine wp_seq (n6 G l6 [(41, bA (s.kind == 3))] fun G => b5 (rcE G (fun h4 q4 => ?_) fun h4 q4 => ?_))
      ·
       refine wp_seq (n6 G l6 [(43, bA (s.kind == 4))] fun G => b5 (rcE G (fun h5 q5 => ?_) fun h5 q5 => ?_))
       · refine wp_seq (n6 G l6 [] fun G => b5 (wp_ret (B8 (m7 ?_)))); exact B5 false G (rg 8) (by rw [b8 (a48 (by omega))]; done) (by show _ = mR (rg 8) (m9 p d s c); unfold m9; rw [b8 (a48 (by omega))] <;> rfl)
       ·
        refine n6 G l6 [(11, bA false), (12, bA true), (13, bA true)] fun G => I9 (b5 (wp_seq (wp_seq ?_))); cases h6 : (!(decide ((0 : Int) ≤ s.target) && decide (s.target ≤ 0)))
        ·
         have q6 : (0 ≤ s.target) ∧ (s.target ≤ 0) := (fun hq => And.imp (fun hq => of_decide_eq_true hq) (fun hq => of_decide_eq_true hq) (Bool.and_eq_true_iff.1 hq)) (Eq.mp (bg1 _) h6); cases h7 : (!(decide ((1 : Int) ≤ s.count) && decide (s.count ≤ 3)))
         ·
          have q7 : (1 ≤ s.count) ∧ (s.count ≤ 3) := (fun hq => And.imp (fun hq => of_decide_eq_true hq) (fun hq => of_decide_eq_true hq) (Bool.and_eq_true_iff.1 hq)) (Eq.mp (bg1 _) h7); refine J6 G (E3 (A1 4 [] (A3 s.target 0 0) (A1 11 [] (A3 s.count 1 3) E2)) (fc h6 (fc (b := true) rfl (fc h7 (fc (b := false) rfl fz)))) (us [(7, 8, 0), (9, 12, 1), (13, 13, 0), (1013, 1013, 1), (1014, 1014, 0), (16, 18, 2), (19, 21, 3), (22, 22, 2), (1022, 1022, 3), (1023, 1023, 2), (25, 32, 3), (1032, 1033, 3), (35, 37, 3), (38, 41, 1), (42, 42, 3), (1042, 1042, 1), (1043, 1043, 3)])) [(88, bA (decide ((s.els.length : Int) > 0)))] [IntKind.i64.wrap ((1 : Int) - 1) = 1 - 1] ⟨(by kernel_rfl), bf4⟩ fun G => b5 (rcD G (fun h8 q8 => ?_) fun h8 q8 => ?_)
          ·
           refine wp_skip (b5 (wp_seq (wp_seq ?_))); cases h9 : (!noneB s.index)
           ·
            have q9 : (noneB s.index) = true := (Eq.mp (bg1 _) h9); refine n6 G (E3 (A1 20 [4] (G3 s.index) (A1 40 [5] (G3 s.value) E2)) (fc (b := false) rfl (fc (b := true) rfl (fc h9 fz))) (us [(2, 7, 0), (12, 12, 0), (1013, 1013, 0), (15, 17, 0), (18, 21, 1), (22, 22, 0), (1022, 1022, 1), (1023, 1023, 0), (25, 26, 2), (27, 31, 0), (32, 32, 2), (1032, 1032, 0), (1033, 1033, 2), (35, 37, 0), (38, 41, 1), (42, 42, 0), (1042, 1042, 1), (1043, 1043, 0)])) [(132, .v (.bool !noneB s.value))] fun G => b5 ?_; cases h10 : (!noneB s.value)
            ·
             have q10 : (noneB s.value) = true := (Eq.mp (bg1 _) h10); refine rF G _ h10 (wp_skip (b5 (wp_seq ?_))); cases h11 : ((m5 p.vars.length p.arrays.length d (c + (1 : Nat)) s.body).fst)
             · refine rA1 G (E3 (A1 6 [0, 1, 2, 3, 6] (ih s.body (c + 1) (n + 1) (by simp; omega) (by omega)) E2) (fc h11 fz) (us [(8, 14, 0), (1015, 1015, 0)])) (rg 8) (R7 p (.box [iA ((Z7 p d s c).snd : Int)] :: (R8 s []))) [(8, bA false)] [wO (n + 1)] (o1 (by omega)) fun G => b5 (wp_ret ?_); exact B5 false G (rg 8) (by rw [D3 (by omega) (by (rw [Q7 (by omega)]; exact N7 (by omega) (by assumption) (by assumption))) (by assumption)]; assumption) (by show _ = mR (rg 8) (m9 p d s c); unfold m9; rw [D3 (by omega) (by (rw [Q7 (by omega)]; exact N7 (by omega) (by assumption) (by assumption))) (by assumption)] <;> rfl)
             · refine rA1 G (E3 (A1 6 [0, 1, 2, 3, 6] (ih s.body (c + 1) (n + 1) (by simp; omega) (by omega)) (A1 14 [0, 1, 2, 3, 7] (ih s.els ((Z7 p d s c).snd) (n + 1) (L1 (by omega) (by assumption)) (by omega)) E2)) (fc h11 fz) (us [(8, 14, 0), (1015, 1015, 0)])) (rg 8) (R7 p (.box [iA ((Z8 p d s c).snd : Int)] :: (R8 s []))) [(8, bA (Z8 p d s c).fst)] [wO (n + 1), wO (n + 1)] (o2 (by omega)) fun G => b5 (wp_ret ?_); exact B5 ((m5 p.vars.length p.arrays.length d (m5 p.vars.length p.arrays.length d (c + 1) s.body).snd s.els).fst) G (rg 8) (by rw [E7 (by omega) (by (rw [Q7 (by omega)]; exact N7 (by omega) (by assumption) (by assumption))) (by assumption)]; done) (by show _ = mR (rg 8) (m9 p d s c); unfold m9; rw [E7 (by omega) (by (rw [Q7 (by omega)]; exact N7 (by omega) (by assumption) (by assumption))) (by assumption)] <;> rfl)
            · have q10 : (noneB s.value) = false := (Eq.mp (bf8 _) h10); refine rT G _ h10 (wp_seq (n6 G l6 [] fun G => b5 (wp_ret (m7 ?_)))); exact B5 false G (rg 8) (by rw [b8 (by (rw [Q7 (by omega)]; simp [h100, h0, q0, h1, q1, h2, q2, h3, q3, h4, q4, h5, q5, h6, q6, h7, q7, h8, q8, h9, q9, h10, q10]; done))]; done) (by show _ = mR (rg 8) (m9 p d s c); unfold m9; rw [b8 (by (rw [Q7 (by omega)]; simp [h100, h0, q0, h1, q1, h2, q2, h3, q3, h4, q4, h5, q5, h6, q6, h7, q7, h8, q8, h9, q9, h10, q10]; done))] <;> rfl)
           · have q9 : (noneB s.index) = false := (Eq.mp (bf8 _) h9); refine n6 G (E3 (A1 20 [4] (G3 s.index) E2) (fc (b := false) rfl (fc (b := true) rfl (fc h9 fz))) (us [(2, 7, 0), (12, 12, 0), (1013, 1013, 0), (15, 17, 0), (18, 21, 1), (22, 22, 0), (1022, 1022, 1), (1023, 1023, 0), (25, 26, 2), (32, 32, 2), (1033, 1033, 2), (35, 37, 1), (42, 42, 1), (1043, 1043, 1)])) [(132, bA true)] fun G => b5 (rT G true (by kernel_rfl) (wp_seq (n6 G l6 [] fun G => b5 (wp_ret (m7 ?_))))); exact B5 false G (rg 8) (by rw [b8 (by (rw [Q7 (by omega)]; simp [h100, h0, q0, h1, q1, h2, q2, h3, q3, h4, q4, h5, q5, h6, q6, h7, q7, h8, q8, h9, q9]; done))]; done) (by show _ = mR (rg 8) (m9 p d s c); unfold m9; rw [b8 (by (rw [Q7 (by omega)]; simp [h100, h0, q0, h1, q1, h2, q2, h3, q3, h4, q4, h5, q5, h6, q6, h7, q7, h8, q8, h9, q9]; done))] <;> rfl)
          · refine wp_seq (n6 G l6 [] fun G => b5 (wp_ret (m7 ?_))); exact B5 false G (rg 8) (by rw [b8 (by (rw [Q7 (by omega), decide_eq_false (by omega)]; rfl))]; done) (by show _ = mR (rg 8) (m9 p d s c); unfold m9; rw [b8 (by (rw [Q7 (by omega), decide_eq_false (by omega)]; rfl))] <;> rfl)
         · have q7 : (¬ (1 ≤ s.count)) ∨ (¬ (s.count ≤ 3)) := (fun hq => Or.imp (fun hq => of_decide_eq_false hq) (fun hq => of_decide_eq_false hq) (Bool.and_eq_false_iff.1 hq)) (Eq.mp (bf8 _) h7); refine J6 G (E3 (A1 4 [] (A3 s.target 0 0) (A1 11 [] (A3 s.count 1 3) E2)) (fc h6 (fc (b := true) rfl (fc h7 fz))) (us [(7, 8, 0), (9, 12, 1), (13, 13, 0), (1013, 1013, 1), (1014, 1014, 0), (16, 18, 2), (22, 22, 2), (1023, 1023, 2), (25, 27, 1), (32, 32, 1), (1033, 1033, 1), (35, 37, 1), (42, 42, 1), (1043, 1043, 1)])) [(88, bA true)] [IntKind.i64.wrap ((1 : Int) - 1) = 1 - 1] ⟨(by kernel_rfl), bf4⟩ fun G => b5 (rT G true (by kernel_rfl) (wp_seq (n6 G l6 [] fun G => b5 (wp_ret (m7 ?_))))); exact B5 false G (rg 8) (by rw [b8 (by (rw [Q7 (by omega), decide_eq_false (by omega)]; rfl))]; done) (by show _ = mR (rg 8) (m9 p d s c); unfold m9; rw [b8 (by (rw [Q7 (by omega), decide_eq_false (by omega)]; rfl))] <;> rfl)
        · have q6 : (¬ (0 ≤ s.target)) ∨ (¬ (s.target ≤ 0)) := (fun hq => Or.imp (fun hq => of_decide_eq_false hq) (fun hq => of_decide_eq_false hq) (Bool.and_eq_false_iff.1 hq)) (Eq.mp (bf8 _) h6); refine J6 G (E3 (A1 4 [] (A3 s.target 0 0) E2) (fc h6 (fc (b := true) rfl fz)) [(7, 0), (8, 0), (13, 0), (1014, 0), (16, 1), (17, 1), (18, 1), (22, 1), (1023, 1), (25, 1), (26, 1), (27, 1), (32, 1), (1033, 1), (35, 1), (36, 1), (37, 1), (42, 1), (1043, 1)]) [(88, bA true)] [IntKind.i64.wrap ((1 : Int) - 1) = 1 - 1] ⟨(by kernel_rfl), bf4⟩ fun G => b5 (rT G true (by kernel_rfl) (wp_seq (n6 G l6 [] fun G => b5 (wp_ret (m7 ?_))))); exact B5 false G (rg 8) (by rw [b8 (by (rw [Q7 (by omega), decide_eq_false (by omega)]; rfl))]; done) (by show _ = mR (rg 8) (m9 p d s c); unfold m9; rw [b8 (by (rw [Q7 (by omega), decide_eq_false (by omega)]; rfl))] <;> rfl)
      ·
       refine n6 G l6 [(13, bA true), (14, bA true)] fun G => I9 (b5 (wp_seq (wp_seq ?_))); cases h12 : (!(decide ((0 : Int) ≤ s.target) && decide (s.target ≤ 0)))
       ·
        have q12 : (0 ≤ s.target) ∧ (s.target ≤ 0) := (fun hq => And.imp (fun hq => of_decide_eq_true hq) (fun hq => of_decide_eq_true hq) (Bool.and_eq_true_iff.1 hq)) (Eq.mp (bg1 _) h12); cases h13 : (s.count != 0)
        ·
         have q13 := bne_eq_false_iff_eq.1 h13; refine J6 G (E3 (A1 4 [] (A3 s.target 0 0) E2) (fc h12 (fc (b := false) rfl (fc (b := true) rfl (fc h13 fz)))) (us [(7, 8, 0), (9, 12, 1), (13, 13, 0), (1013, 1013, 1), (1014, 1014, 0), (16, 18, 1), (19, 21, 2), (22, 22, 1), (1022, 1022, 2), (1023, 1023, 1), (25, 27, 3), (28, 31, 1), (32, 32, 3), (1032, 1032, 1), (1033, 1033, 3), (35, 42, 1), (1042, 1043, 1)])) [(88, bA false)] [IntKind.i64.wrap ((1 : Int) - 1) = 1 - 1] ⟨(by kernel_rfl), bf4⟩ fun G => b5 (rF G false (by kernel_rfl) (wp_skip (b5 (wp_seq (wp_seq ?_))))); cases h14 : (!noneB s.index)
         ·
          have q14 : (noneB s.index) = true := (Eq.mp (bg1 _) h14); cases h15 : (!l8 p.vars.length p.arrays.length s.value)
          ·
           have q15 : (l8 p.vars.length p.arrays.length s.value) = true := (Eq.mp (bg1 _) h15); refine n6 G (E3 (A1 20 [4] (G3 s.index) (A1 30 [0, 1, 2, 5] (L6 p s.value) E2)) (fc (b := false) rfl (fc (b := true) rfl (fc h14 (fc h15 fz)))) (us [(2, 7, 0), (12, 12, 0), (1013, 1013, 0), (15, 17, 0), (18, 21, 1), (22, 22, 0), (1022, 1022, 1), (1023, 1023, 0), (25, 26, 2), (27, 31, 1), (32, 32, 2), (1032, 1032, 1), (1033, 1033, 2), (35, 37, 3), (38, 41, 0), (42, 42, 3), (1042, 1042, 0), (1043, 1043, 3)])) [(132, bA false)] fun G => b5 (rF G false (by kernel_rfl) (wp_skip (b5 (wp_seq ?_)))); cases h16 : ((m5 p.vars.length p.arrays.length d (c + (1 : Nat)) s.body).fst)
           · refine rA1 G (E3 (A1 6 [0, 1, 2, 3, 6] (ih s.body (c + 1) (n + 1) (by simp; omega) (by omega)) E2) (fc h16 fz) (us [(8, 14, 0), (1015, 1015, 0)])) (rg 8) (R7 p (.box [iA ((Z7 p d s c).snd : Int)] :: (R8 s []))) [(8, bA false)] [wO (n + 1)] (o1 (by omega)) fun G => b5 (wp_ret ?_); exact B5 false G (rg 8) (by rw [D3 (by omega) (by (rw [V7 (by omega)]; exact N7 (by omega) (by assumption) (by assumption))) (by assumption)]; assumption) (by show _ = mR (rg 8) (m9 p d s c); unfold m9; rw [D3 (by omega) (by (rw [V7 (by omega)]; exact N7 (by omega) (by assumption) (by assumption))) (by assumption)] <;> rfl)
           · refine rA1 G (E3 (A1 6 [0, 1, 2, 3, 6] (ih s.body (c + 1) (n + 1) (by simp; omega) (by omega)) (A1 14 [0, 1, 2, 3, 7] (ih s.els ((Z7 p d s c).snd) (n + 1) (L1 (by omega) (by assumption)) (by omega)) E2)) (fc h16 fz) (us [(8, 14, 0), (1015, 1015, 0)])) (rg 8) (R7 p (.box [iA ((Z8 p d s c).snd : Int)] :: (R8 s []))) [(8, bA (Z8 p d s c).fst)] [wO (n + 1), wO (n + 1)] (o2 (by omega)) fun G => b5 (wp_ret ?_); exact B5 ((m5 p.vars.length p.arrays.length d (m5 p.vars.length p.arrays.length d (c + 1) s.body).snd s.els).fst) G (rg 8) (by rw [E7 (by omega) (by (rw [V7 (by omega)]; exact N7 (by omega) (by assumption) (by assumption))) (by assumption)]; done) (by show _ = mR (rg 8) (m9 p d s c); unfold m9; rw [E7 (by omega) (by (rw [V7 (by omega)]; exact N7 (by omega) (by assumption) (by assumption))) (by assumption)] <;> rfl)
          · have q15 : (l8 p.vars.length p.arrays.length s.value) = false := (Eq.mp (bf8 _) h15); refine n6 G (E3 (A1 20 [4] (G3 s.index) (A1 30 [0, 1, 2, 5] (L6 p s.value) E2)) (fc (b := false) rfl (fc (b := true) rfl (fc h14 (fc h15 fz)))) (us [(2, 7, 0), (12, 12, 0), (1013, 1013, 0), (15, 17, 0), (18, 21, 1), (22, 22, 0), (1022, 1022, 1), (1023, 1023, 0), (25, 26, 2), (27, 31, 1), (32, 32, 2), (1032, 1032, 1), (1033, 1033, 2), (35, 37, 3), (42, 42, 3), (1043, 1043, 3)])) [(132, bA true)] fun G => b5 (rT G true (by kernel_rfl) (wp_seq (n6 G l6 [] fun G => b5 (wp_ret (m7 ?_))))); exact B5 false G (rg 8) (by rw [b8 (by (rw [V7 (by omega)]; simp [h100, h0, q0, h1, q1, h2, q2, h3, q3, h4, q4, h12, q12, h13, q13, h14, q14, h15, q15]; done))]; done) (by show _ = mR (rg 8) (m9 p d s c); unfold m9; rw [b8 (by (rw [V7 (by omega)]; simp [h100, h0, q0, h1, q1, h2, q2, h3, q3, h4, q4, h12, q12, h13, q13, h14, q14, h15, q15]; done))] <;> rfl)
         · have q14 : (noneB s.index) = false := (Eq.mp (bf8 _) h14); refine n6 G (E3 (A1 20 [4] (G3 s.index) E2) (fc (b := false) rfl (fc (b := true) rfl (fc h14 fz))) (us [(2, 7, 0), (12, 12, 0), (1013, 1013, 0), (15, 17, 0), (18, 21, 1), (22, 22, 0), (1022, 1022, 1), (1023, 1023, 0), (25, 26, 2), (32, 32, 2), (1033, 1033, 2), (35, 37, 1), (42, 42, 1), (1043, 1043, 1)])) [(132, bA true)] fun G => b5 (rT G true (by kernel_rfl) (wp_seq (n6 G l6 [] fun G => b5 (wp_ret (m7 ?_))))); exact B5 false G (rg 8) (by rw [b8 (by (rw [V7 (by omega)]; simp [h100, h0, q0, h1, q1, h2, q2, h3, q3, h4, q4, h12, q12, h13, q13, h14, q14]; done))]; done) (by show _ = mR (rg 8) (m9 p d s c); unfold m9; rw [b8 (by (rw [V7 (by omega)]; simp [h100, h0, q0, h1, q1, h2, q2, h3, q3, h4, q4, h12, q12, h13, q13, h14, q14]; done))] <;> rfl)
        · have q13 := bne_iff_ne.1 h13; refine J6 G (E3 (A1 4 [] (A3 s.target 0 0) E2) (fc h12 (fc (b := false) rfl (fc (b := true) rfl (fc h13 fz)))) (us [(7, 8, 0), (9, 12, 1), (13, 13, 0), (1013, 1013, 1), (1014, 1014, 0), (16, 18, 1), (19, 21, 2), (22, 22, 1), (1022, 1022, 2), (1023, 1023, 1), (25, 27, 3), (32, 32, 3), (1033, 1033, 3), (35, 37, 2), (42, 42, 2), (1043, 1043, 2)])) [(88, bA true)] [IntKind.i64.wrap ((1 : Int) - 1) = 1 - 1] ⟨(by kernel_rfl), bf4⟩ fun G => b5 (rT G true (by kernel_rfl) (wp_seq (n6 G l6 [] fun G => b5 (wp_ret (m7 ?_))))); exact B5 false G (rg 8) (by rw [b8 (by (rw [V7 (by omega), decide_eq_false (by omega)]; rfl))]; done) (by show _ = mR (rg 8) (m9 p d s c); unfold m9; rw [b8 (by (rw [V7 (by omega), decide_eq_false (by omega)]; rfl))] <;> rfl)
       · have q12 : (¬ (0 ≤ s.target)) ∨ (¬ (s.target ≤ 0)) := (fun hq => Or.imp (fun hq => of_decide_eq_false hq) (fun hq => of_decide_eq_false hq) (Bool.and_eq_false_iff.1 hq)) (Eq.mp (bf8 _) h12); refine J6 G (E3 (A1 4 [] (A3 s.target 0 0) E2) (fc h12 (fc (b := true) rfl fz)) [(7, 0), (8, 0), (13, 0), (1014, 0), (16, 1), (17, 1), (18, 1), (22, 1), (1023, 1), (25, 1), (26, 1), (27, 1), (32, 1), (1033, 1), (35, 1), (36, 1), (37, 1), (42, 1), (1043, 1)]) [(88, bA true)] [IntKind.i64.wrap ((1 : Int) - 1) = 1 - 1] ⟨(by kernel_rfl), bf4⟩ fun G => b5 (rT G true (by kernel_rfl) (wp_seq (n6 G l6 [] fun G => b5 (wp_ret (m7 ?_))))); exact B5 false G (rg 8) (by rw [b8 (by (rw [V7 (by omega), decide_eq_false (by omega)]; rfl))]; done) (by show _ = mR (rg 8) (m9 p d s c); unfold m9; rw [b8 (by (rw [V7 (by omega), decide_eq_false (by omega)]; rfl))] <;> rfl)
     ·
      refine n6 G l6 [(9, iA (p.arrays.length : Int)), (10, bA true)] fun G => I9 (b5 (wp_seq (wp_seq ?_))); cases h17 : (!(decide ((0 : Int) ≤ s.target) && decide (s.target ≤ (p.arrays.length : Int) - 1)))
      ·
       have q17 : (0 ≤ s.target) ∧ (s.target ≤ (p.arrays.length : Int) - 1) := (fun hq => And.imp (fun hq => of_decide_eq_true hq) (fun hq => of_decide_eq_true hq) (Bool.and_eq_true_iff.1 hq)) (Eq.mp (bg1 _) h17); cases h18 : (s.count != 0)
       ·
        have q18 := bne_eq_false_iff_eq.1 h18; cases h19 : (decide ((s.body.length : Int) > 0))
        ·
         have q19 := dFf h19; refine J6 G (E3 (A1 4 [] (A3 s.target 0 ((p.arrays.length : Int) - 1)) E2) (fc h17 (fc (b := false) rfl (fc (b := true) rfl (fc h18 (fc h19 fz))))) (us [(7, 8, 0), (9, 12, 1), (13, 13, 0), (1013, 1013, 1), (1014, 1014, 0), (16, 18, 1), (19, 21, 2), (22, 22, 1), (1022, 1022, 2), (1023, 1023, 1), (25, 27, 3), (28, 31, 2), (32, 32, 3), (1032, 1032, 2), (1033, 1033, 3), (35, 37, 4), (38, 41, 2), (42, 42, 4), (1042, 1042, 2), (1043, 1043, 4)])) [(88, bA (decide ((s.els.length : Int) > 0)))] [wO ((p.arrays.length : Int) - 1)] (o1 (by omega)) fun G => b5 (rcD G (fun h20 q20 => ?_) fun h20 q20 => ?_)
         ·
          refine wp_skip (b5 (wp_seq (wp_seq ?_))); cases h21 : (!l8 p.vars.length p.arrays.length s.index)
          ·
           have q21 : (l8 p.vars.length p.arrays.length s.index) = true := (Eq.mp (bg1 _) h21); cases h22 : (!J5 s.index)
           ·
            have q22 : (J5 s.index) = true := (Eq.mp (bg1 _) h22); cases h23 : (!l8 p.vars.length p.arrays.length s.value)
            ·
             have q23 : (l8 p.vars.length p.arrays.length s.value) = true := (Eq.mp (bg1 _) h23); refine n6 G (E3 (A1 5 [0, 1, 2, 4] (L6 p s.index) (A1 10 [4] (ag8 s.index) (A1 30 [0, 1, 2, 5] (L6 p s.value) E2))) (fc (b := true) rfl (fc h21 (fc h22 (fc (b := false) rfl (fc h23 fz))))) (us [(2, 7, 0), (8, 11, 1), (12, 12, 0), (1012, 1012, 1), (1013, 1013, 0), (15, 17, 2), (18, 21, 3), (22, 22, 2), (1022, 1022, 3), (1023, 1023, 2), (25, 26, 3), (27, 31, 0), (32, 32, 3), (1032, 1032, 0), (1033, 1033, 3), (35, 37, 4), (38, 41, 3), (42, 42, 4), (1042, 1042, 3), (1043, 1043, 4)])) [(132, bA false)] fun G => b5 (rF G false (by kernel_rfl) (wp_skip (b5 (wp_seq ?_)))); cases h24 : ((m5 p.vars.length p.arrays.length d (c + (1 : Nat)) s.body).fst)
             · refine rA1 G (E3 (A1 6 [0, 1, 2, 3, 6] (ih s.body (c + 1) (n + 1) (by simp; omega) (by omega)) E2) (fc h24 fz) (us [(8, 14, 0), (1015, 1015, 0)])) (rg 8) (R7 p (.box [iA ((Z7 p d s c).snd : Int)] :: (R8 s []))) [(8, bA false)] [wO (n + 1)] (o1 (by omega)) fun G => b5 (wp_ret ?_); exact B5 false G (rg 8) (by rw [D3 (by omega) (by (rw [K8 (by omega)]; exact aw9 (by omega) (by assumption) (by assumption) (by assumption))) (by assumption)]; assumption) (by show _ = mR (rg 8) (m9 p d s c); unfold m9; rw [D3 (by omega) (by (rw [K8 (by omega)]; exact aw9 (by omega) (by assumption) (by assumption) (by assumption))) (by assumption)] <;> rfl)
             · refine rA1 G (E3 (A1 6 [0, 1, 2, 3, 6] (ih s.body (c + 1) (n + 1) (by simp; omega) (by omega)) (A1 14 [0, 1, 2, 3, 7] (ih s.els ((Z7 p d s c).snd) (n + 1) (L1 (by omega) (by assumption)) (by omega)) E2)) (fc h24 fz) (us [(8, 14, 0), (1015, 1015, 0)])) (rg 8) (R7 p (.box [iA ((Z8 p d s c).snd : Int)] :: (R8 s []))) [(8, bA (Z8 p d s c).fst)] [wO (n + 1), wO (n + 1)] (o2 (by omega)) fun G => b5 (wp_ret ?_); exact B5 ((m5 p.vars.length p.arrays.length d (m5 p.vars.length p.arrays.length d (c + 1) s.body).snd s.els).fst) G (rg 8) (by rw [E7 (by omega) (by (rw [K8 (by omega)]; exact aw9 (by omega) (by assumption) (by assumption) (by assumption))) (by assumption)]; done) (by show _ = mR (rg 8) (m9 p d s c); unfold m9; rw [E7 (by omega) (by (rw [K8 (by omega)]; exact aw9 (by omega) (by assumption) (by assumption) (by assumption))) (by assumption)] <;> rfl)
            · have q23 : (l8 p.vars.length p.arrays.length s.value) = false := (Eq.mp (bf8 _) h23); refine n6 G (E3 (A1 5 [0, 1, 2, 4] (L6 p s.index) (A1 10 [4] (ag8 s.index) (A1 30 [0, 1, 2, 5] (L6 p s.value) E2))) (fc (b := true) rfl (fc h21 (fc h22 (fc (b := false) rfl (fc h23 fz))))) (us [(2, 7, 0), (8, 11, 1), (12, 12, 0), (1012, 1012, 1), (1013, 1013, 0), (15, 17, 2), (18, 21, 3), (22, 22, 2), (1022, 1022, 3), (1023, 1023, 2), (25, 26, 3), (27, 31, 0), (32, 32, 3), (1032, 1032, 0), (1033, 1033, 3), (35, 37, 4), (42, 42, 4), (1043, 1043, 4)])) [(132, bA true)] fun G => b5 (rT G true (by kernel_rfl) (wp_seq (n6 G l6 [] fun G => b5 (wp_ret (m7 ?_))))); exact B5 false G (rg 8) (by rw [b8 (by (rw [K8 (by omega)]; simp [h100, h0, q0, h1, q1, h2, q2, h3, q3, h17, q17, h18, q18, h19, q19, h20, q20, h21, q21, h22, q22, h23, q23]; done))]; done) (by show _ = mR (rg 8) (m9 p d s c); unfold m9; rw [b8 (by (rw [K8 (by omega)]; simp [h100, h0, q0, h1, q1, h2, q2, h3, q3, h17, q17, h18, q18, h19, q19, h20, q20, h21, q21, h22, q22, h23, q23]; done))] <;> rfl)
           · have q22 : (J5 s.index) = false := (Eq.mp (bf8 _) h22); refine n6 G (E3 (A1 5 [0, 1, 2, 4] (L6 p s.index) (A1 10 [4] (ag8 s.index) E2)) (fc (b := true) rfl (fc h21 (fc h22 fz))) (us [(2, 7, 0), (8, 11, 1), (12, 12, 0), (1012, 1012, 1), (1013, 1013, 0), (15, 17, 2), (22, 22, 2), (1023, 1023, 2), (25, 26, 0), (32, 32, 0), (1033, 1033, 0), (35, 37, 0), (42, 42, 0), (1043, 1043, 0)])) [(132, bA true)] fun G => b5 (rT G true (by kernel_rfl) (wp_seq (n6 G l6 [] fun G => b5 (wp_ret (m7 ?_))))); exact B5 false G (rg 8) (by rw [b8 (by (rw [K8 (by omega)]; simp [h100, h0, q0, h1, q1, h2, q2, h3, q3, h17, q17, h18, q18, h19, q19, h20, q20, h21, q21, h22, q22]; done))]; done) (by show _ = mR (rg 8) (m9 p d s c); unfold m9; rw [b8 (by (rw [K8 (by omega)]; simp [h100, h0, q0, h1, q1, h2, q2, h3, q3, h17, q17, h18, q18, h19, q19, h20, q20, h21, q21, h22, q22]; done))] <;> rfl)
          · have q21 : (l8 p.vars.length p.arrays.length s.index) = false := (Eq.mp (bf8 _) h21); refine n6 G (E3 (A1 5 [0, 1, 2, 4] (L6 p s.index) E2) (fc (b := true) rfl (fc h21 fz)) (us [(2, 7, 0), (8, 11, 1), (12, 12, 0), (1012, 1012, 1), (1013, 1013, 0), (15, 17, 0), (22, 22, 0), (1023, 1023, 0), (25, 26, 0), (32, 32, 0), (1033, 1033, 0), (35, 37, 0), (42, 42, 0), (1043, 1043, 0)])) [(132, bA true)] fun G => b5 (rT G true (by kernel_rfl) (wp_seq (n6 G l6 [] fun G => b5 (wp_ret (m7 ?_))))); exact B5 false G (rg 8) (by rw [b8 (by (rw [K8 (by omega)]; simp [h100, h0, q0, h1, q1, h2, q2, h3, q3, h17, q17, h18, q18, h19, q19, h20, q20, h21, q21]; done))]; done) (by show _ = mR (rg 8) (m9 p d s c); unfold m9; rw [b8 (by (rw [K8 (by omega)]; simp [h100, h0, q0, h1, q1, h2, q2, h3, q3, h17, q17, h18, q18, h19, q19, h20, q20, h21, q21]; done))] <;> rfl)
         · refine wp_seq (n6 G l6 [] fun G => b5 (wp_ret (m7 ?_))); exact B5 false G (rg 8) (by rw [b8 (by (rw [K8 (by omega), decide_eq_false (by omega)]; rfl))]; done) (by show _ = mR (rg 8) (m9 p d s c); unfold m9; rw [b8 (by (rw [K8 (by omega), decide_eq_false (by omega)]; rfl))] <;> rfl)
        · have q19 := dTt h19; refine J6 G (E3 (A1 4 [] (A3 s.target 0 ((p.arrays.length : Int) - 1)) E2) (fc h17 (fc (b := false) rfl (fc (b := true) rfl (fc h18 (fc h19 fz))))) (us [(7, 8, 0), (9, 12, 1), (13, 13, 0), (1013, 1013, 1), (1014, 1014, 0), (16, 18, 1), (19, 21, 2), (22, 22, 1), (1022, 1022, 2), (1023, 1023, 1), (25, 27, 3), (28, 31, 2), (32, 32, 3), (1032, 1032, 2), (1033, 1033, 3), (35, 37, 4), (42, 42, 4), (1043, 1043, 4)])) [(88, bA true)] [wO ((p.arrays.length : Int) - 1)] (o1 (by omega)) fun G => b5 (rT G true (by kernel_rfl) (wp_seq (n6 G l6 [] fun G => b5 (wp_ret (m7 ?_))))); exact B5 false G (rg 8) (by rw [b8 (by (rw [K8 (by omega), decide_eq_false (by omega)]; rfl))]; done) (by show _ = mR (rg 8) (m9 p d s c); unfold m9; rw [b8 (by (rw [K8 (by omega), decide_eq_false (by omega)]; rfl))] <;> rfl)
       · have q18 := bne_iff_ne.1 h18; refine J6 G (E3 (A1 4 [] (A3 s.target 0 ((p.arrays.length : Int) - 1)) E2) (fc h17 (fc (b := false) rfl (fc (b := true) rfl (fc h18 fz)))) (us [(7, 8, 0), (9, 12, 1), (13, 13, 0), (1013, 1013, 1), (1014, 1014, 0), (16, 18, 1), (19, 21, 2), (22, 22, 1), (1022, 1022, 2), (1023, 1023, 1), (25, 27, 3), (32, 32, 3), (1033, 1033, 3), (35, 37, 2), (42, 42, 2), (1043, 1043, 2)])) [(88, bA true)] [wO ((p.arrays.length : Int) - 1)] (o1 (by omega)) fun G => b5 (rT G true (by kernel_rfl) (wp_seq (n6 G l6 [] fun G => b5 (wp_ret (m7 ?_))))); exact B5 false G (rg 8) (by rw [b8 (by (rw [K8 (by omega), decide_eq_false (by omega)]; rfl))]; done) (by show _ = mR (rg 8) (m9 p d s c); unfold m9; rw [b8 (by (rw [K8 (by omega), decide_eq_false (by omega)]; rfl))] <;> rfl)
      · have q17 : (¬ (0 ≤ s.target)) ∨ (¬ (s.target ≤ (p.arrays.length : Int) - 1)) := (fun hq => Or.imp (fun hq => of_decide_eq_false hq) (fun hq => of_decide_eq_false hq) (Bool.and_eq_false_iff.1 hq)) (Eq.mp (bf8 _) h17); refine J6 G (E3 (A1 4 [] (A3 s.target 0 ((p.arrays.length : Int) - 1)) E2) (fc h17 (fc (b := true) rfl fz)) [(7, 0), (8, 0), (13, 0), (1014, 0), (16, 1), (17, 1), (18, 1), (22, 1), (1023, 1), (25, 1), (26, 1), (27, 1), (32, 1), (1033, 1), (35, 1), (36, 1), (37, 1), (42, 1), (1043, 1)]) [(88, bA true)] [wO ((p.arrays.length : Int) - 1)] (o1 (by omega)) fun G => b5 (rT G true (by kernel_rfl) (wp_seq (n6 G l6 [] fun G => b5 (wp_ret (m7 ?_))))); exact B5 false G (rg 8) (by rw [b8 (by (rw [K8 (by omega), decide_eq_false (by omega)]; rfl))]; done) (by show _ = mR (rg 8) (m9 p d s c); unfold m9; rw [b8 (by (rw [K8 (by omega), decide_eq_false (by omega)]; rfl))] <;> rfl)
    ·
     refine n6 G l6 [(9, iA (p.vars.length : Int))] fun G => I9 (b5 (wp_seq (wp_seq ?_))); cases h25 : (!(decide ((0 : Int) ≤ s.target) && decide (s.target ≤ (p.vars.length : Int) - 1)))
     ·
      have q25 : (0 ≤ s.target) ∧ (s.target ≤ (p.vars.length : Int) - 1) := (fun hq => And.imp (fun hq => of_decide_eq_true hq) (fun hq => of_decide_eq_true hq) (Bool.and_eq_true_iff.1 hq)) (Eq.mp (bg1 _) h25); cases h26 : (s.count != 0)
      ·
       have q26 := bne_eq_false_iff_eq.1 h26; cases h27 : (decide ((s.body.length : Int) > 0))
       ·
        have q27 := dFf h27; refine J6 G (E3 (A1 4 [] (A3 s.target 0 ((p.vars.length : Int) - 1)) E2) (fc h25 (fc (b := false) rfl (fc (b := true) rfl (fc h26 (fc h27 fz))))) (us [(7, 8, 0), (9, 12, 1), (13, 13, 0), (1013, 1013, 1), (1014, 1014, 0), (16, 18, 1), (19, 21, 2), (22, 22, 1), (1022, 1022, 2), (1023, 1023, 1), (25, 27, 3), (28, 31, 2), (32, 32, 3), (1032, 1032, 2), (1033, 1033, 3), (35, 37, 4), (38, 41, 2), (42, 42, 4), (1042, 1042, 2), (1043, 1043, 4)])) [(88, bA (decide ((s.els.length : Int) > 0)))] [wO ((p.vars.length : Int) - 1)] (o1 (by omega)) fun G => b5 (rcD G (fun h28 q28 => ?_) fun h28 q28 => ?_)
        ·
         refine wp_skip (b5 (wp_seq (wp_seq ?_))); cases h29 : (!noneB s.index)
         ·
          have q29 : (noneB s.index) = true := (Eq.mp (bg1 _) h29); cases h30 : (!l8 p.vars.length p.arrays.length s.value)
          ·
           have q30 : (l8 p.vars.length p.arrays.length s.value) = true := (Eq.mp (bg1 _) h30); refine n6 G (E3 (A1 20 [4] (G3 s.index) (A1 30 [0, 1, 2, 5] (L6 p s.value) E2)) (fc (b := false) rfl (fc (b := true) rfl (fc h29 (fc h30 fz)))) (us [(2, 7, 0), (12, 12, 0), (1013, 1013, 0), (15, 17, 0), (18, 21, 1), (22, 22, 0), (1022, 1022, 1), (1023, 1023, 0), (25, 26, 2), (27, 31, 1), (32, 32, 2), (1032, 1032, 1), (1033, 1033, 2), (35, 37, 3), (38, 41, 0), (42, 42, 3), (1042, 1042, 0), (1043, 1043, 3)])) [(132, bA false)] fun G => b5 (rF G false (by kernel_rfl) (wp_skip (b5 (wp_seq ?_)))); cases h31 : ((m5 p.vars.length p.arrays.length d (c + (1 : Nat)) s.body).fst)
           · refine rA1 G (E3 (A1 6 [0, 1, 2, 3, 6] (ih s.body (c + 1) (n + 1) (by simp; omega) (by omega)) E2) (fc h31 fz) (us [(8, 14, 0), (1015, 1015, 0)])) (rg 8) (R7 p (.box [iA ((Z7 p d s c).snd : Int)] :: (R8 s []))) [(8, bA false)] [wO (n + 1)] (o1 (by omega)) fun G => b5 (wp_ret ?_); exact B5 false G (rg 8) (by rw [D3 (by omega) (by (rw [D0 (by omega)]; exact N7 (by omega) (by assumption) (by assumption))) (by assumption)]; assumption) (by show _ = mR (rg 8) (m9 p d s c); unfold m9; rw [D3 (by omega) (by (rw [D0 (by omega)]; exact N7 (by omega) (by assumption) (by assumption))) (by assumption)] <;> rfl)
           · refine rA1 G (E3 (A1 6 [0, 1, 2, 3, 6] (ih s.body (c + 1) (n + 1) (by simp; omega) (by omega)) (A1 14 [0, 1, 2, 3, 7] (ih s.els ((Z7 p d s c).snd) (n + 1) (L1 (by omega) (by assumption)) (by omega)) E2)) (fc h31 fz) (us [(8, 14, 0), (1015, 1015, 0)])) (rg 8) (R7 p (.box [iA ((Z8 p d s c).snd : Int)] :: (R8 s []))) [(8, bA (Z8 p d s c).fst)] [wO (n + 1), wO (n + 1)] (o2 (by omega)) fun G => b5 (wp_ret ?_); exact B5 ((m5 p.vars.length p.arrays.length d (m5 p.vars.length p.arrays.length d (c + 1) s.body).snd s.els).fst) G (rg 8) (by rw [E7 (by omega) (by (rw [D0 (by omega)]; exact N7 (by omega) (by assumption) (by assumption))) (by assumption)]; done) (by show _ = mR (rg 8) (m9 p d s c); unfold m9; rw [E7 (by omega) (by (rw [D0 (by omega)]; exact N7 (by omega) (by assumption) (by assumption))) (by assumption)] <;> rfl)
          · have q30 : (l8 p.vars.length p.arrays.length s.value) = false := (Eq.mp (bf8 _) h30); refine n6 G (E3 (A1 20 [4] (G3 s.index) (A1 30 [0, 1, 2, 5] (L6 p s.value) E2)) (fc (b := false) rfl (fc (b := true) rfl (fc h29 (fc h30 fz)))) (us [(2, 7, 0), (12, 12, 0), (1013, 1013, 0), (15, 17, 0), (18, 21, 1), (22, 22, 0), (1022, 1022, 1), (1023, 1023, 0), (25, 26, 2), (27, 31, 1), (32, 32, 2), (1032, 1032, 1), (1033, 1033, 2), (35, 37, 3), (42, 42, 3), (1043, 1043, 3)])) [(132, bA true)] fun G => b5 (rT G true (by kernel_rfl) (wp_seq (n6 G l6 [] fun G => b5 (wp_ret (m7 ?_))))); exact B5 false G (rg 8) (by rw [b8 (by (rw [D0 (by omega)]; simp [h100, h0, q0, h1, q1, h2, q2, h25, q25, h26, q26, h27, q27, h28, q28, h29, q29, h30, q30]; done))]; done) (by show _ = mR (rg 8) (m9 p d s c); unfold m9; rw [b8 (by (rw [D0 (by omega)]; simp [h100, h0, q0, h1, q1, h2, q2, h25, q25, h26, q26, h27, q27, h28, q28, h29, q29, h30, q30]; done))] <;> rfl)
         · have q29 : (noneB s.index) = false := (Eq.mp (bf8 _) h29); refine n6 G (E3 (A1 20 [4] (G3 s.index) E2) (fc (b := false) rfl (fc (b := true) rfl (fc h29 fz))) (us [(2, 7, 0), (12, 12, 0), (1013, 1013, 0), (15, 17, 0), (18, 21, 1), (22, 22, 0), (1022, 1022, 1), (1023, 1023, 0), (25, 26, 2), (32, 32, 2), (1033, 1033, 2), (35, 37, 1), (42, 42, 1), (1043, 1043, 1)])) [(132, bA true)] fun G => b5 (rT G true (by kernel_rfl) (wp_seq (n6 G l6 [] fun G => b5 (wp_ret (m7 ?_))))); exact B5 false G (rg 8) (by rw [b8 (by (rw [D0 (by omega)]; simp [h100, h0, q0, h1, q1, h2, q2, h25, q25, h26, q26, h27, q27, h28, q28, h29, q29]; done))]; done) (by show _ = mR (rg 8) (m9 p d s c); unfold m9; rw [b8 (by (rw [D0 (by omega)]; simp [h100, h0, q0, h1, q1, h2, q2, h25, q25, h26, q26, h27, q27, h28, q28, h29, q29]; done))] <;> rfl)
        · refine wp_seq (n6 G l6 [] fun G => b5 (wp_ret (m7 ?_))); exact B5 false G (rg 8) (by rw [b8 (by (rw [D0 (by omega), decide_eq_false (by omega)]; rfl))]; done) (by show _ = mR (rg 8) (m9 p d s c); unfold m9; rw [b8 (by (rw [D0 (by omega), decide_eq_false (by omega)]; rfl))] <;> rfl)
       · have q27 := dTt h27; refine J6 G (E3 (A1 4 [] (A3 s.target 0 ((p.vars.length : Int) - 1)) E2) (fc h25 (fc (b := false) rfl (fc (b := true) rfl (fc h26 (fc h27 fz))))) (us [(7, 8, 0), (9, 12, 1), (13, 13, 0), (1013, 1013, 1), (1014, 1014, 0), (16, 18, 1), (19, 21, 2), (22, 22, 1), (1022, 1022, 2), (1023, 1023, 1), (25, 27, 3), (28, 31, 2), (32, 32, 3), (1032, 1032, 2), (1033, 1033, 3), (35, 37, 4), (42, 42, 4), (1043, 1043, 4)])) [(88, bA true)] [wO ((p.vars.length : Int) - 1)] (o1 (by omega)) fun G => b5 (rT G true (by kernel_rfl) (wp_seq (n6 G l6 [] fun G => b5 (wp_ret (m7 ?_))))); exact B5 false G (rg 8) (by rw [b8 (by (rw [D0 (by omega), decide_eq_false (by omega)]; rfl))]; done) (by show _ = mR (rg 8) (m9 p d s c); unfold m9; rw [b8 (by (rw [D0 (by omega), decide_eq_false (by omega)]; rfl))] <;> rfl)
      · have q26 := bne_iff_ne.1 h26; refine J6 G (E3 (A1 4 [] (A3 s.target 0 ((p.vars.length : Int) - 1)) E2) (fc h25 (fc (b := false) rfl (fc (b := true) rfl (fc h26 fz)))) (us [(7, 8, 0), (9, 12, 1), (13, 13, 0), (1013, 1013, 1), (1014, 1014, 0), (16, 18, 1), (19, 21, 2), (22, 22, 1), (1022, 1022, 2), (1023, 1023, 1), (25, 27, 3), (32, 32, 3), (1033, 1033, 3), (35, 37, 2), (42, 42, 2), (1043, 1043, 2)])) [(88, bA true)] [wO ((p.vars.length : Int) - 1)] (o1 (by omega)) fun G => b5 (rT G true (by kernel_rfl) (wp_seq (n6 G l6 [] fun G => b5 (wp_ret (m7 ?_))))); exact B5 false G (rg 8) (by rw [b8 (by (rw [D0 (by omega), decide_eq_false (by omega)]; rfl))]; done) (by show _ = mR (rg 8) (m9 p d s c); unfold m9; rw [b8 (by (rw [D0 (by omega), decide_eq_false (by omega)]; rfl))] <;> rfl)
     · have q25 : (¬ (0 ≤ s.target)) ∨ (¬ (s.target ≤ (p.vars.length : Int) - 1)) := (fun hq => Or.imp (fun hq => of_decide_eq_false hq) (fun hq => of_decide_eq_false hq) (Bool.and_eq_false_iff.1 hq)) (Eq.mp (bf8 _) h25); refine J6 G (E3 (A1 4 [] (A3 s.target 0 ((p.vars.length : Int) - 1)) E2) (fc h25 (fc (b := true) rfl fz)) [(7, 0), (8, 0), (13, 0), (1014, 0), (16, 1), (17, 1), (18, 1), (22, 1), (1023, 1), (25, 1), (26, 1), (27, 1), (32, 1), (1033, 1), (35, 1), (36, 1), (37, 1), (42, 1), (1043, 1)]) [(88, bA true)] [wO ((p.vars.length : Int) - 1)] (o1 (by omega)) fun G => b5 (rT G true (by kernel_rfl) (wp_seq (n6 G l6 [] fun G => b5 (wp_ret (m7 ?_))))); exact B5 false G (rg 8) (by rw [b8 (by (rw [D0 (by omega), decide_eq_false (by omega)]; rfl))]; done) (by show _ = mR (rg 8) (m9 p d s c); unfold m9; rw [b8 (by (rw [D0 (by omega), decide_eq_false (by omega)]; rfl))] <;> rfl)
   ·
    refine wp_skip (b5 (rT G _ h1 (n6 G l6 [(9, iA (p.vars.length : Int))] fun G => I9 (b5 (wp_seq (wp_seq ?_)))))); cases h32 : (!(decide ((0 : Int) ≤ s.target) && decide (s.target ≤ (p.vars.length : Int) - 1)))
    ·
     have q32 : (0 ≤ s.target) ∧ (s.target ≤ (p.vars.length : Int) - 1) := (fun hq => And.imp (fun hq => of_decide_eq_true hq) (fun hq => of_decide_eq_true hq) (Bool.and_eq_true_iff.1 hq)) (Eq.mp (bg1 _) h32); cases h33 : (s.count != 0)
     ·
      have q33 := bne_eq_false_iff_eq.1 h33; cases h34 : (decide ((s.body.length : Int) > 0))
      ·
       have q34 := dFf h34; refine J6 G (E3 (A1 4 [] (A3 s.target 0 ((p.vars.length : Int) - 1)) E2) (fc h32 (fc (b := false) rfl (fc (b := true) rfl (fc h33 (fc h34 fz))))) (us [(7, 8, 0), (9, 12, 1), (13, 13, 0), (1013, 1013, 1), (1014, 1014, 0), (16, 18, 1), (19, 21, 2), (22, 22, 1), (1022, 1022, 2), (1023, 1023, 1), (25, 27, 3), (28, 31, 2), (32, 32, 3), (1032, 1032, 2), (1033, 1033, 3), (35, 37, 4), (38, 41, 2), (42, 42, 4), (1042, 1042, 2), (1043, 1043, 4)])) [(88, bA (decide ((s.els.length : Int) > 0)))] [wO ((p.vars.length : Int) - 1)] (o1 (by omega)) fun G => b5 (rcD G (fun h35 q35 => ?_) fun h35 q35 => ?_)
       ·
        refine wp_skip (b5 (wp_seq (wp_seq ?_))); cases h36 : (!noneB s.index)
        ·
         have q36 : (noneB s.index) = true := (Eq.mp (bg1 _) h36); cases h37 : (!l8 p.vars.length p.arrays.length s.value)
         ·
          have q37 : (l8 p.vars.length p.arrays.length s.value) = true := (Eq.mp (bg1 _) h37); refine n6 G (E3 (A1 20 [4] (G3 s.index) (A1 30 [0, 1, 2, 5] (L6 p s.value) E2)) (fc (b := false) rfl (fc (b := true) rfl (fc h36 (fc h37 fz)))) (us [(2, 7, 0), (12, 12, 0), (1013, 1013, 0), (15, 17, 0), (18, 21, 1), (22, 22, 0), (1022, 1022, 1), (1023, 1023, 0), (25, 26, 2), (27, 31, 1), (32, 32, 2), (1032, 1032, 1), (1033, 1033, 2), (35, 37, 3), (38, 41, 0), (42, 42, 3), (1042, 1042, 0), (1043, 1043, 3)])) [(132, bA false)] fun G => b5 (rF G false (by kernel_rfl) (wp_skip (b5 (wp_seq ?_)))); cases h38 : ((m5 p.vars.length p.arrays.length d (c + (1 : Nat)) s.body).fst)
          · refine rA1 G (E3 (A1 6 [0, 1, 2, 3, 6] (ih s.body (c + 1) (n + 1) (by simp; omega) (by omega)) E2) (fc h38 fz) (us [(8, 14, 0), (1015, 1015, 0)])) (rg 8) (R7 p (.box [iA ((Z7 p d s c).snd : Int)] :: (R8 s []))) [(8, bA false)] [wO (n + 1)] (o1 (by omega)) fun G => b5 (wp_ret ?_); exact B5 false G (rg 8) (by rw [D3 (by omega) (by (rw [D0 (by omega)]; exact N7 (by omega) (by assumption) (by assumption))) (by assumption)]; assumption) (by show _ = mR (rg 8) (m9 p d s c); unfold m9; rw [D3 (by omega) (by (rw [D0 (by omega)]; exact N7 (by omega) (by assumption) (by assumption))) (by assumption)] <;> rfl)
          · refine rA1 G (E3 (A1 6 [0, 1, 2, 3, 6] (ih s.body (c + 1) (n + 1) (by simp; omega) (by omega)) (A1 14 [0, 1, 2, 3, 7] (ih s.els ((Z7 p d s c).snd) (n + 1) (L1 (by omega) (by assumption)) (by omega)) E2)) (fc h38 fz) (us [(8, 14, 0), (1015, 1015, 0)])) (rg 8) (R7 p (.box [iA ((Z8 p d s c).snd : Int)] :: (R8 s []))) [(8, bA (Z8 p d s c).fst)] [wO (n + 1), wO (n + 1)] (o2 (by omega)) fun G => b5 (wp_ret ?_); exact B5 ((m5 p.vars.length p.arrays.length d (m5 p.vars.length p.arrays.length d (c + 1) s.body).snd s.els).fst) G (rg 8) (by rw [E7 (by omega) (by (rw [D0 (by omega)]; exact N7 (by omega) (by assumption) (by assumption))) (by assumption)]; done) (by show _ = mR (rg 8) (m9 p d s c); unfold m9; rw [E7 (by omega) (by (rw [D0 (by omega)]; exact N7 (by omega) (by assumption) (by assumption))) (by assumption)] <;> rfl)
         · have q37 : (l8 p.vars.length p.arrays.length s.value) = false := (Eq.mp (bf8 _) h37); refine n6 G (E3 (A1 20 [4] (G3 s.index) (A1 30 [0, 1, 2, 5] (L6 p s.value) E2)) (fc (b := false) rfl (fc (b := true) rfl (fc h36 (fc h37 fz)))) (us [(2, 7, 0), (12, 12, 0), (1013, 1013, 0), (15, 17, 0), (18, 21, 1), (22, 22, 0), (1022, 1022, 1), (1023, 1023, 0), (25, 26, 2), (27, 31, 1), (32, 32, 2), (1032, 1032, 1), (1033, 1033, 2), (35, 37, 3), (42, 42, 3), (1043, 1043, 3)])) [(132, bA true)] fun G => b5 (rT G true (by kernel_rfl) (wp_seq (n6 G l6 [] fun G => b5 (wp_ret (m7 ?_))))); exact B5 false G (rg 8) (by rw [b8 (by (rw [D0 (by omega)]; simp [h100, h0, q0, h1, q1, h32, q32, h33, q33, h34, q34, h35, q35, h36, q36, h37, q37]; done))]; done) (by show _ = mR (rg 8) (m9 p d s c); unfold m9; rw [b8 (by (rw [D0 (by omega)]; simp [h100, h0, q0, h1, q1, h32, q32, h33, q33, h34, q34, h35, q35, h36, q36, h37, q37]; done))] <;> rfl)
        · have q36 : (noneB s.index) = false := (Eq.mp (bf8 _) h36); refine n6 G (E3 (A1 20 [4] (G3 s.index) E2) (fc (b := false) rfl (fc (b := true) rfl (fc h36 fz))) (us [(2, 7, 0), (12, 12, 0), (1013, 1013, 0), (15, 17, 0), (18, 21, 1), (22, 22, 0), (1022, 1022, 1), (1023, 1023, 0), (25, 26, 2), (32, 32, 2), (1033, 1033, 2), (35, 37, 1), (42, 42, 1), (1043, 1043, 1)])) [(132, bA true)] fun G => b5 (rT G true (by kernel_rfl) (wp_seq (n6 G l6 [] fun G => b5 (wp_ret (m7 ?_))))); exact B5 false G (rg 8) (by rw [b8 (by (rw [D0 (by omega)]; simp [h100, h0, q0, h1, q1, h32, q32, h33, q33, h34, q34, h35, q35, h36, q36]; done))]; done) (by show _ = mR (rg 8) (m9 p d s c); unfold m9; rw [b8 (by (rw [D0 (by omega)]; simp [h100, h0, q0, h1, q1, h32, q32, h33, q33, h34, q34, h35, q35, h36, q36]; done))] <;> rfl)
       · refine wp_seq (n6 G l6 [] fun G => b5 (wp_ret (m7 ?_))); exact B5 false G (rg 8) (by rw [b8 (by (rw [D0 (by omega), decide_eq_false (by omega)]; rfl))]; done) (by show _ = mR (rg 8) (m9 p d s c); unfold m9; rw [b8 (by (rw [D0 (by omega), decide_eq_false (by omega)]; rfl))] <;> rfl)
      · have q34 := dTt h34; refine J6 G (E3 (A1 4 [] (A3 s.target 0 ((p.vars.length : Int) - 1)) E2) (fc h32 (fc (b := false) rfl (fc (b := true) rfl (fc h33 (fc h34 fz))))) (us [(7, 8, 0), (9, 12, 1), (13, 13, 0), (1013, 1013, 1), (1014, 1014, 0), (16, 18, 1), (19, 21, 2), (22, 22, 1), (1022, 1022, 2), (1023, 1023, 1), (25, 27, 3), (28, 31, 2), (32, 32, 3), (1032, 1032, 2), (1033, 1033, 3), (35, 37, 4), (42, 42, 4), (1043, 1043, 4)])) [(88, bA true)] [wO ((p.vars.length : Int) - 1)] (o1 (by omega)) fun G => b5 (rT G true (by kernel_rfl) (wp_seq (n6 G l6 [] fun G => b5 (wp_ret (m7 ?_))))); exact B5 false G (rg 8) (by rw [b8 (by (rw [D0 (by omega), decide_eq_false (by omega)]; rfl))]; done) (by show _ = mR (rg 8) (m9 p d s c); unfold m9; rw [b8 (by (rw [D0 (by omega), decide_eq_false (by omega)]; rfl))] <;> rfl)
     · have q33 := bne_iff_ne.1 h33; refine J6 G (E3 (A1 4 [] (A3 s.target 0 ((p.vars.length : Int) - 1)) E2) (fc h32 (fc (b := false) rfl (fc (b := true) rfl (fc h33 fz)))) (us [(7, 8, 0), (9, 12, 1), (13, 13, 0), (1013, 1013, 1), (1014, 1014, 0), (16, 18, 1), (19, 21, 2), (22, 22, 1), (1022, 1022, 2), (1023, 1023, 1), (25, 27, 3), (32, 32, 3), (1033, 1033, 3), (35, 37, 2), (42, 42, 2), (1043, 1043, 2)])) [(88, bA true)] [wO ((p.vars.length : Int) - 1)] (o1 (by omega)) fun G => b5 (rT G true (by kernel_rfl) (wp_seq (n6 G l6 [] fun G => b5 (wp_ret (m7 ?_))))); exact B5 false G (rg 8) (by rw [b8 (by (rw [D0 (by omega), decide_eq_false (by omega)]; rfl))]; done) (by show _ = mR (rg 8) (m9 p d s c); unfold m9; rw [b8 (by (rw [D0 (by omega), decide_eq_false (by omega)]; rfl))] <;> rfl)
    · have q32 : (¬ (0 ≤ s.target)) ∨ (¬ (s.target ≤ (p.vars.length : Int) - 1)) := (fun hq => Or.imp (fun hq => of_decide_eq_false hq) (fun hq => of_decide_eq_false hq) (Bool.and_eq_false_iff.1 hq)) (Eq.mp (bf8 _) h32); refine J6 G (E3 (A1 4 [] (A3 s.target 0 ((p.vars.length : Int) - 1)) E2) (fc h32 (fc (b := true) rfl fz)) [(7, 0), (8, 0), (13, 0), (1014, 0), (16, 1), (17, 1), (18, 1), (22, 1), (1023, 1), (25, 1), (26, 1), (27, 1), (32, 1), (1033, 1), (35, 1), (36, 1), (37, 1), (42, 1), (1043, 1)]) [(88, bA true)] [wO ((p.vars.length : Int) - 1)] (o1 (by omega)) fun G => b5 (rT G true (by kernel_rfl) (wp_seq (n6 G l6 [] fun G => b5 (wp_ret (m7 ?_))))); exact B5 false G (rg 8) (by rw [b8 (by (rw [D0 (by omega), decide_eq_false (by omega)]; rfl))]; done) (by show _ = mR (rg 8) (m9 p d s c); unfold m9; rw [b8 (by (rw [D0 (by omega), decide_eq_false (by omega)]; rfl))] <;> rfl)
  · have q0 := dTt h0; refine n6 G (N0 (fc h0 fz) [(5, 0), (6, 0), (1007, 0)]) [(27, bA true)] fun G => b5 (rT G true (by kernel_rfl) (wp_seq (n6 G l6 [] fun G => b5 (wp_ret (m7 ?_))))); exact B5 false G (rg 8) (by simp [aa8 (d := d + 1) (s := s) (show 60 < c + 1 by omega)]; done) (by show _ = mR (rg 8) (m9 p d s c); unfold m9; have e1 : (((w5 p.vars.length p.arrays.length (d + 1) c s).snd : Int) : Int) = ((c : Int) + 1) := (by simp [aa8 (d := d + 1) (s := s) (show 60 < c + 1 by omega)]; done); (first | rw [e1] | simp only [e1]) <;> rfl)
theorem aW6 (p : l9) : ∀ (d : Nat), d ≤ 5 → ∀ (ss : List b6) (c : Nat) (n : Int), c ≤ 60 → n = 6 - (d : Int) → t6.ok Try.prog (aE2 p d c ss n) := by
 intro d
 induction d with
 | zero => intro hd ss c n hc hn; exact aB8 p 0 hd (fun s c n hc hn => a31 p s c hc n (by omega)) ss c n hc hn
 | succ d ih => intro hd ss c n hc hn; exact aB8 p (d + 1) hd (fun s c n hc hn => a30 p d (by omega) (ih (by omega)) s c n hc (by omega)) ss c n hc hn
theorem aB9 (p : l9) (n : Int) (hn : n = 1) : t6.ok Try.prog ⟨70, [pA 0, .ref 2, iA n, .ptr 3 0], pS p ++ [.box [iA 0]], pS p ++ [.box [iA (m5 p.vars.length p.arrays.length 5 0 p.body).2]], bA (m5 p.vars.length p.arrays.length 5 0 p.body).1⟩ :=
 t6.dup (S := pS p ++ [.box [iA 0]]) (S' := pS p ++ [.box [iA (m5 p.vars.length p.arrays.length 5 0 p.body).2]]) (d := .stmts p.body) (i := 2) (aW6 p 5 (by omega) p.body 0 n (by omega) (by omega)) rfl rfl rfl (fun ρ h => by simp only [AV.vals, AV.val]; rw [show ρ 4 = ρ 2 from h]) rfl
theorem aj0 (p : l9) : t6.ok Try.prog (L4 16 [pA 0] (pS p) (bA (K7 p))) := by
 refine M7 15 Try.func16 [dI p.vars, dI p.arrays, dT p.body] [(0, pA 0)] fun G => ?_; refine wp_seq (B6 G l6 (rg 4) [dI p.vars, dI p.arrays, dT p.body, .box (pL 0)] [(1, .ptr 3 0), (2, bA false)] fun G => b5 (wp_seq (B6 G l6 (rg 5) [dI p.vars, dI p.arrays, dT p.body, .box (pL 0), .box [iA 0]] [(1, .ptr 3 0), (2, bA false), (3, .ptr 4 0)] fun G => b5 (wp_seq ?_)))); cases h0 : (H7 p.vars p.arrays)
 ·refine B6 G (E3 (A1 4 [0, 1] (ao1 p.vars p.arrays) E2) (fc h0 fz) (us [(6, 9, 0), (1010, 1010, 0)])) [0, 1, 2] [dI p.vars, dI p.arrays, dT p.body] [(2, bA false)] fun G => b5 (wp_ret ?_); exact B5 false G [0, 1, 2] (ai2 (by assumption))
 ·refine B6 G (E3 (A1 4 [0, 1] (ao1 p.vars p.arrays) (A1 9 [0, 1, 2, 4] (aB9 p 1 (by kernel_rfl)) E2)) (fc h0 fz) (us [(6, 9, 0), (1010, 1010, 0)])) [0, 1, 2] [dI p.vars, dI p.arrays, dT p.body] [(2, bA (m5 p.vars.length p.arrays.length 5 0 p.body).fst)] fun G => b5 (wp_ret ?_); exact B5 ((m5 p.vars.length p.arrays.length 5 0 p.body).fst) G [0, 1, 2] (by rw [← ax9 (p := p) (by assumption)])
theorem aA6 {l : List b7} {k : Nat} (h : (k : Int) < l.length) : l.getD k bh2 ∈ l := by rw [w8 (by omega)]; exact bg4 (by omega)
section
variable {nv na d : Nat} {e : b7}
end
section
variable {vs ars : List Int} {d : Nat} {e : b7}
end
theorem aC9 {α : Type} {l : List α} {k : Nat} {p : α → Bool} {z : α} (h : (l.take k).any p = false) (hk : k < l.length) (hp : p (l.getD k z) = false) : (l.take (k + 1)).any p = false := by
 rw [J3 l k hk, List.any_append, h, ← w8 (d := z) hk, List.any_cons, hp]; rfl
theorem aD0 {α : Type} {l : List α} {k : Nat} {p : α → Bool} (h : (l.take k).any p = false) (hk : l.length ≤ k) : l.any p = false := by
 rw [bf6 hk] at h; exact h
section
variable {nv na : Nat} {s : b6}
variable (h : J4 nv na s = true)
include h
end
section
variable {p : l9} {s : b6} {pc : Int} {strict : Bool} {x : Int}
end
section
variable {p : l9} {strict : Bool} {d c : Nat} {pc : Int} {s : b6}
end
section
variable {p : l9} {strict : Bool}
end
section
variable {p : l9} {s : b6} {cx : Int}
end
def V8 {α : Type} (f : α → Bool) (l : List α) : Int := match l.findIdx? f with
 | some i => i
 | none => -1
theorem ar1 {α : Type} {f : α → Bool} {l : List α} {k : Nat} {z : α} (hk : k < l.length) (h : (l.take k).any f = false) (hf : f (l.getD k z) = true) : V8 f l = k := by
 have : l.findIdx? f = some k := by
  rw [List.findIdx?_eq_some_iff_getElem]
  rw [w8 hk] at hf
  refine ⟨hk, hf, fun j hj => ?_⟩
  rw [List.any_eq_false] at h
  have hm : l[j] ∈ l.take k := List.mem_take_iff_getElem.2 ⟨j, by omega, rfl⟩
  exact h _ hm
 unfold V8; rw [this]
theorem an1 {α : Type} {f : α → Bool} {l : List α} (h : l.any f = false) : V8 f l = -1 := by
 have : l.findIdx? f = none := by
  rw [List.findIdx?_eq_none_iff]
  intro x hx
  rw [List.any_eq_false] at h
  simpa using h x hx
 unfold V8; rw [this]
theorem ar2 {α : Type} (f : α → Bool) (l : List α) : decide (V8 f l ≥ 0) = l.any f := by
 cases h : l.any f
 ·rw [an1 h]; rfl
 ·unfold V8
  cases h2 : l.findIdx? f with
  | none =>
   rw [List.findIdx?_eq_none_iff] at h2
   obtain ⟨x, hx, hf⟩ := List.any_eq_true.1 h
   rw [h2 x hx] at hf; cases hf
  | some i => simp
section
variable {p : l9} {s : b6}
end
section
variable {R : b6 × Int → Int} {c a : Int} {n : Nat} {x : b6 × Int}
end
section
variable {R : b6 × Int → Int} {p : l9} {d : Nat} {cx : Int} {ss : List b6} {c b : Int} {n k : Nat}
end
abbrev Lab : Type := List Int × List Int
def bv (x : Int) : BitVec 64 := BitVec.ofInt 64 x
def leI (x y : Int) : Prop := bv x ||| bv y = bv y
theorem leI.refl (x : Int) : leI x x := BitVec.or_self
theorem leI.trans {x y z : Int} (h : leI x y) (k : leI y z) : leI x z := by
 unfold leI at *
 rw [← k, ← BitVec.or_assoc, h]
def leP (q r : Lab) : Prop := (∀ i, leI (q.1.getD i 0) (r.1.getD i 0)) ∧ ∀ i, leI (q.2.getD i 0) (r.2.getD i 0)
def shP (q r : Lab) : Prop := r.1.length = q.1.length ∧ r.2.length = q.2.length
theorem leP.refl (q : Lab) : leP q q := ⟨fun _ => leI.refl _, fun _ => leI.refl _⟩
theorem leP.trans {q r s : Lab} (h : leP q r) (k : leP r s) : leP q s := ⟨fun i => (h.1 i).trans (k.1 i), fun i => (h.2 i).trans (k.2 i)⟩
theorem shP.refl (q : Lab) : shP q q := ⟨rfl, rfl⟩
theorem shP.trans {q r s : Lab} (h : shP q r) (k : shP r s) : shP q s := ⟨k.1.trans h.1, k.2.trans h.2⟩
theorem shP.symm {q r : Lab} (h : shP q r) : shP r q := ⟨h.1.symm, h.2.symm⟩
section
variable {b : Bool} {d : Nat} {cx : Int} {q r : Lab} {ss : List b6}
end
section
variable {a b : b7} {k : Nat}
end
section
variable {s t : b6} {l m : List b6} {k : Nat}
end
section
variable {vs ars : List Int} {cx : Int} {s : b6} {d : Nat} {b : Bool}
section
variable {nv na d k : Nat} {ss : List b6} {q : Lab} {cx : Int}
end
end
section
variable {p : l9} {q : Lab} {b : List b6} {X : Lab}
end
abbrev nvL : List Int := [3] ++ ([4] ++ ([2] ++ ([5] ++ [])))
abbrev naL : List Int := [1] ++ ([2] ++ ([0] ++ ([1] ++ [])))
def kp1 (b : List UInt8) (k : Int) : Int := k + 1 + nm b k nvL
def kp2 (b : List UInt8) (k : Int) : Int := kp1 b k + 1 + nm b (kp1 b k) naL
section
variable (b : List UInt8) {k : Int}
end
abbrev vaL : List Int := [0] ++ ([1] ++ ([2] ++ ([3] ++ ([255] ++ ([128] ++ ([7] ++ ([4] ++ ([100] ++ []))))))))
def ptD (b : List UInt8) (j : Int) (nv na : Nat) (at0 n : Int) (kd : UInt8) : Int :=
 if kd = 114 then pk b j 3 else if kd = 99 then nm b j vaL else if kd = 118 then pk b j nv else if kd = 97 then pk b j na else if kd = 111 then 4 + pk b j 7 else at0 + 1 + pk b j (n - at0 - 1)
def psD (b : List UInt8) (j : Int) (nv na : Nat) (at0 n : Int) (ks : List UInt8) (k : Nat) : List Int := (bg0 4).map fun i => if i < k then ptD b (j + i) nv na at0 n (ks.getD i 0) else 0
theorem aI9 (b : List UInt8) (j : Int) (nv na : Nat) (at0 n : Int) (ks : List UInt8) (k : Nat) : (psD b j nv na at0 n ks k).length = 4 := by simp [psD]
theorem aS3 (b : List UInt8) (j : Int) (nv na : Nat) (at0 n : Int) (ks : List UInt8) {k : Nat} (hk : k < 4) : psD b j nv na at0 n ks (k + 1) = (psD b j nv na at0 n ks k).set k (ptD b (j + k) nv na at0 n (ks.getD k 0)) := by
 apply List.ext_getElem (by simp [aI9])
 intro i h1 h2
 rw [List.getElem_set]
 simp only [psD, List.getElem_map, List.getElem_range]
 by_cases e : k = i
 ·subst e; simp
 ·rw [if_neg e]
  have : (i < k + 1) ↔ (i < k) := by omega
  simp only [this]
structure A6 where
 vals : List Int
 arrs : List (List Int)
def H9 (l : List Int) : Bool := l.all fun n => decide (0 ≤ n) && decide (n ≤ 255)
def R4 (a : List Int) : Bool := decide (a.length = 4) && H9 a
def mfB (nv na : Nat) (m : A6) : Bool := decide (m.vals.length = nv) && (decide (m.arrs.length = na) && (H9 m.vals && m.arrs.all R4))
theorem aP6 {l : List Int} {k : Nat} (h : (l.take k).all (fun n => decide (0 ≤ n) && decide (n ≤ 255)) = true) (hk : k < l.length) (h1 : 0 ≤ l.getD k 0) (h2 : l.getD k 0 ≤ 255) : (l.take (k + 1)).all (fun n => decide (0 ≤ n) && decide (n ≤ 255)) = true :=
 ae7 (z := 0) h hk (by simp only [decide_eq_true h1, decide_eq_true h2]; rfl)
theorem aP5 {l : List Int} {k : Nat} (hk : k < l.length) (h : l.getD k 0 < 0 ∨ 255 < l.getD k 0) : H9 l = false := by
 unfold H9
 rw [List.all_eq_false]
 refine ⟨l.getD k 0, by rw [w8 hk]; exact bg4 hk, ?_⟩
 simp only [bf0, decide_eq_true_eq]
 omega
theorem aX6 {l : List Int} {k : Nat} (h : (l.take k).all (fun n => decide (0 ≤ n) && decide (n ≤ 255)) = true) (hk : l.length ≤ k) : H9 l = true := by
 rw [bf6 hk] at h; exact h
theorem aX2 {l : List (List Int)} {k : Nat} (h : (l.take k).all R4 = true) (hk : k < l.length) (h1 : ((l.getD k []).length : Int) = 4) (h2 : H9 (l.getD k []) = true) : (l.take (k + 1)).all R4 = true :=
 ae7 (z := []) h hk (by unfold R4; rw [decide_eq_true (p := (l.getD k []).length = 4) (by omega), h2]; rfl)
theorem aX1 {l : List (List Int)} {k : Nat} (hk : k < l.length) (h : ¬ ((l.getD k []).length : Int) = 4 ∨ H9 (l.getD k []) = false) : l.all R4 = false := by
 rw [List.all_eq_false]
 refine ⟨l.getD k [], by rw [w8 hk]; exact bg4 hk, ?_⟩
 unfold R4
 rcases h with h | h
 ·rw [decide_eq_false (p := (l.getD k []).length = 4) (by omega)]; simp
 ·rw [h]; simp
theorem a36 {l : List (List Int)} {k : Nat} (h : (l.take k).all R4 = true) (hk : l.length ≤ k) : l.all R4 = true := by
 rw [bf6 hk] at h; exact h
section
variable {nv na : Nat} {m : A6}
theorem a54 (h : ¬ (m.vals.length : Int) = nv) : mfB nv na m = false := by unfold mfB; rw [decide_eq_false (p := m.vals.length = nv) (by omega)]; rfl
theorem a53 (h : ¬ (m.arrs.length : Int) = na) : mfB nv na m = false := by unfold mfB; rw [decide_eq_false (p := m.arrs.length = na) (by omega)]; simp
theorem a52 (h : H9 m.vals = false) : mfB nv na m = false := by unfold mfB; rw [h]; simp
theorem a51 (h : m.arrs.all R4 = false) : mfB nv na m = false := by unfold mfB; rw [h]; simp
theorem bb1 (h1 : (m.vals.length : Int) = nv) (h2 : (m.arrs.length : Int) = na) (h3 : H9 m.vals = true) (h4 : m.arrs.all R4 = true) : mfB nv na m = true := by
 unfold mfB
 rw [decide_eq_true (p := m.vals.length = nv) (by omega), decide_eq_true (p := m.arrs.length = na) (by omega), h3, h4]; rfl
theorem bb0 (h1 : (m.vals.length : Int) = nv) (h2 : (m.arrs.length : Int) = na) (h3 : H9 m.vals = true) : mfB nv na m = m.arrs.all R4 := by
 unfold mfB
 rw [decide_eq_true (p := m.vals.length = nv) (by omega), decide_eq_true (p := m.arrs.length = na) (by omega), h3]; rfl
theorem am9 (h : mfB nv na m = true) : m.vals.length = nv ∧ m.arrs.length = na ∧ H9 m.vals = true ∧ m.arrs.all R4 = true := by
 unfold mfB at h
 simpa [bf0] using h
end
abbrev aP1 : Type := List J0 × List Int × Int
def be7 (x : aP1) (n : Int) (c : List J0) : aP1 := (x.1 ++ c, x.2.1 ++ bh8 c.length n, x.2.2)
section
variable {P : Program} {ι κ : Type} {φ ψ : Nat → Prop} {w0 w : World} {F : ι → Rs} {ρ ρ0 : Nat → Value} {N m n : Nat} {S : List It} {tm : List (Nat × AV)} {a : Act}
theorem B4.heal (G : B4 φ ψ w0 F N m ρ0 ρ S tm a w) (id k i : Nat) (l : List (List Int)) (r : List Int) (S1 : List It) (h1 : t4 S id = .hole k i l := by kernel_rfl) (h2 : t4 S k = .row 3 (.ints r) := by kernel_rfl) (hS : S1 = (S.set id (.tree (.rows (l.set i r)))).set k .dead := by kernel_rfl) : B4 φ ψ w0 F N m ρ0 ρ S1 tm a w := by
 subst hS
 have hid : id < S.length := by
  rcases bh7 id S.length with h | h
  ·exact h
  ·rw [v6 h] at h1; cases h1
 have hk : k < S.length := by
  rcases bh7 k S.length with h | h
  ·exact h
  ·rw [v6 h] at h2; cases h2
 have hne : id ≠ k := fun e => by rw [e, h2] at h1; cases h1
 have hlen : ((S.set id (.tree (.rows (l.set i r)))).set k .dead).length = S.length := by simp
 have hat : ∀ j, t4 ((S.set id (.tree (.rows (l.set i r)))).set k .dead) j = if j = k then .dead else if j = id then .tree (.rows (l.set i r)) else t4 S j := fun j => by
  simp only [t4, bf2, List.getElem?_set]
  by_cases e1 : k = j
  ·subst e1; simp [hk]
  ·have e1' : ¬ j = k := fun h => e1 h.symm
   by_cases e2 : id = j
   ·subst e2; simp [hid, e1, e1']
   ·have e2' : ¬ j = id := fun h => e2 h.symm
    simp [e1, e1', e2, e2']
 refine ⟨G.size, G.defs, G.tmv, fun t x hx q hq => by rw [hlen]; exact G.tmi t x hx q hq, fun j => ⟨fun q hq => ?_, fun hj => ?_⟩, ?_, by rw [hlen]; exact G.le, G.old⟩
 ·rw [hat] at hq
  rw [hlen]
  split at hq
  ·cases hq
  ·split at hq
   ·cases hq
   ·exact (G.bd j).1 q hq
 ·rw [hlen] at hj
  rw [hat, if_neg (by omega), if_neg (by omega)]
  exact v6 hj
 ·have M := G.mem
  have hh := M.holds (.inr id)
  have hr := M.holds (.inr k)
  have l1 : n7 F ρ (t4 S) (.inr id) = .own (fun b => v5 (ρ id) b ∧ (ρ k).ownBlock ≠ some b) fun w => ae9 w (v5 (ρ id)) i l (ρ k) (D8 (ρ id)) := by simp only [n7, h1, It.res]
  have l2 : n7 F ρ (t4 S) (.inr k) = .row 3 1 (ρ k) r.length fun xs w φ => RW w φ (.ints r) xs := by simp only [n7, h2, It.res, D.sz, D.len]
  rw [l1] at hh
  rw [l2] at hr
  obtain ⟨_, hO, hlt⟩ := hh
  obtain ⟨_, xs, o1, o2⟩ := hr
  have hxs : xs = ints r := at2 (by have := o1.1; simpa using this) o2
  subst hxs
  have hT := hO.back o1
  have hu : ∀ g, (ρ k).ownBlock = some g → v5 (ρ id) g := by
   obtain ⟨ys, S', _, _, q3, q4, q5, _, q2, _⟩ := hO
   obtain ⟨u', a', _, c⟩ := q2 i q5
   rw [q4] at a'; cases a'
   exact fun g hg => q3 g (c g hg)
  have m1 : n7 F ρ (t4 ((S.set id (.tree (.rows (l.set i r)))).set k .dead)) (.inr id) = .own (v5 (ρ id)) fun w => A7 w (v5 (ρ id)) (.rows (l.set i r)) (D8 (ρ id)) := by simp only [n7, hat, if_neg hne, if_true, It.res]
  have m2 : n7 F ρ (t4 ((S.set id (.tree (.rows (l.set i r)))).set k .dead)) (.inr k) = Rs.none := by simp only [n7, hat, if_true, It.res]
  have m3 : ∀ q, q ≠ .inr id → q ≠ .inr k → n7 F ρ (t4 ((S.set id (.tree (.rows (l.set i r)))).set k .dead)) q = n7 F ρ (t4 S) q := fun q e1 e2 => by
   cases q with
   | inl _ => rfl
   | inr j => simp only [n7, hat, if_neg (show ¬ j = k from fun e => e2 (by rw [e])), if_neg (show ¬ j = id from fun e => e1 (by rw [e]))]
  generalize n7 F ρ (t4 ((S.set id (.tree (.rows (l.set i r)))).set k .dead)) = L' at *
  have org : ∀ q b, (L' q).blk b → (q = .inr id ∧ ((n7 F ρ (t4 S) (.inr id)).blk b ∨ (n7 F ρ (t4 S) (.inr k)).blk b)) ∨ (q ≠ .inr id ∧ q ≠ .inr k ∧ (n7 F ρ (t4 S) q).blk b) := fun q b hb => by
   by_cases e1 : q = .inr id
   ·subst e1
    rw [m1] at hb
    refine .inl ⟨rfl, ?_⟩
    rw [l1, l2]
    by_cases e : (ρ k).ownBlock = some b
    ·exact .inr e
    ·exact .inl ⟨hb, e⟩
   ·by_cases e2 : q = .inr k
    ·subst e2; rw [m2] at hb; exact hb.elim
    ·rw [m3 q e1 e2] at hb; exact .inr ⟨e1, e2, hb⟩
  refine M.re (fun q b hb => ?_) (fun p q g hpq h1 h2 => ?_) fun q => ?_
  ·rcases org q b hb with ⟨_, h | h⟩ | ⟨_, _, h⟩
   ·exact ⟨_, h⟩
   ·exact ⟨_, h⟩
   ·exact ⟨_, h⟩
  ·rcases org p g h1 with ⟨e1, f1⟩ | ⟨e1, e1', f1⟩
   ·rcases org q g h2 with ⟨e2, f2⟩ | ⟨e2, e2', f2⟩
    ·exact hpq (e1.trans e2.symm)
    ·rcases f1 with f1 | f1
     ·exact M.dis _ _ g (fun e => e2 e.symm) f1 f2
     ·exact M.dis _ _ g (fun e => e2' e.symm) f1 f2
   ·rcases org q g h2 with ⟨e2, f2⟩ | ⟨e2, e2', f2⟩
    ·rcases f2 with f2 | f2
     ·exact M.dis _ _ g e1 f1 f2
     ·exact M.dis _ _ g e1' f1 f2
    ·exact M.dis _ _ g hpq f1 f2
  ·by_cases e1 : q = .inr id
   ·subst e1
    right; intro φ'; rw [m1]
    refine ⟨fun _ _ h hs => h.same hs, hT, fun b hb => ?_⟩
    by_cases e : (ρ k).ownBlock = some b
    ·exact (World.ownsRow.lt o1 b e).2
    ·exact hlt b ⟨hb, e⟩
   ·by_cases e2 : q = .inr k
    ·subst e2
     right; intro φ'; rw [m2]; exact Rs.none_holds _ _
    ·exact .inl (m3 q e1 e2)
theorem It.res_ren' {σ : Nat → Nat} {i j : Nat} {ρ : Nat → Value} (x : It) (h : σ i = j) : (x.ren σ).res ρ j = x.res (fun i => ρ (σ i)) i := by
 subst h; exact It.res_ren x
def mv (i n j : Nat) : Nat := if natEq j i then n else j
theorem am3 {f : AV → AV} {t : Nat} {y : AV} : ∀ {tm : List (Nat × AV)}, B3 (tm.map fun p => (p.1, f p.2)) t = some y → ∃ x, B3 tm t = some x ∧ y = f x
 | [], h => by cases h
 | (k, z) :: r, h => by
  simp only [B3, bh1] at h ⊢
  split at h
  ·rename_i hk; cases h; exact ⟨z, by rw [if_pos hk], rfl⟩
  ·rename_i hk
   obtain ⟨x, h1, h2⟩ := am3 h
   exact ⟨x, by rw [if_neg hk]; exact h1, h2⟩
theorem a80 {i n : Nat} {x : AV} : ∀ j ∈ (x.ren (mv i n)).ids, (∃ k ∈ x.ids, mv i n k = j) := by
 have key : (∀ x : AV, ∀ j ∈ (x.ren (mv i n)).ids, ∃ k ∈ x.ids, mv i n k = j) ∧ (∀ l : List AV, ∀ j ∈ AV.idsL (AV.renL (mv i n) l), ∃ k ∈ AV.idsL l, mv i n k = j) := by
  have hL : ∀ (l : List AV), (∀ x ∈ l, ∀ j ∈ (x.ren (mv i n)).ids, ∃ k ∈ x.ids, mv i n k = j) → ∀ j ∈ AV.idsL (AV.renL (mv i n) l), ∃ k ∈ AV.idsL l, mv i n k = j := by
   intro l
   induction l with
   | nil => intro _ j hj; cases hj
   | cons y r ih =>
    intro h j hj
    simp only [AV.renL, AV.idsL, bg8] at hj ⊢
    rcases hj with hj | hj
    ·obtain ⟨k, h1, h2⟩ := h y bg2 j hj
     exact ⟨k, .inl h1, h2⟩
    ·obtain ⟨k, h1, h2⟩ := ih (fun x hx => h x (bg5 _ hx)) j hj
     exact ⟨k, .inr h1, h2⟩
  have hx : ∀ x : AV, ∀ j ∈ (x.ren (mv i n)).ids, ∃ k ∈ x.ids, mv i n k = j := fun x => goX hL x
  exact ⟨hx, fun l => hL l fun x _ => hx x⟩
 exact key.1 x
where
 goX {i n : Nat} (hL : ∀ (l : List AV), (∀ x ∈ l, ∀ j ∈ (x.ren (mv i n)).ids, ∃ k ∈ x.ids, mv i n k = j) → ∀ j ∈ AV.idsL (AV.renL (mv i n) l), ∃ k ∈ AV.idsL l, mv i n k = j) : ∀ x : AV, ∀ j ∈ (x.ren (mv i n)).ids, ∃ k ∈ x.ids, mv i n k = j
  | .v _, j, hj => by cases hj
  | .ptr a b, j, hj => ⟨a, bh3.2 rfl, (bh3.1 hj).symm⟩
  | .ea a b c d, j, hj => ⟨a, bh3.2 rfl, (bh3.1 hj).symm⟩
  | .ref a, j, hj => ⟨a, bh3.2 rfl, (bh3.1 hj).symm⟩
  | .tref a, j, hj => ⟨a, bh3.2 rfl, (bh3.1 hj).symm⟩
  | .agg l, j, hj => hL l (fun x _ => goX hL x) j hj
  | .tup l, j, hj => hL l (fun x _ => goX hL x) j hj
  | .fn _ l, j, hj => hL l (fun x _ => goX hL x) j hj
  | .bm _ l, j, hj => hL l (fun x _ => goX hL x) j hj
theorem B4.shift (G : B4 φ ψ w0 F N m ρ0 ρ S tm a w) (i n : Nat) (S1 : List It) (tm1 : List (Nat × AV)) (hn : (natEq S.length n && decide (i < n)) = true := by kernel_rfl) (hS : S1 = (S.map (It.ren (mv i n))).set i .dead ++ [(t4 S i).ren (mv i n)] := by kernel_rfl) (ht : tm1 = tm.map (fun p => (p.1, p.2.ren (mv i n))) := by kernel_rfl) :
  ∃ ρ', B4 φ ψ w0 F N m ρ0 ρ' S1 tm1 a w := by
 subst hS
 subst ht
 simp only [bf0, natEq, beq_iff_eq, decide_eq_true_eq] at hn
 obtain ⟨hn, hin⟩ := hn
 have hlen : ((S.map (It.ren (mv i n))).set i .dead ++ [(t4 S i).ren (mv i n)]).length = n + 1 := by simp [hn]
 have hat : ∀ j, t4 ((S.map (It.ren (mv i n))).set i .dead ++ [(t4 S i).ren (mv i n)]) j = if j = n then (t4 S i).ren (mv i n) else if j = i then .dead else (t4 S j).ren (mv i n) := fun j => by
  by_cases e : j = n
  ·subst e
   rw [if_pos rfl]
   simp only [t4, bf2]
   rw [bh6 (by simp [hn])]
   simp [hn]
  ·rw [if_neg e]
   by_cases e2 : j = i
   ·subst e2
    rw [if_pos rfl]
    simp only [t4, bf2]
    rw [bh5 (by simp; omega)]
    simp [show j < S.length by omega]
   ·rw [if_neg e2]
    simp only [t4, bf2]
    rcases bh7 j n with h | h
    ·rw [bh5 (by simp; omega), List.getElem?_set_ne (fun h => e2 h.symm), List.getElem?_map, be9 (by omega)]
     rfl
    ·rw [bh4 (by simp; omega), bh4 (by omega)]; rfl
 have hbd : ∀ x : AV, (∀ j ∈ x.ids, j < n) → ∀ j ∈ (x.ren (mv i n)).ids, j < n + 1 := fun x h j hj => by
  obtain ⟨k, h1, h2⟩ := a80 j hj
  have := h k h1
  rw [← h2]; unfold mv
  split <;> omega
 let ρ1 : Nat → Value := fun j => if j = n then ρ i else ρ j
 have hmv : ∀ j, j < n → ρ1 (mv i n j) = ρ j := fun j hj => by
  show (if mv i n j = n then ρ i else ρ (mv i n j)) = ρ j
  by_cases e : j = i
  ·subst e; simp [mv, natEq]
  ·have h : mv i n j = j := by simp [mv, natEq, e]
   rw [h, if_neg (by omega)]
 have hval : ∀ x : AV, (∀ j ∈ x.ids, j < n) → (x.ren (mv i n)).val ρ1 = x.val ρ := fun x h => by
  rw [AV.val_ren]
  exact AV.val_congr x fun j hj => hmv j (h j hj)
 have hids : ∀ j, ∀ q ∈ (t4 S j).ids, q < n := fun j q hq => by have := (G.bd j).1 q hq; omega
 have hitem : ∀ j, ∀ q ∈ ((t4 S j).ren (mv i n)).ids, q < n + 1 := fun j q hq => by
  cases hx : t4 S j with
  | box cs =>
   rw [hx] at hq
   have h1 := hids j
   rw [hx] at h1
   exact hbd (.agg cs) h1 q hq
  | hole k d ls =>
   rw [hx] at hq
   have h1 := hids j
   rw [hx] at h1
   exact hbd (.ref k) h1 q hq
  | _ => rw [hx] at hq; cases hq
 refine ⟨ρ1, G.size, G.defs, fun t y hy => ?_, fun t y hy j hj => ?_, fun j => ⟨fun q hq => ?_, fun hj => v6 hj⟩, ?_, ?_, fun j hj => ?_⟩
 ·obtain ⟨x, h1, rfl⟩ := am3 hy
  rw [G.tmv t x h1, hval x fun j hj => by have := G.tmi t x h1 j hj; omega]
 ·obtain ⟨x, h1, rfl⟩ := am3 hy
  rw [hlen]
  exact hbd x (fun j hj => by have := G.tmi t x h1 j hj; omega) j hj
 ·rw [hlen]
  rw [hat] at hq
  split at hq
  ·exact hitem i q hq
  ·split at hq
   ·cases hq
   ·exact hitem j q hq
 ·refine G.mem.map (fun k : ι ⊕ Nat => (match k with | .inl q => some (.inl q) | .inr j => if j = n then some (.inr i) else if j = i then none else some (.inr j) : Option (ι ⊕ Nat))) ?_ ?_
  ·intro k k' x h1 h2
   match k, k' with
   | .inl q, .inl q' => simp at h1 h2; rw [← h1] at h2; simpa using h2.symm
   | .inl q, .inr j => simp at h1; subst h1; simp at h2; split at h2 <;> simp at h2
   | .inr j, .inl q => simp at h2; subst h2; simp at h1; split at h1 <;> simp at h1
   | .inr j, .inr j' =>
    simp only at h1 h2
    by_cases e1 : j = n <;> by_cases e2 : j' = n
    ·rw [e1, e2]
    ·rw [if_pos e1] at h1
     rw [if_neg e2] at h2
     by_cases e3 : j' = i
     ·rw [if_pos e3] at h2; cases h2
     ·rw [if_neg e3] at h2
      simp at h1 h2
      rw [← h1] at h2
      exact absurd (Sum.inr.inj h2) e3
    ·rw [if_pos e2] at h2
     rw [if_neg e1] at h1
     by_cases e3 : j = i
     ·rw [if_pos e3] at h1; cases h1
     ·rw [if_neg e3] at h1
      simp at h1 h2
      rw [← h2] at h1
      exact absurd (Sum.inr.inj h1) e3
    ·rw [if_neg e1] at h1
     rw [if_neg e2] at h2
     by_cases e3 : j = i
     ·rw [if_pos e3] at h1; cases h1
     ·by_cases e4 : j' = i
      ·rw [if_pos e4] at h2; cases h2
      ·rw [if_neg e3] at h1
       rw [if_neg e4] at h2
       simp at h1 h2
       rw [← h1] at h2
       rw [Sum.inr.inj h2]
  ·intro k
   match k with
   | .inl q => exact .inl ⟨_, rfl, rfl⟩
   | .inr j =>
    by_cases e : j = n
    ·refine .inl ⟨.inr i, by simp [e], ?_⟩
     simp only [n7]
     rw [hat, if_pos e]
     subst e
     have h1 : mv i j i = j := by simp [mv, natEq]
     rw [It.res_ren' (t4 S i) h1]
     exact It.res_congr _ (fun q hq => hmv q (hids i q hq)) (.inr (.inr (hmv i hin)))
    ·by_cases e2 : j = i
     ·refine .inr ?_
      simp only [n7]
      rw [hat, if_neg e, if_pos e2]
      rfl
     ·refine .inl ⟨.inr j, by simp [e, e2], ?_⟩
      simp only [n7]
      rw [hat, if_neg e, if_neg e2]
      rcases bh7 j n with hj | hj
      ·have h1 : mv i n j = j := by simp [mv, natEq, e2]
       rw [It.res_ren' (t4 S j) h1]
       exact It.res_congr _ (fun q hq => hmv q (hids j q hq)) (.inr (.inr (hmv j hj)))
      ·rw [v6 (by omega)]; rfl
 ·have := G.le; rw [hlen]; omega
 ·have := G.le
  show (if j = n then ρ i else ρ j) = ρ0 j
  rw [if_neg (by omega)]; exact G.old j hj
end
section
variable {e : b7} {l : List J0} {fr : List Int} {n reg : Int} {k : Nat}
end
end Go.Proofs.Ytgmhmijcnlfmfaa
