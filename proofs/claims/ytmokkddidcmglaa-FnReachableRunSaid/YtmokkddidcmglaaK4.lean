/- Part 4: functions on the way, plain laws. Conditions: as said. -/
import Derived.Deep.LoopGhost
import Derived.IntWalk
import Derived.WalkSpells
import Derived.Lib.SliceRun
import Derived.Test.YtmokkddidcmglaaK1
import Derived.Test.YtmokkddidcmglaaK3
set_option maxRecDepth 100000
set_option maxHeartbeats 16000000
set_option linter.unusedVariables false
set_option linter.unusedSimpArgs false
open Array renaming replicate → bV7
open Bool renaming and_eq_true → bR6, eq_iff_iff → bT5, not_eq_false' → bV2, not_eq_true' → bT6
open Inhabited renaming default → aK4
open Int renaming mul_le_mul_of_nonneg_right → bV4
open List renaming all_eq_true → bS2, eq_nil_of_length_eq_zero → bU3, getD_eq_getElem?_getD → bR7, getElem?_append_left → bT3, getElem?_eq_getElem → bo2, getElem?_eq_none → bT2, getElem?_eq_some_iff → bS0, getElem_mem → bS9, length_append → bR8, length_cons → bS1, length_nil → bS6, length_set → bU7, map_cons → bU0, mem_append → bS7, mem_cons → bU2, mem_cons_of_mem → bU4, mem_cons_self → bU5, mem_of_getElem? → bT0, mem_range → bU9, mem_singleton → bU1, nil_append → bV6, range → bS8, take → bS3, take_of_length_le → bT9
open Nat renaming le_refl → bS5, le_trans → bT4, lt_or_ge → bT8, mul_le_mul_right → bU6, zero_add → bV1, zero_le → bU8
open Option renaming isSome_iff_exists → bV3, map_eq_some_iff → bR9
open True renaming intro → bS4

namespace Go.Proofs.Ytmokkddidcmglaa
open Go Go.RowKit
def pf {β : Type} (wr : Ac → Option β) : List Ac → Nat → (Nat → Bool) → β → β
 | [], _, _, v => v
 | a :: r, k, B, v => pf wr r (k + 1) B (match wr a with | some x => if B k then x else v | none => v)
theorem N7 {β : Type} {wr : Ac → Option β} {B B' : Nat → Bool} : ∀ {az : List Ac} {k : Nat} {v : β}, (∀ j a, az[j]? = some a → (wr a).isSome = true → B (k + j) = B' (k + j)) → pf wr az k B v = pf wr az k B' v
 | [], _, _, _ => rfl
 | a :: r, k, v, h => by
  simp only [pf]
  have h0 := h 0 a rfl
  have hr : ∀ j b, r[j]? = some b → (wr b).isSome = true → B (k + 1 + j) = B' (k + 1 + j) := fun j b hb hw => by
   have := h (j + 1) b (by simpa using hb) hw
   rw [show k + (j + 1) = k + 1 + j by omega] at this; exact this
  cases hw : wr a with
  | none => exact N7 hr
  | some x =>
   rw [hw] at h0
   simp only [Nat.add_zero, Option.isSome_some, forall_const] at h0
   rw [h0]
   exact N7 hr
theorem S5 {β : Type} {wr : Ac → Option β} {B : Nat → Bool} : ∀ {az : List Ac} {k : Nat} {v : β}, (∀ j a, az[j]? = some a → (wr a).isSome = true → B (k + j) = false) → pf wr az k B v = v
 | [], _, _, _ => rfl
 | a :: r, k, v, h => by
  simp only [pf]
  have h0 := h 0 a rfl
  have hr : ∀ j b, r[j]? = some b → (wr b).isSome = true → B (k + 1 + j) = false := fun j b hb hw => by
   have := h (j + 1) b (by simpa using hb) hw
   rw [show k + (j + 1) = k + 1 + j by omega] at this; exact this
  rw [S5 hr]
  cases hw : wr a with
  | none => rfl
  | some x =>
   rw [hw] at h0
   simp only [Nat.add_zero, Option.isSome_some, forall_const] at h0
   simp [h0]
theorem aD1 {β : Type} {wr : Ac → Option β} {B : Nat → Bool} : ∀ {az : List Ac} {k i : Nat} {v x : β} {a : Ac}, az[i]? = some a → wr a = some x → B (k + i) = true → (∀ j b, i < j → az[j]? = some b → (wr b).isSome = true → B (k + j) = false) → pf wr az k B v = x
 | [], _, _, _, _, _, h, _, _, _ => by simp at h
 | b :: r, k, 0, v, x, a, h, hw, hB, hn => by
  simp at h; subst h
  simp only [pf, hw]
  rw [Nat.add_zero] at hB
  rw [hB, if_pos rfl]
  refine S5 fun j c hc hs => ?_
  have := hn (j + 1) c (by omega) (by simpa using hc) hs
  rw [show k + (j + 1) = k + 1 + j by omega] at this; exact this
 | b :: r, k, i + 1, v, x, a, h, hw, hB, hn => by
  simp only [pf]
  refine aD1 (i := i) (by simpa using h) hw (by rw [show k + 1 + i = k + (i + 1) by omega]; exact hB) fun j c hj hc hs => ?_
  have := hn (j + 1) c (by omega) (by simpa using hc) hs
  rw [show k + (j + 1) = k + 1 + j by omega] at this; exact this
theorem ag2 {β : Type} {wr : Ac → Option β} {B : Nat → Bool} (p : β → Prop) : ∀ {az : List Ac} {k : Nat} {v : β}, p v → (∀ j a x, az[j]? = some a → B (k + j) = true → wr a = some x → p x) → p (pf wr az k B v)
 | [], _, _, h, _ => h
 | a :: r, k, v, h, hs => by
  simp only [pf]
  refine ag2 p ?_ fun j b x hb hB hw => hs (j + 1) b x (by simpa using hb) (by rw [show k + (j + 1) = k + 1 + j by omega]; exact hB) hw
  cases hw : wr a with
  | none => exact h
  | some x =>
   simp only
   split
   ·rename_i hB; exact hs 0 a x rfl (by simpa using hB) hw
   ·exact h
def at5 : List (Nat × It) → Nat → Option It
 | [], _ => none
 | (k, x) :: r, i => if i = k then some x else at5 r i
theorem ai2 (S : Nat → It) (i : Nat) : ∀ (l : List (Nat × It)), l5 S l i = match at5 l i with | some x => x | none => S i
 | [] => rfl
 | (k, x) :: r => by simp only [l5, at5]; split; rfl; exact ai2 S i r
theorem M6 {l : List (Nat × It)} {i : Nat} {x : It} (h : at5 l i = some x) : (i, x) ∈ l := by
 induction l with
 | nil => cases h
 | cons p r ih =>
  obtain ⟨k, y⟩ := p
  simp only [at5] at h
  split at h
  ·rename_i e; cases h; rw [e]; exact bU5
  ·exact bU4 _ (ih h)
def wrT (t : Nat) (a : Ac) : Option (Option AV) := if a.dst = some t then some (some a.t.res) else none
def wrS (i : Nat) (a : Ac) : Option It := at5 a.t.new i
def tmD (az : List Ac) (B : Nat → Bool) (tm : Nat → Option AV) : Nat → Option AV := fun t => pf (wrT t) az 0 B (tm t)
def sD (az : List Ac) (B : Nat → Bool) (S : Nat → It) : Nat → It := fun i => pf (wrS i) az 0 B (S i)
def bef (ms : List Nat) (j i : Nat) : Bool := (nth ms i).testBit j
def aS3 (ms : List Nat) (o : Oper) : Nat := o.after.foldl (fun s e => if Region.binds .any e then s ||| (2 ^ e.on ||| nth ms e.on) else s) 0
def aD5 (ms : List Nat) (l : List Oper) : Bool := (bS8 l.length).all fun i => match l[i]? with | some o => natEq (nth ms i) (aS3 ms o) | none => false
def X2 (a b : Ac) : Bool :=
 (match b.dst with | some t => memN t a.rt || (match a.dst with | some s => natEq s t | none => false) | none => false) ||
 b.t.new.any (fun p => memN p.1 a.ri || a.t.new.any fun q => natEq q.1 p.1)
def bx4 (ms : List Nat) (az : List Ac) : Bool :=
 (bS8 az.length).all fun i => (bS8 az.length).all fun j =>
  match az[i]?, az[j]? with
  | some a, some b => natEq i j || !X2 a b || (if decide (j < i) then bef ms j i else bef ms i j)
  | _, _ => false
def bp5 (S : Nat → It) (az : List Ac) (j : Nat) : Nat := match az.findSome? (wrS j) with
 | some x => knd x
 | none => knd (S j)
def a86 (ms : List Nat) (S : Nat → It) (az : List Ac) : Bool :=
 (bS8 az.length).all fun i =>
  match az[i]? with
  | some a => a.rk.all fun j => az.all (fun b => match wrS j b with | some x => natEq (knd x) (bp5 S az j) | none => true) && (natEq (knd (S j)) (bp5 S az j) || (bS8 i).any fun k => bef ms k i && match az[k]? with | some b => (wrS j b).isSome | none => false)
  | none => true
theorem aZ3 {β : Type} {wr : Ac → Option β} {B : Nat → Bool} (p : β → Prop) : ∀ {az : List Ac} {k : Nat} {v : β}, (∀ (j : Nat) (a : Ac) (x : β), az[j]? = some a → wr a = some x → p x) → (p v ∨ ∃ (j : Nat) (a : Ac), az[j]? = some a ∧ (wr a).isSome = true ∧ B (k + j) = true) → p (pf wr az k B v)
 | [], _, _, _, h => by rcases h with h | ⟨j, a, h, _⟩; exact h; simp at h
 | a :: r, k, v, hs, h => by
  simp only [pf]
  refine aZ3 p (fun j b x hb => hs (j + 1) b x (by simpa using hb)) ?_
  rcases h with h | ⟨j, b, h1, h2, h3⟩
  ·left
   cases hw : wr a with
   | none => exact h
   | some x =>
    simp only
    split
    ·exact hs 0 a x rfl hw
    ·exact h
  ·cases j with
   | zero =>
    left
    simp at h1; subst h1
    obtain ⟨x, hx⟩ := bV3.1 h2
    rw [hx]
    rw [Nat.add_zero] at h3
    simp only [h3, if_true]
    exact hs 0 _ x rfl hx
   | succ j =>
    right
    exact ⟨j, b, by simpa using h1, h2, by rw [show k + 1 + j = k + (j + 1) by omega]; exact h3⟩
theorem aX4 {ms : List Nat} {S : Nat → It} {az : List Ac} (h : a86 ms S az = true) {i : Nat} {a : Ac} (ha : az[i]? = some a) {j : Nat} (hj : j ∈ a.rk) {B : Nat → Bool} (hB : ∀ k, k < i → bef ms k i = true → B k = true) : knd (pf (wrS j) az 0 B (S j)) = bp5 S az j := by
 have hi := (bS0.1 ha).1
 have h1 := bS2.1 h i (bU9.2 hi)
 rw [ha] at h1
 have h2 := bS2.1 h1 j hj
 simp only [bR6, Bool.or_eq_true] at h2
 refine aZ3 (fun x => knd x = bp5 S az j) (fun q b x hb hx => ?_) ?_
 ·have := bS2.1 h2.1 b (bT0 hb)
  rw [hx] at this
  simpa [natEq] using this
 ·rcases h2.2 with h3 | h3
  ·left; simpa [natEq] using h3
  ·right
   obtain ⟨k, hk, h4⟩ := List.any_eq_true.1 h3
   rw [bU9] at hk
   simp only [bR6] at h4
   cases hb : az[k]? with
   | none => rw [hb] at h4; cases h4.2
   | some b =>
    rw [hb] at h4
    exact ⟨k, b, hb, h4.2, by rw [bV1]; exact hB k hk h4.1⟩
def be5 (ms : List Nat) (n0 : Nat) (az : List Ac) : Bool :=
 (bS8 az.length).all fun i =>
  match az[i]? with
  | some a => (a.t.res.ids ++ a.t.new.map (·.1) ++ a.t.new.flatMap (fun p => p.2.ids)).all fun id => decide (id < n0) || natEq ((id - n0) / 8) i || bef ms ((id - n0) / 8) i
  | none => false
section
variable {P : Program} {ι : Type} {φ ψ : Nat → Prop} {w0 w w' : World} {F : ι → Rs} {ρ : Nat → Value} {S : Nat → It} {N n : Nat}
theorem ad6 {α β : Type} {f g : α → Option β} : ∀ {l : List α}, (∀ x ∈ l, f x = g x) → l.filterMap f = l.filterMap g
 | [], _ => rfl
 | a :: r, h => by rw [List.filterMap_cons, List.filterMap_cons, h a bU5, ad6 fun x hx => h x (bU4 _ hx)]
theorem al1 {ops : List Oper} {H : M7} {tm tm' : Nat → Option AV} {i : Nat} {o : Oper} (h : ∀ t ∈ aE4 ops o, tm' t = tm t) : ap6 ops H tm' i o = ap6 ops H tm i o := by
 unfold ap6
 unfold aE4 at h
 cases hg : o.guard with
 | none => rfl
 | some q =>
  obtain ⟨j, want⟩ := q
  rw [hg] at h
  simp only at h ⊢
  cases hd : (ops[j]?).bind (·.dst) with
  | none => rfl
  | some t =>
   rw [hd] at h
   simp only at h ⊢
   rw [h t (by simp)]
theorem a40 {dk : TypeId → Nat} {H : M7} {ops : List Oper} {i : Nat} {o : Oper} {tm tm' : Nat → Option AV} {S S' : Nat → It} {ac : Ac} {ob : List Prop} (h : opA P dk N ops H i o tm S n = some (ac, ob)) (ht : ∀ t ∈ ac.rt, tm' t = tm t) (hs : ∀ j ∈ ac.ri, S' j = S j) (hk : ∀ j ∈ ac.rk, knd (S' j) = knd (S j)) : opA P dk N ops H i o tm' S' n = some (ac, ob) := by
 unfold opA at h ⊢
 split at h
 case isFalse => cases h
 rename_i hd
 rw [if_pos hd]
 cases hw : ap6 ops H tm i o with
 | none => rw [hw] at h; cases h
 | some q =>
  obtain ⟨b, lq, rq⟩ := q
  rw [hw] at h
  cases b
  ·simp only at h
   cases h
   rw [al1 (tm := tm) ht, hw]
  ·simp only at h
   cases hr : ar5 P dk H tm S n i o.op with
   | none => rw [hr] at h; cases h
   | some t =>
    rw [hr] at h
    simp only at h
    split at h
    case isFalse => cases h
    rename_i hf
    cases h
    simp only at ht hs hk
    rw [al1 (tm := tm) fun t ht' => ht t (List.mem_append_right _ ht'), hw]
    have e1 : rtm tm' (opT o.op) = rtm tm (opT o.op) := by
     funext t
     unfold rtm
     split
     ·rename_i hm; exact ht t (List.mem_append_left _ (o6.1 hm))
     ·rfl
    have e2 : tch tm' o.op = tch tm o.op := by
     have e9 : O8 tm' (opT o.op) = O8 tm (opT o.op) := by
      unfold O8
      congr 1
      exact ad6 fun t ht' => ht t (List.mem_append_left _ ht')
     cases ho' : o.op <;> simp only [tch] <;> rw [← ho'] <;> first | rw [e1, e9] | exact e9
    have e8 : wk tm' o.op = wk tm o.op := by
     have e9 : O8 tm' (opT o.op) = O8 tm (opT o.op) := by
      unfold O8
      congr 1
      exact ad6 fun t ht' => ht t (List.mem_append_left _ ht')
     cases ho' : o.op <;> simp only [wk] <;> rw [← ho', e1, e9]
    have e3 : ar5 P dk H tm' S' n i o.op = ar5 P dk H tm S n i o.op := by
     unfold ar5
     cases hc : H2 H.calls i with
     | none =>
      simp only
      rw [e1, e2, e8, a95 (fun j hj => hs j (List.mem_append_left _ hj)) hk]
     | some q =>
      obtain ⟨c, τ⟩ := q
      simp only
      rw [e1, e2]
      congr 1
      funext j
      unfold rS
      split
      ·rename_i hm
       refine hs j ?_
       unfold a17
       rw [hc]; exact o6.1 hm
      ·rfl
    have e4 : aR6 H tm' S' n i o.op = aR6 H tm S n i o.op := by
     unfold aR6
     cases hc : H2 H.calls i with
     | none => simp only; rw [e1]
     | some q =>
      obtain ⟨c, τ⟩ := q
      simp only
      rw [e1, e2]
      congr 1
      funext j
      unfold rS
      split
      ·rename_i hm
       refine hs j ?_
       unfold a17
       rw [hc]; exact o6.1 hm
      ·rfl
    rw [e3, hr, e4]
    simp only
    rw [e2, e8, if_pos hf]
theorem bo3 {dk : TypeId → Nat} {H : M7} (hH : ∀ i c τ, H2 H.calls i = some (c, τ) → c.ok P) (hF : K4 H.facts) {ops : List Oper} {i : Nat} {o : Oper} {tm : Nat → Option AV} {a : Act} (hv : ∀ t x, tm t = some x → a.tmps[t]? = some (x.val ρ)) (M : i6 φ ψ w0 w (l0 F ρ S)) {ac : Ac} {obs : List Prop} (h : opA P dk N ops H i o tm S n = some (ac, obs)) (ho : s6 obs) (he : ac.eqs.1 = ac.eqs.2) (hw' : ac.eqw.1 = ac.eqw.2)
  (hmk : ∀ j ∈ ac.t.made, S j = .none) (hi : Inv S ρ ac.t.made)
  {Q : Exit → Act → World → Prop} {rest : List Oper} (hk : ∀ ρ' w', y9 ac.t.made ρ ρ' → i6 φ ψ w0 w' (l0 F ρ' (l5 S ac.t.new)) → wpList P ops.toArray Q rest (a.put o.dst (ac.t.res.val ρ')) w') : wpList P ops.toArray Q (o :: rest) a w := by
 unfold opA at h
 split at h
 case isFalse => cases h
 rename_i hd
 split at h
 case h_1 => cases h
 ·rename_i l r hw
  cases h
  refine aY2 (af0 (ρ := ρ) hF hw hw' fun t y _ hy => hv t y hy) ?_
  exact hk ρ w (y9.refl _ _) (by simpa [by1, l5] using M)
 ·rename_i l r hw
  split at h
  case h_1 => cases h
  rename_i t ht
  split at h
  case isFalse => cases h
  rename_i hf
  cases h
  simp only [bR6] at hf
  refine G6.wp (af0 (ρ := ρ) hF hw hw' fun t y _ hy => hv t y hy) ?_
  refine (aK5 M hH hF (fun t y _ hy => hv t y hy) ht ho he hmk hi (fun j hj => ?_)).mono ?_
  ·obtain ⟨p, hp, rfl⟩ := List.mem_map.1 hj
   have := bS2.1 hf.2 p hp
   simp only [Bool.or_eq_true] at this
   exact this.imp o6.1 o6.1
  ·rintro v w' ⟨ρ', p1, p2, rfl⟩
   exact hk ρ' w' p1 p2
theorem aY9 {dk : TypeId → Nat} {H : M7} {ops : List Oper} : ∀ (l : List Oper) (i n : Nat) {tm : List (Nat × AV)} {S : Nat → It} {r : RS}, P3 P dk N ops H l i tm S n = some r → s6 r.obs →
  r.acts.length = l.length ∧ (∀ t, w6 r.tm t = pf (wrT t) r.acts i (fun _ => true) (w6 tm t)) ∧ (∀ j, r.S j = pf (wrS j) r.acts i (fun _ => true) (S j)) ∧
  ∀ k o, l[k]? = some o → ∃ ac ob, r.acts[k]? = some ac ∧ s6 ob ∧ opA P dk N ops H (i + k) o (fun t => pf (wrT t) r.acts i (fun j => decide (j < i + k)) (w6 tm t)) (fun j => pf (wrS j) r.acts i (fun q => decide (q < i + k)) (S j)) (n + 8 * k) = some (ac, ob)
 | [], i, n, tm, S, r, h, _ => by cases h; exact ⟨rfl, fun _ => rfl, fun _ => rfl, fun k o h => by simp at h⟩
 | o :: l, i, n, tm, S, r, h, ho => by
  simp only [P3] at h
  split at h
  case h_1 => cases h
  rename_i ac ob h1
  split at h
  case h_1 => cases h
  rename_i s h2
  cases h
  simp only [s6.append] at ho
  obtain ⟨k1, k2, k3, k4⟩ := aY9 l (i + 1) (n + 8) h2 ho.2
  have eT : ∀ t, w6 (aR1 ac.dst ac.t.res tm) t = match wrT t ac with | some x => x | none => w6 tm t := fun t => by
   rw [az1]
   simp only [aw1, wrT]
   split <;> rfl
  have eS : ∀ j, l5 S ac.t.new j = match wrS j ac with | some x => x | none => S j := fun j => ai2 S j _
  refine ⟨by simp [k1], fun t => ?_, fun j => ?_, fun k o' hk => ?_⟩
  ·rw [k2 t, eT]; simp only [pf]; cases wrT t ac <;> rfl
  ·rw [k3 j, eS]; simp only [pf]; cases wrS j ac <;> rfl
  ·cases k with
   | zero =>
    simp at hk; subst hk
    refine ⟨ac, ob, rfl, ho.1, ?_⟩
    have e1 : (fun t => pf (wrT t) (ac :: s.acts) i (fun j => decide (j < i + 0)) (w6 tm t)) = w6 tm := by
     funext t; exact S5 fun j a _ _ => by simp
    have e2 : (fun j => pf (wrS j) (ac :: s.acts) i (fun q => decide (q < i + 0)) (S j)) = S := by
     funext j; exact S5 fun j a _ _ => by simp
    rw [e1, e2]; exact h1
   | succ k =>
    obtain ⟨ac', ob', m1, m2, m3⟩ := k4 k o' (by simpa using hk)
    refine ⟨ac', ob', by simpa using m1, m2, ?_⟩
    have hi : decide (i < i + (k + 1)) = true := by simp
    have e1 : (fun t => pf (wrT t) (ac :: s.acts) i (fun j => decide (j < i + (k + 1))) (w6 tm t)) = fun t => pf (wrT t) s.acts (i + 1) (fun j => decide (j < i + 1 + k)) (w6 (aR1 ac.dst ac.t.res tm) t) := by
     funext t
     rw [eT]
     simp only [pf, hi, if_true]
     rw [show i + (k + 1) = i + 1 + k by omega]
     cases wrT t ac <;> rfl
    have e2 : (fun j => pf (wrS j) (ac :: s.acts) i (fun q => decide (q < i + (k + 1))) (S j)) = fun j => pf (wrS j) s.acts (i + 1) (fun q => decide (q < i + 1 + k)) (l5 S ac.t.new j) := by
     funext j
     rw [eS]
     simp only [pf, hi, if_true]
     rw [show i + (k + 1) = i + 1 + k by omega]
     cases wrS j ac <;> rfl
    rw [e1, e2, show i + (k + 1) = i + 1 + k by omega, show n + 8 * (k + 1) = n + 8 + 8 * k by omega]
    exact m3
def bk0 (l : List Oper) (B : Nat → Bool) : Prop := ∀ j o, l[j]? = some o → B j = true → ∀ e ∈ o.after, Region.binds .any e = true → B e.on = true
theorem as0 {ms : List Nat} {o : Oper} {j : Nat} (h : (aS3 ms o).testBit j = true) : ∃ e ∈ o.after, Region.binds .any e = true ∧ (e.on = j ∨ bef ms j e.on = true) := by
 unfold aS3 at h
 rw [← Array.foldl_toList] at h
 have key : ∀ (es : List Edge) (s : Nat), (es.foldl (fun s e => if Region.binds .any e then s ||| (2 ^ e.on ||| nth ms e.on) else s) s).testBit j = true → s.testBit j = true ∨ ∃ e ∈ es, Region.binds .any e = true ∧ (e.on = j ∨ bef ms j e.on = true) := by
  intro es
  induction es with
  | nil => intro s h; exact .inl h
  | cons e r ih =>
   intro s h
   simp only [List.foldl_cons] at h
   rcases ih _ h with h1 | ⟨e', he', h2⟩
   ·split at h1
    ·rename_i hb
     simp only [Nat.testBit_or, Bool.or_eq_true, Nat.testBit_two_pow, decide_eq_true_eq] at h1
     rcases h1 with h1 | h1 | h1
     ·exact .inl h1
     ·exact .inr ⟨e, bU5, hb, .inl h1⟩
     ·exact .inr ⟨e, bU5, hb, .inr h1⟩
    ·exact .inl h1
   ·exact .inr ⟨e', bU4 _ he', h2⟩
 rcases key _ _ h with h1 | ⟨e, he, h2⟩
 ·simp at h1
 ·exact ⟨e, by simpa using he, h2⟩
theorem av3 {ms : List Nat} {l : List Oper} (hm : aD5 ms l = true) (hb : Z9 l.toArray = true) {B : Nat → Bool} (hc : bk0 l B) : ∀ i, i < l.length → B i = true → ∀ j, bef ms j i = true → B j = true := by
 intro i
 induction i using Nat.strongRecOn with
 | _ i ih =>
  intro hi hB j hj
  have h1 := bS2.1 hm i (bU9.2 hi)
  rw [bo2 hi] at h1
  simp only [natEq, beq_iff_eq] at h1
  unfold bef at hj
  rw [h1] at hj
  obtain ⟨e, he, h2, h3⟩ := as0 hj
  have h4 := hc i _ (bo2 hi) hB e he h2
  have h5 := av4 hb (show i < l.toArray.size by simpa using hi) (show l.toArray[i]? = some l[i] by simp [hi]) he h2
  rcases h3 with rfl | h3
  ·exact h4
  ·exact ih e.on h5 (by omega) h4 j h3
theorem a72 {ms : List Nat} {l : List Oper} (hm : aD5 ms l = true) (hb : Z9 l.toArray = true) {B : Nat → Bool} (hc : bk0 l B) {i : Nat} {o : Oper} (ho : l[i]? = some o) (hr : ∀ e ∈ o.after, Region.binds .any e = true → B e.on = true) {j : Nat} (hj : bef ms j i = true) : B j = true := by
 have hi := (bS0.1 ho).1
 have h1 := bS2.1 hm i (bU9.2 hi)
 rw [ho] at h1
 simp only [natEq, beq_iff_eq] at h1
 unfold bef at hj
 rw [h1] at hj
 obtain ⟨e, he, h2, h3⟩ := as0 hj
 have h5 := av4 hb (show i < l.toArray.size by simpa using hi) (show l.toArray[i]? = some o by simpa using ho) he h2
 rcases h3 with rfl | h3
 ·exact hr e he h2
 ·exact av3 hm hb hc e.on (by omega) (hr e he h2) j h3
end
section
variable {P : Program} {ι : Type} {φ ψ : Nat → Prop} {w0 w w' : World} {F : ι → Rs} {ρ : Nat → Value} {S : Nat → It} {N m n : Nat} {ρ0 : Nat → Value}
theorem aP0 {l : List Oper} {Q : Exit → Act → World → Prop} (I : Array Bool → Act → World → Prop) (hb : Z9 l.toArray = true)
  (step : ∀ listed a w, I listed a w → ∀ i o, l[i]? = some o → listed.getD i true = false → (∀ e ∈ o.after, Region.binds .any e = true → listed.getD e.on false = true) →
   ∀ Q' : Exit → Act → World → Prop, (∀ a w, I (listed.setIfInBounds i true) a w → Q' .normal a w) → wpList P l.toArray Q' [o] a w)
  (done : ∀ listed a w, I listed a w → (∀ j, j < l.length → listed.getD j true = true) → Q .normal a w) :
  ∀ (fuel : Nat) (listed : Array Bool) (a : Act) (w : World), listed.size = l.toArray.size → listed.toList.count false = fuel → I listed a w → wpAny P .any l.toArray Q fuel listed a w := by
 have hfin : ∀ (listed : Array Bool) (a : Act) (w : World), listed.size = l.toArray.size → Region.ready .any l.toArray listed = [] → I listed a w → Q .normal a w := by
  intro listed a w hsz hr hI
  refine done listed a w hI fun j hj => ?_
  cases hl : listed.getD j true
  ·exact absurd hr (aI7 hb hsz j (by simpa using hj) hl)
  ·rfl
 intro fuel
 induction fuel with
 | zero =>
  intro listed a w hsz hc hI
  have hr : Region.ready .any l.toArray listed = [] := by
   rw [List.eq_nil_iff_forall_not_mem]
   intro j hj
   have := ah1 (mem_ready.1 hj).1
   omega
  exact ⟨hr, hfin listed a w hsz hr hI⟩
 | succ f ih =>
  intro listed a w hsz hc hI
  refine ⟨fun hr => hfin listed a w hsz hr hI, fun i hi => ?_⟩
  obtain ⟨h1, o, ho, h2⟩ := mem_ready.1 hi
  have ho' : l[i]? = some o := by simpa using ho
  have hcl := ah1 h1
  have hs := step listed a w hI i o ho' h1 h2 (fun e a w => e = .normal ∧ I (listed.setIfInBounds i true) a w) fun a w h => ⟨rfl, h⟩
  unfold wpOp
  rw [ho]
  simp only
  unfold wpList at hs
  split
  ·rename_i hw
   rw [if_pos hw] at hs
   rcases hs with hs | ⟨_, a, w, he, _⟩
   ·exact .inl (a23 (fun _ _ _ h => h.1) (Oper.wp_mono (fun a' w' h => ih _ a' w' (by simpa using hsz) (by omega) h.2) hs))
   ·cases he
  ·rename_i hw
   rw [if_neg hw] at hs
   exact ih _ _ _ (by simpa using hsz) (by omega) hs.2
theorem ap5 {id : Nat} {l : List Oper} {Q : Exit → Act → World → Prop} {a : Act} {w : World} (I : Array Bool → Act → World → Prop) (hm : P.follows .mixedOrders = true) (hb : Z9 l.toArray = true)
  (h0 : I (bV7 l.length false) a w.drew)
  (step : ∀ listed a w, I listed a w → ∀ i o, l[i]? = some o → listed.getD i true = false → (∀ e ∈ o.after, Region.binds .any e = true → listed.getD e.on false = true) →
   ∀ Q' : Exit → Act → World → Prop, (∀ a w, I (listed.setIfInBounds i true) a w → Q' .normal a w) → wpList P l.toArray Q' [o] a w)
  (done : ∀ listed a w, I listed a w → (∀ j, j < l.length → listed.getD j true = true) → Q .normal a w) : (Code.region id l.toArray true).wp P Q a w :=
 wp_region_any hm (aP0 I hb step done _ _ _ _ (by simp) (by simp) (by simpa using h0))
def RI (φ ψ : Nat → Prop) (w0 : World) (F : ι → Rs) (N m : Nat) (ρ0 : Nat → Value) (l : List Oper) (az : List Ac) (tm : Nat → Option AV) (S : Nat → It) (listed : Array Bool) (a : Act) (w : World) : Prop :=
 listed.size = l.length ∧ bk0 l (fun j => listed.getD j false) ∧ ∃ ρ, (∀ i, i < m → ρ i = ρ0 i) ∧ a.tmps.size = N ∧ a.defers = [] ∧ (∀ t x, tmD az (fun j => listed.getD j false) tm t = some x → a.tmps[t]? = some (x.val ρ)) ∧ i6 φ ψ w0 w (l0 F ρ (sD az (fun j => listed.getD j false) S))
theorem aR5 {ms : List Nat} {az : List Ac} (h : bx4 ms az = true) {i j : Nat} {a b : Ac} (ha : az[i]? = some a) (hb : az[j]? = some b) (hij : i ≠ j) (hm : X2 a b = true) : (j < i → bef ms j i = true) ∧ (i < j → bef ms i j = true) := by
 have hi := (bS0.1 ha).1
 have hj := (bS0.1 hb).1
 have h1 := bS2.1 (bS2.1 h i (bU9.2 hi)) j (bU9.2 hj)
 rw [ha, hb] at h1
 have hne : natEq i j = false := by simp [natEq, hij]
 simp only [hne, hm, Bool.not_true, Bool.false_or] at h1
 constructor
 ·intro hlt; rw [if_pos (by simpa using hlt)] at h1; exact h1
 ·intro hlt; rw [if_neg (by simp; omega)] at h1; exact h1
theorem a00 {ms : List Nat} {n0 : Nat} {az : List Ac} (h : be5 ms n0 az = true) {i : Nat} {a : Ac} (ha : az[i]? = some a) : ∀ id, (id ∈ a.t.res.ids ∨ id ∈ a.t.new.map (·.1) ∨ ∃ p ∈ a.t.new, id ∈ p.2.ids) → id < n0 ∨ (id - n0) / 8 = i ∨ bef ms ((id - n0) / 8) i = true := by
 intro id hid
 have hi := (bS0.1 ha).1
 have h1 := bS2.1 h i (bU9.2 hi)
 rw [ha] at h1
 have h2 := bS2.1 h1 id (by
  rcases hid with h | h | ⟨p, hp, h⟩
  ·exact List.mem_append_left _ (List.mem_append_left _ h)
  ·exact List.mem_append_left _ (List.mem_append_right _ h)
  ·exact List.mem_append_right _ (List.mem_flatMap.2 ⟨p, hp, h⟩))
 simp only [Bool.or_eq_true, decide_eq_true_eq, natEq, beq_iff_eq] at h2
 rcases h2 with (h2 | h2) | h2
 ·exact .inl h2
 ·exact .inr (.inl h2)
 ·exact .inr (.inr h2)
theorem aB4 {dk : TypeId → Nat} {H : M7} (hH : ∀ i c τ, H2 H.calls i = some (c, τ) → c.ok P) (hF : K4 H.facts) {l : List Oper} {id : Nat} {Q : Exit → Act → World → Prop} {tm : List (Nat × AV)} {a : Act} {wr : World} (I0 : Inn φ ψ w0 F N m ρ0 n ρ (w6 tm) S a wr) {r : RS} (hrun : P3 P dk N l H l 0 tm S n = some r) (ho : s6 r.obs) (heq : r.acts.map (·.eqs.1) = r.acts.map (·.eqs.2)) (hew : r.acts.map (·.eqw.1) = r.acts.map (·.eqw.2))
  (ms : List Nat) (hm : P.follows .mixedOrders = true) (hb : Z9 l.toArray = true) (hms : aD5 ms l = true) (hord : bx4 ms r.acts = true) (hment : be5 ms n r.acts = true) (hweak : a86 ms S r.acts = true)
  (done : ∀ ρ' a' w' n', Inn φ ψ w0 F N m ρ0 n' ρ' (w6 r.tm) r.S a' w' → Q .normal a' w') : (Code.region id l.toArray true).wp P Q a wr := by
 obtain ⟨hlen, hfT, hfS, hat⟩ := aY9 l 0 n hrun ho
 have hmt : ∀ (i : Nat) ac, r.acts[i]? = some ac → ∀ t b, b.dst = some t → t ∈ ac.rt → X2 ac b = true := fun i ac _ t b hb ht => by
  simp [X2, hb, o6.2 ht]
 have hmd : ∀ ac b t, ac.dst = some t → b.dst = some t → X2 ac b = true := fun ac b t h1 h2 => by
  simp [X2, h1, h2, natEq]
 have hms' : ∀ (ac b : Ac) (j : Nat), j ∈ ac.ri → j ∈ b.t.new.map (·.1) → X2 ac b = true := fun ac b j h1 h2 => by
  obtain ⟨p, hp, rfl⟩ := List.mem_map.1 h2
  unfold X2
  have : b.t.new.any (fun p => memN p.1 ac.ri || ac.t.new.any fun q => natEq q.1 p.1) = true := List.any_eq_true.2 ⟨p, hp, by simp [o6.2 h1]⟩
  rw [this]; simp
 have hmn : ∀ (ac b : Ac) (j : Nat), j ∈ ac.t.new.map (·.1) → j ∈ b.t.new.map (·.1) → X2 ac b = true := fun ac b j h1 h2 => by
  obtain ⟨p, hp, rfl⟩ := List.mem_map.1 h2
  obtain ⟨q, hq, e⟩ := List.mem_map.1 h1
  unfold X2
  have : b.t.new.any (fun p => memN p.1 ac.ri || ac.t.new.any fun q => natEq q.1 p.1) = true := List.any_eq_true.2 ⟨p, hp, by
   have : ac.t.new.any (fun q => natEq q.1 p.1) = true := List.any_eq_true.2 ⟨q, hq, by simp [natEq, e]⟩
   rw [this]; simp⟩
  rw [this]; simp
 refine ap5 (RI φ ψ w0 F N m ρ0 l r.acts (w6 tm) S) hm hb ?_ ?_ ?_
 ·refine ⟨by simp, fun j o _ hj => ?_, ρ, I0.old, I0.size, I0.defs, fun t x hx => ?_, ?_⟩
  ·have hj' : (bV7 l.length false).getD j false = true := hj
   rw [getD_replicate_false] at hj'; cases hj'
  ·refine I0.tmv t x ?_
   rw [← hx]
   exact (S5 fun j b _ _ => getD_replicate_false _ _).symm
  ·have e : sD r.acts (fun j => (bV7 l.length false).getD j false) S = S := by
    funext j; exact S5 fun j b _ _ => getD_replicate_false _ _
   rw [e]; exact I0.mem.drew
 ·rintro listed a w ⟨hsz, hdn, ρ, hold, hN, hdf, hv, M⟩ i o hoi hun hdep Q' hQ
  generalize hB : (fun j => listed.getD j false) = B at *
  have hBj : ∀ j, B j = listed.getD j false := fun j => by rw [← hB]
  have hil := (bS0.1 hoi).1
  have hBi : B i = false := by
   rw [hBj, ← a09 (by omega)]; exact hun
  obtain ⟨ac, ob, hac, hob, hop⟩ := hat i o hoi
  simp only [bV1] at hop
  have heqi : ac.eqs.1 = ac.eqs.2 := by
   have := congrArg (·[i]?) heq
   simpa [hac] using this
  have hewi : ac.eqw.1 = ac.eqw.2 := by
   have := congrArg (·[i]?) hew
   simpa [hac] using this
  obtain ⟨hdst, hdN, hfine⟩ := aD2 hop
  obtain ⟨hf1, hf2, hf3⟩ := V4 hfine
  have hdep' : ∀ e ∈ o.after, Region.binds .any e = true → B e.on = true := fun e he hbi => by rw [hBj]; exact hdep e he hbi
  have ahead : ∀ j, bef ms j i = true → B j = true := fun j hj => a72 hms hb hdn hoi hdep' hj
  have behind : ∀ j, j < l.length → bef ms i j = true → B j = false := fun j hjl hj => by
   cases h : B j
   ·rfl
   ·have := av3 hms hb hdn j hjl h i hj
    rw [hBi] at this; cases this
  have hagree : ∀ (j : Nat) b, r.acts[j]? = some b → X2 ac b = true → B j = decide (j < i) := fun j b hj hmm => by
   have hjl : j < l.length := by have := (bS0.1 hj).1; omega
   rcases Nat.lt_trichotomy j i with h | h | h
   ·rw [ahead j ((aR5 hord hac hj (by omega) hmm).1 h)]; simp [h]
   ·subst h; rw [hBi]; simp
   ·rw [behind j hjl ((aR5 hord hac hj (by omega) hmm).2 h)]
    have : ¬ j < i := by omega
    simp [this]
  have hop2 := a40 hop (tm' := tmD r.acts B (w6 tm)) (S' := sD r.acts B S) (fun t ht => N7 fun j b hj hw => by
    rw [bV1]
    refine hagree j b hj (hmt i ac hac t b ?_ ht)
    unfold wrT at hw
    split at hw
    ·assumption
    ·cases hw)
   (fun q hq => N7 fun j b hj hw => by
    rw [bV1]
    obtain ⟨x, hx⟩ := bV3.1 hw
    exact hagree j b hj (hms' ac b q hq (List.mem_map.2 ⟨_, M6 hx, rfl⟩)))
   (fun q hq => by
    show knd (pf (wrS q) r.acts 0 B (S q)) = _
    rw [aX4 hweak hac hq fun k _ hk => ahead k hk, aX4 hweak hac hq fun k hk _ => by simpa using hk])
  have hrange : ∀ id, n + 8 * i ≤ id → id < n + 8 * i + 8 → (id - n) / 8 = i := fun id h1 h2 => by omega
  have hmk : ∀ j ∈ ac.t.made, sD r.acts B S j = .none := fun j hj => by
   obtain ⟨g1, g2⟩ := hf2 j hj
   have e : sD r.acts B S j = S j := S5 fun k b hk hw => by
    rw [bV1]
    obtain ⟨x, hx⟩ := bV3.1 hw
    have hkl : k < l.length := by have := (bS0.1 hk).1; omega
    rcases a00 hment hk j (.inr (.inl (List.mem_map.2 ⟨_, M6 hx, rfl⟩))) with h | h | h
    ·omega
    ·rw [hrange j g1 g2] at h; subst h; exact hBi
    ·rw [hrange j g1 g2] at h; exact behind k hkl h
   rw [e]; exact (I0.bd j).2 (by omega)
  have hnot : ∀ (k : Nat) b, r.acts[k]? = some b → B k = true → ∀ id, (id ∈ b.t.res.ids ∨ id ∈ b.t.new.map (·.1) ∨ ∃ p ∈ b.t.new, id ∈ p.2.ids) → id ∉ ac.t.made := fun k b hk hBk id hid hm => by
   obtain ⟨g1, g2⟩ := hf2 id hm
   have hkl : k < l.length := by have := (bS0.1 hk).1; omega
   rcases a00 hment hk id hid with h | h | h
   ·omega
   ·rw [hrange id g1 g2] at h; subst h; rw [hBi] at hBk; cases hBk
   ·rw [hrange id g1 g2] at h; rw [behind k hkl h] at hBk; cases hBk
  have hitem : ∀ j, ∀ id ∈ (sD r.acts B S j).ids, id ∉ ac.t.made := fun j => by
   refine ag2 (fun x : It => ∀ id ∈ x.ids, id ∉ ac.t.made) (fun id hid hm => ?_) fun k b x hk hBk hw id hid => ?_
   ·have := (I0.bd j).1 id hid; have := (hf2 id hm).1; omega
   ·rw [bV1] at hBk
    exact hnot k b hk hBk id (.inr (.inr ⟨_, M6 hw, hid⟩))
  have htm : ∀ t x, tmD r.acts B (w6 tm) t = some x → ∀ id ∈ x.ids, id ∉ ac.t.made := fun t => by
   refine ag2 (fun y : Option AV => ∀ x, y = some x → ∀ id ∈ x.ids, id ∉ ac.t.made) (fun x hx id hid hm => ?_) fun k b y hk hBk hw x hx id hid => ?_
   ·have := I0.tmi t x hx id hid; have := (hf2 id hm).1; omega
   ·rw [bV1] at hBk
    unfold wrT at hw
    split at hw
    ·cases hw; cases hx
     exact hnot k b hk hBk id (.inl hid)
    ·cases hw
  have hinv : Inv (sD r.acts B S) ρ ac.t.made := fun ρ' ha j => by
   refine It.res_congr _ (fun id hid => ha id (hitem j id hid)) ?_
   by_cases hj : j ∈ ac.t.made
   ·exact .inl (hmk j hj)
   ·exact .inr (.inr (ha j hj))
  refine bo3 hH hF hv M hop2 hob heqi hewi hmk hinv fun ρ' w' ha M' => ?_
  refine hQ _ _ ?_
  have hB' : ∀ j, (listed.setIfInBounds i true).getD j false = if j = i then true else B j := fun j => by
   by_cases e : j = i
   ·subst e
    have : j < listed.size := by omega
    simp [this]
   ·rw [if_neg e, getD_set_ne false (fun h => e h.symm), hBj]
  have hBe : (fun j => (listed.setIfInBounds i true).getD j false) = fun j => if j = i then true else B j := funext hB'
  have later : ∀ (j : Nat) b, i < j → r.acts[j]? = some b → X2 ac b = true → (if j = i then true else B j) = false := fun j b hij hj hmm => by
   have hjl : j < l.length := by have := (bS0.1 hj).1; omega
   rw [if_neg (by omega)]
   exact behind j hjl ((aR5 hord hac hj (by omega) hmm).2 hij)
  have eT : tmD r.acts (fun j => if j = i then true else B j) (w6 tm) = aw1 ac.dst ac.t.res (tmD r.acts B (w6 tm)) := by
   funext t
   simp only [aw1]
   by_cases e : ac.dst = some t
   ·rw [if_pos e]
    refine aD1 (i := i) hac (by simp [wrT, e]) (by simp) fun j b hij hj hw => ?_
    rw [bV1]
    refine later j b hij hj (hmd ac b t e ?_)
    unfold wrT at hw
    split at hw
    ·assumption
    ·cases hw
   ·rw [if_neg e]
    refine N7 fun j b hj hw => ?_
    have : j ≠ i := fun h => by
     subst h
     rw [hac] at hj; cases hj
     simp [wrT, e] at hw
    simp [this]
  have eS : sD r.acts (fun j => if j = i then true else B j) S = l5 (sD r.acts B S) ac.t.new := by
   funext q
   rw [ai2]
   cases hx : at5 ac.t.new q with
   | some x =>
    refine aD1 (i := i) hac hx (by simp) fun j b hij hj hw => ?_
    rw [bV1]
    obtain ⟨y, hy⟩ := bV3.1 hw
    exact later j b hij hj (hmn ac b q (List.mem_map.2 ⟨_, M6 hx, rfl⟩) (List.mem_map.2 ⟨_, M6 hy, rfl⟩))
   | none =>
    refine N7 fun j b hj hw => ?_
    have : j ≠ i := fun h => by
     subst h
     rw [hac] at hj; cases hj
     unfold wrS at hw
     rw [hx] at hw; cases hw
    simp [this]
  refine ⟨by simpa using hsz, ?_, ρ', fun j hj => (ha j fun hm => by have := (hf2 j hm).1; have := I0.le; omega).trans (hold j hj), (aJ8 _ _ _).trans hN, (aJ9 _ _ _).trans hdf, ?_, ?_⟩
  ·rw [hBe]
   intro j oj hj hBj' e he hbi
   show (if e.on = i then true else B e.on) = true
   by_cases e1 : e.on = i
   ·simp [e1]
   ·rw [if_neg e1]
    by_cases e2 : j = i
    ·subst e2
     rw [hoi] at hj; cases hj
     exact hdep' e he hbi
    ·simp only [if_neg e2] at hBj'
     exact hdn j oj hj hBj' e he hbi
  ·rw [hBe, eT, hdst]
   intro t x hx
   rw [bc7 (by rw [hN]; exact hdN)]
   simp only [aw1] at hx
   split
   ·rename_i e; rw [if_pos e] at hx; cases hx; rfl
   ·rename_i e
    rw [if_neg e] at hx
    rw [hv t x hx, AV.val_congr x fun id hid => ha id (htm t x hx id hid)]
  ·rw [hBe, eS]; exact M'
 ·rintro listed a w ⟨hsz, hdn, ρ, hold, hN, hdf, hv, M⟩ hall
  have hall' : ∀ j, j < l.length → listed.getD j false = true := fun j hj => by rw [← a09 (by omega)]; exact hall j hj
  have eT : tmD r.acts (fun j => listed.getD j false) (w6 tm) = w6 r.tm := by
   funext t
   rw [hfT t]
   refine N7 fun j b hj _ => ?_
   rw [bV1]
   exact hall' j (by have := (bS0.1 hj).1; omega)
  have eS : sD r.acts (fun j => listed.getD j false) S = r.S := by
   funext q
   rw [hfS q]
   refine N7 fun j b hj _ => ?_
   rw [bV1]
   exact hall' j (by have := (bS0.1 hj).1; omega)
  have hids : ∀ (k : Nat) b, r.acts[k]? = some b → ∀ id, (id ∈ b.t.res.ids ∨ id ∈ b.t.new.map (·.1) ∨ ∃ p ∈ b.t.new, id ∈ p.2.ids) → id < n + 8 * l.length := fun k b hk id hid => by
   have hkl : k < l.length := by have := (bS0.1 hk).1; omega
   obtain ⟨o, ho'⟩ : ∃ o, l[k]? = some o := ⟨_, bo2 hkl⟩
   obtain ⟨ac, ob, hac, _, hop⟩ := hat k o ho'
   rw [hk] at hac; cases hac
   obtain ⟨_, _, hfine⟩ := aD2 hop
   obtain ⟨hf1, hf2, hf3⟩ := V4 hfine
   rcases hid with h | h | ⟨p, hp, h⟩
   ·have := hf3 id h; omega
   ·obtain ⟨p, hp, rfl⟩ := List.mem_map.1 h
    have := (hf1 p hp).1; omega
   ·have := (hf1 p hp).2 id h; omega
  refine done ρ a w (n + 8 * l.length) ⟨hN, hdf, by rw [← eT]; exact hv, fun t x hx => ?_, fun j => ?_, by rw [← eS]; exact M, by have := I0.le; omega, hold⟩
  ·rw [hfT t] at hx
   revert x
   refine ag2 (fun y : Option AV => ∀ x, y = some x → ∀ id ∈ x.ids, id < n + 8 * l.length) (fun x hx id hid => ?_) fun k b y hk _ hw x hx id hid => ?_
   ·have := I0.tmi t x hx id hid; omega
   ·unfold wrT at hw
    split at hw
    ·cases hw; cases hx
     exact hids k b hk id (.inl hid)
    ·cases hw
  ·refine ⟨?_, fun hj => ?_⟩
   ·rw [hfS j]
    refine ag2 (fun x : It => ∀ id ∈ x.ids, id < n + 8 * l.length) (fun id hid => ?_) fun k b x hk _ hw id hid => ?_
    ·have := (I0.bd j).1 id hid; omega
    ·exact hids k b hk id (.inr (.inr ⟨_, M6 hw, hid⟩))
   ·rw [hfS j, S5 fun k b hk hw => ?_]
    ·exact (I0.bd j).2 (by omega)
    ·obtain ⟨x, hx⟩ := bV3.1 hw
     have := hids k b hk j (.inr (.inl (List.mem_map.2 ⟨_, M6 hx, rfl⟩)))
     omega
end
def s5 {ι : Type} (φ ψ : Nat → Prop) (w0 : World) (F : ι → Rs) (N m : Nat) (ρ0 ρ : Nat → Value) (S : List It) (tm : List (Nat × AV)) (a : Act) (w : World) : Prop := Inn φ ψ w0 F N m ρ0 S.length ρ (w6 tm) (l8 S) a w
def wfB (S : List It) (tm : List (Nat × AV)) : Bool := S.all (fun x => Q6 S.length x.ids) && tm.all (fun p => Q6 S.length p.2.ids)
def bt7 (m : Nat) (js : List Nat) : Bool := (bS8 m).all fun i => natEq (nth js i) i && decide (i < js.length)
def Y5 (m : Nat) (js : List Nat) (S : List It) (tm : List (Nat × AV)) : Bool := nodupB js && natEq js.length S.length && wfB S tm && bt7 m js
section
variable {P : Program} {ι : Type} {φ ψ : Nat → Prop} {w0 w w' : World} {F : ι → Rs} {ρ ρ0 : Nat → Value} {N m n : Nat} {S : List It} {tm : List (Nat × AV)} {a : Act} {Q : Exit → Act → World → Prop}
theorem as4 : ∀ {tm : List (Nat × AV)} {t : Nat} {x : AV}, w6 tm t = some x → (t, x) ∈ tm
 | [], _, _, h => by cases h
 | (k, y) :: r, t, x, h => by
  simp only [w6, natEq, beq_iff_eq] at h
  split at h
  ·rename_i e; subst e; cases h; exact bU5
  ·exact bU4 _ (as4 h)
theorem ad4 {l : List It} {i : Nat} (h : i < l.length) : l8 l i = l[i] := by simp [l8, bR7, h]
theorem s4 {l : List It} {i : Nat} (h : l.length ≤ i) : l8 l i = .none := by simp [l8, bR7, h]
theorem bs1 {S : List It} {tm : List (Nat × AV)} (h : wfB S tm = true) : (∀ j, (∀ id ∈ (l8 S j).ids, id < S.length) ∧ (S.length ≤ j → l8 S j = .none)) ∧ ∀ t x, w6 tm t = some x → ∀ id ∈ x.ids, id < S.length := by
 simp only [wfB, bR6] at h
 refine ⟨fun j => ⟨fun id hid => ?_, fun hj => s4 hj⟩, fun t x hx id hid => ?_⟩
 ·rcases bT8 j S.length with hj | hj
  ·rw [ad4 hj] at hid
   exact B8 (bS2.1 h.1 _ (bS9 hj)) id hid
  ·rw [s4 hj] at hid; cases hid
 ·exact B8 (bS2.1 h.2 _ (as4 hx)) id hid
theorem Inn.sel {tf : Nat → Option AV} {Sf : Nat → It} (I : Inn φ ψ w0 F N m ρ0 n ρ tf Sf a w) (js : List Nat) (S1 : List It) (tm1 : List (Nat × AV)) (hb : Y5 m js S1 tm1 = true) (hS : js.map Sf = S1.map (It.ren (nth js))) (ht : (tm1.map (·.1)).map tf = tm1.map fun p => some (p.2.ren (nth js))) :
  s5 φ ψ w0 F N m ρ0 (fun i => ρ (nth js i)) S1 tm1 a w := by
 simp only [Y5, bR6, natEq, beq_iff_eq] at hb
 obtain ⟨⟨⟨hnd, hl⟩, hwf⟩, hkeep⟩ := hb
 have hn := ad2 hnd
 obtain ⟨b1, b2⟩ := bs1 hwf
 have hk : ∀ i, i < m → nth js i = i ∧ i < js.length := fun i hi => by
  have := bS2.1 hkeep i (bU9.2 hi)
  simpa [natEq] using this
 refine ⟨I.size, I.defs, fun t x hx => ?_, b2, b1, ?_, ?_, fun i hi => ?_⟩
 ·obtain ⟨i, hi⟩ := List.mem_iff_getElem?.1 (as4 hx)
  have h1 := congrArg (·[i]?) ht
  simp only [List.getElem?_map, hi, Option.map_some] at h1
  rw [I.tmv t _ (Option.some.inj h1), AV.val_ren]
 ·refine I.mem.map (fun k : ι ⊕ Nat => (match k with | .inl i => some (.inl i) | .inr i => if i < js.length then some (.inr (nth js i)) else none : Option (ι ⊕ Nat))) ?_ ?_
  ·intro k k' x h1 h2
   match k, k' with
   | .inl i, .inl i' => simp at h1 h2; rw [← h1] at h2; simpa using h2.symm
   | .inl i, .inr j => simp only at h1 h2; cases h1; split at h2 <;> simp at h2
   | .inr j, .inl i => simp only at h1 h2; cases h2; split at h1 <;> simp at h1
   | .inr j, .inr j' =>
    simp at h1 h2
    obtain ⟨f1, f2⟩ := h1
    obtain ⟨g1, g2⟩ := h2
    rw [← f2] at g2
    have hj := Sum.inr.inj g2
    have e1 := bo2 f1
    have e2 := bo2 g1
    rw [E5 e2, E5 e1] at hj
    have := (List.getElem?_inj f1 hn).1 (e1.trans (by rw [← hj]; exact e2.symm))
    rw [this]
  ·intro k
   match k with
   | .inl i => exact .inl ⟨_, rfl, rfl⟩
   | .inr i =>
    by_cases hlt : i < js.length
    ·refine .inl ⟨.inr (nth js i), by simp [hlt], ?_⟩
     have h1 := congrArg (·[i]?) hS
     have hlt' : i < S1.length := by omega
     simp only [List.getElem?_map, bo2 hlt, bo2 hlt', Option.map_some, Option.some.injEq] at h1
     simp only [l0]
     rw [ad4 hlt', E5 (bo2 hlt), h1, ← It.res_ren, E5 (bo2 hlt)]
    ·refine .inr ?_
     simp only [l0]
     rw [s4 (by omega)]
     rfl
 ·rcases bT8 S1.length m with h | h
  ·have := (hk S1.length h).2; omega
  ·exact h
 ·rw [(hk i hi).1]; exact I.old i hi
def aK3 (o : Option RS) (js ts : List Nat) : Option (List Prop × List It × List (Option AV) × List (List (List AV × List It)) × List (List AV)) := o.map fun r => (r.obs, js.map r.S, ts.map (w6 r.tm), r.acts.map (·.eqs.1), r.acts.map (·.eqw.1))
def aR4 (o : Option RS) (obs : List Prop) (js : List Nat) (S : List It) (tm : List (Nat × AV)) : Option (List Prop × List It × List (Option AV) × List (List (List AV × List It)) × List (List AV)) := o.map fun r => (obs, S.map (It.ren (nth js)), tm.map (fun p => some (p.2.ren (nth js))), r.acts.map (·.eqs.2), r.acts.map (·.eqw.2))
def a14 (l : List Oper) (ms : List Nat) (n : Nat) (S : Nat → It) (o : Option RS) : Bool := aD5 ms l && Z9 l.toArray && match o with
 | some r => bx4 ms r.acts && be5 ms n r.acts && a86 ms S r.acts
 | none => false
theorem bw4 {dk : TypeId → Nat} {l : List Oper} {id : Nat} (G : s5 φ ψ w0 F N m ρ0 ρ S tm a w) (H : M7) (hH : ∀ i c τ, H2 H.calls i = some (c, τ) → c.ok P) (hF : K4 H.facts) (js : List Nat) (S1 : List It) (tm1 : List (Nat × AV)) (obs : List Prop)
  (hs : ((P3 P dk N l H l 0 tm (l8 S) S.length).isSome && Y5 m js S1 tm1) = true)
  (hc : aK3 (P3 P dk N l H l 0 tm (l8 S) S.length) js (tm1.map (·.1)) = aR4 (P3 P dk N l H l 0 tm (l8 S) S.length) obs js S1 tm1)
  (ho : s6 obs) (k : ∀ ρ' a' w', s5 φ ψ w0 F N m ρ0 ρ' S1 tm1 a' w' → Q .normal a' w') : (Code.region id l.toArray false).wp P Q a w := by
 simp only [bR6] at hs
 obtain ⟨r, hr⟩ := bV3.1 hs.1
 rw [hr] at hc
 simp only [aK3, aR4, Option.map_some, Option.some.injEq, Prod.mk.injEq] at hc
 obtain ⟨h1, h2, h3, h4, h5⟩ := hc
 refine wp_region_lit (aY8 hH hF l 0 S.length G hr (by rw [h1]; exact ho) h4 h5 fun ρ' a' w' n' I => ?_)
 exact k _ a' w' (I.sel js S1 tm1 hs.2 h2 h3)
theorem bm6 {dk : TypeId → Nat} {l : List Oper} {id : Nat} (G : s5 φ ψ w0 F N m ρ0 ρ S tm a w) (H : M7) (hH : ∀ i c τ, H2 H.calls i = some (c, τ) → c.ok P) (hF : K4 H.facts) (ms : List Nat) (js : List Nat) (S1 : List It) (tm1 : List (Nat × AV)) (obs : List Prop) (hm : P.follows .mixedOrders = true)
  (hs : (a14 l ms S.length (l8 S) (P3 P dk N l H l 0 tm (l8 S) S.length) && Y5 m js S1 tm1) = true)
  (hc : aK3 (P3 P dk N l H l 0 tm (l8 S) S.length) js (tm1.map (·.1)) = aR4 (P3 P dk N l H l 0 tm (l8 S) S.length) obs js S1 tm1)
  (ho : s6 obs) (k : ∀ ρ' a' w', s5 φ ψ w0 F N m ρ0 ρ' S1 tm1 a' w' → Q .normal a' w') : (Code.region id l.toArray true).wp P Q a w := by
 simp only [bR6, a14] at hs
 obtain ⟨⟨⟨q1, q2⟩, q3⟩, q4⟩ := hs
 cases hr : P3 P dk N l H l 0 tm (l8 S) S.length with
 | none => rw [hr] at q3; cases q3
 | some r =>
  rw [hr] at q3 hc
  simp only [bR6] at q3
  simp only [aK3, aR4, Option.map_some, Option.some.injEq, Prod.mk.injEq] at hc
  obtain ⟨h1, h2, h3, h4, h5⟩ := hc
  refine aB4 hH hF G hr (by rw [h1]; exact ho) h4 h5 ms hm q2 q1 q3.1.1 q3.1.2 q3.2 fun ρ' a' w' n' I => ?_
  exact k _ a' w' (I.sel js S1 tm1 q4 h2 h3)
theorem rs1 {dk : TypeId → Nat} {l : List Oper} {id : Nat} (G : s5 φ ψ w0 F N m ρ0 ρ S tm a w) (H : M7) (hH : ∀ i c τ, H2 H.calls i = some (c, τ) → c.ok P) (hF : K4 H.facts) (js : List Nat) (S1 : List It) (tm1 : List (Nat × AV)) (obs : List Prop)
  (ho : s6 obs) (k : ∀ ρ' a' w', s5 φ ψ w0 F N m ρ0 ρ' S1 tm1 a' w' → Q .normal a' w')
  (hs : ((P3 P dk N l H l 0 tm (l8 S) S.length).isSome && Y5 m js S1 tm1) = true := by kernel_rfl)
  (hc : aK3 (P3 P dk N l H l 0 tm (l8 S) S.length) js (tm1.map (·.1)) = aR4 (P3 P dk N l H l 0 tm (l8 S) S.length) obs js S1 tm1 := by kernel_rfl) : (Code.region id l.toArray false).wp P Q a w := bw4 G H hH hF js S1 tm1 obs hs hc ho k
theorem rd1 {dk : TypeId → Nat} {l : List Oper} {id : Nat} (G : s5 φ ψ w0 F N m ρ0 ρ S tm a w) (H : M7) (hH : ∀ i c τ, H2 H.calls i = some (c, τ) → c.ok P) (hF : K4 H.facts) (ms : List Nat) (js : List Nat) (S1 : List It) (tm1 : List (Nat × AV)) (obs : List Prop)
  (ho : s6 obs) (k : ∀ ρ' a' w', s5 φ ψ w0 F N m ρ0 ρ' S1 tm1 a' w' → Q .normal a' w') (hm : P.follows .mixedOrders = true := by kernel_rfl)
  (hs : (a14 l ms S.length (l8 S) (P3 P dk N l H l 0 tm (l8 S) S.length) && Y5 m js S1 tm1) = true := by kernel_rfl)
  (hc : aK3 (P3 P dk N l H l 0 tm (l8 S) S.length) js (tm1.map (·.1)) = aR4 (P3 P dk N l H l 0 tm (l8 S) S.length) obs js S1 tm1 := by kernel_rfl) : (Code.region id l.toArray true).wp P Q a w := bm6 G H hH hF ms js S1 tm1 obs hm hs hc ho k
theorem aa8 : ∀ i c τ, H2 [] i = some (c, τ) → j5.ok P c := fun i c τ h => by cases h
theorem au4 {i0 : Nat} {c0 : j5} {τ0 : List Nat} {r : List (Nat × j5 × List Nat)} (h0 : c0.ok P) (hr : ∀ i c τ, H2 r i = some (c, τ) → j5.ok P c) : ∀ i c τ, H2 ((i0, c0, τ0) :: r) i = some (c, τ) → j5.ok P c := fun i c τ h => by
 simp only [H2] at h
 split at h
 ·cases h; exact h0
 ·exact hr i c τ h
theorem s5.sel (G : s5 φ ψ w0 F N m ρ0 ρ S tm a w) (js : List Nat) (S1 : List It) (tm1 : List (Nat × AV)) (hb : Y5 m js S1 tm1 = true) (hS : js.map (l8 S) = S1.map (It.ren (nth js))) (ht : (tm1.map (·.1)).map (w6 tm) = tm1.map fun p => some (p.2.ren (nth js))) : ∃ ρ', s5 φ ψ w0 F N m ρ0 ρ' S1 tm1 a w := ⟨_, Inn.sel G js S1 tm1 hb hS ht⟩
theorem s5.as (G : s5 φ ψ w0 F N m ρ0 ρ S tm a w) (S1 : List It) (tm1 : List (Nat × AV)) (hS : S = S1) (ht : tm = tm1) : s5 φ ψ w0 F N m ρ0 ρ S1 tm1 a w := by subst hS; subst ht; exact G
theorem s5.at (G : s5 φ ψ w0 F N m ρ0 ρ S tm a w) (S1 : List It) (tm1 : List (Nat × AV)) (hS : S = S1 := by kernel_rfl) (ht : tm = tm1 := by kernel_rfl) : s5 φ ψ w0 F N m ρ0 ρ S1 tm1 a w := G.as S1 tm1 hS ht
theorem aa1 {c : Nat} {x y : Code} (G : s5 φ ψ w0 F N m ρ0 ρ S tm a w) (b : Bool) (hc : w6 tm c = some (.v (.bool b))) (ht : b = true → x.wp P Q a w) (hf : b = false → y.wp P Q a w) : (Code.cond (.tmp c) x y).wp P Q a w := by
 have h := G.tmv c _ hc
 refine wp_cond_split (t := b) ?_ ht hf
 simp [Act.eval, Array.getD_eq_getD_getElem?, h, AV.val]
theorem bc2 {c : Nat} {x y : Code} (G : s5 φ ψ w0 F N m ρ0 ρ S tm a w) (b : Bool) (hc : w6 tm c = some (.v (.bool b))) (hb : b = true) (h : x.wp P Q a w) : (Code.cond (.tmp c) x y).wp P Q a w := aa1 G b hc (fun _ => h) fun hf => by rw [hb] at hf; cases hf
theorem bc3 {c : Nat} {x y : Code} (G : s5 φ ψ w0 F N m ρ0 ρ S tm a w) (b : Bool) (hc : w6 tm c = some (.v (.bool b))) (hb : b = false) (h : y.wp P Q a w) : (Code.cond (.tmp c) x y).wp P Q a w := aa1 G b hc (fun ht => by rw [hb] at ht; cases ht) fun _ => h
def aQ6 (P : Program) (tm : Nat → Option AV) (S : Nat → It) : List ResultVar → Option (List AV)
 | [] => some []
 | .tmp t :: r =>
  match tm t, aQ6 P tm S r with
  | some x, some l => some (x :: l)
  | _, _ => none
 | .cell t ty :: r =>
  match tm t, aQ6 P tm S r with
  | some (.ptr b off), some l =>
   match S b with
   | .box cs => (aO1 P ty ((cs.drop off).take (al2 P ty))).map fun x => x :: l
   | _ => none
  | _, _ => none
def aJ7 (P : Program) (fn : Func) (tm : List (Nat × AV)) (S : List It) : Option AV :=
 match aQ6 P (w6 tm) (l8 S) fn.results.toList with
 | some [x] => some x
 | some l => some (.tup l)
 | none => none
theorem bj5 {cs : List AV} {ty : TypeId} {b off : Nat} {x : AV} (hB : C2 w b (AV.vals ρ cs)) (h : aO1 P ty ((cs.drop off).take (al2 P ty)) = some x) : (loadVar ty ⟨b, off, none⟩).run P w = .ok (x.val ρ) w :=
 ab0 h ⟨b, off, none⟩ fun j u hj => by
  rw [AV.vals_take, AV.vals_drop] at hj
  have hadd : (⟨b, off, none⟩ : Addr).add j = ⟨b, off + j, none⟩ := by unfold Addr.add; split <;> simp_all
  rw [hadd, hB.cell]
  rw [List.getElem?_take] at hj
  split at hj
  ·rw [List.getElem?_drop] at hj; exact hj
  ·cases hj
theorem aC7 (G : s5 φ ψ w0 F N m ρ0 ρ S tm a w) : ∀ {rs : List ResultVar} {l : List AV}, aQ6 P (w6 tm) (l8 S) rs = some l →
  (rs.mapM (fun r => (match r with | .tmp t => pure (a.tmps.getD t undef) | .cell b t => do loadVar t (← asAddr (a.tmps.getD b undef)) : Sem Value))).run P w = .ok (AV.vals ρ l) w
 | [], l, h => by cases h; simp [AV.vals]
 | .tmp t :: r, l, h => by
  simp only [aQ6] at h
  split at h
  case h_2 => cases h
  rename_i x l' h1 h2
  cases h
  have ht := G.tmv t x h1
  have ih := aC7 G h2
  have e : (pure (a.tmps.getD t undef) : Sem Value).run P w = .ok (x.val ρ) w := by simp [Array.getD_eq_getD_getElem?, ht]
  rw [List.mapM_cons, Sem.run_bind, e, Result.andThen_ok, Sem.run_bind, ih]
  rfl
 | .cell t ty :: r, l, h => by
  simp only [aQ6] at h
  split at h
  case h_2 => cases h
  rename_i b off l' h1 h2
  split at h
  case h_2 => cases h
  rename_i cs hS
  obtain ⟨x, h3, h4⟩ := bR9.1 h
  subst h4
  have ht := G.tmv t _ h1
  have ih := aC7 G h2
  have hl := bj5 (P := P) (G.mem.boxAt hS) h3
  have e : (do loadVar ty (← asAddr (a.tmps.getD t undef)) : Sem Value).run P w = .ok (x.val ρ) w := by
   rw [show a.tmps.getD t undef = .pointer (some ⟨P0 (ρ b), off, none⟩) by simp [Array.getD_eq_getD_getElem?, ht, AV.val]]
   simp [asAddr, hl]
  rw [List.mapM_cons, Sem.run_bind, e, Result.andThen_ok, Sem.run_bind, ih]
  rfl
theorem bw5 {fn : Func} {R : Ending → World → Prop} {v : AV} (G : s5 φ ψ w0 F N m ρ0 ρ S tm a w) (h : aJ7 P fn tm S = some v) (hR : R (.returned (v.val ρ)) w) : bodyPost P fn R .ret a w := by
 refine ⟨G.defs, v.val ρ, ?_, hR⟩
 unfold aJ7 at h
 cases hl : aQ6 P (w6 tm) (l8 S) fn.results.toList with
 | none => rw [hl] at h; cases h
 | some l =>
  rw [hl] at h
  have := aC7 G hl
  unfold results
  rw [Sem.run_bind, Array.mapM_eq_mapM_toList, Sem.run_map]
  erw [this]
  simp only [Result.andThen_ok, Sem.run_pure]
  match l, h with
  | [], h => cases h; rfl
  | [x], h => cases h; rfl
  | x :: y :: r, h => cases h; rfl
def av5 (i : Nat) : List AV → List (Nat × AV)
 | [] => []
 | x :: r => (i, x) :: av5 (i + 1) r
theorem aO2 (ρ : Nat → Value) : ∀ {l : List AV} {i t : Nat} {x : AV}, w6 (av5 i l) t = some x → i ≤ t ∧ (AV.vals ρ l)[t - i]? = some (x.val ρ)
 | [], _, _, _, h => by cases h
 | y :: r, i, t, x, h => by
  simp only [av5, w6, natEq, beq_iff_eq] at h
  split at h
  ·rename_i e; subst e; cases h; exact ⟨bS5 _, by simp [AV.vals]⟩
  ·obtain ⟨h1, h2⟩ := aO2 ρ h
   refine ⟨by omega, ?_⟩
   rw [show t - i = (t - (i + 1)) + 1 by omega]
   simpa [AV.vals] using h2
def aO7 (φ ψ : Nat → Prop) (w0 : World) (F : ι → Rs) (ρ0 : Nat → Value) (c : j5) (x : Ending) (w' : World) : Prop := ∃ ρ', (∀ i, i < c.pre.length → ρ' i = ρ0 i) ∧ x = .returned (c.res.val ρ') ∧ i6 φ ψ w0 w' (l0 F ρ' (l8 c.post))
theorem bc1 {c : j5} {fn : Func} {code : Code} (N : Nat) (hf : P.funcs[c.f]? = some fn) (hb : fn.body = some code) (hN : fn.ntmps = N) (hw : (wfB c.pre (av5 0 c.args) && decide (c.args.length ≤ N)) = true)
  (k : ∀ {ι : Type} (φ ψ : Nat → Prop) (w0 w : World) (F : ι → Rs) (ρ0 ρ : Nat → Value) (a : Act), s5 φ ψ w0 F N c.pre.length ρ0 ρ c.pre (av5 0 c.args) a w → code.wp P (bodyPost P fn (aO7 φ ψ w0 F ρ0 c)) a w) : c.ok P := by
 intro ι φ ψ w0 w F ρ M
 simp only [bR6, decide_eq_true_eq] at hw
 obtain ⟨b1, b2⟩ := bs1 hw.1
 refine calls_of_wp hf hb (k φ ψ w0 w F ρ ρ _ ⟨?_, rfl, fun t x hx => ?_, b2, b1, M, bS5 _, fun _ _ => rfl⟩)
 ·simp [AV.vals_length, hN]; omega
 ·obtain ⟨_, h1⟩ := aO2 ρ hx
  rw [Nat.sub_zero] at h1
  have hlt := (bS0.1 h1).1
  rw [Array.getElem?_append_left (by simpa using hlt)]
  simpa using h1
theorem aq5 {fn : Func} {c : j5} {v : AV} (G : s5 φ ψ w0 F N c.pre.length ρ0 ρ S tm a w) (js : List Nat) (h : aJ7 P fn tm S = some v) (hb : Y5 c.pre.length js c.post [] = true) (hS : js.map (l8 S) = c.post.map (It.ren (nth js))) (hv : v = c.res.ren (nth js)) : bodyPost P fn (aO7 φ ψ w0 F ρ0 c) .ret a w := by
 have G1 := Inn.sel G js c.post [] hb hS rfl
 refine bw5 G h ⟨fun i => ρ (nth js i), G1.old, ?_, G1.mem⟩
 rw [hv, AV.val_ren]
theorem b0 {K : Act → World → Prop} (h : K a w) : Exit.then K Q .normal a w := h
theorem t3 {K : Act → World → Prop} {id : Nat} (h : Q (.exit id) a w) : Exit.then K Q (.exit id) a w := h
theorem n8 {K : Act → World → Prop} (h : Q .ret a w) : Exit.then K Q .ret a w := h
theorem i8 {id : Nat} (h : Q .normal a w) : Exit.inBlock id Q .normal a w := h
theorem C9 {id : Nat} (h : Q .ret a w) : Exit.inBlock id Q .ret a w := h
theorem t2 {id : Nat} (h : Q .normal a w) : Exit.inBlock id Q (.exit id) a w := by simp only [Exit.inBlock, if_true]; exact h
theorem w64 {x : Int} (h1 : -9223372036854775808 ≤ x) (h2 : x ≤ 9223372036854775807) : IntKind.i64.wrap x = x := IntWalk.i64_in x ⟨h1, h2⟩
theorem rT {c : Nat} {x y : Code} (G : s5 φ ψ w0 F N m ρ0 ρ S tm a w) (b : Bool) (hb : b = true) (h : x.wp P Q a w) (hc : w6 tm c = some (.v (.bool b)) := by kernel_rfl) : (Code.cond (.tmp c) x y).wp P Q a w := bc2 G b hc hb h
theorem rF {c : Nat} {x y : Code} (G : s5 φ ψ w0 F N m ρ0 ρ S tm a w) (b : Bool) (hb : b = false) (h : y.wp P Q a w) (hc : w6 tm c = some (.v (.bool b)) := by kernel_rfl) : (Code.cond (.tmp c) x y).wp P Q a w := bc3 G b hc hb h
theorem t6 {κ : Type} {c : Code} (pre : κ → Prop) (μ : κ → Nat) (Sk : κ → List It) (Tk : κ → List (Nat × AV)) (k0 : κ) (hp : pre k0) (G : s5 φ ψ w0 F N m ρ0 ρ (Sk k0) (Tk k0) a w)
  (round : ∀ k ρ a w, pre k → s5 φ ψ w0 F N m ρ0 ρ (Sk k) (Tk k) a w → c.wp P (Exit.then (fun a' w' => ∃ k' ρ', pre k' ∧ μ k' < μ k ∧ s5 φ ψ w0 F N m ρ0 ρ' (Sk k') (Tk k') a' w') Q) a w) : (Code.loop c).wp P Q a w := by
 refine wp_loop_ghost (fun n a w => ∃ k ρ, μ k = n ∧ pre k ∧ s5 φ ψ w0 F N m ρ0 ρ (Sk k) (Tk k) a w) (μ k0) ⟨k0, ρ, rfl, hp, G⟩ ?_
 rintro n a w ⟨k, ρ, rfl, hk, Gk⟩
 refine wp_mono (round k ρ a w hk Gk) ?_
 intro e a' w' hq
 cases e with
 | normal =>
  obtain ⟨k', ρ', h1, h2, h3⟩ := hq
  exact ⟨μ k', h2, k', ρ', rfl, h1, h3⟩
 | _ => exact hq
theorem bm5 {κ : Type} {pre : κ → Prop} {μ : κ → Nat} {Sk : κ → List It} {Tk : κ → List (Nat × AV)} {k : κ} (G : s5 φ ψ w0 F N m ρ0 ρ S tm a w) (k' : κ) (hp : pre k') (hμ : μ k' < μ k) (js : List Nat) (S1 : List It) (tm1 : List (Nat × AV)) (hs1 : Sk k' = S1) (ht1 : Tk k' = tm1)
  (hb : Y5 m js S1 tm1 = true) (hS : js.map (l8 S) = S1.map (It.ren (nth js))) (ht : (tm1.map (·.1)).map (w6 tm) = tm1.map fun p => some (p.2.ren (nth js))) :
  ∃ k' ρ', pre k' ∧ μ k' < μ k ∧ s5 φ ψ w0 F N m ρ0 ρ' (Sk k') (Tk k') a w := by
 subst hs1; subst ht1
 exact ⟨k', _, hp, hμ, Inn.sel G js _ _ hb hS ht⟩
theorem s5.len (G : s5 φ ψ w0 F N m ρ0 ρ S tm a w) (i : Nat) {d : D} (h : itD (l8 S i) = some d) : d.len ≤ 9223372036854775807 := by
 obtain ⟨_, cap, _, h1, h2, _⟩ := G.mem.sliceAt h
 unfold maxLen at h2; omega
end
def dkP (t : TypeId) : Nat :=
 if natEq t 3 then 1 else
 if natEq t 4 then 2 else
 if natEq t 5 then 3 else
 if natEq t 9 then 4 else
if natEq t 122 then 5 else
if natEq t 65 then 6 else
 if natEq t 23 then 7 else
if natEq t 55 then 8 else
if natEq t 29 then 9 else
if natEq t 103 then 10 else
 0
abbrev eA (e : c8) (r : Nat) : AV := .agg [.v (.int .i64 e.kind), .v (.int .i64 e.value), .ref r]
abbrev eS (e : c8) : List It := [.dat (.exprs e.kids)]
abbrev sA (s : c6) (r : Nat) : AV := .agg [.v (.int .i64 s.kind), .v (.int .i64 s.target), .v (.int .i64 s.index.kind), .v (.int .i64 s.index.value), .ref r, .v (.int .i64 s.value.kind), .v (.int .i64 s.value.value), .ref (r + 1), .v (.int .i64 s.count), .ref (r + 2), .ref (r + 3)]
abbrev sS (s : c6) : List It := [.dat (.exprs s.index.kids), .dat (.exprs s.value.kids), .dat (.stmts s.body), .dat (.stmts s.els)]
abbrev pA (r : Nat) : AV := .agg [.ref r, .ref (r + 1), .ref (r + 2)]
abbrev pS (p : j8) : List It := [.dat (.ints p.vars), .dat (.ints p.arrays), .dat (.stmts p.body)]
abbrev iA (n : Int) : AV := .v (.int .i64 n)
abbrev bA (b : Bool) : AV := .v (.bool b)
abbrev X8 (f : FuncId) (args : List AV) (S : List It) (res : AV) : j5 := ⟨f, args, S, S, res⟩
abbrev dI (l : List Int) : It := .dat (.ints l)
abbrev dB (l : List Bool) : It := .dat (.bools l)
abbrev dY (l : List UInt8) : It := .dat (.bytes l)
abbrev dN (l : List c7) : It := .dat (.instrs l)
abbrev dV (l : List (Int × Int)) : It := .dat (.events l)
abbrev dR (l : List (List Int)) : It := .dat (.rows l)
abbrev dE (l : List c8) : It := .dat (.exprs l)
abbrev dT (l : List c6) : It := .dat (.stmts l)
abbrev eL (e : c8) (r : Nat) : List AV := [.v (.int .i64 e.kind), .v (.int .i64 e.value), .ref r]
abbrev sL (s : c6) (r : Nat) : List AV := [.v (.int .i64 s.kind), .v (.int .i64 s.target), .v (.int .i64 s.index.kind), .v (.int .i64 s.index.value), .ref r, .v (.int .i64 s.value.kind), .v (.int .i64 s.value.value), .ref (r + 1), .v (.int .i64 s.count), .ref (r + 2), .ref (r + 3)]
abbrev pL (r : Nat) : List AV := [.ref r, .ref (r + 1), .ref (r + 2)]
section
variable {P : Program} {ι : Type} {φ ψ : Nat → Prop} {w0 w w' : World} {F : ι → Rs} {ρ ρ0 : Nat → Value} {N m n : Nat} {S : List It} {tm : List (Nat × AV)} {a : Act} {Q : Exit → Act → World → Prop}
end
theorem c8.eta (e : c8) : (⟨e.kind, e.value, e.kids⟩ : c8) = e := by cases e; rfl
theorem c6.eta (s : c6) : (⟨s.kind, s.target, s.index, s.value, s.count, s.body, s.els⟩ : c6) = s := by cases s; rfl
section
variable {ι : Type} {P : Program} {φ ψ : Nat → Prop} {w0 w : World} {F : ι → Rs} {N m : Nat} {ρ0 ρ : Nat → Value} {S : List It} {tm : List (Nat × AV)} {a : Act}
theorem D8 {fn : Func} {c : j5} (G : s5 φ ψ w0 F N c.pre.length ρ0 ρ S tm a w) (js : List Nat) (hS : js.map (l8 S) = c.post.map (It.ren (nth js)) := by kernel_rfl) (h : aJ7 P fn tm S = some (c.res.ren (nth js)) := by kernel_rfl) (hb : Y5 c.pre.length js c.post [] = true := by kernel_rfl) : bodyPost P fn (aO7 φ ψ w0 F ρ0 c) .ret a w := aq5 G js h hb hS rfl
theorem bL8 {fn : Func} {c : j5} (G : s5 φ ψ w0 F N c.pre.length ρ0 ρ S tm a w) (js : List Nat) (hS : js.map (l8 S) = c.post.map (It.ren (nth js)) := by kernel_rfl) (h : aJ7 P fn tm S = some (c.res.ren (nth js)) := by kernel_rfl) (hb : Y5 c.pre.length js c.post [] = true := by kernel_rfl) : bodyPost P fn (aO7 φ ψ w0 F ρ0 c) .normal a w := aq5 G js h hb hS rfl
theorem Q1 {fn : Func} {c : j5} (v : AV) (G : s5 φ ψ w0 F N c.pre.length ρ0 ρ S tm a w) (js : List Nat) (hv : v = c.res.ren (nth js)) (hS : js.map (l8 S) = c.post.map (It.ren (nth js)) := by kernel_rfl) (h : aJ7 P fn tm S = some v := by kernel_rfl) (hb : Y5 c.pre.length js c.post [] = true := by kernel_rfl) : bodyPost P fn (aO7 φ ψ w0 F ρ0 c) .ret a w := aq5 G js h hb hS hv
theorem H9 {κ : Type} {pre : κ → Prop} {μ : κ → Nat} {Sk : κ → List It} {Tk : κ → List (Nat × AV)} {k : κ} (G : s5 φ ψ w0 F N m ρ0 ρ S tm a w) (k' : κ) (hp : pre k') (hμ : μ k' < μ k) (js : List Nat) (hS : js.map (l8 S) = (Sk k').map (It.ren (nth js)) := by kernel_rfl) (ht : ((Tk k').map (·.1)).map (w6 tm) = (Tk k').map (fun p => some (p.2.ren (nth js))) := by kernel_rfl) (hb : Y5 m js (Sk k') (Tk k') = true := by kernel_rfl) : ∃ k' ρ', pre k' ∧ μ k' < μ k ∧ s5 φ ψ w0 F N m ρ0 ρ' (Sk k') (Tk k') a w := bm5 G k' hp hμ js _ _ rfl rfl hb hS ht
theorem I6 {fn : Func} {f : FuncId} {args : List AV} {pre post : List It} {x : Bool} (y : Bool) (G : s5 φ ψ w0 F N pre.length ρ0 ρ S tm a w) (js : List Nat) (e : x = y) (hS : js.map (l8 S) = post.map (It.ren (nth js)) := by kernel_rfl) (h : aJ7 P fn tm S = some (bA y) := by kernel_rfl) (hb : Y5 pre.length js post [] = true := by kernel_rfl) : bodyPost P fn (aO7 φ ψ w0 F ρ0 ⟨f, args, pre, post, bA x⟩) .ret a w := aq5 (c := ⟨f, args, pre, post, bA x⟩) G js h hb hS (by rw [e]; rfl)
theorem rxI {fn : Func} {f : FuncId} {args : List AV} {pre post : List It} {x : Int} (y : Int) (G : s5 φ ψ w0 F N pre.length ρ0 ρ S tm a w) (js : List Nat) (e : x = y) (hS : js.map (l8 S) = post.map (It.ren (nth js)) := by kernel_rfl) (h : aJ7 P fn tm S = some (iA y) := by kernel_rfl) (hb : Y5 pre.length js post [] = true := by kernel_rfl) : bodyPost P fn (aO7 φ ψ w0 F ρ0 ⟨f, args, pre, post, iA x⟩) .ret a w := aq5 (c := ⟨f, args, pre, post, iA x⟩) G js h hb hS (by rw [e]; rfl)
end
abbrev wO (x : Int) : Prop := IntKind.i64.wrap x = x
theorem oW {x : Int} (h : -9223372036854775808 ≤ x ∧ x ≤ 9223372036854775807) : wO x := w64 h.1 h.2
theorem o1 {x : Int} (h : -9223372036854775808 ≤ x ∧ x ≤ 9223372036854775807) : s6 [wO x] := ⟨oW h, bS4⟩
theorem o2 {x y : Int} (h : (-9223372036854775808 ≤ x ∧ x ≤ 9223372036854775807) ∧ -9223372036854775808 ≤ y ∧ y ≤ 9223372036854775807) : s6 [wO x, wO y] := ⟨oW h.1, oW h.2, bS4⟩
theorem o3 {x y z : Int} (h : (-9223372036854775808 ≤ x ∧ x ≤ 9223372036854775807) ∧ (-9223372036854775808 ≤ y ∧ y ≤ 9223372036854775807) ∧ -9223372036854775808 ≤ z ∧ z ≤ 9223372036854775807) : s6 [wO x, wO y, wO z] := ⟨oW h.1, oW h.2.1, oW h.2.2, bS4⟩
theorem o4 {x y z u : Int} (h : (-9223372036854775808 ≤ x ∧ x ≤ 9223372036854775807) ∧ (-9223372036854775808 ≤ y ∧ y ≤ 9223372036854775807) ∧ (-9223372036854775808 ≤ z ∧ z ≤ 9223372036854775807) ∧ -9223372036854775808 ≤ u ∧ u ≤ 9223372036854775807) : s6 [wO x, wO y, wO z, wO u] := ⟨oW h.1, oW h.2.1, oW h.2.2.1, oW h.2.2.2, bS4⟩
abbrev aP (n b : Nat) (r : List Prop) : List Prop := (n ≤ 9223372036854775807) :: (n * b ≤ 140737488355328) :: r
theorem aK {n b : Nat} {r : List Prop} (h : n ≤ 100000000000) (k : s6 r) (hb : b ≤ 1000 := by decide) : s6 (aP n b r) := ⟨by omega, bT4 (Nat.mul_le_mul h hb) (by decide), k⟩
abbrev iX (x : Int) (n l : Nat) (r : List Prop) : List Prop := (0 ≤ x) :: (x < (l : Int)) :: (n < l) :: r
theorem iK {x : Int} {n l : Nat} {r : List Prop} (h : 0 ≤ x ∧ x < (l : Int) ∧ n < l) (k : s6 r) : s6 (iX x n l r) := ⟨h.1, h.2.1, h.2.2, k⟩
abbrev mR (js : List Nat) (l : List It) : List It := List.map (It.ren (nth js)) l
theorem fz : K4 [] := bS4
theorem fc {a b : Bool} {r : List (Bool × Bool)} (h : a = b) (k : K4 r) : K4 ((a, b) :: r) := ⟨h, k⟩
abbrev qzE (e : c8) : c8 := c8.mk e.kind e.value e.kids
abbrev qzS (s : c6) : c6 := c6.mk s.kind s.target (c8.mk s.index.kind s.index.value s.index.kids) (c8.mk s.value.kind s.value.value s.value.kids) s.count s.body s.els
def kL (P : Program) (N m : Nat) (l : List Oper) (H : M7) (tm : List (Nat × AV)) (S : List It) (js : List Nat) (S1 : List It) (t1 : List (Nat × AV)) := ((P3 P dkP N l H l 0 tm (l8 S) S.length).isSome && Y5 m js S1 t1, aK3 (P3 P dkP N l H l 0 tm (l8 S) S.length) js (t1.map (·.1)))
def kR (P : Program) (N : Nat) (l : List Oper) (H : M7) (tm : List (Nat × AV)) (S : List It) (o : List Prop) (js : List Nat) (S1 : List It) (t1 : List (Nat × AV)) := (true, aR4 (P3 P dkP N l H l 0 tm (l8 S) S.length) o js S1 t1)
def kM (P : Program) (N m : Nat) (l : List Oper) (H : M7) (ms : List Nat) (tm : List (Nat × AV)) (S : List It) (js : List Nat) (S1 : List It) (t1 : List (Nat × AV)) := (a14 l ms S.length (l8 S) (P3 P dkP N l H l 0 tm (l8 S) S.length) && Y5 m js S1 t1, aK3 (P3 P dkP N l H l 0 tm (l8 S) S.length) js (t1.map (·.1)))
theorem F5 {P : Program} {c : j5} {fn : Func} {code : Code} (N : Nat) (hf : P.funcs[c.f]? = some fn) (S : List It) (tm : List (Nat × AV)) (k : ∀ {ι : Type} {φ ψ : Nat → Prop} {w0 w : World} {F : ι → Rs} {ρ0 ρ : Nat → Value} {a : Act}, s5 φ ψ w0 F N c.pre.length ρ0 ρ S tm a w → code.wp P (bodyPost P fn (aO7 φ ψ w0 F ρ0 c)) a w) (hb : fn.body = some code := by rfl) (hN : (fn.ntmps, c.pre, av5 0 c.args) = (N, S, tm) := by kernel_rfl) (hw : (wfB c.pre (av5 0 c.args) && decide (c.args.length ≤ N)) = true := by kernel_rfl) : c.ok P := by
 simp only [Prod.mk.injEq] at hN
 obtain ⟨h1, h2, h3⟩ := hN
 exact bc1 N hf hb h1 hw fun φ ψ w0 w F ρ0 ρ a G => k (ρ := ρ) (G.as S tm h2 h3)
def aT (x y : List (Nat × AV)) : List (Nat × AV) := x ++ y.filter fun p => !(x.any fun q => natEq q.1 p.1)
def HH (P : Program) (H : M7) : Prop := (∀ i c τ, H2 H.calls i = some (c, τ) → c.ok P) ∧ K4 H.facts
theorem d8 {P : Program} : HH P ⟨[], [], []⟩ := ⟨aa8, bS4⟩
theorem r7 {P : Program} {c : j5} (i : Nat) (σ : List Nat) (h : c.ok P) : HH P ⟨[(i, c, σ)], [], []⟩ := ⟨au4 h aa8, bS4⟩
theorem E7 {P : Program} {f : List (Bool × Bool)} (h : K4 f) (u : List (Nat × Nat)) : HH P ⟨[], f, u⟩ := ⟨aa8, h⟩
def Cs (P : Program) (r : List (Nat × j5 × List Nat)) : Prop := ∀ i c τ, H2 r i = some (c, τ) → c.ok P
theorem K8 {P : Program} : Cs P [] := aa8
theorem A2 {P : Program} {c : j5} {r : List (Nat × j5 × List Nat)} (i : Nat) (σ : List Nat) (h : c.ok P) (k : Cs P r) : Cs P ((i, c, σ) :: r) := au4 h k
theorem K9 {P : Program} {r : List (Nat × j5 × List Nat)} {f : List (Bool × Bool)} (h : Cs P r) (h' : K4 f) (u : List (Nat × Nat)) : HH P ⟨r, f, u⟩ := ⟨h, h'⟩
section
variable {ι : Type} {P : Program} {φ ψ : Nat → Prop} {w0 w : World} {F : ι → Rs} {N m : Nat} {ρ0 ρ : Nat → Value} {S : List It} {tm : List (Nat × AV)} {a : Act} {l : List Oper} {id : Nat} {Q : Exit → Act → World → Prop} {H : M7}
theorem G4 (G : s5 φ ψ w0 F N m ρ0 ρ S tm a w) (hh : HH P H) (js : List Nat) (S1 : List It) (t1 : List (Nat × AV)) (o : List Prop) (ho : s6 o) (k : ∀ {ρ' a' w'}, s5 φ ψ w0 F N m ρ0 ρ' S1 t1 a' w' → Q .normal a' w') (h : kL P N m l H tm S js S1 t1 = kR P N l H tm S o js S1 t1 := by kernel_rfl) : (Code.region id l.toArray false).wp P Q a w := rs1 (dk := dkP) G H hh.1 hh.2 js S1 t1 o ho (fun _ _ _ => k) (congrArg Prod.fst h) (congrArg Prod.snd h)
theorem i7 (G : s5 φ ψ w0 F N m ρ0 ρ S tm a w) (hh : HH P H) (js : List Nat) (S1 : List It) (t1 : List (Nat × AV)) (k : ∀ {ρ' a' w'}, s5 φ ψ w0 F N m ρ0 ρ' S1 t1 a' w' → Q .normal a' w') (h : kL P N m l H tm S js S1 t1 = kR P N l H tm S [] js S1 t1 := by kernel_rfl) : (Code.region id l.toArray false).wp P Q a w := G4 G hh js S1 t1 [] bS4 k h
theorem rB1 (G : s5 φ ψ w0 F N m ρ0 ρ S tm a w) (hh : HH P H) (t1 : List (Nat × AV)) (o : List Prop) (ho : s6 o) (k : ∀ {ρ' a' w'}, s5 φ ψ w0 F N m ρ0 ρ' S t1 a' w' → Q .normal a' w') (h : kL P N m l H tm S (bS8 S.length) S t1 = kR P N l H tm S o (bS8 S.length) S t1 := by kernel_rfl) : (Code.region id l.toArray false).wp P Q a w := rs1 (dk := dkP) G H hh.1 hh.2 (bS8 S.length) S t1 o ho (fun _ _ _ => k) (congrArg Prod.fst h) (congrArg Prod.snd h)
theorem D6 (G : s5 φ ψ w0 F N m ρ0 ρ S tm a w) (hh : HH P H) (t1 : List (Nat × AV)) (k : ∀ {ρ' a' w'}, s5 φ ψ w0 F N m ρ0 ρ' S t1 a' w' → Q .normal a' w') (h : kL P N m l H tm S (bS8 S.length) S t1 = kR P N l H tm S [] (bS8 S.length) S t1 := by kernel_rfl) : (Code.region id l.toArray false).wp P Q a w := rB1 G hh t1 [] bS4 k h
theorem A0 (G : s5 φ ψ w0 F N m ρ0 ρ S tm a w) (hh : HH P H) (t1 : List (Nat × AV)) (o : List Prop) (ho : s6 o) (k : ∀ {ρ' a' w'}, s5 φ ψ w0 F N m ρ0 ρ' S (aT t1 tm) a' w' → Q .normal a' w') (h : kL P N m l H tm S (bS8 S.length) S (aT t1 tm) = kR P N l H tm S o (bS8 S.length) S (aT t1 tm) := by kernel_rfl) : (Code.region id l.toArray false).wp P Q a w := rs1 (dk := dkP) G H hh.1 hh.2 (bS8 S.length) S (aT t1 tm) o ho (fun _ _ _ => k) (congrArg Prod.fst h) (congrArg Prod.snd h)
theorem j7 (G : s5 φ ψ w0 F N m ρ0 ρ S tm a w) (hh : HH P H) (t1 : List (Nat × AV)) (k : ∀ {ρ' a' w'}, s5 φ ψ w0 F N m ρ0 ρ' S (aT t1 tm) a' w' → Q .normal a' w') (h : kL P N m l H tm S (bS8 S.length) S (aT t1 tm) = kR P N l H tm S [] (bS8 S.length) S (aT t1 tm) := by kernel_rfl) : (Code.region id l.toArray false).wp P Q a w := A0 G hh t1 [] bS4 k h
theorem C8 (G : s5 φ ψ w0 F N m ρ0 ρ S tm a w) (hh : HH P H) (ms : List Nat) (js : List Nat) (S1 : List It) (t1 : List (Nat × AV)) (o : List Prop) (ho : s6 o) (k : ∀ {ρ' a' w'}, s5 φ ψ w0 F N m ρ0 ρ' S1 t1 a' w' → Q .normal a' w') (hm : P.follows .mixedOrders = true := by kernel_rfl) (h : kM P N m l H ms tm S js S1 t1 = kR P N l H tm S o js S1 t1 := by kernel_rfl) : (Code.region id l.toArray true).wp P Q a w := rd1 (dk := dkP) G H hh.1 hh.2 ms js S1 t1 o ho (fun _ _ _ => k) hm (congrArg Prod.fst h) (congrArg Prod.snd h)
theorem aQ9 (G : s5 φ ψ w0 F N m ρ0 ρ S tm a w) (hh : HH P H) (ms : List Nat) (js : List Nat) (S1 : List It) (t1 : List (Nat × AV)) (k : ∀ {ρ' a' w'}, s5 φ ψ w0 F N m ρ0 ρ' S1 t1 a' w' → Q .normal a' w') (hm : P.follows .mixedOrders = true := by kernel_rfl) (h : kM P N m l H ms tm S js S1 t1 = kR P N l H tm S [] js S1 t1 := by kernel_rfl) : (Code.region id l.toArray true).wp P Q a w := C8 G hh ms js S1 t1 [] bS4 k hm h
theorem aQ8 (G : s5 φ ψ w0 F N m ρ0 ρ S tm a w) (hh : HH P H) (ms : List Nat) (t1 : List (Nat × AV)) (o : List Prop) (ho : s6 o) (k : ∀ {ρ' a' w'}, s5 φ ψ w0 F N m ρ0 ρ' S (aT t1 tm) a' w' → Q .normal a' w') (hm : P.follows .mixedOrders = true := by kernel_rfl) (h : kM P N m l H ms tm S (bS8 S.length) S (aT t1 tm) = kR P N l H tm S o (bS8 S.length) S (aT t1 tm) := by kernel_rfl) : (Code.region id l.toArray true).wp P Q a w := rd1 (dk := dkP) G H hh.1 hh.2 ms (bS8 S.length) S (aT t1 tm) o ho (fun _ _ _ => k) hm (congrArg Prod.fst h) (congrArg Prod.snd h)
theorem bn2 (G : s5 φ ψ w0 F N m ρ0 ρ S tm a w) (hh : HH P H) (ms : List Nat) (t1 : List (Nat × AV)) (k : ∀ {ρ' a' w'}, s5 φ ψ w0 F N m ρ0 ρ' S (aT t1 tm) a' w' → Q .normal a' w') (hm : P.follows .mixedOrders = true := by kernel_rfl) (h : kM P N m l H ms tm S (bS8 S.length) S (aT t1 tm) = kR P N l H tm S [] (bS8 S.length) S (aT t1 tm) := by kernel_rfl) : (Code.region id l.toArray true).wp P Q a w := aQ8 G hh ms t1 [] bS4 k hm h
variable {c : Nat} {x y : Code}
theorem rcB {b : Bool} (G : s5 φ ψ w0 F N m ρ0 ρ S tm a w) (f : b = false → y.wp P Q a w) (t : b = true → x.wp P Q a w) (h : w6 tm c = some (.v (.bool b)) := by rfl) : (Code.cond (.tmp c) x y).wp P Q a w := aa1 G b h t f
theorem H6 {α : Type} [BEq α] [LawfulBEq α] {u v : α} (G : s5 φ ψ w0 F N m ρ0 ρ S tm a w) (f : (u == v) = false → u ≠ v → y.wp P Q a w) (t : (u == v) = true → u = v → x.wp P Q a w) (h : w6 tm c = some (.v (.bool (u == v))) := by rfl) : (Code.cond (.tmp c) x y).wp P Q a w := aa1 G _ h (fun q => t q (eq_of_beq q)) fun q => f q (ne_of_beq_false q)
theorem rcN {α : Type} [BEq α] [LawfulBEq α] {u v : α} (G : s5 φ ψ w0 F N m ρ0 ρ S tm a w) (f : (u != v) = false → u = v → y.wp P Q a w) (t : (u != v) = true → u ≠ v → x.wp P Q a w) (h : w6 tm c = some (.v (.bool (u != v))) := by rfl) : (Code.cond (.tmp c) x y).wp P Q a w := aa1 G _ h (fun q => t q (bne_iff_ne.1 q)) fun q => f q (bne_eq_false_iff_eq.1 q)
theorem rcD {p : Prop} [Decidable p] (G : s5 φ ψ w0 F N m ρ0 ρ S tm a w) (f : decide p = false → ¬ p → y.wp P Q a w) (t : decide p = true → p → x.wp P Q a w) (h : w6 tm c = some (.v (.bool (decide p))) := by rfl) : (Code.cond (.tmp c) x y).wp P Q a w := aa1 G _ h (fun q => t q (T7 q)) fun q => f q (T8 q)
end
section
variable {P : Program} {f : FuncId}
theorem ar7 {args : List AV} {S : List It} {x : Value} (h : ∀ (φ : Nat → Prop) (w : World) (ρ : Nat → Value), (∀ i d, l8 S i = .dat d → RD w φ d (ρ i)) → Calls P f (AV.vals ρ args).toArray w fun e w' => e = .returned x ∧ Below w.heap.size w w') : j5.ok P (X8 f args S (.v x)) := by
 intro ι φ ψ w0 w F ρ M
 refine (h (R1 φ (l0 F ρ (l8 S))) w ρ fun i d hi => M.datAt hi).mono ?_
 rintro e w' ⟨rfl, hb⟩
 exact ⟨ρ, fun _ _ => rfl, rfl, M.call hb⟩
end
theorem Z4 (n lo hi : Int) : j5.ok Try.prog (X8 69 [iA n, iA lo, iA hi] [] (bA (decide (lo ≤ n) && decide (n ≤ hi)))) :=
 ar7 fun φ w ρ _ => (A1 n lo hi w).mono fun e w' h => ⟨h.1, h.2 ▸ Below.refl _ _⟩
theorem aj3 (p : j8) : j5.ok Try.prog (X8 73 [pA 0] (pS p) (bA (D4 p.vars p.arrays))) :=
 ar7 fun φ w ρ h => af5 (ρ 0) (ρ 1) (ρ 2) _ _ w (v6.row (h 0 _ rfl)) (v6.row (h 1 _ rfl))
mutual
theorem bE8 : ∀ s : c6, nS s ≤ 1 + szS s
 | ⟨_, _, _, _, _, b, e⟩ => by
  have h1 := aD3 b
  have h2 := aD3 e
  simp only [nS, szS]; omega
theorem aD3 : ∀ ss : List c6, nSs ss ≤ t0 ss
 | [] => bS5 _
 | s :: r => by
  have h1 := bE8 s
  have h2 := aD3 r
  simp only [nSs, t0]; omega
end
theorem ar9 (a b : List c6) : nSs (a ++ b) = nSs a + nSs b := by
 induction a with
 | nil => simp [nSs]
 | cons x r ih => simp [nSs, ih]; omega
theorem aD4 (s : c6) : nS s = 1 + nSs s.body + nSs s.els := by cases s; simp only [nS]; rfl
theorem U9 {nv na d : Nat} {s : c6} (h : l6 nv na (d + 1) s = true) : s.body.all (l6 nv na d) = true ∧ s.els.all (l6 nv na d) = true := by
 rw [l6, bR6] at h
 obtain ⟨h1, h2⟩ := h
 unfold n4 at h1
 by_cases k3 : s.kind = 3
 ·rw [if_neg (by omega), if_neg (by omega), if_pos k3] at h2
  simp only [bR6] at h2
  exact ⟨h2.1.2, h2.2⟩
 by_cases k4 : s.kind = 4
 ·rw [if_neg (by omega), if_neg (by omega), if_neg (by omega), if_pos k4] at h2
  rw [if_pos (.inr k4), if_pos k4] at h1
  simp only [bR6, decide_eq_true_eq] at h1
  exact ⟨h2, by rw [bU3 h1.2.1.1.1.1]; rfl⟩
 ·rw [if_neg (by omega)] at h1
  simp only [bR6, decide_eq_true_eq] at h1
  exact ⟨by rw [bU3 h1.1.1.1]; rfl, by rw [bU3 h1.1.1.2]; rfl⟩
theorem ay1 (s : c6) : t0 s.body ≤ szS s ∧ t0 s.els ≤ szS s := by
 rcases s with ⟨_, _, _, _, _, b, e⟩
 simp only [szS, c6.body, c6.els]
 omega
theorem aM1 {nv na : Nat} : ∀ {ss : List c6}, (∀ s ∈ ss, l6 nv na 1 s = true) → nSs ss = ss.length
 | [], _ => rfl
 | s :: r, h => by
  have h1 := U9 (h s bU5)
  have key : ∀ l : List c6, l.all (l6 nv na 0) = true → l = [] := fun l hl => by
   cases l with
   | nil => rfl
   | cons a r => simp [l6] at hl
  have h2 := aM1 (ss := r) fun x hx => h x (bU4 _ hx)
  rw [nSs, aD4, key _ h1.1, key _ h1.2, h2]
  simp [nSs]; omega
def bj8 (x y : Int) : Int := IntKind.i64.wrap ((BitVec.ofInt (IntKind.bits .i64) x &&& BitVec.ofInt (IntKind.bits .i64) y).toNat : Int)
def aO9 (x y : Int) : Int := IntKind.i64.wrap ((BitVec.ofInt (IntKind.bits .i64) x ^^^ BitVec.ofInt (IntKind.bits .i64) y).toNat : Int)
theorem j5.dup {P : Program} {f : FuncId} {args args' : List AV} {S S' : List It} {d : D} {res : AV} {i : Nat} (hc : j5.ok P ⟨f, args, S ++ [.dat d], S' ++ [.dat d], res⟩) (hi : S[i]? = some (.dat d)) (hl : S'.length = S.length)
  (hS : S.all (fun x => Q6 S.length x.ids) = true) (ha : ∀ ρ : Nat → Value, ρ S.length = ρ i → AV.vals ρ args = AV.vals ρ args') (hg : Q6 S.length (AV.idsL args') = true) : j5.ok P ⟨f, args', S, S', res⟩ := by
 intro ι φ ψ w0 w F ρ M
 have hi' : l8 S i = .dat d := by simp [l8, hi]
 have hlt : i < S.length := (bS0.1 hi).1
 have hinv : Inv (l8 S) ρ [S.length] := fun ρ' h j => by
  by_cases hj : j < S.length
  ·refine It.res_congr _ (fun k hk => h k ?_) (.inr (.inr (h j (by simp; omega))))
   have h1 := B8 (bS2.1 hS (S[j]) (bS9 hj)) k (by simpa [l8, bR7, bo2 hj] using hk)
   simp; omega
  ·rw [show l8 S j = .none by simp only [l8, bR7, bT2 (Nat.le_of_not_lt hj)]; rfl]; rfl
 obtain ⟨ρ', h1, M1, h2⟩ := M.newDat (id := S.length) (by simp [l8]) hinv (M.datAt hi')
 have e : l5 (l8 S) [(S.length, .dat d)] = l8 (S ++ [.dat d]) := by
  funext j
  simp only [l5, l8, bR7]
  by_cases hj : j = S.length
  ·subst hj; simp
  ·rw [if_neg hj]
   by_cases hj2 : j < S.length
   ·rw [bT3 hj2]
   ·rw [bT2 (by omega), bT2 (by simp; omega)]
 rw [e] at M1
 have hρ : ρ' i = ρ i := h1 i (by simp; omega)
 have ea : AV.vals ρ args' = AV.vals ρ' args := by
  rw [ha ρ' (by rw [← h2, hρ])]
  exact (AV.vals_congr _ fun k hk => by
   have := B8 hg k hk
   exact h1 k (by simp; omega)).symm
 simp only
 rw [ea]
 refine (hc ι φ ψ w0 w F ρ' M1).mono ?_
 rintro x w' ⟨ρ2, g1, g2, M2⟩
 refine ⟨ρ2, fun k hk => ?_, g2, ?_⟩
 ·rw [g1 k (by simp; omega)]; exact h1 k (by simp; omega)
 ·refine M2.map (fun k => match k with | .inl i => some (.inl i) | .inr j => if j < S'.length then some (.inr j) else none) ?_ ?_
  ·intro k k' x h1 h2
   match k, k' with
   | .inl i, .inl i' => simp at h1 h2; rw [h1, h2]
   | .inl i, .inr j => simp at h1; subst h1; simp at h2
   | .inr j, .inl i => simp at h2; subst h2; simp at h1
   | .inr j, .inr j' => simp at h1 h2; rw [← h1.2] at h2; rw [Sum.inr.inj h2.2]
  ·intro k
   match k with
   | .inl i => exact .inl ⟨.inl i, rfl, rfl⟩
   | .inr j =>
    by_cases hj : j < S'.length
    ·refine .inl ⟨.inr j, by simp [hj], ?_⟩
     simp only [l0, l8, bR7, bT3 hj]
    ·refine .inr ?_
     simp only [l0, l8, bR7, bT2 (Nat.le_of_not_lt hj)]
     rfl
def pkX (b : List UInt8) (k : Int) : Int := ((b.getD (k.tmod b.length).toNat 0).toNat : Int) * 131 + ((b.getD ((k * 7 + 3).tmod b.length).toNat 0).toNat : Int) * 1117 + k * 29 + k.tdiv b.length * 53
def pk (b : List UInt8) (k n : Int) : Int :=
 if n < 1 ∨ b.length = 0 then 0 else if k < b.length then ((b.getD k.toNat 0).toNat : Int).tmod n else (aO9 (pkX b k) ((pkX b k).tdiv 64)).tmod n
def nm (b : List UInt8) (k : Int) (l : List Int) : Int := l.getD (pk b k l.length).toNat 0
theorem bk1 {x y : Int} (hx : 0 ≤ x) (hx2 : x < 9223372036854775808) (hy : 0 ≤ y) (hy2 : y < 9223372036854775808) : 0 ≤ aO9 x y := by
 obtain ⟨a, rfl⟩ := Int.eq_ofNat_of_zero_le hx
 obtain ⟨c, rfl⟩ := Int.eq_ofNat_of_zero_le hy
 have ha : a < 2 ^ 63 := by omega
 have hc : c < 2 ^ 63 := by omega
 have h : (BitVec.ofInt (IntKind.bits .i64) (a : Int) ^^^ BitVec.ofInt (IntKind.bits .i64) (c : Int)).toNat < 2 ^ 63 := by
  rw [BitVec.toNat_xor]
  refine Nat.xor_lt_two_pow ?_ ?_
  ·simp only [BitVec.ofInt_natCast, BitVec.toNat_ofNat, IntKind.bits]; omega
  ·simp only [BitVec.ofInt_natCast, BitVec.toNat_ofNat, IntKind.bits]; omega
 unfold aO9
 generalize (BitVec.ofInt (IntKind.bits .i64) (a : Int) ^^^ BitVec.ofInt (IntKind.bits .i64) (c : Int)).toNat = z at h ⊢
 rw [w64 (by omega) (by omega)]
 omega
theorem aH9 (x : UInt8) : ((x.toNat : Nat) : Int) ≤ 255 := by have := x.toNat_lt; omega
theorem aI2 {k n : Int} (hk : 0 ≤ k) (hn : 1 ≤ n) : 0 ≤ k.tdiv n ∧ k.tdiv n ≤ k := by
 refine ⟨Int.tdiv_nonneg hk (by omega), ?_⟩
 rw [Int.tdiv_eq_ediv_of_nonneg hk]
 exact Int.ediv_le_self _ hk
theorem aK2 {b : List UInt8} {k : Int} (hk : 0 ≤ k) (hk2 : k ≤ 1000000000) (hb : b.length ≠ 0) : 0 ≤ pkX b k ∧ pkX b k ≤ 100000000000 := by
 unfold pkX
 have h1 := aH9 (b.getD (k.tmod b.length).toNat 0)
 have h2 := aH9 (b.getD ((k * 7 + 3).tmod b.length).toNat 0)
 have h3 := aI2 (n := b.length) hk (by omega)
 omega
theorem aP2 {x n : Int} (hx : 0 ≤ x) (hn : 1 ≤ n) : 0 ≤ x.tmod n ∧ x.tmod n < n := ⟨Int.tmod_nonneg _ hx, Int.tmod_lt_of_pos _ (by omega)⟩
theorem bt5 {b : List UInt8} {k : Int} (hk : 0 ≤ k) (hk2 : k ≤ 1000000000) (hb : b.length ≠ 0) : 0 ≤ (pkX b k).tdiv 64 ∧ (pkX b k).tdiv 64 ≤ 100000000000 := by
 have h := aK2 hk hk2 hb
 have h2 := aI2 (n := 64) h.1 (by omega)
 omega
theorem bo0 (b : List UInt8) {k n : Int} (hk : 0 ≤ k) (hk2 : k ≤ 1000000000) (hn : 1 ≤ n) : 0 ≤ pk b k n ∧ pk b k n < n := by
 unfold pk
 split
 ·omega
 ·split
  ·exact aP2 (by omega) hn
  ·have h := aK2 hk hk2 (show b.length ≠ 0 by omega)
   have h2 := bt5 hk hk2 (show b.length ≠ 0 by omega)
   exact aP2 (bk1 h.1 (by omega) h2.1 (by omega)) hn
theorem aZ9 (b : List UInt8) {k : Int} (hk : 0 ≤ k) (hk2 : k ≤ 1000000000) {l : List Int} (hl : l ≠ []) : 0 ≤ pk b k l.length ∧ pk b k l.length < l.length ∧ (pk b k l.length).toNat < l.length := by
 have h0 : 0 < l.length := List.length_pos_iff.2 hl
 have h := bo0 b (n := l.length) hk hk2 (by omega)
 omega
theorem ad3 (b : List UInt8) {k : Int} (hk : 0 ≤ k) (hk2 : k ≤ 1000000000) {l : List Int} (hl : l ≠ []) : nm b k l ∈ l := by
 unfold nm
 rw [o5 (aZ9 b hk hk2 hl).2.2]
 exact bS9 _
def D9 {α : Type} (f : Int → α × Int) : Nat → Int → List α × Int
 | 0, k => ([], k)
 | n + 1, k => ((D9 f n k).1 ++ [(f (D9 f n k).2).1], (f (D9 f n k).2).2)
theorem aE7 {α : Type} (f : Int → α × Int) (n : Nat) (k : Int) : (D9 f n k).1.length = n := by
 induction n with
 | zero => rfl
 | succ n ih => simp [D9, ih]
theorem bg6 {α : Type} {f : Int → α × Int} {c : Int} (hc : 0 ≤ c) {m : Nat} : ∀ (n : Nat) (k : Int), n ≤ m → (∀ j, k ≤ j → j ≤ k + m * c → j ≤ (f j).2 ∧ (f j).2 ≤ j + c) → k ≤ (D9 f n k).2 ∧ (D9 f n k).2 ≤ k + n * c := by
 intro n
 induction n with
 | zero => intro k _ _; simp [D9]
 | succ n ih =>
  intro k hm h
  have h1 := ih k (by omega) h
  have e : ((n + 1 : Nat) : Int) * c = n * c + c := by rw [Int.natCast_add, Int.add_mul]; simp
  have h3 : ((n + 1 : Nat) : Int) * c ≤ m * c := bV4 (by omega) hc
  have h2 := h (D9 f n k).2 h1.1 (by omega)
  simp only [D9]
  rw [e]
  omega
theorem bq1 {α : Type} {f : Int → α × Int} {Q : α → Prop} (h : ∀ j, Q (f j).1) (n : Nat) (k : Int) : ∀ x ∈ (D9 f n k).1, Q x := by
 induction n with
 | zero => intro x hx; cases hx
 | succ n ih =>
  intro x hx
  simp only [D9, bS7, bU1] at hx
  rcases hx with hx | rfl
  ·exact ih x hx
  ·exact h _
abbrev atL : List Int := [1] ++ ([0] ++ ([2] ++ ([3] ++ ([255] ++ ([7] ++ ([128] ++ []))))))
def m7 (b : List UInt8) (nv : Int) (k : Int) : c8 := if pk b k 3 = 0 then ⟨1, nm b (k + 1) atL, []⟩ else ⟨2, pk b (k + 1) nv, []⟩
abbrev J4 : List Int := [4] ++ ([10] ++ ([8] ++ ([9] ++ ([3] ++ ([6] ++ ([7] ++ ([5] ++ ([11] ++ []))))))))
def H5 (b : List UInt8) (nv na : Int) : Nat → Int → c8 × Int
 | 0, k => (m7 b nv k, k + 2)
 | d + 1, k => if d = 0 then (m7 b nv k, k + 2) else if pk b k 4 = 0 then (m7 b nv (k + 1), k + 3)
  else if nm b (k + 1) J4 = 3 then (if na = 0 then (m7 b nv (k + 2), k + 4) else (⟨3, pk b (k + 2) na, [m7 b nv (k + 3)]⟩, k + 5))
  else (⟨nm b (k + 1) J4, 0, (D9 (H5 b nv na d) (r8 (nm b (k + 1) J4)).toNat (k + 2)).1⟩, (D9 (H5 b nv na d) (r8 (nm b (k + 1) J4)).toNat (k + 2)).2)
def cE : Nat → Int
 | 0 => 2
 | d + 1 => 5 + 3 * cE d
theorem av2 (d : Nat) : 2 ≤ cE d := by
 induction d with
 | zero => exact Int.le_refl _
 | succ d ih => simp only [cE]; omega
theorem ar3 (k : Int) : (r8 k).toNat ≤ 3 := by unfold r8; (repeat' split) <;> decide
theorem aM7 (b : List UInt8) (nv na : Int) : ∀ (d : Nat) (k : Int), k ≤ (H5 b nv na d k).2 ∧ (H5 b nv na d k).2 ≤ k + cE d
 | 0, k => by simp only [H5, cE]; omega
 | d + 1, k => by
  have hc := av2 d
  rw [H5]
  simp only [cE]
  split
  ·simp only; omega
  ·split
   ·simp only; omega
   ·split
    ·split <;> (simp only; omega)
    ·have h3 := ar3 (nm b (k + 1) J4)
     have h := bg6 (f := H5 b nv na d) (c := cE d) (m := 3) (by omega) (r8 (nm b (k + 1) J4)).toNat (k + 2) h3 fun j _ _ => aM7 b nv na d j
     have h4 : ((r8 (nm b (k + 1) J4)).toNat : Int) * cE d ≤ 3 * cE d := bV4 (by omega) (by omega)
     simp only
     omega
theorem aX5 {c : Nat} : ∀ {l : List c8}, (∀ x ∈ l, O2 x ≤ c) → K7 l ≤ l.length * (1 + c)
 | [], _ => bU8 _
 | e :: r, h => by
  have h1 := h e (bU5 ..)
  have h2 := aX5 (l := r) fun x hx => h x (bU4 _ hx)
  simp only [K7, bS1]
  rw [Nat.add_mul]
  omega
theorem bg7 (b : List UInt8) (nv na : Int) : ∀ (d : Nat) (k : Int), (O2 (H5 b nv na d k).1 : Int) ≤ cE d
 | 0, k => by
  simp only [H5, cE, m7]
  split <;> simp [O2, K7]
 | d + 1, k => by
  have hc := av2 d
  have ha : ∀ j, O2 (m7 b nv j) = 0 := fun j => by unfold m7; split <;> rfl
  rw [H5]
  simp only [cE]
  split
  ·simp only [ha]; omega
  ·split
   ·simp only [ha]; omega
   ·split
    ·split
     ·simp only [ha]; omega
     ·simp only [O2, K7, ha]; omega
    ·have h3 := ar3 (nm b (k + 1) J4)
     have h1 := bq1 (f := H5 b nv na d) (Q := fun x => O2 x ≤ (cE d).toNat) (fun j => by have := bg7 b nv na d j; omega) (r8 (nm b (k + 1) J4)).toNat (k + 2)
     have h2 := aX5 h1
     rw [aE7] at h2
     simp only [O2]
     have h4 := bU6 (1 + (cE d).toNat) h3
     omega
abbrev dpL : List Int := [2] ++ ([3] ++ ([2] ++ ([1] ++ ([4] ++ []))))
def t4 (b : List UInt8) (nv na : Nat) (k : Int) : c8 × Int :=
 if n9 nv na (H5 b nv na (nm b k dpL).toNat (k + 1)).1 = true then H5 b nv na (nm b k dpL).toNat (k + 1)
 else (m7 b nv (H5 b nv na (nm b k dpL).toNat (k + 1)).2, (H5 b nv na (nm b k dpL).toNat (k + 1)).2 + 2)
theorem cE4 {d : Nat} (h : d ≤ 4) : cE d ≤ 364 := by
 match d, h with
 | 0, _ => decide
 | 1, _ => decide
 | 2, _ => decide
 | 3, _ => decide
 | 4, _ => decide
theorem dp4 (b : List UInt8) {k : Int} (hk : 0 ≤ k) (hk2 : k ≤ 1000000000) : 1 ≤ nm b k dpL ∧ nm b k dpL ≤ 4 ∧ (nm b k dpL).toNat ≤ 4 := by
 have h := ad3 b hk hk2 (l := dpL) (by simp)
 simp only [bS7, bU2, List.not_mem_nil, or_false] at h
 omega
theorem bz7 (b : List UInt8) {k : Int} (hk : 0 ≤ k) (hk2 : k ≤ 1000000000) : nm b k dpL = ((nm b k dpL).toNat : Int) := by have := dp4 b hk hk2; omega
theorem aY1 (b : List UInt8) (nv na : Nat) {k : Int} (hk : 0 ≤ k) (hk2 : k ≤ 1000000000) : k ≤ (t4 b nv na k).2 ∧ (t4 b nv na k).2 ≤ k + 367 := by
 have h := aM7 b nv na (nm b k dpL).toNat (k + 1)
 have h2 := cE4 (dp4 b hk hk2).2.2
 unfold t4
 split
 ·omega
 ·simp only; omega
theorem aO0 (b : List UInt8) (nv j : Int) : O2 (m7 b nv j) = 0 := by unfold m7; split <;> rfl
theorem aP8 (b : List UInt8) (nv na : Nat) {k : Int} (hk : 0 ≤ k) (hk2 : k ≤ 1000000000) : O2 (t4 b nv na k).1 ≤ 364 := by
 have h := bg7 b nv na (nm b k dpL).toNat (k + 1)
 have h2 := cE4 (dp4 b hk hk2).2.2
 unfold t4
 split
 ·omega
 ·rw [aO0]; omega
abbrev noE : c8 := ⟨0, 0, []⟩
abbrev G7 : List Int := [1] ++ ([1] ++ ([2] ++ ([3] ++ ([4] ++ ([1] ++ ([3] ++ ([5] ++ [])))))))
abbrev ibL : List Int := [1] ++ ([2] ++ ([1] ++ ([0] ++ [])))
abbrev ieL : List Int := [0] ++ ([1] ++ ([0] ++ ([2] ++ [])))
abbrev rcL : List Int := [2] ++ ([1] ++ ([3] ++ []))
abbrev rbL : List Int := [1] ++ ([2] ++ ([1] ++ []))
def dfS (b : List UInt8) (nv na : Nat) (kd k : Int) : c6 × Int := (⟨if kd = 5 then 5 else 1, pk b k nv, noE, (t4 b nv na (k + 1)).1, 0, [], []⟩, (t4 b nv na (k + 1)).2)
def soS (b : List UInt8) (nv na : Nat) (k : Int) : c6 × Int := (⟨2, pk b k na, m7 b nv (k + 1), (t4 b nv na (k + 1 + 2)).1, 0, [], []⟩, (t4 b nv na (k + 1 + 2)).2)
def mnD (b : List UInt8) (f : Int → c6 × Int) (l : List Int) (k : Int) : List c6 × Int := D9 f (nm b k l).toNat (k + 1)
def ifS (b : List UInt8) (nv na : Nat) (f : Int → c6 × Int) (k : Int) : c6 × Int :=
 (⟨3, 0, noE, (t4 b nv na k).1, 0, (mnD b f ibL (t4 b nv na k).2).1, (mnD b f ieL (mnD b f ibL (t4 b nv na k).2).2).1⟩, (mnD b f ieL (mnD b f ibL (t4 b nv na k).2).2).2)
def rpS (b : List UInt8) (f : Int → c6 × Int) (k : Int) : c6 × Int := (⟨4, 0, noE, noE, nm b k rcL, (mnD b f rbL (k + 1)).1, []⟩, (mnD b f rbL (k + 1)).2)
def z4 (b : List UInt8) (nv na : Nat) : Nat → Int → c6 × Int
 | 0, k => if nm b k G7 = 2 ∧ na ≠ 0 then soS b nv na (k + 1) else dfS b nv na (nm b k G7) (k + 1)
 | d + 1, k => if nm b k G7 = 2 ∧ na ≠ 0 then soS b nv na (k + 1) else if nm b k G7 = 3 ∧ d ≠ 0 then ifS b nv na (z4 b nv na d) (k + 1) else if nm b k G7 = 4 ∧ d ≠ 0 then rpS b (z4 b nv na d) (k + 1)
  else dfS b nv na (nm b k G7) (k + 1)
def cS : Nat → Int
 | 0 => 402
 | d + 1 => 402 + 4 * cS d
theorem al8 (d : Nat) : 402 ≤ cS d := by
 induction d with
 | zero => exact Int.le_refl _
 | succ d ih => simp only [cS]; omega
section
variable (b : List UInt8) (nv na : Nat) {k : Int}
theorem bu2 (kd : Int) (hk : 0 ≤ k) (hk2 : k + 400 ≤ 1000000000) : k ≤ (dfS b nv na kd k).2 ∧ (dfS b nv na kd k).2 ≤ k + 368 := by
 have h := aY1 b nv na (k := k + 1) (by omega) (by omega)
 simp only [dfS]; omega
theorem bs4 (hk : 0 ≤ k) (hk2 : k + 400 ≤ 1000000000) : k ≤ (soS b nv na k).2 ∧ (soS b nv na k).2 ≤ k + 370 := by
 have h := aY1 b nv na (k := k + 1 + 2) (by omega) (by omega)
 simp only [soS]; omega
theorem nm2 {l : List Int} (hl : l ≠ []) (h : ∀ x ∈ l, 0 ≤ x ∧ x ≤ 2) (hk : 0 ≤ k) (hk2 : k ≤ 1000000000) : (nm b k l).toNat ≤ 2 ∧ nm b k l = ((nm b k l).toNat : Int) := by
 have := h _ (ad3 b hk hk2 hl); omega
theorem be3 {f : Int → c6 × Int} {c : Int} {l : List Int} (hl : l ≠ []) (h : ∀ x ∈ l, 0 ≤ x ∧ x ≤ 2) (hc : 0 ≤ c) (hk : 0 ≤ k) (hk2 : k + 1 + 2 * c ≤ 1000000000) (hf : ∀ j, 0 ≤ j → j + c ≤ 1000000000 → j ≤ (f j).2 ∧ (f j).2 ≤ j + c) : k ≤ (mnD b f l k).2 ∧ (mnD b f l k).2 ≤ k + 1 + 2 * c := by
 have h2 := (nm2 b hl h hk (by omega)).1
 have h3 : ∀ m : Nat, m ≤ 2 → k + 1 ≤ (D9 f m (k + 1)).2 ∧ (D9 f m (k + 1)).2 ≤ k + 1 + m * c := by
  intro m
  induction m with
  | zero => intro _; simp [D9]
  | succ m ih =>
   intro hm
   have h4 := ih (by omega)
   have h6 : (m : Int) * c ≤ 1 * c := bV4 (by omega) hc
   have h5 := hf (D9 f m (k + 1)).2 (by omega) (by omega)
   have e : ((m + 1 : Nat) : Int) * c = m * c + c := by rw [Int.natCast_add, Int.add_mul]; simp
   simp only [D9]
   rw [e]
   omega
 have h4 := h3 _ h2
 have h6 : ((nm b k l).toNat : Int) * c ≤ 2 * c := bV4 (by omega) hc
 unfold mnD
 omega
theorem aT2 : ∀ x : Int, x ∈ ibL → 0 ≤ x ∧ x ≤ 2 := by intro x hx; simp only [bS7, bU2, List.not_mem_nil, or_false] at hx; omega
theorem aT0 : ∀ x : Int, x ∈ ieL → 0 ≤ x ∧ x ≤ 2 := by intro x hx; simp only [bS7, bU2, List.not_mem_nil, or_false] at hx; omega
theorem aR0 : ∀ x : Int, x ∈ rbL → 0 ≤ x ∧ x ≤ 2 := by intro x hx; simp only [bS7, bU2, List.not_mem_nil, or_false] at hx; omega
theorem bt9 {f : Int → c6 × Int} {c : Int} (hc : 0 ≤ c) (hk : 0 ≤ k) (hk2 : k + 380 + 4 * c ≤ 1000000000) (hf : ∀ j, 0 ≤ j → j + c ≤ 1000000000 → j ≤ (f j).2 ∧ (f j).2 ≤ j + c) : k ≤ (t4 b nv na k).2 ∧ (t4 b nv na k).2 ≤ k + 367 ∧ (t4 b nv na k).2 ≤ (mnD b f ibL (t4 b nv na k).2).2 ∧ (mnD b f ibL (t4 b nv na k).2).2 ≤ k + 370 + 2 * c ∧ k ≤ (ifS b nv na f k).2 ∧ (ifS b nv na f k).2 ≤ k + 380 + 4 * c := by
 have h1 := aY1 b nv na (k := k) (by omega) (by omega)
 have h2 := be3 b (k := (t4 b nv na k).2) (f := f) (c := c) (l := ibL) (by simp) aT2 hc (by omega) (by omega) hf
 have h3 := be3 b (k := (mnD b f ibL (t4 b nv na k).2).2) (f := f) (c := c) (l := ieL) (by simp) aT0 hc (by omega) (by omega) hf
 simp only [ifS]
 omega
theorem bD6 {f : Int → c6 × Int} {c : Int} (hc : 0 ≤ c) (hk : 0 ≤ k) (hk2 : k + 10 + 2 * c ≤ 1000000000) (hf : ∀ j, 0 ≤ j → j + c ≤ 1000000000 → j ≤ (f j).2 ∧ (f j).2 ≤ j + c) : k ≤ (rpS b f k).2 ∧ (rpS b f k).2 ≤ k + 10 + 2 * c := by
 have h2 := be3 b (k := k + 1) (f := f) (c := c) (l := rbL) (by simp) aR0 hc (by omega) (by omega) hf
 simp only [rpS]; omega
theorem aI5 : ∀ (d : Nat) (k : Int), 0 ≤ k → k + cS d ≤ 1000000000 → k ≤ (z4 b nv na d k).2 ∧ (z4 b nv na d k).2 ≤ k + cS d
 | 0, k, hk, hk2 => by
  rw [z4]
  simp only [cS] at hk2 ⊢
  have h1 := bs4 b nv na (k := k + 1) (by omega) (by omega)
  have h2 := bu2 b nv na (k := k + 1) (nm b k G7) (by omega) (by omega)
  split <;> omega
 | d + 1, k, hk, hk2 => by
  rw [z4]
  simp only [cS] at hk2 ⊢
  have hc := al8 d
  have ih := aI5 d
  have h1 := bs4 b nv na (k := k + 1) (by omega) (by omega)
  have h2 := bu2 b nv na (k := k + 1) (nm b k G7) (by omega) (by omega)
  have h3 := bt9 b nv na (k := k + 1) (f := z4 b nv na d) (c := cS d) (by omega) (by omega) (by omega) ih
  have h4 := bD6 b (k := k + 1) (f := z4 b nv na d) (c := cS d) (by omega) (by omega) (by omega) ih
  (repeat' split) <;> omega
theorem aR9 : O2 noE = 0 := rfl
theorem bg8 (kd : Int) (hk : 0 ≤ k) (hk2 : k + 400 ≤ 1000000000) : szS (dfS b nv na kd k).1 ≤ 364 := by
 have h := aP8 b nv na (k := k + 1) (by omega) (by omega)
 simp only [dfS, szS, t0, aR9]; omega
theorem a99 (hk : 0 ≤ k) (hk2 : k + 400 ≤ 1000000000) : szS (soS b nv na k).1 ≤ 364 := by
 have h := aP8 b nv na (k := k + 1 + 2) (by omega) (by omega)
 simp only [soS, szS, t0, aO0]; omega
def Drw (f : Int → c6 × Int) (c : Int) : Prop := ∀ j, 0 ≤ j → j + c ≤ 1000000000 → j ≤ (f j).2 ∧ (f j).2 ≤ j + c ∧ (szS (f j).1 : Int) ≤ c
theorem aE6 {f : Int → c6 × Int} {c : Int} (hc : 0 ≤ c) (hf : Drw f c) : ∀ (m : Nat) (k : Int), 0 ≤ k → k + m * c ≤ 1000000000 → k ≤ (D9 f m k).2 ∧ (D9 f m k).2 ≤ k + m * c ∧ (t0 (D9 f m k).1 : Int) ≤ m * (1 + c) := by
 intro m
 induction m with
 | zero => intro k _ _; simp [D9, t0]
 | succ m ih =>
  intro k hk hk2
  have e : ((m + 1 : Nat) : Int) * c = m * c + c := by rw [Int.natCast_add, Int.add_mul]; simp
  have e2 : ((m + 1 : Nat) : Int) * (1 + c) = m * (1 + c) + (1 + c) := by rw [Int.natCast_add, Int.add_mul]; simp
  rw [e] at hk2
  have h4 := ih k hk (by omega)
  have h5 := hf (D9 f m k).2 (by omega) (by omega)
  have h6 : t0 ((D9 f m k).1 ++ [(f (D9 f m k).2).1]) = t0 (D9 f m k).1 + (1 + szS (f (D9 f m k).2).1) := by
   generalize (D9 f m k).1 = l
   induction l with
   | nil => simp [t0]
   | cons a r ih => simp only [List.cons_append, t0]; omega
  simp only [D9]
  rw [e, e2, h6]
  omega
theorem aS2 {f : Int → c6 × Int} {c : Int} {l : List Int} (hl : l ≠ []) (h : ∀ x ∈ l, 0 ≤ x ∧ x ≤ 2) (hc : 0 ≤ c) (hk : 0 ≤ k) (hk2 : k + 1 + 2 * c ≤ 1000000000) (hf : Drw f c) : (t0 (mnD b f l k).1 : Int) ≤ 2 * (1 + c) := by
 have h2 := (nm2 b hl h hk (by omega)).1
 have h6 : ((nm b k l).toNat : Int) * c ≤ 2 * c := bV4 (by omega) hc
 have h7 : ((nm b k l).toNat : Int) * (1 + c) ≤ 2 * (1 + c) := bV4 (by omega) (by omega)
 have h3 := (aE6 hc hf (nm b k l).toNat (k + 1) (by omega) (by omega)).2.2
 unfold mnD
 omega
theorem aP7 : ∀ (d : Nat) (k : Int), 0 ≤ k → k + cS d ≤ 1000000000 → (szS (z4 b nv na d k).1 : Int) ≤ cS d
 | 0, k, hk, hk2 => by
  rw [z4]
  simp only [cS] at hk2 ⊢
  have h1 := a99 b nv na (k := k + 1) (by omega) (by omega)
  have h2 := bg8 b nv na (k := k + 1) (nm b k G7) (by omega) (by omega)
  split <;> omega
 | d + 1, k, hk, hk2 => by
  rw [z4]
  simp only [cS] at hk2 ⊢
  have hc := al8 d
  have ih := aI5 b nv na d
  have hf : Drw (z4 b nv na d) (cS d) := fun j h1 h2 => ⟨(ih j h1 h2).1, (ih j h1 h2).2, aP7 d j h1 h2⟩
  have h1 := a99 b nv na (k := k + 1) (by omega) (by omega)
  have h2 := bg8 b nv na (k := k + 1) (nm b k G7) (by omega) (by omega)
  have h3 := bt9 b nv na (k := k + 1) (f := z4 b nv na d) (c := cS d) (by omega) (by omega) (by omega) ih
  have h4 := aP8 b nv na (k := k + 1) (by omega) (by omega)
  have h5 := aS2 b (k := (t4 b nv na (k + 1)).2) (l := ibL) (by simp) aT2 (by omega) (by omega) (by omega) hf
  have h6 := aS2 b (k := (mnD b (z4 b nv na d) ibL (t4 b nv na (k + 1)).2).2) (l := ieL) (by simp) aT0 (by omega) (by omega) (by omega) hf
  have h7 := aS2 b (k := k + 1 + 1) (l := rbL) (by simp) aR0 (by omega) (by omega) (by omega) hf
  split
  ·omega
  ·split
   ·simp only [ifS, szS, aR9]; omega
   ·split
    ·simp only [rpS, szS, aR9, t0]; omega
    ·omega
theorem bH3 (d : Nat) : Drw (z4 b nv na d) (cS d) := fun j h1 h2 => ⟨(aI5 b nv na d j h1 h2).1, (aI5 b nv na d j h1 h2).2, aP7 b nv na d j h1 h2⟩
theorem bu7 {d m i : Nat} {B : Int} (hB : (m : Int) * cS d ≤ B) (hi : i ≤ m) (hk : 0 ≤ k) (hk2 : k + B ≤ 1000000000) : k ≤ (D9 (z4 b nv na d) i k).2 ∧ (D9 (z4 b nv na d) i k).2 ≤ k + B := by
 have hc := al8 d
 have h6 : (i : Int) * cS d ≤ m * cS d := bV4 (by omega) (by omega)
 have h := aE6 (by omega) (bH3 b nv na d) i k hk (by omega)
 omega
theorem bJ3 {d m i : Nat} {B : Int} (hB : (m : Int) * cS d ≤ B) (hi : i < m) (hk : 0 ≤ k) (hk2 : k + B ≤ 1000000000) : (D9 (z4 b nv na d) i k).2 + cS d ≤ k + B := by
 have hc := al8 d
 have h6 : ((i + 1 : Nat) : Int) * cS d ≤ m * cS d := bV4 (by omega) (by omega)
 have e : ((i + 1 : Nat) : Int) * cS d = i * cS d + cS d := by rw [Int.natCast_add, Int.add_mul]; simp
 have h := aE6 (by omega) (bH3 b nv na d) i k hk (by omega)
 omega
theorem bE9 {m : Int} {c : Int} (h0 : 0 ≤ m) (hm : m ≤ 2) (hc : 0 ≤ c) : (m.toNat : Int) * c ≤ 2 * c := bV4 (by omega) hc
theorem bO5 {m : Int} {c : Int} (h0 : 0 ≤ m) (hm : m ≤ 4) (hc : 0 ≤ c) : (m.toNat : Int) * c ≤ 4 * c := bV4 (by omega) hc
end
theorem az0 (b : List UInt8) {k : Int} {l : List Int} {m : Int} (hl : l ≠ []) (h : ∀ x ∈ l, 0 ≤ x ∧ x ≤ m) (hk : 0 ≤ k) (hk2 : k ≤ 1000000000) : 0 ≤ nm b k l ∧ nm b k l ≤ m := h _ (ad3 b hk hk2 hl)
mutual
def AV.den (t : Bool) (n : Nat) : AV → AV
 | .v x => .v x
 | .ptr a b => .ptr a b
 | .ea a b c d => .ea a b c d
 | .ref i => if !t && natEq i n then .v (.slice none 0 0) else .ref i
 | .agg l => .agg (AV.denL t n l)
 | .tup l => .tup (AV.denL t n l)
 | .fn f l => .fn f (AV.denL t n l)
 | .bm f l => .bm f (AV.denL t n l)
 | .tref i => if t && natEq i n then .v (.slice none 0 0) else .tref i
def AV.denL (t : Bool) (n : Nat) : List AV → List AV
 | [] => []
 | x :: r => x.den t n :: AV.denL t n r
end
def It.den (t : Bool) (n : Nat) : It → It
 | .box cs => .box (AV.denL t n cs)
 | x => x
mutual
theorem AV.val_den {ρ : Nat → Value} {t : Bool} {n : Nat} {z : Value} (hz : if t then z3 z = .slice none 0 0 else z = .slice none 0 0) : ∀ (x : AV), (∀ i ∈ (x.den t n).ids, i < n) → x.val (fun j => if j = n then z else ρ j) = (x.den t n).val ρ ∧ ∀ i ∈ x.ids, i < n + 1
 | .v _, _ => ⟨rfl, fun i hi => by simp [AV.ids] at hi⟩
 | .ptr a b, h => by
  have ha : a < n := h a (by simp [AV.den, AV.ids])
  refine ⟨?_, fun i hi => by simp [AV.ids] at hi; omega⟩
  simp only [AV.den, AV.val]
  rw [if_neg (by omega)]
 | .ea a b c d, h => by
  have ha : a < n := h a (by simp [AV.den, AV.ids])
  refine ⟨?_, fun i hi => by simp [AV.ids] at hi; omega⟩
  simp only [AV.den, AV.val]
  rw [if_neg (by omega)]
 | .ref a, h => by
  by_cases e : t = false ∧ a = n
  ·obtain ⟨rfl, rfl⟩ := e
   refine ⟨?_, fun i hi => by simp [AV.ids] at hi; omega⟩
   simp only [Bool.false_eq_true, if_false] at hz
   simp [AV.den, AV.val, natEq, hz]
  ·have hd : (AV.ref a).den t n = .ref a := by
    simp only [AV.den]
    rw [if_neg]
    simp [natEq]; intro h1 h2; exact e ⟨h1, h2⟩
   rw [hd] at h ⊢
   have ha : a < n := h a (by simp [AV.ids])
   refine ⟨?_, fun i hi => by simp [AV.ids] at hi; omega⟩
   simp only [AV.val]
   rw [if_neg (by omega)]
 | .tref a, h => by
  by_cases e : t = true ∧ a = n
  ·obtain ⟨rfl, rfl⟩ := e
   refine ⟨?_, fun i hi => by simp [AV.ids] at hi; omega⟩
   simp only [if_true] at hz
   simp [AV.den, AV.val, natEq, hz]
  ·have hd : (AV.tref a).den t n = .tref a := by
    simp only [AV.den]
    rw [if_neg]
    simp [natEq]; intro h1 h2; exact e ⟨h1, h2⟩
   rw [hd] at h ⊢
   have ha : a < n := h a (by simp [AV.ids])
   refine ⟨?_, fun i hi => by simp [AV.ids] at hi; omega⟩
   simp only [AV.val]
   rw [if_neg (by omega)]
 | .agg l, h => by
  obtain ⟨h1, h2⟩ := AV.vals_den hz l (by simpa [AV.den, AV.ids] using h)
  exact ⟨by simp only [AV.den, AV.val]; rw [h1], by simpa [AV.ids] using h2⟩
 | .tup l, h => by
  obtain ⟨h1, h2⟩ := AV.vals_den hz l (by simpa [AV.den, AV.ids] using h)
  exact ⟨by simp only [AV.den, AV.val]; rw [h1], by simpa [AV.ids] using h2⟩
 | .fn f l, h => by
  obtain ⟨h1, h2⟩ := AV.vals_den hz l (by simpa [AV.den, AV.ids] using h)
  exact ⟨by simp only [AV.den, AV.val]; rw [h1], by simpa [AV.ids] using h2⟩
 | .bm f l, h => by
  obtain ⟨h1, h2⟩ := AV.vals_den hz l (by simpa [AV.den, AV.ids] using h)
  exact ⟨by simp only [AV.den, AV.val]; rw [h1], by simpa [AV.ids] using h2⟩
theorem AV.vals_den {ρ : Nat → Value} {t : Bool} {n : Nat} {z : Value} (hz : if t then z3 z = .slice none 0 0 else z = .slice none 0 0) : ∀ (l : List AV), (∀ i ∈ AV.idsL (AV.denL t n l), i < n) → AV.vals (fun j => if j = n then z else ρ j) l = AV.vals ρ (AV.denL t n l) ∧ ∀ i ∈ AV.idsL l, i < n + 1
 | [], _ => ⟨rfl, fun i hi => by simp [AV.idsL] at hi⟩
 | x :: r, h => by
  obtain ⟨h1, h2⟩ := AV.val_den hz x fun i hi => h i (by simp only [AV.denL, AV.idsL, bS7]; exact .inl hi)
  obtain ⟨h3, h4⟩ := AV.vals_den hz r fun i hi => h i (by simp only [AV.denL, AV.idsL, bS7]; exact .inr hi)
  refine ⟨by simp only [AV.denL, AV.vals]; rw [h1, h3], fun i hi => ?_⟩
  simp only [AV.idsL, bS7] at hi
  rcases hi with hi | hi
  ·exact h2 i hi
  ·exact h4 i hi
end
theorem as6 {m : Bool} {n : Nat} {t : Nat} {x : AV} : ∀ {tm : List (Nat × AV)}, w6 tm t = some x → w6 (tm.map fun p => (p.1, p.2.den m n)) t = some (x.den m n)
 | [], h => by cases h
 | (k, y) :: r, h => by
  simp only [w6, bU0] at h ⊢
  split at h
  ·rename_i e; cases h; rw [if_pos e]
  ·rename_i e; rw [if_neg e]; exact as6 h
section
variable {P : Program} {ι : Type} {φ ψ : Nat → Prop} {w0 w : World} {F : ι → Rs} {ρ ρ0 : Nat → Value} {N m n : Nat} {S : List It} {tm : List (Nat × AV)} {a : Act}
theorem s5.nilW (G : s5 φ ψ w0 F N m ρ0 ρ S tm a w) (n : Nat) (hn : S.length = n) (b : Bool) (x : It) (z : Value) (hz : if b then z3 z = .slice none 0 0 else z = .slice none 0 0) (hids : x.ids = []) (hb : ∀ g, ¬ (x.res (fun j => if j = n then z else ρ j) n).blk g)
  (hx : ∀ φ', (x.res (fun j => if j = n then z else ρ j) n).holds w φ') (S1 : List It) (tm1 : List (Nat × AV)) (hS : S = S1.map (It.den b n)) (ht : tm = tm1.map fun p => (p.1, p.2.den b n)) :
  ∃ ρ', s5 φ ψ w0 F N m ρ0 ρ' (S1 ++ [x]) tm1 a w := by
 have hl : S1.length = n := by rw [← hn, hS, List.length_map]
 have hat : ∀ j (hj : j < n), l8 S j = (S1[j]'(by omega)).den b n := fun j hj => by
  rw [ad4 (show j < S.length by omega)]
  have h1 := congrArg (·[j]?) hS
  simp only [List.getElem?_map, bo2 (show j < S.length by omega), bo2 (show j < S1.length by omega), Option.map_some, Option.some.injEq] at h1
  exact h1
 have hnew : ∀ j (hj : j < n), l8 (S1 ++ [x]) j = S1[j]'(by omega) := fun j hj => by
  simp [l8, bR7, bT3 (show j < S1.length by omega), bo2 (show j < S1.length by omega)]
 have hlast : l8 (S1 ++ [x]) n = x := by
  simp [l8, bR7, ← hl]
 have hout : ∀ j, n < j → l8 (S1 ++ [x]) j = .none := fun j hj => s4 (by simp; omega)
 have hbx : ∀ j (hj : j < n), ((S1[j]'(by omega)).res (fun j => if j = n then z else ρ j) j = (l8 S j).res ρ j) ∧ ∀ i ∈ (S1[j]'(by omega)).ids, i < n + 1 := fun j hj => by
  rw [hat j hj]
  have hb := (G.bd j).1
  rw [hat j hj, hn] at hb
  generalize S1[j]'(by omega) = x at *
  cases x with
  | box cs =>
   obtain ⟨h1, h2⟩ := AV.vals_den (ρ := ρ) (n := n) hz cs hb
   refine ⟨?_, h2⟩
   simp only [It.res, It.den]
   rw [h1, if_neg (show ¬ j = n by omega)]
  | none => exact ⟨rfl, fun i hi => by cases hi⟩
  | dead => exact ⟨rfl, fun i hi => by cases hi⟩
  | dat d' => exact ⟨by simp only [It.res, It.den]; rw [if_neg (show ¬ j = n by omega)], fun i hi => by cases hi⟩
  | row e' d' => exact ⟨by simp only [It.res, It.den]; rw [if_neg (show ¬ j = n by omega)], fun i hi => by cases hi⟩
  | tree d' => exact ⟨by simp only [It.res, It.den]; rw [if_neg (show ¬ j = n by omega)], fun i hi => by cases hi⟩
  | kept e' d' => exact ⟨by cases e' <;> (simp only [It.res, It.den]; rw [if_neg (show ¬ j = n by omega)]), fun i hi => by cases hi⟩
  | hole k q ls =>
   have hk : k < n := hb k (by simp [It.den, It.ids])
   exact ⟨by simp only [It.res, It.den]; rw [if_neg (show ¬ j = n by omega), if_neg (show ¬ k = n by omega)], fun i hi => by simp [It.ids] at hi; omega⟩
 have hw : ∀ t x, w6 tm1 t = some x → x.val (fun j => if j = n then z else ρ j) = (x.den b n).val ρ ∧ ∀ i ∈ x.ids, i < n + 1 := fun t x hx => by
  refine AV.val_den hz x fun i hi => ?_
  have h1 : w6 tm t = some (x.den b n) := by rw [ht]; exact as6 hx
  have := G.tmi t _ h1 i hi
  omega
 refine ⟨fun j => if j = n then z else ρ j, ?_⟩
 refine ⟨G.size, G.defs, fun t x hx => ?_, fun t x hx i hi => ?_, fun j => ⟨fun i hi => ?_, fun hj => s4 hj⟩, ?_, ?_, fun i hi => ?_⟩
 ·have h1 : w6 tm t = some (x.den b n) := by rw [ht]; exact as6 hx
  rw [(hw t x hx).1]; exact G.tmv t _ h1
 ·have := (hw t x hx).2 i hi
  simp; omega
 ·rcases Nat.lt_trichotomy j n with h | h | h
  ·rw [hnew j h] at hi
   have := (hbx j h).2 i hi
   simp; omega
  ·subst h; rw [hlast, hids] at hi; cases hi
  ·rw [hout j h] at hi; cases hi
 ·refine i6.put G.mem (.inr n) (fun k hk => ?_) (A3.refl _ _) ?_ ?_
  ·cases k with
   | inl i => rfl
   | inr j =>
    simp only [l0]
    rcases Nat.lt_trichotomy j n with h | h | h
    ·rw [hnew j h]; exact (hbx j h).1
    ·exact absurd (by rw [h]) hk
    ·rw [hout j h, s4 (show S.length ≤ j by omega)]; rfl
  ·simp only [l0, hlast]; exact hx _
  ·intro g hg
   simp only [l0, hlast] at hg
   exact absurd hg (hb g)
 ·have := G.le; simp; omega
 ·show (if i = n then _ else ρ i) = ρ0 i
  have := G.le
  rw [if_neg (by omega)]; exact G.old i hi
theorem s5.nil (G : s5 φ ψ w0 F N m ρ0 ρ S tm a w) (n : Nat) (e : TypeId) (d : D) (k : Nat) (S1 : List It) (tm1 : List (Nat × AV)) (hn : S.length = n := by kernel_rfl) (hd : D.nil k = some d := by kernel_rfl) (hS : S = S1.map (It.den false n) := by kernel_rfl) (ht : tm = tm1.map (fun p => (p.1, p.2.den false n)) := by kernel_rfl) :
  ∃ ρ', s5 φ ψ w0 F N m ρ0 ρ' (S1 ++ [.row e d]) tm1 a w := by
 have hz := D.nil_len hd
 refine G.nilW n hn false (.row e d) (.slice none 0 0) (by simp) rfl (fun g hg => ?_) (fun φ' => ?_) S1 tm1 hS ht
 ·simp only [It.res, if_true] at hg
  cases hg
 ·simp only [It.res, if_true]
  refine ⟨fun xs => RW.nice d xs, [], ?_, RW.nil hz _⟩
  rw [hz]; exact World.ownsRow_nil _ _ _ _
theorem s5.nilT (G : s5 φ ψ w0 F N m ρ0 ρ S tm a w) (n : Nat) (d : D) (S1 : List It) (tm1 : List (Nat × AV)) (hn : S.length = n := by kernel_rfl) (hd : ((ac0 d).isSome && natEq d.len 0) = true := by kernel_rfl) (hS : S = S1.map (It.den true n) := by kernel_rfl) (ht : tm = tm1.map (fun p => (p.1, p.2.den true n)) := by kernel_rfl) :
  ∃ ρ', s5 φ ψ w0 F N m ρ0 ρ' (S1 ++ [.tree d]) tm1 a w := by
 simp only [bR6, natEq, beq_iff_eq] at hd
 obtain ⟨e, he⟩ := bV3.1 hd.1
 obtain ⟨z, h1, h2⟩ := ad9 (.slice none 0 0) (fun _ => False) 0 fun b h => h.elim
 refine G.nilW n hn true (.tree d) z (by simp [h1]) rfl (fun g hg => ?_) (fun φ' => ?_) S1 tm1 hS ht
 ·simp only [It.res, if_true] at hg
  exact ((h2 g).1 hg).elim
 ·simp only [It.res, if_true]
  rw [h1]
  refine ⟨fun _ _ h hs => h.same hs, ⟨e, [], fun _ => False, he, ?_, (fun g hg => by cases hg), (fun b hb => hb.elim), ?_⟩, fun b hb => ((h2 b).1 hb).elim⟩
  ·rw [hd.2]; exact World.ownsRow_nil _ _ _ _
  ·have h0 := hd.2
   cases d <;> simp only [ac0] at he <;> first | cases he | skip
   all_goals (simp only [D.len] at h0; rw [bU3 h0]; rfl)
end
inductive Ln where
 | no
 | row (e : TypeId)
 | tree
def v7 (M : List Ln) (i : Nat) : Ln := M.getD i .no
def Ln.isT : Ln → Bool
 | .tree => true
 | _ => false
mutual
def AV.tr (M : List Ln) : AV → AV
 | .v x => .v x
 | .ptr a b => .ptr a b
 | .ea a b c d => .ea a b c d
 | .ref i => if (v7 M i).isT then .tref i else .ref i
 | .agg l => .agg (AV.trL M l)
 | .tup l => .tup (AV.trL M l)
 | .fn f l => .fn f (AV.trL M l)
 | .bm f l => .bm f (AV.trL M l)
 | .tref i => .tref i
def AV.trL (M : List Ln) : List AV → List AV
 | [] => []
 | x :: r => x.tr M :: AV.trL M r
end
mutual
def AV.trOk (M : List Ln) : AV → Bool
 | .v _ => true
 | .ptr a _ => !(v7 M a).isT
 | .ea a _ _ _ => !(v7 M a).isT
 | .ref _ => true
 | .agg l => AV.trOkL M l
 | .tup l => AV.trOkL M l
 | .fn _ l => AV.trOkL M l
 | .bm _ l => AV.trOkL M l
 | .tref i => !(v7 M i).isT
def AV.trOkL (M : List Ln) : List AV → Bool
 | [] => true
 | x :: r => x.trOk M && AV.trOkL M r
end
mutual
theorem AV.val_tr {ρ ρ' : Nat → Value} {M : List Ln} (h : ∀ i, ρ' i = if (v7 M i).isT then z3 (ρ i) else ρ i) : ∀ (x : AV), x.trOk M = true → (x.tr M).val ρ = x.val ρ'
 | .v _, _ => rfl
 | .ptr a _, hx => by
  simp only [AV.trOk, bT6] at hx
  simp only [AV.tr, AV.val]; rw [h a, hx]; rfl
 | .ea a _ _ _, hx => by
  simp only [AV.trOk, bT6] at hx
  simp only [AV.tr, AV.val]; rw [h a, hx]; rfl
 | .ref i, _ => by
  simp only [AV.tr]
  cases hm : (v7 M i).isT
  ·simp only [Bool.false_eq_true, if_false, AV.val]; rw [h i, hm]; rfl
  ·simp only [if_true, AV.val]; rw [h i, hm]; rfl
 | .agg l, hx => by simp only [AV.tr, AV.val]; rw [AV.vals_tr h l (by simpa [AV.trOk] using hx)]
 | .tup l, hx => by simp only [AV.tr, AV.val]; rw [AV.vals_tr h l (by simpa [AV.trOk] using hx)]
 | .fn _ l, hx => by simp only [AV.tr, AV.val]; rw [AV.vals_tr h l (by simpa [AV.trOk] using hx)]
 | .bm _ l, hx => by simp only [AV.tr, AV.val]; rw [AV.vals_tr h l (by simpa [AV.trOk] using hx)]
 | .tref i, hx => by
  simp only [AV.trOk, bT6] at hx
  simp only [AV.tr, AV.val]; rw [h i, hx]; rfl
theorem AV.vals_tr {ρ ρ' : Nat → Value} {M : List Ln} (h : ∀ i, ρ' i = if (v7 M i).isT then z3 (ρ i) else ρ i) : ∀ (l : List AV), AV.trOkL M l = true → AV.vals ρ (AV.trL M l) = AV.vals ρ' l
 | [], _ => rfl
 | x :: r, hx => by
  simp only [AV.trOkL, bR6] at hx
  simp only [AV.trL, AV.vals]; rw [AV.val_tr h x hx.1, AV.vals_tr h r hx.2]
end
def t7 (M : List Ln) : Ln → It → It
 | .row e, .dat d => .row e d
 | .tree, .dat d => .tree d
 | .no, .box cs => .box (AV.trL M cs)
 | _, x => x
def G0 (M : List Ln) (S : List It) : List It := (bS8 S.length).map fun i => t7 M (v7 M i) (l8 S i)
theorem N8 (M : List Ln) (S : List It) (i : Nat) : l8 (G0 M S) i = t7 M (v7 M i) (l8 S i) := by
 unfold G0
 rcases bT8 i S.length with h | h
 ·conv => lhs; rw [l8, bR7, List.getElem?_map, List.getElem?_range h]
  rfl
 ·rw [s4 (by simpa using h), s4 h]
  cases v7 M i <;> rfl
def aM3 : D → Bool
 | .rows _ => false
 | .brows _ => false
 | .exprs _ => false
 | .stmts _ => false
 | _ => true
theorem a11 {w w' : World} {φ φ' : Nat → Prop} {d : D} {xs : List Value} (hd : aM3 d = true) (h : RW w φ d xs) : RW w' φ' d xs := by
 intro i hi j x hx
 obtain ⟨u, h1, h2⟩ := h i hi j x hx
 refine ⟨u, h1, ?_⟩
 have : ∃ y, x = .v y := by
  have hm := bT0 hx
  cases d <;> simp only [aM3, Bool.false_eq_true] at hd <;> simp [D.elem, aS7, ad8] at hm
  ·exact ⟨_, hm⟩
  ·exact ⟨_, hm⟩
  ·exact ⟨_, hm⟩
  ·exact ⟨_, hm⟩
  ·rcases hm with h | h | h | h | h <;> exact ⟨_, h⟩
  ·rcases hm with h | h <;> exact ⟨_, h⟩
 obtain ⟨y, rfl⟩ := this
 exact h2
def aD8 (M : List Ln) (l : Ln) (p x : It) : Bool :=
 match l with
 | .no => match x with
  | .dat _ => (match p with | .dat _ => true | _ => false)
  | .row _ d => aM3 d
  | .box cs => AV.trOkL M cs
  | .kept _ _ => false
  | .hole _ _ _ => false
  | _ => true
 | .row _ => (match p, x with | .dat d, .dat _ => aM3 d | _, _ => false)
 | .tree => (match p, x with | .dat d, .dat _ => (ac0 d).isSome | _, _ => false)
def bd1 (M : List Ln) (l : Ln) (p : It) : Bool :=
 match l, p with
 | .no, .box cs => AV.trOkL M cs
 | .no, .hole _ _ _ => false
 | _, _ => true
def be8 (M : List Ln) (c : j5) : Bool :=
 decide (M.length ≤ c.pre.length) && decide (c.pre.length ≤ c.post.length) && AV.trOkL M c.args && c.res.trOk M && (bS8 c.post.length).all (fun i => aD8 M (v7 M i) (l8 c.pre i) (l8 c.post i)) && (bS8 c.pre.length).all fun i => bd1 M (v7 M i) (l8 c.pre i)
def Rs.snap (w : World) (r : Rs) : Rs := .own r.blk fun w' => ∀ b, r.blk b → b < w.heap.size → w'.heap[b]? = w.heap[b]?
theorem Rs.snap_holds {w : World} {φ φ' : Nat → Prop} {r : Rs} (h : r.holds w φ) : (r.snap w).holds w φ' := by
 refine ⟨fun w1 w2 h1 h2 b hb hlt => ?_, fun b _ _ => rfl, fun b hb => Rs.lt h hb⟩
 have h3 := h1 b hb hlt
 rw [h2 b hb, h3]
 have : (w1.heap[b]?).isSome = true := by rw [h3, Array.getElem?_eq_getElem hlt]; rfl
 obtain ⟨o, ho⟩ := bV3.1 this
 exact (Array.getElem?_eq_some_iff.1 ho).1
theorem aE8 : ∀ {P X : List It} {i : Nat} {d e : D}, ai9 P X = ai8 P X → l8 P i = .dat d → l8 X i = .dat e → d = e
 | P, X, i, d, e, h, h1, h2 => by
  have hp : P[i]? = some (.dat d) := by
   rcases bT8 i P.length with hl | hl
   ·rw [ad4 hl] at h1; rw [bo2 hl, h1]
   ·rw [s4 hl] at h1; cases h1
  have hx : X[i]? = some (.dat e) := by
   rcases bT8 i X.length with hl | hl
   ·rw [ad4 hl] at h2; rw [bo2 hl, h2]
   ·rw [s4 hl] at h2; cases h2
  exact bz9 h hp hx
theorem j5.lend0 {P : Program} {c : j5} (hc : c.ok P) (M : List Ln) (hb : be8 M c = true) (he : ai9 c.pre c.post = ai8 c.pre c.post) : j5.ok P ⟨c.f, AV.trL M c.args, G0 M c.pre, G0 M c.post, c.res.tr M⟩ := by
 simp only [be8, bR6, decide_eq_true_eq] at hb
 obtain ⟨⟨⟨⟨⟨hM, hle⟩, hargs⟩, hres⟩, hpost⟩, hpre⟩ := hb
 have hno : ∀ i, c.pre.length ≤ i → v7 M i = .no := fun i hi => by
  unfold v7; rw [bR7, bT2 (by omega)]; rfl
 have hpo : ∀ i, aD8 M (v7 M i) (l8 c.pre i) (l8 c.post i) = true := fun i => by
  rcases bT8 i c.post.length with h | h
  ·exact bS2.1 hpost i (bU9.2 h)
  ·rw [hno i (by omega), s4 h]; rfl
 have hpr : ∀ i, bd1 M (v7 M i) (l8 c.pre i) = true := fun i => by
  rcases bT8 i c.pre.length with h | h
  ·exact bS2.1 hpre i (bU9.2 h)
  ·rw [hno i h, s4 h]; rfl
 intro ι φ ψ w0 w F ρ MM
 let ρ1 : Nat → Value := fun i => if (v7 M i).isT then z3 (ρ i) else ρ i
 have hρ1 : ∀ i, ρ1 i = if (v7 M i).isT then z3 (ρ i) else ρ i := fun _ => rfl
 let F1 : ι → Rs := fun i => (F i).snap w
 have hLi : ∀ i, l0 F ρ (l8 (G0 M c.pre)) (.inl i) = F i := fun _ => rfl
 have hLj : ∀ j, l0 F ρ (l8 (G0 M c.pre)) (.inr j) = (t7 M (v7 M j) (l8 c.pre j)).res ρ j := fun j => by simp only [l0]; rw [N8]
 generalize hL : l0 F ρ (l8 (G0 M c.pre)) = L at MM hLi hLj
 have h1j : ∀ j, v7 M j = .no → (l8 c.pre j).res ρ1 j = L (.inr j) := fun j hl => by
  rw [hLj, hl]
  have hp := hpr j
  have e : ρ1 j = ρ j := by rw [hρ1, hl]; rfl
  cases hx : l8 c.pre j with
  | none => rfl
  | dead => rfl
  | dat d => simp only [t7, It.res]; rw [e]
  | row e' d => simp only [t7, It.res]; rw [e]
  | tree d => simp only [t7, It.res]; rw [e]
  | kept e' d => cases e' <;> (simp only [t7, It.res]; rw [e])
  | hole k i ls => rw [hl, hx] at hp; cases hp
  | box cs =>
   rw [hl, hx] at hp
   simp only [bd1] at hp
   simp only [t7, It.res]
   rw [e, AV.vals_tr hρ1 cs hp]
 have hlent : ∀ j, v7 M j ≠ .no → (∃ d, l8 c.pre j = .dat d ∧ l8 c.post j = .dat d ∧ ((∃ e, v7 M j = .row e ∧ aM3 d = true) ∨ v7 M j = .tree)) := fun j hj => by
  have h := hpo j
  cases hl : v7 M j with
  | no => exact absurd hl hj
  | row e =>
   rw [hl] at h
   simp only [aD8] at h
   split at h
   ·rename_i d d' h1 h2
    exact ⟨d, h1, by rw [h2, ← aE8 he h1 h2], .inl ⟨e, rfl, h⟩⟩
   ·cases h
  | tree =>
   rw [hl] at h
   simp only [aD8] at h
   split at h
   ·rename_i d d' h1 h2
    exact ⟨d, h1, by rw [h2, ← aE8 he h1 h2], .inr rfl⟩
   ·cases h
 have hsub : ∀ k b, (l0 F1 ρ1 (l8 c.pre) k).blk b → (L k).blk b ∧ ∀ j, k = .inr j → v7 M j = .no := fun k b hb => by
  cases k with
  | inl i => rw [hLi]; exact ⟨hb, fun j h => by cases h⟩
  | inr j =>
   by_cases hl : v7 M j = .no
   ·simp only [l0] at hb
    rw [h1j j hl] at hb
    exact ⟨hb, fun j' h => by cases h; exact hl⟩
   ·obtain ⟨d, h1, _⟩ := hlent j hl
    simp only [l0, h1, It.res] at hb
    exact hb.elim
 have hfr1 : ∀ b, R1 φ L b → R1 φ (l0 F1 ρ1 (l8 c.pre)) b := fun b hb => ⟨hb.1, fun k hk => hb.2 k (hsub k b hk).1⟩
 let ψ1 : Nat → Prop := fun b => ∀ k, ¬ (l0 F1 ρ1 (l8 c.pre) k).blk b
 have M1 : i6 φ ψ1 w w (l0 F1 ρ1 (l8 c.pre)) := by
  refine ⟨A3.refl _ _, fun b hb => MM.fresh b (bT4 MM.size hb), fun k => ?_, fun k k' b hkk h1 h2 => MM.dis k k' b hkk (hsub k b h1).1 (hsub k' b h2).1, fun k b h1 => .inr fun h => h k h1, fun k b h1 => MM.ph k b (hsub k b h1).1⟩
  cases k with
  | inl i => exact Rs.snap_holds (show (F i).holds w _ from by rw [← hLi i]; exact MM.holds (.inl i))
  | inr j =>
   by_cases hl : v7 M j = .no
   ·simp only [l0]
    rw [h1j j hl]
    exact Rs.keep (MM.holds (.inr j)) (Agr.mono fun b _ hf => hfr1 b hf) fun _ _ => rfl
   ·obtain ⟨d, h1, h2, h3⟩ := hlent j hl
    have hh := MM.holds (.inr j)
    have hown : ∀ b, (L (.inr j)).blk b → R1 φ (l0 F1 ρ1 (l8 c.pre)) b := fun b hb => ⟨MM.ph _ _ hb, fun k hk => by
     obtain ⟨q1, q2⟩ := hsub k b hk
     by_cases e : k = .inr j
     ·exact hl (q2 j e)
     ·exact MM.dis k (.inr j) b e q1 hb⟩
    simp only [l0, h1, It.res]
    refine ⟨RD.nice _ _, ?_⟩
    rcases h3 with ⟨e, h3, hflat⟩ | h3
    ·rw [hLj, h3, h1] at hh
     simp only [t7, It.res] at hh
     obtain ⟨_, xs, o1, o2⟩ := hh
     have e1 : ρ1 j = ρ j := by rw [hρ1, h3]; rfl
     rw [e1]
     refine RD.make (y5 o1 fun g hg => hown g ?_) (a11 hflat o2)
     rw [hLj, h3, h1]; exact hg
    ·rw [hLj, h3, h1] at hh
     simp only [t7, It.res] at hh
     have e1 : ρ1 j = z3 (ρ j) := by rw [hρ1, h3]; rfl
     rw [e1]
     refine z5.read hh.2.1 fun b hb => hown b ?_
     rw [hLj, h3, h1]; exact hb
 simp only
 rw [AV.vals_tr hρ1 c.args hargs]
 refine (hc ι φ ψ1 w w F1 ρ1 M1).mono ?_
 rintro x w' ⟨ρ2, g1, g2, M2⟩
 have hplen : (G0 M c.pre).length = c.pre.length := by simp [G0]
 let ρ' : Nat → Value := fun j => if j < c.pre.length then ρ j else ρ2 j
 have hρ' : ∀ j, ρ2 j = if (v7 M j).isT then z3 (ρ' j) else ρ' j := fun j => by
  show _ = if (v7 M j).isT then z3 (if j < c.pre.length then ρ j else ρ2 j) else (if j < c.pre.length then ρ j else ρ2 j)
  rcases bT8 j c.pre.length with h | h
  ·rw [if_pos h, g1 j h]
  ·rw [hno j h]
   exact (if_neg (Nat.not_lt.2 h)).symm
 have hρo : ∀ j, v7 M j ≠ .no → ρ' j = ρ j := fun j hj => by
  rcases bT8 j c.pre.length with h | h
  ·exact if_pos h
  ·exact absurd (hno j h) hj
 refine ⟨ρ', fun i hi => if_pos (by rw [hplen] at hi; exact hi), by rw [AV.val_tr hρ' c.res hres]; exact g2, ?_⟩
 have hL'j : ∀ j, l0 F ρ' (l8 (G0 M c.post)) (.inr j) = (t7 M (v7 M j) (l8 c.post j)).res ρ' j := fun j => by simp only [l0]; rw [N8]
 have hL'i : ∀ i, l0 F ρ' (l8 (G0 M c.post)) (.inl i) = F i := fun _ => rfl
 generalize hL' : l0 F ρ' (l8 (G0 M c.post)) = L' at hL'j hL'i
 have hL2j : ∀ j, v7 M j = .no → L' (.inr j) = l0 F1 ρ2 (l8 c.post) (.inr j) := fun j hl => by
  rw [hL'j, hl]
  have hp := hpo j
  have e : ρ2 j = ρ' j := by rw [hρ', hl]; rfl
  simp only [l0]
  cases hx : l8 c.post j with
  | none => rfl
  | dead => rfl
  | dat d => simp only [t7, It.res]; rw [e]
  | row e' d => simp only [t7, It.res]; rw [e]
  | tree d => simp only [t7, It.res]; rw [e]
  | kept e' d => cases e' <;> (simp only [t7, It.res]; rw [e])
  | hole k i ls => rw [hl, hx] at hp; cases hp
  | box cs =>
   rw [hl, hx] at hp
   simp only [aD8] at hp
   simp only [t7, It.res]
   rw [e, AV.vals_tr hρ' cs hp]
 have hlj : ∀ j, v7 M j ≠ .no → L' (.inr j) = L (.inr j) := fun j hl => by
  obtain ⟨d, h1, h2, h3⟩ := hlent j hl
  rw [hL'j, hLj, h1, h2]
  rcases h3 with ⟨e, h3, _⟩ | h3
  ·rw [h3]; simp only [t7, It.res]; rw [hρo j hl]
  ·rw [h3]; simp only [t7, It.res]; rw [hρo j hl]
 have hin : ∀ b, b < w.heap.size → ¬ ψ1 b → ∃ k, (L k).blk b ∧ ∀ j, k = .inr j → v7 M j = .no := fun b _ hn => by
  obtain ⟨k, hk⟩ := Classical.not_forall.1 hn
  exact ⟨k, hsub k b (Classical.not_not.1 hk)⟩
 have hnew : ∀ k b, (∀ j, k = .inr j → v7 M j = .no) → (l0 F1 ρ2 (l8 c.post) k).blk b → b < w.heap.size → ∃ k', (L k').blk b ∧ ∀ j, k' = .inr j → v7 M j = .no := fun k b _ hb hlt => by
  rcases M2.ge k b hb with h | h
  ·omega
  ·exact hin b hlt h
 have hback : ∀ k b, (L' k).blk b → b < w.heap.size → ∃ k', (L k').blk b := fun k b hb hlt => by
  cases k with
  | inl i => rw [hL'i] at hb; exact ⟨.inl i, by rw [hLi]; exact hb⟩
  | inr j =>
   by_cases hl : v7 M j = .no
   ·rw [hL2j j hl] at hb
    obtain ⟨k', h1, _⟩ := hnew (.inr j) b (fun j' h => by cases h; exact hl) hb hlt
    exact ⟨k', h1⟩
   ·rw [hlj j hl] at hb; exact ⟨_, hb⟩
 have hsame : ∀ b, b < w.heap.size → ψ1 b → w'.heap[b]? = w.heap[b]? := fun b h1 h2 => M2.kept.block b h1 h2
 have hagr : Agr (R1 φ L) (R1 φ L') w w' := ⟨M2.kept.size, fun b hb hf => ⟨⟨hf.1, fun k hk => let ⟨k', h1⟩ := hback k b hk hb; hf.2 k' h1⟩, hsame b hb fun k hk => (hfr1 b hf).2 k hk⟩⟩
 have hlsame : ∀ j, v7 M j ≠ .no → ∀ b, (L (.inr j)).blk b → w'.heap[b]? = w.heap[b]? := fun j hl b hb => hsame b (MM.lt hb) fun k hk => by
  obtain ⟨q1, q2⟩ := hsub k b hk
  by_cases e : k = .inr j
  ·exact hl (q2 j e)
  ·exact MM.dis k (.inr j) b e q1 hb
 have hcross : ∀ j k b, v7 M j ≠ .no → (∀ j, k = .inr j → v7 M j = .no) → (L (.inr j)).blk b → ¬ (l0 F1 ρ2 (l8 c.post) k).blk b := fun j k b hl hk h1 h2 => by
  obtain ⟨k', h3, h4⟩ := hnew k b hk h2 (MM.lt h1)
  exact MM.dis k' (.inr j) b (fun e => hl (h4 j e)) h3 h1
 refine ⟨⟨M2.kept.os.trans MM.kept.os, M2.kept.tape.trans MM.kept.tape, M2.kept.output.trans MM.kept.output, bT4 MM.size M2.kept.size, fun b hb hp => (hsame b (Nat.lt_of_lt_of_le hb MM.size) fun k hk => ?_).trans (MM.kept.block b hb hp)⟩, MM.fresh, fun k => ?_, fun k k' b hkk h1 h2 => ?_, fun k b h1 => ?_, fun k b h1 => ?_⟩
 ·rcases MM.ge k b (hsub k b hk).1 with h | h
  ·omega
  ·exact h hp
 ·cases k with
  | inl i =>
   rw [hL'i, ← hLi i]
   refine Rs.keep (MM.holds (.inl i)) hagr fun b hb => ?_
   have := (M2.holds (.inl i)).2.1 b (by rw [← hLi i]; exact hb) (MM.lt hb)
   exact this
  | inr j =>
   by_cases hl : v7 M j = .no
   ·have hh := M2.holds (.inr j)
    rw [← hL2j j hl] at hh
    have hp := hpo j
    rw [hl] at hp
    cases hx : l8 c.post j with
    | none => rw [hL'j, hl, hx]; exact Rs.none_holds _ _
    | dead => rw [hL'j, hl, hx]; exact Rs.none_holds _ _
    | box cs => rw [hL'j, hl, hx] at hh ⊢; exact hh
    | tree d => rw [hL'j, hl, hx] at hh ⊢; exact hh
    | kept e' d => rw [hx] at hp; exact absurd hp (by simp [aD8])
    | hole k i ls => rw [hx] at hp; exact absurd hp (by simp [aD8])
    | row e d =>
     rw [hx] at hp
     simp only [aD8] at hp
     rw [hL'j, hl, hx] at hh ⊢
     simp only [t7, It.res] at hh ⊢
     obtain ⟨_, xs, o1, o2⟩ := hh
     exact ⟨fun xs => RW.nice d xs, xs, o1, a11 hp o2⟩
    | dat d =>
     rw [hx] at hp
     simp only [aD8] at hp
     split at hp
     ·rename_i d' hpx
      have hd : d' = d := aE8 he hpx hx
      subst hd
      have e : L' (.inr j) = L (.inr j) := by
       rw [hL'j, hLj, hl, hx, hpx]
       simp only [t7, It.res]
       have : j < c.pre.length := by
        rcases bT8 j c.pre.length with h | h
        ·exact h
        ·rw [s4 h] at hpx; cases hpx
       rw [show ρ' j = ρ j from if_pos this]
      rw [e]
      refine Rs.keep (MM.holds (.inr j)) hagr fun b hb => ?_
      rw [hLj, hl, hpx] at hb
      exact hb.elim
     ·cases hp
   ·rw [hlj j hl]
    exact Rs.keep (MM.holds (.inr j)) hagr fun b hb => hlsame j hl b hb
 ·have key : ∀ k, (∃ j, k = .inr j ∧ v7 M j ≠ .no ∧ (L' k) = L k) ∨ ((∀ j, k = .inr j → v7 M j = .no) ∧ ∀ b, (L' k).blk b → (l0 F1 ρ2 (l8 c.post) k).blk b) := fun k => by
   cases k with
   | inl i => exact .inr ⟨(fun j h => by cases h), fun b hb => by rw [hL'i] at hb; exact hb⟩
   | inr j =>
    by_cases hl : v7 M j = .no
    ·exact .inr ⟨fun j' h => by cases h; exact hl, fun b hb => by rw [hL2j j hl] at hb; exact hb⟩
    ·exact .inl ⟨j, rfl, hl, hlj j hl⟩
  rcases key k with ⟨j, rfl, k1, k2⟩ | ⟨k1, k2⟩ <;> rcases key k' with ⟨j', rfl, k3, k4⟩ | ⟨k3, k4⟩
  ·rw [k2] at h1; rw [k4] at h2; exact MM.dis _ _ b hkk h1 h2
  ·rw [k2] at h1; exact hcross j k' b k1 k3 h1 (k4 b h2)
  ·rw [k4] at h2; exact hcross j' k b k3 k1 h2 (k2 b h1)
  ·exact M2.dis k k' b hkk (k2 b h1) (k4 b h2)
 ·cases k with
  | inl i => rw [hL'i, ← hLi i] at h1; exact MM.ge _ b h1
  | inr j =>
   by_cases hl : v7 M j = .no
   ·rw [hL2j j hl] at h1
    rcases bT8 b w.heap.size with hlt | hge
    ·obtain ⟨k', h2, _⟩ := hnew (.inr j) b (fun j' h => by cases h; exact hl) h1 hlt
     exact MM.ge k' b h2
    ·exact .inl (bT4 MM.size hge)
   ·rw [hlj j hl] at h1; exact MM.ge _ b h1
 ·cases k with
  | inl i => rw [hL'i, ← hLi i] at h1; exact MM.ph _ b h1
  | inr j =>
   by_cases hl : v7 M j = .no
   ·rw [hL2j j hl] at h1; exact M2.ph _ b h1
   ·rw [hlj j hl] at h1; exact MM.ph _ b h1
def bf4 (M : List Ln) : Ln → It → It
 | .row e, .dat d => .kept (some e) d
 | .tree, .dat d => .kept none d
 | .no, .box cs => .box (AV.trL M cs)
 | _, x => x
def bf3 (M : List Ln) (S : List It) : List It := (bS8 S.length).map fun i => bf4 M (v7 M i) (l8 S i)
theorem be7 (M : List Ln) (S : List It) (i : Nat) : l8 (bf3 M S) i = bf4 M (v7 M i) (l8 S i) := by
 unfold bf3
 rcases bT8 i S.length with h | h
 ·conv => lhs; rw [l8, bR7, List.getElem?_map, List.getElem?_range h]
  rfl
 ·rw [s4 (by simpa using h), s4 h]
  cases v7 M i <;> rfl
theorem j5.lend {P : Program} {c : j5} (hc : c.ok P) (M : List Ln) (hb : be8 M c = true := by kernel_rfl) (he : ai9 c.pre c.post = ai8 c.pre c.post := by kernel_rfl) : j5.ok P ⟨c.f, AV.trL M c.args, G0 M c.pre, bf3 M c.post, c.res.tr M⟩ :=
 j5.okPost (j5.lend0 hc M hb he) _ fun ρ i => by
  simp only
  rw [be7, N8]
  cases v7 M i <;> cases l8 c.post i <;> rfl
section
variable {P : Program} {ι κ : Type} {φ ψ : Nat → Prop} {w0 w : World} {F : ι → Rs} {ρ ρ0 : Nat → Value} {N m n : Nat} {S : List It} {tm : List (Nat × AV)} {a : Act}
theorem i6.release {L L' : κ → Rs} (M : i6 φ ψ w0 w L) (h : ∀ k, L' k = L k ∨ ((∀ b, ¬ (L' k).blk b) ∧ ∀ φ', (∀ b, R1 φ L b → φ' b) → (∀ b, (L k).blk b → φ' b) → (L' k).holds w φ')) : i6 φ ψ w0 w L' := by
 have old : ∀ k b, (L' k).blk b → (L k).blk b := fun k b hb => by
  rcases h k with e | ⟨h1, _⟩
  ·rw [e] at hb; exact hb
  ·exact (h1 b hb).elim
 have hfr : ∀ b, R1 φ L b → R1 φ L' b := fun b hb => ⟨hb.1, fun k hk => hb.2 k (old k b hk)⟩
 refine ⟨M.kept, M.fresh, fun k => ?_, fun i j g hij h1 h2 => M.dis i j g hij (old i g h1) (old j g h2), fun i b hb => M.ge i b (old i b hb), fun i b hb => M.ph i b (old i b hb)⟩
 rcases h k with e | ⟨h1, h2⟩
 ·rw [e]; exact Rs.keep (M.holds k) (Agr.mono fun b _ hf => hfr b hf) fun _ _ => rfl
 ·refine h2 _ hfr fun b hb => ⟨M.ph k b hb, fun j hj => ?_⟩
  by_cases e : j = k
  ·subst e; exact h1 b hj
  ·exact M.dis j k b e (old j b hj) hb
mutual
theorem AV.ids_tr (M : List Ln) : ∀ (x : AV), (x.tr M).ids = x.ids
 | .v _ => rfl
 | .ptr _ _ => rfl
 | .ea _ _ _ _ => rfl
 | .ref i => by simp only [AV.tr]; split <;> rfl
 | .agg l => by simp only [AV.tr, AV.ids]; exact AV.idsL_tr M l
 | .tup l => by simp only [AV.tr, AV.ids]; exact AV.idsL_tr M l
 | .fn _ l => by simp only [AV.tr, AV.ids]; exact AV.idsL_tr M l
 | .bm _ l => by simp only [AV.tr, AV.ids]; exact AV.idsL_tr M l
 | .tref _ => rfl
theorem AV.idsL_tr (M : List Ln) : ∀ (l : List AV), AV.idsL (AV.trL M l) = AV.idsL l
 | [] => rfl
 | x :: r => by simp only [AV.trL, AV.idsL]; rw [AV.ids_tr M x, AV.idsL_tr M r]
end
theorem ag7 {M : List Ln} {t : Nat} {x : AV} : ∀ {tm : List (Nat × AV)}, w6 tm t = some x → w6 (tm.map fun p => (p.1, p.2.tr M)) t = some (x.tr M) ∧ ∃ p ∈ tm, p.2 = x
 | [], h => by cases h
 | (k, y) :: r, h => by
  simp only [w6, bU0] at h ⊢
  split at h
  ·cases h; rename_i hk; rw [if_pos hk]; exact ⟨rfl, _, bU5, rfl⟩
  ·rename_i hk; rw [if_neg hk]
   obtain ⟨h1, p, h2, h3⟩ := ag7 h
   exact ⟨h1, p, bU4 _ h2, h3⟩
def bG6 (M : List Ln) (m : Nat) (S1 : List It) (tm1 : List (Nat × AV)) : Bool :=
 decide (M.length ≤ S1.length) && (bS8 S1.length).all (fun i => match v7 M i, l8 S1 i with
  | .no, .box cs => AV.trOkL M cs
  | .no, .hole _ _ _ => false
  | .no, _ => true
  | .row _, .dat _ => true
  | .tree, .dat _ => decide (m ≤ i)
  | _, _ => false) && tm1.all fun p => p.2.trOk M
theorem It.ids_lend (M : List Ln) (l : Ln) (x : It) : x.ids = [] ∨ (t7 M l x).ids = x.ids := by
 cases x with
 | box cs => cases l <;> first | exact .inr rfl | exact .inr (AV.idsL_tr M cs)
 | hole k i ls => cases l <;> exact .inr rfl
 | _ => exact .inl rfl
theorem s5.frz (G : s5 φ ψ w0 F N m ρ0 ρ S tm a w) (M : List Ln) (S1 : List It) (tm1 : List (Nat × AV)) (hb : bG6 M m S1 tm1 = true := by kernel_rfl) (hS : S = G0 M S1 := by kernel_rfl) (ht : tm = tm1.map (fun p => (p.1, p.2.tr M)) := by kernel_rfl) :
  ∃ ρ', s5 φ ψ w0 F N m ρ0 ρ' S1 tm1 a w := by
 subst hS
 subst ht
 simp only [bG6, bR6, decide_eq_true_eq] at hb
 obtain ⟨⟨hM, hall⟩, htm⟩ := hb
 have hlen : (G0 M S1).length = S1.length := by simp [G0]
 have hno : ∀ i, S1.length ≤ i → v7 M i = .no := fun i hi => by
  unfold v7; rw [bR7, bT2 (by omega)]; rfl
 have hat := fun i (hi : i < S1.length) => bS2.1 hall i (bU9.2 hi)
 let ρ1 : Nat → Value := fun i => if (v7 M i).isT then z3 (ρ i) else ρ i
 have hρ1 : ∀ i, ρ1 i = if (v7 M i).isT then z3 (ρ i) else ρ i := fun _ => rfl
 have hρn : ∀ i, (v7 M i).isT = false → ρ1 i = ρ i := fun i h => by rw [hρ1, h]; rfl
 refine ⟨ρ1, G.size, G.defs, fun t x hx => ?_, fun t x hx i hi => ?_, fun j => ⟨fun i hi => ?_, fun hj => s4 hj⟩, ?_, ?_, fun i hi => ?_⟩
 ·obtain ⟨h1, p, h2, h3⟩ := ag7 (M := M) hx
  rw [G.tmv t _ h1, AV.val_tr hρ1 x (by rw [← h3]; exact bS2.1 htm p h2)]
 ·obtain ⟨h1, _⟩ := ag7 (M := M) hx
  have := G.tmi t _ h1 i (by rw [AV.ids_tr]; exact hi)
  rw [hlen] at this; exact this
 ·have h1 := (G.bd j).1 i
  rw [N8, hlen] at h1
  rcases It.ids_lend M (v7 M j) (l8 S1 j) with h | h
  ·rw [h] at hi; cases hi
  ·exact h1 (by rw [h]; exact hi)
 ·refine G.mem.release fun k => ?_
  cases k with
  | inl i => exact .inl rfl
  | inr j =>
   simp only [l0]
   rw [N8]
   rcases bT8 j S1.length with hj | hj
   case inr => rw [hno j hj, s4 hj]; exact .inl rfl
   have h1 := hat j hj
   cases hl : v7 M j with
   | no =>
    have e : ρ1 j = ρ j := hρn j (by rw [hl]; rfl)
    rw [hl] at h1
    left
    cases hx : l8 S1 j with
    | box cs =>
     rw [hx] at h1
     simp only [t7, It.res]
     rw [e, AV.vals_tr hρ1 cs h1]
    | none => rfl
    | dead => rfl
    | dat d => simp only [t7, It.res]; rw [e]
    | row e' d => simp only [t7, It.res]; rw [e]
    | tree d => simp only [t7, It.res]; rw [e]
    | kept e' d => cases e' <;> (simp only [t7, It.res]; rw [e])
    | hole k i ls => rw [hx] at h1; cases h1
   | row e' =>
    have e : ρ1 j = ρ j := hρn j (by rw [hl]; rfl)
    rw [hl] at h1
    cases hx : l8 S1 j <;> rw [hx] at h1 <;> first | cases h1 | skip
    rename_i d
    refine .inr ⟨fun b hb => hb, fun φ' hf hown => ⟨RD.nice _ _, ?_⟩⟩
    have hh := G.mem.holds (.inr j)
    simp only [l0] at hh
    rw [N8, hl, hx] at hh
    simp only [t7, It.res] at hh
    obtain ⟨_, xs, o1, o2⟩ := hh
    rw [e]
    exact RD.make (y5 o1 fun g hg => hown g hg) (RW.nice _ _ _ _ _ _ (Agr.mono fun b _ hb => hf b hb) o2)
   | tree =>
    have e : ρ1 j = z3 (ρ j) := by rw [hρ1, hl]; rfl
    rw [hl] at h1
    cases hx : l8 S1 j <;> rw [hx] at h1 <;> first | cases h1 | skip
    rename_i d
    refine .inr ⟨fun b hb => hb, fun φ' hf hown => ⟨RD.nice _ _, ?_⟩⟩
    have hh := G.mem.holds (.inr j)
    simp only [l0] at hh
    rw [N8, hl, hx] at hh
    simp only [t7, It.res] at hh
    rw [e]
    exact z5.read hh.2.1 fun b hb => hown b hb
 ·have := G.le; rw [hlen] at this; exact this
 ·have hm := G.le
  rw [hlen] at hm
  have : (v7 M i).isT = false := by
   cases hl : v7 M i with
   | no => rfl
   | row _ => rfl
   | tree =>
    have h1 := hat i (by omega)
    rw [hl] at h1
    cases hx : l8 S1 i <;> rw [hx] at h1 <;> simp at h1
    omega
  show ρ1 i = ρ0 i
  rw [hρn i this]; exact G.old i hi
end
section
variable {P : Program} {ι κ : Type} {φ ψ : Nat → Prop} {w0 w w' : World} {F : ι → Rs} {ρ ρ0 : Nat → Value}
theorem i6.grow {L L' : κ → Rs} (M : i6 φ ψ w0 w L) (hb : Below w.heap.size w w') (K : κ → Prop) (ho : ∀ k, ¬ K k → L' k = L k) (hg : ∀ k, K k → ∀ b, (L' k).blk b → w.heap.size ≤ b) (hd : ∀ j k b, j ≠ k → K j → K k → (L' j).blk b → ¬ (L' k).blk b) (h : ∀ k, K k → (L' k).holds w' (R1 φ L')) : i6 φ ψ w0 w' L' := by
 have M1 := M.call hb
 have old : ∀ k, ¬ K k → ∀ b, (L' k).blk b → b < w.heap.size := fun k hk b h1 => by rw [ho k hk] at h1; exact M.lt h1
 refine ⟨M1.kept, M.fresh, fun k => ?_, fun i j g hij h1 h2 => ?_, fun i b h1 => ?_, fun i b h1 => ?_⟩
 ·by_cases e : K k
  ·exact h k e
  ·rw [ho k e]
   refine Rs.keep (M.holds k) ⟨hb.size, fun b hl hf => ⟨⟨hf.1, fun j hj => ?_⟩, hb.block b hl⟩⟩ fun g hgx => hb.block g (M.lt hgx)
   by_cases e2 : K j
   ·have := hg j e2 b hj; omega
   ·rw [ho j e2] at hj; exact hf.2 j hj
 ·by_cases e1 : K i <;> by_cases e2 : K j
  ·exact hd i j g hij e1 e2 h1 h2
  ·have := hg i e1 g h1; have := old j e2 g h2; omega
  ·have := hg j e2 g h2; have := old i e1 g h1; omega
  ·rw [ho i e1] at h1; rw [ho j e2] at h2; exact M.dis i j g hij h1 h2
 ·by_cases e : K i
  ·exact .inl (bT4 M.size (hg i e b h1))
  ·rw [ho i e] at h1; exact M.ge i b h1
 ·by_cases e : K i
  ·exact M.fresh b (bT4 M.size (hg i e b h1))
  ·rw [ho i e] at h1; exact M.ph i b h1
end
abbrev oP (p : j8) : List It := [.row 3 (.ints p.vars), .row 3 (.ints p.arrays), .tree (.stmts p.body)]
abbrev oA (r : Nat) : AV := .agg [.ref r, .ref (r + 1), .tref (r + 2)]
theorem ay9 {w : World} {φ : Nat → Prop} {v : Value} {l : List Int} (h : w.ownsRow 0 3 1 v l.length (ints l)) : (Rs.row 3 (D.ints l).sz v (D.ints l).len fun xs w φ => RW w φ (.ints l) xs).holds w φ := by
 refine ⟨fun xs => RW.nice (.ints l) xs, ints l, h, fun i hi j x hx => ?_⟩
 have hi' : i < l.length := hi
 simp only [D.elem] at hx
 have hj : j = 0 := by
  cases j with
  | zero => rfl
  | succ j => simp at hx
 subst hj
 simp at hx
 subst hx
 refine ⟨_, ?_, rfl⟩
 simp only [D.sz]
 rw [Nat.mul_one, Nat.add_zero]
 simp [ints, hi']
theorem ae0 (v : Value) (t : List Int) (w : World) (h : H4 w v t.length 1 (ints t)) (hb : t.length ≤ 1000000000000) :
  Calls Try.prog 90 #[v] w fun e w' => ∃ u, e = .returned u ∧ A9 w' w.heap.size w'.heap.size 3 1 u t.length (ints t) ∧ Below w.heap.size w w' := by
 obtain ⟨a, cap, rfl, hc1, hc2, hc3, -⟩ := h.open
 have hnil := fun w => Lib.run_eql_slice_nil (P := Try.prog) w 23 3 a t.length cap 0 0 Try.underlying23
 rcases a with _ | a
 ·have hn : t.length = 0 := by
   rcases Nat.eq_zero_or_pos t.length with h0 | h0
   ·exact h0
   ·obtain ⟨_, a, c, he, _, _, hx⟩ := h
    cases he
    obtain ⟨_, _, he, _⟩ := hx h0
    cases he
  have ht : t = [] := bU3 hn
  subst ht
  simp only [bS6, Option.isNone_none] at hnil
  go_enter Try.func90, Try.ntmps90
  go_wp2_with fail
  go_ret
  exact ⟨_, rfl, ⟨World.ownsRow_nil _ _ _ _, fun g hg => by cases hg⟩, Below.refl _ _⟩
 ·go_enter Try.func90, Try.ntmps90
  simp only [Option.isNone_some] at hnil
  have ba := (Below.refl w.heap.size w).alloc (bS5 _) (.cells #[] 3)
  go_wp2_with (at_builtin; refine I4 rfl _ _ rfl Try.underlying23 az5 rfl (by omega) rfl (y6 w #[] 0 1 _ rfl rfl (by omega)).1 rfl (h.below ba) aL1 (by omega) (by omega) (by simp) ?_; rintro a4 q4 w4 o4 b4 - -)
  go_ret
  refine ⟨_, rfl, A9.mk' (by simpa using o4), ba.trans b4⟩
theorem aN8 (l : List Int) (hb : l.length ≤ 1000000000000) : j5.ok Try.prog ⟨90, [.ref 0], [.dat (.ints l)], [.dat (.ints l), .row 3 (.ints l)], .ref 1⟩ := by
 intro ι φ ψ w0 w F ρ M
 have hr := M.datAt (id := 0) (d := .ints l) rfl
 refine (ae0 (ρ 0) l w (v6.row hr) hb).mono ?_
 rintro e w' ⟨u, rfl, ⟨ho, hg⟩, hbl⟩
 refine ⟨fun i => if i = 1 then u else ρ i, fun i hi => if_neg (show ¬ i = 1 by have : i < 1 := hi; omega), by simp [AV.val], ?_⟩
 refine M.grow hbl (fun k => k = .inr 1) (fun k hk => ?_) ?_ ?_ ?_
 ·cases k with
  | inl i => rfl
  | inr j =>
   match j, hk with
   | 0, _ => rfl
   | 1, h => exact absurd rfl h
   | j + 2, _ => rfl
 ·rintro k rfl b hb; exact (World.ownsRow.lt ho b hb).1
 ·rintro j k b hjk rfl rfl; exact absurd rfl hjk
 ·rintro k rfl; exact ay9 (B7 ho (bU8 _))
theorem Z6 (e : c8) : j5.ok Try.prog ⟨143, [.agg [.v (.int .i64 e.kind), .v (.int .i64 e.value), .ref 0]], [.dat (.exprs e.kids)], [.dat (.exprs e.kids)], .v (.bool (noneB e))⟩ := by
  refine F5 17 Try.func143 [dE e.kids] [(0, eA e 0)] fun G => ?_; refine wp_seq (i7 G d8 [0, 1] [dE e.kids, .box (eL e 0)] [(1, .ptr 1 0), (2, bA false)] fun G => b0 (wp_seq ?_)); cases h0 : (e.kind == 0)
  · have q0 := ne_of_beq_false h0; refine i7 G (E7 (fc h0 (fc (b := false) rfl fz)) (us [(4, 6, 0), (1007, 1007, 0), (9, 12, 1), (1013, 1013, 1)])) [0] [dE e.kids] [(2, bA false)] fun G => b0 (wp_ret ?_); exact I6 false G [0] (by rw [bT5]; simp [noneB, h0, q0]; done)
  ·
   have q0 := eq_of_beq h0; cases h1 : (e.value == 0)
   · have q1 := ne_of_beq_false h1; refine i7 G (E7 (fc h0 (fc h1 fz)) (us [(4, 6, 0), (1007, 1007, 0), (9, 12, 1), (1013, 1013, 1)])) [0] [dE e.kids] [(2, bA false)] fun G => b0 (wp_ret ?_); exact I6 false G [0] (by rw [bT5]; simp [noneB, h0, q0, h1, q1]; done)
   · have q1 := eq_of_beq h1; refine i7 G (E7 (fc h0 (fc h1 fz)) (us [(4, 6, 0), (1007, 1007, 0), (9, 12, 1), (1013, 1013, 1)])) [0] [dE e.kids] [(2, bA ((e.kids.length : Int) == 0))] fun G => b0 (wp_ret ?_); exact I6 ((e.kids.length : Int) == 0) G [0] (by rw [bT5]; simp [noneB, h0, q0, h1, q1]; done)
theorem aa9 (k : Int) : j5.ok Try.prog ⟨101, [.v (.int .i64 k)], [], [], .v (.int .i64 (r8 k))⟩ := by
  refine F5 23 Try.func101 [] [(0, iA k)] fun G => ?_; refine wp_seq (j7 G d8 [(2, iA 0)] fun G => b0 (wp_seq (wp_block (wp_seq ?_)))); cases h0 : (k == 1)
  ·
   have q0 := ne_of_beq_false h0; refine j7 G (E7 (fc h0 fz) [(3, 0), (4, 0), (1005, 0)]) [(3, bA (k == 2))] fun G => b0 (H6 G (fun h1 q1 => ?_) fun h1 q1 => ?_)
   ·
    refine wp_seq (j7 G d8 [(10, bA (k == 3))] fun G => b0 (H6 G (fun h2 q2 => ?_) fun h2 q2 => ?_))
    ·
     refine wp_seq ?_; cases h3 : (decide (k ≥ 4))
     ·
      have q3 := T8 h3; refine j7 G (E7 (fc h3 fz) [(3, 0), (4, 0), (1005, 0)]) [(13, bA false)] fun G => b0 (rF G false (by kernel_rfl) (wp_seq (D6 G d8 [(2, iA 0), (20, bA (k == 11))] fun G => b0 ?_))); cases h4 : (k == 11)
      · have q4 := ne_of_beq_false h4; refine rF G _ h4 (wp_skip (i8 (b0 (wp_seq (j7 G d8 [(2, iA (-1))] fun G => b0 (wp_ret ?_)))))); exact rxI (-1) G [] (by unfold r8; (repeat' split) <;> omega)
      · have q4 := eq_of_beq h4; exact False.elim (by omega)
     ·
      have q3 := T7 h3; refine j7 G (E7 (fc h3 fz) [(3, 0), (4, 0), (1005, 0)]) [(13, bA (decide (k ≤ 10)))] fun G => b0 (rcD G (fun h5 q5 => ?_) fun h5 q5 => ?_)
      ·
       refine wp_seq (j7 G d8 [(20, bA (k == 11))] fun G => b0 (H6 G (fun h6 q6 => ?_) fun h6 q6 => ?_))
       · refine wp_skip (i8 (b0 (wp_seq (j7 G d8 [(2, iA (-1))] fun G => b0 (wp_ret ?_))))); exact rxI (-1) G [] (by unfold r8; (repeat' split) <;> omega)
       · refine wp_seq (j7 G d8 [(2, iA 3)] fun G => b0 (wp_ret (C9 (n8 ?_)))); exact rxI 3 G [] (by unfold r8; (repeat' split) <;> omega)
      · refine wp_seq (j7 G d8 [(2, iA 2)] fun G => b0 (wp_ret (C9 (n8 ?_)))); exact rxI 2 G [] (by unfold r8; (repeat' split) <;> omega)
    · refine wp_seq (j7 G d8 [(2, iA 1)] fun G => b0 (wp_ret (C9 (n8 ?_)))); exact rxI 1 G [] (by unfold r8; (repeat' split) <;> omega)
   · refine wp_seq (j7 G d8 [] fun G => b0 (wp_ret (C9 (n8 ?_)))); exact rxI 0 G [] (by unfold r8; (repeat' split) <;> omega)
  · have q0 := eq_of_beq h0; refine j7 G (E7 (fc h0 fz) [(3, 0), (4, 0), (1005, 0)]) [(3, bA true)] fun G => b0 (rT G true (by kernel_rfl) (wp_seq (j7 G d8 [] fun G => b0 (wp_ret (C9 (n8 ?_)))))); exact rxI 0 G [] (by unfold r8; (repeat' split) <;> omega)
theorem au9 (e : c8) : j5.ok Try.prog ⟨103, [.agg [.v (.int .i64 e.kind), .v (.int .i64 e.value), .ref 0]], [.dat (.exprs e.kids)], [.dat (.exprs e.kids)], .v (.bool (P1 e))⟩ := by
 refine F5 11 Try.func103 [dE e.kids] [(0, eA e 0)] fun G => ?_; refine wp_seq (i7 G d8 [0, 1] [dE e.kids, .box (eL e 0)] [(1, .ptr 1 0), (2, bA false)] fun G => b0 (wp_seq ?_)); cases h0 : (e.kind == 1)
 ·have q0 := ne_of_beq_false h0; refine i7 G (E7 (fc h0 fz) [(4, 0), (5, 0), (6, 0), (1007, 0)]) [0] [dE e.kids] [(2, bA (e.kind == 2))] fun G => b0 (wp_ret ?_); exact I6 (e.kind == 2) G [0] (by rw [bT5]; simp [P1, h0, q0]; done)
 ·have q0 := eq_of_beq h0; refine i7 G (E7 (fc h0 fz) [(4, 0), (5, 0), (6, 0), (1007, 0)]) [0] [dE e.kids] [(2, bA true)] fun G => b0 (wp_ret ?_); exact I6 true G [0] (by rw [bT5]; simp [P1, h0, q0]; done)
theorem a65 (vs ars : List Int) (b : List c6) (k : Int) : j5.ok Try.prog ⟨102, [.agg [.ref 0, .ref 1, .ref 2], .v (.int .i64 k)], [.dat (.ints vs), .dat (.ints ars), .dat (.stmts b)], [.dat (.ints vs), .dat (.ints ars), .dat (.stmts b)], .v (.int .i64 (ac4 vs.length ars.length k))⟩ := by
  refine F5 18 Try.func102 [dI vs, dI ars, dT b] [(0, pA 0), (1, iA k)] fun G => ?_; refine wp_seq (i7 G d8 (rg 4) [dI vs, dI ars, dT b, .box (pL 0)] [(1, iA k), (2, .ptr 3 0), (4, iA 0)] fun G => b0 (wp_seq (wp_seq (j7 G d8 [(5, iA k)] fun G => b0 (wp_block (wp_seq (j7 G d8 [(6, bA (k == 1))] fun G => b0 (H6 G (fun h0 q0 => ?_) fun h0 q0 => ?_))))))))
  ·
   refine wp_seq (j7 G d8 [(8, bA (k == 2))] fun G => b0 (H6 G (fun h1 q1 => ?_) fun h1 q1 => ?_))
   ·
    refine wp_seq (j7 G d8 [(13, bA (k == 3))] fun G => b0 (H6 G (fun h2 q2 => ?_) fun h2 q2 => ?_))
    · refine wp_skip (i8 (b0 (wp_seq (i7 G d8 [0, 1, 2] [dI vs, dI ars, dT b] [(4, iA 1)] fun G => b0 (wp_ret ?_))))); exact rxI 1 G [0, 1, 2] (by unfold ac4; (repeat' split) <;> omega)
    · refine wp_seq (i7 G d8 [0, 1, 2] [dI vs, dI ars, dT b] [(4, iA (ars.length : Int))] fun G => b0 (wp_ret (C9 (n8 ?_)))); exact rxI ((ars.length : Int)) G [0, 1, 2] (by unfold ac4; (repeat' split) <;> omega)
   · refine wp_seq (i7 G d8 [0, 1, 2] [dI vs, dI ars, dT b] [(4, iA (vs.length : Int))] fun G => b0 (wp_ret (C9 (n8 ?_)))); exact rxI ((vs.length : Int)) G [0, 1, 2] (by unfold ac4; (repeat' split) <;> omega)
  · refine wp_seq (i7 G d8 [0, 1, 2] [dI vs, dI ars, dT b] [(4, iA 256)] fun G => b0 (wp_ret (C9 (n8 ?_)))); exact rxI 256 G [0, 1, 2] (by unfold ac4; (repeat' split) <;> omega)
theorem aO6 {α : Type} {l : List α} {k : Nat} {p : α → Bool} {z : α} (h : (l.take k).all p = true) (hk : k < l.length) (hp : p (l.getD k z) = true) : (l.take (k + 1)).all p = true := by
 rw [N1 p l k hk, h, ← o5 (d := z) hk, hp]; rfl
theorem av6 {α : Type} {l : List α} {k : Nat} {p : α → Bool} (h : (l.take k).all p = true) (hk : l.length ≤ k) : l.all p = true := by
 rw [bT9 hk] at h; exact h
section
variable {nv na d : Nat} {e : c8}
theorem bl9 (h : ¬ (e.kids.length : Int) = r8 e.kind) : l7 nv na (d + 1) e = false := by simp [l7, ag6, h]
theorem bl8 (h : e.value < 0) : l7 nv na (d + 1) e = false := by
 have : ¬ 0 ≤ e.value := by omega
 simp [l7, ag6, this]
theorem bl7 (h : ac4 nv na e.kind ≤ e.value) : l7 nv na (d + 1) e = false := by
 have : ¬ e.value < ac4 nv na e.kind := by omega
 simp [l7, ag6, this]
theorem bl6 {k : Nat} {z : c8} (hk : k < e.kids.length) (h : l7 nv na d (e.kids.getD k z) = false) : l7 nv na (d + 1) e = false := by
 rw [o5 hk] at h
 have : e.kids.all (l7 nv na d) = false := ag5 hk h
 simp [l7, this]
theorem aP9 (h1 : (e.kids.length : Int) = r8 e.kind) (h2 : ¬ e.value < 0) (h3 : ¬ ac4 nv na e.kind ≤ e.value) : ag6 nv na e = true := by
 unfold ag6; rw [decide_eq_true h1, decide_eq_true (by omega), decide_eq_true (by omega)]; rfl
theorem bl5 (hn : ag6 nv na e = true) (ha : e.kids.all (l7 nv na d) = true) (h : ¬ e.kind = 3) : l7 nv na (d + 1) e = true := by
 rw [l7, hn, ha]; simp [aZ1, h]
theorem bl4 (hn : ag6 nv na e = true) (ha : e.kids.all (l7 nv na d) = true) (h : e.kind = 3) (hl : 0 < e.kids.length) : l7 nv na (d + 1) e = P1 (e.kids.getD 0 aK4) := by
 rw [l7, hn, ha, a36 h hl, o5 hl]; simp [P1]
theorem aA5 (h1 : (e.kids.length : Int) = r8 e.kind) (h : e.kind = 3) : 0 < e.kids.length := by
 rw [h] at h1; simp [r8] at h1; omega
end
theorem aU3 (vs ars : List Int) (b : List c6) (e : c8) (n : Int) (hn : n = 0) : j5.ok Try.prog ⟨63, [.agg [.ref 0, .ref 1, .ref 2], .agg [.v (.int .i64 e.kind), .v (.int .i64 e.value), .ref 3], .v (.int .i64 n)], [.dat (.ints vs), .dat (.ints ars), .dat (.stmts b), .dat (.exprs e.kids)], [.dat (.ints vs), .dat (.ints ars), .dat (.stmts b), .dat (.exprs e.kids)], .v (.bool (l7 vs.length ars.length 0 e))⟩ := by
 have h100 : decide (n < 1) = true := by simp; omega
 refine F5 60 Try.func63 [dI vs, dI ars, dT b, dE e.kids] [(0, pA 0), (1, eA e 3), (2, iA n)] fun G => ?_; refine wp_seq (i7 G d8 [0, 1, 2, 3, 4, 12] [dI vs, dI ars, dT b, dE e.kids, .box (pL 0), .box (eL e 3)] [(2, iA n), (3, .ptr 4 0), (4, .ptr 5 0), (6, bA false)] fun G => b0 (wp_seq (wp_seq (bn2 G (E7 (fc (a := decide (n < 1)) (b := true) (by assumption) (fc (b := true) rfl fz)) (us [(3, 9, 0), (1010, 1010, 0), (12, 14, 1), (1015, 1015, 1), (17, 23, 1), (1024, 1024, 1)])) [0, 1, 3, 7, 15, 31, 7, 71, 199, 511, 1023, 2047, 4095, 8191, 16383, 32767, 65535, 131071, 262143, 131071, 131071, 1179647, 3801087, 8388607, 16777215] [(32, bA true)] fun G => b0 (rT G true (by kernel_rfl) (wp_seq (j7 G d8 [] fun G => b0 (wp_ret (n8 ?_))))))))); exact D8 G (rg 4)
theorem aU2 (vs ars : List Int) (b : List c6) (d : Nat) (hd : d ≤ 5) (ih : ∀ (e : c8) (n : Int), n = d → j5.ok Try.prog ⟨63, [.agg [.ref 0, .ref 1, .ref 2], .agg [.v (.int .i64 e.kind), .v (.int .i64 e.value), .ref 3], .v (.int .i64 n)], [.dat (.ints vs), .dat (.ints ars), .dat (.stmts b), .dat (.exprs e.kids)], [.dat (.ints vs), .dat (.ints ars), .dat (.stmts b), .dat (.exprs e.kids)], .v (.bool (l7 vs.length ars.length d e))⟩)
    (e : c8) (n : Int) (hn : n = (d + 1 : Nat)) : j5.ok Try.prog ⟨63, [.agg [.ref 0, .ref 1, .ref 2], .agg [.v (.int .i64 e.kind), .v (.int .i64 e.value), .ref 3], .v (.int .i64 n)], [.dat (.ints vs), .dat (.ints ars), .dat (.stmts b), .dat (.exprs e.kids)], [.dat (.ints vs), .dat (.ints ars), .dat (.stmts b), .dat (.exprs e.kids)], .v (.bool (l7 vs.length ars.length (d + 1) e))⟩ := by
  have h100 : decide (n < 1) = false := by simp; omega
  refine F5 60 Try.func63 [dI vs, dI ars, dT b, dE e.kids] [(0, pA 0), (1, eA e 3), (2, iA n)] fun G => ?_; refine wp_seq (i7 G d8 [0, 1, 2, 3, 4, 12] [dI vs, dI ars, dT b, dE e.kids, .box (pL 0), .box (eL e 3)] [(2, iA n), (3, .ptr 4 0), (4, .ptr 5 0), (6, bA false)] fun G => b0 (wp_seq (wp_seq ?_))); cases h0 : ((e.kids.length : Int) != r8 e.kind)
  ·
   have q0 := bne_eq_false_iff_eq.1 h0; cases h1 : (decide (e.value < 0))
   ·
    have q1 := T8 h1; refine bn2 G (K9 (A2 8 [] (aa9 e.kind) (A2 22 [0, 1, 2] (a65 vs ars b e.kind) K8)) (fc (a := decide (n < 1)) (b := false) (by assumption) (fc h0 (fc h1 fz))) (us [(3, 9, 0), (1010, 1010, 0), (12, 14, 1), (1015, 1015, 1), (17, 23, 2), (1024, 1024, 2)])) [0, 1, 3, 7, 15, 31, 7, 71, 199, 511, 1023, 2047, 4095, 8191, 16383, 32767, 65535, 131071, 262143, 131071, 131071, 1179647, 3801087, 8388607, 16777215] [(32, bA (decide (e.value ≥ ac4 vs.length ars.length e.kind)))] fun G => b0 (rcD G (fun h2 q2 => ?_) fun h2 q2 => ?_)
    ·
     refine wp_skip (b0 (wp_seq (wp_seq (D6 G d8 [(2, iA n), (3, .ptr 4 0), (4, .ptr 5 0), (6, bA false), (7, iA 0)] fun G => b0 (wp_block ?_))))); refine t6 (κ := Nat) (fun k => k ≤ e.kids.length ∧ (e.kids.take k).all (l7 vs.length ars.length d) = true) (fun k => e.kids.length - k) (fun k => [dI vs, dI ars, dT b, dE e.kids, .box (pL 0), .box (eL e 3)]) (fun k => [(2, iA n), (3, .ptr 4 0), (4, .ptr 5 0), (6, bA false), (7, iA k)]) 0 (by simp [h100, h0, h1, h2]) (s5.at G _ _) ?_; clear G; intro k ρ a w hp G; have hlen : e.kids.length ≤ 9223372036854775807 := G.len 3 (d := .exprs e.kids) (by kernel_rfl); have hnode := aP9 (nv := vs.length) (na := ars.length) q0 q1 q2; refine wp_seq (wp_seq (D6 G d8 [(2, iA n), (3, .ptr 4 0), (4, .ptr 5 0), (6, bA false), (7, iA k), (37, bA (decide ((k : Int) < e.kids.length)))] fun G => b0 (rcD G (fun h3 q3 => ?_) fun h3 q3 => ?_)))
     ·
      refine wp_exit (t3 (t3 (t2 (b0 (wp_seq ?_))))); cases h4 : (e.kind != 3)
      · have q4 := bne_eq_false_iff_eq.1 h4; refine G4 G (K9 (A2 8 [62] (au9 (e.kids.getD 0 aK4)) K8) (fc h4 fz) (us [(4, 8, 0), (1009, 1009, 0)])) (rg 4) [dI vs, dI ars, dT b, dE e.kids] [(6, bA (P1 (e.kids.getD 0 aK4)))] (iX 0 0 e.kids.length []) (iK (by have := aA5 q0 (by omega); omega) bS4) fun G => b0 (wp_ret ?_); exact I6 (P1 (e.kids.getD 0 aK4)) G (rg 4) (bl4 hnode (av6 hp.2 (by omega)) (by omega) (aA5 q0 (by omega)))
      · have q4 := bne_iff_ne.1 h4; refine i7 G (E7 (fc h4 fz) (us [(4, 8, 0), (1009, 1009, 0)])) (rg 4) [dI vs, dI ars, dT b, dE e.kids] [(6, bA true)] fun G => b0 (wp_ret ?_); exact I6 true G (rg 4) (bl5 hnode (av6 hp.2 (by omega)) (by omega))
     ·
      refine wp_skip (b0 (wp_seq (wp_block (wp_seq (aQ8 G (r7 8 [0, 1, 2, 46] (ih (e.kids.getD k aK4) (n - 1) (by omega))) [0, 0, 2, 0, 14, 30, 0, 64, 255, 511] [(49, .v (.bool !l7 vs.length ars.length d (e.kids.getD k aK4)))] (iX k k e.kids.length ((wO (n - 1)) :: [])) (iK (by omega) (o1 (by omega))) fun G => b0 ?_))))); cases h5 : (!l7 vs.length ars.length d (e.kids.getD k aK4))
      · have q5 : (l7 vs.length ars.length d (e.kids.getD k aK4)) = true := (Eq.mp (bV2 _) h5); refine rF G _ h5 (wp_skip (i8 (b0 (A0 G d8 [(7, iA ((k : Int) + 1))] [wO ((k : Int) + 1)] (o1 (by omega)) fun G => b0 ?_)))); exact H9 G (k + 1) (⟨by omega, aO6 hp.2 (by omega) (by assumption)⟩) (by omega) (rg 6)
      · have q5 : (l7 vs.length ars.length d (e.kids.getD k aK4)) = false := (Eq.mp (bT6 _) h5); refine rT G _ h5 (wp_seq (j7 G d8 [] fun G => b0 (wp_ret (C9 (n8 (n8 (C9 (n8 ?_)))))))); exact I6 false G (rg 4) (bl6 (k := k) (by omega) (by assumption))
    · refine wp_seq (j7 G d8 [] fun G => b0 (wp_ret (n8 ?_))); exact I6 false G (rg 4) (bl7 (by omega))
   · have q1 := T7 h1; refine bn2 G (K9 (A2 8 [] (aa9 e.kind) K8) (fc (a := decide (n < 1)) (b := false) (by assumption) (fc h0 (fc h1 fz))) (us [(3, 9, 0), (1010, 1010, 0), (12, 14, 1), (1015, 1015, 1), (17, 23, 2), (1024, 1024, 2)])) [0, 1, 3, 7, 15, 31, 7, 71, 199, 511, 1023, 2047, 4095, 8191, 16383, 32767, 65535, 131071, 262143, 131071, 131071, 1179647, 3801087, 8388607, 16777215] [(32, bA true)] fun G => b0 (rT G true (by kernel_rfl) (wp_seq (j7 G d8 [] fun G => b0 (wp_ret (n8 ?_))))); exact I6 false G (rg 4) (bl8 (by omega))
  · have q0 := bne_iff_ne.1 h0; refine bn2 G (K9 (A2 8 [] (aa9 e.kind) K8) (fc (a := decide (n < 1)) (b := false) (by assumption) (fc h0 (fc (b := true) rfl fz))) (us [(3, 9, 0), (1010, 1010, 0), (12, 14, 1), (1015, 1015, 1), (17, 23, 2), (1024, 1024, 2)])) [0, 1, 3, 7, 15, 31, 7, 71, 199, 511, 1023, 2047, 4095, 8191, 16383, 32767, 65535, 131071, 262143, 131071, 131071, 1179647, 3801087, 8388607, 16777215] [(32, bA true)] fun G => b0 (rT G true (by kernel_rfl) (wp_seq (j7 G d8 [] fun G => b0 (wp_ret (n8 ?_))))); exact I6 false G (rg 4) (bl9 (by omega))
theorem aK9 (vs ars : List Int) (b : List c6) : ∀ (d : Nat), d ≤ 5 → ∀ (e : c8) (n : Int), n = d → j5.ok Try.prog ⟨63, [.agg [.ref 0, .ref 1, .ref 2], .agg [.v (.int .i64 e.kind), .v (.int .i64 e.value), .ref 3], .v (.int .i64 n)], [.dat (.ints vs), .dat (.ints ars), .dat (.stmts b), .dat (.exprs e.kids)], [.dat (.ints vs), .dat (.ints ars), .dat (.stmts b), .dat (.exprs e.kids)], .v (.bool (l7 vs.length ars.length d e))⟩
 | 0, _, e, n, hn => aU3 vs ars b e n (by omega)
 | d + 1, hd, e, n, hn => aU2 vs ars b d (by omega) (aK9 vs ars b d (by omega)) e n hn
theorem au8 (vs ars : List Int) (b : List c6) (ky vy : Int) (ks : List c8) (n : Int) (hn : n = 5) : j5.ok Try.prog (X8 63 [pA 0, .agg [iA ky, iA vy, .ref 3], iA n] [dI vs, dI ars, dT b, dE ks] (bA (l7 vs.length ars.length 5 ⟨ky, vy, ks⟩))) := aK9 vs ars b 5 (by omega) ⟨ky, vy, ks⟩ n hn
def cnP (d : Nat) (ks : List c8) (k : Nat) : Nat := 1 + ((ks.take k).map (X7 d)).sum
theorem bI0 (d : Nat) (ks : List c8) : cnP d ks 0 = 1 := rfl
theorem aN0 {d : Nat} {ks : List c8} {k : Nat} (hk : k < ks.length) : cnP d ks (k + 1) = cnP d ks k + X7 d (ks.getD k aK4) := by
 unfold cnP
 rw [S6 ks k hk, List.map_append, List.sum_append, o5 hk]
 simp; omega
theorem bq3 {d : Nat} {e : c8} {k : Nat} (hk : e.kids.length ≤ k) : cnP d e.kids k = X7 (d + 1) e := by
 unfold cnP; rw [bT9 hk, X7]
section
variable {nv na d : Nat} {e : c8}
theorem aT6 (he : l7 nv na (d + 1) e = true) {k : Nat} (hk : k < e.kids.length) : l7 nv na d (e.kids.getD k aK4) = true := by
 rw [o5 hk]; exact (ae2 he).2 _ (bS9 hk)
theorem bH9 (hd : d ≤ 5) (he : l7 nv na d e = true) : X7 d e ≤ 1024 := by
 rw [aM9 nv na d e he]
 refine bT4 (ba3 nv na d e he) ?_
 exact bT4 (Nat.pow_le_pow_right (by decide) hd) (by decide)
theorem bu4 (hd : d ≤ 4) (he : l7 nv na (d + 1) e = true) : ∀ k : Nat, k ≤ e.kids.length → cnP d e.kids k ≤ 1 + 1024 * k
 | 0, _ => by rw [bI0]; omega
 | k + 1, hk => by
  have h := bu4 hd he k (by omega)
  have h2 := bH9 (by omega) (aT6 he (show k < e.kids.length by omega))
  rw [aN0 (by omega)]
  omega
end
abbrev cnC (d : Nat) (e : c8) (n : Int) : j5 := X8 64 [eA e 0, iA n] (eS e) (iA (X7 d e : Nat))
theorem a33 (nv na d : Nat) (hd : d ≤ 4) (ih : ∀ (e : c8), l7 nv na d e = true → ∀ n : Int, n = d → j5.ok Try.prog (cnC d e n)) (e : c8) (he : l7 nv na (d + 1) e = true) (n : Int) (hn : n = (d + 1 : Nat)) : j5.ok Try.prog (cnC (d + 1) e n) := by
  have hk3 := (ae2 he).1; refine F5 29 Try.func64 [dE e.kids] [(0, eA e 0), (1, iA n)] fun G => ?_; refine wp_seq (i7 G d8 [0, 1] [dE e.kids, .box (eL e 0)] [(1, iA n), (2, .ptr 1 0), (4, iA 0)] fun G => b0 (wp_seq (j7 G d8 [(5, iA 1)] fun G => b0 (wp_seq (wp_seq (D6 G d8 [(1, iA n), (2, .ptr 1 0), (4, iA 0), (5, iA 1), (6, iA 0)] fun G => b0 (wp_block ?_))))))); refine t6 (κ := Nat) (fun k => k ≤ e.kids.length) (fun k => e.kids.length - k) (fun k => [dE e.kids, .box (eL e 0)]) (fun k => [(1, iA n), (2, .ptr 1 0), (4, iA 0), (5, iA (cnP d e.kids k : Nat)), (6, iA k)]) 0 (by omega) (s5.at G _ _) ?_; clear G; intro k ρ a w hp G; replace G := s5.at G [dE e.kids, .box (eL e 0)] [(1, iA n), (2, .ptr 1 0), (4, iA 0), (5, iA (↑(cnP d e.kids k) : Int)), (6, iA k)]; have hcb := bu4 hd he k hp; refine wp_seq (wp_seq ?_); cases h0 : (decide ((k : Int) < e.kids.length))
  · have q0 := T8 h0; refine j7 G (E7 (fc h0 fz) [(6, 0), (7, 0), (1008, 0)]) [(15, bA false)] fun G => b0 (rF G false (by kernel_rfl) (wp_exit (t3 (t3 (t2 (b0 (wp_seq (i7 G d8 [0] [dE e.kids] [(4, iA (↑(cnP d e.kids k) : Int))] fun G => b0 (wp_ret ?_))))))))); exact rxI ((↑(cnP d e.kids k) : Int)) G [0] (by rw [← bq3 (k := k) (by omega)]; done)
  ·
   have q0 := T7 h0; refine D6 G (E7 (fc h0 fz) [(6, 0), (7, 0), (1008, 0)]) [(1, iA n), (2, .ptr 1 0), (4, iA 0), (5, iA (↑(cnP d e.kids k) : Int)), (6, iA k), (15, bA (decide (n > 0)))] fun G => b0 ?_; cases h1 : (decide (n > 0))
   · have q1 := T8 h1; exact False.elim (by omega)
   · have q1 := T7 h1; refine rT G _ h1 (wp_skip (b0 (wp_seq (wp_block (A0 G (r7 8 [42] (ih (e.kids.getD k aK4) (aT6 he (by omega)) (n - 1) (by omega))) [(5, iA ((↑(cnP d e.kids k) : Int) + (↑(X7 d (e.kids.getD k aK4)) : Int)))] (iX k k e.kids.length ((wO (n - 1)) :: ((wO ((↑(cnP d e.kids k) : Int) + (↑(X7 d (e.kids.getD k aK4)) : Int))) :: []))) (iK (by omega) ⟨oW (by omega), ⟨(by have h9 := bH9 (nv := nv) (na := na) (d := d) (by omega) (aT6 he (show k < e.kids.length by omega)); exact w64 (by omega) (by omega)), bS4⟩⟩) fun G => i8 (b0 (A0 G d8 [(6, iA ((k : Int) + 1))] [wO ((k : Int) + 1)] (o1 (by omega)) fun G => b0 ?_))))))); exact H9 G (k + 1) (by omega) (by omega) [0, 1] (ht := by have e1 : ((↑(cnP d e.kids (k + 1)) : Int) : Int) = ((↑(cnP d e.kids k) : Int) + (↑(X7 d (e.kids.getD k aK4)) : Int)) := (by rw [aN0 (by omega)]; omega); (first | rw [e1] | simp only [e1]) <;> rfl)
theorem aL0 (nv na : Nat) : ∀ (d : Nat), d ≤ 5 → ∀ (e : c8), l7 nv na d e = true → ∀ n : Int, n = d → j5.ok Try.prog (cnC d e n)
 | 0, _, e, h, _, _ => by simp [l7] at h
 | d + 1, hd, e, h, n, hn => a33 nv na d (by omega) (aL0 nv na d (by omega)) e h n hn
theorem aU5 (nv na : Nat) (ky vy : Int) (ks : List c8) (n : Int) (hn : n = 5) (h : l7 nv na 5 ⟨ky, vy, ks⟩ = true) : j5.ok Try.prog (X8 64 [.agg [iA ky, iA vy, .ref 0], iA n] [dE ks] (iA (X7 5 ⟨ky, vy, ks⟩ : Nat))) := aL0 nv na 5 (by omega) ⟨ky, vy, ks⟩ h n hn
theorem bM0 {nv na : Nat} {e : c8} (h : l7 nv na 5 ⟨e.kind, e.value, e.kids⟩ = false) : n9 nv na e = false := by
 rw [c8.eta] at h
 unfold n9; rw [h]; rfl
theorem bL9 {nv na : Nat} {e : c8} (h : l7 nv na 5 ⟨e.kind, e.value, e.kids⟩ = true) : n9 nv na e = decide ((X7 5 ⟨e.kind, e.value, e.kids⟩ : Int) ≤ 15) := by
 rw [c8.eta] at h ⊢
 rw [aQ5, h, Bool.true_and, bT5]
 simp only [decide_eq_true_eq]; omega
section
variable {s : c6}
theorem bN1 (h : s.kind = 4) (h2 : ¬ (s.els.length : Int) = 0) : n4 s = false := by
 unfold n4; rw [if_pos (.inr h), if_pos h, decide_eq_false (p := s.els.length = 0) (by omega)]; simp
theorem bN4 (h : s.kind = 4) (h1 : s.target = 0) (h2 : (s.els.length : Int) = 0) (h3 : s.count ≥ 1) (h4 : s.count ≤ 3) (h5 : noneB s.index = true) : n4 s = noneB s.value := by
 unfold n4; rw [if_pos (.inr h), if_pos h, decide_eq_true (p := s.els.length = 0) (by omega), decide_eq_true h1, decide_eq_true (p := 1 ≤ s.count) h3, decide_eq_true h4, h5]; simp
theorem bN3 (h3 : ¬ s.kind = 3) (h4 : ¬ s.kind = 4) (b : ¬ (s.body.length : Int) > 0) (e : ¬ (s.els.length : Int) > 0) (c : s.count = 0) (h2 : ¬ s.kind = 2) : n4 s = noneB s.index := by
 unfold n4; rw [if_neg (by omega), decide_eq_true (p := s.body.length = 0) (by omega), decide_eq_true (p := s.els.length = 0) (by omega), decide_eq_true c, decide_eq_false h2]; simp
theorem bN2 (b : ¬ (s.body.length : Int) > 0) (e : ¬ (s.els.length : Int) > 0) (c : s.count = 0) (h2 : s.kind = 2) : n4 s = true := by
 unfold n4; rw [if_neg (by omega), decide_eq_true (p := s.body.length = 0) (by omega), decide_eq_true (p := s.els.length = 0) (by omega), decide_eq_true c, decide_eq_true h2]; simp
theorem bN0 (h3 : ¬ s.kind = 3) (h4 : ¬ s.kind = 4) (e : (s.els.length : Int) > 0) : n4 s = false := by
 unfold n4; rw [if_neg (by omega), decide_eq_false (p := s.els.length = 0) (by omega)]; simp
theorem bM9 (h3 : ¬ s.kind = 3) (h4 : ¬ s.kind = 4) (e : (s.body.length : Int) > 0) : n4 s = false := by
 unfold n4; rw [if_neg (by omega), decide_eq_false (p := s.body.length = 0) (by omega)]; simp
end
theorem F3 (p : j8) (e : c8) : j5.ok Try.prog (X8 31 [pA 0, eA e 3] (pS p ++ eS e) (bA (n9 p.vars.length p.arrays.length e))) := by
 have hcn := fun h => aU5 p.vars.length p.arrays.length e.kind e.value e.kids 5 rfl h
 refine F5 13 Try.func31 [dI p.vars, dI p.arrays, dT p.body, dE e.kids] [(0, pA 0), (1, eA e 3)] fun G => ?_; refine wp_seq (i7 G d8 [0, 1, 2, 3, 4, 12] [dI p.vars, dI p.arrays, dT p.body, dE e.kids, .box (pL 0), .box (eL e 3)] [(2, .ptr 4 0), (3, .ptr 5 0), (4, bA false)] fun G => b0 (wp_seq ?_)); cases h0 : (l7 p.vars.length p.arrays.length (5 : Nat) (qzE e))
 ·refine i7 G (K9 (A2 2 (rg 4) (au8 p.vars p.arrays p.body e.kind e.value e.kids 5 (by kernel_rfl)) K8) (fc h0 fz) [(4, 0), (5, 0), (6, 0), (1007, 0)]) (rg 4) [dI p.vars, dI p.arrays, dT p.body, dE e.kids] [(4, bA false)] fun G => b0 (wp_ret ?_); exact I6 false G (rg 4) (bM0 (by with_reducible assumption))
 ·refine i7 G (K9 (A2 2 (rg 4) (au8 p.vars p.arrays p.body e.kind e.value e.kids 5 (by kernel_rfl)) (A2 5 [3] (hcn (by assumption)) K8)) (fc h0 fz) [(4, 0), (5, 0), (6, 0), (1007, 0)]) (rg 4) [dI p.vars, dI p.arrays, dT p.body, dE e.kids] [(4, bA (decide ((↑(X7 5 (qzE e)) : Int) ≤ 15)))] fun G => b0 (wp_ret ?_); exact I6 (decide ((↑(X7 5 (qzE e)) : Int) ≤ 15)) G (rg 4) (bL9 (by with_reducible assumption))
abbrev ao5 (s : c6) (r0 : List It) : List It := dE s.index.kids :: dE s.value.kids :: dT s.body :: dT s.els :: r0
theorem a64 (s : c6) : j5.ok Try.prog (X8 140 [sA s 0] (sS s) (bA (n4 s))) := by
  refine F5 74 Try.func140 (ao5 s []) [(0, sA s 0)] fun G => ?_; refine wp_seq (i7 G d8 (rg 5) (ao5 s [.box (sL s 0)]) [(1, .ptr 4 0), (2, bA false)] fun G => b0 (wp_seq ?_)); cases h0 : (s.kind == 3)
  ·
   have q0 := ne_of_beq_false h0; refine D6 G (E7 (fc h0 fz) [(4, 0), (5, 0), (6, 0), (1007, 0)]) [(1, .ptr 4 0), (2, bA false), (3, bA (s.kind == 4))] fun G => b0 (wp_seq (wp_seq ?_)); cases h1 : (!s.kind == 4)
   ·
    have q1 : s.kind = 4 := (fun hq => eq_of_beq hq) (Eq.mp (bV2 _) h1); cases h2 : (s.kind == 4)
    · have q2 := ne_of_beq_false h2; exact False.elim (by omega)
    ·
     have q2 := eq_of_beq h2; refine j7 G (E7 (fc h1 (fc (b := false) rfl (fc h2 fz))) (us [(3, 7, 0), (12, 12, 0), (1013, 1013, 0), (15, 16, 1), (17, 19, 2), (20, 20, 1), (1020, 1020, 2), (1021, 1021, 1)])) [(33, bA (s.target != 0))] fun G => b0 (rcN G (fun h3 q3 => ?_) fun h3 q3 => ?_)
     ·
      refine wp_skip (b0 (wp_seq (wp_seq (j7 G d8 [(36, bA (s.kind == 4))] fun G => b0 (rT G _ h2 (wp_seq ?_)))))); cases h4 : ((s.els.length : Int) == 0)
      · have q4 := ne_of_beq_false h4; refine j7 G (E7 (fc h4 (fc (b := false) rfl fz)) (us [(5, 7, 0), (1008, 1008, 0), (10, 12, 1), (1013, 1013, 1), (15, 17, 1), (1018, 1018, 1), (20, 22, 1), (1023, 1023, 1)])) [] fun G => b0 (wp_ret (n8 ?_)); exact I6 false G (rg 4) (bN1 (by omega) (by omega))
      ·
       have q4 := eq_of_beq h4; cases h5 : (decide (s.count ≥ 1))
       · have q5 := T8 h5; refine j7 G (E7 (fc h4 (fc h5 (fc (b := false) rfl fz))) (us [(5, 7, 0), (1008, 1008, 0), (10, 12, 1), (1013, 1013, 1), (15, 17, 2), (1018, 1018, 2), (20, 22, 2), (1023, 1023, 2)])) [] fun G => b0 (wp_ret (n8 ?_)); exact I6 false G (rg 4) (by rw [bT5]; simp [n4, h0, q0, h1, q1, h2, q2, h3, q3, h4, q4, h5, q5]; done)
       ·
        have q5 := T7 h5; cases h6 : (decide (s.count ≤ 3))
        · have q6 := T8 h6; refine j7 G (E7 (fc h4 (fc h5 (fc h6 (fc (b := false) rfl fz)))) (us [(5, 7, 0), (1008, 1008, 0), (10, 12, 1), (1013, 1013, 1), (15, 17, 2), (1018, 1018, 2), (20, 22, 3), (1023, 1023, 3)])) [] fun G => b0 (wp_ret (n8 ?_)); exact I6 false G (rg 4) (by rw [bT5]; simp [n4, h0, q0, h1, q1, h2, q2, h3, q3, h4, q4, h5, q5, h6, q6]; done)
        ·
         have q6 := T7 h6; cases h7 : (noneB s.index)
         · refine j7 G (K9 (A2 17 [0] (Z6 s.index) K8) (fc h4 (fc h5 (fc h6 (fc h7 fz)))) (us [(5, 7, 0), (1008, 1008, 0), (10, 12, 1), (1013, 1013, 1), (15, 17, 2), (1018, 1018, 2), (20, 22, 3), (1023, 1023, 3)])) [] fun G => b0 (wp_ret (n8 ?_)); exact I6 false G (rg 4) (by rw [bT5]; simp [n4, h0, q0, h1, q1, h2, q2, h3, q3, h4, q4, h5, q5, h6, q6, h7]; done)
         · refine j7 G (K9 (A2 17 [0] (Z6 s.index) (A2 22 [1] (Z6 s.value) K8)) (fc h4 (fc h5 (fc h6 (fc h7 fz)))) (us [(5, 7, 0), (1008, 1008, 0), (10, 12, 1), (1013, 1013, 1), (15, 17, 2), (1018, 1018, 2), (20, 22, 3), (1023, 1023, 3)])) [(2, bA (noneB s.value))] fun G => b0 (wp_ret (n8 ?_)); exact I6 (noneB s.value) G (rg 4) (bN4 (by omega) (by omega) (by omega) (by omega) (by omega) (by with_reducible assumption))
     · refine wp_seq (j7 G d8 [] fun G => b0 (wp_ret (n8 ?_))); exact I6 false G (rg 4) (by rw [bT5]; simp [n4, h0, q0, h1, q1, h2, q2, h3, q3]; done)
   ·
    have q1 : ¬ (s.kind = 4) := (fun hq => ne_of_beq_false hq) (Eq.mp (bT6 _) h1); cases h8 : (decide ((s.body.length : Int) > 0))
    ·
     have q8 := T8 h8; cases h9 : (decide ((s.els.length : Int) > 0))
     ·
      have q9 := T8 h9; cases h10 : (s.kind == 4)
      ·
       have q10 := ne_of_beq_false h10; refine j7 G (E7 (fc h1 (fc h8 (fc h9 (fc h10 fz)))) (us [(3, 7, 0), (8, 11, 1), (12, 12, 0), (1012, 1012, 1), (1013, 1013, 0), (15, 16, 2), (17, 19, 3), (20, 20, 2), (1020, 1020, 3), (1021, 1021, 2)])) [(33, bA false)] fun G => b0 (rF G false (by kernel_rfl) (wp_skip (b0 (wp_seq (wp_seq (j7 G d8 [(36, bA (s.kind == 4))] fun G => b0 (rF G _ h10 (wp_skip (b0 (wp_seq ?_)))))))))); cases h11 : (s.count == 0)
       · have q11 := ne_of_beq_false h11; refine i7 G (E7 (fc h11 fz) (us [(4, 7, 0), (11, 11, 0), (1012, 1012, 0)])) (rg 4) (ao5 s []) [(2, bA false)] fun G => b0 (wp_ret ?_); exact I6 false G (rg 4) (by rw [bT5]; simp [n4, h0, q0, h1, q1, h8, q8, h9, q9, h10, q10, h11, q11]; done)
       ·
        have q11 := eq_of_beq h11; cases h12 : (s.kind == 2)
        · have q12 := ne_of_beq_false h12; refine i7 G (K9 (A2 10 [0] (Z6 s.index) K8) (fc h11 (fc h12 fz)) (us [(4, 7, 0), (8, 10, 1), (11, 11, 0), (1011, 1011, 1), (1012, 1012, 0)])) (rg 4) (ao5 s []) [(2, bA (noneB s.index))] fun G => b0 (wp_ret ?_); exact I6 (noneB s.index) G (rg 4) (bN3 (by omega) (by omega) (by omega) (by omega) (by omega) (by omega))
        · have q12 := eq_of_beq h12; refine i7 G (E7 (fc h11 (fc h12 fz)) (us [(4, 7, 0), (8, 10, 1), (11, 11, 0), (1011, 1011, 1), (1012, 1012, 0)])) (rg 4) (ao5 s []) [(2, bA true)] fun G => b0 (wp_ret ?_); exact I6 true G (rg 4) (bN2 (by omega) (by omega) (by omega) (by omega))
      · have q10 := eq_of_beq h10; exact False.elim (by omega)
     · have q9 := T7 h9; refine j7 G (E7 (fc h1 (fc h8 (fc h9 fz))) (us [(3, 7, 0), (8, 11, 1), (12, 12, 0), (1012, 1012, 1), (1013, 1013, 0), (15, 16, 2), (20, 20, 2), (1021, 1021, 2)])) [(33, bA true)] fun G => b0 (rT G true (by kernel_rfl) (wp_seq (j7 G d8 [] fun G => b0 (wp_ret (n8 ?_))))); exact I6 false G (rg 4) (bN0 (by omega) (by omega) (by omega))
    · have q8 := T7 h8; refine j7 G (E7 (fc h1 (fc h8 (fc (b := true) rfl fz))) (us [(3, 7, 0), (8, 11, 1), (12, 12, 0), (1012, 1012, 1), (1013, 1013, 0), (15, 16, 2), (20, 20, 2), (1021, 1021, 2)])) [(33, bA true)] fun G => b0 (rT G true (by kernel_rfl) (wp_seq (j7 G d8 [] fun G => b0 (wp_ret (n8 ?_))))); exact I6 false G (rg 4) (bM9 (by omega) (by omega) (by omega))
  ·
   have q0 := eq_of_beq h0; refine j7 G (E7 (fc h0 fz) [(4, 0), (5, 0), (6, 0), (1007, 0)]) [(3, bA true)] fun G => b0 (wp_seq (wp_seq (j7 G (E7 (fc (b := false) rfl (fc (b := true) rfl fz)) (us [(3, 7, 0), (12, 12, 0), (1013, 1013, 0), (15, 16, 0), (17, 19, 1), (20, 20, 0), (1020, 1020, 1), (1021, 1021, 0)])) [(33, bA (s.target != 0))] fun G => b0 (rcN G (fun h13 q13 => ?_) fun h13 q13 => ?_))))
   ·
    refine wp_skip (b0 (wp_seq (wp_seq (D6 G d8 [(1, .ptr 4 0), (2, bA false), (36, bA (s.kind == 4))] fun G => b0 ?_)))); cases h14 : (s.kind == 4)
    ·
     have q14 := ne_of_beq_false h14; refine rF G _ h14 (wp_skip (b0 (wp_seq ?_))); cases h15 : (s.count == 0)
     · have q15 := ne_of_beq_false h15; refine i7 G (E7 (fc h15 fz) (us [(4, 7, 0), (11, 11, 0), (1012, 1012, 0)])) (rg 4) (ao5 s []) [(2, bA false)] fun G => b0 (wp_ret ?_); exact I6 false G (rg 4) (by rw [bT5]; simp [n4, h0, q0, h13, q13, h14, q14, h15, q15]; done)
     ·
      have q15 := eq_of_beq h15; cases h16 : (s.kind == 2)
      · have q16 := ne_of_beq_false h16; refine i7 G (K9 (A2 10 [0] (Z6 s.index) K8) (fc h15 (fc h16 fz)) (us [(4, 7, 0), (8, 10, 1), (11, 11, 0), (1011, 1011, 1), (1012, 1012, 0)])) (rg 4) (ao5 s []) [(2, bA (noneB s.index))] fun G => b0 (wp_ret ?_); exact I6 (noneB s.index) G (rg 4) (by rw [bT5]; simp [n4, h0, q0, h13, q13, h14, q14, h15, q15, h16, q16]; done)
      · have q16 := eq_of_beq h16; exact False.elim (by omega)
    · have q14 := eq_of_beq h14; exact False.elim (by omega)
   · refine wp_seq (j7 G d8 [] fun G => b0 (wp_ret (n8 ?_))); exact I6 false G (rg 4) (by rw [bT5]; simp [n4, h0, q0, h13, q13]; done)
abbrev vbC (p : j8) (d : Nat) (ss : List c6) (n : Int) : j5 := X8 99 [pA 0, .ref 3, iA n] (pS p ++ [dT ss]) (bA (ss.all (l6 p.vars.length p.arrays.length d)))
abbrev vsC (p : j8) (d : Nat) (s : c6) (n : Int) : j5 := X8 131 [pA 0, sA s 3, iA n] (pS p ++ sS s) (bA (l6 p.vars.length p.arrays.length d s))
theorem a32 (p : j8) (s : c6) (n : Int) (hn : n = 0) : j5.ok Try.prog (vsC p 0 s n) := by
 refine F5 96 Try.func131 [dI p.vars, dI p.arrays, dT p.body, dE s.index.kids, dE s.value.kids, dT s.body, dT s.els] [(0, pA 0), (1, sA s 3), (2, iA n)] fun G => ?_; refine wp_seq (i7 G d8 [0, 1, 2, 3, 4, 5, 6, 7, 15] [dI p.vars, dI p.arrays, dT p.body, dE s.index.kids, dE s.value.kids, dT s.body, dT s.els, .box (pL 0), .box (sL s 3)] [(2, iA n), (3, .ptr 7 0), (4, .ptr 8 0), (6, bA false)] fun G => b0 (wp_seq (wp_seq ?_))); cases h0 : (decide (n < 1))
 ·have q0 := T8 h0; exact False.elim (by omega)
 ·have q0 := T7 h0; refine j7 G (E7 (fc h0 fz) [(3, 0), (4, 0), (5, 0), (1006, 0)]) [(13, bA true)] fun G => b0 (rT G true (by kernel_rfl) (wp_seq (j7 G d8 [] fun G => b0 (wp_ret (n8 ?_))))); exact D8 G (rg 7)
section
variable {nv na d : Nat} {s : c6}
theorem bL4 (h : n4 s = false) : l6 nv na (d + 1) s = false := by rw [l6, h]; rfl
theorem bw0 (hp : n4 s = true) (h : s.kind = 1 ∨ s.kind = 5) : l6 nv na (d + 1) s = (decide (0 ≤ s.target) && decide (s.target < nv) && n9 nv na s.value) := by rw [l6, hp, if_pos h]; rfl
theorem ba0 (hp : n4 s = true) (h : s.kind = 2) : l6 nv na (d + 1) s = (decide (0 ≤ s.target) && decide (s.target < na) && n9 nv na s.index && P1 s.index && n9 nv na s.value) := by rw [l6, hp, if_neg (by omega), if_pos h]; rfl
theorem bv9 (hp : n4 s = true) (h : s.kind = 3) : l6 nv na (d + 1) s = (n9 nv na s.value && s.body.all (l6 nv na d) && s.els.all (l6 nv na d)) := by rw [l6, hp, if_neg (by omega), if_neg (by omega), if_pos h]; rfl
theorem bL5 (hp : n4 s = true) (h : s.kind = 4) : l6 nv na (d + 1) s = s.body.all (l6 nv na d) := by rw [l6, hp, if_neg (by omega), if_neg (by omega), if_neg (by omega), if_pos h]; rfl
theorem bs7 (hp : n4 s = true) (h : s.kind = 1 ∨ s.kind = 5) (q : ¬ s.target ≥ 0) : l6 nv na (d + 1) s = false := by rw [bw0 hp h, decide_eq_false (p := 0 ≤ s.target) q]; rfl
theorem bs6 (hp : n4 s = true) (h : s.kind = 1 ∨ s.kind = 5) (q : ¬ s.target < (nv : Int)) : l6 nv na (d + 1) s = false := by rw [bw0 hp h, decide_eq_false q, Bool.and_false]; rfl
theorem bs5 (hp : n4 s = true) (h : s.kind = 1 ∨ s.kind = 5) (q : s.target ≥ 0) (r : s.target < (nv : Int)) : l6 nv na (d + 1) s = n9 nv na s.value := by rw [bw0 hp h, decide_eq_true (p := 0 ≤ s.target) q, decide_eq_true r]; rfl
theorem bD2 (hp : n4 s = true) (h : s.kind = 2) (q : ¬ s.target ≥ 0) : l6 nv na (d + 1) s = false := by rw [ba0 hp h, decide_eq_false (p := 0 ≤ s.target) q]; rfl
theorem bD1 (hp : n4 s = true) (h : s.kind = 2) (q : ¬ s.target < (na : Int)) : l6 nv na (d + 1) s = false := by rw [ba0 hp h, decide_eq_false q, Bool.and_false]; rfl
theorem bD0 (hp : n4 s = true) (h : s.kind = 2) (q : n9 nv na s.index = false) : l6 nv na (d + 1) s = false := by rw [ba0 hp h, q, Bool.and_false]; rfl
theorem bC9 (hp : n4 s = true) (h : s.kind = 2) (q : P1 s.index = false) : l6 nv na (d + 1) s = false := by rw [ba0 hp h, q, Bool.and_false]; rfl
theorem bC8 (hp : n4 s = true) (h : s.kind = 2) (q : s.target ≥ 0) (r : s.target < (na : Int)) (u : n9 nv na s.index = true) (v : P1 s.index = true) : l6 nv na (d + 1) s = n9 nv na s.value := by rw [ba0 hp h, decide_eq_true (p := 0 ≤ s.target) q, decide_eq_true r, u, v]; rfl
theorem bC7 (hp : n4 s = true) (h : s.kind = 3) (q : n9 nv na s.value = false) : l6 nv na (d + 1) s = false := by rw [bv9 hp h, q]; rfl
theorem bC6 (hp : n4 s = true) (h : s.kind = 3) (q : s.body.all (l6 nv na d) = false) : l6 nv na (d + 1) s = false := by rw [bv9 hp h, q, Bool.and_false]; rfl
theorem bC5 (hp : n4 s = true) (h : s.kind = 3) (q : n9 nv na s.value = true) (r : s.body.all (l6 nv na d) = true) : l6 nv na (d + 1) s = s.els.all (l6 nv na d) := by rw [bv9 hp h, q, r]; rfl
theorem bL6 (h1 : ¬ s.kind = 1) (h2 : ¬ s.kind = 2) (h3 : ¬ s.kind = 3) (h4 : ¬ s.kind = 4) (h5 : ¬ s.kind = 5) : l6 nv na (d + 1) s = false := by rw [l6, if_neg (by omega), if_neg h2, if_neg h3, if_neg h4]; simp
end
abbrev L0 (p : j8) (s : c6) (r0 : List It) : List It := dI p.vars :: dI p.arrays :: dT p.body :: dE s.index.kids :: dE s.value.kids :: dT s.body :: dT s.els :: r0
theorem bb6 (p : j8) (d : Nat) (hB : ∀ (ss : List c6) (n : Int), n = d → j5.ok Try.prog (vbC p d ss n)) (s : c6) (n : Int) (hn : n = (d + 1 : Nat)) (hd : d ≤ 5) : j5.ok Try.prog (vsC p (d + 1) s n) := by
  refine F5 96 Try.func131 (L0 p s []) [(0, pA 0), (1, sA s 3), (2, iA n)] fun G => ?_; refine wp_seq (i7 G d8 [0, 1, 2, 3, 4, 5, 6, 7, 15] (L0 p s [.box (pL 0), .box (sL s 3)]) [(2, iA n), (3, .ptr 7 0), (4, .ptr 8 0), (6, bA false)] fun G => b0 (wp_seq (wp_seq ?_))); cases h0 : (decide (n < 1))
  ·
   have q0 := T8 h0; refine j7 G (K9 (A2 4 [3, 4, 5, 6] (a64 s) K8) (fc h0 fz) [(3, 0), (4, 0), (5, 0), (1006, 0)]) [(13, .v (.bool !n4 s))] fun G => b0 ?_; cases h1 : (!n4 s)
   ·
    have q1 : (n4 s) = true := (Eq.mp (bV2 _) h1); refine rF G _ h1 (wp_skip (b0 (wp_seq (wp_seq (j7 G d8 [(15, iA s.kind)] fun G => b0 (wp_block (wp_seq (wp_seq (j7 G d8 [(16, bA (s.kind == 1))] fun G => b0 (H6 G (fun h2 q2 => ?_) fun h2 q2 => ?_))))))))))
    ·
     refine j7 G d8 [(16, bA (s.kind == 5))] fun G => b0 (H6 G (fun h3 q3 => ?_) fun h3 q3 => ?_)
     ·
      refine wp_seq (j7 G d8 [(36, bA (s.kind == 2))] fun G => b0 (H6 G (fun h4 q4 => ?_) fun h4 q4 => ?_))
      ·
       refine wp_seq (j7 G d8 [(66, bA (s.kind == 3))] fun G => b0 (H6 G (fun h5 q5 => ?_) fun h5 q5 => ?_))
       ·
        refine wp_seq (j7 G d8 [(88, bA (s.kind == 4))] fun G => b0 (H6 G (fun h6 q6 => ?_) fun h6 q6 => ?_))
        · refine wp_skip (i8 (b0 (wp_seq (i7 G d8 (rg 7) (L0 p s []) [(6, bA false)] fun G => b0 (wp_ret ?_))))); exact I6 false G (rg 7) (bL6 (by omega) (by omega) (by omega) (by omega) (by omega))
        · refine wp_seq (G4 G (r7 5 [0, 1, 2, 5] (hB s.body (n - 1) (by omega))) (rg 7) (L0 p s []) [(6, bA (s.body.all (l6 p.vars.length p.arrays.length d)))] [wO (n - 1)] (o1 (by omega)) fun G => b0 (wp_ret (C9 (n8 ?_)))); exact I6 (s.body.all (l6 p.vars.length p.arrays.length d)) G (rg 7) (bL5 (by with_reducible assumption) (by omega))
       ·
        refine wp_seq ?_; cases h7 : (n9 p.vars.length p.arrays.length s.value)
        · refine i7 G (K9 (A2 3 [0, 1, 2, 4] (F3 p s.value) K8) (fc h7 (fc (b := false) rfl fz)) (us [(5, 10, 0), (1011, 1011, 0), (13, 18, 1), (1019, 1019, 1)])) (rg 7) (L0 p s []) [(6, bA false)] fun G => b0 (wp_ret (C9 (n8 ?_))); exact I6 false G (rg 7) (bC7 (by with_reducible assumption) (by omega) (by with_reducible assumption))
        ·
         cases h8 : (s.body.all (l6 p.vars.length p.arrays.length d))
         · refine G4 G (K9 (A2 3 [0, 1, 2, 4] (F3 p s.value) (A2 10 [0, 1, 2, 5] (hB s.body (n - 1) (by omega)) K8)) (fc h7 (fc h8 fz)) (us [(5, 10, 0), (1011, 1011, 0), (13, 18, 1), (1019, 1019, 1)])) (rg 7) (L0 p s []) [(6, bA false)] [wO (n - 1)] (o1 (by omega)) fun G => b0 (wp_ret (C9 (n8 ?_))); exact I6 false G (rg 7) (bC6 (by with_reducible assumption) (by omega) (by with_reducible assumption))
         · refine G4 G (K9 (A2 3 [0, 1, 2, 4] (F3 p s.value) (A2 10 [0, 1, 2, 5] (hB s.body (n - 1) (by omega)) (A2 18 [0, 1, 2, 6] (hB s.els (n - 1) (by omega)) K8))) (fc h7 (fc h8 fz)) (us [(5, 10, 0), (1011, 1011, 0), (13, 18, 1), (1019, 1019, 1)])) (rg 7) (L0 p s []) [(6, bA (s.els.all (l6 p.vars.length p.arrays.length d)))] [wO (n - 1), wO (n - 1)] (o2 (by omega)) fun G => b0 (wp_ret (C9 (n8 ?_))); exact I6 (s.els.all (l6 p.vars.length p.arrays.length d)) G (rg 7) (bC5 (by with_reducible assumption) (by omega) (by with_reducible assumption) (by with_reducible assumption))
      ·
       refine wp_seq ?_; cases h9 : (decide (s.target ≥ 0))
       · have q9 := T8 h9; refine i7 G (E7 (fc h9 (fc (b := false) rfl fz)) (us [(4, 9, 0), (1010, 1010, 0), (12, 15, 1), (1016, 1016, 1), (18, 20, 1), (1021, 1021, 1), (23, 26, 1), (1027, 1027, 1)])) (rg 7) (L0 p s []) [(6, bA false)] fun G => b0 (wp_ret (C9 (n8 ?_))); exact I6 false G (rg 7) (bD2 (by with_reducible assumption) (by omega) (by omega))
       ·
        have q9 := T7 h9; cases h10 : (decide (s.target < (p.arrays.length : Int)))
        · have q10 := T8 h10; refine i7 G (E7 (fc h9 (fc h10 (fc (b := false) rfl fz))) (us [(4, 9, 0), (1010, 1010, 0), (12, 15, 1), (1016, 1016, 1), (18, 20, 2), (1021, 1021, 2), (23, 26, 2), (1027, 1027, 2)])) (rg 7) (L0 p s []) [(6, bA false)] fun G => b0 (wp_ret (C9 (n8 ?_))); exact I6 false G (rg 7) (bD1 (by with_reducible assumption) (by omega) (by omega))
        ·
         have q10 := T7 h10; cases h11 : (n9 p.vars.length p.arrays.length s.index)
         · refine i7 G (K9 (A2 15 (rg 4) (F3 p s.index) K8) (fc h9 (fc h10 (fc h11 (fc (b := false) rfl fz)))) (us [(4, 9, 0), (1010, 1010, 0), (12, 15, 1), (1016, 1016, 1), (18, 20, 2), (1021, 1021, 2), (23, 26, 3), (1027, 1027, 3)])) (rg 7) (L0 p s []) [(6, bA false)] fun G => b0 (wp_ret (C9 (n8 ?_))); exact I6 false G (rg 7) (bD0 (by with_reducible assumption) (by omega) (by with_reducible assumption))
         ·
          cases h12 : (P1 s.index)
          · refine i7 G (K9 (A2 15 (rg 4) (F3 p s.index) (A2 20 [3] (au9 s.index) K8)) (fc h9 (fc h10 (fc h11 (fc h12 fz)))) (us [(4, 9, 0), (1010, 1010, 0), (12, 15, 1), (1016, 1016, 1), (18, 20, 2), (1021, 1021, 2), (23, 26, 3), (1027, 1027, 3)])) (rg 7) (L0 p s []) [(6, bA false)] fun G => b0 (wp_ret (C9 (n8 ?_))); exact I6 false G (rg 7) (bC9 (by with_reducible assumption) (by omega) (by with_reducible assumption))
          · refine i7 G (K9 (A2 15 (rg 4) (F3 p s.index) (A2 20 [3] (au9 s.index) (A2 26 [0, 1, 2, 4] (F3 p s.value) K8))) (fc h9 (fc h10 (fc h11 (fc h12 fz)))) (us [(4, 9, 0), (1010, 1010, 0), (12, 15, 1), (1016, 1016, 1), (18, 20, 2), (1021, 1021, 2), (23, 26, 3), (1027, 1027, 3)])) (rg 7) (L0 p s []) [(6, bA (n9 p.vars.length p.arrays.length s.value))] fun G => b0 (wp_ret (C9 (n8 ?_))); exact I6 (n9 p.vars.length p.arrays.length s.value) G (rg 7) (bC8 (by with_reducible assumption) (by omega) (by omega) (by omega) (by with_reducible assumption) (by with_reducible assumption))
     ·
      refine wp_seq ?_; cases h13 : (decide (s.target ≥ 0))
      · have q13 := T8 h13; refine i7 G (E7 (fc h13 (fc (b := false) rfl fz)) (us [(4, 9, 0), (1010, 1010, 0), (12, 15, 1), (1016, 1016, 1)])) (rg 7) (L0 p s []) [(6, bA false)] fun G => b0 (wp_ret (C9 (n8 ?_))); exact I6 false G (rg 7) (bs7 (by with_reducible assumption) (by omega) (by omega))
      ·
       have q13 := T7 h13; cases h14 : (decide (s.target < (p.vars.length : Int)))
       · have q14 := T8 h14; refine i7 G (E7 (fc h13 (fc h14 fz)) (us [(4, 9, 0), (1010, 1010, 0), (12, 15, 1), (1016, 1016, 1)])) (rg 7) (L0 p s []) [(6, bA false)] fun G => b0 (wp_ret (C9 (n8 ?_))); exact I6 false G (rg 7) (bs6 (by with_reducible assumption) (by omega) (by omega))
       · have q14 := T7 h14; refine i7 G (K9 (A2 15 [0, 1, 2, 4] (F3 p s.value) K8) (fc h13 (fc h14 fz)) (us [(4, 9, 0), (1010, 1010, 0), (12, 15, 1), (1016, 1016, 1)])) (rg 7) (L0 p s []) [(6, bA (n9 p.vars.length p.arrays.length s.value))] fun G => b0 (wp_ret (C9 (n8 ?_))); exact I6 (n9 p.vars.length p.arrays.length s.value) G (rg 7) (bs5 (by with_reducible assumption) (by omega) (by omega) (by omega))
    ·
     refine wp_skip (b0 (rT G _ h2 (wp_seq ?_))); cases h15 : (decide (s.target ≥ 0))
     · have q15 := T8 h15; refine i7 G (E7 (fc h15 (fc (b := false) rfl fz)) (us [(4, 9, 0), (1010, 1010, 0), (12, 15, 1), (1016, 1016, 1)])) (rg 7) (L0 p s []) [(6, bA false)] fun G => b0 (wp_ret (C9 (n8 ?_))); exact I6 false G (rg 7) (bs7 (by with_reducible assumption) (by omega) (by omega))
     ·
      have q15 := T7 h15; cases h16 : (decide (s.target < (p.vars.length : Int)))
      · have q16 := T8 h16; refine i7 G (E7 (fc h15 (fc h16 fz)) (us [(4, 9, 0), (1010, 1010, 0), (12, 15, 1), (1016, 1016, 1)])) (rg 7) (L0 p s []) [(6, bA false)] fun G => b0 (wp_ret (C9 (n8 ?_))); exact I6 false G (rg 7) (bs6 (by with_reducible assumption) (by omega) (by omega))
      · have q16 := T7 h16; refine i7 G (K9 (A2 15 [0, 1, 2, 4] (F3 p s.value) K8) (fc h15 (fc h16 fz)) (us [(4, 9, 0), (1010, 1010, 0), (12, 15, 1), (1016, 1016, 1)])) (rg 7) (L0 p s []) [(6, bA (n9 p.vars.length p.arrays.length s.value))] fun G => b0 (wp_ret (C9 (n8 ?_))); exact I6 (n9 p.vars.length p.arrays.length s.value) G (rg 7) (bs5 (by with_reducible assumption) (by omega) (by omega) (by omega))
   · have q1 : (n4 s) = false := (Eq.mp (bT6 _) h1); refine rT G _ h1 (wp_seq (j7 G d8 [] fun G => b0 (wp_ret (n8 ?_)))); exact I6 false G (rg 7) (bL4 (by with_reducible assumption))
  · have q0 := T7 h0; exact False.elim (by omega)
theorem bJ4 {nv na d : Nat} {ss : List c6} {k : Nat} (hk : k < ss.length) (h : l6 nv na d (ss.getD k aK4) = false) : ss.all (l6 nv na d) = false := by
 rw [o5 hk] at h
 exact ag5 hk h
theorem ay7 (p : j8) (d : Nat) (hd : d ≤ 5) (hS : ∀ (s : c6) (n : Int), n = d → j5.ok Try.prog (vsC p d s n)) (ss : List c6) (n : Int) (hn : n = d) : j5.ok Try.prog (vbC p d ss n) := by
  refine F5 22 Try.func99 [dI p.vars, dI p.arrays, dT p.body, dT ss] [(0, pA 0), (1, .ref 3), (2, iA n)] fun G => ?_; refine wp_seq (i7 G d8 (rg 5) [dI p.vars, dI p.arrays, dT p.body, dT ss, .box (pL 0)] [(1, .ref 3), (2, iA n), (3, .ptr 4 0), (6, bA false)] fun G => b0 (wp_seq (wp_seq (D6 G d8 [(1, .ref 3), (2, iA n), (3, .ptr 4 0), (6, bA false), (7, iA 0)] fun G => b0 (wp_block ?_))))); refine t6 (κ := Nat) (fun k => k ≤ ss.length ∧ (ss.take k).all (l6 p.vars.length p.arrays.length d) = true) (fun k => ss.length - k) (fun k => [dI p.vars, dI p.arrays, dT p.body, dT ss, .box (pL 0)]) (fun k => [(1, .ref 3), (2, iA n), (3, .ptr 4 0), (6, bA false), (7, iA k)]) 0 (by simp) (s5.at G _ _) ?_; clear G; intro k ρ a w hp G; have hlen : ss.length ≤ 9223372036854775807 := G.len 3 (d := .stmts ss) (by kernel_rfl); refine wp_seq (wp_seq (D6 G d8 [(1, .ref 3), (2, iA n), (3, .ptr 4 0), (6, bA false), (7, iA k), (11, bA (decide ((k : Int) < ss.length)))] fun G => b0 (rcD G (fun h0 q0 => ?_) fun h0 q0 => ?_)))
  · refine wp_exit (t3 (t3 (t2 (b0 (wp_seq (i7 G d8 (rg 4) [dI p.vars, dI p.arrays, dT p.body, dT ss] [(6, bA true)] fun G => b0 (wp_ret ?_))))))); exact I6 true G (rg 4) (av6 hp.2 (by omega))
  ·
   refine wp_skip (b0 (wp_seq (wp_block (wp_seq (aQ8 G (r7 6 [0, 1, 2, 37, 38, 39, 40] (hS (ss.getD k aK4) n (by assumption))) [0, 0, 0, 6, 14, 0, 63, 127] [(21, .v (.bool !l6 p.vars.length p.arrays.length d (ss.getD k aK4)))] (iX k k ss.length []) (iK (by omega) bS4) fun G => b0 ?_))))); cases h1 : (!l6 p.vars.length p.arrays.length d (ss.getD k aK4))
   · have q1 : (l6 p.vars.length p.arrays.length d (ss.getD k aK4)) = true := (Eq.mp (bV2 _) h1); refine rF G _ h1 (wp_skip (i8 (b0 (A0 G d8 [(7, iA ((k : Int) + 1))] [wO ((k : Int) + 1)] (o1 (by omega)) fun G => b0 ?_)))); exact H9 G (k + 1) (⟨by omega, aO6 hp.2 (by omega) (by assumption)⟩) (by omega) (rg 5)
   · have q1 : (l6 p.vars.length p.arrays.length d (ss.getD k aK4)) = false := (Eq.mp (bT6 _) h1); refine rT G _ h1 (wp_seq (j7 G d8 [] fun G => b0 (wp_ret (C9 (n8 (n8 (C9 (n8 ?_)))))))); exact I6 false G (rg 4) (bJ4 (k := k) (by omega) (by with_reducible assumption))
theorem a05 (p : j8) : ∀ (d : Nat), d ≤ 5 → ∀ (s : c6) (n : Int), n = d → j5.ok Try.prog (vsC p d s n)
 | 0, _, s, n, hn => a32 p s n hn
 | d + 1, hd, s, n, hn => bb6 p d (fun ss n hn => ay7 p d (by omega) (a05 p d (by omega)) ss n hn) s n hn (by omega)
theorem a66 (p : j8) (ss : List c6) (n : Int) (hn : n = 5) : j5.ok Try.prog (X8 99 [pA 0, .ref 3, iA n] (pS p ++ [.dat (.stmts ss)]) (bA (Z8 p.vars.length p.arrays.length 5 ss))) :=
 ay7 p 5 (by omega) (a05 p 5 (by omega)) ss n hn
def A6 : Nat → List c6 → Nat
 | 0, ss => ss.length
 | d + 1, ss => ss.length + (ss.map fun s => A6 d s.body + A6 d s.els).sum
def szP (d : Nat) (ss : List c6) (k : Nat) : Nat := ss.length + ((ss.take k).map fun s => A6 d s.body + A6 d s.els).sum
theorem bk5 (d : Nat) (ss : List c6) {k : Nat} (h : ss.length ≤ k) : szP d ss k = A6 (d + 1) ss := by unfold szP; rw [bT9 h, A6]
theorem ap9 {d : Nat} {ss : List c6} {k : Nat} (h : k < ss.length) : szP d ss (k + 1) = szP d ss k + (A6 d (ss.getD k aK4).body + A6 d (ss.getD k aK4).els) := by
 unfold szP
 rw [S6 ss k h, List.map_append, List.sum_append, o5 h]
 simp; omega
theorem ba1 : ∀ (d : Nat) (ss : List c6), A6 d ss ≤ t0 ss := by
 intro d
 induction d with
 | zero => intro ss; exact af2 ss
 | succ d ih =>
  intro ss
  induction ss with
  | nil => simp [A6]
  | cons s r ihr =>
   have h1 := ih s.body
   have h2 := ih s.els
   have h3 := ay1 s
   simp only [A6, bU0, List.sum_cons, bS1, t0] at ihr ⊢
   have h4 : t0 s.body + t0 s.els ≤ szS s := by
    rcases s with ⟨_, _, _, _, _, b, e⟩
    simp only [szS, c6.body, c6.els]; omega
   omega
theorem aP3 {d : Nat} {ss : List c6} {k : Nat} : szP d ss k ≤ t0 ss := by
 refine bT4 ?_ (ba1 (d + 1) ss)
 unfold szP
 rw [A6]
 have : ∀ (l : List Nat) (k : Nat), (l.take k).sum ≤ l.sum := fun l k => by
  have := List.sum_append (l₁ := l.take k) (l₂ := l.drop k)
  rw [List.take_append_drop] at this; omega
 have h := this (ss.map fun s => A6 d s.body + A6 d s.els) k
 rw [← List.map_take] at h
 omega
theorem a19 {ss : List c6} {k B : Nat} (h : t0 ss ≤ B) (hk : k < ss.length) : t0 (ss.getD k aK4).body ≤ B ∧ t0 (ss.getD k aK4).els ≤ B := by
 rw [o5 hk]
 have h1 := bk4 (bS9 hk)
 have h2 := ay1 ss[k]
 omega
theorem a63 (ss : List c6) (n : Int) (hn : n = 1) (hb : t0 ss ≤ 1048576) : j5.ok Try.prog (X8 100 [.ref 0, iA n] [.dat (.stmts ss)] (iA (A6 0 ss : Nat))) := by
 have h100 : decide (n > 1) = false := by simp; omega
 refine F5 39 Try.func100 [dT ss] [(0, .ref 0), (1, iA n)] fun G => ?_; refine wp_seq (j7 G d8 [(4, iA 0)] fun G => b0 (wp_seq (j7 G d8 [(5, iA (ss.length : Int))] fun G => b0 (wp_seq (wp_seq (D6 G d8 [(0, .ref 0), (1, iA n), (4, iA 0), (5, iA (ss.length : Int)), (6, iA 0)] fun G => b0 (wp_block ?_))))))); refine t6 (κ := Nat) (fun k => k = 0) (fun k => 0) (fun k => [dT ss]) (fun k => [(0, .ref 0), (1, iA n), (4, iA 0), (5, iA (ss.length : Nat)), (6, iA k)]) 0 (by kernel_rfl) (s5.at G _ _) ?_; clear G; intro k ρ a w hp G; replace G := s5.at G [dT ss] [(0, .ref 0), (1, iA n), (4, iA 0), (5, iA (ss.length : Int)), (6, iA k)]; refine wp_seq (wp_seq ?_); cases h0 : (decide ((k : Int) < ss.length))
 ·have q0 := T8 h0; refine j7 G (E7 (fc h0 fz) [(5, 0), (6, 0), (1007, 0)]) [(16, bA false)] fun G => b0 (rF G false (by kernel_rfl) (wp_exit (t3 (t3 (t2 (b0 (wp_seq (j7 G d8 [(4, iA (ss.length : Int))] fun G => b0 (wp_ret ?_))))))))); exact D8 G [0]
 ·have q0 := T7 h0; refine j7 G (E7 (fc h0 fz) [(5, 0), (6, 0), (1007, 0)]) [(16, bA (decide (n > 1)))] fun G => b0 (rF G (decide (n > 1)) (by assumption) (wp_exit (t3 (t3 (t2 (b0 (wp_seq (j7 G d8 [(4, iA (ss.length : Int))] fun G => b0 (wp_ret ?_))))))))); exact D8 G [0]
theorem a61 (d : Nat) (hd : d ≤ 5) (ih : ∀ (ss : List c6) (n : Int), n = (d + 1 : Nat) → t0 ss ≤ 1048576 → j5.ok Try.prog (X8 100 [.ref 0, iA n] [.dat (.stmts ss)] (iA (A6 d ss : Nat))))
  (ss : List c6) (n : Int) (hn : n = (d + 2 : Nat)) (hb : t0 ss ≤ 1048576) : j5.ok Try.prog (X8 100 [.ref 0, iA n] [.dat (.stmts ss)] (iA (A6 (d + 1) ss : Nat))) := by
 have h100 : decide (n > 1) = true := by simp; omega
 refine F5 39 Try.func100 [dT ss] [(0, .ref 0), (1, iA n)] fun G => ?_; refine wp_seq (j7 G d8 [(4, iA 0)] fun G => b0 (wp_seq (j7 G d8 [(5, iA (ss.length : Int))] fun G => b0 (wp_seq (wp_seq (D6 G d8 [(0, .ref 0), (1, iA n), (4, iA 0), (5, iA (ss.length : Int)), (6, iA 0)] fun G => b0 (wp_block ?_))))))); refine t6 (κ := Nat) (fun k => k ≤ ss.length) (fun k => ss.length - k) (fun k => [dT ss]) (fun k => [(0, .ref 0), (1, iA n), (4, iA 0), (5, iA (szP d ss k : Nat)), (6, iA k)]) 0 (by omega) (s5.at G _ _) ?_; clear G; intro k ρ a w hp G; replace G := s5.at G [dT ss] [(0, .ref 0), (1, iA n), (4, iA 0), (5, iA (↑(szP d ss k) : Int)), (6, iA k)]; have hlen := af2 ss; refine wp_seq (wp_seq ?_); cases h0 : (decide ((k : Int) < ss.length))
 ·have q0 := T8 h0; refine j7 G (E7 (fc h0 fz) [(5, 0), (6, 0), (1007, 0)]) [(16, bA false)] fun G => b0 (rF G false (by kernel_rfl) (wp_exit (t3 (t3 (t2 (b0 (wp_seq (j7 G d8 [(4, iA (↑(szP d ss k) : Int))] fun G => b0 (wp_ret ?_))))))))); exact rxI ((↑(szP d ss k) : Int)) G [0] (by have h1 := bk5 d ss (k := k) (by omega); omega)
 ·have q0 := T7 h0; refine j7 G (E7 (fc h0 fz) [(5, 0), (6, 0), (1007, 0)]) [(16, bA (decide (n > 1)))] fun G => b0 (rT G (decide (n > 1)) (by assumption) (wp_skip (b0 (wp_seq (wp_block (aQ8 G (K9 (A2 8 [41] (ih ((ss.getD k aK4).body) (n - 1) (by omega) ((a19 hb (by omega)).1)) (A2 17 [113] (ih ((ss.getD k aK4).els) (n - 1) (by omega) ((a19 hb (by omega)).2)) K8)) fz []) [0, 0, 0, 6, 14, 30, 0, 64, 254, 511, 0, 0, 3072, 7168, 15360, 0, 32768, 130558, 262143, 524287] [(5, iA ((↑(szP d ss k) : Int) + (↑(A6 d (ss.getD k aK4).body) : Int) + (↑(A6 d (ss.getD k aK4).els) : Int)))] (iX k k ss.length ((wO (n - 1)) :: ((wO ((↑(szP d ss k) : Int) + (↑(A6 d (ss.getD k aK4).body) : Int))) :: (iX k k ss.length ((wO (n - 1)) :: ((wO ((↑(szP d ss k) : Int) + (↑(A6 d (ss.getD k aK4).body) : Int) + (↑(A6 d (ss.getD k aK4).els) : Int))) :: [])))))) (iK (by omega) ⟨oW (by omega), ⟨(by have h1 := ap9 (d := d) (ss := ss) (k := k) (by omega); have h2 := aP3 (d := d) (ss := ss) (k := k + 1); exact w64 (by omega) (by omega)), (iK (by omega) ⟨oW (by omega), ⟨(by have h1 := ap9 (d := d) (ss := ss) (k := k) (by omega); have h2 := aP3 (d := d) (ss := ss) (k := k + 1); exact w64 (by omega) (by omega)), bS4⟩⟩)⟩⟩) fun G => i8 (b0 (A0 G d8 [(6, iA ((k : Int) + 1))] [wO ((k : Int) + 1)] (o1 (by omega)) fun G => b0 ?_)))))))); exact H9 G (k + 1) (by omega) (by omega) [0] (ht := by have e1 : ((↑(szP d ss (k + 1)) : Int) : Int) = ((↑(szP d ss k) : Int) + (↑(A6 d (ss.getD k aK4).body) : Int) + (↑(A6 d (ss.getD k aK4).els) : Int)) := (by have h1 := ap9 (d := d) (ss := ss) (k := k) (by omega); have h2 := aP3 (d := d) (ss := ss) (k := k + 1); omega); (first | rw [e1] | simp only [e1]) <;> rfl)
theorem a62 : ∀ d, d ≤ 5 → ∀ (ss : List c6) (n : Int), n = (d + 1 : Nat) → t0 ss ≤ 1048576 → j5.ok Try.prog (X8 100 [.ref 0, iA n] [.dat (.stmts ss)] (iA (A6 d ss : Nat))) := by
 intro d
 induction d with
 | zero => intro _ ss n hn hb; exact a63 ss n (by omega) hb
 | succ d ih => intro hd ss n hn hb; exact a61 d (by omega) (fun ss n hn hb => ih (by omega) ss n hn hb) ss n (by omega) hb
theorem bi5 (ss : List c6) (n : Int) (hn : n = 5) (hb : t0 ss ≤ 1048576) : j5.ok Try.prog (X8 100 [.ref 0, iA n] [.dat (.stmts ss)] (iA (A6 4 ss : Nat))) :=
 a62 4 (by omega) ss n (by omega) hb
theorem ba2 {nv na : Nat} : ∀ (d : Nat) (ss : List c6), (∀ s ∈ ss, l6 nv na (d + 1) s = true) → A6 d ss = nSs ss := by
 intro d
 induction d with
 | zero => intro ss h; rw [aM1 h]; rfl
 | succ d ih =>
  intro ss
  induction ss with
  | nil => intro _; rfl
  | cons s r ihr =>
   intro h
   have h1 := U9 (h s bU5)
   have h2 := ih s.body fun x hx => bS2.1 h1.1 x hx
   have h3 := ih s.els fun x hx => bS2.1 h1.2 x hx
   have h4 := ihr fun x hx => h x (bU4 _ hx)
   rw [nSs, aD4, ← h2, ← h3, ← h4]
   simp [A6]; omega
theorem aK0 {p : j8} (h : D4 p.vars p.arrays = false) : B5 p = false := by simp [B5, h]
theorem aK1 {p : j8} (h : Z8 p.vars.length p.arrays.length 5 p.body = false) : B5 p = false := by simp [B5, h]
theorem aR2 {p : j8} (h1 : D4 p.vars p.arrays = true) (h2 : Z8 p.vars.length p.arrays.length 5 p.body = true) : B5 p = decide ((A6 4 p.body : Int) ≤ 60) := by
 have h3 := ba2 (nv := p.vars.length) (na := p.arrays.length) 4 p.body (fun x hx => bS2.1 h2 x hx)
 rw [B5, h1, h2, h3]
 simp
 exact ⟨fun h => by omega, fun h => by omega⟩
theorem aN5 (p : j8) (n : Int) (hn : n = 5) : j5.ok Try.prog (X8 99 [pA 0, .ref 2, iA n] (pS p) (bA (Z8 p.vars.length p.arrays.length 5 p.body))) :=
 j5.dup (S := pS p) (S' := pS p) (d := .stmts p.body) (i := 2) (a66 p p.body n hn) rfl rfl rfl (fun ρ h => by simp only [AV.vals, AV.val]; rw [show ρ 3 = ρ 2 from h]) rfl
theorem Z7 (p : j8) (hb : t0 p.body ≤ 1048576) : j5.ok Try.prog (X8 61 [pA 0] (pS p) (bA (B5 p))) := by
  refine F5 17 Try.func61 [dI p.vars, dI p.arrays, dT p.body] [(0, pA 0)] fun G => ?_; refine wp_seq (i7 G d8 (rg 4) [dI p.vars, dI p.arrays, dT p.body, .box (pL 0)] [(1, .ptr 3 0), (2, bA false)] fun G => b0 (wp_seq ?_)); cases h0 : (D4 p.vars p.arrays)
  · refine i7 G (K9 (A2 1 [0, 1, 2] (aj3 p) K8) (fc h0 (fc (b := false) rfl fz)) (us [(3, 6, 0), (1007, 1007, 0), (9, 12, 1), (1013, 1013, 1)])) [0, 1, 2] [dI p.vars, dI p.arrays, dT p.body] [(2, bA false)] fun G => b0 (wp_ret ?_); exact I6 false G [0, 1, 2] (aK0 (by assumption))
  ·
   cases h1 : (Z8 p.vars.length p.arrays.length (5 : Nat) p.body)
   · refine i7 G (K9 (A2 1 [0, 1, 2] (aj3 p) (A2 6 [0, 1, 2] (aN5 p 5 (by kernel_rfl)) K8)) (fc h0 (fc h1 fz)) (us [(3, 6, 0), (1007, 1007, 0), (9, 12, 1), (1013, 1013, 1)])) [0, 1, 2] [dI p.vars, dI p.arrays, dT p.body] [(2, bA false)] fun G => b0 (wp_ret ?_); exact I6 false G [0, 1, 2] (aK1 (by assumption))
   · refine i7 G (K9 (A2 1 [0, 1, 2] (aj3 p) (A2 6 [0, 1, 2] (aN5 p 5 (by kernel_rfl)) (A2 11 [2] (bi5 p.body 5 (by kernel_rfl) (by assumption)) K8))) (fc h0 (fc h1 fz)) (us [(3, 6, 0), (1007, 1007, 0), (9, 12, 1), (1013, 1013, 1)])) [0, 1, 2] [dI p.vars, dI p.arrays, dT p.body] [(2, bA (decide ((↑(A6 4 p.body) : Int) ≤ 60)))] fun G => b0 (wp_ret ?_); exact I6 (decide ((↑(A6 4 p.body) : Int) ≤ 60)) G [0, 1, 2] (aR2 (by assumption) (by assumption))
def Q9 (nv na : Nat) (s : c6) : Bool := n4 s &&
    (if s.kind = 1 ∨ s.kind = 5 then decide (0 ≤ s.target) && decide (s.target < nv) && n9 nv na s.value
     else if s.kind = 2 then decide (0 ≤ s.target) && decide (s.target < na) && n9 nv na s.index && P1 s.index && n9 nv na s.value
     else if s.kind = 3 then n9 nv na s.value
     else decide (s.kind = 4))
theorem ac9 {nv na d : Nat} {s : c6} : l6 nv na (d + 1) s = (Q9 nv na s && (s.body.all (l6 nv na d) && s.els.all (l6 nv na d))) := by
 rw [bT5]
 constructor
 ·intro h
  have h1 := U9 h
  rw [h1.1, h1.2, Bool.and_true, Bool.and_true]
  rw [l6, bR6] at h
  rw [Q9, h.1, Bool.true_and]
  obtain ⟨-, h⟩ := h
  split at h
  ·rw [if_pos (by assumption)]; exact h
  split at h
  ·rw [if_neg (by assumption), if_pos (by assumption)]; exact h
  split at h
  ·rw [if_neg (by assumption), if_neg (by assumption), if_pos (by assumption)]
   simp only [bR6] at h; exact h.1.1
  split at h
  ·rw [if_neg (by assumption), if_neg (by assumption), if_neg (by assumption)]; simp [*]
  ·simp at h
 ·intro h
  simp only [bR6] at h
  obtain ⟨h, hb, he⟩ := h
  rw [Q9, bR6] at h
  obtain ⟨h0, h⟩ := h
  rw [l6, h0, Bool.true_and]
  split at h
  ·rw [if_pos (by assumption)]; exact h
  split at h
  ·rw [if_neg (by assumption), if_pos (by assumption)]; exact h
  split at h
  ·rw [if_neg (by assumption), if_neg (by assumption), if_pos (by assumption), h, hb, he]; rfl
  ·rw [if_neg (by assumption), if_neg (by assumption), if_neg (by assumption), if_pos (by simpa using h), hb]
section
variable {nv na d c : Nat} {s : c6}
end
section
variable {nv na : Nat} {s : c6}
theorem bG4 (k : s.kind = 1 ∨ s.kind = 5) : Q9 nv na s = (decide (0 ≤ s.target ∧ s.target < nv ∧ s.body.length = 0 ∧ s.els.length = 0 ∧ s.count = 0) && (noneB s.index && n9 nv na s.value)) := by
 rw [Q9, n4, if_pos k, if_neg (by omega), show decide (s.kind = 2) = false from decide_eq_false (by omega), bT5]
 simp only [bR6, decide_eq_true_eq, Bool.false_or]
 constructor
 ·rintro ⟨⟨⟨⟨a, b⟩, c⟩, d⟩, ⟨e, f⟩, g⟩; exact ⟨⟨e, f, a, b, c⟩, d, g⟩
 ·rintro ⟨⟨e, f, a, b, c⟩, d, g⟩; exact ⟨⟨⟨⟨a, b⟩, c⟩, d⟩, ⟨e, f⟩, g⟩
theorem bG3 (k : s.kind = 2) : Q9 nv na s = (decide (0 ≤ s.target ∧ s.target < na ∧ s.body.length = 0 ∧ s.els.length = 0 ∧ s.count = 0) && (n9 nv na s.index && (P1 s.index && n9 nv na s.value))) := by
 rw [Q9, n4, if_neg (by omega), if_pos k, if_neg (by omega), show decide (s.kind = 2) = true from decide_eq_true k, bT5]
 simp only [bR6, decide_eq_true_eq, Bool.true_or]
 constructor
 ·rintro ⟨⟨⟨⟨a, b⟩, c⟩, -⟩, ⟨⟨⟨e, f⟩, i⟩, j⟩, g⟩; exact ⟨⟨e, f, a, b, c⟩, i, j, g⟩
 ·rintro ⟨⟨e, f, a, b, c⟩, i, j, g⟩; exact ⟨⟨⟨⟨a, b⟩, c⟩, bS4⟩, ⟨⟨⟨e, f⟩, i⟩, j⟩, g⟩
theorem bG2 (k : s.kind = 3) : Q9 nv na s = (decide (s.target = 0 ∧ s.count = 0) && (noneB s.index && n9 nv na s.value)) := by
 rw [Q9, n4, if_pos (show s.kind = 3 ∨ s.kind = 4 from .inl k), if_neg (show ¬ s.kind = 4 by omega), if_neg (by omega), if_neg (by omega), if_pos k, bT5]
 simp only [bR6, decide_eq_true_eq]
 constructor
 ·rintro ⟨⟨a, b, c⟩, d⟩; exact ⟨⟨a, b⟩, c, d⟩
 ·rintro ⟨⟨a, b⟩, c, d⟩; exact ⟨⟨a, b, c⟩, d⟩
theorem bG1 (k : s.kind = 4) : Q9 nv na s = (decide (s.target = 0 ∧ s.els.length = 0 ∧ 1 ≤ s.count ∧ s.count ≤ 3) && (noneB s.index && noneB s.value)) := by
 rw [Q9, n4, if_pos (show s.kind = 3 ∨ s.kind = 4 from .inr k), if_pos k, if_neg (by omega), if_neg (by omega), if_neg (by omega), show decide (s.kind = 4) = true from decide_eq_true k, bT5]
 simp only [bR6, decide_eq_true_eq]
 constructor
 ·rintro ⟨⟨a, ⟨⟨⟨b, c⟩, d⟩, e⟩, f⟩, -⟩; exact ⟨⟨a, b, c, d⟩, e, f⟩
 ·rintro ⟨⟨a, b, c, d⟩, e, f⟩; exact ⟨⟨a, ⟨⟨⟨b, c⟩, d⟩, e⟩, f⟩, bS4⟩
theorem at3 (k : ¬ s.kind = 1 ∧ ¬ s.kind = 2 ∧ ¬ s.kind = 3 ∧ ¬ s.kind = 4 ∧ ¬ s.kind = 5) : Q9 nv na s = false := by
 rw [Q9, if_neg (by omega), if_neg (by omega), if_neg (by omega), show decide (s.kind = 4) = false from decide_eq_false (by omega), Bool.and_false]
end
theorem bf8 {l : List c8} {k : Nat} (h : (k : Int) < l.length) : l.getD k aK4 ∈ l := by rw [o5 (by omega)]; exact bS9 (by omega)
theorem aL9 {l : List c6} {k : Nat} (h : (k : Int) < l.length) : l.getD k aK4 ∈ l := by rw [o5 (by omega)]; exact bS9 (by omega)
section
variable {nv na d : Nat} {e : c8}
end
section
variable {vs ars : List Int} {d : Nat} {e : c8}
end
theorem aO4 {α : Type} {l : List α} {k : Nat} {p : α → Bool} {z : α} (h : (l.take k).any p = false) (hk : k < l.length) (hp : p (l.getD k z) = false) : (l.take (k + 1)).any p = false := by
 rw [S6 l k hk, List.any_append, h, ← o5 (d := z) hk, List.any_cons, hp]; rfl
theorem aO5 {α : Type} {l : List α} {k : Nat} {p : α → Bool} (h : (l.take k).any p = false) (hk : l.length ≤ k) : l.any p = false := by
 rw [bT9 hk] at h; exact h
section
variable {nv na : Nat} {s : c6}
variable (h : Q9 nv na s = true)
include h
end
section
variable {p : j8} {s : c6} {pc : Int} {strict : Bool} {x : Int}
end
section
variable {p : j8} {strict : Bool} {d c : Nat} {pc : Int} {s : c6}
end
section
variable {p : j8} {strict : Bool}
end
section
variable {p : j8} {s : c6} {cx : Int}
end
def X4 {α : Type} (f : α → Bool) (l : List α) : Int := match l.findIdx? f with
 | some i => i
 | none => -1
theorem az6 {α : Type} {f : α → Bool} {l : List α} {k : Nat} {z : α} (hk : k < l.length) (h : (l.take k).any f = false) (hf : f (l.getD k z) = true) : X4 f l = k := by
 have : l.findIdx? f = some k := by
  rw [List.findIdx?_eq_some_iff_getElem]
  rw [o5 hk] at hf
  refine ⟨hk, hf, fun j hj => ?_⟩
  rw [List.any_eq_false] at h
  have hm : l[j] ∈ l.take k := List.mem_take_iff_getElem.2 ⟨j, by omega, rfl⟩
  exact h _ hm
 unfold X4; rw [this]
theorem at6 {α : Type} {f : α → Bool} {l : List α} (h : l.any f = false) : X4 f l = -1 := by
 have : l.findIdx? f = none := by
  rw [List.findIdx?_eq_none_iff]
  intro x hx
  rw [List.any_eq_false] at h
  simpa using h x hx
 unfold X4; rw [this]
theorem az7 {α : Type} (f : α → Bool) (l : List α) : decide (X4 f l ≥ 0) = l.any f := by
 cases h : l.any f
 ·rw [at6 h]; rfl
 ·unfold X4
  cases h2 : l.findIdx? f with
  | none =>
   rw [List.findIdx?_eq_none_iff] at h2
   obtain ⟨x, hx, hf⟩ := List.any_eq_true.1 h
   rw [h2 x hx] at hf; cases hf
  | some i => simp
section
variable {p : j8} {s : c6}
end
section
variable {R : c6 × Int → Int} {c a : Int} {n : Nat} {x : c6 × Int}
end
section
variable {R : c6 × Int → Int} {p : j8} {d : Nat} {cx : Int} {ss : List c6} {c b : Int} {n k : Nat}
end
abbrev Lab : Type := List Int × List Int
def bv (x : Int) : BitVec 64 := BitVec.ofInt 64 x
def leI (x y : Int) : Prop := bv x ||| bv y = bv y
theorem leI.refl (x : Int) : leI x x := BitVec.or_self
theorem leI.trans {x y z : Int} (h : leI x y) (k : leI y z) : leI x z := by
 unfold leI at *
 rw [← k, ← BitVec.or_assoc, h]
def leP (q r : Lab) : Prop := (∀ i, leI (q.1.getD i 0) (r.1.getD i 0)) ∧ ∀ i, leI (q.2.getD i 0) (r.2.getD i 0)
def shP (q r : Lab) : Prop := r.1.length = q.1.length ∧ r.2.length = q.2.length
theorem leP.refl (q : Lab) : leP q q := ⟨fun _ => leI.refl _, fun _ => leI.refl _⟩
theorem leP.trans {q r s : Lab} (h : leP q r) (k : leP r s) : leP q s := ⟨fun i => (h.1 i).trans (k.1 i), fun i => (h.2 i).trans (k.2 i)⟩
theorem shP.refl (q : Lab) : shP q q := ⟨rfl, rfl⟩
theorem shP.trans {q r s : Lab} (h : shP q r) (k : shP r s) : shP q s := ⟨k.1.trans h.1, k.2.trans h.2⟩
theorem shP.symm {q r : Lab} (h : shP q r) : shP r q := ⟨h.1.symm, h.2.symm⟩
section
variable {b : Bool} {d : Nat} {cx : Int} {q r : Lab} {ss : List c6}
end
section
variable {a b : c8} {k : Nat}
end
section
variable {s t : c6} {l m : List c6} {k : Nat}
end
section
variable {vs ars : List Int} {cx : Int} {s : c6} {d : Nat} {b : Bool}
section
variable {nv na d k : Nat} {ss : List c6} {q : Lab} {cx : Int}
end
end
section
variable {p : j8} {q : Lab} {b : List c6} {X : Lab}
end
abbrev X1 : List Int := [3] ++ ([4] ++ ([2] ++ ([5] ++ [])))
abbrev viL : List Int := [0] ++ ([1] ++ ([0] ++ ([1] ++ ([2] ++ ([3] ++ [])))))
abbrev U6 : List Int := [1] ++ ([2] ++ ([0] ++ ([1] ++ [])))
abbrev aiL : List Int := [0] ++ ([1] ++ ([0] ++ ([1] ++ ([3] ++ []))))
abbrev nbL : List Int := [2] ++ ([3] ++ ([1] ++ ([4] ++ [])))
def nsD (b : List UInt8) (l : List Int) (n : Nat) (k : Int) : List Int := (bS8 n).map fun (i : Nat) => nm b (k + (i : Int)) l
theorem aa3 (b : List UInt8) (l : List Int) (n : Nat) (k : Int) : (nsD b l n k).length = n := by simp [nsD]
theorem be0 (b : List UInt8) (l : List Int) (n : Nat) (k : Int) : nsD b l (n + 1) k = nsD b l n k ++ [nm b (k + (n : Int)) l] := by
 unfold nsD; rw [List.range_succ, List.map_append]; rfl
def F2 (b : List UInt8) (k : Int) : Int := k + 1 + nm b k X1
def kp2 (b : List UInt8) (k : Int) : Int := F2 b k + 1 + nm b (F2 b k) U6
def vsD (b : List UInt8) (k : Int) : List Int := nsD b viL (nm b k X1).toNat (k + 1)
def asD (b : List UInt8) (k : Int) : List Int := nsD b aiL (nm b (F2 b k) U6).toNat (F2 b k + 1)
def w5 (b : List UInt8) (k : Int) : List c6 × Int := D9 (z4 b (vsD b k).length (asD b k).length 3) (nm b (kp2 b k) nbL).toNat (kp2 b k + 1)
def rwD (b : List UInt8) (k : Int) : j8 := ⟨vsD b k, asD b k, (w5 b k).1⟩
def fbP : j8 := ⟨[0, 1], [], [⟨1, 1, noE, ⟨2, 0, []⟩, 0, [], []⟩]⟩
def n7 (b : List UInt8) (k : Int) : j8 := if B5 (rwD b k) = true then rwD b k else fbP
section
variable (b : List UInt8) {k : Int}
theorem by0 (hk : 0 ≤ k) (hk2 : k ≤ 1000000000) : 0 ≤ nm b k X1 ∧ nm b k X1 ≤ 5 := az0 b (by simp) (by simp) hk hk2
theorem bE7 (hk : 0 ≤ k) (hk2 : k ≤ 1000000000) : 0 ≤ nm b k nbL ∧ nm b k nbL ≤ 4 := az0 b (by simp) (by simp) hk hk2
theorem by3 (hk : 0 ≤ k) (hk2 : k ≤ 1000000000) : 0 ≤ nm b k U6 ∧ nm b k U6 ≤ 2 := az0 b (by simp) (by simp) hk hk2
theorem bf1 (hk : 0 ≤ k) (hk2 : k ≤ 10000000) : k + 1 ≤ F2 b k ∧ F2 b k ≤ k + 6 := by
 have := by0 b hk (by omega); unfold F2; omega
theorem bf0 (hk : 0 ≤ k) (hk2 : k ≤ 10000000) : k + 2 ≤ kp2 b k ∧ kp2 b k ≤ k + 9 := by
 have h1 := bf1 b hk hk2
 have := by3 b (k := F2 b k) (by omega) (by omega); unfold kp2; omega
theorem cS3 : cS 3 = 34170 ∧ cS 2 = 8442 := by decide
theorem bQ7 (nv na : Nat) : Drw (z4 b nv na 3) 34170 := fun j h1 h2 => by
 have e := cS3.1
 have h3 := aI5 b nv na 3 j h1 (by omega)
 have h4 := aP7 b nv na 3 j h1 (by omega)
 omega
theorem bj3 (hk : 0 ≤ k) (hk2 : k ≤ 10000000) : kp2 b k ≤ (w5 b k).2 ∧ (w5 b k).2 ≤ k + 150000 ∧ t0 (w5 b k).1 ≤ 150000 := by
 have h1 := bf0 b hk hk2
 have h2 := bE7 b (k := kp2 b k) (by omega) (by omega)
 have h3 := aE6 (f := z4 b (vsD b k).length (asD b k).length 3) (by omega) (bQ7 b _ _) (nm b (kp2 b k) nbL).toNat (kp2 b k + 1) (by omega) (by omega)
 unfold w5
 omega
theorem a87 (hk : 0 ≤ k) (hk2 : k ≤ 10000000) : (vsD b k).length ≤ 5 := by
 have := by0 b hk (by omega); unfold vsD; rw [aa3]; omega
theorem bj4 (hk : 0 ≤ k) (hk2 : k ≤ 10000000) : (asD b k).length ≤ 2 := by
 have h1 := bf1 b hk hk2
 have := by3 b (k := F2 b k) (by omega) (by omega); unfold asD; rw [aa3]; omega
theorem bz1 : B5 fbP = true := by decide +kernel
theorem bd3 (k : Int) : B5 (n7 b k) = true := by
 unfold n7; split
 ·assumption
 ·exact bz1
theorem bd2 (hk : 0 ≤ k) (hk2 : k ≤ 10000000) : (n7 b k).size ≤ 160000 := by
 have h1 := bj3 b hk hk2
 have h2 := a87 b hk hk2
 have h3 := bj4 b hk hk2
 unfold n7; split
 ·show (vsD b k).length + (asD b k).length + t0 (w5 b k).1 ≤ 160000
  omega
 ·decide
end
def T6 (c : List UInt8) : List UInt8 := c.take 2000
abbrev opL : List Int := [1] ++ ([2] ++ ([3] ++ ([6] ++ ([2] ++ ([7] ++ ([9] ++ ([4] ++ ([5] ++ ([11] ++ ([8] ++ ([12] ++ [])))))))))))
abbrev W9 : List Int := [0] ++ ([1] ++ ([2] ++ ([3] ++ ([255] ++ ([128] ++ ([7] ++ ([4] ++ ([100] ++ []))))))))
abbrev lnL : List Int := [6] ++ ([8] ++ ([4] ++ ([10] ++ ([1] ++ ([12] ++ [])))))
def opD (b : List UInt8) (j : Int) (na : Nat) : Int := if na = 0 ∧ (nm b j opL = 4 ∨ nm b j opL = 5) then 2 else nm b j opL
def ptD (b : List UInt8) (j : Int) (nv na : Nat) (at0 n : Int) (kd : UInt8) : Int :=
 if kd = 114 then pk b j 3 else if kd = 99 then nm b j W9 else if kd = 118 then pk b j nv else if kd = 97 then pk b j na else if kd = 111 then 4 + pk b j 7 else at0 + 1 + pk b j (n - at0 - 1)
def psD (b : List UInt8) (j : Int) (nv na : Nat) (at0 n : Int) (ks : List UInt8) (k : Nat) : List Int := (bS8 4).map fun i => if i < k then ptD b (j + i) nv na at0 n (ks.getD i 0) else 0
theorem aZ2 (b : List UInt8) (j : Int) (nv na : Nat) (at0 n : Int) (ks : List UInt8) (k : Nat) : (psD b j nv na at0 n ks k).length = 4 := by simp [psD]
theorem bd0 (b : List UInt8) (j : Int) (nv na : Nat) (at0 n : Int) (ks : List UInt8) {k : Nat} (hk : k < 4) : psD b j nv na at0 n ks (k + 1) = (psD b j nv na at0 n ks k).set k (ptD b (j + k) nv na at0 n (ks.getD k 0)) := by
 apply List.ext_getElem (by simp [aZ2])
 intro i h1 h2
 rw [List.getElem_set]
 simp only [psD, List.getElem_map, List.getElem_range]
 by_cases e : k = i
 ·subst e; simp
 ·rw [if_neg e]
  have : (i < k + 1) ↔ (i < k) := by omega
  simp only [this]
def Q2 (b : List UInt8) (j : Int) (nv na : Nat) (at0 n : Int) : c7 × Int :=
 (⟨opD b j na, (psD b (j + 1) nv na at0 n (e6 (opD b j na)) (e6 (opD b j na)).length).getD 0 0, (psD b (j + 1) nv na at0 n (e6 (opD b j na)) (e6 (opD b j na)).length).getD 1 0,
  (psD b (j + 1) nv na at0 n (e6 (opD b j na)) (e6 (opD b j na)).length).getD 2 0, (psD b (j + 1) nv na at0 n (e6 (opD b j na)) (e6 (opD b j na)).length).getD 3 0⟩, j + 1 + (e6 (opD b j na)).length)
theorem bM5 (b : List UInt8) (j : Int) (nv na : Nat) (at0 n : Int) : j + 1 ≤ (Q2 b j nv na at0 n).2 ∧ (Q2 b j nv na at0 n).2 ≤ j + 5 := by
 have := M5 (opD b j na)
 unfold Q2
 simp only
 omega
def rsD (b : List UInt8) (j : Int) (nv na : Nat) (n : Int) : Nat → List c7 × Int
 | 0 => ([], j)
 | k + 1 => ((rsD b j nv na n k).1 ++ [(Q2 b (rsD b j nv na n k).2 nv na k n).1], (Q2 b (rsD b j nv na n k).2 nv na k n).2)
theorem bw7 (b : List UInt8) (j : Int) (nv na : Nat) (n : Int) : ∀ k : Nat, (rsD b j nv na n k).1.length = k ∧ j ≤ (rsD b j nv na n k).2 ∧ (rsD b j nv na n k).2 ≤ j + 5 * k
 | 0 => by simp [rsD]
 | k + 1 => by
  obtain ⟨h1, h2, h3⟩ := bw7 b j nv na n k
  have h4 := bM5 b (rsD b j nv na n k).2 nv na k n
  have e2 : (rsD b j nv na n (k + 1)).2 = (Q2 b (rsD b j nv na n k).2 nv na k n).2 := rfl
  have e1 : (rsD b j nv na n (k + 1)).1.length = k + 1 := by
   show ((rsD b j nv na n k).1 ++ [(Q2 b (rsD b j nv na n k).2 nv na k n).1]).length = k + 1
   rw [bR8, h1]; rfl
  rw [e1, e2]
  generalize (Q2 b (rsD b j nv na n k).2 nv na k n).2 = x at h4 ⊢
  generalize (rsD b j nv na n k).2 = y at *
  refine ⟨rfl, ?_, ?_⟩ <;> omega
def clD (b : List UInt8) (j : Int) (nv na : Nat) : List c7 × Int :=
 (fun (n : Int) =>
  (fun (r : List c7 × Int) =>
   if n > 3 then
    (if pk b r.2 4 = 0 then (((r.1 ++ [(⟨13, 0, 0, 0, 0⟩ : c7)]).set 0 ⟨1, 5, 1 + pk b (r.2 + 1) 3, 0, 0⟩).set (n - 2).toNat ⟨10, 5, 1, 0, 0⟩, r.2 + 2) else (r.1 ++ [⟨13, 0, 0, 0, 0⟩], r.2 + 1))
   else (r.1 ++ [⟨13, 0, 0, 0, 0⟩], r.2)) (rsD b (j + 1) nv na n (n - 1).toNat)) (nm b j lnL)
theorem by4 (b : List UInt8) {j : Int} (hj : 0 ≤ j) (hj2 : j ≤ 1000000000) : 1 ≤ nm b j lnL ∧ nm b j lnL ≤ 12 := by
 have h := ad3 b hj hj2 (l := lnL) (List.cons_ne_nil _ _)
 generalize nm b j lnL = x at h ⊢
 simp only [lnL, List.cons_append, bV6, bU2, List.not_mem_nil, or_false] at h
 omega
theorem bQ9 (b : List UInt8) {j : Int} (nv na : Nat) (hj : 0 ≤ j) (hj2 : j ≤ 1000000000) : (clD b j nv na).1.length = (nm b j lnL).toNat ∧ j + 1 ≤ (clD b j nv na).2 ∧ (clD b j nv na).2 ≤ j + 70 := by
 have hn := by4 b hj hj2
 obtain ⟨h1, h2, h3⟩ := bw7 b (j + 1) nv na (nm b j lnL) (nm b j lnL - 1).toNat
 unfold clD
 simp only
 split
 ·split
  ·simp only [bU7, bR8, bS1, bS6, h1]; omega
  ·simp only [bR8, bS1, bS6, h1]; omega
 ·simp only [bR8, bS1, bS6, h1]; omega
structure o8 where
 vals : List Int
 arrs : List (List Int)
def C0 (l : List Int) : Bool := l.all fun n => decide (0 ≤ n) && decide (n ≤ 255)
def N9 (a : List Int) : Bool := decide (a.length = 4) && C0 a
def G8 (nv na : Nat) (m : o8) : Bool := decide (m.vals.length = nv) && (decide (m.arrs.length = na) && (C0 m.vals && m.arrs.all N9))
def H8 (b : List UInt8) (j : Int) (n : Nat) : List Int := (bS8 n).map fun i : Nat => nm b (j + i) W9
theorem T3 (b : List UInt8) (j : Int) (n : Nat) : (H8 b j n).length = n := by simp [H8]
theorem bL1 (b : List UInt8) (j : Int) : H8 b j 0 = [] := rfl
theorem an4 (b : List UInt8) (j : Int) (k : Nat) : H8 b j (k + 1) = H8 b j k ++ [nm b (j + k) W9] := by
 unfold H8; rw [List.range_succ, List.map_append]; rfl
def arD (b : List UInt8) (j : Int) (n : Nat) : List (List Int) := (bS8 n).map fun i : Nat => H8 b (j + 4 * i) 4
theorem aV1 (b : List UInt8) (j : Int) (n : Nat) : (arD b j n).length = n := by simp [arD]
theorem br0 (b : List UInt8) (j : Int) (k : Nat) : arD b j (k + 1) = arD b j k ++ [H8 b (j + 4 * k) 4] := by
 unfold arD; rw [List.range_succ, List.map_append]; rfl
theorem bj7 (b : List UInt8) (j : Int) (n : Nat) : ∀ a ∈ arD b j n, a.length = 4 := by
 intro a ha
 obtain ⟨i, _, rfl⟩ := List.mem_map.1 ha
 exact T3 _ _ _
def mmD (b : List UInt8) (j : Int) (nv na : Nat) : o8 := ⟨H8 b j nv, arD b (j + nv) na⟩
abbrev bnL : List Int := [-1] ++ ([256] ++ ([9223372036854775807] ++ []))
def beD (b : List UInt8) (j : Int) (m : o8) : o8 × Int :=
 if pk b j 60 = 0 then (⟨m.vals ++ [0], m.arrs⟩, j + 1)
 else if pk b j 60 = 1 then (if 0 < m.vals.length then (⟨m.vals.set 0 (nm b (j + 1) bnL), m.arrs⟩, j + 2) else (m, j + 1))
 else if pk b j 60 = 2 then (if 0 < m.arrs.length then (⟨m.vals, m.arrs.set 0 (((m.arrs.getD 0 []).take 3).drop 0)⟩, j + 1) else (m, j + 1))
 else if pk b j 60 = 3 then (⟨[], []⟩, j + 1)
 else (m, j + 1)
theorem bJ5 (b : List UInt8) (j : Int) (m : o8) : (beD b j m).1.vals.length ≤ m.vals.length + 1 ∧ (beD b j m).1.arrs.length ≤ m.arrs.length ∧ j + 1 ≤ (beD b j m).2 ∧ (beD b j m).2 ≤ j + 2 := by
 unfold beD
 repeat' split
 all_goals simp
 all_goals omega
theorem bJ6 (b : List UInt8) (j : Int) (m : o8) (n : Nat) (h : ∀ a ∈ m.arrs, a.length ≤ n) : ∀ a ∈ (beD b j m).1.arrs, a.length ≤ n := by
 intro a
 unfold beD
 split
 ·exact h a
 split
 ·split <;> exact h a
 split
 ·split
  ·intro ha
   rename_i hl
   rcases List.mem_or_eq_of_mem_set ha with h1 | h1
   ·exact h a h1
   ·subst h1
    have := h (m.arrs.getD 0 []) (by rw [bR7, bo2 hl]; exact bS9 hl)
    simp at this ⊢; omega
  ·exact h a
 split
 ·intro ha; simp at ha
 ·exact h a
section
variable {nv na : Nat} {m : o8}
theorem bH2 (h : ¬ (m.vals.length : Int) = nv) : G8 nv na m = false := by unfold G8; rw [decide_eq_false (p := m.vals.length = nv) (by omega)]; rfl
theorem bH1 (h : ¬ (m.arrs.length : Int) = na) : G8 nv na m = false := by unfold G8; rw [decide_eq_false (p := m.arrs.length = na) (by omega)]; simp
theorem bH0 (h : C0 m.vals = false) : G8 nv na m = false := by unfold G8; rw [h]; simp
theorem bG9 (h1 : (m.vals.length : Int) = nv) (h2 : (m.arrs.length : Int) = na) (h3 : C0 m.vals = true) : G8 nv na m = m.arrs.all N9 := by
 unfold G8
 rw [decide_eq_true (p := m.vals.length = nv) (by omega), decide_eq_true (p := m.arrs.length = na) (by omega), h3]; rfl
theorem at4 (h : G8 nv na m = true) : m.vals.length = nv ∧ m.arrs.length = na ∧ C0 m.vals = true ∧ m.arrs.all N9 = true := by
 unfold G8 at h
 simpa [bR6] using h
end
def jmS (b : List UInt8) (n : Int) (i : Nat) (x : List c7 × Int) : List c7 × Int :=
 if (x.1.getD i aK4).op ≠ 10 ∧ (x.1.getD i aK4).op ≠ 1 then
  (if pk b x.2 4 = 0 then (x.1.set i ⟨8, i + 1 + pk b (x.2 + 1) (n - i - 1), 0, 0, 0⟩, x.2 + 2) else (x.1, x.2 + 1))
 else x
def t8 (b : List UInt8) (n : Int) (x : List c7 × Int) : Nat → List c7 × Int
 | 0 => x
 | k + 1 => jmS b n k (t8 b n x k)
theorem bF8 (b : List UInt8) (n : Int) (i : Nat) (x : List c7 × Int) : (jmS b n i x).1.length = x.1.length ∧ x.2 ≤ (jmS b n i x).2 ∧ (jmS b n i x).2 ≤ x.2 + 2 := by
 unfold jmS
 split
 ·split
  ·exact ⟨bU7, by show x.2 ≤ x.2 + 2; omega, by show x.2 + 2 ≤ x.2 + 2; omega⟩
  ·exact ⟨rfl, by show x.2 ≤ x.2 + 1; omega, by show x.2 + 1 ≤ x.2 + 2; omega⟩
 ·exact ⟨rfl, Int.le_refl _, by omega⟩
theorem by7 (b : List UInt8) (n : Int) (x : List c7 × Int) : ∀ k : Nat, (t8 b n x k).1.length = x.1.length ∧ x.2 ≤ (t8 b n x k).2 ∧ (t8 b n x k).2 ≤ x.2 + 2 * k
 | 0 => ⟨rfl, Int.le_refl _, by simp [t8]⟩
 | k + 1 => by
  obtain ⟨h1, h2, h3⟩ := by7 b n x k
  obtain ⟨g1, g2, g3⟩ := bF8 b n k (t8 b n x k)
  rw [t8]
  refine ⟨g1.trans h1, by omega, by omega⟩
abbrev bF3 : List Int := [0] ++ ([14] ++ ([1] ++ ([12] ++ [])))
abbrev bF2 : List Int := [-1] ++ ([14] ++ ([0] ++ ([400] ++ [])))
abbrev bF1 : List Int := [1] ++ ([-1] ++ [])
def bx1 (l : List c7) (i : Nat) (n : Int) : List c7 := l.set i ⟨n, (l.getD i aK4).a, (l.getD i aK4).b, (l.getD i aK4).c, (l.getD i aK4).d⟩
def bc9 (l : List c7) (i : Nat) (n : Int) : List c7 := l.set i ⟨(l.getD i aK4).op, n, (l.getD i aK4).b, (l.getD i aK4).c, (l.getD i aK4).d⟩
def bx2 (l : List c7) (i : Nat) (n : Int) : List c7 := l.set i ⟨(l.getD i aK4).op, (l.getD i aK4).a, (l.getD i aK4).b, (l.getD i aK4).c, n⟩
def muD (b : List UInt8) (j : Int) (c : d7) : d7 × Int :=
 if c.list.length = 0 then (c, j)
 else if pk b j 60 = 0 then (⟨c.vars, c.arrays, bx1 c.list 0 (nm b (j + 1) bF3)⟩, j + 2)
 else if pk b j 60 = 1 then (⟨c.vars, c.arrays, bc9 c.list (pk b (j + 1) c.list.length).toNat (nm b (j + 2) bF2)⟩, j + 3)
 else if pk b j 60 = 2 then (⟨c.vars, c.arrays, c.list.set (c.list.length - 1) ⟨12, 0, 0, 0, 0⟩⟩, j + 1)
 else if pk b j 60 = 3 then (⟨c.vars, c.arrays, c.list.set (c.list.length - 1) ⟨8, 0, 0, 0, 0⟩⟩, j + 1)
 else if pk b j 60 = 4 then (⟨c.vars, c.arrays, bx2 c.list (pk b (j + 1) c.list.length).toNat (nm b (j + 2) bF1)⟩, j + 3)
 else if pk b j 60 = 5 then (⟨[], c.arrays, c.list⟩, j + 1)
 else (c, j + 1)
theorem bF0 (b : List UInt8) (j : Int) (c : d7) : (muD b j c).1.list.length = c.list.length ∧ (muD b j c).1.vars.length ≤ c.vars.length ∧ (muD b j c).1.arrays.length = c.arrays.length ∧ j ≤ (muD b j c).2 ∧ (muD b j c).2 ≤ j + 3 := by
 have key : ∀ (x : d7) (q : Int), x.list.length = c.list.length → x.vars.length ≤ c.vars.length → x.arrays.length = c.arrays.length → j ≤ q → q ≤ j + 3 → ((x, q).1.list.length = c.list.length ∧ (x, q).1.vars.length ≤ c.vars.length ∧ (x, q).1.arrays.length = c.arrays.length ∧ j ≤ (x, q).2 ∧ (x, q).2 ≤ j + 3) := fun x q h1 h2 h3 h4 h5 => ⟨h1, h2, h3, h4, h5⟩
 unfold muD
 repeat' split
 all_goals (refine key _ _ ?_ ?_ ?_ (by omega) (by omega) <;> simp [bx1, bc9, bx2])
theorem bE1 {b : List UInt8} {j n : Int} (h : n < 1) : pk b j n = 0 := by unfold pk; rw [if_pos (.inl h)]
theorem bN8 {b : List UInt8} {j n : Int} (h : (b.length : Int) = 0) : pk b j n = 0 := by unfold pk; rw [if_pos (.inr (by omega))]
theorem bN7 {b : List UInt8} {j n : Int} (h : ¬ n < 1) (h1 : ¬ (b.length : Int) = 0) (h2 : j + 1 - 1 < b.length) : pk b j n = ((b.getD (j + 1 - 1).toNat 0).toNat : Int).tmod n := by
 unfold pk; rw [if_neg (by omega), if_pos (by omega), Int.add_sub_cancel]
theorem bN6 {b : List UInt8} {j n : Int} (h : ¬ n < 1) (h1 : ¬ (b.length : Int) = 0) (h2 : ¬ j + 1 - 1 < b.length) : pk b j n = (aO9 (pkX b (j + 1 - 1)) ((pkX b (j + 1 - 1)).tdiv 64)).tmod n := by
 unfold pk; rw [if_neg (by omega), if_neg (by omega), Int.add_sub_cancel]
theorem a45 {x : Int} {n : Nat} (hx : 0 ≤ x) (hn : ¬ (n : Int) = 0) : 0 ≤ x.tmod n ∧ x.tmod n < n ∧ (x.tmod n).toNat < n := by
 have := aP2 (x := x) (n := n) hx (by omega); omega
theorem n5 (b : List UInt8) (j n : Int) (r0 : 0 ≤ j) (r1 : j ≤ 1000000000) : j5.ok Try.prog ⟨29, [.ptr 0 0, iA n], [.box [.ref 1, iA j], dY b], [.box [.ref 1, iA (j + 1)], dY b], iA (pk b j n)⟩ := by
  refine F5 99 Try.func29 [.box [.ref 1, iA j], dY b] [(0, .ptr 0 0), (1, iA n)] fun G => ?_; have hu1 := aH9 (b.getD ((j + 1 - 1).tmod b.length).toNat 0); have hu2 := aH9 (b.getD (((j + 1 - 1) * 7 + 3).tmod b.length).toNat 0); refine wp_seq (j7 G d8 [(4, iA 0)] fun G => b0 (wp_seq (G4 G d8 [0, 1] [.box [.ref 1, iA (j + 1)], dY b] [(0, .ptr 0 0), (1, iA n), (4, iA 0)] [wO (j + 1)] (o1 (by omega)) fun G => b0 (wp_seq (wp_seq ?_))))); cases h0 : (decide (n < 1))
  ·
   have q0 := T8 h0; refine j7 G (E7 (fc h0 fz) (us [(3, 8, 0), (1009, 1009, 0)])) [(24, bA ((b.length : Int) == 0))] fun G => b0 (H6 G (fun h1 q1 => ?_) fun h1 q1 => ?_)
   ·
    refine wp_skip (b0 (wp_seq (A0 G d8 [(5, iA (j + 1 - 1))] [wO (j + 1 - 1)] (o1 (by omega)) fun G => b0 (wp_seq (wp_seq (j7 G d8 [(36, bA (decide (j + 1 - 1 < (b.length : Int))))] fun G => b0 (rcD G (fun h2 q2 => ?_) fun h2 q2 => ?_)))))))
    ·
     refine wp_skip (b0 (wp_seq (aQ8 G d8 [0, 1, 3, 7, 0, 0, 32, 96, 224, 480, 1008, 2047, 4095, 8191, 16383, 0, 32768, 98304, 229376, 0, 524288, 1572864, 0, 4194304, 12582912, 29360128, 62914560, 133693440, 268402688, 536838144, 1073709056, 2147450880, 4294967295, 0, 8589934592, 34359738367, 0, 0, 137438953472, 412316860416, 962072674304, 2061584302080, 4329327034368, 8727373545472, 17592186044415, 35184372088831] [(6, iA (((b.getD ((j + 1 - 1).tmod (b.length : Int)).toNat 0).toNat : Int) * 131 + ((b.getD (((j + 1 - 1) * 7 + 3).tmod (b.length : Int)).toNat 0).toNat : Int) * 1117 + (j + 1 - 1) * 29 + (j + 1 - 1).tdiv (b.length : Int) * 53))] [(b.length : Int) ≠ 0, (0 : Int) ≤ (j + 1 - 1).tmod (b.length : Int), (j + 1 - 1).tmod (b.length : Int) < b.length, ((j + 1 - 1).tmod (b.length : Int)).toNat < b.length, IntKind.i64.wrap ((b.getD ((j + 1 - 1).tmod (b.length : Int)).toNat (0 : UInt8)).toNat : Int) = ((b.getD ((j + 1 - 1).tmod (b.length : Int)).toNat (0 : UInt8)).toNat : Int), wO (((b.getD ((j + 1 - 1).tmod (b.length : Int)).toNat (0 : UInt8)).toNat : Int) * 131), wO ((j + 1 - 1) * 7), wO ((j + 1 - 1) * 7 + 3), (b.length : Int) ≠ 0, (0 : Int) ≤ ((j + 1 - 1) * 7 + 3).tmod (b.length : Int), ((j + 1 - 1) * 7 + 3).tmod (b.length : Int) < b.length, (((j + 1 - 1) * 7 + 3).tmod (b.length : Int)).toNat < b.length, IntKind.i64.wrap ((b.getD (((j + 1 - 1) * 7 + 3).tmod (b.length : Int)).toNat (0 : UInt8)).toNat : Int) = ((b.getD (((j + 1 - 1) * 7 + 3).tmod (b.length : Int)).toNat (0 : UInt8)).toNat : Int), wO (((b.getD (((j + 1 - 1) * 7 + 3).tmod (b.length : Int)).toNat (0 : UInt8)).toNat : Int) * 1117), wO (((b.getD ((j + 1 - 1).tmod (b.length : Int)).toNat (0 : UInt8)).toNat : Int) * 131 + ((b.getD (((j + 1 - 1) * 7 + 3).tmod (b.length : Int)).toNat (0 : UInt8)).toNat : Int) * 1117), wO ((j + 1 - 1) * 29), wO (((b.getD ((j + 1 - 1).tmod (b.length : Int)).toNat (0 : UInt8)).toNat : Int) * 131 + ((b.getD (((j + 1 - 1) * 7 + 3).tmod (b.length : Int)).toNat (0 : UInt8)).toNat : Int) * 1117 + (j + 1 - 1) * 29), (b.length : Int) ≠ 0, wO ((j + 1 - 1).tdiv (b.length : Int)), wO ((j + 1 - 1).tdiv (b.length : Int) * 53), wO (((b.getD ((j + 1 - 1).tmod (b.length : Int)).toNat (0 : UInt8)).toNat : Int) * 131 + ((b.getD (((j + 1 - 1) * 7 + 3).tmod (b.length : Int)).toNat (0 : UInt8)).toNat : Int) * 1117 + (j + 1 - 1) * 29 + (j + 1 - 1).tdiv (b.length : Int) * 53)] ⟨(by assumption), ((a45 (by omega) (by omega)).1), ((a45 (by omega) (by omega)).2.1), ((a45 (by omega) (by omega)).2.2), (w64 (by omega) (by omega)), (oW (by omega)), (oW (by omega)), (oW (by omega)), (by assumption), ((a45 (by omega) (by omega)).1), ((a45 (by omega) (by omega)).2.1), ((a45 (by omega) (by omega)).2.2), (w64 (by omega) (by omega)), (oW (by omega)), (oW (by omega)), (oW (by omega)), (oW (by omega)), (by assumption), (by have := aK2 (b := b) (k := j + 1 - 1) (by omega) (by omega) (by omega); exact w64 (by unfold pkX at this; omega) (by unfold pkX at this; omega)), (by have := aK2 (b := b) (k := j + 1 - 1) (by omega) (by omega) (by omega); exact w64 (by unfold pkX at this; omega) (by unfold pkX at this; omega)), (by have := aK2 (b := b) (k := j + 1 - 1) (by omega) (by omega) (by omega); exact w64 (by unfold pkX at this; omega) (by unfold pkX at this; omega)), bS4⟩ fun G => ?_)))
     refine b0 (wp_seq (A0 G d8 [(6, iA (aO9 (((b.getD ((j + 1 - 1).tmod (b.length : Int)).toNat 0).toNat : Int) * 131 + ((b.getD (((j + 1 - 1) * 7 + 3).tmod (b.length : Int)).toNat 0).toNat : Int) * 1117 + (j + 1 - 1) * 29 + (j + 1 - 1).tdiv (b.length : Int) * 53) ((((b.getD ((j + 1 - 1).tmod (b.length : Int)).toNat 0).toNat : Int) * 131 + ((b.getD (((j + 1 - 1) * 7 + 3).tmod (b.length : Int)).toNat 0).toNat : Int) * 1117 + (j + 1 - 1) * 29 + (j + 1 - 1).tdiv (b.length : Int) * 53).tdiv 64)))] [(64 : Int) ≠ 0, wO ((((b.getD ((j + 1 - 1).tmod (b.length : Int)).toNat (0 : UInt8)).toNat : Int) * 131 + ((b.getD (((j + 1 - 1) * 7 + 3).tmod (b.length : Int)).toNat (0 : UInt8)).toNat : Int) * 1117 + (j + 1 - 1) * 29 + (j + 1 - 1).tdiv (b.length : Int) * 53).tdiv (64 : Int))] ⟨(by omega), (by have := bt5 (b := b) (k := j + 1 - 1) (by omega) (by omega) (by omega); exact w64 (by unfold pkX at this; omega) (by unfold pkX at this; omega)), bS4⟩ fun G => b0 (wp_seq (A0 G d8 [(4, iA ((aO9 (((b.getD ((j + 1 - 1).tmod (b.length : Int)).toNat 0).toNat : Int) * 131 + ((b.getD (((j + 1 - 1) * 7 + 3).tmod (b.length : Int)).toNat 0).toNat : Int) * 1117 + (j + 1 - 1) * 29 + (j + 1 - 1).tdiv (b.length : Int) * 53) ((((b.getD ((j + 1 - 1).tmod (b.length : Int)).toNat 0).toNat : Int) * 131 + ((b.getD (((j + 1 - 1) * 7 + 3).tmod (b.length : Int)).toNat 0).toNat : Int) * 1117 + (j + 1 - 1) * 29 + (j + 1 - 1).tdiv (b.length : Int) * 53).tdiv 64)).tmod n))] [n ≠ 0] ⟨(by omega), bS4⟩ fun G => b0 (wp_ret ?_))))); exact rxI ((aO9 (((b.getD ((j + 1 - 1).tmod (b.length : Int)).toNat 0).toNat : Int) * 131 + ((b.getD (((j + 1 - 1) * 7 + 3).tmod (b.length : Int)).toNat 0).toNat : Int) * 1117 + (j + 1 - 1) * 29 + (j + 1 - 1).tdiv (b.length : Int) * 53) ((((b.getD ((j + 1 - 1).tmod (b.length : Int)).toNat 0).toNat : Int) * 131 + ((b.getD (((j + 1 - 1) * 7 + 3).tmod (b.length : Int)).toNat 0).toNat : Int) * 1117 + (j + 1 - 1) * 29 + (j + 1 - 1).tdiv (b.length : Int) * 53).tdiv 64)).tmod n) G [0, 1] (bN6 (by omega) (by omega) (by omega))
    · refine wp_seq (A0 G d8 [(4, iA (((b.getD (j + 1 - 1).toNat 0).toNat : Int).tmod n))] (iX (j + 1 - 1) ((j + 1 - 1).toNat) b.length ((IntKind.i64.wrap ((b.getD (j + 1 - 1).toNat (0 : UInt8)).toNat : Int) = ((b.getD (j + 1 - 1).toNat (0 : UInt8)).toNat : Int)) :: ((n ≠ 0) :: []))) (iK (by omega) ⟨(by have := aH9 (b.getD (j + 1 - 1).toNat 0); exact w64 (by omega) (by omega)), ⟨(by omega), bS4⟩⟩) fun G => b0 (wp_ret (n8 ?_))); exact rxI (((b.getD (j + 1 - 1).toNat 0).toNat : Int).tmod n) G [0, 1] (bN7 (by omega) (by omega) (by omega))
   · refine wp_seq (j7 G d8 [] fun G => b0 (wp_ret (n8 ?_))); exact rxI 0 G [0, 1] (bN8 (by omega))
  · have q0 := T7 h0; refine j7 G (E7 (fc h0 fz) (us [(3, 8, 0), (1009, 1009, 0)])) [(24, bA true)] fun G => b0 (rT G true (by kernel_rfl) (wp_seq (j7 G d8 [] fun G => b0 (wp_ret (n8 ?_))))); exact rxI 0 G [0, 1] (bE1 (by omega))
theorem H3 (b : List UInt8) (j : Int) (l : List Int) (hl : l ≠ []) (r0 : 0 ≤ j) (r1 : j ≤ 1000000000) : j5.ok Try.prog ⟨27, [.ptr 0 0, .ref 2], [.box [.ref 1, iA j], dY b, dI l], [.box [.ref 1, iA (j + 1)], dY b, dI l], iA (nm b j l)⟩ := by
 refine F5 12 Try.func27 [.box [.ref 1, iA j], dY b, dI l] [(0, .ptr 0 0), (1, .ref 2)] fun G => ?_; refine wp_seq (j7 G d8 [(4, iA 0)] fun G => b0 (wp_seq (G4 G (r7 4 [0, 1] (n5 b j ((l.length : Int)) (by assumption) (by assumption))) [0, 1, 2] [.box [.ref 1, iA (j + 1)], dY b, dI l] [(4, iA (l.getD (pk b j (l.length : Int)).toNat 0))] [(0 : Int) ≤ pk b j (l.length : Int), pk b j (l.length : Int) < l.length, (pk b j (l.length : Int)).toNat < l.length] ⟨((aZ9 b r0 r1 hl).1), ((aZ9 b r0 r1 hl).2.1), ((aZ9 b r0 r1 hl).2.2), bS4⟩ fun G => b0 (wp_ret ?_)))); exact D8 G [0, 1, 2]
theorem aU7 (c : List UInt8) (hc : c.length ≤ 2000) : j5.ok Try.prog ⟨23, [.ref 0], [dY c], [dY c, .box [.ref 0, iA 0]], .ptr 1 0⟩ := by
 refine F5 11 Try.func23 [dY c] [(0, .ref 0)] fun G => ?_; refine wp_seq (j7 G d8 [(2, .v (.pointer none))] fun G => b0 (wp_seq (wp_seq (D6 G d8 [(0, .ref 0), (2, .v (.pointer none)), (5, bA (decide ((c.length : Int) > 2000)))] fun G => b0 ?_)))); cases h0 : (decide ((c.length : Int) > 2000))
 ·have q0 := T8 h0; refine rF G _ h0 (wp_skip (b0 (wp_seq (i7 G d8 [0, 17] [dY c, .box [.ref 0, iA 0]] [(2, .ptr 1 0)] fun G => b0 (wp_ret ?_))))); exact D8 G [0, 1]
 ·have q0 := T7 h0; exact False.elim (by omega)
theorem aU6 (c : List UInt8) (hc : 2000 < c.length) : j5.ok Try.prog ⟨23, [.ref 0], [dY c], [dY c, .box [.ref 2, iA 0], dY ((c.take 2000).drop 0)], .ptr 1 0⟩ := by
 refine F5 11 Try.func23 [dY c] [(0, .ref 0)] fun G => ?_; refine wp_seq (j7 G d8 [(2, .v (.pointer none))] fun G => b0 (wp_seq (wp_seq (D6 G d8 [(0, .ref 0), (2, .v (.pointer none)), (5, bA (decide ((c.length : Int) > 2000)))] fun G => b0 ?_)))); cases h0 : (decide ((c.length : Int) > 2000))
 ·have q0 := T8 h0; exact False.elim (by omega)
 ·have q0 := T7 h0; refine rT G _ h0 (G4 G d8 [0, 9] [dY c, dY (List.drop 0 (bS3 (Int.toNat 2000) c))] [(0, .ref 1), (2, .v (.pointer none))] [(0 : Int) ≤ 2000, (2000 : Int) ≤ c.length] ⟨(by omega), (by omega), bS4⟩ fun G => b0 (wp_seq (i7 G d8 [0, 1, 18] [dY c, dY (List.drop 0 (bS3 (Int.toNat 2000) c)), .box [.ref 1, iA 0]] [(2, .ptr 2 0)] fun G => b0 (wp_ret ?_)))); exact D8 G [0, 2, 1]
abbrev dwS (b : List UInt8) (j : Int) (vs ars : List Int) (bd : List c6) : List It := [.box [.ref 1, iA j], dY b, dI vs, dI ars, dT bd]
abbrev exO (e : c8) : List It := [.tree (.exprs e.kids)]
abbrev exA (e : c8) (r : Nat) : AV := .agg [iA e.kind, iA e.value, .tref r]
theorem bJ8 {b : List UInt8} {nv j : Int} (h : pk b j 3 = 0) : m7 b nv j = ⟨1, nm b (j + 1) atL, []⟩ := if_pos h
theorem bJ7 {b : List UInt8} {nv j : Int} (h : ¬ pk b j 3 = 0) : m7 b nv j = ⟨2, pk b (j + 1) nv, []⟩ := if_neg h
theorem aj4 (b : List UInt8) (j : Int) (vs ars : List Int) (bd : List c6) (r0 : 0 ≤ j) (r1 : j ≤ 900000000) : j5.ok Try.prog ⟨30, [.ptr 0 0, pA 2], dwS b j vs ars bd, dwS b (j + 2) vs ars bd ++ exO (m7 b vs.length j), exA (m7 b vs.length j) 5⟩ := by
 refine F5 18 Try.func30 [.box [.ref 1, iA j], dY b, dI vs, dI ars, dT bd] [(0, .ptr 0 0), (1, pA 2)] fun G => ?_; refine wp_seq (i7 G d8 [0, 1, 2, 3, 4, 5, 13] [.box [.ref 1, iA j], dY b, dI vs, dI ars, dT bd, .box (pL 2), .box [iA 0, iA 0, .v (.slice none 0 0)]] [(0, .ptr 0 0), (3, .ptr 5 0), (4, .ptr 6 0)] fun G => b0 (wp_seq (wp_seq (i7 G (r7 1 [0, 1] (n5 b j 3 (by assumption) (by omega))) (rg 7) [.box [.ref 1, iA (j + 1)], dY b, dI vs, dI ars, dT bd, .box (pL 2), .box [iA 0, iA 0, .v (.slice none 0 0)]] [(0, .ptr 0 0), (3, .ptr 5 0), (4, .ptr 6 0), (7, bA (pk b j 3 == 0))] fun G => b0 (H6 G (fun h0 q0 => ?_) fun h0 q0 => ?_)))))
 ·refine wp_skip (b0 (wp_seq (i7 G (r7 4 [0, 1] (n5 b (j + 1) ((vs.length : Int)) (by omega) (by omega))) [0, 1, 2, 3, 4, 6] [.box [.ref 1, iA (j + 1 + 1)], dY b, dI vs, dI ars, dT bd, .box [iA 2, iA (pk b (j + 1) (vs.length : Int)), .v (.slice none 0 0)]] [(4, .ptr 5 0)] fun G => b0 (wp_ret ?_)))); obtain ⟨ρ, G⟩ := G.nilT 6 (.exprs []) [.box [.ref 1, iA (j + 1 + 1)], dY b, dI vs, dI ars, dT bd, .box [iA 2, iA (pk b (j + 1) (vs.length : Int)), .tref 6]] [(4, .ptr 5 0)]; exact Q1 (.agg [iA 2, iA (pk b (j + 1) (vs.length : Int)), .tref 6]) G [0, 1, 2, 3, 4, 6] (by show _ = AV.ren (nth [0, 1, 2, 3, 4, 6]) (.agg [iA (m7 b (vs.length : Int) j).kind, iA (m7 b (vs.length : Int) j).value, .tref 5]); rw [bJ7 (by omega)] <;> rfl) (by show _ = mR [0, 1, 2, 3, 4, 6] [.box [.ref 1, iA (j + 2)], dY b, dI vs, dI ars, dT bd, .tree (D.exprs (m7 b (vs.length : Int) j).kids)]; have e1 : (j + 2 : Int) = (j + 1 + 1) := (by omega); rw [e1, bJ7 (by omega)] <;> rfl)
 ·refine wp_seq (i7 G (r7 2 [0, 1, 15] (j5.lend (H3 b (j + 1) atL (by simp [h0]) (by omega) (by omega)) [.no, .no, .row 3])) (rg 7) [.box [.ref 1, iA (j + 1 + 1)], dY b, dI vs, dI ars, dT bd, .box (pL 2), .box [iA 1, iA (nm b (j + 1) atL), .v (.slice none 0 0)]] [(0, .ptr 0 0), (3, .ptr 5 0), (4, .ptr 6 0)] fun G => b0 (wp_ret (n8 ?_))); obtain ⟨ρ, G⟩ := G.nilT 7 (.exprs []) [.box [.ref 1, iA (j + 1 + 1)], dY b, dI vs, dI ars, dT bd, .box (pL 2), .box [iA 1, iA (nm b (j + 1) atL), .tref 7]] [(0, .ptr 0 0), (3, .ptr 5 0), (4, .ptr 6 0)]; exact Q1 (.agg [iA 1, iA (nm b (j + 1) atL), .tref 7]) G [0, 1, 2, 3, 4, 7] (by show _ = AV.ren (nth [0, 1, 2, 3, 4, 7]) (.agg [iA (m7 b (vs.length : Int) j).kind, iA (m7 b (vs.length : Int) j).value, .tref 5]); rw [bJ8 (by omega)] <;> rfl) (by show _ = mR [0, 1, 2, 3, 4, 7] [.box [.ref 1, iA (j + 2)], dY b, dI vs, dI ars, dT bd, .tree (D.exprs (m7 b (vs.length : Int) j).kids)]; have e1 : (j + 2 : Int) = (j + 1 + 1) := (by omega); rw [e1, bJ8 (by omega)] <;> rfl)
theorem aU4 (vs ars : List Int) (bd : List c6) (e : c8) : j5.ok Try.prog (X8 31 [pA 0, eA e 3] ([dI vs, dI ars, dT bd] ++ eS e) (bA (n9 vs.length ars.length e))) := F3 ⟨vs, ars, bd⟩ e
abbrev drC (b : List UInt8) (vs ars : List Int) (bd : List c6) (d : Nat) (j n : Int) : j5 := ⟨62, [.ptr 0 0, pA 2, iA n], dwS b j vs ars bd, dwS b (H5 b vs.length ars.length d j).2 vs ars bd ++ exO (H5 b vs.length ars.length d j).1, exA (H5 b vs.length ars.length d j).1 5⟩
section
variable {b : List UInt8} {nv na : Int} {d : Nat} {j : Int}
theorem bH5 (h : d < 2) : H5 b nv na d j = (m7 b nv j, j + 2) := by
 match d, h with
 | 0, _ => rfl
 | 1, _ => simp [H5]
theorem bz6 (h : 0 < d) (h1 : pk b j 4 = 0) : H5 b nv na (d + 1) j = (m7 b nv (j + 1), j + 3) := by rw [H5, if_neg (by omega), if_pos h1]
theorem bq0 (h : 0 < d) (h1 : ¬ pk b j 4 = 0) (h2 : nm b (j + 1) J4 = 3) (h3 : na = 0) : H5 b nv na (d + 1) j = (m7 b nv (j + 2), j + 4) := by rw [H5, if_neg (by omega), if_neg h1, if_pos h2, if_pos h3]
theorem bp9 (h : 0 < d) (h1 : ¬ pk b j 4 = 0) (h2 : nm b (j + 1) J4 = 3) (h3 : ¬ na = 0) : H5 b nv na (d + 1) j = (⟨3, pk b (j + 2) na, [m7 b nv (j + 3)]⟩, j + 5) := by rw [H5, if_neg (by omega), if_neg h1, if_pos h2, if_neg h3]
abbrev drK (b : List UInt8) (nv na : Int) (d : Nat) (j : Int) (k : Nat) : List c8 × Int := D9 (H5 b nv na d) k (j + 2)
theorem bH4 (h : 0 < d) (h1 : ¬ pk b j 4 = 0) (h2 : ¬ nm b (j + 1) J4 = 3) {m : Int} (h3 : 0 ≤ m) (h4 : ¬ m > 0) : H5 b nv na (d + 1) j = (⟨nm b (j + 1) J4, 0, (drK b nv na d j (r8 (nm b (j + 1) J4) - m).toNat).1⟩, (drK b nv na d j (r8 (nm b (j + 1) J4) - m).toNat).2) := by
 have e : m = 0 := by omega
 rw [e, Int.sub_zero, H5, if_neg (by omega), if_neg h1, if_neg h2]
theorem a15 {x m : Int} (h3 : m > 0) (h4 : m ≤ x) : drK b nv na d j (x - (m - 1)).toNat = ((drK b nv na d j (x - m).toNat).1 ++ [(H5 b nv na d (drK b nv na d j (x - m).toNat).2).1], (H5 b nv na d (drK b nv na d j (x - m).toNat).2).2) := by
 rw [show (x - (m - 1)).toNat = (x - m).toNat + 1 by omega]; rfl
theorem bK0 (r0 : 0 ≤ j) (r1 : j ≤ 900000000) : 0 ≤ r8 (nm b (j + 1) J4) ∧ r8 (nm b (j + 1) J4) ≤ 3 := by
 have h := ad3 b (k := j + 1) (l := J4) (by omega) (by omega) (by simp)
 simp only [bS7, bU2, List.not_mem_nil, or_false] at h
 rcases h with h | h | h | h | h | h | h | h | h <;> rw [h] <;> decide
theorem bH7 (r0 : 0 ≤ j) {k : Nat} (hk : k ≤ 3) : j + 2 ≤ (drK b nv na d j k).2 ∧ (drK b nv na d j k).2 ≤ j + 2 + 3 * cE d := by
 have hc := av2 d
 have h := bg6 (f := H5 b nv na d) (c := cE d) (m := 3) (by omega) k (j + 2) hk fun i _ _ => aM7 b nv na d i
 have h4 : (k : Int) * cE d ≤ 3 * cE d := bV4 (by omega) (by omega)
 unfold drK; omega
theorem bH6 {x m : Int} (r0 : 0 ≤ j) (h3 : m > 0) (h4 : m ≤ x) (h5 : x ≤ 3) (r1 : j + cE (d + 1) ≤ 800000000) : (drK b nv na d j (x - m).toNat).2 + cE d ≤ 800000000 := by
 have hc := av2 d
 have hce : cE (d + 1) = 5 + 3 * cE d := rfl
 have hm : (x - m).toNat ≤ 2 := by omega
 have h := bg6 (f := H5 b nv na d) (c := cE d) (m := 2) (by omega) (x - m).toNat (j + 2) hm fun i _ _ => aM7 b nv na d i
 have h4 : ((x - m).toNat : Int) * cE d ≤ 2 * cE d := bV4 (by omega) (by omega)
 unfold drK; omega
end
theorem aY5 (b : List UInt8) (vs ars : List Int) (bd : List c6) (d : Nat) (hd : d < 2) (j n : Int) (hn : n = d) (r0 : 0 ≤ j) (r1 : j ≤ 900000000) : j5.ok Try.prog (drC b vs ars bd d j n) := by
 refine F5 62 Try.func62 [.box [.ref 1, iA j], dY b, dI vs, dI ars, dT bd] [(0, .ptr 0 0), (1, pA 2), (2, iA n)] fun G => ?_; refine wp_seq (i7 G d8 [0, 1, 2, 3, 4, 5, 13] [.box [.ref 1, iA j], dY b, dI vs, dI ars, dT bd, .box (pL 2), .box [iA 0, iA 0, .v (.slice none 0 0)]] [(0, .ptr 0 0), (2, iA n), (4, .ptr 5 0), (6, .ptr 6 0)] fun G => b0 (wp_seq (wp_seq ?_))); cases h0 : (decide (n < 2))
 ·have q0 := T8 h0; exact False.elim (by omega)
 ·have q0 := T7 h0; refine j7 G (E7 (fc h0 fz) [(3, 0), (4, 0), (5, 0), (1006, 0)]) [(16, bA true)] fun G => b0 (rT G true (by kernel_rfl) (wp_seq (i7 G (r7 2 (rg 5) (aj4 b j vs ars bd (by assumption) (by assumption))) [0, 1, 2, 3, 4, 5, 6, 23] [.box [.ref 1, iA (j + 2)], dY b, dI vs, dI ars, dT bd, .box (pL 2), .box [iA (m7 b (vs.length : Int) j).kind, iA (m7 b (vs.length : Int) j).value, .tref 7], .tree (D.exprs (m7 b (vs.length : Int) j).kids)] [(0, .ptr 0 0), (2, iA n), (4, .ptr 5 0), (6, .ptr 6 0)] fun G => b0 (wp_ret (n8 ?_))))); exact Q1 (.agg [iA (m7 b (vs.length : Int) j).kind, iA (m7 b (vs.length : Int) j).value, .tref 7]) G [0, 1, 2, 3, 4, 7] (by show _ = AV.ren (nth [0, 1, 2, 3, 4, 7]) (.agg [iA (H5 b (vs.length : Int) (ars.length : Int) d j).fst.kind, iA (H5 b (vs.length : Int) (ars.length : Int) d j).fst.value, .tref 5]); rw [bH5 hd] <;> rfl) (by show _ = mR [0, 1, 2, 3, 4, 7] [.box [.ref 1, iA (H5 b (vs.length : Int) (ars.length : Int) d j).snd], dY b, dI vs, dI ars, dT bd, .tree (D.exprs (H5 b (vs.length : Int) (ars.length : Int) d j).fst.kids)]; rw [bH5 hd] <;> rfl)
abbrev ap0 (b : List UInt8) (vs : List Int) (ars : List Int) (d : Nat) (j : Int) (k : Int) := drK b (vs.length : Int) (ars.length : Int) d j (r8 (nm b (j + 1) J4) - k).toNat
abbrev ak6 (b : List UInt8) (vs : List Int) (ars : List Int) (d : Nat) (j : Int) : AV := (.agg [iA (H5 b (vs.length : Int) (ars.length : Int) (d + 1) j).fst.kind, iA (H5 b (vs.length : Int) (ars.length : Int) (d + 1) j).fst.value, .tref 5])
abbrev ak5 (b : List UInt8) (vs : List Int) (ars : List Int) (bd : List c6) (d : Nat) (j : Int) : List It := [.box [.ref 1, iA (H5 b (vs.length : Int) (ars.length : Int) (d + 1) j).snd], dY b, dI vs, dI ars, dT bd, .tree (D.exprs (H5 b (vs.length : Int) (ars.length : Int) (d + 1) j).fst.kids)]
abbrev ax4 : It := .box [iA 0, iA 0, .v (.slice none 0 0)]
abbrev W5 (n : Int) (r0 : List (Nat × AV)) : List (Nat × AV) := (0, .ptr 0 0) :: (2, iA n) :: (4, .ptr 5 0) :: (6, .ptr 6 0) :: r0
theorem bm3 (b : List UInt8) (vs ars : List Int) (bd : List c6) (d : Nat) (hd : 0 < d) (hd2 : d ≤ 100) (ih : ∀ (j n : Int), n = d → 0 ≤ j → j + cE d ≤ 800000000 → j5.ok Try.prog (drC b vs ars bd d j n)) (j n : Int) (hn : n = ((d + 1 : Nat) : Int)) (r0 : 0 ≤ j) (r1 : j + cE (d + 1) ≤ 800000000) : j5.ok Try.prog (drC b vs ars bd (d + 1) j n) := by
  refine F5 62 Try.func62 [.box [.ref 1, iA j], dY b, dI vs, dI ars, dT bd] [(0, .ptr 0 0), (1, pA 2), (2, iA n)] fun G => ?_; have hc := av2 d; have hce : cE (d + 1) = 5 + 3 * cE d := rfl; have har := bK0 (b := b) (j := j) r0 (by omega); refine wp_seq (i7 G d8 [0, 1, 2, 3, 4, 5, 13] [.box [.ref 1, iA j], dY b, dI vs, dI ars, dT bd, .box (pL 2), ax4] (W5 n []) fun G => b0 (wp_seq (wp_seq ?_))); cases h0 : (decide (n < 2))
  ·
   have q0 := T8 h0; refine i7 G (K9 (A2 4 [0, 1] (n5 b j 4 (by assumption) (by omega)) K8) (fc h0 fz) [(3, 0), (4, 0), (5, 0), (1006, 0)]) (rg 7) [.box [.ref 1, iA (j + 1)], dY b, dI vs, dI ars, dT bd, .box (pL 2), ax4] (W5 n [(16, bA (pk b j 4 == 0))]) fun G => b0 (H6 G (fun h1 q1 => ?_) fun h1 q1 => ?_)
   ·
    refine wp_skip (b0 (wp_seq (i7 G (r7 2 [0, 1, 15] (j5.lend (H3 b (j + 1) J4 (by simp [h0, h1]) (by omega) (by omega)) [.no, .no, .row 3])) (rg 7) [.box [.ref 1, iA (j + 1 + 1)], dY b, dI vs, dI ars, dT bd, .box (pL 2), ax4] (W5 n [(7, iA (nm b (j + 1) J4))]) fun G => b0 (wp_seq (wp_seq (j7 G d8 [(24, bA (nm b (j + 1) J4 == 3))] fun G => b0 (H6 G (fun h2 q2 => ?_) fun h2 q2 => ?_)))))))
    ·
     refine wp_skip (b0 (wp_seq (i7 G d8 [0, 1, 2, 3, 4, 5, 6, 23] [.box [.ref 1, iA (j + 1 + 1)], dY b, dI vs, dI ars, dT bd, .box (pL 2), ax4, .box [iA (nm b (j + 1) J4), iA 0, .v (.slice none 0 0)]] (W5 n [(7, iA (nm b (j + 1) J4)), (8, .ptr 7 0)]) fun G => b0 (wp_seq (wp_seq (D6 G (r7 1 [] (aa9 (nm b (j + 1) J4))) (W5 n [(8, .ptr 7 0), (9, iA (r8 (nm b (j + 1) J4)))]) fun G => b0 (wp_block ?_))))))); obtain ⟨ρ, G⟩ := G.nilT 8 (.exprs []) [.box [.ref 1, iA (j + 1 + 1)], dY b, dI vs, dI ars, dT bd, .box (pL 2), .box [iA 0, iA 0, .v (.slice none 0 0)], .box [iA (nm b (j + 1) J4), iA 0, .tref 8]] (W5 n [(8, .ptr 7 0), (9, iA (r8 (nm b (j + 1) J4)))]); replace G := G.as [.box [.ref 1, iA (drK b (vs.length : Int) (ars.length : Int) d j (r8 (nm b (j + 1) J4) - r8 (nm b (j + 1) J4)).toNat).snd], dY b, dI vs, dI ars, dT bd, .box (pL 2), .box [iA 0, iA 0, .v (.slice none 0 0)], .box [iA (nm b (j + 1) J4), iA 0, .tref 8], .tree (D.exprs (drK b (vs.length : Int) (ars.length : Int) d j (r8 (nm b (j + 1) J4) - r8 (nm b (j + 1) J4)).toNat).fst)] (W5 n [(8, .ptr 7 0), (9, iA (r8 (nm b (j + 1) J4)))]) (by have e1 : ((drK b (vs.length : Int) (ars.length : Int) d j (r8 (nm b (j + 1) J4) - r8 (nm b (j + 1) J4)).toNat).snd : Int) = (j + 1 + 1) := (by rw [Int.sub_self]; show j + 2 = j + 1 + 1; omega); have e2 : ((drK b (vs.length : Int) (ars.length : Int) d j (r8 (nm b (j + 1) J4) - r8 (nm b (j + 1) J4)).toNat).fst : List c8) = ([]) := (by rw [Int.sub_self]; rfl); (first | rw [e1, e2] | simp only [e1, e2]) <;> rfl) (by kernel_rfl); refine t6 (κ := Int) (fun k => 0 ≤ k ∧ k ≤ r8 (nm b (j + 1) J4)) (fun k => k.toNat) (fun k => [.box [.ref 1, iA (drK b vs.length ars.length d j (r8 (nm b (j + 1) J4) - k).toNat).2], dY b, dI vs, dI ars, dT bd, .box (pL 2), .box [iA 0, iA 0, .v (.slice none 0 0)], .box [iA (nm b (j + 1) J4), iA 0, .tref 8], .tree (.exprs (drK b vs.length ars.length d j (r8 (nm b (j + 1) J4) - k).toNat).1)]) (fun k => [(0, .ptr 0 0), (2, iA n), (4, .ptr 5 0), (6, .ptr 6 0), (8, .ptr 7 0), (9, iA k)]) (r8 (nm b (j + 1) J4)) (by omega) (s5.at G _ _) ?_; clear G; intro k ρ a w hp G; replace G := s5.at G [.box [.ref 1, iA (ap0 b vs ars d j k).snd], dY b, dI vs, dI ars, dT bd, .box (pL 2), ax4, .box [iA (nm b (j + 1) J4), iA 0, .tref 8], .tree (D.exprs (ap0 b vs ars d j k).fst)] (W5 n [(8, .ptr 7 0), (9, iA k)]); have hkb := bH7 (b := b) (nv := vs.length) (na := ars.length) (d := d) (j := j) r0 (k := (r8 (nm b (j + 1) J4) - k).toNat) (by omega); have hkl : (drK b vs.length ars.length d j (r8 (nm b (j + 1) J4) - k).toNat).1.length = (r8 (nm b (j + 1) J4) - k).toNat := aE7 _ _ _; refine wp_seq (wp_seq (j7 G d8 [(48, bA (decide (k > 0)))] fun G => b0 (rcD G (fun h4 q4 => ?_) fun h4 q4 => ?_)))
     · refine wp_exit (t3 (t3 (t2 (b0 (wp_seq (i7 G d8 [0, 1, 2, 3, 4, 6, 8] [.box [.ref 1, iA (ap0 b vs ars d j k).snd], dY b, dI vs, dI ars, dT bd, .box [iA (nm b (j + 1) J4), iA 0, .tref 6], .tree (D.exprs (ap0 b vs ars d j k).fst)] [(6, .ptr 5 0)] fun G => b0 (wp_ret ?_))))))); exact Q1 (.agg [iA (nm b (j + 1) J4), iA 0, .tref 6]) G [0, 1, 2, 3, 4, 6] (by show _ = AV.ren (nth [0, 1, 2, 3, 4, 6]) (ak6 b vs ars d j); unfold ak6; rw [bH4 (m := k) hd (by omega) (by omega) (by omega) (by omega)] <;> rfl) (by show _ = mR [0, 1, 2, 3, 4, 6] (ak5 b vs ars bd d j); unfold ak5; rw [bH4 (m := k) hd (by omega) (by omega) (by omega) (by omega)] <;> rfl)
     · refine wp_skip (b0 (wp_seq (wp_block (C8 G (r7 6 (rg 5) (ih ((drK b (vs.length : Int) (ars.length : Int) d j (r8 (nm b (j + 1) J4) - k).toNat).snd) (n - 1) (by omega) (by omega) (bH6 (by omega) (by omega) (by omega) (by omega) r1))) [0, 1, 0, 0, 0, 16, 60, 124, 255, 511, 1023] [0, 1, 2, 3, 4, 5, 6, 7, 73] [.box [.ref 1, iA (H5 b (vs.length : Int) (ars.length : Int) d (ap0 b vs ars d j k).snd).snd], dY b, dI vs, dI ars, dT bd, .box (pL 2), ax4, .box [iA (nm b (j + 1) J4), iA 0, .tref 8], .tree (D.exprs ((ap0 b vs ars d j k).fst ++ [qzE (H5 b (vs.length : Int) (ars.length : Int) d (ap0 b vs ars d j k).snd).fst]))] (W5 n [(8, .ptr 7 0), (9, iA k)]) ((wO (n - 1)) :: (aP ((drK b (vs.length : Int) (ars.length : Int) d j (r8 (nm b (j + 1) J4) - k).toNat).fst.length + 1) 40 [])) ⟨oW (by omega), (aK (by omega) bS4)⟩ fun G => i8 (b0 (A0 G d8 [(9, iA (k - 1))] [wO (k - 1)] (o1 (by omega)) fun G => b0 ?_)))))); exact H9 G (k - 1) (by omega) (by omega) (rg 9) (by have e1 : ((drK b (vs.length : Int) (ars.length : Int) d j (r8 (nm b (j + 1) J4) - (k - 1)).toNat).snd : Int) = ((H5 b (vs.length : Int) (ars.length : Int) d (drK b (vs.length : Int) (ars.length : Int) d j (r8 (nm b (j + 1) J4) - k).toNat).snd).snd) := (by rw [a15 (by omega) (by omega)]; done); have e2 : ((drK b (vs.length : Int) (ars.length : Int) d j (r8 (nm b (j + 1) J4) - (k - 1)).toNat).fst : List c8) = ((drK b (vs.length : Int) (ars.length : Int) d j (r8 (nm b (j + 1) J4) - k).toNat).fst ++ [qzE (H5 b (vs.length : Int) (ars.length : Int) d (drK b (vs.length : Int) (ars.length : Int) d j (r8 (nm b (j + 1) J4) - k).toNat).snd).fst]) := (by rw [a15 (by omega) (by omega)]; (simp only [c8.eta]; done)); (first | rw [e1, e2] | simp only [e1, e2]) <;> rfl)
    ·
     refine wp_seq (wp_seq (j7 G d8 [(28, bA ((ars.length : Int) == 0))] fun G => b0 (H6 G (fun h3 q3 => ?_) fun h3 q3 => ?_)))
     · refine wp_skip (b0 (wp_seq (aQ9 G (K9 (A2 5 [0, 1] (n5 b (j + 1 + 1) ((ars.length : Int)) (by omega) (by omega)) (A2 8 (rg 5) (aj4 b (j + 1 + 1 + 1) vs ars bd (by omega) (by omega)) K8)) fz []) [0, 0, 0, 4, 12, 30, 0, 0, 254, 510, 1023, 2047] [0, 1, 2, 3, 4, 5, 6, 79] [.box [.ref 1, iA (j + 1 + 1 + 1 + 2)], dY b, dI vs, dI ars, dT bd, .box (pL 2), .box [iA (nm b (j + 1) J4), iA (pk b (j + 1 + 1) (ars.length : Int)), .tref 7], .tree (D.exprs [qzE (m7 b (vs.length : Int) (j + 1 + 1 + 1))])] (W5 n [(7, iA (nm b (j + 1) J4))]) fun G => b0 (wp_ret (n8 ?_))))); exact Q1 (.agg [iA (nm b (j + 1) J4), iA (pk b (j + 1 + 1) (ars.length : Int)), .tref 7]) G [0, 1, 2, 3, 4, 7] (by show _ = AV.ren (nth [0, 1, 2, 3, 4, 7]) (ak6 b vs ars d j); unfold ak6; have e1 : ((H5 b (vs.length : Int) (ars.length : Int) (d + 1) j).fst.kind : Int) = (nm b (j + 1) J4) := (by rw [bp9 hd (by omega) (by omega) (by omega)]; (simp only [Int.add_assoc, Int.reduceAdd, c8.eta, c8.kids, c8.kind, c8.value]; omega)); have e2 : ((H5 b (vs.length : Int) (ars.length : Int) (d + 1) j).fst.value : Int) = (pk b (j + 1 + 1) (ars.length : Int)) := (by rw [bp9 hd (by omega) (by omega) (by omega)]; (simp only [Int.add_assoc, Int.reduceAdd, c8.eta, c8.kids, c8.kind, c8.value]; done)); (first | rw [e1, e2] | simp only [e1, e2]) <;> rfl) (by show _ = mR [0, 1, 2, 3, 4, 7] (ak5 b vs ars bd d j); unfold ak5; have e1 : ((H5 b (vs.length : Int) (ars.length : Int) (d + 1) j).snd : Int) = (j + 1 + 1 + 1 + 2) := (by rw [bp9 hd (by omega) (by omega) (by omega)]; (simp only [Int.add_assoc, Int.reduceAdd, c8.eta, c8.kids, c8.kind, c8.value]; done)); have e2 : ((H5 b (vs.length : Int) (ars.length : Int) (d + 1) j).fst.kids : List c8) = ([qzE (m7 b (vs.length : Int) (j + 1 + 1 + 1))]) := (by rw [bp9 hd (by omega) (by omega) (by omega)]; show [_] = _; simp only [Int.add_assoc, Int.reduceAdd, c8.eta]; done); (first | rw [e1, e2] | simp only [e1, e2]) <;> rfl)
     · refine wp_seq (i7 G (r7 2 (rg 5) (aj4 b (j + 1 + 1) vs ars bd (by omega) (by omega))) [0, 1, 2, 3, 4, 5, 6, 23] [.box [.ref 1, iA (j + 1 + 1 + 2)], dY b, dI vs, dI ars, dT bd, .box (pL 2), .box [iA (m7 b (vs.length : Int) (j + 1 + 1)).kind, iA (m7 b (vs.length : Int) (j + 1 + 1)).value, .tref 7], .tree (D.exprs (m7 b (vs.length : Int) (j + 1 + 1)).kids)] (W5 n [(7, iA (nm b (j + 1) J4))]) fun G => b0 (wp_ret (n8 (n8 ?_)))); exact Q1 (.agg [iA (m7 b (vs.length : Int) (j + 1 + 1)).kind, iA (m7 b (vs.length : Int) (j + 1 + 1)).value, .tref 7]) G [0, 1, 2, 3, 4, 7] (by show _ = AV.ren (nth [0, 1, 2, 3, 4, 7]) (ak6 b vs ars d j); unfold ak6; have e1 : ((H5 b (vs.length : Int) (ars.length : Int) (d + 1) j).fst.kind : Int) = ((m7 b (vs.length : Int) (j + 1 + 1)).kind) := (by rw [bq0 hd (by omega) (by omega) (by omega)]; (simp only [Int.add_assoc, Int.reduceAdd, c8.eta, c8.kids, c8.kind, c8.value]; done)); have e2 : ((H5 b (vs.length : Int) (ars.length : Int) (d + 1) j).fst.value : Int) = ((m7 b (vs.length : Int) (j + 1 + 1)).value) := (by rw [bq0 hd (by omega) (by omega) (by omega)]; (simp only [Int.add_assoc, Int.reduceAdd, c8.eta, c8.kids, c8.kind, c8.value]; done)); (first | rw [e1, e2] | simp only [e1, e2]) <;> rfl) (by show _ = mR [0, 1, 2, 3, 4, 7] (ak5 b vs ars bd d j); unfold ak5; have e1 : ((H5 b (vs.length : Int) (ars.length : Int) (d + 1) j).snd : Int) = (j + 1 + 1 + 2) := (by rw [bq0 hd (by omega) (by omega) (by omega)]; (simp only [Int.add_assoc, Int.reduceAdd, c8.eta, c8.kids, c8.kind, c8.value]; done)); have e2 : ((H5 b (vs.length : Int) (ars.length : Int) (d + 1) j).fst : c8) = (m7 b (vs.length : Int) (j + 1 + 1)) := (by rw [bq0 hd (by omega) (by omega) (by omega)]; (simp only [Int.add_assoc, Int.reduceAdd, c8.eta, c8.kids, c8.kind, c8.value]; done)); (first | rw [e1, e2] | simp only [e1, e2]) <;> rfl)
   · refine wp_seq (i7 G (r7 2 (rg 5) (aj4 b (j + 1) vs ars bd (by omega) (by omega))) [0, 1, 2, 3, 4, 5, 6, 23] [.box [.ref 1, iA (j + 1 + 2)], dY b, dI vs, dI ars, dT bd, .box (pL 2), .box [iA (m7 b (vs.length : Int) (j + 1)).kind, iA (m7 b (vs.length : Int) (j + 1)).value, .tref 7], .tree (D.exprs (m7 b (vs.length : Int) (j + 1)).kids)] (W5 n []) fun G => b0 (wp_ret (n8 ?_))); exact Q1 (.agg [iA (m7 b (vs.length : Int) (j + 1)).kind, iA (m7 b (vs.length : Int) (j + 1)).value, .tref 7]) G [0, 1, 2, 3, 4, 7] (by show _ = AV.ren (nth [0, 1, 2, 3, 4, 7]) (ak6 b vs ars d j); unfold ak6; rw [bz6 hd (by omega)] <;> rfl) (by show _ = mR [0, 1, 2, 3, 4, 7] (ak5 b vs ars bd d j); unfold ak5; have e1 : ((H5 b (vs.length : Int) (ars.length : Int) (d + 1) j).snd : Int) = (j + 1 + 2) := (by rw [bz6 hd (by omega)]; (simp only [Int.add_assoc, Int.reduceAdd, c8.eta, c8.kids, c8.kind, c8.value]; done)); rw [e1, bz6 hd (by omega)] <;> rfl)
  · have q0 := T7 h0; exact False.elim (by omega)
theorem bi6 (b : List UInt8) (vs ars : List Int) (bd : List c6) : ∀ (d : Nat) (j n : Int), d ≤ 100 → n = d → 0 ≤ j → j + cE d ≤ 800000000 → j5.ok Try.prog (drC b vs ars bd d j n)
 | 0, j, n, _, hn, r0, r1 => aY5 b vs ars bd 0 (by omega) j n hn r0 (by have := av2 0; omega)
 | 1, j, n, _, hn, r0, r1 => aY5 b vs ars bd 1 (by omega) j n hn r0 (by have := av2 1; omega)
 | d + 2, j, n, hd, hn, r0, r1 => bm3 b vs ars bd (d + 1) (by omega) (by omega) (fun j n => bi6 b vs ars bd (d + 1) j n (by omega)) j n hn r0 r1
abbrev smC (b : List UInt8) (vs ars : List Int) (bd : List c6) (j : Int) : j5 := ⟨25, [.ptr 0 0, pA 2], dwS b j vs ars bd, dwS b (t4 b vs.length ars.length j).2 vs ars bd ++ exO (t4 b vs.length ars.length j).1, exA (t4 b vs.length ars.length j).1 5⟩
section
variable {b : List UInt8} {nv na : Nat} {j : Int}
theorem bC4 (h : n9 nv na (H5 b nv na (nm b j dpL).toNat (j + 1)).1 = true) : t4 b nv na j = H5 b nv na (nm b j dpL).toNat (j + 1) := if_pos h
theorem bC3 (h : n9 nv na (H5 b nv na (nm b j dpL).toNat (j + 1)).1 = false) : t4 b nv na j = (m7 b nv (H5 b nv na (nm b j dpL).toNat (j + 1)).2, (H5 b nv na (nm b j dpL).toNat (j + 1)).2 + 2) := if_neg (by rw [h]; decide)
theorem bL3 (r0 : 0 ≤ j) (r1 : j ≤ 700000000) : cE (nm b j dpL).toNat ≤ 364 := cE4 (dp4 b r0 (by omega)).2.2
end
abbrev T9 (b : List UInt8) (vs : List Int) (ars : List Int) (j : Int) := H5 b (vs.length : Int) (ars.length : Int) (nm b j dpL).toNat (j + 1)
theorem V7 (b : List UInt8) (vs ars : List Int) (bd : List c6) (j : Int) (r0 : 0 ≤ j) (r1 : j ≤ 700000000) : j5.ok Try.prog (smC b vs ars bd j) := by
 have hdr := fun (i n : Int) => bi6 b vs ars bd (nm b j dpL).toNat i n (bT4 (dp4 b r0 (by omega)).2.2 (by omega))
 refine F5 19 Try.func25 [.box [.ref 1, iA j], dY b, dI vs, dI ars, dT bd] [(0, .ptr 0 0), (1, pA 2)] fun G => ?_; have hd4 := bL3 (b := b) r0 r1; have hdb := aM7 b vs.length ars.length (nm b j dpL).toNat (j + 1); refine wp_seq (i7 G d8 [0, 1, 2, 3, 4, 5, 13] [.box [.ref 1, iA j], dY b, dI vs, dI ars, dT bd, .box (pL 2), .box [iA 0, iA 0, .v (.slice none 0 0)]] [(0, .ptr 0 0), (3, .ptr 5 0), (4, .ptr 6 0)] fun G => b0 (wp_seq (aQ9 G (K9 (A2 4 [0, 1, 31] (j5.lend (H3 b j dpL (List.cons_ne_nil _ _) (by assumption) (by omega)) [.no, .no, .row 3]) (A2 5 (rg 5) (hdr (j + 1) (nm b j dpL) (bz7 b (by omega) (by omega)) (by omega) (by omega)) K8)) fz []) [0, 0, 0, 0, 12, 31, 0, 127] [0, 1, 2, 3, 4, 5, 6, 47, 55] [.box [.ref 1, iA (T9 b vs ars j).snd], dY b, dI vs, dI ars, dT bd, .box (pL 2), .box [iA 0, iA 0, .v (.slice none 0 0)], .tree (D.exprs (T9 b vs ars j).fst.kids), .box [iA (T9 b vs ars j).fst.kind, iA (T9 b vs ars j).fst.value, .tref 7]] [(0, .ptr 0 0), (3, .ptr 5 0), (4, .ptr 6 0), (5, .ptr 8 0)] fun G => b0 (wp_seq (wp_seq (j7 G (r7 2 [2, 3, 4, 7] (j5.lend (aU4 vs ars bd ((H5 b (vs.length : Int) (ars.length : Int) (nm b j dpL).toNat (j + 1)).fst)) [.no, .no, .no, .tree])) [(14, bA (n9 vs.length ars.length (T9 b vs ars j).fst))] fun G => b0 (rcB (b := n9 vs.length ars.length (H5 b (vs.length : Int) (ars.length : Int) (nm b j dpL).toNat (j + 1)).fst) G (fun h0 => ?_) fun h0 => ?_)))))))
 ·refine wp_skip (b0 (wp_seq (i7 G (r7 2 (rg 5) (aj4 b ((H5 b (vs.length : Int) (ars.length : Int) (nm b j dpL).toNat (j + 1)).snd) vs ars bd (by omega) (by omega))) [0, 1, 2, 3, 4, 6, 25] [.box [.ref 1, iA ((T9 b vs ars j).snd + 2)], dY b, dI vs, dI ars, dT bd, .box [iA (m7 b (vs.length : Int) (T9 b vs ars j).snd).kind, iA (m7 b (vs.length : Int) (T9 b vs ars j).snd).value, .tref 6], .tree (D.exprs (m7 b (vs.length : Int) (T9 b vs ars j).snd).kids)] [(4, .ptr 5 0)] fun G => b0 (wp_ret ?_)))); exact Q1 (.agg [iA (m7 b (vs.length : Int) (H5 b (vs.length : Int) (ars.length : Int) (nm b j dpL).toNat (j + 1)).snd).kind, iA (m7 b (vs.length : Int) (H5 b (vs.length : Int) (ars.length : Int) (nm b j dpL).toNat (j + 1)).snd).value, .tref 6]) G [0, 1, 2, 3, 4, 6] (by show _ = AV.ren (nth [0, 1, 2, 3, 4, 6]) (.agg [iA (t4 b vs.length ars.length j).fst.kind, iA (t4 b vs.length ars.length j).fst.value, .tref 5]); rw [bC3 (by with_reducible assumption)] <;> rfl) (by show _ = mR [0, 1, 2, 3, 4, 6] [.box [.ref 1, iA (t4 b vs.length ars.length j).snd], dY b, dI vs, dI ars, dT bd, .tree (D.exprs (t4 b vs.length ars.length j).fst.kids)]; rw [bC3 (by with_reducible assumption)] <;> rfl)
 ·refine wp_seq (i7 G d8 (rg 8) [.box [.ref 1, iA (T9 b vs ars j).snd], dY b, dI vs, dI ars, dT bd, .box (pL 2), .box [iA (T9 b vs ars j).fst.kind, iA (T9 b vs ars j).fst.value, .tref 7], .tree (D.exprs (T9 b vs ars j).fst.kids)] [(0, .ptr 0 0), (3, .ptr 5 0), (4, .ptr 6 0)] fun G => b0 (wp_ret (n8 ?_))); exact Q1 (.agg [iA (H5 b (vs.length : Int) (ars.length : Int) (nm b j dpL).toNat (j + 1)).fst.kind, iA (H5 b (vs.length : Int) (ars.length : Int) (nm b j dpL).toNat (j + 1)).fst.value, .tref 7]) G [0, 1, 2, 3, 4, 7] (by show _ = AV.ren (nth [0, 1, 2, 3, 4, 7]) (.agg [iA (t4 b vs.length ars.length j).fst.kind, iA (t4 b vs.length ars.length j).fst.value, .tref 5]); rw [bC4 (by with_reducible assumption)] <;> rfl) (by show _ = mR [0, 1, 2, 3, 4, 7] [.box [.ref 1, iA (t4 b vs.length ars.length j).snd], dY b, dI vs, dI ars, dT bd, .tree (D.exprs (t4 b vs.length ars.length j).fst.kids)]; rw [bC4 (by with_reducible assumption)] <;> rfl)
end Go.Proofs.Ytmokkddidcmglaa
