/- Part 4: functions on the way, plain laws. Conditions: as said. -/
import Derived.Deep.LoopGhost
import Derived.IntWalk
import Derived.WalkSpells
import Derived.Lib.SliceRun
import Derived.Test.YtmokkddidcmglaaGreatK1
import Derived.Test.YtmokkddidcmglaaGreatK3
set_option maxRecDepth 100000
set_option maxHeartbeats 16000000
set_option linter.unusedVariables false
set_option linter.unusedSimpArgs false
open Array renaming replicate → ca2
open Bool renaming and_eq_true → b73, eq_iff_iff → ca0, not_eq_false' → cb4, not_eq_true' → ca5, or_eq_true → cb9
open Inhabited renaming default → b71
open Int renaming mul_le_mul_of_nonneg_right → cb6
open List renaming all_eq_true → b80, eq_nil_of_length_eq_zero → b96, getD_eq_getElem?_getD → b75, getElem?_append_left → b99, getElem?_eq_getElem → b72, getElem?_eq_none → b98, getElem?_eq_some_iff → b77, getElem_mem → b91, length_append → b74, length_cons → b79, length_nil → b85, length_set → b95, map_cons → ca1, mem_append → b87, mem_cons → ca4, mem_cons_of_mem → ca6, mem_cons_self → ca7, mem_of_getElem? → b86, mem_range → ca9, mem_singleton → b94, nil_append → cb8, range → b88, take → b83, take_of_length_le → b89
open Nat renaming le_refl → b76, le_trans → b97, lt_of_lt_of_le → cb3, lt_or_ge → b93, mul_le_mul_right → ca8, zero_add → cb2, zero_le → b92
open Option renaming isSome_iff_exists → cb5, map_eq_some_iff → b78
open True renaming intro → b84

namespace Go.Proofs.YtmokkddidcmglaaGreat
open Go Go.RowKit
def pf {β : Type} (wr : Ac → Option β) : List Ac → Nat → (Nat → Bool) → β → β
 | [], _, _, v => v
 | a :: r, k, B, v => pf wr r (k + 1) B (match wr a with | some x => if B k then x else v | none => v)
theorem R6 {β : Type} {wr : Ac → Option β} {B B' : Nat → Bool} : ∀ {az : List Ac} {k : Nat} {v : β}, (∀ j a, az[j]? = some a → (wr a).isSome = true → B (k + j) = B' (k + j)) → pf wr az k B v = pf wr az k B' v
 | [], _, _, _ => rfl
 | a :: r, k, v, h => by
  simp only [pf]
  have h0 := h 0 a rfl
  have hr : ∀ j b, r[j]? = some b → (wr b).isSome = true → B (k + 1 + j) = B' (k + 1 + j) := fun j b hb hw => by
   have := h (j + 1) b (by simpa using hb) hw
   rw [show k + (j + 1) = k + 1 + j by omega] at this; exact this
  cases hw : wr a with
  | none => exact R6 hr
  | some x =>
   rw [hw] at h0
   simp only [Nat.add_zero, Option.isSome_some, forall_const] at h0
   rw [h0]
   exact R6 hr
theorem X9 {β : Type} {wr : Ac → Option β} {B : Nat → Bool} : ∀ {az : List Ac} {k : Nat} {v : β}, (∀ j a, az[j]? = some a → (wr a).isSome = true → B (k + j) = false) → pf wr az k B v = v
 | [], _, _, _ => rfl
 | a :: r, k, v, h => by
  simp only [pf]
  have h0 := h 0 a rfl
  have hr : ∀ j b, r[j]? = some b → (wr b).isSome = true → B (k + 1 + j) = false := fun j b hb hw => by
   have := h (j + 1) b (by simpa using hb) hw
   rw [show k + (j + 1) = k + 1 + j by omega] at this; exact this
  rw [X9 hr]
  cases hw : wr a with
  | none => rfl
  | some x =>
   rw [hw] at h0
   simp only [Nat.add_zero, Option.isSome_some, forall_const] at h0
   simp [h0]
theorem aM3 {β : Type} {wr : Ac → Option β} {B : Nat → Bool} : ∀ {az : List Ac} {k i : Nat} {v x : β} {a : Ac}, az[i]? = some a → wr a = some x → B (k + i) = true → (∀ j b, i < j → az[j]? = some b → (wr b).isSome = true → B (k + j) = false) → pf wr az k B v = x
 | [], _, _, _, _, _, h, _, _, _ => by simp at h
 | b :: r, k, 0, v, x, a, h, hw, hB, hn => by
  simp at h; subst h
  simp only [pf, hw]
  rw [Nat.add_zero] at hB
  rw [hB, if_pos rfl]
  refine X9 fun j c hc hs => ?_
  have := hn (j + 1) c (by omega) (by simpa using hc) hs
  rw [show k + (j + 1) = k + 1 + j by omega] at this; exact this
 | b :: r, k, i + 1, v, x, a, h, hw, hB, hn => by
  simp only [pf]
  refine aM3 (i := i) (by simpa using h) hw (by rw [show k + 1 + i = k + (i + 1) by omega]; exact hB) fun j c hj hc hs => ?_
  have := hn (j + 1) c (by omega) (by simpa using hc) hs
  rw [show k + (j + 1) = k + 1 + j by omega] at this; exact this
theorem am8 {β : Type} {wr : Ac → Option β} {B : Nat → Bool} (p : β → Prop) : ∀ {az : List Ac} {k : Nat} {v : β}, p v → (∀ j a x, az[j]? = some a → B (k + j) = true → wr a = some x → p x) → p (pf wr az k B v)
 | [], _, _, h, _ => h
 | a :: r, k, v, h, hs => by
  simp only [pf]
  refine am8 p ?_ fun j b x hb hB hw => hs (j + 1) b x (by simpa using hb) (by rw [show k + (j + 1) = k + 1 + j by omega]; exact hB) hw
  cases hw : wr a with
  | none => exact h
  | some x =>
   simp only
   split
   ·rename_i hB; exact hs 0 a x rfl (by simpa using hB) hw
   ·exact h
def aB7 : List (Nat × It) → Nat → Option It
 | [], _ => none
 | (k, x) :: r, i => if i = k then some x else aB7 r i
theorem ao8 (S : Nat → It) (i : Nat) : ∀ (l : List (Nat × It)), m7 S l i = match aB7 l i with | some x => x | none => S i
 | [] => rfl
 | (k, x) :: r => by simp only [m7, aB7]; split; rfl; exact ao8 S i r
theorem Q6 {l : List (Nat × It)} {i : Nat} {x : It} (h : aB7 l i = some x) : (i, x) ∈ l := by
 induction l with
 | nil => cases h
 | cons p r ih =>
  obtain ⟨k, y⟩ := p
  simp only [aB7] at h
  split at h
  ·rename_i e; cases h; rw [e]; exact ca7
  ·exact ca6 _ (ih h)
def wrT (t : Nat) (a : Ac) : Option (Option AV) := if a.dst = some t then some (some a.t.res) else none
def wrS (i : Nat) (a : Ac) : Option It := aB7 a.t.new i
def tmD (az : List Ac) (B : Nat → Bool) (tm : Nat → Option AV) : Nat → Option AV := fun t => pf (wrT t) az 0 B (tm t)
def sD (az : List Ac) (B : Nat → Bool) (S : Nat → It) : Nat → It := fun i => pf (wrS i) az 0 B (S i)
def bef (ms : List Nat) (j i : Nat) : Bool := (nth ms i).testBit j
def a54 (ms : List Nat) (o : Oper) : Nat := o.after.foldl (fun s e => if Region.binds .any e then s ||| (2 ^ e.on ||| nth ms e.on) else s) 0
def aM7 (ms : List Nat) (l : List Oper) : Bool := (b88 l.length).all fun i => match l[i]? with | some o => natEq (nth ms i) (a54 ms o) | none => false
def ac7 (a b : Ac) : Bool :=
 (match b.dst with | some t => memN t a.rt || (match a.dst with | some s => natEq s t | none => false) | none => false) ||
 b.t.new.any (fun p => memN p.1 a.ri || a.t.new.any fun q => natEq q.1 p.1)
def bN0 (ms : List Nat) (az : List Ac) : Bool :=
 (b88 az.length).all fun i => (b88 az.length).all fun j =>
  match az[i]?, az[j]? with
  | some a, some b => natEq i j || !ac7 a b || (if decide (j < i) then bef ms j i else bef ms i j)
  | _, _ => false
def bF0 (S : Nat → It) (az : List Ac) (j : Nat) : Nat := match az.findSome? (wrS j) with
 | some x => knd x
 | none => knd (S j)
def bm2 (ms : List Nat) (S : Nat → It) (az : List Ac) : Bool :=
 (b88 az.length).all fun i =>
  match az[i]? with
  | some a => a.rk.all fun j => az.all (fun b => match wrS j b with | some x => natEq (knd x) (bF0 S az j) | none => true) && (natEq (knd (S j)) (bF0 S az j) || (b88 i).any fun k => bef ms k i && match az[k]? with | some b => (wrS j b).isSome | none => false)
  | none => true
theorem bc6 {β : Type} {wr : Ac → Option β} {B : Nat → Bool} (p : β → Prop) : ∀ {az : List Ac} {k : Nat} {v : β}, (∀ (j : Nat) (a : Ac) (x : β), az[j]? = some a → wr a = some x → p x) → (p v ∨ ∃ (j : Nat) (a : Ac), az[j]? = some a ∧ (wr a).isSome = true ∧ B (k + j) = true) → p (pf wr az k B v)
 | [], _, _, _, h => by rcases h with h | ⟨j, a, h, _⟩; exact h; simp at h
 | a :: r, k, v, hs, h => by
  simp only [pf]
  refine bc6 p (fun j b x hb => hs (j + 1) b x (by simpa using hb)) ?_
  rcases h with h | ⟨j, b, h1, h2, h3⟩
  ·left
   cases hw : wr a with
   | none => exact h
   | some x =>
    simp only
    split
    ·exact hs 0 a x rfl hw
    ·exact h
  ·cases j with
   | zero =>
    left
    simp at h1; subst h1
    obtain ⟨x, hx⟩ := cb5.1 h2
    rw [hx]
    rw [Nat.add_zero] at h3
    simp only [h3, if_true]
    exact hs 0 _ x rfl hx
   | succ j =>
    right
    exact ⟨j, b, by simpa using h1, h2, by rw [show k + 1 + j = k + (j + 1) by omega]; exact h3⟩
theorem ba4 {ms : List Nat} {S : Nat → It} {az : List Ac} (h : bm2 ms S az = true) {i : Nat} {a : Ac} (ha : az[i]? = some a) {j : Nat} (hj : j ∈ a.rk) {B : Nat → Bool} (hB : ∀ k, k < i → bef ms k i = true → B k = true) : knd (pf (wrS j) az 0 B (S j)) = bF0 S az j := by
 have hi := (b77.1 ha).1
 have h1 := b80.1 h i (ca9.2 hi)
 rw [ha] at h1
 have h2 := b80.1 h1 j hj
 simp only [b73, cb9] at h2
 refine bc6 (fun x => knd x = bF0 S az j) (fun q b x hb hx => ?_) ?_
 ·have := b80.1 h2.1 b (b86 hb)
  rw [hx] at this
  simpa [natEq] using this
 ·rcases h2.2 with h3 | h3
  ·left; simpa [natEq] using h3
  ·right
   obtain ⟨k, hk, h4⟩ := List.any_eq_true.1 h3
   rw [ca9] at hk
   simp only [b73] at h4
   cases hb : az[k]? with
   | none => rw [hb] at h4; cases h4.2
   | some b =>
    rw [hb] at h4
    exact ⟨k, b, hb, h4.2, by rw [cb2]; exact hB k hk h4.1⟩
def bs9 (ms : List Nat) (n0 : Nat) (az : List Ac) : Bool :=
 (b88 az.length).all fun i =>
  match az[i]? with
  | some a => (a.t.res.ids ++ a.t.new.map (·.1) ++ a.t.new.flatMap (fun p => p.2.ids)).all fun id => decide (id < n0) || natEq ((id - n0) / 8) i || bef ms ((id - n0) / 8) i
  | none => false
section
variable {P : Program} {ι : Type} {φ ψ : Nat → Prop} {w0 w w' : World} {F : ι → Rs} {ρ : Nat → Value} {S : Nat → It} {N n : Nat}
theorem ak2 {α β : Type} {f g : α → Option β} : ∀ {l : List α}, (∀ x ∈ l, f x = g x) → l.filterMap f = l.filterMap g
 | [], _ => rfl
 | a :: r, h => by rw [List.filterMap_cons, List.filterMap_cons, h a ca7, ak2 fun x hx => h x (ca6 _ hx)]
theorem as3 {ops : List Oper} {H : Q8} {tm tm' : Nat → Option AV} {i : Nat} {o : Oper} (h : ∀ t ∈ aO4 ops o, tm' t = tm t) : ax5 ops H tm' i o = ax5 ops H tm i o := by
 unfold ax5
 unfold aO4 at h
 cases hg : o.guard with
 | none => rfl
 | some q =>
  obtain ⟨j, want⟩ := q
  rw [hg] at h
  simp only at h ⊢
  cases hd : (ops[j]?).bind (·.dst) with
  | none => rfl
  | some t =>
   rw [hd] at h
   simp only at h ⊢
   rw [h t (by simp)]
theorem bg8 {dk : TypeId → Nat} {H : Q8} {ops : List Oper} {i : Nat} {o : Oper} {tm tm' : Nat → Option AV} {S S' : Nat → It} {ac : Ac} {ob : List Prop} (h : opA P dk N ops H i o tm S n = some (ac, ob)) (ht : ∀ t ∈ ac.rt, tm' t = tm t) (hs : ∀ j ∈ ac.ri, S' j = S j) (hk : ∀ j ∈ ac.rk, knd (S' j) = knd (S j)) : opA P dk N ops H i o tm' S' n = some (ac, ob) := by
 unfold opA at h ⊢
 split at h
 case isFalse => cases h
 rename_i hd
 rw [if_pos hd]
 cases hw : ax5 ops H tm i o with
 | none => rw [hw] at h; cases h
 | some q =>
  obtain ⟨b, lq, rq⟩ := q
  rw [hw] at h
  cases b
  ·simp only at h
   cases h
   rw [as3 (tm := tm) ht, hw]
  ·simp only at h
   cases hr : az4 P dk H tm S n i o.op with
   | none => rw [hr] at h; cases h
   | some t =>
    rw [hr] at h
    simp only at h
    split at h
    case isFalse => cases h
    rename_i hf
    cases h
    simp only at ht hs hk
    rw [as3 (tm := tm) fun t ht' => ht t (List.mem_append_right _ ht'), hw]
    have e1 : rtm tm' (opT o.op) = rtm tm (opT o.op) := by
     funext t
     unfold rtm
     split
     ·rename_i hm; exact ht t (List.mem_append_left _ (t3.1 hm))
     ·rfl
    have e2 : tch tm' o.op = tch tm o.op := by
     have e9 : T0 tm' (opT o.op) = T0 tm (opT o.op) := by
      unfold T0
      congr 1
      exact ak2 fun t ht' => ht t (List.mem_append_left _ ht')
     cases ho' : o.op <;> simp only [tch] <;> rw [← ho'] <;> first | rw [e1, e9] | exact e9
    have e8 : wk tm' o.op = wk tm o.op := by
     have e9 : T0 tm' (opT o.op) = T0 tm (opT o.op) := by
      unfold T0
      congr 1
      exact ak2 fun t ht' => ht t (List.mem_append_left _ ht')
     cases ho' : o.op <;> simp only [wk] <;> rw [← ho', e1, e9]
    have e3 : az4 P dk H tm' S' n i o.op = az4 P dk H tm S n i o.op := by
     unfold az4
     cases hc : K7 H.calls i with
     | none =>
      simp only
      rw [e1, e2, e8, bn2 (fun j hj => hs j (List.mem_append_left _ hj)) hk]
     | some q =>
      obtain ⟨c, τ⟩ := q
      simp only
      rw [e1, e2]
      congr 1
      funext j
      unfold rS
      split
      ·rename_i hm
       refine hs j ?_
       unfold be6
       rw [hc]; exact t3.1 hm
      ·rfl
    have e4 : a47 H tm' S' n i o.op = a47 H tm S n i o.op := by
     unfold a47
     cases hc : K7 H.calls i with
     | none => simp only; rw [e1]
     | some q =>
      obtain ⟨c, τ⟩ := q
      simp only
      rw [e1, e2]
      congr 1
      funext j
      unfold rS
      split
      ·rename_i hm
       refine hs j ?_
       unfold be6
       rw [hc]; exact t3.1 hm
      ·rfl
    rw [e3, hr, e4]
    simp only
    rw [e2, e8, if_pos hf]
theorem bD7 {dk : TypeId → Nat} {H : Q8} (hH : ∀ i c τ, K7 H.calls i = some (c, τ) → c.ok P) (hF : O8 H.facts) {ops : List Oper} {i : Nat} {o : Oper} {tm : Nat → Option AV} {a : Act} (hv : ∀ t x, tm t = some x → a.tmps[t]? = some (x.val ρ)) (M : i7 φ ψ w0 w (l7 F ρ S)) {ac : Ac} {obs : List Prop} (h : opA P dk N ops H i o tm S n = some (ac, obs)) (ho : t8 obs) (he : ac.eqs.1 = ac.eqs.2) (hw' : ac.eqw.1 = ac.eqw.2)
  (hmk : ∀ j ∈ ac.t.made, S j = .none) (hi : Inv S ρ ac.t.made)
  {Q : Exit → Act → World → Prop} {rest : List Oper} (hk : ∀ ρ' w', C1 ac.t.made ρ ρ' → i7 φ ψ w0 w' (l7 F ρ' (m7 S ac.t.new)) → wpList P ops.toArray Q rest (a.put o.dst (ac.t.res.val ρ')) w') : wpList P ops.toArray Q (o :: rest) a w := by
 unfold opA at h
 split at h
 case isFalse => cases h
 rename_i hd
 split at h
 case h_1 => cases h
 ·rename_i l r hw
  cases h
  refine bb3 (al7 (ρ := ρ) hF hw hw' fun t y _ hy => hv t y hy) ?_
  exact hk ρ w (C1.refl _ _) (by simpa [bN7, m7] using M)
 ·rename_i l r hw
  split at h
  case h_1 => cases h
  rename_i t ht
  split at h
  case isFalse => cases h
  rename_i hf
  cases h
  simp only [b73] at hf
  refine J6.wp (al7 (ρ := ρ) hF hw hw' fun t y _ hy => hv t y hy) ?_
  refine (aV4 M hH hF (fun t y _ hy => hv t y hy) ht ho he hmk hi (fun j hj => ?_)).mono ?_
  ·obtain ⟨p, hp, rfl⟩ := List.mem_map.1 hj
   have := b80.1 hf.2 p hp
   simp only [cb9] at this
   exact this.imp t3.1 t3.1
  ·rintro v w' ⟨ρ', p1, p2, rfl⟩
   exact hk ρ' w' p1 p2
theorem bc1 {dk : TypeId → Nat} {H : Q8} {ops : List Oper} : ∀ (l : List Oper) (i n : Nat) {tm : List (Nat × AV)} {S : Nat → It} {r : RS}, T8 P dk N ops H l i tm S n = some r → t8 r.obs →
  r.acts.length = l.length ∧ (∀ t, A2 r.tm t = pf (wrT t) r.acts i (fun _ => true) (A2 tm t)) ∧ (∀ j, r.S j = pf (wrS j) r.acts i (fun _ => true) (S j)) ∧
  ∀ k o, l[k]? = some o → ∃ ac ob, r.acts[k]? = some ac ∧ t8 ob ∧ opA P dk N ops H (i + k) o (fun t => pf (wrT t) r.acts i (fun j => decide (j < i + k)) (A2 tm t)) (fun j => pf (wrS j) r.acts i (fun q => decide (q < i + k)) (S j)) (n + 8 * k) = some (ac, ob)
 | [], i, n, tm, S, r, h, _ => by cases h; exact ⟨rfl, fun _ => rfl, fun _ => rfl, fun k o h => by simp at h⟩
 | o :: l, i, n, tm, S, r, h, ho => by
  simp only [T8] at h
  split at h
  case h_1 => cases h
  rename_i ac ob h1
  split at h
  case h_1 => cases h
  rename_i s h2
  cases h
  simp only [t8.append] at ho
  obtain ⟨k1, k2, k3, k4⟩ := bc1 l (i + 1) (n + 8) h2 ho.2
  have eT : ∀ t, A2 (a39 ac.dst ac.t.res tm) t = match wrT t ac with | some x => x | none => A2 tm t := fun t => by
   rw [aI4]
   simp only [aE3, wrT]
   split <;> rfl
  have eS : ∀ j, m7 S ac.t.new j = match wrS j ac with | some x => x | none => S j := fun j => ao8 S j _
  refine ⟨by simp [k1], fun t => ?_, fun j => ?_, fun k o' hk => ?_⟩
  ·rw [k2 t, eT]; simp only [pf]; cases wrT t ac <;> rfl
  ·rw [k3 j, eS]; simp only [pf]; cases wrS j ac <;> rfl
  ·cases k with
   | zero =>
    simp at hk; subst hk
    refine ⟨ac, ob, rfl, ho.1, ?_⟩
    have e1 : (fun t => pf (wrT t) (ac :: s.acts) i (fun j => decide (j < i + 0)) (A2 tm t)) = A2 tm := by
     funext t; exact X9 fun j a _ _ => by simp
    have e2 : (fun j => pf (wrS j) (ac :: s.acts) i (fun q => decide (q < i + 0)) (S j)) = S := by
     funext j; exact X9 fun j a _ _ => by simp
    rw [e1, e2]; exact h1
   | succ k =>
    obtain ⟨ac', ob', m1, m2, m3⟩ := k4 k o' (by simpa using hk)
    refine ⟨ac', ob', by simpa using m1, m2, ?_⟩
    have hi : decide (i < i + (k + 1)) = true := by simp
    have e1 : (fun t => pf (wrT t) (ac :: s.acts) i (fun j => decide (j < i + (k + 1))) (A2 tm t)) = fun t => pf (wrT t) s.acts (i + 1) (fun j => decide (j < i + 1 + k)) (A2 (a39 ac.dst ac.t.res tm) t) := by
     funext t
     rw [eT]
     simp only [pf, hi, if_true]
     rw [show i + (k + 1) = i + 1 + k by omega]
     cases wrT t ac <;> rfl
    have e2 : (fun j => pf (wrS j) (ac :: s.acts) i (fun q => decide (q < i + (k + 1))) (S j)) = fun j => pf (wrS j) s.acts (i + 1) (fun q => decide (q < i + 1 + k)) (m7 S ac.t.new j) := by
     funext j
     rw [eS]
     simp only [pf, hi, if_true]
     rw [show i + (k + 1) = i + 1 + k by omega]
     cases wrS j ac <;> rfl
    rw [e1, e2, show i + (k + 1) = i + 1 + k by omega, show n + 8 * (k + 1) = n + 8 + 8 * k by omega]
    exact m3
def by9 (l : List Oper) (B : Nat → Bool) : Prop := ∀ j o, l[j]? = some o → B j = true → ∀ e ∈ o.after, Region.binds .any e = true → B e.on = true
theorem aA1 {ms : List Nat} {o : Oper} {j : Nat} (h : (a54 ms o).testBit j = true) : ∃ e ∈ o.after, Region.binds .any e = true ∧ (e.on = j ∨ bef ms j e.on = true) := by
 unfold a54 at h
 rw [← Array.foldl_toList] at h
 have key : ∀ (es : List Edge) (s : Nat), (es.foldl (fun s e => if Region.binds .any e then s ||| (2 ^ e.on ||| nth ms e.on) else s) s).testBit j = true → s.testBit j = true ∨ ∃ e ∈ es, Region.binds .any e = true ∧ (e.on = j ∨ bef ms j e.on = true) := by
  intro es
  induction es with
  | nil => intro s h; exact .inl h
  | cons e r ih =>
   intro s h
   simp only [List.foldl_cons] at h
   rcases ih _ h with h1 | ⟨e', he', h2⟩
   ·split at h1
    ·rename_i hb
     simp only [Nat.testBit_or, cb9, Nat.testBit_two_pow, decide_eq_true_eq] at h1
     rcases h1 with h1 | h1 | h1
     ·exact .inl h1
     ·exact .inr ⟨e, ca7, hb, .inl h1⟩
     ·exact .inr ⟨e, ca7, hb, .inr h1⟩
    ·exact .inl h1
   ·exact .inr ⟨e', ca6 _ he', h2⟩
 rcases key _ _ h with h1 | ⟨e, he, h2⟩
 ·simp at h1
 ·exact ⟨e, by simpa using he, h2⟩
theorem aD4 {ms : List Nat} {l : List Oper} (hm : aM7 ms l = true) (hb : af8 l.toArray = true) {B : Nat → Bool} (hc : by9 l B) : ∀ i, i < l.length → B i = true → ∀ j, bef ms j i = true → B j = true := by
 intro i
 induction i using Nat.strongRecOn with
 | _ i ih =>
  intro hi hB j hj
  have h1 := b80.1 hm i (ca9.2 hi)
  rw [b72 hi] at h1
  simp only [natEq, beq_iff_eq] at h1
  unfold bef at hj
  rw [h1] at hj
  obtain ⟨e, he, h2, h3⟩ := aA1 hj
  have h4 := hc i _ (b72 hi) hB e he h2
  have h5 := aD5 hb (show i < l.toArray.size by simpa using hi) (show l.toArray[i]? = some l[i] by simp [hi]) he h2
  rcases h3 with rfl | h3
  ·exact h4
  ·exact ih e.on h5 (by omega) h4 j h3
theorem bk9 {ms : List Nat} {l : List Oper} (hm : aM7 ms l = true) (hb : af8 l.toArray = true) {B : Nat → Bool} (hc : by9 l B) {i : Nat} {o : Oper} (ho : l[i]? = some o) (hr : ∀ e ∈ o.after, Region.binds .any e = true → B e.on = true) {j : Nat} (hj : bef ms j i = true) : B j = true := by
 have hi := (b77.1 ho).1
 have h1 := b80.1 hm i (ca9.2 hi)
 rw [ho] at h1
 simp only [natEq, beq_iff_eq] at h1
 unfold bef at hj
 rw [h1] at hj
 obtain ⟨e, he, h2, h3⟩ := aA1 hj
 have h5 := aD5 hb (show i < l.toArray.size by simpa using hi) (show l.toArray[i]? = some o by simpa using ho) he h2
 rcases h3 with rfl | h3
 ·exact hr e he h2
 ·exact aD4 hm hb hc e.on (by omega) (hr e he h2) j h3
end
section
variable {P : Program} {ι : Type} {φ ψ : Nat → Prop} {w0 w w' : World} {F : ι → Rs} {ρ : Nat → Value} {S : Nat → It} {N m n : Nat} {ρ0 : Nat → Value}
theorem a13 {l : List Oper} {Q : Exit → Act → World → Prop} (I : Array Bool → Act → World → Prop) (hb : af8 l.toArray = true)
  (step : ∀ listed a w, I listed a w → ∀ i o, l[i]? = some o → listed.getD i true = false → (∀ e ∈ o.after, Region.binds .any e = true → listed.getD e.on false = true) →
   ∀ Q' : Exit → Act → World → Prop, (∀ a w, I (listed.setIfInBounds i true) a w → Q' .normal a w) → wpList P l.toArray Q' [o] a w)
  (done : ∀ listed a w, I listed a w → (∀ j, j < l.length → listed.getD j true = true) → Q .normal a w) :
  ∀ (fuel : Nat) (listed : Array Bool) (a : Act) (w : World), listed.size = l.toArray.size → listed.toList.count false = fuel → I listed a w → wpAny P .any l.toArray Q fuel listed a w := by
 have hfin : ∀ (listed : Array Bool) (a : Act) (w : World), listed.size = l.toArray.size → Region.ready .any l.toArray listed = [] → I listed a w → Q .normal a w := by
  intro listed a w hsz hr hI
  refine done listed a w hI fun j hj => ?_
  cases hl : listed.getD j true
  ·exact absurd hr (aT3 hb hsz j (by simpa using hj) hl)
  ·rfl
 intro fuel
 induction fuel with
 | zero =>
  intro listed a w hsz hc hI
  have hr : Region.ready .any l.toArray listed = [] := by
   rw [List.eq_nil_iff_forall_not_mem]
   intro j hj
   have := K3 (mem_ready.1 hj).1
   omega
  exact ⟨hr, hfin listed a w hsz hr hI⟩
 | succ f ih =>
  intro listed a w hsz hc hI
  refine ⟨fun hr => hfin listed a w hsz hr hI, fun i hi => ?_⟩
  obtain ⟨h1, o, ho, h2⟩ := mem_ready.1 hi
  have ho' : l[i]? = some o := by simpa using ho
  have hcl := K3 h1
  have hs := step listed a w hI i o ho' h1 h2 (fun e a w => e = .normal ∧ I (listed.setIfInBounds i true) a w) fun a w h => ⟨rfl, h⟩
  unfold wpOp
  rw [ho]
  simp only
  unfold wpList at hs
  split
  ·rename_i hw
   rw [if_pos hw] at hs
   rcases hs with hs | ⟨_, a, w, he, _⟩
   ·exact .inl (aG9 (fun _ _ _ h => h.1) (Oper.wp_mono (fun a' w' h => ih _ a' w' (by simpa using hsz) (by omega) h.2) hs))
   ·cases he
  ·rename_i hw
   rw [if_neg hw] at hs
   exact ih _ _ _ (by simpa using hsz) (by omega) hs.2
theorem ax4 {id : Nat} {l : List Oper} {Q : Exit → Act → World → Prop} {a : Act} {w : World} (I : Array Bool → Act → World → Prop) (hm : P.follows .mixedOrders = true) (hb : af8 l.toArray = true)
  (h0 : I (ca2 l.length false) a w.drew)
  (step : ∀ listed a w, I listed a w → ∀ i o, l[i]? = some o → listed.getD i true = false → (∀ e ∈ o.after, Region.binds .any e = true → listed.getD e.on false = true) →
   ∀ Q' : Exit → Act → World → Prop, (∀ a w, I (listed.setIfInBounds i true) a w → Q' .normal a w) → wpList P l.toArray Q' [o] a w)
  (done : ∀ listed a w, I listed a w → (∀ j, j < l.length → listed.getD j true = true) → Q .normal a w) : (Code.region id l.toArray true).wp P Q a w :=
 wp_region_any hm (a13 I hb step done _ _ _ _ (by simp) (by simp) (by simpa using h0))
def RI (φ ψ : Nat → Prop) (w0 : World) (F : ι → Rs) (N m : Nat) (ρ0 : Nat → Value) (l : List Oper) (az : List Ac) (tm : Nat → Option AV) (S : Nat → It) (listed : Array Bool) (a : Act) (w : World) : Prop :=
 listed.size = l.length ∧ by9 l (fun j => listed.getD j false) ∧ ∃ ρ, (∀ i, i < m → ρ i = ρ0 i) ∧ a.tmps.size = N ∧ a.defers = [] ∧ (∀ t x, tmD az (fun j => listed.getD j false) tm t = some x → a.tmps[t]? = some (x.val ρ)) ∧ i7 φ ψ w0 w (l7 F ρ (sD az (fun j => listed.getD j false) S))
theorem a46 {ms : List Nat} {az : List Ac} (h : bN0 ms az = true) {i j : Nat} {a b : Ac} (ha : az[i]? = some a) (hb : az[j]? = some b) (hij : i ≠ j) (hm : ac7 a b = true) : (j < i → bef ms j i = true) ∧ (i < j → bef ms i j = true) := by
 have hi := (b77.1 ha).1
 have hj := (b77.1 hb).1
 have h1 := b80.1 (b80.1 h i (ca9.2 hi)) j (ca9.2 hj)
 rw [ha, hb] at h1
 have hne : natEq i j = false := by simp [natEq, hij]
 simp only [hne, hm, Bool.not_true, Bool.false_or] at h1
 constructor
 ·intro hlt; rw [if_pos (by simpa using hlt)] at h1; exact h1
 ·intro hlt; rw [if_neg (by simp; omega)] at h1; exact h1
theorem bd2 {ms : List Nat} {n0 : Nat} {az : List Ac} (h : bs9 ms n0 az = true) {i : Nat} {a : Ac} (ha : az[i]? = some a) : ∀ id, (id ∈ a.t.res.ids ∨ id ∈ a.t.new.map (·.1) ∨ ∃ p ∈ a.t.new, id ∈ p.2.ids) → id < n0 ∨ (id - n0) / 8 = i ∨ bef ms ((id - n0) / 8) i = true := by
 intro id hid
 have hi := (b77.1 ha).1
 have h1 := b80.1 h i (ca9.2 hi)
 rw [ha] at h1
 have h2 := b80.1 h1 id (by
  rcases hid with h | h | ⟨p, hp, h⟩
  ·exact List.mem_append_left _ (List.mem_append_left _ h)
  ·exact List.mem_append_left _ (List.mem_append_right _ h)
  ·exact List.mem_append_right _ (List.mem_flatMap.2 ⟨p, hp, h⟩))
 simp only [cb9, decide_eq_true_eq, natEq, beq_iff_eq] at h2
 rcases h2 with (h2 | h2) | h2
 ·exact .inl h2
 ·exact .inr (.inl h2)
 ·exact .inr (.inr h2)
theorem aK8 {dk : TypeId → Nat} {H : Q8} (hH : ∀ i c τ, K7 H.calls i = some (c, τ) → c.ok P) (hF : O8 H.facts) {l : List Oper} {id : Nat} {Q : Exit → Act → World → Prop} {tm : List (Nat × AV)} {a : Act} {wr : World} (I0 : Inn φ ψ w0 F N m ρ0 n ρ (A2 tm) S a wr) {r : RS} (hrun : T8 P dk N l H l 0 tm S n = some r) (ho : t8 r.obs) (heq : r.acts.map (·.eqs.1) = r.acts.map (·.eqs.2)) (hew : r.acts.map (·.eqw.1) = r.acts.map (·.eqw.2))
  (ms : List Nat) (hm : P.follows .mixedOrders = true) (hb : af8 l.toArray = true) (hms : aM7 ms l = true) (hord : bN0 ms r.acts = true) (hment : bs9 ms n r.acts = true) (hweak : bm2 ms S r.acts = true)
  (done : ∀ ρ' a' w' n', Inn φ ψ w0 F N m ρ0 n' ρ' (A2 r.tm) r.S a' w' → Q .normal a' w') : (Code.region id l.toArray true).wp P Q a wr := by
 obtain ⟨hlen, hfT, hfS, hat⟩ := bc1 l 0 n hrun ho
 have hmt : ∀ (i : Nat) ac, r.acts[i]? = some ac → ∀ t b, b.dst = some t → t ∈ ac.rt → ac7 ac b = true := fun i ac _ t b hb ht => by
  simp [ac7, hb, t3.2 ht]
 have hmd : ∀ ac b t, ac.dst = some t → b.dst = some t → ac7 ac b = true := fun ac b t h1 h2 => by
  simp [ac7, h1, h2, natEq]
 have hms' : ∀ (ac b : Ac) (j : Nat), j ∈ ac.ri → j ∈ b.t.new.map (·.1) → ac7 ac b = true := fun ac b j h1 h2 => by
  obtain ⟨p, hp, rfl⟩ := List.mem_map.1 h2
  unfold ac7
  have : b.t.new.any (fun p => memN p.1 ac.ri || ac.t.new.any fun q => natEq q.1 p.1) = true := List.any_eq_true.2 ⟨p, hp, by simp [t3.2 h1]⟩
  rw [this]; simp
 have hmn : ∀ (ac b : Ac) (j : Nat), j ∈ ac.t.new.map (·.1) → j ∈ b.t.new.map (·.1) → ac7 ac b = true := fun ac b j h1 h2 => by
  obtain ⟨p, hp, rfl⟩ := List.mem_map.1 h2
  obtain ⟨q, hq, e⟩ := List.mem_map.1 h1
  unfold ac7
  have : b.t.new.any (fun p => memN p.1 ac.ri || ac.t.new.any fun q => natEq q.1 p.1) = true := List.any_eq_true.2 ⟨p, hp, by
   have : ac.t.new.any (fun q => natEq q.1 p.1) = true := List.any_eq_true.2 ⟨q, hq, by simp [natEq, e]⟩
   rw [this]; simp⟩
  rw [this]; simp
 refine ax4 (RI φ ψ w0 F N m ρ0 l r.acts (A2 tm) S) hm hb ?_ ?_ ?_
 ·refine ⟨by simp, fun j o _ hj => ?_, ρ, I0.old, I0.size, I0.defs, fun t x hx => ?_, ?_⟩
  ·have hj' : (ca2 l.length false).getD j false = true := hj
   rw [getD_replicate_false] at hj'; cases hj'
  ·refine I0.tmv t x ?_
   rw [← hx]
   exact (X9 fun j b _ _ => getD_replicate_false _ _).symm
  ·have e : sD r.acts (fun j => (ca2 l.length false).getD j false) S = S := by
    funext j; exact X9 fun j b _ _ => getD_replicate_false _ _
   rw [e]; exact I0.mem.drew
 ·rintro listed a w ⟨hsz, hdn, ρ, hold, hN, hdf, hv, M⟩ i o hoi hun hdep Q' hQ
  generalize hB : (fun j => listed.getD j false) = B at *
  have hBj : ∀ j, B j = listed.getD j false := fun j => by rw [← hB]
  have hil := (b77.1 hoi).1
  have hBi : B i = false := by
   rw [hBj, ← bd9 (by omega)]; exact hun
  obtain ⟨ac, ob, hac, hob, hop⟩ := hat i o hoi
  simp only [cb2] at hop
  have heqi : ac.eqs.1 = ac.eqs.2 := by
   have := congrArg (·[i]?) heq
   simpa [hac] using this
  have hewi : ac.eqw.1 = ac.eqw.2 := by
   have := congrArg (·[i]?) hew
   simpa [hac] using this
  obtain ⟨hdst, hdN, hfine⟩ := aM4 hop
  obtain ⟨hf1, hf2, hf3⟩ := ab6 hfine
  have hdep' : ∀ e ∈ o.after, Region.binds .any e = true → B e.on = true := fun e he hbi => by rw [hBj]; exact hdep e he hbi
  have ahead : ∀ j, bef ms j i = true → B j = true := fun j hj => bk9 hms hb hdn hoi hdep' hj
  have behind : ∀ j, j < l.length → bef ms i j = true → B j = false := fun j hjl hj => by
   cases h : B j
   ·rfl
   ·have := aD4 hms hb hdn j hjl h i hj
    rw [hBi] at this; cases this
  have hagree : ∀ (j : Nat) b, r.acts[j]? = some b → ac7 ac b = true → B j = decide (j < i) := fun j b hj hmm => by
   have hjl : j < l.length := by have := (b77.1 hj).1; omega
   rcases Nat.lt_trichotomy j i with h | h | h
   ·rw [ahead j ((a46 hord hac hj (by omega) hmm).1 h)]; simp [h]
   ·subst h; rw [hBi]; simp
   ·rw [behind j hjl ((a46 hord hac hj (by omega) hmm).2 h)]
    have : ¬ j < i := by omega
    simp [this]
  have hop2 := bg8 hop (tm' := tmD r.acts B (A2 tm)) (S' := sD r.acts B S) (fun t ht => R6 fun j b hj hw => by
    rw [cb2]
    refine hagree j b hj (hmt i ac hac t b ?_ ht)
    unfold wrT at hw
    split at hw
    ·assumption
    ·cases hw)
   (fun q hq => R6 fun j b hj hw => by
    rw [cb2]
    obtain ⟨x, hx⟩ := cb5.1 hw
    exact hagree j b hj (hms' ac b q hq (List.mem_map.2 ⟨_, Q6 hx, rfl⟩)))
   (fun q hq => by
    show knd (pf (wrS q) r.acts 0 B (S q)) = _
    rw [ba4 hweak hac hq fun k _ hk => ahead k hk, ba4 hweak hac hq fun k hk _ => by simpa using hk])
  have hrange : ∀ id, n + 8 * i ≤ id → id < n + 8 * i + 8 → (id - n) / 8 = i := fun id h1 h2 => by omega
  have hmk : ∀ j ∈ ac.t.made, sD r.acts B S j = .none := fun j hj => by
   obtain ⟨g1, g2⟩ := hf2 j hj
   have e : sD r.acts B S j = S j := X9 fun k b hk hw => by
    rw [cb2]
    obtain ⟨x, hx⟩ := cb5.1 hw
    have hkl : k < l.length := by have := (b77.1 hk).1; omega
    rcases bd2 hment hk j (.inr (.inl (List.mem_map.2 ⟨_, Q6 hx, rfl⟩))) with h | h | h
    ·omega
    ·rw [hrange j g1 g2] at h; subst h; exact hBi
    ·rw [hrange j g1 g2] at h; exact behind k hkl h
   rw [e]; exact (I0.bd j).2 (by omega)
  have hnot : ∀ (k : Nat) b, r.acts[k]? = some b → B k = true → ∀ id, (id ∈ b.t.res.ids ∨ id ∈ b.t.new.map (·.1) ∨ ∃ p ∈ b.t.new, id ∈ p.2.ids) → id ∉ ac.t.made := fun k b hk hBk id hid hm => by
   obtain ⟨g1, g2⟩ := hf2 id hm
   have hkl : k < l.length := by have := (b77.1 hk).1; omega
   rcases bd2 hment hk id hid with h | h | h
   ·omega
   ·rw [hrange id g1 g2] at h; subst h; rw [hBi] at hBk; cases hBk
   ·rw [hrange id g1 g2] at h; rw [behind k hkl h] at hBk; cases hBk
  have hitem : ∀ j, ∀ id ∈ (sD r.acts B S j).ids, id ∉ ac.t.made := fun j => by
   refine am8 (fun x : It => ∀ id ∈ x.ids, id ∉ ac.t.made) (fun id hid hm => ?_) fun k b x hk hBk hw id hid => ?_
   ·have := (I0.bd j).1 id hid; have := (hf2 id hm).1; omega
   ·rw [cb2] at hBk
    exact hnot k b hk hBk id (.inr (.inr ⟨_, Q6 hw, hid⟩))
  have htm : ∀ t x, tmD r.acts B (A2 tm) t = some x → ∀ id ∈ x.ids, id ∉ ac.t.made := fun t => by
   refine am8 (fun y : Option AV => ∀ x, y = some x → ∀ id ∈ x.ids, id ∉ ac.t.made) (fun x hx id hid hm => ?_) fun k b y hk hBk hw x hx id hid => ?_
   ·have := I0.tmi t x hx id hid; have := (hf2 id hm).1; omega
   ·rw [cb2] at hBk
    unfold wrT at hw
    split at hw
    ·cases hw; cases hx
     exact hnot k b hk hBk id (.inl hid)
    ·cases hw
  have hinv : Inv (sD r.acts B S) ρ ac.t.made := fun ρ' ha j => by
   refine It.res_congr _ (fun id hid => ha id (hitem j id hid)) ?_
   by_cases hj : j ∈ ac.t.made
   ·exact .inl (hmk j hj)
   ·exact .inr (.inr (ha j hj))
  refine bD7 hH hF hv M hop2 hob heqi hewi hmk hinv fun ρ' w' ha M' => ?_
  refine hQ _ _ ?_
  have hB' : ∀ j, (listed.setIfInBounds i true).getD j false = if j = i then true else B j := fun j => by
   by_cases e : j = i
   ·subst e
    have : j < listed.size := by omega
    simp [this]
   ·rw [if_neg e, getD_set_ne false (fun h => e h.symm), hBj]
  have hBe : (fun j => (listed.setIfInBounds i true).getD j false) = fun j => if j = i then true else B j := funext hB'
  have later : ∀ (j : Nat) b, i < j → r.acts[j]? = some b → ac7 ac b = true → (if j = i then true else B j) = false := fun j b hij hj hmm => by
   have hjl : j < l.length := by have := (b77.1 hj).1; omega
   rw [if_neg (by omega)]
   exact behind j hjl ((a46 hord hac hj (by omega) hmm).2 hij)
  have eT : tmD r.acts (fun j => if j = i then true else B j) (A2 tm) = aE3 ac.dst ac.t.res (tmD r.acts B (A2 tm)) := by
   funext t
   simp only [aE3]
   by_cases e : ac.dst = some t
   ·rw [if_pos e]
    refine aM3 (i := i) hac (by simp [wrT, e]) (by simp) fun j b hij hj hw => ?_
    rw [cb2]
    refine later j b hij hj (hmd ac b t e ?_)
    unfold wrT at hw
    split at hw
    ·assumption
    ·cases hw
   ·rw [if_neg e]
    refine R6 fun j b hj hw => ?_
    have : j ≠ i := fun h => by
     subst h
     rw [hac] at hj; cases hj
     simp [wrT, e] at hw
    simp [this]
  have eS : sD r.acts (fun j => if j = i then true else B j) S = m7 (sD r.acts B S) ac.t.new := by
   funext q
   rw [ao8]
   cases hx : aB7 ac.t.new q with
   | some x =>
    refine aM3 (i := i) hac hx (by simp) fun j b hij hj hw => ?_
    rw [cb2]
    obtain ⟨y, hy⟩ := cb5.1 hw
    exact later j b hij hj (hmn ac b q (List.mem_map.2 ⟨_, Q6 hx, rfl⟩) (List.mem_map.2 ⟨_, Q6 hy, rfl⟩))
   | none =>
    refine R6 fun j b hj hw => ?_
    have : j ≠ i := fun h => by
     subst h
     rw [hac] at hj; cases hj
     unfold wrS at hw
     rw [hx] at hw; cases hw
    simp [this]
  refine ⟨by simpa using hsz, ?_, ρ', fun j hj => (ha j fun hm => by have := (hf2 j hm).1; have := I0.le; omega).trans (hold j hj), (aU4 _ _ _).trans hN, (aU5 _ _ _).trans hdf, ?_, ?_⟩
  ·rw [hBe]
   intro j oj hj hBj' e he hbi
   show (if e.on = i then true else B e.on) = true
   by_cases e1 : e.on = i
   ·simp [e1]
   ·rw [if_neg e1]
    by_cases e2 : j = i
    ·subst e2
     rw [hoi] at hj; cases hj
     exact hdep' e he hbi
    ·simp only [if_neg e2] at hBj'
     exact hdn j oj hj hBj' e he hbi
  ·rw [hBe, eT, hdst]
   intro t x hx
   rw [bq6 (by rw [hN]; exact hdN)]
   simp only [aE3] at hx
   split
   ·rename_i e; rw [if_pos e] at hx; cases hx; rfl
   ·rename_i e
    rw [if_neg e] at hx
    rw [hv t x hx, AV.val_congr x fun id hid => ha id (htm t x hx id hid)]
  ·rw [hBe, eS]; exact M'
 ·rintro listed a w ⟨hsz, hdn, ρ, hold, hN, hdf, hv, M⟩ hall
  have hall' : ∀ j, j < l.length → listed.getD j false = true := fun j hj => by rw [← bd9 (by omega)]; exact hall j hj
  have eT : tmD r.acts (fun j => listed.getD j false) (A2 tm) = A2 r.tm := by
   funext t
   rw [hfT t]
   refine R6 fun j b hj _ => ?_
   rw [cb2]
   exact hall' j (by have := (b77.1 hj).1; omega)
  have eS : sD r.acts (fun j => listed.getD j false) S = r.S := by
   funext q
   rw [hfS q]
   refine R6 fun j b hj _ => ?_
   rw [cb2]
   exact hall' j (by have := (b77.1 hj).1; omega)
  have hids : ∀ (k : Nat) b, r.acts[k]? = some b → ∀ id, (id ∈ b.t.res.ids ∨ id ∈ b.t.new.map (·.1) ∨ ∃ p ∈ b.t.new, id ∈ p.2.ids) → id < n + 8 * l.length := fun k b hk id hid => by
   have hkl : k < l.length := by have := (b77.1 hk).1; omega
   obtain ⟨o, ho'⟩ : ∃ o, l[k]? = some o := ⟨_, b72 hkl⟩
   obtain ⟨ac, ob, hac, _, hop⟩ := hat k o ho'
   rw [hk] at hac; cases hac
   obtain ⟨_, _, hfine⟩ := aM4 hop
   obtain ⟨hf1, hf2, hf3⟩ := ab6 hfine
   rcases hid with h | h | ⟨p, hp, h⟩
   ·have := hf3 id h; omega
   ·obtain ⟨p, hp, rfl⟩ := List.mem_map.1 h
    have := (hf1 p hp).1; omega
   ·have := (hf1 p hp).2 id h; omega
  refine done ρ a w (n + 8 * l.length) ⟨hN, hdf, by rw [← eT]; exact hv, fun t x hx => ?_, fun j => ?_, by rw [← eS]; exact M, by have := I0.le; omega, hold⟩
  ·rw [hfT t] at hx
   revert x
   refine am8 (fun y : Option AV => ∀ x, y = some x → ∀ id ∈ x.ids, id < n + 8 * l.length) (fun x hx id hid => ?_) fun k b y hk _ hw x hx id hid => ?_
   ·have := I0.tmi t x hx id hid; omega
   ·unfold wrT at hw
    split at hw
    ·cases hw; cases hx
     exact hids k b hk id (.inl hid)
    ·cases hw
  ·refine ⟨?_, fun hj => ?_⟩
   ·rw [hfS j]
    refine am8 (fun x : It => ∀ id ∈ x.ids, id < n + 8 * l.length) (fun id hid => ?_) fun k b x hk _ hw id hid => ?_
    ·have := (I0.bd j).1 id hid; omega
    ·exact hids k b hk id (.inr (.inr ⟨_, Q6 hw, hid⟩))
   ·rw [hfS j, X9 fun k b hk hw => ?_]
    ·exact (I0.bd j).2 (by omega)
    ·obtain ⟨x, hx⟩ := cb5.1 hw
     have := hids k b hk j (.inr (.inl (List.mem_map.2 ⟨_, Q6 hx, rfl⟩)))
     omega
end
def t7 {ι : Type} (φ ψ : Nat → Prop) (w0 : World) (F : ι → Rs) (N m : Nat) (ρ0 ρ : Nat → Value) (S : List It) (tm : List (Nat × AV)) (a : Act) (w : World) : Prop := Inn φ ψ w0 F N m ρ0 S.length ρ (A2 tm) (o5 S) a w
def wfB (S : List It) (tm : List (Nat × AV)) : Bool := S.all (fun x => aa0 S.length x.ids) && tm.all (fun p => aa0 S.length p.2.ids)
def bV5 (m : Nat) (js : List Nat) : Bool := (b88 m).all fun i => natEq (nth js i) i && decide (i < js.length)
def ae1 (m : Nat) (js : List Nat) (S : List It) (tm : List (Nat × AV)) : Bool := nodupB js && natEq js.length S.length && wfB S tm && bV5 m js
section
variable {P : Program} {ι : Type} {φ ψ : Nat → Prop} {w0 w w' : World} {F : ι → Rs} {ρ ρ0 : Nat → Value} {N m n : Nat} {S : List It} {tm : List (Nat × AV)} {a : Act} {Q : Exit → Act → World → Prop}
theorem aA4 : ∀ {tm : List (Nat × AV)} {t : Nat} {x : AV}, A2 tm t = some x → (t, x) ∈ tm
 | [], _, _, h => by cases h
 | (k, y) :: r, t, x, h => by
  simp only [A2, natEq, beq_iff_eq] at h
  split at h
  ·rename_i e; subst e; cases h; exact ca7
  ·exact ca6 _ (aA4 h)
theorem ap6 {l : List It} {i : Nat} (h : i < l.length) : o5 l i = l[i] := by simp [o5, b75, h]
theorem y8 {l : List It} {i : Nat} (h : l.length ≤ i) : o5 l i = .none := by simp [o5, b75, h]
theorem bI1 {S : List It} {tm : List (Nat × AV)} (h : wfB S tm = true) : (∀ j, (∀ id ∈ (o5 S j).ids, id < S.length) ∧ (S.length ≤ j → o5 S j = .none)) ∧ ∀ t x, A2 tm t = some x → ∀ id ∈ x.ids, id < S.length := by
 simp only [wfB, b73] at h
 refine ⟨fun j => ⟨fun id hid => ?_, fun hj => y8 hj⟩, fun t x hx id hid => ?_⟩
 ·rcases b93 j S.length with hj | hj
  ·rw [ap6 hj] at hid
   exact I2 (b80.1 h.1 _ (b91 hj)) id hid
  ·rw [y8 hj] at hid; cases hid
 ·exact I2 (b80.1 h.2 _ (aA4 hx)) id hid
theorem Inn.sel {tf : Nat → Option AV} {Sf : Nat → It} (I : Inn φ ψ w0 F N m ρ0 n ρ tf Sf a w) (js : List Nat) (S1 : List It) (tm1 : List (Nat × AV)) (hb : ae1 m js S1 tm1 = true) (hS : js.map Sf = S1.map (It.ren (nth js))) (ht : (tm1.map (·.1)).map tf = tm1.map fun p => some (p.2.ren (nth js))) :
  t7 φ ψ w0 F N m ρ0 (fun i => ρ (nth js i)) S1 tm1 a w := by
 simp only [ae1, b73, natEq, beq_iff_eq] at hb
 obtain ⟨⟨⟨hnd, hl⟩, hwf⟩, hkeep⟩ := hb
 have hn := az9 hnd
 obtain ⟨b1, b2⟩ := bI1 hwf
 have hk : ∀ i, i < m → nth js i = i ∧ i < js.length := fun i hi => by
  have := b80.1 hkeep i (ca9.2 hi)
  simpa [natEq] using this
 refine ⟨I.size, I.defs, fun t x hx => ?_, b2, b1, ?_, ?_, fun i hi => ?_⟩
 ·obtain ⟨i, hi⟩ := List.mem_iff_getElem?.1 (aA4 hx)
  have h1 := congrArg (·[i]?) ht
  simp only [List.getElem?_map, hi, Option.map_some] at h1
  rw [I.tmv t _ (Option.some.inj h1), AV.val_ren]
 ·refine I.mem.map (fun k : ι ⊕ Nat => (match k with | .inl i => some (.inl i) | .inr i => if i < js.length then some (.inr (nth js i)) else none : Option (ι ⊕ Nat))) ?_ ?_
  ·intro k k' x h1 h2
   match k, k' with
   | .inl i, .inl i' => simp at h1 h2; rw [← h1] at h2; simpa using h2.symm
   | .inl i, .inr j => simp only at h1 h2; cases h1; split at h2 <;> simp at h2
   | .inr j, .inl i => simp only at h1 h2; cases h2; split at h1 <;> simp at h1
   | .inr j, .inr j' =>
    simp at h1 h2
    obtain ⟨f1, f2⟩ := h1
    obtain ⟨g1, g2⟩ := h2
    rw [← f2] at g2
    have hj := Sum.inr.inj g2
    have e1 := b72 f1
    have e2 := b72 g1
    rw [H1 e2, H1 e1] at hj
    have := (List.getElem?_inj f1 hn).1 (e1.trans (by rw [← hj]; exact e2.symm))
    rw [this]
  ·intro k
   match k with
   | .inl i => exact .inl ⟨_, rfl, rfl⟩
   | .inr i =>
    by_cases hlt : i < js.length
    ·refine .inl ⟨.inr (nth js i), by simp [hlt], ?_⟩
     have h1 := congrArg (·[i]?) hS
     have hlt' : i < S1.length := by omega
     simp only [List.getElem?_map, b72 hlt, b72 hlt', Option.map_some, Option.some.injEq] at h1
     simp only [l7]
     rw [ap6 hlt', H1 (b72 hlt), h1, ← It.res_ren, H1 (b72 hlt)]
    ·refine .inr ?_
     simp only [l7]
     rw [y8 (by omega)]
     rfl
 ·rcases b93 S1.length m with h | h
  ·have := (hk S1.length h).2; omega
  ·exact h
 ·rw [(hk i hi).1]; exact I.old i hi
def aV2 (o : Option RS) (js ts : List Nat) : Option (List Prop × List It × List (Option AV) × List (List (List AV × List It)) × List (List AV)) := o.map fun r => (r.obs, js.map r.S, ts.map (A2 r.tm), r.acts.map (·.eqs.1), r.acts.map (·.eqw.1))
def a45 (o : Option RS) (obs : List Prop) (js : List Nat) (S : List It) (tm : List (Nat × AV)) : Option (List Prop × List It × List (Option AV) × List (List (List AV × List It)) × List (List AV)) := o.map fun r => (obs, S.map (It.ren (nth js)), tm.map (fun p => some (p.2.ren (nth js))), r.acts.map (·.eqs.2), r.acts.map (·.eqw.2))
def be4 (l : List Oper) (ms : List Nat) (n : Nat) (S : Nat → It) (o : Option RS) : Bool := aM7 ms l && af8 l.toArray && match o with
 | some r => bN0 ms r.acts && bs9 ms n r.acts && bm2 ms S r.acts
 | none => false
theorem bL8 {dk : TypeId → Nat} {l : List Oper} {id : Nat} (G : t7 φ ψ w0 F N m ρ0 ρ S tm a w) (H : Q8) (hH : ∀ i c τ, K7 H.calls i = some (c, τ) → c.ok P) (hF : O8 H.facts) (js : List Nat) (S1 : List It) (tm1 : List (Nat × AV)) (obs : List Prop)
  (hs : ((T8 P dk N l H l 0 tm (o5 S) S.length).isSome && ae1 m js S1 tm1) = true)
  (hc : aV2 (T8 P dk N l H l 0 tm (o5 S) S.length) js (tm1.map (·.1)) = a45 (T8 P dk N l H l 0 tm (o5 S) S.length) obs js S1 tm1)
  (ho : t8 obs) (k : ∀ ρ' a' w', t7 φ ψ w0 F N m ρ0 ρ' S1 tm1 a' w' → Q .normal a' w') : (Code.region id l.toArray false).wp P Q a w := by
 simp only [b73] at hs
 obtain ⟨r, hr⟩ := cb5.1 hs.1
 rw [hr] at hc
 simp only [aV2, a45, Option.map_some, Option.some.injEq, Prod.mk.injEq] at hc
 obtain ⟨h1, h2, h3, h4, h5⟩ := hc
 refine wp_region_lit (bc0 hH hF l 0 S.length G hr (by rw [h1]; exact ho) h4 h5 fun ρ' a' w' n' I => ?_)
 exact k _ a' w' (I.sel js S1 tm1 hs.2 h2 h3)
theorem bB9 {dk : TypeId → Nat} {l : List Oper} {id : Nat} (G : t7 φ ψ w0 F N m ρ0 ρ S tm a w) (H : Q8) (hH : ∀ i c τ, K7 H.calls i = some (c, τ) → c.ok P) (hF : O8 H.facts) (ms : List Nat) (js : List Nat) (S1 : List It) (tm1 : List (Nat × AV)) (obs : List Prop) (hm : P.follows .mixedOrders = true)
  (hs : (be4 l ms S.length (o5 S) (T8 P dk N l H l 0 tm (o5 S) S.length) && ae1 m js S1 tm1) = true)
  (hc : aV2 (T8 P dk N l H l 0 tm (o5 S) S.length) js (tm1.map (·.1)) = a45 (T8 P dk N l H l 0 tm (o5 S) S.length) obs js S1 tm1)
  (ho : t8 obs) (k : ∀ ρ' a' w', t7 φ ψ w0 F N m ρ0 ρ' S1 tm1 a' w' → Q .normal a' w') : (Code.region id l.toArray true).wp P Q a w := by
 simp only [b73, be4] at hs
 obtain ⟨⟨⟨q1, q2⟩, q3⟩, q4⟩ := hs
 cases hr : T8 P dk N l H l 0 tm (o5 S) S.length with
 | none => rw [hr] at q3; cases q3
 | some r =>
  rw [hr] at q3 hc
  simp only [b73] at q3
  simp only [aV2, a45, Option.map_some, Option.some.injEq, Prod.mk.injEq] at hc
  obtain ⟨h1, h2, h3, h4, h5⟩ := hc
  refine aK8 hH hF G hr (by rw [h1]; exact ho) h4 h5 ms hm q2 q1 q3.1.1 q3.1.2 q3.2 fun ρ' a' w' n' I => ?_
  exact k _ a' w' (I.sel js S1 tm1 q4 h2 h3)
theorem rs1 {dk : TypeId → Nat} {l : List Oper} {id : Nat} (G : t7 φ ψ w0 F N m ρ0 ρ S tm a w) (H : Q8) (hH : ∀ i c τ, K7 H.calls i = some (c, τ) → c.ok P) (hF : O8 H.facts) (js : List Nat) (S1 : List It) (tm1 : List (Nat × AV)) (obs : List Prop)
  (ho : t8 obs) (k : ∀ ρ' a' w', t7 φ ψ w0 F N m ρ0 ρ' S1 tm1 a' w' → Q .normal a' w')
  (hs : ((T8 P dk N l H l 0 tm (o5 S) S.length).isSome && ae1 m js S1 tm1) = true := by kernel_rfl)
  (hc : aV2 (T8 P dk N l H l 0 tm (o5 S) S.length) js (tm1.map (·.1)) = a45 (T8 P dk N l H l 0 tm (o5 S) S.length) obs js S1 tm1 := by kernel_rfl) : (Code.region id l.toArray false).wp P Q a w := bL8 G H hH hF js S1 tm1 obs hs hc ho k
theorem rd1 {dk : TypeId → Nat} {l : List Oper} {id : Nat} (G : t7 φ ψ w0 F N m ρ0 ρ S tm a w) (H : Q8) (hH : ∀ i c τ, K7 H.calls i = some (c, τ) → c.ok P) (hF : O8 H.facts) (ms : List Nat) (js : List Nat) (S1 : List It) (tm1 : List (Nat × AV)) (obs : List Prop)
  (ho : t8 obs) (k : ∀ ρ' a' w', t7 φ ψ w0 F N m ρ0 ρ' S1 tm1 a' w' → Q .normal a' w') (hm : P.follows .mixedOrders = true := by kernel_rfl)
  (hs : (be4 l ms S.length (o5 S) (T8 P dk N l H l 0 tm (o5 S) S.length) && ae1 m js S1 tm1) = true := by kernel_rfl)
  (hc : aV2 (T8 P dk N l H l 0 tm (o5 S) S.length) js (tm1.map (·.1)) = a45 (T8 P dk N l H l 0 tm (o5 S) S.length) obs js S1 tm1 := by kernel_rfl) : (Code.region id l.toArray true).wp P Q a w := bB9 G H hH hF ms js S1 tm1 obs hm hs hc ho k
theorem ah3 : ∀ i c τ, K7 [] i = some (c, τ) → l0.ok P c := fun i c τ h => by cases h
theorem aC8 {i0 : Nat} {c0 : l0} {τ0 : List Nat} {r : List (Nat × l0 × List Nat)} (h0 : c0.ok P) (hr : ∀ i c τ, K7 r i = some (c, τ) → l0.ok P c) : ∀ i c τ, K7 ((i0, c0, τ0) :: r) i = some (c, τ) → l0.ok P c := fun i c τ h => by
 simp only [K7] at h
 split at h
 ·cases h; exact h0
 ·exact hr i c τ h
theorem t7.sel (G : t7 φ ψ w0 F N m ρ0 ρ S tm a w) (js : List Nat) (S1 : List It) (tm1 : List (Nat × AV)) (hb : ae1 m js S1 tm1 = true) (hS : js.map (o5 S) = S1.map (It.ren (nth js))) (ht : (tm1.map (·.1)).map (A2 tm) = tm1.map fun p => some (p.2.ren (nth js))) : ∃ ρ', t7 φ ψ w0 F N m ρ0 ρ' S1 tm1 a w := ⟨_, Inn.sel G js S1 tm1 hb hS ht⟩
theorem t7.as (G : t7 φ ψ w0 F N m ρ0 ρ S tm a w) (S1 : List It) (tm1 : List (Nat × AV)) (hS : S = S1) (ht : tm = tm1) : t7 φ ψ w0 F N m ρ0 ρ S1 tm1 a w := by subst hS; subst ht; exact G
theorem t7.at (G : t7 φ ψ w0 F N m ρ0 ρ S tm a w) (S1 : List It) (tm1 : List (Nat × AV)) (hS : S = S1 := by kernel_rfl) (ht : tm = tm1 := by kernel_rfl) : t7 φ ψ w0 F N m ρ0 ρ S1 tm1 a w := G.as S1 tm1 hS ht
theorem ag1 {c : Nat} {x y : Code} (G : t7 φ ψ w0 F N m ρ0 ρ S tm a w) (b : Bool) (hc : A2 tm c = some (.v (.bool b))) (ht : b = true → x.wp P Q a w) (hf : b = false → y.wp P Q a w) : (Code.cond (.tmp c) x y).wp P Q a w := by
 have h := G.tmv c _ hc
 refine wp_cond_split (t := b) ?_ ht hf
 simp [Act.eval, Array.getD_eq_getD_getElem?, h, AV.val]
theorem bp7 {c : Nat} {x y : Code} (G : t7 φ ψ w0 F N m ρ0 ρ S tm a w) (b : Bool) (hc : A2 tm c = some (.v (.bool b))) (hb : b = true) (h : x.wp P Q a w) : (Code.cond (.tmp c) x y).wp P Q a w := ag1 G b hc (fun _ => h) fun hf => by rw [hb] at hf; cases hf
theorem bp8 {c : Nat} {x y : Code} (G : t7 φ ψ w0 F N m ρ0 ρ S tm a w) (b : Bool) (hc : A2 tm c = some (.v (.bool b))) (hb : b = false) (h : y.wp P Q a w) : (Code.cond (.tmp c) x y).wp P Q a w := ag1 G b hc (fun ht => by rw [hb] at ht; cases ht) fun _ => h
def a34 (P : Program) (tm : Nat → Option AV) (S : Nat → It) : List ResultVar → Option (List AV)
 | [] => some []
 | .tmp t :: r =>
  match tm t, a34 P tm S r with
  | some x, some l => some (x :: l)
  | _, _ => none
 | .cell t ty :: r =>
  match tm t, a34 P tm S r with
  | some (.ptr b off), some l =>
   match S b with
   | .box cs => (aZ9 P ty ((cs.drop off).take (as4 P ty))).map fun x => x :: l
   | _ => none
  | _, _ => none
def aU3 (P : Program) (fn : Func) (tm : List (Nat × AV)) (S : List It) : Option AV :=
 match a34 P (A2 tm) (o5 S) fn.results.toList with
 | some [x] => some x
 | some l => some (.tup l)
 | none => none
theorem by2 {cs : List AV} {ty : TypeId} {b off : Nat} {x : AV} (hB : A1 w b (AV.vals ρ cs)) (h : aZ9 P ty ((cs.drop off).take (as4 P ty)) = some x) : (loadVar ty ⟨b, off, none⟩).run P w = .ok (x.val ρ) w :=
 ah5 h ⟨b, off, none⟩ fun j u hj => by
  rw [AV.vals_take, AV.vals_drop] at hj
  have hadd : (⟨b, off, none⟩ : Addr).add j = ⟨b, off + j, none⟩ := by unfold Addr.add; split <;> simp_all
  rw [hadd, hB.cell]
  rw [List.getElem?_take] at hj
  split at hj
  ·rw [List.getElem?_drop] at hj; exact hj
  ·cases hj
theorem aM0 (G : t7 φ ψ w0 F N m ρ0 ρ S tm a w) : ∀ {rs : List ResultVar} {l : List AV}, a34 P (A2 tm) (o5 S) rs = some l →
  (rs.mapM (fun r => (match r with | .tmp t => pure (a.tmps.getD t undef) | .cell b t => do loadVar t (← asAddr (a.tmps.getD b undef)) : Sem Value))).run P w = .ok (AV.vals ρ l) w
 | [], l, h => by cases h; simp [AV.vals]
 | .tmp t :: r, l, h => by
  simp only [a34] at h
  split at h
  case h_2 => cases h
  rename_i x l' h1 h2
  cases h
  have ht := G.tmv t x h1
  have ih := aM0 G h2
  have e : (pure (a.tmps.getD t undef) : Sem Value).run P w = .ok (x.val ρ) w := by simp [Array.getD_eq_getD_getElem?, ht]
  rw [List.mapM_cons, Sem.run_bind, e, Result.andThen_ok, Sem.run_bind, ih]
  rfl
 | .cell t ty :: r, l, h => by
  simp only [a34] at h
  split at h
  case h_2 => cases h
  rename_i b off l' h1 h2
  split at h
  case h_2 => cases h
  rename_i cs hS
  obtain ⟨x, h3, h4⟩ := b78.1 h
  subst h4
  have ht := G.tmv t _ h1
  have ih := aM0 G h2
  have hl := by2 (P := P) (G.mem.boxAt hS) h3
  have e : (do loadVar ty (← asAddr (a.tmps.getD t undef)) : Sem Value).run P w = .ok (x.val ρ) w := by
   rw [show a.tmps.getD t undef = .pointer (some ⟨T5 (ρ b), off, none⟩) by simp [Array.getD_eq_getD_getElem?, ht, AV.val]]
   simp [asAddr, hl]
  rw [List.mapM_cons, Sem.run_bind, e, Result.andThen_ok, Sem.run_bind, ih]
  rfl
theorem bL9 {fn : Func} {R : Ending → World → Prop} {v : AV} (G : t7 φ ψ w0 F N m ρ0 ρ S tm a w) (h : aU3 P fn tm S = some v) (hR : R (.returned (v.val ρ)) w) : bodyPost P fn R .ret a w := by
 refine ⟨G.defs, v.val ρ, ?_, hR⟩
 unfold aU3 at h
 cases hl : a34 P (A2 tm) (o5 S) fn.results.toList with
 | none => rw [hl] at h; cases h
 | some l =>
  rw [hl] at h
  have := aM0 G hl
  unfold results
  rw [Sem.run_bind, Array.mapM_eq_mapM_toList, Sem.run_map]
  erw [this]
  simp only [Result.andThen_ok, Sem.run_pure]
  match l, h with
  | [], h => cases h; rfl
  | [x], h => cases h; rfl
  | x :: y :: r, h => cases h; rfl
theorem t7.freeze (G : t7 φ ψ w0 F N m ρ0 ρ S tm a w) (i : Nat) {e : TypeId} {d : D} (hS : S[i]? = some (.row e d)) : t7 φ ψ w0 F N m ρ0 ρ (S.set i (.dat d)) tm a w := by
 have hi := (b77.1 hS).1
 have hl : o5 S i = .row e d := by simp [o5, b75, hS]
 have hset : ∀ j, o5 (S.set i (.dat d)) j = if j = i then .dat d else o5 S j := fun j => by
  simp only [o5, b75]
  by_cases e : j = i
  ·subst e; simp [hi]
  ·rw [List.getElem?_set_ne (fun h => e h.symm), if_neg e]
 refine ⟨G.size, G.defs, G.tmv, by rw [b95]; exact G.tmi, fun j => ?_, ?_, by rw [b95]; exact G.le, G.old⟩
 ·rw [hset, b95]
  split
  ·exact ⟨fun id h => by simp [It.ids] at h, fun h => by omega⟩
  ·exact G.bd j
 ·obtain ⟨xs, h1, h2⟩ := G.mem.rowAt hl
  have hoth : ∀ k : ι ⊕ Nat, k ≠ .inr i → l7 F ρ (o5 (S.set i (.dat d))) k = l7 F ρ (o5 S) k := fun k hk => by
   cases k with
   | inl q => rfl
   | inr j =>
    have : j ≠ i := fun e => hk (by rw [e])
    simp only [l7]; rw [hset, if_neg this]
  refine G.mem.put (.inr i) hoth (C4.refl _ _) ?_ fun g hg => ?_
  ·simp only [l7]
   rw [hset, if_pos rfl]
   refine ⟨RD.nice _ _, ?_⟩
   have hfr : ∀ b, W6 φ (l7 F ρ (o5 S)) b → W6 φ (l7 F ρ (o5 (S.set i (.dat d)))) b := fun b hb => ⟨hb.1, fun k hk => by
    by_cases e : k = .inr i
    ·subst e
     simp only [l7] at hk
     rw [hset, if_pos rfl] at hk; exact hk
    ·rw [hoth k e] at hk; exact hb.2 k hk⟩
   refine RD.make (z6 h1 fun g hg => ?_) (RW.nice _ _ _ _ _ _ (Agr.mono fun b _ hb => hfr b hb) h2)
   have hown : (l7 F ρ (o5 S) (.inr i)).blk g := by simp only [l7]; rw [hl]; exact hg
   refine ⟨G.mem.ph _ _ hown, fun k hk => ?_⟩
   by_cases e : k = .inr i
   ·subst e
    simp only [l7] at hk
    rw [hset, if_pos rfl] at hk; exact hk
   ·rw [hoth k e] at hk
    exact G.mem.dis _ _ g (fun h => e h.symm) hown hk
  ·simp only [l7] at hg
   rw [hset, if_pos rfl] at hg; exact hg.elim
def aD6 (i : Nat) : List AV → List (Nat × AV)
 | [] => []
 | x :: r => (i, x) :: aD6 (i + 1) r
theorem a00 (ρ : Nat → Value) : ∀ {l : List AV} {i t : Nat} {x : AV}, A2 (aD6 i l) t = some x → i ≤ t ∧ (AV.vals ρ l)[t - i]? = some (x.val ρ)
 | [], _, _, _, h => by cases h
 | y :: r, i, t, x, h => by
  simp only [aD6, A2, natEq, beq_iff_eq] at h
  split at h
  ·rename_i e; subst e; cases h; exact ⟨b76 _, by simp [AV.vals]⟩
  ·obtain ⟨h1, h2⟩ := a00 ρ h
   refine ⟨by omega, ?_⟩
   rw [show t - i = (t - (i + 1)) + 1 by omega]
   simpa [AV.vals] using h2
def a07 (φ ψ : Nat → Prop) (w0 : World) (F : ι → Rs) (ρ0 : Nat → Value) (c : l0) (x : Ending) (w' : World) : Prop := ∃ ρ', (∀ i, i < c.pre.length → ρ' i = ρ0 i) ∧ x = .returned (c.res.val ρ') ∧ i7 φ ψ w0 w' (l7 F ρ' (o5 c.post))
theorem bp6 {c : l0} {fn : Func} {code : Code} (N : Nat) (hf : P.funcs[c.f]? = some fn) (hb : fn.body = some code) (hN : fn.ntmps = N) (hw : (wfB c.pre (aD6 0 c.args) && decide (c.args.length ≤ N)) = true)
  (k : ∀ {ι : Type} (φ ψ : Nat → Prop) (w0 w : World) (F : ι → Rs) (ρ0 ρ : Nat → Value) (a : Act), t7 φ ψ w0 F N c.pre.length ρ0 ρ c.pre (aD6 0 c.args) a w → code.wp P (bodyPost P fn (a07 φ ψ w0 F ρ0 c)) a w) : c.ok P := by
 intro ι φ ψ w0 w F ρ M
 simp only [b73, decide_eq_true_eq] at hw
 obtain ⟨b1, b2⟩ := bI1 hw.1
 refine calls_of_wp hf hb (k φ ψ w0 w F ρ ρ _ ⟨?_, rfl, fun t x hx => ?_, b2, b1, M, b76 _, fun _ _ => rfl⟩)
 ·simp [AV.vals_length, hN]; omega
 ·obtain ⟨_, h1⟩ := a00 ρ hx
  rw [Nat.sub_zero] at h1
  have hlt := (b77.1 h1).1
  rw [Array.getElem?_append_left (by simpa using hlt)]
  simpa using h1
theorem ay6 {fn : Func} {c : l0} {v : AV} (G : t7 φ ψ w0 F N c.pre.length ρ0 ρ S tm a w) (js : List Nat) (h : aU3 P fn tm S = some v) (hb : ae1 c.pre.length js c.post [] = true) (hS : js.map (o5 S) = c.post.map (It.ren (nth js))) (hv : v = c.res.ren (nth js)) : bodyPost P fn (a07 φ ψ w0 F ρ0 c) .ret a w := by
 have G1 := Inn.sel G js c.post [] hb hS rfl
 refine bL9 G h ⟨fun i => ρ (nth js i), G1.old, ?_, G1.mem⟩
 rw [hv, AV.val_ren]
theorem b0 {K : Act → World → Prop} (h : K a w) : Exit.then K Q .normal a w := h
theorem v9 {K : Act → World → Prop} {id : Nat} (h : Q (.exit id) a w) : Exit.then K Q (.exit id) a w := h
theorem o8 {K : Act → World → Prop} (h : Q .ret a w) : Exit.then K Q .ret a w := h
theorem i8 {id : Nat} (h : Q .normal a w) : Exit.inBlock id Q .normal a w := h
theorem E3 {id : Nat} (h : Q .ret a w) : Exit.inBlock id Q .ret a w := h
theorem v6 {id : Nat} (h : Q .normal a w) : Exit.inBlock id Q (.exit id) a w := by simp only [Exit.inBlock, if_true]; exact h
theorem w64 {x : Int} (h1 : -9223372036854775808 ≤ x) (h2 : x ≤ 9223372036854775807) : IntKind.i64.wrap x = x := IntWalk.i64_in x ⟨h1, h2⟩
theorem rT {c : Nat} {x y : Code} (G : t7 φ ψ w0 F N m ρ0 ρ S tm a w) (b : Bool) (hb : b = true) (h : x.wp P Q a w) (hc : A2 tm c = some (.v (.bool b)) := by kernel_rfl) : (Code.cond (.tmp c) x y).wp P Q a w := bp7 G b hc hb h
theorem rF {c : Nat} {x y : Code} (G : t7 φ ψ w0 F N m ρ0 ρ S tm a w) (b : Bool) (hb : b = false) (h : y.wp P Q a w) (hc : A2 tm c = some (.v (.bool b)) := by kernel_rfl) : (Code.cond (.tmp c) x y).wp P Q a w := bp8 G b hc hb h
theorem x6 {κ : Type} {c : Code} (pre : κ → Prop) (μ : κ → Nat) (Sk : κ → List It) (Tk : κ → List (Nat × AV)) (k0 : κ) (hp : pre k0) (G : t7 φ ψ w0 F N m ρ0 ρ (Sk k0) (Tk k0) a w)
  (round : ∀ k ρ a w, pre k → t7 φ ψ w0 F N m ρ0 ρ (Sk k) (Tk k) a w → c.wp P (Exit.then (fun a' w' => ∃ k' ρ', pre k' ∧ μ k' < μ k ∧ t7 φ ψ w0 F N m ρ0 ρ' (Sk k') (Tk k') a' w') Q) a w) : (Code.loop c).wp P Q a w := by
 refine wp_loop_ghost (fun n a w => ∃ k ρ, μ k = n ∧ pre k ∧ t7 φ ψ w0 F N m ρ0 ρ (Sk k) (Tk k) a w) (μ k0) ⟨k0, ρ, rfl, hp, G⟩ ?_
 rintro n a w ⟨k, ρ, rfl, hk, Gk⟩
 refine wp_mono (round k ρ a w hk Gk) ?_
 intro e a' w' hq
 cases e with
 | normal =>
  obtain ⟨k', ρ', h1, h2, h3⟩ := hq
  exact ⟨μ k', h2, k', ρ', rfl, h1, h3⟩
 | _ => exact hq
theorem bB8 {κ : Type} {pre : κ → Prop} {μ : κ → Nat} {Sk : κ → List It} {Tk : κ → List (Nat × AV)} {k : κ} (G : t7 φ ψ w0 F N m ρ0 ρ S tm a w) (k' : κ) (hp : pre k') (hμ : μ k' < μ k) (js : List Nat) (S1 : List It) (tm1 : List (Nat × AV)) (hs1 : Sk k' = S1) (ht1 : Tk k' = tm1)
  (hb : ae1 m js S1 tm1 = true) (hS : js.map (o5 S) = S1.map (It.ren (nth js))) (ht : (tm1.map (·.1)).map (A2 tm) = tm1.map fun p => some (p.2.ren (nth js))) :
  ∃ k' ρ', pre k' ∧ μ k' < μ k ∧ t7 φ ψ w0 F N m ρ0 ρ' (Sk k') (Tk k') a w := by
 subst hs1; subst ht1
 exact ⟨k', _, hp, hμ, Inn.sel G js _ _ hb hS ht⟩
theorem t7.len (G : t7 φ ψ w0 F N m ρ0 ρ S tm a w) (i : Nat) {d : D} (h : itD (o5 S i) = some d) : d.len ≤ 9223372036854775807 := by
 obtain ⟨_, cap, _, h1, h2, _⟩ := G.mem.sliceAt h
 unfold maxLen at h2; omega
end
def dkP (t : TypeId) : Nat :=
 if natEq t 3 then 1 else
 if natEq t 4 then 2 else
 if natEq t 5 then 3 else
 if natEq t 9 then 4 else
if natEq t 60 then 5 else
if natEq t 71 then 6 else
 if natEq t 23 then 7 else
if natEq t 43 then 8 else
if natEq t 109 then 9 else
if natEq t 111 then 10 else
 0
abbrev eA (e : d8) (r : Nat) : AV := .agg [.v (.int .i64 e.kind), .v (.int .i64 e.value), .ref r]
abbrev eS (e : d8) : List It := [.dat (.exprs e.kids)]
abbrev sA (s : c8) (r : Nat) : AV := .agg [.v (.int .i64 s.kind), .v (.int .i64 s.target), .v (.int .i64 s.index.kind), .v (.int .i64 s.index.value), .ref r, .v (.int .i64 s.value.kind), .v (.int .i64 s.value.value), .ref (r + 1), .v (.int .i64 s.count), .ref (r + 2), .ref (r + 3)]
abbrev sS (s : c8) : List It := [.dat (.exprs s.index.kids), .dat (.exprs s.value.kids), .dat (.stmts s.body), .dat (.stmts s.els)]
abbrev pA (r : Nat) : AV := .agg [.ref r, .ref (r + 1), .ref (r + 2)]
abbrev pS (p : j9) : List It := [.dat (.ints p.vars), .dat (.ints p.arrays), .dat (.stmts p.body)]
abbrev iA (n : Int) : AV := .v (.int .i64 n)
abbrev bA (b : Bool) : AV := .v (.bool b)
abbrev Z1 (f : FuncId) (args : List AV) (S : List It) (res : AV) : l0 := ⟨f, args, S, S, res⟩
abbrev dI (l : List Int) : It := .dat (.ints l)
abbrev dB (l : List Bool) : It := .dat (.bools l)
abbrev dY (l : List UInt8) : It := .dat (.bytes l)
abbrev dN (l : List d7) : It := .dat (.instrs l)
abbrev dV (l : List (Int × Int)) : It := .dat (.events l)
abbrev dR (l : List (List Int)) : It := .dat (.rows l)
abbrev dE (l : List d8) : It := .dat (.exprs l)
abbrev dT (l : List c8) : It := .dat (.stmts l)
abbrev eL (e : d8) (r : Nat) : List AV := [.v (.int .i64 e.kind), .v (.int .i64 e.value), .ref r]
abbrev sL (s : c8) (r : Nat) : List AV := [.v (.int .i64 s.kind), .v (.int .i64 s.target), .v (.int .i64 s.index.kind), .v (.int .i64 s.index.value), .ref r, .v (.int .i64 s.value.kind), .v (.int .i64 s.value.value), .ref (r + 1), .v (.int .i64 s.count), .ref (r + 2), .ref (r + 3)]
abbrev pL (r : Nat) : List AV := [.ref r, .ref (r + 1), .ref (r + 2)]
section
variable {P : Program} {ι : Type} {φ ψ : Nat → Prop} {w0 w w' : World} {F : ι → Rs} {ρ ρ0 : Nat → Value} {N m n : Nat} {S : List It} {tm : List (Nat × AV)} {a : Act} {Q : Exit → Act → World → Prop}
end
theorem d8.eta (e : d8) : (⟨e.kind, e.value, e.kids⟩ : d8) = e := by cases e; rfl
theorem c8.eta (s : c8) : (⟨s.kind, s.target, s.index, s.value, s.count, s.body, s.els⟩ : c8) = s := by cases s; rfl
section
variable {ι : Type} {P : Program} {φ ψ : Nat → Prop} {w0 w : World} {F : ι → Rs} {N m : Nat} {ρ0 ρ : Nat → Value} {S : List It} {tm : List (Nat × AV)} {a : Act}
theorem J9 {fn : Func} {c : l0} (G : t7 φ ψ w0 F N c.pre.length ρ0 ρ S tm a w) (js : List Nat) (hS : js.map (o5 S) = c.post.map (It.ren (nth js)) := by kernel_rfl) (h : aU3 P fn tm S = some (c.res.ren (nth js)) := by kernel_rfl) (hb : ae1 c.pre.length js c.post [] = true := by kernel_rfl) : bodyPost P fn (a07 φ ψ w0 F ρ0 c) .ret a w := ay6 G js h hb hS rfl
theorem b18 {fn : Func} {c : l0} (G : t7 φ ψ w0 F N c.pre.length ρ0 ρ S tm a w) (js : List Nat) (hS : js.map (o5 S) = c.post.map (It.ren (nth js)) := by kernel_rfl) (h : aU3 P fn tm S = some (c.res.ren (nth js)) := by kernel_rfl) (hb : ae1 c.pre.length js c.post [] = true := by kernel_rfl) : bodyPost P fn (a07 φ ψ w0 F ρ0 c) .normal a w := ay6 G js h hb hS rfl
theorem rxv {fn : Func} {c : l0} (v : AV) (G : t7 φ ψ w0 F N c.pre.length ρ0 ρ S tm a w) (js : List Nat) (hv : v = c.res.ren (nth js)) (hS : js.map (o5 S) = c.post.map (It.ren (nth js)) := by kernel_rfl) (h : aU3 P fn tm S = some v := by kernel_rfl) (hb : ae1 c.pre.length js c.post [] = true := by kernel_rfl) : bodyPost P fn (a07 φ ψ w0 F ρ0 c) .ret a w := ay6 G js h hb hS hv
theorem L0 {κ : Type} {pre : κ → Prop} {μ : κ → Nat} {Sk : κ → List It} {Tk : κ → List (Nat × AV)} {k : κ} (G : t7 φ ψ w0 F N m ρ0 ρ S tm a w) (k' : κ) (hp : pre k') (hμ : μ k' < μ k) (js : List Nat) (hS : js.map (o5 S) = (Sk k').map (It.ren (nth js)) := by kernel_rfl) (ht : ((Tk k').map (·.1)).map (A2 tm) = (Tk k').map (fun p => some (p.2.ren (nth js))) := by kernel_rfl) (hb : ae1 m js (Sk k') (Tk k') = true := by kernel_rfl) : ∃ k' ρ', pre k' ∧ μ k' < μ k ∧ t7 φ ψ w0 F N m ρ0 ρ' (Sk k') (Tk k') a w := bB8 G k' hp hμ js _ _ rfl rfl hb hS ht
theorem M0 {fn : Func} {f : FuncId} {args : List AV} {pre post : List It} {x : Bool} (y : Bool) (G : t7 φ ψ w0 F N pre.length ρ0 ρ S tm a w) (js : List Nat) (e : x = y) (hS : js.map (o5 S) = post.map (It.ren (nth js)) := by kernel_rfl) (h : aU3 P fn tm S = some (bA y) := by kernel_rfl) (hb : ae1 pre.length js post [] = true := by kernel_rfl) : bodyPost P fn (a07 φ ψ w0 F ρ0 ⟨f, args, pre, post, bA x⟩) .ret a w := ay6 (c := ⟨f, args, pre, post, bA x⟩) G js h hb hS (by rw [e]; rfl)
theorem rxI {fn : Func} {f : FuncId} {args : List AV} {pre post : List It} {x : Int} (y : Int) (G : t7 φ ψ w0 F N pre.length ρ0 ρ S tm a w) (js : List Nat) (e : x = y) (hS : js.map (o5 S) = post.map (It.ren (nth js)) := by kernel_rfl) (h : aU3 P fn tm S = some (iA y) := by kernel_rfl) (hb : ae1 pre.length js post [] = true := by kernel_rfl) : bodyPost P fn (a07 φ ψ w0 F ρ0 ⟨f, args, pre, post, iA x⟩) .ret a w := ay6 (c := ⟨f, args, pre, post, iA x⟩) G js h hb hS (by rw [e]; rfl)
end
abbrev wO (x : Int) : Prop := IntKind.i64.wrap x = x
theorem oW {x : Int} (h : -9223372036854775808 ≤ x ∧ x ≤ 9223372036854775807) : wO x := w64 h.1 h.2
theorem o1 {x : Int} (h : -9223372036854775808 ≤ x ∧ x ≤ 9223372036854775807) : t8 [wO x] := ⟨oW h, b84⟩
theorem o2 {x y : Int} (h : (-9223372036854775808 ≤ x ∧ x ≤ 9223372036854775807) ∧ -9223372036854775808 ≤ y ∧ y ≤ 9223372036854775807) : t8 [wO x, wO y] := ⟨oW h.1, oW h.2, b84⟩
theorem o3 {x y z : Int} (h : (-9223372036854775808 ≤ x ∧ x ≤ 9223372036854775807) ∧ (-9223372036854775808 ≤ y ∧ y ≤ 9223372036854775807) ∧ -9223372036854775808 ≤ z ∧ z ≤ 9223372036854775807) : t8 [wO x, wO y, wO z] := ⟨oW h.1, oW h.2.1, oW h.2.2, b84⟩
theorem o4 {x y z u : Int} (h : (-9223372036854775808 ≤ x ∧ x ≤ 9223372036854775807) ∧ (-9223372036854775808 ≤ y ∧ y ≤ 9223372036854775807) ∧ (-9223372036854775808 ≤ z ∧ z ≤ 9223372036854775807) ∧ -9223372036854775808 ≤ u ∧ u ≤ 9223372036854775807) : t8 [wO x, wO y, wO z, wO u] := ⟨oW h.1, oW h.2.1, oW h.2.2.1, oW h.2.2.2, b84⟩
abbrev aP (n b : Nat) (r : List Prop) : List Prop := (n ≤ 9223372036854775807) :: (n * b ≤ 140737488355328) :: r
theorem aK {n b : Nat} {r : List Prop} (h : n ≤ 100000000000) (k : t8 r) (hb : b ≤ 1000 := by decide) : t8 (aP n b r) := ⟨by omega, b97 (Nat.mul_le_mul h hb) (by decide), k⟩
abbrev iX (x : Int) (n l : Nat) (r : List Prop) : List Prop := (0 ≤ x) :: (x < (l : Int)) :: (n < l) :: r
theorem iK {x : Int} {n l : Nat} {r : List Prop} (h : 0 ≤ x ∧ x < (l : Int) ∧ n < l) (k : t8 r) : t8 (iX x n l r) := ⟨h.1, h.2.1, h.2.2, k⟩
abbrev mR (js : List Nat) (l : List It) : List It := List.map (It.ren (nth js)) l
theorem fz : O8 [] := b84
theorem fc {a b : Bool} {r : List (Bool × Bool)} (h : a = b) (k : O8 r) : O8 ((a, b) :: r) := ⟨h, k⟩
abbrev qzE (e : d8) : d8 := d8.mk e.kind e.value e.kids
abbrev qzS (s : c8) : c8 := c8.mk s.kind s.target (d8.mk s.index.kind s.index.value s.index.kids) (d8.mk s.value.kind s.value.value s.value.kids) s.count s.body s.els
def kL (P : Program) (N m : Nat) (l : List Oper) (H : Q8) (tm : List (Nat × AV)) (S : List It) (js : List Nat) (S1 : List It) (t1 : List (Nat × AV)) := ((T8 P dkP N l H l 0 tm (o5 S) S.length).isSome && ae1 m js S1 t1, aV2 (T8 P dkP N l H l 0 tm (o5 S) S.length) js (t1.map (·.1)))
def kR (P : Program) (N : Nat) (l : List Oper) (H : Q8) (tm : List (Nat × AV)) (S : List It) (o : List Prop) (js : List Nat) (S1 : List It) (t1 : List (Nat × AV)) := (true, a45 (T8 P dkP N l H l 0 tm (o5 S) S.length) o js S1 t1)
def kM (P : Program) (N m : Nat) (l : List Oper) (H : Q8) (ms : List Nat) (tm : List (Nat × AV)) (S : List It) (js : List Nat) (S1 : List It) (t1 : List (Nat × AV)) := (be4 l ms S.length (o5 S) (T8 P dkP N l H l 0 tm (o5 S) S.length) && ae1 m js S1 t1, aV2 (T8 P dkP N l H l 0 tm (o5 S) S.length) js (t1.map (·.1)))
theorem J8 {P : Program} {c : l0} {fn : Func} {code : Code} (N : Nat) (hf : P.funcs[c.f]? = some fn) (S : List It) (tm : List (Nat × AV)) (k : ∀ {ι : Type} {φ ψ : Nat → Prop} {w0 w : World} {F : ι → Rs} {ρ0 ρ : Nat → Value} {a : Act}, t7 φ ψ w0 F N c.pre.length ρ0 ρ S tm a w → code.wp P (bodyPost P fn (a07 φ ψ w0 F ρ0 c)) a w) (hb : fn.body = some code := by rfl) (hN : (fn.ntmps, c.pre, aD6 0 c.args) = (N, S, tm) := by kernel_rfl) (hw : (wfB c.pre (aD6 0 c.args) && decide (c.args.length ≤ N)) = true := by kernel_rfl) : c.ok P := by
 simp only [Prod.mk.injEq] at hN
 obtain ⟨h1, h2, h3⟩ := hN
 exact bp6 N hf hb h1 hw fun φ ψ w0 w F ρ0 ρ a G => k (ρ := ρ) (G.as S tm h2 h3)
def aT (x y : List (Nat × AV)) : List (Nat × AV) := x ++ y.filter fun p => !(x.any fun q => natEq q.1 p.1)
def HH (P : Program) (H : Q8) : Prop := (∀ i c τ, K7 H.calls i = some (c, τ) → c.ok P) ∧ O8 H.facts
theorem e6 {P : Program} : HH P ⟨[], [], []⟩ := ⟨ah3, b84⟩
theorem v5 {P : Program} {c : l0} (i : Nat) (σ : List Nat) (h : c.ok P) : HH P ⟨[(i, c, σ)], [], []⟩ := ⟨aC8 h ah3, b84⟩
theorem J3 {P : Program} {f : List (Bool × Bool)} (h : O8 f) (u : List (Nat × Nat)) : HH P ⟨[], f, u⟩ := ⟨ah3, h⟩
def Cs (P : Program) (r : List (Nat × l0 × List Nat)) : Prop := ∀ i c τ, K7 r i = some (c, τ) → c.ok P
theorem T3 {P : Program} : Cs P [] := ah3
theorem F9 {P : Program} {c : l0} {r : List (Nat × l0 × List Nat)} (i : Nat) (σ : List Nat) (h : c.ok P) (k : Cs P r) : Cs P ((i, c, σ) :: r) := aC8 h k
theorem T4 {P : Program} {r : List (Nat × l0 × List Nat)} {f : List (Bool × Bool)} (h : Cs P r) (h' : O8 f) (u : List (Nat × Nat)) : HH P ⟨r, f, u⟩ := ⟨h, h'⟩
section
variable {ι : Type} {P : Program} {φ ψ : Nat → Prop} {w0 w : World} {F : ι → Rs} {N m : Nat} {ρ0 ρ : Nat → Value} {S : List It} {tm : List (Nat × AV)} {a : Act} {l : List Oper} {id : Nat} {Q : Exit → Act → World → Prop} {H : Q8}
theorem K6 (G : t7 φ ψ w0 F N m ρ0 ρ S tm a w) (hh : HH P H) (js : List Nat) (S1 : List It) (t1 : List (Nat × AV)) (o : List Prop) (ho : t8 o) (k : ∀ {ρ' a' w'}, t7 φ ψ w0 F N m ρ0 ρ' S1 t1 a' w' → Q .normal a' w') (h : kL P N m l H tm S js S1 t1 = kR P N l H tm S o js S1 t1 := by kernel_rfl) : (Code.region id l.toArray false).wp P Q a w := rs1 (dk := dkP) G H hh.1 hh.2 js S1 t1 o ho (fun _ _ _ => k) (congrArg Prod.fst h) (congrArg Prod.snd h)
theorem i9 (G : t7 φ ψ w0 F N m ρ0 ρ S tm a w) (hh : HH P H) (js : List Nat) (S1 : List It) (t1 : List (Nat × AV)) (k : ∀ {ρ' a' w'}, t7 φ ψ w0 F N m ρ0 ρ' S1 t1 a' w' → Q .normal a' w') (h : kL P N m l H tm S js S1 t1 = kR P N l H tm S [] js S1 t1 := by kernel_rfl) : (Code.region id l.toArray false).wp P Q a w := K6 G hh js S1 t1 [] b84 k h
theorem rB1 (G : t7 φ ψ w0 F N m ρ0 ρ S tm a w) (hh : HH P H) (t1 : List (Nat × AV)) (o : List Prop) (ho : t8 o) (k : ∀ {ρ' a' w'}, t7 φ ψ w0 F N m ρ0 ρ' S t1 a' w' → Q .normal a' w') (h : kL P N m l H tm S (b88 S.length) S t1 = kR P N l H tm S o (b88 S.length) S t1 := by kernel_rfl) : (Code.region id l.toArray false).wp P Q a w := rs1 (dk := dkP) G H hh.1 hh.2 (b88 S.length) S t1 o ho (fun _ _ _ => k) (congrArg Prod.fst h) (congrArg Prod.snd h)
theorem G9 (G : t7 φ ψ w0 F N m ρ0 ρ S tm a w) (hh : HH P H) (t1 : List (Nat × AV)) (k : ∀ {ρ' a' w'}, t7 φ ψ w0 F N m ρ0 ρ' S t1 a' w' → Q .normal a' w') (h : kL P N m l H tm S (b88 S.length) S t1 = kR P N l H tm S [] (b88 S.length) S t1 := by kernel_rfl) : (Code.region id l.toArray false).wp P Q a w := rB1 G hh t1 [] b84 k h
theorem D0 (G : t7 φ ψ w0 F N m ρ0 ρ S tm a w) (hh : HH P H) (t1 : List (Nat × AV)) (o : List Prop) (ho : t8 o) (k : ∀ {ρ' a' w'}, t7 φ ψ w0 F N m ρ0 ρ' S (aT t1 tm) a' w' → Q .normal a' w') (h : kL P N m l H tm S (b88 S.length) S (aT t1 tm) = kR P N l H tm S o (b88 S.length) S (aT t1 tm) := by kernel_rfl) : (Code.region id l.toArray false).wp P Q a w := rs1 (dk := dkP) G H hh.1 hh.2 (b88 S.length) S (aT t1 tm) o ho (fun _ _ _ => k) (congrArg Prod.fst h) (congrArg Prod.snd h)
theorem l6 (G : t7 φ ψ w0 F N m ρ0 ρ S tm a w) (hh : HH P H) (t1 : List (Nat × AV)) (k : ∀ {ρ' a' w'}, t7 φ ψ w0 F N m ρ0 ρ' S (aT t1 tm) a' w' → Q .normal a' w') (h : kL P N m l H tm S (b88 S.length) S (aT t1 tm) = kR P N l H tm S [] (b88 S.length) S (aT t1 tm) := by kernel_rfl) : (Code.region id l.toArray false).wp P Q a w := D0 G hh t1 [] b84 k h
theorem H5 (G : t7 φ ψ w0 F N m ρ0 ρ S tm a w) (hh : HH P H) (ms : List Nat) (js : List Nat) (S1 : List It) (t1 : List (Nat × AV)) (o : List Prop) (ho : t8 o) (k : ∀ {ρ' a' w'}, t7 φ ψ w0 F N m ρ0 ρ' S1 t1 a' w' → Q .normal a' w') (hm : P.follows .mixedOrders = true := by kernel_rfl) (h : kM P N m l H ms tm S js S1 t1 = kR P N l H tm S o js S1 t1 := by kernel_rfl) : (Code.region id l.toArray true).wp P Q a w := rd1 (dk := dkP) G H hh.1 hh.2 ms js S1 t1 o ho (fun _ _ _ => k) hm (congrArg Prod.fst h) (congrArg Prod.snd h)
theorem bq4 (G : t7 φ ψ w0 F N m ρ0 ρ S tm a w) (hh : HH P H) (ms : List Nat) (js : List Nat) (S1 : List It) (t1 : List (Nat × AV)) (k : ∀ {ρ' a' w'}, t7 φ ψ w0 F N m ρ0 ρ' S1 t1 a' w' → Q .normal a' w') (hm : P.follows .mixedOrders = true := by kernel_rfl) (h : kM P N m l H ms tm S js S1 t1 = kR P N l H tm S [] js S1 t1 := by kernel_rfl) : (Code.region id l.toArray true).wp P Q a w := H5 G hh ms js S1 t1 [] b84 k hm h
theorem bg5 (G : t7 φ ψ w0 F N m ρ0 ρ S tm a w) (hh : HH P H) (ms : List Nat) (t1 : List (Nat × AV)) (o : List Prop) (ho : t8 o) (k : ∀ {ρ' a' w'}, t7 φ ψ w0 F N m ρ0 ρ' S (aT t1 tm) a' w' → Q .normal a' w') (hm : P.follows .mixedOrders = true := by kernel_rfl) (h : kM P N m l H ms tm S (b88 S.length) S (aT t1 tm) = kR P N l H tm S o (b88 S.length) S (aT t1 tm) := by kernel_rfl) : (Code.region id l.toArray true).wp P Q a w := rd1 (dk := dkP) G H hh.1 hh.2 ms (b88 S.length) S (aT t1 tm) o ho (fun _ _ _ => k) hm (congrArg Prod.fst h) (congrArg Prod.snd h)
theorem bC5 (G : t7 φ ψ w0 F N m ρ0 ρ S tm a w) (hh : HH P H) (ms : List Nat) (t1 : List (Nat × AV)) (k : ∀ {ρ' a' w'}, t7 φ ψ w0 F N m ρ0 ρ' S (aT t1 tm) a' w' → Q .normal a' w') (hm : P.follows .mixedOrders = true := by kernel_rfl) (h : kM P N m l H ms tm S (b88 S.length) S (aT t1 tm) = kR P N l H tm S [] (b88 S.length) S (aT t1 tm) := by kernel_rfl) : (Code.region id l.toArray true).wp P Q a w := bg5 G hh ms t1 [] b84 k hm h
variable {c : Nat} {x y : Code}
theorem rcB {b : Bool} (G : t7 φ ψ w0 F N m ρ0 ρ S tm a w) (f : b = false → y.wp P Q a w) (t : b = true → x.wp P Q a w) (h : A2 tm c = some (.v (.bool b)) := by rfl) : (Code.cond (.tmp c) x y).wp P Q a w := ag1 G b h t f
theorem P0 {α : Type} [BEq α] [LawfulBEq α] {u v : α} (G : t7 φ ψ w0 F N m ρ0 ρ S tm a w) (f : (u == v) = false → u ≠ v → y.wp P Q a w) (t : (u == v) = true → u = v → x.wp P Q a w) (h : A2 tm c = some (.v (.bool (u == v))) := by rfl) : (Code.cond (.tmp c) x y).wp P Q a w := ag1 G _ h (fun q => t q (eq_of_beq q)) fun q => f q (ne_of_beq_false q)
theorem rcN {α : Type} [BEq α] [LawfulBEq α] {u v : α} (G : t7 φ ψ w0 F N m ρ0 ρ S tm a w) (f : (u != v) = false → u = v → y.wp P Q a w) (t : (u != v) = true → u ≠ v → x.wp P Q a w) (h : A2 tm c = some (.v (.bool (u != v))) := by rfl) : (Code.cond (.tmp c) x y).wp P Q a w := ag1 G _ h (fun q => t q (bne_iff_ne.1 q)) fun q => f q (bne_eq_false_iff_eq.1 q)
theorem rcD {p : Prop} [Decidable p] (G : t7 φ ψ w0 F N m ρ0 ρ S tm a w) (f : decide p = false → ¬ p → y.wp P Q a w) (t : decide p = true → p → x.wp P Q a w) (h : A2 tm c = some (.v (.bool (decide p))) := by rfl) : (Code.cond (.tmp c) x y).wp P Q a w := ag1 G _ h (fun q => t q (Z2 q)) fun q => f q (Z3 q)
end
section
variable {P : Program} {f : FuncId}
theorem aj8 {args : List AV} {S : List It} {x : Value} (h : ∀ (φ : Nat → Prop) (w : World) (ρ : Nat → Value), (∀ i d, o5 S i = .dat d → RD w φ d (ρ i)) → Calls P f (AV.vals ρ args).toArray w fun e w' => e = .returned x ∧ Below w.heap.size w w') : l0.ok P (Z1 f args S (.v x)) := by
 intro ι φ ψ w0 w F ρ M
 refine (h (W6 φ (l7 F ρ (o5 S))) w ρ fun i d hi => M.datAt hi).mono ?_
 rintro e w' ⟨rfl, hb⟩
 exact ⟨ρ, fun _ _ => rfl, rfl, M.call hb⟩
end
theorem aY9 (n lo hi : Int) : l0.ok Tryz.prog (Z1 34 [iA n, iA lo, iA hi] [] (bA (decide (lo ≤ n) && decide (n ≤ hi)))) :=
 aj8 fun φ w ρ _ => (C8 n lo hi w).mono fun e w' h => ⟨h.1, h.2 ▸ Below.refl _ _⟩
theorem aq6 (p : j9) : l0.ok Tryz.prog (Z1 54 [pA 0] (pS p) (bA (E7 p.vars p.arrays))) :=
 aj8 fun φ w ρ h => am2 (ρ 0) (ρ 1) (ρ 2) _ _ w (m6.row (h 0 _ rfl)) (m6.row (h 1 _ rfl))
mutual
theorem bU6 : ∀ s : c8, nS s ≤ 1 + szS s
 | ⟨_, _, _, _, _, b, e⟩ => by
  have h1 := aM5 b
  have h2 := aM5 e
  simp only [nS, szS]; omega
theorem aM5 : ∀ ss : List c8, nSs ss ≤ t9 ss
 | [] => b76 _
 | s :: r => by
  have h1 := bU6 s
  have h2 := aM5 r
  simp only [nSs, t9]; omega
end
theorem aA0 (a b : List c8) : nSs (a ++ b) = nSs a + nSs b := by
 induction a with
 | nil => simp [nSs]
 | cons x r ih => simp [nSs, ih]; omega
theorem aM6 (s : c8) : nS s = 1 + nSs s.body + nSs s.els := by cases s; simp only [nS]; rfl
theorem aa8 {nv na d : Nat} {s : c8} (h : m8 nv na (d + 1) s = true) : s.body.all (m8 nv na d) = true ∧ s.els.all (m8 nv na d) = true := by
 rw [m8, b73] at h
 obtain ⟨h1, h2⟩ := h
 unfold o6 at h1
 by_cases k3 : s.kind = 3
 ·rw [if_neg (by omega), if_neg (by omega), if_pos k3] at h2
  simp only [b73] at h2
  exact ⟨h2.1.2, h2.2⟩
 by_cases k4 : s.kind = 4
 ·rw [if_neg (by omega), if_neg (by omega), if_neg (by omega), if_pos k4] at h2
  rw [if_pos (.inr k4), if_pos k4] at h1
  simp only [b73, decide_eq_true_eq] at h1
  exact ⟨h2, by rw [b96 h1.2.1.1.1.1]; rfl⟩
 ·rw [if_neg (by omega)] at h1
  simp only [b73, decide_eq_true_eq] at h1
  exact ⟨by rw [b96 h1.1.1.1]; rfl, by rw [b96 h1.1.1.2]; rfl⟩
theorem aH2 (s : c8) : t9 s.body ≤ szS s ∧ t9 s.els ≤ szS s := by
 rcases s with ⟨_, _, _, _, _, b, e⟩
 simp only [szS, c8.body, c8.els]
 omega
theorem aX4 {nv na : Nat} : ∀ {ss : List c8}, (∀ s ∈ ss, m8 nv na 1 s = true) → nSs ss = ss.length
 | [], _ => rfl
 | s :: r, h => by
  have h1 := aa8 (h s ca7)
  have key : ∀ l : List c8, l.all (m8 nv na 0) = true → l = [] := fun l hl => by
   cases l with
   | nil => rfl
   | cons a r => simp [m8] at hl
  have h2 := aX4 (ss := r) fun x hx => h x (ca6 _ hx)
  rw [nSs, aM6, key _ h1.1, key _ h1.2, h2]
  simp [nSs]; omega
def by5 (x y : Int) : Int := IntKind.i64.wrap ((BitVec.ofInt (IntKind.bits .i64) x &&& BitVec.ofInt (IntKind.bits .i64) y).toNat : Int)
def a11 (x y : Int) : Int := IntKind.i64.wrap ((BitVec.ofInt (IntKind.bits .i64) x ^^^ BitVec.ofInt (IntKind.bits .i64) y).toNat : Int)
theorem l0.dup {P : Program} {f : FuncId} {args args' : List AV} {S S' : List It} {d : D} {res : AV} {i : Nat} (hc : l0.ok P ⟨f, args, S ++ [.dat d], S' ++ [.dat d], res⟩) (hi : S[i]? = some (.dat d)) (hl : S'.length = S.length)
  (hS : S.all (fun x => aa0 S.length x.ids) = true) (ha : ∀ ρ : Nat → Value, ρ S.length = ρ i → AV.vals ρ args = AV.vals ρ args') (hg : aa0 S.length (AV.idsL args') = true) : l0.ok P ⟨f, args', S, S', res⟩ := by
 intro ι φ ψ w0 w F ρ M
 have hi' : o5 S i = .dat d := by simp [o5, hi]
 have hlt : i < S.length := (b77.1 hi).1
 have hinv : Inv (o5 S) ρ [S.length] := fun ρ' h j => by
  by_cases hj : j < S.length
  ·refine It.res_congr _ (fun k hk => h k ?_) (.inr (.inr (h j (by simp; omega))))
   have h1 := I2 (b80.1 hS (S[j]) (b91 hj)) k (by simpa [o5, b75, b72 hj] using hk)
   simp; omega
  ·rw [show o5 S j = .none by simp only [o5, b75, b98 (Nat.le_of_not_lt hj)]; rfl]; rfl
 obtain ⟨ρ', h1, M1, h2⟩ := M.newDat (id := S.length) (by simp [o5]) hinv (M.datAt hi')
 have e : m7 (o5 S) [(S.length, .dat d)] = o5 (S ++ [.dat d]) := by
  funext j
  simp only [m7, o5, b75]
  by_cases hj : j = S.length
  ·subst hj; simp
  ·rw [if_neg hj]
   by_cases hj2 : j < S.length
   ·rw [b99 hj2]
   ·rw [b98 (by omega), b98 (by simp; omega)]
 rw [e] at M1
 have hρ : ρ' i = ρ i := h1 i (by simp; omega)
 have ea : AV.vals ρ args' = AV.vals ρ' args := by
  rw [ha ρ' (by rw [← h2, hρ])]
  exact (AV.vals_congr _ fun k hk => by
   have := I2 hg k hk
   exact h1 k (by simp; omega)).symm
 simp only
 rw [ea]
 refine (hc ι φ ψ w0 w F ρ' M1).mono ?_
 rintro x w' ⟨ρ2, g1, g2, M2⟩
 refine ⟨ρ2, fun k hk => ?_, g2, ?_⟩
 ·rw [g1 k (by simp; omega)]; exact h1 k (by simp; omega)
 ·refine M2.map (fun k => match k with | .inl i => some (.inl i) | .inr j => if j < S'.length then some (.inr j) else none) ?_ ?_
  ·intro k k' x h1 h2
   match k, k' with
   | .inl i, .inl i' => simp at h1 h2; rw [h1, h2]
   | .inl i, .inr j => simp at h1; subst h1; simp at h2
   | .inr j, .inl i => simp at h2; subst h2; simp at h1
   | .inr j, .inr j' => simp at h1 h2; rw [← h1.2] at h2; rw [Sum.inr.inj h2.2]
  ·intro k
   match k with
   | .inl i => exact .inl ⟨.inl i, rfl, rfl⟩
   | .inr j =>
    by_cases hj : j < S'.length
    ·refine .inl ⟨.inr j, by simp [hj], ?_⟩
     simp only [l7, o5, b75, b99 hj]
    ·refine .inr ?_
     simp only [l7, o5, b75, b98 (Nat.le_of_not_lt hj)]
     rfl
def pkX (b : List UInt8) (k : Int) : Int := ((b.getD (k.tmod b.length).toNat 0).toNat : Int) * 131 + ((b.getD ((k * 7 + 3).tmod b.length).toNat 0).toNat : Int) * 1117 + k * 29 + k.tdiv b.length * 53
def pk (b : List UInt8) (k n : Int) : Int :=
 if n < 1 ∨ b.length = 0 then 0 else if k < b.length then ((b.getD k.toNat 0).toNat : Int).tmod n else (a11 (pkX b k) ((pkX b k).tdiv 64)).tmod n
def nm (b : List UInt8) (k : Int) (l : List Int) : Int := l.getD (pk b k l.length).toNat 0
theorem bz0 {x y : Int} (hx : 0 ≤ x) (hx2 : x < 9223372036854775808) (hy : 0 ≤ y) (hy2 : y < 9223372036854775808) : 0 ≤ a11 x y := by
 obtain ⟨a, rfl⟩ := Int.eq_ofNat_of_zero_le hx
 obtain ⟨c, rfl⟩ := Int.eq_ofNat_of_zero_le hy
 have ha : a < 2 ^ 63 := by omega
 have hc : c < 2 ^ 63 := by omega
 have h : (BitVec.ofInt (IntKind.bits .i64) (a : Int) ^^^ BitVec.ofInt (IntKind.bits .i64) (c : Int)).toNat < 2 ^ 63 := by
  rw [BitVec.toNat_xor]
  refine Nat.xor_lt_two_pow ?_ ?_
  ·simp only [BitVec.ofInt_natCast, BitVec.toNat_ofNat, IntKind.bits]; omega
  ·simp only [BitVec.ofInt_natCast, BitVec.toNat_ofNat, IntKind.bits]; omega
 unfold a11
 generalize (BitVec.ofInt (IntKind.bits .i64) (a : Int) ^^^ BitVec.ofInt (IntKind.bits .i64) (c : Int)).toNat = z at h ⊢
 rw [w64 (by omega) (by omega)]
 omega
theorem aS2 (x : UInt8) : ((x.toNat : Nat) : Int) ≤ 255 := by have := x.toNat_lt; omega
theorem aS6 {k n : Int} (hk : 0 ≤ k) (hn : 1 ≤ n) : 0 ≤ k.tdiv n ∧ k.tdiv n ≤ k := by
 refine ⟨Int.tdiv_nonneg hk (by omega), ?_⟩
 rw [Int.tdiv_eq_ediv_of_nonneg hk]
 exact Int.ediv_le_self _ hk
theorem aV1 {b : List UInt8} {k : Int} (hk : 0 ≤ k) (hk2 : k ≤ 1000000000) (hb : b.length ≠ 0) : 0 ≤ pkX b k ∧ pkX b k ≤ 100000000000 := by
 unfold pkX
 have h1 := aS2 (b.getD (k.tmod b.length).toNat 0)
 have h2 := aS2 (b.getD ((k * 7 + 3).tmod b.length).toNat 0)
 have h3 := aS6 (n := b.length) hk (by omega)
 omega
theorem a17 {x n : Int} (hx : 0 ≤ x) (hn : 1 ≤ n) : 0 ≤ x.tmod n ∧ x.tmod n < n := ⟨Int.tmod_nonneg _ hx, Int.tmod_lt_of_pos _ (by omega)⟩
theorem bJ1 {b : List UInt8} {k : Int} (hk : 0 ≤ k) (hk2 : k ≤ 1000000000) (hb : b.length ≠ 0) : 0 ≤ (pkX b k).tdiv 64 ∧ (pkX b k).tdiv 64 ≤ 100000000000 := by
 have h := aV1 hk hk2 hb
 have h2 := aS6 (n := 64) h.1 (by omega)
 omega
theorem bD5 (b : List UInt8) {k n : Int} (hk : 0 ≤ k) (hk2 : k ≤ 1000000000) (hn : 1 ≤ n) : 0 ≤ pk b k n ∧ pk b k n < n := by
 unfold pk
 split
 ·omega
 ·split
  ·exact a17 (by omega) hn
  ·have h := aV1 hk hk2 (show b.length ≠ 0 by omega)
   have h2 := bJ1 hk hk2 (show b.length ≠ 0 by omega)
   exact a17 (bz0 h.1 (by omega) h2.1 (by omega)) hn
theorem bd1 (b : List UInt8) {k : Int} (hk : 0 ≤ k) (hk2 : k ≤ 1000000000) {l : List Int} (hl : l ≠ []) : 0 ≤ pk b k l.length ∧ pk b k l.length < l.length ∧ (pk b k l.length).toNat < l.length := by
 have h0 : 0 < l.length := List.length_pos_iff.2 hl
 have h := bD5 b (n := l.length) hk hk2 (by omega)
 omega
theorem aj9 (b : List UInt8) {k : Int} (hk : 0 ≤ k) (hk2 : k ≤ 1000000000) {l : List Int} (hl : l ≠ []) : nm b k l ∈ l := by
 unfold nm
 rw [r7 (bd1 b hk hk2 hl).2.2]
 exact b91 _
def G5 {α : Type} (f : Int → α × Int) : Nat → Int → List α × Int
 | 0, k => ([], k)
 | n + 1, k => ((G5 f n k).1 ++ [(f (G5 f n k).2).1], (f (G5 f n k).2).2)
theorem aO9 {α : Type} (f : Int → α × Int) (n : Nat) (k : Int) : (G5 f n k).1.length = n := by
 induction n with
 | zero => rfl
 | succ n ih => simp [G5, ih]
theorem bv4 {α : Type} {f : Int → α × Int} {c : Int} (hc : 0 ≤ c) {m : Nat} : ∀ (n : Nat) (k : Int), n ≤ m → (∀ j, k ≤ j → j ≤ k + m * c → j ≤ (f j).2 ∧ (f j).2 ≤ j + c) → k ≤ (G5 f n k).2 ∧ (G5 f n k).2 ≤ k + n * c := by
 intro n
 induction n with
 | zero => intro k _ _; simp [G5]
 | succ n ih =>
  intro k hm h
  have h1 := ih k (by omega) h
  have e : ((n + 1 : Nat) : Int) * c = n * c + c := by rw [Int.natCast_add, Int.add_mul]; simp
  have h3 : ((n + 1 : Nat) : Int) * c ≤ m * c := cb6 (by omega) hc
  have h2 := h (G5 f n k).2 h1.1 (by omega)
  simp only [G5]
  rw [e]
  omega
theorem bF8 {α : Type} {f : Int → α × Int} {Q : α → Prop} (h : ∀ j, Q (f j).1) (n : Nat) (k : Int) : ∀ x ∈ (G5 f n k).1, Q x := by
 induction n with
 | zero => intro x hx; cases hx
 | succ n ih =>
  intro x hx
  simp only [G5, b87, b94] at hx
  rcases hx with hx | rfl
  ·exact ih x hx
  ·exact h _
abbrev atL : List Int := [1] ++ ([0] ++ ([2] ++ ([3] ++ ([255] ++ ([7] ++ ([128] ++ []))))))
def n9 (b : List UInt8) (nv : Int) (k : Int) : d8 := if pk b k 3 = 0 then ⟨1, nm b (k + 1) atL, []⟩ else ⟨2, pk b (k + 1) nv, []⟩
abbrev N3 : List Int := [4] ++ ([10] ++ ([8] ++ ([9] ++ ([3] ++ ([6] ++ ([7] ++ ([5] ++ ([11] ++ []))))))))
def K8 (b : List UInt8) (nv na : Int) : Nat → Int → d8 × Int
 | 0, k => (n9 b nv k, k + 2)
 | d + 1, k => if d = 0 then (n9 b nv k, k + 2) else if pk b k 4 = 0 then (n9 b nv (k + 1), k + 3)
  else if nm b (k + 1) N3 = 3 then (if na = 0 then (n9 b nv (k + 2), k + 4) else (⟨3, pk b (k + 2) na, [n9 b nv (k + 3)]⟩, k + 5))
  else (⟨nm b (k + 1) N3, 0, (G5 (K8 b nv na d) (t5 (nm b (k + 1) N3)).toNat (k + 2)).1⟩, (G5 (K8 b nv na d) (t5 (nm b (k + 1) N3)).toNat (k + 2)).2)
def cE : Nat → Int
 | 0 => 2
 | d + 1 => 5 + 3 * cE d
theorem aD3 (d : Nat) : 2 ≤ cE d := by
 induction d with
 | zero => exact Int.le_refl _
 | succ d ih => simp only [cE]; omega
theorem ar3 (k : Int) : (t5 k).toNat ≤ 3 := by unfold t5; (repeat' split) <;> decide
theorem aY3 (b : List UInt8) (nv na : Int) : ∀ (d : Nat) (k : Int), k ≤ (K8 b nv na d k).2 ∧ (K8 b nv na d k).2 ≤ k + cE d
 | 0, k => by simp only [K8, cE]; omega
 | d + 1, k => by
  have hc := aD3 d
  rw [K8]
  simp only [cE]
  split
  ·simp only; omega
  ·split
   ·simp only; omega
   ·split
    ·split <;> (simp only; omega)
    ·have h3 := ar3 (nm b (k + 1) N3)
     have h := bv4 (f := K8 b nv na d) (c := cE d) (m := 3) (by omega) (t5 (nm b (k + 1) N3)).toNat (k + 2) h3 fun j _ _ => aY3 b nv na d j
     have h4 : ((t5 (nm b (k + 1) N3)).toNat : Int) * cE d ≤ 3 * cE d := cb6 (by omega) (by omega)
     simp only
     omega
theorem ba6 {c : Nat} : ∀ {l : List d8}, (∀ x ∈ l, S4 x ≤ c) → P1 l ≤ l.length * (1 + c)
 | [], _ => b92 _
 | e :: r, h => by
  have h1 := h e (ca7 ..)
  have h2 := ba6 (l := r) fun x hx => h x (ca6 _ hx)
  simp only [P1, b79]
  rw [Nat.add_mul]
  omega
theorem bv5 (b : List UInt8) (nv na : Int) : ∀ (d : Nat) (k : Int), (S4 (K8 b nv na d k).1 : Int) ≤ cE d
 | 0, k => by
  simp only [K8, cE, n9]
  split <;> simp [S4, P1]
 | d + 1, k => by
  have hc := aD3 d
  have ha : ∀ j, S4 (n9 b nv j) = 0 := fun j => by unfold n9; split <;> rfl
  rw [K8]
  simp only [cE]
  split
  ·simp only [ha]; omega
  ·split
   ·simp only [ha]; omega
   ·split
    ·split
     ·simp only [ha]; omega
     ·simp only [S4, P1, ha]; omega
    ·have h3 := ar3 (nm b (k + 1) N3)
     have h1 := bF8 (f := K8 b nv na d) (Q := fun x => S4 x ≤ (cE d).toNat) (fun j => by have := bv5 b nv na d j; omega) (t5 (nm b (k + 1) N3)).toNat (k + 2)
     have h2 := ba6 h1
     rw [aO9] at h2
     simp only [S4]
     have h4 := ca8 (1 + (cE d).toNat) h3
     omega
abbrev dpL : List Int := [2] ++ ([3] ++ ([2] ++ ([1] ++ ([4] ++ []))))
def w6 (b : List UInt8) (nv na : Nat) (k : Int) : d8 × Int :=
 if t0 nv na (K8 b nv na (nm b k dpL).toNat (k + 1)).1 = true then K8 b nv na (nm b k dpL).toNat (k + 1)
 else (n9 b nv (K8 b nv na (nm b k dpL).toNat (k + 1)).2, (K8 b nv na (nm b k dpL).toNat (k + 1)).2 + 2)
theorem cE4 {d : Nat} (h : d ≤ 4) : cE d ≤ 364 := by
 match d, h with
 | 0, _ => decide
 | 1, _ => decide
 | 2, _ => decide
 | 3, _ => decide
 | 4, _ => decide
theorem dp4 (b : List UInt8) {k : Int} (hk : 0 ≤ k) (hk2 : k ≤ 1000000000) : 1 ≤ nm b k dpL ∧ nm b k dpL ≤ 4 ∧ (nm b k dpL).toNat ≤ 4 := by
 have h := aj9 b hk hk2 (l := dpL) (by simp)
 simp only [b87, ca4, List.not_mem_nil, or_false] at h
 omega
theorem bP5 (b : List UInt8) {k : Int} (hk : 0 ≤ k) (hk2 : k ≤ 1000000000) : nm b k dpL = ((nm b k dpL).toNat : Int) := by have := dp4 b hk hk2; omega
theorem bb2 (b : List UInt8) (nv na : Nat) {k : Int} (hk : 0 ≤ k) (hk2 : k ≤ 1000000000) : k ≤ (w6 b nv na k).2 ∧ (w6 b nv na k).2 ≤ k + 367 := by
 have h := aY3 b nv na (nm b k dpL).toNat (k + 1)
 have h2 := cE4 (dp4 b hk hk2).2.2
 unfold w6
 split
 ·omega
 ·simp only; omega
theorem aZ8 (b : List UInt8) (nv j : Int) : S4 (n9 b nv j) = 0 := by unfold n9; split <;> rfl
theorem a25 (b : List UInt8) (nv na : Nat) {k : Int} (hk : 0 ≤ k) (hk2 : k ≤ 1000000000) : S4 (w6 b nv na k).1 ≤ 364 := by
 have h := bv5 b nv na (nm b k dpL).toNat (k + 1)
 have h2 := cE4 (dp4 b hk hk2).2.2
 unfold w6
 split
 ·omega
 ·rw [aZ8]; omega
abbrev noE : d8 := ⟨0, 0, []⟩
abbrev J7 : List Int := [1] ++ ([1] ++ ([2] ++ ([3] ++ ([4] ++ ([1] ++ ([3] ++ ([5] ++ [])))))))
abbrev ibL : List Int := [1] ++ ([2] ++ ([1] ++ ([0] ++ [])))
abbrev ieL : List Int := [0] ++ ([1] ++ ([0] ++ ([2] ++ [])))
abbrev rcL : List Int := [2] ++ ([1] ++ ([3] ++ []))
abbrev rbL : List Int := [1] ++ ([2] ++ ([1] ++ []))
def dfS (b : List UInt8) (nv na : Nat) (kd k : Int) : c8 × Int := (⟨if kd = 5 then 5 else 1, pk b k nv, noE, (w6 b nv na (k + 1)).1, 0, [], []⟩, (w6 b nv na (k + 1)).2)
def soS (b : List UInt8) (nv na : Nat) (k : Int) : c8 × Int := (⟨2, pk b k na, n9 b nv (k + 1), (w6 b nv na (k + 1 + 2)).1, 0, [], []⟩, (w6 b nv na (k + 1 + 2)).2)
def mnD (b : List UInt8) (f : Int → c8 × Int) (l : List Int) (k : Int) : List c8 × Int := G5 f (nm b k l).toNat (k + 1)
def ifS (b : List UInt8) (nv na : Nat) (f : Int → c8 × Int) (k : Int) : c8 × Int :=
 (⟨3, 0, noE, (w6 b nv na k).1, 0, (mnD b f ibL (w6 b nv na k).2).1, (mnD b f ieL (mnD b f ibL (w6 b nv na k).2).2).1⟩, (mnD b f ieL (mnD b f ibL (w6 b nv na k).2).2).2)
def rpS (b : List UInt8) (f : Int → c8 × Int) (k : Int) : c8 × Int := (⟨4, 0, noE, noE, nm b k rcL, (mnD b f rbL (k + 1)).1, []⟩, (mnD b f rbL (k + 1)).2)
def C2 (b : List UInt8) (nv na : Nat) : Nat → Int → c8 × Int
 | 0, k => if nm b k J7 = 2 ∧ na ≠ 0 then soS b nv na (k + 1) else dfS b nv na (nm b k J7) (k + 1)
 | d + 1, k => if nm b k J7 = 2 ∧ na ≠ 0 then soS b nv na (k + 1) else if nm b k J7 = 3 ∧ d ≠ 0 then ifS b nv na (C2 b nv na d) (k + 1) else if nm b k J7 = 4 ∧ d ≠ 0 then rpS b (C2 b nv na d) (k + 1)
  else dfS b nv na (nm b k J7) (k + 1)
def cS : Nat → Int
 | 0 => 402
 | d + 1 => 402 + 4 * cS d
theorem at4 (d : Nat) : 402 ≤ cS d := by
 induction d with
 | zero => exact Int.le_refl _
 | succ d ih => simp only [cS]; omega
section
variable (b : List UInt8) (nv na : Nat) {k : Int}
theorem bJ6 (kd : Int) (hk : 0 ≤ k) (hk2 : k + 400 ≤ 1000000000) : k ≤ (dfS b nv na kd k).2 ∧ (dfS b nv na kd k).2 ≤ k + 368 := by
 have h := bb2 b nv na (k := k + 1) (by omega) (by omega)
 simp only [dfS]; omega
theorem bI2 (hk : 0 ≤ k) (hk2 : k + 400 ≤ 1000000000) : k ≤ (soS b nv na k).2 ∧ (soS b nv na k).2 ≤ k + 370 := by
 have h := bb2 b nv na (k := k + 1 + 2) (by omega) (by omega)
 simp only [soS]; omega
theorem nm2 {l : List Int} (hl : l ≠ []) (h : ∀ x ∈ l, 0 ≤ x ∧ x ≤ 2) (hk : 0 ≤ k) (hk2 : k ≤ 1000000000) : (nm b k l).toNat ≤ 2 ∧ nm b k l = ((nm b k l).toNat : Int) := by
 have := h _ (aj9 b hk hk2 hl); omega
theorem bs6 {f : Int → c8 × Int} {c : Int} {l : List Int} (hl : l ≠ []) (h : ∀ x ∈ l, 0 ≤ x ∧ x ≤ 2) (hc : 0 ≤ c) (hk : 0 ≤ k) (hk2 : k + 1 + 2 * c ≤ 1000000000) (hf : ∀ j, 0 ≤ j → j + c ≤ 1000000000 → j ≤ (f j).2 ∧ (f j).2 ≤ j + c) : k ≤ (mnD b f l k).2 ∧ (mnD b f l k).2 ≤ k + 1 + 2 * c := by
 have h2 := (nm2 b hl h hk (by omega)).1
 have h3 : ∀ m : Nat, m ≤ 2 → k + 1 ≤ (G5 f m (k + 1)).2 ∧ (G5 f m (k + 1)).2 ≤ k + 1 + m * c := by
  intro m
  induction m with
  | zero => intro _; simp [G5]
  | succ m ih =>
   intro hm
   have h4 := ih (by omega)
   have h6 : (m : Int) * c ≤ 1 * c := cb6 (by omega) hc
   have h5 := hf (G5 f m (k + 1)).2 (by omega) (by omega)
   have e : ((m + 1 : Nat) : Int) * c = m * c + c := by rw [Int.natCast_add, Int.add_mul]; simp
   simp only [G5]
   rw [e]
   omega
 have h4 := h3 _ h2
 have h6 : ((nm b k l).toNat : Int) * c ≤ 2 * c := cb6 (by omega) hc
 unfold mnD
 omega
theorem a63 : ∀ x : Int, x ∈ ibL → 0 ≤ x ∧ x ≤ 2 := by intro x hx; simp only [b87, ca4, List.not_mem_nil, or_false] at hx; omega
theorem a61 : ∀ x : Int, x ∈ ieL → 0 ≤ x ∧ x ≤ 2 := by intro x hx; simp only [b87, ca4, List.not_mem_nil, or_false] at hx; omega
theorem a37 : ∀ x : Int, x ∈ rbL → 0 ≤ x ∧ x ≤ 2 := by intro x hx; simp only [b87, ca4, List.not_mem_nil, or_false] at hx; omega
theorem bJ5 {f : Int → c8 × Int} {c : Int} (hc : 0 ≤ c) (hk : 0 ≤ k) (hk2 : k + 380 + 4 * c ≤ 1000000000) (hf : ∀ j, 0 ≤ j → j + c ≤ 1000000000 → j ≤ (f j).2 ∧ (f j).2 ≤ j + c) : k ≤ (w6 b nv na k).2 ∧ (w6 b nv na k).2 ≤ k + 367 ∧ (w6 b nv na k).2 ≤ (mnD b f ibL (w6 b nv na k).2).2 ∧ (mnD b f ibL (w6 b nv na k).2).2 ≤ k + 370 + 2 * c ∧ k ≤ (ifS b nv na f k).2 ∧ (ifS b nv na f k).2 ≤ k + 380 + 4 * c := by
 have h1 := bb2 b nv na (k := k) (by omega) (by omega)
 have h2 := bs6 b (k := (w6 b nv na k).2) (f := f) (c := c) (l := ibL) (by simp) a63 hc (by omega) (by omega) hf
 have h3 := bs6 b (k := (mnD b f ibL (w6 b nv na k).2).2) (f := f) (c := c) (l := ieL) (by simp) a61 hc (by omega) (by omega) hf
 simp only [ifS]
 omega
theorem bT7 {f : Int → c8 × Int} {c : Int} (hc : 0 ≤ c) (hk : 0 ≤ k) (hk2 : k + 10 + 2 * c ≤ 1000000000) (hf : ∀ j, 0 ≤ j → j + c ≤ 1000000000 → j ≤ (f j).2 ∧ (f j).2 ≤ j + c) : k ≤ (rpS b f k).2 ∧ (rpS b f k).2 ≤ k + 10 + 2 * c := by
 have h2 := bs6 b (k := k + 1) (f := f) (c := c) (l := rbL) (by simp) a37 hc (by omega) (by omega) hf
 simp only [rpS]; omega
theorem aT0 : ∀ (d : Nat) (k : Int), 0 ≤ k → k + cS d ≤ 1000000000 → k ≤ (C2 b nv na d k).2 ∧ (C2 b nv na d k).2 ≤ k + cS d
 | 0, k, hk, hk2 => by
  rw [C2]
  simp only [cS] at hk2 ⊢
  have h1 := bI2 b nv na (k := k + 1) (by omega) (by omega)
  have h2 := bJ6 b nv na (k := k + 1) (nm b k J7) (by omega) (by omega)
  split <;> omega
 | d + 1, k, hk, hk2 => by
  rw [C2]
  simp only [cS] at hk2 ⊢
  have hc := at4 d
  have ih := aT0 d
  have h1 := bI2 b nv na (k := k + 1) (by omega) (by omega)
  have h2 := bJ6 b nv na (k := k + 1) (nm b k J7) (by omega) (by omega)
  have h3 := bJ5 b nv na (k := k + 1) (f := C2 b nv na d) (c := cS d) (by omega) (by omega) (by omega) ih
  have h4 := bT7 b (k := k + 1) (f := C2 b nv na d) (c := cS d) (by omega) (by omega) (by omega) ih
  (repeat' split) <;> omega
theorem a51 : S4 noE = 0 := rfl
theorem bv6 (kd : Int) (hk : 0 ≤ k) (hk2 : k + 400 ≤ 1000000000) : szS (dfS b nv na kd k).1 ≤ 364 := by
 have h := a25 b nv na (k := k + 1) (by omega) (by omega)
 simp only [dfS, szS, t9, a51]; omega
theorem bn7 (hk : 0 ≤ k) (hk2 : k + 400 ≤ 1000000000) : szS (soS b nv na k).1 ≤ 364 := by
 have h := a25 b nv na (k := k + 1 + 2) (by omega) (by omega)
 simp only [soS, szS, t9, aZ8]; omega
def Drw (f : Int → c8 × Int) (c : Int) : Prop := ∀ j, 0 ≤ j → j + c ≤ 1000000000 → j ≤ (f j).2 ∧ (f j).2 ≤ j + c ∧ (szS (f j).1 : Int) ≤ c
theorem aO8 {f : Int → c8 × Int} {c : Int} (hc : 0 ≤ c) (hf : Drw f c) : ∀ (m : Nat) (k : Int), 0 ≤ k → k + m * c ≤ 1000000000 → k ≤ (G5 f m k).2 ∧ (G5 f m k).2 ≤ k + m * c ∧ (t9 (G5 f m k).1 : Int) ≤ m * (1 + c) := by
 intro m
 induction m with
 | zero => intro k _ _; simp [G5, t9]
 | succ m ih =>
  intro k hk hk2
  have e : ((m + 1 : Nat) : Int) * c = m * c + c := by rw [Int.natCast_add, Int.add_mul]; simp
  have e2 : ((m + 1 : Nat) : Int) * (1 + c) = m * (1 + c) + (1 + c) := by rw [Int.natCast_add, Int.add_mul]; simp
  rw [e] at hk2
  have h4 := ih k hk (by omega)
  have h5 := hf (G5 f m k).2 (by omega) (by omega)
  have h6 : t9 ((G5 f m k).1 ++ [(f (G5 f m k).2).1]) = t9 (G5 f m k).1 + (1 + szS (f (G5 f m k).2).1) := by
   generalize (G5 f m k).1 = l
   induction l with
   | nil => simp [t9]
   | cons a r ih => simp only [List.cons_append, t9]; omega
  simp only [G5]
  rw [e, e2, h6]
  omega
theorem a53 {f : Int → c8 × Int} {c : Int} {l : List Int} (hl : l ≠ []) (h : ∀ x ∈ l, 0 ≤ x ∧ x ≤ 2) (hc : 0 ≤ c) (hk : 0 ≤ k) (hk2 : k + 1 + 2 * c ≤ 1000000000) (hf : Drw f c) : (t9 (mnD b f l k).1 : Int) ≤ 2 * (1 + c) := by
 have h2 := (nm2 b hl h hk (by omega)).1
 have h6 : ((nm b k l).toNat : Int) * c ≤ 2 * c := cb6 (by omega) hc
 have h7 : ((nm b k l).toNat : Int) * (1 + c) ≤ 2 * (1 + c) := cb6 (by omega) (by omega)
 have h3 := (aO8 hc hf (nm b k l).toNat (k + 1) (by omega) (by omega)).2.2
 unfold mnD
 omega
theorem a22 : ∀ (d : Nat) (k : Int), 0 ≤ k → k + cS d ≤ 1000000000 → (szS (C2 b nv na d k).1 : Int) ≤ cS d
 | 0, k, hk, hk2 => by
  rw [C2]
  simp only [cS] at hk2 ⊢
  have h1 := bn7 b nv na (k := k + 1) (by omega) (by omega)
  have h2 := bv6 b nv na (k := k + 1) (nm b k J7) (by omega) (by omega)
  split <;> omega
 | d + 1, k, hk, hk2 => by
  rw [C2]
  simp only [cS] at hk2 ⊢
  have hc := at4 d
  have ih := aT0 b nv na d
  have hf : Drw (C2 b nv na d) (cS d) := fun j h1 h2 => ⟨(ih j h1 h2).1, (ih j h1 h2).2, a22 d j h1 h2⟩
  have h1 := bn7 b nv na (k := k + 1) (by omega) (by omega)
  have h2 := bv6 b nv na (k := k + 1) (nm b k J7) (by omega) (by omega)
  have h3 := bJ5 b nv na (k := k + 1) (f := C2 b nv na d) (c := cS d) (by omega) (by omega) (by omega) ih
  have h4 := a25 b nv na (k := k + 1) (by omega) (by omega)
  have h5 := a53 b (k := (w6 b nv na (k + 1)).2) (l := ibL) (by simp) a63 (by omega) (by omega) (by omega) hf
  have h6 := a53 b (k := (mnD b (C2 b nv na d) ibL (w6 b nv na (k + 1)).2).2) (l := ieL) (by simp) a61 (by omega) (by omega) (by omega) hf
  have h7 := a53 b (k := k + 1 + 1) (l := rbL) (by simp) a37 (by omega) (by omega) (by omega) hf
  split
  ·omega
  ·split
   ·simp only [ifS, szS, a51]; omega
   ·split
    ·simp only [rpS, szS, a51, t9]; omega
    ·omega
theorem bX1 (d : Nat) : Drw (C2 b nv na d) (cS d) := fun j h1 h2 => ⟨(aT0 b nv na d j h1 h2).1, (aT0 b nv na d j h1 h2).2, a22 b nv na d j h1 h2⟩
theorem bK2 {d m i : Nat} {B : Int} (hB : (m : Int) * cS d ≤ B) (hi : i ≤ m) (hk : 0 ≤ k) (hk2 : k + B ≤ 1000000000) : k ≤ (G5 (C2 b nv na d) i k).2 ∧ (G5 (C2 b nv na d) i k).2 ≤ k + B := by
 have hc := at4 d
 have h6 : (i : Int) * cS d ≤ m * cS d := cb6 (by omega) (by omega)
 have h := aO8 (by omega) (bX1 b nv na d) i k hk (by omega)
 omega
theorem bZ5 {d m i : Nat} {B : Int} (hB : (m : Int) * cS d ≤ B) (hi : i < m) (hk : 0 ≤ k) (hk2 : k + B ≤ 1000000000) : (G5 (C2 b nv na d) i k).2 + cS d ≤ k + B := by
 have hc := at4 d
 have h6 : ((i + 1 : Nat) : Int) * cS d ≤ m * cS d := cb6 (by omega) (by omega)
 have e : ((i + 1 : Nat) : Int) * cS d = i * cS d + cS d := by rw [Int.natCast_add, Int.add_mul]; simp
 have h := aO8 (by omega) (bX1 b nv na d) i k hk (by omega)
 omega
theorem bU7 {m : Int} {c : Int} (h0 : 0 ≤ m) (hm : m ≤ 2) (hc : 0 ≤ c) : (m.toNat : Int) * c ≤ 2 * c := cb6 (by omega) hc
theorem b44 {m : Int} {c : Int} (h0 : 0 ≤ m) (hm : m ≤ 4) (hc : 0 ≤ c) : (m.toNat : Int) * c ≤ 4 * c := cb6 (by omega) hc
end
theorem aI3 (b : List UInt8) {k : Int} {l : List Int} {m : Int} (hl : l ≠ []) (h : ∀ x ∈ l, 0 ≤ x ∧ x ≤ m) (hk : 0 ≤ k) (hk2 : k ≤ 1000000000) : 0 ≤ nm b k l ∧ nm b k l ≤ m := h _ (aj9 b hk hk2 hl)
mutual
def AV.den (t : Bool) (n : Nat) : AV → AV
 | .v x => .v x
 | .ptr a b => .ptr a b
 | .ea a b c d => .ea a b c d
 | .ref i => if !t && natEq i n then .v (.slice none 0 0) else .ref i
 | .agg l => .agg (AV.denL t n l)
 | .tup l => .tup (AV.denL t n l)
 | .fn f l => .fn f (AV.denL t n l)
 | .bm f l => .bm f (AV.denL t n l)
 | .tref i => if t && natEq i n then .v (.slice none 0 0) else .tref i
def AV.denL (t : Bool) (n : Nat) : List AV → List AV
 | [] => []
 | x :: r => x.den t n :: AV.denL t n r
end
def It.den (t : Bool) (n : Nat) : It → It
 | .box cs => .box (AV.denL t n cs)
 | x => x
mutual
theorem AV.val_den {ρ : Nat → Value} {t : Bool} {n : Nat} {z : Value} (hz : if t then D8 z = .slice none 0 0 else z = .slice none 0 0) : ∀ (x : AV), (∀ i ∈ (x.den t n).ids, i < n) → x.val (fun j => if j = n then z else ρ j) = (x.den t n).val ρ ∧ ∀ i ∈ x.ids, i < n + 1
 | .v _, _ => ⟨rfl, fun i hi => by simp [AV.ids] at hi⟩
 | .ptr a b, h => by
  have ha : a < n := h a (by simp [AV.den, AV.ids])
  refine ⟨?_, fun i hi => by simp [AV.ids] at hi; omega⟩
  simp only [AV.den, AV.val]
  rw [if_neg (by omega)]
 | .ea a b c d, h => by
  have ha : a < n := h a (by simp [AV.den, AV.ids])
  refine ⟨?_, fun i hi => by simp [AV.ids] at hi; omega⟩
  simp only [AV.den, AV.val]
  rw [if_neg (by omega)]
 | .ref a, h => by
  by_cases e : t = false ∧ a = n
  ·obtain ⟨rfl, rfl⟩ := e
   refine ⟨?_, fun i hi => by simp [AV.ids] at hi; omega⟩
   simp only [Bool.false_eq_true, if_false] at hz
   simp [AV.den, AV.val, natEq, hz]
  ·have hd : (AV.ref a).den t n = .ref a := by
    simp only [AV.den]
    rw [if_neg]
    simp [natEq]; intro h1 h2; exact e ⟨h1, h2⟩
   rw [hd] at h ⊢
   have ha : a < n := h a (by simp [AV.ids])
   refine ⟨?_, fun i hi => by simp [AV.ids] at hi; omega⟩
   simp only [AV.val]
   rw [if_neg (by omega)]
 | .tref a, h => by
  by_cases e : t = true ∧ a = n
  ·obtain ⟨rfl, rfl⟩ := e
   refine ⟨?_, fun i hi => by simp [AV.ids] at hi; omega⟩
   simp only [if_true] at hz
   simp [AV.den, AV.val, natEq, hz]
  ·have hd : (AV.tref a).den t n = .tref a := by
    simp only [AV.den]
    rw [if_neg]
    simp [natEq]; intro h1 h2; exact e ⟨h1, h2⟩
   rw [hd] at h ⊢
   have ha : a < n := h a (by simp [AV.ids])
   refine ⟨?_, fun i hi => by simp [AV.ids] at hi; omega⟩
   simp only [AV.val]
   rw [if_neg (by omega)]
 | .agg l, h => by
  obtain ⟨h1, h2⟩ := AV.vals_den hz l (by simpa [AV.den, AV.ids] using h)
  exact ⟨by simp only [AV.den, AV.val]; rw [h1], by simpa [AV.ids] using h2⟩
 | .tup l, h => by
  obtain ⟨h1, h2⟩ := AV.vals_den hz l (by simpa [AV.den, AV.ids] using h)
  exact ⟨by simp only [AV.den, AV.val]; rw [h1], by simpa [AV.ids] using h2⟩
 | .fn f l, h => by
  obtain ⟨h1, h2⟩ := AV.vals_den hz l (by simpa [AV.den, AV.ids] using h)
  exact ⟨by simp only [AV.den, AV.val]; rw [h1], by simpa [AV.ids] using h2⟩
 | .bm f l, h => by
  obtain ⟨h1, h2⟩ := AV.vals_den hz l (by simpa [AV.den, AV.ids] using h)
  exact ⟨by simp only [AV.den, AV.val]; rw [h1], by simpa [AV.ids] using h2⟩
theorem AV.vals_den {ρ : Nat → Value} {t : Bool} {n : Nat} {z : Value} (hz : if t then D8 z = .slice none 0 0 else z = .slice none 0 0) : ∀ (l : List AV), (∀ i ∈ AV.idsL (AV.denL t n l), i < n) → AV.vals (fun j => if j = n then z else ρ j) l = AV.vals ρ (AV.denL t n l) ∧ ∀ i ∈ AV.idsL l, i < n + 1
 | [], _ => ⟨rfl, fun i hi => by simp [AV.idsL] at hi⟩
 | x :: r, h => by
  obtain ⟨h1, h2⟩ := AV.val_den hz x fun i hi => h i (by simp only [AV.denL, AV.idsL, b87]; exact .inl hi)
  obtain ⟨h3, h4⟩ := AV.vals_den hz r fun i hi => h i (by simp only [AV.denL, AV.idsL, b87]; exact .inr hi)
  refine ⟨by simp only [AV.denL, AV.vals]; rw [h1, h3], fun i hi => ?_⟩
  simp only [AV.idsL, b87] at hi
  rcases hi with hi | hi
  ·exact h2 i hi
  ·exact h4 i hi
end
theorem aA6 {m : Bool} {n : Nat} {t : Nat} {x : AV} : ∀ {tm : List (Nat × AV)}, A2 tm t = some x → A2 (tm.map fun p => (p.1, p.2.den m n)) t = some (x.den m n)
 | [], h => by cases h
 | (k, y) :: r, h => by
  simp only [A2, ca1] at h ⊢
  split at h
  ·rename_i e; cases h; rw [if_pos e]
  ·rename_i e; rw [if_neg e]; exact aA6 h
section
variable {P : Program} {ι : Type} {φ ψ : Nat → Prop} {w0 w : World} {F : ι → Rs} {ρ ρ0 : Nat → Value} {N m n : Nat} {S : List It} {tm : List (Nat × AV)} {a : Act}
theorem t7.nilW (G : t7 φ ψ w0 F N m ρ0 ρ S tm a w) (n : Nat) (hn : S.length = n) (b : Bool) (x : It) (z : Value) (hz : if b then D8 z = .slice none 0 0 else z = .slice none 0 0) (hids : x.ids = []) (hb : ∀ g, ¬ (x.res (fun j => if j = n then z else ρ j) n).blk g)
  (hx : ∀ φ', (x.res (fun j => if j = n then z else ρ j) n).holds w φ') (S1 : List It) (tm1 : List (Nat × AV)) (hS : S = S1.map (It.den b n)) (ht : tm = tm1.map fun p => (p.1, p.2.den b n)) :
  ∃ ρ', t7 φ ψ w0 F N m ρ0 ρ' (S1 ++ [x]) tm1 a w := by
 have hl : S1.length = n := by rw [← hn, hS, List.length_map]
 have hat : ∀ j (hj : j < n), o5 S j = (S1[j]'(by omega)).den b n := fun j hj => by
  rw [ap6 (show j < S.length by omega)]
  have h1 := congrArg (·[j]?) hS
  simp only [List.getElem?_map, b72 (show j < S.length by omega), b72 (show j < S1.length by omega), Option.map_some, Option.some.injEq] at h1
  exact h1
 have hnew : ∀ j (hj : j < n), o5 (S1 ++ [x]) j = S1[j]'(by omega) := fun j hj => by
  simp [o5, b75, b99 (show j < S1.length by omega), b72 (show j < S1.length by omega)]
 have hlast : o5 (S1 ++ [x]) n = x := by
  simp [o5, b75, ← hl]
 have hout : ∀ j, n < j → o5 (S1 ++ [x]) j = .none := fun j hj => y8 (by simp; omega)
 have hbx : ∀ j (hj : j < n), ((S1[j]'(by omega)).res (fun j => if j = n then z else ρ j) j = (o5 S j).res ρ j) ∧ ∀ i ∈ (S1[j]'(by omega)).ids, i < n + 1 := fun j hj => by
  rw [hat j hj]
  have hb := (G.bd j).1
  rw [hat j hj, hn] at hb
  generalize S1[j]'(by omega) = x at *
  cases x with
  | box cs =>
   obtain ⟨h1, h2⟩ := AV.vals_den (ρ := ρ) (n := n) hz cs hb
   refine ⟨?_, h2⟩
   simp only [It.res, It.den]
   rw [h1, if_neg (show ¬ j = n by omega)]
  | none => exact ⟨rfl, fun i hi => by cases hi⟩
  | dead => exact ⟨rfl, fun i hi => by cases hi⟩
  | dat d' => exact ⟨by simp only [It.res, It.den]; rw [if_neg (show ¬ j = n by omega)], fun i hi => by cases hi⟩
  | row e' d' => exact ⟨by simp only [It.res, It.den]; rw [if_neg (show ¬ j = n by omega)], fun i hi => by cases hi⟩
  | tree d' => exact ⟨by simp only [It.res, It.den]; rw [if_neg (show ¬ j = n by omega)], fun i hi => by cases hi⟩
  | kept e' d' => exact ⟨by cases e' <;> (simp only [It.res, It.den]; rw [if_neg (show ¬ j = n by omega)]), fun i hi => by cases hi⟩
  | hole k q ls =>
   have hk : k < n := hb k (by simp [It.den, It.ids])
   exact ⟨by simp only [It.res, It.den]; rw [if_neg (show ¬ j = n by omega), if_neg (show ¬ k = n by omega)], fun i hi => by simp [It.ids] at hi; omega⟩
 have hw : ∀ t x, A2 tm1 t = some x → x.val (fun j => if j = n then z else ρ j) = (x.den b n).val ρ ∧ ∀ i ∈ x.ids, i < n + 1 := fun t x hx => by
  refine AV.val_den hz x fun i hi => ?_
  have h1 : A2 tm t = some (x.den b n) := by rw [ht]; exact aA6 hx
  have := G.tmi t _ h1 i hi
  omega
 refine ⟨fun j => if j = n then z else ρ j, ?_⟩
 refine ⟨G.size, G.defs, fun t x hx => ?_, fun t x hx i hi => ?_, fun j => ⟨fun i hi => ?_, fun hj => y8 hj⟩, ?_, ?_, fun i hi => ?_⟩
 ·have h1 : A2 tm t = some (x.den b n) := by rw [ht]; exact aA6 hx
  rw [(hw t x hx).1]; exact G.tmv t _ h1
 ·have := (hw t x hx).2 i hi
  simp; omega
 ·rcases Nat.lt_trichotomy j n with h | h | h
  ·rw [hnew j h] at hi
   have := (hbx j h).2 i hi
   simp; omega
  ·subst h; rw [hlast, hids] at hi; cases hi
  ·rw [hout j h] at hi; cases hi
 ·refine i7.put G.mem (.inr n) (fun k hk => ?_) (C4.refl _ _) ?_ ?_
  ·cases k with
   | inl i => rfl
   | inr j =>
    simp only [l7]
    rcases Nat.lt_trichotomy j n with h | h | h
    ·rw [hnew j h]; exact (hbx j h).1
    ·exact absurd (by rw [h]) hk
    ·rw [hout j h, y8 (show S.length ≤ j by omega)]; rfl
  ·simp only [l7, hlast]; exact hx _
  ·intro g hg
   simp only [l7, hlast] at hg
   exact absurd hg (hb g)
 ·have := G.le; simp; omega
 ·show (if i = n then _ else ρ i) = ρ0 i
  have := G.le
  rw [if_neg (by omega)]; exact G.old i hi
theorem t7.nil (G : t7 φ ψ w0 F N m ρ0 ρ S tm a w) (n : Nat) (e : TypeId) (d : D) (k : Nat) (S1 : List It) (tm1 : List (Nat × AV)) (hn : S.length = n := by kernel_rfl) (hd : D.nil k = some d := by kernel_rfl) (hS : S = S1.map (It.den false n) := by kernel_rfl) (ht : tm = tm1.map (fun p => (p.1, p.2.den false n)) := by kernel_rfl) :
  ∃ ρ', t7 φ ψ w0 F N m ρ0 ρ' (S1 ++ [.row e d]) tm1 a w := by
 have hz := D.nil_len hd
 refine G.nilW n hn false (.row e d) (.slice none 0 0) (by simp) rfl (fun g hg => ?_) (fun φ' => ?_) S1 tm1 hS ht
 ·simp only [It.res, if_true] at hg
  cases hg
 ·simp only [It.res, if_true]
  refine ⟨fun xs => RW.nice d xs, [], ?_, RW.nil hz _⟩
  rw [hz]; exact World.ownsRow_nil _ _ _ _
theorem t7.nilT (G : t7 φ ψ w0 F N m ρ0 ρ S tm a w) (n : Nat) (d : D) (S1 : List It) (tm1 : List (Nat × AV)) (hn : S.length = n := by kernel_rfl) (hd : ((ai2 d).isSome && natEq d.len 0) = true := by kernel_rfl) (hS : S = S1.map (It.den true n) := by kernel_rfl) (ht : tm = tm1.map (fun p => (p.1, p.2.den true n)) := by kernel_rfl) :
  ∃ ρ', t7 φ ψ w0 F N m ρ0 ρ' (S1 ++ [.tree d]) tm1 a w := by
 simp only [b73, natEq, beq_iff_eq] at hd
 obtain ⟨e, he⟩ := cb5.1 hd.1
 obtain ⟨z, h1, h2⟩ := ak5 (.slice none 0 0) (fun _ => False) 0 fun b h => h.elim
 refine G.nilW n hn true (.tree d) z (by simp [h1]) rfl (fun g hg => ?_) (fun φ' => ?_) S1 tm1 hS ht
 ·simp only [It.res, if_true] at hg
  exact ((h2 g).1 hg).elim
 ·simp only [It.res, if_true]
  rw [h1]
  refine ⟨fun _ _ h hs => h.same hs, ⟨e, [], fun _ => False, he, ?_, (fun g hg => by cases hg), (fun b hb => hb.elim), ?_⟩, fun b hb => ((h2 b).1 hb).elim⟩
  ·rw [hd.2]; exact World.ownsRow_nil _ _ _ _
  ·have h0 := hd.2
   cases d <;> simp only [ai2] at he <;> first | cases he | skip
   all_goals (simp only [D.len] at h0; rw [b96 h0]; rfl)
end
inductive Ln where
 | no
 | row (e : TypeId)
 | tree
def A3 (M : List Ln) (i : Nat) : Ln := M.getD i .no
def Ln.isT : Ln → Bool
 | .tree => true
 | _ => false
mutual
def AV.tr (M : List Ln) : AV → AV
 | .v x => .v x
 | .ptr a b => .ptr a b
 | .ea a b c d => .ea a b c d
 | .ref i => if (A3 M i).isT then .tref i else .ref i
 | .agg l => .agg (AV.trL M l)
 | .tup l => .tup (AV.trL M l)
 | .fn f l => .fn f (AV.trL M l)
 | .bm f l => .bm f (AV.trL M l)
 | .tref i => .tref i
def AV.trL (M : List Ln) : List AV → List AV
 | [] => []
 | x :: r => x.tr M :: AV.trL M r
end
mutual
def AV.trOk (M : List Ln) : AV → Bool
 | .v _ => true
 | .ptr a _ => !(A3 M a).isT
 | .ea a _ _ _ => !(A3 M a).isT
 | .ref _ => true
 | .agg l => AV.trOkL M l
 | .tup l => AV.trOkL M l
 | .fn _ l => AV.trOkL M l
 | .bm _ l => AV.trOkL M l
 | .tref i => !(A3 M i).isT
def AV.trOkL (M : List Ln) : List AV → Bool
 | [] => true
 | x :: r => x.trOk M && AV.trOkL M r
end
mutual
theorem AV.val_tr {ρ ρ' : Nat → Value} {M : List Ln} (h : ∀ i, ρ' i = if (A3 M i).isT then D8 (ρ i) else ρ i) : ∀ (x : AV), x.trOk M = true → (x.tr M).val ρ = x.val ρ'
 | .v _, _ => rfl
 | .ptr a _, hx => by
  simp only [AV.trOk, ca5] at hx
  simp only [AV.tr, AV.val]; rw [h a, hx]; rfl
 | .ea a _ _ _, hx => by
  simp only [AV.trOk, ca5] at hx
  simp only [AV.tr, AV.val]; rw [h a, hx]; rfl
 | .ref i, _ => by
  simp only [AV.tr]
  cases hm : (A3 M i).isT
  ·simp only [Bool.false_eq_true, if_false, AV.val]; rw [h i, hm]; rfl
  ·simp only [if_true, AV.val]; rw [h i, hm]; rfl
 | .agg l, hx => by simp only [AV.tr, AV.val]; rw [AV.vals_tr h l (by simpa [AV.trOk] using hx)]
 | .tup l, hx => by simp only [AV.tr, AV.val]; rw [AV.vals_tr h l (by simpa [AV.trOk] using hx)]
 | .fn _ l, hx => by simp only [AV.tr, AV.val]; rw [AV.vals_tr h l (by simpa [AV.trOk] using hx)]
 | .bm _ l, hx => by simp only [AV.tr, AV.val]; rw [AV.vals_tr h l (by simpa [AV.trOk] using hx)]
 | .tref i, hx => by
  simp only [AV.trOk, ca5] at hx
  simp only [AV.tr, AV.val]; rw [h i, hx]; rfl
theorem AV.vals_tr {ρ ρ' : Nat → Value} {M : List Ln} (h : ∀ i, ρ' i = if (A3 M i).isT then D8 (ρ i) else ρ i) : ∀ (l : List AV), AV.trOkL M l = true → AV.vals ρ (AV.trL M l) = AV.vals ρ' l
 | [], _ => rfl
 | x :: r, hx => by
  simp only [AV.trOkL, b73] at hx
  simp only [AV.trL, AV.vals]; rw [AV.val_tr h x hx.1, AV.vals_tr h r hx.2]
end
def A7 (M : List Ln) : Ln → It → It
 | .row e, .dat d => .row e d
 | .tree, .dat d => .tree d
 | .no, .box cs => .box (AV.trL M cs)
 | _, x => x
def T2 (M : List Ln) (S : List It) : List It := (b88 S.length).map fun i => A7 M (A3 M i) (o5 S i)
theorem V4 (M : List Ln) (S : List It) (i : Nat) : o5 (T2 M S) i = A7 M (A3 M i) (o5 S i) := by
 unfold T2
 rcases b93 i S.length with h | h
 ·conv => lhs; rw [o5, b75, List.getElem?_map, List.getElem?_range h]
  rfl
 ·rw [y8 (by simpa using h), y8 h]
  cases A3 M i <;> rfl
def aX6 : D → Bool
 | .rows _ => false
 | .brows _ => false
 | .exprs _ => false
 | .stmts _ => false
 | _ => true
theorem be0 {w w' : World} {φ φ' : Nat → Prop} {d : D} {xs : List Value} (hd : aX6 d = true) (h : RW w φ d xs) : RW w' φ' d xs := by
 intro i hi j x hx
 obtain ⟨u, h1, h2⟩ := h i hi j x hx
 refine ⟨u, h1, ?_⟩
 have : ∃ y, x = .v y := by
  have hm := b86 hx
  cases d <;> simp only [aX6, Bool.false_eq_true] at hd <;> simp [D.elem, a58, ak4] at hm
  ·exact ⟨_, hm⟩
  ·exact ⟨_, hm⟩
  ·exact ⟨_, hm⟩
  ·exact ⟨_, hm⟩
  ·rcases hm with h | h | h | h | h <;> exact ⟨_, h⟩
  ·rcases hm with h | h <;> exact ⟨_, h⟩
 obtain ⟨y, rfl⟩ := this
 exact h2
def aN1 (M : List Ln) (l : Ln) (p x : It) : Bool :=
 match l with
 | .no => match x with
  | .dat _ => (match p with | .dat _ => true | _ => false)
  | .row _ d => aX6 d
  | .box cs => AV.trOkL M cs
  | .kept _ _ => false
  | .hole _ _ _ => false
  | _ => true
 | .row _ => (match p, x with | .dat d, .dat _ => aX6 d | _, _ => false)
 | .tree => (match p, x with | .dat d, .dat _ => (ai2 d).isSome | _, _ => false)
def br0 (M : List Ln) (l : Ln) (p : It) : Bool :=
 match l, p with
 | .no, .box cs => AV.trOkL M cs
 | .no, .hole _ _ _ => false
 | _, _ => true
def bt2 (M : List Ln) (c : l0) : Bool :=
 decide (M.length ≤ c.pre.length) && decide (c.pre.length ≤ c.post.length) && AV.trOkL M c.args && c.res.trOk M && (b88 c.post.length).all (fun i => aN1 M (A3 M i) (o5 c.pre i) (o5 c.post i)) && (b88 c.pre.length).all fun i => br0 M (A3 M i) (o5 c.pre i)
def Rs.snap (w : World) (r : Rs) : Rs := .own r.blk fun w' => ∀ b, r.blk b → b < w.heap.size → w'.heap[b]? = w.heap[b]?
theorem Rs.snap_holds {w : World} {φ φ' : Nat → Prop} {r : Rs} (h : r.holds w φ) : (r.snap w).holds w φ' := by
 refine ⟨fun w1 w2 h1 h2 b hb hlt => ?_, fun b _ _ => rfl, fun b hb => Rs.lt h hb⟩
 have h3 := h1 b hb hlt
 rw [h2 b hb, h3]
 have : (w1.heap[b]?).isSome = true := by rw [h3, Array.getElem?_eq_getElem hlt]; rfl
 obtain ⟨o, ho⟩ := cb5.1 this
 exact (Array.getElem?_eq_some_iff.1 ho).1
theorem aP0 : ∀ {P X : List It} {i : Nat} {d e : D}, aq2 P X = aq1 P X → o5 P i = .dat d → o5 X i = .dat e → d = e
 | P, X, i, d, e, h, h1, h2 => by
  have hp : P[i]? = some (.dat d) := by
   rcases b93 i P.length with hl | hl
   ·rw [ap6 hl] at h1; rw [b72 hl, h1]
   ·rw [y8 hl] at h1; cases h1
  have hx : X[i]? = some (.dat e) := by
   rcases b93 i X.length with hl | hl
   ·rw [ap6 hl] at h2; rw [b72 hl, h2]
   ·rw [y8 hl] at h2; cases h2
  exact bP7 h hp hx
theorem l0.lend0 {P : Program} {c : l0} (hc : c.ok P) (M : List Ln) (hb : bt2 M c = true) (he : aq2 c.pre c.post = aq1 c.pre c.post) : l0.ok P ⟨c.f, AV.trL M c.args, T2 M c.pre, T2 M c.post, c.res.tr M⟩ := by
 simp only [bt2, b73, decide_eq_true_eq] at hb
 obtain ⟨⟨⟨⟨⟨hM, hle⟩, hargs⟩, hres⟩, hpost⟩, hpre⟩ := hb
 have hno : ∀ i, c.pre.length ≤ i → A3 M i = .no := fun i hi => by
  unfold A3; rw [b75, b98 (by omega)]; rfl
 have hpo : ∀ i, aN1 M (A3 M i) (o5 c.pre i) (o5 c.post i) = true := fun i => by
  rcases b93 i c.post.length with h | h
  ·exact b80.1 hpost i (ca9.2 h)
  ·rw [hno i (by omega), y8 h]; rfl
 have hpr : ∀ i, br0 M (A3 M i) (o5 c.pre i) = true := fun i => by
  rcases b93 i c.pre.length with h | h
  ·exact b80.1 hpre i (ca9.2 h)
  ·rw [hno i h, y8 h]; rfl
 intro ι φ ψ w0 w F ρ MM
 let ρ1 : Nat → Value := fun i => if (A3 M i).isT then D8 (ρ i) else ρ i
 have hρ1 : ∀ i, ρ1 i = if (A3 M i).isT then D8 (ρ i) else ρ i := fun _ => rfl
 let F1 : ι → Rs := fun i => (F i).snap w
 have hLi : ∀ i, l7 F ρ (o5 (T2 M c.pre)) (.inl i) = F i := fun _ => rfl
 have hLj : ∀ j, l7 F ρ (o5 (T2 M c.pre)) (.inr j) = (A7 M (A3 M j) (o5 c.pre j)).res ρ j := fun j => by simp only [l7]; rw [V4]
 generalize hL : l7 F ρ (o5 (T2 M c.pre)) = L at MM hLi hLj
 have h1j : ∀ j, A3 M j = .no → (o5 c.pre j).res ρ1 j = L (.inr j) := fun j hl => by
  rw [hLj, hl]
  have hp := hpr j
  have e : ρ1 j = ρ j := by rw [hρ1, hl]; rfl
  cases hx : o5 c.pre j with
  | none => rfl
  | dead => rfl
  | dat d => simp only [A7, It.res]; rw [e]
  | row e' d => simp only [A7, It.res]; rw [e]
  | tree d => simp only [A7, It.res]; rw [e]
  | kept e' d => cases e' <;> (simp only [A7, It.res]; rw [e])
  | hole k i ls => rw [hl, hx] at hp; cases hp
  | box cs =>
   rw [hl, hx] at hp
   simp only [br0] at hp
   simp only [A7, It.res]
   rw [e, AV.vals_tr hρ1 cs hp]
 have hlent : ∀ j, A3 M j ≠ .no → (∃ d, o5 c.pre j = .dat d ∧ o5 c.post j = .dat d ∧ ((∃ e, A3 M j = .row e ∧ aX6 d = true) ∨ A3 M j = .tree)) := fun j hj => by
  have h := hpo j
  cases hl : A3 M j with
  | no => exact absurd hl hj
  | row e =>
   rw [hl] at h
   simp only [aN1] at h
   split at h
   ·rename_i d d' h1 h2
    exact ⟨d, h1, by rw [h2, ← aP0 he h1 h2], .inl ⟨e, rfl, h⟩⟩
   ·cases h
  | tree =>
   rw [hl] at h
   simp only [aN1] at h
   split at h
   ·rename_i d d' h1 h2
    exact ⟨d, h1, by rw [h2, ← aP0 he h1 h2], .inr rfl⟩
   ·cases h
 have hsub : ∀ k b, (l7 F1 ρ1 (o5 c.pre) k).blk b → (L k).blk b ∧ ∀ j, k = .inr j → A3 M j = .no := fun k b hb => by
  cases k with
  | inl i => rw [hLi]; exact ⟨hb, fun j h => by cases h⟩
  | inr j =>
   by_cases hl : A3 M j = .no
   ·simp only [l7] at hb
    rw [h1j j hl] at hb
    exact ⟨hb, fun j' h => by cases h; exact hl⟩
   ·obtain ⟨d, h1, _⟩ := hlent j hl
    simp only [l7, h1, It.res] at hb
    exact hb.elim
 have hfr1 : ∀ b, W6 φ L b → W6 φ (l7 F1 ρ1 (o5 c.pre)) b := fun b hb => ⟨hb.1, fun k hk => hb.2 k (hsub k b hk).1⟩
 let ψ1 : Nat → Prop := fun b => ∀ k, ¬ (l7 F1 ρ1 (o5 c.pre) k).blk b
 have M1 : i7 φ ψ1 w w (l7 F1 ρ1 (o5 c.pre)) := by
  refine ⟨C4.refl _ _, fun b hb => MM.fresh b (b97 MM.size hb), fun k => ?_, fun k k' b hkk h1 h2 => MM.dis k k' b hkk (hsub k b h1).1 (hsub k' b h2).1, fun k b h1 => .inr fun h => h k h1, fun k b h1 => MM.ph k b (hsub k b h1).1⟩
  cases k with
  | inl i => exact Rs.snap_holds (show (F i).holds w _ from by rw [← hLi i]; exact MM.holds (.inl i))
  | inr j =>
   by_cases hl : A3 M j = .no
   ·simp only [l7]
    rw [h1j j hl]
    exact Rs.keep (MM.holds (.inr j)) (Agr.mono fun b _ hf => hfr1 b hf) fun _ _ => rfl
   ·obtain ⟨d, h1, h2, h3⟩ := hlent j hl
    have hh := MM.holds (.inr j)
    have hown : ∀ b, (L (.inr j)).blk b → W6 φ (l7 F1 ρ1 (o5 c.pre)) b := fun b hb => ⟨MM.ph _ _ hb, fun k hk => by
     obtain ⟨q1, q2⟩ := hsub k b hk
     by_cases e : k = .inr j
     ·exact hl (q2 j e)
     ·exact MM.dis k (.inr j) b e q1 hb⟩
    simp only [l7, h1, It.res]
    refine ⟨RD.nice _ _, ?_⟩
    rcases h3 with ⟨e, h3, hflat⟩ | h3
    ·rw [hLj, h3, h1] at hh
     simp only [A7, It.res] at hh
     obtain ⟨_, xs, o1, o2⟩ := hh
     have e1 : ρ1 j = ρ j := by rw [hρ1, h3]; rfl
     rw [e1]
     refine RD.make (z6 o1 fun g hg => hown g ?_) (be0 hflat o2)
     rw [hLj, h3, h1]; exact hg
    ·rw [hLj, h3, h1] at hh
     simp only [A7, It.res] at hh
     have e1 : ρ1 j = D8 (ρ j) := by rw [hρ1, h3]; rfl
     rw [e1]
     refine C3.read hh.2.1 fun b hb => hown b ?_
     rw [hLj, h3, h1]; exact hb
 simp only
 rw [AV.vals_tr hρ1 c.args hargs]
 refine (hc ι φ ψ1 w w F1 ρ1 M1).mono ?_
 rintro x w' ⟨ρ2, g1, g2, M2⟩
 have hplen : (T2 M c.pre).length = c.pre.length := by simp [T2]
 let ρ' : Nat → Value := fun j => if j < c.pre.length then ρ j else ρ2 j
 have hρ' : ∀ j, ρ2 j = if (A3 M j).isT then D8 (ρ' j) else ρ' j := fun j => by
  show _ = if (A3 M j).isT then D8 (if j < c.pre.length then ρ j else ρ2 j) else (if j < c.pre.length then ρ j else ρ2 j)
  rcases b93 j c.pre.length with h | h
  ·rw [if_pos h, g1 j h]
  ·rw [hno j h]
   exact (if_neg (Nat.not_lt.2 h)).symm
 have hρo : ∀ j, A3 M j ≠ .no → ρ' j = ρ j := fun j hj => by
  rcases b93 j c.pre.length with h | h
  ·exact if_pos h
  ·exact absurd (hno j h) hj
 refine ⟨ρ', fun i hi => if_pos (by rw [hplen] at hi; exact hi), by rw [AV.val_tr hρ' c.res hres]; exact g2, ?_⟩
 have hL'j : ∀ j, l7 F ρ' (o5 (T2 M c.post)) (.inr j) = (A7 M (A3 M j) (o5 c.post j)).res ρ' j := fun j => by simp only [l7]; rw [V4]
 have hL'i : ∀ i, l7 F ρ' (o5 (T2 M c.post)) (.inl i) = F i := fun _ => rfl
 generalize hL' : l7 F ρ' (o5 (T2 M c.post)) = L' at hL'j hL'i
 have hL2j : ∀ j, A3 M j = .no → L' (.inr j) = l7 F1 ρ2 (o5 c.post) (.inr j) := fun j hl => by
  rw [hL'j, hl]
  have hp := hpo j
  have e : ρ2 j = ρ' j := by rw [hρ', hl]; rfl
  simp only [l7]
  cases hx : o5 c.post j with
  | none => rfl
  | dead => rfl
  | dat d => simp only [A7, It.res]; rw [e]
  | row e' d => simp only [A7, It.res]; rw [e]
  | tree d => simp only [A7, It.res]; rw [e]
  | kept e' d => cases e' <;> (simp only [A7, It.res]; rw [e])
  | hole k i ls => rw [hl, hx] at hp; cases hp
  | box cs =>
   rw [hl, hx] at hp
   simp only [aN1] at hp
   simp only [A7, It.res]
   rw [e, AV.vals_tr hρ' cs hp]
 have hlj : ∀ j, A3 M j ≠ .no → L' (.inr j) = L (.inr j) := fun j hl => by
  obtain ⟨d, h1, h2, h3⟩ := hlent j hl
  rw [hL'j, hLj, h1, h2]
  rcases h3 with ⟨e, h3, _⟩ | h3
  ·rw [h3]; simp only [A7, It.res]; rw [hρo j hl]
  ·rw [h3]; simp only [A7, It.res]; rw [hρo j hl]
 have hin : ∀ b, b < w.heap.size → ¬ ψ1 b → ∃ k, (L k).blk b ∧ ∀ j, k = .inr j → A3 M j = .no := fun b _ hn => by
  obtain ⟨k, hk⟩ := Classical.not_forall.1 hn
  exact ⟨k, hsub k b (Classical.not_not.1 hk)⟩
 have hnew : ∀ k b, (∀ j, k = .inr j → A3 M j = .no) → (l7 F1 ρ2 (o5 c.post) k).blk b → b < w.heap.size → ∃ k', (L k').blk b ∧ ∀ j, k' = .inr j → A3 M j = .no := fun k b _ hb hlt => by
  rcases M2.ge k b hb with h | h
  ·omega
  ·exact hin b hlt h
 have hback : ∀ k b, (L' k).blk b → b < w.heap.size → ∃ k', (L k').blk b := fun k b hb hlt => by
  cases k with
  | inl i => rw [hL'i] at hb; exact ⟨.inl i, by rw [hLi]; exact hb⟩
  | inr j =>
   by_cases hl : A3 M j = .no
   ·rw [hL2j j hl] at hb
    obtain ⟨k', h1, _⟩ := hnew (.inr j) b (fun j' h => by cases h; exact hl) hb hlt
    exact ⟨k', h1⟩
   ·rw [hlj j hl] at hb; exact ⟨_, hb⟩
 have hsame : ∀ b, b < w.heap.size → ψ1 b → w'.heap[b]? = w.heap[b]? := fun b h1 h2 => M2.kept.block b h1 h2
 have hagr : Agr (W6 φ L) (W6 φ L') w w' := ⟨M2.kept.size, fun b hb hf => ⟨⟨hf.1, fun k hk => let ⟨k', h1⟩ := hback k b hk hb; hf.2 k' h1⟩, hsame b hb fun k hk => (hfr1 b hf).2 k hk⟩⟩
 have hlsame : ∀ j, A3 M j ≠ .no → ∀ b, (L (.inr j)).blk b → w'.heap[b]? = w.heap[b]? := fun j hl b hb => hsame b (MM.lt hb) fun k hk => by
  obtain ⟨q1, q2⟩ := hsub k b hk
  by_cases e : k = .inr j
  ·exact hl (q2 j e)
  ·exact MM.dis k (.inr j) b e q1 hb
 have hcross : ∀ j k b, A3 M j ≠ .no → (∀ j, k = .inr j → A3 M j = .no) → (L (.inr j)).blk b → ¬ (l7 F1 ρ2 (o5 c.post) k).blk b := fun j k b hl hk h1 h2 => by
  obtain ⟨k', h3, h4⟩ := hnew k b hk h2 (MM.lt h1)
  exact MM.dis k' (.inr j) b (fun e => hl (h4 j e)) h3 h1
 refine ⟨⟨M2.kept.os.trans MM.kept.os, M2.kept.tape.trans MM.kept.tape, M2.kept.output.trans MM.kept.output, b97 MM.size M2.kept.size, fun b hb hp => (hsame b (cb3 hb MM.size) fun k hk => ?_).trans (MM.kept.block b hb hp)⟩, MM.fresh, fun k => ?_, fun k k' b hkk h1 h2 => ?_, fun k b h1 => ?_, fun k b h1 => ?_⟩
 ·rcases MM.ge k b (hsub k b hk).1 with h | h
  ·omega
  ·exact h hp
 ·cases k with
  | inl i =>
   rw [hL'i, ← hLi i]
   refine Rs.keep (MM.holds (.inl i)) hagr fun b hb => ?_
   have := (M2.holds (.inl i)).2.1 b (by rw [← hLi i]; exact hb) (MM.lt hb)
   exact this
  | inr j =>
   by_cases hl : A3 M j = .no
   ·have hh := M2.holds (.inr j)
    rw [← hL2j j hl] at hh
    have hp := hpo j
    rw [hl] at hp
    cases hx : o5 c.post j with
    | none => rw [hL'j, hl, hx]; exact Rs.none_holds _ _
    | dead => rw [hL'j, hl, hx]; exact Rs.none_holds _ _
    | box cs => rw [hL'j, hl, hx] at hh ⊢; exact hh
    | tree d => rw [hL'j, hl, hx] at hh ⊢; exact hh
    | kept e' d => rw [hx] at hp; exact absurd hp (by simp [aN1])
    | hole k i ls => rw [hx] at hp; exact absurd hp (by simp [aN1])
    | row e d =>
     rw [hx] at hp
     simp only [aN1] at hp
     rw [hL'j, hl, hx] at hh ⊢
     simp only [A7, It.res] at hh ⊢
     obtain ⟨_, xs, o1, o2⟩ := hh
     exact ⟨fun xs => RW.nice d xs, xs, o1, be0 hp o2⟩
    | dat d =>
     rw [hx] at hp
     simp only [aN1] at hp
     split at hp
     ·rename_i d' hpx
      have hd : d' = d := aP0 he hpx hx
      subst hd
      have e : L' (.inr j) = L (.inr j) := by
       rw [hL'j, hLj, hl, hx, hpx]
       simp only [A7, It.res]
       have : j < c.pre.length := by
        rcases b93 j c.pre.length with h | h
        ·exact h
        ·rw [y8 h] at hpx; cases hpx
       rw [show ρ' j = ρ j from if_pos this]
      rw [e]
      refine Rs.keep (MM.holds (.inr j)) hagr fun b hb => ?_
      rw [hLj, hl, hpx] at hb
      exact hb.elim
     ·cases hp
   ·rw [hlj j hl]
    exact Rs.keep (MM.holds (.inr j)) hagr fun b hb => hlsame j hl b hb
 ·have key : ∀ k, (∃ j, k = .inr j ∧ A3 M j ≠ .no ∧ (L' k) = L k) ∨ ((∀ j, k = .inr j → A3 M j = .no) ∧ ∀ b, (L' k).blk b → (l7 F1 ρ2 (o5 c.post) k).blk b) := fun k => by
   cases k with
   | inl i => exact .inr ⟨(fun j h => by cases h), fun b hb => by rw [hL'i] at hb; exact hb⟩
   | inr j =>
    by_cases hl : A3 M j = .no
    ·exact .inr ⟨fun j' h => by cases h; exact hl, fun b hb => by rw [hL2j j hl] at hb; exact hb⟩
    ·exact .inl ⟨j, rfl, hl, hlj j hl⟩
  rcases key k with ⟨j, rfl, k1, k2⟩ | ⟨k1, k2⟩ <;> rcases key k' with ⟨j', rfl, k3, k4⟩ | ⟨k3, k4⟩
  ·rw [k2] at h1; rw [k4] at h2; exact MM.dis _ _ b hkk h1 h2
  ·rw [k2] at h1; exact hcross j k' b k1 k3 h1 (k4 b h2)
  ·rw [k4] at h2; exact hcross j' k b k3 k1 h2 (k2 b h1)
  ·exact M2.dis k k' b hkk (k2 b h1) (k4 b h2)
 ·cases k with
  | inl i => rw [hL'i, ← hLi i] at h1; exact MM.ge _ b h1
  | inr j =>
   by_cases hl : A3 M j = .no
   ·rw [hL2j j hl] at h1
    rcases b93 b w.heap.size with hlt | hge
    ·obtain ⟨k', h2, _⟩ := hnew (.inr j) b (fun j' h => by cases h; exact hl) h1 hlt
     exact MM.ge k' b h2
    ·exact .inl (b97 MM.size hge)
   ·rw [hlj j hl] at h1; exact MM.ge _ b h1
 ·cases k with
  | inl i => rw [hL'i, ← hLi i] at h1; exact MM.ph _ b h1
  | inr j =>
   by_cases hl : A3 M j = .no
   ·rw [hL2j j hl] at h1; exact M2.ph _ b h1
   ·rw [hlj j hl] at h1; exact MM.ph _ b h1
def bt9 (M : List Ln) : Ln → It → It
 | .row e, .dat d => .kept (some e) d
 | .tree, .dat d => .kept none d
 | .no, .box cs => .box (AV.trL M cs)
 | _, x => x
def bt8 (M : List Ln) (S : List It) : List It := (b88 S.length).map fun i => bt9 M (A3 M i) (o5 S i)
theorem bt1 (M : List Ln) (S : List It) (i : Nat) : o5 (bt8 M S) i = bt9 M (A3 M i) (o5 S i) := by
 unfold bt8
 rcases b93 i S.length with h | h
 ·conv => lhs; rw [o5, b75, List.getElem?_map, List.getElem?_range h]
  rfl
 ·rw [y8 (by simpa using h), y8 h]
  cases A3 M i <;> rfl
theorem l0.lend {P : Program} {c : l0} (hc : c.ok P) (M : List Ln) (hb : bt2 M c = true := by kernel_rfl) (he : aq2 c.pre c.post = aq1 c.pre c.post := by kernel_rfl) : l0.ok P ⟨c.f, AV.trL M c.args, T2 M c.pre, bt8 M c.post, c.res.tr M⟩ :=
 l0.okPost (l0.lend0 hc M hb he) _ fun ρ i => by
  simp only
  rw [bt1, V4]
  cases A3 M i <;> cases o5 c.post i <;> rfl
section
variable {P : Program} {ι κ : Type} {φ ψ : Nat → Prop} {w0 w : World} {F : ι → Rs} {ρ ρ0 : Nat → Value} {N m n : Nat} {S : List It} {tm : List (Nat × AV)} {a : Act}
theorem i7.release {L L' : κ → Rs} (M : i7 φ ψ w0 w L) (h : ∀ k, L' k = L k ∨ ((∀ b, ¬ (L' k).blk b) ∧ ∀ φ', (∀ b, W6 φ L b → φ' b) → (∀ b, (L k).blk b → φ' b) → (L' k).holds w φ')) : i7 φ ψ w0 w L' := by
 have old : ∀ k b, (L' k).blk b → (L k).blk b := fun k b hb => by
  rcases h k with e | ⟨h1, _⟩
  ·rw [e] at hb; exact hb
  ·exact (h1 b hb).elim
 have hfr : ∀ b, W6 φ L b → W6 φ L' b := fun b hb => ⟨hb.1, fun k hk => hb.2 k (old k b hk)⟩
 refine ⟨M.kept, M.fresh, fun k => ?_, fun i j g hij h1 h2 => M.dis i j g hij (old i g h1) (old j g h2), fun i b hb => M.ge i b (old i b hb), fun i b hb => M.ph i b (old i b hb)⟩
 rcases h k with e | ⟨h1, h2⟩
 ·rw [e]; exact Rs.keep (M.holds k) (Agr.mono fun b _ hf => hfr b hf) fun _ _ => rfl
 ·refine h2 _ hfr fun b hb => ⟨M.ph k b hb, fun j hj => ?_⟩
  by_cases e : j = k
  ·subst e; exact h1 b hj
  ·exact M.dis j k b e (old j b hj) hb
mutual
theorem AV.ids_tr (M : List Ln) : ∀ (x : AV), (x.tr M).ids = x.ids
 | .v _ => rfl
 | .ptr _ _ => rfl
 | .ea _ _ _ _ => rfl
 | .ref i => by simp only [AV.tr]; split <;> rfl
 | .agg l => by simp only [AV.tr, AV.ids]; exact AV.idsL_tr M l
 | .tup l => by simp only [AV.tr, AV.ids]; exact AV.idsL_tr M l
 | .fn _ l => by simp only [AV.tr, AV.ids]; exact AV.idsL_tr M l
 | .bm _ l => by simp only [AV.tr, AV.ids]; exact AV.idsL_tr M l
 | .tref _ => rfl
theorem AV.idsL_tr (M : List Ln) : ∀ (l : List AV), AV.idsL (AV.trL M l) = AV.idsL l
 | [] => rfl
 | x :: r => by simp only [AV.trL, AV.idsL]; rw [AV.ids_tr M x, AV.idsL_tr M r]
end
theorem aM9 {M : List Ln} {t : Nat} {x : AV} : ∀ {tm : List (Nat × AV)}, A2 tm t = some x → A2 (tm.map fun p => (p.1, p.2.tr M)) t = some (x.tr M) ∧ ∃ p ∈ tm, p.2 = x
 | [], h => by cases h
 | (k, y) :: r, h => by
  simp only [A2, ca1] at h ⊢
  split at h
  ·cases h; rename_i hk; rw [if_pos hk]; exact ⟨rfl, _, ca7, rfl⟩
  ·rename_i hk; rw [if_neg hk]
   obtain ⟨h1, p, h2, h3⟩ := aM9 h
   exact ⟨h1, p, ca6 _ h2, h3⟩
def bW4 (M : List Ln) (m : Nat) (S1 : List It) (tm1 : List (Nat × AV)) : Bool :=
 decide (M.length ≤ S1.length) && (b88 S1.length).all (fun i => match A3 M i, o5 S1 i with
  | .no, .box cs => AV.trOkL M cs
  | .no, .hole _ _ _ => false
  | .no, _ => true
  | .row _, .dat _ => true
  | .tree, .dat _ => decide (m ≤ i)
  | _, _ => false) && tm1.all fun p => p.2.trOk M
theorem It.ids_lend (M : List Ln) (l : Ln) (x : It) : x.ids = [] ∨ (A7 M l x).ids = x.ids := by
 cases x with
 | box cs => cases l <;> first | exact .inr rfl | exact .inr (AV.idsL_tr M cs)
 | hole k i ls => cases l <;> exact .inr rfl
 | _ => exact .inl rfl
theorem t7.frz (G : t7 φ ψ w0 F N m ρ0 ρ S tm a w) (M : List Ln) (S1 : List It) (tm1 : List (Nat × AV)) (hb : bW4 M m S1 tm1 = true := by kernel_rfl) (hS : S = T2 M S1 := by kernel_rfl) (ht : tm = tm1.map (fun p => (p.1, p.2.tr M)) := by kernel_rfl) :
  ∃ ρ', t7 φ ψ w0 F N m ρ0 ρ' S1 tm1 a w := by
 subst hS
 subst ht
 simp only [bW4, b73, decide_eq_true_eq] at hb
 obtain ⟨⟨hM, hall⟩, htm⟩ := hb
 have hlen : (T2 M S1).length = S1.length := by simp [T2]
 have hno : ∀ i, S1.length ≤ i → A3 M i = .no := fun i hi => by
  unfold A3; rw [b75, b98 (by omega)]; rfl
 have hat := fun i (hi : i < S1.length) => b80.1 hall i (ca9.2 hi)
 let ρ1 : Nat → Value := fun i => if (A3 M i).isT then D8 (ρ i) else ρ i
 have hρ1 : ∀ i, ρ1 i = if (A3 M i).isT then D8 (ρ i) else ρ i := fun _ => rfl
 have hρn : ∀ i, (A3 M i).isT = false → ρ1 i = ρ i := fun i h => by rw [hρ1, h]; rfl
 refine ⟨ρ1, G.size, G.defs, fun t x hx => ?_, fun t x hx i hi => ?_, fun j => ⟨fun i hi => ?_, fun hj => y8 hj⟩, ?_, ?_, fun i hi => ?_⟩
 ·obtain ⟨h1, p, h2, h3⟩ := aM9 (M := M) hx
  rw [G.tmv t _ h1, AV.val_tr hρ1 x (by rw [← h3]; exact b80.1 htm p h2)]
 ·obtain ⟨h1, _⟩ := aM9 (M := M) hx
  have := G.tmi t _ h1 i (by rw [AV.ids_tr]; exact hi)
  rw [hlen] at this; exact this
 ·have h1 := (G.bd j).1 i
  rw [V4, hlen] at h1
  rcases It.ids_lend M (A3 M j) (o5 S1 j) with h | h
  ·rw [h] at hi; cases hi
  ·exact h1 (by rw [h]; exact hi)
 ·refine G.mem.release fun k => ?_
  cases k with
  | inl i => exact .inl rfl
  | inr j =>
   simp only [l7]
   rw [V4]
   rcases b93 j S1.length with hj | hj
   case inr => rw [hno j hj, y8 hj]; exact .inl rfl
   have h1 := hat j hj
   cases hl : A3 M j with
   | no =>
    have e : ρ1 j = ρ j := hρn j (by rw [hl]; rfl)
    rw [hl] at h1
    left
    cases hx : o5 S1 j with
    | box cs =>
     rw [hx] at h1
     simp only [A7, It.res]
     rw [e, AV.vals_tr hρ1 cs h1]
    | none => rfl
    | dead => rfl
    | dat d => simp only [A7, It.res]; rw [e]
    | row e' d => simp only [A7, It.res]; rw [e]
    | tree d => simp only [A7, It.res]; rw [e]
    | kept e' d => cases e' <;> (simp only [A7, It.res]; rw [e])
    | hole k i ls => rw [hx] at h1; cases h1
   | row e' =>
    have e : ρ1 j = ρ j := hρn j (by rw [hl]; rfl)
    rw [hl] at h1
    cases hx : o5 S1 j <;> rw [hx] at h1 <;> first | cases h1 | skip
    rename_i d
    refine .inr ⟨fun b hb => hb, fun φ' hf hown => ⟨RD.nice _ _, ?_⟩⟩
    have hh := G.mem.holds (.inr j)
    simp only [l7] at hh
    rw [V4, hl, hx] at hh
    simp only [A7, It.res] at hh
    obtain ⟨_, xs, o1, o2⟩ := hh
    rw [e]
    exact RD.make (z6 o1 fun g hg => hown g hg) (RW.nice _ _ _ _ _ _ (Agr.mono fun b _ hb => hf b hb) o2)
   | tree =>
    have e : ρ1 j = D8 (ρ j) := by rw [hρ1, hl]; rfl
    rw [hl] at h1
    cases hx : o5 S1 j <;> rw [hx] at h1 <;> first | cases h1 | skip
    rename_i d
    refine .inr ⟨fun b hb => hb, fun φ' hf hown => ⟨RD.nice _ _, ?_⟩⟩
    have hh := G.mem.holds (.inr j)
    simp only [l7] at hh
    rw [V4, hl, hx] at hh
    simp only [A7, It.res] at hh
    rw [e]
    exact C3.read hh.2.1 fun b hb => hown b hb
 ·have := G.le; rw [hlen] at this; exact this
 ·have hm := G.le
  rw [hlen] at hm
  have : (A3 M i).isT = false := by
   cases hl : A3 M i with
   | no => rfl
   | row _ => rfl
   | tree =>
    have h1 := hat i (by omega)
    rw [hl] at h1
    cases hx : o5 S1 i <;> rw [hx] at h1 <;> simp at h1
    omega
  show ρ1 i = ρ0 i
  rw [hρn i this]; exact G.old i hi
end
section
variable {P : Program} {ι κ : Type} {φ ψ : Nat → Prop} {w0 w w' : World} {F : ι → Rs} {ρ ρ0 : Nat → Value}
theorem i7.grow {L L' : κ → Rs} (M : i7 φ ψ w0 w L) (hb : Below w.heap.size w w') (K : κ → Prop) (ho : ∀ k, ¬ K k → L' k = L k) (hg : ∀ k, K k → ∀ b, (L' k).blk b → w.heap.size ≤ b) (hd : ∀ j k b, j ≠ k → K j → K k → (L' j).blk b → ¬ (L' k).blk b) (h : ∀ k, K k → (L' k).holds w' (W6 φ L')) : i7 φ ψ w0 w' L' := by
 have M1 := M.call hb
 have old : ∀ k, ¬ K k → ∀ b, (L' k).blk b → b < w.heap.size := fun k hk b h1 => by rw [ho k hk] at h1; exact M.lt h1
 refine ⟨M1.kept, M.fresh, fun k => ?_, fun i j g hij h1 h2 => ?_, fun i b h1 => ?_, fun i b h1 => ?_⟩
 ·by_cases e : K k
  ·exact h k e
  ·rw [ho k e]
   refine Rs.keep (M.holds k) ⟨hb.size, fun b hl hf => ⟨⟨hf.1, fun j hj => ?_⟩, hb.block b hl⟩⟩ fun g hgx => hb.block g (M.lt hgx)
   by_cases e2 : K j
   ·have := hg j e2 b hj; omega
   ·rw [ho j e2] at hj; exact hf.2 j hj
 ·by_cases e1 : K i <;> by_cases e2 : K j
  ·exact hd i j g hij e1 e2 h1 h2
  ·have := hg i e1 g h1; have := old j e2 g h2; omega
  ·have := hg j e2 g h2; have := old i e1 g h1; omega
  ·rw [ho i e1] at h1; rw [ho j e2] at h2; exact M.dis i j g hij h1 h2
 ·by_cases e : K i
  ·exact .inl (b97 M.size (hg i e b h1))
  ·rw [ho i e] at h1; exact M.ge i b h1
 ·by_cases e : K i
  ·exact M.fresh b (b97 M.size (hg i e b h1))
  ·rw [ho i e] at h1; exact M.ph i b h1
end
abbrev oP (p : j9) : List It := [.row 3 (.ints p.vars), .row 3 (.ints p.arrays), .tree (.stmts p.body)]
abbrev oA (r : Nat) : AV := .agg [.ref r, .ref (r + 1), .tref (r + 2)]
theorem ap4 {w : World} {φ : Nat → Prop} {v : Value} {l : List Int} (h : w.ownsRow 0 3 1 v l.length (ints l)) : (Rs.row 3 (D.ints l).sz v (D.ints l).len fun xs w φ => RW w φ (.ints l) xs).holds w φ := by
 refine ⟨fun xs => RW.nice (.ints l) xs, ints l, h, fun i hi j x hx => ?_⟩
 have hi' : i < l.length := hi
 simp only [D.elem] at hx
 have hj : j = 0 := by
  cases j with
  | zero => rfl
  | succ j => simp at hx
 subst hj
 simp at hx
 subst hx
 refine ⟨_, ?_, rfl⟩
 simp only [D.sz]
 rw [Nat.mul_one, Nat.add_zero]
 simp [ints, hi']
theorem aC5 (v : Value) (t : List Int) (w : World) (h : F8 w v t.length 1 (ints t)) (hb : t.length ≤ 1000000000000) :
  Calls Tryz.prog 71 #[v] w fun e w' => ∃ u, e = .returned u ∧ A6 w' w.heap.size w'.heap.size 3 1 u t.length (ints t) ∧ Below w.heap.size w w' := by
 obtain ⟨a, cap, rfl, hc1, hc2, hc3, -⟩ := h.open
 have hnil := fun w => Lib.run_eql_slice_nil (P := Tryz.prog) w 23 3 a t.length cap 0 0 Tryz.underlying23
 rcases a with _ | a
 ·have hn : t.length = 0 := by
   rcases Nat.eq_zero_or_pos t.length with h0 | h0
   ·exact h0
   ·obtain ⟨_, a, c, he, _, _, hx⟩ := h
    cases he
    obtain ⟨_, _, he, _⟩ := hx h0
    cases he
  have ht : t = [] := b96 hn
  subst ht
  simp only [b85, Option.isNone_none] at hnil
  go_enter Tryz.func71, Tryz.ntmps71
  go_wp2_with fail
  go_ret
  exact ⟨_, rfl, ⟨World.ownsRow_nil _ _ _ _, fun g hg => by cases hg⟩, Below.refl _ _⟩
 ·go_enter Tryz.func71, Tryz.ntmps71
  simp only [Option.isNone_some] at hnil
  have ba := (Below.refl w.heap.size w).alloc (b76 _) (.cells #[] 3)
  go_wp2_with (at_builtin; refine A9 rfl _ _ rfl Tryz.underlying23 ae8 rfl (by omega) rfl (v8 w #[] 0 1 _ rfl rfl (by omega)).1 rfl (h.below ba) V5 (by omega) (by omega) (by simp) ?_; rintro a4 q4 w4 o4 b4 - -)
  go_ret
  refine ⟨_, rfl, A6.mk' (by simpa using o4), ba.trans b4⟩
theorem af5 (e : d8) : l0.ok Tryz.prog ⟨118, [.agg [.v (.int .i64 e.kind), .v (.int .i64 e.value), .ref 0]], [.dat (.exprs e.kids)], [.dat (.exprs e.kids)], .v (.bool (noneB e))⟩ := by
  refine J8 17 Tryz.func118 [dE e.kids] [(0, eA e 0)] fun G => ?_; refine wp_seq (i9 G e6 [0, 1] [dE e.kids, .box (eL e 0)] [(1, .ptr 1 0), (2, bA false)] fun G => b0 (wp_seq ?_)); cases h0 : (e.kind == 0)
  · have q0 := ne_of_beq_false h0; refine i9 G (J3 (fc h0 (fc (b := false) rfl fz)) (us [(4, 6, 0), (1007, 1007, 0), (9, 12, 1), (1013, 1013, 1)])) [0] [dE e.kids] [(2, bA false)] fun G => b0 (wp_ret ?_); exact M0 false G [0] (by rw [ca0]; simp [noneB, h0, q0]; done)
  ·
   have q0 := eq_of_beq h0; cases h1 : (e.value == 0)
   · have q1 := ne_of_beq_false h1; refine i9 G (J3 (fc h0 (fc h1 fz)) (us [(4, 6, 0), (1007, 1007, 0), (9, 12, 1), (1013, 1013, 1)])) [0] [dE e.kids] [(2, bA false)] fun G => b0 (wp_ret ?_); exact M0 false G [0] (by rw [ca0]; simp [noneB, h0, q0, h1, q1]; done)
   · have q1 := eq_of_beq h1; refine i9 G (J3 (fc h0 (fc h1 fz)) (us [(4, 6, 0), (1007, 1007, 0), (9, 12, 1), (1013, 1013, 1)])) [0] [dE e.kids] [(2, bA ((e.kids.length : Int) == 0))] fun G => b0 (wp_ret ?_); exact M0 ((e.kids.length : Int) == 0) G [0] (by rw [ca0]; simp [noneB, h0, q0, h1, q1]; done)
theorem ah4 (k : Int) : l0.ok Tryz.prog ⟨115, [.v (.int .i64 k)], [], [], .v (.int .i64 (t5 k))⟩ := by
  refine J8 23 Tryz.func115 [] [(0, iA k)] fun G => ?_; refine wp_seq (l6 G e6 [(2, iA 0)] fun G => b0 (wp_seq (wp_block (wp_seq ?_)))); cases h0 : (k == 1)
  ·
   have q0 := ne_of_beq_false h0; refine l6 G (J3 (fc h0 fz) [(3, 0), (4, 0), (1005, 0)]) [(3, bA (k == 2))] fun G => b0 (P0 G (fun h1 q1 => ?_) fun h1 q1 => ?_)
   ·
    refine wp_seq (l6 G e6 [(10, bA (k == 3))] fun G => b0 (P0 G (fun h2 q2 => ?_) fun h2 q2 => ?_))
    ·
     refine wp_seq ?_; cases h3 : (decide (k ≥ 4))
     ·
      have q3 := Z3 h3; refine l6 G (J3 (fc h3 fz) [(3, 0), (4, 0), (1005, 0)]) [(13, bA false)] fun G => b0 (rF G false (by kernel_rfl) (wp_seq (G9 G e6 [(2, iA 0), (20, bA (k == 11))] fun G => b0 ?_))); cases h4 : (k == 11)
      · have q4 := ne_of_beq_false h4; refine rF G _ h4 (wp_skip (i8 (b0 (wp_seq (l6 G e6 [(2, iA (-1))] fun G => b0 (wp_ret ?_)))))); exact rxI (-1) G [] (by unfold t5; (repeat' split) <;> omega)
      · have q4 := eq_of_beq h4; exact False.elim (by omega)
     ·
      have q3 := Z2 h3; refine l6 G (J3 (fc h3 fz) [(3, 0), (4, 0), (1005, 0)]) [(13, bA (decide (k ≤ 10)))] fun G => b0 (rcD G (fun h5 q5 => ?_) fun h5 q5 => ?_)
      ·
       refine wp_seq (l6 G e6 [(20, bA (k == 11))] fun G => b0 (P0 G (fun h6 q6 => ?_) fun h6 q6 => ?_))
       · refine wp_skip (i8 (b0 (wp_seq (l6 G e6 [(2, iA (-1))] fun G => b0 (wp_ret ?_))))); exact rxI (-1) G [] (by unfold t5; (repeat' split) <;> omega)
       · refine wp_seq (l6 G e6 [(2, iA 3)] fun G => b0 (wp_ret (E3 (o8 ?_)))); exact rxI 3 G [] (by unfold t5; (repeat' split) <;> omega)
      · refine wp_seq (l6 G e6 [(2, iA 2)] fun G => b0 (wp_ret (E3 (o8 ?_)))); exact rxI 2 G [] (by unfold t5; (repeat' split) <;> omega)
    · refine wp_seq (l6 G e6 [(2, iA 1)] fun G => b0 (wp_ret (E3 (o8 ?_)))); exact rxI 1 G [] (by unfold t5; (repeat' split) <;> omega)
   · refine wp_seq (l6 G e6 [] fun G => b0 (wp_ret (E3 (o8 ?_)))); exact rxI 0 G [] (by unfold t5; (repeat' split) <;> omega)
  · have q0 := eq_of_beq h0; refine l6 G (J3 (fc h0 fz) [(3, 0), (4, 0), (1005, 0)]) [(3, bA true)] fun G => b0 (rT G true (by kernel_rfl) (wp_seq (l6 G e6 [] fun G => b0 (wp_ret (E3 (o8 ?_)))))); exact rxI 0 G [] (by unfold t5; (repeat' split) <;> omega)
theorem aD1 (e : d8) : l0.ok Tryz.prog ⟨114, [.agg [.v (.int .i64 e.kind), .v (.int .i64 e.value), .ref 0]], [.dat (.exprs e.kids)], [.dat (.exprs e.kids)], .v (.bool (T6 e))⟩ := by
 refine J8 11 Tryz.func114 [dE e.kids] [(0, eA e 0)] fun G => ?_; refine wp_seq (i9 G e6 [0, 1] [dE e.kids, .box (eL e 0)] [(1, .ptr 1 0), (2, bA false)] fun G => b0 (wp_seq ?_)); cases h0 : (e.kind == 1)
 ·have q0 := ne_of_beq_false h0; refine i9 G (J3 (fc h0 fz) [(4, 0), (5, 0), (6, 0), (1007, 0)]) [0] [dE e.kids] [(2, bA (e.kind == 2))] fun G => b0 (wp_ret ?_); exact M0 (e.kind == 2) G [0] (by rw [ca0]; simp [T6, h0, q0]; done)
 ·have q0 := eq_of_beq h0; refine i9 G (J3 (fc h0 fz) [(4, 0), (5, 0), (6, 0), (1007, 0)]) [0] [dE e.kids] [(2, bA true)] fun G => b0 (wp_ret ?_); exact M0 true G [0] (by rw [ca0]; simp [T6, h0, q0]; done)
theorem bk1 (vs ars : List Int) (b : List c8) (k : Int) : l0.ok Tryz.prog ⟨119, [.agg [.ref 0, .ref 1, .ref 2], .v (.int .i64 k)], [.dat (.ints vs), .dat (.ints ars), .dat (.stmts b)], [.dat (.ints vs), .dat (.ints ars), .dat (.stmts b)], .v (.int .i64 (ai7 vs.length ars.length k))⟩ := by
  refine J8 18 Tryz.func119 [dI vs, dI ars, dT b] [(0, pA 0), (1, iA k)] fun G => ?_; refine wp_seq (i9 G e6 (rg 4) [dI vs, dI ars, dT b, .box (pL 0)] [(1, iA k), (2, .ptr 3 0), (4, iA 0)] fun G => b0 (wp_seq (wp_seq (l6 G e6 [(5, iA k)] fun G => b0 (wp_block (wp_seq (l6 G e6 [(6, bA (k == 1))] fun G => b0 (P0 G (fun h0 q0 => ?_) fun h0 q0 => ?_))))))))
  ·
   refine wp_seq (l6 G e6 [(8, bA (k == 2))] fun G => b0 (P0 G (fun h1 q1 => ?_) fun h1 q1 => ?_))
   ·
    refine wp_seq (l6 G e6 [(13, bA (k == 3))] fun G => b0 (P0 G (fun h2 q2 => ?_) fun h2 q2 => ?_))
    · refine wp_skip (i8 (b0 (wp_seq (i9 G e6 [0, 1, 2] [dI vs, dI ars, dT b] [(4, iA 1)] fun G => b0 (wp_ret ?_))))); exact rxI 1 G [0, 1, 2] (by unfold ai7; (repeat' split) <;> omega)
    · refine wp_seq (i9 G e6 [0, 1, 2] [dI vs, dI ars, dT b] [(4, iA (ars.length : Int))] fun G => b0 (wp_ret (E3 (o8 ?_)))); exact rxI ((ars.length : Int)) G [0, 1, 2] (by unfold ai7; (repeat' split) <;> omega)
   · refine wp_seq (i9 G e6 [0, 1, 2] [dI vs, dI ars, dT b] [(4, iA (vs.length : Int))] fun G => b0 (wp_ret (E3 (o8 ?_)))); exact rxI ((vs.length : Int)) G [0, 1, 2] (by unfold ai7; (repeat' split) <;> omega)
  · refine wp_seq (i9 G e6 [0, 1, 2] [dI vs, dI ars, dT b] [(4, iA 256)] fun G => b0 (wp_ret (E3 (o8 ?_)))); exact rxI 256 G [0, 1, 2] (by unfold ai7; (repeat' split) <;> omega)
theorem a04 {α : Type} {l : List α} {k : Nat} {p : α → Bool} {z : α} (h : (l.take k).all p = true) (hk : k < l.length) (hp : p (l.getD k z) = true) : (l.take (k + 1)).all p = true := by
 rw [R0 p l k hk, h, ← r7 (d := z) hk, hp]; rfl
theorem aD7 {α : Type} {l : List α} {k : Nat} {p : α → Bool} (h : (l.take k).all p = true) (hk : l.length ≤ k) : l.all p = true := by
 rw [b89 hk] at h; exact h
section
variable {nv na d : Nat} {e : d8}
theorem bB2 (h : ¬ (e.kids.length : Int) = t5 e.kind) : m9 nv na (d + 1) e = false := by simp [m9, an3, h]
theorem bB1 (h : e.value < 0) : m9 nv na (d + 1) e = false := by
 have : ¬ 0 ≤ e.value := by omega
 simp [m9, an3, this]
theorem bB0 (h : ai7 nv na e.kind ≤ e.value) : m9 nv na (d + 1) e = false := by
 have : ¬ e.value < ai7 nv na e.kind := by omega
 simp [m9, an3, this]
theorem bA9 {k : Nat} {z : d8} (hk : k < e.kids.length) (h : m9 nv na d (e.kids.getD k z) = false) : m9 nv na (d + 1) e = false := by
 rw [r7 hk] at h
 have : e.kids.all (m9 nv na d) = false := an2 hk h
 simp [m9, this]
theorem a26 (h1 : (e.kids.length : Int) = t5 e.kind) (h2 : ¬ e.value < 0) (h3 : ¬ ai7 nv na e.kind ≤ e.value) : an3 nv na e = true := by
 unfold an3; rw [decide_eq_true h1, decide_eq_true (by omega), decide_eq_true (by omega)]; rfl
theorem bA8 (hn : an3 nv na e = true) (ha : e.kids.all (m9 nv na d) = true) (h : ¬ e.kind = 3) : m9 nv na (d + 1) e = true := by
 rw [m9, hn, ha]; simp [bc2, h]
theorem bA7 (hn : an3 nv na e = true) (ha : e.kids.all (m9 nv na d) = true) (h : e.kind = 3) (hl : 0 < e.kids.length) : m9 nv na (d + 1) e = T6 (e.kids.getD 0 b71) := by
 rw [m9, hn, ha, bg4 h hl, r7 hl]; simp [T6]
theorem aJ7 (h1 : (e.kids.length : Int) = t5 e.kind) (h : e.kind = 3) : 0 < e.kids.length := by
 rw [h] at h1; simp [t5] at h1; omega
end
theorem a78 (vs ars : List Int) (b : List c8) (e : d8) (n : Int) (hn : n = 0) : l0.ok Tryz.prog ⟨116, [.agg [.ref 0, .ref 1, .ref 2], .agg [.v (.int .i64 e.kind), .v (.int .i64 e.value), .ref 3], .v (.int .i64 n)], [.dat (.ints vs), .dat (.ints ars), .dat (.stmts b), .dat (.exprs e.kids)], [.dat (.ints vs), .dat (.ints ars), .dat (.stmts b), .dat (.exprs e.kids)], .v (.bool (m9 vs.length ars.length 0 e))⟩ := by
 have h100 : decide (n < 1) = true := by simp; omega
 refine J8 60 Tryz.func116 [dI vs, dI ars, dT b, dE e.kids] [(0, pA 0), (1, eA e 3), (2, iA n)] fun G => ?_; refine wp_seq (i9 G e6 [0, 1, 2, 3, 4, 12] [dI vs, dI ars, dT b, dE e.kids, .box (pL 0), .box (eL e 3)] [(2, iA n), (3, .ptr 4 0), (4, .ptr 5 0), (6, bA false)] fun G => b0 (wp_seq (wp_seq (bC5 G (J3 (fc (a := decide (n < 1)) (b := true) (by assumption) (fc (b := true) rfl fz)) (us [(3, 9, 0), (1010, 1010, 0), (12, 14, 1), (1015, 1015, 1), (17, 23, 1), (1024, 1024, 1)])) [0, 1, 3, 7, 15, 31, 7, 71, 199, 511, 1023, 2047, 4095, 8191, 16383, 32767, 65535, 131071, 262143, 131071, 131071, 1179647, 3801087, 8388607, 16777215] [(32, bA true)] fun G => b0 (rT G true (by kernel_rfl) (wp_seq (l6 G e6 [] fun G => b0 (wp_ret (o8 ?_))))))))); exact J9 G (rg 4)
theorem a77 (vs ars : List Int) (b : List c8) (d : Nat) (hd : d ≤ 5) (ih : ∀ (e : d8) (n : Int), n = d → l0.ok Tryz.prog ⟨116, [.agg [.ref 0, .ref 1, .ref 2], .agg [.v (.int .i64 e.kind), .v (.int .i64 e.value), .ref 3], .v (.int .i64 n)], [.dat (.ints vs), .dat (.ints ars), .dat (.stmts b), .dat (.exprs e.kids)], [.dat (.ints vs), .dat (.ints ars), .dat (.stmts b), .dat (.exprs e.kids)], .v (.bool (m9 vs.length ars.length d e))⟩)
    (e : d8) (n : Int) (hn : n = (d + 1 : Nat)) : l0.ok Tryz.prog ⟨116, [.agg [.ref 0, .ref 1, .ref 2], .agg [.v (.int .i64 e.kind), .v (.int .i64 e.value), .ref 3], .v (.int .i64 n)], [.dat (.ints vs), .dat (.ints ars), .dat (.stmts b), .dat (.exprs e.kids)], [.dat (.ints vs), .dat (.ints ars), .dat (.stmts b), .dat (.exprs e.kids)], .v (.bool (m9 vs.length ars.length (d + 1) e))⟩ := by
  have h100 : decide (n < 1) = false := by simp; omega
  refine J8 60 Tryz.func116 [dI vs, dI ars, dT b, dE e.kids] [(0, pA 0), (1, eA e 3), (2, iA n)] fun G => ?_; refine wp_seq (i9 G e6 [0, 1, 2, 3, 4, 12] [dI vs, dI ars, dT b, dE e.kids, .box (pL 0), .box (eL e 3)] [(2, iA n), (3, .ptr 4 0), (4, .ptr 5 0), (6, bA false)] fun G => b0 (wp_seq (wp_seq ?_))); cases h0 : ((e.kids.length : Int) != t5 e.kind)
  ·
   have q0 := bne_eq_false_iff_eq.1 h0; cases h1 : (decide (e.value < 0))
   ·
    have q1 := Z3 h1; refine bC5 G (T4 (F9 8 [] (ah4 e.kind) (F9 22 [0, 1, 2] (bk1 vs ars b e.kind) T3)) (fc (a := decide (n < 1)) (b := false) (by assumption) (fc h0 (fc h1 fz))) (us [(3, 9, 0), (1010, 1010, 0), (12, 14, 1), (1015, 1015, 1), (17, 23, 2), (1024, 1024, 2)])) [0, 1, 3, 7, 15, 31, 7, 71, 199, 511, 1023, 2047, 4095, 8191, 16383, 32767, 65535, 131071, 262143, 131071, 131071, 1179647, 3801087, 8388607, 16777215] [(32, bA (decide (e.value ≥ ai7 vs.length ars.length e.kind)))] fun G => b0 (rcD G (fun h2 q2 => ?_) fun h2 q2 => ?_)
    ·
     refine wp_skip (b0 (wp_seq (wp_seq (G9 G e6 [(2, iA n), (3, .ptr 4 0), (4, .ptr 5 0), (6, bA false), (7, iA 0)] fun G => b0 (wp_block ?_))))); refine x6 (κ := Nat) (fun k => k ≤ e.kids.length ∧ (e.kids.take k).all (m9 vs.length ars.length d) = true) (fun k => e.kids.length - k) (fun k => [dI vs, dI ars, dT b, dE e.kids, .box (pL 0), .box (eL e 3)]) (fun k => [(2, iA n), (3, .ptr 4 0), (4, .ptr 5 0), (6, bA false), (7, iA k)]) 0 (by simp [h100, h0, h1, h2]) (t7.at G _ _) ?_; clear G; intro k ρ a w hp G; have hlen : e.kids.length ≤ 9223372036854775807 := G.len 3 (d := .exprs e.kids) (by kernel_rfl); have hnode := a26 (nv := vs.length) (na := ars.length) q0 q1 q2; refine wp_seq (wp_seq (G9 G e6 [(2, iA n), (3, .ptr 4 0), (4, .ptr 5 0), (6, bA false), (7, iA k), (37, bA (decide ((k : Int) < e.kids.length)))] fun G => b0 (rcD G (fun h3 q3 => ?_) fun h3 q3 => ?_)))
     ·
      refine wp_exit (v9 (v9 (v6 (b0 (wp_seq ?_))))); cases h4 : (e.kind != 3)
      · have q4 := bne_eq_false_iff_eq.1 h4; refine K6 G (T4 (F9 8 [62] (aD1 (e.kids.getD 0 b71)) T3) (fc h4 fz) (us [(4, 8, 0), (1009, 1009, 0)])) (rg 4) [dI vs, dI ars, dT b, dE e.kids] [(6, bA (T6 (e.kids.getD 0 b71)))] (iX 0 0 e.kids.length []) (iK (by have := aJ7 q0 (by omega); omega) b84) fun G => b0 (wp_ret ?_); exact M0 (T6 (e.kids.getD 0 b71)) G (rg 4) (bA7 hnode (aD7 hp.2 (by omega)) (by omega) (aJ7 q0 (by omega)))
      · have q4 := bne_iff_ne.1 h4; refine i9 G (J3 (fc h4 fz) (us [(4, 8, 0), (1009, 1009, 0)])) (rg 4) [dI vs, dI ars, dT b, dE e.kids] [(6, bA true)] fun G => b0 (wp_ret ?_); exact M0 true G (rg 4) (bA8 hnode (aD7 hp.2 (by omega)) (by omega))
     ·
      refine wp_skip (b0 (wp_seq (wp_block (wp_seq (bg5 G (v5 8 [0, 1, 2, 46] (ih (e.kids.getD k b71) (n - 1) (by omega))) [0, 0, 2, 0, 14, 30, 0, 64, 255, 511] [(49, .v (.bool !m9 vs.length ars.length d (e.kids.getD k b71)))] (iX k k e.kids.length ((wO (n - 1)) :: [])) (iK (by omega) (o1 (by omega))) fun G => b0 ?_))))); cases h5 : (!m9 vs.length ars.length d (e.kids.getD k b71))
      · have q5 : (m9 vs.length ars.length d (e.kids.getD k b71)) = true := (Eq.mp (cb4 _) h5); refine rF G _ h5 (wp_skip (i8 (b0 (D0 G e6 [(7, iA ((k : Int) + 1))] [wO ((k : Int) + 1)] (o1 (by omega)) fun G => b0 ?_)))); exact L0 G (k + 1) (⟨by omega, a04 hp.2 (by omega) (by assumption)⟩) (by omega) (rg 6)
      · have q5 : (m9 vs.length ars.length d (e.kids.getD k b71)) = false := (Eq.mp (ca5 _) h5); refine rT G _ h5 (wp_seq (l6 G e6 [] fun G => b0 (wp_ret (E3 (o8 (o8 (E3 (o8 ?_)))))))); exact M0 false G (rg 4) (bA9 (k := k) (by omega) (by assumption))
    · refine wp_seq (l6 G e6 [] fun G => b0 (wp_ret (o8 ?_))); exact M0 false G (rg 4) (bB0 (by omega))
   · have q1 := Z2 h1; refine bC5 G (T4 (F9 8 [] (ah4 e.kind) T3) (fc (a := decide (n < 1)) (b := false) (by assumption) (fc h0 (fc h1 fz))) (us [(3, 9, 0), (1010, 1010, 0), (12, 14, 1), (1015, 1015, 1), (17, 23, 2), (1024, 1024, 2)])) [0, 1, 3, 7, 15, 31, 7, 71, 199, 511, 1023, 2047, 4095, 8191, 16383, 32767, 65535, 131071, 262143, 131071, 131071, 1179647, 3801087, 8388607, 16777215] [(32, bA true)] fun G => b0 (rT G true (by kernel_rfl) (wp_seq (l6 G e6 [] fun G => b0 (wp_ret (o8 ?_))))); exact M0 false G (rg 4) (bB1 (by omega))
  · have q0 := bne_iff_ne.1 h0; refine bC5 G (T4 (F9 8 [] (ah4 e.kind) T3) (fc (a := decide (n < 1)) (b := false) (by assumption) (fc h0 (fc (b := true) rfl fz))) (us [(3, 9, 0), (1010, 1010, 0), (12, 14, 1), (1015, 1015, 1), (17, 23, 2), (1024, 1024, 2)])) [0, 1, 3, 7, 15, 31, 7, 71, 199, 511, 1023, 2047, 4095, 8191, 16383, 32767, 65535, 131071, 262143, 131071, 131071, 1179647, 3801087, 8388607, 16777215] [(32, bA true)] fun G => b0 (rT G true (by kernel_rfl) (wp_seq (l6 G e6 [] fun G => b0 (wp_ret (o8 ?_))))); exact M0 false G (rg 4) (bB2 (by omega))
theorem aV8 (vs ars : List Int) (b : List c8) : ∀ (d : Nat), d ≤ 5 → ∀ (e : d8) (n : Int), n = d → l0.ok Tryz.prog ⟨116, [.agg [.ref 0, .ref 1, .ref 2], .agg [.v (.int .i64 e.kind), .v (.int .i64 e.value), .ref 3], .v (.int .i64 n)], [.dat (.ints vs), .dat (.ints ars), .dat (.stmts b), .dat (.exprs e.kids)], [.dat (.ints vs), .dat (.ints ars), .dat (.stmts b), .dat (.exprs e.kids)], .v (.bool (m9 vs.length ars.length d e))⟩
 | 0, _, e, n, hn => a78 vs ars b e n (by omega)
 | d + 1, hd, e, n, hn => a77 vs ars b d (by omega) (aV8 vs ars b d (by omega)) e n hn
theorem aD0 (vs ars : List Int) (b : List c8) (ky vy : Int) (ks : List d8) (n : Int) (hn : n = 5) : l0.ok Tryz.prog (Z1 116 [pA 0, .agg [iA ky, iA vy, .ref 3], iA n] [dI vs, dI ars, dT b, dE ks] (bA (m9 vs.length ars.length 5 ⟨ky, vy, ks⟩))) := aV8 vs ars b 5 (by omega) ⟨ky, vy, ks⟩ n hn
def cnP (d : Nat) (ks : List d8) (k : Nat) : Nat := 1 + ((ks.take k).map (ad2 d)).sum
theorem bX8 (d : Nat) (ks : List d8) : cnP d ks 0 = 1 := rfl
theorem aY8 {d : Nat} {ks : List d8} {k : Nat} (hk : k < ks.length) : cnP d ks (k + 1) = cnP d ks k + ad2 d (ks.getD k b71) := by
 unfold cnP
 rw [G4 ks k hk, List.map_append, List.sum_append, r7 hk]
 simp; omega
theorem bG2 {d : Nat} {e : d8} {k : Nat} (hk : e.kids.length ≤ k) : cnP d e.kids k = ad2 (d + 1) e := by
 unfold cnP; rw [b89 hk, ad2]
section
variable {nv na d : Nat} {e : d8}
theorem a69 (he : m9 nv na (d + 1) e = true) {k : Nat} (hk : k < e.kids.length) : m9 nv na d (e.kids.getD k b71) = true := by
 rw [r7 hk]; exact (ak7 he).2 _ (b91 hk)
theorem bX7 (hd : d ≤ 5) (he : m9 nv na d e = true) : ad2 d e ≤ 1024 := by
 rw [aY7 nv na d e he]
 refine b97 (bo3 nv na d e he) ?_
 exact b97 (Nat.pow_le_pow_right (by decide) hd) (by decide)
theorem bJ8 (hd : d ≤ 4) (he : m9 nv na (d + 1) e = true) : ∀ k : Nat, k ≤ e.kids.length → cnP d e.kids k ≤ 1 + 1024 * k
 | 0, _ => by rw [bX8]; omega
 | k + 1, hk => by
  have h := bJ8 hd he k (by omega)
  have h2 := bX7 (by omega) (a69 he (show k < e.kids.length by omega))
  rw [aY8 (by omega)]
  omega
end
abbrev cnC (d : Nat) (e : d8) (n : Int) : l0 := Z1 117 [eA e 0, iA n] (eS e) (iA (ad2 d e : Nat))
theorem bg2 (nv na d : Nat) (hd : d ≤ 4) (ih : ∀ (e : d8), m9 nv na d e = true → ∀ n : Int, n = d → l0.ok Tryz.prog (cnC d e n)) (e : d8) (he : m9 nv na (d + 1) e = true) (n : Int) (hn : n = (d + 1 : Nat)) : l0.ok Tryz.prog (cnC (d + 1) e n) := by
  have hk3 := (ak7 he).1; refine J8 29 Tryz.func117 [dE e.kids] [(0, eA e 0), (1, iA n)] fun G => ?_; refine wp_seq (i9 G e6 [0, 1] [dE e.kids, .box (eL e 0)] [(1, iA n), (2, .ptr 1 0), (4, iA 0)] fun G => b0 (wp_seq (l6 G e6 [(5, iA 1)] fun G => b0 (wp_seq (wp_seq (G9 G e6 [(1, iA n), (2, .ptr 1 0), (4, iA 0), (5, iA 1), (6, iA 0)] fun G => b0 (wp_block ?_))))))); refine x6 (κ := Nat) (fun k => k ≤ e.kids.length) (fun k => e.kids.length - k) (fun k => [dE e.kids, .box (eL e 0)]) (fun k => [(1, iA n), (2, .ptr 1 0), (4, iA 0), (5, iA (cnP d e.kids k : Nat)), (6, iA k)]) 0 (by omega) (t7.at G _ _) ?_; clear G; intro k ρ a w hp G; replace G := t7.at G [dE e.kids, .box (eL e 0)] [(1, iA n), (2, .ptr 1 0), (4, iA 0), (5, iA (↑(cnP d e.kids k) : Int)), (6, iA k)]; have hcb := bJ8 hd he k hp; refine wp_seq (wp_seq ?_); cases h0 : (decide ((k : Int) < e.kids.length))
  · have q0 := Z3 h0; refine l6 G (J3 (fc h0 fz) [(6, 0), (7, 0), (1008, 0)]) [(15, bA false)] fun G => b0 (rF G false (by kernel_rfl) (wp_exit (v9 (v9 (v6 (b0 (wp_seq (i9 G e6 [0] [dE e.kids] [(4, iA (↑(cnP d e.kids k) : Int))] fun G => b0 (wp_ret ?_))))))))); exact rxI ((↑(cnP d e.kids k) : Int)) G [0] (by rw [← bG2 (k := k) (by omega)]; done)
  ·
   have q0 := Z2 h0; refine G9 G (J3 (fc h0 fz) [(6, 0), (7, 0), (1008, 0)]) [(1, iA n), (2, .ptr 1 0), (4, iA 0), (5, iA (↑(cnP d e.kids k) : Int)), (6, iA k), (15, bA (decide (n > 0)))] fun G => b0 ?_; cases h1 : (decide (n > 0))
   · have q1 := Z3 h1; exact False.elim (by omega)
   · have q1 := Z2 h1; refine rT G _ h1 (wp_skip (b0 (wp_seq (wp_block (D0 G (v5 8 [42] (ih (e.kids.getD k b71) (a69 he (by omega)) (n - 1) (by omega))) [(5, iA ((↑(cnP d e.kids k) : Int) + (↑(ad2 d (e.kids.getD k b71)) : Int)))] (iX k k e.kids.length ((wO (n - 1)) :: ((wO ((↑(cnP d e.kids k) : Int) + (↑(ad2 d (e.kids.getD k b71)) : Int))) :: []))) (iK (by omega) ⟨oW (by omega), ⟨(by have h9 := bX7 (nv := nv) (na := na) (d := d) (by omega) (a69 he (show k < e.kids.length by omega)); exact w64 (by omega) (by omega)), b84⟩⟩) fun G => i8 (b0 (D0 G e6 [(6, iA ((k : Int) + 1))] [wO ((k : Int) + 1)] (o1 (by omega)) fun G => b0 ?_))))))); exact L0 G (k + 1) (by omega) (by omega) [0, 1] (ht := by have e1 : ((↑(cnP d e.kids (k + 1)) : Int) : Int) = ((↑(cnP d e.kids k) : Int) + (↑(ad2 d (e.kids.getD k b71)) : Int)) := (by rw [aY8 (by omega)]; omega); (first | rw [e1] | simp only [e1]) <;> rfl)
theorem aV9 (nv na : Nat) : ∀ (d : Nat), d ≤ 5 → ∀ (e : d8), m9 nv na d e = true → ∀ n : Int, n = d → l0.ok Tryz.prog (cnC d e n)
 | 0, _, e, h, _, _ => by simp [m9] at h
 | d + 1, hd, e, h, n, hn => bg2 nv na d (by omega) (aV9 nv na d (by omega)) e h n hn
theorem a80 (nv na : Nat) (ky vy : Int) (ks : List d8) (n : Int) (hn : n = 5) (h : m9 nv na 5 ⟨ky, vy, ks⟩ = true) : l0.ok Tryz.prog (Z1 117 [.agg [iA ky, iA vy, .ref 0], iA n] [dE ks] (iA (ad2 5 ⟨ky, vy, ks⟩ : Nat))) := aV9 nv na 5 (by omega) ⟨ky, vy, ks⟩ h n hn
theorem b20 {nv na : Nat} {e : d8} (h : m9 nv na 5 ⟨e.kind, e.value, e.kids⟩ = false) : t0 nv na e = false := by
 rw [d8.eta] at h
 unfold t0; rw [h]; rfl
theorem b19 {nv na : Nat} {e : d8} (h : m9 nv na 5 ⟨e.kind, e.value, e.kids⟩ = true) : t0 nv na e = decide ((ad2 5 ⟨e.kind, e.value, e.kids⟩ : Int) ≤ 15) := by
 rw [d8.eta] at h ⊢
 rw [a33, h, Bool.true_and, ca0]
 simp only [decide_eq_true_eq]; omega
section
variable {s : c8}
theorem b28 (h : s.kind = 4) (h2 : ¬ (s.els.length : Int) = 0) : o6 s = false := by
 unfold o6; rw [if_pos (.inr h), if_pos h, decide_eq_false (p := s.els.length = 0) (by omega)]; simp
theorem b31 (h : s.kind = 4) (h1 : s.target = 0) (h2 : (s.els.length : Int) = 0) (h3 : s.count ≥ 1) (h4 : s.count ≤ 3) (h5 : noneB s.index = true) : o6 s = noneB s.value := by
 unfold o6; rw [if_pos (.inr h), if_pos h, decide_eq_true (p := s.els.length = 0) (by omega), decide_eq_true h1, decide_eq_true (p := 1 ≤ s.count) h3, decide_eq_true h4, h5]; simp
theorem b30 (h3 : ¬ s.kind = 3) (h4 : ¬ s.kind = 4) (b : ¬ (s.body.length : Int) > 0) (e : ¬ (s.els.length : Int) > 0) (c : s.count = 0) (h2 : ¬ s.kind = 2) : o6 s = noneB s.index := by
 unfold o6; rw [if_neg (by omega), decide_eq_true (p := s.body.length = 0) (by omega), decide_eq_true (p := s.els.length = 0) (by omega), decide_eq_true c, decide_eq_false h2]; simp
theorem b29 (b : ¬ (s.body.length : Int) > 0) (e : ¬ (s.els.length : Int) > 0) (c : s.count = 0) (h2 : s.kind = 2) : o6 s = true := by
 unfold o6; rw [if_neg (by omega), decide_eq_true (p := s.body.length = 0) (by omega), decide_eq_true (p := s.els.length = 0) (by omega), decide_eq_true c, decide_eq_true h2]; simp
theorem b27 (h3 : ¬ s.kind = 3) (h4 : ¬ s.kind = 4) (e : (s.els.length : Int) > 0) : o6 s = false := by
 unfold o6; rw [if_neg (by omega), decide_eq_false (p := s.els.length = 0) (by omega)]; simp
theorem b26 (h3 : ¬ s.kind = 3) (h4 : ¬ s.kind = 4) (e : (s.body.length : Int) > 0) : o6 s = false := by
 unfold o6; rw [if_neg (by omega), decide_eq_false (p := s.body.length = 0) (by omega)]; simp
end
theorem I4 (p : j9) (e : d8) : l0.ok Tryz.prog (Z1 112 [pA 0, eA e 3] (pS p ++ eS e) (bA (t0 p.vars.length p.arrays.length e))) := by
 have hcn := fun h => a80 p.vars.length p.arrays.length e.kind e.value e.kids 5 rfl h
 refine J8 13 Tryz.func112 [dI p.vars, dI p.arrays, dT p.body, dE e.kids] [(0, pA 0), (1, eA e 3)] fun G => ?_; refine wp_seq (i9 G e6 [0, 1, 2, 3, 4, 12] [dI p.vars, dI p.arrays, dT p.body, dE e.kids, .box (pL 0), .box (eL e 3)] [(2, .ptr 4 0), (3, .ptr 5 0), (4, bA false)] fun G => b0 (wp_seq ?_)); cases h0 : (m9 p.vars.length p.arrays.length (5 : Nat) (qzE e))
 ·refine i9 G (T4 (F9 2 (rg 4) (aD0 p.vars p.arrays p.body e.kind e.value e.kids 5 (by kernel_rfl)) T3) (fc h0 fz) [(4, 0), (5, 0), (6, 0), (1007, 0)]) (rg 4) [dI p.vars, dI p.arrays, dT p.body, dE e.kids] [(4, bA false)] fun G => b0 (wp_ret ?_); exact M0 false G (rg 4) (b20 (by with_reducible assumption))
 ·refine i9 G (T4 (F9 2 (rg 4) (aD0 p.vars p.arrays p.body e.kind e.value e.kids 5 (by kernel_rfl)) (F9 5 [3] (hcn (by assumption)) T3)) (fc h0 fz) [(4, 0), (5, 0), (6, 0), (1007, 0)]) (rg 4) [dI p.vars, dI p.arrays, dT p.body, dE e.kids] [(4, bA (decide ((↑(ad2 5 (qzE e)) : Int) ≤ 15)))] fun G => b0 (wp_ret ?_); exact M0 (decide ((↑(ad2 5 (qzE e)) : Int) ≤ 15)) G (rg 4) (b19 (by with_reducible assumption))
abbrev aw5 (s : c8) (r0 : List It) : List It := dE s.index.kids :: dE s.value.kids :: dT s.body :: dT s.els :: r0
theorem bk0 (s : c8) : l0.ok Tryz.prog (Z1 113 [sA s 0] (sS s) (bA (o6 s))) := by
  refine J8 74 Tryz.func113 (aw5 s []) [(0, sA s 0)] fun G => ?_; refine wp_seq (i9 G e6 (rg 5) (aw5 s [.box (sL s 0)]) [(1, .ptr 4 0), (2, bA false)] fun G => b0 (wp_seq ?_)); cases h0 : (s.kind == 3)
  ·
   have q0 := ne_of_beq_false h0; refine G9 G (J3 (fc h0 fz) [(4, 0), (5, 0), (6, 0), (1007, 0)]) [(1, .ptr 4 0), (2, bA false), (3, bA (s.kind == 4))] fun G => b0 (wp_seq (wp_seq ?_)); cases h1 : (!s.kind == 4)
   ·
    have q1 : s.kind = 4 := (fun hq => eq_of_beq hq) (Eq.mp (cb4 _) h1); cases h2 : (s.kind == 4)
    · have q2 := ne_of_beq_false h2; exact False.elim (by omega)
    ·
     have q2 := eq_of_beq h2; refine l6 G (J3 (fc h1 (fc (b := false) rfl (fc h2 fz))) (us [(3, 7, 0), (12, 12, 0), (1013, 1013, 0), (15, 16, 1), (17, 19, 2), (20, 20, 1), (1020, 1020, 2), (1021, 1021, 1)])) [(33, bA (s.target != 0))] fun G => b0 (rcN G (fun h3 q3 => ?_) fun h3 q3 => ?_)
     ·
      refine wp_skip (b0 (wp_seq (wp_seq (l6 G e6 [(36, bA (s.kind == 4))] fun G => b0 (rT G _ h2 (wp_seq ?_)))))); cases h4 : ((s.els.length : Int) == 0)
      · have q4 := ne_of_beq_false h4; refine l6 G (J3 (fc h4 (fc (b := false) rfl fz)) (us [(5, 7, 0), (1008, 1008, 0), (10, 12, 1), (1013, 1013, 1), (15, 17, 1), (1018, 1018, 1), (20, 22, 1), (1023, 1023, 1)])) [] fun G => b0 (wp_ret (o8 ?_)); exact M0 false G (rg 4) (b28 (by omega) (by omega))
      ·
       have q4 := eq_of_beq h4; cases h5 : (decide (s.count ≥ 1))
       · have q5 := Z3 h5; refine l6 G (J3 (fc h4 (fc h5 (fc (b := false) rfl fz))) (us [(5, 7, 0), (1008, 1008, 0), (10, 12, 1), (1013, 1013, 1), (15, 17, 2), (1018, 1018, 2), (20, 22, 2), (1023, 1023, 2)])) [] fun G => b0 (wp_ret (o8 ?_)); exact M0 false G (rg 4) (by rw [ca0]; simp [o6, h0, q0, h1, q1, h2, q2, h3, q3, h4, q4, h5, q5]; done)
       ·
        have q5 := Z2 h5; cases h6 : (decide (s.count ≤ 3))
        · have q6 := Z3 h6; refine l6 G (J3 (fc h4 (fc h5 (fc h6 (fc (b := false) rfl fz)))) (us [(5, 7, 0), (1008, 1008, 0), (10, 12, 1), (1013, 1013, 1), (15, 17, 2), (1018, 1018, 2), (20, 22, 3), (1023, 1023, 3)])) [] fun G => b0 (wp_ret (o8 ?_)); exact M0 false G (rg 4) (by rw [ca0]; simp [o6, h0, q0, h1, q1, h2, q2, h3, q3, h4, q4, h5, q5, h6, q6]; done)
        ·
         have q6 := Z2 h6; cases h7 : (noneB s.index)
         · refine l6 G (T4 (F9 17 [0] (af5 s.index) T3) (fc h4 (fc h5 (fc h6 (fc h7 fz)))) (us [(5, 7, 0), (1008, 1008, 0), (10, 12, 1), (1013, 1013, 1), (15, 17, 2), (1018, 1018, 2), (20, 22, 3), (1023, 1023, 3)])) [] fun G => b0 (wp_ret (o8 ?_)); exact M0 false G (rg 4) (by rw [ca0]; simp [o6, h0, q0, h1, q1, h2, q2, h3, q3, h4, q4, h5, q5, h6, q6, h7]; done)
         · refine l6 G (T4 (F9 17 [0] (af5 s.index) (F9 22 [1] (af5 s.value) T3)) (fc h4 (fc h5 (fc h6 (fc h7 fz)))) (us [(5, 7, 0), (1008, 1008, 0), (10, 12, 1), (1013, 1013, 1), (15, 17, 2), (1018, 1018, 2), (20, 22, 3), (1023, 1023, 3)])) [(2, bA (noneB s.value))] fun G => b0 (wp_ret (o8 ?_)); exact M0 (noneB s.value) G (rg 4) (b31 (by omega) (by omega) (by omega) (by omega) (by omega) (by with_reducible assumption))
     · refine wp_seq (l6 G e6 [] fun G => b0 (wp_ret (o8 ?_))); exact M0 false G (rg 4) (by rw [ca0]; simp [o6, h0, q0, h1, q1, h2, q2, h3, q3]; done)
   ·
    have q1 : ¬ (s.kind = 4) := (fun hq => ne_of_beq_false hq) (Eq.mp (ca5 _) h1); cases h8 : (decide ((s.body.length : Int) > 0))
    ·
     have q8 := Z3 h8; cases h9 : (decide ((s.els.length : Int) > 0))
     ·
      have q9 := Z3 h9; cases h10 : (s.kind == 4)
      ·
       have q10 := ne_of_beq_false h10; refine l6 G (J3 (fc h1 (fc h8 (fc h9 (fc h10 fz)))) (us [(3, 7, 0), (8, 11, 1), (12, 12, 0), (1012, 1012, 1), (1013, 1013, 0), (15, 16, 2), (17, 19, 3), (20, 20, 2), (1020, 1020, 3), (1021, 1021, 2)])) [(33, bA false)] fun G => b0 (rF G false (by kernel_rfl) (wp_skip (b0 (wp_seq (wp_seq (l6 G e6 [(36, bA (s.kind == 4))] fun G => b0 (rF G _ h10 (wp_skip (b0 (wp_seq ?_)))))))))); cases h11 : (s.count == 0)
       · have q11 := ne_of_beq_false h11; refine i9 G (J3 (fc h11 fz) (us [(4, 7, 0), (11, 11, 0), (1012, 1012, 0)])) (rg 4) (aw5 s []) [(2, bA false)] fun G => b0 (wp_ret ?_); exact M0 false G (rg 4) (by rw [ca0]; simp [o6, h0, q0, h1, q1, h8, q8, h9, q9, h10, q10, h11, q11]; done)
       ·
        have q11 := eq_of_beq h11; cases h12 : (s.kind == 2)
        · have q12 := ne_of_beq_false h12; refine i9 G (T4 (F9 10 [0] (af5 s.index) T3) (fc h11 (fc h12 fz)) (us [(4, 7, 0), (8, 10, 1), (11, 11, 0), (1011, 1011, 1), (1012, 1012, 0)])) (rg 4) (aw5 s []) [(2, bA (noneB s.index))] fun G => b0 (wp_ret ?_); exact M0 (noneB s.index) G (rg 4) (b30 (by omega) (by omega) (by omega) (by omega) (by omega) (by omega))
        · have q12 := eq_of_beq h12; refine i9 G (J3 (fc h11 (fc h12 fz)) (us [(4, 7, 0), (8, 10, 1), (11, 11, 0), (1011, 1011, 1), (1012, 1012, 0)])) (rg 4) (aw5 s []) [(2, bA true)] fun G => b0 (wp_ret ?_); exact M0 true G (rg 4) (b29 (by omega) (by omega) (by omega) (by omega))
      · have q10 := eq_of_beq h10; exact False.elim (by omega)
     · have q9 := Z2 h9; refine l6 G (J3 (fc h1 (fc h8 (fc h9 fz))) (us [(3, 7, 0), (8, 11, 1), (12, 12, 0), (1012, 1012, 1), (1013, 1013, 0), (15, 16, 2), (20, 20, 2), (1021, 1021, 2)])) [(33, bA true)] fun G => b0 (rT G true (by kernel_rfl) (wp_seq (l6 G e6 [] fun G => b0 (wp_ret (o8 ?_))))); exact M0 false G (rg 4) (b27 (by omega) (by omega) (by omega))
    · have q8 := Z2 h8; refine l6 G (J3 (fc h1 (fc h8 (fc (b := true) rfl fz))) (us [(3, 7, 0), (8, 11, 1), (12, 12, 0), (1012, 1012, 1), (1013, 1013, 0), (15, 16, 2), (20, 20, 2), (1021, 1021, 2)])) [(33, bA true)] fun G => b0 (rT G true (by kernel_rfl) (wp_seq (l6 G e6 [] fun G => b0 (wp_ret (o8 ?_))))); exact M0 false G (rg 4) (b26 (by omega) (by omega) (by omega))
  ·
   have q0 := eq_of_beq h0; refine l6 G (J3 (fc h0 fz) [(4, 0), (5, 0), (6, 0), (1007, 0)]) [(3, bA true)] fun G => b0 (wp_seq (wp_seq (l6 G (J3 (fc (b := false) rfl (fc (b := true) rfl fz)) (us [(3, 7, 0), (12, 12, 0), (1013, 1013, 0), (15, 16, 0), (17, 19, 1), (20, 20, 0), (1020, 1020, 1), (1021, 1021, 0)])) [(33, bA (s.target != 0))] fun G => b0 (rcN G (fun h13 q13 => ?_) fun h13 q13 => ?_))))
   ·
    refine wp_skip (b0 (wp_seq (wp_seq (G9 G e6 [(1, .ptr 4 0), (2, bA false), (36, bA (s.kind == 4))] fun G => b0 ?_)))); cases h14 : (s.kind == 4)
    ·
     have q14 := ne_of_beq_false h14; refine rF G _ h14 (wp_skip (b0 (wp_seq ?_))); cases h15 : (s.count == 0)
     · have q15 := ne_of_beq_false h15; refine i9 G (J3 (fc h15 fz) (us [(4, 7, 0), (11, 11, 0), (1012, 1012, 0)])) (rg 4) (aw5 s []) [(2, bA false)] fun G => b0 (wp_ret ?_); exact M0 false G (rg 4) (by rw [ca0]; simp [o6, h0, q0, h13, q13, h14, q14, h15, q15]; done)
     ·
      have q15 := eq_of_beq h15; cases h16 : (s.kind == 2)
      · have q16 := ne_of_beq_false h16; refine i9 G (T4 (F9 10 [0] (af5 s.index) T3) (fc h15 (fc h16 fz)) (us [(4, 7, 0), (8, 10, 1), (11, 11, 0), (1011, 1011, 1), (1012, 1012, 0)])) (rg 4) (aw5 s []) [(2, bA (noneB s.index))] fun G => b0 (wp_ret ?_); exact M0 (noneB s.index) G (rg 4) (by rw [ca0]; simp [o6, h0, q0, h13, q13, h14, q14, h15, q15, h16, q16]; done)
      · have q16 := eq_of_beq h16; exact False.elim (by omega)
    · have q14 := eq_of_beq h14; exact False.elim (by omega)
   · refine wp_seq (l6 G e6 [] fun G => b0 (wp_ret (o8 ?_))); exact M0 false G (rg 4) (by rw [ca0]; simp [o6, h0, q0, h13, q13]; done)
abbrev vbC (p : j9) (d : Nat) (ss : List c8) (n : Int) : l0 := Z1 93 [pA 0, .ref 3, iA n] (pS p ++ [dT ss]) (bA (ss.all (m8 p.vars.length p.arrays.length d)))
abbrev vsC (p : j9) (d : Nat) (s : c8) (n : Int) : l0 := Z1 105 [pA 0, sA s 3, iA n] (pS p ++ sS s) (bA (m8 p.vars.length p.arrays.length d s))
theorem bg1 (p : j9) (s : c8) (n : Int) (hn : n = 0) : l0.ok Tryz.prog (vsC p 0 s n) := by
 refine J8 96 Tryz.func105 [dI p.vars, dI p.arrays, dT p.body, dE s.index.kids, dE s.value.kids, dT s.body, dT s.els] [(0, pA 0), (1, sA s 3), (2, iA n)] fun G => ?_; refine wp_seq (i9 G e6 [0, 1, 2, 3, 4, 5, 6, 7, 15] [dI p.vars, dI p.arrays, dT p.body, dE s.index.kids, dE s.value.kids, dT s.body, dT s.els, .box (pL 0), .box (sL s 3)] [(2, iA n), (3, .ptr 7 0), (4, .ptr 8 0), (6, bA false)] fun G => b0 (wp_seq (wp_seq ?_))); cases h0 : (decide (n < 1))
 ·have q0 := Z3 h0; exact False.elim (by omega)
 ·have q0 := Z2 h0; refine l6 G (J3 (fc h0 fz) [(3, 0), (4, 0), (5, 0), (1006, 0)]) [(13, bA true)] fun G => b0 (rT G true (by kernel_rfl) (wp_seq (l6 G e6 [] fun G => b0 (wp_ret (o8 ?_))))); exact J9 G (rg 7)
section
variable {nv na d : Nat} {s : c8}
theorem b15 (h : o6 s = false) : m8 nv na (d + 1) s = false := by rw [m8, h]; rfl
theorem bL4 (hp : o6 s = true) (h : s.kind = 1 ∨ s.kind = 5) : m8 nv na (d + 1) s = (decide (0 ≤ s.target) && decide (s.target < nv) && t0 nv na s.value) := by rw [m8, hp, if_pos h]; rfl
theorem bn8 (hp : o6 s = true) (h : s.kind = 2) : m8 nv na (d + 1) s = (decide (0 ≤ s.target) && decide (s.target < na) && t0 nv na s.index && T6 s.index && t0 nv na s.value) := by rw [m8, hp, if_neg (by omega), if_pos h]; rfl
theorem bL3 (hp : o6 s = true) (h : s.kind = 3) : m8 nv na (d + 1) s = (t0 nv na s.value && s.body.all (m8 nv na d) && s.els.all (m8 nv na d)) := by rw [m8, hp, if_neg (by omega), if_neg (by omega), if_pos h]; rfl
theorem b16 (hp : o6 s = true) (h : s.kind = 4) : m8 nv na (d + 1) s = s.body.all (m8 nv na d) := by rw [m8, hp, if_neg (by omega), if_neg (by omega), if_neg (by omega), if_pos h]; rfl
theorem bI5 (hp : o6 s = true) (h : s.kind = 1 ∨ s.kind = 5) (q : ¬ s.target ≥ 0) : m8 nv na (d + 1) s = false := by rw [bL4 hp h, decide_eq_false (p := 0 ≤ s.target) q]; rfl
theorem bI4 (hp : o6 s = true) (h : s.kind = 1 ∨ s.kind = 5) (q : ¬ s.target < (nv : Int)) : m8 nv na (d + 1) s = false := by rw [bL4 hp h, decide_eq_false q, Bool.and_false]; rfl
theorem bI3 (hp : o6 s = true) (h : s.kind = 1 ∨ s.kind = 5) (q : s.target ≥ 0) (r : s.target < (nv : Int)) : m8 nv na (d + 1) s = t0 nv na s.value := by rw [bL4 hp h, decide_eq_true (p := 0 ≤ s.target) q, decide_eq_true r]; rfl
theorem bT1 (hp : o6 s = true) (h : s.kind = 2) (q : ¬ s.target ≥ 0) : m8 nv na (d + 1) s = false := by rw [bn8 hp h, decide_eq_false (p := 0 ≤ s.target) q]; rfl
theorem bT0 (hp : o6 s = true) (h : s.kind = 2) (q : ¬ s.target < (na : Int)) : m8 nv na (d + 1) s = false := by rw [bn8 hp h, decide_eq_false q, Bool.and_false]; rfl
theorem bS9 (hp : o6 s = true) (h : s.kind = 2) (q : t0 nv na s.index = false) : m8 nv na (d + 1) s = false := by rw [bn8 hp h, q, Bool.and_false]; rfl
theorem bS8 (hp : o6 s = true) (h : s.kind = 2) (q : T6 s.index = false) : m8 nv na (d + 1) s = false := by rw [bn8 hp h, q, Bool.and_false]; rfl
theorem bS7 (hp : o6 s = true) (h : s.kind = 2) (q : s.target ≥ 0) (r : s.target < (na : Int)) (u : t0 nv na s.index = true) (v : T6 s.index = true) : m8 nv na (d + 1) s = t0 nv na s.value := by rw [bn8 hp h, decide_eq_true (p := 0 ≤ s.target) q, decide_eq_true r, u, v]; rfl
theorem bS6 (hp : o6 s = true) (h : s.kind = 3) (q : t0 nv na s.value = false) : m8 nv na (d + 1) s = false := by rw [bL3 hp h, q]; rfl
theorem bS5 (hp : o6 s = true) (h : s.kind = 3) (q : s.body.all (m8 nv na d) = false) : m8 nv na (d + 1) s = false := by rw [bL3 hp h, q, Bool.and_false]; rfl
theorem bS4 (hp : o6 s = true) (h : s.kind = 3) (q : t0 nv na s.value = true) (r : s.body.all (m8 nv na d) = true) : m8 nv na (d + 1) s = s.els.all (m8 nv na d) := by rw [bL3 hp h, q, r]; rfl
theorem b17 (h1 : ¬ s.kind = 1) (h2 : ¬ s.kind = 2) (h3 : ¬ s.kind = 3) (h4 : ¬ s.kind = 4) (h5 : ¬ s.kind = 5) : m8 nv na (d + 1) s = false := by rw [m8, if_neg (by omega), if_neg h2, if_neg h3, if_neg h4]; simp
end
abbrev P3 (p : j9) (s : c8) (r0 : List It) : List It := dI p.vars :: dI p.arrays :: dT p.body :: dE s.index.kids :: dE s.value.kids :: dT s.body :: dT s.els :: r0
theorem bp1 (p : j9) (d : Nat) (hB : ∀ (ss : List c8) (n : Int), n = d → l0.ok Tryz.prog (vbC p d ss n)) (s : c8) (n : Int) (hn : n = (d + 1 : Nat)) (hd : d ≤ 5) : l0.ok Tryz.prog (vsC p (d + 1) s n) := by
  refine J8 96 Tryz.func105 (P3 p s []) [(0, pA 0), (1, sA s 3), (2, iA n)] fun G => ?_; refine wp_seq (i9 G e6 [0, 1, 2, 3, 4, 5, 6, 7, 15] (P3 p s [.box (pL 0), .box (sL s 3)]) [(2, iA n), (3, .ptr 7 0), (4, .ptr 8 0), (6, bA false)] fun G => b0 (wp_seq (wp_seq ?_))); cases h0 : (decide (n < 1))
  ·
   have q0 := Z3 h0; refine l6 G (T4 (F9 4 [3, 4, 5, 6] (bk0 s) T3) (fc h0 fz) [(3, 0), (4, 0), (5, 0), (1006, 0)]) [(13, .v (.bool !o6 s))] fun G => b0 ?_; cases h1 : (!o6 s)
   ·
    have q1 : (o6 s) = true := (Eq.mp (cb4 _) h1); refine rF G _ h1 (wp_skip (b0 (wp_seq (wp_seq (l6 G e6 [(15, iA s.kind)] fun G => b0 (wp_block (wp_seq (wp_seq (l6 G e6 [(16, bA (s.kind == 1))] fun G => b0 (P0 G (fun h2 q2 => ?_) fun h2 q2 => ?_))))))))))
    ·
     refine l6 G e6 [(16, bA (s.kind == 5))] fun G => b0 (P0 G (fun h3 q3 => ?_) fun h3 q3 => ?_)
     ·
      refine wp_seq (l6 G e6 [(36, bA (s.kind == 2))] fun G => b0 (P0 G (fun h4 q4 => ?_) fun h4 q4 => ?_))
      ·
       refine wp_seq (l6 G e6 [(66, bA (s.kind == 3))] fun G => b0 (P0 G (fun h5 q5 => ?_) fun h5 q5 => ?_))
       ·
        refine wp_seq (l6 G e6 [(88, bA (s.kind == 4))] fun G => b0 (P0 G (fun h6 q6 => ?_) fun h6 q6 => ?_))
        · refine wp_skip (i8 (b0 (wp_seq (i9 G e6 (rg 7) (P3 p s []) [(6, bA false)] fun G => b0 (wp_ret ?_))))); exact M0 false G (rg 7) (b17 (by omega) (by omega) (by omega) (by omega) (by omega))
        · refine wp_seq (K6 G (v5 5 [0, 1, 2, 5] (hB s.body (n - 1) (by omega))) (rg 7) (P3 p s []) [(6, bA (s.body.all (m8 p.vars.length p.arrays.length d)))] [wO (n - 1)] (o1 (by omega)) fun G => b0 (wp_ret (E3 (o8 ?_)))); exact M0 (s.body.all (m8 p.vars.length p.arrays.length d)) G (rg 7) (b16 (by with_reducible assumption) (by omega))
       ·
        refine wp_seq ?_; cases h7 : (t0 p.vars.length p.arrays.length s.value)
        · refine i9 G (T4 (F9 3 [0, 1, 2, 4] (I4 p s.value) T3) (fc h7 (fc (b := false) rfl fz)) (us [(5, 10, 0), (1011, 1011, 0), (13, 18, 1), (1019, 1019, 1)])) (rg 7) (P3 p s []) [(6, bA false)] fun G => b0 (wp_ret (E3 (o8 ?_))); exact M0 false G (rg 7) (bS6 (by with_reducible assumption) (by omega) (by with_reducible assumption))
        ·
         cases h8 : (s.body.all (m8 p.vars.length p.arrays.length d))
         · refine K6 G (T4 (F9 3 [0, 1, 2, 4] (I4 p s.value) (F9 10 [0, 1, 2, 5] (hB s.body (n - 1) (by omega)) T3)) (fc h7 (fc h8 fz)) (us [(5, 10, 0), (1011, 1011, 0), (13, 18, 1), (1019, 1019, 1)])) (rg 7) (P3 p s []) [(6, bA false)] [wO (n - 1)] (o1 (by omega)) fun G => b0 (wp_ret (E3 (o8 ?_))); exact M0 false G (rg 7) (bS5 (by with_reducible assumption) (by omega) (by with_reducible assumption))
         · refine K6 G (T4 (F9 3 [0, 1, 2, 4] (I4 p s.value) (F9 10 [0, 1, 2, 5] (hB s.body (n - 1) (by omega)) (F9 18 [0, 1, 2, 6] (hB s.els (n - 1) (by omega)) T3))) (fc h7 (fc h8 fz)) (us [(5, 10, 0), (1011, 1011, 0), (13, 18, 1), (1019, 1019, 1)])) (rg 7) (P3 p s []) [(6, bA (s.els.all (m8 p.vars.length p.arrays.length d)))] [wO (n - 1), wO (n - 1)] (o2 (by omega)) fun G => b0 (wp_ret (E3 (o8 ?_))); exact M0 (s.els.all (m8 p.vars.length p.arrays.length d)) G (rg 7) (bS4 (by with_reducible assumption) (by omega) (by with_reducible assumption) (by with_reducible assumption))
      ·
       refine wp_seq ?_; cases h9 : (decide (s.target ≥ 0))
       · have q9 := Z3 h9; refine i9 G (J3 (fc h9 (fc (b := false) rfl fz)) (us [(4, 9, 0), (1010, 1010, 0), (12, 15, 1), (1016, 1016, 1), (18, 20, 1), (1021, 1021, 1), (23, 26, 1), (1027, 1027, 1)])) (rg 7) (P3 p s []) [(6, bA false)] fun G => b0 (wp_ret (E3 (o8 ?_))); exact M0 false G (rg 7) (bT1 (by with_reducible assumption) (by omega) (by omega))
       ·
        have q9 := Z2 h9; cases h10 : (decide (s.target < (p.arrays.length : Int)))
        · have q10 := Z3 h10; refine i9 G (J3 (fc h9 (fc h10 (fc (b := false) rfl fz))) (us [(4, 9, 0), (1010, 1010, 0), (12, 15, 1), (1016, 1016, 1), (18, 20, 2), (1021, 1021, 2), (23, 26, 2), (1027, 1027, 2)])) (rg 7) (P3 p s []) [(6, bA false)] fun G => b0 (wp_ret (E3 (o8 ?_))); exact M0 false G (rg 7) (bT0 (by with_reducible assumption) (by omega) (by omega))
        ·
         have q10 := Z2 h10; cases h11 : (t0 p.vars.length p.arrays.length s.index)
         · refine i9 G (T4 (F9 15 (rg 4) (I4 p s.index) T3) (fc h9 (fc h10 (fc h11 (fc (b := false) rfl fz)))) (us [(4, 9, 0), (1010, 1010, 0), (12, 15, 1), (1016, 1016, 1), (18, 20, 2), (1021, 1021, 2), (23, 26, 3), (1027, 1027, 3)])) (rg 7) (P3 p s []) [(6, bA false)] fun G => b0 (wp_ret (E3 (o8 ?_))); exact M0 false G (rg 7) (bS9 (by with_reducible assumption) (by omega) (by with_reducible assumption))
         ·
          cases h12 : (T6 s.index)
          · refine i9 G (T4 (F9 15 (rg 4) (I4 p s.index) (F9 20 [3] (aD1 s.index) T3)) (fc h9 (fc h10 (fc h11 (fc h12 fz)))) (us [(4, 9, 0), (1010, 1010, 0), (12, 15, 1), (1016, 1016, 1), (18, 20, 2), (1021, 1021, 2), (23, 26, 3), (1027, 1027, 3)])) (rg 7) (P3 p s []) [(6, bA false)] fun G => b0 (wp_ret (E3 (o8 ?_))); exact M0 false G (rg 7) (bS8 (by with_reducible assumption) (by omega) (by with_reducible assumption))
          · refine i9 G (T4 (F9 15 (rg 4) (I4 p s.index) (F9 20 [3] (aD1 s.index) (F9 26 [0, 1, 2, 4] (I4 p s.value) T3))) (fc h9 (fc h10 (fc h11 (fc h12 fz)))) (us [(4, 9, 0), (1010, 1010, 0), (12, 15, 1), (1016, 1016, 1), (18, 20, 2), (1021, 1021, 2), (23, 26, 3), (1027, 1027, 3)])) (rg 7) (P3 p s []) [(6, bA (t0 p.vars.length p.arrays.length s.value))] fun G => b0 (wp_ret (E3 (o8 ?_))); exact M0 (t0 p.vars.length p.arrays.length s.value) G (rg 7) (bS7 (by with_reducible assumption) (by omega) (by omega) (by omega) (by with_reducible assumption) (by with_reducible assumption))
     ·
      refine wp_seq ?_; cases h13 : (decide (s.target ≥ 0))
      · have q13 := Z3 h13; refine i9 G (J3 (fc h13 (fc (b := false) rfl fz)) (us [(4, 9, 0), (1010, 1010, 0), (12, 15, 1), (1016, 1016, 1)])) (rg 7) (P3 p s []) [(6, bA false)] fun G => b0 (wp_ret (E3 (o8 ?_))); exact M0 false G (rg 7) (bI5 (by with_reducible assumption) (by omega) (by omega))
      ·
       have q13 := Z2 h13; cases h14 : (decide (s.target < (p.vars.length : Int)))
       · have q14 := Z3 h14; refine i9 G (J3 (fc h13 (fc h14 fz)) (us [(4, 9, 0), (1010, 1010, 0), (12, 15, 1), (1016, 1016, 1)])) (rg 7) (P3 p s []) [(6, bA false)] fun G => b0 (wp_ret (E3 (o8 ?_))); exact M0 false G (rg 7) (bI4 (by with_reducible assumption) (by omega) (by omega))
       · have q14 := Z2 h14; refine i9 G (T4 (F9 15 [0, 1, 2, 4] (I4 p s.value) T3) (fc h13 (fc h14 fz)) (us [(4, 9, 0), (1010, 1010, 0), (12, 15, 1), (1016, 1016, 1)])) (rg 7) (P3 p s []) [(6, bA (t0 p.vars.length p.arrays.length s.value))] fun G => b0 (wp_ret (E3 (o8 ?_))); exact M0 (t0 p.vars.length p.arrays.length s.value) G (rg 7) (bI3 (by with_reducible assumption) (by omega) (by omega) (by omega))
    ·
     refine wp_skip (b0 (rT G _ h2 (wp_seq ?_))); cases h15 : (decide (s.target ≥ 0))
     · have q15 := Z3 h15; refine i9 G (J3 (fc h15 (fc (b := false) rfl fz)) (us [(4, 9, 0), (1010, 1010, 0), (12, 15, 1), (1016, 1016, 1)])) (rg 7) (P3 p s []) [(6, bA false)] fun G => b0 (wp_ret (E3 (o8 ?_))); exact M0 false G (rg 7) (bI5 (by with_reducible assumption) (by omega) (by omega))
     ·
      have q15 := Z2 h15; cases h16 : (decide (s.target < (p.vars.length : Int)))
      · have q16 := Z3 h16; refine i9 G (J3 (fc h15 (fc h16 fz)) (us [(4, 9, 0), (1010, 1010, 0), (12, 15, 1), (1016, 1016, 1)])) (rg 7) (P3 p s []) [(6, bA false)] fun G => b0 (wp_ret (E3 (o8 ?_))); exact M0 false G (rg 7) (bI4 (by with_reducible assumption) (by omega) (by omega))
      · have q16 := Z2 h16; refine i9 G (T4 (F9 15 [0, 1, 2, 4] (I4 p s.value) T3) (fc h15 (fc h16 fz)) (us [(4, 9, 0), (1010, 1010, 0), (12, 15, 1), (1016, 1016, 1)])) (rg 7) (P3 p s []) [(6, bA (t0 p.vars.length p.arrays.length s.value))] fun G => b0 (wp_ret (E3 (o8 ?_))); exact M0 (t0 p.vars.length p.arrays.length s.value) G (rg 7) (bI3 (by with_reducible assumption) (by omega) (by omega) (by omega))
   · have q1 : (o6 s) = false := (Eq.mp (ca5 _) h1); refine rT G _ h1 (wp_seq (l6 G e6 [] fun G => b0 (wp_ret (o8 ?_)))); exact M0 false G (rg 7) (b15 (by with_reducible assumption))
  · have q0 := Z2 h0; exact False.elim (by omega)
theorem bZ6 {nv na d : Nat} {ss : List c8} {k : Nat} (hk : k < ss.length) (h : m8 nv na d (ss.getD k b71) = false) : ss.all (m8 nv na d) = false := by
 rw [r7 hk] at h
 exact an2 hk h
theorem aI0 (p : j9) (d : Nat) (hd : d ≤ 5) (hS : ∀ (s : c8) (n : Int), n = d → l0.ok Tryz.prog (vsC p d s n)) (ss : List c8) (n : Int) (hn : n = d) : l0.ok Tryz.prog (vbC p d ss n) := by
  refine J8 22 Tryz.func93 [dI p.vars, dI p.arrays, dT p.body, dT ss] [(0, pA 0), (1, .ref 3), (2, iA n)] fun G => ?_; refine wp_seq (i9 G e6 (rg 5) [dI p.vars, dI p.arrays, dT p.body, dT ss, .box (pL 0)] [(1, .ref 3), (2, iA n), (3, .ptr 4 0), (6, bA false)] fun G => b0 (wp_seq (wp_seq (G9 G e6 [(1, .ref 3), (2, iA n), (3, .ptr 4 0), (6, bA false), (7, iA 0)] fun G => b0 (wp_block ?_))))); refine x6 (κ := Nat) (fun k => k ≤ ss.length ∧ (ss.take k).all (m8 p.vars.length p.arrays.length d) = true) (fun k => ss.length - k) (fun k => [dI p.vars, dI p.arrays, dT p.body, dT ss, .box (pL 0)]) (fun k => [(1, .ref 3), (2, iA n), (3, .ptr 4 0), (6, bA false), (7, iA k)]) 0 (by simp) (t7.at G _ _) ?_; clear G; intro k ρ a w hp G; have hlen : ss.length ≤ 9223372036854775807 := G.len 3 (d := .stmts ss) (by kernel_rfl); refine wp_seq (wp_seq (G9 G e6 [(1, .ref 3), (2, iA n), (3, .ptr 4 0), (6, bA false), (7, iA k), (11, bA (decide ((k : Int) < ss.length)))] fun G => b0 (rcD G (fun h0 q0 => ?_) fun h0 q0 => ?_)))
  · refine wp_exit (v9 (v9 (v6 (b0 (wp_seq (i9 G e6 (rg 4) [dI p.vars, dI p.arrays, dT p.body, dT ss] [(6, bA true)] fun G => b0 (wp_ret ?_))))))); exact M0 true G (rg 4) (aD7 hp.2 (by omega))
  ·
   refine wp_skip (b0 (wp_seq (wp_block (wp_seq (bg5 G (v5 6 [0, 1, 2, 37, 38, 39, 40] (hS (ss.getD k b71) n (by assumption))) [0, 0, 0, 6, 14, 0, 63, 127] [(21, .v (.bool !m8 p.vars.length p.arrays.length d (ss.getD k b71)))] (iX k k ss.length []) (iK (by omega) b84) fun G => b0 ?_))))); cases h1 : (!m8 p.vars.length p.arrays.length d (ss.getD k b71))
   · have q1 : (m8 p.vars.length p.arrays.length d (ss.getD k b71)) = true := (Eq.mp (cb4 _) h1); refine rF G _ h1 (wp_skip (i8 (b0 (D0 G e6 [(7, iA ((k : Int) + 1))] [wO ((k : Int) + 1)] (o1 (by omega)) fun G => b0 ?_)))); exact L0 G (k + 1) (⟨by omega, a04 hp.2 (by omega) (by assumption)⟩) (by omega) (rg 5)
   · have q1 : (m8 p.vars.length p.arrays.length d (ss.getD k b71)) = false := (Eq.mp (ca5 _) h1); refine rT G _ h1 (wp_seq (l6 G e6 [] fun G => b0 (wp_ret (E3 (o8 (o8 (E3 (o8 ?_)))))))); exact M0 false G (rg 4) (bZ6 (k := k) (by omega) (by with_reducible assumption))
theorem bd5 (p : j9) : ∀ (d : Nat), d ≤ 5 → ∀ (s : c8) (n : Int), n = d → l0.ok Tryz.prog (vsC p d s n)
 | 0, _, s, n, hn => bg1 p s n hn
 | d + 1, hd, s, n, hn => bp1 p d (fun ss n hn => aI0 p d (by omega) (bd5 p d (by omega)) ss n hn) s n hn (by omega)
theorem bk2 (p : j9) (ss : List c8) (n : Int) (hn : n = 5) : l0.ok Tryz.prog (Z1 93 [pA 0, .ref 3, iA n] (pS p ++ [.dat (.stmts ss)]) (bA (af7 p.vars.length p.arrays.length 5 ss))) :=
 aI0 p 5 (by omega) (bd5 p 5 (by omega)) ss n hn
def D4 : Nat → List c8 → Nat
 | 0, ss => ss.length
 | d + 1, ss => ss.length + (ss.map fun s => D4 d s.body + D4 d s.els).sum
def szP (d : Nat) (ss : List c8) (k : Nat) : Nat := ss.length + ((ss.take k).map fun s => D4 d s.body + D4 d s.els).sum
theorem bz5 (d : Nat) (ss : List c8) {k : Nat} (h : ss.length ≤ k) : szP d ss k = D4 (d + 1) ss := by unfold szP; rw [b89 h, D4]
theorem ax8 {d : Nat} {ss : List c8} {k : Nat} (h : k < ss.length) : szP d ss (k + 1) = szP d ss k + (D4 d (ss.getD k b71).body + D4 d (ss.getD k b71).els) := by
 unfold szP
 rw [G4 ss k h, List.map_append, List.sum_append, r7 h]
 simp; omega
theorem bn9 : ∀ (d : Nat) (ss : List c8), D4 d ss ≤ t9 ss := by
 intro d
 induction d with
 | zero => intro ss; exact am0 ss
 | succ d ih =>
  intro ss
  induction ss with
  | nil => simp [D4]
  | cons s r ihr =>
   have h1 := ih s.body
   have h2 := ih s.els
   have h3 := aH2 s
   simp only [D4, ca1, List.sum_cons, b79, t9] at ihr ⊢
   have h4 : t9 s.body + t9 s.els ≤ szS s := by
    rcases s with ⟨_, _, _, _, _, b, e⟩
    simp only [szS, c8.body, c8.els]; omega
   omega
theorem a18 {d : Nat} {ss : List c8} {k : Nat} : szP d ss k ≤ t9 ss := by
 refine b97 ?_ (bn9 (d + 1) ss)
 unfold szP
 rw [D4]
 have : ∀ (l : List Nat) (k : Nat), (l.take k).sum ≤ l.sum := fun l k => by
  have := List.sum_append (l₁ := l.take k) (l₂ := l.drop k)
  rw [List.take_append_drop] at this; omega
 have h := this (ss.map fun s => D4 d s.body + D4 d s.els) k
 rw [← List.map_take] at h
 omega
theorem be8 {ss : List c8} {k B : Nat} (h : t9 ss ≤ B) (hk : k < ss.length) : t9 (ss.getD k b71).body ≤ B ∧ t9 (ss.getD k b71).els ≤ B := by
 rw [r7 hk]
 have h1 := bz4 (b91 hk)
 have h2 := aH2 ss[k]
 omega
theorem bj9 (ss : List c8) (n : Int) (hn : n = 1) (hb : t9 ss ≤ 1048576) : l0.ok Tryz.prog (Z1 94 [.ref 0, iA n] [.dat (.stmts ss)] (iA (D4 0 ss : Nat))) := by
 have h100 : decide (n > 1) = false := by simp; omega
 refine J8 39 Tryz.func94 [dT ss] [(0, .ref 0), (1, iA n)] fun G => ?_; refine wp_seq (l6 G e6 [(4, iA 0)] fun G => b0 (wp_seq (l6 G e6 [(5, iA (ss.length : Int))] fun G => b0 (wp_seq (wp_seq (G9 G e6 [(0, .ref 0), (1, iA n), (4, iA 0), (5, iA (ss.length : Int)), (6, iA 0)] fun G => b0 (wp_block ?_))))))); refine x6 (κ := Nat) (fun k => k = 0) (fun k => 0) (fun k => [dT ss]) (fun k => [(0, .ref 0), (1, iA n), (4, iA 0), (5, iA (ss.length : Nat)), (6, iA k)]) 0 (by kernel_rfl) (t7.at G _ _) ?_; clear G; intro k ρ a w hp G; replace G := t7.at G [dT ss] [(0, .ref 0), (1, iA n), (4, iA 0), (5, iA (ss.length : Int)), (6, iA k)]; refine wp_seq (wp_seq ?_); cases h0 : (decide ((k : Int) < ss.length))
 ·have q0 := Z3 h0; refine l6 G (J3 (fc h0 fz) [(5, 0), (6, 0), (1007, 0)]) [(16, bA false)] fun G => b0 (rF G false (by kernel_rfl) (wp_exit (v9 (v9 (v6 (b0 (wp_seq (l6 G e6 [(4, iA (ss.length : Int))] fun G => b0 (wp_ret ?_))))))))); exact J9 G [0]
 ·have q0 := Z2 h0; refine l6 G (J3 (fc h0 fz) [(5, 0), (6, 0), (1007, 0)]) [(16, bA (decide (n > 1)))] fun G => b0 (rF G (decide (n > 1)) (by assumption) (wp_exit (v9 (v9 (v6 (b0 (wp_seq (l6 G e6 [(4, iA (ss.length : Int))] fun G => b0 (wp_ret ?_))))))))); exact J9 G [0]
theorem bj7 (d : Nat) (hd : d ≤ 5) (ih : ∀ (ss : List c8) (n : Int), n = (d + 1 : Nat) → t9 ss ≤ 1048576 → l0.ok Tryz.prog (Z1 94 [.ref 0, iA n] [.dat (.stmts ss)] (iA (D4 d ss : Nat))))
  (ss : List c8) (n : Int) (hn : n = (d + 2 : Nat)) (hb : t9 ss ≤ 1048576) : l0.ok Tryz.prog (Z1 94 [.ref 0, iA n] [.dat (.stmts ss)] (iA (D4 (d + 1) ss : Nat))) := by
 have h100 : decide (n > 1) = true := by simp; omega
 refine J8 39 Tryz.func94 [dT ss] [(0, .ref 0), (1, iA n)] fun G => ?_; refine wp_seq (l6 G e6 [(4, iA 0)] fun G => b0 (wp_seq (l6 G e6 [(5, iA (ss.length : Int))] fun G => b0 (wp_seq (wp_seq (G9 G e6 [(0, .ref 0), (1, iA n), (4, iA 0), (5, iA (ss.length : Int)), (6, iA 0)] fun G => b0 (wp_block ?_))))))); refine x6 (κ := Nat) (fun k => k ≤ ss.length) (fun k => ss.length - k) (fun k => [dT ss]) (fun k => [(0, .ref 0), (1, iA n), (4, iA 0), (5, iA (szP d ss k : Nat)), (6, iA k)]) 0 (by omega) (t7.at G _ _) ?_; clear G; intro k ρ a w hp G; replace G := t7.at G [dT ss] [(0, .ref 0), (1, iA n), (4, iA 0), (5, iA (↑(szP d ss k) : Int)), (6, iA k)]; have hlen := am0 ss; refine wp_seq (wp_seq ?_); cases h0 : (decide ((k : Int) < ss.length))
 ·have q0 := Z3 h0; refine l6 G (J3 (fc h0 fz) [(5, 0), (6, 0), (1007, 0)]) [(16, bA false)] fun G => b0 (rF G false (by kernel_rfl) (wp_exit (v9 (v9 (v6 (b0 (wp_seq (l6 G e6 [(4, iA (↑(szP d ss k) : Int))] fun G => b0 (wp_ret ?_))))))))); exact rxI ((↑(szP d ss k) : Int)) G [0] (by have h1 := bz5 d ss (k := k) (by omega); omega)
 ·have q0 := Z2 h0; refine l6 G (J3 (fc h0 fz) [(5, 0), (6, 0), (1007, 0)]) [(16, bA (decide (n > 1)))] fun G => b0 (rT G (decide (n > 1)) (by assumption) (wp_skip (b0 (wp_seq (wp_block (bg5 G (T4 (F9 8 [41] (ih ((ss.getD k b71).body) (n - 1) (by omega) ((be8 hb (by omega)).1)) (F9 17 [113] (ih ((ss.getD k b71).els) (n - 1) (by omega) ((be8 hb (by omega)).2)) T3)) fz []) [0, 0, 0, 6, 14, 30, 0, 64, 254, 511, 0, 0, 3072, 7168, 15360, 0, 32768, 130558, 262143, 524287] [(5, iA ((↑(szP d ss k) : Int) + (↑(D4 d (ss.getD k b71).body) : Int) + (↑(D4 d (ss.getD k b71).els) : Int)))] (iX k k ss.length ((wO (n - 1)) :: ((wO ((↑(szP d ss k) : Int) + (↑(D4 d (ss.getD k b71).body) : Int))) :: (iX k k ss.length ((wO (n - 1)) :: ((wO ((↑(szP d ss k) : Int) + (↑(D4 d (ss.getD k b71).body) : Int) + (↑(D4 d (ss.getD k b71).els) : Int))) :: [])))))) (iK (by omega) ⟨oW (by omega), ⟨(by have h1 := ax8 (d := d) (ss := ss) (k := k) (by omega); have h2 := a18 (d := d) (ss := ss) (k := k + 1); exact w64 (by omega) (by omega)), (iK (by omega) ⟨oW (by omega), ⟨(by have h1 := ax8 (d := d) (ss := ss) (k := k) (by omega); have h2 := a18 (d := d) (ss := ss) (k := k + 1); exact w64 (by omega) (by omega)), b84⟩⟩)⟩⟩) fun G => i8 (b0 (D0 G e6 [(6, iA ((k : Int) + 1))] [wO ((k : Int) + 1)] (o1 (by omega)) fun G => b0 ?_)))))))); exact L0 G (k + 1) (by omega) (by omega) [0] (ht := by have e1 : ((↑(szP d ss (k + 1)) : Int) : Int) = ((↑(szP d ss k) : Int) + (↑(D4 d (ss.getD k b71).body) : Int) + (↑(D4 d (ss.getD k b71).els) : Int)) := (by have h1 := ax8 (d := d) (ss := ss) (k := k) (by omega); have h2 := a18 (d := d) (ss := ss) (k := k + 1); omega); (first | rw [e1] | simp only [e1]) <;> rfl)
theorem bj8 : ∀ d, d ≤ 5 → ∀ (ss : List c8) (n : Int), n = (d + 1 : Nat) → t9 ss ≤ 1048576 → l0.ok Tryz.prog (Z1 94 [.ref 0, iA n] [.dat (.stmts ss)] (iA (D4 d ss : Nat))) := by
 intro d
 induction d with
 | zero => intro _ ss n hn hb; exact bj9 ss n (by omega) hb
 | succ d ih => intro hd ss n hn hb; exact bj7 d (by omega) (fun ss n hn hb => ih (by omega) ss n hn hb) ss n (by omega) hb
theorem bx1 (ss : List c8) (n : Int) (hn : n = 5) (hb : t9 ss ≤ 1048576) : l0.ok Tryz.prog (Z1 94 [.ref 0, iA n] [.dat (.stmts ss)] (iA (D4 4 ss : Nat))) :=
 bj8 4 (by omega) ss n (by omega) hb
theorem bo0 {nv na : Nat} : ∀ (d : Nat) (ss : List c8), (∀ s ∈ ss, m8 nv na (d + 1) s = true) → D4 d ss = nSs ss := by
 intro d
 induction d with
 | zero => intro ss h; rw [aX4 h]; rfl
 | succ d ih =>
  intro ss
  induction ss with
  | nil => intro _; rfl
  | cons s r ihr =>
   intro h
   have h1 := aa8 (h s ca7)
   have h2 := ih s.body fun x hx => b80.1 h1.1 x hx
   have h3 := ih s.els fun x hx => b80.1 h1.2 x hx
   have h4 := ihr fun x hx => h x (ca6 _ hx)
   rw [nSs, aM6, ← h2, ← h3, ← h4]
   simp [D4]; omega
theorem aU7 {p : j9} (h : E7 p.vars p.arrays = false) : E0 p = false := by simp [E0, h]
theorem aU8 {p : j9} (h : af7 p.vars.length p.arrays.length 5 p.body = false) : E0 p = false := by simp [E0, h]
theorem a42 {p : j9} (h1 : E7 p.vars p.arrays = true) (h2 : af7 p.vars.length p.arrays.length 5 p.body = true) : E0 p = decide ((D4 4 p.body : Int) ≤ 60) := by
 have h3 := bo0 (nv := p.vars.length) (na := p.arrays.length) 4 p.body (fun x hx => b80.1 h2 x hx)
 rw [E0, h1, h2, h3]
 simp
 exact ⟨fun h => by omega, fun h => by omega⟩
theorem aZ3 (p : j9) (n : Int) (hn : n = 5) : l0.ok Tryz.prog (Z1 93 [pA 0, .ref 2, iA n] (pS p) (bA (af7 p.vars.length p.arrays.length 5 p.body))) :=
 l0.dup (S := pS p) (S' := pS p) (d := .stmts p.body) (i := 2) (bk2 p p.body n hn) rfl rfl rfl (fun ρ h => by simp only [AV.vals, AV.val]; rw [show ρ 3 = ρ 2 from h]) rfl
theorem af6 (p : j9) (hb : t9 p.body ≤ 1048576) : l0.ok Tryz.prog (Z1 77 [pA 0] (pS p) (bA (E0 p))) := by
  refine J8 17 Tryz.func77 [dI p.vars, dI p.arrays, dT p.body] [(0, pA 0)] fun G => ?_; refine wp_seq (i9 G e6 (rg 4) [dI p.vars, dI p.arrays, dT p.body, .box (pL 0)] [(1, .ptr 3 0), (2, bA false)] fun G => b0 (wp_seq ?_)); cases h0 : (E7 p.vars p.arrays)
  · refine i9 G (T4 (F9 1 [0, 1, 2] (aq6 p) T3) (fc h0 (fc (b := false) rfl fz)) (us [(3, 6, 0), (1007, 1007, 0), (9, 12, 1), (1013, 1013, 1)])) [0, 1, 2] [dI p.vars, dI p.arrays, dT p.body] [(2, bA false)] fun G => b0 (wp_ret ?_); exact M0 false G [0, 1, 2] (aU7 (by assumption))
  ·
   cases h1 : (af7 p.vars.length p.arrays.length (5 : Nat) p.body)
   · refine i9 G (T4 (F9 1 [0, 1, 2] (aq6 p) (F9 6 [0, 1, 2] (aZ3 p 5 (by kernel_rfl)) T3)) (fc h0 (fc h1 fz)) (us [(3, 6, 0), (1007, 1007, 0), (9, 12, 1), (1013, 1013, 1)])) [0, 1, 2] [dI p.vars, dI p.arrays, dT p.body] [(2, bA false)] fun G => b0 (wp_ret ?_); exact M0 false G [0, 1, 2] (aU8 (by assumption))
   · refine i9 G (T4 (F9 1 [0, 1, 2] (aq6 p) (F9 6 [0, 1, 2] (aZ3 p 5 (by kernel_rfl)) (F9 11 [2] (bx1 p.body 5 (by kernel_rfl) (by assumption)) T3))) (fc h0 (fc h1 fz)) (us [(3, 6, 0), (1007, 1007, 0), (9, 12, 1), (1013, 1013, 1)])) [0, 1, 2] [dI p.vars, dI p.arrays, dT p.body] [(2, bA (decide ((↑(D4 4 p.body) : Int) ≤ 60)))] fun G => b0 (wp_ret ?_); exact M0 (decide ((↑(D4 4 p.body) : Int) ≤ 60)) G [0, 1, 2] (a42 (by assumption) (by assumption))
def V9 (nv na : Nat) (s : c8) : Bool := o6 s &&
    (if s.kind = 1 ∨ s.kind = 5 then decide (0 ≤ s.target) && decide (s.target < nv) && t0 nv na s.value
     else if s.kind = 2 then decide (0 ≤ s.target) && decide (s.target < na) && t0 nv na s.index && T6 s.index && t0 nv na s.value
     else if s.kind = 3 then t0 nv na s.value
     else decide (s.kind = 4))
theorem aj3 {nv na d : Nat} {s : c8} : m8 nv na (d + 1) s = (V9 nv na s && (s.body.all (m8 nv na d) && s.els.all (m8 nv na d))) := by
 rw [ca0]
 constructor
 ·intro h
  have h1 := aa8 h
  rw [h1.1, h1.2, Bool.and_true, Bool.and_true]
  rw [m8, b73] at h
  rw [V9, h.1, Bool.true_and]
  obtain ⟨-, h⟩ := h
  split at h
  ·rw [if_pos (by assumption)]; exact h
  split at h
  ·rw [if_neg (by assumption), if_pos (by assumption)]; exact h
  split at h
  ·rw [if_neg (by assumption), if_neg (by assumption), if_pos (by assumption)]
   simp only [b73] at h; exact h.1.1
  split at h
  ·rw [if_neg (by assumption), if_neg (by assumption), if_neg (by assumption)]; simp [*]
  ·simp at h
 ·intro h
  simp only [b73] at h
  obtain ⟨h, hb, he⟩ := h
  rw [V9, b73] at h
  obtain ⟨h0, h⟩ := h
  rw [m8, h0, Bool.true_and]
  split at h
  ·rw [if_pos (by assumption)]; exact h
  split at h
  ·rw [if_neg (by assumption), if_pos (by assumption)]; exact h
  split at h
  ·rw [if_neg (by assumption), if_neg (by assumption), if_pos (by assumption), h, hb, he]; rfl
  ·rw [if_neg (by assumption), if_neg (by assumption), if_neg (by assumption), if_pos (by simpa using h), hb]
section
variable {nv na d c : Nat} {s : c8}
end
section
variable {nv na : Nat} {s : c8}
theorem bW2 (k : s.kind = 1 ∨ s.kind = 5) : V9 nv na s = (decide (0 ≤ s.target ∧ s.target < nv ∧ s.body.length = 0 ∧ s.els.length = 0 ∧ s.count = 0) && (noneB s.index && t0 nv na s.value)) := by
 rw [V9, o6, if_pos k, if_neg (by omega), show decide (s.kind = 2) = false from decide_eq_false (by omega), ca0]
 simp only [b73, decide_eq_true_eq, Bool.false_or]
 constructor
 ·rintro ⟨⟨⟨⟨a, b⟩, c⟩, d⟩, ⟨e, f⟩, g⟩; exact ⟨⟨e, f, a, b, c⟩, d, g⟩
 ·rintro ⟨⟨e, f, a, b, c⟩, d, g⟩; exact ⟨⟨⟨⟨a, b⟩, c⟩, d⟩, ⟨e, f⟩, g⟩
theorem bW1 (k : s.kind = 2) : V9 nv na s = (decide (0 ≤ s.target ∧ s.target < na ∧ s.body.length = 0 ∧ s.els.length = 0 ∧ s.count = 0) && (t0 nv na s.index && (T6 s.index && t0 nv na s.value))) := by
 rw [V9, o6, if_neg (by omega), if_pos k, if_neg (by omega), show decide (s.kind = 2) = true from decide_eq_true k, ca0]
 simp only [b73, decide_eq_true_eq, Bool.true_or]
 constructor
 ·rintro ⟨⟨⟨⟨a, b⟩, c⟩, -⟩, ⟨⟨⟨e, f⟩, i⟩, j⟩, g⟩; exact ⟨⟨e, f, a, b, c⟩, i, j, g⟩
 ·rintro ⟨⟨e, f, a, b, c⟩, i, j, g⟩; exact ⟨⟨⟨⟨a, b⟩, c⟩, b84⟩, ⟨⟨⟨e, f⟩, i⟩, j⟩, g⟩
theorem bW0 (k : s.kind = 3) : V9 nv na s = (decide (s.target = 0 ∧ s.count = 0) && (noneB s.index && t0 nv na s.value)) := by
 rw [V9, o6, if_pos (show s.kind = 3 ∨ s.kind = 4 from .inl k), if_neg (show ¬ s.kind = 4 by omega), if_neg (by omega), if_neg (by omega), if_pos k, ca0]
 simp only [b73, decide_eq_true_eq]
 constructor
 ·rintro ⟨⟨a, b, c⟩, d⟩; exact ⟨⟨a, b⟩, c, d⟩
 ·rintro ⟨⟨a, b⟩, c, d⟩; exact ⟨⟨a, b, c⟩, d⟩
theorem bV9 (k : s.kind = 4) : V9 nv na s = (decide (s.target = 0 ∧ s.els.length = 0 ∧ 1 ≤ s.count ∧ s.count ≤ 3) && (noneB s.index && noneB s.value)) := by
 rw [V9, o6, if_pos (show s.kind = 3 ∨ s.kind = 4 from .inr k), if_pos k, if_neg (by omega), if_neg (by omega), if_neg (by omega), show decide (s.kind = 4) = true from decide_eq_true k, ca0]
 simp only [b73, decide_eq_true_eq]
 constructor
 ·rintro ⟨⟨a, ⟨⟨⟨b, c⟩, d⟩, e⟩, f⟩, -⟩; exact ⟨⟨a, b, c, d⟩, e, f⟩
 ·rintro ⟨⟨a, b, c, d⟩, e, f⟩; exact ⟨⟨a, ⟨⟨⟨b, c⟩, d⟩, e⟩, f⟩, b84⟩
theorem aB4 (k : ¬ s.kind = 1 ∧ ¬ s.kind = 2 ∧ ¬ s.kind = 3 ∧ ¬ s.kind = 4 ∧ ¬ s.kind = 5) : V9 nv na s = false := by
 rw [V9, if_neg (by omega), if_neg (by omega), if_neg (by omega), show decide (s.kind = 4) = false from decide_eq_false (by omega), Bool.and_false]
end
theorem bu4 {l : List d8} {k : Nat} (h : (k : Int) < l.length) : l.getD k b71 ∈ l := by rw [r7 (by omega)]; exact b91 (by omega)
theorem aX2 {l : List c8} {k : Nat} (h : (k : Int) < l.length) : l.getD k b71 ∈ l := by rw [r7 (by omega)]; exact b91 (by omega)
section
variable {nv na d : Nat} {e : d8}
end
section
variable {vs ars : List Int} {d : Nat} {e : d8}
end
theorem a02 {α : Type} {l : List α} {k : Nat} {p : α → Bool} {z : α} (h : (l.take k).any p = false) (hk : k < l.length) (hp : p (l.getD k z) = false) : (l.take (k + 1)).any p = false := by
 rw [G4 l k hk, List.any_append, h, ← r7 (d := z) hk, List.any_cons, hp]; rfl
theorem a03 {α : Type} {l : List α} {k : Nat} {p : α → Bool} (h : (l.take k).any p = false) (hk : l.length ≤ k) : l.any p = false := by
 rw [b89 hk] at h; exact h
section
variable {nv na : Nat} {s : c8}
variable (h : V9 nv na s = true)
include h
end
section
variable {p : j9} {s : c8} {pc : Int} {strict : Bool} {x : Int}
end
section
variable {p : j9} {strict : Bool} {d c : Nat} {pc : Int} {s : c8}
end
section
variable {p : j9} {strict : Bool}
end
section
variable {p : j9} {s : c8} {cx : Int}
end
def ac9 {α : Type} (f : α → Bool) (l : List α) : Int := match l.findIdx? f with
 | some i => i
 | none => -1
theorem aI9 {α : Type} {f : α → Bool} {l : List α} {k : Nat} {z : α} (hk : k < l.length) (h : (l.take k).any f = false) (hf : f (l.getD k z) = true) : ac9 f l = k := by
 have : l.findIdx? f = some k := by
  rw [List.findIdx?_eq_some_iff_getElem]
  rw [r7 hk] at hf
  refine ⟨hk, hf, fun j hj => ?_⟩
  rw [List.any_eq_false] at h
  have hm : l[j] ∈ l.take k := List.mem_take_iff_getElem.2 ⟨j, by omega, rfl⟩
  exact h _ hm
 unfold ac9; rw [this]
theorem aB8 {α : Type} {f : α → Bool} {l : List α} (h : l.any f = false) : ac9 f l = -1 := by
 have : l.findIdx? f = none := by
  rw [List.findIdx?_eq_none_iff]
  intro x hx
  rw [List.any_eq_false] at h
  simpa using h x hx
 unfold ac9; rw [this]
theorem aJ0 {α : Type} (f : α → Bool) (l : List α) : decide (ac9 f l ≥ 0) = l.any f := by
 cases h : l.any f
 ·rw [aB8 h]; rfl
 ·unfold ac9
  cases h2 : l.findIdx? f with
  | none =>
   rw [List.findIdx?_eq_none_iff] at h2
   obtain ⟨x, hx, hf⟩ := List.any_eq_true.1 h
   rw [h2 x hx] at hf; cases hf
  | some i => simp
section
variable {p : j9} {s : c8}
end
section
variable {R : c8 × Int → Int} {c a : Int} {n : Nat} {x : c8 × Int}
end
section
variable {R : c8 × Int → Int} {p : j9} {d : Nat} {cx : Int} {ss : List c8} {c b : Int} {n k : Nat}
end
abbrev Lab : Type := List Int × List Int
def bv (x : Int) : BitVec 64 := BitVec.ofInt 64 x
def leI (x y : Int) : Prop := bv x ||| bv y = bv y
theorem leI.refl (x : Int) : leI x x := BitVec.or_self
theorem leI.trans {x y z : Int} (h : leI x y) (k : leI y z) : leI x z := by
 unfold leI at *
 rw [← k, ← BitVec.or_assoc, h]
def leP (q r : Lab) : Prop := (∀ i, leI (q.1.getD i 0) (r.1.getD i 0)) ∧ ∀ i, leI (q.2.getD i 0) (r.2.getD i 0)
def shP (q r : Lab) : Prop := r.1.length = q.1.length ∧ r.2.length = q.2.length
theorem leP.refl (q : Lab) : leP q q := ⟨fun _ => leI.refl _, fun _ => leI.refl _⟩
theorem leP.trans {q r s : Lab} (h : leP q r) (k : leP r s) : leP q s := ⟨fun i => (h.1 i).trans (k.1 i), fun i => (h.2 i).trans (k.2 i)⟩
theorem shP.refl (q : Lab) : shP q q := ⟨rfl, rfl⟩
theorem shP.trans {q r s : Lab} (h : shP q r) (k : shP r s) : shP q s := ⟨k.1.trans h.1, k.2.trans h.2⟩
theorem shP.symm {q r : Lab} (h : shP q r) : shP r q := ⟨h.1.symm, h.2.symm⟩
section
variable {b : Bool} {d : Nat} {cx : Int} {q r : Lab} {ss : List c8}
end
section
variable {a b : d8} {k : Nat}
theorem aH1 {α : Type} {l m : List α} {k : Nat} {z : α} (h : l.take k = m.take k) (h1 : k < l.length) (h2 : k < m.length) (e : l.getD k z = m.getD k z) : l.take (k + 1) = m.take (k + 1) := by
 rw [t2 _ _ h1, t2 _ _ h2, h, ← r7 (d := z) h1, ← r7 (d := z) h2, e]
theorem aS7 {α : Type} {l m : List α} {k : Nat} (h : l.take k = m.take k) (h1 : l.length ≤ k) (h2 : (l.length : Int) = m.length) : l = m := by
 rw [b89 h1, b89 (by omega)] at h
 exact h
end
section
variable {s t : c8} {l m : List c8} {k : Nat}
end
section
variable {vs ars : List Int} {cx : Int} {s : c8} {d : Nat} {b : Bool}
section
variable {nv na d k : Nat} {ss : List c8} {q : Lab} {cx : Int}
end
end
section
variable {p : j9} {q : Lab} {b : List c8} {X : Lab}
end
abbrev nvL : List Int := [3] ++ ([4] ++ ([2] ++ ([5] ++ [])))
abbrev viL : List Int := [0] ++ ([1] ++ ([0] ++ ([1] ++ ([2] ++ ([3] ++ [])))))
abbrev naL : List Int := [1] ++ ([2] ++ ([0] ++ ([1] ++ [])))
abbrev aiL : List Int := [0] ++ ([1] ++ ([0] ++ ([1] ++ ([3] ++ []))))
abbrev nbL : List Int := [2] ++ ([3] ++ ([1] ++ ([4] ++ [])))
def nsD (b : List UInt8) (l : List Int) (n : Nat) (k : Int) : List Int := (b88 n).map fun (i : Nat) => nm b (k + (i : Int)) l
theorem ag5 (b : List UInt8) (l : List Int) (n : Nat) (k : Int) : (nsD b l n k).length = n := by simp [nsD]
theorem bs3 (b : List UInt8) (l : List Int) (n : Nat) (k : Int) : nsD b l (n + 1) k = nsD b l n k ++ [nm b (k + (n : Int)) l] := by
 unfold nsD; rw [List.range_succ, List.map_append]; rfl
def I3 (b : List UInt8) (k : Int) : Int := k + 1 + nm b k nvL
def kp2 (b : List UInt8) (k : Int) : Int := I3 b k + 1 + nm b (I3 b k) naL
def vsD (b : List UInt8) (k : Int) : List Int := nsD b viL (nm b k nvL).toNat (k + 1)
def asD (b : List UInt8) (k : Int) : List Int := nsD b aiL (nm b (I3 b k) naL).toNat (I3 b k + 1)
def z8 (b : List UInt8) (k : Int) : List c8 × Int := G5 (C2 b (vsD b k).length (asD b k).length 3) (nm b (kp2 b k) nbL).toNat (kp2 b k + 1)
def rwD (b : List UInt8) (k : Int) : j9 := ⟨vsD b k, asD b k, (z8 b k).1⟩
def fbP : j9 := ⟨[0, 1], [], [⟨1, 1, noE, ⟨2, 0, []⟩, 0, [], []⟩]⟩
def r8 (b : List UInt8) (k : Int) : j9 := if E0 (rwD b k) = true then rwD b k else fbP
section
variable (b : List UInt8) {k : Int}
theorem bN6 (hk : 0 ≤ k) (hk2 : k ≤ 1000000000) : 0 ≤ nm b k nvL ∧ nm b k nvL ≤ 5 := aI3 b (by simp) (by simp) hk hk2
theorem bU5 (hk : 0 ≤ k) (hk2 : k ≤ 1000000000) : 0 ≤ nm b k nbL ∧ nm b k nbL ≤ 4 := aI3 b (by simp) (by simp) hk hk2
theorem bN9 (hk : 0 ≤ k) (hk2 : k ≤ 1000000000) : 0 ≤ nm b k naL ∧ nm b k naL ≤ 2 := aI3 b (by simp) (by simp) hk hk2
theorem bt5 (hk : 0 ≤ k) (hk2 : k ≤ 10000000) : k + 1 ≤ I3 b k ∧ I3 b k ≤ k + 6 := by
 have := bN6 b hk (by omega); unfold I3; omega
theorem bt4 (hk : 0 ≤ k) (hk2 : k ≤ 10000000) : k + 2 ≤ kp2 b k ∧ kp2 b k ≤ k + 9 := by
 have h1 := bt5 b hk hk2
 have := bN9 b (k := I3 b k) (by omega) (by omega); unfold kp2; omega
theorem cS3 : cS 3 = 34170 ∧ cS 2 = 8442 := by decide
theorem b61 (nv na : Nat) : Drw (C2 b nv na 3) 34170 := fun j h1 h2 => by
 have e := cS3.1
 have h3 := aT0 b nv na 3 j h1 (by omega)
 have h4 := a22 b nv na 3 j h1 (by omega)
 omega
theorem bx9 (hk : 0 ≤ k) (hk2 : k ≤ 10000000) : kp2 b k ≤ (z8 b k).2 ∧ (z8 b k).2 ≤ k + 150000 ∧ t9 (z8 b k).1 ≤ 150000 := by
 have h1 := bt4 b hk hk2
 have h2 := bU5 b (k := kp2 b k) (by omega) (by omega)
 have h3 := aO8 (f := C2 b (vsD b k).length (asD b k).length 3) (by omega) (b61 b _ _) (nm b (kp2 b k) nbL).toNat (kp2 b k + 1) (by omega) (by omega)
 unfold z8
 omega
theorem bm3 (hk : 0 ≤ k) (hk2 : k ≤ 10000000) : (vsD b k).length ≤ 5 := by
 have := bN6 b hk (by omega); unfold vsD; rw [ag5]; omega
theorem by1 (hk : 0 ≤ k) (hk2 : k ≤ 10000000) : (asD b k).length ≤ 2 := by
 have h1 := bt5 b hk hk2
 have := bN9 b (k := I3 b k) (by omega) (by omega); unfold asD; rw [ag5]; omega
theorem bO8 : E0 fbP = true := by decide +kernel
theorem br5 (k : Int) : E0 (r8 b k) = true := by
 unfold r8; split
 ·assumption
 ·exact bO8
theorem br4 (hk : 0 ≤ k) (hk2 : k ≤ 10000000) : (r8 b k).size ≤ 160000 := by
 have h1 := bx9 b hk hk2
 have h2 := bm3 b hk hk2
 have h3 := by1 b hk hk2
 unfold r8; split
 ·show (vsD b k).length + (asD b k).length + t9 (z8 b k).1 ≤ 160000
  omega
 ·decide
end
def bsD (c : List UInt8) : List UInt8 := c.take 2000
abbrev opL : List Int := [1] ++ ([2] ++ ([3] ++ ([6] ++ ([2] ++ ([7] ++ ([9] ++ ([4] ++ ([5] ++ ([11] ++ ([8] ++ ([12] ++ [])))))))))))
abbrev vaL : List Int := [0] ++ ([1] ++ ([2] ++ ([3] ++ ([255] ++ ([128] ++ ([7] ++ ([4] ++ ([100] ++ []))))))))
abbrev lnL : List Int := [6] ++ ([8] ++ ([4] ++ ([10] ++ ([1] ++ ([12] ++ [])))))
def opD (b : List UInt8) (j : Int) (na : Nat) : Int := if na = 0 ∧ (nm b j opL = 4 ∨ nm b j opL = 5) then 2 else nm b j opL
def ptD (b : List UInt8) (j : Int) (nv na : Nat) (at0 n : Int) (kd : UInt8) : Int :=
 if kd = 114 then pk b j 3 else if kd = 99 then nm b j vaL else if kd = 118 then pk b j nv else if kd = 97 then pk b j na else if kd = 111 then 4 + pk b j 7 else at0 + 1 + pk b j (n - at0 - 1)
def psD (b : List UInt8) (j : Int) (nv na : Nat) (at0 n : Int) (ks : List UInt8) (k : Nat) : List Int := (b88 4).map fun i => if i < k then ptD b (j + i) nv na at0 n (ks.getD i 0) else 0
theorem bc3 (b : List UInt8) (j : Int) (nv na : Nat) (at0 n : Int) (ks : List UInt8) (k : Nat) : (psD b j nv na at0 n ks k).length = 4 := by simp [psD]
theorem bq9 (b : List UInt8) (j : Int) (nv na : Nat) (at0 n : Int) (ks : List UInt8) {k : Nat} (hk : k < 4) : psD b j nv na at0 n ks (k + 1) = (psD b j nv na at0 n ks k).set k (ptD b (j + k) nv na at0 n (ks.getD k 0)) := by
 apply List.ext_getElem (by simp [bc3])
 intro i h1 h2
 rw [List.getElem_set]
 simp only [psD, List.getElem_map, List.getElem_range]
 by_cases e : k = i
 ·subst e; simp
 ·rw [if_neg e]
  have : (i < k + 1) ↔ (i < k) := by omega
  simp only [this]
def U8 (b : List UInt8) (j : Int) (nv na : Nat) (at0 n : Int) : d7 × Int :=
 (⟨opD b j na, (psD b (j + 1) nv na at0 n (f8 (opD b j na)) (f8 (opD b j na)).length).getD 0 0, (psD b (j + 1) nv na at0 n (f8 (opD b j na)) (f8 (opD b j na)).length).getD 1 0,
  (psD b (j + 1) nv na at0 n (f8 (opD b j na)) (f8 (opD b j na)).length).getD 2 0, (psD b (j + 1) nv na at0 n (f8 (opD b j na)) (f8 (opD b j na)).length).getD 3 0⟩, j + 1 + (f8 (opD b j na)).length)
theorem b23 (b : List UInt8) (j : Int) (nv na : Nat) (at0 n : Int) : j + 1 ≤ (U8 b j nv na at0 n).2 ∧ (U8 b j nv na at0 n).2 ≤ j + 5 := by
 have := Q4 (opD b j na)
 unfold U8
 simp only
 omega
def rsD (b : List UInt8) (j : Int) (nv na : Nat) (n : Int) : Nat → List d7 × Int
 | 0 => ([], j)
 | k + 1 => ((rsD b j nv na n k).1 ++ [(U8 b (rsD b j nv na n k).2 nv na k n).1], (U8 b (rsD b j nv na n k).2 nv na k n).2)
theorem bM0 (b : List UInt8) (j : Int) (nv na : Nat) (n : Int) : ∀ k : Nat, (rsD b j nv na n k).1.length = k ∧ j ≤ (rsD b j nv na n k).2 ∧ (rsD b j nv na n k).2 ≤ j + 5 * k
 | 0 => by simp [rsD]
 | k + 1 => by
  obtain ⟨h1, h2, h3⟩ := bM0 b j nv na n k
  have h4 := b23 b (rsD b j nv na n k).2 nv na k n
  have e2 : (rsD b j nv na n (k + 1)).2 = (U8 b (rsD b j nv na n k).2 nv na k n).2 := rfl
  have e1 : (rsD b j nv na n (k + 1)).1.length = k + 1 := by
   show ((rsD b j nv na n k).1 ++ [(U8 b (rsD b j nv na n k).2 nv na k n).1]).length = k + 1
   rw [b74, h1]; rfl
  rw [e1, e2]
  generalize (U8 b (rsD b j nv na n k).2 nv na k n).2 = x at h4 ⊢
  generalize (rsD b j nv na n k).2 = y at *
  refine ⟨rfl, ?_, ?_⟩ <;> omega
def clD (b : List UInt8) (j : Int) (nv na : Nat) : List d7 × Int :=
 (fun (n : Int) =>
  (fun (r : List d7 × Int) =>
   if n > 3 then
    (if pk b r.2 4 = 0 then (((r.1 ++ [(⟨13, 0, 0, 0, 0⟩ : d7)]).set 0 ⟨1, 5, 1 + pk b (r.2 + 1) 3, 0, 0⟩).set (n - 2).toNat ⟨10, 5, 1, 0, 0⟩, r.2 + 2) else (r.1 ++ [⟨13, 0, 0, 0, 0⟩], r.2 + 1))
   else (r.1 ++ [⟨13, 0, 0, 0, 0⟩], r.2)) (rsD b (j + 1) nv na n (n - 1).toNat)) (nm b j lnL)
theorem bO0 (b : List UInt8) {j : Int} (hj : 0 ≤ j) (hj2 : j ≤ 1000000000) : 1 ≤ nm b j lnL ∧ nm b j lnL ≤ 12 := by
 have h := aj9 b hj hj2 (l := lnL) (List.cons_ne_nil _ _)
 generalize nm b j lnL = x at h ⊢
 simp only [lnL, List.cons_append, cb8, ca4, List.not_mem_nil, or_false] at h
 omega
theorem b63 (b : List UInt8) {j : Int} (nv na : Nat) (hj : 0 ≤ j) (hj2 : j ≤ 1000000000) : (clD b j nv na).1.length = (nm b j lnL).toNat ∧ j + 1 ≤ (clD b j nv na).2 ∧ (clD b j nv na).2 ≤ j + 70 := by
 have hn := bO0 b hj hj2
 obtain ⟨h1, h2, h3⟩ := bM0 b (j + 1) nv na (nm b j lnL) (nm b j lnL - 1).toNat
 unfold clD
 simp only
 split
 ·split
  ·simp only [b95, b74, b79, b85, h1]; omega
  ·simp only [b74, b79, b85, h1]; omega
 ·simp only [b74, b79, b85, h1]; omega
structure v7 where
 vals : List Int
 arrs : List (List Int)
def F5 (l : List Int) : Bool := l.all fun n => decide (0 ≤ n) && decide (n ≤ 255)
def R7 (a : List Int) : Bool := decide (a.length = 4) && F5 a
def I6 (nv na : Nat) (m : v7) : Bool := decide (m.vals.length = nv) && (decide (m.arrs.length = na) && (F5 m.vals && m.arrs.all R7))
def vlD (b : List UInt8) (j : Int) (n : Nat) : List Int := (b88 n).map fun i : Nat => nm b (j + i) vaL
theorem aj0 (b : List UInt8) (j : Int) (n : Nat) : (vlD b j n).length = n := by simp [vlD]
theorem b12 (b : List UInt8) (j : Int) : vlD b j 0 = [] := rfl
theorem aK9 (b : List UInt8) (j : Int) (k : Nat) : vlD b j (k + 1) = vlD b j k ++ [nm b (j + k) vaL] := by
 unfold vlD; rw [List.range_succ, List.map_append]; rfl
def arD (b : List UInt8) (j : Int) (n : Nat) : List (List Int) := (b88 n).map fun i : Nat => vlD b (j + 4 * i) 4
theorem by4 (b : List UInt8) (j : Int) (n : Nat) : (arD b j n).length = n := by simp [arD]
theorem bH0 (b : List UInt8) (j : Int) (k : Nat) : arD b j (k + 1) = arD b j k ++ [vlD b (j + 4 * k) 4] := by
 unfold arD; rw [List.range_succ, List.map_append]; rfl
theorem b01 (b : List UInt8) (j : Int) (n : Nat) : ∀ a ∈ arD b j n, a.length = 4 := by
 intro a ha
 obtain ⟨i, _, rfl⟩ := List.mem_map.1 ha
 exact aj0 _ _ _
def mmD (b : List UInt8) (j : Int) (nv na : Nat) : v7 := ⟨vlD b j nv, arD b (j + nv) na⟩
section
variable {nv na : Nat} {m : v7}
theorem bX0 (h : ¬ (m.vals.length : Int) = nv) : I6 nv na m = false := by unfold I6; rw [decide_eq_false (p := m.vals.length = nv) (by omega)]; rfl
theorem bW9 (h : ¬ (m.arrs.length : Int) = na) : I6 nv na m = false := by unfold I6; rw [decide_eq_false (p := m.arrs.length = na) (by omega)]; simp
theorem bW8 (h : F5 m.vals = false) : I6 nv na m = false := by unfold I6; rw [h]; simp
theorem bW7 (h1 : (m.vals.length : Int) = nv) (h2 : (m.arrs.length : Int) = na) (h3 : F5 m.vals = true) : I6 nv na m = m.arrs.all R7 := by
 unfold I6
 rw [decide_eq_true (p := m.vals.length = nv) (by omega), decide_eq_true (p := m.arrs.length = na) (by omega), h3]; rfl
theorem aB6 (h : I6 nv na m = true) : m.vals.length = nv ∧ m.arrs.length = na ∧ F5 m.vals = true ∧ m.arrs.all R7 = true := by
 unfold I6 at h
 simpa [b73] using h
end
def jmS (b : List UInt8) (n : Int) (i : Nat) (x : List d7 × Int) : List d7 × Int :=
 if (x.1.getD i b71).op ≠ 10 ∧ (x.1.getD i b71).op ≠ 1 then
  (if pk b x.2 4 = 0 then (x.1.set i ⟨8, i + 1 + pk b (x.2 + 1) (n - i - 1), 0, 0, 0⟩, x.2 + 2) else (x.1, x.2 + 1))
 else x
def x7 (b : List UInt8) (n : Int) (x : List d7 × Int) : Nat → List d7 × Int
 | 0 => x
 | k + 1 => jmS b n k (x7 b n x k)
theorem bV7 (b : List UInt8) (n : Int) (i : Nat) (x : List d7 × Int) : (jmS b n i x).1.length = x.1.length ∧ x.2 ≤ (jmS b n i x).2 ∧ (jmS b n i x).2 ≤ x.2 + 2 := by
 unfold jmS
 split
 ·split
  ·exact ⟨b95, by show x.2 ≤ x.2 + 2; omega, by show x.2 + 2 ≤ x.2 + 2; omega⟩
  ·exact ⟨rfl, by show x.2 ≤ x.2 + 1; omega, by show x.2 + 1 ≤ x.2 + 2; omega⟩
 ·exact ⟨rfl, Int.le_refl _, by omega⟩
theorem bO3 (b : List UInt8) (n : Int) (x : List d7 × Int) : ∀ k : Nat, (x7 b n x k).1.length = x.1.length ∧ x.2 ≤ (x7 b n x k).2 ∧ (x7 b n x k).2 ≤ x.2 + 2 * k
 | 0 => ⟨rfl, Int.le_refl _, by simp [x7]⟩
 | k + 1 => by
  obtain ⟨h1, h2, h3⟩ := bO3 b n x k
  obtain ⟨g1, g2, g3⟩ := bV7 b n k (x7 b n x k)
  rw [x7]
  refine ⟨g1.trans h1, by omega, by omega⟩
abbrev bV0 : List Int := [0] ++ ([14] ++ ([1] ++ ([12] ++ [])))
abbrev bU9 : List Int := [-1] ++ ([14] ++ ([0] ++ ([400] ++ [])))
abbrev bU8 : List Int := [1] ++ ([-1] ++ [])
def bM4 (l : List d7) (i : Nat) (n : Int) : List d7 := l.set i ⟨n, (l.getD i b71).a, (l.getD i b71).b, (l.getD i b71).c, (l.getD i b71).d⟩
def bq8 (l : List d7) (i : Nat) (n : Int) : List d7 := l.set i ⟨(l.getD i b71).op, n, (l.getD i b71).b, (l.getD i b71).c, (l.getD i b71).d⟩
def bM5 (l : List d7) (i : Nat) (n : Int) : List d7 := l.set i ⟨(l.getD i b71).op, (l.getD i b71).a, (l.getD i b71).b, (l.getD i b71).c, n⟩
def muD (b : List UInt8) (j : Int) (c : b6) : b6 × Int :=
 if c.list.length = 0 then (c, j)
 else if pk b j 60 = 0 then (⟨c.vars, c.arrays, bM4 c.list 0 (nm b (j + 1) bV0)⟩, j + 2)
 else if pk b j 60 = 1 then (⟨c.vars, c.arrays, bq8 c.list (pk b (j + 1) c.list.length).toNat (nm b (j + 2) bU9)⟩, j + 3)
 else if pk b j 60 = 2 then (⟨c.vars, c.arrays, c.list.set (c.list.length - 1) ⟨12, 0, 0, 0, 0⟩⟩, j + 1)
 else if pk b j 60 = 3 then (⟨c.vars, c.arrays, c.list.set (c.list.length - 1) ⟨8, 0, 0, 0, 0⟩⟩, j + 1)
 else if pk b j 60 = 4 then (⟨c.vars, c.arrays, bM5 c.list (pk b (j + 1) c.list.length).toNat (nm b (j + 2) bU8)⟩, j + 3)
 else if pk b j 60 = 5 then (⟨[], c.arrays, c.list⟩, j + 1)
 else (c, j + 1)
theorem b48 (b : List UInt8) (j : Int) (c : b6) : (muD b j c).1.list.length = c.list.length ∧ (muD b j c).1.vars.length ≤ c.vars.length ∧ (muD b j c).1.arrays.length = c.arrays.length ∧ j ≤ (muD b j c).2 ∧ (muD b j c).2 ≤ j + 3 := by
 have key : ∀ (x : b6) (q : Int), x.list.length = c.list.length → x.vars.length ≤ c.vars.length → x.arrays.length = c.arrays.length → j ≤ q → q ≤ j + 3 → ((x, q).1.list.length = c.list.length ∧ (x, q).1.vars.length ≤ c.vars.length ∧ (x, q).1.arrays.length = c.arrays.length ∧ j ≤ (x, q).2 ∧ (x, q).2 ≤ j + 3) := fun x q h1 h2 h3 h4 h5 => ⟨h1, h2, h3, h4, h5⟩
 unfold muD
 repeat' split
 all_goals (refine key _ _ ?_ ?_ ?_ (by omega) (by omega) <;> simp [bM4, bq8, bM5])
theorem bT9 {b : List UInt8} {j n : Int} (h : n < 1) : pk b j n = 0 := by unfold pk; rw [if_pos (.inl h)]
theorem b35 {b : List UInt8} {j n : Int} (h : (b.length : Int) = 0) : pk b j n = 0 := by unfold pk; rw [if_pos (.inr (by omega))]
theorem b34 {b : List UInt8} {j n : Int} (h : ¬ n < 1) (h1 : ¬ (b.length : Int) = 0) (h2 : j + 1 - 1 < b.length) : pk b j n = ((b.getD (j + 1 - 1).toNat 0).toNat : Int).tmod n := by
 unfold pk; rw [if_neg (by omega), if_pos (by omega), Int.add_sub_cancel]
theorem b33 {b : List UInt8} {j n : Int} (h : ¬ n < 1) (h1 : ¬ (b.length : Int) = 0) (h2 : ¬ j + 1 - 1 < b.length) : pk b j n = (a11 (pkX b (j + 1 - 1)) ((pkX b (j + 1 - 1)).tdiv 64)).tmod n := by
 unfold pk; rw [if_neg (by omega), if_neg (by omega), Int.add_sub_cancel]
theorem bh5 {x : Int} {n : Nat} (hx : 0 ≤ x) (hn : ¬ (n : Int) = 0) : 0 ≤ x.tmod n ∧ x.tmod n < n ∧ (x.tmod n).toNat < n := by
 have := a17 (x := x) (n := n) hx (by omega); omega
theorem s4 (b : List UInt8) (j n : Int) (r0 : 0 ≤ j) (r1 : j ≤ 1000000000) : l0.ok Tryz.prog ⟨45, [.ptr 0 0, iA n], [.box [.ref 1, iA j], dY b], [.box [.ref 1, iA (j + 1)], dY b], iA (pk b j n)⟩ := by
  refine J8 99 Tryz.func45 [.box [.ref 1, iA j], dY b] [(0, .ptr 0 0), (1, iA n)] fun G => ?_; have hu1 := aS2 (b.getD ((j + 1 - 1).tmod b.length).toNat 0); have hu2 := aS2 (b.getD (((j + 1 - 1) * 7 + 3).tmod b.length).toNat 0); refine wp_seq (l6 G e6 [(4, iA 0)] fun G => b0 (wp_seq (K6 G e6 [0, 1] [.box [.ref 1, iA (j + 1)], dY b] [(0, .ptr 0 0), (1, iA n), (4, iA 0)] [wO (j + 1)] (o1 (by omega)) fun G => b0 (wp_seq (wp_seq ?_))))); cases h0 : (decide (n < 1))
  ·
   have q0 := Z3 h0; refine l6 G (J3 (fc h0 fz) (us [(3, 8, 0), (1009, 1009, 0)])) [(24, bA ((b.length : Int) == 0))] fun G => b0 (P0 G (fun h1 q1 => ?_) fun h1 q1 => ?_)
   ·
    refine wp_skip (b0 (wp_seq (D0 G e6 [(5, iA (j + 1 - 1))] [wO (j + 1 - 1)] (o1 (by omega)) fun G => b0 (wp_seq (wp_seq (l6 G e6 [(36, bA (decide (j + 1 - 1 < (b.length : Int))))] fun G => b0 (rcD G (fun h2 q2 => ?_) fun h2 q2 => ?_)))))))
    ·
     refine wp_skip (b0 (wp_seq (bg5 G e6 [0, 1, 3, 7, 0, 0, 32, 96, 224, 480, 1008, 2047, 4095, 8191, 16383, 0, 32768, 98304, 229376, 0, 524288, 1572864, 0, 4194304, 12582912, 29360128, 62914560, 133693440, 268402688, 536838144, 1073709056, 2147450880, 4294967295, 0, 8589934592, 34359738367, 0, 0, 137438953472, 412316860416, 962072674304, 2061584302080, 4329327034368, 8727373545472, 17592186044415, 35184372088831] [(6, iA (((b.getD ((j + 1 - 1).tmod (b.length : Int)).toNat 0).toNat : Int) * 131 + ((b.getD (((j + 1 - 1) * 7 + 3).tmod (b.length : Int)).toNat 0).toNat : Int) * 1117 + (j + 1 - 1) * 29 + (j + 1 - 1).tdiv (b.length : Int) * 53))] [(b.length : Int) ≠ 0, (0 : Int) ≤ (j + 1 - 1).tmod (b.length : Int), (j + 1 - 1).tmod (b.length : Int) < b.length, ((j + 1 - 1).tmod (b.length : Int)).toNat < b.length, IntKind.i64.wrap ((b.getD ((j + 1 - 1).tmod (b.length : Int)).toNat (0 : UInt8)).toNat : Int) = ((b.getD ((j + 1 - 1).tmod (b.length : Int)).toNat (0 : UInt8)).toNat : Int), wO (((b.getD ((j + 1 - 1).tmod (b.length : Int)).toNat (0 : UInt8)).toNat : Int) * 131), wO ((j + 1 - 1) * 7), wO ((j + 1 - 1) * 7 + 3), (b.length : Int) ≠ 0, (0 : Int) ≤ ((j + 1 - 1) * 7 + 3).tmod (b.length : Int), ((j + 1 - 1) * 7 + 3).tmod (b.length : Int) < b.length, (((j + 1 - 1) * 7 + 3).tmod (b.length : Int)).toNat < b.length, IntKind.i64.wrap ((b.getD (((j + 1 - 1) * 7 + 3).tmod (b.length : Int)).toNat (0 : UInt8)).toNat : Int) = ((b.getD (((j + 1 - 1) * 7 + 3).tmod (b.length : Int)).toNat (0 : UInt8)).toNat : Int), wO (((b.getD (((j + 1 - 1) * 7 + 3).tmod (b.length : Int)).toNat (0 : UInt8)).toNat : Int) * 1117), wO (((b.getD ((j + 1 - 1).tmod (b.length : Int)).toNat (0 : UInt8)).toNat : Int) * 131 + ((b.getD (((j + 1 - 1) * 7 + 3).tmod (b.length : Int)).toNat (0 : UInt8)).toNat : Int) * 1117), wO ((j + 1 - 1) * 29), wO (((b.getD ((j + 1 - 1).tmod (b.length : Int)).toNat (0 : UInt8)).toNat : Int) * 131 + ((b.getD (((j + 1 - 1) * 7 + 3).tmod (b.length : Int)).toNat (0 : UInt8)).toNat : Int) * 1117 + (j + 1 - 1) * 29), (b.length : Int) ≠ 0, wO ((j + 1 - 1).tdiv (b.length : Int)), wO ((j + 1 - 1).tdiv (b.length : Int) * 53), wO (((b.getD ((j + 1 - 1).tmod (b.length : Int)).toNat (0 : UInt8)).toNat : Int) * 131 + ((b.getD (((j + 1 - 1) * 7 + 3).tmod (b.length : Int)).toNat (0 : UInt8)).toNat : Int) * 1117 + (j + 1 - 1) * 29 + (j + 1 - 1).tdiv (b.length : Int) * 53)] ⟨(by assumption), ((bh5 (by omega) (by omega)).1), ((bh5 (by omega) (by omega)).2.1), ((bh5 (by omega) (by omega)).2.2), (w64 (by omega) (by omega)), (oW (by omega)), (oW (by omega)), (oW (by omega)), (by assumption), ((bh5 (by omega) (by omega)).1), ((bh5 (by omega) (by omega)).2.1), ((bh5 (by omega) (by omega)).2.2), (w64 (by omega) (by omega)), (oW (by omega)), (oW (by omega)), (oW (by omega)), (oW (by omega)), (by assumption), (by have := aV1 (b := b) (k := j + 1 - 1) (by omega) (by omega) (by omega); exact w64 (by unfold pkX at this; omega) (by unfold pkX at this; omega)), (by have := aV1 (b := b) (k := j + 1 - 1) (by omega) (by omega) (by omega); exact w64 (by unfold pkX at this; omega) (by unfold pkX at this; omega)), (by have := aV1 (b := b) (k := j + 1 - 1) (by omega) (by omega) (by omega); exact w64 (by unfold pkX at this; omega) (by unfold pkX at this; omega)), b84⟩ fun G => ?_)))
     refine b0 (wp_seq (D0 G e6 [(6, iA (a11 (((b.getD ((j + 1 - 1).tmod (b.length : Int)).toNat 0).toNat : Int) * 131 + ((b.getD (((j + 1 - 1) * 7 + 3).tmod (b.length : Int)).toNat 0).toNat : Int) * 1117 + (j + 1 - 1) * 29 + (j + 1 - 1).tdiv (b.length : Int) * 53) ((((b.getD ((j + 1 - 1).tmod (b.length : Int)).toNat 0).toNat : Int) * 131 + ((b.getD (((j + 1 - 1) * 7 + 3).tmod (b.length : Int)).toNat 0).toNat : Int) * 1117 + (j + 1 - 1) * 29 + (j + 1 - 1).tdiv (b.length : Int) * 53).tdiv 64)))] [(64 : Int) ≠ 0, wO ((((b.getD ((j + 1 - 1).tmod (b.length : Int)).toNat (0 : UInt8)).toNat : Int) * 131 + ((b.getD (((j + 1 - 1) * 7 + 3).tmod (b.length : Int)).toNat (0 : UInt8)).toNat : Int) * 1117 + (j + 1 - 1) * 29 + (j + 1 - 1).tdiv (b.length : Int) * 53).tdiv (64 : Int))] ⟨(by omega), (by have := bJ1 (b := b) (k := j + 1 - 1) (by omega) (by omega) (by omega); exact w64 (by unfold pkX at this; omega) (by unfold pkX at this; omega)), b84⟩ fun G => b0 (wp_seq (D0 G e6 [(4, iA ((a11 (((b.getD ((j + 1 - 1).tmod (b.length : Int)).toNat 0).toNat : Int) * 131 + ((b.getD (((j + 1 - 1) * 7 + 3).tmod (b.length : Int)).toNat 0).toNat : Int) * 1117 + (j + 1 - 1) * 29 + (j + 1 - 1).tdiv (b.length : Int) * 53) ((((b.getD ((j + 1 - 1).tmod (b.length : Int)).toNat 0).toNat : Int) * 131 + ((b.getD (((j + 1 - 1) * 7 + 3).tmod (b.length : Int)).toNat 0).toNat : Int) * 1117 + (j + 1 - 1) * 29 + (j + 1 - 1).tdiv (b.length : Int) * 53).tdiv 64)).tmod n))] [n ≠ 0] ⟨(by omega), b84⟩ fun G => b0 (wp_ret ?_))))); exact rxI ((a11 (((b.getD ((j + 1 - 1).tmod (b.length : Int)).toNat 0).toNat : Int) * 131 + ((b.getD (((j + 1 - 1) * 7 + 3).tmod (b.length : Int)).toNat 0).toNat : Int) * 1117 + (j + 1 - 1) * 29 + (j + 1 - 1).tdiv (b.length : Int) * 53) ((((b.getD ((j + 1 - 1).tmod (b.length : Int)).toNat 0).toNat : Int) * 131 + ((b.getD (((j + 1 - 1) * 7 + 3).tmod (b.length : Int)).toNat 0).toNat : Int) * 1117 + (j + 1 - 1) * 29 + (j + 1 - 1).tdiv (b.length : Int) * 53).tdiv 64)).tmod n) G [0, 1] (b33 (by omega) (by omega) (by omega))
    · refine wp_seq (D0 G e6 [(4, iA (((b.getD (j + 1 - 1).toNat 0).toNat : Int).tmod n))] (iX (j + 1 - 1) ((j + 1 - 1).toNat) b.length ((IntKind.i64.wrap ((b.getD (j + 1 - 1).toNat (0 : UInt8)).toNat : Int) = ((b.getD (j + 1 - 1).toNat (0 : UInt8)).toNat : Int)) :: ((n ≠ 0) :: []))) (iK (by omega) ⟨(by have := aS2 (b.getD (j + 1 - 1).toNat 0); exact w64 (by omega) (by omega)), ⟨(by omega), b84⟩⟩) fun G => b0 (wp_ret (o8 ?_))); exact rxI (((b.getD (j + 1 - 1).toNat 0).toNat : Int).tmod n) G [0, 1] (b34 (by omega) (by omega) (by omega))
   · refine wp_seq (l6 G e6 [] fun G => b0 (wp_ret (o8 ?_))); exact rxI 0 G [0, 1] (b35 (by omega))
  · have q0 := Z2 h0; refine l6 G (J3 (fc h0 fz) (us [(3, 8, 0), (1009, 1009, 0)])) [(24, bA true)] fun G => b0 (rT G true (by kernel_rfl) (wp_seq (l6 G e6 [] fun G => b0 (wp_ret (o8 ?_))))); exact rxI 0 G [0, 1] (bT9 (by omega))
theorem O5 (b : List UInt8) (j : Int) (l : List Int) (hl : l ≠ []) (r0 : 0 ≤ j) (r1 : j ≤ 1000000000) : l0.ok Tryz.prog ⟨46, [.ptr 0 0, .ref 2], [.box [.ref 1, iA j], dY b, dI l], [.box [.ref 1, iA (j + 1)], dY b, dI l], iA (nm b j l)⟩ := by
 refine J8 12 Tryz.func46 [.box [.ref 1, iA j], dY b, dI l] [(0, .ptr 0 0), (1, .ref 2)] fun G => ?_; refine wp_seq (l6 G e6 [(4, iA 0)] fun G => b0 (wp_seq (K6 G (v5 4 [0, 1] (s4 b j ((l.length : Int)) (by assumption) (by assumption))) [0, 1, 2] [.box [.ref 1, iA (j + 1)], dY b, dI l] [(4, iA (l.getD (pk b j (l.length : Int)).toNat 0))] [(0 : Int) ≤ pk b j (l.length : Int), pk b j (l.length : Int) < l.length, (pk b j (l.length : Int)).toNat < l.length] ⟨((bd1 b r0 r1 hl).1), ((bd1 b r0 r1 hl).2.1), ((bd1 b r0 r1 hl).2.2), b84⟩ fun G => b0 (wp_ret ?_)))); exact J9 G [0, 1, 2]
theorem a82 (c : List UInt8) (hc : c.length ≤ 2000) : l0.ok Tryz.prog ⟨21, [.ref 0], [dY c], [dY c, .box [.ref 0, iA 0]], .ptr 1 0⟩ := by
 refine J8 11 Tryz.func21 [dY c] [(0, .ref 0)] fun G => ?_; refine wp_seq (l6 G e6 [(2, .v (.pointer none))] fun G => b0 (wp_seq (wp_seq (G9 G e6 [(0, .ref 0), (2, .v (.pointer none)), (5, bA (decide ((c.length : Int) > 2000)))] fun G => b0 ?_)))); cases h0 : (decide ((c.length : Int) > 2000))
 ·have q0 := Z3 h0; refine rF G _ h0 (wp_skip (b0 (wp_seq (i9 G e6 [0, 17] [dY c, .box [.ref 0, iA 0]] [(2, .ptr 1 0)] fun G => b0 (wp_ret ?_))))); exact J9 G [0, 1]
 ·have q0 := Z2 h0; exact False.elim (by omega)
theorem a81 (c : List UInt8) (hc : 2000 < c.length) : l0.ok Tryz.prog ⟨21, [.ref 0], [dY c], [dY c, .box [.ref 2, iA 0], dY ((c.take 2000).drop 0)], .ptr 1 0⟩ := by
 refine J8 11 Tryz.func21 [dY c] [(0, .ref 0)] fun G => ?_; refine wp_seq (l6 G e6 [(2, .v (.pointer none))] fun G => b0 (wp_seq (wp_seq (G9 G e6 [(0, .ref 0), (2, .v (.pointer none)), (5, bA (decide ((c.length : Int) > 2000)))] fun G => b0 ?_)))); cases h0 : (decide ((c.length : Int) > 2000))
 ·have q0 := Z3 h0; exact False.elim (by omega)
 ·have q0 := Z2 h0; refine rT G _ h0 (K6 G e6 [0, 9] [dY c, dY (List.drop 0 (b83 (Int.toNat 2000) c))] [(0, .ref 1), (2, .v (.pointer none))] [(0 : Int) ≤ 2000, (2000 : Int) ≤ c.length] ⟨(by omega), (by omega), b84⟩ fun G => b0 (wp_seq (i9 G e6 [0, 1, 18] [dY c, dY (List.drop 0 (b83 (Int.toNat 2000) c)), .box [.ref 1, iA 0]] [(2, .ptr 2 0)] fun G => b0 (wp_ret ?_)))); exact J9 G [0, 2, 1]
abbrev dwS (b : List UInt8) (j : Int) (vs ars : List Int) (bd : List c8) : List It := [.box [.ref 1, iA j], dY b, dI vs, dI ars, dT bd]
abbrev exO (e : d8) : List It := [.tree (.exprs e.kids)]
abbrev exA (e : d8) (r : Nat) : AV := .agg [iA e.kind, iA e.value, .tref r]
theorem bZ8 {b : List UInt8} {nv j : Int} (h : pk b j 3 = 0) : n9 b nv j = ⟨1, nm b (j + 1) atL, []⟩ := if_pos h
theorem bZ7 {b : List UInt8} {nv j : Int} (h : ¬ pk b j 3 = 0) : n9 b nv j = ⟨2, pk b (j + 1) nv, []⟩ := if_neg h
theorem aq7 (b : List UInt8) (j : Int) (vs ars : List Int) (bd : List c8) (r0 : 0 ≤ j) (r1 : j ≤ 900000000) : l0.ok Tryz.prog ⟨103, [.ptr 0 0, pA 2], dwS b j vs ars bd, dwS b (j + 2) vs ars bd ++ exO (n9 b vs.length j), exA (n9 b vs.length j) 5⟩ := by
 refine J8 18 Tryz.func103 [.box [.ref 1, iA j], dY b, dI vs, dI ars, dT bd] [(0, .ptr 0 0), (1, pA 2)] fun G => ?_; refine wp_seq (i9 G e6 [0, 1, 2, 3, 4, 5, 13] [.box [.ref 1, iA j], dY b, dI vs, dI ars, dT bd, .box (pL 2), .box [iA 0, iA 0, .v (.slice none 0 0)]] [(0, .ptr 0 0), (3, .ptr 5 0), (4, .ptr 6 0)] fun G => b0 (wp_seq (wp_seq (i9 G (v5 1 [0, 1] (s4 b j 3 (by assumption) (by omega))) (rg 7) [.box [.ref 1, iA (j + 1)], dY b, dI vs, dI ars, dT bd, .box (pL 2), .box [iA 0, iA 0, .v (.slice none 0 0)]] [(0, .ptr 0 0), (3, .ptr 5 0), (4, .ptr 6 0), (7, bA (pk b j 3 == 0))] fun G => b0 (P0 G (fun h0 q0 => ?_) fun h0 q0 => ?_)))))
 ·refine wp_skip (b0 (wp_seq (i9 G (v5 4 [0, 1] (s4 b (j + 1) ((vs.length : Int)) (by omega) (by omega))) [0, 1, 2, 3, 4, 6] [.box [.ref 1, iA (j + 1 + 1)], dY b, dI vs, dI ars, dT bd, .box [iA 2, iA (pk b (j + 1) (vs.length : Int)), .v (.slice none 0 0)]] [(4, .ptr 5 0)] fun G => b0 (wp_ret ?_)))); obtain ⟨ρ, G⟩ := G.nilT 6 (.exprs []) [.box [.ref 1, iA (j + 1 + 1)], dY b, dI vs, dI ars, dT bd, .box [iA 2, iA (pk b (j + 1) (vs.length : Int)), .tref 6]] [(4, .ptr 5 0)]; exact rxv (.agg [iA 2, iA (pk b (j + 1) (vs.length : Int)), .tref 6]) G [0, 1, 2, 3, 4, 6] (by show _ = AV.ren (nth [0, 1, 2, 3, 4, 6]) (.agg [iA (n9 b (vs.length : Int) j).kind, iA (n9 b (vs.length : Int) j).value, .tref 5]); rw [bZ7 (by omega)] <;> rfl) (by show _ = mR [0, 1, 2, 3, 4, 6] [.box [.ref 1, iA (j + 2)], dY b, dI vs, dI ars, dT bd, .tree (D.exprs (n9 b (vs.length : Int) j).kids)]; have e1 : (j + 2 : Int) = (j + 1 + 1) := (by omega); rw [e1, bZ7 (by omega)] <;> rfl)
 ·refine wp_seq (i9 G (v5 2 [0, 1, 15] (l0.lend (O5 b (j + 1) atL (by simp [h0]) (by omega) (by omega)) [.no, .no, .row 3])) (rg 7) [.box [.ref 1, iA (j + 1 + 1)], dY b, dI vs, dI ars, dT bd, .box (pL 2), .box [iA 1, iA (nm b (j + 1) atL), .v (.slice none 0 0)]] [(0, .ptr 0 0), (3, .ptr 5 0), (4, .ptr 6 0)] fun G => b0 (wp_ret (o8 ?_))); obtain ⟨ρ, G⟩ := G.nilT 7 (.exprs []) [.box [.ref 1, iA (j + 1 + 1)], dY b, dI vs, dI ars, dT bd, .box (pL 2), .box [iA 1, iA (nm b (j + 1) atL), .tref 7]] [(0, .ptr 0 0), (3, .ptr 5 0), (4, .ptr 6 0)]; exact rxv (.agg [iA 1, iA (nm b (j + 1) atL), .tref 7]) G [0, 1, 2, 3, 4, 7] (by show _ = AV.ren (nth [0, 1, 2, 3, 4, 7]) (.agg [iA (n9 b (vs.length : Int) j).kind, iA (n9 b (vs.length : Int) j).value, .tref 5]); rw [bZ8 (by omega)] <;> rfl) (by show _ = mR [0, 1, 2, 3, 4, 7] [.box [.ref 1, iA (j + 2)], dY b, dI vs, dI ars, dT bd, .tree (D.exprs (n9 b (vs.length : Int) j).kids)]; have e1 : (j + 2 : Int) = (j + 1 + 1) := (by omega); rw [e1, bZ8 (by omega)] <;> rfl)
theorem a79 (vs ars : List Int) (bd : List c8) (e : d8) : l0.ok Tryz.prog (Z1 112 [pA 0, eA e 3] ([dI vs, dI ars, dT bd] ++ eS e) (bA (t0 vs.length ars.length e))) := I4 ⟨vs, ars, bd⟩ e
abbrev drC (b : List UInt8) (vs ars : List Int) (bd : List c8) (d : Nat) (j n : Int) : l0 := ⟨111, [.ptr 0 0, pA 2, iA n], dwS b j vs ars bd, dwS b (K8 b vs.length ars.length d j).2 vs ars bd ++ exO (K8 b vs.length ars.length d j).1, exA (K8 b vs.length ars.length d j).1 5⟩
section
variable {b : List UInt8} {nv na : Int} {d : Nat} {j : Int}
theorem bX3 (h : d < 2) : K8 b nv na d j = (n9 b nv j, j + 2) := by
 match d, h with
 | 0, _ => rfl
 | 1, _ => simp [K8]
theorem bP4 (h : 0 < d) (h1 : pk b j 4 = 0) : K8 b nv na (d + 1) j = (n9 b nv (j + 1), j + 3) := by rw [K8, if_neg (by omega), if_pos h1]
theorem bF7 (h : 0 < d) (h1 : ¬ pk b j 4 = 0) (h2 : nm b (j + 1) N3 = 3) (h3 : na = 0) : K8 b nv na (d + 1) j = (n9 b nv (j + 2), j + 4) := by rw [K8, if_neg (by omega), if_neg h1, if_pos h2, if_pos h3]
theorem bF6 (h : 0 < d) (h1 : ¬ pk b j 4 = 0) (h2 : nm b (j + 1) N3 = 3) (h3 : ¬ na = 0) : K8 b nv na (d + 1) j = (⟨3, pk b (j + 2) na, [n9 b nv (j + 3)]⟩, j + 5) := by rw [K8, if_neg (by omega), if_neg h1, if_pos h2, if_neg h3]
abbrev drK (b : List UInt8) (nv na : Int) (d : Nat) (j : Int) (k : Nat) : List d8 × Int := G5 (K8 b nv na d) k (j + 2)
theorem bX2 (h : 0 < d) (h1 : ¬ pk b j 4 = 0) (h2 : ¬ nm b (j + 1) N3 = 3) {m : Int} (h3 : 0 ≤ m) (h4 : ¬ m > 0) : K8 b nv na (d + 1) j = (⟨nm b (j + 1) N3, 0, (drK b nv na d j (t5 (nm b (j + 1) N3) - m).toNat).1⟩, (drK b nv na d j (t5 (nm b (j + 1) N3) - m).toNat).2) := by
 have e : m = 0 := by omega
 rw [e, Int.sub_zero, K8, if_neg (by omega), if_neg h1, if_neg h2]
theorem be5 {x m : Int} (h3 : m > 0) (h4 : m ≤ x) : drK b nv na d j (x - (m - 1)).toNat = ((drK b nv na d j (x - m).toNat).1 ++ [(K8 b nv na d (drK b nv na d j (x - m).toNat).2).1], (K8 b nv na d (drK b nv na d j (x - m).toNat).2).2) := by
 rw [show (x - (m - 1)).toNat = (x - m).toNat + 1 by omega]; rfl
theorem b00 (r0 : 0 ≤ j) (r1 : j ≤ 900000000) : 0 ≤ t5 (nm b (j + 1) N3) ∧ t5 (nm b (j + 1) N3) ≤ 3 := by
 have h := aj9 b (k := j + 1) (l := N3) (by omega) (by omega) (by simp)
 simp only [b87, ca4, List.not_mem_nil, or_false] at h
 rcases h with h | h | h | h | h | h | h | h | h <;> rw [h] <;> decide
theorem bX5 (r0 : 0 ≤ j) {k : Nat} (hk : k ≤ 3) : j + 2 ≤ (drK b nv na d j k).2 ∧ (drK b nv na d j k).2 ≤ j + 2 + 3 * cE d := by
 have hc := aD3 d
 have h := bv4 (f := K8 b nv na d) (c := cE d) (m := 3) (by omega) k (j + 2) hk fun i _ _ => aY3 b nv na d i
 have h4 : (k : Int) * cE d ≤ 3 * cE d := cb6 (by omega) (by omega)
 unfold drK; omega
theorem bX4 {x m : Int} (r0 : 0 ≤ j) (h3 : m > 0) (h4 : m ≤ x) (h5 : x ≤ 3) (r1 : j + cE (d + 1) ≤ 800000000) : (drK b nv na d j (x - m).toNat).2 + cE d ≤ 800000000 := by
 have hc := aD3 d
 have hce : cE (d + 1) = 5 + 3 * cE d := rfl
 have hm : (x - m).toNat ≤ 2 := by omega
 have h := bv4 (f := K8 b nv na d) (c := cE d) (m := 2) (by omega) (x - m).toNat (j + 2) hm fun i _ _ => aY3 b nv na d i
 have h4 : ((x - m).toNat : Int) * cE d ≤ 2 * cE d := cb6 (by omega) (by omega)
 unfold drK; omega
end
theorem bb7 (b : List UInt8) (vs ars : List Int) (bd : List c8) (d : Nat) (hd : d < 2) (j n : Int) (hn : n = d) (r0 : 0 ≤ j) (r1 : j ≤ 900000000) : l0.ok Tryz.prog (drC b vs ars bd d j n) := by
 refine J8 62 Tryz.func111 [.box [.ref 1, iA j], dY b, dI vs, dI ars, dT bd] [(0, .ptr 0 0), (1, pA 2), (2, iA n)] fun G => ?_; refine wp_seq (i9 G e6 [0, 1, 2, 3, 4, 5, 13] [.box [.ref 1, iA j], dY b, dI vs, dI ars, dT bd, .box (pL 2), .box [iA 0, iA 0, .v (.slice none 0 0)]] [(0, .ptr 0 0), (2, iA n), (4, .ptr 5 0), (6, .ptr 6 0)] fun G => b0 (wp_seq (wp_seq ?_))); cases h0 : (decide (n < 2))
 ·have q0 := Z3 h0; exact False.elim (by omega)
 ·have q0 := Z2 h0; refine l6 G (J3 (fc h0 fz) [(3, 0), (4, 0), (5, 0), (1006, 0)]) [(16, bA true)] fun G => b0 (rT G true (by kernel_rfl) (wp_seq (i9 G (v5 2 (rg 5) (aq7 b j vs ars bd (by assumption) (by assumption))) [0, 1, 2, 3, 4, 5, 6, 23] [.box [.ref 1, iA (j + 2)], dY b, dI vs, dI ars, dT bd, .box (pL 2), .box [iA (n9 b (vs.length : Int) j).kind, iA (n9 b (vs.length : Int) j).value, .tref 7], .tree (D.exprs (n9 b (vs.length : Int) j).kids)] [(0, .ptr 0 0), (2, iA n), (4, .ptr 5 0), (6, .ptr 6 0)] fun G => b0 (wp_ret (o8 ?_))))); exact rxv (.agg [iA (n9 b (vs.length : Int) j).kind, iA (n9 b (vs.length : Int) j).value, .tref 7]) G [0, 1, 2, 3, 4, 7] (by show _ = AV.ren (nth [0, 1, 2, 3, 4, 7]) (.agg [iA (K8 b (vs.length : Int) (ars.length : Int) d j).fst.kind, iA (K8 b (vs.length : Int) (ars.length : Int) d j).fst.value, .tref 5]); rw [bX3 hd] <;> rfl) (by show _ = mR [0, 1, 2, 3, 4, 7] [.box [.ref 1, iA (K8 b (vs.length : Int) (ars.length : Int) d j).snd], dY b, dI vs, dI ars, dT bd, .tree (D.exprs (K8 b (vs.length : Int) (ars.length : Int) d j).fst.kids)]; rw [bX3 hd] <;> rfl)
abbrev aw9 (b : List UInt8) (vs : List Int) (ars : List Int) (d : Nat) (j : Int) (k : Int) := drK b (vs.length : Int) (ars.length : Int) d j (t5 (nm b (j + 1) N3) - k).toNat
abbrev ar8 (b : List UInt8) (vs : List Int) (ars : List Int) (d : Nat) (j : Int) : AV := (.agg [iA (K8 b (vs.length : Int) (ars.length : Int) (d + 1) j).fst.kind, iA (K8 b (vs.length : Int) (ars.length : Int) (d + 1) j).fst.value, .tref 5])
abbrev ar7 (b : List UInt8) (vs : List Int) (ars : List Int) (bd : List c8) (d : Nat) (j : Int) : List It := [.box [.ref 1, iA (K8 b (vs.length : Int) (ars.length : Int) (d + 1) j).snd], dY b, dI vs, dI ars, dT bd, .tree (D.exprs (K8 b (vs.length : Int) (ars.length : Int) (d + 1) j).fst.kids)]
abbrev aG2 : It := .box [iA 0, iA 0, .v (.slice none 0 0)]
abbrev ac2 (n : Int) (r0 : List (Nat × AV)) : List (Nat × AV) := (0, .ptr 0 0) :: (2, iA n) :: (4, .ptr 5 0) :: (6, .ptr 6 0) :: r0
theorem bB6 (b : List UInt8) (vs ars : List Int) (bd : List c8) (d : Nat) (hd : 0 < d) (hd2 : d ≤ 100) (ih : ∀ (j n : Int), n = d → 0 ≤ j → j + cE d ≤ 800000000 → l0.ok Tryz.prog (drC b vs ars bd d j n)) (j n : Int) (hn : n = ((d + 1 : Nat) : Int)) (r0 : 0 ≤ j) (r1 : j + cE (d + 1) ≤ 800000000) : l0.ok Tryz.prog (drC b vs ars bd (d + 1) j n) := by
  refine J8 62 Tryz.func111 [.box [.ref 1, iA j], dY b, dI vs, dI ars, dT bd] [(0, .ptr 0 0), (1, pA 2), (2, iA n)] fun G => ?_; have hc := aD3 d; have hce : cE (d + 1) = 5 + 3 * cE d := rfl; have har := b00 (b := b) (j := j) r0 (by omega); refine wp_seq (i9 G e6 [0, 1, 2, 3, 4, 5, 13] [.box [.ref 1, iA j], dY b, dI vs, dI ars, dT bd, .box (pL 2), aG2] (ac2 n []) fun G => b0 (wp_seq (wp_seq ?_))); cases h0 : (decide (n < 2))
  ·
   have q0 := Z3 h0; refine i9 G (T4 (F9 4 [0, 1] (s4 b j 4 (by assumption) (by omega)) T3) (fc h0 fz) [(3, 0), (4, 0), (5, 0), (1006, 0)]) (rg 7) [.box [.ref 1, iA (j + 1)], dY b, dI vs, dI ars, dT bd, .box (pL 2), aG2] (ac2 n [(16, bA (pk b j 4 == 0))]) fun G => b0 (P0 G (fun h1 q1 => ?_) fun h1 q1 => ?_)
   ·
    refine wp_skip (b0 (wp_seq (i9 G (v5 2 [0, 1, 15] (l0.lend (O5 b (j + 1) N3 (by simp [h0, h1]) (by omega) (by omega)) [.no, .no, .row 3])) (rg 7) [.box [.ref 1, iA (j + 1 + 1)], dY b, dI vs, dI ars, dT bd, .box (pL 2), aG2] (ac2 n [(7, iA (nm b (j + 1) N3))]) fun G => b0 (wp_seq (wp_seq (l6 G e6 [(24, bA (nm b (j + 1) N3 == 3))] fun G => b0 (P0 G (fun h2 q2 => ?_) fun h2 q2 => ?_)))))))
    ·
     refine wp_skip (b0 (wp_seq (i9 G e6 [0, 1, 2, 3, 4, 5, 6, 23] [.box [.ref 1, iA (j + 1 + 1)], dY b, dI vs, dI ars, dT bd, .box (pL 2), aG2, .box [iA (nm b (j + 1) N3), iA 0, .v (.slice none 0 0)]] (ac2 n [(7, iA (nm b (j + 1) N3)), (8, .ptr 7 0)]) fun G => b0 (wp_seq (wp_seq (G9 G (v5 1 [] (ah4 (nm b (j + 1) N3))) (ac2 n [(8, .ptr 7 0), (9, iA (t5 (nm b (j + 1) N3)))]) fun G => b0 (wp_block ?_))))))); obtain ⟨ρ, G⟩ := G.nilT 8 (.exprs []) [.box [.ref 1, iA (j + 1 + 1)], dY b, dI vs, dI ars, dT bd, .box (pL 2), .box [iA 0, iA 0, .v (.slice none 0 0)], .box [iA (nm b (j + 1) N3), iA 0, .tref 8]] (ac2 n [(8, .ptr 7 0), (9, iA (t5 (nm b (j + 1) N3)))]); replace G := G.as [.box [.ref 1, iA (drK b (vs.length : Int) (ars.length : Int) d j (t5 (nm b (j + 1) N3) - t5 (nm b (j + 1) N3)).toNat).snd], dY b, dI vs, dI ars, dT bd, .box (pL 2), .box [iA 0, iA 0, .v (.slice none 0 0)], .box [iA (nm b (j + 1) N3), iA 0, .tref 8], .tree (D.exprs (drK b (vs.length : Int) (ars.length : Int) d j (t5 (nm b (j + 1) N3) - t5 (nm b (j + 1) N3)).toNat).fst)] (ac2 n [(8, .ptr 7 0), (9, iA (t5 (nm b (j + 1) N3)))]) (by have e1 : ((drK b (vs.length : Int) (ars.length : Int) d j (t5 (nm b (j + 1) N3) - t5 (nm b (j + 1) N3)).toNat).snd : Int) = (j + 1 + 1) := (by rw [Int.sub_self]; show j + 2 = j + 1 + 1; omega); have e2 : ((drK b (vs.length : Int) (ars.length : Int) d j (t5 (nm b (j + 1) N3) - t5 (nm b (j + 1) N3)).toNat).fst : List d8) = ([]) := (by rw [Int.sub_self]; rfl); (first | rw [e1, e2] | simp only [e1, e2]) <;> rfl) (by kernel_rfl); refine x6 (κ := Int) (fun k => 0 ≤ k ∧ k ≤ t5 (nm b (j + 1) N3)) (fun k => k.toNat) (fun k => [.box [.ref 1, iA (drK b vs.length ars.length d j (t5 (nm b (j + 1) N3) - k).toNat).2], dY b, dI vs, dI ars, dT bd, .box (pL 2), .box [iA 0, iA 0, .v (.slice none 0 0)], .box [iA (nm b (j + 1) N3), iA 0, .tref 8], .tree (.exprs (drK b vs.length ars.length d j (t5 (nm b (j + 1) N3) - k).toNat).1)]) (fun k => [(0, .ptr 0 0), (2, iA n), (4, .ptr 5 0), (6, .ptr 6 0), (8, .ptr 7 0), (9, iA k)]) (t5 (nm b (j + 1) N3)) (by omega) (t7.at G _ _) ?_; clear G; intro k ρ a w hp G; replace G := t7.at G [.box [.ref 1, iA (aw9 b vs ars d j k).snd], dY b, dI vs, dI ars, dT bd, .box (pL 2), aG2, .box [iA (nm b (j + 1) N3), iA 0, .tref 8], .tree (D.exprs (aw9 b vs ars d j k).fst)] (ac2 n [(8, .ptr 7 0), (9, iA k)]); have hkb := bX5 (b := b) (nv := vs.length) (na := ars.length) (d := d) (j := j) r0 (k := (t5 (nm b (j + 1) N3) - k).toNat) (by omega); have hkl : (drK b vs.length ars.length d j (t5 (nm b (j + 1) N3) - k).toNat).1.length = (t5 (nm b (j + 1) N3) - k).toNat := aO9 _ _ _; refine wp_seq (wp_seq (l6 G e6 [(48, bA (decide (k > 0)))] fun G => b0 (rcD G (fun h4 q4 => ?_) fun h4 q4 => ?_)))
     · refine wp_exit (v9 (v9 (v6 (b0 (wp_seq (i9 G e6 [0, 1, 2, 3, 4, 6, 8] [.box [.ref 1, iA (aw9 b vs ars d j k).snd], dY b, dI vs, dI ars, dT bd, .box [iA (nm b (j + 1) N3), iA 0, .tref 6], .tree (D.exprs (aw9 b vs ars d j k).fst)] [(6, .ptr 5 0)] fun G => b0 (wp_ret ?_))))))); exact rxv (.agg [iA (nm b (j + 1) N3), iA 0, .tref 6]) G [0, 1, 2, 3, 4, 6] (by show _ = AV.ren (nth [0, 1, 2, 3, 4, 6]) (ar8 b vs ars d j); unfold ar8; rw [bX2 (m := k) hd (by omega) (by omega) (by omega) (by omega)] <;> rfl) (by show _ = mR [0, 1, 2, 3, 4, 6] (ar7 b vs ars bd d j); unfold ar7; rw [bX2 (m := k) hd (by omega) (by omega) (by omega) (by omega)] <;> rfl)
     · refine wp_skip (b0 (wp_seq (wp_block (H5 G (v5 6 (rg 5) (ih ((drK b (vs.length : Int) (ars.length : Int) d j (t5 (nm b (j + 1) N3) - k).toNat).snd) (n - 1) (by omega) (by omega) (bX4 (by omega) (by omega) (by omega) (by omega) r1))) [0, 1, 0, 0, 0, 16, 60, 124, 255, 511, 1023] [0, 1, 2, 3, 4, 5, 6, 7, 73] [.box [.ref 1, iA (K8 b (vs.length : Int) (ars.length : Int) d (aw9 b vs ars d j k).snd).snd], dY b, dI vs, dI ars, dT bd, .box (pL 2), aG2, .box [iA (nm b (j + 1) N3), iA 0, .tref 8], .tree (D.exprs ((aw9 b vs ars d j k).fst ++ [qzE (K8 b (vs.length : Int) (ars.length : Int) d (aw9 b vs ars d j k).snd).fst]))] (ac2 n [(8, .ptr 7 0), (9, iA k)]) ((wO (n - 1)) :: (aP ((drK b (vs.length : Int) (ars.length : Int) d j (t5 (nm b (j + 1) N3) - k).toNat).fst.length + 1) 40 [])) ⟨oW (by omega), (aK (by omega) b84)⟩ fun G => i8 (b0 (D0 G e6 [(9, iA (k - 1))] [wO (k - 1)] (o1 (by omega)) fun G => b0 ?_)))))); exact L0 G (k - 1) (by omega) (by omega) (rg 9) (by have e1 : ((drK b (vs.length : Int) (ars.length : Int) d j (t5 (nm b (j + 1) N3) - (k - 1)).toNat).snd : Int) = ((K8 b (vs.length : Int) (ars.length : Int) d (drK b (vs.length : Int) (ars.length : Int) d j (t5 (nm b (j + 1) N3) - k).toNat).snd).snd) := (by rw [be5 (by omega) (by omega)]; done); have e2 : ((drK b (vs.length : Int) (ars.length : Int) d j (t5 (nm b (j + 1) N3) - (k - 1)).toNat).fst : List d8) = ((drK b (vs.length : Int) (ars.length : Int) d j (t5 (nm b (j + 1) N3) - k).toNat).fst ++ [qzE (K8 b (vs.length : Int) (ars.length : Int) d (drK b (vs.length : Int) (ars.length : Int) d j (t5 (nm b (j + 1) N3) - k).toNat).snd).fst]) := (by rw [be5 (by omega) (by omega)]; (simp only [d8.eta]; done)); (first | rw [e1, e2] | simp only [e1, e2]) <;> rfl)
    ·
     refine wp_seq (wp_seq (l6 G e6 [(28, bA ((ars.length : Int) == 0))] fun G => b0 (P0 G (fun h3 q3 => ?_) fun h3 q3 => ?_)))
     · refine wp_skip (b0 (wp_seq (bq4 G (T4 (F9 5 [0, 1] (s4 b (j + 1 + 1) ((ars.length : Int)) (by omega) (by omega)) (F9 8 (rg 5) (aq7 b (j + 1 + 1 + 1) vs ars bd (by omega) (by omega)) T3)) fz []) [0, 0, 0, 4, 12, 30, 0, 0, 254, 510, 1023, 2047] [0, 1, 2, 3, 4, 5, 6, 79] [.box [.ref 1, iA (j + 1 + 1 + 1 + 2)], dY b, dI vs, dI ars, dT bd, .box (pL 2), .box [iA (nm b (j + 1) N3), iA (pk b (j + 1 + 1) (ars.length : Int)), .tref 7], .tree (D.exprs [qzE (n9 b (vs.length : Int) (j + 1 + 1 + 1))])] (ac2 n [(7, iA (nm b (j + 1) N3))]) fun G => b0 (wp_ret (o8 ?_))))); exact rxv (.agg [iA (nm b (j + 1) N3), iA (pk b (j + 1 + 1) (ars.length : Int)), .tref 7]) G [0, 1, 2, 3, 4, 7] (by show _ = AV.ren (nth [0, 1, 2, 3, 4, 7]) (ar8 b vs ars d j); unfold ar8; have e1 : ((K8 b (vs.length : Int) (ars.length : Int) (d + 1) j).fst.kind : Int) = (nm b (j + 1) N3) := (by rw [bF6 hd (by omega) (by omega) (by omega)]; (simp only [Int.add_assoc, Int.reduceAdd, d8.eta, d8.kids, d8.kind, d8.value]; omega)); have e2 : ((K8 b (vs.length : Int) (ars.length : Int) (d + 1) j).fst.value : Int) = (pk b (j + 1 + 1) (ars.length : Int)) := (by rw [bF6 hd (by omega) (by omega) (by omega)]; (simp only [Int.add_assoc, Int.reduceAdd, d8.eta, d8.kids, d8.kind, d8.value]; done)); (first | rw [e1, e2] | simp only [e1, e2]) <;> rfl) (by show _ = mR [0, 1, 2, 3, 4, 7] (ar7 b vs ars bd d j); unfold ar7; have e1 : ((K8 b (vs.length : Int) (ars.length : Int) (d + 1) j).snd : Int) = (j + 1 + 1 + 1 + 2) := (by rw [bF6 hd (by omega) (by omega) (by omega)]; (simp only [Int.add_assoc, Int.reduceAdd, d8.eta, d8.kids, d8.kind, d8.value]; done)); have e2 : ((K8 b (vs.length : Int) (ars.length : Int) (d + 1) j).fst.kids : List d8) = ([qzE (n9 b (vs.length : Int) (j + 1 + 1 + 1))]) := (by rw [bF6 hd (by omega) (by omega) (by omega)]; show [_] = _; simp only [Int.add_assoc, Int.reduceAdd, d8.eta]; done); (first | rw [e1, e2] | simp only [e1, e2]) <;> rfl)
     · refine wp_seq (i9 G (v5 2 (rg 5) (aq7 b (j + 1 + 1) vs ars bd (by omega) (by omega))) [0, 1, 2, 3, 4, 5, 6, 23] [.box [.ref 1, iA (j + 1 + 1 + 2)], dY b, dI vs, dI ars, dT bd, .box (pL 2), .box [iA (n9 b (vs.length : Int) (j + 1 + 1)).kind, iA (n9 b (vs.length : Int) (j + 1 + 1)).value, .tref 7], .tree (D.exprs (n9 b (vs.length : Int) (j + 1 + 1)).kids)] (ac2 n [(7, iA (nm b (j + 1) N3))]) fun G => b0 (wp_ret (o8 (o8 ?_)))); exact rxv (.agg [iA (n9 b (vs.length : Int) (j + 1 + 1)).kind, iA (n9 b (vs.length : Int) (j + 1 + 1)).value, .tref 7]) G [0, 1, 2, 3, 4, 7] (by show _ = AV.ren (nth [0, 1, 2, 3, 4, 7]) (ar8 b vs ars d j); unfold ar8; have e1 : ((K8 b (vs.length : Int) (ars.length : Int) (d + 1) j).fst.kind : Int) = ((n9 b (vs.length : Int) (j + 1 + 1)).kind) := (by rw [bF7 hd (by omega) (by omega) (by omega)]; (simp only [Int.add_assoc, Int.reduceAdd, d8.eta, d8.kids, d8.kind, d8.value]; done)); have e2 : ((K8 b (vs.length : Int) (ars.length : Int) (d + 1) j).fst.value : Int) = ((n9 b (vs.length : Int) (j + 1 + 1)).value) := (by rw [bF7 hd (by omega) (by omega) (by omega)]; (simp only [Int.add_assoc, Int.reduceAdd, d8.eta, d8.kids, d8.kind, d8.value]; done)); (first | rw [e1, e2] | simp only [e1, e2]) <;> rfl) (by show _ = mR [0, 1, 2, 3, 4, 7] (ar7 b vs ars bd d j); unfold ar7; have e1 : ((K8 b (vs.length : Int) (ars.length : Int) (d + 1) j).snd : Int) = (j + 1 + 1 + 2) := (by rw [bF7 hd (by omega) (by omega) (by omega)]; (simp only [Int.add_assoc, Int.reduceAdd, d8.eta, d8.kids, d8.kind, d8.value]; done)); have e2 : ((K8 b (vs.length : Int) (ars.length : Int) (d + 1) j).fst : d8) = (n9 b (vs.length : Int) (j + 1 + 1)) := (by rw [bF7 hd (by omega) (by omega) (by omega)]; (simp only [Int.add_assoc, Int.reduceAdd, d8.eta, d8.kids, d8.kind, d8.value]; done)); (first | rw [e1, e2] | simp only [e1, e2]) <;> rfl)
   · refine wp_seq (i9 G (v5 2 (rg 5) (aq7 b (j + 1) vs ars bd (by omega) (by omega))) [0, 1, 2, 3, 4, 5, 6, 23] [.box [.ref 1, iA (j + 1 + 2)], dY b, dI vs, dI ars, dT bd, .box (pL 2), .box [iA (n9 b (vs.length : Int) (j + 1)).kind, iA (n9 b (vs.length : Int) (j + 1)).value, .tref 7], .tree (D.exprs (n9 b (vs.length : Int) (j + 1)).kids)] (ac2 n []) fun G => b0 (wp_ret (o8 ?_))); exact rxv (.agg [iA (n9 b (vs.length : Int) (j + 1)).kind, iA (n9 b (vs.length : Int) (j + 1)).value, .tref 7]) G [0, 1, 2, 3, 4, 7] (by show _ = AV.ren (nth [0, 1, 2, 3, 4, 7]) (ar8 b vs ars d j); unfold ar8; rw [bP4 hd (by omega)] <;> rfl) (by show _ = mR [0, 1, 2, 3, 4, 7] (ar7 b vs ars bd d j); unfold ar7; have e1 : ((K8 b (vs.length : Int) (ars.length : Int) (d + 1) j).snd : Int) = (j + 1 + 2) := (by rw [bP4 hd (by omega)]; (simp only [Int.add_assoc, Int.reduceAdd, d8.eta, d8.kids, d8.kind, d8.value]; done)); rw [e1, bP4 hd (by omega)] <;> rfl)
  · have q0 := Z2 h0; exact False.elim (by omega)
theorem bx5 (b : List UInt8) (vs ars : List Int) (bd : List c8) : ∀ (d : Nat) (j n : Int), d ≤ 100 → n = d → 0 ≤ j → j + cE d ≤ 800000000 → l0.ok Tryz.prog (drC b vs ars bd d j n)
 | 0, j, n, _, hn, r0, r1 => bb7 b vs ars bd 0 (by omega) j n hn r0 (by have := aD3 0; omega)
 | 1, j, n, _, hn, r0, r1 => bb7 b vs ars bd 1 (by omega) j n hn r0 (by have := aD3 1; omega)
 | d + 2, j, n, hd, hn, r0, r1 => bB6 b vs ars bd (d + 1) (by omega) (by omega) (fun j n => bx5 b vs ars bd (d + 1) j n (by omega)) j n hn r0 r1
abbrev smC (b : List UInt8) (vs ars : List Int) (bd : List c8) (j : Int) : l0 := ⟨104, [.ptr 0 0, pA 2], dwS b j vs ars bd, dwS b (w6 b vs.length ars.length j).2 vs ars bd ++ exO (w6 b vs.length ars.length j).1, exA (w6 b vs.length ars.length j).1 5⟩
section
variable {b : List UInt8} {nv na : Nat} {j : Int}
theorem bS3 (h : t0 nv na (K8 b nv na (nm b j dpL).toNat (j + 1)).1 = true) : w6 b nv na j = K8 b nv na (nm b j dpL).toNat (j + 1) := if_pos h
theorem bS2 (h : t0 nv na (K8 b nv na (nm b j dpL).toNat (j + 1)).1 = false) : w6 b nv na j = (n9 b nv (K8 b nv na (nm b j dpL).toNat (j + 1)).2, (K8 b nv na (nm b j dpL).toNat (j + 1)).2 + 2) := if_neg (by rw [h]; decide)
theorem b14 (r0 : 0 ≤ j) (r1 : j ≤ 700000000) : cE (nm b j dpL).toNat ≤ 364 := cE4 (dp4 b r0 (by omega)).2.2
end
abbrev Z4 (b : List UInt8) (vs : List Int) (ars : List Int) (j : Int) := K8 b (vs.length : Int) (ars.length : Int) (nm b j dpL).toNat (j + 1)
theorem ab9 (b : List UInt8) (vs ars : List Int) (bd : List c8) (j : Int) (r0 : 0 ≤ j) (r1 : j ≤ 700000000) : l0.ok Tryz.prog (smC b vs ars bd j) := by
 have hdr := fun (i n : Int) => bx5 b vs ars bd (nm b j dpL).toNat i n (b97 (dp4 b r0 (by omega)).2.2 (by omega))
 refine J8 19 Tryz.func104 [.box [.ref 1, iA j], dY b, dI vs, dI ars, dT bd] [(0, .ptr 0 0), (1, pA 2)] fun G => ?_; have hd4 := b14 (b := b) r0 r1; have hdb := aY3 b vs.length ars.length (nm b j dpL).toNat (j + 1); refine wp_seq (i9 G e6 [0, 1, 2, 3, 4, 5, 13] [.box [.ref 1, iA j], dY b, dI vs, dI ars, dT bd, .box (pL 2), .box [iA 0, iA 0, .v (.slice none 0 0)]] [(0, .ptr 0 0), (3, .ptr 5 0), (4, .ptr 6 0)] fun G => b0 (wp_seq (bq4 G (T4 (F9 4 [0, 1, 31] (l0.lend (O5 b j dpL (List.cons_ne_nil _ _) (by assumption) (by omega)) [.no, .no, .row 3]) (F9 5 (rg 5) (hdr (j + 1) (nm b j dpL) (bP5 b (by omega) (by omega)) (by omega) (by omega)) T3)) fz []) [0, 0, 0, 0, 12, 31, 0, 127] [0, 1, 2, 3, 4, 5, 6, 47, 55] [.box [.ref 1, iA (Z4 b vs ars j).snd], dY b, dI vs, dI ars, dT bd, .box (pL 2), .box [iA 0, iA 0, .v (.slice none 0 0)], .tree (D.exprs (Z4 b vs ars j).fst.kids), .box [iA (Z4 b vs ars j).fst.kind, iA (Z4 b vs ars j).fst.value, .tref 7]] [(0, .ptr 0 0), (3, .ptr 5 0), (4, .ptr 6 0), (5, .ptr 8 0)] fun G => b0 (wp_seq (wp_seq (l6 G (v5 2 [2, 3, 4, 7] (l0.lend (a79 vs ars bd ((K8 b (vs.length : Int) (ars.length : Int) (nm b j dpL).toNat (j + 1)).fst)) [.no, .no, .no, .tree])) [(14, bA (t0 vs.length ars.length (Z4 b vs ars j).fst))] fun G => b0 (rcB (b := t0 vs.length ars.length (K8 b (vs.length : Int) (ars.length : Int) (nm b j dpL).toNat (j + 1)).fst) G (fun h0 => ?_) fun h0 => ?_)))))))
 ·refine wp_skip (b0 (wp_seq (i9 G (v5 2 (rg 5) (aq7 b ((K8 b (vs.length : Int) (ars.length : Int) (nm b j dpL).toNat (j + 1)).snd) vs ars bd (by omega) (by omega))) [0, 1, 2, 3, 4, 6, 25] [.box [.ref 1, iA ((Z4 b vs ars j).snd + 2)], dY b, dI vs, dI ars, dT bd, .box [iA (n9 b (vs.length : Int) (Z4 b vs ars j).snd).kind, iA (n9 b (vs.length : Int) (Z4 b vs ars j).snd).value, .tref 6], .tree (D.exprs (n9 b (vs.length : Int) (Z4 b vs ars j).snd).kids)] [(4, .ptr 5 0)] fun G => b0 (wp_ret ?_)))); exact rxv (.agg [iA (n9 b (vs.length : Int) (K8 b (vs.length : Int) (ars.length : Int) (nm b j dpL).toNat (j + 1)).snd).kind, iA (n9 b (vs.length : Int) (K8 b (vs.length : Int) (ars.length : Int) (nm b j dpL).toNat (j + 1)).snd).value, .tref 6]) G [0, 1, 2, 3, 4, 6] (by show _ = AV.ren (nth [0, 1, 2, 3, 4, 6]) (.agg [iA (w6 b vs.length ars.length j).fst.kind, iA (w6 b vs.length ars.length j).fst.value, .tref 5]); rw [bS2 (by with_reducible assumption)] <;> rfl) (by show _ = mR [0, 1, 2, 3, 4, 6] [.box [.ref 1, iA (w6 b vs.length ars.length j).snd], dY b, dI vs, dI ars, dT bd, .tree (D.exprs (w6 b vs.length ars.length j).fst.kids)]; rw [bS2 (by with_reducible assumption)] <;> rfl)
 ·refine wp_seq (i9 G e6 (rg 8) [.box [.ref 1, iA (Z4 b vs ars j).snd], dY b, dI vs, dI ars, dT bd, .box (pL 2), .box [iA (Z4 b vs ars j).fst.kind, iA (Z4 b vs ars j).fst.value, .tref 7], .tree (D.exprs (Z4 b vs ars j).fst.kids)] [(0, .ptr 0 0), (3, .ptr 5 0), (4, .ptr 6 0)] fun G => b0 (wp_ret (o8 ?_))); exact rxv (.agg [iA (K8 b (vs.length : Int) (ars.length : Int) (nm b j dpL).toNat (j + 1)).fst.kind, iA (K8 b (vs.length : Int) (ars.length : Int) (nm b j dpL).toNat (j + 1)).fst.value, .tref 7]) G [0, 1, 2, 3, 4, 7] (by show _ = AV.ren (nth [0, 1, 2, 3, 4, 7]) (.agg [iA (w6 b vs.length ars.length j).fst.kind, iA (w6 b vs.length ars.length j).fst.value, .tref 5]); rw [bS3 (by with_reducible assumption)] <;> rfl) (by show _ = mR [0, 1, 2, 3, 4, 7] [.box [.ref 1, iA (w6 b vs.length ars.length j).snd], dY b, dI vs, dI ars, dT bd, .tree (D.exprs (w6 b vs.length ars.length j).fst.kids)]; rw [bS3 (by with_reducible assumption)] <;> rfl)
end Go.Proofs.YtmokkddidcmglaaGreat
