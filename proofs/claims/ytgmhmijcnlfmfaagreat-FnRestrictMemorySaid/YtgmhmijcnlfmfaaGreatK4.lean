/- Part 4: functions on the way, plain laws. Conditions: as said. -/
import Derived.Deep.LoopGhost
import Derived.IntWalk
import Derived.WalkSpells
import Derived.Lib.SliceRun
import Derived.Test.YtgmhmijcnlfmfaaGreatK1
import Derived.Test.YtgmhmijcnlfmfaaGreatK3
set_option maxRecDepth 100000
set_option maxHeartbeats 16000000
set_option linter.unusedVariables false
set_option linter.unusedSimpArgs false
open Bool renaming and_eq_false_iff → bX3, and_eq_true → bU8, and_eq_true_iff → bX4, eq_iff_iff → bX7, not_eq_false' → bV5, not_eq_true' → bV2
open Inhabited renaming default → bU7
open Int renaming mul_le_mul_of_nonneg_right → bY6
open List renaming all_eq_true → bV4, eq_nil_of_length_eq_zero → bX0, getD_eq_getElem?_getD → bU9, getElem?_append_left → bW3, getElem?_eq_getElem → bV0, getElem?_eq_none → bW7, getElem?_eq_some_iff → bV6, getElem_mem → bW2, length_cons → bV7, length_nil → bX5, map_cons → bX9, mem_append → bW9, mem_cons → bY2, mem_cons_of_mem → bX2, mem_cons_self → bW5, mem_of_getElem? → bX1, mem_singleton → bX6, range → bW6, take → bV3, take_of_length_le → bV8
open Nat renaming le_refl → bV9, le_trans → bW4, lt_or_ge → bY0, mul_le_mul_right → bY3, zero_add → bY4, zero_le → bY1
open Option renaming isSome_iff_exists → bY5, map_eq_some_iff → bV1
open True renaming intro → bW1

namespace Go.Proofs.YtgmhmijcnlfmfaaGreat
open Go Go.RowKit
def pf {β : Type} (wr : Ac → Option β) : List Ac → Nat → (Nat → Bool) → β → β
 | [], _, _, v => v
 | a :: r, k, B, v => pf wr r (k + 1) B (match wr a with | some x => if B k then x else v | none => v)
theorem I8 {β : Type} {wr : Ac → Option β} {B B' : Nat → Bool} : ∀ {az : List Ac} {k : Nat} {v : β}, (∀ j a, az[j]? = some a → (wr a).isSome = true → B (k + j) = B' (k + j)) → pf wr az k B v = pf wr az k B' v
 | [], _, _, _ => rfl
 | a :: r, k, v, h => by
  simp only [pf]
  have h0 := h 0 a rfl
  have hr : ∀ j b, r[j]? = some b → (wr b).isSome = true → B (k + 1 + j) = B' (k + 1 + j) := fun j b hb hw => by
   have := h (j + 1) b (by simpa using hb) hw
   rw [show k + (j + 1) = k + 1 + j by omega] at this; exact this
  cases hw : wr a with
  | none => exact I8 hr
  | some x =>
   rw [hw] at h0
   simp only [Nat.add_zero, Option.isSome_some, forall_const] at h0
   rw [h0]
   exact I8 hr
theorem P0 {β : Type} {wr : Ac → Option β} {B : Nat → Bool} : ∀ {az : List Ac} {k : Nat} {v : β}, (∀ j a, az[j]? = some a → (wr a).isSome = true → B (k + j) = false) → pf wr az k B v = v
 | [], _, _, _ => rfl
 | a :: r, k, v, h => by
  simp only [pf]
  have h0 := h 0 a rfl
  have hr : ∀ j b, r[j]? = some b → (wr b).isSome = true → B (k + 1 + j) = false := fun j b hb hw => by
   have := h (j + 1) b (by simpa using hb) hw
   rw [show k + (j + 1) = k + 1 + j by omega] at this; exact this
  rw [P0 hr]
  cases hw : wr a with
  | none => rfl
  | some x =>
   rw [hw] at h0
   simp only [Nat.add_zero, Option.isSome_some, forall_const] at h0
   simp [h0]
theorem aG4 {β : Type} {wr : Ac → Option β} {B : Nat → Bool} : ∀ {az : List Ac} {k i : Nat} {v x : β} {a : Ac}, az[i]? = some a → wr a = some x → B (k + i) = true → (∀ j b, i < j → az[j]? = some b → (wr b).isSome = true → B (k + j) = false) → pf wr az k B v = x
 | [], _, _, _, _, _, h, _, _, _ => by simp at h
 | b :: r, k, 0, v, x, a, h, hw, hB, hn => by
  simp at h; subst h
  simp only [pf, hw]
  rw [Nat.add_zero] at hB
  rw [hB, if_pos rfl]
  refine P0 fun j c hc hs => ?_
  have := hn (j + 1) c (by omega) (by simpa using hc) hs
  rw [show k + (j + 1) = k + 1 + j by omega] at this; exact this
 | b :: r, k, i + 1, v, x, a, h, hw, hB, hn => by
  simp only [pf]
  refine aG4 (i := i) (by simpa using h) hw (by rw [show k + 1 + i = k + (i + 1) by omega]; exact hB) fun j c hj hc hs => ?_
  have := hn (j + 1) c (by omega) (by simpa using hc) hs
  rw [show k + (j + 1) = k + 1 + j by omega] at this; exact this
theorem ag9 {β : Type} {wr : Ac → Option β} {B : Nat → Bool} (p : β → Prop) : ∀ {az : List Ac} {k : Nat} {v : β}, p v → (∀ j a x, az[j]? = some a → B (k + j) = true → wr a = some x → p x) → p (pf wr az k B v)
 | [], _, _, h, _ => h
 | a :: r, k, v, h, hs => by
  simp only [pf]
  refine ag9 p ?_ fun j b x hb hB hw => hs (j + 1) b x (by simpa using hb) (by rw [show k + (j + 1) = k + 1 + j by omega]; exact hB) hw
  cases hw : wr a with
  | none => exact h
  | some x =>
   simp only
   split
   ·rename_i hB; exact hs 0 a x rfl (by simpa using hB) hw
   ·exact h
def aw0 : List (Nat × It) → Nat → Option It
 | [], _ => none
 | (k, x) :: r, i => if i = k then some x else aw0 r i
theorem ak1 (S : Nat → It) (i : Nat) : ∀ (l : List (Nat × It)), i8 S l i = match aw0 l i with | some x => x | none => S i
 | [] => rfl
 | (k, x) :: r => by simp only [i8, aw0]; split; rfl; exact ak1 S i r
theorem H3 {l : List (Nat × It)} {i : Nat} {x : It} (h : aw0 l i = some x) : (i, x) ∈ l := by
 induction l with
 | nil => cases h
 | cons p r ih =>
  obtain ⟨k, y⟩ := p
  simp only [aw0] at h
  split at h
  ·rename_i e; cases h; rw [e]; exact bW5
  ·exact bX2 _ (ih h)
def wrT (t : Nat) (a : Ac) : Option (Option AV) := if a.dst = some t then some (some a.t.res) else none
def wrS (i : Nat) (a : Ac) : Option It := aw0 a.t.new i
def tmD (az : List Ac) (B : Nat → Bool) (tm : Nat → Option AV) : Nat → Option AV := fun t => pf (wrT t) az 0 B (tm t)
def sD (az : List Ac) (B : Nat → Bool) (S : Nat → It) : Nat → It := fun i => pf (wrS i) az 0 B (S i)
def bef (ms : List Nat) (j i : Nat) : Bool := (nth ms i).testBit j
def aV6 (ms : List Nat) (o : Oper) : Nat := o.after.foldl (fun s e => if Region.binds .any e then s ||| (2 ^ e.on ||| nth ms e.on) else s) 0
def aG9 (ms : List Nat) (l : List Oper) : Bool := (bW6 l.length).all fun i => match l[i]? with | some o => natEq (nth ms i) (aV6 ms o) | none => false
def V4 (a b : Ac) : Bool :=
 (match b.dst with | some t => memN t a.rt || (match a.dst with | some s => natEq s t | none => false) | none => false) ||
 b.t.new.any (fun p => memN p.1 a.ri || a.t.new.any fun q => natEq q.1 p.1)
def bA3 (ms : List Nat) (az : List Ac) : Bool :=
 (bW6 az.length).all fun i => (bW6 az.length).all fun j =>
  match az[i]?, az[j]? with
  | some a, some b => natEq i j || !V4 a b || (if decide (j < i) then bef ms j i else bef ms i j)
  | _, _ => false
def br6 (S : Nat → It) (az : List Ac) (j : Nat) : Nat := match az.findSome? (wrS j) with
 | some x => knd x
 | none => knd (S j)
def bb3 (ms : List Nat) (S : Nat → It) (az : List Ac) : Bool :=
 (bW6 az.length).all fun i =>
  match az[i]? with
  | some a => a.rk.all fun j => az.all (fun b => match wrS j b with | some x => natEq (knd x) (br6 S az j) | none => true) && (natEq (knd (S j)) (br6 S az j) || (bW6 i).any fun k => bef ms k i && match az[k]? with | some b => (wrS j b).isSome | none => false)
  | none => true
theorem a24 {β : Type} {wr : Ac → Option β} {B : Nat → Bool} (p : β → Prop) : ∀ {az : List Ac} {k : Nat} {v : β}, (∀ (j : Nat) (a : Ac) (x : β), az[j]? = some a → wr a = some x → p x) → (p v ∨ ∃ (j : Nat) (a : Ac), az[j]? = some a ∧ (wr a).isSome = true ∧ B (k + j) = true) → p (pf wr az k B v)
 | [], _, _, _, h => by rcases h with h | ⟨j, a, h, _⟩; exact h; simp at h
 | a :: r, k, v, hs, h => by
  simp only [pf]
  refine a24 p (fun j b x hb => hs (j + 1) b x (by simpa using hb)) ?_
  rcases h with h | ⟨j, b, h1, h2, h3⟩
  ·left
   cases hw : wr a with
   | none => exact h
   | some x =>
    simp only
    split
    ·exact hs 0 a x rfl hw
    ·exact h
  ·cases j with
   | zero =>
    left
    simp at h1; subst h1
    obtain ⟨x, hx⟩ := bY5.1 h2
    rw [hx]
    rw [Nat.add_zero] at h3
    simp only [h3, if_true]
    exact hs 0 _ x rfl hx
   | succ j =>
    right
    exact ⟨j, b, by simpa using h1, h2, by rw [show k + 1 + j = k + (j + 1) by omega]; exact h3⟩
theorem a04 {ms : List Nat} {S : Nat → It} {az : List Ac} (h : bb3 ms S az = true) {i : Nat} {a : Ac} (ha : az[i]? = some a) {j : Nat} (hj : j ∈ a.rk) {B : Nat → Bool} (hB : ∀ k, k < i → bef ms k i = true → B k = true) : knd (pf (wrS j) az 0 B (S j)) = br6 S az j := by
 have hi := (bV6.1 ha).1
 have h1 := bV4.1 h i (List.mem_range.2 hi)
 rw [ha] at h1
 have h2 := bV4.1 h1 j hj
 simp only [bU8, Bool.or_eq_true] at h2
 refine a24 (fun x => knd x = br6 S az j) (fun q b x hb hx => ?_) ?_
 ·have := bV4.1 h2.1 b (bX1 hb)
  rw [hx] at this
  simpa [natEq] using this
 ·rcases h2.2 with h3 | h3
  ·left; simpa [natEq] using h3
  ·right
   obtain ⟨k, hk, h4⟩ := List.any_eq_true.1 h3
   rw [List.mem_range] at hk
   simp only [bU8] at h4
   cases hb : az[k]? with
   | none => rw [hb] at h4; cases h4.2
   | some b =>
    rw [hb] at h4
    exact ⟨k, b, hb, h4.2, by rw [bY4]; exact hB k hk h4.1⟩
def bg8 (ms : List Nat) (n0 : Nat) (az : List Ac) : Bool :=
 (bW6 az.length).all fun i =>
  match az[i]? with
  | some a => (a.t.res.ids ++ a.t.new.map (·.1) ++ a.t.new.flatMap (fun p => p.2.ids)).all fun id => decide (id < n0) || natEq ((id - n0) / 8) i || bef ms ((id - n0) / 8) i
  | none => false
section
variable {P : Program} {ι : Type} {φ ψ : Nat → Prop} {w0 w w' : World} {F : ι → Rs} {ρ : Nat → Value} {S : Nat → It} {N n : Nat}
theorem af0 {α β : Type} {f g : α → Option β} : ∀ {l : List α}, (∀ x ∈ l, f x = g x) → l.filterMap f = l.filterMap g
 | [], _ => rfl
 | a :: r, h => by rw [List.filterMap_cons, List.filterMap_cons, h a bW5, af0 fun x hx => h x (bX2 _ hx)]
theorem am9 {ops : List Oper} {H : H7} {tm tm' : Nat → Option AV} {i : Nat} {o : Oper} (h : ∀ t ∈ aH7 ops o, tm' t = tm t) : ar5 ops H tm' i o = ar5 ops H tm i o := by
 unfold ar5
 unfold aH7 at h
 cases hg : o.guard with
 | none => rfl
 | some q =>
  obtain ⟨j, want⟩ := q
  rw [hg] at h
  simp only at h ⊢
  cases hd : (ops[j]?).bind (·.dst) with
  | none => rfl
  | some t =>
   rw [hd] at h
   simp only at h ⊢
   rw [h t (by simp)]
theorem a70 {dk : TypeId → Nat} {H : H7} {ops : List Oper} {i : Nat} {o : Oper} {tm tm' : Nat → Option AV} {S S' : Nat → It} {ac : Ac} {ob : List Prop} (h : opA P dk N ops H i o tm S n = some (ac, ob)) (ht : ∀ t ∈ ac.rt, tm' t = tm t) (hs : ∀ j ∈ ac.ri, S' j = S j) (hk : ∀ j ∈ ac.rk, knd (S' j) = knd (S j)) : opA P dk N ops H i o tm' S' n = some (ac, ob) := by
 unfold opA at h ⊢
 split at h
 case isFalse => cases h
 rename_i hd
 rw [if_pos hd]
 cases hw : ar5 ops H tm i o with
 | none => rw [hw] at h; cases h
 | some q =>
  obtain ⟨b, lq, rq⟩ := q
  rw [hw] at h
  cases b
  ·simp only at h
   cases h
   rw [am9 (tm := tm) ht, hw]
  ·simp only at h
   cases hr : at5 P dk H tm S n i o.op with
   | none => rw [hr] at h; cases h
   | some t =>
    rw [hr] at h
    simp only at h
    split at h
    case isFalse => cases h
    rename_i hf
    cases h
    simp only at ht hs hk
    rw [am9 (tm := tm) fun t ht' => ht t (List.mem_append_right _ ht'), hw]
    have e1 : rtm tm' (opT o.op) = rtm tm (opT o.op) := by
     funext t
     unfold rtm
     split
     ·rename_i hm; exact ht t (List.mem_append_left _ (l5.1 hm))
     ·rfl
    have e2 : tch tm' o.op = tch tm o.op := by
     have e9 : K5 tm' (opT o.op) = K5 tm (opT o.op) := by
      unfold K5
      congr 1
      exact af0 fun t ht' => ht t (List.mem_append_left _ ht')
     cases ho' : o.op <;> simp only [tch] <;> rw [← ho'] <;> first | rw [e1, e9] | exact e9
    have e8 : wk tm' o.op = wk tm o.op := by
     have e9 : K5 tm' (opT o.op) = K5 tm (opT o.op) := by
      unfold K5
      congr 1
      exact af0 fun t ht' => ht t (List.mem_append_left _ ht')
     cases ho' : o.op <;> simp only [wk] <;> rw [← ho', e1, e9]
    have e3 : at5 P dk H tm' S' n i o.op = at5 P dk H tm S n i o.op := by
     unfold at5
     cases hc : D4 H.calls i with
     | none =>
      simp only
      rw [e1, e2, e8, bc6 (fun j hj => hs j (List.mem_append_left _ hj)) hk]
     | some q =>
      obtain ⟨c, τ⟩ := q
      simp only
      rw [e1, e2]
      congr 1
      funext j
      unfold rS
      split
      ·rename_i hm
       refine hs j ?_
       unfold a50
       rw [hc]; exact l5.1 hm
      ·rfl
    have e4 : aV0 H tm' S' n i o.op = aV0 H tm S n i o.op := by
     unfold aV0
     cases hc : D4 H.calls i with
     | none => simp only; rw [e1]
     | some q =>
      obtain ⟨c, τ⟩ := q
      simp only
      rw [e1, e2]
      congr 1
      funext j
      unfold rS
      split
      ·rename_i hm
       refine hs j ?_
       unfold a50
       rw [hc]; exact l5.1 hm
      ·rfl
    rw [e3, hr, e4]
    simp only
    rw [e2, e8, if_pos hf]
theorem bq5 {dk : TypeId → Nat} {H : H7} (hH : ∀ i c τ, D4 H.calls i = some (c, τ) → c.ok P) (hF : G2 H.facts) {ops : List Oper} {i : Nat} {o : Oper} {tm : Nat → Option AV} {a : Act} (hv : ∀ t x, tm t = some x → a.tmps[t]? = some (x.val ρ)) (M : e7 φ ψ w0 w (j1 F ρ S)) {ac : Ac} {obs : List Prop} (h : opA P dk N ops H i o tm S n = some (ac, obs)) (ho : m9 obs) (he : ac.eqs.1 = ac.eqs.2) (hw' : ac.eqw.1 = ac.eqw.2)
  (hmk : ∀ j ∈ ac.t.made, S j = .none) (hi : Inv S ρ ac.t.made)
  {Q : Exit → Act → World → Prop} {rest : List Oper} (hk : ∀ ρ' w', t9 ac.t.made ρ ρ' → e7 φ ψ w0 w' (j1 F ρ' (i8 S ac.t.new)) → wpList P ops.toArray Q rest (a.put o.dst (ac.t.res.val ρ')) w') : wpList P ops.toArray Q (o :: rest) a w := by
 unfold opA at h
 split at h
 case isFalse => cases h
 rename_i hd
 split at h
 case h_1 => cases h
 ·rename_i l r hw
  cases h
  refine a15 (af9 (ρ := ρ) hF hw hw' fun t y _ hy => hv t y hy) ?_
  exact hk ρ w (t9.refl _ _) (by simpa [bB2, i8] using M)
 ·rename_i l r hw
  split at h
  case h_1 => cases h
  rename_i t ht
  split at h
  case isFalse => cases h
  rename_i hf
  cases h
  simp only [bU8] at hf
  refine D0.wp (af9 (ρ := ρ) hF hw hw' fun t y _ hy => hv t y hy) ?_
  refine (aN4 M hH hF (fun t y _ hy => hv t y hy) ht ho he hmk hi (fun j hj => ?_)).mono ?_
  ·obtain ⟨p, hp, rfl⟩ := List.mem_map.1 hj
   have := bV4.1 hf.2 p hp
   simp only [Bool.or_eq_true] at this
   exact this.imp l5.1 l5.1
  ·rintro v w' ⟨ρ', p1, p2, rfl⟩
   exact hk ρ' w' p1 p2
theorem a19 {dk : TypeId → Nat} {H : H7} {ops : List Oper} : ∀ (l : List Oper) (i n : Nat) {tm : List (Nat × AV)} {S : Nat → It} {r : RS}, L2 P dk N ops H l i tm S n = some r → m9 r.obs →
  r.acts.length = l.length ∧ (∀ t, s0 r.tm t = pf (wrT t) r.acts i (fun _ => true) (s0 tm t)) ∧ (∀ j, r.S j = pf (wrS j) r.acts i (fun _ => true) (S j)) ∧
  ∀ k o, l[k]? = some o → ∃ ac ob, r.acts[k]? = some ac ∧ m9 ob ∧ opA P dk N ops H (i + k) o (fun t => pf (wrT t) r.acts i (fun j => decide (j < i + k)) (s0 tm t)) (fun j => pf (wrS j) r.acts i (fun q => decide (q < i + k)) (S j)) (n + 8 * k) = some (ac, ob)
 | [], i, n, tm, S, r, h, _ => by cases h; exact ⟨rfl, fun _ => rfl, fun _ => rfl, fun k o h => by simp at h⟩
 | o :: l, i, n, tm, S, r, h, ho => by
  simp only [L2] at h
  split at h
  case h_1 => cases h
  rename_i ac ob h1
  split at h
  case h_1 => cases h
  rename_i s h2
  cases h
  simp only [m9.append] at ho
  obtain ⟨k1, k2, k3, k4⟩ := a19 l (i + 1) (n + 8) h2 ho.2
  have eT : ∀ t, s0 (aU5 ac.dst ac.t.res tm) t = match wrT t ac with | some x => x | none => s0 tm t := fun t => by
   rw [aB5]
   simp only [ay3, wrT]
   split <;> rfl
  have eS : ∀ j, i8 S ac.t.new j = match wrS j ac with | some x => x | none => S j := fun j => ak1 S j _
  refine ⟨by simp [k1], fun t => ?_, fun j => ?_, fun k o' hk => ?_⟩
  ·rw [k2 t, eT]; simp only [pf]; cases wrT t ac <;> rfl
  ·rw [k3 j, eS]; simp only [pf]; cases wrS j ac <;> rfl
  ·cases k with
   | zero =>
    simp at hk; subst hk
    refine ⟨ac, ob, rfl, ho.1, ?_⟩
    have e1 : (fun t => pf (wrT t) (ac :: s.acts) i (fun j => decide (j < i + 0)) (s0 tm t)) = s0 tm := by
     funext t; exact P0 fun j a _ _ => by simp
    have e2 : (fun j => pf (wrS j) (ac :: s.acts) i (fun q => decide (q < i + 0)) (S j)) = S := by
     funext j; exact P0 fun j a _ _ => by simp
    rw [e1, e2]; exact h1
   | succ k =>
    obtain ⟨ac', ob', m1, m2, m3⟩ := k4 k o' (by simpa using hk)
    refine ⟨ac', ob', by simpa using m1, m2, ?_⟩
    have hi : decide (i < i + (k + 1)) = true := by simp
    have e1 : (fun t => pf (wrT t) (ac :: s.acts) i (fun j => decide (j < i + (k + 1))) (s0 tm t)) = fun t => pf (wrT t) s.acts (i + 1) (fun j => decide (j < i + 1 + k)) (s0 (aU5 ac.dst ac.t.res tm) t) := by
     funext t
     rw [eT]
     simp only [pf, hi, if_true]
     rw [show i + (k + 1) = i + 1 + k by omega]
     cases wrT t ac <;> rfl
    have e2 : (fun j => pf (wrS j) (ac :: s.acts) i (fun q => decide (q < i + (k + 1))) (S j)) = fun j => pf (wrS j) s.acts (i + 1) (fun q => decide (q < i + 1 + k)) (i8 S ac.t.new j) := by
     funext j
     rw [eS]
     simp only [pf, hi, if_true]
     rw [show i + (k + 1) = i + 1 + k by omega]
     cases wrS j ac <;> rfl
    rw [e1, e2, show i + (k + 1) = i + 1 + k by omega, show n + 8 * (k + 1) = n + 8 + 8 * k by omega]
    exact m3
def bn2 (l : List Oper) (B : Nat → Bool) : Prop := ∀ j o, l[j]? = some o → B j = true → ∀ e ∈ o.after, Region.binds .any e = true → B e.on = true
theorem at8 {ms : List Nat} {o : Oper} {j : Nat} (h : (aV6 ms o).testBit j = true) : ∃ e ∈ o.after, Region.binds .any e = true ∧ (e.on = j ∨ bef ms j e.on = true) := by
 unfold aV6 at h
 rw [← Array.foldl_toList] at h
 have key : ∀ (es : List Edge) (s : Nat), (es.foldl (fun s e => if Region.binds .any e then s ||| (2 ^ e.on ||| nth ms e.on) else s) s).testBit j = true → s.testBit j = true ∨ ∃ e ∈ es, Region.binds .any e = true ∧ (e.on = j ∨ bef ms j e.on = true) := by
  intro es
  induction es with
  | nil => intro s h; exact .inl h
  | cons e r ih =>
   intro s h
   simp only [List.foldl_cons] at h
   rcases ih _ h with h1 | ⟨e', he', h2⟩
   ·split at h1
    ·rename_i hb
     simp only [Nat.testBit_or, Bool.or_eq_true, Nat.testBit_two_pow, decide_eq_true_eq] at h1
     rcases h1 with h1 | h1 | h1
     ·exact .inl h1
     ·exact .inr ⟨e, bW5, hb, .inl h1⟩
     ·exact .inr ⟨e, bW5, hb, .inr h1⟩
    ·exact .inl h1
   ·exact .inr ⟨e', bX2 _ he', h2⟩
 rcases key _ _ h with h1 | ⟨e, he, h2⟩
 ·simp at h1
 ·exact ⟨e, by simpa using he, h2⟩
theorem ax6 {ms : List Nat} {l : List Oper} (hm : aG9 ms l = true) (hb : Z0 l.toArray = true) {B : Nat → Bool} (hc : bn2 l B) : ∀ i, i < l.length → B i = true → ∀ j, bef ms j i = true → B j = true := by
 intro i
 induction i using Nat.strongRecOn with
 | _ i ih =>
  intro hi hB j hj
  have h1 := bV4.1 hm i (List.mem_range.2 hi)
  rw [bV0 hi] at h1
  simp only [natEq, beq_iff_eq] at h1
  unfold bef at hj
  rw [h1] at hj
  obtain ⟨e, he, h2, h3⟩ := at8 hj
  have h4 := hc i _ (bV0 hi) hB e he h2
  have h5 := ax7 hb (show i < l.toArray.size by simpa using hi) (show l.toArray[i]? = some l[i] by simp [hi]) he h2
  rcases h3 with rfl | h3
  ·exact h4
  ·exact ih e.on h5 (by omega) h4 j h3
theorem ba3 {ms : List Nat} {l : List Oper} (hm : aG9 ms l = true) (hb : Z0 l.toArray = true) {B : Nat → Bool} (hc : bn2 l B) {i : Nat} {o : Oper} (ho : l[i]? = some o) (hr : ∀ e ∈ o.after, Region.binds .any e = true → B e.on = true) {j : Nat} (hj : bef ms j i = true) : B j = true := by
 have hi := (bV6.1 ho).1
 have h1 := bV4.1 hm i (List.mem_range.2 hi)
 rw [ho] at h1
 simp only [natEq, beq_iff_eq] at h1
 unfold bef at hj
 rw [h1] at hj
 obtain ⟨e, he, h2, h3⟩ := at8 hj
 have h5 := ax7 hb (show i < l.toArray.size by simpa using hi) (show l.toArray[i]? = some o by simpa using ho) he h2
 rcases h3 with rfl | h3
 ·exact hr e he h2
 ·exact ax6 hm hb hc e.on (by omega) (hr e he h2) j h3
end
section
variable {P : Program} {ι : Type} {φ ψ : Nat → Prop} {w0 w w' : World} {F : ι → Rs} {ρ : Nat → Value} {S : Nat → It} {N m n : Nat} {ρ0 : Nat → Value}
theorem aS6 {l : List Oper} {Q : Exit → Act → World → Prop} (I : Array Bool → Act → World → Prop) (hb : Z0 l.toArray = true)
  (step : ∀ listed a w, I listed a w → ∀ i o, l[i]? = some o → listed.getD i true = false → (∀ e ∈ o.after, Region.binds .any e = true → listed.getD e.on false = true) →
   ∀ Q' : Exit → Act → World → Prop, (∀ a w, I (listed.setIfInBounds i true) a w → Q' .normal a w) → wpList P l.toArray Q' [o] a w)
  (done : ∀ listed a w, I listed a w → (∀ j, j < l.length → listed.getD j true = true) → Q .normal a w) :
  ∀ (fuel : Nat) (listed : Array Bool) (a : Act) (w : World), listed.size = l.toArray.size → listed.toList.count false = fuel → I listed a w → wpAny P .any l.toArray Q fuel listed a w := by
 have hfin : ∀ (listed : Array Bool) (a : Act) (w : World), listed.size = l.toArray.size → Region.ready .any l.toArray listed = [] → I listed a w → Q .normal a w := by
  intro listed a w hsz hr hI
  refine done listed a w hI fun j hj => ?_
  cases hl : listed.getD j true
  ·exact absurd hr (aL5 hb hsz j (by simpa using hj) hl)
  ·rfl
 intro fuel
 induction fuel with
 | zero =>
  intro listed a w hsz hc hI
  have hr : Region.ready .any l.toArray listed = [] := by
   rw [List.eq_nil_iff_forall_not_mem]
   intro j hj
   have := ai3 (mem_ready.1 hj).1
   omega
  exact ⟨hr, hfin listed a w hsz hr hI⟩
 | succ f ih =>
  intro listed a w hsz hc hI
  refine ⟨fun hr => hfin listed a w hsz hr hI, fun i hi => ?_⟩
  obtain ⟨h1, o, ho, h2⟩ := mem_ready.1 hi
  have ho' : l[i]? = some o := by simpa using ho
  have hcl := ai3 h1
  have hs := step listed a w hI i o ho' h1 h2 (fun e a w => e = .normal ∧ I (listed.setIfInBounds i true) a w) fun a w h => ⟨rfl, h⟩
  unfold wpOp
  rw [ho]
  simp only
  unfold wpList at hs
  split
  ·rename_i hw
   rw [if_pos hw] at hs
   rcases hs with hs | ⟨_, a, w, he, _⟩
   ·exact .inl (a58 (fun _ _ _ h => h.1) (Oper.wp_mono (fun a' w' h => ih _ a' w' (by simpa using hsz) (by omega) h.2) hs))
   ·cases he
  ·rename_i hw
   rw [if_neg hw] at hs
   exact ih _ _ _ (by simpa using hsz) (by omega) hs.2
theorem ar2 {id : Nat} {l : List Oper} {Q : Exit → Act → World → Prop} {a : Act} {w : World} (I : Array Bool → Act → World → Prop) (hm : P.follows .mixedOrders = true) (hb : Z0 l.toArray = true)
  (h0 : I (Array.replicate l.length false) a w.drew)
  (step : ∀ listed a w, I listed a w → ∀ i o, l[i]? = some o → listed.getD i true = false → (∀ e ∈ o.after, Region.binds .any e = true → listed.getD e.on false = true) →
   ∀ Q' : Exit → Act → World → Prop, (∀ a w, I (listed.setIfInBounds i true) a w → Q' .normal a w) → wpList P l.toArray Q' [o] a w)
  (done : ∀ listed a w, I listed a w → (∀ j, j < l.length → listed.getD j true = true) → Q .normal a w) : (Code.region id l.toArray true).wp P Q a w :=
 wp_region_any hm (aS6 I hb step done _ _ _ _ (by simp) (by simp) (by simpa using h0))
def RI (φ ψ : Nat → Prop) (w0 : World) (F : ι → Rs) (N m : Nat) (ρ0 : Nat → Value) (l : List Oper) (az : List Ac) (tm : Nat → Option AV) (S : Nat → It) (listed : Array Bool) (a : Act) (w : World) : Prop :=
 listed.size = l.length ∧ bn2 l (fun j => listed.getD j false) ∧ ∃ ρ, (∀ i, i < m → ρ i = ρ0 i) ∧ a.tmps.size = N ∧ a.defers = [] ∧ (∀ t x, tmD az (fun j => listed.getD j false) tm t = some x → a.tmps[t]? = some (x.val ρ)) ∧ e7 φ ψ w0 w (j1 F ρ (sD az (fun j => listed.getD j false) S))
theorem aU9 {ms : List Nat} {az : List Ac} (h : bA3 ms az = true) {i j : Nat} {a b : Ac} (ha : az[i]? = some a) (hb : az[j]? = some b) (hij : i ≠ j) (hm : V4 a b = true) : (j < i → bef ms j i = true) ∧ (i < j → bef ms i j = true) := by
 have hi := (bV6.1 ha).1
 have hj := (bV6.1 hb).1
 have h1 := bV4.1 (bV4.1 h i (List.mem_range.2 hi)) j (List.mem_range.2 hj)
 rw [ha, hb] at h1
 have hne : natEq i j = false := by simp [natEq, hij]
 simp only [hne, hm, Bool.not_true, Bool.false_or] at h1
 constructor
 ·intro hlt; rw [if_pos (by simpa using hlt)] at h1; exact h1
 ·intro hlt; rw [if_neg (by simp; omega)] at h1; exact h1
theorem a31 {ms : List Nat} {n0 : Nat} {az : List Ac} (h : bg8 ms n0 az = true) {i : Nat} {a : Ac} (ha : az[i]? = some a) : ∀ id, (id ∈ a.t.res.ids ∨ id ∈ a.t.new.map (·.1) ∨ ∃ p ∈ a.t.new, id ∈ p.2.ids) → id < n0 ∨ (id - n0) / 8 = i ∨ bef ms ((id - n0) / 8) i = true := by
 intro id hid
 have hi := (bV6.1 ha).1
 have h1 := bV4.1 h i (List.mem_range.2 hi)
 rw [ha] at h1
 have h2 := bV4.1 h1 id (by
  rcases hid with h | h | ⟨p, hp, h⟩
  ·exact List.mem_append_left _ (List.mem_append_left _ h)
  ·exact List.mem_append_left _ (List.mem_append_right _ h)
  ·exact List.mem_append_right _ (List.mem_flatMap.2 ⟨p, hp, h⟩))
 simp only [Bool.or_eq_true, decide_eq_true_eq, natEq, beq_iff_eq] at h2
 rcases h2 with (h2 | h2) | h2
 ·exact .inl h2
 ·exact .inr (.inl h2)
 ·exact .inr (.inr h2)
theorem aE4 {dk : TypeId → Nat} {H : H7} (hH : ∀ i c τ, D4 H.calls i = some (c, τ) → c.ok P) (hF : G2 H.facts) {l : List Oper} {id : Nat} {Q : Exit → Act → World → Prop} {tm : List (Nat × AV)} {a : Act} {wr : World} (I0 : Inn φ ψ w0 F N m ρ0 n ρ (s0 tm) S a wr) {r : RS} (hrun : L2 P dk N l H l 0 tm S n = some r) (ho : m9 r.obs) (heq : r.acts.map (·.eqs.1) = r.acts.map (·.eqs.2)) (hew : r.acts.map (·.eqw.1) = r.acts.map (·.eqw.2))
  (ms : List Nat) (hm : P.follows .mixedOrders = true) (hb : Z0 l.toArray = true) (hms : aG9 ms l = true) (hord : bA3 ms r.acts = true) (hment : bg8 ms n r.acts = true) (hweak : bb3 ms S r.acts = true)
  (done : ∀ ρ' a' w' n', Inn φ ψ w0 F N m ρ0 n' ρ' (s0 r.tm) r.S a' w' → Q .normal a' w') : (Code.region id l.toArray true).wp P Q a wr := by
 obtain ⟨hlen, hfT, hfS, hat⟩ := a19 l 0 n hrun ho
 have hmt : ∀ (i : Nat) ac, r.acts[i]? = some ac → ∀ t b, b.dst = some t → t ∈ ac.rt → V4 ac b = true := fun i ac _ t b hb ht => by
  simp [V4, hb, l5.2 ht]
 have hmd : ∀ ac b t, ac.dst = some t → b.dst = some t → V4 ac b = true := fun ac b t h1 h2 => by
  simp [V4, h1, h2, natEq]
 have hms' : ∀ (ac b : Ac) (j : Nat), j ∈ ac.ri → j ∈ b.t.new.map (·.1) → V4 ac b = true := fun ac b j h1 h2 => by
  obtain ⟨p, hp, rfl⟩ := List.mem_map.1 h2
  unfold V4
  have : b.t.new.any (fun p => memN p.1 ac.ri || ac.t.new.any fun q => natEq q.1 p.1) = true := List.any_eq_true.2 ⟨p, hp, by simp [l5.2 h1]⟩
  rw [this]; simp
 have hmn : ∀ (ac b : Ac) (j : Nat), j ∈ ac.t.new.map (·.1) → j ∈ b.t.new.map (·.1) → V4 ac b = true := fun ac b j h1 h2 => by
  obtain ⟨p, hp, rfl⟩ := List.mem_map.1 h2
  obtain ⟨q, hq, e⟩ := List.mem_map.1 h1
  unfold V4
  have : b.t.new.any (fun p => memN p.1 ac.ri || ac.t.new.any fun q => natEq q.1 p.1) = true := List.any_eq_true.2 ⟨p, hp, by
   have : ac.t.new.any (fun q => natEq q.1 p.1) = true := List.any_eq_true.2 ⟨q, hq, by simp [natEq, e]⟩
   rw [this]; simp⟩
  rw [this]; simp
 refine ar2 (RI φ ψ w0 F N m ρ0 l r.acts (s0 tm) S) hm hb ?_ ?_ ?_
 ·refine ⟨by simp, fun j o _ hj => ?_, ρ, I0.old, I0.size, I0.defs, fun t x hx => ?_, ?_⟩
  ·have hj' : (Array.replicate l.length false).getD j false = true := hj
   rw [getD_replicate_false] at hj'; cases hj'
  ·refine I0.tmv t x ?_
   rw [← hx]
   exact (P0 fun j b _ _ => getD_replicate_false _ _).symm
  ·have e : sD r.acts (fun j => (Array.replicate l.length false).getD j false) S = S := by
    funext j; exact P0 fun j b _ _ => getD_replicate_false _ _
   rw [e]; exact I0.mem.drew
 ·rintro listed a w ⟨hsz, hdn, ρ, hold, hN, hdf, hv, M⟩ i o hoi hun hdep Q' hQ
  generalize hB : (fun j => listed.getD j false) = B at *
  have hBj : ∀ j, B j = listed.getD j false := fun j => by rw [← hB]
  have hil := (bV6.1 hoi).1
  have hBi : B i = false := by
   rw [hBj, ← a42 (by omega)]; exact hun
  obtain ⟨ac, ob, hac, hob, hop⟩ := hat i o hoi
  simp only [bY4] at hop
  have heqi : ac.eqs.1 = ac.eqs.2 := by
   have := congrArg (·[i]?) heq
   simpa [hac] using this
  have hewi : ac.eqw.1 = ac.eqw.2 := by
   have := congrArg (·[i]?) hew
   simpa [hac] using this
  obtain ⟨hdst, hdN, hfine⟩ := aG6 hop
  obtain ⟨hf1, hf2, hf3⟩ := U4 hfine
  have hdep' : ∀ e ∈ o.after, Region.binds .any e = true → B e.on = true := fun e he hbi => by rw [hBj]; exact hdep e he hbi
  have ahead : ∀ j, bef ms j i = true → B j = true := fun j hj => ba3 hms hb hdn hoi hdep' hj
  have behind : ∀ j, j < l.length → bef ms i j = true → B j = false := fun j hjl hj => by
   cases h : B j
   ·rfl
   ·have := ax6 hms hb hdn j hjl h i hj
    rw [hBi] at this; cases this
  have hagree : ∀ (j : Nat) b, r.acts[j]? = some b → V4 ac b = true → B j = decide (j < i) := fun j b hj hmm => by
   have hjl : j < l.length := by have := (bV6.1 hj).1; omega
   rcases Nat.lt_trichotomy j i with h | h | h
   ·rw [ahead j ((aU9 hord hac hj (by omega) hmm).1 h)]; simp [h]
   ·subst h; rw [hBi]; simp
   ·rw [behind j hjl ((aU9 hord hac hj (by omega) hmm).2 h)]
    have : ¬ j < i := by omega
    simp [this]
  have hop2 := a70 hop (tm' := tmD r.acts B (s0 tm)) (S' := sD r.acts B S) (fun t ht => I8 fun j b hj hw => by
    rw [bY4]
    refine hagree j b hj (hmt i ac hac t b ?_ ht)
    unfold wrT at hw
    split at hw
    ·assumption
    ·cases hw)
   (fun q hq => I8 fun j b hj hw => by
    rw [bY4]
    obtain ⟨x, hx⟩ := bY5.1 hw
    exact hagree j b hj (hms' ac b q hq (List.mem_map.2 ⟨_, H3 hx, rfl⟩)))
   (fun q hq => by
    show knd (pf (wrS q) r.acts 0 B (S q)) = _
    rw [a04 hweak hac hq fun k _ hk => ahead k hk, a04 hweak hac hq fun k hk _ => by simpa using hk])
  have hrange : ∀ id, n + 8 * i ≤ id → id < n + 8 * i + 8 → (id - n) / 8 = i := fun id h1 h2 => by omega
  have hmk : ∀ j ∈ ac.t.made, sD r.acts B S j = .none := fun j hj => by
   obtain ⟨g1, g2⟩ := hf2 j hj
   have e : sD r.acts B S j = S j := P0 fun k b hk hw => by
    rw [bY4]
    obtain ⟨x, hx⟩ := bY5.1 hw
    have hkl : k < l.length := by have := (bV6.1 hk).1; omega
    rcases a31 hment hk j (.inr (.inl (List.mem_map.2 ⟨_, H3 hx, rfl⟩))) with h | h | h
    ·omega
    ·rw [hrange j g1 g2] at h; subst h; exact hBi
    ·rw [hrange j g1 g2] at h; exact behind k hkl h
   rw [e]; exact (I0.bd j).2 (by omega)
  have hnot : ∀ (k : Nat) b, r.acts[k]? = some b → B k = true → ∀ id, (id ∈ b.t.res.ids ∨ id ∈ b.t.new.map (·.1) ∨ ∃ p ∈ b.t.new, id ∈ p.2.ids) → id ∉ ac.t.made := fun k b hk hBk id hid hm => by
   obtain ⟨g1, g2⟩ := hf2 id hm
   have hkl : k < l.length := by have := (bV6.1 hk).1; omega
   rcases a31 hment hk id hid with h | h | h
   ·omega
   ·rw [hrange id g1 g2] at h; subst h; rw [hBi] at hBk; cases hBk
   ·rw [hrange id g1 g2] at h; rw [behind k hkl h] at hBk; cases hBk
  have hitem : ∀ j, ∀ id ∈ (sD r.acts B S j).ids, id ∉ ac.t.made := fun j => by
   refine ag9 (fun x : It => ∀ id ∈ x.ids, id ∉ ac.t.made) (fun id hid hm => ?_) fun k b x hk hBk hw id hid => ?_
   ·have := (I0.bd j).1 id hid; have := (hf2 id hm).1; omega
   ·rw [bY4] at hBk
    exact hnot k b hk hBk id (.inr (.inr ⟨_, H3 hw, hid⟩))
  have htm : ∀ t x, tmD r.acts B (s0 tm) t = some x → ∀ id ∈ x.ids, id ∉ ac.t.made := fun t => by
   refine ag9 (fun y : Option AV => ∀ x, y = some x → ∀ id ∈ x.ids, id ∉ ac.t.made) (fun x hx id hid hm => ?_) fun k b y hk hBk hw x hx id hid => ?_
   ·have := I0.tmi t x hx id hid; have := (hf2 id hm).1; omega
   ·rw [bY4] at hBk
    unfold wrT at hw
    split at hw
    ·cases hw; cases hx
     exact hnot k b hk hBk id (.inl hid)
    ·cases hw
  have hinv : Inv (sD r.acts B S) ρ ac.t.made := fun ρ' ha j => by
   refine It.res_congr _ (fun id hid => ha id (hitem j id hid)) ?_
   by_cases hj : j ∈ ac.t.made
   ·exact .inl (hmk j hj)
   ·exact .inr (.inr (ha j hj))
  refine bq5 hH hF hv M hop2 hob heqi hewi hmk hinv fun ρ' w' ha M' => ?_
  refine hQ _ _ ?_
  have hB' : ∀ j, (listed.setIfInBounds i true).getD j false = if j = i then true else B j := fun j => by
   by_cases e : j = i
   ·subst e
    have : j < listed.size := by omega
    simp [this]
   ·rw [if_neg e, getD_set_ne false (fun h => e h.symm), hBj]
  have hBe : (fun j => (listed.setIfInBounds i true).getD j false) = fun j => if j = i then true else B j := funext hB'
  have later : ∀ (j : Nat) b, i < j → r.acts[j]? = some b → V4 ac b = true → (if j = i then true else B j) = false := fun j b hij hj hmm => by
   have hjl : j < l.length := by have := (bV6.1 hj).1; omega
   rw [if_neg (by omega)]
   exact behind j hjl ((aU9 hord hac hj (by omega) hmm).2 hij)
  have eT : tmD r.acts (fun j => if j = i then true else B j) (s0 tm) = ay3 ac.dst ac.t.res (tmD r.acts B (s0 tm)) := by
   funext t
   simp only [ay3]
   by_cases e : ac.dst = some t
   ·rw [if_pos e]
    refine aG4 (i := i) hac (by simp [wrT, e]) (by simp) fun j b hij hj hw => ?_
    rw [bY4]
    refine later j b hij hj (hmd ac b t e ?_)
    unfold wrT at hw
    split at hw
    ·assumption
    ·cases hw
   ·rw [if_neg e]
    refine I8 fun j b hj hw => ?_
    have : j ≠ i := fun h => by
     subst h
     rw [hac] at hj; cases hj
     simp [wrT, e] at hw
    simp [this]
  have eS : sD r.acts (fun j => if j = i then true else B j) S = i8 (sD r.acts B S) ac.t.new := by
   funext q
   rw [ak1]
   cases hx : aw0 ac.t.new q with
   | some x =>
    refine aG4 (i := i) hac hx (by simp) fun j b hij hj hw => ?_
    rw [bY4]
    obtain ⟨y, hy⟩ := bY5.1 hw
    exact later j b hij hj (hmn ac b q (List.mem_map.2 ⟨_, H3 hx, rfl⟩) (List.mem_map.2 ⟨_, H3 hy, rfl⟩))
   | none =>
    refine I8 fun j b hj hw => ?_
    have : j ≠ i := fun h => by
     subst h
     rw [hac] at hj; cases hj
     unfold wrS at hw
     rw [hx] at hw; cases hw
    simp [this]
  refine ⟨by simpa using hsz, ?_, ρ', fun j hj => (ha j fun hm => by have := (hf2 j hm).1; have := I0.le; omega).trans (hold j hj), (aM9 _ _ _).trans hN, (aN0 _ _ _).trans hdf, ?_, ?_⟩
  ·rw [hBe]
   intro j oj hj hBj' e he hbi
   show (if e.on = i then true else B e.on) = true
   by_cases e1 : e.on = i
   ·simp [e1]
   ·rw [if_neg e1]
    by_cases e2 : j = i
    ·subst e2
     rw [hoi] at hj; cases hj
     exact hdep' e he hbi
    ·simp only [if_neg e2] at hBj'
     exact hdn j oj hj hBj' e he hbi
  ·rw [hBe, eT, hdst]
   intro t x hx
   rw [bf3 (by rw [hN]; exact hdN)]
   simp only [ay3] at hx
   split
   ·rename_i e; rw [if_pos e] at hx; cases hx; rfl
   ·rename_i e
    rw [if_neg e] at hx
    rw [hv t x hx, AV.val_congr x fun id hid => ha id (htm t x hx id hid)]
  ·rw [hBe, eS]; exact M'
 ·rintro listed a w ⟨hsz, hdn, ρ, hold, hN, hdf, hv, M⟩ hall
  have hall' : ∀ j, j < l.length → listed.getD j false = true := fun j hj => by rw [← a42 (by omega)]; exact hall j hj
  have eT : tmD r.acts (fun j => listed.getD j false) (s0 tm) = s0 r.tm := by
   funext t
   rw [hfT t]
   refine I8 fun j b hj _ => ?_
   rw [bY4]
   exact hall' j (by have := (bV6.1 hj).1; omega)
  have eS : sD r.acts (fun j => listed.getD j false) S = r.S := by
   funext q
   rw [hfS q]
   refine I8 fun j b hj _ => ?_
   rw [bY4]
   exact hall' j (by have := (bV6.1 hj).1; omega)
  have hids : ∀ (k : Nat) b, r.acts[k]? = some b → ∀ id, (id ∈ b.t.res.ids ∨ id ∈ b.t.new.map (·.1) ∨ ∃ p ∈ b.t.new, id ∈ p.2.ids) → id < n + 8 * l.length := fun k b hk id hid => by
   have hkl : k < l.length := by have := (bV6.1 hk).1; omega
   obtain ⟨o, ho'⟩ : ∃ o, l[k]? = some o := ⟨_, bV0 hkl⟩
   obtain ⟨ac, ob, hac, _, hop⟩ := hat k o ho'
   rw [hk] at hac; cases hac
   obtain ⟨_, _, hfine⟩ := aG6 hop
   obtain ⟨hf1, hf2, hf3⟩ := U4 hfine
   rcases hid with h | h | ⟨p, hp, h⟩
   ·have := hf3 id h; omega
   ·obtain ⟨p, hp, rfl⟩ := List.mem_map.1 h
    have := (hf1 p hp).1; omega
   ·have := (hf1 p hp).2 id h; omega
  refine done ρ a w (n + 8 * l.length) ⟨hN, hdf, by rw [← eT]; exact hv, fun t x hx => ?_, fun j => ?_, by rw [← eS]; exact M, by have := I0.le; omega, hold⟩
  ·rw [hfT t] at hx
   revert x
   refine ag9 (fun y : Option AV => ∀ x, y = some x → ∀ id ∈ x.ids, id < n + 8 * l.length) (fun x hx id hid => ?_) fun k b y hk _ hw x hx id hid => ?_
   ·have := I0.tmi t x hx id hid; omega
   ·unfold wrT at hw
    split at hw
    ·cases hw; cases hx
     exact hids k b hk id (.inl hid)
    ·cases hw
  ·refine ⟨?_, fun hj => ?_⟩
   ·rw [hfS j]
    refine ag9 (fun x : It => ∀ id ∈ x.ids, id < n + 8 * l.length) (fun id hid => ?_) fun k b x hk _ hw id hid => ?_
    ·have := (I0.bd j).1 id hid; omega
    ·exact hids k b hk id (.inr (.inr ⟨_, H3 hw, hid⟩))
   ·rw [hfS j, P0 fun k b hk hw => ?_]
    ·exact (I0.bd j).2 (by omega)
    ·obtain ⟨x, hx⟩ := bY5.1 hw
     have := hids k b hk j (.inr (.inl (List.mem_map.2 ⟨_, H3 hx, rfl⟩)))
     omega
end
def l7 {ι : Type} (φ ψ : Nat → Prop) (w0 : World) (F : ι → Rs) (N m : Nat) (ρ0 ρ : Nat → Value) (S : List It) (tm : List (Nat × AV)) (a : Act) (w : World) : Prop := Inn φ ψ w0 F N m ρ0 S.length ρ (s0 tm) (i9 S) a w
def wfB (S : List It) (tm : List (Nat × AV)) : Bool := S.all (fun x => I9 S.length x.ids) && tm.all (fun p => I9 S.length p.2.ids)
def bw8 (m : Nat) (js : List Nat) : Bool := (bW6 m).all fun i => natEq (nth js i) i && decide (i < js.length)
def X7 (m : Nat) (js : List Nat) (S : List It) (tm : List (Nat × AV)) : Bool := nodupB js && natEq js.length S.length && wfB S tm && bw8 m js
section
variable {P : Program} {ι : Type} {φ ψ : Nat → Prop} {w0 w w' : World} {F : ι → Rs} {ρ ρ0 : Nat → Value} {N m n : Nat} {S : List It} {tm : List (Nat × AV)} {a : Act} {Q : Exit → Act → World → Prop}
theorem au1 : ∀ {tm : List (Nat × AV)} {t : Nat} {x : AV}, s0 tm t = some x → (t, x) ∈ tm
 | [], _, _, h => by cases h
 | (k, y) :: r, t, x, h => by
  simp only [s0, natEq, beq_iff_eq] at h
  split at h
  ·rename_i e; subst e; cases h; exact bW5
  ·exact bX2 _ (au1 h)
theorem Y4 {l : List It} {i : Nat} (h : i < l.length) : i9 l i = l[i] := by simp [i9, bU9, h]
theorem l6 {l : List It} {i : Nat} (h : l.length ≤ i) : i9 l i = .none := by simp [i9, bU9, h]
theorem bv6 {S : List It} {tm : List (Nat × AV)} (h : wfB S tm = true) : (∀ j, (∀ id ∈ (i9 S j).ids, id < S.length) ∧ (S.length ≤ j → i9 S j = .none)) ∧ ∀ t x, s0 tm t = some x → ∀ id ∈ x.ids, id < S.length := by
 simp only [wfB, bU8] at h
 refine ⟨fun j => ⟨fun id hid => ?_, fun hj => l6 hj⟩, fun t x hx id hid => ?_⟩
 ·rcases bY0 j S.length with hj | hj
  ·rw [Y4 hj] at hid
   exact t3 (bV4.1 h.1 _ (bW2 hj)) id hid
  ·rw [l6 hj] at hid; cases hid
 ·exact t3 (bV4.1 h.2 _ (au1 hx)) id hid
theorem Inn.sel {tf : Nat → Option AV} {Sf : Nat → It} (I : Inn φ ψ w0 F N m ρ0 n ρ tf Sf a w) (js : List Nat) (S1 : List It) (tm1 : List (Nat × AV)) (hb : X7 m js S1 tm1 = true) (hS : js.map Sf = S1.map (It.ren (nth js))) (ht : (tm1.map (·.1)).map tf = tm1.map fun p => some (p.2.ren (nth js))) :
  l7 φ ψ w0 F N m ρ0 (fun i => ρ (nth js i)) S1 tm1 a w := by
 simp only [X7, bU8, natEq, beq_iff_eq] at hb
 obtain ⟨⟨⟨hnd, hl⟩, hwf⟩, hkeep⟩ := hb
 have hn := ae4 hnd
 obtain ⟨b1, b2⟩ := bv6 hwf
 have hk : ∀ i, i < m → nth js i = i ∧ i < js.length := fun i hi => by
  have := bV4.1 hkeep i (List.mem_range.2 hi)
  simpa [natEq] using this
 refine ⟨I.size, I.defs, fun t x hx => ?_, b2, b1, ?_, ?_, fun i hi => ?_⟩
 ·obtain ⟨i, hi⟩ := List.mem_iff_getElem?.1 (au1 hx)
  have h1 := congrArg (·[i]?) ht
  simp only [List.getElem?_map, hi, Option.map_some] at h1
  rw [I.tmv t _ (Option.some.inj h1), AV.val_ren]
 ·refine I.mem.map (fun k : ι ⊕ Nat => (match k with | .inl i => some (.inl i) | .inr i => if i < js.length then some (.inr (nth js i)) else none : Option (ι ⊕ Nat))) ?_ ?_
  ·intro k k' x h1 h2
   match k, k' with
   | .inl i, .inl i' => simp at h1 h2; rw [← h1] at h2; simpa using h2.symm
   | .inl i, .inr j => simp only at h1 h2; cases h1; split at h2 <;> simp at h2
   | .inr j, .inl i => simp only at h1 h2; cases h2; split at h1 <;> simp at h1
   | .inr j, .inr j' =>
    simp at h1 h2
    obtain ⟨f1, f2⟩ := h1
    obtain ⟨g1, g2⟩ := h2
    rw [← f2] at g2
    have hj := Sum.inr.inj g2
    have e1 := bV0 f1
    have e2 := bV0 g1
    rw [A1 e2, A1 e1] at hj
    have := (List.getElem?_inj f1 hn).1 (e1.trans (by rw [← hj]; exact e2.symm))
    rw [this]
  ·intro k
   match k with
   | .inl i => exact .inl ⟨_, rfl, rfl⟩
   | .inr i =>
    by_cases hlt : i < js.length
    ·refine .inl ⟨.inr (nth js i), by simp [hlt], ?_⟩
     have h1 := congrArg (·[i]?) hS
     have hlt' : i < S1.length := by omega
     simp only [List.getElem?_map, bV0 hlt, bV0 hlt', Option.map_some, Option.some.injEq] at h1
     simp only [j1]
     rw [Y4 hlt', A1 (bV0 hlt), h1, ← It.res_ren, A1 (bV0 hlt)]
    ·refine .inr ?_
     simp only [j1]
     rw [l6 (by omega)]
     rfl
 ·rcases bY0 S1.length m with h | h
  ·have := (hk S1.length h).2; omega
  ·exact h
 ·rw [(hk i hi).1]; exact I.old i hi
def aN3 (o : Option RS) (js ts : List Nat) : Option (List Prop × List It × List (Option AV) × List (List (List AV × List It)) × List (List AV)) := o.map fun r => (r.obs, js.map r.S, ts.map (s0 r.tm), r.acts.map (·.eqs.1), r.acts.map (·.eqw.1))
def aU8 (o : Option RS) (obs : List Prop) (js : List Nat) (S : List It) (tm : List (Nat × AV)) : Option (List Prop × List It × List (Option AV) × List (List (List AV × List It)) × List (List AV)) := o.map fun r => (obs, S.map (It.ren (nth js)), tm.map (fun p => some (p.2.ren (nth js))), r.acts.map (·.eqs.2), r.acts.map (·.eqw.2))
def a47 (l : List Oper) (ms : List Nat) (n : Nat) (S : Nat → It) (o : Option RS) : Bool := aG9 ms l && Z0 l.toArray && match o with
 | some r => bA3 ms r.acts && bg8 ms n r.acts && bb3 ms S r.acts
 | none => false
theorem bA0 {dk : TypeId → Nat} {l : List Oper} {id : Nat} (G : l7 φ ψ w0 F N m ρ0 ρ S tm a w) (H : H7) (hH : ∀ i c τ, D4 H.calls i = some (c, τ) → c.ok P) (hF : G2 H.facts) (js : List Nat) (S1 : List It) (tm1 : List (Nat × AV)) (obs : List Prop)
  (hs : ((L2 P dk N l H l 0 tm (i9 S) S.length).isSome && X7 m js S1 tm1) = true)
  (hc : aN3 (L2 P dk N l H l 0 tm (i9 S) S.length) js (tm1.map (·.1)) = aU8 (L2 P dk N l H l 0 tm (i9 S) S.length) obs js S1 tm1)
  (ho : m9 obs) (k : ∀ ρ' a' w', l7 φ ψ w0 F N m ρ0 ρ' S1 tm1 a' w' → Q .normal a' w') : (Code.region id l.toArray false).wp P Q a w := by
 simp only [bU8] at hs
 obtain ⟨r, hr⟩ := bY5.1 hs.1
 rw [hr] at hc
 simp only [aN3, aU8, Option.map_some, Option.some.injEq, Prod.mk.injEq] at hc
 obtain ⟨h1, h2, h3, h4, h5⟩ := hc
 refine wp_region_lit (a18 hH hF l 0 S.length G hr (by rw [h1]; exact ho) h4 h5 fun ρ' a' w' n' I => ?_)
 exact k _ a' w' (I.sel js S1 tm1 hs.2 h2 h3)
theorem bp7 {dk : TypeId → Nat} {l : List Oper} {id : Nat} (G : l7 φ ψ w0 F N m ρ0 ρ S tm a w) (H : H7) (hH : ∀ i c τ, D4 H.calls i = some (c, τ) → c.ok P) (hF : G2 H.facts) (ms : List Nat) (js : List Nat) (S1 : List It) (tm1 : List (Nat × AV)) (obs : List Prop) (hm : P.follows .mixedOrders = true)
  (hs : (a47 l ms S.length (i9 S) (L2 P dk N l H l 0 tm (i9 S) S.length) && X7 m js S1 tm1) = true)
  (hc : aN3 (L2 P dk N l H l 0 tm (i9 S) S.length) js (tm1.map (·.1)) = aU8 (L2 P dk N l H l 0 tm (i9 S) S.length) obs js S1 tm1)
  (ho : m9 obs) (k : ∀ ρ' a' w', l7 φ ψ w0 F N m ρ0 ρ' S1 tm1 a' w' → Q .normal a' w') : (Code.region id l.toArray true).wp P Q a w := by
 simp only [bU8, a47] at hs
 obtain ⟨⟨⟨q1, q2⟩, q3⟩, q4⟩ := hs
 cases hr : L2 P dk N l H l 0 tm (i9 S) S.length with
 | none => rw [hr] at q3; cases q3
 | some r =>
  rw [hr] at q3 hc
  simp only [bU8] at q3
  simp only [aN3, aU8, Option.map_some, Option.some.injEq, Prod.mk.injEq] at hc
  obtain ⟨h1, h2, h3, h4, h5⟩ := hc
  refine aE4 hH hF G hr (by rw [h1]; exact ho) h4 h5 ms hm q2 q1 q3.1.1 q3.1.2 q3.2 fun ρ' a' w' n' I => ?_
  exact k _ a' w' (I.sel js S1 tm1 q4 h2 h3)
theorem rs1 {dk : TypeId → Nat} {l : List Oper} {id : Nat} (G : l7 φ ψ w0 F N m ρ0 ρ S tm a w) (H : H7) (hH : ∀ i c τ, D4 H.calls i = some (c, τ) → c.ok P) (hF : G2 H.facts) (js : List Nat) (S1 : List It) (tm1 : List (Nat × AV)) (obs : List Prop)
  (ho : m9 obs) (k : ∀ ρ' a' w', l7 φ ψ w0 F N m ρ0 ρ' S1 tm1 a' w' → Q .normal a' w')
  (hs : ((L2 P dk N l H l 0 tm (i9 S) S.length).isSome && X7 m js S1 tm1) = true := by kernel_rfl)
  (hc : aN3 (L2 P dk N l H l 0 tm (i9 S) S.length) js (tm1.map (·.1)) = aU8 (L2 P dk N l H l 0 tm (i9 S) S.length) obs js S1 tm1 := by kernel_rfl) : (Code.region id l.toArray false).wp P Q a w := bA0 G H hH hF js S1 tm1 obs hs hc ho k
theorem rd1 {dk : TypeId → Nat} {l : List Oper} {id : Nat} (G : l7 φ ψ w0 F N m ρ0 ρ S tm a w) (H : H7) (hH : ∀ i c τ, D4 H.calls i = some (c, τ) → c.ok P) (hF : G2 H.facts) (ms : List Nat) (js : List Nat) (S1 : List It) (tm1 : List (Nat × AV)) (obs : List Prop)
  (ho : m9 obs) (k : ∀ ρ' a' w', l7 φ ψ w0 F N m ρ0 ρ' S1 tm1 a' w' → Q .normal a' w') (hm : P.follows .mixedOrders = true := by kernel_rfl)
  (hs : (a47 l ms S.length (i9 S) (L2 P dk N l H l 0 tm (i9 S) S.length) && X7 m js S1 tm1) = true := by kernel_rfl)
  (hc : aN3 (L2 P dk N l H l 0 tm (i9 S) S.length) js (tm1.map (·.1)) = aU8 (L2 P dk N l H l 0 tm (i9 S) S.length) obs js S1 tm1 := by kernel_rfl) : (Code.region id l.toArray true).wp P Q a w := bp7 G H hH hF ms js S1 tm1 obs hm hs hc ho k
theorem aa8 : ∀ i c τ, D4 [] i = some (c, τ) → d9.ok P c := fun i c τ h => by cases h
theorem aw4 {i0 : Nat} {c0 : d9} {τ0 : List Nat} {r : List (Nat × d9 × List Nat)} (h0 : c0.ok P) (hr : ∀ i c τ, D4 r i = some (c, τ) → d9.ok P c) : ∀ i c τ, D4 ((i0, c0, τ0) :: r) i = some (c, τ) → d9.ok P c := fun i c τ h => by
 simp only [D4] at h
 split at h
 ·cases h; exact h0
 ·exact hr i c τ h
theorem l7.sel (G : l7 φ ψ w0 F N m ρ0 ρ S tm a w) (js : List Nat) (S1 : List It) (tm1 : List (Nat × AV)) (hb : X7 m js S1 tm1 = true) (hS : js.map (i9 S) = S1.map (It.ren (nth js))) (ht : (tm1.map (·.1)).map (s0 tm) = tm1.map fun p => some (p.2.ren (nth js))) : ∃ ρ', l7 φ ψ w0 F N m ρ0 ρ' S1 tm1 a w := ⟨_, Inn.sel G js S1 tm1 hb hS ht⟩
theorem l7.as (G : l7 φ ψ w0 F N m ρ0 ρ S tm a w) (S1 : List It) (tm1 : List (Nat × AV)) (hS : S = S1) (ht : tm = tm1) : l7 φ ψ w0 F N m ρ0 ρ S1 tm1 a w := by subst hS; subst ht; exact G
theorem l7.at (G : l7 φ ψ w0 F N m ρ0 ρ S tm a w) (S1 : List It) (tm1 : List (Nat × AV)) (hS : S = S1 := by kernel_rfl) (ht : tm = tm1 := by kernel_rfl) : l7 φ ψ w0 F N m ρ0 ρ S1 tm1 a w := G.as S1 tm1 hS ht
theorem Z6 {c : Nat} {x y : Code} (G : l7 φ ψ w0 F N m ρ0 ρ S tm a w) (b : Bool) (hc : s0 tm c = some (.v (.bool b))) (ht : b = true → x.wp P Q a w) (hf : b = false → y.wp P Q a w) : (Code.cond (.tmp c) x y).wp P Q a w := by
 have h := G.tmv c _ hc
 refine wp_cond_split (t := b) ?_ ht hf
 simp [Act.eval, Array.getD_eq_getD_getElem?, h, AV.val]
theorem be3 {c : Nat} {x y : Code} (G : l7 φ ψ w0 F N m ρ0 ρ S tm a w) (b : Bool) (hc : s0 tm c = some (.v (.bool b))) (hb : b = true) (h : x.wp P Q a w) : (Code.cond (.tmp c) x y).wp P Q a w := Z6 G b hc (fun _ => h) fun hf => by rw [hb] at hf; cases hf
theorem be4 {c : Nat} {x y : Code} (G : l7 φ ψ w0 F N m ρ0 ρ S tm a w) (b : Bool) (hc : s0 tm c = some (.v (.bool b))) (hb : b = false) (h : y.wp P Q a w) : (Code.cond (.tmp c) x y).wp P Q a w := Z6 G b hc (fun ht => by rw [hb] at ht; cases ht) fun _ => h
def aU3 (P : Program) (tm : Nat → Option AV) (S : Nat → It) : List ResultVar → Option (List AV)
 | [] => some []
 | .tmp t :: r =>
  match tm t, aU3 P tm S r with
  | some x, some l => some (x :: l)
  | _, _ => none
 | .cell t ty :: r =>
  match tm t, aU3 P tm S r with
  | some (.ptr b off), some l =>
   match S b with
   | .box cs => (aR5 P ty ((cs.drop off).take (an0 P ty))).map fun x => x :: l
   | _ => none
  | _, _ => none
def aM6 (P : Program) (fn : Func) (tm : List (Nat × AV)) (S : List It) : Option AV :=
 match aU3 P (s0 tm) (i9 S) fn.results.toList with
 | some [x] => some x
 | some l => some (.tup l)
 | none => none
theorem bm6 {cs : List AV} {ty : TypeId} {b off : Nat} {x : AV} (hB : Q8 w b (AV.vals ρ cs)) (h : aR5 P ty ((cs.drop off).take (an0 P ty)) = some x) : (loadVar ty ⟨b, off, none⟩).run P w = .ok (x.val ρ) w :=
 ab2 h ⟨b, off, none⟩ fun j u hj => by
  rw [AV.vals_take, AV.vals_drop] at hj
  have hadd : (⟨b, off, none⟩ : Addr).add j = ⟨b, off + j, none⟩ := by unfold Addr.add; split <;> simp_all
  rw [hadd, hB.cell]
  rw [List.getElem?_take] at hj
  split at hj
  ·rw [List.getElem?_drop] at hj; exact hj
  ·cases hj
theorem aG0 (G : l7 φ ψ w0 F N m ρ0 ρ S tm a w) : ∀ {rs : List ResultVar} {l : List AV}, aU3 P (s0 tm) (i9 S) rs = some l →
  (rs.mapM (fun r => (match r with | .tmp t => pure (a.tmps.getD t undef) | .cell b t => do loadVar t (← asAddr (a.tmps.getD b undef)) : Sem Value))).run P w = .ok (AV.vals ρ l) w
 | [], l, h => by cases h; simp [AV.vals]
 | .tmp t :: r, l, h => by
  simp only [aU3] at h
  split at h
  case h_2 => cases h
  rename_i x l' h1 h2
  cases h
  have ht := G.tmv t x h1
  have ih := aG0 G h2
  have e : (pure (a.tmps.getD t undef) : Sem Value).run P w = .ok (x.val ρ) w := by simp [Array.getD_eq_getD_getElem?, ht]
  rw [List.mapM_cons, Sem.run_bind, e, Result.andThen_ok, Sem.run_bind, ih]
  rfl
 | .cell t ty :: r, l, h => by
  simp only [aU3] at h
  split at h
  case h_2 => cases h
  rename_i b off l' h1 h2
  split at h
  case h_2 => cases h
  rename_i cs hS
  obtain ⟨x, h3, h4⟩ := bV1.1 h
  subst h4
  have ht := G.tmv t _ h1
  have ih := aG0 G h2
  have hl := bm6 (P := P) (G.mem.boxAt hS) h3
  have e : (do loadVar ty (← asAddr (a.tmps.getD t undef)) : Sem Value).run P w = .ok (x.val ρ) w := by
   rw [show a.tmps.getD t undef = .pointer (some ⟨K7 (ρ b), off, none⟩) by simp [Array.getD_eq_getD_getElem?, ht, AV.val]]
   simp [asAddr, hl]
  rw [List.mapM_cons, Sem.run_bind, e, Result.andThen_ok, Sem.run_bind, ih]
  rfl
theorem bA1 {fn : Func} {R : Ending → World → Prop} {v : AV} (G : l7 φ ψ w0 F N m ρ0 ρ S tm a w) (h : aM6 P fn tm S = some v) (hR : R (.returned (v.val ρ)) w) : bodyPost P fn R .ret a w := by
 refine ⟨G.defs, v.val ρ, ?_, hR⟩
 unfold aM6 at h
 cases hl : aU3 P (s0 tm) (i9 S) fn.results.toList with
 | none => rw [hl] at h; cases h
 | some l =>
  rw [hl] at h
  have := aG0 G hl
  unfold results
  rw [Sem.run_bind, Array.mapM_eq_mapM_toList, Sem.run_map]
  erw [this]
  simp only [Result.andThen_ok, Sem.run_pure]
  match l, h with
  | [], h => cases h; rfl
  | [x], h => cases h; rfl
  | x :: y :: r, h => cases h; rfl
def ax9 (i : Nat) : List AV → List (Nat × AV)
 | [] => []
 | x :: r => (i, x) :: ax9 (i + 1) r
theorem aR6 (ρ : Nat → Value) : ∀ {l : List AV} {i t : Nat} {x : AV}, s0 (ax9 i l) t = some x → i ≤ t ∧ (AV.vals ρ l)[t - i]? = some (x.val ρ)
 | [], _, _, _, h => by cases h
 | y :: r, i, t, x, h => by
  simp only [ax9, s0, natEq, beq_iff_eq] at h
  split at h
  ·rename_i e; subst e; cases h; exact ⟨bV9 _, by simp [AV.vals]⟩
  ·obtain ⟨h1, h2⟩ := aR6 ρ h
   refine ⟨by omega, ?_⟩
   rw [show t - i = (t - (i + 1)) + 1 by omega]
   simpa [AV.vals] using h2
def aR9 (φ ψ : Nat → Prop) (w0 : World) (F : ι → Rs) (ρ0 : Nat → Value) (c : d9) (x : Ending) (w' : World) : Prop := ∃ ρ', (∀ i, i < c.pre.length → ρ' i = ρ0 i) ∧ x = .returned (c.res.val ρ') ∧ e7 φ ψ w0 w' (j1 F ρ' (i9 c.post))
theorem be2 {c : d9} {fn : Func} {code : Code} (N : Nat) (hf : P.funcs[c.f]? = some fn) (hb : fn.body = some code) (hN : fn.ntmps = N) (hw : (wfB c.pre (ax9 0 c.args) && decide (c.args.length ≤ N)) = true)
  (k : ∀ {ι : Type} (φ ψ : Nat → Prop) (w0 w : World) (F : ι → Rs) (ρ0 ρ : Nat → Value) (a : Act), l7 φ ψ w0 F N c.pre.length ρ0 ρ c.pre (ax9 0 c.args) a w → code.wp P (bodyPost P fn (aR9 φ ψ w0 F ρ0 c)) a w) : c.ok P := by
 intro ι φ ψ w0 w F ρ M
 simp only [bU8, decide_eq_true_eq] at hw
 obtain ⟨b1, b2⟩ := bv6 hw.1
 refine calls_of_wp hf hb (k φ ψ w0 w F ρ ρ _ ⟨?_, rfl, fun t x hx => ?_, b2, b1, M, bV9 _, fun _ _ => rfl⟩)
 ·simp [AV.vals_length, hN]; omega
 ·obtain ⟨_, h1⟩ := aR6 ρ hx
  rw [Nat.sub_zero] at h1
  have hlt := (bV6.1 h1).1
  rw [Array.getElem?_append_left (by simpa using hlt)]
  simpa using h1
theorem at2 {fn : Func} {c : d9} {v : AV} (G : l7 φ ψ w0 F N c.pre.length ρ0 ρ S tm a w) (js : List Nat) (h : aM6 P fn tm S = some v) (hb : X7 c.pre.length js c.post [] = true) (hS : js.map (i9 S) = c.post.map (It.ren (nth js))) (hv : v = c.res.ren (nth js)) : bodyPost P fn (aR9 φ ψ w0 F ρ0 c) .ret a w := by
 have G1 := Inn.sel G js c.post [] hb hS rfl
 refine bA1 G h ⟨fun i => ρ (nth js i), G1.old, ?_, G1.mem⟩
 rw [hv, AV.val_ren]
theorem b5 {K : Act → World → Prop} (h : K a w) : Exit.then K Q .normal a w := h
theorem k6 {K : Act → World → Prop} {id : Nat} (h : Q (.exit id) a w) : Exit.then K Q (.exit id) a w := h
theorem c8 {K : Act → World → Prop} (h : Q .ret a w) : Exit.then K Q .ret a w := h
theorem j0 {id : Nat} (h : Q .normal a w) : Exit.inBlock id Q .normal a w := h
theorem m7 {id : Nat} (h : Q .ret a w) : Exit.inBlock id Q .ret a w := h
theorem j8 {id : Nat} (h : Q .normal a w) : Exit.inBlock id Q (.exit id) a w := by simp only [Exit.inBlock, if_true]; exact h
theorem bu2 {id id' : Nat} (hne : natEq id' id = false) (h : Q (.exit id') a w) : Exit.inBlock id Q (.exit id') a w := by
 simp only [Exit.inBlock]
 rw [if_neg (by simpa [natEq] using hne)]; exact h
theorem w64 {x : Int} (h1 : -9223372036854775808 ≤ x) (h2 : x ≤ 9223372036854775807) : IntKind.i64.wrap x = x := IntWalk.i64_in x ⟨h1, h2⟩
theorem rT {c : Nat} {x y : Code} (G : l7 φ ψ w0 F N m ρ0 ρ S tm a w) (b : Bool) (hb : b = true) (h : x.wp P Q a w) (hc : s0 tm c = some (.v (.bool b)) := by kernel_rfl) : (Code.cond (.tmp c) x y).wp P Q a w := be3 G b hc hb h
theorem rF {c : Nat} {x y : Code} (G : l7 φ ψ w0 F N m ρ0 ρ S tm a w) (b : Bool) (hb : b = false) (h : y.wp P Q a w) (hc : s0 tm c = some (.v (.bool b)) := by kernel_rfl) : (Code.cond (.tmp c) x y).wp P Q a w := be4 G b hc hb h
theorem l0 {κ : Type} {c : Code} (pre : κ → Prop) (μ : κ → Nat) (Sk : κ → List It) (Tk : κ → List (Nat × AV)) (k0 : κ) (hp : pre k0) (G : l7 φ ψ w0 F N m ρ0 ρ (Sk k0) (Tk k0) a w)
  (round : ∀ k ρ a w, pre k → l7 φ ψ w0 F N m ρ0 ρ (Sk k) (Tk k) a w → c.wp P (Exit.then (fun a' w' => ∃ k' ρ', pre k' ∧ μ k' < μ k ∧ l7 φ ψ w0 F N m ρ0 ρ' (Sk k') (Tk k') a' w') Q) a w) : (Code.loop c).wp P Q a w := by
 refine wp_loop_ghost (fun n a w => ∃ k ρ, μ k = n ∧ pre k ∧ l7 φ ψ w0 F N m ρ0 ρ (Sk k) (Tk k) a w) (μ k0) ⟨k0, ρ, rfl, hp, G⟩ ?_
 rintro n a w ⟨k, ρ, rfl, hk, Gk⟩
 refine wp_mono (round k ρ a w hk Gk) ?_
 intro e a' w' hq
 cases e with
 | normal =>
  obtain ⟨k', ρ', h1, h2, h3⟩ := hq
  exact ⟨μ k', h2, k', ρ', rfl, h1, h3⟩
 | _ => exact hq
theorem bp6 {κ : Type} {pre : κ → Prop} {μ : κ → Nat} {Sk : κ → List It} {Tk : κ → List (Nat × AV)} {k : κ} (G : l7 φ ψ w0 F N m ρ0 ρ S tm a w) (k' : κ) (hp : pre k') (hμ : μ k' < μ k) (js : List Nat) (S1 : List It) (tm1 : List (Nat × AV)) (hs1 : Sk k' = S1) (ht1 : Tk k' = tm1)
  (hb : X7 m js S1 tm1 = true) (hS : js.map (i9 S) = S1.map (It.ren (nth js))) (ht : (tm1.map (·.1)).map (s0 tm) = tm1.map fun p => some (p.2.ren (nth js))) :
  ∃ k' ρ', pre k' ∧ μ k' < μ k ∧ l7 φ ψ w0 F N m ρ0 ρ' (Sk k') (Tk k') a w := by
 subst hs1; subst ht1
 exact ⟨k', _, hp, hμ, Inn.sel G js _ _ hb hS ht⟩
theorem l7.len (G : l7 φ ψ w0 F N m ρ0 ρ S tm a w) (i : Nat) {d : D} (h : itD (i9 S i) = some d) : d.len ≤ 9223372036854775807 := by
 obtain ⟨_, cap, _, h1, h2, _⟩ := G.mem.sliceAt h
 unfold maxLen at h2; omega
end
def dkP (t : TypeId) : Nat :=
 if natEq t 3 then 1 else
 if natEq t 4 then 2 else
 if natEq t 5 then 3 else
 if natEq t 9 then 4 else
 if natEq t 23 then 7 else
 if natEq t 73 then 9 else
 if natEq t 75 then 10 else
 0
abbrev eA (e : b7) (r : Nat) : AV := .agg [.v (.int .i64 e.kind), .v (.int .i64 e.value), .ref r]
abbrev eS (e : b7) : List It := [.dat (.exprs e.kids)]
abbrev sA (s : b6) (r : Nat) : AV := .agg [.v (.int .i64 s.kind), .v (.int .i64 s.target), .v (.int .i64 s.index.kind), .v (.int .i64 s.index.value), .ref r, .v (.int .i64 s.value.kind), .v (.int .i64 s.value.value), .ref (r + 1), .v (.int .i64 s.count), .ref (r + 2), .ref (r + 3)]
abbrev sS (s : b6) : List It := [.dat (.exprs s.index.kids), .dat (.exprs s.value.kids), .dat (.stmts s.body), .dat (.stmts s.els)]
abbrev pA (r : Nat) : AV := .agg [.ref r, .ref (r + 1), .ref (r + 2)]
abbrev pS (p : b8) : List It := [.dat (.ints p.vars), .dat (.ints p.arrays), .dat (.stmts p.body)]
abbrev iA (n : Int) : AV := .v (.int .i64 n)
abbrev bA (b : Bool) : AV := .v (.bool b)
abbrev C0 (f : FuncId) (args : List AV) (S : List It) (res : AV) : d9 := ⟨f, args, S, S, res⟩
abbrev dI (l : List Int) : It := .dat (.ints l)
abbrev dY (l : List UInt8) : It := .dat (.bytes l)
abbrev dR (l : List (List Int)) : It := .dat (.rows l)
abbrev dE (l : List b7) : It := .dat (.exprs l)
abbrev dT (l : List b6) : It := .dat (.stmts l)
abbrev eL (e : b7) (r : Nat) : List AV := [.v (.int .i64 e.kind), .v (.int .i64 e.value), .ref r]
abbrev sL (s : b6) (r : Nat) : List AV := [.v (.int .i64 s.kind), .v (.int .i64 s.target), .v (.int .i64 s.index.kind), .v (.int .i64 s.index.value), .ref r, .v (.int .i64 s.value.kind), .v (.int .i64 s.value.value), .ref (r + 1), .v (.int .i64 s.count), .ref (r + 2), .ref (r + 3)]
abbrev pL (r : Nat) : List AV := [.ref r, .ref (r + 1), .ref (r + 2)]
section
variable {P : Program} {ι : Type} {φ ψ : Nat → Prop} {w0 w w' : World} {F : ι → Rs} {ρ ρ0 : Nat → Value} {N m n : Nat} {S : List It} {tm : List (Nat × AV)} {a : Act} {Q : Exit → Act → World → Prop}
end
theorem b7.eta (e : b7) : (⟨e.kind, e.value, e.kids⟩ : b7) = e := by cases e; rfl
theorem b6.eta (s : b6) : (⟨s.kind, s.target, s.index, s.value, s.count, s.body, s.els⟩ : b6) = s := by cases s; rfl
section
variable {ι : Type} {P : Program} {φ ψ : Nat → Prop} {w0 w : World} {F : ι → Rs} {N m : Nat} {ρ0 ρ : Nat → Value} {S : List It} {tm : List (Nat × AV)} {a : Act}
theorem A0 {fn : Func} {c : d9} (G : l7 φ ψ w0 F N c.pre.length ρ0 ρ S tm a w) (js : List Nat) (hS : js.map (i9 S) = c.post.map (It.ren (nth js)) := by kernel_rfl) (h : aM6 P fn tm S = some (c.res.ren (nth js)) := by kernel_rfl) (hb : X7 c.pre.length js c.post [] = true := by kernel_rfl) : bodyPost P fn (aR9 φ ψ w0 F ρ0 c) .ret a w := at2 G js h hb hS rfl
theorem bQ2 {fn : Func} {c : d9} (G : l7 φ ψ w0 F N c.pre.length ρ0 ρ S tm a w) (js : List Nat) (hS : js.map (i9 S) = c.post.map (It.ren (nth js)) := by kernel_rfl) (h : aM6 P fn tm S = some (c.res.ren (nth js)) := by kernel_rfl) (hb : X7 c.pre.length js c.post [] = true := by kernel_rfl) : bodyPost P fn (aR9 φ ψ w0 F ρ0 c) .normal a w := at2 G js h hb hS rfl
theorem N7 {fn : Func} {c : d9} (v : AV) (G : l7 φ ψ w0 F N c.pre.length ρ0 ρ S tm a w) (js : List Nat) (hv : v = c.res.ren (nth js)) (hS : js.map (i9 S) = c.post.map (It.ren (nth js)) := by kernel_rfl) (h : aM6 P fn tm S = some v := by kernel_rfl) (hb : X7 c.pre.length js c.post [] = true := by kernel_rfl) : bodyPost P fn (aR9 φ ψ w0 F ρ0 c) .ret a w := at2 G js h hb hS hv
theorem H9 {κ : Type} {pre : κ → Prop} {μ : κ → Nat} {Sk : κ → List It} {Tk : κ → List (Nat × AV)} {k : κ} (G : l7 φ ψ w0 F N m ρ0 ρ S tm a w) (k' : κ) (hp : pre k') (hμ : μ k' < μ k) (js : List Nat) (hS : js.map (i9 S) = (Sk k').map (It.ren (nth js)) := by kernel_rfl) (ht : ((Tk k').map (·.1)).map (s0 tm) = (Tk k').map (fun p => some (p.2.ren (nth js))) := by kernel_rfl) (hb : X7 m js (Sk k') (Tk k') = true := by kernel_rfl) : ∃ k' ρ', pre k' ∧ μ k' < μ k ∧ l7 φ ψ w0 F N m ρ0 ρ' (Sk k') (Tk k') a w := bp6 G k' hp hμ js _ _ rfl rfl hb hS ht
theorem l9 {fn : Func} {f : FuncId} {args : List AV} {pre post : List It} {x : Bool} (y : Bool) (G : l7 φ ψ w0 F N pre.length ρ0 ρ S tm a w) (js : List Nat) (e : x = y) (hS : js.map (i9 S) = post.map (It.ren (nth js)) := by kernel_rfl) (h : aM6 P fn tm S = some (bA y) := by kernel_rfl) (hb : X7 pre.length js post [] = true := by kernel_rfl) : bodyPost P fn (aR9 φ ψ w0 F ρ0 ⟨f, args, pre, post, bA x⟩) .ret a w := at2 (c := ⟨f, args, pre, post, bA x⟩) G js h hb hS (by rw [e]; rfl)
theorem J8 {fn : Func} {f : FuncId} {args : List AV} {pre post : List It} {x : Int} (y : Int) (G : l7 φ ψ w0 F N pre.length ρ0 ρ S tm a w) (js : List Nat) (e : x = y) (hS : js.map (i9 S) = post.map (It.ren (nth js)) := by kernel_rfl) (h : aM6 P fn tm S = some (iA y) := by kernel_rfl) (hb : X7 pre.length js post [] = true := by kernel_rfl) : bodyPost P fn (aR9 φ ψ w0 F ρ0 ⟨f, args, pre, post, iA x⟩) .ret a w := at2 (c := ⟨f, args, pre, post, iA x⟩) G js h hb hS (by rw [e]; rfl)
end
abbrev wO (x : Int) : Prop := IntKind.i64.wrap x = x
theorem oW {x : Int} (h : -9223372036854775808 ≤ x ∧ x ≤ 9223372036854775807) : wO x := w64 h.1 h.2
theorem o1 {x : Int} (h : -9223372036854775808 ≤ x ∧ x ≤ 9223372036854775807) : m9 [wO x] := ⟨oW h, bW1⟩
theorem o2 {x y : Int} (h : (-9223372036854775808 ≤ x ∧ x ≤ 9223372036854775807) ∧ -9223372036854775808 ≤ y ∧ y ≤ 9223372036854775807) : m9 [wO x, wO y] := ⟨oW h.1, oW h.2, bW1⟩
theorem o4 {x y z u : Int} (h : (-9223372036854775808 ≤ x ∧ x ≤ 9223372036854775807) ∧ (-9223372036854775808 ≤ y ∧ y ≤ 9223372036854775807) ∧ (-9223372036854775808 ≤ z ∧ z ≤ 9223372036854775807) ∧ -9223372036854775808 ≤ u ∧ u ≤ 9223372036854775807) : m9 [wO x, wO y, wO z, wO u] := ⟨oW h.1, oW h.2.1, oW h.2.2.1, oW h.2.2.2, bW1⟩
abbrev aP (n b : Nat) (r : List Prop) : List Prop := (n ≤ 9223372036854775807) :: (n * b ≤ 140737488355328) :: r
theorem aK {n b : Nat} {r : List Prop} (h : n ≤ 100000000000) (k : m9 r) (hb : b ≤ 1000 := by decide) : m9 (aP n b r) := ⟨by omega, bW4 (Nat.mul_le_mul h hb) (by decide), k⟩
abbrev iX (x : Int) (n l : Nat) (r : List Prop) : List Prop := (0 ≤ x) :: (x < (l : Int)) :: (n < l) :: r
theorem iK {x : Int} {n l : Nat} {r : List Prop} (h : 0 ≤ x ∧ x < (l : Int) ∧ n < l) (k : m9 r) : m9 (iX x n l r) := ⟨h.1, h.2.1, h.2.2, k⟩
abbrev mR (js : List Nat) (l : List It) : List It := List.map (It.ren (nth js)) l
theorem fz : G2 [] := bW1
theorem fc {a b : Bool} {r : List (Bool × Bool)} (h : a = b) (k : G2 r) : G2 ((a, b) :: r) := ⟨h, k⟩
abbrev n4 (e : b7) : b7 := b7.mk e.kind e.value e.kids
abbrev qzS (s : b6) : b6 := b6.mk s.kind s.target (b7.mk s.index.kind s.index.value s.index.kids) (b7.mk s.value.kind s.value.value s.value.kids) s.count s.body s.els
def kL (P : Program) (N m : Nat) (l : List Oper) (H : H7) (tm : List (Nat × AV)) (S : List It) (js : List Nat) (S1 : List It) (t1 : List (Nat × AV)) := ((L2 P dkP N l H l 0 tm (i9 S) S.length).isSome && X7 m js S1 t1, aN3 (L2 P dkP N l H l 0 tm (i9 S) S.length) js (t1.map (·.1)))
def kR (P : Program) (N : Nat) (l : List Oper) (H : H7) (tm : List (Nat × AV)) (S : List It) (o : List Prop) (js : List Nat) (S1 : List It) (t1 : List (Nat × AV)) := (true, aU8 (L2 P dkP N l H l 0 tm (i9 S) S.length) o js S1 t1)
def kM (P : Program) (N m : Nat) (l : List Oper) (H : H7) (ms : List Nat) (tm : List (Nat × AV)) (S : List It) (js : List Nat) (S1 : List It) (t1 : List (Nat × AV)) := (a47 l ms S.length (i9 S) (L2 P dkP N l H l 0 tm (i9 S) S.length) && X7 m js S1 t1, aN3 (L2 P dkP N l H l 0 tm (i9 S) S.length) js (t1.map (·.1)))
theorem t8 {P : Program} {c : d9} {fn : Func} {code : Code} (N : Nat) (hf : P.funcs[c.f]? = some fn) (S : List It) (tm : List (Nat × AV)) (k : ∀ {ι : Type} {φ ψ : Nat → Prop} {w0 w : World} {F : ι → Rs} {ρ0 ρ : Nat → Value} {a : Act}, l7 φ ψ w0 F N c.pre.length ρ0 ρ S tm a w → code.wp P (bodyPost P fn (aR9 φ ψ w0 F ρ0 c)) a w) (hb : fn.body = some code := by rfl) (hN : (fn.ntmps, c.pre, ax9 0 c.args) = (N, S, tm) := by kernel_rfl) (hw : (wfB c.pre (ax9 0 c.args) && decide (c.args.length ≤ N)) = true := by kernel_rfl) : c.ok P := by
 simp only [Prod.mk.injEq] at hN
 obtain ⟨h1, h2, h3⟩ := hN
 exact be2 N hf hb h1 hw fun φ ψ w0 w F ρ0 ρ a G => k (ρ := ρ) (G.as S tm h2 h3)
def aT (x y : List (Nat × AV)) : List (Nat × AV) := x ++ y.filter fun p => !(x.any fun q => natEq q.1 p.1)
def HH (P : Program) (H : H7) : Prop := (∀ i c τ, D4 H.calls i = some (c, τ) → c.ok P) ∧ G2 H.facts
theorem c3 {P : Program} : HH P ⟨[], [], []⟩ := ⟨aa8, bW1⟩
theorem n7 {P : Program} {c : d9} (i : Nat) (σ : List Nat) (h : c.ok P) : HH P ⟨[(i, c, σ)], [], []⟩ := ⟨aw4 h aa8, bW1⟩
theorem z4 {P : Program} {f : List (Bool × Bool)} (h : G2 f) (u : List (Nat × Nat)) : HH P ⟨[], f, u⟩ := ⟨aa8, h⟩
def Cs (P : Program) (r : List (Nat × d9 × List Nat)) : Prop := ∀ i c τ, D4 r i = some (c, τ) → c.ok P
theorem m0 {P : Program} : Cs P [] := aa8
theorem f6 {P : Program} {c : d9} {r : List (Nat × d9 × List Nat)} (i : Nat) (σ : List Nat) (h : c.ok P) (k : Cs P r) : Cs P ((i, c, σ) :: r) := aw4 h k
theorem m5 {P : Program} {r : List (Nat × d9 × List Nat)} {f : List (Bool × Bool)} (h : Cs P r) (h' : G2 f) (u : List (Nat × Nat)) : HH P ⟨r, f, u⟩ := ⟨h, h'⟩
section
variable {ι : Type} {P : Program} {φ ψ : Nat → Prop} {w0 w : World} {F : ι → Rs} {N m : Nat} {ρ0 ρ : Nat → Value} {S : List It} {tm : List (Nat × AV)} {a : Act} {l : List Oper} {id : Nat} {Q : Exit → Act → World → Prop} {H : H7}
theorem L5 (G : l7 φ ψ w0 F N m ρ0 ρ S tm a w) (hh : HH P H) (js : List Nat) (S1 : List It) (t1 : List (Nat × AV)) (o : List Prop) (ho : m9 o) (k : ∀ {ρ' a' w'}, l7 φ ψ w0 F N m ρ0 ρ' S1 t1 a' w' → Q .normal a' w') (h : kL P N m l H tm S js S1 t1 = kR P N l H tm S o js S1 t1 := by kernel_rfl) : (Code.region id l.toArray false).wp P Q a w := rs1 (dk := dkP) G H hh.1 hh.2 js S1 t1 o ho (fun _ _ _ => k) (congrArg Prod.fst h) (congrArg Prod.snd h)
theorem e5 (G : l7 φ ψ w0 F N m ρ0 ρ S tm a w) (hh : HH P H) (js : List Nat) (S1 : List It) (t1 : List (Nat × AV)) (k : ∀ {ρ' a' w'}, l7 φ ψ w0 F N m ρ0 ρ' S1 t1 a' w' → Q .normal a' w') (h : kL P N m l H tm S js S1 t1 = kR P N l H tm S [] js S1 t1 := by kernel_rfl) : (Code.region id l.toArray false).wp P Q a w := L5 G hh js S1 t1 [] bW1 k h
theorem rB1 (G : l7 φ ψ w0 F N m ρ0 ρ S tm a w) (hh : HH P H) (t1 : List (Nat × AV)) (o : List Prop) (ho : m9 o) (k : ∀ {ρ' a' w'}, l7 φ ψ w0 F N m ρ0 ρ' S t1 a' w' → Q .normal a' w') (h : kL P N m l H tm S (bW6 S.length) S t1 = kR P N l H tm S o (bW6 S.length) S t1 := by kernel_rfl) : (Code.region id l.toArray false).wp P Q a w := rs1 (dk := dkP) G H hh.1 hh.2 (bW6 S.length) S t1 o ho (fun _ _ _ => k) (congrArg Prod.fst h) (congrArg Prod.snd h)
theorem w5 (G : l7 φ ψ w0 F N m ρ0 ρ S tm a w) (hh : HH P H) (t1 : List (Nat × AV)) (k : ∀ {ρ' a' w'}, l7 φ ψ w0 F N m ρ0 ρ' S t1 a' w' → Q .normal a' w') (h : kL P N m l H tm S (bW6 S.length) S t1 = kR P N l H tm S [] (bW6 S.length) S t1 := by kernel_rfl) : (Code.region id l.toArray false).wp P Q a w := rB1 G hh t1 [] bW1 k h
theorem z3 (G : l7 φ ψ w0 F N m ρ0 ρ S tm a w) (hh : HH P H) (t1 : List (Nat × AV)) (o : List Prop) (ho : m9 o) (k : ∀ {ρ' a' w'}, l7 φ ψ w0 F N m ρ0 ρ' S (aT t1 tm) a' w' → Q .normal a' w') (h : kL P N m l H tm S (bW6 S.length) S (aT t1 tm) = kR P N l H tm S o (bW6 S.length) S (aT t1 tm) := by kernel_rfl) : (Code.region id l.toArray false).wp P Q a w := rs1 (dk := dkP) G H hh.1 hh.2 (bW6 S.length) S (aT t1 tm) o ho (fun _ _ _ => k) (congrArg Prod.fst h) (congrArg Prod.snd h)
theorem d8 (G : l7 φ ψ w0 F N m ρ0 ρ S tm a w) (hh : HH P H) (t1 : List (Nat × AV)) (k : ∀ {ρ' a' w'}, l7 φ ψ w0 F N m ρ0 ρ' S (aT t1 tm) a' w' → Q .normal a' w') (h : kL P N m l H tm S (bW6 S.length) S (aT t1 tm) = kR P N l H tm S [] (bW6 S.length) S (aT t1 tm) := by kernel_rfl) : (Code.region id l.toArray false).wp P Q a w := z3 G hh t1 [] bW1 k h
theorem E1 (G : l7 φ ψ w0 F N m ρ0 ρ S tm a w) (hh : HH P H) (ms : List Nat) (js : List Nat) (S1 : List It) (t1 : List (Nat × AV)) (o : List Prop) (ho : m9 o) (k : ∀ {ρ' a' w'}, l7 φ ψ w0 F N m ρ0 ρ' S1 t1 a' w' → Q .normal a' w') (hm : P.follows .mixedOrders = true := by kernel_rfl) (h : kM P N m l H ms tm S js S1 t1 = kR P N l H tm S o js S1 t1 := by kernel_rfl) : (Code.region id l.toArray true).wp P Q a w := rd1 (dk := dkP) G H hh.1 hh.2 ms js S1 t1 o ho (fun _ _ _ => k) hm (congrArg Prod.fst h) (congrArg Prod.snd h)
theorem F5 (G : l7 φ ψ w0 F N m ρ0 ρ S tm a w) (hh : HH P H) (ms : List Nat) (js : List Nat) (S1 : List It) (t1 : List (Nat × AV)) (k : ∀ {ρ' a' w'}, l7 φ ψ w0 F N m ρ0 ρ' S1 t1 a' w' → Q .normal a' w') (hm : P.follows .mixedOrders = true := by kernel_rfl) (h : kM P N m l H ms tm S js S1 t1 = kR P N l H tm S [] js S1 t1 := by kernel_rfl) : (Code.region id l.toArray true).wp P Q a w := E1 G hh ms js S1 t1 [] bW1 k hm h
theorem bI1 (G : l7 φ ψ w0 F N m ρ0 ρ S tm a w) (hh : HH P H) (ms : List Nat) (t1 : List (Nat × AV)) (o : List Prop) (ho : m9 o) (k : ∀ {ρ' a' w'}, l7 φ ψ w0 F N m ρ0 ρ' S t1 a' w' → Q .normal a' w') (hm : P.follows .mixedOrders = true := by kernel_rfl) (h : kM P N m l H ms tm S (bW6 S.length) S t1 = kR P N l H tm S o (bW6 S.length) S t1 := by kernel_rfl) : (Code.region id l.toArray true).wp P Q a w := rd1 (dk := dkP) G H hh.1 hh.2 ms (bW6 S.length) S t1 o ho (fun _ _ _ => k) hm (congrArg Prod.fst h) (congrArg Prod.snd h)
theorem R5 (G : l7 φ ψ w0 F N m ρ0 ρ S tm a w) (hh : HH P H) (ms : List Nat) (t1 : List (Nat × AV)) (o : List Prop) (ho : m9 o) (k : ∀ {ρ' a' w'}, l7 φ ψ w0 F N m ρ0 ρ' S (aT t1 tm) a' w' → Q .normal a' w') (hm : P.follows .mixedOrders = true := by kernel_rfl) (h : kM P N m l H ms tm S (bW6 S.length) S (aT t1 tm) = kR P N l H tm S o (bW6 S.length) S (aT t1 tm) := by kernel_rfl) : (Code.region id l.toArray true).wp P Q a w := rd1 (dk := dkP) G H hh.1 hh.2 ms (bW6 S.length) S (aT t1 tm) o ho (fun _ _ _ => k) hm (congrArg Prod.fst h) (congrArg Prod.snd h)
theorem a69 (G : l7 φ ψ w0 F N m ρ0 ρ S tm a w) (hh : HH P H) (ms : List Nat) (t1 : List (Nat × AV)) (k : ∀ {ρ' a' w'}, l7 φ ψ w0 F N m ρ0 ρ' S (aT t1 tm) a' w' → Q .normal a' w') (hm : P.follows .mixedOrders = true := by kernel_rfl) (h : kM P N m l H ms tm S (bW6 S.length) S (aT t1 tm) = kR P N l H tm S [] (bW6 S.length) S (aT t1 tm) := by kernel_rfl) : (Code.region id l.toArray true).wp P Q a w := R5 G hh ms t1 [] bW1 k hm h
variable {c : Nat} {x y : Code}
theorem rcB {b : Bool} (G : l7 φ ψ w0 F N m ρ0 ρ S tm a w) (f : b = false → y.wp P Q a w) (t : b = true → x.wp P Q a w) (h : s0 tm c = some (.v (.bool b)) := by rfl) : (Code.cond (.tmp c) x y).wp P Q a w := Z6 G b h t f
theorem I1 {α : Type} [BEq α] [LawfulBEq α] {u v : α} (G : l7 φ ψ w0 F N m ρ0 ρ S tm a w) (f : (u == v) = false → u ≠ v → y.wp P Q a w) (t : (u == v) = true → u = v → x.wp P Q a w) (h : s0 tm c = some (.v (.bool (u == v))) := by rfl) : (Code.cond (.tmp c) x y).wp P Q a w := Z6 G _ h (fun q => t q (eq_of_beq q)) fun q => f q (ne_of_beq_false q)
theorem rcN {α : Type} [BEq α] [LawfulBEq α] {u v : α} (G : l7 φ ψ w0 F N m ρ0 ρ S tm a w) (f : (u != v) = false → u = v → y.wp P Q a w) (t : (u != v) = true → u ≠ v → x.wp P Q a w) (h : s0 tm c = some (.v (.bool (u != v))) := by rfl) : (Code.cond (.tmp c) x y).wp P Q a w := Z6 G _ h (fun q => t q (bne_iff_ne.1 q)) fun q => f q (bne_eq_false_iff_eq.1 q)
theorem H2 {p : Prop} [Decidable p] (G : l7 φ ψ w0 F N m ρ0 ρ S tm a w) (f : decide p = false → ¬ p → y.wp P Q a w) (t : decide p = true → p → x.wp P Q a w) (h : s0 tm c = some (.v (.bool (decide p))) := by rfl) : (Code.cond (.tmp c) x y).wp P Q a w := Z6 G _ h (fun q => t q (P2 q)) fun q => f q (P3 q)
end
section
variable {P : Program} {f : FuncId}
theorem ak7 {args : List AV} {S : List It} {x : Value} (h : ∀ (φ : Nat → Prop) (w : World) (ρ : Nat → Value), (∀ i d, i9 S i = .dat d → RD w φ d (ρ i)) → Calls P f (AV.vals ρ args).toArray w fun e w' => e = .returned x ∧ Below w.heap.size w w') : d9.ok P (C0 f args S (.v x)) := by
 intro ι φ ψ w0 w F ρ M
 refine (h (O0 φ (j1 F ρ (i9 S))) w ρ fun i d hi => M.datAt hi).mono ?_
 rintro e w' ⟨rfl, hb⟩
 exact ⟨ρ, fun _ _ => rfl, rfl, M.call hb⟩
end
theorem a22 {w : World} {φ : Nat → Prop} {d : D} {v : Value} (h : RD w φ d v) : ∃ a cap, v = .slice a d.len cap ∧ d.len ≤ 9223372036854775807 := by
 obtain ⟨a, cap, h1, h2, h3, _⟩ := h.open
 unfold maxLen at h3
 exact ⟨a, cap, h1, by omega⟩
theorem v5 (l : Int) : d9.ok Tryz.prog (C0 73 [iA l] [] (bA (c5 l))) :=
 ak7 fun φ w ρ _ => (J7 l w).mono fun e w' h => ⟨h.1, h.2 ▸ Below.refl _ _⟩
theorem p6 (n lo hi : Int) : d9.ok Tryz.prog (C0 50 [iA n, iA lo, iA hi] [] (bA (decide (lo ≤ n) && decide (n ≤ hi)))) :=
 ak7 fun φ w ρ _ => (s7 n lo hi w).mono fun e w' h => ⟨h.1, h.2 ▸ Below.refl _ _⟩
theorem al6 (p : b8) : d9.ok Tryz.prog (C0 52 [pA 0] (pS p) (bA (y9 p.vars p.arrays))) :=
 ak7 fun φ w ρ h => aE9 (ρ 0) (ρ 1) (ρ 2) _ _ w (r9.row (h 0 _ rfl)) (r9.row (h 1 _ rfl))
theorem ax3 (vs ars : List Int) : d9.ok Tryz.prog (C0 41 [.ref 0, .ref 1] [.dat (.ints vs), .dat (.ints ars)] (bA (y9 vs ars))) :=
 ak7 fun φ w ρ h => (ay7 (ρ 0) (ρ 1) _ _ w (r9.row (h 0 _ rfl)) (r9.row (h 1 _ rfl))).mono fun e w' h => ⟨h.1, h.2 ▸ Below.refl _ _⟩
theorem J9 (p : b8) (e : b7) : d9.ok Tryz.prog (C0 77 [pA 0, eA e 3] (pS p ++ eS e) (bA (f7 p.vars.length p.arrays.length e))) :=
 ak7 fun φ w ρ h => by
  obtain ⟨a1, c1, h1, l1⟩ := a22 (h 0 _ rfl)
  obtain ⟨a2, c2, h2, l2⟩ := a22 (h 1 _ rfl)
  simp only [AV.vals, AV.val, h1, h2]
  exact a80 a1 a2 _ c1 _ c2 (ρ 2) l1 l2 e φ _ w ⟨_, rfl, h 3 _ rfl⟩
theorem al7 (e : b7) : d9.ok Tryz.prog (C0 78 [eA e 0] (eS e) (bA (atomB e))) :=
 ak7 fun φ w ρ h => ah6 e.kind e.value (ρ 0) w
theorem at7 (a b : List b6) : L7 (a ++ b) = L7 a + L7 b := by
 induction a with
 | nil => simp [L7]
 | cons x r ih => simp [L7, ih]; omega
theorem a72 {ss : List b6} {k : Nat} (h : k < ss.length) : L7 (ss.take (k + 1)) = L7 (ss.take k) + nS ss[k] := by
 rw [k8 _ _ h, at7]; simp [L7]
theorem aN5 (ss : List b6) (k : Nat) : L7 (ss.take k) ≤ L7 ss := by
 have := at7 (ss.take k) (ss.drop k)
 rw [List.take_append_drop] at this
 omega
theorem ak8 (s : b6) : nS s = 1 + L7 s.body + L7 s.els := by cases s; simp only [nS]; rfl
theorem T4 {nv na d : Nat} {s : b6} (h : d7 nv na (d + 1) s = true) : s.body.all (d7 nv na d) = true ∧ s.els.all (d7 nv na d) = true := by
 rw [d7, bU8] at h
 obtain ⟨h1, h2⟩ := h
 unfold j6 at h1
 by_cases k3 : s.kind = 3
 ·rw [if_neg (by omega), if_neg (by omega), if_pos k3] at h2
  simp only [bU8] at h2
  exact ⟨h2.1.2, h2.2⟩
 by_cases k4 : s.kind = 4
 ·rw [if_neg (by omega), if_neg (by omega), if_neg (by omega), if_pos k4] at h2
  rw [if_pos (.inr k4), if_pos k4] at h1
  simp only [bU8, decide_eq_true_eq] at h1
  exact ⟨h2, by rw [bX0 h1.2.1.1.1.1]; rfl⟩
 ·rw [if_neg (by omega)] at h1
  simp only [bU8, decide_eq_true_eq] at h1
  exact ⟨by rw [bX0 h1.1.1.1]; rfl, by rw [bX0 h1.1.1.2]; rfl⟩
theorem aA5 (s : b6) : c9 s.body ≤ B4 s ∧ c9 s.els ≤ B4 s := by
 rcases s with ⟨_, _, _, _, _, b, e⟩
 simp only [B4, b6.body, b6.els]
 omega
theorem aO8 {nv na : Nat} : ∀ {ss : List b6}, (∀ s ∈ ss, d7 nv na 1 s = true) → L7 ss = ss.length
 | [], _ => rfl
 | s :: r, h => by
  have h1 := T4 (h s bW5)
  have key : ∀ l : List b6, l.all (d7 nv na 0) = true → l = [] := fun l hl => by
   cases l with
   | nil => rfl
   | cons a r => simp [d7] at hl
  have h2 := aO8 (ss := r) fun x hx => h x (bX2 _ hx)
  rw [L7, ak8, key _ h1.1, key _ h1.2, h2]
  simp [L7]; omega
def f9 (x y : Int) : Int := IntKind.i64.wrap ((BitVec.ofInt (IntKind.bits .i64) x ||| BitVec.ofInt (IntKind.bits .i64) y).toNat : Int)
def bu8 (x y : Int) : Int := IntKind.i64.wrap ((BitVec.ofInt (IntKind.bits .i64) x &&& BitVec.ofInt (IntKind.bits .i64) y).toNat : Int)
def aS5 (x y : Int) : Int := IntKind.i64.wrap ((BitVec.ofInt (IntKind.bits .i64) x ^^^ BitVec.ofInt (IntKind.bits .i64) y).toNat : Int)
theorem d9.dup {P : Program} {f : FuncId} {args args' : List AV} {S S' : List It} {d : D} {res : AV} {i : Nat} (hc : d9.ok P ⟨f, args, S ++ [.dat d], S' ++ [.dat d], res⟩) (hi : S[i]? = some (.dat d)) (hl : S'.length = S.length)
  (hS : S.all (fun x => I9 S.length x.ids) = true) (ha : ∀ ρ : Nat → Value, ρ S.length = ρ i → AV.vals ρ args = AV.vals ρ args') (hg : I9 S.length (AV.idsL args') = true) : d9.ok P ⟨f, args', S, S', res⟩ := by
 intro ι φ ψ w0 w F ρ M
 have hi' : i9 S i = .dat d := by simp [i9, hi]
 have hlt : i < S.length := (bV6.1 hi).1
 have hinv : Inv (i9 S) ρ [S.length] := fun ρ' h j => by
  by_cases hj : j < S.length
  ·refine It.res_congr _ (fun k hk => h k ?_) (.inr (.inr (h j (by simp; omega))))
   have h1 := t3 (bV4.1 hS (S[j]) (bW2 hj)) k (by simpa [i9, bU9, bV0 hj] using hk)
   simp; omega
  ·rw [show i9 S j = .none by simp only [i9, bU9, bW7 (Nat.le_of_not_lt hj)]; rfl]; rfl
 obtain ⟨ρ', h1, M1, h2⟩ := M.newDat (id := S.length) (by simp [i9]) hinv (M.datAt hi')
 have e : i8 (i9 S) [(S.length, .dat d)] = i9 (S ++ [.dat d]) := by
  funext j
  simp only [i8, i9, bU9]
  by_cases hj : j = S.length
  ·subst hj; simp
  ·rw [if_neg hj]
   by_cases hj2 : j < S.length
   ·rw [bW3 hj2]
   ·rw [bW7 (by omega), bW7 (by simp; omega)]
 rw [e] at M1
 have hρ : ρ' i = ρ i := h1 i (by simp; omega)
 have ea : AV.vals ρ args' = AV.vals ρ' args := by
  rw [ha ρ' (by rw [← h2, hρ])]
  exact (AV.vals_congr _ fun k hk => by
   have := t3 hg k hk
   exact h1 k (by simp; omega)).symm
 simp only
 rw [ea]
 refine (hc ι φ ψ w0 w F ρ' M1).mono ?_
 rintro x w' ⟨ρ2, g1, g2, M2⟩
 refine ⟨ρ2, fun k hk => ?_, g2, ?_⟩
 ·rw [g1 k (by simp; omega)]; exact h1 k (by simp; omega)
 ·refine M2.map (fun k => match k with | .inl i => some (.inl i) | .inr j => if j < S'.length then some (.inr j) else none) ?_ ?_
  ·intro k k' x h1 h2
   match k, k' with
   | .inl i, .inl i' => simp at h1 h2; rw [h1, h2]
   | .inl i, .inr j => simp at h1; subst h1; simp at h2
   | .inr j, .inl i => simp at h2; subst h2; simp at h1
   | .inr j, .inr j' => simp at h1 h2; rw [← h1.2] at h2; rw [Sum.inr.inj h2.2]
  ·intro k
   match k with
   | .inl i => exact .inl ⟨.inl i, rfl, rfl⟩
   | .inr j =>
    by_cases hj : j < S'.length
    ·refine .inl ⟨.inr j, by simp [hj], ?_⟩
     simp only [j1, i9, bU9, bW3 hj]
    ·refine .inr ?_
     simp only [j1, i9, bU9, bW7 (Nat.le_of_not_lt hj)]
     rfl
def pkX (b : List UInt8) (k : Int) : Int := ((b.getD (k.tmod b.length).toNat 0).toNat : Int) * 131 + ((b.getD ((k * 7 + 3).tmod b.length).toNat 0).toNat : Int) * 1117 + k * 29 + k.tdiv b.length * 53
def pk (b : List UInt8) (k n : Int) : Int :=
 if n < 1 ∨ b.length = 0 then 0 else if k < b.length then ((b.getD k.toNat 0).toNat : Int).tmod n else (aS5 (pkX b k) ((pkX b k).tdiv 64)).tmod n
def nm (b : List UInt8) (k : Int) (l : List Int) : Int := l.getD (pk b k l.length).toNat 0
theorem bn5 {x y : Int} (hx : 0 ≤ x) (hx2 : x < 9223372036854775808) (hy : 0 ≤ y) (hy2 : y < 9223372036854775808) : 0 ≤ aS5 x y := by
 obtain ⟨a, rfl⟩ := Int.eq_ofNat_of_zero_le hx
 obtain ⟨c, rfl⟩ := Int.eq_ofNat_of_zero_le hy
 have ha : a < 2 ^ 63 := by omega
 have hc : c < 2 ^ 63 := by omega
 have h : (BitVec.ofInt (IntKind.bits .i64) (a : Int) ^^^ BitVec.ofInt (IntKind.bits .i64) (c : Int)).toNat < 2 ^ 63 := by
  rw [BitVec.toNat_xor]
  refine Nat.xor_lt_two_pow ?_ ?_
  ·simp only [BitVec.ofInt_natCast, BitVec.toNat_ofNat, IntKind.bits]; omega
  ·simp only [BitVec.ofInt_natCast, BitVec.toNat_ofNat, IntKind.bits]; omega
 unfold aS5
 generalize (BitVec.ofInt (IntKind.bits .i64) (a : Int) ^^^ BitVec.ofInt (IntKind.bits .i64) (c : Int)).toNat = z at h ⊢
 rw [w64 (by omega) (by omega)]
 omega
theorem aK8 (x : UInt8) : ((x.toNat : Nat) : Int) ≤ 255 := by have := x.toNat_lt; omega
theorem aL0 {k n : Int} (hk : 0 ≤ k) (hn : 1 ≤ n) : 0 ≤ k.tdiv n ∧ k.tdiv n ≤ k := by
 refine ⟨Int.tdiv_nonneg hk (by omega), ?_⟩
 rw [Int.tdiv_eq_ediv_of_nonneg hk]
 exact Int.ediv_le_self _ hk
theorem aN2 {b : List UInt8} {k : Int} (hk : 0 ≤ k) (hk2 : k ≤ 1000000000) (hb : b.length ≠ 0) : 0 ≤ pkX b k ∧ pkX b k ≤ 100000000000 := by
 unfold pkX
 have h1 := aK8 (b.getD (k.tmod b.length).toNat 0)
 have h2 := aK8 (b.getD ((k * 7 + 3).tmod b.length).toNat 0)
 have h3 := aL0 (n := b.length) hk (by omega)
 omega
theorem aS8 {x n : Int} (hx : 0 ≤ x) (hn : 1 ≤ n) : 0 ≤ x.tmod n ∧ x.tmod n < n := ⟨Int.tmod_nonneg _ hx, Int.tmod_lt_of_pos _ (by omega)⟩
theorem bw3 {b : List UInt8} {k : Int} (hk : 0 ≤ k) (hk2 : k ≤ 1000000000) (hb : b.length ≠ 0) : 0 ≤ (pkX b k).tdiv 64 ∧ (pkX b k).tdiv 64 ≤ 100000000000 := by
 have h := aN2 hk hk2 hb
 have h2 := aL0 (n := 64) h.1 (by omega)
 omega
theorem bR6 (b : List UInt8) {k n : Int} (hk : 0 ≤ k) (hk2 : k ≤ 1000000000) (hn : 1 ≤ n) : 0 ≤ pk b k n ∧ pk b k n < n := by
 unfold pk
 split
 ·omega
 ·split
  ·exact aS8 (by omega) hn
  ·have h := aN2 hk hk2 (show b.length ≠ 0 by omega)
   have h2 := bw3 hk hk2 (show b.length ≠ 0 by omega)
   exact aS8 (bn5 h.1 (by omega) h2.1 (by omega)) hn
theorem a29 (b : List UInt8) {k : Int} (hk : 0 ≤ k) (hk2 : k ≤ 1000000000) {l : List Int} (hl : l ≠ []) : 0 ≤ pk b k l.length ∧ pk b k l.length < l.length ∧ (pk b k l.length).toNat < l.length := by
 have h0 : 0 < l.length := List.length_pos_iff.2 hl
 have h := bR6 b (n := l.length) hk hk2 (by omega)
 omega
theorem aG7 (b : List UInt8) {k : Int} (hk : 0 ≤ k) (hk2 : k ≤ 1000000000) {l : List Int} (hl : l ≠ []) : nm b k l ∈ l := by
 unfold nm
 rw [f8 (a29 b hk hk2 hl).2.2]
 exact bW2 _
abbrev l1L : List Int := [-1] ++ ([4] ++ ([9223372036854775807] ++ ([-9223372036854775808] ++ [])))
def l1D (b : List UInt8) (k : Int) : Int := if pk b k 12 = 0 then nm b (k + 1) l1L else pk b (k + 1) 4
def z7 {α : Type} (f : Int → α × Int) : Nat → Int → List α × Int
 | 0, k => ([], k)
 | n + 1, k => ((z7 f n k).1 ++ [(f (z7 f n k).2).1], (f (z7 f n k).2).2)
theorem aI1 {α : Type} (f : Int → α × Int) (n : Nat) (k : Int) : (z7 f n k).1.length = n := by
 induction n with
 | zero => rfl
 | succ n ih => simp [z7, ih]
theorem bk1 {α : Type} {f : Int → α × Int} {c : Int} (hc : 0 ≤ c) {m : Nat} : ∀ (n : Nat) (k : Int), n ≤ m → (∀ j, k ≤ j → j ≤ k + m * c → j ≤ (f j).2 ∧ (f j).2 ≤ j + c) → k ≤ (z7 f n k).2 ∧ (z7 f n k).2 ≤ k + n * c := by
 intro n
 induction n with
 | zero => intro k _ _; simp [z7]
 | succ n ih =>
  intro k hm h
  have h1 := ih k (by omega) h
  have e : ((n + 1 : Nat) : Int) * c = n * c + c := by rw [Int.natCast_add, Int.add_mul]; simp
  have h3 : ((n + 1 : Nat) : Int) * c ≤ m * c := bY6 (by omega) hc
  have h2 := h (z7 f n k).2 h1.1 (by omega)
  simp only [z7]
  rw [e]
  omega
theorem bs7 {α : Type} {f : Int → α × Int} {Q : α → Prop} (h : ∀ j, Q (f j).1) (n : Nat) (k : Int) : ∀ x ∈ (z7 f n k).1, Q x := by
 induction n with
 | zero => intro x hx; cases hx
 | succ n ih =>
  intro x hx
  simp only [z7, bW9, bX6] at hx
  rcases hx with hx | rfl
  ·exact ih x hx
  ·exact h _
abbrev atL : List Int := [1] ++ ([0] ++ ([2] ++ ([3] ++ ([255] ++ ([7] ++ ([128] ++ []))))))
def j5 (b : List UInt8) (nv : Int) (k : Int) : b7 := if pk b k 3 = 0 then ⟨1, nm b (k + 1) atL, []⟩ else ⟨2, pk b (k + 1) nv, []⟩
abbrev E6 : List Int := [4] ++ ([10] ++ ([8] ++ ([9] ++ ([3] ++ ([6] ++ ([7] ++ ([5] ++ ([11] ++ []))))))))
def D5 (b : List UInt8) (nv na : Int) : Nat → Int → b7 × Int
 | 0, k => (j5 b nv k, k + 2)
 | d + 1, k => if d = 0 then (j5 b nv k, k + 2) else if pk b k 4 = 0 then (j5 b nv (k + 1), k + 3)
  else if nm b (k + 1) E6 = 3 then (if na = 0 then (j5 b nv (k + 2), k + 4) else (⟨3, pk b (k + 2) na, [j5 b nv (k + 3)]⟩, k + 5))
  else (⟨nm b (k + 1) E6, 0, (z7 (D5 b nv na d) (j2 (nm b (k + 1) E6)).toNat (k + 2)).1⟩, (z7 (D5 b nv na d) (j2 (nm b (k + 1) E6)).toNat (k + 2)).2)
def cE : Nat → Int
 | 0 => 2
 | d + 1 => 5 + 3 * cE d
theorem ax4 (d : Nat) : 2 ≤ cE d := by
 induction d with
 | zero => exact Int.le_refl _
 | succ d ih => simp only [cE]; omega
theorem ar3 (k : Int) : (j2 k).toNat ≤ 3 := by unfold j2; (repeat' split) <;> decide
theorem aP5 (b : List UInt8) (nv na : Int) : ∀ (d : Nat) (k : Int), k ≤ (D5 b nv na d k).2 ∧ (D5 b nv na d k).2 ≤ k + cE d
 | 0, k => by simp only [D5, cE]; omega
 | d + 1, k => by
  have hc := ax4 d
  rw [D5]
  simp only [cE]
  split
  ·simp only; omega
  ·split
   ·simp only; omega
   ·split
    ·split <;> (simp only; omega)
    ·have h3 := ar3 (nm b (k + 1) E6)
     have h := bk1 (f := D5 b nv na d) (c := cE d) (m := 3) (by omega) (j2 (nm b (k + 1) E6)).toNat (k + 2) h3 fun j _ _ => aP5 b nv na d j
     have h4 : ((j2 (nm b (k + 1) E6)).toNat : Int) * cE d ≤ 3 * cE d := bY6 (by omega) (by omega)
     simp only
     omega
theorem a08 {c : Nat} : ∀ {l : List b7}, (∀ x ∈ l, s4 x ≤ c) → j3 l ≤ l.length * (1 + c)
 | [], _ => bY1 _
 | e :: r, h => by
  have h1 := h e (bW5 ..)
  have h2 := a08 (l := r) fun x hx => h x (bX2 _ hx)
  simp only [j3, bV7]
  rw [Nat.add_mul]
  omega
theorem bk2 (b : List UInt8) (nv na : Int) : ∀ (d : Nat) (k : Int), (s4 (D5 b nv na d k).1 : Int) ≤ cE d
 | 0, k => by
  simp only [D5, cE, j5]
  split <;> simp [s4, j3]
 | d + 1, k => by
  have hc := ax4 d
  have ha : ∀ j, s4 (j5 b nv j) = 0 := fun j => by unfold j5; split <;> rfl
  rw [D5]
  simp only [cE]
  split
  ·simp only [ha]; omega
  ·split
   ·simp only [ha]; omega
   ·split
    ·split
     ·simp only [ha]; omega
     ·simp only [s4, j3, ha]; omega
    ·have h3 := ar3 (nm b (k + 1) E6)
     have h1 := bs7 (f := D5 b nv na d) (Q := fun x => s4 x ≤ (cE d).toNat) (fun j => by have := bk2 b nv na d j; omega) (j2 (nm b (k + 1) E6)).toNat (k + 2)
     have h2 := a08 h1
     rw [aI1] at h2
     simp only [s4]
     have h4 := bY3 (1 + (cE d).toNat) h3
     omega
abbrev dpL : List Int := [2] ++ ([3] ++ ([2] ++ ([1] ++ ([4] ++ []))))
def n5 (b : List UInt8) (nv na : Nat) (k : Int) : b7 × Int :=
 if f7 nv na (D5 b nv na (nm b k dpL).toNat (k + 1)).1 = true then D5 b nv na (nm b k dpL).toNat (k + 1)
 else (j5 b nv (D5 b nv na (nm b k dpL).toNat (k + 1)).2, (D5 b nv na (nm b k dpL).toNat (k + 1)).2 + 2)
theorem cE4 {d : Nat} (h : d ≤ 4) : cE d ≤ 364 := by
 match d, h with
 | 0, _ => decide
 | 1, _ => decide
 | 2, _ => decide
 | 3, _ => decide
 | 4, _ => decide
theorem dp4 (b : List UInt8) {k : Int} (hk : 0 ≤ k) (hk2 : k ≤ 1000000000) : 1 ≤ nm b k dpL ∧ nm b k dpL ≤ 4 ∧ (nm b k dpL).toNat ≤ 4 := by
 have h := aG7 b hk hk2 (l := dpL) (by simp)
 simp only [bW9, bY2, List.not_mem_nil, or_false] at h
 omega
theorem bD2 (b : List UInt8) {k : Int} (hk : 0 ≤ k) (hk2 : k ≤ 1000000000) : nm b k dpL = ((nm b k dpL).toNat : Int) := by have := dp4 b hk hk2; omega
theorem a14 (b : List UInt8) (nv na : Nat) {k : Int} (hk : 0 ≤ k) (hk2 : k ≤ 1000000000) : k ≤ (n5 b nv na k).2 ∧ (n5 b nv na k).2 ≤ k + 367 := by
 have h := aP5 b nv na (nm b k dpL).toNat (k + 1)
 have h2 := cE4 (dp4 b hk hk2).2.2
 unfold n5
 split
 ·omega
 ·simp only; omega
theorem aR4 (b : List UInt8) (nv j : Int) : s4 (j5 b nv j) = 0 := by unfold j5; split <;> rfl
theorem aT6 (b : List UInt8) (nv na : Nat) {k : Int} (hk : 0 ≤ k) (hk2 : k ≤ 1000000000) : s4 (n5 b nv na k).1 ≤ 364 := by
 have h := bk2 b nv na (nm b k dpL).toNat (k + 1)
 have h2 := cE4 (dp4 b hk hk2).2.2
 unfold n5
 split
 ·omega
 ·rw [aR4]; omega
abbrev noE : b7 := ⟨0, 0, []⟩
abbrev C7 : List Int := [1] ++ ([1] ++ ([2] ++ ([3] ++ ([4] ++ ([1] ++ ([3] ++ ([5] ++ [])))))))
abbrev ibL : List Int := [1] ++ ([2] ++ ([1] ++ ([0] ++ [])))
abbrev ieL : List Int := [0] ++ ([1] ++ ([0] ++ ([2] ++ [])))
abbrev rcL : List Int := [2] ++ ([1] ++ ([3] ++ []))
abbrev rbL : List Int := [1] ++ ([2] ++ ([1] ++ []))
def dfS (b : List UInt8) (nv na : Nat) (kd k : Int) : b6 × Int := (⟨if kd = 5 then 5 else 1, pk b k nv, noE, (n5 b nv na (k + 1)).1, 0, [], []⟩, (n5 b nv na (k + 1)).2)
def soS (b : List UInt8) (nv na : Nat) (k : Int) : b6 × Int := (⟨2, pk b k na, j5 b nv (k + 1), (n5 b nv na (k + 1 + 2)).1, 0, [], []⟩, (n5 b nv na (k + 1 + 2)).2)
def mnD (b : List UInt8) (f : Int → b6 × Int) (l : List Int) (k : Int) : List b6 × Int := z7 f (nm b k l).toNat (k + 1)
def ifS (b : List UInt8) (nv na : Nat) (f : Int → b6 × Int) (k : Int) : b6 × Int :=
 (⟨3, 0, noE, (n5 b nv na k).1, 0, (mnD b f ibL (n5 b nv na k).2).1, (mnD b f ieL (mnD b f ibL (n5 b nv na k).2).2).1⟩, (mnD b f ieL (mnD b f ibL (n5 b nv na k).2).2).2)
def rpS (b : List UInt8) (f : Int → b6 × Int) (k : Int) : b6 × Int := (⟨4, 0, noE, noE, nm b k rcL, (mnD b f rbL (k + 1)).1, []⟩, (mnD b f rbL (k + 1)).2)
def t7 (b : List UInt8) (nv na : Nat) : Nat → Int → b6 × Int
 | 0, k => if nm b k C7 = 2 ∧ na ≠ 0 then soS b nv na (k + 1) else dfS b nv na (nm b k C7) (k + 1)
 | d + 1, k => if nm b k C7 = 2 ∧ na ≠ 0 then soS b nv na (k + 1) else if nm b k C7 = 3 ∧ d ≠ 0 then ifS b nv na (t7 b nv na d) (k + 1) else if nm b k C7 = 4 ∧ d ≠ 0 then rpS b (t7 b nv na d) (k + 1)
  else dfS b nv na (nm b k C7) (k + 1)
def cS : Nat → Int
 | 0 => 402
 | d + 1 => 402 + 4 * cS d
theorem an6 (d : Nat) : 402 ≤ cS d := by
 induction d with
 | zero => exact Int.le_refl _
 | succ d ih => simp only [cS]; omega
section
variable (b : List UInt8) (nv na : Nat) {k : Int}
theorem bx7 (kd : Int) (hk : 0 ≤ k) (hk2 : k + 400 ≤ 1000000000) : k ≤ (dfS b nv na kd k).2 ∧ (dfS b nv na kd k).2 ≤ k + 368 := by
 have h := a14 b nv na (k := k + 1) (by omega) (by omega)
 simp only [dfS]; omega
theorem bv8 (hk : 0 ≤ k) (hk2 : k + 400 ≤ 1000000000) : k ≤ (soS b nv na k).2 ∧ (soS b nv na k).2 ≤ k + 370 := by
 have h := a14 b nv na (k := k + 1 + 2) (by omega) (by omega)
 simp only [soS]; omega
theorem nm2 {l : List Int} (hl : l ≠ []) (h : ∀ x ∈ l, 0 ≤ x ∧ x ≤ 2) (hk : 0 ≤ k) (hk2 : k ≤ 1000000000) : (nm b k l).toNat ≤ 2 ∧ nm b k l = ((nm b k l).toNat : Int) := by
 have := h _ (aG7 b hk hk2 hl); omega
theorem bg7 {f : Int → b6 × Int} {c : Int} {l : List Int} (hl : l ≠ []) (h : ∀ x ∈ l, 0 ≤ x ∧ x ≤ 2) (hc : 0 ≤ c) (hk : 0 ≤ k) (hk2 : k + 1 + 2 * c ≤ 1000000000) (hf : ∀ j, 0 ≤ j → j + c ≤ 1000000000 → j ≤ (f j).2 ∧ (f j).2 ≤ j + c) : k ≤ (mnD b f l k).2 ∧ (mnD b f l k).2 ≤ k + 1 + 2 * c := by
 have h2 := (nm2 b hl h hk (by omega)).1
 have h3 : ∀ m : Nat, m ≤ 2 → k + 1 ≤ (z7 f m (k + 1)).2 ∧ (z7 f m (k + 1)).2 ≤ k + 1 + m * c := by
  intro m
  induction m with
  | zero => intro _; simp [z7]
  | succ m ih =>
   intro hm
   have h4 := ih (by omega)
   have h6 : (m : Int) * c ≤ 1 * c := bY6 (by omega) hc
   have h5 := hf (z7 f m (k + 1)).2 (by omega) (by omega)
   have e : ((m + 1 : Nat) : Int) * c = m * c + c := by rw [Int.natCast_add, Int.add_mul]; simp
   simp only [z7]
   rw [e]
   omega
 have h4 := h3 _ h2
 have h6 : ((nm b k l).toNat : Int) * c ≤ 2 * c := bY6 (by omega) hc
 unfold mnD
 omega
theorem aW1 : ∀ x : Int, x ∈ ibL → 0 ≤ x ∧ x ≤ 2 := by intro x hx; simp only [bW9, bY2, List.not_mem_nil, or_false] at hx; omega
theorem aV9 : ∀ x : Int, x ∈ ieL → 0 ≤ x ∧ x ≤ 2 := by intro x hx; simp only [bW9, bY2, List.not_mem_nil, or_false] at hx; omega
theorem aU4 : ∀ x : Int, x ∈ rbL → 0 ≤ x ∧ x ≤ 2 := by intro x hx; simp only [bW9, bY2, List.not_mem_nil, or_false] at hx; omega
theorem bx0 {f : Int → b6 × Int} {c : Int} (hc : 0 ≤ c) (hk : 0 ≤ k) (hk2 : k + 380 + 4 * c ≤ 1000000000) (hf : ∀ j, 0 ≤ j → j + c ≤ 1000000000 → j ≤ (f j).2 ∧ (f j).2 ≤ j + c) : k ≤ (n5 b nv na k).2 ∧ (n5 b nv na k).2 ≤ k + 367 ∧ (n5 b nv na k).2 ≤ (mnD b f ibL (n5 b nv na k).2).2 ∧ (mnD b f ibL (n5 b nv na k).2).2 ≤ k + 370 + 2 * c ∧ k ≤ (ifS b nv na f k).2 ∧ (ifS b nv na f k).2 ≤ k + 380 + 4 * c := by
 have h1 := a14 b nv na (k := k) (by omega) (by omega)
 have h2 := bg7 b (k := (n5 b nv na k).2) (f := f) (c := c) (l := ibL) (by simp) aW1 hc (by omega) (by omega) hf
 have h3 := bg7 b (k := (mnD b f ibL (n5 b nv na k).2).2) (f := f) (c := c) (l := ieL) (by simp) aV9 hc (by omega) (by omega) hf
 simp only [ifS]
 omega
theorem bH9 {f : Int → b6 × Int} {c : Int} (hc : 0 ≤ c) (hk : 0 ≤ k) (hk2 : k + 10 + 2 * c ≤ 1000000000) (hf : ∀ j, 0 ≤ j → j + c ≤ 1000000000 → j ≤ (f j).2 ∧ (f j).2 ≤ j + c) : k ≤ (rpS b f k).2 ∧ (rpS b f k).2 ≤ k + 10 + 2 * c := by
 have h2 := bg7 b (k := k + 1) (f := f) (c := c) (l := rbL) (by simp) aU4 hc (by omega) (by omega) hf
 simp only [rpS]; omega
theorem aL4 : ∀ (d : Nat) (k : Int), 0 ≤ k → k + cS d ≤ 1000000000 → k ≤ (t7 b nv na d k).2 ∧ (t7 b nv na d k).2 ≤ k + cS d
 | 0, k, hk, hk2 => by
  rw [t7]
  simp only [cS] at hk2 ⊢
  have h1 := bv8 b nv na (k := k + 1) (by omega) (by omega)
  have h2 := bx7 b nv na (k := k + 1) (nm b k C7) (by omega) (by omega)
  split <;> omega
 | d + 1, k, hk, hk2 => by
  rw [t7]
  simp only [cS] at hk2 ⊢
  have hc := an6 d
  have ih := aL4 d
  have h1 := bv8 b nv na (k := k + 1) (by omega) (by omega)
  have h2 := bx7 b nv na (k := k + 1) (nm b k C7) (by omega) (by omega)
  have h3 := bx0 b nv na (k := k + 1) (f := t7 b nv na d) (c := cS d) (by omega) (by omega) (by omega) ih
  have h4 := bH9 b (k := k + 1) (f := t7 b nv na d) (c := cS d) (by omega) (by omega) (by omega) ih
  (repeat' split) <;> omega
theorem aV3 : s4 noE = 0 := rfl
theorem bk3 (kd : Int) (hk : 0 ≤ k) (hk2 : k + 400 ≤ 1000000000) : B4 (dfS b nv na kd k).1 ≤ 364 := by
 have h := aT6 b nv na (k := k + 1) (by omega) (by omega)
 simp only [dfS, B4, c9, aV3]; omega
theorem bd0 (hk : 0 ≤ k) (hk2 : k + 400 ≤ 1000000000) : B4 (soS b nv na k).1 ≤ 364 := by
 have h := aT6 b nv na (k := k + 1 + 2) (by omega) (by omega)
 simp only [soS, B4, c9, aR4]; omega
def Drw (f : Int → b6 × Int) (c : Int) : Prop := ∀ j, 0 ≤ j → j + c ≤ 1000000000 → j ≤ (f j).2 ∧ (f j).2 ≤ j + c ∧ (B4 (f j).1 : Int) ≤ c
theorem aI0 {f : Int → b6 × Int} {c : Int} (hc : 0 ≤ c) (hf : Drw f c) : ∀ (m : Nat) (k : Int), 0 ≤ k → k + m * c ≤ 1000000000 → k ≤ (z7 f m k).2 ∧ (z7 f m k).2 ≤ k + m * c ∧ (c9 (z7 f m k).1 : Int) ≤ m * (1 + c) := by
 intro m
 induction m with
 | zero => intro k _ _; simp [z7, c9]
 | succ m ih =>
  intro k hk hk2
  have e : ((m + 1 : Nat) : Int) * c = m * c + c := by rw [Int.natCast_add, Int.add_mul]; simp
  have e2 : ((m + 1 : Nat) : Int) * (1 + c) = m * (1 + c) + (1 + c) := by rw [Int.natCast_add, Int.add_mul]; simp
  rw [e] at hk2
  have h4 := ih k hk (by omega)
  have h5 := hf (z7 f m k).2 (by omega) (by omega)
  have h6 : c9 ((z7 f m k).1 ++ [(f (z7 f m k).2).1]) = c9 (z7 f m k).1 + (1 + B4 (f (z7 f m k).2).1) := by
   generalize (z7 f m k).1 = l
   induction l with
   | nil => simp [c9]
   | cons a r ih => simp only [List.cons_append, c9]; omega
  simp only [z7]
  rw [e, e2, h6]
  omega
theorem aV5 {f : Int → b6 × Int} {c : Int} {l : List Int} (hl : l ≠ []) (h : ∀ x ∈ l, 0 ≤ x ∧ x ≤ 2) (hc : 0 ≤ c) (hk : 0 ≤ k) (hk2 : k + 1 + 2 * c ≤ 1000000000) (hf : Drw f c) : (c9 (mnD b f l k).1 : Int) ≤ 2 * (1 + c) := by
 have h2 := (nm2 b hl h hk (by omega)).1
 have h6 : ((nm b k l).toNat : Int) * c ≤ 2 * c := bY6 (by omega) hc
 have h7 : ((nm b k l).toNat : Int) * (1 + c) ≤ 2 * (1 + c) := bY6 (by omega) (by omega)
 have h3 := (aI0 hc hf (nm b k l).toNat (k + 1) (by omega) (by omega)).2.2
 unfold mnD
 omega
theorem aT4 : ∀ (d : Nat) (k : Int), 0 ≤ k → k + cS d ≤ 1000000000 → (B4 (t7 b nv na d k).1 : Int) ≤ cS d
 | 0, k, hk, hk2 => by
  rw [t7]
  simp only [cS] at hk2 ⊢
  have h1 := bd0 b nv na (k := k + 1) (by omega) (by omega)
  have h2 := bk3 b nv na (k := k + 1) (nm b k C7) (by omega) (by omega)
  split <;> omega
 | d + 1, k, hk, hk2 => by
  rw [t7]
  simp only [cS] at hk2 ⊢
  have hc := an6 d
  have ih := aL4 b nv na d
  have hf : Drw (t7 b nv na d) (cS d) := fun j h1 h2 => ⟨(ih j h1 h2).1, (ih j h1 h2).2, aT4 d j h1 h2⟩
  have h1 := bd0 b nv na (k := k + 1) (by omega) (by omega)
  have h2 := bk3 b nv na (k := k + 1) (nm b k C7) (by omega) (by omega)
  have h3 := bx0 b nv na (k := k + 1) (f := t7 b nv na d) (c := cS d) (by omega) (by omega) (by omega) ih
  have h4 := aT6 b nv na (k := k + 1) (by omega) (by omega)
  have h5 := aV5 b (k := (n5 b nv na (k + 1)).2) (l := ibL) (by simp) aW1 (by omega) (by omega) (by omega) hf
  have h6 := aV5 b (k := (mnD b (t7 b nv na d) ibL (n5 b nv na (k + 1)).2).2) (l := ieL) (by simp) aV9 (by omega) (by omega) (by omega) hf
  have h7 := aV5 b (k := k + 1 + 1) (l := rbL) (by simp) aU4 (by omega) (by omega) (by omega) hf
  split
  ·omega
  ·split
   ·simp only [ifS, B4, aV3]; omega
   ·split
    ·simp only [rpS, B4, aV3, c9]; omega
    ·omega
theorem bN1 (d : Nat) : Drw (t7 b nv na d) (cS d) := fun j h1 h2 => ⟨(aL4 b nv na d j h1 h2).1, (aL4 b nv na d j h1 h2).2, aT4 b nv na d j h1 h2⟩
theorem by1 {d m i : Nat} {B : Int} (hB : (m : Int) * cS d ≤ B) (hi : i ≤ m) (hk : 0 ≤ k) (hk2 : k + B ≤ 1000000000) : k ≤ (z7 (t7 b nv na d) i k).2 ∧ (z7 (t7 b nv na d) i k).2 ≤ k + B := by
 have hc := an6 d
 have h6 : (i : Int) * cS d ≤ m * cS d := bY6 (by omega) (by omega)
 have h := aI0 (by omega) (bN1 b nv na d) i k hk (by omega)
 omega
theorem bO4 {d m i : Nat} {B : Int} (hB : (m : Int) * cS d ≤ B) (hi : i < m) (hk : 0 ≤ k) (hk2 : k + B ≤ 1000000000) : (z7 (t7 b nv na d) i k).2 + cS d ≤ k + B := by
 have hc := an6 d
 have h6 : ((i + 1 : Nat) : Int) * cS d ≤ m * cS d := bY6 (by omega) (by omega)
 have e : ((i + 1 : Nat) : Int) * cS d = i * cS d + cS d := by rw [Int.natCast_add, Int.add_mul]; simp
 have h := aI0 (by omega) (bN1 b nv na d) i k hk (by omega)
 omega
theorem bJ5 {m : Int} {c : Int} (h0 : 0 ≤ m) (hm : m ≤ 2) (hc : 0 ≤ c) : (m.toNat : Int) * c ≤ 2 * c := bY6 (by omega) hc
theorem bS5 {m : Int} {c : Int} (h0 : 0 ≤ m) (hm : m ≤ 4) (hc : 0 ≤ c) : (m.toNat : Int) * c ≤ 4 * c := bY6 (by omega) hc
end
theorem aB3 (b : List UInt8) {k : Int} {l : List Int} {m : Int} (hl : l ≠ []) (h : ∀ x ∈ l, 0 ≤ x ∧ x ≤ m) (hk : 0 ≤ k) (hk2 : k ≤ 1000000000) : 0 ≤ nm b k l ∧ nm b k l ≤ m := h _ (aG7 b hk hk2 hl)
mutual
def AV.den (t : Bool) (n : Nat) : AV → AV
 | .v x => .v x
 | .ptr a b => .ptr a b
 | .ea a b c d => .ea a b c d
 | .ref i => if !t && natEq i n then .v (.slice none 0 0) else .ref i
 | .agg l => .agg (AV.denL t n l)
 | .tup l => .tup (AV.denL t n l)
 | .fn f l => .fn f (AV.denL t n l)
 | .bm f l => .bm f (AV.denL t n l)
 | .tref i => if t && natEq i n then .v (.slice none 0 0) else .tref i
def AV.denL (t : Bool) (n : Nat) : List AV → List AV
 | [] => []
 | x :: r => x.den t n :: AV.denL t n r
end
def It.den (t : Bool) (n : Nat) : It → It
 | .box cs => .box (AV.denL t n cs)
 | x => x
mutual
theorem AV.val_den {ρ : Nat → Value} {t : Bool} {n : Nat} {z : Value} (hz : if t then t5 z = .slice none 0 0 else z = .slice none 0 0) : ∀ (x : AV), (∀ i ∈ (x.den t n).ids, i < n) → x.val (fun j => if j = n then z else ρ j) = (x.den t n).val ρ ∧ ∀ i ∈ x.ids, i < n + 1
 | .v _, _ => ⟨rfl, fun i hi => by simp [AV.ids] at hi⟩
 | .ptr a b, h => by
  have ha : a < n := h a (by simp [AV.den, AV.ids])
  refine ⟨?_, fun i hi => by simp [AV.ids] at hi; omega⟩
  simp only [AV.den, AV.val]
  rw [if_neg (by omega)]
 | .ea a b c d, h => by
  have ha : a < n := h a (by simp [AV.den, AV.ids])
  refine ⟨?_, fun i hi => by simp [AV.ids] at hi; omega⟩
  simp only [AV.den, AV.val]
  rw [if_neg (by omega)]
 | .ref a, h => by
  by_cases e : t = false ∧ a = n
  ·obtain ⟨rfl, rfl⟩ := e
   refine ⟨?_, fun i hi => by simp [AV.ids] at hi; omega⟩
   simp only [Bool.false_eq_true, if_false] at hz
   simp [AV.den, AV.val, natEq, hz]
  ·have hd : (AV.ref a).den t n = .ref a := by
    simp only [AV.den]
    rw [if_neg]
    simp [natEq]; intro h1 h2; exact e ⟨h1, h2⟩
   rw [hd] at h ⊢
   have ha : a < n := h a (by simp [AV.ids])
   refine ⟨?_, fun i hi => by simp [AV.ids] at hi; omega⟩
   simp only [AV.val]
   rw [if_neg (by omega)]
 | .tref a, h => by
  by_cases e : t = true ∧ a = n
  ·obtain ⟨rfl, rfl⟩ := e
   refine ⟨?_, fun i hi => by simp [AV.ids] at hi; omega⟩
   simp only [if_true] at hz
   simp [AV.den, AV.val, natEq, hz]
  ·have hd : (AV.tref a).den t n = .tref a := by
    simp only [AV.den]
    rw [if_neg]
    simp [natEq]; intro h1 h2; exact e ⟨h1, h2⟩
   rw [hd] at h ⊢
   have ha : a < n := h a (by simp [AV.ids])
   refine ⟨?_, fun i hi => by simp [AV.ids] at hi; omega⟩
   simp only [AV.val]
   rw [if_neg (by omega)]
 | .agg l, h => by
  obtain ⟨h1, h2⟩ := AV.vals_den hz l (by simpa [AV.den, AV.ids] using h)
  exact ⟨by simp only [AV.den, AV.val]; rw [h1], by simpa [AV.ids] using h2⟩
 | .tup l, h => by
  obtain ⟨h1, h2⟩ := AV.vals_den hz l (by simpa [AV.den, AV.ids] using h)
  exact ⟨by simp only [AV.den, AV.val]; rw [h1], by simpa [AV.ids] using h2⟩
 | .fn f l, h => by
  obtain ⟨h1, h2⟩ := AV.vals_den hz l (by simpa [AV.den, AV.ids] using h)
  exact ⟨by simp only [AV.den, AV.val]; rw [h1], by simpa [AV.ids] using h2⟩
 | .bm f l, h => by
  obtain ⟨h1, h2⟩ := AV.vals_den hz l (by simpa [AV.den, AV.ids] using h)
  exact ⟨by simp only [AV.den, AV.val]; rw [h1], by simpa [AV.ids] using h2⟩
theorem AV.vals_den {ρ : Nat → Value} {t : Bool} {n : Nat} {z : Value} (hz : if t then t5 z = .slice none 0 0 else z = .slice none 0 0) : ∀ (l : List AV), (∀ i ∈ AV.idsL (AV.denL t n l), i < n) → AV.vals (fun j => if j = n then z else ρ j) l = AV.vals ρ (AV.denL t n l) ∧ ∀ i ∈ AV.idsL l, i < n + 1
 | [], _ => ⟨rfl, fun i hi => by simp [AV.idsL] at hi⟩
 | x :: r, h => by
  obtain ⟨h1, h2⟩ := AV.val_den hz x fun i hi => h i (by simp only [AV.denL, AV.idsL, bW9]; exact .inl hi)
  obtain ⟨h3, h4⟩ := AV.vals_den hz r fun i hi => h i (by simp only [AV.denL, AV.idsL, bW9]; exact .inr hi)
  refine ⟨by simp only [AV.denL, AV.vals]; rw [h1, h3], fun i hi => ?_⟩
  simp only [AV.idsL, bW9] at hi
  rcases hi with hi | hi
  ·exact h2 i hi
  ·exact h4 i hi
end
theorem au3 {m : Bool} {n : Nat} {t : Nat} {x : AV} : ∀ {tm : List (Nat × AV)}, s0 tm t = some x → s0 (tm.map fun p => (p.1, p.2.den m n)) t = some (x.den m n)
 | [], h => by cases h
 | (k, y) :: r, h => by
  simp only [s0, bX9] at h ⊢
  split at h
  ·rename_i e; cases h; rw [if_pos e]
  ·rename_i e; rw [if_neg e]; exact au3 h
section
variable {P : Program} {ι : Type} {φ ψ : Nat → Prop} {w0 w : World} {F : ι → Rs} {ρ ρ0 : Nat → Value} {N m n : Nat} {S : List It} {tm : List (Nat × AV)} {a : Act}
theorem l7.nilW (G : l7 φ ψ w0 F N m ρ0 ρ S tm a w) (n : Nat) (hn : S.length = n) (b : Bool) (x : It) (z : Value) (hz : if b then t5 z = .slice none 0 0 else z = .slice none 0 0) (hids : x.ids = []) (hb : ∀ g, ¬ (x.res (fun j => if j = n then z else ρ j) n).blk g)
  (hx : ∀ φ', (x.res (fun j => if j = n then z else ρ j) n).holds w φ') (S1 : List It) (tm1 : List (Nat × AV)) (hS : S = S1.map (It.den b n)) (ht : tm = tm1.map fun p => (p.1, p.2.den b n)) :
  ∃ ρ', l7 φ ψ w0 F N m ρ0 ρ' (S1 ++ [x]) tm1 a w := by
 have hl : S1.length = n := by rw [← hn, hS, List.length_map]
 have hat : ∀ j (hj : j < n), i9 S j = (S1[j]'(by omega)).den b n := fun j hj => by
  rw [Y4 (show j < S.length by omega)]
  have h1 := congrArg (·[j]?) hS
  simp only [List.getElem?_map, bV0 (show j < S.length by omega), bV0 (show j < S1.length by omega), Option.map_some, Option.some.injEq] at h1
  exact h1
 have hnew : ∀ j (hj : j < n), i9 (S1 ++ [x]) j = S1[j]'(by omega) := fun j hj => by
  simp [i9, bU9, bW3 (show j < S1.length by omega), bV0 (show j < S1.length by omega)]
 have hlast : i9 (S1 ++ [x]) n = x := by
  simp [i9, bU9, ← hl]
 have hout : ∀ j, n < j → i9 (S1 ++ [x]) j = .none := fun j hj => l6 (by simp; omega)
 have hbx : ∀ j (hj : j < n), ((S1[j]'(by omega)).res (fun j => if j = n then z else ρ j) j = (i9 S j).res ρ j) ∧ ∀ i ∈ (S1[j]'(by omega)).ids, i < n + 1 := fun j hj => by
  rw [hat j hj]
  have hb := (G.bd j).1
  rw [hat j hj, hn] at hb
  generalize S1[j]'(by omega) = x at *
  cases x with
  | box cs =>
   obtain ⟨h1, h2⟩ := AV.vals_den (ρ := ρ) (n := n) hz cs hb
   refine ⟨?_, h2⟩
   simp only [It.res, It.den]
   rw [h1, if_neg (show ¬ j = n by omega)]
  | none => exact ⟨rfl, fun i hi => by cases hi⟩
  | dead => exact ⟨rfl, fun i hi => by cases hi⟩
  | dat d' => exact ⟨by simp only [It.res, It.den]; rw [if_neg (show ¬ j = n by omega)], fun i hi => by cases hi⟩
  | row e' d' => exact ⟨by simp only [It.res, It.den]; rw [if_neg (show ¬ j = n by omega)], fun i hi => by cases hi⟩
  | tree d' => exact ⟨by simp only [It.res, It.den]; rw [if_neg (show ¬ j = n by omega)], fun i hi => by cases hi⟩
  | kept e' d' => exact ⟨by cases e' <;> (simp only [It.res, It.den]; rw [if_neg (show ¬ j = n by omega)]), fun i hi => by cases hi⟩
  | hole k q ls =>
   have hk : k < n := hb k (by simp [It.den, It.ids])
   exact ⟨by simp only [It.res, It.den]; rw [if_neg (show ¬ j = n by omega), if_neg (show ¬ k = n by omega)], fun i hi => by simp [It.ids] at hi; omega⟩
 have hw : ∀ t x, s0 tm1 t = some x → x.val (fun j => if j = n then z else ρ j) = (x.den b n).val ρ ∧ ∀ i ∈ x.ids, i < n + 1 := fun t x hx => by
  refine AV.val_den hz x fun i hi => ?_
  have h1 : s0 tm t = some (x.den b n) := by rw [ht]; exact au3 hx
  have := G.tmi t _ h1 i hi
  omega
 refine ⟨fun j => if j = n then z else ρ j, ?_⟩
 refine ⟨G.size, G.defs, fun t x hx => ?_, fun t x hx i hi => ?_, fun j => ⟨fun i hi => ?_, fun hj => l6 hj⟩, ?_, ?_, fun i hi => ?_⟩
 ·have h1 : s0 tm t = some (x.den b n) := by rw [ht]; exact au3 hx
  rw [(hw t x hx).1]; exact G.tmv t _ h1
 ·have := (hw t x hx).2 i hi
  simp; omega
 ·rcases Nat.lt_trichotomy j n with h | h | h
  ·rw [hnew j h] at hi
   have := (hbx j h).2 i hi
   simp; omega
  ·subst h; rw [hlast, hids] at hi; cases hi
  ·rw [hout j h] at hi; cases hi
 ·refine e7.put G.mem (.inr n) (fun k hk => ?_) (v7.refl _ _) ?_ ?_
  ·cases k with
   | inl i => rfl
   | inr j =>
    simp only [j1]
    rcases Nat.lt_trichotomy j n with h | h | h
    ·rw [hnew j h]; exact (hbx j h).1
    ·exact absurd (by rw [h]) hk
    ·rw [hout j h, l6 (show S.length ≤ j by omega)]; rfl
  ·simp only [j1, hlast]; exact hx _
  ·intro g hg
   simp only [j1, hlast] at hg
   exact absurd hg (hb g)
 ·have := G.le; simp; omega
 ·show (if i = n then _ else ρ i) = ρ0 i
  have := G.le
  rw [if_neg (by omega)]; exact G.old i hi
theorem l7.nil (G : l7 φ ψ w0 F N m ρ0 ρ S tm a w) (n : Nat) (e : TypeId) (d : D) (k : Nat) (S1 : List It) (tm1 : List (Nat × AV)) (hn : S.length = n := by kernel_rfl) (hd : D.nil k = some d := by kernel_rfl) (hS : S = S1.map (It.den false n) := by kernel_rfl) (ht : tm = tm1.map (fun p => (p.1, p.2.den false n)) := by kernel_rfl) :
  ∃ ρ', l7 φ ψ w0 F N m ρ0 ρ' (S1 ++ [.row e d]) tm1 a w := by
 have hz := D.nil_len hd
 refine G.nilW n hn false (.row e d) (.slice none 0 0) (by simp) rfl (fun g hg => ?_) (fun φ' => ?_) S1 tm1 hS ht
 ·simp only [It.res, if_true] at hg
  cases hg
 ·simp only [It.res, if_true]
  refine ⟨fun xs => RW.nice d xs, [], ?_, RW.nil hz _⟩
  rw [hz]; exact World.ownsRow_nil _ _ _ _
theorem l7.nilT (G : l7 φ ψ w0 F N m ρ0 ρ S tm a w) (n : Nat) (d : D) (S1 : List It) (tm1 : List (Nat × AV)) (hn : S.length = n := by kernel_rfl) (hd : ((ac3 d).isSome && natEq d.len 0) = true := by kernel_rfl) (hS : S = S1.map (It.den true n) := by kernel_rfl) (ht : tm = tm1.map (fun p => (p.1, p.2.den true n)) := by kernel_rfl) :
  ∃ ρ', l7 φ ψ w0 F N m ρ0 ρ' (S1 ++ [.tree d]) tm1 a w := by
 simp only [bU8, natEq, beq_iff_eq] at hd
 obtain ⟨e, he⟩ := bY5.1 hd.1
 obtain ⟨z, h1, h2⟩ := aw3 (.slice none 0 0) (fun _ => False) 0 fun b h => h.elim
 refine G.nilW n hn true (.tree d) z (by simp [h1]) rfl (fun g hg => ?_) (fun φ' => ?_) S1 tm1 hS ht
 ·simp only [It.res, if_true] at hg
  exact ((h2 g).1 hg).elim
 ·simp only [It.res, if_true]
  rw [h1]
  refine ⟨fun _ _ h hs => h.same hs, ⟨e, [], fun _ => False, he, ?_, (fun g hg => by cases hg), (fun b hb => hb.elim), ?_⟩, fun b hb => ((h2 b).1 hb).elim⟩
  ·rw [hd.2]; exact World.ownsRow_nil _ _ _ _
  ·have h0 := hd.2
   cases d <;> simp only [ac3] at he <;> first | cases he | skip
   all_goals (simp only [D.len] at h0; rw [bX0 h0]; rfl)
end
inductive Ln where
 | no
 | row (e : TypeId)
 | tree
def o9 (M : List Ln) (i : Nat) : Ln := M.getD i .no
def Ln.isT : Ln → Bool
 | .tree => true
 | _ => false
mutual
def AV.tr (M : List Ln) : AV → AV
 | .v x => .v x
 | .ptr a b => .ptr a b
 | .ea a b c d => .ea a b c d
 | .ref i => if (o9 M i).isT then .tref i else .ref i
 | .agg l => .agg (AV.trL M l)
 | .tup l => .tup (AV.trL M l)
 | .fn f l => .fn f (AV.trL M l)
 | .bm f l => .bm f (AV.trL M l)
 | .tref i => .tref i
def AV.trL (M : List Ln) : List AV → List AV
 | [] => []
 | x :: r => x.tr M :: AV.trL M r
end
mutual
def AV.trOk (M : List Ln) : AV → Bool
 | .v _ => true
 | .ptr a _ => !(o9 M a).isT
 | .ea a _ _ _ => !(o9 M a).isT
 | .ref _ => true
 | .agg l => AV.trOkL M l
 | .tup l => AV.trOkL M l
 | .fn _ l => AV.trOkL M l
 | .bm _ l => AV.trOkL M l
 | .tref i => !(o9 M i).isT
def AV.trOkL (M : List Ln) : List AV → Bool
 | [] => true
 | x :: r => x.trOk M && AV.trOkL M r
end
mutual
theorem AV.val_tr {ρ ρ' : Nat → Value} {M : List Ln} (h : ∀ i, ρ' i = if (o9 M i).isT then t5 (ρ i) else ρ i) : ∀ (x : AV), x.trOk M = true → (x.tr M).val ρ = x.val ρ'
 | .v _, _ => rfl
 | .ptr a _, hx => by
  simp only [AV.trOk, bV2] at hx
  simp only [AV.tr, AV.val]; rw [h a, hx]; rfl
 | .ea a _ _ _, hx => by
  simp only [AV.trOk, bV2] at hx
  simp only [AV.tr, AV.val]; rw [h a, hx]; rfl
 | .ref i, _ => by
  simp only [AV.tr]
  cases hm : (o9 M i).isT
  ·simp only [Bool.false_eq_true, if_false, AV.val]; rw [h i, hm]; rfl
  ·simp only [if_true, AV.val]; rw [h i, hm]; rfl
 | .agg l, hx => by simp only [AV.tr, AV.val]; rw [AV.vals_tr h l (by simpa [AV.trOk] using hx)]
 | .tup l, hx => by simp only [AV.tr, AV.val]; rw [AV.vals_tr h l (by simpa [AV.trOk] using hx)]
 | .fn _ l, hx => by simp only [AV.tr, AV.val]; rw [AV.vals_tr h l (by simpa [AV.trOk] using hx)]
 | .bm _ l, hx => by simp only [AV.tr, AV.val]; rw [AV.vals_tr h l (by simpa [AV.trOk] using hx)]
 | .tref i, hx => by
  simp only [AV.trOk, bV2] at hx
  simp only [AV.tr, AV.val]; rw [h i, hx]; rfl
theorem AV.vals_tr {ρ ρ' : Nat → Value} {M : List Ln} (h : ∀ i, ρ' i = if (o9 M i).isT then t5 (ρ i) else ρ i) : ∀ (l : List AV), AV.trOkL M l = true → AV.vals ρ (AV.trL M l) = AV.vals ρ' l
 | [], _ => rfl
 | x :: r, hx => by
  simp only [AV.trOkL, bU8] at hx
  simp only [AV.trL, AV.vals]; rw [AV.val_tr h x hx.1, AV.vals_tr h r hx.2]
end
def o6 (M : List Ln) : Ln → It → It
 | .row e, .dat d => .row e d
 | .tree, .dat d => .tree d
 | .no, .box cs => .box (AV.trL M cs)
 | _, x => x
def B7 (M : List Ln) (S : List It) : List It := (bW6 S.length).map fun i => o6 M (o9 M i) (i9 S i)
theorem J0 (M : List Ln) (S : List It) (i : Nat) : i9 (B7 M S) i = o6 M (o9 M i) (i9 S i) := by
 unfold B7
 rcases bY0 i S.length with h | h
 ·conv => lhs; rw [i9, bU9, List.getElem?_map, List.getElem?_range h]
  rfl
 ·rw [l6 (by simpa using h), l6 h]
  cases o9 M i <;> rfl
def aP0 : D → Bool
 | .rows _ => false
 | .brows _ => false
 | .exprs _ => false
 | .stmts _ => false
 | _ => true
theorem a43 {w w' : World} {φ φ' : Nat → Prop} {d : D} {xs : List Value} (hd : aP0 d = true) (h : RW w φ d xs) : RW w' φ' d xs := by
 intro i hi j x hx
 obtain ⟨u, h1, h2⟩ := h i hi j x hx
 refine ⟨u, h1, ?_⟩
 have : ∃ y, x = .v y := by
  have hm := bX1 hx
  cases d <;> simp only [aP0, Bool.false_eq_true] at hd <;> simp [D.elem, aV8, af2] at hm
  ·exact ⟨_, hm⟩
  ·exact ⟨_, hm⟩
  ·exact ⟨_, hm⟩
  ·exact ⟨_, hm⟩
  ·rcases hm with h | h | h | h | h <;> exact ⟨_, h⟩
  ·rcases hm with h | h <;> exact ⟨_, h⟩
 obtain ⟨y, rfl⟩ := this
 exact h2
def aH2 (M : List Ln) (l : Ln) (p x : It) : Bool :=
 match l with
 | .no => match x with
  | .dat _ => (match p with | .dat _ => true | _ => false)
  | .row _ d => aP0 d
  | .box cs => AV.trOkL M cs
  | .kept _ _ => false
  | .hole _ _ _ => false
  | _ => true
 | .row _ => (match p, x with | .dat d, .dat _ => aP0 d | _, _ => false)
 | .tree => (match p, x with | .dat d, .dat _ => (ac3 d).isSome | _, _ => false)
def bf5 (M : List Ln) (l : Ln) (p : It) : Bool :=
 match l, p with
 | .no, .box cs => AV.trOkL M cs
 | .no, .hole _ _ _ => false
 | _, _ => true
def bh4 (M : List Ln) (c : d9) : Bool :=
 decide (M.length ≤ c.pre.length) && decide (c.pre.length ≤ c.post.length) && AV.trOkL M c.args && c.res.trOk M && (bW6 c.post.length).all (fun i => aH2 M (o9 M i) (i9 c.pre i) (i9 c.post i)) && (bW6 c.pre.length).all fun i => bf5 M (o9 M i) (i9 c.pre i)
def Rs.snap (w : World) (r : Rs) : Rs := .own r.blk fun w' => ∀ b, r.blk b → b < w.heap.size → w'.heap[b]? = w.heap[b]?
theorem Rs.snap_holds {w : World} {φ φ' : Nat → Prop} {r : Rs} (h : r.holds w φ) : (r.snap w).holds w φ' := by
 refine ⟨fun w1 w2 h1 h2 b hb hlt => ?_, fun b _ _ => rfl, fun b hb => Rs.lt h hb⟩
 have h3 := h1 b hb hlt
 rw [h2 b hb, h3]
 have : (w1.heap[b]?).isSome = true := by rw [h3, Array.getElem?_eq_getElem hlt]; rfl
 obtain ⟨o, ho⟩ := bY5.1 this
 exact (Array.getElem?_eq_some_iff.1 ho).1
theorem aI2 : ∀ {P X : List It} {i : Nat} {d e : D}, al3 P X = al2 P X → i9 P i = .dat d → i9 X i = .dat e → d = e
 | P, X, i, d, e, h, h1, h2 => by
  have hp : P[i]? = some (.dat d) := by
   rcases bY0 i P.length with hl | hl
   ·rw [Y4 hl] at h1; rw [bV0 hl, h1]
   ·rw [l6 hl] at h1; cases h1
  have hx : X[i]? = some (.dat e) := by
   rcases bY0 i X.length with hl | hl
   ·rw [Y4 hl] at h2; rw [bV0 hl, h2]
   ·rw [l6 hl] at h2; cases h2
  exact bD4 h hp hx
theorem d9.lend0 {P : Program} {c : d9} (hc : c.ok P) (M : List Ln) (hb : bh4 M c = true) (he : al3 c.pre c.post = al2 c.pre c.post) : d9.ok P ⟨c.f, AV.trL M c.args, B7 M c.pre, B7 M c.post, c.res.tr M⟩ := by
 simp only [bh4, bU8, decide_eq_true_eq] at hb
 obtain ⟨⟨⟨⟨⟨hM, hle⟩, hargs⟩, hres⟩, hpost⟩, hpre⟩ := hb
 have hno : ∀ i, c.pre.length ≤ i → o9 M i = .no := fun i hi => by
  unfold o9; rw [bU9, bW7 (by omega)]; rfl
 have hpo : ∀ i, aH2 M (o9 M i) (i9 c.pre i) (i9 c.post i) = true := fun i => by
  rcases bY0 i c.post.length with h | h
  ·exact bV4.1 hpost i (List.mem_range.2 h)
  ·rw [hno i (by omega), l6 h]; rfl
 have hpr : ∀ i, bf5 M (o9 M i) (i9 c.pre i) = true := fun i => by
  rcases bY0 i c.pre.length with h | h
  ·exact bV4.1 hpre i (List.mem_range.2 h)
  ·rw [hno i h, l6 h]; rfl
 intro ι φ ψ w0 w F ρ MM
 let ρ1 : Nat → Value := fun i => if (o9 M i).isT then t5 (ρ i) else ρ i
 have hρ1 : ∀ i, ρ1 i = if (o9 M i).isT then t5 (ρ i) else ρ i := fun _ => rfl
 let F1 : ι → Rs := fun i => (F i).snap w
 have hLi : ∀ i, j1 F ρ (i9 (B7 M c.pre)) (.inl i) = F i := fun _ => rfl
 have hLj : ∀ j, j1 F ρ (i9 (B7 M c.pre)) (.inr j) = (o6 M (o9 M j) (i9 c.pre j)).res ρ j := fun j => by simp only [j1]; rw [J0]
 generalize hL : j1 F ρ (i9 (B7 M c.pre)) = L at MM hLi hLj
 have h1j : ∀ j, o9 M j = .no → (i9 c.pre j).res ρ1 j = L (.inr j) := fun j hl => by
  rw [hLj, hl]
  have hp := hpr j
  have e : ρ1 j = ρ j := by rw [hρ1, hl]; rfl
  cases hx : i9 c.pre j with
  | none => rfl
  | dead => rfl
  | dat d => simp only [o6, It.res]; rw [e]
  | row e' d => simp only [o6, It.res]; rw [e]
  | tree d => simp only [o6, It.res]; rw [e]
  | kept e' d => cases e' <;> (simp only [o6, It.res]; rw [e])
  | hole k i ls => rw [hl, hx] at hp; cases hp
  | box cs =>
   rw [hl, hx] at hp
   simp only [bf5] at hp
   simp only [o6, It.res]
   rw [e, AV.vals_tr hρ1 cs hp]
 have hlent : ∀ j, o9 M j ≠ .no → (∃ d, i9 c.pre j = .dat d ∧ i9 c.post j = .dat d ∧ ((∃ e, o9 M j = .row e ∧ aP0 d = true) ∨ o9 M j = .tree)) := fun j hj => by
  have h := hpo j
  cases hl : o9 M j with
  | no => exact absurd hl hj
  | row e =>
   rw [hl] at h
   simp only [aH2] at h
   split at h
   ·rename_i d d' h1 h2
    exact ⟨d, h1, by rw [h2, ← aI2 he h1 h2], .inl ⟨e, rfl, h⟩⟩
   ·cases h
  | tree =>
   rw [hl] at h
   simp only [aH2] at h
   split at h
   ·rename_i d d' h1 h2
    exact ⟨d, h1, by rw [h2, ← aI2 he h1 h2], .inr rfl⟩
   ·cases h
 have hsub : ∀ k b, (j1 F1 ρ1 (i9 c.pre) k).blk b → (L k).blk b ∧ ∀ j, k = .inr j → o9 M j = .no := fun k b hb => by
  cases k with
  | inl i => rw [hLi]; exact ⟨hb, fun j h => by cases h⟩
  | inr j =>
   by_cases hl : o9 M j = .no
   ·simp only [j1] at hb
    rw [h1j j hl] at hb
    exact ⟨hb, fun j' h => by cases h; exact hl⟩
   ·obtain ⟨d, h1, _⟩ := hlent j hl
    simp only [j1, h1, It.res] at hb
    exact hb.elim
 have hfr1 : ∀ b, O0 φ L b → O0 φ (j1 F1 ρ1 (i9 c.pre)) b := fun b hb => ⟨hb.1, fun k hk => hb.2 k (hsub k b hk).1⟩
 let ψ1 : Nat → Prop := fun b => ∀ k, ¬ (j1 F1 ρ1 (i9 c.pre) k).blk b
 have M1 : e7 φ ψ1 w w (j1 F1 ρ1 (i9 c.pre)) := by
  refine ⟨v7.refl _ _, fun b hb => MM.fresh b (bW4 MM.size hb), fun k => ?_, fun k k' b hkk h1 h2 => MM.dis k k' b hkk (hsub k b h1).1 (hsub k' b h2).1, fun k b h1 => .inr fun h => h k h1, fun k b h1 => MM.ph k b (hsub k b h1).1⟩
  cases k with
  | inl i => exact Rs.snap_holds (show (F i).holds w _ from by rw [← hLi i]; exact MM.holds (.inl i))
  | inr j =>
   by_cases hl : o9 M j = .no
   ·simp only [j1]
    rw [h1j j hl]
    exact Rs.keep (MM.holds (.inr j)) (W4.mono fun b _ hf => hfr1 b hf) fun _ _ => rfl
   ·obtain ⟨d, h1, h2, h3⟩ := hlent j hl
    have hh := MM.holds (.inr j)
    have hown : ∀ b, (L (.inr j)).blk b → O0 φ (j1 F1 ρ1 (i9 c.pre)) b := fun b hb => ⟨MM.ph _ _ hb, fun k hk => by
     obtain ⟨q1, q2⟩ := hsub k b hk
     by_cases e : k = .inr j
     ·exact hl (q2 j e)
     ·exact MM.dis k (.inr j) b e q1 hb⟩
    simp only [j1, h1, It.res]
    refine ⟨RD.nice _ _, ?_⟩
    rcases h3 with ⟨e, h3, hflat⟩ | h3
    ·rw [hLj, h3, h1] at hh
     simp only [o6, It.res] at hh
     obtain ⟨_, xs, o1, o2⟩ := hh
     have e1 : ρ1 j = ρ j := by rw [hρ1, h3]; rfl
     rw [e1]
     refine RD.make (s6 o1 fun g hg => hown g ?_) (a43 hflat o2)
     rw [hLj, h3, h1]; exact hg
    ·rw [hLj, h3, h1] at hh
     simp only [o6, It.res] at hh
     have e1 : ρ1 j = t5 (ρ j) := by rw [hρ1, h3]; rfl
     rw [e1]
     refine w6.read hh.2.1 fun b hb => hown b ?_
     rw [hLj, h3, h1]; exact hb
 simp only
 rw [AV.vals_tr hρ1 c.args hargs]
 refine (hc ι φ ψ1 w w F1 ρ1 M1).mono ?_
 rintro x w' ⟨ρ2, g1, g2, M2⟩
 have hplen : (B7 M c.pre).length = c.pre.length := by simp [B7]
 let ρ' : Nat → Value := fun j => if j < c.pre.length then ρ j else ρ2 j
 have hρ' : ∀ j, ρ2 j = if (o9 M j).isT then t5 (ρ' j) else ρ' j := fun j => by
  show _ = if (o9 M j).isT then t5 (if j < c.pre.length then ρ j else ρ2 j) else (if j < c.pre.length then ρ j else ρ2 j)
  rcases bY0 j c.pre.length with h | h
  ·rw [if_pos h, g1 j h]
  ·rw [hno j h]
   exact (if_neg (Nat.not_lt.2 h)).symm
 have hρo : ∀ j, o9 M j ≠ .no → ρ' j = ρ j := fun j hj => by
  rcases bY0 j c.pre.length with h | h
  ·exact if_pos h
  ·exact absurd (hno j h) hj
 refine ⟨ρ', fun i hi => if_pos (by rw [hplen] at hi; exact hi), by rw [AV.val_tr hρ' c.res hres]; exact g2, ?_⟩
 have hL'j : ∀ j, j1 F ρ' (i9 (B7 M c.post)) (.inr j) = (o6 M (o9 M j) (i9 c.post j)).res ρ' j := fun j => by simp only [j1]; rw [J0]
 have hL'i : ∀ i, j1 F ρ' (i9 (B7 M c.post)) (.inl i) = F i := fun _ => rfl
 generalize hL' : j1 F ρ' (i9 (B7 M c.post)) = L' at hL'j hL'i
 have hL2j : ∀ j, o9 M j = .no → L' (.inr j) = j1 F1 ρ2 (i9 c.post) (.inr j) := fun j hl => by
  rw [hL'j, hl]
  have hp := hpo j
  have e : ρ2 j = ρ' j := by rw [hρ', hl]; rfl
  simp only [j1]
  cases hx : i9 c.post j with
  | none => rfl
  | dead => rfl
  | dat d => simp only [o6, It.res]; rw [e]
  | row e' d => simp only [o6, It.res]; rw [e]
  | tree d => simp only [o6, It.res]; rw [e]
  | kept e' d => cases e' <;> (simp only [o6, It.res]; rw [e])
  | hole k i ls => rw [hl, hx] at hp; cases hp
  | box cs =>
   rw [hl, hx] at hp
   simp only [aH2] at hp
   simp only [o6, It.res]
   rw [e, AV.vals_tr hρ' cs hp]
 have hlj : ∀ j, o9 M j ≠ .no → L' (.inr j) = L (.inr j) := fun j hl => by
  obtain ⟨d, h1, h2, h3⟩ := hlent j hl
  rw [hL'j, hLj, h1, h2]
  rcases h3 with ⟨e, h3, _⟩ | h3
  ·rw [h3]; simp only [o6, It.res]; rw [hρo j hl]
  ·rw [h3]; simp only [o6, It.res]; rw [hρo j hl]
 have hin : ∀ b, b < w.heap.size → ¬ ψ1 b → ∃ k, (L k).blk b ∧ ∀ j, k = .inr j → o9 M j = .no := fun b _ hn => by
  obtain ⟨k, hk⟩ := Classical.not_forall.1 hn
  exact ⟨k, hsub k b (Classical.not_not.1 hk)⟩
 have hnew : ∀ k b, (∀ j, k = .inr j → o9 M j = .no) → (j1 F1 ρ2 (i9 c.post) k).blk b → b < w.heap.size → ∃ k', (L k').blk b ∧ ∀ j, k' = .inr j → o9 M j = .no := fun k b _ hb hlt => by
  rcases M2.ge k b hb with h | h
  ·omega
  ·exact hin b hlt h
 have hback : ∀ k b, (L' k).blk b → b < w.heap.size → ∃ k', (L k').blk b := fun k b hb hlt => by
  cases k with
  | inl i => rw [hL'i] at hb; exact ⟨.inl i, by rw [hLi]; exact hb⟩
  | inr j =>
   by_cases hl : o9 M j = .no
   ·rw [hL2j j hl] at hb
    obtain ⟨k', h1, _⟩ := hnew (.inr j) b (fun j' h => by cases h; exact hl) hb hlt
    exact ⟨k', h1⟩
   ·rw [hlj j hl] at hb; exact ⟨_, hb⟩
 have hsame : ∀ b, b < w.heap.size → ψ1 b → w'.heap[b]? = w.heap[b]? := fun b h1 h2 => M2.kept.block b h1 h2
 have hagr : W4 (O0 φ L) (O0 φ L') w w' := ⟨M2.kept.size, fun b hb hf => ⟨⟨hf.1, fun k hk => let ⟨k', h1⟩ := hback k b hk hb; hf.2 k' h1⟩, hsame b hb fun k hk => (hfr1 b hf).2 k hk⟩⟩
 have hlsame : ∀ j, o9 M j ≠ .no → ∀ b, (L (.inr j)).blk b → w'.heap[b]? = w.heap[b]? := fun j hl b hb => hsame b (MM.lt hb) fun k hk => by
  obtain ⟨q1, q2⟩ := hsub k b hk
  by_cases e : k = .inr j
  ·exact hl (q2 j e)
  ·exact MM.dis k (.inr j) b e q1 hb
 have hcross : ∀ j k b, o9 M j ≠ .no → (∀ j, k = .inr j → o9 M j = .no) → (L (.inr j)).blk b → ¬ (j1 F1 ρ2 (i9 c.post) k).blk b := fun j k b hl hk h1 h2 => by
  obtain ⟨k', h3, h4⟩ := hnew k b hk h2 (MM.lt h1)
  exact MM.dis k' (.inr j) b (fun e => hl (h4 j e)) h3 h1
 refine ⟨⟨M2.kept.os.trans MM.kept.os, M2.kept.tape.trans MM.kept.tape, M2.kept.output.trans MM.kept.output, bW4 MM.size M2.kept.size, fun b hb hp => (hsame b (Nat.lt_of_lt_of_le hb MM.size) fun k hk => ?_).trans (MM.kept.block b hb hp)⟩, MM.fresh, fun k => ?_, fun k k' b hkk h1 h2 => ?_, fun k b h1 => ?_, fun k b h1 => ?_⟩
 ·rcases MM.ge k b (hsub k b hk).1 with h | h
  ·omega
  ·exact h hp
 ·cases k with
  | inl i =>
   rw [hL'i, ← hLi i]
   refine Rs.keep (MM.holds (.inl i)) hagr fun b hb => ?_
   have := (M2.holds (.inl i)).2.1 b (by rw [← hLi i]; exact hb) (MM.lt hb)
   exact this
  | inr j =>
   by_cases hl : o9 M j = .no
   ·have hh := M2.holds (.inr j)
    rw [← hL2j j hl] at hh
    have hp := hpo j
    rw [hl] at hp
    cases hx : i9 c.post j with
    | none => rw [hL'j, hl, hx]; exact Rs.none_holds _ _
    | dead => rw [hL'j, hl, hx]; exact Rs.none_holds _ _
    | box cs => rw [hL'j, hl, hx] at hh ⊢; exact hh
    | tree d => rw [hL'j, hl, hx] at hh ⊢; exact hh
    | kept e' d => rw [hx] at hp; exact absurd hp (by simp [aH2])
    | hole k i ls => rw [hx] at hp; exact absurd hp (by simp [aH2])
    | row e d =>
     rw [hx] at hp
     simp only [aH2] at hp
     rw [hL'j, hl, hx] at hh ⊢
     simp only [o6, It.res] at hh ⊢
     obtain ⟨_, xs, o1, o2⟩ := hh
     exact ⟨fun xs => RW.nice d xs, xs, o1, a43 hp o2⟩
    | dat d =>
     rw [hx] at hp
     simp only [aH2] at hp
     split at hp
     ·rename_i d' hpx
      have hd : d' = d := aI2 he hpx hx
      subst hd
      have e : L' (.inr j) = L (.inr j) := by
       rw [hL'j, hLj, hl, hx, hpx]
       simp only [o6, It.res]
       have : j < c.pre.length := by
        rcases bY0 j c.pre.length with h | h
        ·exact h
        ·rw [l6 h] at hpx; cases hpx
       rw [show ρ' j = ρ j from if_pos this]
      rw [e]
      refine Rs.keep (MM.holds (.inr j)) hagr fun b hb => ?_
      rw [hLj, hl, hpx] at hb
      exact hb.elim
     ·cases hp
   ·rw [hlj j hl]
    exact Rs.keep (MM.holds (.inr j)) hagr fun b hb => hlsame j hl b hb
 ·have key : ∀ k, (∃ j, k = .inr j ∧ o9 M j ≠ .no ∧ (L' k) = L k) ∨ ((∀ j, k = .inr j → o9 M j = .no) ∧ ∀ b, (L' k).blk b → (j1 F1 ρ2 (i9 c.post) k).blk b) := fun k => by
   cases k with
   | inl i => exact .inr ⟨(fun j h => by cases h), fun b hb => by rw [hL'i] at hb; exact hb⟩
   | inr j =>
    by_cases hl : o9 M j = .no
    ·exact .inr ⟨fun j' h => by cases h; exact hl, fun b hb => by rw [hL2j j hl] at hb; exact hb⟩
    ·exact .inl ⟨j, rfl, hl, hlj j hl⟩
  rcases key k with ⟨j, rfl, k1, k2⟩ | ⟨k1, k2⟩ <;> rcases key k' with ⟨j', rfl, k3, k4⟩ | ⟨k3, k4⟩
  ·rw [k2] at h1; rw [k4] at h2; exact MM.dis _ _ b hkk h1 h2
  ·rw [k2] at h1; exact hcross j k' b k1 k3 h1 (k4 b h2)
  ·rw [k4] at h2; exact hcross j' k b k3 k1 h2 (k2 b h1)
  ·exact M2.dis k k' b hkk (k2 b h1) (k4 b h2)
 ·cases k with
  | inl i => rw [hL'i, ← hLi i] at h1; exact MM.ge _ b h1
  | inr j =>
   by_cases hl : o9 M j = .no
   ·rw [hL2j j hl] at h1
    rcases bY0 b w.heap.size with hlt | hge
    ·obtain ⟨k', h2, _⟩ := hnew (.inr j) b (fun j' h => by cases h; exact hl) h1 hlt
     exact MM.ge k' b h2
    ·exact .inl (bW4 MM.size hge)
   ·rw [hlj j hl] at h1; exact MM.ge _ b h1
 ·cases k with
  | inl i => rw [hL'i, ← hLi i] at h1; exact MM.ph _ b h1
  | inr j =>
   by_cases hl : o9 M j = .no
   ·rw [hL2j j hl] at h1; exact M2.ph _ b h1
   ·rw [hlj j hl] at h1; exact MM.ph _ b h1
def bi2 (M : List Ln) : Ln → It → It
 | .row e, .dat d => .kept (some e) d
 | .tree, .dat d => .kept none d
 | .no, .box cs => .box (AV.trL M cs)
 | _, x => x
def bi1 (M : List Ln) (S : List It) : List It := (bW6 S.length).map fun i => bi2 M (o9 M i) (i9 S i)
theorem bh0 (M : List Ln) (S : List It) (i : Nat) : i9 (bi1 M S) i = bi2 M (o9 M i) (i9 S i) := by
 unfold bi1
 rcases bY0 i S.length with h | h
 ·conv => lhs; rw [i9, bU9, List.getElem?_map, List.getElem?_range h]
  rfl
 ·rw [l6 (by simpa using h), l6 h]
  cases o9 M i <;> rfl
theorem d9.lend {P : Program} {c : d9} (hc : c.ok P) (M : List Ln) (hb : bh4 M c = true := by kernel_rfl) (he : al3 c.pre c.post = al2 c.pre c.post := by kernel_rfl) : d9.ok P ⟨c.f, AV.trL M c.args, B7 M c.pre, bi1 M c.post, c.res.tr M⟩ :=
 d9.okPost (d9.lend0 hc M hb he) _ fun ρ i => by
  simp only
  rw [bh0, J0]
  cases o9 M i <;> cases i9 c.post i <;> rfl
section
variable {P : Program} {ι κ : Type} {φ ψ : Nat → Prop} {w0 w : World} {F : ι → Rs} {ρ ρ0 : Nat → Value} {N m n : Nat} {S : List It} {tm : List (Nat × AV)} {a : Act}
theorem e7.release {L L' : κ → Rs} (M : e7 φ ψ w0 w L) (h : ∀ k, L' k = L k ∨ ((∀ b, ¬ (L' k).blk b) ∧ ∀ φ', (∀ b, O0 φ L b → φ' b) → (∀ b, (L k).blk b → φ' b) → (L' k).holds w φ')) : e7 φ ψ w0 w L' := by
 have old : ∀ k b, (L' k).blk b → (L k).blk b := fun k b hb => by
  rcases h k with e | ⟨h1, _⟩
  ·rw [e] at hb; exact hb
  ·exact (h1 b hb).elim
 have hfr : ∀ b, O0 φ L b → O0 φ L' b := fun b hb => ⟨hb.1, fun k hk => hb.2 k (old k b hk)⟩
 refine ⟨M.kept, M.fresh, fun k => ?_, fun i j g hij h1 h2 => M.dis i j g hij (old i g h1) (old j g h2), fun i b hb => M.ge i b (old i b hb), fun i b hb => M.ph i b (old i b hb)⟩
 rcases h k with e | ⟨h1, h2⟩
 ·rw [e]; exact Rs.keep (M.holds k) (W4.mono fun b _ hf => hfr b hf) fun _ _ => rfl
 ·refine h2 _ hfr fun b hb => ⟨M.ph k b hb, fun j hj => ?_⟩
  by_cases e : j = k
  ·subst e; exact h1 b hj
  ·exact M.dis j k b e (old j b hj) hb
mutual
theorem AV.ids_tr (M : List Ln) : ∀ (x : AV), (x.tr M).ids = x.ids
 | .v _ => rfl
 | .ptr _ _ => rfl
 | .ea _ _ _ _ => rfl
 | .ref i => by simp only [AV.tr]; split <;> rfl
 | .agg l => by simp only [AV.tr, AV.ids]; exact AV.idsL_tr M l
 | .tup l => by simp only [AV.tr, AV.ids]; exact AV.idsL_tr M l
 | .fn _ l => by simp only [AV.tr, AV.ids]; exact AV.idsL_tr M l
 | .bm _ l => by simp only [AV.tr, AV.ids]; exact AV.idsL_tr M l
 | .tref _ => rfl
theorem AV.idsL_tr (M : List Ln) : ∀ (l : List AV), AV.idsL (AV.trL M l) = AV.idsL l
 | [] => rfl
 | x :: r => by simp only [AV.trL, AV.idsL]; rw [AV.ids_tr M x, AV.idsL_tr M r]
end
theorem ah3 {M : List Ln} {t : Nat} {x : AV} : ∀ {tm : List (Nat × AV)}, s0 tm t = some x → s0 (tm.map fun p => (p.1, p.2.tr M)) t = some (x.tr M) ∧ ∃ p ∈ tm, p.2 = x
 | [], h => by cases h
 | (k, y) :: r, h => by
  simp only [s0, bX9] at h ⊢
  split at h
  ·cases h; rename_i hk; rw [if_pos hk]; exact ⟨rfl, _, bW5, rfl⟩
  ·rename_i hk; rw [if_neg hk]
   obtain ⟨h1, p, h2, h3⟩ := ah3 h
   exact ⟨h1, p, bX2 _ h2, h3⟩
def bL8 (M : List Ln) (m : Nat) (S1 : List It) (tm1 : List (Nat × AV)) : Bool :=
 decide (M.length ≤ S1.length) && (bW6 S1.length).all (fun i => match o9 M i, i9 S1 i with
  | .no, .box cs => AV.trOkL M cs
  | .no, .hole _ _ _ => false
  | .no, _ => true
  | .row _, .dat _ => true
  | .tree, .dat _ => decide (m ≤ i)
  | _, _ => false) && tm1.all fun p => p.2.trOk M
theorem It.ids_lend (M : List Ln) (l : Ln) (x : It) : x.ids = [] ∨ (o6 M l x).ids = x.ids := by
 cases x with
 | box cs => cases l <;> first | exact .inr rfl | exact .inr (AV.idsL_tr M cs)
 | hole k i ls => cases l <;> exact .inr rfl
 | _ => exact .inl rfl
theorem l7.frz (G : l7 φ ψ w0 F N m ρ0 ρ S tm a w) (M : List Ln) (S1 : List It) (tm1 : List (Nat × AV)) (hb : bL8 M m S1 tm1 = true := by kernel_rfl) (hS : S = B7 M S1 := by kernel_rfl) (ht : tm = tm1.map (fun p => (p.1, p.2.tr M)) := by kernel_rfl) :
  ∃ ρ', l7 φ ψ w0 F N m ρ0 ρ' S1 tm1 a w := by
 subst hS
 subst ht
 simp only [bL8, bU8, decide_eq_true_eq] at hb
 obtain ⟨⟨hM, hall⟩, htm⟩ := hb
 have hlen : (B7 M S1).length = S1.length := by simp [B7]
 have hno : ∀ i, S1.length ≤ i → o9 M i = .no := fun i hi => by
  unfold o9; rw [bU9, bW7 (by omega)]; rfl
 have hat := fun i (hi : i < S1.length) => bV4.1 hall i (List.mem_range.2 hi)
 let ρ1 : Nat → Value := fun i => if (o9 M i).isT then t5 (ρ i) else ρ i
 have hρ1 : ∀ i, ρ1 i = if (o9 M i).isT then t5 (ρ i) else ρ i := fun _ => rfl
 have hρn : ∀ i, (o9 M i).isT = false → ρ1 i = ρ i := fun i h => by rw [hρ1, h]; rfl
 refine ⟨ρ1, G.size, G.defs, fun t x hx => ?_, fun t x hx i hi => ?_, fun j => ⟨fun i hi => ?_, fun hj => l6 hj⟩, ?_, ?_, fun i hi => ?_⟩
 ·obtain ⟨h1, p, h2, h3⟩ := ah3 (M := M) hx
  rw [G.tmv t _ h1, AV.val_tr hρ1 x (by rw [← h3]; exact bV4.1 htm p h2)]
 ·obtain ⟨h1, _⟩ := ah3 (M := M) hx
  have := G.tmi t _ h1 i (by rw [AV.ids_tr]; exact hi)
  rw [hlen] at this; exact this
 ·have h1 := (G.bd j).1 i
  rw [J0, hlen] at h1
  rcases It.ids_lend M (o9 M j) (i9 S1 j) with h | h
  ·rw [h] at hi; cases hi
  ·exact h1 (by rw [h]; exact hi)
 ·refine G.mem.release fun k => ?_
  cases k with
  | inl i => exact .inl rfl
  | inr j =>
   simp only [j1]
   rw [J0]
   rcases bY0 j S1.length with hj | hj
   case inr => rw [hno j hj, l6 hj]; exact .inl rfl
   have h1 := hat j hj
   cases hl : o9 M j with
   | no =>
    have e : ρ1 j = ρ j := hρn j (by rw [hl]; rfl)
    rw [hl] at h1
    left
    cases hx : i9 S1 j with
    | box cs =>
     rw [hx] at h1
     simp only [o6, It.res]
     rw [e, AV.vals_tr hρ1 cs h1]
    | none => rfl
    | dead => rfl
    | dat d => simp only [o6, It.res]; rw [e]
    | row e' d => simp only [o6, It.res]; rw [e]
    | tree d => simp only [o6, It.res]; rw [e]
    | kept e' d => cases e' <;> (simp only [o6, It.res]; rw [e])
    | hole k i ls => rw [hx] at h1; cases h1
   | row e' =>
    have e : ρ1 j = ρ j := hρn j (by rw [hl]; rfl)
    rw [hl] at h1
    cases hx : i9 S1 j <;> rw [hx] at h1 <;> first | cases h1 | skip
    rename_i d
    refine .inr ⟨fun b hb => hb, fun φ' hf hown => ⟨RD.nice _ _, ?_⟩⟩
    have hh := G.mem.holds (.inr j)
    simp only [j1] at hh
    rw [J0, hl, hx] at hh
    simp only [o6, It.res] at hh
    obtain ⟨_, xs, o1, o2⟩ := hh
    rw [e]
    exact RD.make (s6 o1 fun g hg => hown g hg) (RW.nice _ _ _ _ _ _ (W4.mono fun b _ hb => hf b hb) o2)
   | tree =>
    have e : ρ1 j = t5 (ρ j) := by rw [hρ1, hl]; rfl
    rw [hl] at h1
    cases hx : i9 S1 j <;> rw [hx] at h1 <;> first | cases h1 | skip
    rename_i d
    refine .inr ⟨fun b hb => hb, fun φ' hf hown => ⟨RD.nice _ _, ?_⟩⟩
    have hh := G.mem.holds (.inr j)
    simp only [j1] at hh
    rw [J0, hl, hx] at hh
    simp only [o6, It.res] at hh
    rw [e]
    exact w6.read hh.2.1 fun b hb => hown b hb
 ·have := G.le; rw [hlen] at this; exact this
 ·have hm := G.le
  rw [hlen] at hm
  have : (o9 M i).isT = false := by
   cases hl : o9 M i with
   | no => rfl
   | row _ => rfl
   | tree =>
    have h1 := hat i (by omega)
    rw [hl] at h1
    cases hx : i9 S1 i <;> rw [hx] at h1 <;> simp at h1
    omega
  show ρ1 i = ρ0 i
  rw [hρn i this]; exact G.old i hi
end
section
variable {P : Program} {ι κ : Type} {φ ψ : Nat → Prop} {w0 w w' : World} {F : ι → Rs} {ρ ρ0 : Nat → Value}
theorem e7.grow {L L' : κ → Rs} (M : e7 φ ψ w0 w L) (hb : Below w.heap.size w w') (K : κ → Prop) (ho : ∀ k, ¬ K k → L' k = L k) (hg : ∀ k, K k → ∀ b, (L' k).blk b → w.heap.size ≤ b) (hd : ∀ j k b, j ≠ k → K j → K k → (L' j).blk b → ¬ (L' k).blk b) (h : ∀ k, K k → (L' k).holds w' (O0 φ L')) : e7 φ ψ w0 w' L' := by
 have M1 := M.call hb
 have old : ∀ k, ¬ K k → ∀ b, (L' k).blk b → b < w.heap.size := fun k hk b h1 => by rw [ho k hk] at h1; exact M.lt h1
 refine ⟨M1.kept, M.fresh, fun k => ?_, fun i j g hij h1 h2 => ?_, fun i b h1 => ?_, fun i b h1 => ?_⟩
 ·by_cases e : K k
  ·exact h k e
  ·rw [ho k e]
   refine Rs.keep (M.holds k) ⟨hb.size, fun b hl hf => ⟨⟨hf.1, fun j hj => ?_⟩, hb.block b hl⟩⟩ fun g hgx => hb.block g (M.lt hgx)
   by_cases e2 : K j
   ·have := hg j e2 b hj; omega
   ·rw [ho j e2] at hj; exact hf.2 j hj
 ·by_cases e1 : K i <;> by_cases e2 : K j
  ·exact hd i j g hij e1 e2 h1 h2
  ·have := hg i e1 g h1; have := old j e2 g h2; omega
  ·have := hg j e2 g h2; have := old i e1 g h1; omega
  ·rw [ho i e1] at h1; rw [ho j e2] at h2; exact M.dis i j g hij h1 h2
 ·by_cases e : K i
  ·exact .inl (bW4 M.size (hg i e b h1))
  ·rw [ho i e] at h1; exact M.ge i b h1
 ·by_cases e : K i
  ·exact M.fresh b (bW4 M.size (hg i e b h1))
  ·rw [ho i e] at h1; exact M.ph i b h1
end
abbrev oP (p : b8) : List It := [.row 3 (.ints p.vars), .row 3 (.ints p.arrays), .tree (.stmts p.body)]
abbrev oA (r : Nat) : AV := .agg [.ref r, .ref (r + 1), .tref (r + 2)]
theorem a68 {w : World} {φ : Nat → Prop} {v : Value} {l : List Int} (h : w.ownsRow 0 3 1 v l.length (ints l)) : (Rs.row 3 (D.ints l).sz v (D.ints l).len fun xs w φ => RW w φ (.ints l) xs).holds w φ := by
 refine ⟨fun xs => RW.nice (.ints l) xs, ints l, h, fun i hi j x hx => ?_⟩
 have hi' : i < l.length := hi
 simp only [D.elem] at hx
 have hj : j = 0 := by
  cases j with
  | zero => rfl
  | succ j => simp at hx
 subst hj
 simp at hx
 subst hx
 refine ⟨_, ?_, rfl⟩
 simp only [D.sz]
 rw [Nat.mul_one, Nat.add_zero]
 simp [ints, hi']
theorem aW7 (v : Value) (t : List Int) (w : World) (h : N5 w v t.length 1 (ints t)) (hb : t.length ≤ 1000000000000) :
  Calls Tryz.prog 21 #[v] w fun e w' => ∃ u, e = .returned u ∧ U9 w' w.heap.size w'.heap.size 3 1 u t.length (ints t) ∧ Below w.heap.size w w' := by
 obtain ⟨a, cap, rfl, hc1, hc2, hc3, -⟩ := h.open
 have hnil := fun w => Lib.run_eql_slice_nil (P := Tryz.prog) w 23 3 a t.length cap 0 0 Tryz.underlying23
 rcases a with _ | a
 ·have hn : t.length = 0 := by
   rcases Nat.eq_zero_or_pos t.length with h0 | h0
   ·exact h0
   ·obtain ⟨_, a, c, he, _, _, hx⟩ := h
    cases he
    obtain ⟨_, _, he, _⟩ := hx h0
    cases he
  have ht : t = [] := bX0 hn
  subst ht
  simp only [bX5, Option.isNone_none] at hnil
  go_enter Tryz.func21, Tryz.ntmps21
  go_wp2_with fail
  go_ret
  exact ⟨_, rfl, ⟨World.ownsRow_nil _ _ _ _, fun g hg => by cases hg⟩, Below.refl _ _⟩
 ·go_enter Tryz.func21, Tryz.ntmps21
  simp only [Option.isNone_some] at hnil
  have ba := (Below.refl w.heap.size w).alloc (bV9 _) (.cells #[] 3)
  go_wp2_with (at_builtin; refine ar4 rfl _ _ rfl Tryz.underlying23 bK9 rfl (by omega) rfl (R7 w #[] 0 1 _ rfl rfl (by omega)).1 rfl (h.below ba) bi4 (by omega) (by omega) (by simp) ?_; rintro a4 q4 w4 o4 b4 - -)
  go_ret
  refine ⟨_, rfl, U9.mk' (by simpa using o4), ba.trans b4⟩
theorem an4 (l : List Int) (hb : l.length ≤ 1000000000000) : d9.ok Tryz.prog ⟨21, [.ref 0], [.dat (.ints l)], [.dat (.ints l), .row 3 (.ints l)], .ref 1⟩ := by
 intro ι φ ψ w0 w F ρ M
 have hr := M.datAt (id := 0) (d := .ints l) rfl
 refine (aW7 (ρ 0) l w (r9.row hr) hb).mono ?_
 rintro e w' ⟨u, rfl, ⟨ho, hg⟩, hbl⟩
 refine ⟨fun i => if i = 1 then u else ρ i, fun i hi => if_neg (show ¬ i = 1 by have : i < 1 := hi; omega), by simp [AV.val], ?_⟩
 refine M.grow hbl (fun k => k = .inr 1) (fun k hk => ?_) ?_ ?_ ?_
 ·cases k with
  | inl i => rfl
  | inr j =>
   match j, hk with
   | 0, _ => rfl
   | 1, h => exact absurd rfl h
   | j + 2, _ => rfl
 ·rintro k rfl b hb; exact (World.ownsRow.lt ho b hb).1
 ·rintro j k b hjk rfl rfl; exact absurd rfl hjk
 ·rintro k rfl; exact a68 (L6 ho (bY1 _))
theorem A3 (e : b7) : d9.ok Tryz.prog ⟨79, [.agg [.v (.int .i64 e.kind), .v (.int .i64 e.value), .ref 0]], [.dat (.exprs e.kids)], [.dat (.exprs e.kids)], .v (.bool (noneB e))⟩ := by
  refine t8 17 Tryz.func79 [dE e.kids] [(0, eA e 0)] fun G => ?_; refine wp_seq (e5 G c3 [0, 1] [dE e.kids, .box (eL e 0)] [(1, .ptr 1 0), (2, bA false)] fun G => b5 (wp_seq ?_)); cases h0 : (e.kind == 0)
  · have q0 := ne_of_beq_false h0; refine e5 G (z4 (fc h0 (fc (b := false) rfl fz)) (us [(4, 6, 0), (1007, 1007, 0), (9, 12, 1), (1013, 1013, 1)])) [0] [dE e.kids] [(2, bA false)] fun G => b5 (wp_ret ?_); exact l9 false G [0] (by rw [bX7]; simp [noneB, h0, q0]; done)
  ·
   have q0 := eq_of_beq h0; cases h1 : (e.value == 0)
   · have q1 := ne_of_beq_false h1; refine e5 G (z4 (fc h0 (fc h1 fz)) (us [(4, 6, 0), (1007, 1007, 0), (9, 12, 1), (1013, 1013, 1)])) [0] [dE e.kids] [(2, bA false)] fun G => b5 (wp_ret ?_); exact l9 false G [0] (by rw [bX7]; simp [noneB, h0, q0, h1, q1]; done)
   · have q1 := eq_of_beq h1; refine e5 G (z4 (fc h0 (fc h1 fz)) (us [(4, 6, 0), (1007, 1007, 0), (9, 12, 1), (1013, 1013, 1)])) [0] [dE e.kids] [(2, bA ((e.kids.length : Int) == 0))] fun G => b5 (wp_ret ?_); exact l9 ((e.kids.length : Int) == 0) G [0] (by rw [bX7]; simp [noneB, h0, q0, h1, q1]; done)
theorem Y8 (e : b7) : d9.ok Tryz.prog ⟨95, [.agg [.v (.int .i64 e.kind), .v (.int .i64 e.value), .ref 0]], [.dat (.exprs e.kids)], [.dat (.exprs e.kids)], .v (.bool (noneB e))⟩ := by
  refine t8 17 Tryz.func95 [dE e.kids] [(0, eA e 0)] fun G => ?_; refine wp_seq (e5 G c3 [0, 1] [dE e.kids, .box (eL e 0)] [(1, .ptr 1 0), (2, bA false)] fun G => b5 (wp_seq ?_)); cases h0 : (e.kind == 0)
  · have q0 := ne_of_beq_false h0; refine e5 G (z4 (fc h0 (fc (b := false) rfl fz)) (us [(4, 6, 0), (1007, 1007, 0), (9, 12, 1), (1013, 1013, 1)])) [0] [dE e.kids] [(2, bA false)] fun G => b5 (wp_ret ?_); exact l9 false G [0] (by rw [bX7]; simp [noneB, h0, q0]; done)
  ·
   have q0 := eq_of_beq h0; cases h1 : (e.value == 0)
   · have q1 := ne_of_beq_false h1; refine e5 G (z4 (fc h0 (fc h1 fz)) (us [(4, 6, 0), (1007, 1007, 0), (9, 12, 1), (1013, 1013, 1)])) [0] [dE e.kids] [(2, bA false)] fun G => b5 (wp_ret ?_); exact l9 false G [0] (by rw [bX7]; simp [noneB, h0, q0, h1, q1]; done)
   · have q1 := eq_of_beq h1; refine e5 G (z4 (fc h0 (fc h1 fz)) (us [(4, 6, 0), (1007, 1007, 0), (9, 12, 1), (1013, 1013, 1)])) [0] [dE e.kids] [(2, bA ((e.kids.length : Int) == 0))] fun G => b5 (wp_ret ?_); exact l9 ((e.kids.length : Int) == 0) G [0] (by rw [bX7]; simp [noneB, h0, q0, h1, q1]; done)
theorem ab1 (k : Int) : d9.ok Tryz.prog ⟨105, [.v (.int .i64 k)], [], [], .v (.int .i64 (j2 k))⟩ := by
  refine t8 23 Tryz.func105 [] [(0, iA k)] fun G => ?_; refine wp_seq (d8 G c3 [(2, iA 0)] fun G => b5 (wp_seq (wp_block (wp_seq ?_)))); cases h0 : (k == 1)
  ·
   have q0 := ne_of_beq_false h0; refine d8 G (z4 (fc h0 fz) [(3, 0), (4, 0), (1005, 0)]) [(3, bA (k == 2))] fun G => b5 (I1 G (fun h1 q1 => ?_) fun h1 q1 => ?_)
   ·
    refine wp_seq (d8 G c3 [(10, bA (k == 3))] fun G => b5 (I1 G (fun h2 q2 => ?_) fun h2 q2 => ?_))
    ·
     refine wp_seq ?_; cases h3 : (decide (k ≥ 4))
     ·
      have q3 := P3 h3; refine d8 G (z4 (fc h3 fz) [(3, 0), (4, 0), (1005, 0)]) [(13, bA false)] fun G => b5 (rF G false (by kernel_rfl) (wp_seq (w5 G c3 [(2, iA 0), (20, bA (k == 11))] fun G => b5 ?_))); cases h4 : (k == 11)
      · have q4 := ne_of_beq_false h4; refine rF G _ h4 (wp_skip (j0 (b5 (wp_seq (d8 G c3 [(2, iA (-1))] fun G => b5 (wp_ret ?_)))))); exact J8 (-1) G [] (by unfold j2; (repeat' split) <;> omega)
      · have q4 := eq_of_beq h4; exact False.elim (by omega)
     ·
      have q3 := P2 h3; refine d8 G (z4 (fc h3 fz) [(3, 0), (4, 0), (1005, 0)]) [(13, bA (decide (k ≤ 10)))] fun G => b5 (H2 G (fun h5 q5 => ?_) fun h5 q5 => ?_)
      ·
       refine wp_seq (d8 G c3 [(20, bA (k == 11))] fun G => b5 (I1 G (fun h6 q6 => ?_) fun h6 q6 => ?_))
       · refine wp_skip (j0 (b5 (wp_seq (d8 G c3 [(2, iA (-1))] fun G => b5 (wp_ret ?_))))); exact J8 (-1) G [] (by unfold j2; (repeat' split) <;> omega)
       · refine wp_seq (d8 G c3 [(2, iA 3)] fun G => b5 (wp_ret (m7 (c8 ?_)))); exact J8 3 G [] (by unfold j2; (repeat' split) <;> omega)
      · refine wp_seq (d8 G c3 [(2, iA 2)] fun G => b5 (wp_ret (m7 (c8 ?_)))); exact J8 2 G [] (by unfold j2; (repeat' split) <;> omega)
    · refine wp_seq (d8 G c3 [(2, iA 1)] fun G => b5 (wp_ret (m7 (c8 ?_)))); exact J8 1 G [] (by unfold j2; (repeat' split) <;> omega)
   · refine wp_seq (d8 G c3 [] fun G => b5 (wp_ret (m7 (c8 ?_)))); exact J8 0 G [] (by unfold j2; (repeat' split) <;> omega)
  · have q0 := eq_of_beq h0; refine d8 G (z4 (fc h0 fz) [(3, 0), (4, 0), (1005, 0)]) [(3, bA true)] fun G => b5 (rT G true (by kernel_rfl) (wp_seq (d8 G c3 [] fun G => b5 (wp_ret (m7 (c8 ?_)))))); exact J8 0 G [] (by unfold j2; (repeat' split) <;> omega)
theorem aw9 (e : b7) : d9.ok Tryz.prog ⟨90, [.agg [.v (.int .i64 e.kind), .v (.int .i64 e.value), .ref 0]], [.dat (.exprs e.kids)], [.dat (.exprs e.kids)], .v (.bool (atomB e))⟩ := by
 refine t8 11 Tryz.func90 [dE e.kids] [(0, eA e 0)] fun G => ?_; refine wp_seq (e5 G c3 [0, 1] [dE e.kids, .box (eL e 0)] [(1, .ptr 1 0), (2, bA false)] fun G => b5 (wp_seq ?_)); cases h0 : (e.kind == 1)
 ·have q0 := ne_of_beq_false h0; refine e5 G (z4 (fc h0 fz) [(4, 0), (5, 0), (6, 0), (1007, 0)]) [0] [dE e.kids] [(2, bA (e.kind == 2))] fun G => b5 (wp_ret ?_); exact l9 (e.kind == 2) G [0] (by rw [bX7]; simp [atomB, h0, q0]; done)
 ·have q0 := eq_of_beq h0; refine e5 G (z4 (fc h0 fz) [(4, 0), (5, 0), (6, 0), (1007, 0)]) [0] [dE e.kids] [(2, bA true)] fun G => b5 (wp_ret ?_); exact l9 true G [0] (by rw [bX7]; simp [atomB, h0, q0]; done)
theorem a91 (vs ars : List Int) (b : List b6) (k : Int) : d9.ok Tryz.prog ⟨106, [.agg [.ref 0, .ref 1, .ref 2], .v (.int .i64 k)], [.dat (.ints vs), .dat (.ints ars), .dat (.stmts b)], [.dat (.ints vs), .dat (.ints ars), .dat (.stmts b)], .v (.int .i64 (y8 vs.length ars.length k))⟩ := by
  refine t8 18 Tryz.func106 [dI vs, dI ars, dT b] [(0, pA 0), (1, iA k)] fun G => ?_; refine wp_seq (e5 G c3 (rg 4) [dI vs, dI ars, dT b, .box (pL 0)] [(1, iA k), (2, .ptr 3 0), (4, iA 0)] fun G => b5 (wp_seq (wp_seq (d8 G c3 [(5, iA k)] fun G => b5 (wp_block (wp_seq (d8 G c3 [(6, bA (k == 1))] fun G => b5 (I1 G (fun h0 q0 => ?_) fun h0 q0 => ?_))))))))
  ·
   refine wp_seq (d8 G c3 [(8, bA (k == 2))] fun G => b5 (I1 G (fun h1 q1 => ?_) fun h1 q1 => ?_))
   ·
    refine wp_seq (d8 G c3 [(13, bA (k == 3))] fun G => b5 (I1 G (fun h2 q2 => ?_) fun h2 q2 => ?_))
    · refine wp_skip (j0 (b5 (wp_seq (e5 G c3 [0, 1, 2] [dI vs, dI ars, dT b] [(4, iA 1)] fun G => b5 (wp_ret ?_))))); exact J8 1 G [0, 1, 2] (by unfold y8; (repeat' split) <;> omega)
    · refine wp_seq (e5 G c3 [0, 1, 2] [dI vs, dI ars, dT b] [(4, iA (ars.length : Int))] fun G => b5 (wp_ret (m7 (c8 ?_)))); exact J8 ((ars.length : Int)) G [0, 1, 2] (by unfold y8; (repeat' split) <;> omega)
   · refine wp_seq (e5 G c3 [0, 1, 2] [dI vs, dI ars, dT b] [(4, iA (vs.length : Int))] fun G => b5 (wp_ret (m7 (c8 ?_)))); exact J8 ((vs.length : Int)) G [0, 1, 2] (by unfold y8; (repeat' split) <;> omega)
  · refine wp_seq (e5 G c3 [0, 1, 2] [dI vs, dI ars, dT b] [(4, iA 256)] fun G => b5 (wp_ret (m7 (c8 ?_)))); exact J8 256 G [0, 1, 2] (by unfold y8; (repeat' split) <;> omega)
theorem aj3 {α : Type} {l : List α} {k : Nat} {p : α → Bool} {z : α} (h : (l.take k).all p = true) (hk : k < l.length) (hp : p (l.getD k z) = true) : (l.take (k + 1)).all p = true := by
 rw [Q6 p l k hk, h, ← f8 (d := z) hk, hp]; rfl
theorem ay0 {α : Type} {l : List α} {k : Nat} {p : α → Bool} (h : (l.take k).all p = true) (hk : l.length ≤ k) : l.all p = true := by
 rw [bV8 hk] at h; exact h
section
variable {nv na d : Nat} {e : b7}
theorem bp0 (h : ¬ (e.kids.length : Int) = j2 e.kind) : c4 nv na (d + 1) e = false := by simp [c4, s5, h]
theorem bo9 (h : e.value < 0) : c4 nv na (d + 1) e = false := by
 have : ¬ 0 ≤ e.value := by omega
 simp [c4, s5, this]
theorem bo8 (h : y8 nv na e.kind ≤ e.value) : c4 nv na (d + 1) e = false := by
 have : ¬ e.value < y8 nv na e.kind := by omega
 simp [c4, s5, this]
theorem bo7 {k : Nat} {z : b7} (hk : k < e.kids.length) (h : c4 nv na d (e.kids.getD k z) = false) : c4 nv na (d + 1) e = false := by
 rw [f8 hk] at h
 have : e.kids.all (c4 nv na d) = false := ao7 hk h
 simp [c4, this]
theorem aT7 (h1 : (e.kids.length : Int) = j2 e.kind) (h2 : ¬ e.value < 0) (h3 : ¬ y8 nv na e.kind ≤ e.value) : s5 nv na e = true := by
 unfold s5; rw [decide_eq_true h1, decide_eq_true (by omega), decide_eq_true (by omega)]; rfl
theorem bo6 (hn : s5 nv na e = true) (ha : e.kids.all (c4 nv na d) = true) (h : ¬ e.kind = 3) : c4 nv na (d + 1) e = true := by
 rw [c4, hn, ha]; simp [I7, h]
theorem bo5 (hn : s5 nv na e = true) (ha : e.kids.all (c4 nv na d) = true) (h : e.kind = 3) (hl : 0 < e.kids.length) : c4 nv na (d + 1) e = atomB (e.kids.getD 0 bU7) := by
 rw [c4, hn, ha, aB4 h hl, f8 hl]; simp [atomB]
theorem aD2 (h1 : (e.kids.length : Int) = j2 e.kind) (h : e.kind = 3) : 0 < e.kids.length := by
 rw [h] at h1; simp [j2] at h1; omega
end
theorem aX7 (vs ars : List Int) (b : List b6) (e : b7) (n : Int) (hn : n = 0) : d9.ok Tryz.prog ⟨96, [.agg [.ref 0, .ref 1, .ref 2], .agg [.v (.int .i64 e.kind), .v (.int .i64 e.value), .ref 3], .v (.int .i64 n)], [.dat (.ints vs), .dat (.ints ars), .dat (.stmts b), .dat (.exprs e.kids)], [.dat (.ints vs), .dat (.ints ars), .dat (.stmts b), .dat (.exprs e.kids)], .v (.bool (c4 vs.length ars.length 0 e))⟩ := by
 have h100 : decide (n < 1) = true := by simp; omega
 refine t8 60 Tryz.func96 [dI vs, dI ars, dT b, dE e.kids] [(0, pA 0), (1, eA e 3), (2, iA n)] fun G => ?_; refine wp_seq (e5 G c3 [0, 1, 2, 3, 4, 12] [dI vs, dI ars, dT b, dE e.kids, .box (pL 0), .box (eL e 3)] [(2, iA n), (3, .ptr 4 0), (4, .ptr 5 0), (6, bA false)] fun G => b5 (wp_seq (wp_seq (a69 G (z4 (fc (a := decide (n < 1)) (b := true) (by assumption) (fc (b := true) rfl fz)) (us [(3, 9, 0), (1010, 1010, 0), (12, 14, 1), (1015, 1015, 1), (17, 23, 1), (1024, 1024, 1)])) [0, 1, 3, 7, 15, 31, 7, 71, 199, 511, 1023, 2047, 4095, 8191, 16383, 32767, 65535, 131071, 262143, 131071, 131071, 1179647, 3801087, 8388607, 16777215] [(32, bA true)] fun G => b5 (rT G true (by kernel_rfl) (wp_seq (d8 G c3 [] fun G => b5 (wp_ret (c8 ?_))))))))); exact A0 G (rg 4)
theorem aX6 (vs ars : List Int) (b : List b6) (d : Nat) (hd : d ≤ 5) (ih : ∀ (e : b7) (n : Int), n = d → d9.ok Tryz.prog ⟨96, [.agg [.ref 0, .ref 1, .ref 2], .agg [.v (.int .i64 e.kind), .v (.int .i64 e.value), .ref 3], .v (.int .i64 n)], [.dat (.ints vs), .dat (.ints ars), .dat (.stmts b), .dat (.exprs e.kids)], [.dat (.ints vs), .dat (.ints ars), .dat (.stmts b), .dat (.exprs e.kids)], .v (.bool (c4 vs.length ars.length d e))⟩)
    (e : b7) (n : Int) (hn : n = (d + 1 : Nat)) : d9.ok Tryz.prog ⟨96, [.agg [.ref 0, .ref 1, .ref 2], .agg [.v (.int .i64 e.kind), .v (.int .i64 e.value), .ref 3], .v (.int .i64 n)], [.dat (.ints vs), .dat (.ints ars), .dat (.stmts b), .dat (.exprs e.kids)], [.dat (.ints vs), .dat (.ints ars), .dat (.stmts b), .dat (.exprs e.kids)], .v (.bool (c4 vs.length ars.length (d + 1) e))⟩ := by
  have h100 : decide (n < 1) = false := by simp; omega
  refine t8 60 Tryz.func96 [dI vs, dI ars, dT b, dE e.kids] [(0, pA 0), (1, eA e 3), (2, iA n)] fun G => ?_; refine wp_seq (e5 G c3 [0, 1, 2, 3, 4, 12] [dI vs, dI ars, dT b, dE e.kids, .box (pL 0), .box (eL e 3)] [(2, iA n), (3, .ptr 4 0), (4, .ptr 5 0), (6, bA false)] fun G => b5 (wp_seq (wp_seq ?_))); cases h0 : ((e.kids.length : Int) != j2 e.kind)
  ·
   have q0 := bne_eq_false_iff_eq.1 h0; cases h1 : (decide (e.value < 0))
   ·
    have q1 := P3 h1; refine a69 G (m5 (f6 8 [] (ab1 e.kind) (f6 22 [0, 1, 2] (a91 vs ars b e.kind) m0)) (fc (a := decide (n < 1)) (b := false) (by assumption) (fc h0 (fc h1 fz))) (us [(3, 9, 0), (1010, 1010, 0), (12, 14, 1), (1015, 1015, 1), (17, 23, 2), (1024, 1024, 2)])) [0, 1, 3, 7, 15, 31, 7, 71, 199, 511, 1023, 2047, 4095, 8191, 16383, 32767, 65535, 131071, 262143, 131071, 131071, 1179647, 3801087, 8388607, 16777215] [(32, bA (decide (e.value ≥ y8 vs.length ars.length e.kind)))] fun G => b5 (H2 G (fun h2 q2 => ?_) fun h2 q2 => ?_)
    ·
     refine wp_skip (b5 (wp_seq (wp_seq (w5 G c3 [(2, iA n), (3, .ptr 4 0), (4, .ptr 5 0), (6, bA false), (7, iA 0)] fun G => b5 (wp_block ?_))))); refine l0 (κ := Nat) (fun k => k ≤ e.kids.length ∧ (e.kids.take k).all (c4 vs.length ars.length d) = true) (fun k => e.kids.length - k) (fun k => [dI vs, dI ars, dT b, dE e.kids, .box (pL 0), .box (eL e 3)]) (fun k => [(2, iA n), (3, .ptr 4 0), (4, .ptr 5 0), (6, bA false), (7, iA k)]) 0 (by simp [h100, h0, h1, h2]) (l7.at G _ _) ?_; clear G; intro k ρ a w hp G; have hlen : e.kids.length ≤ 9223372036854775807 := G.len 3 (d := .exprs e.kids) (by kernel_rfl); have hnode := aT7 (nv := vs.length) (na := ars.length) q0 q1 q2; refine wp_seq (wp_seq (w5 G c3 [(2, iA n), (3, .ptr 4 0), (4, .ptr 5 0), (6, bA false), (7, iA k), (37, bA (decide ((k : Int) < e.kids.length)))] fun G => b5 (H2 G (fun h3 q3 => ?_) fun h3 q3 => ?_)))
     ·
      refine wp_exit (k6 (k6 (j8 (b5 (wp_seq ?_))))); cases h4 : (e.kind != 3)
      · have q4 := bne_eq_false_iff_eq.1 h4; refine L5 G (m5 (f6 8 [62] (aw9 (e.kids.getD 0 bU7)) m0) (fc h4 fz) (us [(4, 8, 0), (1009, 1009, 0)])) (rg 4) [dI vs, dI ars, dT b, dE e.kids] [(6, bA (atomB (e.kids.getD 0 bU7)))] (iX 0 0 e.kids.length []) (iK (by have := aD2 q0 (by omega); omega) bW1) fun G => b5 (wp_ret ?_); exact l9 (atomB (e.kids.getD 0 bU7)) G (rg 4) (bo5 hnode (ay0 hp.2 (by omega)) (by omega) (aD2 q0 (by omega)))
      · have q4 := bne_iff_ne.1 h4; refine e5 G (z4 (fc h4 fz) (us [(4, 8, 0), (1009, 1009, 0)])) (rg 4) [dI vs, dI ars, dT b, dE e.kids] [(6, bA true)] fun G => b5 (wp_ret ?_); exact l9 true G (rg 4) (bo6 hnode (ay0 hp.2 (by omega)) (by omega))
     ·
      refine wp_skip (b5 (wp_seq (wp_block (wp_seq (R5 G (n7 8 [0, 1, 2, 46] (ih (e.kids.getD k bU7) (n - 1) (by omega))) [0, 0, 2, 0, 14, 30, 0, 64, 255, 511] [(49, .v (.bool !c4 vs.length ars.length d (e.kids.getD k bU7)))] (iX k k e.kids.length ((wO (n - 1)) :: [])) (iK (by omega) (o1 (by omega))) fun G => b5 ?_))))); cases h5 : (!c4 vs.length ars.length d (e.kids.getD k bU7))
      · have q5 : (c4 vs.length ars.length d (e.kids.getD k bU7)) = true := (Eq.mp (bV5 _) h5); refine rF G _ h5 (wp_skip (j0 (b5 (z3 G c3 [(7, iA ((k : Int) + 1))] [wO ((k : Int) + 1)] (o1 (by omega)) fun G => b5 ?_)))); exact H9 G (k + 1) (⟨by omega, aj3 hp.2 (by omega) (by assumption)⟩) (by omega) (rg 6)
      · have q5 : (c4 vs.length ars.length d (e.kids.getD k bU7)) = false := (Eq.mp (bV2 _) h5); refine rT G _ h5 (wp_seq (d8 G c3 [] fun G => b5 (wp_ret (m7 (c8 (c8 (m7 (c8 ?_)))))))); exact l9 false G (rg 4) (bo7 (k := k) (by omega) (by assumption))
    · refine wp_seq (d8 G c3 [] fun G => b5 (wp_ret (c8 ?_))); exact l9 false G (rg 4) (bo8 (by omega))
   · have q1 := P2 h1; refine a69 G (m5 (f6 8 [] (ab1 e.kind) m0) (fc (a := decide (n < 1)) (b := false) (by assumption) (fc h0 (fc h1 fz))) (us [(3, 9, 0), (1010, 1010, 0), (12, 14, 1), (1015, 1015, 1), (17, 23, 2), (1024, 1024, 2)])) [0, 1, 3, 7, 15, 31, 7, 71, 199, 511, 1023, 2047, 4095, 8191, 16383, 32767, 65535, 131071, 262143, 131071, 131071, 1179647, 3801087, 8388607, 16777215] [(32, bA true)] fun G => b5 (rT G true (by kernel_rfl) (wp_seq (d8 G c3 [] fun G => b5 (wp_ret (c8 ?_))))); exact l9 false G (rg 4) (bo9 (by omega))
  · have q0 := bne_iff_ne.1 h0; refine a69 G (m5 (f6 8 [] (ab1 e.kind) m0) (fc (a := decide (n < 1)) (b := false) (by assumption) (fc h0 (fc (b := true) rfl fz))) (us [(3, 9, 0), (1010, 1010, 0), (12, 14, 1), (1015, 1015, 1), (17, 23, 2), (1024, 1024, 2)])) [0, 1, 3, 7, 15, 31, 7, 71, 199, 511, 1023, 2047, 4095, 8191, 16383, 32767, 65535, 131071, 262143, 131071, 131071, 1179647, 3801087, 8388607, 16777215] [(32, bA true)] fun G => b5 (rT G true (by kernel_rfl) (wp_seq (d8 G c3 [] fun G => b5 (wp_ret (c8 ?_))))); exact l9 false G (rg 4) (bp0 (by omega))
theorem aN9 (vs ars : List Int) (b : List b6) : ∀ (d : Nat), d ≤ 5 → ∀ (e : b7) (n : Int), n = d → d9.ok Tryz.prog ⟨96, [.agg [.ref 0, .ref 1, .ref 2], .agg [.v (.int .i64 e.kind), .v (.int .i64 e.value), .ref 3], .v (.int .i64 n)], [.dat (.ints vs), .dat (.ints ars), .dat (.stmts b), .dat (.exprs e.kids)], [.dat (.ints vs), .dat (.ints ars), .dat (.stmts b), .dat (.exprs e.kids)], .v (.bool (c4 vs.length ars.length d e))⟩
 | 0, _, e, n, hn => aX7 vs ars b e n (by omega)
 | d + 1, hd, e, n, hn => aX6 vs ars b d (by omega) (aN9 vs ars b d (by omega)) e n hn
theorem aw8 (vs ars : List Int) (b : List b6) (ky vy : Int) (ks : List b7) (n : Int) (hn : n = 5) : d9.ok Tryz.prog (C0 96 [pA 0, .agg [iA ky, iA vy, .ref 3], iA n] [dI vs, dI ars, dT b, dE ks] (bA (c4 vs.length ars.length 5 ⟨ky, vy, ks⟩))) := aN9 vs ars b 5 (by omega) ⟨ky, vy, ks⟩ n hn
def cnP (d : Nat) (ks : List b7) (k : Nat) : Nat := 1 + ((ks.take k).map (W2 d)).sum
theorem bN7 (d : Nat) (ks : List b7) : cnP d ks 0 = 1 := rfl
theorem aP9 {d : Nat} {ks : List b7} {k : Nat} (hk : k < ks.length) : cnP d ks (k + 1) = cnP d ks k + W2 d (ks.getD k bU7) := by
 unfold cnP
 rw [C5 ks k hk, List.map_append, List.sum_append, f8 hk]
 simp; omega
theorem bs9 {d : Nat} {e : b7} {k : Nat} (hk : e.kids.length ≤ k) : cnP d e.kids k = W2 (d + 1) e := by
 unfold cnP; rw [bV8 hk, W2]
section
variable {nv na d : Nat} {e : b7}
theorem aW5 (he : c4 nv na (d + 1) e = true) {k : Nat} (hk : k < e.kids.length) : c4 nv na d (e.kids.getD k bU7) = true := by
 rw [f8 hk]; exact (af3 he).2 _ (bW2 hk)
theorem bN6 (hd : d ≤ 5) (he : c4 nv na d e = true) : W2 d e ≤ 1024 := by
 rw [aP8 nv na d e he]
 refine bW4 (bd4 nv na d e he) ?_
 exact bW4 (Nat.pow_le_pow_right (by decide) hd) (by decide)
theorem bx8 (hd : d ≤ 4) (he : c4 nv na (d + 1) e = true) : ∀ k : Nat, k ≤ e.kids.length → cnP d e.kids k ≤ 1 + 1024 * k
 | 0, _ => by rw [bN7]; omega
 | k + 1, hk => by
  have h := bx8 hd he k (by omega)
  have h2 := bN6 (by omega) (aW5 he (show k < e.kids.length by omega))
  rw [aP9 (by omega)]
  omega
end
abbrev cnC (d : Nat) (e : b7) (n : Int) : d9 := C0 97 [eA e 0, iA n] (eS e) (iA (W2 d e : Nat))
theorem a66 (nv na d : Nat) (hd : d ≤ 4) (ih : ∀ (e : b7), c4 nv na d e = true → ∀ n : Int, n = d → d9.ok Tryz.prog (cnC d e n)) (e : b7) (he : c4 nv na (d + 1) e = true) (n : Int) (hn : n = (d + 1 : Nat)) : d9.ok Tryz.prog (cnC (d + 1) e n) := by
  have hk3 := (af3 he).1; refine t8 29 Tryz.func97 [dE e.kids] [(0, eA e 0), (1, iA n)] fun G => ?_; refine wp_seq (e5 G c3 [0, 1] [dE e.kids, .box (eL e 0)] [(1, iA n), (2, .ptr 1 0), (4, iA 0)] fun G => b5 (wp_seq (d8 G c3 [(5, iA 1)] fun G => b5 (wp_seq (wp_seq (w5 G c3 [(1, iA n), (2, .ptr 1 0), (4, iA 0), (5, iA 1), (6, iA 0)] fun G => b5 (wp_block ?_))))))); refine l0 (κ := Nat) (fun k => k ≤ e.kids.length) (fun k => e.kids.length - k) (fun k => [dE e.kids, .box (eL e 0)]) (fun k => [(1, iA n), (2, .ptr 1 0), (4, iA 0), (5, iA (cnP d e.kids k : Nat)), (6, iA k)]) 0 (by omega) (l7.at G _ _) ?_; clear G; intro k ρ a w hp G; replace G := l7.at G [dE e.kids, .box (eL e 0)] [(1, iA n), (2, .ptr 1 0), (4, iA 0), (5, iA (↑(cnP d e.kids k) : Int)), (6, iA k)]; have hcb := bx8 hd he k hp; refine wp_seq (wp_seq ?_); cases h0 : (decide ((k : Int) < e.kids.length))
  · have q0 := P3 h0; refine d8 G (z4 (fc h0 fz) [(6, 0), (7, 0), (1008, 0)]) [(15, bA false)] fun G => b5 (rF G false (by kernel_rfl) (wp_exit (k6 (k6 (j8 (b5 (wp_seq (e5 G c3 [0] [dE e.kids] [(4, iA (↑(cnP d e.kids k) : Int))] fun G => b5 (wp_ret ?_))))))))); exact J8 ((↑(cnP d e.kids k) : Int)) G [0] (by rw [← bs9 (k := k) (by omega)]; done)
  ·
   have q0 := P2 h0; refine w5 G (z4 (fc h0 fz) [(6, 0), (7, 0), (1008, 0)]) [(1, iA n), (2, .ptr 1 0), (4, iA 0), (5, iA (↑(cnP d e.kids k) : Int)), (6, iA k), (15, bA (decide (n > 0)))] fun G => b5 ?_; cases h1 : (decide (n > 0))
   · have q1 := P3 h1; exact False.elim (by omega)
   · have q1 := P2 h1; refine rT G _ h1 (wp_skip (b5 (wp_seq (wp_block (z3 G (n7 8 [42] (ih (e.kids.getD k bU7) (aW5 he (by omega)) (n - 1) (by omega))) [(5, iA ((↑(cnP d e.kids k) : Int) + (↑(W2 d (e.kids.getD k bU7)) : Int)))] (iX k k e.kids.length ((wO (n - 1)) :: ((wO ((↑(cnP d e.kids k) : Int) + (↑(W2 d (e.kids.getD k bU7)) : Int))) :: []))) (iK (by omega) ⟨oW (by omega), ⟨(by have h9 := bN6 (nv := nv) (na := na) (d := d) (by omega) (aW5 he (show k < e.kids.length by omega)); exact w64 (by omega) (by omega)), bW1⟩⟩) fun G => j0 (b5 (z3 G c3 [(6, iA ((k : Int) + 1))] [wO ((k : Int) + 1)] (o1 (by omega)) fun G => b5 ?_))))))); exact H9 G (k + 1) (by omega) (by omega) [0, 1] (ht := by have e1 : ((↑(cnP d e.kids (k + 1)) : Int) : Int) = ((↑(cnP d e.kids k) : Int) + (↑(W2 d (e.kids.getD k bU7)) : Int)) := (by rw [aP9 (by omega)]; omega); (first | rw [e1] | simp only [e1]) <;> rfl)
theorem aO0 (nv na : Nat) : ∀ (d : Nat), d ≤ 5 → ∀ (e : b7), c4 nv na d e = true → ∀ n : Int, n = d → d9.ok Tryz.prog (cnC d e n)
 | 0, _, e, h, _, _ => by simp [c4] at h
 | d + 1, hd, e, h, n, hn => a66 nv na d (by omega) (aO0 nv na d (by omega)) e h n hn
theorem aY0 (nv na : Nat) (ky vy : Int) (ks : List b7) (n : Int) (hn : n = 5) (h : c4 nv na 5 ⟨ky, vy, ks⟩ = true) : d9.ok Tryz.prog (C0 97 [.agg [iA ky, iA vy, .ref 0], iA n] [dE ks] (iA (W2 5 ⟨ky, vy, ks⟩ : Nat))) := aO0 nv na 5 (by omega) ⟨ky, vy, ks⟩ h n hn
theorem bQ4 {nv na : Nat} {e : b7} (h : c4 nv na 5 ⟨e.kind, e.value, e.kids⟩ = false) : f7 nv na e = false := by
 rw [b7.eta] at h
 unfold f7; rw [h]; rfl
theorem bQ3 {nv na : Nat} {e : b7} (h : c4 nv na 5 ⟨e.kind, e.value, e.kids⟩ = true) : f7 nv na e = decide ((W2 5 ⟨e.kind, e.value, e.kids⟩ : Int) ≤ 15) := by
 rw [b7.eta] at h ⊢
 rw [aU2, h, Bool.true_and, bX7]
 simp only [decide_eq_true_eq]; omega
section
variable {s : b6}
theorem bR1 (h : s.kind = 4) (h2 : ¬ (s.els.length : Int) = 0) : j6 s = false := by
 unfold j6; rw [if_pos (.inr h), if_pos h, decide_eq_false (p := s.els.length = 0) (by omega)]; simp
theorem bR4 (h : s.kind = 4) (h1 : s.target = 0) (h2 : (s.els.length : Int) = 0) (h3 : s.count ≥ 1) (h4 : s.count ≤ 3) (h5 : noneB s.index = true) : j6 s = noneB s.value := by
 unfold j6; rw [if_pos (.inr h), if_pos h, decide_eq_true (p := s.els.length = 0) (by omega), decide_eq_true h1, decide_eq_true (p := 1 ≤ s.count) h3, decide_eq_true h4, h5]; simp
theorem bR3 (h3 : ¬ s.kind = 3) (h4 : ¬ s.kind = 4) (b : ¬ (s.body.length : Int) > 0) (e : ¬ (s.els.length : Int) > 0) (c : s.count = 0) (h2 : ¬ s.kind = 2) : j6 s = noneB s.index := by
 unfold j6; rw [if_neg (by omega), decide_eq_true (p := s.body.length = 0) (by omega), decide_eq_true (p := s.els.length = 0) (by omega), decide_eq_true c, decide_eq_false h2]; simp
theorem bR2 (b : ¬ (s.body.length : Int) > 0) (e : ¬ (s.els.length : Int) > 0) (c : s.count = 0) (h2 : s.kind = 2) : j6 s = true := by
 unfold j6; rw [if_neg (by omega), decide_eq_true (p := s.body.length = 0) (by omega), decide_eq_true (p := s.els.length = 0) (by omega), decide_eq_true c, decide_eq_true h2]; simp
theorem bR0 (h3 : ¬ s.kind = 3) (h4 : ¬ s.kind = 4) (e : (s.els.length : Int) > 0) : j6 s = false := by
 unfold j6; rw [if_neg (by omega), decide_eq_false (p := s.els.length = 0) (by omega)]; simp
theorem bQ9 (h3 : ¬ s.kind = 3) (h4 : ¬ s.kind = 4) (e : (s.body.length : Int) > 0) : j6 s = false := by
 unfold j6; rw [if_neg (by omega), decide_eq_false (p := s.body.length = 0) (by omega)]; simp
end
theorem A7 (p : b8) (e : b7) : d9.ok Tryz.prog (C0 89 [pA 0, eA e 3] (pS p ++ eS e) (bA (f7 p.vars.length p.arrays.length e))) := by
 have hcn := fun h => aY0 p.vars.length p.arrays.length e.kind e.value e.kids 5 rfl h
 refine t8 13 Tryz.func89 [dI p.vars, dI p.arrays, dT p.body, dE e.kids] [(0, pA 0), (1, eA e 3)] fun G => ?_; refine wp_seq (e5 G c3 [0, 1, 2, 3, 4, 12] [dI p.vars, dI p.arrays, dT p.body, dE e.kids, .box (pL 0), .box (eL e 3)] [(2, .ptr 4 0), (3, .ptr 5 0), (4, bA false)] fun G => b5 (wp_seq ?_)); cases h0 : (c4 p.vars.length p.arrays.length (5 : Nat) (n4 e))
 ·refine e5 G (m5 (f6 2 (rg 4) (aw8 p.vars p.arrays p.body e.kind e.value e.kids 5 (by kernel_rfl)) m0) (fc h0 fz) [(4, 0), (5, 0), (6, 0), (1007, 0)]) (rg 4) [dI p.vars, dI p.arrays, dT p.body, dE e.kids] [(4, bA false)] fun G => b5 (wp_ret ?_); exact l9 false G (rg 4) (bQ4 (by with_reducible assumption))
 ·refine e5 G (m5 (f6 2 (rg 4) (aw8 p.vars p.arrays p.body e.kind e.value e.kids 5 (by kernel_rfl)) (f6 5 [3] (hcn (by assumption)) m0)) (fc h0 fz) [(4, 0), (5, 0), (6, 0), (1007, 0)]) (rg 4) [dI p.vars, dI p.arrays, dT p.body, dE e.kids] [(4, bA (decide ((↑(W2 5 (n4 e)) : Int) ≤ 15)))] fun G => b5 (wp_ret ?_); exact l9 (decide ((↑(W2 5 (n4 e)) : Int) ≤ 15)) G (rg 4) (bQ3 (by with_reducible assumption))
abbrev ap7 (s : b6) (r0 : List It) : List It := dE s.index.kids :: dE s.value.kids :: dT s.body :: dT s.els :: r0
theorem a90 (s : b6) : d9.ok Tryz.prog (C0 88 [sA s 0] (sS s) (bA (j6 s))) := by
  refine t8 74 Tryz.func88 (ap7 s []) [(0, sA s 0)] fun G => ?_; refine wp_seq (e5 G c3 (rg 5) (ap7 s [.box (sL s 0)]) [(1, .ptr 4 0), (2, bA false)] fun G => b5 (wp_seq ?_)); cases h0 : (s.kind == 3)
  ·
   have q0 := ne_of_beq_false h0; refine w5 G (z4 (fc h0 fz) [(4, 0), (5, 0), (6, 0), (1007, 0)]) [(1, .ptr 4 0), (2, bA false), (3, bA (s.kind == 4))] fun G => b5 (wp_seq (wp_seq ?_)); cases h1 : (!s.kind == 4)
   ·
    have q1 : s.kind = 4 := (fun hq => eq_of_beq hq) (Eq.mp (bV5 _) h1); cases h2 : (s.kind == 4)
    · have q2 := ne_of_beq_false h2; exact False.elim (by omega)
    ·
     have q2 := eq_of_beq h2; refine d8 G (z4 (fc h1 (fc (b := false) rfl (fc h2 fz))) (us [(3, 7, 0), (12, 12, 0), (1013, 1013, 0), (15, 16, 1), (17, 19, 2), (20, 20, 1), (1020, 1020, 2), (1021, 1021, 1)])) [(33, bA (s.target != 0))] fun G => b5 (rcN G (fun h3 q3 => ?_) fun h3 q3 => ?_)
     ·
      refine wp_skip (b5 (wp_seq (wp_seq (d8 G c3 [(36, bA (s.kind == 4))] fun G => b5 (rT G _ h2 (wp_seq ?_)))))); cases h4 : ((s.els.length : Int) == 0)
      · have q4 := ne_of_beq_false h4; refine d8 G (z4 (fc h4 (fc (b := false) rfl fz)) (us [(5, 7, 0), (1008, 1008, 0), (10, 12, 1), (1013, 1013, 1), (15, 17, 1), (1018, 1018, 1), (20, 22, 1), (1023, 1023, 1)])) [] fun G => b5 (wp_ret (c8 ?_)); exact l9 false G (rg 4) (bR1 (by omega) (by omega))
      ·
       have q4 := eq_of_beq h4; cases h5 : (decide (s.count ≥ 1))
       · have q5 := P3 h5; refine d8 G (z4 (fc h4 (fc h5 (fc (b := false) rfl fz))) (us [(5, 7, 0), (1008, 1008, 0), (10, 12, 1), (1013, 1013, 1), (15, 17, 2), (1018, 1018, 2), (20, 22, 2), (1023, 1023, 2)])) [] fun G => b5 (wp_ret (c8 ?_)); exact l9 false G (rg 4) (by rw [bX7]; simp [j6, h0, q0, h1, q1, h2, q2, h3, q3, h4, q4, h5, q5]; done)
       ·
        have q5 := P2 h5; cases h6 : (decide (s.count ≤ 3))
        · have q6 := P3 h6; refine d8 G (z4 (fc h4 (fc h5 (fc h6 (fc (b := false) rfl fz)))) (us [(5, 7, 0), (1008, 1008, 0), (10, 12, 1), (1013, 1013, 1), (15, 17, 2), (1018, 1018, 2), (20, 22, 3), (1023, 1023, 3)])) [] fun G => b5 (wp_ret (c8 ?_)); exact l9 false G (rg 4) (by rw [bX7]; simp [j6, h0, q0, h1, q1, h2, q2, h3, q3, h4, q4, h5, q5, h6, q6]; done)
        ·
         have q6 := P2 h6; cases h7 : (noneB s.index)
         · refine d8 G (m5 (f6 17 [0] (Y8 s.index) m0) (fc h4 (fc h5 (fc h6 (fc h7 fz)))) (us [(5, 7, 0), (1008, 1008, 0), (10, 12, 1), (1013, 1013, 1), (15, 17, 2), (1018, 1018, 2), (20, 22, 3), (1023, 1023, 3)])) [] fun G => b5 (wp_ret (c8 ?_)); exact l9 false G (rg 4) (by rw [bX7]; simp [j6, h0, q0, h1, q1, h2, q2, h3, q3, h4, q4, h5, q5, h6, q6, h7]; done)
         · refine d8 G (m5 (f6 17 [0] (Y8 s.index) (f6 22 [1] (Y8 s.value) m0)) (fc h4 (fc h5 (fc h6 (fc h7 fz)))) (us [(5, 7, 0), (1008, 1008, 0), (10, 12, 1), (1013, 1013, 1), (15, 17, 2), (1018, 1018, 2), (20, 22, 3), (1023, 1023, 3)])) [(2, bA (noneB s.value))] fun G => b5 (wp_ret (c8 ?_)); exact l9 (noneB s.value) G (rg 4) (bR4 (by omega) (by omega) (by omega) (by omega) (by omega) (by with_reducible assumption))
     · refine wp_seq (d8 G c3 [] fun G => b5 (wp_ret (c8 ?_))); exact l9 false G (rg 4) (by rw [bX7]; simp [j6, h0, q0, h1, q1, h2, q2, h3, q3]; done)
   ·
    have q1 : ¬ (s.kind = 4) := (fun hq => ne_of_beq_false hq) (Eq.mp (bV2 _) h1); cases h8 : (decide ((s.body.length : Int) > 0))
    ·
     have q8 := P3 h8; cases h9 : (decide ((s.els.length : Int) > 0))
     ·
      have q9 := P3 h9; cases h10 : (s.kind == 4)
      ·
       have q10 := ne_of_beq_false h10; refine d8 G (z4 (fc h1 (fc h8 (fc h9 (fc h10 fz)))) (us [(3, 7, 0), (8, 11, 1), (12, 12, 0), (1012, 1012, 1), (1013, 1013, 0), (15, 16, 2), (17, 19, 3), (20, 20, 2), (1020, 1020, 3), (1021, 1021, 2)])) [(33, bA false)] fun G => b5 (rF G false (by kernel_rfl) (wp_skip (b5 (wp_seq (wp_seq (d8 G c3 [(36, bA (s.kind == 4))] fun G => b5 (rF G _ h10 (wp_skip (b5 (wp_seq ?_)))))))))); cases h11 : (s.count == 0)
       · have q11 := ne_of_beq_false h11; refine e5 G (z4 (fc h11 fz) (us [(4, 7, 0), (11, 11, 0), (1012, 1012, 0)])) (rg 4) (ap7 s []) [(2, bA false)] fun G => b5 (wp_ret ?_); exact l9 false G (rg 4) (by rw [bX7]; simp [j6, h0, q0, h1, q1, h8, q8, h9, q9, h10, q10, h11, q11]; done)
       ·
        have q11 := eq_of_beq h11; cases h12 : (s.kind == 2)
        · have q12 := ne_of_beq_false h12; refine e5 G (m5 (f6 10 [0] (Y8 s.index) m0) (fc h11 (fc h12 fz)) (us [(4, 7, 0), (8, 10, 1), (11, 11, 0), (1011, 1011, 1), (1012, 1012, 0)])) (rg 4) (ap7 s []) [(2, bA (noneB s.index))] fun G => b5 (wp_ret ?_); exact l9 (noneB s.index) G (rg 4) (bR3 (by omega) (by omega) (by omega) (by omega) (by omega) (by omega))
        · have q12 := eq_of_beq h12; refine e5 G (z4 (fc h11 (fc h12 fz)) (us [(4, 7, 0), (8, 10, 1), (11, 11, 0), (1011, 1011, 1), (1012, 1012, 0)])) (rg 4) (ap7 s []) [(2, bA true)] fun G => b5 (wp_ret ?_); exact l9 true G (rg 4) (bR2 (by omega) (by omega) (by omega) (by omega))
      · have q10 := eq_of_beq h10; exact False.elim (by omega)
     · have q9 := P2 h9; refine d8 G (z4 (fc h1 (fc h8 (fc h9 fz))) (us [(3, 7, 0), (8, 11, 1), (12, 12, 0), (1012, 1012, 1), (1013, 1013, 0), (15, 16, 2), (20, 20, 2), (1021, 1021, 2)])) [(33, bA true)] fun G => b5 (rT G true (by kernel_rfl) (wp_seq (d8 G c3 [] fun G => b5 (wp_ret (c8 ?_))))); exact l9 false G (rg 4) (bR0 (by omega) (by omega) (by omega))
    · have q8 := P2 h8; refine d8 G (z4 (fc h1 (fc h8 (fc (b := true) rfl fz))) (us [(3, 7, 0), (8, 11, 1), (12, 12, 0), (1012, 1012, 1), (1013, 1013, 0), (15, 16, 2), (20, 20, 2), (1021, 1021, 2)])) [(33, bA true)] fun G => b5 (rT G true (by kernel_rfl) (wp_seq (d8 G c3 [] fun G => b5 (wp_ret (c8 ?_))))); exact l9 false G (rg 4) (bQ9 (by omega) (by omega) (by omega))
  ·
   have q0 := eq_of_beq h0; refine d8 G (z4 (fc h0 fz) [(4, 0), (5, 0), (6, 0), (1007, 0)]) [(3, bA true)] fun G => b5 (wp_seq (wp_seq (d8 G (z4 (fc (b := false) rfl (fc (b := true) rfl fz)) (us [(3, 7, 0), (12, 12, 0), (1013, 1013, 0), (15, 16, 0), (17, 19, 1), (20, 20, 0), (1020, 1020, 1), (1021, 1021, 0)])) [(33, bA (s.target != 0))] fun G => b5 (rcN G (fun h13 q13 => ?_) fun h13 q13 => ?_))))
   ·
    refine wp_skip (b5 (wp_seq (wp_seq (w5 G c3 [(1, .ptr 4 0), (2, bA false), (36, bA (s.kind == 4))] fun G => b5 ?_)))); cases h14 : (s.kind == 4)
    ·
     have q14 := ne_of_beq_false h14; refine rF G _ h14 (wp_skip (b5 (wp_seq ?_))); cases h15 : (s.count == 0)
     · have q15 := ne_of_beq_false h15; refine e5 G (z4 (fc h15 fz) (us [(4, 7, 0), (11, 11, 0), (1012, 1012, 0)])) (rg 4) (ap7 s []) [(2, bA false)] fun G => b5 (wp_ret ?_); exact l9 false G (rg 4) (by rw [bX7]; simp [j6, h0, q0, h13, q13, h14, q14, h15, q15]; done)
     ·
      have q15 := eq_of_beq h15; cases h16 : (s.kind == 2)
      · have q16 := ne_of_beq_false h16; refine e5 G (m5 (f6 10 [0] (Y8 s.index) m0) (fc h15 (fc h16 fz)) (us [(4, 7, 0), (8, 10, 1), (11, 11, 0), (1011, 1011, 1), (1012, 1012, 0)])) (rg 4) (ap7 s []) [(2, bA (noneB s.index))] fun G => b5 (wp_ret ?_); exact l9 (noneB s.index) G (rg 4) (by rw [bX7]; simp [j6, h0, q0, h13, q13, h14, q14, h15, q15, h16, q16]; done)
      · have q16 := eq_of_beq h16; exact False.elim (by omega)
    · have q14 := eq_of_beq h14; exact False.elim (by omega)
   · refine wp_seq (d8 G c3 [] fun G => b5 (wp_ret (c8 ?_))); exact l9 false G (rg 4) (by rw [bX7]; simp [j6, h0, q0, h13, q13]; done)
abbrev vbC (p : b8) (d : Nat) (ss : List b6) (n : Int) : d9 := C0 53 [pA 0, .ref 3, iA n] (pS p ++ [dT ss]) (bA (ss.all (d7 p.vars.length p.arrays.length d)))
abbrev vsC (p : b8) (d : Nat) (s : b6) (n : Int) : d9 := C0 74 [pA 0, sA s 3, iA n] (pS p ++ sS s) (bA (d7 p.vars.length p.arrays.length d s))
theorem a65 (p : b8) (s : b6) (n : Int) (hn : n = 0) : d9.ok Tryz.prog (vsC p 0 s n) := by
 refine t8 96 Tryz.func74 [dI p.vars, dI p.arrays, dT p.body, dE s.index.kids, dE s.value.kids, dT s.body, dT s.els] [(0, pA 0), (1, sA s 3), (2, iA n)] fun G => ?_; refine wp_seq (e5 G c3 [0, 1, 2, 3, 4, 5, 6, 7, 15] [dI p.vars, dI p.arrays, dT p.body, dE s.index.kids, dE s.value.kids, dT s.body, dT s.els, .box (pL 0), .box (sL s 3)] [(2, iA n), (3, .ptr 7 0), (4, .ptr 8 0), (6, bA false)] fun G => b5 (wp_seq (wp_seq ?_))); cases h0 : (decide (n < 1))
 ·have q0 := P3 h0; exact False.elim (by omega)
 ·have q0 := P2 h0; refine d8 G (z4 (fc h0 fz) [(3, 0), (4, 0), (5, 0), (1006, 0)]) [(13, bA true)] fun G => b5 (rT G true (by kernel_rfl) (wp_seq (d8 G c3 [] fun G => b5 (wp_ret (c8 ?_))))); exact A0 G (rg 7)
section
variable {nv na d : Nat} {s : b6}
theorem bP9 (h : j6 s = false) : d7 nv na (d + 1) s = false := by rw [d7, h]; rfl
theorem bz4 (hp : j6 s = true) (h : s.kind = 1 ∨ s.kind = 5) : d7 nv na (d + 1) s = (decide (0 ≤ s.target) && decide (s.target < nv) && f7 nv na s.value) := by rw [d7, hp, if_pos h]; rfl
theorem bd1 (hp : j6 s = true) (h : s.kind = 2) : d7 nv na (d + 1) s = (decide (0 ≤ s.target) && decide (s.target < na) && f7 nv na s.index && atomB s.index && f7 nv na s.value) := by rw [d7, hp, if_neg (by omega), if_pos h]; rfl
theorem bz3 (hp : j6 s = true) (h : s.kind = 3) : d7 nv na (d + 1) s = (f7 nv na s.value && s.body.all (d7 nv na d) && s.els.all (d7 nv na d)) := by rw [d7, hp, if_neg (by omega), if_neg (by omega), if_pos h]; rfl
theorem bQ0 (hp : j6 s = true) (h : s.kind = 4) : d7 nv na (d + 1) s = s.body.all (d7 nv na d) := by rw [d7, hp, if_neg (by omega), if_neg (by omega), if_neg (by omega), if_pos h]; rfl
theorem bw1 (hp : j6 s = true) (h : s.kind = 1 ∨ s.kind = 5) (q : ¬ s.target ≥ 0) : d7 nv na (d + 1) s = false := by rw [bz4 hp h, decide_eq_false (p := 0 ≤ s.target) q]; rfl
theorem bw0 (hp : j6 s = true) (h : s.kind = 1 ∨ s.kind = 5) (q : ¬ s.target < (nv : Int)) : d7 nv na (d + 1) s = false := by rw [bz4 hp h, decide_eq_false q, Bool.and_false]; rfl
theorem bv9 (hp : j6 s = true) (h : s.kind = 1 ∨ s.kind = 5) (q : s.target ≥ 0) (r : s.target < (nv : Int)) : d7 nv na (d + 1) s = f7 nv na s.value := by rw [bz4 hp h, decide_eq_true (p := 0 ≤ s.target) q, decide_eq_true r]; rfl
theorem bH4 (hp : j6 s = true) (h : s.kind = 2) (q : ¬ s.target ≥ 0) : d7 nv na (d + 1) s = false := by rw [bd1 hp h, decide_eq_false (p := 0 ≤ s.target) q]; rfl
theorem bH3 (hp : j6 s = true) (h : s.kind = 2) (q : ¬ s.target < (na : Int)) : d7 nv na (d + 1) s = false := by rw [bd1 hp h, decide_eq_false q, Bool.and_false]; rfl
theorem bH2 (hp : j6 s = true) (h : s.kind = 2) (q : f7 nv na s.index = false) : d7 nv na (d + 1) s = false := by rw [bd1 hp h, q, Bool.and_false]; rfl
theorem bH1 (hp : j6 s = true) (h : s.kind = 2) (q : atomB s.index = false) : d7 nv na (d + 1) s = false := by rw [bd1 hp h, q, Bool.and_false]; rfl
theorem bH0 (hp : j6 s = true) (h : s.kind = 2) (q : s.target ≥ 0) (r : s.target < (na : Int)) (u : f7 nv na s.index = true) (v : atomB s.index = true) : d7 nv na (d + 1) s = f7 nv na s.value := by rw [bd1 hp h, decide_eq_true (p := 0 ≤ s.target) q, decide_eq_true r, u, v]; rfl
theorem bG9 (hp : j6 s = true) (h : s.kind = 3) (q : f7 nv na s.value = false) : d7 nv na (d + 1) s = false := by rw [bz3 hp h, q]; rfl
theorem bG8 (hp : j6 s = true) (h : s.kind = 3) (q : s.body.all (d7 nv na d) = false) : d7 nv na (d + 1) s = false := by rw [bz3 hp h, q, Bool.and_false]; rfl
theorem bG7 (hp : j6 s = true) (h : s.kind = 3) (q : f7 nv na s.value = true) (r : s.body.all (d7 nv na d) = true) : d7 nv na (d + 1) s = s.els.all (d7 nv na d) := by rw [bz3 hp h, q, r]; rfl
theorem bQ1 (h1 : ¬ s.kind = 1) (h2 : ¬ s.kind = 2) (h3 : ¬ s.kind = 3) (h4 : ¬ s.kind = 4) (h5 : ¬ s.kind = 5) : d7 nv na (d + 1) s = false := by rw [d7, if_neg (by omega), if_neg h2, if_neg h3, if_neg h4]; simp
end
abbrev G3 (p : b8) (s : b6) (r0 : List It) : List It := dI p.vars :: dI p.arrays :: dT p.body :: dE s.index.kids :: dE s.value.kids :: dT s.body :: dT s.els :: r0
theorem bd9 (p : b8) (d : Nat) (hB : ∀ (ss : List b6) (n : Int), n = d → d9.ok Tryz.prog (vbC p d ss n)) (s : b6) (n : Int) (hn : n = (d + 1 : Nat)) (hd : d ≤ 5) : d9.ok Tryz.prog (vsC p (d + 1) s n) := by
  refine t8 96 Tryz.func74 (G3 p s []) [(0, pA 0), (1, sA s 3), (2, iA n)] fun G => ?_; refine wp_seq (e5 G c3 [0, 1, 2, 3, 4, 5, 6, 7, 15] (G3 p s [.box (pL 0), .box (sL s 3)]) [(2, iA n), (3, .ptr 7 0), (4, .ptr 8 0), (6, bA false)] fun G => b5 (wp_seq (wp_seq ?_))); cases h0 : (decide (n < 1))
  ·
   have q0 := P3 h0; refine d8 G (m5 (f6 4 [3, 4, 5, 6] (a90 s) m0) (fc h0 fz) [(3, 0), (4, 0), (5, 0), (1006, 0)]) [(13, .v (.bool !j6 s))] fun G => b5 ?_; cases h1 : (!j6 s)
   ·
    have q1 : (j6 s) = true := (Eq.mp (bV5 _) h1); refine rF G _ h1 (wp_skip (b5 (wp_seq (wp_seq (d8 G c3 [(15, iA s.kind)] fun G => b5 (wp_block (wp_seq (wp_seq (d8 G c3 [(16, bA (s.kind == 1))] fun G => b5 (I1 G (fun h2 q2 => ?_) fun h2 q2 => ?_))))))))))
    ·
     refine d8 G c3 [(16, bA (s.kind == 5))] fun G => b5 (I1 G (fun h3 q3 => ?_) fun h3 q3 => ?_)
     ·
      refine wp_seq (d8 G c3 [(36, bA (s.kind == 2))] fun G => b5 (I1 G (fun h4 q4 => ?_) fun h4 q4 => ?_))
      ·
       refine wp_seq (d8 G c3 [(66, bA (s.kind == 3))] fun G => b5 (I1 G (fun h5 q5 => ?_) fun h5 q5 => ?_))
       ·
        refine wp_seq (d8 G c3 [(88, bA (s.kind == 4))] fun G => b5 (I1 G (fun h6 q6 => ?_) fun h6 q6 => ?_))
        · refine wp_skip (j0 (b5 (wp_seq (e5 G c3 (rg 7) (G3 p s []) [(6, bA false)] fun G => b5 (wp_ret ?_))))); exact l9 false G (rg 7) (bQ1 (by omega) (by omega) (by omega) (by omega) (by omega))
        · refine wp_seq (L5 G (n7 5 [0, 1, 2, 5] (hB s.body (n - 1) (by omega))) (rg 7) (G3 p s []) [(6, bA (s.body.all (d7 p.vars.length p.arrays.length d)))] [wO (n - 1)] (o1 (by omega)) fun G => b5 (wp_ret (m7 (c8 ?_)))); exact l9 (s.body.all (d7 p.vars.length p.arrays.length d)) G (rg 7) (bQ0 (by with_reducible assumption) (by omega))
       ·
        refine wp_seq ?_; cases h7 : (f7 p.vars.length p.arrays.length s.value)
        · refine e5 G (m5 (f6 3 [0, 1, 2, 4] (A7 p s.value) m0) (fc h7 (fc (b := false) rfl fz)) (us [(5, 10, 0), (1011, 1011, 0), (13, 18, 1), (1019, 1019, 1)])) (rg 7) (G3 p s []) [(6, bA false)] fun G => b5 (wp_ret (m7 (c8 ?_))); exact l9 false G (rg 7) (bG9 (by with_reducible assumption) (by omega) (by with_reducible assumption))
        ·
         cases h8 : (s.body.all (d7 p.vars.length p.arrays.length d))
         · refine L5 G (m5 (f6 3 [0, 1, 2, 4] (A7 p s.value) (f6 10 [0, 1, 2, 5] (hB s.body (n - 1) (by omega)) m0)) (fc h7 (fc h8 fz)) (us [(5, 10, 0), (1011, 1011, 0), (13, 18, 1), (1019, 1019, 1)])) (rg 7) (G3 p s []) [(6, bA false)] [wO (n - 1)] (o1 (by omega)) fun G => b5 (wp_ret (m7 (c8 ?_))); exact l9 false G (rg 7) (bG8 (by with_reducible assumption) (by omega) (by with_reducible assumption))
         · refine L5 G (m5 (f6 3 [0, 1, 2, 4] (A7 p s.value) (f6 10 [0, 1, 2, 5] (hB s.body (n - 1) (by omega)) (f6 18 [0, 1, 2, 6] (hB s.els (n - 1) (by omega)) m0))) (fc h7 (fc h8 fz)) (us [(5, 10, 0), (1011, 1011, 0), (13, 18, 1), (1019, 1019, 1)])) (rg 7) (G3 p s []) [(6, bA (s.els.all (d7 p.vars.length p.arrays.length d)))] [wO (n - 1), wO (n - 1)] (o2 (by omega)) fun G => b5 (wp_ret (m7 (c8 ?_))); exact l9 (s.els.all (d7 p.vars.length p.arrays.length d)) G (rg 7) (bG7 (by with_reducible assumption) (by omega) (by with_reducible assumption) (by with_reducible assumption))
      ·
       refine wp_seq ?_; cases h9 : (decide (s.target ≥ 0))
       · have q9 := P3 h9; refine e5 G (z4 (fc h9 (fc (b := false) rfl fz)) (us [(4, 9, 0), (1010, 1010, 0), (12, 15, 1), (1016, 1016, 1), (18, 20, 1), (1021, 1021, 1), (23, 26, 1), (1027, 1027, 1)])) (rg 7) (G3 p s []) [(6, bA false)] fun G => b5 (wp_ret (m7 (c8 ?_))); exact l9 false G (rg 7) (bH4 (by with_reducible assumption) (by omega) (by omega))
       ·
        have q9 := P2 h9; cases h10 : (decide (s.target < (p.arrays.length : Int)))
        · have q10 := P3 h10; refine e5 G (z4 (fc h9 (fc h10 (fc (b := false) rfl fz))) (us [(4, 9, 0), (1010, 1010, 0), (12, 15, 1), (1016, 1016, 1), (18, 20, 2), (1021, 1021, 2), (23, 26, 2), (1027, 1027, 2)])) (rg 7) (G3 p s []) [(6, bA false)] fun G => b5 (wp_ret (m7 (c8 ?_))); exact l9 false G (rg 7) (bH3 (by with_reducible assumption) (by omega) (by omega))
        ·
         have q10 := P2 h10; cases h11 : (f7 p.vars.length p.arrays.length s.index)
         · refine e5 G (m5 (f6 15 (rg 4) (A7 p s.index) m0) (fc h9 (fc h10 (fc h11 (fc (b := false) rfl fz)))) (us [(4, 9, 0), (1010, 1010, 0), (12, 15, 1), (1016, 1016, 1), (18, 20, 2), (1021, 1021, 2), (23, 26, 3), (1027, 1027, 3)])) (rg 7) (G3 p s []) [(6, bA false)] fun G => b5 (wp_ret (m7 (c8 ?_))); exact l9 false G (rg 7) (bH2 (by with_reducible assumption) (by omega) (by with_reducible assumption))
         ·
          cases h12 : (atomB s.index)
          · refine e5 G (m5 (f6 15 (rg 4) (A7 p s.index) (f6 20 [3] (aw9 s.index) m0)) (fc h9 (fc h10 (fc h11 (fc h12 fz)))) (us [(4, 9, 0), (1010, 1010, 0), (12, 15, 1), (1016, 1016, 1), (18, 20, 2), (1021, 1021, 2), (23, 26, 3), (1027, 1027, 3)])) (rg 7) (G3 p s []) [(6, bA false)] fun G => b5 (wp_ret (m7 (c8 ?_))); exact l9 false G (rg 7) (bH1 (by with_reducible assumption) (by omega) (by with_reducible assumption))
          · refine e5 G (m5 (f6 15 (rg 4) (A7 p s.index) (f6 20 [3] (aw9 s.index) (f6 26 [0, 1, 2, 4] (A7 p s.value) m0))) (fc h9 (fc h10 (fc h11 (fc h12 fz)))) (us [(4, 9, 0), (1010, 1010, 0), (12, 15, 1), (1016, 1016, 1), (18, 20, 2), (1021, 1021, 2), (23, 26, 3), (1027, 1027, 3)])) (rg 7) (G3 p s []) [(6, bA (f7 p.vars.length p.arrays.length s.value))] fun G => b5 (wp_ret (m7 (c8 ?_))); exact l9 (f7 p.vars.length p.arrays.length s.value) G (rg 7) (bH0 (by with_reducible assumption) (by omega) (by omega) (by omega) (by with_reducible assumption) (by with_reducible assumption))
     ·
      refine wp_seq ?_; cases h13 : (decide (s.target ≥ 0))
      · have q13 := P3 h13; refine e5 G (z4 (fc h13 (fc (b := false) rfl fz)) (us [(4, 9, 0), (1010, 1010, 0), (12, 15, 1), (1016, 1016, 1)])) (rg 7) (G3 p s []) [(6, bA false)] fun G => b5 (wp_ret (m7 (c8 ?_))); exact l9 false G (rg 7) (bw1 (by with_reducible assumption) (by omega) (by omega))
      ·
       have q13 := P2 h13; cases h14 : (decide (s.target < (p.vars.length : Int)))
       · have q14 := P3 h14; refine e5 G (z4 (fc h13 (fc h14 fz)) (us [(4, 9, 0), (1010, 1010, 0), (12, 15, 1), (1016, 1016, 1)])) (rg 7) (G3 p s []) [(6, bA false)] fun G => b5 (wp_ret (m7 (c8 ?_))); exact l9 false G (rg 7) (bw0 (by with_reducible assumption) (by omega) (by omega))
       · have q14 := P2 h14; refine e5 G (m5 (f6 15 [0, 1, 2, 4] (A7 p s.value) m0) (fc h13 (fc h14 fz)) (us [(4, 9, 0), (1010, 1010, 0), (12, 15, 1), (1016, 1016, 1)])) (rg 7) (G3 p s []) [(6, bA (f7 p.vars.length p.arrays.length s.value))] fun G => b5 (wp_ret (m7 (c8 ?_))); exact l9 (f7 p.vars.length p.arrays.length s.value) G (rg 7) (bv9 (by with_reducible assumption) (by omega) (by omega) (by omega))
    ·
     refine wp_skip (b5 (rT G _ h2 (wp_seq ?_))); cases h15 : (decide (s.target ≥ 0))
     · have q15 := P3 h15; refine e5 G (z4 (fc h15 (fc (b := false) rfl fz)) (us [(4, 9, 0), (1010, 1010, 0), (12, 15, 1), (1016, 1016, 1)])) (rg 7) (G3 p s []) [(6, bA false)] fun G => b5 (wp_ret (m7 (c8 ?_))); exact l9 false G (rg 7) (bw1 (by with_reducible assumption) (by omega) (by omega))
     ·
      have q15 := P2 h15; cases h16 : (decide (s.target < (p.vars.length : Int)))
      · have q16 := P3 h16; refine e5 G (z4 (fc h15 (fc h16 fz)) (us [(4, 9, 0), (1010, 1010, 0), (12, 15, 1), (1016, 1016, 1)])) (rg 7) (G3 p s []) [(6, bA false)] fun G => b5 (wp_ret (m7 (c8 ?_))); exact l9 false G (rg 7) (bw0 (by with_reducible assumption) (by omega) (by omega))
      · have q16 := P2 h16; refine e5 G (m5 (f6 15 [0, 1, 2, 4] (A7 p s.value) m0) (fc h15 (fc h16 fz)) (us [(4, 9, 0), (1010, 1010, 0), (12, 15, 1), (1016, 1016, 1)])) (rg 7) (G3 p s []) [(6, bA (f7 p.vars.length p.arrays.length s.value))] fun G => b5 (wp_ret (m7 (c8 ?_))); exact l9 (f7 p.vars.length p.arrays.length s.value) G (rg 7) (bv9 (by with_reducible assumption) (by omega) (by omega) (by omega))
   · have q1 : (j6 s) = false := (Eq.mp (bV2 _) h1); refine rT G _ h1 (wp_seq (d8 G c3 [] fun G => b5 (wp_ret (c8 ?_)))); exact l9 false G (rg 7) (bP9 (by with_reducible assumption))
  · have q0 := P2 h0; exact False.elim (by omega)
theorem bO5 {nv na d : Nat} {ss : List b6} {k : Nat} (hk : k < ss.length) (h : d7 nv na d (ss.getD k bU7) = false) : ss.all (d7 nv na d) = false := by
 rw [f8 hk] at h
 exact ao7 hk h
theorem aB2 (p : b8) (d : Nat) (hd : d ≤ 5) (hS : ∀ (s : b6) (n : Int), n = d → d9.ok Tryz.prog (vsC p d s n)) (ss : List b6) (n : Int) (hn : n = d) : d9.ok Tryz.prog (vbC p d ss n) := by
  refine t8 22 Tryz.func53 [dI p.vars, dI p.arrays, dT p.body, dT ss] [(0, pA 0), (1, .ref 3), (2, iA n)] fun G => ?_; refine wp_seq (e5 G c3 (rg 5) [dI p.vars, dI p.arrays, dT p.body, dT ss, .box (pL 0)] [(1, .ref 3), (2, iA n), (3, .ptr 4 0), (6, bA false)] fun G => b5 (wp_seq (wp_seq (w5 G c3 [(1, .ref 3), (2, iA n), (3, .ptr 4 0), (6, bA false), (7, iA 0)] fun G => b5 (wp_block ?_))))); refine l0 (κ := Nat) (fun k => k ≤ ss.length ∧ (ss.take k).all (d7 p.vars.length p.arrays.length d) = true) (fun k => ss.length - k) (fun k => [dI p.vars, dI p.arrays, dT p.body, dT ss, .box (pL 0)]) (fun k => [(1, .ref 3), (2, iA n), (3, .ptr 4 0), (6, bA false), (7, iA k)]) 0 (by simp) (l7.at G _ _) ?_; clear G; intro k ρ a w hp G; have hlen : ss.length ≤ 9223372036854775807 := G.len 3 (d := .stmts ss) (by kernel_rfl); refine wp_seq (wp_seq (w5 G c3 [(1, .ref 3), (2, iA n), (3, .ptr 4 0), (6, bA false), (7, iA k), (11, bA (decide ((k : Int) < ss.length)))] fun G => b5 (H2 G (fun h0 q0 => ?_) fun h0 q0 => ?_)))
  · refine wp_exit (k6 (k6 (j8 (b5 (wp_seq (e5 G c3 (rg 4) [dI p.vars, dI p.arrays, dT p.body, dT ss] [(6, bA true)] fun G => b5 (wp_ret ?_))))))); exact l9 true G (rg 4) (ay0 hp.2 (by omega))
  ·
   refine wp_skip (b5 (wp_seq (wp_block (wp_seq (R5 G (n7 6 [0, 1, 2, 37, 38, 39, 40] (hS (ss.getD k bU7) n (by assumption))) [0, 0, 0, 6, 14, 0, 63, 127] [(21, .v (.bool !d7 p.vars.length p.arrays.length d (ss.getD k bU7)))] (iX k k ss.length []) (iK (by omega) bW1) fun G => b5 ?_))))); cases h1 : (!d7 p.vars.length p.arrays.length d (ss.getD k bU7))
   · have q1 : (d7 p.vars.length p.arrays.length d (ss.getD k bU7)) = true := (Eq.mp (bV5 _) h1); refine rF G _ h1 (wp_skip (j0 (b5 (z3 G c3 [(7, iA ((k : Int) + 1))] [wO ((k : Int) + 1)] (o1 (by omega)) fun G => b5 ?_)))); exact H9 G (k + 1) (⟨by omega, aj3 hp.2 (by omega) (by assumption)⟩) (by omega) (rg 5)
   · have q1 : (d7 p.vars.length p.arrays.length d (ss.getD k bU7)) = false := (Eq.mp (bV2 _) h1); refine rT G _ h1 (wp_seq (d8 G c3 [] fun G => b5 (wp_ret (m7 (c8 (c8 (m7 (c8 ?_)))))))); exact l9 false G (rg 4) (bO5 (k := k) (by omega) (by with_reducible assumption))
theorem a36 (p : b8) : ∀ (d : Nat), d ≤ 5 → ∀ (s : b6) (n : Int), n = d → d9.ok Tryz.prog (vsC p d s n)
 | 0, _, s, n, hn => a65 p s n hn
 | d + 1, hd, s, n, hn => bd9 p d (fun ss n hn => aB2 p d (by omega) (a36 p d (by omega)) ss n hn) s n hn (by omega)
theorem a92 (p : b8) (ss : List b6) (n : Int) (hn : n = 5) : d9.ok Tryz.prog (C0 53 [pA 0, .ref 3, iA n] (pS p ++ [.dat (.stmts ss)]) (bA (U8 p.vars.length p.arrays.length 5 ss))) :=
 aB2 p 5 (by omega) (a36 p 5 (by omega)) ss n hn
def v9 : Nat → List b6 → Nat
 | 0, ss => ss.length
 | d + 1, ss => ss.length + (ss.map fun s => v9 d s.body + v9 d s.els).sum
def szP (d : Nat) (ss : List b6) (k : Nat) : Nat := ss.length + ((ss.take k).map fun s => v9 d s.body + v9 d s.els).sum
theorem bo1 (d : Nat) (ss : List b6) {k : Nat} (h : ss.length ≤ k) : szP d ss k = v9 (d + 1) ss := by unfold szP; rw [bV8 h, v9]
theorem as0 {d : Nat} {ss : List b6} {k : Nat} (h : k < ss.length) : szP d ss (k + 1) = szP d ss k + (v9 d (ss.getD k bU7).body + v9 d (ss.getD k bU7).els) := by
 unfold szP
 rw [C5 ss k h, List.map_append, List.sum_append, f8 h]
 simp; omega
theorem bd2 : ∀ (d : Nat) (ss : List b6), v9 d ss ≤ c9 ss := by
 intro d
 induction d with
 | zero => intro ss; exact D7 ss
 | succ d ih =>
  intro ss
  induction ss with
  | nil => simp [v9]
  | cons s r ihr =>
   have h1 := ih s.body
   have h2 := ih s.els
   have h3 := aA5 s
   simp only [v9, bX9, List.sum_cons, bV7, c9] at ihr ⊢
   have h4 : c9 s.body + c9 s.els ≤ B4 s := by
    rcases s with ⟨_, _, _, _, _, b, e⟩
    simp only [B4, b6.body, b6.els]; omega
   omega
theorem aS9 {d : Nat} {ss : List b6} {k : Nat} : szP d ss k ≤ c9 ss := by
 refine bW4 ?_ (bd2 (d + 1) ss)
 unfold szP
 rw [v9]
 have : ∀ (l : List Nat) (k : Nat), (l.take k).sum ≤ l.sum := fun l k => by
  have := List.sum_append (l₁ := l.take k) (l₂ := l.drop k)
  rw [List.take_append_drop] at this; omega
 have h := this (ss.map fun s => v9 d s.body + v9 d s.els) k
 rw [← List.map_take] at h
 omega
theorem a53 {ss : List b6} {k B : Nat} (h : c9 ss ≤ B) (hk : k < ss.length) : c9 (ss.getD k bU7).body ≤ B ∧ c9 (ss.getD k bU7).els ≤ B := by
 rw [f8 hk]
 have h1 := O7 (bW2 hk)
 have h2 := aA5 ss[k]
 omega
theorem a89 (ss : List b6) (n : Int) (hn : n = 1) (hb : c9 ss ≤ 1048576) : d9.ok Tryz.prog (C0 54 [.ref 0, iA n] [.dat (.stmts ss)] (iA (v9 0 ss : Nat))) := by
 have h100 : decide (n > 1) = false := by simp; omega
 refine t8 39 Tryz.func54 [dT ss] [(0, .ref 0), (1, iA n)] fun G => ?_; refine wp_seq (d8 G c3 [(4, iA 0)] fun G => b5 (wp_seq (d8 G c3 [(5, iA (ss.length : Int))] fun G => b5 (wp_seq (wp_seq (w5 G c3 [(0, .ref 0), (1, iA n), (4, iA 0), (5, iA (ss.length : Int)), (6, iA 0)] fun G => b5 (wp_block ?_))))))); refine l0 (κ := Nat) (fun k => k = 0) (fun k => 0) (fun k => [dT ss]) (fun k => [(0, .ref 0), (1, iA n), (4, iA 0), (5, iA (ss.length : Nat)), (6, iA k)]) 0 (by kernel_rfl) (l7.at G _ _) ?_; clear G; intro k ρ a w hp G; replace G := l7.at G [dT ss] [(0, .ref 0), (1, iA n), (4, iA 0), (5, iA (ss.length : Int)), (6, iA k)]; refine wp_seq (wp_seq ?_); cases h0 : (decide ((k : Int) < ss.length))
 ·have q0 := P3 h0; refine d8 G (z4 (fc h0 fz) [(5, 0), (6, 0), (1007, 0)]) [(16, bA false)] fun G => b5 (rF G false (by kernel_rfl) (wp_exit (k6 (k6 (j8 (b5 (wp_seq (d8 G c3 [(4, iA (ss.length : Int))] fun G => b5 (wp_ret ?_))))))))); exact A0 G [0]
 ·have q0 := P2 h0; refine d8 G (z4 (fc h0 fz) [(5, 0), (6, 0), (1007, 0)]) [(16, bA (decide (n > 1)))] fun G => b5 (rF G (decide (n > 1)) (by assumption) (wp_exit (k6 (k6 (j8 (b5 (wp_seq (d8 G c3 [(4, iA (ss.length : Int))] fun G => b5 (wp_ret ?_))))))))); exact A0 G [0]
theorem a87 (d : Nat) (hd : d ≤ 5) (ih : ∀ (ss : List b6) (n : Int), n = (d + 1 : Nat) → c9 ss ≤ 1048576 → d9.ok Tryz.prog (C0 54 [.ref 0, iA n] [.dat (.stmts ss)] (iA (v9 d ss : Nat))))
  (ss : List b6) (n : Int) (hn : n = (d + 2 : Nat)) (hb : c9 ss ≤ 1048576) : d9.ok Tryz.prog (C0 54 [.ref 0, iA n] [.dat (.stmts ss)] (iA (v9 (d + 1) ss : Nat))) := by
 have h100 : decide (n > 1) = true := by simp; omega
 refine t8 39 Tryz.func54 [dT ss] [(0, .ref 0), (1, iA n)] fun G => ?_; refine wp_seq (d8 G c3 [(4, iA 0)] fun G => b5 (wp_seq (d8 G c3 [(5, iA (ss.length : Int))] fun G => b5 (wp_seq (wp_seq (w5 G c3 [(0, .ref 0), (1, iA n), (4, iA 0), (5, iA (ss.length : Int)), (6, iA 0)] fun G => b5 (wp_block ?_))))))); refine l0 (κ := Nat) (fun k => k ≤ ss.length) (fun k => ss.length - k) (fun k => [dT ss]) (fun k => [(0, .ref 0), (1, iA n), (4, iA 0), (5, iA (szP d ss k : Nat)), (6, iA k)]) 0 (by omega) (l7.at G _ _) ?_; clear G; intro k ρ a w hp G; replace G := l7.at G [dT ss] [(0, .ref 0), (1, iA n), (4, iA 0), (5, iA (↑(szP d ss k) : Int)), (6, iA k)]; have hlen := D7 ss; refine wp_seq (wp_seq ?_); cases h0 : (decide ((k : Int) < ss.length))
 ·have q0 := P3 h0; refine d8 G (z4 (fc h0 fz) [(5, 0), (6, 0), (1007, 0)]) [(16, bA false)] fun G => b5 (rF G false (by kernel_rfl) (wp_exit (k6 (k6 (j8 (b5 (wp_seq (d8 G c3 [(4, iA (↑(szP d ss k) : Int))] fun G => b5 (wp_ret ?_))))))))); exact J8 ((↑(szP d ss k) : Int)) G [0] (by have h1 := bo1 d ss (k := k) (by omega); omega)
 ·have q0 := P2 h0; refine d8 G (z4 (fc h0 fz) [(5, 0), (6, 0), (1007, 0)]) [(16, bA (decide (n > 1)))] fun G => b5 (rT G (decide (n > 1)) (by assumption) (wp_skip (b5 (wp_seq (wp_block (R5 G (m5 (f6 8 [41] (ih ((ss.getD k bU7).body) (n - 1) (by omega) ((a53 hb (by omega)).1)) (f6 17 [113] (ih ((ss.getD k bU7).els) (n - 1) (by omega) ((a53 hb (by omega)).2)) m0)) fz []) [0, 0, 0, 6, 14, 30, 0, 64, 254, 511, 0, 0, 3072, 7168, 15360, 0, 32768, 130558, 262143, 524287] [(5, iA ((↑(szP d ss k) : Int) + (↑(v9 d (ss.getD k bU7).body) : Int) + (↑(v9 d (ss.getD k bU7).els) : Int)))] (iX k k ss.length ((wO (n - 1)) :: ((wO ((↑(szP d ss k) : Int) + (↑(v9 d (ss.getD k bU7).body) : Int))) :: (iX k k ss.length ((wO (n - 1)) :: ((wO ((↑(szP d ss k) : Int) + (↑(v9 d (ss.getD k bU7).body) : Int) + (↑(v9 d (ss.getD k bU7).els) : Int))) :: [])))))) (iK (by omega) ⟨oW (by omega), ⟨(by have h1 := as0 (d := d) (ss := ss) (k := k) (by omega); have h2 := aS9 (d := d) (ss := ss) (k := k + 1); exact w64 (by omega) (by omega)), (iK (by omega) ⟨oW (by omega), ⟨(by have h1 := as0 (d := d) (ss := ss) (k := k) (by omega); have h2 := aS9 (d := d) (ss := ss) (k := k + 1); exact w64 (by omega) (by omega)), bW1⟩⟩)⟩⟩) fun G => j0 (b5 (z3 G c3 [(6, iA ((k : Int) + 1))] [wO ((k : Int) + 1)] (o1 (by omega)) fun G => b5 ?_)))))))); exact H9 G (k + 1) (by omega) (by omega) [0] (ht := by have e1 : ((↑(szP d ss (k + 1)) : Int) : Int) = ((↑(szP d ss k) : Int) + (↑(v9 d (ss.getD k bU7).body) : Int) + (↑(v9 d (ss.getD k bU7).els) : Int)) := (by have h1 := as0 (d := d) (ss := ss) (k := k) (by omega); have h2 := aS9 (d := d) (ss := ss) (k := k + 1); omega); (first | rw [e1] | simp only [e1]) <;> rfl)
theorem a88 : ∀ d, d ≤ 5 → ∀ (ss : List b6) (n : Int), n = (d + 1 : Nat) → c9 ss ≤ 1048576 → d9.ok Tryz.prog (C0 54 [.ref 0, iA n] [.dat (.stmts ss)] (iA (v9 d ss : Nat))) := by
 intro d
 induction d with
 | zero => intro _ ss n hn hb; exact a89 ss n (by omega) hb
 | succ d ih => intro hd ss n hn hb; exact a87 d (by omega) (fun ss n hn hb => ih (by omega) ss n hn hb) ss n (by omega) hb
theorem bl4 (ss : List b6) (n : Int) (hn : n = 5) (hb : c9 ss ≤ 1048576) : d9.ok Tryz.prog (C0 54 [.ref 0, iA n] [.dat (.stmts ss)] (iA (v9 4 ss : Nat))) :=
 a88 4 (by omega) ss n (by omega) hb
theorem bd3 {nv na : Nat} : ∀ (d : Nat) (ss : List b6), (∀ s ∈ ss, d7 nv na (d + 1) s = true) → v9 d ss = L7 ss := by
 intro d
 induction d with
 | zero => intro ss h; rw [aO8 h]; rfl
 | succ d ih =>
  intro ss
  induction ss with
  | nil => intro _; rfl
  | cons s r ihr =>
   intro h
   have h1 := T4 (h s bW5)
   have h2 := ih s.body fun x hx => bV4.1 h1.1 x hx
   have h3 := ih s.els fun x hx => bV4.1 h1.2 x hx
   have h4 := ihr fun x hx => h x (bX2 _ hx)
   rw [L7, ak8, ← h2, ← h3, ← h4]
   simp [v9]; omega
theorem an3 {p : b8} (h : y9 p.vars p.arrays = false) : e6 p = false := by simp [e6, h]
theorem aN1 {p : b8} (h : U8 p.vars.length p.arrays.length 5 p.body = false) : e6 p = false := by simp [e6, h]
theorem aU6 {p : b8} (h1 : y9 p.vars p.arrays = true) (h2 : U8 p.vars.length p.arrays.length 5 p.body = true) : e6 p = decide ((v9 4 p.body : Int) ≤ 60) := by
 have h3 := bd3 (nv := p.vars.length) (na := p.arrays.length) 4 p.body (fun x hx => bV4.1 h2 x hx)
 rw [e6, h1, h2, h3]
 simp
 exact ⟨fun h => by omega, fun h => by omega⟩
theorem aQ9 (p : b8) (n : Int) (hn : n = 5) : d9.ok Tryz.prog (C0 53 [pA 0, .ref 2, iA n] (pS p) (bA (U8 p.vars.length p.arrays.length 5 p.body))) :=
 d9.dup (S := pS p) (S' := pS p) (d := .stmts p.body) (i := 2) (a92 p p.body n hn) rfl rfl rfl (fun ρ h => by simp only [AV.vals, AV.val]; rw [show ρ 3 = ρ 2 from h]) rfl
theorem N4 (p : b8) (hb : c9 p.body ≤ 1048576) : d9.ok Tryz.prog (C0 38 [pA 0] (pS p) (bA (e6 p))) := by
  refine t8 17 Tryz.func38 [dI p.vars, dI p.arrays, dT p.body] [(0, pA 0)] fun G => ?_; refine wp_seq (e5 G c3 (rg 4) [dI p.vars, dI p.arrays, dT p.body, .box (pL 0)] [(1, .ptr 3 0), (2, bA false)] fun G => b5 (wp_seq ?_)); cases h0 : (y9 p.vars p.arrays)
  · refine e5 G (m5 (f6 1 [0, 1, 2] (al6 p) m0) (fc h0 (fc (b := false) rfl fz)) (us [(3, 6, 0), (1007, 1007, 0), (9, 12, 1), (1013, 1013, 1)])) [0, 1, 2] [dI p.vars, dI p.arrays, dT p.body] [(2, bA false)] fun G => b5 (wp_ret ?_); exact l9 false G [0, 1, 2] (an3 (by assumption))
  ·
   cases h1 : (U8 p.vars.length p.arrays.length (5 : Nat) p.body)
   · refine e5 G (m5 (f6 1 [0, 1, 2] (al6 p) (f6 6 [0, 1, 2] (aQ9 p 5 (by kernel_rfl)) m0)) (fc h0 (fc h1 fz)) (us [(3, 6, 0), (1007, 1007, 0), (9, 12, 1), (1013, 1013, 1)])) [0, 1, 2] [dI p.vars, dI p.arrays, dT p.body] [(2, bA false)] fun G => b5 (wp_ret ?_); exact l9 false G [0, 1, 2] (aN1 (by assumption))
   · refine e5 G (m5 (f6 1 [0, 1, 2] (al6 p) (f6 6 [0, 1, 2] (aQ9 p 5 (by kernel_rfl)) (f6 11 [2] (bl4 p.body 5 (by kernel_rfl) (by assumption)) m0))) (fc h0 (fc h1 fz)) (us [(3, 6, 0), (1007, 1007, 0), (9, 12, 1), (1013, 1013, 1)])) [0, 1, 2] [dI p.vars, dI p.arrays, dT p.body] [(2, bA (decide ((↑(v9 4 p.body) : Int) ≤ 60)))] fun G => b5 (wp_ret ?_); exact l9 (decide ((↑(v9 4 p.body) : Int) ≤ 60)) G [0, 1, 2] (aU6 (by assumption) (by assumption))
def s8 (nv na : Nat) (s : b6) : Bool := j6 s &&
    (if s.kind = 1 ∨ s.kind = 5 then decide (0 ≤ s.target) && decide (s.target < nv) && f7 nv na s.value
     else if s.kind = 2 then decide (0 ≤ s.target) && decide (s.target < na) && f7 nv na s.index && atomB s.index && f7 nv na s.value
     else if s.kind = 3 then f7 nv na s.value
     else decide (s.kind = 4))
theorem H0 {nv na d : Nat} {s : b6} : d7 nv na (d + 1) s = (s8 nv na s && (s.body.all (d7 nv na d) && s.els.all (d7 nv na d))) := by
 rw [bX7]
 constructor
 ·intro h
  have h1 := T4 h
  rw [h1.1, h1.2, Bool.and_true, Bool.and_true]
  rw [d7, bU8] at h
  rw [s8, h.1, Bool.true_and]
  obtain ⟨-, h⟩ := h
  split at h
  ·rw [if_pos (by assumption)]; exact h
  split at h
  ·rw [if_neg (by assumption), if_pos (by assumption)]; exact h
  split at h
  ·rw [if_neg (by assumption), if_neg (by assumption), if_pos (by assumption)]
   simp only [bU8] at h; exact h.1.1
  split at h
  ·rw [if_neg (by assumption), if_neg (by assumption), if_neg (by assumption)]; simp [*]
  ·simp at h
 ·intro h
  simp only [bU8] at h
  obtain ⟨h, hb, he⟩ := h
  rw [s8, bU8] at h
  obtain ⟨h0, h⟩ := h
  rw [d7, h0, Bool.true_and]
  split at h
  ·rw [if_pos (by assumption)]; exact h
  split at h
  ·rw [if_neg (by assumption), if_pos (by assumption)]; exact h
  split at h
  ·rw [if_neg (by assumption), if_neg (by assumption), if_pos (by assumption), h, hb, he]; rfl
  ·rw [if_neg (by assumption), if_neg (by assumption), if_neg (by assumption), if_pos (by simpa using h), hb]
def t0 (F : Nat → b6 → Bool × Nat) : Nat → List b6 → Bool × Nat
 | c, [] => (true, c)
 | c, s :: r => if (F c s).1 then t0 F (F c s).2 r else F c s
def n8 (nv na : Nat) : Nat → Nat → b6 → Bool × Nat
 | 0, c, _ => (false, c + 1)
 | d + 1, c, s => if 60 < c + 1 then (false, c + 1) else if s8 nv na s then
   (if (t0 (n8 nv na d) (c + 1) s.body).1 then t0 (n8 nv na d) (t0 (n8 nv na d) (c + 1) s.body).2 s.els else t0 (n8 nv na d) (c + 1) s.body)
   else (false, c + 1)
abbrev f5 (nv na d c : Nat) (ss : List b6) : Bool × Nat := t0 (n8 nv na d) c ss
theorem U1 (F : Nat → b6 → Bool × Nat) : ∀ (a b : List b6) (c : Nat), t0 F c (a ++ b) = if (t0 F c a).1 then t0 F (t0 F c a).2 b else t0 F c a
 | [], b, c => by simp [t0]
 | x :: r, b, c => by
  simp only [List.cons_append, t0]
  by_cases h : (F c x).1 = true
  ·simp only [h, if_true]; exact U1 F r b _
  ·simp [h]
theorem ae9 {F : Nat → b6 → Bool × Nat} {c k : Nat} {ss : List b6} (h : (t0 F c (ss.take k)).1 = true) (hk : k < ss.length) : t0 F c (ss.take (k + 1)) = F (t0 F c (ss.take k)).2 (ss.getD k bU7) := by
 rw [k8 _ _ hk, U1, if_pos h, f8 hk]
 simp only [t0]
 split
 ·rename_i h; exact Prod.ext h.symm rfl
 ·rfl
theorem av6 {F : Nat → b6 → Bool × Nat} {c k : Nat} {ss : List b6} (h : (t0 F c (ss.take k)).1 = true) (hk : k < ss.length) (hf : (F (t0 F c (ss.take k)).2 (ss.getD k bU7)).1 = false) : t0 F c ss = F (t0 F c (ss.take k)).2 (ss.getD k bU7) := by
 conv => lhs; rw [← List.take_append_drop (k + 1) ss]
 rw [U1, ae9 h hk, hf]
 rfl
theorem av7 {F : Nat → b6 → Bool × Nat} {c k : Nat} {ss : List b6} (hk : ss.length ≤ k) : t0 F c (ss.take k) = t0 F c ss := by rw [bV8 hk]
theorem ah8 {F : Nat → b6 → Bool × Nat} (hF : ∀ c s, c ≤ 60 → (F c s).2 ≤ 61 ∧ ((F c s).1 = true → (F c s).2 ≤ 60)) : ∀ (ss : List b6) (c : Nat), c ≤ 60 → (t0 F c ss).2 ≤ 61 ∧ ((t0 F c ss).1 = true → (t0 F c ss).2 ≤ 60)
 | [], c, h => ⟨by simp only [t0]; omega, fun _ => by simp only [t0]; omega⟩
 | s :: r, c, h => by
  simp only [t0]
  by_cases h1 : (F c s).1 = true
  ·rw [if_pos h1]; exact ah8 hF r _ ((hF c s h).2 h1)
  ·rw [if_neg h1]; exact hF c s h
theorem ag3 {nv na : Nat} : ∀ (d c : Nat) (s : b6), c ≤ 60 → (n8 nv na d c s).2 ≤ 61 ∧ ((n8 nv na d c s).1 = true → (n8 nv na d c s).2 ≤ 60)
 | 0, c, s, h => by simp [n8]; omega
 | d + 1, c, s, h => by
  rw [n8]
  by_cases h1 : 60 < c + 1
  ·rw [if_pos h1]; simp; omega
  rw [if_neg h1]
  by_cases h2 : s8 nv na s = true
  ·rw [if_pos h2]
   have h3 := ah8 (ag3 (nv := nv) (na := na) d) s.body (c + 1) (by omega)
   by_cases h4 : (t0 (n8 nv na d) (c + 1) s.body).1 = true
   ·rw [if_pos h4]; exact ah8 (ag3 d) s.els _ (h3.2 h4)
   ·rw [if_neg h4]; exact h3
  ·rw [if_neg h2]; simp; omega
theorem G9 {nv na d c : Nat} {ss : List b6} (h : c ≤ 60) (h1 : (f5 nv na d c ss).1 = true) : (f5 nv na d c ss).2 ≤ 60 := (ah8 (ag3 d) ss c h).2 h1
section
variable {nv na d c : Nat} {s : b6}
theorem ae0 (h : 60 < c + 1) : n8 nv na d c s = (false, c + 1) := by cases d with
 | zero => rfl
 | succ d => rw [n8, if_pos h]
theorem c7 (h : s8 nv na s = false) : n8 nv na d c s = (false, c + 1) := by cases d with
 | zero => rfl
 | succ d => rw [n8, h]; simp
theorem v8 (h1 : c + 1 ≤ 60) (h : s8 nv na s = true) (h2 : (f5 nv na d (c + 1) s.body).1 = false) : n8 nv na (d + 1) c s = f5 nv na d (c + 1) s.body := by
 rw [n8, if_neg (by omega), if_pos h, if_neg (by simp [h2])]
theorem y6 (h1 : c + 1 ≤ 60) (h : s8 nv na s = true) (h2 : (f5 nv na d (c + 1) s.body).1 = true) : n8 nv na (d + 1) c s = f5 nv na d (f5 nv na d (c + 1) s.body).2 s.els := by
 rw [n8, if_neg (by omega), if_pos h, if_pos h2]
end
theorem ah9 {nv na d : Nat} (hF : ∀ c s, c ≤ 60 → ((n8 nv na d c s).1 = (d7 nv na d s && decide (c + nS s ≤ 60))) ∧ ((n8 nv na d c s).1 = true → (n8 nv na d c s).2 = c + nS s)) : ∀ (ss : List b6) (c : Nat), c ≤ 60 → ((f5 nv na d c ss).1 = (ss.all (d7 nv na d) && decide (c + L7 ss ≤ 60))) ∧ ((f5 nv na d c ss).1 = true → (f5 nv na d c ss).2 = c + L7 ss)
 | [], c, h => by simp [t0, L7, h]
 | s :: r, c, h => by
  obtain ⟨h1, h2⟩ := hF c s h
  simp only [f5, t0]
  by_cases h3 : (n8 nv na d c s).1 = true
  ·rw [if_pos h3]
   have e := h2 h3
   have l := (ag3 d c s h).2 h3
   obtain ⟨h4, h5⟩ := ah9 hF r (n8 nv na d c s).2 l
   rw [h1, bU8] at h3
   constructor
   ·rw [show t0 (n8 nv na d) (n8 nv na d c s).2 r = f5 nv na d (n8 nv na d c s).2 r from rfl, h4, List.all_cons, h3.1, Bool.true_and, e, L7, Nat.add_assoc]
   ·intro h6; rw [show t0 (n8 nv na d) (n8 nv na d c s).2 r = f5 nv na d (n8 nv na d c s).2 r from rfl, h5 h6, e, L7]; omega
  ·rw [if_neg h3]
   refine ⟨?_, fun h => absurd h h3⟩
   have h4 := h3
   rw [h1] at h4
   rw [Bool.eq_false_iff.2 h3, List.all_cons, L7]
   cases ha : d7 nv na d s
   ·simp
   ·rw [ha, Bool.true_and, decide_eq_true_eq] at h4
    rw [Bool.true_and, show decide (c + (nS s + L7 r) ≤ 60) = false from decide_eq_false (by omega), Bool.and_false]
theorem as4 {nv na : Nat} : ∀ (d c : Nat) (s : b6), c ≤ 60 → ((n8 nv na d c s).1 = (d7 nv na d s && decide (c + nS s ≤ 60))) ∧ ((n8 nv na d c s).1 = true → (n8 nv na d c s).2 = c + nS s)
 | 0, c, s, h => by simp [n8, d7]
 | d + 1, c, s, h => by
  have hs := ak8 s
  by_cases h1 : 60 < c + 1
  ·rw [ae0 h1, show decide (c + nS s ≤ 60) = false from decide_eq_false (by omega), Bool.and_false]; simp
  cases h2 : s8 nv na s
  ·rw [c7 h2, H0, h2]; simp
  obtain ⟨b1, b2⟩ := ah9 (as4 (nv := nv) (na := na) d) s.body (c + 1) (by omega)
  rw [H0, h2, Bool.true_and]
  cases h3 : (f5 nv na d (c + 1) s.body).1
  ·rw [v8 (by omega) h2 h3, h3]
   refine ⟨?_, fun h => by simp at h⟩
   rw [h3] at b1
   cases h4 : s.body.all (d7 nv na d)
   ·simp
   ·rw [h4, Bool.true_and] at b1
    have := of_decide_eq_false b1.symm
    rw [show decide (c + nS s ≤ 60) = false from decide_eq_false (by omega), Bool.and_false]
  ·rw [y6 (by omega) h2 h3]
   have e := b2 h3
   have l := G9 (nv := nv) (na := na) (d := d) (c := c + 1) (by omega) h3
   obtain ⟨e1, e2⟩ := ah9 (as4 (nv := nv) (na := na) d) s.els _ l
   rw [h3] at b1
   have b3 := b1.symm
   rw [bU8] at b3
   rw [b3.1, Bool.true_and, e1, e]
   refine ⟨by rw [show c + 1 + L7 s.body + L7 s.els = c + nS s by omega], fun h => ?_⟩
   have h' : (f5 nv na d (f5 nv na d (c + 1) s.body).2 s.els).1 = true := by rw [e1, e]; exact h
   have := e2 h'
   rw [e] at this
   rw [this]; omega
theorem aL3 {p : b8} (h : y9 p.vars p.arrays = true) : (f5 p.vars.length p.arrays.length 5 0 p.body).1 = e6 p := by
 rw [(ah9 (as4 5) p.body 0 (by omega)).1, e6, h, Bool.true_and, U8]; simp
theorem bt4 (p : b8) (s : b6) (c : Nat) (hc : c ≤ 60) (n : Int) (hn : n = 6) : d9.ok Tryz.prog ⟨56, [pA 0, sA s 4, iA n, .ptr 3 0], pS p ++ [.box [iA c]] ++ sS s, pS p ++ [.box [iA (n8 p.vars.length p.arrays.length 0 c s).2]] ++ sS s, bA false⟩ := by
 have h100 : decide (n > 5) = true := by simp; omega
 refine t8 149 Tryz.func56 [dI p.vars, dI p.arrays, dT p.body, .box [iA c], dE s.index.kids, dE s.value.kids, dT s.body, dT s.els] [(0, pA 0), (1, sA s 4), (2, iA n), (3, .ptr 3 0)] fun G => ?_; refine wp_seq (e5 G c3 [0, 1, 2, 3, 4, 5, 6, 7, 8, 16] [dI p.vars, dI p.arrays, dT p.body, .box [iA c], dE s.index.kids, dE s.value.kids, dT s.body, dT s.els, .box (pL 0), .box (sL s 4)] [(2, iA n), (3, .ptr 3 0), (4, .ptr 8 0), (5, .ptr 9 0), (8, bA false)] fun G => b5 (wp_seq (L5 G c3 (rg 10) [dI p.vars, dI p.arrays, dT p.body, .box [iA ((c : Int) + 1)], dE s.index.kids, dE s.value.kids, dT s.body, dT s.els, .box (pL 0), .box (sL s 4)] [(2, iA n), (3, .ptr 3 0), (4, .ptr 8 0), (5, .ptr 9 0), (8, bA false)] [wO ((c : Int) + 1)] (o1 (by omega)) fun G => b5 (wp_seq (wp_seq ?_))))); cases h0 : (decide ((c : Int) + 1 > 60))
 ·have q0 := P3 h0; refine d8 G (z4 (fc h0 fz) [(5, 0), (6, 0), (1007, 0)]) [(27, bA (decide (n > 5)))] fun G => b5 (rT G (decide (n > 5)) (by assumption) (wp_seq (d8 G c3 [] fun G => b5 (wp_ret (c8 ?_))))); exact A0 G (rg 8)
 ·have q0 := P2 h0; refine d8 G (z4 (fc h0 fz) [(5, 0), (6, 0), (1007, 0)]) [(27, bA true)] fun G => b5 (rT G true (by kernel_rfl) (wp_seq (d8 G c3 [] fun G => b5 (wp_ret (c8 ?_))))); exact A0 G (rg 8)
abbrev bv7 (p : b8) (d c : Nat) (s : b6) (n : Int) : d9 := ⟨56, [pA 0, sA s 4, iA n, .ptr 3 0], pS p ++ [.box [iA c]] ++ sS s, pS p ++ [.box [iA (n8 p.vars.length p.arrays.length d c s).2]] ++ sS s, bA (n8 p.vars.length p.arrays.length d c s).1⟩
abbrev aT1 (p : b8) (d c : Nat) (ss : List b6) (n : Int) : d9 := ⟨42, [pA 0, .ref 4, iA n, .ptr 3 0], pS p ++ [.box [iA c]] ++ [.dat (.stmts ss)], pS p ++ [.box [iA (f5 p.vars.length p.arrays.length d c ss).2]] ++ [.dat (.stmts ss)], bA (f5 p.vars.length p.arrays.length d c ss).1⟩
theorem aQ1 (p : b8) (d : Nat) (hd : d ≤ 5) (ih : ∀ (s : b6) (c : Nat) (n : Int), c ≤ 60 → n = 6 - (d : Int) → d9.ok Tryz.prog (bv7 p d c s n))
    (ss : List b6) (c : Nat) (n : Int) (hc : c ≤ 60) (hn : n = 6 - (d : Int)) : d9.ok Tryz.prog (aT1 p d c ss n) := by
  refine t8 24 Tryz.func42 [dI p.vars, dI p.arrays, dT p.body, .box [iA c], dT ss] [(0, pA 0), (1, .ref 4), (2, iA n), (3, .ptr 3 0)] fun G => ?_; refine wp_seq (e5 G c3 (rg 6) [dI p.vars, dI p.arrays, dT p.body, .box [iA c], dT ss, .box (pL 0)] [(1, .ref 4), (2, iA n), (3, .ptr 3 0), (4, .ptr 5 0), (8, bA false)] fun G => b5 (wp_seq (wp_seq (w5 G c3 [(2, iA n), (3, .ptr 3 0), (4, .ptr 5 0), (8, bA false), (11, .ref 4), (12, iA (ss.length : Int)), (13, iA 0)] fun G => b5 (wp_block ?_))))); have hlen : ss.length ≤ 9223372036854775807 := G.len 4 (d := .stmts ss) (by kernel_rfl); refine l0 (κ := Nat) (fun k => k ≤ ss.length ∧ (f5 p.vars.length p.arrays.length d c (ss.take k)).1 = true) (fun k => ss.length - k) (fun k => [dI p.vars, dI p.arrays, dT p.body, .box [iA (f5 p.vars.length p.arrays.length d c (ss.take k)).2], dT ss, .box (pL 0)]) (fun k => [(2, iA n), (3, .ptr 3 0), (4, .ptr 5 0), (8, bA false), (11, .ref 4), (12, iA (ss.length : Int)), (13, iA k)]) 0 (by simp [f5, t0]; done) (l7.at G _ _) ?_; clear G; intro k ρ a w hp G; replace G := l7.at G [dI p.vars, dI p.arrays, dT p.body, .box [iA ((f5 p.vars.length p.arrays.length d c (bV3 k ss)).snd : Int)], dT ss, .box (pL 0)] [(2, iA n), (3, .ptr 3 0), (4, .ptr 5 0), (8, bA false), (11, .ref 4), (12, iA (ss.length : Int)), (13, iA k)]; refine wp_seq (d8 G c3 [(14, bA (decide ((k : Int) < ss.length)))] fun G => b5 (wp_seq (H2 G (fun h0 q0 => ?_) fun h0 q0 => ?_)))
  · refine wp_exit (k6 (k6 (j8 (b5 (wp_seq (e5 G c3 (rg 5) [dI p.vars, dI p.arrays, dT p.body, .box [iA ((f5 p.vars.length p.arrays.length d c (bV3 k ss)).snd : Int)], dT ss] [(8, bA true)] fun G => b5 (wp_ret ?_))))))); exact l9 true G (rg 5) (by rw [f5, ← av7 (k := k) (by omega)]; exact hp.2) (by show _ = mR (rg 5) [dI p.vars, dI p.arrays, dT p.body, .box [iA ((f5 p.vars.length p.arrays.length d c ss).snd : Int)], dT ss]; have e1 : (((f5 p.vars.length p.arrays.length d c ss).snd : Int) : Int) = (((f5 p.vars.length p.arrays.length d c (bV3 k ss)).snd : Int)) := (by rw [f5, ← av7 (k := k) (by omega)]); (first | rw [e1] | simp only [e1]) <;> rfl)
  ·
   refine wp_skip (b5 (wp_seq (wp_block (wp_seq (L5 G c3 [0, 1, 2, 3, 4, 5, 14, 15, 16, 17, 22] [dI p.vars, dI p.arrays, dT p.body, .box [iA ((f5 p.vars.length p.arrays.length d c (bV3 k ss)).snd : Int)], dT ss, .box (pL 0), dE (ss.getD k bU7).index.kids, dE (ss.getD k bU7).value.kids, dT (ss.getD k bU7).body, dT (ss.getD k bU7).els, .box (sL (ss.getD k bU7) 6)] [(2, iA n), (3, .ptr 3 0), (4, .ptr 5 0), (8, bA false), (10, .ptr 10 0), (11, .ref 4), (12, iA (ss.length : Int)), (13, iA k)] (iX k k ss.length []) (iK (by omega) bW1) fun G => b5 (wp_seq (e5 G (n7 4 [0, 1, 2, 3, 6, 7, 8, 9] (ih (ss.getD k bU7) ((f5 p.vars.length p.arrays.length d c (bV3 k ss)).snd) n (G9 (by omega) hp.2) (by assumption))) (rg 6) [dI p.vars, dI p.arrays, dT p.body, .box [iA ((n8 p.vars.length p.arrays.length d (f5 p.vars.length p.arrays.length d c (bV3 k ss)).snd (ss.getD k bU7)).snd : Int)], dT ss, .box (pL 0)] [(2, iA n), (3, .ptr 3 0), (4, .ptr 5 0), (8, bA false), (11, .ref 4), (12, iA (ss.length : Int)), (13, iA k), (22, .v (.bool !(n8 p.vars.length p.arrays.length d (f5 p.vars.length p.arrays.length d c (bV3 k ss)).snd (ss.getD k bU7)).fst))] fun G => b5 ?_))))))); cases h1 : (!(n8 p.vars.length p.arrays.length d (f5 p.vars.length p.arrays.length d c (bV3 k ss)).snd (ss.getD k bU7)).fst)
   · have q1 : ((n8 p.vars.length p.arrays.length d (f5 p.vars.length p.arrays.length d c (bV3 k ss)).snd (ss.getD k bU7)).fst) = true := (Eq.mp (bV5 _) h1); refine rF G _ h1 (wp_skip (j0 (b5 (z3 G c3 [(13, iA ((k : Int) + 1))] [wO ((k : Int) + 1)] (o1 (by omega)) fun G => b5 ?_)))); exact H9 G (k + 1) (⟨by omega, by rw [f5, ae9 hp.2 (by omega)]; assumption⟩) (by omega) (rg 6) (by have e1 : (((f5 p.vars.length p.arrays.length d c (bV3 (k + 1) ss)).snd : Int) : Int) = (((n8 p.vars.length p.arrays.length d (f5 p.vars.length p.arrays.length d c (bV3 k ss)).snd (ss.getD k bU7)).snd : Int)) := (by rw [f5, ae9 hp.2 (by omega)]); (first | rw [e1] | simp only [e1]) <;> rfl)
   · have q1 : ((n8 p.vars.length p.arrays.length d (f5 p.vars.length p.arrays.length d c (bV3 k ss)).snd (ss.getD k bU7)).fst) = false := (Eq.mp (bV2 _) h1); refine rT G _ h1 (wp_seq (d8 G c3 [] fun G => b5 (wp_ret (m7 (c8 (c8 (m7 (c8 ?_)))))))); exact l9 false G (rg 5) (by rw [f5, av6 hp.2 (by omega) (by assumption)]; assumption) (by show _ = mR (rg 5) [dI p.vars, dI p.arrays, dT p.body, .box [iA ((f5 p.vars.length p.arrays.length d c ss).snd : Int)], dT ss]; have e1 : (((f5 p.vars.length p.arrays.length d c ss).snd : Int) : Int) = (((n8 p.vars.length p.arrays.length d (f5 p.vars.length p.arrays.length d c (bV3 k ss)).snd (ss.getD k bU7)).snd : Int)) := (by rw [f5, av6 hp.2 (by omega) (by assumption)]); (first | rw [e1] | simp only [e1]) <;> rfl)
section
variable {nv na : Nat} {s : b6}
theorem s9 (k : s.kind = 1 ∨ s.kind = 5) : s8 nv na s = (decide (0 ≤ s.target ∧ s.target < nv ∧ s.body.length = 0 ∧ s.els.length = 0 ∧ s.count = 0) && (noneB s.index && f7 nv na s.value)) := by
 rw [s8, j6, if_pos k, if_neg (by omega), show decide (s.kind = 2) = false from decide_eq_false (by omega), bX7]
 simp only [bU8, decide_eq_true_eq, Bool.false_or]
 constructor
 ·rintro ⟨⟨⟨⟨a, b⟩, c⟩, d⟩, ⟨e, f⟩, g⟩; exact ⟨⟨e, f, a, b, c⟩, d, g⟩
 ·rintro ⟨⟨e, f, a, b, c⟩, d, g⟩; exact ⟨⟨⟨⟨a, b⟩, c⟩, d⟩, ⟨e, f⟩, g⟩
theorem C6 (k : s.kind = 2) : s8 nv na s = (decide (0 ≤ s.target ∧ s.target < na ∧ s.body.length = 0 ∧ s.els.length = 0 ∧ s.count = 0) && (f7 nv na s.index && (atomB s.index && f7 nv na s.value))) := by
 rw [s8, j6, if_neg (by omega), if_pos k, if_neg (by omega), show decide (s.kind = 2) = true from decide_eq_true k, bX7]
 simp only [bU8, decide_eq_true_eq, Bool.true_or]
 constructor
 ·rintro ⟨⟨⟨⟨a, b⟩, c⟩, -⟩, ⟨⟨⟨e, f⟩, i⟩, j⟩, g⟩; exact ⟨⟨e, f, a, b, c⟩, i, j, g⟩
 ·rintro ⟨⟨e, f, a, b, c⟩, i, j, g⟩; exact ⟨⟨⟨⟨a, b⟩, c⟩, bW1⟩, ⟨⟨⟨e, f⟩, i⟩, j⟩, g⟩
theorem P1 (k : s.kind = 3) : s8 nv na s = (decide (s.target = 0 ∧ s.count = 0) && (noneB s.index && f7 nv na s.value)) := by
 rw [s8, j6, if_pos (show s.kind = 3 ∨ s.kind = 4 from .inl k), if_neg (show ¬ s.kind = 4 by omega), if_neg (by omega), if_neg (by omega), if_pos k, bX7]
 simp only [bU8, decide_eq_true_eq]
 constructor
 ·rintro ⟨⟨a, b, c⟩, d⟩; exact ⟨⟨a, b⟩, c, d⟩
 ·rintro ⟨⟨a, b⟩, c, d⟩; exact ⟨⟨a, b, c⟩, d⟩
theorem N0 (k : s.kind = 4) : s8 nv na s = (decide (s.target = 0 ∧ s.els.length = 0 ∧ 1 ≤ s.count ∧ s.count ≤ 3) && (noneB s.index && noneB s.value)) := by
 rw [s8, j6, if_pos (show s.kind = 3 ∨ s.kind = 4 from .inr k), if_pos k, if_neg (by omega), if_neg (by omega), if_neg (by omega), show decide (s.kind = 4) = true from decide_eq_true k, bX7]
 simp only [bU8, decide_eq_true_eq]
 constructor
 ·rintro ⟨⟨a, ⟨⟨⟨b, c⟩, d⟩, e⟩, f⟩, -⟩; exact ⟨⟨a, b, c, d⟩, e, f⟩
 ·rintro ⟨⟨a, b, c, d⟩, e, f⟩; exact ⟨⟨a, ⟨⟨⟨b, c⟩, d⟩, e⟩, f⟩, bW1⟩
theorem aC2 (k : ¬ s.kind = 1 ∧ ¬ s.kind = 2 ∧ ¬ s.kind = 3 ∧ ¬ s.kind = 4 ∧ ¬ s.kind = 5) : s8 nv na s = false := by
 rw [s8, if_neg (by omega), if_neg (by omega), if_neg (by omega), show decide (s.kind = 4) = false from decide_eq_false (by omega), Bool.and_false]
theorem K8 {p : Prop} [Decidable p] {a b : Bool} (hp : p) (ha : a = true) (hb : b = true) : (decide p && (a && b)) = true := by rw [ha, hb, decide_eq_true hp]; rfl
theorem aJ0 {p : Prop} [Decidable p] {a b c : Bool} (hp : p) (ha : a = true) (hb : b = true) (hc : c = true) : (decide p && (a && (b && c))) = true := by rw [ha, hb, hc, decide_eq_true hp]; rfl
end
abbrev ab9 (p : b8) (d : Nat) (s : b6) (c : Nat) := f5 p.vars.length p.arrays.length d (f5 p.vars.length p.arrays.length d (c + 1) s.body).snd s.els
abbrev ab8 (p : b8) (d : Nat) (s : b6) (c : Nat) := f5 p.vars.length p.arrays.length d (c + 1) s.body
abbrev i5 (p : b8) (d : Nat) (s : b6) (c : Nat) : List It := [dI p.vars, dI p.arrays, dT p.body, .box [iA ((n8 p.vars.length p.arrays.length (d + 1) c s).snd : Int)], dE s.index.kids, dE s.value.kids, dT s.body, dT s.els]
abbrev R0 (s : b6) (r0 : List It) : List It := dE s.index.kids :: dE s.value.kids :: dT s.body :: dT s.els :: r0
abbrev Q9 (p : b8) (r0 : List It) : List It := dI p.vars :: dI p.arrays :: dT p.body :: r0
theorem bt3 (p : b8) (d : Nat) (hd : d ≤ 4) (ih : ∀ (ss : List b6) (c : Nat) (n : Int), c ≤ 60 → n = 6 - (d : Int) → d9.ok Tryz.prog (aT1 p d c ss n))
    (s : b6) (c : Nat) (n : Int) (hc : c ≤ 60) (hn : n = 5 - (d : Int)) : d9.ok Tryz.prog (bv7 p (d + 1) c s n) := by
  have h100 : decide (n > 5) = false := by simp; omega
  refine t8 149 Tryz.func56 (Q9 p (.box [iA c] :: (R0 s []))) [(0, pA 0), (1, sA s 4), (2, iA n), (3, .ptr 3 0)] fun G => ?_; have hl0 : p.vars.length ≤ 9223372036854775807 := G.len 0 (d := .ints p.vars) (by kernel_rfl); have hl1 : p.arrays.length ≤ 9223372036854775807 := G.len 1 (d := .ints p.arrays) (by kernel_rfl); refine wp_seq (e5 G c3 [0, 1, 2, 3, 4, 5, 6, 7, 8, 16] (Q9 p (.box [iA c] :: (R0 s [.box (pL 0), .box (sL s 4)]))) [(2, iA n), (3, .ptr 3 0), (4, .ptr 8 0), (5, .ptr 9 0), (8, bA false)] fun G => b5 (wp_seq (L5 G c3 (rg 10) (Q9 p (.box [iA ((c : Int) + 1)] :: (R0 s [.box (pL 0), .box (sL s 4)]))) [(2, iA n), (3, .ptr 3 0), (4, .ptr 8 0), (5, .ptr 9 0), (8, bA false)] [wO ((c : Int) + 1)] (o1 (by omega)) fun G => b5 (wp_seq (wp_seq ?_))))); cases h0 : (decide ((c : Int) + 1 > 60))
  ·
   have q0 := P3 h0; refine d8 G (z4 (fc h0 fz) [(5, 0), (6, 0), (1007, 0)]) [(27, bA (decide (n > 5)))] fun G => b5 (rF G (decide (n > 5)) (by assumption) (wp_skip (b5 (wp_seq (d8 G c3 [(9, iA 1), (10, bA false), (11, bA true), (12, bA false), (13, bA false), (14, bA false)] fun G => b5 (wp_seq (wp_seq (d8 G c3 [(29, iA s.kind)] fun G => b5 (wp_block (wp_seq (wp_seq (d8 G c3 [(30, bA (s.kind == 1))] fun G => b5 (I1 G (fun h1 q1 => ?_) fun h1 q1 => ?_)))))))))))))
   ·
    refine d8 G c3 [(30, bA (s.kind == 5))] fun G => b5 (I1 G (fun h2 q2 => ?_) fun h2 q2 => ?_)
    ·
     refine wp_seq (d8 G c3 [(36, bA (s.kind == 2))] fun G => b5 (I1 G (fun h3 q3 => ?_) fun h3 q3 => ?_))
     ·
      refine wp_seq (d8 G c3 [(41, bA (s.kind == 3))] fun G => b5 (I1 G (fun h4 q4 => ?_) fun h4 q4 => ?_))
      ·
       refine wp_seq (d8 G c3 [(43, bA (s.kind == 4))] fun G => b5 (I1 G (fun h5 q5 => ?_) fun h5 q5 => ?_))
       · refine wp_seq (d8 G c3 [] fun G => b5 (wp_ret (m7 (c8 ?_)))); exact l9 false G (rg 8) (by rw [c7 (aC2 (by omega))]; done) (by show _ = mR (rg 8) (i5 p d s c); unfold i5; rw [c7 (aC2 (by omega))] <;> rfl)
       ·
        refine d8 G c3 [(11, bA false), (12, bA true), (13, bA true)] fun G => j0 (b5 (wp_seq (wp_seq ?_))); cases h6 : (!(decide ((0 : Int) ≤ s.target) && decide (s.target ≤ 0)))
        ·
         have q6 : (0 ≤ s.target) ∧ (s.target ≤ 0) := (fun hq => And.imp (fun hq => of_decide_eq_true hq) (fun hq => of_decide_eq_true hq) (bX4.1 hq)) (Eq.mp (bV5 _) h6); cases h7 : (!(decide ((1 : Int) ≤ s.count) && decide (s.count ≤ 3)))
         ·
          have q7 : (1 ≤ s.count) ∧ (s.count ≤ 3) := (fun hq => And.imp (fun hq => of_decide_eq_true hq) (fun hq => of_decide_eq_true hq) (bX4.1 hq)) (Eq.mp (bV5 _) h7); refine z3 G (m5 (f6 4 [] (p6 s.target 0 0) (f6 11 [] (p6 s.count 1 3) m0)) (fc h6 (fc (b := true) rfl (fc h7 (fc (b := false) rfl fz)))) (us [(7, 8, 0), (9, 12, 1), (13, 13, 0), (1013, 1013, 1), (1014, 1014, 0), (16, 18, 2), (19, 21, 3), (22, 22, 2), (1022, 1022, 3), (1023, 1023, 2), (25, 32, 3), (1032, 1033, 3), (35, 37, 3), (38, 41, 1), (42, 42, 3), (1042, 1042, 1), (1043, 1043, 3)])) [(88, bA (decide ((s.els.length : Int) > 0)))] [IntKind.i64.wrap ((1 : Int) - 1) = 1 - 1] ⟨(by kernel_rfl), bW1⟩ fun G => b5 (H2 G (fun h8 q8 => ?_) fun h8 q8 => ?_)
          ·
           refine wp_skip (b5 (wp_seq (wp_seq ?_))); cases h9 : (!noneB s.index)
           ·
            have q9 : (noneB s.index) = true := (Eq.mp (bV5 _) h9); refine d8 G (m5 (f6 20 [4] (A3 s.index) (f6 40 [5] (A3 s.value) m0)) (fc (b := false) rfl (fc (b := true) rfl (fc h9 fz))) (us [(2, 7, 0), (12, 12, 0), (1013, 1013, 0), (15, 17, 0), (18, 21, 1), (22, 22, 0), (1022, 1022, 1), (1023, 1023, 0), (25, 26, 2), (27, 31, 0), (32, 32, 2), (1032, 1032, 0), (1033, 1033, 2), (35, 37, 0), (38, 41, 1), (42, 42, 0), (1042, 1042, 1), (1043, 1043, 0)])) [(132, .v (.bool !noneB s.value))] fun G => b5 ?_; cases h10 : (!noneB s.value)
            ·
             have q10 : (noneB s.value) = true := (Eq.mp (bV5 _) h10); refine rF G _ h10 (wp_skip (b5 (wp_seq ?_))); cases h11 : ((f5 p.vars.length p.arrays.length d (c + (1 : Nat)) s.body).fst)
             · refine L5 G (m5 (f6 6 [0, 1, 2, 3, 6] (ih s.body (c + 1) (n + 1) (by simp; omega) (by omega)) m0) (fc h11 fz) (us [(8, 14, 0), (1015, 1015, 0)])) (rg 8) (Q9 p (.box [iA ((ab8 p d s c).snd : Int)] :: (R0 s []))) [(8, bA false)] [wO (n + 1)] (o1 (by omega)) fun G => b5 (wp_ret ?_); exact l9 false G (rg 8) (by rw [v8 (by omega) (by (rw [N0 (by omega)]; exact K8 (by omega) (by assumption) (by assumption))) (by assumption)]; assumption) (by show _ = mR (rg 8) (i5 p d s c); unfold i5; rw [v8 (by omega) (by (rw [N0 (by omega)]; exact K8 (by omega) (by assumption) (by assumption))) (by assumption)] <;> rfl)
             · refine L5 G (m5 (f6 6 [0, 1, 2, 3, 6] (ih s.body (c + 1) (n + 1) (by simp; omega) (by omega)) (f6 14 [0, 1, 2, 3, 7] (ih s.els ((ab8 p d s c).snd) (n + 1) (G9 (by omega) (by assumption)) (by omega)) m0)) (fc h11 fz) (us [(8, 14, 0), (1015, 1015, 0)])) (rg 8) (Q9 p (.box [iA ((ab9 p d s c).snd : Int)] :: (R0 s []))) [(8, bA (ab9 p d s c).fst)] [wO (n + 1), wO (n + 1)] (o2 (by omega)) fun G => b5 (wp_ret ?_); exact l9 ((f5 p.vars.length p.arrays.length d (f5 p.vars.length p.arrays.length d (c + 1) s.body).snd s.els).fst) G (rg 8) (by rw [y6 (by omega) (by (rw [N0 (by omega)]; exact K8 (by omega) (by assumption) (by assumption))) (by assumption)]; done) (by show _ = mR (rg 8) (i5 p d s c); unfold i5; rw [y6 (by omega) (by (rw [N0 (by omega)]; exact K8 (by omega) (by assumption) (by assumption))) (by assumption)] <;> rfl)
            · have q10 : (noneB s.value) = false := (Eq.mp (bV2 _) h10); refine rT G _ h10 (wp_seq (d8 G c3 [] fun G => b5 (wp_ret (c8 ?_)))); exact l9 false G (rg 8) (by rw [c7 (by (rw [N0 (by omega)]; simp [h100, h0, q0, h1, q1, h2, q2, h3, q3, h4, q4, h5, q5, h6, q6, h7, q7, h8, q8, h9, q9, h10, q10]; done))]; done) (by show _ = mR (rg 8) (i5 p d s c); unfold i5; rw [c7 (by (rw [N0 (by omega)]; simp [h100, h0, q0, h1, q1, h2, q2, h3, q3, h4, q4, h5, q5, h6, q6, h7, q7, h8, q8, h9, q9, h10, q10]; done))] <;> rfl)
           · have q9 : (noneB s.index) = false := (Eq.mp (bV2 _) h9); refine d8 G (m5 (f6 20 [4] (A3 s.index) m0) (fc (b := false) rfl (fc (b := true) rfl (fc h9 fz))) (us [(2, 7, 0), (12, 12, 0), (1013, 1013, 0), (15, 17, 0), (18, 21, 1), (22, 22, 0), (1022, 1022, 1), (1023, 1023, 0), (25, 26, 2), (32, 32, 2), (1033, 1033, 2), (35, 37, 1), (42, 42, 1), (1043, 1043, 1)])) [(132, bA true)] fun G => b5 (rT G true (by kernel_rfl) (wp_seq (d8 G c3 [] fun G => b5 (wp_ret (c8 ?_))))); exact l9 false G (rg 8) (by rw [c7 (by (rw [N0 (by omega)]; simp [h100, h0, q0, h1, q1, h2, q2, h3, q3, h4, q4, h5, q5, h6, q6, h7, q7, h8, q8, h9, q9]; done))]; done) (by show _ = mR (rg 8) (i5 p d s c); unfold i5; rw [c7 (by (rw [N0 (by omega)]; simp [h100, h0, q0, h1, q1, h2, q2, h3, q3, h4, q4, h5, q5, h6, q6, h7, q7, h8, q8, h9, q9]; done))] <;> rfl)
          · refine wp_seq (d8 G c3 [] fun G => b5 (wp_ret (c8 ?_))); exact l9 false G (rg 8) (by rw [c7 (by (rw [N0 (by omega), decide_eq_false (by omega)]; rfl))]; done) (by show _ = mR (rg 8) (i5 p d s c); unfold i5; rw [c7 (by (rw [N0 (by omega), decide_eq_false (by omega)]; rfl))] <;> rfl)
         · have q7 : (¬ (1 ≤ s.count)) ∨ (¬ (s.count ≤ 3)) := (fun hq => Or.imp (fun hq => of_decide_eq_false hq) (fun hq => of_decide_eq_false hq) (bX3.1 hq)) (Eq.mp (bV2 _) h7); refine z3 G (m5 (f6 4 [] (p6 s.target 0 0) (f6 11 [] (p6 s.count 1 3) m0)) (fc h6 (fc (b := true) rfl (fc h7 fz))) (us [(7, 8, 0), (9, 12, 1), (13, 13, 0), (1013, 1013, 1), (1014, 1014, 0), (16, 18, 2), (22, 22, 2), (1023, 1023, 2), (25, 27, 1), (32, 32, 1), (1033, 1033, 1), (35, 37, 1), (42, 42, 1), (1043, 1043, 1)])) [(88, bA true)] [IntKind.i64.wrap ((1 : Int) - 1) = 1 - 1] ⟨(by kernel_rfl), bW1⟩ fun G => b5 (rT G true (by kernel_rfl) (wp_seq (d8 G c3 [] fun G => b5 (wp_ret (c8 ?_))))); exact l9 false G (rg 8) (by rw [c7 (by (rw [N0 (by omega), decide_eq_false (by omega)]; rfl))]; done) (by show _ = mR (rg 8) (i5 p d s c); unfold i5; rw [c7 (by (rw [N0 (by omega), decide_eq_false (by omega)]; rfl))] <;> rfl)
        · have q6 : (¬ (0 ≤ s.target)) ∨ (¬ (s.target ≤ 0)) := (fun hq => Or.imp (fun hq => of_decide_eq_false hq) (fun hq => of_decide_eq_false hq) (bX3.1 hq)) (Eq.mp (bV2 _) h6); refine z3 G (m5 (f6 4 [] (p6 s.target 0 0) m0) (fc h6 (fc (b := true) rfl fz)) [(7, 0), (8, 0), (13, 0), (1014, 0), (16, 1), (17, 1), (18, 1), (22, 1), (1023, 1), (25, 1), (26, 1), (27, 1), (32, 1), (1033, 1), (35, 1), (36, 1), (37, 1), (42, 1), (1043, 1)]) [(88, bA true)] [IntKind.i64.wrap ((1 : Int) - 1) = 1 - 1] ⟨(by kernel_rfl), bW1⟩ fun G => b5 (rT G true (by kernel_rfl) (wp_seq (d8 G c3 [] fun G => b5 (wp_ret (c8 ?_))))); exact l9 false G (rg 8) (by rw [c7 (by (rw [N0 (by omega), decide_eq_false (by omega)]; rfl))]; done) (by show _ = mR (rg 8) (i5 p d s c); unfold i5; rw [c7 (by (rw [N0 (by omega), decide_eq_false (by omega)]; rfl))] <;> rfl)
      ·
       refine d8 G c3 [(13, bA true), (14, bA true)] fun G => j0 (b5 (wp_seq (wp_seq ?_))); cases h12 : (!(decide ((0 : Int) ≤ s.target) && decide (s.target ≤ 0)))
       ·
        have q12 : (0 ≤ s.target) ∧ (s.target ≤ 0) := (fun hq => And.imp (fun hq => of_decide_eq_true hq) (fun hq => of_decide_eq_true hq) (bX4.1 hq)) (Eq.mp (bV5 _) h12); cases h13 : (s.count != 0)
        ·
         have q13 := bne_eq_false_iff_eq.1 h13; refine z3 G (m5 (f6 4 [] (p6 s.target 0 0) m0) (fc h12 (fc (b := false) rfl (fc (b := true) rfl (fc h13 fz)))) (us [(7, 8, 0), (9, 12, 1), (13, 13, 0), (1013, 1013, 1), (1014, 1014, 0), (16, 18, 1), (19, 21, 2), (22, 22, 1), (1022, 1022, 2), (1023, 1023, 1), (25, 27, 3), (28, 31, 1), (32, 32, 3), (1032, 1032, 1), (1033, 1033, 3), (35, 42, 1), (1042, 1043, 1)])) [(88, bA false)] [IntKind.i64.wrap ((1 : Int) - 1) = 1 - 1] ⟨(by kernel_rfl), bW1⟩ fun G => b5 (rF G false (by kernel_rfl) (wp_skip (b5 (wp_seq (wp_seq ?_))))); cases h14 : (!noneB s.index)
         ·
          have q14 : (noneB s.index) = true := (Eq.mp (bV5 _) h14); cases h15 : (!f7 p.vars.length p.arrays.length s.value)
          ·
           have q15 : (f7 p.vars.length p.arrays.length s.value) = true := (Eq.mp (bV5 _) h15); refine d8 G (m5 (f6 20 [4] (A3 s.index) (f6 30 [0, 1, 2, 5] (J9 p s.value) m0)) (fc (b := false) rfl (fc (b := true) rfl (fc h14 (fc h15 fz)))) (us [(2, 7, 0), (12, 12, 0), (1013, 1013, 0), (15, 17, 0), (18, 21, 1), (22, 22, 0), (1022, 1022, 1), (1023, 1023, 0), (25, 26, 2), (27, 31, 1), (32, 32, 2), (1032, 1032, 1), (1033, 1033, 2), (35, 37, 3), (38, 41, 0), (42, 42, 3), (1042, 1042, 0), (1043, 1043, 3)])) [(132, bA false)] fun G => b5 (rF G false (by kernel_rfl) (wp_skip (b5 (wp_seq ?_)))); cases h16 : ((f5 p.vars.length p.arrays.length d (c + (1 : Nat)) s.body).fst)
           · refine L5 G (m5 (f6 6 [0, 1, 2, 3, 6] (ih s.body (c + 1) (n + 1) (by simp; omega) (by omega)) m0) (fc h16 fz) (us [(8, 14, 0), (1015, 1015, 0)])) (rg 8) (Q9 p (.box [iA ((ab8 p d s c).snd : Int)] :: (R0 s []))) [(8, bA false)] [wO (n + 1)] (o1 (by omega)) fun G => b5 (wp_ret ?_); exact l9 false G (rg 8) (by rw [v8 (by omega) (by (rw [P1 (by omega)]; exact K8 (by omega) (by assumption) (by assumption))) (by assumption)]; assumption) (by show _ = mR (rg 8) (i5 p d s c); unfold i5; rw [v8 (by omega) (by (rw [P1 (by omega)]; exact K8 (by omega) (by assumption) (by assumption))) (by assumption)] <;> rfl)
           · refine L5 G (m5 (f6 6 [0, 1, 2, 3, 6] (ih s.body (c + 1) (n + 1) (by simp; omega) (by omega)) (f6 14 [0, 1, 2, 3, 7] (ih s.els ((ab8 p d s c).snd) (n + 1) (G9 (by omega) (by assumption)) (by omega)) m0)) (fc h16 fz) (us [(8, 14, 0), (1015, 1015, 0)])) (rg 8) (Q9 p (.box [iA ((ab9 p d s c).snd : Int)] :: (R0 s []))) [(8, bA (ab9 p d s c).fst)] [wO (n + 1), wO (n + 1)] (o2 (by omega)) fun G => b5 (wp_ret ?_); exact l9 ((f5 p.vars.length p.arrays.length d (f5 p.vars.length p.arrays.length d (c + 1) s.body).snd s.els).fst) G (rg 8) (by rw [y6 (by omega) (by (rw [P1 (by omega)]; exact K8 (by omega) (by assumption) (by assumption))) (by assumption)]; done) (by show _ = mR (rg 8) (i5 p d s c); unfold i5; rw [y6 (by omega) (by (rw [P1 (by omega)]; exact K8 (by omega) (by assumption) (by assumption))) (by assumption)] <;> rfl)
          · have q15 : (f7 p.vars.length p.arrays.length s.value) = false := (Eq.mp (bV2 _) h15); refine d8 G (m5 (f6 20 [4] (A3 s.index) (f6 30 [0, 1, 2, 5] (J9 p s.value) m0)) (fc (b := false) rfl (fc (b := true) rfl (fc h14 (fc h15 fz)))) (us [(2, 7, 0), (12, 12, 0), (1013, 1013, 0), (15, 17, 0), (18, 21, 1), (22, 22, 0), (1022, 1022, 1), (1023, 1023, 0), (25, 26, 2), (27, 31, 1), (32, 32, 2), (1032, 1032, 1), (1033, 1033, 2), (35, 37, 3), (42, 42, 3), (1043, 1043, 3)])) [(132, bA true)] fun G => b5 (rT G true (by kernel_rfl) (wp_seq (d8 G c3 [] fun G => b5 (wp_ret (c8 ?_))))); exact l9 false G (rg 8) (by rw [c7 (by (rw [P1 (by omega)]; simp [h100, h0, q0, h1, q1, h2, q2, h3, q3, h4, q4, h12, q12, h13, q13, h14, q14, h15, q15]; done))]; done) (by show _ = mR (rg 8) (i5 p d s c); unfold i5; rw [c7 (by (rw [P1 (by omega)]; simp [h100, h0, q0, h1, q1, h2, q2, h3, q3, h4, q4, h12, q12, h13, q13, h14, q14, h15, q15]; done))] <;> rfl)
         · have q14 : (noneB s.index) = false := (Eq.mp (bV2 _) h14); refine d8 G (m5 (f6 20 [4] (A3 s.index) m0) (fc (b := false) rfl (fc (b := true) rfl (fc h14 fz))) (us [(2, 7, 0), (12, 12, 0), (1013, 1013, 0), (15, 17, 0), (18, 21, 1), (22, 22, 0), (1022, 1022, 1), (1023, 1023, 0), (25, 26, 2), (32, 32, 2), (1033, 1033, 2), (35, 37, 1), (42, 42, 1), (1043, 1043, 1)])) [(132, bA true)] fun G => b5 (rT G true (by kernel_rfl) (wp_seq (d8 G c3 [] fun G => b5 (wp_ret (c8 ?_))))); exact l9 false G (rg 8) (by rw [c7 (by (rw [P1 (by omega)]; simp [h100, h0, q0, h1, q1, h2, q2, h3, q3, h4, q4, h12, q12, h13, q13, h14, q14]; done))]; done) (by show _ = mR (rg 8) (i5 p d s c); unfold i5; rw [c7 (by (rw [P1 (by omega)]; simp [h100, h0, q0, h1, q1, h2, q2, h3, q3, h4, q4, h12, q12, h13, q13, h14, q14]; done))] <;> rfl)
        · have q13 := bne_iff_ne.1 h13; refine z3 G (m5 (f6 4 [] (p6 s.target 0 0) m0) (fc h12 (fc (b := false) rfl (fc (b := true) rfl (fc h13 fz)))) (us [(7, 8, 0), (9, 12, 1), (13, 13, 0), (1013, 1013, 1), (1014, 1014, 0), (16, 18, 1), (19, 21, 2), (22, 22, 1), (1022, 1022, 2), (1023, 1023, 1), (25, 27, 3), (32, 32, 3), (1033, 1033, 3), (35, 37, 2), (42, 42, 2), (1043, 1043, 2)])) [(88, bA true)] [IntKind.i64.wrap ((1 : Int) - 1) = 1 - 1] ⟨(by kernel_rfl), bW1⟩ fun G => b5 (rT G true (by kernel_rfl) (wp_seq (d8 G c3 [] fun G => b5 (wp_ret (c8 ?_))))); exact l9 false G (rg 8) (by rw [c7 (by (rw [P1 (by omega), decide_eq_false (by omega)]; rfl))]; done) (by show _ = mR (rg 8) (i5 p d s c); unfold i5; rw [c7 (by (rw [P1 (by omega), decide_eq_false (by omega)]; rfl))] <;> rfl)
       · have q12 : (¬ (0 ≤ s.target)) ∨ (¬ (s.target ≤ 0)) := (fun hq => Or.imp (fun hq => of_decide_eq_false hq) (fun hq => of_decide_eq_false hq) (bX3.1 hq)) (Eq.mp (bV2 _) h12); refine z3 G (m5 (f6 4 [] (p6 s.target 0 0) m0) (fc h12 (fc (b := true) rfl fz)) [(7, 0), (8, 0), (13, 0), (1014, 0), (16, 1), (17, 1), (18, 1), (22, 1), (1023, 1), (25, 1), (26, 1), (27, 1), (32, 1), (1033, 1), (35, 1), (36, 1), (37, 1), (42, 1), (1043, 1)]) [(88, bA true)] [IntKind.i64.wrap ((1 : Int) - 1) = 1 - 1] ⟨(by kernel_rfl), bW1⟩ fun G => b5 (rT G true (by kernel_rfl) (wp_seq (d8 G c3 [] fun G => b5 (wp_ret (c8 ?_))))); exact l9 false G (rg 8) (by rw [c7 (by (rw [P1 (by omega), decide_eq_false (by omega)]; rfl))]; done) (by show _ = mR (rg 8) (i5 p d s c); unfold i5; rw [c7 (by (rw [P1 (by omega), decide_eq_false (by omega)]; rfl))] <;> rfl)
     ·
      refine d8 G c3 [(9, iA (p.arrays.length : Int)), (10, bA true)] fun G => j0 (b5 (wp_seq (wp_seq ?_))); cases h17 : (!(decide ((0 : Int) ≤ s.target) && decide (s.target ≤ (p.arrays.length : Int) - 1)))
      ·
       have q17 : (0 ≤ s.target) ∧ (s.target ≤ (p.arrays.length : Int) - 1) := (fun hq => And.imp (fun hq => of_decide_eq_true hq) (fun hq => of_decide_eq_true hq) (bX4.1 hq)) (Eq.mp (bV5 _) h17); cases h18 : (s.count != 0)
       ·
        have q18 := bne_eq_false_iff_eq.1 h18; cases h19 : (decide ((s.body.length : Int) > 0))
        ·
         have q19 := P3 h19; refine z3 G (m5 (f6 4 [] (p6 s.target 0 ((p.arrays.length : Int) - 1)) m0) (fc h17 (fc (b := false) rfl (fc (b := true) rfl (fc h18 (fc h19 fz))))) (us [(7, 8, 0), (9, 12, 1), (13, 13, 0), (1013, 1013, 1), (1014, 1014, 0), (16, 18, 1), (19, 21, 2), (22, 22, 1), (1022, 1022, 2), (1023, 1023, 1), (25, 27, 3), (28, 31, 2), (32, 32, 3), (1032, 1032, 2), (1033, 1033, 3), (35, 37, 4), (38, 41, 2), (42, 42, 4), (1042, 1042, 2), (1043, 1043, 4)])) [(88, bA (decide ((s.els.length : Int) > 0)))] [wO ((p.arrays.length : Int) - 1)] (o1 (by omega)) fun G => b5 (H2 G (fun h20 q20 => ?_) fun h20 q20 => ?_)
         ·
          refine wp_skip (b5 (wp_seq (wp_seq ?_))); cases h21 : (!f7 p.vars.length p.arrays.length s.index)
          ·
           have q21 : (f7 p.vars.length p.arrays.length s.index) = true := (Eq.mp (bV5 _) h21); cases h22 : (!atomB s.index)
           ·
            have q22 : (atomB s.index) = true := (Eq.mp (bV5 _) h22); cases h23 : (!f7 p.vars.length p.arrays.length s.value)
            ·
             have q23 : (f7 p.vars.length p.arrays.length s.value) = true := (Eq.mp (bV5 _) h23); refine d8 G (m5 (f6 5 [0, 1, 2, 4] (J9 p s.index) (f6 10 [4] (al7 s.index) (f6 30 [0, 1, 2, 5] (J9 p s.value) m0))) (fc (b := true) rfl (fc h21 (fc h22 (fc (b := false) rfl (fc h23 fz))))) (us [(2, 7, 0), (8, 11, 1), (12, 12, 0), (1012, 1012, 1), (1013, 1013, 0), (15, 17, 2), (18, 21, 3), (22, 22, 2), (1022, 1022, 3), (1023, 1023, 2), (25, 26, 3), (27, 31, 0), (32, 32, 3), (1032, 1032, 0), (1033, 1033, 3), (35, 37, 4), (38, 41, 3), (42, 42, 4), (1042, 1042, 3), (1043, 1043, 4)])) [(132, bA false)] fun G => b5 (rF G false (by kernel_rfl) (wp_skip (b5 (wp_seq ?_)))); cases h24 : ((f5 p.vars.length p.arrays.length d (c + (1 : Nat)) s.body).fst)
             · refine L5 G (m5 (f6 6 [0, 1, 2, 3, 6] (ih s.body (c + 1) (n + 1) (by simp; omega) (by omega)) m0) (fc h24 fz) (us [(8, 14, 0), (1015, 1015, 0)])) (rg 8) (Q9 p (.box [iA ((ab8 p d s c).snd : Int)] :: (R0 s []))) [(8, bA false)] [wO (n + 1)] (o1 (by omega)) fun G => b5 (wp_ret ?_); exact l9 false G (rg 8) (by rw [v8 (by omega) (by (rw [C6 (by omega)]; exact aJ0 (by omega) (by assumption) (by assumption) (by assumption))) (by assumption)]; assumption) (by show _ = mR (rg 8) (i5 p d s c); unfold i5; rw [v8 (by omega) (by (rw [C6 (by omega)]; exact aJ0 (by omega) (by assumption) (by assumption) (by assumption))) (by assumption)] <;> rfl)
             · refine L5 G (m5 (f6 6 [0, 1, 2, 3, 6] (ih s.body (c + 1) (n + 1) (by simp; omega) (by omega)) (f6 14 [0, 1, 2, 3, 7] (ih s.els ((ab8 p d s c).snd) (n + 1) (G9 (by omega) (by assumption)) (by omega)) m0)) (fc h24 fz) (us [(8, 14, 0), (1015, 1015, 0)])) (rg 8) (Q9 p (.box [iA ((ab9 p d s c).snd : Int)] :: (R0 s []))) [(8, bA (ab9 p d s c).fst)] [wO (n + 1), wO (n + 1)] (o2 (by omega)) fun G => b5 (wp_ret ?_); exact l9 ((f5 p.vars.length p.arrays.length d (f5 p.vars.length p.arrays.length d (c + 1) s.body).snd s.els).fst) G (rg 8) (by rw [y6 (by omega) (by (rw [C6 (by omega)]; exact aJ0 (by omega) (by assumption) (by assumption) (by assumption))) (by assumption)]; done) (by show _ = mR (rg 8) (i5 p d s c); unfold i5; rw [y6 (by omega) (by (rw [C6 (by omega)]; exact aJ0 (by omega) (by assumption) (by assumption) (by assumption))) (by assumption)] <;> rfl)
            · have q23 : (f7 p.vars.length p.arrays.length s.value) = false := (Eq.mp (bV2 _) h23); refine d8 G (m5 (f6 5 [0, 1, 2, 4] (J9 p s.index) (f6 10 [4] (al7 s.index) (f6 30 [0, 1, 2, 5] (J9 p s.value) m0))) (fc (b := true) rfl (fc h21 (fc h22 (fc (b := false) rfl (fc h23 fz))))) (us [(2, 7, 0), (8, 11, 1), (12, 12, 0), (1012, 1012, 1), (1013, 1013, 0), (15, 17, 2), (18, 21, 3), (22, 22, 2), (1022, 1022, 3), (1023, 1023, 2), (25, 26, 3), (27, 31, 0), (32, 32, 3), (1032, 1032, 0), (1033, 1033, 3), (35, 37, 4), (42, 42, 4), (1043, 1043, 4)])) [(132, bA true)] fun G => b5 (rT G true (by kernel_rfl) (wp_seq (d8 G c3 [] fun G => b5 (wp_ret (c8 ?_))))); exact l9 false G (rg 8) (by rw [c7 (by (rw [C6 (by omega)]; simp [h100, h0, q0, h1, q1, h2, q2, h3, q3, h17, q17, h18, q18, h19, q19, h20, q20, h21, q21, h22, q22, h23, q23]; done))]; done) (by show _ = mR (rg 8) (i5 p d s c); unfold i5; rw [c7 (by (rw [C6 (by omega)]; simp [h100, h0, q0, h1, q1, h2, q2, h3, q3, h17, q17, h18, q18, h19, q19, h20, q20, h21, q21, h22, q22, h23, q23]; done))] <;> rfl)
           · have q22 : (atomB s.index) = false := (Eq.mp (bV2 _) h22); refine d8 G (m5 (f6 5 [0, 1, 2, 4] (J9 p s.index) (f6 10 [4] (al7 s.index) m0)) (fc (b := true) rfl (fc h21 (fc h22 fz))) (us [(2, 7, 0), (8, 11, 1), (12, 12, 0), (1012, 1012, 1), (1013, 1013, 0), (15, 17, 2), (22, 22, 2), (1023, 1023, 2), (25, 26, 0), (32, 32, 0), (1033, 1033, 0), (35, 37, 0), (42, 42, 0), (1043, 1043, 0)])) [(132, bA true)] fun G => b5 (rT G true (by kernel_rfl) (wp_seq (d8 G c3 [] fun G => b5 (wp_ret (c8 ?_))))); exact l9 false G (rg 8) (by rw [c7 (by (rw [C6 (by omega)]; simp [h100, h0, q0, h1, q1, h2, q2, h3, q3, h17, q17, h18, q18, h19, q19, h20, q20, h21, q21, h22, q22]; done))]; done) (by show _ = mR (rg 8) (i5 p d s c); unfold i5; rw [c7 (by (rw [C6 (by omega)]; simp [h100, h0, q0, h1, q1, h2, q2, h3, q3, h17, q17, h18, q18, h19, q19, h20, q20, h21, q21, h22, q22]; done))] <;> rfl)
          · have q21 : (f7 p.vars.length p.arrays.length s.index) = false := (Eq.mp (bV2 _) h21); refine d8 G (m5 (f6 5 [0, 1, 2, 4] (J9 p s.index) m0) (fc (b := true) rfl (fc h21 fz)) (us [(2, 7, 0), (8, 11, 1), (12, 12, 0), (1012, 1012, 1), (1013, 1013, 0), (15, 17, 0), (22, 22, 0), (1023, 1023, 0), (25, 26, 0), (32, 32, 0), (1033, 1033, 0), (35, 37, 0), (42, 42, 0), (1043, 1043, 0)])) [(132, bA true)] fun G => b5 (rT G true (by kernel_rfl) (wp_seq (d8 G c3 [] fun G => b5 (wp_ret (c8 ?_))))); exact l9 false G (rg 8) (by rw [c7 (by (rw [C6 (by omega)]; simp [h100, h0, q0, h1, q1, h2, q2, h3, q3, h17, q17, h18, q18, h19, q19, h20, q20, h21, q21]; done))]; done) (by show _ = mR (rg 8) (i5 p d s c); unfold i5; rw [c7 (by (rw [C6 (by omega)]; simp [h100, h0, q0, h1, q1, h2, q2, h3, q3, h17, q17, h18, q18, h19, q19, h20, q20, h21, q21]; done))] <;> rfl)
         · refine wp_seq (d8 G c3 [] fun G => b5 (wp_ret (c8 ?_))); exact l9 false G (rg 8) (by rw [c7 (by (rw [C6 (by omega), decide_eq_false (by omega)]; rfl))]; done) (by show _ = mR (rg 8) (i5 p d s c); unfold i5; rw [c7 (by (rw [C6 (by omega), decide_eq_false (by omega)]; rfl))] <;> rfl)
        · have q19 := P2 h19; refine z3 G (m5 (f6 4 [] (p6 s.target 0 ((p.arrays.length : Int) - 1)) m0) (fc h17 (fc (b := false) rfl (fc (b := true) rfl (fc h18 (fc h19 fz))))) (us [(7, 8, 0), (9, 12, 1), (13, 13, 0), (1013, 1013, 1), (1014, 1014, 0), (16, 18, 1), (19, 21, 2), (22, 22, 1), (1022, 1022, 2), (1023, 1023, 1), (25, 27, 3), (28, 31, 2), (32, 32, 3), (1032, 1032, 2), (1033, 1033, 3), (35, 37, 4), (42, 42, 4), (1043, 1043, 4)])) [(88, bA true)] [wO ((p.arrays.length : Int) - 1)] (o1 (by omega)) fun G => b5 (rT G true (by kernel_rfl) (wp_seq (d8 G c3 [] fun G => b5 (wp_ret (c8 ?_))))); exact l9 false G (rg 8) (by rw [c7 (by (rw [C6 (by omega), decide_eq_false (by omega)]; rfl))]; done) (by show _ = mR (rg 8) (i5 p d s c); unfold i5; rw [c7 (by (rw [C6 (by omega), decide_eq_false (by omega)]; rfl))] <;> rfl)
       · have q18 := bne_iff_ne.1 h18; refine z3 G (m5 (f6 4 [] (p6 s.target 0 ((p.arrays.length : Int) - 1)) m0) (fc h17 (fc (b := false) rfl (fc (b := true) rfl (fc h18 fz)))) (us [(7, 8, 0), (9, 12, 1), (13, 13, 0), (1013, 1013, 1), (1014, 1014, 0), (16, 18, 1), (19, 21, 2), (22, 22, 1), (1022, 1022, 2), (1023, 1023, 1), (25, 27, 3), (32, 32, 3), (1033, 1033, 3), (35, 37, 2), (42, 42, 2), (1043, 1043, 2)])) [(88, bA true)] [wO ((p.arrays.length : Int) - 1)] (o1 (by omega)) fun G => b5 (rT G true (by kernel_rfl) (wp_seq (d8 G c3 [] fun G => b5 (wp_ret (c8 ?_))))); exact l9 false G (rg 8) (by rw [c7 (by (rw [C6 (by omega), decide_eq_false (by omega)]; rfl))]; done) (by show _ = mR (rg 8) (i5 p d s c); unfold i5; rw [c7 (by (rw [C6 (by omega), decide_eq_false (by omega)]; rfl))] <;> rfl)
      · have q17 : (¬ (0 ≤ s.target)) ∨ (¬ (s.target ≤ (p.arrays.length : Int) - 1)) := (fun hq => Or.imp (fun hq => of_decide_eq_false hq) (fun hq => of_decide_eq_false hq) (bX3.1 hq)) (Eq.mp (bV2 _) h17); refine z3 G (m5 (f6 4 [] (p6 s.target 0 ((p.arrays.length : Int) - 1)) m0) (fc h17 (fc (b := true) rfl fz)) [(7, 0), (8, 0), (13, 0), (1014, 0), (16, 1), (17, 1), (18, 1), (22, 1), (1023, 1), (25, 1), (26, 1), (27, 1), (32, 1), (1033, 1), (35, 1), (36, 1), (37, 1), (42, 1), (1043, 1)]) [(88, bA true)] [wO ((p.arrays.length : Int) - 1)] (o1 (by omega)) fun G => b5 (rT G true (by kernel_rfl) (wp_seq (d8 G c3 [] fun G => b5 (wp_ret (c8 ?_))))); exact l9 false G (rg 8) (by rw [c7 (by (rw [C6 (by omega), decide_eq_false (by omega)]; rfl))]; done) (by show _ = mR (rg 8) (i5 p d s c); unfold i5; rw [c7 (by (rw [C6 (by omega), decide_eq_false (by omega)]; rfl))] <;> rfl)
    ·
     refine d8 G c3 [(9, iA (p.vars.length : Int))] fun G => j0 (b5 (wp_seq (wp_seq ?_))); cases h25 : (!(decide ((0 : Int) ≤ s.target) && decide (s.target ≤ (p.vars.length : Int) - 1)))
     ·
      have q25 : (0 ≤ s.target) ∧ (s.target ≤ (p.vars.length : Int) - 1) := (fun hq => And.imp (fun hq => of_decide_eq_true hq) (fun hq => of_decide_eq_true hq) (bX4.1 hq)) (Eq.mp (bV5 _) h25); cases h26 : (s.count != 0)
      ·
       have q26 := bne_eq_false_iff_eq.1 h26; cases h27 : (decide ((s.body.length : Int) > 0))
       ·
        have q27 := P3 h27; refine z3 G (m5 (f6 4 [] (p6 s.target 0 ((p.vars.length : Int) - 1)) m0) (fc h25 (fc (b := false) rfl (fc (b := true) rfl (fc h26 (fc h27 fz))))) (us [(7, 8, 0), (9, 12, 1), (13, 13, 0), (1013, 1013, 1), (1014, 1014, 0), (16, 18, 1), (19, 21, 2), (22, 22, 1), (1022, 1022, 2), (1023, 1023, 1), (25, 27, 3), (28, 31, 2), (32, 32, 3), (1032, 1032, 2), (1033, 1033, 3), (35, 37, 4), (38, 41, 2), (42, 42, 4), (1042, 1042, 2), (1043, 1043, 4)])) [(88, bA (decide ((s.els.length : Int) > 0)))] [wO ((p.vars.length : Int) - 1)] (o1 (by omega)) fun G => b5 (H2 G (fun h28 q28 => ?_) fun h28 q28 => ?_)
        ·
         refine wp_skip (b5 (wp_seq (wp_seq ?_))); cases h29 : (!noneB s.index)
         ·
          have q29 : (noneB s.index) = true := (Eq.mp (bV5 _) h29); cases h30 : (!f7 p.vars.length p.arrays.length s.value)
          ·
           have q30 : (f7 p.vars.length p.arrays.length s.value) = true := (Eq.mp (bV5 _) h30); refine d8 G (m5 (f6 20 [4] (A3 s.index) (f6 30 [0, 1, 2, 5] (J9 p s.value) m0)) (fc (b := false) rfl (fc (b := true) rfl (fc h29 (fc h30 fz)))) (us [(2, 7, 0), (12, 12, 0), (1013, 1013, 0), (15, 17, 0), (18, 21, 1), (22, 22, 0), (1022, 1022, 1), (1023, 1023, 0), (25, 26, 2), (27, 31, 1), (32, 32, 2), (1032, 1032, 1), (1033, 1033, 2), (35, 37, 3), (38, 41, 0), (42, 42, 3), (1042, 1042, 0), (1043, 1043, 3)])) [(132, bA false)] fun G => b5 (rF G false (by kernel_rfl) (wp_skip (b5 (wp_seq ?_)))); cases h31 : ((f5 p.vars.length p.arrays.length d (c + (1 : Nat)) s.body).fst)
           · refine L5 G (m5 (f6 6 [0, 1, 2, 3, 6] (ih s.body (c + 1) (n + 1) (by simp; omega) (by omega)) m0) (fc h31 fz) (us [(8, 14, 0), (1015, 1015, 0)])) (rg 8) (Q9 p (.box [iA ((ab8 p d s c).snd : Int)] :: (R0 s []))) [(8, bA false)] [wO (n + 1)] (o1 (by omega)) fun G => b5 (wp_ret ?_); exact l9 false G (rg 8) (by rw [v8 (by omega) (by (rw [s9 (by omega)]; exact K8 (by omega) (by assumption) (by assumption))) (by assumption)]; assumption) (by show _ = mR (rg 8) (i5 p d s c); unfold i5; rw [v8 (by omega) (by (rw [s9 (by omega)]; exact K8 (by omega) (by assumption) (by assumption))) (by assumption)] <;> rfl)
           · refine L5 G (m5 (f6 6 [0, 1, 2, 3, 6] (ih s.body (c + 1) (n + 1) (by simp; omega) (by omega)) (f6 14 [0, 1, 2, 3, 7] (ih s.els ((ab8 p d s c).snd) (n + 1) (G9 (by omega) (by assumption)) (by omega)) m0)) (fc h31 fz) (us [(8, 14, 0), (1015, 1015, 0)])) (rg 8) (Q9 p (.box [iA ((ab9 p d s c).snd : Int)] :: (R0 s []))) [(8, bA (ab9 p d s c).fst)] [wO (n + 1), wO (n + 1)] (o2 (by omega)) fun G => b5 (wp_ret ?_); exact l9 ((f5 p.vars.length p.arrays.length d (f5 p.vars.length p.arrays.length d (c + 1) s.body).snd s.els).fst) G (rg 8) (by rw [y6 (by omega) (by (rw [s9 (by omega)]; exact K8 (by omega) (by assumption) (by assumption))) (by assumption)]; done) (by show _ = mR (rg 8) (i5 p d s c); unfold i5; rw [y6 (by omega) (by (rw [s9 (by omega)]; exact K8 (by omega) (by assumption) (by assumption))) (by assumption)] <;> rfl)
          · have q30 : (f7 p.vars.length p.arrays.length s.value) = false := (Eq.mp (bV2 _) h30); refine d8 G (m5 (f6 20 [4] (A3 s.index) (f6 30 [0, 1, 2, 5] (J9 p s.value) m0)) (fc (b := false) rfl (fc (b := true) rfl (fc h29 (fc h30 fz)))) (us [(2, 7, 0), (12, 12, 0), (1013, 1013, 0), (15, 17, 0), (18, 21, 1), (22, 22, 0), (1022, 1022, 1), (1023, 1023, 0), (25, 26, 2), (27, 31, 1), (32, 32, 2), (1032, 1032, 1), (1033, 1033, 2), (35, 37, 3), (42, 42, 3), (1043, 1043, 3)])) [(132, bA true)] fun G => b5 (rT G true (by kernel_rfl) (wp_seq (d8 G c3 [] fun G => b5 (wp_ret (c8 ?_))))); exact l9 false G (rg 8) (by rw [c7 (by (rw [s9 (by omega)]; simp [h100, h0, q0, h1, q1, h2, q2, h25, q25, h26, q26, h27, q27, h28, q28, h29, q29, h30, q30]; done))]; done) (by show _ = mR (rg 8) (i5 p d s c); unfold i5; rw [c7 (by (rw [s9 (by omega)]; simp [h100, h0, q0, h1, q1, h2, q2, h25, q25, h26, q26, h27, q27, h28, q28, h29, q29, h30, q30]; done))] <;> rfl)
         · have q29 : (noneB s.index) = false := (Eq.mp (bV2 _) h29); refine d8 G (m5 (f6 20 [4] (A3 s.index) m0) (fc (b := false) rfl (fc (b := true) rfl (fc h29 fz))) (us [(2, 7, 0), (12, 12, 0), (1013, 1013, 0), (15, 17, 0), (18, 21, 1), (22, 22, 0), (1022, 1022, 1), (1023, 1023, 0), (25, 26, 2), (32, 32, 2), (1033, 1033, 2), (35, 37, 1), (42, 42, 1), (1043, 1043, 1)])) [(132, bA true)] fun G => b5 (rT G true (by kernel_rfl) (wp_seq (d8 G c3 [] fun G => b5 (wp_ret (c8 ?_))))); exact l9 false G (rg 8) (by rw [c7 (by (rw [s9 (by omega)]; simp [h100, h0, q0, h1, q1, h2, q2, h25, q25, h26, q26, h27, q27, h28, q28, h29, q29]; done))]; done) (by show _ = mR (rg 8) (i5 p d s c); unfold i5; rw [c7 (by (rw [s9 (by omega)]; simp [h100, h0, q0, h1, q1, h2, q2, h25, q25, h26, q26, h27, q27, h28, q28, h29, q29]; done))] <;> rfl)
        · refine wp_seq (d8 G c3 [] fun G => b5 (wp_ret (c8 ?_))); exact l9 false G (rg 8) (by rw [c7 (by (rw [s9 (by omega), decide_eq_false (by omega)]; rfl))]; done) (by show _ = mR (rg 8) (i5 p d s c); unfold i5; rw [c7 (by (rw [s9 (by omega), decide_eq_false (by omega)]; rfl))] <;> rfl)
       · have q27 := P2 h27; refine z3 G (m5 (f6 4 [] (p6 s.target 0 ((p.vars.length : Int) - 1)) m0) (fc h25 (fc (b := false) rfl (fc (b := true) rfl (fc h26 (fc h27 fz))))) (us [(7, 8, 0), (9, 12, 1), (13, 13, 0), (1013, 1013, 1), (1014, 1014, 0), (16, 18, 1), (19, 21, 2), (22, 22, 1), (1022, 1022, 2), (1023, 1023, 1), (25, 27, 3), (28, 31, 2), (32, 32, 3), (1032, 1032, 2), (1033, 1033, 3), (35, 37, 4), (42, 42, 4), (1043, 1043, 4)])) [(88, bA true)] [wO ((p.vars.length : Int) - 1)] (o1 (by omega)) fun G => b5 (rT G true (by kernel_rfl) (wp_seq (d8 G c3 [] fun G => b5 (wp_ret (c8 ?_))))); exact l9 false G (rg 8) (by rw [c7 (by (rw [s9 (by omega), decide_eq_false (by omega)]; rfl))]; done) (by show _ = mR (rg 8) (i5 p d s c); unfold i5; rw [c7 (by (rw [s9 (by omega), decide_eq_false (by omega)]; rfl))] <;> rfl)
      · have q26 := bne_iff_ne.1 h26; refine z3 G (m5 (f6 4 [] (p6 s.target 0 ((p.vars.length : Int) - 1)) m0) (fc h25 (fc (b := false) rfl (fc (b := true) rfl (fc h26 fz)))) (us [(7, 8, 0), (9, 12, 1), (13, 13, 0), (1013, 1013, 1), (1014, 1014, 0), (16, 18, 1), (19, 21, 2), (22, 22, 1), (1022, 1022, 2), (1023, 1023, 1), (25, 27, 3), (32, 32, 3), (1033, 1033, 3), (35, 37, 2), (42, 42, 2), (1043, 1043, 2)])) [(88, bA true)] [wO ((p.vars.length : Int) - 1)] (o1 (by omega)) fun G => b5 (rT G true (by kernel_rfl) (wp_seq (d8 G c3 [] fun G => b5 (wp_ret (c8 ?_))))); exact l9 false G (rg 8) (by rw [c7 (by (rw [s9 (by omega), decide_eq_false (by omega)]; rfl))]; done) (by show _ = mR (rg 8) (i5 p d s c); unfold i5; rw [c7 (by (rw [s9 (by omega), decide_eq_false (by omega)]; rfl))] <;> rfl)
     · have q25 : (¬ (0 ≤ s.target)) ∨ (¬ (s.target ≤ (p.vars.length : Int) - 1)) := (fun hq => Or.imp (fun hq => of_decide_eq_false hq) (fun hq => of_decide_eq_false hq) (bX3.1 hq)) (Eq.mp (bV2 _) h25); refine z3 G (m5 (f6 4 [] (p6 s.target 0 ((p.vars.length : Int) - 1)) m0) (fc h25 (fc (b := true) rfl fz)) [(7, 0), (8, 0), (13, 0), (1014, 0), (16, 1), (17, 1), (18, 1), (22, 1), (1023, 1), (25, 1), (26, 1), (27, 1), (32, 1), (1033, 1), (35, 1), (36, 1), (37, 1), (42, 1), (1043, 1)]) [(88, bA true)] [wO ((p.vars.length : Int) - 1)] (o1 (by omega)) fun G => b5 (rT G true (by kernel_rfl) (wp_seq (d8 G c3 [] fun G => b5 (wp_ret (c8 ?_))))); exact l9 false G (rg 8) (by rw [c7 (by (rw [s9 (by omega), decide_eq_false (by omega)]; rfl))]; done) (by show _ = mR (rg 8) (i5 p d s c); unfold i5; rw [c7 (by (rw [s9 (by omega), decide_eq_false (by omega)]; rfl))] <;> rfl)
   ·
    refine wp_skip (b5 (rT G _ h1 (d8 G c3 [(9, iA (p.vars.length : Int))] fun G => j0 (b5 (wp_seq (wp_seq ?_)))))); cases h32 : (!(decide ((0 : Int) ≤ s.target) && decide (s.target ≤ (p.vars.length : Int) - 1)))
    ·
     have q32 : (0 ≤ s.target) ∧ (s.target ≤ (p.vars.length : Int) - 1) := (fun hq => And.imp (fun hq => of_decide_eq_true hq) (fun hq => of_decide_eq_true hq) (bX4.1 hq)) (Eq.mp (bV5 _) h32); cases h33 : (s.count != 0)
     ·
      have q33 := bne_eq_false_iff_eq.1 h33; cases h34 : (decide ((s.body.length : Int) > 0))
      ·
       have q34 := P3 h34; refine z3 G (m5 (f6 4 [] (p6 s.target 0 ((p.vars.length : Int) - 1)) m0) (fc h32 (fc (b := false) rfl (fc (b := true) rfl (fc h33 (fc h34 fz))))) (us [(7, 8, 0), (9, 12, 1), (13, 13, 0), (1013, 1013, 1), (1014, 1014, 0), (16, 18, 1), (19, 21, 2), (22, 22, 1), (1022, 1022, 2), (1023, 1023, 1), (25, 27, 3), (28, 31, 2), (32, 32, 3), (1032, 1032, 2), (1033, 1033, 3), (35, 37, 4), (38, 41, 2), (42, 42, 4), (1042, 1042, 2), (1043, 1043, 4)])) [(88, bA (decide ((s.els.length : Int) > 0)))] [wO ((p.vars.length : Int) - 1)] (o1 (by omega)) fun G => b5 (H2 G (fun h35 q35 => ?_) fun h35 q35 => ?_)
       ·
        refine wp_skip (b5 (wp_seq (wp_seq ?_))); cases h36 : (!noneB s.index)
        ·
         have q36 : (noneB s.index) = true := (Eq.mp (bV5 _) h36); cases h37 : (!f7 p.vars.length p.arrays.length s.value)
         ·
          have q37 : (f7 p.vars.length p.arrays.length s.value) = true := (Eq.mp (bV5 _) h37); refine d8 G (m5 (f6 20 [4] (A3 s.index) (f6 30 [0, 1, 2, 5] (J9 p s.value) m0)) (fc (b := false) rfl (fc (b := true) rfl (fc h36 (fc h37 fz)))) (us [(2, 7, 0), (12, 12, 0), (1013, 1013, 0), (15, 17, 0), (18, 21, 1), (22, 22, 0), (1022, 1022, 1), (1023, 1023, 0), (25, 26, 2), (27, 31, 1), (32, 32, 2), (1032, 1032, 1), (1033, 1033, 2), (35, 37, 3), (38, 41, 0), (42, 42, 3), (1042, 1042, 0), (1043, 1043, 3)])) [(132, bA false)] fun G => b5 (rF G false (by kernel_rfl) (wp_skip (b5 (wp_seq ?_)))); cases h38 : ((f5 p.vars.length p.arrays.length d (c + (1 : Nat)) s.body).fst)
          · refine L5 G (m5 (f6 6 [0, 1, 2, 3, 6] (ih s.body (c + 1) (n + 1) (by simp; omega) (by omega)) m0) (fc h38 fz) (us [(8, 14, 0), (1015, 1015, 0)])) (rg 8) (Q9 p (.box [iA ((ab8 p d s c).snd : Int)] :: (R0 s []))) [(8, bA false)] [wO (n + 1)] (o1 (by omega)) fun G => b5 (wp_ret ?_); exact l9 false G (rg 8) (by rw [v8 (by omega) (by (rw [s9 (by omega)]; exact K8 (by omega) (by assumption) (by assumption))) (by assumption)]; assumption) (by show _ = mR (rg 8) (i5 p d s c); unfold i5; rw [v8 (by omega) (by (rw [s9 (by omega)]; exact K8 (by omega) (by assumption) (by assumption))) (by assumption)] <;> rfl)
          · refine L5 G (m5 (f6 6 [0, 1, 2, 3, 6] (ih s.body (c + 1) (n + 1) (by simp; omega) (by omega)) (f6 14 [0, 1, 2, 3, 7] (ih s.els ((ab8 p d s c).snd) (n + 1) (G9 (by omega) (by assumption)) (by omega)) m0)) (fc h38 fz) (us [(8, 14, 0), (1015, 1015, 0)])) (rg 8) (Q9 p (.box [iA ((ab9 p d s c).snd : Int)] :: (R0 s []))) [(8, bA (ab9 p d s c).fst)] [wO (n + 1), wO (n + 1)] (o2 (by omega)) fun G => b5 (wp_ret ?_); exact l9 ((f5 p.vars.length p.arrays.length d (f5 p.vars.length p.arrays.length d (c + 1) s.body).snd s.els).fst) G (rg 8) (by rw [y6 (by omega) (by (rw [s9 (by omega)]; exact K8 (by omega) (by assumption) (by assumption))) (by assumption)]; done) (by show _ = mR (rg 8) (i5 p d s c); unfold i5; rw [y6 (by omega) (by (rw [s9 (by omega)]; exact K8 (by omega) (by assumption) (by assumption))) (by assumption)] <;> rfl)
         · have q37 : (f7 p.vars.length p.arrays.length s.value) = false := (Eq.mp (bV2 _) h37); refine d8 G (m5 (f6 20 [4] (A3 s.index) (f6 30 [0, 1, 2, 5] (J9 p s.value) m0)) (fc (b := false) rfl (fc (b := true) rfl (fc h36 (fc h37 fz)))) (us [(2, 7, 0), (12, 12, 0), (1013, 1013, 0), (15, 17, 0), (18, 21, 1), (22, 22, 0), (1022, 1022, 1), (1023, 1023, 0), (25, 26, 2), (27, 31, 1), (32, 32, 2), (1032, 1032, 1), (1033, 1033, 2), (35, 37, 3), (42, 42, 3), (1043, 1043, 3)])) [(132, bA true)] fun G => b5 (rT G true (by kernel_rfl) (wp_seq (d8 G c3 [] fun G => b5 (wp_ret (c8 ?_))))); exact l9 false G (rg 8) (by rw [c7 (by (rw [s9 (by omega)]; simp [h100, h0, q0, h1, q1, h32, q32, h33, q33, h34, q34, h35, q35, h36, q36, h37, q37]; done))]; done) (by show _ = mR (rg 8) (i5 p d s c); unfold i5; rw [c7 (by (rw [s9 (by omega)]; simp [h100, h0, q0, h1, q1, h32, q32, h33, q33, h34, q34, h35, q35, h36, q36, h37, q37]; done))] <;> rfl)
        · have q36 : (noneB s.index) = false := (Eq.mp (bV2 _) h36); refine d8 G (m5 (f6 20 [4] (A3 s.index) m0) (fc (b := false) rfl (fc (b := true) rfl (fc h36 fz))) (us [(2, 7, 0), (12, 12, 0), (1013, 1013, 0), (15, 17, 0), (18, 21, 1), (22, 22, 0), (1022, 1022, 1), (1023, 1023, 0), (25, 26, 2), (32, 32, 2), (1033, 1033, 2), (35, 37, 1), (42, 42, 1), (1043, 1043, 1)])) [(132, bA true)] fun G => b5 (rT G true (by kernel_rfl) (wp_seq (d8 G c3 [] fun G => b5 (wp_ret (c8 ?_))))); exact l9 false G (rg 8) (by rw [c7 (by (rw [s9 (by omega)]; simp [h100, h0, q0, h1, q1, h32, q32, h33, q33, h34, q34, h35, q35, h36, q36]; done))]; done) (by show _ = mR (rg 8) (i5 p d s c); unfold i5; rw [c7 (by (rw [s9 (by omega)]; simp [h100, h0, q0, h1, q1, h32, q32, h33, q33, h34, q34, h35, q35, h36, q36]; done))] <;> rfl)
       · refine wp_seq (d8 G c3 [] fun G => b5 (wp_ret (c8 ?_))); exact l9 false G (rg 8) (by rw [c7 (by (rw [s9 (by omega), decide_eq_false (by omega)]; rfl))]; done) (by show _ = mR (rg 8) (i5 p d s c); unfold i5; rw [c7 (by (rw [s9 (by omega), decide_eq_false (by omega)]; rfl))] <;> rfl)
      · have q34 := P2 h34; refine z3 G (m5 (f6 4 [] (p6 s.target 0 ((p.vars.length : Int) - 1)) m0) (fc h32 (fc (b := false) rfl (fc (b := true) rfl (fc h33 (fc h34 fz))))) (us [(7, 8, 0), (9, 12, 1), (13, 13, 0), (1013, 1013, 1), (1014, 1014, 0), (16, 18, 1), (19, 21, 2), (22, 22, 1), (1022, 1022, 2), (1023, 1023, 1), (25, 27, 3), (28, 31, 2), (32, 32, 3), (1032, 1032, 2), (1033, 1033, 3), (35, 37, 4), (42, 42, 4), (1043, 1043, 4)])) [(88, bA true)] [wO ((p.vars.length : Int) - 1)] (o1 (by omega)) fun G => b5 (rT G true (by kernel_rfl) (wp_seq (d8 G c3 [] fun G => b5 (wp_ret (c8 ?_))))); exact l9 false G (rg 8) (by rw [c7 (by (rw [s9 (by omega), decide_eq_false (by omega)]; rfl))]; done) (by show _ = mR (rg 8) (i5 p d s c); unfold i5; rw [c7 (by (rw [s9 (by omega), decide_eq_false (by omega)]; rfl))] <;> rfl)
     · have q33 := bne_iff_ne.1 h33; refine z3 G (m5 (f6 4 [] (p6 s.target 0 ((p.vars.length : Int) - 1)) m0) (fc h32 (fc (b := false) rfl (fc (b := true) rfl (fc h33 fz)))) (us [(7, 8, 0), (9, 12, 1), (13, 13, 0), (1013, 1013, 1), (1014, 1014, 0), (16, 18, 1), (19, 21, 2), (22, 22, 1), (1022, 1022, 2), (1023, 1023, 1), (25, 27, 3), (32, 32, 3), (1033, 1033, 3), (35, 37, 2), (42, 42, 2), (1043, 1043, 2)])) [(88, bA true)] [wO ((p.vars.length : Int) - 1)] (o1 (by omega)) fun G => b5 (rT G true (by kernel_rfl) (wp_seq (d8 G c3 [] fun G => b5 (wp_ret (c8 ?_))))); exact l9 false G (rg 8) (by rw [c7 (by (rw [s9 (by omega), decide_eq_false (by omega)]; rfl))]; done) (by show _ = mR (rg 8) (i5 p d s c); unfold i5; rw [c7 (by (rw [s9 (by omega), decide_eq_false (by omega)]; rfl))] <;> rfl)
    · have q32 : (¬ (0 ≤ s.target)) ∨ (¬ (s.target ≤ (p.vars.length : Int) - 1)) := (fun hq => Or.imp (fun hq => of_decide_eq_false hq) (fun hq => of_decide_eq_false hq) (bX3.1 hq)) (Eq.mp (bV2 _) h32); refine z3 G (m5 (f6 4 [] (p6 s.target 0 ((p.vars.length : Int) - 1)) m0) (fc h32 (fc (b := true) rfl fz)) [(7, 0), (8, 0), (13, 0), (1014, 0), (16, 1), (17, 1), (18, 1), (22, 1), (1023, 1), (25, 1), (26, 1), (27, 1), (32, 1), (1033, 1), (35, 1), (36, 1), (37, 1), (42, 1), (1043, 1)]) [(88, bA true)] [wO ((p.vars.length : Int) - 1)] (o1 (by omega)) fun G => b5 (rT G true (by kernel_rfl) (wp_seq (d8 G c3 [] fun G => b5 (wp_ret (c8 ?_))))); exact l9 false G (rg 8) (by rw [c7 (by (rw [s9 (by omega), decide_eq_false (by omega)]; rfl))]; done) (by show _ = mR (rg 8) (i5 p d s c); unfold i5; rw [c7 (by (rw [s9 (by omega), decide_eq_false (by omega)]; rfl))] <;> rfl)
  · have q0 := P2 h0; refine d8 G (z4 (fc h0 fz) [(5, 0), (6, 0), (1007, 0)]) [(27, bA true)] fun G => b5 (rT G true (by kernel_rfl) (wp_seq (d8 G c3 [] fun G => b5 (wp_ret (c8 ?_))))); exact l9 false G (rg 8) (by simp [ae0 (d := d + 1) (s := s) (show 60 < c + 1 by omega)]; done) (by show _ = mR (rg 8) (i5 p d s c); unfold i5; have e1 : (((n8 p.vars.length p.arrays.length (d + 1) c s).snd : Int) : Int) = ((c : Int) + 1) := (by simp [ae0 (d := d + 1) (s := s) (show 60 < c + 1 by omega)]; done); (first | rw [e1] | simp only [e1]) <;> rfl)
theorem bl0 (p : b8) : ∀ (d : Nat), d ≤ 5 → ∀ (ss : List b6) (c : Nat) (n : Int), c ≤ 60 → n = 6 - (d : Int) → d9.ok Tryz.prog (aT1 p d c ss n) := by
 intro d
 induction d with
 | zero => intro hd ss c n hc hn; exact aQ1 p 0 hd (fun s c n hc hn => bt4 p s c hc n (by omega)) ss c n hc hn
 | succ d ih => intro hd ss c n hc hn; exact aQ1 p (d + 1) hd (fun s c n hc hn => bt3 p d (by omega) (ih (by omega)) s c n hc (by omega)) ss c n hc hn
theorem aQ2 (p : b8) (n : Int) (hn : n = 1) : d9.ok Tryz.prog ⟨42, [pA 0, .ref 2, iA n, .ptr 3 0], pS p ++ [.box [iA 0]], pS p ++ [.box [iA (f5 p.vars.length p.arrays.length 5 0 p.body).2]], bA (f5 p.vars.length p.arrays.length 5 0 p.body).1⟩ :=
 d9.dup (S := pS p ++ [.box [iA 0]]) (S' := pS p ++ [.box [iA (f5 p.vars.length p.arrays.length 5 0 p.body).2]]) (d := .stmts p.body) (i := 2) (bl0 p 5 (by omega) p.body 0 n (by omega) (by omega)) rfl rfl rfl (fun ρ h => by simp only [AV.vals, AV.val]; rw [show ρ 4 = ρ 2 from h]) rfl
theorem n6 (p : b8) : d9.ok Tryz.prog (C0 27 [pA 0] (pS p) (bA (e6 p))) := by
 refine t8 15 Tryz.func27 [dI p.vars, dI p.arrays, dT p.body] [(0, pA 0)] fun G => ?_; refine wp_seq (e5 G c3 (rg 4) [dI p.vars, dI p.arrays, dT p.body, .box (pL 0)] [(1, .ptr 3 0), (2, bA false)] fun G => b5 (wp_seq (e5 G c3 (rg 5) [dI p.vars, dI p.arrays, dT p.body, .box (pL 0), .box [iA 0]] [(1, .ptr 3 0), (2, bA false), (3, .ptr 4 0)] fun G => b5 (wp_seq ?_)))); cases h0 : (y9 p.vars p.arrays)
 ·refine e5 G (m5 (f6 4 [0, 1] (ax3 p.vars p.arrays) m0) (fc h0 fz) (us [(6, 9, 0), (1010, 1010, 0)])) [0, 1, 2] [dI p.vars, dI p.arrays, dT p.body] [(2, bA false)] fun G => b5 (wp_ret ?_); exact l9 false G [0, 1, 2] (an3 (by assumption))
 ·refine e5 G (m5 (f6 4 [0, 1] (ax3 p.vars p.arrays) (f6 9 [0, 1, 2, 4] (aQ2 p 1 (by kernel_rfl)) m0)) (fc h0 fz) (us [(6, 9, 0), (1010, 1010, 0)])) [0, 1, 2] [dI p.vars, dI p.arrays, dT p.body] [(2, bA (f5 p.vars.length p.arrays.length 5 0 p.body).fst)] fun G => b5 (wp_ret ?_); exact l9 ((f5 p.vars.length p.arrays.length 5 0 p.body).fst) G [0, 1, 2] (by rw [← aL3 (p := p) (by assumption)])
end Go.Proofs.YtgmhmijcnlfmfaaGreat
